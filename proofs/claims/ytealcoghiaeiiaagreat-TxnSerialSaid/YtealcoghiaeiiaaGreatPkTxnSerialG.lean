/- Texts by which the law's calls are walked (part 7): rules, printed conditions, contracts; no condition. -/
import Derived.TacticsIn
import Derived.TacticsInMore
import Derived.Deep.LoopGhost
import Derived.Sort.QuietThIn
import Derived.RangeFuncCalls
import Derived.RangeFuncNested
import Derived.RangeFuncLeaves
import Derived.WalkKit
import Derived.StillTail
import Derived.Test.YtealcoghiaeiiaaGreatProg
import Derived.KernelRfl
import Derived.Deep.WholeRow
import Derived.Laws.StructEq
import Derived.MapFrom
import Derived.Laws.CopyRow
import Derived.Maps.RangeRun
import Derived.Sort.Walk0
import Derived.RangeFuncBound
import Derived.Test.YtealcoghiaeiiaaGreatPkTxnSerialF
open Go.Proofs.Tryz renaming prog → zA
open Go.IntKind renaming wrap → zC
open Go.Value renaming pointer → zB, int → zV, string → zZ, bool → xv
open Go.Instr renaming loadAt → zD, storeAt → zK, indexAt → zF, fieldAt → zN, alloc → zf, build → yr, buildSlice → ze
open Nat renaming le_refl → zU, le_trans → zn, lt_of_lt_of_le → yF
open List renaming length_append → zg
set_option linter.unusedVariables false
set_option linter.unusedSimpArgs false
namespace Go.Proofs.YtealcoghiaeiiaaGreat.VG
open Go.VB Go.Proofs
def zDc (x9:Option Addr) (x60:Int) (Kl4:Int->World->Prop) (x12:Option Addr) (w:World):Prop:=
 opE zA zB (zN 69 (.pointer x9) 0) w (λx75 w=>opE zA Sl.v (zD 67 (.pointer x75)) w (λx76 w=>opE zA zG.v (zD 72 (.pointer x12)) w (λx77 w=>opE zA Sl.v (ze 67 1 [(0,(zG.v x77))].toArray) w (λx78 w=>opE zA Sl.v (Builtin.append_ #[67,67] 67 [(Sl.v x76),(Sl.v x78)].toArray) w (λx79 w=>opE zA zB (zN 69 (.pointer x9) 0) w (λx80 w=>opU zA (zK 67 (.pointer x80) (Sl.v x79)) w (λw=>Kl4 (zC .i64 (x60+1)) w)))))))
def zFz (x1:Sl) (Ret:zQ->Int->World->Prop) (x5:Option Addr) (x6:Option Addr) (x9:Option Addr) (x60:Int) (w:World) (Kl4:Int->World->Prop):Prop:=
 ((x60<(x1.len:Int))->(opE zA zB (zF 30 (Sl.v x1) (.int .i64 x60)) w (λx62 w=>opE zA zJ.v (zD 34 (.pointer x62)) w (λx63 w=>opE zA zB (zf 34 true (.tuple #[])) w (λx11 w=>opU zA (zK 34 (.pointer x11) (zJ.v x63)) w (λw=>opE zA zB (zN 34 (.pointer x11) 0) w (λx64 w=>opE zA zZ (zD 9 (.pointer x64)) w (λx65 w=>opE zA (zV .u64) (zD 37 (.pointer x5)) w (λx66 w=>opE zA zB (zN 34 (.pointer x11) 1) w (λx67 w=>opE zA zZ (zD 9 (.pointer x67)) w (λx68 w=>opE zA zB (zN 34 (.pointer x11) 2) w (λx69 w=>opE zA xv (zD 4 (.pointer x69)) w (λx70 w=>opE zA zG.v (yr 72 [(0,(.string x65)),(1,(.int .u64 x66)),(2,(.string x68)),(3,(.bool x70))].toArray) w (λx71 w=>opE zA zB (zf 72 true (.tuple #[])) w (λx12 w=>opU zA (zK 72 (.pointer x12) (zG.v x71)) w (λw=>opE zA zB (zN 34 (.pointer x11) 2) w (λx72 w=>opE zA xv (zD 4 (.pointer x72)) w (λx73 w=>(x73=true->(opE zA zB (zN 72 (.pointer x12) 2) w (λx74 w=>opU zA (zK 9 (.pointer x74) (.string (ByteArray.mk #[]))) w (λw=>zDc x9 x60 Kl4 x12 w))))/\(x73=false->(zDc x9 x60 Kl4 x12 w))))))))))))))))))))/\(¬ (x60<(x1.len:Int))->(opE zA zB (zN 69 (.pointer x9) 0) w (λx82 w=>opE zA Sl.v (zD 67 (.pointer x82)) w (λx83 w=>Cl zA 67 [(Sl.v x83),(.func (.func 68) #[] #[])].toArray w (λe w=>e=.returned (.tuple [].toArray)/\(opE zA zQ.v (zD 69 (.pointer x9)) w (λx85 w=>opU zA (zK 69 (.pointer x6) (zQ.v x85)) w (λw=>opR zA zQ.v 69 x6 w (λq_1=>Ret q_1 0 w)))))))))
def zDd (x1:Sl) (Ret:zQ->Int->World->Prop) (x5:Option Addr) (x6:Option Addr) (x9:Option Addr) (w:World):Prop:=
 ∃ (I:Int->World->Prop) (μ:Int->World->Nat),I 0 w/\∀ (x60:Int) w,I x60 w->zFz x1 Ret x5 x6 x9 x60 w (λx60' w'=>I x60' w'/\μ x60' w'<μ x60 w)
def zBj (x1:Sl) (Ret:zQ->Int->World->Prop) (x3:Option Addr) (x5:Option Addr) (x6:Option Addr) (x8_1:Int) (w:World):Prop:=
 ((x8_1≠0)->(opE zA zQ.v (yr 69 [].toArray) w (λx50 w=>opU zA (zK 69 (.pointer x6) (zQ.v x50)) w (λw=>opR zA zQ.v 69 x6 w (λq=>Ret q x8_1 w)))))/\(¬ (x8_1≠0)->(regC w (λC6 w=>opC C6 zA zB (zN 69 (.pointer x3) 0) (λx52=>opC C6 zA zB (zN 69 (.pointer x3) 1) (λx55=>opC C6 zA Sl.v (zD 67 (.pointer x52)) (λx53=>opC C6 zA (zV .u64) (zD 37 (.pointer x55)) (λx56=>(Cl zA 52 [(Sl.v x53)].toArray w (λe w=>∃ (r_1:Sl),e=.returned (Sl.v r_1)/\(C6 w/\(opC C6 zA zQ.v (yr 69 [(0,(Sl.v r_1)),(1,(.int .u64 x56))].toArray) (λx57=>opE zA zB (zf 69 true (.tuple #[])) w (λx9_1 w=>C6 w/\(opU zA (zK 69 (.pointer x9_1) (zQ.v x57)) w (λw=>C6 w/\(zDd x1 Ret x5 x6 x9_1 w)))))))))/\(opE zA zB (zf 69 true (.tuple #[])) w (λx9_2 w=>C6 w/\(Cl zA 52 [(Sl.v x53)].toArray w (λe w=>∃ (r_2:Sl),e=.returned (Sl.v r_2)/\(C6 w/\(opC C6 zA zQ.v (yr 69 [(0,(Sl.v r_2)),(1,(.int .u64 x56))].toArray) (λx57_1=>opU zA (zK 69 (.pointer x9_2) (zQ.v x57_1)) w (λw=>C6 w/\(zDd x1 Ret x5 x6 x9_2 w))))))))))))))))
def zDb (x1:Sl) (Ret:zQ->Int->World->Prop) (x3:Option Addr) (x5:Option Addr) (x6:Option Addr) (x8:Int) (x39:Bool) (w:World):Prop:=
 (x39=true->(zBj x1 Ret x3 x5 x6 9 w))/\(x39=false->(opE zA zB (zN 69 (.pointer x3) 0) w (λx41 w=>opE zA Sl.v (zD 67 (.pointer x41)) w (λx42 w=>((4096<(zC .i64 ((x42.len:Int)+(x1.len:Int))))->(zBj x1 Ret x3 x5 x6 3 w))/\(¬ (4096<(zC .i64 ((x42.len:Int)+(x1.len:Int))))->(zBj x1 Ret x3 x5 x6 x8 w))))))
def zDa (x1:Sl) (Ret:zQ->Int->World->Prop) (x3:Option Addr) (x5:Option Addr) (x6:Option Addr) (x8:Int) (x28:Bool) (w:World):Prop:=
 (x28=true->(zBj x1 Ret x3 x5 x6 2 w))/\(x28=false->(opE zA (zV .u64) (zD 37 (.pointer x5)) w (λx30 w=>opE zA zB (zN 69 (.pointer x3) 1) w (λx31 w=>opE zA (zV .u64) (zD 37 (.pointer x31)) w (λx32 w=>((x30<x32)->(zDb x1 Ret x3 x5 x6 x8 true w))/\(¬ (x30<x32)->(opE zA zB (zN 69 (.pointer x3) 0) w (λx35 w=>opE zA Sl.v (zD 67 (.pointer x35)) w (λx36 w=>Cl zA 57 [(Sl.v x36),(.func (.func 66) [].toArray [(.pointer x5)].toArray)].toArray w (λe w=>∃ (r_3:Bool),e=.returned (.bool r_3)/\(zDb x1 Ret x3 x5 x6 x8 r_3 w)))))))))))
def zDY (x1:Sl) (Ret:zQ->Int->World->Prop) (x3:Option Addr) (x5:Option Addr) (x6:Option Addr) (x8:Int) (w:World):Prop:=
 ((x8≠0)->(zBj x1 Ret x3 x5 x6 x8 w))/\(¬ (x8≠0)->(opE zA (zV .u64) (zD 37 (.pointer x5)) w (λx23 w=>((x23<1)->(zDa x1 Ret x3 x5 x6 x8 true w))/\(¬ (x23<1)->(opE zA (zV .u64) (zD 37 (.pointer x5)) w (λx26 w=>zDa x1 Ret x3 x5 x6 x8 (decide (2305843009213693952<x26)) w))))))
def zJp (x0:zQ) (x1:Sl) (x2:Int) (w:World) (Ret:zQ->Int->World->Prop):Prop:=
 opE zA zB (Instr.box 69 (zQ.v x0)) w (λx3 w=>opE zA zB (Instr.box 37 (.int .u64 x2)) w (λx5 w=>opE zA zB (zf 69 true (.tuple #[])) w (λx6 w=>opE zA zQ.v (zD 69 (.pointer x3)) w (λx13 w=>Cl zA 64 [(zQ.v x13)].toArray w (λe w=>∃ (r:Int),e=.returned (.int .i64 r)/\(((r=0)->(Cl zA 65 [(Sl.v x1)].toArray w (λe w=>∃ (r_4:Int),e=.returned (.int .i64 r_4)/\(zDY x1 Ret x3 x5 x6 r_4 w))))/\(¬ (r=0)->(zDY x1 Ret x3 x5 x6 r w))))))))
set_option maxRecDepth 100000 in
theorem zM7 (x0:zQ) (x1:Sl) (x2:Int) (w:World) (Ret:zQ->Int->World->Prop) (H:zJp x0 x1 x2 w Ret):Cl zA 40 [(zQ.v x0),(Sl.v x1),(.int .u64 x2)].toArray w (λe w'=>∃ (r0:zQ) (r1:Int),e=.returned (.tuple [(zQ.v r0),(.int .i64 r1)].toArray)/\Ret r0 r1 w'):=by
 unfold zJp at H
 refine zp 86 (zipE 0 [(zQ.v x0),(Sl.v x1),(.int .u64 x2)]) Tryz.func40 rfl rfl (by rfl) rfl ?_
 intro a g
 have g:Sat [] 86 [(0,(zQ.v x0)),(1,(Sl.v x1)),(2,(.int .u64 x2))] a:=g
 refine zI (zE (g.o (zBc g rfl) H λx3 w a H g=>g.o (zBc g rfl) H λx5 w a H g=>g.o (xY) H λx6 w a H g=>g.s rfl λ_ g=>zL (tn (zI (zE (g.o (zO g rfl) H λx13 w a H g=>g.c (zb g zQw rfl rfl) H λe w H=>?_))))))
 obtain ⟨r,rfl,H⟩:=H
 refine ⟨_,rfl,λ_ g=>(g.s rfl λ_ g=>zL (tn (z8 (ds:=[]) (N:=86) (σ:=Int) (λs=>[(8,(.int .i64 s)),(1,(Sl.v x1)),(3,(.pointer x3)),(5,(.pointer x5)),(6,(.pointer x6))]) (λs w=>zDY x1 Ret x3 x5 x6 s w) ?_ (λhj1=>?_))))⟩
 ·intro x8 w a H g
  try dsimp only at H g
  unfold zDY at H
  refine z8 (ds:=[]) (N:=86) (σ:=Int) (λs=>[(8,(.int .i64 s)),(1,(Sl.v x1)),(3,(.pointer x3)),(5,(.pointer x5)),(6,(.pointer x6))]) (λs w=>zBj x1 Ret x3 x5 x6 s w) ?_ (λhj2=>?_)
  ·intro x8_1 w a H g
   try dsimp only at H g
   unfold zBj at H
   refine zI (zI (zE (g.m rfl λ_ g=>g.p (zFc g rfl rfl) λ_ g=>zL (tn (zd g rfl (λhc=>?_) (λhc=>?_))))))
   ·have H:=H.1 hc
    refine zI (zE (g.o (Z5 g rfl) H λx50 w a H g=>g.m rfl λ_ g=>g.h (zT g rfl rfl) H λw a H g=>g.s rfl λ_ g=>zL (tn ?_)))
    obtain ⟨q,ad,hp,hl,H⟩:=H
    exact zl (tr (zLA g (rs:=[.cell 6 69,.tmp 7]) (vs:=[(zQ.v q),(.int .i64 x8_1)]) rfl ⟨⟨ad,by rw [← hp];rfl,hl⟩,rfl,trivial⟩ ⟨_,_,rfl,H⟩))
   ·have H:=H.2 hc
    refine zY (tn (z8 (ds:=[]) (N:=86) (σ:=(Option Addr)) (λs=>[(9,(.pointer s)),(1,(Sl.v x1)),(5,(.pointer x5)),(6,(.pointer x6))]) (λs w=>zDd x1 Ret x5 x6 s w) ?_ (λhj3=>?_)))
    ·intro x9 w a H g
     try dsimp only at H g
     unfold zDd at H
     refine zI (zI (zE (g.m rfl λ_ g=>g.purR (λw=>ZU g Tryz.underlying30 rfl) λ_ g=>g.m rfl λ_ g=>zL (tn (zX ?_)))))
     obtain ⟨I_l4,μ_l4,h0,hb⟩:=H
     refine yE (ds:=[]) (N:=86) (σ:=Int) (λs=>[(60,(.int .i64 s)),(5,(.pointer x5)),(6,(.pointer x6)),(9,(.pointer x9)),(58,(Sl.v x1)),(59,(.int .i64 (x1.len:Int)))]) (λs w=>I_l4 s w) (λs w=>μ_l4 s w) 0 h0 (g.k) ?_
     intro x60 w a hI g
     try dsimp only at hI g
     obtain ⟨Kl4,hK_l4⟩:∃ K:Int->World->Prop,K=(λx60' w'=>I_l4 x60' w'/\μ_l4 x60' w'<μ_l4 x60 w):=⟨_,rfl⟩
     have H:zFz x1 Ret x5 x6 x9 x60 w Kl4:=by rw [hK_l4];exact hb x60 w hI
     clear hb h0 hI
     unfold zFz at H
     refine zI (zE (g.p (yR g rfl rfl) λ_ g=>zL (tn (zI (zd g rfl (λhc=>?_) (λhc=>?_))))))
     ·have H:=H.1 hc
      refine zY (tn (zI (zX (zI (zE (g.o (zH g rfl rfl) H λx62 w a H g=>g.o (zO g rfl) H λx63 w a H g=>g.o (xY) H λx11 w a H g=>g.h (zT g rfl rfl) H λw a H g=>zL (tn (zI (zE (g.o (zP g rfl) H λx64 w a H g=>g.o (zO g rfl) H λx65 w a H g=>g.o (zO g rfl) H λx66 w a H g=>g.o (zP g rfl) H λx67 w a H g=>g.o (zO g rfl) H λx68 w a H g=>g.o (zP g rfl) H λx69 w a H g=>g.o (zO g rfl) H λx70 w a H g=>g.o (Z5 g rfl) H λx71 w a H g=>g.o (xY) H λx12 w a H g=>g.h (zT g rfl rfl) H λw a H g=>zL (tn (z8 (ds:=[]) (N:=86) (σ:=Unit) (λs=>[(5,(.pointer x5)),(6,(.pointer x6)),(9,(.pointer x9)),(12,(.pointer x12)),(58,(Sl.v x1)),(59,(.int .i64 (x1.len:Int))),(60,(.int .i64 x60))]) (λs w=>zDc x9 x60 Kl4 x12 w) ?_ (λhj5=>?_)))))))))))))
      ·rintro ⟨⟩ w a H g
       try dsimp only at H g
       unfold zDc at H
       refine zE (g.o (zP g rfl) H λx75 w a H g=>g.o (zO g rfl) H λx76 w a H g=>g.o (zO g rfl) H λx77 w a H g=>g.o (yj g rfl) H λx78 w a H g=>g.o (zA6 g rfl) H λx79 w a H g=>g.o (zP g rfl) H λx80 w a H g=>g.h (zT g rfl rfl) H λw a H g=>zL (bn (tn (zE (g.p (zr g rfl rfl) λ_ g=>g.m rfl λ_ g=>?_)))))
       rw [hK_l4] at H
       exact zL (tn ⟨(zC .i64 (x60+1)),g.k,H⟩)
      ·refine zI (zE (g.o (zP g rfl) H λx72 w a H g=>g.o (zO g rfl) H λx73 w a H g=>zL (tn (zk g rfl (λhc=>?_) (λhc=>?_)))))
       ·have H:=H.1 hc
        exact zE (g.o (zP g rfl) H λx74 w a H g=>g.h (zT g rfl rfl) H λw a H g=>zL (tn (hj5 () _ _ H (g.k))))
       ·have H:=H.2 hc
        exact zY (tn (hj5 () _ _ H (g.k)))
     ·have H:=H.2 hc
      refine z7 (te (te (be (tn (zI (zE (g.o (zP g rfl) H λx82 w a H g=>g.o (zO g rfl) H λx83 w a H g=>g.c (zb g zSp rfl rfl) H λe w H=>?_)))))))
      obtain ⟨rfl,H⟩:=H
      refine ⟨_,rfl,λ_ g=>(zL (tn (zI (zE (g.o (zO g rfl) H λx85 w a H g=>g.h (zT g rfl rfl) H λw a H g=>g.s rfl λ_ g=>zL (tn ?_))))))⟩
      obtain ⟨q_1,ad_1,hp_1,hl_1,H⟩:=H
      exact zl (zLA g (rs:=[.cell 6 69,.tmp 7]) (vs:=[(zQ.v q_1),(.int .i64 0)]) rfl ⟨⟨ad_1,by rw [← hp_1];rfl,hl_1⟩,rfl,trivial⟩ ⟨_,_,rfl,H⟩)
    ·refine zPV H 8 λC6 w hC0 H=>g.ko 0 rfl hC0 (zP g rfl) H λx52 a H g=>g.ko 3 rfl hC0 (zP g rfl) H λx55 a H g=>g.ko 1 rfl hC0 (zO g rfl) H λx53 a H g=>g.ko 4 rfl hC0 (zO g rfl) H λx56 a H g=>WK.tw 2 6 rfl rfl ?_ ?_
     ·have H:=H.1
      intro K hK
      refine g.wcall (zb g zR6 rfl rfl) H λe w H=>?_
      obtain ⟨r_1,rfl,H⟩:=H
      refine ⟨_,rfl,λ_ g=>(hK _ _ ⟨H.1,?_⟩)⟩
      have hC1:=H.1
      have H:=H.2
      refine g.ko 5 rfl hC1 (Z5 g rfl) H λx57 a H g=>WK.on 6 rfl ?_
      intro K hK
      refine g.i (xY) H λx9_1 w a H g=>hK _ _ ⟨H.1,?_⟩
      have hC2:=H.1
      have H:=H.2
      refine WK.on 7 rfl ?_
      intro K hK
      refine g.wopu (zT g rfl rfl) H λw a H g=>hK _ _ ⟨H.1,?_⟩
      have hC3:=H.1
      have H:=H.2
      exact WK.nil (by kernel_rfl) ((tn (hj3 x9_1 _ _ H (g.k))))
     ·have H:=H.2
      intro K hK
      refine g.i (xY) H λx9_2 w a H g=>hK _ _ ⟨H.1,?_⟩
      have hC1:=H.1
      have H:=H.2
      refine WK.on 2 rfl ?_
      intro K hK
      refine g.wcall (zb g zR6 rfl rfl) H λe w H=>?_
      obtain ⟨r_2,rfl,H⟩:=H
      refine ⟨_,rfl,λ_ g=>(hK _ _ ⟨H.1,?_⟩)⟩
      have hC2:=H.1
      have H:=H.2
      refine g.ko 5 rfl hC2 (Z5 g rfl) H λx57_1 a H g=>WK.on 7 rfl ?_
      intro K hK
      refine g.wopu (zT g rfl rfl) H λw a H g=>hK _ _ ⟨H.1,?_⟩
      have hC3:=H.1
      have H:=H.2
      exact WK.nil (by kernel_rfl) ((tn (hj3 x9_2 _ _ H (g.k))))
  ·refine zX (zI (zE (g.m rfl λ_ g=>g.p (zFc g rfl rfl) λ_ g=>g.s rfl λ_ g=>zL (tn (zd g rfl (λhc=>?_) (λhc=>?_))))))
   ·have H:=H.1 hc
    exact zY (bn (tn (hj2 x8 _ _ H (g.k))))
   ·have H:=H.2 hc
    refine zI (zE (g.o (zO g rfl) H λx23 w a H g=>g.p (yR g rfl rfl) λ_ g=>g.m rfl λ_ g=>WL.join (ds:=[]) (N:=86) (σ:=Bool) (λs=>[(28,(.bool s)),(1,(Sl.v x1)),(3,(.pointer x3)),(5,(.pointer x5)),(6,(.pointer x6)),(8,(.int .i64 x8))]) (λs w=>zDa x1 Ret x3 x5 x6 x8 s w) 3 ?_ (λhr7=>?_)))
    ·intro x28 w a H g
     try dsimp only at H g
     unfold zDa at H
     refine g.s rfl λ_ g=>zL (tn (zk g rfl (λhc=>?_) (λhc=>?_)))
     ·have H:=H.1 hc
      exact zE (g.s rfl λ_ g=>zL (bn (tn (hj2 2 _ _ H (g.k)))))
     ·have H:=H.2 hc
      refine zI (zE (g.o (zO g rfl) H λx30 w a H g=>g.o (zP g rfl) H λx31 w a H g=>g.o (zO g rfl) H λx32 w a H g=>g.p (yR g rfl rfl) λ_ g=>g.m rfl λ_ g=>WL.join (ds:=[]) (N:=86) (σ:=Bool) (λs=>[(39,(.bool s)),(1,(Sl.v x1)),(3,(.pointer x3)),(5,(.pointer x5)),(6,(.pointer x6)),(8,(.int .i64 x8))]) (λs w=>zDb x1 Ret x3 x5 x6 x8 s w) 5 ?_ (λhr8=>?_)))
      ·intro x39 w a H g
       try dsimp only at H g
       unfold zDb at H
       refine g.s rfl λ_ g=>zL (tn (zk g rfl (λhc=>?_) (λhc=>?_)))
       ·have H:=H.1 hc
        exact zE (g.s rfl λ_ g=>zL (bn (tn (hj2 9 _ _ H (g.k)))))
       ·have H:=H.2 hc
        refine zI (zE (g.o (zP g rfl) H λx41 w a H g=>g.o (zO g rfl) H λx42 w a H g=>g.purR (λw=>ZU g Tryz.underlying67 rfl) λ_ g=>g.m rfl λ_ g=>g.purR (λw=>ZU g Tryz.underlying30 rfl) λ_ g=>g.p (zr g rfl rfl) λ_ g=>g.p (zBx g rfl rfl) λ_ g=>g.s rfl λ_ g=>zL (tn (zd g rfl (λhc=>?_) (λhc=>?_)))))
        ·have H:=H.1 hc
         exact zE (g.s rfl λ_ g=>zL (bn (tn (hj2 3 _ _ H (g.k)))))
        ·have H:=H.2 hc
         exact zY (bn (tn (hj2 x8 _ _ H (g.k))))
      ·rcases Classical.em ((x30<x32)) with hbr8|hbr8
       ·have H:=H.1 hbr8
        have g:=g.b (b:=true) (t:=34) rfl (decide_eq_true hbr8)
        exact g.d (λ_ g=>g.d (λ_ g=>g.d (λ_ g=>g.d (λ_ g=>g.p (zx g rfl rfl) λ_ g=>hr8 true _ _ H (g.k)))))
       ·have H:=H.2 hbr8
        have g:=g.b (b:=false) (t:=34) rfl (decide_eq_false hbr8)
        refine g.z (g.o (zP g rfl) H λx35 w a H g=>g.z (g.o (zO g rfl) H λx36 w a H g=>g.z (g.p (zGK g rfl rfl) λ_ g=>g.z (g.c (zb g zR3 rfl rfl) H λe w H=>?_))))
        obtain ⟨r_3,rfl,H⟩:=H
        exact ⟨_,rfl,λ_ g=>(g.p (zy g rfl rfl) λ_ g=>hr8 r_3 _ _ H (g.k))⟩
    ·rcases Classical.em ((x23<1)) with hbr7|hbr7
     ·have H:=H.1 hbr7
      have g:=g.b (b:=true) (t:=25) rfl (decide_eq_true hbr7)
      exact g.d (λ_ g=>g.d (λ_ g=>g.p (zx g rfl rfl) λ_ g=>hr7 true _ _ H (g.k)))
     ·have H:=H.2 hbr7
      have g:=g.b (b:=false) (t:=25) rfl (decide_eq_false hbr7)
      exact g.z (g.o (zO g rfl) H λx26 w a H g=>g.z (g.p (zBx g rfl rfl) λ_ g=>g.p (zy g rfl rfl) λ_ g=>hr7 (decide (2305843009213693952<x26)) _ _ H (g.k)))
 ·refine zI (zE (g.m rfl λ_ g=>g.p (Zb g rfl rfl) λ_ g=>zL (tn (zd g rfl (λhc=>?_) (λhc=>?_)))))
  ·have H:=H.1 hc
   refine zE (g.m rfl λ_ g=>g.c (zb g zSs rfl rfl) H λe w H=>?_)
   obtain ⟨r_4,rfl,H⟩:=H
   exact ⟨_,rfl,λ_ g=>(g.s rfl λ_ g=>zL (tn (hj1 r_4 _ _ H (g.k))))⟩
  ·have H:=H.2 hc
   exact zY (tn (hj1 r _ _ H (g.k)))
def zD8 (x11:Option Addr) (x25:ByteArray) (Gf1:World->Prop) (x14:Option Addr) (x51:Bool) (w:World):Prop:=
 (x51=true->(opE zA Sl.v (zD 22 (.pointer x11)) w (λx52 w=>opE zA zB (zN 72 (.pointer x14) 2) w (λx54 w=>opE zA zZ (zD 9 (.pointer x54)) w (λx55 w=>opE zA zM.v (yr 66 [(0,(.string x25)),(1,(.string x55))].toArray) w (λx56 w=>opE zA Sl.v (ze 22 1 [(0,(zM.v x56))].toArray) w (λx57 w=>opE zA Sl.v (Builtin.append_ #[22,22] 22 [(Sl.v x52),(Sl.v x57)].toArray) w (λx58 w=>opU zA (zK 22 (.pointer x11) (Sl.v x58)) w (λw=>Gf1 w)))))))))/\(x51=false->(Gf1 w))
def zCy (x7:Option Addr) (x11:Option Addr) (x25:ByteArray) (x26:Sl) (Gf1:World->Prop) (x38:Bool) (w:World):Prop:=
 (x38=true->(Gf1 w))/\(x38=false->(opE zA (zV .u64) (zD 37 (.pointer x7)) w (λx42 w=>Cl zA 71 [(Sl.v x26),(.string x25),(.int .u64 x42)].toArray w (λe w=>∃ (r_2:zG) (r_3:Bool),e=.returned (.tuple [(zG.v r_2),(.bool r_3)].toArray)/\(opE zA zB (zf 72 true (.tuple #[])) w (λx14 w=>opU zA (zK 72 (.pointer x14) (zG.v r_2)) w (λw=>(r_3=true->(opE zA zB (zN 72 (.pointer x14) 3) w (λx48 w=>opE zA xv (zD 4 (.pointer x48)) w (λx49 w=>zD8 x11 x25 Gf1 x14 (!x49) w))))/\(r_3=false->(zD8 x11 x25 Gf1 x14 false w)))))))))
def zES (x7:Option Addr) (x11:Option Addr) (x25:ByteArray) (x26:Sl) (Gf1:World->Prop) (x37:Bool) (w:World):Prop:=
 zCy x7 x11 x25 x26 Gf1 x37 w
def zGc (x5:Option Addr) (x6:Option Addr) (x7:Option Addr) (x11:Option Addr) (x25:ByteArray) (x26:Sl) (w:World) (Gf1:World->Prop) (Lf1:World->Prop):Prop:=
 opE zA zZ (zD 9 (.pointer x5)) w (λx28 w=>((sLt x25 x28)=true->(zCy x7 x11 x25 x26 Gf1 true w))/\((sLt x25 x28)=false->(opE zA zZ (zD 9 (.pointer x6)) w (λx31 w=>((x31≠(ByteArray.mk #[]))->(opE zA zZ (zD 9 (.pointer x6)) w (λx35 w=>zES x7 x11 x25 x26 Gf1 (!sLt x25 x35) w)))/\(¬ (x31≠(ByteArray.mk #[]))->(zES x7 x11 x25 x26 Gf1 false w))))))
def zIt (x0:zQ) (x1:ByteArray) (x2:ByteArray) (x3:Int) (w:World) (Ret:Sl->Int->World->Prop):Prop:=
 opE zA zB (Instr.box 69 (zQ.v x0)) w (λx4 w=>opE zA zB (Instr.box 9 (.string x1)) w (λx5 w=>opE zA zB (Instr.box 9 (.string x2)) w (λx6 w=>opE zA zB (Instr.box 37 (.int .u64 x3)) w (λx7 w=>opE zA zQ.v (zD 69 (.pointer x4)) w (λx16 w=>opE zA (zV .u64) (zD 37 (.pointer x7)) w (λx17 w=>Cl zA 69 [(zQ.v x16),(.int .u64 x17)].toArray w (λe w=>∃ (r:Int),e=.returned (.int .i64 r)/\(((r≠0)->(Ret Sl.none r w))/\(¬ (r≠0)->(opE zA zB (zf 22 true (.tuple #[])) w (λx11 w=>opE zA zB (zN 69 (.pointer x4) 0) w (λx22 w=>opE zA Sl.v (zD 67 (.pointer x22)) w (λx23 w=>Cl zA 70 [(Sl.v x23)].toArray w (λe w=>∃ (r_1:Value),e=.returned r_1/\(zPD zA r_1 zZ Sl.v w (zGc x5 x6 x7 x11) (λD w=>opE zA Sl.v (zD 22 (.pointer x11)) w (λx59 w=>zN9 D w (λw=>Ret x59 0 w))) (λD w=>True))))))))))))))))
set_option maxRecDepth 100000 in
theorem zMj (x0:zQ) (x1:ByteArray) (x2:ByteArray) (x3:Int) (w:World) (Ret:Sl->Int->World->Prop) (H:zIt x0 x1 x2 x3 w Ret):Cl zA 42 [(zQ.v x0),(.string x1),(.string x2),(.int .u64 x3)].toArray w (λe w'=>∃ (r0:Sl) (r1:Int),e=.returned (.tuple [(Sl.v r0),(.int .i64 r1)].toArray)/\Ret r0 r1 w'):=by
 unfold zIt at H
 refine zKI 60 (zipE 0 [(zQ.v x0),(.string x1),(.string x2),(.int .u64 x3)]) Tryz.func42 rfl rfl (by rfl) rfl ?_
 intro a g
 have g:Sat [] 60 [(0,(zQ.v x0)),(1,(.string x1)),(2,(.string x2)),(3,(.int .u64 x3))] a:=g
 refine zI (zE (g.o (zBc g rfl) H λx4 w a H g=>g.o (zBc g rfl) H λx5 w a H g=>g.o (zBc g rfl) H λx6 w a H g=>g.o (zBc g rfl) H λx7 w a H g=>g.s rfl λ_ g=>g.s rfl λ_ g=>zL (tn (zI (zI (zE (g.o (zO g rfl) H λx16 w a H g=>g.o (zO g rfl) H λx17 w a H g=>g.c (zb g zRw rfl rfl) H λe w H=>?_)))))))
 obtain ⟨r,rfl,H⟩:=H
 refine ⟨_,rfl,λ_ g=>(g.s rfl λ_ g=>zL (tn (zI (zE (g.m rfl λ_ g=>g.p (zFc g rfl rfl) λ_ g=>zL (tn (zd g rfl (λhc=>?_) (λhc=>?_))))))))⟩
 ·have H:=H.1 hc
  exact zI (zE (g.m rfl λ_ g=>g.s rfl λ_ g=>g.s rfl λ_ g=>zL (tn (zl (tr (zKA g (rs:=[.tmp 8,.tmp 9]) (vs:=[(Sl.v Sl.none),(.int .i64 r)]) rfl ⟨rfl,rfl,trivial⟩ ⟨_,_,rfl,H⟩))))))
 ·have H:=H.2 hc
  refine zY (tn (zI (zE (g.o (xY) H λx11 w a H g=>zL (tn (zI (zI (zE (g.o (zP g rfl) H λx22 w a H g=>g.o (zO g rfl) H λx23 w a H g=>g.c (zb g zRp rfl rfl) H λe w H=>?_)))))))))
  obtain ⟨r_1,rfl,H⟩:=H
  refine ⟨_,rfl,λ_ g=>(zL (tn (zX ?_)))⟩
  obtain ⟨α,f,f',Kp,S,Sp,Num,I,Ir,hR,hnew,hbd,hdn,hst⟩:=H
  refine zL2 f f' zZ Sl.v none g rfl hR hnew (by rfl) (by rfl) (by rfl) (by rfl) (by rfl) (by rfl) ?_ ?_ ?_
  ·intro l pre z w a h3 h4 g
   have H:=hbd pre z w h3 h4
   generalize (λ(W':World)=>KeepsFrom _ w W'/\Kp w W'/\I (pre++[z]) W')=Gf1 at H ⊢
   generalize (λ(W':World)=>KeepsFrom _ w W'/\Ir (pre++[z]) W')=Lf1 at H ⊢
   generalize f z=x25 at H g
   generalize f' z=x26 at H g
   unfold zGc at H
   refine zX (zI (zI (zE (g.m rfl λ_ g=>g.o (zO g rfl) H λx28 w a H g=>g.p (zOZ g rfl rfl) λ_ g=>g.m rfl λ_ g=>WL.join (ds:=[]) (N:=60) (σ:=Bool) (λs=>[(38,(.bool s)),(7,(.pointer x7)),(11,(.pointer x11)),(12,(.string x25)),(13,(Sl.v x26))]) (λs w=>zCy x7 x11 x25 x26 Gf1 s w) 8 ?_ (λhr2=>?_)))))
   ·intro x38 w a H g
    try dsimp only at H g
    unfold zCy at H
    refine zL (tn (zk g rfl (λhc=>?_) (λhc=>?_)))
    ·have H:=H.1 hc
     exact z7 (te (be H))
    ·have H:=H.2 hc
     refine zY (tn (zI (zE (g.m rfl λ_ g=>g.m rfl λ_ g=>g.o (zO g rfl) H λx42 w a H g=>g.c (zb g zPq rfl rfl) H λe w H=>?_))))
     obtain ⟨r_2,r_3,rfl,H⟩:=H
     refine ⟨_,rfl,λ_ g=>(g.m rfl λ_ g=>g.p (zc g rfl rfl) λ_ g=>g.p (zc g rfl rfl) λ_ g=>g.o (xY) H λx14 w a H g=>g.h (zT g rfl rfl) H λw a H g=>g.s rfl λ_ g=>zL (tn (zI (zE (g.m rfl λ_ g=>g.m rfl λ_ g=>WL.join (ds:=[]) (N:=60) (σ:=Bool) (λs=>[(51,(.bool s)),(11,(.pointer x11)),(12,(.string x25)),(14,(.pointer x14))]) (λs w=>zD8 x11 x25 Gf1 x14 s w) 4 ?_ (λhr3=>?_))))))⟩
     ·intro x51 w a H g
      try dsimp only at H g
      unfold zD8 at H
      refine zL (tn (zk g rfl (λhc=>?_) (λhc=>?_)))
      ·have H:=H.1 hc
       exact zE (g.o (zO g rfl) H λx52 w a H g=>g.m rfl λ_ g=>g.o (zP g rfl) H λx54 w a H g=>g.o (zO g rfl) H λx55 w a H g=>g.o (Z5 g rfl) H λx56 w a H g=>g.o (yj g rfl) H λx57 w a H g=>g.o (zA6 g rfl) H λx58 w a H g=>g.h (zT g rfl rfl) H λw a H g=>zL (bn H))
      ·have H:=H.2 hc
       exact zY (bn H)
     ·rcases Bool.eq_false_or_eq_true (r_3) with hbr3|hbr3
      ·have H:=H.1 hbr3
       have g:=g.b (b:=true) (t:=47) rfl (hbr3)
       exact g.z (g.o (zP g rfl) H λx48 w a H g=>g.z (g.o (zO g rfl) H λx49 w a H g=>g.z (g.p (zAJ g rfl) λ_ g=>g.p (zx g rfl rfl) λ_ g=>hr3 (!x49) _ _ H (g.k))))
      ·have H:=H.2 hbr3
       have g:=g.b (b:=false) (t:=47) rfl (hbr3)
       exact g.d (λ_ g=>g.d (λ_ g=>g.d (λ_ g=>g.p (zy g rfl rfl) λ_ g=>hr3 false _ _ H (g.k))))
   ·rcases Bool.eq_false_or_eq_true ((sLt x25 x28)) with hbr2|hbr2
    ·have H:=H.1 hbr2
     have g:=g.b (b:=true) (t:=30) rfl (hbr2)
     exact g.d (λ_ g=>g.d (λ_ g=>g.d (λ_ g=>g.offU (by rfl) (by rfl) (λ_ g=>g.offU (by rfl) (by rfl) (λ_ g=>g.offU (by rfl) (by rfl) (λ_ g=>g.d (λ_ g=>g.p (zx g rfl rfl) λ_ g=>hr2 true _ _ H (g.k))))))))
    ·have H:=H.2 hbr2
     have g:=g.b (b:=false) (t:=30) rfl (hbr2)
     refine g.z (g.o (zO g rfl) H λx31 w a H g=>g.z (g.p (zNJ g rfl rfl) λ_ g=>g.z (g.m rfl λ_ g=>WL.join (ds:=[]) (N:=60) (σ:=Bool) (λs=>[(37,(.bool s)),(7,(.pointer x7)),(11,(.pointer x11)),(12,(.string x25)),(13,(Sl.v x26)),(30,(.bool false))]) (λs w=>zES x7 x11 x25 x26 Gf1 s w) 4 ?_ (λhr4=>?_))))
     ·intro x37 w a H g
      try dsimp only at H g
      unfold zES at H
      exact g.p (zy g rfl rfl) λ_ g=>hr2 x37 _ _ H (g.k)
     ·rcases Classical.em ((x31≠(ByteArray.mk #[]))) with hbr4|hbr4
      ·have H:=H.1 hbr4
       have g:=g.b (b:=true) (t:=33) rfl (decide_eq_true hbr4)
       exact g.z (g.m rfl λ_ g=>g.z (g.o (zO g rfl) H λx35 w a H g=>g.z (g.p (zNN g rfl rfl) λ_ g=>g.z (g.p (zx g rfl rfl) λ_ g=>hr4 (!sLt x25 x35) _ _ H (g.k)))))
      ·have H:=H.2 hbr4
       have g:=g.b (b:=false) (t:=33) rfl (decide_eq_false hbr4)
       exact g.d (λ_ g=>g.d (λ_ g=>g.d (λ_ g=>g.z (g.p (zy g rfl rfl) λ_ g=>hr4 false _ _ H (g.k)))))
  ·intro D xs w a h1 h2 h3 hD g
   have H:=hdn D xs w h1 h2 h3 hD
   clear hbd hdn hst hnew
   try dsimp only at H
   refine (bn (tn (zI (zE (g.o (zO g rfl) H λx59 w a H g=>g.s rfl λ_ g=>g.s rfl λ_ g=>zL (tn ?_))))))
   obtain ⟨hD0,H⟩:=H
   try dsimp only at H
   exact zl (zMR g (rs:=[.tmp 8,.tmp 9]) (vs:=[(Sl.v x59),(.int .i64 0)]) rfl hD0 ⟨rfl,rfl,trivial⟩ ⟨_,_,rfl,H⟩)
  ·intro D c pre w a hj h1 h2 h3 hD g
   cases hj
def zER (x0:ByteArray) (x1:ByteArray) (w:World) (Ret:Int->World->Prop):Prop:=
 Cl zA 74 [(.string x0)].toArray w (λe w=>∃ (r:Bool),e=.returned (.bool r)/\(Cl zA 74 [(.string x1)].toArray w (λe w=>∃ (r_1:Bool),e=.returned (.bool r_1)/\((r=true->((r_1=true->(Ret 0 w))/\(r_1=false->(Ret (-1) w))))/\(r=false->((r_1=true->(Ret 1 w))/\(r_1=false->(((sLt x0 x1)=true->(Ret (-1) w))/\((sLt x0 x1)=false->(((!(sLt x0 x1||decide (x0=x1)))=true->(Ret 1 w))/\((!(sLt x0 x1||decide (x0=x1)))=false->(Ret 0 w))))))))))))
set_option maxRecDepth 100000 in
theorem zIU (x0:ByteArray) (x1:ByteArray) (w:World) (Ret:Int->World->Prop) (H:zER x0 x1 w Ret):Cl zA 48 [(.string x0),(.string x1)].toArray w (λe w'=>∃ (r0:Int),e=.returned (.int .i64 r0)/\Ret r0 w'):=by
 unfold zER at H
 refine zp 20 (zipE 0 [(.string x0),(.string x1)]) Tryz.func48 rfl rfl (by rfl) rfl ?_
 intro a g
 have g:Sat [] 20 [(0,(.string x0)),(1,(.string x1))] a:=g
 refine zI (zE (g.s rfl λ_ g=>zL (tn (zI (zE (g.m rfl λ_ g=>g.c (zb g zRt rfl rfl) H λe w H=>?_))))))
 obtain ⟨r,rfl,H⟩:=H
 refine ⟨_,rfl,λ_ g=>(g.s rfl λ_ g=>zL (tn (zI (zE (g.m rfl λ_ g=>g.c (zb g zRt rfl rfl) H λe w H=>?_)))))⟩
 obtain ⟨r_1,rfl,H⟩:=H
 refine ⟨_,rfl,λ_ g=>(g.s rfl λ_ g=>zL (tn (zI (zI (zE (g.m rfl λ_ g=>zL (tn (zk g rfl (λhc=>?_) (λhc=>?_)))))))))⟩
 ·have H:=H.1 hc
  refine zI (zI (zE (g.m rfl λ_ g=>zL (tn (zk g rfl (λhc=>?_) (λhc=>?_))))))
  ·have H:=H.1 hc
   exact zI (zE (g.s rfl λ_ g=>zL (tn (zl (tr (tr (zw g rfl rfl ⟨_,rfl,H⟩)))))))
  ·have H:=H.2 hc
   exact zY (tn (zI (zE (g.s rfl λ_ g=>zL (tn (zl (tr (zw g rfl rfl ⟨_,rfl,H⟩))))))))
 ·have H:=H.2 hc
  refine zY (tn (zI (zI (zE (g.m rfl λ_ g=>zL (tn (zk g rfl (λhc=>?_) (λhc=>?_))))))))
  ·have H:=H.1 hc
   exact zI (zE (g.s rfl λ_ g=>zL (tn (zl (tr (zw g rfl rfl ⟨_,rfl,H⟩))))))
  ·have H:=H.2 hc
   refine zY (tn (zI (zI (zE (g.m rfl λ_ g=>g.m rfl λ_ g=>g.p (zOZ g rfl rfl) λ_ g=>zL (tn (zk g rfl (λhc=>?_) (λhc=>?_))))))))
   ·have H:=H.1 hc
    exact zI (zE (g.s rfl λ_ g=>zL (tn (zl (tr (zw g rfl rfl ⟨_,rfl,H⟩))))))
   ·have H:=H.2 hc
    refine zY (tn (zI (zI (zE (g.m rfl λ_ g=>g.m rfl λ_ g=>g.p (zS7 g rfl rfl) λ_ g=>zL (tn (zk g rfl (λhc=>?_) (λhc=>?_))))))))
    ·have H:=H.1 hc
     exact zI (zE (g.s rfl λ_ g=>zL (tn (zl (tr (zw g rfl rfl ⟨_,rfl,H⟩))))))
    ·have H:=H.2 hc
     exact zY (tn (zI (zE (g.s rfl λ_ g=>zL (tn (zl (zw g rfl rfl ⟨_,rfl,H⟩)))))))
def zGP (Ret:ByteArray->Bool->Int->World->Prop) (x27:ByteArray) (x33:Bool) (w:World):Prop:=
 yM w (λw=>Ret x27 x33 0 w)
def zJk (x0:zQ) (x1:ByteArray) (x2:Int) (w:World) (Ret:ByteArray->Bool->Int->World->Prop):Prop:=
 opE zA zB (Instr.box 69 (zQ.v x0)) w (λx3 w=>opE zA zQ.v (zD 69 (.pointer x3)) w (λx12 w=>Cl zA 69 [(zQ.v x12),(.int .u64 x2)].toArray w (λe w=>∃ (r:Int),e=.returned (.int .i64 r)/\(((r≠0)->(Ret (ByteArray.mk #[]) false r w))/\(¬ (r≠0)->(opE zA zB (zN 69 (.pointer x3) 0) w (λx19 w=>opE zA Sl.v (zD 67 (.pointer x19)) w (λx20 w=>Cl zA 71 [(Sl.v x20),(.string x1),(.int .u64 x2)].toArray w (λe w=>∃ (r_1:zG) (r_2:Bool),e=.returned (.tuple [(zG.v r_1),(.bool r_2)].toArray)/\(opE zA zB (zf 72 true (.tuple #[])) w (λx10 w=>opU zA (zK 72 (.pointer x10) (zG.v r_1)) w (λw=>opB zA zB (zN 72 (.pointer x10) 2) w (λx26=>opB zA zZ (zD 9 (.pointer x26)) w (λx27=>(r_2=true->(opB zA zB (zN 72 (.pointer x10) 3) w (λx30=>opB zA xv (zD 4 (.pointer x30)) w (λx31=>zGP Ret x27 (!x31) w))))/\(r_2=false->(zGP Ret x27 false w))))))))))))))))
set_option maxRecDepth 100000 in
theorem zM8 (x0:zQ) (x1:ByteArray) (x2:Int) (w:World) (Ret:ByteArray->Bool->Int->World->Prop) (H:zJk x0 x1 x2 w Ret):Cl zA 51 [(zQ.v x0),(.string x1),(.int .u64 x2)].toArray w (λe w'=>∃ (r0:ByteArray) (r1:Bool) (r2:Int),e=.returned (.tuple [(.string r0),(.bool r1),(.int .i64 r2)].toArray)/\Ret r0 r1 r2 w'):=by
 unfold zJk at H
 refine zp 34 (zipE 0 [(zQ.v x0),(.string x1),(.int .u64 x2)]) Tryz.func51 rfl rfl (by rfl) rfl ?_
 intro a g
 have g:Sat [] 34 [(0,(zQ.v x0)),(1,(.string x1)),(2,(.int .u64 x2))] a:=g
 refine zI (zE (g.o (zBc g rfl) H λx3 w a H g=>g.s rfl λ_ g=>g.s rfl λ_ g=>g.s rfl λ_ g=>zL (tn (zI (zI (zE (g.o (zO g rfl) H λx12 w a H g=>g.m rfl λ_ g=>g.c (zb g zRw rfl rfl) H λe w H=>?_)))))))
 obtain ⟨r,rfl,H⟩:=H
 refine ⟨_,rfl,λ_ g=>(g.s rfl λ_ g=>zL (tn (zI (zE (g.m rfl λ_ g=>g.p (zFc g rfl rfl) λ_ g=>zL (tn (zd g rfl (λhc=>?_) (λhc=>?_))))))))⟩
 ·have H:=H.1 hc
  exact zI (zE (g.m rfl λ_ g=>g.s rfl λ_ g=>g.s rfl λ_ g=>g.s rfl λ_ g=>zL (tn (zl (tr (zJt g rfl rfl rfl rfl ⟨_,_,_,rfl,H⟩))))))
 ·have H:=H.2 hc
  refine zY (tn (zI (zE (g.o (zP g rfl) H λx19 w a H g=>g.o (zO g rfl) H λx20 w a H g=>g.m rfl λ_ g=>g.m rfl λ_ g=>g.c (zb g zPq rfl rfl) H λe w H=>?_))))
  obtain ⟨r_1,r_2,rfl,H⟩:=H
  refine ⟨_,rfl,λ_ g=>(g.m rfl λ_ g=>g.p (zc g rfl rfl) λ_ g=>g.p (zc g rfl rfl) λ_ g=>g.o (xY) H λx10 w a H g=>g.h (zT g rfl rfl) H λw a H g=>g.s rfl λ_ g=>zL (tn (zI (QU (by kernel_rfl) (by kernel_rfl) (g.A (zP g rfl) H λx26 a H g=>g.A (zO g rfl) H λx27 a H g=>g.t rfl λ_ g=>g.t rfl λ_ g=>WQ.join (ds:=[]) (N:=34) (σ:=Bool) (λs=>[(33,(.bool s)),(27,(.string x27))]) (λs=>zGP Ret x27 s w) 4 ?_ (λhr1=>?_))))))⟩
  ·intro x33 a H g
   try dsimp only at H g
   unfold zGP at H
   refine g.r (ZI g rfl) λ_ g=>g.r (ZI g rfl) λ_ g=>g.r (ZI g rfl) λ_ g=>Qb (λw hB=>?_)
   replace H:=H w hB
   exact (tn (zl (zJt g rfl rfl rfl rfl ⟨_,_,_,rfl,H⟩)))
  ·rcases Bool.eq_false_or_eq_true (r_2) with hbr1|hbr1
   ·have H:=H.1 hbr1
    have g:=g.b (b:=true) (t:=29) rfl (hbr1)
    exact g.e (g.A (zP g rfl) H λx30 a H g=>g.e (g.A (zO g rfl) H λx31 a H g=>g.e (g.r (zAJ g rfl) λ_ g=>g.r (zx g rfl rfl) λ_ g=>hr1 (!x31) _ H (g.k))))
   ·have H:=H.2 hbr1
    have g:=g.b (b:=false) (t:=29) rfl (hbr1)
    exact g.g (λ_ g=>g.g (λ_ g=>g.g (λ_ g=>g.r (zy g rfl rfl) λ_ g=>hr1 false _ H (g.k))))
def zAE (x0:Sl) (w:World) (Ret:Sl->World->Prop):Prop:=
 opE zA xv (do eqGuard .eql 67 (.tmp 3) (.const (Sl.v Sl.none)) (Sl.v x0) (Sl.v Sl.none);binOp .eql 67 (Sl.v x0) (Sl.v Sl.none)) w (λx4 w=>(x4=true->(Ret Sl.none w))/\(x4=false->(opE zA Sl.v (ze 67 0 [].toArray) w (λx5 w=>opE zA Sl.v (Builtin.append_ #[67,67] 67 [(Sl.v x5),(Sl.v x0)].toArray) w (λx7 w=>Ret x7 w)))))
set_option maxRecDepth 100000 in
theorem zDy (x0:Sl) (w:World) (Ret:Sl->World->Prop) (H:zAE x0 w Ret):Cl zA 52 [(Sl.v x0)].toArray w (λe w'=>∃ (r0:Sl),e=.returned (Sl.v r0)/\Ret r0 w'):=by
 unfold zAE at H
 refine zp 8 (zipE 0 [(Sl.v x0)]) Tryz.func52 rfl rfl (by rfl) rfl ?_
 intro a g
 have g:Sat [] 8 [(0,(Sl.v x0))] a:=g
 refine zI (zE (g.s rfl λ_ g=>(zL (tn (zI (zI (zE (g.m rfl λ_ g=>(g.o (zCz g rfl rfl) H λx4 w a H g=>(zL (tn (zk g rfl (λhc=>?_) (λhc=>?_)))))))))))))
 ·have H:=H.1 hc
  exact zI (zE (g.s rfl λ_ g=>(zL (tn (zl (tr (zw g rfl rfl ⟨_,rfl,H⟩)))))))
 ·have H:=H.2 hc
  exact zY (tn (zI (zE (g.o (yj g rfl) H λx5 w a H g=>(g.m rfl λ_ g=>(g.o (zA6 g rfl) H λx7 w a H g=>(g.s rfl λ_ g=>(zL (tn (zl (zw g rfl rfl ⟨_,rfl,H⟩)))))))))))
def zCV (x59:Int) (Kl3:Int->World->Prop) (w:World):Prop:=
 Kl3 (zC .i64 (x59+1)) w
def zEc (x3:Option Addr) (x7:Option Addr) (x37:Sl) (Gf1:World->Prop) (x59:Int) (w:World) (Kl3:Int->World->Prop):Prop:=
 ((x59<(x37.len:Int))->(opE zA zB (zF 67 (Sl.v x37) (.int .i64 x59)) w (λx61 w=>opE zA zG.v (zD 72 (.pointer x61)) w (λx62 w=>opE zA zB (zf 72 true (.tuple #[])) w (λx13 w=>opU zA (zK 72 (.pointer x13) (zG.v x62)) w (λw=>opE zA zB (zN 72 (.pointer x13) 1) w (λx63 w=>opE zA (zV .u64) (zD 37 (.pointer x63)) w (λx64 w=>opE zA (zV .u64) (zD 37 (.pointer x3)) w (λx65 w=>((x65<x64)->(opE zA zB (zN 69 (.pointer x7) 0) w (λx67 w=>opE zA Sl.v (zD 67 (.pointer x67)) w (λx68 w=>opE zA zG.v (zD 72 (.pointer x13)) w (λx69 w=>opE zA Sl.v (ze 67 1 [(0,(zG.v x69))].toArray) w (λx70 w=>opE zA Sl.v (Builtin.append_ #[67,67] 67 [(Sl.v x68),(Sl.v x70)].toArray) w (λx71 w=>opE zA zB (zN 69 (.pointer x7) 0) w (λx72 w=>opU zA (zK 67 (.pointer x72) (Sl.v x71)) w (λw=>zCV x59 Kl3 w)))))))))/\(¬ (x65<x64)->(zCV x59 Kl3 w)))))))))))/\(¬ (x59<(x37.len:Int))->(Gf1 w))
def zBY (x3:Option Addr) (x7:Option Addr) (x37:Sl) (Gf1:World->Prop) (w:World):Prop:=
 ∃ (I:Int->World->Prop) (μ:Int->World->Nat),I 0 w/\∀ (x59:Int) w,I x59 w->zEc x3 x7 x37 Gf1 x59 w (λx59' w'=>I x59' w'/\μ x59' w'<μ x59 w)
def zDQ (x3:Option Addr) (x7:Option Addr) (x37:Sl) (Gf1:World->Prop) (x10:Option Addr) (x50:Bool) (w:World):Prop:=
 (x50=true->(opE zA zB (zN 69 (.pointer x7) 0) w (λx51 w=>opE zA Sl.v (zD 67 (.pointer x51)) w (λx52 w=>opE zA zG.v (zD 72 (.pointer x10)) w (λx53 w=>opE zA Sl.v (ze 67 1 [(0,(zG.v x53))].toArray) w (λx54 w=>opE zA Sl.v (Builtin.append_ #[67,67] 67 [(Sl.v x52),(Sl.v x54)].toArray) w (λx55 w=>opE zA zB (zN 69 (.pointer x7) 0) w (λx56 w=>opU zA (zK 67 (.pointer x56) (Sl.v x55)) w (λw=>zBY x3 x7 x37 Gf1 w)))))))))/\(x50=false->(zBY x3 x7 x37 Gf1 w))
def zEa (x3:Option Addr) (x7:Option Addr) (x36:ByteArray) (x37:Sl) (w:World) (Gf1:World->Prop) (Lf1:World->Prop):Prop:=
 opE zA (zV .u64) (zD 37 (.pointer x3)) w (λx41 w=>Cl zA 71 [(Sl.v x37),(.string x36),(.int .u64 x41)].toArray w (λe w=>∃ (r_2:zG) (r_3:Bool),e=.returned (.tuple [(zG.v r_2),(.bool r_3)].toArray)/\(opE zA zB (zf 72 true (.tuple #[])) w (λx10 w=>opU zA (zK 72 (.pointer x10) (zG.v r_2)) w (λw=>(r_3=true->(opE zA zB (zN 72 (.pointer x10) 3) w (λx47 w=>opE zA xv (zD 4 (.pointer x47)) w (λx48 w=>zDQ x3 x7 x37 Gf1 x10 (!x48) w))))/\(r_3=false->(zDQ x3 x7 x37 Gf1 x10 false w)))))))
def zHx (x0:zQ) (x1:Int) (w:World) (Ret:zQ->Int->World->Prop):Prop:=
 opE zA zB (Instr.box 69 (zQ.v x0)) w (λx2 w=>opE zA zB (Instr.box 37 (.int .u64 x1)) w (λx3 w=>opE zA zB (zf 69 true (.tuple #[])) w (λx4 w=>opE zA zQ.v (zD 69 (.pointer x2)) w (λx14 w=>Cl zA 64 [(zQ.v x14)].toArray w (λe w=>∃ (r:Int),e=.returned (.int .i64 r)/\(((r≠0)->(opE zA zQ.v (yr 69 [].toArray) w (λx19 w=>opU zA (zK 69 (.pointer x4) (zQ.v x19)) w (λw=>opR zA zQ.v 69 x4 w (λq=>Ret q r w)))))/\(¬ (r≠0)->(opE zA (zV .u64) (zD 37 (.pointer x3)) w (λx22 w=>opE zA zB (zN 69 (.pointer x2) 1) w (λx23 w=>opE zA (zV .u64) (zD 37 (.pointer x23)) w (λx24 w=>((x22<x24)->(opE zA zQ.v (yr 69 [].toArray) w (λx26 w=>opU zA (zK 69 (.pointer x4) (zQ.v x26)) w (λw=>opR zA zQ.v 69 x4 w (λq_1=>Ret q_1 9 w)))))/\(¬ (x22<x24)->(opE zA (zV .u64) (zD 37 (.pointer x3)) w (λx28 w=>((2305843009213693952<x28)->(opE zA zQ.v (yr 69 [].toArray) w (λx30 w=>opU zA (zK 69 (.pointer x4) (zQ.v x30)) w (λw=>opR zA zQ.v 69 x4 w (λq_2=>Ret q_2 2 w)))))/\(¬ (2305843009213693952<x28)->(opE zA (zV .u64) (zD 37 (.pointer x3)) w (λx31 w=>opE zA zQ.v (yr 69 [(1,(.int .u64 x31))].toArray) w (λx32 w=>opE zA zB (zf 69 true (.tuple #[])) w (λx7 w=>opU zA (zK 69 (.pointer x7) (zQ.v x32)) w (λw=>opE zA zB (zN 69 (.pointer x2) 0) w (λx33 w=>opE zA Sl.v (zD 67 (.pointer x33)) w (λx34 w=>Cl zA 70 [(Sl.v x34)].toArray w (λe w=>∃ (r_1:Value),e=.returned r_1/\(zPD zA r_1 zZ Sl.v w (zEa x3 x7) (λD w=>opE zA zQ.v (zD 69 (.pointer x7)) w (λx74 w=>opU zA (zK 69 (.pointer x4) (zQ.v x74)) w (λw=>zN9 D w (λw=>opR zA zQ.v 69 x4 w (λq_3=>Ret q_3 0 w))))) (λD w=>True)))))))))))))))))))))))))
set_option maxRecDepth 100000 in
theorem zLm (x0:zQ) (x1:Int) (w:World) (Ret:zQ->Int->World->Prop) (H:zHx x0 x1 w Ret):Cl zA 56 [(zQ.v x0),(.int .u64 x1)].toArray w (λe w'=>∃ (r0:zQ) (r1:Int),e=.returned (.tuple [(zQ.v r0),(.int .i64 r1)].toArray)/\Ret r0 r1 w'):=by
 unfold zHx at H
 refine zKI 75 (zipE 0 [(zQ.v x0),(.int .u64 x1)]) Tryz.func56 rfl rfl (by rfl) rfl ?_
 intro a g
 have g:Sat [] 75 [(0,(zQ.v x0)),(1,(.int .u64 x1))] a:=g
 refine zI (zE (g.o (zBc g rfl) H λx2 w a H g=>g.o (zBc g rfl) H λx3 w a H g=>g.o (xY) H λx4 w a H g=>g.s rfl λ_ g=>zL (tn (zI (zE (g.o (zO g rfl) H λx14 w a H g=>g.c (zb g zQw rfl rfl) H λe w H=>?_))))))
 obtain ⟨r,rfl,H⟩:=H
 refine ⟨_,rfl,λ_ g=>(g.s rfl λ_ g=>zL (tn (zI (zX (zI (zE (g.m rfl λ_ g=>g.p (zFc g rfl rfl) λ_ g=>g.s rfl λ_ g=>zL (tn (zd g rfl (λhc=>?_) (λhc=>?_))))))))))⟩
 ·have H:=H.1 hc
  refine zI (zE (g.o (Z5 g rfl) H λx19 w a H g=>g.m rfl λ_ g=>g.h (zT g rfl rfl) H λw a H g=>g.s rfl λ_ g=>zL (tn ?_)))
  obtain ⟨q,ad,hp,hl,H⟩:=H
  exact zl (br (tr (zKA g (rs:=[.cell 4 69,.tmp 5]) (vs:=[(zQ.v q),(.int .i64 r)]) rfl ⟨⟨ad,by rw [← hp];rfl,hl⟩,rfl,trivial⟩ ⟨_,_,rfl,H⟩)))
 ·have H:=H.2 hc
  refine zI (zE (g.o (zO g rfl) H λx22 w a H g=>g.o (zP g rfl) H λx23 w a H g=>g.o (zO g rfl) H λx24 w a H g=>g.p (yR g rfl rfl) λ_ g=>g.s rfl λ_ g=>zL (tn (zd g rfl (λhc=>?_) (λhc=>?_)))))
  ·have H:=H.1 hc
   refine zI (zE (g.o (Z5 g rfl) H λx26 w a H g=>g.h (zT g rfl rfl) H λw a H g=>g.s rfl λ_ g=>zL (tn ?_)))
   obtain ⟨q_1,ad_1,hp_1,hl_1,H⟩:=H
   exact zl (br (tr (zKA g (rs:=[.cell 4 69,.tmp 5]) (vs:=[(zQ.v q_1),(.int .i64 9)]) rfl ⟨⟨ad_1,by rw [← hp_1];rfl,hl_1⟩,rfl,trivial⟩ ⟨_,_,rfl,H⟩)))
  ·have H:=H.2 hc
   refine zI (zE (g.o (zO g rfl) H λx28 w a H g=>g.p (zBx g rfl rfl) λ_ g=>g.s rfl λ_ g=>zL (tn (zd g rfl (λhc=>?_) (λhc=>?_)))))
   ·have H:=H.1 hc
    refine zI (zE (g.o (Z5 g rfl) H λx30 w a H g=>g.h (zT g rfl rfl) H λw a H g=>g.s rfl λ_ g=>zL (tn ?_)))
    obtain ⟨q_2,ad_2,hp_2,hl_2,H⟩:=H
    exact zl (br (tr (zKA g (rs:=[.cell 4 69,.tmp 5]) (vs:=[(zQ.v q_2),(.int .i64 2)]) rfl ⟨⟨ad_2,by rw [← hp_2];rfl,hl_2⟩,rfl,trivial⟩ ⟨_,_,rfl,H⟩)))
   ·have H:=H.2 hc
    refine zY (bn (tn (zI (zE (g.o (zO g rfl) H λx31 w a H g=>g.o (Z5 g rfl) H λx32 w a H g=>g.o (xY) H λx7 w a H g=>g.h (zT g rfl rfl) H λw a H g=>zL (tn (zI (zI (zE (g.o (zP g rfl) H λx33 w a H g=>g.o (zO g rfl) H λx34 w a H g=>g.c (zb g zRp rfl rfl) H λe w H=>?_))))))))))
    obtain ⟨r_1,rfl,H⟩:=H
    refine ⟨_,rfl,λ_ g=>(zL (tn (zX ?_)))⟩
    obtain ⟨α,f,f',Kp,S,Sp,Num,I,Ir,hR,hnew,hbd,hdn,hst⟩:=H
    refine zL2 f f' zZ Sl.v none g rfl hR hnew (by rfl) (by rfl) (by rfl) (by rfl) (by rfl) (by rfl) ?_ ?_ ?_
    ·intro l pre z w a h3 h4 g
     have H:=hbd pre z w h3 h4
     generalize (λ(W':World)=>KeepsFrom _ w W'/\Kp w W'/\I (pre++[z]) W')=Gf1 at H ⊢
     generalize (λ(W':World)=>KeepsFrom _ w W'/\Ir (pre++[z]) W')=Lf1 at H ⊢
     generalize f z=x36 at H g
     generalize f' z=x37 at H g
     unfold zEa at H
     refine zX (z8 (ds:=[]) (N:=75) (σ:=Unit) (λs=>[(3,(.pointer x3)),(7,(.pointer x7)),(9,(Sl.v x37))]) (λs w=>zBY x3 x7 x37 Gf1 w) ?_ (λhj2=>?_))
     ·rintro ⟨⟩ w a H g
      try dsimp only at H g
      unfold zBY at H
      refine zI (zE (g.m rfl λ_ g=>g.purR (λw=>ZU g Tryz.underlying67 rfl) λ_ g=>g.m rfl λ_ g=>zL (tn (zX ?_))))
      obtain ⟨I_l3,μ_l3,h0,hb⟩:=H
      refine yE (ds:=[]) (N:=75) (σ:=Int) (λs=>[(59,(.int .i64 s)),(3,(.pointer x3)),(7,(.pointer x7)),(57,(Sl.v x37)),(58,(.int .i64 (x37.len:Int)))]) (λs w=>I_l3 s w) (λs w=>μ_l3 s w) 0 h0 (g.k) ?_
      intro x59 w a hI g
      try dsimp only at hI g
      obtain ⟨Kl3,hK_l3⟩:∃ K:Int->World->Prop,K=(λx59' w'=>I_l3 x59' w'/\μ_l3 x59' w'<μ_l3 x59 w):=⟨_,rfl⟩
      have H:zEc x3 x7 x37 Gf1 x59 w Kl3:=by rw [hK_l3];exact hb x59 w hI
      clear hb h0 hI
      unfold zEc at H
      refine zI (zE (g.p (yR g rfl rfl) λ_ g=>zL (tn (zI (zd g rfl (λhc=>?_) (λhc=>?_))))))
      ·have H:=H.1 hc
       refine zY (tn (z8 (ds:=[]) (N:=75) (σ:=Unit) (λs=>[(3,(.pointer x3)),(7,(.pointer x7)),(57,(Sl.v x37)),(58,(.int .i64 (x37.len:Int))),(59,(.int .i64 x59))]) (λs w=>zCV x59 Kl3 w) ?_ (λhj4=>?_)))
       ·rintro ⟨⟩ w a H g
        try dsimp only at H g
        unfold zCV at H
        refine zE (g.p (zr g rfl rfl) λ_ g=>g.m rfl λ_ g=>?_)
        rw [hK_l3] at H
        exact zL (tn ⟨(zC .i64 (x59+1)),g.k,H⟩)
       ·refine zX (zI (zE (g.o (zH g rfl rfl) H λx61 w a H g=>g.o (zO g rfl) H λx62 w a H g=>g.o (xY) H λx13 w a H g=>g.h (zT g rfl rfl) H λw a H g=>zL (tn (zI (zE (g.o (zP g rfl) H λx63 w a H g=>g.o (zO g rfl) H λx64 w a H g=>g.o (zO g rfl) H λx65 w a H g=>g.p (zBx g rfl rfl) λ_ g=>zL (tn (zd g rfl (λhc=>?_) (λhc=>?_))))))))))
        ·have H:=H.1 hc
         exact zE (g.o (zP g rfl) H λx67 w a H g=>g.o (zO g rfl) H λx68 w a H g=>g.o (zO g rfl) H λx69 w a H g=>g.o (yj g rfl) H λx70 w a H g=>g.o (zA6 g rfl) H λx71 w a H g=>g.o (zP g rfl) H λx72 w a H g=>g.h (zT g rfl rfl) H λw a H g=>zL (bn (tn (hj4 () _ _ H (g.k)))))
        ·have H:=H.2 hc
         exact zY (bn (tn (hj4 () _ _ H (g.k))))
      ·have H:=H.2 hc
       exact z7 (te (te (be (bn H))))
     ·refine zI (zE (g.m rfl λ_ g=>g.m rfl λ_ g=>g.o (zO g rfl) H λx41 w a H g=>g.c (zb g zPq rfl rfl) H λe w H=>?_))
      obtain ⟨r_2,r_3,rfl,H⟩:=H
      refine ⟨_,rfl,λ_ g=>(g.m rfl λ_ g=>g.p (zc g rfl rfl) λ_ g=>g.p (zc g rfl rfl) λ_ g=>g.o (xY) H λx10 w a H g=>g.h (zT g rfl rfl) H λw a H g=>g.s rfl λ_ g=>zL (tn (zI (zE (g.m rfl λ_ g=>g.m rfl λ_ g=>WL.join (ds:=[]) (N:=75) (σ:=Bool) (λs=>[(50,(.bool s)),(3,(.pointer x3)),(7,(.pointer x7)),(9,(Sl.v x37)),(10,(.pointer x10))]) (λs w=>zDQ x3 x7 x37 Gf1 x10 s w) 4 ?_ (λhr5=>?_))))))⟩
      ·intro x50 w a H g
       try dsimp only at H g
       unfold zDQ at H
       refine zL (tn (zk g rfl (λhc=>?_) (λhc=>?_)))
       ·have H:=H.1 hc
        exact zE (g.o (zP g rfl) H λx51 w a H g=>g.o (zO g rfl) H λx52 w a H g=>g.o (zO g rfl) H λx53 w a H g=>g.o (yj g rfl) H λx54 w a H g=>g.o (zA6 g rfl) H λx55 w a H g=>g.o (zP g rfl) H λx56 w a H g=>g.h (zT g rfl rfl) H λw a H g=>zL (tn (hj2 () _ _ H (g.k))))
       ·have H:=H.2 hc
        exact zY (tn (hj2 () _ _ H (g.k)))
      ·rcases Bool.eq_false_or_eq_true (r_3) with hbr5|hbr5
       ·have H:=H.1 hbr5
        have g:=g.b (b:=true) (t:=46) rfl (hbr5)
        exact g.z (g.o (zP g rfl) H λx47 w a H g=>g.z (g.o (zO g rfl) H λx48 w a H g=>g.z (g.p (zAJ g rfl) λ_ g=>g.p (zx g rfl rfl) λ_ g=>hr5 (!x48) _ _ H (g.k))))
       ·have H:=H.2 hbr5
        have g:=g.b (b:=false) (t:=46) rfl (hbr5)
        exact g.d (λ_ g=>g.d (λ_ g=>g.d (λ_ g=>g.p (zy g rfl rfl) λ_ g=>hr5 false _ _ H (g.k))))
    ·intro D xs w a h1 h2 h3 hD g
     have H:=hdn D xs w h1 h2 h3 hD
     clear hbd hdn hst hnew
     try dsimp only at H
     refine (bn (tn (zI (zE (g.o (zO g rfl) H λx74 w a H g=>g.h (zT g rfl rfl) H λw a H g=>g.s rfl λ_ g=>zL (tn ?_))))))
     obtain ⟨hD0,H⟩:=H
     try dsimp only at H
     obtain ⟨q_3,ad_3,hp_3,hl_3,H⟩:=H
     exact zl (zMR g (rs:=[.cell 4 69,.tmp 5]) (vs:=[(zQ.v q_3),(.int .i64 0)]) rfl hD0 ⟨⟨ad_3,by rw [← hp_3];rfl,hl_3⟩,rfl,trivial⟩ ⟨_,_,rfl,H⟩)
    ·intro D c pre w a hj h1 h2 h3 hD g
     cases hj
def Q7 (x0:Sl) (x1:Value) (w:World) (Ret:Bool->World->Prop):Prop:=
 Cl zA 78 [(Sl.v x0),x1].toArray w (λe w=>∃ (r:Int),e=.returned (.int .i64 r)/\(Ret (decide (0<=r)) w))
set_option maxRecDepth 100000 in
theorem zAq (x0:Sl) (x1:Value) (w:World) (Ret:Bool->World->Prop) (H:Q7 x0 x1 w Ret):Cl zA 57 [(Sl.v x0),x1].toArray w (λe w'=>∃ (r0:Bool),e=.returned (.bool r0)/\Ret r0 w'):=by
 unfold Q7 at H
 refine zp 9 (zipE 0 [(Sl.v x0),x1]) Tryz.func57 rfl rfl (by rfl) rfl ?_
 intro a g
 have g:Sat [] 9 [(0,(Sl.v x0)),(1,x1)] a:=g
 refine zI (zE (g.s rfl λ_ g=>(zL (tn (zI (zE (g.m rfl λ_ g=>(g.m rfl λ_ g=>(g.c (zb g zTa rfl rfl) H λe w H=>?_)))))))))
 obtain ⟨r,rfl,H⟩:=H
 exact ⟨_,rfl,λ_ g=>(g.p (Zm g rfl rfl) λ_ g=>(g.s rfl λ_ g=>(zL (tn (zl (zw g rfl rfl ⟨_,rfl,H⟩))))))⟩
def zCb (Ret:Int->World->Prop) (x18:Int) (Kl2:Int->World->Prop) (x69:Bool) (w:World):Prop:=
 yM w (λw=>(x69=true->(Ret 2 w))/\(x69=false->(Kl2 (zC .i64 (x18+1)) w)))
def zFJ (Ret:Int->World->Prop) (x18:Int) (Kl2:Int->World->Prop) (x68:Bool) (w:World):Prop:=
 zCb Ret x18 Kl2 x68 w
def zCT (Ret:Int->World->Prop) (x1:Option Addr) (x18:Int) (Kl2:Int->World->Prop) (x4:Option Addr) (x52:Bool) (w:World):Prop:=
 ((!x52)=true->(zCb Ret x18 Kl2 true w))/\((!x52)=false->(((0<x18)->(opB zA zB (zN 69 (.pointer x1) 0) w (λx59=>opB zA Sl.v (zD 67 (.pointer x59)) w (λx60=>opB zA zB (zF 67 (Sl.v x60) (.int .i64 (zC .i64 (x18 - 1)))) w (λx63=>opB zA zG.v (zD 72 (.pointer x63)) w (λx64=>opB zA zG.v (zD 72 (.pointer x4)) w (λx65=>∃ (r:Int),(∀ w',Bel w w'->Cl zA 68 [(zG.v x64),(zG.v x65)].toArray w' (λe w''=>e=.returned (.int .i64 r)/\Bel w' w''))/\(zFJ Ret x18 Kl2 (decide (0<=r)) w))))))))/\(¬ (0<x18)->(zFJ Ret x18 Kl2 false w))))
def zCW (Ret:Int->World->Prop) (x1:Option Addr) (x18:Int) (Kl2:Int->World->Prop) (x4:Option Addr) (x46:Bool) (w:World):Prop:=
 (x46=true->(opE zA zB (zN 72 (.pointer x4) 2) w (λx48 w=>opE zA zZ (zD 9 (.pointer x48)) w (λx49 w=>zCT Ret x1 x18 Kl2 x4 (decide ((x49.size:Int)<=512)) w))))/\(x46=false->(zCT Ret x1 x18 Kl2 x4 false w))
def zB0 (Ret:Int->World->Prop) (x1:Option Addr) (x18:Int) (Kl2:Int->World->Prop) (x4:Option Addr) (x40:Bool) (w:World):Prop:=
 (x40=true->(opE zA zB (zN 72 (.pointer x4) 0) w (λx42 w=>opE zA zZ (zD 9 (.pointer x42)) w (λx43 w=>zCW Ret x1 x18 Kl2 x4 (decide ((x43.size:Int)<=256)) w))))/\(x40=false->(zCW Ret x1 x18 Kl2 x4 false w))
def zDP (Ret:Int->World->Prop) (x1:Option Addr) (x18:Int) (Kl2:Int->World->Prop) (x4:Option Addr) (x39:Bool) (w:World):Prop:=
 zB0 Ret x1 x18 Kl2 x4 x39 w
def zCc (Ret:Int->World->Prop) (x1:Option Addr) (x18:Int) (Kl2:Int->World->Prop) (x4:Option Addr) (x30:Bool) (w:World):Prop:=
 (x30=true->(opE zA zB (zN 72 (.pointer x4) 3) w (λx32 w=>opE zA xv (zD 4 (.pointer x32)) w (λx33 w=>((!x33)=true->(zDP Ret x1 x18 Kl2 x4 true w))/\((!x33)=false->(opE zA zB (zN 72 (.pointer x4) 2) w (λx36 w=>opE zA zZ (zD 9 (.pointer x36)) w (λx37 w=>zDP Ret x1 x18 Kl2 x4 (decide (x37=(ByteArray.mk #[]))) w))))))))/\(x30=false->(zB0 Ret x1 x18 Kl2 x4 false w))
def zEk (Ret:Int->World->Prop) (x1:Option Addr) (x16:Sl) (x18:Int) (w:World) (Kl2:Int->World->Prop):Prop:=
 ((x18<(x16.len:Int))->(opE zA zB (zF 67 (Sl.v x16) (.int .i64 x18)) w (λx21 w=>opE zA zG.v (zD 72 (.pointer x21)) w (λx22 w=>opE zA zB (zf 72 true (.tuple #[])) w (λx4 w=>opU zA (zK 72 (.pointer x4) (zG.v x22)) w (λw=>opE zA zB (zN 72 (.pointer x4) 1) w (λx23 w=>opE zA (zV .u64) (zD 37 (.pointer x23)) w (λx24 w=>((1<=x24)->(opE zA zB (zN 72 (.pointer x4) 1) w (λx27 w=>opE zA (zV .u64) (zD 37 (.pointer x27)) w (λx28 w=>zCc Ret x1 x18 Kl2 x4 (decide (x28<=2305843009213693952)) w))))/\(¬ (1<=x24)->(zCc Ret x1 x18 Kl2 x4 false w))))))))))/\(¬ (x18<(x16.len:Int))->(Ret 0 w))
def zCY (Ret:Int->World->Prop) (x1:Option Addr) (x14:Bool) (w:World):Prop:=
 (x14=true->(Ret 2 w))/\(x14=false->(opE zA zB (zN 69 (.pointer x1) 0) w (λx15 w=>opE zA Sl.v (zD 67 (.pointer x15)) w (λx16 w=>∃ (I:Int->World->Prop) (μ:Int->World->Nat),I 0 w/\∀ (x18:Int) w,I x18 w->zEk Ret x1 x16 x18 w (λx18' w'=>I x18' w'/\μ x18' w'<μ x18 w)))))
def zH1 (x0:zQ) (w:World) (Ret:Int->World->Prop):Prop:=
 opE zA zB (Instr.box 69 (zQ.v x0)) w (λx1 w=>opE zA zB (zN 69 (.pointer x1) 0) w (λx6 w=>opE zA Sl.v (zD 67 (.pointer x6)) w (λx7 w=>((4096<(x7.len:Int))->(zCY Ret x1 true w))/\(¬ (4096<(x7.len:Int))->(opE zA zB (zN 69 (.pointer x1) 1) w (λx11 w=>opE zA (zV .u64) (zD 37 (.pointer x11)) w (λx12 w=>zCY Ret x1 (decide (2305843009213693952<x12)) w)))))))
set_option maxRecDepth 100000 in
theorem zLf (x0:zQ) (w:World) (Ret:Int->World->Prop) (H:zH1 x0 w Ret):Cl zA 64 [(zQ.v x0)].toArray w (λe w'=>∃ (r0:Int),e=.returned (.int .i64 r0)/\Ret r0 w'):=by
 unfold zH1 at H
 refine zp 71 (zipE 0 [(zQ.v x0)]) Tryz.func64 rfl rfl (by rfl) rfl ?_
 intro a g
 have g:Sat [] 71 [(0,(zQ.v x0))] a:=g
 refine zI (zE (g.o (zBc g rfl) H λx1 w a H g=>g.s rfl λ_ g=>zL (tn (zI (zI (zE (g.o (zP g rfl) H λx6 w a H g=>g.o (zO g rfl) H λx7 w a H g=>g.purR (λw=>ZU g Tryz.underlying67 rfl) λ_ g=>g.p (zBx g rfl rfl) λ_ g=>g.m rfl λ_ g=>WL.join (ds:=[]) (N:=71) (σ:=Bool) (λs=>[(14,(.bool s)),(1,(.pointer x1))]) (λs w=>zCY Ret x1 s w) 4 ?_ (λhr1=>?_))))))))
 ·intro x14 w a H g
  try dsimp only at H g
  unfold zCY at H
  refine zL (tn (zk g rfl (λhc=>?_) (λhc=>?_)))
  ·have H:=H.1 hc
   exact zI (zE (g.s rfl λ_ g=>zL (tn (zl (tr (zw g rfl rfl ⟨_,rfl,H⟩))))))
  ·have H:=H.2 hc
   refine zY (tn (zI (zI (zE (g.o (zP g rfl) H λx15 w a H g=>g.o (zO g rfl) H λx16 w a H g=>g.purR (λw=>ZU g Tryz.underlying67 rfl) λ_ g=>g.m rfl λ_ g=>zL (tn (zX ?_)))))))
   obtain ⟨I_l2,μ_l2,h0,hb⟩:=H
   refine yE (ds:=[]) (N:=71) (σ:=Int) (λs=>[(18,(.int .i64 s)),(1,(.pointer x1)),(16,(Sl.v x16)),(17,(.int .i64 (x16.len:Int)))]) (λs w=>I_l2 s w) (λs w=>μ_l2 s w) 0 h0 (g.k) ?_
   intro x18 w a hI g
   try dsimp only at hI g
   obtain ⟨Kl2,hK_l2⟩:∃ K:Int->World->Prop,K=(λx18' w'=>I_l2 x18' w'/\μ_l2 x18' w'<μ_l2 x18 w):=⟨_,rfl⟩
   have H:zEk Ret x1 x16 x18 w Kl2:=by rw [hK_l2];exact hb x18 w hI
   clear hb h0 hI
   unfold zEk at H
   refine zI (zE (g.p (yR g rfl rfl) λ_ g=>zL (tn (zI (zd g rfl (λhc=>?_) (λhc=>?_))))))
   ·have H:=H.1 hc
    refine zY (tn (zI (zX (zI (zE (g.m rfl λ_ g=>g.o (zH g rfl rfl) H λx21 w a H g=>g.o (zO g rfl) H λx22 w a H g=>g.o (xY) H λx4 w a H g=>g.s rfl λ_ g=>g.h (zT g rfl rfl) H λw a H g=>zL (tn (zI (zE (g.o (zP g rfl) H λx23 w a H g=>g.o (zO g rfl) H λx24 w a H g=>g.p (Zm g rfl rfl) λ_ g=>g.m rfl λ_ g=>WL.join (ds:=[]) (N:=71) (σ:=Bool) (λs=>[(30,(.bool s)),(1,(.pointer x1)),(3,(.int .i64 x18)),(4,(.pointer x4)),(16,(Sl.v x16)),(17,(.int .i64 (x16.len:Int))),(18,(.int .i64 x18))]) (λs w=>zCc Ret x1 x18 Kl2 x4 s w) 4 ?_ (λhr3=>?_)))))))))))
    ·intro x30 w a H g
     try dsimp only at H g
     unfold zCc at H
     refine g.m rfl λ_ g=>WL.join (ds:=[]) (N:=71) (σ:=Bool) (λs=>[(40,(.bool s)),(1,(.pointer x1)),(3,(.int .i64 x18)),(4,(.pointer x4)),(16,(Sl.v x16)),(17,(.int .i64 (x16.len:Int))),(18,(.int .i64 x18))]) (λs w=>zB0 Ret x1 x18 Kl2 x4 s w) 9 ?_ (λhr4=>?_)
     ·intro x40 w a H g
      try dsimp only at H g
      unfold zB0 at H
      refine g.m rfl λ_ g=>WL.join (ds:=[]) (N:=71) (σ:=Bool) (λs=>[(46,(.bool s)),(1,(.pointer x1)),(3,(.int .i64 x18)),(4,(.pointer x4)),(16,(Sl.v x16)),(17,(.int .i64 (x16.len:Int))),(18,(.int .i64 x18))]) (λs w=>zCW Ret x1 x18 Kl2 x4 s w) 5 ?_ (λhr5=>?_)
      ·intro x46 w a H g
       try dsimp only at H g
       unfold zCW at H
       refine g.m rfl λ_ g=>WL.join (ds:=[]) (N:=71) (σ:=Bool) (λs=>[(52,(.bool s)),(1,(.pointer x1)),(3,(.int .i64 x18)),(4,(.pointer x4)),(16,(Sl.v x16)),(17,(.int .i64 (x16.len:Int))),(18,(.int .i64 x18))]) (λs w=>zCT Ret x1 x18 Kl2 x4 s w) 5 ?_ (λhr6=>?_)
       ·intro x52 w a H g
        try dsimp only at H g
        unfold zCT at H
        refine g.s rfl λ_ g=>zL (tn (zI (QU (by kernel_rfl) (by kernel_rfl) (g.t rfl λ_ g=>g.r (zAJ g rfl) λ_ g=>g.t rfl λ_ g=>WQ.join (ds:=[]) (N:=71) (σ:=Bool) (λs=>[(69,(.bool s)),(1,(.pointer x1)),(16,(Sl.v x16)),(17,(.int .i64 (x16.len:Int))),(18,(.int .i64 x18))]) (λs=>zCb Ret x18 Kl2 s w) 14 ?_ (λhr7=>?_)))))
        ·intro x69 a H g
         try dsimp only at H g
         unfold zCb at H
         refine Qb (λw hB=>?_)
         replace H:=H w hB
         refine (tn (zk g rfl (λhc=>?_) (λhc=>?_)))
         ·have H:=H.1 hc
          exact zI (zE (g.s rfl λ_ g=>zL (tn (zl (br (tr (tr (br (tr (zw g rfl rfl ⟨_,rfl,H⟩))))))))))
         ·have H:=H.2 hc
          refine zY (bn (tn (zE (g.p (zr g rfl rfl) λ_ g=>g.m rfl λ_ g=>?_))))
          rw [hK_l2] at H
          exact zL (tn ⟨(zC .i64 (x18+1)),g.k,H⟩)
        ·rcases Bool.eq_false_or_eq_true ((!x52)) with hbr7|hbr7
         ·have H:=H.1 hbr7
          have g:=g.b (b:=true) (t:=55) rfl (hbr7)
          exact g.g (λ_ g=>g.g (λ_ g=>g.g (λ_ g=>g.qoffU (by rfl) (by rfl) (λ_ g=>g.qoffU (by rfl) (by rfl) (λ_ g=>g.qoffU (by rfl) (by rfl) (λ_ g=>g.qoffU (by rfl) (by rfl) (λ_ g=>g.qoffU (by rfl) (by rfl) (λ_ g=>g.qoffU (by rfl) (by rfl) (λ_ g=>g.qoffU (by rfl) (by rfl) (λ_ g=>g.qoffU (by rfl) (by rfl) (λ_ g=>g.qoffU (by rfl) (by rfl) (λ_ g=>g.g (λ_ g=>g.r (zx g rfl rfl) λ_ g=>hr7 true _ H (g.k))))))))))))))
         ·have H:=H.2 hbr7
          have g:=g.b (b:=false) (t:=55) rfl (hbr7)
          refine g.e (g.t rfl λ_ g=>g.e (g.r (zBx g rfl rfl) λ_ g=>g.e (g.t rfl λ_ g=>WQ.join (ds:=[]) (N:=71) (σ:=Bool) (λs=>[(68,(.bool s)),(1,(.pointer x1)),(16,(Sl.v x16)),(17,(.int .i64 (x16.len:Int))),(18,(.int .i64 x18)),(55,(.bool false))]) (λs=>zFJ Ret x18 Kl2 s w) 10 ?_ (λhr8=>?_))))
          ·intro x68 a H g
           try dsimp only at H g
           unfold zFJ at H
           exact g.r (zy g rfl rfl) λ_ g=>hr7 x68 _ H (g.k)
          ·rcases Classical.em ((0<x18)) with hbr8|hbr8
           ·have H:=H.1 hbr8
            have g:=g.b (b:=true) (t:=58) rfl (decide_eq_true hbr8)
            refine g.e (g.A (zP g rfl) H λx59 a H g=>g.e (g.A (zO g rfl) H λx60 a H g=>g.e (g.t rfl λ_ g=>g.e (g.r (zv g rfl rfl) λ_ g=>g.e (g.A (zH g rfl rfl) H λx63 a H g=>g.e (g.A (zO g rfl) H λx64 a H g=>g.e (g.A (zO g rfl) H λx65 a H g=>g.e ?_)))))))
            obtain ⟨r,hc,H⟩:=H
            exact g.qcall (λw'=>zb g zR5 rfl rfl) hc λ_ g=>g.e (g.r (Zm g rfl rfl) λ_ g=>g.e (g.r (zx g rfl rfl) λ_ g=>hr8 (decide (0<=r)) _ H (g.k)))
           ·have H:=H.2 hbr8
            have g:=g.b (b:=false) (t:=58) rfl (decide_eq_false hbr8)
            exact g.g (λ_ g=>g.g (λ_ g=>g.g (λ_ g=>g.g (λ_ g=>g.g (λ_ g=>g.g (λ_ g=>g.g (λ_ g=>g.g (λ_ g=>g.g (λ_ g=>g.e (g.r (zy g rfl rfl) λ_ g=>hr8 false _ H (g.k)))))))))))
       ·rcases Bool.eq_false_or_eq_true (x46) with hbr6|hbr6
        ·have H:=H.1 hbr6
         have g:=g.b (b:=true) (t:=47) rfl (hbr6)
         exact g.z (g.o (zP g rfl) H λx48 w a H g=>g.z (g.o (zO g rfl) H λx49 w a H g=>g.z (g.purR (λw=>zH4 g Tryz.underlying9 rfl) λ_ g=>g.z (g.p (zCw g rfl rfl) λ_ g=>g.p (zx g rfl rfl) λ_ g=>hr6 (decide ((x49.size:Int)<=512)) _ _ H (g.k)))))
        ·have H:=H.2 hbr6
         have g:=g.b (b:=false) (t:=47) rfl (hbr6)
         exact g.d (λ_ g=>g.d (λ_ g=>g.d (λ_ g=>g.d (λ_ g=>g.p (zy g rfl rfl) λ_ g=>hr6 false _ _ H (g.k)))))
      ·rcases Bool.eq_false_or_eq_true (x40) with hbr5|hbr5
       ·have H:=H.1 hbr5
        have g:=g.b (b:=true) (t:=41) rfl (hbr5)
        exact g.z (g.o (zP g rfl) H λx42 w a H g=>g.z (g.o (zO g rfl) H λx43 w a H g=>g.z (g.purR (λw=>zH4 g Tryz.underlying9 rfl) λ_ g=>g.z (g.p (zCw g rfl rfl) λ_ g=>g.p (zx g rfl rfl) λ_ g=>hr5 (decide ((x43.size:Int)<=256)) _ _ H (g.k)))))
       ·have H:=H.2 hbr5
        have g:=g.b (b:=false) (t:=41) rfl (hbr5)
        exact g.d (λ_ g=>g.d (λ_ g=>g.d (λ_ g=>g.d (λ_ g=>g.p (zy g rfl rfl) λ_ g=>hr5 false _ _ H (g.k)))))
     ·rcases Bool.eq_false_or_eq_true (x30) with hbr4|hbr4
      ·have H:=H.1 hbr4
       have g:=g.b (b:=true) (t:=31) rfl (hbr4)
       refine g.z (g.o (zP g rfl) H λx32 w a H g=>g.z (g.o (zO g rfl) H λx33 w a H g=>g.z (g.p (zAJ g rfl) λ_ g=>g.z (g.m rfl λ_ g=>WL.join (ds:=[]) (N:=71) (σ:=Bool) (λs=>[(39,(.bool s)),(1,(.pointer x1)),(3,(.int .i64 x18)),(4,(.pointer x4)),(16,(Sl.v x16)),(17,(.int .i64 (x16.len:Int))),(18,(.int .i64 x18)),(31,(.bool true))]) (λs w=>zDP Ret x1 x18 Kl2 x4 s w) 4 ?_ (λhr9=>?_)))))
       ·intro x39 w a H g
        try dsimp only at H g
        unfold zDP at H
        exact g.p (zx g rfl rfl) λ_ g=>hr4 x39 _ _ H (g.k)
       ·rcases Bool.eq_false_or_eq_true ((!x33)) with hbr9|hbr9
        ·have H:=H.1 hbr9
         have g:=g.b (b:=true) (t:=35) rfl (hbr9)
         exact g.d (λ_ g=>g.d (λ_ g=>g.d (λ_ g=>g.z (g.p (zx g rfl rfl) λ_ g=>hr9 true _ _ H (g.k)))))
        ·have H:=H.2 hbr9
         have g:=g.b (b:=false) (t:=35) rfl (hbr9)
         exact g.z (g.o (zP g rfl) H λx36 w a H g=>g.z (g.o (zO g rfl) H λx37 w a H g=>g.z (g.p (zLJ g rfl rfl) λ_ g=>g.z (g.p (zy g rfl rfl) λ_ g=>hr9 (decide (x37=(ByteArray.mk #[]))) _ _ H (g.k)))))
      ·have H:=H.2 hbr4
       have g:=g.b (b:=false) (t:=31) rfl (hbr4)
       exact g.d (λ_ g=>g.d (λ_ g=>g.d (λ_ g=>g.d (λ_ g=>g.offU (by rfl) (by rfl) (λ_ g=>g.offU (by rfl) (by rfl) (λ_ g=>g.offU (by rfl) (by rfl) (λ_ g=>g.d (λ_ g=>g.p (zy g rfl rfl) λ_ g=>hr4 false _ _ H (g.k)))))))))
    ·rcases Classical.em ((1<=x24)) with hbr3|hbr3
     ·have H:=H.1 hbr3
      have g:=g.b (b:=true) (t:=26) rfl (decide_eq_true hbr3)
      exact g.z (g.o (zP g rfl) H λx27 w a H g=>g.z (g.o (zO g rfl) H λx28 w a H g=>g.z (g.p (zCw g rfl rfl) λ_ g=>g.p (zx g rfl rfl) λ_ g=>hr3 (decide (x28<=2305843009213693952)) _ _ H (g.k))))
     ·have H:=H.2 hbr3
      have g:=g.b (b:=false) (t:=26) rfl (decide_eq_false hbr3)
      exact g.d (λ_ g=>g.d (λ_ g=>g.d (λ_ g=>g.p (zy g rfl rfl) λ_ g=>hr3 false _ _ H (g.k))))
   ·have H:=H.2 hc
    exact z7 (te (te (be (tn (zI (zE (g.s rfl λ_ g=>zL (tn (zl (zw g rfl rfl ⟨_,rfl,H⟩))))))))))
 ·rcases Classical.em ((4096<(x7.len:Int))) with hbr1|hbr1
  ·have H:=H.1 hbr1
   have g:=g.b (b:=true) (t:=10) rfl (decide_eq_true hbr1)
   exact g.d (λ_ g=>g.d (λ_ g=>g.d (λ_ g=>g.p (zx g rfl rfl) λ_ g=>hr1 true _ _ H (g.k))))
  ·have H:=H.2 hbr1
   have g:=g.b (b:=false) (t:=10) rfl (decide_eq_false hbr1)
   exact g.z (g.o (zP g rfl) H λx11 w a H g=>g.z (g.o (zO g rfl) H λx12 w a H g=>g.z (g.p (zBx g rfl rfl) λ_ g=>g.p (zy g rfl rfl) λ_ g=>hr1 (decide (2305843009213693952<x12)) _ _ H (g.k))))
def zEg (x0:Sl) (Ret:Int->World->Prop) (x13:Option Nat) (x16:Int) (w:World) (Kl1:Int->World->Prop):Prop:=
 ((x16<(x0.len:Int))->(opE zA zB (zF 30 (Sl.v x0) (.int .i64 x16)) w (λx18 w=>opE zA zJ.v (zD 34 (.pointer x18)) w (λx19 w=>opE zA zB (zf 34 true (.tuple #[])) w (λx5 w=>opU zA (zK 34 (.pointer x5) (zJ.v x19)) w (λw=>opE zA zB (zN 34 (.pointer x5) 0) w (λx22 w=>opE zA zZ (zD 9 (.pointer x22)) w (λx23 w=>opE zA (λp:zGJ × Bool=>.tuple [(zGJ.v p.1),(.bool p.2)].toArray) (Instr.lookup 152 (.map x13) (.string x23) true) w (λx24 w=>opE zA zB (zf 153 true (.tuple #[])) w (λx6 w=>opU zA (zK 153 (.pointer x6) (zGJ.v x24.1)) w (λw=>(x24.2=true->(Ret 12 w))/\(x24.2=false->(opE zA zB (zN 34 (.pointer x5) 0) w (λx29 w=>opE zA zZ (zD 9 (.pointer x29)) w (λx30 w=>opE zA zGJ.v (yr 153 [].toArray) w (λx31 w=>opU zA (Instr.mapUpdate 152 (.map x13) (.string x30) (zGJ.v x31)) w (λw=>Kl1 (zC .i64 (x16+1)) w)))))))))))))))))/\(¬ (x16<(x0.len:Int))->(Ret 0 w))
def zH0 (x0:Sl) (w:World) (Ret:Int->World->Prop):Prop:=
 ((4096<(x0.len:Int))->(Ret 3 w))/\(¬ (4096<(x0.len:Int))->(Cl zA 83 [(Sl.v x0),(.func (.func 84) #[] #[])].toArray w (λe w=>∃ (r:Bool),e=.returned (.bool r)/\((r=true->(Ret 4 w))/\(r=false->(opE zA Value.map (Instr.makeMap 152 none) w (λx13 w=>∃ (I:Int->World->Prop) (μ:Int->World->Nat),I 0 w/\∀ (x16:Int) w,I x16 w->zEg x0 Ret x13 x16 w (λx16' w'=>I x16' w'/\μ x16' w'<μ x16 w))))))))
set_option maxRecDepth 100000 in
theorem zLn (x0:Sl) (w:World) (Ret:Int->World->Prop) (H:zH0 x0 w Ret):Cl zA 65 [(Sl.v x0)].toArray w (λe w'=>∃ (r0:Int),e=.returned (.int .i64 r0)/\Ret r0 w'):=by
 unfold zH0 at H
 refine zp 33 (zipE 0 [(Sl.v x0)]) Tryz.func65 rfl rfl (by rfl) rfl ?_
 intro a g
 have g:Sat [] 33 [(0,(Sl.v x0))] a:=g
 refine zI (zE (g.s rfl λ_ g=>zL (tn (zI (zI (zE (g.m rfl λ_ g=>g.purR (λw=>ZU g Tryz.underlying30 rfl) λ_ g=>g.p (zBx g rfl rfl) λ_ g=>zL (tn (zd g rfl (λhc=>?_) (λhc=>?_))))))))))
 ·have H:=H.1 hc
  exact zI (zE (g.s rfl λ_ g=>zL (tn (zl (tr (zw g rfl rfl ⟨_,rfl,H⟩))))))
 ·have H:=H.2 hc
  refine zY (tn (zI (zI (zE (g.m rfl λ_ g=>g.c (zb g zTN rfl rfl) H λe w H=>?_)))))
  obtain ⟨r,rfl,H⟩:=H
  refine ⟨_,rfl,λ_ g=>(zL (tn (zk g rfl (λhc=>?_) (λhc=>?_))))⟩
  ·have H:=H.1 hc
   exact zI (zE (g.s rfl λ_ g=>zL (tn (zl (tr (zw g rfl rfl ⟨_,rfl,H⟩))))))
  ·have H:=H.2 hc
   refine zY (tn (zI (zE (g.o (zKb) H λx13 w a H g=>g.s rfl λ_ g=>zL (tn (zI (zI (zE (g.m rfl λ_ g=>g.purR (λw=>ZU g Tryz.underlying30 rfl) λ_ g=>g.m rfl λ_ g=>zL (tn (zX ?_)))))))))))
   obtain ⟨I_l1,μ_l1,h0,hb⟩:=H
   refine yE (ds:=[]) (N:=33) (σ:=Int) (λs=>[(16,(.int .i64 s)),(3,(.map x13)),(14,(Sl.v x0)),(15,(.int .i64 (x0.len:Int)))]) (λs w=>I_l1 s w) (λs w=>μ_l1 s w) 0 h0 (g.k) ?_
   intro x16 w a hI g
   try dsimp only at hI g
   obtain ⟨Kl1,hK_l1⟩:∃ K:Int->World->Prop,K=(λx16' w'=>I_l1 x16' w'/\μ_l1 x16' w'<μ_l1 x16 w):=⟨_,rfl⟩
   have H:zEg x0 Ret x13 x16 w Kl1:=by rw [hK_l1];exact hb x16 w hI
   clear hb h0 hI
   unfold zEg at H
   refine zI (zE (g.p (yR g rfl rfl) λ_ g=>zL (tn (zI (zd g rfl (λhc=>?_) (λhc=>?_))))))
   ·have H:=H.1 hc
    refine zY (tn (zI (zX (zI (zE (g.o (zH g rfl rfl) H λx18 w a H g=>g.o (zO g rfl) H λx19 w a H g=>g.o (xY) H λx5 w a H g=>g.h (zT g rfl rfl) H λw a H g=>zL (tn (zI (zI (zE (g.m rfl λ_ g=>g.o (zP g rfl) H λx22 w a H g=>g.o (zO g rfl) H λx23 w a H g=>g.o (zId g rfl rfl) H λx24 w a H g=>g.m rfl λ_ g=>g.p (zc g rfl rfl) λ_ g=>g.p (zc g rfl rfl) λ_ g=>g.o (xY) H λx6 w a H g=>g.h (zT g rfl rfl) H λw a H g=>g.s rfl λ_ g=>zL (tn (zI (zE (g.m rfl λ_ g=>zL (tn (zk g rfl (λhc=>?_) (λhc=>?_))))))))))))))))))
    ·have H:=H.1 hc
     exact zI (zE (g.s rfl λ_ g=>zL (tn (zl (tr (br (tr (tr (br (tr (zw g rfl rfl ⟨_,rfl,H⟩)))))))))))
    ·have H:=H.2 hc
     refine zY (tn (zE (g.m rfl λ_ g=>g.o (zP g rfl) H λx29 w a H g=>g.o (zO g rfl) H λx30 w a H g=>g.o (Z5 g rfl) H λx31 w a H g=>g.h (zIl g rfl rfl rfl) H λw a H g=>zL (bn (tn (zE (g.p (zr g rfl rfl) λ_ g=>g.m rfl λ_ g=>?_)))))))
     rw [hK_l1] at H
     exact zL (tn ⟨(zC .i64 (x16+1)),g.k,H⟩)
   ·have H:=H.2 hc
    exact z7 (te (te (be (tn (zI (zE (g.s rfl λ_ g=>zL (tn (zl (zw g rfl rfl ⟨_,rfl,H⟩))))))))))
def zH7 (x0:zG) (x1:Option Addr) (w:World) (Ret:Bool->World->Prop):Prop:=
 opE zA zB (Instr.box 72 (zG.v x0)) w (λx2 w=>opE zA zB (zN 72 (.pointer x2) 1) w (λx4 w=>opE zA (zV .u64) (zD 37 (.pointer x4)) w (λx5 w=>opE zA (zV .u64) (zD 37 (.pointer x1)) w (λx6 w=>Ret (decide (x6<=x5)) w))))
set_option maxRecDepth 100000 in
theorem zLo (x0:zG) (x1:Option Addr) (w:World) (Ret:Bool->World->Prop) (H:zH7 x0 x1 w Ret):Cl zA 66 [(zG.v x0),(.pointer x1)].toArray w (λe w'=>∃ (r0:Bool),e=.returned (.bool r0)/\Ret r0 w'):=by
 unfold zH7 at H
 refine zp 8 (zipE 0 [(zG.v x0),(.pointer x1)]) Tryz.func66 rfl rfl (by rfl) rfl ?_
 intro a g
 have g:Sat [] 8 [(0,(zG.v x0)),(1,(.pointer x1))] a:=g
 exact zI (zE (g.o (zBc g rfl) H λx2 w a H g=>(g.s rfl λ_ g=>(zL (tn (zI (zE (g.o (zP g rfl) H λx4 w a H g=>(g.o (zO g rfl) H λx5 w a H g=>(g.o (zO g rfl) H λx6 w a H g=>(g.p (Zm g rfl rfl) λ_ g=>(g.s rfl λ_ g=>(zL (tn (zl (zw g rfl rfl ⟨_,rfl,H⟩))))))))))))))))
def zH3 (x0:zG) (x1:zG) (w:World) (Ret:Int->World->Prop):Prop:=
 opE zA zB (Instr.box 72 (zG.v x0)) w (λx2 w=>opE zA zB (Instr.box 72 (zG.v x1)) w (λx3 w=>regC w (λC1 w=>opC C1 zA zB (zN 72 (.pointer x2) 0) (λx5=>opC C1 zA zB (zN 72 (.pointer x3) 0) (λx7=>opC C1 zA zB (zN 72 (.pointer x2) 1) (λx10=>opC C1 zA zB (zN 72 (.pointer x3) 1) (λx12=>opC C1 zA zZ (zD 9 (.pointer x5)) (λx6=>opC C1 zA zZ (zD 9 (.pointer x7)) (λx8=>opC C1 zA (zV .u64) (zD 37 (.pointer x10)) (λx11=>opC C1 zA (zV .u64) (zD 37 (.pointer x12)) (λx13=>Cl zA 48 [(.string x6),(.string x8)].toArray w (λe w=>∃ (r:Int),e=.returned (.int .i64 r)/\(C1 w/\(Cl zA 87 [(.int .u64 x11),(.int .u64 x13)].toArray w (λe w=>∃ (r_1:Int),e=.returned (.int .i64 r_1)/\(C1 w/\(opE zA Sl.v (ze 24 2 [(0,(.int .i64 r)),(1,(.int .i64 r_1))].toArray) w (λx15 w=>C1 w/\(Cl zA 86 [(Sl.v x15)].toArray w (λe w=>∃ (r_2:Int),e=.returned (.int .i64 r_2)/\(C1 w/\(Ret r_2 w))))))))))))))))))))))
set_option maxRecDepth 100000 in
theorem zLb (x0:zG) (x1:zG) (w:World) (Ret:Int->World->Prop) (H:zH3 x0 x1 w Ret):Cl zA 68 [(zG.v x0),(zG.v x1)].toArray w (λe w'=>∃ (r0:Int),e=.returned (.int .i64 r0)/\Ret r0 w'):=by
 unfold zH3 at H
 refine zp 17 (zipE 0 [(zG.v x0),(zG.v x1)]) Tryz.func68 rfl rfl (by rfl) rfl ?_
 intro a g
 have g:Sat [] 17 [(0,(zG.v x0)),(1,(zG.v x1))] a:=g
 refine zI (zE (g.o (zBc g rfl) H λx2 w a H g=>g.o (zBc g rfl) H λx3 w a H g=>g.s rfl λ_ g=>zL (tn (zI (zPV H 13 λC1 w hC0 H=>g.ko 0 rfl hC0 (zP g rfl) H λx5 a H g=>g.ko 2 rfl hC0 (zP g rfl) H λx7 a H g=>g.ko 5 rfl hC0 (zP g rfl) H λx10 a H g=>g.ko 7 rfl hC0 (zP g rfl) H λx12 a H g=>g.ko 1 rfl hC0 (zO g rfl) H λx6 a H g=>g.ko 3 rfl hC0 (zO g rfl) H λx8 a H g=>g.ko 6 rfl hC0 (zO g rfl) H λx11 a H g=>g.ko 8 rfl hC0 (zO g rfl) H λx13 a H g=>WK.on 4 rfl ?_)))))
 intro K hK
 refine g.wcall (zb g zQx rfl rfl) H λe w H=>?_
 obtain ⟨r,rfl,H⟩:=H
 refine ⟨_,rfl,λ_ g=>(hK _ _ ⟨H.1,?_⟩)⟩
 have hC1:=H.1
 have H:=H.2
 refine WK.on 9 rfl ?_
 intro K hK
 refine g.wcall (zb g zS3 rfl rfl) H λe w H=>?_
 obtain ⟨r_1,rfl,H⟩:=H
 refine ⟨_,rfl,λ_ g=>(hK _ _ ⟨H.1,?_⟩)⟩
 have hC2:=H.1
 have H:=H.2
 refine WK.on 10 rfl ?_
 intro K hK
 refine g.i (yj g rfl) H λx15 w a H g=>hK _ _ ⟨H.1,?_⟩
 have hC3:=H.1
 have H:=H.2
 refine WK.on 11 rfl ?_
 intro K hK
 refine g.wcall (zb g zS5 rfl rfl) H λe w H=>?_
 obtain ⟨r_2,rfl,H⟩:=H
 refine ⟨_,rfl,λ_ g=>(hK _ _ ⟨H.1,?_⟩)⟩
 have hC4:=H.1
 have H:=H.2
 exact g.kp 12 rfl hC4 (xu (ZI g rfl)) λ_ g=>WK.nil (by kernel_rfl) ((tn (zl (zw g rfl rfl ⟨_,rfl,H⟩))))
def zCX (Ret:Int->World->Prop) (r:Int) (x15:Bool) (w:World):Prop:=
 (x15=true->(Ret 9 w))/\(x15=false->(Ret r w))
def zHr (x0:zQ) (x1:Int) (w:World) (Ret:Int->World->Prop):Prop:=
 opE zA zB (Instr.box 69 (zQ.v x0)) w (λx2 w=>opE zA zQ.v (zD 69 (.pointer x2)) w (λx6 w=>Cl zA 64 [(zQ.v x6)].toArray w (λe w=>∃ (r:Int),e=.returned (.int .i64 r)/\(((r=0)->(opE zA zB (zN 69 (.pointer x2) 1) w (λx12 w=>opE zA (zV .u64) (zD 37 (.pointer x12)) w (λx13 w=>zCX Ret r (decide (x1<x13)) w))))/\(¬ (r=0)->(zCX Ret r false w))))))
set_option maxRecDepth 100000 in
theorem zLs (x0:zQ) (x1:Int) (w:World) (Ret:Int->World->Prop) (H:zHr x0 x1 w Ret):Cl zA 69 [(zQ.v x0),(.int .u64 x1)].toArray w (λe w'=>∃ (r0:Int),e=.returned (.int .i64 r0)/\Ret r0 w'):=by
 unfold zHr at H
 refine zp 17 (zipE 0 [(zQ.v x0),(.int .u64 x1)]) Tryz.func69 rfl rfl (by rfl) rfl ?_
 intro a g
 have g:Sat [] 17 [(0,(zQ.v x0)),(1,(.int .u64 x1))] a:=g
 refine zI (zE (g.o (zBc g rfl) H λx2 w a H g=>g.s rfl λ_ g=>zL (tn (zI (zE (g.o (zO g rfl) H λx6 w a H g=>g.c (zb g zQw rfl rfl) H λe w H=>?_))))))
 obtain ⟨r,rfl,H⟩:=H
 refine ⟨_,rfl,λ_ g=>(g.s rfl λ_ g=>zL (tn (zI (zI (zE (g.m rfl λ_ g=>g.p (Zb g rfl rfl) λ_ g=>g.m rfl λ_ g=>WL.join (ds:=[]) (N:=17) (σ:=Bool) (λs=>[(15,(.bool s)),(5,(.int .i64 r))]) (λs w=>zCX Ret r s w) 5 ?_ (λhr1=>?_)))))))⟩
 ·intro x15 w a H g
  try dsimp only at H g
  unfold zCX at H
  refine zL (tn (zk g rfl (λhc=>?_) (λhc=>?_)))
  ·have H:=H.1 hc
   exact zI (zE (g.s rfl λ_ g=>zL (tn (zl (tr (zw g rfl rfl ⟨_,rfl,H⟩))))))
  ·have H:=H.2 hc
   exact zY (tn (zI (zE (g.m rfl λ_ g=>g.s rfl λ_ g=>zL (tn (zl (zw g rfl rfl ⟨_,rfl,H⟩)))))))
 ·rcases Classical.em ((r=0)) with hbr1|hbr1
  ·have H:=H.1 hbr1
   have g:=g.b (b:=true) (t:=10) rfl (decide_eq_true hbr1)
   exact g.z (g.m rfl λ_ g=>g.z (g.o (zP g rfl) H λx12 w a H g=>g.z (g.o (zO g rfl) H λx13 w a H g=>g.z (g.p (yR g rfl rfl) λ_ g=>g.p (zx g rfl rfl) λ_ g=>hr1 (decide (x1<x13)) _ _ H (g.k)))))
  ·have H:=H.2 hbr1
   have g:=g.b (b:=false) (t:=10) rfl (decide_eq_false hbr1)
   exact g.d (λ_ g=>g.d (λ_ g=>g.d (λ_ g=>g.d (λ_ g=>g.p (zy g rfl rfl) λ_ g=>hr1 false _ _ H (g.k)))))
def zBs (x0:Sl) (Ret:zG->Bool->World->Prop) (x6:Option Addr) (x8:Int) (x32:Bool) (w:World):Prop:=
 (x32=true->(opE zA zG.v (yr 72 [].toArray) w (λx33 w=>opU zA (zK 72 (.pointer x6) (zG.v x33)) w (λw=>opR zA zG.v 72 x6 w (λq=>Ret q false w)))))/\(x32=false->(opE zA zB (zF 67 (Sl.v x0) (.int .i64 x8)) w (λx36 w=>opE zA zG.v (zD 72 (.pointer x36)) w (λx37 w=>opU zA (zK 72 (.pointer x6) (zG.v x37)) w (λw=>opR zA zG.v 72 x6 w (λq_1=>Ret q_1 true w))))))
def zCu (x0:Sl) (x1:ByteArray) (Ret:zG->Bool->World->Prop) (x6:Option Addr) (x8:Int) (w:World):Prop:=
 ((x8<0)->(zBs x0 Ret x6 x8 true w))/\(¬ (x8<0)->(opE zA zB (zF 67 (Sl.v x0) (.int .i64 x8)) w (λx27 w=>opE zA zB (zN 72 (.pointer x27) 0) w (λx28 w=>opE zA zZ (zD 9 (.pointer x28)) w (λx29 w=>zBs x0 Ret x6 x8 (decide (x29≠x1)) w)))))
def zI3 (x0:Sl) (x1:ByteArray) (x2:Int) (w:World) (Ret:zG->Bool->World->Prop):Prop:=
 opE zA zB (zf 72 true (.tuple #[])) w (λx6 w=>opE zA zG.v (yr 72 [(0,(.string x1)),(1,(.int .u64 x2))].toArray) w (λx14 w=>Cl zA 89 [(Sl.v x0),(zG.v x14),(.func (.func 68) #[] #[])].toArray w (λe w=>∃ (r:Int) (r_1:Bool),e=.returned (.tuple [(.int .i64 r),(.bool r_1)].toArray)/\(((!r_1)=true->(zCu x0 x1 Ret x6 (zC .i64 (r - 1)) w))/\((!r_1)=false->(zCu x0 x1 Ret x6 r w))))))
set_option maxRecDepth 100000 in
theorem zMo (x0:Sl) (x1:ByteArray) (x2:Int) (w:World) (Ret:zG->Bool->World->Prop) (H:zI3 x0 x1 x2 w Ret):Cl zA 71 [(Sl.v x0),(.string x1),(.int .u64 x2)].toArray w (λe w'=>∃ (r0:zG) (r1:Bool),e=.returned (.tuple [(zG.v r0),(.bool r1)].toArray)/\Ret r0 r1 w'):=by
 unfold zI3 at H
 refine zp 38 (zipE 0 [(Sl.v x0),(.string x1),(.int .u64 x2)]) Tryz.func71 rfl rfl (by rfl) rfl ?_
 intro a g
 have g:Sat [] 38 [(0,(Sl.v x0)),(1,(.string x1)),(2,(.int .u64 x2))] a:=g
 refine zI (zE (g.o (xY) H λx6 w a H g=>g.s rfl λ_ g=>zL (tn (zI (zE (g.m rfl λ_ g=>g.m rfl λ_ g=>g.m rfl λ_ g=>g.o (Z5 g rfl) H λx14 w a H g=>g.c (zb g zTZ rfl rfl) H λe w H=>?_))))))
 obtain ⟨r,r_1,rfl,H⟩:=H
 refine ⟨_,rfl,λ_ g=>(g.m rfl λ_ g=>g.p (zc g rfl rfl) λ_ g=>g.p (zc g rfl rfl) λ_ g=>g.s rfl λ_ g=>g.s rfl λ_ g=>zL (tn (z8 (ds:=[]) (N:=38) (σ:=Int) (λs=>[(8,(.int .i64 s)),(0,(Sl.v x0)),(1,(.string x1)),(6,(.pointer x6))]) (λs w=>zCu x0 x1 Ret x6 s w) ?_ (λhj1=>?_))))⟩
 ·intro x8 w a H g
  try dsimp only at H g
  unfold zCu at H
  refine zI (zI (zE (g.m rfl λ_ g=>g.p (yR g rfl rfl) λ_ g=>g.m rfl λ_ g=>WL.join (ds:=[]) (N:=38) (σ:=Bool) (λs=>[(32,(.bool s)),(0,(Sl.v x0)),(6,(.pointer x6)),(8,(.int .i64 x8))]) (λs w=>zBs x0 Ret x6 x8 s w) 8 ?_ (λhr2=>?_))))
  ·intro x32 w a H g
   try dsimp only at H g
   unfold zBs at H
   refine zL (tn (zk g rfl (λhc=>?_) (λhc=>?_)))
   ·have H:=H.1 hc
    refine zI (zE (g.o (Z5 g rfl) H λx33 w a H g=>g.h (zT g rfl rfl) H λw a H g=>g.s rfl λ_ g=>zL (tn ?_)))
    obtain ⟨q,ad,hp,hl,H⟩:=H
    exact zl (tr (zLA g (rs:=[.cell 6 72,.tmp 7]) (vs:=[(zG.v q),(.bool false)]) rfl ⟨⟨ad,by rw [← hp];rfl,hl⟩,rfl,trivial⟩ ⟨_,_,rfl,H⟩))
   ·have H:=H.2 hc
    refine zY (tn (zI (zE (g.m rfl λ_ g=>g.m rfl λ_ g=>g.o (zH g rfl rfl) H λx36 w a H g=>g.o (zO g rfl) H λx37 w a H g=>g.h (zT g rfl rfl) H λw a H g=>g.s rfl λ_ g=>zL (tn ?_)))))
    obtain ⟨q_1,ad_1,hp_1,hl_1,H⟩:=H
    exact zl (zLA g (rs:=[.cell 6 72,.tmp 7]) (vs:=[(zG.v q_1),(.bool true)]) rfl ⟨⟨ad_1,by rw [← hp_1];rfl,hl_1⟩,rfl,trivial⟩ ⟨_,_,rfl,H⟩)
  ·rcases Classical.em ((x8<0)) with hbr2|hbr2
   ·have H:=H.1 hbr2
    have g:=g.b (b:=true) (t:=24) rfl (decide_eq_true hbr2)
    exact g.d (λ_ g=>g.d (λ_ g=>g.d (λ_ g=>g.d (λ_ g=>g.d (λ_ g=>g.d (λ_ g=>g.d (λ_ g=>g.p (zx g rfl rfl) λ_ g=>hr2 true _ _ H (g.k))))))))
   ·have H:=H.2 hbr2
    have g:=g.b (b:=false) (t:=24) rfl (decide_eq_false hbr2)
    exact g.z (g.m rfl λ_ g=>g.z (g.m rfl λ_ g=>g.z (g.o (zH g rfl rfl) H λx27 w a H g=>g.z (g.o (zP g rfl) H λx28 w a H g=>g.z (g.o (zO g rfl) H λx29 w a H g=>g.z (g.m rfl λ_ g=>g.z (g.p (zNJ g rfl rfl) λ_ g=>g.p (zy g rfl rfl) λ_ g=>hr2 (decide (x29≠x1)) _ _ H (g.k))))))))
 ·refine zI (zE (g.m rfl λ_ g=>g.p (zAJ g rfl) λ_ g=>zL (tn (zk g rfl (λhc=>?_) (λhc=>?_)))))
  ·have H:=H.1 hc
   exact zE (g.m rfl λ_ g=>g.p (zv g rfl rfl) λ_ g=>g.s rfl λ_ g=>zL (tn (hj1 (zC .i64 (r - 1)) _ _ H (g.k))))
  ·have H:=H.2 hc
   exact zY (tn (hj1 r _ _ H (g.k)))
def zDC (x0:ByteArray) (w:World) (Ret:Bool->World->Prop):Prop:=
 Ret (decide (x0≠x0)) w
set_option maxRecDepth 100000 in
theorem zGj (x0:ByteArray) (w:World) (Ret:Bool->World->Prop) (H:zDC x0 w Ret):Cl zA 74 [(.string x0)].toArray w (λe w'=>∃ (r0:Bool),e=.returned (.bool r0)/\Ret r0 w'):=by
 unfold zDC at H
 refine zp 6 (zipE 0 [(.string x0)]) Tryz.func74 rfl rfl (by rfl) rfl ?_
 intro a g
 have g:Sat [] 6 [(0,(.string x0))] a:=g
 exact zI (zE (g.s rfl λ_ g=>(zL (tn (zI (zE (g.m rfl λ_ g=>(g.m rfl λ_ g=>(g.p (zNJ g rfl rfl) λ_ g=>(g.s rfl λ_ g=>(zL (tn (zl (zw g rfl rfl ⟨_,rfl,H⟩))))))))))))))
def yx (x0:Sl) (x1:Value) (Ret:Int->World->Prop) (x8:Int) (w:World) (Kl1:Int->World->Prop):Prop:=
 ((x8<(x0.len:Int))->(opE zA zB (zF 67 (Sl.v x0) (.int .i64 x8)) w (λx14 w=>opE zA zG.v (zD 72 (.pointer x14)) w (λx15 w=>zG6 zA x1 [(zG.v x15)] w (λe w=>∃ (r:Bool),e=.returned (.bool r)/\((r=true->(Ret x8 w))/\(r=false->(Kl1 (zC .i64 (x8+1)) w))))))))/\(¬ (x8<(x0.len:Int))->(Ret (-1) w))
def YZ (x0:Sl) (x1:Value) (w:World) (Ret:Int->World->Prop):Prop:=
 ∃ (I:Int->World->Prop) (μ:Int->World->Nat),I 0 w/\∀ (x8:Int) w,I x8 w->yx x0 x1 Ret x8 w (λx8' w'=>I x8' w'/\μ x8' w'<μ x8 w)
set_option maxRecDepth 100000 in
theorem zBB (x0:Sl) (x1:Value) (w:World) (Ret:Int->World->Prop) (H:YZ x0 x1 w Ret):Cl zA 78 [(Sl.v x0),x1].toArray w (λe w'=>∃ (r0:Int),e=.returned (.int .i64 r0)/\Ret r0 w'):=by
 unfold YZ at H
 refine zp 19 (zipE 0 [(Sl.v x0),x1]) Tryz.func78 rfl rfl (by rfl) rfl ?_
 intro a g
 have g:Sat [] 19 [(0,(Sl.v x0)),(1,x1)] a:=g
 refine zI (zE (g.s rfl λ_ g=>zL (tn (zI (zI (zE (g.m rfl λ_ g=>g.purR (λw=>ZU g Tryz.underlying67 rfl) λ_ g=>g.m rfl λ_ g=>zL (tn (zX ?_)))))))))
 obtain ⟨I_l1,μ_l1,h0,hb⟩:=H
 refine yE (ds:=[]) (N:=19) (σ:=Int) (λs=>[(8,(.int .i64 s)),(0,(Sl.v x0)),(1,x1),(7,(.int .i64 (x0.len:Int)))]) (λs w=>I_l1 s w) (λs w=>μ_l1 s w) 0 h0 (g.k) ?_
 intro x8 w a hI g
 try dsimp only at hI g
 obtain ⟨Kl1,hK_l1⟩:∃ K:Int->World->Prop,K=(λx8' w'=>I_l1 x8' w'/\μ_l1 x8' w'<μ_l1 x8 w):=⟨_,rfl⟩
 have H:yx x0 x1 Ret x8 w Kl1:=by rw [hK_l1];exact hb x8 w hI
 clear hb h0 hI
 unfold yx at H
 refine zI (zE (g.p (yR g rfl rfl) λ_ g=>zL (tn (zI (zd g rfl (λhc=>?_) (λhc=>?_))))))
 ·have H:=H.1 hc
  refine zY (tn (zI (zX (zI (zE (g.m rfl λ_ g=>g.s rfl λ_ g=>zL (tn (zI (zE (g.m rfl λ_ g=>g.m rfl λ_ g=>g.m rfl λ_ g=>g.o (zH g rfl rfl) H λx14 w a H g=>g.o (zO g rfl) H λx15 w a H g=>g.callV rfl rfl H λe w H=>?_))))))))))
  obtain ⟨r,rfl,H⟩:=H
  refine ⟨_,rfl,λ_ g=>(zL (tn (zk g rfl (λhc=>?_) (λhc=>?_))))⟩
  ·have H:=H.1 hc
   exact zI (zE (g.m rfl λ_ g=>g.s rfl λ_ g=>zL (tn (zl (br (tr (tr (br (tr (zw g rfl rfl ⟨_,rfl,H⟩))))))))))
  ·have H:=H.2 hc
   refine zY (bn (tn (zE (g.p (zr g rfl rfl) λ_ g=>g.m rfl λ_ g=>?_))))
   rw [hK_l1] at H
   exact zL (tn ⟨(zC .i64 (x8+1)),g.k,H⟩)
 ·have H:=H.2 hc
  exact z7 (te (te (be (tn (zI (zE (g.s rfl λ_ g=>zL (tn (zl (zw g rfl rfl ⟨_,rfl,H⟩))))))))))
def Zd (x0:Sl) (x1:Value) (w:World) (Ret:Bool->World->Prop):Prop:=
 Cl zA 104 [(Sl.v x0),x1].toArray w (λe w=>∃ (r:Int),e=.returned (.int .i64 r)/\(Ret (decide (0<=r)) w))
set_option maxRecDepth 100000 in
theorem zDE (x0:Sl) (x1:Value) (w:World) (Ret:Bool->World->Prop) (H:Zd x0 x1 w Ret):Cl zA 83 [(Sl.v x0),x1].toArray w (λe w'=>∃ (r0:Bool),e=.returned (.bool r0)/\Ret r0 w'):=by
 unfold Zd at H
 refine zp 9 (zipE 0 [(Sl.v x0),x1]) Tryz.func83 rfl rfl (by rfl) rfl ?_
 intro a g
 have g:Sat [] 9 [(0,(Sl.v x0)),(1,x1)] a:=g
 refine zI (zE (g.s rfl λ_ g=>(zL (tn (zI (zE (g.m rfl λ_ g=>(g.m rfl λ_ g=>(g.c (zb g zSR rfl rfl) H λe w H=>?_)))))))))
 obtain ⟨r,rfl,H⟩:=H
 exact ⟨_,rfl,λ_ g=>(g.p (Zm g rfl rfl) λ_ g=>(g.s rfl λ_ g=>(zL (tn (zl (zw g rfl rfl ⟨_,rfl,H⟩))))))⟩
def zCe (Ret:Bool->World->Prop) (x12:Bool) (w:World):Prop:=
 Ret x12 w
def zG3 (x0:zJ) (w:World) (Ret:Bool->World->Prop):Prop:=
 opE zA zB (Instr.box 34 (zJ.v x0)) w (λx1 w=>opE zA zB (zN 34 (.pointer x1) 0) w (λx3 w=>opE zA zZ (zD 9 (.pointer x3)) w (λx4 w=>((256<(x4.size:Int))->(zCe Ret true w))/\(¬ (256<(x4.size:Int))->(opE zA zB (zN 34 (.pointer x1) 1) w (λx8 w=>opE zA zZ (zD 9 (.pointer x8)) w (λx9 w=>zCe Ret (decide (512<(x9.size:Int))) w)))))))
set_option maxRecDepth 100000 in
theorem zKu (x0:zJ) (w:World) (Ret:Bool->World->Prop) (H:zG3 x0 w Ret):Cl zA 84 [(zJ.v x0)].toArray w (λe w'=>∃ (r0:Bool),e=.returned (.bool r0)/\Ret r0 w'):=by
 unfold zG3 at H
 refine zp 13 (zipE 0 [(zJ.v x0)]) Tryz.func84 rfl rfl (by rfl) rfl ?_
 intro a g
 have g:Sat [] 13 [(0,(zJ.v x0))] a:=g
 refine zI (zE (g.o (zBc g rfl) H λx1 w a H g=>g.s rfl λ_ g=>zL (tn (zI (zE (g.o (zP g rfl) H λx3 w a H g=>g.o (zO g rfl) H λx4 w a H g=>g.purR (λw=>zH4 g Tryz.underlying9 rfl) λ_ g=>g.p (zBx g rfl rfl) λ_ g=>g.m rfl λ_ g=>WL.join (ds:=[]) (N:=13) (σ:=Bool) (λs=>[(12,(.bool s))]) (λs w=>zCe Ret s w) 5 ?_ (λhr1=>?_)))))))
 ·intro x12 w a H g
  try dsimp only at H g
  unfold zCe at H
  exact g.s rfl λ_ g=>zL (tn (zl (zw g rfl rfl ⟨_,rfl,H⟩)))
 ·rcases Classical.em ((256<(x4.size:Int))) with hbr1|hbr1
  ·have H:=H.1 hbr1
   have g:=g.b (b:=true) (t:=7) rfl (decide_eq_true hbr1)
   exact g.d (λ_ g=>g.d (λ_ g=>g.d (λ_ g=>g.d (λ_ g=>g.p (zx g rfl rfl) λ_ g=>hr1 true _ _ H (g.k)))))
  ·have H:=H.2 hbr1
   have g:=g.b (b:=false) (t:=7) rfl (decide_eq_false hbr1)
   exact g.z (g.o (zP g rfl) H λx8 w a H g=>g.z (g.o (zO g rfl) H λx9 w a H g=>g.z (g.purR (λw=>zH4 g Tryz.underlying9 rfl) λ_ g=>g.z (g.p (zBx g rfl rfl) λ_ g=>g.p (zy g rfl rfl) λ_ g=>hr1 (decide (512<(x9.size:Int))) _ _ H (g.k)))))
def zEn (x0:Sl) (Ret:Int->World->Prop) (x8:Int) (w:World) (Kl1:Int->World->Prop):Prop:=
 ((x8<(x0.len:Int))->(opE zA zB (zF 24 (Sl.v x0) (.int .i64 x8)) w (λx10 w=>opE zA (zV .i64) (zD 3 (.pointer x10)) w (λx11 w=>((x11≠0)->(Ret x11 w))/\(¬ (x11≠0)->(Kl1 (zC .i64 (x8+1)) w))))))/\(¬ (x8<(x0.len:Int))->(Ret 0 w))
def zHw (x0:Sl) (w:World) (Ret:Int->World->Prop):Prop:=
 ∃ (I:Int->World->Prop) (μ:Int->World->Nat),I 0 w/\∀ (x8:Int) w,I x8 w->zEn x0 Ret x8 w (λx8' w'=>I x8' w'/\μ x8' w'<μ x8 w)
set_option maxRecDepth 100000 in
theorem zLd (x0:Sl) (w:World) (Ret:Int->World->Prop) (H:zHw x0 w Ret):Cl zA 86 [(Sl.v x0)].toArray w (λe w'=>∃ (r0:Int),e=.returned (.int .i64 r0)/\Ret r0 w'):=by
 unfold zHw at H
 refine zp 18 (zipE 0 [(Sl.v x0)]) Tryz.func86 rfl rfl (by rfl) rfl ?_
 intro a g
 have g:Sat [] 18 [(0,(Sl.v x0))] a:=g
 refine zI (zE (g.s rfl λ_ g=>zL (tn (zI (zE (g.s rfl λ_ g=>zL (tn (zI (zI (zE (g.m rfl λ_ g=>g.purR (λw=>ZU g Tryz.underlying24 rfl) λ_ g=>g.m rfl λ_ g=>zL (tn (zX ?_)))))))))))))
 obtain ⟨I_l1,μ_l1,h0,hb⟩:=H
 refine yE (ds:=[]) (N:=18) (σ:=Int) (λs=>[(8,(.int .i64 s)),(3,(.int .i64 0)),(6,(Sl.v x0)),(7,(.int .i64 (x0.len:Int)))]) (λs w=>I_l1 s w) (λs w=>μ_l1 s w) 0 h0 (g.k) ?_
 intro x8 w a hI g
 try dsimp only at hI g
 obtain ⟨Kl1,hK_l1⟩:∃ K:Int->World->Prop,K=(λx8' w'=>I_l1 x8' w'/\μ_l1 x8' w'<μ_l1 x8 w):=⟨_,rfl⟩
 have H:zEn x0 Ret x8 w Kl1:=by rw [hK_l1];exact hb x8 w hI
 clear hb h0 hI
 unfold zEn at H
 refine zI (zE (g.p (yR g rfl rfl) λ_ g=>zL (tn (zI (zd g rfl (λhc=>?_) (λhc=>?_))))))
 ·have H:=H.1 hc
  refine zY (tn (zI (zX (zI (zE (g.o (zH g rfl rfl) H λx10 w a H g=>g.o (zO g rfl) H λx11 w a H g=>g.s rfl λ_ g=>zL (tn (zI (zE (g.m rfl λ_ g=>g.m rfl λ_ g=>g.p (zFc g rfl rfl) λ_ g=>zL (tn (zd g rfl (λhc=>?_) (λhc=>?_)))))))))))))
  ·have H:=H.1 hc
   exact zI (zE (g.m rfl λ_ g=>g.s rfl λ_ g=>zL (tn (zl (br (tr (tr (br (tr (zw g rfl rfl ⟨_,rfl,H⟩))))))))))
  ·have H:=H.2 hc
   refine zY (bn (tn (zE (g.p (zr g rfl rfl) λ_ g=>g.m rfl λ_ g=>?_))))
   rw [hK_l1] at H
   exact zL (tn ⟨(zC .i64 (x8+1)),g.k,H⟩)
 ·have H:=H.2 hc
  exact z7 (te (te (be (tn (zI (zE (g.m rfl λ_ g=>g.s rfl λ_ g=>zL (tn (zl (zw g rfl rfl ⟨_,rfl,H⟩))))))))))
def zED (x0:Int) (x1:Int) (w:World) (Ret:Int->World->Prop):Prop:=
 Cl zA 113 [(.int .u64 x0)].toArray w (λe w=>∃ (r:Bool),e=.returned (.bool r)/\(Cl zA 113 [(.int .u64 x1)].toArray w (λe w=>∃ (r_1:Bool),e=.returned (.bool r_1)/\((r=true->((r_1=true->(Ret 0 w))/\(r_1=false->(Ret (-1) w))))/\(r=false->((r_1=true->(Ret 1 w))/\(r_1=false->(((x0<x1)->(Ret (-1) w))/\(¬ (x0<x1)->(((x1<x0)->(Ret 1 w))/\(¬ (x1<x0)->(Ret 0 w))))))))))))
set_option maxRecDepth 100000 in
theorem zIM (x0:Int) (x1:Int) (w:World) (Ret:Int->World->Prop) (H:zED x0 x1 w Ret):Cl zA 87 [(.int .u64 x0),(.int .u64 x1)].toArray w (λe w'=>∃ (r0:Int),e=.returned (.int .i64 r0)/\Ret r0 w'):=by
 unfold zED at H
 refine zp 20 (zipE 0 [(.int .u64 x0),(.int .u64 x1)]) Tryz.func87 rfl rfl (by rfl) rfl ?_
 intro a g
 have g:Sat [] 20 [(0,(.int .u64 x0)),(1,(.int .u64 x1))] a:=g
 refine zI (zE (g.s rfl λ_ g=>zL (tn (zI (zE (g.m rfl λ_ g=>g.c (zb g zPp rfl rfl) H λe w H=>?_))))))
 obtain ⟨r,rfl,H⟩:=H
 refine ⟨_,rfl,λ_ g=>(g.s rfl λ_ g=>zL (tn (zI (zE (g.m rfl λ_ g=>g.c (zb g zPp rfl rfl) H λe w H=>?_)))))⟩
 obtain ⟨r_1,rfl,H⟩:=H
 refine ⟨_,rfl,λ_ g=>(g.s rfl λ_ g=>zL (tn (zI (zI (zE (g.m rfl λ_ g=>zL (tn (zk g rfl (λhc=>?_) (λhc=>?_)))))))))⟩
 ·have H:=H.1 hc
  refine zI (zI (zE (g.m rfl λ_ g=>zL (tn (zk g rfl (λhc=>?_) (λhc=>?_))))))
  ·have H:=H.1 hc
   exact zI (zE (g.s rfl λ_ g=>zL (tn (zl (tr (tr (zw g rfl rfl ⟨_,rfl,H⟩)))))))
  ·have H:=H.2 hc
   exact zY (tn (zI (zE (g.s rfl λ_ g=>zL (tn (zl (tr (zw g rfl rfl ⟨_,rfl,H⟩))))))))
 ·have H:=H.2 hc
  refine zY (tn (zI (zI (zE (g.m rfl λ_ g=>zL (tn (zk g rfl (λhc=>?_) (λhc=>?_))))))))
  ·have H:=H.1 hc
   exact zI (zE (g.s rfl λ_ g=>zL (tn (zl (tr (zw g rfl rfl ⟨_,rfl,H⟩))))))
  ·have H:=H.2 hc
   refine zY (tn (zI (zI (zE (g.m rfl λ_ g=>g.m rfl λ_ g=>g.p (yR g rfl rfl) λ_ g=>zL (tn (zd g rfl (λhc=>?_) (λhc=>?_))))))))
   ·have H:=H.1 hc
    exact zI (zE (g.s rfl λ_ g=>zL (tn (zl (tr (zw g rfl rfl ⟨_,rfl,H⟩))))))
   ·have H:=H.2 hc
    refine zY (tn (zI (zI (zE (g.m rfl λ_ g=>g.m rfl λ_ g=>g.p (zBx g rfl rfl) λ_ g=>zL (tn (zd g rfl (λhc=>?_) (λhc=>?_))))))))
    ·have H:=H.1 hc
     exact zI (zE (g.s rfl λ_ g=>zL (tn (zl (tr (zw g rfl rfl ⟨_,rfl,H⟩))))))
    ·have H:=H.2 hc
     exact zY (tn (zI (zE (g.s rfl λ_ g=>zL (tn (zl (zw g rfl rfl ⟨_,rfl,H⟩)))))))
def yQ (Ret:Int->Bool->World->Prop) (x9:Int) (x48:Bool) (w:World):Prop:=
 yM w (λw=>Ret x9 x48 w)
def yN (x0:Sl) (x2:Value) (Ret:Int->Bool->World->Prop) (x4:Option Addr) (x9:Int) (x10:Int) (w:World) (Kl1:Int->Int->World->Prop):Prop:=
 ((x9<x10)->(opE zA (zV .u64) (Go.convert 3 143 (.int .i64 (zC .i64 (x9+x10)))) w (λx21 w=>opE zA (zV .u64) (binOp .shr 143 (.int .u64 x21) (.int .u64 1)) w (λx22 w=>opE zA (zV .i64) (Go.convert 143 3 (.int .u64 x22)) w (λx23 w=>opB zA zB (zF 67 (Sl.v x0) (.int .i64 x23)) w (λx27=>opB zA zG.v (zD 72 (.pointer x27)) w (λx28=>opB zA zG.v (zD 72 (.pointer x4)) w (λx29=>∃ (r:Int),Zs zA x2 [(zG.v x28),(zG.v x29)] w (.int .i64 r)/\(yM w (λw=>((r<0)->(Kl1 (zC .i64 (x23+1)) x10 w))/\(¬ (r<0)->(Kl1 x9 x23 w))))))))))))/\(¬ (x9<x10)->(((x9<(x0.len:Int))->(opB zA zB (zF 67 (Sl.v x0) (.int .i64 x9)) w (λx43=>opB zA zG.v (zD 72 (.pointer x43)) w (λx44=>opB zA zG.v (zD 72 (.pointer x4)) w (λx45=>∃ (r_1:Int),Zs zA x2 [(zG.v x44),(zG.v x45)] w (.int .i64 r_1)/\(yQ Ret x9 (decide (r_1=0)) w))))))/\(¬ (x9<(x0.len:Int))->(yQ Ret x9 false w))))
def QC (x0:Sl) (x1:zG) (x2:Value) (w:World) (Ret:Int->Bool->World->Prop):Prop:=
 opE zA zB (Instr.box 72 (zG.v x1)) w (λx4 w=>∃ (I:Int->Int->World->Prop) (μ:Int->Int->World->Nat),I 0 (x0.len:Int) w/\∀ (x9:Int) (x10:Int) w,I x9 x10 w->yN x0 x2 Ret x4 x9 x10 w (λx9' x10' w'=>I x9' x10' w'/\μ x9' x10' w'<μ x9 x10 w))
set_option maxRecDepth 100000 in
theorem zBP (x0:Sl) (x1:zG) (x2:Value) (w:World) (Ret:Int->Bool->World->Prop) (H:QC x0 x1 x2 w Ret):Cl zA 89 [(Sl.v x0),(zG.v x1),x2].toArray w (λe w'=>∃ (r0:Int) (r1:Bool),e=.returned (.tuple [(.int .i64 r0),(.bool r1)].toArray)/\Ret r0 r1 w'):=by
 unfold QC at H
 refine zp 49 (zipE 0 [(Sl.v x0),(zG.v x1),x2]) Tryz.func89 rfl rfl (by rfl) rfl ?_
 intro a g
 have g:Sat [] 49 [(0,(Sl.v x0)),(1,(zG.v x1)),(2,x2)] a:=g
 refine zI (zE (g.o (zBc g rfl) H λx4 w a H g=>g.s rfl λ_ g=>g.s rfl λ_ g=>zL (tn (zI (zE (g.m rfl λ_ g=>g.purR (λw=>ZU g Tryz.underlying67 rfl) λ_ g=>g.s rfl λ_ g=>zL (tn (zI (zE (g.m rfl λ_ g=>g.s rfl λ_ g=>g.s rfl λ_ g=>zL (tn (zI (zX ?_)))))))))))))
 obtain ⟨I_l1,μ_l1,h0,hb⟩:=H
 refine yE (ds:=[]) (N:=49) (σ:=Int × Int) (λs=>[(9,(.int .i64 s.1)),(10,(.int .i64 s.2)),(0,(Sl.v x0)),(2,x2),(4,(.pointer x4)),(8,(.int .i64 (x0.len:Int)))]) (λs w=>I_l1 s.1 s.2 w) (λs w=>μ_l1 s.1 s.2 w) (0,(x0.len:Int)) h0 (g.k) ?_
 rintro ⟨x9,x10⟩ w a hI g
 try dsimp only at hI g
 obtain ⟨Kl1,hK_l1⟩:∃ K:Int->Int->World->Prop,K=(λx9' x10' w'=>I_l1 x9' x10' w'/\μ_l1 x9' x10' w'<μ_l1 x9 x10 w):=⟨_,rfl⟩
 have H:yN x0 x2 Ret x4 x9 x10 w Kl1:=by rw [hK_l1];exact hb x9 x10 w hI
 clear hb h0 hI
 unfold yN at H
 refine zI (zI (zE (g.m rfl λ_ g=>g.m rfl λ_ g=>g.p (yR g rfl rfl) λ_ g=>zL (tn (zd g rfl (λhc=>?_) (λhc=>?_))))))
 ·have H:=H.1 hc
  refine zY (tn (zX (zI (zE (g.m rfl λ_ g=>g.m rfl λ_ g=>g.p (zr g rfl rfl) λ_ g=>g.o (zBw g rfl) H λx21 w a H g=>g.o (ZS g rfl rfl) H λx22 w a H g=>g.o (zBw g rfl) H λx23 w a H g=>g.s rfl λ_ g=>zL (tn (zI (QU (by kernel_rfl) (by kernel_rfl) (g.t rfl λ_ g=>g.t rfl λ_ g=>g.t rfl λ_ g=>g.A (zH g rfl rfl) H λx27 a H g=>g.A (zO g rfl) H λx28 a H g=>g.A (zO g rfl) H λx29 a H g=>?_)))))))))
  obtain ⟨r,hc,H⟩:=H
  refine g.qcallV rfl rfl hc λ_ g=>g.r (yR g rfl rfl) λ_ g=>Qb (λw hB=>?_)
  replace H:=H w hB
  refine (tn (zd g rfl (λhc=>?_) (λhc=>?_)))
  ·have H:=H.1 hc
   refine zE (g.m rfl λ_ g=>g.p (zr g rfl rfl) λ_ g=>g.s rfl λ_ g=>?_)
   rw [hK_l1] at H
   exact zL (bn (tn ⟨((zC .i64 (x23+1)),x10),g.k,H⟩))
  ·have H:=H.2 hc
   refine zE (g.m rfl λ_ g=>g.s rfl λ_ g=>?_)
   rw [hK_l1] at H
   exact zL (bn (tn ⟨(x9,x23),g.k,H⟩))
 ·have H:=H.2 hc
  refine z7 (te (te (be (tn (zI (QU (by kernel_rfl) (by kernel_rfl) (g.t rfl λ_ g=>g.t rfl λ_ g=>g.t rfl λ_ g=>g.r (yR g rfl rfl) λ_ g=>g.t rfl λ_ g=>WQ.join (ds:=[]) (N:=49) (σ:=Bool) (λs=>[(48,(.bool s)),(35,(.int .i64 x9))]) (λs=>yQ Ret x9 s w) 9 ?_ (λhr2=>?_))))))))
  ·intro x48 a H g
   try dsimp only at H g
   unfold yQ at H
   refine g.r (ZI g rfl) λ_ g=>g.r (ZI g rfl) λ_ g=>Qb (λw hB=>?_)
   replace H:=H w hB
   exact (tn (zl (ZK g rfl rfl rfl ⟨_,_,rfl,H⟩)))
  ·rcases Classical.em ((x9<(x0.len:Int))) with hbr2|hbr2
   ·have H:=H.1 hbr2
    have g:=g.b (b:=true) (t:=39) rfl (decide_eq_true hbr2)
    refine g.e (g.t rfl λ_ g=>g.e (g.t rfl λ_ g=>g.e (g.t rfl λ_ g=>g.e (g.A (zH g rfl rfl) H λx43 a H g=>g.e (g.A (zO g rfl) H λx44 a H g=>g.e (g.A (zO g rfl) H λx45 a H g=>g.e ?_))))))
    obtain ⟨r_1,hc,H⟩:=H
    exact g.qcallV rfl rfl hc λ_ g=>g.e (g.r (Zb g rfl rfl) λ_ g=>g.r (zx g rfl rfl) λ_ g=>hr2 (decide (r_1=0)) _ H (g.k))
   ·have H:=H.2 hbr2
    have g:=g.b (b:=false) (t:=39) rfl (decide_eq_false hbr2)
    exact g.g (λ_ g=>g.g (λ_ g=>g.g (λ_ g=>g.g (λ_ g=>g.g (λ_ g=>g.g (λ_ g=>g.g (λ_ g=>g.g (λ_ g=>g.r (zy g rfl rfl) λ_ g=>hr2 false _ H (g.k)))))))))
def YY (x0:Sl) (x1:Value) (Ret:Int->World->Prop) (x8:Int) (w:World) (Kl1:Int->World->Prop):Prop:=
 ((x8<(x0.len:Int))->(opE zA zB (zF 30 (Sl.v x0) (.int .i64 x8)) w (λx14 w=>opE zA zJ.v (zD 34 (.pointer x14)) w (λx15 w=>zG6 zA x1 [(zJ.v x15)] w (λe w=>∃ (r:Bool),e=.returned (.bool r)/\((r=true->(Ret x8 w))/\(r=false->(Kl1 (zC .i64 (x8+1)) w))))))))/\(¬ (x8<(x0.len:Int))->(Ret (-1) w))
def zAI (x0:Sl) (x1:Value) (w:World) (Ret:Int->World->Prop):Prop:=
 ∃ (I:Int->World->Prop) (μ:Int->World->Nat),I 0 w/\∀ (x8:Int) w,I x8 w->YY x0 x1 Ret x8 w (λx8' w'=>I x8' w'/\μ x8' w'<μ x8 w)
set_option maxRecDepth 100000 in
theorem zDz (x0:Sl) (x1:Value) (w:World) (Ret:Int->World->Prop) (H:zAI x0 x1 w Ret):Cl zA 104 [(Sl.v x0),x1].toArray w (λe w'=>∃ (r0:Int),e=.returned (.int .i64 r0)/\Ret r0 w'):=by
 unfold zAI at H
 refine zp 19 (zipE 0 [(Sl.v x0),x1]) Tryz.func104 rfl rfl (by rfl) rfl ?_
 intro a g
 have g:Sat [] 19 [(0,(Sl.v x0)),(1,x1)] a:=g
 refine zI (zE (g.s rfl λ_ g=>zL (tn (zI (zI (zE (g.m rfl λ_ g=>g.purR (λw=>ZU g Tryz.underlying30 rfl) λ_ g=>g.m rfl λ_ g=>zL (tn (zX ?_)))))))))
 obtain ⟨I_l1,μ_l1,h0,hb⟩:=H
 refine yE (ds:=[]) (N:=19) (σ:=Int) (λs=>[(8,(.int .i64 s)),(0,(Sl.v x0)),(1,x1),(7,(.int .i64 (x0.len:Int)))]) (λs w=>I_l1 s w) (λs w=>μ_l1 s w) 0 h0 (g.k) ?_
 intro x8 w a hI g
 try dsimp only at hI g
 obtain ⟨Kl1,hK_l1⟩:∃ K:Int->World->Prop,K=(λx8' w'=>I_l1 x8' w'/\μ_l1 x8' w'<μ_l1 x8 w):=⟨_,rfl⟩
 have H:YY x0 x1 Ret x8 w Kl1:=by rw [hK_l1];exact hb x8 w hI
 clear hb h0 hI
 unfold YY at H
 refine zI (zE (g.p (yR g rfl rfl) λ_ g=>zL (tn (zI (zd g rfl (λhc=>?_) (λhc=>?_))))))
 ·have H:=H.1 hc
  refine zY (tn (zI (zX (zI (zE (g.m rfl λ_ g=>g.s rfl λ_ g=>zL (tn (zI (zE (g.m rfl λ_ g=>g.m rfl λ_ g=>g.m rfl λ_ g=>g.o (zH g rfl rfl) H λx14 w a H g=>g.o (zO g rfl) H λx15 w a H g=>g.callV rfl rfl H λe w H=>?_))))))))))
  obtain ⟨r,rfl,H⟩:=H
  refine ⟨_,rfl,λ_ g=>(zL (tn (zk g rfl (λhc=>?_) (λhc=>?_))))⟩
  ·have H:=H.1 hc
   exact zI (zE (g.m rfl λ_ g=>g.s rfl λ_ g=>zL (tn (zl (br (tr (tr (br (tr (zw g rfl rfl ⟨_,rfl,H⟩))))))))))
  ·have H:=H.2 hc
   refine zY (bn (tn (zE (g.p (zr g rfl rfl) λ_ g=>g.m rfl λ_ g=>?_))))
   rw [hK_l1] at H
   exact zL (tn ⟨(zC .i64 (x8+1)),g.k,H⟩)
 ·have H:=H.2 hc
  exact z7 (te (te (be (tn (zI (zE (g.s rfl λ_ g=>zL (tn (zl (zw g rfl rfl ⟨_,rfl,H⟩))))))))))
def zDH (x0:Int) (w:World) (Ret:Bool->World->Prop):Prop:=
 Ret (decide (x0≠x0)) w
set_option maxRecDepth 100000 in
theorem zGl (x0:Int) (w:World) (Ret:Bool->World->Prop) (H:zDH x0 w Ret):Cl zA 113 [(.int .u64 x0)].toArray w (λe w'=>∃ (r0:Bool),e=.returned (.bool r0)/\Ret r0 w'):=by
 unfold zDH at H
 refine zp 6 (zipE 0 [(.int .u64 x0)]) Tryz.func113 rfl rfl (by rfl) rfl ?_
 intro a g
 have g:Sat [] 6 [(0,(.int .u64 x0))] a:=g
 exact zI (zE (g.s rfl λ_ g=>(zL (tn (zI (zE (g.m rfl λ_ g=>(g.m rfl λ_ g=>(g.p (zFc g rfl rfl) λ_ g=>(g.s rfl λ_ g=>(zL (tn (zl (zw g rfl rfl ⟨_,rfl,H⟩))))))))))))))
end Go.Proofs.YtealcoghiaeiiaaGreat.VG
set_option linter.unusedVariables false
namespace Go.Proofs.YtealcoghiaeiiaaGreat.VG
open Go.VB Go.VB.Srt Go.Proofs Go.RowKit
abbrev zFF (w:World) (s:Sl) (l:List Ver):Prop:=Rd zG.cells 4 w s l
abbrev Z1 (base:Nat) (w:World) (s:Sl) (l:List Ver):Prop:=OwnS zG.cells 4 yK base w s l
theorem Z1.rd {base:Nat} {w:World} {s:Sl} {l:List Ver} (h:Z1 base w s l):zFF w s l:=OwnS.rd h (λ_=>rfl)
def cmpS (x y:ByteArray):Int:=if sLt x y=true then -1 else if x=y then 0 else 1
def cmpU (x y:Int):Int:=if x<y then -1 else if y<x then 1 else 0
theorem zMg {x y:ByteArray}:cmpS x y<0↔sLt x y=true:=by
 unfold cmpS;split
 ·simp [*]
 ·rename_i h
  split
  ·exact ⟨λh=>absurd h (by decide),λh1=>absurd h1 h⟩
  ·exact ⟨λh=>absurd h (by decide),λh1=>absurd h1 h⟩
theorem zI9 {x y:ByteArray}:cmpS x y=0↔x=y:=by
 unfold cmpS;split
 ·rename_i h;exact ⟨λh=>absurd h (by decide),λe=>absurd e (zMw h)⟩
 ·split<;>simp [*]
theorem zRo {x y:Int}:cmpU x y<0↔x<y:=by unfold cmpU;split<;>(try split)<;>omega
theorem zPZ {x y:Int}:cmpU x y=0↔x=y:=by unfold cmpU;split<;>(try split)<;>omega
def ordI (a b:Ver):Int:=if cmpS a.Key b.Key≠0 then cmpS a.Key b.Key else cmpU a.At b.At
theorem zJ5 {a b:Ver}:ordI a b<0↔vlt a b:=by
 unfold ordI vlt
 by_cases h:cmpS a.Key b.Key=0
 ·rw [if_neg (by simp [h])]
  have hk:=zI9.1 h
  rw [zRo]
  exact ⟨λh1=>.inr ⟨hk,h1⟩,λh1=>by
   rcases h1 with h1|h1
   ·exact absurd hk (zMw h1)
   ·exact h1.2⟩
 ·rw [if_pos h,zMg]
  exact ⟨λh1=>.inl h1,λh1=>by
   rcases h1 with h1|h1
   ·exact h1
   ·exact absurd (zI9.2 h1.1) h⟩
theorem zPL {a b:Ver}:ordI a b=0↔a.Key=b.Key/\a.At=b.At:=by
 unfold ordI
 by_cases h:cmpS a.Key b.Key=0
 ·rw [if_neg (by simp [h]),zPZ]
  exact ⟨λh1=>⟨zI9.1 h,h1⟩,λh1=>h1.2⟩
 ·rw [if_pos h]
  exact ⟨λh1=>absurd h1 h,λh1=>absurd (zI9.2 h1.1) h⟩
theorem zI7 (x y:ByteArray) (w:World) {k:Int->World->Prop} (H:k (cmpS x y) w):Cl zA zIL [.string x,.string y].toArray w (λe w'=>∃ r0:Int,e=.returned (.int .i64 r0)/\k r0 w'):=by
 refine zIU x y w k ?_
 unfold zER
 refine zGj x w _ ?_
 unfold zDC
 refine zGj y w _ ?_
 unfold zDC
 rw [decide_eq_false (p:=x≠x) (by simp),decide_eq_false (p:=y≠y) (by simp)]
 refine ⟨λh=>(nomatch h),λ_=>⟨λh=>(nomatch h),λ_=>⟨λh=>?_,λh=>⟨λh1=>?_,λh1=>?_⟩⟩⟩⟩
 ·unfold cmpS at H;rw [if_pos h] at H;exact H
 ·unfold cmpS at H
  rw [zQH] at h1
  rw [if_neg (by rw [h];decide),if_neg (λe=>Z6 x (by rw [← e] at h1;exact h1))] at H;exact H
 ·unfold cmpS at H
  rw [zQH] at h1
  have hxy:x=y:=Classical.byContradiction λhn=>by
   have:=zEe (x:=x) (y:=y) (by rw [h];decide) hn
   rw [h1] at this;cases this
  rw [if_neg (by rw [h];decide),if_pos hxy] at H;exact H
theorem zNU (x y:Int) (w:World) {k:Int->World->Prop} (H:k (cmpU x y) w):Cl zA zIQ [.int .u64 x,.int .u64 y].toArray w (λe w'=>∃ r0:Int,e=.returned (.int .i64 r0)/\k r0 w'):=by
 refine zIM x y w k ?_
 unfold zED
 refine zGl x w _ ?_
 unfold zDH
 refine zGl y w _ ?_
 unfold zDH
 rw [decide_eq_false (p:=x≠x) (by simp),decide_eq_false (p:=y≠y) (by simp)]
 unfold cmpU at H
 refine ⟨λh=>(nomatch h),λ_=>⟨λh=>(nomatch h),λ_=>⟨λh=>?_,λh=>⟨λh1=>?_,λh1=>?_⟩⟩⟩⟩
 ·rw [if_pos h] at H;exact H
 ·rw [if_neg h,if_pos h1] at H;exact H
 ·rw [if_neg h,if_neg h1] at H;exact H
theorem zSW {w:World} {s:Sl} {a b:Int} (h:Rd (λx:Int=>[zV .i64 x]) 1 w s [a,b]) {k:Int->World->Prop} (H:k (if a≠0 then a else b) w):
  Cl zA zLl [Sl.v s].toArray w (λe w'=>∃ r0:Int,e=.returned (.int .i64 r0)/\k r0 w'):=by
 refine zLd s w k ?_
 have hlen:=h.len
 simp at hlen
 unfold zHw
 refine ⟨λx W=>W=w/\(x=0∨(x=1/\a=0)∨(x=2/\a=0/\b=0)),λx _=>(2 - x).toNat,⟨rfl,.inl rfl⟩,?_⟩
 rintro x W ⟨rfl,hx⟩
 unfold zEn
 refine ⟨λhlt=>?_,λhlt=>?_⟩
 ·rcases hx with rfl|⟨rfl,ha⟩|⟨rfl,_,_⟩
  ·refine zDA h zLv zL3 (by omega) (x:=a) rfl λad hA=>?_
   refine zBX zAM a (by have:=hA 0 (.int .i64 a) rfl;simpa [Addr.add] using this) ?_
   refine ⟨λhn=>by rw [if_pos hn] at H;exact H,λhn=>⟨⟨rfl,.inr (.inl ⟨by rw [wr64 (by omega) (by omega)];rfl,Classical.not_not.1 hn⟩)⟩,by rw [wr64 (by omega) (by omega)];dsimp only;omega⟩⟩
  ·refine zDA h zLv zL3 (by omega) (x:=b) rfl λad hA=>?_
   refine zBX zAM b (by have:=hA 0 (.int .i64 b) rfl;simpa [Addr.add] using this) ?_
   rw [if_neg (by simp [ha])] at H
   refine ⟨λhn=>H,λhn=>⟨⟨rfl,.inr (.inr ⟨by rw [wr64 (by omega) (by omega)];rfl,ha,Classical.not_not.1 hn⟩)⟩,by rw [wr64 (by omega) (by omega)];dsimp only;omega⟩⟩
  ·omega
 ·rcases hx with rfl|⟨rfl,ha⟩|⟨rfl,ha,hb⟩
  ·omega
  ·omega
  ·rw [if_neg (by simp [ha]),hb] at H;exact H
theorem zNO (a b:Ver) (w:World) {k:Int->World->Prop} (H:∀ w',Bel w w'->k (ordI a b) w'):
  Cl zA zDZ [zG.v a,zG.v b].toArray w (λe w'=>∃ r0:Int,e=.returned (.int .i64 r0)/\k r0 w'):=by
 refine zLb a b w k ?_
 unfold zH3
 refine zLC (cs:=a.cells) rfl ?_
 have h1:=At.new w a.cells yK
 have b1:Bel w (w.alloc (.cells a.cells.toArray yK)):=Bel.alloc _ _
 generalize w.heap.size=B1 at h1 ⊢
 generalize (w.alloc (.cells a.cells.toArray yK))=w1 at h1 b1 ⊢
 refine zLC (cs:=b.cells) rfl ?_
 have h2:=At.new w1 b.cells yK
 have b2:Bel w1 (w1.alloc (.cells b.cells.toArray yK)):=Bel.alloc _ _
 generalize w1.heap.size=B2 at h2 ⊢
 generalize (w1.alloc (.cells b.cells.toArray yK))=w2 at h2 b2 ⊢
 replace h1:=h1.bel b2
 have b02:=b1.trans b2
 refine ⟨Bel w2,λw3 b3=>⟨b3,?_⟩⟩
 refine zFW ZN ?_
 refine zFW ZN ?_
 refine zFW zAt ?_
 refine zFW zAt ?_
 refine zC3 zh a.Key (λw hw=>(h1.bel hw).fld rfl) ?_
 refine zC3 zh b.Key (λw hw=>(h2.bel hw).fld rfl) ?_
 refine zC3 yO a.At (λw hw=>(h1.bel hw).fld rfl) ?_
 refine zC3 yO b.At (λw hw=>(h2.bel hw).fld rfl) ?_
 refine zI7 a.Key b.Key w3 ⟨b3,?_⟩
 refine zNU a.At b.At w3 ⟨b3,?_⟩
 have hl:=Rd.lit (c:=λx:Int=>[zV .i64 x]) (n:=1) (λ_=>rfl) [cmpS a.Key b.Key,cmpU a.At b.At] (by simp) w3 Zr
 have b4:Bel w3 (w3.alloc (.cells ([cmpS a.Key b.Key,cmpU a.At b.At].flatMap λx:Int=>[zV .i64 x]).toArray Zr)):=Bel.alloc _ _
 refine ⟨⟨some ⟨w3.heap.size,0,none⟩,2,2⟩,(w3.alloc (.cells ([cmpS a.Key b.Key,cmpU a.At b.At].flatMap λx:Int=>[zV .i64 x]).toArray Zr)),by kernel_rfl,?_⟩
 refine ⟨b3.trans b4,?_⟩
 exact zSW hl ⟨b3.trans b4,H _ ((b02.trans b3).trans b4)⟩
def vltB (a b:Ver):Bool:=sLt a.Key b.Key||(decide (a.Key=b.Key)&&decide (a.At<b.At))
theorem zHl {a b:Ver}:vltB a b=true↔vlt a b:=by
 unfold vltB vlt;simp
theorem zQ8:Srt.SWO vltB where
 irr x:=by
  cases h:vltB x x with
  |false=>rfl
  |true=>exact absurd (zHl.1 h) (zJ3 x)
 neg x y z h:=by
  by_cases h1:vltB x y=true
  ·exact .inl h1
  ·right
   rw [zHl] at*
   by_cases h2:x.Key=y.Key/\x.At=y.At
   ·rcases h with h|h
    ·left;rw [← h2.1];exact h
    ·right;rw [← h2.1,← h2.2];exact h
   ·exact zJm (zOu h1 h2) h
 asy x y h:=by
  cases h1:vltB y x with
  |false=>rfl
  |true=>exact absurd (zHl.1 h1) (zRC (zHl.1 h))
theorem zJi (a b:Ver) (w:World):Zs zA (.func (.func zDZ) #[] #[]) [zG.v a,zG.v b] w (.int .i64 (ordI a b)):=
 ⟨zDZ,[],[],rfl,zR5,λw' _=>(zNO a b w' (k:=λr W=>r=ordI a b/\Bel w' W) λW hb=>⟨rfl,hb⟩).mono λe W ⟨r,he,hr,hb⟩=>⟨by rw [he,hr],hb⟩⟩
theorem zRc (a b:Ver) (w:World):∀ w',Bel w w'->Cl zA zDZ [zG.v a,zG.v b].toArray w' (λe w''=>e=.returned (.int .i64 (ordI a b))/\Bel w' w''):=
 λw' _=>(zNO a b w' (k:=λr W=>r=ordI a b/\Bel w' W) λW hb=>⟨rfl,hb⟩).mono λe W ⟨r,he,hr,hb⟩=>⟨by rw [he,hr],hb⟩
theorem zOB:SoCmpFunc_api_Version.Cmps (.func (.func zDZ) #[] #[]) vltB:=λw x y=>⟨ordI x y,zJi x y w,by rw [zHl,zJ5]⟩
end Go.Proofs.YtealcoghiaeiiaaGreat.VG
set_option linter.unusedVariables false
namespace Go.Proofs.YtealcoghiaeiiaaGreat.VG
open Go.VB Go.VB.Srt Go.Proofs Go.RowKit
theorem zH9 {l:List Ver} (hs:l.Pairwise vlt) {i j:Nat} {x y:Ver} (h:i<j) (hx:l[i]?=some x) (hy:l[j]?=some y):vlt x y:=by
 have a:=List.getElem?_eq_some_iff.1 hx;have b:=List.getElem?_eq_some_iff.1 hy
 have:=List.pairwise_iff_getElem.1 hs i j a.1 b.1 h
 rw [a.2,b.2] at this;exact this
theorem zTL (n:Nat):((n:Int)).fdiv (2 ^ (min (1:Int).toNat IntKind.u64.bits))=((n / 2:Nat):Int):=by
 rw [show min (1:Int).toNat IntKind.u64.bits=1 by decide,Int.fdiv_eq_ediv_of_nonneg _ (by decide)]
 omega
theorem zPN {w:World} {s:Sl} {l:List Ver} (h:zFF w s l) (hs:l.Pairwise vlt) (t:Ver) {k:Int->Bool->World->Prop}
  (H:∀ (i:Nat) (b:Bool) w',i<=l.length->(∀ j x,j<i->l[j]?=some x->vlt x t)->(∀ j x,i<=j->l[j]?=some x->¬ vlt x t)->(b=true↔∃ x,l[i]?=some x/\x.Key=t.Key/\x.At=t.At)->Bel w w'->k (i:Int) b w'):
  Cl zA zBF [Sl.v s,zG.v t,.func (.func zDZ) #[] #[]].toArray w (λe w'=>∃ (r0:Int) (r1:Bool),e=.returned (.tuple [.int .i64 r0,.bool r1].toArray)/\k r0 r1 w'):=by
 refine zBP s t _ w k ?_
 have hlen:=h.len;have hbig:=h.big
 unfold QC
 refine zLC (cs:=t.cells) rfl ?_
 have ht:=At.new w t.cells yK
 have b1:Bel w (w.alloc (.cells t.cells.toArray yK)):=Bel.alloc _ _
 generalize w.heap.size=B1 at ht ⊢
 generalize (w.alloc (.cells t.cells.toArray yK))=w1 at ht b1 ⊢
 refine ⟨λx y W=>∃ i j:Nat,x=(i:Int)/\y=(j:Int)/\i<=j/\j<=l.length/\Bel w1 W/\(∀ n x,n<i->l[n]?=some x->vlt x t)/\(∀ n x,j<=n->l[n]?=some x->¬ vlt x t),λx y _=>(y - x).toNat,
  ⟨0,l.length,rfl,by omega,by omega,by omega,Bel.refl _,λn x hn=>by omega,λn x hn hx=>by have:=(List.getElem?_eq_some_iff.1 hx).1;omega⟩,?_⟩
 rintro x y W ⟨i,j,rfl,rfl,hij,hj,hb,hlo,hhi⟩
 have hb0:=b1.trans hb
 unfold yN
 refine ⟨λhlt=>?_,λhlt=>?_⟩
 ·rw [wr64 (by omega) (by omega)]
  refine zFr (by kernel_rfl) (by kernel_rfl) ?_
  rw [show zC .u64 ((i:Int)+(j:Int))=((i+j:Nat):Int) by unfold zC;simp [IntKind.signed,IntKind.bits];omega]
  refine ⟨_,W,zJ6 (by decide) W,?_⟩
  rw [zTL]
  refine zFr (by kernel_rfl) (by kernel_rfl) ?_
  rw [wr64 (by omega) (by omega)]
  obtain ⟨e,he⟩:∃ e,l[(i+j) / 2]?=some e:=⟨l[(i+j) / 2]'(by omega),by simp⟩
  refine zIF (h.bel hb0) yq Qc (by omega) (x:=e) (by rw [Int.toNat_natCast];exact he) λad hA=>?_
  refine zI2 yP e rfl hA rfl ?_
  refine zI2 yP t rfl (ht.bel hb) rfl ?_
  refine ⟨ordI e t,zJi e t W,?_⟩
  intro W2 hb2
  refine ⟨λhr=>?_,λhr=>?_⟩
  ·rw [wr64 (by omega) (by omega)]
   have hv:=zJ5.1 hr
   refine ⟨⟨(i+j) / 2+1,j,by omega,rfl,by omega,hj,hb.trans hb2,λn x hn hx=>?_,hhi⟩,by dsimp only;omega⟩
   rcases Nat.lt_or_ge n ((i+j) / 2) with h1|h1
   ·exact zJm (zH9 hs h1 hx he) hv
   ·obtain rfl:n=(i+j) / 2:=by omega
    rw [he] at hx;cases hx;exact hv
  ·have hv:¬ vlt e t:=λh1=>hr (zJ5.2 h1)
   refine ⟨⟨i,(i+j) / 2,rfl,rfl,by omega,by omega,hb.trans hb2,hlo,λn x hn hx=>?_⟩,by dsimp only;omega⟩
   rcases Nat.lt_or_ge ((i+j) / 2) n with h1|h1
   ·exact λh2=>hv (zJm (zH9 hs h1 he hx) h2)
   ·obtain rfl:n=(i+j) / 2:=by omega
    rw [he] at hx;cases hx;exact hv
 ·obtain rfl:i=j:=by omega
  refine ⟨λhl=>?_,λhl=>?_⟩
  ·obtain ⟨e,he⟩:∃ e,l[i]?=some e:=⟨l[i]'(by omega),by simp⟩
   refine zIF (h.bel hb0) yq Qc (by omega) (x:=e) (by simpa using he) λad hA=>?_
   refine zI2 yP e rfl hA rfl ?_
   refine zI2 yP t rfl (ht.bel hb) rfl ?_
   refine ⟨ordI e t,zJi e t W,?_⟩
   intro W2 hb2
   refine H i _ W2 hj hlo hhi ?_ (hb0.trans hb2)
   rw [decide_eq_true_iff,zPL]
   exact ⟨λh1=>⟨e,he,h1⟩,λ⟨x,hx,h1⟩=>by rw [he] at hx;cases hx;exact h1⟩
  ·intro W2 hb2
   refine H i _ W2 hj hlo hhi ?_ (hb0.trans hb2)
   exact ⟨λh=>(nomatch h),λ⟨x,hx,_⟩=>by have:=(List.getElem?_eq_some_iff.1 hx).1;omega⟩
theorem zLP {l:List Ver} (hs:l.Pairwise vlt) {key:ByteArray} {t:Int} {i:Nat} (hhi:∀ j x,i<=j->l[j]?=some x->¬ vlt x ⟨key,t,noB,false⟩)
  (hb:¬ ∃ x,l[i]?=some x/\x.Key=key/\x.At=t) {x:Ver} {j:Nat} (hx:l[j]?=some x) (hk:x.Key=key) (ht:x.At<=t):j<i:=by
 rcases Nat.lt_or_ge j i with h|h
 ·exact h
 ·have h1:=hhi j x h hx
  have h2:x.At=t:=by
   have:¬ x.At<t:=λh3=>h1 (.inr ⟨hk,h3⟩)
   omega
  rcases Nat.lt_or_ge i j with h3|h3
  ·obtain ⟨y,hy⟩:∃ y,l[i]?=some y:=⟨l[i]'(by have:=(List.getElem?_eq_some_iff.1 hx).1;omega),by simp⟩
   have h4:=zH9 hs h3 hy hx
   refine absurd ?_ (hhi i y (zU _) hy)
   rcases h4 with h4|h4
   ·left;rw [← hk];exact h4
   ·right;rw [← hk,← h2];exact h4
  ·obtain rfl:j=i:=by omega
   exact absurd ⟨x,hx,hk,h2⟩ hb
theorem zPM {l:List Ver} (hs:l.Pairwise vlt) {key:ByteArray} {t:Int} {i:Nat} {x:Ver} (hx:l[i]?=some x) (hk:x.Key=key) (ht:x.At=t):sees l key t=some x:=
 zIr hs (List.mem_of_getElem? hx) hk (by omega) λy _ _ h=>by omega
theorem zPm {l:List Ver} (hs:l.Pairwise vlt) {key:ByteArray} {t:Int} {i:Nat} (hlo:∀ j x,j<i->l[j]?=some x->vlt x ⟨key,t,noB,false⟩) (hhi:∀ j x,i<=j->l[j]?=some x->¬ vlt x ⟨key,t,noB,false⟩)
  (hb:¬ ∃ x,l[i]?=some x/\x.Key=key/\x.At=t):(i=0->sees l key t=none)/\∀ j y,i=j+1->l[j]?=some y->(y.Key=key->sees l key t=some y)/\(y.Key≠key->sees l key t=none):=by
 refine ⟨λh0=>?_,λj y hj hy=>⟨λhk=>?_,λhk=>?_⟩⟩
 ·rw [zEi]
  rintro x hx ⟨h1,h2⟩
  obtain ⟨n,hn⟩:=List.getElem?_of_mem hx
  have:=zLP hs hhi hb hn h1 h2
  omega
 ·have hy1:=hlo j y (by omega) hy
  have hyt:y.At<t:=by
   rcases hy1 with h1|h1
   ·rw [hk] at h1;exact absurd h1 (Z6 _)
   ·exact h1.2
  refine zIr hs (List.mem_of_getElem? hy) hk (by omega) λx hx h1 h2=>?_
  obtain ⟨n,hn⟩:=List.getElem?_of_mem hx
  have:=zLP hs hhi hb hn h1 h2
  rcases Nat.lt_or_ge n j with h3|h3
  ·rcases zH9 hs h3 hn hy with h4|h4
   ·rw [h1,hk] at h4;exact absurd h4 (Z6 _)
   ·omega
  ·obtain rfl:n=j:=by omega
   rw [hy] at hn;cases hn;exact Int.le_refl _
 ·have hy1:=hlo j y (by omega) hy
  have hyk:sLt y.Key key=true:=by
   rcases hy1 with h1|h1
   ·exact h1
   ·exact absurd h1.1 hk
  rw [zEi]
  rintro x hx ⟨h1,h2⟩
  obtain ⟨n,hn⟩:=List.getElem?_of_mem hx
  have:=zLP hs hhi hb hn h1 h2
  rcases Nat.lt_or_ge n j with h3|h3
  ·have h4:=zOw (zH9 hs h3 hn hy)
   rw [h1] at h4;exact h4 hyk
  ·obtain rfl:n=j:=by omega
   rw [hy] at hn;cases hn;exact hk h1
abbrev zQl:Ver:=⟨noB,0,noB,false⟩
def zLw:Option Ver->Ver
 |none=>zQl
 |some x=>x
theorem zM0 {w:World} {s:Sl} {l:List Ver} (h:zFF w s l) (hs:l.Pairwise vlt) (key:ByteArray) (t:Int) {k:Ver->Bool->World->Prop}
  (H:∀ w',Bel w w'->k (zLw (sees l key t)) (sees l key t).isSome w'):
  Cl zA zMb [Sl.v s,.string key,.int .u64 t].toArray w (λe w'=>∃ (r0:Ver) (r1:Bool),e=.returned (.tuple [zG.v r0,.bool r1].toArray)/\k r0 r1 w'):=by
 refine zMo s key t w k ?_
 have hlen:=h.len;have hbig:=h.big
 unfold zI3
 refine zIo zBz ?_
 have hrow:=Row.new w zEf yK
 have b1:Bel w (w.alloc (.cells (zEf).toArray yK)):=Bel.alloc _ _
 have hR:w.heap.size<=w.heap.size:=zU _
 generalize hB:w.heap.size=B1 at hrow hR ⊢
 generalize (w.alloc (.cells (zEf).toArray yK))=w1 at hrow b1 ⊢
 refine ⟨⟨key,t,noB,false⟩,w1,by kernel_rfl,?_⟩
 refine zPN (h.bel b1) hs ⟨key,t,noB,false⟩ λi b w2 hi hlo hhi hbb b2=>?_
 have b02:=b1.trans b2
 have hrow2:=hrow.bel b2
 have fin:∀ (x:Ver) (bb:Bool),zLw (sees l key t)=x->(sees l key t).isSome=bb->∀ w3,Row w3 B1 x.cells yK->w2.grownBy w3 (some B1)->opR zA zG.v yK (some ⟨B1,0,none⟩) w3 (λq=>k q bb w3):=by
  intro x bb h1 h2 w3 hr3 hg
  refine R.agg yP x rfl hr3.at rfl ?_
  rw [← h1,← h2]
  exact H w3 (b02.grown hg (λq hq=>by cases hq;omega))
 have no:sees l key t=none->zBs s k (some ⟨B1,0,none⟩) ((i:Int) - 1) true w2:=by
  intro hn
  unfold zBs
  refine ⟨λ_=>?_,λh=>(nomatch h)⟩
  refine ⟨zQl,w2,by kernel_rfl,?_⟩
  refine zI1 yP hrow2 rfl rfl rfl λw3 hr3 hg=>?_
  exact fin zQl false (by rw [hn];rfl) (by rw [hn];rfl) w3 hr3 hg
 have yes:∀ (n:Nat) (x:Ver),l[n]?=some x->sees l key t=some x->zBs s k (some ⟨B1,0,none⟩) (n:Int) false w2:=by
  intro n x hx hn
  unfold zBs
  refine ⟨λh=>(nomatch h),λ_=>?_⟩
  refine zDA (h.bel b02) yq Qc (by omega) (x:=x) (by simpa using hx) λad hA=>?_
  refine Za yP x rfl hA rfl ?_
  refine zI1 yP hrow2 rfl rfl rfl λw3 hr3 hg=>?_
  exact fin x true (by rw [hn];rfl) (by rw [hn];rfl) w3 hr3 hg
 refine ⟨λhf=>?_,λhf=>?_⟩
 ·have hb0:¬ ∃ x,l[i]?=some x/\x.Key=key/\x.At=t:=λhx=>by rw [hbb.2 hx] at hf;cases hf
  obtain ⟨p0,p1⟩:=zPm hs hlo hhi hb0
  rw [wr64 (by omega) (by omega)]
  unfold zCu
  refine ⟨λhi0=>no (p0 (by omega)),λhi0=>?_⟩
  obtain ⟨y,hy⟩:∃ y,l[i - 1]?=some y:=⟨l[i - 1]'(by omega),by simp⟩
  obtain ⟨p2,p3⟩:=p1 (i - 1) y (by omega) hy
  refine zDA (h.bel b02) yq Qc (by omega) (x:=y) (by rw [show ((i:Int) - 1).toNat=i - 1 by omega];exact hy) λad hA=>?_
  refine yA ZN zh hA y.Key rfl ?_
  by_cases hk:y.Key=key
  ·rw [decide_eq_false (λh=>h hk),show (i:Int) - 1=((i - 1:Nat):Int) by omega]
   exact yes _ y hy (p2 hk)
  ·rw [decide_eq_true hk]
   exact no (p3 hk)
 ·have hb1:b=true:=by cases b<;>simp_all
  obtain ⟨x,hx,hk,ht⟩:=hbb.1 hb1
  unfold zCu
  refine ⟨λhi0=>by omega,λhi0=>?_⟩
  refine zDA (h.bel b02) yq Qc (by omega) (x:=x) (by simpa using hx) λad hA=>?_
  refine yA ZN zh hA x.Key rfl ?_
  rw [decide_eq_false (λh=>h hk)]
  exact yes i x hx (zPM hs hx hk ht)
end Go.Proofs.YtealcoghiaeiiaaGreat.VG
set_option linter.unusedVariables false
set_option linter.unusedSimpArgs false
namespace Go.Proofs.YtealcoghiaeiiaaGreat.VG
open Go.VB Go.Proofs
def zCL (x1:Sl) (Ret:Sl->World->Prop) (x5:Sl) (x13:Int) (w:World) (Kl1:Sl->Int->World->Prop):Prop:=
 ((x13<(x1.len:Int))->(opE zA zB (zF 30 (Sl.v x1) (.int .i64 x13)) w (λx15 w=>opE zA zJ.v (zD 34 (.pointer x15)) w (λx16 w=>opE zA zB (zf 34 true (.tuple #[])) w (λx7 w=>opU zA (zK 34 (.pointer x7) (zJ.v x16)) w (λw=>opE zA zJ.v (zD 34 (.pointer x7)) w (λx18 w=>Cl zA 41 [(Sl.v x5),(zJ.v x18)].toArray w (λe w=>∃ (r:Sl),e=.returned (Sl.v r)/\(Kl1 r (zC .i64 (x13+1)) w)))))))))/\(¬ (x13<(x1.len:Int))->(Ret x5 w))
def zFu (x0:Sl) (x1:Sl) (w:World) (Ret:Sl->World->Prop):Prop:=
 opE zA Sl.v (ze 22 0 [].toArray) w (λx8 w=>opE zA Sl.v (Builtin.append_ #[22,22] 22 [(Sl.v x8),(Sl.v x0)].toArray) w (λx10 w=>∃ (I:Sl->Int->World->Prop) (μ:Sl->Int->World->Nat),I x10 0 w/\∀ (x5:Sl) (x13:Int) w,I x5 x13 w->zCL x1 Ret x5 x13 w (λx5' x13' w'=>I x5' x13' w'/\μ x5' x13' w'<μ x5 x13 w)))
set_option maxRecDepth 100000 in
theorem zJo (x0:Sl) (x1:Sl) (w:World) (Ret:Sl->World->Prop) (H:zFu x0 x1 w Ret):Cl zA 16 [(Sl.v x0),(Sl.v x1)].toArray w (λe w'=>∃ (r0:Sl),e=.returned (Sl.v r0)/\Ret r0 w'):=by
 unfold zFu at H
 refine zp 22 (zipE 0 [(Sl.v x0),(Sl.v x1)]) Tryz.func16 rfl rfl (by rfl) rfl ?_
 intro a g
 have g:Sat [] 22 [(0,(Sl.v x0)),(1,(Sl.v x1))] a:=g
 refine zI (zE (g.s rfl λ_ g=>zL (tn (zI (zE (g.o (yj g rfl) H λx8 w a H g=>g.m rfl λ_ g=>g.o (zA6 g rfl) H λx10 w a H g=>g.s rfl λ_ g=>zL (tn (zI (zI (zE (g.m rfl λ_ g=>g.purR (λw=>ZU g Tryz.underlying30 rfl) λ_ g=>g.m rfl λ_ g=>zL (tn (zX ?_)))))))))))))
 obtain ⟨I_l1,μ_l1,h0,hb⟩:=H
 refine yE (ds:=[]) (N:=22) (σ:=Sl × Int) (λs=>[(5,(Sl.v s.1)),(13,(.int .i64 s.2)),(11,(Sl.v x1)),(12,(.int .i64 (x1.len:Int)))]) (λs w=>I_l1 s.1 s.2 w) (λs w=>μ_l1 s.1 s.2 w) (x10,0) h0 (g.k) ?_
 rintro ⟨x5,x13⟩ w a hI g
 try dsimp only at hI g
 obtain ⟨Kl1,hK_l1⟩:∃ K:Sl->Int->World->Prop,K=(λx5' x13' w'=>I_l1 x5' x13' w'/\μ_l1 x5' x13' w'<μ_l1 x5 x13 w):=⟨_,rfl⟩
 have H:zCL x1 Ret x5 x13 w Kl1:=by rw [hK_l1];exact hb x5 x13 w hI
 clear hb h0 hI
 unfold zCL at H
 refine zI (zE (g.p (yR g rfl rfl) λ_ g=>zL (tn (zI (zd g rfl (λhc=>?_) (λhc=>?_))))))
 ·have H:=H.1 hc
  refine zY (tn (zI (zX (zI (zE (g.o (zH g rfl rfl) H λx15 w a H g=>g.o (zO g rfl) H λx16 w a H g=>g.o (xY) H λx7 w a H g=>g.h (zT g rfl rfl) H λw a H g=>zL (tn (zE (g.m rfl λ_ g=>g.o (zO g rfl) H λx18 w a H g=>g.c (zb g zSz rfl rfl) H λe w H=>?_)))))))))
  obtain ⟨r,rfl,H⟩:=H
  refine ⟨_,rfl,λ_ g=>(g.s rfl λ_ g=>zL (bn (tn (zE (g.p (zr g rfl rfl) λ_ g=>g.m rfl λ_ g=>?_)))))⟩
  rw [hK_l1] at H
  exact zL (tn ⟨(r,(zC .i64 (x13+1))),g.k,H⟩)
 ·have H:=H.2 hc
  exact z7 (te (te (be (tn (zI (zE (g.m rfl λ_ g=>g.s rfl λ_ g=>zL (tn (zl (zw g rfl rfl ⟨_,rfl,H⟩))))))))))
def zB7 (x0:Sl) (x1:Sl) (Ret:Bool->World->Prop) (x13:Int) (w:World) (Kl1:Int->World->Prop):Prop:=
 ((x13<(x0.len:Int))->(opB zA zB (zF 22 (Sl.v x0) (.int .i64 x13)) w (λx18=>opB zA zM.v (zD 66 (.pointer x18)) w (λx19=>opB zA zB (zF 22 (Sl.v x1) (.int .i64 x13)) w (λx22=>opB zA zM.v (zD 66 (.pointer x22)) w (λx23=>opB zA xv (do eqGuard .neq 66 (.tmp 19) (.tmp 23) (zM.v x19) (zM.v x23);binOp .neq 66 (zM.v x19) (zM.v x23)) w (λx24=>yM w (λw=>(x24=true->(Ret false w))/\(x24=false->(Kl1 (zC .i64 (x13+1)) w))))))))))/\(¬ (x13<(x0.len:Int))->(Ret true w))
def zFQ (x0:Sl) (x1:Sl) (w:World) (Ret:Bool->World->Prop):Prop:=
 (((x0.len:Int)≠(x1.len:Int))->(Ret false w))/\(¬ ((x0.len:Int)≠(x1.len:Int))->(∃ (I:Int->World->Prop) (μ:Int->World->Nat),I 0 w/\∀ (x13:Int) w,I x13 w->zB7 x0 x1 Ret x13 w (λx13' w'=>I x13' w'/\μ x13' w'<μ x13 w)))
set_option maxRecDepth 100000 in
theorem zJO (x0:Sl) (x1:Sl) (w:World) (Ret:Bool->World->Prop) (H:zFQ x0 x1 w Ret):Cl zA 18 [(Sl.v x0),(Sl.v x1)].toArray w (λe w'=>∃ (r0:Bool),e=.returned (.bool r0)/\Ret r0 w'):=by
 unfold zFQ at H
 refine zp 26 (zipE 0 [(Sl.v x0),(Sl.v x1)]) Tryz.func18 rfl rfl (by rfl) rfl ?_
 intro a g
 have g:Sat [] 26 [(0,(Sl.v x0)),(1,(Sl.v x1))] a:=g
 refine zI (zE (g.s rfl λ_ g=>zL (tn (zI (zI (zE (g.m rfl λ_ g=>g.purR (λw=>ZU g Tryz.underlying22 rfl) λ_ g=>g.m rfl λ_ g=>g.purR (λw=>ZU g Tryz.underlying22 rfl) λ_ g=>g.p (zFc g rfl rfl) λ_ g=>zL (tn (zd g rfl (λhc=>?_) (λhc=>?_))))))))))
 ·have H:=H.1 hc
  exact zI (zE (g.s rfl λ_ g=>zL (tn (zl (tr (zw g rfl rfl ⟨_,rfl,H⟩))))))
 ·have H:=H.2 hc
  refine zY (tn (zI (zI (zE (g.m rfl λ_ g=>g.purR (λw=>ZU g Tryz.underlying22 rfl) λ_ g=>g.m rfl λ_ g=>zL (tn (zX ?_)))))))
  obtain ⟨I_l1,μ_l1,h0,hb⟩:=H
  refine yE (ds:=[]) (N:=26) (σ:=Int) (λs=>[(13,(.int .i64 s)),(0,(Sl.v x0)),(1,(Sl.v x1)),(12,(.int .i64 (x0.len:Int)))]) (λs w=>I_l1 s w) (λs w=>μ_l1 s w) 0 h0 (g.k) ?_
  intro x13 w a hI g
  try dsimp only at hI g
  obtain ⟨Kl1,hK_l1⟩:∃ K:Int->World->Prop,K=(λx13' w'=>I_l1 x13' w'/\μ_l1 x13' w'<μ_l1 x13 w):=⟨_,rfl⟩
  have H:zB7 x0 x1 Ret x13 w Kl1:=by rw [hK_l1];exact hb x13 w hI
  clear hb h0 hI
  unfold zB7 at H
  refine zI (zE (g.p (yR g rfl rfl) λ_ g=>zL (tn (zI (zd g rfl (λhc=>?_) (λhc=>?_))))))
  ·have H:=H.1 hc
   refine zY (tn (zI (zX (zI (zE (g.m rfl λ_ g=>g.s rfl λ_ g=>zL (tn (zI (QU (by kernel_rfl) (by kernel_rfl) (g.t rfl λ_ g=>g.t rfl λ_ g=>g.A (zH g rfl rfl) H λx18 a H g=>g.A (zO g rfl) H λx19 a H g=>g.t rfl λ_ g=>g.t rfl λ_ g=>g.A (zH g rfl rfl) H λx22 a H g=>g.A (zO g rfl) H λx23 a H g=>g.A (zCz g rfl rfl) H λx24 a H g=>Qb (λw hB=>?_)))))))))))
   replace H:=H w hB
   refine (tn (zk g rfl (λhc=>?_) (λhc=>?_)))
   ·have H:=H.1 hc
    exact zI (zE (g.s rfl λ_ g=>zL (tn (zl (br (tr (tr (br (tr (zw g rfl rfl ⟨_,rfl,H⟩))))))))))
   ·have H:=H.2 hc
    refine zY (bn (tn (zE (g.p (zr g rfl rfl) λ_ g=>g.m rfl λ_ g=>?_))))
    rw [hK_l1] at H
    exact zL (tn ⟨(zC .i64 (x13+1)),g.k,H⟩)
  ·have H:=H.2 hc
   exact z7 (te (te (be (tn (zI (zE (g.s rfl λ_ g=>zL (tn (zl (zw g rfl rfl ⟨_,rfl,H⟩))))))))))
def zAr (x0:Sl) (x1:Sl) (Ret:Bool->World->Prop) (x13:Int) (w:World) (Kl1:Int->World->Prop):Prop:=
 ((x13<(x0.len:Int))->(opB zA zB (zF 30 (Sl.v x0) (.int .i64 x13)) w (λx18=>opB zA zJ.v (zD 34 (.pointer x18)) w (λx19=>opB zA zB (zF 30 (Sl.v x1) (.int .i64 x13)) w (λx22=>opB zA zJ.v (zD 34 (.pointer x22)) w (λx23=>opB zA xv (do eqGuard .neq 34 (.tmp 19) (.tmp 23) (zJ.v x19) (zJ.v x23);binOp .neq 34 (zJ.v x19) (zJ.v x23)) w (λx24=>yM w (λw=>(x24=true->(Ret false w))/\(x24=false->(Kl1 (zC .i64 (x13+1)) w))))))))))/\(¬ (x13<(x0.len:Int))->(Ret true w))
def zCo (x0:Sl) (x1:Sl) (w:World) (Ret:Bool->World->Prop):Prop:=
 (((x0.len:Int)≠(x1.len:Int))->(Ret false w))/\(¬ ((x0.len:Int)≠(x1.len:Int))->(∃ (I:Int->World->Prop) (μ:Int->World->Nat),I 0 w/\∀ (x13:Int) w,I x13 w->zAr x0 x1 Ret x13 w (λx13' w'=>I x13' w'/\μ x13' w'<μ x13 w)))
set_option maxRecDepth 100000 in
theorem zHE (x0:Sl) (x1:Sl) (w:World) (Ret:Bool->World->Prop) (H:zCo x0 x1 w Ret):Cl zA 28 [(Sl.v x0),(Sl.v x1)].toArray w (λe w'=>∃ (r0:Bool),e=.returned (.bool r0)/\Ret r0 w'):=by
 unfold zCo at H
 refine zp 26 (zipE 0 [(Sl.v x0),(Sl.v x1)]) Tryz.func28 rfl rfl (by rfl) rfl ?_
 intro a g
 have g:Sat [] 26 [(0,(Sl.v x0)),(1,(Sl.v x1))] a:=g
 refine zI (zE (g.s rfl λ_ g=>zL (tn (zI (zI (zE (g.m rfl λ_ g=>g.purR (λw=>ZU g Tryz.underlying30 rfl) λ_ g=>g.m rfl λ_ g=>g.purR (λw=>ZU g Tryz.underlying30 rfl) λ_ g=>g.p (zFc g rfl rfl) λ_ g=>zL (tn (zd g rfl (λhc=>?_) (λhc=>?_))))))))))
 ·have H:=H.1 hc
  exact zI (zE (g.s rfl λ_ g=>zL (tn (zl (tr (zw g rfl rfl ⟨_,rfl,H⟩))))))
 ·have H:=H.2 hc
  refine zY (tn (zI (zI (zE (g.m rfl λ_ g=>g.purR (λw=>ZU g Tryz.underlying30 rfl) λ_ g=>g.m rfl λ_ g=>zL (tn (zX ?_)))))))
  obtain ⟨I_l1,μ_l1,h0,hb⟩:=H
  refine yE (ds:=[]) (N:=26) (σ:=Int) (λs=>[(13,(.int .i64 s)),(0,(Sl.v x0)),(1,(Sl.v x1)),(12,(.int .i64 (x0.len:Int)))]) (λs w=>I_l1 s w) (λs w=>μ_l1 s w) 0 h0 (g.k) ?_
  intro x13 w a hI g
  try dsimp only at hI g
  obtain ⟨Kl1,hK_l1⟩:∃ K:Int->World->Prop,K=(λx13' w'=>I_l1 x13' w'/\μ_l1 x13' w'<μ_l1 x13 w):=⟨_,rfl⟩
  have H:zAr x0 x1 Ret x13 w Kl1:=by rw [hK_l1];exact hb x13 w hI
  clear hb h0 hI
  unfold zAr at H
  refine zI (zE (g.p (yR g rfl rfl) λ_ g=>zL (tn (zI (zd g rfl (λhc=>?_) (λhc=>?_))))))
  ·have H:=H.1 hc
   refine zY (tn (zI (zX (zI (zE (g.m rfl λ_ g=>g.s rfl λ_ g=>zL (tn (zI (QU (by kernel_rfl) (by kernel_rfl) (g.t rfl λ_ g=>g.t rfl λ_ g=>g.A (zH g rfl rfl) H λx18 a H g=>g.A (zO g rfl) H λx19 a H g=>g.t rfl λ_ g=>g.t rfl λ_ g=>g.A (zH g rfl rfl) H λx22 a H g=>g.A (zO g rfl) H λx23 a H g=>g.A (zCz g rfl rfl) H λx24 a H g=>Qb (λw hB=>?_)))))))))))
   replace H:=H w hB
   refine (tn (zk g rfl (λhc=>?_) (λhc=>?_)))
   ·have H:=H.1 hc
    exact zI (zE (g.s rfl λ_ g=>zL (tn (zl (br (tr (tr (br (tr (zw g rfl rfl ⟨_,rfl,H⟩))))))))))
   ·have H:=H.2 hc
    refine zY (bn (tn (zE (g.p (zr g rfl rfl) λ_ g=>g.m rfl λ_ g=>?_))))
    rw [hK_l1] at H
    exact zL (tn ⟨(zC .i64 (x13+1)),g.k,H⟩)
  ·have H:=H.2 hc
   exact z7 (te (te (be (tn (zI (zE (g.s rfl λ_ g=>zL (tn (zl (zw g rfl rfl ⟨_,rfl,H⟩))))))))))
def zAh (x13:Int) (Kl1:Sl->Bool->Int->World->Prop) (x5_1:Sl) (x6_1:Bool) (w:World):Prop:=
 Kl1 x5_1 x6_1 (zC .i64 (x13+1)) w
def zAj (x3:Option Addr) (x13:Int) (Kl1:Sl->Bool->Int->World->Prop) (x8:Option Addr) (x5_2:Sl) (x6_2:Bool) (w:World):Prop:=
 opE zA zB (zN 66 (.pointer x8) 0) w (λx34 w=>opE zA zZ (zD 9 (.pointer x34)) w (λx35 w=>opE zA zB (zN 34 (.pointer x3) 0) w (λx36 w=>opE zA zZ (zD 9 (.pointer x36)) w (λx37 w=>((x35≠x37)->(opE zA zM.v (zD 66 (.pointer x8)) w (λx40 w=>opE zA Sl.v (ze 22 1 [(0,(zM.v x40))].toArray) w (λx41 w=>opE zA Sl.v (Builtin.append_ #[22,22] 22 [(Sl.v x5_2),(Sl.v x41)].toArray) w (λx42 w=>zAh x13 Kl1 x42 x6_2 w)))))/\(¬ (x35≠x37)->(zAh x13 Kl1 x5_2 x6_2 w))))))
def zAk (x3:Option Addr) (x5:Sl) (x6:Bool) (x13:Int) (Kl1:Sl->Bool->Int->World->Prop) (x8:Option Addr) (x25:Bool) (w:World):Prop:=
 (x25=true->(opE zA zB (zN 34 (.pointer x3) 0) w (λx27 w=>opE zA zZ (zD 9 (.pointer x27)) w (λx28 w=>opE zA zB (zN 34 (.pointer x3) 1) w (λx29 w=>opE zA zZ (zD 9 (.pointer x29)) w (λx30 w=>opE zA zM.v (yr 66 [(0,(.string x28)),(1,(.string x30))].toArray) w (λx31 w=>opE zA Sl.v (ze 22 1 [(0,(zM.v x31))].toArray) w (λx32 w=>opE zA Sl.v (Builtin.append_ #[22,22] 22 [(Sl.v x5),(Sl.v x32)].toArray) w (λx33 w=>zAj x3 x13 Kl1 x8 x33 true w)))))))))/\(x25=false->(zAj x3 x13 Kl1 x8 x5 x6 w))
def zBd (Ret:Sl->World->Prop) (x5_3:Sl) (w:World):Prop:=
 Ret x5_3 w
def zCB (x0:Sl) (Ret:Sl->World->Prop) (x3:Option Addr) (x5:Sl) (x6:Bool) (x13:Int) (w:World) (Kl1:Sl->Bool->Int->World->Prop):Prop:=
 ((x13<(x0.len:Int))->(opE zA zB (zF 22 (Sl.v x0) (.int .i64 x13)) w (λx15 w=>opE zA zM.v (zD 66 (.pointer x15)) w (λx16 w=>opE zA zB (zf 66 true (.tuple #[])) w (λx8 w=>opU zA (zK 66 (.pointer x8) (zM.v x16)) w (λw=>opE zA zB (zN 66 (.pointer x8) 0) w (λx17 w=>opE zA zZ (zD 9 (.pointer x17)) w (λx18 w=>opE zA zB (zN 34 (.pointer x3) 0) w (λx19 w=>opE zA zZ (zD 9 (.pointer x19)) w (λx20 w=>((!sLt x18 x20)=true->(zAk x3 x5 x6 x13 Kl1 x8 (!x6) w))/\((!sLt x18 x20)=false->(zAk x3 x5 x6 x13 Kl1 x8 false w))))))))))))/\(¬ (x13<(x0.len:Int))->(((!x6)=true->(opE zA zB (zN 34 (.pointer x3) 0) w (λx47 w=>opE zA zZ (zD 9 (.pointer x47)) w (λx48 w=>opE zA zB (zN 34 (.pointer x3) 1) w (λx49 w=>opE zA zZ (zD 9 (.pointer x49)) w (λx50 w=>opE zA zM.v (yr 66 [(0,(.string x48)),(1,(.string x50))].toArray) w (λx51 w=>opE zA Sl.v (ze 22 1 [(0,(zM.v x51))].toArray) w (λx52 w=>opE zA Sl.v (Builtin.append_ #[22,22] 22 [(Sl.v x5),(Sl.v x52)].toArray) w (λx53 w=>zBd Ret x53 w)))))))))/\((!x6)=false->(zBd Ret x5 w))))
def zFP (x0:Sl) (x1:zJ) (w:World) (Ret:Sl->World->Prop):Prop:=
 opE zA zB (Instr.box 34 (zJ.v x1)) w (λx3 w=>opE zA zB (zN 34 (.pointer x3) 2) w (λx9 w=>opE zA xv (zD 4 (.pointer x9)) w (λx10 w=>∃ (I:Sl->Bool->Int->World->Prop) (μ:Sl->Bool->Int->World->Nat),I Sl.none x10 0 w/\∀ (x5:Sl) (x6:Bool) (x13:Int) w,I x5 x6 x13 w->zCB x0 Ret x3 x5 x6 x13 w (λx5' x6' x13' w'=>I x5' x6' x13' w'/\μ x5' x6' x13' w'<μ x5 x6 x13 w))))
set_option maxRecDepth 100000 in
theorem zJR (x0:Sl) (x1:zJ) (w:World) (Ret:Sl->World->Prop) (H:zFP x0 x1 w Ret):Cl zA 41 [(Sl.v x0),(zJ.v x1)].toArray w (λe w'=>∃ (r0:Sl),e=.returned (Sl.v r0)/\Ret r0 w'):=by
 unfold zFP at H
 refine zp 55 (zipE 0 [(Sl.v x0),(zJ.v x1)]) Tryz.func41 rfl rfl (by rfl) rfl ?_
 intro a g
 have g:Sat [] 55 [(0,(Sl.v x0)),(1,(zJ.v x1))] a:=g
 refine zI (zE (g.o (zBc g rfl) H λx3 w a H g=>g.s rfl λ_ g=>zL (tn (zI (zE (g.s rfl λ_ g=>zL (tn (zI (zE (g.o (zP g rfl) H λx9 w a H g=>g.o (zO g rfl) H λx10 w a H g=>g.s rfl λ_ g=>zL (tn (zI (zI (zE (g.m rfl λ_ g=>g.purR (λw=>ZU g Tryz.underlying22 rfl) λ_ g=>g.m rfl λ_ g=>zL (tn (zX ?_)))))))))))))))))
 obtain ⟨I_l1,μ_l1,h0,hb⟩:=H
 refine yE (ds:=[]) (N:=55) (σ:=Sl × Bool × Int) (λs=>[(5,(Sl.v s.1)),(6,(.bool s.2.1)),(13,(.int .i64 s.2.2)),(3,(.pointer x3)),(11,(Sl.v x0)),(12,(.int .i64 (x0.len:Int)))]) (λs w=>I_l1 s.1 s.2.1 s.2.2 w) (λs w=>μ_l1 s.1 s.2.1 s.2.2 w) (Sl.none,x10,0) h0 (g.k) ?_
 rintro ⟨x5,x6,x13⟩ w a hI g
 try dsimp only at hI g
 obtain ⟨Kl1,hK_l1⟩:∃ K:Sl->Bool->Int->World->Prop,K=(λx5' x6' x13' w'=>I_l1 x5' x6' x13' w'/\μ_l1 x5' x6' x13' w'<μ_l1 x5 x6 x13 w):=⟨_,rfl⟩
 have H:zCB x0 Ret x3 x5 x6 x13 w Kl1:=by rw [hK_l1];exact hb x5 x6 x13 w hI
 clear hb h0 hI
 unfold zCB at H
 refine zI (zE (g.p (yR g rfl rfl) λ_ g=>zL (tn (zI (zd g rfl (λhc=>?_) (λhc=>?_))))))
 ·have H:=H.1 hc
  refine zY (tn (z8 (ds:=[]) (N:=55) (σ:=Sl × Bool) (λs=>[(5,(Sl.v s.1)),(6,(.bool s.2)),(3,(.pointer x3)),(11,(Sl.v x0)),(12,(.int .i64 (x0.len:Int))),(13,(.int .i64 x13))]) (λs w=>zAh x13 Kl1 s.1 s.2 w) ?_ (λhj2=>?_)))
  ·rintro ⟨x5_1,x6_1⟩ w a H g
   try dsimp only at H g
   unfold zAh at H
   refine zE (g.p (zr g rfl rfl) λ_ g=>g.m rfl λ_ g=>?_)
   rw [hK_l1] at H
   exact zL (tn ⟨(x5_1,x6_1,(zC .i64 (x13+1))),g.k,H⟩)
  ·refine zX (zI (zE (g.o (zH g rfl rfl) H λx15 w a H g=>g.o (zO g rfl) H λx16 w a H g=>g.o (xY) H λx8 w a H g=>g.h (zT g rfl rfl) H λw a H g=>zL (tn (z8 (ds:=[]) (N:=55) (σ:=Sl × Bool) (λs=>[(5,(Sl.v s.1)),(6,(.bool s.2)),(3,(.pointer x3)),(8,(.pointer x8)),(11,(Sl.v x0)),(12,(.int .i64 (x0.len:Int))),(13,(.int .i64 x13))]) (λs w=>zAj x3 x13 Kl1 x8 s.1 s.2 w) ?_ (λhj3=>?_))))))
   ·rintro ⟨x5_2,x6_2⟩ w a H g
    try dsimp only at H g
    unfold zAj at H
    refine zI (zE (g.o (zP g rfl) H λx34 w a H g=>g.o (zO g rfl) H λx35 w a H g=>g.o (zP g rfl) H λx36 w a H g=>g.o (zO g rfl) H λx37 w a H g=>g.p (zNJ g rfl rfl) λ_ g=>zL (tn (zd g rfl (λhc=>?_) (λhc=>?_)))))
    ·have H:=H.1 hc
     exact zE (g.m rfl λ_ g=>g.o (zO g rfl) H λx40 w a H g=>g.o (yj g rfl) H λx41 w a H g=>g.o (zA6 g rfl) H λx42 w a H g=>g.s rfl λ_ g=>zL (bn (tn (hj2 (x42,x6_2) _ _ H (g.k)))))
    ·have H:=H.2 hc
     exact zY (bn (tn (hj2 (x5_2,x6_2) _ _ H (g.k))))
   ·refine zI (zE (g.o (zP g rfl) H λx17 w a H g=>g.o (zO g rfl) H λx18 w a H g=>g.o (zP g rfl) H λx19 w a H g=>g.o (zO g rfl) H λx20 w a H g=>g.p (zNN g rfl rfl) λ_ g=>g.m rfl λ_ g=>WL.join (ds:=[]) (N:=55) (σ:=Bool) (λs=>[(25,(.bool s)),(3,(.pointer x3)),(5,(Sl.v x5)),(6,(.bool x6)),(8,(.pointer x8)),(11,(Sl.v x0)),(12,(.int .i64 (x0.len:Int))),(13,(.int .i64 x13))]) (λs w=>zAk x3 x5 x6 x13 Kl1 x8 s w) 3 ?_ (λhr4=>?_)))
    ·intro x25 w a H g
     try dsimp only at H g
     unfold zAk at H
     refine zL (tn (zk g rfl (λhc=>?_) (λhc=>?_)))
     ·have H:=H.1 hc
      exact zI (zE (g.m rfl λ_ g=>g.o (zP g rfl) H λx27 w a H g=>g.o (zO g rfl) H λx28 w a H g=>g.o (zP g rfl) H λx29 w a H g=>g.o (zO g rfl) H λx30 w a H g=>g.o (Z5 g rfl) H λx31 w a H g=>g.o (yj g rfl) H λx32 w a H g=>g.o (zA6 g rfl) H λx33 w a H g=>g.s rfl λ_ g=>zL (tn (zE (g.s rfl λ_ g=>zL (tn (hj3 (x33,true) _ _ H (g.k))))))))
     ·have H:=H.2 hc
      exact zY (tn (hj3 (x5,x6) _ _ H (g.k)))
    ·rcases Bool.eq_false_or_eq_true ((!sLt x18 x20)) with hbr4|hbr4
     ·have H:=H.1 hbr4
      have g:=g.b (b:=true) (t:=22) rfl (hbr4)
      exact g.z (g.m rfl λ_ g=>g.z (g.p (zAJ g rfl) λ_ g=>g.p (zx g rfl rfl) λ_ g=>hr4 (!x6) _ _ H (g.k)))
     ·have H:=H.2 hbr4
      have g:=g.b (b:=false) (t:=22) rfl (hbr4)
      exact g.d (λ_ g=>g.d (λ_ g=>g.p (zy g rfl rfl) λ_ g=>hr4 false _ _ H (g.k)))
 ·have H:=H.2 hc
  refine z7 (te (te (be (tn (z8 (ds:=[]) (N:=55) (σ:=Sl) (λs=>[(5,(Sl.v s))]) (λs w=>zBd Ret s w) ?_ (λhj5=>?_))))))
  ·intro x5_3 w a H g
   try dsimp only at H g
   unfold zBd at H
   exact zI (zE (g.m rfl λ_ g=>g.s rfl λ_ g=>zL (tn (zl (zw g rfl rfl ⟨_,rfl,H⟩)))))
  ·refine zI (zE (g.m rfl λ_ g=>g.p (zAJ g rfl) λ_ g=>zL (tn (zk g rfl (λhc=>?_) (λhc=>?_)))))
   ·have H:=H.1 hc
    exact zE (g.m rfl λ_ g=>g.o (zP g rfl) H λx47 w a H g=>g.o (zO g rfl) H λx48 w a H g=>g.o (zP g rfl) H λx49 w a H g=>g.o (zO g rfl) H λx50 w a H g=>g.o (Z5 g rfl) H λx51 w a H g=>g.o (yj g rfl) H λx52 w a H g=>g.o (zA6 g rfl) H λx53 w a H g=>g.s rfl λ_ g=>zL (tn (hj5 x53 _ _ H (g.k))))
   ·have H:=H.2 hc
    exact zY (tn (hj5 x5 _ _ H (g.k)))
def zCK (x0:Sl) (x1:ByteArray) (Ret:ByteArray->Bool->World->Prop) (x10:Int) (w:World) (Kl1:Int->World->Prop):Prop:=
 ((x10<(x0.len:Int))->(opE zA zB (zF 22 (Sl.v x0) (.int .i64 x10)) w (λx12 w=>opE zA zM.v (zD 66 (.pointer x12)) w (λx13 w=>opE zA zB (zf 66 true (.tuple #[])) w (λx7 w=>opU zA (zK 66 (.pointer x7) (zM.v x13)) w (λw=>opE zA zB (zN 66 (.pointer x7) 0) w (λx14 w=>opE zA zZ (zD 9 (.pointer x14)) w (λx15 w=>((x15=x1)->(opE zA zB (zN 66 (.pointer x7) 1) w (λx18 w=>opE zA zZ (zD 9 (.pointer x18)) w (λx19 w=>Ret x19 true w))))/\(¬ (x15=x1)->(Kl1 (zC .i64 (x10+1)) w))))))))))/\(¬ (x10<(x0.len:Int))->(Ret (ByteArray.mk #[]) false w))
def zFw (x0:Sl) (x1:ByteArray) (w:World) (Ret:ByteArray->Bool->World->Prop):Prop:=
 ∃ (I:Int->World->Prop) (μ:Int->World->Nat),I 0 w/\∀ (x10:Int) w,I x10 w->zCK x0 x1 Ret x10 w (λx10' w'=>I x10' w'/\μ x10' w'<μ x10 w)
set_option maxRecDepth 100000 in
theorem zJg (x0:Sl) (x1:ByteArray) (w:World) (Ret:ByteArray->Bool->World->Prop) (H:zFw x0 x1 w Ret):Cl zA 49 [(Sl.v x0),(.string x1)].toArray w (λe w'=>∃ (r0:ByteArray) (r1:Bool),e=.returned (.tuple [(.string r0),(.bool r1)].toArray)/\Ret r0 r1 w'):=by
 unfold zFw at H
 refine zp 21 (zipE 0 [(Sl.v x0),(.string x1)]) Tryz.func49 rfl rfl (by rfl) rfl ?_
 intro a g
 have g:Sat [] 21 [(0,(Sl.v x0)),(1,(.string x1))] a:=g
 refine zI (zE (g.s rfl λ_ g=>g.s rfl λ_ g=>zL (tn (zI (zI (zE (g.m rfl λ_ g=>g.purR (λw=>ZU g Tryz.underlying22 rfl) λ_ g=>g.m rfl λ_ g=>zL (tn (zX ?_)))))))))
 obtain ⟨I_l1,μ_l1,h0,hb⟩:=H
 refine yE (ds:=[]) (N:=21) (σ:=Int) (λs=>[(10,(.int .i64 s)),(1,(.string x1)),(8,(Sl.v x0)),(9,(.int .i64 (x0.len:Int)))]) (λs w=>I_l1 s w) (λs w=>μ_l1 s w) 0 h0 (g.k) ?_
 intro x10 w a hI g
 try dsimp only at hI g
 obtain ⟨Kl1,hK_l1⟩:∃ K:Int->World->Prop,K=(λx10' w'=>I_l1 x10' w'/\μ_l1 x10' w'<μ_l1 x10 w):=⟨_,rfl⟩
 have H:zCK x0 x1 Ret x10 w Kl1:=by rw [hK_l1];exact hb x10 w hI
 clear hb h0 hI
 unfold zCK at H
 refine zI (zE (g.p (yR g rfl rfl) λ_ g=>zL (tn (zI (zd g rfl (λhc=>?_) (λhc=>?_))))))
 ·have H:=H.1 hc
  refine zY (tn (zI (zX (zI (zE (g.o (zH g rfl rfl) H λx12 w a H g=>g.o (zO g rfl) H λx13 w a H g=>g.o (xY) H λx7 w a H g=>g.h (zT g rfl rfl) H λw a H g=>zL (tn (zI (zE (g.o (zP g rfl) H λx14 w a H g=>g.o (zO g rfl) H λx15 w a H g=>g.m rfl λ_ g=>g.p (zLJ g rfl rfl) λ_ g=>zL (tn (zd g rfl (λhc=>?_) (λhc=>?_)))))))))))))
  ·have H:=H.1 hc
   exact zI (zE (g.o (zP g rfl) H λx18 w a H g=>g.o (zO g rfl) H λx19 w a H g=>g.s rfl λ_ g=>g.s rfl λ_ g=>zL (tn (zl (br (tr (tr (br (tr (ZK g rfl rfl rfl ⟨_,_,rfl,H⟩))))))))))
  ·have H:=H.2 hc
   refine zY (bn (tn (zE (g.p (zr g rfl rfl) λ_ g=>g.m rfl λ_ g=>?_))))
   rw [hK_l1] at H
   exact zL (tn ⟨(zC .i64 (x10+1)),g.k,H⟩)
 ·have H:=H.2 hc
  exact z7 (te (te (be (tn (zI (zE (g.s rfl λ_ g=>g.s rfl λ_ g=>zL (tn (zl (ZK g rfl rfl rfl ⟨_,_,rfl,H⟩))))))))))
def zAf (x17:Int) (Kl1:Sl->Int->World->Prop) (x10_1:Sl) (w:World):Prop:=
 Kl1 x10_1 (zC .i64 (x17+1)) w
def zAg (x10:Sl) (x17:Int) (Kl1:Sl->Int->World->Prop) (x12:Option Addr) (x40:Bool) (w:World):Prop:=
 (x40=true->(opE zA zM.v (zD 66 (.pointer x12)) w (λx42 w=>opE zA Sl.v (ze 22 1 [(0,(zM.v x42))].toArray) w (λx43 w=>opE zA Sl.v (Builtin.append_ #[22,22] 22 [(Sl.v x10),(Sl.v x43)].toArray) w (λx44 w=>zAf x17 Kl1 x44 w)))))/\(x40=false->(zAf x17 Kl1 x10 w))
def zAd (x3:Int) (x10:Sl) (x17:Int) (Kl1:Sl->Int->World->Prop) (x12:Option Addr) (x34:Bool) (w:World):Prop:=
 (x34=true->(zAg x10 x17 Kl1 x12 (decide ((x10.len:Int)<x3)) w))/\(x34=false->(zAg x10 x17 Kl1 x12 false w))
def zAi (x3:Int) (x10:Sl) (x17:Int) (Kl1:Sl->Int->World->Prop) (x12:Option Addr) (x33:Bool) (w:World):Prop:=
 zAd x3 x10 x17 Kl1 x12 x33 w
def zB9 (x0:Sl) (x1:ByteArray) (x2:ByteArray) (x3:Int) (Ret:Sl->Int->World->Prop) (x10:Sl) (x17:Int) (w:World) (Kl1:Sl->Int->World->Prop):Prop:=
 ((x17<(x0.len:Int))->(opE zA zB (zF 22 (Sl.v x0) (.int .i64 x17)) w (λx19 w=>opE zA zM.v (zD 66 (.pointer x19)) w (λx20 w=>opE zA zB (zf 66 true (.tuple #[])) w (λx12 w=>opU zA (zK 66 (.pointer x12) (zM.v x20)) w (λw=>opE zA zB (zN 66 (.pointer x12) 0) w (λx21 w=>opE zA zZ (zD 9 (.pointer x21)) w (λx22 w=>((!sLt x22 x1)=true->(((x2=(ByteArray.mk #[]))->(zAi x3 x10 x17 Kl1 x12 true w))/\(¬ (x2=(ByteArray.mk #[]))->(opE zA zB (zN 66 (.pointer x12) 0) w (λx29 w=>opE zA zZ (zD 9 (.pointer x29)) w (λx30 w=>zAi x3 x10 x17 Kl1 x12 (sLt x30 x2) w))))))/\((!sLt x22 x1)=false->(zAd x3 x10 x17 Kl1 x12 false w))))))))))/\(¬ (x17<(x0.len:Int))->(Ret x10 0 w))
def zFU (x0:Sl) (x1:ByteArray) (x2:ByteArray) (x3:Int) (w:World) (Ret:Sl->Int->World->Prop):Prop:=
 ((x3<0)->(Ret Sl.none 2 w))/\(¬ (x3<0)->(∃ (I:Sl->Int->World->Prop) (μ:Sl->Int->World->Nat),I Sl.none 0 w/\∀ (x10:Sl) (x17:Int) w,I x10 x17 w->zB9 x0 x1 x2 x3 Ret x10 x17 w (λx10' x17' w'=>I x10' x17' w'/\μ x10' x17' w'<μ x10 x17 w)))
set_option maxRecDepth 100000 in
theorem zJP (x0:Sl) (x1:ByteArray) (x2:ByteArray) (x3:Int) (w:World) (Ret:Sl->Int->World->Prop) (H:zFU x0 x1 x2 x3 w Ret):Cl zA 50 [(Sl.v x0),(.string x1),(.string x2),(.int .i64 x3)].toArray w (λe w'=>∃ (r0:Sl) (r1:Int),e=.returned (.tuple [(Sl.v r0),(.int .i64 r1)].toArray)/\Ret r0 r1 w'):=by
 unfold zFU at H
 refine zp 47 (zipE 0 [(Sl.v x0),(.string x1),(.string x2),(.int .i64 x3)]) Tryz.func50 rfl rfl (by rfl) rfl ?_
 intro a g
 have g:Sat [] 47 [(0,(Sl.v x0)),(1,(.string x1)),(2,(.string x2)),(3,(.int .i64 x3))] a:=g
 refine zI (zE (g.s rfl λ_ g=>g.s rfl λ_ g=>zL (tn (zI (zI (zE (g.m rfl λ_ g=>g.p (yR g rfl rfl) λ_ g=>zL (tn (zd g rfl (λhc=>?_) (λhc=>?_))))))))))
 ·have H:=H.1 hc
  exact zI (zE (g.s rfl λ_ g=>g.s rfl λ_ g=>zL (tn (zl (tr (ZK g rfl rfl rfl ⟨_,_,rfl,H⟩))))))
 ·have H:=H.2 hc
  refine zY (tn (zI (zE (g.s rfl λ_ g=>zL (tn (zI (zI (zE (g.m rfl λ_ g=>g.purR (λw=>ZU g Tryz.underlying22 rfl) λ_ g=>g.m rfl λ_ g=>zL (tn (zX ?_)))))))))))
  obtain ⟨I_l1,μ_l1,h0,hb⟩:=H
  refine yE (ds:=[]) (N:=47) (σ:=Sl × Int) (λs=>[(10,(Sl.v s.1)),(17,(.int .i64 s.2)),(1,(.string x1)),(2,(.string x2)),(3,(.int .i64 x3)),(15,(Sl.v x0)),(16,(.int .i64 (x0.len:Int)))]) (λs w=>I_l1 s.1 s.2 w) (λs w=>μ_l1 s.1 s.2 w) (Sl.none,0) h0 (g.k) ?_
  rintro ⟨x10,x17⟩ w a hI g
  try dsimp only at hI g
  obtain ⟨Kl1,hK_l1⟩:∃ K:Sl->Int->World->Prop,K=(λx10' x17' w'=>I_l1 x10' x17' w'/\μ_l1 x10' x17' w'<μ_l1 x10 x17 w):=⟨_,rfl⟩
  have H:zB9 x0 x1 x2 x3 Ret x10 x17 w Kl1:=by rw [hK_l1];exact hb x10 x17 w hI
  clear hb h0 hI
  unfold zB9 at H
  refine zI (zE (g.p (yR g rfl rfl) λ_ g=>zL (tn (zI (zd g rfl (λhc=>?_) (λhc=>?_))))))
  ·have H:=H.1 hc
   refine zY (tn (z8 (ds:=[]) (N:=47) (σ:=Sl) (λs=>[(10,(Sl.v s)),(1,(.string x1)),(2,(.string x2)),(3,(.int .i64 x3)),(15,(Sl.v x0)),(16,(.int .i64 (x0.len:Int))),(17,(.int .i64 x17))]) (λs w=>zAf x17 Kl1 s w) ?_ (λhj2=>?_)))
   ·intro x10_1 w a H g
    try dsimp only at H g
    unfold zAf at H
    refine zE (g.p (zr g rfl rfl) λ_ g=>g.m rfl λ_ g=>?_)
    rw [hK_l1] at H
    exact zL (tn ⟨(x10_1,(zC .i64 (x17+1))),g.k,H⟩)
   ·refine zX (zI (zE (g.o (zH g rfl rfl) H λx19 w a H g=>g.o (zO g rfl) H λx20 w a H g=>g.o (xY) H λx12 w a H g=>g.h (zT g rfl rfl) H λw a H g=>zL (tn (zI (zE (g.o (zP g rfl) H λx21 w a H g=>g.o (zO g rfl) H λx22 w a H g=>g.m rfl λ_ g=>g.p (zNN g rfl rfl) λ_ g=>g.m rfl λ_ g=>WL.join (ds:=[]) (N:=47) (σ:=Bool) (λs=>[(34,(.bool s)),(1,(.string x1)),(2,(.string x2)),(3,(.int .i64 x3)),(10,(Sl.v x10)),(12,(.pointer x12)),(15,(Sl.v x0)),(16,(.int .i64 (x0.len:Int))),(17,(.int .i64 x17))]) (λs w=>zAd x3 x10 x17 Kl1 x12 s w) 9 ?_ (λhr3=>?_))))))))
    ·intro x34 w a H g
     try dsimp only at H g
     unfold zAd at H
     refine g.m rfl λ_ g=>WL.join (ds:=[]) (N:=47) (σ:=Bool) (λs=>[(40,(.bool s)),(1,(.string x1)),(2,(.string x2)),(3,(.int .i64 x3)),(10,(Sl.v x10)),(12,(.pointer x12)),(15,(Sl.v x0)),(16,(.int .i64 (x0.len:Int))),(17,(.int .i64 x17))]) (λs w=>zAg x10 x17 Kl1 x12 s w) 5 ?_ (λhr4=>?_)
     ·intro x40 w a H g
      try dsimp only at H g
      unfold zAg at H
      refine zL (tn (zk g rfl (λhc=>?_) (λhc=>?_)))
      ·have H:=H.1 hc
       exact zE (g.m rfl λ_ g=>g.o (zO g rfl) H λx42 w a H g=>g.o (yj g rfl) H λx43 w a H g=>g.o (zA6 g rfl) H λx44 w a H g=>g.s rfl λ_ g=>zL (bn (tn (hj2 x44 _ _ H (g.k)))))
      ·have H:=H.2 hc
       exact zY (bn (tn (hj2 x10 _ _ H (g.k))))
     ·rcases Bool.eq_false_or_eq_true (x34) with hbr4|hbr4
      ·have H:=H.1 hbr4
       have g:=g.b (b:=true) (t:=35) rfl (hbr4)
       exact g.z (g.m rfl λ_ g=>g.z (g.purR (λw=>ZU g Tryz.underlying22 rfl) λ_ g=>g.z (g.m rfl λ_ g=>g.z (g.p (yR g rfl rfl) λ_ g=>g.p (zx g rfl rfl) λ_ g=>hr4 (decide ((x10.len:Int)<x3)) _ _ H (g.k)))))
      ·have H:=H.2 hbr4
       have g:=g.b (b:=false) (t:=35) rfl (hbr4)
       exact g.d (λ_ g=>g.d (λ_ g=>g.d (λ_ g=>g.d (λ_ g=>g.p (zy g rfl rfl) λ_ g=>hr4 false _ _ H (g.k)))))
    ·rcases Bool.eq_false_or_eq_true ((!sLt x22 x1)) with hbr3|hbr3
     ·have H:=H.1 hbr3
      have g:=g.b (b:=true) (t:=25) rfl (hbr3)
      refine g.z (g.m rfl λ_ g=>g.z (g.p (zLJ g rfl rfl) λ_ g=>g.z (g.m rfl λ_ g=>WL.join (ds:=[]) (N:=47) (σ:=Bool) (λs=>[(33,(.bool s)),(1,(.string x1)),(2,(.string x2)),(3,(.int .i64 x3)),(10,(Sl.v x10)),(12,(.pointer x12)),(15,(Sl.v x0)),(16,(.int .i64 (x0.len:Int))),(17,(.int .i64 x17)),(25,(.bool true))]) (λs w=>zAi x3 x10 x17 Kl1 x12 s w) 5 ?_ (λhr5=>?_))))
      ·intro x33 w a H g
       try dsimp only at H g
       unfold zAi at H
       exact g.p (zx g rfl rfl) λ_ g=>hr3 x33 _ _ H (g.k)
      ·rcases Classical.em ((x2=(ByteArray.mk #[]))) with hbr5|hbr5
       ·have H:=H.1 hbr5
        have g:=g.b (b:=true) (t:=28) rfl (decide_eq_true hbr5)
        exact g.d (λ_ g=>g.d (λ_ g=>g.d (λ_ g=>g.d (λ_ g=>g.z (g.p (zx g rfl rfl) λ_ g=>hr5 true _ _ H (g.k))))))
       ·have H:=H.2 hbr5
        have g:=g.b (b:=false) (t:=28) rfl (decide_eq_false hbr5)
        exact g.z (g.o (zP g rfl) H λx29 w a H g=>g.z (g.o (zO g rfl) H λx30 w a H g=>g.z (g.m rfl λ_ g=>g.z (g.p (zOZ g rfl rfl) λ_ g=>g.z (g.p (zy g rfl rfl) λ_ g=>hr5 (sLt x30 x2) _ _ H (g.k))))))
     ·have H:=H.2 hbr3
      have g:=g.b (b:=false) (t:=25) rfl (hbr3)
      exact g.d (λ_ g=>g.d (λ_ g=>g.d (λ_ g=>g.offU (by rfl) (by rfl) (λ_ g=>g.offU (by rfl) (by rfl) (λ_ g=>g.offU (by rfl) (by rfl) (λ_ g=>g.offU (by rfl) (by rfl) (λ_ g=>g.d (λ_ g=>g.p (zy g rfl rfl) λ_ g=>hr3 false _ _ H (g.k)))))))))
  ·have H:=H.2 hc
   exact z7 (te (te (be (tn (zI (zE (g.m rfl λ_ g=>g.s rfl λ_ g=>g.s rfl λ_ g=>zL (tn (zl (ZK g rfl rfl rfl ⟨_,_,rfl,H⟩))))))))))
end Go.Proofs.YtealcoghiaeiiaaGreat.VG
set_option linter.unusedVariables false
namespace Go.Proofs.YtealcoghiaeiiaaGreat.VG
open Go.VB Go.VB.Srt Go.Proofs Go.RowKit
theorem getV {l:List Ver} {n:Nat} (h:n<l.length):∃ x,l[n]?=some x:=⟨l[n]'h,by simp⟩
theorem zKf {w:World} {x0:zQ} {l:List Ver} (h:zFF w x0.List l) {k:Int->World->Prop} (H:∀ w',Bel w w'->k (vchk l x0.Low) w'):
  Cl zA zLi [zQ.v x0].toArray w (λe w'=>∃ r0:Int,e=.returned (.int .i64 r0)/\k r0 w'):=by
 refine zLf x0 w k ?_
 have hbig:=h.big;have hcap:=h.cap;have hlen:=h.len
 have bad:∀ w',Bel w w'->¬ zCt l x0.Low->k 2 w':=λw' hb hn=>by rw [← zQ1 hn];exact H w' hb
 unfold zH1
 refine zAo (cs:=x0.cells) rfl λB w1 b1 hV _=>?_
 refine yA yI yH hV.at x0.List rfl ?_
 have r1t:¬ zCt l x0.Low->zCY k (some ⟨B,0,none⟩) true w1:=λhn=>⟨λ_=>bad _ b1 hn,λh=>(nomatch h)⟩
 refine ⟨λhc=>r1t (λhg=>by have:=hg.len;omega),λhc=>?_⟩
 refine yA zA3 yO hV.at x0.Low rfl ?_
 by_cases hlow:2305843009213693952<x0.Low
 case pos=>rw [decide_eq_true hlow];exact r1t (λhg=>by have:=hg.low;omega)
 rw [decide_eq_false hlow]
 unfold zCY
 refine ⟨λh=>(nomatch h),λ_=>?_⟩
 refine yA yI yH hV.at x0.List rfl ?_
 refine ⟨λx W=>∃ n:Nat,x=(n:Int)/\n<=l.length/\Bel w1 W/\OkTo l n,λx _=>(x0.List.len - x).toNat,⟨0,rfl,by omega,Bel.refl _,OkTo.zero l⟩,?_⟩
 rintro x W ⟨n,rfl,hn,hb,hok⟩
 unfold zEk
 refine ⟨λhlt=>?_,λhlt=>?_⟩
 case refine_2=>
  have hG:zCt l x0.Low:=⟨by omega,by omega,by rw [show l.length=n from by omega];exact hok⟩
  rw [← zLx hG];exact H W (b1.trans hb)
 obtain ⟨e,he⟩:=getV (l:=l) (n:=n) (by omega)
 have b01:=b1.trans hb
 refine zDA (h.bel b01) yq Qc (by omega) (x:=e) (by simpa using he) λad hA=>?_
 refine Za yP e rfl hA rfl ?_
 refine zBa zBz rfl yP (cs:=e.cells) rfl rfl rfl λC w2 b2 hX _=>?_
 have b02:=b01.trans b2
 have hV2:=(hV.bel hb).bel b2
 have badAt:∀ w',Bel w2 w'->¬ OkAt l n e->k 2 w':=λw' hb hno=>bad w' (b02.trans hb) λhG=>hno (hG.ok n e (by omega) he)
 have r7t:∀ K:Int->World->Prop,¬ OkAt l n e->zCb k n K true w2:=λK hng w' hb'=>⟨λ_=>badAt _ hb' hng,λh=>(nomatch h)⟩
 have r6f:∀ K:Int->World->Prop,¬ OkAt l n e->zCT k (some ⟨B,0,none⟩) n K (some ⟨C,0,none⟩) false w2:=λK hng=>⟨λ_=>r7t K hng,λh=>(nomatch h)⟩
 have r5f:∀ K:Int->World->Prop,¬ OkAt l n e->zCW k (some ⟨B,0,none⟩) n K (some ⟨C,0,none⟩) false w2:=λK hng=>⟨λh=>(nomatch h),λ_=>r6f K hng⟩
 have r4f:∀ K:Int->World->Prop,¬ OkAt l n e->zB0 k (some ⟨B,0,none⟩) n K (some ⟨C,0,none⟩) false w2:=λK hng=>⟨λh=>(nomatch h),λ_=>r5f K hng⟩
 have r3f:∀ K:Int->World->Prop,¬ OkAt l n e->zCc k (some ⟨B,0,none⟩) n K (some ⟨C,0,none⟩) false w2:=λK hng=>⟨λh=>(nomatch h),λ_=>r4f K hng⟩
 refine yA zAt yO hX.at e.At rfl ?_
 refine ⟨λhlo=>?_,λhc=>r3f _ (λhG=>by have:=hG.1.lo;omega)⟩
 refine yA zAt yO hX.at e.At rfl ?_
 by_cases hhi:e.At<=2305843009213693952
 case neg=>rw [decide_eq_false hhi];exact r3f _ (λhG=>by have:=hG.1.hi;omega)
 rw [decide_eq_true hhi]
 unfold zCc
 refine ⟨λ_=>?_,λh=>(nomatch h)⟩
 refine yA zCm zDR hX.at e.Gone rfl ?_
 have r4t:∀ K:Int->World->Prop,(∀ w',Bel w2 w'->OkAt l n e->K (zC .i64 ((n:Int)+1)) w')->(e.Gone=true->e.Val=noB)->zB0 k (some ⟨B,0,none⟩) n K (some ⟨C,0,none⟩) true w2:=by
  intro K hK hgone
  unfold zB0
  refine ⟨λ_=>?_,λh=>(nomatch h)⟩
  refine yA ZN zh hX.at e.Key rfl ?_
  by_cases hkl:(e.Key.size:Int)<=256
  case neg=>rw [decide_eq_false hkl];exact r5f _ (λhG=>by have:=hG.1.keyl;omega)
  rw [decide_eq_true hkl]
  unfold zCW
  refine ⟨λ_=>?_,λh=>(nomatch h)⟩
  refine yA zB4 zh hX.at e.Val rfl ?_
  by_cases hvl:(e.Val.size:Int)<=512
  case neg=>rw [decide_eq_false hvl];exact r6f _ (λhG=>by have:=hG.1.vall;omega)
  rw [decide_eq_true hvl]
  have made:Made e:=⟨by omega,by omega,hgone,by omega,by omega⟩
  have r7f:OkAt l n e->zCb k n K false w2:=λhG w' hb'=>⟨λh=>(nomatch h),λ_=>hK w' hb' hG⟩
  unfold zCT
  refine ⟨λh=>(nomatch h),λ_=>⟨λh0=>?_,λh0=>r7f ⟨made,λj y hj _=>by omega⟩⟩⟩
  obtain ⟨p,hp⟩:=getV (l:=l) (n:=n - 1) (by omega)
  have hp':l[((n:Int) - 1).toNat]?=some p:=by rw [show ((n:Int) - 1).toNat=n - 1 by omega];exact hp
  have uniq:∀ j y,n=j+1->l[j]?=some y->y=p:=λj y hj hy=>by rw [show j=n - 1 by omega,hp] at hy;cases hy;rfl
  rw [wr64 (by omega) (by omega)]
  refine zGV yI yH hV2.at x0.List rfl ?_
  refine zIF (h.bel b02) yq Qc (by omega) hp' λad hA=>?_
  refine zI2 yP p rfl hA rfl ?_
  refine zI2 yP e rfl hX.at rfl ?_
  refine ⟨ordI p e,zRc p e w2,?_⟩
  by_cases hv:vlt p e
  ·have:=zJ5.2 hv
   rw [decide_eq_false (by omega)]
   exact r7f ⟨made,λj y hj hy=>by rw [uniq j y hj hy];exact hv⟩
  ·have:¬ ordI p e<0:=λh1=>hv (zJ5.1 h1)
   rw [decide_eq_true (by omega)]
   exact r7t K (λhG=>hv (hG.2 (n - 1) p (by omega) hp))
 have again:∀ w',Bel w2 w'->OkAt l n e->(λ(x':Int) (w':World)=>(∃ n:Nat,x'=(n:Int)/\n<=l.length/\Bel w1 w'/\OkTo l n)/\(x0.List.len - x').toNat<(x0.List.len - (n:Int)).toNat) (zC .i64 ((n:Int)+1)) w':=by
  intro w' hb' hG
  rw [wr64 (by omega) (by omega)]
  exact ⟨⟨n+1,by omega,by omega,(hb.trans b2).trans hb',hok.succ he hG⟩,by omega⟩
 unfold zDP
 refine ⟨λhg=>r4t _ again (λh=>by rw [h] at hg;cases hg),λhg=>?_⟩
 have hg':e.Gone=true:=by cases h:e.Gone<;>simp_all
 refine yA zB4 zh hX.at e.Val rfl ?_
 by_cases hv:e.Val=noB
 ·rw [decide_eq_true hv]
  exact r4t _ again λ_=>hv
 ·rw [decide_eq_false hv]
  exact r4f _ (λhG=>hv (hG.1.gone hg'))
theorem zMF {w:World} {x0:zQ} {l:List Ver} (h:zFF w x0.List l) (t:Int) {k:Int->World->Prop} (H:∀ w',Bel w w'->k (vask l x0.Low t) w'):
  Cl zA zLg [zQ.v x0,.int .u64 t].toArray w (λe w'=>∃ r0:Int,e=.returned (.int .i64 r0)/\k r0 w'):=by
 refine zLs x0 t w k ?_
 unfold zHr
 refine zAo (cs:=x0.cells) rfl λB w1 b1 hV _=>?_
 refine Za yC x0 rfl hV.at rfl ?_
 refine zKf (h.bel b1) λw2 b2=>?_
 have b02:=b1.trans b2
 unfold vask at H
 refine ⟨λhc=>?_,λhc=>?_⟩
 ·rw [if_neg (by simp [hc])] at H
  refine yA zA3 yO (hV.bel b2).at x0.Low rfl ?_
  unfold zCX
  refine ⟨λht=>?_,λhf=>?_⟩
  ·rw [if_pos (of_decide_eq_true ht)] at H;exact H w2 b02
  ·rw [if_neg (of_decide_eq_false hf)] at H;rw [hc];exact H w2 b02
 ·rw [if_pos hc] at H
  unfold zCX
  refine ⟨λh=>(nomatch h),λ_=>?_⟩
  rw [zRe hc];exact H w2 b02
end Go.Proofs.YtealcoghiaeiiaaGreat.VG
set_option linter.unusedVariables false
namespace Go.Proofs.YtealcoghiaeiiaaGreat.VG
open Go.VB Go.VB.Srt Go.Proofs Go.RowKit
theorem zRN {w:World} {x0:zQ} {l:List Ver} (h:zFF w x0.List l) (key:ByteArray) (t:Int) {k:ByteArray->Bool->Int->World->Prop}
  (H:∀ w',Bel w w'->k (vget l x0.Low key t).1 (vget l x0.Low key t).2.1 (vget l x0.Low key t).2.2 w'):
  Cl zA zM1 [zQ.v x0,.string key,.int .u64 t].toArray w (λe w'=>∃ (r0:ByteArray) (r1:Bool) (r2:Int),e=.returned (.tuple [.string r0,.bool r1,.int .i64 r2].toArray)/\k r0 r1 r2 w'):=by
 refine zM8 x0 key t w k ?_
 unfold zJk
 refine zAo (cs:=x0.cells) rfl λB w1 b1 hV _=>?_
 refine Za yC x0 rfl hV.at rfl ?_
 refine zMF (h.bel b1) t λw2 b2=>?_
 have b02:=b1.trans b2
 unfold vget at H
 refine ⟨λhc=>?_,λhc=>?_⟩
 ·rw [if_pos hc] at H;exact H w2 b02
 rw [if_neg hc] at H
 have hg:=(zHm.1 (Classical.not_not.1 hc)).1
 refine yA yI yH (hV.bel b2).at x0.List rfl ?_
 refine zM0 (h.bel b02) hg.sorted key t λw3 b3=>?_
 refine zBa zBz rfl yP (cs:=(zLw (sees l key t)).cells) rfl rfl rfl λC w4 b4 hX _=>?_
 have b04:=(b02.trans b3).trans b4
 refine zGV zB4 zh hX.at (zLw (sees l key t)).Val rfl ?_
 cases hs:sees l key t with
 |none=>
  refine ⟨λh=>(nomatch h),λ_=>?_⟩
  intro w5 b5
  rw [hs] at H
  exact H w5 (b04.trans b5)
 |some x=>
  refine ⟨λ_=>?_,λh=>(nomatch h)⟩
  rw [hs] at hX
  refine zGV zCm zDR hX.at x.Gone rfl ?_
  intro w5 b5
  rw [hs] at H
  exact H w5 (b04.trans b5)
theorem zNd {base:Nat} {w0 w:World} {s:Sl} {l:List Ver} {x:Ver} {k:Sl->World->Prop} (hO:Z1 base w s l) (hB:Bel w0 w) (hb:w0.heap.size<=base) (hbw:base<=w.heap.size) (room:l.length+1<=2932031007402)
  (H:∀ s' w',Z1 base w' s' (l++[x])->Bel w0 w'->w.grownBy w' (Sl.v s).ownBlock->k s' w'):
  opE zA Sl.v (ze zt 1 [(0,zG.v x)].toArray) w (λy w=>opE zA Sl.v (Builtin.append_ #[zt,zt] zt [Sl.v s,Sl.v y].toArray) w k):=
 zOK hO (λ_=>rfl) (λ_=>rfl) (by decide) yq zGy rfl (by decide) (zHN x) hB hb hbw (by omega) H
theorem zOs {base:Nat} {w0 w:World} {s y:Sl} {l m:List Ver} {k:Sl->World->Prop} (hO:Z1 base w s l) (hy:zFF w y m) (hB:Bel w0 w) (hb:w0.heap.size<=base) (hbw:base<=w.heap.size) (room:l.length+m.length<=2932031007402)
  (H:∀ s' w',Z1 base w' s' (l++m)->Bel w0 w'->w.grownBy w' (Sl.v s).ownBlock->k s' w'):
  opE zA Sl.v (Builtin.append_ #[zt,zt] zt [Sl.v s,Sl.v y].toArray) w k:=
 zOf hO hy (λ_=>rfl) (λ_=>rfl) (by decide) yq zGy rfl (by decide) hB hb hbw (by omega) H
theorem zKF {α:Type} {l m:List α} {n:Nat} {e:α} (h:l.take n=m.take n) (h1:l[n]?=some e) (h2:m[n]?=some e):l.take (n+1)=m.take (n+1):=by
 rw [zA0 h1,zA0 h2,h]
end Go.Proofs.YtealcoghiaeiiaaGreat.VG
set_option linter.unusedVariables false
set_option linter.unusedSimpArgs false
namespace Go.Proofs.YtealcoghiaeiiaaGreat.VG
open Go.VB Go.Proofs
def zI0 (x0:Sl) (w:World) (Ret:Value->World->Prop):Prop:=
 opE zA zB (Instr.box 67 (Sl.v x0)) w (λx1 w=>Ret (.func (.func 88) [].toArray [(.pointer x1)].toArray) w)
set_option maxRecDepth 100000 in
theorem zMN (x0:Sl) (w:World) (Ret:Value->World->Prop) (H:zI0 x0 w Ret):Cl zA 70 [(Sl.v x0)].toArray w (λe w'=>∃ (r0:Value),e=.returned r0/\Ret r0 w'):=by
 unfold zI0 at H
 refine zp 4 (zipE 0 [(Sl.v x0)]) Tryz.func70 rfl rfl (by rfl) rfl ?_
 intro a g
 have g:Sat [] 4 [(0,(Sl.v x0))] a:=g
 exact zI (zE (g.o (zBc g rfl) H λx1 w a H g=>(g.s rfl λ_ g=>(zL (tn (zI (zE (g.p (zGK g rfl rfl) λ_ g=>(g.s rfl λ_ g=>(zL (tn (zl (zw g rfl rfl ⟨_,rfl,H⟩)))))))))))))
def zC1 (x0:Value) (x1:Option Addr) (Ret:World->Prop) (x3:Int) (Kl1:Int->World->Prop) (x4:Int) (Kl2:Int->World->Prop) (x27:Bool) (w:World):Prop:=
 yM w (λw=>(x27=true->(Kl2 (zC .i64 (x4+1)) w))/\(x27=false->(yM w (λw=>(opE zA Sl.v (zD 67 (.pointer x1)) w (λx31 w=>opP zA zB (zF 67 (Sl.v x31) (.int .i64 x3)) (λx33=>opP zA zB (zN 72 (.pointer x33) 0) (λx34=>(opE zA zZ (zD 9 (.pointer x34)) w (λx35 w=>opE zA Sl.v (zD 67 (.pointer x1)) w (λx36 w=>opP zA Sl.v (Instr.sliceAt 67 (Sl.v x36) (some (.int .i64 x3)) (some (.int .i64 x4)) none) (λx39=>zG6 zA x0 [(.string x35),(Sl.v x39)] w (λe w=>∃ (r:Bool),e=.returned (.bool r)/\(((!r)=true->(Ret w))/\((!r)=false->(Kl1 x4 w))))))))/\(opE zA Sl.v (zD 67 (.pointer x1)) w (λx36_1 w=>opP zA Sl.v (Instr.sliceAt 67 (Sl.v x36_1) (some (.int .i64 x3)) (some (.int .i64 x4)) none) (λx39_1=>opE zA zZ (zD 9 (.pointer x34)) w (λx35_1 w=>zG6 zA x0 [(.string x35_1),(Sl.v x39_1)] w (λe w=>∃ (r_1:Bool),e=.returned (.bool r_1)/\(((!r_1)=true->(Ret w))/\((!r_1)=false->(Kl1 x4 w))))))))))))/\(opE zA Sl.v (zD 67 (.pointer x1)) w (λx36_2 w=>opP zA Sl.v (Instr.sliceAt 67 (Sl.v x36_2) (some (.int .i64 x3)) (some (.int .i64 x4)) none) (λx39_2=>opE zA Sl.v (zD 67 (.pointer x1)) w (λx31_1 w=>opP zA zB (zF 67 (Sl.v x31_1) (.int .i64 x3)) (λx33_1=>opP zA zB (zN 72 (.pointer x33_1) 0) (λx34_1=>opE zA zZ (zD 9 (.pointer x34_1)) w (λx35_2 w=>zG6 zA x0 [(.string x35_2),(Sl.v x39_2)] w (λe w=>∃ (r_2:Bool),e=.returned (.bool r_2)/\(((!r_2)=true->(Ret w))/\((!r_2)=false->(Kl1 x4 w)))))))))))))))
def zDv (x0:Value) (x1:Option Addr) (Ret:World->Prop) (x3:Int) (Kl1:Int->World->Prop) (x4:Int) (w:World) (Kl2:Int->World->Prop):Prop:=
 opB zA Sl.v (zD 67 (.pointer x1)) w (λx12=>((x4<(x12.len:Int))->(opB zA Sl.v (zD 67 (.pointer x1)) w (λx16=>opB zA zB (zF 67 (Sl.v x16) (.int .i64 x4)) w (λx18=>opB zA zB (zN 72 (.pointer x18) 0) w (λx19=>opB zA zZ (zD 9 (.pointer x19)) w (λx20=>opB zA Sl.v (zD 67 (.pointer x1)) w (λx21=>opB zA zB (zF 67 (Sl.v x21) (.int .i64 x3)) w (λx23=>opB zA zB (zN 72 (.pointer x23) 0) w (λx24=>opB zA zZ (zD 9 (.pointer x24)) w (λx25=>zC1 x0 x1 Ret x3 Kl1 x4 Kl2 (decide (x20=x25)) w))))))))))/\(¬ (x4<(x12.len:Int))->(zC1 x0 x1 Ret x3 Kl1 x4 Kl2 false w)))
def zDx (x0:Value) (x1:Option Addr) (Ret:World->Prop) (x3:Int) (w:World) (Kl1:Int->World->Prop):Prop:=
 opE zA Sl.v (zD 67 (.pointer x1)) w (λx6 w=>((x3<(x6.len:Int))->(∃ (I:Int->World->Prop) (μ:Int->World->Nat),I (zC .i64 (x3+1)) w/\∀ (x4:Int) w,I x4 w->zDv x0 x1 Ret x3 Kl1 x4 w (λx4' w'=>I x4' w'/\μ x4' w'<μ x4 w)))/\(¬ (x3<(x6.len:Int))->(Ret w)))
def zHZ (x0:Value) (x1:Option Addr) (w:World) (Ret:World->Prop):Prop:=
 ∃ (I:Int->World->Prop) (μ:Int->World->Nat),I 0 w/\∀ (x3:Int) w,I x3 w->zDx x0 x1 Ret x3 w (λx3' w'=>I x3' w'/\μ x3' w'<μ x3 w)
set_option maxRecDepth 100000 in
theorem zLE (x0:Value) (x1:Option Addr) (w:World) (Ret:World->Prop) (H:zHZ x0 x1 w Ret):Cl zA 88 [x0,(.pointer x1)].toArray w (λe w'=>e=.returned (.tuple [].toArray)/\Ret w'):=by
 unfold zHZ at H
 refine zp 43 (zipE 0 [x0,(.pointer x1)]) Tryz.func88 rfl rfl (by rfl) rfl ?_
 intro a g
 have g:Sat [] 43 [(0,x0),(1,(.pointer x1))] a:=g
 refine zI (zE (g.s rfl λ_ g=>zL (tn (zX ?_))))
 obtain ⟨I_l1,μ_l1,h0,hb⟩:=H
 refine yE (ds:=[]) (N:=43) (σ:=Int) (λs=>[(3,(.int .i64 s)),(0,x0),(1,(.pointer x1))]) (λs w=>I_l1 s w) (λs w=>μ_l1 s w) 0 h0 (g.k) ?_
 intro x3 w a hI g
 try dsimp only at hI g
 obtain ⟨Kl1,hK_l1⟩:∃ K:Int->World->Prop,K=(λx3' w'=>I_l1 x3' w'/\μ_l1 x3' w'<μ_l1 x3 w):=⟨_,rfl⟩
 have H:zDx x0 x1 Ret x3 w Kl1:=by rw [hK_l1];exact hb x3 w hI
 clear hb h0 hI
 unfold zDx at H
 refine zI (zI (zE (g.m rfl λ_ g=>g.o (zO g rfl) H λx6 w a H g=>g.purR (λw=>ZU g Tryz.underlying67 rfl) λ_ g=>g.p (yR g rfl rfl) λ_ g=>zL (tn (zd g rfl (λhc=>?_) (λhc=>?_))))))
 ·have H:=H.1 hc
  refine zY (tn (zX (zI (zE (g.m rfl λ_ g=>g.p (zr g rfl rfl) λ_ g=>g.s rfl λ_ g=>zL (tn (zI (zX ?_))))))))
  obtain ⟨I_l2,μ_l2,h0,hb⟩:=H
  refine yE (ds:=[]) (N:=43) (σ:=Int) (λs=>[(4,(.int .i64 s)),(0,x0),(1,(.pointer x1)),(3,(.int .i64 x3))]) (λs w=>I_l2 s w) (λs w=>μ_l2 s w) (zC .i64 (x3+1)) h0 (g.k) ?_
  intro x4 w a hI g
  try dsimp only at hI g
  obtain ⟨Kl2,hK_l2⟩:∃ K:Int->World->Prop,K=(λx4' w'=>I_l2 x4' w'/\μ_l2 x4' w'<μ_l2 x4 w):=⟨_,rfl⟩
  have H:zDv x0 x1 Ret x3 Kl1 x4 w Kl2:=by rw [hK_l2];exact hb x4 w hI
  clear hb h0 hI
  unfold zDv at H
  refine zI (zI (QU (by kernel_rfl) (by kernel_rfl) (g.t rfl λ_ g=>g.A (zO g rfl) H λx12 a H g=>g.qpurR (λw=>ZU g Tryz.underlying67 rfl) λ_ g=>g.r (yR g rfl rfl) λ_ g=>g.t rfl λ_ g=>WQ.join (ds:=[]) (N:=43) (σ:=Bool) (λs=>[(27,(.bool s)),(0,x0),(1,(.pointer x1)),(3,(.int .i64 x3)),(4,(.int .i64 x4))]) (λs=>zC1 x0 x1 Ret x3 Kl1 x4 Kl2 s w) 12 ?_ (λhr3=>?_))))
  ·intro x27 a H g
   try dsimp only at H g
   unfold zC1 at H
   refine Qb (λw hB=>?_)
   replace H:=H w hB
   refine (tn (zk g rfl (λhc=>?_) (λhc=>?_)))
   ·have H:=H.1 hc
    refine zY (tn (zX (zE (g.m rfl λ_ g=>g.p (zr g rfl rfl) λ_ g=>g.s rfl λ_ g=>?_))))
    rw [hK_l2] at H
    exact zL (bn (tn ⟨(zC .i64 (x4+1)),g.k,H⟩))
   ·have H:=H.2 hc
    refine z7 (te (te (be (tn (zI (zI (zCC 12 λw hB=>?_)))))))
    replace H:=H w hB
    refine g.x 0 rfl (zR g rfl) λ_ g=>g.x 2 rfl (zR g rfl) λ_ g=>g.x 7 rfl (zR g rfl) λ_ g=>g.x 8 rfl (zR g rfl) λ_ g=>WA.tw 1 6 rfl rfl ?_ ?_
    ·have H:=H.1
     intro K hK
     refine g.i (zO g rfl) H λx31 w a H g=>hK _ _ (g.y 3 rfl (zH g rfl rfl) H λx33 a H g=>g.y 4 rfl (zP g rfl) H λx34 a H g=>WA.tw 5 6 rfl rfl ?_ ?_)
     ·have H:=H.1
      intro K hK
      refine g.i (zO g rfl) H λx35 w a H g=>hK _ _ (g.j 6 rfl (zO g rfl) H λx36 w a H g=>g.y 9 rfl (zJ8 g rfl rfl rfl rfl) H λx39 a H g=>WA.one (i:=10) rfl (by kernel_rfl) rfl ?_)
      intro K hK
      refine g.wcallV rfl rfl H λe w H=>?_
      obtain ⟨r,rfl,H⟩:=H
      refine ⟨_,rfl,λ_ g=>(hK _ _ (g.x 11 rfl (zAJ g rfl) λ_ g=>WA.ni ((tn (zk g rfl (λhc=>?_) (λhc=>?_))))))⟩
      ·have H:=H.1 hc
       exact zl (tr (br (tr (br (zE1 g rfl ⟨rfl,H⟩)))))
      ·have H:=H.2 hc
       refine zY (tn (zE (g.m rfl λ_ g=>g.s rfl λ_ g=>?_)))
       rw [hK_l1] at H
       exact zL (bn (tn ⟨x4,g.k,H⟩))
     ·have H:=H.2
      intro K hK
      refine g.i (zO g rfl) H λx36_1 w a H g=>hK _ _ (g.y 9 rfl (zJ8 g rfl rfl rfl rfl) H λx39_1 a H g=>g.j 5 rfl (zO g rfl) H λx35_1 w a H g=>WA.one (i:=10) rfl (by kernel_rfl) rfl ?_)
      intro K hK
      refine g.wcallV rfl rfl H λe w H=>?_
      obtain ⟨r_1,rfl,H⟩:=H
      refine ⟨_,rfl,λ_ g=>(hK _ _ (g.x 11 rfl (zAJ g rfl) λ_ g=>WA.ni ((tn (zk g rfl (λhc=>?_) (λhc=>?_))))))⟩
      ·have H:=H.1 hc
       exact zl (tr (br (tr (br (zE1 g rfl ⟨rfl,H⟩)))))
      ·have H:=H.2 hc
       refine zY (tn (zE (g.m rfl λ_ g=>g.s rfl λ_ g=>?_)))
       rw [hK_l1] at H
       exact zL (bn (tn ⟨x4,g.k,H⟩))
    ·have H:=H.2
     intro K hK
     refine g.i (zO g rfl) H λx36_2 w a H g=>hK _ _ (g.y 9 rfl (zJ8 g rfl rfl rfl rfl) H λx39_2 a H g=>g.j 1 rfl (zO g rfl) H λx31_1 w a H g=>g.y 3 rfl (zH g rfl rfl) H λx33_1 a H g=>g.y 4 rfl (zP g rfl) H λx34_1 a H g=>g.j 5 rfl (zO g rfl) H λx35_2 w a H g=>WA.one (i:=10) rfl (by kernel_rfl) rfl ?_)
     intro K hK
     refine g.wcallV rfl rfl H λe w H=>?_
     obtain ⟨r_2,rfl,H⟩:=H
     refine ⟨_,rfl,λ_ g=>(hK _ _ (g.x 11 rfl (zAJ g rfl) λ_ g=>WA.ni ((tn (zk g rfl (λhc=>?_) (λhc=>?_))))))⟩
     ·have H:=H.1 hc
      exact zl (tr (br (tr (br (zE1 g rfl ⟨rfl,H⟩)))))
     ·have H:=H.2 hc
      refine zY (tn (zE (g.m rfl λ_ g=>g.s rfl λ_ g=>?_)))
      rw [hK_l1] at H
      exact zL (bn (tn ⟨x4,g.k,H⟩))
  ·rcases Classical.em ((x4<(x12.len:Int))) with hbr3|hbr3
   ·have H:=H.1 hbr3
    have g:=g.b (b:=true) (t:=15) rfl (decide_eq_true hbr3)
    exact g.e (g.A (zO g rfl) H λx16 a H g=>g.e (g.t rfl λ_ g=>g.e (g.A (zH g rfl rfl) H λx18 a H g=>g.e (g.A (zP g rfl) H λx19 a H g=>g.e (g.A (zO g rfl) H λx20 a H g=>g.e (g.A (zO g rfl) H λx21 a H g=>g.e (g.t rfl λ_ g=>g.e (g.A (zH g rfl rfl) H λx23 a H g=>g.e (g.A (zP g rfl) H λx24 a H g=>g.e (g.A (zO g rfl) H λx25 a H g=>g.e (g.r (zLJ g rfl rfl) λ_ g=>g.r (zx g rfl rfl) λ_ g=>hr3 (decide (x20=x25)) _ H (g.k))))))))))))
   ·have H:=H.2 hbr3
    have g:=g.b (b:=false) (t:=15) rfl (decide_eq_false hbr3)
    exact g.g (λ_ g=>g.g (λ_ g=>g.g (λ_ g=>g.g (λ_ g=>g.g (λ_ g=>g.g (λ_ g=>g.g (λ_ g=>g.g (λ_ g=>g.g (λ_ g=>g.g (λ_ g=>g.g (λ_ g=>g.r (zy g rfl rfl) λ_ g=>hr3 false _ H (g.k))))))))))))
 ·have H:=H.2 hc
  exact z7 (te (te (be (zBg g rfl ⟨rfl,H⟩))))
end Go.Proofs.YtealcoghiaeiiaaGreat.VG
set_option linter.unusedVariables false
namespace Go.Proofs.YtealcoghiaeiiaaGreat.VG
open Go.VB Go.VB.Srt Go.Proofs Go.RowKit
def Bdry (l:List Ver) (n:Nat):Prop:=∀ j x y,n=j+1->l[j]?=some x->l[n]?=some y->x.Key≠y.Key
structure Seg (l:List Ver) where
 lo:Nat
 hi:Nat
 key:ByteArray
 lt:lo<hi
 le:hi<=l.length
 all:∀ j x,lo<=j->j<hi->l[j]?=some x->x.Key=key
 bl:Bdry l lo
 bh:Bdry l hi
def Seg.vers {l:List Ver} (s:Seg l):List Ver:=(l.drop s.lo).take (s.hi - s.lo)
inductive Cuts (l:List Ver):List (Seg l)->Nat->Prop
 |nil:Cuts l [] 0
 |snoc {pre:List (Seg l)} (s:Seg l):Cuts l pre s.lo->Cuts l (pre++[s]) s.hi
theorem Bdry.zero (l:List Ver):Bdry l 0:=λj x y h=>by omega
theorem zNb {l:List Ver} (s:Seg l):l.take s.hi=l.take s.lo++s.vers:=by
 unfold Seg.vers
 have h:=s.lt
 have:s.hi=s.lo+(s.hi - s.lo):=by omega
 conv=>lhs;rw [this,List.take_add]
theorem Seg.mem {l:List Ver} (s:Seg l) {x:Ver} (h:x∈s.vers):x∈l/\x.Key=s.key:=by
 obtain ⟨j,hj⟩:=List.getElem?_of_mem h
 unfold Seg.vers at hj
 have h1:=(List.getElem?_eq_some_iff.1 hj).1
 rw [List.length_take,List.length_drop] at h1
 rw [List.getElem?_take_of_lt (by omega),List.getElem?_drop] at hj
 exact ⟨List.mem_of_getElem? hj,s.all _ x (by omega) (by omega) hj⟩
theorem Seg.rd {w:World} {x0:Sl} {l:List Ver} (h:zFF w x0 l) (s:Seg l):zFF w (x0.sub s.lo s.hi 4) s.vers:=h.sub (Nat.le_of_lt s.lt) (by rw [← h.len];exact s.le)
def ZQ (w0:World) (b:Nat) (A B:World):Prop:=(Bel w0 A->Bel w0 B)/\B.heap[b]?=A.heap[b]?
theorem ZQ.refl (w0:World) (b:Nat) (A:World):ZQ w0 b A A:=⟨λh=>h,rfl⟩
theorem ZQ.trans {w0:World} {b:Nat} {A B C:World} (h:ZQ w0 b A B) (k:ZQ w0 b B C):ZQ w0 b A C:=⟨λh1=>k.1 (h.1 h1),k.2.trans h.2⟩
theorem ZQ.bel {w0:World} {b:Nat} {A B:World} (h:Bel A B) (hb:b<A.heap.size):ZQ w0 b A B:=⟨λh1=>h1.trans h,h.block b hb⟩
theorem ZQ.grown {w0:World} {b:Nat} {A B:World} {row:Option Nat} (h:A.grownBy B row) (hb:b<A.heap.size) (hr:∀ r,row=some r->w0.heap.size<=r/\r≠b):ZQ w0 b A B:=
 ⟨λh1=>h1.grown h (λr e=>(hr r e).1),h.block b hb (λe=>(hr b e.symm).2 rfl)⟩
theorem zGR.of2 {α:Type} {P:Program} {v:Value} {encs:α->List Value} {w0:World} {b:Nat} {S Sp:List α->Prop} {Num:Nat} {I Ir:List α->World->Prop} {w:World} (hs:zKQ P v encs (ZQ w0 b) S Sp Num w) (hn:w0.heap.size<=w.heap.size) (hb:b<w.heap.size)
  (own:OwnFrom w.heap.size I) (ownr:OwnFrom w.heap.size Ir) (lo:∀ pre W,I pre W->w.heap.size<=W.heap.size) (start:I [] w):zGR P v encs (ZQ w0 b) S Sp Num I Ir w:=
 ⟨hs,λA B C h k=>h.trans k,λW l o o' h1 h2 h3 h4=>by
  have hl:=(Array.getElem?_eq_some_iff.1 h2).1
  exact ZQ.grown (grownBy_putObj' W l o') (by omega) (λr e=>by cases e;exact ⟨by omega,by omega⟩),λpre W o hI=>ZQ.bel (Bel.alloc W o) (yF hb (lo pre W hI)),own,ownr,lo,start⟩
abbrev zSb (x0:Sl) (l:List Ver) (v:Value) (w0:World) (b:Nat) (w:World):Prop:=
 zKQ zA v (λs:Seg l=>[.string s.key,Sl.v (x0.sub s.lo s.hi 4)]) (ZQ w0 b) (λxs=>Cuts l xs l.length) (λ_=>True) l.length w
theorem zQF {w0 w:World} {x0:Sl} {l:List Ver} (hw:Bel w0 w) (h:zFF w0 x0 l) {b1:Nat} (h1:Row w b1 [Sl.v x0] zt):
  SeqStopsK (FW none) 0 zA zIc [.pointer (some ⟨b1,0,none⟩)].toArray (λs:Seg l=>([.string s.key,Sl.v (x0.sub s.lo s.hi 4)]:List Value).toArray) (ZQ w0 b1) (λxs=>Cuts l xs l.length) (λ_=>True) l.length w:=by
 intro l' J Jx W hW hJ hJx hY h0
 have hbig:=h.big;have hcap:=h.cap;have hlen:=h.len
 have C:=zLE (.func (.yield l') #[] #[]) (some ⟨b1,0,none⟩) W (λw'=>(∃ xs,Cuts l xs l.length/\J xs w')∨(∃ pre,True/\Jx pre w')) ?_
 ·exact CallsIn.mono C λe w' hr=>⟨⟨_,hr.1⟩,hr.2⟩
 unfold zHZ
 refine ⟨λx w1=>∃ (n:Nat) (pre:List (Seg l)),x=(n:Int)/\n<=l.length/\(Bel w0 w1/\Row w1 b1 [Sl.v x0] zt)/\Cuts l pre n/\Bdry l n/\pre.length<=n/\J pre w1,λx _=>(x0.len - x).toNat,?_,?_⟩
 ·exact ⟨0,[],rfl,by omega,⟨hw.trans hW,h1.bel hW⟩,Cuts.nil,Bdry.zero l,by simp,h0⟩
 rintro x w1 ⟨n,pre,rfl,hn,hb,hC,hB,hp,hj⟩
 unfold zDx
 refine zBX yH x0 hb.2.cell ?_
 refine ⟨λhlt=>?_,λhlt=>?_⟩
 case refine_2=>
  obtain rfl:n=l.length:=by omega
  exact .inl ⟨pre,hC,hj⟩
 obtain ⟨e,he⟩:=getV (l:=l) (n:=n) (by omega)
 rw [wr64 (by omega) (by omega)]
 refine ⟨λy w2=>∃ m:Nat,y=(m:Int)/\n<m/\m<=l.length/\(Bel w0 w2/\Row w2 b1 [Sl.v x0] zt)/\(∀ j x,n<=j->j<m->l[j]?=some x->x.Key=e.Key)/\J pre w2,λy _=>(x0.len - y).toNat,?_,?_⟩
 ·exact ⟨n+1,by omega,by omega,by omega,hb,λj x h1 h2 hx=>(by
   obtain rfl:j=n:=by omega
   rw [he] at hx;cases hx;rfl),hj⟩
 rintro y w2 ⟨m,rfl,hnm,hm,hb2,hall,hj2⟩
 unfold zDv
 refine zNr yH x0 hb2.2.cell ?_
 have give:(∀ x,l[m]?=some x->x.Key≠e.Key)->zC1 (.func (.yield l') #[] #[]) (some ⟨b1,0,none⟩) (λw'=>(∃ xs,Cuts l xs l.length/\J xs w')∨(∃ pre,True/\Jx pre w')) n
   (λx' w'=>(∃ (n:Nat) (pre:List (Seg l)),x'=(n:Int)/\n<=l.length/\(Bel w0 w'/\Row w' b1 [Sl.v x0] zt)/\Cuts l pre n/\Bdry l n/\pre.length<=n/\J pre w')/\(x0.len - x').toNat<(x0.len - (n:Int)).toNat) m
   (λy' w'=>(∃ m:Nat,y'=(m:Int)/\n<m/\m<=l.length/\(Bel w0 w'/\Row w' b1 [Sl.v x0] zt)/\(∀ j x,n<=j->j<m->l[j]?=some x->x.Key=e.Key)/\J pre w')/\(x0.len - y').toNat<(x0.len - (m:Int)).toNat) false w2:=by
  intro hend w3 b3
  refine ⟨λh=>(nomatch h),λ_=>?_⟩
  have hbm:Bdry l m:=λj x y hj hx hy=>by
   rw [hall j x (by omega) (by omega) hx]
   exact λh=>hend y hy h.symm
  let s:Seg l:=⟨n,m,e.Key,hnm,hm,hall,hB,hbm⟩
  intro w4 b4
  have b04:Bel w0 w4/\Row w4 b1 [Sl.v x0] zt:=⟨(hb2.1.trans b3).trans b4,(hb2.2.bel b3).bel b4⟩
  have hj4:J pre w4:=hJ _ _ _ none (hJ _ _ _ none hj2 (zo b3 none) (λr e=>by cases e)) (zo b4 none) (λr e=>by cases e)
  have yld:zG6 zA (.func (.yield l') #[] #[]) [.string e.Key,Sl.v (x0.sub n m 4)] w4 (λe W0=>∃ r:Bool,e=.returned (.bool r)/\(((!r)=true->((∃ xs,Cuts l xs l.length/\J xs W0)∨(∃ pre,True/\Jx pre W0)))/\((!r)=false->
    ((∃ (n:Nat) (pre:List (Seg l)),(m:Int)=(n:Int)/\n<=l.length/\(Bel w0 W0/\Row W0 b1 [Sl.v x0] zt)/\Cuts l pre n/\Bdry l n/\pre.length<=n/\J pre W0)/\(x0.len - (m:Int)).toNat<(x0.len - (n:Int)).toNat)))):=by
   refine .inr ⟨l',rfl,YieldAt.mono (hY pre s w4 hj4 (by omega)) λe' w5 hr=>?_⟩
   rcases hr with ⟨rfl,hj5,hk⟩|⟨rfl,hj5⟩
   ·have hk':Bel w0 w5/\Row w5 b1 [Sl.v x0] zt:=⟨hk.1 b04.1,hk.2.trans b04.2⟩
    refine ⟨true,rfl,λh=>(nomatch h),λ_=>?_⟩
    exact ⟨⟨m,pre++[s],rfl,hm,hk',Cuts.snoc s hC,hbm,by simp;omega,hj5⟩,by omega⟩
   ·exact ⟨false,rfl,λ_=>.inr ⟨_,trivial,hj5⟩,λh=>(nomatch h)⟩
  obtain ⟨ad,had,hA⟩:=(h.bel b04.1).cells n e he
  have q0:∀ {k:Sl->World->Prop},k x0 w4->opE zA Sl.v (zD zt (.pointer (some ⟨b1,0,none⟩))) w4 k:=λH=>zBX yH x0 b04.2.cell H
  have q1:∀ {k:Option Addr->Prop},k (some (ad.add (n*4)))->opP zA zB (zF zt (Sl.v x0) (.int .i64 (n:Int))) k:=λH=>⟨_,λW'=>zJB yq Qc had (by omega) (by omega),H⟩
  have q2:∀ {k:Option Addr->Prop},k (some ((ad.add (n*4)).add 0))->opP zA zB (zN yK (.pointer (some (ad.add (n*4)))) 0) k:=λH=>⟨_,λW'=>ZN _ W',H⟩
  have q3:∀ {k:ByteArray->World->Prop},k e.Key w4->opE zA zZ (zD zME (.pointer (some ((ad.add (n*4)).add 0)))) w4 k:=λH=>zBX zh e.Key (hA.fld rfl) H
  have q4:∀ {k:Sl->Prop},k (x0.sub n m 4)->opP zA Sl.v (Instr.sliceAt zt (Sl.v x0) (some (.int .i64 (n:Int))) (some (.int .i64 (m:Int))) none) k:=λH=>⟨_,λW'=>zRH yq Qc (Nat.le_of_lt hnm) (by omega),H⟩
  exact ⟨q0 (q1 (q2 ⟨q3 (q0 (q4 yld)),q0 (q4 (q3 yld))⟩)),q0 (q4 (q0 (q1 (q2 (q3 yld)))))⟩
 refine ⟨λhlt2=>?_,λhlt2=>give λx hx=>by have:=(List.getElem?_eq_some_iff.1 hx).1;omega⟩
 obtain ⟨f,hf⟩:=getV (l:=l) (n:=m) (by omega)
 refine zNr yH x0 hb2.2.cell ?_
 refine zIF (h.bel hb2.1) yq Qc (by omega) (x:=f) (by simpa using hf) λad hA=>?_
 refine zGV ZN zh hA f.Key rfl ?_
 refine zNr yH x0 hb2.2.cell ?_
 refine zIF (h.bel hb2.1) yq Qc (by omega) (x:=e) (by simpa using he) λad hA=>?_
 refine zGV ZN zh hA e.Key rfl ?_
 by_cases hk:f.Key=e.Key
 ·rw [decide_eq_true hk]
  intro w3 b3
  refine ⟨λ_=>?_,λh=>(nomatch h)⟩
  rw [wr64 (by omega) (by omega)]
  refine ⟨⟨m+1,by omega,by omega,by omega,⟨hb2.1.trans b3,hb2.2.bel b3⟩,λj x h1 h2 hx=>?_,hJ _ _ _ none hj2 (zo b3 none) (λr e=>by cases e)⟩,by dsimp only;omega⟩
  rcases Nat.lt_or_ge j m with h3|h3
  ·exact hall j x h1 h3 hx
  ·obtain rfl:j=m:=by omega
   rw [hf] at hx;cases hx;exact hk
 ·rw [decide_eq_false hk]
  exact give λx hx=>by rw [hf] at hx;cases hx;exact hk
theorem zOp {w0 w:World} {x0:Sl} {l:List Ver} (hw:Bel w0 w) (h:zFF w0 x0 l) {k:Value->World->Prop} (H:∀ v b w',zSb x0 l v w0 b w'->w.heap.size<=b->b<w'.heap.size->Bel w w'->k v w'):
  Cl zA zMt [Sl.v x0].toArray w (λe w'=>∃ v:Value,e=.returned v/\k v w'):=by
 refine zMN x0 w k ?_
 unfold zI0
 refine zAo (cs:=[Sl.v x0]) rfl λB w1 b1 hr hB=>?_
 exact H _ B _ ⟨zIc,_,rfl,zTm,zQF (hw.trans b1) h hr⟩ hB hr.lt b1
end Go.Proofs.YtealcoghiaeiiaaGreat.VG
set_option linter.unusedVariables false
namespace Go.Proofs.YtealcoghiaeiiaaGreat.VG
open Go.VB Go.VB.Srt Go.Proofs Go.RowKit
def zHI (fr to key:ByteArray):Prop:=sLt key fr=true∨(to≠noB/\sLt key to=false)
open Classical in
noncomputable def one (fr to key:ByteArray) (o:Option Ver):List Pai:=
 if zHI fr to key then [] else match o with
  |none=>[]
  |some x=>if x.Gone=true then [] else [⟨key,x.Val⟩]
open Classical in
noncomputable def pick (l:List Ver) (fr to:ByteArray) (t:Int) (i:Nat):List Pai:=match l[i]? with
 |none=>[]
 |some x=>if (∃ j y,i=j+1/\l[j]?=some y/\y.Key=x.Key) then [] else one fr to x.Key (sees l x.Key t)
noncomputable def zC0 (l:List Ver) (fr to:ByteArray) (t:Int) (n:Nat):List Pai:=(List.range n).flatMap (pick l fr to t)
theorem zIk (l:List Ver) (fr to:ByteArray) (t:Int) (n:Nat):zC0 l fr to t (n+1)=zC0 l fr to t n++pick l fr to t n:=by
 unfold zC0;rw [List.range_succ,List.flatMap_append];simp
noncomputable def zL1 (l:List Ver) (low:Int) (fr to:ByteArray) (t:Int):List Pai × Int:=if vask l low t≠0 then ([],vask l low t) else (zC0 l fr to t l.length,0)
theorem zO0 (fr to key:ByteArray) (o:Option Ver):(one fr to key o).length<=1:=by
 unfold one;split
 ·simp
 ·cases o with
  |none=>simp
  |some x=>simp only;split<;>simp
theorem zM4 (l:List Ver) (fr to:ByteArray) (t:Int) (i:Nat):(pick l fr to t i).length<=1:=by
 unfold pick;split
 ·simp
 ·split
  ·simp
  ·exact zO0 _ _ _ _
theorem zJs (l:List Ver) (fr to:ByteArray) (t:Int):∀ n,(zC0 l fr to t n).length<=n
 |0=>by simp [zC0]
 |n+1=>by
  rw [zIk,zg]
  have:=zJs l fr to t n;have:=zM4 l fr to t n;omega
theorem zN3 {l:List Ver} {i:Nat} {x:Ver} (hx:l[i]?=some x) (hb:Bdry l i) (fr to:ByteArray) (t:Int):pick l fr to t i=one fr to x.Key (sees l x.Key t):=by
 unfold pick;rw [hx]
 simp only
 rw [if_neg]
 rintro ⟨j,y,hj,hy,hk⟩
 exact hb j y x hj hy hx hk
theorem zN2 {l:List Ver} {j:Nat} {x y:Ver} (hx:l[j+1]?=some x) (hy:l[j]?=some y) (hk:y.Key=x.Key) (fr to:ByteArray) (t:Int):pick l fr to t (j+1)=[]:=by
 unfold pick;rw [hx]
 simp only
 rw [if_pos ⟨j,y,rfl,hy,hk⟩]
theorem zMW {l:List Ver} (hs:l.Pairwise vlt) {i j:Nat} {x y:Ver} (h:i<j) (hx:l[i]?=some x) (hy:l[j]?=some y):¬ sLt y.Key x.Key=true:=zOw (zH9 hs h hx hy)
theorem zOC {l:List Ver} (hs:l.Pairwise vlt) {i j:Nat} {x y:Ver} (h:i<j) (hx:l[i]?=some x) (hy:l[j]?=some y) (hk:x.Key≠y.Key):sLt x.Key y.Key=true:=by
 rcases zH9 hs h hx hy with h1|h1
 ·exact h1
 ·exact absurd h1.1 hk
theorem Seg.before {l:List Ver} (hs:l.Pairwise vlt) (s:Seg l) {j:Nat} {x:Ver} (hj:j<s.lo) (hx:l[j]?=some x):sLt x.Key s.key=true:=by
 have h1:=s.lt;have h2:=s.le
 obtain ⟨y,hy⟩:=getV (l:=l) (n:=s.lo - 1) (by omega)
 obtain ⟨z,hz⟩:=getV (l:=l) (n:=s.lo) (by omega)
 have hzk:=s.all s.lo z (zU _) h1 hz
 have hyz:=zOC hs (by omega) hy hz (s.bl (s.lo - 1) y z (by omega) hy hz)
 rw [← hzk]
 rcases Nat.lt_or_ge j (s.lo - 1) with h3|h3
 ·have h4:=zMW hs h3 hx hy
  by_cases hk:x.Key=y.Key
  ·rw [hk];exact hyz
  ·exact zHs (zEe h4 (λh=>hk h.symm)) hyz
 ·obtain rfl:j=s.lo - 1:=by omega
  rw [hx] at hy;cases hy;exact hyz
theorem Seg.behind {l:List Ver} (hs:l.Pairwise vlt) (s:Seg l) {j:Nat} {x:Ver} (hj:s.hi<=j) (hx:l[j]?=some x):sLt s.key x.Key=true:=by
 have h1:=s.lt;have h2:=s.le
 have hjl:=(List.getElem?_eq_some_iff.1 hx).1
 obtain ⟨y,hy⟩:=getV (l:=l) (n:=s.hi - 1) (by omega)
 obtain ⟨z,hz⟩:=getV (l:=l) (n:=s.hi) (by omega)
 have hyk:=s.all (s.hi - 1) y (by omega) (by omega) hy
 have hyz:=zOC hs (by omega) hy hz (s.bh (s.hi - 1) y z (by omega) hy hz)
 rw [← hyk]
 rcases Nat.lt_or_ge s.hi j with h3|h3
 ·have h4:=zMW hs h3 hz hx
  by_cases hk:z.Key=x.Key
  ·rw [← hk];exact hyz
  ·exact zHs hyz (zEe h4 (λh=>hk h.symm))
 ·obtain rfl:j=s.hi:=by omega
  rw [hx] at hz;cases hz;exact hyz
theorem Seg.split {l:List Ver} (s:Seg l):l=l.take s.lo++s.vers++l.drop s.hi:=by
 rw [← zNb,List.take_append_drop]
theorem zOk {l:List Ver} {key:ByteArray} (h:∀ x∈l,x.Key≠key) (t:Int):sees l key t=none:=zEi.2 λx hx h1=>h x hx h1.1
theorem Seg.sees {l:List Ver} (hs:l.Pairwise vlt) (s:Seg l) (t:Int):VG.sees s.vers s.key t=VG.sees l s.key t:=by
 have key:VG.sees l s.key t=VG.sees (l.take s.lo++s.vers++l.drop s.hi) s.key t:=congrArg (λm=>VG.sees m s.key t) s.split
 rw [key,zIb,zIb]
 have h1:VG.sees (l.drop s.hi) s.key t=none:=zOk (λx hx hk=>by
  obtain ⟨j,hj⟩:=List.getElem?_of_mem hx
  rw [List.getElem?_drop] at hj
  exact zMw (s.behind hs (by omega) hj) hk.symm) t
 have h2:VG.sees (l.take s.lo) s.key t=none:=zOk (λx hx hk=>by
  obtain ⟨j,hj⟩:=List.getElem?_of_mem hx
  have hjl:=(List.getElem?_eq_some_iff.1 hj).1
  rw [List.length_take] at hjl
  rw [List.getElem?_take_of_lt (by omega)] at hj
  exact zMw (s.before hs (by omega) hj) hk) t
 rw [h1,h2];cases VG.sees s.vers s.key t<;>rfl
theorem Seg.scan {l:List Ver} (hs:l.Pairwise vlt) (s:Seg l) (fr to:ByteArray) (t:Int):zC0 l fr to t s.hi=zC0 l fr to t s.lo++one fr to s.key (VG.sees s.vers s.key t):=by
 have h1:=s.lt;have h2:=s.le
 obtain ⟨z,hz⟩:=getV (l:=l) (n:=s.lo) (by omega)
 have hzk:=s.all s.lo z (zU _) h1 hz
 have key:∀ d,s.lo+d<s.hi->zC0 l fr to t (s.lo+d+1)=zC0 l fr to t s.lo++one fr to s.key (VG.sees s.vers s.key t):=by
  intro d
  induction d with
  |zero=>intro _;rw [show s.lo+0+1=s.lo+1 from rfl,zIk,zN3 hz s.bl,hzk,s.sees hs]
  |succ d ih=>
   intro hd
   obtain ⟨x,hx⟩:=getV (l:=l) (n:=s.lo+d+1) (by omega)
   obtain ⟨y,hy⟩:=getV (l:=l) (n:=s.lo+d) (by omega)
   rw [show s.lo+(d+1)+1=(s.lo+d+1)+1 by omega,zIk,ih (by omega),zN2 hx hy (by rw [s.all _ x (by omega) (by omega) hx,s.all _ y (by omega) (by omega) hy]),List.append_nil]
 have:=key (s.hi - s.lo - 1) (by omega)
 rwa [show s.lo+(s.hi - s.lo - 1)+1=s.hi by omega] at this
noncomputable def zIC {l:List Ver} (fr to:ByteArray) (t:Int) (pre:List (Seg l)):List Pai:=pre.flatMap λs=>one fr to s.key (sees s.vers s.key t)
theorem Cuts.scan {l:List Ver} (hs:l.Pairwise vlt) (fr to:ByteArray) (t:Int) {pre:List (Seg l)} {n:Nat} (h:Cuts l pre n):zC0 l fr to t n=zIC fr to t pre:=by
 induction h with
 |nil=>rfl
 |snoc s h ih=>rw [s.scan hs,ih];unfold zIC;rw [List.flatMap_append];simp
open Classical in
noncomputable def zCr (low:Int) (x:Ver) (o:Option Ver):List Ver:=
 if (∃ y,o=some y/\y.Key=x.Key/\y.At<=low) then [] else if x.Gone=true/\x.At<=low then [] else [x]
noncomputable def swp (low:Int):List Ver->List Ver
 |[]=>[]
 |x::r=>zCr low x r.head?++swp low r
theorem zNk (low:Int) (x:Ver) (o:Option Ver):(zCr low x o).length<=1:=by unfold zCr;split<;>(try split)<;>simp
theorem zMh (low:Int):∀ l:List Ver,(swp low l).length<=l.length
 |[]=>by simp [swp]
 |x::r=>by rw [swp,zg,List.length_cons];have:=zMh low r;have:=zNk low x r.head?;omega
theorem zLW (low:Int):∀ (a b:List Ver),(∀ x y,a.getLast?=some x->b.head?=some y->x.Key≠y.Key)->swp low (a++b)=swp low a++swp low b
 |[],b,_=>rfl
 |[x],b,h=>by
  show zCr low x b.head?++swp low b=(zCr low x none++[])++swp low b
  rw [List.append_nil]
  congr 1
  unfold zCr
  have h1:¬ ∃ y,b.head?=some y/\y.Key=x.Key/\y.At<=low:=λ⟨y,hy,hk,_⟩=>h x y rfl hy hk.symm
  have h2:¬ ∃ y,(none:Option Ver)=some y/\y.Key=x.Key/\y.At<=low:=λ⟨y,hy,_⟩=>by cases hy
  rw [if_neg h1,if_neg h2]
 |x::z::a,b,h=>by
  have ih:=zLW low (z::a) b (λp q hp hq=>h p q (by rw [List.getLast?_cons_cons];exact hp) hq)
  show zCr low x (some z)++swp low (z::a++b)=(zCr low x (some z)++swp low (z::a))++swp low b
  rw [ih,List.append_assoc]
def zGe (o:Option Ver):List Ver:=match o with
 |none=>[]
 |some x=>if x.Gone=true then [] else [x]
theorem zNa (low:Int) (key:ByteArray):∀ g:List Ver,(∀ x∈g,x.Key=key)->g.Pairwise vlt->swp low g=zGe (sees g key low)++g.filter (λx=>decide (low<x.At))
 |[],_,_=>rfl
 |x::r,hk,hs=>by
  have hxk:=hk x (by simp)
  have hkr:∀ y∈r,y.Key=key:=λy hy=>hk y (List.mem_cons_of_mem _ hy)
  rw [List.pairwise_cons] at hs
  have hlt:∀ y∈r,x.At<y.At:=λy hy=>by
   rcases hs.1 y hy with h|h
   ·rw [hxk,hkr y hy] at h;exact absurd h (Z6 _)
   ·exact h.2
  have ih:=zNa low key r hkr hs.2
  have hsee:sees (x::r) key low=(sees r key low).or (if x.At<=low then some x else none):=by
   rw [show x::r=[x]++r from rfl,zIb,zNL]
   congr 1
   by_cases h:x.At<=low
   ·rw [if_pos ⟨hxk,h⟩,if_pos h]
   ·rw [if_neg (λh1=>h h1.2),if_neg h]
  rw [swp,ih,hsee,List.filter_cons]
  cases r with
  |nil=>
   show zCr low x none++([]++[])=_
   have h2:¬ ∃ y,(none:Option Ver)=some y/\y.Key=x.Key/\y.At<=low:=λ⟨y,hy,_⟩=>by cases hy
   unfold zCr
   rw [if_neg h2]
   by_cases h:x.At<=low
   ·have h3:¬ low<x.At:=by omega
    simp only [h,and_true,if_true,h3,decide_false,Bool.false_eq_true,if_false,zM6,Option.or_none,Option.none_or,List.append_nil,List.filter_nil]
    rfl
   ·have h3:low<x.At:=by omega
    simp only [h,and_false,if_false,h3,decide_true,if_true,zM6,Option.none_or,List.filter_nil]
    rfl
  |cons y r=>
   have hxy:=hlt y (by simp)
   have hyk:=hkr y (by simp)
   show zCr low x (some y)++_=_
   unfold zCr
   by_cases h:y.At<=low
   ·have hx:¬ low<x.At:=by omega
    obtain ⟨z,hz⟩:∃ z,sees (y::r) key low=some z:=by
     cases hc:sees (y::r) key low with
     |none=>exact absurd ⟨hyk,h⟩ (zEi.1 hc y (by simp))
     |some z=>exact ⟨z,rfl⟩
    rw [if_pos ⟨y,rfl,by rw [hyk,hxk],h⟩,hz]
    simp only [hx,decide_false,Bool.false_eq_true,if_false,Option.or_some,List.nil_append]
    rfl
   ·have hn:sees (y::r) key low=none:=zEi.2 λz hz h1=>by
     rcases List.mem_cons.1 hz with h2|h2
     ·subst h2;exact h h1.2
     ·rcases (List.pairwise_cons.1 hs.2).1 z h2 with h3|h3
      ·rw [hyk,hkr z (List.mem_cons_of_mem _ h2)] at h3;exact absurd h3 (Z6 _)
      ·have:=h1.2;omega
    have h2:¬ ∃ z,(some y:Option Ver)=some z/\z.Key=x.Key/\z.At<=low:=λ⟨z,hz,_,h4⟩=>by cases hz;exact h h4
    rw [if_neg h2,hn]
    by_cases hxl:x.At<=low
    ·have h3:¬ low<x.At:=by omega
     simp only [hxl,and_true,if_true,h3,decide_false,Bool.false_eq_true,if_false,Option.none_or]
     rfl
    ·have h3:low<x.At:=by omega
     simp only [hxl,and_false,if_false,h3,decide_true,if_true,Option.none_or]
     rfl
noncomputable def zDh (l:List Ver) (low0 low:Int):List Ver × Int × Int:=
 if vchk l low0≠0 then ([],0,vchk l low0) else if low<low0 then ([],0,9) else if 2305843009213693952<low then ([],0,2) else (swp low l,low,0)
def swpS {l:List Ver} (low:Int) (pre:List (Seg l)):List Ver:=pre.flatMap λs=>zGe (sees s.vers s.key low)++s.vers.filter (λx=>decide (low<x.At))
theorem Cuts.sweep {l:List Ver} (hs:l.Pairwise vlt) (low:Int) {pre:List (Seg l)} {n:Nat} (h:Cuts l pre n):swp low (l.take n)=swpS low pre:=by
 induction h with
 |nil=>rfl
 |@snoc pre s h ih=>
  have h1:=s.lt;have h2:=s.le
  rw [zNb,zLW,ih]
  ·unfold swpS
   rw [List.flatMap_append,zNa low s.key s.vers (λx hx=>(s.mem hx).2) (by
    unfold Seg.vers
    exact (hs.sublist (List.drop_sublist _ _)).sublist (List.take_sublist _ _))]
   simp
  ·intro x y hx hy
   have hx':l[s.lo - 1]?=some x/\0<s.lo:=by
    rw [List.getLast?_eq_getElem?,List.length_take,List.getElem?_take] at hx
    split at hx
    ·refine ⟨?_,by omega⟩
     rw [Nat.min_eq_left (by omega)] at hx;exact hx
    ·cases hx
   have hy':l[s.lo]?=some y:=by
    unfold Seg.vers at hy
    rw [List.head?_eq_getElem?,List.getElem?_take_of_lt (by omega),List.getElem?_drop] at hy
    simpa using hy
   exact s.bl (s.lo - 1) x y (by omega) hx'.1 hy'
end Go.Proofs.YtealcoghiaeiiaaGreat.VG
set_option linter.unusedVariables false
namespace Go.Proofs.YtealcoghiaeiiaaGreat.VG
open Go.VB Go.VB.Srt Go.Proofs Go.RowKit
abbrev zHL (w:World) (s:Sl) (l:List Pai):Prop:=Rd zM.cells 2 w s l
abbrev xf (base:Nat) (w:World) (s:Sl) (l:List Pai):Prop:=OwnS zM.cells 2 zAG base w s l
theorem xf.rd {base:Nat} {w:World} {s:Sl} {l:List Pai} (h:xf base w s l):zHL w s l:=OwnS.rd h (λ_=>rfl)
theorem zJ4 {base:Nat} {w0 w:World} {s:Sl} {l:List Pai} {x:Pai} {k:Sl->World->Prop} (hO:xf base w s l) (hB:Bel w0 w) (hb:w0.heap.size<=base) (hbw:base<=w.heap.size) (room:l.length+1<=4398046511104)
  (H:∀ s' w',xf base w' s' (l++[x])->Bel w0 w'->w.grownBy w' (Sl.v s).ownBlock->k s' w'):
  opE zA Sl.v (ze YK 1 [(0,zM.v x)].toArray) w (λy w=>opE zA Sl.v (Builtin.append_ #[YK,YK] YK [Sl.v s,Sl.v y].toArray) w k):=
 zOK hO (λ_=>rfl) (λ_=>rfl) (by decide) YR zIJ rfl (by decide) (zLN x) hB hb hbw (by omega) H
theorem zRV {fr to key:ByteArray} {o:Option Ver} (h:zHI fr to key):one fr to key o=[]:=by unfold one;rw [if_pos h]
theorem zQy {fr to key:ByteArray}:one fr to key none=[]:=by unfold one;split<;>rfl
theorem zQS {fr to key:ByteArray} {x:Ver} (h:x.Gone=true):one fr to key (some x)=[]:=by
 unfold one;split
 ·rfl
 ·simp only;rw [if_pos h]
theorem zSM {fr to key:ByteArray} {x:Ver} (h:¬ zHI fr to key) (hg:x.Gone=false):one fr to key (some x)=[⟨key,x.Val⟩]:=by
 unfold one;rw [if_neg h];simp only;rw [if_neg (by rw [hg];decide)]
theorem zL7 {l:List Ver} (fr to:ByteArray) (t:Int):∀ pre:List (Seg l),(zIC fr to t pre).length<=pre.length
 |[]=>by simp [zIC]
 |s::pre=>by
  have:=zL7 fr to t pre
  have h2:=zO0 fr to s.key (sees s.vers s.key t)
  unfold zIC at*
  rw [List.flatMap_cons,zg,List.length_cons];omega
theorem zLQ {l:List Ver} (fr to:ByteArray) (t:Int) (pre:List (Seg l)) (s:Seg l):zIC fr to t (pre++[s])=zIC fr to t pre++one fr to s.key (sees s.vers s.key t):=by
 unfold zIC;rw [List.flatMap_append];simp
theorem Seg.sorted {l:List Ver} (hs:l.Pairwise vlt) (s:Seg l):s.vers.Pairwise vlt:=by
 unfold Seg.vers
 exact (hs.sublist (List.drop_sublist _ _)).sublist (List.take_sublist _ _)
theorem zQ4 {w:World} {x0:zQ} {l:List Ver} (h:zFF w x0.List l) (fr to:ByteArray) (t:Int) {k:Sl->Int->World->Prop}
  (H:∀ r w' base,w.heap.size<=base->base<=w'.heap.size->xf base w' r (zL1 l x0.Low fr to t).1->Bel w w'->k r (zL1 l x0.Low fr to t).2 w'):
  Cl zA zMn [zQ.v x0,.string fr,.string to,.int .u64 t].toArray w (λe w'=>∃ (r0:Sl) (r1:Int),e=.returned (.tuple [Sl.v r0,.int .i64 r1].toArray)/\k r0 r1 w'):=by
 refine zMj x0 fr to t w k ?_
 have hbig:=h.big;have hcap:=h.cap;have hlen:=h.len
 unfold zIt
 refine zAo (cs:=x0.cells) rfl λB4 w1 b1 hV hB4=>?_
 refine zAo (cs:=[.string fr]) rfl λB5 w2 b2 h5 hB5=>?_
 refine zAo (cs:=[.string to]) rfl λB6 w3 b3 h6 hB6=>?_
 refine zAo (cs:=[.int .u64 t]) rfl λB7 w4 b4 h7 hB7=>?_
 replace hV:=((hV.bel b2).bel b3).bel b4
 replace h5:=(h5.bel b3).bel b4
 replace h6:=h6.bel b4
 have b04:=((b1.trans b2).trans b3).trans b4
 refine Za yC x0 rfl hV.at rfl ?_
 refine zBX yO t h7.cell ?_
 refine zMF (h.bel b04) t λw5 b5=>?_
 have b05:=b04.trans b5
 unfold zL1 at H
 refine ⟨λhc=>?_,λhc=>?_⟩
 ·rw [if_pos hc] at H;exact H _ w5 w5.heap.size b05.le (zU _) (OwnS.nil _ _ _ _ _) b05
 rw [if_neg hc] at H
 have hg:=(zHm.1 (Classical.not_not.1 hc)).1
 have hl4:=hg.len
 have hs:=hg.sorted
 refine zFL zLI λB w6 b6 hR hB=>?_
 have b06:=b05.trans b6
 have hRR:Row w6 B [Sl.v Sl.none] YK:=hR
 refine yA yI yH ((hV.bel b5).bel b6).at x0.List rfl ?_
 have w05:w.heap.size<=w5.heap.size:=b05.le
 refine zOp b06 h λv b w7 hS hb6 hb7 b7=>?_
 have b07:=b06.trans b7
 have hBw:B<w6.heap.size:=hRR.lt
 have h57:=((h5.bel b5).bel b6).bel b7
 have h67:=((h6.bel b5).bel b6).bel b7
 have h77:=((h7.bel b5).bel b6).bel b7
 have c7:=b7.le
 have lt5:B5<w5.heap.size:=(h5.bel b5).lt
 have lt6:B6<w5.heap.size:=(h6.bel b5).lt
 have lt7:B7<w5.heap.size:=(h7.bel b5).lt
 have b57:Bel w5 w7:=b6.trans b7
 refine ⟨Seg l,λs=>s.key,λs=>x0.List.sub s.lo s.hi 4,ZQ w b,λxs=>Cuts l xs l.length,λ_=>True,l.length,
  λpre W=>∃ sl,Row W B [Sl.v sl] YK/\xf w7.heap.size W sl (zIC fr to t pre)/\Bel w5 W/\w7.heap.size<=W.heap.size,λ_ _=>False,
  zGR.of2 hS b07.le hb7 (λs W W' row hi hg hr=>?_) (λs W W' row hi hg hr=>hi) (λpre W hi=>hi.elim λ_ h=>h.2.2.2) ⟨Sl.none,hRR.bel b7,OwnS.nil _ _ _ _ _,b57,zU _⟩,
  λW=>ZQ.refl _ _ _,?_,?_,?_⟩
 ·obtain ⟨sl,h1,h2,h3,h4⟩:=hi
  exact ⟨sl,h1.notwalk hg hr,h2.notwalk hg hr,h3.notwalk b57.le hg hr,zn h4 hg.size⟩
 ·rintro pre s W ⟨sl,h1,h2,h3,h4⟩ hlenp
  have hsl:=zL7 fr to t pre
  have r5:=h5.bel b5;have r6:=h6.bel b5;have r7:=h7.bel b5
  unfold zGc
  refine zBX zh fr (r5.bel h3).cell ?_
  have skip:∀ W',Bel W W'->one fr to s.key (sees s.vers s.key t)=[]->(KeepsFrom w7.heap.size W W'/\ZQ w b W W'/\∃ sl,Row W' B [Sl.v sl] YK/\xf w7.heap.size W' sl (zIC fr to t (pre++[s]))/\Bel w5 W'/\w7.heap.size<=W'.heap.size):=by
   intro W' hb hn
   refine ⟨KeepsFrom.bel hb,ZQ.bel hb (by omega),sl,h1.bel hb,?_,h3.trans hb,zn h4 hb.le⟩
   rw [zLQ,hn,List.append_nil];exact h2.bel hb
  have r2t:zHI fr to s.key->zCy (some ⟨B7,0,none⟩) (some ⟨B,0,none⟩) s.key (x0.List.sub s.lo s.hi 4) (λW'=>KeepsFrom w7.heap.size W W'/\ZQ w b W W'/\∃ sl,Row W' B [Sl.v sl] YK/\xf w7.heap.size W' sl (zIC fr to t (pre++[s]))/\Bel w5 W'/\w7.heap.size<=W'.heap.size) true W:=
   λho=>⟨λ_=>skip W (Bel.refl _) (zRV ho),λh=>(nomatch h)⟩
  have r2f:¬ zHI fr to s.key->zCy (some ⟨B7,0,none⟩) (some ⟨B,0,none⟩) s.key (x0.List.sub s.lo s.hi 4) (λW'=>KeepsFrom w7.heap.size W W'/\ZQ w b W W'/\∃ sl,Row W' B [Sl.v sl] YK/\xf w7.heap.size W' sl (zIC fr to t (pre++[s]))/\Bel w5 W'/\w7.heap.size<=W'.heap.size) false W:=by
   intro hin
   refine ⟨λh=>(nomatch h),λ_=>?_⟩
   refine zBX yO t (r7.bel h3).cell ?_
   refine zM0 (s.rd (h.bel (b05.trans h3))) (s.sorted hs) s.key t λW1 c1=>?_
   refine zBa zBz rfl yP (cs:=(zLw (sees s.vers s.key t)).cells) rfl rfl rfl λC W2 c2 hX _=>?_
   have c02:=c1.trans c2
   cases hq:sees s.vers s.key t with
   |none=>exact ⟨λh=>(nomatch h),λ_=>⟨λh=>(nomatch h),λ_=>skip W2 c02 (by rw [hq,zQy])⟩⟩
   |some x=>
    refine ⟨λ_=>?_,λh=>(nomatch h)⟩
    rw [hq] at hX
    refine yA zCm zDR hX.at x.Gone rfl ?_
    unfold zD8
    refine ⟨λhx=>?_,λhx=>skip W2 c02 (by rw [hq,zQS (by cases hxg:x.Gone<;>simp_all)])⟩
    have hxg:x.Gone=false:=by cases hxg:x.Gone<;>simp_all
    refine zBX zEV sl (h1.bel c02).cell ?_
    refine yA zB4 zh hX.at x.Val rfl ?_
    refine ⟨⟨s.key,x.Val⟩,W2,by kernel_rfl,?_⟩
    refine zJ4 (w0:=w5) (h2.bel c02) (h3.trans c02) b57.le (zn h4 c02.le) (by omega) λs' W3 g5 g6 g7=>?_
    have hne:(Sl.v sl).ownBlock≠some B:=λe=>by have:=h2.lo e;omega
    have hr1:=(h1.bel c02).grown g7 hne
    refine zIZ zEV hr1 rfl rfl λW4 hr2 hg2=>?_
    have le02:=c02.le
    refine ⟨(KeepsFrom.bel c02).trans ((KeepsFrom.row g7 λr hr=>(h2.bel c02).isRow hr).trans (KeepsFrom.row hg2 λr hr=>by cases hr;exact ⟨_,_,_,hr1⟩)),?_,s',hr2,?_,?_,zn h4 (zn c02.le (zn g7.size hg2.size))⟩
    ·exact (ZQ.bel c02 (by omega)).trans ((ZQ.grown g7 (by omega) λr hr=>by have:=h2.lo hr;have:=b07.le;omega).trans (ZQ.grown hg2 (by have:=g7.size;omega) λr hr=>by cases hr;omega))
    ·rw [zLQ,hq,zSM hin hxg]
     exact g5.kept hg2 (by
      cases ho:(Sl.v s').ownBlock with
      |none=>exact .inl rfl
      |some q=>exact .inr λe=>by have h8:=g5.lo ho;have h9:=Option.some.inj e;omega)
    ·exact g6.grown hg2 λr hr=>by cases hr;omega
  refine ⟨λhf=>r2t (.inl hf),λhf=>?_⟩
  refine zBX zh to (r6.bel h3).cell ?_
  refine ⟨λhto=>?_,λhto=>r2f (λho=>by
   rcases ho with g|g
   ·rw [hf] at g;cases g
   ·exact hto g.1)⟩
  refine zBX zh to (r6.bel h3).cell ?_
  unfold zES
  cases ht:sLt s.key to with
  |false=>exact r2t (.inr ⟨hto,ht⟩)
  |true=>exact r2f (λho=>by
    rcases ho with g|g
    ·rw [hf] at g;cases g
    ·rw [ht] at g;cases g.2)
 ·rintro D xs W hD hC ⟨sl,h1,h2,h3,h4⟩ hK
  refine zBX zEV sl h1.cell ?_
  refine ⟨hK,?_⟩
  have hg:=zJb W D
  have hr:∀ r,some D=some r->w7.heap.size<=r/\∃ o:Obj,W.heap[r]?=some o/\o.isCells=false:=λr e=>by cases e;exact ⟨hD,_,hK,rfl⟩
  have hsc:=Cuts.scan hs fr to t hC
  refine H sl _ w7.heap.size b07.le (zn h4 hg.size) ?_ (b05.trans (h3.notwalk b57.le hg hr))
  rw [hsc];exact h2.notwalk hg hr
 ·exact λD pre W h1 h2 h3 h4=>trivial
end Go.Proofs.YtealcoghiaeiiaaGreat.VG
set_option linter.unusedVariables false
namespace Go.Proofs.YtealcoghiaeiiaaGreat.VG
open Go.VB Go.VB.Srt Go.Proofs Go.RowKit
theorem zO5 {base:Nat} {w0 W:World} {B C:Nat} {sl:Sl} {low:Int} {l:List Ver} {x:Ver} {ty:TypeId} (hR:Row W B [Sl.v sl,.int .u64 low] ty) (hO:Z1 base W sl l) (hX:At W ⟨C,0,none⟩ x.cells) (hb:Bel w0 W) (h0:w0.heap.size<=base) (hbw:base<=W.heap.size) (hB:B<base) (hB0:w0.heap.size<=B) (room:l.length+1<=2932031007402)
  {k:World->Prop} (H:∀ s' W3 W',W.grownBy W3 (Sl.v sl).ownBlock->Row W3 B [Sl.v sl,.int .u64 low] ty->W3.grownBy W' (some B)->Row W' B [Sl.v s',.int .u64 low] ty->Z1 base W' s' (l++[x])->Bel w0 W'->W.heap.size<=W'.heap.size->k W'):
  opE zA zB (zN yG (.pointer (some ⟨B,0,none⟩)) 0) W (λp w=>opE zA Sl.v (zD zt (.pointer p)) w (λs w=>opE zA zG.v (zD yK (.pointer (some ⟨C,0,none⟩))) w (λv w=>
   opE zA Sl.v (ze zt 1 [(0,zG.v v)].toArray) w (λy w=>opE zA Sl.v (Builtin.append_ #[zt,zt] zt [Sl.v s,Sl.v y].toArray) w (λs' w=>
   opE zA zB (zN yG (.pointer (some ⟨B,0,none⟩)) 0) w (λp w=>opU zA (zK zt (.pointer p) (Sl.v s')) w k)))))):=by
 refine yA yI yH hR.at sl rfl ?_
 refine Za yP x rfl hX rfl ?_
 refine zNd (w0:=w0) hO hb h0 hbw room λs' W3 h1 h2 h3=>?_
 have hne:(Sl.v sl).ownBlock≠some B:=λe=>by have:=hO.lo e;omega
 have hR3:=hR.grown h3 hne
 refine ⟨_,_,yI _ W3,?_⟩
 refine zIu yH (off:=0) hR3 rfl (by simp) rfl λW4 h4 h5=>?_
 refine H s' W3 W4 h3 hR3 h5 (by simpa using h4) (h1.kept h5 ?_) (h2.grown h5 λr hr=>by cases hr;exact hB0) (zn h3.size h5.size)
 cases ho:(Sl.v s').ownBlock with
 |none=>exact .inl rfl
 |some q=>exact .inr λe=>by have h8:=h1.lo ho;have h9:=Option.some.inj e;omega
abbrev zMK:zQ:=⟨Sl.none,0⟩
theorem zLY {W:World} {B:Nat} {x:zQ} {z:List Value} {q:zQ->World->Prop} (hR:Row W B z yG) (hz:z.length=2)
  (H:∀ W',W.grownBy W' (some B)->q x W'):opU zA (zK yG (.pointer (some ⟨B,0,none⟩)) (zQ.v x)) W (λw=>opR zA zQ.v yG (some ⟨B,0,none⟩) w (λr=>q r w)):=by
 refine zI1 yC hR hz rfl rfl λW' hR' hg=>?_
 exact R.agg yC x rfl hR'.at rfl (H W' hg)
theorem zPI {l:List Ver} (low:Int) (pre:List (Seg l)) (s:Seg l):swpS low (pre++[s])=swpS low pre++(zGe (sees s.vers s.key low)++s.vers.filter (λx=>decide (low<x.At))):=by
 unfold swpS;rw [List.flatMap_append];simp
theorem Cuts.len {l:List Ver} (hs:l.Pairwise vlt) (low:Int) {pre:List (Seg l)} {n:Nat} (h:Cuts l pre n):(swpS low pre).length<=l.length:=by
 rw [← Cuts.sweep hs low h]
 refine zn (zMh low _) ?_
 rw [List.length_take];omega
theorem zPb {l:List Ver} {n:Nat} {x:Ver} (h:l[n]?=some x) (low:Int):(l.take (n+1)).filter (λx=>decide (low<x.At))=(l.take n).filter (λx=>decide (low<x.At))++(if low<x.At then [x] else []):=by
 rw [zA0 h,List.filter_append]
 by_cases hh:low<x.At<;>simp [hh]
theorem zLL (o:Option Ver):(zGe o).length<=1:=by
 unfold zGe;split
 ·simp
 ·split<;>simp
theorem zLK {l:List Ver} (low:Int):∀ pre:List (Seg l),(swpS low pre).length<=pre.length*(l.length+1)
 |[]=>by simp [swpS]
 |s::pre=>by
  have h1:=zLK low pre
  have h2:=zLL (sees s.vers s.key low)
  have h3:(s.vers.filter (λx=>decide (low<x.At))).length<=s.vers.length:=List.length_filter_le _ _
  have h4:s.vers.length<=l.length:=by unfold Seg.vers;rw [List.length_take,List.length_drop];omega
  unfold swpS at*
  rw [List.flatMap_cons,zg,zg,List.length_cons,Nat.succ_mul];omega
theorem zLa {base:Nat} {W W3 W':World} {B n0 b:Nat} {w0:World} {sl:Sl} {low:Int} {l:List Ver} {ty:TypeId} (hO:Z1 base W sl l) (h1:W.grownBy W3 (Sl.v sl).ownBlock) (hR3:Row W3 B [Sl.v sl,.int .u64 low] ty) (h2:W3.grownBy W' (some B))
  (hb:b<base) (hbB:b≠B) (hw0:w0.heap.size<=base) (hB:w0.heap.size<=B) (hsz:base<=W.heap.size):KeepsFrom n0 W W'/\ZQ w0 b W W':=
 ⟨(KeepsFrom.row h1 λr hr=>hO.isRow hr).trans (KeepsFrom.row h2 λr hr=>by cases hr;exact ⟨_,_,_,hR3⟩),
  (ZQ.grown h1 (by omega) λr hr=>by have:=hO.lo hr;omega).trans (ZQ.grown h2 (by have:=h1.size;omega) λr hr=>by cases hr;omega)⟩
theorem zNv {w w3 w7 W:World} {x0:Sl} {l:List Ver} {low:Int} {b B B3:Nat} (h:zFF w x0 l) (hs:l.Pairwise vlt) (hl4:l.length<=4096) (b03:Bel w w3) (hL3:Row w3 B3 [.int .u64 low] zJE) (b37:Bel w3 w7) (hb7:b<w7.heap.size) (hbB:b≠B) (hB:w3.heap.size<=B) (hBw:B<w7.heap.size)
  {pre:List (Seg l)} (s:Seg l) (hlenp:pre.length<l.length) (h4:w7.heap.size<=W.heap.size)
  {W3:World} {sl3:Sl} (r1:Row W3 B [Sl.v sl3,.int .u64 low] yG) (r2:Z1 w7.heap.size W3 sl3 (swpS low pre++zGe (sees s.vers s.key low))) (r3:Bel w3 W3) (r4:w7.heap.size<=W3.heap.size) (r5:KeepsFrom w7.heap.size W W3) (r6:ZQ w b W W3):
  zBY (some ⟨B3,0,none⟩) (some ⟨B,0,none⟩) (x0.sub s.lo s.hi 4) (λW'=>KeepsFrom w7.heap.size W W'/\ZQ w b W W'/\∃ sl,Row W' B [Sl.v sl,.int .u64 low] yG/\Z1 w7.heap.size W' sl (swpS low (pre++[s]))/\Bel w3 W'/\w7.heap.size<=W'.heap.size) W3:=by
 have hbig:=h.big;have hcap:=h.cap;have hlen:=h.len
 have hw3:=b03.le
 have w37:=b37.le
 have hsl:=zLK low pre
 have hml:pre.length*(l.length+1)<=4096*4097:=Nat.mul_le_mul (by omega) (by omega)
 have hvl:s.vers.length<=l.length:=by unfold Seg.vers;rw [List.length_take,List.length_drop];omega
 have hsr:=s.rd (h.bel (b03.trans r3))
 have hsrlen:=hsr.len
 have hlo1:=zLL (sees s.vers s.key low)
 unfold zBY
 refine ⟨λi W'=>∃ (n:Nat) (sl:Sl),i=(n:Int)/\n<=s.vers.length/\Row W' B [Sl.v sl,.int .u64 low] yG/\Z1 w7.heap.size W' sl (swpS low pre++zGe (sees s.vers s.key low)++(s.vers.take n).filter (λx=>decide (low<x.At)))/\Bel w3 W'/\w7.heap.size<=W'.heap.size/\KeepsFrom w7.heap.size W W'/\ZQ w b W W',
  λi _=>((x0.sub s.lo s.hi 4).len - i).toNat,⟨0,sl3,rfl,by omega,r1,by simpa using r2,r3,r4,r5,r6⟩,?_⟩
 rintro i W' ⟨n,sl',rfl,hn,q1,q2,q3,q4,q5,q6⟩
 unfold zEc
 refine ⟨λhlt=>?_,λhlt=>?_⟩
 case refine_2=>
  obtain rfl:n=s.vers.length:=by omega
  rw [List.take_length] at q2
  exact ⟨q5,q6,sl',q1,by rw [zPI,← List.append_assoc];exact q2,q3,q4⟩
 obtain ⟨e,he⟩:=getV (l:=s.vers) (n:=n) (by omega)
 have hfs:=zPb he low
 have hfl:((s.vers.take n).filter (λx=>decide (low<x.At))).length<=l.length:=zn (List.length_filter_le _ _) (by rw [List.length_take];omega)
 refine zDA (s.rd (h.bel (b03.trans q3))) yq Qc (by omega) (x:=e) (by simpa using he) λad hA=>?_
 refine Za yP e rfl hA rfl ?_
 refine zBa zBz rfl yP (cs:=e.cells) rfl rfl rfl λC' W4 c4 hX' _=>?_
 refine yA zAt yO hX'.at e.At rfl ?_
 refine zBX yO low ((hL3.bel q3).bel c4).cell ?_
 have c4le:=c4.le
 refine ⟨λhat=>?_,λhat=>?_⟩
 ·rw [if_pos hat] at hfs
  refine zO5 (w0:=w3) (q1.bel c4) (q2.bel c4) hX'.at (q3.trans c4) b37.le (zn q4 c4.le) (by omega) hB (by rw [zg,zg];omega) λs' W5 W6 g1 g2 g3 g4 g5 g6 g7=>?_
  obtain ⟨p1,p2⟩:=zLa (n0:=w7.heap.size) (w0:=w) (b:=b) (q2.bel c4) g1 g2 g3 (by omega) (by omega) (by omega) (by omega) (zn q4 c4.le)
  unfold zCV
  rw [wr64 (by omega) (by omega)]
  refine ⟨⟨n+1,s',by omega,by omega,g4,?_,g6,zn (zn q4 c4.le) g7,(q5.trans (KeepsFrom.bel c4)).trans p1,(q6.trans (ZQ.bel c4 (by omega))).trans p2⟩,by dsimp only;omega⟩
  rw [hfs,← List.append_assoc];exact g5
 ·rw [if_neg hat,List.append_nil] at hfs
  unfold zCV
  rw [wr64 (by omega) (by omega)]
  refine ⟨⟨n+1,sl',by omega,by omega,q1.bel c4,?_,q3.trans c4,zn q4 c4.le,q5.trans (KeepsFrom.bel c4),q6.trans (ZQ.bel c4 (by omega))⟩,by dsimp only;omega⟩
  rw [hfs];exact q2.bel c4
theorem zNQ {w w3 w7 W:World} {x0:Sl} {l:List Ver} {low:Int} {b B B3:Nat} (h:zFF w x0 l) (hs:l.Pairwise vlt) (hl4:l.length<=4096) (b03:Bel w w3) (hL3:Row w3 B3 [.int .u64 low] zJE) (b37:Bel w3 w7) (hb7:b<w7.heap.size) (hbB:b≠B) (hB:w3.heap.size<=B) (hBw:B<w7.heap.size)
  {pre:List (Seg l)} (s:Seg l) (hlenp:pre.length<l.length) (h4:w7.heap.size<=W.heap.size)
  {sl:Sl} (h1:Row W B [Sl.v sl,.int .u64 low] yG) (h2:Z1 w7.heap.size W sl (swpS low pre)) (h3:Bel w3 W) {L:World->Prop}:
  zEa (some ⟨B3,0,none⟩) (some ⟨B,0,none⟩) s.key (x0.sub s.lo s.hi 4) W (λW'=>KeepsFrom w7.heap.size W W'/\ZQ w b W W'/\∃ sl,Row W' B [Sl.v sl,.int .u64 low] yG/\Z1 w7.heap.size W' sl (swpS low (pre++[s]))/\Bel w3 W'/\w7.heap.size<=W'.heap.size) L:=by
 have hbig:=h.big;have hcap:=h.cap;have hlen:=h.len
 have hw3:=b03.le
 have w37:=b37.le
 have hsl:=zLK low pre
 have hml:pre.length*(l.length+1)<=4096*4097:=Nat.mul_le_mul (by omega) (by omega)
 have hvl:s.vers.length<=l.length:=by unfold Seg.vers;rw [List.length_take,List.length_drop];omega
 have hsr:=s.rd (h.bel (b03.trans h3))
 have hsrlen:=hsr.len
 unfold zEa
 refine zBX yO low (hL3.bel h3).cell ?_
 refine zM0 hsr (s.sorted hs) s.key low λW1 c1=>?_
 refine zBa zBz rfl yP (cs:=(zLw (sees s.vers s.key low)).cells) rfl rfl rfl λC W2 c2 hX _=>?_
 have c02:=c1.trans c2
 have c02le:=c02.le
 have j2:∀ W3 sl3,Row W3 B [Sl.v sl3,.int .u64 low] yG->Z1 w7.heap.size W3 sl3 (swpS low pre++zGe (sees s.vers s.key low))->Bel w3 W3->w7.heap.size<=W3.heap.size->KeepsFrom w7.heap.size W W3->ZQ w b W W3->
   zBY (some ⟨B3,0,none⟩) (some ⟨B,0,none⟩) (x0.sub s.lo s.hi 4) (λW'=>KeepsFrom w7.heap.size W W'/\ZQ w b W W'/\∃ sl,Row W' B [Sl.v sl,.int .u64 low] yG/\Z1 w7.heap.size W' sl (swpS low (pre++[s]))/\Bel w3 W'/\w7.heap.size<=W'.heap.size) W3:=λW3 sl3 r1 r2 r3 r4 r5 r6=>zNv h hs hl4 b03 hL3 b37 hb7 hbB hB hBw s hlenp h4 r1 r2 r3 r4 r5 r6
 have skip:zGe (sees s.vers s.key low)=[]->zBY (some ⟨B3,0,none⟩) (some ⟨B,0,none⟩) (x0.sub s.lo s.hi 4) (λW'=>KeepsFrom w7.heap.size W W'/\ZQ w b W W'/\∃ sl,Row W' B [Sl.v sl,.int .u64 low] yG/\Z1 w7.heap.size W' sl (swpS low (pre++[s]))/\Bel w3 W'/\w7.heap.size<=W'.heap.size) W2:=λhn=>
  j2 W2 sl (h1.bel c02) (by rw [hn,List.append_nil];exact h2.bel c02) (h3.trans c02) (zn h4 c02.le) (KeepsFrom.bel c02) (ZQ.bel c02 (by omega))
 cases hq:sees s.vers s.key low with
 |none=>exact ⟨λh=>(nomatch h),λ_=>⟨λh=>(nomatch h),λ_=>skip (by rw [hq];rfl)⟩⟩
 |some x=>
  refine ⟨λ_=>?_,λh=>(nomatch h)⟩
  rw [hq] at hX
  refine yA zCm zDR hX.at x.Gone rfl ?_
  unfold zDQ
  refine ⟨λhx=>?_,λhx=>skip (by rw [hq];unfold zGe;simp only;rw [if_pos (by cases hxg:x.Gone<;>simp_all)])⟩
  have hone:zGe (some x)=[x]:=by unfold zGe;simp only;rw [if_neg (by cases hxg:x.Gone<;>simp_all)]
  refine zO5 (w0:=w3) (h1.bel c02) (h2.bel c02) hX.at (h3.trans c02) b37.le (zn h4 c02.le) (by omega) hB (by omega) λs' W5 W6 g1 g2 g3 g4 g5 g6 g7=>?_
  obtain ⟨p1,p2⟩:=zLa (n0:=w7.heap.size) (w0:=w) (b:=b) (h2.bel c02) g1 g2 g3 (by omega) (by omega) (by omega) (by omega) (zn h4 c02.le)
  exact j2 W6 s' g4 (by rw [hq,hone];exact g5) g6 (zn (zn h4 c02.le) g7) ((KeepsFrom.bel c02).trans p1) ((ZQ.bel c02 (by omega)).trans p2)
theorem zPc {w:World} {x0:zQ} {l:List Ver} (h:zFF w x0.List l) (low:Int) {k:zQ->Int->World->Prop}
  (H:∀ r w' base,w.heap.size<=base->Z1 base w' r (zDh l x0.Low low).1->Bel w w'->k ⟨r,(zDh l x0.Low low).2.1⟩ (zDh l x0.Low low).2.2 w'):
  Cl zA zLr [zQ.v x0,.int .u64 low].toArray w (λe w'=>∃ (r0:zQ) (r1:Int),e=.returned (.tuple [zQ.v r0,.int .i64 r1].toArray)/\k r0 r1 w'):=by
 refine zLm x0 low w k ?_
 have hbig:=h.big;have hcap:=h.cap;have hlen:=h.len
 unfold zHx
 refine zAo (cs:=x0.cells) rfl λB2 w1 b1 hV hB2=>?_
 refine zAo (cs:=[.int .u64 low]) rfl λB3 wl bl hL hB3=>?_
 refine zFL zAz λB4 w2 b2 hZ hB4=>?_
 have b02:=(b1.trans bl).trans b2
 have w1le:=b1.le
 have wlle:=bl.le
 replace hV:=(hV.bel bl).bel b2
 replace hL:=hL.bel b2
 refine Za yC x0 rfl hV.at rfl ?_
 refine zKf (h.bel b02) λw3 b3=>?_
 have b03:=b02.trans b3
 have hZ3:=hZ.bel b3
 unfold zDh at H
 refine ⟨λhc=>?_,λhc=>?_⟩
 ·rw [if_pos hc] at H
  refine ⟨zMK,w3,by kernel_rfl,?_⟩
  exact zLY hZ3 rfl λW' hg=>H Sl.none W' W'.heap.size (b03.grown hg λr hr=>by cases hr;omega).le (OwnS.nil _ _ _ _ _) (b03.grown hg λr hr=>by cases hr;omega)
 rw [if_neg hc] at H
 have hg:=zGC.1 (Classical.not_not.1 hc)
 have hl4:=hg.len
 have hs:=hg.sorted
 refine zBX yO low (hL.bel b3).cell ?_
 refine yA zA3 yO (hV.bel b3).at x0.Low rfl ?_
 refine ⟨λhlo=>?_,λhlo=>?_⟩
 ·rw [if_pos hlo] at H
  refine ⟨zMK,w3,by kernel_rfl,?_⟩
  exact zLY hZ3 rfl λW' hg=>H Sl.none W' W'.heap.size (b03.grown hg λr hr=>by cases hr;omega).le (OwnS.nil _ _ _ _ _) (b03.grown hg λr hr=>by cases hr;omega)
 rw [if_neg hlo] at H
 refine zBX yO low (hL.bel b3).cell ?_
 refine ⟨λhhi=>?_,λhhi=>?_⟩
 ·rw [if_pos hhi] at H
  refine ⟨zMK,w3,by kernel_rfl,?_⟩
  exact zLY hZ3 rfl λW' hg=>H Sl.none W' W'.heap.size (b03.grown hg λr hr=>by cases hr;omega).le (OwnS.nil _ _ _ _ _) (b03.grown hg λr hr=>by cases hr;omega)
 rw [if_neg hhi] at H
 refine zBX yO low (hL.bel b3).cell ?_
 refine ⟨⟨Sl.none,low⟩,w3,by kernel_rfl,?_⟩
 refine zBa zAz rfl yC (cs:=(⟨Sl.none,low⟩:zQ).cells) rfl rfl rfl λB w4 b4 hR hB=>?_
 have b04:=b03.trans b4
 have hw3:=b03.le
 have hB4w:B4<w3.heap.size:=hZ3.lt
 have hBw:B<w4.heap.size:=hR.lt
 refine yA yI yH ((hV.bel b3).bel b4).at x0.List rfl ?_
 refine zOp b04 h λv b w7 hS hb6 hb7 b7=>?_
 have b07:=b04.trans b7
 have b37:=b4.trans b7
 have w7le:=b7.le
 refine ⟨Seg l,λs=>s.key,λs=>x0.List.sub s.lo s.hi 4,ZQ w b,λxs=>Cuts l xs l.length,λ_=>True,l.length,
  λpre W=>∃ sl,Row W B [Sl.v sl,.int .u64 low] yG/\Z1 w7.heap.size W sl (swpS low pre)/\Bel w3 W/\w7.heap.size<=W.heap.size,λ_ _=>False,
  zGR.of2 hS b07.le hb7 (λs W W' row hi hg hr=>?_) (λs W W' row hi hg hr=>hi) (λpre W hi=>hi.elim λ_ h=>h.2.2.2) ⟨Sl.none,hR.bel b7,OwnS.nil _ _ _ _ _,b37,zU _⟩,
  λW=>ZQ.refl _ _ _,?_,?_,?_⟩
 ·obtain ⟨sl,h1,h2,h3,h4⟩:=hi
  exact ⟨sl,h1.notwalk hg hr,h2.notwalk hg hr,h3.notwalk b37.le hg hr,zn h4 hg.size⟩
 ·rintro pre s W ⟨sl,h1,h2,h3,h4⟩ hlenp
  exact zNQ h hs hl4 b03 (hL.bel b3) b37 hb7 (by omega) hB (by omega) s hlenp h4 h1 h2 h3
 ·rintro D xs W hD hC ⟨sl,h1,h2,h3,h4⟩ hK
  refine Za yC ⟨sl,low⟩ rfl h1.at rfl ?_
  have hsw:=Cuts.sweep hs low hC
  rw [List.take_length] at hsw
  rw [← hsw] at h2
  refine zI1 yC (hZ3.bel h3) rfl rfl rfl λW5 hR5 hg5=>?_
  have hDW:D<W.heap.size:=(Array.getElem?_eq_some_iff.1 hK).1
  have hw37:=b37.le
  have hK5:W5.heap[D]?=some (.deferred (some [])):=(hg5.block D hDW (λe=>by have:=Option.some.inj e;omega)).trans hK
  refine ⟨hK5,?_⟩
  have hgd:=zJb W5 D
  have hr:∀ r,some D=some r->w7.heap.size<=r/\∃ o:Obj,W5.heap[r]?=some o/\o.isCells=false:=λr e=>by cases e;exact ⟨hD,_,hK5,rfl⟩
  refine R.agg yC ⟨sl,low⟩ rfl (hR5.notwalk hgd hr).at rfl ?_
  refine H sl _ w7.heap.size b07.le (OwnS.notwalk (h2.kept hg5 ?_) hgd hr) (((b03.trans h3).grown hg5 λr hr=>by cases hr;omega).notwalk b07.le hgd hr)
  cases ho:(Sl.v sl).ownBlock with
  |none=>exact .inl rfl
  |some q=>exact .inr λe=>by have h8:=h2.lo ho;have h9:=Option.some.inj e;omega
 ·exact λD pre W h1 h2 h3 h4=>trivial
end Go.Proofs.YtealcoghiaeiiaaGreat.VG
set_option linter.unusedVariables false
namespace Go.Proofs.YtealcoghiaeiiaaGreat.VG
open Go.VB Go.VB.Srt Go.Proofs Go.RowKit
def zBn (w:Wri):Prop:=256<w.Key.size∨512<w.Val.size
def zDw (m:List Wri):List ByteArray:=m.map (·.Key)
open Classical in
noncomputable def zHy (m:List Wri):Int:=if 4096<m.length then 3 else if (∃ w∈m,zBn w) then 4 else if ¬ (zDw m).Nodup then 12 else 0
theorem zGZ {m:List Wri}:zHy m=0↔m.length<=4096/\(∀ w∈m,¬ zBn w)/\(zDw m).Nodup:=by
 unfold zHy
 by_cases h1:4096<m.length
 ·rw [if_pos h1];exact ⟨λh=>absurd h (by decide),λh=>by omega⟩
 rw [if_neg h1]
 by_cases h2:∃ w∈m,zBn w
 ·rw [if_pos h2];exact ⟨λh=>absurd h (by decide),λh=>absurd h2 (λ⟨w,h3,h4⟩=>h.2.1 w h3 h4)⟩
 rw [if_neg h2]
 by_cases h3:(zDw m).Nodup
 ·rw [if_neg (by simp [h3])];exact ⟨λ_=>⟨by omega,λw h4 h5=>h2 ⟨w,h4,h5⟩,h3⟩,λ_=>rfl⟩
 ·rw [if_pos h3];exact ⟨λh=>absurd h (by decide),λh=>absurd h.2.2 h3⟩
def mk (t:Int) (w:Wri):Ver:=⟨w.Key,t,if w.Gone=true then noB else w.Val,w.Gone⟩
def ins (x:Ver):List Ver->List Ver
 |[]=>[x]
 |y::r=>if sLt x.Key y.Key=true then x::y::r else y::ins x r
def putL (l:List Ver) (t:Int) (m:List Wri):List Ver:=m.foldl (λl w=>ins (mk t w) l) l
theorem zOz (x:Ver):∀ l:List Ver,(ins x l).length=l.length+1
 |[]=>rfl
 |y::r=>by
  rw [ins];split
  ·rfl
  ·rw [List.length_cons,zOz x r,List.length_cons]
theorem zMv {x z:Ver}:∀ {l:List Ver},z∈ins x l↔z=x∨z∈l
 |[]=>by simp [ins]
 |y::r=>by
  rw [ins];split
  ·simp
  ·rw [List.mem_cons,zMv,List.mem_cons]
   constructor
   ·rintro (h|h|h)<;>simp [h]
   ·rintro (h|h|h)<;>simp [h]
theorem zNZ (x:Ver):∀ l:List Ver,(ins x l).Perm (x::l)
 |[]=>List.Perm.refl _
 |y::r=>by
  rw [ins];split
  ·exact List.Perm.refl _
  ·exact ((zNZ x r).cons y).trans (List.Perm.swap x y r)
theorem zLZ {x:Ver}:∀ {l:List Ver},l.Pairwise vlt->(∀ y∈l,y.Key=x.Key->y.At<x.At)->(ins x l).Pairwise vlt
 |[],_,_=>by simp [ins]
 |y::r,hs,h=>by
  rw [List.pairwise_cons] at hs
  rw [ins];split
  ·rename_i hlt
   rw [List.pairwise_cons,List.pairwise_cons]
   refine ⟨λz hz=>?_,hs⟩
   rcases List.mem_cons.1 hz with h1|h1
   ·subst h1;exact .inl hlt
   ·exact zJm (.inl hlt) (hs.1 z h1)
  ·rename_i hlt
   rw [List.pairwise_cons]
   refine ⟨λz hz=>?_,zLZ hs.2 λz hz=>h z (List.mem_cons_of_mem _ hz)⟩
   rcases zMv.1 hz with h1|h1
   ·subst h1
    by_cases hk:y.Key=z.Key
    ·exact .inr ⟨hk,h y (by simp) hk⟩
    ·exact .inl (zEe hlt (λe=>hk e.symm))
   ·exact hs.1 z h1
theorem zNX (t:Int):∀ (m:List Wri) (l:List Ver),(putL l t m).length=l.length+m.length
 |[],l=>rfl
 |w::m,l=>by
  show (putL (ins (mk t w) l) t m).length=_
  rw [zNX t m,zOz,List.length_cons];omega
theorem zKZ (t:Int):∀ (m:List Wri) (l:List Ver),(putL l t m).Perm (l++m.map (mk t))
 |[],l=>by simp [putL]
 |w::m,l=>by
  show (putL (ins (mk t w) l) t m).Perm _
  refine (zKZ t m _).trans ?_
  rw [List.map_cons]
  refine ((zNZ (mk t w) l).append_right (m.map (mk t))).trans ?_
  exact (List.perm_middle (a:=mk t w) (l₁:=l) (l₂:=m.map (mk t))).symm
theorem zIe {t:Int}:∀ (m:List Wri) (l:List Ver),l.Pairwise vlt->(zDw m).Nodup->(∀ w∈m,∀ y∈l,y.Key=w.Key->y.At<t)->(putL l t m).Pairwise vlt
 |[],l,hs,_,_=>hs
 |w::m,l,hs,hn,h=>by
  have hn':=List.nodup_cons.1 (show (w.Key::zDw m).Nodup from hn)
  refine zIe (t:=t) m _ (zLZ hs (h w (by simp))) hn'.2 λv hv y hy hk=>?_
  rcases zMv.1 hy with h1|h1
  ·subst h1
   exact absurd (List.mem_map.2 ⟨v,hv,hk.symm⟩) hn'.1
  ·exact h v (List.mem_cons_of_mem _ hv) y h1 hk
theorem zJj:∀ {s t:List Ver},s.Pairwise vlt->t.Pairwise vlt->(∀ x,x∈s↔x∈t)->s=t
 |[],[],_,_,_=>rfl
 |[],y::t,_,_,h=>absurd ((h y).2 (by simp)) (by simp)
 |x::s,[],_,_,h=>absurd ((h x).1 (by simp)) (by simp)
 |x::s,y::t,hs,ht,h=>by
  rw [List.pairwise_cons] at hs ht
  have hxy:x=y:=by
   rcases List.mem_cons.1 ((h x).1 (by simp)) with h1|h1
   ·exact h1
   ·rcases List.mem_cons.1 ((h y).2 (by simp)) with h2|h2
    ·exact h2.symm
    ·exact absurd (zJm (hs.1 y h2) (ht.1 x h1)) (zJ3 x)
  subst hxy
  have hst:s=t:=zJj hs.2 ht.2 λz=>by
   constructor
   ·intro hz
    rcases List.mem_cons.1 ((h z).1 (by simp [hz])) with h1|h1
    ·subst h1;exact absurd (hs.1 z hz) (zJ3 z)
    ·exact h1
   ·intro hz
    rcases List.mem_cons.1 ((h z).2 (by simp [hz])) with h1|h1
    ·subst h1;exact absurd (ht.1 z hz) (zJ3 z)
    ·exact h1
  rw [hst]
theorem zNq {s t:List Ver} (hs:s.Pairwise vlt) (ht:t.Pairwise vlt) (h:s.Perm t):s=t:=zJj hs ht λx=>h.mem_iff
theorem zPW {ys:List Ver} (hp:ys.Pairwise (λx y=>Le vltB x y)) (hn:ys.Pairwise (λx y=>¬ (x.Key=y.Key/\x.At=y.At))):ys.Pairwise vlt:=
 (hp.and hn).imp λ{x y} h=>by
  have h1:¬ vlt y x:=λh2=>by have h3:vltB y x=false:=h.1;rw [zHl.2 h2] at h3;cases h3
  exact zOu h1 (λh2=>h.2 ⟨h2.1.symm,h2.2.symm⟩)
theorem zRh {l:List Ver} {t:Int} {m:List Wri} {ys:List Ver} (hs:l.Pairwise vlt) (hn:(zDw m).Nodup) (hl:∀ y∈l,y.At<t) (hp:ys.Perm (l++m.map (mk t))) (hle:ys.Pairwise (λx y=>Le vltB x y)):ys=putL l t m:=by
 have hq:=zIe (t:=t) m l hs hn λw _ y hy _=>hl y hy
 have hpp:=zKZ t m l
 refine zNq (zPW hle ?_) hq (hp.trans hpp.symm)
 have h1:(putL l t m).Pairwise (λx y=>¬ (x.Key=y.Key/\x.At=y.At)):=hq.imp λ{x y} h h2=>by
  rcases h with h|h
  ·rw [h2.1] at h;exact Z6 _ h
  ·omega
 exact (hp.trans hpp.symm).pairwise_iff (λ{a b} h h2=>h ⟨h2.1.symm,h2.2.symm⟩) |>.2 h1
open Classical in
noncomputable def pwhy (l:List Ver) (low:Int) (m:List Wri) (t:Int):Int:=
 if vchk l low≠0 then vchk l low else if zHy m≠0 then zHy m else if t<1∨2305843009213693952<t then 2 else if t<low∨(∃ x∈l,t<=x.At) then 9 else if 4096<l.length+m.length then 3 else 0
noncomputable def vput (l:List Ver) (low:Int) (m:List Wri) (t:Int):List Ver × Int × Int:=
 if pwhy l low m t≠0 then ([],0,pwhy l low m t) else (putL l t m,low,0)
theorem zFa {l:List Ver} {low:Int} {m:List Wri} {t:Int}:pwhy l low m t=0↔zCt l low/\zHy m=0/\1<=t/\t<=2305843009213693952/\low<=t/\(∀ x∈l,x.At<t)/\l.length+m.length<=4096:=by
 unfold pwhy
 by_cases h1:vchk l low=0
 case neg=>rw [if_pos h1];exact ⟨λh=>absurd h h1,λh=>absurd (zGC.2 h.1) h1⟩
 rw [if_neg (by simp [h1])]
 by_cases h2:zHy m=0
 case neg=>rw [if_pos h2];exact ⟨λh=>absurd h h2,λh=>absurd h.2.1 h2⟩
 rw [if_neg (by simp [h2])]
 by_cases h3:t<1∨2305843009213693952<t
 ·rw [if_pos h3];exact ⟨λh=>absurd h (by decide),λh=>by omega⟩
 rw [if_neg h3]
 by_cases h4:t<low∨(∃ x∈l,t<=x.At)
 ·rw [if_pos h4]
  refine ⟨λh=>absurd h (by decide),λh=>?_⟩
  rcases h4 with h5|⟨x,h5,h6⟩
  ·omega
  ·have:=h.2.2.2.2.2.1 x h5;omega
 rw [if_neg h4]
 by_cases h5:4096<l.length+m.length
 ·rw [if_pos h5];exact ⟨λh=>absurd h (by decide),λh=>by omega⟩
 rw [if_neg h5]
 exact ⟨λ_=>⟨zGC.1 h1,h2,by omega,by omega,by omega,λx hx=>Int.not_le.1 λh6=>h4 (.inr ⟨x,hx,h6⟩),by omega⟩,λ_=>rfl⟩
end Go.Proofs.YtealcoghiaeiiaaGreat.VG
