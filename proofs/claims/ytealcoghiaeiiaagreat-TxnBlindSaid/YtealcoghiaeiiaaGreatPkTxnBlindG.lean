/- Texts by which the law's calls are walked (part 7): rules, printed conditions, contracts; no condition. -/
import Derived.TacticsIn
import Derived.TacticsInMore
import Derived.Deep.LoopGhost
import Derived.Sort.QuietThIn
import Derived.RangeFuncCalls
import Derived.RangeFuncNested
import Derived.RangeFuncLeaves
import Derived.WalkKit
import Derived.StillTail
import Derived.Test.YtealcoghiaeiiaaGreatProg
import Derived.KernelRfl
import Derived.Deep.WholeRow
import Derived.Laws.StructEq
import Derived.MapFrom
import Derived.Laws.CopyRow
import Derived.Maps.RangeRun
import Derived.Sort.Walk0
import Derived.RangeFuncBound
import Derived.Test.YtealcoghiaeiiaaGreatPkTxnBlindF
open Go.Proofs.Tryz renaming prog → zA
open Go.IntKind renaming wrap → zB
open Go.Value renaming pointer → zC, int → zV, string → zY, bool → Qq
open Go.Instr renaming loadAt → zD, storeAt → zK, indexAt → zF, fieldAt → zO, alloc → zk, build → QC, buildSlice → zc
open Nat renaming le_refl → zU, le_trans → ze, lt_of_lt_of_le → xf
open List renaming length_append → zy
set_option linter.unusedVariables false
set_option linter.unusedSimpArgs false
namespace Go.Proofs.YtealcoghiaeiiaaGreat.VG
open Go.VB Go.Proofs
def zC7 (x9:Option Addr) (x60:Int) (Kl4:Int->World->Prop) (x12:Option Addr) (w:World):Prop:=
 opE zA zC (zO 69 (.pointer x9) 0) w (λx75 w=>opE zA Sl.v (zD 67 (.pointer x75)) w (λx76 w=>opE zA zG.v (zD 72 (.pointer x12)) w (λx77 w=>opE zA Sl.v (zc 67 1 [(0,(zG.v x77))].toArray) w (λx78 w=>opE zA Sl.v (Builtin.append_ #[67,67] 67 [(Sl.v x76),(Sl.v x78)].toArray) w (λx79 w=>opE zA zC (zO 69 (.pointer x9) 0) w (λx80 w=>opU zA (zK 67 (.pointer x80) (Sl.v x79)) w (λw=>Kl4 (zB .i64 (x60+1)) w)))))))
def zE8 (x1:Sl) (Ret:zP->Int->World->Prop) (x5:Option Addr) (x6:Option Addr) (x9:Option Addr) (x60:Int) (w:World) (Kl4:Int->World->Prop):Prop:=
 ((x60<(x1.len:Int))->(opE zA zC (zF 30 (Sl.v x1) (.int .i64 x60)) w (λx62 w=>opE zA zI.v (zD 34 (.pointer x62)) w (λx63 w=>opE zA zC (zk 34 true (.tuple #[])) w (λx11 w=>opU zA (zK 34 (.pointer x11) (zI.v x63)) w (λw=>opE zA zC (zO 34 (.pointer x11) 0) w (λx64 w=>opE zA zY (zD 9 (.pointer x64)) w (λx65 w=>opE zA (zV .u64) (zD 37 (.pointer x5)) w (λx66 w=>opE zA zC (zO 34 (.pointer x11) 1) w (λx67 w=>opE zA zY (zD 9 (.pointer x67)) w (λx68 w=>opE zA zC (zO 34 (.pointer x11) 2) w (λx69 w=>opE zA Qq (zD 4 (.pointer x69)) w (λx70 w=>opE zA zG.v (QC 72 [(0,(.string x65)),(1,(.int .u64 x66)),(2,(.string x68)),(3,(.bool x70))].toArray) w (λx71 w=>opE zA zC (zk 72 true (.tuple #[])) w (λx12 w=>opU zA (zK 72 (.pointer x12) (zG.v x71)) w (λw=>opE zA zC (zO 34 (.pointer x11) 2) w (λx72 w=>opE zA Qq (zD 4 (.pointer x72)) w (λx73 w=>(x73=true->(opE zA zC (zO 72 (.pointer x12) 2) w (λx74 w=>opU zA (zK 9 (.pointer x74) (.string (ByteArray.mk #[]))) w (λw=>zC7 x9 x60 Kl4 x12 w))))/\(x73=false->(zC7 x9 x60 Kl4 x12 w))))))))))))))))))))/\(¬ (x60<(x1.len:Int))->(opE zA zC (zO 69 (.pointer x9) 0) w (λx82 w=>opE zA Sl.v (zD 67 (.pointer x82)) w (λx83 w=>Cl zA 67 [(Sl.v x83),(.func (.func 68) #[] #[])].toArray w (λe w=>e=.returned (.tuple [].toArray)/\(opE zA zP.v (zD 69 (.pointer x9)) w (λx85 w=>opU zA (zK 69 (.pointer x6) (zP.v x85)) w (λw=>opR zA zP.v 69 x6 w (λq_1=>Ret q_1 0 w)))))))))
def zC4 (x1:Sl) (Ret:zP->Int->World->Prop) (x5:Option Addr) (x6:Option Addr) (x9:Option Addr) (w:World):Prop:=
 ∃ (I:Int->World->Prop) (μ:Int->World->Nat),I 0 w/\∀ (x60:Int) w,I x60 w->zE8 x1 Ret x5 x6 x9 x60 w (λx60' w'=>I x60' w'/\μ x60' w'<μ x60 w)
def zBL (x1:Sl) (Ret:zP->Int->World->Prop) (x3:Option Addr) (x5:Option Addr) (x6:Option Addr) (x8_1:Int) (w:World):Prop:=
 ((x8_1≠0)->(opE zA zP.v (QC 69 [].toArray) w (λx50 w=>opU zA (zK 69 (.pointer x6) (zP.v x50)) w (λw=>opR zA zP.v 69 x6 w (λq=>Ret q x8_1 w)))))/\(¬ (x8_1≠0)->(regC w (λC6 w=>opC C6 zA zC (zO 69 (.pointer x3) 0) (λx52=>opC C6 zA zC (zO 69 (.pointer x3) 1) (λx55=>opC C6 zA Sl.v (zD 67 (.pointer x52)) (λx53=>opC C6 zA (zV .u64) (zD 37 (.pointer x55)) (λx56=>(Cl zA 52 [(Sl.v x53)].toArray w (λe w=>∃ (r_1:Sl),e=.returned (Sl.v r_1)/\(C6 w/\(opC C6 zA zP.v (QC 69 [(0,(Sl.v r_1)),(1,(.int .u64 x56))].toArray) (λx57=>opE zA zC (zk 69 true (.tuple #[])) w (λx9_1 w=>C6 w/\(opU zA (zK 69 (.pointer x9_1) (zP.v x57)) w (λw=>C6 w/\(zC4 x1 Ret x5 x6 x9_1 w)))))))))/\(opE zA zC (zk 69 true (.tuple #[])) w (λx9_2 w=>C6 w/\(Cl zA 52 [(Sl.v x53)].toArray w (λe w=>∃ (r_2:Sl),e=.returned (Sl.v r_2)/\(C6 w/\(opC C6 zA zP.v (QC 69 [(0,(Sl.v r_2)),(1,(.int .u64 x56))].toArray) (λx57_1=>opU zA (zK 69 (.pointer x9_2) (zP.v x57_1)) w (λw=>C6 w/\(zC4 x1 Ret x5 x6 x9_2 w))))))))))))))))
def zC6 (x1:Sl) (Ret:zP->Int->World->Prop) (x3:Option Addr) (x5:Option Addr) (x6:Option Addr) (x8:Int) (x39:Bool) (w:World):Prop:=
 (x39=true->(zBL x1 Ret x3 x5 x6 9 w))/\(x39=false->(opE zA zC (zO 69 (.pointer x3) 0) w (λx41 w=>opE zA Sl.v (zD 67 (.pointer x41)) w (λx42 w=>((4096<(zB .i64 ((x42.len:Int)+(x1.len:Int))))->(zBL x1 Ret x3 x5 x6 3 w))/\(¬ (4096<(zB .i64 ((x42.len:Int)+(x1.len:Int))))->(zBL x1 Ret x3 x5 x6 x8 w))))))
def zC5 (x1:Sl) (Ret:zP->Int->World->Prop) (x3:Option Addr) (x5:Option Addr) (x6:Option Addr) (x8:Int) (x28:Bool) (w:World):Prop:=
 (x28=true->(zBL x1 Ret x3 x5 x6 2 w))/\(x28=false->(opE zA (zV .u64) (zD 37 (.pointer x5)) w (λx30 w=>opE zA zC (zO 69 (.pointer x3) 1) w (λx31 w=>opE zA (zV .u64) (zD 37 (.pointer x31)) w (λx32 w=>((x30<x32)->(zC6 x1 Ret x3 x5 x6 x8 true w))/\(¬ (x30<x32)->(opE zA zC (zO 69 (.pointer x3) 0) w (λx35 w=>opE zA Sl.v (zD 67 (.pointer x35)) w (λx36 w=>Cl zA 57 [(Sl.v x36),(.func (.func 66) [].toArray [(.pointer x5)].toArray)].toArray w (λe w=>∃ (r_3:Bool),e=.returned (.bool r_3)/\(zC6 x1 Ret x3 x5 x6 x8 r_3 w)))))))))))
def zC8 (x1:Sl) (Ret:zP->Int->World->Prop) (x3:Option Addr) (x5:Option Addr) (x6:Option Addr) (x8:Int) (w:World):Prop:=
 ((x8≠0)->(zBL x1 Ret x3 x5 x6 x8 w))/\(¬ (x8≠0)->(opE zA (zV .u64) (zD 37 (.pointer x5)) w (λx23 w=>((x23<1)->(zC5 x1 Ret x3 x5 x6 x8 true w))/\(¬ (x23<1)->(opE zA (zV .u64) (zD 37 (.pointer x5)) w (λx26 w=>zC5 x1 Ret x3 x5 x6 x8 (decide (2305843009213693952<x26)) w))))))
def zIP (x0:zP) (x1:Sl) (x2:Int) (w:World) (Ret:zP->Int->World->Prop):Prop:=
 opE zA zC (Instr.box 69 (zP.v x0)) w (λx3 w=>opE zA zC (Instr.box 37 (.int .u64 x2)) w (λx5 w=>opE zA zC (zk 69 true (.tuple #[])) w (λx6 w=>opE zA zP.v (zD 69 (.pointer x3)) w (λx13 w=>Cl zA 64 [(zP.v x13)].toArray w (λe w=>∃ (r:Int),e=.returned (.int .i64 r)/\(((r=0)->(Cl zA 65 [(Sl.v x1)].toArray w (λe w=>∃ (r_4:Int),e=.returned (.int .i64 r_4)/\(zC8 x1 Ret x3 x5 x6 r_4 w))))/\(¬ (r=0)->(zC8 x1 Ret x3 x5 x6 r w))))))))
set_option maxRecDepth 100000 in
theorem zLq (x0:zP) (x1:Sl) (x2:Int) (w:World) (Ret:zP->Int->World->Prop) (H:zIP x0 x1 x2 w Ret):Cl zA 40 [(zP.v x0),(Sl.v x1),(.int .u64 x2)].toArray w (λe w'=>∃ (r0:zP) (r1:Int),e=.returned (.tuple [(zP.v r0),(.int .i64 r1)].toArray)/\Ret r0 r1 w'):=by
 unfold zIP at H
 refine zl 86 (zipE 0 [(zP.v x0),(Sl.v x1),(.int .u64 x2)]) Tryz.func40 rfl rfl (by rfl) rfl ?_
 intro a g
 replace g:Sat [] 86 [(0,(zP.v x0)),(1,(Sl.v x1)),(2,(.int .u64 x2))] a:=g
 refine zJ (zE (g.op (zBa g rfl) H λx3 w a H g=>g.op (zBa g rfl) H λx5 w a H g=>g.op (YW) H λx6 w a H g=>g.as_ rfl λ_ g=>zM (tn (zJ (zE (g.op (zN g rfl) H λx13 w a H g=>g.call (zZ g zOy rfl rfl) H λe w H=>?_))))))
 obtain ⟨r,rfl,H⟩:=H
 refine ⟨_,rfl,λ_ g=>(g.as_ rfl λ_ g=>zM (tn (zz (ds:=[]) (N:=86) (σ:=Int) (λs=>[(8,(.int .i64 s)),(1,(Sl.v x1)),(3,(.pointer x3)),(5,(.pointer x5)),(6,(.pointer x6))]) (λs w=>zC8 x1 Ret x3 x5 x6 s w) ?_ (λhj1=>?_))))⟩
 ·intro x8 w a H g
  try dsimp only at H g
  unfold zC8 at H
  refine zz (ds:=[]) (N:=86) (σ:=Int) (λs=>[(8,(.int .i64 s)),(1,(Sl.v x1)),(3,(.pointer x3)),(5,(.pointer x5)),(6,(.pointer x6))]) (λs w=>zBL x1 Ret x3 x5 x6 s w) ?_ (λhj2=>?_)
  ·intro x8_1 w a H g
   try dsimp only at H g
   unfold zBL at H
   refine zJ (zJ (zE (g.mv rfl λ_ g=>g.pur (zFL g rfl rfl) λ_ g=>zM (tn (zb g rfl (λhc=>?_) (λhc=>?_))))))
   ·replace H:=H.1 hc
    refine zJ (zE (g.op (zAg g rfl) H λx50 w a H g=>g.mv rfl λ_ g=>g.opu (zT g rfl rfl) H λw a H g=>g.as_ rfl λ_ g=>zM (tn ?_)))
    obtain ⟨q,ad,hp,hl,H⟩:=H
    exact zg (tr (zLF g (rs:=[.cell 6 69,.tmp 7]) (vs:=[(zP.v q),(.int .i64 x8_1)]) rfl ⟨⟨ad,by rw [← hp];rfl,hl⟩,rfl,trivial⟩ ⟨_,_,rfl,H⟩))
   ·replace H:=H.2 hc
    refine zX (tn (zz (ds:=[]) (N:=86) (σ:=(Option Addr)) (λs=>[(9,(.pointer s)),(1,(Sl.v x1)),(5,(.pointer x5)),(6,(.pointer x6))]) (λs w=>zC4 x1 Ret x5 x6 s w) ?_ (λhj3=>?_)))
    ·intro x9 w a H g
     try dsimp only at H g
     unfold zC4 at H
     refine zJ (zJ (zE (g.mv rfl λ_ g=>g.purR (λw=>ZQ g Tryz.underlying30 rfl) λ_ g=>g.mv rfl λ_ g=>zM (tn (zW ?_)))))
     obtain ⟨I_l4,μ_l4,h0,hb⟩:=H
     refine yD (ds:=[]) (N:=86) (σ:=Int) (λs=>[(60,(.int .i64 s)),(5,(.pointer x5)),(6,(.pointer x6)),(9,(.pointer x9)),(58,(Sl.v x1)),(59,(.int .i64 (x1.len:Int)))]) (λs w=>I_l4 s w) (λs w=>μ_l4 s w) 0 h0 (g.wk) ?_
     intro x60 w a hI g
     try dsimp only at hI g
     obtain ⟨Kl4,hK_l4⟩:∃ K:Int->World->Prop,K=(λx60' w'=>I_l4 x60' w'/\μ_l4 x60' w'<μ_l4 x60 w):=⟨_,rfl⟩
     have H:zE8 x1 Ret x5 x6 x9 x60 w Kl4:=by rw [hK_l4];exact hb x60 w hI
     clear hb h0 hI
     unfold zE8 at H
     refine zJ (zE (g.pur (yS g rfl rfl) λ_ g=>zM (tn (zJ (zb g rfl (λhc=>?_) (λhc=>?_))))))
     ·replace H:=H.1 hc
      refine zX (tn (zJ (zW (zJ (zE (g.op (zH g rfl rfl) H λx62 w a H g=>g.op (zN g rfl) H λx63 w a H g=>g.op (YW) H λx11 w a H g=>g.opu (zT g rfl rfl) H λw a H g=>zM (tn (zJ (zE (g.op (zS g rfl) H λx64 w a H g=>g.op (zN g rfl) H λx65 w a H g=>g.op (zN g rfl) H λx66 w a H g=>g.op (zS g rfl) H λx67 w a H g=>g.op (zN g rfl) H λx68 w a H g=>g.op (zS g rfl) H λx69 w a H g=>g.op (zN g rfl) H λx70 w a H g=>g.op (zAg g rfl) H λx71 w a H g=>g.op (YW) H λx12 w a H g=>g.opu (zT g rfl rfl) H λw a H g=>zM (tn (zz (ds:=[]) (N:=86) (σ:=Unit) (λs=>[(5,(.pointer x5)),(6,(.pointer x6)),(9,(.pointer x9)),(12,(.pointer x12)),(58,(Sl.v x1)),(59,(.int .i64 (x1.len:Int))),(60,(.int .i64 x60))]) (λs w=>zC7 x9 x60 Kl4 x12 w) ?_ (λhj5=>?_)))))))))))))
      ·rintro ⟨⟩ w a H g
       try dsimp only at H g
       unfold zC7 at H
       refine zE (g.op (zS g rfl) H λx75 w a H g=>g.op (zN g rfl) H λx76 w a H g=>g.op (zN g rfl) H λx77 w a H g=>g.op (Qz g rfl) H λx78 w a H g=>g.op (zBE g rfl) H λx79 w a H g=>g.op (zS g rfl) H λx80 w a H g=>g.opu (zT g rfl rfl) H λw a H g=>zM (bn (tn (zE (g.pur (zm g rfl rfl) λ_ g=>g.mv rfl λ_ g=>?_)))))
       rw [hK_l4] at H
       exact zM (tn ⟨(zB .i64 (x60+1)),g.wk,H⟩)
      ·refine zJ (zE (g.op (zS g rfl) H λx72 w a H g=>g.op (zN g rfl) H λx73 w a H g=>zM (tn (zd g rfl (λhc=>?_) (λhc=>?_)))))
       ·replace H:=H.1 hc
        exact zE (g.op (zS g rfl) H λx74 w a H g=>g.opu (zT g rfl rfl) H λw a H g=>zM (tn (hj5 () _ _ H (g.wk))))
       ·replace H:=H.2 hc
        exact zX (tn (hj5 () _ _ H (g.wk)))
     ·replace H:=H.2 hc
      refine z5 (te (te (be (tn (zJ (zE (g.op (zS g rfl) H λx82 w a H g=>g.op (zN g rfl) H λx83 w a H g=>g.call (zZ g zRI rfl rfl) H λe w H=>?_)))))))
      obtain ⟨rfl,H⟩:=H
      refine ⟨_,rfl,λ_ g=>(zM (tn (zJ (zE (g.op (zN g rfl) H λx85 w a H g=>g.opu (zT g rfl rfl) H λw a H g=>g.as_ rfl λ_ g=>zM (tn ?_))))))⟩
      obtain ⟨q_1,ad_1,hp_1,hl_1,H⟩:=H
      exact zg (zLF g (rs:=[.cell 6 69,.tmp 7]) (vs:=[(zP.v q_1),(.int .i64 0)]) rfl ⟨⟨ad_1,by rw [← hp_1];rfl,hl_1⟩,rfl,trivial⟩ ⟨_,_,rfl,H⟩)
    ·refine zNw H 8 λC6 w hC0 H=>g.ko 0 rfl hC0 (zS g rfl) H λx52 a H g=>g.ko 3 rfl hC0 (zS g rfl) H λx55 a H g=>g.ko 1 rfl hC0 (zN g rfl) H λx53 a H g=>g.ko 4 rfl hC0 (zN g rfl) H λx56 a H g=>WK.tw 2 6 rfl rfl ?_ ?_
     ·replace H:=H.1
      intro K hK
      refine g.wcall (zZ g zP6 rfl rfl) H λe w H=>?_
      obtain ⟨r_1,rfl,H⟩:=H
      refine ⟨_,rfl,λ_ g=>(hK _ _ ⟨H.1,?_⟩)⟩
      have hC1:=H.1
      replace H:=H.2
      refine g.ko 5 rfl hC1 (zAg g rfl) H λx57 a H g=>WK.on 6 rfl ?_
      intro K hK
      refine g.wop (YW) H λx9_1 w a H g=>hK _ _ ⟨H.1,?_⟩
      have hC2:=H.1
      replace H:=H.2
      refine WK.on 7 rfl ?_
      intro K hK
      refine g.wopu (zT g rfl rfl) H λw a H g=>hK _ _ ⟨H.1,?_⟩
      have hC3:=H.1
      replace H:=H.2
      exact WK.nil (by kernel_rfl) ((tn (hj3 x9_1 _ _ H (g.wk))))
     ·replace H:=H.2
      intro K hK
      refine g.wop (YW) H λx9_2 w a H g=>hK _ _ ⟨H.1,?_⟩
      have hC1:=H.1
      replace H:=H.2
      refine WK.on 2 rfl ?_
      intro K hK
      refine g.wcall (zZ g zP6 rfl rfl) H λe w H=>?_
      obtain ⟨r_2,rfl,H⟩:=H
      refine ⟨_,rfl,λ_ g=>(hK _ _ ⟨H.1,?_⟩)⟩
      have hC2:=H.1
      replace H:=H.2
      refine g.ko 5 rfl hC2 (zAg g rfl) H λx57_1 a H g=>WK.on 7 rfl ?_
      intro K hK
      refine g.wopu (zT g rfl rfl) H λw a H g=>hK _ _ ⟨H.1,?_⟩
      have hC3:=H.1
      replace H:=H.2
      exact WK.nil (by kernel_rfl) ((tn (hj3 x9_2 _ _ H (g.wk))))
  ·refine zW (zJ (zE (g.mv rfl λ_ g=>g.pur (zFL g rfl rfl) λ_ g=>g.as_ rfl λ_ g=>zM (tn (zb g rfl (λhc=>?_) (λhc=>?_))))))
   ·replace H:=H.1 hc
    exact zX (bn (tn (hj2 x8 _ _ H (g.wk))))
   ·replace H:=H.2 hc
    refine zJ (zE (g.op (zN g rfl) H λx23 w a H g=>g.pur (yS g rfl rfl) λ_ g=>g.mv rfl λ_ g=>WL.join (ds:=[]) (N:=86) (σ:=Bool) (λs=>[(28,(.bool s)),(1,(Sl.v x1)),(3,(.pointer x3)),(5,(.pointer x5)),(6,(.pointer x6)),(8,(.int .i64 x8))]) (λs w=>zC5 x1 Ret x3 x5 x6 x8 s w) 3 ?_ (λhr7=>?_)))
    ·intro x28 w a H g
     try dsimp only at H g
     unfold zC5 at H
     refine g.as_ rfl λ_ g=>zM (tn (zd g rfl (λhc=>?_) (λhc=>?_)))
     ·replace H:=H.1 hc
      exact zE (g.as_ rfl λ_ g=>zM (bn (tn (hj2 2 _ _ H (g.wk)))))
     ·replace H:=H.2 hc
      refine zJ (zE (g.op (zN g rfl) H λx30 w a H g=>g.op (zS g rfl) H λx31 w a H g=>g.op (zN g rfl) H λx32 w a H g=>g.pur (yS g rfl rfl) λ_ g=>g.mv rfl λ_ g=>WL.join (ds:=[]) (N:=86) (σ:=Bool) (λs=>[(39,(.bool s)),(1,(Sl.v x1)),(3,(.pointer x3)),(5,(.pointer x5)),(6,(.pointer x6)),(8,(.int .i64 x8))]) (λs w=>zC6 x1 Ret x3 x5 x6 x8 s w) 5 ?_ (λhr8=>?_)))
      ·intro x39 w a H g
       try dsimp only at H g
       unfold zC6 at H
       refine g.as_ rfl λ_ g=>zM (tn (zd g rfl (λhc=>?_) (λhc=>?_)))
       ·replace H:=H.1 hc
        exact zE (g.as_ rfl λ_ g=>zM (bn (tn (hj2 9 _ _ H (g.wk)))))
       ·replace H:=H.2 hc
        refine zJ (zE (g.op (zS g rfl) H λx41 w a H g=>g.op (zN g rfl) H λx42 w a H g=>g.purR (λw=>ZQ g Tryz.underlying67 rfl) λ_ g=>g.mv rfl λ_ g=>g.purR (λw=>ZQ g Tryz.underlying30 rfl) λ_ g=>g.pur (zm g rfl rfl) λ_ g=>g.pur (zBC g rfl rfl) λ_ g=>g.as_ rfl λ_ g=>zM (tn (zb g rfl (λhc=>?_) (λhc=>?_)))))
        ·replace H:=H.1 hc
         exact zE (g.as_ rfl λ_ g=>zM (bn (tn (hj2 3 _ _ H (g.wk)))))
        ·replace H:=H.2 hc
         exact zX (bn (tn (hj2 x8 _ _ H (g.wk))))
      ·rcases Classical.em ((x30<x32)) with hbr8|hbr8
       ·replace H:=H.1 hbr8
        replace g:=g.bool (b:=true) (t:=34) rfl (decide_eq_true hbr8)
        exact g.off (by rfl) (by rfl) (by decide) (λ_ g=>g.off (by rfl) (by rfl) (by decide) (λ_ g=>g.off (by rfl) (by rfl) (by decide) (λ_ g=>g.off (by rfl) (by rfl) (by decide) (λ_ g=>g.pur (zu g rfl rfl) λ_ g=>hr8 true _ _ H (g.wk)))))
       ·replace H:=H.2 hbr8
        replace g:=g.bool (b:=false) (t:=34) rfl (decide_eq_false hbr8)
        refine g.on (by rfl) (by rfl) (g.op (zS g rfl) H λx35 w a H g=>g.on (by rfl) (by rfl) (g.op (zN g rfl) H λx36 w a H g=>g.on (by rfl) (by rfl) (g.pur (zFR g rfl rfl) λ_ g=>g.on (by rfl) (by rfl) (g.call (zZ g zQD rfl rfl) H λe w H=>?_))))
        obtain ⟨r_3,rfl,H⟩:=H
        exact ⟨_,rfl,λ_ g=>(g.pur (zv g rfl rfl) λ_ g=>hr8 r_3 _ _ H (g.wk))⟩
    ·rcases Classical.em ((x23<1)) with hbr7|hbr7
     ·replace H:=H.1 hbr7
      replace g:=g.bool (b:=true) (t:=25) rfl (decide_eq_true hbr7)
      exact g.off (by rfl) (by rfl) (by decide) (λ_ g=>g.off (by rfl) (by rfl) (by decide) (λ_ g=>g.pur (zu g rfl rfl) λ_ g=>hr7 true _ _ H (g.wk)))
     ·replace H:=H.2 hbr7
      replace g:=g.bool (b:=false) (t:=25) rfl (decide_eq_false hbr7)
      exact g.on (by rfl) (by rfl) (g.op (zN g rfl) H λx26 w a H g=>g.on (by rfl) (by rfl) (g.pur (zBC g rfl rfl) λ_ g=>g.pur (zv g rfl rfl) λ_ g=>hr7 (decide (2305843009213693952<x26)) _ _ H (g.wk)))
 ·refine zJ (zE (g.mv rfl λ_ g=>g.pur (zBF g rfl rfl) λ_ g=>zM (tn (zb g rfl (λhc=>?_) (λhc=>?_)))))
  ·replace H:=H.1 hc
   refine zE (g.mv rfl λ_ g=>g.call (zZ g zRP rfl rfl) H λe w H=>?_)
   obtain ⟨r_4,rfl,H⟩:=H
   exact ⟨_,rfl,λ_ g=>(g.as_ rfl λ_ g=>zM (tn (hj1 r_4 _ _ H (g.wk))))⟩
  ·replace H:=H.2 hc
   exact zX (tn (hj1 r _ _ H (g.wk)))
def zDq (x11:Option Addr) (x25:ByteArray) (Gf1:World->Prop) (x14:Option Addr) (x51:Bool) (w:World):Prop:=
 (x51=true->(opE zA Sl.v (zD 22 (.pointer x11)) w (λx52 w=>opE zA zC (zO 72 (.pointer x14) 2) w (λx54 w=>opE zA zY (zD 9 (.pointer x54)) w (λx55 w=>opE zA zL.v (QC 66 [(0,(.string x25)),(1,(.string x55))].toArray) w (λx56 w=>opE zA Sl.v (zc 22 1 [(0,(zL.v x56))].toArray) w (λx57 w=>opE zA Sl.v (Builtin.append_ #[22,22] 22 [(Sl.v x52),(Sl.v x57)].toArray) w (λx58 w=>opU zA (zK 22 (.pointer x11) (Sl.v x58)) w (λw=>Gf1 w)))))))))/\(x51=false->(Gf1 w))
def zCP (x7:Option Addr) (x11:Option Addr) (x25:ByteArray) (x26:Sl) (Gf1:World->Prop) (x38:Bool) (w:World):Prop:=
 (x38=true->(Gf1 w))/\(x38=false->(opE zA (zV .u64) (zD 37 (.pointer x7)) w (λx42 w=>Cl zA 71 [(Sl.v x26),(.string x25),(.int .u64 x42)].toArray w (λe w=>∃ (r_2:zG) (r_3:Bool),e=.returned (.tuple [(zG.v r_2),(.bool r_3)].toArray)/\(opE zA zC (zk 72 true (.tuple #[])) w (λx14 w=>opU zA (zK 72 (.pointer x14) (zG.v r_2)) w (λw=>(r_3=true->(opE zA zC (zO 72 (.pointer x14) 3) w (λx48 w=>opE zA Qq (zD 4 (.pointer x48)) w (λx49 w=>zDq x11 x25 Gf1 x14 (!x49) w))))/\(r_3=false->(zDq x11 x25 Gf1 x14 false w)))))))))
def zDk (x7:Option Addr) (x11:Option Addr) (x25:ByteArray) (x26:Sl) (Gf1:World->Prop) (x37:Bool) (w:World):Prop:=
 zCP x7 x11 x25 x26 Gf1 x37 w
def zFm (x5:Option Addr) (x6:Option Addr) (x7:Option Addr) (x11:Option Addr) (x25:ByteArray) (x26:Sl) (w:World) (Gf1:World->Prop) (Lf1:World->Prop):Prop:=
 opE zA zY (zD 9 (.pointer x5)) w (λx28 w=>((sLt x25 x28)=true->(zCP x7 x11 x25 x26 Gf1 true w))/\((sLt x25 x28)=false->(opE zA zY (zD 9 (.pointer x6)) w (λx31 w=>((x31≠(ByteArray.mk #[]))->(opE zA zY (zD 9 (.pointer x6)) w (λx35 w=>zDk x7 x11 x25 x26 Gf1 (!sLt x25 x35) w)))/\(¬ (x31≠(ByteArray.mk #[]))->(zDk x7 x11 x25 x26 Gf1 false w))))))
def zHi (x0:zP) (x1:ByteArray) (x2:ByteArray) (x3:Int) (w:World) (Ret:Sl->Int->World->Prop):Prop:=
 opE zA zC (Instr.box 69 (zP.v x0)) w (λx4 w=>opE zA zC (Instr.box 9 (.string x1)) w (λx5 w=>opE zA zC (Instr.box 9 (.string x2)) w (λx6 w=>opE zA zC (Instr.box 37 (.int .u64 x3)) w (λx7 w=>opE zA zP.v (zD 69 (.pointer x4)) w (λx16 w=>opE zA (zV .u64) (zD 37 (.pointer x7)) w (λx17 w=>Cl zA 69 [(zP.v x16),(.int .u64 x17)].toArray w (λe w=>∃ (r:Int),e=.returned (.int .i64 r)/\(((r≠0)->(Ret Sl.none r w))/\(¬ (r≠0)->(opE zA zC (zk 22 true (.tuple #[])) w (λx11 w=>opE zA zC (zO 69 (.pointer x4) 0) w (λx22 w=>opE zA Sl.v (zD 67 (.pointer x22)) w (λx23 w=>Cl zA 70 [(Sl.v x23)].toArray w (λe w=>∃ (r_1:Value),e=.returned r_1/\(zM2 zA r_1 zY Sl.v w (zFm x5 x6 x7 x11) (λD w=>opE zA Sl.v (zD 22 (.pointer x11)) w (λx59 w=>zMm D w (λw=>Ret x59 0 w))) (λD w=>True))))))))))))))))
set_option maxRecDepth 100000 in
theorem zKx (x0:zP) (x1:ByteArray) (x2:ByteArray) (x3:Int) (w:World) (Ret:Sl->Int->World->Prop) (H:zHi x0 x1 x2 x3 w Ret):Cl zA 42 [(zP.v x0),(.string x1),(.string x2),(.int .u64 x3)].toArray w (λe w'=>∃ (r0:Sl) (r1:Int),e=.returned (.tuple [(Sl.v r0),(.int .i64 r1)].toArray)/\Ret r0 r1 w'):=by
 unfold zHi at H
 refine zIZ 60 (zipE 0 [(zP.v x0),(.string x1),(.string x2),(.int .u64 x3)]) Tryz.func42 rfl rfl (by rfl) rfl ?_
 intro a g
 replace g:Sat [] 60 [(0,(zP.v x0)),(1,(.string x1)),(2,(.string x2)),(3,(.int .u64 x3))] a:=g
 refine zJ (zE (g.op (zBa g rfl) H λx4 w a H g=>g.op (zBa g rfl) H λx5 w a H g=>g.op (zBa g rfl) H λx6 w a H g=>g.op (zBa g rfl) H λx7 w a H g=>g.as_ rfl λ_ g=>g.as_ rfl λ_ g=>zM (tn (zJ (zJ (zE (g.op (zN g rfl) H λx16 w a H g=>g.op (zN g rfl) H λx17 w a H g=>g.call (zZ g zQC rfl rfl) H λe w H=>?_)))))))
 obtain ⟨r,rfl,H⟩:=H
 refine ⟨_,rfl,λ_ g=>(g.as_ rfl λ_ g=>zM (tn (zJ (zE (g.mv rfl λ_ g=>g.pur (zFL g rfl rfl) λ_ g=>zM (tn (zb g rfl (λhc=>?_) (λhc=>?_))))))))⟩
 ·replace H:=H.1 hc
  exact zJ (zE (g.mv rfl λ_ g=>g.as_ rfl λ_ g=>g.as_ rfl λ_ g=>zM (tn (zg (tr (zIi g (rs:=[.tmp 8,.tmp 9]) (vs:=[(Sl.v Sl.none),(.int .i64 r)]) rfl ⟨rfl,rfl,trivial⟩ ⟨_,_,rfl,H⟩))))))
 ·replace H:=H.2 hc
  refine zX (tn (zJ (zE (g.op (YW) H λx11 w a H g=>zM (tn (zJ (zJ (zE (g.op (zS g rfl) H λx22 w a H g=>g.op (zN g rfl) H λx23 w a H g=>g.call (zZ g zQA rfl rfl) H λe w H=>?_)))))))))
  obtain ⟨r_1,rfl,H⟩:=H
  refine ⟨_,rfl,λ_ g=>(zM (tn (zW ?_)))⟩
  obtain ⟨α,f,f',Kp,S,Sp,Num,I,Ir,hR,hnew,hbd,hdn,hst⟩:=H
  refine zKS f f' zY Sl.v none g rfl hR hnew (by rfl) (by rfl) (by rfl) (by rfl) (by rfl) (by rfl) ?_ ?_ ?_
  ·intro l pre z w a h3 h4 g
   have H:=hbd pre z w h3 h4
   generalize (λ(W':World)=>KeepsFrom _ w W'/\Kp w W'/\I (pre++[z]) W')=Gf1 at H ⊢
   generalize (λ(W':World)=>KeepsFrom _ w W'/\Ir (pre++[z]) W')=Lf1 at H ⊢
   generalize f z=x25 at H g
   generalize f' z=x26 at H g
   unfold zFm at H
   refine zW (zJ (zJ (zE (g.mv rfl λ_ g=>g.op (zN g rfl) H λx28 w a H g=>g.pur (zOc g rfl rfl) λ_ g=>g.mv rfl λ_ g=>WL.join (ds:=[]) (N:=60) (σ:=Bool) (λs=>[(38,(.bool s)),(7,(.pointer x7)),(11,(.pointer x11)),(12,(.string x25)),(13,(Sl.v x26))]) (λs w=>zCP x7 x11 x25 x26 Gf1 s w) 8 ?_ (λhr2=>?_)))))
   ·intro x38 w a H g
    try dsimp only at H g
    unfold zCP at H
    refine zM (tn (zd g rfl (λhc=>?_) (λhc=>?_)))
    ·replace H:=H.1 hc
     exact z5 (te (be H))
    ·replace H:=H.2 hc
     refine zX (tn (zJ (zE (g.mv rfl λ_ g=>g.mv rfl λ_ g=>g.op (zN g rfl) H λx42 w a H g=>g.call (zZ g zOO rfl rfl) H λe w H=>?_))))
     obtain ⟨r_2,r_3,rfl,H⟩:=H
     refine ⟨_,rfl,λ_ g=>(g.mv rfl λ_ g=>g.pur (za g rfl rfl) λ_ g=>g.pur (za g rfl rfl) λ_ g=>g.op (YW) H λx14 w a H g=>g.opu (zT g rfl rfl) H λw a H g=>g.as_ rfl λ_ g=>zM (tn (zJ (zE (g.mv rfl λ_ g=>g.mv rfl λ_ g=>WL.join (ds:=[]) (N:=60) (σ:=Bool) (λs=>[(51,(.bool s)),(11,(.pointer x11)),(12,(.string x25)),(14,(.pointer x14))]) (λs w=>zDq x11 x25 Gf1 x14 s w) 4 ?_ (λhr3=>?_))))))⟩
     ·intro x51 w a H g
      try dsimp only at H g
      unfold zDq at H
      refine zM (tn (zd g rfl (λhc=>?_) (λhc=>?_)))
      ·replace H:=H.1 hc
       exact zE (g.op (zN g rfl) H λx52 w a H g=>g.mv rfl λ_ g=>g.op (zS g rfl) H λx54 w a H g=>g.op (zN g rfl) H λx55 w a H g=>g.op (zAg g rfl) H λx56 w a H g=>g.op (Qz g rfl) H λx57 w a H g=>g.op (zBE g rfl) H λx58 w a H g=>g.opu (zT g rfl rfl) H λw a H g=>zM (bn H))
      ·replace H:=H.2 hc
       exact zX (bn H)
     ·rcases Bool.eq_false_or_eq_true (r_3) with hbr3|hbr3
      ·replace H:=H.1 hbr3
       replace g:=g.bool (b:=true) (t:=47) rfl (hbr3)
       exact g.on (by rfl) (by rfl) (g.op (zS g rfl) H λx48 w a H g=>g.on (by rfl) (by rfl) (g.op (zN g rfl) H λx49 w a H g=>g.on (by rfl) (by rfl) (g.pur (zAD g rfl) λ_ g=>g.pur (zu g rfl rfl) λ_ g=>hr3 (!x49) _ _ H (g.wk))))
      ·replace H:=H.2 hbr3
       replace g:=g.bool (b:=false) (t:=47) rfl (hbr3)
       exact g.off (by rfl) (by rfl) (by decide) (λ_ g=>g.off (by rfl) (by rfl) (by decide) (λ_ g=>g.off (by rfl) (by rfl) (by decide) (λ_ g=>g.pur (zv g rfl rfl) λ_ g=>hr3 false _ _ H (g.wk))))
   ·rcases Bool.eq_false_or_eq_true ((sLt x25 x28)) with hbr2|hbr2
    ·replace H:=H.1 hbr2
     replace g:=g.bool (b:=true) (t:=30) rfl (hbr2)
     exact g.off (by rfl) (by rfl) (by decide) (λ_ g=>g.off (by rfl) (by rfl) (by decide) (λ_ g=>g.off (by rfl) (by rfl) (by decide) (λ_ g=>g.offU (by rfl) (by rfl) (λ_ g=>g.offU (by rfl) (by rfl) (λ_ g=>g.offU (by rfl) (by rfl) (λ_ g=>g.off (by rfl) (by rfl) (by decide) (λ_ g=>g.pur (zu g rfl rfl) λ_ g=>hr2 true _ _ H (g.wk))))))))
    ·replace H:=H.2 hbr2
     replace g:=g.bool (b:=false) (t:=30) rfl (hbr2)
     refine g.on (by rfl) (by rfl) (g.op (zN g rfl) H λx31 w a H g=>g.on (by rfl) (by rfl) (g.pur (zNL g rfl rfl) λ_ g=>g.on (by rfl) (by rfl) (g.mv rfl λ_ g=>WL.join (ds:=[]) (N:=60) (σ:=Bool) (λs=>[(37,(.bool s)),(7,(.pointer x7)),(11,(.pointer x11)),(12,(.string x25)),(13,(Sl.v x26)),(30,(.bool false))]) (λs w=>zDk x7 x11 x25 x26 Gf1 s w) 4 ?_ (λhr4=>?_))))
     ·intro x37 w a H g
      try dsimp only at H g
      unfold zDk at H
      exact g.pur (zv g rfl rfl) λ_ g=>hr2 x37 _ _ H (g.wk)
     ·rcases Classical.em ((x31≠(ByteArray.mk #[]))) with hbr4|hbr4
      ·replace H:=H.1 hbr4
       replace g:=g.bool (b:=true) (t:=33) rfl (decide_eq_true hbr4)
       exact g.on (by rfl) (by rfl) (g.mv rfl λ_ g=>g.on (by rfl) (by rfl) (g.op (zN g rfl) H λx35 w a H g=>g.on (by rfl) (by rfl) (g.pur (zMv g rfl rfl) λ_ g=>g.on (by rfl) (by rfl) (g.pur (zu g rfl rfl) λ_ g=>hr4 (!sLt x25 x35) _ _ H (g.wk)))))
      ·replace H:=H.2 hbr4
       replace g:=g.bool (b:=false) (t:=33) rfl (decide_eq_false hbr4)
       exact g.off (by rfl) (by rfl) (by decide) (λ_ g=>g.off (by rfl) (by rfl) (by decide) (λ_ g=>g.off (by rfl) (by rfl) (by decide) (λ_ g=>g.on (by rfl) (by rfl) (g.pur (zv g rfl rfl) λ_ g=>hr4 false _ _ H (g.wk)))))
  ·intro D xs w a h1 h2 h3 hD g
   have H:=hdn D xs w h1 h2 h3 hD
   clear hbd hdn hst hnew
   try dsimp only at H
   refine (bn (tn (zJ (zE (g.op (zN g rfl) H λx59 w a H g=>g.as_ rfl λ_ g=>g.as_ rfl λ_ g=>zM (tn ?_))))))
   obtain ⟨hD0,H⟩:=H
   try dsimp only at H
   exact zg (zK3 g (rs:=[.tmp 8,.tmp 9]) (vs:=[(Sl.v x59),(.int .i64 0)]) rfl hD0 ⟨rfl,rfl,trivial⟩ ⟨_,_,rfl,H⟩)
  ·intro D c pre w a hj h1 h2 h3 hD g
   cases hj
def zDo (x0:ByteArray) (x1:ByteArray) (w:World) (Ret:Int->World->Prop):Prop:=
 Cl zA 74 [(.string x0)].toArray w (λe w=>∃ (r:Bool),e=.returned (.bool r)/\(Cl zA 74 [(.string x1)].toArray w (λe w=>∃ (r_1:Bool),e=.returned (.bool r_1)/\((r=true->((r_1=true->(Ret 0 w))/\(r_1=false->(Ret (-1) w))))/\(r=false->((r_1=true->(Ret 1 w))/\(r_1=false->(((sLt x0 x1)=true->(Ret (-1) w))/\((sLt x0 x1)=false->(((!(sLt x0 x1||decide (x0=x1)))=true->(Ret 1 w))/\((!(sLt x0 x1||decide (x0=x1)))=false->(Ret 0 w))))))))))))
set_option maxRecDepth 100000 in
theorem zHI (x0:ByteArray) (x1:ByteArray) (w:World) (Ret:Int->World->Prop) (H:zDo x0 x1 w Ret):Cl zA 48 [(.string x0),(.string x1)].toArray w (λe w'=>∃ (r0:Int),e=.returned (.int .i64 r0)/\Ret r0 w'):=by
 unfold zDo at H
 refine zl 20 (zipE 0 [(.string x0),(.string x1)]) Tryz.func48 rfl rfl (by rfl) rfl ?_
 intro a g
 replace g:Sat [] 20 [(0,(.string x0)),(1,(.string x1))] a:=g
 refine zJ (zE (g.as_ rfl λ_ g=>zM (tn (zJ (zE (g.mv rfl λ_ g=>g.call (zZ g zPy rfl rfl) H λe w H=>?_))))))
 obtain ⟨r,rfl,H⟩:=H
 refine ⟨_,rfl,λ_ g=>(g.as_ rfl λ_ g=>zM (tn (zJ (zE (g.mv rfl λ_ g=>g.call (zZ g zPy rfl rfl) H λe w H=>?_)))))⟩
 obtain ⟨r_1,rfl,H⟩:=H
 refine ⟨_,rfl,λ_ g=>(g.as_ rfl λ_ g=>zM (tn (zJ (zJ (zE (g.mv rfl λ_ g=>zM (tn (zd g rfl (λhc=>?_) (λhc=>?_)))))))))⟩
 ·replace H:=H.1 hc
  refine zJ (zJ (zE (g.mv rfl λ_ g=>zM (tn (zd g rfl (λhc=>?_) (λhc=>?_))))))
  ·replace H:=H.1 hc
   exact zJ (zE (g.as_ rfl λ_ g=>zM (tn (zg (tr (tr (zt g rfl rfl ⟨_,rfl,H⟩)))))))
  ·replace H:=H.2 hc
   exact zX (tn (zJ (zE (g.as_ rfl λ_ g=>zM (tn (zg (tr (zt g rfl rfl ⟨_,rfl,H⟩))))))))
 ·replace H:=H.2 hc
  refine zX (tn (zJ (zJ (zE (g.mv rfl λ_ g=>zM (tn (zd g rfl (λhc=>?_) (λhc=>?_))))))))
  ·replace H:=H.1 hc
   exact zJ (zE (g.as_ rfl λ_ g=>zM (tn (zg (tr (zt g rfl rfl ⟨_,rfl,H⟩))))))
  ·replace H:=H.2 hc
   refine zX (tn (zJ (zJ (zE (g.mv rfl λ_ g=>g.mv rfl λ_ g=>g.pur (zOc g rfl rfl) λ_ g=>zM (tn (zd g rfl (λhc=>?_) (λhc=>?_))))))))
   ·replace H:=H.1 hc
    exact zJ (zE (g.as_ rfl λ_ g=>zM (tn (zg (tr (zt g rfl rfl ⟨_,rfl,H⟩))))))
   ·replace H:=H.2 hc
    refine zX (tn (zJ (zJ (zE (g.mv rfl λ_ g=>g.mv rfl λ_ g=>g.pur (zRO g rfl rfl) λ_ g=>zM (tn (zd g rfl (λhc=>?_) (λhc=>?_))))))))
    ·replace H:=H.1 hc
     exact zJ (zE (g.as_ rfl λ_ g=>zM (tn (zg (tr (zt g rfl rfl ⟨_,rfl,H⟩))))))
    ·replace H:=H.2 hc
     exact zX (tn (zJ (zE (g.as_ rfl λ_ g=>zM (tn (zg (zt g rfl rfl ⟨_,rfl,H⟩)))))))
def zFc (Ret:ByteArray->Bool->Int->World->Prop) (x27:ByteArray) (x33:Bool) (w:World):Prop:=
 yG w (λw=>Ret x27 x33 0 w)
def zIK (x0:zP) (x1:ByteArray) (x2:Int) (w:World) (Ret:ByteArray->Bool->Int->World->Prop):Prop:=
 opE zA zC (Instr.box 69 (zP.v x0)) w (λx3 w=>opE zA zP.v (zD 69 (.pointer x3)) w (λx12 w=>Cl zA 69 [(zP.v x12),(.int .u64 x2)].toArray w (λe w=>∃ (r:Int),e=.returned (.int .i64 r)/\(((r≠0)->(Ret (ByteArray.mk #[]) false r w))/\(¬ (r≠0)->(opE zA zC (zO 69 (.pointer x3) 0) w (λx19 w=>opE zA Sl.v (zD 67 (.pointer x19)) w (λx20 w=>Cl zA 71 [(Sl.v x20),(.string x1),(.int .u64 x2)].toArray w (λe w=>∃ (r_1:zG) (r_2:Bool),e=.returned (.tuple [(zG.v r_1),(.bool r_2)].toArray)/\(opE zA zC (zk 72 true (.tuple #[])) w (λx10 w=>opU zA (zK 72 (.pointer x10) (zG.v r_1)) w (λw=>opB zA zC (zO 72 (.pointer x10) 2) w (λx26=>opB zA zY (zD 9 (.pointer x26)) w (λx27=>(r_2=true->(opB zA zC (zO 72 (.pointer x10) 3) w (λx30=>opB zA Qq (zD 4 (.pointer x30)) w (λx31=>zFc Ret x27 (!x31) w))))/\(r_2=false->(zFc Ret x27 false w))))))))))))))))
set_option maxRecDepth 100000 in
theorem zLV (x0:zP) (x1:ByteArray) (x2:Int) (w:World) (Ret:ByteArray->Bool->Int->World->Prop) (H:zIK x0 x1 x2 w Ret):Cl zA 51 [(zP.v x0),(.string x1),(.int .u64 x2)].toArray w (λe w'=>∃ (r0:ByteArray) (r1:Bool) (r2:Int),e=.returned (.tuple [(.string r0),(.bool r1),(.int .i64 r2)].toArray)/\Ret r0 r1 r2 w'):=by
 unfold zIK at H
 refine zl 34 (zipE 0 [(zP.v x0),(.string x1),(.int .u64 x2)]) Tryz.func51 rfl rfl (by rfl) rfl ?_
 intro a g
 replace g:Sat [] 34 [(0,(zP.v x0)),(1,(.string x1)),(2,(.int .u64 x2))] a:=g
 refine zJ (zE (g.op (zBa g rfl) H λx3 w a H g=>g.as_ rfl λ_ g=>g.as_ rfl λ_ g=>g.as_ rfl λ_ g=>zM (tn (zJ (zJ (zE (g.op (zN g rfl) H λx12 w a H g=>g.mv rfl λ_ g=>g.call (zZ g zQC rfl rfl) H λe w H=>?_)))))))
 obtain ⟨r,rfl,H⟩:=H
 refine ⟨_,rfl,λ_ g=>(g.as_ rfl λ_ g=>zM (tn (zJ (zE (g.mv rfl λ_ g=>g.pur (zFL g rfl rfl) λ_ g=>zM (tn (zb g rfl (λhc=>?_) (λhc=>?_))))))))⟩
 ·replace H:=H.1 hc
  exact zJ (zE (g.mv rfl λ_ g=>g.as_ rfl λ_ g=>g.as_ rfl λ_ g=>g.as_ rfl λ_ g=>zM (tn (zg (tr (zIM g rfl rfl rfl rfl ⟨_,_,_,rfl,H⟩))))))
 ·replace H:=H.2 hc
  refine zX (tn (zJ (zE (g.op (zS g rfl) H λx19 w a H g=>g.op (zN g rfl) H λx20 w a H g=>g.mv rfl λ_ g=>g.mv rfl λ_ g=>g.call (zZ g zOO rfl rfl) H λe w H=>?_))))
  obtain ⟨r_1,r_2,rfl,H⟩:=H
  refine ⟨_,rfl,λ_ g=>(g.mv rfl λ_ g=>g.pur (za g rfl rfl) λ_ g=>g.pur (za g rfl rfl) λ_ g=>g.op (YW) H λx10 w a H g=>g.opu (zT g rfl rfl) H λw a H g=>g.as_ rfl λ_ g=>zM (tn (zJ (QP (by kernel_rfl) (by kernel_rfl) (g.qop (zS g rfl) H λx26 a H g=>g.qop (zN g rfl) H λx27 a H g=>g.qm rfl λ_ g=>g.qm rfl λ_ g=>WQ.join (ds:=[]) (N:=34) (σ:=Bool) (λs=>[(33,(.bool s)),(27,(.string x27))]) (λs=>zFc Ret x27 s w) 4 ?_ (λhr1=>?_))))))⟩
  ·intro x33 a H g
   try dsimp only at H g
   unfold zFc at H
   refine g.qpur (Yt g rfl) λ_ g=>g.qpur (Yt g rfl) λ_ g=>g.qpur (Yt g rfl) λ_ g=>QO (λw hB=>?_)
   replace H:=H w hB
   exact (tn (zg (zIM g rfl rfl rfl rfl ⟨_,_,_,rfl,H⟩)))
  ·rcases Bool.eq_false_or_eq_true (r_2) with hbr1|hbr1
   ·replace H:=H.1 hbr1
    replace g:=g.bool (b:=true) (t:=29) rfl (hbr1)
    exact g.qon (by rfl) (by rfl) (g.qop (zS g rfl) H λx30 a H g=>g.qon (by rfl) (by rfl) (g.qop (zN g rfl) H λx31 a H g=>g.qon (by rfl) (by rfl) (g.qpur (zAD g rfl) λ_ g=>g.qpur (zu g rfl rfl) λ_ g=>hr1 (!x31) _ H (g.wk))))
   ·replace H:=H.2 hbr1
    replace g:=g.bool (b:=false) (t:=29) rfl (hbr1)
    exact g.qoff (by rfl) (by rfl) (by decide) (λ_ g=>g.qoff (by rfl) (by rfl) (by decide) (λ_ g=>g.qoff (by rfl) (by rfl) (by decide) (λ_ g=>g.qpur (zv g rfl rfl) λ_ g=>hr1 false _ H (g.wk))))
def Zt (x0:Sl) (w:World) (Ret:Sl->World->Prop):Prop:=
 opE zA Qq (do eqGuard .eql 67 (.tmp 3) (.const (Sl.v Sl.none)) (Sl.v x0) (Sl.v Sl.none);binOp .eql 67 (Sl.v x0) (Sl.v Sl.none)) w (λx4 w=>(x4=true->(Ret Sl.none w))/\(x4=false->(opE zA Sl.v (zc 67 0 [].toArray) w (λx5 w=>opE zA Sl.v (Builtin.append_ #[67,67] 67 [(Sl.v x5),(Sl.v x0)].toArray) w (λx7 w=>Ret x7 w)))))
set_option maxRecDepth 100000 in
theorem zDZ (x0:Sl) (w:World) (Ret:Sl->World->Prop) (H:Zt x0 w Ret):Cl zA 52 [(Sl.v x0)].toArray w (λe w'=>∃ (r0:Sl),e=.returned (Sl.v r0)/\Ret r0 w'):=by
 unfold Zt at H
 refine zl 8 (zipE 0 [(Sl.v x0)]) Tryz.func52 rfl rfl (by rfl) rfl ?_
 intro a g
 replace g:Sat [] 8 [(0,(Sl.v x0))] a:=g
 refine zJ (zE (g.as_ rfl λ_ g=>(zM (tn (zJ (zJ (zE (g.mv rfl λ_ g=>(g.op (zCs g rfl rfl) H λx4 w a H g=>(zM (tn (zd g rfl (λhc=>?_) (λhc=>?_)))))))))))))
 ·replace H:=H.1 hc
  exact zJ (zE (g.as_ rfl λ_ g=>(zM (tn (zg (tr (zt g rfl rfl ⟨_,rfl,H⟩)))))))
 ·replace H:=H.2 hc
  exact zX (tn (zJ (zE (g.op (Qz g rfl) H λx5 w a H g=>(g.mv rfl λ_ g=>(g.op (zBE g rfl) H λx7 w a H g=>(g.as_ rfl λ_ g=>(zM (tn (zg (zt g rfl rfl ⟨_,rfl,H⟩)))))))))))
def zB6 (x59:Int) (Kl3:Int->World->Prop) (w:World):Prop:=
 Kl3 (zB .i64 (x59+1)) w
def zD3 (x3:Option Addr) (x7:Option Addr) (x37:Sl) (Gf1:World->Prop) (x59:Int) (w:World) (Kl3:Int->World->Prop):Prop:=
 ((x59<(x37.len:Int))->(opE zA zC (zF 67 (Sl.v x37) (.int .i64 x59)) w (λx61 w=>opE zA zG.v (zD 72 (.pointer x61)) w (λx62 w=>opE zA zC (zk 72 true (.tuple #[])) w (λx13 w=>opU zA (zK 72 (.pointer x13) (zG.v x62)) w (λw=>opE zA zC (zO 72 (.pointer x13) 1) w (λx63 w=>opE zA (zV .u64) (zD 37 (.pointer x63)) w (λx64 w=>opE zA (zV .u64) (zD 37 (.pointer x3)) w (λx65 w=>((x65<x64)->(opE zA zC (zO 69 (.pointer x7) 0) w (λx67 w=>opE zA Sl.v (zD 67 (.pointer x67)) w (λx68 w=>opE zA zG.v (zD 72 (.pointer x13)) w (λx69 w=>opE zA Sl.v (zc 67 1 [(0,(zG.v x69))].toArray) w (λx70 w=>opE zA Sl.v (Builtin.append_ #[67,67] 67 [(Sl.v x68),(Sl.v x70)].toArray) w (λx71 w=>opE zA zC (zO 69 (.pointer x7) 0) w (λx72 w=>opU zA (zK 67 (.pointer x72) (Sl.v x71)) w (λw=>zB6 x59 Kl3 w)))))))))/\(¬ (x65<x64)->(zB6 x59 Kl3 w)))))))))))/\(¬ (x59<(x37.len:Int))->(Gf1 w))
def zA6 (x3:Option Addr) (x7:Option Addr) (x37:Sl) (Gf1:World->Prop) (w:World):Prop:=
 ∃ (I:Int->World->Prop) (μ:Int->World->Nat),I 0 w/\∀ (x59:Int) w,I x59 w->zD3 x3 x7 x37 Gf1 x59 w (λx59' w'=>I x59' w'/\μ x59' w'<μ x59 w)
def zCq (x3:Option Addr) (x7:Option Addr) (x37:Sl) (Gf1:World->Prop) (x10:Option Addr) (x50:Bool) (w:World):Prop:=
 (x50=true->(opE zA zC (zO 69 (.pointer x7) 0) w (λx51 w=>opE zA Sl.v (zD 67 (.pointer x51)) w (λx52 w=>opE zA zG.v (zD 72 (.pointer x10)) w (λx53 w=>opE zA Sl.v (zc 67 1 [(0,(zG.v x53))].toArray) w (λx54 w=>opE zA Sl.v (Builtin.append_ #[67,67] 67 [(Sl.v x52),(Sl.v x54)].toArray) w (λx55 w=>opE zA zC (zO 69 (.pointer x7) 0) w (λx56 w=>opU zA (zK 67 (.pointer x56) (Sl.v x55)) w (λw=>zA6 x3 x7 x37 Gf1 w)))))))))/\(x50=false->(zA6 x3 x7 x37 Gf1 w))
def zEE (x3:Option Addr) (x7:Option Addr) (x36:ByteArray) (x37:Sl) (w:World) (Gf1:World->Prop) (Lf1:World->Prop):Prop:=
 opE zA (zV .u64) (zD 37 (.pointer x3)) w (λx41 w=>Cl zA 71 [(Sl.v x37),(.string x36),(.int .u64 x41)].toArray w (λe w=>∃ (r_2:zG) (r_3:Bool),e=.returned (.tuple [(zG.v r_2),(.bool r_3)].toArray)/\(opE zA zC (zk 72 true (.tuple #[])) w (λx10 w=>opU zA (zK 72 (.pointer x10) (zG.v r_2)) w (λw=>(r_3=true->(opE zA zC (zO 72 (.pointer x10) 3) w (λx47 w=>opE zA Qq (zD 4 (.pointer x47)) w (λx48 w=>zCq x3 x7 x37 Gf1 x10 (!x48) w))))/\(r_3=false->(zCq x3 x7 x37 Gf1 x10 false w)))))))
def zGq (x0:zP) (x1:Int) (w:World) (Ret:zP->Int->World->Prop):Prop:=
 opE zA zC (Instr.box 69 (zP.v x0)) w (λx2 w=>opE zA zC (Instr.box 37 (.int .u64 x1)) w (λx3 w=>opE zA zC (zk 69 true (.tuple #[])) w (λx4 w=>opE zA zP.v (zD 69 (.pointer x2)) w (λx14 w=>Cl zA 64 [(zP.v x14)].toArray w (λe w=>∃ (r:Int),e=.returned (.int .i64 r)/\(((r≠0)->(opE zA zP.v (QC 69 [].toArray) w (λx19 w=>opU zA (zK 69 (.pointer x4) (zP.v x19)) w (λw=>opR zA zP.v 69 x4 w (λq=>Ret q r w)))))/\(¬ (r≠0)->(opE zA (zV .u64) (zD 37 (.pointer x3)) w (λx22 w=>opE zA zC (zO 69 (.pointer x2) 1) w (λx23 w=>opE zA (zV .u64) (zD 37 (.pointer x23)) w (λx24 w=>((x22<x24)->(opE zA zP.v (QC 69 [].toArray) w (λx26 w=>opU zA (zK 69 (.pointer x4) (zP.v x26)) w (λw=>opR zA zP.v 69 x4 w (λq_1=>Ret q_1 9 w)))))/\(¬ (x22<x24)->(opE zA (zV .u64) (zD 37 (.pointer x3)) w (λx28 w=>((2305843009213693952<x28)->(opE zA zP.v (QC 69 [].toArray) w (λx30 w=>opU zA (zK 69 (.pointer x4) (zP.v x30)) w (λw=>opR zA zP.v 69 x4 w (λq_2=>Ret q_2 2 w)))))/\(¬ (2305843009213693952<x28)->(opE zA (zV .u64) (zD 37 (.pointer x3)) w (λx31 w=>opE zA zP.v (QC 69 [(1,(.int .u64 x31))].toArray) w (λx32 w=>opE zA zC (zk 69 true (.tuple #[])) w (λx7 w=>opU zA (zK 69 (.pointer x7) (zP.v x32)) w (λw=>opE zA zC (zO 69 (.pointer x2) 0) w (λx33 w=>opE zA Sl.v (zD 67 (.pointer x33)) w (λx34 w=>Cl zA 70 [(Sl.v x34)].toArray w (λe w=>∃ (r_1:Value),e=.returned r_1/\(zM2 zA r_1 zY Sl.v w (zEE x3 x7) (λD w=>opE zA zP.v (zD 69 (.pointer x7)) w (λx74 w=>opU zA (zK 69 (.pointer x4) (zP.v x74)) w (λw=>zMm D w (λw=>opR zA zP.v 69 x4 w (λq_3=>Ret q_3 0 w))))) (λD w=>True)))))))))))))))))))))))))
set_option maxRecDepth 100000 in
theorem zKN (x0:zP) (x1:Int) (w:World) (Ret:zP->Int->World->Prop) (H:zGq x0 x1 w Ret):Cl zA 56 [(zP.v x0),(.int .u64 x1)].toArray w (λe w'=>∃ (r0:zP) (r1:Int),e=.returned (.tuple [(zP.v r0),(.int .i64 r1)].toArray)/\Ret r0 r1 w'):=by
 unfold zGq at H
 refine zIZ 75 (zipE 0 [(zP.v x0),(.int .u64 x1)]) Tryz.func56 rfl rfl (by rfl) rfl ?_
 intro a g
 replace g:Sat [] 75 [(0,(zP.v x0)),(1,(.int .u64 x1))] a:=g
 refine zJ (zE (g.op (zBa g rfl) H λx2 w a H g=>g.op (zBa g rfl) H λx3 w a H g=>g.op (YW) H λx4 w a H g=>g.as_ rfl λ_ g=>zM (tn (zJ (zE (g.op (zN g rfl) H λx14 w a H g=>g.call (zZ g zOy rfl rfl) H λe w H=>?_))))))
 obtain ⟨r,rfl,H⟩:=H
 refine ⟨_,rfl,λ_ g=>(g.as_ rfl λ_ g=>zM (tn (zJ (zW (zJ (zE (g.mv rfl λ_ g=>g.pur (zFL g rfl rfl) λ_ g=>g.as_ rfl λ_ g=>zM (tn (zb g rfl (λhc=>?_) (λhc=>?_))))))))))⟩
 ·replace H:=H.1 hc
  refine zJ (zE (g.op (zAg g rfl) H λx19 w a H g=>g.mv rfl λ_ g=>g.opu (zT g rfl rfl) H λw a H g=>g.as_ rfl λ_ g=>zM (tn ?_)))
  obtain ⟨q,ad,hp,hl,H⟩:=H
  exact zg (br (tr (zIi g (rs:=[.cell 4 69,.tmp 5]) (vs:=[(zP.v q),(.int .i64 r)]) rfl ⟨⟨ad,by rw [← hp];rfl,hl⟩,rfl,trivial⟩ ⟨_,_,rfl,H⟩)))
 ·replace H:=H.2 hc
  refine zJ (zE (g.op (zN g rfl) H λx22 w a H g=>g.op (zS g rfl) H λx23 w a H g=>g.op (zN g rfl) H λx24 w a H g=>g.pur (yS g rfl rfl) λ_ g=>g.as_ rfl λ_ g=>zM (tn (zb g rfl (λhc=>?_) (λhc=>?_)))))
  ·replace H:=H.1 hc
   refine zJ (zE (g.op (zAg g rfl) H λx26 w a H g=>g.opu (zT g rfl rfl) H λw a H g=>g.as_ rfl λ_ g=>zM (tn ?_)))
   obtain ⟨q_1,ad_1,hp_1,hl_1,H⟩:=H
   exact zg (br (tr (zIi g (rs:=[.cell 4 69,.tmp 5]) (vs:=[(zP.v q_1),(.int .i64 9)]) rfl ⟨⟨ad_1,by rw [← hp_1];rfl,hl_1⟩,rfl,trivial⟩ ⟨_,_,rfl,H⟩)))
  ·replace H:=H.2 hc
   refine zJ (zE (g.op (zN g rfl) H λx28 w a H g=>g.pur (zBC g rfl rfl) λ_ g=>g.as_ rfl λ_ g=>zM (tn (zb g rfl (λhc=>?_) (λhc=>?_)))))
   ·replace H:=H.1 hc
    refine zJ (zE (g.op (zAg g rfl) H λx30 w a H g=>g.opu (zT g rfl rfl) H λw a H g=>g.as_ rfl λ_ g=>zM (tn ?_)))
    obtain ⟨q_2,ad_2,hp_2,hl_2,H⟩:=H
    exact zg (br (tr (zIi g (rs:=[.cell 4 69,.tmp 5]) (vs:=[(zP.v q_2),(.int .i64 2)]) rfl ⟨⟨ad_2,by rw [← hp_2];rfl,hl_2⟩,rfl,trivial⟩ ⟨_,_,rfl,H⟩)))
   ·replace H:=H.2 hc
    refine zX (bn (tn (zJ (zE (g.op (zN g rfl) H λx31 w a H g=>g.op (zAg g rfl) H λx32 w a H g=>g.op (YW) H λx7 w a H g=>g.opu (zT g rfl rfl) H λw a H g=>zM (tn (zJ (zJ (zE (g.op (zS g rfl) H λx33 w a H g=>g.op (zN g rfl) H λx34 w a H g=>g.call (zZ g zQA rfl rfl) H λe w H=>?_))))))))))
    obtain ⟨r_1,rfl,H⟩:=H
    refine ⟨_,rfl,λ_ g=>(zM (tn (zW ?_)))⟩
    obtain ⟨α,f,f',Kp,S,Sp,Num,I,Ir,hR,hnew,hbd,hdn,hst⟩:=H
    refine zKS f f' zY Sl.v none g rfl hR hnew (by rfl) (by rfl) (by rfl) (by rfl) (by rfl) (by rfl) ?_ ?_ ?_
    ·intro l pre z w a h3 h4 g
     have H:=hbd pre z w h3 h4
     generalize (λ(W':World)=>KeepsFrom _ w W'/\Kp w W'/\I (pre++[z]) W')=Gf1 at H ⊢
     generalize (λ(W':World)=>KeepsFrom _ w W'/\Ir (pre++[z]) W')=Lf1 at H ⊢
     generalize f z=x36 at H g
     generalize f' z=x37 at H g
     unfold zEE at H
     refine zW (zz (ds:=[]) (N:=75) (σ:=Unit) (λs=>[(3,(.pointer x3)),(7,(.pointer x7)),(9,(Sl.v x37))]) (λs w=>zA6 x3 x7 x37 Gf1 w) ?_ (λhj2=>?_))
     ·rintro ⟨⟩ w a H g
      try dsimp only at H g
      unfold zA6 at H
      refine zJ (zE (g.mv rfl λ_ g=>g.purR (λw=>ZQ g Tryz.underlying67 rfl) λ_ g=>g.mv rfl λ_ g=>zM (tn (zW ?_))))
      obtain ⟨I_l3,μ_l3,h0,hb⟩:=H
      refine yD (ds:=[]) (N:=75) (σ:=Int) (λs=>[(59,(.int .i64 s)),(3,(.pointer x3)),(7,(.pointer x7)),(57,(Sl.v x37)),(58,(.int .i64 (x37.len:Int)))]) (λs w=>I_l3 s w) (λs w=>μ_l3 s w) 0 h0 (g.wk) ?_
      intro x59 w a hI g
      try dsimp only at hI g
      obtain ⟨Kl3,hK_l3⟩:∃ K:Int->World->Prop,K=(λx59' w'=>I_l3 x59' w'/\μ_l3 x59' w'<μ_l3 x59 w):=⟨_,rfl⟩
      have H:zD3 x3 x7 x37 Gf1 x59 w Kl3:=by rw [hK_l3];exact hb x59 w hI
      clear hb h0 hI
      unfold zD3 at H
      refine zJ (zE (g.pur (yS g rfl rfl) λ_ g=>zM (tn (zJ (zb g rfl (λhc=>?_) (λhc=>?_))))))
      ·replace H:=H.1 hc
       refine zX (tn (zz (ds:=[]) (N:=75) (σ:=Unit) (λs=>[(3,(.pointer x3)),(7,(.pointer x7)),(57,(Sl.v x37)),(58,(.int .i64 (x37.len:Int))),(59,(.int .i64 x59))]) (λs w=>zB6 x59 Kl3 w) ?_ (λhj4=>?_)))
       ·rintro ⟨⟩ w a H g
        try dsimp only at H g
        unfold zB6 at H
        refine zE (g.pur (zm g rfl rfl) λ_ g=>g.mv rfl λ_ g=>?_)
        rw [hK_l3] at H
        exact zM (tn ⟨(zB .i64 (x59+1)),g.wk,H⟩)
       ·refine zW (zJ (zE (g.op (zH g rfl rfl) H λx61 w a H g=>g.op (zN g rfl) H λx62 w a H g=>g.op (YW) H λx13 w a H g=>g.opu (zT g rfl rfl) H λw a H g=>zM (tn (zJ (zE (g.op (zS g rfl) H λx63 w a H g=>g.op (zN g rfl) H λx64 w a H g=>g.op (zN g rfl) H λx65 w a H g=>g.pur (zBC g rfl rfl) λ_ g=>zM (tn (zb g rfl (λhc=>?_) (λhc=>?_))))))))))
        ·replace H:=H.1 hc
         exact zE (g.op (zS g rfl) H λx67 w a H g=>g.op (zN g rfl) H λx68 w a H g=>g.op (zN g rfl) H λx69 w a H g=>g.op (Qz g rfl) H λx70 w a H g=>g.op (zBE g rfl) H λx71 w a H g=>g.op (zS g rfl) H λx72 w a H g=>g.opu (zT g rfl rfl) H λw a H g=>zM (bn (tn (hj4 () _ _ H (g.wk)))))
        ·replace H:=H.2 hc
         exact zX (bn (tn (hj4 () _ _ H (g.wk))))
      ·replace H:=H.2 hc
       exact z5 (te (te (be (bn H))))
     ·refine zJ (zE (g.mv rfl λ_ g=>g.mv rfl λ_ g=>g.op (zN g rfl) H λx41 w a H g=>g.call (zZ g zOO rfl rfl) H λe w H=>?_))
      obtain ⟨r_2,r_3,rfl,H⟩:=H
      refine ⟨_,rfl,λ_ g=>(g.mv rfl λ_ g=>g.pur (za g rfl rfl) λ_ g=>g.pur (za g rfl rfl) λ_ g=>g.op (YW) H λx10 w a H g=>g.opu (zT g rfl rfl) H λw a H g=>g.as_ rfl λ_ g=>zM (tn (zJ (zE (g.mv rfl λ_ g=>g.mv rfl λ_ g=>WL.join (ds:=[]) (N:=75) (σ:=Bool) (λs=>[(50,(.bool s)),(3,(.pointer x3)),(7,(.pointer x7)),(9,(Sl.v x37)),(10,(.pointer x10))]) (λs w=>zCq x3 x7 x37 Gf1 x10 s w) 4 ?_ (λhr5=>?_))))))⟩
      ·intro x50 w a H g
       try dsimp only at H g
       unfold zCq at H
       refine zM (tn (zd g rfl (λhc=>?_) (λhc=>?_)))
       ·replace H:=H.1 hc
        exact zE (g.op (zS g rfl) H λx51 w a H g=>g.op (zN g rfl) H λx52 w a H g=>g.op (zN g rfl) H λx53 w a H g=>g.op (Qz g rfl) H λx54 w a H g=>g.op (zBE g rfl) H λx55 w a H g=>g.op (zS g rfl) H λx56 w a H g=>g.opu (zT g rfl rfl) H λw a H g=>zM (tn (hj2 () _ _ H (g.wk))))
       ·replace H:=H.2 hc
        exact zX (tn (hj2 () _ _ H (g.wk)))
      ·rcases Bool.eq_false_or_eq_true (r_3) with hbr5|hbr5
       ·replace H:=H.1 hbr5
        replace g:=g.bool (b:=true) (t:=46) rfl (hbr5)
        exact g.on (by rfl) (by rfl) (g.op (zS g rfl) H λx47 w a H g=>g.on (by rfl) (by rfl) (g.op (zN g rfl) H λx48 w a H g=>g.on (by rfl) (by rfl) (g.pur (zAD g rfl) λ_ g=>g.pur (zu g rfl rfl) λ_ g=>hr5 (!x48) _ _ H (g.wk))))
       ·replace H:=H.2 hbr5
        replace g:=g.bool (b:=false) (t:=46) rfl (hbr5)
        exact g.off (by rfl) (by rfl) (by decide) (λ_ g=>g.off (by rfl) (by rfl) (by decide) (λ_ g=>g.off (by rfl) (by rfl) (by decide) (λ_ g=>g.pur (zv g rfl rfl) λ_ g=>hr5 false _ _ H (g.wk))))
    ·intro D xs w a h1 h2 h3 hD g
     have H:=hdn D xs w h1 h2 h3 hD
     clear hbd hdn hst hnew
     try dsimp only at H
     refine (bn (tn (zJ (zE (g.op (zN g rfl) H λx74 w a H g=>g.opu (zT g rfl rfl) H λw a H g=>g.as_ rfl λ_ g=>zM (tn ?_))))))
     obtain ⟨hD0,H⟩:=H
     try dsimp only at H
     obtain ⟨q_3,ad_3,hp_3,hl_3,H⟩:=H
     exact zg (zK3 g (rs:=[.cell 4 69,.tmp 5]) (vs:=[(zP.v q_3),(.int .i64 0)]) rfl hD0 ⟨⟨ad_3,by rw [← hp_3];rfl,hl_3⟩,rfl,trivial⟩ ⟨_,_,rfl,H⟩)
    ·intro D c pre w a hj h1 h2 h3 hD g
     cases hj
def Qs (x0:Sl) (x1:Value) (w:World) (Ret:Bool->World->Prop):Prop:=
 Cl zA 78 [(Sl.v x0),x1].toArray w (λe w=>∃ (r:Int),e=.returned (.int .i64 r)/\(Ret (decide (0<=r)) w))
set_option maxRecDepth 100000 in
theorem zAP (x0:Sl) (x1:Value) (w:World) (Ret:Bool->World->Prop) (H:Qs x0 x1 w Ret):Cl zA 57 [(Sl.v x0),x1].toArray w (λe w'=>∃ (r0:Bool),e=.returned (.bool r0)/\Ret r0 w'):=by
 unfold Qs at H
 refine zl 9 (zipE 0 [(Sl.v x0),x1]) Tryz.func57 rfl rfl (by rfl) rfl ?_
 intro a g
 replace g:Sat [] 9 [(0,(Sl.v x0)),(1,x1)] a:=g
 refine zJ (zE (g.as_ rfl λ_ g=>(zM (tn (zJ (zE (g.mv rfl λ_ g=>(g.mv rfl λ_ g=>(g.call (zZ g zQ5 rfl rfl) H λe w H=>?_)))))))))
 obtain ⟨r,rfl,H⟩:=H
 exact ⟨_,rfl,λ_ g=>(g.pur (ZT g rfl rfl) λ_ g=>(g.as_ rfl λ_ g=>(zM (tn (zg (zt g rfl rfl ⟨_,rfl,H⟩))))))⟩
def zB4 (Ret:Int->World->Prop) (x18:Int) (Kl2:Int->World->Prop) (x69:Bool) (w:World):Prop:=
 yG w (λw=>(x69=true->(Ret 2 w))/\(x69=false->(Kl2 (zB .i64 (x18+1)) w)))
def zEm (Ret:Int->World->Prop) (x18:Int) (Kl2:Int->World->Prop) (x68:Bool) (w:World):Prop:=
 zB4 Ret x18 Kl2 x68 w
def zBz (Ret:Int->World->Prop) (x1:Option Addr) (x18:Int) (Kl2:Int->World->Prop) (x4:Option Addr) (x52:Bool) (w:World):Prop:=
 ((!x52)=true->(zB4 Ret x18 Kl2 true w))/\((!x52)=false->(((0<x18)->(opB zA zC (zO 69 (.pointer x1) 0) w (λx59=>opB zA Sl.v (zD 67 (.pointer x59)) w (λx60=>opB zA zC (zF 67 (Sl.v x60) (.int .i64 (zB .i64 (x18 - 1)))) w (λx63=>opB zA zG.v (zD 72 (.pointer x63)) w (λx64=>opB zA zG.v (zD 72 (.pointer x4)) w (λx65=>∃ (r:Int),(∀ w',Bel w w'->Cl zA 68 [(zG.v x64),(zG.v x65)].toArray w' (λe w''=>e=.returned (.int .i64 r)/\Bel w' w''))/\(zEm Ret x18 Kl2 (decide (0<=r)) w))))))))/\(¬ (0<x18)->(zEm Ret x18 Kl2 false w))))
def zB5 (Ret:Int->World->Prop) (x1:Option Addr) (x18:Int) (Kl2:Int->World->Prop) (x4:Option Addr) (x46:Bool) (w:World):Prop:=
 (x46=true->(opE zA zC (zO 72 (.pointer x4) 2) w (λx48 w=>opE zA zY (zD 9 (.pointer x48)) w (λx49 w=>zBz Ret x1 x18 Kl2 x4 (decide ((x49.size:Int)<=512)) w))))/\(x46=false->(zBz Ret x1 x18 Kl2 x4 false w))
def zBV (Ret:Int->World->Prop) (x1:Option Addr) (x18:Int) (Kl2:Int->World->Prop) (x4:Option Addr) (x40:Bool) (w:World):Prop:=
 (x40=true->(opE zA zC (zO 72 (.pointer x4) 0) w (λx42 w=>opE zA zY (zD 9 (.pointer x42)) w (λx43 w=>zB5 Ret x1 x18 Kl2 x4 (decide ((x43.size:Int)<=256)) w))))/\(x40=false->(zB5 Ret x1 x18 Kl2 x4 false w))
def zCv (Ret:Int->World->Prop) (x1:Option Addr) (x18:Int) (Kl2:Int->World->Prop) (x4:Option Addr) (x39:Bool) (w:World):Prop:=
 zBV Ret x1 x18 Kl2 x4 x39 w
def zB7 (Ret:Int->World->Prop) (x1:Option Addr) (x18:Int) (Kl2:Int->World->Prop) (x4:Option Addr) (x30:Bool) (w:World):Prop:=
 (x30=true->(opE zA zC (zO 72 (.pointer x4) 3) w (λx32 w=>opE zA Qq (zD 4 (.pointer x32)) w (λx33 w=>((!x33)=true->(zCv Ret x1 x18 Kl2 x4 true w))/\((!x33)=false->(opE zA zC (zO 72 (.pointer x4) 2) w (λx36 w=>opE zA zY (zD 9 (.pointer x36)) w (λx37 w=>zCv Ret x1 x18 Kl2 x4 (decide (x37=(ByteArray.mk #[]))) w))))))))/\(x30=false->(zBV Ret x1 x18 Kl2 x4 false w))
def zD8 (Ret:Int->World->Prop) (x1:Option Addr) (x16:Sl) (x18:Int) (w:World) (Kl2:Int->World->Prop):Prop:=
 ((x18<(x16.len:Int))->(opE zA zC (zF 67 (Sl.v x16) (.int .i64 x18)) w (λx21 w=>opE zA zG.v (zD 72 (.pointer x21)) w (λx22 w=>opE zA zC (zk 72 true (.tuple #[])) w (λx4 w=>opU zA (zK 72 (.pointer x4) (zG.v x22)) w (λw=>opE zA zC (zO 72 (.pointer x4) 1) w (λx23 w=>opE zA (zV .u64) (zD 37 (.pointer x23)) w (λx24 w=>((1<=x24)->(opE zA zC (zO 72 (.pointer x4) 1) w (λx27 w=>opE zA (zV .u64) (zD 37 (.pointer x27)) w (λx28 w=>zB7 Ret x1 x18 Kl2 x4 (decide (x28<=2305843009213693952)) w))))/\(¬ (1<=x24)->(zB7 Ret x1 x18 Kl2 x4 false w))))))))))/\(¬ (x18<(x16.len:Int))->(Ret 0 w))
def zBy (Ret:Int->World->Prop) (x1:Option Addr) (x14:Bool) (w:World):Prop:=
 (x14=true->(Ret 2 w))/\(x14=false->(opE zA zC (zO 69 (.pointer x1) 0) w (λx15 w=>opE zA Sl.v (zD 67 (.pointer x15)) w (λx16 w=>∃ (I:Int->World->Prop) (μ:Int->World->Nat),I 0 w/\∀ (x18:Int) w,I x18 w->zD8 Ret x1 x16 x18 w (λx18' w'=>I x18' w'/\μ x18' w'<μ x18 w)))))
def zGt (x0:zP) (w:World) (Ret:Int->World->Prop):Prop:=
 opE zA zC (Instr.box 69 (zP.v x0)) w (λx1 w=>opE zA zC (zO 69 (.pointer x1) 0) w (λx6 w=>opE zA Sl.v (zD 67 (.pointer x6)) w (λx7 w=>((4096<(x7.len:Int))->(zBy Ret x1 true w))/\(¬ (4096<(x7.len:Int))->(opE zA zC (zO 69 (.pointer x1) 1) w (λx11 w=>opE zA (zV .u64) (zD 37 (.pointer x11)) w (λx12 w=>zBy Ret x1 (decide (2305843009213693952<x12)) w)))))))
set_option maxRecDepth 100000 in
theorem zKA (x0:zP) (w:World) (Ret:Int->World->Prop) (H:zGt x0 w Ret):Cl zA 64 [(zP.v x0)].toArray w (λe w'=>∃ (r0:Int),e=.returned (.int .i64 r0)/\Ret r0 w'):=by
 unfold zGt at H
 refine zl 71 (zipE 0 [(zP.v x0)]) Tryz.func64 rfl rfl (by rfl) rfl ?_
 intro a g
 replace g:Sat [] 71 [(0,(zP.v x0))] a:=g
 refine zJ (zE (g.op (zBa g rfl) H λx1 w a H g=>g.as_ rfl λ_ g=>zM (tn (zJ (zJ (zE (g.op (zS g rfl) H λx6 w a H g=>g.op (zN g rfl) H λx7 w a H g=>g.purR (λw=>ZQ g Tryz.underlying67 rfl) λ_ g=>g.pur (zBC g rfl rfl) λ_ g=>g.mv rfl λ_ g=>WL.join (ds:=[]) (N:=71) (σ:=Bool) (λs=>[(14,(.bool s)),(1,(.pointer x1))]) (λs w=>zBy Ret x1 s w) 4 ?_ (λhr1=>?_))))))))
 ·intro x14 w a H g
  try dsimp only at H g
  unfold zBy at H
  refine zM (tn (zd g rfl (λhc=>?_) (λhc=>?_)))
  ·replace H:=H.1 hc
   exact zJ (zE (g.as_ rfl λ_ g=>zM (tn (zg (tr (zt g rfl rfl ⟨_,rfl,H⟩))))))
  ·replace H:=H.2 hc
   refine zX (tn (zJ (zJ (zE (g.op (zS g rfl) H λx15 w a H g=>g.op (zN g rfl) H λx16 w a H g=>g.purR (λw=>ZQ g Tryz.underlying67 rfl) λ_ g=>g.mv rfl λ_ g=>zM (tn (zW ?_)))))))
   obtain ⟨I_l2,μ_l2,h0,hb⟩:=H
   refine yD (ds:=[]) (N:=71) (σ:=Int) (λs=>[(18,(.int .i64 s)),(1,(.pointer x1)),(16,(Sl.v x16)),(17,(.int .i64 (x16.len:Int)))]) (λs w=>I_l2 s w) (λs w=>μ_l2 s w) 0 h0 (g.wk) ?_
   intro x18 w a hI g
   try dsimp only at hI g
   obtain ⟨Kl2,hK_l2⟩:∃ K:Int->World->Prop,K=(λx18' w'=>I_l2 x18' w'/\μ_l2 x18' w'<μ_l2 x18 w):=⟨_,rfl⟩
   have H:zD8 Ret x1 x16 x18 w Kl2:=by rw [hK_l2];exact hb x18 w hI
   clear hb h0 hI
   unfold zD8 at H
   refine zJ (zE (g.pur (yS g rfl rfl) λ_ g=>zM (tn (zJ (zb g rfl (λhc=>?_) (λhc=>?_))))))
   ·replace H:=H.1 hc
    refine zX (tn (zJ (zW (zJ (zE (g.mv rfl λ_ g=>g.op (zH g rfl rfl) H λx21 w a H g=>g.op (zN g rfl) H λx22 w a H g=>g.op (YW) H λx4 w a H g=>g.as_ rfl λ_ g=>g.opu (zT g rfl rfl) H λw a H g=>zM (tn (zJ (zE (g.op (zS g rfl) H λx23 w a H g=>g.op (zN g rfl) H λx24 w a H g=>g.pur (ZT g rfl rfl) λ_ g=>g.mv rfl λ_ g=>WL.join (ds:=[]) (N:=71) (σ:=Bool) (λs=>[(30,(.bool s)),(1,(.pointer x1)),(3,(.int .i64 x18)),(4,(.pointer x4)),(16,(Sl.v x16)),(17,(.int .i64 (x16.len:Int))),(18,(.int .i64 x18))]) (λs w=>zB7 Ret x1 x18 Kl2 x4 s w) 4 ?_ (λhr3=>?_)))))))))))
    ·intro x30 w a H g
     try dsimp only at H g
     unfold zB7 at H
     refine g.mv rfl λ_ g=>WL.join (ds:=[]) (N:=71) (σ:=Bool) (λs=>[(40,(.bool s)),(1,(.pointer x1)),(3,(.int .i64 x18)),(4,(.pointer x4)),(16,(Sl.v x16)),(17,(.int .i64 (x16.len:Int))),(18,(.int .i64 x18))]) (λs w=>zBV Ret x1 x18 Kl2 x4 s w) 9 ?_ (λhr4=>?_)
     ·intro x40 w a H g
      try dsimp only at H g
      unfold zBV at H
      refine g.mv rfl λ_ g=>WL.join (ds:=[]) (N:=71) (σ:=Bool) (λs=>[(46,(.bool s)),(1,(.pointer x1)),(3,(.int .i64 x18)),(4,(.pointer x4)),(16,(Sl.v x16)),(17,(.int .i64 (x16.len:Int))),(18,(.int .i64 x18))]) (λs w=>zB5 Ret x1 x18 Kl2 x4 s w) 5 ?_ (λhr5=>?_)
      ·intro x46 w a H g
       try dsimp only at H g
       unfold zB5 at H
       refine g.mv rfl λ_ g=>WL.join (ds:=[]) (N:=71) (σ:=Bool) (λs=>[(52,(.bool s)),(1,(.pointer x1)),(3,(.int .i64 x18)),(4,(.pointer x4)),(16,(Sl.v x16)),(17,(.int .i64 (x16.len:Int))),(18,(.int .i64 x18))]) (λs w=>zBz Ret x1 x18 Kl2 x4 s w) 5 ?_ (λhr6=>?_)
       ·intro x52 w a H g
        try dsimp only at H g
        unfold zBz at H
        refine g.as_ rfl λ_ g=>zM (tn (zJ (QP (by kernel_rfl) (by kernel_rfl) (g.qm rfl λ_ g=>g.qpur (zAD g rfl) λ_ g=>g.qm rfl λ_ g=>WQ.join (ds:=[]) (N:=71) (σ:=Bool) (λs=>[(69,(.bool s)),(1,(.pointer x1)),(16,(Sl.v x16)),(17,(.int .i64 (x16.len:Int))),(18,(.int .i64 x18))]) (λs=>zB4 Ret x18 Kl2 s w) 14 ?_ (λhr7=>?_)))))
        ·intro x69 a H g
         try dsimp only at H g
         unfold zB4 at H
         refine QO (λw hB=>?_)
         replace H:=H w hB
         refine (tn (zd g rfl (λhc=>?_) (λhc=>?_)))
         ·replace H:=H.1 hc
          exact zJ (zE (g.as_ rfl λ_ g=>zM (tn (zg (br (tr (tr (br (tr (zt g rfl rfl ⟨_,rfl,H⟩))))))))))
         ·replace H:=H.2 hc
          refine zX (bn (tn (zE (g.pur (zm g rfl rfl) λ_ g=>g.mv rfl λ_ g=>?_))))
          rw [hK_l2] at H
          exact zM (tn ⟨(zB .i64 (x18+1)),g.wk,H⟩)
        ·rcases Bool.eq_false_or_eq_true ((!x52)) with hbr7|hbr7
         ·replace H:=H.1 hbr7
          replace g:=g.bool (b:=true) (t:=55) rfl (hbr7)
          exact g.qoff (by rfl) (by rfl) (by decide) (λ_ g=>g.qoff (by rfl) (by rfl) (by decide) (λ_ g=>g.qoff (by rfl) (by rfl) (by decide) (λ_ g=>g.qoffU (by rfl) (by rfl) (λ_ g=>g.qoffU (by rfl) (by rfl) (λ_ g=>g.qoffU (by rfl) (by rfl) (λ_ g=>g.qoffU (by rfl) (by rfl) (λ_ g=>g.qoffU (by rfl) (by rfl) (λ_ g=>g.qoffU (by rfl) (by rfl) (λ_ g=>g.qoffU (by rfl) (by rfl) (λ_ g=>g.qoffU (by rfl) (by rfl) (λ_ g=>g.qoffU (by rfl) (by rfl) (λ_ g=>g.qoff (by rfl) (by rfl) (by decide) (λ_ g=>g.qpur (zu g rfl rfl) λ_ g=>hr7 true _ H (g.wk))))))))))))))
         ·replace H:=H.2 hbr7
          replace g:=g.bool (b:=false) (t:=55) rfl (hbr7)
          refine g.qon (by rfl) (by rfl) (g.qm rfl λ_ g=>g.qon (by rfl) (by rfl) (g.qpur (zBC g rfl rfl) λ_ g=>g.qon (by rfl) (by rfl) (g.qm rfl λ_ g=>WQ.join (ds:=[]) (N:=71) (σ:=Bool) (λs=>[(68,(.bool s)),(1,(.pointer x1)),(16,(Sl.v x16)),(17,(.int .i64 (x16.len:Int))),(18,(.int .i64 x18)),(55,(.bool false))]) (λs=>zEm Ret x18 Kl2 s w) 10 ?_ (λhr8=>?_))))
          ·intro x68 a H g
           try dsimp only at H g
           unfold zEm at H
           exact g.qpur (zv g rfl rfl) λ_ g=>hr7 x68 _ H (g.wk)
          ·rcases Classical.em ((0<x18)) with hbr8|hbr8
           ·replace H:=H.1 hbr8
            replace g:=g.bool (b:=true) (t:=58) rfl (decide_eq_true hbr8)
            refine g.qon (by rfl) (by rfl) (g.qop (zS g rfl) H λx59 a H g=>g.qon (by rfl) (by rfl) (g.qop (zN g rfl) H λx60 a H g=>g.qon (by rfl) (by rfl) (g.qm rfl λ_ g=>g.qon (by rfl) (by rfl) (g.qpur (zq g rfl rfl) λ_ g=>g.qon (by rfl) (by rfl) (g.qop (zH g rfl rfl) H λx63 a H g=>g.qon (by rfl) (by rfl) (g.qop (zN g rfl) H λx64 a H g=>g.qon (by rfl) (by rfl) (g.qop (zN g rfl) H λx65 a H g=>g.qon (by rfl) (by rfl) ?_)))))))
            obtain ⟨r,hc,H⟩:=H
            exact g.qcall (λw'=>zZ g zPv rfl rfl) hc λ_ g=>g.qon (by rfl) (by rfl) (g.qpur (ZT g rfl rfl) λ_ g=>g.qon (by rfl) (by rfl) (g.qpur (zu g rfl rfl) λ_ g=>hr8 (decide (0<=r)) _ H (g.wk)))
           ·replace H:=H.2 hbr8
            replace g:=g.bool (b:=false) (t:=58) rfl (decide_eq_false hbr8)
            exact g.qoff (by rfl) (by rfl) (by decide) (λ_ g=>g.qoff (by rfl) (by rfl) (by decide) (λ_ g=>g.qoff (by rfl) (by rfl) (by decide) (λ_ g=>g.qoff (by rfl) (by rfl) (by decide) (λ_ g=>g.qoff (by rfl) (by rfl) (by decide) (λ_ g=>g.qoff (by rfl) (by rfl) (by decide) (λ_ g=>g.qoff (by rfl) (by rfl) (by decide) (λ_ g=>g.qoff (by rfl) (by rfl) (by decide) (λ_ g=>g.qoff (by rfl) (by rfl) (by decide) (λ_ g=>g.qon (by rfl) (by rfl) (g.qpur (zv g rfl rfl) λ_ g=>hr8 false _ H (g.wk)))))))))))
       ·rcases Bool.eq_false_or_eq_true (x46) with hbr6|hbr6
        ·replace H:=H.1 hbr6
         replace g:=g.bool (b:=true) (t:=47) rfl (hbr6)
         exact g.on (by rfl) (by rfl) (g.op (zS g rfl) H λx48 w a H g=>g.on (by rfl) (by rfl) (g.op (zN g rfl) H λx49 w a H g=>g.on (by rfl) (by rfl) (g.purR (λw=>zGk g Tryz.underlying9 rfl) λ_ g=>g.on (by rfl) (by rfl) (g.pur (zCV g rfl rfl) λ_ g=>g.pur (zu g rfl rfl) λ_ g=>hr6 (decide ((x49.size:Int)<=512)) _ _ H (g.wk)))))
        ·replace H:=H.2 hbr6
         replace g:=g.bool (b:=false) (t:=47) rfl (hbr6)
         exact g.off (by rfl) (by rfl) (by decide) (λ_ g=>g.off (by rfl) (by rfl) (by decide) (λ_ g=>g.off (by rfl) (by rfl) (by decide) (λ_ g=>g.off (by rfl) (by rfl) (by decide) (λ_ g=>g.pur (zv g rfl rfl) λ_ g=>hr6 false _ _ H (g.wk)))))
      ·rcases Bool.eq_false_or_eq_true (x40) with hbr5|hbr5
       ·replace H:=H.1 hbr5
        replace g:=g.bool (b:=true) (t:=41) rfl (hbr5)
        exact g.on (by rfl) (by rfl) (g.op (zS g rfl) H λx42 w a H g=>g.on (by rfl) (by rfl) (g.op (zN g rfl) H λx43 w a H g=>g.on (by rfl) (by rfl) (g.purR (λw=>zGk g Tryz.underlying9 rfl) λ_ g=>g.on (by rfl) (by rfl) (g.pur (zCV g rfl rfl) λ_ g=>g.pur (zu g rfl rfl) λ_ g=>hr5 (decide ((x43.size:Int)<=256)) _ _ H (g.wk)))))
       ·replace H:=H.2 hbr5
        replace g:=g.bool (b:=false) (t:=41) rfl (hbr5)
        exact g.off (by rfl) (by rfl) (by decide) (λ_ g=>g.off (by rfl) (by rfl) (by decide) (λ_ g=>g.off (by rfl) (by rfl) (by decide) (λ_ g=>g.off (by rfl) (by rfl) (by decide) (λ_ g=>g.pur (zv g rfl rfl) λ_ g=>hr5 false _ _ H (g.wk)))))
     ·rcases Bool.eq_false_or_eq_true (x30) with hbr4|hbr4
      ·replace H:=H.1 hbr4
       replace g:=g.bool (b:=true) (t:=31) rfl (hbr4)
       refine g.on (by rfl) (by rfl) (g.op (zS g rfl) H λx32 w a H g=>g.on (by rfl) (by rfl) (g.op (zN g rfl) H λx33 w a H g=>g.on (by rfl) (by rfl) (g.pur (zAD g rfl) λ_ g=>g.on (by rfl) (by rfl) (g.mv rfl λ_ g=>WL.join (ds:=[]) (N:=71) (σ:=Bool) (λs=>[(39,(.bool s)),(1,(.pointer x1)),(3,(.int .i64 x18)),(4,(.pointer x4)),(16,(Sl.v x16)),(17,(.int .i64 (x16.len:Int))),(18,(.int .i64 x18)),(31,(.bool true))]) (λs w=>zCv Ret x1 x18 Kl2 x4 s w) 4 ?_ (λhr9=>?_)))))
       ·intro x39 w a H g
        try dsimp only at H g
        unfold zCv at H
        exact g.pur (zu g rfl rfl) λ_ g=>hr4 x39 _ _ H (g.wk)
       ·rcases Bool.eq_false_or_eq_true ((!x33)) with hbr9|hbr9
        ·replace H:=H.1 hbr9
         replace g:=g.bool (b:=true) (t:=35) rfl (hbr9)
         exact g.off (by rfl) (by rfl) (by decide) (λ_ g=>g.off (by rfl) (by rfl) (by decide) (λ_ g=>g.off (by rfl) (by rfl) (by decide) (λ_ g=>g.on (by rfl) (by rfl) (g.pur (zu g rfl rfl) λ_ g=>hr9 true _ _ H (g.wk)))))
        ·replace H:=H.2 hbr9
         replace g:=g.bool (b:=false) (t:=35) rfl (hbr9)
         exact g.on (by rfl) (by rfl) (g.op (zS g rfl) H λx36 w a H g=>g.on (by rfl) (by rfl) (g.op (zN g rfl) H λx37 w a H g=>g.on (by rfl) (by rfl) (g.pur (zMA g rfl rfl) λ_ g=>g.on (by rfl) (by rfl) (g.pur (zv g rfl rfl) λ_ g=>hr9 (decide (x37=(ByteArray.mk #[]))) _ _ H (g.wk)))))
      ·replace H:=H.2 hbr4
       replace g:=g.bool (b:=false) (t:=31) rfl (hbr4)
       exact g.off (by rfl) (by rfl) (by decide) (λ_ g=>g.off (by rfl) (by rfl) (by decide) (λ_ g=>g.off (by rfl) (by rfl) (by decide) (λ_ g=>g.off (by rfl) (by rfl) (by decide) (λ_ g=>g.offU (by rfl) (by rfl) (λ_ g=>g.offU (by rfl) (by rfl) (λ_ g=>g.offU (by rfl) (by rfl) (λ_ g=>g.off (by rfl) (by rfl) (by decide) (λ_ g=>g.pur (zv g rfl rfl) λ_ g=>hr4 false _ _ H (g.wk)))))))))
    ·rcases Classical.em ((1<=x24)) with hbr3|hbr3
     ·replace H:=H.1 hbr3
      replace g:=g.bool (b:=true) (t:=26) rfl (decide_eq_true hbr3)
      exact g.on (by rfl) (by rfl) (g.op (zS g rfl) H λx27 w a H g=>g.on (by rfl) (by rfl) (g.op (zN g rfl) H λx28 w a H g=>g.on (by rfl) (by rfl) (g.pur (zCV g rfl rfl) λ_ g=>g.pur (zu g rfl rfl) λ_ g=>hr3 (decide (x28<=2305843009213693952)) _ _ H (g.wk))))
     ·replace H:=H.2 hbr3
      replace g:=g.bool (b:=false) (t:=26) rfl (decide_eq_false hbr3)
      exact g.off (by rfl) (by rfl) (by decide) (λ_ g=>g.off (by rfl) (by rfl) (by decide) (λ_ g=>g.off (by rfl) (by rfl) (by decide) (λ_ g=>g.pur (zv g rfl rfl) λ_ g=>hr3 false _ _ H (g.wk))))
   ·replace H:=H.2 hc
    exact z5 (te (te (be (tn (zJ (zE (g.as_ rfl λ_ g=>zM (tn (zg (zt g rfl rfl ⟨_,rfl,H⟩))))))))))
 ·rcases Classical.em ((4096<(x7.len:Int))) with hbr1|hbr1
  ·replace H:=H.1 hbr1
   replace g:=g.bool (b:=true) (t:=10) rfl (decide_eq_true hbr1)
   exact g.off (by rfl) (by rfl) (by decide) (λ_ g=>g.off (by rfl) (by rfl) (by decide) (λ_ g=>g.off (by rfl) (by rfl) (by decide) (λ_ g=>g.pur (zu g rfl rfl) λ_ g=>hr1 true _ _ H (g.wk))))
  ·replace H:=H.2 hbr1
   replace g:=g.bool (b:=false) (t:=10) rfl (decide_eq_false hbr1)
   exact g.on (by rfl) (by rfl) (g.op (zS g rfl) H λx11 w a H g=>g.on (by rfl) (by rfl) (g.op (zN g rfl) H λx12 w a H g=>g.on (by rfl) (by rfl) (g.pur (zBC g rfl rfl) λ_ g=>g.pur (zv g rfl rfl) λ_ g=>hr1 (decide (2305843009213693952<x12)) _ _ H (g.wk))))
def zEF (x0:Sl) (Ret:Int->World->Prop) (x13:Option Nat) (x16:Int) (w:World) (Kl1:Int->World->Prop):Prop:=
 ((x16<(x0.len:Int))->(opE zA zC (zF 30 (Sl.v x0) (.int .i64 x16)) w (λx18 w=>opE zA zI.v (zD 34 (.pointer x18)) w (λx19 w=>opE zA zC (zk 34 true (.tuple #[])) w (λx5 w=>opU zA (zK 34 (.pointer x5) (zI.v x19)) w (λw=>opE zA zC (zO 34 (.pointer x5) 0) w (λx22 w=>opE zA zY (zD 9 (.pointer x22)) w (λx23 w=>opE zA (λp:zFY × Bool=>.tuple [(zFY.v p.1),(.bool p.2)].toArray) (Instr.lookup 152 (.map x13) (.string x23) true) w (λx24 w=>opE zA zC (zk 153 true (.tuple #[])) w (λx6 w=>opU zA (zK 153 (.pointer x6) (zFY.v x24.1)) w (λw=>(x24.2=true->(Ret 12 w))/\(x24.2=false->(opE zA zC (zO 34 (.pointer x5) 0) w (λx29 w=>opE zA zY (zD 9 (.pointer x29)) w (λx30 w=>opE zA zFY.v (QC 153 [].toArray) w (λx31 w=>opU zA (Instr.mapUpdate 152 (.map x13) (.string x30) (zFY.v x31)) w (λw=>Kl1 (zB .i64 (x16+1)) w)))))))))))))))))/\(¬ (x16<(x0.len:Int))->(Ret 0 w))
def zGn (x0:Sl) (w:World) (Ret:Int->World->Prop):Prop:=
 ((4096<(x0.len:Int))->(Ret 3 w))/\(¬ (4096<(x0.len:Int))->(Cl zA 83 [(Sl.v x0),(.func (.func 84) #[] #[])].toArray w (λe w=>∃ (r:Bool),e=.returned (.bool r)/\((r=true->(Ret 4 w))/\(r=false->(opE zA Value.map (Instr.makeMap 152 none) w (λx13 w=>∃ (I:Int->World->Prop) (μ:Int->World->Nat),I 0 w/\∀ (x16:Int) w,I x16 w->zEF x0 Ret x13 x16 w (λx16' w'=>I x16' w'/\μ x16' w'<μ x16 w))))))))
set_option maxRecDepth 100000 in
theorem zJ8 (x0:Sl) (w:World) (Ret:Int->World->Prop) (H:zGn x0 w Ret):Cl zA 65 [(Sl.v x0)].toArray w (λe w'=>∃ (r0:Int),e=.returned (.int .i64 r0)/\Ret r0 w'):=by
 unfold zGn at H
 refine zl 33 (zipE 0 [(Sl.v x0)]) Tryz.func65 rfl rfl (by rfl) rfl ?_
 intro a g
 replace g:Sat [] 33 [(0,(Sl.v x0))] a:=g
 refine zJ (zE (g.as_ rfl λ_ g=>zM (tn (zJ (zJ (zE (g.mv rfl λ_ g=>g.purR (λw=>ZQ g Tryz.underlying30 rfl) λ_ g=>g.pur (zBC g rfl rfl) λ_ g=>zM (tn (zb g rfl (λhc=>?_) (λhc=>?_))))))))))
 ·replace H:=H.1 hc
  exact zJ (zE (g.as_ rfl λ_ g=>zM (tn (zg (tr (zt g rfl rfl ⟨_,rfl,H⟩))))))
 ·replace H:=H.2 hc
  refine zX (tn (zJ (zJ (zE (g.mv rfl λ_ g=>g.call (zZ g zRa rfl rfl) H λe w H=>?_)))))
  obtain ⟨r,rfl,H⟩:=H
  refine ⟨_,rfl,λ_ g=>(zM (tn (zd g rfl (λhc=>?_) (λhc=>?_))))⟩
  ·replace H:=H.1 hc
   exact zJ (zE (g.as_ rfl λ_ g=>zM (tn (zg (tr (zt g rfl rfl ⟨_,rfl,H⟩))))))
  ·replace H:=H.2 hc
   refine zX (tn (zJ (zE (g.op (zJA) H λx13 w a H g=>g.as_ rfl λ_ g=>zM (tn (zJ (zJ (zE (g.mv rfl λ_ g=>g.purR (λw=>ZQ g Tryz.underlying30 rfl) λ_ g=>g.mv rfl λ_ g=>zM (tn (zW ?_)))))))))))
   obtain ⟨I_l1,μ_l1,h0,hb⟩:=H
   refine yD (ds:=[]) (N:=33) (σ:=Int) (λs=>[(16,(.int .i64 s)),(3,(.map x13)),(14,(Sl.v x0)),(15,(.int .i64 (x0.len:Int)))]) (λs w=>I_l1 s w) (λs w=>μ_l1 s w) 0 h0 (g.wk) ?_
   intro x16 w a hI g
   try dsimp only at hI g
   obtain ⟨Kl1,hK_l1⟩:∃ K:Int->World->Prop,K=(λx16' w'=>I_l1 x16' w'/\μ_l1 x16' w'<μ_l1 x16 w):=⟨_,rfl⟩
   have H:zEF x0 Ret x13 x16 w Kl1:=by rw [hK_l1];exact hb x16 w hI
   clear hb h0 hI
   unfold zEF at H
   refine zJ (zE (g.pur (yS g rfl rfl) λ_ g=>zM (tn (zJ (zb g rfl (λhc=>?_) (λhc=>?_))))))
   ·replace H:=H.1 hc
    refine zX (tn (zJ (zW (zJ (zE (g.op (zH g rfl rfl) H λx18 w a H g=>g.op (zN g rfl) H λx19 w a H g=>g.op (YW) H λx5 w a H g=>g.opu (zT g rfl rfl) H λw a H g=>zM (tn (zJ (zJ (zE (g.mv rfl λ_ g=>g.op (zS g rfl) H λx22 w a H g=>g.op (zN g rfl) H λx23 w a H g=>g.op (zHc g rfl rfl) H λx24 w a H g=>g.mv rfl λ_ g=>g.pur (za g rfl rfl) λ_ g=>g.pur (za g rfl rfl) λ_ g=>g.op (YW) H λx6 w a H g=>g.opu (zT g rfl rfl) H λw a H g=>g.as_ rfl λ_ g=>zM (tn (zJ (zE (g.mv rfl λ_ g=>zM (tn (zd g rfl (λhc=>?_) (λhc=>?_))))))))))))))))))
    ·replace H:=H.1 hc
     exact zJ (zE (g.as_ rfl λ_ g=>zM (tn (zg (tr (br (tr (tr (br (tr (zt g rfl rfl ⟨_,rfl,H⟩)))))))))))
    ·replace H:=H.2 hc
     refine zX (tn (zE (g.mv rfl λ_ g=>g.op (zS g rfl) H λx29 w a H g=>g.op (zN g rfl) H λx30 w a H g=>g.op (zAg g rfl) H λx31 w a H g=>g.opu (zHZ g rfl rfl rfl) H λw a H g=>zM (bn (tn (zE (g.pur (zm g rfl rfl) λ_ g=>g.mv rfl λ_ g=>?_)))))))
     rw [hK_l1] at H
     exact zM (tn ⟨(zB .i64 (x16+1)),g.wk,H⟩)
   ·replace H:=H.2 hc
    exact z5 (te (te (be (tn (zJ (zE (g.as_ rfl λ_ g=>zM (tn (zg (zt g rfl rfl ⟨_,rfl,H⟩))))))))))
def zGy (x0:zG) (x1:Option Addr) (w:World) (Ret:Bool->World->Prop):Prop:=
 opE zA zC (Instr.box 72 (zG.v x0)) w (λx2 w=>opE zA zC (zO 72 (.pointer x2) 1) w (λx4 w=>opE zA (zV .u64) (zD 37 (.pointer x4)) w (λx5 w=>opE zA (zV .u64) (zD 37 (.pointer x1)) w (λx6 w=>Ret (decide (x6<=x5)) w))))
set_option maxRecDepth 100000 in
theorem zKF (x0:zG) (x1:Option Addr) (w:World) (Ret:Bool->World->Prop) (H:zGy x0 x1 w Ret):Cl zA 66 [(zG.v x0),(.pointer x1)].toArray w (λe w'=>∃ (r0:Bool),e=.returned (.bool r0)/\Ret r0 w'):=by
 unfold zGy at H
 refine zl 8 (zipE 0 [(zG.v x0),(.pointer x1)]) Tryz.func66 rfl rfl (by rfl) rfl ?_
 intro a g
 replace g:Sat [] 8 [(0,(zG.v x0)),(1,(.pointer x1))] a:=g
 exact zJ (zE (g.op (zBa g rfl) H λx2 w a H g=>(g.as_ rfl λ_ g=>(zM (tn (zJ (zE (g.op (zS g rfl) H λx4 w a H g=>(g.op (zN g rfl) H λx5 w a H g=>(g.op (zN g rfl) H λx6 w a H g=>(g.pur (ZT g rfl rfl) λ_ g=>(g.as_ rfl λ_ g=>(zM (tn (zg (zt g rfl rfl ⟨_,rfl,H⟩))))))))))))))))
def zGm (x0:zG) (x1:zG) (w:World) (Ret:Int->World->Prop):Prop:=
 opE zA zC (Instr.box 72 (zG.v x0)) w (λx2 w=>opE zA zC (Instr.box 72 (zG.v x1)) w (λx3 w=>regC w (λC1 w=>opC C1 zA zC (zO 72 (.pointer x2) 0) (λx5=>opC C1 zA zC (zO 72 (.pointer x3) 0) (λx7=>opC C1 zA zC (zO 72 (.pointer x2) 1) (λx10=>opC C1 zA zC (zO 72 (.pointer x3) 1) (λx12=>opC C1 zA zY (zD 9 (.pointer x5)) (λx6=>opC C1 zA zY (zD 9 (.pointer x7)) (λx8=>opC C1 zA (zV .u64) (zD 37 (.pointer x10)) (λx11=>opC C1 zA (zV .u64) (zD 37 (.pointer x12)) (λx13=>Cl zA 48 [(.string x6),(.string x8)].toArray w (λe w=>∃ (r:Int),e=.returned (.int .i64 r)/\(C1 w/\(Cl zA 87 [(.int .u64 x11),(.int .u64 x13)].toArray w (λe w=>∃ (r_1:Int),e=.returned (.int .i64 r_1)/\(C1 w/\(opE zA Sl.v (zc 24 2 [(0,(.int .i64 r)),(1,(.int .i64 r_1))].toArray) w (λx15 w=>C1 w/\(Cl zA 86 [(Sl.v x15)].toArray w (λe w=>∃ (r_2:Int),e=.returned (.int .i64 r_2)/\(C1 w/\(Ret r_2 w))))))))))))))))))))))
set_option maxRecDepth 100000 in
theorem zKE (x0:zG) (x1:zG) (w:World) (Ret:Int->World->Prop) (H:zGm x0 x1 w Ret):Cl zA 68 [(zG.v x0),(zG.v x1)].toArray w (λe w'=>∃ (r0:Int),e=.returned (.int .i64 r0)/\Ret r0 w'):=by
 unfold zGm at H
 refine zl 17 (zipE 0 [(zG.v x0),(zG.v x1)]) Tryz.func68 rfl rfl (by rfl) rfl ?_
 intro a g
 replace g:Sat [] 17 [(0,(zG.v x0)),(1,(zG.v x1))] a:=g
 refine zJ (zE (g.op (zBa g rfl) H λx2 w a H g=>g.op (zBa g rfl) H λx3 w a H g=>g.as_ rfl λ_ g=>zM (tn (zJ (zNw H 13 λC1 w hC0 H=>g.ko 0 rfl hC0 (zS g rfl) H λx5 a H g=>g.ko 2 rfl hC0 (zS g rfl) H λx7 a H g=>g.ko 5 rfl hC0 (zS g rfl) H λx10 a H g=>g.ko 7 rfl hC0 (zS g rfl) H λx12 a H g=>g.ko 1 rfl hC0 (zN g rfl) H λx6 a H g=>g.ko 3 rfl hC0 (zN g rfl) H λx8 a H g=>g.ko 6 rfl hC0 (zN g rfl) H λx11 a H g=>g.ko 8 rfl hC0 (zN g rfl) H λx13 a H g=>WK.on 4 rfl ?_)))))
 intro K hK
 refine g.wcall (zZ g zOB rfl rfl) H λe w H=>?_
 obtain ⟨r,rfl,H⟩:=H
 refine ⟨_,rfl,λ_ g=>(hK _ _ ⟨H.1,?_⟩)⟩
 have hC1:=H.1
 replace H:=H.2
 refine WK.on 9 rfl ?_
 intro K hK
 refine g.wcall (zZ g zQ0 rfl rfl) H λe w H=>?_
 obtain ⟨r_1,rfl,H⟩:=H
 refine ⟨_,rfl,λ_ g=>(hK _ _ ⟨H.1,?_⟩)⟩
 have hC2:=H.1
 replace H:=H.2
 refine WK.on 10 rfl ?_
 intro K hK
 refine g.wop (Qz g rfl) H λx15 w a H g=>hK _ _ ⟨H.1,?_⟩
 have hC3:=H.1
 replace H:=H.2
 refine WK.on 11 rfl ?_
 intro K hK
 refine g.wcall (zZ g zRB rfl rfl) H λe w H=>?_
 obtain ⟨r_2,rfl,H⟩:=H
 refine ⟨_,rfl,λ_ g=>(hK _ _ ⟨H.1,?_⟩)⟩
 have hC4:=H.1
 replace H:=H.2
 exact g.kp 12 rfl hC4 (Q7 (Yt g rfl)) λ_ g=>WK.nil (by kernel_rfl) ((tn (zg (zt g rfl rfl ⟨_,rfl,H⟩))))
def zBx (Ret:Int->World->Prop) (r:Int) (x15:Bool) (w:World):Prop:=
 (x15=true->(Ret 9 w))/\(x15=false->(Ret r w))
def zGw (x0:zP) (x1:Int) (w:World) (Ret:Int->World->Prop):Prop:=
 opE zA zC (Instr.box 69 (zP.v x0)) w (λx2 w=>opE zA zP.v (zD 69 (.pointer x2)) w (λx6 w=>Cl zA 64 [(zP.v x6)].toArray w (λe w=>∃ (r:Int),e=.returned (.int .i64 r)/\(((r=0)->(opE zA zC (zO 69 (.pointer x2) 1) w (λx12 w=>opE zA (zV .u64) (zD 37 (.pointer x12)) w (λx13 w=>zBx Ret r (decide (x1<x13)) w))))/\(¬ (r=0)->(zBx Ret r false w))))))
set_option maxRecDepth 100000 in
theorem zKG (x0:zP) (x1:Int) (w:World) (Ret:Int->World->Prop) (H:zGw x0 x1 w Ret):Cl zA 69 [(zP.v x0),(.int .u64 x1)].toArray w (λe w'=>∃ (r0:Int),e=.returned (.int .i64 r0)/\Ret r0 w'):=by
 unfold zGw at H
 refine zl 17 (zipE 0 [(zP.v x0),(.int .u64 x1)]) Tryz.func69 rfl rfl (by rfl) rfl ?_
 intro a g
 replace g:Sat [] 17 [(0,(zP.v x0)),(1,(.int .u64 x1))] a:=g
 refine zJ (zE (g.op (zBa g rfl) H λx2 w a H g=>g.as_ rfl λ_ g=>zM (tn (zJ (zE (g.op (zN g rfl) H λx6 w a H g=>g.call (zZ g zOy rfl rfl) H λe w H=>?_))))))
 obtain ⟨r,rfl,H⟩:=H
 refine ⟨_,rfl,λ_ g=>(g.as_ rfl λ_ g=>zM (tn (zJ (zJ (zE (g.mv rfl λ_ g=>g.pur (zBF g rfl rfl) λ_ g=>g.mv rfl λ_ g=>WL.join (ds:=[]) (N:=17) (σ:=Bool) (λs=>[(15,(.bool s)),(5,(.int .i64 r))]) (λs w=>zBx Ret r s w) 5 ?_ (λhr1=>?_)))))))⟩
 ·intro x15 w a H g
  try dsimp only at H g
  unfold zBx at H
  refine zM (tn (zd g rfl (λhc=>?_) (λhc=>?_)))
  ·replace H:=H.1 hc
   exact zJ (zE (g.as_ rfl λ_ g=>zM (tn (zg (tr (zt g rfl rfl ⟨_,rfl,H⟩))))))
  ·replace H:=H.2 hc
   exact zX (tn (zJ (zE (g.mv rfl λ_ g=>g.as_ rfl λ_ g=>zM (tn (zg (zt g rfl rfl ⟨_,rfl,H⟩)))))))
 ·rcases Classical.em ((r=0)) with hbr1|hbr1
  ·replace H:=H.1 hbr1
   replace g:=g.bool (b:=true) (t:=10) rfl (decide_eq_true hbr1)
   exact g.on (by rfl) (by rfl) (g.mv rfl λ_ g=>g.on (by rfl) (by rfl) (g.op (zS g rfl) H λx12 w a H g=>g.on (by rfl) (by rfl) (g.op (zN g rfl) H λx13 w a H g=>g.on (by rfl) (by rfl) (g.pur (yS g rfl rfl) λ_ g=>g.pur (zu g rfl rfl) λ_ g=>hr1 (decide (x1<x13)) _ _ H (g.wk)))))
  ·replace H:=H.2 hbr1
   replace g:=g.bool (b:=false) (t:=10) rfl (decide_eq_false hbr1)
   exact g.off (by rfl) (by rfl) (by decide) (λ_ g=>g.off (by rfl) (by rfl) (by decide) (λ_ g=>g.off (by rfl) (by rfl) (by decide) (λ_ g=>g.off (by rfl) (by rfl) (by decide) (λ_ g=>g.pur (zv g rfl rfl) λ_ g=>hr1 false _ _ H (g.wk)))))
def zBM (x0:Sl) (Ret:zG->Bool->World->Prop) (x6:Option Addr) (x8:Int) (x32:Bool) (w:World):Prop:=
 (x32=true->(opE zA zG.v (QC 72 [].toArray) w (λx33 w=>opU zA (zK 72 (.pointer x6) (zG.v x33)) w (λw=>opR zA zG.v 72 x6 w (λq=>Ret q false w)))))/\(x32=false->(opE zA zC (zF 67 (Sl.v x0) (.int .i64 x8)) w (λx36 w=>opE zA zG.v (zD 72 (.pointer x36)) w (λx37 w=>opU zA (zK 72 (.pointer x6) (zG.v x37)) w (λw=>opR zA zG.v 72 x6 w (λq_1=>Ret q_1 true w))))))
def zCX (x0:Sl) (x1:ByteArray) (Ret:zG->Bool->World->Prop) (x6:Option Addr) (x8:Int) (w:World):Prop:=
 ((x8<0)->(zBM x0 Ret x6 x8 true w))/\(¬ (x8<0)->(opE zA zC (zF 67 (Sl.v x0) (.int .i64 x8)) w (λx27 w=>opE zA zC (zO 72 (.pointer x27) 0) w (λx28 w=>opE zA zY (zD 9 (.pointer x28)) w (λx29 w=>zBM x0 Ret x6 x8 (decide (x29≠x1)) w)))))
def zHw (x0:Sl) (x1:ByteArray) (x2:Int) (w:World) (Ret:zG->Bool->World->Prop):Prop:=
 opE zA zC (zk 72 true (.tuple #[])) w (λx6 w=>opE zA zG.v (QC 72 [(0,(.string x1)),(1,(.int .u64 x2))].toArray) w (λx14 w=>Cl zA 89 [(Sl.v x0),(zG.v x14),(.func (.func 68) #[] #[])].toArray w (λe w=>∃ (r:Int) (r_1:Bool),e=.returned (.tuple [(.int .i64 r),(.bool r_1)].toArray)/\(((!r_1)=true->(zCX x0 x1 Ret x6 (zB .i64 (r - 1)) w))/\((!r_1)=false->(zCX x0 x1 Ret x6 r w))))))
set_option maxRecDepth 100000 in
theorem zLA (x0:Sl) (x1:ByteArray) (x2:Int) (w:World) (Ret:zG->Bool->World->Prop) (H:zHw x0 x1 x2 w Ret):Cl zA 71 [(Sl.v x0),(.string x1),(.int .u64 x2)].toArray w (λe w'=>∃ (r0:zG) (r1:Bool),e=.returned (.tuple [(zG.v r0),(.bool r1)].toArray)/\Ret r0 r1 w'):=by
 unfold zHw at H
 refine zl 38 (zipE 0 [(Sl.v x0),(.string x1),(.int .u64 x2)]) Tryz.func71 rfl rfl (by rfl) rfl ?_
 intro a g
 replace g:Sat [] 38 [(0,(Sl.v x0)),(1,(.string x1)),(2,(.int .u64 x2))] a:=g
 refine zJ (zE (g.op (YW) H λx6 w a H g=>g.as_ rfl λ_ g=>zM (tn (zJ (zE (g.mv rfl λ_ g=>g.mv rfl λ_ g=>g.mv rfl λ_ g=>g.op (zAg g rfl) H λx14 w a H g=>g.call (zZ g zRE rfl rfl) H λe w H=>?_))))))
 obtain ⟨r,r_1,rfl,H⟩:=H
 refine ⟨_,rfl,λ_ g=>(g.mv rfl λ_ g=>g.pur (za g rfl rfl) λ_ g=>g.pur (za g rfl rfl) λ_ g=>g.as_ rfl λ_ g=>g.as_ rfl λ_ g=>zM (tn (zz (ds:=[]) (N:=38) (σ:=Int) (λs=>[(8,(.int .i64 s)),(0,(Sl.v x0)),(1,(.string x1)),(6,(.pointer x6))]) (λs w=>zCX x0 x1 Ret x6 s w) ?_ (λhj1=>?_))))⟩
 ·intro x8 w a H g
  try dsimp only at H g
  unfold zCX at H
  refine zJ (zJ (zE (g.mv rfl λ_ g=>g.pur (yS g rfl rfl) λ_ g=>g.mv rfl λ_ g=>WL.join (ds:=[]) (N:=38) (σ:=Bool) (λs=>[(32,(.bool s)),(0,(Sl.v x0)),(6,(.pointer x6)),(8,(.int .i64 x8))]) (λs w=>zBM x0 Ret x6 x8 s w) 8 ?_ (λhr2=>?_))))
  ·intro x32 w a H g
   try dsimp only at H g
   unfold zBM at H
   refine zM (tn (zd g rfl (λhc=>?_) (λhc=>?_)))
   ·replace H:=H.1 hc
    refine zJ (zE (g.op (zAg g rfl) H λx33 w a H g=>g.opu (zT g rfl rfl) H λw a H g=>g.as_ rfl λ_ g=>zM (tn ?_)))
    obtain ⟨q,ad,hp,hl,H⟩:=H
    exact zg (tr (zLF g (rs:=[.cell 6 72,.tmp 7]) (vs:=[(zG.v q),(.bool false)]) rfl ⟨⟨ad,by rw [← hp];rfl,hl⟩,rfl,trivial⟩ ⟨_,_,rfl,H⟩))
   ·replace H:=H.2 hc
    refine zX (tn (zJ (zE (g.mv rfl λ_ g=>g.mv rfl λ_ g=>g.op (zH g rfl rfl) H λx36 w a H g=>g.op (zN g rfl) H λx37 w a H g=>g.opu (zT g rfl rfl) H λw a H g=>g.as_ rfl λ_ g=>zM (tn ?_)))))
    obtain ⟨q_1,ad_1,hp_1,hl_1,H⟩:=H
    exact zg (zLF g (rs:=[.cell 6 72,.tmp 7]) (vs:=[(zG.v q_1),(.bool true)]) rfl ⟨⟨ad_1,by rw [← hp_1];rfl,hl_1⟩,rfl,trivial⟩ ⟨_,_,rfl,H⟩)
  ·rcases Classical.em ((x8<0)) with hbr2|hbr2
   ·replace H:=H.1 hbr2
    replace g:=g.bool (b:=true) (t:=24) rfl (decide_eq_true hbr2)
    exact g.off (by rfl) (by rfl) (by decide) (λ_ g=>g.off (by rfl) (by rfl) (by decide) (λ_ g=>g.off (by rfl) (by rfl) (by decide) (λ_ g=>g.off (by rfl) (by rfl) (by decide) (λ_ g=>g.off (by rfl) (by rfl) (by decide) (λ_ g=>g.off (by rfl) (by rfl) (by decide) (λ_ g=>g.off (by rfl) (by rfl) (by decide) (λ_ g=>g.pur (zu g rfl rfl) λ_ g=>hr2 true _ _ H (g.wk))))))))
   ·replace H:=H.2 hbr2
    replace g:=g.bool (b:=false) (t:=24) rfl (decide_eq_false hbr2)
    exact g.on (by rfl) (by rfl) (g.mv rfl λ_ g=>g.on (by rfl) (by rfl) (g.mv rfl λ_ g=>g.on (by rfl) (by rfl) (g.op (zH g rfl rfl) H λx27 w a H g=>g.on (by rfl) (by rfl) (g.op (zS g rfl) H λx28 w a H g=>g.on (by rfl) (by rfl) (g.op (zN g rfl) H λx29 w a H g=>g.on (by rfl) (by rfl) (g.mv rfl λ_ g=>g.on (by rfl) (by rfl) (g.pur (zNL g rfl rfl) λ_ g=>g.pur (zv g rfl rfl) λ_ g=>hr2 (decide (x29≠x1)) _ _ H (g.wk))))))))
 ·refine zJ (zE (g.mv rfl λ_ g=>g.pur (zAD g rfl) λ_ g=>zM (tn (zd g rfl (λhc=>?_) (λhc=>?_)))))
  ·replace H:=H.1 hc
   exact zE (g.mv rfl λ_ g=>g.pur (zq g rfl rfl) λ_ g=>g.as_ rfl λ_ g=>zM (tn (hj1 (zB .i64 (r - 1)) _ _ H (g.wk))))
  ·replace H:=H.2 hc
   exact zX (tn (hj1 r _ _ H (g.wk)))
def zCg (x0:ByteArray) (w:World) (Ret:Bool->World->Prop):Prop:=
 Ret (decide (x0≠x0)) w
set_option maxRecDepth 100000 in
theorem zFp (x0:ByteArray) (w:World) (Ret:Bool->World->Prop) (H:zCg x0 w Ret):Cl zA 74 [(.string x0)].toArray w (λe w'=>∃ (r0:Bool),e=.returned (.bool r0)/\Ret r0 w'):=by
 unfold zCg at H
 refine zl 6 (zipE 0 [(.string x0)]) Tryz.func74 rfl rfl (by rfl) rfl ?_
 intro a g
 replace g:Sat [] 6 [(0,(.string x0))] a:=g
 exact zJ (zE (g.as_ rfl λ_ g=>(zM (tn (zJ (zE (g.mv rfl λ_ g=>(g.mv rfl λ_ g=>(g.pur (zNL g rfl rfl) λ_ g=>(g.as_ rfl λ_ g=>(zM (tn (zg (zt g rfl rfl ⟨_,rfl,H⟩))))))))))))))
def yp (x0:Sl) (x1:Value) (Ret:Int->World->Prop) (x8:Int) (w:World) (Kl1:Int->World->Prop):Prop:=
 ((x8<(x0.len:Int))->(opE zA zC (zF 67 (Sl.v x0) (.int .i64 x8)) w (λx14 w=>opE zA zG.v (zD 72 (.pointer x14)) w (λx15 w=>zF5 zA x1 [(zG.v x15)] w (λe w=>∃ (r:Bool),e=.returned (.bool r)/\((r=true->(Ret x8 w))/\(r=false->(Kl1 (zB .i64 (x8+1)) w))))))))/\(¬ (x8<(x0.len:Int))->(Ret (-1) w))
def YN (x0:Sl) (x1:Value) (w:World) (Ret:Int->World->Prop):Prop:=
 ∃ (I:Int->World->Prop) (μ:Int->World->Nat),I 0 w/\∀ (x8:Int) w,I x8 w->yp x0 x1 Ret x8 w (λx8' w'=>I x8' w'/\μ x8' w'<μ x8 w)
set_option maxRecDepth 100000 in
theorem zAk (x0:Sl) (x1:Value) (w:World) (Ret:Int->World->Prop) (H:YN x0 x1 w Ret):Cl zA 78 [(Sl.v x0),x1].toArray w (λe w'=>∃ (r0:Int),e=.returned (.int .i64 r0)/\Ret r0 w'):=by
 unfold YN at H
 refine zl 19 (zipE 0 [(Sl.v x0),x1]) Tryz.func78 rfl rfl (by rfl) rfl ?_
 intro a g
 replace g:Sat [] 19 [(0,(Sl.v x0)),(1,x1)] a:=g
 refine zJ (zE (g.as_ rfl λ_ g=>zM (tn (zJ (zJ (zE (g.mv rfl λ_ g=>g.purR (λw=>ZQ g Tryz.underlying67 rfl) λ_ g=>g.mv rfl λ_ g=>zM (tn (zW ?_)))))))))
 obtain ⟨I_l1,μ_l1,h0,hb⟩:=H
 refine yD (ds:=[]) (N:=19) (σ:=Int) (λs=>[(8,(.int .i64 s)),(0,(Sl.v x0)),(1,x1),(7,(.int .i64 (x0.len:Int)))]) (λs w=>I_l1 s w) (λs w=>μ_l1 s w) 0 h0 (g.wk) ?_
 intro x8 w a hI g
 try dsimp only at hI g
 obtain ⟨Kl1,hK_l1⟩:∃ K:Int->World->Prop,K=(λx8' w'=>I_l1 x8' w'/\μ_l1 x8' w'<μ_l1 x8 w):=⟨_,rfl⟩
 have H:yp x0 x1 Ret x8 w Kl1:=by rw [hK_l1];exact hb x8 w hI
 clear hb h0 hI
 unfold yp at H
 refine zJ (zE (g.pur (yS g rfl rfl) λ_ g=>zM (tn (zJ (zb g rfl (λhc=>?_) (λhc=>?_))))))
 ·replace H:=H.1 hc
  refine zX (tn (zJ (zW (zJ (zE (g.mv rfl λ_ g=>g.as_ rfl λ_ g=>zM (tn (zJ (zE (g.mv rfl λ_ g=>g.mv rfl λ_ g=>g.mv rfl λ_ g=>g.op (zH g rfl rfl) H λx14 w a H g=>g.op (zN g rfl) H λx15 w a H g=>g.callV rfl rfl H λe w H=>?_))))))))))
  obtain ⟨r,rfl,H⟩:=H
  refine ⟨_,rfl,λ_ g=>(zM (tn (zd g rfl (λhc=>?_) (λhc=>?_))))⟩
  ·replace H:=H.1 hc
   exact zJ (zE (g.mv rfl λ_ g=>g.as_ rfl λ_ g=>zM (tn (zg (br (tr (tr (br (tr (zt g rfl rfl ⟨_,rfl,H⟩))))))))))
  ·replace H:=H.2 hc
   refine zX (bn (tn (zE (g.pur (zm g rfl rfl) λ_ g=>g.mv rfl λ_ g=>?_))))
   rw [hK_l1] at H
   exact zM (tn ⟨(zB .i64 (x8+1)),g.wk,H⟩)
 ·replace H:=H.2 hc
  exact z5 (te (te (be (tn (zJ (zE (g.as_ rfl λ_ g=>zM (tn (zg (zt g rfl rfl ⟨_,rfl,H⟩))))))))))
def ZL (x0:Sl) (x1:Value) (w:World) (Ret:Bool->World->Prop):Prop:=
 Cl zA 104 [(Sl.v x0),x1].toArray w (λe w=>∃ (r:Int),e=.returned (.int .i64 r)/\(Ret (decide (0<=r)) w))
set_option maxRecDepth 100000 in
theorem zCe (x0:Sl) (x1:Value) (w:World) (Ret:Bool->World->Prop) (H:ZL x0 x1 w Ret):Cl zA 83 [(Sl.v x0),x1].toArray w (λe w'=>∃ (r0:Bool),e=.returned (.bool r0)/\Ret r0 w'):=by
 unfold ZL at H
 refine zl 9 (zipE 0 [(Sl.v x0),x1]) Tryz.func83 rfl rfl (by rfl) rfl ?_
 intro a g
 replace g:Sat [] 9 [(0,(Sl.v x0)),(1,x1)] a:=g
 refine zJ (zE (g.as_ rfl λ_ g=>(zM (tn (zJ (zE (g.mv rfl λ_ g=>(g.mv rfl λ_ g=>(g.call (zZ g zQa rfl rfl) H λe w H=>?_)))))))))
 obtain ⟨r,rfl,H⟩:=H
 exact ⟨_,rfl,λ_ g=>(g.pur (ZT g rfl rfl) λ_ g=>(g.as_ rfl λ_ g=>(zM (tn (zg (zt g rfl rfl ⟨_,rfl,H⟩))))))⟩
def zCD (Ret:Bool->World->Prop) (x12:Bool) (w:World):Prop:=
 Ret x12 w
def zGA (x0:zI) (w:World) (Ret:Bool->World->Prop):Prop:=
 opE zA zC (Instr.box 34 (zI.v x0)) w (λx1 w=>opE zA zC (zO 34 (.pointer x1) 0) w (λx3 w=>opE zA zY (zD 9 (.pointer x3)) w (λx4 w=>((256<(x4.size:Int))->(zCD Ret true w))/\(¬ (256<(x4.size:Int))->(opE zA zC (zO 34 (.pointer x1) 1) w (λx8 w=>opE zA zY (zD 9 (.pointer x8)) w (λx9 w=>zCD Ret (decide (512<(x9.size:Int))) w)))))))
set_option maxRecDepth 100000 in
theorem zJR (x0:zI) (w:World) (Ret:Bool->World->Prop) (H:zGA x0 w Ret):Cl zA 84 [(zI.v x0)].toArray w (λe w'=>∃ (r0:Bool),e=.returned (.bool r0)/\Ret r0 w'):=by
 unfold zGA at H
 refine zl 13 (zipE 0 [(zI.v x0)]) Tryz.func84 rfl rfl (by rfl) rfl ?_
 intro a g
 replace g:Sat [] 13 [(0,(zI.v x0))] a:=g
 refine zJ (zE (g.op (zBa g rfl) H λx1 w a H g=>g.as_ rfl λ_ g=>zM (tn (zJ (zE (g.op (zS g rfl) H λx3 w a H g=>g.op (zN g rfl) H λx4 w a H g=>g.purR (λw=>zGk g Tryz.underlying9 rfl) λ_ g=>g.pur (zBC g rfl rfl) λ_ g=>g.mv rfl λ_ g=>WL.join (ds:=[]) (N:=13) (σ:=Bool) (λs=>[(12,(.bool s))]) (λs w=>zCD Ret s w) 5 ?_ (λhr1=>?_)))))))
 ·intro x12 w a H g
  try dsimp only at H g
  unfold zCD at H
  exact g.as_ rfl λ_ g=>zM (tn (zg (zt g rfl rfl ⟨_,rfl,H⟩)))
 ·rcases Classical.em ((256<(x4.size:Int))) with hbr1|hbr1
  ·replace H:=H.1 hbr1
   replace g:=g.bool (b:=true) (t:=7) rfl (decide_eq_true hbr1)
   exact g.off (by rfl) (by rfl) (by decide) (λ_ g=>g.off (by rfl) (by rfl) (by decide) (λ_ g=>g.off (by rfl) (by rfl) (by decide) (λ_ g=>g.off (by rfl) (by rfl) (by decide) (λ_ g=>g.pur (zu g rfl rfl) λ_ g=>hr1 true _ _ H (g.wk)))))
  ·replace H:=H.2 hbr1
   replace g:=g.bool (b:=false) (t:=7) rfl (decide_eq_false hbr1)
   exact g.on (by rfl) (by rfl) (g.op (zS g rfl) H λx8 w a H g=>g.on (by rfl) (by rfl) (g.op (zN g rfl) H λx9 w a H g=>g.on (by rfl) (by rfl) (g.purR (λw=>zGk g Tryz.underlying9 rfl) λ_ g=>g.on (by rfl) (by rfl) (g.pur (zBC g rfl rfl) λ_ g=>g.pur (zv g rfl rfl) λ_ g=>hr1 (decide (512<(x9.size:Int))) _ _ H (g.wk)))))
def zEH (x0:Sl) (Ret:Int->World->Prop) (x8:Int) (w:World) (Kl1:Int->World->Prop):Prop:=
 ((x8<(x0.len:Int))->(opE zA zC (zF 24 (Sl.v x0) (.int .i64 x8)) w (λx10 w=>opE zA (zV .i64) (zD 3 (.pointer x10)) w (λx11 w=>((x11≠0)->(Ret x11 w))/\(¬ (x11≠0)->(Kl1 (zB .i64 (x8+1)) w))))))/\(¬ (x8<(x0.len:Int))->(Ret 0 w))
def zG0 (x0:Sl) (w:World) (Ret:Int->World->Prop):Prop:=
 ∃ (I:Int->World->Prop) (μ:Int->World->Nat),I 0 w/\∀ (x8:Int) w,I x8 w->zEH x0 Ret x8 w (λx8' w'=>I x8' w'/\μ x8' w'<μ x8 w)
set_option maxRecDepth 100000 in
theorem zKP (x0:Sl) (w:World) (Ret:Int->World->Prop) (H:zG0 x0 w Ret):Cl zA 86 [(Sl.v x0)].toArray w (λe w'=>∃ (r0:Int),e=.returned (.int .i64 r0)/\Ret r0 w'):=by
 unfold zG0 at H
 refine zl 18 (zipE 0 [(Sl.v x0)]) Tryz.func86 rfl rfl (by rfl) rfl ?_
 intro a g
 replace g:Sat [] 18 [(0,(Sl.v x0))] a:=g
 refine zJ (zE (g.as_ rfl λ_ g=>zM (tn (zJ (zE (g.as_ rfl λ_ g=>zM (tn (zJ (zJ (zE (g.mv rfl λ_ g=>g.purR (λw=>ZQ g Tryz.underlying24 rfl) λ_ g=>g.mv rfl λ_ g=>zM (tn (zW ?_)))))))))))))
 obtain ⟨I_l1,μ_l1,h0,hb⟩:=H
 refine yD (ds:=[]) (N:=18) (σ:=Int) (λs=>[(8,(.int .i64 s)),(3,(.int .i64 0)),(6,(Sl.v x0)),(7,(.int .i64 (x0.len:Int)))]) (λs w=>I_l1 s w) (λs w=>μ_l1 s w) 0 h0 (g.wk) ?_
 intro x8 w a hI g
 try dsimp only at hI g
 obtain ⟨Kl1,hK_l1⟩:∃ K:Int->World->Prop,K=(λx8' w'=>I_l1 x8' w'/\μ_l1 x8' w'<μ_l1 x8 w):=⟨_,rfl⟩
 have H:zEH x0 Ret x8 w Kl1:=by rw [hK_l1];exact hb x8 w hI
 clear hb h0 hI
 unfold zEH at H
 refine zJ (zE (g.pur (yS g rfl rfl) λ_ g=>zM (tn (zJ (zb g rfl (λhc=>?_) (λhc=>?_))))))
 ·replace H:=H.1 hc
  refine zX (tn (zJ (zW (zJ (zE (g.op (zH g rfl rfl) H λx10 w a H g=>g.op (zN g rfl) H λx11 w a H g=>g.as_ rfl λ_ g=>zM (tn (zJ (zE (g.mv rfl λ_ g=>g.mv rfl λ_ g=>g.pur (zFL g rfl rfl) λ_ g=>zM (tn (zb g rfl (λhc=>?_) (λhc=>?_)))))))))))))
  ·replace H:=H.1 hc
   exact zJ (zE (g.mv rfl λ_ g=>g.as_ rfl λ_ g=>zM (tn (zg (br (tr (tr (br (tr (zt g rfl rfl ⟨_,rfl,H⟩))))))))))
  ·replace H:=H.2 hc
   refine zX (bn (tn (zE (g.pur (zm g rfl rfl) λ_ g=>g.mv rfl λ_ g=>?_))))
   rw [hK_l1] at H
   exact zM (tn ⟨(zB .i64 (x8+1)),g.wk,H⟩)
 ·replace H:=H.2 hc
  exact z5 (te (te (be (tn (zJ (zE (g.mv rfl λ_ g=>g.as_ rfl λ_ g=>zM (tn (zg (zt g rfl rfl ⟨_,rfl,H⟩))))))))))
def zDy (x0:Int) (x1:Int) (w:World) (Ret:Int->World->Prop):Prop:=
 Cl zA 113 [(.int .u64 x0)].toArray w (λe w=>∃ (r:Bool),e=.returned (.bool r)/\(Cl zA 113 [(.int .u64 x1)].toArray w (λe w=>∃ (r_1:Bool),e=.returned (.bool r_1)/\((r=true->((r_1=true->(Ret 0 w))/\(r_1=false->(Ret (-1) w))))/\(r=false->((r_1=true->(Ret 1 w))/\(r_1=false->(((x0<x1)->(Ret (-1) w))/\(¬ (x0<x1)->(((x1<x0)->(Ret 1 w))/\(¬ (x1<x0)->(Ret 0 w))))))))))))
set_option maxRecDepth 100000 in
theorem zHK (x0:Int) (x1:Int) (w:World) (Ret:Int->World->Prop) (H:zDy x0 x1 w Ret):Cl zA 87 [(.int .u64 x0),(.int .u64 x1)].toArray w (λe w'=>∃ (r0:Int),e=.returned (.int .i64 r0)/\Ret r0 w'):=by
 unfold zDy at H
 refine zl 20 (zipE 0 [(.int .u64 x0),(.int .u64 x1)]) Tryz.func87 rfl rfl (by rfl) rfl ?_
 intro a g
 replace g:Sat [] 20 [(0,(.int .u64 x0)),(1,(.int .u64 x1))] a:=g
 refine zJ (zE (g.as_ rfl λ_ g=>zM (tn (zJ (zE (g.mv rfl λ_ g=>g.call (zZ g zN7 rfl rfl) H λe w H=>?_))))))
 obtain ⟨r,rfl,H⟩:=H
 refine ⟨_,rfl,λ_ g=>(g.as_ rfl λ_ g=>zM (tn (zJ (zE (g.mv rfl λ_ g=>g.call (zZ g zN7 rfl rfl) H λe w H=>?_)))))⟩
 obtain ⟨r_1,rfl,H⟩:=H
 refine ⟨_,rfl,λ_ g=>(g.as_ rfl λ_ g=>zM (tn (zJ (zJ (zE (g.mv rfl λ_ g=>zM (tn (zd g rfl (λhc=>?_) (λhc=>?_)))))))))⟩
 ·replace H:=H.1 hc
  refine zJ (zJ (zE (g.mv rfl λ_ g=>zM (tn (zd g rfl (λhc=>?_) (λhc=>?_))))))
  ·replace H:=H.1 hc
   exact zJ (zE (g.as_ rfl λ_ g=>zM (tn (zg (tr (tr (zt g rfl rfl ⟨_,rfl,H⟩)))))))
  ·replace H:=H.2 hc
   exact zX (tn (zJ (zE (g.as_ rfl λ_ g=>zM (tn (zg (tr (zt g rfl rfl ⟨_,rfl,H⟩))))))))
 ·replace H:=H.2 hc
  refine zX (tn (zJ (zJ (zE (g.mv rfl λ_ g=>zM (tn (zd g rfl (λhc=>?_) (λhc=>?_))))))))
  ·replace H:=H.1 hc
   exact zJ (zE (g.as_ rfl λ_ g=>zM (tn (zg (tr (zt g rfl rfl ⟨_,rfl,H⟩))))))
  ·replace H:=H.2 hc
   refine zX (tn (zJ (zJ (zE (g.mv rfl λ_ g=>g.mv rfl λ_ g=>g.pur (yS g rfl rfl) λ_ g=>zM (tn (zb g rfl (λhc=>?_) (λhc=>?_))))))))
   ·replace H:=H.1 hc
    exact zJ (zE (g.as_ rfl λ_ g=>zM (tn (zg (tr (zt g rfl rfl ⟨_,rfl,H⟩))))))
   ·replace H:=H.2 hc
    refine zX (tn (zJ (zJ (zE (g.mv rfl λ_ g=>g.mv rfl λ_ g=>g.pur (zBC g rfl rfl) λ_ g=>zM (tn (zb g rfl (λhc=>?_) (λhc=>?_))))))))
    ·replace H:=H.1 hc
     exact zJ (zE (g.as_ rfl λ_ g=>zM (tn (zg (tr (zt g rfl rfl ⟨_,rfl,H⟩))))))
    ·replace H:=H.2 hc
     exact zX (tn (zJ (zE (g.as_ rfl λ_ g=>zM (tn (zg (zt g rfl rfl ⟨_,rfl,H⟩)))))))
def yJ (Ret:Int->Bool->World->Prop) (x9:Int) (x48:Bool) (w:World):Prop:=
 yG w (λw=>Ret x9 x48 w)
def yH (x0:Sl) (x2:Value) (Ret:Int->Bool->World->Prop) (x4:Option Addr) (x9:Int) (x10:Int) (w:World) (Kl1:Int->Int->World->Prop):Prop:=
 ((x9<x10)->(opE zA (zV .u64) (Go.convert 3 143 (.int .i64 (zB .i64 (x9+x10)))) w (λx21 w=>opE zA (zV .u64) (binOp .shr 143 (.int .u64 x21) (.int .u64 1)) w (λx22 w=>opE zA (zV .i64) (Go.convert 143 3 (.int .u64 x22)) w (λx23 w=>opB zA zC (zF 67 (Sl.v x0) (.int .i64 x23)) w (λx27=>opB zA zG.v (zD 72 (.pointer x27)) w (λx28=>opB zA zG.v (zD 72 (.pointer x4)) w (λx29=>∃ (r:Int),Zb zA x2 [(zG.v x28),(zG.v x29)] w (.int .i64 r)/\(yG w (λw=>((r<0)->(Kl1 (zB .i64 (x23+1)) x10 w))/\(¬ (r<0)->(Kl1 x9 x23 w))))))))))))/\(¬ (x9<x10)->(((x9<(x0.len:Int))->(opB zA zC (zF 67 (Sl.v x0) (.int .i64 x9)) w (λx43=>opB zA zG.v (zD 72 (.pointer x43)) w (λx44=>opB zA zG.v (zD 72 (.pointer x4)) w (λx45=>∃ (r_1:Int),Zb zA x2 [(zG.v x44),(zG.v x45)] w (.int .i64 r_1)/\(yJ Ret x9 (decide (r_1=0)) w))))))/\(¬ (x9<(x0.len:Int))->(yJ Ret x9 false w))))
def xn (x0:Sl) (x1:zG) (x2:Value) (w:World) (Ret:Int->Bool->World->Prop):Prop:=
 opE zA zC (Instr.box 72 (zG.v x1)) w (λx4 w=>∃ (I:Int->Int->World->Prop) (μ:Int->Int->World->Nat),I 0 (x0.len:Int) w/\∀ (x9:Int) (x10:Int) w,I x9 x10 w->yH x0 x2 Ret x4 x9 x10 w (λx9' x10' w'=>I x9' x10' w'/\μ x9' x10' w'<μ x9 x10 w))
set_option maxRecDepth 100000 in
theorem zA4 (x0:Sl) (x1:zG) (x2:Value) (w:World) (Ret:Int->Bool->World->Prop) (H:xn x0 x1 x2 w Ret):Cl zA 89 [(Sl.v x0),(zG.v x1),x2].toArray w (λe w'=>∃ (r0:Int) (r1:Bool),e=.returned (.tuple [(.int .i64 r0),(.bool r1)].toArray)/\Ret r0 r1 w'):=by
 unfold xn at H
 refine zl 49 (zipE 0 [(Sl.v x0),(zG.v x1),x2]) Tryz.func89 rfl rfl (by rfl) rfl ?_
 intro a g
 replace g:Sat [] 49 [(0,(Sl.v x0)),(1,(zG.v x1)),(2,x2)] a:=g
 refine zJ (zE (g.op (zBa g rfl) H λx4 w a H g=>g.as_ rfl λ_ g=>g.as_ rfl λ_ g=>zM (tn (zJ (zE (g.mv rfl λ_ g=>g.purR (λw=>ZQ g Tryz.underlying67 rfl) λ_ g=>g.as_ rfl λ_ g=>zM (tn (zJ (zE (g.mv rfl λ_ g=>g.as_ rfl λ_ g=>g.as_ rfl λ_ g=>zM (tn (zJ (zW ?_)))))))))))))
 obtain ⟨I_l1,μ_l1,h0,hb⟩:=H
 refine yD (ds:=[]) (N:=49) (σ:=Int × Int) (λs=>[(9,(.int .i64 s.1)),(10,(.int .i64 s.2)),(0,(Sl.v x0)),(2,x2),(4,(.pointer x4)),(8,(.int .i64 (x0.len:Int)))]) (λs w=>I_l1 s.1 s.2 w) (λs w=>μ_l1 s.1 s.2 w) (0,(x0.len:Int)) h0 (g.wk) ?_
 rintro ⟨x9,x10⟩ w a hI g
 try dsimp only at hI g
 obtain ⟨Kl1,hK_l1⟩:∃ K:Int->Int->World->Prop,K=(λx9' x10' w'=>I_l1 x9' x10' w'/\μ_l1 x9' x10' w'<μ_l1 x9 x10 w):=⟨_,rfl⟩
 have H:yH x0 x2 Ret x4 x9 x10 w Kl1:=by rw [hK_l1];exact hb x9 x10 w hI
 clear hb h0 hI
 unfold yH at H
 refine zJ (zJ (zE (g.mv rfl λ_ g=>g.mv rfl λ_ g=>g.pur (yS g rfl rfl) λ_ g=>zM (tn (zb g rfl (λhc=>?_) (λhc=>?_))))))
 ·replace H:=H.1 hc
  refine zX (tn (zW (zJ (zE (g.mv rfl λ_ g=>g.mv rfl λ_ g=>g.pur (zm g rfl rfl) λ_ g=>g.op (zBR g rfl) H λx21 w a H g=>g.op (Y3 g rfl rfl) H λx22 w a H g=>g.op (zBR g rfl) H λx23 w a H g=>g.as_ rfl λ_ g=>zM (tn (zJ (QP (by kernel_rfl) (by kernel_rfl) (g.qm rfl λ_ g=>g.qm rfl λ_ g=>g.qm rfl λ_ g=>g.qop (zH g rfl rfl) H λx27 a H g=>g.qop (zN g rfl) H λx28 a H g=>g.qop (zN g rfl) H λx29 a H g=>?_)))))))))
  obtain ⟨r,hc,H⟩:=H
  refine g.qcallV rfl rfl hc λ_ g=>g.qpur (yS g rfl rfl) λ_ g=>QO (λw hB=>?_)
  replace H:=H w hB
  refine (tn (zb g rfl (λhc=>?_) (λhc=>?_)))
  ·replace H:=H.1 hc
   refine zE (g.mv rfl λ_ g=>g.pur (zm g rfl rfl) λ_ g=>g.as_ rfl λ_ g=>?_)
   rw [hK_l1] at H
   exact zM (bn (tn ⟨((zB .i64 (x23+1)),x10),g.wk,H⟩))
  ·replace H:=H.2 hc
   refine zE (g.mv rfl λ_ g=>g.as_ rfl λ_ g=>?_)
   rw [hK_l1] at H
   exact zM (bn (tn ⟨(x9,x23),g.wk,H⟩))
 ·replace H:=H.2 hc
  refine z5 (te (te (be (tn (zJ (QP (by kernel_rfl) (by kernel_rfl) (g.qm rfl λ_ g=>g.qm rfl λ_ g=>g.qm rfl λ_ g=>g.qpur (yS g rfl rfl) λ_ g=>g.qm rfl λ_ g=>WQ.join (ds:=[]) (N:=49) (σ:=Bool) (λs=>[(48,(.bool s)),(35,(.int .i64 x9))]) (λs=>yJ Ret x9 s w) 9 ?_ (λhr2=>?_))))))))
  ·intro x48 a H g
   try dsimp only at H g
   unfold yJ at H
   refine g.qpur (Yt g rfl) λ_ g=>g.qpur (Yt g rfl) λ_ g=>QO (λw hB=>?_)
   replace H:=H w hB
   exact (tn (zg (Zu g rfl rfl rfl ⟨_,_,rfl,H⟩)))
  ·rcases Classical.em ((x9<(x0.len:Int))) with hbr2|hbr2
   ·replace H:=H.1 hbr2
    replace g:=g.bool (b:=true) (t:=39) rfl (decide_eq_true hbr2)
    refine g.qon (by rfl) (by rfl) (g.qm rfl λ_ g=>g.qon (by rfl) (by rfl) (g.qm rfl λ_ g=>g.qon (by rfl) (by rfl) (g.qm rfl λ_ g=>g.qon (by rfl) (by rfl) (g.qop (zH g rfl rfl) H λx43 a H g=>g.qon (by rfl) (by rfl) (g.qop (zN g rfl) H λx44 a H g=>g.qon (by rfl) (by rfl) (g.qop (zN g rfl) H λx45 a H g=>g.qon (by rfl) (by rfl) ?_))))))
    obtain ⟨r_1,hc,H⟩:=H
    exact g.qcallV rfl rfl hc λ_ g=>g.qon (by rfl) (by rfl) (g.qpur (zBF g rfl rfl) λ_ g=>g.qpur (zu g rfl rfl) λ_ g=>hr2 (decide (r_1=0)) _ H (g.wk))
   ·replace H:=H.2 hbr2
    replace g:=g.bool (b:=false) (t:=39) rfl (decide_eq_false hbr2)
    exact g.qoff (by rfl) (by rfl) (by decide) (λ_ g=>g.qoff (by rfl) (by rfl) (by decide) (λ_ g=>g.qoff (by rfl) (by rfl) (by decide) (λ_ g=>g.qoff (by rfl) (by rfl) (by decide) (λ_ g=>g.qoff (by rfl) (by rfl) (by decide) (λ_ g=>g.qoff (by rfl) (by rfl) (by decide) (λ_ g=>g.qoff (by rfl) (by rfl) (by decide) (λ_ g=>g.qoff (by rfl) (by rfl) (by decide) (λ_ g=>g.qpur (zv g rfl rfl) λ_ g=>hr2 false _ H (g.wk)))))))))
def YO (x0:Sl) (x1:Value) (Ret:Int->World->Prop) (x8:Int) (w:World) (Kl1:Int->World->Prop):Prop:=
 ((x8<(x0.len:Int))->(opE zA zC (zF 30 (Sl.v x0) (.int .i64 x8)) w (λx14 w=>opE zA zI.v (zD 34 (.pointer x14)) w (λx15 w=>zF5 zA x1 [(zI.v x15)] w (λe w=>∃ (r:Bool),e=.returned (.bool r)/\((r=true->(Ret x8 w))/\(r=false->(Kl1 (zB .i64 (x8+1)) w))))))))/\(¬ (x8<(x0.len:Int))->(Ret (-1) w))
def Zv (x0:Sl) (x1:Value) (w:World) (Ret:Int->World->Prop):Prop:=
 ∃ (I:Int->World->Prop) (μ:Int->World->Nat),I 0 w/\∀ (x8:Int) w,I x8 w->YO x0 x1 Ret x8 w (λx8' w'=>I x8' w'/\μ x8' w'<μ x8 w)
set_option maxRecDepth 100000 in
theorem zDX (x0:Sl) (x1:Value) (w:World) (Ret:Int->World->Prop) (H:Zv x0 x1 w Ret):Cl zA 104 [(Sl.v x0),x1].toArray w (λe w'=>∃ (r0:Int),e=.returned (.int .i64 r0)/\Ret r0 w'):=by
 unfold Zv at H
 refine zl 19 (zipE 0 [(Sl.v x0),x1]) Tryz.func104 rfl rfl (by rfl) rfl ?_
 intro a g
 replace g:Sat [] 19 [(0,(Sl.v x0)),(1,x1)] a:=g
 refine zJ (zE (g.as_ rfl λ_ g=>zM (tn (zJ (zJ (zE (g.mv rfl λ_ g=>g.purR (λw=>ZQ g Tryz.underlying30 rfl) λ_ g=>g.mv rfl λ_ g=>zM (tn (zW ?_)))))))))
 obtain ⟨I_l1,μ_l1,h0,hb⟩:=H
 refine yD (ds:=[]) (N:=19) (σ:=Int) (λs=>[(8,(.int .i64 s)),(0,(Sl.v x0)),(1,x1),(7,(.int .i64 (x0.len:Int)))]) (λs w=>I_l1 s w) (λs w=>μ_l1 s w) 0 h0 (g.wk) ?_
 intro x8 w a hI g
 try dsimp only at hI g
 obtain ⟨Kl1,hK_l1⟩:∃ K:Int->World->Prop,K=(λx8' w'=>I_l1 x8' w'/\μ_l1 x8' w'<μ_l1 x8 w):=⟨_,rfl⟩
 have H:YO x0 x1 Ret x8 w Kl1:=by rw [hK_l1];exact hb x8 w hI
 clear hb h0 hI
 unfold YO at H
 refine zJ (zE (g.pur (yS g rfl rfl) λ_ g=>zM (tn (zJ (zb g rfl (λhc=>?_) (λhc=>?_))))))
 ·replace H:=H.1 hc
  refine zX (tn (zJ (zW (zJ (zE (g.mv rfl λ_ g=>g.as_ rfl λ_ g=>zM (tn (zJ (zE (g.mv rfl λ_ g=>g.mv rfl λ_ g=>g.mv rfl λ_ g=>g.op (zH g rfl rfl) H λx14 w a H g=>g.op (zN g rfl) H λx15 w a H g=>g.callV rfl rfl H λe w H=>?_))))))))))
  obtain ⟨r,rfl,H⟩:=H
  refine ⟨_,rfl,λ_ g=>(zM (tn (zd g rfl (λhc=>?_) (λhc=>?_))))⟩
  ·replace H:=H.1 hc
   exact zJ (zE (g.mv rfl λ_ g=>g.as_ rfl λ_ g=>zM (tn (zg (br (tr (tr (br (tr (zt g rfl rfl ⟨_,rfl,H⟩))))))))))
  ·replace H:=H.2 hc
   refine zX (bn (tn (zE (g.pur (zm g rfl rfl) λ_ g=>g.mv rfl λ_ g=>?_))))
   rw [hK_l1] at H
   exact zM (tn ⟨(zB .i64 (x8+1)),g.wk,H⟩)
 ·replace H:=H.2 hc
  exact z5 (te (te (be (tn (zJ (zE (g.as_ rfl λ_ g=>zM (tn (zg (zt g rfl rfl ⟨_,rfl,H⟩))))))))))
def zCl (x0:Int) (w:World) (Ret:Bool->World->Prop):Prop:=
 Ret (decide (x0≠x0)) w
set_option maxRecDepth 100000 in
theorem zFo (x0:Int) (w:World) (Ret:Bool->World->Prop) (H:zCl x0 w Ret):Cl zA 113 [(.int .u64 x0)].toArray w (λe w'=>∃ (r0:Bool),e=.returned (.bool r0)/\Ret r0 w'):=by
 unfold zCl at H
 refine zl 6 (zipE 0 [(.int .u64 x0)]) Tryz.func113 rfl rfl (by rfl) rfl ?_
 intro a g
 replace g:Sat [] 6 [(0,(.int .u64 x0))] a:=g
 exact zJ (zE (g.as_ rfl λ_ g=>(zM (tn (zJ (zE (g.mv rfl λ_ g=>(g.mv rfl λ_ g=>(g.pur (zFL g rfl rfl) λ_ g=>(g.as_ rfl λ_ g=>(zM (tn (zg (zt g rfl rfl ⟨_,rfl,H⟩))))))))))))))
end Go.Proofs.YtealcoghiaeiiaaGreat.VG
set_option linter.unusedVariables false
namespace Go.Proofs.YtealcoghiaeiiaaGreat.VG
open Go.VB Go.VB.Srt Go.Proofs Go.RowKit
abbrev zEd (w:World) (s:Sl) (l:List Ver):Prop:=Rd zG.cells 4 w s l
abbrev Zg (base:Nat) (w:World) (s:Sl) (l:List Ver):Prop:=OwnS zG.cells 4 yE base w s l
theorem Zg.rd {base:Nat} {w:World} {s:Sl} {l:List Ver} (h:Zg base w s l):zEd w s l:=OwnS.rd h (λ_=>rfl)
def cmpS (x y:ByteArray):Int:=if sLt x y=true then -1 else if x=y then 0 else 1
def cmpU (x y:Int):Int:=if x<y then -1 else if y<x then 1 else 0
theorem zK2 {x y:ByteArray}:cmpS x y<0↔sLt x y=true:=by
 unfold cmpS;split
 ·simp [*]
 ·rename_i h
  split
  ·exact ⟨λh=>absurd h (by decide),λh1=>absurd h1 h⟩
  ·exact ⟨λh=>absurd h (by decide),λh1=>absurd h1 h⟩
theorem zHy {x y:ByteArray}:cmpS x y=0↔x=y:=by
 unfold cmpS;split
 ·rename_i h;exact ⟨λh=>absurd h (by decide),λe=>absurd e (zKw h)⟩
 ·split<;>simp [*]
theorem zPX {x y:Int}:cmpU x y<0↔x<y:=by unfold cmpU;split<;>(try split)<;>omega
theorem zNz {x y:Int}:cmpU x y=0↔x=y:=by unfold cmpU;split<;>(try split)<;>omega
def ordI (a b:Ver):Int:=if cmpS a.Key b.Key≠0 then cmpS a.Key b.Key else cmpU a.At b.At
theorem zIb {a b:Ver}:ordI a b<0↔vlt a b:=by
 unfold ordI vlt
 by_cases h:cmpS a.Key b.Key=0
 ·rw [if_neg (by simp [h])]
  have hk:=zHy.1 h
  rw [zPX]
  exact ⟨λh1=>.inr ⟨hk,h1⟩,λh1=>by
   rcases h1 with h1|h1
   ·exact absurd hk (zKw h1)
   ·exact h1.2⟩
 ·rw [if_pos h,zK2]
  exact ⟨λh1=>.inl h1,λh1=>by
   rcases h1 with h1|h1
   ·exact h1
   ·exact absurd (zHy.2 h1.1) h⟩
theorem zNX {a b:Ver}:ordI a b=0↔a.Key=b.Key/\a.At=b.At:=by
 unfold ordI
 by_cases h:cmpS a.Key b.Key=0
 ·rw [if_neg (by simp [h]),zNz]
  exact ⟨λh1=>⟨zHy.1 h,h1⟩,λh1=>h1.2⟩
 ·rw [if_pos h]
  exact ⟨λh1=>absurd h1 h,λh1=>absurd (zHy.2 h1.1) h⟩
theorem zHb (x y:ByteArray) (w:World) {k:Int->World->Prop} (H:k (cmpS x y) w):Cl zA zHH [.string x,.string y].toArray w (λe w'=>∃ r0:Int,e=.returned (.int .i64 r0)/\k r0 w'):=by
 refine zHI x y w k ?_
 unfold zDo
 refine zFp x w _ ?_
 unfold zCg
 refine zFp y w _ ?_
 unfold zCg
 rw [decide_eq_false (p:=x≠x) (by simp),decide_eq_false (p:=y≠y) (by simp)]
 refine ⟨λh=>(nomatch h),λ_=>⟨λh=>(nomatch h),λ_=>⟨λh=>?_,λh=>⟨λh1=>?_,λh1=>?_⟩⟩⟩⟩
 ·unfold cmpS at H;rw [if_pos h] at H;exact H
 ·unfold cmpS at H
  rw [zOR] at h1
  rw [if_neg (by rw [h];decide),if_neg (λe=>Zl x (by rw [← e] at h1;exact h1))] at H;exact H
 ·unfold cmpS at H
  rw [zOR] at h1
  have hxy:x=y:=Classical.byContradiction λhn=>by
   have:=zD4 (x:=x) (y:=y) (by rw [h];decide) hn
   rw [h1] at this;cases this
  rw [if_neg (by rw [h];decide),if_pos hxy] at H;exact H
theorem zLp (x y:Int) (w:World) {k:Int->World->Prop} (H:k (cmpU x y) w):Cl zA zHL [.int .u64 x,.int .u64 y].toArray w (λe w'=>∃ r0:Int,e=.returned (.int .i64 r0)/\k r0 w'):=by
 refine zHK x y w k ?_
 unfold zDy
 refine zFo x w _ ?_
 unfold zCl
 refine zFo y w _ ?_
 unfold zCl
 rw [decide_eq_false (p:=x≠x) (by simp),decide_eq_false (p:=y≠y) (by simp)]
 unfold cmpU at H
 refine ⟨λh=>(nomatch h),λ_=>⟨λh=>(nomatch h),λ_=>⟨λh=>?_,λh=>⟨λh1=>?_,λh1=>?_⟩⟩⟩⟩
 ·rw [if_pos h] at H;exact H
 ·rw [if_neg h,if_pos h1] at H;exact H
 ·rw [if_neg h,if_neg h1] at H;exact H
theorem zQj {w:World} {s:Sl} {a b:Int} (h:Rd (λx:Int=>[zV .i64 x]) 1 w s [a,b]) {k:Int->World->Prop} (H:k (if a≠0 then a else b) w):
  Cl zA zKI [Sl.v s].toArray w (λe w'=>∃ r0:Int,e=.returned (.int .i64 r0)/\k r0 w'):=by
 refine zKP s w k ?_
 have hlen:=h.len
 simp at hlen
 unfold zG0
 refine ⟨λx W=>W=w/\(x=0∨(x=1/\a=0)∨(x=2/\a=0/\b=0)),λx _=>(2 - x).toNat,⟨rfl,.inl rfl⟩,?_⟩
 rintro x W ⟨rfl,hx⟩
 unfold zEH
 refine ⟨λhlt=>?_,λhlt=>?_⟩
 ·rcases hx with rfl|⟨rfl,ha⟩|⟨rfl,_,_⟩
  ·refine zDR h zC3 zFw (by omega) (x:=a) rfl λad hA=>?_
   refine zAS zBs a (by have:=hA 0 (.int .i64 a) rfl;simpa [Addr.add] using this) ?_
   refine ⟨λhn=>by rw [if_pos hn] at H;exact H,λhn=>⟨⟨rfl,.inr (.inl ⟨by rw [wr64 (by omega) (by omega)];rfl,Classical.not_not.1 hn⟩)⟩,by rw [wr64 (by omega) (by omega)];dsimp only;omega⟩⟩
  ·refine zDR h zC3 zFw (by omega) (x:=b) rfl λad hA=>?_
   refine zAS zBs b (by have:=hA 0 (.int .i64 b) rfl;simpa [Addr.add] using this) ?_
   rw [if_neg (by simp [ha])] at H
   refine ⟨λhn=>H,λhn=>⟨⟨rfl,.inr (.inr ⟨by rw [wr64 (by omega) (by omega)];rfl,ha,Classical.not_not.1 hn⟩)⟩,by rw [wr64 (by omega) (by omega)];dsimp only;omega⟩⟩
  ·omega
 ·rcases hx with rfl|⟨rfl,ha⟩|⟨rfl,ha,hb⟩
  ·omega
  ·omega
  ·rw [if_neg (by simp [ha]),hb] at H;exact H
theorem zLs (a b:Ver) (w:World) {k:Int->World->Prop} (H:∀ w',Bel w w'->k (ordI a b) w'):
  Cl zA zC2 [zG.v a,zG.v b].toArray w (λe w'=>∃ r0:Int,e=.returned (.int .i64 r0)/\k r0 w'):=by
 refine zKE a b w k ?_
 unfold zGm
 refine zJ2 (cs:=a.cells) rfl ?_
 have h1:=At.new w a.cells yE
 have b1:Bel w (w.alloc (.cells a.cells.toArray yE)):=Bel.alloc _ _
 generalize w.heap.size=B1 at h1 ⊢
 generalize (w.alloc (.cells a.cells.toArray yE))=w1 at h1 b1 ⊢
 refine zJ2 (cs:=b.cells) rfl ?_
 have h2:=At.new w1 b.cells yE
 have b2:Bel w1 (w1.alloc (.cells b.cells.toArray yE)):=Bel.alloc _ _
 generalize w1.heap.size=B2 at h2 ⊢
 generalize (w1.alloc (.cells b.cells.toArray yE))=w2 at h2 b2 ⊢
 replace h1:=h1.bel b2
 have b02:=b1.trans b2
 refine ⟨Bel w2,λw3 b3=>⟨b3,?_⟩⟩
 refine zFX Y7 ?_
 refine zFX Y7 ?_
 refine zFX zAU ?_
 refine zFX zAU ?_
 refine zCy zn a.Key (λw hw=>(h1.bel hw).fld rfl) ?_
 refine zCy zn b.Key (λw hw=>(h2.bel hw).fld rfl) ?_
 refine zCy yK a.At (λw hw=>(h1.bel hw).fld rfl) ?_
 refine zCy yK b.At (λw hw=>(h2.bel hw).fld rfl) ?_
 refine zHb a.Key b.Key w3 ⟨b3,?_⟩
 refine zLp a.At b.At w3 ⟨b3,?_⟩
 have hl:=Rd.lit (c:=λx:Int=>[zV .i64 x]) (n:=1) (λ_=>rfl) [cmpS a.Key b.Key,cmpU a.At b.At] (by simp) w3 ZC
 have b4:Bel w3 (w3.alloc (.cells ([cmpS a.Key b.Key,cmpU a.At b.At].flatMap λx:Int=>[zV .i64 x]).toArray ZC)):=Bel.alloc _ _
 refine ⟨⟨some ⟨w3.heap.size,0,none⟩,2,2⟩,(w3.alloc (.cells ([cmpS a.Key b.Key,cmpU a.At b.At].flatMap λx:Int=>[zV .i64 x]).toArray ZC)),by kernel_rfl,?_⟩
 refine ⟨b3.trans b4,?_⟩
 exact zQj hl ⟨b3.trans b4,H _ ((b02.trans b3).trans b4)⟩
def vltB (a b:Ver):Bool:=sLt a.Key b.Key||(decide (a.Key=b.Key)&&decide (a.At<b.At))
theorem zGf {a b:Ver}:vltB a b=true↔vlt a b:=by
 unfold vltB vlt;simp
theorem zOs:Srt.SWO vltB where
 irr x:=by
  cases h:vltB x x with
  |false=>rfl
  |true=>exact absurd (zGf.1 h) (zIp x)
 neg x y z h:=by
  by_cases h1:vltB x y=true
  ·exact .inl h1
  ·right
   rw [zGf] at*
   by_cases h2:x.Key=y.Key/\x.At=y.At
   ·rcases h with h|h
    ·left;rw [← h2.1];exact h
    ·right;rw [← h2.1,← h2.2];exact h
   ·exact zIF (zNS h1 h2) h
 asy x y h:=by
  cases h1:vltB y x with
  |false=>rfl
  |true=>exact absurd (zGf.1 h1) (zPM (zGf.1 h))
theorem zIQ (a b:Ver) (w:World):Zb zA (.func (.func zC2) #[] #[]) [zG.v a,zG.v b] w (.int .i64 (ordI a b)):=
 ⟨zC2,[],[],rfl,zPv,λw' _=>(zLs a b w' (k:=λr W=>r=ordI a b/\Bel w' W) λW hb=>⟨rfl,hb⟩).mono λe W ⟨r,he,hr,hb⟩=>⟨by rw [he,hr],hb⟩⟩
theorem zPY (a b:Ver) (w:World):∀ w',Bel w w'->Cl zA zC2 [zG.v a,zG.v b].toArray w' (λe w''=>e=.returned (.int .i64 (ordI a b))/\Bel w' w''):=
 λw' _=>(zLs a b w' (k:=λr W=>r=ordI a b/\Bel w' W) λW hb=>⟨rfl,hb⟩).mono λe W ⟨r,he,hr,hb⟩=>⟨by rw [he,hr],hb⟩
theorem zMa:SoCmpFunc_api_Version.Cmps (.func (.func zC2) #[] #[]) vltB:=λw x y=>⟨ordI x y,zIQ x y w,by rw [zGf,zIb]⟩
end Go.Proofs.YtealcoghiaeiiaaGreat.VG
set_option linter.unusedVariables false
namespace Go.Proofs.YtealcoghiaeiiaaGreat.VG
open Go.VB Go.VB.Srt Go.Proofs Go.RowKit
theorem zG3 {l:List Ver} (hs:l.Pairwise vlt) {i j:Nat} {x y:Ver} (h:i<j) (hx:l[i]?=some x) (hy:l[j]?=some y):vlt x y:=by
 have a:=List.getElem?_eq_some_iff.1 hx;have b:=List.getElem?_eq_some_iff.1 hy
 have:=List.pairwise_iff_getElem.1 hs i j a.1 b.1 h
 rw [a.2,b.2] at this;exact this
theorem zQ3 (n:Nat):((n:Int)).fdiv (2 ^ (min (1:Int).toNat IntKind.u64.bits))=((n / 2:Nat):Int):=by
 rw [show min (1:Int).toNat IntKind.u64.bits=1 by decide,Int.fdiv_eq_ediv_of_nonneg _ (by decide)]
 omega
theorem zNZ {w:World} {s:Sl} {l:List Ver} (h:zEd w s l) (hs:l.Pairwise vlt) (t:Ver) {k:Int->Bool->World->Prop}
  (H:∀ (i:Nat) (b:Bool) w',i<=l.length->(∀ j x,j<i->l[j]?=some x->vlt x t)->(∀ j x,i<=j->l[j]?=some x->¬ vlt x t)->(b=true↔∃ x,l[i]?=some x/\x.Key=t.Key/\x.At=t.At)->Bel w w'->k (i:Int) b w'):
  Cl zA zAm [Sl.v s,zG.v t,.func (.func zC2) #[] #[]].toArray w (λe w'=>∃ (r0:Int) (r1:Bool),e=.returned (.tuple [.int .i64 r0,.bool r1].toArray)/\k r0 r1 w'):=by
 refine zA4 s t _ w k ?_
 have hlen:=h.len;have hbig:=h.big
 unfold xn
 refine zJ2 (cs:=t.cells) rfl ?_
 have ht:=At.new w t.cells yE
 have b1:Bel w (w.alloc (.cells t.cells.toArray yE)):=Bel.alloc _ _
 generalize w.heap.size=B1 at ht ⊢
 generalize (w.alloc (.cells t.cells.toArray yE))=w1 at ht b1 ⊢
 refine ⟨λx y W=>∃ i j:Nat,x=(i:Int)/\y=(j:Int)/\i<=j/\j<=l.length/\Bel w1 W/\(∀ n x,n<i->l[n]?=some x->vlt x t)/\(∀ n x,j<=n->l[n]?=some x->¬ vlt x t),λx y _=>(y - x).toNat,
  ⟨0,l.length,rfl,by omega,by omega,by omega,Bel.refl _,λn x hn=>by omega,λn x hn hx=>by have:=(List.getElem?_eq_some_iff.1 hx).1;omega⟩,?_⟩
 rintro x y W ⟨i,j,rfl,rfl,hij,hj,hb,hlo,hhi⟩
 have hb0:=b1.trans hb
 unfold yH
 refine ⟨λhlt=>?_,λhlt=>?_⟩
 ·rw [wr64 (by omega) (by omega)]
  refine zE7 (by kernel_rfl) (by kernel_rfl) ?_
  rw [show zB .u64 ((i:Int)+(j:Int))=((i+j:Nat):Int) by unfold zB;simp [IntKind.signed,IntKind.bits];omega]
  refine ⟨_,W,zIy (by decide) W,?_⟩
  rw [zQ3]
  refine zE7 (by kernel_rfl) (by kernel_rfl) ?_
  rw [wr64 (by omega) (by omega)]
  obtain ⟨e,he⟩:∃ e,l[(i+j) / 2]?=some e:=⟨l[(i+j) / 2]'(by omega),by simp⟩
  refine zHP (h.bel hb0) yk QN (by omega) (x:=e) (by rw [Int.toNat_natCast];exact he) λad hA=>?_
  refine zHT yI e rfl hA rfl ?_
  refine zHT yI t rfl (ht.bel hb) rfl ?_
  refine ⟨ordI e t,zIQ e t W,?_⟩
  intro W2 hb2
  refine ⟨λhr=>?_,λhr=>?_⟩
  ·rw [wr64 (by omega) (by omega)]
   have hv:=zIb.1 hr
   refine ⟨⟨(i+j) / 2+1,j,by omega,rfl,by omega,hj,hb.trans hb2,λn x hn hx=>?_,hhi⟩,by dsimp only;omega⟩
   rcases Nat.lt_or_ge n ((i+j) / 2) with h1|h1
   ·exact zIF (zG3 hs h1 hx he) hv
   ·obtain rfl:n=(i+j) / 2:=by omega
    rw [he] at hx;cases hx;exact hv
  ·have hv:¬ vlt e t:=λh1=>hr (zIb.2 h1)
   refine ⟨⟨i,(i+j) / 2,rfl,rfl,by omega,by omega,hb.trans hb2,hlo,λn x hn hx=>?_⟩,by dsimp only;omega⟩
   rcases Nat.lt_or_ge ((i+j) / 2) n with h1|h1
   ·exact λh2=>hv (zIF (zG3 hs h1 he hx) h2)
   ·obtain rfl:n=(i+j) / 2:=by omega
    rw [he] at hx;cases hx;exact hv
 ·obtain rfl:i=j:=by omega
  refine ⟨λhl=>?_,λhl=>?_⟩
  ·obtain ⟨e,he⟩:∃ e,l[i]?=some e:=⟨l[i]'(by omega),by simp⟩
   refine zHP (h.bel hb0) yk QN (by omega) (x:=e) (by simpa using he) λad hA=>?_
   refine zHT yI e rfl hA rfl ?_
   refine zHT yI t rfl (ht.bel hb) rfl ?_
   refine ⟨ordI e t,zIQ e t W,?_⟩
   intro W2 hb2
   refine H i _ W2 hj hlo hhi ?_ (hb0.trans hb2)
   rw [decide_eq_true_iff,zNX]
   exact ⟨λh1=>⟨e,he,h1⟩,λ⟨x,hx,h1⟩=>by rw [he] at hx;cases hx;exact h1⟩
  ·intro W2 hb2
   refine H i _ W2 hj hlo hhi ?_ (hb0.trans hb2)
   exact ⟨λh=>(nomatch h),λ⟨x,hx,_⟩=>by have:=(List.getElem?_eq_some_iff.1 hx).1;omega⟩
theorem zJf {l:List Ver} (hs:l.Pairwise vlt) {key:ByteArray} {t:Int} {i:Nat} (hhi:∀ j x,i<=j->l[j]?=some x->¬ vlt x ⟨key,t,noB,false⟩)
  (hb:¬ ∃ x,l[i]?=some x/\x.Key=key/\x.At=t) {x:Ver} {j:Nat} (hx:l[j]?=some x) (hk:x.Key=key) (ht:x.At<=t):j<i:=by
 rcases Nat.lt_or_ge j i with h|h
 ·exact h
 ·have h1:=hhi j x h hx
  have h2:x.At=t:=by
   have:¬ x.At<t:=λh3=>h1 (.inr ⟨hk,h3⟩)
   omega
  rcases Nat.lt_or_ge i j with h3|h3
  ·obtain ⟨y,hy⟩:∃ y,l[i]?=some y:=⟨l[i]'(by have:=(List.getElem?_eq_some_iff.1 hx).1;omega),by simp⟩
   have h4:=zG3 hs h3 hy hx
   refine absurd ?_ (hhi i y (zU _) hy)
   rcases h4 with h4|h4
   ·left;rw [← hk];exact h4
   ·right;rw [← hk,← h2];exact h4
  ·obtain rfl:j=i:=by omega
   exact absurd ⟨x,hx,hk,h2⟩ hb
theorem zNa {l:List Ver} (hs:l.Pairwise vlt) {key:ByteArray} {t:Int} {i:Nat} {x:Ver} (hx:l[i]?=some x) (hk:x.Key=key) (ht:x.At=t):sees l key t=some x:=
 zHO hs (List.mem_of_getElem? hx) hk (by omega) λy _ _ h=>by omega
theorem zNd {l:List Ver} (hs:l.Pairwise vlt) {key:ByteArray} {t:Int} {i:Nat} (hlo:∀ j x,j<i->l[j]?=some x->vlt x ⟨key,t,noB,false⟩) (hhi:∀ j x,i<=j->l[j]?=some x->¬ vlt x ⟨key,t,noB,false⟩)
  (hb:¬ ∃ x,l[i]?=some x/\x.Key=key/\x.At=t):(i=0->sees l key t=none)/\∀ j y,i=j+1->l[j]?=some y->(y.Key=key->sees l key t=some y)/\(y.Key≠key->sees l key t=none):=by
 refine ⟨λh0=>?_,λj y hj hy=>⟨λhk=>?_,λhk=>?_⟩⟩
 ·rw [zD5]
  rintro x hx ⟨h1,h2⟩
  obtain ⟨n,hn⟩:=List.getElem?_of_mem hx
  have:=zJf hs hhi hb hn h1 h2
  omega
 ·have hy1:=hlo j y (by omega) hy
  have hyt:y.At<t:=by
   rcases hy1 with h1|h1
   ·rw [hk] at h1;exact absurd h1 (Zl _)
   ·exact h1.2
  refine zHO hs (List.mem_of_getElem? hy) hk (by omega) λx hx h1 h2=>?_
  obtain ⟨n,hn⟩:=List.getElem?_of_mem hx
  have:=zJf hs hhi hb hn h1 h2
  rcases Nat.lt_or_ge n j with h3|h3
  ·rcases zG3 hs h3 hn hy with h4|h4
   ·rw [h1,hk] at h4;exact absurd h4 (Zl _)
   ·omega
  ·obtain rfl:n=j:=by omega
   rw [hy] at hn;cases hn;exact Int.le_refl _
 ·have hy1:=hlo j y (by omega) hy
  have hyk:sLt y.Key key=true:=by
   rcases hy1 with h1|h1
   ·exact h1
   ·exact absurd h1.1 hk
  rw [zD5]
  rintro x hx ⟨h1,h2⟩
  obtain ⟨n,hn⟩:=List.getElem?_of_mem hx
  have:=zJf hs hhi hb hn h1 h2
  rcases Nat.lt_or_ge n j with h3|h3
  ·have h4:=zNK (zG3 hs h3 hn hy)
   rw [h1] at h4;exact h4 hyk
  ·obtain rfl:n=j:=by omega
   rw [hy] at hn;cases hn;exact hk h1
abbrev zOE:Ver:=⟨noB,0,noB,false⟩
def zKa:Option Ver->Ver
 |none=>zOE
 |some x=>x
theorem zKs {w:World} {s:Sl} {l:List Ver} (h:zEd w s l) (hs:l.Pairwise vlt) (key:ByteArray) (t:Int) {k:Ver->Bool->World->Prop}
  (H:∀ w',Bel w w'->k (zKa (sees l key t)) (sees l key t).isSome w'):
  Cl zA zLK [Sl.v s,.string key,.int .u64 t].toArray w (λe w'=>∃ (r0:Ver) (r1:Bool),e=.returned (.tuple [zG.v r0,.bool r1].toArray)/\k r0 r1 w'):=by
 refine zLA s key t w k ?_
 have hlen:=h.len;have hbig:=h.big
 unfold zHw
 refine zHg zBW ?_
 have hrow:=Row.new w zD9 yE
 have b1:Bel w (w.alloc (.cells (zD9).toArray yE)):=Bel.alloc _ _
 have hR:w.heap.size<=w.heap.size:=zU _
 generalize hB:w.heap.size=B1 at hrow hR ⊢
 generalize (w.alloc (.cells (zD9).toArray yE))=w1 at hrow b1 ⊢
 refine ⟨⟨key,t,noB,false⟩,w1,by kernel_rfl,?_⟩
 refine zNZ (h.bel b1) hs ⟨key,t,noB,false⟩ λi b w2 hi hlo hhi hbb b2=>?_
 have b02:=b1.trans b2
 have hrow2:=hrow.bel b2
 have fin:∀ (x:Ver) (bb:Bool),zKa (sees l key t)=x->(sees l key t).isSome=bb->∀ w3,Row w3 B1 x.cells yE->w2.grownBy w3 (some B1)->opR zA zG.v yE (some ⟨B1,0,none⟩) w3 (λq=>k q bb w3):=by
  intro x bb h1 h2 w3 hr3 hg
  refine R.agg yI x rfl hr3.at rfl ?_
  rw [← h1,← h2]
  exact H w3 (b02.grown hg (λq hq=>by cases hq;omega))
 have no:sees l key t=none->zBM s k (some ⟨B1,0,none⟩) ((i:Int) - 1) true w2:=by
  intro hn
  unfold zBM
  refine ⟨λ_=>?_,λh=>(nomatch h)⟩
  refine ⟨zOE,w2,by kernel_rfl,?_⟩
  refine zIC yI hrow2 rfl rfl rfl λw3 hr3 hg=>?_
  exact fin zOE false (by rw [hn];rfl) (by rw [hn];rfl) w3 hr3 hg
 have yes:∀ (n:Nat) (x:Ver),l[n]?=some x->sees l key t=some x->zBM s k (some ⟨B1,0,none⟩) (n:Int) false w2:=by
  intro n x hx hn
  unfold zBM
  refine ⟨λh=>(nomatch h),λ_=>?_⟩
  refine zDR (h.bel b02) yk QN (by omega) (x:=x) (by simpa using hx) λad hA=>?_
  refine zBI yI x rfl hA rfl ?_
  refine zIC yI hrow2 rfl rfl rfl λw3 hr3 hg=>?_
  exact fin x true (by rw [hn];rfl) (by rw [hn];rfl) w3 hr3 hg
 refine ⟨λhf=>?_,λhf=>?_⟩
 ·have hb0:¬ ∃ x,l[i]?=some x/\x.Key=key/\x.At=t:=λhx=>by rw [hbb.2 hx] at hf;cases hf
  obtain ⟨p0,p1⟩:=zNd hs hlo hhi hb0
  rw [wr64 (by omega) (by omega)]
  unfold zCX
  refine ⟨λhi0=>no (p0 (by omega)),λhi0=>?_⟩
  obtain ⟨y,hy⟩:∃ y,l[i - 1]?=some y:=⟨l[i - 1]'(by omega),by simp⟩
  obtain ⟨p2,p3⟩:=p1 (i - 1) y (by omega) hy
  refine zDR (h.bel b02) yk QN (by omega) (x:=y) (by rw [show ((i:Int) - 1).toNat=i - 1 by omega];exact hy) λad hA=>?_
  refine yy Y7 zn hA y.Key rfl ?_
  by_cases hk:y.Key=key
  ·rw [decide_eq_false (λh=>h hk),show (i:Int) - 1=((i - 1:Nat):Int) by omega]
   exact yes _ y hy (p2 hk)
  ·rw [decide_eq_true hk]
   exact no (p3 hk)
 ·have hb1:b=true:=by cases b<;>simp_all
  obtain ⟨x,hx,hk,ht⟩:=hbb.1 hb1
  unfold zCX
  refine ⟨λhi0=>by omega,λhi0=>?_⟩
  refine zDR (h.bel b02) yk QN (by omega) (x:=x) (by simpa using hx) λad hA=>?_
  refine yy Y7 zn hA x.Key rfl ?_
  rw [decide_eq_false (λh=>h hk)]
  exact yes i x hx (zNa hs hx hk ht)
end Go.Proofs.YtealcoghiaeiiaaGreat.VG
set_option linter.unusedVariables false
set_option linter.unusedSimpArgs false
namespace Go.Proofs.YtealcoghiaeiiaaGreat.VG
open Go.VB Go.Proofs
def zBq (x1:Sl) (Ret:Sl->World->Prop) (x5:Sl) (x13:Int) (w:World) (Kl1:Sl->Int->World->Prop):Prop:=
 ((x13<(x1.len:Int))->(opE zA zC (zF 30 (Sl.v x1) (.int .i64 x13)) w (λx15 w=>opE zA zI.v (zD 34 (.pointer x15)) w (λx16 w=>opE zA zC (zk 34 true (.tuple #[])) w (λx7 w=>opU zA (zK 34 (.pointer x7) (zI.v x16)) w (λw=>opE zA zI.v (zD 34 (.pointer x7)) w (λx18 w=>Cl zA 41 [(Sl.v x5),(zI.v x18)].toArray w (λe w=>∃ (r:Sl),e=.returned (Sl.v r)/\(Kl1 r (zB .i64 (x13+1)) w)))))))))/\(¬ (x13<(x1.len:Int))->(Ret x5 w))
def zFK (x0:Sl) (x1:Sl) (w:World) (Ret:Sl->World->Prop):Prop:=
 opE zA Sl.v (zc 22 0 [].toArray) w (λx8 w=>opE zA Sl.v (Builtin.append_ #[22,22] 22 [(Sl.v x8),(Sl.v x0)].toArray) w (λx10 w=>∃ (I:Sl->Int->World->Prop) (μ:Sl->Int->World->Nat),I x10 0 w/\∀ (x5:Sl) (x13:Int) w,I x5 x13 w->zBq x1 Ret x5 x13 w (λx5' x13' w'=>I x5' x13' w'/\μ x5' x13' w'<μ x5 x13 w)))
set_option maxRecDepth 100000 in
theorem zIJ (x0:Sl) (x1:Sl) (w:World) (Ret:Sl->World->Prop) (H:zFK x0 x1 w Ret):Cl zA 16 [(Sl.v x0),(Sl.v x1)].toArray w (λe w'=>∃ (r0:Sl),e=.returned (Sl.v r0)/\Ret r0 w'):=by
 unfold zFK at H
 refine zl 22 (zipE 0 [(Sl.v x0),(Sl.v x1)]) Tryz.func16 rfl rfl (by rfl) rfl ?_
 intro a g
 replace g:Sat [] 22 [(0,(Sl.v x0)),(1,(Sl.v x1))] a:=g
 refine zJ (zE (g.as_ rfl λ_ g=>zM (tn (zJ (zE (g.op (Qz g rfl) H λx8 w a H g=>g.mv rfl λ_ g=>g.op (zBE g rfl) H λx10 w a H g=>g.as_ rfl λ_ g=>zM (tn (zJ (zJ (zE (g.mv rfl λ_ g=>g.purR (λw=>ZQ g Tryz.underlying30 rfl) λ_ g=>g.mv rfl λ_ g=>zM (tn (zW ?_)))))))))))))
 obtain ⟨I_l1,μ_l1,h0,hb⟩:=H
 refine yD (ds:=[]) (N:=22) (σ:=Sl × Int) (λs=>[(5,(Sl.v s.1)),(13,(.int .i64 s.2)),(11,(Sl.v x1)),(12,(.int .i64 (x1.len:Int)))]) (λs w=>I_l1 s.1 s.2 w) (λs w=>μ_l1 s.1 s.2 w) (x10,0) h0 (g.wk) ?_
 rintro ⟨x5,x13⟩ w a hI g
 try dsimp only at hI g
 obtain ⟨Kl1,hK_l1⟩:∃ K:Sl->Int->World->Prop,K=(λx5' x13' w'=>I_l1 x5' x13' w'/\μ_l1 x5' x13' w'<μ_l1 x5 x13 w):=⟨_,rfl⟩
 have H:zBq x1 Ret x5 x13 w Kl1:=by rw [hK_l1];exact hb x5 x13 w hI
 clear hb h0 hI
 unfold zBq at H
 refine zJ (zE (g.pur (yS g rfl rfl) λ_ g=>zM (tn (zJ (zb g rfl (λhc=>?_) (λhc=>?_))))))
 ·replace H:=H.1 hc
  refine zX (tn (zJ (zW (zJ (zE (g.op (zH g rfl rfl) H λx15 w a H g=>g.op (zN g rfl) H λx16 w a H g=>g.op (YW) H λx7 w a H g=>g.opu (zT g rfl rfl) H λw a H g=>zM (tn (zE (g.mv rfl λ_ g=>g.op (zN g rfl) H λx18 w a H g=>g.call (zZ g zRM rfl rfl) H λe w H=>?_)))))))))
  obtain ⟨r,rfl,H⟩:=H
  refine ⟨_,rfl,λ_ g=>(g.as_ rfl λ_ g=>zM (bn (tn (zE (g.pur (zm g rfl rfl) λ_ g=>g.mv rfl λ_ g=>?_)))))⟩
  rw [hK_l1] at H
  exact zM (tn ⟨(r,(zB .i64 (x13+1))),g.wk,H⟩)
 ·replace H:=H.2 hc
  exact z5 (te (te (be (tn (zJ (zE (g.mv rfl λ_ g=>g.as_ rfl λ_ g=>zM (tn (zg (zt g rfl rfl ⟨_,rfl,H⟩))))))))))
def zBg (x0:Sl) (x1:Sl) (Ret:Bool->World->Prop) (x13:Int) (w:World) (Kl1:Int->World->Prop):Prop:=
 ((x13<(x0.len:Int))->(opB zA zC (zF 22 (Sl.v x0) (.int .i64 x13)) w (λx18=>opB zA zL.v (zD 66 (.pointer x18)) w (λx19=>opB zA zC (zF 22 (Sl.v x1) (.int .i64 x13)) w (λx22=>opB zA zL.v (zD 66 (.pointer x22)) w (λx23=>opB zA Qq (do eqGuard .neq 66 (.tmp 19) (.tmp 23) (zL.v x19) (zL.v x23);binOp .neq 66 (zL.v x19) (zL.v x23)) w (λx24=>yG w (λw=>(x24=true->(Ret false w))/\(x24=false->(Kl1 (zB .i64 (x13+1)) w))))))))))/\(¬ (x13<(x0.len:Int))->(Ret true w))
def zEp (x0:Sl) (x1:Sl) (w:World) (Ret:Bool->World->Prop):Prop:=
 (((x0.len:Int)≠(x1.len:Int))->(Ret false w))/\(¬ ((x0.len:Int)≠(x1.len:Int))->(∃ (I:Int->World->Prop) (μ:Int->World->Nat),I 0 w/\∀ (x13:Int) w,I x13 w->zBg x0 x1 Ret x13 w (λx13' w'=>I x13' w'/\μ x13' w'<μ x13 w)))
set_option maxRecDepth 100000 in
theorem zH7 (x0:Sl) (x1:Sl) (w:World) (Ret:Bool->World->Prop) (H:zEp x0 x1 w Ret):Cl zA 18 [(Sl.v x0),(Sl.v x1)].toArray w (λe w'=>∃ (r0:Bool),e=.returned (.bool r0)/\Ret r0 w'):=by
 unfold zEp at H
 refine zl 26 (zipE 0 [(Sl.v x0),(Sl.v x1)]) Tryz.func18 rfl rfl (by rfl) rfl ?_
 intro a g
 replace g:Sat [] 26 [(0,(Sl.v x0)),(1,(Sl.v x1))] a:=g
 refine zJ (zE (g.as_ rfl λ_ g=>zM (tn (zJ (zJ (zE (g.mv rfl λ_ g=>g.purR (λw=>ZQ g Tryz.underlying22 rfl) λ_ g=>g.mv rfl λ_ g=>g.purR (λw=>ZQ g Tryz.underlying22 rfl) λ_ g=>g.pur (zFL g rfl rfl) λ_ g=>zM (tn (zb g rfl (λhc=>?_) (λhc=>?_))))))))))
 ·replace H:=H.1 hc
  exact zJ (zE (g.as_ rfl λ_ g=>zM (tn (zg (tr (zt g rfl rfl ⟨_,rfl,H⟩))))))
 ·replace H:=H.2 hc
  refine zX (tn (zJ (zJ (zE (g.mv rfl λ_ g=>g.purR (λw=>ZQ g Tryz.underlying22 rfl) λ_ g=>g.mv rfl λ_ g=>zM (tn (zW ?_)))))))
  obtain ⟨I_l1,μ_l1,h0,hb⟩:=H
  refine yD (ds:=[]) (N:=26) (σ:=Int) (λs=>[(13,(.int .i64 s)),(0,(Sl.v x0)),(1,(Sl.v x1)),(12,(.int .i64 (x0.len:Int)))]) (λs w=>I_l1 s w) (λs w=>μ_l1 s w) 0 h0 (g.wk) ?_
  intro x13 w a hI g
  try dsimp only at hI g
  obtain ⟨Kl1,hK_l1⟩:∃ K:Int->World->Prop,K=(λx13' w'=>I_l1 x13' w'/\μ_l1 x13' w'<μ_l1 x13 w):=⟨_,rfl⟩
  have H:zBg x0 x1 Ret x13 w Kl1:=by rw [hK_l1];exact hb x13 w hI
  clear hb h0 hI
  unfold zBg at H
  refine zJ (zE (g.pur (yS g rfl rfl) λ_ g=>zM (tn (zJ (zb g rfl (λhc=>?_) (λhc=>?_))))))
  ·replace H:=H.1 hc
   refine zX (tn (zJ (zW (zJ (zE (g.mv rfl λ_ g=>g.as_ rfl λ_ g=>zM (tn (zJ (QP (by kernel_rfl) (by kernel_rfl) (g.qm rfl λ_ g=>g.qm rfl λ_ g=>g.qop (zH g rfl rfl) H λx18 a H g=>g.qop (zN g rfl) H λx19 a H g=>g.qm rfl λ_ g=>g.qm rfl λ_ g=>g.qop (zH g rfl rfl) H λx22 a H g=>g.qop (zN g rfl) H λx23 a H g=>g.qop (zCs g rfl rfl) H λx24 a H g=>QO (λw hB=>?_)))))))))))
   replace H:=H w hB
   refine (tn (zd g rfl (λhc=>?_) (λhc=>?_)))
   ·replace H:=H.1 hc
    exact zJ (zE (g.as_ rfl λ_ g=>zM (tn (zg (br (tr (tr (br (tr (zt g rfl rfl ⟨_,rfl,H⟩))))))))))
   ·replace H:=H.2 hc
    refine zX (bn (tn (zE (g.pur (zm g rfl rfl) λ_ g=>g.mv rfl λ_ g=>?_))))
    rw [hK_l1] at H
    exact zM (tn ⟨(zB .i64 (x13+1)),g.wk,H⟩)
  ·replace H:=H.2 hc
   exact z5 (te (te (be (tn (zJ (zE (g.as_ rfl λ_ g=>zM (tn (zg (zt g rfl rfl ⟨_,rfl,H⟩))))))))))
def zAQ (x0:Sl) (x1:Sl) (Ret:Bool->World->Prop) (x13:Int) (w:World) (Kl1:Int->World->Prop):Prop:=
 ((x13<(x0.len:Int))->(opB zA zC (zF 30 (Sl.v x0) (.int .i64 x13)) w (λx18=>opB zA zI.v (zD 34 (.pointer x18)) w (λx19=>opB zA zC (zF 30 (Sl.v x1) (.int .i64 x13)) w (λx22=>opB zA zI.v (zD 34 (.pointer x22)) w (λx23=>opB zA Qq (do eqGuard .neq 34 (.tmp 19) (.tmp 23) (zI.v x19) (zI.v x23);binOp .neq 34 (zI.v x19) (zI.v x23)) w (λx24=>yG w (λw=>(x24=true->(Ret false w))/\(x24=false->(Kl1 (zB .i64 (x13+1)) w))))))))))/\(¬ (x13<(x0.len:Int))->(Ret true w))
def zCI (x0:Sl) (x1:Sl) (w:World) (Ret:Bool->World->Prop):Prop:=
 (((x0.len:Int)≠(x1.len:Int))->(Ret false w))/\(¬ ((x0.len:Int)≠(x1.len:Int))->(∃ (I:Int->World->Prop) (μ:Int->World->Nat),I 0 w/\∀ (x13:Int) w,I x13 w->zAQ x0 x1 Ret x13 w (λx13' w'=>I x13' w'/\μ x13' w'<μ x13 w)))
set_option maxRecDepth 100000 in
theorem zGF (x0:Sl) (x1:Sl) (w:World) (Ret:Bool->World->Prop) (H:zCI x0 x1 w Ret):Cl zA 28 [(Sl.v x0),(Sl.v x1)].toArray w (λe w'=>∃ (r0:Bool),e=.returned (.bool r0)/\Ret r0 w'):=by
 unfold zCI at H
 refine zl 26 (zipE 0 [(Sl.v x0),(Sl.v x1)]) Tryz.func28 rfl rfl (by rfl) rfl ?_
 intro a g
 replace g:Sat [] 26 [(0,(Sl.v x0)),(1,(Sl.v x1))] a:=g
 refine zJ (zE (g.as_ rfl λ_ g=>zM (tn (zJ (zJ (zE (g.mv rfl λ_ g=>g.purR (λw=>ZQ g Tryz.underlying30 rfl) λ_ g=>g.mv rfl λ_ g=>g.purR (λw=>ZQ g Tryz.underlying30 rfl) λ_ g=>g.pur (zFL g rfl rfl) λ_ g=>zM (tn (zb g rfl (λhc=>?_) (λhc=>?_))))))))))
 ·replace H:=H.1 hc
  exact zJ (zE (g.as_ rfl λ_ g=>zM (tn (zg (tr (zt g rfl rfl ⟨_,rfl,H⟩))))))
 ·replace H:=H.2 hc
  refine zX (tn (zJ (zJ (zE (g.mv rfl λ_ g=>g.purR (λw=>ZQ g Tryz.underlying30 rfl) λ_ g=>g.mv rfl λ_ g=>zM (tn (zW ?_)))))))
  obtain ⟨I_l1,μ_l1,h0,hb⟩:=H
  refine yD (ds:=[]) (N:=26) (σ:=Int) (λs=>[(13,(.int .i64 s)),(0,(Sl.v x0)),(1,(Sl.v x1)),(12,(.int .i64 (x0.len:Int)))]) (λs w=>I_l1 s w) (λs w=>μ_l1 s w) 0 h0 (g.wk) ?_
  intro x13 w a hI g
  try dsimp only at hI g
  obtain ⟨Kl1,hK_l1⟩:∃ K:Int->World->Prop,K=(λx13' w'=>I_l1 x13' w'/\μ_l1 x13' w'<μ_l1 x13 w):=⟨_,rfl⟩
  have H:zAQ x0 x1 Ret x13 w Kl1:=by rw [hK_l1];exact hb x13 w hI
  clear hb h0 hI
  unfold zAQ at H
  refine zJ (zE (g.pur (yS g rfl rfl) λ_ g=>zM (tn (zJ (zb g rfl (λhc=>?_) (λhc=>?_))))))
  ·replace H:=H.1 hc
   refine zX (tn (zJ (zW (zJ (zE (g.mv rfl λ_ g=>g.as_ rfl λ_ g=>zM (tn (zJ (QP (by kernel_rfl) (by kernel_rfl) (g.qm rfl λ_ g=>g.qm rfl λ_ g=>g.qop (zH g rfl rfl) H λx18 a H g=>g.qop (zN g rfl) H λx19 a H g=>g.qm rfl λ_ g=>g.qm rfl λ_ g=>g.qop (zH g rfl rfl) H λx22 a H g=>g.qop (zN g rfl) H λx23 a H g=>g.qop (zCs g rfl rfl) H λx24 a H g=>QO (λw hB=>?_)))))))))))
   replace H:=H w hB
   refine (tn (zd g rfl (λhc=>?_) (λhc=>?_)))
   ·replace H:=H.1 hc
    exact zJ (zE (g.as_ rfl λ_ g=>zM (tn (zg (br (tr (tr (br (tr (zt g rfl rfl ⟨_,rfl,H⟩))))))))))
   ·replace H:=H.2 hc
    refine zX (bn (tn (zE (g.pur (zm g rfl rfl) λ_ g=>g.mv rfl λ_ g=>?_))))
    rw [hK_l1] at H
    exact zM (tn ⟨(zB .i64 (x13+1)),g.wk,H⟩)
  ·replace H:=H.2 hc
   exact z5 (te (te (be (tn (zJ (zE (g.as_ rfl λ_ g=>zM (tn (zg (zt g rfl rfl ⟨_,rfl,H⟩))))))))))
def zAI (x13:Int) (Kl1:Sl->Bool->Int->World->Prop) (x5_1:Sl) (x6_1:Bool) (w:World):Prop:=
 Kl1 x5_1 x6_1 (zB .i64 (x13+1)) w
def zAH (x3:Option Addr) (x13:Int) (Kl1:Sl->Bool->Int->World->Prop) (x8:Option Addr) (x5_2:Sl) (x6_2:Bool) (w:World):Prop:=
 opE zA zC (zO 66 (.pointer x8) 0) w (λx34 w=>opE zA zY (zD 9 (.pointer x34)) w (λx35 w=>opE zA zC (zO 34 (.pointer x3) 0) w (λx36 w=>opE zA zY (zD 9 (.pointer x36)) w (λx37 w=>((x35≠x37)->(opE zA zL.v (zD 66 (.pointer x8)) w (λx40 w=>opE zA Sl.v (zc 22 1 [(0,(zL.v x40))].toArray) w (λx41 w=>opE zA Sl.v (Builtin.append_ #[22,22] 22 [(Sl.v x5_2),(Sl.v x41)].toArray) w (λx42 w=>zAI x13 Kl1 x42 x6_2 w)))))/\(¬ (x35≠x37)->(zAI x13 Kl1 x5_2 x6_2 w))))))
def zAJ (x3:Option Addr) (x5:Sl) (x6:Bool) (x13:Int) (Kl1:Sl->Bool->Int->World->Prop) (x8:Option Addr) (x25:Bool) (w:World):Prop:=
 (x25=true->(opE zA zC (zO 34 (.pointer x3) 0) w (λx27 w=>opE zA zY (zD 9 (.pointer x27)) w (λx28 w=>opE zA zC (zO 34 (.pointer x3) 1) w (λx29 w=>opE zA zY (zD 9 (.pointer x29)) w (λx30 w=>opE zA zL.v (QC 66 [(0,(.string x28)),(1,(.string x30))].toArray) w (λx31 w=>opE zA Sl.v (zc 22 1 [(0,(zL.v x31))].toArray) w (λx32 w=>opE zA Sl.v (Builtin.append_ #[22,22] 22 [(Sl.v x5),(Sl.v x32)].toArray) w (λx33 w=>zAH x3 x13 Kl1 x8 x33 true w)))))))))/\(x25=false->(zAH x3 x13 Kl1 x8 x5 x6 w))
def zBB (Ret:Sl->World->Prop) (x5_3:Sl) (w:World):Prop:=
 Ret x5_3 w
def zBe (x0:Sl) (Ret:Sl->World->Prop) (x3:Option Addr) (x5:Sl) (x6:Bool) (x13:Int) (w:World) (Kl1:Sl->Bool->Int->World->Prop):Prop:=
 ((x13<(x0.len:Int))->(opE zA zC (zF 22 (Sl.v x0) (.int .i64 x13)) w (λx15 w=>opE zA zL.v (zD 66 (.pointer x15)) w (λx16 w=>opE zA zC (zk 66 true (.tuple #[])) w (λx8 w=>opU zA (zK 66 (.pointer x8) (zL.v x16)) w (λw=>opE zA zC (zO 66 (.pointer x8) 0) w (λx17 w=>opE zA zY (zD 9 (.pointer x17)) w (λx18 w=>opE zA zC (zO 34 (.pointer x3) 0) w (λx19 w=>opE zA zY (zD 9 (.pointer x19)) w (λx20 w=>((!sLt x18 x20)=true->(zAJ x3 x5 x6 x13 Kl1 x8 (!x6) w))/\((!sLt x18 x20)=false->(zAJ x3 x5 x6 x13 Kl1 x8 false w))))))))))))/\(¬ (x13<(x0.len:Int))->(((!x6)=true->(opE zA zC (zO 34 (.pointer x3) 0) w (λx47 w=>opE zA zY (zD 9 (.pointer x47)) w (λx48 w=>opE zA zC (zO 34 (.pointer x3) 1) w (λx49 w=>opE zA zY (zD 9 (.pointer x49)) w (λx50 w=>opE zA zL.v (QC 66 [(0,(.string x48)),(1,(.string x50))].toArray) w (λx51 w=>opE zA Sl.v (zc 22 1 [(0,(zL.v x51))].toArray) w (λx52 w=>opE zA Sl.v (Builtin.append_ #[22,22] 22 [(Sl.v x5),(Sl.v x52)].toArray) w (λx53 w=>zBB Ret x53 w)))))))))/\((!x6)=false->(zBB Ret x5 w))))
def zEn (x0:Sl) (x1:zI) (w:World) (Ret:Sl->World->Prop):Prop:=
 opE zA zC (Instr.box 34 (zI.v x1)) w (λx3 w=>opE zA zC (zO 34 (.pointer x3) 2) w (λx9 w=>opE zA Qq (zD 4 (.pointer x9)) w (λx10 w=>∃ (I:Sl->Bool->Int->World->Prop) (μ:Sl->Bool->Int->World->Nat),I Sl.none x10 0 w/\∀ (x5:Sl) (x6:Bool) (x13:Int) w,I x5 x6 x13 w->zBe x0 Ret x3 x5 x6 x13 w (λx5' x6' x13' w'=>I x5' x6' x13' w'/\μ x5' x6' x13' w'<μ x5 x6 x13 w))))
set_option maxRecDepth 100000 in
theorem zH5 (x0:Sl) (x1:zI) (w:World) (Ret:Sl->World->Prop) (H:zEn x0 x1 w Ret):Cl zA 41 [(Sl.v x0),(zI.v x1)].toArray w (λe w'=>∃ (r0:Sl),e=.returned (Sl.v r0)/\Ret r0 w'):=by
 unfold zEn at H
 refine zl 55 (zipE 0 [(Sl.v x0),(zI.v x1)]) Tryz.func41 rfl rfl (by rfl) rfl ?_
 intro a g
 replace g:Sat [] 55 [(0,(Sl.v x0)),(1,(zI.v x1))] a:=g
 refine zJ (zE (g.op (zBa g rfl) H λx3 w a H g=>g.as_ rfl λ_ g=>zM (tn (zJ (zE (g.as_ rfl λ_ g=>zM (tn (zJ (zE (g.op (zS g rfl) H λx9 w a H g=>g.op (zN g rfl) H λx10 w a H g=>g.as_ rfl λ_ g=>zM (tn (zJ (zJ (zE (g.mv rfl λ_ g=>g.purR (λw=>ZQ g Tryz.underlying22 rfl) λ_ g=>g.mv rfl λ_ g=>zM (tn (zW ?_)))))))))))))))))
 obtain ⟨I_l1,μ_l1,h0,hb⟩:=H
 refine yD (ds:=[]) (N:=55) (σ:=Sl × Bool × Int) (λs=>[(5,(Sl.v s.1)),(6,(.bool s.2.1)),(13,(.int .i64 s.2.2)),(3,(.pointer x3)),(11,(Sl.v x0)),(12,(.int .i64 (x0.len:Int)))]) (λs w=>I_l1 s.1 s.2.1 s.2.2 w) (λs w=>μ_l1 s.1 s.2.1 s.2.2 w) (Sl.none,x10,0) h0 (g.wk) ?_
 rintro ⟨x5,x6,x13⟩ w a hI g
 try dsimp only at hI g
 obtain ⟨Kl1,hK_l1⟩:∃ K:Sl->Bool->Int->World->Prop,K=(λx5' x6' x13' w'=>I_l1 x5' x6' x13' w'/\μ_l1 x5' x6' x13' w'<μ_l1 x5 x6 x13 w):=⟨_,rfl⟩
 have H:zBe x0 Ret x3 x5 x6 x13 w Kl1:=by rw [hK_l1];exact hb x5 x6 x13 w hI
 clear hb h0 hI
 unfold zBe at H
 refine zJ (zE (g.pur (yS g rfl rfl) λ_ g=>zM (tn (zJ (zb g rfl (λhc=>?_) (λhc=>?_))))))
 ·replace H:=H.1 hc
  refine zX (tn (zz (ds:=[]) (N:=55) (σ:=Sl × Bool) (λs=>[(5,(Sl.v s.1)),(6,(.bool s.2)),(3,(.pointer x3)),(11,(Sl.v x0)),(12,(.int .i64 (x0.len:Int))),(13,(.int .i64 x13))]) (λs w=>zAI x13 Kl1 s.1 s.2 w) ?_ (λhj2=>?_)))
  ·rintro ⟨x5_1,x6_1⟩ w a H g
   try dsimp only at H g
   unfold zAI at H
   refine zE (g.pur (zm g rfl rfl) λ_ g=>g.mv rfl λ_ g=>?_)
   rw [hK_l1] at H
   exact zM (tn ⟨(x5_1,x6_1,(zB .i64 (x13+1))),g.wk,H⟩)
  ·refine zW (zJ (zE (g.op (zH g rfl rfl) H λx15 w a H g=>g.op (zN g rfl) H λx16 w a H g=>g.op (YW) H λx8 w a H g=>g.opu (zT g rfl rfl) H λw a H g=>zM (tn (zz (ds:=[]) (N:=55) (σ:=Sl × Bool) (λs=>[(5,(Sl.v s.1)),(6,(.bool s.2)),(3,(.pointer x3)),(8,(.pointer x8)),(11,(Sl.v x0)),(12,(.int .i64 (x0.len:Int))),(13,(.int .i64 x13))]) (λs w=>zAH x3 x13 Kl1 x8 s.1 s.2 w) ?_ (λhj3=>?_))))))
   ·rintro ⟨x5_2,x6_2⟩ w a H g
    try dsimp only at H g
    unfold zAH at H
    refine zJ (zE (g.op (zS g rfl) H λx34 w a H g=>g.op (zN g rfl) H λx35 w a H g=>g.op (zS g rfl) H λx36 w a H g=>g.op (zN g rfl) H λx37 w a H g=>g.pur (zNL g rfl rfl) λ_ g=>zM (tn (zb g rfl (λhc=>?_) (λhc=>?_)))))
    ·replace H:=H.1 hc
     exact zE (g.mv rfl λ_ g=>g.op (zN g rfl) H λx40 w a H g=>g.op (Qz g rfl) H λx41 w a H g=>g.op (zBE g rfl) H λx42 w a H g=>g.as_ rfl λ_ g=>zM (bn (tn (hj2 (x42,x6_2) _ _ H (g.wk)))))
    ·replace H:=H.2 hc
     exact zX (bn (tn (hj2 (x5_2,x6_2) _ _ H (g.wk))))
   ·refine zJ (zE (g.op (zS g rfl) H λx17 w a H g=>g.op (zN g rfl) H λx18 w a H g=>g.op (zS g rfl) H λx19 w a H g=>g.op (zN g rfl) H λx20 w a H g=>g.pur (zMv g rfl rfl) λ_ g=>g.mv rfl λ_ g=>WL.join (ds:=[]) (N:=55) (σ:=Bool) (λs=>[(25,(.bool s)),(3,(.pointer x3)),(5,(Sl.v x5)),(6,(.bool x6)),(8,(.pointer x8)),(11,(Sl.v x0)),(12,(.int .i64 (x0.len:Int))),(13,(.int .i64 x13))]) (λs w=>zAJ x3 x5 x6 x13 Kl1 x8 s w) 3 ?_ (λhr4=>?_)))
    ·intro x25 w a H g
     try dsimp only at H g
     unfold zAJ at H
     refine zM (tn (zd g rfl (λhc=>?_) (λhc=>?_)))
     ·replace H:=H.1 hc
      exact zJ (zE (g.mv rfl λ_ g=>g.op (zS g rfl) H λx27 w a H g=>g.op (zN g rfl) H λx28 w a H g=>g.op (zS g rfl) H λx29 w a H g=>g.op (zN g rfl) H λx30 w a H g=>g.op (zAg g rfl) H λx31 w a H g=>g.op (Qz g rfl) H λx32 w a H g=>g.op (zBE g rfl) H λx33 w a H g=>g.as_ rfl λ_ g=>zM (tn (zE (g.as_ rfl λ_ g=>zM (tn (hj3 (x33,true) _ _ H (g.wk))))))))
     ·replace H:=H.2 hc
      exact zX (tn (hj3 (x5,x6) _ _ H (g.wk)))
    ·rcases Bool.eq_false_or_eq_true ((!sLt x18 x20)) with hbr4|hbr4
     ·replace H:=H.1 hbr4
      replace g:=g.bool (b:=true) (t:=22) rfl (hbr4)
      exact g.on (by rfl) (by rfl) (g.mv rfl λ_ g=>g.on (by rfl) (by rfl) (g.pur (zAD g rfl) λ_ g=>g.pur (zu g rfl rfl) λ_ g=>hr4 (!x6) _ _ H (g.wk)))
     ·replace H:=H.2 hbr4
      replace g:=g.bool (b:=false) (t:=22) rfl (hbr4)
      exact g.off (by rfl) (by rfl) (by decide) (λ_ g=>g.off (by rfl) (by rfl) (by decide) (λ_ g=>g.pur (zv g rfl rfl) λ_ g=>hr4 false _ _ H (g.wk)))
 ·replace H:=H.2 hc
  refine z5 (te (te (be (tn (zz (ds:=[]) (N:=55) (σ:=Sl) (λs=>[(5,(Sl.v s))]) (λs w=>zBB Ret s w) ?_ (λhj5=>?_))))))
  ·intro x5_3 w a H g
   try dsimp only at H g
   unfold zBB at H
   exact zJ (zE (g.mv rfl λ_ g=>g.as_ rfl λ_ g=>zM (tn (zg (zt g rfl rfl ⟨_,rfl,H⟩)))))
  ·refine zJ (zE (g.mv rfl λ_ g=>g.pur (zAD g rfl) λ_ g=>zM (tn (zd g rfl (λhc=>?_) (λhc=>?_)))))
   ·replace H:=H.1 hc
    exact zE (g.mv rfl λ_ g=>g.op (zS g rfl) H λx47 w a H g=>g.op (zN g rfl) H λx48 w a H g=>g.op (zS g rfl) H λx49 w a H g=>g.op (zN g rfl) H λx50 w a H g=>g.op (zAg g rfl) H λx51 w a H g=>g.op (Qz g rfl) H λx52 w a H g=>g.op (zBE g rfl) H λx53 w a H g=>g.as_ rfl λ_ g=>zM (tn (hj5 x53 _ _ H (g.wk))))
   ·replace H:=H.2 hc
    exact zX (tn (hj5 x5 _ _ H (g.wk)))
end Go.Proofs.YtealcoghiaeiiaaGreat.VG
set_option linter.unusedVariables false
namespace Go.Proofs.YtealcoghiaeiiaaGreat.VG
open Go.VB Go.VB.Srt Go.Proofs Go.RowKit
theorem getV {l:List Ver} {n:Nat} (h:n<l.length):∃ x,l[n]?=some x:=⟨l[n]'h,by simp⟩
theorem zI8 {w:World} {x0:zP} {l:List Ver} (h:zEd w x0.List l) {k:Int->World->Prop} (H:∀ w',Bel w w'->k (vchk l x0.Low) w'):
  Cl zA zKM [zP.v x0].toArray w (λe w'=>∃ r0:Int,e=.returned (.int .i64 r0)/\k r0 w'):=by
 refine zKA x0 w k ?_
 have hbig:=h.big;have hcap:=h.cap;have hlen:=h.len
 have bad:∀ w',Bel w w'->¬ zCM l x0.Low->k 2 w':=λw' hb hn=>by rw [← zO7 hn];exact H w' hb
 unfold zGt
 refine zA7 (cs:=x0.cells) rfl λB w1 b1 hV _=>?_
 refine yy yB yA hV.at x0.List rfl ?_
 have r1t:¬ zCM l x0.Low->zBy k (some ⟨B,0,none⟩) true w1:=λhn=>⟨λ_=>bad _ b1 hn,λh=>(nomatch h)⟩
 refine ⟨λhc=>r1t (λhg=>by have:=hg.len;omega),λhc=>?_⟩
 refine yy zAd yK hV.at x0.Low rfl ?_
 by_cases hlow:2305843009213693952<x0.Low
 case pos=>rw [decide_eq_true hlow];exact r1t (λhg=>by have:=hg.low;omega)
 rw [decide_eq_false hlow]
 unfold zBy
 refine ⟨λh=>(nomatch h),λ_=>?_⟩
 refine yy yB yA hV.at x0.List rfl ?_
 refine ⟨λx W=>∃ n:Nat,x=(n:Int)/\n<=l.length/\Bel w1 W/\OkTo l n,λx _=>(x0.List.len - x).toNat,⟨0,rfl,by omega,Bel.refl _,OkTo.zero l⟩,?_⟩
 rintro x W ⟨n,rfl,hn,hb,hok⟩
 unfold zD8
 refine ⟨λhlt=>?_,λhlt=>?_⟩
 case refine_2=>
  have hG:zCM l x0.Low:=⟨by omega,by omega,by rw [show l.length=n from by omega];exact hok⟩
  rw [← zI5 hG];exact H W (b1.trans hb)
 obtain ⟨e,he⟩:=getV (l:=l) (n:=n) (by omega)
 have b01:=b1.trans hb
 refine zDR (h.bel b01) yk QN (by omega) (x:=e) (by simpa using he) λad hA=>?_
 refine zBI yI e rfl hA rfl ?_
 refine zCT zBW rfl yI (cs:=e.cells) rfl rfl rfl λC w2 b2 hX _=>?_
 have b02:=b01.trans b2
 have hV2:=(hV.bel hb).bel b2
 have badAt:∀ w',Bel w2 w'->¬ OkAt l n e->k 2 w':=λw' hb hno=>bad w' (b02.trans hb) λhG=>hno (hG.ok n e (by omega) he)
 have r7t:∀ K:Int->World->Prop,¬ OkAt l n e->zB4 k n K true w2:=λK hng w' hb'=>⟨λ_=>badAt _ hb' hng,λh=>(nomatch h)⟩
 have r6f:∀ K:Int->World->Prop,¬ OkAt l n e->zBz k (some ⟨B,0,none⟩) n K (some ⟨C,0,none⟩) false w2:=λK hng=>⟨λ_=>r7t K hng,λh=>(nomatch h)⟩
 have r5f:∀ K:Int->World->Prop,¬ OkAt l n e->zB5 k (some ⟨B,0,none⟩) n K (some ⟨C,0,none⟩) false w2:=λK hng=>⟨λh=>(nomatch h),λ_=>r6f K hng⟩
 have r4f:∀ K:Int->World->Prop,¬ OkAt l n e->zBV k (some ⟨B,0,none⟩) n K (some ⟨C,0,none⟩) false w2:=λK hng=>⟨λh=>(nomatch h),λ_=>r5f K hng⟩
 have r3f:∀ K:Int->World->Prop,¬ OkAt l n e->zB7 k (some ⟨B,0,none⟩) n K (some ⟨C,0,none⟩) false w2:=λK hng=>⟨λh=>(nomatch h),λ_=>r4f K hng⟩
 refine yy zAU yK hX.at e.At rfl ?_
 refine ⟨λhlo=>?_,λhc=>r3f _ (λhG=>by have:=hG.1.lo;omega)⟩
 refine yy zAU yK hX.at e.At rfl ?_
 by_cases hhi:e.At<=2305843009213693952
 case neg=>rw [decide_eq_false hhi];exact r3f _ (λhG=>by have:=hG.1.hi;omega)
 rw [decide_eq_true hhi]
 unfold zB7
 refine ⟨λ_=>?_,λh=>(nomatch h)⟩
 refine yy zCA zDe hX.at e.Gone rfl ?_
 have r4t:∀ K:Int->World->Prop,(∀ w',Bel w2 w'->OkAt l n e->K (zB .i64 ((n:Int)+1)) w')->(e.Gone=true->e.Val=noB)->zBV k (some ⟨B,0,none⟩) n K (some ⟨C,0,none⟩) true w2:=by
  intro K hK hgone
  unfold zBV
  refine ⟨λ_=>?_,λh=>(nomatch h)⟩
  refine yy Y7 zn hX.at e.Key rfl ?_
  by_cases hkl:(e.Key.size:Int)<=256
  case neg=>rw [decide_eq_false hkl];exact r5f _ (λhG=>by have:=hG.1.keyl;omega)
  rw [decide_eq_true hkl]
  unfold zB5
  refine ⟨λ_=>?_,λh=>(nomatch h)⟩
  refine yy zBc zn hX.at e.Val rfl ?_
  by_cases hvl:(e.Val.size:Int)<=512
  case neg=>rw [decide_eq_false hvl];exact r6f _ (λhG=>by have:=hG.1.vall;omega)
  rw [decide_eq_true hvl]
  have made:Made e:=⟨by omega,by omega,hgone,by omega,by omega⟩
  have r7f:OkAt l n e->zB4 k n K false w2:=λhG w' hb'=>⟨λh=>(nomatch h),λ_=>hK w' hb' hG⟩
  unfold zBz
  refine ⟨λh=>(nomatch h),λ_=>⟨λh0=>?_,λh0=>r7f ⟨made,λj y hj _=>by omega⟩⟩⟩
  obtain ⟨p,hp⟩:=getV (l:=l) (n:=n - 1) (by omega)
  have hp':l[((n:Int) - 1).toNat]?=some p:=by rw [show ((n:Int) - 1).toNat=n - 1 by omega];exact hp
  have uniq:∀ j y,n=j+1->l[j]?=some y->y=p:=λj y hj hy=>by rw [show j=n - 1 by omega,hp] at hy;cases hy;rfl
  rw [wr64 (by omega) (by omega)]
  refine zF7 yB yA hV2.at x0.List rfl ?_
  refine zHP (h.bel b02) yk QN (by omega) hp' λad hA=>?_
  refine zHT yI p rfl hA rfl ?_
  refine zHT yI e rfl hX.at rfl ?_
  refine ⟨ordI p e,zPY p e w2,?_⟩
  by_cases hv:vlt p e
  ·have:=zIb.2 hv
   rw [decide_eq_false (by omega)]
   exact r7f ⟨made,λj y hj hy=>by rw [uniq j y hj hy];exact hv⟩
  ·have:¬ ordI p e<0:=λh1=>hv (zIb.1 h1)
   rw [decide_eq_true (by omega)]
   exact r7t K (λhG=>hv (hG.2 (n - 1) p (by omega) hp))
 have again:∀ w',Bel w2 w'->OkAt l n e->(λ(x':Int) (w':World)=>(∃ n:Nat,x'=(n:Int)/\n<=l.length/\Bel w1 w'/\OkTo l n)/\(x0.List.len - x').toNat<(x0.List.len - (n:Int)).toNat) (zB .i64 ((n:Int)+1)) w':=by
  intro w' hb' hG
  rw [wr64 (by omega) (by omega)]
  exact ⟨⟨n+1,by omega,by omega,(hb.trans b2).trans hb',hok.succ he hG⟩,by omega⟩
 unfold zCv
 refine ⟨λhg=>r4t _ again (λh=>by rw [h] at hg;cases hg),λhg=>?_⟩
 have hg':e.Gone=true:=by cases h:e.Gone<;>simp_all
 refine yy zBc zn hX.at e.Val rfl ?_
 by_cases hv:e.Val=noB
 ·rw [decide_eq_true hv]
  exact r4t _ again λ_=>hv
 ·rw [decide_eq_false hv]
  exact r4f _ (λhG=>hv (hG.1.gone hg'))
theorem zKV {w:World} {x0:zP} {l:List Ver} (h:zEd w x0.List l) (t:Int) {k:Int->World->Prop} (H:∀ w',Bel w w'->k (vask l x0.Low t) w'):
  Cl zA zKK [zP.v x0,.int .u64 t].toArray w (λe w'=>∃ r0:Int,e=.returned (.int .i64 r0)/\k r0 w'):=by
 refine zKG x0 t w k ?_
 unfold zGw
 refine zA7 (cs:=x0.cells) rfl λB w1 b1 hV _=>?_
 refine zBI z7 x0 rfl hV.at rfl ?_
 refine zI8 (h.bel b1) λw2 b2=>?_
 have b02:=b1.trans b2
 unfold vask at H
 refine ⟨λhc=>?_,λhc=>?_⟩
 ·rw [if_neg (by simp [hc])] at H
  refine yy zAd yK (hV.bel b2).at x0.Low rfl ?_
  unfold zBx
  refine ⟨λht=>?_,λhf=>?_⟩
  ·rw [if_pos (of_decide_eq_true ht)] at H;exact H w2 b02
  ·rw [if_neg (of_decide_eq_false hf)] at H;rw [hc];exact H w2 b02
 ·rw [if_pos hc] at H
  unfold zBx
  refine ⟨λh=>(nomatch h),λ_=>?_⟩
  rw [zPq hc];exact H w2 b02
end Go.Proofs.YtealcoghiaeiiaaGreat.VG
set_option linter.unusedVariables false
namespace Go.Proofs.YtealcoghiaeiiaaGreat.VG
open Go.VB Go.VB.Srt Go.Proofs Go.RowKit
theorem zPn {w:World} {x0:zP} {l:List Ver} (h:zEd w x0.List l) (key:ByteArray) (t:Int) {k:ByteArray->Bool->Int->World->Prop}
  (H:∀ w',Bel w w'->k (vget l x0.Low key t).1 (vget l x0.Low key t).2.1 (vget l x0.Low key t).2.2 w'):
  Cl zA zLa [zP.v x0,.string key,.int .u64 t].toArray w (λe w'=>∃ (r0:ByteArray) (r1:Bool) (r2:Int),e=.returned (.tuple [.string r0,.bool r1,.int .i64 r2].toArray)/\k r0 r1 r2 w'):=by
 refine zLV x0 key t w k ?_
 unfold zIK
 refine zA7 (cs:=x0.cells) rfl λB w1 b1 hV _=>?_
 refine zBI z7 x0 rfl hV.at rfl ?_
 refine zKV (h.bel b1) t λw2 b2=>?_
 have b02:=b1.trans b2
 unfold vget at H
 refine ⟨λhc=>?_,λhc=>?_⟩
 ·rw [if_pos hc] at H;exact H w2 b02
 rw [if_neg hc] at H
 have hg:=(zGg.1 (Classical.not_not.1 hc)).1
 refine yy yB yA (hV.bel b2).at x0.List rfl ?_
 refine zKs (h.bel b02) hg.sorted key t λw3 b3=>?_
 refine zCT zBW rfl yI (cs:=(zKa (sees l key t)).cells) rfl rfl rfl λC w4 b4 hX _=>?_
 have b04:=(b02.trans b3).trans b4
 refine zF7 zBc zn hX.at (zKa (sees l key t)).Val rfl ?_
 cases hs:sees l key t with
 |none=>
  refine ⟨λh=>(nomatch h),λ_=>?_⟩
  intro w5 b5
  rw [hs] at H
  exact H w5 (b04.trans b5)
 |some x=>
  refine ⟨λ_=>?_,λh=>(nomatch h)⟩
  rw [hs] at hX
  refine zF7 zCA zDe hX.at x.Gone rfl ?_
  intro w5 b5
  rw [hs] at H
  exact H w5 (b04.trans b5)
theorem zL3 {base:Nat} {w0 w:World} {s:Sl} {l:List Ver} {x:Ver} {k:Sl->World->Prop} (hO:Zg base w s l) (hB:Bel w0 w) (hb:w0.heap.size<=base) (hbw:base<=w.heap.size) (room:l.length+1<=2932031007402)
  (H:∀ s' w',Zg base w' s' (l++[x])->Bel w0 w'->w.grownBy w' (Sl.v s).ownBlock->k s' w'):
  opE zA Sl.v (zc zo 1 [(0,zG.v x)].toArray) w (λy w=>opE zA Sl.v (Builtin.append_ #[zo,zo] zo [Sl.v s,Sl.v y].toArray) w k):=
 zMZ hO (λ_=>rfl) (λ_=>rfl) (by decide) yk zGB rfl (by decide) (zGK x) hB hb hbw (by omega) H
theorem zNF {base:Nat} {w0 w:World} {s y:Sl} {l m:List Ver} {k:Sl->World->Prop} (hO:Zg base w s l) (hy:zEd w y m) (hB:Bel w0 w) (hb:w0.heap.size<=base) (hbw:base<=w.heap.size) (room:l.length+m.length<=2932031007402)
  (H:∀ s' w',Zg base w' s' (l++m)->Bel w0 w'->w.grownBy w' (Sl.v s).ownBlock->k s' w'):
  opE zA Sl.v (Builtin.append_ #[zo,zo] zo [Sl.v s,Sl.v y].toArray) w k:=
 zKg hO hy (λ_=>rfl) (λ_=>rfl) (by decide) yk zGB rfl (by decide) hB hb hbw (by omega) H
theorem zIk {α:Type} {l m:List α} {n:Nat} {e:α} (h:l.take n=m.take n) (h1:l[n]?=some e) (h2:m[n]?=some e):l.take (n+1)=m.take (n+1):=by
 rw [zB9 h1,zB9 h2,h]
end Go.Proofs.YtealcoghiaeiiaaGreat.VG
set_option linter.unusedVariables false
set_option linter.unusedSimpArgs false
namespace Go.Proofs.YtealcoghiaeiiaaGreat.VG
open Go.VB Go.Proofs
def zHd (x0:Sl) (w:World) (Ret:Value->World->Prop):Prop:=
 opE zA zC (Instr.box 67 (Sl.v x0)) w (λx1 w=>Ret (.func (.func 88) [].toArray [(.pointer x1)].toArray) w)
set_option maxRecDepth 100000 in
theorem zK6 (x0:Sl) (w:World) (Ret:Value->World->Prop) (H:zHd x0 w Ret):Cl zA 70 [(Sl.v x0)].toArray w (λe w'=>∃ (r0:Value),e=.returned r0/\Ret r0 w'):=by
 unfold zHd at H
 refine zl 4 (zipE 0 [(Sl.v x0)]) Tryz.func70 rfl rfl (by rfl) rfl ?_
 intro a g
 replace g:Sat [] 4 [(0,(Sl.v x0))] a:=g
 exact zJ (zE (g.op (zBa g rfl) H λx1 w a H g=>(g.as_ rfl λ_ g=>(zM (tn (zJ (zE (g.pur (zFR g rfl rfl) λ_ g=>(g.as_ rfl λ_ g=>(zM (tn (zg (zt g rfl rfl ⟨_,rfl,H⟩)))))))))))))
def zCY (x0:Value) (x1:Option Addr) (Ret:World->Prop) (x3:Int) (Kl1:Int->World->Prop) (x4:Int) (Kl2:Int->World->Prop) (x27:Bool) (w:World):Prop:=
 yG w (λw=>(x27=true->(Kl2 (zB .i64 (x4+1)) w))/\(x27=false->(yG w (λw=>(opE zA Sl.v (zD 67 (.pointer x1)) w (λx31 w=>opP zA zC (zF 67 (Sl.v x31) (.int .i64 x3)) (λx33=>opP zA zC (zO 72 (.pointer x33) 0) (λx34=>(opE zA zY (zD 9 (.pointer x34)) w (λx35 w=>opE zA Sl.v (zD 67 (.pointer x1)) w (λx36 w=>opP zA Sl.v (Instr.sliceAt 67 (Sl.v x36) (some (.int .i64 x3)) (some (.int .i64 x4)) none) (λx39=>zF5 zA x0 [(.string x35),(Sl.v x39)] w (λe w=>∃ (r:Bool),e=.returned (.bool r)/\(((!r)=true->(Ret w))/\((!r)=false->(Kl1 x4 w))))))))/\(opE zA Sl.v (zD 67 (.pointer x1)) w (λx36_1 w=>opP zA Sl.v (Instr.sliceAt 67 (Sl.v x36_1) (some (.int .i64 x3)) (some (.int .i64 x4)) none) (λx39_1=>opE zA zY (zD 9 (.pointer x34)) w (λx35_1 w=>zF5 zA x0 [(.string x35_1),(Sl.v x39_1)] w (λe w=>∃ (r_1:Bool),e=.returned (.bool r_1)/\(((!r_1)=true->(Ret w))/\((!r_1)=false->(Kl1 x4 w))))))))))))/\(opE zA Sl.v (zD 67 (.pointer x1)) w (λx36_2 w=>opP zA Sl.v (Instr.sliceAt 67 (Sl.v x36_2) (some (.int .i64 x3)) (some (.int .i64 x4)) none) (λx39_2=>opE zA Sl.v (zD 67 (.pointer x1)) w (λx31_1 w=>opP zA zC (zF 67 (Sl.v x31_1) (.int .i64 x3)) (λx33_1=>opP zA zC (zO 72 (.pointer x33_1) 0) (λx34_1=>opE zA zY (zD 9 (.pointer x34_1)) w (λx35_2 w=>zF5 zA x0 [(.string x35_2),(Sl.v x39_2)] w (λe w=>∃ (r_2:Bool),e=.returned (.bool r_2)/\(((!r_2)=true->(Ret w))/\((!r_2)=false->(Kl1 x4 w)))))))))))))))
def zDS (x0:Value) (x1:Option Addr) (Ret:World->Prop) (x3:Int) (Kl1:Int->World->Prop) (x4:Int) (w:World) (Kl2:Int->World->Prop):Prop:=
 opB zA Sl.v (zD 67 (.pointer x1)) w (λx12=>((x4<(x12.len:Int))->(opB zA Sl.v (zD 67 (.pointer x1)) w (λx16=>opB zA zC (zF 67 (Sl.v x16) (.int .i64 x4)) w (λx18=>opB zA zC (zO 72 (.pointer x18) 0) w (λx19=>opB zA zY (zD 9 (.pointer x19)) w (λx20=>opB zA Sl.v (zD 67 (.pointer x1)) w (λx21=>opB zA zC (zF 67 (Sl.v x21) (.int .i64 x3)) w (λx23=>opB zA zC (zO 72 (.pointer x23) 0) w (λx24=>opB zA zY (zD 9 (.pointer x24)) w (λx25=>zCY x0 x1 Ret x3 Kl1 x4 Kl2 (decide (x20=x25)) w))))))))))/\(¬ (x4<(x12.len:Int))->(zCY x0 x1 Ret x3 Kl1 x4 Kl2 false w)))
def zDQ (x0:Value) (x1:Option Addr) (Ret:World->Prop) (x3:Int) (w:World) (Kl1:Int->World->Prop):Prop:=
 opE zA Sl.v (zD 67 (.pointer x1)) w (λx6 w=>((x3<(x6.len:Int))->(∃ (I:Int->World->Prop) (μ:Int->World->Nat),I (zB .i64 (x3+1)) w/\∀ (x4:Int) w,I x4 w->zDS x0 x1 Ret x3 Kl1 x4 w (λx4' w'=>I x4' w'/\μ x4' w'<μ x4 w)))/\(¬ (x3<(x6.len:Int))->(Ret w)))
def zGS (x0:Value) (x1:Option Addr) (w:World) (Ret:World->Prop):Prop:=
 ∃ (I:Int->World->Prop) (μ:Int->World->Nat),I 0 w/\∀ (x3:Int) w,I x3 w->zDQ x0 x1 Ret x3 w (λx3' w'=>I x3' w'/\μ x3' w'<μ x3 w)
set_option maxRecDepth 100000 in
theorem zJk (x0:Value) (x1:Option Addr) (w:World) (Ret:World->Prop) (H:zGS x0 x1 w Ret):Cl zA 88 [x0,(.pointer x1)].toArray w (λe w'=>e=.returned (.tuple [].toArray)/\Ret w'):=by
 unfold zGS at H
 refine zl 43 (zipE 0 [x0,(.pointer x1)]) Tryz.func88 rfl rfl (by rfl) rfl ?_
 intro a g
 replace g:Sat [] 43 [(0,x0),(1,(.pointer x1))] a:=g
 refine zJ (zE (g.as_ rfl λ_ g=>zM (tn (zW ?_))))
 obtain ⟨I_l1,μ_l1,h0,hb⟩:=H
 refine yD (ds:=[]) (N:=43) (σ:=Int) (λs=>[(3,(.int .i64 s)),(0,x0),(1,(.pointer x1))]) (λs w=>I_l1 s w) (λs w=>μ_l1 s w) 0 h0 (g.wk) ?_
 intro x3 w a hI g
 try dsimp only at hI g
 obtain ⟨Kl1,hK_l1⟩:∃ K:Int->World->Prop,K=(λx3' w'=>I_l1 x3' w'/\μ_l1 x3' w'<μ_l1 x3 w):=⟨_,rfl⟩
 have H:zDQ x0 x1 Ret x3 w Kl1:=by rw [hK_l1];exact hb x3 w hI
 clear hb h0 hI
 unfold zDQ at H
 refine zJ (zJ (zE (g.mv rfl λ_ g=>g.op (zN g rfl) H λx6 w a H g=>g.purR (λw=>ZQ g Tryz.underlying67 rfl) λ_ g=>g.pur (yS g rfl rfl) λ_ g=>zM (tn (zb g rfl (λhc=>?_) (λhc=>?_))))))
 ·replace H:=H.1 hc
  refine zX (tn (zW (zJ (zE (g.mv rfl λ_ g=>g.pur (zm g rfl rfl) λ_ g=>g.as_ rfl λ_ g=>zM (tn (zJ (zW ?_))))))))
  obtain ⟨I_l2,μ_l2,h0,hb⟩:=H
  refine yD (ds:=[]) (N:=43) (σ:=Int) (λs=>[(4,(.int .i64 s)),(0,x0),(1,(.pointer x1)),(3,(.int .i64 x3))]) (λs w=>I_l2 s w) (λs w=>μ_l2 s w) (zB .i64 (x3+1)) h0 (g.wk) ?_
  intro x4 w a hI g
  try dsimp only at hI g
  obtain ⟨Kl2,hK_l2⟩:∃ K:Int->World->Prop,K=(λx4' w'=>I_l2 x4' w'/\μ_l2 x4' w'<μ_l2 x4 w):=⟨_,rfl⟩
  have H:zDS x0 x1 Ret x3 Kl1 x4 w Kl2:=by rw [hK_l2];exact hb x4 w hI
  clear hb h0 hI
  unfold zDS at H
  refine zJ (zJ (QP (by kernel_rfl) (by kernel_rfl) (g.qm rfl λ_ g=>g.qop (zN g rfl) H λx12 a H g=>g.qpurR (λw=>ZQ g Tryz.underlying67 rfl) λ_ g=>g.qpur (yS g rfl rfl) λ_ g=>g.qm rfl λ_ g=>WQ.join (ds:=[]) (N:=43) (σ:=Bool) (λs=>[(27,(.bool s)),(0,x0),(1,(.pointer x1)),(3,(.int .i64 x3)),(4,(.int .i64 x4))]) (λs=>zCY x0 x1 Ret x3 Kl1 x4 Kl2 s w) 12 ?_ (λhr3=>?_))))
  ·intro x27 a H g
   try dsimp only at H g
   unfold zCY at H
   refine QO (λw hB=>?_)
   replace H:=H w hB
   refine (tn (zd g rfl (λhc=>?_) (λhc=>?_)))
   ·replace H:=H.1 hc
    refine zX (tn (zW (zE (g.mv rfl λ_ g=>g.pur (zm g rfl rfl) λ_ g=>g.as_ rfl λ_ g=>?_))))
    rw [hK_l2] at H
    exact zM (bn (tn ⟨(zB .i64 (x4+1)),g.wk,H⟩))
   ·replace H:=H.2 hc
    refine z5 (te (te (be (tn (zJ (zJ (zBb 12 λw hB=>?_)))))))
    replace H:=H w hB
    refine g.ap 0 rfl (zQ g rfl) λ_ g=>g.ap 2 rfl (zQ g rfl) λ_ g=>g.ap 7 rfl (zQ g rfl) λ_ g=>g.ap 8 rfl (zQ g rfl) λ_ g=>WA.tw 1 6 rfl rfl ?_ ?_
    ·replace H:=H.1
     intro K hK
     refine g.wop (zN g rfl) H λx31 w a H g=>hK _ _ (g.ao 3 rfl (zH g rfl rfl) H λx33 a H g=>g.ao 4 rfl (zS g rfl) H λx34 a H g=>WA.tw 5 6 rfl rfl ?_ ?_)
     ·replace H:=H.1
      intro K hK
      refine g.wop (zN g rfl) H λx35 w a H g=>hK _ _ (g.o1 6 rfl (zN g rfl) H λx36 w a H g=>g.ao 9 rfl (zGx g rfl rfl rfl rfl) H λx39 a H g=>WA.one (i:=10) rfl (by kernel_rfl) rfl ?_)
      intro K hK
      refine g.wcallV rfl rfl H λe w H=>?_
      obtain ⟨r,rfl,H⟩:=H
      refine ⟨_,rfl,λ_ g=>(hK _ _ (g.ap 11 rfl (zAD g rfl) λ_ g=>WA.ni ((tn (zd g rfl (λhc=>?_) (λhc=>?_))))))⟩
      ·replace H:=H.1 hc
       exact zg (tr (br (tr (br (zEO g rfl ⟨rfl,H⟩)))))
      ·replace H:=H.2 hc
       refine zX (tn (zE (g.mv rfl λ_ g=>g.as_ rfl λ_ g=>?_)))
       rw [hK_l1] at H
       exact zM (bn (tn ⟨x4,g.wk,H⟩))
     ·replace H:=H.2
      intro K hK
      refine g.wop (zN g rfl) H λx36_1 w a H g=>hK _ _ (g.ao 9 rfl (zGx g rfl rfl rfl rfl) H λx39_1 a H g=>g.o1 5 rfl (zN g rfl) H λx35_1 w a H g=>WA.one (i:=10) rfl (by kernel_rfl) rfl ?_)
      intro K hK
      refine g.wcallV rfl rfl H λe w H=>?_
      obtain ⟨r_1,rfl,H⟩:=H
      refine ⟨_,rfl,λ_ g=>(hK _ _ (g.ap 11 rfl (zAD g rfl) λ_ g=>WA.ni ((tn (zd g rfl (λhc=>?_) (λhc=>?_))))))⟩
      ·replace H:=H.1 hc
       exact zg (tr (br (tr (br (zEO g rfl ⟨rfl,H⟩)))))
      ·replace H:=H.2 hc
       refine zX (tn (zE (g.mv rfl λ_ g=>g.as_ rfl λ_ g=>?_)))
       rw [hK_l1] at H
       exact zM (bn (tn ⟨x4,g.wk,H⟩))
    ·replace H:=H.2
     intro K hK
     refine g.wop (zN g rfl) H λx36_2 w a H g=>hK _ _ (g.ao 9 rfl (zGx g rfl rfl rfl rfl) H λx39_2 a H g=>g.o1 1 rfl (zN g rfl) H λx31_1 w a H g=>g.ao 3 rfl (zH g rfl rfl) H λx33_1 a H g=>g.ao 4 rfl (zS g rfl) H λx34_1 a H g=>g.o1 5 rfl (zN g rfl) H λx35_2 w a H g=>WA.one (i:=10) rfl (by kernel_rfl) rfl ?_)
     intro K hK
     refine g.wcallV rfl rfl H λe w H=>?_
     obtain ⟨r_2,rfl,H⟩:=H
     refine ⟨_,rfl,λ_ g=>(hK _ _ (g.ap 11 rfl (zAD g rfl) λ_ g=>WA.ni ((tn (zd g rfl (λhc=>?_) (λhc=>?_))))))⟩
     ·replace H:=H.1 hc
      exact zg (tr (br (tr (br (zEO g rfl ⟨rfl,H⟩)))))
     ·replace H:=H.2 hc
      refine zX (tn (zE (g.mv rfl λ_ g=>g.as_ rfl λ_ g=>?_)))
      rw [hK_l1] at H
      exact zM (bn (tn ⟨x4,g.wk,H⟩))
  ·rcases Classical.em ((x4<(x12.len:Int))) with hbr3|hbr3
   ·replace H:=H.1 hbr3
    replace g:=g.bool (b:=true) (t:=15) rfl (decide_eq_true hbr3)
    exact g.qon (by rfl) (by rfl) (g.qop (zN g rfl) H λx16 a H g=>g.qon (by rfl) (by rfl) (g.qm rfl λ_ g=>g.qon (by rfl) (by rfl) (g.qop (zH g rfl rfl) H λx18 a H g=>g.qon (by rfl) (by rfl) (g.qop (zS g rfl) H λx19 a H g=>g.qon (by rfl) (by rfl) (g.qop (zN g rfl) H λx20 a H g=>g.qon (by rfl) (by rfl) (g.qop (zN g rfl) H λx21 a H g=>g.qon (by rfl) (by rfl) (g.qm rfl λ_ g=>g.qon (by rfl) (by rfl) (g.qop (zH g rfl rfl) H λx23 a H g=>g.qon (by rfl) (by rfl) (g.qop (zS g rfl) H λx24 a H g=>g.qon (by rfl) (by rfl) (g.qop (zN g rfl) H λx25 a H g=>g.qon (by rfl) (by rfl) (g.qpur (zMA g rfl rfl) λ_ g=>g.qpur (zu g rfl rfl) λ_ g=>hr3 (decide (x20=x25)) _ H (g.wk))))))))))))
   ·replace H:=H.2 hbr3
    replace g:=g.bool (b:=false) (t:=15) rfl (decide_eq_false hbr3)
    exact g.qoff (by rfl) (by rfl) (by decide) (λ_ g=>g.qoff (by rfl) (by rfl) (by decide) (λ_ g=>g.qoff (by rfl) (by rfl) (by decide) (λ_ g=>g.qoff (by rfl) (by rfl) (by decide) (λ_ g=>g.qoff (by rfl) (by rfl) (by decide) (λ_ g=>g.qoff (by rfl) (by rfl) (by decide) (λ_ g=>g.qoff (by rfl) (by rfl) (by decide) (λ_ g=>g.qoff (by rfl) (by rfl) (by decide) (λ_ g=>g.qoff (by rfl) (by rfl) (by decide) (λ_ g=>g.qoff (by rfl) (by rfl) (by decide) (λ_ g=>g.qoff (by rfl) (by rfl) (by decide) (λ_ g=>g.qpur (zv g rfl rfl) λ_ g=>hr3 false _ H (g.wk))))))))))))
 ·replace H:=H.2 hc
  exact z5 (te (te (be (zBY g rfl ⟨rfl,H⟩))))
end Go.Proofs.YtealcoghiaeiiaaGreat.VG
set_option linter.unusedVariables false
namespace Go.Proofs.YtealcoghiaeiiaaGreat.VG
open Go.VB Go.VB.Srt Go.Proofs Go.RowKit
def Bdry (l:List Ver) (n:Nat):Prop:=∀ j x y,n=j+1->l[j]?=some x->l[n]?=some y->x.Key≠y.Key
structure Seg (l:List Ver) where
 lo:Nat
 hi:Nat
 key:ByteArray
 lt:lo<hi
 le:hi<=l.length
 all:∀ j x,lo<=j->j<hi->l[j]?=some x->x.Key=key
 bl:Bdry l lo
 bh:Bdry l hi
def Seg.vers {l:List Ver} (s:Seg l):List Ver:=(l.drop s.lo).take (s.hi - s.lo)
inductive Cuts (l:List Ver):List (Seg l)->Nat->Prop
 |nil:Cuts l [] 0
 |snoc {pre:List (Seg l)} (s:Seg l):Cuts l pre s.lo->Cuts l (pre++[s]) s.hi
theorem Bdry.zero (l:List Ver):Bdry l 0:=λj x y h=>by omega
theorem zLj {l:List Ver} (s:Seg l):l.take s.hi=l.take s.lo++s.vers:=by
 unfold Seg.vers
 have h:=s.lt
 have:s.hi=s.lo+(s.hi - s.lo):=by omega
 conv=>lhs;rw [this,List.take_add]
theorem Seg.mem {l:List Ver} (s:Seg l) {x:Ver} (h:x∈s.vers):x∈l/\x.Key=s.key:=by
 obtain ⟨j,hj⟩:=List.getElem?_of_mem h
 unfold Seg.vers at hj
 have h1:=(List.getElem?_eq_some_iff.1 hj).1
 rw [List.length_take,List.length_drop] at h1
 rw [List.getElem?_take_of_lt (by omega),List.getElem?_drop] at hj
 exact ⟨List.mem_of_getElem? hj,s.all _ x (by omega) (by omega) hj⟩
theorem Seg.rd {w:World} {x0:Sl} {l:List Ver} (h:zEd w x0 l) (s:Seg l):zEd w (x0.sub s.lo s.hi 4) s.vers:=h.sub (Nat.le_of_lt s.lt) (by rw [← h.len];exact s.le)
def ZA (w0:World) (b:Nat) (A B:World):Prop:=(Bel w0 A->Bel w0 B)/\B.heap[b]?=A.heap[b]?
theorem ZA.refl (w0:World) (b:Nat) (A:World):ZA w0 b A A:=⟨λh=>h,rfl⟩
theorem ZA.trans {w0:World} {b:Nat} {A B C:World} (h:ZA w0 b A B) (k:ZA w0 b B C):ZA w0 b A C:=⟨λh1=>k.1 (h.1 h1),k.2.trans h.2⟩
theorem ZA.bel {w0:World} {b:Nat} {A B:World} (h:Bel A B) (hb:b<A.heap.size):ZA w0 b A B:=⟨λh1=>h1.trans h,h.block b hb⟩
theorem ZA.grown {w0:World} {b:Nat} {A B:World} {row:Option Nat} (h:A.grownBy B row) (hb:b<A.heap.size) (hr:∀ r,row=some r->w0.heap.size<=r/\r≠b):ZA w0 b A B:=
 ⟨λh1=>h1.grown h (λr e=>(hr r e).1),h.block b hb (λe=>(hr b e.symm).2 rfl)⟩
theorem zFb.of2 {α:Type} {P:Program} {v:Value} {encs:α->List Value} {w0:World} {b:Nat} {S Sp:List α->Prop} {Num:Nat} {I Ir:List α->World->Prop} {w:World} (hs:zIs P v encs (ZA w0 b) S Sp Num w) (hn:w0.heap.size<=w.heap.size) (hb:b<w.heap.size)
  (own:OwnFrom w.heap.size I) (ownr:OwnFrom w.heap.size Ir) (lo:∀ pre W,I pre W->w.heap.size<=W.heap.size) (start:I [] w):zFb P v encs (ZA w0 b) S Sp Num I Ir w:=
 ⟨hs,λA B C h k=>h.trans k,λW l o o' h1 h2 h3 h4=>by
  have hl:=(Array.getElem?_eq_some_iff.1 h2).1
  exact ZA.grown (grownBy_putObj' W l o') (by omega) (λr e=>by cases e;exact ⟨by omega,by omega⟩),λpre W o hI=>ZA.bel (Bel.alloc W o) (xf hb (lo pre W hI)),own,ownr,lo,start⟩
abbrev zQp (x0:Sl) (l:List Ver) (v:Value) (w0:World) (b:Nat) (w:World):Prop:=
 zIs zA v (λs:Seg l=>[.string s.key,Sl.v (x0.sub s.lo s.hi 4)]) (ZA w0 b) (λxs=>Cuts l xs l.length) (λ_=>True) l.length w
theorem zPJ {w0 w:World} {x0:Sl} {l:List Ver} (hw:Bel w0 w) (h:zEd w0 x0 l) {b1:Nat} (h1:Row w b1 [Sl.v x0] zo):
  SeqStopsK (FW none) 0 zA zHM [.pointer (some ⟨b1,0,none⟩)].toArray (λs:Seg l=>([.string s.key,Sl.v (x0.sub s.lo s.hi 4)]:List Value).toArray) (ZA w0 b1) (λxs=>Cuts l xs l.length) (λ_=>True) l.length w:=by
 intro l' J Jx W hW hJ hJx hY h0
 have hbig:=h.big;have hcap:=h.cap;have hlen:=h.len
 have C:=zJk (.func (.yield l') #[] #[]) (some ⟨b1,0,none⟩) W (λw'=>(∃ xs,Cuts l xs l.length/\J xs w')∨(∃ pre,True/\Jx pre w')) ?_
 ·exact CallsIn.mono C λe w' hr=>⟨⟨_,hr.1⟩,hr.2⟩
 unfold zGS
 refine ⟨λx w1=>∃ (n:Nat) (pre:List (Seg l)),x=(n:Int)/\n<=l.length/\(Bel w0 w1/\Row w1 b1 [Sl.v x0] zo)/\Cuts l pre n/\Bdry l n/\pre.length<=n/\J pre w1,λx _=>(x0.len - x).toNat,?_,?_⟩
 ·exact ⟨0,[],rfl,by omega,⟨hw.trans hW,h1.bel hW⟩,Cuts.nil,Bdry.zero l,by simp,h0⟩
 rintro x w1 ⟨n,pre,rfl,hn,hb,hC,hB,hp,hj⟩
 unfold zDQ
 refine zAS yA x0 hb.2.cell ?_
 refine ⟨λhlt=>?_,λhlt=>?_⟩
 case refine_2=>
  obtain rfl:n=l.length:=by omega
  exact .inl ⟨pre,hC,hj⟩
 obtain ⟨e,he⟩:=getV (l:=l) (n:=n) (by omega)
 rw [wr64 (by omega) (by omega)]
 refine ⟨λy w2=>∃ m:Nat,y=(m:Int)/\n<m/\m<=l.length/\(Bel w0 w2/\Row w2 b1 [Sl.v x0] zo)/\(∀ j x,n<=j->j<m->l[j]?=some x->x.Key=e.Key)/\J pre w2,λy _=>(x0.len - y).toNat,?_,?_⟩
 ·exact ⟨n+1,by omega,by omega,by omega,hb,λj x h1 h2 hx=>(by
   obtain rfl:j=n:=by omega
   rw [he] at hx;cases hx;rfl),hj⟩
 rintro y w2 ⟨m,rfl,hnm,hm,hb2,hall,hj2⟩
 unfold zDS
 refine zLe yA x0 hb2.2.cell ?_
 have give:(∀ x,l[m]?=some x->x.Key≠e.Key)->zCY (.func (.yield l') #[] #[]) (some ⟨b1,0,none⟩) (λw'=>(∃ xs,Cuts l xs l.length/\J xs w')∨(∃ pre,True/\Jx pre w')) n
   (λx' w'=>(∃ (n:Nat) (pre:List (Seg l)),x'=(n:Int)/\n<=l.length/\(Bel w0 w'/\Row w' b1 [Sl.v x0] zo)/\Cuts l pre n/\Bdry l n/\pre.length<=n/\J pre w')/\(x0.len - x').toNat<(x0.len - (n:Int)).toNat) m
   (λy' w'=>(∃ m:Nat,y'=(m:Int)/\n<m/\m<=l.length/\(Bel w0 w'/\Row w' b1 [Sl.v x0] zo)/\(∀ j x,n<=j->j<m->l[j]?=some x->x.Key=e.Key)/\J pre w')/\(x0.len - y').toNat<(x0.len - (m:Int)).toNat) false w2:=by
  intro hend w3 b3
  refine ⟨λh=>(nomatch h),λ_=>?_⟩
  have hbm:Bdry l m:=λj x y hj hx hy=>by
   rw [hall j x (by omega) (by omega) hx]
   exact λh=>hend y hy h.symm
  let s:Seg l:=⟨n,m,e.Key,hnm,hm,hall,hB,hbm⟩
  intro w4 b4
  have b04:Bel w0 w4/\Row w4 b1 [Sl.v x0] zo:=⟨(hb2.1.trans b3).trans b4,(hb2.2.bel b3).bel b4⟩
  have hj4:J pre w4:=hJ _ _ _ none (hJ _ _ _ none hj2 (zf b3 none) (λr e=>by cases e)) (zf b4 none) (λr e=>by cases e)
  have yld:zF5 zA (.func (.yield l') #[] #[]) [.string e.Key,Sl.v (x0.sub n m 4)] w4 (λe W0=>∃ r:Bool,e=.returned (.bool r)/\(((!r)=true->((∃ xs,Cuts l xs l.length/\J xs W0)∨(∃ pre,True/\Jx pre W0)))/\((!r)=false->
    ((∃ (n:Nat) (pre:List (Seg l)),(m:Int)=(n:Int)/\n<=l.length/\(Bel w0 W0/\Row W0 b1 [Sl.v x0] zo)/\Cuts l pre n/\Bdry l n/\pre.length<=n/\J pre W0)/\(x0.len - (m:Int)).toNat<(x0.len - (n:Int)).toNat)))):=by
   refine .inr ⟨l',rfl,YieldAt.mono (hY pre s w4 hj4 (by omega)) λe' w5 hr=>?_⟩
   rcases hr with ⟨rfl,hj5,hk⟩|⟨rfl,hj5⟩
   ·have hk':Bel w0 w5/\Row w5 b1 [Sl.v x0] zo:=⟨hk.1 b04.1,hk.2.trans b04.2⟩
    refine ⟨true,rfl,λh=>(nomatch h),λ_=>?_⟩
    exact ⟨⟨m,pre++[s],rfl,hm,hk',Cuts.snoc s hC,hbm,by simp;omega,hj5⟩,by omega⟩
   ·exact ⟨false,rfl,λ_=>.inr ⟨_,trivial,hj5⟩,λh=>(nomatch h)⟩
  obtain ⟨ad,had,hA⟩:=(h.bel b04.1).cells n e he
  have q0:∀ {k:Sl->World->Prop},k x0 w4->opE zA Sl.v (zD zo (.pointer (some ⟨b1,0,none⟩))) w4 k:=λH=>zAS yA x0 b04.2.cell H
  have q1:∀ {k:Option Addr->Prop},k (some (ad.add (n*4)))->opP zA zC (zF zo (Sl.v x0) (.int .i64 (n:Int))) k:=λH=>⟨_,λW'=>zIg yk QN had (by omega) (by omega),H⟩
  have q2:∀ {k:Option Addr->Prop},k (some ((ad.add (n*4)).add 0))->opP zA zC (zO yE (.pointer (some (ad.add (n*4)))) 0) k:=λH=>⟨_,λW'=>Y7 _ W',H⟩
  have q3:∀ {k:ByteArray->World->Prop},k e.Key w4->opE zA zY (zD zKb (.pointer (some ((ad.add (n*4)).add 0)))) w4 k:=λH=>zAS zn e.Key (hA.fld rfl) H
  have q4:∀ {k:Sl->Prop},k (x0.sub n m 4)->opP zA Sl.v (Instr.sliceAt zo (Sl.v x0) (some (.int .i64 (n:Int))) (some (.int .i64 (m:Int))) none) k:=λH=>⟨_,λW'=>zPs yk QN (Nat.le_of_lt hnm) (by omega),H⟩
  exact ⟨q0 (q1 (q2 ⟨q3 (q0 (q4 yld)),q0 (q4 (q3 yld))⟩)),q0 (q4 (q0 (q1 (q2 (q3 yld)))))⟩
 refine ⟨λhlt2=>?_,λhlt2=>give λx hx=>by have:=(List.getElem?_eq_some_iff.1 hx).1;omega⟩
 obtain ⟨f,hf⟩:=getV (l:=l) (n:=m) (by omega)
 refine zLe yA x0 hb2.2.cell ?_
 refine zHP (h.bel hb2.1) yk QN (by omega) (x:=f) (by simpa using hf) λad hA=>?_
 refine zF7 Y7 zn hA f.Key rfl ?_
 refine zLe yA x0 hb2.2.cell ?_
 refine zHP (h.bel hb2.1) yk QN (by omega) (x:=e) (by simpa using he) λad hA=>?_
 refine zF7 Y7 zn hA e.Key rfl ?_
 by_cases hk:f.Key=e.Key
 ·rw [decide_eq_true hk]
  intro w3 b3
  refine ⟨λ_=>?_,λh=>(nomatch h)⟩
  rw [wr64 (by omega) (by omega)]
  refine ⟨⟨m+1,by omega,by omega,by omega,⟨hb2.1.trans b3,hb2.2.bel b3⟩,λj x h1 h2 hx=>?_,hJ _ _ _ none hj2 (zf b3 none) (λr e=>by cases e)⟩,by dsimp only;omega⟩
  rcases Nat.lt_or_ge j m with h3|h3
  ·exact hall j x h1 h3 hx
  ·obtain rfl:j=m:=by omega
   rw [hf] at hx;cases hx;exact hk
 ·rw [decide_eq_false hk]
  exact give λx hx=>by rw [hf] at hx;cases hx;exact hk
theorem zMr {w0 w:World} {x0:Sl} {l:List Ver} (hw:Bel w0 w) (h:zEd w0 x0 l) {k:Value->World->Prop} (H:∀ v b w',zQp x0 l v w0 b w'->w.heap.size<=b->b<w'.heap.size->Bel w w'->k v w'):
  Cl zA zKl [Sl.v x0].toArray w (λe w'=>∃ v:Value,e=.returned v/\k v w'):=by
 refine zK6 x0 w k ?_
 unfold zHd
 refine zA7 (cs:=[Sl.v x0]) rfl λB w1 b1 hr hB=>?_
 exact H _ B _ ⟨zHM,_,rfl,zRn,zPJ (hw.trans b1) h hr⟩ hB hr.lt b1
end Go.Proofs.YtealcoghiaeiiaaGreat.VG
set_option linter.unusedVariables false
namespace Go.Proofs.YtealcoghiaeiiaaGreat.VG
open Go.VB Go.VB.Srt Go.Proofs Go.RowKit
def zGH (fr to key:ByteArray):Prop:=sLt key fr=true∨(to≠noB/\sLt key to=false)
open Classical in
noncomputable def one (fr to key:ByteArray) (o:Option Ver):List Pai:=
 if zGH fr to key then [] else match o with
  |none=>[]
  |some x=>if x.Gone=true then [] else [⟨key,x.Val⟩]
open Classical in
noncomputable def pick (l:List Ver) (fr to:ByteArray) (t:Int) (i:Nat):List Pai:=match l[i]? with
 |none=>[]
 |some x=>if (∃ j y,i=j+1/\l[j]?=some y/\y.Key=x.Key) then [] else one fr to x.Key (sees l x.Key t)
noncomputable def zCQ (l:List Ver) (fr to:ByteArray) (t:Int) (n:Nat):List Pai:=(List.range n).flatMap (pick l fr to t)
theorem zHt (l:List Ver) (fr to:ByteArray) (t:Int) (n:Nat):zCQ l fr to t (n+1)=zCQ l fr to t n++pick l fr to t n:=by
 unfold zCQ;rw [List.range_succ,List.flatMap_append];simp
noncomputable def zKY (l:List Ver) (low:Int) (fr to:ByteArray) (t:Int):List Pai × Int:=if vask l low t≠0 then ([],vask l low t) else (zCQ l fr to t l.length,0)
theorem zNN (fr to key:ByteArray) (o:Option Ver):(one fr to key o).length<=1:=by
 unfold one;split
 ·simp
 ·cases o with
  |none=>simp
  |some x=>simp only;split<;>simp
theorem zLU (l:List Ver) (fr to:ByteArray) (t:Int) (i:Nat):(pick l fr to t i).length<=1:=by
 unfold pick;split
 ·simp
 ·split
  ·simp
  ·exact zNN _ _ _ _
theorem zIR (l:List Ver) (fr to:ByteArray) (t:Int):∀ n,(zCQ l fr to t n).length<=n
 |0=>by simp [zCQ]
 |n+1=>by
  rw [zHt,zy]
  have:=zIR l fr to t n;have:=zLU l fr to t n;omega
theorem zMR {l:List Ver} {i:Nat} {x:Ver} (hx:l[i]?=some x) (hb:Bdry l i) (fr to:ByteArray) (t:Int):pick l fr to t i=one fr to x.Key (sees l x.Key t):=by
 unfold pick;rw [hx]
 simp only
 rw [if_neg]
 rintro ⟨j,y,hj,hy,hk⟩
 exact hb j y x hj hy hx hk
theorem zMN {l:List Ver} {j:Nat} {x y:Ver} (hx:l[j+1]?=some x) (hy:l[j]?=some y) (hk:y.Key=x.Key) (fr to:ByteArray) (t:Int):pick l fr to t (j+1)=[]:=by
 unfold pick;rw [hx]
 simp only
 rw [if_pos ⟨j,y,rfl,hy,hk⟩]
theorem zKm {l:List Ver} (hs:l.Pairwise vlt) {i j:Nat} {x y:Ver} (h:i<j) (hx:l[i]?=some x) (hy:l[j]?=some y):¬ sLt y.Key x.Key=true:=zNK (zG3 hs h hx hy)
theorem zMK {l:List Ver} (hs:l.Pairwise vlt) {i j:Nat} {x y:Ver} (h:i<j) (hx:l[i]?=some x) (hy:l[j]?=some y) (hk:x.Key≠y.Key):sLt x.Key y.Key=true:=by
 rcases zG3 hs h hx hy with h1|h1
 ·exact h1
 ·exact absurd h1.1 hk
theorem Seg.before {l:List Ver} (hs:l.Pairwise vlt) (s:Seg l) {j:Nat} {x:Ver} (hj:j<s.lo) (hx:l[j]?=some x):sLt x.Key s.key=true:=by
 have h1:=s.lt;have h2:=s.le
 obtain ⟨y,hy⟩:=getV (l:=l) (n:=s.lo - 1) (by omega)
 obtain ⟨z,hz⟩:=getV (l:=l) (n:=s.lo) (by omega)
 have hzk:=s.all s.lo z (zU _) h1 hz
 have hyz:=zMK hs (by omega) hy hz (s.bl (s.lo - 1) y z (by omega) hy hz)
 rw [← hzk]
 rcases Nat.lt_or_ge j (s.lo - 1) with h3|h3
 ·have h4:=zKm hs h3 hx hy
  by_cases hk:x.Key=y.Key
  ·rw [hk];exact hyz
  ·exact zG2 (zD4 h4 (λh=>hk h.symm)) hyz
 ·obtain rfl:j=s.lo - 1:=by omega
  rw [hx] at hy;cases hy;exact hyz
theorem Seg.behind {l:List Ver} (hs:l.Pairwise vlt) (s:Seg l) {j:Nat} {x:Ver} (hj:s.hi<=j) (hx:l[j]?=some x):sLt s.key x.Key=true:=by
 have h1:=s.lt;have h2:=s.le
 have hjl:=(List.getElem?_eq_some_iff.1 hx).1
 obtain ⟨y,hy⟩:=getV (l:=l) (n:=s.hi - 1) (by omega)
 obtain ⟨z,hz⟩:=getV (l:=l) (n:=s.hi) (by omega)
 have hyk:=s.all (s.hi - 1) y (by omega) (by omega) hy
 have hyz:=zMK hs (by omega) hy hz (s.bh (s.hi - 1) y z (by omega) hy hz)
 rw [← hyk]
 rcases Nat.lt_or_ge s.hi j with h3|h3
 ·have h4:=zKm hs h3 hz hx
  by_cases hk:z.Key=x.Key
  ·rw [← hk];exact hyz
  ·exact zG2 hyz (zD4 h4 (λh=>hk h.symm))
 ·obtain rfl:j=s.hi:=by omega
  rw [hx] at hz;cases hz;exact hyz
theorem Seg.split {l:List Ver} (s:Seg l):l=l.take s.lo++s.vers++l.drop s.hi:=by
 rw [← zLj,List.take_append_drop]
theorem zM1 {l:List Ver} {key:ByteArray} (h:∀ x∈l,x.Key≠key) (t:Int):sees l key t=none:=zD5.2 λx hx h1=>h x hx h1.1
theorem Seg.sees {l:List Ver} (hs:l.Pairwise vlt) (s:Seg l) (t:Int):VG.sees s.vers s.key t=VG.sees l s.key t:=by
 have key:VG.sees l s.key t=VG.sees (l.take s.lo++s.vers++l.drop s.hi) s.key t:=congrArg (λm=>VG.sees m s.key t) s.split
 rw [key,zHq,zHq]
 have h1:VG.sees (l.drop s.hi) s.key t=none:=zM1 (λx hx hk=>by
  obtain ⟨j,hj⟩:=List.getElem?_of_mem hx
  rw [List.getElem?_drop] at hj
  exact zKw (s.behind hs (by omega) hj) hk.symm) t
 have h2:VG.sees (l.take s.lo) s.key t=none:=zM1 (λx hx hk=>by
  obtain ⟨j,hj⟩:=List.getElem?_of_mem hx
  have hjl:=(List.getElem?_eq_some_iff.1 hj).1
  rw [List.length_take] at hjl
  rw [List.getElem?_take_of_lt (by omega)] at hj
  exact zKw (s.before hs (by omega) hj) hk) t
 rw [h1,h2];cases VG.sees s.vers s.key t<;>rfl
theorem Seg.scan {l:List Ver} (hs:l.Pairwise vlt) (s:Seg l) (fr to:ByteArray) (t:Int):zCQ l fr to t s.hi=zCQ l fr to t s.lo++one fr to s.key (VG.sees s.vers s.key t):=by
 have h1:=s.lt;have h2:=s.le
 obtain ⟨z,hz⟩:=getV (l:=l) (n:=s.lo) (by omega)
 have hzk:=s.all s.lo z (zU _) h1 hz
 have key:∀ d,s.lo+d<s.hi->zCQ l fr to t (s.lo+d+1)=zCQ l fr to t s.lo++one fr to s.key (VG.sees s.vers s.key t):=by
  intro d
  induction d with
  |zero=>intro _;rw [show s.lo+0+1=s.lo+1 from rfl,zHt,zMR hz s.bl,hzk,s.sees hs]
  |succ d ih=>
   intro hd
   obtain ⟨x,hx⟩:=getV (l:=l) (n:=s.lo+d+1) (by omega)
   obtain ⟨y,hy⟩:=getV (l:=l) (n:=s.lo+d) (by omega)
   rw [show s.lo+(d+1)+1=(s.lo+d+1)+1 by omega,zHt,ih (by omega),zMN hx hy (by rw [s.all _ x (by omega) (by omega) hx,s.all _ y (by omega) (by omega) hy]),List.append_nil]
 have:=key (s.hi - s.lo - 1) (by omega)
 rwa [show s.lo+(s.hi - s.lo - 1)+1=s.hi by omega] at this
noncomputable def zHD {l:List Ver} (fr to:ByteArray) (t:Int) (pre:List (Seg l)):List Pai:=pre.flatMap λs=>one fr to s.key (sees s.vers s.key t)
theorem Cuts.scan {l:List Ver} (hs:l.Pairwise vlt) (fr to:ByteArray) (t:Int) {pre:List (Seg l)} {n:Nat} (h:Cuts l pre n):zCQ l fr to t n=zHD fr to t pre:=by
 induction h with
 |nil=>rfl
 |snoc s h ih=>rw [s.scan hs,ih];unfold zHD;rw [List.flatMap_append];simp
open Classical in
noncomputable def zCN (low:Int) (x:Ver) (o:Option Ver):List Ver:=
 if (∃ y,o=some y/\y.Key=x.Key/\y.At<=low) then [] else if x.Gone=true/\x.At<=low then [] else [x]
noncomputable def swp (low:Int):List Ver->List Ver
 |[]=>[]
 |x::r=>zCN low x r.head?++swp low r
theorem zLn (low:Int) (x:Ver) (o:Option Ver):(zCN low x o).length<=1:=by unfold zCN;split<;>(try split)<;>simp
theorem zLL (low:Int):∀ l:List Ver,(swp low l).length<=l.length
 |[]=>by simp [swp]
 |x::r=>by rw [swp,zy,List.length_cons];have:=zLL low r;have:=zLn low x r.head?;omega
theorem zJe (low:Int):∀ (a b:List Ver),(∀ x y,a.getLast?=some x->b.head?=some y->x.Key≠y.Key)->swp low (a++b)=swp low a++swp low b
 |[],b,_=>rfl
 |[x],b,h=>by
  show zCN low x b.head?++swp low b=(zCN low x none++[])++swp low b
  rw [List.append_nil]
  congr 1
  unfold zCN
  have h1:¬ ∃ y,b.head?=some y/\y.Key=x.Key/\y.At<=low:=λ⟨y,hy,hk,_⟩=>h x y rfl hy hk.symm
  have h2:¬ ∃ y,(none:Option Ver)=some y/\y.Key=x.Key/\y.At<=low:=λ⟨y,hy,_⟩=>by cases hy
  rw [if_neg h1,if_neg h2]
 |x::z::a,b,h=>by
  have ih:=zJe low (z::a) b (λp q hp hq=>h p q (by rw [List.getLast?_cons_cons];exact hp) hq)
  show zCN low x (some z)++swp low (z::a++b)=(zCN low x (some z)++swp low (z::a))++swp low b
  rw [ih,List.append_assoc]
def zFj (o:Option Ver):List Ver:=match o with
 |none=>[]
 |some x=>if x.Gone=true then [] else [x]
theorem zLy (low:Int) (key:ByteArray):∀ g:List Ver,(∀ x∈g,x.Key=key)->g.Pairwise vlt->swp low g=zFj (sees g key low)++g.filter (λx=>decide (low<x.At))
 |[],_,_=>rfl
 |x::r,hk,hs=>by
  have hxk:=hk x (by simp)
  have hkr:∀ y∈r,y.Key=key:=λy hy=>hk y (List.mem_cons_of_mem _ hy)
  rw [List.pairwise_cons] at hs
  have hlt:∀ y∈r,x.At<y.At:=λy hy=>by
   rcases hs.1 y hy with h|h
   ·rw [hxk,hkr y hy] at h;exact absurd h (Zl _)
   ·exact h.2
  have ih:=zLy low key r hkr hs.2
  have hsee:sees (x::r) key low=(sees r key low).or (if x.At<=low then some x else none):=by
   rw [show x::r=[x]++r from rfl,zHq,zLT]
   congr 1
   by_cases h:x.At<=low
   ·rw [if_pos ⟨hxk,h⟩,if_pos h]
   ·rw [if_neg (λh1=>h h1.2),if_neg h]
  rw [swp,ih,hsee,List.filter_cons]
  cases r with
  |nil=>
   show zCN low x none++([]++[])=_
   have h2:¬ ∃ y,(none:Option Ver)=some y/\y.Key=x.Key/\y.At<=low:=λ⟨y,hy,_⟩=>by cases hy
   unfold zCN
   rw [if_neg h2]
   by_cases h:x.At<=low
   ·have h3:¬ low<x.At:=by omega
    simp only [h,and_true,if_true,h3,decide_false,Bool.false_eq_true,if_false,zLR,Option.or_none,Option.none_or,List.append_nil,List.filter_nil]
    rfl
   ·have h3:low<x.At:=by omega
    simp only [h,and_false,if_false,h3,decide_true,if_true,zLR,Option.none_or,List.filter_nil]
    rfl
  |cons y r=>
   have hxy:=hlt y (by simp)
   have hyk:=hkr y (by simp)
   show zCN low x (some y)++_=_
   unfold zCN
   by_cases h:y.At<=low
   ·have hx:¬ low<x.At:=by omega
    obtain ⟨z,hz⟩:∃ z,sees (y::r) key low=some z:=by
     cases hc:sees (y::r) key low with
     |none=>exact absurd ⟨hyk,h⟩ (zD5.1 hc y (by simp))
     |some z=>exact ⟨z,rfl⟩
    rw [if_pos ⟨y,rfl,by rw [hyk,hxk],h⟩,hz]
    simp only [hx,decide_false,Bool.false_eq_true,if_false,Option.or_some,List.nil_append]
    rfl
   ·have hn:sees (y::r) key low=none:=zD5.2 λz hz h1=>by
     rcases List.mem_cons.1 hz with h2|h2
     ·subst h2;exact h h1.2
     ·rcases (List.pairwise_cons.1 hs.2).1 z h2 with h3|h3
      ·rw [hyk,hkr z (List.mem_cons_of_mem _ h2)] at h3;exact absurd h3 (Zl _)
      ·have:=h1.2;omega
    have h2:¬ ∃ z,(some y:Option Ver)=some z/\z.Key=x.Key/\z.At<=low:=λ⟨z,hz,_,h4⟩=>by cases hz;exact h h4
    rw [if_neg h2,hn]
    by_cases hxl:x.At<=low
    ·have h3:¬ low<x.At:=by omega
     simp only [hxl,and_true,if_true,h3,decide_false,Bool.false_eq_true,if_false,Option.none_or]
     rfl
    ·have h3:low<x.At:=by omega
     simp only [hxl,and_false,if_false,h3,decide_true,if_true,Option.none_or]
     rfl
noncomputable def zDB (l:List Ver) (low0 low:Int):List Ver × Int × Int:=
 if vchk l low0≠0 then ([],0,vchk l low0) else if low<low0 then ([],0,9) else if 2305843009213693952<low then ([],0,2) else (swp low l,low,0)
def swpS {l:List Ver} (low:Int) (pre:List (Seg l)):List Ver:=pre.flatMap λs=>zFj (sees s.vers s.key low)++s.vers.filter (λx=>decide (low<x.At))
theorem Cuts.sweep {l:List Ver} (hs:l.Pairwise vlt) (low:Int) {pre:List (Seg l)} {n:Nat} (h:Cuts l pre n):swp low (l.take n)=swpS low pre:=by
 induction h with
 |nil=>rfl
 |@snoc pre s h ih=>
  have h1:=s.lt;have h2:=s.le
  rw [zLj,zJe,ih]
  ·unfold swpS
   rw [List.flatMap_append,zLy low s.key s.vers (λx hx=>(s.mem hx).2) (by
    unfold Seg.vers
    exact (hs.sublist (List.drop_sublist _ _)).sublist (List.take_sublist _ _))]
   simp
  ·intro x y hx hy
   have hx':l[s.lo - 1]?=some x/\0<s.lo:=by
    rw [List.getLast?_eq_getElem?,List.length_take,List.getElem?_take] at hx
    split at hx
    ·refine ⟨?_,by omega⟩
     rw [Nat.min_eq_left (by omega)] at hx;exact hx
    ·cases hx
   have hy':l[s.lo]?=some y:=by
    unfold Seg.vers at hy
    rw [List.head?_eq_getElem?,List.getElem?_take_of_lt (by omega),List.getElem?_drop] at hy
    simpa using hy
   exact s.bl (s.lo - 1) x y (by omega) hx'.1 hy'
end Go.Proofs.YtealcoghiaeiiaaGreat.VG
set_option linter.unusedVariables false
namespace Go.Proofs.YtealcoghiaeiiaaGreat.VG
open Go.VB Go.VB.Srt Go.Proofs Go.RowKit
abbrev zHn (w:World) (s:Sl) (l:List Pai):Prop:=Rd zL.cells 2 w s l
abbrev YJ (base:Nat) (w:World) (s:Sl) (l:List Pai):Prop:=OwnS zL.cells 2 ZU base w s l
theorem YJ.rd {base:Nat} {w:World} {s:Sl} {l:List Pai} (h:YJ base w s l):zHn w s l:=OwnS.rd h (λ_=>rfl)
theorem zJ6 {base:Nat} {w0 w:World} {s:Sl} {l:List Pai} {x:Pai} {k:Sl->World->Prop} (hO:YJ base w s l) (hB:Bel w0 w) (hb:w0.heap.size<=base) (hbw:base<=w.heap.size) (room:l.length+1<=4398046511104)
  (H:∀ s' w',YJ base w' s' (l++[x])->Bel w0 w'->w.grownBy w' (Sl.v s).ownBlock->k s' w'):
  opE zA Sl.v (zc Q6 1 [(0,zL.v x)].toArray) w (λy w=>opE zA Sl.v (Builtin.append_ #[Q6,Q6] Q6 [Sl.v s,Sl.v y].toArray) w k):=
 zMZ hO (λ_=>rfl) (λ_=>rfl) (by decide) Yq zHA rfl (by decide) (zJh x) hB hb hbw (by omega) H
theorem zPT {fr to key:ByteArray} {o:Option Ver} (h:zGH fr to key):one fr to key o=[]:=by unfold one;rw [if_pos h]
theorem zOQ {fr to key:ByteArray}:one fr to key none=[]:=by unfold one;split<;>rfl
theorem zOZ {fr to key:ByteArray} {x:Ver} (h:x.Gone=true):one fr to key (some x)=[]:=by
 unfold one;split
 ·rfl
 ·simp only;rw [if_pos h]
theorem zQG {fr to key:ByteArray} {x:Ver} (h:¬ zGH fr to key) (hg:x.Gone=false):one fr to key (some x)=[⟨key,x.Val⟩]:=by
 unfold one;rw [if_neg h];simp only;rw [if_neg (by rw [hg];decide)]
theorem zKh {l:List Ver} (fr to:ByteArray) (t:Int):∀ pre:List (Seg l),(zHD fr to t pre).length<=pre.length
 |[]=>by simp [zHD]
 |s::pre=>by
  have:=zKh fr to t pre
  have h2:=zNN fr to s.key (sees s.vers s.key t)
  unfold zHD at*
  rw [List.flatMap_cons,zy,List.length_cons];omega
theorem zJq {l:List Ver} (fr to:ByteArray) (t:Int) (pre:List (Seg l)) (s:Seg l):zHD fr to t (pre++[s])=zHD fr to t pre++one fr to s.key (sees s.vers s.key t):=by
 unfold zHD;rw [List.flatMap_append];simp
theorem Seg.sorted {l:List Ver} (hs:l.Pairwise vlt) (s:Seg l):s.vers.Pairwise vlt:=by
 unfold Seg.vers
 exact (hs.sublist (List.drop_sublist _ _)).sublist (List.take_sublist _ _)
theorem zOS {w:World} {x0:zP} {l:List Ver} (h:zEd w x0.List l) (fr to:ByteArray) (t:Int) {k:Sl->Int->World->Prop}
  (H:∀ r w' base,w.heap.size<=base->base<=w'.heap.size->YJ base w' r (zKY l x0.Low fr to t).1->Bel w w'->k r (zKY l x0.Low fr to t).2 w'):
  Cl zA zK9 [zP.v x0,.string fr,.string to,.int .u64 t].toArray w (λe w'=>∃ (r0:Sl) (r1:Int),e=.returned (.tuple [Sl.v r0,.int .i64 r1].toArray)/\k r0 r1 w'):=by
 refine zKx x0 fr to t w k ?_
 have hbig:=h.big;have hcap:=h.cap;have hlen:=h.len
 unfold zHi
 refine zA7 (cs:=x0.cells) rfl λB4 w1 b1 hV hB4=>?_
 refine zA7 (cs:=[.string fr]) rfl λB5 w2 b2 h5 hB5=>?_
 refine zA7 (cs:=[.string to]) rfl λB6 w3 b3 h6 hB6=>?_
 refine zA7 (cs:=[.int .u64 t]) rfl λB7 w4 b4 h7 hB7=>?_
 replace hV:=((hV.bel b2).bel b3).bel b4
 replace h5:=(h5.bel b3).bel b4
 replace h6:=h6.bel b4
 have b04:=((b1.trans b2).trans b3).trans b4
 refine zBI z7 x0 rfl hV.at rfl ?_
 refine zAS yK t h7.cell ?_
 refine zKV (h.bel b04) t λw5 b5=>?_
 have b05:=b04.trans b5
 unfold zKY at H
 refine ⟨λhc=>?_,λhc=>?_⟩
 ·rw [if_pos hc] at H;exact H _ w5 w5.heap.size b05.le (zU _) (OwnS.nil _ _ _ _ _) b05
 rw [if_neg hc] at H
 have hg:=(zGg.1 (Classical.not_not.1 hc)).1
 have hl4:=hg.len
 have hs:=hg.sorted
 refine zFJ zJ4 λB w6 b6 hR hB=>?_
 have b06:=b05.trans b6
 have hRR:Row w6 B [Sl.v Sl.none] Q6:=hR
 refine yy yB yA ((hV.bel b5).bel b6).at x0.List rfl ?_
 have w05:w.heap.size<=w5.heap.size:=b05.le
 refine zMr b06 h λv b w7 hS hb6 hb7 b7=>?_
 have b07:=b06.trans b7
 have hBw:B<w6.heap.size:=hRR.lt
 have h57:=((h5.bel b5).bel b6).bel b7
 have h67:=((h6.bel b5).bel b6).bel b7
 have h77:=((h7.bel b5).bel b6).bel b7
 have c7:=b7.le
 have lt5:B5<w5.heap.size:=(h5.bel b5).lt
 have lt6:B6<w5.heap.size:=(h6.bel b5).lt
 have lt7:B7<w5.heap.size:=(h7.bel b5).lt
 have b57:Bel w5 w7:=b6.trans b7
 refine ⟨Seg l,λs=>s.key,λs=>x0.List.sub s.lo s.hi 4,ZA w b,λxs=>Cuts l xs l.length,λ_=>True,l.length,
  λpre W=>∃ sl,Row W B [Sl.v sl] Q6/\YJ w7.heap.size W sl (zHD fr to t pre)/\Bel w5 W/\w7.heap.size<=W.heap.size,λ_ _=>False,
  zFb.of2 hS b07.le hb7 (λs W W' row hi hg hr=>?_) (λs W W' row hi hg hr=>hi) (λpre W hi=>hi.elim λ_ h=>h.2.2.2) ⟨Sl.none,hRR.bel b7,OwnS.nil _ _ _ _ _,b57,zU _⟩,
  λW=>ZA.refl _ _ _,?_,?_,?_⟩
 ·obtain ⟨sl,h1,h2,h3,h4⟩:=hi
  exact ⟨sl,h1.notwalk hg hr,h2.notwalk hg hr,h3.notwalk b57.le hg hr,ze h4 hg.size⟩
 ·rintro pre s W ⟨sl,h1,h2,h3,h4⟩ hlenp
  have hsl:=zKh fr to t pre
  have r5:=h5.bel b5;have r6:=h6.bel b5;have r7:=h7.bel b5
  unfold zFm
  refine zAS zn fr (r5.bel h3).cell ?_
  have skip:∀ W',Bel W W'->one fr to s.key (sees s.vers s.key t)=[]->(KeepsFrom w7.heap.size W W'/\ZA w b W W'/\∃ sl,Row W' B [Sl.v sl] Q6/\YJ w7.heap.size W' sl (zHD fr to t (pre++[s]))/\Bel w5 W'/\w7.heap.size<=W'.heap.size):=by
   intro W' hb hn
   refine ⟨KeepsFrom.bel hb,ZA.bel hb (by omega),sl,h1.bel hb,?_,h3.trans hb,ze h4 hb.le⟩
   rw [zJq,hn,List.append_nil];exact h2.bel hb
  have r2t:zGH fr to s.key->zCP (some ⟨B7,0,none⟩) (some ⟨B,0,none⟩) s.key (x0.List.sub s.lo s.hi 4) (λW'=>KeepsFrom w7.heap.size W W'/\ZA w b W W'/\∃ sl,Row W' B [Sl.v sl] Q6/\YJ w7.heap.size W' sl (zHD fr to t (pre++[s]))/\Bel w5 W'/\w7.heap.size<=W'.heap.size) true W:=
   λho=>⟨λ_=>skip W (Bel.refl _) (zPT ho),λh=>(nomatch h)⟩
  have r2f:¬ zGH fr to s.key->zCP (some ⟨B7,0,none⟩) (some ⟨B,0,none⟩) s.key (x0.List.sub s.lo s.hi 4) (λW'=>KeepsFrom w7.heap.size W W'/\ZA w b W W'/\∃ sl,Row W' B [Sl.v sl] Q6/\YJ w7.heap.size W' sl (zHD fr to t (pre++[s]))/\Bel w5 W'/\w7.heap.size<=W'.heap.size) false W:=by
   intro hin
   refine ⟨λh=>(nomatch h),λ_=>?_⟩
   refine zAS yK t (r7.bel h3).cell ?_
   refine zKs (s.rd (h.bel (b05.trans h3))) (s.sorted hs) s.key t λW1 c1=>?_
   refine zCT zBW rfl yI (cs:=(zKa (sees s.vers s.key t)).cells) rfl rfl rfl λC W2 c2 hX _=>?_
   have c02:=c1.trans c2
   cases hq:sees s.vers s.key t with
   |none=>exact ⟨λh=>(nomatch h),λ_=>⟨λh=>(nomatch h),λ_=>skip W2 c02 (by rw [hq,zOQ])⟩⟩
   |some x=>
    refine ⟨λ_=>?_,λh=>(nomatch h)⟩
    rw [hq] at hX
    refine yy zCA zDe hX.at x.Gone rfl ?_
    unfold zDq
    refine ⟨λhx=>?_,λhx=>skip W2 c02 (by rw [hq,zOZ (by cases hxg:x.Gone<;>simp_all)])⟩
    have hxg:x.Gone=false:=by cases hxg:x.Gone<;>simp_all
    refine zAS zF1 sl (h1.bel c02).cell ?_
    refine yy zBc zn hX.at x.Val rfl ?_
    refine ⟨⟨s.key,x.Val⟩,W2,by kernel_rfl,?_⟩
    refine zJ6 (w0:=w5) (h2.bel c02) (h3.trans c02) b57.le (ze h4 c02.le) (by omega) λs' W3 g5 g6 g7=>?_
    have hne:(Sl.v sl).ownBlock≠some B:=λe=>by have:=h2.lo e;omega
    have hr1:=(h1.bel c02).grown g7 hne
    refine zHV zF1 hr1 rfl rfl λW4 hr2 hg2=>?_
    have le02:=c02.le
    refine ⟨(KeepsFrom.bel c02).trans ((KeepsFrom.row g7 λr hr=>(h2.bel c02).isRow hr).trans (KeepsFrom.row hg2 λr hr=>by cases hr;exact ⟨_,_,_,hr1⟩)),?_,s',hr2,?_,?_,ze h4 (ze c02.le (ze g7.size hg2.size))⟩
    ·exact (ZA.bel c02 (by omega)).trans ((ZA.grown g7 (by omega) λr hr=>by have:=h2.lo hr;have:=b07.le;omega).trans (ZA.grown hg2 (by have:=g7.size;omega) λr hr=>by cases hr;omega))
    ·rw [zJq,hq,zQG hin hxg]
     exact g5.kept hg2 (by
      cases ho:(Sl.v s').ownBlock with
      |none=>exact .inl rfl
      |some q=>exact .inr λe=>by have h8:=g5.lo ho;have h9:=Option.some.inj e;omega)
    ·exact g6.grown hg2 λr hr=>by cases hr;omega
  refine ⟨λhf=>r2t (.inl hf),λhf=>?_⟩
  refine zAS zn to (r6.bel h3).cell ?_
  refine ⟨λhto=>?_,λhto=>r2f (λho=>by
   rcases ho with g|g
   ·rw [hf] at g;cases g
   ·exact hto g.1)⟩
  refine zAS zn to (r6.bel h3).cell ?_
  unfold zDk
  cases ht:sLt s.key to with
  |false=>exact r2t (.inr ⟨hto,ht⟩)
  |true=>exact r2f (λho=>by
    rcases ho with g|g
    ·rw [hf] at g;cases g
    ·rw [ht] at g;cases g.2)
 ·rintro D xs W hD hC ⟨sl,h1,h2,h3,h4⟩ hK
  refine zAS zF1 sl h1.cell ?_
  refine ⟨hK,?_⟩
  have hg:=zIO W D
  have hr:∀ r,some D=some r->w7.heap.size<=r/\∃ o:Obj,W.heap[r]?=some o/\o.isCells=false:=λr e=>by cases e;exact ⟨hD,_,hK,rfl⟩
  have hsc:=Cuts.scan hs fr to t hC
  refine H sl _ w7.heap.size b07.le (ze h4 hg.size) ?_ (b05.trans (h3.notwalk b57.le hg hr))
  rw [hsc];exact h2.notwalk hg hr
 ·exact λD pre W h1 h2 h3 h4=>trivial
end Go.Proofs.YtealcoghiaeiiaaGreat.VG
set_option linter.unusedVariables false
namespace Go.Proofs.YtealcoghiaeiiaaGreat.VG
open Go.VB Go.VB.Srt Go.Proofs Go.RowKit
theorem zNM {base:Nat} {w0 W:World} {B C:Nat} {sl:Sl} {low:Int} {l:List Ver} {x:Ver} {ty:TypeId} (hR:Row W B [Sl.v sl,.int .u64 low] ty) (hO:Zg base W sl l) (hX:At W ⟨C,0,none⟩ x.cells) (hb:Bel w0 W) (h0:w0.heap.size<=base) (hbw:base<=W.heap.size) (hB:B<base) (hB0:w0.heap.size<=B) (room:l.length+1<=2932031007402)
  {k:World->Prop} (H:∀ s' W3 W',W.grownBy W3 (Sl.v sl).ownBlock->Row W3 B [Sl.v sl,.int .u64 low] ty->W3.grownBy W' (some B)->Row W' B [Sl.v s',.int .u64 low] ty->Zg base W' s' (l++[x])->Bel w0 W'->W.heap.size<=W'.heap.size->k W'):
  opE zA zC (zO z9 (.pointer (some ⟨B,0,none⟩)) 0) W (λp w=>opE zA Sl.v (zD zo (.pointer p)) w (λs w=>opE zA zG.v (zD yE (.pointer (some ⟨C,0,none⟩))) w (λv w=>
   opE zA Sl.v (zc zo 1 [(0,zG.v v)].toArray) w (λy w=>opE zA Sl.v (Builtin.append_ #[zo,zo] zo [Sl.v s,Sl.v y].toArray) w (λs' w=>
   opE zA zC (zO z9 (.pointer (some ⟨B,0,none⟩)) 0) w (λp w=>opU zA (zK zo (.pointer p) (Sl.v s')) w k)))))):=by
 refine yy yB yA hR.at sl rfl ?_
 refine zBI yI x rfl hX rfl ?_
 refine zL3 (w0:=w0) hO hb h0 hbw room λs' W3 h1 h2 h3=>?_
 have hne:(Sl.v sl).ownBlock≠some B:=λe=>by have:=hO.lo e;omega
 have hR3:=hR.grown h3 hne
 refine ⟨_,_,yB _ W3,?_⟩
 refine zHU yA (off:=0) hR3 rfl (by simp) rfl λW4 h4 h5=>?_
 refine H s' W3 W4 h3 hR3 h5 (by simpa using h4) (h1.kept h5 ?_) (h2.grown h5 λr hr=>by cases hr;exact hB0) (ze h3.size h5.size)
 cases ho:(Sl.v s').ownBlock with
 |none=>exact .inl rfl
 |some q=>exact .inr λe=>by have h8:=h1.lo ho;have h9:=Option.some.inj e;omega
abbrev zKo:zP:=⟨Sl.none,0⟩
theorem zJm {W:World} {B:Nat} {x:zP} {z:List Value} {q:zP->World->Prop} (hR:Row W B z z9) (hz:z.length=2)
  (H:∀ W',W.grownBy W' (some B)->q x W'):opU zA (zK z9 (.pointer (some ⟨B,0,none⟩)) (zP.v x)) W (λw=>opR zA zP.v z9 (some ⟨B,0,none⟩) w (λr=>q r w)):=by
 refine zIC z7 hR hz rfl rfl λW' hR' hg=>?_
 exact R.agg z7 x rfl hR'.at rfl (H W' hg)
theorem zNk {l:List Ver} (low:Int) (pre:List (Seg l)) (s:Seg l):swpS low (pre++[s])=swpS low pre++(zFj (sees s.vers s.key low)++s.vers.filter (λx=>decide (low<x.At))):=by
 unfold swpS;rw [List.flatMap_append];simp
theorem Cuts.len {l:List Ver} (hs:l.Pairwise vlt) (low:Int) {pre:List (Seg l)} {n:Nat} (h:Cuts l pre n):(swpS low pre).length<=l.length:=by
 rw [← Cuts.sweep hs low h]
 refine ze (zLL low _) ?_
 rw [List.length_take];omega
theorem zNl {l:List Ver} {n:Nat} {x:Ver} (h:l[n]?=some x) (low:Int):(l.take (n+1)).filter (λx=>decide (low<x.At))=(l.take n).filter (λx=>decide (low<x.At))++(if low<x.At then [x] else []):=by
 rw [zB9 h,List.filter_append]
 by_cases hh:low<x.At<;>simp [hh]
theorem zJg (o:Option Ver):(zFj o).length<=1:=by
 unfold zFj;split
 ·simp
 ·split<;>simp
theorem zJw {l:List Ver} (low:Int):∀ pre:List (Seg l),(swpS low pre).length<=pre.length*(l.length+1)
 |[]=>by simp [swpS]
 |s::pre=>by
  have h1:=zJw low pre
  have h2:=zJg (sees s.vers s.key low)
  have h3:(s.vers.filter (λx=>decide (low<x.At))).length<=s.vers.length:=List.length_filter_le _ _
  have h4:s.vers.length<=l.length:=by unfold Seg.vers;rw [List.length_take,List.length_drop];omega
  unfold swpS at*
  rw [List.flatMap_cons,zy,zy,List.length_cons,Nat.succ_mul];omega
theorem zJv {base:Nat} {W W3 W':World} {B n0 b:Nat} {w0:World} {sl:Sl} {low:Int} {l:List Ver} {ty:TypeId} (hO:Zg base W sl l) (h1:W.grownBy W3 (Sl.v sl).ownBlock) (hR3:Row W3 B [Sl.v sl,.int .u64 low] ty) (h2:W3.grownBy W' (some B))
  (hb:b<base) (hbB:b≠B) (hw0:w0.heap.size<=base) (hB:w0.heap.size<=B) (hsz:base<=W.heap.size):KeepsFrom n0 W W'/\ZA w0 b W W':=
 ⟨(KeepsFrom.row h1 λr hr=>hO.isRow hr).trans (KeepsFrom.row h2 λr hr=>by cases hr;exact ⟨_,_,_,hR3⟩),
  (ZA.grown h1 (by omega) λr hr=>by have:=hO.lo hr;omega).trans (ZA.grown h2 (by have:=h1.size;omega) λr hr=>by cases hr;omega)⟩
theorem zMP {w w3 w7 W:World} {x0:Sl} {l:List Ver} {low:Int} {b B B3:Nat} (h:zEd w x0 l) (hs:l.Pairwise vlt) (hl4:l.length<=4096) (b03:Bel w w3) (hL3:Row w3 B3 [.int .u64 low] zH1) (b37:Bel w3 w7) (hb7:b<w7.heap.size) (hbB:b≠B) (hB:w3.heap.size<=B) (hBw:B<w7.heap.size)
  {pre:List (Seg l)} (s:Seg l) (hlenp:pre.length<l.length) (h4:w7.heap.size<=W.heap.size)
  {W3:World} {sl3:Sl} (r1:Row W3 B [Sl.v sl3,.int .u64 low] z9) (r2:Zg w7.heap.size W3 sl3 (swpS low pre++zFj (sees s.vers s.key low))) (r3:Bel w3 W3) (r4:w7.heap.size<=W3.heap.size) (r5:KeepsFrom w7.heap.size W W3) (r6:ZA w b W W3):
  zA6 (some ⟨B3,0,none⟩) (some ⟨B,0,none⟩) (x0.sub s.lo s.hi 4) (λW'=>KeepsFrom w7.heap.size W W'/\ZA w b W W'/\∃ sl,Row W' B [Sl.v sl,.int .u64 low] z9/\Zg w7.heap.size W' sl (swpS low (pre++[s]))/\Bel w3 W'/\w7.heap.size<=W'.heap.size) W3:=by
 have hbig:=h.big;have hcap:=h.cap;have hlen:=h.len
 have hw3:=b03.le
 have w37:=b37.le
 have hsl:=zJw low pre
 have hml:pre.length*(l.length+1)<=4096*4097:=Nat.mul_le_mul (by omega) (by omega)
 have hvl:s.vers.length<=l.length:=by unfold Seg.vers;rw [List.length_take,List.length_drop];omega
 have hsr:=s.rd (h.bel (b03.trans r3))
 have hsrlen:=hsr.len
 have hlo1:=zJg (sees s.vers s.key low)
 unfold zA6
 refine ⟨λi W'=>∃ (n:Nat) (sl:Sl),i=(n:Int)/\n<=s.vers.length/\Row W' B [Sl.v sl,.int .u64 low] z9/\Zg w7.heap.size W' sl (swpS low pre++zFj (sees s.vers s.key low)++(s.vers.take n).filter (λx=>decide (low<x.At)))/\Bel w3 W'/\w7.heap.size<=W'.heap.size/\KeepsFrom w7.heap.size W W'/\ZA w b W W',
  λi _=>((x0.sub s.lo s.hi 4).len - i).toNat,⟨0,sl3,rfl,by omega,r1,by simpa using r2,r3,r4,r5,r6⟩,?_⟩
 rintro i W' ⟨n,sl',rfl,hn,q1,q2,q3,q4,q5,q6⟩
 unfold zD3
 refine ⟨λhlt=>?_,λhlt=>?_⟩
 case refine_2=>
  obtain rfl:n=s.vers.length:=by omega
  rw [List.take_length] at q2
  exact ⟨q5,q6,sl',q1,by rw [zNk,← List.append_assoc];exact q2,q3,q4⟩
 obtain ⟨e,he⟩:=getV (l:=s.vers) (n:=n) (by omega)
 have hfs:=zNl he low
 have hfl:((s.vers.take n).filter (λx=>decide (low<x.At))).length<=l.length:=ze (List.length_filter_le _ _) (by rw [List.length_take];omega)
 refine zDR (s.rd (h.bel (b03.trans q3))) yk QN (by omega) (x:=e) (by simpa using he) λad hA=>?_
 refine zBI yI e rfl hA rfl ?_
 refine zCT zBW rfl yI (cs:=e.cells) rfl rfl rfl λC' W4 c4 hX' _=>?_
 refine yy zAU yK hX'.at e.At rfl ?_
 refine zAS yK low ((hL3.bel q3).bel c4).cell ?_
 have c4le:=c4.le
 refine ⟨λhat=>?_,λhat=>?_⟩
 ·rw [if_pos hat] at hfs
  refine zNM (w0:=w3) (q1.bel c4) (q2.bel c4) hX'.at (q3.trans c4) b37.le (ze q4 c4.le) (by omega) hB (by rw [zy,zy];omega) λs' W5 W6 g1 g2 g3 g4 g5 g6 g7=>?_
  obtain ⟨p1,p2⟩:=zJv (n0:=w7.heap.size) (w0:=w) (b:=b) (q2.bel c4) g1 g2 g3 (by omega) (by omega) (by omega) (by omega) (ze q4 c4.le)
  unfold zB6
  rw [wr64 (by omega) (by omega)]
  refine ⟨⟨n+1,s',by omega,by omega,g4,?_,g6,ze (ze q4 c4.le) g7,(q5.trans (KeepsFrom.bel c4)).trans p1,(q6.trans (ZA.bel c4 (by omega))).trans p2⟩,by dsimp only;omega⟩
  rw [hfs,← List.append_assoc];exact g5
 ·rw [if_neg hat,List.append_nil] at hfs
  unfold zB6
  rw [wr64 (by omega) (by omega)]
  refine ⟨⟨n+1,sl',by omega,by omega,q1.bel c4,?_,q3.trans c4,ze q4 c4.le,q5.trans (KeepsFrom.bel c4),q6.trans (ZA.bel c4 (by omega))⟩,by dsimp only;omega⟩
  rw [hfs];exact q2.bel c4
theorem zLS {w w3 w7 W:World} {x0:Sl} {l:List Ver} {low:Int} {b B B3:Nat} (h:zEd w x0 l) (hs:l.Pairwise vlt) (hl4:l.length<=4096) (b03:Bel w w3) (hL3:Row w3 B3 [.int .u64 low] zH1) (b37:Bel w3 w7) (hb7:b<w7.heap.size) (hbB:b≠B) (hB:w3.heap.size<=B) (hBw:B<w7.heap.size)
  {pre:List (Seg l)} (s:Seg l) (hlenp:pre.length<l.length) (h4:w7.heap.size<=W.heap.size)
  {sl:Sl} (h1:Row W B [Sl.v sl,.int .u64 low] z9) (h2:Zg w7.heap.size W sl (swpS low pre)) (h3:Bel w3 W) {L:World->Prop}:
  zEE (some ⟨B3,0,none⟩) (some ⟨B,0,none⟩) s.key (x0.sub s.lo s.hi 4) W (λW'=>KeepsFrom w7.heap.size W W'/\ZA w b W W'/\∃ sl,Row W' B [Sl.v sl,.int .u64 low] z9/\Zg w7.heap.size W' sl (swpS low (pre++[s]))/\Bel w3 W'/\w7.heap.size<=W'.heap.size) L:=by
 have hbig:=h.big;have hcap:=h.cap;have hlen:=h.len
 have hw3:=b03.le
 have w37:=b37.le
 have hsl:=zJw low pre
 have hml:pre.length*(l.length+1)<=4096*4097:=Nat.mul_le_mul (by omega) (by omega)
 have hvl:s.vers.length<=l.length:=by unfold Seg.vers;rw [List.length_take,List.length_drop];omega
 have hsr:=s.rd (h.bel (b03.trans h3))
 have hsrlen:=hsr.len
 unfold zEE
 refine zAS yK low (hL3.bel h3).cell ?_
 refine zKs hsr (s.sorted hs) s.key low λW1 c1=>?_
 refine zCT zBW rfl yI (cs:=(zKa (sees s.vers s.key low)).cells) rfl rfl rfl λC W2 c2 hX _=>?_
 have c02:=c1.trans c2
 have c02le:=c02.le
 have j2:∀ W3 sl3,Row W3 B [Sl.v sl3,.int .u64 low] z9->Zg w7.heap.size W3 sl3 (swpS low pre++zFj (sees s.vers s.key low))->Bel w3 W3->w7.heap.size<=W3.heap.size->KeepsFrom w7.heap.size W W3->ZA w b W W3->
   zA6 (some ⟨B3,0,none⟩) (some ⟨B,0,none⟩) (x0.sub s.lo s.hi 4) (λW'=>KeepsFrom w7.heap.size W W'/\ZA w b W W'/\∃ sl,Row W' B [Sl.v sl,.int .u64 low] z9/\Zg w7.heap.size W' sl (swpS low (pre++[s]))/\Bel w3 W'/\w7.heap.size<=W'.heap.size) W3:=λW3 sl3 r1 r2 r3 r4 r5 r6=>zMP h hs hl4 b03 hL3 b37 hb7 hbB hB hBw s hlenp h4 r1 r2 r3 r4 r5 r6
 have skip:zFj (sees s.vers s.key low)=[]->zA6 (some ⟨B3,0,none⟩) (some ⟨B,0,none⟩) (x0.sub s.lo s.hi 4) (λW'=>KeepsFrom w7.heap.size W W'/\ZA w b W W'/\∃ sl,Row W' B [Sl.v sl,.int .u64 low] z9/\Zg w7.heap.size W' sl (swpS low (pre++[s]))/\Bel w3 W'/\w7.heap.size<=W'.heap.size) W2:=λhn=>
  j2 W2 sl (h1.bel c02) (by rw [hn,List.append_nil];exact h2.bel c02) (h3.trans c02) (ze h4 c02.le) (KeepsFrom.bel c02) (ZA.bel c02 (by omega))
 cases hq:sees s.vers s.key low with
 |none=>exact ⟨λh=>(nomatch h),λ_=>⟨λh=>(nomatch h),λ_=>skip (by rw [hq];rfl)⟩⟩
 |some x=>
  refine ⟨λ_=>?_,λh=>(nomatch h)⟩
  rw [hq] at hX
  refine yy zCA zDe hX.at x.Gone rfl ?_
  unfold zCq
  refine ⟨λhx=>?_,λhx=>skip (by rw [hq];unfold zFj;simp only;rw [if_pos (by cases hxg:x.Gone<;>simp_all)])⟩
  have hone:zFj (some x)=[x]:=by unfold zFj;simp only;rw [if_neg (by cases hxg:x.Gone<;>simp_all)]
  refine zNM (w0:=w3) (h1.bel c02) (h2.bel c02) hX.at (h3.trans c02) b37.le (ze h4 c02.le) (by omega) hB (by omega) λs' W5 W6 g1 g2 g3 g4 g5 g6 g7=>?_
  obtain ⟨p1,p2⟩:=zJv (n0:=w7.heap.size) (w0:=w) (b:=b) (h2.bel c02) g1 g2 g3 (by omega) (by omega) (by omega) (by omega) (ze h4 c02.le)
  exact j2 W6 s' g4 (by rw [hq,hone];exact g5) g6 (ze (ze h4 c02.le) g7) ((KeepsFrom.bel c02).trans p1) ((ZA.bel c02 (by omega)).trans p2)
theorem zNp {w:World} {x0:zP} {l:List Ver} (h:zEd w x0.List l) (low:Int) {k:zP->Int->World->Prop}
  (H:∀ r w' base,w.heap.size<=base->Zg base w' r (zDB l x0.Low low).1->Bel w w'->k ⟨r,(zDB l x0.Low low).2.1⟩ (zDB l x0.Low low).2.2 w'):
  Cl zA zKO [zP.v x0,.int .u64 low].toArray w (λe w'=>∃ (r0:zP) (r1:Int),e=.returned (.tuple [zP.v r0,.int .i64 r1].toArray)/\k r0 r1 w'):=by
 refine zKN x0 low w k ?_
 have hbig:=h.big;have hcap:=h.cap;have hlen:=h.len
 unfold zGq
 refine zA7 (cs:=x0.cells) rfl λB2 w1 b1 hV hB2=>?_
 refine zA7 (cs:=[.int .u64 low]) rfl λB3 wl bl hL hB3=>?_
 refine zFJ zAa λB4 w2 b2 hZ hB4=>?_
 have b02:=(b1.trans bl).trans b2
 have w1le:=b1.le
 have wlle:=bl.le
 replace hV:=(hV.bel bl).bel b2
 replace hL:=hL.bel b2
 refine zBI z7 x0 rfl hV.at rfl ?_
 refine zI8 (h.bel b02) λw3 b3=>?_
 have b03:=b02.trans b3
 have hZ3:=hZ.bel b3
 unfold zDB at H
 refine ⟨λhc=>?_,λhc=>?_⟩
 ·rw [if_pos hc] at H
  refine ⟨zKo,w3,by kernel_rfl,?_⟩
  exact zJm hZ3 rfl λW' hg=>H Sl.none W' W'.heap.size (b03.grown hg λr hr=>by cases hr;omega).le (OwnS.nil _ _ _ _ _) (b03.grown hg λr hr=>by cases hr;omega)
 rw [if_neg hc] at H
 have hg:=zFa.1 (Classical.not_not.1 hc)
 have hl4:=hg.len
 have hs:=hg.sorted
 refine zAS yK low (hL.bel b3).cell ?_
 refine yy zAd yK (hV.bel b3).at x0.Low rfl ?_
 refine ⟨λhlo=>?_,λhlo=>?_⟩
 ·rw [if_pos hlo] at H
  refine ⟨zKo,w3,by kernel_rfl,?_⟩
  exact zJm hZ3 rfl λW' hg=>H Sl.none W' W'.heap.size (b03.grown hg λr hr=>by cases hr;omega).le (OwnS.nil _ _ _ _ _) (b03.grown hg λr hr=>by cases hr;omega)
 rw [if_neg hlo] at H
 refine zAS yK low (hL.bel b3).cell ?_
 refine ⟨λhhi=>?_,λhhi=>?_⟩
 ·rw [if_pos hhi] at H
  refine ⟨zKo,w3,by kernel_rfl,?_⟩
  exact zJm hZ3 rfl λW' hg=>H Sl.none W' W'.heap.size (b03.grown hg λr hr=>by cases hr;omega).le (OwnS.nil _ _ _ _ _) (b03.grown hg λr hr=>by cases hr;omega)
 rw [if_neg hhi] at H
 refine zAS yK low (hL.bel b3).cell ?_
 refine ⟨⟨Sl.none,low⟩,w3,by kernel_rfl,?_⟩
 refine zCT zAa rfl z7 (cs:=(⟨Sl.none,low⟩:zP).cells) rfl rfl rfl λB w4 b4 hR hB=>?_
 have b04:=b03.trans b4
 have hw3:=b03.le
 have hB4w:B4<w3.heap.size:=hZ3.lt
 have hBw:B<w4.heap.size:=hR.lt
 refine yy yB yA ((hV.bel b3).bel b4).at x0.List rfl ?_
 refine zMr b04 h λv b w7 hS hb6 hb7 b7=>?_
 have b07:=b04.trans b7
 have b37:=b4.trans b7
 have w7le:=b7.le
 refine ⟨Seg l,λs=>s.key,λs=>x0.List.sub s.lo s.hi 4,ZA w b,λxs=>Cuts l xs l.length,λ_=>True,l.length,
  λpre W=>∃ sl,Row W B [Sl.v sl,.int .u64 low] z9/\Zg w7.heap.size W sl (swpS low pre)/\Bel w3 W/\w7.heap.size<=W.heap.size,λ_ _=>False,
  zFb.of2 hS b07.le hb7 (λs W W' row hi hg hr=>?_) (λs W W' row hi hg hr=>hi) (λpre W hi=>hi.elim λ_ h=>h.2.2.2) ⟨Sl.none,hR.bel b7,OwnS.nil _ _ _ _ _,b37,zU _⟩,
  λW=>ZA.refl _ _ _,?_,?_,?_⟩
 ·obtain ⟨sl,h1,h2,h3,h4⟩:=hi
  exact ⟨sl,h1.notwalk hg hr,h2.notwalk hg hr,h3.notwalk b37.le hg hr,ze h4 hg.size⟩
 ·rintro pre s W ⟨sl,h1,h2,h3,h4⟩ hlenp
  exact zLS h hs hl4 b03 (hL.bel b3) b37 hb7 (by omega) hB (by omega) s hlenp h4 h1 h2 h3
 ·rintro D xs W hD hC ⟨sl,h1,h2,h3,h4⟩ hK
  refine zBI z7 ⟨sl,low⟩ rfl h1.at rfl ?_
  have hsw:=Cuts.sweep hs low hC
  rw [List.take_length] at hsw
  rw [← hsw] at h2
  refine zIC z7 (hZ3.bel h3) rfl rfl rfl λW5 hR5 hg5=>?_
  have hDW:D<W.heap.size:=(Array.getElem?_eq_some_iff.1 hK).1
  have hw37:=b37.le
  have hK5:W5.heap[D]?=some (.deferred (some [])):=(hg5.block D hDW (λe=>by have:=Option.some.inj e;omega)).trans hK
  refine ⟨hK5,?_⟩
  have hgd:=zIO W5 D
  have hr:∀ r,some D=some r->w7.heap.size<=r/\∃ o:Obj,W5.heap[r]?=some o/\o.isCells=false:=λr e=>by cases e;exact ⟨hD,_,hK5,rfl⟩
  refine R.agg z7 ⟨sl,low⟩ rfl (hR5.notwalk hgd hr).at rfl ?_
  refine H sl _ w7.heap.size b07.le (OwnS.notwalk (h2.kept hg5 ?_) hgd hr) (((b03.trans h3).grown hg5 λr hr=>by cases hr;omega).notwalk b07.le hgd hr)
  cases ho:(Sl.v sl).ownBlock with
  |none=>exact .inl rfl
  |some q=>exact .inr λe=>by have h8:=h2.lo ho;have h9:=Option.some.inj e;omega
 ·exact λD pre W h1 h2 h3 h4=>trivial
end Go.Proofs.YtealcoghiaeiiaaGreat.VG
set_option linter.unusedVariables false
namespace Go.Proofs.YtealcoghiaeiiaaGreat.VG
open Go.VB Go.VB.Srt Go.Proofs Go.RowKit
def zBJ (w:Wri):Prop:=256<w.Key.size∨512<w.Val.size
def zDP (m:List Wri):List ByteArray:=m.map (·.Key)
open Classical in
noncomputable def zGP (m:List Wri):Int:=if 4096<m.length then 3 else if (∃ w∈m,zBJ w) then 4 else if ¬ (zDP m).Nodup then 12 else 0
theorem zE0 {m:List Wri}:zGP m=0↔m.length<=4096/\(∀ w∈m,¬ zBJ w)/\(zDP m).Nodup:=by
 unfold zGP
 by_cases h1:4096<m.length
 ·rw [if_pos h1];exact ⟨λh=>absurd h (by decide),λh=>by omega⟩
 rw [if_neg h1]
 by_cases h2:∃ w∈m,zBJ w
 ·rw [if_pos h2];exact ⟨λh=>absurd h (by decide),λh=>absurd h2 (λ⟨w,h3,h4⟩=>h.2.1 w h3 h4)⟩
 rw [if_neg h2]
 by_cases h3:(zDP m).Nodup
 ·rw [if_neg (by simp [h3])];exact ⟨λ_=>⟨by omega,λw h4 h5=>h2 ⟨w,h4,h5⟩,h3⟩,λ_=>rfl⟩
 ·rw [if_pos h3];exact ⟨λh=>absurd h (by decide),λh=>absurd h.2.2 h3⟩
def mk (t:Int) (w:Wri):Ver:=⟨w.Key,t,if w.Gone=true then noB else w.Val,w.Gone⟩
def ins (x:Ver):List Ver->List Ver
 |[]=>[x]
 |y::r=>if sLt x.Key y.Key=true then x::y::r else y::ins x r
def putL (l:List Ver) (t:Int) (m:List Wri):List Ver:=m.foldl (λl w=>ins (mk t w) l) l
theorem zNP (x:Ver):∀ l:List Ver,(ins x l).length=l.length+1
 |[]=>rfl
 |y::r=>by
  rw [ins];split
  ·rfl
  ·rw [List.length_cons,zNP x r,List.length_cons]
theorem zKn {x z:Ver}:∀ {l:List Ver},z∈ins x l↔z=x∨z∈l
 |[]=>by simp [ins]
 |y::r=>by
  rw [ins];split
  ·simp
  ·rw [List.mem_cons,zKn,List.mem_cons]
   constructor
   ·rintro (h|h|h)<;>simp [h]
   ·rintro (h|h|h)<;>simp [h]
theorem zMB (x:Ver):∀ l:List Ver,(ins x l).Perm (x::l)
 |[]=>List.Perm.refl _
 |y::r=>by
  rw [ins];split
  ·exact List.Perm.refl _
  ·exact ((zMB x r).cons y).trans (List.Perm.swap x y r)
theorem zJ0 {x:Ver}:∀ {l:List Ver},l.Pairwise vlt->(∀ y∈l,y.Key=x.Key->y.At<x.At)->(ins x l).Pairwise vlt
 |[],_,_=>by simp [ins]
 |y::r,hs,h=>by
  rw [List.pairwise_cons] at hs
  rw [ins];split
  ·rename_i hlt
   rw [List.pairwise_cons,List.pairwise_cons]
   refine ⟨λz hz=>?_,hs⟩
   rcases List.mem_cons.1 hz with h1|h1
   ·subst h1;exact .inl hlt
   ·exact zIF (.inl hlt) (hs.1 z h1)
  ·rename_i hlt
   rw [List.pairwise_cons]
   refine ⟨λz hz=>?_,zJ0 hs.2 λz hz=>h z (List.mem_cons_of_mem _ hz)⟩
   rcases zKn.1 hz with h1|h1
   ·subst h1
    by_cases hk:y.Key=z.Key
    ·exact .inr ⟨hk,h y (by simp) hk⟩
    ·exact .inl (zD4 hlt (λe=>hk e.symm))
   ·exact hs.1 z h1
theorem zLk (t:Int):∀ (m:List Wri) (l:List Ver),(putL l t m).length=l.length+m.length
 |[],l=>rfl
 |w::m,l=>by
  show (putL (ins (mk t w) l) t m).length=_
  rw [zLk t m,zNP,List.length_cons];omega
theorem zJD (t:Int):∀ (m:List Wri) (l:List Ver),(putL l t m).Perm (l++m.map (mk t))
 |[],l=>by simp [putL]
 |w::m,l=>by
  show (putL (ins (mk t w) l) t m).Perm _
  refine (zJD t m _).trans ?_
  rw [List.map_cons]
  refine ((zMB (mk t w) l).append_right (m.map (mk t))).trans ?_
  exact (List.perm_middle (a:=mk t w) (l₁:=l) (l₂:=m.map (mk t))).symm
theorem zHm {t:Int}:∀ (m:List Wri) (l:List Ver),l.Pairwise vlt->(zDP m).Nodup->(∀ w∈m,∀ y∈l,y.Key=w.Key->y.At<t)->(putL l t m).Pairwise vlt
 |[],l,hs,_,_=>hs
 |w::m,l,hs,hn,h=>by
  have hn':=List.nodup_cons.1 (show (w.Key::zDP m).Nodup from hn)
  refine zHm (t:=t) m _ (zJ0 hs (h w (by simp))) hn'.2 λv hv y hy hk=>?_
  rcases zKn.1 hy with h1|h1
  ·subst h1
   exact absurd (List.mem_map.2 ⟨v,hv,hk.symm⟩) hn'.1
  ·exact h v (List.mem_cons_of_mem _ hv) y h1 hk
theorem zIH:∀ {s t:List Ver},s.Pairwise vlt->t.Pairwise vlt->(∀ x,x∈s↔x∈t)->s=t
 |[],[],_,_,_=>rfl
 |[],y::t,_,_,h=>absurd ((h y).2 (by simp)) (by simp)
 |x::s,[],_,_,h=>absurd ((h x).1 (by simp)) (by simp)
 |x::s,y::t,hs,ht,h=>by
  rw [List.pairwise_cons] at hs ht
  have hxy:x=y:=by
   rcases List.mem_cons.1 ((h x).1 (by simp)) with h1|h1
   ·exact h1
   ·rcases List.mem_cons.1 ((h y).2 (by simp)) with h2|h2
    ·exact h2.symm
    ·exact absurd (zIF (hs.1 y h2) (ht.1 x h1)) (zIp x)
  subst hxy
  have hst:s=t:=zIH hs.2 ht.2 λz=>by
   constructor
   ·intro hz
    rcases List.mem_cons.1 ((h z).1 (by simp [hz])) with h1|h1
    ·subst h1;exact absurd (hs.1 z hz) (zIp z)
    ·exact h1
   ·intro hz
    rcases List.mem_cons.1 ((h z).2 (by simp [hz])) with h1|h1
    ·subst h1;exact absurd (ht.1 z hz) (zIp z)
    ·exact h1
  rw [hst]
theorem zLf {s t:List Ver} (hs:s.Pairwise vlt) (ht:t.Pairwise vlt) (h:s.Perm t):s=t:=zIH hs ht λx=>h.mem_iff
theorem zNc {ys:List Ver} (hp:ys.Pairwise (λx y=>Le vltB x y)) (hn:ys.Pairwise (λx y=>¬ (x.Key=y.Key/\x.At=y.At))):ys.Pairwise vlt:=
 (hp.and hn).imp λ{x y} h=>by
  have h1:¬ vlt y x:=λh2=>by have h3:vltB y x=false:=h.1;rw [zGf.2 h2] at h3;cases h3
  exact zNS h1 (λh2=>h.2 ⟨h2.1.symm,h2.2.symm⟩)
theorem zPk {l:List Ver} {t:Int} {m:List Wri} {ys:List Ver} (hs:l.Pairwise vlt) (hn:(zDP m).Nodup) (hl:∀ y∈l,y.At<t) (hp:ys.Perm (l++m.map (mk t))) (hle:ys.Pairwise (λx y=>Le vltB x y)):ys=putL l t m:=by
 have hq:=zHm (t:=t) m l hs hn λw _ y hy _=>hl y hy
 have hpp:=zJD t m l
 refine zLf (zNc hle ?_) hq (hp.trans hpp.symm)
 have h1:(putL l t m).Pairwise (λx y=>¬ (x.Key=y.Key/\x.At=y.At)):=hq.imp λ{x y} h h2=>by
  rcases h with h|h
  ·rw [h2.1] at h;exact Zl _ h
  ·omega
 exact (hp.trans hpp.symm).pairwise_iff (λ{a b} h h2=>h ⟨h2.1.symm,h2.2.symm⟩) |>.2 h1
open Classical in
noncomputable def pwhy (l:List Ver) (low:Int) (m:List Wri) (t:Int):Int:=
 if vchk l low≠0 then vchk l low else if zGP m≠0 then zGP m else if t<1∨2305843009213693952<t then 2 else if t<low∨(∃ x∈l,t<=x.At) then 9 else if 4096<l.length+m.length then 3 else 0
noncomputable def vput (l:List Ver) (low:Int) (m:List Wri) (t:Int):List Ver × Int × Int:=
 if pwhy l low m t≠0 then ([],0,pwhy l low m t) else (putL l t m,low,0)
theorem zFW {l:List Ver} {low:Int} {m:List Wri} {t:Int}:pwhy l low m t=0↔zCM l low/\zGP m=0/\1<=t/\t<=2305843009213693952/\low<=t/\(∀ x∈l,x.At<t)/\l.length+m.length<=4096:=by
 unfold pwhy
 by_cases h1:vchk l low=0
 case neg=>rw [if_pos h1];exact ⟨λh=>absurd h h1,λh=>absurd (zFa.2 h.1) h1⟩
 rw [if_neg (by simp [h1])]
 by_cases h2:zGP m=0
 case neg=>rw [if_pos h2];exact ⟨λh=>absurd h h2,λh=>absurd h.2.1 h2⟩
 rw [if_neg (by simp [h2])]
 by_cases h3:t<1∨2305843009213693952<t
 ·rw [if_pos h3];exact ⟨λh=>absurd h (by decide),λh=>by omega⟩
 rw [if_neg h3]
 by_cases h4:t<low∨(∃ x∈l,t<=x.At)
 ·rw [if_pos h4]
  refine ⟨λh=>absurd h (by decide),λh=>?_⟩
  rcases h4 with h5|⟨x,h5,h6⟩
  ·omega
  ·have:=h.2.2.2.2.2.1 x h5;omega
 rw [if_neg h4]
 by_cases h5:4096<l.length+m.length
 ·rw [if_pos h5];exact ⟨λh=>absurd h (by decide),λh=>by omega⟩
 rw [if_neg h5]
 exact ⟨λ_=>⟨zFa.1 h1,h2,by omega,by omega,by omega,λx hx=>Int.not_le.1 λh6=>h4 (.inr ⟨x,hx,h6⟩),by omega⟩,λ_=>rfl⟩
end Go.Proofs.YtealcoghiaeiiaaGreat.VG
set_option linter.unusedVariables false
namespace Go.Proofs.YtealcoghiaeiiaaGreat.VG
open Go.VB Go.VB.Srt Go.Proofs Go.RowKit
theorem zQh:Agg zA zHz 0:=⟨λw=>by kernel_rfl,λw=>by kernel_rfl,by kernel_rfl⟩
theorem zQP:∀ w,(zk zHz true (.tuple #[])).run zA w=.ok (.pointer (some ⟨w.heap.size,0,none⟩)) (w.alloc (.cells ([]:List Value).toArray zHz)):=λw=>by kernel_rfl
theorem zRb:∀ w,(zeroValue zHz).run zA w=.ok (.agg ([]:List Value).toArray) w:=λw=>by kernel_rfl
theorem zH2:zEy zA zKb zY:=zEy.string (by kernel_rfl)
abbrev zHs (w:World) (s:Sl) (l:List Wri):Prop:=Rd zI.cells 3 w s l
theorem OwnS.ne_row {α:Type} {c:α->List Value} {n e base:Nat} {w:World} {s:Sl} {xs:List α} (h:OwnS c n e base w s xs) {B:Nat} {cs:List Value} {e':TypeId} (hR:Row w B cs e') (hne:e≠e'):(Sl.v s).ownBlock≠some B:=λhB=>by
 rcases h.row.2 with ⟨h1,_⟩|⟨g,cap,cur,h1,_,hh,_⟩
 ·rw [h1] at hB;cases hB
 ·rw [h1] at hB
  simp [Value.ownBlock] at hB
  subst hB
  unfold Row at hR
  rw [hR] at hh
  injection hh with hh
  injection hh with _ h3 _
  exact hne h3.symm
theorem getW {l:List Wri} {n:Nat} (h:n<l.length):∃ x,l[n]?=some x:=⟨l[n]'h,by simp⟩
theorem zMD (x:Wri) (w:World) {k:Bool->World->Prop} (H:∀ b w',(b=true↔zBJ x)->Bel w w'->k b w'):
  Cl zA zFi [zI.v x].toArray w (λe w'=>∃ r0:Bool,e=.returned (.bool r0)/\k r0 w'):=by
 refine zJR x w k ?_
 unfold zGA
 refine zA7 (cs:=x.cells) rfl λB w1 b1 hX _=>?_
 refine yy yj zn hX.at x.Key rfl ?_
 unfold zCD
 refine ⟨λh=>H true w1 ⟨λ_=>.inl (by omega),λ_=>rfl⟩ b1,λh=>?_⟩
 refine yy zAE zn hX.at x.Val rfl ?_
 refine H _ w1 ?_ b1
 rw [decide_eq_true_iff]
 exact ⟨λh=>.inr (by omega),λh1=>by rcases h1 with h1|h1<;>omega⟩
theorem zLB {w:World} {x:Sl} {m:List Wri} (hd:zHs w x m) {k:Bool->World->Prop} (H:∀ b w',(b=true↔∃ d∈m,zBJ d)->Bel w w'->k b w'):
  Cl zA zCp [Sl.v x,.func (.func zFi) #[] #[]].toArray w (λe w'=>∃ r0:Bool,e=.returned (.bool r0)/\k r0 w'):=by
 have dbig:=hd.big;have dcap:=hd.cap;have dlen:=hd.len
 refine zCe x _ w k ?_
 unfold ZL
 refine zDX x _ w _ ?_
 unfold Zv
 refine ⟨λi w1=>∃ n:Nat,i=(n:Int)/\n<=m.length/\Bel w w1/\∀ d∈m.take n,¬ zBJ d,λi _=>(x.len - i).toNat,⟨0,rfl,by omega,Bel.refl _,by simp⟩,?_⟩
 rintro i w1 ⟨n,rfl,hn,hb,hno⟩
 unfold YO
 refine ⟨λhc=>?_,λhc=>?_⟩
 ·obtain ⟨d,hdn⟩:=getW (l:=m) (n:=n) (by omega)
  refine zDR (hd.bel hb) zAR zBX (by omega) (x:=d) (by simpa using hdn) λad hA=>?_
  refine zBI y6 d rfl hA rfl ?_
  refine .inl ⟨zFi,[],[],rfl,zQr,zMD d w1 λb w2 hbb hb2=>?_⟩
  refine ⟨λht=>?_,λhf=>?_⟩
  ·dsimp only
   rw [decide_eq_true (p:=0<=(n:Int)) (by omega)]
   exact H true w2 ⟨λ_=>⟨d,List.mem_of_getElem? hdn,hbb.1 ht⟩,λ_=>rfl⟩ (hb.trans hb2)
  ·rw [wr64 (by omega) (by omega)]
   refine ⟨⟨n+1,by omega,by omega,hb.trans hb2,λe he=>?_⟩,by dsimp only;omega⟩
   rw [zB9 hdn] at he
   rcases List.mem_append.1 he with h2|h2
   ·exact hno e h2
   ·simp at h2;subst h2;exact λh3=>by rw [hbb.2 h3] at hf;cases hf
 ·obtain rfl:n=m.length:=by omega
  rw [List.take_length] at hno
  refine H _ w1 ⟨λh=>absurd (of_decide_eq_true h) (by omega),λ⟨d,h1,h2⟩=>absurd h2 (hno d h1)⟩ hb
theorem zMH {m:List Wri} {n:Nat} {x:Wri} (h:m[n]?=some x):zDP (m.take (n+1))=zDP (m.take n)++[x.Key]:=by
 unfold zDP;rw [zB9 h,List.map_append];rfl
theorem zJt {l:List ByteArray} {a:ByteArray}:(l++[a]).Nodup↔l.Nodup/\a∉l:=by
 rw [List.nodup_append]
 constructor
 ·rintro ⟨h1,_,h3⟩;exact ⟨h1,λh=>h3 a h a (by simp) rfl⟩
 ·rintro ⟨h1,h2⟩;exact ⟨h1,by simp,λx hx y hy e=>by simp at hy;subst hy;subst e;exact h2 hx⟩
theorem zMn {m:List Wri} (n:Nat) (h:¬ (zDP (m.take n)).Nodup):¬ (zDP m).Nodup:=λh1=>h (by
 unfold zDP at*
 rw [List.map_take]
 exact h1.sublist (List.take_sublist _ _))
theorem zN0 {w:World} {x:Sl} {m:List Wri} (hd:zHs w x m) {k:Int->World->Prop} (H:∀ w',Bel w w'->k (zGP m) w'):
  Cl zA zKC [Sl.v x].toArray w (λe w'=>∃ r0:Int,e=.returned (.int .i64 r0)/\k r0 w'):=by
 have dbig:=hd.big;have dcap:=hd.cap;have dlen:=hd.len
 refine zJ8 x w k ?_
 unfold zGn
 unfold zGP at H
 refine ⟨λhc=>?_,λhc=>?_⟩
 ·rw [if_pos (by omega)] at H;exact H w (Bel.refl _)
 rw [if_neg (by omega)] at H
 refine zLB hd λb w1 hb b1=>?_
 refine ⟨λht=>?_,λhf=>?_⟩
 ·rw [if_pos (hb.1 ht)] at H;exact H w1 b1
 rw [if_neg (λh=>by rw [hb.2 h] at hf;cases hf)] at H
 refine zMf (ek:=zY) (ev:=zFY.v) λhM=>?_
 have b2:=Bel.alloc w1 (.map #[] 0)
 have hle1:=b1.le
 generalize hB:w1.heap.size=B at hM hle1 ⊢
 generalize (w1.alloc (.map #[] 0))=w2 at hM b2 ⊢
 have b02:=b1.trans b2
 refine ⟨λi W=>∃ (n:Nat) (f:ByteArray->Option zFY),i=(n:Int)/\n<=m.length/\Bel w W/\Zr zY zFY.v W B f/\(∀ s,(f s).isSome=true↔s∈zDP (m.take n))/\(zDP (m.take n)).Nodup,λi _=>(x.len - i).toNat,⟨0,_,rfl,by omega,b02,hM,λs=>by simp [zDP],by simp [zDP]⟩,?_⟩
 rintro i W ⟨n,f,rfl,hn,hb,hm,hf1,hnd⟩
 unfold zEF
 refine ⟨λhlt=>?_,λhlt=>?_⟩
 case refine_2=>
  obtain rfl:n=m.length:=by omega
  rw [List.take_length] at hnd
  rw [if_neg (by simp [hnd])] at H
  exact H W hb
 obtain ⟨d,hdn⟩:=getW (l:=m) (n:=n) (by omega)
 have hwk:=zMH hdn
 refine zDR (hd.bel hb) zAR zBX (by omega) (x:=d) (by simpa using hdn) λad hA=>?_
 refine zBI y6 d rfl hA rfl ?_
 refine zCT zAl rfl y6 (cs:=d.cells) rfl rfl rfl λC w3 b3 hX hC=>?_
 refine yy yj zn hX.at d.Key rfl ?_
 have hm3:=hm.bel b3
 refine ⟨((f d.Key).getD ⟨⟩,(f d.Key).isSome),w3,hm3.run_lookOk zH2 zFM zRb d.Key,?_⟩
 refine zCT zQP rfl zQh (cs:=([]:List Value)) rfl rfl rfl λC2 w4 b4 _ _=>?_
 have b04:=(hb.trans b3).trans b4
 refine ⟨λht=>?_,λhfl=>?_⟩
 ·have hin:=(hf1 d.Key).1 ht
  rw [if_pos (zMn (n+1) (by rw [hwk,zJt];exact λh=>h.2 hin))] at H
  exact H w4 b04
 ·have hout:d.Key∉zDP (m.take n):=λh=>by rw [(hf1 d.Key).2 h] at hfl;cases hfl
  refine yy yj zn (hX.bel b4).at d.Key rfl ?_
  refine ⟨⟨⟩,w4,by kernel_rfl,?_⟩
  refine zOb (hm3.bel b4) zH2 zFM d.Key ⟨⟩ λw5 hm5 hg5=>?_
  rw [wr64 (by omega) (by omega)]
  refine ⟨⟨n+1,_,by omega,by omega,b04.grown hg5 (λq hq=>by cases hq;exact hle1),hm5,λs=>?_,by rw [hwk,zJt];exact ⟨hnd,hout⟩⟩,by dsimp only;omega⟩
  rw [hwk]
  by_cases hs:s=d.Key
  ·subst hs;rw [Ql];simp
  ·rw [yT _ _ hs,hf1 s];simp [hs]
theorem zLN {w:World} {x:Sl} {l:List Ver} (hd:zEd w x l) {t:Int} {B:Nat} (hT:Row w B [.int .u64 t] zH1) {k:Bool->World->Prop} (H:∀ b w',(b=true↔∃ d∈l,t<=d.At)->Bel w w'->k b w'):
  Cl zA zAO [Sl.v x,.func (.func zID) [].toArray [(.pointer (some ⟨B,0,none⟩))].toArray].toArray w (λe w'=>∃ r0:Bool,e=.returned (.bool r0)/\k r0 w'):=by
 have dbig:=hd.big;have dcap:=hd.cap;have dlen:=hd.len
 refine zAP x _ w k ?_
 unfold Qs
 refine zAk x _ w _ ?_
 unfold YN
 refine ⟨λi w1=>∃ n:Nat,i=(n:Int)/\n<=l.length/\Bel w w1/\∀ d∈l.take n,¬ t<=d.At,λi _=>(x.len - i).toNat,⟨0,rfl,by omega,Bel.refl _,by simp⟩,?_⟩
 rintro i w1 ⟨n,rfl,hn,hb,hno⟩
 unfold yp
 refine ⟨λhc=>?_,λhc=>?_⟩
 ·obtain ⟨d,hdn⟩:=getV (l:=l) (n:=n) (by omega)
  refine zDR (hd.bel hb) yk QN (by omega) (x:=d) (by simpa using hdn) λad hA=>?_
  refine zBI yI d rfl hA rfl ?_
  refine .inl ⟨zID,[],[.pointer (some ⟨B,0,none⟩)],rfl,zQw,?_⟩
  refine zKF d (some ⟨B,0,none⟩) w1 _ ?_
  unfold zGy
  refine zA7 (cs:=d.cells) rfl λC w2 b2 hX _=>?_
  refine yy zAU yK hX.at d.At rfl ?_
  refine zAS yK t ((hT.bel hb).bel b2).cell ?_
  refine ⟨λht=>?_,λhf=>?_⟩
  ·dsimp only
   rw [decide_eq_true (p:=0<=(n:Int)) (by omega)]
   exact H true w2 ⟨λ_=>⟨d,List.mem_of_getElem? hdn,of_decide_eq_true ht⟩,λ_=>rfl⟩ (hb.trans b2)
  ·have h1:=of_decide_eq_false hf
   rw [wr64 (by omega) (by omega)]
   refine ⟨⟨n+1,by omega,by omega,hb.trans b2,λe he=>?_⟩,by dsimp only;omega⟩
   rw [zB9 hdn] at he
   rcases List.mem_append.1 he with h2|h2
   ·exact hno e h2
   ·simp at h2;subst h2;exact h1
 ·obtain rfl:n=l.length:=by omega
  rw [List.take_length] at hno
  refine H _ w1 ⟨λh=>absurd (of_decide_eq_true h) (by omega),λ⟨d,h1,h2⟩=>absurd h2 (hno d h1)⟩ hb
theorem zL8 {w:World} {x0:Sl} {l:List Ver} (h:zEd w x0 l) (hl:l.length<=2932031007402) {k:Sl->World->Prop} (H:∀ r w',Zg w.heap.size w' r l->Bel w w'->k r w'):
  Cl zA zDV [Sl.v x0].toArray w (λe w'=>∃ r0:Sl,e=.returned (Sl.v r0)/\k r0 w'):=by
 refine zDZ x0 w k ?_
 unfold Zt
 obtain ⟨a,len,cap⟩:=x0
 cases a with
 |none=>
  have hcap:=h.nilc rfl;have h1:=h.cap;have h2:=h.len
  have hl0:l=[]:=List.eq_nil_of_length_eq_zero (by simp at hcap h1 h2;omega)
  refine ⟨true,w,by kernel_rfl,λ_=>?_,λh=>(nomatch h)⟩
  subst hl0
  exact H _ _ (OwnS.nil _ _ _ _ _) (Bel.refl _)
 |some a=>
  refine ⟨false,w,by kernel_rfl,λh=>(nomatch h),λ_=>?_⟩
  refine ⟨_,_,zIh w,?_⟩
  exact zNF (w0:=w) (OwnS.lit0 (zU _)) (h.bel (Bel.alloc _ _)) (Bel.alloc _ _) (zU _) (by rw [size_alloc'];omega) (by simpa using hl) λs' w' h1 h2 _=>H s' w' (by simpa using h1) h2
theorem zOd {base:Nat} {w0 W:World} {B C:Nat} {sl:Sl} {low:Int} {l:List Ver} {x:Ver} (hR:Row W B [Sl.v sl,.int .u64 low] z9) (hO:Zg base W sl l) (hX:At W ⟨C,0,none⟩ x.cells) (hb:Bel w0 W) (h0:w0.heap.size<=base) (hbw:base<=W.heap.size) (hB0:w0.heap.size<=B) (room:l.length+1<=2932031007402)
  {k:World->Prop} (H:∀ s' W',Row W' B [Sl.v s',.int .u64 low] z9->Zg base W' s' (l++[x])->Bel w0 W'->W.heap.size<=W'.heap.size->k W'):
  opE zA zC (zO z9 (.pointer (some ⟨B,0,none⟩)) 0) W (λp w=>opE zA Sl.v (zD zo (.pointer p)) w (λs w=>opE zA zG.v (zD yE (.pointer (some ⟨C,0,none⟩))) w (λv w=>
   opE zA Sl.v (zc zo 1 [(0,zG.v v)].toArray) w (λy w=>opE zA Sl.v (Builtin.append_ #[zo,zo] zo [Sl.v s,Sl.v y].toArray) w (λs' w=>
   opE zA zC (zO z9 (.pointer (some ⟨B,0,none⟩)) 0) w (λp w=>opU zA (zK zo (.pointer p) (Sl.v s')) w k)))))):=by
 refine yy yB yA hR.at sl rfl ?_
 refine zBI yI x rfl hX rfl ?_
 refine zL3 (w0:=w0) hO hb h0 hbw room λs' W3 h1 h2 h3=>?_
 have hR3:=hR.grown h3 (OwnS.ne_row hO hR (by decide))
 refine ⟨_,_,yB _ W3,?_⟩
 refine zHU yA (off:=0) hR3 rfl (by simp) rfl λW4 h4 h5=>?_
 refine H s' W4 (by simpa using h4) (h1.kept h5 (.inr (OwnS.ne_row h1 hR3 (by decide)))) (h2.grown h5 λr hr=>by cases hr;exact hB0) (ze h3.size h5.size)
end Go.Proofs.YtealcoghiaeiiaaGreat.VG
