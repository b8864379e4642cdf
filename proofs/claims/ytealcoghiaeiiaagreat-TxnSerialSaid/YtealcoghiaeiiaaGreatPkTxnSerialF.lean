/- Texts by which the law's calls are walked (part 6): rules, printed conditions, contracts; no condition. -/
import Derived.TacticsIn
import Derived.TacticsInMore
import Derived.Deep.LoopGhost
import Derived.Sort.QuietThIn
import Derived.RangeFuncCalls
import Derived.RangeFuncNested
import Derived.RangeFuncLeaves
import Derived.WalkKit
import Derived.StillTail
import Derived.Test.YtealcoghiaeiiaaGreatProg
import Derived.KernelRfl
import Derived.Deep.WholeRow
import Derived.Laws.StructEq
import Derived.MapFrom
import Derived.Laws.CopyRow
import Derived.Maps.RangeRun
import Derived.Sort.Walk0
import Derived.Test.YtealcoghiaeiiaaGreatPkTxnSerialE
open Go.Proofs.Tryz renaming prog → zA
open Go.IntKind renaming wrap → zC
open Go.Value renaming pointer → zB, int → zV, string → zZ, bool → xv
open Go.Instr renaming loadAt → zD, storeAt → zK, indexAt → zF, fieldAt → zN, alloc → zf, build → yr, buildSlice → ze
open Nat renaming le_refl → zU, le_trans → zn, lt_of_lt_of_le → yF
open List renaming length_append → zg
set_option linter.unusedVariables false
set_option linter.unusedSimpArgs false
namespace Go.Proofs.YtealcoghiaeiiaaGreat.VG
open Go.VB Go.Proofs
def zAL (x0:Sl) (x1:Value) (w:World) (Ret:World->Prop):Prop:=
 opE zA (zV .u64) (Go.convert 3 143 (.int .i64 (x0.len:Int))) w (λx10 w=>Cl zA 73 [(.int .u64 x10)].toArray w (λe w=>∃ (r:Int),e=.returned (.int .i64 r)/\(Cl zA 103 [(Sl.v x0),(.int .i64 0),(.int .i64 (x0.len:Int)),(.int .i64 r),x1].toArray w (λe w=>e=.returned (.tuple [].toArray)/\(Ret w)))))
set_option maxRecDepth 100000 in
theorem zEW (x0:Sl) (x1:Value) (w:World) (Ret:World->Prop) (H:zAL x0 x1 w Ret):Cl zA 81 [(Sl.v x0),x1].toArray w (λe w'=>e=.returned (.tuple [].toArray)/\Ret w'):=by
 unfold zAL at H
 refine zp 14 (zipE 0 [(Sl.v x0),x1]) Tryz.func81 rfl rfl (by rfl) rfl ?_
 intro a g
 have g:Sat [] 14 [(0,(Sl.v x0)),(1,x1)] a:=g
 refine zI (zE (g.m rfl λ_ g=>g.purR (λw=>ZU g Tryz.underlying30 rfl) λ_ g=>g.s rfl λ_ g=>zL (tn (zE (g.m rfl λ_ g=>g.m rfl λ_ g=>g.m rfl λ_ g=>g.o (zBw g rfl) H λx10 w a H g=>g.c (zb g zO3 rfl rfl) H λe w H=>?_)))))
 obtain ⟨r,rfl,H⟩:=H
 refine ⟨_,rfl,λ_ g=>(g.m rfl λ_ g=>g.c (zb g zOW rfl rfl) H λe w H=>?_)⟩
 obtain ⟨rfl,H⟩:=H
 exact ⟨_,rfl,λ_ g=>(zL (zBg g rfl ⟨rfl,H⟩))⟩
def YW (x0:Sl) (x4:Value) (x1_1:Int) (x2_1:Int) (x10:Bool) (x11:Bool) (Kl1:Int->Int->Int->Bool->Bool->World->Prop) (x3_2:Int) (x13:Int) (x97:Bool) (w:World):Prop:=
 yM w (λw=>(x97=true->(Cl zA 134 [(Sl.v x0),(.int .i64 x1_1),(.int .i64 x2_1),(.int .i64 x13),x4].toArray w (λe w=>∃ (r_2:Int),e=.returned (.int .i64 r_2)/\(Kl1 r_2 x2_1 x3_2 x10 x11 w))))/\(x97=false->(Cl zA 135 [(Sl.v x0),(.int .i64 x1_1),(.int .i64 x2_1),(.int .i64 x13),x4].toArray w (λe w=>∃ (r_3:Int) (r_4:Bool),e=.returned (.tuple [(.int .i64 r_3),(.bool r_4)].toArray)/\(opE zA (zV .i64) (binOp .quo 3 (.int .i64 (zC .i64 (x2_1 - x1_1))) (.int .i64 8)) w (λx122 w=>(((zC .i64 (r_3 - x1_1))<(zC .i64 (x2_1 - r_3)))->(Cl zA 103 [(Sl.v x0),(.int .i64 x1_1),(.int .i64 r_3),(.int .i64 x3_2),x4].toArray w (λe w=>e=.returned (.tuple [].toArray)/\(Kl1 (zC .i64 (r_3+1)) x2_1 x3_2 (decide (x122<=(zC .i64 (r_3 - x1_1)))) r_4 w))))/\(¬ ((zC .i64 (r_3 - x1_1))<(zC .i64 (x2_1 - r_3)))->(Cl zA 103 [(Sl.v x0),(.int .i64 (zC .i64 (r_3+1))),(.int .i64 x2_1),(.int .i64 x3_2),x4].toArray w (λe w=>e=.returned (.tuple [].toArray)/\(Kl1 x1_1 r_3 x3_2 (decide (x122<=(zC .i64 (x2_1 - r_3)))) r_4 w))))))))))
def QA (x0:Sl) (x4:Value) (x1_1:Int) (x2_1:Int) (x10:Bool) (x11:Bool) (Kl1:Int->Int->Int->Bool->Bool->World->Prop) (x3_2:Int) (x13:Int) (w:World):Prop:=
 ((0<x1_1)->(opB zA zB (zF 30 (Sl.v x0) (.int .i64 (zC .i64 (x1_1 - 1)))) w (λx88=>opB zA zJ.v (zD 34 (.pointer x88)) w (λx89=>opB zA zB (zF 30 (Sl.v x0) (.int .i64 x13)) w (λx92=>opB zA zJ.v (zD 34 (.pointer x92)) w (λx93=>∃ (r_5:Int),Zs zA x4 [(zJ.v x89),(zJ.v x93)] w (.int .i64 r_5)/\(YW x0 x4 x1_1 x2_1 x10 x11 Kl1 x3_2 x13 (!(decide (r_5<0))) w)))))))/\(¬ (0<x1_1)->(YW x0 x4 x1_1 x2_1 x10 x11 Kl1 x3_2 x13 false w))
def xw (x0:Sl) (x4:Value) (Ret:World->Prop) (x1_1:Int) (x2_1:Int) (x10:Bool) (x11:Bool) (Kl1:Int->Int->Int->Bool->Bool->World->Prop) (x3_2:Int) (x13:Int) (x75:Bool) (w:World):Prop:=
 (x75=true->(Cl zA 133 [(Sl.v x0),(.int .i64 x1_1),(.int .i64 x2_1),x4].toArray w (λe w=>∃ (r_6:Bool),e=.returned (.bool r_6)/\((r_6=true->(Ret w))/\(r_6=false->(QA x0 x4 x1_1 x2_1 x10 x11 Kl1 x3_2 x13 w))))))/\(x75=false->(QA x0 x4 x1_1 x2_1 x10 x11 Kl1 x3_2 x13 w))
def YS (x0:Sl) (x4:Value) (Ret:World->Prop) (x1_1:Int) (x2_1:Int) (x10:Bool) (x11:Bool) (Kl1:Int->Int->Int->Bool->Bool->World->Prop) (x3_2:Int) (x13:Int) (x14:Int) (x71:Bool) (w:World):Prop:=
 (x71=true->(xw x0 x4 Ret x1_1 x2_1 x10 x11 Kl1 x3_2 x13 (decide (x14=1)) w))/\(x71=false->(xw x0 x4 Ret x1_1 x2_1 x10 x11 Kl1 x3_2 x13 false w))
def xz (x0:Sl) (x4:Value) (Ret:World->Prop) (x1_1:Int) (x2_1:Int) (x10:Bool) (x11:Bool) (Kl1:Int->Int->Int->Bool->Bool->World->Prop) (x3_2:Int) (x13:Int) (x14:Int) (w:World):Prop:=
 (x10=true->(YS x0 x4 Ret x1_1 x2_1 x10 x11 Kl1 x3_2 x13 x14 x11 w))/\(x10=false->(YS x0 x4 Ret x1_1 x2_1 x10 x11 Kl1 x3_2 x13 x14 false w))
def xx (x0:Sl) (x4:Value) (Ret:World->Prop) (x1_1:Int) (x2_1:Int) (x10:Bool) (x11:Bool) (Kl1:Int->Int->Int->Bool->Bool->World->Prop) (x3_2:Int) (w:World):Prop:=
 Cl zA 131 [(Sl.v x0),(.int .i64 x1_1),(.int .i64 x2_1),x4].toArray w (λe w=>∃ (r:Int) (r_1:Int),e=.returned (.tuple [(.int .i64 r),(.int .i64 r_1)].toArray)/\(((r_1=2)->(Cl zA 132 [(Sl.v x0),(.int .i64 x1_1),(.int .i64 x2_1),x4].toArray w (λe w=>e=.returned (.tuple [].toArray)/\(xz x0 x4 Ret x1_1 x2_1 x10 x11 Kl1 x3_2 (zC .i64 ((zC .i64 (x2_1 - 1)) - (zC .i64 (r - x1_1)))) 1 w))))/\(¬ (r_1=2)->(xz x0 x4 Ret x1_1 x2_1 x10 x11 Kl1 x3_2 r r_1 w))))
def YI (x0:Sl) (x4:Value) (Ret:World->Prop) (x1_1:Int) (x2_1:Int) (x3_1:Int) (x10:Bool) (x11:Bool) (w:World) (Kl1:Int->Int->Int->Bool->Bool->World->Prop):Prop:=
 (((zC .i64 (x2_1 - x1_1))<=12)->(Cl zA 128 [(Sl.v x0),(.int .i64 x1_1),(.int .i64 x2_1),x4].toArray w (λe w=>e=.returned (.tuple [].toArray)/\(Ret w))))/\(¬ ((zC .i64 (x2_1 - x1_1))<=12)->(((x3_1=0)->(Cl zA 129 [(Sl.v x0),(.int .i64 x1_1),(.int .i64 x2_1),x4].toArray w (λe w=>e=.returned (.tuple [].toArray)/\(Ret w))))/\(¬ (x3_1=0)->(((!x10)=true->(Cl zA 130 [(Sl.v x0),(.int .i64 x1_1),(.int .i64 x2_1),x4].toArray w (λe w=>e=.returned (.tuple [].toArray)/\(xx x0 x4 Ret x1_1 x2_1 x10 x11 Kl1 (zC .i64 (x3_1 - 1)) w))))/\((!x10)=false->(xx x0 x4 Ret x1_1 x2_1 x10 x11 Kl1 x3_1 w))))))
def Zj (x0:Sl) (x1:Int) (x2:Int) (x3:Int) (x4:Value) (w:World) (Ret:World->Prop):Prop:=
 ∃ (I:Int->Int->Int->Bool->Bool->World->Prop) (μ:Int->Int->Int->Bool->Bool->World->Nat),I x1 x2 x3 true true w/\∀ (x1_1:Int) (x2_1:Int) (x3_1:Int) (x10:Bool) (x11:Bool) w,I x1_1 x2_1 x3_1 x10 x11 w->YI x0 x4 Ret x1_1 x2_1 x3_1 x10 x11 w (λx1_1' x2_1' x3_1' x10' x11' w'=>I x1_1' x2_1' x3_1' x10' x11' w'/\μ x1_1' x2_1' x3_1' x10' x11' w'<μ x1_1 x2_1 x3_1 x10 x11 w)
set_option maxRecDepth 100000 in
theorem zCG (x0:Sl) (x1:Int) (x2:Int) (x3:Int) (x4:Value) (w:World) (Ret:World->Prop) (H:Zj x0 x1 x2 x3 x4 w Ret):Cl zA 103 [(Sl.v x0),(.int .i64 x1),(.int .i64 x2),(.int .i64 x3),x4].toArray w (λe w'=>e=.returned (.tuple [].toArray)/\Ret w'):=by
 unfold Zj at H
 refine zp 148 (zipE 0 [(Sl.v x0),(.int .i64 x1),(.int .i64 x2),(.int .i64 x3),x4]) Tryz.func103 rfl rfl (by rfl) rfl ?_
 intro a g
 have g:Sat [] 148 [(0,(Sl.v x0)),(1,(.int .i64 x1)),(2,(.int .i64 x2)),(3,(.int .i64 x3)),(4,x4)] a:=g
 refine zI (zE (g.s rfl λ_ g=>zL (tn (zI (zE (g.s rfl λ_ g=>zL (tn (zX ?_))))))))
 obtain ⟨I_l1,μ_l1,h0,hb⟩:=H
 refine yE (ds:=[]) (N:=148) (σ:=Int × Int × Int × Bool × Bool) (λs=>[(1,(.int .i64 s.1)),(2,(.int .i64 s.2.1)),(3,(.int .i64 s.2.2.1)),(10,(.bool s.2.2.2.1)),(11,(.bool s.2.2.2.2)),(0,(Sl.v x0)),(4,x4)]) (λs w=>I_l1 s.1 s.2.1 s.2.2.1 s.2.2.2.1 s.2.2.2.2 w) (λs w=>μ_l1 s.1 s.2.1 s.2.2.1 s.2.2.2.1 s.2.2.2.2 w) (x1,x2,x3,true,true) h0 (g.k) ?_
 rintro ⟨x1_1,x2_1,x3_1,x10,x11⟩ w a hI g
 try dsimp only at hI g
 obtain ⟨Kl1,hK_l1⟩:∃ K:Int->Int->Int->Bool->Bool->World->Prop,K=(λx1_1' x2_1' x3_1' x10' x11' w'=>I_l1 x1_1' x2_1' x3_1' x10' x11' w'/\μ_l1 x1_1' x2_1' x3_1' x10' x11' w'<μ_l1 x1_1 x2_1 x3_1 x10 x11 w):=⟨_,rfl⟩
 have H:YI x0 x4 Ret x1_1 x2_1 x3_1 x10 x11 w Kl1:=by rw [hK_l1];exact hb x1_1 x2_1 x3_1 x10 x11 w hI
 clear hb h0 hI
 unfold YI at H
 refine zX (zI (zE (g.m rfl λ_ g=>g.m rfl λ_ g=>g.p (zv g rfl rfl) λ_ g=>g.s rfl λ_ g=>zL (tn (zI (zI (zE (g.m rfl λ_ g=>g.p (zCw g rfl rfl) λ_ g=>zL (tn (zd g rfl (λhc=>?_) (λhc=>?_)))))))))))
 ·have H:=H.1 hc
  refine zI (zE (g.m rfl λ_ g=>g.m rfl λ_ g=>g.m rfl λ_ g=>g.m rfl λ_ g=>g.c (zb g zSj rfl rfl) H λe w H=>?_))
  obtain ⟨rfl,H⟩:=H
  exact ⟨_,rfl,λ_ g=>(zL (tn (zl (tr (br (tr (br (zE1 g rfl ⟨rfl,H⟩))))))))⟩
 ·have H:=H.2 hc
  refine zY (tn (zI (zI (zE (g.m rfl λ_ g=>g.p (Zb g rfl rfl) λ_ g=>zL (tn (zd g rfl (λhc=>?_) (λhc=>?_))))))))
  ·have H:=H.1 hc
   refine zI (zE (g.m rfl λ_ g=>g.m rfl λ_ g=>g.m rfl λ_ g=>g.m rfl λ_ g=>g.c (zb g zSU rfl rfl) H λe w H=>?_))
   obtain ⟨rfl,H⟩:=H
   exact ⟨_,rfl,λ_ g=>(zL (tn (zl (tr (br (tr (br (zE1 g rfl ⟨rfl,H⟩))))))))⟩
  ·have H:=H.2 hc
   refine zY (tn (z8 (ds:=[]) (N:=148) (σ:=Int) (λs=>[(3,(.int .i64 s)),(0,(Sl.v x0)),(1,(.int .i64 x1_1)),(2,(.int .i64 x2_1)),(4,x4),(10,(.bool x10)),(11,(.bool x11)),(12,(.int .i64 (zC .i64 (x2_1 - x1_1))))]) (λs w=>xx x0 x4 Ret x1_1 x2_1 x10 x11 Kl1 s w) ?_ (λhj2=>?_)))
   ·intro x3_2 w a H g
    try dsimp only at H g
    unfold xx at H
    refine zI (zE (g.m rfl λ_ g=>g.m rfl λ_ g=>g.m rfl λ_ g=>g.m rfl λ_ g=>g.c (zb g zSZ rfl rfl) H λe w H=>?_))
    obtain ⟨r,r_1,rfl,H⟩:=H
    refine ⟨_,rfl,λ_ g=>(g.m rfl λ_ g=>g.p (zc g rfl rfl) λ_ g=>g.p (zc g rfl rfl) λ_ g=>g.s rfl λ_ g=>g.s rfl λ_ g=>zL (tn (z8 (ds:=[]) (N:=148) (σ:=Int × Int) (λs=>[(13,(.int .i64 s.1)),(14,(.int .i64 s.2)),(0,(Sl.v x0)),(1,(.int .i64 x1_1)),(2,(.int .i64 x2_1)),(3,(.int .i64 x3_2)),(4,x4),(10,(.bool x10)),(11,(.bool x11)),(12,(.int .i64 (zC .i64 (x2_1 - x1_1))))]) (λs w=>xz x0 x4 Ret x1_1 x2_1 x10 x11 Kl1 x3_2 s.1 s.2 w) ?_ (λhj3=>?_))))⟩
    ·rintro ⟨x13,x14⟩ w a H g
     try dsimp only at H g
     unfold xz at H
     refine z8 (ds:=[]) (N:=148) (σ:=Unit) (λs=>[(0,(Sl.v x0)),(1,(.int .i64 x1_1)),(2,(.int .i64 x2_1)),(3,(.int .i64 x3_2)),(4,x4),(10,(.bool x10)),(11,(.bool x11)),(12,(.int .i64 (zC .i64 (x2_1 - x1_1)))),(13,(.int .i64 x13))]) (λs w=>QA x0 x4 x1_1 x2_1 x10 x11 Kl1 x3_2 x13 w) ?_ (λhj4=>?_)
     ·rintro ⟨⟩ w a H g
      try dsimp only at H g
      unfold QA at H
      refine zI (zI (QU (by kernel_rfl) (by kernel_rfl) (g.t rfl λ_ g=>g.r (zBx g rfl rfl) λ_ g=>g.t rfl λ_ g=>WQ.join (ds:=[]) (N:=148) (σ:=Bool) (λs=>[(97,(.bool s)),(0,(Sl.v x0)),(1,(.int .i64 x1_1)),(2,(.int .i64 x2_1)),(3,(.int .i64 x3_2)),(4,x4),(10,(.bool x10)),(11,(.bool x11)),(12,(.int .i64 (zC .i64 (x2_1 - x1_1)))),(13,(.int .i64 x13))]) (λs=>YW x0 x4 x1_1 x2_1 x10 x11 Kl1 x3_2 x13 s w) 14 ?_ (λhr5=>?_))))
      ·intro x97 a H g
       try dsimp only at H g
       unfold YW at H
       refine Qb (λw hB=>?_)
       replace H:=H w hB
       refine (tn (zk g rfl (λhc=>?_) (λhc=>?_)))
       ·have H:=H.1 hc
        refine zI (zE (g.m rfl λ_ g=>g.m rfl λ_ g=>g.m rfl λ_ g=>g.m rfl λ_ g=>g.m rfl λ_ g=>g.c (zb g zSY rfl rfl) H λe w H=>?_))
        obtain ⟨r_2,rfl,H⟩:=H
        refine ⟨_,rfl,λ_ g=>(g.s rfl λ_ g=>zL (tn (zI (zE (g.m rfl λ_ g=>g.s rfl λ_ g=>zL (tn ?_))))))⟩
        rw [hK_l1] at H
        exact z7 (te (be (tn ⟨(r_2,x2_1,x3_2,x10,x11),g.k,H⟩)))
       ·have H:=H.2 hc
        refine zY (tn (zI (zE (g.m rfl λ_ g=>g.m rfl λ_ g=>g.m rfl λ_ g=>g.m rfl λ_ g=>g.m rfl λ_ g=>g.c (zb g zSC rfl rfl) H λe w H=>?_))))
        obtain ⟨r_3,r_4,rfl,H⟩:=H
        refine ⟨_,rfl,λ_ g=>(g.m rfl λ_ g=>g.p (zc g rfl rfl) λ_ g=>g.p (zc g rfl rfl) λ_ g=>g.s rfl λ_ g=>g.s rfl λ_ g=>zL (tn (zI (zE (g.m rfl λ_ g=>g.s rfl λ_ g=>zL (tn (zI (zE (g.m rfl λ_ g=>g.m rfl λ_ g=>g.p (zv g rfl rfl) λ_ g=>g.m rfl λ_ g=>g.m rfl λ_ g=>g.p (zv g rfl rfl) λ_ g=>g.s rfl λ_ g=>g.s rfl λ_ g=>zL (tn (zI (zE (g.m rfl λ_ g=>g.o (ZS g rfl rfl) H λx122 w a H g=>g.s rfl λ_ g=>zL (tn (zI (zE (g.m rfl λ_ g=>g.m rfl λ_ g=>g.p (yR g rfl rfl) λ_ g=>zL (tn (zd g rfl (λhc=>?_) (λhc=>?_))))))))))))))))))))⟩
        ·have H:=H.1 hc
         refine zI (zE (g.m rfl λ_ g=>g.m rfl λ_ g=>g.p (Zm g rfl rfl) λ_ g=>g.s rfl λ_ g=>zL (tn (zI (zE (g.m rfl λ_ g=>g.m rfl λ_ g=>g.m rfl λ_ g=>g.m rfl λ_ g=>g.m rfl λ_ g=>g.c (zb g zOW rfl rfl) H λe w H=>?_))))))
         obtain ⟨rfl,H⟩:=H
         refine ⟨_,rfl,λ_ g=>(zL (tn (zE (g.m rfl λ_ g=>g.p (zr g rfl rfl) λ_ g=>g.s rfl λ_ g=>?_))))⟩
         rw [hK_l1] at H
         exact zL (bn (tn ⟨((zC .i64 (r_3+1)),x2_1,x3_2,(decide (x122<=(zC .i64 (r_3 - x1_1)))),r_4),g.k,H⟩))
        ·have H:=H.2 hc
         refine zI (zE (g.m rfl λ_ g=>g.m rfl λ_ g=>g.p (Zm g rfl rfl) λ_ g=>g.s rfl λ_ g=>zL (tn (zI (zE (g.m rfl λ_ g=>g.m rfl λ_ g=>g.p (zr g rfl rfl) λ_ g=>g.m rfl λ_ g=>g.m rfl λ_ g=>g.m rfl λ_ g=>g.c (zb g zOW rfl rfl) H λe w H=>?_))))))
         obtain ⟨rfl,H⟩:=H
         refine ⟨_,rfl,λ_ g=>(zL (tn (zE (g.m rfl λ_ g=>g.s rfl λ_ g=>?_))))⟩
         rw [hK_l1] at H
         exact zL (bn (tn ⟨(x1_1,r_3,x3_2,(decide (x122<=(zC .i64 (x2_1 - r_3)))),r_4),g.k,H⟩))
      ·rcases Classical.em ((0<x1_1)) with hbr5|hbr5
       ·have H:=H.1 hbr5
        have g:=g.b (b:=true) (t:=83) rfl (decide_eq_true hbr5)
        refine g.e (g.t rfl λ_ g=>g.e (g.t rfl λ_ g=>g.e (g.t rfl λ_ g=>g.e (g.r (zv g rfl rfl) λ_ g=>g.e (g.A (zH g rfl rfl) H λx88 a H g=>g.e (g.A (zO g rfl) H λx89 a H g=>g.e (g.t rfl λ_ g=>g.e (g.t rfl λ_ g=>g.e (g.A (zH g rfl rfl) H λx92 a H g=>g.e (g.A (zO g rfl) H λx93 a H g=>g.e ?_))))))))))
        obtain ⟨r_5,hc,H⟩:=H
        exact g.qcallV rfl rfl hc λ_ g=>g.e (g.r (yR g rfl rfl) λ_ g=>g.e (g.r (zAJ g rfl) λ_ g=>g.r (zx g rfl rfl) λ_ g=>hr5 (!(decide (r_5<0))) _ H (g.k)))
       ·have H:=H.2 hbr5
        have g:=g.b (b:=false) (t:=83) rfl (decide_eq_false hbr5)
        exact g.g (λ_ g=>g.g (λ_ g=>g.g (λ_ g=>g.g (λ_ g=>g.g (λ_ g=>g.g (λ_ g=>g.g (λ_ g=>g.g (λ_ g=>g.g (λ_ g=>g.g (λ_ g=>g.g (λ_ g=>g.g (λ_ g=>g.g (λ_ g=>g.r (zy g rfl rfl) λ_ g=>hr5 false _ H (g.k))))))))))))))
     ·refine zI (zE (g.m rfl λ_ g=>g.m rfl λ_ g=>WL.join (ds:=[]) (N:=148) (σ:=Bool) (λs=>[(71,(.bool s)),(0,(Sl.v x0)),(1,(.int .i64 x1_1)),(2,(.int .i64 x2_1)),(3,(.int .i64 x3_2)),(4,x4),(10,(.bool x10)),(11,(.bool x11)),(12,(.int .i64 (zC .i64 (x2_1 - x1_1)))),(13,(.int .i64 x13)),(14,(.int .i64 x14))]) (λs w=>YS x0 x4 Ret x1_1 x2_1 x10 x11 Kl1 x3_2 x13 x14 s w) 2 ?_ (λhr6=>?_)))
      ·intro x71 w a H g
       try dsimp only at H g
       unfold YS at H
       refine g.m rfl λ_ g=>WL.join (ds:=[]) (N:=148) (σ:=Bool) (λs=>[(75,(.bool s)),(0,(Sl.v x0)),(1,(.int .i64 x1_1)),(2,(.int .i64 x2_1)),(3,(.int .i64 x3_2)),(4,x4),(10,(.bool x10)),(11,(.bool x11)),(12,(.int .i64 (zC .i64 (x2_1 - x1_1)))),(13,(.int .i64 x13))]) (λs w=>xw x0 x4 Ret x1_1 x2_1 x10 x11 Kl1 x3_2 x13 s w) 3 ?_ (λhr7=>?_)
       ·intro x75 w a H g
        try dsimp only at H g
        unfold xw at H
        refine zL (tn (zk g rfl (λhc=>?_) (λhc=>?_)))
        ·have H:=H.1 hc
         refine zI (zE (g.m rfl λ_ g=>g.m rfl λ_ g=>g.m rfl λ_ g=>g.m rfl λ_ g=>g.c (zb g zSG rfl rfl) H λe w H=>?_))
         obtain ⟨r_6,rfl,H⟩:=H
         refine ⟨_,rfl,λ_ g=>(zL (tn (zk g rfl (λhc=>?_) (λhc=>?_))))⟩
         ·have H:=H.1 hc
          exact zl (tr (br (tr (br (zE1 g rfl ⟨rfl,H⟩)))))
         ·have H:=H.2 hc
          exact zY (tn (hj4 () _ _ H (g.k)))
        ·have H:=H.2 hc
         exact zY (tn (hj4 () _ _ H (g.k)))
       ·rcases Bool.eq_false_or_eq_true (x71) with hbr7|hbr7
        ·have H:=H.1 hbr7
         have g:=g.b (b:=true) (t:=72) rfl (hbr7)
         exact g.z (g.m rfl λ_ g=>g.z (g.p (Zb g rfl rfl) λ_ g=>g.p (zx g rfl rfl) λ_ g=>hr7 (decide (x14=1)) _ _ H (g.k)))
        ·have H:=H.2 hbr7
         have g:=g.b (b:=false) (t:=72) rfl (hbr7)
         exact g.d (λ_ g=>g.d (λ_ g=>g.p (zy g rfl rfl) λ_ g=>hr7 false _ _ H (g.k)))
      ·rcases Bool.eq_false_or_eq_true (x10) with hbr6|hbr6
       ·have H:=H.1 hbr6
        have g:=g.b (b:=true) (t:=69) rfl (hbr6)
        exact g.z (g.m rfl λ_ g=>g.p (zx g rfl rfl) λ_ g=>hr6 x11 _ _ H (g.k))
       ·have H:=H.2 hbr6
        have g:=g.b (b:=false) (t:=69) rfl (hbr6)
        exact g.d (λ_ g=>g.p (zy g rfl rfl) λ_ g=>hr6 false _ _ H (g.k))
    ·refine zI (zE (g.m rfl λ_ g=>g.p (Zb g rfl rfl) λ_ g=>zL (tn (zd g rfl (λhc=>?_) (λhc=>?_)))))
     ·have H:=H.1 hc
      refine zI (zE (g.m rfl λ_ g=>g.m rfl λ_ g=>g.m rfl λ_ g=>g.m rfl λ_ g=>g.c (zb g zSk rfl rfl) H λe w H=>?_))
      obtain ⟨rfl,H⟩:=H
      exact ⟨_,rfl,λ_ g=>(zL (tn (zI (zE (g.m rfl λ_ g=>g.p (zv g rfl rfl) λ_ g=>g.m rfl λ_ g=>g.m rfl λ_ g=>g.p (zv g rfl rfl) λ_ g=>g.p (zv g rfl rfl) λ_ g=>g.s rfl λ_ g=>zL (tn (zE (g.s rfl λ_ g=>zL (tn (hj3 ((zC .i64 ((zC .i64 (x2_1 - 1)) - (zC .i64 (r - x1_1)))),1) _ _ H (g.k)))))))))))⟩
     ·have H:=H.2 hc
      exact zY (tn (hj3 (r,r_1) _ _ H (g.k)))
   ·refine zI (zE (g.m rfl λ_ g=>g.p (zAJ g rfl) λ_ g=>zL (tn (zk g rfl (λhc=>?_) (λhc=>?_)))))
    ·have H:=H.1 hc
     refine zI (zE (g.m rfl λ_ g=>g.m rfl λ_ g=>g.m rfl λ_ g=>g.m rfl λ_ g=>g.c (zb g zSe rfl rfl) H λe w H=>?_))
     obtain ⟨rfl,H⟩:=H
     exact ⟨_,rfl,λ_ g=>(zL (tn (zE (g.m rfl λ_ g=>g.p (zv g rfl rfl) λ_ g=>g.s rfl λ_ g=>zL (tn (hj2 (zC .i64 (x3_1 - 1)) _ _ H (g.k)))))))⟩
    ·have H:=H.2 hc
     exact zY (tn (hj2 x3_1 _ _ H (g.k)))
def xp (x11:Int) (Kl1:Int->World->Prop) (w:World):Prop:=
 Kl1 (zC .i64 (x11+1)) w
def yh (x0:Sl) (x1:Int) (x11:Int) (Kl1:Int->World->Prop) (x12:Int) (w:World):Prop:=
 yM w (λw=>opP zA zB (zF 30 (Sl.v x0) (.int .i64 (zC .i64 (x1+x12)))) (λx59=>opP zA zB (zF 30 (Sl.v x0) (.int .i64 x11)) (λx63=>(opE zA zJ.v (zD 34 (.pointer x59)) w (λx60 w=>opE zA zJ.v (zD 34 (.pointer x63)) w (λx64 w=>opP zA zB (zF 30 (Sl.v x0) (.int .i64 x11)) (λx65=>opU zA (zK 34 (.pointer x65) (zJ.v x60)) w (λw=>opP zA zB (zF 30 (Sl.v x0) (.int .i64 (zC .i64 (x1+x12)))) (λx66=>opU zA (zK 34 (.pointer x66) (zJ.v x64)) w (λw=>xp x11 Kl1 w)))))))/\(opE zA zJ.v (zD 34 (.pointer x63)) w (λx64_1 w=>opE zA zJ.v (zD 34 (.pointer x59)) w (λx60_1 w=>opP zA zB (zF 30 (Sl.v x0) (.int .i64 x11)) (λx65_1=>opU zA (zK 34 (.pointer x65_1) (zJ.v x60_1)) w (λw=>opP zA zB (zF 30 (Sl.v x0) (.int .i64 (zC .i64 (x1+x12)))) (λx66_1=>opU zA (zK 34 (.pointer x66_1) (zJ.v x64_1)) w (λw=>xp x11 Kl1 w))))))))))
def YO (x0:Sl) (x1:Int) (x2:Int) (Ret:World->Prop) (x9:Option Addr) (r:Int) (x11:Int) (w:World) (Kl1:Int->World->Prop):Prop:=
 opE zA (zV .i64) (binOp .quo 3 (.int .i64 (zC .i64 (x2 - x1))) (.int .i64 4)) w (λx31 w=>((x11<=(zC .i64 ((zC .i64 (x1+(zC .i64 (x31*2))))+1)))->(Cl zA 116 [(.pointer x9)].toArray w (λe w=>∃ (r_1:Int),e=.returned (.int .u64 r_1)/\(opE zA (zV .u64) (binOp .and 143 (.int .u64 r_1) (.int .u64 (zC .u64 (r - 1)))) w (λx41 w=>opE zA (zV .i64) (Go.convert 143 3 (.int .u64 x41)) w (λx42 w=>(((zC .i64 (x2 - x1))<=x42)->(yh x0 x1 x11 Kl1 (zC .i64 (x42 - (zC .i64 (x2 - x1)))) w))/\(¬ ((zC .i64 (x2 - x1))<=x42)->(yh x0 x1 x11 Kl1 x42 w))))))))/\(¬ (x11<=(zC .i64 ((zC .i64 (x1+(zC .i64 (x31*2))))+1)))->(Ret w)))
def Z0 (x0:Sl) (x1:Int) (x2:Int) (x3:Value) (w:World) (Ret:World->Prop):Prop:=
 ((8<=(zC .i64 (x2 - x1)))->(opE zA (zV .u64) (Go.convert 3 182 (.int .i64 (zC .i64 (x2 - x1)))) w (λx19 w=>opE zA zB (zf 182 true (.tuple #[])) w (λx9 w=>opU zA (zK 182 (.pointer x9) (.int .u64 x19)) w (λw=>Cl zA 115 [(.int .i64 (zC .i64 (x2 - x1)))].toArray w (λe w=>∃ (r:Int),e=.returned (.int .u64 r)/\(opE zA (zV .i64) (binOp .quo 3 (.int .i64 (zC .i64 (x2 - x1))) (.int .i64 4)) w (λx24 w=>∃ (I:Int->World->Prop) (μ:Int->World->Nat),I (zC .i64 ((zC .i64 (x1+(zC .i64 (x24*2)))) - 1)) w/\∀ (x11:Int) w,I x11 w->YO x0 x1 x2 Ret x9 r x11 w (λx11' w'=>I x11' w'/\μ x11' w'<μ x11 w)))))))))/\(¬ (8<=(zC .i64 (x2 - x1)))->(Ret w))
set_option maxRecDepth 100000 in
theorem zDe (x0:Sl) (x1:Int) (x2:Int) (x3:Value) (w:World) (Ret:World->Prop) (H:Z0 x0 x1 x2 x3 w Ret):Cl zA 130 [(Sl.v x0),(.int .i64 x1),(.int .i64 x2),x3].toArray w (λe w'=>e=.returned (.tuple [].toArray)/\Ret w'):=by
 unfold Z0 at H
 refine zp 67 (zipE 0 [(Sl.v x0),(.int .i64 x1),(.int .i64 x2),x3]) Tryz.func130 rfl rfl (by rfl) rfl ?_
 intro a g
 have g:Sat [] 67 [(0,(Sl.v x0)),(1,(.int .i64 x1)),(2,(.int .i64 x2)),(3,x3)] a:=g
 refine zI (zE (g.m rfl λ_ g=>g.m rfl λ_ g=>g.p (zv g rfl rfl) λ_ g=>g.s rfl λ_ g=>zL (tn (zI (zE (g.m rfl λ_ g=>g.p (Zm g rfl rfl) λ_ g=>zL (tn (zd g rfl (λhc=>?_) (λhc=>?_)))))))))
 ·have H:=H.1 hc
  refine zI (zE (g.m rfl λ_ g=>g.o (zBw g rfl) H λx19 w a H g=>g.o (xY) H λx9 w a H g=>g.h (zT g rfl rfl) H λw a H g=>zL (tn (zI (zE (g.m rfl λ_ g=>g.c (zb g zOD rfl rfl) H λe w H=>?_))))))
  obtain ⟨r,rfl,H⟩:=H
  refine ⟨_,rfl,λ_ g=>(g.s rfl λ_ g=>zL (tn (zI (zE (g.m rfl λ_ g=>g.m rfl λ_ g=>g.o (ZS g rfl rfl) H λx24 w a H g=>g.p (zF8 g rfl rfl) λ_ g=>g.p (zr g rfl rfl) λ_ g=>g.p (zv g rfl rfl) λ_ g=>g.s rfl λ_ g=>zL (tn (zX ?_)))))))⟩
  obtain ⟨I_l1,μ_l1,h0,hb⟩:=H
  refine yE (ds:=[]) (N:=67) (σ:=Int) (λs=>[(11,(.int .i64 s)),(0,(Sl.v x0)),(1,(.int .i64 x1)),(8,(.int .i64 (zC .i64 (x2 - x1)))),(9,(.pointer x9)),(10,(.int .u64 r))]) (λs w=>I_l1 s w) (λs w=>μ_l1 s w) (zC .i64 ((zC .i64 (x1+(zC .i64 (x24*2)))) - 1)) h0 (g.k) ?_
  intro x11 w a hI g
  try dsimp only at hI g
  obtain ⟨Kl1,hK_l1⟩:∃ K:Int->World->Prop,K=(λx11' w'=>I_l1 x11' w'/\μ_l1 x11' w'<μ_l1 x11 w):=⟨_,rfl⟩
  have H:YO x0 x1 x2 Ret x9 r x11 w Kl1:=by rw [hK_l1];exact hb x11 w hI
  clear hb h0 hI
  unfold YO at H
  refine zI (zI (zE (g.m rfl λ_ g=>g.m rfl λ_ g=>g.m rfl λ_ g=>g.o (ZS g rfl rfl) H λx31 w a H g=>g.p (zF8 g rfl rfl) λ_ g=>g.p (zr g rfl rfl) λ_ g=>g.p (zr g rfl rfl) λ_ g=>g.p (zCw g rfl rfl) λ_ g=>zL (tn (zd g rfl (λhc=>?_) (λhc=>?_))))))
  ·have H:=H.1 hc
   refine zY (tn (z8 (ds:=[]) (N:=67) (σ:=Unit) (λs=>[(0,(Sl.v x0)),(1,(.int .i64 x1)),(8,(.int .i64 (zC .i64 (x2 - x1)))),(9,(.pointer x9)),(10,(.int .u64 r)),(11,(.int .i64 x11))]) (λs w=>xp x11 Kl1 w) ?_ (λhj2=>?_)))
   ·rintro ⟨⟩ w a H g
    try dsimp only at H g
    unfold xp at H
    refine zE (g.m rfl λ_ g=>g.p (zr g rfl rfl) λ_ g=>g.s rfl λ_ g=>?_)
    rw [hK_l1] at H
    exact zL (tn ⟨(zC .i64 (x11+1)),g.k,H⟩)
   ·refine zX (zI (zE (g.c (zb g zOI rfl rfl) H λe w H=>?_)))
    obtain ⟨r_1,rfl,H⟩:=H
    refine ⟨_,rfl,λ_ g=>(g.m rfl λ_ g=>g.p (zv g rfl rfl) λ_ g=>g.o (ZS g rfl rfl) H λx41 w a H g=>g.o (zBw g rfl) H λx42 w a H g=>g.s rfl λ_ g=>zL (tn (z8 (ds:=[]) (N:=67) (σ:=Int) (λs=>[(12,(.int .i64 s)),(0,(Sl.v x0)),(1,(.int .i64 x1)),(8,(.int .i64 (zC .i64 (x2 - x1)))),(9,(.pointer x9)),(10,(.int .u64 r)),(11,(.int .i64 x11))]) (λs w=>yh x0 x1 x11 Kl1 s w) ?_ (λhj3=>?_))))⟩
    ·intro x12 w a H g
     try dsimp only at H g
     unfold yh at H
     refine zCC 20 λw hB=>?_
     replace H:=H w hB
     refine g.x 0 rfl (zR g rfl) λ_ g=>g.x 1 rfl (zR g rfl) λ_ g=>g.x 2 rfl (zR g rfl) λ_ g=>g.x 3 rfl (zR g rfl) λ_ g=>g.x 4 rfl (zR g rfl) λ_ g=>g.x 5 rfl (zr g rfl rfl) λ_ g=>g.x 6 rfl (zR g rfl) λ_ g=>g.x 7 rfl (zR g rfl) λ_ g=>g.x 8 rfl (zR g rfl) λ_ g=>g.x 9 rfl (zr g rfl rfl) λ_ g=>g.y 10 rfl (zH g rfl rfl) H λx59 a H g=>g.x 12 rfl (zR g rfl) λ_ g=>g.x 13 rfl (zR g rfl) λ_ g=>g.y 14 rfl (zH g rfl rfl) H λx63 a H g=>WA.tw 11 15 rfl rfl ?_ ?_
     ·have H:=H.1
      intro K hK
      exact g.i (zO g rfl) H λx60 w a H g=>hK _ _ (g.j 15 rfl (zO g rfl) H λx64 w a H g=>g.y 16 rfl (zH g rfl rfl) H λx65 a H g=>g.l 17 rfl (zT g rfl rfl) H λw a H g=>g.y 18 rfl (zH g rfl rfl) H λx66 a H g=>g.l 19 rfl (zT g rfl rfl) H λw a H g=>WA.ni ((bn (tn (hj2 () _ _ H (g.k))))))
     ·have H:=H.2
      intro K hK
      exact g.i (zO g rfl) H λx64_1 w a H g=>hK _ _ (g.j 11 rfl (zO g rfl) H λx60_1 w a H g=>g.y 16 rfl (zH g rfl rfl) H λx65_1 a H g=>g.l 17 rfl (zT g rfl rfl) H λw a H g=>g.y 18 rfl (zH g rfl rfl) H λx66_1 a H g=>g.l 19 rfl (zT g rfl rfl) H λw a H g=>WA.ni ((bn (tn (hj2 () _ _ H (g.k))))))
    ·refine zI (zE (g.m rfl λ_ g=>g.m rfl λ_ g=>g.p (Zm g rfl rfl) λ_ g=>zL (tn (zd g rfl (λhc=>?_) (λhc=>?_)))))
     ·have H:=H.1 hc
      exact zE (g.m rfl λ_ g=>g.m rfl λ_ g=>g.p (zv g rfl rfl) λ_ g=>g.s rfl λ_ g=>zL (tn (hj3 (zC .i64 (x42 - (zC .i64 (x2 - x1)))) _ _ H (g.k))))
     ·have H:=H.2 hc
      exact zY (tn (hj3 x42 _ _ H (g.k)))
  ·have H:=H.2 hc
   exact z7 (te (te (be (zBg g rfl ⟨rfl,H⟩))))
 ·have H:=H.2 hc
  exact zY (zBg g rfl ⟨rfl,H⟩)
end Go.Proofs.YtealcoghiaeiiaaGreat.VG
set_option linter.unusedVariables false
namespace Go.Proofs.YtealcoghiaeiiaaGreat.VG
open Go.VB Go.VB.Srt Go.Proofs
namespace SoCmpFunc_api_Write
theorem zq:zGE zA zAp ZB 3 zJ.cells zJ.v:=zGE.agg QR zBW (λ_=>rfl) (λ_=>rfl) (by decide)
abbrev Ow (base:Nat) (w:World) (s:Sl) (l:List zJ):Prop:=OwnS zJ.cells 3 ZB base w s l
def Cmps (cmp:Value) (lt:zJ->zJ->Bool):Prop:=∀ w x y,∃ r:Int,Zs zA cmp [zJ.v x,zJ.v y] w (.int .i64 r)/\(lt x y=true↔r<0)
theorem ZR {lt:zJ->zJ->Bool} {x y:zJ} {r:Int} (h:lt x y=true↔r<0):decide (r<0)=lt x y:=by
 cases hl:lt x y with
 |true=>rw [decide_eq_true (h.1 hl)]
 |false=>rw [decide_eq_false (λe=>by rw [h.2 e] at hl;cases hl)]
section
variable {cmp:Value} {lt:zJ->zJ->Bool} (O:SWO lt) (hcmp:Cmps cmp lt) {base:Nat} {w:World} {s:Sl} {L:Nat} {f:Nat->zJ}
include O hcmp
theorem zCl (hO:Ow base w s (tab f L)) {a b:Nat} (hA:a<=b) (hb:b<=L) {k:World->Prop}
  (H:∀ g w',Seg a b f g->yL lt a b g->Ow base w' s (tab g L)->w.grownBy w' (Sl.v s).ownBlock->k w'):
  Cl zA zDg [Sl.v s,.int .i64 (a:Int),.int .i64 (b:Int),cmp].toArray w (λe w'=>e=.returned (.tuple [].toArray)/\k w'):=by
 refine zDp s a b cmp w k ?_
 have hlen:=hO.len;have hsm:=hO.small
 rw [xP] at hlen
 by_cases hab:b<=a
 ·unfold Yy
  refine ⟨λi w1=>i=(a:Int)+1/\w1=w,λ_ _=>0,⟨wr64 (by omega) (by omega),rfl⟩,?_⟩
  rintro i w1 ⟨rfl,rfl⟩
  unfold xT
  exact ⟨λhc=>by omega,λ_=>H f w1 (.refl f) (yL.small (by omega)) hO (World.grownBy.refl _ _)⟩
 unfold Yy
 refine ⟨λx w1=>∃ (i:Nat) (g:Nat->zJ),x=(i:Int)/\a+1<=i/\i<=b/\Seg a b f g/\yL lt a i g/\Ow base w1 s (tab g L)/\w.grownBy w1 (Sl.v s).ownBlock,λx _=>(b - x).toNat,?_,?_⟩
 ·exact ⟨a+1,f,by rw [wr64 (by omega) (by omega)];omega,by omega,by omega,.refl f,yL.small (by omega),hO,World.grownBy.refl _ _⟩
 rintro x w1 ⟨i,g,rfl,hi1,hi2,hsg,hso,hO1,hg1⟩
 unfold xT
 refine ⟨λhc=>?_,λhc=>?_⟩
 rotate_left
 ·obtain rfl:i=b:=by omega
  exact H g w1 hsg hso hO1 hg1
 refine ⟨λy w2=>∃ (j:Nat) (g:Nat->zJ),y=(j:Int)/\a<=j/\j<=i/\Seg a b f g/\Hole lt a i j g/\Ow base w2 s (tab g L)/\w.grownBy w2 (Sl.v s).ownBlock,λy _=>y.toNat,?_,?_⟩
 ·exact ⟨i,g,rfl,by omega,by omega,hsg,Hole.start hso,hO1,hg1⟩
 rintro y w2 ⟨j,g,rfl,hj1,hj2,hsg,hho,hO2,hg2⟩
 unfold YP
 have fin:∀ w3,Bel w2 w3->(j<=a∨Le lt (g (j - 1)) (g j))->(λ(x8':Int) (w':World)=>(∃ (i:Nat) (g:Nat->zJ),x8'=(i:Int)/\a+1<=i/\i<=b/\Seg a b f g/\yL lt a i g/\Ow base w' s (tab g L)/\w.grownBy w' (Sl.v s).ownBlock)/\(b - x8').toNat<(b - (i:Int)).toNat) (zC .i64 ((i:Int)+1)) w3:=by
  intro w3 hb3 hd
  rw [wr64 (by omega) (by omega)]
  exact ⟨⟨i+1,g,by omega,by omega,by omega,hsg,hho.done O hd,hO2.bel hb3,zS hg2 (zo hb3 _)⟩,by omega⟩
 refine ⟨λhc=>?_,λhc=>?_⟩
 ·refine yJ zq hO2 rfl (by omega) ?_
  refine yJ zq hO2 (i':=j - 1) (by rw [wr64 (by omega) (by omega)];omega) (by omega) ?_
  obtain ⟨r,hr,hl⟩:=hcmp w2 (g j) (g (j - 1))
  refine ⟨r,hr,?_⟩
  rw [ZR hl]
  unfold ye
  intro w3 hb3
  refine ⟨λhlt=>?_,λhlt=>fin w3 hb3 (.inr hlt)⟩
  refine Y2 zq (hO2.bel hb3) (i':=j) (j':=j - 1) rfl (by rw [wr64 (by omega) (by omega)];omega) (by omega) (by omega) λw4 hO4 hg4=>?_
  unfold xe
  rw [wr64 (by omega) (by omega)]
  exact ⟨⟨j - 1,_,by omega,by omega,by omega,.step j (j - 1) (by omega) (by omega) (by omega) (by omega) hsg,hho.step O (by omega) hj2 hlt,hO4,zS (zS hg2 (zo hb3 _)) hg4⟩,by dsimp only;omega⟩
 ·unfold ye
  intro w3 hb3
  exact ⟨λh=>(nomatch h),λ_=>fin w3 hb3 (.inl (by omega))⟩
end
end SoCmpFunc_api_Write
end Go.Proofs.YtealcoghiaeiiaaGreat.VG
set_option linter.unusedVariables false
namespace Go.Proofs.YtealcoghiaeiiaaGreat.VG
open Go.VB Go.VB.Srt Go.Proofs
namespace SoCmpFunc_api_Write
section
variable {cmp:Value} {lt:zJ->zJ->Bool} (O:SWO lt) (hcmp:Cmps cmp lt) {base:Nat} {w:World} {s:Sl} {L:Nat} {f:Nat->zJ}
include O hcmp
theorem zHQ (hO:Ow base w s (tab f L)) {lo hi o:Nat} (hb:o+hi<=L) (hlo:lo<=hi) (hp:Hp lt o (lo+1) hi f) {k:World->Prop}
  (H:∀ g w',Seg (o+lo) (o+hi) f g->Hp lt o lo hi g->Ow base w' s (tab g L)->w.grownBy w' (Sl.v s).ownBlock->k w'):
  Cl zA zE5 [Sl.v s,.int .i64 (lo:Int),.int .i64 (hi:Int),.int .i64 (o:Int),cmp].toArray w (λe w'=>e=.returned (.tuple [].toArray)/\k w'):=by
 refine zFH s lo hi o cmp w k ?_
 have hlen:=hO.len;have hsm:=hO.small
 rw [xP] at hlen
 unfold zAv
 refine ⟨λx w1=>∃ (r:Nat) (g:Nat->zJ),x=(r:Int)/\lo<=r/\r<=hi/\Seg (o+lo) (o+hi) f g/\HpX lt o lo hi r g/\Ow base w1 s (tab g L)/\w.grownBy w1 (Sl.v s).ownBlock,λx _=>(hi - x).toNat,?_,?_⟩
 ·exact ⟨lo,f,rfl,zU _,hlo,.refl f,HpX.start hp,hO,World.grownBy.refl _ _⟩
 rintro x w1 ⟨r,g,rfl,hr1,hr2,hsg,hx,hO1,hg1⟩
 unfold Y6
 rw [wr64 (n:=2*(r:Int)) (by omega) (by omega),wr64 (n:=2*(r:Int)+1) (by omega) (by omega)]
 refine ⟨λhc=>H g w1 hsg (hx.done O λc h1 h2=>by unfold zBS at h1;omega) hO1 hg1,λhc=>?_⟩
 have j2:∀ (c:Nat) (w2:World),Bel w1 w2->zBS c r->c<hi->(∀ d,zBS d r->d<hi->Le lt (g (o+d)) (g (o+c)))->
   xX s o cmp k r (λx10' w'=>(∃ (r:Nat) (g:Nat->zJ),x10'=(r:Int)/\lo<=r/\r<=hi/\Seg (o+lo) (o+hi) f g/\HpX lt o lo hi r g/\Ow base w' s (tab g L)/\w.grownBy w' (Sl.v s).ownBlock)/\(hi - x10').toNat<(hi - (r:Int)).toNat) c w2:=by
  intro c w2 hb2 hcr hch hmax
  have hrc:r<c:=by unfold zBS at hcr;omega
  have hO2:=hO1.bel hb2
  unfold xX
  rw [wr64 (n:=(o:Int)+r) (by omega) (by omega),wr64 (n:=(o:Int)+c) (by omega) (by omega)]
  refine yJ zq hO2 (i':=o+r) (by omega) (by omega) ?_
  refine yJ zq hO2 (i':=o+c) (by omega) (by omega) ?_
  obtain ⟨q,hq,hl⟩:=hcmp w2 (g (o+r)) (g (o+c))
  refine ⟨q,hq,?_⟩
  rw [ZR hl]
  intro w3 hb3
  refine ⟨λhn=>?_,λhn=>?_⟩
  ·have hn':lt (g (o+r)) (g (o+c))=false:=by simpa using hn
   exact H g w3 hsg (hx.done O λd h1 h2=>O.trans (hmax d h1 h2) hn') (hO2.bel hb3) (zS (zS hg1 (zo hb2 _)) (zo hb3 _))
  ·have hn':lt (g (o+r)) (g (o+c))=true:=by simpa using hn
   refine Y2 zq (hO2.bel hb3) (i':=o+r) (j':=o+c) (by omega) (by omega) (by omega) (by omega) λw4 hO4 hg4=>?_
   unfold YD
   exact ⟨⟨c,_,rfl,by omega,by omega,.step (o+r) (o+c) (by omega) (by omega) (by omega) (by omega) hsg,hx.step O hr1 hcr hch hmax hn',hO4,zS (zS (zS hg1 (zo hb2 _)) (zo hb3 _)) hg4⟩,by omega⟩
 rw [wr64 (n:=2*(r:Int)+1+1) (by omega) (by omega),wr64 (n:=(o:Int)+(2*r+1)) (by omega) (by omega)]
 refine ⟨λhc2=>?_,λhc2=>?_⟩
 ·rw [wr64 (n:=(o:Int)+(2*r+1)+1) (by omega) (by omega)]
  refine yJ zq hO1 (i':=o+(2*r+1)) (by omega) (by omega) ?_
  refine yJ zq hO1 (i':=o+(2*r+2)) (by omega) (by omega) ?_
  obtain ⟨q,hq,hl⟩:=hcmp w1 (g (o+(2*r+1))) (g (o+(2*r+2)))
  refine ⟨q,hq,?_⟩
  rw [ZR hl]
  unfold xa
  rw [wr64 (n:=2*(r:Int)) (by omega) (by omega),wr64 (n:=2*(r:Int)+1) (by omega) (by omega),wr64 (n:=2*(r:Int)+1+1) (by omega) (by omega)]
  intro w2 hb2
  refine ⟨λhn=>?_,λhn=>?_⟩
  ·have:=j2 (2*r+2) w2 hb2 (.inr rfl) (by omega) λd hd hdh=>by
    rcases hd with rfl|rfl
    ·exact O.of_lt hn
    ·exact O.refl _
   rw [show ((2*r+2:Nat):Int)=2*(r:Int)+1+1 by omega] at this
   exact this
  ·have:=j2 (2*r+1) w2 hb2 (.inl rfl) (by omega) λd hd hdh=>by
    rcases hd with rfl|rfl
    ·exact O.refl _
    ·exact hn
   rw [show ((2*r+1:Nat):Int)=2*(r:Int)+1 by omega] at this
   exact this
 ·unfold xa
  rw [wr64 (n:=2*(r:Int)) (by omega) (by omega),wr64 (n:=2*(r:Int)+1) (by omega) (by omega)]
  intro w2 hb2
  refine ⟨λh=>(nomatch h),λ_=>?_⟩
  have:=j2 (2*r+1) w2 hb2 (.inl rfl) (by omega) λd hd hdh=>by
    rcases hd with rfl|rfl
    ·exact O.refl _
    ·omega
  rw [show ((2*r+1:Nat):Int)=2*(r:Int)+1 by omega] at this
  exact this
theorem zKK (hO:Ow base w s (tab f L)) {a b:Nat} (hA:a<=b) (hb:b<=L) {k:World->Prop}
  (H:∀ g w',Seg a b f g->yL lt a b g->Ow base w' s (tab g L)->w.grownBy w' (Sl.v s).ownBlock->k w'):
  Cl zA zFB [Sl.v s,.int .i64 (a:Int),.int .i64 (b:Int),cmp].toArray w (λe w'=>e=.returned (.tuple [].toArray)/\k w'):=by
 refine zFG s a b cmp w k ?_
 have hlen:=hO.len;have hsm:=hO.small
 rw [xP] at hlen
 unfold zAu
 rw [wr64 (n:=(b:Int) - a) (by omega) (by omega),wr64 (n:=(b:Int) - a - 1) (by omega) (by omega)]
 have hq:∃ q:Nat,((b:Int) - a - 1).tdiv 2=(q:Int)/\b - a<=2*q+2/\q<=b - a:=by
  by_cases h0:a=b
  ·subst h0;exact ⟨0,by rw [show (a:Int) - a - 1 = -1 by omega];rfl,by omega,by omega⟩
  ·refine ⟨(b - a - 1) / 2,?_,by omega,by omega⟩
   rw [Int.tdiv_eq_ediv_of_nonneg (by omega)];omega
 obtain ⟨q,hq1,hq2,hq3⟩:=hq
 refine zE9 (by decide) (by rw [hq1];omega) (by rw [hq1];omega) ?_
 rw [hq1]
 obtain ⟨n,rfl⟩:∃ n,b=a+n:=⟨b - a,by omega⟩
 refine ⟨λx w1=>∃ (i:Nat) (g:Nat->zJ),x=(i:Int) - 1/\i<=n+1/\Seg a (a+n) f g/\Hp lt a i n g/\Ow base w1 s (tab g L)/\w.grownBy w1 (Sl.v s).ownBlock,λx _=>(x+1).toNat,?_,?_⟩
 ·exact ⟨q+1,f,by omega,by omega,.refl f,λi c h1 h2 h3=>by unfold zBS at h2;omega,hO,World.grownBy.refl _ _⟩
 rintro x w1 ⟨i,g,rfl,hi,hsg,hp,hO1,hg1⟩
 unfold Y5
 rw [wr64 (n:=((a+n:Nat):Int) - a) (by omega) (by omega)]
 refine ⟨λhc=>?_,λhc=>?_⟩
 ·obtain ⟨m,rfl⟩:∃ m,i=m+1:=⟨i - 1,by omega⟩
  rw [show ((m+1:Nat):Int) - 1=(m:Int) by omega,show ((a+n:Nat):Int) - a=(n:Int) by omega]
  refine zHQ O hcmp hO1 (lo:=m) (hi:=n) (o:=a) hb (by omega) hp λh w2 hsg2 hp2 hO2 hg2=>?_
  rw [wr64 (by omega) (by omega)]
  exact ⟨⟨m,h,rfl,by omega,hsg.trans (hsg2.mono (by omega) (zU _)),hp2,hO2,zS hg1 hg2⟩,by dsimp only;omega⟩
 ·obtain rfl:i=0:=by omega
  rw [wr64 (n:=((a+n:Nat):Int) - a - 1) (by omega) (by omega)]
  refine ⟨λx w2=>∃ (i:Nat) (g:Nat->zJ),x=(i:Int) - 1/\i<=n/\Seg a (a+n) f g/\HS lt a (a+n) i g/\Ow base w2 s (tab g L)/\w.grownBy w2 (Sl.v s).ownBlock,λx _=>(x+1).toNat,?_,?_⟩
  ·exact ⟨n,g,by omega,zU _,hsg,⟨hp,λi j h1 h2 h3=>by omega,λk q h1 h2 h3 h4=>by omega⟩,hO1,hg1⟩
  rintro x w2 ⟨i,g,rfl,hi,hsg,hs,hO2,hg2⟩
  unfold Y8
  refine ⟨λhc=>?_,λhc=>?_⟩
  ·obtain ⟨m,rfl⟩:∃ m,i=m+1:=⟨i - 1,by omega⟩
   rw [show ((m+1:Nat):Int) - 1=(m:Int) by omega,wr64 (n:=(a:Int)+m) (by omega) (by omega)]
   refine Y2 zq hO2 (i':=a) (j':=a+m) rfl (by omega) (by omega) (by omega) λw3 hO3 hg3=>?_
   unfold YC
   refine zHQ O hcmp hO3 (lo:=0) (hi:=m) (o:=a) (by omega) (by omega) (λi c h1 h2 h3=>?_) λh w4 hsg4 hp4 hO4 hg4=>?_
   ·rw [zDM g (by unfold zBS at h2;omega) (by unfold zBS at h2;omega),zDM g (by omega) (by unfold zBS at h2;omega)]
    exact hs.hp i c (by omega) h2 (by omega)
   ·rw [wr64 (by omega) (by omega)]
    rw [Nat.add_zero] at hsg4
    exact ⟨⟨m,h,rfl,by omega,(hsg.trans (Seg.one g (by omega) (by omega) (by omega) (by omega))).trans (hsg4.mono (zU _) (by omega)),hs.step O (by omega) hsg4 hp4,hO4,zS (zS hg2 hg3) hg4⟩,by dsimp only;omega⟩
  ·obtain rfl:i=0:=by omega
   exact H g w2 hsg hs.so hO2 hg2
end
theorem zHD {cmp:Value} {base:Nat} {w:World} {s:Sl} {L:Nat} {f:Nat->zJ} (hO:Ow base w s (tab f L)) {a b:Nat} (hA:a<=b) (hb:b<=L) {k:World->Prop}
  (H:∀ g w',Seg a b f g->Ow base w' s (tab g L)->w.grownBy w' (Sl.v s).ownBlock->k w'):
  Cl zA zD2 [Sl.v s,.int .i64 (a:Int),.int .i64 (b:Int),cmp].toArray w (λe w'=>e=.returned (.tuple [].toArray)/\k w'):=by
 refine zD6 s a b cmp w k ?_
 have hlen:=hO.len;have hsm:=hO.small
 rw [xP] at hlen
 unfold Z7
 refine ⟨λx y w1=>∃ (i:Nat) (g:Nat->zJ),x=(i:Int)/\a<=i/\i<=b /\ -1<=y/\y<b/\Seg a b f g/\Ow base w1 s (tab g L)/\w.grownBy w1 (Sl.v s).ownBlock,λx y _=>(y - x).toNat,?_,?_⟩
 ·rw [wr64 (by omega) (by omega)]
  exact ⟨a,f,rfl,zU _,hA,by omega,by omega,.refl f,hO,World.grownBy.refl _ _⟩
 rintro x y w1 ⟨i,g,rfl,hi,hib,hy1,hy2,hsg,hO1,hg1⟩
 unfold Yc
 refine ⟨λhc=>?_,λhc=>H g w1 hsg hO1 hg1⟩
 refine Y2 zq hO1 (i':=i) (j':=y.toNat) rfl (by omega) (by omega) (by omega) λw3 hO3 hg3=>?_
 unfold QI
 rw [wr64 (n:=(i:Int)+1) (by omega) (by omega),wr64 (n:=y - 1) (by omega) (by omega)]
 exact ⟨⟨i+1,_,by omega,by omega,by omega,by omega,by omega,.step i y.toNat (by omega) (by omega) (by omega) (by omega) hsg,hO3,zS hg1 hg3⟩,by dsimp only;omega⟩
end SoCmpFunc_api_Write
end Go.Proofs.YtealcoghiaeiiaaGreat.VG
set_option linter.unusedVariables false
namespace Go.Proofs.YtealcoghiaeiiaaGreat.VG
open Go.VB Go.VB.Srt Go.Proofs
namespace SoCmpFunc_api_Write
section
variable {cmp:Value} {lt:zJ->zJ->Bool} (hcmp:Cmps cmp lt) {base:Nat} {w:World} {s:Sl} {L:Nat} {f:Nat->zJ}
include hcmp
theorem zC5 (hO:Ow base w s (tab f L)) {B:Nat} {v:Int} (hB:Row w B [.int .i64 v] Zr) {a b:Nat} (ha:a<L) (hb:b<L) {k:Int->Int->World->Prop}
  (H:∀ (x y:Nat) w' v',(x=a∨x=b)->(y=a∨y=b)->Row w' B [.int .i64 v'] Zr->w.grownBy w' (some B)->k x y w'):
  Cl zA zFm [Sl.v s,.int .i64 (a:Int),.int .i64 (b:Int),.pointer (some ⟨B,0,none⟩),cmp].toArray w (λe w'=>∃ (r0 r1:Int),e=.returned (.tuple [.int .i64 r0,.int .i64 r1].toArray)/\k r0 r1 w'):=by
 refine zFo s a b (some ⟨B,0,none⟩) cmp w k ?_
 unfold zBT
 refine yJ zq hO (i':=b) rfl hb ?_
 refine yJ zq hO (i':=a) rfl ha ?_
 obtain ⟨q,hq,hl⟩:=hcmp w (f b) (f a)
 refine ⟨q,hq,?_⟩
 intro w1 hb1
 have hB1:=hB.bel hb1
 refine ⟨λ_=>⟨by trivial,?_⟩,λ_=>H a b w1 v (.inl rfl) (.inr rfl) hB1 (zo hb1 _)⟩
 refine zBX zAM v hB1.cell ?_
 refine ⟨by trivial,?_⟩
 refine zIZ zAM hB1 rfl rfl λw2 hB2 hg2=>?_
 exact H b a w2 _ (.inr rfl) (.inl rfl) hB2 (zS (zo hb1 _) hg2)
theorem zFf (hO:Ow base w s (tab f L)) {B:Nat} {v:Int} (hB:Row w B [.int .i64 v] Zr) (hne:(Sl.v s).ownBlock≠some B) {a b c:Nat} (ha:a<L) (hb:b<L) (hc:c<L) {k:Int->World->Prop}
  (H:∀ (x:Nat) w' v',(x=a∨x=b∨x=c)->Row w' B [.int .i64 v'] Zr->w.grownBy w' (some B)->k x w'):
  Cl zA zFp [Sl.v s,.int .i64 (a:Int),.int .i64 (b:Int),.int .i64 (c:Int),.pointer (some ⟨B,0,none⟩),cmp].toArray w (λe w'=>∃ r0:Int,e=.returned (.int .i64 r0)/\k r0 w'):=by
 refine zFn s a b c (some ⟨B,0,none⟩) cmp w k ?_
 unfold zBK
 have kept:∀ {w w'},Ow base w s (tab f L)->w.grownBy w' (some B)->Ow base w' s (tab f L):=λh hg=>h.kept hg (by
  cases hk:(Sl.v s).ownBlock with
  |none=>exact .inl rfl
  |some q=>exact .inr (by rw [← hk];exact hne))
 refine zC5 hcmp hO hB ha hb λx y w1 v1 hx hy hB1 hg1=>?_
 have hO1:=kept hO hg1
 refine zC5 hcmp hO1 hB1 (a:=y) (b:=c) (by omega) hc λx2 y2 w2 v2 hx2 hy2 hB2 hg2=>?_
 have hO2:=kept hO1 hg2
 refine zC5 hcmp hO2 hB2 (a:=x) (b:=x2) (by omega) (by omega) λx3 y3 w3 v3 hx3 hy3 hB3 hg3=>?_
 exact H y3 w3 v3 (by omega) hB3 (zS (zS hg1 hg2) hg3)
theorem zBJ (hO:Ow base w s (tab f L)) {B:Nat} {v:Int} (hB:Row w B [.int .i64 v] Zr) (hne:(Sl.v s).ownBlock≠some B) {a:Nat} (h0:1<=a) (ha:a+1<L) (hL:L<=140737488355328) {k:Int->World->Prop}
  (H:∀ (x:Nat) w' v',a - 1<=x->x<=a+1->Row w' B [.int .i64 v'] Zr->w.grownBy w' (some B)->k x w'):
  Cl zA zDU [Sl.v s,.int .i64 (a:Int),.pointer (some ⟨B,0,none⟩),cmp].toArray w (λe w'=>∃ r0:Int,e=.returned (.int .i64 r0)/\k r0 w'):=by
 refine zDX s a (some ⟨B,0,none⟩) cmp w k ?_
 unfold Zo
 rw [wr64 (n:=(a:Int) - 1) (by omega) (by omega),wr64 (n:=(a:Int)+1) (by omega) (by omega),show (a:Int) - 1=((a - 1:Nat):Int) by omega,show (a:Int)+1=((a+1:Nat):Int) by omega]
 exact zFf hcmp hO hB hne (a:=a - 1) (b:=a) (c:=a+1) (by omega) (by omega) ha λx w' v' hx h1 h2=>H x w' v' (by omega) (by omega) h1 h2
theorem zIY (hO:Ow base w s (tab f L)) {a b:Nat} (hA:a<b) (hb:b<=L) {k:Int->Int->World->Prop}
  (H:∀ (x:Nat) (y:Int) w',a<=x->x<b->Bel w w'->k x y w'):
  Cl zA zEH [Sl.v s,.int .i64 (a:Int),.int .i64 (b:Int),cmp].toArray w (λe w'=>∃ (r0 r1:Int),e=.returned (.tuple [.int .i64 r0,.int .i64 r1].toArray)/\k r0 r1 w'):=by
 refine zEJ s a b cmp w k ?_
 have hlen:=hO.len;have hsm:=hO.small
 rw [xP] at hlen
 unfold zAO
 refine zIo zMQ ?_
 have hB:=Row.new w zFE Zr
 have hb1:Bel w (w.alloc (.cells zFE.toArray Zr)):=Bel.alloc _ _
 have hO1:=hO.bel hb1
 have hne:(Sl.v s).ownBlock≠some w.heap.size:=λe=>by have:=(hO.row.lt _ e).2;omega
 have hw:w.heap.size<=w.heap.size:=zU _
 generalize hBd:w.heap.size=B at hB hne ⊢
 generalize (w.alloc (.cells zFE.toArray Zr))=w1 at hB hb1 hO1 ⊢
 obtain ⟨n,rfl⟩:∃ n,b=a+n:=⟨b - a,by omega⟩
 rw [wr64 (n:=((a+n:Nat):Int) - a) (by omega) (by omega),show ((a+n:Nat):Int) - a=(n:Int) by omega]
 have hq:(n:Int).tdiv 4=((n / 4:Nat):Int):=by rw [Int.tdiv_eq_ediv_of_nonneg (by omega)];omega
 refine zE9 (by decide) (by rw [hq];omega) (by rw [hq];omega) ?_
 refine zE9 (by decide) (by rw [hq];omega) (by rw [hq];omega) ?_
 refine zE9 (by decide) (by rw [hq];omega) (by rw [hq];omega) ?_
 rw [hq]
 generalize hm:n / 4=m
 have hm1:4*m<=n:=by omega
 rw [wr64 (n:=(m:Int)*1) (by omega) (by omega),wr64 (n:=(m:Int)*2) (by omega) (by omega),wr64 (n:=(m:Int)*3) (by omega) (by omega),
  wr64 (n:=(a:Int)+m*1) (by omega) (by omega),wr64 (n:=(a:Int)+m*2) (by omega) (by omega),wr64 (n:=(a:Int)+m*3) (by omega) (by omega)]
 have j1:∀ (x:Nat) (w2:World) (v:Int),a<=x->x<a+n->Row w2 B [.int .i64 v] Zr->w1.grownBy w2 (some B)->yu k (some ⟨B,0,none⟩) x w2:=by
  intro x w2 v h1 h2 h3 h4
  have hb2:Bel w w2:=hb1.grown h4 (λr hr=>by cases hr;omega)
  unfold yu
  refine zBX zAM v h3.cell ?_
  exact ⟨λ_=>H x _ w2 h1 h2 hb2,λ_=>⟨λ_=>H x _ w2 h1 h2 hb2,λ_=>H x _ w2 h1 h2 hb2⟩⟩
 have kept:∀ {w w'},Ow base w s (tab f L)->w.grownBy w' (some B)->Ow base w' s (tab f L):=λh hg=>h.kept hg (by
  cases hk:(Sl.v s).ownBlock with
  |none=>exact .inl rfl
  |some q=>exact .inr (by rw [← hk];exact hne))
 have j2:∀ (x y z:Nat) (w2:World) (v:Int),a<=x->x<a+n->a<=y->y<a+n->a<=z->z<a+n->Row w2 B [.int .i64 v] Zr->w1.grownBy w2 (some B)->yv s cmp k (some ⟨B,0,none⟩) x y z w2:=by
  intro x y z w2 v h1 h2 h3 h4 h5 h6 h7 h8
  unfold yv
  refine zFf hcmp (kept hO1 h8) h7 hne (by omega) (by omega) (by omega) λq w3 v3 hq h9 h10=>j1 q w3 v3 (by omega) (by omega) h9 (zS h8 h10)
 have e1:(a:Int)+m*1=((a+m:Nat):Int):=by omega
 have e2:(a:Int)+m*2=((a+2*m:Nat):Int):=by omega
 have e3:(a:Int)+m*3=((a+3*m:Nat):Int):=by omega
 rw [e1,e2,e3]
 refine ⟨λh8=>⟨λh50=>?_,λ_=>?_⟩,λ_=>j1 _ w1 _ (by omega) (by omega) hB (World.grownBy.refl _ _)⟩
 ·refine zBJ hcmp hO1 hB hne (by omega) (by omega) (by omega) λx w2 v2 hx1 hx2 hB2 hg2=>?_
  refine zBJ hcmp (kept hO1 hg2) hB2 hne (by omega) (by omega) (by omega) λy w3 v3 hy1 hy2 hB3 hg3=>?_
  refine zBJ hcmp (kept hO1 (zS hg2 hg3)) hB3 hne (by omega) (by omega) (by omega) λz w4 v4 hz1 hz2 hB4 hg4=>?_
  exact j2 x y z w4 v4 (by omega) (by omega) (by omega) (by omega) (by omega) (by omega) hB4 (zS (zS hg2 hg3) hg4)
 ·exact j2 _ _ _ w1 _ (by omega) (by omega) (by omega) (by omega) (by omega) (by omega) hB (World.grownBy.refl _ _)
end
end SoCmpFunc_api_Write
end Go.Proofs.YtealcoghiaeiiaaGreat.VG
set_option linter.unusedVariables false
namespace Go.Proofs.YtealcoghiaeiiaaGreat.VG
open Go.VB Go.VB.Srt Go.Proofs
namespace SoCmpFunc_api_Write
theorem zI4 {cmp:Value} {base:Nat} {w:World} {s:Sl} {L:Nat} {f:Nat->zJ} (hO:Ow base w s (tab f L)) {a b:Nat} (hA:a<=b) (hb:b<=L) {w0:World} {k:World->Prop}
  (H:∀ g w',Seg a b f g->Ow base w' s (tab g L)->w.grownBy w' (Sl.v s).ownBlock->k w'):
  Cl zA zDu [Sl.v s,.int .i64 (a:Int),.int .i64 (b:Int),cmp].toArray w (λe w'=>e=.returned (.tuple [].toArray)/\k w'):=by
 refine zDe s a b cmp w k ?_
 have hlen:=hO.len;have hsm:=hO.small
 rw [xP] at hlen
 obtain ⟨n,rfl⟩:∃ n,b=a+n:=⟨b - a,by omega⟩
 unfold Z0
 rw [wr64 (n:=((a+n:Nat):Int) - a) (by omega) (by omega),show ((a+n:Nat):Int) - a=(n:Int) by omega]
 refine ⟨λh8=>?_,λ_=>H f w (.refl f) hO (World.grownBy.refl _ _)⟩
 refine zFr (by kernel_rfl) (by kernel_rfl) ?_
 rw [zIE (by omega) (by omega)]
 refine zIo zEz ?_
 have hr0:=Row.new w Yh xC
 have hb1:Bel w (w.alloc (.cells Yh.toArray xC)):=Bel.alloc _ _
 have hO1:=hO.bel hb1
 have hne:(Sl.v s).ownBlock≠some w.heap.size:=λe=>by have:=(hO.row.lt _ e).2;omega
 have hB0:w.heap.size<=w.heap.size:=zU _
 generalize hBd:w.heap.size=B at hr0 hne ⊢
 generalize (w.alloc (.cells Yh.toArray xC))=w1 at hr0 hb1 hO1 ⊢
 refine zIZ zAb hr0 rfl rfl λw2 hr2 hg2=>?_
 have kept:∀ {g:Nat->zJ} {w w'},Ow base w s (tab g L)->w.grownBy w' (some B)->Ow base w' s (tab g L):=λh hg=>h.kept hg (by
  cases hk:(Sl.v s).ownBlock with
  |none=>exact .inl rfl
  |some q=>exact .inr (by rw [← hk];exact hne))
 have hO2:=kept hO1 hg2
 have hb2:Bel w w2:=hb1.grown hg2 (λr hr=>by cases hr;omega)
 refine zMM (by omega) (by omega) λm hm1 hm2=>?_
 have hq:(n:Int).tdiv 4=((n / 4:Nat):Int):=by rw [Int.tdiv_eq_ediv_of_nonneg (by omega)];omega
 refine zE9 (by decide) (by rw [hq];omega) (by rw [hq];omega) ?_
 rw [hq]
 generalize hn4:n / 4=q
 have hq1:4*q<=n:=by omega
 have hq2:2<=q:=by omega
 rw [wr64 (n:=(q:Int)*2) (by omega) (by omega),wr64 (n:=(a:Int)+q*2) (by omega) (by omega),wr64 (n:=(a:Int)+q*2 - 1) (by omega) (by omega)]
 refine ⟨λx w3=>∃ (i:Nat) (g:Nat->zJ) (v:Int),x=(i:Int)/\a+2*q - 1<=i/\i<=a+2*q+2/\Seg a (a+n) f g/\Ow base w3 s (tab g L)/\Row w3 B [.int .u64 v] xC/\w.heap.size<=w3.heap.size/\w.grownBy w3 (Sl.v s).ownBlock,λx _=>(a+2*q+3 - x).toNat,?_,?_⟩
 ·exact ⟨a+2*q - 1,f,_,by omega,by omega,by omega,.refl f,hO2,hr2,hb2.le,zo hb2 _⟩
 rintro x w3 ⟨i,g,v,rfl,hi1,hi2,hsg,hO3,hr3,hsz3,hg3⟩
 unfold YO
 rw [wr64 (n:=((a+n:Nat):Int) - a) (by omega) (by omega),show ((a+n:Nat):Int) - a=(n:Int) by omega]
 refine zE9 (by decide) (by rw [hq];omega) (by rw [hq];omega) ?_
 rw [hq,hn4,wr64 (n:=(q:Int)*2) (by omega) (by omega),wr64 (n:=(a:Int)+q*2) (by omega) (by omega),wr64 (n:=(a:Int)+q*2+1) (by omega) (by omega)]
 refine ⟨λhc=>?_,λhc=>H g w3 hsg hO3 hg3⟩
 refine zMy hr3 λr v' w4 hr4 hg4=>?_
 have hO4:=kept hO3 hg4
 rw [zIE (n:=(m:Int) - 1) (by omega) (by omega)]
 refine zQi (by omega) (by omega) λz hz0 hz1=>?_
 refine zFr (by kernel_rfl) (by kernel_rfl) ?_
 rw [wr64 (n:=z) (by omega) (by omega)]
 have hgo4:w.grownBy w4 (Sl.v s).ownBlock:=by
  refine ⟨hg4.os.trans hg3.os,hg4.tape.trans hg3.tape,hg4.output.trans hg3.output,zn hg3.size hg4.size,λk hk hr=>?_⟩
  exact (hg4.block k (yF hk hg3.size) (λe=>by have:=Option.some.inj e;omega)).trans (hg3.block k hk hr)
 have j3:∀ y:Nat,y<n->yh s a i (λx11' w'=>(∃ (i:Nat) (g:Nat->zJ) (v:Int),x11'=(i:Int)/\a+2*q - 1<=i/\i<=a+2*q+2/\Seg a (a+n) f g/\Ow base w' s (tab g L)/\Row w' B [.int .u64 v] xC/\w.heap.size<=w'.heap.size/\w.grownBy w' (Sl.v s).ownBlock)/\(a+2*q+3 - x11').toNat<(a+2*q+3 - (i:Int)).toNat) y w4:=by
  intro y hy
  unfold yh
  rw [wr64 (n:=(a:Int)+y) (by omega) (by omega)]
  refine Y2 zq hO4 (i':=i) (j':=a+y) rfl (by omega) (by omega) (by omega) λw5 hO5 hg5=>?_
  unfold xp
  rw [wr64 (n:=(i:Int)+1) (by omega) (by omega)]
  exact ⟨⟨i+1,_,v',by omega,by omega,by omega,.step i (a+y) (by omega) (by omega) (by omega) (by omega) hsg,hO5,hr4.grown hg5 hne,zn hsz3 (zn hg4.size hg5.size),zS hgo4 hg5⟩,by omega⟩
 obtain ⟨y,rfl⟩:∃ y:Nat,z=(y:Int):=⟨z.toNat,by omega⟩
 refine ⟨λh=>?_,λh=>j3 y (by omega)⟩
 rw [wr64 (n:=(y:Int) - n) (by omega) (by omega)]
 have:=j3 (y - n) (by omega)
 rw [show ((y - n:Nat):Int)=(y:Int) - n by omega] at this
 exact this
end SoCmpFunc_api_Write
end Go.Proofs.YtealcoghiaeiiaaGreat.VG
set_option linter.unusedVariables false
namespace Go.Proofs.YtealcoghiaeiiaaGreat.VG
open Go.VB Go.VB.Srt Go.Proofs
namespace SoCmpFunc_api_Write
section
variable {cmp:Value} {lt:zJ->zJ->Bool} (O:SWO lt) (hcmp:Cmps cmp lt) {base:Nat} {w:World} {s:Sl} {L:Nat} {f:Nat->zJ}
include O hcmp
theorem zG2 (hO:Ow base w s (tab f L)) {a b:Nat} (hA:a<b) (hb:b<=L) (hpre:Pre lt a b f) {k:Bool->World->Prop}
  (H:∀ r g w',Seg a b f g->(r=true->yL lt a b g)->Ow base w' s (tab g L)->w.grownBy w' (Sl.v s).ownBlock->k r w'):
  Cl zA zCj [Sl.v s,.int .i64 (a:Int),.int .i64 (b:Int),cmp].toArray w (λe w'=>∃ r0:Bool,e=.returned (.bool r0)/\k r0 w'):=by
 refine zCh s a b cmp w k ?_
 have hlen:=hO.len;have hsm:=hO.small
 rw [xP] at hlen
 unfold ZE
 refine ⟨λx y w1=>∃ (i:Nat) (g:Nat->zJ),x=(i:Int)/\0<=y/\y<=5/\a+1<=i/\i<=b/\Seg a b f g/\yL lt a i g/\Ow base w1 s (tab g L)/\w.grownBy w1 (Sl.v s).ownBlock,λ_ y _=>(5 - y).toNat,?_,?_⟩
 ·rw [wr64 (by omega) (by omega)]
  exact ⟨a+1,f,by omega,by decide,by decide,zU _,by omega,.refl f,yL.small (zU _),hO,World.grownBy.refl _ _⟩
 rintro x y w1 ⟨i0,g0,rfl,hy0,hy5,hi1,hi2,hsg0,hso0,hO1,hg1⟩
 unfold xl
 refine ⟨λhc5=>?_,λ_=>H false g0 w1 hsg0 (λh=>(nomatch h)) hO1 hg1⟩
 have next:∀ (i:Nat) (g:Nat->zJ) (w2:World),a+1<=i->i<=b->Seg a b f g->yL lt a i g->Ow base w2 s (tab g L)->w.grownBy w2 (Sl.v s).ownBlock->
   z9 y (λx9' x10' w'=>(∃ (i:Nat) (g:Nat->zJ),x9'=(i:Int)/\0<=x10'/\x10'<=5/\a+1<=i/\i<=b/\Seg a b f g/\yL lt a i g/\Ow base w' s (tab g L)/\w.grownBy w' (Sl.v s).ownBlock)/\(5 - x10').toNat<(5 - y).toNat) (i:Int) w2:=by
  intro i g w2 h1 h2 h3 h4 h5 h6
  unfold z9
  rw [wr64 (by omega) (by omega)]
  exact ⟨⟨i,g,rfl,by omega,by omega,h1,h2,h3,h4,h5,h6⟩,by omega⟩
 generalize hKl:(λ(x9' x10':Int) (w':World)=>(∃ (i:Nat) (g:Nat->zJ),x9'=(i:Int)/\0<=x10'/\x10'<=5/\a+1<=i/\i<=b/\Seg a b f g/\yL lt a i g/\Ow base w' s (tab g L)/\w.grownBy w' (Sl.v s).ownBlock)/\(5 - x10').toNat<(5 - y).toNat)=Kl at next
 have j6:∀ (i:Nat) (g:Nat->zJ) (w2:World),a+1<=i->i<=b->Seg a b f g->yL lt a i g->Ow base w2 s (tab g L)->w.grownBy w2 (Sl.v s).ownBlock->zz s b cmp y Kl (i:Int) w2:=by
  intro i g w2 h1 h2 h3 h4 h5 h6
  unfold zz
  refine ⟨λ_=>?_,λ_=>next i g w2 h1 h2 h3 h4 h5 h6⟩
  rw [wr64 (n:=(i:Int)+1) (by omega) (by omega)]
  refine ⟨λx w3=>∃ (m:Nat) (h:Nat->zJ),x=(m:Int)/\i+1<=m/\m<=b+1/\Seg a b f h/\yL lt a i h/\Ow base w3 s (tab h L)/\w.grownBy w3 (Sl.v s).ownBlock,λx _=>(b+1 - x).toNat,?_,?_⟩
  ·exact ⟨i+1,g,by omega,zU _,by omega,h3,h4,h5,h6⟩
  rintro x w3 ⟨m,h,rfl,hm1,hm2,hsg,hso,hO3,hg3⟩
  unfold xh
  refine ⟨λhc=>?_,λ_=>next i h w3 h1 h2 hsg hso hO3 hg3⟩
  refine yJ zq hO3 (i':=m) rfl (by omega) ?_
  refine yJ zq hO3 (i':=m - 1) (by rw [wr64 (by omega) (by omega)];omega) (by omega) ?_
  obtain ⟨r,hr,hl⟩:=hcmp w3 (h m) (h (m - 1))
  refine ⟨r,hr,?_⟩
  rw [ZR hl]
  intro w4 hb4
  refine ⟨λ_=>next i h w4 h1 h2 hsg hso (hO3.bel hb4) (zS hg3 (zo hb4 _)),λ_=>?_⟩
  refine Y2 zq (hO3.bel hb4) (i':=m) (j':=m - 1) rfl (by rw [wr64 (by omega) (by omega)];omega) (by omega) (by omega) λw5 hO5 hg5=>?_
  unfold yc
  rw [wr64 (n:=(m:Int)+1) (by omega) (by omega)]
  exact ⟨⟨m+1,_,by omega,by omega,by omega,.step m (m - 1) (by omega) (by omega) (by omega) (by omega) hsg,hso.congr λq h7 h8=>zDM h (by omega) (by omega),hO5,zS (zS hg3 (zo hb4 _)) hg5⟩,by dsimp only;omega⟩
 refine ⟨λx w2=>∃ (i:Nat) (g:Nat->zJ),x=(i:Int)/\a+1<=i/\i<=b/\Seg a b f g/\yL lt a i g/\Ow base w2 s (tab g L)/\w.grownBy w2 (Sl.v s).ownBlock,λx _=>(b - x).toNat,⟨i0,g0,rfl,hi1,hi2,hsg0,hso0,hO1,hg1⟩,?_⟩
 rintro x w2 ⟨i,g,rfl,hi1,hi2,hsg,hso,hO2,hg2⟩
 unfold xt
 generalize hK3:(λ(x9_2':Int) (w':World)=>(∃ (i:Nat) (g:Nat->zJ),x9_2'=(i:Int)/\a+1<=i/\i<=b/\Seg a b f g/\yL lt a i g/\Ow base w' s (tab g L)/\w.grownBy w' (Sl.v s).ownBlock)/\(b - x9_2').toNat<(b - (i:Int)).toNat)=K3
 have stop:∀ w3,Bel w2 w3->(i<b->lt (g i) (g (i - 1))=true)->yb s a b cmp k y Kl (i:Int) K3 false w2:=by
  intro w3' hb3' hlt w3 hb3
  have hO3:=hO2.bel hb3
  have hg3:=zS hg2 (zo hb3 _)
  refine ⟨λh=>(nomatch h),λ_=>⟨λhib=>?_,λhib=>⟨λ_=>H false g w3 hsg (λh=>(nomatch h)) hO3 hg3,λ_=>?_⟩⟩⟩
  ·obtain rfl:i=b:=by omega
   exact H true g w3 hsg (λ_=>hso) hO3 hg3
  have hib':i<b:=by omega
  refine Y2 zq hO3 (i':=i) (j':=i - 1) rfl (by rw [wr64 (by omega) (by omega)];omega) (by omega) (by omega) λw4 hO4 hg4=>?_
  have hg04:=zS hg3 hg4
  have hsg4:Seg a b f (swp g i (i - 1)):=.step i (i - 1) (by omega) (by omega) (by omega) (by omega) hsg
  have hso4:yL lt a (i - 1) (swp g i (i - 1)):=yL.congr (f:=g) (λp q h1 h2 h3=>hso p q h1 h2 (by omega)) λq h1 h2=>zDM g (by omega) (by omega)
  unfold ya
  refine ⟨λhia=>?_,λhia=>j6 i _ w4 hi1 hi2 hsg4 (yL.small (by rw [wr64 (by omega) (by omega)] at hia;omega)) hO4 hg04⟩
  rw [wr64 (by omega) (by omega)] at hia
  rw [wr64 (by omega) (by omega)]
  refine ⟨λx w5=>∃ (j:Nat) (h:Nat->zJ),x=(j:Int)/\a<=j/\j<=i - 1/\Seg a b f h/\Hole lt a (i - 1) j h/\Ow base w5 s (tab h L)/\w.grownBy w5 (Sl.v s).ownBlock,λx _=>x.toNat,⟨i - 1,_,by omega,by omega,zU _,hsg4,Hole.start hso4,hO4,hg04⟩,?_⟩
  rintro x w5 ⟨j,h,rfl,hj1,hj2,hsg5,hho,hO5,hg5⟩
  unfold xn
  have out:∀ w6,Bel w5 w6->(j<=a∨Le lt (h (j - 1)) (h j))->zz s b cmp y Kl (i:Int) w6:=by
   intro w6 hb6 hd
   have:=hho.done O hd
   rw [show i - 1+1=i by omega] at this
   exact j6 i h w6 hi1 hi2 hsg5 this (hO5.bel hb6) (zS hg5 (zo hb6 _))
  refine ⟨λhc=>?_,λhc=>out w5 (Bel.refl _) (.inl (by omega))⟩
  refine yJ zq hO5 (i':=j) rfl (by omega) ?_
  refine yJ zq hO5 (i':=j - 1) (by rw [wr64 (by omega) (by omega)];omega) (by omega) ?_
  obtain ⟨r,hr,hl⟩:=hcmp w5 (h j) (h (j - 1))
  refine ⟨r,hr,?_⟩
  rw [ZR hl]
  intro w6 hb6
  refine ⟨λhn=>out w6 hb6 (.inr (show lt (h j) (h (j - 1))=false by simpa using hn)),λhn=>?_⟩
  have hn':lt (h j) (h (j - 1))=true:=by simpa using hn
  have haj:a<j:=by
   rcases Nat.lt_or_ge a j with h1|h1
   ·exact h1
   ·obtain rfl:j=a:=by omega
    rcases hpre.seg hsg5 with h2|h2
    ·omega
    ·have:=h2 j (zU _) hA
     unfold Le at this
     rw [hn'] at this;cases this
  refine Y2 zq (hO5.bel hb6) (i':=j) (j':=j - 1) rfl (by rw [wr64 (by omega) (by omega)];omega) (by omega) (by omega) λw7 hO7 hg7=>?_
  unfold yZ
  rw [wr64 (n:=(j:Int) - 1) (by omega) (by omega)]
  exact ⟨⟨j - 1,_,by omega,by omega,by omega,.step j (j - 1) (by omega) (by omega) (by omega) (by omega) hsg5,hho.step O haj hj2 hn',hO7,zS (zS hg5 (zo hb6 _)) hg7⟩,by dsimp only;omega⟩
 refine ⟨λhc=>?_,λhc=>stop w2 (Bel.refl _) (λh=>by omega)⟩
 refine yJ zq hO2 (i':=i) rfl (by omega) ?_
 refine yJ zq hO2 (i':=i - 1) (by rw [wr64 (by omega) (by omega)];omega) (by omega) ?_
 obtain ⟨r,hr,hl⟩:=hcmp w2 (g i) (g (i - 1))
 refine ⟨r,hr,?_⟩
 rw [ZR hl]
 cases hlt:lt (g i) (g (i - 1)) with
 |true=>exact stop w2 (Bel.refl _) (λ_=>hlt)
 |false=>
  intro w3 hb3
  refine ⟨λ_=>?_,λh=>(nomatch h)⟩
  rw [wr64 (n:=(i:Int)+1) (by omega) (by omega),← hK3]
  exact ⟨⟨i+1,g,by omega,by omega,by omega,hsg,hso.snoc O (by omega) hlt,hO2.bel hb3,zS hg2 (zo hb3 _)⟩,by omega⟩
end
end SoCmpFunc_api_Write
end Go.Proofs.YtealcoghiaeiiaaGreat.VG
set_option linter.unusedVariables false
namespace Go.Proofs.YtealcoghiaeiiaaGreat.VG
open Go.VB Go.VB.Srt Go.Proofs
namespace SoCmpFunc_api_Write
section
variable {cmp:Value} {lt:zJ->zJ->Bool} (O:SWO lt) (hcmp:Cmps cmp lt) {base:Nat} {w:World} {s:Sl} {L:Nat} {f:Nat->zJ}
include O hcmp
theorem zIi (hO:Ow base w s (tab f L)) {a b p:Nat} (hA:a<=p) (hp:p<b) (hb:b<=L) {k:Int->World->Prop}
  (H:∀ (m:Nat) g w',a<m->m<=b->Seg a b f g->(∀ q,a<=q->q<m->Le lt (g q) (f p))->Ow base w' s (tab g L)->w.grownBy w' (Sl.v s).ownBlock->k m w'):
  Cl zA zDV [Sl.v s,.int .i64 (a:Int),.int .i64 (b:Int),.int .i64 (p:Int),cmp].toArray w (λe w'=>∃ r0:Int,e=.returned (.int .i64 r0)/\k r0 w'):=by
 refine zDO s a b p cmp w k ?_
 have hlen:=hO.len;have hsm:=hO.small
 rw [xP] at hlen
 unfold Zq
 refine Y2 zq hO (i':=a) (j':=p) rfl rfl (by omega) (by omega) λw1 hO1 hg1=>?_
 have hs1:Seg a b f (swp f a p):=Seg.one f (by omega) (by omega) (by omega) (by omega)
 have ha1:swp f a p a=f p:=zKk f a p
 generalize (swp f a p)=f1 at hO1 hs1 ha1
 unfold xV
 rw [wr64 (n:=(a:Int)+1) (by omega) (by omega),wr64 (n:=(b:Int) - 1) (by omega) (by omega)]
 refine ⟨λx y w2=>∃ (i j:Nat) (g:Nat->zJ),x=(i:Int)/\y=(j:Int)/\a<i/\a<=j/\i<=j+1/\j<b/\Seg a b f g/\g a=f p/\Pt (λq z=>!(lt q z)) a b i j g/\Ow base w2 s (tab g L)/\w.grownBy w2 (Sl.v s).ownBlock,λx y _=>(y+1 - x).toNat,?_,?_⟩
 ·exact ⟨a+1,b - 1,f1,by omega,by omega,by omega,by omega,by omega,by omega,hs1,ha1,Pt.start _ a b f1,hO1,hg1⟩
 rintro x y w2 ⟨i0,j0,g,rfl,rfl,hi0,hj0,hij0,hjb,hsg,hga,hpt0,hO2,hg2⟩
 unfold Q8
 generalize hKl2:(λ(x11' x12':Int) (w':World)=>(∃ (i j:Nat) (g:Nat->zJ),x11'=(i:Int)/\x12'=(j:Int)/\a<i/\a<=j/\i<=j+1/\j<b/\Seg a b f g/\g a=f p/\Pt (λq z=>!(lt q z)) a b i j g/\Ow base w' s (tab g L)/\w.grownBy w' (Sl.v s).ownBlock)/\(x12'+1 - x11').toNat<((j0:Int)+1 - (i0:Int)).toNat)=Kl2
 refine ⟨λx w3=>∃ i:Nat,x=(i:Int)/\i0<=i/\i<=j0+1/\Pt (λq z=>!(lt q z)) a b i j0 g/\Bel w2 w3,λx _=>(j0+1 - x).toNat,⟨i0,rfl,zU _,hij0,hpt0,Bel.refl _⟩,?_⟩
 rintro x w3 ⟨i,rfl,hi1,hi2,hpt,hb3⟩
 have hO3:=hO2.bel hb3
 unfold YB
 generalize hKl3:(λ(x11_1':Int) (w':World)=>(∃ i:Nat,x11_1'=(i:Int)/\i0<=i/\i<=j0+1/\Pt (λq z=>!(lt q z)) a b i j0 g/\Bel w2 w')/\(j0+1 - x11_1').toNat<((j0:Int)+1 - (i:Int)).toNat)=Kl3
 have down:∀ w4,Bel w3 w4->(i<=j0->lt (g a) (g i)=true)->xU s a cmp k (j0:Int) Kl2 (i:Int) Kl3 false w3:=by
  intro w4' hb4' hlti w4 hb4
  refine ⟨λh=>(nomatch h),λ_=>?_⟩
  refine ⟨λy w5=>∃ j:Nat,y=(j:Int)/\a<=j/\i<=j+1/\j<=j0/\Pt (λq z=>!(lt q z)) a b i j g/\Bel w2 w5,λy _=>y.toNat,⟨j0,rfl,hj0,hi2,zU _,hpt,hb3.trans hb4⟩,?_⟩
  rintro y w5 ⟨j,rfl,hj1,hj2,hj3,hptj,hb5⟩
  have hO5:=hO2.bel hb5
  unfold YJ
  generalize hKl5:(λ(x12_1':Int) (w':World)=>(∃ j:Nat,x12_1'=(j:Int)/\a<=j/\i<=j+1/\j<=j0/\Pt (λq z=>!(lt q z)) a b i j g/\Bel w2 w')/\x12_1'.toNat<((j:Int)).toNat)=Kl5
  have stop:(i<=j->lt (g a) (g j)=false)->xW s k Kl2 (i:Int) (j:Int) Kl5 false w5:=by
   intro hltj w6 hb6
   have hO6:=hO5.bel hb6
   have hg6:=zS hg2 (zo (hb5.trans hb6) (Sl.v s).ownBlock)
   refine ⟨λh=>(nomatch h),λ_=>⟨λhc=>?_,λhc=>?_⟩⟩
   ·refine H i g w6 (by omega) (by omega) hsg (λq h1 h2=>?_) hO6 hg6
    rw [← hga]
    by_cases hq:q=a
    ·rw [hq];exact O.refl _
    ·have:=hptj.lo q (by omega) h2
     unfold Le;simpa using this
   ·have hij:i<j:=by
     rcases Nat.lt_or_ge i j with h1|h1
     ·exact h1
     ·obtain rfl:i=j:=by omega
      have h2:=hlti (by omega)
      have h3:=hltj (zU _)
      rw [h2] at h3;cases h3
    refine Y2 zq hO6 (i':=i) (j':=j) rfl rfl (by omega) (by omega) λw7 hO7 hg7=>?_
    unfold xR
    rw [wr64 (n:=(i:Int)+1) (by omega) (by omega),wr64 (n:=(j:Int) - 1) (by omega) (by omega),← hKl2]
    exact ⟨⟨i+1,j - 1,_,by omega,by omega,by omega,by omega,by omega,by omega,.step i j (by omega) (by omega) (by omega) (by omega) hsg,by rw [zDM g (by omega) (by omega)];exact hga,
     hptj.swap (by omega) hij (by simp [hlti (by omega)]) (by simp [hltj (by omega)]),hO7,zS hg6 hg7⟩,by omega⟩
  refine ⟨λhc=>?_,λhc=>stop (λh=>by omega)⟩
  refine yJ zq hO5 (i':=a) rfl (by omega) ?_
  refine yJ zq hO5 (i':=j) rfl (by omega) ?_
  obtain ⟨r,hr,hl⟩:=hcmp w5 (g a) (g j)
  refine ⟨r,hr,?_⟩
  rw [ZR hl]
  cases hlt:lt (g a) (g j) with
  |false=>exact stop (λ_=>hlt)
  |true=>
   intro w6 hb6
   refine ⟨λ_=>?_,λh=>(nomatch h)⟩
   rw [wr64 (n:=(j:Int) - 1) (by omega) (by omega),← hKl5]
   exact ⟨⟨j - 1,by omega,by omega,by omega,by omega,hptj.decr (by simp [hlt]),hb5.trans hb6⟩,by omega⟩
 refine ⟨λhc=>?_,λhc=>down w3 (Bel.refl _) (λh=>by omega)⟩
 refine yJ zq hO3 (i':=a) rfl (by omega) ?_
 refine yJ zq hO3 (i':=i) rfl (by omega) ?_
 obtain ⟨r,hr,hl⟩:=hcmp w3 (g a) (g i)
 refine ⟨r,hr,?_⟩
 rw [ZR hl]
 cases hlt:lt (g a) (g i) with
 |true=>exact down w3 (Bel.refl _) (λ_=>hlt)
 |false=>
  intro w4 hb4
  refine ⟨λ_=>?_,λh=>(nomatch h)⟩
  rw [wr64 (n:=(i:Int)+1) (by omega) (by omega),← hKl3]
  exact ⟨⟨i+1,by omega,by omega,by omega,hpt.incr (by simp [hlt]),hb3.trans hb4⟩,by omega⟩
theorem zJ7 (hO:Ow base w s (tab f L)) {a b p:Nat} (hA:a<=p) (hp:p<b) (hb:b<=L) {k:Int->Bool->World->Prop}
  (H:∀ (m:Nat) (r:Bool) g w',a<=m->m<b->Seg a b f g->zGd lt a b m g->Ow base w' s (tab g L)->w.grownBy w' (Sl.v s).ownBlock->k m r w'):
  Cl zA zEt [Sl.v s,.int .i64 (a:Int),.int .i64 (b:Int),.int .i64 (p:Int),cmp].toArray w (λe w'=>∃ (r0:Int) (r1:Bool),e=.returned (.tuple [.int .i64 r0,.bool r1].toArray)/\k r0 r1 w'):=by
 refine zEy s a b p cmp w k ?_
 have hlen:=hO.len;have hsm:=hO.small
 rw [xP] at hlen
 unfold zAl
 refine Y2 zq hO (i':=a) (j':=p) rfl rfl (by omega) (by omega) λw1 hO1 hg1=>?_
 have hs1:Seg a b f (swp f a p):=Seg.one f (by omega) (by omega) (by omega) (by omega)
 generalize (swp f a p)=f1 at hO1 hs1
 unfold Q1
 rw [wr64 (n:=(a:Int)+1) (by omega) (by omega)]
 have hbm:zC .i64 ((b:Int) - 1)=((b - 1:Nat):Int):=by rw [wr64 (by omega) (by omega)];omega
 have main:∀ (i0 j0:Nat) (g0:Nat->zJ) (w0:World),a<i0->a<=j0->i0<=j0+1->j0<b->Seg a b f g0->Pt (λq z=>lt z q) a b i0 j0 g0->Ow base w0 s (tab g0 L)->w.grownBy w0 (Sl.v s).ownBlock->
   ∃ (I:Int->Int->World->Prop) (μ:Int->Int->World->Nat),I (i0:Int) (j0:Int) w0/\∀ (x12_1:Int) (x13_1:Int) w,I x12_1 x13_1 w->Qk s a cmp k x12_1 x13_1 w (λx12_1' x13_1' w'=>I x12_1' x13_1' w'/\μ x12_1' x13_1' w'<μ x12_1 x13_1 w):=by
  intro i0 j0 g0 w0 h1 h2 h3 h4 h5 h6 h7 h8
  refine ⟨λx y w2=>∃ (i j:Nat) (g:Nat->zJ),x=(i:Int)/\y=(j:Int)/\a<i/\a<=j/\i<=j+1/\j<b/\Seg a b f g/\Pt (λq z=>lt z q) a b i j g/\Ow base w2 s (tab g L)/\w.grownBy w2 (Sl.v s).ownBlock,λx y _=>(y+1 - x).toNat,⟨i0,j0,g0,rfl,rfl,h1,h2,h3,h4,h5,h6,h7,h8⟩,?_⟩
  rintro x y w2 ⟨i0,j0,g,rfl,rfl,hi0,hj0,hij0,hjb,hsg,hpt0,hO2,hg2⟩
  unfold Qk
  generalize hKl8:(λ(x12' x13':Int) (w':World)=>(∃ (i j:Nat) (g:Nat->zJ),x12'=(i:Int)/\x13'=(j:Int)/\a<i/\a<=j/\i<=j+1/\j<b/\Seg a b f g/\Pt (λq z=>lt z q) a b i j g/\Ow base w' s (tab g L)/\w.grownBy w' (Sl.v s).ownBlock)/\(x13'+1 - x12').toNat<((j0:Int)+1 - (i0:Int)).toNat)=Kl8
  refine ⟨λx w3=>∃ i:Nat,x=(i:Int)/\i0<=i/\i<=j0+1/\Pt (λq z=>lt z q) a b i j0 g/\Bel w2 w3,λx _=>(j0+1 - x).toNat,⟨i0,rfl,zU _,hij0,hpt0,Bel.refl _⟩,?_⟩
  rintro x w3 ⟨i,rfl,hi1,hi2,hpt,hb3⟩
  have hO3:=hO2.bel hb3
  unfold Yz
  generalize hKl9:(λ(x12_2':Int) (w':World)=>(∃ i:Nat,x12_2'=(i:Int)/\i0<=i/\i<=j0+1/\Pt (λq z=>lt z q) a b i j0 g/\Bel w2 w')/\(j0+1 - x12_2').toNat<((j0:Int)+1 - (i:Int)).toNat)=Kl9
  have down:(i<=j0->lt (g i) (g a)=false)->Qm s a cmp k (j0:Int) Kl8 (i:Int) Kl9 false w3:=by
   intro hlti w4 hb4
   refine ⟨λh=>(nomatch h),λ_=>?_⟩
   refine ⟨λy w5=>∃ j:Nat,y=(j:Int)/\a<=j/\i<=j+1/\j<=j0/\Pt (λq z=>lt z q) a b i j g/\Bel w2 w5,λy _=>y.toNat,⟨j0,rfl,hj0,hi2,zU _,hpt,hb3.trans hb4⟩,?_⟩
   rintro y w5 ⟨j,rfl,hj1,hj2,hj3,hptj,hb5⟩
   have hO5:=hO2.bel hb5
   unfold Yr
   generalize hKl11:(λ(x13_2':Int) (w':World)=>(∃ j:Nat,x13_2'=(j:Int)/\a<=j/\i<=j+1/\j<=j0/\Pt (λq z=>lt z q) a b i j g/\Bel w2 w')/\x13_2'.toNat<((j:Int)).toNat)=Kl11
   have stop:(i<=j->lt (g j) (g a)=true)->Qf s a k Kl8 (i:Int) (j:Int) Kl11 false w5:=by
    intro hltj w6 hb6
    have hO6:=hO5.bel hb6
    have hg6:=zS hg2 (zo (hb5.trans hb6) (Sl.v s).ownBlock)
    refine ⟨λh=>(nomatch h),λ_=>⟨λhc=>?_,λhc=>?_⟩⟩
    ·refine Y2 zq hO6 (i':=j) (j':=a) rfl rfl (by omega) (by omega) λw7 hO7 hg7=>?_
     unfold Qd
     exact H j false _ w7 hj1 (by omega) (.step j a (by omega) (by omega) (by omega) (by omega) hsg) (hptj.done O hj1 (by omega)) hO7 (zS hg6 hg7)
    ·have hij:i<j:=by
      rcases Nat.lt_or_ge i j with h1|h1
      ·exact h1
      ·obtain rfl:i=j:=by omega
       have h2:=hlti (by omega)
       have h3:=hltj (zU _)
       rw [h2] at h3;cases h3
     refine Y2 zq hO6 (i':=i) (j':=j) rfl rfl (by omega) (by omega) λw7 hO7 hg7=>?_
     unfold Qj
     rw [wr64 (n:=(i:Int)+1) (by omega) (by omega),wr64 (n:=(j:Int) - 1) (by omega) (by omega),← hKl8]
     exact ⟨⟨i+1,j - 1,_,by omega,by omega,by omega,by omega,by omega,by omega,.step i j (by omega) (by omega) (by omega) (by omega) hsg,
      hptj.swap (by omega) hij (hlti (by omega)) (hltj (by omega)),hO7,zS hg6 hg7⟩,by omega⟩
   refine ⟨λhc=>?_,λhc=>stop (λh=>by omega)⟩
   refine yJ zq hO5 (i':=j) rfl (by omega) ?_
   refine yJ zq hO5 (i':=a) rfl (by omega) ?_
   obtain ⟨r,hr,hl⟩:=hcmp w5 (g j) (g a)
   refine ⟨r,hr,?_⟩
   rw [ZR hl]
   cases hlt:lt (g j) (g a) with
   |true=>exact stop (λ_=>hlt)
   |false=>
    intro w6 hb6
    refine ⟨λ_=>?_,λh=>(nomatch h)⟩
    rw [wr64 (n:=(j:Int) - 1) (by omega) (by omega),← hKl11]
    exact ⟨⟨j - 1,by omega,by omega,by omega,by omega,hptj.decr hlt,hb5.trans hb6⟩,by omega⟩
  refine ⟨λhc=>?_,λhc=>down (λh=>by omega)⟩
  refine yJ zq hO3 (i':=i) rfl (by omega) ?_
  refine yJ zq hO3 (i':=a) rfl (by omega) ?_
  obtain ⟨r,hr,hl⟩:=hcmp w3 (g i) (g a)
  refine ⟨r,hr,?_⟩
  rw [ZR hl]
  cases hlt:lt (g i) (g a) with
  |false=>exact down (λ_=>hlt)
  |true=>
   intro w4 hb4
   refine ⟨λ_=>?_,λh=>(nomatch h)⟩
   rw [wr64 (n:=(i:Int)+1) (by omega) (by omega),← hKl9]
   exact ⟨⟨i+1,by omega,by omega,by omega,hpt.incr hlt,hb3.trans hb4⟩,by omega⟩
 refine ⟨λx w3=>∃ i:Nat,x=(i:Int)/\a<i/\i<=b - 1+1/\Pt (λq z=>lt z q) a b i (b - 1) f1/\Bel w1 w3,λx _=>(b+1 - x).toNat,⟨a+1,by omega,by omega,by omega,Pt.start _ a b f1,Bel.refl _⟩,?_⟩
 rintro x w3 ⟨i,rfl,hi1,hi2,hpt,hb3⟩
 have hO3:=hO1.bel hb3
 unfold Y0
 generalize hKl2:(λ(x12':Int) (w':World)=>(∃ i:Nat,x12'=(i:Int)/\a<i/\i<=b - 1+1/\Pt (λq z=>lt z q) a b i (b - 1) f1/\Bel w1 w')/\(b+1 - x12').toNat<((b:Int)+1 - (i:Int)).toNat)=Kl2
 rw [hbm]
 have down:(i<=b - 1->lt (f1 i) (f1 a)=false)->xL s a b cmp k (i:Int) Kl2 false w3:=by
  intro hlti
  unfold xL
  intro w4 hb4
  refine ⟨λh=>(nomatch h),λ_=>?_⟩
  rw [hbm]
  refine ⟨λy w5=>∃ j:Nat,y=(j:Int)/\a<=j/\i<=j+1/\j<=b - 1/\Pt (λq z=>lt z q) a b i j f1/\Bel w1 w5,λy _=>y.toNat,⟨b - 1,rfl,by omega,hi2,zU _,hpt,hb3.trans hb4⟩,?_⟩
  rintro y w5 ⟨j,rfl,hj1,hj2,hj3,hptj,hb5⟩
  have hO5:=hO1.bel hb5
  unfold Yx
  generalize hKl4:(λ(x13':Int) (w':World)=>(∃ j:Nat,x13'=(j:Int)/\a<=j/\i<=j+1/\j<=b - 1/\Pt (λq z=>lt z q) a b i j f1/\Bel w1 w')/\x13'.toNat<((j:Int)).toNat)=Kl4
  have stop:(i<=j->lt (f1 j) (f1 a)=true)->Qu s a cmp k (i:Int) (j:Int) Kl4 false w5:=by
   intro hltj w6 hb6
   have hO6:=hO5.bel hb6
   have hg6:=zS hg1 (zo (hb5.trans hb6) (Sl.v s).ownBlock)
   refine ⟨λh=>(nomatch h),λ_=>⟨λhc=>?_,λhc=>?_⟩⟩
   ·refine Y2 zq hO6 (i':=j) (j':=a) rfl rfl (by omega) (by omega) λw7 hO7 hg7=>?_
    unfold Q0
    exact H j true _ w7 hj1 (by omega) (.step j a (by omega) (by omega) (by omega) (by omega) hs1) (hptj.done O hj1 (by omega)) hO7 (zS hg6 hg7)
   ·have hij:i<j:=by
     rcases Nat.lt_or_ge i j with h1|h1
     ·exact h1
     ·obtain rfl:i=j:=by omega
      have h2:=hlti (by omega)
      have h3:=hltj (zU _)
      rw [h2] at h3;cases h3
    refine Y2 zq hO6 (i':=i) (j':=j) rfl rfl (by omega) (by omega) λw7 hO7 hg7=>?_
    unfold Qw
    rw [wr64 (n:=(i:Int)+1) (by omega) (by omega),wr64 (n:=(j:Int) - 1) (by omega) (by omega),show (i:Int)+1=((i+1:Nat):Int) by omega,show (j:Int) - 1=((j - 1:Nat):Int) by omega]
    exact main (i+1) (j - 1) _ w7 (by omega) (by omega) (by omega) (by omega) (.step i j (by omega) (by omega) (by omega) (by omega) hs1) (hptj.swap (by omega) hij (hlti (by omega)) (hltj (by omega))) hO7 (zS hg6 hg7)
  refine ⟨λhc=>?_,λhc=>stop (λh=>by omega)⟩
  refine yJ zq hO5 (i':=j) rfl (by omega) ?_
  refine yJ zq hO5 (i':=a) rfl (by omega) ?_
  obtain ⟨r,hr,hl⟩:=hcmp w5 (f1 j) (f1 a)
  refine ⟨r,hr,?_⟩
  rw [ZR hl]
  cases hlt:lt (f1 j) (f1 a) with
  |true=>exact stop (λ_=>hlt)
  |false=>
   intro w6 hb6
   refine ⟨λ_=>?_,λh=>(nomatch h)⟩
   rw [wr64 (n:=(j:Int) - 1) (by omega) (by omega),← hKl4]
   exact ⟨⟨j - 1,by omega,by omega,by omega,by omega,hptj.decr hlt,hb5.trans hb6⟩,by omega⟩
 refine ⟨λhc=>?_,λhc=>down (λh=>by omega)⟩
 refine yJ zq hO3 (i':=i) rfl (by omega) ?_
 refine yJ zq hO3 (i':=a) rfl (by omega) ?_
 obtain ⟨r,hr,hl⟩:=hcmp w3 (f1 i) (f1 a)
 refine ⟨r,hr,?_⟩
 rw [ZR hl]
 cases hlt:lt (f1 i) (f1 a) with
 |false=>exact down (λ_=>hlt)
 |true=>
  intro w4 hb4
  refine ⟨λ_=>?_,λh=>(nomatch h)⟩
  rw [wr64 (n:=(i:Int)+1) (by omega) (by omega),← hKl2]
  exact ⟨⟨i+1,by omega,by omega,by omega,hpt.incr hlt,hb3.trans hb4⟩,by omega⟩
end
end SoCmpFunc_api_Write
end Go.Proofs.YtealcoghiaeiiaaGreat.VG
set_option linter.unusedVariables false
namespace Go.Proofs.YtealcoghiaeiiaaGreat.VG
open Go.VB Go.VB.Srt Go.Proofs
namespace SoCmpFunc_api_Write
section
variable {cmp:Value} {lt:zJ->zJ->Bool} (O:SWO lt) (hcmp:Cmps cmp lt) {base:Nat}
include O hcmp
theorem zI5:∀ (n:Nat) {w:World} {s:Sl} {L:Nat} {f:Nat->zJ} (hO:Ow base w s (tab f L)) {a b:Nat} (hab:a<=b) (hn:b - a<=n) (hb:b<=L) (hpre:Pre lt a b f) (lim:Int) {k:World->Prop}
  (H:∀ g w',Seg a b f g->yL lt a b g->Ow base w' s (tab g L)->w.grownBy w' (Sl.v s).ownBlock->k w'),
  Cl zA zFV [Sl.v s,.int .i64 (a:Int),.int .i64 (b:Int),.int .i64 lim,cmp].toArray w (λe w'=>e=.returned (.tuple [].toArray)/\k w'):=by
 intro n
 induction n with
 |zero=>
  intro w s L f hO a b hab hn hb hpre lim k H
  refine zCG s a b lim cmp w k ?_
  have hlen:=hO.len;have hsm:=hO.small
  rw [xP] at hlen
  unfold Zj
  refine ⟨λx y _ _ _ w1=>x=(a:Int)/\y=(b:Int)/\w1=w,λ_ _ _ _ _ _=>0,⟨rfl,rfl,rfl⟩,?_⟩
  rintro x y z p q w1 ⟨rfl,rfl,rfl⟩
  unfold YI
  rw [wr64 (n:=(b:Int) - a) (by omega) (by omega)]
  refine ⟨λ_=>?_,λh=>by omega⟩
  exact zCl O hcmp hO hab hb H
 |succ n ih=>
  intro w s L f hO a b hab hn hb hpre lim k H
  refine zCG s a b lim cmp w k ?_
  have hlen:=hO.len;have hsm:=hO.small
  rw [xP] at hlen
  unfold Zj
  refine ⟨λx y _ _ _ w1=>∃ (a1 b1:Nat) (g:Nat->zJ),x=(a1:Int)/\y=(b1:Int)/\a1<=b1/\Inv lt a b a1 b1 f g/\Ow base w1 s (tab g L)/\w.grownBy w1 (Sl.v s).ownBlock,λx y _ _ _ _=>(y - x).toNat,⟨a,b,f,rfl,rfl,hab,Inv.start a b f,hO,World.grownBy.refl _ _⟩,?_⟩
  rintro x y z p q w1 ⟨a1,b1,g,rfl,rfl,hab1,hinv,hO1,hg1⟩
  have hA:=hinv.ha;have hB:=hinv.hb
  unfold YI
  generalize hKl:(λ(x1_1' x2_1' x3_1':Int) (x10' x11':Bool) (w':World)=>(∃ (a1 b1:Nat) (g:Nat->zJ),x1_1'=(a1:Int)/\x2_1'=(b1:Int)/\a1<=b1/\Inv lt a b a1 b1 f g/\Ow base w' s (tab g L)/\w.grownBy w' (Sl.v s).ownBlock)/\(x2_1' - x1_1').toNat<((b1:Int) - (a1:Int)).toNat)=Kl
  have hwn:zC .i64 ((b1:Int) - a1)=(b1:Int) - a1:=wr64 (by omega) (by omega)
  rw [hwn]
  have fin:∀ (h:Nat->zJ) (w2:World),Seg a1 b1 g h->yL lt a1 b1 h->Ow base w2 s (tab h L)->w1.grownBy w2 (Sl.v s).ownBlock->k w2:=λh w2 h1 h2 h3 h4=>
   H h w2 (hinv.turn h1).seg ((hinv.turn h1).fin h2) h3 (zS hg1 h4)
  refine ⟨λ_=>zCl O hcmp hO1 hab1 (by omega) fin,λhc=>⟨λ_=>zKK O hcmp hO1 hab1 (by omega) fin,λ_=>?_⟩⟩
  have hlt:a1<b1:=by omega
  have j4:∀ (h:Nat->zJ) (w2:World) (lim:Int) (v:Nat),Seg a1 b1 g h->Ow base w2 s (tab h L)->w1.grownBy w2 (Sl.v s).ownBlock->a1<=v->v<b1->QA s cmp (a1:Int) (b1:Int) p q Kl lim (v:Int) w2:=by
   intro h w2 lim v hs2 hO2 hg2 hv1 hv2
   have hinv2:=hinv.turn hs2
   have hg02:=zS hg1 hg2
   have away:∀ w3,Bel w2 w3->YW s cmp (a1:Int) (b1:Int) p q Kl lim (v:Int) false w2:=by
    intro w3' hb3'
    intro w3 hb3
    refine ⟨λh=>(nomatch h),λ_=>?_⟩
    have hg03:=zS hg02 (zo hb3 (Sl.v s).ownBlock)
    refine zJ7 O hcmp (hO2.bel hb3) hv1 hv2 (by omega) λm r h4 w4 hm1 hm2 hs4 hpk hO4 hg4=>?_
    have hinv4:=hinv2.turn hs4
    have hg04:=zS hg03 hg4
    refine zE9 (by decide) (by rw [hwn,Int.tdiv_eq_ediv_of_nonneg (by omega)];omega) (by rw [hwn,Int.tdiv_eq_ediv_of_nonneg (by omega)];omega) ?_
    rw [wr64 (n:=(m:Int) - a1) (by omega) (by omega),wr64 (n:=(b1:Int) - m) (by omega) (by omega),wr64 (n:=(m:Int)+1) (by omega) (by omega),show (m:Int)+1=((m+1:Nat):Int) by omega]
    refine ⟨λ_=>?_,λ_=>?_⟩
    ·refine ih hO4 hm1 (by omega) (by omega) (a:=a1) (b:=m) (by
      rcases hinv4.pre hpre with h5|h5
      ·exact .inl h5
      ·exact .inr λk h6 h7=>h5 k h6 (by omega)) lim λh5 w5 hs5 hso5 hO5 hg5=>?_
     have hs5':Seg a1 b1 h4 h5:=hs5.mono (zU _) (by omega)
     rw [← hKl]
     exact ⟨⟨m+1,b1,h5,rfl,rfl,by omega,(hinv4.turn hs5').goRight hm1 hm2 O (hpk.left hs5) hso5,hO5,zS hg04 hg5⟩,by omega⟩
    ·refine ih hO4 (a:=m+1) (b:=b1) (by omega) (by omega) (by omega) (.inr λk h6 h7=>hpk.hi k (by omega) h7) lim λh5 w5 hs5 hso5 hO5 hg5=>?_
     have hs5':Seg a1 b1 h4 h5:=hs5.mono (by omega) (zU _)
     rw [← hKl]
     exact ⟨⟨a1,m,h5,rfl,rfl,hm1,(hinv4.turn hs5').goLeft hm1 hm2 O (hpk.right hs5) hso5,hO5,zS hg04 hg5⟩,by omega⟩
   unfold QA
   refine ⟨λha0=>?_,λ_=>away w2 (Bel.refl _)⟩
   refine yJ zq hO2 (i':=a1 - 1) (by rw [wr64 (by omega) (by omega)];omega) (by omega) ?_
   refine yJ zq hO2 (i':=v) rfl (by omega) ?_
   obtain ⟨r,hr,hl⟩:=hcmp w2 (h (a1 - 1)) (h v)
   refine ⟨r,hr,?_⟩
   rw [ZR hl]
   cases hlv:lt (h (a1 - 1)) (h v) with
   |true=>exact away w2 (Bel.refl _)
   |false=>
    intro w3 hb3
    refine ⟨λ_=>?_,λh=>(nomatch h)⟩
    have hg03:=zS hg02 (zo hb3 (Sl.v s).ownBlock)
    refine zIi O hcmp (hO2.bel hb3) hv1 hv2 (by omega) λm h4 w4 hm1 hm2 hs4 heq hO4 hg4=>?_
    have hinv4:=hinv2.turn hs4
    rw [← hKl]
    have hpre4:=hinv4.pre hpre
    refine ⟨⟨m,b1,h4,rfl,rfl,hm2,hinv4.goEqual (by omega) hm2 O (v:=h4 (a1 - 1)) (λq h1 h2=>?_) (λq h1 h2=>?_),hO4,zS hg03 hg4⟩,by omega⟩
    ·rw [hs4.out (a1 - 1) (.inl (by omega))]
     exact O.trans (heq q h1 h2) hlv
    ·rcases hpre4 with h5|h5
     ·omega
     ·exact h5 q h1 h2
  have j3:∀ (h:Nat->zJ) (w2:World) (lim hint:Int) (v:Nat),Seg a1 b1 g h->Ow base w2 s (tab h L)->w1.grownBy w2 (Sl.v s).ownBlock->a1<=v->v<b1->xz s cmp k (a1:Int) (b1:Int) p q Kl lim (v:Int) hint w2:=by
   intro h w2 lim hint v hs2 hO2 hg2 hv1 hv2
   have r7f:xw s cmp k (a1:Int) (b1:Int) p q Kl lim (v:Int) false w2:=⟨λh=>(nomatch h),λ_=>j4 h w2 lim v hs2 hO2 hg2 hv1 hv2⟩
   have r7t:xw s cmp k (a1:Int) (b1:Int) p q Kl lim (v:Int) true w2:=by
    refine ⟨λ_=>?_,λh=>(nomatch h)⟩
    refine zG2 O hcmp hO2 hlt (by omega) ((hinv.turn hs2).pre hpre) λr h3 w3 hs3 hso3 hO3 hg3=>?_
    exact ⟨λht=>fin h3 w3 (hs2.trans hs3) (hso3 ht) hO3 (zS hg2 hg3),λ_=>j4 h3 w3 lim v (hs2.trans hs3) hO3 (zS hg2 hg3) hv1 hv2⟩
   have r6:∀ c:Bool,YS s cmp k (a1:Int) (b1:Int) p q Kl lim (v:Int) hint c w2:=by
    intro c
    refine ⟨λ_=>?_,λ_=>r7f⟩
    by_cases hh:hint=1
    ·rw [decide_eq_true hh];exact r7t
    ·rw [decide_eq_false hh];exact r7f
   unfold xz
   exact ⟨λ_=>r6 q,λ_=>r6 false⟩
  have j2:∀ (h:Nat->zJ) (w2:World) (lim:Int),Seg a1 b1 g h->Ow base w2 s (tab h L)->w1.grownBy w2 (Sl.v s).ownBlock->xx s cmp k (a1:Int) (b1:Int) p q Kl lim w2:=by
   intro h w2 lim hs2 hO2 hg2
   unfold xx
   refine zIY hcmp hO2 hlt (by omega) λv hint w3 hv1 hv2 hb3=>?_
   have hg3:=zS hg2 (zo hb3 (Sl.v s).ownBlock)
   refine ⟨λ_=>?_,λ_=>j3 h w3 lim hint v hs2 (hO2.bel hb3) hg3 hv1 hv2⟩
   refine zHD (hO2.bel hb3) hab1 (by omega) λh4 w4 hs4 hO4 hg4=>?_
   rw [wr64 (n:=(b1:Int) - 1) (by omega) (by omega),wr64 (n:=(v:Int) - a1) (by omega) (by omega),wr64 (by omega) (by omega),show (b1:Int) - 1 - (v - a1)=((b1 - 1 - (v - a1):Nat):Int) by omega]
   exact j3 h4 w4 lim 1 _ (hs2.trans hs4) hO4 (zS hg3 hg4) (by omega) (by omega)
  refine ⟨λ_=>?_,λ_=>j2 g w1 _ (.refl g) hO1 (World.grownBy.refl _ _)⟩
  exact zI4 (w0:=w) hO1 hab1 (by omega) λh w2 hs2 hO2 hg2=>j2 h w2 _ hs2 hO2 hg2
theorem sort_ok {w:World} {s:Sl} {xs:List zJ} (hO:Ow base w s xs) {k:World->Prop}
  (H:∀ ys w',ys.Perm xs->ys.Pairwise (λx y=>Le lt x y)->Ow base w' s ys->w.grownBy w' (Sl.v s).ownBlock->k w'):
  Cl zA zET [Sl.v s,cmp].toArray w (λe w'=>e=.returned (.tuple [].toArray)/\k w'):=by
 refine zEW s cmp w k ?_
 have hlen:=hO.len;have hsm:=hO.small
 unfold zAL
 refine zFr (by kernel_rfl) (by kernel_rfl) ?_
 rw [zIE (by omega) (by omega)]
 refine zMm (by omega) λr hr=>?_
 cases xs with
 |nil=>
  have hl0:s.len=0:=by simpa using hlen.symm
  rw [hl0]
  refine zI5 O hcmp 0 (f:=λ_=>⟨ByteArray.mk #[],ByteArray.mk #[],false⟩) (L:=0) (a:=0) (b:=0) hO (zU _) (zU _) (zU _) (.inl rfl) _ λg w' _ _ hO' hg=>?_
  exact H [] w' (.refl _) .nil hO' hg
 |cons x0 xs=>
  obtain ⟨f,hf⟩:∃ f:Nat->zJ,f=λi=>((x0::xs)[i]?).getD x0:=⟨_,rfl⟩
  have htab:tab f (x0::xs).length=x0::xs:=zOE _ f λi y hy=>by rw [hf];simp only [hy,Option.getD_some]
  rw [← htab] at hO
  have hL:s.len=(x0::xs).length:=hlen.symm
  rw [hL]
  refine zI5 O hcmp (x0::xs).length hO (a:=0) (Nat.zero_le _) (by omega) (zU _) (.inl rfl) _ λg w' hsg hso hO' hg=>?_
  refine H (tab g (x0::xs).length) w' ?_ ?_ hO' hg
  ·have:=hsg.perm (zU _)
   rw [htab] at this;exact this
  ·rw [List.pairwise_iff_getElem]
   intro i j hi hj hij
   rw [xP] at hi hj
   have e1:=zFK g hi
   have e2:=zFK g hj
   have:=hso i j (Nat.zero_le _) hij hj
   rw [List.getElem?_eq_getElem (by rw [xP];exact hi)] at e1
   rw [List.getElem?_eq_getElem (by rw [xP];exact hj)] at e2
   rw [Option.some.inj e1,Option.some.inj e2]
   exact this
end
end SoCmpFunc_api_Write
end Go.Proofs.YtealcoghiaeiiaaGreat.VG
set_option linter.unusedVariables false
set_option linter.unusedSimpArgs false
namespace Go.VB
open Go.RowKit
structure zSf {κ ν:Type} (ek:κ->Value) (ev:ν->Value) (w:World) (b r:Nat) (f:κ->Option ν) (ks:List κ) (es:Array MapEntry) (c:Nat) (sb:Array Nat):Prop where
 map:zGn ek ev w b f es c
 blk:w.heap[r]?=some (.mapIter (some b) c sb c)
 seen:∀ (i:Nat) (e:MapEntry) (k:κ),es[i]?=some e->e.key=ek k->(sb.contains e.born=true↔k∈ks)
 nd:ks.Nodup
 dom:∀ k∈ks,∃ v,f k=some v
 len:sb.size=ks.length
 last:∀ k,ks.getLast?=some k->∃ (i:Nat) (e:MapEntry),es[i]?=some e/\e.key=ek k/\sb.back?=some e.born
def zBM {κ ν:Type} (ek:κ->Value) (ev:ν->Value) (w:World) (b r:Nat) (f:κ->Option ν) (ks:List κ):Prop:=∃ es c sb,zSf ek ev w b r f ks es c sb
def zH6 (w:World) (r:Nat):Nat:=match w.heap[r]? with
 |some (.mapIter _ _ sb _)=>sb.size
 |_=>0
section
variable {κ ν:Type} {ek:κ->Value} {ev:ν->Value} {P:Program} {kt et mt:TypeId} {w:World} {b r:Nat} {f:κ->Option ν} {ks:List κ}
theorem zBM.grown {w':World} {row:Option Nat} (h:zBM ek ev w b r f ks) (hg:w.grownBy w' row) (hb:row≠some b) (hr:row≠some r):zBM ek ev w' b r f ks:=
 let ⟨es,c,sb,m⟩:=h
 ⟨es,c,sb,⟨(hg.block b (Array.getElem?_eq_some_iff.1 m.map.blk).1 (λe=>hb e.symm)).trans m.map.blk,m.map.sound,m.map.full,m.map.one⟩,(hg.block r (Array.getElem?_eq_some_iff.1 m.blk).1 (λe=>hr e.symm)).trans m.blk,m.seen,m.nd,m.dom,m.len,m.last⟩
theorem zBM.bel {w':World} (h:zBM ek ev w b r f ks) (hb:Bel w w'):zBM ek ev w' b r f ks:=
 let ⟨es,c,sb,m⟩:=h
 ⟨es,c,sb,⟨hb.blk m.map.blk,m.map.sound,m.map.full,m.map.one⟩,hb.blk m.blk,m.seen,m.nd,m.dom,m.len,m.last⟩
theorem zBM.size (h:zBM ek ev w b r f ks):zH6 w r=ks.length:=by
 obtain ⟨es,c,sb,m⟩:=h
 unfold zH6;rw [m.blk];exact m.len
theorem zBM.nd (h:zBM ek ev w b r f ks):ks.Nodup:=let ⟨_,_,_,m⟩:=h;m.nd
theorem zBM.dom (h:zBM ek ev w b r f ks):∀ k∈ks,∃ v,f k=some v:=let ⟨_,_,_,m⟩:=h;m.dom
theorem zBM.blk (h:zBM ek ev w b r f ks):∃ c sb,w.heap[r]?=some (.mapIter (some b) c sb c):=let ⟨_,c,sb,m⟩:=h;⟨c,sb,m.blk⟩
theorem zBM.mapLt (h:zBM ek ev w b r f ks):∃ es c,w.heap[b]?=some (.map es c):=let ⟨es,c,sb,m⟩:=h;⟨es,c,m.map.blk⟩
theorem zBM.keep {w':World} (h:zBM ek ev w b r f ks) (hb:w'.heap[b]?=w.heap[b]?) (hr:w'.heap[r]?=w.heap[r]?):zBM ek ev w' b r f ks:=
 let ⟨es,c,sb,m⟩:=h
 ⟨es,c,sb,⟨hb.trans m.map.blk,m.map.sound,m.map.full,m.map.one⟩,hr.trans m.blk,m.seen,m.nd,m.dom,m.len,m.last⟩
theorem zQ9 (h:zAD ek ev w b f) (hm:P.underlying mt=some (.map kt et)) {k:Option Addr->World->Prop}
  (H:∀ w',zBM ek ev w' b w.heap.size f []->Bel w w'->k (some ⟨w.heap.size,0,none⟩) w'):opE P zB (Instr.range mt (.map (some b))) w k:=by
 obtain ⟨es,c,m⟩:=h
 refine ⟨_,w.alloc (.mapIter (some b) c #[] c),?_,H _ ⟨es,c,#[],⟨(Bel.alloc w _).blk m.blk,m.sound,m.full,m.one⟩,zKC w _,?_,List.nodup_nil,by simp,by simp,by simp⟩ (Bel.alloc w _)⟩
 ·simp [Instr.range,run_underlying hm,MapKept.run_getObj_map m.blk,Result.andThen]
 ·intro i e k _ _;simp
theorem zN4 (h:zBM ek ev w b r f ks) (hne:b≠r) (hinj:∀ x y,ek x=ek y->x=y) {ty:TypeId} {k:Option (Value × Value)->World->Prop}
  (h0:(∀ x v,f x=some v->x∈ks)->k none w)
  (h1:∀ x v w',f x=some v->x∉ks->zBM ek ev w' b r f (ks++[x])->w.grownBy w' (some r)->k (some (ek x,ev v)) w'):
  opE P (zKx id id) (Instr.next (.pointer (some ⟨r,0,none⟩)) false ty) w k:=by
 obtain ⟨es,c,sb,m⟩:=h
 have hold:∀ x∈es.toList,x.born<c:=λe he=>by
  obtain ⟨i,hi⟩:=List.getElem?_of_mem he
  obtain ⟨_,_,_,_,_,h4⟩:=m.map.sound i e (by simpa using hi)
  exact h4
 rcases run_next_at (P:=P) w ty r b c c sb es c m.blk m.map.blk hold (zU _) with ⟨hl,hr⟩|⟨e,he,w1,hw1,hr⟩
 ·refine ⟨none,w,hr,h0 λx v hx=>?_⟩
  obtain ⟨i,e,h2,h3,h4⟩:=m.map.full x v hx
  refine (m.seen i e x h2 h3).1 ?_
  have hem:e∈es:=Array.mem_of_getElem? h2
  have hE:leftOf es sb=#[]:=Array.size_eq_zero_iff.1 hl
  unfold leftOf at hE
  rw [Array.filter_eq_empty_iff] at hE
  simpa using hE e hem
 ·have hmem:e∈es/\sb.contains e.born=false:=by
   unfold leftOf at he
   simpa using he
  obtain ⟨i,hi⟩:=Array.getElem?_of_mem hmem.1
  obtain ⟨x,v,h2,h3,h4,h5⟩:=m.map.sound i e hi
  have hw:w.grownBy w1 none:=by
   rcases hw1 with rfl|rfl
   ·exact World.grownBy.refl _ _
   ·exact ⟨rfl,rfl,rfl,zU _,λ_ _ _=>rfl⟩
  have hr1:w1.heap[r]?=some (.mapIter (some b) c sb c):=(hw.block r (Array.getElem?_eq_some_iff.1 m.blk).1 (by simp)).trans m.blk
  have hg:w.grownBy (setB w1 r (.mapIter (some b) c (sb.push e.born) c)) (some r):=by
   have:=zEK (w:=w1) (b:=r) (o:=.mapIter (some b) c (sb.push e.born) c)
   rcases hw1 with rfl|rfl<;>exact ⟨this.1,this.2,this.3,this.4,this.5⟩
  have hx:x∉ks:=λhk=>by
   have:=(m.seen i e x hi h2).2 hk
   rw [hmem.2] at this;cases this
  refine ⟨some (ek x,ev v),_,?_,h1 x v _ h4 hx ⟨es,c,sb.push e.born,?_⟩ hg⟩
  ·rw [hr,h2,h3];rfl
  ·refine ⟨⟨(hg.block b (Array.getElem?_eq_some_iff.1 m.map.blk).1 (by simpa using hne)).trans m.map.blk,m.map.sound,m.map.full,m.map.one⟩,zFi hr1,λj e' y hj hy=>?_,?_,?_,by simp [m.len],?_⟩
   ·rw [Array.contains_push,Bool.or_eq_true,List.mem_append,m.seen j e' y hj hy]
    refine or_congr Iff.rfl ?_
    simp only [beq_iff_eq,List.mem_singleton]
    constructor
    ·intro hb
     have:=m.map.one i j e e' hi hj (.inr hb.symm)
     subst this
     rw [hi] at hj;cases hj
     exact hinj _ _ (hy.symm.trans h2)
    ·rintro rfl
     have:=m.map.one i j e e' hi hj (.inl (h2.trans hy.symm))
     subst this
     rw [hi] at hj;cases hj;rfl
   ·rw [List.nodup_append]
    exact ⟨m.nd,by simp,λa ha y hy=>by rw [List.mem_singleton] at hy;subst hy;exact λe=>hx (e ▸ ha)⟩
   ·intro y hy
    rcases List.mem_append.1 hy with hy|hy
    ·exact m.dom y hy
    ·rw [List.mem_singleton] at hy;subst hy;exact ⟨v,h4⟩
   ·intro y hy
    rw [List.getLast?_append] at hy
    simp at hy;subst hy
    exact ⟨i,e,hi,h2,by simp⟩
theorem zIp {x:κ} {v:ν} (h:zBM ek ev w b r f (ks++[x])) (hv:f x=some v) (hinj:∀ x y,ek x=ek y->x=y) {k:Value × Value->World->Prop} (H:k (ek x,ev v) w):
  opE P (λp:Value × Value=>.tuple [p.1,p.2].toArray) (Instr.entry (.pointer (some ⟨r,0,none⟩))) w k:=by
 obtain ⟨es,c,sb,m⟩:=h
 obtain ⟨i,e,hi,hk,hl⟩:=m.last x (by simp)
 obtain ⟨y,u,h2,h3,h4,h5⟩:=m.map.sound i e hi
 obtain rfl:y=x:=hinj _ _ (h2.symm.trans hk)
 rw [hv] at h4;cases h4
 have hf:es.find? (·.born==e.born)=some e:=by
  have hex:(es.find? (·.born==e.born)).isSome:=by
   rw [Array.find?_isSome];exact ⟨e,Array.mem_of_getElem? hi,by simp⟩
  obtain ⟨e',he'⟩:=Option.isSome_iff_exists.1 hex
  have hb:e'.born=e.born:=by simpa using Array.find?_some he'
  obtain ⟨j,hj⟩:=Array.getElem?_of_mem (Array.mem_of_find?_eq_some he')
  have:=m.map.one j i e' e hj hi (.inr hb)
  subst this
  rw [hi] at hj;cases hj
  exact he'
 refine ⟨(ek y,ev v),w,?_,H⟩
 simp [Instr.entry,getObj,Sem.run_bind,Sem.run,m.blk,m.map.blk,hl,hf,h2,h3,Result.andThen]
end
end Go.VB
set_option linter.unusedVariables false
namespace Go.VB
open Go.RowKit Go.Proofs
theorem zK3 {x y:ByteArray}:sLt x y=true↔x.data.toList<y.data.toList:=by
 unfold sLt;rw [bytesLess_eq,decide_eq_true_eq];rw [ByteArray.toList_eq,ByteArray.toList_eq]
theorem zQJ {x y:ByteArray} (h:x.data.toList=y.data.toList):x=y:=by
 exact ByteArray.ext (Array.toList_inj.1 h)
theorem Z6 (x:ByteArray):¬ sLt x x=true:=by rw [zK3];exact List.lt_irrefl _
theorem zHs {x y z:ByteArray} (h:sLt x y=true) (k:sLt y z=true):sLt x z=true:=by
 rw [zK3] at *;exact List.lt_trans h k
theorem zEe {x y:ByteArray} (h:¬ sLt x y=true) (hn:x≠y):sLt y x=true:=by
 rw [zK3] at*
 have h1:y.data.toList<=x.data.toList:=List.not_lt.1 h
 rcases Classical.em (y.data.toList<x.data.toList) with h2|h2
 ·exact h2
 ·exact absurd (zQJ (List.le_antisymm (List.not_lt.1 h2) h1)) hn
theorem zIB {x y:ByteArray} (h:sLt x y=true):¬ sLt y x=true:=λk=>Z6 x (zHs h k)
theorem zMw {x y:ByteArray} (h:sLt x y=true):x≠y:=λe=>by subst e;exact Z6 _ h
theorem zPA {x y:ByteArray}:(sLt x y||decide (x=y))=true↔¬ sLt y x=true:=by
 constructor
 ·intro h k
  rcases Bool.or_eq_true _ _ ▸ h with h|h
  ·exact zIB h k
  ·have:=of_decide_eq_true h;subst this;exact Z6 _ k
 ·intro h
  by_cases e:x=y
  ·rw [decide_eq_true e,Bool.or_true]
  ·rw [zEe h (λh'=>e h'.symm),Bool.true_or]
theorem zQH (x y:ByteArray):(!(sLt x y||decide (x=y)))=sLt y x:=by
 cases h:sLt y x with
 |true=>
  cases h2:(sLt x y||decide (x=y)) with
  |true=>exact absurd h (zPA.1 h2)
  |false=>rfl
 |false=>rw [zPA.2 (by rw [h];decide)];rfl
theorem Rd.lit {α:Type} {c:α->List Value} {n:Nat} (hc:∀ x,(c x).length=n) (xs:List α) (hl:xs.length<=140737488355328) (w:World) (t:TypeId):
  Rd c n (w.alloc (.cells (xs.flatMap c).toArray t)) ⟨some ⟨w.heap.size,0,none⟩,xs.length,xs.length⟩ xs:=by
 refine ⟨rfl,zU _,by show xs.length<=_;omega,hl,λh=>by simp at h,λi x hx=>⟨_,rfl,λj v hj=>?_⟩⟩
 have hA:At (w.alloc (.cells (xs.flatMap c).toArray t)) ⟨w.heap.size,0,none⟩ (xs.flatMap c):=At.new w _ _
 rw [zGQ]
 refine hA _ _ ?_
 rw [zK1 hc xs i j x hx (by have:=(List.getElem?_eq_some_iff.1 hj).1;rw [hc] at this;exact this),hj]
section
variable {P:Program} {w:World} {C:World->Prop}
theorem zLC {t:Nat} {v:Value} {cs:List Value} (hv:v.cells=cs.toArray) {k:Option Addr->World->Prop} (H:k (some ⟨w.heap.size,0,none⟩) (w.alloc (.cells cs.toArray t))):opE P zB (Instr.box t v) w k:=by
 refine ⟨_,w.alloc (.cells v.cells t),rfl,?_⟩
 rw [hv];exact H
theorem zAo {t:Nat} {v:Value} {cs:List Value} (hv:v.cells=cs.toArray) {k:Option Addr->World->Prop} (H:∀ b w',Bel w w'->Row w' b cs t->w.heap.size<=b->k (some ⟨b,0,none⟩) w'):opE P zB (Instr.box t v) w k:=
 zLC hv (H _ _ (Bel.alloc _ _) (Row.new _ _ _) (zU _))
theorem zBa {t n:Nat} {z:List Value} (hz:∀ w,(zf t true (.tuple #[])).run P w=.ok (.pointer (some ⟨w.heap.size,0,none⟩)) (w.alloc (.cells z.toArray t))) (hzn:z.length=n)
  (hA:Agg P t n) {cs:List Value} (hn:cs.length=n) (h1:cs.all (·.oneCell')=true) {v:Value} (hv:v=.agg cs.toArray) {k:Option Addr->World->Prop}
  (H:∀ b w',Bel w w'->Row w' b cs t->w.heap.size<=b->k (some ⟨b,0,none⟩) w'):
  opE P zB (zf t true (.tuple #[])) w (λp w=>opU P (zK t (.pointer p) v) w (k p)):=
 zRy hz hzn hA hn h1 hv (H _ _ (Bel.alloc _ _) (Row.new _ _ _) (zU _))
theorem zFL {t:Nat} {z:List Value} (hz:∀ w,(zf t true (.tuple #[])).run P w=.ok (.pointer (some ⟨w.heap.size,0,none⟩)) (w.alloc (.cells z.toArray t))) {k:Option Addr->World->Prop}
  (H:∀ b w',Bel w w'->Row w' b z t->w.heap.size<=b->k (some ⟨b,0,none⟩) w'):opE P zB (zf t true (.tuple #[])) w k:=
 zIo hz (H _ _ (Bel.alloc _ _) (Row.new _ _ _) (zU _))
theorem zFW {s f off:Nat} (hf:∀ p w,(zN s (.pointer (some p)) f).run P w=.ok (.pointer (some (p.add off))) w) {p:Addr} {k:Option Addr->Prop} (H:k (some (p.add off))):
  opC C P zB (zN s (.pointer (some p)) f) k:=⟨_,λw _=>hf p w,H⟩
theorem zC3 {τ:Type} {enc:τ->Value} {t:Nat} (hA:One P t) {ad:Addr} {k:τ->Prop} (x:τ) (h:∀ w,C w->w.cell? ad=some (enc x)) (H:k x):opC C P enc (zD t (.pointer (some ad))) k:=
 ⟨x,λw hw=>zGN hA (h w hw),H⟩
theorem zL0 {τ:Type} {enc:τ->Value} {t n:Nat} (hA:Agg P t n) {ad:Addr} {cs:List Value} {k:τ->Prop} (x:τ) (hx:enc x=.agg cs.toArray) (h:∀ w,C w->At w ad cs) (hn:cs.length=n) (H:k x):opC C P enc (zD t (.pointer (some ad))) k:=
 ⟨x,λw hw=>by rw [hx];exact zG5 hA (h w hw) hn,H⟩
theorem At.fld {w:World} {p:Addr} {cs:List Value} (h:At w p cs) {j:Nat} {v:Value} (hj:cs[j]?=some v):w.cell? (p.add j)=some v:=h j v hj
theorem R.agg {τ:Type} {enc:τ->Value} {t n:Nat} (hA:Agg P t n) {ad:Addr} {cs:List Value} {k:τ->Prop} (x:τ) (hx:enc x=.agg cs.toArray) (h:At w ad cs) (hn:cs.length=n) (H:k x):opR P enc t (some ad) w k:=by
 refine ⟨x,_,rfl,?_,H⟩
 have:=zG5 hA h hn
 rw [hx]
 simpa [zD,Instr.sureAddr] using this
end
end Go.VB
set_option linter.unusedVariables false
set_option linter.unusedSimpArgs false
namespace Go.VB
open Go.RowKit
structure Out (S:Nat->Prop) (w w':World):Prop where
 os:w'.os=w.os
 tape:w'.tape=w.tape
 output:w'.output=w.output
 size:w.heap.size<=w'.heap.size
 block:∀ k,k<w.heap.size->¬ S k->w'.heap[k]?=w.heap[k]?
section
variable {S T:Nat->Prop} {w w' w'':World}
theorem Out.refl (S:Nat->Prop) (w:World):Out S w w:=⟨rfl,rfl,rfl,zU _,λ_ _ _=>rfl⟩
theorem Bel.out (h:Bel w w'):Out S w w':=⟨h.os,h.tape,h.output,h.size,λk hk _=>h.block k hk⟩
theorem Out.row {row:Option Nat} (h:w.grownBy w' row) (hr:∀ k,row=some k->S k∨w.heap.size<=k):Out S w w':=
 ⟨h.os,h.tape,h.output,h.size,λk hk hs=>h.block k hk λe=>by
  rcases hr k e.symm with h1|h1
  ·exact hs h1
  ·omega⟩
theorem Out.trans (h:Out S w w') (k:Out T w' w'') (hT:∀ i,i<w.heap.size->T i->S i):Out S w w'':=
 ⟨k.os.trans h.os,k.tape.trans h.tape,k.output.trans h.output,zn h.size k.size,λi hi hs=>(k.block i (yF hi h.size) λht=>hs (hT i hi ht)).trans (h.block i hi hs)⟩
theorem Out.mono (h:Out S w w') (hT:∀ i,i<w.heap.size->S i->T i):Out T w w':=⟨h.os,h.tape,h.output,h.size,λi hi hs=>h.block i hi λh1=>hs (hT i hi h1)⟩
theorem Out.bel {w0:World} (hb:Bel w0 w) (h:Out S w w') (hS:∀ i,i<w0.heap.size->¬ S i):Bel w0 w':=
 ⟨h.os.trans hb.os,h.tape.trans hb.tape,h.output.trans hb.output,zn hb.size h.size,λi hi=>(h.block i (yF hi hb.size) (hS i hi)).trans (hb.block i hi)⟩
end
theorem Row.keep {w w':World} {b:Nat} {cs:List Value} {t:TypeId} (h:Row w b cs t) (hk:w'.heap[b]?=w.heap[b]?):Row w' b cs t:=hk.trans h
theorem zAD.keep {κ ν:Type} {ek:κ->Value} {ev:ν->Value} {w w':World} {b:Nat} {f:κ->Option ν} (h:zAD ek ev w b f) (hk:w'.heap[b]?=w.heap[b]?):zAD ek ev w' b f:=
 let ⟨es,c,m⟩:=h;⟨es,c,hk.trans m.blk,m.sound,m.full,m.one⟩
theorem Rd.keep {α:Type} {c:α->List Value} {n:Nat} {w w':World} {s:Sl} {xs:List α} (h:Rd c n w s xs) (hk:∀ k,(Sl.v s).ownBlock=some k->w'.heap[k]?=w.heap[k]?):Rd c n w' s xs:=
 ⟨h.len,h.cap,h.capm,h.big,h.nilc,λi x hx=>by
  obtain ⟨ad,e,ha⟩:=h.cells i x hx
  refine ⟨ad,e,λj v hj=>?_⟩
  have h1:=ha j v hj
  rw [← h1]
  refine World.cell?_of_block ?_
  have hb:((ad.add (i*n)).add j).block=ad.block:=by unfold Addr.add;(repeat' split)<;>rfl
  rw [hb]
  exact hk ad.block (by simp [Sl.v,e,Value.ownBlock])⟩
theorem OwnS.keep {α:Type} {c:α->List Value} {n e base:Nat} {w w':World} {s:Sl} {xs:List α} (h:OwnS c n e base w s xs) (hk:∀ k,(Sl.v s).ownBlock=some k->w'.heap[k]?=w.heap[k]?):OwnS c n e base w' s xs:=by
 refine ⟨h.len,h.small,h.row.1,?_⟩
 rcases h.row.2 with h1|⟨g,cap,cur,h1,h2,h3,h4⟩
 ·exact .inl h1
 ·exact .inr ⟨g,cap,cur,h1,h2,(hk g (by rw [h1];rfl)).trans h3,h4⟩
theorem OwnS.lt {α:Type} {c:α->List Value} {n e base:Nat} {w:World} {s:Sl} {xs:List α} (h:OwnS c n e base w s xs) {k:Nat} (hk:(Sl.v s).ownBlock=some k):k<w.heap.size:=(h.row.lt k hk).2
section
variable {P:Program} {w0 w:World} {α:Type} {c:α->List Value} {n e t bytes base:Nat}
theorem zPQ {s:Sl} {xs:List α} {x:α} (hO:OwnS c n e base w s xs) (hc:∀ x,(c x).length=n) (h1:∀ x,(c x).all (·.oneCell')=true) (hn:0<n)
  (hu:P.underlying t=some (.slice e)) {z:Value} (hi:(P.info? e).map (λi=>(i.zero,i.size,i.bytes))=some (some z,n,bytes))
  (room:(xs.length+1)*bytes<=140737488355328) (hby:0<bytes) {ad:Addr} (hA:At w ad (c x)) {ty:TypeId} {v':Value} {w':World}
  (hr:(Builtin.append_ #[t,t] ty [Sl.v s,.slice (some ad) 1 1].toArray).run P w=.ok v' w'):v'.ownBlock=(Sl.v s).ownBlock∨v'.ownBlock=some w.heap.size:=by
 obtain ⟨i0,hi0,hi1⟩:=Option.map_eq_some_iff.1 hi
 simp only [Prod.mk.injEq] at hi1
 obtain ⟨hz0,hz1,hz2⟩:=hi1
 have hroom:xs.length+1<=140737488355328:=zn (Nat.le_mul_of_pos_right _ hby) room
 have hsl:=hO.len
 have hl:(c x).length=1*i0.size:=by rw [hc,hz1];omega
 have hall:∀ u∈c x,u.oneCell'=true:=λu hu=>by have:=h1 x;rw [List.all_eq_true] at this;exact this u hu
 rcases hO.row.2 with ⟨h2,h3⟩|⟨g,cap,cur,h2,h3,h4,h5,h6,h7,h8⟩
 ·have h9:=run_append_nil (P:=P) w t ty e i0 z hu hi0 hz0 ad 1 1 (c x) hl hA (by omega) (by omega) (by rw [hz2];have:1*bytes<=(xs.length+1)*bytes:=Nat.mul_le_mul_right _ (by omega);omega)
  rw [h2] at hr
  have:=h9.symm.trans hr
  injection this with h10 h11
  rw [← h10];exact .inr rfl
 ·rw [h2] at hr
  have hxs:(xs.flatMap c).length=s.len*i0.size:=by rw [zFC hc,hsl,hz1]
  by_cases hroom2:s.len+1<=cap
  ·have h9:=run_append_room (P:=P) w t ty e i0 hu hi0 g s.len cap cur h4 ad 1 1 (c x) hl hA hall hroom2 (by rw [hl,← Nat.add_mul,h7,hz1];exact Nat.mul_le_mul_right _ hroom2)
   have:=h9.symm.trans hr
   injection this with h10 h11
   rw [← h10,h2];exact .inl rfl
  ·have holds:∀ j u,(xs.flatMap c)[j]?=some u->w.cell? ((⟨g,0,none⟩:Addr).add j)=some u:=hO.row.cells (g:=g) (by rw [h2];rfl)
   have h9:=run_append_grow (P:=P) w t ty e i0 z hu hi0 hz0 ⟨g,0,none⟩ s.len cap (xs.flatMap c) hxs holds ad 1 1 (c x) hl hA (by omega) (by omega) (growslice_fits (by omega) (by rw [hz2,← hsl];exact room))
   have:=h9.symm.trans hr
   injection this with h10 h11
   rw [← h10];exact .inr rfl
theorem zOt {s:Sl} {xs:List α} {x:α} {vx:Value} (hO:OwnS c n e base w s xs) (hc:∀ x,(c x).length=n) (h1:∀ x,(c x).all (·.oneCell')=true) (hn:0<n)
  (hu:P.underlying t=some (.slice e)) {z:Value} (hi:(P.info? e).map (λi=>(i.zero,i.size,i.bytes))=some (some z,n,bytes)) (hz:z.cells.size=n) (hby:0<bytes)
  (hbs:∀ w,(ze t 1 [(0,vx)].toArray).run P w=.ok (Sl.v ⟨some ⟨w.heap.size,0,none⟩,1,1⟩) (w.alloc (.cells (c x).toArray e)))
  (hbw:base<=w.heap.size) (room:(xs.length+1)*bytes<=140737488355328) {k:Sl->World->Prop} {ty:TypeId}
  (H:∀ s' w',OwnS c n e base w' s' (xs++[x])->w.grownBy w' (Sl.v s).ownBlock->(∀ q,(Sl.v s').ownBlock=some q->(Sl.v s).ownBlock=some q∨w.heap.size<=q)->k s' w'):
  opE P Sl.v (ze t 1 [(0,vx)].toArray) w (λy w=>opE P Sl.v (Builtin.append_ #[t,t] ty [Sl.v s,Sl.v y].toArray) w k):=by
 refine ⟨_,_,hbs w,?_⟩
 have hA:At (w.alloc (.cells (c x).toArray e)) ⟨w.heap.size,0,none⟩ (c x):=At.new w (c x) e
 have key:opE P Sl.v (Builtin.append_ #[t,t] ty [Sl.v s,Sl.v ⟨some ⟨w.heap.size,0,none⟩,1,1⟩].toArray) (w.alloc (.cells (c x).toArray e)) (λs' w'=>OwnS c n e base w' s' (xs++[x])/\(w.alloc (.cells (c x).toArray e)).grownBy w' (Sl.v s).ownBlock):=
  zOf (w0:={w with heap:=#[]}) (ys:=[x]) (hO.bel (Bel.alloc _ _)) ⟨rfl,by simp,by simp,by simp,λh=>by simp at h,λi y hy=>by
   cases i with
   |zero=>
    simp at hy;subst hy
    exact ⟨_,rfl,by rw [Nat.zero_mul];simpa [Addr.add] using hA⟩
   |succ i=>simp at hy⟩ hc h1 hn hu hi hz hby ⟨rfl,rfl,rfl,Nat.zero_le _,λk hk=>absurd hk (by simp)⟩ (by simp) (by rw [size_alloc'];omega) (by simpa using room) λs' w' h1 h2 h3=>⟨h1,h3⟩
 obtain ⟨s',w',hrun,h2,h3⟩:=key
 refine ⟨s',w',hrun,H s' w' h2 (zS (World.grownBy_alloc w _ _) h3) λq hq=>?_⟩
 rcases zPQ (x:=x) (hO.bel (Bel.alloc w (.cells (c x).toArray e))) hc h1 hn hu hi room hby hA hrun with h4|h4
 ·exact .inl (h4.symm.trans hq)
 ·rw [hq] at h4
  injection h4 with h4
  rw [size_alloc'] at h4
  exact .inr (by omega)
end
section
variable {P:Program} {w:World}
theorem zRq {t n:Nat} (hA:Agg P t n) {b off:Nat} {cs vs:List Value} {e:TypeId} (h:Row w b cs e) (hn:vs.length=n) (hl:off+vs.length<=cs.length) (h1:vs.all (·.oneCell')=true) {k:World->Prop}
  (H:∀ w',Row w' b (cs.take off++vs++cs.drop (off+vs.length)) e->w.grownBy w' (some b)->k w'):opU P (zK t (.pointer (some ((⟨b,0,none⟩:Addr).add off))) (.agg vs.toArray)) w k:=by
 refine ⟨w.setRow b (cs.take off++vs++cs.drop (off+vs.length)).toArray,?_,H _ (zFb h) (zEX w b _)⟩
 have:=zDS hA.size (off:=off) (v:=.agg vs.toArray) (vs:=vs) h (by simp [Value.cells]) hn hl h1
 rw [add_plain']
 simpa [zK,Instr.sureAddr] using this
end
section
variable {κ ν:Type} {ek:κ->Value} {ev:ν->Value} {P:Program} {kt et mt:TypeId} {w:World} {b:Nat} {f:κ->Option ν}
def Doms (f:κ->Option ν) (ks:List κ):Prop:=ks.Nodup/\∀ k,k∈ks↔∃ v,f k=some v
theorem zO4 {es:Array MapEntry} (hinj:∀ x y,ek x=ek y->x=y):∀ l:List MapEntry,(∀ e∈l,∃ y,e.key=ek y)->l.Pairwise (λa b=>a.key≠b.key)->∃ ks:List κ,ks.length=l.length/\ks.Nodup/\∀ k,k∈ks↔∃ e∈l,e.key=ek k
 |[],_,_=>⟨[],rfl,List.nodup_nil,by simp⟩
 |e::l,h,hp=>by
  obtain ⟨y,hy⟩:=h e (by simp)
  obtain ⟨hp1,hp2⟩:=List.pairwise_cons.1 hp
  obtain ⟨ks,h1,h2,h3⟩:=zO4 (es:=es) hinj l (λe' he=>h e' (by simp [he])) hp2
  refine ⟨y::ks,by simp [h1],List.nodup_cons.2 ⟨λhm=>?_,h2⟩,λk=>?_⟩
  ·obtain ⟨e',he,hk⟩:=(h3 y).1 hm
   exact hp1 e' he (by rw [hy,hk])
  ·rw [List.mem_cons,h3]
   constructor
   ·rintro (rfl|⟨e',he,hk⟩)
    ·exact ⟨e,by simp,hy⟩
    ·exact ⟨e',by simp [he],hk⟩
   ·rintro ⟨e',he,hk⟩
    rcases List.mem_cons.1 he with rfl|he
    ·exact .inl (hinj _ _ (hk.symm.trans hy))
    ·exact .inr ⟨e',he,hk⟩
theorem zGn.doms {es:Array MapEntry} {c:Nat} (m:zGn ek ev w b f es c) (hinj:∀ x y,ek x=ek y->x=y):∃ ks,Doms f ks/\ks.length=es.size:=by
 have hp:es.toList.Pairwise (λa b=>a.key≠b.key):=by
  rw [List.pairwise_iff_getElem]
  intro i j hi hj hij hk
  have:=m.one i j es.toList[i] es.toList[j] (by simp at hi;simp [hi]) (by simp at hj;simp [hj]) (.inl hk)
  omega
 obtain ⟨ks,h1,h2,h3⟩:=zO4 (es:=es) hinj es.toList m.keys hp
 refine ⟨ks,⟨h2,λk=>?_⟩,by simpa using h1⟩
 rw [h3]
 constructor
 ·rintro ⟨e,he,hk⟩
  obtain ⟨i,hi⟩:=List.getElem?_of_mem he
  obtain ⟨k',v,h4,_,h5,_⟩:=m.sound i e (by simpa using hi)
  have:k'=k:=hinj _ _ (h4.symm.trans hk)
  subst this;exact ⟨v,h5⟩
 ·rintro ⟨v,hv⟩
  obtain ⟨i,e,h4,h5,_⟩:=m.full k v hv
  exact ⟨e,List.mem_of_getElem? (i:=i) (by simpa using h4),h5⟩
theorem zOO (h:zAD ek ev w b f) (hinj:∀ x y,ek x=ek y->x=y) (hm:P.underlying mt=some (.map kt et)) {ty:TypeId} {k:Int->World->Prop} (H:∀ ks,Doms f ks->k (ks.length:Int) w):
  opE P (zV .i64) (Builtin.len_ #[mt] ty [.map (some b)].toArray) w k:=by
 obtain ⟨es,c,m⟩:=h
 obtain ⟨ks,h1,h2⟩:=m.doms hinj
 refine ⟨(ks.length:Int),w,?_,H ks h1⟩
 simp [Builtin.len_,run_underlying hm,MapKept.run_getObj_map m.blk,Result.andThen,h2,goInt]
open Classical in
noncomputable def del (f:κ->Option ν) (x:κ):κ->Option ν:=λy=>if y=x then none else f y
theorem zEU (f:κ->Option ν) (x:κ):del f x x=none:=by simp [del]
theorem zBv (f:κ->Option ν) {x y:κ} (h:y≠x):del f x y=f y:=by simp [del,h]
theorem zGn.erase {es:Array MapEntry} {c:Nat} (m:zGn ek ev w b f es c) {x:κ} (hinj:∀ x y,ek x=ek y->x=y) {i:Nat} {e:MapEntry} (hi:es[i]?=some e) (hx:e.key=ek x) {w':World}
  (hw:w'.heap[b]?=some (.map (es.eraseIdxIfInBounds i) c)):zGn ek ev w' b (del f x) (es.eraseIdxIfInBounds i) c:=by
 have hlt:i<es.size:=(Array.getElem?_eq_some_iff.1 hi).1
 have he0:es.eraseIdxIfInBounds i=es.eraseIdx i hlt:=by simp [Array.eraseIdxIfInBounds,hlt]
 have get:∀ j,(es.eraseIdxIfInBounds i)[j]?=if j<i then es[j]? else es[j+1]?:=λj=>by
  rw [he0,Array.getElem?_eraseIdx]
 have back:∀ j e',(es.eraseIdxIfInBounds i)[j]?=some e'->∃ j',j'≠i/\es[j']?=some e'/\(j'=if j<i then j else j+1):=λj e' h=>by
  rw [get] at h
  by_cases hj:j<i
  ·rw [if_pos hj] at h;exact ⟨j,by omega,h,by rw [if_pos hj]⟩
  ·rw [if_neg hj] at h;exact ⟨j+1,by omega,h,by rw [if_neg hj]⟩
 refine ⟨hw,λj e' h=>?_,λk u hk=>?_,λj l e1 e2 h1 h2 hor=>?_⟩
 ·obtain ⟨j',hj,h',_⟩:=back j e' h
  obtain ⟨k,u,h1,h2,h3,h4⟩:=m.sound j' e' h'
  have hk:k≠x:=λe1=>hj (m.one j' i e' e h' hi (.inl (by rw [h1,hx,e1])))
  exact ⟨k,u,h1,h2,by rw [zBv f hk];exact h3,h4⟩
 ·have hkx:k≠x:=λe1=>by subst e1;rw [zEU] at hk;cases hk
  rw [zBv f hkx] at hk
  obtain ⟨j,e',h1,h2,h3⟩:=m.full k u hk
  have hj:j≠i:=λe1=>by subst e1;rw [hi] at h1;cases h1;exact hkx (hinj _ _ (h2.symm.trans hx))
  by_cases hji:j<i
  ·exact ⟨j,e',by rw [get,if_pos hji];exact h1,h2,h3⟩
  ·exact ⟨j - 1,e',by rw [get,if_neg (by omega),show j - 1+1=j from by omega];exact h1,h2,h3⟩
 ·obtain ⟨j',hj,h3,h4⟩:=back j e1 h1
  obtain ⟨l',hl,h5,h6⟩:=back l e2 h2
  have:=m.one j' l' e1 e2 h3 h5 hor
  split at h4<;>split at h6<;>omega
theorem zTE (h:zAD ek ev w b f) (K:zFd P kt ek) (hm:P.underlying mt=some (.map kt et)) (x:κ) {ty t2:TypeId} {k:Unit->World->Prop} (H:∀ w',zAD ek ev w' b (del f x)->w.grownBy w' (some b)->k () w'):
  opE P (λ_:Unit=>.tuple #[]) (Builtin.delete_ #[mt,t2] ty [.map (some b),ek x].toArray) w k:=by
 obtain ⟨es,c,m⟩:=h
 rcases K.find x es.toList w m.keys with ⟨h1,h2⟩|⟨i,e,h1,h2,h3⟩
 ·refine ⟨(),setB w b (.map es c),?_,H _ ⟨es,c,zFi m.blk,λi e he=>?_,λy v hy=>?_,m.one⟩ zEK⟩
  ·simp [Builtin.delete_,run_underlying hm,MapKept.run_getObj_map m.blk,K.chk,h1,MapKept.run_setObj_map _ m.blk,Result.andThen,setB]
  ·obtain ⟨y,v,h4,h5,h6,h7⟩:=m.sound i e he
   have hy:y≠x:=λe1=>h2 e (List.mem_of_getElem? (i:=i) (by simpa using he)) (by rw [h4,e1])
   exact ⟨y,v,h4,h5,by rw [zBv f hy];exact h6,h7⟩
  ·have hyx:y≠x:=λe1=>by subst e1;rw [zEU] at hy;cases hy
   rw [zBv f hyx] at hy
   exact m.full y v hy
 ·have hi:es[i]?=some e:=by simpa using h2
  refine ⟨(),setB w b (.map (es.eraseIdxIfInBounds i) c),?_,H _ ⟨_,_,m.erase K.inj hi h3 (zFi m.blk)⟩ zEK⟩
  simp [Builtin.delete_,run_underlying hm,MapKept.run_getObj_map m.blk,K.chk,h1,MapKept.run_setObj_map _ m.blk,Result.andThen,setB]
end
end Go.VB
set_option linter.unusedVariables false
set_option linter.unusedSimpArgs false
namespace Go.Proofs.YtealcoghiaeiiaaGreat.VG
open Go.VB Go.Proofs
def zE2 (x0:Option Addr) (w:World) (Ret:Int->Int->World->Prop):Prop:=
 opE zA xv (do eqGuard .eql 26 (.tmp 5) (.const (.pointer none)) (.pointer x0) (.pointer none);binOp .eql 26 (.pointer x0) (.pointer none)) w (λx6 w=>(x6=true->(Ret 0 1 w))/\(x6=false->(Qg (.pointer x0)/\(opE zA zB (zN 87 (.pointer x0) 3) w (λx10 w=>opE zA Value.map (zD 85 (.pointer x10)) w (λx11 w=>opE zA (zV .i64) (Builtin.len_ #[85] 3 [(.map x11)].toArray) w (λx12 w=>((16<=x12)->(Ret 0 3 w))/\(¬ (16<=x12)->(Qg (.pointer x0)/\(opE zA zB (zN 87 (.pointer x0) 2) w (λx16 w=>opE zA (zV .i64) (zD 3 (.pointer x16)) w (λx17 w=>Qg (.pointer x0)/\(opE zA zB (zN 87 (.pointer x0) 2) w (λx20 w=>opU zA (zK 3 (.pointer x20) (.int .i64 (zC .i64 (x17+1)))) w (λw=>regC w (λC1 w=>Qg (.pointer x0)/\(opC C1 zA zB (zN 87 (.pointer x0) 3) (λx23=>Qg (.pointer x0)/\(opC C1 zA zB (zN 87 (.pointer x0) 2) (λx27=>Qg (.pointer x0)/\(opC C1 zA zB (zN 87 (.pointer x0) 1) (λx31=>opC C1 zA Value.map (zD 85 (.pointer x23)) (λx24=>opC C1 zA (zV .i64) (zD 3 (.pointer x27)) (λx28=>opC C1 zA (zV .u64) (zD 37 (.pointer x31)) (λx32=>opE zA Value.map (Instr.makeMap 89 none) w (λx33 w=>C1 w/\(opC C1 zA zG9.v (yr 92 [(0,(.int .u64 x32)),(2,(.map x33))].toArray) (λx34=>opE zA zB (Instr.box 92 (zG9.v x34)) w (λx35 w=>C1 w/\(opU zA (Instr.mapUpdate 85 (.map x24) (.int .i64 x28) (.pointer x35)) w (λw=>C1 w/\(Qg (.pointer x0)/\(opE zA zB (zN 87 (.pointer x0) 2) w (λx38 w=>opE zA (zV .i64) (zD 3 (.pointer x38)) w (λx39 w=>Ret x39 0 w)))))))))))))))))))))))))))))))))))
set_option maxRecDepth 100000 in
theorem zIh (x0:Option Addr) (w:World) (Ret:Int->Int->World->Prop) (H:zE2 x0 w Ret):Cl zA 12 [(.pointer x0)].toArray w (λe w'=>∃ (r0:Int) (r1:Int),e=.returned (.tuple [(.int .i64 r0),(.int .i64 r1)].toArray)/\Ret r0 r1 w'):=by
 unfold zE2 at H
 refine zp 40 (zipE 0 [(.pointer x0)]) Tryz.func12 rfl rfl (by rfl) rfl ?_
 intro a g
 have g:Sat [] 40 [(0,(.pointer x0))] a:=g
 refine zI (zE (g.s rfl λ_ g=>g.s rfl λ_ g=>zL (tn (zI (zX (zI (zE (g.m rfl λ_ g=>g.o (zCz g rfl rfl) H λx6 w a H g=>g.s rfl λ_ g=>zL (tn (zk g rfl (λhc=>?_) (λhc=>?_)))))))))))
 ·have H:=H.1 hc
  exact zI (zE (g.s rfl λ_ g=>g.s rfl λ_ g=>zL (tn (zl (br (tr (ZK g rfl rfl rfl ⟨_,_,rfl,H⟩)))))))
 ·have H:=H.2 hc
  refine zI (zE (g.m rfl λ_ g=>g.p (zj g rfl H.1) λ_ g=>?_))
  have H:=H.2
  refine g.o (zP g rfl) H λx10 w a H g=>g.o (zO g rfl) H λx11 w a H g=>g.o (zNM g rfl) H λx12 w a H g=>g.p (Zm g rfl rfl) λ_ g=>g.s rfl λ_ g=>zL (tn (zd g rfl (λhc=>?_) (λhc=>?_)))
  ·have H:=H.1 hc
   exact zI (zE (g.s rfl λ_ g=>g.s rfl λ_ g=>zL (tn (zl (br (tr (ZK g rfl rfl rfl ⟨_,_,rfl,H⟩)))))))
  ·have H:=H.2 hc
   refine zY (bn (tn (zI (zE (g.m rfl λ_ g=>g.p (zj g rfl H.1) λ_ g=>?_)))))
   have H:=H.2
   refine g.o (zP g rfl) H λx16 w a H g=>g.o (zO g rfl) H λx17 w a H g=>g.p (zr g rfl rfl) λ_ g=>g.p (zj g rfl H.1) λ_ g=>?_
   have H:=H.2
   refine g.o (zP g rfl) H λx20 w a H g=>g.h (zT g rfl rfl) H λw a H g=>zL (tn (zI (zPV H 16 λC1 w hC0 H=>g.kp 0 rfl hC0 (xu (zR g rfl)) λ_ g=>g.kp 1 rfl hC0 (xu (zj g rfl H.1)) λ_ g=>?_)))
   have H:=H.2
   refine g.ko 2 rfl hC0 (zP g rfl) H λx23 a H g=>g.kp 4 rfl hC0 (xu (zR g rfl)) λ_ g=>g.kp 5 rfl hC0 (xu (zj g rfl H.1)) λ_ g=>?_
   have H:=H.2
   refine g.ko 6 rfl hC0 (zP g rfl) H λx27 a H g=>g.kp 8 rfl hC0 (xu (zR g rfl)) λ_ g=>g.kp 9 rfl hC0 (xu (zj g rfl H.1)) λ_ g=>?_
   have H:=H.2
   refine g.ko 10 rfl hC0 (zP g rfl) H λx31 a H g=>g.ko 3 rfl hC0 (zO g rfl) H λx24 a H g=>g.ko 7 rfl hC0 (zO g rfl) H λx28 a H g=>g.ko 11 rfl hC0 (zO g rfl) H λx32 a H g=>WK.on 12 rfl ?_
   intro K hK
   refine g.i (zKb) H λx33 w a H g=>hK _ _ ⟨H.1,?_⟩
   have hC1:=H.1
   have H:=H.2
   refine g.ko 13 rfl hC1 (Z5 g rfl) H λx34 a H g=>WK.on 14 rfl ?_
   intro K hK
   refine g.i (zBc g rfl) H λx35 w a H g=>hK _ _ ⟨H.1,?_⟩
   have hC2:=H.1
   have H:=H.2
   refine WK.on 15 rfl ?_
   intro K hK
   refine g.wopu (zIl g rfl rfl rfl) H λw a H g=>hK _ _ ⟨H.1,?_⟩
   have hC3:=H.1
   have H:=H.2
   refine WK.nil (by kernel_rfl) ((tn (zI (zE (g.m rfl λ_ g=>g.p (zj g rfl H.1) λ_ g=>?_)))))
   have H:=H.2
   exact g.o (zP g rfl) H λx38 w a H g=>g.o (zO g rfl) H λx39 w a H g=>g.s rfl λ_ g=>g.s rfl λ_ g=>zL (tn (zl (ZK g rfl rfl rfl ⟨_,_,rfl,H⟩)))
def zEC (x0:Option Addr) (x1:Int) (x2:ByteArray) (w:World) (Ret:Int->World->Prop):Prop:=
 opE zA zJ.v (yr 34 [(0,(.string x2)),(2,(.bool true))].toArray) w (λx10 w=>Cl zA 35 [(.pointer x0),(.int .i64 x1),(zJ.v x10)].toArray w (λe w=>∃ (r:Int),e=.returned (.int .i64 r)/\(Ret r w)))
set_option maxRecDepth 100000 in
theorem zIR (x0:Option Addr) (x1:Int) (x2:ByteArray) (w:World) (Ret:Int->World->Prop) (H:zEC x0 x1 x2 w Ret):Cl zA 13 [(.pointer x0),(.int .i64 x1),(.string x2)].toArray w (λe w'=>∃ (r0:Int),e=.returned (.int .i64 r0)/\Ret r0 w'):=by
 unfold zEC at H
 refine zp 12 (zipE 0 [(.pointer x0),(.int .i64 x1),(.string x2)]) Tryz.func13 rfl rfl (by rfl) rfl ?_
 intro a g
 have g:Sat [] 12 [(0,(.pointer x0)),(1,(.int .i64 x1)),(2,(.string x2))] a:=g
 refine zI (zE (g.s rfl λ_ g=>(zL (tn (zI (zE (g.m rfl λ_ g=>(g.m rfl λ_ g=>(g.m rfl λ_ g=>(g.o (Z5 g rfl) H λx10 w a H g=>(g.c (zb g zRr rfl rfl) H λe w H=>?_)))))))))))
 obtain ⟨r,rfl,H⟩:=H
 exact ⟨_,rfl,λ_ g=>(g.s rfl λ_ g=>(zL (tn (zl (zw g rfl rfl ⟨_,rfl,H⟩)))))⟩
def zF5 (x0:Option Addr) (x1:Int) (x2:ByteArray) (x3:ByteArray) (w:World) (Ret:Int->World->Prop):Prop:=
 opE zA zJ.v (yr 34 [(0,(.string x2)),(1,(.string x3))].toArray) w (λx13 w=>Cl zA 35 [(.pointer x0),(.int .i64 x1),(zJ.v x13)].toArray w (λe w=>∃ (r:Int),e=.returned (.int .i64 r)/\(Ret r w)))
set_option maxRecDepth 100000 in
theorem zJl (x0:Option Addr) (x1:Int) (x2:ByteArray) (x3:ByteArray) (w:World) (Ret:Int->World->Prop) (H:zF5 x0 x1 x2 x3 w Ret):Cl zA 14 [(.pointer x0),(.int .i64 x1),(.string x2),(.string x3)].toArray w (λe w'=>∃ (r0:Int),e=.returned (.int .i64 r0)/\Ret r0 w'):=by
 unfold zF5 at H
 refine zp 15 (zipE 0 [(.pointer x0),(.int .i64 x1),(.string x2),(.string x3)]) Tryz.func14 rfl rfl (by rfl) rfl ?_
 intro a g
 have g:Sat [] 15 [(0,(.pointer x0)),(1,(.int .i64 x1)),(2,(.string x2)),(3,(.string x3))] a:=g
 refine zI (zE (g.s rfl λ_ g=>(zL (tn (zI (zE (g.m rfl λ_ g=>(g.m rfl λ_ g=>(g.m rfl λ_ g=>(g.m rfl λ_ g=>(g.o (Z5 g rfl) H λx13 w a H g=>(g.c (zb g zRr rfl rfl) H λe w H=>?_))))))))))))
 obtain ⟨r,rfl,H⟩:=H
 exact ⟨_,rfl,λ_ g=>(g.s rfl λ_ g=>(zL (tn (zl (zw g rfl rfl ⟨_,rfl,H⟩)))))⟩
def xD (Ret:zW->World->Prop) (x4:Option Addr) (x5:Option Addr) (w:World):Prop:=
 opE zA zW.v (zD 51 (.pointer x5)) w (λx104 w=>opU zA (zK 51 (.pointer x4) (zW.v x104)) w (λw=>opR zA zW.v 51 x4 w (λq=>Ret q w)))
def zGL (x0:Option Addr) (x1:za) (w:World) (Ret:zW->World->Prop):Prop:=
 opE zA zB (Instr.box 49 (za.v x1)) w (λx3 w=>opE zA zB (zf 51 true (.tuple #[])) w (λx4 w=>opE zA zW.v (yr 51 [(0,(.int .i64 15))].toArray) w (λx6 w=>opE zA zB (zf 51 true (.tuple #[])) w (λx5 w=>opU zA (zK 51 (.pointer x5) (zW.v x6)) w (λw=>opE zA xv (do eqGuard .eql 26 (.tmp 8) (.const (.pointer none)) (.pointer x0) (.pointer none);binOp .eql 26 (.pointer x0) (.pointer none)) w (λx9 w=>(x9=true->(opE zA zB (zN 51 (.pointer x5) 0) w (λx10 w=>opU zA (zK 27 (.pointer x10) (.int .i64 1)) w (λw=>xD Ret x4 x5 w))))/\(x9=false->(opE zA zB (zN 49 (.pointer x3) 0) w (λx12 w=>opE zA (zV .u8) (zD 47 (.pointer x12)) w (λx13 w=>((x13=1)->(Cl zA 12 [(.pointer x0)].toArray w (λe w=>∃ (r:Int) (r_1:Int),e=.returned (.tuple [(.int .i64 r),(.int .i64 r_1)].toArray)/\(opE zA zB (zN 51 (.pointer x5) 1) w (λx20 w=>opU zA (zK 3 (.pointer x20) (.int .i64 r)) w (λw=>opE zA zB (zN 51 (.pointer x5) 0) w (λx21 w=>opU zA (zK 27 (.pointer x21) (.int .i64 r_1)) w (λw=>xD Ret x4 x5 w))))))))/\(¬ (x13=1)->(opE zA zB (zN 49 (.pointer x3) 0) w (λx23 w=>opE zA (zV .u8) (zD 47 (.pointer x23)) w (λx24 w=>((x24=2)->(opE zA zB (zN 49 (.pointer x3) 1) w (λx28 w=>opE zA (zV .i64) (zD 3 (.pointer x28)) w (λx29 w=>opE zA zB (zN 49 (.pointer x3) 2) w (λx30 w=>opE zA zZ (zD 9 (.pointer x30)) w (λx31 w=>Cl zA 22 [(.pointer x0),(.int .i64 x29),(.string x31)].toArray w (λe w=>∃ (r_2:ByteArray) (r_3:Bool) (r_4:Int),e=.returned (.tuple [(.string r_2),(.bool r_3),(.int .i64 r_4)].toArray)/\(opE zA zB (zN 51 (.pointer x5) 2) w (λx36 w=>opU zA (zK 9 (.pointer x36) (.string r_2)) w (λw=>opE zA zB (zN 51 (.pointer x5) 3) w (λx37 w=>opU zA (zK 4 (.pointer x37) (.bool r_3)) w (λw=>opE zA zB (zN 51 (.pointer x5) 0) w (λx38 w=>opU zA (zK 27 (.pointer x38) (.int .i64 r_4)) w (λw=>xD Ret x4 x5 w))))))))))))))/\(¬ (x24=2)->(opE zA zB (zN 49 (.pointer x3) 0) w (λx40 w=>opE zA (zV .u8) (zD 47 (.pointer x40)) w (λx41 w=>((x41=3)->(opE zA zB (zN 49 (.pointer x3) 1) w (λx45 w=>opE zA (zV .i64) (zD 3 (.pointer x45)) w (λx46 w=>opE zA zB (zN 49 (.pointer x3) 2) w (λx47 w=>opE zA zZ (zD 9 (.pointer x47)) w (λx48 w=>opE zA zB (zN 49 (.pointer x3) 3) w (λx49 w=>opE zA zZ (zD 9 (.pointer x49)) w (λx50 w=>Cl zA 17 [(.pointer x0),(.int .i64 x46),(.string x48),(.string x50)].toArray w (λe w=>∃ (r_5:Sl) (r_6:Int),e=.returned (.tuple [(Sl.v r_5),(.int .i64 r_6)].toArray)/\(opE zA zB (zN 51 (.pointer x5) 4) w (λx54 w=>opU zA (zK 22 (.pointer x54) (Sl.v r_5)) w (λw=>opE zA zB (zN 51 (.pointer x5) 0) w (λx55 w=>opU zA (zK 27 (.pointer x55) (.int .i64 r_6)) w (λw=>xD Ret x4 x5 w))))))))))))))/\(¬ (x41=3)->(opE zA zB (zN 49 (.pointer x3) 0) w (λx57 w=>opE zA (zV .u8) (zD 47 (.pointer x57)) w (λx58 w=>((x58=4)->(opE zA zB (zN 49 (.pointer x3) 1) w (λx61 w=>opE zA (zV .i64) (zD 3 (.pointer x61)) w (λx62 w=>opE zA zB (zN 49 (.pointer x3) 2) w (λx63 w=>opE zA zZ (zD 9 (.pointer x63)) w (λx64 w=>opE zA zB (zN 49 (.pointer x3) 4) w (λx65 w=>opE zA zZ (zD 9 (.pointer x65)) w (λx66 w=>Cl zA 14 [(.pointer x0),(.int .i64 x62),(.string x64),(.string x66)].toArray w (λe w=>∃ (r_7:Int),e=.returned (.int .i64 r_7)/\(opE zA zB (zN 51 (.pointer x5) 0) w (λx68 w=>opU zA (zK 27 (.pointer x68) (.int .i64 r_7)) w (λw=>xD Ret x4 x5 w))))))))))))/\(¬ (x58=4)->(opE zA zB (zN 49 (.pointer x3) 0) w (λx70 w=>opE zA (zV .u8) (zD 47 (.pointer x70)) w (λx71 w=>((x71=5)->(opE zA zB (zN 49 (.pointer x3) 1) w (λx74 w=>opE zA (zV .i64) (zD 3 (.pointer x74)) w (λx75 w=>opE zA zB (zN 49 (.pointer x3) 2) w (λx76 w=>opE zA zZ (zD 9 (.pointer x76)) w (λx77 w=>Cl zA 13 [(.pointer x0),(.int .i64 x75),(.string x77)].toArray w (λe w=>∃ (r_8:Int),e=.returned (.int .i64 r_8)/\(opE zA zB (zN 51 (.pointer x5) 0) w (λx79 w=>opU zA (zK 27 (.pointer x79) (.int .i64 r_8)) w (λw=>xD Ret x4 x5 w))))))))))/\(¬ (x71=5)->(opE zA zB (zN 49 (.pointer x3) 0) w (λx81 w=>opE zA (zV .u8) (zD 47 (.pointer x81)) w (λx82 w=>((x82=6)->(opE zA zB (zN 49 (.pointer x3) 1) w (λx86 w=>opE zA (zV .i64) (zD 3 (.pointer x86)) w (λx87 w=>Cl zA 15 [(.pointer x0),(.int .i64 x87)].toArray w (λe w=>∃ (r_9:Sl) (r_10:Int) (r_11:Int),e=.returned (.tuple [(Sl.v r_9),(.int .u64 r_10),(.int .i64 r_11)].toArray)/\(opE zA zB (zN 51 (.pointer x5) 5) w (λx92 w=>opU zA (zK 30 (.pointer x92) (Sl.v r_9)) w (λw=>opE zA zB (zN 51 (.pointer x5) 6) w (λx93 w=>opU zA (zK 37 (.pointer x93) (.int .u64 r_10)) w (λw=>opE zA zB (zN 51 (.pointer x5) 0) w (λx94 w=>opU zA (zK 27 (.pointer x94) (.int .i64 r_11)) w (λw=>xD Ret x4 x5 w))))))))))))/\(¬ (x82=6)->(opE zA zB (zN 49 (.pointer x3) 0) w (λx96 w=>opE zA (zV .u8) (zD 47 (.pointer x96)) w (λx97 w=>((x97=7)->(opE zA zB (zN 49 (.pointer x3) 1) w (λx100 w=>opE zA (zV .i64) (zD 3 (.pointer x100)) w (λx101 w=>Cl zA 29 [(.pointer x0),(.int .i64 x101)].toArray w (λe w=>∃ (r_12:Int),e=.returned (.int .i64 r_12)/\(opE zA zB (zN 51 (.pointer x5) 0) w (λx103 w=>opU zA (zK 27 (.pointer x103) (.int .i64 r_12)) w (λw=>xD Ret x4 x5 w))))))))/\(¬ (x97=7)->(xD Ret x4 x5 w))))))))))))))))))))))))))))))))))))
set_option maxRecDepth 100000 in
theorem zJz (x0:Option Addr) (x1:za) (w:World) (Ret:zW->World->Prop) (H:zGL x0 x1 w Ret):Cl zA 19 [(.pointer x0),(za.v x1)].toArray w (λe w'=>∃ (r0:zW),e=.returned (zW.v r0)/\Ret r0 w'):=by
 unfold zGL at H
 refine zp 105 (zipE 0 [(.pointer x0),(za.v x1)]) Tryz.func19 rfl rfl (by rfl) rfl ?_
 intro a g
 have g:Sat [] 105 [(0,(.pointer x0)),(1,(za.v x1))] a:=g
 refine zI (zE (g.o (zBc g rfl) H λx3 w a H g=>g.o (xY) H λx4 w a H g=>zL (tn (zI (zE (g.o (Z5 g rfl) H λx6 w a H g=>g.o (xY) H λx5 w a H g=>g.h (zT g rfl rfl) H λw a H g=>zL (tn (z8 (ds:=[]) (N:=105) (σ:=Unit) (λs=>[(4,(.pointer x4)),(5,(.pointer x5))]) (λs w=>xD Ret x4 x5 w) ?_ (λhj1=>?_)))))))))
 ·rintro ⟨⟩ w a H g
  try dsimp only at H g
  unfold xD at H
  refine zI (zE (g.o (zO g rfl) H λx104 w a H g=>g.h (zT g rfl rfl) H λw a H g=>zL (tn ?_)))
  obtain ⟨q,ad,hp,hl,H⟩:=H
  exact zl (zLA g (rs:=[.cell 4 51]) (vs:=[(zW.v q)]) rfl ⟨⟨ad,by rw [← hp];rfl,hl⟩,trivial⟩ ⟨_,rfl,H⟩)
 ·refine zX (zI (zE (g.m rfl λ_ g=>g.o (zCz g rfl rfl) H λx9 w a H g=>g.s rfl λ_ g=>zL (tn (zk g rfl (λhc=>?_) (λhc=>?_))))))
  ·have H:=H.1 hc
   exact zE (g.o (zP g rfl) H λx10 w a H g=>g.h (zT g rfl rfl) H λw a H g=>zL (bn (tn (hj1 () _ _ H (g.k)))))
  ·have H:=H.2 hc
   refine zI (zE (g.o (zP g rfl) H λx12 w a H g=>g.o (zO g rfl) H λx13 w a H g=>g.p (Zb g rfl rfl) λ_ g=>g.s rfl λ_ g=>zL (tn (zd g rfl (λhc=>?_) (λhc=>?_)))))
   ·have H:=H.1 hc
    refine zE (g.m rfl λ_ g=>g.c (zb g zOe rfl rfl) H λe w H=>?_)
    obtain ⟨r,r_1,rfl,H⟩:=H
    exact ⟨_,rfl,λ_ g=>(g.m rfl λ_ g=>g.p (zc g rfl rfl) λ_ g=>g.p (zc g rfl rfl) λ_ g=>g.o (zP g rfl) H λx20 w a H g=>g.h (zT g rfl rfl) H λw a H g=>g.o (zP g rfl) H λx21 w a H g=>g.h (zT g rfl rfl) H λw a H g=>zL (bn (tn (hj1 () _ _ H (g.k)))))⟩
   ·have H:=H.2 hc
    refine zI (zE (g.o (zP g rfl) H λx23 w a H g=>g.o (zO g rfl) H λx24 w a H g=>g.p (Zb g rfl rfl) λ_ g=>g.s rfl λ_ g=>zL (tn (zd g rfl (λhc=>?_) (λhc=>?_)))))
    ·have H:=H.1 hc
     refine zE (g.m rfl λ_ g=>g.o (zP g rfl) H λx28 w a H g=>g.o (zO g rfl) H λx29 w a H g=>g.o (zP g rfl) H λx30 w a H g=>g.o (zO g rfl) H λx31 w a H g=>g.c (zb g zQX rfl rfl) H λe w H=>?_)
     obtain ⟨r_2,r_3,r_4,rfl,H⟩:=H
     exact ⟨_,rfl,λ_ g=>(g.m rfl λ_ g=>g.p (zc g rfl rfl) λ_ g=>g.p (zc g rfl rfl) λ_ g=>g.p (zc g rfl rfl) λ_ g=>g.o (zP g rfl) H λx36 w a H g=>g.h (zT g rfl rfl) H λw a H g=>g.o (zP g rfl) H λx37 w a H g=>g.h (zT g rfl rfl) H λw a H g=>g.o (zP g rfl) H λx38 w a H g=>g.h (zT g rfl rfl) H λw a H g=>zL (bn (tn (hj1 () _ _ H (g.k)))))⟩
    ·have H:=H.2 hc
     refine zI (zE (g.o (zP g rfl) H λx40 w a H g=>g.o (zO g rfl) H λx41 w a H g=>g.p (Zb g rfl rfl) λ_ g=>g.s rfl λ_ g=>zL (tn (zd g rfl (λhc=>?_) (λhc=>?_)))))
     ·have H:=H.1 hc
      refine zE (g.m rfl λ_ g=>g.o (zP g rfl) H λx45 w a H g=>g.o (zO g rfl) H λx46 w a H g=>g.o (zP g rfl) H λx47 w a H g=>g.o (zO g rfl) H λx48 w a H g=>g.o (zP g rfl) H λx49 w a H g=>g.o (zO g rfl) H λx50 w a H g=>g.c (zb g zR2 rfl rfl) H λe w H=>?_)
      obtain ⟨r_5,r_6,rfl,H⟩:=H
      exact ⟨_,rfl,λ_ g=>(g.m rfl λ_ g=>g.p (zc g rfl rfl) λ_ g=>g.p (zc g rfl rfl) λ_ g=>g.o (zP g rfl) H λx54 w a H g=>g.h (zT g rfl rfl) H λw a H g=>g.o (zP g rfl) H λx55 w a H g=>g.h (zT g rfl rfl) H λw a H g=>zL (bn (tn (hj1 () _ _ H (g.k)))))⟩
     ·have H:=H.2 hc
      refine zI (zE (g.o (zP g rfl) H λx57 w a H g=>g.o (zO g rfl) H λx58 w a H g=>g.p (Zb g rfl rfl) λ_ g=>g.s rfl λ_ g=>zL (tn (zd g rfl (λhc=>?_) (λhc=>?_)))))
      ·have H:=H.1 hc
       refine zE (g.m rfl λ_ g=>g.o (zP g rfl) H λx61 w a H g=>g.o (zO g rfl) H λx62 w a H g=>g.o (zP g rfl) H λx63 w a H g=>g.o (zO g rfl) H λx64 w a H g=>g.o (zP g rfl) H λx65 w a H g=>g.o (zO g rfl) H λx66 w a H g=>g.c (zb g zP5 rfl rfl) H λe w H=>?_)
       obtain ⟨r_7,rfl,H⟩:=H
       exact ⟨_,rfl,λ_ g=>(g.o (zP g rfl) H λx68 w a H g=>g.h (zT g rfl rfl) H λw a H g=>zL (bn (tn (hj1 () _ _ H (g.k)))))⟩
      ·have H:=H.2 hc
       refine zI (zE (g.o (zP g rfl) H λx70 w a H g=>g.o (zO g rfl) H λx71 w a H g=>g.p (Zb g rfl rfl) λ_ g=>g.s rfl λ_ g=>zL (tn (zd g rfl (λhc=>?_) (λhc=>?_)))))
       ·have H:=H.1 hc
        refine zE (g.m rfl λ_ g=>g.o (zP g rfl) H λx74 w a H g=>g.o (zO g rfl) H λx75 w a H g=>g.o (zP g rfl) H λx76 w a H g=>g.o (zO g rfl) H λx77 w a H g=>g.c (zb g zS6 rfl rfl) H λe w H=>?_)
        obtain ⟨r_8,rfl,H⟩:=H
        exact ⟨_,rfl,λ_ g=>(g.o (zP g rfl) H λx79 w a H g=>g.h (zT g rfl rfl) H λw a H g=>zL (bn (tn (hj1 () _ _ H (g.k)))))⟩
       ·have H:=H.2 hc
        refine zI (zE (g.o (zP g rfl) H λx81 w a H g=>g.o (zO g rfl) H λx82 w a H g=>g.p (Zb g rfl rfl) λ_ g=>g.s rfl λ_ g=>zL (tn (zd g rfl (λhc=>?_) (λhc=>?_)))))
        ·have H:=H.1 hc
         refine zE (g.m rfl λ_ g=>g.o (zP g rfl) H λx86 w a H g=>g.o (zO g rfl) H λx87 w a H g=>g.c (zb g zQV rfl rfl) H λe w H=>?_)
         obtain ⟨r_9,r_10,r_11,rfl,H⟩:=H
         exact ⟨_,rfl,λ_ g=>(g.m rfl λ_ g=>g.p (zc g rfl rfl) λ_ g=>g.p (zc g rfl rfl) λ_ g=>g.p (zc g rfl rfl) λ_ g=>g.o (zP g rfl) H λx92 w a H g=>g.h (zT g rfl rfl) H λw a H g=>g.o (zP g rfl) H λx93 w a H g=>g.h (zT g rfl rfl) H λw a H g=>g.o (zP g rfl) H λx94 w a H g=>g.h (zT g rfl rfl) H λw a H g=>zL (bn (tn (hj1 () _ _ H (g.k)))))⟩
        ·have H:=H.2 hc
         refine zI (zE (g.o (zP g rfl) H λx96 w a H g=>g.o (zO g rfl) H λx97 w a H g=>g.p (Zb g rfl rfl) λ_ g=>g.s rfl λ_ g=>zL (tn (zd g rfl (λhc=>?_) (λhc=>?_)))))
         ·have H:=H.1 hc
          refine zE (g.m rfl λ_ g=>g.o (zP g rfl) H λx100 w a H g=>g.o (zO g rfl) H λx101 w a H g=>g.c (zb g zTi rfl rfl) H λe w H=>?_)
          obtain ⟨r_12,rfl,H⟩:=H
          exact ⟨_,rfl,λ_ g=>(g.o (zP g rfl) H λx103 w a H g=>g.h (zT g rfl rfl) H λw a H g=>zL (bn (tn (hj1 () _ _ H (g.k)))))⟩
         ·have H:=H.2 hc
          exact zY (bn (tn (hj1 () _ _ H (g.k))))
def zFt (x0:Option Addr) (x1:Int) (x2:ByteArray) (w:World) (Ret:ByteArray->Bool->Int->World->Prop):Prop:=
 Cl zA 36 [(.pointer x0),(.int .i64 x1)].toArray w (λe w=>∃ (r:Option Addr) (r_1:Int),e=.returned (.tuple [(.pointer r),(.int .i64 r_1)].toArray)/\(((r_1≠0)->(Ret (ByteArray.mk #[]) false r_1 w))/\(¬ (r_1≠0)->(((256<(x2.size:Int))->(Ret (ByteArray.mk #[]) false 4 w))/\(¬ (256<(x2.size:Int))->(Qg (.pointer r)/\(opE zA zB (zN 92 (.pointer r) 1) w (λx30 w=>opE zA Sl.v (zD 90 (.pointer x30)) w (λx31 w=>((256<=(x31.len:Int))->(Ret (ByteArray.mk #[]) false 3 w))/\(¬ (256<=(x31.len:Int))->(Qg (.pointer r)/\(opE zA zB (zN 92 (.pointer r) 1) w (λx37 w=>opE zA Sl.v (zD 90 (.pointer x37)) w (λx38 w=>opE zA yD.v (yr 103 [(0,(.string x2)),(2,(.bool true))].toArray) w (λx40 w=>opE zA Sl.v (ze 90 1 [(0,(yD.v x40))].toArray) w (λx41 w=>opE zA Sl.v (Builtin.append_ #[90,90] 90 [(Sl.v x38),(Sl.v x41)].toArray) w (λx42 w=>Qg (.pointer r)/\(opE zA zB (zN 92 (.pointer r) 1) w (λx44 w=>opU zA (zK 90 (.pointer x44) (Sl.v x42)) w (λw=>Qg (.pointer r)/\(opE zA zB (zN 92 (.pointer r) 2) w (λx48 w=>opE zA Value.map (zD 89 (.pointer x48)) w (λx49 w=>opE zA (λp:zJ × Bool=>.tuple [(zJ.v p.1),(.bool p.2)].toArray) (Instr.lookup 89 (.map x49) (.string x2) true) w (λx51 w=>opE zA zB (zf 34 true (.tuple #[])) w (λx11 w=>opU zA (zK 34 (.pointer x11) (zJ.v x51.1)) w (λw=>(x51.2=true->(opB zA zB (zN 34 (.pointer x11) 1) w (λx55=>opB zA zZ (zD 9 (.pointer x55)) w (λx56=>opB zA zB (zN 34 (.pointer x11) 2) w (λx57=>opB zA xv (zD 4 (.pointer x57)) w (λx58=>yM w (λw=>Ret x56 (!x58) 0 w)))))))/\(x51.2=false->(Qg (.pointer x0)/\(opB zA zB (zN 87 (.pointer x0) 0) w (λx62=>opB zA zQ.v (zD 69 (.pointer x62)) w (λx63=>Qg (.pointer r)/\(opB zA zB (zN 92 (.pointer r) 0) w (λx67=>opB zA (zV .u64) (zD 37 (.pointer x67)) w (λx68=>∃ (r_2:ByteArray) (r_3:Bool) (r_4:Int),(∀ w',Bel w w'->Cl zA 51 [(zQ.v x63),(.string x2),(.int .u64 x68)].toArray w' (λe w''=>e=.returned (.tuple [(.string r_2),(.bool r_3),(.int .i64 r_4)].toArray)/\Bel w' w''))/\(yM w (λw=>Ret r_2 r_3 r_4 w))))))))))))))))))))))))))))))))))))
set_option maxRecDepth 100000 in
theorem zJv (x0:Option Addr) (x1:Int) (x2:ByteArray) (w:World) (Ret:ByteArray->Bool->Int->World->Prop) (H:zFt x0 x1 x2 w Ret):Cl zA 22 [(.pointer x0),(.int .i64 x1),(.string x2)].toArray w (λe w'=>∃ (r0:ByteArray) (r1:Bool) (r2:Int),e=.returned (.tuple [(.string r0),(.bool r1),(.int .i64 r2)].toArray)/\Ret r0 r1 r2 w'):=by
 unfold zFt at H
 refine zp 73 (zipE 0 [(.pointer x0),(.int .i64 x1),(.string x2)]) Tryz.func22 rfl rfl (by rfl) rfl ?_
 intro a g
 have g:Sat [] 73 [(0,(.pointer x0)),(1,(.int .i64 x1)),(2,(.string x2))] a:=g
 refine zI (zE (g.s rfl λ_ g=>g.s rfl λ_ g=>g.s rfl λ_ g=>zL (tn (zI (zE (g.m rfl λ_ g=>g.m rfl λ_ g=>g.c (zb g zM9 rfl rfl) H λe w H=>?_))))))
 obtain ⟨r,r_1,rfl,H⟩:=H
 refine ⟨_,rfl,λ_ g=>(g.m rfl λ_ g=>g.p (zc g rfl rfl) λ_ g=>g.p (zc g rfl rfl) λ_ g=>g.s rfl λ_ g=>g.s rfl λ_ g=>zL (tn (zI (zX (zI (zE (g.m rfl λ_ g=>g.p (zFc g rfl rfl) λ_ g=>g.s rfl λ_ g=>zL (tn (zd g rfl (λhc=>?_) (λhc=>?_))))))))))⟩
 ·have H:=H.1 hc
  exact zI (zE (g.m rfl λ_ g=>g.s rfl λ_ g=>g.s rfl λ_ g=>g.s rfl λ_ g=>zL (tn (zl (br (tr (zJt g rfl rfl rfl rfl ⟨_,_,_,rfl,H⟩)))))))
 ·have H:=H.2 hc
  refine zI (zE (g.m rfl λ_ g=>g.purR (λw=>zH4 g Tryz.underlying9 rfl) λ_ g=>g.p (zBx g rfl rfl) λ_ g=>g.s rfl λ_ g=>zL (tn (zd g rfl (λhc=>?_) (λhc=>?_)))))
  ·have H:=H.1 hc
   exact zI (zE (g.s rfl λ_ g=>g.s rfl λ_ g=>g.s rfl λ_ g=>zL (tn (zl (br (tr (zJt g rfl rfl rfl rfl ⟨_,_,_,rfl,H⟩)))))))
  ·have H:=H.2 hc
   refine zI (zE (g.m rfl λ_ g=>g.p (zj g rfl H.1) λ_ g=>?_))
   have H:=H.2
   refine g.o (zP g rfl) H λx30 w a H g=>g.o (zO g rfl) H λx31 w a H g=>g.purR (λw=>ZU g Tryz.underlying90 rfl) λ_ g=>g.p (Zm g rfl rfl) λ_ g=>g.s rfl λ_ g=>zL (tn (zd g rfl (λhc=>?_) (λhc=>?_)))
   ·have H:=H.1 hc
    exact zI (zE (g.s rfl λ_ g=>g.s rfl λ_ g=>g.s rfl λ_ g=>zL (tn (zl (br (tr (zJt g rfl rfl rfl rfl ⟨_,_,_,rfl,H⟩)))))))
   ·have H:=H.2 hc
    refine zY (bn (tn (zI (zE (g.m rfl λ_ g=>g.m rfl λ_ g=>g.p (zj g rfl H.1) λ_ g=>?_)))))
    have H:=H.2
    refine g.o (zP g rfl) H λx37 w a H g=>g.o (zO g rfl) H λx38 w a H g=>g.m rfl λ_ g=>g.o (Z5 g rfl) H λx40 w a H g=>g.o (yj g rfl) H λx41 w a H g=>g.o (zA6 g rfl) H λx42 w a H g=>g.p (zj g rfl H.1) λ_ g=>?_
    have H:=H.2
    refine g.o (zP g rfl) H λx44 w a H g=>g.h (zT g rfl rfl) H λw a H g=>zL (tn (zI (zI (zE (g.m rfl λ_ g=>g.p (zj g rfl H.1) λ_ g=>?_)))))
    have H:=H.2
    refine g.o (zP g rfl) H λx48 w a H g=>g.o (zO g rfl) H λx49 w a H g=>g.m rfl λ_ g=>g.o (zId g rfl rfl) H λx51 w a H g=>g.m rfl λ_ g=>g.p (zc g rfl rfl) λ_ g=>g.p (zc g rfl rfl) λ_ g=>g.o (xY) H λx11 w a H g=>g.h (zT g rfl rfl) H λw a H g=>g.s rfl λ_ g=>zL (tn (zI (zE (g.m rfl λ_ g=>zL (tn (zk g rfl (λhc=>?_) (λhc=>?_)))))))
    ·have H:=H.1 hc
     refine zI (QU (by kernel_rfl) (by kernel_rfl) (g.A (zP g rfl) H λx55 a H g=>g.A (zO g rfl) H λx56 a H g=>g.A (zP g rfl) H λx57 a H g=>g.A (zO g rfl) H λx58 a H g=>g.r (zAJ g rfl) λ_ g=>g.r (ZI g rfl) λ_ g=>g.r (ZI g rfl) λ_ g=>g.r (ZI g rfl) λ_ g=>Qb (λw hB=>?_)))
     replace H:=H w hB
     exact (tn (zl (tr (zJt g rfl rfl rfl rfl ⟨_,_,_,rfl,H⟩))))
    ·have H:=H.2 hc
     refine zY (tn (zI (QU (by kernel_rfl) (by kernel_rfl) (g.t rfl λ_ g=>g.r (zj g rfl H.1) λ_ g=>?_))))
     have H:=H.2
     refine g.A (zP g rfl) H λx62 a H g=>g.A (zO g rfl) H λx63 a H g=>g.t rfl λ_ g=>g.t rfl λ_ g=>g.r (zj g rfl H.1) λ_ g=>?_
     have H:=H.2
     refine g.A (zP g rfl) H λx67 a H g=>g.A (zO g rfl) H λx68 a H g=>?_
     obtain ⟨r_2,r_3,r_4,hc,H⟩:=H
     refine g.qcall (λw'=>zb g zTD rfl rfl) hc λ_ g=>g.r (zc g rfl rfl) λ_ g=>g.r (zc g rfl rfl) λ_ g=>g.r (zc g rfl rfl) λ_ g=>g.r (ZI g rfl) λ_ g=>g.r (ZI g rfl) λ_ g=>g.r (ZI g rfl) λ_ g=>Qb (λw hB=>?_)
     replace H:=H w hB
     exact (tn (zl (zJt g rfl rfl rfl rfl ⟨_,_,_,rfl,H⟩)))
def zEu (x0:Option Addr) (x1:Int) (w:World) (Ret:Int->World->Prop):Prop:=
 Cl zA 36 [(.pointer x0),(.int .i64 x1)].toArray w (λe w=>∃ (r:Option Addr) (r_1:Int),e=.returned (.tuple [(.pointer r),(.int .i64 r_1)].toArray)/\(((r_1≠0)->(Ret r_1 w))/\(¬ (r_1≠0)->(Cl zA 37 [(.pointer x0),(.int .i64 x1)].toArray w (λe w=>e=.returned (.tuple [].toArray)/\(Ret 0 w))))))
set_option maxRecDepth 100000 in
theorem zIq (x0:Option Addr) (x1:Int) (w:World) (Ret:Int->World->Prop) (H:zEu x0 x1 w Ret):Cl zA 29 [(.pointer x0),(.int .i64 x1)].toArray w (λe w'=>∃ (r0:Int),e=.returned (.int .i64 r0)/\Ret r0 w'):=by
 unfold zEu at H
 refine zp 19 (zipE 0 [(.pointer x0),(.int .i64 x1)]) Tryz.func29 rfl rfl (by rfl) rfl ?_
 intro a g
 have g:Sat [] 19 [(0,(.pointer x0)),(1,(.int .i64 x1))] a:=g
 refine zI (zE (g.s rfl λ_ g=>zL (tn (zI (zI (zE (g.m rfl λ_ g=>g.m rfl λ_ g=>g.c (zb g zM9 rfl rfl) H λe w H=>?_)))))))
 obtain ⟨r,r_1,rfl,H⟩:=H
 refine ⟨_,rfl,λ_ g=>(g.m rfl λ_ g=>g.p (zc g rfl rfl) λ_ g=>g.p (zc g rfl rfl) λ_ g=>g.s rfl λ_ g=>g.s rfl λ_ g=>zL (tn (zI (zE (g.m rfl λ_ g=>g.p (zFc g rfl rfl) λ_ g=>zL (tn (zd g rfl (λhc=>?_) (λhc=>?_))))))))⟩
 ·have H:=H.1 hc
  exact zI (zE (g.m rfl λ_ g=>g.s rfl λ_ g=>zL (tn (zl (tr (zw g rfl rfl ⟨_,rfl,H⟩))))))
 ·have H:=H.2 hc
  refine zY (tn (zI (zE (g.m rfl λ_ g=>g.m rfl λ_ g=>g.c (zb g zNV rfl rfl) H λe w H=>?_))))
  obtain ⟨rfl,H⟩:=H
  exact ⟨_,rfl,λ_ g=>(zL (tn (zI (zE (g.s rfl λ_ g=>zL (tn (zl (zw g rfl rfl ⟨_,rfl,H⟩))))))))⟩
def zF4 (x0:Option Addr) (w:World) (Ret:Int->World->Prop):Prop:=
 opE zA xv (do eqGuard .eql 26 (.tmp 3) (.const (.pointer none)) (.pointer x0) (.pointer none);binOp .eql 26 (.pointer x0) (.pointer none)) w (λx4 w=>(x4=true->(Ret 0 w))/\(x4=false->(Qg (.pointer x0)/\(opE zA zB (zN 87 (.pointer x0) 1) w (λx7 w=>opE zA (zV .u64) (zD 37 (.pointer x7)) w (λx8 w=>Ret x8 w))))))
set_option maxRecDepth 100000 in
theorem zJe (x0:Option Addr) (w:World) (Ret:Int->World->Prop) (H:zF4 x0 w Ret):Cl zA 31 [(.pointer x0)].toArray w (λe w'=>∃ (r0:Int),e=.returned (.int .u64 r0)/\Ret r0 w'):=by
 unfold zF4 at H
 refine zp 9 (zipE 0 [(.pointer x0)]) Tryz.func31 rfl rfl (by rfl) rfl ?_
 intro a g
 have g:Sat [] 9 [(0,(.pointer x0))] a:=g
 refine zI (zE (g.s rfl λ_ g=>zL (tn (zI (zI (zE (g.m rfl λ_ g=>g.o (zCz g rfl rfl) H λx4 w a H g=>zL (tn (zk g rfl (λhc=>?_) (λhc=>?_))))))))))
 ·have H:=H.1 hc
  exact zI (zE (g.s rfl λ_ g=>zL (tn (zl (tr (zw g rfl rfl ⟨_,rfl,H⟩))))))
 ·have H:=H.2 hc
  refine zY (tn (zI (zE (g.m rfl λ_ g=>g.p (zj g rfl H.1) λ_ g=>?_))))
  have H:=H.2
  exact g.o (zP g rfl) H λx7 w a H g=>g.o (zO g rfl) H λx8 w a H g=>g.s rfl λ_ g=>zL (tn (zl (zw g rfl rfl ⟨_,rfl,H⟩)))
def Zz (x0:Sl) (x1:Value) (w:World) (Ret:Bool->World->Prop):Prop:=
 Cl zA 55 [(Sl.v x0),x1].toArray w (λe w=>∃ (r:Int),e=.returned (.int .i64 r)/\(Ret (decide (0<=r)) w))
set_option maxRecDepth 100000 in
theorem zDk (x0:Sl) (x1:Value) (w:World) (Ret:Bool->World->Prop) (H:Zz x0 x1 w Ret):Cl zA 33 [(Sl.v x0),x1].toArray w (λe w'=>∃ (r0:Bool),e=.returned (.bool r0)/\Ret r0 w'):=by
 unfold Zz at H
 refine zp 9 (zipE 0 [(Sl.v x0),x1]) Tryz.func33 rfl rfl (by rfl) rfl ?_
 intro a g
 have g:Sat [] 9 [(0,(Sl.v x0)),(1,x1)] a:=g
 refine zI (zE (g.s rfl λ_ g=>(zL (tn (zI (zE (g.m rfl λ_ g=>(g.m rfl λ_ g=>(g.c (zb g zRx rfl rfl) H λe w H=>?_)))))))))
 obtain ⟨r,rfl,H⟩:=H
 exact ⟨_,rfl,λ_ g=>(g.p (Zm g rfl rfl) λ_ g=>(g.s rfl λ_ g=>(zL (tn (zl (zw g rfl rfl ⟨_,rfl,H⟩))))))⟩
def zAT (Ret:Int->World->Prop) (x5:Option Addr) (r:Option Addr) (x51:Bool) (w:World):Prop:=
 (x51=true->(Ret 3 w))/\(x51=false->(regC w (λC4 w=>Qg (.pointer r)/\(opC C4 zA zB (zN 92 (.pointer r) 2) (λx54=>opC C4 zA zB (zN 34 (.pointer x5) 0) (λx56=>opC C4 zA Value.map (zD 89 (.pointer x54)) (λx55=>opC C4 zA zZ (zD 9 (.pointer x56)) (λx57=>opC C4 zA zJ.v (zD 34 (.pointer x5)) (λx58=>opU zA (Instr.mapUpdate 89 (.map x55) (.string x57) (zJ.v x58)) w (λw=>C4 w/\(Ret 0 w)))))))))))
def zAS (Ret:Int->World->Prop) (x5:Option Addr) (r:Option Addr) (x27:zJ × Bool) (x40:Bool) (w:World):Prop:=
 (x40=true->(Ret 4 w))/\(x40=false->(((!x27.2)=true->(Qg (.pointer r)/\(opE zA zB (zN 92 (.pointer r) 2) w (λx47 w=>opE zA Value.map (zD 89 (.pointer x47)) w (λx48 w=>opE zA (zV .i64) (Builtin.len_ #[89] 3 [(.map x48)].toArray) w (λx49 w=>zAT Ret x5 r (decide (256<=x49)) w))))))/\((!x27.2)=false->(zAT Ret x5 r false w))))
def zEx (x0:Option Addr) (x1:Int) (x2:zJ) (w:World) (Ret:Int->World->Prop):Prop:=
 opE zA zB (Instr.box 34 (zJ.v x2)) w (λx5 w=>Cl zA 36 [(.pointer x0),(.int .i64 x1)].toArray w (λe w=>∃ (r:Option Addr) (r_1:Int),e=.returned (.tuple [(.pointer r),(.int .i64 r_1)].toArray)/\(((r_1≠0)->(Ret r_1 w))/\(¬ (r_1≠0)->(regC w (λC1 w=>Qg (.pointer r)/\(opC C1 zA zB (zN 92 (.pointer r) 2) (λx23=>opC C1 zA zB (zN 34 (.pointer x5) 0) (λx25=>opC C1 zA Value.map (zD 89 (.pointer x23)) (λx24=>opC C1 zA zZ (zD 9 (.pointer x25)) (λx26=>opC C1 zA (λp:zJ × Bool=>.tuple [(zJ.v p.1),(.bool p.2)].toArray) (Instr.lookup 89 (.map x24) (.string x26) true) (λx27=>opE zA zB (zf 34 true (.tuple #[])) w (λx9 w=>C1 w/\(opU zA (zK 34 (.pointer x9) (zJ.v x27.1)) w (λw=>C1 w/\(opE zA zB (zN 34 (.pointer x5) 0) w (λx31 w=>opE zA zZ (zD 9 (.pointer x31)) w (λx32 w=>((256<(x32.size:Int))->(zAS Ret x5 r x27 true w))/\(¬ (256<(x32.size:Int))->(opE zA zB (zN 34 (.pointer x5) 1) w (λx36 w=>opE zA zZ (zD 9 (.pointer x36)) w (λx37 w=>zAS Ret x5 r x27 (decide (512<(x37.size:Int))) w))))))))))))))))))))))
set_option maxRecDepth 100000 in
theorem zIs (x0:Option Addr) (x1:Int) (x2:zJ) (w:World) (Ret:Int->World->Prop) (H:zEx x0 x1 x2 w Ret):Cl zA 35 [(.pointer x0),(.int .i64 x1),(zJ.v x2)].toArray w (λe w'=>∃ (r0:Int),e=.returned (.int .i64 r0)/\Ret r0 w'):=by
 unfold zEx at H
 refine zp 59 (zipE 0 [(.pointer x0),(.int .i64 x1),(zJ.v x2)]) Tryz.func35 rfl rfl (by rfl) rfl ?_
 intro a g
 have g:Sat [] 59 [(0,(.pointer x0)),(1,(.int .i64 x1)),(2,(zJ.v x2))] a:=g
 refine zI (zE (g.o (zBc g rfl) H λx5 w a H g=>g.s rfl λ_ g=>zL (tn (zI (zE (g.m rfl λ_ g=>g.m rfl λ_ g=>g.c (zb g zM9 rfl rfl) H λe w H=>?_))))))
 obtain ⟨r,r_1,rfl,H⟩:=H
 refine ⟨_,rfl,λ_ g=>(g.m rfl λ_ g=>g.p (zc g rfl rfl) λ_ g=>g.p (zc g rfl rfl) λ_ g=>g.s rfl λ_ g=>g.s rfl λ_ g=>zL (tn (zI (zI (zE (g.m rfl λ_ g=>g.p (zFc g rfl rfl) λ_ g=>zL (tn (zd g rfl (λhc=>?_) (λhc=>?_)))))))))⟩
 ·have H:=H.1 hc
  exact zI (zE (g.m rfl λ_ g=>g.s rfl λ_ g=>zL (tn (zl (tr (zw g rfl rfl ⟨_,rfl,H⟩))))))
 ·have H:=H.2 hc
  refine zY (tn (zI (zPV H 13 λC1 w hC0 H=>g.kp 0 rfl hC0 (xu (zR g rfl)) λ_ g=>g.kp 1 rfl hC0 (xu (zj g rfl H.1)) λ_ g=>?_)))
  have H:=H.2
  refine g.ko 2 rfl hC0 (zP g rfl) H λx23 a H g=>g.ko 4 rfl hC0 (zP g rfl) H λx25 a H g=>g.ko 3 rfl hC0 (zO g rfl) H λx24 a H g=>g.ko 5 rfl hC0 (zO g rfl) H λx26 a H g=>g.ko 6 rfl hC0 (zId g rfl rfl) H λx27 a H g=>g.kp 7 rfl hC0 (xu (zR g rfl)) λ_ g=>g.kp 8 rfl hC0 (xu (zc g rfl rfl)) λ_ g=>g.kp 9 rfl hC0 (xu (zc g rfl rfl)) λ_ g=>WK.on 10 rfl ?_
  intro K hK
  refine g.i (xY) H λx9 w a H g=>hK _ _ ⟨H.1,?_⟩
  have hC1:=H.1
  have H:=H.2
  refine WK.on 11 rfl ?_
  intro K hK
  refine g.wopu (zT g rfl rfl) H λw a H g=>hK _ _ ⟨H.1,?_⟩
  have hC2:=H.1
  have H:=H.2
  refine g.kp 12 rfl hC2 (xu (ZI g rfl)) λ_ g=>WK.nil (by kernel_rfl) ((tn (zI (zX (zI (zE (g.o (zP g rfl) H λx31 w a H g=>g.o (zO g rfl) H λx32 w a H g=>g.purR (λw=>zH4 g Tryz.underlying9 rfl) λ_ g=>g.p (zBx g rfl rfl) λ_ g=>g.m rfl λ_ g=>WL.join (ds:=[]) (N:=59) (σ:=Bool) (λs=>[(40,(.bool s)),(5,(.pointer x5)),(7,(.pointer r)),(10,(.bool x27.2))]) (λs w=>zAS Ret x5 r x27 s w) 5 ?_ (λhr2=>?_))))))))
  ·intro x40 w a H g
   try dsimp only at H g
   unfold zAS at H
   refine g.s rfl λ_ g=>zL (tn (zk g rfl (λhc=>?_) (λhc=>?_)))
   ·have H:=H.1 hc
    exact zI (zE (g.s rfl λ_ g=>zL (tn (zl (br (tr (zw g rfl rfl ⟨_,rfl,H⟩)))))))
   ·have H:=H.2 hc
    refine zI (zE (g.m rfl λ_ g=>g.p (zAJ g rfl) λ_ g=>g.m rfl λ_ g=>WL.join (ds:=[]) (N:=59) (σ:=Bool) (λs=>[(51,(.bool s)),(5,(.pointer x5)),(7,(.pointer r))]) (λs w=>zAT Ret x5 r s w) 7 ?_ (λhr3=>?_)))
    ·intro x51 w a H g
     try dsimp only at H g
     unfold zAT at H
     refine g.s rfl λ_ g=>zL (tn (zk g rfl (λhc=>?_) (λhc=>?_)))
     ·have H:=H.1 hc
      exact zI (zE (g.s rfl λ_ g=>zL (tn (zl (br (tr (zw g rfl rfl ⟨_,rfl,H⟩)))))))
     ·have H:=H.2 hc
      refine zY (bn (tn (zI (zPV H 8 λC4 w hC0 H=>g.kp 0 rfl hC0 (xu (zR g rfl)) λ_ g=>g.kp 1 rfl hC0 (xu (zj g rfl H.1)) λ_ g=>?_))))
      have H:=H.2
      refine g.ko 2 rfl hC0 (zP g rfl) H λx54 a H g=>g.ko 4 rfl hC0 (zP g rfl) H λx56 a H g=>g.ko 3 rfl hC0 (zO g rfl) H λx55 a H g=>g.ko 5 rfl hC0 (zO g rfl) H λx57 a H g=>g.ko 6 rfl hC0 (zO g rfl) H λx58 a H g=>WK.on 7 rfl ?_
      intro K hK
      refine g.wopu (zIl g rfl rfl rfl) H λw a H g=>hK _ _ ⟨H.1,?_⟩
      have hC1:=H.1
      have H:=H.2
      exact WK.nil (by kernel_rfl) ((tn (zI (zE (g.s rfl λ_ g=>zL (tn (zl (zw g rfl rfl ⟨_,rfl,H⟩))))))))
    ·rcases Bool.eq_false_or_eq_true ((!x27.2)) with hbr3|hbr3
     ·have H:=H.1 hbr3
      have g:=g.b (b:=true) (t:=44) rfl (hbr3)
      refine g.z (g.m rfl λ_ g=>g.z (g.p (zj g rfl H.1) λ_ g=>?_))
      have H:=H.2
      exact g.z (g.o (zP g rfl) H λx47 w a H g=>g.z (g.o (zO g rfl) H λx48 w a H g=>g.z (g.o (zNM g rfl) H λx49 w a H g=>g.z (g.p (Zm g rfl rfl) λ_ g=>g.p (zx g rfl rfl) λ_ g=>hr3 (decide (256<=x49)) _ _ H (g.k)))))
     ·have H:=H.2 hbr3
      have g:=g.b (b:=false) (t:=44) rfl (hbr3)
      exact g.d (λ_ g=>g.d (λ_ g=>g.d (λ_ g=>g.d (λ_ g=>g.d (λ_ g=>g.d (λ_ g=>g.p (zy g rfl rfl) λ_ g=>hr3 false _ _ H (g.k)))))))
  ·rcases Classical.em ((256<(x32.size:Int))) with hbr2|hbr2
   ·have H:=H.1 hbr2
    have g:=g.b (b:=true) (t:=35) rfl (decide_eq_true hbr2)
    exact g.d (λ_ g=>g.d (λ_ g=>g.d (λ_ g=>g.d (λ_ g=>g.p (zx g rfl rfl) λ_ g=>hr2 true _ _ H (g.k)))))
   ·have H:=H.2 hbr2
    have g:=g.b (b:=false) (t:=35) rfl (decide_eq_false hbr2)
    exact g.z (g.o (zP g rfl) H λx36 w a H g=>g.z (g.o (zO g rfl) H λx37 w a H g=>g.z (g.purR (λw=>zH4 g Tryz.underlying9 rfl) λ_ g=>g.z (g.p (zBx g rfl rfl) λ_ g=>g.p (zy g rfl rfl) λ_ g=>hr2 (decide (512<(x37.size:Int))) _ _ H (g.k)))))
def zGG (x0:Option Addr) (x1:Int) (w:World) (Ret:(Option Addr)->Int->World->Prop):Prop:=
 opE zA xv (do eqGuard .eql 26 (.tmp 7) (.const (.pointer none)) (.pointer x0) (.pointer none);binOp .eql 26 (.pointer x0) (.pointer none)) w (λx8 w=>(x8=true->(Ret none 1 w))/\(x8=false->(Qg (.pointer x0)/\(opE zA zB (zN 87 (.pointer x0) 3) w (λx11 w=>opE zA Value.map (zD 85 (.pointer x11)) w (λx12 w=>opE zA zB (Instr.lookup 85 (.map x12) (.int .i64 x1) false) w (λx14 w=>opE zA xv (do eqGuard .eql 88 (.tmp 15) (.const (.pointer none)) (.pointer x14) (.pointer none);binOp .eql 88 (.pointer x14) (.pointer none)) w (λx16 w=>(x16=true->(Ret none 11 w))/\(x16=false->(Ret x14 0 w))))))))))
set_option maxRecDepth 100000 in
theorem zKD (x0:Option Addr) (x1:Int) (w:World) (Ret:(Option Addr)->Int->World->Prop) (H:zGG x0 x1 w Ret):Cl zA 36 [(.pointer x0),(.int .i64 x1)].toArray w (λe w'=>∃ (r0:Option Addr) (r1:Int),e=.returned (.tuple [(.pointer r0),(.int .i64 r1)].toArray)/\Ret r0 r1 w'):=by
 unfold zGG at H
 refine zp 18 (zipE 0 [(.pointer x0),(.int .i64 x1)]) Tryz.func36 rfl rfl (by rfl) rfl ?_
 intro a g
 have g:Sat [] 18 [(0,(.pointer x0)),(1,(.int .i64 x1))] a:=g
 refine zI (zE (g.s rfl λ_ g=>g.s rfl λ_ g=>zL (tn (zI (zI (zE (g.m rfl λ_ g=>g.o (zCz g rfl rfl) H λx8 w a H g=>zL (tn (zk g rfl (λhc=>?_) (λhc=>?_))))))))))
 ·have H:=H.1 hc
  exact zI (zE (g.s rfl λ_ g=>g.s rfl λ_ g=>zL (tn (zl (tr (ZK g rfl rfl rfl ⟨_,_,rfl,H⟩))))))
 ·have H:=H.2 hc
  refine zY (tn (zI (zE (g.m rfl λ_ g=>g.p (zj g rfl H.1) λ_ g=>?_))))
  have H:=H.2
  refine g.o (zP g rfl) H λx11 w a H g=>g.o (zO g rfl) H λx12 w a H g=>g.m rfl λ_ g=>g.o (zId g rfl rfl) H λx14 w a H g=>g.s rfl λ_ g=>zL (tn (zI (zI (zE (g.m rfl λ_ g=>g.o (zCz g rfl rfl) H λx16 w a H g=>zL (tn (zk g rfl (λhc=>?_) (λhc=>?_))))))))
  ·have H:=H.1 hc
   exact zI (zE (g.s rfl λ_ g=>g.s rfl λ_ g=>zL (tn (zl (tr (ZK g rfl rfl rfl ⟨_,_,rfl,H⟩))))))
  ·have H:=H.2 hc
   exact zY (tn (zI (zE (g.m rfl λ_ g=>g.s rfl λ_ g=>g.s rfl λ_ g=>zL (tn (zl (ZK g rfl rfl rfl ⟨_,_,rfl,H⟩)))))))
def zCv (x0:Option Addr) (x1:Option Addr) (w:World) (Ret:Bool->World->Prop):Prop:=
 opE zA zB (Instr.box 88 (.pointer x1)) w (λx3 w=>Qg (.pointer x0)/\(opE zA zB (zN 87 (.pointer x0) 0) w (λx7 w=>opE zA zB (zN 69 (.pointer x7) 0) w (λx8 w=>opE zA Sl.v (zD 67 (.pointer x8)) w (λx9 w=>Cl zA 57 [(Sl.v x9),(.func (.func 58) [].toArray [(.pointer x3)].toArray)].toArray w (λe w=>∃ (r:Bool),e=.returned (.bool r)/\(Ret r w)))))))
set_option maxRecDepth 100000 in
theorem zHb (x0:Option Addr) (x1:Option Addr) (w:World) (Ret:Bool->World->Prop) (H:zCv x0 x1 w Ret):Cl zA 38 [(.pointer x0),(.pointer x1)].toArray w (λe w'=>∃ (r0:Bool),e=.returned (.bool r0)/\Ret r0 w'):=by
 unfold zCv at H
 refine zp 12 (zipE 0 [(.pointer x0),(.pointer x1)]) Tryz.func38 rfl rfl (by rfl) rfl ?_
 intro a g
 have g:Sat [] 12 [(0,(.pointer x0)),(1,(.pointer x1))] a:=g
 refine zI (zE (g.o (zBc g rfl) H λx3 w a H g=>g.s rfl λ_ g=>zL (tn (zI (zE (g.m rfl λ_ g=>g.p (zj g rfl H.1) λ_ g=>?_))))))
 have H:=H.2
 refine g.o (zP g rfl) H λx7 w a H g=>g.o (zP g rfl) H λx8 w a H g=>g.o (zO g rfl) H λx9 w a H g=>g.p (zGK g rfl rfl) λ_ g=>g.c (zb g zR3 rfl rfl) H λe w H=>?_
 obtain ⟨r,rfl,H⟩:=H
 exact ⟨_,rfl,λ_ g=>(g.s rfl λ_ g=>zL (tn (zl (zw g rfl rfl ⟨_,rfl,H⟩))))⟩
def zGf (x0:Option Addr) (w:World) (Ret:Sl->World->Prop):Prop:=
 Qg (.pointer x0)/\(opE zA zB (zN 92 (.pointer x0) 2) w (λx5 w=>opE zA Value.map (zD 89 (.pointer x5)) w (λx6 w=>Cl zA 62 [(.map x6)].toArray w (λe w=>∃ (r:Value),e=.returned r/\(Cl zA 61 [r,(.func (.func 63) #[] #[])].toArray w (λe w=>∃ (r_1:Sl),e=.returned (Sl.v r_1)/\(Ret r_1 w)))))))
set_option maxRecDepth 100000 in
theorem zKh (x0:Option Addr) (w:World) (Ret:Sl->World->Prop) (H:zGf x0 w Ret):Cl zA 39 [(.pointer x0)].toArray w (λe w'=>∃ (r0:Sl),e=.returned (Sl.v r0)/\Ret r0 w'):=by
 unfold zGf at H
 refine zp 9 (zipE 0 [(.pointer x0)]) Tryz.func39 rfl rfl (by rfl) rfl ?_
 intro a g
 have g:Sat [] 9 [(0,(.pointer x0))] a:=g
 refine zI (zE (g.s rfl λ_ g=>(zL (tn (zI (zE (g.m rfl λ_ g=>(g.p (zj g rfl H.1) λ_ g=>?_))))))))
 have H:=H.2
 refine g.o (zP g rfl) H λx5 w a H g=>g.o (zO g rfl) H λx6 w a H g=>g.c (zb g zTe rfl rfl) H λe w H=>?_
 obtain ⟨r,rfl,H⟩:=H
 refine ⟨_,rfl,λ_ g=>(g.c (zb g zTG rfl rfl) H λe w H=>?_)⟩
 obtain ⟨r_1,rfl,H⟩:=H
 exact ⟨_,rfl,λ_ g=>(g.s rfl λ_ g=>(zL (tn (zl (zw g rfl rfl ⟨_,rfl,H⟩)))))⟩
def yw (x6:Int) (Kl1:Int->Int->World->Prop) (x5_1:Int) (w:World):Prop:=
 Kl1 x5_1 (zC .i64 (x6+1)) w
def Yp (x0:Sl) (x1:Value) (Ret:Sl->World->Prop) (x5:Int) (x6:Int) (w:World) (Kl1:Int->Int->World->Prop):Prop:=
 ((x6<(x0.len:Int))->(opE zA zB (zF 22 (Sl.v x0) (.int .i64 x6)) w (λx24 w=>opE zA zM.v (zD 66 (.pointer x24)) w (λx25 w=>opE zA zB (zf 66 true (.tuple #[])) w (λx7 w=>opU zA (zK 66 (.pointer x7) (zM.v x25)) w (λw=>opE zA zM.v (zD 66 (.pointer x7)) w (λx27 w=>zG6 zA x1 [(zM.v x27)] w (λe w=>∃ (r_1:Bool),e=.returned (.bool r_1)/\(((!r_1)=true->(opE zA zM.v (zD 66 (.pointer x7)) w (λx32 w=>opE zA zB (zF 22 (Sl.v x0) (.int .i64 x5)) w (λx33 w=>opU zA (zK 66 (.pointer x33) (zM.v x32)) w (λw=>yw x6 Kl1 (zC .i64 (x5+1)) w)))))/\((!r_1)=false->(yw x6 Kl1 x5 w)))))))))))/\(¬ (x6<(x0.len:Int))->(opE zA Sl.v (Instr.sliceAt 22 (Sl.v x0) (some (.int .i64 x5)) none none) w (λx38 w=>opE zA (λ_:Unit=>.tuple #[]) (Builtin.clear_ #[22] 0 [(Sl.v x38)].toArray) w (λz w=>opE zA Sl.v (Instr.sliceAt 22 (Sl.v x0) none (some (.int .i64 x5)) none) w (λx41 w=>Ret x41 w)))))
def zAN (x0:Sl) (x1:Value) (w:World) (Ret:Sl->World->Prop):Prop:=
 Cl zA 55 [(Sl.v x0),x1].toArray w (λe w=>∃ (r:Int),e=.returned (.int .i64 r)/\(((r=(-1))->(Ret x0 w))/\(¬ (r=(-1))->(∃ (I:Int->Int->World->Prop) (μ:Int->Int->World->Nat),I r (zC .i64 (r+1)) w/\∀ (x5:Int) (x6:Int) w,I x5 x6 w->Yp x0 x1 Ret x5 x6 w (λx5' x6' w'=>I x5' x6' w'/\μ x5' x6' w'<μ x5 x6 w)))))
set_option maxRecDepth 100000 in
theorem zEP (x0:Sl) (x1:Value) (w:World) (Ret:Sl->World->Prop) (H:zAN x0 x1 w Ret):Cl zA 43 [(Sl.v x0),x1].toArray w (λe w'=>∃ (r0:Sl),e=.returned (Sl.v r0)/\Ret r0 w'):=by
 unfold zAN at H
 refine zp 42 (zipE 0 [(Sl.v x0),x1]) Tryz.func43 rfl rfl (by rfl) rfl ?_
 intro a g
 have g:Sat [] 42 [(0,(Sl.v x0)),(1,x1)] a:=g
 refine zI (zE (g.s rfl λ_ g=>zL (tn (zI (zE (g.m rfl λ_ g=>g.m rfl λ_ g=>g.c (zb g zRx rfl rfl) H λe w H=>?_))))))
 obtain ⟨r,rfl,H⟩:=H
 refine ⟨_,rfl,λ_ g=>(g.s rfl λ_ g=>zL (tn (zI (zI (zE (g.m rfl λ_ g=>g.p (Zb g rfl rfl) λ_ g=>zL (tn (zd g rfl (λhc=>?_) (λhc=>?_)))))))))⟩
 ·have H:=H.1 hc
  exact zI (zE (g.m rfl λ_ g=>g.s rfl λ_ g=>zL (tn (zl (tr (zw g rfl rfl ⟨_,rfl,H⟩))))))
 ·have H:=H.2 hc
  refine zY (tn (zI (zI (zE (g.m rfl λ_ g=>g.p (zr g rfl rfl) λ_ g=>g.s rfl λ_ g=>zL (tn (zX ?_)))))))
  obtain ⟨I_l1,μ_l1,h0,hb⟩:=H
  refine yE (ds:=[]) (N:=42) (σ:=Int × Int) (λs=>[(5,(.int .i64 s.1)),(6,(.int .i64 s.2)),(0,(Sl.v x0)),(1,x1)]) (λs w=>I_l1 s.1 s.2 w) (λs w=>μ_l1 s.1 s.2 w) (r,(zC .i64 (r+1))) h0 (g.k) ?_
  rintro ⟨x5,x6⟩ w a hI g
  try dsimp only at hI g
  obtain ⟨Kl1,hK_l1⟩:∃ K:Int->Int->World->Prop,K=(λx5' x6' w'=>I_l1 x5' x6' w'/\μ_l1 x5' x6' w'<μ_l1 x5 x6 w):=⟨_,rfl⟩
  have H:Yp x0 x1 Ret x5 x6 w Kl1:=by rw [hK_l1];exact hb x5 x6 w hI
  clear hb h0 hI
  unfold Yp at H
  refine zI (zI (zE (g.m rfl λ_ g=>g.m rfl λ_ g=>g.purR (λw=>ZU g Tryz.underlying22 rfl) λ_ g=>g.p (yR g rfl rfl) λ_ g=>zL (tn (zd g rfl (λhc=>?_) (λhc=>?_))))))
  ·have H:=H.1 hc
   refine zY (tn (z8 (ds:=[]) (N:=42) (σ:=Int) (λs=>[(5,(.int .i64 s)),(0,(Sl.v x0)),(1,x1),(6,(.int .i64 x6))]) (λs w=>yw x6 Kl1 s w) ?_ (λhj2=>?_)))
   ·intro x5_1 w a H g
    try dsimp only at H g
    unfold yw at H
    refine zE (g.m rfl λ_ g=>g.p (zr g rfl rfl) λ_ g=>g.s rfl λ_ g=>?_)
    rw [hK_l1] at H
    exact zL (tn ⟨(x5_1,(zC .i64 (x6+1))),g.k,H⟩)
   ·refine zX (zI (zE (g.m rfl λ_ g=>g.m rfl λ_ g=>g.o (zH g rfl rfl) H λx24 w a H g=>g.o (zO g rfl) H λx25 w a H g=>g.o (xY) H λx7 w a H g=>g.h (zT g rfl rfl) H λw a H g=>zL (tn (zI (zE (g.m rfl λ_ g=>g.o (zO g rfl) H λx27 w a H g=>g.callV rfl rfl H λe w H=>?_)))))))
    obtain ⟨r_1,rfl,H⟩:=H
    refine ⟨_,rfl,λ_ g=>(g.p (zAJ g rfl) λ_ g=>zL (tn (zk g rfl (λhc=>?_) (λhc=>?_))))⟩
    ·have H:=H.1 hc
     exact zI (zE (g.m rfl λ_ g=>g.m rfl λ_ g=>g.o (zO g rfl) H λx32 w a H g=>g.o (zH g rfl rfl) H λx33 w a H g=>g.h (zT g rfl rfl) H λw a H g=>zL (tn (zE (g.m rfl λ_ g=>g.p (zr g rfl rfl) λ_ g=>g.s rfl λ_ g=>zL (bn (tn (hj2 (zC .i64 (x5+1)) _ _ H (g.k)))))))))
    ·have H:=H.2 hc
     exact zY (bn (tn (hj2 x5 _ _ H (g.k))))
  ·have H:=H.2 hc
   exact z7 (te (te (be (tn (zI (zE (g.m rfl λ_ g=>g.m rfl λ_ g=>g.o (zJ8 g rfl rfl rfl rfl) H λx38 w a H g=>g.op0 (zRO g rfl) H λz w a H g=>zL (tn (zI (zE (g.m rfl λ_ g=>g.m rfl λ_ g=>g.o (zJ8 g rfl rfl rfl rfl) H λx41 w a H g=>g.s rfl λ_ g=>zL (tn (zl (zw g rfl rfl ⟨_,rfl,H⟩))))))))))))))
def zCk (Ret:Bool->World->Prop) (x25:Bool) (w:World):Prop:=
 Ret x25 w
def zCi (Ret:Bool->World->Prop) (x24:Bool) (w:World):Prop:=
 zCk Ret x24 w
def zGu (x0:yD) (x1:ByteArray) (w:World) (Ret:Bool->World->Prop):Prop:=
 opE zA zB (Instr.box 103 (yD.v x0)) w (λx2 w=>opE zA zB (zN 103 (.pointer x2) 2) w (λx5 w=>opE zA xv (zD 4 (.pointer x5)) w (λx6 w=>(x6=true->(opE zA zB (zN 103 (.pointer x2) 0) w (λx8 w=>opE zA zZ (zD 9 (.pointer x8)) w (λx9 w=>Ret (decide (x1=x9)) w))))/\(x6=false->(opE zA zB (zN 103 (.pointer x2) 0) w (λx12 w=>opE zA zZ (zD 9 (.pointer x12)) w (λx13 w=>((!sLt x1 x13)=true->(opE zA zB (zN 103 (.pointer x2) 1) w (λx16 w=>opE zA zZ (zD 9 (.pointer x16)) w (λx17 w=>((x17=(ByteArray.mk #[]))->(zCi Ret true w))/\(¬ (x17=(ByteArray.mk #[]))->(opE zA zB (zN 103 (.pointer x2) 1) w (λx21 w=>opE zA zZ (zD 9 (.pointer x21)) w (λx22 w=>zCi Ret (sLt x1 x22) w))))))))/\((!sLt x1 x13)=false->(zCk Ret false w)))))))))
set_option maxRecDepth 100000 in
theorem zKs (x0:yD) (x1:ByteArray) (w:World) (Ret:Bool->World->Prop) (H:zGu x0 x1 w Ret):Cl zA 45 [(yD.v x0),(.string x1)].toArray w (λe w'=>∃ (r0:Bool),e=.returned (.bool r0)/\Ret r0 w'):=by
 unfold zGu at H
 refine zp 26 (zipE 0 [(yD.v x0),(.string x1)]) Tryz.func45 rfl rfl (by rfl) rfl ?_
 intro a g
 have g:Sat [] 26 [(0,(yD.v x0)),(1,(.string x1))] a:=g
 refine zI (zE (g.o (zBc g rfl) H λx2 w a H g=>g.s rfl λ_ g=>zL (tn (zI (zI (zE (g.o (zP g rfl) H λx5 w a H g=>g.o (zO g rfl) H λx6 w a H g=>zL (tn (zk g rfl (λhc=>?_) (λhc=>?_))))))))))
 ·have H:=H.1 hc
  exact zI (zE (g.m rfl λ_ g=>g.o (zP g rfl) H λx8 w a H g=>g.o (zO g rfl) H λx9 w a H g=>g.p (zLJ g rfl rfl) λ_ g=>g.s rfl λ_ g=>zL (tn (zl (tr (zw g rfl rfl ⟨_,rfl,H⟩))))))
 ·have H:=H.2 hc
  refine zY (tn (zI (zE (g.m rfl λ_ g=>g.o (zP g rfl) H λx12 w a H g=>g.o (zO g rfl) H λx13 w a H g=>g.p (zNN g rfl rfl) λ_ g=>g.m rfl λ_ g=>WL.join (ds:=[]) (N:=26) (σ:=Bool) (λs=>[(25,(.bool s))]) (λs w=>zCk Ret s w) 10 ?_ (λhr1=>?_)))))
  ·intro x25 w a H g
   try dsimp only at H g
   unfold zCk at H
   exact g.s rfl λ_ g=>zL (tn (zl (zw g rfl rfl ⟨_,rfl,H⟩)))
  ·rcases Bool.eq_false_or_eq_true ((!sLt x1 x13)) with hbr1|hbr1
   ·have H:=H.1 hbr1
    have g:=g.b (b:=true) (t:=15) rfl (hbr1)
    refine g.z (g.o (zP g rfl) H λx16 w a H g=>g.z (g.o (zO g rfl) H λx17 w a H g=>g.z (g.p (zLJ g rfl rfl) λ_ g=>g.z (g.m rfl λ_ g=>WL.join (ds:=[]) (N:=26) (σ:=Bool) (λs=>[(24,(.bool s)),(4,(.bool false)),(15,(.bool true))]) (λs w=>zCi Ret s w) 5 ?_ (λhr2=>?_)))))
    ·intro x24 w a H g
     try dsimp only at H g
     unfold zCi at H
     exact g.p (zx g rfl rfl) λ_ g=>hr1 x24 _ _ H (g.k)
    ·rcases Classical.em ((x17=(ByteArray.mk #[]))) with hbr2|hbr2
     ·have H:=H.1 hbr2
      have g:=g.b (b:=true) (t:=19) rfl (decide_eq_true hbr2)
      exact g.d (λ_ g=>g.d (λ_ g=>g.d (λ_ g=>g.d (λ_ g=>g.z (g.p (zx g rfl rfl) λ_ g=>hr2 true _ _ H (g.k))))))
     ·have H:=H.2 hbr2
      have g:=g.b (b:=false) (t:=19) rfl (decide_eq_false hbr2)
      exact g.z (g.m rfl λ_ g=>g.z (g.o (zP g rfl) H λx21 w a H g=>g.z (g.o (zO g rfl) H λx22 w a H g=>g.z (g.p (zOZ g rfl rfl) λ_ g=>g.z (g.p (zy g rfl rfl) λ_ g=>hr2 (sLt x1 x22) _ _ H (g.k))))))
   ·have H:=H.2 hbr1
    have g:=g.b (b:=false) (t:=15) rfl (hbr1)
    exact g.d (λ_ g=>g.d (λ_ g=>g.d (λ_ g=>g.d (λ_ g=>g.offU (by rfl) (by rfl) (λ_ g=>g.offU (by rfl) (by rfl) (λ_ g=>g.offU (by rfl) (by rfl) (λ_ g=>g.offU (by rfl) (by rfl) (λ_ g=>g.d (λ_ g=>g.p (zy g rfl rfl) λ_ g=>hr1 false _ _ H (g.k))))))))))
def QY (x0:Sl) (x1:Value) (Ret:Int->World->Prop) (x8:Int) (w:World) (Kl1:Int->World->Prop):Prop:=
 ((x8<(x0.len:Int))->(opE zA zB (zF 22 (Sl.v x0) (.int .i64 x8)) w (λx14 w=>opE zA zM.v (zD 66 (.pointer x14)) w (λx15 w=>zG6 zA x1 [(zM.v x15)] w (λe w=>∃ (r:Bool),e=.returned (.bool r)/\((r=true->(Ret x8 w))/\(r=false->(Kl1 (zC .i64 (x8+1)) w))))))))/\(¬ (x8<(x0.len:Int))->(Ret (-1) w))
def ZM (x0:Sl) (x1:Value) (w:World) (Ret:Int->World->Prop):Prop:=
 ∃ (I:Int->World->Prop) (μ:Int->World->Nat),I 0 w/\∀ (x8:Int) w,I x8 w->QY x0 x1 Ret x8 w (λx8' w'=>I x8' w'/\μ x8' w'<μ x8 w)
set_option maxRecDepth 100000 in
theorem zBy (x0:Sl) (x1:Value) (w:World) (Ret:Int->World->Prop) (H:ZM x0 x1 w Ret):Cl zA 55 [(Sl.v x0),x1].toArray w (λe w'=>∃ (r0:Int),e=.returned (.int .i64 r0)/\Ret r0 w'):=by
 unfold ZM at H
 refine zp 19 (zipE 0 [(Sl.v x0),x1]) Tryz.func55 rfl rfl (by rfl) rfl ?_
 intro a g
 have g:Sat [] 19 [(0,(Sl.v x0)),(1,x1)] a:=g
 refine zI (zE (g.s rfl λ_ g=>zL (tn (zI (zI (zE (g.m rfl λ_ g=>g.purR (λw=>ZU g Tryz.underlying22 rfl) λ_ g=>g.m rfl λ_ g=>zL (tn (zX ?_)))))))))
 obtain ⟨I_l1,μ_l1,h0,hb⟩:=H
 refine yE (ds:=[]) (N:=19) (σ:=Int) (λs=>[(8,(.int .i64 s)),(0,(Sl.v x0)),(1,x1),(7,(.int .i64 (x0.len:Int)))]) (λs w=>I_l1 s w) (λs w=>μ_l1 s w) 0 h0 (g.k) ?_
 intro x8 w a hI g
 try dsimp only at hI g
 obtain ⟨Kl1,hK_l1⟩:∃ K:Int->World->Prop,K=(λx8' w'=>I_l1 x8' w'/\μ_l1 x8' w'<μ_l1 x8 w):=⟨_,rfl⟩
 have H:QY x0 x1 Ret x8 w Kl1:=by rw [hK_l1];exact hb x8 w hI
 clear hb h0 hI
 unfold QY at H
 refine zI (zE (g.p (yR g rfl rfl) λ_ g=>zL (tn (zI (zd g rfl (λhc=>?_) (λhc=>?_))))))
 ·have H:=H.1 hc
  refine zY (tn (zI (zX (zI (zE (g.m rfl λ_ g=>g.s rfl λ_ g=>zL (tn (zI (zE (g.m rfl λ_ g=>g.m rfl λ_ g=>g.m rfl λ_ g=>g.o (zH g rfl rfl) H λx14 w a H g=>g.o (zO g rfl) H λx15 w a H g=>g.callV rfl rfl H λe w H=>?_))))))))))
  obtain ⟨r,rfl,H⟩:=H
  refine ⟨_,rfl,λ_ g=>(zL (tn (zk g rfl (λhc=>?_) (λhc=>?_))))⟩
  ·have H:=H.1 hc
   exact zI (zE (g.m rfl λ_ g=>g.s rfl λ_ g=>zL (tn (zl (br (tr (tr (br (tr (zw g rfl rfl ⟨_,rfl,H⟩))))))))))
  ·have H:=H.2 hc
   refine zY (bn (tn (zE (g.p (zr g rfl rfl) λ_ g=>g.m rfl λ_ g=>?_))))
   rw [hK_l1] at H
   exact zL (tn ⟨(zC .i64 (x8+1)),g.k,H⟩)
 ·have H:=H.2 hc
  exact z7 (te (te (be (tn (zI (zE (g.s rfl λ_ g=>zL (tn (zl (zw g rfl rfl ⟨_,rfl,H⟩))))))))))
def Zc (Ret:Bool->World->Prop) (x18:Bool) (w:World):Prop:=
 yM w (λw=>Ret x18 w)
def zCP (x0:zG) (x1:Option Addr) (w:World) (Ret:Bool->World->Prop):Prop:=
 opE zA zB (Instr.box 72 (zG.v x0)) w (λx2 w=>opB zA zB (zN 72 (.pointer x2) 1) w (λx4=>opB zA (zV .u64) (zD 37 (.pointer x4)) w (λx5=>opB zA zB (zD 88 (.pointer x1)) w (λx6=>Qg (.pointer x6)/\(opB zA zB (zN 92 (.pointer x6) 0) w (λx8=>opB zA (zV .u64) (zD 37 (.pointer x8)) w (λx9=>((x9<x5)->(opB zA zB (zD 88 (.pointer x1)) w (λx12=>Qg (.pointer x12)/\(opB zA zB (zN 92 (.pointer x12) 1) w (λx14=>opB zA Sl.v (zD 90 (.pointer x14)) w (λx15=>∃ (r:Bool),(∀ w',Bel w w'->Cl zA 59 [(Sl.v x15),(.func (.func 60) [].toArray [(.pointer x2)].toArray)].toArray w' (λe w''=>e=.returned (.bool r)/\Bel w' w''))/\(Zc Ret r w)))))))/\(¬ (x9<x5)->(Zc Ret false w)))))))))
set_option maxRecDepth 100000 in
theorem zG1 (x0:zG) (x1:Option Addr) (w:World) (Ret:Bool->World->Prop) (H:zCP x0 x1 w Ret):Cl zA 58 [(zG.v x0),(.pointer x1)].toArray w (λe w'=>∃ (r0:Bool),e=.returned (.bool r0)/\Ret r0 w'):=by
 unfold zCP at H
 refine zp 19 (zipE 0 [(zG.v x0),(.pointer x1)]) Tryz.func58 rfl rfl (by rfl) rfl ?_
 intro a g
 have g:Sat [] 19 [(0,(zG.v x0)),(1,(.pointer x1))] a:=g
 refine zI (zE (g.o (zBc g rfl) H λx2 w a H g=>g.s rfl λ_ g=>zL (tn (zI (QU (by kernel_rfl) (by kernel_rfl) (g.A (zP g rfl) H λx4 a H g=>g.A (zO g rfl) H λx5 a H g=>g.A (zO g rfl) H λx6 a H g=>g.r (zj g rfl H.1) λ_ g=>?_))))))
 have H:=H.2
 refine g.A (zP g rfl) H λx8 a H g=>g.A (zO g rfl) H λx9 a H g=>g.r (zBx g rfl rfl) λ_ g=>g.t rfl λ_ g=>WQ.join (ds:=[]) (N:=19) (σ:=Bool) (λs=>[(18,(.bool s))]) (λs=>Zc Ret s w) 7 ?_ (λhr1=>?_)
 ·intro x18 a H g
  try dsimp only at H g
  unfold Zc at H
  refine g.r (ZI g rfl) λ_ g=>Qb (λw hB=>?_)
  replace H:=H w hB
  exact (tn (zl (zw g rfl rfl ⟨_,rfl,H⟩)))
 ·rcases Classical.em ((x9<x5)) with hbr1|hbr1
  ·have H:=H.1 hbr1
   have g:=g.b (b:=true) (t:=11) rfl (decide_eq_true hbr1)
   refine g.e (g.A (zO g rfl) H λx12 a H g=>g.e (g.r (zj g rfl H.1) λ_ g=>?_))
   have H:=H.2
   refine g.e (g.A (zP g rfl) H λx14 a H g=>g.e (g.A (zO g rfl) H λx15 a H g=>g.e (g.r (zGK g rfl rfl) λ_ g=>g.e ?_)))
   obtain ⟨r,hc,H⟩:=H
   exact g.qcall (λw'=>zb g zTQ rfl rfl) hc λ_ g=>g.r (zx g rfl rfl) λ_ g=>hr1 r _ H (g.k)
  ·have H:=H.2 hbr1
   have g:=g.b (b:=false) (t:=11) rfl (decide_eq_false hbr1)
   exact g.g (λ_ g=>g.g (λ_ g=>g.g (λ_ g=>g.g (λ_ g=>g.g (λ_ g=>g.g (λ_ g=>g.r (zy g rfl rfl) λ_ g=>hr1 false _ H (g.k)))))))
def Zy (x0:Sl) (x1:Value) (w:World) (Ret:Bool->World->Prop):Prop:=
 Cl zA 79 [(Sl.v x0),x1].toArray w (λe w=>∃ (r:Int),e=.returned (.int .i64 r)/\(Ret (decide (0<=r)) w))
set_option maxRecDepth 100000 in
theorem zDl (x0:Sl) (x1:Value) (w:World) (Ret:Bool->World->Prop) (H:Zy x0 x1 w Ret):Cl zA 59 [(Sl.v x0),x1].toArray w (λe w'=>∃ (r0:Bool),e=.returned (.bool r0)/\Ret r0 w'):=by
 unfold Zy at H
 refine zp 9 (zipE 0 [(Sl.v x0),x1]) Tryz.func59 rfl rfl (by rfl) rfl ?_
 intro a g
 have g:Sat [] 9 [(0,(Sl.v x0)),(1,x1)] a:=g
 refine zI (zE (g.s rfl λ_ g=>(zL (tn (zI (zE (g.m rfl λ_ g=>(g.m rfl λ_ g=>(g.c (zb g zTI rfl rfl) H λe w H=>?_)))))))))
 obtain ⟨r,rfl,H⟩:=H
 exact ⟨_,rfl,λ_ g=>(g.p (Zm g rfl rfl) λ_ g=>(g.s rfl λ_ g=>(zL (tn (zl (zw g rfl rfl ⟨_,rfl,H⟩))))))⟩
def zB6 (x0:yD) (x1:Option Addr) (w:World) (Ret:Bool->World->Prop):Prop:=
 opE zA zB (Instr.box 103 (yD.v x0)) w (λx2 w=>opE zA yD.v (zD 103 (.pointer x2)) w (λx4 w=>opE zA zB (zN 72 (.pointer x1) 0) w (λx5 w=>opE zA zZ (zD 9 (.pointer x5)) w (λx6 w=>Cl zA 45 [(yD.v x4),(.string x6)].toArray w (λe w=>∃ (r:Bool),e=.returned (.bool r)/\(Ret r w))))))
set_option maxRecDepth 100000 in
theorem zGg (x0:yD) (x1:Option Addr) (w:World) (Ret:Bool->World->Prop) (H:zB6 x0 x1 w Ret):Cl zA 60 [(yD.v x0),(.pointer x1)].toArray w (λe w'=>∃ (r0:Bool),e=.returned (.bool r0)/\Ret r0 w'):=by
 unfold zB6 at H
 refine zp 8 (zipE 0 [(yD.v x0),(.pointer x1)]) Tryz.func60 rfl rfl (by rfl) rfl ?_
 intro a g
 have g:Sat [] 8 [(0,(yD.v x0)),(1,(.pointer x1))] a:=g
 refine zI (zE (g.o (zBc g rfl) H λx2 w a H g=>(g.s rfl λ_ g=>(zL (tn (zI (zE (g.o (zO g rfl) H λx4 w a H g=>(g.o (zP g rfl) H λx5 w a H g=>(g.o (zO g rfl) H λx6 w a H g=>(g.c (zb g zR1 rfl rfl) H λe w H=>?_)))))))))))
 obtain ⟨r,rfl,H⟩:=H
 exact ⟨_,rfl,λ_ g=>(g.s rfl λ_ g=>(zL (tn (zl (zw g rfl rfl ⟨_,rfl,H⟩)))))⟩
def zBp (x0:Value) (x1:Value) (w:World) (Ret:Sl->World->Prop):Prop:=
 Cl zA 80 [x0].toArray w (λe w=>∃ (r:Sl),e=.returned (Sl.v r)/\(Cl zA 81 [(Sl.v r),x1].toArray w (λe w=>e=.returned (.tuple [].toArray)/\(Ret r w))))
set_option maxRecDepth 100000 in
theorem zGD (x0:Value) (x1:Value) (w:World) (Ret:Sl->World->Prop) (H:zBp x0 x1 w Ret):Cl zA 61 [x0,x1].toArray w (λe w'=>∃ (r0:Sl),e=.returned (Sl.v r0)/\Ret r0 w'):=by
 unfold zBp at H
 refine zp 12 (zipE 0 [x0,x1]) Tryz.func61 rfl rfl (by rfl) rfl ?_
 intro a g
 have g:Sat [] 12 [(0,x0),(1,x1)] a:=g
 refine zI (zE (g.s rfl λ_ g=>zL (tn (zI (zE (g.m rfl λ_ g=>g.c (zb g zSr rfl rfl) H λe w H=>?_))))))
 obtain ⟨r,rfl,H⟩:=H
 refine ⟨_,rfl,λ_ g=>(g.s rfl λ_ g=>zL (tn (zI (zE (g.m rfl λ_ g=>g.m rfl λ_ g=>g.c (zb g zS9 rfl rfl) H λe w H=>?_)))))⟩
 obtain ⟨rfl,H⟩:=H
 exact ⟨_,rfl,λ_ g=>(zL (tn (zI (zE (g.m rfl λ_ g=>g.s rfl λ_ g=>zL (tn (zl (zw g rfl rfl ⟨_,rfl,H⟩))))))))⟩
def Yj (x0:Option Nat) (w:World) (Ret:Value->World->Prop):Prop:=
 opE zA zB (Instr.box 89 (.map x0)) w (λx1 w=>Ret (.func (.func 82) [].toArray [(.pointer x1)].toArray) w)
set_option maxRecDepth 100000 in
theorem zB8 (x0:Option Nat) (w:World) (Ret:Value->World->Prop) (H:Yj x0 w Ret):Cl zA 62 [(.map x0)].toArray w (λe w'=>∃ (r0:Value),e=.returned r0/\Ret r0 w'):=by
 unfold Yj at H
 refine zp 4 (zipE 0 [(.map x0)]) Tryz.func62 rfl rfl (by rfl) rfl ?_
 intro a g
 have g:Sat [] 4 [(0,(.map x0))] a:=g
 exact zI (zE (g.o (zBc g rfl) H λx1 w a H g=>(g.s rfl λ_ g=>(zL (tn (zI (zE (g.p (zGK g rfl rfl) λ_ g=>(g.s rfl λ_ g=>(zL (tn (zl (zw g rfl rfl ⟨_,rfl,H⟩)))))))))))))
def zFy (x0:zJ) (x1:zJ) (w:World) (Ret:Int->World->Prop):Prop:=
 opE zA zB (Instr.box 34 (zJ.v x0)) w (λx2 w=>opE zA zB (Instr.box 34 (zJ.v x1)) w (λx3 w=>opE zA zB (zN 34 (.pointer x2) 0) w (λx5 w=>opE zA zZ (zD 9 (.pointer x5)) w (λx6 w=>opE zA zB (zN 34 (.pointer x3) 0) w (λx7 w=>opE zA zZ (zD 9 (.pointer x7)) w (λx8 w=>Cl zA 48 [(.string x6),(.string x8)].toArray w (λe w=>∃ (r:Int),e=.returned (.int .i64 r)/\(Ret r w))))))))
set_option maxRecDepth 100000 in
theorem zJw (x0:zJ) (x1:zJ) (w:World) (Ret:Int->World->Prop) (H:zFy x0 x1 w Ret):Cl zA 63 [(zJ.v x0),(zJ.v x1)].toArray w (λe w'=>∃ (r0:Int),e=.returned (.int .i64 r0)/\Ret r0 w'):=by
 unfold zFy at H
 refine zp 10 (zipE 0 [(zJ.v x0),(zJ.v x1)]) Tryz.func63 rfl rfl (by rfl) rfl ?_
 intro a g
 have g:Sat [] 10 [(0,(zJ.v x0)),(1,(zJ.v x1))] a:=g
 refine zI (zE (g.o (zBc g rfl) H λx2 w a H g=>g.o (zBc g rfl) H λx3 w a H g=>g.s rfl λ_ g=>zL (tn (zI (zE (g.o (zP g rfl) H λx5 w a H g=>g.o (zO g rfl) H λx6 w a H g=>g.o (zP g rfl) H λx7 w a H g=>g.o (zO g rfl) H λx8 w a H g=>g.c (zb g zQx rfl rfl) H λe w H=>?_))))))
 obtain ⟨r,rfl,H⟩:=H
 exact ⟨_,rfl,λ_ g=>(g.s rfl λ_ g=>zL (tn (zl (zw g rfl rfl ⟨_,rfl,H⟩))))⟩
def Yu (x0:Sl) (x1:Value) (Ret:Int->World->Prop) (x8:Int) (w:World) (Kl1:Int->World->Prop):Prop:=
 ((x8<(x0.len:Int))->(opE zA zB (zF 90 (Sl.v x0) (.int .i64 x8)) w (λx14 w=>opE zA yD.v (zD 103 (.pointer x14)) w (λx15 w=>zG6 zA x1 [(yD.v x15)] w (λe w=>∃ (r:Bool),e=.returned (.bool r)/\((r=true->(Ret x8 w))/\(r=false->(Kl1 (zC .i64 (x8+1)) w))))))))/\(¬ (x8<(x0.len:Int))->(Ret (-1) w))
def zAY (x0:Sl) (x1:Value) (w:World) (Ret:Int->World->Prop):Prop:=
 ∃ (I:Int->World->Prop) (μ:Int->World->Nat),I 0 w/\∀ (x8:Int) w,I x8 w->Yu x0 x1 Ret x8 w (λx8' w'=>I x8' w'/\μ x8' w'<μ x8 w)
set_option maxRecDepth 100000 in
theorem zEh (x0:Sl) (x1:Value) (w:World) (Ret:Int->World->Prop) (H:zAY x0 x1 w Ret):Cl zA 79 [(Sl.v x0),x1].toArray w (λe w'=>∃ (r0:Int),e=.returned (.int .i64 r0)/\Ret r0 w'):=by
 unfold zAY at H
 refine zp 19 (zipE 0 [(Sl.v x0),x1]) Tryz.func79 rfl rfl (by rfl) rfl ?_
 intro a g
 have g:Sat [] 19 [(0,(Sl.v x0)),(1,x1)] a:=g
 refine zI (zE (g.s rfl λ_ g=>zL (tn (zI (zI (zE (g.m rfl λ_ g=>g.purR (λw=>ZU g Tryz.underlying90 rfl) λ_ g=>g.m rfl λ_ g=>zL (tn (zX ?_)))))))))
 obtain ⟨I_l1,μ_l1,h0,hb⟩:=H
 refine yE (ds:=[]) (N:=19) (σ:=Int) (λs=>[(8,(.int .i64 s)),(0,(Sl.v x0)),(1,x1),(7,(.int .i64 (x0.len:Int)))]) (λs w=>I_l1 s w) (λs w=>μ_l1 s w) 0 h0 (g.k) ?_
 intro x8 w a hI g
 try dsimp only at hI g
 obtain ⟨Kl1,hK_l1⟩:∃ K:Int->World->Prop,K=(λx8' w'=>I_l1 x8' w'/\μ_l1 x8' w'<μ_l1 x8 w):=⟨_,rfl⟩
 have H:Yu x0 x1 Ret x8 w Kl1:=by rw [hK_l1];exact hb x8 w hI
 clear hb h0 hI
 unfold Yu at H
 refine zI (zE (g.p (yR g rfl rfl) λ_ g=>zL (tn (zI (zd g rfl (λhc=>?_) (λhc=>?_))))))
 ·have H:=H.1 hc
  refine zY (tn (zI (zX (zI (zE (g.m rfl λ_ g=>g.s rfl λ_ g=>zL (tn (zI (zE (g.m rfl λ_ g=>g.m rfl λ_ g=>g.m rfl λ_ g=>g.o (zH g rfl rfl) H λx14 w a H g=>g.o (zO g rfl) H λx15 w a H g=>g.callV rfl rfl H λe w H=>?_))))))))))
  obtain ⟨r,rfl,H⟩:=H
  refine ⟨_,rfl,λ_ g=>(zL (tn (zk g rfl (λhc=>?_) (λhc=>?_))))⟩
  ·have H:=H.1 hc
   exact zI (zE (g.m rfl λ_ g=>g.s rfl λ_ g=>zL (tn (zl (br (tr (tr (br (tr (zw g rfl rfl ⟨_,rfl,H⟩))))))))))
  ·have H:=H.2 hc
   refine zY (bn (tn (zE (g.p (zr g rfl rfl) λ_ g=>g.m rfl λ_ g=>?_))))
   rw [hK_l1] at H
   exact zL (tn ⟨(zC .i64 (x8+1)),g.k,H⟩)
 ·have H:=H.2 hc
  exact z7 (te (te (be (tn (zI (zE (g.s rfl λ_ g=>zL (tn (zl (zw g rfl rfl ⟨_,rfl,H⟩))))))))))
def zCF (x0:Value) (w:World) (Ret:Sl->World->Prop):Prop:=
 Cl zA 102 [(Sl.v Sl.none),x0].toArray w (λe w=>∃ (r:Sl),e=.returned (Sl.v r)/\(Ret r w))
set_option maxRecDepth 100000 in
theorem zGp (x0:Value) (w:World) (Ret:Sl->World->Prop) (H:zCF x0 w Ret):Cl zA 80 [x0].toArray w (λe w'=>∃ (r0:Sl),e=.returned (Sl.v r0)/\Ret r0 w'):=by
 unfold zCF at H
 refine zp 5 (zipE 0 [x0]) Tryz.func80 rfl rfl (by rfl) rfl ?_
 intro a g
 have g:Sat [] 5 [(0,x0)] a:=g
 refine zI (zE (g.s rfl λ_ g=>(zL (tn (zI (zE (g.m rfl λ_ g=>(g.c (zb g zSL rfl rfl) H λe w H=>?_))))))))
 obtain ⟨r,rfl,H⟩:=H
 exact ⟨_,rfl,λ_ g=>(g.s rfl λ_ g=>(zL (tn (zl (zw g rfl rfl ⟨_,rfl,H⟩)))))⟩
def yn (x0:Value) (Ret:World->Prop) (x6:Option Addr) (w:World) (Kl1:World->Prop):Prop:=
 opE zA (zKx id id) (Instr.next (.pointer x6) false 0) w (λr w=>(r=none->(Ret w))/\(∀ k v,r=some (k,v)->(opE zA (λp:Value × Value=>.tuple [p.1,p.2].toArray) (Instr.entry (.pointer x6)) w (λx9 w=>opE zA zB (zf 34 true (.tuple #[])) w (λx4 w=>opU zA (zK 34 (.pointer x4) x9.2) w (λw=>opE zA zJ.v (zD 34 (.pointer x4)) w (λx12 w=>zG6 zA x0 [(zJ.v x12)] w (λe w=>∃ (r_1:Bool),e=.returned (.bool r_1)/\(((!r_1)=true->(Ret w))/\((!r_1)=false->(Kl1 w)))))))))))
def YV (x0:Value) (x1:Option Addr) (w:World) (Ret:World->Prop):Prop:=
 opE zA Value.map (zD 89 (.pointer x1)) w (λx5 w=>opE zA zB (Instr.range 89 (.map x5)) w (λx6 w=>∃ (I:World->Prop) (μ:World->Nat),I w/\∀ w,I w->yn x0 Ret x6 w (λw'=>I w'/\μ w'<μ w)))
set_option maxRecDepth 100000 in
theorem zB1 (x0:Value) (x1:Option Addr) (w:World) (Ret:World->Prop) (H:YV x0 x1 w Ret):Cl zA 82 [x0,(.pointer x1)].toArray w (λe w'=>e=.returned (.tuple [].toArray)/\Ret w'):=by
 unfold YV at H
 refine zp 15 (zipE 0 [x0,(.pointer x1)]) Tryz.func82 rfl rfl (by rfl) rfl ?_
 intro a g
 have g:Sat [] 15 [(0,x0),(1,(.pointer x1))] a:=g
 refine zI (zE (g.o (zO g rfl) H λx5 w a H g=>g.o (zK5 g rfl) H λx6 w a H g=>zL (tn (zX ?_))))
 obtain ⟨I_l1,μ_l1,h0,hb⟩:=H
 refine yE (ds:=[]) (N:=15) (σ:=Unit) (λs=>[(0,x0),(6,(.pointer x6))]) (λs w=>I_l1 w) (λs w=>μ_l1 w) () h0 (g.k) ?_
 rintro ⟨⟩ w a hI g
 try dsimp only at hI g
 obtain ⟨Kl1,hK_l1⟩:∃ K:World->Prop,K=(λw'=>I_l1 w'/\μ_l1 w'<μ_l1 w):=⟨_,rfl⟩
 have H:yn x0 Ret x6 w Kl1:=by rw [hK_l1];exact hb w hI
 clear hb h0 hI
 unfold yn at H
 refine zI (zE (g.o (zMa g rfl) H λr w a H g=>?_))
 rcases r with _|⟨k,v⟩
 ·have H:=H.1 rfl
  exact g.p (zc g rfl rfl) λ_ g=>zL (tn (zI (zk g rfl (λh=>nomatch h) (λ_=>z7 (te (te (be (zBg g rfl ⟨rfl,H⟩))))))))
 ·have H:=H.2 _ _ rfl
  refine g.p (zc g rfl rfl) λ_ g=>zL (tn (zI (zk g rfl (λ_=>zY (tn (zX (zI (zE (g.o (zK0 g rfl) H λx9 w a H g=>g.p (zc g rfl rfl) λ_ g=>g.o (xY) H λx4 w a H g=>g.h (zT g rfl rfl) H λw a H g=>zL (tn (zI (zE (g.m rfl λ_ g=>g.o (zO g rfl) H λx12 w a H g=>g.callV rfl rfl H λe w H=>?_)))))))))) (λh=>nomatch h))))
  obtain ⟨r_1,rfl,H⟩:=H
  refine ⟨_,rfl,λ_ g=>(g.p (zAJ g rfl) λ_ g=>zL (tn (zk g rfl (λhc=>?_) (λhc=>?_))))⟩
  ·have H:=H.1 hc
   exact zl (br (tr (br (zE1 g rfl ⟨rfl,H⟩))))
  ·have H:=H.2 hc
   rw [hK_l1] at H
   exact zY (bn (tn ⟨(),g.k,H⟩))
def ZY (x2:Option Addr) (x7:zJ) (x5:Option Addr) (w:World) (Gf1:World->Prop) (Lf1:World->Prop):Prop:=
 opE zA Sl.v (zD 30 (.pointer x2)) w (λx8 w=>opE zA zJ.v (zD 34 (.pointer x5)) w (λx9 w=>opE zA Sl.v (ze 30 1 [(0,(zJ.v x9))].toArray) w (λx10 w=>opE zA Sl.v (Builtin.append_ #[30,30] 30 [(Sl.v x8),(Sl.v x10)].toArray) w (λx11 w=>opU zA (zK 30 (.pointer x2) (Sl.v x11)) w (λw=>Gf1 w)))))
def zAF (x0:Sl) (x1:Value) (w:World) (Ret:Sl->World->Prop):Prop:=
 opE zA zB (Instr.box 30 (Sl.v x0)) w (λx2 w=>zSg zA x1 zJ.v 34 w (ZY x2) (λD w=>opE zA Sl.v (zD 30 (.pointer x2)) w (λx12 w=>zN9 D w (λw=>Ret x12 w))) (λD w=>True))
set_option maxRecDepth 100000 in
theorem zD7 (x0:Sl) (x1:Value) (w:World) (Ret:Sl->World->Prop) (H:zAF x0 x1 w Ret):Cl zA 102 [(Sl.v x0),x1].toArray w (λe w'=>∃ (r0:Sl),e=.returned (Sl.v r0)/\Ret r0 w'):=by
 unfold zAF at H
 refine zKI 13 (zipE 0 [(Sl.v x0),x1]) Tryz.func102 rfl rfl (by rfl) rfl ?_
 intro a g
 have g:Sat [] 13 [(0,(Sl.v x0)),(1,x1)] a:=g
 refine zI (zE (g.o (zBc g rfl) H λx2 w a H g=>g.s rfl λ_ g=>zL (tn (zI (zI (zE (g.m rfl λ_ g=>zL (tn (zX ?_)))))))))
 obtain ⟨cells,Kp,S,Sp,Num,I,Ir,hR,hnew,hbd,hdn,hst⟩:=H
 refine zQz zJ.v cells none g rfl hR hnew (by rfl) (by rfl) (by rfl) ?_ ?_ ?_
 ·intro l pre x7 Bx w a h1 h2 h3 h4 g
  have H:=hbd pre x7 Bx w h1 h2 h3 h4
  generalize (some (⟨Bx,0,none⟩:Addr))=x5 at H g
  generalize (λ(W':World)=>KeepsFrom _ w W'/\Kp w W'/\I (pre++[x7]) W')=Gf1 at H ⊢
  generalize (λ(W':World)=>KeepsFrom _ w W'/\Ir (pre++[x7]) W')=Lf1 at H ⊢
  unfold ZY at H
  exact zX (zE (g.o (zO g rfl) H λx8 w a H g=>g.o (zO g rfl) H λx9 w a H g=>g.o (yj g rfl) H λx10 w a H g=>g.o (zA6 g rfl) H λx11 w a H g=>g.h (zT g rfl rfl) H λw a H g=>zL (bn H)))
 ·intro D xs w a h1 h2 h3 hD g
  have H:=hdn D xs w h1 h2 h3 hD
  clear hbd hdn hst hnew
  try dsimp only at H
  refine (bn (tn (zI (zE (g.o (zO g rfl) H λx12 w a H g=>g.s rfl λ_ g=>zL (tn ?_))))))
  obtain ⟨hD0,H⟩:=H
  try dsimp only at H
  exact zl (zMR g (rs:=[.tmp 4]) (vs:=[(Sl.v x12)]) rfl hD0 ⟨rfl,trivial⟩ ⟨_,rfl,H⟩)
 ·intro D c pre w a hj h1 h2 h3 hD g
  cases hj
end Go.Proofs.YtealcoghiaeiiaaGreat.VG
set_option linter.unusedVariables false
namespace Go.VB
def ClD (P:Program) (f:FuncId) (args:Array Value) (w:World) (R:Ending->World->Prop):Prop:=CallsDIn (FW none) 0 P f args .returning w λe u' w'=>u'=.returning/\R e w'
theorem ClD.mono {P:Program} {f:FuncId} {args:Array Value} {w:World} {R R':Ending->World->Prop} (h:ClD P f args w R) (hr:∀ e w',R e w'->R' e w'):ClD P f args w R':=
 CallsDIn.mono h λ_ _ _ h=>⟨h.1,hr _ _ h.2⟩
theorem zQR {P:Program} {f:FuncId} {fn:Func} {c:Code} {args:List Value} {w:World} {R:Ending->World->Prop} (N:Nat) (E:Env)
  (hf:P.funcs[f]?=some fn) (hb:fn.body=some c) (hN:fn.ntmps=N) (hle:Nat.ble args.length N=true)
  (hz:zipE 0 args=E)
  (h:∀ a,Sat [] N E a->WC none P c (bodyPost P fn R) a w):ClD P f args.toArray w R:=by
 subst hN
 exact callsDIn_of_wp hf hb trivial (h _ (Sat.enter args.toArray (by simpa using hle) (by intro t v hv;rw [← hz] at hv;simpa using (zKz args 0 t v hv).2))) rfl
def defd (f:FuncId) (vs:List Value):Deferred:={target:=.fn (.func f) #[],args:=vs.toArray}
def opD (P:Program) (f:FuncId) (vs:List Value) (w:World) (k:World->Prop):Prop:=ClD P f vs.toArray w λe w'=>(∃ v,e=.returned v)/\k w'
def noP (Q:Exit->Act->World->Prop):Exit->Act->World->Prop
 |.panic _,_,_=>False
 |e,a,w=>Q e a w
theorem zSS {Q:Exit->Act->World->Prop}:∀ e a w,noP Q e a w->Q e a w:=by
 intro e a w h
 cases e<;>first|exact h|exact h.elim
theorem zQh {P:Program} {f:FuncId} {fn:Func} {c:Code} {args:List Value} {w:World} {R:Ending->World->Prop} (N:Nat) (E:Env)
  (hf:P.funcs[f]?=some fn) (hb:fn.body=some c) (hN:fn.ntmps=N) (hle:Nat.ble args.length N=true)
  (hz:zipE 0 args=E)
  (h:∀ a,Sat [] N E a->WC none P c (noP (bodyPostM (FW none) 0 P fn R)) a w):Cl P f args.toArray w R:=
 zKI N E hf hb hN hle hz λa hE=>wpIn_mono (h a hE) zSS
section
variable {ro:Option Nat} {P:Program} {ops:Array Oper} {Q:Exit->Act->World->Prop} {ds:List Deferred} {N:Nat} {E:Env} {a:Act} {w:World} {rest:List Oper}
theorem Sat.defer (hE:Sat ds N E a) {f:FuncId} {x:Operand} {xs:List Operand} {vs:List Value} {ts:Array TypeId} {ty:TypeId} {pos:String} {aft:Array Edge}
  (hx:Go.VB.ev E x=some (.func (.func f) #[] #[])) (h:Go.VB.evL E xs=some vs) (next:∀ a',Sat (defd f vs::ds) N E a'->WL none P ops Q rest a' w):
  WL none P ops Q (⟨none,.defer {callee:=.value x,args:=xs.toArray,argTypes:=ts},ty,pos,aft,none⟩::rest) a w:=by
 unfold WL wpListIn
 rw [if_pos (by simp [Region.wanted])]
 refine ⟨λ_ _=>trivial,?_⟩
 have h1:=hE.evA h
 have e:=hE.ev hx
 have hr:(Oper.semAt (FW none).round a.eval ⟨none,.defer {callee:=.value x,args:=xs.toArray,argTypes:=ts},ty,pos,aft,none⟩).run P w=.ok (.defer (defd f vs)) w:=by
  rw [show (FW none).round=none from rfl,Oper.semAt_none]
  simp [execOp,resolve,Deferred.ofValue,e,defd,← h1]
 rw [hr,Oper.uponIn_defer]
 exact next _ ⟨hE.size,hE.vals,by show _::a.defers=_;rw [hE.defs]⟩
theorem zMx {fn:Func} {R:Ending->World->Prop} {f:FuncId} {us:List Value} (hE:Sat [defd f us] N E a) {rs:List ResultVar} {vs:List Value} {k:World->Prop} (hr:fn.results=rs.toArray) (he:Ent P f) (H:opD P f us w k)
  (hv:∀ w',resV P E w' rs vs) (h:∀ w',k w'->R (.returned (zLy vs)) w'):bodyPostM (FW none) 0 P fn R .ret a w:=by
 show LeavesInM _ _ _ _ _ _ a.defers _ _
 rw [hE.defs]
 refine ⟨by simp,.inr ⟨λh=>by simp [Fence.wide] at h,.func f,#[],f,us.toArray,rfl,?_,λ_ _=>trivial,?_⟩⟩
 ·show (invoke (.fn (.func f) #[]) us.toArray).run P w=_
  have:=he us.toArray w
  simpa [invoke] using this
 ·refine CallsDIn.mono H λe u' w' h1=>?_
  obtain ⟨rfl,⟨v,rfl⟩,hk⟩:=h1
  exact ⟨_,zHR ⟨hE.size,hE.vals,hE.defs⟩ hr (hv w'),h w' hk⟩
end
end Go.VB
set_option linter.unusedVariables false
set_option linter.unusedSimpArgs false
namespace Go.Proofs.YtealcoghiaeiiaaGreat.VG
open Go.VB Go.Proofs
def Z4 (x0:Option Addr) (x1:Int) (Ret:Sl->Int->Int->World->Prop) (r_3:Sl) (x8:Int) (x10:Option Addr) (w:World):Prop:=
 ((x8≠0)->(opD zA 37 [(.pointer x0),(.int .i64 x1)] w (λw=>Ret Sl.none 0 x8 w)))/\(¬ (x8≠0)->(opE zA zQ.v (zD 69 (.pointer x10)) w (λx55 w=>Qg (.pointer x0)/\(opE zA zB (zN 87 (.pointer x0) 0) w (λx57 w=>opU zA (zK 69 (.pointer x57) (zQ.v x55)) w (λw=>Qg (.pointer x0)/\(opE zA zB (zN 87 (.pointer x0) 1) w (λx60 w=>opE zA (zV .u64) (zD 37 (.pointer x60)) w (λx61 w=>Qg (.pointer x0)/\(opE zA zB (zN 87 (.pointer x0) 1) w (λx64 w=>opU zA (zK 37 (.pointer x64) (.int .u64 (zC .u64 (x61+1)))) w (λw=>Qg (.pointer x0)/\(opB zA zB (zN 87 (.pointer x0) 1) w (λx68=>opB zA (zV .u64) (zD 37 (.pointer x68)) w (λx69=>yM w (λw=>opD zA 37 [(.pointer x0),(.int .i64 x1)] w (λw=>Ret r_3 x69 0 w)))))))))))))))))
def zEM (x0:Option Addr) (x1:Int) (w:World) (Ret:Sl->Int->Int->World->Prop):Prop:=
 Cl zA 36 [(.pointer x0),(.int .i64 x1)].toArray w (λe w=>∃ (r:Option Addr) (r_1:Int),e=.returned (.tuple [(.pointer r),(.int .i64 r_1)].toArray)/\(((r_1≠0)->(Ret Sl.none 0 r_1 w))/\(¬ (r_1≠0)->(Cl zA 38 [(.pointer x0),(.pointer r)].toArray w (λe w=>∃ (r_2:Bool),e=.returned (.bool r_2)/\((r_2=true->(opD zA 37 [(.pointer x0),(.int .i64 x1)] w (λw=>Ret Sl.none 0 10 w)))/\(r_2=false->(Qg (.pointer r)/\(opE zA zB (zN 92 (.pointer r) 2) w (λx27 w=>opE zA Value.map (zD 89 (.pointer x27)) w (λx28 w=>opE zA (zV .i64) (Builtin.len_ #[89] 3 [(.map x28)].toArray) w (λx29 w=>((x29=0)->(Qg (.pointer x0)/\(opB zA zB (zN 87 (.pointer x0) 1) w (λx33=>opB zA (zV .u64) (zD 37 (.pointer x33)) w (λx34=>yM w (λw=>opD zA 37 [(.pointer x0),(.int .i64 x1)] w (λw=>Ret Sl.none x34 0 w)))))))/\(¬ (x29=0)->(Cl zA 39 [(.pointer r)].toArray w (λe w=>∃ (r_3:Sl),e=.returned (Sl.v r_3)/\(regC w (λC2 w=>Qg (.pointer x0)/\(opC C2 zA zB (zN 87 (.pointer x0) 0) (λx40=>Qg (.pointer x0)/\(opC C2 zA zB (zN 87 (.pointer x0) 1) (λx45=>opC C2 zA zQ.v (zD 69 (.pointer x40)) (λx41=>opC C2 zA (zV .u64) (zD 37 (.pointer x45)) (λx46=>(Cl zA 40 [(zQ.v x41),(Sl.v r_3),(.int .u64 (zC .u64 (x46+1)))].toArray w (λe w=>∃ (r_4:zQ) (r_5:Int),e=.returned (.tuple [(zQ.v r_4),(.int .i64 r_5)].toArray)/\(C2 w/\(opE zA zB (zf 69 true (.tuple #[])) w (λx10_1 w=>C2 w/\(opU zA (zK 69 (.pointer x10_1) (zQ.v r_4)) w (λw=>C2 w/\(Z4 x0 x1 Ret r_3 r_5 x10_1 w))))))))/\(opE zA zB (zf 69 true (.tuple #[])) w (λx10_2 w=>C2 w/\(Cl zA 40 [(zQ.v x41),(Sl.v r_3),(.int .u64 (zC .u64 (x46+1)))].toArray w (λe w=>∃ (r_6:zQ) (r_7:Int),e=.returned (.tuple [(zQ.v r_6),(.int .i64 r_7)].toArray)/\(C2 w/\(opU zA (zK 69 (.pointer x10_2) (zQ.v r_6)) w (λw=>C2 w/\(Z4 x0 x1 Ret r_3 r_7 x10_2 w)))))))))))))))))))))))))))))))
set_option maxRecDepth 100000 in
theorem zIK (x0:Option Addr) (x1:Int) (w:World) (Ret:Sl->Int->Int->World->Prop) (H:zEM x0 x1 w Ret):Cl zA 15 [(.pointer x0),(.int .i64 x1)].toArray w (λe w'=>∃ (r0:Sl) (r1:Int) (r2:Int),e=.returned (.tuple [(Sl.v r0),(.int .u64 r1),(.int .i64 r2)].toArray)/\Ret r0 r1 r2 w'):=by
 unfold zEM at H
 refine zQh 70 (zipE 0 [(.pointer x0),(.int .i64 x1)]) Tryz.func15 rfl rfl (by rfl) rfl ?_
 intro a g
 have g:Sat [] 70 [(0,(.pointer x0)),(1,(.int .i64 x1))] a:=g
 refine zI (zE (g.s rfl λ_ g=>g.s rfl λ_ g=>g.s rfl λ_ g=>zL (tn (zI (zE (g.m rfl λ_ g=>g.m rfl λ_ g=>g.c (zb g zM9 rfl rfl) H λe w H=>?_))))))
 obtain ⟨r,r_1,rfl,H⟩:=H
 refine ⟨_,rfl,λ_ g=>(g.m rfl λ_ g=>g.p (zc g rfl rfl) λ_ g=>g.p (zc g rfl rfl) λ_ g=>g.s rfl λ_ g=>g.s rfl λ_ g=>zL (tn (zI (zI (zE (g.m rfl λ_ g=>g.p (zFc g rfl rfl) λ_ g=>zL (tn (zd g rfl (λhc=>?_) (λhc=>?_)))))))))⟩
 ·have H:=H.1 hc
  exact zI (zE (g.m rfl λ_ g=>g.s rfl λ_ g=>g.s rfl λ_ g=>g.s rfl λ_ g=>zL (tn (zl (tr (zKA g (rs:=[.tmp 4,.tmp 5,.tmp 6]) (vs:=[(Sl.v Sl.none),(.int .u64 0),(.int .i64 r_1)]) rfl ⟨rfl,rfl,rfl,trivial⟩ ⟨_,_,_,rfl,H⟩))))))
 ·have H:=H.2 hc
  refine zY (tn (zI (zE (g.m rfl λ_ g=>g.m rfl λ_ g=>g.defer rfl rfl λ_ g=>zL (tn (zI (zI (zE (g.m rfl λ_ g=>g.m rfl λ_ g=>g.c (zb g zTl rfl rfl) H λe w H=>?_)))))))))
  obtain ⟨r_2,rfl,H⟩:=H
  refine ⟨_,rfl,λ_ g=>(zL (tn (zk g rfl (λhc=>?_) (λhc=>?_))))⟩
  ·have H:=H.1 hc
   exact zI (zE (g.s rfl λ_ g=>g.s rfl λ_ g=>g.s rfl λ_ g=>zL (tn (zl (tr (zMx g (rs:=[.tmp 4,.tmp 5,.tmp 6]) (vs:=[(Sl.v Sl.none),(.int .u64 0),(.int .i64 10)]) rfl zNV H (λw=>⟨rfl,rfl,rfl,trivial⟩) (λw H=>⟨_,_,_,rfl,H⟩)))))))
  ·have H:=H.2 hc
   refine zY (tn (zI (zI (zE (g.m rfl λ_ g=>g.p (zj g rfl H.1) λ_ g=>?_)))))
   have H:=H.2
   refine g.o (zP g rfl) H λx27 w a H g=>g.o (zO g rfl) H λx28 w a H g=>g.o (zNM g rfl) H λx29 w a H g=>g.p (Zb g rfl rfl) λ_ g=>zL (tn (zd g rfl (λhc=>?_) (λhc=>?_)))
   ·have H:=H.1 hc
    refine zI (QU (by kernel_rfl) (by kernel_rfl) (g.t rfl λ_ g=>g.r (zj g rfl H.1) λ_ g=>?_))
    have H:=H.2
    refine g.A (zP g rfl) H λx33 a H g=>g.A (zO g rfl) H λx34 a H g=>g.r (ZI g rfl) λ_ g=>g.r (ZI g rfl) λ_ g=>g.r (ZI g rfl) λ_ g=>Qb (λw hB=>?_)
    replace H:=H w hB
    exact (tn (zl (tr (zMx g (rs:=[.tmp 4,.tmp 5,.tmp 6]) (vs:=[(Sl.v Sl.none),(.int .u64 x34),(.int .i64 0)]) rfl zNV H (λw=>⟨rfl,rfl,rfl,trivial⟩) (λw H=>⟨_,_,_,rfl,H⟩)))))
   ·have H:=H.2 hc
    refine zY (tn (zI (zE (g.m rfl λ_ g=>g.c (zb g zSm rfl rfl) H λe w H=>?_))))
    obtain ⟨r_3,rfl,H⟩:=H
    refine ⟨_,rfl,λ_ g=>(g.s rfl λ_ g=>zL (tn (z8 (ds:=[defd 37 [(.pointer x0),(.int .i64 x1)]]) (N:=70) (σ:=Int × (Option Addr)) (λs=>[(8,(.int .i64 s.1)),(10,(.pointer s.2)),(0,(.pointer x0)),(9,(Sl.v r_3))]) (λs w=>Z4 x0 x1 Ret r_3 s.1 s.2 w) ?_ (λhj1=>?_))))⟩
    ·rintro ⟨x8,x10⟩ w a H g
     try dsimp only at H g
     unfold Z4 at H
     refine zI (zI (zE (g.m rfl λ_ g=>g.p (zFc g rfl rfl) λ_ g=>zL (tn (zd g rfl (λhc=>?_) (λhc=>?_))))))
     ·have H:=H.1 hc
      exact zI (zE (g.m rfl λ_ g=>g.s rfl λ_ g=>g.s rfl λ_ g=>g.s rfl λ_ g=>zL (tn (zl (tr (zMx g (rs:=[.tmp 4,.tmp 5,.tmp 6]) (vs:=[(Sl.v Sl.none),(.int .u64 0),(.int .i64 x8)]) rfl zNV H (λw=>⟨rfl,rfl,rfl,trivial⟩) (λw H=>⟨_,_,_,rfl,H⟩)))))))
     ·have H:=H.2 hc
      refine zY (tn (zI (zE (g.m rfl λ_ g=>g.o (zO g rfl) H λx55 w a H g=>g.p (zj g rfl H.1) λ_ g=>?_))))
      have H:=H.2
      refine g.o (zP g rfl) H λx57 w a H g=>g.h (zT g rfl rfl) H λw a H g=>zL (tn (zI (zE (g.m rfl λ_ g=>g.p (zj g rfl H.1) λ_ g=>?_))))
      have H:=H.2
      refine g.o (zP g rfl) H λx60 w a H g=>g.o (zO g rfl) H λx61 w a H g=>g.p (zr g rfl rfl) λ_ g=>g.p (zj g rfl H.1) λ_ g=>?_
      have H:=H.2
      refine g.o (zP g rfl) H λx64 w a H g=>g.h (zT g rfl rfl) H λw a H g=>zL (tn (zI (QU (by kernel_rfl) (by kernel_rfl) (g.t rfl λ_ g=>g.t rfl λ_ g=>g.r (zj g rfl H.1) λ_ g=>?_))))
      have H:=H.2
      refine g.A (zP g rfl) H λx68 a H g=>g.A (zO g rfl) H λx69 a H g=>g.r (ZI g rfl) λ_ g=>g.r (ZI g rfl) λ_ g=>g.r (ZI g rfl) λ_ g=>Qb (λw hB=>?_)
      replace H:=H w hB
      exact (tn (zl (zMx g (rs:=[.tmp 4,.tmp 5,.tmp 6]) (vs:=[(Sl.v r_3),(.int .u64 x69),(.int .i64 0)]) rfl zNV H (λw=>⟨rfl,rfl,rfl,trivial⟩) (λw H=>⟨_,_,_,rfl,H⟩))))
    ·refine zPV H 17 λC2 w hC0 H=>g.kp 0 rfl hC0 (xu (zR g rfl)) λ_ g=>g.kp 1 rfl hC0 (xu (zj g rfl H.1)) λ_ g=>?_
     have H:=H.2
     refine g.ko 2 rfl hC0 (zP g rfl) H λx40 a H g=>g.kp 4 rfl hC0 (xu (zR g rfl)) λ_ g=>g.kp 5 rfl hC0 (xu (zR g rfl)) λ_ g=>g.kp 6 rfl hC0 (xu (zj g rfl H.1)) λ_ g=>?_
     have H:=H.2
     refine g.ko 7 rfl hC0 (zP g rfl) H λx45 a H g=>g.ko 3 rfl hC0 (zO g rfl) H λx41 a H g=>g.ko 8 rfl hC0 (zO g rfl) H λx46 a H g=>g.kp 9 rfl hC0 (xu (zr g rfl rfl)) λ_ g=>WK.tw 10 14 rfl rfl ?_ ?_
     ·have H:=H.1
      intro K hK
      refine g.wcall (zb g zRv rfl rfl) H λe w H=>?_
      obtain ⟨r_4,r_5,rfl,H⟩:=H
      refine ⟨_,rfl,λ_ g=>(hK _ _ ⟨H.1,?_⟩)⟩
      have hC1:=H.1
      have H:=H.2
      refine g.kp 11 rfl hC1 (xu (zR g rfl)) λ_ g=>g.kp 12 rfl hC1 (xu (zc g rfl rfl)) λ_ g=>g.kp 13 rfl hC1 (xu (zc g rfl rfl)) λ_ g=>WK.on 14 rfl ?_
      intro K hK
      refine g.i (xY) H λx10_1 w a H g=>hK _ _ ⟨H.1,?_⟩
      have hC2:=H.1
      have H:=H.2
      refine WK.on 15 rfl ?_
      intro K hK
      refine g.wopu (zT g rfl rfl) H λw a H g=>hK _ _ ⟨H.1,?_⟩
      have hC3:=H.1
      have H:=H.2
      exact g.kp 16 rfl hC3 (xu (ZI g rfl)) λ_ g=>WK.nil (by kernel_rfl) ((tn (hj1 (r_5,x10_1) _ _ H (g.k))))
     ·have H:=H.2
      intro K hK
      refine g.i (xY) H λx10_2 w a H g=>hK _ _ ⟨H.1,?_⟩
      have hC1:=H.1
      have H:=H.2
      refine WK.on 10 rfl ?_
      intro K hK
      refine g.wcall (zb g zRv rfl rfl) H λe w H=>?_
      obtain ⟨r_6,r_7,rfl,H⟩:=H
      refine ⟨_,rfl,λ_ g=>(hK _ _ ⟨H.1,?_⟩)⟩
      have hC2:=H.1
      have H:=H.2
      refine g.kp 11 rfl hC2 (xu (zR g rfl)) λ_ g=>g.kp 12 rfl hC2 (xu (zc g rfl rfl)) λ_ g=>g.kp 13 rfl hC2 (xu (zc g rfl rfl)) λ_ g=>WK.on 15 rfl ?_
      intro K hK
      refine g.wopu (zT g rfl rfl) H λw a H g=>hK _ _ ⟨H.1,?_⟩
      have hC3:=H.1
      have H:=H.2
      exact g.kp 16 rfl hC3 (xu (ZI g rfl)) λ_ g=>WK.nil (by kernel_rfl) ((tn (hj1 (r_7,x10_2) _ _ H (g.k))))
def zAP (x0:Option Addr) (Ret:World->Prop) (x22:Option Addr) (x4:Int) (w:World) (Kl1:Int->World->Prop):Prop:=
 opE zA (zKx id id) (Instr.next (.pointer x22) false 0) w (λr w=>(r=none->(Qg (.pointer x0)/\(opE zA zB (zN 87 (.pointer x0) 0) w (λx36 w=>opE zA zQ.v (zD 69 (.pointer x36)) w (λx37 w=>Cl zA 56 [(zQ.v x37),(.int .u64 x4)].toArray w (λe w=>∃ (r_1:zQ) (r_2:Int),e=.returned (.tuple [(zQ.v r_1),(.int .i64 r_2)].toArray)/\(opE zA zB (zf 69 true (.tuple #[])) w (λx7 w=>opU zA (zK 69 (.pointer x7) (zQ.v r_1)) w (λw=>((r_2=0)->(opE zA zQ.v (zD 69 (.pointer x7)) w (λx45 w=>Qg (.pointer x0)/\(opE zA zB (zN 87 (.pointer x0) 0) w (λx47 w=>opU zA (zK 69 (.pointer x47) (zQ.v x45)) w (λw=>Ret w))))))/\(¬ (r_2=0)->(Ret w)))))))))))/\(∀ k v,r=some (k,v)->(opE zA (λp:Value × Value=>.tuple [p.1,p.2].toArray) (Instr.entry (.pointer x22)) w (λx25 w=>Qg x25.2/\(opE zA zB (zN 92 x25.2 0) w (λx30 w=>opE zA (zV .u64) (zD 37 (.pointer x30)) w (λx31 w=>Kl1 (if x31<x4 then x31 else x4) w)))))))
def zBf (x0:Option Addr) (x1:Int) (w:World) (Ret:World->Prop):Prop:=
 Qg (.pointer x0)/\(opE zA zB (zN 87 (.pointer x0) 3) w (λx11 w=>opE zA Value.map (zD 85 (.pointer x11)) w (λx12 w=>opE zA (λ_:Unit=>.tuple #[]) (Builtin.delete_ #[85,3] 0 [(.map x12),(.int .i64 x1)].toArray) w (λz w=>Qg (.pointer x0)/\(opE zA zB (zN 87 (.pointer x0) 1) w (λx16 w=>opE zA (zV .u64) (zD 37 (.pointer x16)) w (λx17 w=>Qg (.pointer x0)/\(opE zA zB (zN 87 (.pointer x0) 3) w (λx20 w=>opE zA Value.map (zD 85 (.pointer x20)) w (λx21 w=>opE zA zB (Instr.range 85 (.map x21)) w (λx22 w=>∃ (I:Int->World->Prop) (μ:Int->World->Nat),I x17 w/\∀ (x4:Int) w,I x4 w->zAP x0 Ret x22 x4 w (λx4' w'=>I x4' w'/\μ x4' w'<μ x4 w))))))))))))
set_option maxRecDepth 100000 in
theorem zJK (x0:Option Addr) (x1:Int) (w:World) (Ret:World->Prop) (H:zBf x0 x1 w Ret):Cl zA 37 [(.pointer x0),(.int .i64 x1)].toArray w (λe w'=>e=.returned (.tuple [].toArray)/\Ret w'):=by
 unfold zBf at H
 refine zp 48 (zipE 0 [(.pointer x0),(.int .i64 x1)]) Tryz.func37 rfl rfl (by rfl) rfl ?_
 intro a g
 have g:Sat [] 48 [(0,(.pointer x0)),(1,(.int .i64 x1))] a:=g
 refine zI (zE (g.m rfl λ_ g=>g.p (zj g rfl H.1) λ_ g=>?_))
 have H:=H.2
 refine g.o (zP g rfl) H λx11 w a H g=>g.o (zO g rfl) H λx12 w a H g=>g.m rfl λ_ g=>g.op0 (zM3 g rfl) H λz w a H g=>zL (tn (zI (zE (g.m rfl λ_ g=>g.p (zj g rfl H.1) λ_ g=>?_))))
 have H:=H.2
 refine g.o (zP g rfl) H λx16 w a H g=>g.o (zO g rfl) H λx17 w a H g=>g.s rfl λ_ g=>zL (tn (zI (zI (zE (g.m rfl λ_ g=>g.p (zj g rfl H.1) λ_ g=>?_)))))
 have H:=H.2
 refine g.o (zP g rfl) H λx20 w a H g=>g.o (zO g rfl) H λx21 w a H g=>g.o (zK5 g rfl) H λx22 w a H g=>zL (tn (zX ?_))
 obtain ⟨I_l1,μ_l1,h0,hb⟩:=H
 refine yE (ds:=[]) (N:=48) (σ:=Int) (λs=>[(4,(.int .u64 s)),(0,(.pointer x0)),(22,(.pointer x22))]) (λs w=>I_l1 s w) (λs w=>μ_l1 s w) x17 h0 (g.k) ?_
 intro x4 w a hI g
 try dsimp only at hI g
 obtain ⟨Kl1,hK_l1⟩:∃ K:Int->World->Prop,K=(λx4' w'=>I_l1 x4' w'/\μ_l1 x4' w'<μ_l1 x4 w):=⟨_,rfl⟩
 have H:zAP x0 Ret x22 x4 w Kl1:=by rw [hK_l1];exact hb x4 w hI
 clear hb h0 hI
 unfold zAP at H
 refine zI (zE (g.o (zMa g rfl) H λr w a H g=>?_))
 rcases r with _|⟨k,v⟩
 ·have H:=H.1 rfl
  refine g.p (zc g rfl rfl) λ_ g=>zL (tn (zI (zk g rfl (λh=>nomatch h) (λ_=>z7 (te (te (be (tn (zI (zE (g.m rfl λ_ g=>g.p (zj g rfl H.1) λ_ g=>?_)))))))))))
  have H:=H.2
  refine g.o (zP g rfl) H λx36 w a H g=>g.o (zO g rfl) H λx37 w a H g=>g.m rfl λ_ g=>g.c (zb g zR7 rfl rfl) H λe w H=>?_
  obtain ⟨r_1,r_2,rfl,H⟩:=H
  refine ⟨_,rfl,λ_ g=>(g.m rfl λ_ g=>g.p (zc g rfl rfl) λ_ g=>g.p (zc g rfl rfl) λ_ g=>g.o (xY) H λx7 w a H g=>g.h (zT g rfl rfl) H λw a H g=>g.s rfl λ_ g=>zL (tn (zI (zE (g.m rfl λ_ g=>g.p (Zb g rfl rfl) λ_ g=>zL (tn (zd g rfl (λhc=>?_) (λhc=>?_))))))))⟩
  ·have H:=H.1 hc
   refine zE (g.m rfl λ_ g=>g.o (zO g rfl) H λx45 w a H g=>g.p (zj g rfl H.1) λ_ g=>?_)
   have H:=H.2
   exact g.o (zP g rfl) H λx47 w a H g=>g.h (zT g rfl rfl) H λw a H g=>zL (zBg g rfl ⟨rfl,H⟩)
  ·have H:=H.2 hc
   exact zY (zBg g rfl ⟨rfl,H⟩)
 ·have H:=H.2 _ _ rfl
  refine g.p (zc g rfl rfl) λ_ g=>zL (tn (zI (zk g rfl (λ_=>zY (tn (zX (zI (zE (g.o (zK0 g rfl) H λx25 w a H g=>g.p (zc g rfl rfl) λ_ g=>g.s rfl λ_ g=>zL (tn (zE (g.m rfl λ_ g=>g.m rfl λ_ g=>g.p (zj g rfl H.1) λ_ g=>?_))))))))) (λh=>nomatch h))))
  have H:=H.2
  refine g.o (zP g rfl) H λx30 w a H g=>g.o (zO g rfl) H λx31 w a H g=>g.p (zQC g rfl rfl) λ_ g=>g.s rfl λ_ g=>?_
  rw [hK_l1] at H
  exact zL (bn (tn ⟨(if x31<x4 then x31 else x4),g.k,H⟩))
set_option maxRecDepth 100000 in
theorem zIa (x0:Option Addr) (x1:Int) (w:World) (Ret:World->Prop) (H:zBf x0 x1 w Ret):ClD zA 37 [(.pointer x0),(.int .i64 x1)].toArray w (λe w'=>e=.returned (.tuple [].toArray)/\Ret w'):=by
 unfold zBf at H
 refine zQR 48 (zipE 0 [(.pointer x0),(.int .i64 x1)]) Tryz.func37 rfl rfl (by rfl) rfl ?_
 intro a g
 have g:Sat [] 48 [(0,(.pointer x0)),(1,(.int .i64 x1))] a:=g
 refine zI (zE (g.m rfl λ_ g=>g.p (zj g rfl H.1) λ_ g=>?_))
 have H:=H.2
 refine g.o (zP g rfl) H λx11 w a H g=>g.o (zO g rfl) H λx12 w a H g=>g.m rfl λ_ g=>g.op0 (zM3 g rfl) H λz w a H g=>zL (tn (zI (zE (g.m rfl λ_ g=>g.p (zj g rfl H.1) λ_ g=>?_))))
 have H:=H.2
 refine g.o (zP g rfl) H λx16 w a H g=>g.o (zO g rfl) H λx17 w a H g=>g.s rfl λ_ g=>zL (tn (zI (zI (zE (g.m rfl λ_ g=>g.p (zj g rfl H.1) λ_ g=>?_)))))
 have H:=H.2
 refine g.o (zP g rfl) H λx20 w a H g=>g.o (zO g rfl) H λx21 w a H g=>g.o (zK5 g rfl) H λx22 w a H g=>zL (tn (zX ?_))
 obtain ⟨I_l1,μ_l1,h0,hb⟩:=H
 refine yE (ds:=[]) (N:=48) (σ:=Int) (λs=>[(4,(.int .u64 s)),(0,(.pointer x0)),(22,(.pointer x22))]) (λs w=>I_l1 s w) (λs w=>μ_l1 s w) x17 h0 (g.k) ?_
 intro x4 w a hI g
 try dsimp only at hI g
 obtain ⟨Kl1,hK_l1⟩:∃ K:Int->World->Prop,K=(λx4' w'=>I_l1 x4' w'/\μ_l1 x4' w'<μ_l1 x4 w):=⟨_,rfl⟩
 have H:zAP x0 Ret x22 x4 w Kl1:=by rw [hK_l1];exact hb x4 w hI
 clear hb h0 hI
 unfold zAP at H
 refine zI (zE (g.o (zMa g rfl) H λr w a H g=>?_))
 rcases r with _|⟨k,v⟩
 ·have H:=H.1 rfl
  refine g.p (zc g rfl rfl) λ_ g=>zL (tn (zI (zk g rfl (λh=>nomatch h) (λ_=>z7 (te (te (be (tn (zI (zE (g.m rfl λ_ g=>g.p (zj g rfl H.1) λ_ g=>?_)))))))))))
  have H:=H.2
  refine g.o (zP g rfl) H λx36 w a H g=>g.o (zO g rfl) H λx37 w a H g=>g.m rfl λ_ g=>g.c (zb g zR7 rfl rfl) H λe w H=>?_
  obtain ⟨r_1,r_2,rfl,H⟩:=H
  refine ⟨_,rfl,λ_ g=>(g.m rfl λ_ g=>g.p (zc g rfl rfl) λ_ g=>g.p (zc g rfl rfl) λ_ g=>g.o (xY) H λx7 w a H g=>g.h (zT g rfl rfl) H λw a H g=>g.s rfl λ_ g=>zL (tn (zI (zE (g.m rfl λ_ g=>g.p (Zb g rfl rfl) λ_ g=>zL (tn (zd g rfl (λhc=>?_) (λhc=>?_))))))))⟩
  ·have H:=H.1 hc
   refine zE (g.m rfl λ_ g=>g.o (zO g rfl) H λx45 w a H g=>g.p (zj g rfl H.1) λ_ g=>?_)
   have H:=H.2
   exact g.o (zP g rfl) H λx47 w a H g=>g.h (zT g rfl rfl) H λw a H g=>zL (zBg g rfl ⟨rfl,H⟩)
  ·have H:=H.2 hc
   exact zY (zBg g rfl ⟨rfl,H⟩)
 ·have H:=H.2 _ _ rfl
  refine g.p (zc g rfl rfl) λ_ g=>zL (tn (zI (zk g rfl (λ_=>zY (tn (zX (zI (zE (g.o (zK0 g rfl) H λx25 w a H g=>g.p (zc g rfl rfl) λ_ g=>g.s rfl λ_ g=>zL (tn (zE (g.m rfl λ_ g=>g.m rfl λ_ g=>g.p (zj g rfl H.1) λ_ g=>?_))))))))) (λh=>nomatch h))))
  have H:=H.2
  refine g.o (zP g rfl) H λx30 w a H g=>g.o (zO g rfl) H λx31 w a H g=>g.p (zQC g rfl rfl) λ_ g=>g.s rfl λ_ g=>?_
  rw [hK_l1] at H
  exact zL (bn (tn ⟨(if x31<x4 then x31 else x4),g.k,H⟩))
end Go.Proofs.YtealcoghiaeiiaaGreat.VG
set_option linter.unusedVariables false
namespace Go.Proofs.YtealcoghiaeiiaaGreat.VG
open Go.VB Go.Proofs
abbrev Ver:=zG
abbrev Wri:=zJ
abbrev Pai:=zM
abbrev noB:ByteArray:=ByteArray.mk #[]
def vlt (a b:Ver):Prop:=sLt a.Key b.Key=true∨(a.Key=b.Key/\a.At<b.At)
theorem zJ3 (a:Ver):¬ vlt a a:=λh=>by
 rcases h with h|h
 ·exact Z6 _ h
 ·omega
theorem zJm {a b c:Ver} (h:vlt a b) (k:vlt b c):vlt a c:=by
 rcases h with h|⟨h1,h2⟩<;>rcases k with k|⟨k1,k2⟩
 ·exact .inl (zHs h k)
 ·exact .inl (k1 ▸ h)
 ·exact .inl (h1 ▸ k)
 ·exact .inr ⟨h1.trans k1,by omega⟩
theorem zRC {a b:Ver} (h:vlt a b):¬ vlt b a:=λk=>zJ3 a (zJm h k)
theorem zOu {a b:Ver} (h:¬ vlt a b) (hn:¬ (a.Key=b.Key/\a.At=b.At)):vlt b a:=by
 by_cases hk:a.Key=b.Key
 ·refine .inr ⟨hk.symm,?_⟩
  have h1:¬ a.At<b.At:=λh2=>h (.inr ⟨hk,h2⟩)
  have h2:a.At≠b.At:=λh2=>hn ⟨hk,h2⟩
  omega
 ·exact .inl (zEe (λh1=>h (.inl h1)) hk)
theorem zOw {a b:Ver} (h:vlt a b):¬ sLt b.Key a.Key=true:=λk=>by
 rcases h with h|h
 ·exact zIB h k
 ·rw [h.1] at k;exact Z6 _ k
structure Made (x:Ver):Prop where
 lo:1<=x.At
 hi:x.At<=2305843009213693952
 gone:x.Gone=true->x.Val=noB
 keyl:x.Key.size<=256
 vall:x.Val.size<=512
def OkAt (l:List Ver) (i:Nat) (x:Ver):Prop:=Made x/\∀ j y,i=j+1->l[j]?=some y->vlt y x
def OkTo (l:List Ver) (n:Nat):Prop:=∀ i x,i<n->l[i]?=some x->OkAt l i x
structure zCt (l:List Ver) (low:Int):Prop where
 len:l.length<=4096
 low:low<=2305843009213693952
 ok:OkTo l l.length
open Classical in
noncomputable def vchk (l:List Ver) (low:Int):Int:=if zCt l low then 0 else 2
theorem zLx {l:List Ver} {low:Int} (h:zCt l low):vchk l low=0:=by unfold vchk;rw [if_pos h]
theorem zQ1 {l:List Ver} {low:Int} (h:¬ zCt l low):vchk l low=2:=by unfold vchk;rw [if_neg h]
theorem zGC {l:List Ver} {low:Int}:vchk l low=0↔zCt l low:=by
 unfold vchk;split<;>simp_all
theorem zRe {l:List Ver} {low:Int} (h:vchk l low≠0):vchk l low=2:=by
 unfold vchk at h ⊢;split<;>simp_all
theorem OkTo.zero (l:List Ver):OkTo l 0:=λi x h=>by omega
theorem OkTo.succ {l:List Ver} {n:Nat} (h:OkTo l n) {x:Ver} (hx:l[n]?=some x) (hg:OkAt l n x):OkTo l (n+1):=by
 intro i y hi hy
 rcases Nat.lt_or_ge i n with h1|h1
 ·exact h i y h1 hy
 ·obtain rfl:i=n:=by omega
  rw [hx] at hy;cases hy;exact hg
theorem zCt.made {l:List Ver} {low:Int} (h:zCt l low) {x:Ver} (hx:x∈l):Made x:=by
 obtain ⟨i,hi⟩:=List.getElem?_of_mem hx
 exact (h.ok i x (List.getElem?_eq_some_iff.1 hi).1 hi).1
theorem zL8 {l:List Ver} (h:∀ j x y,l[j]?=some x->l[j+1]?=some y->vlt x y):∀ d i x y,l[i]?=some x->l[i+d+1]?=some y->vlt x y
 |0,i,x,y,hx,hy=>h i x y hx hy
 |d+1,i,x,y,hx,hy=>by
  have hl:=(List.getElem?_eq_some_iff.1 hy).1
  obtain ⟨z,hz⟩:∃ z,l[i+d+1]?=some z:=⟨l[i+d+1]'(by omega),by simp⟩
  exact zJm (zL8 h d i x z hx hz) (h _ z y hz hy)
theorem zCt.sorted {l:List Ver} {low:Int} (h:zCt l low):l.Pairwise vlt:=by
 rw [List.pairwise_iff_getElem]
 intro i j hi hj hij
 refine zL8 (l:=l) (λj x y hx hy=>(h.ok (j+1) y (List.getElem?_eq_some_iff.1 hy).1 hy).2 j x rfl hx) (j - i - 1) i _ _ (by simp) ?_
 rw [show i+(j - i - 1)+1=j by omega];simp
theorem zK4 {l:List Ver} {low:Int} (h1:l.length<=4096) (h2:low<=2305843009213693952) (h3:∀ x∈l,Made x) (h4:l.Pairwise vlt):zCt l low:=
 ⟨h1,h2,λi x hi hx=>⟨h3 x (List.mem_of_getElem? hx),λj y hj hy=>by
  subst hj
  have a:=List.getElem?_eq_some_iff.1 hx;have b:=List.getElem?_eq_some_iff.1 hy
  have:=List.pairwise_iff_getElem.1 h4 j (j+1) b.1 a.1 (by omega)
  rw [a.2,b.2] at this;exact this⟩⟩
noncomputable def vask (l:List Ver) (low t:Int):Int:=if vchk l low≠0 then 2 else if t<low then 9 else 0
theorem zHm {l:List Ver} {low t:Int}:vask l low t=0↔zCt l low/\low<=t:=by
 unfold vask
 by_cases h:vchk l low=0
 ·rw [if_neg (by simp [h])]
  rw [zGC] at h
  split
  ·exact ⟨λh=>absurd h (by decide),λh=>by omega⟩
  ·exact ⟨λ_=>⟨h,by omega⟩,λ_=>rfl⟩
 ·rw [if_pos h]
  exact ⟨λh=>absurd h (by decide),λh2=>absurd (zGC.2 h2.1) h⟩
def sees (l:List Ver) (key:ByteArray) (t:Int):Option Ver:=(l.filter λx=>decide (x.Key=key)&&decide (x.At<=t)).getLast?
def outV:Option Ver->ByteArray × Bool
 |none=>(noB,false)
 |some x=>(x.Val,!x.Gone)
noncomputable def vget (l:List Ver) (low:Int) (key:ByteArray) (t:Int):ByteArray × Bool × Int:=
 if vask l low t≠0 then (noB,false,vask l low t) else ((outV (sees l key t)).1,(outV (sees l key t)).2,0)
theorem zM6 (key:ByteArray) (t:Int):sees [] key t=none:=rfl
theorem zIb (l m:List Ver) (key:ByteArray) (t:Int):sees (l++m) key t=(sees m key t).or (sees l key t):=by
 unfold sees
 rw [List.filter_append,List.getLast?_append]
theorem zNL (x:Ver) (key:ByteArray) (t:Int):sees [x] key t=if x.Key=key/\x.At<=t then some x else none:=by
 unfold sees
 by_cases h:x.Key=key/\x.At<=t
 ·rw [if_pos h];simp [h.1,h.2]
 ·rw [if_neg h]
  have:([x].filter λx=>decide (x.Key=key)&&decide (x.At<=t))=[]:=by
   rw [List.filter_eq_nil_iff];intro y hy;simp at hy;subst hy;simpa using λh1=>Int.not_le.1 λh2=>h ⟨h1,h2⟩
  rw [this];rfl
theorem zA0 {α:Type} {l:List α} {n:Nat} {x:α} (h:l[n]?=some x):l.take (n+1)=l.take n++[x]:=by
 rw [List.take_add_one,h];rfl
theorem zHi {l:List Ver} {key:ByteArray} {t:Int} {x:Ver} (h:sees l key t=some x):x∈l/\x.Key=key/\x.At<=t:=by
 unfold sees at h
 have:=List.mem_of_getLast? h
 rw [List.mem_filter] at this
 simp at this
 exact ⟨this.1,this.2.1,this.2.2⟩
theorem zEi {l:List Ver} {key:ByteArray} {t:Int}:sees l key t=none↔∀ x∈l,¬ (x.Key=key/\x.At<=t):=by
 unfold sees
 rw [List.getLast?_eq_none_iff,List.filter_eq_nil_iff]
 simp
theorem zIr {l:List Ver} (hs:l.Pairwise vlt) {key:ByteArray} {t:Int} {x:Ver} (hx:x∈l) (hk:x.Key=key) (ht:x.At<=t) (hm:∀ y∈l,y.Key=key->y.At<=t->y.At<=x.At):sees l key t=some x:=by
 cases h:sees l key t with
 |none=>exact absurd ⟨hk,ht⟩ (zEi.1 h x hx)
 |some y=>
  obtain ⟨h1,h2,h3⟩:=zHi h
  have h4:=hm y h1 h2 h3
  have hsort:(l.filter λx=>decide (x.Key=key)&&decide (x.At<=t)).Pairwise vlt:=hs.sublist List.filter_sublist
  have hxf:x∈l.filter λx=>decide (x.Key=key)&&decide (x.At<=t):=by rw [List.mem_filter];exact ⟨hx,by simp [hk,ht]⟩
  unfold sees at h
  obtain ⟨ys,hys⟩:=List.getLast?_eq_some_iff.1 h
  rw [hys] at hxf hsort
  rcases List.mem_append.1 hxf with h5|h5
  ·have h6:=(List.pairwise_append.1 hsort).2.2 x h5 y (by simp)
   rcases h6 with h6|h6
   ·rw [hk,h2] at h6;exact absurd h6 (Z6 _)
   ·omega
  ·simp at h5;rw [h5]
theorem zRI {l:List Ver} (hs:l.Pairwise vlt) {key:ByteArray} {t:Int} {x:Ver} (h:sees l key t=some x):∀ y∈l,y.Key=key->y.At<=t->y.At<=x.At:=by
 intro y hy hk ht
 obtain ⟨h1,h2,h3⟩:=zHi h
 have hsort:(l.filter λx=>decide (x.Key=key)&&decide (x.At<=t)).Pairwise vlt:=hs.sublist List.filter_sublist
 have hyf:y∈l.filter λx=>decide (x.Key=key)&&decide (x.At<=t):=by rw [List.mem_filter];exact ⟨hy,by simp [hk,ht]⟩
 unfold sees at h
 obtain ⟨ys,hys⟩:=List.getLast?_eq_some_iff.1 h
 rw [hys] at hyf hsort
 rcases List.mem_append.1 hyf with h5|h5
 ·have h6:=(List.pairwise_append.1 hsort).2.2 y h5 x (by simp)
  rcases h6 with h6|h6
  ·rw [hk,h2] at h6;exact absurd h6 (Z6 _)
  ·omega
 ·simp at h5;rw [h5];omega
end Go.Proofs.YtealcoghiaeiiaaGreat.VG
