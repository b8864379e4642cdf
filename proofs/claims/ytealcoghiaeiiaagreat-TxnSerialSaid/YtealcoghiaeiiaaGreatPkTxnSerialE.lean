/- Texts by which the law's calls are walked (part 5): rules, printed conditions, contracts; no condition. -/
import Derived.TacticsIn
import Derived.TacticsInMore
import Derived.Deep.LoopGhost
import Derived.Sort.QuietThIn
import Derived.RangeFuncCalls
import Derived.RangeFuncNested
import Derived.RangeFuncLeaves
import Derived.WalkKit
import Derived.StillTail
import Derived.Test.YtealcoghiaeiiaaGreatProg
import Derived.KernelRfl
import Derived.Deep.WholeRow
import Derived.Laws.StructEq
import Derived.MapFrom
import Derived.Laws.CopyRow
import Derived.Test.YtealcoghiaeiiaaGreatPkTxnSerialD
open Go.Proofs.Tryz renaming prog → zA
open Go.IntKind renaming wrap → zC
open Go.Value renaming pointer → zB, int → zV, string → zZ, bool → xv
open Go.Instr renaming loadAt → zD, storeAt → zK, indexAt → zF, fieldAt → zN, alloc → zf, build → yr, buildSlice → ze
open Nat renaming le_refl → zU, le_trans → zn, lt_of_lt_of_le → yF
open List renaming length_append → zg
set_option linter.unusedVariables false
set_option linter.unusedSimpArgs false
namespace Go.Proofs.YtealcoghiaeiiaaGreat.VG
open Go.VB Go.Proofs
def Ze (x0:Sl) (x1:Value) (w:World) (Ret:World->Prop):Prop:=
 opE zA (zV .u64) (Go.convert 3 143 (.int .i64 (x0.len:Int))) w (λx10 w=>Cl zA 73 [(.int .u64 x10)].toArray w (λe w=>∃ (r:Int),e=.returned (.int .i64 r)/\(Cl zA 85 [(Sl.v x0),(.int .i64 0),(.int .i64 (x0.len:Int)),(.int .i64 r),x1].toArray w (λe w=>e=.returned (.tuple [].toArray)/\(Ret w)))))
set_option maxRecDepth 100000 in
theorem zDK (x0:Sl) (x1:Value) (w:World) (Ret:World->Prop) (H:Ze x0 x1 w Ret):Cl zA 67 [(Sl.v x0),x1].toArray w (λe w'=>e=.returned (.tuple [].toArray)/\Ret w'):=by
 unfold Ze at H
 refine zp 14 (zipE 0 [(Sl.v x0),x1]) Tryz.func67 rfl rfl (by rfl) rfl ?_
 intro a g
 have g:Sat [] 14 [(0,(Sl.v x0)),(1,x1)] a:=g
 refine zI (zE (g.m rfl λ_ g=>g.purR (λw=>ZU g Tryz.underlying67 rfl) λ_ g=>g.s rfl λ_ g=>zL (tn (zE (g.m rfl λ_ g=>g.m rfl λ_ g=>g.m rfl λ_ g=>g.o (zBw g rfl) H λx10 w a H g=>g.c (zb g zO3 rfl rfl) H λe w H=>?_)))))
 obtain ⟨r,rfl,H⟩:=H
 refine ⟨_,rfl,λ_ g=>(g.m rfl λ_ g=>g.c (zb g zQu rfl rfl) H λe w H=>?_)⟩
 obtain ⟨rfl,H⟩:=H
 exact ⟨_,rfl,λ_ g=>(zL (zBg g rfl ⟨rfl,H⟩))⟩
def Q4 (x0:Sl) (x4:Value) (x1_1:Int) (x2_1:Int) (x10:Bool) (x11:Bool) (Kl1:Int->Int->Int->Bool->Bool->World->Prop) (x3_2:Int) (x13:Int) (x97:Bool) (w:World):Prop:=
 yM w (λw=>(x97=true->(Cl zA 111 [(Sl.v x0),(.int .i64 x1_1),(.int .i64 x2_1),(.int .i64 x13),x4].toArray w (λe w=>∃ (r_2:Int),e=.returned (.int .i64 r_2)/\(Kl1 r_2 x2_1 x3_2 x10 x11 w))))/\(x97=false->(Cl zA 112 [(Sl.v x0),(.int .i64 x1_1),(.int .i64 x2_1),(.int .i64 x13),x4].toArray w (λe w=>∃ (r_3:Int) (r_4:Bool),e=.returned (.tuple [(.int .i64 r_3),(.bool r_4)].toArray)/\(opE zA (zV .i64) (binOp .quo 3 (.int .i64 (zC .i64 (x2_1 - x1_1))) (.int .i64 8)) w (λx122 w=>(((zC .i64 (r_3 - x1_1))<(zC .i64 (x2_1 - r_3)))->(Cl zA 85 [(Sl.v x0),(.int .i64 x1_1),(.int .i64 r_3),(.int .i64 x3_2),x4].toArray w (λe w=>e=.returned (.tuple [].toArray)/\(Kl1 (zC .i64 (r_3+1)) x2_1 x3_2 (decide (x122<=(zC .i64 (r_3 - x1_1)))) r_4 w))))/\(¬ ((zC .i64 (r_3 - x1_1))<(zC .i64 (x2_1 - r_3)))->(Cl zA 85 [(Sl.v x0),(.int .i64 (zC .i64 (r_3+1))),(.int .i64 x2_1),(.int .i64 x3_2),x4].toArray w (λe w=>e=.returned (.tuple [].toArray)/\(Kl1 x1_1 r_3 x3_2 (decide (x122<=(zC .i64 (x2_1 - r_3)))) r_4 w))))))))))
def xF (x0:Sl) (x4:Value) (x1_1:Int) (x2_1:Int) (x10:Bool) (x11:Bool) (Kl1:Int->Int->Int->Bool->Bool->World->Prop) (x3_2:Int) (x13:Int) (w:World):Prop:=
 ((0<x1_1)->(opB zA zB (zF 67 (Sl.v x0) (.int .i64 (zC .i64 (x1_1 - 1)))) w (λx88=>opB zA zG.v (zD 72 (.pointer x88)) w (λx89=>opB zA zB (zF 67 (Sl.v x0) (.int .i64 x13)) w (λx92=>opB zA zG.v (zD 72 (.pointer x92)) w (λx93=>∃ (r_5:Int),Zs zA x4 [(zG.v x89),(zG.v x93)] w (.int .i64 r_5)/\(Q4 x0 x4 x1_1 x2_1 x10 x11 Kl1 x3_2 x13 (!(decide (r_5<0))) w)))))))/\(¬ (0<x1_1)->(Q4 x0 x4 x1_1 x2_1 x10 x11 Kl1 x3_2 x13 false w))
def xK (x0:Sl) (x4:Value) (Ret:World->Prop) (x1_1:Int) (x2_1:Int) (x10:Bool) (x11:Bool) (Kl1:Int->Int->Int->Bool->Bool->World->Prop) (x3_2:Int) (x13:Int) (x75:Bool) (w:World):Prop:=
 (x75=true->(Cl zA 110 [(Sl.v x0),(.int .i64 x1_1),(.int .i64 x2_1),x4].toArray w (λe w=>∃ (r_6:Bool),e=.returned (.bool r_6)/\((r_6=true->(Ret w))/\(r_6=false->(xF x0 x4 x1_1 x2_1 x10 x11 Kl1 x3_2 x13 w))))))/\(x75=false->(xF x0 x4 x1_1 x2_1 x10 x11 Kl1 x3_2 x13 w))
def Qv (x0:Sl) (x4:Value) (Ret:World->Prop) (x1_1:Int) (x2_1:Int) (x10:Bool) (x11:Bool) (Kl1:Int->Int->Int->Bool->Bool->World->Prop) (x3_2:Int) (x13:Int) (x14:Int) (x71:Bool) (w:World):Prop:=
 (x71=true->(xK x0 x4 Ret x1_1 x2_1 x10 x11 Kl1 x3_2 x13 (decide (x14=1)) w))/\(x71=false->(xK x0 x4 Ret x1_1 x2_1 x10 x11 Kl1 x3_2 x13 false w))
def xE (x0:Sl) (x4:Value) (Ret:World->Prop) (x1_1:Int) (x2_1:Int) (x10:Bool) (x11:Bool) (Kl1:Int->Int->Int->Bool->Bool->World->Prop) (x3_2:Int) (x13:Int) (x14:Int) (w:World):Prop:=
 (x10=true->(Qv x0 x4 Ret x1_1 x2_1 x10 x11 Kl1 x3_2 x13 x14 x11 w))/\(x10=false->(Qv x0 x4 Ret x1_1 x2_1 x10 x11 Kl1 x3_2 x13 x14 false w))
def xG (x0:Sl) (x4:Value) (Ret:World->Prop) (x1_1:Int) (x2_1:Int) (x10:Bool) (x11:Bool) (Kl1:Int->Int->Int->Bool->Bool->World->Prop) (x3_2:Int) (w:World):Prop:=
 Cl zA 108 [(Sl.v x0),(.int .i64 x1_1),(.int .i64 x2_1),x4].toArray w (λe w=>∃ (r:Int) (r_1:Int),e=.returned (.tuple [(.int .i64 r),(.int .i64 r_1)].toArray)/\(((r_1=2)->(Cl zA 109 [(Sl.v x0),(.int .i64 x1_1),(.int .i64 x2_1),x4].toArray w (λe w=>e=.returned (.tuple [].toArray)/\(xE x0 x4 Ret x1_1 x2_1 x10 x11 Kl1 x3_2 (zC .i64 ((zC .i64 (x2_1 - 1)) - (zC .i64 (r - x1_1)))) 1 w))))/\(¬ (r_1=2)->(xE x0 x4 Ret x1_1 x2_1 x10 x11 Kl1 x3_2 r r_1 w))))
def Qn (x0:Sl) (x4:Value) (Ret:World->Prop) (x1_1:Int) (x2_1:Int) (x3_1:Int) (x10:Bool) (x11:Bool) (w:World) (Kl1:Int->Int->Int->Bool->Bool->World->Prop):Prop:=
 (((zC .i64 (x2_1 - x1_1))<=12)->(Cl zA 105 [(Sl.v x0),(.int .i64 x1_1),(.int .i64 x2_1),x4].toArray w (λe w=>e=.returned (.tuple [].toArray)/\(Ret w))))/\(¬ ((zC .i64 (x2_1 - x1_1))<=12)->(((x3_1=0)->(Cl zA 106 [(Sl.v x0),(.int .i64 x1_1),(.int .i64 x2_1),x4].toArray w (λe w=>e=.returned (.tuple [].toArray)/\(Ret w))))/\(¬ (x3_1=0)->(((!x10)=true->(Cl zA 107 [(Sl.v x0),(.int .i64 x1_1),(.int .i64 x2_1),x4].toArray w (λe w=>e=.returned (.tuple [].toArray)/\(xG x0 x4 Ret x1_1 x2_1 x10 x11 Kl1 (zC .i64 (x3_1 - 1)) w))))/\((!x10)=false->(xG x0 x4 Ret x1_1 x2_1 x10 x11 Kl1 x3_1 w))))))
def ZT (x0:Sl) (x1:Int) (x2:Int) (x3:Int) (x4:Value) (w:World) (Ret:World->Prop):Prop:=
 ∃ (I:Int->Int->Int->Bool->Bool->World->Prop) (μ:Int->Int->Int->Bool->Bool->World->Nat),I x1 x2 x3 true true w/\∀ (x1_1:Int) (x2_1:Int) (x3_1:Int) (x10:Bool) (x11:Bool) w,I x1_1 x2_1 x3_1 x10 x11 w->Qn x0 x4 Ret x1_1 x2_1 x3_1 x10 x11 w (λx1_1' x2_1' x3_1' x10' x11' w'=>I x1_1' x2_1' x3_1' x10' x11' w'/\μ x1_1' x2_1' x3_1' x10' x11' w'<μ x1_1 x2_1 x3_1 x10 x11 w)
set_option maxRecDepth 100000 in
theorem zB2 (x0:Sl) (x1:Int) (x2:Int) (x3:Int) (x4:Value) (w:World) (Ret:World->Prop) (H:ZT x0 x1 x2 x3 x4 w Ret):Cl zA 85 [(Sl.v x0),(.int .i64 x1),(.int .i64 x2),(.int .i64 x3),x4].toArray w (λe w'=>e=.returned (.tuple [].toArray)/\Ret w'):=by
 unfold ZT at H
 refine zp 148 (zipE 0 [(Sl.v x0),(.int .i64 x1),(.int .i64 x2),(.int .i64 x3),x4]) Tryz.func85 rfl rfl (by rfl) rfl ?_
 intro a g
 have g:Sat [] 148 [(0,(Sl.v x0)),(1,(.int .i64 x1)),(2,(.int .i64 x2)),(3,(.int .i64 x3)),(4,x4)] a:=g
 refine zI (zE (g.s rfl λ_ g=>zL (tn (zI (zE (g.s rfl λ_ g=>zL (tn (zX ?_))))))))
 obtain ⟨I_l1,μ_l1,h0,hb⟩:=H
 refine yE (ds:=[]) (N:=148) (σ:=Int × Int × Int × Bool × Bool) (λs=>[(1,(.int .i64 s.1)),(2,(.int .i64 s.2.1)),(3,(.int .i64 s.2.2.1)),(10,(.bool s.2.2.2.1)),(11,(.bool s.2.2.2.2)),(0,(Sl.v x0)),(4,x4)]) (λs w=>I_l1 s.1 s.2.1 s.2.2.1 s.2.2.2.1 s.2.2.2.2 w) (λs w=>μ_l1 s.1 s.2.1 s.2.2.1 s.2.2.2.1 s.2.2.2.2 w) (x1,x2,x3,true,true) h0 (g.k) ?_
 rintro ⟨x1_1,x2_1,x3_1,x10,x11⟩ w a hI g
 try dsimp only at hI g
 obtain ⟨Kl1,hK_l1⟩:∃ K:Int->Int->Int->Bool->Bool->World->Prop,K=(λx1_1' x2_1' x3_1' x10' x11' w'=>I_l1 x1_1' x2_1' x3_1' x10' x11' w'/\μ_l1 x1_1' x2_1' x3_1' x10' x11' w'<μ_l1 x1_1 x2_1 x3_1 x10 x11 w):=⟨_,rfl⟩
 have H:Qn x0 x4 Ret x1_1 x2_1 x3_1 x10 x11 w Kl1:=by rw [hK_l1];exact hb x1_1 x2_1 x3_1 x10 x11 w hI
 clear hb h0 hI
 unfold Qn at H
 refine zX (zI (zE (g.m rfl λ_ g=>g.m rfl λ_ g=>g.p (zv g rfl rfl) λ_ g=>g.s rfl λ_ g=>zL (tn (zI (zI (zE (g.m rfl λ_ g=>g.p (zCw g rfl rfl) λ_ g=>zL (tn (zd g rfl (λhc=>?_) (λhc=>?_)))))))))))
 ·have H:=H.1 hc
  refine zI (zE (g.m rfl λ_ g=>g.m rfl λ_ g=>g.m rfl λ_ g=>g.m rfl λ_ g=>g.c (zb g zSi rfl rfl) H λe w H=>?_))
  obtain ⟨rfl,H⟩:=H
  exact ⟨_,rfl,λ_ g=>(zL (tn (zl (tr (br (tr (br (zE1 g rfl ⟨rfl,H⟩))))))))⟩
 ·have H:=H.2 hc
  refine zY (tn (zI (zI (zE (g.m rfl λ_ g=>g.p (Zb g rfl rfl) λ_ g=>zL (tn (zd g rfl (λhc=>?_) (λhc=>?_))))))))
  ·have H:=H.1 hc
   refine zI (zE (g.m rfl λ_ g=>g.m rfl λ_ g=>g.m rfl λ_ g=>g.m rfl λ_ g=>g.c (zb g zSQ rfl rfl) H λe w H=>?_))
   obtain ⟨rfl,H⟩:=H
   exact ⟨_,rfl,λ_ g=>(zL (tn (zl (tr (br (tr (br (zE1 g rfl ⟨rfl,H⟩))))))))⟩
  ·have H:=H.2 hc
   refine zY (tn (z8 (ds:=[]) (N:=148) (σ:=Int) (λs=>[(3,(.int .i64 s)),(0,(Sl.v x0)),(1,(.int .i64 x1_1)),(2,(.int .i64 x2_1)),(4,x4),(10,(.bool x10)),(11,(.bool x11)),(12,(.int .i64 (zC .i64 (x2_1 - x1_1))))]) (λs w=>xG x0 x4 Ret x1_1 x2_1 x10 x11 Kl1 s w) ?_ (λhj2=>?_)))
   ·intro x3_2 w a H g
    try dsimp only at H g
    unfold xG at H
    refine zI (zE (g.m rfl λ_ g=>g.m rfl λ_ g=>g.m rfl λ_ g=>g.m rfl λ_ g=>g.c (zb g zSV rfl rfl) H λe w H=>?_))
    obtain ⟨r,r_1,rfl,H⟩:=H
    refine ⟨_,rfl,λ_ g=>(g.m rfl λ_ g=>g.p (zc g rfl rfl) λ_ g=>g.p (zc g rfl rfl) λ_ g=>g.s rfl λ_ g=>g.s rfl λ_ g=>zL (tn (z8 (ds:=[]) (N:=148) (σ:=Int × Int) (λs=>[(13,(.int .i64 s.1)),(14,(.int .i64 s.2)),(0,(Sl.v x0)),(1,(.int .i64 x1_1)),(2,(.int .i64 x2_1)),(3,(.int .i64 x3_2)),(4,x4),(10,(.bool x10)),(11,(.bool x11)),(12,(.int .i64 (zC .i64 (x2_1 - x1_1))))]) (λs w=>xE x0 x4 Ret x1_1 x2_1 x10 x11 Kl1 x3_2 s.1 s.2 w) ?_ (λhj3=>?_))))⟩
    ·rintro ⟨x13,x14⟩ w a H g
     try dsimp only at H g
     unfold xE at H
     refine z8 (ds:=[]) (N:=148) (σ:=Unit) (λs=>[(0,(Sl.v x0)),(1,(.int .i64 x1_1)),(2,(.int .i64 x2_1)),(3,(.int .i64 x3_2)),(4,x4),(10,(.bool x10)),(11,(.bool x11)),(12,(.int .i64 (zC .i64 (x2_1 - x1_1)))),(13,(.int .i64 x13))]) (λs w=>xF x0 x4 x1_1 x2_1 x10 x11 Kl1 x3_2 x13 w) ?_ (λhj4=>?_)
     ·rintro ⟨⟩ w a H g
      try dsimp only at H g
      unfold xF at H
      refine zI (zI (QU (by kernel_rfl) (by kernel_rfl) (g.t rfl λ_ g=>g.r (zBx g rfl rfl) λ_ g=>g.t rfl λ_ g=>WQ.join (ds:=[]) (N:=148) (σ:=Bool) (λs=>[(97,(.bool s)),(0,(Sl.v x0)),(1,(.int .i64 x1_1)),(2,(.int .i64 x2_1)),(3,(.int .i64 x3_2)),(4,x4),(10,(.bool x10)),(11,(.bool x11)),(12,(.int .i64 (zC .i64 (x2_1 - x1_1)))),(13,(.int .i64 x13))]) (λs=>Q4 x0 x4 x1_1 x2_1 x10 x11 Kl1 x3_2 x13 s w) 14 ?_ (λhr5=>?_))))
      ·intro x97 a H g
       try dsimp only at H g
       unfold Q4 at H
       refine Qb (λw hB=>?_)
       replace H:=H w hB
       refine (tn (zk g rfl (λhc=>?_) (λhc=>?_)))
       ·have H:=H.1 hc
        refine zI (zE (g.m rfl λ_ g=>g.m rfl λ_ g=>g.m rfl λ_ g=>g.m rfl λ_ g=>g.m rfl λ_ g=>g.c (zb g zSI rfl rfl) H λe w H=>?_))
        obtain ⟨r_2,rfl,H⟩:=H
        refine ⟨_,rfl,λ_ g=>(g.s rfl λ_ g=>zL (tn (zI (zE (g.m rfl λ_ g=>g.s rfl λ_ g=>zL (tn ?_))))))⟩
        rw [hK_l1] at H
        exact z7 (te (be (tn ⟨(r_2,x2_1,x3_2,x10,x11),g.k,H⟩)))
       ·have H:=H.2 hc
        refine zY (tn (zI (zE (g.m rfl λ_ g=>g.m rfl λ_ g=>g.m rfl λ_ g=>g.m rfl λ_ g=>g.m rfl λ_ g=>g.c (zb g zSh rfl rfl) H λe w H=>?_))))
        obtain ⟨r_3,r_4,rfl,H⟩:=H
        refine ⟨_,rfl,λ_ g=>(g.m rfl λ_ g=>g.p (zc g rfl rfl) λ_ g=>g.p (zc g rfl rfl) λ_ g=>g.s rfl λ_ g=>g.s rfl λ_ g=>zL (tn (zI (zE (g.m rfl λ_ g=>g.s rfl λ_ g=>zL (tn (zI (zE (g.m rfl λ_ g=>g.m rfl λ_ g=>g.p (zv g rfl rfl) λ_ g=>g.m rfl λ_ g=>g.m rfl λ_ g=>g.p (zv g rfl rfl) λ_ g=>g.s rfl λ_ g=>g.s rfl λ_ g=>zL (tn (zI (zE (g.m rfl λ_ g=>g.o (ZS g rfl rfl) H λx122 w a H g=>g.s rfl λ_ g=>zL (tn (zI (zE (g.m rfl λ_ g=>g.m rfl λ_ g=>g.p (yR g rfl rfl) λ_ g=>zL (tn (zd g rfl (λhc=>?_) (λhc=>?_))))))))))))))))))))⟩
        ·have H:=H.1 hc
         refine zI (zE (g.m rfl λ_ g=>g.m rfl λ_ g=>g.p (Zm g rfl rfl) λ_ g=>g.s rfl λ_ g=>zL (tn (zI (zE (g.m rfl λ_ g=>g.m rfl λ_ g=>g.m rfl λ_ g=>g.m rfl λ_ g=>g.m rfl λ_ g=>g.c (zb g zQu rfl rfl) H λe w H=>?_))))))
         obtain ⟨rfl,H⟩:=H
         refine ⟨_,rfl,λ_ g=>(zL (tn (zE (g.m rfl λ_ g=>g.p (zr g rfl rfl) λ_ g=>g.s rfl λ_ g=>?_))))⟩
         rw [hK_l1] at H
         exact zL (bn (tn ⟨((zC .i64 (r_3+1)),x2_1,x3_2,(decide (x122<=(zC .i64 (r_3 - x1_1)))),r_4),g.k,H⟩))
        ·have H:=H.2 hc
         refine zI (zE (g.m rfl λ_ g=>g.m rfl λ_ g=>g.p (Zm g rfl rfl) λ_ g=>g.s rfl λ_ g=>zL (tn (zI (zE (g.m rfl λ_ g=>g.m rfl λ_ g=>g.p (zr g rfl rfl) λ_ g=>g.m rfl λ_ g=>g.m rfl λ_ g=>g.m rfl λ_ g=>g.c (zb g zQu rfl rfl) H λe w H=>?_))))))
         obtain ⟨rfl,H⟩:=H
         refine ⟨_,rfl,λ_ g=>(zL (tn (zE (g.m rfl λ_ g=>g.s rfl λ_ g=>?_))))⟩
         rw [hK_l1] at H
         exact zL (bn (tn ⟨(x1_1,r_3,x3_2,(decide (x122<=(zC .i64 (x2_1 - r_3)))),r_4),g.k,H⟩))
      ·rcases Classical.em ((0<x1_1)) with hbr5|hbr5
       ·have H:=H.1 hbr5
        have g:=g.b (b:=true) (t:=83) rfl (decide_eq_true hbr5)
        refine g.e (g.t rfl λ_ g=>g.e (g.t rfl λ_ g=>g.e (g.t rfl λ_ g=>g.e (g.r (zv g rfl rfl) λ_ g=>g.e (g.A (zH g rfl rfl) H λx88 a H g=>g.e (g.A (zO g rfl) H λx89 a H g=>g.e (g.t rfl λ_ g=>g.e (g.t rfl λ_ g=>g.e (g.A (zH g rfl rfl) H λx92 a H g=>g.e (g.A (zO g rfl) H λx93 a H g=>g.e ?_))))))))))
        obtain ⟨r_5,hc,H⟩:=H
        exact g.qcallV rfl rfl hc λ_ g=>g.e (g.r (yR g rfl rfl) λ_ g=>g.e (g.r (zAJ g rfl) λ_ g=>g.r (zx g rfl rfl) λ_ g=>hr5 (!(decide (r_5<0))) _ H (g.k)))
       ·have H:=H.2 hbr5
        have g:=g.b (b:=false) (t:=83) rfl (decide_eq_false hbr5)
        exact g.g (λ_ g=>g.g (λ_ g=>g.g (λ_ g=>g.g (λ_ g=>g.g (λ_ g=>g.g (λ_ g=>g.g (λ_ g=>g.g (λ_ g=>g.g (λ_ g=>g.g (λ_ g=>g.g (λ_ g=>g.g (λ_ g=>g.g (λ_ g=>g.r (zy g rfl rfl) λ_ g=>hr5 false _ H (g.k))))))))))))))
     ·refine zI (zE (g.m rfl λ_ g=>g.m rfl λ_ g=>WL.join (ds:=[]) (N:=148) (σ:=Bool) (λs=>[(71,(.bool s)),(0,(Sl.v x0)),(1,(.int .i64 x1_1)),(2,(.int .i64 x2_1)),(3,(.int .i64 x3_2)),(4,x4),(10,(.bool x10)),(11,(.bool x11)),(12,(.int .i64 (zC .i64 (x2_1 - x1_1)))),(13,(.int .i64 x13)),(14,(.int .i64 x14))]) (λs w=>Qv x0 x4 Ret x1_1 x2_1 x10 x11 Kl1 x3_2 x13 x14 s w) 2 ?_ (λhr6=>?_)))
      ·intro x71 w a H g
       try dsimp only at H g
       unfold Qv at H
       refine g.m rfl λ_ g=>WL.join (ds:=[]) (N:=148) (σ:=Bool) (λs=>[(75,(.bool s)),(0,(Sl.v x0)),(1,(.int .i64 x1_1)),(2,(.int .i64 x2_1)),(3,(.int .i64 x3_2)),(4,x4),(10,(.bool x10)),(11,(.bool x11)),(12,(.int .i64 (zC .i64 (x2_1 - x1_1)))),(13,(.int .i64 x13))]) (λs w=>xK x0 x4 Ret x1_1 x2_1 x10 x11 Kl1 x3_2 x13 s w) 3 ?_ (λhr7=>?_)
       ·intro x75 w a H g
        try dsimp only at H g
        unfold xK at H
        refine zL (tn (zk g rfl (λhc=>?_) (λhc=>?_)))
        ·have H:=H.1 hc
         refine zI (zE (g.m rfl λ_ g=>g.m rfl λ_ g=>g.m rfl λ_ g=>g.m rfl λ_ g=>g.c (zb g zSa rfl rfl) H λe w H=>?_))
         obtain ⟨r_6,rfl,H⟩:=H
         refine ⟨_,rfl,λ_ g=>(zL (tn (zk g rfl (λhc=>?_) (λhc=>?_))))⟩
         ·have H:=H.1 hc
          exact zl (tr (br (tr (br (zE1 g rfl ⟨rfl,H⟩)))))
         ·have H:=H.2 hc
          exact zY (tn (hj4 () _ _ H (g.k)))
        ·have H:=H.2 hc
         exact zY (tn (hj4 () _ _ H (g.k)))
       ·rcases Bool.eq_false_or_eq_true (x71) with hbr7|hbr7
        ·have H:=H.1 hbr7
         have g:=g.b (b:=true) (t:=72) rfl (hbr7)
         exact g.z (g.m rfl λ_ g=>g.z (g.p (Zb g rfl rfl) λ_ g=>g.p (zx g rfl rfl) λ_ g=>hr7 (decide (x14=1)) _ _ H (g.k)))
        ·have H:=H.2 hbr7
         have g:=g.b (b:=false) (t:=72) rfl (hbr7)
         exact g.d (λ_ g=>g.d (λ_ g=>g.p (zy g rfl rfl) λ_ g=>hr7 false _ _ H (g.k)))
      ·rcases Bool.eq_false_or_eq_true (x10) with hbr6|hbr6
       ·have H:=H.1 hbr6
        have g:=g.b (b:=true) (t:=69) rfl (hbr6)
        exact g.z (g.m rfl λ_ g=>g.p (zx g rfl rfl) λ_ g=>hr6 x11 _ _ H (g.k))
       ·have H:=H.2 hbr6
        have g:=g.b (b:=false) (t:=69) rfl (hbr6)
        exact g.d (λ_ g=>g.p (zy g rfl rfl) λ_ g=>hr6 false _ _ H (g.k))
    ·refine zI (zE (g.m rfl λ_ g=>g.p (Zb g rfl rfl) λ_ g=>zL (tn (zd g rfl (λhc=>?_) (λhc=>?_)))))
     ·have H:=H.1 hc
      refine zI (zE (g.m rfl λ_ g=>g.m rfl λ_ g=>g.m rfl λ_ g=>g.m rfl λ_ g=>g.c (zb g zSP rfl rfl) H λe w H=>?_))
      obtain ⟨rfl,H⟩:=H
      exact ⟨_,rfl,λ_ g=>(zL (tn (zI (zE (g.m rfl λ_ g=>g.p (zv g rfl rfl) λ_ g=>g.m rfl λ_ g=>g.m rfl λ_ g=>g.p (zv g rfl rfl) λ_ g=>g.p (zv g rfl rfl) λ_ g=>g.s rfl λ_ g=>zL (tn (zE (g.s rfl λ_ g=>zL (tn (hj3 ((zC .i64 ((zC .i64 (x2_1 - 1)) - (zC .i64 (r - x1_1)))),1) _ _ H (g.k)))))))))))⟩
     ·have H:=H.2 hc
      exact zY (tn (hj3 (r,r_1) _ _ H (g.k)))
   ·refine zI (zE (g.m rfl λ_ g=>g.p (zAJ g rfl) λ_ g=>zL (tn (zk g rfl (λhc=>?_) (λhc=>?_)))))
    ·have H:=H.1 hc
     refine zI (zE (g.m rfl λ_ g=>g.m rfl λ_ g=>g.m rfl λ_ g=>g.m rfl λ_ g=>g.c (zb g zSO rfl rfl) H λe w H=>?_))
     obtain ⟨rfl,H⟩:=H
     exact ⟨_,rfl,λ_ g=>(zL (tn (zE (g.m rfl λ_ g=>g.p (zv g rfl rfl) λ_ g=>g.s rfl λ_ g=>zL (tn (hj2 (zC .i64 (x3_1 - 1)) _ _ H (g.k)))))))⟩
    ·have H:=H.2 hc
     exact zY (tn (hj2 x3_1 _ _ H (g.k)))
def xI (x11:Int) (Kl1:Int->World->Prop) (w:World):Prop:=
 Kl1 (zC .i64 (x11+1)) w
def yT (x0:Sl) (x1:Int) (x11:Int) (Kl1:Int->World->Prop) (x12:Int) (w:World):Prop:=
 yM w (λw=>opP zA zB (zF 67 (Sl.v x0) (.int .i64 (zC .i64 (x1+x12)))) (λx59=>opP zA zB (zF 67 (Sl.v x0) (.int .i64 x11)) (λx63=>(opE zA zG.v (zD 72 (.pointer x59)) w (λx60 w=>opE zA zG.v (zD 72 (.pointer x63)) w (λx64 w=>opP zA zB (zF 67 (Sl.v x0) (.int .i64 x11)) (λx65=>opU zA (zK 72 (.pointer x65) (zG.v x60)) w (λw=>opP zA zB (zF 67 (Sl.v x0) (.int .i64 (zC .i64 (x1+x12)))) (λx66=>opU zA (zK 72 (.pointer x66) (zG.v x64)) w (λw=>xI x11 Kl1 w)))))))/\(opE zA zG.v (zD 72 (.pointer x63)) w (λx64_1 w=>opE zA zG.v (zD 72 (.pointer x59)) w (λx60_1 w=>opP zA zB (zF 67 (Sl.v x0) (.int .i64 x11)) (λx65_1=>opU zA (zK 72 (.pointer x65_1) (zG.v x60_1)) w (λw=>opP zA zB (zF 67 (Sl.v x0) (.int .i64 (zC .i64 (x1+x12)))) (λx66_1=>opU zA (zK 72 (.pointer x66_1) (zG.v x64_1)) w (λw=>xI x11 Kl1 w))))))))))
def Q6 (x0:Sl) (x1:Int) (x2:Int) (Ret:World->Prop) (x9:Option Addr) (r:Int) (x11:Int) (w:World) (Kl1:Int->World->Prop):Prop:=
 opE zA (zV .i64) (binOp .quo 3 (.int .i64 (zC .i64 (x2 - x1))) (.int .i64 4)) w (λx31 w=>((x11<=(zC .i64 ((zC .i64 (x1+(zC .i64 (x31*2))))+1)))->(Cl zA 116 [(.pointer x9)].toArray w (λe w=>∃ (r_1:Int),e=.returned (.int .u64 r_1)/\(opE zA (zV .u64) (binOp .and 143 (.int .u64 r_1) (.int .u64 (zC .u64 (r - 1)))) w (λx41 w=>opE zA (zV .i64) (Go.convert 143 3 (.int .u64 x41)) w (λx42 w=>(((zC .i64 (x2 - x1))<=x42)->(yT x0 x1 x11 Kl1 (zC .i64 (x42 - (zC .i64 (x2 - x1)))) w))/\(¬ ((zC .i64 (x2 - x1))<=x42)->(yT x0 x1 x11 Kl1 x42 w))))))))/\(¬ (x11<=(zC .i64 ((zC .i64 (x1+(zC .i64 (x31*2))))+1)))->(Ret w)))
def ZZ (x0:Sl) (x1:Int) (x2:Int) (x3:Value) (w:World) (Ret:World->Prop):Prop:=
 ((8<=(zC .i64 (x2 - x1)))->(opE zA (zV .u64) (Go.convert 3 182 (.int .i64 (zC .i64 (x2 - x1)))) w (λx19 w=>opE zA zB (zf 182 true (.tuple #[])) w (λx9 w=>opU zA (zK 182 (.pointer x9) (.int .u64 x19)) w (λw=>Cl zA 115 [(.int .i64 (zC .i64 (x2 - x1)))].toArray w (λe w=>∃ (r:Int),e=.returned (.int .u64 r)/\(opE zA (zV .i64) (binOp .quo 3 (.int .i64 (zC .i64 (x2 - x1))) (.int .i64 4)) w (λx24 w=>∃ (I:Int->World->Prop) (μ:Int->World->Nat),I (zC .i64 ((zC .i64 (x1+(zC .i64 (x24*2)))) - 1)) w/\∀ (x11:Int) w,I x11 w->Q6 x0 x1 x2 Ret x9 r x11 w (λx11' w'=>I x11' w'/\μ x11' w'<μ x11 w)))))))))/\(¬ (8<=(zC .i64 (x2 - x1)))->(Ret w))
set_option maxRecDepth 100000 in
theorem zDI (x0:Sl) (x1:Int) (x2:Int) (x3:Value) (w:World) (Ret:World->Prop) (H:ZZ x0 x1 x2 x3 w Ret):Cl zA 107 [(Sl.v x0),(.int .i64 x1),(.int .i64 x2),x3].toArray w (λe w'=>e=.returned (.tuple [].toArray)/\Ret w'):=by
 unfold ZZ at H
 refine zp 67 (zipE 0 [(Sl.v x0),(.int .i64 x1),(.int .i64 x2),x3]) Tryz.func107 rfl rfl (by rfl) rfl ?_
 intro a g
 have g:Sat [] 67 [(0,(Sl.v x0)),(1,(.int .i64 x1)),(2,(.int .i64 x2)),(3,x3)] a:=g
 refine zI (zE (g.m rfl λ_ g=>g.m rfl λ_ g=>g.p (zv g rfl rfl) λ_ g=>g.s rfl λ_ g=>zL (tn (zI (zE (g.m rfl λ_ g=>g.p (Zm g rfl rfl) λ_ g=>zL (tn (zd g rfl (λhc=>?_) (λhc=>?_)))))))))
 ·have H:=H.1 hc
  refine zI (zE (g.m rfl λ_ g=>g.o (zBw g rfl) H λx19 w a H g=>g.o (xY) H λx9 w a H g=>g.h (zT g rfl rfl) H λw a H g=>zL (tn (zI (zE (g.m rfl λ_ g=>g.c (zb g zOD rfl rfl) H λe w H=>?_))))))
  obtain ⟨r,rfl,H⟩:=H
  refine ⟨_,rfl,λ_ g=>(g.s rfl λ_ g=>zL (tn (zI (zE (g.m rfl λ_ g=>g.m rfl λ_ g=>g.o (ZS g rfl rfl) H λx24 w a H g=>g.p (zF8 g rfl rfl) λ_ g=>g.p (zr g rfl rfl) λ_ g=>g.p (zv g rfl rfl) λ_ g=>g.s rfl λ_ g=>zL (tn (zX ?_)))))))⟩
  obtain ⟨I_l1,μ_l1,h0,hb⟩:=H
  refine yE (ds:=[]) (N:=67) (σ:=Int) (λs=>[(11,(.int .i64 s)),(0,(Sl.v x0)),(1,(.int .i64 x1)),(8,(.int .i64 (zC .i64 (x2 - x1)))),(9,(.pointer x9)),(10,(.int .u64 r))]) (λs w=>I_l1 s w) (λs w=>μ_l1 s w) (zC .i64 ((zC .i64 (x1+(zC .i64 (x24*2)))) - 1)) h0 (g.k) ?_
  intro x11 w a hI g
  try dsimp only at hI g
  obtain ⟨Kl1,hK_l1⟩:∃ K:Int->World->Prop,K=(λx11' w'=>I_l1 x11' w'/\μ_l1 x11' w'<μ_l1 x11 w):=⟨_,rfl⟩
  have H:Q6 x0 x1 x2 Ret x9 r x11 w Kl1:=by rw [hK_l1];exact hb x11 w hI
  clear hb h0 hI
  unfold Q6 at H
  refine zI (zI (zE (g.m rfl λ_ g=>g.m rfl λ_ g=>g.m rfl λ_ g=>g.o (ZS g rfl rfl) H λx31 w a H g=>g.p (zF8 g rfl rfl) λ_ g=>g.p (zr g rfl rfl) λ_ g=>g.p (zr g rfl rfl) λ_ g=>g.p (zCw g rfl rfl) λ_ g=>zL (tn (zd g rfl (λhc=>?_) (λhc=>?_))))))
  ·have H:=H.1 hc
   refine zY (tn (z8 (ds:=[]) (N:=67) (σ:=Unit) (λs=>[(0,(Sl.v x0)),(1,(.int .i64 x1)),(8,(.int .i64 (zC .i64 (x2 - x1)))),(9,(.pointer x9)),(10,(.int .u64 r)),(11,(.int .i64 x11))]) (λs w=>xI x11 Kl1 w) ?_ (λhj2=>?_)))
   ·rintro ⟨⟩ w a H g
    try dsimp only at H g
    unfold xI at H
    refine zE (g.m rfl λ_ g=>g.p (zr g rfl rfl) λ_ g=>g.s rfl λ_ g=>?_)
    rw [hK_l1] at H
    exact zL (tn ⟨(zC .i64 (x11+1)),g.k,H⟩)
   ·refine zX (zI (zE (g.c (zb g zOI rfl rfl) H λe w H=>?_)))
    obtain ⟨r_1,rfl,H⟩:=H
    refine ⟨_,rfl,λ_ g=>(g.m rfl λ_ g=>g.p (zv g rfl rfl) λ_ g=>g.o (ZS g rfl rfl) H λx41 w a H g=>g.o (zBw g rfl) H λx42 w a H g=>g.s rfl λ_ g=>zL (tn (z8 (ds:=[]) (N:=67) (σ:=Int) (λs=>[(12,(.int .i64 s)),(0,(Sl.v x0)),(1,(.int .i64 x1)),(8,(.int .i64 (zC .i64 (x2 - x1)))),(9,(.pointer x9)),(10,(.int .u64 r)),(11,(.int .i64 x11))]) (λs w=>yT x0 x1 x11 Kl1 s w) ?_ (λhj3=>?_))))⟩
    ·intro x12 w a H g
     try dsimp only at H g
     unfold yT at H
     refine zCC 20 λw hB=>?_
     replace H:=H w hB
     refine g.x 0 rfl (zR g rfl) λ_ g=>g.x 1 rfl (zR g rfl) λ_ g=>g.x 2 rfl (zR g rfl) λ_ g=>g.x 3 rfl (zR g rfl) λ_ g=>g.x 4 rfl (zR g rfl) λ_ g=>g.x 5 rfl (zr g rfl rfl) λ_ g=>g.x 6 rfl (zR g rfl) λ_ g=>g.x 7 rfl (zR g rfl) λ_ g=>g.x 8 rfl (zR g rfl) λ_ g=>g.x 9 rfl (zr g rfl rfl) λ_ g=>g.y 10 rfl (zH g rfl rfl) H λx59 a H g=>g.x 12 rfl (zR g rfl) λ_ g=>g.x 13 rfl (zR g rfl) λ_ g=>g.y 14 rfl (zH g rfl rfl) H λx63 a H g=>WA.tw 11 15 rfl rfl ?_ ?_
     ·have H:=H.1
      intro K hK
      exact g.i (zO g rfl) H λx60 w a H g=>hK _ _ (g.j 15 rfl (zO g rfl) H λx64 w a H g=>g.y 16 rfl (zH g rfl rfl) H λx65 a H g=>g.l 17 rfl (zT g rfl rfl) H λw a H g=>g.y 18 rfl (zH g rfl rfl) H λx66 a H g=>g.l 19 rfl (zT g rfl rfl) H λw a H g=>WA.ni ((bn (tn (hj2 () _ _ H (g.k))))))
     ·have H:=H.2
      intro K hK
      exact g.i (zO g rfl) H λx64_1 w a H g=>hK _ _ (g.j 11 rfl (zO g rfl) H λx60_1 w a H g=>g.y 16 rfl (zH g rfl rfl) H λx65_1 a H g=>g.l 17 rfl (zT g rfl rfl) H λw a H g=>g.y 18 rfl (zH g rfl rfl) H λx66_1 a H g=>g.l 19 rfl (zT g rfl rfl) H λw a H g=>WA.ni ((bn (tn (hj2 () _ _ H (g.k))))))
    ·refine zI (zE (g.m rfl λ_ g=>g.m rfl λ_ g=>g.p (Zm g rfl rfl) λ_ g=>zL (tn (zd g rfl (λhc=>?_) (λhc=>?_)))))
     ·have H:=H.1 hc
      exact zE (g.m rfl λ_ g=>g.m rfl λ_ g=>g.p (zv g rfl rfl) λ_ g=>g.s rfl λ_ g=>zL (tn (hj3 (zC .i64 (x42 - (zC .i64 (x2 - x1)))) _ _ H (g.k))))
     ·have H:=H.2 hc
      exact zY (tn (hj3 x42 _ _ H (g.k)))
  ·have H:=H.2 hc
   exact z7 (te (te (be (zBg g rfl ⟨rfl,H⟩))))
 ·have H:=H.2 hc
  exact zY (zBg g rfl ⟨rfl,H⟩)
end Go.Proofs.YtealcoghiaeiiaaGreat.VG
set_option linter.unusedVariables false
namespace Go.Proofs.YtealcoghiaeiiaaGreat.VG
open Go.VB Go.VB.Srt Go.Proofs
namespace SoCmpFunc_api_Version
theorem zq:zGE zA zt yK 4 zG.cells zG.v:=zGE.agg yP yq (λ_=>rfl) (λ_=>rfl) (by decide)
abbrev Ow (base:Nat) (w:World) (s:Sl) (l:List zG):Prop:=OwnS zG.cells 4 yK base w s l
def Cmps (cmp:Value) (lt:zG->zG->Bool):Prop:=∀ w x y,∃ r:Int,Zs zA cmp [zG.v x,zG.v y] w (.int .i64 r)/\(lt x y=true↔r<0)
theorem ZR {lt:zG->zG->Bool} {x y:zG} {r:Int} (h:lt x y=true↔r<0):decide (r<0)=lt x y:=by
 cases hl:lt x y with
 |true=>rw [decide_eq_true (h.1 hl)]
 |false=>rw [decide_eq_false (λe=>by rw [h.2 e] at hl;cases hl)]
section
variable {cmp:Value} {lt:zG->zG->Bool} (O:SWO lt) (hcmp:Cmps cmp lt) {base:Nat} {w:World} {s:Sl} {L:Nat} {f:Nat->zG}
include O hcmp
theorem zCl (hO:Ow base w s (tab f L)) {a b:Nat} (hA:a<=b) (hb:b<=L) {k:World->Prop}
  (H:∀ g w',Seg a b f g->yL lt a b g->Ow base w' s (tab g L)->w.grownBy w' (Sl.v s).ownBlock->k w'):
  Cl zA zDB [Sl.v s,.int .i64 (a:Int),.int .i64 (b:Int),cmp].toArray w (λe w'=>e=.returned (.tuple [].toArray)/\k w'):=by
 refine zDJ s a b cmp w k ?_
 have hlen:=hO.len;have hsm:=hO.small
 rw [xP] at hlen
 by_cases hab:b<=a
 ·unfold Yl
  refine ⟨λi w1=>i=(a:Int)+1/\w1=w,λ_ _=>0,⟨wr64 (by omega) (by omega),rfl⟩,?_⟩
  rintro i w1 ⟨rfl,rfl⟩
  unfold xB
  exact ⟨λhc=>by omega,λ_=>H f w1 (.refl f) (yL.small (by omega)) hO (World.grownBy.refl _ _)⟩
 unfold Yl
 refine ⟨λx w1=>∃ (i:Nat) (g:Nat->zG),x=(i:Int)/\a+1<=i/\i<=b/\Seg a b f g/\yL lt a i g/\Ow base w1 s (tab g L)/\w.grownBy w1 (Sl.v s).ownBlock,λx _=>(b - x).toNat,?_,?_⟩
 ·exact ⟨a+1,f,by rw [wr64 (by omega) (by omega)];omega,by omega,by omega,.refl f,yL.small (by omega),hO,World.grownBy.refl _ _⟩
 rintro x w1 ⟨i,g,rfl,hi1,hi2,hsg,hso,hO1,hg1⟩
 unfold xB
 refine ⟨λhc=>?_,λhc=>?_⟩
 rotate_left
 ·obtain rfl:i=b:=by omega
  exact H g w1 hsg hso hO1 hg1
 refine ⟨λy w2=>∃ (j:Nat) (g:Nat->zG),y=(j:Int)/\a<=j/\j<=i/\Seg a b f g/\Hole lt a i j g/\Ow base w2 s (tab g L)/\w.grownBy w2 (Sl.v s).ownBlock,λy _=>y.toNat,?_,?_⟩
 ·exact ⟨i,g,rfl,by omega,by omega,hsg,Hole.start hso,hO1,hg1⟩
 rintro y w2 ⟨j,g,rfl,hj1,hj2,hsg,hho,hO2,hg2⟩
 unfold Q5
 have fin:∀ w3,Bel w2 w3->(j<=a∨Le lt (g (j - 1)) (g j))->(λ(x8':Int) (w':World)=>(∃ (i:Nat) (g:Nat->zG),x8'=(i:Int)/\a+1<=i/\i<=b/\Seg a b f g/\yL lt a i g/\Ow base w' s (tab g L)/\w.grownBy w' (Sl.v s).ownBlock)/\(b - x8').toNat<(b - (i:Int)).toNat) (zC .i64 ((i:Int)+1)) w3:=by
  intro w3 hb3 hd
  rw [wr64 (by omega) (by omega)]
  exact ⟨⟨i+1,g,by omega,by omega,by omega,hsg,hho.done O hd,hO2.bel hb3,zS hg2 (zo hb3 _)⟩,by omega⟩
 refine ⟨λhc=>?_,λhc=>?_⟩
 ·refine yJ zq hO2 rfl (by omega) ?_
  refine yJ zq hO2 (i':=j - 1) (by rw [wr64 (by omega) (by omega)];omega) (by omega) ?_
  obtain ⟨r,hr,hl⟩:=hcmp w2 (g j) (g (j - 1))
  refine ⟨r,hr,?_⟩
  rw [ZR hl]
  unfold yY
  intro w3 hb3
  refine ⟨λhlt=>?_,λhlt=>fin w3 hb3 (.inr hlt)⟩
  refine Y2 zq (hO2.bel hb3) (i':=j) (j':=j - 1) rfl (by rw [wr64 (by omega) (by omega)];omega) (by omega) (by omega) λw4 hO4 hg4=>?_
  unfold xH
  rw [wr64 (by omega) (by omega)]
  exact ⟨⟨j - 1,_,by omega,by omega,by omega,.step j (j - 1) (by omega) (by omega) (by omega) (by omega) hsg,hho.step O (by omega) hj2 hlt,hO4,zS (zS hg2 (zo hb3 _)) hg4⟩,by dsimp only;omega⟩
 ·unfold yY
  intro w3 hb3
  exact ⟨λh=>(nomatch h),λ_=>fin w3 hb3 (.inl (by omega))⟩
end
end SoCmpFunc_api_Version
end Go.Proofs.YtealcoghiaeiiaaGreat.VG
set_option linter.unusedVariables false
namespace Go.Proofs.YtealcoghiaeiiaaGreat.VG
open Go.VB Go.VB.Srt Go.Proofs
namespace SoCmpFunc_api_Version
section
variable {cmp:Value} {lt:zG->zG->Bool} (O:SWO lt) (hcmp:Cmps cmp lt) {base:Nat} {w:World} {s:Sl} {L:Nat} {f:Nat->zG}
include O hcmp
theorem zHQ (hO:Ow base w s (tab f L)) {lo hi o:Nat} (hb:o+hi<=L) (hlo:lo<=hi) (hp:Hp lt o (lo+1) hi f) {k:World->Prop}
  (H:∀ g w',Seg (o+lo) (o+hi) f g->Hp lt o lo hi g->Ow base w' s (tab g L)->w.grownBy w' (Sl.v s).ownBlock->k w'):
  Cl zA zEp [Sl.v s,.int .i64 (lo:Int),.int .i64 (hi:Int),.int .i64 (o:Int),cmp].toArray w (λe w'=>e=.returned (.tuple [].toArray)/\k w'):=by
 refine zEj s lo hi o cmp w k ?_
 have hlen:=hO.len;have hsm:=hO.small
 rw [xP] at hlen
 unfold zAa
 refine ⟨λx w1=>∃ (r:Nat) (g:Nat->zG),x=(r:Int)/\lo<=r/\r<=hi/\Seg (o+lo) (o+hi) f g/\HpX lt o lo hi r g/\Ow base w1 s (tab g L)/\w.grownBy w1 (Sl.v s).ownBlock,λx _=>(hi - x).toNat,?_,?_⟩
 ·exact ⟨lo,f,rfl,zU _,hlo,.refl f,HpX.start hp,hO,World.grownBy.refl _ _⟩
 rintro x w1 ⟨r,g,rfl,hr1,hr2,hsg,hx,hO1,hg1⟩
 unfold Yt
 rw [wr64 (n:=2*(r:Int)) (by omega) (by omega),wr64 (n:=2*(r:Int)+1) (by omega) (by omega)]
 refine ⟨λhc=>H g w1 hsg (hx.done O λc h1 h2=>by unfold zBS at h1;omega) hO1 hg1,λhc=>?_⟩
 have j2:∀ (c:Nat) (w2:World),Bel w1 w2->zBS c r->c<hi->(∀ d,zBS d r->d<hi->Le lt (g (o+d)) (g (o+c)))->
   y6 s o cmp k r (λx10' w'=>(∃ (r:Nat) (g:Nat->zG),x10'=(r:Int)/\lo<=r/\r<=hi/\Seg (o+lo) (o+hi) f g/\HpX lt o lo hi r g/\Ow base w' s (tab g L)/\w.grownBy w' (Sl.v s).ownBlock)/\(hi - x10').toNat<(hi - (r:Int)).toNat) c w2:=by
  intro c w2 hb2 hcr hch hmax
  have hrc:r<c:=by unfold zBS at hcr;omega
  have hO2:=hO1.bel hb2
  unfold y6
  rw [wr64 (n:=(o:Int)+r) (by omega) (by omega),wr64 (n:=(o:Int)+c) (by omega) (by omega)]
  refine yJ zq hO2 (i':=o+r) (by omega) (by omega) ?_
  refine yJ zq hO2 (i':=o+c) (by omega) (by omega) ?_
  obtain ⟨q,hq,hl⟩:=hcmp w2 (g (o+r)) (g (o+c))
  refine ⟨q,hq,?_⟩
  rw [ZR hl]
  intro w3 hb3
  refine ⟨λhn=>?_,λhn=>?_⟩
  ·have hn':lt (g (o+r)) (g (o+c))=false:=by simpa using hn
   exact H g w3 hsg (hx.done O λd h1 h2=>O.trans (hmax d h1 h2) hn') (hO2.bel hb3) (zS (zS hg1 (zo hb2 _)) (zo hb3 _))
  ·have hn':lt (g (o+r)) (g (o+c))=true:=by simpa using hn
   refine Y2 zq (hO2.bel hb3) (i':=o+r) (j':=o+c) (by omega) (by omega) (by omega) (by omega) λw4 hO4 hg4=>?_
   unfold Qh
   exact ⟨⟨c,_,rfl,by omega,by omega,.step (o+r) (o+c) (by omega) (by omega) (by omega) (by omega) hsg,hx.step O hr1 hcr hch hmax hn',hO4,zS (zS (zS hg1 (zo hb2 _)) (zo hb3 _)) hg4⟩,by omega⟩
 rw [wr64 (n:=2*(r:Int)+1+1) (by omega) (by omega),wr64 (n:=(o:Int)+(2*r+1)) (by omega) (by omega)]
 refine ⟨λhc2=>?_,λhc2=>?_⟩
 ·rw [wr64 (n:=(o:Int)+(2*r+1)+1) (by omega) (by omega)]
  refine yJ zq hO1 (i':=o+(2*r+1)) (by omega) (by omega) ?_
  refine yJ zq hO1 (i':=o+(2*r+2)) (by omega) (by omega) ?_
  obtain ⟨q,hq,hl⟩:=hcmp w1 (g (o+(2*r+1))) (g (o+(2*r+2)))
  refine ⟨q,hq,?_⟩
  rw [ZR hl]
  unfold yz
  rw [wr64 (n:=2*(r:Int)) (by omega) (by omega),wr64 (n:=2*(r:Int)+1) (by omega) (by omega),wr64 (n:=2*(r:Int)+1+1) (by omega) (by omega)]
  intro w2 hb2
  refine ⟨λhn=>?_,λhn=>?_⟩
  ·have:=j2 (2*r+2) w2 hb2 (.inr rfl) (by omega) λd hd hdh=>by
    rcases hd with rfl|rfl
    ·exact O.of_lt hn
    ·exact O.refl _
   rw [show ((2*r+2:Nat):Int)=2*(r:Int)+1+1 by omega] at this
   exact this
  ·have:=j2 (2*r+1) w2 hb2 (.inl rfl) (by omega) λd hd hdh=>by
    rcases hd with rfl|rfl
    ·exact O.refl _
    ·exact hn
   rw [show ((2*r+1:Nat):Int)=2*(r:Int)+1 by omega] at this
   exact this
 ·unfold yz
  rw [wr64 (n:=2*(r:Int)) (by omega) (by omega),wr64 (n:=2*(r:Int)+1) (by omega) (by omega)]
  intro w2 hb2
  refine ⟨λh=>(nomatch h),λ_=>?_⟩
  have:=j2 (2*r+1) w2 hb2 (.inl rfl) (by omega) λd hd hdh=>by
    rcases hd with rfl|rfl
    ·exact O.refl _
    ·omega
  rw [show ((2*r+1:Nat):Int)=2*(r:Int)+1 by omega] at this
  exact this
theorem zKK (hO:Ow base w s (tab f L)) {a b:Nat} (hA:a<=b) (hb:b<=L) {k:World->Prop}
  (H:∀ g w',Seg a b f g->yL lt a b g->Ow base w' s (tab g L)->w.grownBy w' (Sl.v s).ownBlock->k w'):
  Cl zA zEo [Sl.v s,.int .i64 (a:Int),.int .i64 (b:Int),cmp].toArray w (λe w'=>e=.returned (.tuple [].toArray)/\k w'):=by
 refine zEq s a b cmp w k ?_
 have hlen:=hO.len;have hsm:=hO.small
 rw [xP] at hlen
 unfold zAZ
 rw [wr64 (n:=(b:Int) - a) (by omega) (by omega),wr64 (n:=(b:Int) - a - 1) (by omega) (by omega)]
 have hq:∃ q:Nat,((b:Int) - a - 1).tdiv 2=(q:Int)/\b - a<=2*q+2/\q<=b - a:=by
  by_cases h0:a=b
  ·subst h0;exact ⟨0,by rw [show (a:Int) - a - 1 = -1 by omega];rfl,by omega,by omega⟩
  ·refine ⟨(b - a - 1) / 2,?_,by omega,by omega⟩
   rw [Int.tdiv_eq_ediv_of_nonneg (by omega)];omega
 obtain ⟨q,hq1,hq2,hq3⟩:=hq
 refine zE9 (by decide) (by rw [hq1];omega) (by rw [hq1];omega) ?_
 rw [hq1]
 obtain ⟨n,rfl⟩:∃ n,b=a+n:=⟨b - a,by omega⟩
 refine ⟨λx w1=>∃ (i:Nat) (g:Nat->zG),x=(i:Int) - 1/\i<=n+1/\Seg a (a+n) f g/\Hp lt a i n g/\Ow base w1 s (tab g L)/\w.grownBy w1 (Sl.v s).ownBlock,λx _=>(x+1).toNat,?_,?_⟩
 ·exact ⟨q+1,f,by omega,by omega,.refl f,λi c h1 h2 h3=>by unfold zBS at h2;omega,hO,World.grownBy.refl _ _⟩
 rintro x w1 ⟨i,g,rfl,hi,hsg,hp,hO1,hg1⟩
 unfold Yv
 rw [wr64 (n:=((a+n:Nat):Int) - a) (by omega) (by omega)]
 refine ⟨λhc=>?_,λhc=>?_⟩
 ·obtain ⟨m,rfl⟩:∃ m,i=m+1:=⟨i - 1,by omega⟩
  rw [show ((m+1:Nat):Int) - 1=(m:Int) by omega,show ((a+n:Nat):Int) - a=(n:Int) by omega]
  refine zHQ O hcmp hO1 (lo:=m) (hi:=n) (o:=a) hb (by omega) hp λh w2 hsg2 hp2 hO2 hg2=>?_
  rw [wr64 (by omega) (by omega)]
  exact ⟨⟨m,h,rfl,by omega,hsg.trans (hsg2.mono (by omega) (zU _)),hp2,hO2,zS hg1 hg2⟩,by dsimp only;omega⟩
 ·obtain rfl:i=0:=by omega
  rw [wr64 (n:=((a+n:Nat):Int) - a - 1) (by omega) (by omega)]
  refine ⟨λx w2=>∃ (i:Nat) (g:Nat->zG),x=(i:Int) - 1/\i<=n/\Seg a (a+n) f g/\HS lt a (a+n) i g/\Ow base w2 s (tab g L)/\w.grownBy w2 (Sl.v s).ownBlock,λx _=>(x+1).toNat,?_,?_⟩
  ·exact ⟨n,g,by omega,zU _,hsg,⟨hp,λi j h1 h2 h3=>by omega,λk q h1 h2 h3 h4=>by omega⟩,hO1,hg1⟩
  rintro x w2 ⟨i,g,rfl,hi,hsg,hs,hO2,hg2⟩
  unfold Ys
  refine ⟨λhc=>?_,λhc=>?_⟩
  ·obtain ⟨m,rfl⟩:∃ m,i=m+1:=⟨i - 1,by omega⟩
   rw [show ((m+1:Nat):Int) - 1=(m:Int) by omega,wr64 (n:=(a:Int)+m) (by omega) (by omega)]
   refine Y2 zq hO2 (i':=a) (j':=a+m) rfl (by omega) (by omega) (by omega) λw3 hO3 hg3=>?_
   unfold Qe
   refine zHQ O hcmp hO3 (lo:=0) (hi:=m) (o:=a) (by omega) (by omega) (λi c h1 h2 h3=>?_) λh w4 hsg4 hp4 hO4 hg4=>?_
   ·rw [zDM g (by unfold zBS at h2;omega) (by unfold zBS at h2;omega),zDM g (by omega) (by unfold zBS at h2;omega)]
    exact hs.hp i c (by omega) h2 (by omega)
   ·rw [wr64 (by omega) (by omega)]
    rw [Nat.add_zero] at hsg4
    exact ⟨⟨m,h,rfl,by omega,(hsg.trans (Seg.one g (by omega) (by omega) (by omega) (by omega))).trans (hsg4.mono (zU _) (by omega)),hs.step O (by omega) hsg4 hp4,hO4,zS (zS hg2 hg3) hg4⟩,by dsimp only;omega⟩
  ·obtain rfl:i=0:=by omega
   exact H g w2 hsg hs.so hO2 hg2
end
theorem zHD {cmp:Value} {base:Nat} {w:World} {s:Sl} {L:Nat} {f:Nat->zG} (hO:Ow base w s (tab f L)) {a b:Nat} (hA:a<=b) (hb:b<=L) {k:World->Prop}
  (H:∀ g w',Seg a b f g->Ow base w' s (tab g L)->w.grownBy w' (Sl.v s).ownBlock->k w'):
  Cl zA zDT [Sl.v s,.int .i64 (a:Int),.int .i64 (b:Int),cmp].toArray w (λe w'=>e=.returned (.tuple [].toArray)/\k w'):=by
 refine zDW s a b cmp w k ?_
 have hlen:=hO.len;have hsm:=hO.small
 rw [xP] at hlen
 unfold Zp
 refine ⟨λx y w1=>∃ (i:Nat) (g:Nat->zG),x=(i:Int)/\a<=i/\i<=b /\ -1<=y/\y<b/\Seg a b f g/\Ow base w1 s (tab g L)/\w.grownBy w1 (Sl.v s).ownBlock,λx y _=>(y - x).toNat,?_,?_⟩
 ·rw [wr64 (by omega) (by omega)]
  exact ⟨a,f,rfl,zU _,hA,by omega,by omega,.refl f,hO,World.grownBy.refl _ _⟩
 rintro x y w1 ⟨i,g,rfl,hi,hib,hy1,hy2,hsg,hO1,hg1⟩
 unfold YG
 refine ⟨λhc=>?_,λhc=>H g w1 hsg hO1 hg1⟩
 refine Y2 zq hO1 (i':=i) (j':=y.toNat) rfl (by omega) (by omega) (by omega) λw3 hO3 hg3=>?_
 unfold xS
 rw [wr64 (n:=(i:Int)+1) (by omega) (by omega),wr64 (n:=y - 1) (by omega) (by omega)]
 exact ⟨⟨i+1,_,by omega,by omega,by omega,by omega,by omega,.step i y.toNat (by omega) (by omega) (by omega) (by omega) hsg,hO3,zS hg1 hg3⟩,by dsimp only;omega⟩
end SoCmpFunc_api_Version
end Go.Proofs.YtealcoghiaeiiaaGreat.VG
set_option linter.unusedVariables false
namespace Go.Proofs.YtealcoghiaeiiaaGreat.VG
open Go.VB Go.VB.Srt Go.Proofs
namespace SoCmpFunc_api_Version
section
variable {cmp:Value} {lt:zG->zG->Bool} (hcmp:Cmps cmp lt) {base:Nat} {w:World} {s:Sl} {L:Nat} {f:Nat->zG}
include hcmp
theorem zC5 (hO:Ow base w s (tab f L)) {B:Nat} {v:Int} (hB:Row w B [.int .i64 v] Zr) {a b:Nat} (ha:a<L) (hb:b<L) {k:Int->Int->World->Prop}
  (H:∀ (x y:Nat) w' v',(x=a∨x=b)->(y=a∨y=b)->Row w' B [.int .i64 v'] Zr->w.grownBy w' (some B)->k x y w'):
  Cl zA zFA [Sl.v s,.int .i64 (a:Int),.int .i64 (b:Int),.pointer (some ⟨B,0,none⟩),cmp].toArray w (λe w'=>∃ (r0 r1:Int),e=.returned (.tuple [.int .i64 r0,.int .i64 r1].toArray)/\k r0 r1 w'):=by
 refine zFD s a b (some ⟨B,0,none⟩) cmp w k ?_
 unfold zAx
 refine yJ zq hO (i':=b) rfl hb ?_
 refine yJ zq hO (i':=a) rfl ha ?_
 obtain ⟨q,hq,hl⟩:=hcmp w (f b) (f a)
 refine ⟨q,hq,?_⟩
 intro w1 hb1
 have hB1:=hB.bel hb1
 refine ⟨λ_=>⟨by trivial,?_⟩,λ_=>H a b w1 v (.inl rfl) (.inr rfl) hB1 (zo hb1 _)⟩
 refine zBX zAM v hB1.cell ?_
 refine ⟨by trivial,?_⟩
 refine zIZ zAM hB1 rfl rfl λw2 hB2 hg2=>?_
 exact H b a w2 _ (.inr rfl) (.inl rfl) hB2 (zS (zo hb1 _) hg2)
theorem zFf (hO:Ow base w s (tab f L)) {B:Nat} {v:Int} (hB:Row w B [.int .i64 v] Zr) (hne:(Sl.v s).ownBlock≠some B) {a b c:Nat} (ha:a<L) (hb:b<L) (hc:c<L) {k:Int->World->Prop}
  (H:∀ (x:Nat) w' v',(x=a∨x=b∨x=c)->Row w' B [.int .i64 v'] Zr->w.grownBy w' (some B)->k x w'):
  Cl zA zE7 [Sl.v s,.int .i64 (a:Int),.int .i64 (b:Int),.int .i64 (c:Int),.pointer (some ⟨B,0,none⟩),cmp].toArray w (λe w'=>∃ r0:Int,e=.returned (.int .i64 r0)/\k r0 w'):=by
 refine zE3 s a b c (some ⟨B,0,none⟩) cmp w k ?_
 unfold zAw
 have kept:∀ {w w'},Ow base w s (tab f L)->w.grownBy w' (some B)->Ow base w' s (tab f L):=λh hg=>h.kept hg (by
  cases hk:(Sl.v s).ownBlock with
  |none=>exact .inl rfl
  |some q=>exact .inr (by rw [← hk];exact hne))
 refine zC5 hcmp hO hB ha hb λx y w1 v1 hx hy hB1 hg1=>?_
 have hO1:=kept hO hg1
 refine zC5 hcmp hO1 hB1 (a:=y) (b:=c) (by omega) hc λx2 y2 w2 v2 hx2 hy2 hB2 hg2=>?_
 have hO2:=kept hO1 hg2
 refine zC5 hcmp hO2 hB2 (a:=x) (b:=x2) (by omega) (by omega) λx3 y3 w3 v3 hx3 hy3 hB3 hg3=>?_
 exact H y3 w3 v3 (by omega) hB3 (zS (zS hg1 hg2) hg3)
theorem zBJ (hO:Ow base w s (tab f L)) {B:Nat} {v:Int} (hB:Row w B [.int .i64 v] Zr) (hne:(Sl.v s).ownBlock≠some B) {a:Nat} (h0:1<=a) (ha:a+1<L) (hL:L<=140737488355328) {k:Int->World->Prop}
  (H:∀ (x:Nat) w' v',a - 1<=x->x<=a+1->Row w' B [.int .i64 v'] Zr->w.grownBy w' (some B)->k x w'):
  Cl zA zC9 [Sl.v s,.int .i64 (a:Int),.pointer (some ⟨B,0,none⟩),cmp].toArray w (λe w'=>∃ r0:Int,e=.returned (.int .i64 r0)/\k r0 w'):=by
 refine zC6 s a (some ⟨B,0,none⟩) cmp w k ?_
 unfold ZV
 rw [wr64 (n:=(a:Int) - 1) (by omega) (by omega),wr64 (n:=(a:Int)+1) (by omega) (by omega),show (a:Int) - 1=((a - 1:Nat):Int) by omega,show (a:Int)+1=((a+1:Nat):Int) by omega]
 exact zFf hcmp hO hB hne (a:=a - 1) (b:=a) (c:=a+1) (by omega) (by omega) ha λx w' v' hx h1 h2=>H x w' v' (by omega) (by omega) h1 h2
theorem zIY (hO:Ow base w s (tab f L)) {a b:Nat} (hA:a<b) (hb:b<=L) {k:Int->Int->World->Prop}
  (H:∀ (x:Nat) (y:Int) w',a<=x->x<b->Bel w w'->k x y w'):
  Cl zA zDi [Sl.v s,.int .i64 (a:Int),.int .i64 (b:Int),cmp].toArray w (λe w'=>∃ (r0 r1:Int),e=.returned (.tuple [.int .i64 r0,.int .i64 r1].toArray)/\k r0 r1 w'):=by
 refine zDn s a b cmp w k ?_
 have hlen:=hO.len;have hsm:=hO.small
 rw [xP] at hlen
 unfold Z3
 refine zIo zMQ ?_
 have hB:=Row.new w zFE Zr
 have hb1:Bel w (w.alloc (.cells zFE.toArray Zr)):=Bel.alloc _ _
 have hO1:=hO.bel hb1
 have hne:(Sl.v s).ownBlock≠some w.heap.size:=λe=>by have:=(hO.row.lt _ e).2;omega
 have hw:w.heap.size<=w.heap.size:=zU _
 generalize hBd:w.heap.size=B at hB hne ⊢
 generalize (w.alloc (.cells zFE.toArray Zr))=w1 at hB hb1 hO1 ⊢
 obtain ⟨n,rfl⟩:∃ n,b=a+n:=⟨b - a,by omega⟩
 rw [wr64 (n:=((a+n:Nat):Int) - a) (by omega) (by omega),show ((a+n:Nat):Int) - a=(n:Int) by omega]
 have hq:(n:Int).tdiv 4=((n / 4:Nat):Int):=by rw [Int.tdiv_eq_ediv_of_nonneg (by omega)];omega
 refine zE9 (by decide) (by rw [hq];omega) (by rw [hq];omega) ?_
 refine zE9 (by decide) (by rw [hq];omega) (by rw [hq];omega) ?_
 refine zE9 (by decide) (by rw [hq];omega) (by rw [hq];omega) ?_
 rw [hq]
 generalize hm:n / 4=m
 have hm1:4*m<=n:=by omega
 rw [wr64 (n:=(m:Int)*1) (by omega) (by omega),wr64 (n:=(m:Int)*2) (by omega) (by omega),wr64 (n:=(m:Int)*3) (by omega) (by omega),
  wr64 (n:=(a:Int)+m*1) (by omega) (by omega),wr64 (n:=(a:Int)+m*2) (by omega) (by omega),wr64 (n:=(a:Int)+m*3) (by omega) (by omega)]
 have j1:∀ (x:Nat) (w2:World) (v:Int),a<=x->x<a+n->Row w2 B [.int .i64 v] Zr->w1.grownBy w2 (some B)->yg k (some ⟨B,0,none⟩) x w2:=by
  intro x w2 v h1 h2 h3 h4
  have hb2:Bel w w2:=hb1.grown h4 (λr hr=>by cases hr;omega)
  unfold yg
  refine zBX zAM v h3.cell ?_
  exact ⟨λ_=>H x _ w2 h1 h2 hb2,λ_=>⟨λ_=>H x _ w2 h1 h2 hb2,λ_=>H x _ w2 h1 h2 hb2⟩⟩
 have kept:∀ {w w'},Ow base w s (tab f L)->w.grownBy w' (some B)->Ow base w' s (tab f L):=λh hg=>h.kept hg (by
  cases hk:(Sl.v s).ownBlock with
  |none=>exact .inl rfl
  |some q=>exact .inr (by rw [← hk];exact hne))
 have j2:∀ (x y z:Nat) (w2:World) (v:Int),a<=x->x<a+n->a<=y->y<a+n->a<=z->z<a+n->Row w2 B [.int .i64 v] Zr->w1.grownBy w2 (some B)->yf s cmp k (some ⟨B,0,none⟩) x y z w2:=by
  intro x y z w2 v h1 h2 h3 h4 h5 h6 h7 h8
  unfold yf
  refine zFf hcmp (kept hO1 h8) h7 hne (by omega) (by omega) (by omega) λq w3 v3 hq h9 h10=>j1 q w3 v3 (by omega) (by omega) h9 (zS h8 h10)
 have e1:(a:Int)+m*1=((a+m:Nat):Int):=by omega
 have e2:(a:Int)+m*2=((a+2*m:Nat):Int):=by omega
 have e3:(a:Int)+m*3=((a+3*m:Nat):Int):=by omega
 rw [e1,e2,e3]
 refine ⟨λh8=>⟨λh50=>?_,λ_=>?_⟩,λ_=>j1 _ w1 _ (by omega) (by omega) hB (World.grownBy.refl _ _)⟩
 ·refine zBJ hcmp hO1 hB hne (by omega) (by omega) (by omega) λx w2 v2 hx1 hx2 hB2 hg2=>?_
  refine zBJ hcmp (kept hO1 hg2) hB2 hne (by omega) (by omega) (by omega) λy w3 v3 hy1 hy2 hB3 hg3=>?_
  refine zBJ hcmp (kept hO1 (zS hg2 hg3)) hB3 hne (by omega) (by omega) (by omega) λz w4 v4 hz1 hz2 hB4 hg4=>?_
  exact j2 x y z w4 v4 (by omega) (by omega) (by omega) (by omega) (by omega) (by omega) hB4 (zS (zS hg2 hg3) hg4)
 ·exact j2 _ _ _ w1 _ (by omega) (by omega) (by omega) (by omega) (by omega) (by omega) hB (World.grownBy.refl _ _)
end
end SoCmpFunc_api_Version
end Go.Proofs.YtealcoghiaeiiaaGreat.VG
set_option linter.unusedVariables false
namespace Go.Proofs.YtealcoghiaeiiaaGreat.VG
open Go.VB Go.VB.Srt Go.Proofs
namespace SoCmpFunc_api_Version
theorem zI4 {cmp:Value} {base:Nat} {w:World} {s:Sl} {L:Nat} {f:Nat->zG} (hO:Ow base w s (tab f L)) {a b:Nat} (hA:a<=b) (hb:b<=L) {w0:World} {k:World->Prop}
  (H:∀ g w',Seg a b f g->Ow base w' s (tab g L)->w.grownBy w' (Sl.v s).ownBlock->k w'):
  Cl zA zDG [Sl.v s,.int .i64 (a:Int),.int .i64 (b:Int),cmp].toArray w (λe w'=>e=.returned (.tuple [].toArray)/\k w'):=by
 refine zDI s a b cmp w k ?_
 have hlen:=hO.len;have hsm:=hO.small
 rw [xP] at hlen
 obtain ⟨n,rfl⟩:∃ n,b=a+n:=⟨b - a,by omega⟩
 unfold ZZ
 rw [wr64 (n:=((a+n:Nat):Int) - a) (by omega) (by omega),show ((a+n:Nat):Int) - a=(n:Int) by omega]
 refine ⟨λh8=>?_,λ_=>H f w (.refl f) hO (World.grownBy.refl _ _)⟩
 refine zFr (by kernel_rfl) (by kernel_rfl) ?_
 rw [zIE (by omega) (by omega)]
 refine zIo zEz ?_
 have hr0:=Row.new w Yh xC
 have hb1:Bel w (w.alloc (.cells Yh.toArray xC)):=Bel.alloc _ _
 have hO1:=hO.bel hb1
 have hne:(Sl.v s).ownBlock≠some w.heap.size:=λe=>by have:=(hO.row.lt _ e).2;omega
 have hB0:w.heap.size<=w.heap.size:=zU _
 generalize hBd:w.heap.size=B at hr0 hne ⊢
 generalize (w.alloc (.cells Yh.toArray xC))=w1 at hr0 hb1 hO1 ⊢
 refine zIZ zAb hr0 rfl rfl λw2 hr2 hg2=>?_
 have kept:∀ {g:Nat->zG} {w w'},Ow base w s (tab g L)->w.grownBy w' (some B)->Ow base w' s (tab g L):=λh hg=>h.kept hg (by
  cases hk:(Sl.v s).ownBlock with
  |none=>exact .inl rfl
  |some q=>exact .inr (by rw [← hk];exact hne))
 have hO2:=kept hO1 hg2
 have hb2:Bel w w2:=hb1.grown hg2 (λr hr=>by cases hr;omega)
 refine zMM (by omega) (by omega) λm hm1 hm2=>?_
 have hq:(n:Int).tdiv 4=((n / 4:Nat):Int):=by rw [Int.tdiv_eq_ediv_of_nonneg (by omega)];omega
 refine zE9 (by decide) (by rw [hq];omega) (by rw [hq];omega) ?_
 rw [hq]
 generalize hn4:n / 4=q
 have hq1:4*q<=n:=by omega
 have hq2:2<=q:=by omega
 rw [wr64 (n:=(q:Int)*2) (by omega) (by omega),wr64 (n:=(a:Int)+q*2) (by omega) (by omega),wr64 (n:=(a:Int)+q*2 - 1) (by omega) (by omega)]
 refine ⟨λx w3=>∃ (i:Nat) (g:Nat->zG) (v:Int),x=(i:Int)/\a+2*q - 1<=i/\i<=a+2*q+2/\Seg a (a+n) f g/\Ow base w3 s (tab g L)/\Row w3 B [.int .u64 v] xC/\w.heap.size<=w3.heap.size/\w.grownBy w3 (Sl.v s).ownBlock,λx _=>(a+2*q+3 - x).toNat,?_,?_⟩
 ·exact ⟨a+2*q - 1,f,_,by omega,by omega,by omega,.refl f,hO2,hr2,hb2.le,zo hb2 _⟩
 rintro x w3 ⟨i,g,v,rfl,hi1,hi2,hsg,hO3,hr3,hsz3,hg3⟩
 unfold Q6
 rw [wr64 (n:=((a+n:Nat):Int) - a) (by omega) (by omega),show ((a+n:Nat):Int) - a=(n:Int) by omega]
 refine zE9 (by decide) (by rw [hq];omega) (by rw [hq];omega) ?_
 rw [hq,hn4,wr64 (n:=(q:Int)*2) (by omega) (by omega),wr64 (n:=(a:Int)+q*2) (by omega) (by omega),wr64 (n:=(a:Int)+q*2+1) (by omega) (by omega)]
 refine ⟨λhc=>?_,λhc=>H g w3 hsg hO3 hg3⟩
 refine zMy hr3 λr v' w4 hr4 hg4=>?_
 have hO4:=kept hO3 hg4
 rw [zIE (n:=(m:Int) - 1) (by omega) (by omega)]
 refine zQi (by omega) (by omega) λz hz0 hz1=>?_
 refine zFr (by kernel_rfl) (by kernel_rfl) ?_
 rw [wr64 (n:=z) (by omega) (by omega)]
 have hgo4:w.grownBy w4 (Sl.v s).ownBlock:=by
  refine ⟨hg4.os.trans hg3.os,hg4.tape.trans hg3.tape,hg4.output.trans hg3.output,zn hg3.size hg4.size,λk hk hr=>?_⟩
  exact (hg4.block k (yF hk hg3.size) (λe=>by have:=Option.some.inj e;omega)).trans (hg3.block k hk hr)
 have j3:∀ y:Nat,y<n->yT s a i (λx11' w'=>(∃ (i:Nat) (g:Nat->zG) (v:Int),x11'=(i:Int)/\a+2*q - 1<=i/\i<=a+2*q+2/\Seg a (a+n) f g/\Ow base w' s (tab g L)/\Row w' B [.int .u64 v] xC/\w.heap.size<=w'.heap.size/\w.grownBy w' (Sl.v s).ownBlock)/\(a+2*q+3 - x11').toNat<(a+2*q+3 - (i:Int)).toNat) y w4:=by
  intro y hy
  unfold yT
  rw [wr64 (n:=(a:Int)+y) (by omega) (by omega)]
  refine Y2 zq hO4 (i':=i) (j':=a+y) rfl (by omega) (by omega) (by omega) λw5 hO5 hg5=>?_
  unfold xI
  rw [wr64 (n:=(i:Int)+1) (by omega) (by omega)]
  exact ⟨⟨i+1,_,v',by omega,by omega,by omega,.step i (a+y) (by omega) (by omega) (by omega) (by omega) hsg,hO5,hr4.grown hg5 hne,zn hsz3 (zn hg4.size hg5.size),zS hgo4 hg5⟩,by omega⟩
 obtain ⟨y,rfl⟩:∃ y:Nat,z=(y:Int):=⟨z.toNat,by omega⟩
 refine ⟨λh=>?_,λh=>j3 y (by omega)⟩
 rw [wr64 (n:=(y:Int) - n) (by omega) (by omega)]
 have:=j3 (y - n) (by omega)
 rw [show ((y - n:Nat):Int)=(y:Int) - n by omega] at this
 exact this
end SoCmpFunc_api_Version
end Go.Proofs.YtealcoghiaeiiaaGreat.VG
set_option linter.unusedVariables false
namespace Go.Proofs.YtealcoghiaeiiaaGreat.VG
open Go.VB Go.VB.Srt Go.Proofs
namespace SoCmpFunc_api_Version
section
variable {cmp:Value} {lt:zG->zG->Bool} (O:SWO lt) (hcmp:Cmps cmp lt) {base:Nat} {w:World} {s:Sl} {L:Nat} {f:Nat->zG}
include O hcmp
theorem zG2 (hO:Ow base w s (tab f L)) {a b:Nat} (hA:a<b) (hb:b<=L) (hpre:Pre lt a b f) {k:Bool->World->Prop}
  (H:∀ r g w',Seg a b f g->(r=true->yL lt a b g)->Ow base w' s (tab g L)->w.grownBy w' (Sl.v s).ownBlock->k r w'):
  Cl zA zCM [Sl.v s,.int .i64 (a:Int),.int .i64 (b:Int),cmp].toArray w (λe w'=>∃ r0:Bool,e=.returned (.bool r0)/\k r0 w'):=by
 refine zCN s a b cmp w k ?_
 have hlen:=hO.len;have hsm:=hO.small
 rw [xP] at hlen
 unfold Y1
 refine ⟨λx y w1=>∃ (i:Nat) (g:Nat->zG),x=(i:Int)/\0<=y/\y<=5/\a+1<=i/\i<=b/\Seg a b f g/\yL lt a i g/\Ow base w1 s (tab g L)/\w.grownBy w1 (Sl.v s).ownBlock,λ_ y _=>(5 - y).toNat,?_,?_⟩
 ·rw [wr64 (by omega) (by omega)]
  exact ⟨a+1,f,by omega,by decide,by decide,zU _,by omega,.refl f,yL.small (zU _),hO,World.grownBy.refl _ _⟩
 rintro x y w1 ⟨i0,g0,rfl,hy0,hy5,hi1,hi2,hsg0,hso0,hO1,hg1⟩
 unfold xM
 refine ⟨λhc5=>?_,λ_=>H false g0 w1 hsg0 (λh=>(nomatch h)) hO1 hg1⟩
 have next:∀ (i:Nat) (g:Nat->zG) (w2:World),a+1<=i->i<=b->Seg a b f g->yL lt a i g->Ow base w2 s (tab g L)->w.grownBy w2 (Sl.v s).ownBlock->
   z6 y (λx9' x10' w'=>(∃ (i:Nat) (g:Nat->zG),x9'=(i:Int)/\0<=x10'/\x10'<=5/\a+1<=i/\i<=b/\Seg a b f g/\yL lt a i g/\Ow base w' s (tab g L)/\w.grownBy w' (Sl.v s).ownBlock)/\(5 - x10').toNat<(5 - y).toNat) (i:Int) w2:=by
  intro i g w2 h1 h2 h3 h4 h5 h6
  unfold z6
  rw [wr64 (by omega) (by omega)]
  exact ⟨⟨i,g,rfl,by omega,by omega,h1,h2,h3,h4,h5,h6⟩,by omega⟩
 generalize hKl:(λ(x9' x10':Int) (w':World)=>(∃ (i:Nat) (g:Nat->zG),x9'=(i:Int)/\0<=x10'/\x10'<=5/\a+1<=i/\i<=b/\Seg a b f g/\yL lt a i g/\Ow base w' s (tab g L)/\w.grownBy w' (Sl.v s).ownBlock)/\(5 - x10').toNat<(5 - y).toNat)=Kl at next
 have j6:∀ (i:Nat) (g:Nat->zG) (w2:World),a+1<=i->i<=b->Seg a b f g->yL lt a i g->Ow base w2 s (tab g L)->w.grownBy w2 (Sl.v s).ownBlock->zu s b cmp y Kl (i:Int) w2:=by
  intro i g w2 h1 h2 h3 h4 h5 h6
  unfold zu
  refine ⟨λ_=>?_,λ_=>next i g w2 h1 h2 h3 h4 h5 h6⟩
  rw [wr64 (n:=(i:Int)+1) (by omega) (by omega)]
  refine ⟨λx w3=>∃ (m:Nat) (h:Nat->zG),x=(m:Int)/\i+1<=m/\m<=b+1/\Seg a b f h/\yL lt a i h/\Ow base w3 s (tab h L)/\w.grownBy w3 (Sl.v s).ownBlock,λx _=>(b+1 - x).toNat,?_,?_⟩
  ·exact ⟨i+1,g,by omega,zU _,by omega,h3,h4,h5,h6⟩
  rintro x w3 ⟨m,h,rfl,hm1,hm2,hsg,hso,hO3,hg3⟩
  unfold xO
  refine ⟨λhc=>?_,λ_=>next i h w3 h1 h2 hsg hso hO3 hg3⟩
  refine yJ zq hO3 (i':=m) rfl (by omega) ?_
  refine yJ zq hO3 (i':=m - 1) (by rw [wr64 (by omega) (by omega)];omega) (by omega) ?_
  obtain ⟨r,hr,hl⟩:=hcmp w3 (h m) (h (m - 1))
  refine ⟨r,hr,?_⟩
  rw [ZR hl]
  intro w4 hb4
  refine ⟨λ_=>next i h w4 h1 h2 hsg hso (hO3.bel hb4) (zS hg3 (zo hb4 _)),λ_=>?_⟩
  refine Y2 zq (hO3.bel hb4) (i':=m) (j':=m - 1) rfl (by rw [wr64 (by omega) (by omega)];omega) (by omega) (by omega) λw5 hO5 hg5=>?_
  unfold yV
  rw [wr64 (n:=(m:Int)+1) (by omega) (by omega)]
  exact ⟨⟨m+1,_,by omega,by omega,by omega,.step m (m - 1) (by omega) (by omega) (by omega) (by omega) hsg,hso.congr λq h7 h8=>zDM h (by omega) (by omega),hO5,zS (zS hg3 (zo hb4 _)) hg5⟩,by dsimp only;omega⟩
 refine ⟨λx w2=>∃ (i:Nat) (g:Nat->zG),x=(i:Int)/\a+1<=i/\i<=b/\Seg a b f g/\yL lt a i g/\Ow base w2 s (tab g L)/\w.grownBy w2 (Sl.v s).ownBlock,λx _=>(b - x).toNat,⟨i0,g0,rfl,hi1,hi2,hsg0,hso0,hO1,hg1⟩,?_⟩
 rintro x w2 ⟨i,g,rfl,hi1,hi2,hsg,hso,hO2,hg2⟩
 unfold xQ
 generalize hK3:(λ(x9_2':Int) (w':World)=>(∃ (i:Nat) (g:Nat->zG),x9_2'=(i:Int)/\a+1<=i/\i<=b/\Seg a b f g/\yL lt a i g/\Ow base w' s (tab g L)/\w.grownBy w' (Sl.v s).ownBlock)/\(b - x9_2').toNat<(b - (i:Int)).toNat)=K3
 have stop:∀ w3,Bel w2 w3->(i<b->lt (g i) (g (i - 1))=true)->yX s a b cmp k y Kl (i:Int) K3 false w2:=by
  intro w3' hb3' hlt w3 hb3
  have hO3:=hO2.bel hb3
  have hg3:=zS hg2 (zo hb3 _)
  refine ⟨λh=>(nomatch h),λ_=>⟨λhib=>?_,λhib=>⟨λ_=>H false g w3 hsg (λh=>(nomatch h)) hO3 hg3,λ_=>?_⟩⟩⟩
  ·obtain rfl:i=b:=by omega
   exact H true g w3 hsg (λ_=>hso) hO3 hg3
  have hib':i<b:=by omega
  refine Y2 zq hO3 (i':=i) (j':=i - 1) rfl (by rw [wr64 (by omega) (by omega)];omega) (by omega) (by omega) λw4 hO4 hg4=>?_
  have hg04:=zS hg3 hg4
  have hsg4:Seg a b f (swp g i (i - 1)):=.step i (i - 1) (by omega) (by omega) (by omega) (by omega) hsg
  have hso4:yL lt a (i - 1) (swp g i (i - 1)):=yL.congr (f:=g) (λp q h1 h2 h3=>hso p q h1 h2 (by omega)) λq h1 h2=>zDM g (by omega) (by omega)
  unfold yW
  refine ⟨λhia=>?_,λhia=>j6 i _ w4 hi1 hi2 hsg4 (yL.small (by rw [wr64 (by omega) (by omega)] at hia;omega)) hO4 hg04⟩
  rw [wr64 (by omega) (by omega)] at hia
  rw [wr64 (by omega) (by omega)]
  refine ⟨λx w5=>∃ (j:Nat) (h:Nat->zG),x=(j:Int)/\a<=j/\j<=i - 1/\Seg a b f h/\Hole lt a (i - 1) j h/\Ow base w5 s (tab h L)/\w.grownBy w5 (Sl.v s).ownBlock,λx _=>x.toNat,⟨i - 1,_,by omega,by omega,zU _,hsg4,Hole.start hso4,hO4,hg04⟩,?_⟩
  rintro x w5 ⟨j,h,rfl,hj1,hj2,hsg5,hho,hO5,hg5⟩
  unfold xN
  have out:∀ w6,Bel w5 w6->(j<=a∨Le lt (h (j - 1)) (h j))->zu s b cmp y Kl (i:Int) w6:=by
   intro w6 hb6 hd
   have:=hho.done O hd
   rw [show i - 1+1=i by omega] at this
   exact j6 i h w6 hi1 hi2 hsg5 this (hO5.bel hb6) (zS hg5 (zo hb6 _))
  refine ⟨λhc=>?_,λhc=>out w5 (Bel.refl _) (.inl (by omega))⟩
  refine yJ zq hO5 (i':=j) rfl (by omega) ?_
  refine yJ zq hO5 (i':=j - 1) (by rw [wr64 (by omega) (by omega)];omega) (by omega) ?_
  obtain ⟨r,hr,hl⟩:=hcmp w5 (h j) (h (j - 1))
  refine ⟨r,hr,?_⟩
  rw [ZR hl]
  intro w6 hb6
  refine ⟨λhn=>out w6 hb6 (.inr (show lt (h j) (h (j - 1))=false by simpa using hn)),λhn=>?_⟩
  have hn':lt (h j) (h (j - 1))=true:=by simpa using hn
  have haj:a<j:=by
   rcases Nat.lt_or_ge a j with h1|h1
   ·exact h1
   ·obtain rfl:j=a:=by omega
    rcases hpre.seg hsg5 with h2|h2
    ·omega
    ·have:=h2 j (zU _) hA
     unfold Le at this
     rw [hn'] at this;cases this
  refine Y2 zq (hO5.bel hb6) (i':=j) (j':=j - 1) rfl (by rw [wr64 (by omega) (by omega)];omega) (by omega) (by omega) λw7 hO7 hg7=>?_
  unfold yS
  rw [wr64 (n:=(j:Int) - 1) (by omega) (by omega)]
  exact ⟨⟨j - 1,_,by omega,by omega,by omega,.step j (j - 1) (by omega) (by omega) (by omega) (by omega) hsg5,hho.step O haj hj2 hn',hO7,zS (zS hg5 (zo hb6 _)) hg7⟩,by dsimp only;omega⟩
 refine ⟨λhc=>?_,λhc=>stop w2 (Bel.refl _) (λh=>by omega)⟩
 refine yJ zq hO2 (i':=i) rfl (by omega) ?_
 refine yJ zq hO2 (i':=i - 1) (by rw [wr64 (by omega) (by omega)];omega) (by omega) ?_
 obtain ⟨r,hr,hl⟩:=hcmp w2 (g i) (g (i - 1))
 refine ⟨r,hr,?_⟩
 rw [ZR hl]
 cases hlt:lt (g i) (g (i - 1)) with
 |true=>exact stop w2 (Bel.refl _) (λ_=>hlt)
 |false=>
  intro w3 hb3
  refine ⟨λ_=>?_,λh=>(nomatch h)⟩
  rw [wr64 (n:=(i:Int)+1) (by omega) (by omega),← hK3]
  exact ⟨⟨i+1,g,by omega,by omega,by omega,hsg,hso.snoc O (by omega) hlt,hO2.bel hb3,zS hg2 (zo hb3 _)⟩,by omega⟩
end
end SoCmpFunc_api_Version
end Go.Proofs.YtealcoghiaeiiaaGreat.VG
set_option linter.unusedVariables false
namespace Go.Proofs.YtealcoghiaeiiaaGreat.VG
open Go.VB Go.VB.Srt Go.Proofs
namespace SoCmpFunc_api_Version
section
variable {cmp:Value} {lt:zG->zG->Bool} (O:SWO lt) (hcmp:Cmps cmp lt) {base:Nat} {w:World} {s:Sl} {L:Nat} {f:Nat->zG}
include O hcmp
theorem zIi (hO:Ow base w s (tab f L)) {a b p:Nat} (hA:a<=p) (hp:p<b) (hb:b<=L) {k:Int->World->Prop}
  (H:∀ (m:Nat) g w',a<m->m<=b->Seg a b f g->(∀ q,a<=q->q<m->Le lt (g q) (f p))->Ow base w' s (tab g L)->w.grownBy w' (Sl.v s).ownBlock->k m w'):
  Cl zA zC7 [Sl.v s,.int .i64 (a:Int),.int .i64 (b:Int),.int .i64 (p:Int),cmp].toArray w (λe w'=>∃ r0:Int,e=.returned (.int .i64 r0)/\k r0 w'):=by
 refine zC8 s a b p cmp w k ?_
 have hlen:=hO.len;have hsm:=hO.small
 rw [xP] at hlen
 unfold ZW
 refine Y2 zq hO (i':=a) (j':=p) rfl rfl (by omega) (by omega) λw1 hO1 hg1=>?_
 have hs1:Seg a b f (swp f a p):=Seg.one f (by omega) (by omega) (by omega) (by omega)
 have ha1:swp f a p a=f p:=zKk f a p
 generalize (swp f a p)=f1 at hO1 hs1 ha1
 unfold xA
 rw [wr64 (n:=(a:Int)+1) (by omega) (by omega),wr64 (n:=(b:Int) - 1) (by omega) (by omega)]
 refine ⟨λx y w2=>∃ (i j:Nat) (g:Nat->zG),x=(i:Int)/\y=(j:Int)/\a<i/\a<=j/\i<=j+1/\j<b/\Seg a b f g/\g a=f p/\Pt (λq z=>!(lt q z)) a b i j g/\Ow base w2 s (tab g L)/\w.grownBy w2 (Sl.v s).ownBlock,λx y _=>(y+1 - x).toNat,?_,?_⟩
 ·exact ⟨a+1,b - 1,f1,by omega,by omega,by omega,by omega,by omega,by omega,hs1,ha1,Pt.start _ a b f1,hO1,hg1⟩
 rintro x y w2 ⟨i0,j0,g,rfl,rfl,hi0,hj0,hij0,hjb,hsg,hga,hpt0,hO2,hg2⟩
 unfold Qq
 generalize hKl2:(λ(x11' x12':Int) (w':World)=>(∃ (i j:Nat) (g:Nat->zG),x11'=(i:Int)/\x12'=(j:Int)/\a<i/\a<=j/\i<=j+1/\j<b/\Seg a b f g/\g a=f p/\Pt (λq z=>!(lt q z)) a b i j g/\Ow base w' s (tab g L)/\w.grownBy w' (Sl.v s).ownBlock)/\(x12'+1 - x11').toNat<((j0:Int)+1 - (i0:Int)).toNat)=Kl2
 refine ⟨λx w3=>∃ i:Nat,x=(i:Int)/\i0<=i/\i<=j0+1/\Pt (λq z=>!(lt q z)) a b i j0 g/\Bel w2 w3,λx _=>(j0+1 - x).toNat,⟨i0,rfl,zU _,hij0,hpt0,Bel.refl _⟩,?_⟩
 rintro x w3 ⟨i,rfl,hi1,hi2,hpt,hb3⟩
 have hO3:=hO2.bel hb3
 unfold Qt
 generalize hKl3:(λ(x11_1':Int) (w':World)=>(∃ i:Nat,x11_1'=(i:Int)/\i0<=i/\i<=j0+1/\Pt (λq z=>!(lt q z)) a b i j0 g/\Bel w2 w')/\(j0+1 - x11_1').toNat<((j0:Int)+1 - (i:Int)).toNat)=Kl3
 have down:∀ w4,Bel w3 w4->(i<=j0->lt (g a) (g i)=true)->y7 s a cmp k (j0:Int) Kl2 (i:Int) Kl3 false w3:=by
  intro w4' hb4' hlti w4 hb4
  refine ⟨λh=>(nomatch h),λ_=>?_⟩
  refine ⟨λy w5=>∃ j:Nat,y=(j:Int)/\a<=j/\i<=j+1/\j<=j0/\Pt (λq z=>!(lt q z)) a b i j g/\Bel w2 w5,λy _=>y.toNat,⟨j0,rfl,hj0,hi2,zU _,hpt,hb3.trans hb4⟩,?_⟩
  rintro y w5 ⟨j,rfl,hj1,hj2,hj3,hptj,hb5⟩
  have hO5:=hO2.bel hb5
  unfold Qp
  generalize hKl5:(λ(x12_1':Int) (w':World)=>(∃ j:Nat,x12_1'=(j:Int)/\a<=j/\i<=j+1/\j<=j0/\Pt (λq z=>!(lt q z)) a b i j g/\Bel w2 w')/\x12_1'.toNat<((j:Int)).toNat)=Kl5
  have stop:(i<=j->lt (g a) (g j)=false)->y8 s k Kl2 (i:Int) (j:Int) Kl5 false w5:=by
   intro hltj w6 hb6
   have hO6:=hO5.bel hb6
   have hg6:=zS hg2 (zo (hb5.trans hb6) (Sl.v s).ownBlock)
   refine ⟨λh=>(nomatch h),λ_=>⟨λhc=>?_,λhc=>?_⟩⟩
   ·refine H i g w6 (by omega) (by omega) hsg (λq h1 h2=>?_) hO6 hg6
    rw [← hga]
    by_cases hq:q=a
    ·rw [hq];exact O.refl _
    ·have:=hptj.lo q (by omega) h2
     unfold Le;simpa using this
   ·have hij:i<j:=by
     rcases Nat.lt_or_ge i j with h1|h1
     ·exact h1
     ·obtain rfl:i=j:=by omega
      have h2:=hlti (by omega)
      have h3:=hltj (zU _)
      rw [h2] at h3;cases h3
    refine Y2 zq hO6 (i':=i) (j':=j) rfl rfl (by omega) (by omega) λw7 hO7 hg7=>?_
    unfold y9
    rw [wr64 (n:=(i:Int)+1) (by omega) (by omega),wr64 (n:=(j:Int) - 1) (by omega) (by omega),← hKl2]
    exact ⟨⟨i+1,j - 1,_,by omega,by omega,by omega,by omega,by omega,by omega,.step i j (by omega) (by omega) (by omega) (by omega) hsg,by rw [zDM g (by omega) (by omega)];exact hga,
     hptj.swap (by omega) hij (by simp [hlti (by omega)]) (by simp [hltj (by omega)]),hO7,zS hg6 hg7⟩,by omega⟩
  refine ⟨λhc=>?_,λhc=>stop (λh=>by omega)⟩
  refine yJ zq hO5 (i':=a) rfl (by omega) ?_
  refine yJ zq hO5 (i':=j) rfl (by omega) ?_
  obtain ⟨r,hr,hl⟩:=hcmp w5 (g a) (g j)
  refine ⟨r,hr,?_⟩
  rw [ZR hl]
  cases hlt:lt (g a) (g j) with
  |false=>exact stop (λ_=>hlt)
  |true=>
   intro w6 hb6
   refine ⟨λ_=>?_,λh=>(nomatch h)⟩
   rw [wr64 (n:=(j:Int) - 1) (by omega) (by omega),← hKl5]
   exact ⟨⟨j - 1,by omega,by omega,by omega,by omega,hptj.decr (by simp [hlt]),hb5.trans hb6⟩,by omega⟩
 refine ⟨λhc=>?_,λhc=>down w3 (Bel.refl _) (λh=>by omega)⟩
 refine yJ zq hO3 (i':=a) rfl (by omega) ?_
 refine yJ zq hO3 (i':=i) rfl (by omega) ?_
 obtain ⟨r,hr,hl⟩:=hcmp w3 (g a) (g i)
 refine ⟨r,hr,?_⟩
 rw [ZR hl]
 cases hlt:lt (g a) (g i) with
 |true=>exact down w3 (Bel.refl _) (λ_=>hlt)
 |false=>
  intro w4 hb4
  refine ⟨λ_=>?_,λh=>(nomatch h)⟩
  rw [wr64 (n:=(i:Int)+1) (by omega) (by omega),← hKl3]
  exact ⟨⟨i+1,by omega,by omega,by omega,hpt.incr (by simp [hlt]),hb3.trans hb4⟩,by omega⟩
theorem zJ7 (hO:Ow base w s (tab f L)) {a b p:Nat} (hA:a<=p) (hp:p<b) (hb:b<=L) {k:Int->Bool->World->Prop}
  (H:∀ (m:Nat) (r:Bool) g w',a<=m->m<b->Seg a b f g->zGd lt a b m g->Ow base w' s (tab g L)->w.grownBy w' (Sl.v s).ownBlock->k m r w'):
  Cl zA zD9 [Sl.v s,.int .i64 (a:Int),.int .i64 (b:Int),.int .i64 (p:Int),cmp].toArray w (λe w'=>∃ (r0:Int) (r1:Bool),e=.returned (.tuple [.int .i64 r0,.bool r1].toArray)/\k r0 r1 w'):=by
 refine zEB s a b p cmp w k ?_
 have hlen:=hO.len;have hsm:=hO.small
 rw [xP] at hlen
 unfold zAR
 refine Y2 zq hO (i':=a) (j':=p) rfl rfl (by omega) (by omega) λw1 hO1 hg1=>?_
 have hs1:Seg a b f (swp f a p):=Seg.one f (by omega) (by omega) (by omega) (by omega)
 generalize (swp f a p)=f1 at hO1 hs1
 unfold QX
 rw [wr64 (n:=(a:Int)+1) (by omega) (by omega)]
 have hbm:zC .i64 ((b:Int) - 1)=((b - 1:Nat):Int):=by rw [wr64 (by omega) (by omega)];omega
 have main:∀ (i0 j0:Nat) (g0:Nat->zG) (w0:World),a<i0->a<=j0->i0<=j0+1->j0<b->Seg a b f g0->Pt (λq z=>lt z q) a b i0 j0 g0->Ow base w0 s (tab g0 L)->w.grownBy w0 (Sl.v s).ownBlock->
   ∃ (I:Int->Int->World->Prop) (μ:Int->Int->World->Nat),I (i0:Int) (j0:Int) w0/\∀ (x12_1:Int) (x13_1:Int) w,I x12_1 x13_1 w->QN s a cmp k x12_1 x13_1 w (λx12_1' x13_1' w'=>I x12_1' x13_1' w'/\μ x12_1' x13_1' w'<μ x12_1 x13_1 w):=by
  intro i0 j0 g0 w0 h1 h2 h3 h4 h5 h6 h7 h8
  refine ⟨λx y w2=>∃ (i j:Nat) (g:Nat->zG),x=(i:Int)/\y=(j:Int)/\a<i/\a<=j/\i<=j+1/\j<b/\Seg a b f g/\Pt (λq z=>lt z q) a b i j g/\Ow base w2 s (tab g L)/\w.grownBy w2 (Sl.v s).ownBlock,λx y _=>(y+1 - x).toNat,⟨i0,j0,g0,rfl,rfl,h1,h2,h3,h4,h5,h6,h7,h8⟩,?_⟩
  rintro x y w2 ⟨i0,j0,g,rfl,rfl,hi0,hj0,hij0,hjb,hsg,hpt0,hO2,hg2⟩
  unfold QN
  generalize hKl8:(λ(x12' x13':Int) (w':World)=>(∃ (i j:Nat) (g:Nat->zG),x12'=(i:Int)/\x13'=(j:Int)/\a<i/\a<=j/\i<=j+1/\j<b/\Seg a b f g/\Pt (λq z=>lt z q) a b i j g/\Ow base w' s (tab g L)/\w.grownBy w' (Sl.v s).ownBlock)/\(x13'+1 - x12').toNat<((j0:Int)+1 - (i0:Int)).toNat)=Kl8
  refine ⟨λx w3=>∃ i:Nat,x=(i:Int)/\i0<=i/\i<=j0+1/\Pt (λq z=>lt z q) a b i j0 g/\Bel w2 w3,λx _=>(j0+1 - x).toNat,⟨i0,rfl,zU _,hij0,hpt0,Bel.refl _⟩,?_⟩
  rintro x w3 ⟨i,rfl,hi1,hi2,hpt,hb3⟩
  have hO3:=hO2.bel hb3
  unfold Yk
  generalize hKl9:(λ(x12_2':Int) (w':World)=>(∃ i:Nat,x12_2'=(i:Int)/\i0<=i/\i<=j0+1/\Pt (λq z=>lt z q) a b i j0 g/\Bel w2 w')/\(j0+1 - x12_2').toNat<((j0:Int)+1 - (i:Int)).toNat)=Kl9
  have down:(i<=j0->lt (g i) (g a)=false)->QM s a cmp k (j0:Int) Kl8 (i:Int) Kl9 false w3:=by
   intro hlti w4 hb4
   refine ⟨λh=>(nomatch h),λ_=>?_⟩
   refine ⟨λy w5=>∃ j:Nat,y=(j:Int)/\a<=j/\i<=j+1/\j<=j0/\Pt (λq z=>lt z q) a b i j g/\Bel w2 w5,λy _=>y.toNat,⟨j0,rfl,hj0,hi2,zU _,hpt,hb3.trans hb4⟩,?_⟩
   rintro y w5 ⟨j,rfl,hj1,hj2,hj3,hptj,hb5⟩
   have hO5:=hO2.bel hb5
   unfold Ya
   generalize hKl11:(λ(x13_2':Int) (w':World)=>(∃ j:Nat,x13_2'=(j:Int)/\a<=j/\i<=j+1/\j<=j0/\Pt (λq z=>lt z q) a b i j g/\Bel w2 w')/\x13_2'.toNat<((j:Int)).toNat)=Kl11
   have stop:(i<=j->lt (g j) (g a)=true)->QK s a k Kl8 (i:Int) (j:Int) Kl11 false w5:=by
    intro hltj w6 hb6
    have hO6:=hO5.bel hb6
    have hg6:=zS hg2 (zo (hb5.trans hb6) (Sl.v s).ownBlock)
    refine ⟨λh=>(nomatch h),λ_=>⟨λhc=>?_,λhc=>?_⟩⟩
    ·refine Y2 zq hO6 (i':=j) (j':=a) rfl rfl (by omega) (by omega) λw7 hO7 hg7=>?_
     unfold QO
     exact H j false _ w7 hj1 (by omega) (.step j a (by omega) (by omega) (by omega) (by omega) hsg) (hptj.done O hj1 (by omega)) hO7 (zS hg6 hg7)
    ·have hij:i<j:=by
      rcases Nat.lt_or_ge i j with h1|h1
      ·exact h1
      ·obtain rfl:i=j:=by omega
       have h2:=hlti (by omega)
       have h3:=hltj (zU _)
       rw [h2] at h3;cases h3
     refine Y2 zq hO6 (i':=i) (j':=j) rfl rfl (by omega) (by omega) λw7 hO7 hg7=>?_
     unfold QH
     rw [wr64 (n:=(i:Int)+1) (by omega) (by omega),wr64 (n:=(j:Int) - 1) (by omega) (by omega),← hKl8]
     exact ⟨⟨i+1,j - 1,_,by omega,by omega,by omega,by omega,by omega,by omega,.step i j (by omega) (by omega) (by omega) (by omega) hsg,
      hptj.swap (by omega) hij (hlti (by omega)) (hltj (by omega)),hO7,zS hg6 hg7⟩,by omega⟩
   refine ⟨λhc=>?_,λhc=>stop (λh=>by omega)⟩
   refine yJ zq hO5 (i':=j) rfl (by omega) ?_
   refine yJ zq hO5 (i':=a) rfl (by omega) ?_
   obtain ⟨r,hr,hl⟩:=hcmp w5 (g j) (g a)
   refine ⟨r,hr,?_⟩
   rw [ZR hl]
   cases hlt:lt (g j) (g a) with
   |true=>exact stop (λ_=>hlt)
   |false=>
    intro w6 hb6
    refine ⟨λ_=>?_,λh=>(nomatch h)⟩
    rw [wr64 (n:=(j:Int) - 1) (by omega) (by omega),← hKl11]
    exact ⟨⟨j - 1,by omega,by omega,by omega,by omega,hptj.decr hlt,hb5.trans hb6⟩,by omega⟩
  refine ⟨λhc=>?_,λhc=>down (λh=>by omega)⟩
  refine yJ zq hO3 (i':=i) rfl (by omega) ?_
  refine yJ zq hO3 (i':=a) rfl (by omega) ?_
  obtain ⟨r,hr,hl⟩:=hcmp w3 (g i) (g a)
  refine ⟨r,hr,?_⟩
  rw [ZR hl]
  cases hlt:lt (g i) (g a) with
  |false=>exact down (λ_=>hlt)
  |true=>
   intro w4 hb4
   refine ⟨λ_=>?_,λh=>(nomatch h)⟩
   rw [wr64 (n:=(i:Int)+1) (by omega) (by omega),← hKl9]
   exact ⟨⟨i+1,by omega,by omega,by omega,hpt.incr hlt,hb3.trans hb4⟩,by omega⟩
 refine ⟨λx w3=>∃ i:Nat,x=(i:Int)/\a<i/\i<=b - 1+1/\Pt (λq z=>lt z q) a b i (b - 1) f1/\Bel w1 w3,λx _=>(b+1 - x).toNat,⟨a+1,by omega,by omega,by omega,Pt.start _ a b f1,Bel.refl _⟩,?_⟩
 rintro x w3 ⟨i,rfl,hi1,hi2,hpt,hb3⟩
 have hO3:=hO1.bel hb3
 unfold Ym
 generalize hKl2:(λ(x12':Int) (w':World)=>(∃ i:Nat,x12'=(i:Int)/\a<i/\i<=b - 1+1/\Pt (λq z=>lt z q) a b i (b - 1) f1/\Bel w1 w')/\(b+1 - x12').toNat<((b:Int)+1 - (i:Int)).toNat)=Kl2
 rw [hbm]
 have down:(i<=b - 1->lt (f1 i) (f1 a)=false)->yt s a b cmp k (i:Int) Kl2 false w3:=by
  intro hlti
  unfold yt
  intro w4 hb4
  refine ⟨λh=>(nomatch h),λ_=>?_⟩
  rw [hbm]
  refine ⟨λy w5=>∃ j:Nat,y=(j:Int)/\a<=j/\i<=j+1/\j<=b - 1/\Pt (λq z=>lt z q) a b i j f1/\Bel w1 w5,λy _=>y.toNat,⟨b - 1,rfl,by omega,hi2,zU _,hpt,hb3.trans hb4⟩,?_⟩
  rintro y w5 ⟨j,rfl,hj1,hj2,hj3,hptj,hb5⟩
  have hO5:=hO1.bel hb5
  unfold Yo
  generalize hKl4:(λ(x13':Int) (w':World)=>(∃ j:Nat,x13'=(j:Int)/\a<=j/\i<=j+1/\j<=b - 1/\Pt (λq z=>lt z q) a b i j f1/\Bel w1 w')/\x13'.toNat<((j:Int)).toNat)=Kl4
  have stop:(i<=j->lt (f1 j) (f1 a)=true)->Qa s a cmp k (i:Int) (j:Int) Kl4 false w5:=by
   intro hltj w6 hb6
   have hO6:=hO5.bel hb6
   have hg6:=zS hg1 (zo (hb5.trans hb6) (Sl.v s).ownBlock)
   refine ⟨λh=>(nomatch h),λ_=>⟨λhc=>?_,λhc=>?_⟩⟩
   ·refine Y2 zq hO6 (i':=j) (j':=a) rfl rfl (by omega) (by omega) λw7 hO7 hg7=>?_
    unfold QW
    exact H j true _ w7 hj1 (by omega) (.step j a (by omega) (by omega) (by omega) (by omega) hs1) (hptj.done O hj1 (by omega)) hO7 (zS hg6 hg7)
   ·have hij:i<j:=by
     rcases Nat.lt_or_ge i j with h1|h1
     ·exact h1
     ·obtain rfl:i=j:=by omega
      have h2:=hlti (by omega)
      have h3:=hltj (zU _)
      rw [h2] at h3;cases h3
    refine Y2 zq hO6 (i':=i) (j':=j) rfl rfl (by omega) (by omega) λw7 hO7 hg7=>?_
    unfold QZ
    rw [wr64 (n:=(i:Int)+1) (by omega) (by omega),wr64 (n:=(j:Int) - 1) (by omega) (by omega),show (i:Int)+1=((i+1:Nat):Int) by omega,show (j:Int) - 1=((j - 1:Nat):Int) by omega]
    exact main (i+1) (j - 1) _ w7 (by omega) (by omega) (by omega) (by omega) (.step i j (by omega) (by omega) (by omega) (by omega) hs1) (hptj.swap (by omega) hij (hlti (by omega)) (hltj (by omega))) hO7 (zS hg6 hg7)
  refine ⟨λhc=>?_,λhc=>stop (λh=>by omega)⟩
  refine yJ zq hO5 (i':=j) rfl (by omega) ?_
  refine yJ zq hO5 (i':=a) rfl (by omega) ?_
  obtain ⟨r,hr,hl⟩:=hcmp w5 (f1 j) (f1 a)
  refine ⟨r,hr,?_⟩
  rw [ZR hl]
  cases hlt:lt (f1 j) (f1 a) with
  |true=>exact stop (λ_=>hlt)
  |false=>
   intro w6 hb6
   refine ⟨λ_=>?_,λh=>(nomatch h)⟩
   rw [wr64 (n:=(j:Int) - 1) (by omega) (by omega),← hKl4]
   exact ⟨⟨j - 1,by omega,by omega,by omega,by omega,hptj.decr hlt,hb5.trans hb6⟩,by omega⟩
 refine ⟨λhc=>?_,λhc=>down (λh=>by omega)⟩
 refine yJ zq hO3 (i':=i) rfl (by omega) ?_
 refine yJ zq hO3 (i':=a) rfl (by omega) ?_
 obtain ⟨r,hr,hl⟩:=hcmp w3 (f1 i) (f1 a)
 refine ⟨r,hr,?_⟩
 rw [ZR hl]
 cases hlt:lt (f1 i) (f1 a) with
 |false=>exact down (λ_=>hlt)
 |true=>
  intro w4 hb4
  refine ⟨λ_=>?_,λh=>(nomatch h)⟩
  rw [wr64 (n:=(i:Int)+1) (by omega) (by omega),← hKl2]
  exact ⟨⟨i+1,by omega,by omega,by omega,hpt.incr hlt,hb3.trans hb4⟩,by omega⟩
end
end SoCmpFunc_api_Version
end Go.Proofs.YtealcoghiaeiiaaGreat.VG
set_option linter.unusedVariables false
namespace Go.Proofs.YtealcoghiaeiiaaGreat.VG
open Go.VB Go.VB.Srt Go.Proofs
namespace SoCmpFunc_api_Version
section
variable {cmp:Value} {lt:zG->zG->Bool} (O:SWO lt) (hcmp:Cmps cmp lt) {base:Nat}
include O hcmp
theorem zI5:∀ (n:Nat) {w:World} {s:Sl} {L:Nat} {f:Nat->zG} (hO:Ow base w s (tab f L)) {a b:Nat} (hab:a<=b) (hn:b - a<=n) (hb:b<=L) (hpre:Pre lt a b f) (lim:Int) {k:World->Prop}
  (H:∀ g w',Seg a b f g->yL lt a b g->Ow base w' s (tab g L)->w.grownBy w' (Sl.v s).ownBlock->k w'),
  Cl zA zEv [Sl.v s,.int .i64 (a:Int),.int .i64 (b:Int),.int .i64 lim,cmp].toArray w (λe w'=>e=.returned (.tuple [].toArray)/\k w'):=by
 intro n
 induction n with
 |zero=>
  intro w s L f hO a b hab hn hb hpre lim k H
  refine zB2 s a b lim cmp w k ?_
  have hlen:=hO.len;have hsm:=hO.small
  rw [xP] at hlen
  unfold ZT
  refine ⟨λx y _ _ _ w1=>x=(a:Int)/\y=(b:Int)/\w1=w,λ_ _ _ _ _ _=>0,⟨rfl,rfl,rfl⟩,?_⟩
  rintro x y z p q w1 ⟨rfl,rfl,rfl⟩
  unfold Qn
  rw [wr64 (n:=(b:Int) - a) (by omega) (by omega)]
  refine ⟨λ_=>?_,λh=>by omega⟩
  exact zCl O hcmp hO hab hb H
 |succ n ih=>
  intro w s L f hO a b hab hn hb hpre lim k H
  refine zB2 s a b lim cmp w k ?_
  have hlen:=hO.len;have hsm:=hO.small
  rw [xP] at hlen
  unfold ZT
  refine ⟨λx y _ _ _ w1=>∃ (a1 b1:Nat) (g:Nat->zG),x=(a1:Int)/\y=(b1:Int)/\a1<=b1/\Inv lt a b a1 b1 f g/\Ow base w1 s (tab g L)/\w.grownBy w1 (Sl.v s).ownBlock,λx y _ _ _ _=>(y - x).toNat,⟨a,b,f,rfl,rfl,hab,Inv.start a b f,hO,World.grownBy.refl _ _⟩,?_⟩
  rintro x y z p q w1 ⟨a1,b1,g,rfl,rfl,hab1,hinv,hO1,hg1⟩
  have hA:=hinv.ha;have hB:=hinv.hb
  unfold Qn
  generalize hKl:(λ(x1_1' x2_1' x3_1':Int) (x10' x11':Bool) (w':World)=>(∃ (a1 b1:Nat) (g:Nat->zG),x1_1'=(a1:Int)/\x2_1'=(b1:Int)/\a1<=b1/\Inv lt a b a1 b1 f g/\Ow base w' s (tab g L)/\w.grownBy w' (Sl.v s).ownBlock)/\(x2_1' - x1_1').toNat<((b1:Int) - (a1:Int)).toNat)=Kl
  have hwn:zC .i64 ((b1:Int) - a1)=(b1:Int) - a1:=wr64 (by omega) (by omega)
  rw [hwn]
  have fin:∀ (h:Nat->zG) (w2:World),Seg a1 b1 g h->yL lt a1 b1 h->Ow base w2 s (tab h L)->w1.grownBy w2 (Sl.v s).ownBlock->k w2:=λh w2 h1 h2 h3 h4=>
   H h w2 (hinv.turn h1).seg ((hinv.turn h1).fin h2) h3 (zS hg1 h4)
  refine ⟨λ_=>zCl O hcmp hO1 hab1 (by omega) fin,λhc=>⟨λ_=>zKK O hcmp hO1 hab1 (by omega) fin,λ_=>?_⟩⟩
  have hlt:a1<b1:=by omega
  have j4:∀ (h:Nat->zG) (w2:World) (lim:Int) (v:Nat),Seg a1 b1 g h->Ow base w2 s (tab h L)->w1.grownBy w2 (Sl.v s).ownBlock->a1<=v->v<b1->xF s cmp (a1:Int) (b1:Int) p q Kl lim (v:Int) w2:=by
   intro h w2 lim v hs2 hO2 hg2 hv1 hv2
   have hinv2:=hinv.turn hs2
   have hg02:=zS hg1 hg2
   have away:∀ w3,Bel w2 w3->Q4 s cmp (a1:Int) (b1:Int) p q Kl lim (v:Int) false w2:=by
    intro w3' hb3'
    intro w3 hb3
    refine ⟨λh=>(nomatch h),λ_=>?_⟩
    have hg03:=zS hg02 (zo hb3 (Sl.v s).ownBlock)
    refine zJ7 O hcmp (hO2.bel hb3) hv1 hv2 (by omega) λm r h4 w4 hm1 hm2 hs4 hpk hO4 hg4=>?_
    have hinv4:=hinv2.turn hs4
    have hg04:=zS hg03 hg4
    refine zE9 (by decide) (by rw [hwn,Int.tdiv_eq_ediv_of_nonneg (by omega)];omega) (by rw [hwn,Int.tdiv_eq_ediv_of_nonneg (by omega)];omega) ?_
    rw [wr64 (n:=(m:Int) - a1) (by omega) (by omega),wr64 (n:=(b1:Int) - m) (by omega) (by omega),wr64 (n:=(m:Int)+1) (by omega) (by omega),show (m:Int)+1=((m+1:Nat):Int) by omega]
    refine ⟨λ_=>?_,λ_=>?_⟩
    ·refine ih hO4 hm1 (by omega) (by omega) (a:=a1) (b:=m) (by
      rcases hinv4.pre hpre with h5|h5
      ·exact .inl h5
      ·exact .inr λk h6 h7=>h5 k h6 (by omega)) lim λh5 w5 hs5 hso5 hO5 hg5=>?_
     have hs5':Seg a1 b1 h4 h5:=hs5.mono (zU _) (by omega)
     rw [← hKl]
     exact ⟨⟨m+1,b1,h5,rfl,rfl,by omega,(hinv4.turn hs5').goRight hm1 hm2 O (hpk.left hs5) hso5,hO5,zS hg04 hg5⟩,by omega⟩
    ·refine ih hO4 (a:=m+1) (b:=b1) (by omega) (by omega) (by omega) (.inr λk h6 h7=>hpk.hi k (by omega) h7) lim λh5 w5 hs5 hso5 hO5 hg5=>?_
     have hs5':Seg a1 b1 h4 h5:=hs5.mono (by omega) (zU _)
     rw [← hKl]
     exact ⟨⟨a1,m,h5,rfl,rfl,hm1,(hinv4.turn hs5').goLeft hm1 hm2 O (hpk.right hs5) hso5,hO5,zS hg04 hg5⟩,by omega⟩
   unfold xF
   refine ⟨λha0=>?_,λ_=>away w2 (Bel.refl _)⟩
   refine yJ zq hO2 (i':=a1 - 1) (by rw [wr64 (by omega) (by omega)];omega) (by omega) ?_
   refine yJ zq hO2 (i':=v) rfl (by omega) ?_
   obtain ⟨r,hr,hl⟩:=hcmp w2 (h (a1 - 1)) (h v)
   refine ⟨r,hr,?_⟩
   rw [ZR hl]
   cases hlv:lt (h (a1 - 1)) (h v) with
   |true=>exact away w2 (Bel.refl _)
   |false=>
    intro w3 hb3
    refine ⟨λ_=>?_,λh=>(nomatch h)⟩
    have hg03:=zS hg02 (zo hb3 (Sl.v s).ownBlock)
    refine zIi O hcmp (hO2.bel hb3) hv1 hv2 (by omega) λm h4 w4 hm1 hm2 hs4 heq hO4 hg4=>?_
    have hinv4:=hinv2.turn hs4
    rw [← hKl]
    have hpre4:=hinv4.pre hpre
    refine ⟨⟨m,b1,h4,rfl,rfl,hm2,hinv4.goEqual (by omega) hm2 O (v:=h4 (a1 - 1)) (λq h1 h2=>?_) (λq h1 h2=>?_),hO4,zS hg03 hg4⟩,by omega⟩
    ·rw [hs4.out (a1 - 1) (.inl (by omega))]
     exact O.trans (heq q h1 h2) hlv
    ·rcases hpre4 with h5|h5
     ·omega
     ·exact h5 q h1 h2
  have j3:∀ (h:Nat->zG) (w2:World) (lim hint:Int) (v:Nat),Seg a1 b1 g h->Ow base w2 s (tab h L)->w1.grownBy w2 (Sl.v s).ownBlock->a1<=v->v<b1->xE s cmp k (a1:Int) (b1:Int) p q Kl lim (v:Int) hint w2:=by
   intro h w2 lim hint v hs2 hO2 hg2 hv1 hv2
   have r7f:xK s cmp k (a1:Int) (b1:Int) p q Kl lim (v:Int) false w2:=⟨λh=>(nomatch h),λ_=>j4 h w2 lim v hs2 hO2 hg2 hv1 hv2⟩
   have r7t:xK s cmp k (a1:Int) (b1:Int) p q Kl lim (v:Int) true w2:=by
    refine ⟨λ_=>?_,λh=>(nomatch h)⟩
    refine zG2 O hcmp hO2 hlt (by omega) ((hinv.turn hs2).pre hpre) λr h3 w3 hs3 hso3 hO3 hg3=>?_
    exact ⟨λht=>fin h3 w3 (hs2.trans hs3) (hso3 ht) hO3 (zS hg2 hg3),λ_=>j4 h3 w3 lim v (hs2.trans hs3) hO3 (zS hg2 hg3) hv1 hv2⟩
   have r6:∀ c:Bool,Qv s cmp k (a1:Int) (b1:Int) p q Kl lim (v:Int) hint c w2:=by
    intro c
    refine ⟨λ_=>?_,λ_=>r7f⟩
    by_cases hh:hint=1
    ·rw [decide_eq_true hh];exact r7t
    ·rw [decide_eq_false hh];exact r7f
   unfold xE
   exact ⟨λ_=>r6 q,λ_=>r6 false⟩
  have j2:∀ (h:Nat->zG) (w2:World) (lim:Int),Seg a1 b1 g h->Ow base w2 s (tab h L)->w1.grownBy w2 (Sl.v s).ownBlock->xG s cmp k (a1:Int) (b1:Int) p q Kl lim w2:=by
   intro h w2 lim hs2 hO2 hg2
   unfold xG
   refine zIY hcmp hO2 hlt (by omega) λv hint w3 hv1 hv2 hb3=>?_
   have hg3:=zS hg2 (zo hb3 (Sl.v s).ownBlock)
   refine ⟨λ_=>?_,λ_=>j3 h w3 lim hint v hs2 (hO2.bel hb3) hg3 hv1 hv2⟩
   refine zHD (hO2.bel hb3) hab1 (by omega) λh4 w4 hs4 hO4 hg4=>?_
   rw [wr64 (n:=(b1:Int) - 1) (by omega) (by omega),wr64 (n:=(v:Int) - a1) (by omega) (by omega),wr64 (by omega) (by omega),show (b1:Int) - 1 - (v - a1)=((b1 - 1 - (v - a1):Nat):Int) by omega]
   exact j3 h4 w4 lim 1 _ (hs2.trans hs4) hO4 (zS hg3 hg4) (by omega) (by omega)
  refine ⟨λ_=>?_,λ_=>j2 g w1 _ (.refl g) hO1 (World.grownBy.refl _ _)⟩
  exact zI4 (w0:=w) hO1 hab1 (by omega) λh w2 hs2 hO2 hg2=>j2 h w2 _ hs2 hO2 hg2
theorem sort_ok {w:World} {s:Sl} {xs:List zG} (hO:Ow base w s xs) {k:World->Prop}
  (H:∀ ys w',ys.Perm xs->ys.Pairwise (λx y=>Le lt x y)->Ow base w' s ys->w.grownBy w' (Sl.v s).ownBlock->k w'):
  Cl zA zDD [Sl.v s,cmp].toArray w (λe w'=>e=.returned (.tuple [].toArray)/\k w'):=by
 refine zDK s cmp w k ?_
 have hlen:=hO.len;have hsm:=hO.small
 unfold Ze
 refine zFr (by kernel_rfl) (by kernel_rfl) ?_
 rw [zIE (by omega) (by omega)]
 refine zMm (by omega) λr hr=>?_
 cases xs with
 |nil=>
  have hl0:s.len=0:=by simpa using hlen.symm
  rw [hl0]
  refine zI5 O hcmp 0 (f:=λ_=>⟨ByteArray.mk #[],0,ByteArray.mk #[],false⟩) (L:=0) (a:=0) (b:=0) hO (zU _) (zU _) (zU _) (.inl rfl) _ λg w' _ _ hO' hg=>?_
  exact H [] w' (.refl _) .nil hO' hg
 |cons x0 xs=>
  obtain ⟨f,hf⟩:∃ f:Nat->zG,f=λi=>((x0::xs)[i]?).getD x0:=⟨_,rfl⟩
  have htab:tab f (x0::xs).length=x0::xs:=zOE _ f λi y hy=>by rw [hf];simp only [hy,Option.getD_some]
  rw [← htab] at hO
  have hL:s.len=(x0::xs).length:=hlen.symm
  rw [hL]
  refine zI5 O hcmp (x0::xs).length hO (a:=0) (Nat.zero_le _) (by omega) (zU _) (.inl rfl) _ λg w' hsg hso hO' hg=>?_
  refine H (tab g (x0::xs).length) w' ?_ ?_ hO' hg
  ·have:=hsg.perm (zU _)
   rw [htab] at this;exact this
  ·rw [List.pairwise_iff_getElem]
   intro i j hi hj hij
   rw [xP] at hi hj
   have e1:=zFK g hi
   have e2:=zFK g hj
   have:=hso i j (Nat.zero_le _) hij hj
   rw [List.getElem?_eq_getElem (by rw [xP];exact hi)] at e1
   rw [List.getElem?_eq_getElem (by rw [xP];exact hj)] at e2
   rw [Option.some.inj e1,Option.some.inj e2]
   exact this
end
end SoCmpFunc_api_Version
end Go.Proofs.YtealcoghiaeiiaaGreat.VG
set_option linter.unusedVariables false
set_option linter.unusedSimpArgs false
namespace Go.Proofs.YtealcoghiaeiiaaGreat.VG
open Go.VB Go.Proofs
def xe (x9:Int) (Kl2:Int->World->Prop) (w:World):Prop:=
 Kl2 (zC .i64 (x9 - 1)) w
def ye (x0:Sl) (x8:Int) (Kl1:Int->World->Prop) (x9:Int) (Kl2:Int->World->Prop) (x34:Bool) (w:World):Prop:=
 yM w (λw=>(x34=true->(yM w (λw=>opP zA zB (zF 30 (Sl.v x0) (.int .i64 (zC .i64 (x9 - 1)))) (λx45=>opP zA zB (zF 30 (Sl.v x0) (.int .i64 x9)) (λx49=>(opE zA zJ.v (zD 34 (.pointer x45)) w (λx46 w=>opE zA zJ.v (zD 34 (.pointer x49)) w (λx50 w=>opP zA zB (zF 30 (Sl.v x0) (.int .i64 x9)) (λx51=>opU zA (zK 34 (.pointer x51) (zJ.v x46)) w (λw=>opP zA zB (zF 30 (Sl.v x0) (.int .i64 (zC .i64 (x9 - 1)))) (λx52=>opU zA (zK 34 (.pointer x52) (zJ.v x50)) w (λw=>xe x9 Kl2 w)))))))/\(opE zA zJ.v (zD 34 (.pointer x49)) w (λx50_1 w=>opE zA zJ.v (zD 34 (.pointer x45)) w (λx46_1 w=>opP zA zB (zF 30 (Sl.v x0) (.int .i64 x9)) (λx51_1=>opU zA (zK 34 (.pointer x51_1) (zJ.v x46_1)) w (λw=>opP zA zB (zF 30 (Sl.v x0) (.int .i64 (zC .i64 (x9 - 1)))) (λx52_1=>opU zA (zK 34 (.pointer x52_1) (zJ.v x50_1)) w (λw=>xe x9 Kl2 w))))))))))))/\(x34=false->(Kl1 (zC .i64 (x8+1)) w)))
def YP (x0:Sl) (x1:Int) (x3:Value) (x8:Int) (Kl1:Int->World->Prop) (x9:Int) (w:World) (Kl2:Int->World->Prop):Prop:=
 ((x1<x9)->(opB zA zB (zF 30 (Sl.v x0) (.int .i64 x9)) w (λx25=>opB zA zJ.v (zD 34 (.pointer x25)) w (λx26=>opB zA zB (zF 30 (Sl.v x0) (.int .i64 (zC .i64 (x9 - 1)))) w (λx30=>opB zA zJ.v (zD 34 (.pointer x30)) w (λx31=>∃ (r:Int),Zs zA x3 [(zJ.v x26),(zJ.v x31)] w (.int .i64 r)/\(ye x0 x8 Kl1 x9 Kl2 (decide (r<0)) w)))))))/\(¬ (x1<x9)->(ye x0 x8 Kl1 x9 Kl2 false w))
def xT (x0:Sl) (x1:Int) (x2:Int) (x3:Value) (Ret:World->Prop) (x8:Int) (w:World) (Kl1:Int->World->Prop):Prop:=
 ((x8<x2)->(∃ (I:Int->World->Prop) (μ:Int->World->Nat),I x8 w/\∀ (x9:Int) w,I x9 w->YP x0 x1 x3 x8 Kl1 x9 w (λx9' w'=>I x9' w'/\μ x9' w'<μ x9 w)))/\(¬ (x8<x2)->(Ret w))
def Yy (x0:Sl) (x1:Int) (x2:Int) (x3:Value) (w:World) (Ret:World->Prop):Prop:=
 ∃ (I:Int->World->Prop) (μ:Int->World->Nat),I (zC .i64 (x1+1)) w/\∀ (x8:Int) w,I x8 w->xT x0 x1 x2 x3 Ret x8 w (λx8' w'=>I x8' w'/\μ x8' w'<μ x8 w)
set_option maxRecDepth 100000 in
theorem zDp (x0:Sl) (x1:Int) (x2:Int) (x3:Value) (w:World) (Ret:World->Prop) (H:Yy x0 x1 x2 x3 w Ret):Cl zA 128 [(Sl.v x0),(.int .i64 x1),(.int .i64 x2),x3].toArray w (λe w'=>e=.returned (.tuple [].toArray)/\Ret w'):=by
 unfold Yy at H
 refine zp 53 (zipE 0 [(Sl.v x0),(.int .i64 x1),(.int .i64 x2),x3]) Tryz.func128 rfl rfl (by rfl) rfl ?_
 intro a g
 have g:Sat [] 53 [(0,(Sl.v x0)),(1,(.int .i64 x1)),(2,(.int .i64 x2)),(3,x3)] a:=g
 refine zI (zE (g.m rfl λ_ g=>g.p (zr g rfl rfl) λ_ g=>g.s rfl λ_ g=>zL (tn (zX ?_))))
 obtain ⟨I_l1,μ_l1,h0,hb⟩:=H
 refine yE (ds:=[]) (N:=53) (σ:=Int) (λs=>[(8,(.int .i64 s)),(0,(Sl.v x0)),(1,(.int .i64 x1)),(2,(.int .i64 x2)),(3,x3)]) (λs w=>I_l1 s w) (λs w=>μ_l1 s w) (zC .i64 (x1+1)) h0 (g.k) ?_
 intro x8 w a hI g
 try dsimp only at hI g
 obtain ⟨Kl1,hK_l1⟩:∃ K:Int->World->Prop,K=(λx8' w'=>I_l1 x8' w'/\μ_l1 x8' w'<μ_l1 x8 w):=⟨_,rfl⟩
 have H:xT x0 x1 x2 x3 Ret x8 w Kl1:=by rw [hK_l1];exact hb x8 w hI
 clear hb h0 hI
 unfold xT at H
 refine zI (zI (zE (g.m rfl λ_ g=>g.m rfl λ_ g=>g.p (yR g rfl rfl) λ_ g=>zL (tn (zd g rfl (λhc=>?_) (λhc=>?_))))))
 ·have H:=H.1 hc
  refine zY (tn (zI (zX (zI (zE (g.m rfl λ_ g=>g.s rfl λ_ g=>zL (tn (zX ?_))))))))
  obtain ⟨I_l2,μ_l2,h0,hb⟩:=H
  refine yE (ds:=[]) (N:=53) (σ:=Int) (λs=>[(9,(.int .i64 s)),(0,(Sl.v x0)),(1,(.int .i64 x1)),(2,(.int .i64 x2)),(3,x3),(8,(.int .i64 x8))]) (λs w=>I_l2 s w) (λs w=>μ_l2 s w) x8 h0 (g.k) ?_
  intro x9 w a hI g
  try dsimp only at hI g
  obtain ⟨Kl2,hK_l2⟩:∃ K:Int->World->Prop,K=(λx9' w'=>I_l2 x9' w'/\μ_l2 x9' w'<μ_l2 x9 w):=⟨_,rfl⟩
  have H:YP x0 x1 x3 x8 Kl1 x9 w Kl2:=by rw [hK_l2];exact hb x9 w hI
  clear hb h0 hI
  unfold YP at H
  refine zI (zI (QU (by kernel_rfl) (by kernel_rfl) (g.t rfl λ_ g=>g.t rfl λ_ g=>g.r (zBx g rfl rfl) λ_ g=>g.t rfl λ_ g=>WQ.join (ds:=[]) (N:=53) (σ:=Bool) (λs=>[(34,(.bool s)),(0,(Sl.v x0)),(1,(.int .i64 x1)),(2,(.int .i64 x2)),(3,x3),(8,(.int .i64 x8)),(9,(.int .i64 x9))]) (λs=>ye x0 x8 Kl1 x9 Kl2 s w) 13 ?_ (λhr3=>?_))))
  ·intro x34 a H g
   try dsimp only at H g
   unfold ye at H
   refine Qb (λw hB=>?_)
   replace H:=H w hB
   refine (tn (zk g rfl (λhc=>?_) (λhc=>?_)))
   ·have H:=H.1 hc
    refine zY (tn (z8 (ds:=[]) (N:=53) (σ:=Unit) (λs=>[(0,(Sl.v x0)),(1,(.int .i64 x1)),(2,(.int .i64 x2)),(3,x3),(8,(.int .i64 x8)),(9,(.int .i64 x9))]) (λs w=>xe x9 Kl2 w) ?_ (λhj4=>?_)))
    ·rintro ⟨⟩ w a H g
     try dsimp only at H g
     unfold xe at H
     refine zE (g.m rfl λ_ g=>g.p (zv g rfl rfl) λ_ g=>g.s rfl λ_ g=>?_)
     rw [hK_l2] at H
     exact zL (tn ⟨(zC .i64 (x9 - 1)),g.k,H⟩)
    ·refine zX (zCC 18 λw hB=>?_)
     replace H:=H w hB
     refine g.x 0 rfl (zR g rfl) λ_ g=>g.x 1 rfl (zR g rfl) λ_ g=>g.x 2 rfl (zR g rfl) λ_ g=>g.x 3 rfl (zR g rfl) λ_ g=>g.x 4 rfl (zv g rfl rfl) λ_ g=>g.x 5 rfl (zR g rfl) λ_ g=>g.x 6 rfl (zR g rfl) λ_ g=>g.x 7 rfl (zv g rfl rfl) λ_ g=>g.y 8 rfl (zH g rfl rfl) H λx45 a H g=>g.x 10 rfl (zR g rfl) λ_ g=>g.x 11 rfl (zR g rfl) λ_ g=>g.y 12 rfl (zH g rfl rfl) H λx49 a H g=>WA.tw 9 13 rfl rfl ?_ ?_
     ·have H:=H.1
      intro K hK
      exact g.i (zO g rfl) H λx46 w a H g=>hK _ _ (g.j 13 rfl (zO g rfl) H λx50 w a H g=>g.y 14 rfl (zH g rfl rfl) H λx51 a H g=>g.l 15 rfl (zT g rfl rfl) H λw a H g=>g.y 16 rfl (zH g rfl rfl) H λx52 a H g=>g.l 17 rfl (zT g rfl rfl) H λw a H g=>WA.ni ((bn (tn (hj4 () _ _ H (g.k))))))
     ·have H:=H.2
      intro K hK
      exact g.i (zO g rfl) H λx50_1 w a H g=>hK _ _ (g.j 9 rfl (zO g rfl) H λx46_1 w a H g=>g.y 14 rfl (zH g rfl rfl) H λx51_1 a H g=>g.l 15 rfl (zT g rfl rfl) H λw a H g=>g.y 16 rfl (zH g rfl rfl) H λx52_1 a H g=>g.l 17 rfl (zT g rfl rfl) H λw a H g=>WA.ni ((bn (tn (hj4 () _ _ H (g.k))))))
   ·have H:=H.2 hc
    refine z7 (te (te (be (bn (tn (zE (g.m rfl λ_ g=>g.p (zr g rfl rfl) λ_ g=>g.s rfl λ_ g=>?_)))))))
    rw [hK_l1] at H
    exact zL (tn ⟨(zC .i64 (x8+1)),g.k,H⟩)
  ·rcases Classical.em ((x1<x9)) with hbr3|hbr3
   ·have H:=H.1 hbr3
    have g:=g.b (b:=true) (t:=21) rfl (decide_eq_true hbr3)
    refine g.e (g.t rfl λ_ g=>g.e (g.t rfl λ_ g=>g.e (g.t rfl λ_ g=>g.e (g.A (zH g rfl rfl) H λx25 a H g=>g.e (g.A (zO g rfl) H λx26 a H g=>g.e (g.t rfl λ_ g=>g.e (g.t rfl λ_ g=>g.e (g.r (zv g rfl rfl) λ_ g=>g.e (g.A (zH g rfl rfl) H λx30 a H g=>g.e (g.A (zO g rfl) H λx31 a H g=>g.e ?_))))))))))
    obtain ⟨r,hc,H⟩:=H
    exact g.qcallV rfl rfl hc λ_ g=>g.e (g.r (yR g rfl rfl) λ_ g=>g.r (zx g rfl rfl) λ_ g=>hr3 (decide (r<0)) _ H (g.k))
   ·have H:=H.2 hbr3
    have g:=g.b (b:=false) (t:=21) rfl (decide_eq_false hbr3)
    exact g.g (λ_ g=>g.g (λ_ g=>g.g (λ_ g=>g.g (λ_ g=>g.g (λ_ g=>g.g (λ_ g=>g.g (λ_ g=>g.g (λ_ g=>g.g (λ_ g=>g.g (λ_ g=>g.g (λ_ g=>g.g (λ_ g=>g.r (zy g rfl rfl) λ_ g=>hr3 false _ H (g.k)))))))))))))
 ·have H:=H.2 hc
  exact z7 (te (te (be (zBg g rfl ⟨rfl,H⟩))))
def YC (x0:Sl) (x1:Int) (x3:Value) (x12:Int) (Kl2:Int->World->Prop) (w:World):Prop:=
 Cl zA 144 [(Sl.v x0),(.int .i64 0),(.int .i64 x12),(.int .i64 x1),x3].toArray w (λe w=>e=.returned (.tuple [].toArray)/\(Kl2 (zC .i64 (x12 - 1)) w))
def Y8 (x0:Sl) (x1:Int) (x3:Value) (Ret:World->Prop) (x12:Int) (w:World) (Kl2:Int->World->Prop):Prop:=
 ((0<=x12)->(yM w (λw=>opP zA zB (zF 30 (Sl.v x0) (.int .i64 (zC .i64 (x1+x12)))) (λx46=>opP zA zB (zF 30 (Sl.v x0) (.int .i64 x1)) (λx50=>(opE zA zJ.v (zD 34 (.pointer x46)) w (λx47 w=>opE zA zJ.v (zD 34 (.pointer x50)) w (λx51 w=>opP zA zB (zF 30 (Sl.v x0) (.int .i64 x1)) (λx52=>opU zA (zK 34 (.pointer x52) (zJ.v x47)) w (λw=>opP zA zB (zF 30 (Sl.v x0) (.int .i64 (zC .i64 (x1+x12)))) (λx53=>opU zA (zK 34 (.pointer x53) (zJ.v x51)) w (λw=>YC x0 x1 x3 x12 Kl2 w)))))))/\(opE zA zJ.v (zD 34 (.pointer x50)) w (λx51_1 w=>opE zA zJ.v (zD 34 (.pointer x46)) w (λx47_1 w=>opP zA zB (zF 30 (Sl.v x0) (.int .i64 x1)) (λx52_1=>opU zA (zK 34 (.pointer x52_1) (zJ.v x47_1)) w (λw=>opP zA zB (zF 30 (Sl.v x0) (.int .i64 (zC .i64 (x1+x12)))) (λx53_1=>opU zA (zK 34 (.pointer x53_1) (zJ.v x51_1)) w (λw=>YC x0 x1 x3 x12 Kl2 w))))))))))))/\(¬ (0<=x12)->(Ret w))
def Y5 (x0:Sl) (x1:Int) (x2:Int) (x3:Value) (Ret:World->Prop) (x11:Int) (w:World) (Kl1:Int->World->Prop):Prop:=
 ((0<=x11)->(Cl zA 144 [(Sl.v x0),(.int .i64 x11),(.int .i64 (zC .i64 (x2 - x1))),(.int .i64 x1),x3].toArray w (λe w=>e=.returned (.tuple [].toArray)/\(Kl1 (zC .i64 (x11 - 1)) w))))/\(¬ (0<=x11)->(∃ (I:Int->World->Prop) (μ:Int->World->Nat),I (zC .i64 ((zC .i64 (x2 - x1)) - 1)) w/\∀ (x12:Int) w,I x12 w->Y8 x0 x1 x3 Ret x12 w (λx12' w'=>I x12' w'/\μ x12' w'<μ x12 w)))
def zAu (x0:Sl) (x1:Int) (x2:Int) (x3:Value) (w:World) (Ret:World->Prop):Prop:=
 opE zA (zV .i64) (binOp .quo 3 (.int .i64 (zC .i64 ((zC .i64 (x2 - x1)) - 1))) (.int .i64 2)) w (λx19 w=>∃ (I:Int->World->Prop) (μ:Int->World->Nat),I x19 w/\∀ (x11:Int) w,I x11 w->Y5 x0 x1 x2 x3 Ret x11 w (λx11' w'=>I x11' w'/\μ x11' w'<μ x11 w))
set_option maxRecDepth 100000 in
theorem zFG (x0:Sl) (x1:Int) (x2:Int) (x3:Value) (w:World) (Ret:World->Prop) (H:zAu x0 x1 x2 x3 w Ret):Cl zA 129 [(Sl.v x0),(.int .i64 x1),(.int .i64 x2),x3].toArray w (λe w'=>e=.returned (.tuple [].toArray)/\Ret w'):=by
 unfold zAu at H
 refine zp 60 (zipE 0 [(Sl.v x0),(.int .i64 x1),(.int .i64 x2),x3]) Tryz.func129 rfl rfl (by rfl) rfl ?_
 intro a g
 have g:Sat [] 60 [(0,(Sl.v x0)),(1,(.int .i64 x1)),(2,(.int .i64 x2)),(3,x3)] a:=g
 refine zI (zE (g.m rfl λ_ g=>g.s rfl λ_ g=>zL (tn (zI (zE (g.s rfl λ_ g=>zL (tn (zI (zE (g.m rfl λ_ g=>g.m rfl λ_ g=>g.p (zv g rfl rfl) λ_ g=>g.s rfl λ_ g=>zL (tn (zI (zI (zE (g.m rfl λ_ g=>g.p (zv g rfl rfl) λ_ g=>g.o (ZS g rfl rfl) H λx19 w a H g=>g.s rfl λ_ g=>zL (tn (zX ?_)))))))))))))))))
 obtain ⟨I_l1,μ_l1,h0,hb⟩:=H
 refine yE (ds:=[]) (N:=60) (σ:=Int) (λs=>[(11,(.int .i64 s)),(0,(Sl.v x0)),(3,x3),(8,(.int .i64 x1)),(9,(.int .i64 0)),(10,(.int .i64 (zC .i64 (x2 - x1))))]) (λs w=>I_l1 s w) (λs w=>μ_l1 s w) x19 h0 (g.k) ?_
 intro x11 w a hI g
 try dsimp only at hI g
 obtain ⟨Kl1,hK_l1⟩:∃ K:Int->World->Prop,K=(λx11' w'=>I_l1 x11' w'/\μ_l1 x11' w'<μ_l1 x11 w):=⟨_,rfl⟩
 have H:Y5 x0 x1 x2 x3 Ret x11 w Kl1:=by rw [hK_l1];exact hb x11 w hI
 clear hb h0 hI
 unfold Y5 at H
 refine zI (zI (zE (g.m rfl λ_ g=>g.p (Zm g rfl rfl) λ_ g=>zL (tn (zd g rfl (λhc=>?_) (λhc=>?_))))))
 ·have H:=H.1 hc
  refine zY (tn (zI (zX (zE (g.m rfl λ_ g=>g.m rfl λ_ g=>g.m rfl λ_ g=>g.m rfl λ_ g=>g.m rfl λ_ g=>g.c (zb g zQI rfl rfl) H λe w H=>?_)))))
  obtain ⟨rfl,H⟩:=H
  refine ⟨_,rfl,λ_ g=>(zL (bn (tn (zE (g.m rfl λ_ g=>g.p (zv g rfl rfl) λ_ g=>g.s rfl λ_ g=>?_)))))⟩
  rw [hK_l1] at H
  exact zL (tn ⟨(zC .i64 (x11 - 1)),g.k,H⟩)
 ·have H:=H.2 hc
  refine z7 (te (te (be (tn (zI (zE (g.m rfl λ_ g=>g.p (zv g rfl rfl) λ_ g=>g.s rfl λ_ g=>zL (tn (zX ?_)))))))))
  obtain ⟨I_l2,μ_l2,h0,hb⟩:=H
  refine yE (ds:=[]) (N:=60) (σ:=Int) (λs=>[(12,(.int .i64 s)),(0,(Sl.v x0)),(3,x3),(8,(.int .i64 x1)),(9,(.int .i64 0))]) (λs w=>I_l2 s w) (λs w=>μ_l2 s w) (zC .i64 ((zC .i64 (x2 - x1)) - 1)) h0 (g.k) ?_
  intro x12 w a hI g
  try dsimp only at hI g
  obtain ⟨Kl2,hK_l2⟩:∃ K:Int->World->Prop,K=(λx12' w'=>I_l2 x12' w'/\μ_l2 x12' w'<μ_l2 x12 w):=⟨_,rfl⟩
  have H:Y8 x0 x1 x3 Ret x12 w Kl2:=by rw [hK_l2];exact hb x12 w hI
  clear hb h0 hI
  unfold Y8 at H
  refine zI (zI (zE (g.m rfl λ_ g=>g.p (Zm g rfl rfl) λ_ g=>zL (tn (zd g rfl (λhc=>?_) (λhc=>?_))))))
  ·have H:=H.1 hc
   refine zY (tn (zI (zX (z8 (ds:=[]) (N:=60) (σ:=Unit) (λs=>[(0,(Sl.v x0)),(3,x3),(8,(.int .i64 x1)),(9,(.int .i64 0)),(12,(.int .i64 x12))]) (λs w=>YC x0 x1 x3 x12 Kl2 w) ?_ (λhj3=>?_)))))
   ·rintro ⟨⟩ w a H g
    try dsimp only at H g
    unfold YC at H
    refine zE (g.m rfl λ_ g=>g.m rfl λ_ g=>g.m rfl λ_ g=>g.m rfl λ_ g=>g.m rfl λ_ g=>g.c (zb g zQI rfl rfl) H λe w H=>?_)
    obtain ⟨rfl,H⟩:=H
    refine ⟨_,rfl,λ_ g=>(zL (bn (tn (zE (g.m rfl λ_ g=>g.p (zv g rfl rfl) λ_ g=>g.s rfl λ_ g=>?_)))))⟩
    rw [hK_l2] at H
    exact zL (tn ⟨(zC .i64 (x12 - 1)),g.k,H⟩)
   ·refine zCC 20 λw hB=>?_
    replace H:=H w hB
    refine g.x 0 rfl (zR g rfl) λ_ g=>g.x 1 rfl (zR g rfl) λ_ g=>g.x 2 rfl (zR g rfl) λ_ g=>g.x 3 rfl (zR g rfl) λ_ g=>g.x 4 rfl (zR g rfl) λ_ g=>g.x 5 rfl (zr g rfl rfl) λ_ g=>g.x 6 rfl (zR g rfl) λ_ g=>g.x 7 rfl (zR g rfl) λ_ g=>g.x 8 rfl (zR g rfl) λ_ g=>g.x 9 rfl (zr g rfl rfl) λ_ g=>g.y 10 rfl (zH g rfl rfl) H λx46 a H g=>g.x 12 rfl (zR g rfl) λ_ g=>g.x 13 rfl (zR g rfl) λ_ g=>g.y 14 rfl (zH g rfl rfl) H λx50 a H g=>WA.tw 11 15 rfl rfl ?_ ?_
    ·have H:=H.1
     intro K hK
     exact g.i (zO g rfl) H λx47 w a H g=>hK _ _ (g.j 15 rfl (zO g rfl) H λx51 w a H g=>g.y 16 rfl (zH g rfl rfl) H λx52 a H g=>g.l 17 rfl (zT g rfl rfl) H λw a H g=>g.y 18 rfl (zH g rfl rfl) H λx53 a H g=>g.l 19 rfl (zT g rfl rfl) H λw a H g=>WA.ni ((tn (hj3 () _ _ H (g.k)))))
    ·have H:=H.2
     intro K hK
     exact g.i (zO g rfl) H λx51_1 w a H g=>hK _ _ (g.j 11 rfl (zO g rfl) H λx47_1 w a H g=>g.y 16 rfl (zH g rfl rfl) H λx52_1 a H g=>g.l 17 rfl (zT g rfl rfl) H λw a H g=>g.y 18 rfl (zH g rfl rfl) H λx53_1 a H g=>g.l 19 rfl (zT g rfl rfl) H λw a H g=>WA.ni ((tn (hj3 () _ _ H (g.k)))))
  ·have H:=H.2 hc
   exact z7 (te (te (be (zBg g rfl ⟨rfl,H⟩))))
def yu (Ret:Int->Int->World->Prop) (x11:Option Addr) (x13:Int) (w:World):Prop:=
 opE zA (zV .i64) (zD 3 (.pointer x11)) w (λx55 w=>((x55=0)->(Ret x13 1 w))/\(¬ (x55=0)->(((x55=12)->(Ret x13 2 w))/\(¬ (x55=12)->(Ret x13 0 w)))))
def yv (x0:Sl) (x3:Value) (Ret:Int->Int->World->Prop) (x11:Option Addr) (x12:Int) (x13_1:Int) (x14:Int) (w:World):Prop:=
 Cl zA 146 [(Sl.v x0),(.int .i64 x12),(.int .i64 x13_1),(.int .i64 x14),(.pointer x11),x3].toArray w (λe w=>∃ (r:Int),e=.returned (.int .i64 r)/\(yu Ret x11 r w))
def zAO (x0:Sl) (x1:Int) (x2:Int) (x3:Value) (w:World) (Ret:Int->Int->World->Prop):Prop:=
 opE zA zB (zf 3 true (.tuple #[])) w (λx11 w=>opE zA (zV .i64) (binOp .quo 3 (.int .i64 (zC .i64 (x2 - x1))) (.int .i64 4)) w (λx20 w=>opE zA (zV .i64) (binOp .quo 3 (.int .i64 (zC .i64 (x2 - x1))) (.int .i64 4)) w (λx25 w=>opE zA (zV .i64) (binOp .quo 3 (.int .i64 (zC .i64 (x2 - x1))) (.int .i64 4)) w (λx30 w=>((8<=(zC .i64 (x2 - x1)))->(((50<=(zC .i64 (x2 - x1)))->(Cl zA 145 [(Sl.v x0),(.int .i64 (zC .i64 (x1+(zC .i64 (x20*1))))),(.pointer x11),x3].toArray w (λe w=>∃ (r_1:Int),e=.returned (.int .i64 r_1)/\(Cl zA 145 [(Sl.v x0),(.int .i64 (zC .i64 (x1+(zC .i64 (x25*2))))),(.pointer x11),x3].toArray w (λe w=>∃ (r_2:Int),e=.returned (.int .i64 r_2)/\(Cl zA 145 [(Sl.v x0),(.int .i64 (zC .i64 (x1+(zC .i64 (x30*3))))),(.pointer x11),x3].toArray w (λe w=>∃ (r_3:Int),e=.returned (.int .i64 r_3)/\(yv x0 x3 Ret x11 r_1 r_2 r_3 w))))))))/\(¬ (50<=(zC .i64 (x2 - x1)))->(yv x0 x3 Ret x11 (zC .i64 (x1+(zC .i64 (x20*1)))) (zC .i64 (x1+(zC .i64 (x25*2)))) (zC .i64 (x1+(zC .i64 (x30*3)))) w))))/\(¬ (8<=(zC .i64 (x2 - x1)))->(yu Ret x11 (zC .i64 (x1+(zC .i64 (x25*2)))) w))))))
set_option maxRecDepth 100000 in
theorem zEJ (x0:Sl) (x1:Int) (x2:Int) (x3:Value) (w:World) (Ret:Int->Int->World->Prop) (H:zAO x0 x1 x2 x3 w Ret):Cl zA 131 [(Sl.v x0),(.int .i64 x1),(.int .i64 x2),x3].toArray w (λe w'=>∃ (r0:Int) (r1:Int),e=.returned (.tuple [(.int .i64 r0),(.int .i64 r1)].toArray)/\Ret r0 r1 w'):=by
 unfold zAO at H
 refine zp 63 (zipE 0 [(Sl.v x0),(.int .i64 x1),(.int .i64 x2),x3]) Tryz.func131 rfl rfl (by rfl) rfl ?_
 intro a g
 have g:Sat [] 63 [(0,(Sl.v x0)),(1,(.int .i64 x1)),(2,(.int .i64 x2)),(3,x3)] a:=g
 refine zI (zE (g.s rfl λ_ g=>g.s rfl λ_ g=>zL (tn (zI (zE (g.m rfl λ_ g=>g.m rfl λ_ g=>g.p (zv g rfl rfl) λ_ g=>g.s rfl λ_ g=>zL (tn (zI (zE (g.o (xY) H λx11 w a H g=>zL (tn (zI (zE (g.m rfl λ_ g=>g.m rfl λ_ g=>g.o (ZS g rfl rfl) H λx20 w a H g=>g.p (zF8 g rfl rfl) λ_ g=>g.p (zr g rfl rfl) λ_ g=>g.s rfl λ_ g=>zL (tn (zI (zE (g.m rfl λ_ g=>g.m rfl λ_ g=>g.o (ZS g rfl rfl) H λx25 w a H g=>g.p (zF8 g rfl rfl) λ_ g=>g.p (zr g rfl rfl) λ_ g=>g.s rfl λ_ g=>zL (tn (zI (zE (g.m rfl λ_ g=>g.m rfl λ_ g=>g.o (ZS g rfl rfl) H λx30 w a H g=>g.p (zF8 g rfl rfl) λ_ g=>g.p (zr g rfl rfl) λ_ g=>g.s rfl λ_ g=>zL (tn (z8 (ds:=[]) (N:=63) (σ:=Int) (λs=>[(13,(.int .i64 s)),(11,(.pointer x11))]) (λs w=>yu Ret x11 s w) ?_ (λhj1=>?_)))))))))))))))))))))))))
 ·intro x13 w a H g
  try dsimp only at H g
  unfold yu at H
  refine zI (zE (g.o (zO g rfl) H λx55 w a H g=>zL (tn (zX (zI (zE (g.p (Zb g rfl rfl) λ_ g=>g.s rfl λ_ g=>zL (tn (zd g rfl (λhc=>?_) (λhc=>?_))))))))))
  ·have H:=H.1 hc
   exact zI (zE (g.m rfl λ_ g=>g.s rfl λ_ g=>g.s rfl λ_ g=>zL (tn (zl (br (ZK g rfl rfl rfl ⟨_,_,rfl,H⟩))))))
  ·have H:=H.2 hc
   refine zI (zE (g.p (Zb g rfl rfl) λ_ g=>g.s rfl λ_ g=>zL (tn (zd g rfl (λhc=>?_) (λhc=>?_)))))
   ·have H:=H.1 hc
    exact zI (zE (g.m rfl λ_ g=>g.s rfl λ_ g=>g.s rfl λ_ g=>zL (tn (zl (br (ZK g rfl rfl rfl ⟨_,_,rfl,H⟩))))))
   ·have H:=H.2 hc
    exact zI (zE (g.m rfl λ_ g=>g.s rfl λ_ g=>g.s rfl λ_ g=>zL (tn (zl (br (ZK g rfl rfl rfl ⟨_,_,rfl,H⟩))))))
 ·refine zI (zE (g.m rfl λ_ g=>g.p (Zm g rfl rfl) λ_ g=>zL (tn (zd g rfl (λhc=>?_) (λhc=>?_)))))
  ·have H:=H.1 hc
   refine z8 (ds:=[]) (N:=63) (σ:=Int × Int × Int) (λs=>[(12,(.int .i64 s.1)),(13,(.int .i64 s.2.1)),(14,(.int .i64 s.2.2)),(0,(Sl.v x0)),(3,x3),(11,(.pointer x11))]) (λs w=>yv x0 x3 Ret x11 s.1 s.2.1 s.2.2 w) ?_ (λhj2=>?_)
   ·rintro ⟨x12,x13_1,x14⟩ w a H g
    try dsimp only at H g
    unfold yv at H
    refine zE (g.m rfl λ_ g=>g.m rfl λ_ g=>g.m rfl λ_ g=>g.m rfl λ_ g=>g.m rfl λ_ g=>g.c (zb g zQ7 rfl rfl) H λe w H=>?_)
    obtain ⟨r,rfl,H⟩:=H
    exact ⟨_,rfl,λ_ g=>(g.s rfl λ_ g=>zL (tn (hj1 r _ _ H (g.k))))⟩
   ·refine zI (zE (g.m rfl λ_ g=>g.p (Zm g rfl rfl) λ_ g=>zL (tn (zd g rfl (λhc=>?_) (λhc=>?_)))))
    ·have H:=H.1 hc
     refine zI (zE (g.m rfl λ_ g=>g.m rfl λ_ g=>g.m rfl λ_ g=>g.c (zb g zNx rfl rfl) H λe w H=>?_))
     obtain ⟨r_1,rfl,H⟩:=H
     refine ⟨_,rfl,λ_ g=>(g.s rfl λ_ g=>zL (tn (zI (zE (g.m rfl λ_ g=>g.m rfl λ_ g=>g.m rfl λ_ g=>g.c (zb g zNx rfl rfl) H λe w H=>?_)))))⟩
     obtain ⟨r_2,rfl,H⟩:=H
     refine ⟨_,rfl,λ_ g=>(g.s rfl λ_ g=>zL (tn (zE (g.m rfl λ_ g=>g.m rfl λ_ g=>g.m rfl λ_ g=>g.c (zb g zNx rfl rfl) H λe w H=>?_))))⟩
     obtain ⟨r_3,rfl,H⟩:=H
     exact ⟨_,rfl,λ_ g=>(g.s rfl λ_ g=>zL (tn (hj2 (r_1,r_2,r_3) _ _ H (g.k))))⟩
    ·have H:=H.2 hc
     exact zY (tn (hj2 ((zC .i64 (x1+(zC .i64 (x20*1)))),(zC .i64 (x1+(zC .i64 (x25*2)))),(zC .i64 (x1+(zC .i64 (x30*3))))) _ _ H (g.k)))
  ·have H:=H.2 hc
   exact zY (tn (hj1 (zC .i64 (x1+(zC .i64 (x25*2)))) _ _ H (g.k)))
def QI (x8:Int) (x9:Int) (Kl1:Int->Int->World->Prop) (w:World):Prop:=
 Kl1 (zC .i64 (x8+1)) (zC .i64 (x9 - 1)) w
def Yc (x0:Sl) (Ret:World->Prop) (x8:Int) (x9:Int) (w:World) (Kl1:Int->Int->World->Prop):Prop:=
 ((x8<x9)->(yM w (λw=>opP zA zB (zF 30 (Sl.v x0) (.int .i64 x9)) (λx22=>opP zA zB (zF 30 (Sl.v x0) (.int .i64 x8)) (λx26=>(opE zA zJ.v (zD 34 (.pointer x22)) w (λx23 w=>opE zA zJ.v (zD 34 (.pointer x26)) w (λx27 w=>opP zA zB (zF 30 (Sl.v x0) (.int .i64 x8)) (λx28=>opU zA (zK 34 (.pointer x28) (zJ.v x23)) w (λw=>opP zA zB (zF 30 (Sl.v x0) (.int .i64 x9)) (λx29=>opU zA (zK 34 (.pointer x29) (zJ.v x27)) w (λw=>QI x8 x9 Kl1 w)))))))/\(opE zA zJ.v (zD 34 (.pointer x26)) w (λx27_1 w=>opE zA zJ.v (zD 34 (.pointer x22)) w (λx23_1 w=>opP zA zB (zF 30 (Sl.v x0) (.int .i64 x8)) (λx28_1=>opU zA (zK 34 (.pointer x28_1) (zJ.v x23_1)) w (λw=>opP zA zB (zF 30 (Sl.v x0) (.int .i64 x9)) (λx29_1=>opU zA (zK 34 (.pointer x29_1) (zJ.v x27_1)) w (λw=>QI x8 x9 Kl1 w))))))))))))/\(¬ (x8<x9)->(Ret w))
def Z7 (x0:Sl) (x1:Int) (x2:Int) (x3:Value) (w:World) (Ret:World->Prop):Prop:=
 ∃ (I:Int->Int->World->Prop) (μ:Int->Int->World->Nat),I x1 (zC .i64 (x2 - 1)) w/\∀ (x8:Int) (x9:Int) w,I x8 x9 w->Yc x0 Ret x8 x9 w (λx8' x9' w'=>I x8' x9' w'/\μ x8' x9' w'<μ x8 x9 w)
set_option maxRecDepth 100000 in
theorem zD6 (x0:Sl) (x1:Int) (x2:Int) (x3:Value) (w:World) (Ret:World->Prop) (H:Z7 x0 x1 x2 x3 w Ret):Cl zA 132 [(Sl.v x0),(.int .i64 x1),(.int .i64 x2),x3].toArray w (λe w'=>e=.returned (.tuple [].toArray)/\Ret w'):=by
 unfold Z7 at H
 refine zp 34 (zipE 0 [(Sl.v x0),(.int .i64 x1),(.int .i64 x2),x3]) Tryz.func132 rfl rfl (by rfl) rfl ?_
 intro a g
 have g:Sat [] 34 [(0,(Sl.v x0)),(1,(.int .i64 x1)),(2,(.int .i64 x2)),(3,x3)] a:=g
 refine zI (zE (g.m rfl λ_ g=>g.s rfl λ_ g=>zL (tn (zI (zE (g.m rfl λ_ g=>g.p (zv g rfl rfl) λ_ g=>g.s rfl λ_ g=>zL (tn (zX ?_))))))))
 obtain ⟨I_l1,μ_l1,h0,hb⟩:=H
 refine yE (ds:=[]) (N:=34) (σ:=Int × Int) (λs=>[(8,(.int .i64 s.1)),(9,(.int .i64 s.2)),(0,(Sl.v x0))]) (λs w=>I_l1 s.1 s.2 w) (λs w=>μ_l1 s.1 s.2 w) (x1,(zC .i64 (x2 - 1))) h0 (g.k) ?_
 rintro ⟨x8,x9⟩ w a hI g
 try dsimp only at hI g
 obtain ⟨Kl1,hK_l1⟩:∃ K:Int->Int->World->Prop,K=(λx8' x9' w'=>I_l1 x8' x9' w'/\μ_l1 x8' x9' w'<μ_l1 x8 x9 w):=⟨_,rfl⟩
 have H:Yc x0 Ret x8 x9 w Kl1:=by rw [hK_l1];exact hb x8 x9 w hI
 clear hb h0 hI
 unfold Yc at H
 refine zI (zI (zE (g.m rfl λ_ g=>g.m rfl λ_ g=>g.p (yR g rfl rfl) λ_ g=>zL (tn (zd g rfl (λhc=>?_) (λhc=>?_))))))
 ·have H:=H.1 hc
  refine zY (tn (zX (z8 (ds:=[]) (N:=34) (σ:=Unit) (λs=>[(0,(Sl.v x0)),(8,(.int .i64 x8)),(9,(.int .i64 x9))]) (λs w=>QI x8 x9 Kl1 w) ?_ (λhj2=>?_))))
  ·rintro ⟨⟩ w a H g
   try dsimp only at H g
   unfold QI at H
   refine zI (zE (g.m rfl λ_ g=>g.p (zr g rfl rfl) λ_ g=>g.s rfl λ_ g=>zL (tn (zE (g.m rfl λ_ g=>g.p (zv g rfl rfl) λ_ g=>g.s rfl λ_ g=>?_)))))
   rw [hK_l1] at H
   exact zL (bn (tn ⟨((zC .i64 (x8+1)),(zC .i64 (x9 - 1))),g.k,H⟩))
  ·refine zCC 16 λw hB=>?_
   replace H:=H w hB
   refine g.x 0 rfl (zR g rfl) λ_ g=>g.x 1 rfl (zR g rfl) λ_ g=>g.x 2 rfl (zR g rfl) λ_ g=>g.x 3 rfl (zR g rfl) λ_ g=>g.x 4 rfl (zR g rfl) λ_ g=>g.x 5 rfl (zR g rfl) λ_ g=>g.y 6 rfl (zH g rfl rfl) H λx22 a H g=>g.x 8 rfl (zR g rfl) λ_ g=>g.x 9 rfl (zR g rfl) λ_ g=>g.y 10 rfl (zH g rfl rfl) H λx26 a H g=>WA.tw 7 11 rfl rfl ?_ ?_
   ·have H:=H.1
    intro K hK
    exact g.i (zO g rfl) H λx23 w a H g=>hK _ _ (g.j 11 rfl (zO g rfl) H λx27 w a H g=>g.y 12 rfl (zH g rfl rfl) H λx28 a H g=>g.l 13 rfl (zT g rfl rfl) H λw a H g=>g.y 14 rfl (zH g rfl rfl) H λx29 a H g=>g.l 15 rfl (zT g rfl rfl) H λw a H g=>WA.ni ((tn (hj2 () _ _ H (g.k)))))
   ·have H:=H.2
    intro K hK
    exact g.i (zO g rfl) H λx27_1 w a H g=>hK _ _ (g.j 7 rfl (zO g rfl) H λx23_1 w a H g=>g.y 12 rfl (zH g rfl rfl) H λx28_1 a H g=>g.l 13 rfl (zT g rfl rfl) H λw a H g=>g.y 14 rfl (zH g rfl rfl) H λx29_1 a H g=>g.l 15 rfl (zT g rfl rfl) H λw a H g=>WA.ni ((tn (hj2 () _ _ H (g.k)))))
 ·have H:=H.2 hc
  exact z7 (te (te (be (zBg g rfl ⟨rfl,H⟩))))
def z9 (x10:Int) (Kl1:Int->Int->World->Prop) (x9_1:Int) (w:World):Prop:=
 Kl1 x9_1 (zC .i64 (x10+1)) w
def yc (x12:Int) (Kl7:Int->World->Prop) (w:World):Prop:=
 Kl7 (zC .i64 (x12+1)) w
def xh (x0:Sl) (x2:Int) (x3:Value) (x10:Int) (Kl1:Int->Int->World->Prop) (x9_2:Int) (x12:Int) (w:World) (Kl7:Int->World->Prop):Prop:=
 ((x12<x2)->(opB zA zB (zF 30 (Sl.v x0) (.int .i64 x12)) w (λx115=>opB zA zJ.v (zD 34 (.pointer x115)) w (λx116=>opB zA zB (zF 30 (Sl.v x0) (.int .i64 (zC .i64 (x12 - 1)))) w (λx120=>opB zA zJ.v (zD 34 (.pointer x120)) w (λx121=>∃ (r:Int),Zs zA x3 [(zJ.v x116),(zJ.v x121)] w (.int .i64 r)/\(yM w (λw=>((!(decide (r<0)))=true->(z9 x10 Kl1 x9_2 w))/\((!(decide (r<0)))=false->(yM w (λw=>opP zA zB (zF 30 (Sl.v x0) (.int .i64 (zC .i64 (x12 - 1)))) (λx133=>opP zA zB (zF 30 (Sl.v x0) (.int .i64 x12)) (λx137=>(opE zA zJ.v (zD 34 (.pointer x133)) w (λx134 w=>opE zA zJ.v (zD 34 (.pointer x137)) w (λx138 w=>opP zA zB (zF 30 (Sl.v x0) (.int .i64 x12)) (λx139=>opU zA (zK 34 (.pointer x139) (zJ.v x134)) w (λw=>opP zA zB (zF 30 (Sl.v x0) (.int .i64 (zC .i64 (x12 - 1)))) (λx140=>opU zA (zK 34 (.pointer x140) (zJ.v x138)) w (λw=>yc x12 Kl7 w)))))))/\(opE zA zJ.v (zD 34 (.pointer x137)) w (λx138_1 w=>opE zA zJ.v (zD 34 (.pointer x133)) w (λx134_1 w=>opP zA zB (zF 30 (Sl.v x0) (.int .i64 x12)) (λx139_1=>opU zA (zK 34 (.pointer x139_1) (zJ.v x134_1)) w (λw=>opP zA zB (zF 30 (Sl.v x0) (.int .i64 (zC .i64 (x12 - 1)))) (λx140_1=>opU zA (zK 34 (.pointer x140_1) (zJ.v x138_1)) w (λw=>yc x12 Kl7 w))))))))))))))))))))/\(¬ (x12<x2)->(z9 x10 Kl1 x9_2 w))
def zz (x0:Sl) (x2:Int) (x3:Value) (x10:Int) (Kl1:Int->Int->World->Prop) (x9_2:Int) (w:World):Prop:=
 ((2<=(zC .i64 (x2 - x9_2)))->(∃ (I:Int->World->Prop) (μ:Int->World->Nat),I (zC .i64 (x9_2+1)) w/\∀ (x12:Int) w,I x12 w->xh x0 x2 x3 x10 Kl1 x9_2 x12 w (λx12' w'=>I x12' w'/\μ x12' w'<μ x12 w)))/\(¬ (2<=(zC .i64 (x2 - x9_2)))->(z9 x10 Kl1 x9_2 w))
def yZ (x11:Int) (Kl9:Int->World->Prop) (w:World):Prop:=
 Kl9 (zC .i64 (x11 - 1)) w
def xn (x0:Sl) (x2:Int) (x3:Value) (x10:Int) (Kl1:Int->Int->World->Prop) (x9_2:Int) (x11:Int) (w:World) (Kl9:Int->World->Prop):Prop:=
 ((1<=x11)->(opB zA zB (zF 30 (Sl.v x0) (.int .i64 x11)) w (λx75=>opB zA zJ.v (zD 34 (.pointer x75)) w (λx76=>opB zA zB (zF 30 (Sl.v x0) (.int .i64 (zC .i64 (x11 - 1)))) w (λx80=>opB zA zJ.v (zD 34 (.pointer x80)) w (λx81=>∃ (r_1:Int),Zs zA x3 [(zJ.v x76),(zJ.v x81)] w (.int .i64 r_1)/\(yM w (λw=>((!(decide (r_1<0)))=true->(zz x0 x2 x3 x10 Kl1 x9_2 w))/\((!(decide (r_1<0)))=false->(yM w (λw=>opP zA zB (zF 30 (Sl.v x0) (.int .i64 (zC .i64 (x11 - 1)))) (λx93=>opP zA zB (zF 30 (Sl.v x0) (.int .i64 x11)) (λx97=>(opE zA zJ.v (zD 34 (.pointer x93)) w (λx94 w=>opE zA zJ.v (zD 34 (.pointer x97)) w (λx98 w=>opP zA zB (zF 30 (Sl.v x0) (.int .i64 x11)) (λx99=>opU zA (zK 34 (.pointer x99) (zJ.v x94)) w (λw=>opP zA zB (zF 30 (Sl.v x0) (.int .i64 (zC .i64 (x11 - 1)))) (λx100=>opU zA (zK 34 (.pointer x100) (zJ.v x98)) w (λw=>yZ x11 Kl9 w)))))))/\(opE zA zJ.v (zD 34 (.pointer x97)) w (λx98_1 w=>opE zA zJ.v (zD 34 (.pointer x93)) w (λx94_1 w=>opP zA zB (zF 30 (Sl.v x0) (.int .i64 x11)) (λx99_1=>opU zA (zK 34 (.pointer x99_1) (zJ.v x94_1)) w (λw=>opP zA zB (zF 30 (Sl.v x0) (.int .i64 (zC .i64 (x11 - 1)))) (λx100_1=>opU zA (zK 34 (.pointer x100_1) (zJ.v x98_1)) w (λw=>yZ x11 Kl9 w))))))))))))))))))))/\(¬ (1<=x11)->(zz x0 x2 x3 x10 Kl1 x9_2 w))
def ya (x0:Sl) (x1:Int) (x2:Int) (x3:Value) (x10:Int) (Kl1:Int->Int->World->Prop) (x9_2:Int) (w:World):Prop:=
 ((2<=(zC .i64 (x9_2 - x1)))->(∃ (I:Int->World->Prop) (μ:Int->World->Nat),I (zC .i64 (x9_2 - 1)) w/\∀ (x11:Int) w,I x11 w->xn x0 x2 x3 x10 Kl1 x9_2 x11 w (λx11' w'=>I x11' w'/\μ x11' w'<μ x11 w)))/\(¬ (2<=(zC .i64 (x9_2 - x1)))->(zz x0 x2 x3 x10 Kl1 x9_2 w))
def yb (x0:Sl) (x1:Int) (x2:Int) (x3:Value) (Ret:Bool->World->Prop) (x10:Int) (Kl1:Int->Int->World->Prop) (x9_2:Int) (Kl3:Int->World->Prop) (x36:Bool) (w:World):Prop:=
 yM w (λw=>(x36=true->(Kl3 (zC .i64 (x9_2+1)) w))/\(x36=false->(((x9_2=x2)->(Ret true w))/\(¬ (x9_2=x2)->((((zC .i64 (x2 - x1))<50)->(Ret false w))/\(¬ ((zC .i64 (x2 - x1))<50)->(yM w (λw=>opP zA zB (zF 30 (Sl.v x0) (.int .i64 (zC .i64 (x9_2 - 1)))) (λx54=>opP zA zB (zF 30 (Sl.v x0) (.int .i64 x9_2)) (λx58=>(opE zA zJ.v (zD 34 (.pointer x54)) w (λx55 w=>opE zA zJ.v (zD 34 (.pointer x58)) w (λx59 w=>opP zA zB (zF 30 (Sl.v x0) (.int .i64 x9_2)) (λx60=>opU zA (zK 34 (.pointer x60) (zJ.v x55)) w (λw=>opP zA zB (zF 30 (Sl.v x0) (.int .i64 (zC .i64 (x9_2 - 1)))) (λx61=>opU zA (zK 34 (.pointer x61) (zJ.v x59)) w (λw=>ya x0 x1 x2 x3 x10 Kl1 x9_2 w)))))))/\(opE zA zJ.v (zD 34 (.pointer x58)) w (λx59_1 w=>opE zA zJ.v (zD 34 (.pointer x54)) w (λx55_1 w=>opP zA zB (zF 30 (Sl.v x0) (.int .i64 x9_2)) (λx60_1=>opU zA (zK 34 (.pointer x60_1) (zJ.v x55_1)) w (λw=>opP zA zB (zF 30 (Sl.v x0) (.int .i64 (zC .i64 (x9_2 - 1)))) (λx61_1=>opU zA (zK 34 (.pointer x61_1) (zJ.v x59_1)) w (λw=>ya x0 x1 x2 x3 x10 Kl1 x9_2 w)))))))))))))))))
def xt (x0:Sl) (x1:Int) (x2:Int) (x3:Value) (Ret:Bool->World->Prop) (x10:Int) (Kl1:Int->Int->World->Prop) (x9_2:Int) (w:World) (Kl3:Int->World->Prop):Prop:=
 ((x9_2<x2)->(opB zA zB (zF 30 (Sl.v x0) (.int .i64 x9_2)) w (λx26=>opB zA zJ.v (zD 34 (.pointer x26)) w (λx27=>opB zA zB (zF 30 (Sl.v x0) (.int .i64 (zC .i64 (x9_2 - 1)))) w (λx31=>opB zA zJ.v (zD 34 (.pointer x31)) w (λx32=>∃ (r_2:Int),Zs zA x3 [(zJ.v x27),(zJ.v x32)] w (.int .i64 r_2)/\(yb x0 x1 x2 x3 Ret x10 Kl1 x9_2 Kl3 (!(decide (r_2<0))) w)))))))/\(¬ (x9_2<x2)->(yb x0 x1 x2 x3 Ret x10 Kl1 x9_2 Kl3 false w))
def xl (x0:Sl) (x1:Int) (x2:Int) (x3:Value) (Ret:Bool->World->Prop) (x9:Int) (x10:Int) (w:World) (Kl1:Int->Int->World->Prop):Prop:=
 ((x10<5)->(∃ (I:Int->World->Prop) (μ:Int->World->Nat),I x9 w/\∀ (x9_2:Int) w,I x9_2 w->xt x0 x1 x2 x3 Ret x10 Kl1 x9_2 w (λx9_2' w'=>I x9_2' w'/\μ x9_2' w'<μ x9_2 w)))/\(¬ (x10<5)->(Ret false w))
def ZE (x0:Sl) (x1:Int) (x2:Int) (x3:Value) (w:World) (Ret:Bool->World->Prop):Prop:=
 ∃ (I:Int->Int->World->Prop) (μ:Int->Int->World->Nat),I (zC .i64 (x1+1)) 0 w/\∀ (x9:Int) (x10:Int) w,I x9 x10 w->xl x0 x1 x2 x3 Ret x9 x10 w (λx9' x10' w'=>I x9' x10' w'/\μ x9' x10' w'<μ x9 x10 w)
set_option maxRecDepth 100000 in
theorem zCh (x0:Sl) (x1:Int) (x2:Int) (x3:Value) (w:World) (Ret:Bool->World->Prop) (H:ZE x0 x1 x2 x3 w Ret):Cl zA 133 [(Sl.v x0),(.int .i64 x1),(.int .i64 x2),x3].toArray w (λe w'=>∃ (r0:Bool),e=.returned (.bool r0)/\Ret r0 w'):=by
 unfold ZE at H
 refine zp 141 (zipE 0 [(Sl.v x0),(.int .i64 x1),(.int .i64 x2),x3]) Tryz.func133 rfl rfl (by rfl) rfl ?_
 intro a g
 have g:Sat [] 141 [(0,(Sl.v x0)),(1,(.int .i64 x1)),(2,(.int .i64 x2)),(3,x3)] a:=g
 refine zI (zE (g.s rfl λ_ g=>zL (tn (zI (zE (g.m rfl λ_ g=>g.p (zr g rfl rfl) λ_ g=>g.s rfl λ_ g=>zL (tn (zI (zI (zE (g.s rfl λ_ g=>zL (tn (zX ?_)))))))))))))
 obtain ⟨I_l1,μ_l1,h0,hb⟩:=H
 refine yE (ds:=[]) (N:=141) (σ:=Int × Int) (λs=>[(9,(.int .i64 s.1)),(10,(.int .i64 s.2)),(0,(Sl.v x0)),(1,(.int .i64 x1)),(2,(.int .i64 x2)),(3,x3)]) (λs w=>I_l1 s.1 s.2 w) (λs w=>μ_l1 s.1 s.2 w) ((zC .i64 (x1+1)),0) h0 (g.k) ?_
 rintro ⟨x9,x10⟩ w a hI g
 try dsimp only at hI g
 obtain ⟨Kl1,hK_l1⟩:∃ K:Int->Int->World->Prop,K=(λx9' x10' w'=>I_l1 x9' x10' w'/\μ_l1 x9' x10' w'<μ_l1 x9 x10 w):=⟨_,rfl⟩
 have H:xl x0 x1 x2 x3 Ret x9 x10 w Kl1:=by rw [hK_l1];exact hb x9 x10 w hI
 clear hb h0 hI
 unfold xl at H
 refine zI (zI (zE (g.m rfl λ_ g=>g.p (yR g rfl rfl) λ_ g=>zL (tn (zd g rfl (λhc=>?_) (λhc=>?_))))))
 ·have H:=H.1 hc
  refine zY (tn (z8 (ds:=[]) (N:=141) (σ:=Int) (λs=>[(9,(.int .i64 s)),(0,(Sl.v x0)),(1,(.int .i64 x1)),(2,(.int .i64 x2)),(3,x3),(10,(.int .i64 x10))]) (λs w=>z9 x10 Kl1 s w) ?_ (λhj2=>?_)))
  ·intro x9_1 w a H g
   try dsimp only at H g
   unfold z9 at H
   refine zE (g.m rfl λ_ g=>g.p (zr g rfl rfl) λ_ g=>g.s rfl λ_ g=>?_)
   rw [hK_l1] at H
   exact zL (tn ⟨(x9_1,(zC .i64 (x10+1))),g.k,H⟩)
  ·refine zX (zI (zX ?_))
   obtain ⟨I_l3,μ_l3,h0,hb⟩:=H
   refine yE (ds:=[]) (N:=141) (σ:=Int) (λs=>[(9,(.int .i64 s)),(0,(Sl.v x0)),(1,(.int .i64 x1)),(2,(.int .i64 x2)),(3,x3),(10,(.int .i64 x10))]) (λs w=>I_l3 s w) (λs w=>μ_l3 s w) x9 h0 (g.k) ?_
   intro x9_2 w a hI g
   try dsimp only at hI g
   obtain ⟨Kl3,hK_l3⟩:∃ K:Int->World->Prop,K=(λx9_2' w'=>I_l3 x9_2' w'/\μ_l3 x9_2' w'<μ_l3 x9_2 w):=⟨_,rfl⟩
   have H:xt x0 x1 x2 x3 Ret x10 Kl1 x9_2 w Kl3:=by rw [hK_l3];exact hb x9_2 w hI
   clear hb h0 hI
   unfold xt at H
   refine zI (zI (QU (by kernel_rfl) (by kernel_rfl) (g.t rfl λ_ g=>g.t rfl λ_ g=>g.r (yR g rfl rfl) λ_ g=>g.t rfl λ_ g=>WQ.join (ds:=[]) (N:=141) (σ:=Bool) (λs=>[(36,(.bool s)),(0,(Sl.v x0)),(1,(.int .i64 x1)),(2,(.int .i64 x2)),(3,x3),(9,(.int .i64 x9_2)),(10,(.int .i64 x10))]) (λs=>yb x0 x1 x2 x3 Ret x10 Kl1 x9_2 Kl3 s w) 14 ?_ (λhr4=>?_))))
   ·intro x36 a H g
    try dsimp only at H g
    unfold yb at H
    refine Qb (λw hB=>?_)
    replace H:=H w hB
    refine (tn (zk g rfl (λhc=>?_) (λhc=>?_)))
    ·have H:=H.1 hc
     refine zY (tn (zX (zE (g.m rfl λ_ g=>g.p (zr g rfl rfl) λ_ g=>g.s rfl λ_ g=>?_))))
     rw [hK_l3] at H
     exact zL (bn (tn ⟨(zC .i64 (x9_2+1)),g.k,H⟩))
    ·have H:=H.2 hc
     refine z7 (te (te (be (tn (zI (zI (zE (g.m rfl λ_ g=>g.m rfl λ_ g=>g.p (Zb g rfl rfl) λ_ g=>zL (tn (zd g rfl (λhc=>?_) (λhc=>?_)))))))))))
     ·have H:=H.1 hc
      exact zI (zE (g.s rfl λ_ g=>zL (tn (zl (tr (br (tr (tr (br (tr (zw g rfl rfl ⟨_,rfl,H⟩)))))))))))
     ·have H:=H.2 hc
      refine zY (tn (zI (zI (zE (g.m rfl λ_ g=>g.m rfl λ_ g=>g.p (zv g rfl rfl) λ_ g=>g.p (yR g rfl rfl) λ_ g=>zL (tn (zd g rfl (λhc=>?_) (λhc=>?_))))))))
      ·have H:=H.1 hc
       exact zI (zE (g.s rfl λ_ g=>zL (tn (zl (tr (br (tr (tr (br (tr (zw g rfl rfl ⟨_,rfl,H⟩)))))))))))
      ·have H:=H.2 hc
       refine zY (tn (z8 (ds:=[]) (N:=141) (σ:=Unit) (λs=>[(0,(Sl.v x0)),(1,(.int .i64 x1)),(2,(.int .i64 x2)),(3,x3),(9,(.int .i64 x9_2)),(10,(.int .i64 x10))]) (λs w=>ya x0 x1 x2 x3 x10 Kl1 x9_2 w) ?_ (λhj5=>?_)))
       ·rintro ⟨⟩ w a H g
        try dsimp only at H g
        unfold ya at H
        refine z8 (ds:=[]) (N:=141) (σ:=Unit) (λs=>[(0,(Sl.v x0)),(1,(.int .i64 x1)),(2,(.int .i64 x2)),(3,x3),(9,(.int .i64 x9_2)),(10,(.int .i64 x10))]) (λs w=>zz x0 x2 x3 x10 Kl1 x9_2 w) ?_ (λhj6=>?_)
        ·rintro ⟨⟩ w a H g
         try dsimp only at H g
         unfold zz at H
         refine zI (zE (g.m rfl λ_ g=>g.m rfl λ_ g=>g.p (zv g rfl rfl) λ_ g=>g.p (Zm g rfl rfl) λ_ g=>zL (tn (zd g rfl (λhc=>?_) (λhc=>?_)))))
         ·have H:=H.1 hc
          refine zI (zE (g.m rfl λ_ g=>g.p (zr g rfl rfl) λ_ g=>g.s rfl λ_ g=>zL (tn (zX ?_))))
          obtain ⟨I_l7,μ_l7,h0,hb⟩:=H
          refine yE (ds:=[]) (N:=141) (σ:=Int) (λs=>[(12,(.int .i64 s)),(0,(Sl.v x0)),(1,(.int .i64 x1)),(2,(.int .i64 x2)),(3,x3),(9,(.int .i64 x9_2)),(10,(.int .i64 x10))]) (λs w=>I_l7 s w) (λs w=>μ_l7 s w) (zC .i64 (x9_2+1)) h0 (g.k) ?_
          intro x12 w a hI g
          try dsimp only at hI g
          obtain ⟨Kl7,hK_l7⟩:∃ K:Int->World->Prop,K=(λx12' w'=>I_l7 x12' w'/\μ_l7 x12' w'<μ_l7 x12 w):=⟨_,rfl⟩
          have H:xh x0 x2 x3 x10 Kl1 x9_2 x12 w Kl7:=by rw [hK_l7];exact hb x12 w hI
          clear hb h0 hI
          unfold xh at H
          refine zI (zI (zE (g.m rfl λ_ g=>g.m rfl λ_ g=>g.p (yR g rfl rfl) λ_ g=>zL (tn (zd g rfl (λhc=>?_) (λhc=>?_))))))
          ·have H:=H.1 hc
           refine zY (tn (z8 (ds:=[]) (N:=141) (σ:=Unit) (λs=>[(0,(Sl.v x0)),(1,(.int .i64 x1)),(2,(.int .i64 x2)),(3,x3),(9,(.int .i64 x9_2)),(10,(.int .i64 x10)),(12,(.int .i64 x12))]) (λs w=>yc x12 Kl7 w) ?_ (λhj8=>?_)))
           ·rintro ⟨⟩ w a H g
            try dsimp only at H g
            unfold yc at H
            refine zE (g.m rfl λ_ g=>g.p (zr g rfl rfl) λ_ g=>g.s rfl λ_ g=>?_)
            rw [hK_l7] at H
            exact zL (tn ⟨(zC .i64 (x12+1)),g.k,H⟩)
           ·refine zX (zI (zI (QU (by kernel_rfl) (by kernel_rfl) (g.t rfl λ_ g=>g.t rfl λ_ g=>g.t rfl λ_ g=>g.A (zH g rfl rfl) H λx115 a H g=>g.A (zO g rfl) H λx116 a H g=>g.t rfl λ_ g=>g.t rfl λ_ g=>g.r (zv g rfl rfl) λ_ g=>g.A (zH g rfl rfl) H λx120 a H g=>g.A (zO g rfl) H λx121 a H g=>?_))))
            obtain ⟨r,hc,H⟩:=H
            refine g.qcallV rfl rfl hc λ_ g=>g.r (yR g rfl rfl) λ_ g=>g.r (zAJ g rfl) λ_ g=>Qb (λw hB=>?_)
            replace H:=H w hB
            refine (tn (zk g rfl (λhc=>?_) (λhc=>?_)))
            ·have H:=H.1 hc
             exact z7 (te (bo (te (te (be (bn (tn (hj2 x9_2 _ _ H (g.k)))))))))
            ·have H:=H.2 hc
             refine zY (tn (zCC 18 λw hB=>?_))
             replace H:=H w hB
             refine g.x 0 rfl (zR g rfl) λ_ g=>g.x 1 rfl (zR g rfl) λ_ g=>g.x 2 rfl (zR g rfl) λ_ g=>g.x 3 rfl (zR g rfl) λ_ g=>g.x 4 rfl (zv g rfl rfl) λ_ g=>g.x 5 rfl (zR g rfl) λ_ g=>g.x 6 rfl (zR g rfl) λ_ g=>g.x 7 rfl (zv g rfl rfl) λ_ g=>g.y 8 rfl (zH g rfl rfl) H λx133 a H g=>g.x 10 rfl (zR g rfl) λ_ g=>g.x 11 rfl (zR g rfl) λ_ g=>g.y 12 rfl (zH g rfl rfl) H λx137 a H g=>WA.tw 9 13 rfl rfl ?_ ?_
             ·have H:=H.1
              intro K hK
              exact g.i (zO g rfl) H λx134 w a H g=>hK _ _ (g.j 13 rfl (zO g rfl) H λx138 w a H g=>g.y 14 rfl (zH g rfl rfl) H λx139 a H g=>g.l 15 rfl (zT g rfl rfl) H λw a H g=>g.y 16 rfl (zH g rfl rfl) H λx140 a H g=>g.l 17 rfl (zT g rfl rfl) H λw a H g=>WA.ni ((bn (tn (hj8 () _ _ H (g.k))))))
             ·have H:=H.2
              intro K hK
              exact g.i (zO g rfl) H λx138_1 w a H g=>hK _ _ (g.j 9 rfl (zO g rfl) H λx134_1 w a H g=>g.y 14 rfl (zH g rfl rfl) H λx139_1 a H g=>g.l 15 rfl (zT g rfl rfl) H λw a H g=>g.y 16 rfl (zH g rfl rfl) H λx140_1 a H g=>g.l 17 rfl (zT g rfl rfl) H λw a H g=>WA.ni ((bn (tn (hj8 () _ _ H (g.k))))))
          ·have H:=H.2 hc
           exact z7 (te (te (be (bn (tn (hj2 x9_2 _ _ H (g.k)))))))
         ·have H:=H.2 hc
          exact zY (bn (tn (hj2 x9_2 _ _ H (g.k))))
        ·refine zI (zE (g.m rfl λ_ g=>g.m rfl λ_ g=>g.p (zv g rfl rfl) λ_ g=>g.p (Zm g rfl rfl) λ_ g=>zL (tn (zd g rfl (λhc=>?_) (λhc=>?_)))))
         ·have H:=H.1 hc
          refine zI (zE (g.m rfl λ_ g=>g.p (zv g rfl rfl) λ_ g=>g.s rfl λ_ g=>zL (tn (zX ?_))))
          obtain ⟨I_l9,μ_l9,h0,hb⟩:=H
          refine yE (ds:=[]) (N:=141) (σ:=Int) (λs=>[(11,(.int .i64 s)),(0,(Sl.v x0)),(1,(.int .i64 x1)),(2,(.int .i64 x2)),(3,x3),(9,(.int .i64 x9_2)),(10,(.int .i64 x10))]) (λs w=>I_l9 s w) (λs w=>μ_l9 s w) (zC .i64 (x9_2 - 1)) h0 (g.k) ?_
          intro x11 w a hI g
          try dsimp only at hI g
          obtain ⟨Kl9,hK_l9⟩:∃ K:Int->World->Prop,K=(λx11' w'=>I_l9 x11' w'/\μ_l9 x11' w'<μ_l9 x11 w):=⟨_,rfl⟩
          have H:xn x0 x2 x3 x10 Kl1 x9_2 x11 w Kl9:=by rw [hK_l9];exact hb x11 w hI
          clear hb h0 hI
          unfold xn at H
          refine zI (zI (zE (g.m rfl λ_ g=>g.p (Zm g rfl rfl) λ_ g=>zL (tn (zd g rfl (λhc=>?_) (λhc=>?_))))))
          ·have H:=H.1 hc
           refine zY (tn (z8 (ds:=[]) (N:=141) (σ:=Unit) (λs=>[(0,(Sl.v x0)),(1,(.int .i64 x1)),(2,(.int .i64 x2)),(3,x3),(9,(.int .i64 x9_2)),(10,(.int .i64 x10)),(11,(.int .i64 x11))]) (λs w=>yZ x11 Kl9 w) ?_ (λhj10=>?_)))
           ·rintro ⟨⟩ w a H g
            try dsimp only at H g
            unfold yZ at H
            refine zE (g.m rfl λ_ g=>g.p (zv g rfl rfl) λ_ g=>g.s rfl λ_ g=>?_)
            rw [hK_l9] at H
            exact zL (tn ⟨(zC .i64 (x11 - 1)),g.k,H⟩)
           ·refine zX (zI (zI (QU (by kernel_rfl) (by kernel_rfl) (g.t rfl λ_ g=>g.t rfl λ_ g=>g.t rfl λ_ g=>g.A (zH g rfl rfl) H λx75 a H g=>g.A (zO g rfl) H λx76 a H g=>g.t rfl λ_ g=>g.t rfl λ_ g=>g.r (zv g rfl rfl) λ_ g=>g.A (zH g rfl rfl) H λx80 a H g=>g.A (zO g rfl) H λx81 a H g=>?_))))
            obtain ⟨r_1,hc,H⟩:=H
            refine g.qcallV rfl rfl hc λ_ g=>g.r (yR g rfl rfl) λ_ g=>g.r (zAJ g rfl) λ_ g=>Qb (λw hB=>?_)
            replace H:=H w hB
            refine (tn (zk g rfl (λhc=>?_) (λhc=>?_)))
            ·have H:=H.1 hc
             exact z7 (te (bo (te (te (be (tn (hj6 () _ _ H (g.k))))))))
            ·have H:=H.2 hc
             refine zY (tn (zCC 18 λw hB=>?_))
             replace H:=H w hB
             refine g.x 0 rfl (zR g rfl) λ_ g=>g.x 1 rfl (zR g rfl) λ_ g=>g.x 2 rfl (zR g rfl) λ_ g=>g.x 3 rfl (zR g rfl) λ_ g=>g.x 4 rfl (zv g rfl rfl) λ_ g=>g.x 5 rfl (zR g rfl) λ_ g=>g.x 6 rfl (zR g rfl) λ_ g=>g.x 7 rfl (zv g rfl rfl) λ_ g=>g.y 8 rfl (zH g rfl rfl) H λx93 a H g=>g.x 10 rfl (zR g rfl) λ_ g=>g.x 11 rfl (zR g rfl) λ_ g=>g.y 12 rfl (zH g rfl rfl) H λx97 a H g=>WA.tw 9 13 rfl rfl ?_ ?_
             ·have H:=H.1
              intro K hK
              exact g.i (zO g rfl) H λx94 w a H g=>hK _ _ (g.j 13 rfl (zO g rfl) H λx98 w a H g=>g.y 14 rfl (zH g rfl rfl) H λx99 a H g=>g.l 15 rfl (zT g rfl rfl) H λw a H g=>g.y 16 rfl (zH g rfl rfl) H λx100 a H g=>g.l 17 rfl (zT g rfl rfl) H λw a H g=>WA.ni ((bn (tn (hj10 () _ _ H (g.k))))))
             ·have H:=H.2
              intro K hK
              exact g.i (zO g rfl) H λx98_1 w a H g=>hK _ _ (g.j 9 rfl (zO g rfl) H λx94_1 w a H g=>g.y 14 rfl (zH g rfl rfl) H λx99_1 a H g=>g.l 15 rfl (zT g rfl rfl) H λw a H g=>g.y 16 rfl (zH g rfl rfl) H λx100_1 a H g=>g.l 17 rfl (zT g rfl rfl) H λw a H g=>WA.ni ((bn (tn (hj10 () _ _ H (g.k))))))
          ·have H:=H.2 hc
           exact z7 (te (te (be (tn (hj6 () _ _ H (g.k))))))
         ·have H:=H.2 hc
          exact zY (tn (hj6 () _ _ H (g.k)))
       ·refine zCC 18 λw hB=>?_
        replace H:=H w hB
        refine g.x 0 rfl (zR g rfl) λ_ g=>g.x 1 rfl (zR g rfl) λ_ g=>g.x 2 rfl (zR g rfl) λ_ g=>g.x 3 rfl (zR g rfl) λ_ g=>g.x 4 rfl (zv g rfl rfl) λ_ g=>g.x 5 rfl (zR g rfl) λ_ g=>g.x 6 rfl (zR g rfl) λ_ g=>g.x 7 rfl (zv g rfl rfl) λ_ g=>g.y 8 rfl (zH g rfl rfl) H λx54 a H g=>g.x 10 rfl (zR g rfl) λ_ g=>g.x 11 rfl (zR g rfl) λ_ g=>g.y 12 rfl (zH g rfl rfl) H λx58 a H g=>WA.tw 9 13 rfl rfl ?_ ?_
        ·have H:=H.1
         intro K hK
         exact g.i (zO g rfl) H λx55 w a H g=>hK _ _ (g.j 13 rfl (zO g rfl) H λx59 w a H g=>g.y 14 rfl (zH g rfl rfl) H λx60 a H g=>g.l 15 rfl (zT g rfl rfl) H λw a H g=>g.y 16 rfl (zH g rfl rfl) H λx61 a H g=>g.l 17 rfl (zT g rfl rfl) H λw a H g=>WA.ni ((tn (hj5 () _ _ H (g.k)))))
        ·have H:=H.2
         intro K hK
         exact g.i (zO g rfl) H λx59_1 w a H g=>hK _ _ (g.j 9 rfl (zO g rfl) H λx55_1 w a H g=>g.y 14 rfl (zH g rfl rfl) H λx60_1 a H g=>g.l 15 rfl (zT g rfl rfl) H λw a H g=>g.y 16 rfl (zH g rfl rfl) H λx61_1 a H g=>g.l 17 rfl (zT g rfl rfl) H λw a H g=>WA.ni ((tn (hj5 () _ _ H (g.k)))))
   ·rcases Classical.em ((x9_2<x2)) with hbr4|hbr4
    ·have H:=H.1 hbr4
     have g:=g.b (b:=true) (t:=22) rfl (decide_eq_true hbr4)
     refine g.e (g.t rfl λ_ g=>g.e (g.t rfl λ_ g=>g.e (g.t rfl λ_ g=>g.e (g.A (zH g rfl rfl) H λx26 a H g=>g.e (g.A (zO g rfl) H λx27 a H g=>g.e (g.t rfl λ_ g=>g.e (g.t rfl λ_ g=>g.e (g.r (zv g rfl rfl) λ_ g=>g.e (g.A (zH g rfl rfl) H λx31 a H g=>g.e (g.A (zO g rfl) H λx32 a H g=>g.e ?_))))))))))
     obtain ⟨r_2,hc,H⟩:=H
     exact g.qcallV rfl rfl hc λ_ g=>g.e (g.r (yR g rfl rfl) λ_ g=>g.e (g.r (zAJ g rfl) λ_ g=>g.r (zx g rfl rfl) λ_ g=>hr4 (!(decide (r_2<0))) _ H (g.k)))
    ·have H:=H.2 hbr4
     have g:=g.b (b:=false) (t:=22) rfl (decide_eq_false hbr4)
     exact g.g (λ_ g=>g.g (λ_ g=>g.g (λ_ g=>g.g (λ_ g=>g.g (λ_ g=>g.g (λ_ g=>g.g (λ_ g=>g.g (λ_ g=>g.g (λ_ g=>g.g (λ_ g=>g.g (λ_ g=>g.g (λ_ g=>g.g (λ_ g=>g.r (zy g rfl rfl) λ_ g=>hr4 false _ H (g.k))))))))))))))
 ·have H:=H.2 hc
  exact z7 (te (te (be (tn (zI (zE (g.s rfl λ_ g=>zL (tn (zl (zw g rfl rfl ⟨_,rfl,H⟩))))))))))
def xR (Kl2:Int->Int->World->Prop) (x11_1:Int) (x12_1:Int) (w:World):Prop:=
 Kl2 (zC .i64 (x11_1+1)) (zC .i64 (x12_1 - 1)) w
def xW (x0:Sl) (Ret:Int->World->Prop) (Kl2:Int->Int->World->Prop) (x11_1:Int) (x12_1:Int) (Kl5:Int->World->Prop) (x65:Bool) (w:World):Prop:=
 yM w (λw=>(x65=true->(Kl5 (zC .i64 (x12_1 - 1)) w))/\(x65=false->(((x12_1<x11_1)->(Ret x11_1 w))/\(¬ (x12_1<x11_1)->(yM w (λw=>opP zA zB (zF 30 (Sl.v x0) (.int .i64 x12_1)) (λx77=>opP zA zB (zF 30 (Sl.v x0) (.int .i64 x11_1)) (λx81=>(opE zA zJ.v (zD 34 (.pointer x77)) w (λx78 w=>opE zA zJ.v (zD 34 (.pointer x81)) w (λx82 w=>opP zA zB (zF 30 (Sl.v x0) (.int .i64 x11_1)) (λx83=>opU zA (zK 34 (.pointer x83) (zJ.v x78)) w (λw=>opP zA zB (zF 30 (Sl.v x0) (.int .i64 x12_1)) (λx84=>opU zA (zK 34 (.pointer x84) (zJ.v x82)) w (λw=>xR Kl2 x11_1 x12_1 w)))))))/\(opE zA zJ.v (zD 34 (.pointer x81)) w (λx82_1 w=>opE zA zJ.v (zD 34 (.pointer x77)) w (λx78_1 w=>opP zA zB (zF 30 (Sl.v x0) (.int .i64 x11_1)) (λx83_1=>opU zA (zK 34 (.pointer x83_1) (zJ.v x78_1)) w (λw=>opP zA zB (zF 30 (Sl.v x0) (.int .i64 x12_1)) (λx84_1=>opU zA (zK 34 (.pointer x84_1) (zJ.v x82_1)) w (λw=>xR Kl2 x11_1 x12_1 w)))))))))))))))
def YJ (x0:Sl) (x1:Int) (x4:Value) (Ret:Int->World->Prop) (Kl2:Int->Int->World->Prop) (x11_1:Int) (x12_1:Int) (w:World) (Kl5:Int->World->Prop):Prop:=
 ((x11_1<=x12_1)->(opB zA zB (zF 30 (Sl.v x0) (.int .i64 x1)) w (λx57=>opB zA zJ.v (zD 34 (.pointer x57)) w (λx58=>opB zA zB (zF 30 (Sl.v x0) (.int .i64 x12_1)) w (λx61=>opB zA zJ.v (zD 34 (.pointer x61)) w (λx62=>∃ (r:Int),Zs zA x4 [(zJ.v x58),(zJ.v x62)] w (.int .i64 r)/\(xW x0 Ret Kl2 x11_1 x12_1 Kl5 (decide (r<0)) w)))))))/\(¬ (x11_1<=x12_1)->(xW x0 Ret Kl2 x11_1 x12_1 Kl5 false w))
def xU (x0:Sl) (x1:Int) (x4:Value) (Ret:Int->World->Prop) (x12:Int) (Kl2:Int->Int->World->Prop) (x11_1:Int) (Kl3:Int->World->Prop) (x47:Bool) (w:World):Prop:=
 yM w (λw=>(x47=true->(Kl3 (zC .i64 (x11_1+1)) w))/\(x47=false->(∃ (I:Int->World->Prop) (μ:Int->World->Nat),I x12 w/\∀ (x12_1:Int) w,I x12_1 w->YJ x0 x1 x4 Ret Kl2 x11_1 x12_1 w (λx12_1' w'=>I x12_1' w'/\μ x12_1' w'<μ x12_1 w))))
def YB (x0:Sl) (x1:Int) (x4:Value) (Ret:Int->World->Prop) (x12:Int) (Kl2:Int->Int->World->Prop) (x11_1:Int) (w:World) (Kl3:Int->World->Prop):Prop:=
 ((x11_1<=x12)->(opB zA zB (zF 30 (Sl.v x0) (.int .i64 x1)) w (λx38=>opB zA zJ.v (zD 34 (.pointer x38)) w (λx39=>opB zA zB (zF 30 (Sl.v x0) (.int .i64 x11_1)) w (λx42=>opB zA zJ.v (zD 34 (.pointer x42)) w (λx43=>∃ (r_1:Int),Zs zA x4 [(zJ.v x39),(zJ.v x43)] w (.int .i64 r_1)/\(xU x0 x1 x4 Ret x12 Kl2 x11_1 Kl3 (!(decide (r_1<0))) w)))))))/\(¬ (x11_1<=x12)->(xU x0 x1 x4 Ret x12 Kl2 x11_1 Kl3 false w))
def Q8 (x0:Sl) (x1:Int) (x4:Value) (Ret:Int->World->Prop) (x11:Int) (x12:Int) (w:World) (Kl2:Int->Int->World->Prop):Prop:=
 ∃ (I:Int->World->Prop) (μ:Int->World->Nat),I x11 w/\∀ (x11_1:Int) w,I x11_1 w->YB x0 x1 x4 Ret x12 Kl2 x11_1 w (λx11_1' w'=>I x11_1' w'/\μ x11_1' w'<μ x11_1 w)
def xV (x0:Sl) (x1:Int) (x2:Int) (x4:Value) (Ret:Int->World->Prop) (w:World):Prop:=
 ∃ (I:Int->Int->World->Prop) (μ:Int->Int->World->Nat),I (zC .i64 (x1+1)) (zC .i64 (x2 - 1)) w/\∀ (x11:Int) (x12:Int) w,I x11 x12 w->Q8 x0 x1 x4 Ret x11 x12 w (λx11' x12' w'=>I x11' x12' w'/\μ x11' x12' w'<μ x11 x12 w)
def Zq (x0:Sl) (x1:Int) (x2:Int) (x3:Int) (x4:Value) (w:World) (Ret:Int->World->Prop):Prop:=
 yM w (λw=>opP zA zB (zF 30 (Sl.v x0) (.int .i64 x3)) (λx19=>opP zA zB (zF 30 (Sl.v x0) (.int .i64 x1)) (λx23=>(opE zA zJ.v (zD 34 (.pointer x19)) w (λx20 w=>opE zA zJ.v (zD 34 (.pointer x23)) w (λx24 w=>opP zA zB (zF 30 (Sl.v x0) (.int .i64 x1)) (λx25=>opU zA (zK 34 (.pointer x25) (zJ.v x20)) w (λw=>opP zA zB (zF 30 (Sl.v x0) (.int .i64 x3)) (λx26=>opU zA (zK 34 (.pointer x26) (zJ.v x24)) w (λw=>xV x0 x1 x2 x4 Ret w)))))))/\(opE zA zJ.v (zD 34 (.pointer x23)) w (λx24_1 w=>opE zA zJ.v (zD 34 (.pointer x19)) w (λx20_1 w=>opP zA zB (zF 30 (Sl.v x0) (.int .i64 x1)) (λx25_1=>opU zA (zK 34 (.pointer x25_1) (zJ.v x20_1)) w (λw=>opP zA zB (zF 30 (Sl.v x0) (.int .i64 x3)) (λx26_1=>opU zA (zK 34 (.pointer x26_1) (zJ.v x24_1)) w (λw=>xV x0 x1 x2 x4 Ret w))))))))))
set_option maxRecDepth 100000 in
theorem zDO (x0:Sl) (x1:Int) (x2:Int) (x3:Int) (x4:Value) (w:World) (Ret:Int->World->Prop) (H:Zq x0 x1 x2 x3 x4 w Ret):Cl zA 134 [(Sl.v x0),(.int .i64 x1),(.int .i64 x2),(.int .i64 x3),x4].toArray w (λe w'=>∃ (r0:Int),e=.returned (.int .i64 r0)/\Ret r0 w'):=by
 unfold Zq at H
 refine zp 90 (zipE 0 [(Sl.v x0),(.int .i64 x1),(.int .i64 x2),(.int .i64 x3),x4]) Tryz.func134 rfl rfl (by rfl) rfl ?_
 intro a g
 have g:Sat [] 90 [(0,(Sl.v x0)),(1,(.int .i64 x1)),(2,(.int .i64 x2)),(3,(.int .i64 x3)),(4,x4)] a:=g
 refine zI (zE (g.s rfl λ_ g=>zL (tn (z8 (ds:=[]) (N:=90) (σ:=Unit) (λs=>[(0,(Sl.v x0)),(1,(.int .i64 x1)),(2,(.int .i64 x2)),(4,x4)]) (λs w=>xV x0 x1 x2 x4 Ret w) ?_ (λhj1=>?_)))))
 ·rintro ⟨⟩ w a H g
  try dsimp only at H g
  unfold xV at H
  refine zI (zE (g.m rfl λ_ g=>g.p (zr g rfl rfl) λ_ g=>g.m rfl λ_ g=>g.p (zv g rfl rfl) λ_ g=>g.s rfl λ_ g=>g.s rfl λ_ g=>zL (tn (zI (zX ?_)))))
  obtain ⟨I_l2,μ_l2,h0,hb⟩:=H
  refine yE (ds:=[]) (N:=90) (σ:=Int × Int) (λs=>[(11,(.int .i64 s.1)),(12,(.int .i64 s.2)),(0,(Sl.v x0)),(1,(.int .i64 x1)),(4,x4)]) (λs w=>I_l2 s.1 s.2 w) (λs w=>μ_l2 s.1 s.2 w) ((zC .i64 (x1+1)),(zC .i64 (x2 - 1))) h0 (g.k) ?_
  rintro ⟨x11,x12⟩ w a hI g
  try dsimp only at hI g
  obtain ⟨Kl2,hK_l2⟩:∃ K:Int->Int->World->Prop,K=(λx11' x12' w'=>I_l2 x11' x12' w'/\μ_l2 x11' x12' w'<μ_l2 x11 x12 w):=⟨_,rfl⟩
  have H:Q8 x0 x1 x4 Ret x11 x12 w Kl2:=by rw [hK_l2];exact hb x11 x12 w hI
  clear hb h0 hI
  unfold Q8 at H
  refine zX (zI (zX ?_))
  obtain ⟨I_l3,μ_l3,h0,hb⟩:=H
  refine yE (ds:=[]) (N:=90) (σ:=Int) (λs=>[(11,(.int .i64 s)),(0,(Sl.v x0)),(1,(.int .i64 x1)),(4,x4),(12,(.int .i64 x12))]) (λs w=>I_l3 s w) (λs w=>μ_l3 s w) x11 h0 (g.k) ?_
  intro x11_1 w a hI g
  try dsimp only at hI g
  obtain ⟨Kl3,hK_l3⟩:∃ K:Int->World->Prop,K=(λx11_1' w'=>I_l3 x11_1' w'/\μ_l3 x11_1' w'<μ_l3 x11_1 w):=⟨_,rfl⟩
  have H:YB x0 x1 x4 Ret x12 Kl2 x11_1 w Kl3:=by rw [hK_l3];exact hb x11_1 w hI
  clear hb h0 hI
  unfold YB at H
  refine zI (zI (QU (by kernel_rfl) (by kernel_rfl) (g.t rfl λ_ g=>g.t rfl λ_ g=>g.r (zCw g rfl rfl) λ_ g=>g.t rfl λ_ g=>WQ.join (ds:=[]) (N:=90) (σ:=Bool) (λs=>[(47,(.bool s)),(0,(Sl.v x0)),(1,(.int .i64 x1)),(4,x4),(11,(.int .i64 x11_1)),(12,(.int .i64 x12))]) (λs=>xU x0 x1 x4 Ret x12 Kl2 x11_1 Kl3 s w) 13 ?_ (λhr4=>?_))))
  ·intro x47 a H g
   try dsimp only at H g
   unfold xU at H
   refine Qb (λw hB=>?_)
   replace H:=H w hB
   refine (tn (zk g rfl (λhc=>?_) (λhc=>?_)))
   ·have H:=H.1 hc
    refine zY (tn (zX (zE (g.m rfl λ_ g=>g.p (zr g rfl rfl) λ_ g=>g.s rfl λ_ g=>?_))))
    rw [hK_l3] at H
    exact zL (bn (tn ⟨(zC .i64 (x11_1+1)),g.k,H⟩))
   ·have H:=H.2 hc
    refine z7 (te (te (be (tn (zI (zX ?_))))))
    obtain ⟨I_l5,μ_l5,h0,hb⟩:=H
    refine yE (ds:=[]) (N:=90) (σ:=Int) (λs=>[(12,(.int .i64 s)),(0,(Sl.v x0)),(1,(.int .i64 x1)),(4,x4),(11,(.int .i64 x11_1))]) (λs w=>I_l5 s w) (λs w=>μ_l5 s w) x12 h0 (g.k) ?_
    intro x12_1 w a hI g
    try dsimp only at hI g
    obtain ⟨Kl5,hK_l5⟩:∃ K:Int->World->Prop,K=(λx12_1' w'=>I_l5 x12_1' w'/\μ_l5 x12_1' w'<μ_l5 x12_1 w):=⟨_,rfl⟩
    have H:YJ x0 x1 x4 Ret Kl2 x11_1 x12_1 w Kl5:=by rw [hK_l5];exact hb x12_1 w hI
    clear hb h0 hI
    unfold YJ at H
    refine zI (zI (QU (by kernel_rfl) (by kernel_rfl) (g.t rfl λ_ g=>g.t rfl λ_ g=>g.r (zCw g rfl rfl) λ_ g=>g.t rfl λ_ g=>WQ.join (ds:=[]) (N:=90) (σ:=Bool) (λs=>[(65,(.bool s)),(0,(Sl.v x0)),(1,(.int .i64 x1)),(4,x4),(11,(.int .i64 x11_1)),(12,(.int .i64 x12_1))]) (λs=>xW x0 Ret Kl2 x11_1 x12_1 Kl5 s w) 12 ?_ (λhr6=>?_))))
    ·intro x65 a H g
     try dsimp only at H g
     unfold xW at H
     refine Qb (λw hB=>?_)
     replace H:=H w hB
     refine (tn (zk g rfl (λhc=>?_) (λhc=>?_)))
     ·have H:=H.1 hc
      refine zY (tn (zX (zE (g.m rfl λ_ g=>g.p (zv g rfl rfl) λ_ g=>g.s rfl λ_ g=>?_))))
      rw [hK_l5] at H
      exact zL (bn (tn ⟨(zC .i64 (x12_1 - 1)),g.k,H⟩))
     ·have H:=H.2 hc
      refine z7 (te (te (be (tn (zI (zI (zE (g.m rfl λ_ g=>g.m rfl λ_ g=>g.p (zBx g rfl rfl) λ_ g=>zL (tn (zd g rfl (λhc=>?_) (λhc=>?_)))))))))))
      ·have H:=H.1 hc
       exact z7 (te (bo (te (be (tn (zI (zE (g.m rfl λ_ g=>g.s rfl λ_ g=>zL (tn (zl (zw g rfl rfl ⟨_,rfl,H⟩)))))))))))
      ·have H:=H.2 hc
       refine zY (tn (z8 (ds:=[]) (N:=90) (σ:=Unit) (λs=>[(0,(Sl.v x0)),(1,(.int .i64 x1)),(4,x4),(11,(.int .i64 x11_1)),(12,(.int .i64 x12_1))]) (λs w=>xR Kl2 x11_1 x12_1 w) ?_ (λhj7=>?_)))
       ·rintro ⟨⟩ w a H g
        try dsimp only at H g
        unfold xR at H
        refine zI (zE (g.m rfl λ_ g=>g.p (zr g rfl rfl) λ_ g=>g.s rfl λ_ g=>zL (tn (zE (g.m rfl λ_ g=>g.p (zv g rfl rfl) λ_ g=>g.s rfl λ_ g=>?_)))))
        rw [hK_l2] at H
        exact zL (bn (tn ⟨((zC .i64 (x11_1+1)),(zC .i64 (x12_1 - 1))),g.k,H⟩))
       ·refine zCC 16 λw hB=>?_
        replace H:=H w hB
        refine g.x 0 rfl (zR g rfl) λ_ g=>g.x 1 rfl (zR g rfl) λ_ g=>g.x 2 rfl (zR g rfl) λ_ g=>g.x 3 rfl (zR g rfl) λ_ g=>g.x 4 rfl (zR g rfl) λ_ g=>g.x 5 rfl (zR g rfl) λ_ g=>g.y 6 rfl (zH g rfl rfl) H λx77 a H g=>g.x 8 rfl (zR g rfl) λ_ g=>g.x 9 rfl (zR g rfl) λ_ g=>g.y 10 rfl (zH g rfl rfl) H λx81 a H g=>WA.tw 7 11 rfl rfl ?_ ?_
        ·have H:=H.1
         intro K hK
         exact g.i (zO g rfl) H λx78 w a H g=>hK _ _ (g.j 11 rfl (zO g rfl) H λx82 w a H g=>g.y 12 rfl (zH g rfl rfl) H λx83 a H g=>g.l 13 rfl (zT g rfl rfl) H λw a H g=>g.y 14 rfl (zH g rfl rfl) H λx84 a H g=>g.l 15 rfl (zT g rfl rfl) H λw a H g=>WA.ni ((tn (hj7 () _ _ H (g.k)))))
        ·have H:=H.2
         intro K hK
         exact g.i (zO g rfl) H λx82_1 w a H g=>hK _ _ (g.j 7 rfl (zO g rfl) H λx78_1 w a H g=>g.y 12 rfl (zH g rfl rfl) H λx83_1 a H g=>g.l 13 rfl (zT g rfl rfl) H λw a H g=>g.y 14 rfl (zH g rfl rfl) H λx84_1 a H g=>g.l 15 rfl (zT g rfl rfl) H λw a H g=>WA.ni ((tn (hj7 () _ _ H (g.k)))))
    ·rcases Classical.em ((x11_1<=x12_1)) with hbr6|hbr6
     ·have H:=H.1 hbr6
      have g:=g.b (b:=true) (t:=53) rfl (decide_eq_true hbr6)
      refine g.e (g.t rfl λ_ g=>g.e (g.t rfl λ_ g=>g.e (g.t rfl λ_ g=>g.e (g.A (zH g rfl rfl) H λx57 a H g=>g.e (g.A (zO g rfl) H λx58 a H g=>g.e (g.t rfl λ_ g=>g.e (g.t rfl λ_ g=>g.e (g.A (zH g rfl rfl) H λx61 a H g=>g.e (g.A (zO g rfl) H λx62 a H g=>g.e ?_)))))))))
      obtain ⟨r,hc,H⟩:=H
      exact g.qcallV rfl rfl hc λ_ g=>g.e (g.r (yR g rfl rfl) λ_ g=>g.r (zx g rfl rfl) λ_ g=>hr6 (decide (r<0)) _ H (g.k))
     ·have H:=H.2 hbr6
      have g:=g.b (b:=false) (t:=53) rfl (decide_eq_false hbr6)
      exact g.g (λ_ g=>g.g (λ_ g=>g.g (λ_ g=>g.g (λ_ g=>g.g (λ_ g=>g.g (λ_ g=>g.g (λ_ g=>g.g (λ_ g=>g.g (λ_ g=>g.g (λ_ g=>g.g (λ_ g=>g.r (zy g rfl rfl) λ_ g=>hr6 false _ H (g.k))))))))))))
  ·rcases Classical.em ((x11_1<=x12)) with hbr4|hbr4
   ·have H:=H.1 hbr4
    have g:=g.b (b:=true) (t:=34) rfl (decide_eq_true hbr4)
    refine g.e (g.t rfl λ_ g=>g.e (g.t rfl λ_ g=>g.e (g.t rfl λ_ g=>g.e (g.A (zH g rfl rfl) H λx38 a H g=>g.e (g.A (zO g rfl) H λx39 a H g=>g.e (g.t rfl λ_ g=>g.e (g.t rfl λ_ g=>g.e (g.A (zH g rfl rfl) H λx42 a H g=>g.e (g.A (zO g rfl) H λx43 a H g=>g.e ?_)))))))))
    obtain ⟨r_1,hc,H⟩:=H
    exact g.qcallV rfl rfl hc λ_ g=>g.e (g.r (yR g rfl rfl) λ_ g=>g.e (g.r (zAJ g rfl) λ_ g=>g.r (zx g rfl rfl) λ_ g=>hr4 (!(decide (r_1<0))) _ H (g.k)))
   ·have H:=H.2 hbr4
    have g:=g.b (b:=false) (t:=34) rfl (decide_eq_false hbr4)
    exact g.g (λ_ g=>g.g (λ_ g=>g.g (λ_ g=>g.g (λ_ g=>g.g (λ_ g=>g.g (λ_ g=>g.g (λ_ g=>g.g (λ_ g=>g.g (λ_ g=>g.g (λ_ g=>g.g (λ_ g=>g.g (λ_ g=>g.r (zy g rfl rfl) λ_ g=>hr4 false _ H (g.k)))))))))))))
 ·refine zCC 16 λw hB=>?_
  replace H:=H w hB
  refine g.x 0 rfl (zR g rfl) λ_ g=>g.x 1 rfl (zR g rfl) λ_ g=>g.x 2 rfl (zR g rfl) λ_ g=>g.x 3 rfl (zR g rfl) λ_ g=>g.x 4 rfl (zR g rfl) λ_ g=>g.x 5 rfl (zR g rfl) λ_ g=>g.y 6 rfl (zH g rfl rfl) H λx19 a H g=>g.x 8 rfl (zR g rfl) λ_ g=>g.x 9 rfl (zR g rfl) λ_ g=>g.y 10 rfl (zH g rfl rfl) H λx23 a H g=>WA.tw 7 11 rfl rfl ?_ ?_
  ·have H:=H.1
   intro K hK
   exact g.i (zO g rfl) H λx20 w a H g=>hK _ _ (g.j 11 rfl (zO g rfl) H λx24 w a H g=>g.y 12 rfl (zH g rfl rfl) H λx25 a H g=>g.l 13 rfl (zT g rfl rfl) H λw a H g=>g.y 14 rfl (zH g rfl rfl) H λx26 a H g=>g.l 15 rfl (zT g rfl rfl) H λw a H g=>WA.ni ((tn (hj1 () _ _ H (g.k)))))
  ·have H:=H.2
   intro K hK
   exact g.i (zO g rfl) H λx24_1 w a H g=>hK _ _ (g.j 7 rfl (zO g rfl) H λx20_1 w a H g=>g.y 12 rfl (zH g rfl rfl) H λx25_1 a H g=>g.l 13 rfl (zT g rfl rfl) H λw a H g=>g.y 14 rfl (zH g rfl rfl) H λx26_1 a H g=>g.l 15 rfl (zT g rfl rfl) H λw a H g=>WA.ni ((tn (hj1 () _ _ H (g.k)))))
def Q0 (Ret:Int->Bool->World->Prop) (x13:Int) (w:World):Prop:=
 Ret x13 true w
def Qd (Ret:Int->Bool->World->Prop) (x13_2:Int) (w:World):Prop:=
 Ret x13_2 false w
def Qj (Kl8:Int->Int->World->Prop) (x12_2:Int) (x13_2:Int) (w:World):Prop:=
 Kl8 (zC .i64 (x12_2+1)) (zC .i64 (x13_2 - 1)) w
def Qf (x0:Sl) (x1:Int) (Ret:Int->Bool->World->Prop) (Kl8:Int->Int->World->Prop) (x12_2:Int) (x13_2:Int) (Kl11:Int->World->Prop) (x139:Bool) (w:World):Prop:=
 yM w (λw=>(x139=true->(Kl11 (zC .i64 (x13_2 - 1)) w))/\(x139=false->(((x13_2<x12_2)->(yM w (λw=>opP zA zB (zF 30 (Sl.v x0) (.int .i64 x1)) (λx169=>opP zA zB (zF 30 (Sl.v x0) (.int .i64 x13_2)) (λx173=>(opE zA zJ.v (zD 34 (.pointer x169)) w (λx170 w=>opE zA zJ.v (zD 34 (.pointer x173)) w (λx174 w=>opP zA zB (zF 30 (Sl.v x0) (.int .i64 x13_2)) (λx175=>opU zA (zK 34 (.pointer x175) (zJ.v x170)) w (λw=>opP zA zB (zF 30 (Sl.v x0) (.int .i64 x1)) (λx176=>opU zA (zK 34 (.pointer x176) (zJ.v x174)) w (λw=>Qd Ret x13_2 w)))))))/\(opE zA zJ.v (zD 34 (.pointer x173)) w (λx174_1 w=>opE zA zJ.v (zD 34 (.pointer x169)) w (λx170_1 w=>opP zA zB (zF 30 (Sl.v x0) (.int .i64 x13_2)) (λx175_1=>opU zA (zK 34 (.pointer x175_1) (zJ.v x170_1)) w (λw=>opP zA zB (zF 30 (Sl.v x0) (.int .i64 x1)) (λx176_1=>opU zA (zK 34 (.pointer x176_1) (zJ.v x174_1)) w (λw=>Qd Ret x13_2 w))))))))))))/\(¬ (x13_2<x12_2)->(yM w (λw=>opP zA zB (zF 30 (Sl.v x0) (.int .i64 x13_2)) (λx151=>opP zA zB (zF 30 (Sl.v x0) (.int .i64 x12_2)) (λx155=>(opE zA zJ.v (zD 34 (.pointer x151)) w (λx152 w=>opE zA zJ.v (zD 34 (.pointer x155)) w (λx156 w=>opP zA zB (zF 30 (Sl.v x0) (.int .i64 x12_2)) (λx157=>opU zA (zK 34 (.pointer x157) (zJ.v x152)) w (λw=>opP zA zB (zF 30 (Sl.v x0) (.int .i64 x13_2)) (λx158=>opU zA (zK 34 (.pointer x158) (zJ.v x156)) w (λw=>Qj Kl8 x12_2 x13_2 w)))))))/\(opE zA zJ.v (zD 34 (.pointer x155)) w (λx156_1 w=>opE zA zJ.v (zD 34 (.pointer x151)) w (λx152_1 w=>opP zA zB (zF 30 (Sl.v x0) (.int .i64 x12_2)) (λx157_1=>opU zA (zK 34 (.pointer x157_1) (zJ.v x152_1)) w (λw=>opP zA zB (zF 30 (Sl.v x0) (.int .i64 x13_2)) (λx158_1=>opU zA (zK 34 (.pointer x158_1) (zJ.v x156_1)) w (λw=>Qj Kl8 x12_2 x13_2 w)))))))))))))))
def Yr (x0:Sl) (x1:Int) (x4:Value) (Ret:Int->Bool->World->Prop) (Kl8:Int->Int->World->Prop) (x12_2:Int) (x13_2:Int) (w:World) (Kl11:Int->World->Prop):Prop:=
 ((x12_2<=x13_2)->(opB zA zB (zF 30 (Sl.v x0) (.int .i64 x13_2)) w (λx130=>opB zA zJ.v (zD 34 (.pointer x130)) w (λx131=>opB zA zB (zF 30 (Sl.v x0) (.int .i64 x1)) w (λx134=>opB zA zJ.v (zD 34 (.pointer x134)) w (λx135=>∃ (r:Int),Zs zA x4 [(zJ.v x131),(zJ.v x135)] w (.int .i64 r)/\(Qf x0 x1 Ret Kl8 x12_2 x13_2 Kl11 (!(decide (r<0))) w)))))))/\(¬ (x12_2<=x13_2)->(Qf x0 x1 Ret Kl8 x12_2 x13_2 Kl11 false w))
def Qm (x0:Sl) (x1:Int) (x4:Value) (Ret:Int->Bool->World->Prop) (x13_1:Int) (Kl8:Int->Int->World->Prop) (x12_2:Int) (Kl9:Int->World->Prop) (x120:Bool) (w:World):Prop:=
 yM w (λw=>(x120=true->(Kl9 (zC .i64 (x12_2+1)) w))/\(x120=false->(∃ (I:Int->World->Prop) (μ:Int->World->Nat),I x13_1 w/\∀ (x13_2:Int) w,I x13_2 w->Yr x0 x1 x4 Ret Kl8 x12_2 x13_2 w (λx13_2' w'=>I x13_2' w'/\μ x13_2' w'<μ x13_2 w))))
def Yz (x0:Sl) (x1:Int) (x4:Value) (Ret:Int->Bool->World->Prop) (x13_1:Int) (Kl8:Int->Int->World->Prop) (x12_2:Int) (w:World) (Kl9:Int->World->Prop):Prop:=
 ((x12_2<=x13_1)->(opB zA zB (zF 30 (Sl.v x0) (.int .i64 x12_2)) w (λx112=>opB zA zJ.v (zD 34 (.pointer x112)) w (λx113=>opB zA zB (zF 30 (Sl.v x0) (.int .i64 x1)) w (λx116=>opB zA zJ.v (zD 34 (.pointer x116)) w (λx117=>∃ (r_1:Int),Zs zA x4 [(zJ.v x113),(zJ.v x117)] w (.int .i64 r_1)/\(Qm x0 x1 x4 Ret x13_1 Kl8 x12_2 Kl9 (decide (r_1<0)) w)))))))/\(¬ (x12_2<=x13_1)->(Qm x0 x1 x4 Ret x13_1 Kl8 x12_2 Kl9 false w))
def Qk (x0:Sl) (x1:Int) (x4:Value) (Ret:Int->Bool->World->Prop) (x12_1:Int) (x13_1:Int) (w:World) (Kl8:Int->Int->World->Prop):Prop:=
 ∃ (I:Int->World->Prop) (μ:Int->World->Nat),I x12_1 w/\∀ (x12_2:Int) w,I x12_2 w->Yz x0 x1 x4 Ret x13_1 Kl8 x12_2 w (λx12_2' w'=>I x12_2' w'/\μ x12_2' w'<μ x12_2 w)
def Qw (x0:Sl) (x1:Int) (x4:Value) (Ret:Int->Bool->World->Prop) (x12:Int) (x13:Int) (w:World):Prop:=
 ∃ (I:Int->Int->World->Prop) (μ:Int->Int->World->Nat),I (zC .i64 (x12+1)) (zC .i64 (x13 - 1)) w/\∀ (x12_1:Int) (x13_1:Int) w,I x12_1 x13_1 w->Qk x0 x1 x4 Ret x12_1 x13_1 w (λx12_1' x13_1' w'=>I x12_1' x13_1' w'/\μ x12_1' x13_1' w'<μ x12_1 x13_1 w)
def Qu (x0:Sl) (x1:Int) (x4:Value) (Ret:Int->Bool->World->Prop) (x12:Int) (x13:Int) (Kl4:Int->World->Prop) (x66:Bool) (w:World):Prop:=
 yM w (λw=>(x66=true->(Kl4 (zC .i64 (x13 - 1)) w))/\(x66=false->(((x13<x12)->(yM w (λw=>opP zA zB (zF 30 (Sl.v x0) (.int .i64 x1)) (λx78=>opP zA zB (zF 30 (Sl.v x0) (.int .i64 x13)) (λx82=>(opE zA zJ.v (zD 34 (.pointer x78)) w (λx79 w=>opE zA zJ.v (zD 34 (.pointer x82)) w (λx83 w=>opP zA zB (zF 30 (Sl.v x0) (.int .i64 x13)) (λx84=>opU zA (zK 34 (.pointer x84) (zJ.v x79)) w (λw=>opP zA zB (zF 30 (Sl.v x0) (.int .i64 x1)) (λx85=>opU zA (zK 34 (.pointer x85) (zJ.v x83)) w (λw=>Q0 Ret x13 w)))))))/\(opE zA zJ.v (zD 34 (.pointer x82)) w (λx83_1 w=>opE zA zJ.v (zD 34 (.pointer x78)) w (λx79_1 w=>opP zA zB (zF 30 (Sl.v x0) (.int .i64 x13)) (λx84_1=>opU zA (zK 34 (.pointer x84_1) (zJ.v x79_1)) w (λw=>opP zA zB (zF 30 (Sl.v x0) (.int .i64 x1)) (λx85_1=>opU zA (zK 34 (.pointer x85_1) (zJ.v x83_1)) w (λw=>Q0 Ret x13 w))))))))))))/\(¬ (x13<x12)->(yM w (λw=>opP zA zB (zF 30 (Sl.v x0) (.int .i64 x13)) (λx93=>opP zA zB (zF 30 (Sl.v x0) (.int .i64 x12)) (λx97=>(opE zA zJ.v (zD 34 (.pointer x93)) w (λx94 w=>opE zA zJ.v (zD 34 (.pointer x97)) w (λx98 w=>opP zA zB (zF 30 (Sl.v x0) (.int .i64 x12)) (λx99=>opU zA (zK 34 (.pointer x99) (zJ.v x94)) w (λw=>opP zA zB (zF 30 (Sl.v x0) (.int .i64 x13)) (λx100=>opU zA (zK 34 (.pointer x100) (zJ.v x98)) w (λw=>Qw x0 x1 x4 Ret x12 x13 w)))))))/\(opE zA zJ.v (zD 34 (.pointer x97)) w (λx98_1 w=>opE zA zJ.v (zD 34 (.pointer x93)) w (λx94_1 w=>opP zA zB (zF 30 (Sl.v x0) (.int .i64 x12)) (λx99_1=>opU zA (zK 34 (.pointer x99_1) (zJ.v x94_1)) w (λw=>opP zA zB (zF 30 (Sl.v x0) (.int .i64 x13)) (λx100_1=>opU zA (zK 34 (.pointer x100_1) (zJ.v x98_1)) w (λw=>Qw x0 x1 x4 Ret x12 x13 w)))))))))))))))
def Yx (x0:Sl) (x1:Int) (x4:Value) (Ret:Int->Bool->World->Prop) (x12:Int) (x13:Int) (w:World) (Kl4:Int->World->Prop):Prop:=
 ((x12<=x13)->(opB zA zB (zF 30 (Sl.v x0) (.int .i64 x13)) w (λx57=>opB zA zJ.v (zD 34 (.pointer x57)) w (λx58=>opB zA zB (zF 30 (Sl.v x0) (.int .i64 x1)) w (λx61=>opB zA zJ.v (zD 34 (.pointer x61)) w (λx62=>∃ (r_2:Int),Zs zA x4 [(zJ.v x58),(zJ.v x62)] w (.int .i64 r_2)/\(Qu x0 x1 x4 Ret x12 x13 Kl4 (!(decide (r_2<0))) w)))))))/\(¬ (x12<=x13)->(Qu x0 x1 x4 Ret x12 x13 Kl4 false w))
def xL (x0:Sl) (x1:Int) (x2:Int) (x4:Value) (Ret:Int->Bool->World->Prop) (x12:Int) (Kl2:Int->World->Prop) (x47:Bool) (w:World):Prop:=
 yM w (λw=>(x47=true->(Kl2 (zC .i64 (x12+1)) w))/\(x47=false->(∃ (I:Int->World->Prop) (μ:Int->World->Nat),I (zC .i64 (x2 - 1)) w/\∀ (x13:Int) w,I x13 w->Yx x0 x1 x4 Ret x12 x13 w (λx13' w'=>I x13' w'/\μ x13' w'<μ x13 w))))
def Y0 (x0:Sl) (x1:Int) (x2:Int) (x4:Value) (Ret:Int->Bool->World->Prop) (x12:Int) (w:World) (Kl2:Int->World->Prop):Prop:=
 ((x12<=(zC .i64 (x2 - 1)))->(opB zA zB (zF 30 (Sl.v x0) (.int .i64 x12)) w (λx39=>opB zA zJ.v (zD 34 (.pointer x39)) w (λx40=>opB zA zB (zF 30 (Sl.v x0) (.int .i64 x1)) w (λx43=>opB zA zJ.v (zD 34 (.pointer x43)) w (λx44=>∃ (r_3:Int),Zs zA x4 [(zJ.v x40),(zJ.v x44)] w (.int .i64 r_3)/\(xL x0 x1 x2 x4 Ret x12 Kl2 (decide (r_3<0)) w)))))))/\(¬ (x12<=(zC .i64 (x2 - 1)))->(xL x0 x1 x2 x4 Ret x12 Kl2 false w))
def Q1 (x0:Sl) (x1:Int) (x2:Int) (x4:Value) (Ret:Int->Bool->World->Prop) (w:World):Prop:=
 ∃ (I:Int->World->Prop) (μ:Int->World->Nat),I (zC .i64 (x1+1)) w/\∀ (x12:Int) w,I x12 w->Y0 x0 x1 x2 x4 Ret x12 w (λx12' w'=>I x12' w'/\μ x12' w'<μ x12 w)
def zAl (x0:Sl) (x1:Int) (x2:Int) (x3:Int) (x4:Value) (w:World) (Ret:Int->Bool->World->Prop):Prop:=
 yM w (λw=>opP zA zB (zF 30 (Sl.v x0) (.int .i64 x3)) (λx20=>opP zA zB (zF 30 (Sl.v x0) (.int .i64 x1)) (λx24=>(opE zA zJ.v (zD 34 (.pointer x20)) w (λx21 w=>opE zA zJ.v (zD 34 (.pointer x24)) w (λx25 w=>opP zA zB (zF 30 (Sl.v x0) (.int .i64 x1)) (λx26=>opU zA (zK 34 (.pointer x26) (zJ.v x21)) w (λw=>opP zA zB (zF 30 (Sl.v x0) (.int .i64 x3)) (λx27=>opU zA (zK 34 (.pointer x27) (zJ.v x25)) w (λw=>Q1 x0 x1 x2 x4 Ret w)))))))/\(opE zA zJ.v (zD 34 (.pointer x24)) w (λx25_1 w=>opE zA zJ.v (zD 34 (.pointer x20)) w (λx21_1 w=>opP zA zB (zF 30 (Sl.v x0) (.int .i64 x1)) (λx26_1=>opU zA (zK 34 (.pointer x26_1) (zJ.v x21_1)) w (λw=>opP zA zB (zF 30 (Sl.v x0) (.int .i64 x3)) (λx27_1=>opU zA (zK 34 (.pointer x27_1) (zJ.v x25_1)) w (λw=>Q1 x0 x1 x2 x4 Ret w))))))))))
set_option maxRecDepth 100000 in
theorem zEy (x0:Sl) (x1:Int) (x2:Int) (x3:Int) (x4:Value) (w:World) (Ret:Int->Bool->World->Prop) (H:zAl x0 x1 x2 x3 x4 w Ret):Cl zA 135 [(Sl.v x0),(.int .i64 x1),(.int .i64 x2),(.int .i64 x3),x4].toArray w (λe w'=>∃ (r0:Int) (r1:Bool),e=.returned (.tuple [(.int .i64 r0),(.bool r1)].toArray)/\Ret r0 r1 w'):=by
 unfold zAl at H
 refine zp 178 (zipE 0 [(Sl.v x0),(.int .i64 x1),(.int .i64 x2),(.int .i64 x3),x4]) Tryz.func135 rfl rfl (by rfl) rfl ?_
 intro a g
 have g:Sat [] 178 [(0,(Sl.v x0)),(1,(.int .i64 x1)),(2,(.int .i64 x2)),(3,(.int .i64 x3)),(4,x4)] a:=g
 refine zI (zE (g.s rfl λ_ g=>g.s rfl λ_ g=>zL (tn (z8 (ds:=[]) (N:=178) (σ:=Unit) (λs=>[(0,(Sl.v x0)),(1,(.int .i64 x1)),(2,(.int .i64 x2)),(4,x4)]) (λs w=>Q1 x0 x1 x2 x4 Ret w) ?_ (λhj1=>?_)))))
 ·rintro ⟨⟩ w a H g
  try dsimp only at H g
  unfold Q1 at H
  refine zI (zE (g.m rfl λ_ g=>g.p (zr g rfl rfl) λ_ g=>g.m rfl λ_ g=>g.p (zv g rfl rfl) λ_ g=>g.s rfl λ_ g=>g.s rfl λ_ g=>zL (tn (zI (zX ?_)))))
  obtain ⟨I_l2,μ_l2,h0,hb⟩:=H
  refine yE (ds:=[]) (N:=178) (σ:=Int) (λs=>[(12,(.int .i64 s)),(0,(Sl.v x0)),(1,(.int .i64 x1)),(4,x4),(13,(.int .i64 (zC .i64 (x2 - 1))))]) (λs w=>I_l2 s w) (λs w=>μ_l2 s w) (zC .i64 (x1+1)) h0 (g.k) ?_
  intro x12 w a hI g
  try dsimp only at hI g
  obtain ⟨Kl2,hK_l2⟩:∃ K:Int->World->Prop,K=(λx12' w'=>I_l2 x12' w'/\μ_l2 x12' w'<μ_l2 x12 w):=⟨_,rfl⟩
  have H:Y0 x0 x1 x2 x4 Ret x12 w Kl2:=by rw [hK_l2];exact hb x12 w hI
  clear hb h0 hI
  unfold Y0 at H
  refine zI (zI (QU (by kernel_rfl) (by kernel_rfl) (g.t rfl λ_ g=>g.t rfl λ_ g=>g.r (zCw g rfl rfl) λ_ g=>g.t rfl λ_ g=>WQ.join (ds:=[]) (N:=178) (σ:=Bool) (λs=>[(47,(.bool s)),(0,(Sl.v x0)),(1,(.int .i64 x1)),(4,x4),(12,(.int .i64 x12)),(13,(.int .i64 (zC .i64 (x2 - 1))))]) (λs=>xL x0 x1 x2 x4 Ret x12 Kl2 s w) 12 ?_ (λhr3=>?_))))
  ·intro x47 a H g
   try dsimp only at H g
   unfold xL at H
   refine Qb (λw hB=>?_)
   replace H:=H w hB
   refine (tn (zk g rfl (λhc=>?_) (λhc=>?_)))
   ·have H:=H.1 hc
    refine zY (tn (zX (zE (g.m rfl λ_ g=>g.p (zr g rfl rfl) λ_ g=>g.s rfl λ_ g=>?_))))
    rw [hK_l2] at H
    exact zL (bn (tn ⟨(zC .i64 (x12+1)),g.k,H⟩))
   ·have H:=H.2 hc
    refine z7 (te (te (be (tn (zI (zX ?_))))))
    obtain ⟨I_l4,μ_l4,h0,hb⟩:=H
    refine yE (ds:=[]) (N:=178) (σ:=Int) (λs=>[(13,(.int .i64 s)),(0,(Sl.v x0)),(1,(.int .i64 x1)),(4,x4),(12,(.int .i64 x12))]) (λs w=>I_l4 s w) (λs w=>μ_l4 s w) (zC .i64 (x2 - 1)) h0 (g.k) ?_
    intro x13 w a hI g
    try dsimp only at hI g
    obtain ⟨Kl4,hK_l4⟩:∃ K:Int->World->Prop,K=(λx13' w'=>I_l4 x13' w'/\μ_l4 x13' w'<μ_l4 x13 w):=⟨_,rfl⟩
    have H:Yx x0 x1 x4 Ret x12 x13 w Kl4:=by rw [hK_l4];exact hb x13 w hI
    clear hb h0 hI
    unfold Yx at H
    refine zI (zI (QU (by kernel_rfl) (by kernel_rfl) (g.t rfl λ_ g=>g.t rfl λ_ g=>g.r (zCw g rfl rfl) λ_ g=>g.t rfl λ_ g=>WQ.join (ds:=[]) (N:=178) (σ:=Bool) (λs=>[(66,(.bool s)),(0,(Sl.v x0)),(1,(.int .i64 x1)),(4,x4),(12,(.int .i64 x12)),(13,(.int .i64 x13))]) (λs=>Qu x0 x1 x4 Ret x12 x13 Kl4 s w) 13 ?_ (λhr5=>?_))))
    ·intro x66 a H g
     try dsimp only at H g
     unfold Qu at H
     refine Qb (λw hB=>?_)
     replace H:=H w hB
     refine (tn (zk g rfl (λhc=>?_) (λhc=>?_)))
     ·have H:=H.1 hc
      refine zY (tn (zX (zE (g.m rfl λ_ g=>g.p (zv g rfl rfl) λ_ g=>g.s rfl λ_ g=>?_))))
      rw [hK_l4] at H
      exact zL (bn (tn ⟨(zC .i64 (x13 - 1)),g.k,H⟩))
     ·have H:=H.2 hc
      refine z7 (te (te (be (tn (zI (zI (zE (g.m rfl λ_ g=>g.m rfl λ_ g=>g.p (zBx g rfl rfl) λ_ g=>zL (tn (zd g rfl (λhc=>?_) (λhc=>?_)))))))))))
      ·have H:=H.1 hc
       refine z8 (ds:=[]) (N:=178) (σ:=Unit) (λs=>[(13,(.int .i64 x13))]) (λs w=>Q0 Ret x13 w) ?_ (λhj6=>?_)
       ·rintro ⟨⟩ w a H g
        try dsimp only at H g
        unfold Q0 at H
        exact zI (zE (g.m rfl λ_ g=>g.s rfl λ_ g=>g.s rfl λ_ g=>zL (tn (zl (tr (ZK g rfl rfl rfl ⟨_,_,rfl,H⟩))))))
       ·refine zCC 16 λw hB=>?_
        replace H:=H w hB
        refine g.x 0 rfl (zR g rfl) λ_ g=>g.x 1 rfl (zR g rfl) λ_ g=>g.x 2 rfl (zR g rfl) λ_ g=>g.x 3 rfl (zR g rfl) λ_ g=>g.x 4 rfl (zR g rfl) λ_ g=>g.x 5 rfl (zR g rfl) λ_ g=>g.y 6 rfl (zH g rfl rfl) H λx78 a H g=>g.x 8 rfl (zR g rfl) λ_ g=>g.x 9 rfl (zR g rfl) λ_ g=>g.y 10 rfl (zH g rfl rfl) H λx82 a H g=>WA.tw 7 11 rfl rfl ?_ ?_
        ·have H:=H.1
         intro K hK
         exact g.i (zO g rfl) H λx79 w a H g=>hK _ _ (g.j 11 rfl (zO g rfl) H λx83 w a H g=>g.y 12 rfl (zH g rfl rfl) H λx84 a H g=>g.l 13 rfl (zT g rfl rfl) H λw a H g=>g.y 14 rfl (zH g rfl rfl) H λx85 a H g=>g.l 15 rfl (zT g rfl rfl) H λw a H g=>WA.ni ((tn (hj6 () _ _ H (g.k)))))
        ·have H:=H.2
         intro K hK
         exact g.i (zO g rfl) H λx83_1 w a H g=>hK _ _ (g.j 7 rfl (zO g rfl) H λx79_1 w a H g=>g.y 12 rfl (zH g rfl rfl) H λx84_1 a H g=>g.l 13 rfl (zT g rfl rfl) H λw a H g=>g.y 14 rfl (zH g rfl rfl) H λx85_1 a H g=>g.l 15 rfl (zT g rfl rfl) H λw a H g=>WA.ni ((tn (hj6 () _ _ H (g.k)))))
      ·have H:=H.2 hc
       refine zY (tn (z8 (ds:=[]) (N:=178) (σ:=Unit) (λs=>[(0,(Sl.v x0)),(1,(.int .i64 x1)),(4,x4),(12,(.int .i64 x12)),(13,(.int .i64 x13))]) (λs w=>Qw x0 x1 x4 Ret x12 x13 w) ?_ (λhj7=>?_)))
       ·rintro ⟨⟩ w a H g
        try dsimp only at H g
        unfold Qw at H
        refine zI (zE (g.m rfl λ_ g=>g.p (zr g rfl rfl) λ_ g=>g.s rfl λ_ g=>zL (tn (zI (zE (g.m rfl λ_ g=>g.p (zv g rfl rfl) λ_ g=>g.s rfl λ_ g=>zL (tn (zI (zX ?_)))))))))
        obtain ⟨I_l8,μ_l8,h0,hb⟩:=H
        refine yE (ds:=[]) (N:=178) (σ:=Int × Int) (λs=>[(12,(.int .i64 s.1)),(13,(.int .i64 s.2)),(0,(Sl.v x0)),(1,(.int .i64 x1)),(4,x4)]) (λs w=>I_l8 s.1 s.2 w) (λs w=>μ_l8 s.1 s.2 w) ((zC .i64 (x12+1)),(zC .i64 (x13 - 1))) h0 (g.k) ?_
        rintro ⟨x12_1,x13_1⟩ w a hI g
        try dsimp only at hI g
        obtain ⟨Kl8,hK_l8⟩:∃ K:Int->Int->World->Prop,K=(λx12_1' x13_1' w'=>I_l8 x12_1' x13_1' w'/\μ_l8 x12_1' x13_1' w'<μ_l8 x12_1 x13_1 w):=⟨_,rfl⟩
        have H:Qk x0 x1 x4 Ret x12_1 x13_1 w Kl8:=by rw [hK_l8];exact hb x12_1 x13_1 w hI
        clear hb h0 hI
        unfold Qk at H
        refine zX (zI (zX ?_))
        obtain ⟨I_l9,μ_l9,h0,hb⟩:=H
        refine yE (ds:=[]) (N:=178) (σ:=Int) (λs=>[(12,(.int .i64 s)),(0,(Sl.v x0)),(1,(.int .i64 x1)),(4,x4),(13,(.int .i64 x13_1))]) (λs w=>I_l9 s w) (λs w=>μ_l9 s w) x12_1 h0 (g.k) ?_
        intro x12_2 w a hI g
        try dsimp only at hI g
        obtain ⟨Kl9,hK_l9⟩:∃ K:Int->World->Prop,K=(λx12_2' w'=>I_l9 x12_2' w'/\μ_l9 x12_2' w'<μ_l9 x12_2 w):=⟨_,rfl⟩
        have H:Yz x0 x1 x4 Ret x13_1 Kl8 x12_2 w Kl9:=by rw [hK_l9];exact hb x12_2 w hI
        clear hb h0 hI
        unfold Yz at H
        refine zI (zI (QU (by kernel_rfl) (by kernel_rfl) (g.t rfl λ_ g=>g.t rfl λ_ g=>g.r (zCw g rfl rfl) λ_ g=>g.t rfl λ_ g=>WQ.join (ds:=[]) (N:=178) (σ:=Bool) (λs=>[(120,(.bool s)),(0,(Sl.v x0)),(1,(.int .i64 x1)),(4,x4),(12,(.int .i64 x12_2)),(13,(.int .i64 x13_1))]) (λs=>Qm x0 x1 x4 Ret x13_1 Kl8 x12_2 Kl9 s w) 12 ?_ (λhr10=>?_))))
        ·intro x120 a H g
         try dsimp only at H g
         unfold Qm at H
         refine Qb (λw hB=>?_)
         replace H:=H w hB
         refine (tn (zk g rfl (λhc=>?_) (λhc=>?_)))
         ·have H:=H.1 hc
          refine zY (tn (zX (zE (g.m rfl λ_ g=>g.p (zr g rfl rfl) λ_ g=>g.s rfl λ_ g=>?_))))
          rw [hK_l9] at H
          exact zL (bn (tn ⟨(zC .i64 (x12_2+1)),g.k,H⟩))
         ·have H:=H.2 hc
          refine z7 (te (te (be (tn (zI (zX ?_))))))
          obtain ⟨I_l11,μ_l11,h0,hb⟩:=H
          refine yE (ds:=[]) (N:=178) (σ:=Int) (λs=>[(13,(.int .i64 s)),(0,(Sl.v x0)),(1,(.int .i64 x1)),(4,x4),(12,(.int .i64 x12_2))]) (λs w=>I_l11 s w) (λs w=>μ_l11 s w) x13_1 h0 (g.k) ?_
          intro x13_2 w a hI g
          try dsimp only at hI g
          obtain ⟨Kl11,hK_l11⟩:∃ K:Int->World->Prop,K=(λx13_2' w'=>I_l11 x13_2' w'/\μ_l11 x13_2' w'<μ_l11 x13_2 w):=⟨_,rfl⟩
          have H:Yr x0 x1 x4 Ret Kl8 x12_2 x13_2 w Kl11:=by rw [hK_l11];exact hb x13_2 w hI
          clear hb h0 hI
          unfold Yr at H
          refine zI (zI (QU (by kernel_rfl) (by kernel_rfl) (g.t rfl λ_ g=>g.t rfl λ_ g=>g.r (zCw g rfl rfl) λ_ g=>g.t rfl λ_ g=>WQ.join (ds:=[]) (N:=178) (σ:=Bool) (λs=>[(139,(.bool s)),(0,(Sl.v x0)),(1,(.int .i64 x1)),(4,x4),(12,(.int .i64 x12_2)),(13,(.int .i64 x13_2))]) (λs=>Qf x0 x1 Ret Kl8 x12_2 x13_2 Kl11 s w) 13 ?_ (λhr12=>?_))))
          ·intro x139 a H g
           try dsimp only at H g
           unfold Qf at H
           refine Qb (λw hB=>?_)
           replace H:=H w hB
           refine (tn (zk g rfl (λhc=>?_) (λhc=>?_)))
           ·have H:=H.1 hc
            refine zY (tn (zX (zE (g.m rfl λ_ g=>g.p (zv g rfl rfl) λ_ g=>g.s rfl λ_ g=>?_))))
            rw [hK_l11] at H
            exact zL (bn (tn ⟨(zC .i64 (x13_2 - 1)),g.k,H⟩))
           ·have H:=H.2 hc
            refine z7 (te (te (be (tn (zI (zI (zE (g.m rfl λ_ g=>g.m rfl λ_ g=>g.p (zBx g rfl rfl) λ_ g=>zL (tn (zd g rfl (λhc=>?_) (λhc=>?_)))))))))))
            ·have H:=H.1 hc
             refine z7 (te (bo (te (be (tn (z8 (ds:=[]) (N:=178) (σ:=Unit) (λs=>[(13,(.int .i64 x13_2))]) (λs w=>Qd Ret x13_2 w) ?_ (λhj13=>?_)))))))
             ·rintro ⟨⟩ w a H g
              try dsimp only at H g
              unfold Qd at H
              exact zI (zE (g.m rfl λ_ g=>g.s rfl λ_ g=>g.s rfl λ_ g=>zL (tn (zl (ZK g rfl rfl rfl ⟨_,_,rfl,H⟩)))))
             ·refine zCC 16 λw hB=>?_
              replace H:=H w hB
              refine g.x 0 rfl (zR g rfl) λ_ g=>g.x 1 rfl (zR g rfl) λ_ g=>g.x 2 rfl (zR g rfl) λ_ g=>g.x 3 rfl (zR g rfl) λ_ g=>g.x 4 rfl (zR g rfl) λ_ g=>g.x 5 rfl (zR g rfl) λ_ g=>g.y 6 rfl (zH g rfl rfl) H λx169 a H g=>g.x 8 rfl (zR g rfl) λ_ g=>g.x 9 rfl (zR g rfl) λ_ g=>g.y 10 rfl (zH g rfl rfl) H λx173 a H g=>WA.tw 7 11 rfl rfl ?_ ?_
              ·have H:=H.1
               intro K hK
               exact g.i (zO g rfl) H λx170 w a H g=>hK _ _ (g.j 11 rfl (zO g rfl) H λx174 w a H g=>g.y 12 rfl (zH g rfl rfl) H λx175 a H g=>g.l 13 rfl (zT g rfl rfl) H λw a H g=>g.y 14 rfl (zH g rfl rfl) H λx176 a H g=>g.l 15 rfl (zT g rfl rfl) H λw a H g=>WA.ni ((tn (hj13 () _ _ H (g.k)))))
              ·have H:=H.2
               intro K hK
               exact g.i (zO g rfl) H λx174_1 w a H g=>hK _ _ (g.j 7 rfl (zO g rfl) H λx170_1 w a H g=>g.y 12 rfl (zH g rfl rfl) H λx175_1 a H g=>g.l 13 rfl (zT g rfl rfl) H λw a H g=>g.y 14 rfl (zH g rfl rfl) H λx176_1 a H g=>g.l 15 rfl (zT g rfl rfl) H λw a H g=>WA.ni ((tn (hj13 () _ _ H (g.k)))))
            ·have H:=H.2 hc
             refine zY (tn (z8 (ds:=[]) (N:=178) (σ:=Unit) (λs=>[(0,(Sl.v x0)),(1,(.int .i64 x1)),(4,x4),(12,(.int .i64 x12_2)),(13,(.int .i64 x13_2))]) (λs w=>Qj Kl8 x12_2 x13_2 w) ?_ (λhj14=>?_)))
             ·rintro ⟨⟩ w a H g
              try dsimp only at H g
              unfold Qj at H
              refine zI (zE (g.m rfl λ_ g=>g.p (zr g rfl rfl) λ_ g=>g.s rfl λ_ g=>zL (tn (zE (g.m rfl λ_ g=>g.p (zv g rfl rfl) λ_ g=>g.s rfl λ_ g=>?_)))))
              rw [hK_l8] at H
              exact zL (bn (tn ⟨((zC .i64 (x12_2+1)),(zC .i64 (x13_2 - 1))),g.k,H⟩))
             ·refine zCC 16 λw hB=>?_
              replace H:=H w hB
              refine g.x 0 rfl (zR g rfl) λ_ g=>g.x 1 rfl (zR g rfl) λ_ g=>g.x 2 rfl (zR g rfl) λ_ g=>g.x 3 rfl (zR g rfl) λ_ g=>g.x 4 rfl (zR g rfl) λ_ g=>g.x 5 rfl (zR g rfl) λ_ g=>g.y 6 rfl (zH g rfl rfl) H λx151 a H g=>g.x 8 rfl (zR g rfl) λ_ g=>g.x 9 rfl (zR g rfl) λ_ g=>g.y 10 rfl (zH g rfl rfl) H λx155 a H g=>WA.tw 7 11 rfl rfl ?_ ?_
              ·have H:=H.1
               intro K hK
               exact g.i (zO g rfl) H λx152 w a H g=>hK _ _ (g.j 11 rfl (zO g rfl) H λx156 w a H g=>g.y 12 rfl (zH g rfl rfl) H λx157 a H g=>g.l 13 rfl (zT g rfl rfl) H λw a H g=>g.y 14 rfl (zH g rfl rfl) H λx158 a H g=>g.l 15 rfl (zT g rfl rfl) H λw a H g=>WA.ni ((tn (hj14 () _ _ H (g.k)))))
              ·have H:=H.2
               intro K hK
               exact g.i (zO g rfl) H λx156_1 w a H g=>hK _ _ (g.j 7 rfl (zO g rfl) H λx152_1 w a H g=>g.y 12 rfl (zH g rfl rfl) H λx157_1 a H g=>g.l 13 rfl (zT g rfl rfl) H λw a H g=>g.y 14 rfl (zH g rfl rfl) H λx158_1 a H g=>g.l 15 rfl (zT g rfl rfl) H λw a H g=>WA.ni ((tn (hj14 () _ _ H (g.k)))))
          ·rcases Classical.em ((x12_2<=x13_2)) with hbr12|hbr12
           ·have H:=H.1 hbr12
            have g:=g.b (b:=true) (t:=126) rfl (decide_eq_true hbr12)
            refine g.e (g.t rfl λ_ g=>g.e (g.t rfl λ_ g=>g.e (g.t rfl λ_ g=>g.e (g.A (zH g rfl rfl) H λx130 a H g=>g.e (g.A (zO g rfl) H λx131 a H g=>g.e (g.t rfl λ_ g=>g.e (g.t rfl λ_ g=>g.e (g.A (zH g rfl rfl) H λx134 a H g=>g.e (g.A (zO g rfl) H λx135 a H g=>g.e ?_)))))))))
            obtain ⟨r,hc,H⟩:=H
            exact g.qcallV rfl rfl hc λ_ g=>g.e (g.r (yR g rfl rfl) λ_ g=>g.e (g.r (zAJ g rfl) λ_ g=>g.r (zx g rfl rfl) λ_ g=>hr12 (!(decide (r<0))) _ H (g.k)))
           ·have H:=H.2 hbr12
            have g:=g.b (b:=false) (t:=126) rfl (decide_eq_false hbr12)
            exact g.g (λ_ g=>g.g (λ_ g=>g.g (λ_ g=>g.g (λ_ g=>g.g (λ_ g=>g.g (λ_ g=>g.g (λ_ g=>g.g (λ_ g=>g.g (λ_ g=>g.g (λ_ g=>g.g (λ_ g=>g.g (λ_ g=>g.r (zy g rfl rfl) λ_ g=>hr12 false _ H (g.k)))))))))))))
        ·rcases Classical.em ((x12_2<=x13_1)) with hbr10|hbr10
         ·have H:=H.1 hbr10
          have g:=g.b (b:=true) (t:=108) rfl (decide_eq_true hbr10)
          refine g.e (g.t rfl λ_ g=>g.e (g.t rfl λ_ g=>g.e (g.t rfl λ_ g=>g.e (g.A (zH g rfl rfl) H λx112 a H g=>g.e (g.A (zO g rfl) H λx113 a H g=>g.e (g.t rfl λ_ g=>g.e (g.t rfl λ_ g=>g.e (g.A (zH g rfl rfl) H λx116 a H g=>g.e (g.A (zO g rfl) H λx117 a H g=>g.e ?_)))))))))
          obtain ⟨r_1,hc,H⟩:=H
          exact g.qcallV rfl rfl hc λ_ g=>g.e (g.r (yR g rfl rfl) λ_ g=>g.r (zx g rfl rfl) λ_ g=>hr10 (decide (r_1<0)) _ H (g.k))
         ·have H:=H.2 hbr10
          have g:=g.b (b:=false) (t:=108) rfl (decide_eq_false hbr10)
          exact g.g (λ_ g=>g.g (λ_ g=>g.g (λ_ g=>g.g (λ_ g=>g.g (λ_ g=>g.g (λ_ g=>g.g (λ_ g=>g.g (λ_ g=>g.g (λ_ g=>g.g (λ_ g=>g.g (λ_ g=>g.r (zy g rfl rfl) λ_ g=>hr10 false _ H (g.k))))))))))))
       ·refine zCC 16 λw hB=>?_
        replace H:=H w hB
        refine g.x 0 rfl (zR g rfl) λ_ g=>g.x 1 rfl (zR g rfl) λ_ g=>g.x 2 rfl (zR g rfl) λ_ g=>g.x 3 rfl (zR g rfl) λ_ g=>g.x 4 rfl (zR g rfl) λ_ g=>g.x 5 rfl (zR g rfl) λ_ g=>g.y 6 rfl (zH g rfl rfl) H λx93 a H g=>g.x 8 rfl (zR g rfl) λ_ g=>g.x 9 rfl (zR g rfl) λ_ g=>g.y 10 rfl (zH g rfl rfl) H λx97 a H g=>WA.tw 7 11 rfl rfl ?_ ?_
        ·have H:=H.1
         intro K hK
         exact g.i (zO g rfl) H λx94 w a H g=>hK _ _ (g.j 11 rfl (zO g rfl) H λx98 w a H g=>g.y 12 rfl (zH g rfl rfl) H λx99 a H g=>g.l 13 rfl (zT g rfl rfl) H λw a H g=>g.y 14 rfl (zH g rfl rfl) H λx100 a H g=>g.l 15 rfl (zT g rfl rfl) H λw a H g=>WA.ni ((tn (hj7 () _ _ H (g.k)))))
        ·have H:=H.2
         intro K hK
         exact g.i (zO g rfl) H λx98_1 w a H g=>hK _ _ (g.j 7 rfl (zO g rfl) H λx94_1 w a H g=>g.y 12 rfl (zH g rfl rfl) H λx99_1 a H g=>g.l 13 rfl (zT g rfl rfl) H λw a H g=>g.y 14 rfl (zH g rfl rfl) H λx100_1 a H g=>g.l 15 rfl (zT g rfl rfl) H λw a H g=>WA.ni ((tn (hj7 () _ _ H (g.k)))))
    ·rcases Classical.em ((x12<=x13)) with hbr5|hbr5
     ·have H:=H.1 hbr5
      have g:=g.b (b:=true) (t:=53) rfl (decide_eq_true hbr5)
      refine g.e (g.t rfl λ_ g=>g.e (g.t rfl λ_ g=>g.e (g.t rfl λ_ g=>g.e (g.A (zH g rfl rfl) H λx57 a H g=>g.e (g.A (zO g rfl) H λx58 a H g=>g.e (g.t rfl λ_ g=>g.e (g.t rfl λ_ g=>g.e (g.A (zH g rfl rfl) H λx61 a H g=>g.e (g.A (zO g rfl) H λx62 a H g=>g.e ?_)))))))))
      obtain ⟨r_2,hc,H⟩:=H
      exact g.qcallV rfl rfl hc λ_ g=>g.e (g.r (yR g rfl rfl) λ_ g=>g.e (g.r (zAJ g rfl) λ_ g=>g.r (zx g rfl rfl) λ_ g=>hr5 (!(decide (r_2<0))) _ H (g.k)))
     ·have H:=H.2 hbr5
      have g:=g.b (b:=false) (t:=53) rfl (decide_eq_false hbr5)
      exact g.g (λ_ g=>g.g (λ_ g=>g.g (λ_ g=>g.g (λ_ g=>g.g (λ_ g=>g.g (λ_ g=>g.g (λ_ g=>g.g (λ_ g=>g.g (λ_ g=>g.g (λ_ g=>g.g (λ_ g=>g.g (λ_ g=>g.r (zy g rfl rfl) λ_ g=>hr5 false _ H (g.k)))))))))))))
  ·rcases Classical.em ((x12<=(zC .i64 (x2 - 1)))) with hbr3|hbr3
   ·have H:=H.1 hbr3
    have g:=g.b (b:=true) (t:=35) rfl (decide_eq_true hbr3)
    refine g.e (g.t rfl λ_ g=>g.e (g.t rfl λ_ g=>g.e (g.t rfl λ_ g=>g.e (g.A (zH g rfl rfl) H λx39 a H g=>g.e (g.A (zO g rfl) H λx40 a H g=>g.e (g.t rfl λ_ g=>g.e (g.t rfl λ_ g=>g.e (g.A (zH g rfl rfl) H λx43 a H g=>g.e (g.A (zO g rfl) H λx44 a H g=>g.e ?_)))))))))
    obtain ⟨r_3,hc,H⟩:=H
    exact g.qcallV rfl rfl hc λ_ g=>g.e (g.r (yR g rfl rfl) λ_ g=>g.r (zx g rfl rfl) λ_ g=>hr3 (decide (r_3<0)) _ H (g.k))
   ·have H:=H.2 hbr3
    have g:=g.b (b:=false) (t:=35) rfl (decide_eq_false hbr3)
    exact g.g (λ_ g=>g.g (λ_ g=>g.g (λ_ g=>g.g (λ_ g=>g.g (λ_ g=>g.g (λ_ g=>g.g (λ_ g=>g.g (λ_ g=>g.g (λ_ g=>g.g (λ_ g=>g.g (λ_ g=>g.r (zy g rfl rfl) λ_ g=>hr3 false _ H (g.k))))))))))))
 ·refine zCC 16 λw hB=>?_
  replace H:=H w hB
  refine g.x 0 rfl (zR g rfl) λ_ g=>g.x 1 rfl (zR g rfl) λ_ g=>g.x 2 rfl (zR g rfl) λ_ g=>g.x 3 rfl (zR g rfl) λ_ g=>g.x 4 rfl (zR g rfl) λ_ g=>g.x 5 rfl (zR g rfl) λ_ g=>g.y 6 rfl (zH g rfl rfl) H λx20 a H g=>g.x 8 rfl (zR g rfl) λ_ g=>g.x 9 rfl (zR g rfl) λ_ g=>g.y 10 rfl (zH g rfl rfl) H λx24 a H g=>WA.tw 7 11 rfl rfl ?_ ?_
  ·have H:=H.1
   intro K hK
   exact g.i (zO g rfl) H λx21 w a H g=>hK _ _ (g.j 11 rfl (zO g rfl) H λx25 w a H g=>g.y 12 rfl (zH g rfl rfl) H λx26 a H g=>g.l 13 rfl (zT g rfl rfl) H λw a H g=>g.y 14 rfl (zH g rfl rfl) H λx27 a H g=>g.l 15 rfl (zT g rfl rfl) H λw a H g=>WA.ni ((tn (hj1 () _ _ H (g.k)))))
  ·have H:=H.2
   intro K hK
   exact g.i (zO g rfl) H λx25_1 w a H g=>hK _ _ (g.j 7 rfl (zO g rfl) H λx21_1 w a H g=>g.y 12 rfl (zH g rfl rfl) H λx26_1 a H g=>g.l 13 rfl (zT g rfl rfl) H λw a H g=>g.y 14 rfl (zH g rfl rfl) H λx27_1 a H g=>g.l 15 rfl (zT g rfl rfl) H λw a H g=>WA.ni ((tn (hj1 () _ _ H (g.k)))))
def YD (Kl1:Int->World->Prop) (x11:Int) (w:World):Prop:=
 Kl1 x11 w
def xX (x0:Sl) (x3:Int) (x4:Value) (Ret:World->Prop) (x10:Int) (Kl1:Int->World->Prop) (x11:Int) (w:World):Prop:=
 opB zA zB (zF 30 (Sl.v x0) (.int .i64 (zC .i64 (x3+x10)))) w (λx48=>opB zA zJ.v (zD 34 (.pointer x48)) w (λx49=>opB zA zB (zF 30 (Sl.v x0) (.int .i64 (zC .i64 (x3+x11)))) w (λx54=>opB zA zJ.v (zD 34 (.pointer x54)) w (λx55=>∃ (r:Int),Zs zA x4 [(zJ.v x49),(zJ.v x55)] w (.int .i64 r)/\(yM w (λw=>((!(decide (r<0)))=true->(Ret w))/\((!(decide (r<0)))=false->(yM w (λw=>opP zA zB (zF 30 (Sl.v x0) (.int .i64 (zC .i64 (x3+x11)))) (λx71=>opP zA zB (zF 30 (Sl.v x0) (.int .i64 (zC .i64 (x3+x10)))) (λx77=>(opE zA zJ.v (zD 34 (.pointer x71)) w (λx72 w=>opE zA zJ.v (zD 34 (.pointer x77)) w (λx78 w=>opP zA zB (zF 30 (Sl.v x0) (.int .i64 (zC .i64 (x3+x10)))) (λx79=>opU zA (zK 34 (.pointer x79) (zJ.v x72)) w (λw=>opP zA zB (zF 30 (Sl.v x0) (.int .i64 (zC .i64 (x3+x11)))) (λx80=>opU zA (zK 34 (.pointer x80) (zJ.v x78)) w (λw=>YD Kl1 x11 w)))))))/\(opE zA zJ.v (zD 34 (.pointer x77)) w (λx78_1 w=>opE zA zJ.v (zD 34 (.pointer x71)) w (λx72_1 w=>opP zA zB (zF 30 (Sl.v x0) (.int .i64 (zC .i64 (x3+x10)))) (λx79_1=>opU zA (zK 34 (.pointer x79_1) (zJ.v x72_1)) w (λw=>opP zA zB (zF 30 (Sl.v x0) (.int .i64 (zC .i64 (x3+x11)))) (λx80_1=>opU zA (zK 34 (.pointer x80_1) (zJ.v x78_1)) w (λw=>YD Kl1 x11 w))))))))))))))))))
def xa (x0:Sl) (x3:Int) (x4:Value) (Ret:World->Prop) (x10:Int) (Kl1:Int->World->Prop) (x40:Bool) (w:World):Prop:=
 yM w (λw=>(x40=true->(xX x0 x3 x4 Ret x10 Kl1 (zC .i64 ((zC .i64 ((zC .i64 (2*x10))+1))+1)) w))/\(x40=false->(xX x0 x3 x4 Ret x10 Kl1 (zC .i64 ((zC .i64 (2*x10))+1)) w)))
def Y6 (x0:Sl) (x2:Int) (x3:Int) (x4:Value) (Ret:World->Prop) (x10:Int) (w:World) (Kl1:Int->World->Prop):Prop:=
 ((x2<=(zC .i64 ((zC .i64 (2*x10))+1)))->(Ret w))/\(¬ (x2<=(zC .i64 ((zC .i64 (2*x10))+1)))->((((zC .i64 ((zC .i64 ((zC .i64 (2*x10))+1))+1))<x2)->(opB zA zB (zF 30 (Sl.v x0) (.int .i64 (zC .i64 (x3+(zC .i64 ((zC .i64 (2*x10))+1)))))) w (λx29=>opB zA zJ.v (zD 34 (.pointer x29)) w (λx30=>opB zA zB (zF 30 (Sl.v x0) (.int .i64 (zC .i64 ((zC .i64 (x3+(zC .i64 ((zC .i64 (2*x10))+1))))+1)))) w (λx36=>opB zA zJ.v (zD 34 (.pointer x36)) w (λx37=>∃ (r_1:Int),Zs zA x4 [(zJ.v x30),(zJ.v x37)] w (.int .i64 r_1)/\(xa x0 x3 x4 Ret x10 Kl1 (decide (r_1<0)) w)))))))/\(¬ ((zC .i64 ((zC .i64 ((zC .i64 (2*x10))+1))+1))<x2)->(xa x0 x3 x4 Ret x10 Kl1 false w))))
def zAv (x0:Sl) (x1:Int) (x2:Int) (x3:Int) (x4:Value) (w:World) (Ret:World->Prop):Prop:=
 ∃ (I:Int->World->Prop) (μ:Int->World->Nat),I x1 w/\∀ (x10:Int) w,I x10 w->Y6 x0 x2 x3 x4 Ret x10 w (λx10' w'=>I x10' w'/\μ x10' w'<μ x10 w)
set_option maxRecDepth 100000 in
theorem zFH (x0:Sl) (x1:Int) (x2:Int) (x3:Int) (x4:Value) (w:World) (Ret:World->Prop) (H:zAv x0 x1 x2 x3 x4 w Ret):Cl zA 144 [(Sl.v x0),(.int .i64 x1),(.int .i64 x2),(.int .i64 x3),x4].toArray w (λe w'=>e=.returned (.tuple [].toArray)/\Ret w'):=by
 unfold zAv at H
 refine zp 82 (zipE 0 [(Sl.v x0),(.int .i64 x1),(.int .i64 x2),(.int .i64 x3),x4]) Tryz.func144 rfl rfl (by rfl) rfl ?_
 intro a g
 have g:Sat [] 82 [(0,(Sl.v x0)),(1,(.int .i64 x1)),(2,(.int .i64 x2)),(3,(.int .i64 x3)),(4,x4)] a:=g
 refine zI (zE (g.m rfl λ_ g=>g.s rfl λ_ g=>zL (tn (zX ?_))))
 obtain ⟨I_l1,μ_l1,h0,hb⟩:=H
 refine yE (ds:=[]) (N:=82) (σ:=Int) (λs=>[(10,(.int .i64 s)),(0,(Sl.v x0)),(2,(.int .i64 x2)),(3,(.int .i64 x3)),(4,x4)]) (λs w=>I_l1 s w) (λs w=>μ_l1 s w) x1 h0 (g.k) ?_
 intro x10 w a hI g
 try dsimp only at hI g
 obtain ⟨Kl1,hK_l1⟩:∃ K:Int->World->Prop,K=(λx10' w'=>I_l1 x10' w'/\μ_l1 x10' w'<μ_l1 x10 w):=⟨_,rfl⟩
 have H:Y6 x0 x2 x3 x4 Ret x10 w Kl1:=by rw [hK_l1];exact hb x10 w hI
 clear hb h0 hI
 unfold Y6 at H
 refine zX (zI (zE (g.m rfl λ_ g=>g.p (zF8 g rfl rfl) λ_ g=>g.p (zr g rfl rfl) λ_ g=>g.s rfl λ_ g=>zL (tn (zI (zI (zE (g.m rfl λ_ g=>g.m rfl λ_ g=>g.p (Zm g rfl rfl) λ_ g=>zL (tn (zd g rfl (λhc=>?_) (λhc=>?_)))))))))))
 ·have H:=H.1 hc
  exact z7 (te (bo (te (be (zBg g rfl ⟨rfl,H⟩)))))
 ·have H:=H.2 hc
  refine zY (tn (z8 (ds:=[]) (N:=82) (σ:=Int) (λs=>[(11,(.int .i64 s)),(0,(Sl.v x0)),(2,(.int .i64 x2)),(3,(.int .i64 x3)),(4,x4),(10,(.int .i64 x10))]) (λs w=>xX x0 x3 x4 Ret x10 Kl1 s w) ?_ (λhj2=>?_)))
  ·intro x11 w a H g
   try dsimp only at H g
   unfold xX at H
   refine zI (zI (QU (by kernel_rfl) (by kernel_rfl) (g.t rfl λ_ g=>g.t rfl λ_ g=>g.t rfl λ_ g=>g.t rfl λ_ g=>g.r (zr g rfl rfl) λ_ g=>g.A (zH g rfl rfl) H λx48 a H g=>g.A (zO g rfl) H λx49 a H g=>g.t rfl λ_ g=>g.t rfl λ_ g=>g.t rfl λ_ g=>g.r (zr g rfl rfl) λ_ g=>g.A (zH g rfl rfl) H λx54 a H g=>g.A (zO g rfl) H λx55 a H g=>?_)))
   obtain ⟨r,hc,H⟩:=H
   refine g.qcallV rfl rfl hc λ_ g=>g.r (yR g rfl rfl) λ_ g=>g.r (zAJ g rfl) λ_ g=>Qb (λw hB=>?_)
   replace H:=H w hB
   refine (tn (zk g rfl (λhc=>?_) (λhc=>?_)))
   ·have H:=H.1 hc
    exact zl (tr (br (tr (br (zE1 g rfl ⟨rfl,H⟩)))))
   ·have H:=H.2 hc
    refine zY (tn (z8 (ds:=[]) (N:=82) (σ:=Unit) (λs=>[(0,(Sl.v x0)),(2,(.int .i64 x2)),(3,(.int .i64 x3)),(4,x4),(11,(.int .i64 x11))]) (λs w=>YD Kl1 x11 w) ?_ (λhj3=>?_)))
    ·rintro ⟨⟩ w a H g
     try dsimp only at H g
     unfold YD at H
     refine zE (g.m rfl λ_ g=>g.s rfl λ_ g=>?_)
     rw [hK_l1] at H
     exact zL (bn (tn ⟨x11,g.k,H⟩))
    ·refine zCC 24 λw hB=>?_
     replace H:=H w hB
     refine g.x 0 rfl (zR g rfl) λ_ g=>g.x 1 rfl (zR g rfl) λ_ g=>g.x 2 rfl (zR g rfl) λ_ g=>g.x 3 rfl (zr g rfl rfl) λ_ g=>g.x 4 rfl (zR g rfl) λ_ g=>g.x 5 rfl (zR g rfl) λ_ g=>g.x 6 rfl (zR g rfl) λ_ g=>g.x 7 rfl (zr g rfl rfl) λ_ g=>g.x 8 rfl (zR g rfl) λ_ g=>g.x 9 rfl (zR g rfl) λ_ g=>g.x 10 rfl (zR g rfl) λ_ g=>g.x 11 rfl (zr g rfl rfl) λ_ g=>g.y 12 rfl (zH g rfl rfl) H λx71 a H g=>g.x 14 rfl (zR g rfl) λ_ g=>g.x 15 rfl (zR g rfl) λ_ g=>g.x 16 rfl (zR g rfl) λ_ g=>g.x 17 rfl (zr g rfl rfl) λ_ g=>g.y 18 rfl (zH g rfl rfl) H λx77 a H g=>WA.tw 13 19 rfl rfl ?_ ?_
     ·have H:=H.1
      intro K hK
      exact g.i (zO g rfl) H λx72 w a H g=>hK _ _ (g.j 19 rfl (zO g rfl) H λx78 w a H g=>g.y 20 rfl (zH g rfl rfl) H λx79 a H g=>g.l 21 rfl (zT g rfl rfl) H λw a H g=>g.y 22 rfl (zH g rfl rfl) H λx80 a H g=>g.l 23 rfl (zT g rfl rfl) H λw a H g=>WA.ni ((tn (hj3 () _ _ H (g.k)))))
     ·have H:=H.2
      intro K hK
      exact g.i (zO g rfl) H λx78_1 w a H g=>hK _ _ (g.j 13 rfl (zO g rfl) H λx72_1 w a H g=>g.y 20 rfl (zH g rfl rfl) H λx79_1 a H g=>g.l 21 rfl (zT g rfl rfl) H λw a H g=>g.y 22 rfl (zH g rfl rfl) H λx80_1 a H g=>g.l 23 rfl (zT g rfl rfl) H λw a H g=>WA.ni ((tn (hj3 () _ _ H (g.k)))))
  ·refine zI (QU (by kernel_rfl) (by kernel_rfl) (g.t rfl λ_ g=>g.r (zr g rfl rfl) λ_ g=>g.t rfl λ_ g=>g.r (yR g rfl rfl) λ_ g=>g.t rfl λ_ g=>WQ.join (ds:=[]) (N:=82) (σ:=Bool) (λs=>[(40,(.bool s)),(0,(Sl.v x0)),(2,(.int .i64 x2)),(3,(.int .i64 x3)),(4,x4),(10,(.int .i64 x10)),(11,(.int .i64 (zC .i64 ((zC .i64 (2*x10))+1))))]) (λs=>xa x0 x3 x4 Ret x10 Kl1 s w) 17 ?_ (λhr4=>?_)))
   ·intro x40 a H g
    try dsimp only at H g
    unfold xa at H
    refine Qb (λw hB=>?_)
    replace H:=H w hB
    refine (tn (zk g rfl (λhc=>?_) (λhc=>?_)))
    ·have H:=H.1 hc
     exact zE (g.m rfl λ_ g=>g.p (zr g rfl rfl) λ_ g=>g.s rfl λ_ g=>zL (tn (hj2 (zC .i64 ((zC .i64 ((zC .i64 (2*x10))+1))+1)) _ _ H (g.k))))
    ·have H:=H.2 hc
     exact zY (tn (hj2 (zC .i64 ((zC .i64 (2*x10))+1)) _ _ H (g.k)))
   ·rcases Classical.em (((zC .i64 ((zC .i64 ((zC .i64 (2*x10))+1))+1))<x2)) with hbr4|hbr4
    ·have H:=H.1 hbr4
     have g:=g.b (b:=true) (t:=23) rfl (decide_eq_true hbr4)
     refine g.e (g.t rfl λ_ g=>g.e (g.t rfl λ_ g=>g.e (g.t rfl λ_ g=>g.e (g.t rfl λ_ g=>g.e (g.r (zr g rfl rfl) λ_ g=>g.e (g.A (zH g rfl rfl) H λx29 a H g=>g.e (g.A (zO g rfl) H λx30 a H g=>g.e (g.t rfl λ_ g=>g.e (g.t rfl λ_ g=>g.e (g.t rfl λ_ g=>g.e (g.r (zr g rfl rfl) λ_ g=>g.e (g.r (zr g rfl rfl) λ_ g=>g.e (g.A (zH g rfl rfl) H λx36 a H g=>g.e (g.A (zO g rfl) H λx37 a H g=>g.e ?_))))))))))))))
     obtain ⟨r_1,hc,H⟩:=H
     exact g.qcallV rfl rfl hc λ_ g=>g.e (g.r (yR g rfl rfl) λ_ g=>g.r (zx g rfl rfl) λ_ g=>hr4 (decide (r_1<0)) _ H (g.k))
    ·have H:=H.2 hbr4
     have g:=g.b (b:=false) (t:=23) rfl (decide_eq_false hbr4)
     exact g.g (λ_ g=>g.g (λ_ g=>g.g (λ_ g=>g.g (λ_ g=>g.g (λ_ g=>g.g (λ_ g=>g.g (λ_ g=>g.g (λ_ g=>g.g (λ_ g=>g.g (λ_ g=>g.g (λ_ g=>g.g (λ_ g=>g.g (λ_ g=>g.g (λ_ g=>g.g (λ_ g=>g.g (λ_ g=>g.r (zy g rfl rfl) λ_ g=>hr4 false _ H (g.k)))))))))))))))))
def Zo (x0:Sl) (x1:Int) (x2:Option Addr) (x3:Value) (w:World) (Ret:Int->World->Prop):Prop:=
 Cl zA 146 [(Sl.v x0),(.int .i64 (zC .i64 (x1 - 1))),(.int .i64 x1),(.int .i64 (zC .i64 (x1+1))),(.pointer x2),x3].toArray w (λe w=>∃ (r:Int),e=.returned (.int .i64 r)/\(Ret r w))
set_option maxRecDepth 100000 in
theorem zDX (x0:Sl) (x1:Int) (x2:Option Addr) (x3:Value) (w:World) (Ret:Int->World->Prop) (H:Zo x0 x1 x2 x3 w Ret):Cl zA 145 [(Sl.v x0),(.int .i64 x1),(.pointer x2),x3].toArray w (λe w'=>∃ (r0:Int),e=.returned (.int .i64 r0)/\Ret r0 w'):=by
 unfold Zo at H
 refine zp 18 (zipE 0 [(Sl.v x0),(.int .i64 x1),(.pointer x2),x3]) Tryz.func145 rfl rfl (by rfl) rfl ?_
 intro a g
 have g:Sat [] 18 [(0,(Sl.v x0)),(1,(.int .i64 x1)),(2,(.pointer x2)),(3,x3)] a:=g
 refine zI (zE (g.s rfl λ_ g=>zL (tn (zI (zE (g.m rfl λ_ g=>g.m rfl λ_ g=>g.p (zv g rfl rfl) λ_ g=>g.m rfl λ_ g=>g.m rfl λ_ g=>g.p (zr g rfl rfl) λ_ g=>g.m rfl λ_ g=>g.m rfl λ_ g=>g.c (zb g zQ7 rfl rfl) H λe w H=>?_))))))
 obtain ⟨r,rfl,H⟩:=H
 exact ⟨_,rfl,λ_ g=>(g.s rfl λ_ g=>zL (tn (zl (zw g rfl rfl ⟨_,rfl,H⟩))))⟩
def zBK (x0:Sl) (x1:Int) (x2:Int) (x3:Int) (x4:Option Addr) (x5:Value) (w:World) (Ret:Int->World->Prop):Prop:=
 Cl zA 149 [(Sl.v x0),(.int .i64 x1),(.int .i64 x2),(.pointer x4),x5].toArray w (λe w=>∃ (r:Int) (r_1:Int),e=.returned (.tuple [(.int .i64 r),(.int .i64 r_1)].toArray)/\(Cl zA 149 [(Sl.v x0),(.int .i64 r_1),(.int .i64 x3),(.pointer x4),x5].toArray w (λe w=>∃ (r_2:Int) (r_3:Int),e=.returned (.tuple [(.int .i64 r_2),(.int .i64 r_3)].toArray)/\(Cl zA 149 [(Sl.v x0),(.int .i64 r),(.int .i64 r_2),(.pointer x4),x5].toArray w (λe w=>∃ (r_4:Int) (r_5:Int),e=.returned (.tuple [(.int .i64 r_4),(.int .i64 r_5)].toArray)/\(Ret r_5 w))))))
set_option maxRecDepth 100000 in
theorem zFn (x0:Sl) (x1:Int) (x2:Int) (x3:Int) (x4:Option Addr) (x5:Value) (w:World) (Ret:Int->World->Prop) (H:zBK x0 x1 x2 x3 x4 x5 w Ret):Cl zA 146 [(Sl.v x0),(.int .i64 x1),(.int .i64 x2),(.int .i64 x3),(.pointer x4),x5].toArray w (λe w'=>∃ (r0:Int),e=.returned (.int .i64 r0)/\Ret r0 w'):=by
 unfold zBK at H
 refine zp 41 (zipE 0 [(Sl.v x0),(.int .i64 x1),(.int .i64 x2),(.int .i64 x3),(.pointer x4),x5]) Tryz.func146 rfl rfl (by rfl) rfl ?_
 intro a g
 have g:Sat [] 41 [(0,(Sl.v x0)),(1,(.int .i64 x1)),(2,(.int .i64 x2)),(3,(.int .i64 x3)),(4,(.pointer x4)),(5,x5)] a:=g
 refine zI (zE (g.s rfl λ_ g=>zL (tn (zI (zE (g.m rfl λ_ g=>g.m rfl λ_ g=>g.m rfl λ_ g=>g.m rfl λ_ g=>g.m rfl λ_ g=>g.c (zb g zNu rfl rfl) H λe w H=>?_))))))
 obtain ⟨r,r_1,rfl,H⟩:=H
 refine ⟨_,rfl,λ_ g=>(g.m rfl λ_ g=>g.p (zc g rfl rfl) λ_ g=>g.p (zc g rfl rfl) λ_ g=>g.s rfl λ_ g=>g.s rfl λ_ g=>zL (tn (zI (zE (g.m rfl λ_ g=>g.m rfl λ_ g=>g.m rfl λ_ g=>g.m rfl λ_ g=>g.m rfl λ_ g=>g.c (zb g zNu rfl rfl) H λe w H=>?_)))))⟩
 obtain ⟨r_2,r_3,rfl,H⟩:=H
 refine ⟨_,rfl,λ_ g=>(g.m rfl λ_ g=>g.p (zc g rfl rfl) λ_ g=>g.p (zc g rfl rfl) λ_ g=>g.s rfl λ_ g=>g.s rfl λ_ g=>zL (tn (zI (zE (g.m rfl λ_ g=>g.m rfl λ_ g=>g.m rfl λ_ g=>g.m rfl λ_ g=>g.m rfl λ_ g=>g.c (zb g zNu rfl rfl) H λe w H=>?_)))))⟩
 obtain ⟨r_4,r_5,rfl,H⟩:=H
 exact ⟨_,rfl,λ_ g=>(g.m rfl λ_ g=>g.p (zc g rfl rfl) λ_ g=>g.p (zc g rfl rfl) λ_ g=>g.s rfl λ_ g=>g.s rfl λ_ g=>zL (tn (zI (zE (g.m rfl λ_ g=>g.s rfl λ_ g=>zL (tn (zl (zw g rfl rfl ⟨_,rfl,H⟩))))))))⟩
def zBT (x0:Sl) (x1:Int) (x2:Int) (x3:Option Addr) (x4:Value) (w:World) (Ret:Int->Int->World->Prop):Prop:=
 opB zA zB (zF 30 (Sl.v x0) (.int .i64 x2)) w (λx15=>opB zA zJ.v (zD 34 (.pointer x15)) w (λx16=>opB zA zB (zF 30 (Sl.v x0) (.int .i64 x1)) w (λx19=>opB zA zJ.v (zD 34 (.pointer x19)) w (λx20=>∃ (r:Int),Zs zA x4 [(zJ.v x16),(zJ.v x20)] w (.int .i64 r)/\(yM w (λw=>((r<0)->(Qg (.pointer x3)/\(opE zA (zV .i64) (zD 3 (.pointer x3)) w (λx25 w=>Qg (.pointer x3)/\(opU zA (zK 3 (.pointer x3) (.int .i64 (zC .i64 (x25+1)))) w (λw=>Ret x2 x1 w))))))/\(¬ (r<0)->(Ret x1 x2 w))))))))
set_option maxRecDepth 100000 in
theorem zFo (x0:Sl) (x1:Int) (x2:Int) (x3:Option Addr) (x4:Value) (w:World) (Ret:Int->Int->World->Prop) (H:zBT x0 x1 x2 x3 x4 w Ret):Cl zA 149 [(Sl.v x0),(.int .i64 x1),(.int .i64 x2),(.pointer x3),x4].toArray w (λe w'=>∃ (r0:Int) (r1:Int),e=.returned (.tuple [(.int .i64 r0),(.int .i64 r1)].toArray)/\Ret r0 r1 w'):=by
 unfold zBT at H
 refine zp 32 (zipE 0 [(Sl.v x0),(.int .i64 x1),(.int .i64 x2),(.pointer x3),x4]) Tryz.func149 rfl rfl (by rfl) rfl ?_
 intro a g
 have g:Sat [] 32 [(0,(Sl.v x0)),(1,(.int .i64 x1)),(2,(.int .i64 x2)),(3,(.pointer x3)),(4,x4)] a:=g
 refine zI (zE (g.s rfl λ_ g=>g.s rfl λ_ g=>zL (tn (zI (zI (QU (by kernel_rfl) (by kernel_rfl) (g.t rfl λ_ g=>g.t rfl λ_ g=>g.t rfl λ_ g=>g.A (zH g rfl rfl) H λx15 a H g=>g.A (zO g rfl) H λx16 a H g=>g.t rfl λ_ g=>g.t rfl λ_ g=>g.A (zH g rfl rfl) H λx19 a H g=>g.A (zO g rfl) H λx20 a H g=>?_)))))))
 obtain ⟨r,hc,H⟩:=H
 refine g.qcallV rfl rfl hc λ_ g=>g.r (yR g rfl rfl) λ_ g=>Qb (λw hB=>?_)
 replace H:=H w hB
 refine (tn (zd g rfl (λhc=>?_) (λhc=>?_)))
 ·have H:=H.1 hc
  refine zI (zE (g.m rfl λ_ g=>g.p (zj g rfl H.1) λ_ g=>?_))
  have H:=H.2
  refine g.o (zO g rfl) H λx25 w a H g=>g.p (zr g rfl rfl) λ_ g=>g.p (zj g rfl H.1) λ_ g=>?_
  have H:=H.2
  exact g.h (zT g rfl rfl) H λw a H g=>zL (tn (zI (zE (g.m rfl λ_ g=>g.m rfl λ_ g=>g.s rfl λ_ g=>g.s rfl λ_ g=>zL (tn (zl (tr (ZK g rfl rfl rfl ⟨_,_,rfl,H⟩))))))))
 ·have H:=H.2 hc
  exact zY (tn (zI (zE (g.m rfl λ_ g=>g.m rfl λ_ g=>g.s rfl λ_ g=>g.s rfl λ_ g=>zL (tn (zl (ZK g rfl rfl rfl ⟨_,_,rfl,H⟩)))))))
end Go.Proofs.YtealcoghiaeiiaaGreat.VG
