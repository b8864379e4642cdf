/- Texts by which the law's calls are walked (part 2): rules, printed conditions, contracts; no condition. -/
import Derived.TacticsIn
import Derived.TacticsInMore
import Derived.Deep.LoopGhost
import Derived.Sort.QuietThIn
import Derived.RangeFuncCalls
import Derived.RangeFuncNested
import Derived.RangeFuncLeaves
import Derived.WalkKit
import Derived.StillTail
import Derived.Test.YtealcoghiaeiiaaGreatProg
import Derived.KernelRfl
import Derived.Test.YtealcoghiaeiiaaGreatPkTxnSerialA
open Go.Proofs.Tryz renaming prog → zA
open Go.IntKind renaming wrap → zC
open Go.Value renaming pointer → zB, int → zV, string → zZ, bool → xv
open Go.Instr renaming loadAt → zD, storeAt → zK, indexAt → zF, fieldAt → zN, alloc → zf, build → yr, buildSlice → ze
open Nat renaming le_refl → zU, le_trans → zn, lt_of_lt_of_le → yF
open List renaming length_append → zg
set_option linter.unusedVariables false
set_option linter.unusedSimpArgs false
namespace Go.Proofs.YtealcoghiaeiiaaGreat.VG
open Go.VB Go.Proofs
def zAm (x0:Sl) (x1:Value) (w:World) (Ret:World->Prop):Prop:=
 opE zA (zV .u64) (Go.convert 3 143 (.int .i64 (x0.len:Int))) w (λx10 w=>Cl zA 73 [(.int .u64 x10)].toArray w (λe w=>∃ (r:Int),e=.returned (.int .i64 r)/\(Cl zA 72 [(Sl.v x0),(.int .i64 0),(.int .i64 (x0.len:Int)),(.int .i64 r),x1].toArray w (λe w=>e=.returned (.tuple [].toArray)/\(Ret w)))))
set_option maxRecDepth 100000 in
theorem zEw (x0:Sl) (x1:Value) (w:World) (Ret:World->Prop) (H:zAm x0 x1 w Ret):Cl zA 46 [(Sl.v x0),x1].toArray w (λe w'=>e=.returned (.tuple [].toArray)/\Ret w'):=by
 unfold zAm at H
 refine zp 14 (zipE 0 [(Sl.v x0),x1]) Tryz.func46 rfl rfl (by rfl) rfl ?_
 intro a g
 have g:Sat [] 14 [(0,(Sl.v x0)),(1,x1)] a:=g
 refine zI (zE (g.m rfl λ_ g=>g.purR (λw=>ZU g Tryz.underlying22 rfl) λ_ g=>g.s rfl λ_ g=>zL (tn (zE (g.m rfl λ_ g=>g.m rfl λ_ g=>g.m rfl λ_ g=>g.o (zBw g rfl) H λx10 w a H g=>g.c (zb g zO3 rfl rfl) H λe w H=>?_)))))
 obtain ⟨r,rfl,H⟩:=H
 refine ⟨_,rfl,λ_ g=>(g.m rfl λ_ g=>g.c (zb g zQr rfl rfl) H λe w H=>?_)⟩
 obtain ⟨rfl,H⟩:=H
 exact ⟨_,rfl,λ_ g=>(zL (zBg g rfl ⟨rfl,H⟩))⟩
def Ye (x0:Sl) (x4:Value) (x1_1:Int) (x2_1:Int) (x10:Bool) (x11:Bool) (Kl1:Int->Int->Int->Bool->Bool->World->Prop) (x3_2:Int) (x13:Int) (x97:Bool) (w:World):Prop:=
 yM w (λw=>(x97=true->(Cl zA 96 [(Sl.v x0),(.int .i64 x1_1),(.int .i64 x2_1),(.int .i64 x13),x4].toArray w (λe w=>∃ (r_2:Int),e=.returned (.int .i64 r_2)/\(Kl1 r_2 x2_1 x3_2 x10 x11 w))))/\(x97=false->(Cl zA 97 [(Sl.v x0),(.int .i64 x1_1),(.int .i64 x2_1),(.int .i64 x13),x4].toArray w (λe w=>∃ (r_3:Int) (r_4:Bool),e=.returned (.tuple [(.int .i64 r_3),(.bool r_4)].toArray)/\(opE zA (zV .i64) (binOp .quo 3 (.int .i64 (zC .i64 (x2_1 - x1_1))) (.int .i64 8)) w (λx122 w=>(((zC .i64 (r_3 - x1_1))<(zC .i64 (x2_1 - r_3)))->(Cl zA 72 [(Sl.v x0),(.int .i64 x1_1),(.int .i64 r_3),(.int .i64 x3_2),x4].toArray w (λe w=>e=.returned (.tuple [].toArray)/\(Kl1 (zC .i64 (r_3+1)) x2_1 x3_2 (decide (x122<=(zC .i64 (r_3 - x1_1)))) r_4 w))))/\(¬ ((zC .i64 (r_3 - x1_1))<(zC .i64 (x2_1 - r_3)))->(Cl zA 72 [(Sl.v x0),(.int .i64 (zC .i64 (r_3+1))),(.int .i64 x2_1),(.int .i64 x3_2),x4].toArray w (λe w=>e=.returned (.tuple [].toArray)/\(Kl1 x1_1 r_3 x3_2 (decide (x122<=(zC .i64 (x2_1 - r_3)))) r_4 w))))))))))
def QQ (x0:Sl) (x4:Value) (x1_1:Int) (x2_1:Int) (x10:Bool) (x11:Bool) (Kl1:Int->Int->Int->Bool->Bool->World->Prop) (x3_2:Int) (x13:Int) (w:World):Prop:=
 ((0<x1_1)->(opB zA zB (zF 22 (Sl.v x0) (.int .i64 (zC .i64 (x1_1 - 1)))) w (λx88=>opB zA zM.v (zD 66 (.pointer x88)) w (λx89=>opB zA zB (zF 22 (Sl.v x0) (.int .i64 x13)) w (λx92=>opB zA zM.v (zD 66 (.pointer x92)) w (λx93=>∃ (r_5:Int),Zs zA x4 [(zM.v x89),(zM.v x93)] w (.int .i64 r_5)/\(Ye x0 x4 x1_1 x2_1 x10 x11 Kl1 x3_2 x13 (!(decide (r_5<0))) w)))))))/\(¬ (0<x1_1)->(Ye x0 x4 x1_1 x2_1 x10 x11 Kl1 x3_2 x13 false w))
def QP (x0:Sl) (x4:Value) (Ret:World->Prop) (x1_1:Int) (x2_1:Int) (x10:Bool) (x11:Bool) (Kl1:Int->Int->Int->Bool->Bool->World->Prop) (x3_2:Int) (x13:Int) (x75:Bool) (w:World):Prop:=
 (x75=true->(Cl zA 95 [(Sl.v x0),(.int .i64 x1_1),(.int .i64 x2_1),x4].toArray w (λe w=>∃ (r_6:Bool),e=.returned (.bool r_6)/\((r_6=true->(Ret w))/\(r_6=false->(QQ x0 x4 x1_1 x2_1 x10 x11 Kl1 x3_2 x13 w))))))/\(x75=false->(QQ x0 x4 x1_1 x2_1 x10 x11 Kl1 x3_2 x13 w))
def Yg (x0:Sl) (x4:Value) (Ret:World->Prop) (x1_1:Int) (x2_1:Int) (x10:Bool) (x11:Bool) (Kl1:Int->Int->Int->Bool->Bool->World->Prop) (x3_2:Int) (x13:Int) (x14:Int) (x71:Bool) (w:World):Prop:=
 (x71=true->(QP x0 x4 Ret x1_1 x2_1 x10 x11 Kl1 x3_2 x13 (decide (x14=1)) w))/\(x71=false->(QP x0 x4 Ret x1_1 x2_1 x10 x11 Kl1 x3_2 x13 false w))
def QT (x0:Sl) (x4:Value) (Ret:World->Prop) (x1_1:Int) (x2_1:Int) (x10:Bool) (x11:Bool) (Kl1:Int->Int->Int->Bool->Bool->World->Prop) (x3_2:Int) (x13:Int) (x14:Int) (w:World):Prop:=
 (x10=true->(Yg x0 x4 Ret x1_1 x2_1 x10 x11 Kl1 x3_2 x13 x14 x11 w))/\(x10=false->(Yg x0 x4 Ret x1_1 x2_1 x10 x11 Kl1 x3_2 x13 x14 false w))
def QS (x0:Sl) (x4:Value) (Ret:World->Prop) (x1_1:Int) (x2_1:Int) (x10:Bool) (x11:Bool) (Kl1:Int->Int->Int->Bool->Bool->World->Prop) (x3_2:Int) (w:World):Prop:=
 Cl zA 93 [(Sl.v x0),(.int .i64 x1_1),(.int .i64 x2_1),x4].toArray w (λe w=>∃ (r:Int) (r_1:Int),e=.returned (.tuple [(.int .i64 r),(.int .i64 r_1)].toArray)/\(((r_1=2)->(Cl zA 94 [(Sl.v x0),(.int .i64 x1_1),(.int .i64 x2_1),x4].toArray w (λe w=>e=.returned (.tuple [].toArray)/\(QT x0 x4 Ret x1_1 x2_1 x10 x11 Kl1 x3_2 (zC .i64 ((zC .i64 (x2_1 - 1)) - (zC .i64 (r - x1_1)))) 1 w))))/\(¬ (r_1=2)->(QT x0 x4 Ret x1_1 x2_1 x10 x11 Kl1 x3_2 r r_1 w))))
def YU (x0:Sl) (x4:Value) (Ret:World->Prop) (x1_1:Int) (x2_1:Int) (x3_1:Int) (x10:Bool) (x11:Bool) (w:World) (Kl1:Int->Int->Int->Bool->Bool->World->Prop):Prop:=
 (((zC .i64 (x2_1 - x1_1))<=12)->(Cl zA 90 [(Sl.v x0),(.int .i64 x1_1),(.int .i64 x2_1),x4].toArray w (λe w=>e=.returned (.tuple [].toArray)/\(Ret w))))/\(¬ ((zC .i64 (x2_1 - x1_1))<=12)->(((x3_1=0)->(Cl zA 91 [(Sl.v x0),(.int .i64 x1_1),(.int .i64 x2_1),x4].toArray w (λe w=>e=.returned (.tuple [].toArray)/\(Ret w))))/\(¬ (x3_1=0)->(((!x10)=true->(Cl zA 92 [(Sl.v x0),(.int .i64 x1_1),(.int .i64 x2_1),x4].toArray w (λe w=>e=.returned (.tuple [].toArray)/\(QS x0 x4 Ret x1_1 x2_1 x10 x11 Kl1 (zC .i64 (x3_1 - 1)) w))))/\((!x10)=false->(QS x0 x4 Ret x1_1 x2_1 x10 x11 Kl1 x3_1 w))))))
def Zv (x0:Sl) (x1:Int) (x2:Int) (x3:Int) (x4:Value) (w:World) (Ret:World->Prop):Prop:=
 ∃ (I:Int->Int->Int->Bool->Bool->World->Prop) (μ:Int->Int->Int->Bool->Bool->World->Nat),I x1 x2 x3 true true w/\∀ (x1_1:Int) (x2_1:Int) (x3_1:Int) (x10:Bool) (x11:Bool) w,I x1_1 x2_1 x3_1 x10 x11 w->YU x0 x4 Ret x1_1 x2_1 x3_1 x10 x11 w (λx1_1' x2_1' x3_1' x10' x11' w'=>I x1_1' x2_1' x3_1' x10' x11' w'/\μ x1_1' x2_1' x3_1' x10' x11' w'<μ x1_1 x2_1 x3_1 x10 x11 w)
set_option maxRecDepth 100000 in
theorem zCO (x0:Sl) (x1:Int) (x2:Int) (x3:Int) (x4:Value) (w:World) (Ret:World->Prop) (H:Zv x0 x1 x2 x3 x4 w Ret):Cl zA 72 [(Sl.v x0),(.int .i64 x1),(.int .i64 x2),(.int .i64 x3),x4].toArray w (λe w'=>e=.returned (.tuple [].toArray)/\Ret w'):=by
 unfold Zv at H
 refine zp 148 (zipE 0 [(Sl.v x0),(.int .i64 x1),(.int .i64 x2),(.int .i64 x3),x4]) Tryz.func72 rfl rfl (by rfl) rfl ?_
 intro a g
 have g:Sat [] 148 [(0,(Sl.v x0)),(1,(.int .i64 x1)),(2,(.int .i64 x2)),(3,(.int .i64 x3)),(4,x4)] a:=g
 refine zI (zE (g.s rfl λ_ g=>zL (tn (zI (zE (g.s rfl λ_ g=>zL (tn (zX ?_))))))))
 obtain ⟨I_l1,μ_l1,h0,hb⟩:=H
 refine yE (ds:=[]) (N:=148) (σ:=Int × Int × Int × Bool × Bool) (λs=>[(1,(.int .i64 s.1)),(2,(.int .i64 s.2.1)),(3,(.int .i64 s.2.2.1)),(10,(.bool s.2.2.2.1)),(11,(.bool s.2.2.2.2)),(0,(Sl.v x0)),(4,x4)]) (λs w=>I_l1 s.1 s.2.1 s.2.2.1 s.2.2.2.1 s.2.2.2.2 w) (λs w=>μ_l1 s.1 s.2.1 s.2.2.1 s.2.2.2.1 s.2.2.2.2 w) (x1,x2,x3,true,true) h0 (g.k) ?_
 rintro ⟨x1_1,x2_1,x3_1,x10,x11⟩ w a hI g
 try dsimp only at hI g
 obtain ⟨Kl1,hK_l1⟩:∃ K:Int->Int->Int->Bool->Bool->World->Prop,K=(λx1_1' x2_1' x3_1' x10' x11' w'=>I_l1 x1_1' x2_1' x3_1' x10' x11' w'/\μ_l1 x1_1' x2_1' x3_1' x10' x11' w'<μ_l1 x1_1 x2_1 x3_1 x10 x11 w):=⟨_,rfl⟩
 have H:YU x0 x4 Ret x1_1 x2_1 x3_1 x10 x11 w Kl1:=by rw [hK_l1];exact hb x1_1 x2_1 x3_1 x10 x11 w hI
 clear hb h0 hI
 unfold YU at H
 refine zX (zI (zE (g.m rfl λ_ g=>g.m rfl λ_ g=>g.p (zv g rfl rfl) λ_ g=>g.s rfl λ_ g=>zL (tn (zI (zI (zE (g.m rfl λ_ g=>g.p (zCw g rfl rfl) λ_ g=>zL (tn (zd g rfl (λhc=>?_) (λhc=>?_)))))))))))
 ·have H:=H.1 hc
  refine zI (zE (g.m rfl λ_ g=>g.m rfl λ_ g=>g.m rfl λ_ g=>g.m rfl λ_ g=>g.c (zb g zSn rfl rfl) H λe w H=>?_))
  obtain ⟨rfl,H⟩:=H
  exact ⟨_,rfl,λ_ g=>(zL (tn (zl (tr (br (tr (br (zE1 g rfl ⟨rfl,H⟩))))))))⟩
 ·have H:=H.2 hc
  refine zY (tn (zI (zI (zE (g.m rfl λ_ g=>g.p (Zb g rfl rfl) λ_ g=>zL (tn (zd g rfl (λhc=>?_) (λhc=>?_))))))))
  ·have H:=H.1 hc
   refine zI (zE (g.m rfl λ_ g=>g.m rfl λ_ g=>g.m rfl λ_ g=>g.m rfl λ_ g=>g.c (zb g zTc rfl rfl) H λe w H=>?_))
   obtain ⟨rfl,H⟩:=H
   exact ⟨_,rfl,λ_ g=>(zL (tn (zl (tr (br (tr (br (zE1 g rfl ⟨rfl,H⟩))))))))⟩
  ·have H:=H.2 hc
   refine zY (tn (z8 (ds:=[]) (N:=148) (σ:=Int) (λs=>[(3,(.int .i64 s)),(0,(Sl.v x0)),(1,(.int .i64 x1_1)),(2,(.int .i64 x2_1)),(4,x4),(10,(.bool x10)),(11,(.bool x11)),(12,(.int .i64 (zC .i64 (x2_1 - x1_1))))]) (λs w=>QS x0 x4 Ret x1_1 x2_1 x10 x11 Kl1 s w) ?_ (λhj2=>?_)))
   ·intro x3_2 w a H g
    try dsimp only at H g
    unfold QS at H
    refine zI (zE (g.m rfl λ_ g=>g.m rfl λ_ g=>g.m rfl λ_ g=>g.m rfl λ_ g=>g.c (zb g zTM rfl rfl) H λe w H=>?_))
    obtain ⟨r,r_1,rfl,H⟩:=H
    refine ⟨_,rfl,λ_ g=>(g.m rfl λ_ g=>g.p (zc g rfl rfl) λ_ g=>g.p (zc g rfl rfl) λ_ g=>g.s rfl λ_ g=>g.s rfl λ_ g=>zL (tn (z8 (ds:=[]) (N:=148) (σ:=Int × Int) (λs=>[(13,(.int .i64 s.1)),(14,(.int .i64 s.2)),(0,(Sl.v x0)),(1,(.int .i64 x1_1)),(2,(.int .i64 x2_1)),(3,(.int .i64 x3_2)),(4,x4),(10,(.bool x10)),(11,(.bool x11)),(12,(.int .i64 (zC .i64 (x2_1 - x1_1))))]) (λs w=>QT x0 x4 Ret x1_1 x2_1 x10 x11 Kl1 x3_2 s.1 s.2 w) ?_ (λhj3=>?_))))⟩
    ·rintro ⟨x13,x14⟩ w a H g
     try dsimp only at H g
     unfold QT at H
     refine z8 (ds:=[]) (N:=148) (σ:=Unit) (λs=>[(0,(Sl.v x0)),(1,(.int .i64 x1_1)),(2,(.int .i64 x2_1)),(3,(.int .i64 x3_2)),(4,x4),(10,(.bool x10)),(11,(.bool x11)),(12,(.int .i64 (zC .i64 (x2_1 - x1_1)))),(13,(.int .i64 x13))]) (λs w=>QQ x0 x4 x1_1 x2_1 x10 x11 Kl1 x3_2 x13 w) ?_ (λhj4=>?_)
     ·rintro ⟨⟩ w a H g
      try dsimp only at H g
      unfold QQ at H
      refine zI (zI (QU (by kernel_rfl) (by kernel_rfl) (g.t rfl λ_ g=>g.r (zBx g rfl rfl) λ_ g=>g.t rfl λ_ g=>WQ.join (ds:=[]) (N:=148) (σ:=Bool) (λs=>[(97,(.bool s)),(0,(Sl.v x0)),(1,(.int .i64 x1_1)),(2,(.int .i64 x2_1)),(3,(.int .i64 x3_2)),(4,x4),(10,(.bool x10)),(11,(.bool x11)),(12,(.int .i64 (zC .i64 (x2_1 - x1_1)))),(13,(.int .i64 x13))]) (λs=>Ye x0 x4 x1_1 x2_1 x10 x11 Kl1 x3_2 x13 s w) 14 ?_ (λhr5=>?_))))
      ·intro x97 a H g
       try dsimp only at H g
       unfold Ye at H
       refine Qb (λw hB=>?_)
       replace H:=H w hB
       refine (tn (zk g rfl (λhc=>?_) (λhc=>?_)))
       ·have H:=H.1 hc
        refine zI (zE (g.m rfl λ_ g=>g.m rfl λ_ g=>g.m rfl λ_ g=>g.m rfl λ_ g=>g.m rfl λ_ g=>g.c (zb g zTY rfl rfl) H λe w H=>?_))
        obtain ⟨r_2,rfl,H⟩:=H
        refine ⟨_,rfl,λ_ g=>(g.s rfl λ_ g=>zL (tn (zI (zE (g.m rfl λ_ g=>g.s rfl λ_ g=>zL (tn ?_))))))⟩
        rw [hK_l1] at H
        exact z7 (te (be (tn ⟨(r_2,x2_1,x3_2,x10,x11),g.k,H⟩)))
       ·have H:=H.2 hc
        refine zY (tn (zI (zE (g.m rfl λ_ g=>g.m rfl λ_ g=>g.m rfl λ_ g=>g.m rfl λ_ g=>g.m rfl λ_ g=>g.c (zb g zTP rfl rfl) H λe w H=>?_))))
        obtain ⟨r_3,r_4,rfl,H⟩:=H
        refine ⟨_,rfl,λ_ g=>(g.m rfl λ_ g=>g.p (zc g rfl rfl) λ_ g=>g.p (zc g rfl rfl) λ_ g=>g.s rfl λ_ g=>g.s rfl λ_ g=>zL (tn (zI (zE (g.m rfl λ_ g=>g.s rfl λ_ g=>zL (tn (zI (zE (g.m rfl λ_ g=>g.m rfl λ_ g=>g.p (zv g rfl rfl) λ_ g=>g.m rfl λ_ g=>g.m rfl λ_ g=>g.p (zv g rfl rfl) λ_ g=>g.s rfl λ_ g=>g.s rfl λ_ g=>zL (tn (zI (zE (g.m rfl λ_ g=>g.o (ZS g rfl rfl) H λx122 w a H g=>g.s rfl λ_ g=>zL (tn (zI (zE (g.m rfl λ_ g=>g.m rfl λ_ g=>g.p (yR g rfl rfl) λ_ g=>zL (tn (zd g rfl (λhc=>?_) (λhc=>?_))))))))))))))))))))⟩
        ·have H:=H.1 hc
         refine zI (zE (g.m rfl λ_ g=>g.m rfl λ_ g=>g.p (Zm g rfl rfl) λ_ g=>g.s rfl λ_ g=>zL (tn (zI (zE (g.m rfl λ_ g=>g.m rfl λ_ g=>g.m rfl λ_ g=>g.m rfl λ_ g=>g.m rfl λ_ g=>g.c (zb g zQr rfl rfl) H λe w H=>?_))))))
         obtain ⟨rfl,H⟩:=H
         refine ⟨_,rfl,λ_ g=>(zL (tn (zE (g.m rfl λ_ g=>g.p (zr g rfl rfl) λ_ g=>g.s rfl λ_ g=>?_))))⟩
         rw [hK_l1] at H
         exact zL (bn (tn ⟨((zC .i64 (r_3+1)),x2_1,x3_2,(decide (x122<=(zC .i64 (r_3 - x1_1)))),r_4),g.k,H⟩))
        ·have H:=H.2 hc
         refine zI (zE (g.m rfl λ_ g=>g.m rfl λ_ g=>g.p (Zm g rfl rfl) λ_ g=>g.s rfl λ_ g=>zL (tn (zI (zE (g.m rfl λ_ g=>g.m rfl λ_ g=>g.p (zr g rfl rfl) λ_ g=>g.m rfl λ_ g=>g.m rfl λ_ g=>g.m rfl λ_ g=>g.c (zb g zQr rfl rfl) H λe w H=>?_))))))
         obtain ⟨rfl,H⟩:=H
         refine ⟨_,rfl,λ_ g=>(zL (tn (zE (g.m rfl λ_ g=>g.s rfl λ_ g=>?_))))⟩
         rw [hK_l1] at H
         exact zL (bn (tn ⟨(x1_1,r_3,x3_2,(decide (x122<=(zC .i64 (x2_1 - r_3)))),r_4),g.k,H⟩))
      ·rcases Classical.em ((0<x1_1)) with hbr5|hbr5
       ·have H:=H.1 hbr5
        have g:=g.b (b:=true) (t:=83) rfl (decide_eq_true hbr5)
        refine g.e (g.t rfl λ_ g=>g.e (g.t rfl λ_ g=>g.e (g.t rfl λ_ g=>g.e (g.r (zv g rfl rfl) λ_ g=>g.e (g.A (zH g rfl rfl) H λx88 a H g=>g.e (g.A (zO g rfl) H λx89 a H g=>g.e (g.t rfl λ_ g=>g.e (g.t rfl λ_ g=>g.e (g.A (zH g rfl rfl) H λx92 a H g=>g.e (g.A (zO g rfl) H λx93 a H g=>g.e ?_))))))))))
        obtain ⟨r_5,hc,H⟩:=H
        exact g.qcallV rfl rfl hc λ_ g=>g.e (g.r (yR g rfl rfl) λ_ g=>g.e (g.r (zAJ g rfl) λ_ g=>g.r (zx g rfl rfl) λ_ g=>hr5 (!(decide (r_5<0))) _ H (g.k)))
       ·have H:=H.2 hbr5
        have g:=g.b (b:=false) (t:=83) rfl (decide_eq_false hbr5)
        exact g.g (λ_ g=>g.g (λ_ g=>g.g (λ_ g=>g.g (λ_ g=>g.g (λ_ g=>g.g (λ_ g=>g.g (λ_ g=>g.g (λ_ g=>g.g (λ_ g=>g.g (λ_ g=>g.g (λ_ g=>g.g (λ_ g=>g.g (λ_ g=>g.r (zy g rfl rfl) λ_ g=>hr5 false _ H (g.k))))))))))))))
     ·refine zI (zE (g.m rfl λ_ g=>g.m rfl λ_ g=>WL.join (ds:=[]) (N:=148) (σ:=Bool) (λs=>[(71,(.bool s)),(0,(Sl.v x0)),(1,(.int .i64 x1_1)),(2,(.int .i64 x2_1)),(3,(.int .i64 x3_2)),(4,x4),(10,(.bool x10)),(11,(.bool x11)),(12,(.int .i64 (zC .i64 (x2_1 - x1_1)))),(13,(.int .i64 x13)),(14,(.int .i64 x14))]) (λs w=>Yg x0 x4 Ret x1_1 x2_1 x10 x11 Kl1 x3_2 x13 x14 s w) 2 ?_ (λhr6=>?_)))
      ·intro x71 w a H g
       try dsimp only at H g
       unfold Yg at H
       refine g.m rfl λ_ g=>WL.join (ds:=[]) (N:=148) (σ:=Bool) (λs=>[(75,(.bool s)),(0,(Sl.v x0)),(1,(.int .i64 x1_1)),(2,(.int .i64 x2_1)),(3,(.int .i64 x3_2)),(4,x4),(10,(.bool x10)),(11,(.bool x11)),(12,(.int .i64 (zC .i64 (x2_1 - x1_1)))),(13,(.int .i64 x13))]) (λs w=>QP x0 x4 Ret x1_1 x2_1 x10 x11 Kl1 x3_2 x13 s w) 3 ?_ (λhr7=>?_)
       ·intro x75 w a H g
        try dsimp only at H g
        unfold QP at H
        refine zL (tn (zk g rfl (λhc=>?_) (λhc=>?_)))
        ·have H:=H.1 hc
         refine zI (zE (g.m rfl λ_ g=>g.m rfl λ_ g=>g.m rfl λ_ g=>g.m rfl λ_ g=>g.c (zb g zTg rfl rfl) H λe w H=>?_))
         obtain ⟨r_6,rfl,H⟩:=H
         refine ⟨_,rfl,λ_ g=>(zL (tn (zk g rfl (λhc=>?_) (λhc=>?_))))⟩
         ·have H:=H.1 hc
          exact zl (tr (br (tr (br (zE1 g rfl ⟨rfl,H⟩)))))
         ·have H:=H.2 hc
          exact zY (tn (hj4 () _ _ H (g.k)))
        ·have H:=H.2 hc
         exact zY (tn (hj4 () _ _ H (g.k)))
       ·rcases Bool.eq_false_or_eq_true (x71) with hbr7|hbr7
        ·have H:=H.1 hbr7
         have g:=g.b (b:=true) (t:=72) rfl (hbr7)
         exact g.z (g.m rfl λ_ g=>g.z (g.p (Zb g rfl rfl) λ_ g=>g.p (zx g rfl rfl) λ_ g=>hr7 (decide (x14=1)) _ _ H (g.k)))
        ·have H:=H.2 hbr7
         have g:=g.b (b:=false) (t:=72) rfl (hbr7)
         exact g.d (λ_ g=>g.d (λ_ g=>g.p (zy g rfl rfl) λ_ g=>hr7 false _ _ H (g.k)))
      ·rcases Bool.eq_false_or_eq_true (x10) with hbr6|hbr6
       ·have H:=H.1 hbr6
        have g:=g.b (b:=true) (t:=69) rfl (hbr6)
        exact g.z (g.m rfl λ_ g=>g.p (zx g rfl rfl) λ_ g=>hr6 x11 _ _ H (g.k))
       ·have H:=H.2 hbr6
        have g:=g.b (b:=false) (t:=69) rfl (hbr6)
        exact g.d (λ_ g=>g.p (zy g rfl rfl) λ_ g=>hr6 false _ _ H (g.k))
    ·refine zI (zE (g.m rfl λ_ g=>g.p (Zb g rfl rfl) λ_ g=>zL (tn (zd g rfl (λhc=>?_) (λhc=>?_)))))
     ·have H:=H.1 hc
      refine zI (zE (g.m rfl λ_ g=>g.m rfl λ_ g=>g.m rfl λ_ g=>g.m rfl λ_ g=>g.c (zb g zTH rfl rfl) H λe w H=>?_))
      obtain ⟨rfl,H⟩:=H
      exact ⟨_,rfl,λ_ g=>(zL (tn (zI (zE (g.m rfl λ_ g=>g.p (zv g rfl rfl) λ_ g=>g.m rfl λ_ g=>g.m rfl λ_ g=>g.p (zv g rfl rfl) λ_ g=>g.p (zv g rfl rfl) λ_ g=>g.s rfl λ_ g=>zL (tn (zE (g.s rfl λ_ g=>zL (tn (hj3 ((zC .i64 ((zC .i64 (x2_1 - 1)) - (zC .i64 (r - x1_1)))),1) _ _ H (g.k)))))))))))⟩
     ·have H:=H.2 hc
      exact zY (tn (hj3 (r,r_1) _ _ H (g.k)))
   ·refine zI (zE (g.m rfl λ_ g=>g.p (zAJ g rfl) λ_ g=>zL (tn (zk g rfl (λhc=>?_) (λhc=>?_)))))
    ·have H:=H.1 hc
     refine zI (zE (g.m rfl λ_ g=>g.m rfl λ_ g=>g.m rfl λ_ g=>g.m rfl λ_ g=>g.c (zb g zS8 rfl rfl) H λe w H=>?_))
     obtain ⟨rfl,H⟩:=H
     exact ⟨_,rfl,λ_ g=>(zL (tn (zE (g.m rfl λ_ g=>g.p (zv g rfl rfl) λ_ g=>g.s rfl λ_ g=>zL (tn (hj2 (zC .i64 (x3_1 - 1)) _ _ H (g.k)))))))⟩
    ·have H:=H.2 hc
     exact zY (tn (hj2 x3_1 _ _ H (g.k)))
def QJ (x11:Int) (Kl1:Int->World->Prop) (w:World):Prop:=
 Kl1 (zC .i64 (x11+1)) w
def yo (x0:Sl) (x1:Int) (x11:Int) (Kl1:Int->World->Prop) (x12:Int) (w:World):Prop:=
 yM w (λw=>opP zA zB (zF 22 (Sl.v x0) (.int .i64 (zC .i64 (x1+x12)))) (λx59=>opP zA zB (zF 22 (Sl.v x0) (.int .i64 x11)) (λx63=>(opE zA zM.v (zD 66 (.pointer x59)) w (λx60 w=>opE zA zM.v (zD 66 (.pointer x63)) w (λx64 w=>opP zA zB (zF 22 (Sl.v x0) (.int .i64 x11)) (λx65=>opU zA (zK 66 (.pointer x65) (zM.v x60)) w (λw=>opP zA zB (zF 22 (Sl.v x0) (.int .i64 (zC .i64 (x1+x12)))) (λx66=>opU zA (zK 66 (.pointer x66) (zM.v x64)) w (λw=>QJ x11 Kl1 w)))))))/\(opE zA zM.v (zD 66 (.pointer x63)) w (λx64_1 w=>opE zA zM.v (zD 66 (.pointer x59)) w (λx60_1 w=>opP zA zB (zF 22 (Sl.v x0) (.int .i64 x11)) (λx65_1=>opU zA (zK 66 (.pointer x65_1) (zM.v x60_1)) w (λw=>opP zA zB (zF 22 (Sl.v x0) (.int .i64 (zC .i64 (x1+x12)))) (λx66_1=>opU zA (zK 66 (.pointer x66_1) (zM.v x64_1)) w (λw=>QJ x11 Kl1 w))))))))))
def Yb (x0:Sl) (x1:Int) (x2:Int) (Ret:World->Prop) (x9:Option Addr) (r:Int) (x11:Int) (w:World) (Kl1:Int->World->Prop):Prop:=
 opE zA (zV .i64) (binOp .quo 3 (.int .i64 (zC .i64 (x2 - x1))) (.int .i64 4)) w (λx31 w=>((x11<=(zC .i64 ((zC .i64 (x1+(zC .i64 (x31*2))))+1)))->(Cl zA 116 [(.pointer x9)].toArray w (λe w=>∃ (r_1:Int),e=.returned (.int .u64 r_1)/\(opE zA (zV .u64) (binOp .and 143 (.int .u64 r_1) (.int .u64 (zC .u64 (r - 1)))) w (λx41 w=>opE zA (zV .i64) (Go.convert 143 3 (.int .u64 x41)) w (λx42 w=>(((zC .i64 (x2 - x1))<=x42)->(yo x0 x1 x11 Kl1 (zC .i64 (x42 - (zC .i64 (x2 - x1)))) w))/\(¬ ((zC .i64 (x2 - x1))<=x42)->(yo x0 x1 x11 Kl1 x42 w))))))))/\(¬ (x11<=(zC .i64 ((zC .i64 (x1+(zC .i64 (x31*2))))+1)))->(Ret w)))
def Z8 (x0:Sl) (x1:Int) (x2:Int) (x3:Value) (w:World) (Ret:World->Prop):Prop:=
 ((8<=(zC .i64 (x2 - x1)))->(opE zA (zV .u64) (Go.convert 3 182 (.int .i64 (zC .i64 (x2 - x1)))) w (λx19 w=>opE zA zB (zf 182 true (.tuple #[])) w (λx9 w=>opU zA (zK 182 (.pointer x9) (.int .u64 x19)) w (λw=>Cl zA 115 [(.int .i64 (zC .i64 (x2 - x1)))].toArray w (λe w=>∃ (r:Int),e=.returned (.int .u64 r)/\(opE zA (zV .i64) (binOp .quo 3 (.int .i64 (zC .i64 (x2 - x1))) (.int .i64 4)) w (λx24 w=>∃ (I:Int->World->Prop) (μ:Int->World->Nat),I (zC .i64 ((zC .i64 (x1+(zC .i64 (x24*2)))) - 1)) w/\∀ (x11:Int) w,I x11 w->Yb x0 x1 x2 Ret x9 r x11 w (λx11' w'=>I x11' w'/\μ x11' w'<μ x11 w)))))))))/\(¬ (8<=(zC .i64 (x2 - x1)))->(Ret w))
set_option maxRecDepth 100000 in
theorem zD1 (x0:Sl) (x1:Int) (x2:Int) (x3:Value) (w:World) (Ret:World->Prop) (H:Z8 x0 x1 x2 x3 w Ret):Cl zA 92 [(Sl.v x0),(.int .i64 x1),(.int .i64 x2),x3].toArray w (λe w'=>e=.returned (.tuple [].toArray)/\Ret w'):=by
 unfold Z8 at H
 refine zp 67 (zipE 0 [(Sl.v x0),(.int .i64 x1),(.int .i64 x2),x3]) Tryz.func92 rfl rfl (by rfl) rfl ?_
 intro a g
 have g:Sat [] 67 [(0,(Sl.v x0)),(1,(.int .i64 x1)),(2,(.int .i64 x2)),(3,x3)] a:=g
 refine zI (zE (g.m rfl λ_ g=>g.m rfl λ_ g=>g.p (zv g rfl rfl) λ_ g=>g.s rfl λ_ g=>zL (tn (zI (zE (g.m rfl λ_ g=>g.p (Zm g rfl rfl) λ_ g=>zL (tn (zd g rfl (λhc=>?_) (λhc=>?_)))))))))
 ·have H:=H.1 hc
  refine zI (zE (g.m rfl λ_ g=>g.o (zBw g rfl) H λx19 w a H g=>g.o (xY) H λx9 w a H g=>g.h (zT g rfl rfl) H λw a H g=>zL (tn (zI (zE (g.m rfl λ_ g=>g.c (zb g zOD rfl rfl) H λe w H=>?_))))))
  obtain ⟨r,rfl,H⟩:=H
  refine ⟨_,rfl,λ_ g=>(g.s rfl λ_ g=>zL (tn (zI (zE (g.m rfl λ_ g=>g.m rfl λ_ g=>g.o (ZS g rfl rfl) H λx24 w a H g=>g.p (zF8 g rfl rfl) λ_ g=>g.p (zr g rfl rfl) λ_ g=>g.p (zv g rfl rfl) λ_ g=>g.s rfl λ_ g=>zL (tn (zX ?_)))))))⟩
  obtain ⟨I_l1,μ_l1,h0,hb⟩:=H
  refine yE (ds:=[]) (N:=67) (σ:=Int) (λs=>[(11,(.int .i64 s)),(0,(Sl.v x0)),(1,(.int .i64 x1)),(8,(.int .i64 (zC .i64 (x2 - x1)))),(9,(.pointer x9)),(10,(.int .u64 r))]) (λs w=>I_l1 s w) (λs w=>μ_l1 s w) (zC .i64 ((zC .i64 (x1+(zC .i64 (x24*2)))) - 1)) h0 (g.k) ?_
  intro x11 w a hI g
  try dsimp only at hI g
  obtain ⟨Kl1,hK_l1⟩:∃ K:Int->World->Prop,K=(λx11' w'=>I_l1 x11' w'/\μ_l1 x11' w'<μ_l1 x11 w):=⟨_,rfl⟩
  have H:Yb x0 x1 x2 Ret x9 r x11 w Kl1:=by rw [hK_l1];exact hb x11 w hI
  clear hb h0 hI
  unfold Yb at H
  refine zI (zI (zE (g.m rfl λ_ g=>g.m rfl λ_ g=>g.m rfl λ_ g=>g.o (ZS g rfl rfl) H λx31 w a H g=>g.p (zF8 g rfl rfl) λ_ g=>g.p (zr g rfl rfl) λ_ g=>g.p (zr g rfl rfl) λ_ g=>g.p (zCw g rfl rfl) λ_ g=>zL (tn (zd g rfl (λhc=>?_) (λhc=>?_))))))
  ·have H:=H.1 hc
   refine zY (tn (z8 (ds:=[]) (N:=67) (σ:=Unit) (λs=>[(0,(Sl.v x0)),(1,(.int .i64 x1)),(8,(.int .i64 (zC .i64 (x2 - x1)))),(9,(.pointer x9)),(10,(.int .u64 r)),(11,(.int .i64 x11))]) (λs w=>QJ x11 Kl1 w) ?_ (λhj2=>?_)))
   ·rintro ⟨⟩ w a H g
    try dsimp only at H g
    unfold QJ at H
    refine zE (g.m rfl λ_ g=>g.p (zr g rfl rfl) λ_ g=>g.s rfl λ_ g=>?_)
    rw [hK_l1] at H
    exact zL (tn ⟨(zC .i64 (x11+1)),g.k,H⟩)
   ·refine zX (zI (zE (g.c (zb g zOI rfl rfl) H λe w H=>?_)))
    obtain ⟨r_1,rfl,H⟩:=H
    refine ⟨_,rfl,λ_ g=>(g.m rfl λ_ g=>g.p (zv g rfl rfl) λ_ g=>g.o (ZS g rfl rfl) H λx41 w a H g=>g.o (zBw g rfl) H λx42 w a H g=>g.s rfl λ_ g=>zL (tn (z8 (ds:=[]) (N:=67) (σ:=Int) (λs=>[(12,(.int .i64 s)),(0,(Sl.v x0)),(1,(.int .i64 x1)),(8,(.int .i64 (zC .i64 (x2 - x1)))),(9,(.pointer x9)),(10,(.int .u64 r)),(11,(.int .i64 x11))]) (λs w=>yo x0 x1 x11 Kl1 s w) ?_ (λhj3=>?_))))⟩
    ·intro x12 w a H g
     try dsimp only at H g
     unfold yo at H
     refine zCC 20 λw hB=>?_
     replace H:=H w hB
     refine g.x 0 rfl (zR g rfl) λ_ g=>g.x 1 rfl (zR g rfl) λ_ g=>g.x 2 rfl (zR g rfl) λ_ g=>g.x 3 rfl (zR g rfl) λ_ g=>g.x 4 rfl (zR g rfl) λ_ g=>g.x 5 rfl (zr g rfl rfl) λ_ g=>g.x 6 rfl (zR g rfl) λ_ g=>g.x 7 rfl (zR g rfl) λ_ g=>g.x 8 rfl (zR g rfl) λ_ g=>g.x 9 rfl (zr g rfl rfl) λ_ g=>g.y 10 rfl (zH g rfl rfl) H λx59 a H g=>g.x 12 rfl (zR g rfl) λ_ g=>g.x 13 rfl (zR g rfl) λ_ g=>g.y 14 rfl (zH g rfl rfl) H λx63 a H g=>WA.tw 11 15 rfl rfl ?_ ?_
     ·have H:=H.1
      intro K hK
      exact g.i (zO g rfl) H λx60 w a H g=>hK _ _ (g.j 15 rfl (zO g rfl) H λx64 w a H g=>g.y 16 rfl (zH g rfl rfl) H λx65 a H g=>g.l 17 rfl (zT g rfl rfl) H λw a H g=>g.y 18 rfl (zH g rfl rfl) H λx66 a H g=>g.l 19 rfl (zT g rfl rfl) H λw a H g=>WA.ni ((bn (tn (hj2 () _ _ H (g.k))))))
     ·have H:=H.2
      intro K hK
      exact g.i (zO g rfl) H λx64_1 w a H g=>hK _ _ (g.j 11 rfl (zO g rfl) H λx60_1 w a H g=>g.y 16 rfl (zH g rfl rfl) H λx65_1 a H g=>g.l 17 rfl (zT g rfl rfl) H λw a H g=>g.y 18 rfl (zH g rfl rfl) H λx66_1 a H g=>g.l 19 rfl (zT g rfl rfl) H λw a H g=>WA.ni ((bn (tn (hj2 () _ _ H (g.k))))))
    ·refine zI (zE (g.m rfl λ_ g=>g.m rfl λ_ g=>g.p (Zm g rfl rfl) λ_ g=>zL (tn (zd g rfl (λhc=>?_) (λhc=>?_)))))
     ·have H:=H.1 hc
      exact zE (g.m rfl λ_ g=>g.m rfl λ_ g=>g.p (zv g rfl rfl) λ_ g=>g.s rfl λ_ g=>zL (tn (hj3 (zC .i64 (x42 - (zC .i64 (x2 - x1)))) _ _ H (g.k))))
     ·have H:=H.2 hc
      exact zY (tn (hj3 x42 _ _ H (g.k)))
  ·have H:=H.2 hc
   exact z7 (te (te (be (zBg g rfl ⟨rfl,H⟩))))
 ·have H:=H.2 hc
  exact zY (zBg g rfl ⟨rfl,H⟩)
end Go.Proofs.YtealcoghiaeiiaaGreat.VG
