/- Texts by which the law's calls are walked (part 2): rules, printed conditions, contracts; no condition. -/
import Derived.TacticsIn
import Derived.TacticsInMore
import Derived.Deep.LoopGhost
import Derived.Sort.QuietThIn
import Derived.RangeFuncCalls
import Derived.RangeFuncNested
import Derived.RangeFuncLeaves
import Derived.WalkKit
import Derived.StillTail
import Derived.Test.YtealcoghiaeiiaaGreatProg
import Derived.KernelRfl
import Derived.Test.YtealcoghiaeiiaaGreatPkTxnBlindA
open Go.Proofs.Tryz renaming prog → zA
open Go.IntKind renaming wrap → zB
open Go.Value renaming pointer → zC, int → zV, string → zY, bool → Qq
open Go.Instr renaming loadAt → zD, storeAt → zK, indexAt → zF, fieldAt → zO, alloc → zk, build → QC, buildSlice → zc
open Nat renaming le_refl → zU, le_trans → ze, lt_of_lt_of_le → xf
open List renaming length_append → zy
set_option linter.unusedVariables false
set_option linter.unusedSimpArgs false
namespace Go.Proofs.YtealcoghiaeiiaaGreat.VG
open Go.VB Go.Proofs
def zAN (x0:Sl) (x1:Value) (w:World) (Ret:World->Prop):Prop:=
 opE zA (zV .u64) (Go.convert 3 143 (.int .i64 (x0.len:Int))) w (λx10 w=>Cl zA 73 [(.int .u64 x10)].toArray w (λe w=>∃ (r:Int),e=.returned (.int .i64 r)/\(Cl zA 72 [(Sl.v x0),(.int .i64 0),(.int .i64 (x0.len:Int)),(.int .i64 r),x1].toArray w (λe w=>e=.returned (.tuple [].toArray)/\(Ret w)))))
set_option maxRecDepth 100000 in
theorem zES (x0:Sl) (x1:Value) (w:World) (Ret:World->Prop) (H:zAN x0 x1 w Ret):Cl zA 46 [(Sl.v x0),x1].toArray w (λe w'=>e=.returned (.tuple [].toArray)/\Ret w'):=by
 unfold zAN at H
 refine zl 14 (zipE 0 [(Sl.v x0),x1]) Tryz.func46 rfl rfl (by rfl) rfl ?_
 intro a g
 replace g:Sat [] 14 [(0,(Sl.v x0)),(1,x1)] a:=g
 refine zJ (zE (g.mv rfl λ_ g=>g.purR (λw=>ZQ g Tryz.underlying22 rfl) λ_ g=>g.as_ rfl λ_ g=>zM (tn (zE (g.mv rfl λ_ g=>g.mv rfl λ_ g=>g.mv rfl λ_ g=>g.op (zBR g rfl) H λx10 w a H g=>g.call (zZ g zM4 rfl rfl) H λe w H=>?_)))))
 obtain ⟨r,rfl,H⟩:=H
 refine ⟨_,rfl,λ_ g=>(g.mv rfl λ_ g=>g.call (zZ g zOD rfl rfl) H λe w H=>?_)⟩
 obtain ⟨rfl,H⟩:=H
 exact ⟨_,rfl,λ_ g=>(zM (zBY g rfl ⟨rfl,H⟩))⟩
def YT (x0:Sl) (x4:Value) (x1_1:Int) (x2_1:Int) (x10:Bool) (x11:Bool) (Kl1:Int->Int->Int->Bool->Bool->World->Prop) (x3_2:Int) (x13:Int) (x97:Bool) (w:World):Prop:=
 yG w (λw=>(x97=true->(Cl zA 96 [(Sl.v x0),(.int .i64 x1_1),(.int .i64 x2_1),(.int .i64 x13),x4].toArray w (λe w=>∃ (r_2:Int),e=.returned (.int .i64 r_2)/\(Kl1 r_2 x2_1 x3_2 x10 x11 w))))/\(x97=false->(Cl zA 97 [(Sl.v x0),(.int .i64 x1_1),(.int .i64 x2_1),(.int .i64 x13),x4].toArray w (λe w=>∃ (r_3:Int) (r_4:Bool),e=.returned (.tuple [(.int .i64 r_3),(.bool r_4)].toArray)/\(opE zA (zV .i64) (binOp .quo 3 (.int .i64 (zB .i64 (x2_1 - x1_1))) (.int .i64 8)) w (λx122 w=>(((zB .i64 (r_3 - x1_1))<(zB .i64 (x2_1 - r_3)))->(Cl zA 72 [(Sl.v x0),(.int .i64 x1_1),(.int .i64 r_3),(.int .i64 x3_2),x4].toArray w (λe w=>e=.returned (.tuple [].toArray)/\(Kl1 (zB .i64 (r_3+1)) x2_1 x3_2 (decide (x122<=(zB .i64 (r_3 - x1_1)))) r_4 w))))/\(¬ ((zB .i64 (r_3 - x1_1))<(zB .i64 (x2_1 - r_3)))->(Cl zA 72 [(Sl.v x0),(.int .i64 (zB .i64 (r_3+1))),(.int .i64 x2_1),(.int .i64 x3_2),x4].toArray w (λe w=>e=.returned (.tuple [].toArray)/\(Kl1 x1_1 r_3 x3_2 (decide (x122<=(zB .i64 (x2_1 - r_3)))) r_4 w))))))))))
def QF (x0:Sl) (x4:Value) (x1_1:Int) (x2_1:Int) (x10:Bool) (x11:Bool) (Kl1:Int->Int->Int->Bool->Bool->World->Prop) (x3_2:Int) (x13:Int) (w:World):Prop:=
 ((0<x1_1)->(opB zA zC (zF 22 (Sl.v x0) (.int .i64 (zB .i64 (x1_1 - 1)))) w (λx88=>opB zA zL.v (zD 66 (.pointer x88)) w (λx89=>opB zA zC (zF 22 (Sl.v x0) (.int .i64 x13)) w (λx92=>opB zA zL.v (zD 66 (.pointer x92)) w (λx93=>∃ (r_5:Int),Zb zA x4 [(zL.v x89),(zL.v x93)] w (.int .i64 r_5)/\(YT x0 x4 x1_1 x2_1 x10 x11 Kl1 x3_2 x13 (!(decide (r_5<0))) w)))))))/\(¬ (0<x1_1)->(YT x0 x4 x1_1 x2_1 x10 x11 Kl1 x3_2 x13 false w))
def QG (x0:Sl) (x4:Value) (Ret:World->Prop) (x1_1:Int) (x2_1:Int) (x10:Bool) (x11:Bool) (Kl1:Int->Int->Int->Bool->Bool->World->Prop) (x3_2:Int) (x13:Int) (x75:Bool) (w:World):Prop:=
 (x75=true->(Cl zA 95 [(Sl.v x0),(.int .i64 x1_1),(.int .i64 x2_1),x4].toArray w (λe w=>∃ (r_6:Bool),e=.returned (.bool r_6)/\((r_6=true->(Ret w))/\(r_6=false->(QF x0 x4 x1_1 x2_1 x10 x11 Kl1 x3_2 x13 w))))))/\(x75=false->(QF x0 x4 x1_1 x2_1 x10 x11 Kl1 x3_2 x13 w))
def YS (x0:Sl) (x4:Value) (Ret:World->Prop) (x1_1:Int) (x2_1:Int) (x10:Bool) (x11:Bool) (Kl1:Int->Int->Int->Bool->Bool->World->Prop) (x3_2:Int) (x13:Int) (x14:Int) (x71:Bool) (w:World):Prop:=
 (x71=true->(QG x0 x4 Ret x1_1 x2_1 x10 x11 Kl1 x3_2 x13 (decide (x14=1)) w))/\(x71=false->(QG x0 x4 Ret x1_1 x2_1 x10 x11 Kl1 x3_2 x13 false w))
def QD (x0:Sl) (x4:Value) (Ret:World->Prop) (x1_1:Int) (x2_1:Int) (x10:Bool) (x11:Bool) (Kl1:Int->Int->Int->Bool->Bool->World->Prop) (x3_2:Int) (x13:Int) (x14:Int) (w:World):Prop:=
 (x10=true->(YS x0 x4 Ret x1_1 x2_1 x10 x11 Kl1 x3_2 x13 x14 x11 w))/\(x10=false->(YS x0 x4 Ret x1_1 x2_1 x10 x11 Kl1 x3_2 x13 x14 false w))
def QE (x0:Sl) (x4:Value) (Ret:World->Prop) (x1_1:Int) (x2_1:Int) (x10:Bool) (x11:Bool) (Kl1:Int->Int->Int->Bool->Bool->World->Prop) (x3_2:Int) (w:World):Prop:=
 Cl zA 93 [(Sl.v x0),(.int .i64 x1_1),(.int .i64 x2_1),x4].toArray w (λe w=>∃ (r:Int) (r_1:Int),e=.returned (.tuple [(.int .i64 r),(.int .i64 r_1)].toArray)/\(((r_1=2)->(Cl zA 94 [(Sl.v x0),(.int .i64 x1_1),(.int .i64 x2_1),x4].toArray w (λe w=>e=.returned (.tuple [].toArray)/\(QD x0 x4 Ret x1_1 x2_1 x10 x11 Kl1 x3_2 (zB .i64 ((zB .i64 (x2_1 - 1)) - (zB .i64 (r - x1_1)))) 1 w))))/\(¬ (r_1=2)->(QD x0 x4 Ret x1_1 x2_1 x10 x11 Kl1 x3_2 r r_1 w))))
def YH (x0:Sl) (x4:Value) (Ret:World->Prop) (x1_1:Int) (x2_1:Int) (x3_1:Int) (x10:Bool) (x11:Bool) (w:World) (Kl1:Int->Int->Int->Bool->Bool->World->Prop):Prop:=
 (((zB .i64 (x2_1 - x1_1))<=12)->(Cl zA 90 [(Sl.v x0),(.int .i64 x1_1),(.int .i64 x2_1),x4].toArray w (λe w=>e=.returned (.tuple [].toArray)/\(Ret w))))/\(¬ ((zB .i64 (x2_1 - x1_1))<=12)->(((x3_1=0)->(Cl zA 91 [(Sl.v x0),(.int .i64 x1_1),(.int .i64 x2_1),x4].toArray w (λe w=>e=.returned (.tuple [].toArray)/\(Ret w))))/\(¬ (x3_1=0)->(((!x10)=true->(Cl zA 92 [(Sl.v x0),(.int .i64 x1_1),(.int .i64 x2_1),x4].toArray w (λe w=>e=.returned (.tuple [].toArray)/\(QE x0 x4 Ret x1_1 x2_1 x10 x11 Kl1 (zB .i64 (x3_1 - 1)) w))))/\((!x10)=false->(QE x0 x4 Ret x1_1 x2_1 x10 x11 Kl1 x3_1 w))))))
def ZZ (x0:Sl) (x1:Int) (x2:Int) (x3:Int) (x4:Value) (w:World) (Ret:World->Prop):Prop:=
 ∃ (I:Int->Int->Int->Bool->Bool->World->Prop) (μ:Int->Int->Int->Bool->Bool->World->Nat),I x1 x2 x3 true true w/\∀ (x1_1:Int) (x2_1:Int) (x3_1:Int) (x10:Bool) (x11:Bool) w,I x1_1 x2_1 x3_1 x10 x11 w->YH x0 x4 Ret x1_1 x2_1 x3_1 x10 x11 w (λx1_1' x2_1' x3_1' x10' x11' w'=>I x1_1' x2_1' x3_1' x10' x11' w'/\μ x1_1' x2_1' x3_1' x10' x11' w'<μ x1_1 x2_1 x3_1 x10 x11 w)
set_option maxRecDepth 100000 in
theorem zBv (x0:Sl) (x1:Int) (x2:Int) (x3:Int) (x4:Value) (w:World) (Ret:World->Prop) (H:ZZ x0 x1 x2 x3 x4 w Ret):Cl zA 72 [(Sl.v x0),(.int .i64 x1),(.int .i64 x2),(.int .i64 x3),x4].toArray w (λe w'=>e=.returned (.tuple [].toArray)/\Ret w'):=by
 unfold ZZ at H
 refine zl 148 (zipE 0 [(Sl.v x0),(.int .i64 x1),(.int .i64 x2),(.int .i64 x3),x4]) Tryz.func72 rfl rfl (by rfl) rfl ?_
 intro a g
 replace g:Sat [] 148 [(0,(Sl.v x0)),(1,(.int .i64 x1)),(2,(.int .i64 x2)),(3,(.int .i64 x3)),(4,x4)] a:=g
 refine zJ (zE (g.as_ rfl λ_ g=>zM (tn (zJ (zE (g.as_ rfl λ_ g=>zM (tn (zW ?_))))))))
 obtain ⟨I_l1,μ_l1,h0,hb⟩:=H
 refine yD (ds:=[]) (N:=148) (σ:=Int × Int × Int × Bool × Bool) (λs=>[(1,(.int .i64 s.1)),(2,(.int .i64 s.2.1)),(3,(.int .i64 s.2.2.1)),(10,(.bool s.2.2.2.1)),(11,(.bool s.2.2.2.2)),(0,(Sl.v x0)),(4,x4)]) (λs w=>I_l1 s.1 s.2.1 s.2.2.1 s.2.2.2.1 s.2.2.2.2 w) (λs w=>μ_l1 s.1 s.2.1 s.2.2.1 s.2.2.2.1 s.2.2.2.2 w) (x1,x2,x3,true,true) h0 (g.wk) ?_
 rintro ⟨x1_1,x2_1,x3_1,x10,x11⟩ w a hI g
 try dsimp only at hI g
 obtain ⟨Kl1,hK_l1⟩:∃ K:Int->Int->Int->Bool->Bool->World->Prop,K=(λx1_1' x2_1' x3_1' x10' x11' w'=>I_l1 x1_1' x2_1' x3_1' x10' x11' w'/\μ_l1 x1_1' x2_1' x3_1' x10' x11' w'<μ_l1 x1_1 x2_1 x3_1 x10 x11 w):=⟨_,rfl⟩
 have H:YH x0 x4 Ret x1_1 x2_1 x3_1 x10 x11 w Kl1:=by rw [hK_l1];exact hb x1_1 x2_1 x3_1 x10 x11 w hI
 clear hb h0 hI
 unfold YH at H
 refine zW (zJ (zE (g.mv rfl λ_ g=>g.mv rfl λ_ g=>g.pur (zq g rfl rfl) λ_ g=>g.as_ rfl λ_ g=>zM (tn (zJ (zJ (zE (g.mv rfl λ_ g=>g.pur (zCV g rfl rfl) λ_ g=>zM (tn (zb g rfl (λhc=>?_) (λhc=>?_)))))))))))
 ·replace H:=H.1 hc
  refine zJ (zE (g.mv rfl λ_ g=>g.mv rfl λ_ g=>g.mv rfl λ_ g=>g.mv rfl λ_ g=>g.call (zZ g zRZ rfl rfl) H λe w H=>?_))
  obtain ⟨rfl,H⟩:=H
  exact ⟨_,rfl,λ_ g=>(zM (tn (zg (tr (br (tr (br (zEO g rfl ⟨rfl,H⟩))))))))⟩
 ·replace H:=H.2 hc
  refine zX (tn (zJ (zJ (zE (g.mv rfl λ_ g=>g.pur (zBF g rfl rfl) λ_ g=>zM (tn (zb g rfl (λhc=>?_) (λhc=>?_))))))))
  ·replace H:=H.1 hc
   refine zJ (zE (g.mv rfl λ_ g=>g.mv rfl λ_ g=>g.mv rfl λ_ g=>g.mv rfl λ_ g=>g.call (zZ g zQ4 rfl rfl) H λe w H=>?_))
   obtain ⟨rfl,H⟩:=H
   exact ⟨_,rfl,λ_ g=>(zM (tn (zg (tr (br (tr (br (zEO g rfl ⟨rfl,H⟩))))))))⟩
  ·replace H:=H.2 hc
   refine zX (tn (zz (ds:=[]) (N:=148) (σ:=Int) (λs=>[(3,(.int .i64 s)),(0,(Sl.v x0)),(1,(.int .i64 x1_1)),(2,(.int .i64 x2_1)),(4,x4),(10,(.bool x10)),(11,(.bool x11)),(12,(.int .i64 (zB .i64 (x2_1 - x1_1))))]) (λs w=>QE x0 x4 Ret x1_1 x2_1 x10 x11 Kl1 s w) ?_ (λhj2=>?_)))
   ·intro x3_2 w a H g
    try dsimp only at H g
    unfold QE at H
    refine zJ (zE (g.mv rfl λ_ g=>g.mv rfl λ_ g=>g.mv rfl λ_ g=>g.mv rfl λ_ g=>g.call (zZ g zRA rfl rfl) H λe w H=>?_))
    obtain ⟨r,r_1,rfl,H⟩:=H
    refine ⟨_,rfl,λ_ g=>(g.mv rfl λ_ g=>g.pur (za g rfl rfl) λ_ g=>g.pur (za g rfl rfl) λ_ g=>g.as_ rfl λ_ g=>g.as_ rfl λ_ g=>zM (tn (zz (ds:=[]) (N:=148) (σ:=Int × Int) (λs=>[(13,(.int .i64 s.1)),(14,(.int .i64 s.2)),(0,(Sl.v x0)),(1,(.int .i64 x1_1)),(2,(.int .i64 x2_1)),(3,(.int .i64 x3_2)),(4,x4),(10,(.bool x10)),(11,(.bool x11)),(12,(.int .i64 (zB .i64 (x2_1 - x1_1))))]) (λs w=>QD x0 x4 Ret x1_1 x2_1 x10 x11 Kl1 x3_2 s.1 s.2 w) ?_ (λhj3=>?_))))⟩
    ·rintro ⟨x13,x14⟩ w a H g
     try dsimp only at H g
     unfold QD at H
     refine zz (ds:=[]) (N:=148) (σ:=Unit) (λs=>[(0,(Sl.v x0)),(1,(.int .i64 x1_1)),(2,(.int .i64 x2_1)),(3,(.int .i64 x3_2)),(4,x4),(10,(.bool x10)),(11,(.bool x11)),(12,(.int .i64 (zB .i64 (x2_1 - x1_1)))),(13,(.int .i64 x13))]) (λs w=>QF x0 x4 x1_1 x2_1 x10 x11 Kl1 x3_2 x13 w) ?_ (λhj4=>?_)
     ·rintro ⟨⟩ w a H g
      try dsimp only at H g
      unfold QF at H
      refine zJ (zJ (QP (by kernel_rfl) (by kernel_rfl) (g.qm rfl λ_ g=>g.qpur (zBC g rfl rfl) λ_ g=>g.qm rfl λ_ g=>WQ.join (ds:=[]) (N:=148) (σ:=Bool) (λs=>[(97,(.bool s)),(0,(Sl.v x0)),(1,(.int .i64 x1_1)),(2,(.int .i64 x2_1)),(3,(.int .i64 x3_2)),(4,x4),(10,(.bool x10)),(11,(.bool x11)),(12,(.int .i64 (zB .i64 (x2_1 - x1_1)))),(13,(.int .i64 x13))]) (λs=>YT x0 x4 x1_1 x2_1 x10 x11 Kl1 x3_2 x13 s w) 14 ?_ (λhr5=>?_))))
      ·intro x97 a H g
       try dsimp only at H g
       unfold YT at H
       refine QO (λw hB=>?_)
       replace H:=H w hB
       refine (tn (zd g rfl (λhc=>?_) (λhc=>?_)))
       ·replace H:=H.1 hc
        refine zJ (zE (g.mv rfl λ_ g=>g.mv rfl λ_ g=>g.mv rfl λ_ g=>g.mv rfl λ_ g=>g.mv rfl λ_ g=>g.call (zZ g zRj rfl rfl) H λe w H=>?_))
        obtain ⟨r_2,rfl,H⟩:=H
        refine ⟨_,rfl,λ_ g=>(g.as_ rfl λ_ g=>zM (tn (zJ (zE (g.mv rfl λ_ g=>g.as_ rfl λ_ g=>zM (tn ?_))))))⟩
        rw [hK_l1] at H
        exact z5 (te (be (tn ⟨(r_2,x2_1,x3_2,x10,x11),g.wk,H⟩)))
       ·replace H:=H.2 hc
        refine zX (tn (zJ (zE (g.mv rfl λ_ g=>g.mv rfl λ_ g=>g.mv rfl λ_ g=>g.mv rfl λ_ g=>g.mv rfl λ_ g=>g.call (zZ g zQy rfl rfl) H λe w H=>?_))))
        obtain ⟨r_3,r_4,rfl,H⟩:=H
        refine ⟨_,rfl,λ_ g=>(g.mv rfl λ_ g=>g.pur (za g rfl rfl) λ_ g=>g.pur (za g rfl rfl) λ_ g=>g.as_ rfl λ_ g=>g.as_ rfl λ_ g=>zM (tn (zJ (zE (g.mv rfl λ_ g=>g.as_ rfl λ_ g=>zM (tn (zJ (zE (g.mv rfl λ_ g=>g.mv rfl λ_ g=>g.pur (zq g rfl rfl) λ_ g=>g.mv rfl λ_ g=>g.mv rfl λ_ g=>g.pur (zq g rfl rfl) λ_ g=>g.as_ rfl λ_ g=>g.as_ rfl λ_ g=>zM (tn (zJ (zE (g.mv rfl λ_ g=>g.op (Y3 g rfl rfl) H λx122 w a H g=>g.as_ rfl λ_ g=>zM (tn (zJ (zE (g.mv rfl λ_ g=>g.mv rfl λ_ g=>g.pur (yS g rfl rfl) λ_ g=>zM (tn (zb g rfl (λhc=>?_) (λhc=>?_))))))))))))))))))))⟩
        ·replace H:=H.1 hc
         refine zJ (zE (g.mv rfl λ_ g=>g.mv rfl λ_ g=>g.pur (ZT g rfl rfl) λ_ g=>g.as_ rfl λ_ g=>zM (tn (zJ (zE (g.mv rfl λ_ g=>g.mv rfl λ_ g=>g.mv rfl λ_ g=>g.mv rfl λ_ g=>g.mv rfl λ_ g=>g.call (zZ g zOD rfl rfl) H λe w H=>?_))))))
         obtain ⟨rfl,H⟩:=H
         refine ⟨_,rfl,λ_ g=>(zM (tn (zE (g.mv rfl λ_ g=>g.pur (zm g rfl rfl) λ_ g=>g.as_ rfl λ_ g=>?_))))⟩
         rw [hK_l1] at H
         exact zM (bn (tn ⟨((zB .i64 (r_3+1)),x2_1,x3_2,(decide (x122<=(zB .i64 (r_3 - x1_1)))),r_4),g.wk,H⟩))
        ·replace H:=H.2 hc
         refine zJ (zE (g.mv rfl λ_ g=>g.mv rfl λ_ g=>g.pur (ZT g rfl rfl) λ_ g=>g.as_ rfl λ_ g=>zM (tn (zJ (zE (g.mv rfl λ_ g=>g.mv rfl λ_ g=>g.pur (zm g rfl rfl) λ_ g=>g.mv rfl λ_ g=>g.mv rfl λ_ g=>g.mv rfl λ_ g=>g.call (zZ g zOD rfl rfl) H λe w H=>?_))))))
         obtain ⟨rfl,H⟩:=H
         refine ⟨_,rfl,λ_ g=>(zM (tn (zE (g.mv rfl λ_ g=>g.as_ rfl λ_ g=>?_))))⟩
         rw [hK_l1] at H
         exact zM (bn (tn ⟨(x1_1,r_3,x3_2,(decide (x122<=(zB .i64 (x2_1 - r_3)))),r_4),g.wk,H⟩))
      ·rcases Classical.em ((0<x1_1)) with hbr5|hbr5
       ·replace H:=H.1 hbr5
        replace g:=g.bool (b:=true) (t:=83) rfl (decide_eq_true hbr5)
        refine g.qon (by rfl) (by rfl) (g.qm rfl λ_ g=>g.qon (by rfl) (by rfl) (g.qm rfl λ_ g=>g.qon (by rfl) (by rfl) (g.qm rfl λ_ g=>g.qon (by rfl) (by rfl) (g.qpur (zq g rfl rfl) λ_ g=>g.qon (by rfl) (by rfl) (g.qop (zH g rfl rfl) H λx88 a H g=>g.qon (by rfl) (by rfl) (g.qop (zN g rfl) H λx89 a H g=>g.qon (by rfl) (by rfl) (g.qm rfl λ_ g=>g.qon (by rfl) (by rfl) (g.qm rfl λ_ g=>g.qon (by rfl) (by rfl) (g.qop (zH g rfl rfl) H λx92 a H g=>g.qon (by rfl) (by rfl) (g.qop (zN g rfl) H λx93 a H g=>g.qon (by rfl) (by rfl) ?_))))))))))
        obtain ⟨r_5,hc,H⟩:=H
        exact g.qcallV rfl rfl hc λ_ g=>g.qon (by rfl) (by rfl) (g.qpur (yS g rfl rfl) λ_ g=>g.qon (by rfl) (by rfl) (g.qpur (zAD g rfl) λ_ g=>g.qpur (zu g rfl rfl) λ_ g=>hr5 (!(decide (r_5<0))) _ H (g.wk)))
       ·replace H:=H.2 hbr5
        replace g:=g.bool (b:=false) (t:=83) rfl (decide_eq_false hbr5)
        exact g.qoff (by rfl) (by rfl) (by decide) (λ_ g=>g.qoff (by rfl) (by rfl) (by decide) (λ_ g=>g.qoff (by rfl) (by rfl) (by decide) (λ_ g=>g.qoff (by rfl) (by rfl) (by decide) (λ_ g=>g.qoff (by rfl) (by rfl) (by decide) (λ_ g=>g.qoff (by rfl) (by rfl) (by decide) (λ_ g=>g.qoff (by rfl) (by rfl) (by decide) (λ_ g=>g.qoff (by rfl) (by rfl) (by decide) (λ_ g=>g.qoff (by rfl) (by rfl) (by decide) (λ_ g=>g.qoff (by rfl) (by rfl) (by decide) (λ_ g=>g.qoff (by rfl) (by rfl) (by decide) (λ_ g=>g.qoff (by rfl) (by rfl) (by decide) (λ_ g=>g.qoff (by rfl) (by rfl) (by decide) (λ_ g=>g.qpur (zv g rfl rfl) λ_ g=>hr5 false _ H (g.wk))))))))))))))
     ·refine zJ (zE (g.mv rfl λ_ g=>g.mv rfl λ_ g=>WL.join (ds:=[]) (N:=148) (σ:=Bool) (λs=>[(71,(.bool s)),(0,(Sl.v x0)),(1,(.int .i64 x1_1)),(2,(.int .i64 x2_1)),(3,(.int .i64 x3_2)),(4,x4),(10,(.bool x10)),(11,(.bool x11)),(12,(.int .i64 (zB .i64 (x2_1 - x1_1)))),(13,(.int .i64 x13)),(14,(.int .i64 x14))]) (λs w=>YS x0 x4 Ret x1_1 x2_1 x10 x11 Kl1 x3_2 x13 x14 s w) 2 ?_ (λhr6=>?_)))
      ·intro x71 w a H g
       try dsimp only at H g
       unfold YS at H
       refine g.mv rfl λ_ g=>WL.join (ds:=[]) (N:=148) (σ:=Bool) (λs=>[(75,(.bool s)),(0,(Sl.v x0)),(1,(.int .i64 x1_1)),(2,(.int .i64 x2_1)),(3,(.int .i64 x3_2)),(4,x4),(10,(.bool x10)),(11,(.bool x11)),(12,(.int .i64 (zB .i64 (x2_1 - x1_1)))),(13,(.int .i64 x13))]) (λs w=>QG x0 x4 Ret x1_1 x2_1 x10 x11 Kl1 x3_2 x13 s w) 3 ?_ (λhr7=>?_)
       ·intro x75 w a H g
        try dsimp only at H g
        unfold QG at H
        refine zM (tn (zd g rfl (λhc=>?_) (λhc=>?_)))
        ·replace H:=H.1 hc
         refine zJ (zE (g.mv rfl λ_ g=>g.mv rfl λ_ g=>g.mv rfl λ_ g=>g.mv rfl λ_ g=>g.call (zZ g zRl rfl rfl) H λe w H=>?_))
         obtain ⟨r_6,rfl,H⟩:=H
         refine ⟨_,rfl,λ_ g=>(zM (tn (zd g rfl (λhc=>?_) (λhc=>?_))))⟩
         ·replace H:=H.1 hc
          exact zg (tr (br (tr (br (zEO g rfl ⟨rfl,H⟩)))))
         ·replace H:=H.2 hc
          exact zX (tn (hj4 () _ _ H (g.wk)))
        ·replace H:=H.2 hc
         exact zX (tn (hj4 () _ _ H (g.wk)))
       ·rcases Bool.eq_false_or_eq_true (x71) with hbr7|hbr7
        ·replace H:=H.1 hbr7
         replace g:=g.bool (b:=true) (t:=72) rfl (hbr7)
         exact g.on (by rfl) (by rfl) (g.mv rfl λ_ g=>g.on (by rfl) (by rfl) (g.pur (zBF g rfl rfl) λ_ g=>g.pur (zu g rfl rfl) λ_ g=>hr7 (decide (x14=1)) _ _ H (g.wk)))
        ·replace H:=H.2 hbr7
         replace g:=g.bool (b:=false) (t:=72) rfl (hbr7)
         exact g.off (by rfl) (by rfl) (by decide) (λ_ g=>g.off (by rfl) (by rfl) (by decide) (λ_ g=>g.pur (zv g rfl rfl) λ_ g=>hr7 false _ _ H (g.wk)))
      ·rcases Bool.eq_false_or_eq_true (x10) with hbr6|hbr6
       ·replace H:=H.1 hbr6
        replace g:=g.bool (b:=true) (t:=69) rfl (hbr6)
        exact g.on (by rfl) (by rfl) (g.mv rfl λ_ g=>g.pur (zu g rfl rfl) λ_ g=>hr6 x11 _ _ H (g.wk))
       ·replace H:=H.2 hbr6
        replace g:=g.bool (b:=false) (t:=69) rfl (hbr6)
        exact g.off (by rfl) (by rfl) (by decide) (λ_ g=>g.pur (zv g rfl rfl) λ_ g=>hr6 false _ _ H (g.wk))
    ·refine zJ (zE (g.mv rfl λ_ g=>g.pur (zBF g rfl rfl) λ_ g=>zM (tn (zb g rfl (λhc=>?_) (λhc=>?_)))))
     ·replace H:=H.1 hc
      refine zJ (zE (g.mv rfl λ_ g=>g.mv rfl λ_ g=>g.mv rfl λ_ g=>g.mv rfl λ_ g=>g.call (zZ g zRF rfl rfl) H λe w H=>?_))
      obtain ⟨rfl,H⟩:=H
      exact ⟨_,rfl,λ_ g=>(zM (tn (zJ (zE (g.mv rfl λ_ g=>g.pur (zq g rfl rfl) λ_ g=>g.mv rfl λ_ g=>g.mv rfl λ_ g=>g.pur (zq g rfl rfl) λ_ g=>g.pur (zq g rfl rfl) λ_ g=>g.as_ rfl λ_ g=>zM (tn (zE (g.as_ rfl λ_ g=>zM (tn (hj3 ((zB .i64 ((zB .i64 (x2_1 - 1)) - (zB .i64 (r - x1_1)))),1) _ _ H (g.wk)))))))))))⟩
     ·replace H:=H.2 hc
      exact zX (tn (hj3 (r,r_1) _ _ H (g.wk)))
   ·refine zJ (zE (g.mv rfl λ_ g=>g.pur (zAD g rfl) λ_ g=>zM (tn (zd g rfl (λhc=>?_) (λhc=>?_)))))
    ·replace H:=H.1 hc
     refine zJ (zE (g.mv rfl λ_ g=>g.mv rfl λ_ g=>g.mv rfl λ_ g=>g.mv rfl λ_ g=>g.call (zZ g zQs rfl rfl) H λe w H=>?_))
     obtain ⟨rfl,H⟩:=H
     exact ⟨_,rfl,λ_ g=>(zM (tn (zE (g.mv rfl λ_ g=>g.pur (zq g rfl rfl) λ_ g=>g.as_ rfl λ_ g=>zM (tn (hj2 (zB .i64 (x3_1 - 1)) _ _ H (g.wk)))))))⟩
    ·replace H:=H.2 hc
     exact zX (tn (hj2 x3_1 _ _ H (g.wk)))
def xz (x11:Int) (Kl1:Int->World->Prop) (w:World):Prop:=
 Kl1 (zB .i64 (x11+1)) w
def yh (x0:Sl) (x1:Int) (x11:Int) (Kl1:Int->World->Prop) (x12:Int) (w:World):Prop:=
 yG w (λw=>opP zA zC (zF 22 (Sl.v x0) (.int .i64 (zB .i64 (x1+x12)))) (λx59=>opP zA zC (zF 22 (Sl.v x0) (.int .i64 x11)) (λx63=>(opE zA zL.v (zD 66 (.pointer x59)) w (λx60 w=>opE zA zL.v (zD 66 (.pointer x63)) w (λx64 w=>opP zA zC (zF 22 (Sl.v x0) (.int .i64 x11)) (λx65=>opU zA (zK 66 (.pointer x65) (zL.v x60)) w (λw=>opP zA zC (zF 22 (Sl.v x0) (.int .i64 (zB .i64 (x1+x12)))) (λx66=>opU zA (zK 66 (.pointer x66) (zL.v x64)) w (λw=>xz x11 Kl1 w)))))))/\(opE zA zL.v (zD 66 (.pointer x63)) w (λx64_1 w=>opE zA zL.v (zD 66 (.pointer x59)) w (λx60_1 w=>opP zA zC (zF 22 (Sl.v x0) (.int .i64 x11)) (λx65_1=>opU zA (zK 66 (.pointer x65_1) (zL.v x60_1)) w (λw=>opP zA zC (zF 22 (Sl.v x0) (.int .i64 (zB .i64 (x1+x12)))) (λx66_1=>opU zA (zK 66 (.pointer x66_1) (zL.v x64_1)) w (λw=>xz x11 Kl1 w))))))))))
def YK (x0:Sl) (x1:Int) (x2:Int) (Ret:World->Prop) (x9:Option Addr) (r:Int) (x11:Int) (w:World) (Kl1:Int->World->Prop):Prop:=
 opE zA (zV .i64) (binOp .quo 3 (.int .i64 (zB .i64 (x2 - x1))) (.int .i64 4)) w (λx31 w=>((x11<=(zB .i64 ((zB .i64 (x1+(zB .i64 (x31*2))))+1)))->(Cl zA 116 [(.pointer x9)].toArray w (λe w=>∃ (r_1:Int),e=.returned (.int .u64 r_1)/\(opE zA (zV .u64) (binOp .and 143 (.int .u64 r_1) (.int .u64 (zB .u64 (r - 1)))) w (λx41 w=>opE zA (zV .i64) (Go.convert 143 3 (.int .u64 x41)) w (λx42 w=>(((zB .i64 (x2 - x1))<=x42)->(yh x0 x1 x11 Kl1 (zB .i64 (x42 - (zB .i64 (x2 - x1)))) w))/\(¬ ((zB .i64 (x2 - x1))<=x42)->(yh x0 x1 x11 Kl1 x42 w))))))))/\(¬ (x11<=(zB .i64 ((zB .i64 (x1+(zB .i64 (x31*2))))+1)))->(Ret w)))
def Zn (x0:Sl) (x1:Int) (x2:Int) (x3:Value) (w:World) (Ret:World->Prop):Prop:=
 ((8<=(zB .i64 (x2 - x1)))->(opE zA (zV .u64) (Go.convert 3 182 (.int .i64 (zB .i64 (x2 - x1)))) w (λx19 w=>opE zA zC (zk 182 true (.tuple #[])) w (λx9 w=>opU zA (zK 182 (.pointer x9) (.int .u64 x19)) w (λw=>Cl zA 115 [(.int .i64 (zB .i64 (x2 - x1)))].toArray w (λe w=>∃ (r:Int),e=.returned (.int .u64 r)/\(opE zA (zV .i64) (binOp .quo 3 (.int .i64 (zB .i64 (x2 - x1))) (.int .i64 4)) w (λx24 w=>∃ (I:Int->World->Prop) (μ:Int->World->Nat),I (zB .i64 ((zB .i64 (x1+(zB .i64 (x24*2)))) - 1)) w/\∀ (x11:Int) w,I x11 w->YK x0 x1 x2 Ret x9 r x11 w (λx11' w'=>I x11' w'/\μ x11' w'<μ x11 w)))))))))/\(¬ (8<=(zB .i64 (x2 - x1)))->(Ret w))
set_option maxRecDepth 100000 in
theorem zDY (x0:Sl) (x1:Int) (x2:Int) (x3:Value) (w:World) (Ret:World->Prop) (H:Zn x0 x1 x2 x3 w Ret):Cl zA 92 [(Sl.v x0),(.int .i64 x1),(.int .i64 x2),x3].toArray w (λe w'=>e=.returned (.tuple [].toArray)/\Ret w'):=by
 unfold Zn at H
 refine zl 67 (zipE 0 [(Sl.v x0),(.int .i64 x1),(.int .i64 x2),x3]) Tryz.func92 rfl rfl (by rfl) rfl ?_
 intro a g
 replace g:Sat [] 67 [(0,(Sl.v x0)),(1,(.int .i64 x1)),(2,(.int .i64 x2)),(3,x3)] a:=g
 refine zJ (zE (g.mv rfl λ_ g=>g.mv rfl λ_ g=>g.pur (zq g rfl rfl) λ_ g=>g.as_ rfl λ_ g=>zM (tn (zJ (zE (g.mv rfl λ_ g=>g.pur (ZT g rfl rfl) λ_ g=>zM (tn (zb g rfl (λhc=>?_) (λhc=>?_)))))))))
 ·replace H:=H.1 hc
  refine zJ (zE (g.mv rfl λ_ g=>g.op (zBR g rfl) H λx19 w a H g=>g.op (YW) H λx9 w a H g=>g.opu (zT g rfl rfl) H λw a H g=>zM (tn (zJ (zE (g.mv rfl λ_ g=>g.call (zZ g zMk rfl rfl) H λe w H=>?_))))))
  obtain ⟨r,rfl,H⟩:=H
  refine ⟨_,rfl,λ_ g=>(g.as_ rfl λ_ g=>zM (tn (zJ (zE (g.mv rfl λ_ g=>g.mv rfl λ_ g=>g.op (Y3 g rfl rfl) H λx24 w a H g=>g.pur (zFN g rfl rfl) λ_ g=>g.pur (zm g rfl rfl) λ_ g=>g.pur (zq g rfl rfl) λ_ g=>g.as_ rfl λ_ g=>zM (tn (zW ?_)))))))⟩
  obtain ⟨I_l1,μ_l1,h0,hb⟩:=H
  refine yD (ds:=[]) (N:=67) (σ:=Int) (λs=>[(11,(.int .i64 s)),(0,(Sl.v x0)),(1,(.int .i64 x1)),(8,(.int .i64 (zB .i64 (x2 - x1)))),(9,(.pointer x9)),(10,(.int .u64 r))]) (λs w=>I_l1 s w) (λs w=>μ_l1 s w) (zB .i64 ((zB .i64 (x1+(zB .i64 (x24*2)))) - 1)) h0 (g.wk) ?_
  intro x11 w a hI g
  try dsimp only at hI g
  obtain ⟨Kl1,hK_l1⟩:∃ K:Int->World->Prop,K=(λx11' w'=>I_l1 x11' w'/\μ_l1 x11' w'<μ_l1 x11 w):=⟨_,rfl⟩
  have H:YK x0 x1 x2 Ret x9 r x11 w Kl1:=by rw [hK_l1];exact hb x11 w hI
  clear hb h0 hI
  unfold YK at H
  refine zJ (zJ (zE (g.mv rfl λ_ g=>g.mv rfl λ_ g=>g.mv rfl λ_ g=>g.op (Y3 g rfl rfl) H λx31 w a H g=>g.pur (zFN g rfl rfl) λ_ g=>g.pur (zm g rfl rfl) λ_ g=>g.pur (zm g rfl rfl) λ_ g=>g.pur (zCV g rfl rfl) λ_ g=>zM (tn (zb g rfl (λhc=>?_) (λhc=>?_))))))
  ·replace H:=H.1 hc
   refine zX (tn (zz (ds:=[]) (N:=67) (σ:=Unit) (λs=>[(0,(Sl.v x0)),(1,(.int .i64 x1)),(8,(.int .i64 (zB .i64 (x2 - x1)))),(9,(.pointer x9)),(10,(.int .u64 r)),(11,(.int .i64 x11))]) (λs w=>xz x11 Kl1 w) ?_ (λhj2=>?_)))
   ·rintro ⟨⟩ w a H g
    try dsimp only at H g
    unfold xz at H
    refine zE (g.mv rfl λ_ g=>g.pur (zm g rfl rfl) λ_ g=>g.as_ rfl λ_ g=>?_)
    rw [hK_l1] at H
    exact zM (tn ⟨(zB .i64 (x11+1)),g.wk,H⟩)
   ·refine zW (zJ (zE (g.call (zZ g zMG rfl rfl) H λe w H=>?_)))
    obtain ⟨r_1,rfl,H⟩:=H
    refine ⟨_,rfl,λ_ g=>(g.mv rfl λ_ g=>g.pur (zq g rfl rfl) λ_ g=>g.op (Y3 g rfl rfl) H λx41 w a H g=>g.op (zBR g rfl) H λx42 w a H g=>g.as_ rfl λ_ g=>zM (tn (zz (ds:=[]) (N:=67) (σ:=Int) (λs=>[(12,(.int .i64 s)),(0,(Sl.v x0)),(1,(.int .i64 x1)),(8,(.int .i64 (zB .i64 (x2 - x1)))),(9,(.pointer x9)),(10,(.int .u64 r)),(11,(.int .i64 x11))]) (λs w=>yh x0 x1 x11 Kl1 s w) ?_ (λhj3=>?_))))⟩
    ·intro x12 w a H g
     try dsimp only at H g
     unfold yh at H
     refine zBb 20 λw hB=>?_
     replace H:=H w hB
     refine g.ap 0 rfl (zQ g rfl) λ_ g=>g.ap 1 rfl (zQ g rfl) λ_ g=>g.ap 2 rfl (zQ g rfl) λ_ g=>g.ap 3 rfl (zQ g rfl) λ_ g=>g.ap 4 rfl (zQ g rfl) λ_ g=>g.ap 5 rfl (zm g rfl rfl) λ_ g=>g.ap 6 rfl (zQ g rfl) λ_ g=>g.ap 7 rfl (zQ g rfl) λ_ g=>g.ap 8 rfl (zQ g rfl) λ_ g=>g.ap 9 rfl (zm g rfl rfl) λ_ g=>g.ao 10 rfl (zH g rfl rfl) H λx59 a H g=>g.ap 12 rfl (zQ g rfl) λ_ g=>g.ap 13 rfl (zQ g rfl) λ_ g=>g.ao 14 rfl (zH g rfl rfl) H λx63 a H g=>WA.tw 11 15 rfl rfl ?_ ?_
     ·replace H:=H.1
      intro K hK
      exact g.wop (zN g rfl) H λx60 w a H g=>hK _ _ (g.o1 15 rfl (zN g rfl) H λx64 w a H g=>g.ao 16 rfl (zH g rfl rfl) H λx65 a H g=>g.o1u 17 rfl (zT g rfl rfl) H λw a H g=>g.ao 18 rfl (zH g rfl rfl) H λx66 a H g=>g.o1u 19 rfl (zT g rfl rfl) H λw a H g=>WA.ni ((bn (tn (hj2 () _ _ H (g.wk))))))
     ·replace H:=H.2
      intro K hK
      exact g.wop (zN g rfl) H λx64_1 w a H g=>hK _ _ (g.o1 11 rfl (zN g rfl) H λx60_1 w a H g=>g.ao 16 rfl (zH g rfl rfl) H λx65_1 a H g=>g.o1u 17 rfl (zT g rfl rfl) H λw a H g=>g.ao 18 rfl (zH g rfl rfl) H λx66_1 a H g=>g.o1u 19 rfl (zT g rfl rfl) H λw a H g=>WA.ni ((bn (tn (hj2 () _ _ H (g.wk))))))
    ·refine zJ (zE (g.mv rfl λ_ g=>g.mv rfl λ_ g=>g.pur (ZT g rfl rfl) λ_ g=>zM (tn (zb g rfl (λhc=>?_) (λhc=>?_)))))
     ·replace H:=H.1 hc
      exact zE (g.mv rfl λ_ g=>g.mv rfl λ_ g=>g.pur (zq g rfl rfl) λ_ g=>g.as_ rfl λ_ g=>zM (tn (hj3 (zB .i64 (x42 - (zB .i64 (x2 - x1)))) _ _ H (g.wk))))
     ·replace H:=H.2 hc
      exact zX (tn (hj3 x42 _ _ H (g.wk)))
  ·replace H:=H.2 hc
   exact z5 (te (te (be (zBY g rfl ⟨rfl,H⟩))))
 ·replace H:=H.2 hc
  exact zX (zBY g rfl ⟨rfl,H⟩)
end Go.Proofs.YtealcoghiaeiiaaGreat.VG
