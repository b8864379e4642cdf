/- Texts by which the law's calls are walked (part 2): rules, printed conditions, contracts; no condition. -/
import Derived.TacticsIn
import Derived.TacticsInMore
import Derived.Deep.LoopGhost
import Derived.Sort.QuietThIn
import Derived.RangeFuncCalls
import Derived.RangeFuncNested
import Derived.RangeFuncLeaves
import Derived.WalkKit
import Derived.StillTail
import Derived.Test.YtealcoghiaeiiaaGreatDoorProg
import Derived.KernelRfl
import Derived.Test.YtealcoghiaeiiaaGreatDoorPkTopTimesA
open Go.Proofs.Tryz renaming prog → zA
open Go.IntKind renaming wrap → zB
open Go.Value renaming pointer → zC, int → zU, string → zY, bool → YR
open Go.Instr renaming loadAt → zE, storeAt → zI, indexAt → zF, fieldAt → zN, alloc → ze, build → yo, buildSlice → zl
open Nat renaming le_refl → zV, le_trans → zj, lt_of_lt_of_le → QR
open List renaming length_append → yB
set_option linter.unusedVariables false
set_option linter.unusedSimpArgs false
namespace Go.Proofs.YtealcoghiaeiiaaGreatDoor.VG
open Go.VB Go.Proofs
def zAP (x0:Sl) (x1:Value) (w:World) (Ret:World->Prop):Prop:=
 opE zA (zU .u64) (Go.convert 3 109 (.int .i64 (x0.len:Int))) w (λx10 w=>Cl zA 48 [(.int .u64 x10)].toArray w (λe w=>∃ (r:Int),e=.returned (.int .i64 r)/\(Cl zA 47 [(Sl.v x0),(.int .i64 0),(.int .i64 (x0.len:Int)),(.int .i64 r),x1].toArray w (λe w=>e=.returned (.tuple [].toArray)/\(Ret w)))))
set_option maxRecDepth 100000 in
theorem zEN (x0:Sl) (x1:Value) (w:World) (Ret:World->Prop) (H:zAP x0 x1 w Ret):Cl zA 31 [(Sl.v x0),x1].toArray w (λe w'=>e=.returned (.tuple [].toArray)/\Ret w'):=by
 unfold zAP at H
 refine zf 14 (zipE 0 [(Sl.v x0),x1]) Tryz.func31 rfl rfl (by rfl) rfl ?_
 intro a g
 replace g:Sat [] 14 [(0,(Sl.v x0)),(1,x1)] a:=g
 refine zJ (zD (g.mv rfl λ_ g=>g.purR (λw=>zAT g Tryz.underlying22 rfl) λ_ g=>g.as_ rfl λ_ g=>zL (tn (zD (g.mv rfl λ_ g=>g.mv rfl λ_ g=>g.mv rfl λ_ g=>g.op (ZO g rfl) H λx10 w a H g=>g.call (zZ g zNM rfl rfl) H λe w H=>?_)))))
 obtain ⟨r,rfl,H⟩:=H
 refine ⟨_,rfl,λ_ g=>(g.mv rfl λ_ g=>g.call (zZ g zO8 rfl rfl) H λe w H=>?_)⟩
 obtain ⟨rfl,H⟩:=H
 exact ⟨_,rfl,λ_ g=>(zL (zAl g rfl ⟨rfl,H⟩))⟩
def YV (x0:Sl) (x4:Value) (x1_1:Int) (x2_1:Int) (x10:Bool) (x11:Bool) (Kl1:Int->Int->Int->Bool->Bool->World->Prop) (x3_2:Int) (x13:Int) (x97:Bool) (w:World):Prop:=
 yF w (λw=>(x97=true->(Cl zA 70 [(Sl.v x0),(.int .i64 x1_1),(.int .i64 x2_1),(.int .i64 x13),x4].toArray w (λe w=>∃ (r_2:Int),e=.returned (.int .i64 r_2)/\(Kl1 r_2 x2_1 x3_2 x10 x11 w))))/\(x97=false->(Cl zA 71 [(Sl.v x0),(.int .i64 x1_1),(.int .i64 x2_1),(.int .i64 x13),x4].toArray w (λe w=>∃ (r_3:Int) (r_4:Bool),e=.returned (.tuple [(.int .i64 r_3),(.bool r_4)].toArray)/\(opE zA (zU .i64) (binOp .quo 3 (.int .i64 (zB .i64 (x2_1 - x1_1))) (.int .i64 8)) w (λx122 w=>(((zB .i64 (r_3 - x1_1))<(zB .i64 (x2_1 - r_3)))->(Cl zA 47 [(Sl.v x0),(.int .i64 x1_1),(.int .i64 r_3),(.int .i64 x3_2),x4].toArray w (λe w=>e=.returned (.tuple [].toArray)/\(Kl1 (zB .i64 (r_3+1)) x2_1 x3_2 (decide (x122<=(zB .i64 (r_3 - x1_1)))) r_4 w))))/\(¬ ((zB .i64 (r_3 - x1_1))<(zB .i64 (x2_1 - r_3)))->(Cl zA 47 [(Sl.v x0),(.int .i64 (zB .i64 (r_3+1))),(.int .i64 x2_1),(.int .i64 x3_2),x4].toArray w (λe w=>e=.returned (.tuple [].toArray)/\(Kl1 x1_1 r_3 x3_2 (decide (x122<=(zB .i64 (x2_1 - r_3)))) r_4 w))))))))))
def QF (x0:Sl) (x4:Value) (x1_1:Int) (x2_1:Int) (x10:Bool) (x11:Bool) (Kl1:Int->Int->Int->Bool->Bool->World->Prop) (x3_2:Int) (x13:Int) (w:World):Prop:=
 ((0<x1_1)->(opB zA zC (zF 22 (Sl.v x0) (.int .i64 (zB .i64 (x1_1 - 1)))) w (λx88=>opB zA zM.v (zE 53 (.pointer x88)) w (λx89=>opB zA zC (zF 22 (Sl.v x0) (.int .i64 x13)) w (λx92=>opB zA zM.v (zE 53 (.pointer x92)) w (λx93=>∃ (r_5:Int),ZU zA x4 [(zM.v x89),(zM.v x93)] w (.int .i64 r_5)/\(YV x0 x4 x1_1 x2_1 x10 x11 Kl1 x3_2 x13 (!(decide (r_5<0))) w)))))))/\(¬ (0<x1_1)->(YV x0 x4 x1_1 x2_1 x10 x11 Kl1 x3_2 x13 false w))
def QE (x0:Sl) (x4:Value) (Ret:World->Prop) (x1_1:Int) (x2_1:Int) (x10:Bool) (x11:Bool) (Kl1:Int->Int->Int->Bool->Bool->World->Prop) (x3_2:Int) (x13:Int) (x75:Bool) (w:World):Prop:=
 (x75=true->(Cl zA 69 [(Sl.v x0),(.int .i64 x1_1),(.int .i64 x2_1),x4].toArray w (λe w=>∃ (r_6:Bool),e=.returned (.bool r_6)/\((r_6=true->(Ret w))/\(r_6=false->(QF x0 x4 x1_1 x2_1 x10 x11 Kl1 x3_2 x13 w))))))/\(x75=false->(QF x0 x4 x1_1 x2_1 x10 x11 Kl1 x3_2 x13 w))
def YU (x0:Sl) (x4:Value) (Ret:World->Prop) (x1_1:Int) (x2_1:Int) (x10:Bool) (x11:Bool) (Kl1:Int->Int->Int->Bool->Bool->World->Prop) (x3_2:Int) (x13:Int) (x14:Int) (x71:Bool) (w:World):Prop:=
 (x71=true->(QE x0 x4 Ret x1_1 x2_1 x10 x11 Kl1 x3_2 x13 (decide (x14=1)) w))/\(x71=false->(QE x0 x4 Ret x1_1 x2_1 x10 x11 Kl1 x3_2 x13 false w))
def QG (x0:Sl) (x4:Value) (Ret:World->Prop) (x1_1:Int) (x2_1:Int) (x10:Bool) (x11:Bool) (Kl1:Int->Int->Int->Bool->Bool->World->Prop) (x3_2:Int) (x13:Int) (x14:Int) (w:World):Prop:=
 (x10=true->(YU x0 x4 Ret x1_1 x2_1 x10 x11 Kl1 x3_2 x13 x14 x11 w))/\(x10=false->(YU x0 x4 Ret x1_1 x2_1 x10 x11 Kl1 x3_2 x13 x14 false w))
def QH (x0:Sl) (x4:Value) (Ret:World->Prop) (x1_1:Int) (x2_1:Int) (x10:Bool) (x11:Bool) (Kl1:Int->Int->Int->Bool->Bool->World->Prop) (x3_2:Int) (w:World):Prop:=
 Cl zA 67 [(Sl.v x0),(.int .i64 x1_1),(.int .i64 x2_1),x4].toArray w (λe w=>∃ (r:Int) (r_1:Int),e=.returned (.tuple [(.int .i64 r),(.int .i64 r_1)].toArray)/\(((r_1=2)->(Cl zA 68 [(Sl.v x0),(.int .i64 x1_1),(.int .i64 x2_1),x4].toArray w (λe w=>e=.returned (.tuple [].toArray)/\(QG x0 x4 Ret x1_1 x2_1 x10 x11 Kl1 x3_2 (zB .i64 ((zB .i64 (x2_1 - 1)) - (zB .i64 (r - x1_1)))) 1 w))))/\(¬ (r_1=2)->(QG x0 x4 Ret x1_1 x2_1 x10 x11 Kl1 x3_2 r r_1 w))))
def YJ (x0:Sl) (x4:Value) (Ret:World->Prop) (x1_1:Int) (x2_1:Int) (x3_1:Int) (x10:Bool) (x11:Bool) (w:World) (Kl1:Int->Int->Int->Bool->Bool->World->Prop):Prop:=
 (((zB .i64 (x2_1 - x1_1))<=12)->(Cl zA 64 [(Sl.v x0),(.int .i64 x1_1),(.int .i64 x2_1),x4].toArray w (λe w=>e=.returned (.tuple [].toArray)/\(Ret w))))/\(¬ ((zB .i64 (x2_1 - x1_1))<=12)->(((x3_1=0)->(Cl zA 65 [(Sl.v x0),(.int .i64 x1_1),(.int .i64 x2_1),x4].toArray w (λe w=>e=.returned (.tuple [].toArray)/\(Ret w))))/\(¬ (x3_1=0)->(((!x10)=true->(Cl zA 66 [(Sl.v x0),(.int .i64 x1_1),(.int .i64 x2_1),x4].toArray w (λe w=>e=.returned (.tuple [].toArray)/\(QH x0 x4 Ret x1_1 x2_1 x10 x11 Kl1 (zB .i64 (x3_1 - 1)) w))))/\((!x10)=false->(QH x0 x4 Ret x1_1 x2_1 x10 x11 Kl1 x3_1 w))))))
def ZV (x0:Sl) (x1:Int) (x2:Int) (x3:Int) (x4:Value) (w:World) (Ret:World->Prop):Prop:=
 ∃ (I:Int->Int->Int->Bool->Bool->World->Prop) (μ:Int->Int->Int->Bool->Bool->World->Nat),I x1 x2 x3 true true w/\∀ (x1_1:Int) (x2_1:Int) (x3_1:Int) (x10:Bool) (x11:Bool) w,I x1_1 x2_1 x3_1 x10 x11 w->YJ x0 x4 Ret x1_1 x2_1 x3_1 x10 x11 w (λx1_1' x2_1' x3_1' x10' x11' w'=>I x1_1' x2_1' x3_1' x10' x11' w'/\μ x1_1' x2_1' x3_1' x10' x11' w'<μ x1_1 x2_1 x3_1 x10 x11 w)
set_option maxRecDepth 100000 in
theorem zBn (x0:Sl) (x1:Int) (x2:Int) (x3:Int) (x4:Value) (w:World) (Ret:World->Prop) (H:ZV x0 x1 x2 x3 x4 w Ret):Cl zA 47 [(Sl.v x0),(.int .i64 x1),(.int .i64 x2),(.int .i64 x3),x4].toArray w (λe w'=>e=.returned (.tuple [].toArray)/\Ret w'):=by
 unfold ZV at H
 refine zf 148 (zipE 0 [(Sl.v x0),(.int .i64 x1),(.int .i64 x2),(.int .i64 x3),x4]) Tryz.func47 rfl rfl (by rfl) rfl ?_
 intro a g
 replace g:Sat [] 148 [(0,(Sl.v x0)),(1,(.int .i64 x1)),(2,(.int .i64 x2)),(3,(.int .i64 x3)),(4,x4)] a:=g
 refine zJ (zD (g.as_ rfl λ_ g=>zL (tn (zJ (zD (g.as_ rfl λ_ g=>zL (tn (zX ?_))))))))
 obtain ⟨I_l1,μ_l1,h0,hb⟩:=H
 refine yH (ds:=[]) (N:=148) (σ:=Int × Int × Int × Bool × Bool) (λs=>[(1,(.int .i64 s.1)),(2,(.int .i64 s.2.1)),(3,(.int .i64 s.2.2.1)),(10,(.bool s.2.2.2.1)),(11,(.bool s.2.2.2.2)),(0,(Sl.v x0)),(4,x4)]) (λs w=>I_l1 s.1 s.2.1 s.2.2.1 s.2.2.2.1 s.2.2.2.2 w) (λs w=>μ_l1 s.1 s.2.1 s.2.2.1 s.2.2.2.1 s.2.2.2.2 w) (x1,x2,x3,true,true) h0 (g.wk) ?_
 rintro ⟨x1_1,x2_1,x3_1,x10,x11⟩ w a hI g
 try dsimp only at hI g
 obtain ⟨Kl1,hK_l1⟩:∃ K:Int->Int->Int->Bool->Bool->World->Prop,K=(λx1_1' x2_1' x3_1' x10' x11' w'=>I_l1 x1_1' x2_1' x3_1' x10' x11' w'/\μ_l1 x1_1' x2_1' x3_1' x10' x11' w'<μ_l1 x1_1 x2_1 x3_1 x10 x11 w):=⟨_,rfl⟩
 have H:YJ x0 x4 Ret x1_1 x2_1 x3_1 x10 x11 w Kl1:=by rw [hK_l1];exact hb x1_1 x2_1 x3_1 x10 x11 w hI
 clear hb h0 hI
 unfold YJ at H
 refine zX (zJ (zD (g.mv rfl λ_ g=>g.mv rfl λ_ g=>g.pur (zo g rfl rfl) λ_ g=>g.as_ rfl λ_ g=>zL (tn (zJ (zJ (zD (g.mv rfl λ_ g=>g.pur (zCO g rfl rfl) λ_ g=>zL (tn (za g rfl (λhc=>?_) (λhc=>?_)))))))))))
 ·replace H:=H.1 hc
  refine zJ (zD (g.mv rfl λ_ g=>g.mv rfl λ_ g=>g.mv rfl λ_ g=>g.mv rfl λ_ g=>g.call (zZ g zRv rfl rfl) H λe w H=>?_))
  obtain ⟨rfl,H⟩:=H
  exact ⟨_,rfl,λ_ g=>(zL (tn (zd (tr (br (tr (br (zEJ g rfl ⟨rfl,H⟩))))))))⟩
 ·replace H:=H.2 hc
  refine zW (tn (zJ (zJ (zD (g.mv rfl λ_ g=>g.pur (zA1 g rfl rfl) λ_ g=>zL (tn (za g rfl (λhc=>?_) (λhc=>?_))))))))
  ·replace H:=H.1 hc
   refine zJ (zD (g.mv rfl λ_ g=>g.mv rfl λ_ g=>g.mv rfl λ_ g=>g.mv rfl λ_ g=>g.call (zZ g zRH rfl rfl) H λe w H=>?_))
   obtain ⟨rfl,H⟩:=H
   exact ⟨_,rfl,λ_ g=>(zL (tn (zd (tr (br (tr (br (zEJ g rfl ⟨rfl,H⟩))))))))⟩
  ·replace H:=H.2 hc
   refine zW (tn (zy (ds:=[]) (N:=148) (σ:=Int) (λs=>[(3,(.int .i64 s)),(0,(Sl.v x0)),(1,(.int .i64 x1_1)),(2,(.int .i64 x2_1)),(4,x4),(10,(.bool x10)),(11,(.bool x11)),(12,(.int .i64 (zB .i64 (x2_1 - x1_1))))]) (λs w=>QH x0 x4 Ret x1_1 x2_1 x10 x11 Kl1 s w) ?_ (λhj2=>?_)))
   ·intro x3_2 w a H g
    try dsimp only at H g
    unfold QH at H
    refine zJ (zD (g.mv rfl λ_ g=>g.mv rfl λ_ g=>g.mv rfl λ_ g=>g.mv rfl λ_ g=>g.call (zZ g zRe rfl rfl) H λe w H=>?_))
    obtain ⟨r,r_1,rfl,H⟩:=H
    refine ⟨_,rfl,λ_ g=>(g.mv rfl λ_ g=>g.pur (zb g rfl rfl) λ_ g=>g.pur (zb g rfl rfl) λ_ g=>g.as_ rfl λ_ g=>g.as_ rfl λ_ g=>zL (tn (zy (ds:=[]) (N:=148) (σ:=Int × Int) (λs=>[(13,(.int .i64 s.1)),(14,(.int .i64 s.2)),(0,(Sl.v x0)),(1,(.int .i64 x1_1)),(2,(.int .i64 x2_1)),(3,(.int .i64 x3_2)),(4,x4),(10,(.bool x10)),(11,(.bool x11)),(12,(.int .i64 (zB .i64 (x2_1 - x1_1))))]) (λs w=>QG x0 x4 Ret x1_1 x2_1 x10 x11 Kl1 x3_2 s.1 s.2 w) ?_ (λhj3=>?_))))⟩
    ·rintro ⟨x13,x14⟩ w a H g
     try dsimp only at H g
     unfold QG at H
     refine zy (ds:=[]) (N:=148) (σ:=Unit) (λs=>[(0,(Sl.v x0)),(1,(.int .i64 x1_1)),(2,(.int .i64 x2_1)),(3,(.int .i64 x3_2)),(4,x4),(10,(.bool x10)),(11,(.bool x11)),(12,(.int .i64 (zB .i64 (x2_1 - x1_1)))),(13,(.int .i64 x13))]) (λs w=>QF x0 x4 x1_1 x2_1 x10 x11 Kl1 x3_2 x13 w) ?_ (λhj4=>?_)
     ·rintro ⟨⟩ w a H g
      try dsimp only at H g
      unfold QF at H
      refine zJ (zJ (Qf (by kernel_rfl) (by kernel_rfl) (g.qm rfl λ_ g=>g.qpur (zA7 g rfl rfl) λ_ g=>g.qm rfl λ_ g=>WQ.join (ds:=[]) (N:=148) (σ:=Bool) (λs=>[(97,(.bool s)),(0,(Sl.v x0)),(1,(.int .i64 x1_1)),(2,(.int .i64 x2_1)),(3,(.int .i64 x3_2)),(4,x4),(10,(.bool x10)),(11,(.bool x11)),(12,(.int .i64 (zB .i64 (x2_1 - x1_1)))),(13,(.int .i64 x13))]) (λs=>YV x0 x4 x1_1 x2_1 x10 x11 Kl1 x3_2 x13 s w) 14 ?_ (λhr5=>?_))))
      ·intro x97 a H g
       try dsimp only at H g
       unfold YV at H
       refine Qe (λw hB=>?_)
       replace H:=H w hB
       refine (tn (zg g rfl (λhc=>?_) (λhc=>?_)))
       ·replace H:=H.1 hc
        refine zJ (zD (g.mv rfl λ_ g=>g.mv rfl λ_ g=>g.mv rfl λ_ g=>g.mv rfl λ_ g=>g.mv rfl λ_ g=>g.call (zZ g zRb rfl rfl) H λe w H=>?_))
        obtain ⟨r_2,rfl,H⟩:=H
        refine ⟨_,rfl,λ_ g=>(g.as_ rfl λ_ g=>zL (tn (zJ (zD (g.mv rfl λ_ g=>g.as_ rfl λ_ g=>zL (tn ?_))))))⟩
        rw [hK_l1] at H
        exact z7 (te (be (tn ⟨(r_2,x2_1,x3_2,x10,x11),g.wk,H⟩)))
       ·replace H:=H.2 hc
        refine zW (tn (zJ (zD (g.mv rfl λ_ g=>g.mv rfl λ_ g=>g.mv rfl λ_ g=>g.mv rfl λ_ g=>g.mv rfl λ_ g=>g.call (zZ g zRF rfl rfl) H λe w H=>?_))))
        obtain ⟨r_3,r_4,rfl,H⟩:=H
        refine ⟨_,rfl,λ_ g=>(g.mv rfl λ_ g=>g.pur (zb g rfl rfl) λ_ g=>g.pur (zb g rfl rfl) λ_ g=>g.as_ rfl λ_ g=>g.as_ rfl λ_ g=>zL (tn (zJ (zD (g.mv rfl λ_ g=>g.as_ rfl λ_ g=>zL (tn (zJ (zD (g.mv rfl λ_ g=>g.mv rfl λ_ g=>g.pur (zo g rfl rfl) λ_ g=>g.mv rfl λ_ g=>g.mv rfl λ_ g=>g.pur (zo g rfl rfl) λ_ g=>g.as_ rfl λ_ g=>g.as_ rfl λ_ g=>zL (tn (zJ (zD (g.mv rfl λ_ g=>g.op (xN g rfl rfl) H λx122 w a H g=>g.as_ rfl λ_ g=>zL (tn (zJ (zD (g.mv rfl λ_ g=>g.mv rfl λ_ g=>g.pur (yV g rfl rfl) λ_ g=>zL (tn (za g rfl (λhc=>?_) (λhc=>?_))))))))))))))))))))⟩
        ·replace H:=H.1 hc
         refine zJ (zD (g.mv rfl λ_ g=>g.mv rfl λ_ g=>g.pur (ZB g rfl rfl) λ_ g=>g.as_ rfl λ_ g=>zL (tn (zJ (zD (g.mv rfl λ_ g=>g.mv rfl λ_ g=>g.mv rfl λ_ g=>g.mv rfl λ_ g=>g.mv rfl λ_ g=>g.call (zZ g zO8 rfl rfl) H λe w H=>?_))))))
         obtain ⟨rfl,H⟩:=H
         refine ⟨_,rfl,λ_ g=>(zL (tn (zD (g.mv rfl λ_ g=>g.pur (zm g rfl rfl) λ_ g=>g.as_ rfl λ_ g=>?_))))⟩
         rw [hK_l1] at H
         exact zL (bn (tn ⟨((zB .i64 (r_3+1)),x2_1,x3_2,(decide (x122<=(zB .i64 (r_3 - x1_1)))),r_4),g.wk,H⟩))
        ·replace H:=H.2 hc
         refine zJ (zD (g.mv rfl λ_ g=>g.mv rfl λ_ g=>g.pur (ZB g rfl rfl) λ_ g=>g.as_ rfl λ_ g=>zL (tn (zJ (zD (g.mv rfl λ_ g=>g.mv rfl λ_ g=>g.pur (zm g rfl rfl) λ_ g=>g.mv rfl λ_ g=>g.mv rfl λ_ g=>g.mv rfl λ_ g=>g.call (zZ g zO8 rfl rfl) H λe w H=>?_))))))
         obtain ⟨rfl,H⟩:=H
         refine ⟨_,rfl,λ_ g=>(zL (tn (zD (g.mv rfl λ_ g=>g.as_ rfl λ_ g=>?_))))⟩
         rw [hK_l1] at H
         exact zL (bn (tn ⟨(x1_1,r_3,x3_2,(decide (x122<=(zB .i64 (x2_1 - r_3)))),r_4),g.wk,H⟩))
      ·rcases Classical.em ((0<x1_1)) with hbr5|hbr5
       ·replace H:=H.1 hbr5
        replace g:=g.bool (b:=true) (t:=83) rfl (decide_eq_true hbr5)
        refine g.qon (by rfl) (by rfl) (g.qm rfl λ_ g=>g.qon (by rfl) (by rfl) (g.qm rfl λ_ g=>g.qon (by rfl) (by rfl) (g.qm rfl λ_ g=>g.qon (by rfl) (by rfl) (g.qpur (zo g rfl rfl) λ_ g=>g.qon (by rfl) (by rfl) (g.qop (zH g rfl rfl) H λx88 a H g=>g.qon (by rfl) (by rfl) (g.qop (zO g rfl) H λx89 a H g=>g.qon (by rfl) (by rfl) (g.qm rfl λ_ g=>g.qon (by rfl) (by rfl) (g.qm rfl λ_ g=>g.qon (by rfl) (by rfl) (g.qop (zH g rfl rfl) H λx92 a H g=>g.qon (by rfl) (by rfl) (g.qop (zO g rfl) H λx93 a H g=>g.qon (by rfl) (by rfl) ?_))))))))))
        obtain ⟨r_5,hc,H⟩:=H
        exact g.qcallV rfl rfl hc λ_ g=>g.qon (by rfl) (by rfl) (g.qpur (yV g rfl rfl) λ_ g=>g.qon (by rfl) (by rfl) (g.qpur (Z4 g rfl) λ_ g=>g.qpur (yD g rfl rfl) λ_ g=>hr5 (!(decide (r_5<0))) _ H (g.wk)))
       ·replace H:=H.2 hbr5
        replace g:=g.bool (b:=false) (t:=83) rfl (decide_eq_false hbr5)
        exact g.qoff (by rfl) (by rfl) (by decide) (λ_ g=>g.qoff (by rfl) (by rfl) (by decide) (λ_ g=>g.qoff (by rfl) (by rfl) (by decide) (λ_ g=>g.qoff (by rfl) (by rfl) (by decide) (λ_ g=>g.qoff (by rfl) (by rfl) (by decide) (λ_ g=>g.qoff (by rfl) (by rfl) (by decide) (λ_ g=>g.qoff (by rfl) (by rfl) (by decide) (λ_ g=>g.qoff (by rfl) (by rfl) (by decide) (λ_ g=>g.qoff (by rfl) (by rfl) (by decide) (λ_ g=>g.qoff (by rfl) (by rfl) (by decide) (λ_ g=>g.qoff (by rfl) (by rfl) (by decide) (λ_ g=>g.qoff (by rfl) (by rfl) (by decide) (λ_ g=>g.qoff (by rfl) (by rfl) (by decide) (λ_ g=>g.qpur (yC g rfl rfl) λ_ g=>hr5 false _ H (g.wk))))))))))))))
     ·refine zJ (zD (g.mv rfl λ_ g=>g.mv rfl λ_ g=>WL.join (ds:=[]) (N:=148) (σ:=Bool) (λs=>[(71,(.bool s)),(0,(Sl.v x0)),(1,(.int .i64 x1_1)),(2,(.int .i64 x2_1)),(3,(.int .i64 x3_2)),(4,x4),(10,(.bool x10)),(11,(.bool x11)),(12,(.int .i64 (zB .i64 (x2_1 - x1_1)))),(13,(.int .i64 x13)),(14,(.int .i64 x14))]) (λs w=>YU x0 x4 Ret x1_1 x2_1 x10 x11 Kl1 x3_2 x13 x14 s w) 2 ?_ (λhr6=>?_)))
      ·intro x71 w a H g
       try dsimp only at H g
       unfold YU at H
       refine g.mv rfl λ_ g=>WL.join (ds:=[]) (N:=148) (σ:=Bool) (λs=>[(75,(.bool s)),(0,(Sl.v x0)),(1,(.int .i64 x1_1)),(2,(.int .i64 x2_1)),(3,(.int .i64 x3_2)),(4,x4),(10,(.bool x10)),(11,(.bool x11)),(12,(.int .i64 (zB .i64 (x2_1 - x1_1)))),(13,(.int .i64 x13))]) (λs w=>QE x0 x4 Ret x1_1 x2_1 x10 x11 Kl1 x3_2 x13 s w) 3 ?_ (λhr7=>?_)
       ·intro x75 w a H g
        try dsimp only at H g
        unfold QE at H
        refine zL (tn (zg g rfl (λhc=>?_) (λhc=>?_)))
        ·replace H:=H.1 hc
         refine zJ (zD (g.mv rfl λ_ g=>g.mv rfl λ_ g=>g.mv rfl λ_ g=>g.mv rfl λ_ g=>g.call (zZ g zRn rfl rfl) H λe w H=>?_))
         obtain ⟨r_6,rfl,H⟩:=H
         refine ⟨_,rfl,λ_ g=>(zL (tn (zg g rfl (λhc=>?_) (λhc=>?_))))⟩
         ·replace H:=H.1 hc
          exact zd (tr (br (tr (br (zEJ g rfl ⟨rfl,H⟩)))))
         ·replace H:=H.2 hc
          exact zW (tn (hj4 () _ _ H (g.wk)))
        ·replace H:=H.2 hc
         exact zW (tn (hj4 () _ _ H (g.wk)))
       ·rcases Bool.eq_false_or_eq_true (x71) with hbr7|hbr7
        ·replace H:=H.1 hbr7
         replace g:=g.bool (b:=true) (t:=72) rfl (hbr7)
         exact g.on (by rfl) (by rfl) (g.mv rfl λ_ g=>g.on (by rfl) (by rfl) (g.pur (zA1 g rfl rfl) λ_ g=>g.pur (yD g rfl rfl) λ_ g=>hr7 (decide (x14=1)) _ _ H (g.wk)))
        ·replace H:=H.2 hbr7
         replace g:=g.bool (b:=false) (t:=72) rfl (hbr7)
         exact g.off (by rfl) (by rfl) (by decide) (λ_ g=>g.off (by rfl) (by rfl) (by decide) (λ_ g=>g.pur (yC g rfl rfl) λ_ g=>hr7 false _ _ H (g.wk)))
      ·rcases Bool.eq_false_or_eq_true (x10) with hbr6|hbr6
       ·replace H:=H.1 hbr6
        replace g:=g.bool (b:=true) (t:=69) rfl (hbr6)
        exact g.on (by rfl) (by rfl) (g.mv rfl λ_ g=>g.pur (yD g rfl rfl) λ_ g=>hr6 x11 _ _ H (g.wk))
       ·replace H:=H.2 hbr6
        replace g:=g.bool (b:=false) (t:=69) rfl (hbr6)
        exact g.off (by rfl) (by rfl) (by decide) (λ_ g=>g.pur (yC g rfl rfl) λ_ g=>hr6 false _ _ H (g.wk))
    ·refine zJ (zD (g.mv rfl λ_ g=>g.pur (zA1 g rfl rfl) λ_ g=>zL (tn (za g rfl (λhc=>?_) (λhc=>?_)))))
     ·replace H:=H.1 hc
      refine zJ (zD (g.mv rfl λ_ g=>g.mv rfl λ_ g=>g.mv rfl λ_ g=>g.mv rfl λ_ g=>g.call (zZ g zRy rfl rfl) H λe w H=>?_))
      obtain ⟨rfl,H⟩:=H
      exact ⟨_,rfl,λ_ g=>(zL (tn (zJ (zD (g.mv rfl λ_ g=>g.pur (zo g rfl rfl) λ_ g=>g.mv rfl λ_ g=>g.mv rfl λ_ g=>g.pur (zo g rfl rfl) λ_ g=>g.pur (zo g rfl rfl) λ_ g=>g.as_ rfl λ_ g=>zL (tn (zD (g.as_ rfl λ_ g=>zL (tn (hj3 ((zB .i64 ((zB .i64 (x2_1 - 1)) - (zB .i64 (r - x1_1)))),1) _ _ H (g.wk)))))))))))⟩
     ·replace H:=H.2 hc
      exact zW (tn (hj3 (r,r_1) _ _ H (g.wk)))
   ·refine zJ (zD (g.mv rfl λ_ g=>g.pur (Z4 g rfl) λ_ g=>zL (tn (zg g rfl (λhc=>?_) (λhc=>?_)))))
    ·replace H:=H.1 hc
     refine zJ (zD (g.mv rfl λ_ g=>g.mv rfl λ_ g=>g.mv rfl λ_ g=>g.mv rfl λ_ g=>g.call (zZ g zRO rfl rfl) H λe w H=>?_))
     obtain ⟨rfl,H⟩:=H
     exact ⟨_,rfl,λ_ g=>(zL (tn (zD (g.mv rfl λ_ g=>g.pur (zo g rfl rfl) λ_ g=>g.as_ rfl λ_ g=>zL (tn (hj2 (zB .i64 (x3_1 - 1)) _ _ H (g.wk)))))))⟩
    ·replace H:=H.2 hc
     exact zW (tn (hj2 x3_1 _ _ H (g.wk)))
def QA (x11:Int) (Kl1:Int->World->Prop) (w:World):Prop:=
 Kl1 (zB .i64 (x11+1)) w
def yl (x0:Sl) (x1:Int) (x11:Int) (Kl1:Int->World->Prop) (x12:Int) (w:World):Prop:=
 yF w (λw=>opP zA zC (zF 22 (Sl.v x0) (.int .i64 (zB .i64 (x1+x12)))) (λx59=>opP zA zC (zF 22 (Sl.v x0) (.int .i64 x11)) (λx63=>(opE zA zM.v (zE 53 (.pointer x59)) w (λx60 w=>opE zA zM.v (zE 53 (.pointer x63)) w (λx64 w=>opP zA zC (zF 22 (Sl.v x0) (.int .i64 x11)) (λx65=>opU zA (zI 53 (.pointer x65) (zM.v x60)) w (λw=>opP zA zC (zF 22 (Sl.v x0) (.int .i64 (zB .i64 (x1+x12)))) (λx66=>opU zA (zI 53 (.pointer x66) (zM.v x64)) w (λw=>QA x11 Kl1 w)))))))/\(opE zA zM.v (zE 53 (.pointer x63)) w (λx64_1 w=>opE zA zM.v (zE 53 (.pointer x59)) w (λx60_1 w=>opP zA zC (zF 22 (Sl.v x0) (.int .i64 x11)) (λx65_1=>opU zA (zI 53 (.pointer x65_1) (zM.v x60_1)) w (λw=>opP zA zC (zF 22 (Sl.v x0) (.int .i64 (zB .i64 (x1+x12)))) (λx66_1=>opU zA (zI 53 (.pointer x66_1) (zM.v x64_1)) w (λw=>QA x11 Kl1 w))))))))))
def YN (x0:Sl) (x1:Int) (x2:Int) (Ret:World->Prop) (x9:Option Addr) (r:Int) (x11:Int) (w:World) (Kl1:Int->World->Prop):Prop:=
 opE zA (zU .i64) (binOp .quo 3 (.int .i64 (zB .i64 (x2 - x1))) (.int .i64 4)) w (λx31 w=>((x11<=(zB .i64 ((zB .i64 (x1+(zB .i64 (x31*2))))+1)))->(Cl zA 89 [(.pointer x9)].toArray w (λe w=>∃ (r_1:Int),e=.returned (.int .u64 r_1)/\(opE zA (zU .u64) (binOp .and 109 (.int .u64 r_1) (.int .u64 (zB .u64 (r - 1)))) w (λx41 w=>opE zA (zU .i64) (Go.convert 109 3 (.int .u64 x41)) w (λx42 w=>(((zB .i64 (x2 - x1))<=x42)->(yl x0 x1 x11 Kl1 (zB .i64 (x42 - (zB .i64 (x2 - x1)))) w))/\(¬ ((zB .i64 (x2 - x1))<=x42)->(yl x0 x1 x11 Kl1 x42 w))))))))/\(¬ (x11<=(zB .i64 ((zB .i64 (x1+(zB .i64 (x31*2))))+1)))->(Ret w)))
def Zo (x0:Sl) (x1:Int) (x2:Int) (x3:Value) (w:World) (Ret:World->Prop):Prop:=
 ((8<=(zB .i64 (x2 - x1)))->(opE zA (zU .u64) (Go.convert 3 152 (.int .i64 (zB .i64 (x2 - x1)))) w (λx19 w=>opE zA zC (ze 152 true (.tuple #[])) w (λx9 w=>opU zA (zI 152 (.pointer x9) (.int .u64 x19)) w (λw=>Cl zA 88 [(.int .i64 (zB .i64 (x2 - x1)))].toArray w (λe w=>∃ (r:Int),e=.returned (.int .u64 r)/\(opE zA (zU .i64) (binOp .quo 3 (.int .i64 (zB .i64 (x2 - x1))) (.int .i64 4)) w (λx24 w=>∃ (I:Int->World->Prop) (μ:Int->World->Nat),I (zB .i64 ((zB .i64 (x1+(zB .i64 (x24*2)))) - 1)) w/\∀ (x11:Int) w,I x11 w->YN x0 x1 x2 Ret x9 r x11 w (λx11' w'=>I x11' w'/\μ x11' w'<μ x11 w)))))))))/\(¬ (8<=(zB .i64 (x2 - x1)))->(Ret w))
set_option maxRecDepth 100000 in
theorem zDS (x0:Sl) (x1:Int) (x2:Int) (x3:Value) (w:World) (Ret:World->Prop) (H:Zo x0 x1 x2 x3 w Ret):Cl zA 66 [(Sl.v x0),(.int .i64 x1),(.int .i64 x2),x3].toArray w (λe w'=>e=.returned (.tuple [].toArray)/\Ret w'):=by
 unfold Zo at H
 refine zf 67 (zipE 0 [(Sl.v x0),(.int .i64 x1),(.int .i64 x2),x3]) Tryz.func66 rfl rfl (by rfl) rfl ?_
 intro a g
 replace g:Sat [] 67 [(0,(Sl.v x0)),(1,(.int .i64 x1)),(2,(.int .i64 x2)),(3,x3)] a:=g
 refine zJ (zD (g.mv rfl λ_ g=>g.mv rfl λ_ g=>g.pur (zo g rfl rfl) λ_ g=>g.as_ rfl λ_ g=>zL (tn (zJ (zD (g.mv rfl λ_ g=>g.pur (ZB g rfl rfl) λ_ g=>zL (tn (za g rfl (λhc=>?_) (λhc=>?_)))))))))
 ·replace H:=H.1 hc
  refine zJ (zD (g.mv rfl λ_ g=>g.op (ZO g rfl) H λx19 w a H g=>g.op (QP) H λx9 w a H g=>g.opu (zT g rfl rfl) H λw a H g=>zL (tn (zJ (zD (g.mv rfl λ_ g=>g.call (zZ g zOn rfl rfl) H λe w H=>?_))))))
  obtain ⟨r,rfl,H⟩:=H
  refine ⟨_,rfl,λ_ g=>(g.as_ rfl λ_ g=>zL (tn (zJ (zD (g.mv rfl λ_ g=>g.mv rfl λ_ g=>g.op (xN g rfl rfl) H λx24 w a H g=>g.pur (zCE g rfl rfl) λ_ g=>g.pur (zm g rfl rfl) λ_ g=>g.pur (zo g rfl rfl) λ_ g=>g.as_ rfl λ_ g=>zL (tn (zX ?_)))))))⟩
  obtain ⟨I_l1,μ_l1,h0,hb⟩:=H
  refine yH (ds:=[]) (N:=67) (σ:=Int) (λs=>[(11,(.int .i64 s)),(0,(Sl.v x0)),(1,(.int .i64 x1)),(8,(.int .i64 (zB .i64 (x2 - x1)))),(9,(.pointer x9)),(10,(.int .u64 r))]) (λs w=>I_l1 s w) (λs w=>μ_l1 s w) (zB .i64 ((zB .i64 (x1+(zB .i64 (x24*2)))) - 1)) h0 (g.wk) ?_
  intro x11 w a hI g
  try dsimp only at hI g
  obtain ⟨Kl1,hK_l1⟩:∃ K:Int->World->Prop,K=(λx11' w'=>I_l1 x11' w'/\μ_l1 x11' w'<μ_l1 x11 w):=⟨_,rfl⟩
  have H:YN x0 x1 x2 Ret x9 r x11 w Kl1:=by rw [hK_l1];exact hb x11 w hI
  clear hb h0 hI
  unfold YN at H
  refine zJ (zJ (zD (g.mv rfl λ_ g=>g.mv rfl λ_ g=>g.mv rfl λ_ g=>g.op (xN g rfl rfl) H λx31 w a H g=>g.pur (zCE g rfl rfl) λ_ g=>g.pur (zm g rfl rfl) λ_ g=>g.pur (zm g rfl rfl) λ_ g=>g.pur (zCO g rfl rfl) λ_ g=>zL (tn (za g rfl (λhc=>?_) (λhc=>?_))))))
  ·replace H:=H.1 hc
   refine zW (tn (zy (ds:=[]) (N:=67) (σ:=Unit) (λs=>[(0,(Sl.v x0)),(1,(.int .i64 x1)),(8,(.int .i64 (zB .i64 (x2 - x1)))),(9,(.pointer x9)),(10,(.int .u64 r)),(11,(.int .i64 x11))]) (λs w=>QA x11 Kl1 w) ?_ (λhj2=>?_)))
   ·rintro ⟨⟩ w a H g
    try dsimp only at H g
    unfold QA at H
    refine zD (g.mv rfl λ_ g=>g.pur (zm g rfl rfl) λ_ g=>g.as_ rfl λ_ g=>?_)
    rw [hK_l1] at H
    exact zL (tn ⟨(zB .i64 (x11+1)),g.wk,H⟩)
   ·refine zX (zJ (zD (g.call (zZ g zPB rfl rfl) H λe w H=>?_)))
    obtain ⟨r_1,rfl,H⟩:=H
    refine ⟨_,rfl,λ_ g=>(g.mv rfl λ_ g=>g.pur (zo g rfl rfl) λ_ g=>g.op (xN g rfl rfl) H λx41 w a H g=>g.op (ZO g rfl) H λx42 w a H g=>g.as_ rfl λ_ g=>zL (tn (zy (ds:=[]) (N:=67) (σ:=Int) (λs=>[(12,(.int .i64 s)),(0,(Sl.v x0)),(1,(.int .i64 x1)),(8,(.int .i64 (zB .i64 (x2 - x1)))),(9,(.pointer x9)),(10,(.int .u64 r)),(11,(.int .i64 x11))]) (λs w=>yl x0 x1 x11 Kl1 s w) ?_ (λhj3=>?_))))⟩
    ·intro x12 w a H g
     try dsimp only at H g
     unfold yl at H
     refine zAv 20 λw hB=>?_
     replace H:=H w hB
     refine g.ap 0 rfl (zQ g rfl) λ_ g=>g.ap 1 rfl (zQ g rfl) λ_ g=>g.ap 2 rfl (zQ g rfl) λ_ g=>g.ap 3 rfl (zQ g rfl) λ_ g=>g.ap 4 rfl (zQ g rfl) λ_ g=>g.ap 5 rfl (zm g rfl rfl) λ_ g=>g.ap 6 rfl (zQ g rfl) λ_ g=>g.ap 7 rfl (zQ g rfl) λ_ g=>g.ap 8 rfl (zQ g rfl) λ_ g=>g.ap 9 rfl (zm g rfl rfl) λ_ g=>g.ao 10 rfl (zH g rfl rfl) H λx59 a H g=>g.ap 12 rfl (zQ g rfl) λ_ g=>g.ap 13 rfl (zQ g rfl) λ_ g=>g.ao 14 rfl (zH g rfl rfl) H λx63 a H g=>WA.tw 11 15 rfl rfl ?_ ?_
     ·replace H:=H.1
      intro K hK
      exact g.wop (zO g rfl) H λx60 w a H g=>hK _ _ (g.o1 15 rfl (zO g rfl) H λx64 w a H g=>g.ao 16 rfl (zH g rfl rfl) H λx65 a H g=>g.o1u 17 rfl (zT g rfl rfl) H λw a H g=>g.ao 18 rfl (zH g rfl rfl) H λx66 a H g=>g.o1u 19 rfl (zT g rfl rfl) H λw a H g=>WA.ni ((bn (tn (hj2 () _ _ H (g.wk))))))
     ·replace H:=H.2
      intro K hK
      exact g.wop (zO g rfl) H λx64_1 w a H g=>hK _ _ (g.o1 11 rfl (zO g rfl) H λx60_1 w a H g=>g.ao 16 rfl (zH g rfl rfl) H λx65_1 a H g=>g.o1u 17 rfl (zT g rfl rfl) H λw a H g=>g.ao 18 rfl (zH g rfl rfl) H λx66_1 a H g=>g.o1u 19 rfl (zT g rfl rfl) H λw a H g=>WA.ni ((bn (tn (hj2 () _ _ H (g.wk))))))
    ·refine zJ (zD (g.mv rfl λ_ g=>g.mv rfl λ_ g=>g.pur (ZB g rfl rfl) λ_ g=>zL (tn (za g rfl (λhc=>?_) (λhc=>?_)))))
     ·replace H:=H.1 hc
      exact zD (g.mv rfl λ_ g=>g.mv rfl λ_ g=>g.pur (zo g rfl rfl) λ_ g=>g.as_ rfl λ_ g=>zL (tn (hj3 (zB .i64 (x42 - (zB .i64 (x2 - x1)))) _ _ H (g.wk))))
     ·replace H:=H.2 hc
      exact zW (tn (hj3 x42 _ _ H (g.wk)))
  ·replace H:=H.2 hc
   exact z7 (te (te (be (zAl g rfl ⟨rfl,H⟩))))
 ·replace H:=H.2 hc
  exact zW (zAl g rfl ⟨rfl,H⟩)
end Go.Proofs.YtealcoghiaeiiaaGreatDoor.VG
