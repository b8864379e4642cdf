/- Texts by which the law's calls are walked (part 2): rules, printed conditions, contracts; no condition. -/
import Derived.TacticsIn
import Derived.TacticsInMore
import Derived.Deep.LoopGhost
import Derived.Sort.QuietThIn
import Derived.RangeFuncCalls
import Derived.RangeFuncNested
import Derived.RangeFuncLeaves
import Derived.WalkKit
import Derived.StillTail
import Derived.Test.YtealcoghiaeiiaaGreatProg
import Derived.KernelRfl
import Derived.Test.YtealcoghiaeiiaaGreatPkTxnApartA
set_option linter.unusedVariables false
set_option linter.unusedSimpArgs false
namespace Go.Proofs.YtealcoghiaeiiaaGreat.VG
open Go.VB Go.Proofs
def zE9 (x0:Sl) (x1:Value) (w:World) (Ret:World→Prop):Prop:=
 opE Tryz.prog (Value.int .u64) (Go.convert 3 143 (.int .i64 (x0.len:Int))) w (fun x10 w=>Cl Tryz.prog 73 [(.int .u64 x10)].toArray w (fun e w=>∃ (r:Int),e=.returned (.int .i64 r)∧(Cl Tryz.prog 72 [(Sl.v x0),(.int .i64 0),(.int .i64 (x0.len:Int)),(.int .i64 r),x1].toArray w (fun e w=>e=.returned (.tuple [].toArray)∧(Ret w)))))
set_option maxRecDepth 100000 in
theorem zIs (x0:Sl) (x1:Value) (w:World) (Ret:World→Prop) (H:zE9 x0 x1 w Ret):Cl Tryz.prog 46 [(Sl.v x0),x1].toArray w (fun e w'=>e=.returned (.tuple [].toArray)∧Ret w'):=by
 unfold zE9 at H
 refine zAY 14 (zipE 0 [(Sl.v x0),x1]) Tryz.func46 rfl rfl (by rfl) rfl ?_
 intro a g
 replace g:Sat [] 14 [(0,(Sl.v x0)),(1,x1)] a:=g
 refine zAF (zAA (g.mv rfl fun _ g=>(g.purR (fun w=>zGm g Tryz.underlying22 rfl) fun _ g=>(g.as_ rfl fun _ g=>(zAG (tn (zAA (g.mv rfl fun _ g=>(g.mv rfl fun _ g=>(g.mv rfl fun _ g=>(g.op (zGY g rfl) H fun x10 w a H g=>(g.call (zAQ g ent73 rfl rfl) H fun e w H=>?_))))))))))))
 obtain ⟨r,rfl,H⟩:=H
 refine ⟨_,rfl,fun _ g=>(g.mv rfl fun _ g=>(g.call (zAQ g ent72 rfl rfl) H fun e w H=>?_))⟩
 obtain ⟨rfl,H⟩:=H
 exact ⟨_,rfl,fun _ g=>(zAG (zG1 g rfl ⟨rfl,H⟩))⟩
def zDZ (x0:Sl) (x4:Value) (x1_1:Int) (x2_1:Int) (x10:Bool) (x11:Bool) (Kl1:Int→Int→Int→Bool→Bool→World→Prop) (x3_2:Int) (x13:Int) (x97:Bool) (w:World):Prop:=
 nextB w (fun w=>(x97=true→(Cl Tryz.prog 96 [(Sl.v x0),(.int .i64 x1_1),(.int .i64 x2_1),(.int .i64 x13),x4].toArray w (fun e w=>∃ (r_2:Int),e=.returned (.int .i64 r_2)∧(Kl1 r_2 x2_1 x3_2 x10 x11 w))))∧(x97=false→(Cl Tryz.prog 97 [(Sl.v x0),(.int .i64 x1_1),(.int .i64 x2_1),(.int .i64 x13),x4].toArray w (fun e w=>∃ (r_3:Int) (r_4:Bool),e=.returned (.tuple [(.int .i64 r_3),(.bool r_4)].toArray)∧(opE Tryz.prog (Value.int .i64) (binOp .quo 3 (.int .i64 (IntKind.wrap .i64 (x2_1 - x1_1))) (.int .i64 8)) w (fun x122 w=>(((IntKind.wrap .i64 (r_3 - x1_1))<(IntKind.wrap .i64 (x2_1 - r_3)))→(Cl Tryz.prog 72 [(Sl.v x0),(.int .i64 x1_1),(.int .i64 r_3),(.int .i64 x3_2),x4].toArray w (fun e w=>e=.returned (.tuple [].toArray)∧(Kl1 (IntKind.wrap .i64 (r_3+1)) x2_1 x3_2 (decide (x122≤(IntKind.wrap .i64 (r_3 - x1_1)))) r_4 w))))∧(¬ ((IntKind.wrap .i64 (r_3 - x1_1))<(IntKind.wrap .i64 (x2_1 - r_3)))→(Cl Tryz.prog 72 [(Sl.v x0),(.int .i64 (IntKind.wrap .i64 (r_3+1))),(.int .i64 x2_1),(.int .i64 x3_2),x4].toArray w (fun e w=>e=.returned (.tuple [].toArray)∧(Kl1 x1_1 r_3 x3_2 (decide (x122≤(IntKind.wrap .i64 (x2_1 - r_3)))) r_4 w))))))))))
def zCV (x0:Sl) (x4:Value) (x1_1:Int) (x2_1:Int) (x10:Bool) (x11:Bool) (Kl1:Int→Int→Int→Bool→Bool→World→Prop) (x3_2:Int) (x13:Int) (w:World):Prop:=
 ((0<x1_1)→(opB Tryz.prog Value.pointer (Instr.indexAt 22 (Sl.v x0) (.int .i64 (IntKind.wrap .i64 (x1_1 - 1)))) w (fun x88=>opB Tryz.prog zAE.v (Instr.loadAt 66 (.pointer x88)) w (fun x89=>opB Tryz.prog Value.pointer (Instr.indexAt 22 (Sl.v x0) (.int .i64 x13)) w (fun x92=>opB Tryz.prog zAE.v (Instr.loadAt 66 (.pointer x92)) w (fun x93=>∃ (r_5:Int),CallQ Tryz.prog x4 [(zAE.v x89),(zAE.v x93)] w (.int .i64 r_5)∧(zDZ x0 x4 x1_1 x2_1 x10 x11 Kl1 x3_2 x13 (!(decide (r_5<0))) w)))))))∧(¬ (0<x1_1)→(zDZ x0 x4 x1_1 x2_1 x10 x11 Kl1 x3_2 x13 false w))
def zCU (x0:Sl) (x4:Value) (Ret:World→Prop) (x1_1:Int) (x2_1:Int) (x10:Bool) (x11:Bool) (Kl1:Int→Int→Int→Bool→Bool→World→Prop) (x3_2:Int) (x13:Int) (x75:Bool) (w:World):Prop:=
 (x75=true→(Cl Tryz.prog 95 [(Sl.v x0),(.int .i64 x1_1),(.int .i64 x2_1),x4].toArray w (fun e w=>∃ (r_6:Bool),e=.returned (.bool r_6)∧((r_6=true→(Ret w))∧(r_6=false→(zCV x0 x4 x1_1 x2_1 x10 x11 Kl1 x3_2 x13 w))))))∧(x75=false→(zCV x0 x4 x1_1 x2_1 x10 x11 Kl1 x3_2 x13 w))
def zDa (x0:Sl) (x4:Value) (Ret:World→Prop) (x1_1:Int) (x2_1:Int) (x10:Bool) (x11:Bool) (Kl1:Int→Int→Int→Bool→Bool→World→Prop) (x3_2:Int) (x13:Int) (x14:Int) (x71:Bool) (w:World):Prop:=
 (x71=true→(zCU x0 x4 Ret x1_1 x2_1 x10 x11 Kl1 x3_2 x13 (decide (x14=1)) w))∧(x71=false→(zCU x0 x4 Ret x1_1 x2_1 x10 x11 Kl1 x3_2 x13 false w))
def zCX (x0:Sl) (x4:Value) (Ret:World→Prop) (x1_1:Int) (x2_1:Int) (x10:Bool) (x11:Bool) (Kl1:Int→Int→Int→Bool→Bool→World→Prop) (x3_2:Int) (x13:Int) (x14:Int) (w:World):Prop:=
 (x10=true→(zDa x0 x4 Ret x1_1 x2_1 x10 x11 Kl1 x3_2 x13 x14 x11 w))∧(x10=false→(zDa x0 x4 Ret x1_1 x2_1 x10 x11 Kl1 x3_2 x13 x14 false w))
def zCW (x0:Sl) (x4:Value) (Ret:World→Prop) (x1_1:Int) (x2_1:Int) (x10:Bool) (x11:Bool) (Kl1:Int→Int→Int→Bool→Bool→World→Prop) (x3_2:Int) (w:World):Prop:=
 Cl Tryz.prog 93 [(Sl.v x0),(.int .i64 x1_1),(.int .i64 x2_1),x4].toArray w (fun e w=>∃ (r:Int) (r_1:Int),e=.returned (.tuple [(.int .i64 r),(.int .i64 r_1)].toArray)∧(((r_1=2)→(Cl Tryz.prog 94 [(Sl.v x0),(.int .i64 x1_1),(.int .i64 x2_1),x4].toArray w (fun e w=>e=.returned (.tuple [].toArray)∧(zCX x0 x4 Ret x1_1 x2_1 x10 x11 Kl1 x3_2 (IntKind.wrap .i64 ((IntKind.wrap .i64 (x2_1 - 1)) - (IntKind.wrap .i64 (r - x1_1)))) 1 w))))∧(¬ (r_1=2)→(zCX x0 x4 Ret x1_1 x2_1 x10 x11 Kl1 x3_2 r r_1 w))))
def zDP (x0:Sl) (x4:Value) (Ret:World→Prop) (x1_1:Int) (x2_1:Int) (x3_1:Int) (x10:Bool) (x11:Bool) (w:World) (Kl1:Int→Int→Int→Bool→Bool→World→Prop):Prop:=
 (((IntKind.wrap .i64 (x2_1 - x1_1))≤12)→(Cl Tryz.prog 90 [(Sl.v x0),(.int .i64 x1_1),(.int .i64 x2_1),x4].toArray w (fun e w=>e=.returned (.tuple [].toArray)∧(Ret w))))∧(¬ ((IntKind.wrap .i64 (x2_1 - x1_1))≤12)→(((x3_1=0)→(Cl Tryz.prog 91 [(Sl.v x0),(.int .i64 x1_1),(.int .i64 x2_1),x4].toArray w (fun e w=>e=.returned (.tuple [].toArray)∧(Ret w))))∧(¬ (x3_1=0)→(((!x10)=true→(Cl Tryz.prog 92 [(Sl.v x0),(.int .i64 x1_1),(.int .i64 x2_1),x4].toArray w (fun e w=>e=.returned (.tuple [].toArray)∧(zCW x0 x4 Ret x1_1 x2_1 x10 x11 Kl1 (IntKind.wrap .i64 (x3_1 - 1)) w))))∧((!x10)=false→(zCW x0 x4 Ret x1_1 x2_1 x10 x11 Kl1 x3_1 w))))))
def zEW (x0:Sl) (x1:Int) (x2:Int) (x3:Int) (x4:Value) (w:World) (Ret:World→Prop):Prop:=
 ∃ (I:Int→Int→Int→Bool→Bool→World→Prop) (μ:Int→Int→Int→Bool→Bool→World→Nat),I x1 x2 x3 true true w∧∀ (x1_1:Int) (x2_1:Int) (x3_1:Int) (x10:Bool) (x11:Bool) w,I x1_1 x2_1 x3_1 x10 x11 w→zDP x0 x4 Ret x1_1 x2_1 x3_1 x10 x11 w (fun x1_1' x2_1' x3_1' x10' x11' w'=>I x1_1' x2_1' x3_1' x10' x11' w'∧μ x1_1' x2_1' x3_1' x10' x11' w'<μ x1_1 x2_1 x3_1 x10 x11 w)
set_option maxRecDepth 100000 in
theorem zGb (x0:Sl) (x1:Int) (x2:Int) (x3:Int) (x4:Value) (w:World) (Ret:World→Prop) (H:zEW x0 x1 x2 x3 x4 w Ret):Cl Tryz.prog 72 [(Sl.v x0),(.int .i64 x1),(.int .i64 x2),(.int .i64 x3),x4].toArray w (fun e w'=>e=.returned (.tuple [].toArray)∧Ret w'):=by
 unfold zEW at H
 refine zAY 148 (zipE 0 [(Sl.v x0),(.int .i64 x1),(.int .i64 x2),(.int .i64 x3),x4]) Tryz.func72 rfl rfl (by rfl) rfl ?_
 intro a g
 replace g:Sat [] 148 [(0,(Sl.v x0)),(1,(.int .i64 x1)),(2,(.int .i64 x2)),(3,(.int .i64 x3)),(4,x4)] a:=g
 refine zAF (zAA (g.as_ rfl fun _ g=>(zAG (tn (zAF (zAA (g.as_ rfl fun _ g=>(zAG (tn (zAN ?_))))))))))
 obtain ⟨I_l1,μ_l1,h0,hb⟩:=H
 refine zBl (ds:=[]) (N:=148) (σ:=Int × Int × Int × Bool × Bool) (fun s=>[(1,(.int .i64 s.1)),(2,(.int .i64 s.2.1)),(3,(.int .i64 s.2.2.1)),(10,(.bool s.2.2.2.1)),(11,(.bool s.2.2.2.2)),(0,(Sl.v x0)),(4,x4)]) (fun s w=>I_l1 s.1 s.2.1 s.2.2.1 s.2.2.2.1 s.2.2.2.2 w) (fun s w=>μ_l1 s.1 s.2.1 s.2.2.1 s.2.2.2.1 s.2.2.2.2 w) (x1,x2,x3,true,true) h0 (g.weak ⟨rfl,rfl,rfl,rfl,rfl,rfl,rfl,trivial⟩) ?_
 rintro ⟨x1_1,x2_1,x3_1,x10,x11⟩ w a hI g
 try dsimp only at hI g
 obtain ⟨Kl1,hK_l1⟩:∃ K:Int→Int→Int→Bool→Bool→World→Prop,K=(fun x1_1' x2_1' x3_1' x10' x11' w'=>I_l1 x1_1' x2_1' x3_1' x10' x11' w'∧μ_l1 x1_1' x2_1' x3_1' x10' x11' w'<μ_l1 x1_1 x2_1 x3_1 x10 x11 w):=⟨_,rfl⟩
 have H:zDP x0 x4 Ret x1_1 x2_1 x3_1 x10 x11 w Kl1:=by rw [hK_l1];exact hb x1_1 x2_1 x3_1 x10 x11 w hI
 clear hb h0 hI
 unfold zDP at H
 refine zAN (zAF (zAA (g.mv rfl fun _ g=>(g.mv rfl fun _ g=>(g.pur (zAv g rfl rfl) fun _ g=>(g.as_ rfl fun _ g=>(zAG (tn (zAF (zAF (zAA (g.mv rfl fun _ g=>(g.pur (zJn g rfl rfl) fun _ g=>(zAG (tn (zAR g rfl (fun hc=>?_) (fun hc=>?_)))))))))))))))))
 ·replace H:=H.1 hc
  refine zAF (zAA (g.mv rfl fun _ g=>(g.mv rfl fun _ g=>(g.mv rfl fun _ g=>(g.mv rfl fun _ g=>(g.call (zAQ g ent90 rfl rfl) H fun e w H=>?_))))))
  obtain ⟨rfl,H⟩:=H
  exact ⟨_,rfl,fun _ g=>(zAG (tn (zAf (tr (br (tr (br (zKH g rfl ⟨rfl,H⟩))))))))⟩
 ·replace H:=H.2 hc
  refine zAP (tn (zAF (zAF (zAA (g.mv rfl fun _ g=>(g.pur (zGX g rfl rfl) fun _ g=>(zAG (tn (zAR g rfl (fun hc=>?_) (fun hc=>?_))))))))))
  ·replace H:=H.1 hc
   refine zAF (zAA (g.mv rfl fun _ g=>(g.mv rfl fun _ g=>(g.mv rfl fun _ g=>(g.mv rfl fun _ g=>(g.call (zAQ g ent91 rfl rfl) H fun e w H=>?_))))))
   obtain ⟨rfl,H⟩:=H
   exact ⟨_,rfl,fun _ g=>(zAG (tn (zAf (tr (br (tr (br (zKH g rfl ⟨rfl,H⟩))))))))⟩
  ·replace H:=H.2 hc
   refine zAP (tn (zBG (ds:=[]) (N:=148) (σ:=Int) (fun s=>[(3,(.int .i64 s)),(0,(Sl.v x0)),(1,(.int .i64 x1_1)),(2,(.int .i64 x2_1)),(4,x4),(10,(.bool x10)),(11,(.bool x11)),(12,(.int .i64 (IntKind.wrap .i64 (x2_1 - x1_1))))]) (fun s w=>zCW x0 x4 Ret x1_1 x2_1 x10 x11 Kl1 s w) ?_ (fun hj2=>?_)))
   ·intro x3_2 w a H g
    try dsimp only at H g
    unfold zCW at H
    refine zAF (zAA (g.mv rfl fun _ g=>(g.mv rfl fun _ g=>(g.mv rfl fun _ g=>(g.mv rfl fun _ g=>(g.call (zAQ g ent93 rfl rfl) H fun e w H=>?_))))))
    obtain ⟨r,r_1,rfl,H⟩:=H
    refine ⟨_,rfl,fun _ g=>(g.mv rfl fun _ g=>(g.pur (zAO g rfl rfl) fun _ g=>(g.pur (zAO g rfl rfl) fun _ g=>(g.as_ rfl fun _ g=>(g.as_ rfl fun _ g=>(zAG (tn (zBG (ds:=[]) (N:=148) (σ:=Int × Int) (fun s=>[(13,(.int .i64 s.1)),(14,(.int .i64 s.2)),(0,(Sl.v x0)),(1,(.int .i64 x1_1)),(2,(.int .i64 x2_1)),(3,(.int .i64 x3_2)),(4,x4),(10,(.bool x10)),(11,(.bool x11)),(12,(.int .i64 (IntKind.wrap .i64 (x2_1 - x1_1))))]) (fun s w=>zCX x0 x4 Ret x1_1 x2_1 x10 x11 Kl1 x3_2 s.1 s.2 w) ?_ (fun hj3=>?_)))))))))⟩
    ·rintro ⟨x13,x14⟩ w a H g
     try dsimp only at H g
     unfold zCX at H
     refine zBG (ds:=[]) (N:=148) (σ:=Unit) (fun s=>[(0,(Sl.v x0)),(1,(.int .i64 x1_1)),(2,(.int .i64 x2_1)),(3,(.int .i64 x3_2)),(4,x4),(10,(.bool x10)),(11,(.bool x11)),(12,(.int .i64 (IntKind.wrap .i64 (x2_1 - x1_1)))),(13,(.int .i64 x13))]) (fun s w=>zCV x0 x4 x1_1 x2_1 x10 x11 Kl1 x3_2 x13 w) ?_ (fun hj4=>?_)
     ·rintro ⟨⟩ w a H g
      try dsimp only at H g
      unfold zCV at H
      refine zAF (zAF (zEB (by kernel_rfl) (by kernel_rfl) (g.qm rfl fun _ g=>(g.qpur (zIG g rfl rfl) fun _ g=>(g.qm rfl fun _ g=>(WQ.join (ds:=[]) (N:=148) (σ:=Bool) (fun s=>[(97,(.bool s)),(0,(Sl.v x0)),(1,(.int .i64 x1_1)),(2,(.int .i64 x2_1)),(3,(.int .i64 x3_2)),(4,x4),(10,(.bool x10)),(11,(.bool x11)),(12,(.int .i64 (IntKind.wrap .i64 (x2_1 - x1_1)))),(13,(.int .i64 x13))]) (fun s=>zDZ x0 x4 x1_1 x2_1 x10 x11 Kl1 x3_2 x13 s w) 14 ?_ (fun hr5=>?_)))))))
      ·intro x97 a H g
       try dsimp only at H g
       unfold zDZ at H
       refine zED (fun w hB=>?_)
       replace H:=H w hB
       refine (tn (zAV g rfl (fun hc=>?_) (fun hc=>?_)))
       ·replace H:=H.1 hc
        refine zAF (zAA (g.mv rfl fun _ g=>(g.mv rfl fun _ g=>(g.mv rfl fun _ g=>(g.mv rfl fun _ g=>(g.mv rfl fun _ g=>(g.call (zAQ g ent96 rfl rfl) H fun e w H=>?_)))))))
        obtain ⟨r_2,rfl,H⟩:=H
        refine ⟨_,rfl,fun _ g=>(g.as_ rfl fun _ g=>(zAG (tn (zAF (zAA (g.mv rfl fun _ g=>(g.as_ rfl fun _ g=>(zAG (tn ?_)))))))))⟩
        rw [hK_l1] at H
        exact zBJ (te (be (tn ⟨(r_2,x2_1,x3_2,x10,x11),g.weak ⟨rfl,rfl,rfl,rfl,rfl,rfl,rfl,trivial⟩,H⟩)))
       ·replace H:=H.2 hc
        refine zAP (tn (zAF (zAA (g.mv rfl fun _ g=>(g.mv rfl fun _ g=>(g.mv rfl fun _ g=>(g.mv rfl fun _ g=>(g.mv rfl fun _ g=>(g.call (zAQ g ent97 rfl rfl) H fun e w H=>?_)))))))))
        obtain ⟨r_3,r_4,rfl,H⟩:=H
        refine ⟨_,rfl,fun _ g=>(g.mv rfl fun _ g=>(g.pur (zAO g rfl rfl) fun _ g=>(g.pur (zAO g rfl rfl) fun _ g=>(g.as_ rfl fun _ g=>(g.as_ rfl fun _ g=>(zAG (tn (zAF (zAA (g.mv rfl fun _ g=>(g.as_ rfl fun _ g=>(zAG (tn (zAF (zAA (g.mv rfl fun _ g=>(g.mv rfl fun _ g=>(g.pur (zAv g rfl rfl) fun _ g=>(g.mv rfl fun _ g=>(g.mv rfl fun _ g=>(g.pur (zAv g rfl rfl) fun _ g=>(g.as_ rfl fun _ g=>(g.as_ rfl fun _ g=>(zAG (tn (zAF (zAA (g.mv rfl fun _ g=>(g.op (zFD g rfl rfl) H fun x122 w a H g=>(g.as_ rfl fun _ g=>(zAG (tn (zAF (zAA (g.mv rfl fun _ g=>(g.mv rfl fun _ g=>(g.pur (zDp g rfl rfl) fun _ g=>(zAG (tn (zAR g rfl (fun hc=>?_) (fun hc=>?_)))))))))))))))))))))))))))))))))))))))))⟩
        ·replace H:=H.1 hc
         refine zAF (zAA (g.mv rfl fun _ g=>(g.mv rfl fun _ g=>(g.pur (zF7 g rfl rfl) fun _ g=>(g.as_ rfl fun _ g=>(zAG (tn (zAF (zAA (g.mv rfl fun _ g=>(g.mv rfl fun _ g=>(g.mv rfl fun _ g=>(g.mv rfl fun _ g=>(g.mv rfl fun _ g=>(g.call (zAQ g ent72 rfl rfl) H fun e w H=>?_)))))))))))))))
         obtain ⟨rfl,H⟩:=H
         refine ⟨_,rfl,fun _ g=>(zAG (tn (zAA (g.mv rfl fun _ g=>(g.pur (zAn g rfl rfl) fun _ g=>(g.as_ rfl fun _ g=>?_))))))⟩
         rw [hK_l1] at H
         exact zAG (bn (tn ⟨((IntKind.wrap .i64 (r_3+1)),x2_1,x3_2,(decide (x122≤(IntKind.wrap .i64 (r_3 - x1_1)))),r_4),g.weak ⟨rfl,rfl,rfl,rfl,rfl,rfl,rfl,trivial⟩,H⟩))
        ·replace H:=H.2 hc
         refine zAF (zAA (g.mv rfl fun _ g=>(g.mv rfl fun _ g=>(g.pur (zF7 g rfl rfl) fun _ g=>(g.as_ rfl fun _ g=>(zAG (tn (zAF (zAA (g.mv rfl fun _ g=>(g.mv rfl fun _ g=>(g.pur (zAn g rfl rfl) fun _ g=>(g.mv rfl fun _ g=>(g.mv rfl fun _ g=>(g.mv rfl fun _ g=>(g.call (zAQ g ent72 rfl rfl) H fun e w H=>?_))))))))))))))))
         obtain ⟨rfl,H⟩:=H
         refine ⟨_,rfl,fun _ g=>(zAG (tn (zAA (g.mv rfl fun _ g=>(g.as_ rfl fun _ g=>?_)))))⟩
         rw [hK_l1] at H
         exact zAG (bn (tn ⟨(x1_1,r_3,x3_2,(decide (x122≤(IntKind.wrap .i64 (x2_1 - r_3)))),r_4),g.weak ⟨rfl,rfl,rfl,rfl,rfl,rfl,rfl,trivial⟩,H⟩))
      ·rcases Classical.em ((0<x1_1)) with hbr5|hbr5
       ·replace H:=H.1 hbr5
        replace g:=g.bool (b:=true) (t:=83) rfl (decide_eq_true hbr5)
        refine g.qon (by rfl) (by rfl) (g.qm rfl fun _ g=>(g.qon (by rfl) (by rfl) (g.qm rfl fun _ g=>(g.qon (by rfl) (by rfl) (g.qm rfl fun _ g=>(g.qon (by rfl) (by rfl) (g.qpur (zAv g rfl rfl) fun _ g=>(g.qon (by rfl) (by rfl) (g.qop (zAC g rfl rfl) H fun x88 a H g=>(g.qon (by rfl) (by rfl) (g.qop (zAI g rfl) H fun x89 a H g=>(g.qon (by rfl) (by rfl) (g.qm rfl fun _ g=>(g.qon (by rfl) (by rfl) (g.qm rfl fun _ g=>(g.qon (by rfl) (by rfl) (g.qop (zAC g rfl rfl) H fun x92 a H g=>(g.qon (by rfl) (by rfl) (g.qop (zAI g rfl) H fun x93 a H g=>(g.qon (by rfl) (by rfl) ?_))))))))))))))))))))
        obtain ⟨r_5,hc,H⟩:=H
        exact g.qcallV rfl rfl hc fun _ g=>g.qon (by rfl) (by rfl) (g.qpur (zDp g rfl rfl) fun _ g=>(g.qon (by rfl) (by rfl) (g.qpur (zGp g rfl) fun _ g=>(g.qpur (zAj g rfl rfl) fun _ g=>(hr5 (!(decide (r_5<0))) _ H (g.weak ⟨rfl,rfl,rfl,rfl,rfl,rfl,rfl,rfl,rfl,rfl,trivial⟩))))))
       ·replace H:=H.2 hbr5
        replace g:=g.bool (b:=false) (t:=83) rfl (decide_eq_false hbr5)
        exact g.qoff (by rfl) (by rfl) (by decide) (fun _ g=>(g.qoff (by rfl) (by rfl) (by decide) (fun _ g=>(g.qoff (by rfl) (by rfl) (by decide) (fun _ g=>(g.qoff (by rfl) (by rfl) (by decide) (fun _ g=>(g.qoff (by rfl) (by rfl) (by decide) (fun _ g=>(g.qoff (by rfl) (by rfl) (by decide) (fun _ g=>(g.qoff (by rfl) (by rfl) (by decide) (fun _ g=>(g.qoff (by rfl) (by rfl) (by decide) (fun _ g=>(g.qoff (by rfl) (by rfl) (by decide) (fun _ g=>(g.qoff (by rfl) (by rfl) (by decide) (fun _ g=>(g.qoff (by rfl) (by rfl) (by decide) (fun _ g=>(g.qoff (by rfl) (by rfl) (by decide) (fun _ g=>(g.qoff (by rfl) (by rfl) (by decide) (fun _ g=>(g.qpur (zAi g rfl rfl) fun _ g=>(hr5 false _ H (g.weak ⟨rfl,rfl,rfl,rfl,rfl,rfl,rfl,rfl,rfl,rfl,trivial⟩))))))))))))))))))))))))))))
     ·refine zAF (zAA (g.mv rfl fun _ g=>(g.mv rfl fun _ g=>(WL.join (ds:=[]) (N:=148) (σ:=Bool) (fun s=>[(71,(.bool s)),(0,(Sl.v x0)),(1,(.int .i64 x1_1)),(2,(.int .i64 x2_1)),(3,(.int .i64 x3_2)),(4,x4),(10,(.bool x10)),(11,(.bool x11)),(12,(.int .i64 (IntKind.wrap .i64 (x2_1 - x1_1)))),(13,(.int .i64 x13)),(14,(.int .i64 x14))]) (fun s w=>zDa x0 x4 Ret x1_1 x2_1 x10 x11 Kl1 x3_2 x13 x14 s w) 2 ?_ (fun hr6=>?_)))))
      ·intro x71 w a H g
       try dsimp only at H g
       unfold zDa at H
       refine g.mv rfl fun _ g=>WL.join (ds:=[]) (N:=148) (σ:=Bool) (fun s=>[(75,(.bool s)),(0,(Sl.v x0)),(1,(.int .i64 x1_1)),(2,(.int .i64 x2_1)),(3,(.int .i64 x3_2)),(4,x4),(10,(.bool x10)),(11,(.bool x11)),(12,(.int .i64 (IntKind.wrap .i64 (x2_1 - x1_1)))),(13,(.int .i64 x13))]) (fun s w=>zCU x0 x4 Ret x1_1 x2_1 x10 x11 Kl1 x3_2 x13 s w) 3 ?_ (fun hr7=>?_)
       ·intro x75 w a H g
        try dsimp only at H g
        unfold zCU at H
        refine zAG (tn (zAV g rfl (fun hc=>?_) (fun hc=>?_)))
        ·replace H:=H.1 hc
         refine zAF (zAA (g.mv rfl fun _ g=>(g.mv rfl fun _ g=>(g.mv rfl fun _ g=>(g.mv rfl fun _ g=>(g.call (zAQ g ent95 rfl rfl) H fun e w H=>?_))))))
         obtain ⟨r_6,rfl,H⟩:=H
         refine ⟨_,rfl,fun _ g=>(zAG (tn (zAV g rfl (fun hc=>?_) (fun hc=>?_))))⟩
         ·replace H:=H.1 hc
          exact zAf (tr (br (tr (br (zKH g rfl ⟨rfl,H⟩)))))
         ·replace H:=H.2 hc
          exact zAP (tn (hj4 () _ _ H (g.weak ⟨rfl,rfl,rfl,rfl,rfl,rfl,rfl,rfl,rfl,trivial⟩)))
        ·replace H:=H.2 hc
         exact zAP (tn (hj4 () _ _ H (g.weak ⟨rfl,rfl,rfl,rfl,rfl,rfl,rfl,rfl,rfl,trivial⟩)))
       ·rcases Bool.eq_false_or_eq_true (x71) with hbr7|hbr7
        ·replace H:=H.1 hbr7
         replace g:=g.bool (b:=true) (t:=72) rfl (hbr7)
         exact g.on (by rfl) (by rfl) (g.mv rfl fun _ g=>(g.on (by rfl) (by rfl) (g.pur (zGX g rfl rfl) fun _ g=>(g.pur (zAj g rfl rfl) fun _ g=>(hr7 (decide (x14=1)) _ _ H (g.weak ⟨rfl,rfl,rfl,rfl,rfl,rfl,rfl,rfl,rfl,rfl,trivial⟩))))))
        ·replace H:=H.2 hbr7
         replace g:=g.bool (b:=false) (t:=72) rfl (hbr7)
         exact g.off (by rfl) (by rfl) (by decide) (fun _ g=>(g.off (by rfl) (by rfl) (by decide) (fun _ g=>(g.pur (zAi g rfl rfl) fun _ g=>(hr7 false _ _ H (g.weak ⟨rfl,rfl,rfl,rfl,rfl,rfl,rfl,rfl,rfl,rfl,trivial⟩))))))
      ·rcases Bool.eq_false_or_eq_true (x10) with hbr6|hbr6
       ·replace H:=H.1 hbr6
        replace g:=g.bool (b:=true) (t:=69) rfl (hbr6)
        exact g.on (by rfl) (by rfl) (g.mv rfl fun _ g=>(g.pur (zAj g rfl rfl) fun _ g=>(hr6 x11 _ _ H (g.weak ⟨rfl,rfl,rfl,rfl,rfl,rfl,rfl,rfl,rfl,rfl,rfl,trivial⟩))))
       ·replace H:=H.2 hbr6
        replace g:=g.bool (b:=false) (t:=69) rfl (hbr6)
        exact g.off (by rfl) (by rfl) (by decide) (fun _ g=>(g.pur (zAi g rfl rfl) fun _ g=>(hr6 false _ _ H (g.weak ⟨rfl,rfl,rfl,rfl,rfl,rfl,rfl,rfl,rfl,rfl,rfl,trivial⟩))))
    ·refine zAF (zAA (g.mv rfl fun _ g=>(g.pur (zGX g rfl rfl) fun _ g=>(zAG (tn (zAR g rfl (fun hc=>?_) (fun hc=>?_)))))))
     ·replace H:=H.1 hc
      refine zAF (zAA (g.mv rfl fun _ g=>(g.mv rfl fun _ g=>(g.mv rfl fun _ g=>(g.mv rfl fun _ g=>(g.call (zAQ g ent94 rfl rfl) H fun e w H=>?_))))))
      obtain ⟨rfl,H⟩:=H
      exact ⟨_,rfl,fun _ g=>(zAG (tn (zAF (zAA (g.mv rfl fun _ g=>(g.pur (zAv g rfl rfl) fun _ g=>(g.mv rfl fun _ g=>(g.mv rfl fun _ g=>(g.pur (zAv g rfl rfl) fun _ g=>(g.pur (zAv g rfl rfl) fun _ g=>(g.as_ rfl fun _ g=>(zAG (tn (zAA (g.as_ rfl fun _ g=>(zAG (tn (hj3 ((IntKind.wrap .i64 ((IntKind.wrap .i64 (x2_1 - 1)) - (IntKind.wrap .i64 (r - x1_1)))),1) _ _ H (g.weak ⟨rfl,rfl,rfl,rfl,rfl,rfl,rfl,rfl,rfl,rfl,trivial⟩)))))))))))))))))))⟩
     ·replace H:=H.2 hc
      exact zAP (tn (hj3 (r,r_1) _ _ H (g.weak ⟨rfl,rfl,rfl,rfl,rfl,rfl,rfl,rfl,rfl,rfl,trivial⟩)))
   ·refine zAF (zAA (g.mv rfl fun _ g=>(g.pur (zGp g rfl) fun _ g=>(zAG (tn (zAV g rfl (fun hc=>?_) (fun hc=>?_)))))))
    ·replace H:=H.1 hc
     refine zAF (zAA (g.mv rfl fun _ g=>(g.mv rfl fun _ g=>(g.mv rfl fun _ g=>(g.mv rfl fun _ g=>(g.call (zAQ g ent92 rfl rfl) H fun e w H=>?_))))))
     obtain ⟨rfl,H⟩:=H
     exact ⟨_,rfl,fun _ g=>(zAG (tn (zAA (g.mv rfl fun _ g=>(g.pur (zAv g rfl rfl) fun _ g=>(g.as_ rfl fun _ g=>(zAG (tn (hj2 (IntKind.wrap .i64 (x3_1 - 1)) _ _ H (g.weak ⟨rfl,rfl,rfl,rfl,rfl,rfl,rfl,rfl,trivial⟩))))))))))⟩
    ·replace H:=H.2 hc
     exact zAP (tn (hj2 x3_1 _ _ H (g.weak ⟨rfl,rfl,rfl,rfl,rfl,rfl,rfl,rfl,trivial⟩)))
def zCN (x11:Int) (Kl1:Int→World→Prop) (w:World):Prop:=
 Kl1 (IntKind.wrap .i64 (x11+1)) w
def zBI (x0:Sl) (x1:Int) (x11:Int) (Kl1:Int→World→Prop) (x12:Int) (w:World):Prop:=
 nextB w (fun w=>opP Tryz.prog Value.pointer (Instr.indexAt 22 (Sl.v x0) (.int .i64 (IntKind.wrap .i64 (x1+x12)))) (fun x59=>opP Tryz.prog Value.pointer (Instr.indexAt 22 (Sl.v x0) (.int .i64 x11)) (fun x63=>(opE Tryz.prog zAE.v (Instr.loadAt 66 (.pointer x59)) w (fun x60 w=>opE Tryz.prog zAE.v (Instr.loadAt 66 (.pointer x63)) w (fun x64 w=>opP Tryz.prog Value.pointer (Instr.indexAt 22 (Sl.v x0) (.int .i64 x11)) (fun x65=>opU Tryz.prog (Instr.storeAt 66 (.pointer x65) (zAE.v x60)) w (fun w=>opP Tryz.prog Value.pointer (Instr.indexAt 22 (Sl.v x0) (.int .i64 (IntKind.wrap .i64 (x1+x12)))) (fun x66=>opU Tryz.prog (Instr.storeAt 66 (.pointer x66) (zAE.v x64)) w (fun w=>zCN x11 Kl1 w)))))))∧(opE Tryz.prog zAE.v (Instr.loadAt 66 (.pointer x63)) w (fun x64_1 w=>opE Tryz.prog zAE.v (Instr.loadAt 66 (.pointer x59)) w (fun x60_1 w=>opP Tryz.prog Value.pointer (Instr.indexAt 22 (Sl.v x0) (.int .i64 x11)) (fun x65_1=>opU Tryz.prog (Instr.storeAt 66 (.pointer x65_1) (zAE.v x60_1)) w (fun w=>opP Tryz.prog Value.pointer (Instr.indexAt 22 (Sl.v x0) (.int .i64 (IntKind.wrap .i64 (x1+x12)))) (fun x66_1=>opU Tryz.prog (Instr.storeAt 66 (.pointer x66_1) (zAE.v x64_1)) w (fun w=>zCN x11 Kl1 w))))))))))
def zDT (x0:Sl) (x1:Int) (x2:Int) (Ret:World→Prop) (x9:Option Addr) (r:Int) (x11:Int) (w:World) (Kl1:Int→World→Prop):Prop:=
 opE Tryz.prog (Value.int .i64) (binOp .quo 3 (.int .i64 (IntKind.wrap .i64 (x2 - x1))) (.int .i64 4)) w (fun x31 w=>((x11≤(IntKind.wrap .i64 ((IntKind.wrap .i64 (x1+(IntKind.wrap .i64 (x31*2))))+1)))→(Cl Tryz.prog 116 [(.pointer x9)].toArray w (fun e w=>∃ (r_1:Int),e=.returned (.int .u64 r_1)∧(opE Tryz.prog (Value.int .u64) (binOp .and 143 (.int .u64 r_1) (.int .u64 (IntKind.wrap .u64 (r - 1)))) w (fun x41 w=>opE Tryz.prog (Value.int .i64) (Go.convert 143 3 (.int .u64 x41)) w (fun x42 w=>(((IntKind.wrap .i64 (x2 - x1))≤x42)→(zBI x0 x1 x11 Kl1 (IntKind.wrap .i64 (x42 - (IntKind.wrap .i64 (x2 - x1)))) w))∧(¬ ((IntKind.wrap .i64 (x2 - x1))≤x42)→(zBI x0 x1 x11 Kl1 x42 w))))))))∧(¬ (x11≤(IntKind.wrap .i64 ((IntKind.wrap .i64 (x1+(IntKind.wrap .i64 (x31*2))))+1)))→(Ret w)))
def zEh (x0:Sl) (x1:Int) (x2:Int) (x3:Value) (w:World) (Ret:World→Prop):Prop:=
 ((8≤(IntKind.wrap .i64 (x2 - x1)))→(opE Tryz.prog (Value.int .u64) (Go.convert 3 182 (.int .i64 (IntKind.wrap .i64 (x2 - x1)))) w (fun x19 w=>opE Tryz.prog Value.pointer (Instr.alloc 182 true (.tuple #[])) w (fun x9 w=>opU Tryz.prog (Instr.storeAt 182 (.pointer x9) (.int .u64 x19)) w (fun w=>Cl Tryz.prog 115 [(.int .i64 (IntKind.wrap .i64 (x2 - x1)))].toArray w (fun e w=>∃ (r:Int),e=.returned (.int .u64 r)∧(opE Tryz.prog (Value.int .i64) (binOp .quo 3 (.int .i64 (IntKind.wrap .i64 (x2 - x1))) (.int .i64 4)) w (fun x24 w=>∃ (I:Int→World→Prop) (μ:Int→World→Nat),I (IntKind.wrap .i64 ((IntKind.wrap .i64 (x1+(IntKind.wrap .i64 (x24*2)))) - 1)) w∧∀ (x11:Int) w,I x11 w→zDT x0 x1 x2 Ret x9 r x11 w (fun x11' w'=>I x11' w'∧μ x11' w'<μ x11 w)))))))))∧(¬ (8≤(IntKind.wrap .i64 (x2 - x1)))→(Ret w))
set_option maxRecDepth 100000 in
theorem zH8 (x0:Sl) (x1:Int) (x2:Int) (x3:Value) (w:World) (Ret:World→Prop) (H:zEh x0 x1 x2 x3 w Ret):Cl Tryz.prog 92 [(Sl.v x0),(.int .i64 x1),(.int .i64 x2),x3].toArray w (fun e w'=>e=.returned (.tuple [].toArray)∧Ret w'):=by
 unfold zEh at H
 refine zAY 67 (zipE 0 [(Sl.v x0),(.int .i64 x1),(.int .i64 x2),x3]) Tryz.func92 rfl rfl (by rfl) rfl ?_
 intro a g
 replace g:Sat [] 67 [(0,(Sl.v x0)),(1,(.int .i64 x1)),(2,(.int .i64 x2)),(3,x3)] a:=g
 refine zAF (zAA (g.mv rfl fun _ g=>(g.mv rfl fun _ g=>(g.pur (zAv g rfl rfl) fun _ g=>(g.as_ rfl fun _ g=>(zAG (tn (zAF (zAA (g.mv rfl fun _ g=>(g.pur (zF7 g rfl rfl) fun _ g=>(zAG (tn (zAR g rfl (fun hc=>?_) (fun hc=>?_)))))))))))))))
 ·replace H:=H.1 hc
  refine zAF (zAA (g.mv rfl fun _ g=>(g.op (zGY g rfl) H fun x19 w a H g=>(g.op (zEH) H fun x9 w a H g=>(g.opu (zAM g rfl rfl) H fun w a H g=>(zAG (tn (zAF (zAA (g.mv rfl fun _ g=>(g.call (zAQ g zRh rfl rfl) H fun e w H=>?_)))))))))))
  obtain ⟨r,rfl,H⟩:=H
  refine ⟨_,rfl,fun _ g=>(g.as_ rfl fun _ g=>(zAG (tn (zAF (zAA (g.mv rfl fun _ g=>(g.mv rfl fun _ g=>(g.op (zFD g rfl rfl) H fun x24 w a H g=>(g.pur (zLJ g rfl rfl) fun _ g=>(g.pur (zAn g rfl rfl) fun _ g=>(g.pur (zAv g rfl rfl) fun _ g=>(g.as_ rfl fun _ g=>(zAG (tn (zAN ?_)))))))))))))))⟩
  obtain ⟨I_l1,μ_l1,h0,hb⟩:=H
  refine zBl (ds:=[]) (N:=67) (σ:=Int) (fun s=>[(11,(.int .i64 s)),(0,(Sl.v x0)),(1,(.int .i64 x1)),(8,(.int .i64 (IntKind.wrap .i64 (x2 - x1)))),(9,(.pointer x9)),(10,(.int .u64 r))]) (fun s w=>I_l1 s w) (fun s w=>μ_l1 s w) (IntKind.wrap .i64 ((IntKind.wrap .i64 (x1+(IntKind.wrap .i64 (x24*2)))) - 1)) h0 (g.weak ⟨rfl,rfl,rfl,rfl,rfl,rfl,trivial⟩) ?_
  intro x11 w a hI g
  try dsimp only at hI g
  obtain ⟨Kl1,hK_l1⟩:∃ K:Int→World→Prop,K=(fun x11' w'=>I_l1 x11' w'∧μ_l1 x11' w'<μ_l1 x11 w):=⟨_,rfl⟩
  have H:zDT x0 x1 x2 Ret x9 r x11 w Kl1:=by rw [hK_l1];exact hb x11 w hI
  clear hb h0 hI
  unfold zDT at H
  refine zAF (zAF (zAA (g.mv rfl fun _ g=>(g.mv rfl fun _ g=>(g.mv rfl fun _ g=>(g.op (zFD g rfl rfl) H fun x31 w a H g=>(g.pur (zLJ g rfl rfl) fun _ g=>(g.pur (zAn g rfl rfl) fun _ g=>(g.pur (zAn g rfl rfl) fun _ g=>(g.pur (zJn g rfl rfl) fun _ g=>(zAG (tn (zAR g rfl (fun hc=>?_) (fun hc=>?_))))))))))))))
  ·replace H:=H.1 hc
   refine zAP (tn (zBG (ds:=[]) (N:=67) (σ:=Unit) (fun s=>[(0,(Sl.v x0)),(1,(.int .i64 x1)),(8,(.int .i64 (IntKind.wrap .i64 (x2 - x1)))),(9,(.pointer x9)),(10,(.int .u64 r)),(11,(.int .i64 x11))]) (fun s w=>zCN x11 Kl1 w) ?_ (fun hj2=>?_)))
   ·rintro ⟨⟩ w a H g
    try dsimp only at H g
    unfold zCN at H
    refine zAA (g.mv rfl fun _ g=>(g.pur (zAn g rfl rfl) fun _ g=>(g.as_ rfl fun _ g=>?_)))
    rw [hK_l1] at H
    exact zAG (tn ⟨(IntKind.wrap .i64 (x11+1)),g.weak ⟨rfl,rfl,rfl,rfl,rfl,rfl,trivial⟩,H⟩)
   ·refine zAN (zAF (zAA (g.call (zAQ g zRE rfl rfl) H fun e w H=>?_)))
    obtain ⟨r_1,rfl,H⟩:=H
    refine ⟨_,rfl,fun _ g=>(g.mv rfl fun _ g=>(g.pur (zAv g rfl rfl) fun _ g=>(g.op (zFD g rfl rfl) H fun x41 w a H g=>(g.op (zGY g rfl) H fun x42 w a H g=>(g.as_ rfl fun _ g=>(zAG (tn (zBG (ds:=[]) (N:=67) (σ:=Int) (fun s=>[(12,(.int .i64 s)),(0,(Sl.v x0)),(1,(.int .i64 x1)),(8,(.int .i64 (IntKind.wrap .i64 (x2 - x1)))),(9,(.pointer x9)),(10,(.int .u64 r)),(11,(.int .i64 x11))]) (fun s w=>zBI x0 x1 x11 Kl1 s w) ?_ (fun hj3=>?_)))))))))⟩
    ·intro x12 w a H g
     try dsimp only at H g
     unfold zBI at H
     refine zKK 20 fun w hB=>?_
     replace H:=H w hB
     refine g.ap 0 rfl (zAL g rfl) fun _ g=>g.ap 1 rfl (zAL g rfl) fun _ g=>g.ap 2 rfl (zAL g rfl) fun _ g=>g.ap 3 rfl (zAL g rfl) fun _ g=>g.ap 4 rfl (zAL g rfl) fun _ g=>g.ap 5 rfl (zAn g rfl rfl) fun _ g=>g.ap 6 rfl (zAL g rfl) fun _ g=>g.ap 7 rfl (zAL g rfl) fun _ g=>g.ap 8 rfl (zAL g rfl) fun _ g=>g.ap 9 rfl (zAn g rfl rfl) fun _ g=>g.ao 10 rfl (zAC g rfl rfl) H fun x59 a H g=>g.ap 12 rfl (zAL g rfl) fun _ g=>g.ap 13 rfl (zAL g rfl) fun _ g=>g.ao 14 rfl (zAC g rfl rfl) H fun x63 a H g=>WA.tw 11 15 rfl rfl ?_ ?_
     ·replace H:=H.1
      intro K hK
      exact g.wop (zAI g rfl) H fun x60 w a H g=>hK _ _ (g.o1 15 rfl (zAI g rfl) H fun x64 w a H g=>(g.ao 16 rfl (zAC g rfl rfl) H fun x65 a H g=>(g.o1u 17 rfl (zAM g rfl rfl) H fun w a H g=>(g.ao 18 rfl (zAC g rfl rfl) H fun x66 a H g=>(g.o1u 19 rfl (zAM g rfl rfl) H fun w a H g=>(WA.ni ((bn (tn (hj2 () _ _ H (g.weak ⟨rfl,rfl,rfl,rfl,rfl,rfl,trivial⟩)))))))))))
     ·replace H:=H.2
      intro K hK
      exact g.wop (zAI g rfl) H fun x64_1 w a H g=>hK _ _ (g.o1 11 rfl (zAI g rfl) H fun x60_1 w a H g=>(g.ao 16 rfl (zAC g rfl rfl) H fun x65_1 a H g=>(g.o1u 17 rfl (zAM g rfl rfl) H fun w a H g=>(g.ao 18 rfl (zAC g rfl rfl) H fun x66_1 a H g=>(g.o1u 19 rfl (zAM g rfl rfl) H fun w a H g=>(WA.ni ((bn (tn (hj2 () _ _ H (g.weak ⟨rfl,rfl,rfl,rfl,rfl,rfl,trivial⟩)))))))))))
    ·refine zAF (zAA (g.mv rfl fun _ g=>(g.mv rfl fun _ g=>(g.pur (zF7 g rfl rfl) fun _ g=>(zAG (tn (zAR g rfl (fun hc=>?_) (fun hc=>?_))))))))
     ·replace H:=H.1 hc
      exact zAA (g.mv rfl fun _ g=>(g.mv rfl fun _ g=>(g.pur (zAv g rfl rfl) fun _ g=>(g.as_ rfl fun _ g=>(zAG (tn (hj3 (IntKind.wrap .i64 (x42 - (IntKind.wrap .i64 (x2 - x1)))) _ _ H (g.weak ⟨rfl,rfl,rfl,rfl,rfl,rfl,rfl,trivial⟩))))))))
     ·replace H:=H.2 hc
      exact zAP (tn (hj3 x42 _ _ H (g.weak ⟨rfl,rfl,rfl,rfl,rfl,rfl,rfl,trivial⟩)))
  ·replace H:=H.2 hc
   exact zBJ (te (te (be (zG1 g rfl ⟨rfl,H⟩))))
 ·replace H:=H.2 hc
  exact zAP (zG1 g rfl ⟨rfl,H⟩)
end Go.Proofs.YtealcoghiaeiiaaGreat.VG
