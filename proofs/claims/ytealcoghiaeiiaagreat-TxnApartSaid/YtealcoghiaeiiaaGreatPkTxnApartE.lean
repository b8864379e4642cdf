/- Texts by which the law's calls are walked (part 5): rules, printed conditions, contracts; no condition. -/
import Derived.TacticsIn
import Derived.TacticsInMore
import Derived.Deep.LoopGhost
import Derived.Sort.QuietThIn
import Derived.RangeFuncCalls
import Derived.RangeFuncNested
import Derived.RangeFuncLeaves
import Derived.WalkKit
import Derived.StillTail
import Derived.Test.YtealcoghiaeiiaaGreatProg
import Derived.KernelRfl
import Derived.Deep.WholeRow
import Derived.Laws.StructEq
import Derived.MapFrom
import Derived.Laws.CopyRow
import Derived.Test.YtealcoghiaeiiaaGreatPkTxnApartD
set_option linter.unusedVariables false
set_option linter.unusedSimpArgs false
namespace Go.Proofs.YtealcoghiaeiiaaGreat.VG
open Go.VB Go.Proofs
def zEN (x0:Sl) (x1:Value) (w:World) (Ret:World→Prop):Prop:=
 opE Tryz.prog (Value.int .u64) (Go.convert 3 143 (.int .i64 (x0.len:Int))) w (fun x10 w=>Cl Tryz.prog 73 [(.int .u64 x10)].toArray w (fun e w=>∃ (r:Int),e=.returned (.int .i64 r)∧(Cl Tryz.prog 85 [(Sl.v x0),(.int .i64 0),(.int .i64 (x0.len:Int)),(.int .i64 r),x1].toArray w (fun e w=>e=.returned (.tuple [].toArray)∧(Ret w)))))
set_option maxRecDepth 100000 in
theorem zHI (x0:Sl) (x1:Value) (w:World) (Ret:World→Prop) (H:zEN x0 x1 w Ret):Cl Tryz.prog 67 [(Sl.v x0),x1].toArray w (fun e w'=>e=.returned (.tuple [].toArray)∧Ret w'):=by
 unfold zEN at H
 refine zAY 14 (zipE 0 [(Sl.v x0),x1]) Tryz.func67 rfl rfl (by rfl) rfl ?_
 intro a g
 replace g:Sat [] 14 [(0,(Sl.v x0)),(1,x1)] a:=g
 refine zAF (zAA (g.mv rfl fun _ g=>(g.purR (fun w=>zGm g Tryz.underlying67 rfl) fun _ g=>(g.as_ rfl fun _ g=>(zAG (tn (zAA (g.mv rfl fun _ g=>(g.mv rfl fun _ g=>(g.mv rfl fun _ g=>(g.op (zGY g rfl) H fun x10 w a H g=>(g.call (zAQ g ent73 rfl rfl) H fun e w H=>?_))))))))))))
 obtain ⟨r,rfl,H⟩:=H
 refine ⟨_,rfl,fun _ g=>(g.mv rfl fun _ g=>(g.call (zAQ g ent85 rfl rfl) H fun e w H=>?_))⟩
 obtain ⟨rfl,H⟩:=H
 exact ⟨_,rfl,fun _ g=>(zAG (zG1 g rfl ⟨rfl,H⟩))⟩
def zCr (x0:Sl) (x4:Value) (x1_1:Int) (x2_1:Int) (x10:Bool) (x11:Bool) (Kl1:Int→Int→Int→Bool→Bool→World→Prop) (x3_2:Int) (x13:Int) (x97:Bool) (w:World):Prop:=
 nextB w (fun w=>(x97=true→(Cl Tryz.prog 111 [(Sl.v x0),(.int .i64 x1_1),(.int .i64 x2_1),(.int .i64 x13),x4].toArray w (fun e w=>∃ (r_2:Int),e=.returned (.int .i64 r_2)∧(Kl1 r_2 x2_1 x3_2 x10 x11 w))))∧(x97=false→(Cl Tryz.prog 112 [(Sl.v x0),(.int .i64 x1_1),(.int .i64 x2_1),(.int .i64 x13),x4].toArray w (fun e w=>∃ (r_3:Int) (r_4:Bool),e=.returned (.tuple [(.int .i64 r_3),(.bool r_4)].toArray)∧(opE Tryz.prog (Value.int .i64) (binOp .quo 3 (.int .i64 (IntKind.wrap .i64 (x2_1 - x1_1))) (.int .i64 8)) w (fun x122 w=>(((IntKind.wrap .i64 (r_3 - x1_1))<(IntKind.wrap .i64 (x2_1 - r_3)))→(Cl Tryz.prog 85 [(Sl.v x0),(.int .i64 x1_1),(.int .i64 r_3),(.int .i64 x3_2),x4].toArray w (fun e w=>e=.returned (.tuple [].toArray)∧(Kl1 (IntKind.wrap .i64 (r_3+1)) x2_1 x3_2 (decide (x122≤(IntKind.wrap .i64 (r_3 - x1_1)))) r_4 w))))∧(¬ ((IntKind.wrap .i64 (r_3 - x1_1))<(IntKind.wrap .i64 (x2_1 - r_3)))→(Cl Tryz.prog 85 [(Sl.v x0),(.int .i64 (IntKind.wrap .i64 (r_3+1))),(.int .i64 x2_1),(.int .i64 x3_2),x4].toArray w (fun e w=>e=.returned (.tuple [].toArray)∧(Kl1 x1_1 r_3 x3_2 (decide (x122≤(IntKind.wrap .i64 (x2_1 - r_3)))) r_4 w))))))))))
def zBh (x0:Sl) (x4:Value) (x1_1:Int) (x2_1:Int) (x10:Bool) (x11:Bool) (Kl1:Int→Int→Int→Bool→Bool→World→Prop) (x3_2:Int) (x13:Int) (w:World):Prop:=
 ((0<x1_1)→(opB Tryz.prog Value.pointer (Instr.indexAt 67 (Sl.v x0) (.int .i64 (IntKind.wrap .i64 (x1_1 - 1)))) w (fun x88=>opB Tryz.prog zAB.v (Instr.loadAt 72 (.pointer x88)) w (fun x89=>opB Tryz.prog Value.pointer (Instr.indexAt 67 (Sl.v x0) (.int .i64 x13)) w (fun x92=>opB Tryz.prog zAB.v (Instr.loadAt 72 (.pointer x92)) w (fun x93=>∃ (r_5:Int),CallQ Tryz.prog x4 [(zAB.v x89),(zAB.v x93)] w (.int .i64 r_5)∧(zCr x0 x4 x1_1 x2_1 x10 x11 Kl1 x3_2 x13 (!(decide (r_5<0))) w)))))))∧(¬ (0<x1_1)→(zCr x0 x4 x1_1 x2_1 x10 x11 Kl1 x3_2 x13 false w))
def zBe (x0:Sl) (x4:Value) (Ret:World→Prop) (x1_1:Int) (x2_1:Int) (x10:Bool) (x11:Bool) (Kl1:Int→Int→Int→Bool→Bool→World→Prop) (x3_2:Int) (x13:Int) (x75:Bool) (w:World):Prop:=
 (x75=true→(Cl Tryz.prog 110 [(Sl.v x0),(.int .i64 x1_1),(.int .i64 x2_1),x4].toArray w (fun e w=>∃ (r_6:Bool),e=.returned (.bool r_6)∧((r_6=true→(Ret w))∧(r_6=false→(zBh x0 x4 x1_1 x2_1 x10 x11 Kl1 x3_2 x13 w))))))∧(x75=false→(zBh x0 x4 x1_1 x2_1 x10 x11 Kl1 x3_2 x13 w))
def zCz (x0:Sl) (x4:Value) (Ret:World→Prop) (x1_1:Int) (x2_1:Int) (x10:Bool) (x11:Bool) (Kl1:Int→Int→Int→Bool→Bool→World→Prop) (x3_2:Int) (x13:Int) (x14:Int) (x71:Bool) (w:World):Prop:=
 (x71=true→(zBe x0 x4 Ret x1_1 x2_1 x10 x11 Kl1 x3_2 x13 (decide (x14=1)) w))∧(x71=false→(zBe x0 x4 Ret x1_1 x2_1 x10 x11 Kl1 x3_2 x13 false w))
def zBf (x0:Sl) (x4:Value) (Ret:World→Prop) (x1_1:Int) (x2_1:Int) (x10:Bool) (x11:Bool) (Kl1:Int→Int→Int→Bool→Bool→World→Prop) (x3_2:Int) (x13:Int) (x14:Int) (w:World):Prop:=
 (x10=true→(zCz x0 x4 Ret x1_1 x2_1 x10 x11 Kl1 x3_2 x13 x14 x11 w))∧(x10=false→(zCz x0 x4 Ret x1_1 x2_1 x10 x11 Kl1 x3_2 x13 x14 false w))
def zBd (x0:Sl) (x4:Value) (Ret:World→Prop) (x1_1:Int) (x2_1:Int) (x10:Bool) (x11:Bool) (Kl1:Int→Int→Int→Bool→Bool→World→Prop) (x3_2:Int) (w:World):Prop:=
 Cl Tryz.prog 108 [(Sl.v x0),(.int .i64 x1_1),(.int .i64 x2_1),x4].toArray w (fun e w=>∃ (r:Int) (r_1:Int),e=.returned (.tuple [(.int .i64 r),(.int .i64 r_1)].toArray)∧(((r_1=2)→(Cl Tryz.prog 109 [(Sl.v x0),(.int .i64 x1_1),(.int .i64 x2_1),x4].toArray w (fun e w=>e=.returned (.tuple [].toArray)∧(zBf x0 x4 Ret x1_1 x2_1 x10 x11 Kl1 x3_2 (IntKind.wrap .i64 ((IntKind.wrap .i64 (x2_1 - 1)) - (IntKind.wrap .i64 (r - x1_1)))) 1 w))))∧(¬ (r_1=2)→(zBf x0 x4 Ret x1_1 x2_1 x10 x11 Kl1 x3_2 r r_1 w))))
def zCh (x0:Sl) (x4:Value) (Ret:World→Prop) (x1_1:Int) (x2_1:Int) (x3_1:Int) (x10:Bool) (x11:Bool) (w:World) (Kl1:Int→Int→Int→Bool→Bool→World→Prop):Prop:=
 (((IntKind.wrap .i64 (x2_1 - x1_1))≤12)→(Cl Tryz.prog 105 [(Sl.v x0),(.int .i64 x1_1),(.int .i64 x2_1),x4].toArray w (fun e w=>e=.returned (.tuple [].toArray)∧(Ret w))))∧(¬ ((IntKind.wrap .i64 (x2_1 - x1_1))≤12)→(((x3_1=0)→(Cl Tryz.prog 106 [(Sl.v x0),(.int .i64 x1_1),(.int .i64 x2_1),x4].toArray w (fun e w=>e=.returned (.tuple [].toArray)∧(Ret w))))∧(¬ (x3_1=0)→(((!x10)=true→(Cl Tryz.prog 107 [(Sl.v x0),(.int .i64 x1_1),(.int .i64 x2_1),x4].toArray w (fun e w=>e=.returned (.tuple [].toArray)∧(zBd x0 x4 Ret x1_1 x2_1 x10 x11 Kl1 (IntKind.wrap .i64 (x3_1 - 1)) w))))∧((!x10)=false→(zBd x0 x4 Ret x1_1 x2_1 x10 x11 Kl1 x3_1 w))))))
def zEF (x0:Sl) (x1:Int) (x2:Int) (x3:Int) (x4:Value) (w:World) (Ret:World→Prop):Prop:=
 ∃ (I:Int→Int→Int→Bool→Bool→World→Prop) (μ:Int→Int→Int→Bool→Bool→World→Nat),I x1 x2 x3 true true w∧∀ (x1_1:Int) (x2_1:Int) (x3_1:Int) (x10:Bool) (x11:Bool) w,I x1_1 x2_1 x3_1 x10 x11 w→zCh x0 x4 Ret x1_1 x2_1 x3_1 x10 x11 w (fun x1_1' x2_1' x3_1' x10' x11' w'=>I x1_1' x2_1' x3_1' x10' x11' w'∧μ x1_1' x2_1' x3_1' x10' x11' w'<μ x1_1 x2_1 x3_1 x10 x11 w)
set_option maxRecDepth 100000 in
theorem zGG (x0:Sl) (x1:Int) (x2:Int) (x3:Int) (x4:Value) (w:World) (Ret:World→Prop) (H:zEF x0 x1 x2 x3 x4 w Ret):Cl Tryz.prog 85 [(Sl.v x0),(.int .i64 x1),(.int .i64 x2),(.int .i64 x3),x4].toArray w (fun e w'=>e=.returned (.tuple [].toArray)∧Ret w'):=by
 unfold zEF at H
 refine zAY 148 (zipE 0 [(Sl.v x0),(.int .i64 x1),(.int .i64 x2),(.int .i64 x3),x4]) Tryz.func85 rfl rfl (by rfl) rfl ?_
 intro a g
 replace g:Sat [] 148 [(0,(Sl.v x0)),(1,(.int .i64 x1)),(2,(.int .i64 x2)),(3,(.int .i64 x3)),(4,x4)] a:=g
 refine zAF (zAA (g.as_ rfl fun _ g=>(zAG (tn (zAF (zAA (g.as_ rfl fun _ g=>(zAG (tn (zAN ?_))))))))))
 obtain ⟨I_l1,μ_l1,h0,hb⟩:=H
 refine zBl (ds:=[]) (N:=148) (σ:=Int × Int × Int × Bool × Bool) (fun s=>[(1,(.int .i64 s.1)),(2,(.int .i64 s.2.1)),(3,(.int .i64 s.2.2.1)),(10,(.bool s.2.2.2.1)),(11,(.bool s.2.2.2.2)),(0,(Sl.v x0)),(4,x4)]) (fun s w=>I_l1 s.1 s.2.1 s.2.2.1 s.2.2.2.1 s.2.2.2.2 w) (fun s w=>μ_l1 s.1 s.2.1 s.2.2.1 s.2.2.2.1 s.2.2.2.2 w) (x1,x2,x3,true,true) h0 (g.weak ⟨rfl,rfl,rfl,rfl,rfl,rfl,rfl,trivial⟩) ?_
 rintro ⟨x1_1,x2_1,x3_1,x10,x11⟩ w a hI g
 try dsimp only at hI g
 obtain ⟨Kl1,hK_l1⟩:∃ K:Int→Int→Int→Bool→Bool→World→Prop,K=(fun x1_1' x2_1' x3_1' x10' x11' w'=>I_l1 x1_1' x2_1' x3_1' x10' x11' w'∧μ_l1 x1_1' x2_1' x3_1' x10' x11' w'<μ_l1 x1_1 x2_1 x3_1 x10 x11 w):=⟨_,rfl⟩
 have H:zCh x0 x4 Ret x1_1 x2_1 x3_1 x10 x11 w Kl1:=by rw [hK_l1];exact hb x1_1 x2_1 x3_1 x10 x11 w hI
 clear hb h0 hI
 unfold zCh at H
 refine zAN (zAF (zAA (g.mv rfl fun _ g=>(g.mv rfl fun _ g=>(g.pur (zAv g rfl rfl) fun _ g=>(g.as_ rfl fun _ g=>(zAG (tn (zAF (zAF (zAA (g.mv rfl fun _ g=>(g.pur (zJn g rfl rfl) fun _ g=>(zAG (tn (zAR g rfl (fun hc=>?_) (fun hc=>?_)))))))))))))))))
 ·replace H:=H.1 hc
  refine zAF (zAA (g.mv rfl fun _ g=>(g.mv rfl fun _ g=>(g.mv rfl fun _ g=>(g.mv rfl fun _ g=>(g.call (zAQ g zT6 rfl rfl) H fun e w H=>?_))))))
  obtain ⟨rfl,H⟩:=H
  exact ⟨_,rfl,fun _ g=>(zAG (tn (zAf (tr (br (tr (br (zKH g rfl ⟨rfl,H⟩))))))))⟩
 ·replace H:=H.2 hc
  refine zAP (tn (zAF (zAF (zAA (g.mv rfl fun _ g=>(g.pur (zGX g rfl rfl) fun _ g=>(zAG (tn (zAR g rfl (fun hc=>?_) (fun hc=>?_))))))))))
  ·replace H:=H.1 hc
   refine zAF (zAA (g.mv rfl fun _ g=>(g.mv rfl fun _ g=>(g.mv rfl fun _ g=>(g.mv rfl fun _ g=>(g.call (zAQ g zTu rfl rfl) H fun e w H=>?_))))))
   obtain ⟨rfl,H⟩:=H
   exact ⟨_,rfl,fun _ g=>(zAG (tn (zAf (tr (br (tr (br (zKH g rfl ⟨rfl,H⟩))))))))⟩
  ·replace H:=H.2 hc
   refine zAP (tn (zBG (ds:=[]) (N:=148) (σ:=Int) (fun s=>[(3,(.int .i64 s)),(0,(Sl.v x0)),(1,(.int .i64 x1_1)),(2,(.int .i64 x2_1)),(4,x4),(10,(.bool x10)),(11,(.bool x11)),(12,(.int .i64 (IntKind.wrap .i64 (x2_1 - x1_1))))]) (fun s w=>zBd x0 x4 Ret x1_1 x2_1 x10 x11 Kl1 s w) ?_ (fun hj2=>?_)))
   ·intro x3_2 w a H g
    try dsimp only at H g
    unfold zBd at H
    refine zAF (zAA (g.mv rfl fun _ g=>(g.mv rfl fun _ g=>(g.mv rfl fun _ g=>(g.mv rfl fun _ g=>(g.call (zAQ g zT1 rfl rfl) H fun e w H=>?_))))))
    obtain ⟨r,r_1,rfl,H⟩:=H
    refine ⟨_,rfl,fun _ g=>(g.mv rfl fun _ g=>(g.pur (zAO g rfl rfl) fun _ g=>(g.pur (zAO g rfl rfl) fun _ g=>(g.as_ rfl fun _ g=>(g.as_ rfl fun _ g=>(zAG (tn (zBG (ds:=[]) (N:=148) (σ:=Int × Int) (fun s=>[(13,(.int .i64 s.1)),(14,(.int .i64 s.2)),(0,(Sl.v x0)),(1,(.int .i64 x1_1)),(2,(.int .i64 x2_1)),(3,(.int .i64 x3_2)),(4,x4),(10,(.bool x10)),(11,(.bool x11)),(12,(.int .i64 (IntKind.wrap .i64 (x2_1 - x1_1))))]) (fun s w=>zBf x0 x4 Ret x1_1 x2_1 x10 x11 Kl1 x3_2 s.1 s.2 w) ?_ (fun hj3=>?_)))))))))⟩
    ·rintro ⟨x13,x14⟩ w a H g
     try dsimp only at H g
     unfold zBf at H
     refine zBG (ds:=[]) (N:=148) (σ:=Unit) (fun s=>[(0,(Sl.v x0)),(1,(.int .i64 x1_1)),(2,(.int .i64 x2_1)),(3,(.int .i64 x3_2)),(4,x4),(10,(.bool x10)),(11,(.bool x11)),(12,(.int .i64 (IntKind.wrap .i64 (x2_1 - x1_1)))),(13,(.int .i64 x13))]) (fun s w=>zBh x0 x4 x1_1 x2_1 x10 x11 Kl1 x3_2 x13 w) ?_ (fun hj4=>?_)
     ·rintro ⟨⟩ w a H g
      try dsimp only at H g
      unfold zBh at H
      refine zAF (zAF (zEB (by kernel_rfl) (by kernel_rfl) (g.qm rfl fun _ g=>(g.qpur (zIG g rfl rfl) fun _ g=>(g.qm rfl fun _ g=>(WQ.join (ds:=[]) (N:=148) (σ:=Bool) (fun s=>[(97,(.bool s)),(0,(Sl.v x0)),(1,(.int .i64 x1_1)),(2,(.int .i64 x2_1)),(3,(.int .i64 x3_2)),(4,x4),(10,(.bool x10)),(11,(.bool x11)),(12,(.int .i64 (IntKind.wrap .i64 (x2_1 - x1_1)))),(13,(.int .i64 x13))]) (fun s=>zCr x0 x4 x1_1 x2_1 x10 x11 Kl1 x3_2 x13 s w) 14 ?_ (fun hr5=>?_)))))))
      ·intro x97 a H g
       try dsimp only at H g
       unfold zCr at H
       refine zED (fun w hB=>?_)
       replace H:=H w hB
       refine (tn (zAV g rfl (fun hc=>?_) (fun hc=>?_)))
       ·replace H:=H.1 hc
        refine zAF (zAA (g.mv rfl fun _ g=>(g.mv rfl fun _ g=>(g.mv rfl fun _ g=>(g.mv rfl fun _ g=>(g.mv rfl fun _ g=>(g.call (zAQ g zTm rfl rfl) H fun e w H=>?_)))))))
        obtain ⟨r_2,rfl,H⟩:=H
        refine ⟨_,rfl,fun _ g=>(g.as_ rfl fun _ g=>(zAG (tn (zAF (zAA (g.mv rfl fun _ g=>(g.as_ rfl fun _ g=>(zAG (tn ?_)))))))))⟩
        rw [hK_l1] at H
        exact zBJ (te (be (tn ⟨(r_2,x2_1,x3_2,x10,x11),g.weak ⟨rfl,rfl,rfl,rfl,rfl,rfl,rfl,trivial⟩,H⟩)))
       ·replace H:=H.2 hc
        refine zAP (tn (zAF (zAA (g.mv rfl fun _ g=>(g.mv rfl fun _ g=>(g.mv rfl fun _ g=>(g.mv rfl fun _ g=>(g.mv rfl fun _ g=>(g.call (zAQ g zTk rfl rfl) H fun e w H=>?_)))))))))
        obtain ⟨r_3,r_4,rfl,H⟩:=H
        refine ⟨_,rfl,fun _ g=>(g.mv rfl fun _ g=>(g.pur (zAO g rfl rfl) fun _ g=>(g.pur (zAO g rfl rfl) fun _ g=>(g.as_ rfl fun _ g=>(g.as_ rfl fun _ g=>(zAG (tn (zAF (zAA (g.mv rfl fun _ g=>(g.as_ rfl fun _ g=>(zAG (tn (zAF (zAA (g.mv rfl fun _ g=>(g.mv rfl fun _ g=>(g.pur (zAv g rfl rfl) fun _ g=>(g.mv rfl fun _ g=>(g.mv rfl fun _ g=>(g.pur (zAv g rfl rfl) fun _ g=>(g.as_ rfl fun _ g=>(g.as_ rfl fun _ g=>(zAG (tn (zAF (zAA (g.mv rfl fun _ g=>(g.op (zFD g rfl rfl) H fun x122 w a H g=>(g.as_ rfl fun _ g=>(zAG (tn (zAF (zAA (g.mv rfl fun _ g=>(g.mv rfl fun _ g=>(g.pur (zDp g rfl rfl) fun _ g=>(zAG (tn (zAR g rfl (fun hc=>?_) (fun hc=>?_)))))))))))))))))))))))))))))))))))))))))⟩
        ·replace H:=H.1 hc
         refine zAF (zAA (g.mv rfl fun _ g=>(g.mv rfl fun _ g=>(g.pur (zF7 g rfl rfl) fun _ g=>(g.as_ rfl fun _ g=>(zAG (tn (zAF (zAA (g.mv rfl fun _ g=>(g.mv rfl fun _ g=>(g.mv rfl fun _ g=>(g.mv rfl fun _ g=>(g.mv rfl fun _ g=>(g.call (zAQ g ent85 rfl rfl) H fun e w H=>?_)))))))))))))))
         obtain ⟨rfl,H⟩:=H
         refine ⟨_,rfl,fun _ g=>(zAG (tn (zAA (g.mv rfl fun _ g=>(g.pur (zAn g rfl rfl) fun _ g=>(g.as_ rfl fun _ g=>?_))))))⟩
         rw [hK_l1] at H
         exact zAG (bn (tn ⟨((IntKind.wrap .i64 (r_3+1)),x2_1,x3_2,(decide (x122≤(IntKind.wrap .i64 (r_3 - x1_1)))),r_4),g.weak ⟨rfl,rfl,rfl,rfl,rfl,rfl,rfl,trivial⟩,H⟩))
        ·replace H:=H.2 hc
         refine zAF (zAA (g.mv rfl fun _ g=>(g.mv rfl fun _ g=>(g.pur (zF7 g rfl rfl) fun _ g=>(g.as_ rfl fun _ g=>(zAG (tn (zAF (zAA (g.mv rfl fun _ g=>(g.mv rfl fun _ g=>(g.pur (zAn g rfl rfl) fun _ g=>(g.mv rfl fun _ g=>(g.mv rfl fun _ g=>(g.mv rfl fun _ g=>(g.call (zAQ g ent85 rfl rfl) H fun e w H=>?_))))))))))))))))
         obtain ⟨rfl,H⟩:=H
         refine ⟨_,rfl,fun _ g=>(zAG (tn (zAA (g.mv rfl fun _ g=>(g.as_ rfl fun _ g=>?_)))))⟩
         rw [hK_l1] at H
         exact zAG (bn (tn ⟨(x1_1,r_3,x3_2,(decide (x122≤(IntKind.wrap .i64 (x2_1 - r_3)))),r_4),g.weak ⟨rfl,rfl,rfl,rfl,rfl,rfl,rfl,trivial⟩,H⟩))
      ·rcases Classical.em ((0<x1_1)) with hbr5|hbr5
       ·replace H:=H.1 hbr5
        replace g:=g.bool (b:=true) (t:=83) rfl (decide_eq_true hbr5)
        refine g.qon (by rfl) (by rfl) (g.qm rfl fun _ g=>(g.qon (by rfl) (by rfl) (g.qm rfl fun _ g=>(g.qon (by rfl) (by rfl) (g.qm rfl fun _ g=>(g.qon (by rfl) (by rfl) (g.qpur (zAv g rfl rfl) fun _ g=>(g.qon (by rfl) (by rfl) (g.qop (zAC g rfl rfl) H fun x88 a H g=>(g.qon (by rfl) (by rfl) (g.qop (zAI g rfl) H fun x89 a H g=>(g.qon (by rfl) (by rfl) (g.qm rfl fun _ g=>(g.qon (by rfl) (by rfl) (g.qm rfl fun _ g=>(g.qon (by rfl) (by rfl) (g.qop (zAC g rfl rfl) H fun x92 a H g=>(g.qon (by rfl) (by rfl) (g.qop (zAI g rfl) H fun x93 a H g=>(g.qon (by rfl) (by rfl) ?_))))))))))))))))))))
        obtain ⟨r_5,hc,H⟩:=H
        exact g.qcallV rfl rfl hc fun _ g=>g.qon (by rfl) (by rfl) (g.qpur (zDp g rfl rfl) fun _ g=>(g.qon (by rfl) (by rfl) (g.qpur (zGp g rfl) fun _ g=>(g.qpur (zAj g rfl rfl) fun _ g=>(hr5 (!(decide (r_5<0))) _ H (g.weak ⟨rfl,rfl,rfl,rfl,rfl,rfl,rfl,rfl,rfl,rfl,trivial⟩))))))
       ·replace H:=H.2 hbr5
        replace g:=g.bool (b:=false) (t:=83) rfl (decide_eq_false hbr5)
        exact g.qoff (by rfl) (by rfl) (by decide) (fun _ g=>(g.qoff (by rfl) (by rfl) (by decide) (fun _ g=>(g.qoff (by rfl) (by rfl) (by decide) (fun _ g=>(g.qoff (by rfl) (by rfl) (by decide) (fun _ g=>(g.qoff (by rfl) (by rfl) (by decide) (fun _ g=>(g.qoff (by rfl) (by rfl) (by decide) (fun _ g=>(g.qoff (by rfl) (by rfl) (by decide) (fun _ g=>(g.qoff (by rfl) (by rfl) (by decide) (fun _ g=>(g.qoff (by rfl) (by rfl) (by decide) (fun _ g=>(g.qoff (by rfl) (by rfl) (by decide) (fun _ g=>(g.qoff (by rfl) (by rfl) (by decide) (fun _ g=>(g.qoff (by rfl) (by rfl) (by decide) (fun _ g=>(g.qoff (by rfl) (by rfl) (by decide) (fun _ g=>(g.qpur (zAi g rfl rfl) fun _ g=>(hr5 false _ H (g.weak ⟨rfl,rfl,rfl,rfl,rfl,rfl,rfl,rfl,rfl,rfl,trivial⟩))))))))))))))))))))))))))))
     ·refine zAF (zAA (g.mv rfl fun _ g=>(g.mv rfl fun _ g=>(WL.join (ds:=[]) (N:=148) (σ:=Bool) (fun s=>[(71,(.bool s)),(0,(Sl.v x0)),(1,(.int .i64 x1_1)),(2,(.int .i64 x2_1)),(3,(.int .i64 x3_2)),(4,x4),(10,(.bool x10)),(11,(.bool x11)),(12,(.int .i64 (IntKind.wrap .i64 (x2_1 - x1_1)))),(13,(.int .i64 x13)),(14,(.int .i64 x14))]) (fun s w=>zCz x0 x4 Ret x1_1 x2_1 x10 x11 Kl1 x3_2 x13 x14 s w) 2 ?_ (fun hr6=>?_)))))
      ·intro x71 w a H g
       try dsimp only at H g
       unfold zCz at H
       refine g.mv rfl fun _ g=>WL.join (ds:=[]) (N:=148) (σ:=Bool) (fun s=>[(75,(.bool s)),(0,(Sl.v x0)),(1,(.int .i64 x1_1)),(2,(.int .i64 x2_1)),(3,(.int .i64 x3_2)),(4,x4),(10,(.bool x10)),(11,(.bool x11)),(12,(.int .i64 (IntKind.wrap .i64 (x2_1 - x1_1)))),(13,(.int .i64 x13))]) (fun s w=>zBe x0 x4 Ret x1_1 x2_1 x10 x11 Kl1 x3_2 x13 s w) 3 ?_ (fun hr7=>?_)
       ·intro x75 w a H g
        try dsimp only at H g
        unfold zBe at H
        refine zAG (tn (zAV g rfl (fun hc=>?_) (fun hc=>?_)))
        ·replace H:=H.1 hc
         refine zAF (zAA (g.mv rfl fun _ g=>(g.mv rfl fun _ g=>(g.mv rfl fun _ g=>(g.mv rfl fun _ g=>(g.call (zAQ g zUH rfl rfl) H fun e w H=>?_))))))
         obtain ⟨r_6,rfl,H⟩:=H
         refine ⟨_,rfl,fun _ g=>(zAG (tn (zAV g rfl (fun hc=>?_) (fun hc=>?_))))⟩
         ·replace H:=H.1 hc
          exact zAf (tr (br (tr (br (zKH g rfl ⟨rfl,H⟩)))))
         ·replace H:=H.2 hc
          exact zAP (tn (hj4 () _ _ H (g.weak ⟨rfl,rfl,rfl,rfl,rfl,rfl,rfl,rfl,rfl,trivial⟩)))
        ·replace H:=H.2 hc
         exact zAP (tn (hj4 () _ _ H (g.weak ⟨rfl,rfl,rfl,rfl,rfl,rfl,rfl,rfl,rfl,trivial⟩)))
       ·rcases Bool.eq_false_or_eq_true (x71) with hbr7|hbr7
        ·replace H:=H.1 hbr7
         replace g:=g.bool (b:=true) (t:=72) rfl (hbr7)
         exact g.on (by rfl) (by rfl) (g.mv rfl fun _ g=>(g.on (by rfl) (by rfl) (g.pur (zGX g rfl rfl) fun _ g=>(g.pur (zAj g rfl rfl) fun _ g=>(hr7 (decide (x14=1)) _ _ H (g.weak ⟨rfl,rfl,rfl,rfl,rfl,rfl,rfl,rfl,rfl,rfl,trivial⟩))))))
        ·replace H:=H.2 hbr7
         replace g:=g.bool (b:=false) (t:=72) rfl (hbr7)
         exact g.off (by rfl) (by rfl) (by decide) (fun _ g=>(g.off (by rfl) (by rfl) (by decide) (fun _ g=>(g.pur (zAi g rfl rfl) fun _ g=>(hr7 false _ _ H (g.weak ⟨rfl,rfl,rfl,rfl,rfl,rfl,rfl,rfl,rfl,rfl,trivial⟩))))))
      ·rcases Bool.eq_false_or_eq_true (x10) with hbr6|hbr6
       ·replace H:=H.1 hbr6
        replace g:=g.bool (b:=true) (t:=69) rfl (hbr6)
        exact g.on (by rfl) (by rfl) (g.mv rfl fun _ g=>(g.pur (zAj g rfl rfl) fun _ g=>(hr6 x11 _ _ H (g.weak ⟨rfl,rfl,rfl,rfl,rfl,rfl,rfl,rfl,rfl,rfl,rfl,trivial⟩))))
       ·replace H:=H.2 hbr6
        replace g:=g.bool (b:=false) (t:=69) rfl (hbr6)
        exact g.off (by rfl) (by rfl) (by decide) (fun _ g=>(g.pur (zAi g rfl rfl) fun _ g=>(hr6 false _ _ H (g.weak ⟨rfl,rfl,rfl,rfl,rfl,rfl,rfl,rfl,rfl,rfl,rfl,trivial⟩))))
    ·refine zAF (zAA (g.mv rfl fun _ g=>(g.pur (zGX g rfl rfl) fun _ g=>(zAG (tn (zAR g rfl (fun hc=>?_) (fun hc=>?_)))))))
     ·replace H:=H.1 hc
      refine zAF (zAA (g.mv rfl fun _ g=>(g.mv rfl fun _ g=>(g.mv rfl fun _ g=>(g.mv rfl fun _ g=>(g.call (zAQ g zTj rfl rfl) H fun e w H=>?_))))))
      obtain ⟨rfl,H⟩:=H
      exact ⟨_,rfl,fun _ g=>(zAG (tn (zAF (zAA (g.mv rfl fun _ g=>(g.pur (zAv g rfl rfl) fun _ g=>(g.mv rfl fun _ g=>(g.mv rfl fun _ g=>(g.pur (zAv g rfl rfl) fun _ g=>(g.pur (zAv g rfl rfl) fun _ g=>(g.as_ rfl fun _ g=>(zAG (tn (zAA (g.as_ rfl fun _ g=>(zAG (tn (hj3 ((IntKind.wrap .i64 ((IntKind.wrap .i64 (x2_1 - 1)) - (IntKind.wrap .i64 (r - x1_1)))),1) _ _ H (g.weak ⟨rfl,rfl,rfl,rfl,rfl,rfl,rfl,rfl,rfl,rfl,trivial⟩)))))))))))))))))))⟩
     ·replace H:=H.2 hc
      exact zAP (tn (hj3 (r,r_1) _ _ H (g.weak ⟨rfl,rfl,rfl,rfl,rfl,rfl,rfl,rfl,rfl,rfl,trivial⟩)))
   ·refine zAF (zAA (g.mv rfl fun _ g=>(g.pur (zGp g rfl) fun _ g=>(zAG (tn (zAV g rfl (fun hc=>?_) (fun hc=>?_)))))))
    ·replace H:=H.1 hc
     refine zAF (zAA (g.mv rfl fun _ g=>(g.mv rfl fun _ g=>(g.mv rfl fun _ g=>(g.mv rfl fun _ g=>(g.call (zAQ g zTs rfl rfl) H fun e w H=>?_))))))
     obtain ⟨rfl,H⟩:=H
     exact ⟨_,rfl,fun _ g=>(zAG (tn (zAA (g.mv rfl fun _ g=>(g.pur (zAv g rfl rfl) fun _ g=>(g.as_ rfl fun _ g=>(zAG (tn (hj2 (IntKind.wrap .i64 (x3_1 - 1)) _ _ H (g.weak ⟨rfl,rfl,rfl,rfl,rfl,rfl,rfl,rfl,trivial⟩))))))))))⟩
    ·replace H:=H.2 hc
     exact zAP (tn (hj2 x3_1 _ _ H (g.weak ⟨rfl,rfl,rfl,rfl,rfl,rfl,rfl,rfl,trivial⟩)))
def zBa (x11:Int) (Kl1:Int→World→Prop) (w:World):Prop:=
 Kl1 (IntKind.wrap .i64 (x11+1)) w
def zA1 (x0:Sl) (x1:Int) (x11:Int) (Kl1:Int→World→Prop) (x12:Int) (w:World):Prop:=
 nextB w (fun w=>opP Tryz.prog Value.pointer (Instr.indexAt 67 (Sl.v x0) (.int .i64 (IntKind.wrap .i64 (x1+x12)))) (fun x59=>opP Tryz.prog Value.pointer (Instr.indexAt 67 (Sl.v x0) (.int .i64 x11)) (fun x63=>(opE Tryz.prog zAB.v (Instr.loadAt 72 (.pointer x59)) w (fun x60 w=>opE Tryz.prog zAB.v (Instr.loadAt 72 (.pointer x63)) w (fun x64 w=>opP Tryz.prog Value.pointer (Instr.indexAt 67 (Sl.v x0) (.int .i64 x11)) (fun x65=>opU Tryz.prog (Instr.storeAt 72 (.pointer x65) (zAB.v x60)) w (fun w=>opP Tryz.prog Value.pointer (Instr.indexAt 67 (Sl.v x0) (.int .i64 (IntKind.wrap .i64 (x1+x12)))) (fun x66=>opU Tryz.prog (Instr.storeAt 72 (.pointer x66) (zAB.v x64)) w (fun w=>zBa x11 Kl1 w)))))))∧(opE Tryz.prog zAB.v (Instr.loadAt 72 (.pointer x63)) w (fun x64_1 w=>opE Tryz.prog zAB.v (Instr.loadAt 72 (.pointer x59)) w (fun x60_1 w=>opP Tryz.prog Value.pointer (Instr.indexAt 67 (Sl.v x0) (.int .i64 x11)) (fun x65_1=>opU Tryz.prog (Instr.storeAt 72 (.pointer x65_1) (zAB.v x60_1)) w (fun w=>opP Tryz.prog Value.pointer (Instr.indexAt 67 (Sl.v x0) (.int .i64 (IntKind.wrap .i64 (x1+x12)))) (fun x66_1=>opU Tryz.prog (Instr.storeAt 72 (.pointer x66_1) (zAB.v x64_1)) w (fun w=>zBa x11 Kl1 w))))))))))
def zCy (x0:Sl) (x1:Int) (x2:Int) (Ret:World→Prop) (x9:Option Addr) (r:Int) (x11:Int) (w:World) (Kl1:Int→World→Prop):Prop:=
 opE Tryz.prog (Value.int .i64) (binOp .quo 3 (.int .i64 (IntKind.wrap .i64 (x2 - x1))) (.int .i64 4)) w (fun x31 w=>((x11≤(IntKind.wrap .i64 ((IntKind.wrap .i64 (x1+(IntKind.wrap .i64 (x31*2))))+1)))→(Cl Tryz.prog 116 [(.pointer x9)].toArray w (fun e w=>∃ (r_1:Int),e=.returned (.int .u64 r_1)∧(opE Tryz.prog (Value.int .u64) (binOp .and 143 (.int .u64 r_1) (.int .u64 (IntKind.wrap .u64 (r - 1)))) w (fun x41 w=>opE Tryz.prog (Value.int .i64) (Go.convert 143 3 (.int .u64 x41)) w (fun x42 w=>(((IntKind.wrap .i64 (x2 - x1))≤x42)→(zA1 x0 x1 x11 Kl1 (IntKind.wrap .i64 (x42 - (IntKind.wrap .i64 (x2 - x1)))) w))∧(¬ ((IntKind.wrap .i64 (x2 - x1))≤x42)→(zA1 x0 x1 x11 Kl1 x42 w))))))))∧(¬ (x11≤(IntKind.wrap .i64 ((IntKind.wrap .i64 (x1+(IntKind.wrap .i64 (x31*2))))+1)))→(Ret w)))
def zEP (x0:Sl) (x1:Int) (x2:Int) (x3:Value) (w:World) (Ret:World→Prop):Prop:=
 ((8≤(IntKind.wrap .i64 (x2 - x1)))→(opE Tryz.prog (Value.int .u64) (Go.convert 3 182 (.int .i64 (IntKind.wrap .i64 (x2 - x1)))) w (fun x19 w=>opE Tryz.prog Value.pointer (Instr.alloc 182 true (.tuple #[])) w (fun x9 w=>opU Tryz.prog (Instr.storeAt 182 (.pointer x9) (.int .u64 x19)) w (fun w=>Cl Tryz.prog 115 [(.int .i64 (IntKind.wrap .i64 (x2 - x1)))].toArray w (fun e w=>∃ (r:Int),e=.returned (.int .u64 r)∧(opE Tryz.prog (Value.int .i64) (binOp .quo 3 (.int .i64 (IntKind.wrap .i64 (x2 - x1))) (.int .i64 4)) w (fun x24 w=>∃ (I:Int→World→Prop) (μ:Int→World→Nat),I (IntKind.wrap .i64 ((IntKind.wrap .i64 (x1+(IntKind.wrap .i64 (x24*2)))) - 1)) w∧∀ (x11:Int) w,I x11 w→zCy x0 x1 x2 Ret x9 r x11 w (fun x11' w'=>I x11' w'∧μ x11' w'<μ x11 w)))))))))∧(¬ (8≤(IntKind.wrap .i64 (x2 - x1)))→(Ret w))
set_option maxRecDepth 100000 in
theorem zHP (x0:Sl) (x1:Int) (x2:Int) (x3:Value) (w:World) (Ret:World→Prop) (H:zEP x0 x1 x2 x3 w Ret):Cl Tryz.prog 107 [(Sl.v x0),(.int .i64 x1),(.int .i64 x2),x3].toArray w (fun e w'=>e=.returned (.tuple [].toArray)∧Ret w'):=by
 unfold zEP at H
 refine zAY 67 (zipE 0 [(Sl.v x0),(.int .i64 x1),(.int .i64 x2),x3]) Tryz.func107 rfl rfl (by rfl) rfl ?_
 intro a g
 replace g:Sat [] 67 [(0,(Sl.v x0)),(1,(.int .i64 x1)),(2,(.int .i64 x2)),(3,x3)] a:=g
 refine zAF (zAA (g.mv rfl fun _ g=>(g.mv rfl fun _ g=>(g.pur (zAv g rfl rfl) fun _ g=>(g.as_ rfl fun _ g=>(zAG (tn (zAF (zAA (g.mv rfl fun _ g=>(g.pur (zF7 g rfl rfl) fun _ g=>(zAG (tn (zAR g rfl (fun hc=>?_) (fun hc=>?_)))))))))))))))
 ·replace H:=H.1 hc
  refine zAF (zAA (g.mv rfl fun _ g=>(g.op (zGY g rfl) H fun x19 w a H g=>(g.op (zEH) H fun x9 w a H g=>(g.opu (zAM g rfl rfl) H fun w a H g=>(zAG (tn (zAF (zAA (g.mv rfl fun _ g=>(g.call (zAQ g zRh rfl rfl) H fun e w H=>?_)))))))))))
  obtain ⟨r,rfl,H⟩:=H
  refine ⟨_,rfl,fun _ g=>(g.as_ rfl fun _ g=>(zAG (tn (zAF (zAA (g.mv rfl fun _ g=>(g.mv rfl fun _ g=>(g.op (zFD g rfl rfl) H fun x24 w a H g=>(g.pur (zLJ g rfl rfl) fun _ g=>(g.pur (zAn g rfl rfl) fun _ g=>(g.pur (zAv g rfl rfl) fun _ g=>(g.as_ rfl fun _ g=>(zAG (tn (zAN ?_)))))))))))))))⟩
  obtain ⟨I_l1,μ_l1,h0,hb⟩:=H
  refine zBl (ds:=[]) (N:=67) (σ:=Int) (fun s=>[(11,(.int .i64 s)),(0,(Sl.v x0)),(1,(.int .i64 x1)),(8,(.int .i64 (IntKind.wrap .i64 (x2 - x1)))),(9,(.pointer x9)),(10,(.int .u64 r))]) (fun s w=>I_l1 s w) (fun s w=>μ_l1 s w) (IntKind.wrap .i64 ((IntKind.wrap .i64 (x1+(IntKind.wrap .i64 (x24*2)))) - 1)) h0 (g.weak ⟨rfl,rfl,rfl,rfl,rfl,rfl,trivial⟩) ?_
  intro x11 w a hI g
  try dsimp only at hI g
  obtain ⟨Kl1,hK_l1⟩:∃ K:Int→World→Prop,K=(fun x11' w'=>I_l1 x11' w'∧μ_l1 x11' w'<μ_l1 x11 w):=⟨_,rfl⟩
  have H:zCy x0 x1 x2 Ret x9 r x11 w Kl1:=by rw [hK_l1];exact hb x11 w hI
  clear hb h0 hI
  unfold zCy at H
  refine zAF (zAF (zAA (g.mv rfl fun _ g=>(g.mv rfl fun _ g=>(g.mv rfl fun _ g=>(g.op (zFD g rfl rfl) H fun x31 w a H g=>(g.pur (zLJ g rfl rfl) fun _ g=>(g.pur (zAn g rfl rfl) fun _ g=>(g.pur (zAn g rfl rfl) fun _ g=>(g.pur (zJn g rfl rfl) fun _ g=>(zAG (tn (zAR g rfl (fun hc=>?_) (fun hc=>?_))))))))))))))
  ·replace H:=H.1 hc
   refine zAP (tn (zBG (ds:=[]) (N:=67) (σ:=Unit) (fun s=>[(0,(Sl.v x0)),(1,(.int .i64 x1)),(8,(.int .i64 (IntKind.wrap .i64 (x2 - x1)))),(9,(.pointer x9)),(10,(.int .u64 r)),(11,(.int .i64 x11))]) (fun s w=>zBa x11 Kl1 w) ?_ (fun hj2=>?_)))
   ·rintro ⟨⟩ w a H g
    try dsimp only at H g
    unfold zBa at H
    refine zAA (g.mv rfl fun _ g=>(g.pur (zAn g rfl rfl) fun _ g=>(g.as_ rfl fun _ g=>?_)))
    rw [hK_l1] at H
    exact zAG (tn ⟨(IntKind.wrap .i64 (x11+1)),g.weak ⟨rfl,rfl,rfl,rfl,rfl,rfl,trivial⟩,H⟩)
   ·refine zAN (zAF (zAA (g.call (zAQ g zRE rfl rfl) H fun e w H=>?_)))
    obtain ⟨r_1,rfl,H⟩:=H
    refine ⟨_,rfl,fun _ g=>(g.mv rfl fun _ g=>(g.pur (zAv g rfl rfl) fun _ g=>(g.op (zFD g rfl rfl) H fun x41 w a H g=>(g.op (zGY g rfl) H fun x42 w a H g=>(g.as_ rfl fun _ g=>(zAG (tn (zBG (ds:=[]) (N:=67) (σ:=Int) (fun s=>[(12,(.int .i64 s)),(0,(Sl.v x0)),(1,(.int .i64 x1)),(8,(.int .i64 (IntKind.wrap .i64 (x2 - x1)))),(9,(.pointer x9)),(10,(.int .u64 r)),(11,(.int .i64 x11))]) (fun s w=>zA1 x0 x1 x11 Kl1 s w) ?_ (fun hj3=>?_)))))))))⟩
    ·intro x12 w a H g
     try dsimp only at H g
     unfold zA1 at H
     refine zKK 20 fun w hB=>?_
     replace H:=H w hB
     refine g.ap 0 rfl (zAL g rfl) fun _ g=>g.ap 1 rfl (zAL g rfl) fun _ g=>g.ap 2 rfl (zAL g rfl) fun _ g=>g.ap 3 rfl (zAL g rfl) fun _ g=>g.ap 4 rfl (zAL g rfl) fun _ g=>g.ap 5 rfl (zAn g rfl rfl) fun _ g=>g.ap 6 rfl (zAL g rfl) fun _ g=>g.ap 7 rfl (zAL g rfl) fun _ g=>g.ap 8 rfl (zAL g rfl) fun _ g=>g.ap 9 rfl (zAn g rfl rfl) fun _ g=>g.ao 10 rfl (zAC g rfl rfl) H fun x59 a H g=>g.ap 12 rfl (zAL g rfl) fun _ g=>g.ap 13 rfl (zAL g rfl) fun _ g=>g.ao 14 rfl (zAC g rfl rfl) H fun x63 a H g=>WA.tw 11 15 rfl rfl ?_ ?_
     ·replace H:=H.1
      intro K hK
      exact g.wop (zAI g rfl) H fun x60 w a H g=>hK _ _ (g.o1 15 rfl (zAI g rfl) H fun x64 w a H g=>(g.ao 16 rfl (zAC g rfl rfl) H fun x65 a H g=>(g.o1u 17 rfl (zAM g rfl rfl) H fun w a H g=>(g.ao 18 rfl (zAC g rfl rfl) H fun x66 a H g=>(g.o1u 19 rfl (zAM g rfl rfl) H fun w a H g=>(WA.ni ((bn (tn (hj2 () _ _ H (g.weak ⟨rfl,rfl,rfl,rfl,rfl,rfl,trivial⟩)))))))))))
     ·replace H:=H.2
      intro K hK
      exact g.wop (zAI g rfl) H fun x64_1 w a H g=>hK _ _ (g.o1 11 rfl (zAI g rfl) H fun x60_1 w a H g=>(g.ao 16 rfl (zAC g rfl rfl) H fun x65_1 a H g=>(g.o1u 17 rfl (zAM g rfl rfl) H fun w a H g=>(g.ao 18 rfl (zAC g rfl rfl) H fun x66_1 a H g=>(g.o1u 19 rfl (zAM g rfl rfl) H fun w a H g=>(WA.ni ((bn (tn (hj2 () _ _ H (g.weak ⟨rfl,rfl,rfl,rfl,rfl,rfl,trivial⟩)))))))))))
    ·refine zAF (zAA (g.mv rfl fun _ g=>(g.mv rfl fun _ g=>(g.pur (zF7 g rfl rfl) fun _ g=>(zAG (tn (zAR g rfl (fun hc=>?_) (fun hc=>?_))))))))
     ·replace H:=H.1 hc
      exact zAA (g.mv rfl fun _ g=>(g.mv rfl fun _ g=>(g.pur (zAv g rfl rfl) fun _ g=>(g.as_ rfl fun _ g=>(zAG (tn (hj3 (IntKind.wrap .i64 (x42 - (IntKind.wrap .i64 (x2 - x1)))) _ _ H (g.weak ⟨rfl,rfl,rfl,rfl,rfl,rfl,rfl,trivial⟩))))))))
     ·replace H:=H.2 hc
      exact zAP (tn (hj3 x42 _ _ H (g.weak ⟨rfl,rfl,rfl,rfl,rfl,rfl,rfl,trivial⟩)))
  ·replace H:=H.2 hc
   exact zBJ (te (te (be (zG1 g rfl ⟨rfl,H⟩))))
 ·replace H:=H.2 hc
  exact zAP (zG1 g rfl ⟨rfl,H⟩)
end Go.Proofs.YtealcoghiaeiiaaGreat.VG
set_option linter.unusedVariables false
namespace Go.Proofs.YtealcoghiaeiiaaGreat.VG
open Go.VB Go.VB.Srt Go.Proofs
namespace SoCmpFunc_api_Version
theorem zAa:zKu Tryz.prog zAW zAp 4 zAB.cells zAB.v:=zKu.agg zAx zBU (fun _=>rfl) (fun _=>rfl) (by decide)
abbrev Ow (base:Nat) (w:World) (s:Sl) (l:List zAB):Prop:=OwnS zAB.cells 4 zAp base w s l
def Cmps (cmp:Value) (lt:zAB→zAB→Bool):Prop:=∀ w x y,∃ r:Int,CallQ Tryz.prog cmp [zAB.v x,zAB.v y] w (.int .i64 r)∧(lt x y=true↔r<0)
theorem zFF {lt:zAB→zAB→Bool} {x y:zAB} {r:Int} (h:lt x y=true↔r<0):decide (r<0)=lt x y:=by
 cases hl:lt x y with
 |true=>rw [decide_eq_true (h.1 hl)]
 |false=>rw [decide_eq_false (fun e=>by rw [h.2 e] at hl;cases hl)]
section
variable {cmp:Value} {lt:zAB→zAB→Bool} (O:SWO lt) (hcmp:Cmps cmp lt) {base:Nat} {w:World} {s:Sl} {L:Nat} {f:Nat→zAB}
include O hcmp
theorem zG9 (hO:Ow base w s (tab f L)) {a b:Nat} (hA:a≤b) (hb:b≤L) {k:World→Prop}
  (H:∀ g w',Seg a b f g→zBm lt a b g→Ow base w' s (tab g L)→w.grownBy w' (Sl.v s).ownBlock→k w'):
  Cl Tryz.prog zHR [Sl.v s,.int .i64 (a:Int),.int .i64 (b:Int),cmp].toArray w (fun e w'=>e=.returned (.tuple [].toArray)∧k w'):=by
 refine zHO s a b cmp w k ?_
 have hlen:=hO.len;have hsm:=hO.small
 rw [zDJ] at hlen
 by_cases hab:b≤a
 ·unfold zDb
  refine ⟨fun i w1=>i=(a:Int)+1∧w1=w,fun _ _=>0,⟨wr64 (by omega) (by omega),rfl⟩,?_⟩
  rintro i w1 ⟨rfl,rfl⟩
  unfold zBT
  exact ⟨fun hc=>by omega,fun _=>H f w1 (.refl f) (zBm.small (by omega)) hO (World.grownBy.refl _ _)⟩
 unfold zDb
 refine ⟨fun x w1=>∃ (i:Nat) (g:Nat→zAB),x=(i:Int)∧a+1≤i∧i≤b∧Seg a b f g∧zBm lt a i g∧Ow base w1 s (tab g L)∧w.grownBy w1 (Sl.v s).ownBlock,fun x _=>(b - x).toNat,?_,?_⟩
 ·exact ⟨a+1,f,by rw [wr64 (by omega) (by omega)];omega,by omega,by omega,.refl f,zBm.small (by omega),hO,World.grownBy.refl _ _⟩
 rintro x w1 ⟨i,g,rfl,hi1,hi2,hsg,hso,hO1,hg1⟩
 unfold zBT
 refine ⟨fun hc=>?_,fun hc=>?_⟩
 rotate_left
 ·obtain rfl:i=b:=by omega
  exact H g w1 hsg hso hO1 hg1
 refine ⟨fun y w2=>∃ (j:Nat) (g:Nat→zAB),y=(j:Int)∧a≤j∧j≤i∧Seg a b f g∧Hole lt a i j g∧Ow base w2 s (tab g L)∧w.grownBy w2 (Sl.v s).ownBlock,fun y _=>y.toNat,?_,?_⟩
 ·exact ⟨i,g,rfl,by omega,by omega,hsg,Hole.start hso,hO1,hg1⟩
 rintro y w2 ⟨j,g,rfl,hj1,hj2,hsg,hho,hO2,hg2⟩
 unfold zCs
 have fin:∀ w3,Bel w2 w3→(j≤a∨Le lt (g (j - 1)) (g j))→(fun (x8':Int) (w':World)=>(∃ (i:Nat) (g:Nat→zAB),x8'=(i:Int)∧a+1≤i∧i≤b∧Seg a b f g∧zBm lt a i g∧Ow base w' s (tab g L)∧w.grownBy w' (Sl.v s).ownBlock)∧(b - x8').toNat<(b - (i:Int)).toNat) (IntKind.wrap .i64 ((i:Int)+1)) w3:=by
  intro w3 hb3 hd
  rw [wr64 (by omega) (by omega)]
  exact ⟨⟨i+1,g,by omega,by omega,by omega,hsg,hho.done O hd,hO2.bel hb3,zAK hg2 (zAT hb3 _)⟩,by omega⟩
 refine ⟨fun hc=>?_,fun hc=>?_⟩
 ·refine zBP zAa hO2 rfl (by omega) ?_
  refine zBP zAa hO2 (i':=j - 1) (by rw [wr64 (by omega) (by omega)];omega) (by omega) ?_
  obtain ⟨r,hr,hl⟩:=hcmp w2 (g j) (g (j - 1))
  refine ⟨r,hr,?_⟩
  rw [zFF hl]
  unfold zA0
  intro w3 hb3
  refine ⟨fun hlt=>?_,fun hlt=>fin w3 hb3 (.inr hlt)⟩
  refine zEn zAa (hO2.bel hb3) (i':=j) (j':=j - 1) rfl (by rw [wr64 (by omega) (by omega)];omega) (by omega) (by omega) fun w4 hO4 hg4=>?_
  unfold zBb
  rw [wr64 (by omega) (by omega)]
  exact ⟨⟨j - 1,_,by omega,by omega,by omega,.step j (j - 1) (by omega) (by omega) (by omega) (by omega) hsg,hho.step O (by omega) hj2 hlt,hO4,zAK (zAK hg2 (zAT hb3 _)) hg4⟩,by dsimp only;omega⟩
 ·unfold zA0
  intro w3 hb3
  exact ⟨fun h=>(nomatch h),fun _=>fin w3 hb3 (.inl (by omega))⟩
end
end SoCmpFunc_api_Version
end Go.Proofs.YtealcoghiaeiiaaGreat.VG
set_option linter.unusedVariables false
namespace Go.Proofs.YtealcoghiaeiiaaGreat.VG
open Go.VB Go.VB.Srt Go.Proofs
namespace SoCmpFunc_api_Version
section
variable {cmp:Value} {lt:zAB→zAB→Bool} (O:SWO lt) (hcmp:Cmps cmp lt) {base:Nat} {w:World} {s:Sl} {L:Nat} {f:Nat→zAB}
include O hcmp
theorem zLP (hO:Ow base w s (tab f L)) {lo hi o:Nat} (hb:o+hi≤L) (hlo:lo≤hi) (hp:Hp lt o (lo+1) hi f) {k:World→Prop}
  (H:∀ g w',Seg (o+lo) (o+hi) f g→Hp lt o lo hi g→Ow base w' s (tab g L)→w.grownBy w' (Sl.v s).ownBlock→k w'):
  Cl Tryz.prog zIj [Sl.v s,.int .i64 (lo:Int),.int .i64 (hi:Int),.int .i64 (o:Int),cmp].toArray w (fun e w'=>e=.returned (.tuple [].toArray)∧k w'):=by
 refine zIl s lo hi o cmp w k ?_
 have hlen:=hO.len;have hsm:=hO.small
 rw [zDJ] at hlen
 unfold zE6
 refine ⟨fun x w1=>∃ (r:Nat) (g:Nat→zAB),x=(r:Int)∧lo≤r∧r≤hi∧Seg (o+lo) (o+hi) f g∧HpX lt o lo hi r g∧Ow base w1 s (tab g L)∧w.grownBy w1 (Sl.v s).ownBlock,fun x _=>(hi - x).toNat,?_,?_⟩
 ·exact ⟨lo,f,rfl,Nat.le_refl _,hlo,.refl f,HpX.start hp,hO,World.grownBy.refl _ _⟩
 rintro x w1 ⟨r,g,rfl,hr1,hr2,hsg,hx,hO1,hg1⟩
 unfold zDn
 rw [wr64 (n:=2*(r:Int)) (by omega) (by omega),wr64 (n:=2*(r:Int)+1) (by omega) (by omega)]
 refine ⟨fun hc=>H g w1 hsg (hx.done O fun c h1 h2=>by unfold Child at h1;omega) hO1 hg1,fun hc=>?_⟩
 -- the greater child is c
 have j2:∀ (c:Nat) (w2:World),Bel w1 w2→Child c r→c<hi→(∀ d,Child d r→d<hi→Le lt (g (o+d)) (g (o+c)))→
   zBZ s o cmp k r (fun x10' w'=>(∃ (r:Nat) (g:Nat→zAB),x10'=(r:Int)∧lo≤r∧r≤hi∧Seg (o+lo) (o+hi) f g∧HpX lt o lo hi r g∧Ow base w' s (tab g L)∧w.grownBy w' (Sl.v s).ownBlock)∧(hi - x10').toNat<(hi - (r:Int)).toNat) c w2:=by
  intro c w2 hb2 hcr hch hmax
  have hrc:r<c:=by unfold Child at hcr;omega
  have hO2:=hO1.bel hb2
  unfold zBZ
  rw [wr64 (n:=(o:Int)+r) (by omega) (by omega),wr64 (n:=(o:Int)+c) (by omega) (by omega)]
  refine zBP zAa hO2 (i':=o+r) (by omega) (by omega) ?_
  refine zBP zAa hO2 (i':=o+c) (by omega) (by omega) ?_
  obtain ⟨q,hq,hl⟩:=hcmp w2 (g (o+r)) (g (o+c))
  refine ⟨q,hq,?_⟩
  rw [zFF hl]
  intro w3 hb3
  refine ⟨fun hn=>?_,fun hn=>?_⟩
  ·have hn':lt (g (o+r)) (g (o+c))=false:=by simpa using hn
   exact H g w3 hsg (hx.done O fun d h1 h2=>O.trans (hmax d h1 h2) hn') (hO2.bel hb3) (zAK (zAK hg1 (zAT hb2 _)) (zAT hb3 _))
  ·have hn':lt (g (o+r)) (g (o+c))=true:=by simpa using hn
   refine zEn zAa (hO2.bel hb3) (i':=o+r) (j':=o+c) (by omega) (by omega) (by omega) (by omega) fun w4 hO4 hg4=>?_
   unfold zCg
   exact ⟨⟨c,_,rfl,by omega,by omega,.step (o+r) (o+c) (by omega) (by omega) (by omega) (by omega) hsg,hx.step O hr1 hcr hch hmax hn',hO4,zAK (zAK (zAK hg1 (zAT hb2 _)) (zAT hb3 _)) hg4⟩,by omega⟩
 rw [wr64 (n:=2*(r:Int)+1+1) (by omega) (by omega),wr64 (n:=(o:Int)+(2*r+1)) (by omega) (by omega)]
 refine ⟨fun hc2=>?_,fun hc2=>?_⟩
 ·rw [wr64 (n:=(o:Int)+(2*r+1)+1) (by omega) (by omega)]
  refine zBP zAa hO1 (i':=o+(2*r+1)) (by omega) (by omega) ?_
  refine zBP zAa hO1 (i':=o+(2*r+2)) (by omega) (by omega) ?_
  obtain ⟨q,hq,hl⟩:=hcmp w1 (g (o+(2*r+1))) (g (o+(2*r+2)))
  refine ⟨q,hq,?_⟩
  rw [zFF hl]
  unfold zBR
  rw [wr64 (n:=2*(r:Int)) (by omega) (by omega),wr64 (n:=2*(r:Int)+1) (by omega) (by omega),wr64 (n:=2*(r:Int)+1+1) (by omega) (by omega)]
  intro w2 hb2
  refine ⟨fun hn=>?_,fun hn=>?_⟩
  ·have:=j2 (2*r+2) w2 hb2 (.inr rfl) (by omega) fun d hd hdh=>by
    rcases hd with rfl|rfl
    ·exact O.of_lt hn
    ·exact O.refl _
   rw [show ((2*r+2:Nat):Int)=2*(r:Int)+1+1 by omega] at this
   exact this
  ·have:=j2 (2*r+1) w2 hb2 (.inl rfl) (by omega) fun d hd hdh=>by
    rcases hd with rfl|rfl
    ·exact O.refl _
    ·exact hn
   rw [show ((2*r+1:Nat):Int)=2*(r:Int)+1 by omega] at this
   exact this
 ·unfold zBR
  rw [wr64 (n:=2*(r:Int)) (by omega) (by omega),wr64 (n:=2*(r:Int)+1) (by omega) (by omega)]
  intro w2 hb2
  refine ⟨fun h=>(nomatch h),fun _=>?_⟩
  have:=j2 (2*r+1) w2 hb2 (.inl rfl) (by omega) fun d hd hdh=>by
    rcases hd with rfl|rfl
    ·exact O.refl _
    ·omega
  rw [show ((2*r+1:Nat):Int)=2*(r:Int)+1 by omega] at this
  exact this
theorem zNw (hO:Ow base w s (tab f L)) {a b:Nat} (hA:a≤b) (hb:b≤L) {k:World→Prop}
  (H:∀ g w',Seg a b f g→zBm lt a b g→Ow base w' s (tab g L)→w.grownBy w' (Sl.v s).ownBlock→k w'):
  Cl Tryz.prog zIi [Sl.v s,.int .i64 (a:Int),.int .i64 (b:Int),cmp].toArray w (fun e w'=>e=.returned (.tuple [].toArray)∧k w'):=by
 refine zIb s a b cmp w k ?_
 have hlen:=hO.len;have hsm:=hO.small
 rw [zDJ] at hlen
 unfold zEy
 rw [wr64 (n:=(b:Int) - a) (by omega) (by omega),wr64 (n:=(b:Int) - a - 1) (by omega) (by omega)]
 have hq:∃ q:Nat,((b:Int) - a - 1).tdiv 2=(q:Int)∧b - a≤2*q+2∧q≤b - a:=by
  by_cases h0:a=b
  ·subst h0;exact ⟨0,by rw [show (a:Int) - a - 1 = -1 by omega];rfl,by omega,by omega⟩
  ·refine ⟨(b - a - 1) / 2,?_,by omega,by omega⟩
   rw [Int.tdiv_eq_ediv_of_nonneg (by omega)];omega
 obtain ⟨q,hq1,hq2,hq3⟩:=hq
 refine zKn (by decide) (by rw [hq1];omega) (by rw [hq1];omega) ?_
 rw [hq1]
 obtain ⟨n,rfl⟩:∃ n,b=a+n:=⟨b - a,by omega⟩
 refine ⟨fun x w1=>∃ (i:Nat) (g:Nat→zAB),x=(i:Int) - 1∧i≤n+1∧Seg a (a+n) f g∧Hp lt a i n g∧Ow base w1 s (tab g L)∧w.grownBy w1 (Sl.v s).ownBlock,fun x _=>(x+1).toNat,?_,?_⟩
 ·exact ⟨q+1,f,by omega,by omega,.refl f,fun i c h1 h2 h3=>by unfold Child at h2;omega,hO,World.grownBy.refl _ _⟩
 rintro x w1 ⟨i,g,rfl,hi,hsg,hp,hO1,hg1⟩
 unfold zDo
 rw [wr64 (n:=((a+n:Nat):Int) - a) (by omega) (by omega)]
 refine ⟨fun hc=>?_,fun hc=>?_⟩
 ·obtain ⟨m,rfl⟩:∃ m,i=m+1:=⟨i - 1,by omega⟩
  rw [show ((m+1:Nat):Int) - 1=(m:Int) by omega,show ((a+n:Nat):Int) - a=(n:Int) by omega]
  refine zLP O hcmp hO1 (lo:=m) (hi:=n) (o:=a) hb (by omega) hp fun h w2 hsg2 hp2 hO2 hg2=>?_
  rw [wr64 (by omega) (by omega)]
  exact ⟨⟨m,h,rfl,by omega,hsg.trans (hsg2.mono (by omega) (Nat.le_refl _)),hp2,hO2,zAK hg1 hg2⟩,by dsimp only;omega⟩
 ·obtain rfl:i=0:=by omega
  rw [wr64 (n:=((a+n:Nat):Int) - a - 1) (by omega) (by omega)]
  refine ⟨fun x w2=>∃ (i:Nat) (g:Nat→zAB),x=(i:Int) - 1∧i≤n∧Seg a (a+n) f g∧HS lt a (a+n) i g∧Ow base w2 s (tab g L)∧w.grownBy w2 (Sl.v s).ownBlock,fun x _=>(x+1).toNat,?_,?_⟩
  ·exact ⟨n,g,by omega,Nat.le_refl _,hsg,⟨hp,fun i j h1 h2 h3=>by omega,fun k q h1 h2 h3 h4=>by omega⟩,hO1,hg1⟩
  rintro x w2 ⟨i,g,rfl,hi,hsg,hs,hO2,hg2⟩
  unfold zDk
  refine ⟨fun hc=>?_,fun hc=>?_⟩
  ·obtain ⟨m,rfl⟩:∃ m,i=m+1:=⟨i - 1,by omega⟩
   rw [show ((m+1:Nat):Int) - 1=(m:Int) by omega,wr64 (n:=(a:Int)+m) (by omega) (by omega)]
   refine zEn zAa hO2 (i':=a) (j':=a+m) rfl (by omega) (by omega) (by omega) fun w3 hO3 hg3=>?_
   unfold zCj
   refine zLP O hcmp hO3 (lo:=0) (hi:=m) (o:=a) (by omega) (by omega) (fun i c h1 h2 h3=>?_) fun h w4 hsg4 hp4 hO4 hg4=>?_
   ·rw [swp_o g (by unfold Child at h2;omega) (by unfold Child at h2;omega),swp_o g (by omega) (by unfold Child at h2;omega)]
    exact hs.hp i c (by omega) h2 (by omega)
   ·rw [wr64 (by omega) (by omega)]
    rw [Nat.add_zero] at hsg4
    exact ⟨⟨m,h,rfl,by omega,(hsg.trans (Seg.one g (by omega) (by omega) (by omega) (by omega))).trans (hsg4.mono (Nat.le_refl _) (by omega)),hs.step O (by omega) hsg4 hp4,hO4,zAK (zAK hg2 hg3) hg4⟩,by dsimp only;omega⟩
  ·obtain rfl:i=0:=by omega
   exact H g w2 hsg hs.so hO2 hg2
end
theorem zK1 {cmp:Value} {base:Nat} {w:World} {s:Sl} {L:Nat} {f:Nat→zAB} (hO:Ow base w s (tab f L)) {a b:Nat} (hA:a≤b) (hb:b≤L) {k:World→Prop}
  (H:∀ g w',Seg a b f g→Ow base w' s (tab g L)→w.grownBy w' (Sl.v s).ownBlock→k w'):
  Cl Tryz.prog zHX [Sl.v s,.int .i64 (a:Int),.int .i64 (b:Int),cmp].toArray w (fun e w'=>e=.returned (.tuple [].toArray)∧k w'):=by
 refine zHb s a b cmp w k ?_
 have hlen:=hO.len;have hsm:=hO.small
 rw [zDJ] at hlen
 unfold zEU
 refine ⟨fun x y w1=>∃ (i:Nat) (g:Nat→zAB),x=(i:Int)∧a≤i∧i≤b ∧ -1≤y∧y<b∧Seg a b f g∧Ow base w1 s (tab g L)∧w.grownBy w1 (Sl.v s).ownBlock,fun x y _=>(y - x).toNat,?_,?_⟩
 ·rw [wr64 (by omega) (by omega)]
  exact ⟨a,f,rfl,Nat.le_refl _,hA,by omega,by omega,.refl f,hO,World.grownBy.refl _ _⟩
 rintro x y w1 ⟨i,g,rfl,hi,hib,hy1,hy2,hsg,hO1,hg1⟩
 unfold zC5
 refine ⟨fun hc=>?_,fun hc=>H g w1 hsg hO1 hg1⟩
 refine zEn zAa hO1 (i':=i) (j':=y.toNat) rfl (by omega) (by omega) (by omega) fun w3 hO3 hg3=>?_
 unfold zBt
 rw [wr64 (n:=(i:Int)+1) (by omega) (by omega),wr64 (n:=y - 1) (by omega) (by omega)]
 exact ⟨⟨i+1,_,by omega,by omega,by omega,by omega,by omega,.step i y.toNat (by omega) (by omega) (by omega) (by omega) hsg,hO3,zAK hg1 hg3⟩,by dsimp only;omega⟩
end SoCmpFunc_api_Version
end Go.Proofs.YtealcoghiaeiiaaGreat.VG
set_option linter.unusedVariables false
namespace Go.Proofs.YtealcoghiaeiiaaGreat.VG
open Go.VB Go.VB.Srt Go.Proofs
namespace SoCmpFunc_api_Version
section
variable {cmp:Value} {lt:zAB→zAB→Bool} (hcmp:Cmps cmp lt) {base:Nat} {w:World} {s:Sl} {L:Nat} {f:Nat→zAB}
include hcmp
theorem zH6 (hO:Ow base w s (tab f L)) {B:Nat} {v:Int} (hB:Row w B [.int .i64 v] zFp) {a b:Nat} (ha:a<L) (hb:b<L) {k:Int→Int→World→Prop}
  (H:∀ (x y:Nat) w' v',(x=a∨x=b)→(y=a∨y=b)→Row w' B [.int .i64 v'] zFp→w.grownBy w' (some B)→k x y w'):
  Cl Tryz.prog zI4 [Sl.v s,.int .i64 (a:Int),.int .i64 (b:Int),.pointer (some ⟨B,0,none⟩),cmp].toArray w (fun e w'=>∃ (r0 r1:Int),e=.returned (.tuple [.int .i64 r0,.int .i64 r1].toArray)∧k r0 r1 w'):=by
 refine zJF s a b (some ⟨B,0,none⟩) cmp w k ?_
 unfold zFL
 refine zBP zAa hO (i':=b) rfl hb ?_
 refine zBP zAa hO (i':=a) rfl ha ?_
 obtain ⟨q,hq,hl⟩:=hcmp w (f b) (f a)
 refine ⟨q,hq,?_⟩
 intro w1 hb1
 have hB1:=hB.bel hb1
 refine ⟨fun _=>⟨by trivial,?_⟩,fun _=>H a b w1 v (.inl rfl) (.inr rfl) hB1 (zAT hb1 _)⟩
 refine zHM zF4 v hB1.cell ?_
 refine ⟨by trivial,?_⟩
 refine zNZ zF4 hB1 rfl rfl fun w2 hB2 hg2=>?_
 exact H b a w2 _ (.inr rfl) (.inl rfl) hB2 (zAK (zAT hb1 _) hg2)
theorem zJ2 (hO:Ow base w s (tab f L)) {B:Nat} {v:Int} (hB:Row w B [.int .i64 v] zFp) (hne:(Sl.v s).ownBlock≠some B) {a b c:Nat} (ha:a<L) (hb:b<L) (hc:c<L) {k:Int→World→Prop}
  (H:∀ (x:Nat) w' v',(x=a∨x=b∨x=c)→Row w' B [.int .i64 v'] zFp→w.grownBy w' (some B)→k x w'):
  Cl Tryz.prog zJG [Sl.v s,.int .i64 (a:Int),.int .i64 (b:Int),.int .i64 (c:Int),.pointer (some ⟨B,0,none⟩),cmp].toArray w (fun e w'=>∃ r0:Int,e=.returned (.int .i64 r0)∧k r0 w'):=by
 refine zJB s a b c (some ⟨B,0,none⟩) cmp w k ?_
 unfold zFM
 have kept:∀ {w w'},Ow base w s (tab f L)→w.grownBy w' (some B)→Ow base w' s (tab f L):=fun h hg=>h.kept hg (by
  cases hk:(Sl.v s).ownBlock with
  |none=>exact .inl rfl
  |some q=>exact .inr (by rw [← hk];exact hne))
 refine zH6 hcmp hO hB ha hb fun x y w1 v1 hx hy hB1 hg1=>?_
 have hO1:=kept hO hg1
 refine zH6 hcmp hO1 hB1 (a:=y) (b:=c) (by omega) hc fun x2 y2 w2 v2 hx2 hy2 hB2 hg2=>?_
 have hO2:=kept hO1 hg2
 refine zH6 hcmp hO2 hB2 (a:=x) (b:=x2) (by omega) (by omega) fun x3 y3 w3 v3 hx3 hy3 hB3 hg3=>?_
 exact H y3 w3 v3 (by omega) hB3 (zAK (zAK hg1 hg2) hg3)
theorem zFx (hO:Ow base w s (tab f L)) {B:Nat} {v:Int} (hB:Row w B [.int .i64 v] zFp) (hne:(Sl.v s).ownBlock≠some B) {a:Nat} (h0:1≤a) (ha:a+1<L) (hL:L≤140737488355328) {k:Int→World→Prop}
  (H:∀ (x:Nat) w' v',a - 1≤x→x≤a+1→Row w' B [.int .i64 v'] zFp→w.grownBy w' (some B)→k x w'):
  Cl Tryz.prog zHC [Sl.v s,.int .i64 (a:Int),.pointer (some ⟨B,0,none⟩),cmp].toArray w (fun e w'=>∃ r0:Int,e=.returned (.int .i64 r0)∧k r0 w'):=by
 refine zHB s a (some ⟨B,0,none⟩) cmp w k ?_
 unfold zEI
 rw [wr64 (n:=(a:Int) - 1) (by omega) (by omega),wr64 (n:=(a:Int)+1) (by omega) (by omega),show (a:Int) - 1=((a - 1:Nat):Int) by omega,show (a:Int)+1=((a+1:Nat):Int) by omega]
 exact zJ2 hcmp hO hB hne (a:=a - 1) (b:=a) (c:=a+1) (by omega) (by omega) ha fun x w' v' hx h1 h2=>H x w' v' (by omega) (by omega) h1 h2
theorem zMh (hO:Ow base w s (tab f L)) {a b:Nat} (hA:a<b) (hb:b≤L) {k:Int→Int→World→Prop}
  (H:∀ (x:Nat) (y:Int) w',a≤x→x<b→Bel w w'→k x y w'):
  Cl Tryz.prog zHs [Sl.v s,.int .i64 (a:Int),.int .i64 (b:Int),cmp].toArray w (fun e w'=>∃ (r0 r1:Int),e=.returned (.tuple [.int .i64 r0,.int .i64 r1].toArray)∧k r0 r1 w'):=by
 refine zHt s a b cmp w k ?_
 have hlen:=hO.len;have hsm:=hO.small
 rw [zDJ] at hlen
 unfold zEZ
 refine zNE zPt ?_
 have hB:=Row.new w zJw zFp
 have hb1:Bel w (w.alloc (.cells zJw.toArray zFp)):=Bel.alloc _ _
 have hO1:=hO.bel hb1
 have hne:(Sl.v s).ownBlock≠some w.heap.size:=fun e=>by have:=(hO.row.lt _ e).2;omega
 have hw:w.heap.size≤w.heap.size:=Nat.le_refl _
 generalize hBd:w.heap.size=B at hB hne ⊢
 generalize (w.alloc (.cells zJw.toArray zFp))=w1 at hB hb1 hO1 ⊢
 obtain ⟨n,rfl⟩:∃ n,b=a+n:=⟨b - a,by omega⟩
 rw [wr64 (n:=((a+n:Nat):Int) - a) (by omega) (by omega),show ((a+n:Nat):Int) - a=(n:Int) by omega]
 have hq:(n:Int).tdiv 4=((n / 4:Nat):Int):=by rw [Int.tdiv_eq_ediv_of_nonneg (by omega)];omega
 refine zKn (by decide) (by rw [hq];omega) (by rw [hq];omega) ?_
 refine zKn (by decide) (by rw [hq];omega) (by rw [hq];omega) ?_
 refine zKn (by decide) (by rw [hq];omega) (by rw [hq];omega) ?_
 rw [hq]
 generalize hm:n / 4=m
 have hm1:4*m≤n:=by omega
 rw [wr64 (n:=(m:Int)*1) (by omega) (by omega),wr64 (n:=(m:Int)*2) (by omega) (by omega),wr64 (n:=(m:Int)*3) (by omega) (by omega),
  wr64 (n:=(a:Int)+m*1) (by omega) (by omega),wr64 (n:=(a:Int)+m*2) (by omega) (by omega),wr64 (n:=(a:Int)+m*3) (by omega) (by omega)]
 have j1:∀ (x:Nat) (w2:World) (v:Int),a≤x→x<a+n→Row w2 B [.int .i64 v] zFp→w1.grownBy w2 (some B)→zA7 k (some ⟨B,0,none⟩) x w2:=by
  intro x w2 v h1 h2 h3 h4
  have hb2:Bel w w2:=hb1.grown h4 (fun r hr=>by cases hr;omega)
  unfold zA7
  refine zHM zF4 v h3.cell ?_
  exact ⟨fun _=>H x _ w2 h1 h2 hb2,fun _=>⟨fun _=>H x _ w2 h1 h2 hb2,fun _=>H x _ w2 h1 h2 hb2⟩⟩
 have kept:∀ {w w'},Ow base w s (tab f L)→w.grownBy w' (some B)→Ow base w' s (tab f L):=fun h hg=>h.kept hg (by
  cases hk:(Sl.v s).ownBlock with
  |none=>exact .inl rfl
  |some q=>exact .inr (by rw [← hk];exact hne))
 have j2:∀ (x y z:Nat) (w2:World) (v:Int),a≤x→x<a+n→a≤y→y<a+n→a≤z→z<a+n→Row w2 B [.int .i64 v] zFp→w1.grownBy w2 (some B)→zA8 s cmp k (some ⟨B,0,none⟩) x y z w2:=by
  intro x y z w2 v h1 h2 h3 h4 h5 h6 h7 h8
  unfold zA8
  refine zJ2 hcmp (kept hO1 h8) h7 hne (by omega) (by omega) (by omega) fun q w3 v3 hq h9 h10=>j1 q w3 v3 (by omega) (by omega) h9 (zAK h8 h10)
 have e1:(a:Int)+m*1=((a+m:Nat):Int):=by omega
 have e2:(a:Int)+m*2=((a+2*m:Nat):Int):=by omega
 have e3:(a:Int)+m*3=((a+3*m:Nat):Int):=by omega
 rw [e1,e2,e3]
 refine ⟨fun h8=>⟨fun h50=>?_,fun _=>?_⟩,fun _=>j1 _ w1 _ (by omega) (by omega) hB (World.grownBy.refl _ _)⟩
 ·refine zFx hcmp hO1 hB hne (by omega) (by omega) (by omega) fun x w2 v2 hx1 hx2 hB2 hg2=>?_
  refine zFx hcmp (kept hO1 hg2) hB2 hne (by omega) (by omega) (by omega) fun y w3 v3 hy1 hy2 hB3 hg3=>?_
  refine zFx hcmp (kept hO1 (zAK hg2 hg3)) hB3 hne (by omega) (by omega) (by omega) fun z w4 v4 hz1 hz2 hB4 hg4=>?_
  exact j2 x y z w4 v4 (by omega) (by omega) (by omega) (by omega) (by omega) (by omega) hB4 (zAK (zAK hg2 hg3) hg4)
 ·exact j2 _ _ _ w1 _ (by omega) (by omega) (by omega) (by omega) (by omega) (by omega) hB (World.grownBy.refl _ _)
end
end SoCmpFunc_api_Version
end Go.Proofs.YtealcoghiaeiiaaGreat.VG
set_option linter.unusedVariables false
namespace Go.Proofs.YtealcoghiaeiiaaGreat.VG
open Go.VB Go.VB.Srt Go.Proofs
namespace SoCmpFunc_api_Version
theorem zMd {cmp:Value} {base:Nat} {w:World} {s:Sl} {L:Nat} {f:Nat→zAB} (hO:Ow base w s (tab f L)) {a b:Nat} (hA:a≤b) (hb:b≤L) {w0:World} {k:World→Prop}
  (H:∀ g w',Seg a b f g→Ow base w' s (tab g L)→w.grownBy w' (Sl.v s).ownBlock→k w'):
  Cl Tryz.prog zHK [Sl.v s,.int .i64 (a:Int),.int .i64 (b:Int),cmp].toArray w (fun e w'=>e=.returned (.tuple [].toArray)∧k w'):=by
 refine zHP s a b cmp w k ?_
 have hlen:=hO.len;have hsm:=hO.small
 rw [zDJ] at hlen
 obtain ⟨n,rfl⟩:∃ n,b=a+n:=⟨b - a,by omega⟩
 unfold zEP
 rw [wr64 (n:=((a+n:Nat):Int) - a) (by omega) (by omega),show ((a+n:Nat):Int) - a=(n:Int) by omega]
 refine ⟨fun h8=>?_,fun _=>H f w (.refl f) hO (World.grownBy.refl _ _)⟩
 refine zKd (by kernel_rfl) (by kernel_rfl) ?_
 rw [wru64 (by omega) (by omega)]
 refine zNE zJE ?_
 have hr0:=Row.new w zDj zBn
 have hb1:Bel w (w.alloc (.cells zDj.toArray zBn)):=Bel.alloc _ _
 have hO1:=hO.bel hb1
 have hne:(Sl.v s).ownBlock≠some w.heap.size:=fun e=>by have:=(hO.row.lt _ e).2;omega
 have hB0:w.heap.size≤w.heap.size:=Nat.le_refl _
 generalize hBd:w.heap.size=B at hr0 hne ⊢
 generalize (w.alloc (.cells zDj.toArray zBn))=w1 at hr0 hb1 hO1 ⊢
 refine zNZ zFB hr0 rfl rfl fun w2 hr2 hg2=>?_
 have kept:∀ {g:Nat→zAB} {w w'},Ow base w s (tab g L)→w.grownBy w' (some B)→Ow base w' s (tab g L):=fun h hg=>h.kept hg (by
  cases hk:(Sl.v s).ownBlock with
  |none=>exact .inl rfl
  |some q=>exact .inr (by rw [← hk];exact hne))
 have hO2:=kept hO1 hg2
 have hb2:Bel w w2:=hb1.grown hg2 (fun r hr=>by cases hr;omega)
 refine zPe (by omega) (by omega) fun m hm1 hm2=>?_
 have hq:(n:Int).tdiv 4=((n / 4:Nat):Int):=by rw [Int.tdiv_eq_ediv_of_nonneg (by omega)];omega
 refine zKn (by decide) (by rw [hq];omega) (by rw [hq];omega) ?_
 rw [hq]
 generalize hn4:n / 4=q
 have hq1:4*q≤n:=by omega
 have hq2:2≤q:=by omega
 rw [wr64 (n:=(q:Int)*2) (by omega) (by omega),wr64 (n:=(a:Int)+q*2) (by omega) (by omega),wr64 (n:=(a:Int)+q*2 - 1) (by omega) (by omega)]
 refine ⟨fun x w3=>∃ (i:Nat) (g:Nat→zAB) (v:Int),x=(i:Int)∧a+2*q - 1≤i∧i≤a+2*q+2∧Seg a (a+n) f g∧Ow base w3 s (tab g L)∧Row w3 B [.int .u64 v] zBn∧w.heap.size≤w3.heap.size∧w.grownBy w3 (Sl.v s).ownBlock,fun x _=>(a+2*q+3 - x).toNat,?_,?_⟩
 ·exact ⟨a+2*q - 1,f,_,by omega,by omega,by omega,.refl f,hO2,hr2,hb2.le,zAT hb2 _⟩
 rintro x w3 ⟨i,g,v,rfl,hi1,hi2,hsg,hO3,hr3,hsz3,hg3⟩
 unfold zCy
 rw [wr64 (n:=((a+n:Nat):Int) - a) (by omega) (by omega),show ((a+n:Nat):Int) - a=(n:Int) by omega]
 refine zKn (by decide) (by rw [hq];omega) (by rw [hq];omega) ?_
 rw [hq,hn4,wr64 (n:=(q:Int)*2) (by omega) (by omega),wr64 (n:=(a:Int)+q*2) (by omega) (by omega),wr64 (n:=(a:Int)+q*2+1) (by omega) (by omega)]
 refine ⟨fun hc=>?_,fun hc=>H g w3 hsg hO3 hg3⟩
 refine zPQ hr3 fun r v' w4 hr4 hg4=>?_
 have hO4:=kept hO3 hg4
 rw [wru64 (n:=(m:Int) - 1) (by omega) (by omega)]
 refine zTf (by omega) (by omega) fun z hz0 hz1=>?_
 refine zKd (by kernel_rfl) (by kernel_rfl) ?_
 rw [wr64 (n:=z) (by omega) (by omega)]
 have hgo4:w.grownBy w4 (Sl.v s).ownBlock:=by
  refine ⟨hg4.os.trans hg3.os,hg4.tape.trans hg3.tape,hg4.output.trans hg3.output,Nat.le_trans hg3.size hg4.size,fun k hk hr=>?_⟩
  exact (hg4.block k (Nat.lt_of_lt_of_le hk hg3.size) (fun e=>by have:=Option.some.inj e;omega)).trans (hg3.block k hk hr)
 have j3:∀ y:Nat,y<n→zA1 s a i (fun x11' w'=>(∃ (i:Nat) (g:Nat→zAB) (v:Int),x11'=(i:Int)∧a+2*q - 1≤i∧i≤a+2*q+2∧Seg a (a+n) f g∧Ow base w' s (tab g L)∧Row w' B [.int .u64 v] zBn∧w.heap.size≤w'.heap.size∧w.grownBy w' (Sl.v s).ownBlock)∧(a+2*q+3 - x11').toNat<(a+2*q+3 - (i:Int)).toNat) y w4:=by
  intro y hy
  unfold zA1
  rw [wr64 (n:=(a:Int)+y) (by omega) (by omega)]
  refine zEn zAa hO4 (i':=i) (j':=a+y) rfl (by omega) (by omega) (by omega) fun w5 hO5 hg5=>?_
  unfold zBa
  rw [wr64 (n:=(i:Int)+1) (by omega) (by omega)]
  exact ⟨⟨i+1,_,v',by omega,by omega,by omega,.step i (a+y) (by omega) (by omega) (by omega) (by omega) hsg,hO5,hr4.grown hg5 hne,Nat.le_trans hsz3 (Nat.le_trans hg4.size hg5.size),zAK hgo4 hg5⟩,by omega⟩
 obtain ⟨y,rfl⟩:∃ y:Nat,z=(y:Int):=⟨z.toNat,by omega⟩
 refine ⟨fun h=>?_,fun h=>j3 y (by omega)⟩
 rw [wr64 (n:=(y:Int) - n) (by omega) (by omega)]
 have:=j3 (y - n) (by omega)
 rw [show ((y - n:Nat):Int)=(y:Int) - n by omega] at this
 exact this
end SoCmpFunc_api_Version
end Go.Proofs.YtealcoghiaeiiaaGreat.VG
set_option linter.unusedVariables false
namespace Go.Proofs.YtealcoghiaeiiaaGreat.VG
open Go.VB Go.VB.Srt Go.Proofs
namespace SoCmpFunc_api_Version
section
variable {cmp:Value} {lt:zAB→zAB→Bool} (O:SWO lt) (hcmp:Cmps cmp lt) {base:Nat} {w:World} {s:Sl} {L:Nat} {f:Nat→zAB}
include O hcmp
theorem zKz (hO:Ow base w s (tab f L)) {a b:Nat} (hA:a<b) (hb:b≤L) (hpre:Pre lt a b f) {k:Bool→World→Prop}
  (H:∀ r g w',Seg a b f g→(r=true→zBm lt a b g)→Ow base w' s (tab g L)→w.grownBy w' (Sl.v s).ownBlock→k r w'):
  Cl Tryz.prog zGT [Sl.v s,.int .i64 (a:Int),.int .i64 (b:Int),cmp].toArray w (fun e w'=>∃ r0:Bool,e=.returned (.bool r0)∧k r0 w'):=by
 refine zGR s a b cmp w k ?_
 have hlen:=hO.len;have hsm:=hO.small
 rw [zDJ] at hlen
 unfold zDt
 refine ⟨fun x y w1=>∃ (i:Nat) (g:Nat→zAB),x=(i:Int)∧0≤y∧y≤5∧a+1≤i∧i≤b∧Seg a b f g∧zBm lt a i g∧Ow base w1 s (tab g L)∧w.grownBy w1 (Sl.v s).ownBlock,fun _ y _=>(5 - y).toNat,?_,?_⟩
 ·rw [wr64 (by omega) (by omega)]
  exact ⟨a+1,f,by omega,by decide,by decide,Nat.le_refl _,by omega,.refl f,zBm.small (Nat.le_refl _),hO,World.grownBy.refl _ _⟩
 rintro x y w1 ⟨i0,g0,rfl,hy0,hy5,hi1,hi2,hsg0,hso0,hO1,hg1⟩
 unfold zBc
 refine ⟨fun hc5=>?_,fun _=>H false g0 w1 hsg0 (fun h=>(nomatch h)) hO1 hg1⟩
 -- the next step
 have next:∀ (i:Nat) (g:Nat→zAB) (w2:World),a+1≤i→i≤b→Seg a b f g→zBm lt a i g→Ow base w2 s (tab g L)→w.grownBy w2 (Sl.v s).ownBlock→
   zAb y (fun x9' x10' w'=>(∃ (i:Nat) (g:Nat→zAB),x9'=(i:Int)∧0≤x10'∧x10'≤5∧a+1≤i∧i≤b∧Seg a b f g∧zBm lt a i g∧Ow base w' s (tab g L)∧w.grownBy w' (Sl.v s).ownBlock)∧(5 - x10').toNat<(5 - y).toNat) (i:Int) w2:=by
  intro i g w2 h1 h2 h3 h4 h5 h6
  unfold zAb
  rw [wr64 (by omega) (by omega)]
  exact ⟨⟨i,g,rfl,by omega,by omega,h1,h2,h3,h4,h5,h6⟩,by omega⟩
 generalize hKl:(fun (x9' x10':Int) (w':World)=>(∃ (i:Nat) (g:Nat→zAB),x9'=(i:Int)∧0≤x10'∧x10'≤5∧a+1≤i∧i≤b∧Seg a b f g∧zBm lt a i g∧Ow base w' s (tab g L)∧w.grownBy w' (Sl.v s).ownBlock)∧(5 - x10').toNat<(5 - y).toNat)=Kl at next
 have j6:∀ (i:Nat) (g:Nat→zAB) (w2:World),a+1≤i→i≤b→Seg a b f g→zBm lt a i g→Ow base w2 s (tab g L)→w.grownBy w2 (Sl.v s).ownBlock→zAU s b cmp y Kl (i:Int) w2:=by
  intro i g w2 h1 h2 h3 h4 h5 h6
  unfold zAU
  refine ⟨fun _=>?_,fun _=>next i g w2 h1 h2 h3 h4 h5 h6⟩
  rw [wr64 (n:=(i:Int)+1) (by omega) (by omega)]
  refine ⟨fun x w3=>∃ (m:Nat) (h:Nat→zAB),x=(m:Int)∧i+1≤m∧m≤b+1∧Seg a b f h∧zBm lt a i h∧Ow base w3 s (tab h L)∧w.grownBy w3 (Sl.v s).ownBlock,fun x _=>(b+1 - x).toNat,?_,?_⟩
  ·exact ⟨i+1,g,by omega,Nat.le_refl _,by omega,h3,h4,h5,h6⟩
  rintro x w3 ⟨m,h,rfl,hm1,hm2,hsg,hso,hO3,hg3⟩
  unfold zBk
  refine ⟨fun hc=>?_,fun _=>next i h w3 h1 h2 hsg hso hO3 hg3⟩
  refine zBP zAa hO3 (i':=m) rfl (by omega) ?_
  refine zBP zAa hO3 (i':=m - 1) (by rw [wr64 (by omega) (by omega)];omega) (by omega) ?_
  obtain ⟨r,hr,hl⟩:=hcmp w3 (h m) (h (m - 1))
  refine ⟨r,hr,?_⟩
  rw [zFF hl]
  intro w4 hb4
  refine ⟨fun _=>next i h w4 h1 h2 hsg hso (hO3.bel hb4) (zAK hg3 (zAT hb4 _)),fun _=>?_⟩
  refine zEn zAa (hO3.bel hb4) (i':=m) (j':=m - 1) rfl (by rw [wr64 (by omega) (by omega)];omega) (by omega) (by omega) fun w5 hO5 hg5=>?_
  unfold zAw
  rw [wr64 (n:=(m:Int)+1) (by omega) (by omega)]
  exact ⟨⟨m+1,_,by omega,by omega,by omega,.step m (m - 1) (by omega) (by omega) (by omega) (by omega) hsg,hso.congr fun q h7 h8=>swp_o h (by omega) (by omega),hO5,zAK (zAK hg3 (zAT hb4 _)) hg5⟩,by dsimp only;omega⟩
 refine ⟨fun x w2=>∃ (i:Nat) (g:Nat→zAB),x=(i:Int)∧a+1≤i∧i≤b∧Seg a b f g∧zBm lt a i g∧Ow base w2 s (tab g L)∧w.grownBy w2 (Sl.v s).ownBlock,fun x _=>(b - x).toNat,⟨i0,g0,rfl,hi1,hi2,hsg0,hso0,hO1,hg1⟩,?_⟩
 rintro x w2 ⟨i,g,rfl,hi1,hi2,hsg,hso,hO2,hg2⟩
 unfold zBj
 generalize hK3:(fun (x9_2':Int) (w':World)=>(∃ (i:Nat) (g:Nat→zAB),x9_2'=(i:Int)∧a+1≤i∧i≤b∧Seg a b f g∧zBm lt a i g∧Ow base w' s (tab g L)∧w.grownBy w' (Sl.v s).ownBlock)∧(b - x9_2').toNat<(b - (i:Int)).toNat)=K3
 have stop:∀ w3,Bel w2 w3→(i<b→lt (g i) (g (i - 1))=true)→zAz s a b cmp k y Kl (i:Int) K3 false w2:=by
  intro w3' hb3' hlt w3 hb3
  have hO3:=hO2.bel hb3
  have hg3:=zAK hg2 (zAT hb3 _)
  refine ⟨fun h=>(nomatch h),fun _=>⟨fun hib=>?_,fun hib=>⟨fun _=>H false g w3 hsg (fun h=>(nomatch h)) hO3 hg3,fun _=>?_⟩⟩⟩
  ·obtain rfl:i=b:=by omega
   exact H true g w3 hsg (fun _=>hso) hO3 hg3
  have hib':i<b:=by omega
  refine zEn zAa hO3 (i':=i) (j':=i - 1) rfl (by rw [wr64 (by omega) (by omega)];omega) (by omega) (by omega) fun w4 hO4 hg4=>?_
  have hg04:=zAK hg3 hg4
  have hsg4:Seg a b f (swp g i (i - 1)):=.step i (i - 1) (by omega) (by omega) (by omega) (by omega) hsg
  have hso4:zBm lt a (i - 1) (swp g i (i - 1)):=zBm.congr (f:=g) (fun p q h1 h2 h3=>hso p q h1 h2 (by omega)) fun q h1 h2=>swp_o g (by omega) (by omega)
  unfold zAy
  refine ⟨fun hia=>?_,fun hia=>j6 i _ w4 hi1 hi2 hsg4 (zBm.small (by rw [wr64 (by omega) (by omega)] at hia;omega)) hO4 hg04⟩
  rw [wr64 (by omega) (by omega)] at hia
  rw [wr64 (by omega) (by omega)]
  refine ⟨fun x w5=>∃ (j:Nat) (h:Nat→zAB),x=(j:Int)∧a≤j∧j≤i - 1∧Seg a b f h∧Hole lt a (i - 1) j h∧Ow base w5 s (tab h L)∧w.grownBy w5 (Sl.v s).ownBlock,fun x _=>x.toNat,⟨i - 1,_,by omega,by omega,Nat.le_refl _,hsg4,Hole.start hso4,hO4,hg04⟩,?_⟩
  rintro x w5 ⟨j,h,rfl,hj1,hj2,hsg5,hho,hO5,hg5⟩
  unfold zBi
  have out:∀ w6,Bel w5 w6→(j≤a∨Le lt (h (j - 1)) (h j))→zAU s b cmp y Kl (i:Int) w6:=by
   intro w6 hb6 hd
   have:=hho.done O hd
   rw [show i - 1+1=i by omega] at this
   exact j6 i h w6 hi1 hi2 hsg5 this (hO5.bel hb6) (zAK hg5 (zAT hb6 _))
  refine ⟨fun hc=>?_,fun hc=>out w5 (Bel.refl _) (.inl (by omega))⟩
  refine zBP zAa hO5 (i':=j) rfl (by omega) ?_
  refine zBP zAa hO5 (i':=j - 1) (by rw [wr64 (by omega) (by omega)];omega) (by omega) ?_
  obtain ⟨r,hr,hl⟩:=hcmp w5 (h j) (h (j - 1))
  refine ⟨r,hr,?_⟩
  rw [zFF hl]
  intro w6 hb6
  refine ⟨fun hn=>out w6 hb6 (.inr (show lt (h j) (h (j - 1))=false by simpa using hn)),fun hn=>?_⟩
  have hn':lt (h j) (h (j - 1))=true:=by simpa using hn
  have haj:a<j:=by
   rcases Nat.lt_or_ge a j with h1|h1
   ·exact h1
   ·obtain rfl:j=a:=by omega
    rcases hpre.seg hsg5 with h2|h2
    ·omega
    ·have:=h2 j (Nat.le_refl _) hA
     unfold Le at this
     rw [hn'] at this;cases this
  refine zEn zAa (hO5.bel hb6) (i':=j) (j':=j - 1) rfl (by rw [wr64 (by omega) (by omega)];omega) (by omega) (by omega) fun w7 hO7 hg7=>?_
  unfold zAu
  rw [wr64 (n:=(j:Int) - 1) (by omega) (by omega)]
  exact ⟨⟨j - 1,_,by omega,by omega,by omega,.step j (j - 1) (by omega) (by omega) (by omega) (by omega) hsg5,hho.step O haj hj2 hn',hO7,zAK (zAK hg5 (zAT hb6 _)) hg7⟩,by dsimp only;omega⟩
 refine ⟨fun hc=>?_,fun hc=>stop w2 (Bel.refl _) (fun h=>by omega)⟩
 refine zBP zAa hO2 (i':=i) rfl (by omega) ?_
 refine zBP zAa hO2 (i':=i - 1) (by rw [wr64 (by omega) (by omega)];omega) (by omega) ?_
 obtain ⟨r,hr,hl⟩:=hcmp w2 (g i) (g (i - 1))
 refine ⟨r,hr,?_⟩
 rw [zFF hl]
 cases hlt:lt (g i) (g (i - 1)) with
 |true=>exact stop w2 (Bel.refl _) (fun _=>hlt)
 |false=>
  intro w3 hb3
  refine ⟨fun _=>?_,fun h=>(nomatch h)⟩
  rw [wr64 (n:=(i:Int)+1) (by omega) (by omega),← hK3]
  exact ⟨⟨i+1,g,by omega,by omega,by omega,hsg,hso.snoc O (by omega) hlt,hO2.bel hb3,zAK hg2 (zAT hb3 _)⟩,by omega⟩
end
end SoCmpFunc_api_Version
end Go.Proofs.YtealcoghiaeiiaaGreat.VG
set_option linter.unusedVariables false
namespace Go.Proofs.YtealcoghiaeiiaaGreat.VG
open Go.VB Go.VB.Srt Go.Proofs
namespace SoCmpFunc_api_Version
section
variable {cmp:Value} {lt:zAB→zAB→Bool} (O:SWO lt) (hcmp:Cmps cmp lt) {base:Nat} {w:World} {s:Sl} {L:Nat} {f:Nat→zAB}
include O hcmp
theorem zMg (hO:Ow base w s (tab f L)) {a b p:Nat} (hA:a≤p) (hp:p<b) (hb:b≤L) {k:Int→World→Prop}
  (H:∀ (m:Nat) g w',a<m→m≤b→Seg a b f g→(∀ q,a≤q→q<m→Le lt (g q) (f p))→Ow base w' s (tab g L)→w.grownBy w' (Sl.v s).ownBlock→k m w'):
  Cl Tryz.prog zHG [Sl.v s,.int .i64 (a:Int),.int .i64 (b:Int),.int .i64 (p:Int),cmp].toArray w (fun e w'=>∃ r0:Int,e=.returned (.int .i64 r0)∧k r0 w'):=by
 refine zHF s a b p cmp w k ?_
 have hlen:=hO.len;have hsm:=hO.small
 rw [zDJ] at hlen
 unfold zEJ
 refine zEn zAa hO (i':=a) (j':=p) rfl rfl (by omega) (by omega) fun w1 hO1 hg1=>?_
 have hs1:Seg a b f (swp f a p):=Seg.one f (by omega) (by omega) (by omega) (by omega)
 have ha1:swp f a p a=f p:=swp_i f a p
 generalize (swp f a p)=f1 at hO1 hs1 ha1
 unfold zBQ
 rw [wr64 (n:=(a:Int)+1) (by omega) (by omega),wr64 (n:=(b:Int) - 1) (by omega) (by omega)]
 refine ⟨fun x y w2=>∃ (i j:Nat) (g:Nat→zAB),x=(i:Int)∧y=(j:Int)∧a<i∧a≤j∧i≤j+1∧j<b∧Seg a b f g∧g a=f p∧Pt (fun q z=>!(lt q z)) a b i j g∧Ow base w2 s (tab g L)∧w.grownBy w2 (Sl.v s).ownBlock,fun x y _=>(y+1 - x).toNat,?_,?_⟩
 ·exact ⟨a+1,b - 1,f1,by omega,by omega,by omega,by omega,by omega,by omega,hs1,ha1,Pt.start _ a b f1,hO1,hg1⟩
 rintro x y w2 ⟨i0,j0,g,rfl,rfl,hi0,hj0,hij0,hjb,hsg,hga,hpt0,hO2,hg2⟩
 unfold zCm
 generalize hKl2:(fun (x11' x12':Int) (w':World)=>(∃ (i j:Nat) (g:Nat→zAB),x11'=(i:Int)∧x12'=(j:Int)∧a<i∧a≤j∧i≤j+1∧j<b∧Seg a b f g∧g a=f p∧Pt (fun q z=>!(lt q z)) a b i j g∧Ow base w' s (tab g L)∧w.grownBy w' (Sl.v s).ownBlock)∧(x12'+1 - x11').toNat<((j0:Int)+1 - (i0:Int)).toNat)=Kl2
 refine ⟨fun x w3=>∃ i:Nat,x=(i:Int)∧i0≤i∧i≤j0+1∧Pt (fun q z=>!(lt q z)) a b i j0 g∧Bel w2 w3,fun x _=>(j0+1 - x).toNat,⟨i0,rfl,Nat.le_refl _,hij0,hpt0,Bel.refl _⟩,?_⟩
 rintro x w3 ⟨i,rfl,hi1,hi2,hpt,hb3⟩
 have hO3:=hO2.bel hb3
 unfold zCn
 generalize hKl3:(fun (x11_1':Int) (w':World)=>(∃ i:Nat,x11_1'=(i:Int)∧i0≤i∧i≤j0+1∧Pt (fun q z=>!(lt q z)) a b i j0 g∧Bel w2 w')∧(j0+1 - x11_1').toNat<((j0:Int)+1 - (i:Int)).toNat)=Kl3
 -- from above
 have down:∀ w4,Bel w3 w4→(i≤j0→lt (g a) (g i)=true)→zBV s a cmp k (j0:Int) Kl2 (i:Int) Kl3 false w3:=by
  intro w4' hb4' hlti w4 hb4
  refine ⟨fun h=>(nomatch h),fun _=>?_⟩
  refine ⟨fun y w5=>∃ j:Nat,y=(j:Int)∧a≤j∧i≤j+1∧j≤j0∧Pt (fun q z=>!(lt q z)) a b i j g∧Bel w2 w5,fun y _=>y.toNat,⟨j0,rfl,hj0,hi2,Nat.le_refl _,hpt,hb3.trans hb4⟩,?_⟩
  rintro y w5 ⟨j,rfl,hj1,hj2,hj3,hptj,hb5⟩
  have hO5:=hO2.bel hb5
  unfold zCo
  generalize hKl5:(fun (x12_1':Int) (w':World)=>(∃ j:Nat,x12_1'=(j:Int)∧a≤j∧i≤j+1∧j≤j0∧Pt (fun q z=>!(lt q z)) a b i j g∧Bel w2 w')∧x12_1'.toNat<((j:Int)).toNat)=Kl5
  have stop:(i≤j→lt (g a) (g j)=false)→zBX s k Kl2 (i:Int) (j:Int) Kl5 false w5:=by
   intro hltj w6 hb6
   have hO6:=hO5.bel hb6
   have hg6:=zAK hg2 (zAT (hb5.trans hb6) (Sl.v s).ownBlock)
   refine ⟨fun h=>(nomatch h),fun _=>⟨fun hc=>?_,fun hc=>?_⟩⟩
   ·refine H i g w6 (by omega) (by omega) hsg (fun q h1 h2=>?_) hO6 hg6
    rw [← hga]
    by_cases hq:q=a
    ·rw [hq];exact O.refl _
    ·have:=hptj.lo q (by omega) h2
     unfold Le;simpa using this
   ·have hij:i<j:=by
     rcases Nat.lt_or_ge i j with h1|h1
     ·exact h1
     ·obtain rfl:i=j:=by omega
      have h2:=hlti (by omega)
      have h3:=hltj (Nat.le_refl _)
      rw [h2] at h3;cases h3
    refine zEn zAa hO6 (i':=i) (j':=j) rfl rfl (by omega) (by omega) fun w7 hO7 hg7=>?_
    unfold zBS
    rw [wr64 (n:=(i:Int)+1) (by omega) (by omega),wr64 (n:=(j:Int) - 1) (by omega) (by omega),← hKl2]
    exact ⟨⟨i+1,j - 1,_,by omega,by omega,by omega,by omega,by omega,by omega,.step i j (by omega) (by omega) (by omega) (by omega) hsg,by rw [swp_o g (by omega) (by omega)];exact hga,
     hptj.swap (by omega) hij (by simp [hlti (by omega)]) (by simp [hltj (by omega)]),hO7,zAK hg6 hg7⟩,by omega⟩
  refine ⟨fun hc=>?_,fun hc=>stop (fun h=>by omega)⟩
  refine zBP zAa hO5 (i':=a) rfl (by omega) ?_
  refine zBP zAa hO5 (i':=j) rfl (by omega) ?_
  obtain ⟨r,hr,hl⟩:=hcmp w5 (g a) (g j)
  refine ⟨r,hr,?_⟩
  rw [zFF hl]
  cases hlt:lt (g a) (g j) with
  |false=>exact stop (fun _=>hlt)
  |true=>
   intro w6 hb6
   refine ⟨fun _=>?_,fun h=>(nomatch h)⟩
   rw [wr64 (n:=(j:Int) - 1) (by omega) (by omega),← hKl5]
   exact ⟨⟨j - 1,by omega,by omega,by omega,by omega,hptj.decr (by simp [hlt]),hb5.trans hb6⟩,by omega⟩
 refine ⟨fun hc=>?_,fun hc=>down w3 (Bel.refl _) (fun h=>by omega)⟩
 refine zBP zAa hO3 (i':=a) rfl (by omega) ?_
 refine zBP zAa hO3 (i':=i) rfl (by omega) ?_
 obtain ⟨r,hr,hl⟩:=hcmp w3 (g a) (g i)
 refine ⟨r,hr,?_⟩
 rw [zFF hl]
 cases hlt:lt (g a) (g i) with
 |true=>exact down w3 (Bel.refl _) (fun _=>hlt)
 |false=>
  intro w4 hb4
  refine ⟨fun _=>?_,fun h=>(nomatch h)⟩
  rw [wr64 (n:=(i:Int)+1) (by omega) (by omega),← hKl3]
  exact ⟨⟨i+1,by omega,by omega,by omega,hpt.incr (by simp [hlt]),hb3.trans hb4⟩,by omega⟩
theorem zNS (hO:Ow base w s (tab f L)) {a b p:Nat} (hA:a≤p) (hp:p<b) (hb:b≤L) {k:Int→Bool→World→Prop}
  (H:∀ (m:Nat) (r:Bool) g w',a≤m→m<b→Seg a b f g→zLG lt a b m g→Ow base w' s (tab g L)→w.grownBy w' (Sl.v s).ownBlock→k m r w'):
  Cl Tryz.prog zIQ [Sl.v s,.int .i64 (a:Int),.int .i64 (b:Int),.int .i64 (p:Int),cmp].toArray w (fun e w'=>∃ (r0:Int) (r1:Bool),e=.returned (.tuple [.int .i64 r0,.bool r1].toArray)∧k r0 r1 w'):=by
 refine zIK s a b p cmp w k ?_
 have hlen:=hO.len;have hsm:=hO.small
 rw [zDJ] at hlen
 unfold zEs
 refine zEn zAa hO (i':=a) (j':=p) rfl rfl (by omega) (by omega) fun w1 hO1 hg1=>?_
 have hs1:Seg a b f (swp f a p):=Seg.one f (by omega) (by omega) (by omega) (by omega)
 generalize (swp f a p)=f1 at hO1 hs1
 unfold zCb
 rw [wr64 (n:=(a:Int)+1) (by omega) (by omega)]
 have hbm:IntKind.wrap .i64 ((b:Int) - 1)=((b - 1:Nat):Int):=by rw [wr64 (by omega) (by omega)];omega
 -- the main loop,from i,j on
 have main:∀ (i0 j0:Nat) (g0:Nat→zAB) (w0:World),a<i0→a≤j0→i0≤j0+1→j0<b→Seg a b f g0→Pt (fun q z=>lt z q) a b i0 j0 g0→Ow base w0 s (tab g0 L)→w.grownBy w0 (Sl.v s).ownBlock→
   ∃ (I:Int→Int→World→Prop) (μ:Int→Int→World→Nat),I (i0:Int) (j0:Int) w0∧∀ (x12_1:Int) (x13_1:Int) w,I x12_1 x13_1 w→zCO s a cmp k x12_1 x13_1 w (fun x12_1' x13_1' w'=>I x12_1' x13_1' w'∧μ x12_1' x13_1' w'<μ x12_1 x13_1 w):=by
  intro i0 j0 g0 w0 h1 h2 h3 h4 h5 h6 h7 h8
  refine ⟨fun x y w2=>∃ (i j:Nat) (g:Nat→zAB),x=(i:Int)∧y=(j:Int)∧a<i∧a≤j∧i≤j+1∧j<b∧Seg a b f g∧Pt (fun q z=>lt z q) a b i j g∧Ow base w2 s (tab g L)∧w.grownBy w2 (Sl.v s).ownBlock,fun x y _=>(y+1 - x).toNat,⟨i0,j0,g0,rfl,rfl,h1,h2,h3,h4,h5,h6,h7,h8⟩,?_⟩
  rintro x y w2 ⟨i0,j0,g,rfl,rfl,hi0,hj0,hij0,hjb,hsg,hpt0,hO2,hg2⟩
  unfold zCO
  generalize hKl8:(fun (x12' x13':Int) (w':World)=>(∃ (i j:Nat) (g:Nat→zAB),x12'=(i:Int)∧x13'=(j:Int)∧a<i∧a≤j∧i≤j+1∧j<b∧Seg a b f g∧Pt (fun q z=>lt z q) a b i j g∧Ow base w' s (tab g L)∧w.grownBy w' (Sl.v s).ownBlock)∧(x13'+1 - x12').toNat<((j0:Int)+1 - (i0:Int)).toNat)=Kl8
  refine ⟨fun x w3=>∃ i:Nat,x=(i:Int)∧i0≤i∧i≤j0+1∧Pt (fun q z=>lt z q) a b i j0 g∧Bel w2 w3,fun x _=>(j0+1 - x).toNat,⟨i0,rfl,Nat.le_refl _,hij0,hpt0,Bel.refl _⟩,?_⟩
  rintro x w3 ⟨i,rfl,hi1,hi2,hpt,hb3⟩
  have hO3:=hO2.bel hb3
  unfold zDg
  generalize hKl9:(fun (x12_2':Int) (w':World)=>(∃ i:Nat,x12_2'=(i:Int)∧i0≤i∧i≤j0+1∧Pt (fun q z=>lt z q) a b i j0 g∧Bel w2 w')∧(j0+1 - x12_2').toNat<((j0:Int)+1 - (i:Int)).toNat)=Kl9
  have down:(i≤j0→lt (g i) (g a)=false)→zCM s a cmp k (j0:Int) Kl8 (i:Int) Kl9 false w3:=by
   intro hlti w4 hb4
   refine ⟨fun h=>(nomatch h),fun _=>?_⟩
   refine ⟨fun y w5=>∃ j:Nat,y=(j:Int)∧a≤j∧i≤j+1∧j≤j0∧Pt (fun q z=>lt z q) a b i j g∧Bel w2 w5,fun y _=>y.toNat,⟨j0,rfl,hj0,hi2,Nat.le_refl _,hpt,hb3.trans hb4⟩,?_⟩
   rintro y w5 ⟨j,rfl,hj1,hj2,hj3,hptj,hb5⟩
   have hO5:=hO2.bel hb5
   unfold zDS
   generalize hKl11:(fun (x13_2':Int) (w':World)=>(∃ j:Nat,x13_2'=(j:Int)∧a≤j∧i≤j+1∧j≤j0∧Pt (fun q z=>lt z q) a b i j g∧Bel w2 w')∧x13_2'.toNat<((j:Int)).toNat)=Kl11
   have stop:(i≤j→lt (g j) (g a)=true)→zCP s a k Kl8 (i:Int) (j:Int) Kl11 false w5:=by
    intro hltj w6 hb6
    have hO6:=hO5.bel hb6
    have hg6:=zAK hg2 (zAT (hb5.trans hb6) (Sl.v s).ownBlock)
    refine ⟨fun h=>(nomatch h),fun _=>⟨fun hc=>?_,fun hc=>?_⟩⟩
    ·refine zEn zAa hO6 (i':=j) (j':=a) rfl rfl (by omega) (by omega) fun w7 hO7 hg7=>?_
     unfold zCS
     exact H j false _ w7 hj1 (by omega) (.step j a (by omega) (by omega) (by omega) (by omega) hsg) (hptj.done O hj1 (by omega)) hO7 (zAK hg6 hg7)
    ·have hij:i<j:=by
      rcases Nat.lt_or_ge i j with h1|h1
      ·exact h1
      ·obtain rfl:i=j:=by omega
       have h2:=hlti (by omega)
       have h3:=hltj (Nat.le_refl _)
       rw [h2] at h3;cases h3
     refine zEn zAa hO6 (i':=i) (j':=j) rfl rfl (by omega) (by omega) fun w7 hO7 hg7=>?_
     unfold zCQ
     rw [wr64 (n:=(i:Int)+1) (by omega) (by omega),wr64 (n:=(j:Int) - 1) (by omega) (by omega),← hKl8]
     exact ⟨⟨i+1,j - 1,_,by omega,by omega,by omega,by omega,by omega,by omega,.step i j (by omega) (by omega) (by omega) (by omega) hsg,
      hptj.swap (by omega) hij (hlti (by omega)) (hltj (by omega)),hO7,zAK hg6 hg7⟩,by omega⟩
   refine ⟨fun hc=>?_,fun hc=>stop (fun h=>by omega)⟩
   refine zBP zAa hO5 (i':=j) rfl (by omega) ?_
   refine zBP zAa hO5 (i':=a) rfl (by omega) ?_
   obtain ⟨r,hr,hl⟩:=hcmp w5 (g j) (g a)
   refine ⟨r,hr,?_⟩
   rw [zFF hl]
   cases hlt:lt (g j) (g a) with
   |true=>exact stop (fun _=>hlt)
   |false=>
    intro w6 hb6
    refine ⟨fun _=>?_,fun h=>(nomatch h)⟩
    rw [wr64 (n:=(j:Int) - 1) (by omega) (by omega),← hKl11]
    exact ⟨⟨j - 1,by omega,by omega,by omega,by omega,hptj.decr hlt,hb5.trans hb6⟩,by omega⟩
  refine ⟨fun hc=>?_,fun hc=>down (fun h=>by omega)⟩
  refine zBP zAa hO3 (i':=i) rfl (by omega) ?_
  refine zBP zAa hO3 (i':=a) rfl (by omega) ?_
  obtain ⟨r,hr,hl⟩:=hcmp w3 (g i) (g a)
  refine ⟨r,hr,?_⟩
  rw [zFF hl]
  cases hlt:lt (g i) (g a) with
  |false=>exact down (fun _=>hlt)
  |true=>
   intro w4 hb4
   refine ⟨fun _=>?_,fun h=>(nomatch h)⟩
   rw [wr64 (n:=(i:Int)+1) (by omega) (by omega),← hKl9]
   exact ⟨⟨i+1,by omega,by omega,by omega,hpt.incr hlt,hb3.trans hb4⟩,by omega⟩
 -- ahead of it: from below,then from above
 refine ⟨fun x w3=>∃ i:Nat,x=(i:Int)∧a<i∧i≤b - 1+1∧Pt (fun q z=>lt z q) a b i (b - 1) f1∧Bel w1 w3,fun x _=>(b+1 - x).toNat,⟨a+1,by omega,by omega,by omega,Pt.start _ a b f1,Bel.refl _⟩,?_⟩
 rintro x w3 ⟨i,rfl,hi1,hi2,hpt,hb3⟩
 have hO3:=hO1.bel hb3
 unfold zDf
 generalize hKl2:(fun (x12':Int) (w':World)=>(∃ i:Nat,x12'=(i:Int)∧a<i∧i≤b - 1+1∧Pt (fun q z=>lt z q) a b i (b - 1) f1∧Bel w1 w')∧(b+1 - x12').toNat<((b:Int)+1 - (i:Int)).toNat)=Kl2
 rw [hbm]
 have down:(i≤b - 1→lt (f1 i) (f1 a)=false)→zBL s a b cmp k (i:Int) Kl2 false w3:=by
  intro hlti
  unfold zBL
  intro w4 hb4
  refine ⟨fun h=>(nomatch h),fun _=>?_⟩
  rw [hbm]
  refine ⟨fun y w5=>∃ j:Nat,y=(j:Int)∧a≤j∧i≤j+1∧j≤b - 1∧Pt (fun q z=>lt z q) a b i j f1∧Bel w1 w5,fun y _=>y.toNat,⟨b - 1,rfl,by omega,hi2,Nat.le_refl _,hpt,hb3.trans hb4⟩,?_⟩
  rintro y w5 ⟨j,rfl,hj1,hj2,hj3,hptj,hb5⟩
  have hO5:=hO1.bel hb5
  unfold zDd
  generalize hKl4:(fun (x13':Int) (w':World)=>(∃ j:Nat,x13'=(j:Int)∧a≤j∧i≤j+1∧j≤b - 1∧Pt (fun q z=>lt z q) a b i j f1∧Bel w1 w')∧x13'.toNat<((j:Int)).toNat)=Kl4
  have stop:(i≤j→lt (f1 j) (f1 a)=true)→zCc s a cmp k (i:Int) (j:Int) Kl4 false w5:=by
   intro hltj w6 hb6
   have hO6:=hO5.bel hb6
   have hg6:=zAK hg1 (zAT (hb5.trans hb6) (Sl.v s).ownBlock)
   refine ⟨fun h=>(nomatch h),fun _=>⟨fun hc=>?_,fun hc=>?_⟩⟩
   ·refine zEn zAa hO6 (i':=j) (j':=a) rfl rfl (by omega) (by omega) fun w7 hO7 hg7=>?_
    unfold zCd
    exact H j true _ w7 hj1 (by omega) (.step j a (by omega) (by omega) (by omega) (by omega) hs1) (hptj.done O hj1 (by omega)) hO7 (zAK hg6 hg7)
   ·have hij:i<j:=by
     rcases Nat.lt_or_ge i j with h1|h1
     ·exact h1
     ·obtain rfl:i=j:=by omega
      have h2:=hlti (by omega)
      have h3:=hltj (Nat.le_refl _)
      rw [h2] at h3;cases h3
    refine zEn zAa hO6 (i':=i) (j':=j) rfl rfl (by omega) (by omega) fun w7 hO7 hg7=>?_
    unfold zCa
    rw [wr64 (n:=(i:Int)+1) (by omega) (by omega),wr64 (n:=(j:Int) - 1) (by omega) (by omega),show (i:Int)+1=((i+1:Nat):Int) by omega,show (j:Int) - 1=((j - 1:Nat):Int) by omega]
    exact main (i+1) (j - 1) _ w7 (by omega) (by omega) (by omega) (by omega) (.step i j (by omega) (by omega) (by omega) (by omega) hs1) (hptj.swap (by omega) hij (hlti (by omega)) (hltj (by omega))) hO7 (zAK hg6 hg7)
  refine ⟨fun hc=>?_,fun hc=>stop (fun h=>by omega)⟩
  refine zBP zAa hO5 (i':=j) rfl (by omega) ?_
  refine zBP zAa hO5 (i':=a) rfl (by omega) ?_
  obtain ⟨r,hr,hl⟩:=hcmp w5 (f1 j) (f1 a)
  refine ⟨r,hr,?_⟩
  rw [zFF hl]
  cases hlt:lt (f1 j) (f1 a) with
  |true=>exact stop (fun _=>hlt)
  |false=>
   intro w6 hb6
   refine ⟨fun _=>?_,fun h=>(nomatch h)⟩
   rw [wr64 (n:=(j:Int) - 1) (by omega) (by omega),← hKl4]
   exact ⟨⟨j - 1,by omega,by omega,by omega,by omega,hptj.decr hlt,hb5.trans hb6⟩,by omega⟩
 refine ⟨fun hc=>?_,fun hc=>down (fun h=>by omega)⟩
 refine zBP zAa hO3 (i':=i) rfl (by omega) ?_
 refine zBP zAa hO3 (i':=a) rfl (by omega) ?_
 obtain ⟨r,hr,hl⟩:=hcmp w3 (f1 i) (f1 a)
 refine ⟨r,hr,?_⟩
 rw [zFF hl]
 cases hlt:lt (f1 i) (f1 a) with
 |false=>exact down (fun _=>hlt)
 |true=>
  intro w4 hb4
  refine ⟨fun _=>?_,fun h=>(nomatch h)⟩
  rw [wr64 (n:=(i:Int)+1) (by omega) (by omega),← hKl2]
  exact ⟨⟨i+1,by omega,by omega,by omega,hpt.incr hlt,hb3.trans hb4⟩,by omega⟩
end
end SoCmpFunc_api_Version
end Go.Proofs.YtealcoghiaeiiaaGreat.VG
set_option linter.unusedVariables false
namespace Go.Proofs.YtealcoghiaeiiaaGreat.VG
open Go.VB Go.VB.Srt Go.Proofs
namespace SoCmpFunc_api_Version
section
variable {cmp:Value} {lt:zAB→zAB→Bool} (O:SWO lt) (hcmp:Cmps cmp lt) {base:Nat}
include O hcmp
theorem zNC:∀ (n:Nat) {w:World} {s:Sl} {L:Nat} {f:Nat→zAB} (hO:Ow base w s (tab f L)) {a b:Nat} (hab:a≤b) (hn:b - a≤n) (hb:b≤L) (hpre:Pre lt a b f) (lim:Int) {k:World→Prop}
  (H:∀ g w',Seg a b f g→zBm lt a b g→Ow base w' s (tab g L)→w.grownBy w' (Sl.v s).ownBlock→k w'),
  Cl Tryz.prog zIo [Sl.v s,.int .i64 (a:Int),.int .i64 (b:Int),.int .i64 lim,cmp].toArray w (fun e w'=>e=.returned (.tuple [].toArray)∧k w'):=by
 intro n
 induction n with
 |zero=>
  intro w s L f hO a b hab hn hb hpre lim k H
  refine zGG s a b lim cmp w k ?_
  have hlen:=hO.len;have hsm:=hO.small
  rw [zDJ] at hlen
  unfold zEF
  refine ⟨fun x y _ _ _ w1=>x=(a:Int)∧y=(b:Int)∧w1=w,fun _ _ _ _ _ _=>0,⟨rfl,rfl,rfl⟩,?_⟩
  rintro x y z p q w1 ⟨rfl,rfl,rfl⟩
  unfold zCh
  rw [wr64 (n:=(b:Int) - a) (by omega) (by omega)]
  refine ⟨fun _=>?_,fun h=>by omega⟩
  exact zG9 O hcmp hO hab hb H
 |succ n ih=>
  intro w s L f hO a b hab hn hb hpre lim k H
  refine zGG s a b lim cmp w k ?_
  have hlen:=hO.len;have hsm:=hO.small
  rw [zDJ] at hlen
  unfold zEF
  refine ⟨fun x y _ _ _ w1=>∃ (a1 b1:Nat) (g:Nat→zAB),x=(a1:Int)∧y=(b1:Int)∧a1≤b1∧Inv lt a b a1 b1 f g∧Ow base w1 s (tab g L)∧w.grownBy w1 (Sl.v s).ownBlock,fun x y _ _ _ _=>(y - x).toNat,⟨a,b,f,rfl,rfl,hab,Inv.start a b f,hO,World.grownBy.refl _ _⟩,?_⟩
  rintro x y z p q w1 ⟨a1,b1,g,rfl,rfl,hab1,hinv,hO1,hg1⟩
  have hA:=hinv.ha;have hB:=hinv.hb
  unfold zCh
  generalize hKl:(fun (x1_1' x2_1' x3_1':Int) (x10' x11':Bool) (w':World)=>(∃ (a1 b1:Nat) (g:Nat→zAB),x1_1'=(a1:Int)∧x2_1'=(b1:Int)∧a1≤b1∧Inv lt a b a1 b1 f g∧Ow base w' s (tab g L)∧w.grownBy w' (Sl.v s).ownBlock)∧(x2_1' - x1_1').toNat<((b1:Int) - (a1:Int)).toNat)=Kl
  have hwn:IntKind.wrap .i64 ((b1:Int) - a1)=(b1:Int) - a1:=wr64 (by omega) (by omega)
  rw [hwn]
  have fin:∀ (h:Nat→zAB) (w2:World),Seg a1 b1 g h→zBm lt a1 b1 h→Ow base w2 s (tab h L)→w1.grownBy w2 (Sl.v s).ownBlock→k w2:=fun h w2 h1 h2 h3 h4=>
   H h w2 (hinv.turn h1).seg ((hinv.turn h1).fin h2) h3 (zAK hg1 h4)
  refine ⟨fun _=>zG9 O hcmp hO1 hab1 (by omega) fin,fun hc=>⟨fun _=>zNw O hcmp hO1 hab1 (by omega) fin,fun _=>?_⟩⟩
  have hlt:a1<b1:=by omega
  -- what is left,about a place
  have j4:∀ (h:Nat→zAB) (w2:World) (lim:Int) (v:Nat),Seg a1 b1 g h→Ow base w2 s (tab h L)→w1.grownBy w2 (Sl.v s).ownBlock→a1≤v→v<b1→zBh s cmp (a1:Int) (b1:Int) p q Kl lim (v:Int) w2:=by
   intro h w2 lim v hs2 hO2 hg2 hv1 hv2
   have hinv2:=hinv.turn hs2
   have hg02:=zAK hg1 hg2
   have away:∀ w3,Bel w2 w3→zCr s cmp (a1:Int) (b1:Int) p q Kl lim (v:Int) false w2:=by
    intro w3' hb3'
    intro w3 hb3
    refine ⟨fun h=>(nomatch h),fun _=>?_⟩
    have hg03:=zAK hg02 (zAT hb3 (Sl.v s).ownBlock)
    refine zNS O hcmp (hO2.bel hb3) hv1 hv2 (by omega) fun m r h4 w4 hm1 hm2 hs4 hpk hO4 hg4=>?_
    have hinv4:=hinv2.turn hs4
    have hg04:=zAK hg03 hg4
    refine zKn (by decide) (by rw [hwn,Int.tdiv_eq_ediv_of_nonneg (by omega)];omega) (by rw [hwn,Int.tdiv_eq_ediv_of_nonneg (by omega)];omega) ?_
    rw [wr64 (n:=(m:Int) - a1) (by omega) (by omega),wr64 (n:=(b1:Int) - m) (by omega) (by omega),wr64 (n:=(m:Int)+1) (by omega) (by omega),show (m:Int)+1=((m+1:Nat):Int) by omega]
    refine ⟨fun _=>?_,fun _=>?_⟩
    ·refine ih hO4 hm1 (by omega) (by omega) (a:=a1) (b:=m) (by
      rcases hinv4.pre hpre with h5|h5
      ·exact .inl h5
      ·exact .inr fun k h6 h7=>h5 k h6 (by omega)) lim fun h5 w5 hs5 hso5 hO5 hg5=>?_
     have hs5':Seg a1 b1 h4 h5:=hs5.mono (Nat.le_refl _) (by omega)
     rw [← hKl]
     exact ⟨⟨m+1,b1,h5,rfl,rfl,by omega,(hinv4.turn hs5').goRight hm1 hm2 O (hpk.left hs5) hso5,hO5,zAK hg04 hg5⟩,by omega⟩
    ·refine ih hO4 (a:=m+1) (b:=b1) (by omega) (by omega) (by omega) (.inr fun k h6 h7=>hpk.hi k (by omega) h7) lim fun h5 w5 hs5 hso5 hO5 hg5=>?_
     have hs5':Seg a1 b1 h4 h5:=hs5.mono (by omega) (Nat.le_refl _)
     rw [← hKl]
     exact ⟨⟨a1,m,h5,rfl,rfl,hm1,(hinv4.turn hs5').goLeft hm1 hm2 O (hpk.right hs5) hso5,hO5,zAK hg04 hg5⟩,by omega⟩
   unfold zBh
   refine ⟨fun ha0=>?_,fun _=>away w2 (Bel.refl _)⟩
   refine zBP zAa hO2 (i':=a1 - 1) (by rw [wr64 (by omega) (by omega)];omega) (by omega) ?_
   refine zBP zAa hO2 (i':=v) rfl (by omega) ?_
   obtain ⟨r,hr,hl⟩:=hcmp w2 (h (a1 - 1)) (h v)
   refine ⟨r,hr,?_⟩
   rw [zFF hl]
   cases hlv:lt (h (a1 - 1)) (h v) with
   |true=>exact away w2 (Bel.refl _)
   |false=>
    intro w3 hb3
    refine ⟨fun _=>?_,fun h=>(nomatch h)⟩
    have hg03:=zAK hg02 (zAT hb3 (Sl.v s).ownBlock)
    refine zMg O hcmp (hO2.bel hb3) hv1 hv2 (by omega) fun m h4 w4 hm1 hm2 hs4 heq hO4 hg4=>?_
    have hinv4:=hinv2.turn hs4
    rw [← hKl]
    have hpre4:=hinv4.pre hpre
    refine ⟨⟨m,b1,h4,rfl,rfl,hm2,hinv4.goEqual (by omega) hm2 O (v:=h4 (a1 - 1)) (fun q h1 h2=>?_) (fun q h1 h2=>?_),hO4,zAK hg03 hg4⟩,by omega⟩
    ·rw [hs4.out (a1 - 1) (.inl (by omega))]
     exact O.trans (heq q h1 h2) hlv
    ·rcases hpre4 with h5|h5
     ·omega
     ·exact h5 q h1 h2
  have j3:∀ (h:Nat→zAB) (w2:World) (lim hint:Int) (v:Nat),Seg a1 b1 g h→Ow base w2 s (tab h L)→w1.grownBy w2 (Sl.v s).ownBlock→a1≤v→v<b1→zBf s cmp k (a1:Int) (b1:Int) p q Kl lim (v:Int) hint w2:=by
   intro h w2 lim hint v hs2 hO2 hg2 hv1 hv2
   have r7f:zBe s cmp k (a1:Int) (b1:Int) p q Kl lim (v:Int) false w2:=⟨fun h=>(nomatch h),fun _=>j4 h w2 lim v hs2 hO2 hg2 hv1 hv2⟩
   have r7t:zBe s cmp k (a1:Int) (b1:Int) p q Kl lim (v:Int) true w2:=by
    refine ⟨fun _=>?_,fun h=>(nomatch h)⟩
    refine zKz O hcmp hO2 hlt (by omega) ((hinv.turn hs2).pre hpre) fun r h3 w3 hs3 hso3 hO3 hg3=>?_
    exact ⟨fun ht=>fin h3 w3 (hs2.trans hs3) (hso3 ht) hO3 (zAK hg2 hg3),fun _=>j4 h3 w3 lim v (hs2.trans hs3) hO3 (zAK hg2 hg3) hv1 hv2⟩
   have r6:∀ c:Bool,zCz s cmp k (a1:Int) (b1:Int) p q Kl lim (v:Int) hint c w2:=by
    intro c
    refine ⟨fun _=>?_,fun _=>r7f⟩
    by_cases hh:hint=1
    ·rw [decide_eq_true hh];exact r7t
    ·rw [decide_eq_false hh];exact r7f
   unfold zBf
   exact ⟨fun _=>r6 q,fun _=>r6 false⟩
  have j2:∀ (h:Nat→zAB) (w2:World) (lim:Int),Seg a1 b1 g h→Ow base w2 s (tab h L)→w1.grownBy w2 (Sl.v s).ownBlock→zBd s cmp k (a1:Int) (b1:Int) p q Kl lim w2:=by
   intro h w2 lim hs2 hO2 hg2
   unfold zBd
   refine zMh hcmp hO2 hlt (by omega) fun v hint w3 hv1 hv2 hb3=>?_
   have hg3:=zAK hg2 (zAT hb3 (Sl.v s).ownBlock)
   refine ⟨fun _=>?_,fun _=>j3 h w3 lim hint v hs2 (hO2.bel hb3) hg3 hv1 hv2⟩
   refine zK1 (hO2.bel hb3) hab1 (by omega) fun h4 w4 hs4 hO4 hg4=>?_
   rw [wr64 (n:=(b1:Int) - 1) (by omega) (by omega),wr64 (n:=(v:Int) - a1) (by omega) (by omega),wr64 (by omega) (by omega),show (b1:Int) - 1 - (v - a1)=((b1 - 1 - (v - a1):Nat):Int) by omega]
   exact j3 h4 w4 lim 1 _ (hs2.trans hs4) hO4 (zAK hg3 hg4) (by omega) (by omega)
  refine ⟨fun _=>?_,fun _=>j2 g w1 _ (.refl g) hO1 (World.grownBy.refl _ _)⟩
  exact zMd (w0:=w) hO1 hab1 (by omega) fun h w2 hs2 hO2 hg2=>j2 h w2 _ hs2 hO2 hg2
theorem sort_ok {w:World} {s:Sl} {xs:List zAB} (hO:Ow base w s xs) {k:World→Prop}
  (H:∀ ys w',ys.Perm xs→ys.Pairwise (fun x y=>Le lt x y)→Ow base w' s ys→w.grownBy w' (Sl.v s).ownBlock→k w'):
  Cl Tryz.prog zHL [Sl.v s,cmp].toArray w (fun e w'=>e=.returned (.tuple [].toArray)∧k w'):=by
 refine zHI s cmp w k ?_
 have hlen:=hO.len;have hsm:=hO.small
 unfold zEN
 refine zKd (by kernel_rfl) (by kernel_rfl) ?_
 rw [wru64 (by omega) (by omega)]
 refine zQK (by omega) fun r hr=>?_
 cases xs with
 |nil=>
  have hl0:s.len=0:=by simpa using hlen.symm
  rw [hl0]
  refine zNC O hcmp 0 (f:=fun _=>⟨ByteArray.mk #[],0,ByteArray.mk #[],false⟩) (L:=0) (a:=0) (b:=0) hO (Nat.le_refl _) (Nat.le_refl _) (Nat.le_refl _) (.inl rfl) _ fun g w' _ _ hO' hg=>?_
  exact H [] w' (.refl _) .nil hO' hg
 |cons x0 xs=>
  obtain ⟨f,hf⟩:∃ f:Nat→zAB,f=fun i=>((x0::xs)[i]?).getD x0:=⟨_,rfl⟩
  have htab:tab f (x0::xs).length=x0::xs:=zRK _ f fun i y hy=>by rw [hf];simp only [hy,Option.getD_some]
  rw [← htab] at hO
  have hL:s.len=(x0::xs).length:=hlen.symm
  rw [hL]
  refine zNC O hcmp (x0::xs).length hO (a:=0) (Nat.zero_le _) (by omega) (Nat.le_refl _) (.inl rfl) _ fun g w' hsg hso hO' hg=>?_
  refine H (tab g (x0::xs).length) w' ?_ ?_ hO' hg
  ·have:=hsg.perm (Nat.le_refl _)
   rw [htab] at this;exact this
  ·rw [List.pairwise_iff_getElem]
   intro i j hi hj hij
   rw [zDJ] at hi hj
   have e1:=zKC g hi
   have e2:=zKC g hj
   have:=hso i j (Nat.zero_le _) hij hj
   rw [List.getElem?_eq_getElem (by rw [zDJ];exact hi)] at e1
   rw [List.getElem?_eq_getElem (by rw [zDJ];exact hj)] at e2
   rw [Option.some.inj e1,Option.some.inj e2]
   exact this
end
end SoCmpFunc_api_Version
end Go.Proofs.YtealcoghiaeiiaaGreat.VG
set_option linter.unusedVariables false
set_option linter.unusedSimpArgs false
namespace Go.Proofs.YtealcoghiaeiiaaGreat.VG
open Go.VB Go.Proofs
def zB5 (x9:Int) (Kl2:Int→World→Prop) (w:World):Prop:=
 Kl2 (IntKind.wrap .i64 (x9 - 1)) w
def zBA (x0:Sl) (x8:Int) (Kl1:Int→World→Prop) (x9:Int) (Kl2:Int→World→Prop) (x34:Bool) (w:World):Prop:=
 nextB w (fun w=>(x34=true→(nextB w (fun w=>opP Tryz.prog Value.pointer (Instr.indexAt 30 (Sl.v x0) (.int .i64 (IntKind.wrap .i64 (x9 - 1)))) (fun x45=>opP Tryz.prog Value.pointer (Instr.indexAt 30 (Sl.v x0) (.int .i64 x9)) (fun x49=>(opE Tryz.prog zAD.v (Instr.loadAt 34 (.pointer x45)) w (fun x46 w=>opE Tryz.prog zAD.v (Instr.loadAt 34 (.pointer x49)) w (fun x50 w=>opP Tryz.prog Value.pointer (Instr.indexAt 30 (Sl.v x0) (.int .i64 x9)) (fun x51=>opU Tryz.prog (Instr.storeAt 34 (.pointer x51) (zAD.v x46)) w (fun w=>opP Tryz.prog Value.pointer (Instr.indexAt 30 (Sl.v x0) (.int .i64 (IntKind.wrap .i64 (x9 - 1)))) (fun x52=>opU Tryz.prog (Instr.storeAt 34 (.pointer x52) (zAD.v x50)) w (fun w=>zB5 x9 Kl2 w)))))))∧(opE Tryz.prog zAD.v (Instr.loadAt 34 (.pointer x49)) w (fun x50_1 w=>opE Tryz.prog zAD.v (Instr.loadAt 34 (.pointer x45)) w (fun x46_1 w=>opP Tryz.prog Value.pointer (Instr.indexAt 30 (Sl.v x0) (.int .i64 x9)) (fun x51_1=>opU Tryz.prog (Instr.storeAt 34 (.pointer x51_1) (zAD.v x46_1)) w (fun w=>opP Tryz.prog Value.pointer (Instr.indexAt 30 (Sl.v x0) (.int .i64 (IntKind.wrap .i64 (x9 - 1)))) (fun x52_1=>opU Tryz.prog (Instr.storeAt 34 (.pointer x52_1) (zAD.v x50_1)) w (fun w=>zB5 x9 Kl2 w))))))))))))∧(x34=false→(Kl1 (IntKind.wrap .i64 (x8+1)) w)))
def zDK (x0:Sl) (x1:Int) (x3:Value) (x8:Int) (Kl1:Int→World→Prop) (x9:Int) (w:World) (Kl2:Int→World→Prop):Prop:=
 ((x1<x9)→(opB Tryz.prog Value.pointer (Instr.indexAt 30 (Sl.v x0) (.int .i64 x9)) w (fun x25=>opB Tryz.prog zAD.v (Instr.loadAt 34 (.pointer x25)) w (fun x26=>opB Tryz.prog Value.pointer (Instr.indexAt 30 (Sl.v x0) (.int .i64 (IntKind.wrap .i64 (x9 - 1)))) w (fun x30=>opB Tryz.prog zAD.v (Instr.loadAt 34 (.pointer x30)) w (fun x31=>∃ (r:Int),CallQ Tryz.prog x3 [(zAD.v x26),(zAD.v x31)] w (.int .i64 r)∧(zBA x0 x8 Kl1 x9 Kl2 (decide (r<0)) w)))))))∧(¬ (x1<x9)→(zBA x0 x8 Kl1 x9 Kl2 false w))
def zBs (x0:Sl) (x1:Int) (x2:Int) (x3:Value) (Ret:World→Prop) (x8:Int) (w:World) (Kl1:Int→World→Prop):Prop:=
 ((x8<x2)→(∃ (I:Int→World→Prop) (μ:Int→World→Nat),I x8 w∧∀ (x9:Int) w,I x9 w→zDK x0 x1 x3 x8 Kl1 x9 w (fun x9' w'=>I x9' w'∧μ x9' w'<μ x9 w)))∧(¬ (x8<x2)→(Ret w))
def zDs (x0:Sl) (x1:Int) (x2:Int) (x3:Value) (w:World) (Ret:World→Prop):Prop:=
 ∃ (I:Int→World→Prop) (μ:Int→World→Nat),I (IntKind.wrap .i64 (x1+1)) w∧∀ (x8:Int) w,I x8 w→zBs x0 x1 x2 x3 Ret x8 w (fun x8' w'=>I x8' w'∧μ x8' w'<μ x8 w)
set_option maxRecDepth 100000 in
theorem zHr (x0:Sl) (x1:Int) (x2:Int) (x3:Value) (w:World) (Ret:World→Prop) (H:zDs x0 x1 x2 x3 w Ret):Cl Tryz.prog 128 [(Sl.v x0),(.int .i64 x1),(.int .i64 x2),x3].toArray w (fun e w'=>e=.returned (.tuple [].toArray)∧Ret w'):=by
 unfold zDs at H
 refine zAY 53 (zipE 0 [(Sl.v x0),(.int .i64 x1),(.int .i64 x2),x3]) Tryz.func128 rfl rfl (by rfl) rfl ?_
 intro a g
 replace g:Sat [] 53 [(0,(Sl.v x0)),(1,(.int .i64 x1)),(2,(.int .i64 x2)),(3,x3)] a:=g
 refine zAF (zAA (g.mv rfl fun _ g=>(g.pur (zAn g rfl rfl) fun _ g=>(g.as_ rfl fun _ g=>(zAG (tn (zAN ?_)))))))
 obtain ⟨I_l1,μ_l1,h0,hb⟩:=H
 refine zBl (ds:=[]) (N:=53) (σ:=Int) (fun s=>[(8,(.int .i64 s)),(0,(Sl.v x0)),(1,(.int .i64 x1)),(2,(.int .i64 x2)),(3,x3)]) (fun s w=>I_l1 s w) (fun s w=>μ_l1 s w) (IntKind.wrap .i64 (x1+1)) h0 (g.weak ⟨rfl,rfl,rfl,rfl,rfl,trivial⟩) ?_
 intro x8 w a hI g
 try dsimp only at hI g
 obtain ⟨Kl1,hK_l1⟩:∃ K:Int→World→Prop,K=(fun x8' w'=>I_l1 x8' w'∧μ_l1 x8' w'<μ_l1 x8 w):=⟨_,rfl⟩
 have H:zBs x0 x1 x2 x3 Ret x8 w Kl1:=by rw [hK_l1];exact hb x8 w hI
 clear hb h0 hI
 unfold zBs at H
 refine zAF (zAF (zAA (g.mv rfl fun _ g=>(g.mv rfl fun _ g=>(g.pur (zDp g rfl rfl) fun _ g=>(zAG (tn (zAR g rfl (fun hc=>?_) (fun hc=>?_)))))))))
 ·replace H:=H.1 hc
  refine zAP (tn (zAF (zAN (zAF (zAA (g.mv rfl fun _ g=>(g.as_ rfl fun _ g=>(zAG (tn (zAN ?_))))))))))
  obtain ⟨I_l2,μ_l2,h0,hb⟩:=H
  refine zBl (ds:=[]) (N:=53) (σ:=Int) (fun s=>[(9,(.int .i64 s)),(0,(Sl.v x0)),(1,(.int .i64 x1)),(2,(.int .i64 x2)),(3,x3),(8,(.int .i64 x8))]) (fun s w=>I_l2 s w) (fun s w=>μ_l2 s w) x8 h0 (g.weak ⟨rfl,rfl,rfl,rfl,rfl,rfl,trivial⟩) ?_
  intro x9 w a hI g
  try dsimp only at hI g
  obtain ⟨Kl2,hK_l2⟩:∃ K:Int→World→Prop,K=(fun x9' w'=>I_l2 x9' w'∧μ_l2 x9' w'<μ_l2 x9 w):=⟨_,rfl⟩
  have H:zDK x0 x1 x3 x8 Kl1 x9 w Kl2:=by rw [hK_l2];exact hb x9 w hI
  clear hb h0 hI
  unfold zDK at H
  refine zAF (zAF (zEB (by kernel_rfl) (by kernel_rfl) (g.qm rfl fun _ g=>(g.qm rfl fun _ g=>(g.qpur (zIG g rfl rfl) fun _ g=>(g.qm rfl fun _ g=>(WQ.join (ds:=[]) (N:=53) (σ:=Bool) (fun s=>[(34,(.bool s)),(0,(Sl.v x0)),(1,(.int .i64 x1)),(2,(.int .i64 x2)),(3,x3),(8,(.int .i64 x8)),(9,(.int .i64 x9))]) (fun s=>zBA x0 x8 Kl1 x9 Kl2 s w) 13 ?_ (fun hr3=>?_))))))))
  ·intro x34 a H g
   try dsimp only at H g
   unfold zBA at H
   refine zED (fun w hB=>?_)
   replace H:=H w hB
   refine (tn (zAV g rfl (fun hc=>?_) (fun hc=>?_)))
   ·replace H:=H.1 hc
    refine zAP (tn (zBG (ds:=[]) (N:=53) (σ:=Unit) (fun s=>[(0,(Sl.v x0)),(1,(.int .i64 x1)),(2,(.int .i64 x2)),(3,x3),(8,(.int .i64 x8)),(9,(.int .i64 x9))]) (fun s w=>zB5 x9 Kl2 w) ?_ (fun hj4=>?_)))
    ·rintro ⟨⟩ w a H g
     try dsimp only at H g
     unfold zB5 at H
     refine zAA (g.mv rfl fun _ g=>(g.pur (zAv g rfl rfl) fun _ g=>(g.as_ rfl fun _ g=>?_)))
     rw [hK_l2] at H
     exact zAG (tn ⟨(IntKind.wrap .i64 (x9 - 1)),g.weak ⟨rfl,rfl,rfl,rfl,rfl,rfl,trivial⟩,H⟩)
    ·refine zAN (zKK 18 fun w hB=>?_)
     replace H:=H w hB
     refine g.ap 0 rfl (zAL g rfl) fun _ g=>g.ap 1 rfl (zAL g rfl) fun _ g=>g.ap 2 rfl (zAL g rfl) fun _ g=>g.ap 3 rfl (zAL g rfl) fun _ g=>g.ap 4 rfl (zAv g rfl rfl) fun _ g=>g.ap 5 rfl (zAL g rfl) fun _ g=>g.ap 6 rfl (zAL g rfl) fun _ g=>g.ap 7 rfl (zAv g rfl rfl) fun _ g=>g.ao 8 rfl (zAC g rfl rfl) H fun x45 a H g=>g.ap 10 rfl (zAL g rfl) fun _ g=>g.ap 11 rfl (zAL g rfl) fun _ g=>g.ao 12 rfl (zAC g rfl rfl) H fun x49 a H g=>WA.tw 9 13 rfl rfl ?_ ?_
     ·replace H:=H.1
      intro K hK
      exact g.wop (zAI g rfl) H fun x46 w a H g=>hK _ _ (g.o1 13 rfl (zAI g rfl) H fun x50 w a H g=>(g.ao 14 rfl (zAC g rfl rfl) H fun x51 a H g=>(g.o1u 15 rfl (zAM g rfl rfl) H fun w a H g=>(g.ao 16 rfl (zAC g rfl rfl) H fun x52 a H g=>(g.o1u 17 rfl (zAM g rfl rfl) H fun w a H g=>(WA.ni ((bn (tn (hj4 () _ _ H (g.weak ⟨rfl,rfl,rfl,rfl,rfl,rfl,trivial⟩)))))))))))
     ·replace H:=H.2
      intro K hK
      exact g.wop (zAI g rfl) H fun x50_1 w a H g=>hK _ _ (g.o1 9 rfl (zAI g rfl) H fun x46_1 w a H g=>(g.ao 14 rfl (zAC g rfl rfl) H fun x51_1 a H g=>(g.o1u 15 rfl (zAM g rfl rfl) H fun w a H g=>(g.ao 16 rfl (zAC g rfl rfl) H fun x52_1 a H g=>(g.o1u 17 rfl (zAM g rfl rfl) H fun w a H g=>(WA.ni ((bn (tn (hj4 () _ _ H (g.weak ⟨rfl,rfl,rfl,rfl,rfl,rfl,trivial⟩)))))))))))
   ·replace H:=H.2 hc
    refine zBJ (te (te (be (bn (tn (zAA (g.mv rfl fun _ g=>(g.pur (zAn g rfl rfl) fun _ g=>(g.as_ rfl fun _ g=>?_)))))))))
    rw [hK_l1] at H
    exact zAG (tn ⟨(IntKind.wrap .i64 (x8+1)),g.weak ⟨rfl,rfl,rfl,rfl,rfl,trivial⟩,H⟩)
  ·rcases Classical.em ((x1<x9)) with hbr3|hbr3
   ·replace H:=H.1 hbr3
    replace g:=g.bool (b:=true) (t:=21) rfl (decide_eq_true hbr3)
    refine g.qon (by rfl) (by rfl) (g.qm rfl fun _ g=>(g.qon (by rfl) (by rfl) (g.qm rfl fun _ g=>(g.qon (by rfl) (by rfl) (g.qm rfl fun _ g=>(g.qon (by rfl) (by rfl) (g.qop (zAC g rfl rfl) H fun x25 a H g=>(g.qon (by rfl) (by rfl) (g.qop (zAI g rfl) H fun x26 a H g=>(g.qon (by rfl) (by rfl) (g.qm rfl fun _ g=>(g.qon (by rfl) (by rfl) (g.qm rfl fun _ g=>(g.qon (by rfl) (by rfl) (g.qpur (zAv g rfl rfl) fun _ g=>(g.qon (by rfl) (by rfl) (g.qop (zAC g rfl rfl) H fun x30 a H g=>(g.qon (by rfl) (by rfl) (g.qop (zAI g rfl) H fun x31 a H g=>(g.qon (by rfl) (by rfl) ?_))))))))))))))))))))
    obtain ⟨r,hc,H⟩:=H
    exact g.qcallV rfl rfl hc fun _ g=>g.qon (by rfl) (by rfl) (g.qpur (zDp g rfl rfl) fun _ g=>(g.qpur (zAj g rfl rfl) fun _ g=>(hr3 (decide (r<0)) _ H (g.weak ⟨rfl,rfl,rfl,rfl,rfl,rfl,rfl,trivial⟩))))
   ·replace H:=H.2 hbr3
    replace g:=g.bool (b:=false) (t:=21) rfl (decide_eq_false hbr3)
    exact g.qoff (by rfl) (by rfl) (by decide) (fun _ g=>(g.qoff (by rfl) (by rfl) (by decide) (fun _ g=>(g.qoff (by rfl) (by rfl) (by decide) (fun _ g=>(g.qoff (by rfl) (by rfl) (by decide) (fun _ g=>(g.qoff (by rfl) (by rfl) (by decide) (fun _ g=>(g.qoff (by rfl) (by rfl) (by decide) (fun _ g=>(g.qoff (by rfl) (by rfl) (by decide) (fun _ g=>(g.qoff (by rfl) (by rfl) (by decide) (fun _ g=>(g.qoff (by rfl) (by rfl) (by decide) (fun _ g=>(g.qoff (by rfl) (by rfl) (by decide) (fun _ g=>(g.qoff (by rfl) (by rfl) (by decide) (fun _ g=>(g.qoff (by rfl) (by rfl) (by decide) (fun _ g=>(g.qpur (zAi g rfl rfl) fun _ g=>(hr3 false _ H (g.weak ⟨rfl,rfl,rfl,rfl,rfl,rfl,rfl,trivial⟩))))))))))))))))))))))))))
 ·replace H:=H.2 hc
  exact zBJ (te (te (be (zG1 g rfl ⟨rfl,H⟩))))
def zDF (x0:Sl) (x1:Int) (x3:Value) (x12:Int) (Kl2:Int→World→Prop) (w:World):Prop:=
 Cl Tryz.prog 144 [(Sl.v x0),(.int .i64 0),(.int .i64 x12),(.int .i64 x1),x3].toArray w (fun e w=>e=.returned (.tuple [].toArray)∧(Kl2 (IntKind.wrap .i64 (x12 - 1)) w))
def zD0 (x0:Sl) (x1:Int) (x3:Value) (Ret:World→Prop) (x12:Int) (w:World) (Kl2:Int→World→Prop):Prop:=
 ((0≤x12)→(nextB w (fun w=>opP Tryz.prog Value.pointer (Instr.indexAt 30 (Sl.v x0) (.int .i64 (IntKind.wrap .i64 (x1+x12)))) (fun x46=>opP Tryz.prog Value.pointer (Instr.indexAt 30 (Sl.v x0) (.int .i64 x1)) (fun x50=>(opE Tryz.prog zAD.v (Instr.loadAt 34 (.pointer x46)) w (fun x47 w=>opE Tryz.prog zAD.v (Instr.loadAt 34 (.pointer x50)) w (fun x51 w=>opP Tryz.prog Value.pointer (Instr.indexAt 30 (Sl.v x0) (.int .i64 x1)) (fun x52=>opU Tryz.prog (Instr.storeAt 34 (.pointer x52) (zAD.v x47)) w (fun w=>opP Tryz.prog Value.pointer (Instr.indexAt 30 (Sl.v x0) (.int .i64 (IntKind.wrap .i64 (x1+x12)))) (fun x53=>opU Tryz.prog (Instr.storeAt 34 (.pointer x53) (zAD.v x51)) w (fun w=>zDF x0 x1 x3 x12 Kl2 w)))))))∧(opE Tryz.prog zAD.v (Instr.loadAt 34 (.pointer x50)) w (fun x51_1 w=>opE Tryz.prog zAD.v (Instr.loadAt 34 (.pointer x46)) w (fun x47_1 w=>opP Tryz.prog Value.pointer (Instr.indexAt 30 (Sl.v x0) (.int .i64 x1)) (fun x52_1=>opU Tryz.prog (Instr.storeAt 34 (.pointer x52_1) (zAD.v x47_1)) w (fun w=>opP Tryz.prog Value.pointer (Instr.indexAt 30 (Sl.v x0) (.int .i64 (IntKind.wrap .i64 (x1+x12)))) (fun x53_1=>opU Tryz.prog (Instr.storeAt 34 (.pointer x53_1) (zAD.v x51_1)) w (fun w=>zDF x0 x1 x3 x12 Kl2 w))))))))))))∧(¬ (0≤x12)→(Ret w))
def zD3 (x0:Sl) (x1:Int) (x2:Int) (x3:Value) (Ret:World→Prop) (x11:Int) (w:World) (Kl1:Int→World→Prop):Prop:=
 ((0≤x11)→(Cl Tryz.prog 144 [(Sl.v x0),(.int .i64 x11),(.int .i64 (IntKind.wrap .i64 (x2 - x1))),(.int .i64 x1),x3].toArray w (fun e w=>e=.returned (.tuple [].toArray)∧(Kl1 (IntKind.wrap .i64 (x11 - 1)) w))))∧(¬ (0≤x11)→(∃ (I:Int→World→Prop) (μ:Int→World→Nat),I (IntKind.wrap .i64 ((IntKind.wrap .i64 (x2 - x1)) - 1)) w∧∀ (x12:Int) w,I x12 w→zD0 x0 x1 x3 Ret x12 w (fun x12' w'=>I x12' w'∧μ x12' w'<μ x12 w)))
def zFO (x0:Sl) (x1:Int) (x2:Int) (x3:Value) (w:World) (Ret:World→Prop):Prop:=
 opE Tryz.prog (Value.int .i64) (binOp .quo 3 (.int .i64 (IntKind.wrap .i64 ((IntKind.wrap .i64 (x2 - x1)) - 1))) (.int .i64 2)) w (fun x19 w=>∃ (I:Int→World→Prop) (μ:Int→World→Nat),I x19 w∧∀ (x11:Int) w,I x11 w→zD3 x0 x1 x2 x3 Ret x11 w (fun x11' w'=>I x11' w'∧μ x11' w'<μ x11 w))
set_option maxRecDepth 100000 in
theorem zI5 (x0:Sl) (x1:Int) (x2:Int) (x3:Value) (w:World) (Ret:World→Prop) (H:zFO x0 x1 x2 x3 w Ret):Cl Tryz.prog 129 [(Sl.v x0),(.int .i64 x1),(.int .i64 x2),x3].toArray w (fun e w'=>e=.returned (.tuple [].toArray)∧Ret w'):=by
 unfold zFO at H
 refine zAY 60 (zipE 0 [(Sl.v x0),(.int .i64 x1),(.int .i64 x2),x3]) Tryz.func129 rfl rfl (by rfl) rfl ?_
 intro a g
 replace g:Sat [] 60 [(0,(Sl.v x0)),(1,(.int .i64 x1)),(2,(.int .i64 x2)),(3,x3)] a:=g
 refine zAF (zAA (g.mv rfl fun _ g=>(g.as_ rfl fun _ g=>(zAG (tn (zAF (zAA (g.as_ rfl fun _ g=>(zAG (tn (zAF (zAA (g.mv rfl fun _ g=>(g.mv rfl fun _ g=>(g.pur (zAv g rfl rfl) fun _ g=>(g.as_ rfl fun _ g=>(zAG (tn (zAF (zAF (zAA (g.mv rfl fun _ g=>(g.pur (zAv g rfl rfl) fun _ g=>(g.op (zFD g rfl rfl) H fun x19 w a H g=>(g.as_ rfl fun _ g=>(zAG (tn (zAN ?_))))))))))))))))))))))))))))
 obtain ⟨I_l1,μ_l1,h0,hb⟩:=H
 refine zBl (ds:=[]) (N:=60) (σ:=Int) (fun s=>[(11,(.int .i64 s)),(0,(Sl.v x0)),(3,x3),(8,(.int .i64 x1)),(9,(.int .i64 0)),(10,(.int .i64 (IntKind.wrap .i64 (x2 - x1))))]) (fun s w=>I_l1 s w) (fun s w=>μ_l1 s w) x19 h0 (g.weak ⟨rfl,rfl,rfl,rfl,rfl,rfl,trivial⟩) ?_
 intro x11 w a hI g
 try dsimp only at hI g
 obtain ⟨Kl1,hK_l1⟩:∃ K:Int→World→Prop,K=(fun x11' w'=>I_l1 x11' w'∧μ_l1 x11' w'<μ_l1 x11 w):=⟨_,rfl⟩
 have H:zD3 x0 x1 x2 x3 Ret x11 w Kl1:=by rw [hK_l1];exact hb x11 w hI
 clear hb h0 hI
 unfold zD3 at H
 refine zAF (zAF (zAA (g.mv rfl fun _ g=>(g.pur (zF7 g rfl rfl) fun _ g=>(zAG (tn (zAR g rfl (fun hc=>?_) (fun hc=>?_))))))))
 ·replace H:=H.1 hc
  refine zAP (tn (zAF (zAN (zAA (g.mv rfl fun _ g=>(g.mv rfl fun _ g=>(g.mv rfl fun _ g=>(g.mv rfl fun _ g=>(g.mv rfl fun _ g=>(g.call (zAQ g zSp rfl rfl) H fun e w H=>?_))))))))))
  obtain ⟨rfl,H⟩:=H
  refine ⟨_,rfl,fun _ g=>(zAG (bn (tn (zAA (g.mv rfl fun _ g=>(g.pur (zAv g rfl rfl) fun _ g=>(g.as_ rfl fun _ g=>?_)))))))⟩
  rw [hK_l1] at H
  exact zAG (tn ⟨(IntKind.wrap .i64 (x11 - 1)),g.weak ⟨rfl,rfl,rfl,rfl,rfl,rfl,trivial⟩,H⟩)
 ·replace H:=H.2 hc
  refine zBJ (te (te (be (tn (zAF (zAA (g.mv rfl fun _ g=>(g.pur (zAv g rfl rfl) fun _ g=>(g.as_ rfl fun _ g=>(zAG (tn (zAN ?_))))))))))))
  obtain ⟨I_l2,μ_l2,h0,hb⟩:=H
  refine zBl (ds:=[]) (N:=60) (σ:=Int) (fun s=>[(12,(.int .i64 s)),(0,(Sl.v x0)),(3,x3),(8,(.int .i64 x1)),(9,(.int .i64 0))]) (fun s w=>I_l2 s w) (fun s w=>μ_l2 s w) (IntKind.wrap .i64 ((IntKind.wrap .i64 (x2 - x1)) - 1)) h0 (g.weak ⟨rfl,rfl,rfl,rfl,rfl,trivial⟩) ?_
  intro x12 w a hI g
  try dsimp only at hI g
  obtain ⟨Kl2,hK_l2⟩:∃ K:Int→World→Prop,K=(fun x12' w'=>I_l2 x12' w'∧μ_l2 x12' w'<μ_l2 x12 w):=⟨_,rfl⟩
  have H:zD0 x0 x1 x3 Ret x12 w Kl2:=by rw [hK_l2];exact hb x12 w hI
  clear hb h0 hI
  unfold zD0 at H
  refine zAF (zAF (zAA (g.mv rfl fun _ g=>(g.pur (zF7 g rfl rfl) fun _ g=>(zAG (tn (zAR g rfl (fun hc=>?_) (fun hc=>?_))))))))
  ·replace H:=H.1 hc
   refine zAP (tn (zAF (zAN (zBG (ds:=[]) (N:=60) (σ:=Unit) (fun s=>[(0,(Sl.v x0)),(3,x3),(8,(.int .i64 x1)),(9,(.int .i64 0)),(12,(.int .i64 x12))]) (fun s w=>zDF x0 x1 x3 x12 Kl2 w) ?_ (fun hj3=>?_)))))
   ·rintro ⟨⟩ w a H g
    try dsimp only at H g
    unfold zDF at H
    refine zAA (g.mv rfl fun _ g=>(g.mv rfl fun _ g=>(g.mv rfl fun _ g=>(g.mv rfl fun _ g=>(g.mv rfl fun _ g=>(g.call (zAQ g zSp rfl rfl) H fun e w H=>?_))))))
    obtain ⟨rfl,H⟩:=H
    refine ⟨_,rfl,fun _ g=>(zAG (bn (tn (zAA (g.mv rfl fun _ g=>(g.pur (zAv g rfl rfl) fun _ g=>(g.as_ rfl fun _ g=>?_)))))))⟩
    rw [hK_l2] at H
    exact zAG (tn ⟨(IntKind.wrap .i64 (x12 - 1)),g.weak ⟨rfl,rfl,rfl,rfl,rfl,trivial⟩,H⟩)
   ·refine zKK 20 fun w hB=>?_
    replace H:=H w hB
    refine g.ap 0 rfl (zAL g rfl) fun _ g=>g.ap 1 rfl (zAL g rfl) fun _ g=>g.ap 2 rfl (zAL g rfl) fun _ g=>g.ap 3 rfl (zAL g rfl) fun _ g=>g.ap 4 rfl (zAL g rfl) fun _ g=>g.ap 5 rfl (zAn g rfl rfl) fun _ g=>g.ap 6 rfl (zAL g rfl) fun _ g=>g.ap 7 rfl (zAL g rfl) fun _ g=>g.ap 8 rfl (zAL g rfl) fun _ g=>g.ap 9 rfl (zAn g rfl rfl) fun _ g=>g.ao 10 rfl (zAC g rfl rfl) H fun x46 a H g=>g.ap 12 rfl (zAL g rfl) fun _ g=>g.ap 13 rfl (zAL g rfl) fun _ g=>g.ao 14 rfl (zAC g rfl rfl) H fun x50 a H g=>WA.tw 11 15 rfl rfl ?_ ?_
    ·replace H:=H.1
     intro K hK
     exact g.wop (zAI g rfl) H fun x47 w a H g=>hK _ _ (g.o1 15 rfl (zAI g rfl) H fun x51 w a H g=>(g.ao 16 rfl (zAC g rfl rfl) H fun x52 a H g=>(g.o1u 17 rfl (zAM g rfl rfl) H fun w a H g=>(g.ao 18 rfl (zAC g rfl rfl) H fun x53 a H g=>(g.o1u 19 rfl (zAM g rfl rfl) H fun w a H g=>(WA.ni ((tn (hj3 () _ _ H (g.weak ⟨rfl,rfl,rfl,rfl,rfl,trivial⟩))))))))))
    ·replace H:=H.2
     intro K hK
     exact g.wop (zAI g rfl) H fun x51_1 w a H g=>hK _ _ (g.o1 11 rfl (zAI g rfl) H fun x47_1 w a H g=>(g.ao 16 rfl (zAC g rfl rfl) H fun x52_1 a H g=>(g.o1u 17 rfl (zAM g rfl rfl) H fun w a H g=>(g.ao 18 rfl (zAC g rfl rfl) H fun x53_1 a H g=>(g.o1u 19 rfl (zAM g rfl rfl) H fun w a H g=>(WA.ni ((tn (hj3 () _ _ H (g.weak ⟨rfl,rfl,rfl,rfl,rfl,trivial⟩))))))))))
  ·replace H:=H.2 hc
   exact zBJ (te (te (be (zG1 g rfl ⟨rfl,H⟩))))
def zBK (Ret:Int→Int→World→Prop) (x11:Option Addr) (x13:Int) (w:World):Prop:=
 opE Tryz.prog (Value.int .i64) (Instr.loadAt 3 (.pointer x11)) w (fun x55 w=>((x55=0)→(Ret x13 1 w))∧(¬ (x55=0)→(((x55=12)→(Ret x13 2 w))∧(¬ (x55=12)→(Ret x13 0 w)))))
def zBN (x0:Sl) (x3:Value) (Ret:Int→Int→World→Prop) (x11:Option Addr) (x12:Int) (x13_1:Int) (x14:Int) (w:World):Prop:=
 Cl Tryz.prog 146 [(Sl.v x0),(.int .i64 x12),(.int .i64 x13_1),(.int .i64 x14),(.pointer x11),x3].toArray w (fun e w=>∃ (r:Int),e=.returned (.int .i64 r)∧(zBK Ret x11 r w))
def zEq (x0:Sl) (x1:Int) (x2:Int) (x3:Value) (w:World) (Ret:Int→Int→World→Prop):Prop:=
 opE Tryz.prog Value.pointer (Instr.alloc 3 true (.tuple #[])) w (fun x11 w=>opE Tryz.prog (Value.int .i64) (binOp .quo 3 (.int .i64 (IntKind.wrap .i64 (x2 - x1))) (.int .i64 4)) w (fun x20 w=>opE Tryz.prog (Value.int .i64) (binOp .quo 3 (.int .i64 (IntKind.wrap .i64 (x2 - x1))) (.int .i64 4)) w (fun x25 w=>opE Tryz.prog (Value.int .i64) (binOp .quo 3 (.int .i64 (IntKind.wrap .i64 (x2 - x1))) (.int .i64 4)) w (fun x30 w=>((8≤(IntKind.wrap .i64 (x2 - x1)))→(((50≤(IntKind.wrap .i64 (x2 - x1)))→(Cl Tryz.prog 145 [(Sl.v x0),(.int .i64 (IntKind.wrap .i64 (x1+(IntKind.wrap .i64 (x20*1))))),(.pointer x11),x3].toArray w (fun e w=>∃ (r_1:Int),e=.returned (.int .i64 r_1)∧(Cl Tryz.prog 145 [(Sl.v x0),(.int .i64 (IntKind.wrap .i64 (x1+(IntKind.wrap .i64 (x25*2))))),(.pointer x11),x3].toArray w (fun e w=>∃ (r_2:Int),e=.returned (.int .i64 r_2)∧(Cl Tryz.prog 145 [(Sl.v x0),(.int .i64 (IntKind.wrap .i64 (x1+(IntKind.wrap .i64 (x30*3))))),(.pointer x11),x3].toArray w (fun e w=>∃ (r_3:Int),e=.returned (.int .i64 r_3)∧(zBN x0 x3 Ret x11 r_1 r_2 r_3 w))))))))∧(¬ (50≤(IntKind.wrap .i64 (x2 - x1)))→(zBN x0 x3 Ret x11 (IntKind.wrap .i64 (x1+(IntKind.wrap .i64 (x20*1)))) (IntKind.wrap .i64 (x1+(IntKind.wrap .i64 (x25*2)))) (IntKind.wrap .i64 (x1+(IntKind.wrap .i64 (x30*3)))) w))))∧(¬ (8≤(IntKind.wrap .i64 (x2 - x1)))→(zBK Ret x11 (IntKind.wrap .i64 (x1+(IntKind.wrap .i64 (x25*2)))) w))))))
set_option maxRecDepth 100000 in
theorem zIR (x0:Sl) (x1:Int) (x2:Int) (x3:Value) (w:World) (Ret:Int→Int→World→Prop) (H:zEq x0 x1 x2 x3 w Ret):Cl Tryz.prog 131 [(Sl.v x0),(.int .i64 x1),(.int .i64 x2),x3].toArray w (fun e w'=>∃ (r0:Int) (r1:Int),e=.returned (.tuple [(.int .i64 r0),(.int .i64 r1)].toArray)∧Ret r0 r1 w'):=by
 unfold zEq at H
 refine zAY 63 (zipE 0 [(Sl.v x0),(.int .i64 x1),(.int .i64 x2),x3]) Tryz.func131 rfl rfl (by rfl) rfl ?_
 intro a g
 replace g:Sat [] 63 [(0,(Sl.v x0)),(1,(.int .i64 x1)),(2,(.int .i64 x2)),(3,x3)] a:=g
 refine zAF (zAA (g.as_ rfl fun _ g=>(g.as_ rfl fun _ g=>(zAG (tn (zAF (zAA (g.mv rfl fun _ g=>(g.mv rfl fun _ g=>(g.pur (zAv g rfl rfl) fun _ g=>(g.as_ rfl fun _ g=>(zAG (tn (zAF (zAA (g.op (zEH) H fun x11 w a H g=>(zAG (tn (zAF (zAA (g.mv rfl fun _ g=>(g.mv rfl fun _ g=>(g.op (zFD g rfl rfl) H fun x20 w a H g=>(g.pur (zLJ g rfl rfl) fun _ g=>(g.pur (zAn g rfl rfl) fun _ g=>(g.as_ rfl fun _ g=>(zAG (tn (zAF (zAA (g.mv rfl fun _ g=>(g.mv rfl fun _ g=>(g.op (zFD g rfl rfl) H fun x25 w a H g=>(g.pur (zLJ g rfl rfl) fun _ g=>(g.pur (zAn g rfl rfl) fun _ g=>(g.as_ rfl fun _ g=>(zAG (tn (zAF (zAA (g.mv rfl fun _ g=>(g.mv rfl fun _ g=>(g.op (zFD g rfl rfl) H fun x30 w a H g=>(g.pur (zLJ g rfl rfl) fun _ g=>(g.pur (zAn g rfl rfl) fun _ g=>(g.as_ rfl fun _ g=>(zAG (tn (zBG (ds:=[]) (N:=63) (σ:=Int) (fun s=>[(13,(.int .i64 s)),(11,(.pointer x11))]) (fun s w=>zBK Ret x11 s w) ?_ (fun hj1=>?_))))))))))))))))))))))))))))))))))))))))))))))))))
 ·intro x13 w a H g
  try dsimp only at H g
  unfold zBK at H
  refine zAF (zAA (g.op (zAI g rfl) H fun x55 w a H g=>(zAG (tn (zAN (zAF (zAA (g.pur (zGX g rfl rfl) fun _ g=>(g.as_ rfl fun _ g=>(zAG (tn (zAR g rfl (fun hc=>?_) (fun hc=>?_)))))))))))))
  ·replace H:=H.1 hc
   exact zAF (zAA (g.mv rfl fun _ g=>(g.as_ rfl fun _ g=>(g.as_ rfl fun _ g=>(zAG (tn (zAf (br (zFz g rfl rfl rfl ⟨_,_,rfl,H⟩)))))))))
  ·replace H:=H.2 hc
   refine zAF (zAA (g.pur (zGX g rfl rfl) fun _ g=>(g.as_ rfl fun _ g=>(zAG (tn (zAR g rfl (fun hc=>?_) (fun hc=>?_)))))))
   ·replace H:=H.1 hc
    exact zAF (zAA (g.mv rfl fun _ g=>(g.as_ rfl fun _ g=>(g.as_ rfl fun _ g=>(zAG (tn (zAf (br (zFz g rfl rfl rfl ⟨_,_,rfl,H⟩)))))))))
   ·replace H:=H.2 hc
    exact zAF (zAA (g.mv rfl fun _ g=>(g.as_ rfl fun _ g=>(g.as_ rfl fun _ g=>(zAG (tn (zAf (br (zFz g rfl rfl rfl ⟨_,_,rfl,H⟩)))))))))
 ·refine zAF (zAA (g.mv rfl fun _ g=>(g.pur (zF7 g rfl rfl) fun _ g=>(zAG (tn (zAR g rfl (fun hc=>?_) (fun hc=>?_)))))))
  ·replace H:=H.1 hc
   refine zBG (ds:=[]) (N:=63) (σ:=Int × Int × Int) (fun s=>[(12,(.int .i64 s.1)),(13,(.int .i64 s.2.1)),(14,(.int .i64 s.2.2)),(0,(Sl.v x0)),(3,x3),(11,(.pointer x11))]) (fun s w=>zBN x0 x3 Ret x11 s.1 s.2.1 s.2.2 w) ?_ (fun hj2=>?_)
   ·rintro ⟨x12,x13_1,x14⟩ w a H g
    try dsimp only at H g
    unfold zBN at H
    refine zAA (g.mv rfl fun _ g=>(g.mv rfl fun _ g=>(g.mv rfl fun _ g=>(g.mv rfl fun _ g=>(g.mv rfl fun _ g=>(g.call (zAQ g zSg rfl rfl) H fun e w H=>?_))))))
    obtain ⟨r,rfl,H⟩:=H
    exact ⟨_,rfl,fun _ g=>(g.as_ rfl fun _ g=>(zAG (tn (hj1 r _ _ H (g.weak ⟨rfl,rfl,trivial⟩)))))⟩
   ·refine zAF (zAA (g.mv rfl fun _ g=>(g.pur (zF7 g rfl rfl) fun _ g=>(zAG (tn (zAR g rfl (fun hc=>?_) (fun hc=>?_)))))))
    ·replace H:=H.1 hc
     refine zAF (zAA (g.mv rfl fun _ g=>(g.mv rfl fun _ g=>(g.mv rfl fun _ g=>(g.call (zAQ g zQn rfl rfl) H fun e w H=>?_)))))
     obtain ⟨r_1,rfl,H⟩:=H
     refine ⟨_,rfl,fun _ g=>(g.as_ rfl fun _ g=>(zAG (tn (zAF (zAA (g.mv rfl fun _ g=>(g.mv rfl fun _ g=>(g.mv rfl fun _ g=>(g.call (zAQ g zQn rfl rfl) H fun e w H=>?_)))))))))⟩
     obtain ⟨r_2,rfl,H⟩:=H
     refine ⟨_,rfl,fun _ g=>(g.as_ rfl fun _ g=>(zAG (tn (zAA (g.mv rfl fun _ g=>(g.mv rfl fun _ g=>(g.mv rfl fun _ g=>(g.call (zAQ g zQn rfl rfl) H fun e w H=>?_))))))))⟩
     obtain ⟨r_3,rfl,H⟩:=H
     exact ⟨_,rfl,fun _ g=>(g.as_ rfl fun _ g=>(zAG (tn (hj2 (r_1,r_2,r_3) _ _ H (g.weak ⟨rfl,rfl,rfl,rfl,rfl,rfl,trivial⟩)))))⟩
    ·replace H:=H.2 hc
     exact zAP (tn (hj2 ((IntKind.wrap .i64 (x1+(IntKind.wrap .i64 (x20*1)))),(IntKind.wrap .i64 (x1+(IntKind.wrap .i64 (x25*2)))),(IntKind.wrap .i64 (x1+(IntKind.wrap .i64 (x30*3))))) _ _ H (g.weak ⟨rfl,rfl,rfl,rfl,rfl,rfl,trivial⟩)))
  ·replace H:=H.2 hc
   exact zAP (tn (hj1 (IntKind.wrap .i64 (x1+(IntKind.wrap .i64 (x25*2)))) _ _ H (g.weak ⟨rfl,rfl,trivial⟩)))
def zCR (x8:Int) (x9:Int) (Kl1:Int→Int→World→Prop) (w:World):Prop:=
 Kl1 (IntKind.wrap .i64 (x8+1)) (IntKind.wrap .i64 (x9 - 1)) w
def zDU (x0:Sl) (Ret:World→Prop) (x8:Int) (x9:Int) (w:World) (Kl1:Int→Int→World→Prop):Prop:=
 ((x8<x9)→(nextB w (fun w=>opP Tryz.prog Value.pointer (Instr.indexAt 30 (Sl.v x0) (.int .i64 x9)) (fun x22=>opP Tryz.prog Value.pointer (Instr.indexAt 30 (Sl.v x0) (.int .i64 x8)) (fun x26=>(opE Tryz.prog zAD.v (Instr.loadAt 34 (.pointer x22)) w (fun x23 w=>opE Tryz.prog zAD.v (Instr.loadAt 34 (.pointer x26)) w (fun x27 w=>opP Tryz.prog Value.pointer (Instr.indexAt 30 (Sl.v x0) (.int .i64 x8)) (fun x28=>opU Tryz.prog (Instr.storeAt 34 (.pointer x28) (zAD.v x23)) w (fun w=>opP Tryz.prog Value.pointer (Instr.indexAt 30 (Sl.v x0) (.int .i64 x9)) (fun x29=>opU Tryz.prog (Instr.storeAt 34 (.pointer x29) (zAD.v x27)) w (fun w=>zCR x8 x9 Kl1 w)))))))∧(opE Tryz.prog zAD.v (Instr.loadAt 34 (.pointer x26)) w (fun x27_1 w=>opE Tryz.prog zAD.v (Instr.loadAt 34 (.pointer x22)) w (fun x23_1 w=>opP Tryz.prog Value.pointer (Instr.indexAt 30 (Sl.v x0) (.int .i64 x8)) (fun x28_1=>opU Tryz.prog (Instr.storeAt 34 (.pointer x28_1) (zAD.v x23_1)) w (fun w=>opP Tryz.prog Value.pointer (Instr.indexAt 30 (Sl.v x0) (.int .i64 x9)) (fun x29_1=>opU Tryz.prog (Instr.storeAt 34 (.pointer x29_1) (zAD.v x27_1)) w (fun w=>zCR x8 x9 Kl1 w))))))))))))∧(¬ (x8<x9)→(Ret w))
def zEg (x0:Sl) (x1:Int) (x2:Int) (x3:Value) (w:World) (Ret:World→Prop):Prop:=
 ∃ (I:Int→Int→World→Prop) (μ:Int→Int→World→Nat),I x1 (IntKind.wrap .i64 (x2 - 1)) w∧∀ (x8:Int) (x9:Int) w,I x8 x9 w→zDU x0 Ret x8 x9 w (fun x8' x9' w'=>I x8' x9' w'∧μ x8' x9' w'<μ x8 x9 w)
set_option maxRecDepth 100000 in
theorem zH0 (x0:Sl) (x1:Int) (x2:Int) (x3:Value) (w:World) (Ret:World→Prop) (H:zEg x0 x1 x2 x3 w Ret):Cl Tryz.prog 132 [(Sl.v x0),(.int .i64 x1),(.int .i64 x2),x3].toArray w (fun e w'=>e=.returned (.tuple [].toArray)∧Ret w'):=by
 unfold zEg at H
 refine zAY 34 (zipE 0 [(Sl.v x0),(.int .i64 x1),(.int .i64 x2),x3]) Tryz.func132 rfl rfl (by rfl) rfl ?_
 intro a g
 replace g:Sat [] 34 [(0,(Sl.v x0)),(1,(.int .i64 x1)),(2,(.int .i64 x2)),(3,x3)] a:=g
 refine zAF (zAA (g.mv rfl fun _ g=>(g.as_ rfl fun _ g=>(zAG (tn (zAF (zAA (g.mv rfl fun _ g=>(g.pur (zAv g rfl rfl) fun _ g=>(g.as_ rfl fun _ g=>(zAG (tn (zAN ?_)))))))))))))
 obtain ⟨I_l1,μ_l1,h0,hb⟩:=H
 refine zBl (ds:=[]) (N:=34) (σ:=Int × Int) (fun s=>[(8,(.int .i64 s.1)),(9,(.int .i64 s.2)),(0,(Sl.v x0))]) (fun s w=>I_l1 s.1 s.2 w) (fun s w=>μ_l1 s.1 s.2 w) (x1,(IntKind.wrap .i64 (x2 - 1))) h0 (g.weak ⟨rfl,rfl,rfl,trivial⟩) ?_
 rintro ⟨x8,x9⟩ w a hI g
 try dsimp only at hI g
 obtain ⟨Kl1,hK_l1⟩:∃ K:Int→Int→World→Prop,K=(fun x8' x9' w'=>I_l1 x8' x9' w'∧μ_l1 x8' x9' w'<μ_l1 x8 x9 w):=⟨_,rfl⟩
 have H:zDU x0 Ret x8 x9 w Kl1:=by rw [hK_l1];exact hb x8 x9 w hI
 clear hb h0 hI
 unfold zDU at H
 refine zAF (zAF (zAA (g.mv rfl fun _ g=>(g.mv rfl fun _ g=>(g.pur (zDp g rfl rfl) fun _ g=>(zAG (tn (zAR g rfl (fun hc=>?_) (fun hc=>?_)))))))))
 ·replace H:=H.1 hc
  refine zAP (tn (zAN (zBG (ds:=[]) (N:=34) (σ:=Unit) (fun s=>[(0,(Sl.v x0)),(8,(.int .i64 x8)),(9,(.int .i64 x9))]) (fun s w=>zCR x8 x9 Kl1 w) ?_ (fun hj2=>?_))))
  ·rintro ⟨⟩ w a H g
   try dsimp only at H g
   unfold zCR at H
   refine zAF (zAA (g.mv rfl fun _ g=>(g.pur (zAn g rfl rfl) fun _ g=>(g.as_ rfl fun _ g=>(zAG (tn (zAA (g.mv rfl fun _ g=>(g.pur (zAv g rfl rfl) fun _ g=>(g.as_ rfl fun _ g=>?_))))))))))
   rw [hK_l1] at H
   exact zAG (bn (tn ⟨((IntKind.wrap .i64 (x8+1)),(IntKind.wrap .i64 (x9 - 1))),g.weak ⟨rfl,rfl,rfl,trivial⟩,H⟩))
  ·refine zKK 16 fun w hB=>?_
   replace H:=H w hB
   refine g.ap 0 rfl (zAL g rfl) fun _ g=>g.ap 1 rfl (zAL g rfl) fun _ g=>g.ap 2 rfl (zAL g rfl) fun _ g=>g.ap 3 rfl (zAL g rfl) fun _ g=>g.ap 4 rfl (zAL g rfl) fun _ g=>g.ap 5 rfl (zAL g rfl) fun _ g=>g.ao 6 rfl (zAC g rfl rfl) H fun x22 a H g=>g.ap 8 rfl (zAL g rfl) fun _ g=>g.ap 9 rfl (zAL g rfl) fun _ g=>g.ao 10 rfl (zAC g rfl rfl) H fun x26 a H g=>WA.tw 7 11 rfl rfl ?_ ?_
   ·replace H:=H.1
    intro K hK
    exact g.wop (zAI g rfl) H fun x23 w a H g=>hK _ _ (g.o1 11 rfl (zAI g rfl) H fun x27 w a H g=>(g.ao 12 rfl (zAC g rfl rfl) H fun x28 a H g=>(g.o1u 13 rfl (zAM g rfl rfl) H fun w a H g=>(g.ao 14 rfl (zAC g rfl rfl) H fun x29 a H g=>(g.o1u 15 rfl (zAM g rfl rfl) H fun w a H g=>(WA.ni ((tn (hj2 () _ _ H (g.weak ⟨rfl,rfl,rfl,trivial⟩))))))))))
   ·replace H:=H.2
    intro K hK
    exact g.wop (zAI g rfl) H fun x27_1 w a H g=>hK _ _ (g.o1 7 rfl (zAI g rfl) H fun x23_1 w a H g=>(g.ao 12 rfl (zAC g rfl rfl) H fun x28_1 a H g=>(g.o1u 13 rfl (zAM g rfl rfl) H fun w a H g=>(g.ao 14 rfl (zAC g rfl rfl) H fun x29_1 a H g=>(g.o1u 15 rfl (zAM g rfl rfl) H fun w a H g=>(WA.ni ((tn (hj2 () _ _ H (g.weak ⟨rfl,rfl,rfl,trivial⟩))))))))))
 ·replace H:=H.2 hc
  exact zBJ (te (te (be (zG1 g rfl ⟨rfl,H⟩))))
def zAd (x10:Int) (Kl1:Int→Int→World→Prop) (x9_1:Int) (w:World):Prop:=
 Kl1 x9_1 (IntKind.wrap .i64 (x10+1)) w
def zA5 (x12:Int) (Kl7:Int→World→Prop) (w:World):Prop:=
 Kl7 (IntKind.wrap .i64 (x12+1)) w
def zB0 (x0:Sl) (x2:Int) (x3:Value) (x10:Int) (Kl1:Int→Int→World→Prop) (x9_2:Int) (x12:Int) (w:World) (Kl7:Int→World→Prop):Prop:=
 ((x12<x2)→(opB Tryz.prog Value.pointer (Instr.indexAt 30 (Sl.v x0) (.int .i64 x12)) w (fun x115=>opB Tryz.prog zAD.v (Instr.loadAt 34 (.pointer x115)) w (fun x116=>opB Tryz.prog Value.pointer (Instr.indexAt 30 (Sl.v x0) (.int .i64 (IntKind.wrap .i64 (x12 - 1)))) w (fun x120=>opB Tryz.prog zAD.v (Instr.loadAt 34 (.pointer x120)) w (fun x121=>∃ (r:Int),CallQ Tryz.prog x3 [(zAD.v x116),(zAD.v x121)] w (.int .i64 r)∧(nextB w (fun w=>((!(decide (r<0)))=true→(zAd x10 Kl1 x9_2 w))∧((!(decide (r<0)))=false→(nextB w (fun w=>opP Tryz.prog Value.pointer (Instr.indexAt 30 (Sl.v x0) (.int .i64 (IntKind.wrap .i64 (x12 - 1)))) (fun x133=>opP Tryz.prog Value.pointer (Instr.indexAt 30 (Sl.v x0) (.int .i64 x12)) (fun x137=>(opE Tryz.prog zAD.v (Instr.loadAt 34 (.pointer x133)) w (fun x134 w=>opE Tryz.prog zAD.v (Instr.loadAt 34 (.pointer x137)) w (fun x138 w=>opP Tryz.prog Value.pointer (Instr.indexAt 30 (Sl.v x0) (.int .i64 x12)) (fun x139=>opU Tryz.prog (Instr.storeAt 34 (.pointer x139) (zAD.v x134)) w (fun w=>opP Tryz.prog Value.pointer (Instr.indexAt 30 (Sl.v x0) (.int .i64 (IntKind.wrap .i64 (x12 - 1)))) (fun x140=>opU Tryz.prog (Instr.storeAt 34 (.pointer x140) (zAD.v x138)) w (fun w=>zA5 x12 Kl7 w)))))))∧(opE Tryz.prog zAD.v (Instr.loadAt 34 (.pointer x137)) w (fun x138_1 w=>opE Tryz.prog zAD.v (Instr.loadAt 34 (.pointer x133)) w (fun x134_1 w=>opP Tryz.prog Value.pointer (Instr.indexAt 30 (Sl.v x0) (.int .i64 x12)) (fun x139_1=>opU Tryz.prog (Instr.storeAt 34 (.pointer x139_1) (zAD.v x134_1)) w (fun w=>opP Tryz.prog Value.pointer (Instr.indexAt 30 (Sl.v x0) (.int .i64 (IntKind.wrap .i64 (x12 - 1)))) (fun x140_1=>opU Tryz.prog (Instr.storeAt 34 (.pointer x140_1) (zAD.v x138_1)) w (fun w=>zA5 x12 Kl7 w))))))))))))))))))))∧(¬ (x12<x2)→(zAd x10 Kl1 x9_2 w))
def zAX (x0:Sl) (x2:Int) (x3:Value) (x10:Int) (Kl1:Int→Int→World→Prop) (x9_2:Int) (w:World):Prop:=
 ((2≤(IntKind.wrap .i64 (x2 - x9_2)))→(∃ (I:Int→World→Prop) (μ:Int→World→Nat),I (IntKind.wrap .i64 (x9_2+1)) w∧∀ (x12:Int) w,I x12 w→zB0 x0 x2 x3 x10 Kl1 x9_2 x12 w (fun x12' w'=>I x12' w'∧μ x12' w'<μ x12 w)))∧(¬ (2≤(IntKind.wrap .i64 (x2 - x9_2)))→(zAd x10 Kl1 x9_2 w))
def zA2 (x11:Int) (Kl9:Int→World→Prop) (w:World):Prop:=
 Kl9 (IntKind.wrap .i64 (x11 - 1)) w
def zBz (x0:Sl) (x2:Int) (x3:Value) (x10:Int) (Kl1:Int→Int→World→Prop) (x9_2:Int) (x11:Int) (w:World) (Kl9:Int→World→Prop):Prop:=
 ((1≤x11)→(opB Tryz.prog Value.pointer (Instr.indexAt 30 (Sl.v x0) (.int .i64 x11)) w (fun x75=>opB Tryz.prog zAD.v (Instr.loadAt 34 (.pointer x75)) w (fun x76=>opB Tryz.prog Value.pointer (Instr.indexAt 30 (Sl.v x0) (.int .i64 (IntKind.wrap .i64 (x11 - 1)))) w (fun x80=>opB Tryz.prog zAD.v (Instr.loadAt 34 (.pointer x80)) w (fun x81=>∃ (r_1:Int),CallQ Tryz.prog x3 [(zAD.v x76),(zAD.v x81)] w (.int .i64 r_1)∧(nextB w (fun w=>((!(decide (r_1<0)))=true→(zAX x0 x2 x3 x10 Kl1 x9_2 w))∧((!(decide (r_1<0)))=false→(nextB w (fun w=>opP Tryz.prog Value.pointer (Instr.indexAt 30 (Sl.v x0) (.int .i64 (IntKind.wrap .i64 (x11 - 1)))) (fun x93=>opP Tryz.prog Value.pointer (Instr.indexAt 30 (Sl.v x0) (.int .i64 x11)) (fun x97=>(opE Tryz.prog zAD.v (Instr.loadAt 34 (.pointer x93)) w (fun x94 w=>opE Tryz.prog zAD.v (Instr.loadAt 34 (.pointer x97)) w (fun x98 w=>opP Tryz.prog Value.pointer (Instr.indexAt 30 (Sl.v x0) (.int .i64 x11)) (fun x99=>opU Tryz.prog (Instr.storeAt 34 (.pointer x99) (zAD.v x94)) w (fun w=>opP Tryz.prog Value.pointer (Instr.indexAt 30 (Sl.v x0) (.int .i64 (IntKind.wrap .i64 (x11 - 1)))) (fun x100=>opU Tryz.prog (Instr.storeAt 34 (.pointer x100) (zAD.v x98)) w (fun w=>zA2 x11 Kl9 w)))))))∧(opE Tryz.prog zAD.v (Instr.loadAt 34 (.pointer x97)) w (fun x98_1 w=>opE Tryz.prog zAD.v (Instr.loadAt 34 (.pointer x93)) w (fun x94_1 w=>opP Tryz.prog Value.pointer (Instr.indexAt 30 (Sl.v x0) (.int .i64 x11)) (fun x99_1=>opU Tryz.prog (Instr.storeAt 34 (.pointer x99_1) (zAD.v x94_1)) w (fun w=>opP Tryz.prog Value.pointer (Instr.indexAt 30 (Sl.v x0) (.int .i64 (IntKind.wrap .i64 (x11 - 1)))) (fun x100_1=>opU Tryz.prog (Instr.storeAt 34 (.pointer x100_1) (zAD.v x98_1)) w (fun w=>zA2 x11 Kl9 w))))))))))))))))))))∧(¬ (1≤x11)→(zAX x0 x2 x3 x10 Kl1 x9_2 w))
def zA3 (x0:Sl) (x1:Int) (x2:Int) (x3:Value) (x10:Int) (Kl1:Int→Int→World→Prop) (x9_2:Int) (w:World):Prop:=
 ((2≤(IntKind.wrap .i64 (x9_2 - x1)))→(∃ (I:Int→World→Prop) (μ:Int→World→Nat),I (IntKind.wrap .i64 (x9_2 - 1)) w∧∀ (x11:Int) w,I x11 w→zBz x0 x2 x3 x10 Kl1 x9_2 x11 w (fun x11' w'=>I x11' w'∧μ x11' w'<μ x11 w)))∧(¬ (2≤(IntKind.wrap .i64 (x9_2 - x1)))→(zAX x0 x2 x3 x10 Kl1 x9_2 w))
def zA6 (x0:Sl) (x1:Int) (x2:Int) (x3:Value) (Ret:Bool→World→Prop) (x10:Int) (Kl1:Int→Int→World→Prop) (x9_2:Int) (Kl3:Int→World→Prop) (x36:Bool) (w:World):Prop:=
 nextB w (fun w=>(x36=true→(Kl3 (IntKind.wrap .i64 (x9_2+1)) w))∧(x36=false→(((x9_2=x2)→(Ret true w))∧(¬ (x9_2=x2)→((((IntKind.wrap .i64 (x2 - x1))<50)→(Ret false w))∧(¬ ((IntKind.wrap .i64 (x2 - x1))<50)→(nextB w (fun w=>opP Tryz.prog Value.pointer (Instr.indexAt 30 (Sl.v x0) (.int .i64 (IntKind.wrap .i64 (x9_2 - 1)))) (fun x54=>opP Tryz.prog Value.pointer (Instr.indexAt 30 (Sl.v x0) (.int .i64 x9_2)) (fun x58=>(opE Tryz.prog zAD.v (Instr.loadAt 34 (.pointer x54)) w (fun x55 w=>opE Tryz.prog zAD.v (Instr.loadAt 34 (.pointer x58)) w (fun x59 w=>opP Tryz.prog Value.pointer (Instr.indexAt 30 (Sl.v x0) (.int .i64 x9_2)) (fun x60=>opU Tryz.prog (Instr.storeAt 34 (.pointer x60) (zAD.v x55)) w (fun w=>opP Tryz.prog Value.pointer (Instr.indexAt 30 (Sl.v x0) (.int .i64 (IntKind.wrap .i64 (x9_2 - 1)))) (fun x61=>opU Tryz.prog (Instr.storeAt 34 (.pointer x61) (zAD.v x59)) w (fun w=>zA3 x0 x1 x2 x3 x10 Kl1 x9_2 w)))))))∧(opE Tryz.prog zAD.v (Instr.loadAt 34 (.pointer x58)) w (fun x59_1 w=>opE Tryz.prog zAD.v (Instr.loadAt 34 (.pointer x54)) w (fun x55_1 w=>opP Tryz.prog Value.pointer (Instr.indexAt 30 (Sl.v x0) (.int .i64 x9_2)) (fun x60_1=>opU Tryz.prog (Instr.storeAt 34 (.pointer x60_1) (zAD.v x55_1)) w (fun w=>opP Tryz.prog Value.pointer (Instr.indexAt 30 (Sl.v x0) (.int .i64 (IntKind.wrap .i64 (x9_2 - 1)))) (fun x61_1=>opU Tryz.prog (Instr.storeAt 34 (.pointer x61_1) (zAD.v x59_1)) w (fun w=>zA3 x0 x1 x2 x3 x10 Kl1 x9_2 w)))))))))))))))))
def zB1 (x0:Sl) (x1:Int) (x2:Int) (x3:Value) (Ret:Bool→World→Prop) (x10:Int) (Kl1:Int→Int→World→Prop) (x9_2:Int) (w:World) (Kl3:Int→World→Prop):Prop:=
 ((x9_2<x2)→(opB Tryz.prog Value.pointer (Instr.indexAt 30 (Sl.v x0) (.int .i64 x9_2)) w (fun x26=>opB Tryz.prog zAD.v (Instr.loadAt 34 (.pointer x26)) w (fun x27=>opB Tryz.prog Value.pointer (Instr.indexAt 30 (Sl.v x0) (.int .i64 (IntKind.wrap .i64 (x9_2 - 1)))) w (fun x31=>opB Tryz.prog zAD.v (Instr.loadAt 34 (.pointer x31)) w (fun x32=>∃ (r_2:Int),CallQ Tryz.prog x3 [(zAD.v x27),(zAD.v x32)] w (.int .i64 r_2)∧(zA6 x0 x1 x2 x3 Ret x10 Kl1 x9_2 Kl3 (!(decide (r_2<0))) w)))))))∧(¬ (x9_2<x2)→(zA6 x0 x1 x2 x3 Ret x10 Kl1 x9_2 Kl3 false w))
def zBy (x0:Sl) (x1:Int) (x2:Int) (x3:Value) (Ret:Bool→World→Prop) (x9:Int) (x10:Int) (w:World) (Kl1:Int→Int→World→Prop):Prop:=
 ((x10<5)→(∃ (I:Int→World→Prop) (μ:Int→World→Nat),I x9 w∧∀ (x9_2:Int) w,I x9_2 w→zB1 x0 x1 x2 x3 Ret x10 Kl1 x9_2 w (fun x9_2' w'=>I x9_2' w'∧μ x9_2' w'<μ x9_2 w)))∧(¬ (x10<5)→(Ret false w))
def zD5 (x0:Sl) (x1:Int) (x2:Int) (x3:Value) (w:World) (Ret:Bool→World→Prop):Prop:=
 ∃ (I:Int→Int→World→Prop) (μ:Int→Int→World→Nat),I (IntKind.wrap .i64 (x1+1)) 0 w∧∀ (x9:Int) (x10:Int) w,I x9 x10 w→zBy x0 x1 x2 x3 Ret x9 x10 w (fun x9' x10' w'=>I x9' x10' w'∧μ x9' x10' w'<μ x9 x10 w)
set_option maxRecDepth 100000 in
theorem zGh (x0:Sl) (x1:Int) (x2:Int) (x3:Value) (w:World) (Ret:Bool→World→Prop) (H:zD5 x0 x1 x2 x3 w Ret):Cl Tryz.prog 133 [(Sl.v x0),(.int .i64 x1),(.int .i64 x2),x3].toArray w (fun e w'=>∃ (r0:Bool),e=.returned (.bool r0)∧Ret r0 w'):=by
 unfold zD5 at H
 refine zAY 141 (zipE 0 [(Sl.v x0),(.int .i64 x1),(.int .i64 x2),x3]) Tryz.func133 rfl rfl (by rfl) rfl ?_
 intro a g
 replace g:Sat [] 141 [(0,(Sl.v x0)),(1,(.int .i64 x1)),(2,(.int .i64 x2)),(3,x3)] a:=g
 refine zAF (zAA (g.as_ rfl fun _ g=>(zAG (tn (zAF (zAA (g.mv rfl fun _ g=>(g.pur (zAn g rfl rfl) fun _ g=>(g.as_ rfl fun _ g=>(zAG (tn (zAF (zAF (zAA (g.as_ rfl fun _ g=>(zAG (tn (zAN ?_))))))))))))))))))
 obtain ⟨I_l1,μ_l1,h0,hb⟩:=H
 refine zBl (ds:=[]) (N:=141) (σ:=Int × Int) (fun s=>[(9,(.int .i64 s.1)),(10,(.int .i64 s.2)),(0,(Sl.v x0)),(1,(.int .i64 x1)),(2,(.int .i64 x2)),(3,x3)]) (fun s w=>I_l1 s.1 s.2 w) (fun s w=>μ_l1 s.1 s.2 w) ((IntKind.wrap .i64 (x1+1)),0) h0 (g.weak ⟨rfl,rfl,rfl,rfl,rfl,rfl,trivial⟩) ?_
 rintro ⟨x9,x10⟩ w a hI g
 try dsimp only at hI g
 obtain ⟨Kl1,hK_l1⟩:∃ K:Int→Int→World→Prop,K=(fun x9' x10' w'=>I_l1 x9' x10' w'∧μ_l1 x9' x10' w'<μ_l1 x9 x10 w):=⟨_,rfl⟩
 have H:zBy x0 x1 x2 x3 Ret x9 x10 w Kl1:=by rw [hK_l1];exact hb x9 x10 w hI
 clear hb h0 hI
 unfold zBy at H
 refine zAF (zAF (zAA (g.mv rfl fun _ g=>(g.pur (zDp g rfl rfl) fun _ g=>(zAG (tn (zAR g rfl (fun hc=>?_) (fun hc=>?_))))))))
 ·replace H:=H.1 hc
  refine zAP (tn (zBG (ds:=[]) (N:=141) (σ:=Int) (fun s=>[(9,(.int .i64 s)),(0,(Sl.v x0)),(1,(.int .i64 x1)),(2,(.int .i64 x2)),(3,x3),(10,(.int .i64 x10))]) (fun s w=>zAd x10 Kl1 s w) ?_ (fun hj2=>?_)))
  ·intro x9_1 w a H g
   try dsimp only at H g
   unfold zAd at H
   refine zAA (g.mv rfl fun _ g=>(g.pur (zAn g rfl rfl) fun _ g=>(g.as_ rfl fun _ g=>?_)))
   rw [hK_l1] at H
   exact zAG (tn ⟨(x9_1,(IntKind.wrap .i64 (x10+1))),g.weak ⟨rfl,rfl,rfl,rfl,rfl,rfl,trivial⟩,H⟩)
  ·refine zAN (zAF (zAN ?_))
   obtain ⟨I_l3,μ_l3,h0,hb⟩:=H
   refine zBl (ds:=[]) (N:=141) (σ:=Int) (fun s=>[(9,(.int .i64 s)),(0,(Sl.v x0)),(1,(.int .i64 x1)),(2,(.int .i64 x2)),(3,x3),(10,(.int .i64 x10))]) (fun s w=>I_l3 s w) (fun s w=>μ_l3 s w) x9 h0 (g.weak ⟨rfl,rfl,rfl,rfl,rfl,rfl,trivial⟩) ?_
   intro x9_2 w a hI g
   try dsimp only at hI g
   obtain ⟨Kl3,hK_l3⟩:∃ K:Int→World→Prop,K=(fun x9_2' w'=>I_l3 x9_2' w'∧μ_l3 x9_2' w'<μ_l3 x9_2 w):=⟨_,rfl⟩
   have H:zB1 x0 x1 x2 x3 Ret x10 Kl1 x9_2 w Kl3:=by rw [hK_l3];exact hb x9_2 w hI
   clear hb h0 hI
   unfold zB1 at H
   refine zAF (zAF (zEB (by kernel_rfl) (by kernel_rfl) (g.qm rfl fun _ g=>(g.qm rfl fun _ g=>(g.qpur (zDp g rfl rfl) fun _ g=>(g.qm rfl fun _ g=>(WQ.join (ds:=[]) (N:=141) (σ:=Bool) (fun s=>[(36,(.bool s)),(0,(Sl.v x0)),(1,(.int .i64 x1)),(2,(.int .i64 x2)),(3,x3),(9,(.int .i64 x9_2)),(10,(.int .i64 x10))]) (fun s=>zA6 x0 x1 x2 x3 Ret x10 Kl1 x9_2 Kl3 s w) 14 ?_ (fun hr4=>?_))))))))
   ·intro x36 a H g
    try dsimp only at H g
    unfold zA6 at H
    refine zED (fun w hB=>?_)
    replace H:=H w hB
    refine (tn (zAV g rfl (fun hc=>?_) (fun hc=>?_)))
    ·replace H:=H.1 hc
     refine zAP (tn (zAN (zAA (g.mv rfl fun _ g=>(g.pur (zAn g rfl rfl) fun _ g=>(g.as_ rfl fun _ g=>?_))))))
     rw [hK_l3] at H
     exact zAG (bn (tn ⟨(IntKind.wrap .i64 (x9_2+1)),g.weak ⟨rfl,rfl,rfl,rfl,rfl,rfl,trivial⟩,H⟩))
    ·replace H:=H.2 hc
     refine zBJ (te (te (be (tn (zAF (zAF (zAA (g.mv rfl fun _ g=>(g.mv rfl fun _ g=>(g.pur (zGX g rfl rfl) fun _ g=>(zAG (tn (zAR g rfl (fun hc=>?_) (fun hc=>?_))))))))))))))
     ·replace H:=H.1 hc
      exact zAF (zAA (g.as_ rfl fun _ g=>(zAG (tn (zAf (tr (br (tr (tr (br (tr (zAt g rfl rfl ⟨_,rfl,H⟩))))))))))))
     ·replace H:=H.2 hc
      refine zAP (tn (zAF (zAF (zAA (g.mv rfl fun _ g=>(g.mv rfl fun _ g=>(g.pur (zAv g rfl rfl) fun _ g=>(g.pur (zDp g rfl rfl) fun _ g=>(zAG (tn (zAR g rfl (fun hc=>?_) (fun hc=>?_))))))))))))
      ·replace H:=H.1 hc
       exact zAF (zAA (g.as_ rfl fun _ g=>(zAG (tn (zAf (tr (br (tr (tr (br (tr (zAt g rfl rfl ⟨_,rfl,H⟩))))))))))))
      ·replace H:=H.2 hc
       refine zAP (tn (zBG (ds:=[]) (N:=141) (σ:=Unit) (fun s=>[(0,(Sl.v x0)),(1,(.int .i64 x1)),(2,(.int .i64 x2)),(3,x3),(9,(.int .i64 x9_2)),(10,(.int .i64 x10))]) (fun s w=>zA3 x0 x1 x2 x3 x10 Kl1 x9_2 w) ?_ (fun hj5=>?_)))
       ·rintro ⟨⟩ w a H g
        try dsimp only at H g
        unfold zA3 at H
        refine zBG (ds:=[]) (N:=141) (σ:=Unit) (fun s=>[(0,(Sl.v x0)),(1,(.int .i64 x1)),(2,(.int .i64 x2)),(3,x3),(9,(.int .i64 x9_2)),(10,(.int .i64 x10))]) (fun s w=>zAX x0 x2 x3 x10 Kl1 x9_2 w) ?_ (fun hj6=>?_)
        ·rintro ⟨⟩ w a H g
         try dsimp only at H g
         unfold zAX at H
         refine zAF (zAA (g.mv rfl fun _ g=>(g.mv rfl fun _ g=>(g.pur (zAv g rfl rfl) fun _ g=>(g.pur (zF7 g rfl rfl) fun _ g=>(zAG (tn (zAR g rfl (fun hc=>?_) (fun hc=>?_)))))))))
         ·replace H:=H.1 hc
          refine zAF (zAA (g.mv rfl fun _ g=>(g.pur (zAn g rfl rfl) fun _ g=>(g.as_ rfl fun _ g=>(zAG (tn (zAN ?_)))))))
          obtain ⟨I_l7,μ_l7,h0,hb⟩:=H
          refine zBl (ds:=[]) (N:=141) (σ:=Int) (fun s=>[(12,(.int .i64 s)),(0,(Sl.v x0)),(1,(.int .i64 x1)),(2,(.int .i64 x2)),(3,x3),(9,(.int .i64 x9_2)),(10,(.int .i64 x10))]) (fun s w=>I_l7 s w) (fun s w=>μ_l7 s w) (IntKind.wrap .i64 (x9_2+1)) h0 (g.weak ⟨rfl,rfl,rfl,rfl,rfl,rfl,rfl,trivial⟩) ?_
          intro x12 w a hI g
          try dsimp only at hI g
          obtain ⟨Kl7,hK_l7⟩:∃ K:Int→World→Prop,K=(fun x12' w'=>I_l7 x12' w'∧μ_l7 x12' w'<μ_l7 x12 w):=⟨_,rfl⟩
          have H:zB0 x0 x2 x3 x10 Kl1 x9_2 x12 w Kl7:=by rw [hK_l7];exact hb x12 w hI
          clear hb h0 hI
          unfold zB0 at H
          refine zAF (zAF (zAA (g.mv rfl fun _ g=>(g.mv rfl fun _ g=>(g.pur (zDp g rfl rfl) fun _ g=>(zAG (tn (zAR g rfl (fun hc=>?_) (fun hc=>?_)))))))))
          ·replace H:=H.1 hc
           refine zAP (tn (zBG (ds:=[]) (N:=141) (σ:=Unit) (fun s=>[(0,(Sl.v x0)),(1,(.int .i64 x1)),(2,(.int .i64 x2)),(3,x3),(9,(.int .i64 x9_2)),(10,(.int .i64 x10)),(12,(.int .i64 x12))]) (fun s w=>zA5 x12 Kl7 w) ?_ (fun hj8=>?_)))
           ·rintro ⟨⟩ w a H g
            try dsimp only at H g
            unfold zA5 at H
            refine zAA (g.mv rfl fun _ g=>(g.pur (zAn g rfl rfl) fun _ g=>(g.as_ rfl fun _ g=>?_)))
            rw [hK_l7] at H
            exact zAG (tn ⟨(IntKind.wrap .i64 (x12+1)),g.weak ⟨rfl,rfl,rfl,rfl,rfl,rfl,rfl,trivial⟩,H⟩)
           ·refine zAN (zAF (zAF (zEB (by kernel_rfl) (by kernel_rfl) (g.qm rfl fun _ g=>(g.qm rfl fun _ g=>(g.qm rfl fun _ g=>(g.qop (zAC g rfl rfl) H fun x115 a H g=>(g.qop (zAI g rfl) H fun x116 a H g=>(g.qm rfl fun _ g=>(g.qm rfl fun _ g=>(g.qpur (zAv g rfl rfl) fun _ g=>(g.qop (zAC g rfl rfl) H fun x120 a H g=>(g.qop (zAI g rfl) H fun x121 a H g=>?_)))))))))))))
            obtain ⟨r,hc,H⟩:=H
            refine g.qcallV rfl rfl hc fun _ g=>g.qpur (zDp g rfl rfl) fun _ g=>g.qpur (zGp g rfl) fun _ g=>zED (fun w hB=>?_)
            replace H:=H w hB
            refine (tn (zAV g rfl (fun hc=>?_) (fun hc=>?_)))
            ·replace H:=H.1 hc
             exact zBJ (te (bo (te (te (be (bn (tn (hj2 x9_2 _ _ H (g.weak ⟨rfl,rfl,rfl,rfl,rfl,rfl,trivial⟩)))))))))
            ·replace H:=H.2 hc
             refine zAP (tn (zKK 18 fun w hB=>?_))
             replace H:=H w hB
             refine g.ap 0 rfl (zAL g rfl) fun _ g=>g.ap 1 rfl (zAL g rfl) fun _ g=>g.ap 2 rfl (zAL g rfl) fun _ g=>g.ap 3 rfl (zAL g rfl) fun _ g=>g.ap 4 rfl (zAv g rfl rfl) fun _ g=>g.ap 5 rfl (zAL g rfl) fun _ g=>g.ap 6 rfl (zAL g rfl) fun _ g=>g.ap 7 rfl (zAv g rfl rfl) fun _ g=>g.ao 8 rfl (zAC g rfl rfl) H fun x133 a H g=>g.ap 10 rfl (zAL g rfl) fun _ g=>g.ap 11 rfl (zAL g rfl) fun _ g=>g.ao 12 rfl (zAC g rfl rfl) H fun x137 a H g=>WA.tw 9 13 rfl rfl ?_ ?_
             ·replace H:=H.1
              intro K hK
              exact g.wop (zAI g rfl) H fun x134 w a H g=>hK _ _ (g.o1 13 rfl (zAI g rfl) H fun x138 w a H g=>(g.ao 14 rfl (zAC g rfl rfl) H fun x139 a H g=>(g.o1u 15 rfl (zAM g rfl rfl) H fun w a H g=>(g.ao 16 rfl (zAC g rfl rfl) H fun x140 a H g=>(g.o1u 17 rfl (zAM g rfl rfl) H fun w a H g=>(WA.ni ((bn (tn (hj8 () _ _ H (g.weak ⟨rfl,rfl,rfl,rfl,rfl,rfl,rfl,trivial⟩)))))))))))
             ·replace H:=H.2
              intro K hK
              exact g.wop (zAI g rfl) H fun x138_1 w a H g=>hK _ _ (g.o1 9 rfl (zAI g rfl) H fun x134_1 w a H g=>(g.ao 14 rfl (zAC g rfl rfl) H fun x139_1 a H g=>(g.o1u 15 rfl (zAM g rfl rfl) H fun w a H g=>(g.ao 16 rfl (zAC g rfl rfl) H fun x140_1 a H g=>(g.o1u 17 rfl (zAM g rfl rfl) H fun w a H g=>(WA.ni ((bn (tn (hj8 () _ _ H (g.weak ⟨rfl,rfl,rfl,rfl,rfl,rfl,rfl,trivial⟩)))))))))))
          ·replace H:=H.2 hc
           exact zBJ (te (te (be (bn (tn (hj2 x9_2 _ _ H (g.weak ⟨rfl,rfl,rfl,rfl,rfl,rfl,trivial⟩)))))))
         ·replace H:=H.2 hc
          exact zAP (bn (tn (hj2 x9_2 _ _ H (g.weak ⟨rfl,rfl,rfl,rfl,rfl,rfl,trivial⟩))))
        ·refine zAF (zAA (g.mv rfl fun _ g=>(g.mv rfl fun _ g=>(g.pur (zAv g rfl rfl) fun _ g=>(g.pur (zF7 g rfl rfl) fun _ g=>(zAG (tn (zAR g rfl (fun hc=>?_) (fun hc=>?_)))))))))
         ·replace H:=H.1 hc
          refine zAF (zAA (g.mv rfl fun _ g=>(g.pur (zAv g rfl rfl) fun _ g=>(g.as_ rfl fun _ g=>(zAG (tn (zAN ?_)))))))
          obtain ⟨I_l9,μ_l9,h0,hb⟩:=H
          refine zBl (ds:=[]) (N:=141) (σ:=Int) (fun s=>[(11,(.int .i64 s)),(0,(Sl.v x0)),(1,(.int .i64 x1)),(2,(.int .i64 x2)),(3,x3),(9,(.int .i64 x9_2)),(10,(.int .i64 x10))]) (fun s w=>I_l9 s w) (fun s w=>μ_l9 s w) (IntKind.wrap .i64 (x9_2 - 1)) h0 (g.weak ⟨rfl,rfl,rfl,rfl,rfl,rfl,rfl,trivial⟩) ?_
          intro x11 w a hI g
          try dsimp only at hI g
          obtain ⟨Kl9,hK_l9⟩:∃ K:Int→World→Prop,K=(fun x11' w'=>I_l9 x11' w'∧μ_l9 x11' w'<μ_l9 x11 w):=⟨_,rfl⟩
          have H:zBz x0 x2 x3 x10 Kl1 x9_2 x11 w Kl9:=by rw [hK_l9];exact hb x11 w hI
          clear hb h0 hI
          unfold zBz at H
          refine zAF (zAF (zAA (g.mv rfl fun _ g=>(g.pur (zF7 g rfl rfl) fun _ g=>(zAG (tn (zAR g rfl (fun hc=>?_) (fun hc=>?_))))))))
          ·replace H:=H.1 hc
           refine zAP (tn (zBG (ds:=[]) (N:=141) (σ:=Unit) (fun s=>[(0,(Sl.v x0)),(1,(.int .i64 x1)),(2,(.int .i64 x2)),(3,x3),(9,(.int .i64 x9_2)),(10,(.int .i64 x10)),(11,(.int .i64 x11))]) (fun s w=>zA2 x11 Kl9 w) ?_ (fun hj10=>?_)))
           ·rintro ⟨⟩ w a H g
            try dsimp only at H g
            unfold zA2 at H
            refine zAA (g.mv rfl fun _ g=>(g.pur (zAv g rfl rfl) fun _ g=>(g.as_ rfl fun _ g=>?_)))
            rw [hK_l9] at H
            exact zAG (tn ⟨(IntKind.wrap .i64 (x11 - 1)),g.weak ⟨rfl,rfl,rfl,rfl,rfl,rfl,rfl,trivial⟩,H⟩)
           ·refine zAN (zAF (zAF (zEB (by kernel_rfl) (by kernel_rfl) (g.qm rfl fun _ g=>(g.qm rfl fun _ g=>(g.qm rfl fun _ g=>(g.qop (zAC g rfl rfl) H fun x75 a H g=>(g.qop (zAI g rfl) H fun x76 a H g=>(g.qm rfl fun _ g=>(g.qm rfl fun _ g=>(g.qpur (zAv g rfl rfl) fun _ g=>(g.qop (zAC g rfl rfl) H fun x80 a H g=>(g.qop (zAI g rfl) H fun x81 a H g=>?_)))))))))))))
            obtain ⟨r_1,hc,H⟩:=H
            refine g.qcallV rfl rfl hc fun _ g=>g.qpur (zDp g rfl rfl) fun _ g=>g.qpur (zGp g rfl) fun _ g=>zED (fun w hB=>?_)
            replace H:=H w hB
            refine (tn (zAV g rfl (fun hc=>?_) (fun hc=>?_)))
            ·replace H:=H.1 hc
             exact zBJ (te (bo (te (te (be (tn (hj6 () _ _ H (g.weak ⟨rfl,rfl,rfl,rfl,rfl,rfl,trivial⟩))))))))
            ·replace H:=H.2 hc
             refine zAP (tn (zKK 18 fun w hB=>?_))
             replace H:=H w hB
             refine g.ap 0 rfl (zAL g rfl) fun _ g=>g.ap 1 rfl (zAL g rfl) fun _ g=>g.ap 2 rfl (zAL g rfl) fun _ g=>g.ap 3 rfl (zAL g rfl) fun _ g=>g.ap 4 rfl (zAv g rfl rfl) fun _ g=>g.ap 5 rfl (zAL g rfl) fun _ g=>g.ap 6 rfl (zAL g rfl) fun _ g=>g.ap 7 rfl (zAv g rfl rfl) fun _ g=>g.ao 8 rfl (zAC g rfl rfl) H fun x93 a H g=>g.ap 10 rfl (zAL g rfl) fun _ g=>g.ap 11 rfl (zAL g rfl) fun _ g=>g.ao 12 rfl (zAC g rfl rfl) H fun x97 a H g=>WA.tw 9 13 rfl rfl ?_ ?_
             ·replace H:=H.1
              intro K hK
              exact g.wop (zAI g rfl) H fun x94 w a H g=>hK _ _ (g.o1 13 rfl (zAI g rfl) H fun x98 w a H g=>(g.ao 14 rfl (zAC g rfl rfl) H fun x99 a H g=>(g.o1u 15 rfl (zAM g rfl rfl) H fun w a H g=>(g.ao 16 rfl (zAC g rfl rfl) H fun x100 a H g=>(g.o1u 17 rfl (zAM g rfl rfl) H fun w a H g=>(WA.ni ((bn (tn (hj10 () _ _ H (g.weak ⟨rfl,rfl,rfl,rfl,rfl,rfl,rfl,trivial⟩)))))))))))
             ·replace H:=H.2
              intro K hK
              exact g.wop (zAI g rfl) H fun x98_1 w a H g=>hK _ _ (g.o1 9 rfl (zAI g rfl) H fun x94_1 w a H g=>(g.ao 14 rfl (zAC g rfl rfl) H fun x99_1 a H g=>(g.o1u 15 rfl (zAM g rfl rfl) H fun w a H g=>(g.ao 16 rfl (zAC g rfl rfl) H fun x100_1 a H g=>(g.o1u 17 rfl (zAM g rfl rfl) H fun w a H g=>(WA.ni ((bn (tn (hj10 () _ _ H (g.weak ⟨rfl,rfl,rfl,rfl,rfl,rfl,rfl,trivial⟩)))))))))))
          ·replace H:=H.2 hc
           exact zBJ (te (te (be (tn (hj6 () _ _ H (g.weak ⟨rfl,rfl,rfl,rfl,rfl,rfl,trivial⟩))))))
         ·replace H:=H.2 hc
          exact zAP (tn (hj6 () _ _ H (g.weak ⟨rfl,rfl,rfl,rfl,rfl,rfl,trivial⟩)))
       ·refine zKK 18 fun w hB=>?_
        replace H:=H w hB
        refine g.ap 0 rfl (zAL g rfl) fun _ g=>g.ap 1 rfl (zAL g rfl) fun _ g=>g.ap 2 rfl (zAL g rfl) fun _ g=>g.ap 3 rfl (zAL g rfl) fun _ g=>g.ap 4 rfl (zAv g rfl rfl) fun _ g=>g.ap 5 rfl (zAL g rfl) fun _ g=>g.ap 6 rfl (zAL g rfl) fun _ g=>g.ap 7 rfl (zAv g rfl rfl) fun _ g=>g.ao 8 rfl (zAC g rfl rfl) H fun x54 a H g=>g.ap 10 rfl (zAL g rfl) fun _ g=>g.ap 11 rfl (zAL g rfl) fun _ g=>g.ao 12 rfl (zAC g rfl rfl) H fun x58 a H g=>WA.tw 9 13 rfl rfl ?_ ?_
        ·replace H:=H.1
         intro K hK
         exact g.wop (zAI g rfl) H fun x55 w a H g=>hK _ _ (g.o1 13 rfl (zAI g rfl) H fun x59 w a H g=>(g.ao 14 rfl (zAC g rfl rfl) H fun x60 a H g=>(g.o1u 15 rfl (zAM g rfl rfl) H fun w a H g=>(g.ao 16 rfl (zAC g rfl rfl) H fun x61 a H g=>(g.o1u 17 rfl (zAM g rfl rfl) H fun w a H g=>(WA.ni ((tn (hj5 () _ _ H (g.weak ⟨rfl,rfl,rfl,rfl,rfl,rfl,trivial⟩))))))))))
        ·replace H:=H.2
         intro K hK
         exact g.wop (zAI g rfl) H fun x59_1 w a H g=>hK _ _ (g.o1 9 rfl (zAI g rfl) H fun x55_1 w a H g=>(g.ao 14 rfl (zAC g rfl rfl) H fun x60_1 a H g=>(g.o1u 15 rfl (zAM g rfl rfl) H fun w a H g=>(g.ao 16 rfl (zAC g rfl rfl) H fun x61_1 a H g=>(g.o1u 17 rfl (zAM g rfl rfl) H fun w a H g=>(WA.ni ((tn (hj5 () _ _ H (g.weak ⟨rfl,rfl,rfl,rfl,rfl,rfl,trivial⟩))))))))))
   ·rcases Classical.em ((x9_2<x2)) with hbr4|hbr4
    ·replace H:=H.1 hbr4
     replace g:=g.bool (b:=true) (t:=22) rfl (decide_eq_true hbr4)
     refine g.qon (by rfl) (by rfl) (g.qm rfl fun _ g=>(g.qon (by rfl) (by rfl) (g.qm rfl fun _ g=>(g.qon (by rfl) (by rfl) (g.qm rfl fun _ g=>(g.qon (by rfl) (by rfl) (g.qop (zAC g rfl rfl) H fun x26 a H g=>(g.qon (by rfl) (by rfl) (g.qop (zAI g rfl) H fun x27 a H g=>(g.qon (by rfl) (by rfl) (g.qm rfl fun _ g=>(g.qon (by rfl) (by rfl) (g.qm rfl fun _ g=>(g.qon (by rfl) (by rfl) (g.qpur (zAv g rfl rfl) fun _ g=>(g.qon (by rfl) (by rfl) (g.qop (zAC g rfl rfl) H fun x31 a H g=>(g.qon (by rfl) (by rfl) (g.qop (zAI g rfl) H fun x32 a H g=>(g.qon (by rfl) (by rfl) ?_))))))))))))))))))))
     obtain ⟨r_2,hc,H⟩:=H
     exact g.qcallV rfl rfl hc fun _ g=>g.qon (by rfl) (by rfl) (g.qpur (zDp g rfl rfl) fun _ g=>(g.qon (by rfl) (by rfl) (g.qpur (zGp g rfl) fun _ g=>(g.qpur (zAj g rfl rfl) fun _ g=>(hr4 (!(decide (r_2<0))) _ H (g.weak ⟨rfl,rfl,rfl,rfl,rfl,rfl,rfl,trivial⟩))))))
    ·replace H:=H.2 hbr4
     replace g:=g.bool (b:=false) (t:=22) rfl (decide_eq_false hbr4)
     exact g.qoff (by rfl) (by rfl) (by decide) (fun _ g=>(g.qoff (by rfl) (by rfl) (by decide) (fun _ g=>(g.qoff (by rfl) (by rfl) (by decide) (fun _ g=>(g.qoff (by rfl) (by rfl) (by decide) (fun _ g=>(g.qoff (by rfl) (by rfl) (by decide) (fun _ g=>(g.qoff (by rfl) (by rfl) (by decide) (fun _ g=>(g.qoff (by rfl) (by rfl) (by decide) (fun _ g=>(g.qoff (by rfl) (by rfl) (by decide) (fun _ g=>(g.qoff (by rfl) (by rfl) (by decide) (fun _ g=>(g.qoff (by rfl) (by rfl) (by decide) (fun _ g=>(g.qoff (by rfl) (by rfl) (by decide) (fun _ g=>(g.qoff (by rfl) (by rfl) (by decide) (fun _ g=>(g.qoff (by rfl) (by rfl) (by decide) (fun _ g=>(g.qpur (zAi g rfl rfl) fun _ g=>(hr4 false _ H (g.weak ⟨rfl,rfl,rfl,rfl,rfl,rfl,rfl,trivial⟩))))))))))))))))))))))))))))
 ·replace H:=H.2 hc
  exact zBJ (te (te (be (tn (zAF (zAA (g.as_ rfl fun _ g=>(zAG (tn (zAf (zAt g rfl rfl ⟨_,rfl,H⟩)))))))))))
def zBp (Kl2:Int→Int→World→Prop) (x11_1:Int) (x12_1:Int) (w:World):Prop:=
 Kl2 (IntKind.wrap .i64 (x11_1+1)) (IntKind.wrap .i64 (x12_1 - 1)) w
def zBo (x0:Sl) (Ret:Int→World→Prop) (Kl2:Int→Int→World→Prop) (x11_1:Int) (x12_1:Int) (Kl5:Int→World→Prop) (x65:Bool) (w:World):Prop:=
 nextB w (fun w=>(x65=true→(Kl5 (IntKind.wrap .i64 (x12_1 - 1)) w))∧(x65=false→(((x12_1<x11_1)→(Ret x11_1 w))∧(¬ (x12_1<x11_1)→(nextB w (fun w=>opP Tryz.prog Value.pointer (Instr.indexAt 30 (Sl.v x0) (.int .i64 x12_1)) (fun x77=>opP Tryz.prog Value.pointer (Instr.indexAt 30 (Sl.v x0) (.int .i64 x11_1)) (fun x81=>(opE Tryz.prog zAD.v (Instr.loadAt 34 (.pointer x77)) w (fun x78 w=>opE Tryz.prog zAD.v (Instr.loadAt 34 (.pointer x81)) w (fun x82 w=>opP Tryz.prog Value.pointer (Instr.indexAt 30 (Sl.v x0) (.int .i64 x11_1)) (fun x83=>opU Tryz.prog (Instr.storeAt 34 (.pointer x83) (zAD.v x78)) w (fun w=>opP Tryz.prog Value.pointer (Instr.indexAt 30 (Sl.v x0) (.int .i64 x12_1)) (fun x84=>opU Tryz.prog (Instr.storeAt 34 (.pointer x84) (zAD.v x82)) w (fun w=>zBp Kl2 x11_1 x12_1 w)))))))∧(opE Tryz.prog zAD.v (Instr.loadAt 34 (.pointer x81)) w (fun x82_1 w=>opE Tryz.prog zAD.v (Instr.loadAt 34 (.pointer x77)) w (fun x78_1 w=>opP Tryz.prog Value.pointer (Instr.indexAt 30 (Sl.v x0) (.int .i64 x11_1)) (fun x83_1=>opU Tryz.prog (Instr.storeAt 34 (.pointer x83_1) (zAD.v x78_1)) w (fun w=>opP Tryz.prog Value.pointer (Instr.indexAt 30 (Sl.v x0) (.int .i64 x12_1)) (fun x84_1=>opU Tryz.prog (Instr.storeAt 34 (.pointer x84_1) (zAD.v x82_1)) w (fun w=>zBp Kl2 x11_1 x12_1 w)))))))))))))))
def zC8 (x0:Sl) (x1:Int) (x4:Value) (Ret:Int→World→Prop) (Kl2:Int→Int→World→Prop) (x11_1:Int) (x12_1:Int) (w:World) (Kl5:Int→World→Prop):Prop:=
 ((x11_1≤x12_1)→(opB Tryz.prog Value.pointer (Instr.indexAt 30 (Sl.v x0) (.int .i64 x1)) w (fun x57=>opB Tryz.prog zAD.v (Instr.loadAt 34 (.pointer x57)) w (fun x58=>opB Tryz.prog Value.pointer (Instr.indexAt 30 (Sl.v x0) (.int .i64 x12_1)) w (fun x61=>opB Tryz.prog zAD.v (Instr.loadAt 34 (.pointer x61)) w (fun x62=>∃ (r:Int),CallQ Tryz.prog x4 [(zAD.v x58),(zAD.v x62)] w (.int .i64 r)∧(zBo x0 Ret Kl2 x11_1 x12_1 Kl5 (decide (r<0)) w)))))))∧(¬ (x11_1≤x12_1)→(zBo x0 Ret Kl2 x11_1 x12_1 Kl5 false w))
def zBu (x0:Sl) (x1:Int) (x4:Value) (Ret:Int→World→Prop) (x12:Int) (Kl2:Int→Int→World→Prop) (x11_1:Int) (Kl3:Int→World→Prop) (x47:Bool) (w:World):Prop:=
 nextB w (fun w=>(x47=true→(Kl3 (IntKind.wrap .i64 (x11_1+1)) w))∧(x47=false→(∃ (I:Int→World→Prop) (μ:Int→World→Nat),I x12 w∧∀ (x12_1:Int) w,I x12_1 w→zC8 x0 x1 x4 Ret Kl2 x11_1 x12_1 w (fun x12_1' w'=>I x12_1' w'∧μ x12_1' w'<μ x12_1 w))))
def zC7 (x0:Sl) (x1:Int) (x4:Value) (Ret:Int→World→Prop) (x12:Int) (Kl2:Int→Int→World→Prop) (x11_1:Int) (w:World) (Kl3:Int→World→Prop):Prop:=
 ((x11_1≤x12)→(opB Tryz.prog Value.pointer (Instr.indexAt 30 (Sl.v x0) (.int .i64 x1)) w (fun x38=>opB Tryz.prog zAD.v (Instr.loadAt 34 (.pointer x38)) w (fun x39=>opB Tryz.prog Value.pointer (Instr.indexAt 30 (Sl.v x0) (.int .i64 x11_1)) w (fun x42=>opB Tryz.prog zAD.v (Instr.loadAt 34 (.pointer x42)) w (fun x43=>∃ (r_1:Int),CallQ Tryz.prog x4 [(zAD.v x39),(zAD.v x43)] w (.int .i64 r_1)∧(zBu x0 x1 x4 Ret x12 Kl2 x11_1 Kl3 (!(decide (r_1<0))) w)))))))∧(¬ (x11_1≤x12)→(zBu x0 x1 x4 Ret x12 Kl2 x11_1 Kl3 false w))
def zC6 (x0:Sl) (x1:Int) (x4:Value) (Ret:Int→World→Prop) (x11:Int) (x12:Int) (w:World) (Kl2:Int→Int→World→Prop):Prop:=
 ∃ (I:Int→World→Prop) (μ:Int→World→Nat),I x11 w∧∀ (x11_1:Int) w,I x11_1 w→zC7 x0 x1 x4 Ret x12 Kl2 x11_1 w (fun x11_1' w'=>I x11_1' w'∧μ x11_1' w'<μ x11_1 w)
def zBr (x0:Sl) (x1:Int) (x2:Int) (x4:Value) (Ret:Int→World→Prop) (w:World):Prop:=
 ∃ (I:Int→Int→World→Prop) (μ:Int→Int→World→Nat),I (IntKind.wrap .i64 (x1+1)) (IntKind.wrap .i64 (x2 - 1)) w∧∀ (x11:Int) (x12:Int) w,I x11 x12 w→zC6 x0 x1 x4 Ret x11 x12 w (fun x11' x12' w'=>I x11' x12' w'∧μ x11' x12' w'<μ x11 x12 w)
def zEV (x0:Sl) (x1:Int) (x2:Int) (x3:Int) (x4:Value) (w:World) (Ret:Int→World→Prop):Prop:=
 nextB w (fun w=>opP Tryz.prog Value.pointer (Instr.indexAt 30 (Sl.v x0) (.int .i64 x3)) (fun x19=>opP Tryz.prog Value.pointer (Instr.indexAt 30 (Sl.v x0) (.int .i64 x1)) (fun x23=>(opE Tryz.prog zAD.v (Instr.loadAt 34 (.pointer x19)) w (fun x20 w=>opE Tryz.prog zAD.v (Instr.loadAt 34 (.pointer x23)) w (fun x24 w=>opP Tryz.prog Value.pointer (Instr.indexAt 30 (Sl.v x0) (.int .i64 x1)) (fun x25=>opU Tryz.prog (Instr.storeAt 34 (.pointer x25) (zAD.v x20)) w (fun w=>opP Tryz.prog Value.pointer (Instr.indexAt 30 (Sl.v x0) (.int .i64 x3)) (fun x26=>opU Tryz.prog (Instr.storeAt 34 (.pointer x26) (zAD.v x24)) w (fun w=>zBr x0 x1 x2 x4 Ret w)))))))∧(opE Tryz.prog zAD.v (Instr.loadAt 34 (.pointer x23)) w (fun x24_1 w=>opE Tryz.prog zAD.v (Instr.loadAt 34 (.pointer x19)) w (fun x20_1 w=>opP Tryz.prog Value.pointer (Instr.indexAt 30 (Sl.v x0) (.int .i64 x1)) (fun x25_1=>opU Tryz.prog (Instr.storeAt 34 (.pointer x25_1) (zAD.v x20_1)) w (fun w=>opP Tryz.prog Value.pointer (Instr.indexAt 30 (Sl.v x0) (.int .i64 x3)) (fun x26_1=>opU Tryz.prog (Instr.storeAt 34 (.pointer x26_1) (zAD.v x24_1)) w (fun w=>zBr x0 x1 x2 x4 Ret w))))))))))
set_option maxRecDepth 100000 in
theorem zHU (x0:Sl) (x1:Int) (x2:Int) (x3:Int) (x4:Value) (w:World) (Ret:Int→World→Prop) (H:zEV x0 x1 x2 x3 x4 w Ret):Cl Tryz.prog 134 [(Sl.v x0),(.int .i64 x1),(.int .i64 x2),(.int .i64 x3),x4].toArray w (fun e w'=>∃ (r0:Int),e=.returned (.int .i64 r0)∧Ret r0 w'):=by
 unfold zEV at H
 refine zAY 90 (zipE 0 [(Sl.v x0),(.int .i64 x1),(.int .i64 x2),(.int .i64 x3),x4]) Tryz.func134 rfl rfl (by rfl) rfl ?_
 intro a g
 replace g:Sat [] 90 [(0,(Sl.v x0)),(1,(.int .i64 x1)),(2,(.int .i64 x2)),(3,(.int .i64 x3)),(4,x4)] a:=g
 refine zAF (zAA (g.as_ rfl fun _ g=>(zAG (tn (zBG (ds:=[]) (N:=90) (σ:=Unit) (fun s=>[(0,(Sl.v x0)),(1,(.int .i64 x1)),(2,(.int .i64 x2)),(4,x4)]) (fun s w=>zBr x0 x1 x2 x4 Ret w) ?_ (fun hj1=>?_))))))
 ·rintro ⟨⟩ w a H g
  try dsimp only at H g
  unfold zBr at H
  refine zAF (zAA (g.mv rfl fun _ g=>(g.pur (zAn g rfl rfl) fun _ g=>(g.mv rfl fun _ g=>(g.pur (zAv g rfl rfl) fun _ g=>(g.as_ rfl fun _ g=>(g.as_ rfl fun _ g=>(zAG (tn (zAF (zAN ?_)))))))))))
  obtain ⟨I_l2,μ_l2,h0,hb⟩:=H
  refine zBl (ds:=[]) (N:=90) (σ:=Int × Int) (fun s=>[(11,(.int .i64 s.1)),(12,(.int .i64 s.2)),(0,(Sl.v x0)),(1,(.int .i64 x1)),(4,x4)]) (fun s w=>I_l2 s.1 s.2 w) (fun s w=>μ_l2 s.1 s.2 w) ((IntKind.wrap .i64 (x1+1)),(IntKind.wrap .i64 (x2 - 1))) h0 (g.weak ⟨rfl,rfl,rfl,rfl,rfl,trivial⟩) ?_
  rintro ⟨x11,x12⟩ w a hI g
  try dsimp only at hI g
  obtain ⟨Kl2,hK_l2⟩:∃ K:Int→Int→World→Prop,K=(fun x11' x12' w'=>I_l2 x11' x12' w'∧μ_l2 x11' x12' w'<μ_l2 x11 x12 w):=⟨_,rfl⟩
  have H:zC6 x0 x1 x4 Ret x11 x12 w Kl2:=by rw [hK_l2];exact hb x11 x12 w hI
  clear hb h0 hI
  unfold zC6 at H
  refine zAN (zAF (zAN ?_))
  obtain ⟨I_l3,μ_l3,h0,hb⟩:=H
  refine zBl (ds:=[]) (N:=90) (σ:=Int) (fun s=>[(11,(.int .i64 s)),(0,(Sl.v x0)),(1,(.int .i64 x1)),(4,x4),(12,(.int .i64 x12))]) (fun s w=>I_l3 s w) (fun s w=>μ_l3 s w) x11 h0 (g.weak ⟨rfl,rfl,rfl,rfl,rfl,trivial⟩) ?_
  intro x11_1 w a hI g
  try dsimp only at hI g
  obtain ⟨Kl3,hK_l3⟩:∃ K:Int→World→Prop,K=(fun x11_1' w'=>I_l3 x11_1' w'∧μ_l3 x11_1' w'<μ_l3 x11_1 w):=⟨_,rfl⟩
  have H:zC7 x0 x1 x4 Ret x12 Kl2 x11_1 w Kl3:=by rw [hK_l3];exact hb x11_1 w hI
  clear hb h0 hI
  unfold zC7 at H
  refine zAF (zAF (zEB (by kernel_rfl) (by kernel_rfl) (g.qm rfl fun _ g=>(g.qm rfl fun _ g=>(g.qpur (zJn g rfl rfl) fun _ g=>(g.qm rfl fun _ g=>(WQ.join (ds:=[]) (N:=90) (σ:=Bool) (fun s=>[(47,(.bool s)),(0,(Sl.v x0)),(1,(.int .i64 x1)),(4,x4),(11,(.int .i64 x11_1)),(12,(.int .i64 x12))]) (fun s=>zBu x0 x1 x4 Ret x12 Kl2 x11_1 Kl3 s w) 13 ?_ (fun hr4=>?_))))))))
  ·intro x47 a H g
   try dsimp only at H g
   unfold zBu at H
   refine zED (fun w hB=>?_)
   replace H:=H w hB
   refine (tn (zAV g rfl (fun hc=>?_) (fun hc=>?_)))
   ·replace H:=H.1 hc
    refine zAP (tn (zAN (zAA (g.mv rfl fun _ g=>(g.pur (zAn g rfl rfl) fun _ g=>(g.as_ rfl fun _ g=>?_))))))
    rw [hK_l3] at H
    exact zAG (bn (tn ⟨(IntKind.wrap .i64 (x11_1+1)),g.weak ⟨rfl,rfl,rfl,rfl,rfl,trivial⟩,H⟩))
   ·replace H:=H.2 hc
    refine zBJ (te (te (be (tn (zAF (zAN ?_))))))
    obtain ⟨I_l5,μ_l5,h0,hb⟩:=H
    refine zBl (ds:=[]) (N:=90) (σ:=Int) (fun s=>[(12,(.int .i64 s)),(0,(Sl.v x0)),(1,(.int .i64 x1)),(4,x4),(11,(.int .i64 x11_1))]) (fun s w=>I_l5 s w) (fun s w=>μ_l5 s w) x12 h0 (g.weak ⟨rfl,rfl,rfl,rfl,rfl,trivial⟩) ?_
    intro x12_1 w a hI g
    try dsimp only at hI g
    obtain ⟨Kl5,hK_l5⟩:∃ K:Int→World→Prop,K=(fun x12_1' w'=>I_l5 x12_1' w'∧μ_l5 x12_1' w'<μ_l5 x12_1 w):=⟨_,rfl⟩
    have H:zC8 x0 x1 x4 Ret Kl2 x11_1 x12_1 w Kl5:=by rw [hK_l5];exact hb x12_1 w hI
    clear hb h0 hI
    unfold zC8 at H
    refine zAF (zAF (zEB (by kernel_rfl) (by kernel_rfl) (g.qm rfl fun _ g=>(g.qm rfl fun _ g=>(g.qpur (zJn g rfl rfl) fun _ g=>(g.qm rfl fun _ g=>(WQ.join (ds:=[]) (N:=90) (σ:=Bool) (fun s=>[(65,(.bool s)),(0,(Sl.v x0)),(1,(.int .i64 x1)),(4,x4),(11,(.int .i64 x11_1)),(12,(.int .i64 x12_1))]) (fun s=>zBo x0 Ret Kl2 x11_1 x12_1 Kl5 s w) 12 ?_ (fun hr6=>?_))))))))
    ·intro x65 a H g
     try dsimp only at H g
     unfold zBo at H
     refine zED (fun w hB=>?_)
     replace H:=H w hB
     refine (tn (zAV g rfl (fun hc=>?_) (fun hc=>?_)))
     ·replace H:=H.1 hc
      refine zAP (tn (zAN (zAA (g.mv rfl fun _ g=>(g.pur (zAv g rfl rfl) fun _ g=>(g.as_ rfl fun _ g=>?_))))))
      rw [hK_l5] at H
      exact zAG (bn (tn ⟨(IntKind.wrap .i64 (x12_1 - 1)),g.weak ⟨rfl,rfl,rfl,rfl,rfl,trivial⟩,H⟩))
     ·replace H:=H.2 hc
      refine zBJ (te (te (be (tn (zAF (zAF (zAA (g.mv rfl fun _ g=>(g.mv rfl fun _ g=>(g.pur (zIG g rfl rfl) fun _ g=>(zAG (tn (zAR g rfl (fun hc=>?_) (fun hc=>?_))))))))))))))
      ·replace H:=H.1 hc
       exact zBJ (te (bo (te (be (tn (zAF (zAA (g.mv rfl fun _ g=>(g.as_ rfl fun _ g=>(zAG (tn (zAf (zAt g rfl rfl ⟨_,rfl,H⟩)))))))))))))
      ·replace H:=H.2 hc
       refine zAP (tn (zBG (ds:=[]) (N:=90) (σ:=Unit) (fun s=>[(0,(Sl.v x0)),(1,(.int .i64 x1)),(4,x4),(11,(.int .i64 x11_1)),(12,(.int .i64 x12_1))]) (fun s w=>zBp Kl2 x11_1 x12_1 w) ?_ (fun hj7=>?_)))
       ·rintro ⟨⟩ w a H g
        try dsimp only at H g
        unfold zBp at H
        refine zAF (zAA (g.mv rfl fun _ g=>(g.pur (zAn g rfl rfl) fun _ g=>(g.as_ rfl fun _ g=>(zAG (tn (zAA (g.mv rfl fun _ g=>(g.pur (zAv g rfl rfl) fun _ g=>(g.as_ rfl fun _ g=>?_))))))))))
        rw [hK_l2] at H
        exact zAG (bn (tn ⟨((IntKind.wrap .i64 (x11_1+1)),(IntKind.wrap .i64 (x12_1 - 1))),g.weak ⟨rfl,rfl,rfl,rfl,rfl,trivial⟩,H⟩))
       ·refine zKK 16 fun w hB=>?_
        replace H:=H w hB
        refine g.ap 0 rfl (zAL g rfl) fun _ g=>g.ap 1 rfl (zAL g rfl) fun _ g=>g.ap 2 rfl (zAL g rfl) fun _ g=>g.ap 3 rfl (zAL g rfl) fun _ g=>g.ap 4 rfl (zAL g rfl) fun _ g=>g.ap 5 rfl (zAL g rfl) fun _ g=>g.ao 6 rfl (zAC g rfl rfl) H fun x77 a H g=>g.ap 8 rfl (zAL g rfl) fun _ g=>g.ap 9 rfl (zAL g rfl) fun _ g=>g.ao 10 rfl (zAC g rfl rfl) H fun x81 a H g=>WA.tw 7 11 rfl rfl ?_ ?_
        ·replace H:=H.1
         intro K hK
         exact g.wop (zAI g rfl) H fun x78 w a H g=>hK _ _ (g.o1 11 rfl (zAI g rfl) H fun x82 w a H g=>(g.ao 12 rfl (zAC g rfl rfl) H fun x83 a H g=>(g.o1u 13 rfl (zAM g rfl rfl) H fun w a H g=>(g.ao 14 rfl (zAC g rfl rfl) H fun x84 a H g=>(g.o1u 15 rfl (zAM g rfl rfl) H fun w a H g=>(WA.ni ((tn (hj7 () _ _ H (g.weak ⟨rfl,rfl,rfl,rfl,rfl,trivial⟩))))))))))
        ·replace H:=H.2
         intro K hK
         exact g.wop (zAI g rfl) H fun x82_1 w a H g=>hK _ _ (g.o1 7 rfl (zAI g rfl) H fun x78_1 w a H g=>(g.ao 12 rfl (zAC g rfl rfl) H fun x83_1 a H g=>(g.o1u 13 rfl (zAM g rfl rfl) H fun w a H g=>(g.ao 14 rfl (zAC g rfl rfl) H fun x84_1 a H g=>(g.o1u 15 rfl (zAM g rfl rfl) H fun w a H g=>(WA.ni ((tn (hj7 () _ _ H (g.weak ⟨rfl,rfl,rfl,rfl,rfl,trivial⟩))))))))))
    ·rcases Classical.em ((x11_1≤x12_1)) with hbr6|hbr6
     ·replace H:=H.1 hbr6
      replace g:=g.bool (b:=true) (t:=53) rfl (decide_eq_true hbr6)
      refine g.qon (by rfl) (by rfl) (g.qm rfl fun _ g=>(g.qon (by rfl) (by rfl) (g.qm rfl fun _ g=>(g.qon (by rfl) (by rfl) (g.qm rfl fun _ g=>(g.qon (by rfl) (by rfl) (g.qop (zAC g rfl rfl) H fun x57 a H g=>(g.qon (by rfl) (by rfl) (g.qop (zAI g rfl) H fun x58 a H g=>(g.qon (by rfl) (by rfl) (g.qm rfl fun _ g=>(g.qon (by rfl) (by rfl) (g.qm rfl fun _ g=>(g.qon (by rfl) (by rfl) (g.qop (zAC g rfl rfl) H fun x61 a H g=>(g.qon (by rfl) (by rfl) (g.qop (zAI g rfl) H fun x62 a H g=>(g.qon (by rfl) (by rfl) ?_))))))))))))))))))
      obtain ⟨r,hc,H⟩:=H
      exact g.qcallV rfl rfl hc fun _ g=>g.qon (by rfl) (by rfl) (g.qpur (zDp g rfl rfl) fun _ g=>(g.qpur (zAj g rfl rfl) fun _ g=>(hr6 (decide (r<0)) _ H (g.weak ⟨rfl,rfl,rfl,rfl,rfl,rfl,trivial⟩))))
     ·replace H:=H.2 hbr6
      replace g:=g.bool (b:=false) (t:=53) rfl (decide_eq_false hbr6)
      exact g.qoff (by rfl) (by rfl) (by decide) (fun _ g=>(g.qoff (by rfl) (by rfl) (by decide) (fun _ g=>(g.qoff (by rfl) (by rfl) (by decide) (fun _ g=>(g.qoff (by rfl) (by rfl) (by decide) (fun _ g=>(g.qoff (by rfl) (by rfl) (by decide) (fun _ g=>(g.qoff (by rfl) (by rfl) (by decide) (fun _ g=>(g.qoff (by rfl) (by rfl) (by decide) (fun _ g=>(g.qoff (by rfl) (by rfl) (by decide) (fun _ g=>(g.qoff (by rfl) (by rfl) (by decide) (fun _ g=>(g.qoff (by rfl) (by rfl) (by decide) (fun _ g=>(g.qoff (by rfl) (by rfl) (by decide) (fun _ g=>(g.qpur (zAi g rfl rfl) fun _ g=>(hr6 false _ H (g.weak ⟨rfl,rfl,rfl,rfl,rfl,rfl,trivial⟩))))))))))))))))))))))))
  ·rcases Classical.em ((x11_1≤x12)) with hbr4|hbr4
   ·replace H:=H.1 hbr4
    replace g:=g.bool (b:=true) (t:=34) rfl (decide_eq_true hbr4)
    refine g.qon (by rfl) (by rfl) (g.qm rfl fun _ g=>(g.qon (by rfl) (by rfl) (g.qm rfl fun _ g=>(g.qon (by rfl) (by rfl) (g.qm rfl fun _ g=>(g.qon (by rfl) (by rfl) (g.qop (zAC g rfl rfl) H fun x38 a H g=>(g.qon (by rfl) (by rfl) (g.qop (zAI g rfl) H fun x39 a H g=>(g.qon (by rfl) (by rfl) (g.qm rfl fun _ g=>(g.qon (by rfl) (by rfl) (g.qm rfl fun _ g=>(g.qon (by rfl) (by rfl) (g.qop (zAC g rfl rfl) H fun x42 a H g=>(g.qon (by rfl) (by rfl) (g.qop (zAI g rfl) H fun x43 a H g=>(g.qon (by rfl) (by rfl) ?_))))))))))))))))))
    obtain ⟨r_1,hc,H⟩:=H
    exact g.qcallV rfl rfl hc fun _ g=>g.qon (by rfl) (by rfl) (g.qpur (zDp g rfl rfl) fun _ g=>(g.qon (by rfl) (by rfl) (g.qpur (zGp g rfl) fun _ g=>(g.qpur (zAj g rfl rfl) fun _ g=>(hr4 (!(decide (r_1<0))) _ H (g.weak ⟨rfl,rfl,rfl,rfl,rfl,rfl,trivial⟩))))))
   ·replace H:=H.2 hbr4
    replace g:=g.bool (b:=false) (t:=34) rfl (decide_eq_false hbr4)
    exact g.qoff (by rfl) (by rfl) (by decide) (fun _ g=>(g.qoff (by rfl) (by rfl) (by decide) (fun _ g=>(g.qoff (by rfl) (by rfl) (by decide) (fun _ g=>(g.qoff (by rfl) (by rfl) (by decide) (fun _ g=>(g.qoff (by rfl) (by rfl) (by decide) (fun _ g=>(g.qoff (by rfl) (by rfl) (by decide) (fun _ g=>(g.qoff (by rfl) (by rfl) (by decide) (fun _ g=>(g.qoff (by rfl) (by rfl) (by decide) (fun _ g=>(g.qoff (by rfl) (by rfl) (by decide) (fun _ g=>(g.qoff (by rfl) (by rfl) (by decide) (fun _ g=>(g.qoff (by rfl) (by rfl) (by decide) (fun _ g=>(g.qoff (by rfl) (by rfl) (by decide) (fun _ g=>(g.qpur (zAi g rfl rfl) fun _ g=>(hr4 false _ H (g.weak ⟨rfl,rfl,rfl,rfl,rfl,rfl,trivial⟩))))))))))))))))))))))))))
 ·refine zKK 16 fun w hB=>?_
  replace H:=H w hB
  refine g.ap 0 rfl (zAL g rfl) fun _ g=>g.ap 1 rfl (zAL g rfl) fun _ g=>g.ap 2 rfl (zAL g rfl) fun _ g=>g.ap 3 rfl (zAL g rfl) fun _ g=>g.ap 4 rfl (zAL g rfl) fun _ g=>g.ap 5 rfl (zAL g rfl) fun _ g=>g.ao 6 rfl (zAC g rfl rfl) H fun x19 a H g=>g.ap 8 rfl (zAL g rfl) fun _ g=>g.ap 9 rfl (zAL g rfl) fun _ g=>g.ao 10 rfl (zAC g rfl rfl) H fun x23 a H g=>WA.tw 7 11 rfl rfl ?_ ?_
  ·replace H:=H.1
   intro K hK
   exact g.wop (zAI g rfl) H fun x20 w a H g=>hK _ _ (g.o1 11 rfl (zAI g rfl) H fun x24 w a H g=>(g.ao 12 rfl (zAC g rfl rfl) H fun x25 a H g=>(g.o1u 13 rfl (zAM g rfl rfl) H fun w a H g=>(g.ao 14 rfl (zAC g rfl rfl) H fun x26 a H g=>(g.o1u 15 rfl (zAM g rfl rfl) H fun w a H g=>(WA.ni ((tn (hj1 () _ _ H (g.weak ⟨rfl,rfl,rfl,rfl,trivial⟩))))))))))
  ·replace H:=H.2
   intro K hK
   exact g.wop (zAI g rfl) H fun x24_1 w a H g=>hK _ _ (g.o1 7 rfl (zAI g rfl) H fun x20_1 w a H g=>(g.ao 12 rfl (zAC g rfl rfl) H fun x25_1 a H g=>(g.o1u 13 rfl (zAM g rfl rfl) H fun w a H g=>(g.ao 14 rfl (zAC g rfl rfl) H fun x26_1 a H g=>(g.o1u 15 rfl (zAM g rfl rfl) H fun w a H g=>(WA.ni ((tn (hj1 () _ _ H (g.weak ⟨rfl,rfl,rfl,rfl,trivial⟩))))))))))
def zC4 (Ret:Int→Bool→World→Prop) (x13:Int) (w:World):Prop:=
 Ret x13 true w
def zCi (Ret:Int→Bool→World→Prop) (x13_2:Int) (w:World):Prop:=
 Ret x13_2 false w
def zCe (Kl8:Int→Int→World→Prop) (x12_2:Int) (x13_2:Int) (w:World):Prop:=
 Kl8 (IntKind.wrap .i64 (x12_2+1)) (IntKind.wrap .i64 (x13_2 - 1)) w
def zCk (x0:Sl) (x1:Int) (Ret:Int→Bool→World→Prop) (Kl8:Int→Int→World→Prop) (x12_2:Int) (x13_2:Int) (Kl11:Int→World→Prop) (x139:Bool) (w:World):Prop:=
 nextB w (fun w=>(x139=true→(Kl11 (IntKind.wrap .i64 (x13_2 - 1)) w))∧(x139=false→(((x13_2<x12_2)→(nextB w (fun w=>opP Tryz.prog Value.pointer (Instr.indexAt 30 (Sl.v x0) (.int .i64 x1)) (fun x169=>opP Tryz.prog Value.pointer (Instr.indexAt 30 (Sl.v x0) (.int .i64 x13_2)) (fun x173=>(opE Tryz.prog zAD.v (Instr.loadAt 34 (.pointer x169)) w (fun x170 w=>opE Tryz.prog zAD.v (Instr.loadAt 34 (.pointer x173)) w (fun x174 w=>opP Tryz.prog Value.pointer (Instr.indexAt 30 (Sl.v x0) (.int .i64 x13_2)) (fun x175=>opU Tryz.prog (Instr.storeAt 34 (.pointer x175) (zAD.v x170)) w (fun w=>opP Tryz.prog Value.pointer (Instr.indexAt 30 (Sl.v x0) (.int .i64 x1)) (fun x176=>opU Tryz.prog (Instr.storeAt 34 (.pointer x176) (zAD.v x174)) w (fun w=>zCi Ret x13_2 w)))))))∧(opE Tryz.prog zAD.v (Instr.loadAt 34 (.pointer x173)) w (fun x174_1 w=>opE Tryz.prog zAD.v (Instr.loadAt 34 (.pointer x169)) w (fun x170_1 w=>opP Tryz.prog Value.pointer (Instr.indexAt 30 (Sl.v x0) (.int .i64 x13_2)) (fun x175_1=>opU Tryz.prog (Instr.storeAt 34 (.pointer x175_1) (zAD.v x170_1)) w (fun w=>opP Tryz.prog Value.pointer (Instr.indexAt 30 (Sl.v x0) (.int .i64 x1)) (fun x176_1=>opU Tryz.prog (Instr.storeAt 34 (.pointer x176_1) (zAD.v x174_1)) w (fun w=>zCi Ret x13_2 w))))))))))))∧(¬ (x13_2<x12_2)→(nextB w (fun w=>opP Tryz.prog Value.pointer (Instr.indexAt 30 (Sl.v x0) (.int .i64 x13_2)) (fun x151=>opP Tryz.prog Value.pointer (Instr.indexAt 30 (Sl.v x0) (.int .i64 x12_2)) (fun x155=>(opE Tryz.prog zAD.v (Instr.loadAt 34 (.pointer x151)) w (fun x152 w=>opE Tryz.prog zAD.v (Instr.loadAt 34 (.pointer x155)) w (fun x156 w=>opP Tryz.prog Value.pointer (Instr.indexAt 30 (Sl.v x0) (.int .i64 x12_2)) (fun x157=>opU Tryz.prog (Instr.storeAt 34 (.pointer x157) (zAD.v x152)) w (fun w=>opP Tryz.prog Value.pointer (Instr.indexAt 30 (Sl.v x0) (.int .i64 x13_2)) (fun x158=>opU Tryz.prog (Instr.storeAt 34 (.pointer x158) (zAD.v x156)) w (fun w=>zCe Kl8 x12_2 x13_2 w)))))))∧(opE Tryz.prog zAD.v (Instr.loadAt 34 (.pointer x155)) w (fun x156_1 w=>opE Tryz.prog zAD.v (Instr.loadAt 34 (.pointer x151)) w (fun x152_1 w=>opP Tryz.prog Value.pointer (Instr.indexAt 30 (Sl.v x0) (.int .i64 x12_2)) (fun x157_1=>opU Tryz.prog (Instr.storeAt 34 (.pointer x157_1) (zAD.v x152_1)) w (fun w=>opP Tryz.prog Value.pointer (Instr.indexAt 30 (Sl.v x0) (.int .i64 x13_2)) (fun x158_1=>opU Tryz.prog (Instr.storeAt 34 (.pointer x158_1) (zAD.v x156_1)) w (fun w=>zCe Kl8 x12_2 x13_2 w)))))))))))))))
def zDm (x0:Sl) (x1:Int) (x4:Value) (Ret:Int→Bool→World→Prop) (Kl8:Int→Int→World→Prop) (x12_2:Int) (x13_2:Int) (w:World) (Kl11:Int→World→Prop):Prop:=
 ((x12_2≤x13_2)→(opB Tryz.prog Value.pointer (Instr.indexAt 30 (Sl.v x0) (.int .i64 x13_2)) w (fun x130=>opB Tryz.prog zAD.v (Instr.loadAt 34 (.pointer x130)) w (fun x131=>opB Tryz.prog Value.pointer (Instr.indexAt 30 (Sl.v x0) (.int .i64 x1)) w (fun x134=>opB Tryz.prog zAD.v (Instr.loadAt 34 (.pointer x134)) w (fun x135=>∃ (r:Int),CallQ Tryz.prog x4 [(zAD.v x131),(zAD.v x135)] w (.int .i64 r)∧(zCk x0 x1 Ret Kl8 x12_2 x13_2 Kl11 (!(decide (r<0))) w)))))))∧(¬ (x12_2≤x13_2)→(zCk x0 x1 Ret Kl8 x12_2 x13_2 Kl11 false w))
def zCf (x0:Sl) (x1:Int) (x4:Value) (Ret:Int→Bool→World→Prop) (x13_1:Int) (Kl8:Int→Int→World→Prop) (x12_2:Int) (Kl9:Int→World→Prop) (x120:Bool) (w:World):Prop:=
 nextB w (fun w=>(x120=true→(Kl9 (IntKind.wrap .i64 (x12_2+1)) w))∧(x120=false→(∃ (I:Int→World→Prop) (μ:Int→World→Nat),I x13_1 w∧∀ (x13_2:Int) w,I x13_2 w→zDm x0 x1 x4 Ret Kl8 x12_2 x13_2 w (fun x13_2' w'=>I x13_2' w'∧μ x13_2' w'<μ x13_2 w))))
def zDu (x0:Sl) (x1:Int) (x4:Value) (Ret:Int→Bool→World→Prop) (x13_1:Int) (Kl8:Int→Int→World→Prop) (x12_2:Int) (w:World) (Kl9:Int→World→Prop):Prop:=
 ((x12_2≤x13_1)→(opB Tryz.prog Value.pointer (Instr.indexAt 30 (Sl.v x0) (.int .i64 x12_2)) w (fun x112=>opB Tryz.prog zAD.v (Instr.loadAt 34 (.pointer x112)) w (fun x113=>opB Tryz.prog Value.pointer (Instr.indexAt 30 (Sl.v x0) (.int .i64 x1)) w (fun x116=>opB Tryz.prog zAD.v (Instr.loadAt 34 (.pointer x116)) w (fun x117=>∃ (r_1:Int),CallQ Tryz.prog x4 [(zAD.v x113),(zAD.v x117)] w (.int .i64 r_1)∧(zCf x0 x1 x4 Ret x13_1 Kl8 x12_2 Kl9 (decide (r_1<0)) w)))))))∧(¬ (x12_2≤x13_1)→(zCf x0 x1 x4 Ret x13_1 Kl8 x12_2 Kl9 false w))
def zCl (x0:Sl) (x1:Int) (x4:Value) (Ret:Int→Bool→World→Prop) (x12_1:Int) (x13_1:Int) (w:World) (Kl8:Int→Int→World→Prop):Prop:=
 ∃ (I:Int→World→Prop) (μ:Int→World→Nat),I x12_1 w∧∀ (x12_2:Int) w,I x12_2 w→zDu x0 x1 x4 Ret x13_1 Kl8 x12_2 w (fun x12_2' w'=>I x12_2' w'∧μ x12_2' w'<μ x12_2 w)
def zCq (x0:Sl) (x1:Int) (x4:Value) (Ret:Int→Bool→World→Prop) (x12:Int) (x13:Int) (w:World):Prop:=
 ∃ (I:Int→Int→World→Prop) (μ:Int→Int→World→Nat),I (IntKind.wrap .i64 (x12+1)) (IntKind.wrap .i64 (x13 - 1)) w∧∀ (x12_1:Int) (x13_1:Int) w,I x12_1 x13_1 w→zCl x0 x1 x4 Ret x12_1 x13_1 w (fun x12_1' x13_1' w'=>I x12_1' x13_1' w'∧μ x12_1' x13_1' w'<μ x12_1 x13_1 w)
def zCu (x0:Sl) (x1:Int) (x4:Value) (Ret:Int→Bool→World→Prop) (x12:Int) (x13:Int) (Kl4:Int→World→Prop) (x66:Bool) (w:World):Prop:=
 nextB w (fun w=>(x66=true→(Kl4 (IntKind.wrap .i64 (x13 - 1)) w))∧(x66=false→(((x13<x12)→(nextB w (fun w=>opP Tryz.prog Value.pointer (Instr.indexAt 30 (Sl.v x0) (.int .i64 x1)) (fun x78=>opP Tryz.prog Value.pointer (Instr.indexAt 30 (Sl.v x0) (.int .i64 x13)) (fun x82=>(opE Tryz.prog zAD.v (Instr.loadAt 34 (.pointer x78)) w (fun x79 w=>opE Tryz.prog zAD.v (Instr.loadAt 34 (.pointer x82)) w (fun x83 w=>opP Tryz.prog Value.pointer (Instr.indexAt 30 (Sl.v x0) (.int .i64 x13)) (fun x84=>opU Tryz.prog (Instr.storeAt 34 (.pointer x84) (zAD.v x79)) w (fun w=>opP Tryz.prog Value.pointer (Instr.indexAt 30 (Sl.v x0) (.int .i64 x1)) (fun x85=>opU Tryz.prog (Instr.storeAt 34 (.pointer x85) (zAD.v x83)) w (fun w=>zC4 Ret x13 w)))))))∧(opE Tryz.prog zAD.v (Instr.loadAt 34 (.pointer x82)) w (fun x83_1 w=>opE Tryz.prog zAD.v (Instr.loadAt 34 (.pointer x78)) w (fun x79_1 w=>opP Tryz.prog Value.pointer (Instr.indexAt 30 (Sl.v x0) (.int .i64 x13)) (fun x84_1=>opU Tryz.prog (Instr.storeAt 34 (.pointer x84_1) (zAD.v x79_1)) w (fun w=>opP Tryz.prog Value.pointer (Instr.indexAt 30 (Sl.v x0) (.int .i64 x1)) (fun x85_1=>opU Tryz.prog (Instr.storeAt 34 (.pointer x85_1) (zAD.v x83_1)) w (fun w=>zC4 Ret x13 w))))))))))))∧(¬ (x13<x12)→(nextB w (fun w=>opP Tryz.prog Value.pointer (Instr.indexAt 30 (Sl.v x0) (.int .i64 x13)) (fun x93=>opP Tryz.prog Value.pointer (Instr.indexAt 30 (Sl.v x0) (.int .i64 x12)) (fun x97=>(opE Tryz.prog zAD.v (Instr.loadAt 34 (.pointer x93)) w (fun x94 w=>opE Tryz.prog zAD.v (Instr.loadAt 34 (.pointer x97)) w (fun x98 w=>opP Tryz.prog Value.pointer (Instr.indexAt 30 (Sl.v x0) (.int .i64 x12)) (fun x99=>opU Tryz.prog (Instr.storeAt 34 (.pointer x99) (zAD.v x94)) w (fun w=>opP Tryz.prog Value.pointer (Instr.indexAt 30 (Sl.v x0) (.int .i64 x13)) (fun x100=>opU Tryz.prog (Instr.storeAt 34 (.pointer x100) (zAD.v x98)) w (fun w=>zCq x0 x1 x4 Ret x12 x13 w)))))))∧(opE Tryz.prog zAD.v (Instr.loadAt 34 (.pointer x97)) w (fun x98_1 w=>opE Tryz.prog zAD.v (Instr.loadAt 34 (.pointer x93)) w (fun x94_1 w=>opP Tryz.prog Value.pointer (Instr.indexAt 30 (Sl.v x0) (.int .i64 x12)) (fun x99_1=>opU Tryz.prog (Instr.storeAt 34 (.pointer x99_1) (zAD.v x94_1)) w (fun w=>opP Tryz.prog Value.pointer (Instr.indexAt 30 (Sl.v x0) (.int .i64 x13)) (fun x100_1=>opU Tryz.prog (Instr.storeAt 34 (.pointer x100_1) (zAD.v x98_1)) w (fun w=>zCq x0 x1 x4 Ret x12 x13 w)))))))))))))))
def zDr (x0:Sl) (x1:Int) (x4:Value) (Ret:Int→Bool→World→Prop) (x12:Int) (x13:Int) (w:World) (Kl4:Int→World→Prop):Prop:=
 ((x12≤x13)→(opB Tryz.prog Value.pointer (Instr.indexAt 30 (Sl.v x0) (.int .i64 x13)) w (fun x57=>opB Tryz.prog zAD.v (Instr.loadAt 34 (.pointer x57)) w (fun x58=>opB Tryz.prog Value.pointer (Instr.indexAt 30 (Sl.v x0) (.int .i64 x1)) w (fun x61=>opB Tryz.prog zAD.v (Instr.loadAt 34 (.pointer x61)) w (fun x62=>∃ (r_2:Int),CallQ Tryz.prog x4 [(zAD.v x58),(zAD.v x62)] w (.int .i64 r_2)∧(zCu x0 x1 x4 Ret x12 x13 Kl4 (!(decide (r_2<0))) w)))))))∧(¬ (x12≤x13)→(zCu x0 x1 x4 Ret x12 x13 Kl4 false w))
def zBg (x0:Sl) (x1:Int) (x2:Int) (x4:Value) (Ret:Int→Bool→World→Prop) (x12:Int) (Kl2:Int→World→Prop) (x47:Bool) (w:World):Prop:=
 nextB w (fun w=>(x47=true→(Kl2 (IntKind.wrap .i64 (x12+1)) w))∧(x47=false→(∃ (I:Int→World→Prop) (μ:Int→World→Nat),I (IntKind.wrap .i64 (x2 - 1)) w∧∀ (x13:Int) w,I x13 w→zDr x0 x1 x4 Ret x12 x13 w (fun x13' w'=>I x13' w'∧μ x13' w'<μ x13 w))))
def zDw (x0:Sl) (x1:Int) (x2:Int) (x4:Value) (Ret:Int→Bool→World→Prop) (x12:Int) (w:World) (Kl2:Int→World→Prop):Prop:=
 ((x12≤(IntKind.wrap .i64 (x2 - 1)))→(opB Tryz.prog Value.pointer (Instr.indexAt 30 (Sl.v x0) (.int .i64 x12)) w (fun x39=>opB Tryz.prog zAD.v (Instr.loadAt 34 (.pointer x39)) w (fun x40=>opB Tryz.prog Value.pointer (Instr.indexAt 30 (Sl.v x0) (.int .i64 x1)) w (fun x43=>opB Tryz.prog zAD.v (Instr.loadAt 34 (.pointer x43)) w (fun x44=>∃ (r_3:Int),CallQ Tryz.prog x4 [(zAD.v x40),(zAD.v x44)] w (.int .i64 r_3)∧(zBg x0 x1 x2 x4 Ret x12 Kl2 (decide (r_3<0)) w)))))))∧(¬ (x12≤(IntKind.wrap .i64 (x2 - 1)))→(zBg x0 x1 x2 x4 Ret x12 Kl2 false w))
def zC0 (x0:Sl) (x1:Int) (x2:Int) (x4:Value) (Ret:Int→Bool→World→Prop) (w:World):Prop:=
 ∃ (I:Int→World→Prop) (μ:Int→World→Nat),I (IntKind.wrap .i64 (x1+1)) w∧∀ (x12:Int) w,I x12 w→zDw x0 x1 x2 x4 Ret x12 w (fun x12' w'=>I x12' w'∧μ x12' w'<μ x12 w)
def zFA (x0:Sl) (x1:Int) (x2:Int) (x3:Int) (x4:Value) (w:World) (Ret:Int→Bool→World→Prop):Prop:=
 nextB w (fun w=>opP Tryz.prog Value.pointer (Instr.indexAt 30 (Sl.v x0) (.int .i64 x3)) (fun x20=>opP Tryz.prog Value.pointer (Instr.indexAt 30 (Sl.v x0) (.int .i64 x1)) (fun x24=>(opE Tryz.prog zAD.v (Instr.loadAt 34 (.pointer x20)) w (fun x21 w=>opE Tryz.prog zAD.v (Instr.loadAt 34 (.pointer x24)) w (fun x25 w=>opP Tryz.prog Value.pointer (Instr.indexAt 30 (Sl.v x0) (.int .i64 x1)) (fun x26=>opU Tryz.prog (Instr.storeAt 34 (.pointer x26) (zAD.v x21)) w (fun w=>opP Tryz.prog Value.pointer (Instr.indexAt 30 (Sl.v x0) (.int .i64 x3)) (fun x27=>opU Tryz.prog (Instr.storeAt 34 (.pointer x27) (zAD.v x25)) w (fun w=>zC0 x0 x1 x2 x4 Ret w)))))))∧(opE Tryz.prog zAD.v (Instr.loadAt 34 (.pointer x24)) w (fun x25_1 w=>opE Tryz.prog zAD.v (Instr.loadAt 34 (.pointer x20)) w (fun x21_1 w=>opP Tryz.prog Value.pointer (Instr.indexAt 30 (Sl.v x0) (.int .i64 x1)) (fun x26_1=>opU Tryz.prog (Instr.storeAt 34 (.pointer x26_1) (zAD.v x21_1)) w (fun w=>opP Tryz.prog Value.pointer (Instr.indexAt 30 (Sl.v x0) (.int .i64 x3)) (fun x27_1=>opU Tryz.prog (Instr.storeAt 34 (.pointer x27_1) (zAD.v x25_1)) w (fun w=>zC0 x0 x1 x2 x4 Ret w))))))))))
set_option maxRecDepth 100000 in
theorem zIu (x0:Sl) (x1:Int) (x2:Int) (x3:Int) (x4:Value) (w:World) (Ret:Int→Bool→World→Prop) (H:zFA x0 x1 x2 x3 x4 w Ret):Cl Tryz.prog 135 [(Sl.v x0),(.int .i64 x1),(.int .i64 x2),(.int .i64 x3),x4].toArray w (fun e w'=>∃ (r0:Int) (r1:Bool),e=.returned (.tuple [(.int .i64 r0),(.bool r1)].toArray)∧Ret r0 r1 w'):=by
 unfold zFA at H
 refine zAY 178 (zipE 0 [(Sl.v x0),(.int .i64 x1),(.int .i64 x2),(.int .i64 x3),x4]) Tryz.func135 rfl rfl (by rfl) rfl ?_
 intro a g
 replace g:Sat [] 178 [(0,(Sl.v x0)),(1,(.int .i64 x1)),(2,(.int .i64 x2)),(3,(.int .i64 x3)),(4,x4)] a:=g
 refine zAF (zAA (g.as_ rfl fun _ g=>(g.as_ rfl fun _ g=>(zAG (tn (zBG (ds:=[]) (N:=178) (σ:=Unit) (fun s=>[(0,(Sl.v x0)),(1,(.int .i64 x1)),(2,(.int .i64 x2)),(4,x4)]) (fun s w=>zC0 x0 x1 x2 x4 Ret w) ?_ (fun hj1=>?_)))))))
 ·rintro ⟨⟩ w a H g
  try dsimp only at H g
  unfold zC0 at H
  refine zAF (zAA (g.mv rfl fun _ g=>(g.pur (zAn g rfl rfl) fun _ g=>(g.mv rfl fun _ g=>(g.pur (zAv g rfl rfl) fun _ g=>(g.as_ rfl fun _ g=>(g.as_ rfl fun _ g=>(zAG (tn (zAF (zAN ?_)))))))))))
  obtain ⟨I_l2,μ_l2,h0,hb⟩:=H
  refine zBl (ds:=[]) (N:=178) (σ:=Int) (fun s=>[(12,(.int .i64 s)),(0,(Sl.v x0)),(1,(.int .i64 x1)),(4,x4),(13,(.int .i64 (IntKind.wrap .i64 (x2 - 1))))]) (fun s w=>I_l2 s w) (fun s w=>μ_l2 s w) (IntKind.wrap .i64 (x1+1)) h0 (g.weak ⟨rfl,rfl,rfl,rfl,rfl,trivial⟩) ?_
  intro x12 w a hI g
  try dsimp only at hI g
  obtain ⟨Kl2,hK_l2⟩:∃ K:Int→World→Prop,K=(fun x12' w'=>I_l2 x12' w'∧μ_l2 x12' w'<μ_l2 x12 w):=⟨_,rfl⟩
  have H:zDw x0 x1 x2 x4 Ret x12 w Kl2:=by rw [hK_l2];exact hb x12 w hI
  clear hb h0 hI
  unfold zDw at H
  refine zAF (zAF (zEB (by kernel_rfl) (by kernel_rfl) (g.qm rfl fun _ g=>(g.qm rfl fun _ g=>(g.qpur (zJn g rfl rfl) fun _ g=>(g.qm rfl fun _ g=>(WQ.join (ds:=[]) (N:=178) (σ:=Bool) (fun s=>[(47,(.bool s)),(0,(Sl.v x0)),(1,(.int .i64 x1)),(4,x4),(12,(.int .i64 x12)),(13,(.int .i64 (IntKind.wrap .i64 (x2 - 1))))]) (fun s=>zBg x0 x1 x2 x4 Ret x12 Kl2 s w) 12 ?_ (fun hr3=>?_))))))))
  ·intro x47 a H g
   try dsimp only at H g
   unfold zBg at H
   refine zED (fun w hB=>?_)
   replace H:=H w hB
   refine (tn (zAV g rfl (fun hc=>?_) (fun hc=>?_)))
   ·replace H:=H.1 hc
    refine zAP (tn (zAN (zAA (g.mv rfl fun _ g=>(g.pur (zAn g rfl rfl) fun _ g=>(g.as_ rfl fun _ g=>?_))))))
    rw [hK_l2] at H
    exact zAG (bn (tn ⟨(IntKind.wrap .i64 (x12+1)),g.weak ⟨rfl,rfl,rfl,rfl,rfl,trivial⟩,H⟩))
   ·replace H:=H.2 hc
    refine zBJ (te (te (be (tn (zAF (zAN ?_))))))
    obtain ⟨I_l4,μ_l4,h0,hb⟩:=H
    refine zBl (ds:=[]) (N:=178) (σ:=Int) (fun s=>[(13,(.int .i64 s)),(0,(Sl.v x0)),(1,(.int .i64 x1)),(4,x4),(12,(.int .i64 x12))]) (fun s w=>I_l4 s w) (fun s w=>μ_l4 s w) (IntKind.wrap .i64 (x2 - 1)) h0 (g.weak ⟨rfl,rfl,rfl,rfl,rfl,trivial⟩) ?_
    intro x13 w a hI g
    try dsimp only at hI g
    obtain ⟨Kl4,hK_l4⟩:∃ K:Int→World→Prop,K=(fun x13' w'=>I_l4 x13' w'∧μ_l4 x13' w'<μ_l4 x13 w):=⟨_,rfl⟩
    have H:zDr x0 x1 x4 Ret x12 x13 w Kl4:=by rw [hK_l4];exact hb x13 w hI
    clear hb h0 hI
    unfold zDr at H
    refine zAF (zAF (zEB (by kernel_rfl) (by kernel_rfl) (g.qm rfl fun _ g=>(g.qm rfl fun _ g=>(g.qpur (zJn g rfl rfl) fun _ g=>(g.qm rfl fun _ g=>(WQ.join (ds:=[]) (N:=178) (σ:=Bool) (fun s=>[(66,(.bool s)),(0,(Sl.v x0)),(1,(.int .i64 x1)),(4,x4),(12,(.int .i64 x12)),(13,(.int .i64 x13))]) (fun s=>zCu x0 x1 x4 Ret x12 x13 Kl4 s w) 13 ?_ (fun hr5=>?_))))))))
    ·intro x66 a H g
     try dsimp only at H g
     unfold zCu at H
     refine zED (fun w hB=>?_)
     replace H:=H w hB
     refine (tn (zAV g rfl (fun hc=>?_) (fun hc=>?_)))
     ·replace H:=H.1 hc
      refine zAP (tn (zAN (zAA (g.mv rfl fun _ g=>(g.pur (zAv g rfl rfl) fun _ g=>(g.as_ rfl fun _ g=>?_))))))
      rw [hK_l4] at H
      exact zAG (bn (tn ⟨(IntKind.wrap .i64 (x13 - 1)),g.weak ⟨rfl,rfl,rfl,rfl,rfl,trivial⟩,H⟩))
     ·replace H:=H.2 hc
      refine zBJ (te (te (be (tn (zAF (zAF (zAA (g.mv rfl fun _ g=>(g.mv rfl fun _ g=>(g.pur (zIG g rfl rfl) fun _ g=>(zAG (tn (zAR g rfl (fun hc=>?_) (fun hc=>?_))))))))))))))
      ·replace H:=H.1 hc
       refine zBG (ds:=[]) (N:=178) (σ:=Unit) (fun s=>[(13,(.int .i64 x13))]) (fun s w=>zC4 Ret x13 w) ?_ (fun hj6=>?_)
       ·rintro ⟨⟩ w a H g
        try dsimp only at H g
        unfold zC4 at H
        exact zAF (zAA (g.mv rfl fun _ g=>(g.as_ rfl fun _ g=>(g.as_ rfl fun _ g=>(zAG (tn (zAf (tr (zFz g rfl rfl rfl ⟨_,_,rfl,H⟩)))))))))
       ·refine zKK 16 fun w hB=>?_
        replace H:=H w hB
        refine g.ap 0 rfl (zAL g rfl) fun _ g=>g.ap 1 rfl (zAL g rfl) fun _ g=>g.ap 2 rfl (zAL g rfl) fun _ g=>g.ap 3 rfl (zAL g rfl) fun _ g=>g.ap 4 rfl (zAL g rfl) fun _ g=>g.ap 5 rfl (zAL g rfl) fun _ g=>g.ao 6 rfl (zAC g rfl rfl) H fun x78 a H g=>g.ap 8 rfl (zAL g rfl) fun _ g=>g.ap 9 rfl (zAL g rfl) fun _ g=>g.ao 10 rfl (zAC g rfl rfl) H fun x82 a H g=>WA.tw 7 11 rfl rfl ?_ ?_
        ·replace H:=H.1
         intro K hK
         exact g.wop (zAI g rfl) H fun x79 w a H g=>hK _ _ (g.o1 11 rfl (zAI g rfl) H fun x83 w a H g=>(g.ao 12 rfl (zAC g rfl rfl) H fun x84 a H g=>(g.o1u 13 rfl (zAM g rfl rfl) H fun w a H g=>(g.ao 14 rfl (zAC g rfl rfl) H fun x85 a H g=>(g.o1u 15 rfl (zAM g rfl rfl) H fun w a H g=>(WA.ni ((tn (hj6 () _ _ H (g.weak ⟨rfl,trivial⟩))))))))))
        ·replace H:=H.2
         intro K hK
         exact g.wop (zAI g rfl) H fun x83_1 w a H g=>hK _ _ (g.o1 7 rfl (zAI g rfl) H fun x79_1 w a H g=>(g.ao 12 rfl (zAC g rfl rfl) H fun x84_1 a H g=>(g.o1u 13 rfl (zAM g rfl rfl) H fun w a H g=>(g.ao 14 rfl (zAC g rfl rfl) H fun x85_1 a H g=>(g.o1u 15 rfl (zAM g rfl rfl) H fun w a H g=>(WA.ni ((tn (hj6 () _ _ H (g.weak ⟨rfl,trivial⟩))))))))))
      ·replace H:=H.2 hc
       refine zAP (tn (zBG (ds:=[]) (N:=178) (σ:=Unit) (fun s=>[(0,(Sl.v x0)),(1,(.int .i64 x1)),(4,x4),(12,(.int .i64 x12)),(13,(.int .i64 x13))]) (fun s w=>zCq x0 x1 x4 Ret x12 x13 w) ?_ (fun hj7=>?_)))
       ·rintro ⟨⟩ w a H g
        try dsimp only at H g
        unfold zCq at H
        refine zAF (zAA (g.mv rfl fun _ g=>(g.pur (zAn g rfl rfl) fun _ g=>(g.as_ rfl fun _ g=>(zAG (tn (zAF (zAA (g.mv rfl fun _ g=>(g.pur (zAv g rfl rfl) fun _ g=>(g.as_ rfl fun _ g=>(zAG (tn (zAF (zAN ?_)))))))))))))))
        obtain ⟨I_l8,μ_l8,h0,hb⟩:=H
        refine zBl (ds:=[]) (N:=178) (σ:=Int × Int) (fun s=>[(12,(.int .i64 s.1)),(13,(.int .i64 s.2)),(0,(Sl.v x0)),(1,(.int .i64 x1)),(4,x4)]) (fun s w=>I_l8 s.1 s.2 w) (fun s w=>μ_l8 s.1 s.2 w) ((IntKind.wrap .i64 (x12+1)),(IntKind.wrap .i64 (x13 - 1))) h0 (g.weak ⟨rfl,rfl,rfl,rfl,rfl,trivial⟩) ?_
        rintro ⟨x12_1,x13_1⟩ w a hI g
        try dsimp only at hI g
        obtain ⟨Kl8,hK_l8⟩:∃ K:Int→Int→World→Prop,K=(fun x12_1' x13_1' w'=>I_l8 x12_1' x13_1' w'∧μ_l8 x12_1' x13_1' w'<μ_l8 x12_1 x13_1 w):=⟨_,rfl⟩
        have H:zCl x0 x1 x4 Ret x12_1 x13_1 w Kl8:=by rw [hK_l8];exact hb x12_1 x13_1 w hI
        clear hb h0 hI
        unfold zCl at H
        refine zAN (zAF (zAN ?_))
        obtain ⟨I_l9,μ_l9,h0,hb⟩:=H
        refine zBl (ds:=[]) (N:=178) (σ:=Int) (fun s=>[(12,(.int .i64 s)),(0,(Sl.v x0)),(1,(.int .i64 x1)),(4,x4),(13,(.int .i64 x13_1))]) (fun s w=>I_l9 s w) (fun s w=>μ_l9 s w) x12_1 h0 (g.weak ⟨rfl,rfl,rfl,rfl,rfl,trivial⟩) ?_
        intro x12_2 w a hI g
        try dsimp only at hI g
        obtain ⟨Kl9,hK_l9⟩:∃ K:Int→World→Prop,K=(fun x12_2' w'=>I_l9 x12_2' w'∧μ_l9 x12_2' w'<μ_l9 x12_2 w):=⟨_,rfl⟩
        have H:zDu x0 x1 x4 Ret x13_1 Kl8 x12_2 w Kl9:=by rw [hK_l9];exact hb x12_2 w hI
        clear hb h0 hI
        unfold zDu at H
        refine zAF (zAF (zEB (by kernel_rfl) (by kernel_rfl) (g.qm rfl fun _ g=>(g.qm rfl fun _ g=>(g.qpur (zJn g rfl rfl) fun _ g=>(g.qm rfl fun _ g=>(WQ.join (ds:=[]) (N:=178) (σ:=Bool) (fun s=>[(120,(.bool s)),(0,(Sl.v x0)),(1,(.int .i64 x1)),(4,x4),(12,(.int .i64 x12_2)),(13,(.int .i64 x13_1))]) (fun s=>zCf x0 x1 x4 Ret x13_1 Kl8 x12_2 Kl9 s w) 12 ?_ (fun hr10=>?_))))))))
        ·intro x120 a H g
         try dsimp only at H g
         unfold zCf at H
         refine zED (fun w hB=>?_)
         replace H:=H w hB
         refine (tn (zAV g rfl (fun hc=>?_) (fun hc=>?_)))
         ·replace H:=H.1 hc
          refine zAP (tn (zAN (zAA (g.mv rfl fun _ g=>(g.pur (zAn g rfl rfl) fun _ g=>(g.as_ rfl fun _ g=>?_))))))
          rw [hK_l9] at H
          exact zAG (bn (tn ⟨(IntKind.wrap .i64 (x12_2+1)),g.weak ⟨rfl,rfl,rfl,rfl,rfl,trivial⟩,H⟩))
         ·replace H:=H.2 hc
          refine zBJ (te (te (be (tn (zAF (zAN ?_))))))
          obtain ⟨I_l11,μ_l11,h0,hb⟩:=H
          refine zBl (ds:=[]) (N:=178) (σ:=Int) (fun s=>[(13,(.int .i64 s)),(0,(Sl.v x0)),(1,(.int .i64 x1)),(4,x4),(12,(.int .i64 x12_2))]) (fun s w=>I_l11 s w) (fun s w=>μ_l11 s w) x13_1 h0 (g.weak ⟨rfl,rfl,rfl,rfl,rfl,trivial⟩) ?_
          intro x13_2 w a hI g
          try dsimp only at hI g
          obtain ⟨Kl11,hK_l11⟩:∃ K:Int→World→Prop,K=(fun x13_2' w'=>I_l11 x13_2' w'∧μ_l11 x13_2' w'<μ_l11 x13_2 w):=⟨_,rfl⟩
          have H:zDm x0 x1 x4 Ret Kl8 x12_2 x13_2 w Kl11:=by rw [hK_l11];exact hb x13_2 w hI
          clear hb h0 hI
          unfold zDm at H
          refine zAF (zAF (zEB (by kernel_rfl) (by kernel_rfl) (g.qm rfl fun _ g=>(g.qm rfl fun _ g=>(g.qpur (zJn g rfl rfl) fun _ g=>(g.qm rfl fun _ g=>(WQ.join (ds:=[]) (N:=178) (σ:=Bool) (fun s=>[(139,(.bool s)),(0,(Sl.v x0)),(1,(.int .i64 x1)),(4,x4),(12,(.int .i64 x12_2)),(13,(.int .i64 x13_2))]) (fun s=>zCk x0 x1 Ret Kl8 x12_2 x13_2 Kl11 s w) 13 ?_ (fun hr12=>?_))))))))
          ·intro x139 a H g
           try dsimp only at H g
           unfold zCk at H
           refine zED (fun w hB=>?_)
           replace H:=H w hB
           refine (tn (zAV g rfl (fun hc=>?_) (fun hc=>?_)))
           ·replace H:=H.1 hc
            refine zAP (tn (zAN (zAA (g.mv rfl fun _ g=>(g.pur (zAv g rfl rfl) fun _ g=>(g.as_ rfl fun _ g=>?_))))))
            rw [hK_l11] at H
            exact zAG (bn (tn ⟨(IntKind.wrap .i64 (x13_2 - 1)),g.weak ⟨rfl,rfl,rfl,rfl,rfl,trivial⟩,H⟩))
           ·replace H:=H.2 hc
            refine zBJ (te (te (be (tn (zAF (zAF (zAA (g.mv rfl fun _ g=>(g.mv rfl fun _ g=>(g.pur (zIG g rfl rfl) fun _ g=>(zAG (tn (zAR g rfl (fun hc=>?_) (fun hc=>?_))))))))))))))
            ·replace H:=H.1 hc
             refine zBJ (te (bo (te (be (tn (zBG (ds:=[]) (N:=178) (σ:=Unit) (fun s=>[(13,(.int .i64 x13_2))]) (fun s w=>zCi Ret x13_2 w) ?_ (fun hj13=>?_)))))))
             ·rintro ⟨⟩ w a H g
              try dsimp only at H g
              unfold zCi at H
              exact zAF (zAA (g.mv rfl fun _ g=>(g.as_ rfl fun _ g=>(g.as_ rfl fun _ g=>(zAG (tn (zAf (zFz g rfl rfl rfl ⟨_,_,rfl,H⟩))))))))
             ·refine zKK 16 fun w hB=>?_
              replace H:=H w hB
              refine g.ap 0 rfl (zAL g rfl) fun _ g=>g.ap 1 rfl (zAL g rfl) fun _ g=>g.ap 2 rfl (zAL g rfl) fun _ g=>g.ap 3 rfl (zAL g rfl) fun _ g=>g.ap 4 rfl (zAL g rfl) fun _ g=>g.ap 5 rfl (zAL g rfl) fun _ g=>g.ao 6 rfl (zAC g rfl rfl) H fun x169 a H g=>g.ap 8 rfl (zAL g rfl) fun _ g=>g.ap 9 rfl (zAL g rfl) fun _ g=>g.ao 10 rfl (zAC g rfl rfl) H fun x173 a H g=>WA.tw 7 11 rfl rfl ?_ ?_
              ·replace H:=H.1
               intro K hK
               exact g.wop (zAI g rfl) H fun x170 w a H g=>hK _ _ (g.o1 11 rfl (zAI g rfl) H fun x174 w a H g=>(g.ao 12 rfl (zAC g rfl rfl) H fun x175 a H g=>(g.o1u 13 rfl (zAM g rfl rfl) H fun w a H g=>(g.ao 14 rfl (zAC g rfl rfl) H fun x176 a H g=>(g.o1u 15 rfl (zAM g rfl rfl) H fun w a H g=>(WA.ni ((tn (hj13 () _ _ H (g.weak ⟨rfl,trivial⟩))))))))))
              ·replace H:=H.2
               intro K hK
               exact g.wop (zAI g rfl) H fun x174_1 w a H g=>hK _ _ (g.o1 7 rfl (zAI g rfl) H fun x170_1 w a H g=>(g.ao 12 rfl (zAC g rfl rfl) H fun x175_1 a H g=>(g.o1u 13 rfl (zAM g rfl rfl) H fun w a H g=>(g.ao 14 rfl (zAC g rfl rfl) H fun x176_1 a H g=>(g.o1u 15 rfl (zAM g rfl rfl) H fun w a H g=>(WA.ni ((tn (hj13 () _ _ H (g.weak ⟨rfl,trivial⟩))))))))))
            ·replace H:=H.2 hc
             refine zAP (tn (zBG (ds:=[]) (N:=178) (σ:=Unit) (fun s=>[(0,(Sl.v x0)),(1,(.int .i64 x1)),(4,x4),(12,(.int .i64 x12_2)),(13,(.int .i64 x13_2))]) (fun s w=>zCe Kl8 x12_2 x13_2 w) ?_ (fun hj14=>?_)))
             ·rintro ⟨⟩ w a H g
              try dsimp only at H g
              unfold zCe at H
              refine zAF (zAA (g.mv rfl fun _ g=>(g.pur (zAn g rfl rfl) fun _ g=>(g.as_ rfl fun _ g=>(zAG (tn (zAA (g.mv rfl fun _ g=>(g.pur (zAv g rfl rfl) fun _ g=>(g.as_ rfl fun _ g=>?_))))))))))
              rw [hK_l8] at H
              exact zAG (bn (tn ⟨((IntKind.wrap .i64 (x12_2+1)),(IntKind.wrap .i64 (x13_2 - 1))),g.weak ⟨rfl,rfl,rfl,rfl,rfl,trivial⟩,H⟩))
             ·refine zKK 16 fun w hB=>?_
              replace H:=H w hB
              refine g.ap 0 rfl (zAL g rfl) fun _ g=>g.ap 1 rfl (zAL g rfl) fun _ g=>g.ap 2 rfl (zAL g rfl) fun _ g=>g.ap 3 rfl (zAL g rfl) fun _ g=>g.ap 4 rfl (zAL g rfl) fun _ g=>g.ap 5 rfl (zAL g rfl) fun _ g=>g.ao 6 rfl (zAC g rfl rfl) H fun x151 a H g=>g.ap 8 rfl (zAL g rfl) fun _ g=>g.ap 9 rfl (zAL g rfl) fun _ g=>g.ao 10 rfl (zAC g rfl rfl) H fun x155 a H g=>WA.tw 7 11 rfl rfl ?_ ?_
              ·replace H:=H.1
               intro K hK
               exact g.wop (zAI g rfl) H fun x152 w a H g=>hK _ _ (g.o1 11 rfl (zAI g rfl) H fun x156 w a H g=>(g.ao 12 rfl (zAC g rfl rfl) H fun x157 a H g=>(g.o1u 13 rfl (zAM g rfl rfl) H fun w a H g=>(g.ao 14 rfl (zAC g rfl rfl) H fun x158 a H g=>(g.o1u 15 rfl (zAM g rfl rfl) H fun w a H g=>(WA.ni ((tn (hj14 () _ _ H (g.weak ⟨rfl,rfl,rfl,rfl,rfl,trivial⟩))))))))))
              ·replace H:=H.2
               intro K hK
               exact g.wop (zAI g rfl) H fun x156_1 w a H g=>hK _ _ (g.o1 7 rfl (zAI g rfl) H fun x152_1 w a H g=>(g.ao 12 rfl (zAC g rfl rfl) H fun x157_1 a H g=>(g.o1u 13 rfl (zAM g rfl rfl) H fun w a H g=>(g.ao 14 rfl (zAC g rfl rfl) H fun x158_1 a H g=>(g.o1u 15 rfl (zAM g rfl rfl) H fun w a H g=>(WA.ni ((tn (hj14 () _ _ H (g.weak ⟨rfl,rfl,rfl,rfl,rfl,trivial⟩))))))))))
          ·rcases Classical.em ((x12_2≤x13_2)) with hbr12|hbr12
           ·replace H:=H.1 hbr12
            replace g:=g.bool (b:=true) (t:=126) rfl (decide_eq_true hbr12)
            refine g.qon (by rfl) (by rfl) (g.qm rfl fun _ g=>(g.qon (by rfl) (by rfl) (g.qm rfl fun _ g=>(g.qon (by rfl) (by rfl) (g.qm rfl fun _ g=>(g.qon (by rfl) (by rfl) (g.qop (zAC g rfl rfl) H fun x130 a H g=>(g.qon (by rfl) (by rfl) (g.qop (zAI g rfl) H fun x131 a H g=>(g.qon (by rfl) (by rfl) (g.qm rfl fun _ g=>(g.qon (by rfl) (by rfl) (g.qm rfl fun _ g=>(g.qon (by rfl) (by rfl) (g.qop (zAC g rfl rfl) H fun x134 a H g=>(g.qon (by rfl) (by rfl) (g.qop (zAI g rfl) H fun x135 a H g=>(g.qon (by rfl) (by rfl) ?_))))))))))))))))))
            obtain ⟨r,hc,H⟩:=H
            exact g.qcallV rfl rfl hc fun _ g=>g.qon (by rfl) (by rfl) (g.qpur (zDp g rfl rfl) fun _ g=>(g.qon (by rfl) (by rfl) (g.qpur (zGp g rfl) fun _ g=>(g.qpur (zAj g rfl rfl) fun _ g=>(hr12 (!(decide (r<0))) _ H (g.weak ⟨rfl,rfl,rfl,rfl,rfl,rfl,trivial⟩))))))
           ·replace H:=H.2 hbr12
            replace g:=g.bool (b:=false) (t:=126) rfl (decide_eq_false hbr12)
            exact g.qoff (by rfl) (by rfl) (by decide) (fun _ g=>(g.qoff (by rfl) (by rfl) (by decide) (fun _ g=>(g.qoff (by rfl) (by rfl) (by decide) (fun _ g=>(g.qoff (by rfl) (by rfl) (by decide) (fun _ g=>(g.qoff (by rfl) (by rfl) (by decide) (fun _ g=>(g.qoff (by rfl) (by rfl) (by decide) (fun _ g=>(g.qoff (by rfl) (by rfl) (by decide) (fun _ g=>(g.qoff (by rfl) (by rfl) (by decide) (fun _ g=>(g.qoff (by rfl) (by rfl) (by decide) (fun _ g=>(g.qoff (by rfl) (by rfl) (by decide) (fun _ g=>(g.qoff (by rfl) (by rfl) (by decide) (fun _ g=>(g.qoff (by rfl) (by rfl) (by decide) (fun _ g=>(g.qpur (zAi g rfl rfl) fun _ g=>(hr12 false _ H (g.weak ⟨rfl,rfl,rfl,rfl,rfl,rfl,trivial⟩))))))))))))))))))))))))))
        ·rcases Classical.em ((x12_2≤x13_1)) with hbr10|hbr10
         ·replace H:=H.1 hbr10
          replace g:=g.bool (b:=true) (t:=108) rfl (decide_eq_true hbr10)
          refine g.qon (by rfl) (by rfl) (g.qm rfl fun _ g=>(g.qon (by rfl) (by rfl) (g.qm rfl fun _ g=>(g.qon (by rfl) (by rfl) (g.qm rfl fun _ g=>(g.qon (by rfl) (by rfl) (g.qop (zAC g rfl rfl) H fun x112 a H g=>(g.qon (by rfl) (by rfl) (g.qop (zAI g rfl) H fun x113 a H g=>(g.qon (by rfl) (by rfl) (g.qm rfl fun _ g=>(g.qon (by rfl) (by rfl) (g.qm rfl fun _ g=>(g.qon (by rfl) (by rfl) (g.qop (zAC g rfl rfl) H fun x116 a H g=>(g.qon (by rfl) (by rfl) (g.qop (zAI g rfl) H fun x117 a H g=>(g.qon (by rfl) (by rfl) ?_))))))))))))))))))
          obtain ⟨r_1,hc,H⟩:=H
          exact g.qcallV rfl rfl hc fun _ g=>g.qon (by rfl) (by rfl) (g.qpur (zDp g rfl rfl) fun _ g=>(g.qpur (zAj g rfl rfl) fun _ g=>(hr10 (decide (r_1<0)) _ H (g.weak ⟨rfl,rfl,rfl,rfl,rfl,rfl,trivial⟩))))
         ·replace H:=H.2 hbr10
          replace g:=g.bool (b:=false) (t:=108) rfl (decide_eq_false hbr10)
          exact g.qoff (by rfl) (by rfl) (by decide) (fun _ g=>(g.qoff (by rfl) (by rfl) (by decide) (fun _ g=>(g.qoff (by rfl) (by rfl) (by decide) (fun _ g=>(g.qoff (by rfl) (by rfl) (by decide) (fun _ g=>(g.qoff (by rfl) (by rfl) (by decide) (fun _ g=>(g.qoff (by rfl) (by rfl) (by decide) (fun _ g=>(g.qoff (by rfl) (by rfl) (by decide) (fun _ g=>(g.qoff (by rfl) (by rfl) (by decide) (fun _ g=>(g.qoff (by rfl) (by rfl) (by decide) (fun _ g=>(g.qoff (by rfl) (by rfl) (by decide) (fun _ g=>(g.qoff (by rfl) (by rfl) (by decide) (fun _ g=>(g.qpur (zAi g rfl rfl) fun _ g=>(hr10 false _ H (g.weak ⟨rfl,rfl,rfl,rfl,rfl,rfl,trivial⟩))))))))))))))))))))))))
       ·refine zKK 16 fun w hB=>?_
        replace H:=H w hB
        refine g.ap 0 rfl (zAL g rfl) fun _ g=>g.ap 1 rfl (zAL g rfl) fun _ g=>g.ap 2 rfl (zAL g rfl) fun _ g=>g.ap 3 rfl (zAL g rfl) fun _ g=>g.ap 4 rfl (zAL g rfl) fun _ g=>g.ap 5 rfl (zAL g rfl) fun _ g=>g.ao 6 rfl (zAC g rfl rfl) H fun x93 a H g=>g.ap 8 rfl (zAL g rfl) fun _ g=>g.ap 9 rfl (zAL g rfl) fun _ g=>g.ao 10 rfl (zAC g rfl rfl) H fun x97 a H g=>WA.tw 7 11 rfl rfl ?_ ?_
        ·replace H:=H.1
         intro K hK
         exact g.wop (zAI g rfl) H fun x94 w a H g=>hK _ _ (g.o1 11 rfl (zAI g rfl) H fun x98 w a H g=>(g.ao 12 rfl (zAC g rfl rfl) H fun x99 a H g=>(g.o1u 13 rfl (zAM g rfl rfl) H fun w a H g=>(g.ao 14 rfl (zAC g rfl rfl) H fun x100 a H g=>(g.o1u 15 rfl (zAM g rfl rfl) H fun w a H g=>(WA.ni ((tn (hj7 () _ _ H (g.weak ⟨rfl,rfl,rfl,rfl,rfl,trivial⟩))))))))))
        ·replace H:=H.2
         intro K hK
         exact g.wop (zAI g rfl) H fun x98_1 w a H g=>hK _ _ (g.o1 7 rfl (zAI g rfl) H fun x94_1 w a H g=>(g.ao 12 rfl (zAC g rfl rfl) H fun x99_1 a H g=>(g.o1u 13 rfl (zAM g rfl rfl) H fun w a H g=>(g.ao 14 rfl (zAC g rfl rfl) H fun x100_1 a H g=>(g.o1u 15 rfl (zAM g rfl rfl) H fun w a H g=>(WA.ni ((tn (hj7 () _ _ H (g.weak ⟨rfl,rfl,rfl,rfl,rfl,trivial⟩))))))))))
    ·rcases Classical.em ((x12≤x13)) with hbr5|hbr5
     ·replace H:=H.1 hbr5
      replace g:=g.bool (b:=true) (t:=53) rfl (decide_eq_true hbr5)
      refine g.qon (by rfl) (by rfl) (g.qm rfl fun _ g=>(g.qon (by rfl) (by rfl) (g.qm rfl fun _ g=>(g.qon (by rfl) (by rfl) (g.qm rfl fun _ g=>(g.qon (by rfl) (by rfl) (g.qop (zAC g rfl rfl) H fun x57 a H g=>(g.qon (by rfl) (by rfl) (g.qop (zAI g rfl) H fun x58 a H g=>(g.qon (by rfl) (by rfl) (g.qm rfl fun _ g=>(g.qon (by rfl) (by rfl) (g.qm rfl fun _ g=>(g.qon (by rfl) (by rfl) (g.qop (zAC g rfl rfl) H fun x61 a H g=>(g.qon (by rfl) (by rfl) (g.qop (zAI g rfl) H fun x62 a H g=>(g.qon (by rfl) (by rfl) ?_))))))))))))))))))
      obtain ⟨r_2,hc,H⟩:=H
      exact g.qcallV rfl rfl hc fun _ g=>g.qon (by rfl) (by rfl) (g.qpur (zDp g rfl rfl) fun _ g=>(g.qon (by rfl) (by rfl) (g.qpur (zGp g rfl) fun _ g=>(g.qpur (zAj g rfl rfl) fun _ g=>(hr5 (!(decide (r_2<0))) _ H (g.weak ⟨rfl,rfl,rfl,rfl,rfl,rfl,trivial⟩))))))
     ·replace H:=H.2 hbr5
      replace g:=g.bool (b:=false) (t:=53) rfl (decide_eq_false hbr5)
      exact g.qoff (by rfl) (by rfl) (by decide) (fun _ g=>(g.qoff (by rfl) (by rfl) (by decide) (fun _ g=>(g.qoff (by rfl) (by rfl) (by decide) (fun _ g=>(g.qoff (by rfl) (by rfl) (by decide) (fun _ g=>(g.qoff (by rfl) (by rfl) (by decide) (fun _ g=>(g.qoff (by rfl) (by rfl) (by decide) (fun _ g=>(g.qoff (by rfl) (by rfl) (by decide) (fun _ g=>(g.qoff (by rfl) (by rfl) (by decide) (fun _ g=>(g.qoff (by rfl) (by rfl) (by decide) (fun _ g=>(g.qoff (by rfl) (by rfl) (by decide) (fun _ g=>(g.qoff (by rfl) (by rfl) (by decide) (fun _ g=>(g.qoff (by rfl) (by rfl) (by decide) (fun _ g=>(g.qpur (zAi g rfl rfl) fun _ g=>(hr5 false _ H (g.weak ⟨rfl,rfl,rfl,rfl,rfl,rfl,trivial⟩))))))))))))))))))))))))))
  ·rcases Classical.em ((x12≤(IntKind.wrap .i64 (x2 - 1)))) with hbr3|hbr3
   ·replace H:=H.1 hbr3
    replace g:=g.bool (b:=true) (t:=35) rfl (decide_eq_true hbr3)
    refine g.qon (by rfl) (by rfl) (g.qm rfl fun _ g=>(g.qon (by rfl) (by rfl) (g.qm rfl fun _ g=>(g.qon (by rfl) (by rfl) (g.qm rfl fun _ g=>(g.qon (by rfl) (by rfl) (g.qop (zAC g rfl rfl) H fun x39 a H g=>(g.qon (by rfl) (by rfl) (g.qop (zAI g rfl) H fun x40 a H g=>(g.qon (by rfl) (by rfl) (g.qm rfl fun _ g=>(g.qon (by rfl) (by rfl) (g.qm rfl fun _ g=>(g.qon (by rfl) (by rfl) (g.qop (zAC g rfl rfl) H fun x43 a H g=>(g.qon (by rfl) (by rfl) (g.qop (zAI g rfl) H fun x44 a H g=>(g.qon (by rfl) (by rfl) ?_))))))))))))))))))
    obtain ⟨r_3,hc,H⟩:=H
    exact g.qcallV rfl rfl hc fun _ g=>g.qon (by rfl) (by rfl) (g.qpur (zDp g rfl rfl) fun _ g=>(g.qpur (zAj g rfl rfl) fun _ g=>(hr3 (decide (r_3<0)) _ H (g.weak ⟨rfl,rfl,rfl,rfl,rfl,rfl,trivial⟩))))
   ·replace H:=H.2 hbr3
    replace g:=g.bool (b:=false) (t:=35) rfl (decide_eq_false hbr3)
    exact g.qoff (by rfl) (by rfl) (by decide) (fun _ g=>(g.qoff (by rfl) (by rfl) (by decide) (fun _ g=>(g.qoff (by rfl) (by rfl) (by decide) (fun _ g=>(g.qoff (by rfl) (by rfl) (by decide) (fun _ g=>(g.qoff (by rfl) (by rfl) (by decide) (fun _ g=>(g.qoff (by rfl) (by rfl) (by decide) (fun _ g=>(g.qoff (by rfl) (by rfl) (by decide) (fun _ g=>(g.qoff (by rfl) (by rfl) (by decide) (fun _ g=>(g.qoff (by rfl) (by rfl) (by decide) (fun _ g=>(g.qoff (by rfl) (by rfl) (by decide) (fun _ g=>(g.qoff (by rfl) (by rfl) (by decide) (fun _ g=>(g.qpur (zAi g rfl rfl) fun _ g=>(hr3 false _ H (g.weak ⟨rfl,rfl,rfl,rfl,rfl,rfl,trivial⟩))))))))))))))))))))))))
 ·refine zKK 16 fun w hB=>?_
  replace H:=H w hB
  refine g.ap 0 rfl (zAL g rfl) fun _ g=>g.ap 1 rfl (zAL g rfl) fun _ g=>g.ap 2 rfl (zAL g rfl) fun _ g=>g.ap 3 rfl (zAL g rfl) fun _ g=>g.ap 4 rfl (zAL g rfl) fun _ g=>g.ap 5 rfl (zAL g rfl) fun _ g=>g.ao 6 rfl (zAC g rfl rfl) H fun x20 a H g=>g.ap 8 rfl (zAL g rfl) fun _ g=>g.ap 9 rfl (zAL g rfl) fun _ g=>g.ao 10 rfl (zAC g rfl rfl) H fun x24 a H g=>WA.tw 7 11 rfl rfl ?_ ?_
  ·replace H:=H.1
   intro K hK
   exact g.wop (zAI g rfl) H fun x21 w a H g=>hK _ _ (g.o1 11 rfl (zAI g rfl) H fun x25 w a H g=>(g.ao 12 rfl (zAC g rfl rfl) H fun x26 a H g=>(g.o1u 13 rfl (zAM g rfl rfl) H fun w a H g=>(g.ao 14 rfl (zAC g rfl rfl) H fun x27 a H g=>(g.o1u 15 rfl (zAM g rfl rfl) H fun w a H g=>(WA.ni ((tn (hj1 () _ _ H (g.weak ⟨rfl,rfl,rfl,rfl,trivial⟩))))))))))
  ·replace H:=H.2
   intro K hK
   exact g.wop (zAI g rfl) H fun x25_1 w a H g=>hK _ _ (g.o1 7 rfl (zAI g rfl) H fun x21_1 w a H g=>(g.ao 12 rfl (zAC g rfl rfl) H fun x26_1 a H g=>(g.o1u 13 rfl (zAM g rfl rfl) H fun w a H g=>(g.ao 14 rfl (zAC g rfl rfl) H fun x27_1 a H g=>(g.o1u 15 rfl (zAM g rfl rfl) H fun w a H g=>(WA.ni ((tn (hj1 () _ _ H (g.weak ⟨rfl,rfl,rfl,rfl,trivial⟩))))))))))
def zDE (Kl1:Int→World→Prop) (x11:Int) (w:World):Prop:=
 Kl1 x11 w
def zBv (x0:Sl) (x3:Int) (x4:Value) (Ret:World→Prop) (x10:Int) (Kl1:Int→World→Prop) (x11:Int) (w:World):Prop:=
 opB Tryz.prog Value.pointer (Instr.indexAt 30 (Sl.v x0) (.int .i64 (IntKind.wrap .i64 (x3+x10)))) w (fun x48=>opB Tryz.prog zAD.v (Instr.loadAt 34 (.pointer x48)) w (fun x49=>opB Tryz.prog Value.pointer (Instr.indexAt 30 (Sl.v x0) (.int .i64 (IntKind.wrap .i64 (x3+x11)))) w (fun x54=>opB Tryz.prog zAD.v (Instr.loadAt 34 (.pointer x54)) w (fun x55=>∃ (r:Int),CallQ Tryz.prog x4 [(zAD.v x49),(zAD.v x55)] w (.int .i64 r)∧(nextB w (fun w=>((!(decide (r<0)))=true→(Ret w))∧((!(decide (r<0)))=false→(nextB w (fun w=>opP Tryz.prog Value.pointer (Instr.indexAt 30 (Sl.v x0) (.int .i64 (IntKind.wrap .i64 (x3+x11)))) (fun x71=>opP Tryz.prog Value.pointer (Instr.indexAt 30 (Sl.v x0) (.int .i64 (IntKind.wrap .i64 (x3+x10)))) (fun x77=>(opE Tryz.prog zAD.v (Instr.loadAt 34 (.pointer x71)) w (fun x72 w=>opE Tryz.prog zAD.v (Instr.loadAt 34 (.pointer x77)) w (fun x78 w=>opP Tryz.prog Value.pointer (Instr.indexAt 30 (Sl.v x0) (.int .i64 (IntKind.wrap .i64 (x3+x10)))) (fun x79=>opU Tryz.prog (Instr.storeAt 34 (.pointer x79) (zAD.v x72)) w (fun w=>opP Tryz.prog Value.pointer (Instr.indexAt 30 (Sl.v x0) (.int .i64 (IntKind.wrap .i64 (x3+x11)))) (fun x80=>opU Tryz.prog (Instr.storeAt 34 (.pointer x80) (zAD.v x78)) w (fun w=>zDE Kl1 x11 w)))))))∧(opE Tryz.prog zAD.v (Instr.loadAt 34 (.pointer x77)) w (fun x78_1 w=>opE Tryz.prog zAD.v (Instr.loadAt 34 (.pointer x71)) w (fun x72_1 w=>opP Tryz.prog Value.pointer (Instr.indexAt 30 (Sl.v x0) (.int .i64 (IntKind.wrap .i64 (x3+x10)))) (fun x79_1=>opU Tryz.prog (Instr.storeAt 34 (.pointer x79_1) (zAD.v x72_1)) w (fun w=>opP Tryz.prog Value.pointer (Instr.indexAt 30 (Sl.v x0) (.int .i64 (IntKind.wrap .i64 (x3+x11)))) (fun x80_1=>opU Tryz.prog (Instr.storeAt 34 (.pointer x80_1) (zAD.v x78_1)) w (fun w=>zDE Kl1 x11 w))))))))))))))))))
def zBw (x0:Sl) (x3:Int) (x4:Value) (Ret:World→Prop) (x10:Int) (Kl1:Int→World→Prop) (x40:Bool) (w:World):Prop:=
 nextB w (fun w=>(x40=true→(zBv x0 x3 x4 Ret x10 Kl1 (IntKind.wrap .i64 ((IntKind.wrap .i64 ((IntKind.wrap .i64 (2*x10))+1))+1)) w))∧(x40=false→(zBv x0 x3 x4 Ret x10 Kl1 (IntKind.wrap .i64 ((IntKind.wrap .i64 (2*x10))+1)) w)))
def zD2 (x0:Sl) (x2:Int) (x3:Int) (x4:Value) (Ret:World→Prop) (x10:Int) (w:World) (Kl1:Int→World→Prop):Prop:=
 ((x2≤(IntKind.wrap .i64 ((IntKind.wrap .i64 (2*x10))+1)))→(Ret w))∧(¬ (x2≤(IntKind.wrap .i64 ((IntKind.wrap .i64 (2*x10))+1)))→((((IntKind.wrap .i64 ((IntKind.wrap .i64 ((IntKind.wrap .i64 (2*x10))+1))+1))<x2)→(opB Tryz.prog Value.pointer (Instr.indexAt 30 (Sl.v x0) (.int .i64 (IntKind.wrap .i64 (x3+(IntKind.wrap .i64 ((IntKind.wrap .i64 (2*x10))+1)))))) w (fun x29=>opB Tryz.prog zAD.v (Instr.loadAt 34 (.pointer x29)) w (fun x30=>opB Tryz.prog Value.pointer (Instr.indexAt 30 (Sl.v x0) (.int .i64 (IntKind.wrap .i64 ((IntKind.wrap .i64 (x3+(IntKind.wrap .i64 ((IntKind.wrap .i64 (2*x10))+1))))+1)))) w (fun x36=>opB Tryz.prog zAD.v (Instr.loadAt 34 (.pointer x36)) w (fun x37=>∃ (r_1:Int),CallQ Tryz.prog x4 [(zAD.v x30),(zAD.v x37)] w (.int .i64 r_1)∧(zBw x0 x3 x4 Ret x10 Kl1 (decide (r_1<0)) w)))))))∧(¬ ((IntKind.wrap .i64 ((IntKind.wrap .i64 ((IntKind.wrap .i64 (2*x10))+1))+1))<x2)→(zBw x0 x3 x4 Ret x10 Kl1 false w))))
def zFP (x0:Sl) (x1:Int) (x2:Int) (x3:Int) (x4:Value) (w:World) (Ret:World→Prop):Prop:=
 ∃ (I:Int→World→Prop) (μ:Int→World→Nat),I x1 w∧∀ (x10:Int) w,I x10 w→zD2 x0 x2 x3 x4 Ret x10 w (fun x10' w'=>I x10' w'∧μ x10' w'<μ x10 w)
set_option maxRecDepth 100000 in
theorem zI8 (x0:Sl) (x1:Int) (x2:Int) (x3:Int) (x4:Value) (w:World) (Ret:World→Prop) (H:zFP x0 x1 x2 x3 x4 w Ret):Cl Tryz.prog 144 [(Sl.v x0),(.int .i64 x1),(.int .i64 x2),(.int .i64 x3),x4].toArray w (fun e w'=>e=.returned (.tuple [].toArray)∧Ret w'):=by
 unfold zFP at H
 refine zAY 82 (zipE 0 [(Sl.v x0),(.int .i64 x1),(.int .i64 x2),(.int .i64 x3),x4]) Tryz.func144 rfl rfl (by rfl) rfl ?_
 intro a g
 replace g:Sat [] 82 [(0,(Sl.v x0)),(1,(.int .i64 x1)),(2,(.int .i64 x2)),(3,(.int .i64 x3)),(4,x4)] a:=g
 refine zAF (zAA (g.mv rfl fun _ g=>(g.as_ rfl fun _ g=>(zAG (tn (zAN ?_))))))
 obtain ⟨I_l1,μ_l1,h0,hb⟩:=H
 refine zBl (ds:=[]) (N:=82) (σ:=Int) (fun s=>[(10,(.int .i64 s)),(0,(Sl.v x0)),(2,(.int .i64 x2)),(3,(.int .i64 x3)),(4,x4)]) (fun s w=>I_l1 s w) (fun s w=>μ_l1 s w) x1 h0 (g.weak ⟨rfl,rfl,rfl,rfl,rfl,trivial⟩) ?_
 intro x10 w a hI g
 try dsimp only at hI g
 obtain ⟨Kl1,hK_l1⟩:∃ K:Int→World→Prop,K=(fun x10' w'=>I_l1 x10' w'∧μ_l1 x10' w'<μ_l1 x10 w):=⟨_,rfl⟩
 have H:zD2 x0 x2 x3 x4 Ret x10 w Kl1:=by rw [hK_l1];exact hb x10 w hI
 clear hb h0 hI
 unfold zD2 at H
 refine zAN (zAF (zAA (g.mv rfl fun _ g=>(g.pur (zLJ g rfl rfl) fun _ g=>(g.pur (zAn g rfl rfl) fun _ g=>(g.as_ rfl fun _ g=>(zAG (tn (zAF (zAF (zAA (g.mv rfl fun _ g=>(g.mv rfl fun _ g=>(g.pur (zF7 g rfl rfl) fun _ g=>(zAG (tn (zAR g rfl (fun hc=>?_) (fun hc=>?_))))))))))))))))))
 ·replace H:=H.1 hc
  exact zBJ (te (bo (te (be (zG1 g rfl ⟨rfl,H⟩)))))
 ·replace H:=H.2 hc
  refine zAP (tn (zBG (ds:=[]) (N:=82) (σ:=Int) (fun s=>[(11,(.int .i64 s)),(0,(Sl.v x0)),(2,(.int .i64 x2)),(3,(.int .i64 x3)),(4,x4),(10,(.int .i64 x10))]) (fun s w=>zBv x0 x3 x4 Ret x10 Kl1 s w) ?_ (fun hj2=>?_)))
  ·intro x11 w a H g
   try dsimp only at H g
   unfold zBv at H
   refine zAF (zAF (zEB (by kernel_rfl) (by kernel_rfl) (g.qm rfl fun _ g=>(g.qm rfl fun _ g=>(g.qm rfl fun _ g=>(g.qm rfl fun _ g=>(g.qpur (zAn g rfl rfl) fun _ g=>(g.qop (zAC g rfl rfl) H fun x48 a H g=>(g.qop (zAI g rfl) H fun x49 a H g=>(g.qm rfl fun _ g=>(g.qm rfl fun _ g=>(g.qm rfl fun _ g=>(g.qpur (zAn g rfl rfl) fun _ g=>(g.qop (zAC g rfl rfl) H fun x54 a H g=>(g.qop (zAI g rfl) H fun x55 a H g=>?_)))))))))))))))
   obtain ⟨r,hc,H⟩:=H
   refine g.qcallV rfl rfl hc fun _ g=>g.qpur (zDp g rfl rfl) fun _ g=>g.qpur (zGp g rfl) fun _ g=>zED (fun w hB=>?_)
   replace H:=H w hB
   refine (tn (zAV g rfl (fun hc=>?_) (fun hc=>?_)))
   ·replace H:=H.1 hc
    exact zAf (tr (br (tr (br (zKH g rfl ⟨rfl,H⟩)))))
   ·replace H:=H.2 hc
    refine zAP (tn (zBG (ds:=[]) (N:=82) (σ:=Unit) (fun s=>[(0,(Sl.v x0)),(2,(.int .i64 x2)),(3,(.int .i64 x3)),(4,x4),(11,(.int .i64 x11))]) (fun s w=>zDE Kl1 x11 w) ?_ (fun hj3=>?_)))
    ·rintro ⟨⟩ w a H g
     try dsimp only at H g
     unfold zDE at H
     refine zAA (g.mv rfl fun _ g=>(g.as_ rfl fun _ g=>?_))
     rw [hK_l1] at H
     exact zAG (bn (tn ⟨x11,g.weak ⟨rfl,rfl,rfl,rfl,rfl,trivial⟩,H⟩))
    ·refine zKK 24 fun w hB=>?_
     replace H:=H w hB
     refine g.ap 0 rfl (zAL g rfl) fun _ g=>g.ap 1 rfl (zAL g rfl) fun _ g=>g.ap 2 rfl (zAL g rfl) fun _ g=>g.ap 3 rfl (zAn g rfl rfl) fun _ g=>g.ap 4 rfl (zAL g rfl) fun _ g=>g.ap 5 rfl (zAL g rfl) fun _ g=>g.ap 6 rfl (zAL g rfl) fun _ g=>g.ap 7 rfl (zAn g rfl rfl) fun _ g=>g.ap 8 rfl (zAL g rfl) fun _ g=>g.ap 9 rfl (zAL g rfl) fun _ g=>g.ap 10 rfl (zAL g rfl) fun _ g=>g.ap 11 rfl (zAn g rfl rfl) fun _ g=>g.ao 12 rfl (zAC g rfl rfl) H fun x71 a H g=>g.ap 14 rfl (zAL g rfl) fun _ g=>g.ap 15 rfl (zAL g rfl) fun _ g=>g.ap 16 rfl (zAL g rfl) fun _ g=>g.ap 17 rfl (zAn g rfl rfl) fun _ g=>g.ao 18 rfl (zAC g rfl rfl) H fun x77 a H g=>WA.tw 13 19 rfl rfl ?_ ?_
     ·replace H:=H.1
      intro K hK
      exact g.wop (zAI g rfl) H fun x72 w a H g=>hK _ _ (g.o1 19 rfl (zAI g rfl) H fun x78 w a H g=>(g.ao 20 rfl (zAC g rfl rfl) H fun x79 a H g=>(g.o1u 21 rfl (zAM g rfl rfl) H fun w a H g=>(g.ao 22 rfl (zAC g rfl rfl) H fun x80 a H g=>(g.o1u 23 rfl (zAM g rfl rfl) H fun w a H g=>(WA.ni ((tn (hj3 () _ _ H (g.weak ⟨rfl,rfl,rfl,rfl,rfl,trivial⟩))))))))))
     ·replace H:=H.2
      intro K hK
      exact g.wop (zAI g rfl) H fun x78_1 w a H g=>hK _ _ (g.o1 13 rfl (zAI g rfl) H fun x72_1 w a H g=>(g.ao 20 rfl (zAC g rfl rfl) H fun x79_1 a H g=>(g.o1u 21 rfl (zAM g rfl rfl) H fun w a H g=>(g.ao 22 rfl (zAC g rfl rfl) H fun x80_1 a H g=>(g.o1u 23 rfl (zAM g rfl rfl) H fun w a H g=>(WA.ni ((tn (hj3 () _ _ H (g.weak ⟨rfl,rfl,rfl,rfl,rfl,trivial⟩))))))))))
  ·refine zAF (zEB (by kernel_rfl) (by kernel_rfl) (g.qm rfl fun _ g=>(g.qpur (zAn g rfl rfl) fun _ g=>(g.qm rfl fun _ g=>(g.qpur (zDp g rfl rfl) fun _ g=>(g.qm rfl fun _ g=>(WQ.join (ds:=[]) (N:=82) (σ:=Bool) (fun s=>[(40,(.bool s)),(0,(Sl.v x0)),(2,(.int .i64 x2)),(3,(.int .i64 x3)),(4,x4),(10,(.int .i64 x10)),(11,(.int .i64 (IntKind.wrap .i64 ((IntKind.wrap .i64 (2*x10))+1))))]) (fun s=>zBw x0 x3 x4 Ret x10 Kl1 s w) 17 ?_ (fun hr4=>?_))))))))
   ·intro x40 a H g
    try dsimp only at H g
    unfold zBw at H
    refine zED (fun w hB=>?_)
    replace H:=H w hB
    refine (tn (zAV g rfl (fun hc=>?_) (fun hc=>?_)))
    ·replace H:=H.1 hc
     exact zAA (g.mv rfl fun _ g=>(g.pur (zAn g rfl rfl) fun _ g=>(g.as_ rfl fun _ g=>(zAG (tn (hj2 (IntKind.wrap .i64 ((IntKind.wrap .i64 ((IntKind.wrap .i64 (2*x10))+1))+1)) _ _ H (g.weak ⟨rfl,rfl,rfl,rfl,rfl,rfl,trivial⟩)))))))
    ·replace H:=H.2 hc
     exact zAP (tn (hj2 (IntKind.wrap .i64 ((IntKind.wrap .i64 (2*x10))+1)) _ _ H (g.weak ⟨rfl,rfl,rfl,rfl,rfl,rfl,trivial⟩)))
   ·rcases Classical.em (((IntKind.wrap .i64 ((IntKind.wrap .i64 ((IntKind.wrap .i64 (2*x10))+1))+1))<x2)) with hbr4|hbr4
    ·replace H:=H.1 hbr4
     replace g:=g.bool (b:=true) (t:=23) rfl (decide_eq_true hbr4)
     refine g.qon (by rfl) (by rfl) (g.qm rfl fun _ g=>(g.qon (by rfl) (by rfl) (g.qm rfl fun _ g=>(g.qon (by rfl) (by rfl) (g.qm rfl fun _ g=>(g.qon (by rfl) (by rfl) (g.qm rfl fun _ g=>(g.qon (by rfl) (by rfl) (g.qpur (zAn g rfl rfl) fun _ g=>(g.qon (by rfl) (by rfl) (g.qop (zAC g rfl rfl) H fun x29 a H g=>(g.qon (by rfl) (by rfl) (g.qop (zAI g rfl) H fun x30 a H g=>(g.qon (by rfl) (by rfl) (g.qm rfl fun _ g=>(g.qon (by rfl) (by rfl) (g.qm rfl fun _ g=>(g.qon (by rfl) (by rfl) (g.qm rfl fun _ g=>(g.qon (by rfl) (by rfl) (g.qpur (zAn g rfl rfl) fun _ g=>(g.qon (by rfl) (by rfl) (g.qpur (zAn g rfl rfl) fun _ g=>(g.qon (by rfl) (by rfl) (g.qop (zAC g rfl rfl) H fun x36 a H g=>(g.qon (by rfl) (by rfl) (g.qop (zAI g rfl) H fun x37 a H g=>(g.qon (by rfl) (by rfl) ?_))))))))))))))))))))))))))))
     obtain ⟨r_1,hc,H⟩:=H
     exact g.qcallV rfl rfl hc fun _ g=>g.qon (by rfl) (by rfl) (g.qpur (zDp g rfl rfl) fun _ g=>(g.qpur (zAj g rfl rfl) fun _ g=>(hr4 (decide (r_1<0)) _ H (g.weak ⟨rfl,rfl,rfl,rfl,rfl,rfl,rfl,trivial⟩))))
    ·replace H:=H.2 hbr4
     replace g:=g.bool (b:=false) (t:=23) rfl (decide_eq_false hbr4)
     exact g.qoff (by rfl) (by rfl) (by decide) (fun _ g=>(g.qoff (by rfl) (by rfl) (by decide) (fun _ g=>(g.qoff (by rfl) (by rfl) (by decide) (fun _ g=>(g.qoff (by rfl) (by rfl) (by decide) (fun _ g=>(g.qoff (by rfl) (by rfl) (by decide) (fun _ g=>(g.qoff (by rfl) (by rfl) (by decide) (fun _ g=>(g.qoff (by rfl) (by rfl) (by decide) (fun _ g=>(g.qoff (by rfl) (by rfl) (by decide) (fun _ g=>(g.qoff (by rfl) (by rfl) (by decide) (fun _ g=>(g.qoff (by rfl) (by rfl) (by decide) (fun _ g=>(g.qoff (by rfl) (by rfl) (by decide) (fun _ g=>(g.qoff (by rfl) (by rfl) (by decide) (fun _ g=>(g.qoff (by rfl) (by rfl) (by decide) (fun _ g=>(g.qoff (by rfl) (by rfl) (by decide) (fun _ g=>(g.qoff (by rfl) (by rfl) (by decide) (fun _ g=>(g.qoff (by rfl) (by rfl) (by decide) (fun _ g=>(g.qpur (zAi g rfl rfl) fun _ g=>(hr4 false _ H (g.weak ⟨rfl,rfl,rfl,rfl,rfl,rfl,rfl,trivial⟩))))))))))))))))))))))))))))))))))
def zET (x0:Sl) (x1:Int) (x2:Option Addr) (x3:Value) (w:World) (Ret:Int→World→Prop):Prop:=
 Cl Tryz.prog 146 [(Sl.v x0),(.int .i64 (IntKind.wrap .i64 (x1 - 1))),(.int .i64 x1),(.int .i64 (IntKind.wrap .i64 (x1+1))),(.pointer x2),x3].toArray w (fun e w=>∃ (r:Int),e=.returned (.int .i64 r)∧(Ret r w))
set_option maxRecDepth 100000 in
theorem zHa (x0:Sl) (x1:Int) (x2:Option Addr) (x3:Value) (w:World) (Ret:Int→World→Prop) (H:zET x0 x1 x2 x3 w Ret):Cl Tryz.prog 145 [(Sl.v x0),(.int .i64 x1),(.pointer x2),x3].toArray w (fun e w'=>∃ (r0:Int),e=.returned (.int .i64 r0)∧Ret r0 w'):=by
 unfold zET at H
 refine zAY 18 (zipE 0 [(Sl.v x0),(.int .i64 x1),(.pointer x2),x3]) Tryz.func145 rfl rfl (by rfl) rfl ?_
 intro a g
 replace g:Sat [] 18 [(0,(Sl.v x0)),(1,(.int .i64 x1)),(2,(.pointer x2)),(3,x3)] a:=g
 refine zAF (zAA (g.as_ rfl fun _ g=>(zAG (tn (zAF (zAA (g.mv rfl fun _ g=>(g.mv rfl fun _ g=>(g.pur (zAv g rfl rfl) fun _ g=>(g.mv rfl fun _ g=>(g.mv rfl fun _ g=>(g.pur (zAn g rfl rfl) fun _ g=>(g.mv rfl fun _ g=>(g.mv rfl fun _ g=>(g.call (zAQ g zSg rfl rfl) H fun e w H=>?_)))))))))))))))
 obtain ⟨r,rfl,H⟩:=H
 exact ⟨_,rfl,fun _ g=>(g.as_ rfl fun _ g=>(zAG (tn (zAf (zAt g rfl rfl ⟨_,rfl,H⟩)))))⟩
def zFf (x0:Sl) (x1:Int) (x2:Int) (x3:Int) (x4:Option Addr) (x5:Value) (w:World) (Ret:Int→World→Prop):Prop:=
 Cl Tryz.prog 149 [(Sl.v x0),(.int .i64 x1),(.int .i64 x2),(.pointer x4),x5].toArray w (fun e w=>∃ (r:Int) (r_1:Int),e=.returned (.tuple [(.int .i64 r),(.int .i64 r_1)].toArray)∧(Cl Tryz.prog 149 [(Sl.v x0),(.int .i64 r_1),(.int .i64 x3),(.pointer x4),x5].toArray w (fun e w=>∃ (r_2:Int) (r_3:Int),e=.returned (.tuple [(.int .i64 r_2),(.int .i64 r_3)].toArray)∧(Cl Tryz.prog 149 [(Sl.v x0),(.int .i64 r),(.int .i64 r_2),(.pointer x4),x5].toArray w (fun e w=>∃ (r_4:Int) (r_5:Int),e=.returned (.tuple [(.int .i64 r_4),(.int .i64 r_5)].toArray)∧(Ret r_5 w))))))
set_option maxRecDepth 100000 in
theorem zJW (x0:Sl) (x1:Int) (x2:Int) (x3:Int) (x4:Option Addr) (x5:Value) (w:World) (Ret:Int→World→Prop) (H:zFf x0 x1 x2 x3 x4 x5 w Ret):Cl Tryz.prog 146 [(Sl.v x0),(.int .i64 x1),(.int .i64 x2),(.int .i64 x3),(.pointer x4),x5].toArray w (fun e w'=>∃ (r0:Int),e=.returned (.int .i64 r0)∧Ret r0 w'):=by
 unfold zFf at H
 refine zAY 41 (zipE 0 [(Sl.v x0),(.int .i64 x1),(.int .i64 x2),(.int .i64 x3),(.pointer x4),x5]) Tryz.func146 rfl rfl (by rfl) rfl ?_
 intro a g
 replace g:Sat [] 41 [(0,(Sl.v x0)),(1,(.int .i64 x1)),(2,(.int .i64 x2)),(3,(.int .i64 x3)),(4,(.pointer x4)),(5,x5)] a:=g
 refine zAF (zAA (g.as_ rfl fun _ g=>(zAG (tn (zAF (zAA (g.mv rfl fun _ g=>(g.mv rfl fun _ g=>(g.mv rfl fun _ g=>(g.mv rfl fun _ g=>(g.mv rfl fun _ g=>(g.call (zAQ g zRl rfl rfl) H fun e w H=>?_))))))))))))
 obtain ⟨r,r_1,rfl,H⟩:=H
 refine ⟨_,rfl,fun _ g=>(g.mv rfl fun _ g=>(g.pur (zAO g rfl rfl) fun _ g=>(g.pur (zAO g rfl rfl) fun _ g=>(g.as_ rfl fun _ g=>(g.as_ rfl fun _ g=>(zAG (tn (zAF (zAA (g.mv rfl fun _ g=>(g.mv rfl fun _ g=>(g.mv rfl fun _ g=>(g.mv rfl fun _ g=>(g.mv rfl fun _ g=>(g.call (zAQ g zRl rfl rfl) H fun e w H=>?_)))))))))))))))⟩
 obtain ⟨r_2,r_3,rfl,H⟩:=H
 refine ⟨_,rfl,fun _ g=>(g.mv rfl fun _ g=>(g.pur (zAO g rfl rfl) fun _ g=>(g.pur (zAO g rfl rfl) fun _ g=>(g.as_ rfl fun _ g=>(g.as_ rfl fun _ g=>(zAG (tn (zAF (zAA (g.mv rfl fun _ g=>(g.mv rfl fun _ g=>(g.mv rfl fun _ g=>(g.mv rfl fun _ g=>(g.mv rfl fun _ g=>(g.call (zAQ g zRl rfl rfl) H fun e w H=>?_)))))))))))))))⟩
 obtain ⟨r_4,r_5,rfl,H⟩:=H
 exact ⟨_,rfl,fun _ g=>(g.mv rfl fun _ g=>(g.pur (zAO g rfl rfl) fun _ g=>(g.pur (zAO g rfl rfl) fun _ g=>(g.as_ rfl fun _ g=>(g.as_ rfl fun _ g=>(zAG (tn (zAF (zAA (g.mv rfl fun _ g=>(g.as_ rfl fun _ g=>(zAG (tn (zAf (zAt g rfl rfl ⟨_,rfl,H⟩)))))))))))))))⟩
def zFe (x0:Sl) (x1:Int) (x2:Int) (x3:Option Addr) (x4:Value) (w:World) (Ret:Int→Int→World→Prop):Prop:=
 opB Tryz.prog Value.pointer (Instr.indexAt 30 (Sl.v x0) (.int .i64 x2)) w (fun x15=>opB Tryz.prog zAD.v (Instr.loadAt 34 (.pointer x15)) w (fun x16=>opB Tryz.prog Value.pointer (Instr.indexAt 30 (Sl.v x0) (.int .i64 x1)) w (fun x19=>opB Tryz.prog zAD.v (Instr.loadAt 34 (.pointer x19)) w (fun x20=>∃ (r:Int),CallQ Tryz.prog x4 [(zAD.v x16),(zAD.v x20)] w (.int .i64 r)∧(nextB w (fun w=>((r<0)→(nilOk (.pointer x3)∧(opE Tryz.prog (Value.int .i64) (Instr.loadAt 3 (.pointer x3)) w (fun x25 w=>nilOk (.pointer x3)∧(opU Tryz.prog (Instr.storeAt 3 (.pointer x3) (.int .i64 (IntKind.wrap .i64 (x25+1)))) w (fun w=>Ret x2 x1 w))))))∧(¬ (r<0)→(Ret x1 x2 w))))))))
set_option maxRecDepth 100000 in
theorem zJd (x0:Sl) (x1:Int) (x2:Int) (x3:Option Addr) (x4:Value) (w:World) (Ret:Int→Int→World→Prop) (H:zFe x0 x1 x2 x3 x4 w Ret):Cl Tryz.prog 149 [(Sl.v x0),(.int .i64 x1),(.int .i64 x2),(.pointer x3),x4].toArray w (fun e w'=>∃ (r0:Int) (r1:Int),e=.returned (.tuple [(.int .i64 r0),(.int .i64 r1)].toArray)∧Ret r0 r1 w'):=by
 unfold zFe at H
 refine zAY 32 (zipE 0 [(Sl.v x0),(.int .i64 x1),(.int .i64 x2),(.pointer x3),x4]) Tryz.func149 rfl rfl (by rfl) rfl ?_
 intro a g
 replace g:Sat [] 32 [(0,(Sl.v x0)),(1,(.int .i64 x1)),(2,(.int .i64 x2)),(3,(.pointer x3)),(4,x4)] a:=g
 refine zAF (zAA (g.as_ rfl fun _ g=>(g.as_ rfl fun _ g=>(zAG (tn (zAF (zAF (zEB (by kernel_rfl) (by kernel_rfl) (g.qm rfl fun _ g=>(g.qm rfl fun _ g=>(g.qm rfl fun _ g=>(g.qop (zAC g rfl rfl) H fun x15 a H g=>(g.qop (zAI g rfl) H fun x16 a H g=>(g.qm rfl fun _ g=>(g.qm rfl fun _ g=>(g.qop (zAC g rfl rfl) H fun x19 a H g=>(g.qop (zAI g rfl) H fun x20 a H g=>?_)))))))))))))))))
 obtain ⟨r,hc,H⟩:=H
 refine g.qcallV rfl rfl hc fun _ g=>g.qpur (zDp g rfl rfl) fun _ g=>zED (fun w hB=>?_)
 replace H:=H w hB
 refine (tn (zAR g rfl (fun hc=>?_) (fun hc=>?_)))
 ·replace H:=H.1 hc
  refine zAF (zAA (g.mv rfl fun _ g=>(g.pur (zAS g rfl H.1) fun _ g=>?_)))
  replace H:=H.2
  refine g.op (zAI g rfl) H fun x25 w a H g=>g.pur (zAn g rfl rfl) fun _ g=>g.pur (zAS g rfl H.1) fun _ g=>?_
  replace H:=H.2
  exact g.opu (zAM g rfl rfl) H fun w a H g=>zAG (tn (zAF (zAA (g.mv rfl fun _ g=>(g.mv rfl fun _ g=>(g.as_ rfl fun _ g=>(g.as_ rfl fun _ g=>(zAG (tn (zAf (tr (zFz g rfl rfl rfl ⟨_,_,rfl,H⟩))))))))))))
 ·replace H:=H.2 hc
  exact zAP (tn (zAF (zAA (g.mv rfl fun _ g=>(g.mv rfl fun _ g=>(g.as_ rfl fun _ g=>(g.as_ rfl fun _ g=>(zAG (tn (zAf (zFz g rfl rfl rfl ⟨_,_,rfl,H⟩)))))))))))
end Go.Proofs.YtealcoghiaeiiaaGreat.VG
