/- Texts by which the law's calls are walked (part 6): rules, printed conditions, contracts; no condition. -/
import Derived.TacticsIn
import Derived.TacticsInMore
import Derived.Deep.LoopGhost
import Derived.Sort.QuietThIn
import Derived.RangeFuncCalls
import Derived.RangeFuncNested
import Derived.RangeFuncLeaves
import Derived.WalkKit
import Derived.StillTail
import Derived.Test.YtealcoghiaeiiaaGreatProg
import Derived.KernelRfl
import Derived.Deep.WholeRow
import Derived.Laws.StructEq
import Derived.MapFrom
import Derived.Laws.CopyRow
import Derived.Maps.RangeRun
import Derived.Sort.Walk0
import Derived.Test.YtealcoghiaeiiaaGreatPkTxnApartE
set_option linter.unusedVariables false
set_option linter.unusedSimpArgs false
namespace Go.Proofs.YtealcoghiaeiiaaGreat.VG
open Go.VB Go.Proofs
def zEr (x0:Sl) (x1:Value) (w:World) (Ret:World→Prop):Prop:=
 opE Tryz.prog (Value.int .u64) (Go.convert 3 143 (.int .i64 (x0.len:Int))) w (fun x10 w=>Cl Tryz.prog 73 [(.int .u64 x10)].toArray w (fun e w=>∃ (r:Int),e=.returned (.int .i64 r)∧(Cl Tryz.prog 103 [(Sl.v x0),(.int .i64 0),(.int .i64 (x0.len:Int)),(.int .i64 r),x1].toArray w (fun e w=>e=.returned (.tuple [].toArray)∧(Ret w)))))
set_option maxRecDepth 100000 in
theorem zIJ (x0:Sl) (x1:Value) (w:World) (Ret:World→Prop) (H:zEr x0 x1 w Ret):Cl Tryz.prog 81 [(Sl.v x0),x1].toArray w (fun e w'=>e=.returned (.tuple [].toArray)∧Ret w'):=by
 unfold zEr at H
 refine zAY 14 (zipE 0 [(Sl.v x0),x1]) Tryz.func81 rfl rfl (by rfl) rfl ?_
 intro a g
 replace g:Sat [] 14 [(0,(Sl.v x0)),(1,x1)] a:=g
 refine zAF (zAA (g.mv rfl fun _ g=>(g.purR (fun w=>zGm g Tryz.underlying30 rfl) fun _ g=>(g.as_ rfl fun _ g=>(zAG (tn (zAA (g.mv rfl fun _ g=>(g.mv rfl fun _ g=>(g.mv rfl fun _ g=>(g.op (zGY g rfl) H fun x10 w a H g=>(g.call (zAQ g ent73 rfl rfl) H fun e w H=>?_))))))))))))
 obtain ⟨r,rfl,H⟩:=H
 refine ⟨_,rfl,fun _ g=>(g.mv rfl fun _ g=>(g.call (zAQ g zRQ rfl rfl) H fun e w H=>?_))⟩
 obtain ⟨rfl,H⟩:=H
 exact ⟨_,rfl,fun _ g=>(zAG (zG1 g rfl ⟨rfl,H⟩))⟩
def zDN (x0:Sl) (x4:Value) (x1_1:Int) (x2_1:Int) (x10:Bool) (x11:Bool) (Kl1:Int→Int→Int→Bool→Bool→World→Prop) (x3_2:Int) (x13:Int) (x97:Bool) (w:World):Prop:=
 nextB w (fun w=>(x97=true→(Cl Tryz.prog 134 [(Sl.v x0),(.int .i64 x1_1),(.int .i64 x2_1),(.int .i64 x13),x4].toArray w (fun e w=>∃ (r_2:Int),e=.returned (.int .i64 r_2)∧(Kl1 r_2 x2_1 x3_2 x10 x11 w))))∧(x97=false→(Cl Tryz.prog 135 [(Sl.v x0),(.int .i64 x1_1),(.int .i64 x2_1),(.int .i64 x13),x4].toArray w (fun e w=>∃ (r_3:Int) (r_4:Bool),e=.returned (.tuple [(.int .i64 r_3),(.bool r_4)].toArray)∧(opE Tryz.prog (Value.int .i64) (binOp .quo 3 (.int .i64 (IntKind.wrap .i64 (x2_1 - x1_1))) (.int .i64 8)) w (fun x122 w=>(((IntKind.wrap .i64 (r_3 - x1_1))<(IntKind.wrap .i64 (x2_1 - r_3)))→(Cl Tryz.prog 103 [(Sl.v x0),(.int .i64 x1_1),(.int .i64 r_3),(.int .i64 x3_2),x4].toArray w (fun e w=>e=.returned (.tuple [].toArray)∧(Kl1 (IntKind.wrap .i64 (r_3+1)) x2_1 x3_2 (decide (x122≤(IntKind.wrap .i64 (r_3 - x1_1)))) r_4 w))))∧(¬ ((IntKind.wrap .i64 (r_3 - x1_1))<(IntKind.wrap .i64 (x2_1 - r_3)))→(Cl Tryz.prog 103 [(Sl.v x0),(.int .i64 (IntKind.wrap .i64 (r_3+1))),(.int .i64 x2_1),(.int .i64 x3_2),x4].toArray w (fun e w=>e=.returned (.tuple [].toArray)∧(Kl1 x1_1 r_3 x3_2 (decide (x122≤(IntKind.wrap .i64 (x2_1 - r_3)))) r_4 w))))))))))
def zCH (x0:Sl) (x4:Value) (x1_1:Int) (x2_1:Int) (x10:Bool) (x11:Bool) (Kl1:Int→Int→Int→Bool→Bool→World→Prop) (x3_2:Int) (x13:Int) (w:World):Prop:=
 ((0<x1_1)→(opB Tryz.prog Value.pointer (Instr.indexAt 30 (Sl.v x0) (.int .i64 (IntKind.wrap .i64 (x1_1 - 1)))) w (fun x88=>opB Tryz.prog zAD.v (Instr.loadAt 34 (.pointer x88)) w (fun x89=>opB Tryz.prog Value.pointer (Instr.indexAt 30 (Sl.v x0) (.int .i64 x13)) w (fun x92=>opB Tryz.prog zAD.v (Instr.loadAt 34 (.pointer x92)) w (fun x93=>∃ (r_5:Int),CallQ Tryz.prog x4 [(zAD.v x89),(zAD.v x93)] w (.int .i64 r_5)∧(zDN x0 x4 x1_1 x2_1 x10 x11 Kl1 x3_2 x13 (!(decide (r_5<0))) w)))))))∧(¬ (0<x1_1)→(zDN x0 x4 x1_1 x2_1 x10 x11 Kl1 x3_2 x13 false w))
def zCE (x0:Sl) (x4:Value) (Ret:World→Prop) (x1_1:Int) (x2_1:Int) (x10:Bool) (x11:Bool) (Kl1:Int→Int→Int→Bool→Bool→World→Prop) (x3_2:Int) (x13:Int) (x75:Bool) (w:World):Prop:=
 (x75=true→(Cl Tryz.prog 133 [(Sl.v x0),(.int .i64 x1_1),(.int .i64 x2_1),x4].toArray w (fun e w=>∃ (r_6:Bool),e=.returned (.bool r_6)∧((r_6=true→(Ret w))∧(r_6=false→(zCH x0 x4 x1_1 x2_1 x10 x11 Kl1 x3_2 x13 w))))))∧(x75=false→(zCH x0 x4 x1_1 x2_1 x10 x11 Kl1 x3_2 x13 w))
def zDQ (x0:Sl) (x4:Value) (Ret:World→Prop) (x1_1:Int) (x2_1:Int) (x10:Bool) (x11:Bool) (Kl1:Int→Int→Int→Bool→Bool→World→Prop) (x3_2:Int) (x13:Int) (x14:Int) (x71:Bool) (w:World):Prop:=
 (x71=true→(zCE x0 x4 Ret x1_1 x2_1 x10 x11 Kl1 x3_2 x13 (decide (x14=1)) w))∧(x71=false→(zCE x0 x4 Ret x1_1 x2_1 x10 x11 Kl1 x3_2 x13 false w))
def zCG (x0:Sl) (x4:Value) (Ret:World→Prop) (x1_1:Int) (x2_1:Int) (x10:Bool) (x11:Bool) (Kl1:Int→Int→Int→Bool→Bool→World→Prop) (x3_2:Int) (x13:Int) (x14:Int) (w:World):Prop:=
 (x10=true→(zDQ x0 x4 Ret x1_1 x2_1 x10 x11 Kl1 x3_2 x13 x14 x11 w))∧(x10=false→(zDQ x0 x4 Ret x1_1 x2_1 x10 x11 Kl1 x3_2 x13 x14 false w))
def zCF (x0:Sl) (x4:Value) (Ret:World→Prop) (x1_1:Int) (x2_1:Int) (x10:Bool) (x11:Bool) (Kl1:Int→Int→Int→Bool→Bool→World→Prop) (x3_2:Int) (w:World):Prop:=
 Cl Tryz.prog 131 [(Sl.v x0),(.int .i64 x1_1),(.int .i64 x2_1),x4].toArray w (fun e w=>∃ (r:Int) (r_1:Int),e=.returned (.tuple [(.int .i64 r),(.int .i64 r_1)].toArray)∧(((r_1=2)→(Cl Tryz.prog 132 [(Sl.v x0),(.int .i64 x1_1),(.int .i64 x2_1),x4].toArray w (fun e w=>e=.returned (.tuple [].toArray)∧(zCG x0 x4 Ret x1_1 x2_1 x10 x11 Kl1 x3_2 (IntKind.wrap .i64 ((IntKind.wrap .i64 (x2_1 - 1)) - (IntKind.wrap .i64 (r - x1_1)))) 1 w))))∧(¬ (r_1=2)→(zCG x0 x4 Ret x1_1 x2_1 x10 x11 Kl1 x3_2 r r_1 w))))
def zDA (x0:Sl) (x4:Value) (Ret:World→Prop) (x1_1:Int) (x2_1:Int) (x3_1:Int) (x10:Bool) (x11:Bool) (w:World) (Kl1:Int→Int→Int→Bool→Bool→World→Prop):Prop:=
 (((IntKind.wrap .i64 (x2_1 - x1_1))≤12)→(Cl Tryz.prog 128 [(Sl.v x0),(.int .i64 x1_1),(.int .i64 x2_1),x4].toArray w (fun e w=>e=.returned (.tuple [].toArray)∧(Ret w))))∧(¬ ((IntKind.wrap .i64 (x2_1 - x1_1))≤12)→(((x3_1=0)→(Cl Tryz.prog 129 [(Sl.v x0),(.int .i64 x1_1),(.int .i64 x2_1),x4].toArray w (fun e w=>e=.returned (.tuple [].toArray)∧(Ret w))))∧(¬ (x3_1=0)→(((!x10)=true→(Cl Tryz.prog 130 [(Sl.v x0),(.int .i64 x1_1),(.int .i64 x2_1),x4].toArray w (fun e w=>e=.returned (.tuple [].toArray)∧(zCF x0 x4 Ret x1_1 x2_1 x10 x11 Kl1 (IntKind.wrap .i64 (x3_1 - 1)) w))))∧((!x10)=false→(zCF x0 x4 Ret x1_1 x2_1 x10 x11 Kl1 x3_1 w))))))
def zEQ (x0:Sl) (x1:Int) (x2:Int) (x3:Int) (x4:Value) (w:World) (Ret:World→Prop):Prop:=
 ∃ (I:Int→Int→Int→Bool→Bool→World→Prop) (μ:Int→Int→Int→Bool→Bool→World→Nat),I x1 x2 x3 true true w∧∀ (x1_1:Int) (x2_1:Int) (x3_1:Int) (x10:Bool) (x11:Bool) w,I x1_1 x2_1 x3_1 x10 x11 w→zDA x0 x4 Ret x1_1 x2_1 x3_1 x10 x11 w (fun x1_1' x2_1' x3_1' x10' x11' w'=>I x1_1' x2_1' x3_1' x10' x11' w'∧μ x1_1' x2_1' x3_1' x10' x11' w'<μ x1_1 x2_1 x3_1 x10 x11 w)
set_option maxRecDepth 100000 in
theorem zGQ (x0:Sl) (x1:Int) (x2:Int) (x3:Int) (x4:Value) (w:World) (Ret:World→Prop) (H:zEQ x0 x1 x2 x3 x4 w Ret):Cl Tryz.prog 103 [(Sl.v x0),(.int .i64 x1),(.int .i64 x2),(.int .i64 x3),x4].toArray w (fun e w'=>e=.returned (.tuple [].toArray)∧Ret w'):=by
 unfold zEQ at H
 refine zAY 148 (zipE 0 [(Sl.v x0),(.int .i64 x1),(.int .i64 x2),(.int .i64 x3),x4]) Tryz.func103 rfl rfl (by rfl) rfl ?_
 intro a g
 replace g:Sat [] 148 [(0,(Sl.v x0)),(1,(.int .i64 x1)),(2,(.int .i64 x2)),(3,(.int .i64 x3)),(4,x4)] a:=g
 refine zAF (zAA (g.as_ rfl fun _ g=>(zAG (tn (zAF (zAA (g.as_ rfl fun _ g=>(zAG (tn (zAN ?_))))))))))
 obtain ⟨I_l1,μ_l1,h0,hb⟩:=H
 refine zBl (ds:=[]) (N:=148) (σ:=Int × Int × Int × Bool × Bool) (fun s=>[(1,(.int .i64 s.1)),(2,(.int .i64 s.2.1)),(3,(.int .i64 s.2.2.1)),(10,(.bool s.2.2.2.1)),(11,(.bool s.2.2.2.2)),(0,(Sl.v x0)),(4,x4)]) (fun s w=>I_l1 s.1 s.2.1 s.2.2.1 s.2.2.2.1 s.2.2.2.2 w) (fun s w=>μ_l1 s.1 s.2.1 s.2.2.1 s.2.2.2.1 s.2.2.2.2 w) (x1,x2,x3,true,true) h0 (g.weak ⟨rfl,rfl,rfl,rfl,rfl,rfl,rfl,trivial⟩) ?_
 rintro ⟨x1_1,x2_1,x3_1,x10,x11⟩ w a hI g
 try dsimp only at hI g
 obtain ⟨Kl1,hK_l1⟩:∃ K:Int→Int→Int→Bool→Bool→World→Prop,K=(fun x1_1' x2_1' x3_1' x10' x11' w'=>I_l1 x1_1' x2_1' x3_1' x10' x11' w'∧μ_l1 x1_1' x2_1' x3_1' x10' x11' w'<μ_l1 x1_1 x2_1 x3_1 x10 x11 w):=⟨_,rfl⟩
 have H:zDA x0 x4 Ret x1_1 x2_1 x3_1 x10 x11 w Kl1:=by rw [hK_l1];exact hb x1_1 x2_1 x3_1 x10 x11 w hI
 clear hb h0 hI
 unfold zDA at H
 refine zAN (zAF (zAA (g.mv rfl fun _ g=>(g.mv rfl fun _ g=>(g.pur (zAv g rfl rfl) fun _ g=>(g.as_ rfl fun _ g=>(zAG (tn (zAF (zAF (zAA (g.mv rfl fun _ g=>(g.pur (zJn g rfl rfl) fun _ g=>(zAG (tn (zAR g rfl (fun hc=>?_) (fun hc=>?_)))))))))))))))))
 ·replace H:=H.1 hc
  refine zAF (zAA (g.mv rfl fun _ g=>(g.mv rfl fun _ g=>(g.mv rfl fun _ g=>(g.mv rfl fun _ g=>(g.call (zAQ g zT5 rfl rfl) H fun e w H=>?_))))))
  obtain ⟨rfl,H⟩:=H
  exact ⟨_,rfl,fun _ g=>(zAG (tn (zAf (tr (br (tr (br (zKH g rfl ⟨rfl,H⟩))))))))⟩
 ·replace H:=H.2 hc
  refine zAP (tn (zAF (zAF (zAA (g.mv rfl fun _ g=>(g.pur (zGX g rfl rfl) fun _ g=>(zAG (tn (zAR g rfl (fun hc=>?_) (fun hc=>?_))))))))))
  ·replace H:=H.1 hc
   refine zAF (zAA (g.mv rfl fun _ g=>(g.mv rfl fun _ g=>(g.mv rfl fun _ g=>(g.mv rfl fun _ g=>(g.call (zAQ g zTl rfl rfl) H fun e w H=>?_))))))
   obtain ⟨rfl,H⟩:=H
   exact ⟨_,rfl,fun _ g=>(zAG (tn (zAf (tr (br (tr (br (zKH g rfl ⟨rfl,H⟩))))))))⟩
  ·replace H:=H.2 hc
   refine zAP (tn (zBG (ds:=[]) (N:=148) (σ:=Int) (fun s=>[(3,(.int .i64 s)),(0,(Sl.v x0)),(1,(.int .i64 x1_1)),(2,(.int .i64 x2_1)),(4,x4),(10,(.bool x10)),(11,(.bool x11)),(12,(.int .i64 (IntKind.wrap .i64 (x2_1 - x1_1))))]) (fun s w=>zCF x0 x4 Ret x1_1 x2_1 x10 x11 Kl1 s w) ?_ (fun hj2=>?_)))
   ·intro x3_2 w a H g
    try dsimp only at H g
    unfold zCF at H
    refine zAF (zAA (g.mv rfl fun _ g=>(g.mv rfl fun _ g=>(g.mv rfl fun _ g=>(g.mv rfl fun _ g=>(g.call (zAQ g zTq rfl rfl) H fun e w H=>?_))))))
    obtain ⟨r,r_1,rfl,H⟩:=H
    refine ⟨_,rfl,fun _ g=>(g.mv rfl fun _ g=>(g.pur (zAO g rfl rfl) fun _ g=>(g.pur (zAO g rfl rfl) fun _ g=>(g.as_ rfl fun _ g=>(g.as_ rfl fun _ g=>(zAG (tn (zBG (ds:=[]) (N:=148) (σ:=Int × Int) (fun s=>[(13,(.int .i64 s.1)),(14,(.int .i64 s.2)),(0,(Sl.v x0)),(1,(.int .i64 x1_1)),(2,(.int .i64 x2_1)),(3,(.int .i64 x3_2)),(4,x4),(10,(.bool x10)),(11,(.bool x11)),(12,(.int .i64 (IntKind.wrap .i64 (x2_1 - x1_1))))]) (fun s w=>zCG x0 x4 Ret x1_1 x2_1 x10 x11 Kl1 x3_2 s.1 s.2 w) ?_ (fun hj3=>?_)))))))))⟩
    ·rintro ⟨x13,x14⟩ w a H g
     try dsimp only at H g
     unfold zCG at H
     refine zBG (ds:=[]) (N:=148) (σ:=Unit) (fun s=>[(0,(Sl.v x0)),(1,(.int .i64 x1_1)),(2,(.int .i64 x2_1)),(3,(.int .i64 x3_2)),(4,x4),(10,(.bool x10)),(11,(.bool x11)),(12,(.int .i64 (IntKind.wrap .i64 (x2_1 - x1_1)))),(13,(.int .i64 x13))]) (fun s w=>zCH x0 x4 x1_1 x2_1 x10 x11 Kl1 x3_2 x13 w) ?_ (fun hj4=>?_)
     ·rintro ⟨⟩ w a H g
      try dsimp only at H g
      unfold zCH at H
      refine zAF (zAF (zEB (by kernel_rfl) (by kernel_rfl) (g.qm rfl fun _ g=>(g.qpur (zIG g rfl rfl) fun _ g=>(g.qm rfl fun _ g=>(WQ.join (ds:=[]) (N:=148) (σ:=Bool) (fun s=>[(97,(.bool s)),(0,(Sl.v x0)),(1,(.int .i64 x1_1)),(2,(.int .i64 x2_1)),(3,(.int .i64 x3_2)),(4,x4),(10,(.bool x10)),(11,(.bool x11)),(12,(.int .i64 (IntKind.wrap .i64 (x2_1 - x1_1)))),(13,(.int .i64 x13))]) (fun s=>zDN x0 x4 x1_1 x2_1 x10 x11 Kl1 x3_2 x13 s w) 14 ?_ (fun hr5=>?_)))))))
      ·intro x97 a H g
       try dsimp only at H g
       unfold zDN at H
       refine zED (fun w hB=>?_)
       replace H:=H w hB
       refine (tn (zAV g rfl (fun hc=>?_) (fun hc=>?_)))
       ·replace H:=H.1 hc
        refine zAF (zAA (g.mv rfl fun _ g=>(g.mv rfl fun _ g=>(g.mv rfl fun _ g=>(g.mv rfl fun _ g=>(g.mv rfl fun _ g=>(g.call (zAQ g zUC rfl rfl) H fun e w H=>?_)))))))
        obtain ⟨r_2,rfl,H⟩:=H
        refine ⟨_,rfl,fun _ g=>(g.as_ rfl fun _ g=>(zAG (tn (zAF (zAA (g.mv rfl fun _ g=>(g.as_ rfl fun _ g=>(zAG (tn ?_)))))))))⟩
        rw [hK_l1] at H
        exact zBJ (te (be (tn ⟨(r_2,x2_1,x3_2,x10,x11),g.weak ⟨rfl,rfl,rfl,rfl,rfl,rfl,rfl,trivial⟩,H⟩)))
       ·replace H:=H.2 hc
        refine zAP (tn (zAF (zAA (g.mv rfl fun _ g=>(g.mv rfl fun _ g=>(g.mv rfl fun _ g=>(g.mv rfl fun _ g=>(g.mv rfl fun _ g=>(g.call (zAQ g zT7 rfl rfl) H fun e w H=>?_)))))))))
        obtain ⟨r_3,r_4,rfl,H⟩:=H
        refine ⟨_,rfl,fun _ g=>(g.mv rfl fun _ g=>(g.pur (zAO g rfl rfl) fun _ g=>(g.pur (zAO g rfl rfl) fun _ g=>(g.as_ rfl fun _ g=>(g.as_ rfl fun _ g=>(zAG (tn (zAF (zAA (g.mv rfl fun _ g=>(g.as_ rfl fun _ g=>(zAG (tn (zAF (zAA (g.mv rfl fun _ g=>(g.mv rfl fun _ g=>(g.pur (zAv g rfl rfl) fun _ g=>(g.mv rfl fun _ g=>(g.mv rfl fun _ g=>(g.pur (zAv g rfl rfl) fun _ g=>(g.as_ rfl fun _ g=>(g.as_ rfl fun _ g=>(zAG (tn (zAF (zAA (g.mv rfl fun _ g=>(g.op (zFD g rfl rfl) H fun x122 w a H g=>(g.as_ rfl fun _ g=>(zAG (tn (zAF (zAA (g.mv rfl fun _ g=>(g.mv rfl fun _ g=>(g.pur (zDp g rfl rfl) fun _ g=>(zAG (tn (zAR g rfl (fun hc=>?_) (fun hc=>?_)))))))))))))))))))))))))))))))))))))))))⟩
        ·replace H:=H.1 hc
         refine zAF (zAA (g.mv rfl fun _ g=>(g.mv rfl fun _ g=>(g.pur (zF7 g rfl rfl) fun _ g=>(g.as_ rfl fun _ g=>(zAG (tn (zAF (zAA (g.mv rfl fun _ g=>(g.mv rfl fun _ g=>(g.mv rfl fun _ g=>(g.mv rfl fun _ g=>(g.mv rfl fun _ g=>(g.call (zAQ g zRQ rfl rfl) H fun e w H=>?_)))))))))))))))
         obtain ⟨rfl,H⟩:=H
         refine ⟨_,rfl,fun _ g=>(zAG (tn (zAA (g.mv rfl fun _ g=>(g.pur (zAn g rfl rfl) fun _ g=>(g.as_ rfl fun _ g=>?_))))))⟩
         rw [hK_l1] at H
         exact zAG (bn (tn ⟨((IntKind.wrap .i64 (r_3+1)),x2_1,x3_2,(decide (x122≤(IntKind.wrap .i64 (r_3 - x1_1)))),r_4),g.weak ⟨rfl,rfl,rfl,rfl,rfl,rfl,rfl,trivial⟩,H⟩))
        ·replace H:=H.2 hc
         refine zAF (zAA (g.mv rfl fun _ g=>(g.mv rfl fun _ g=>(g.pur (zF7 g rfl rfl) fun _ g=>(g.as_ rfl fun _ g=>(zAG (tn (zAF (zAA (g.mv rfl fun _ g=>(g.mv rfl fun _ g=>(g.pur (zAn g rfl rfl) fun _ g=>(g.mv rfl fun _ g=>(g.mv rfl fun _ g=>(g.mv rfl fun _ g=>(g.call (zAQ g zRQ rfl rfl) H fun e w H=>?_))))))))))))))))
         obtain ⟨rfl,H⟩:=H
         refine ⟨_,rfl,fun _ g=>(zAG (tn (zAA (g.mv rfl fun _ g=>(g.as_ rfl fun _ g=>?_)))))⟩
         rw [hK_l1] at H
         exact zAG (bn (tn ⟨(x1_1,r_3,x3_2,(decide (x122≤(IntKind.wrap .i64 (x2_1 - r_3)))),r_4),g.weak ⟨rfl,rfl,rfl,rfl,rfl,rfl,rfl,trivial⟩,H⟩))
      ·rcases Classical.em ((0<x1_1)) with hbr5|hbr5
       ·replace H:=H.1 hbr5
        replace g:=g.bool (b:=true) (t:=83) rfl (decide_eq_true hbr5)
        refine g.qon (by rfl) (by rfl) (g.qm rfl fun _ g=>(g.qon (by rfl) (by rfl) (g.qm rfl fun _ g=>(g.qon (by rfl) (by rfl) (g.qm rfl fun _ g=>(g.qon (by rfl) (by rfl) (g.qpur (zAv g rfl rfl) fun _ g=>(g.qon (by rfl) (by rfl) (g.qop (zAC g rfl rfl) H fun x88 a H g=>(g.qon (by rfl) (by rfl) (g.qop (zAI g rfl) H fun x89 a H g=>(g.qon (by rfl) (by rfl) (g.qm rfl fun _ g=>(g.qon (by rfl) (by rfl) (g.qm rfl fun _ g=>(g.qon (by rfl) (by rfl) (g.qop (zAC g rfl rfl) H fun x92 a H g=>(g.qon (by rfl) (by rfl) (g.qop (zAI g rfl) H fun x93 a H g=>(g.qon (by rfl) (by rfl) ?_))))))))))))))))))))
        obtain ⟨r_5,hc,H⟩:=H
        exact g.qcallV rfl rfl hc fun _ g=>g.qon (by rfl) (by rfl) (g.qpur (zDp g rfl rfl) fun _ g=>(g.qon (by rfl) (by rfl) (g.qpur (zGp g rfl) fun _ g=>(g.qpur (zAj g rfl rfl) fun _ g=>(hr5 (!(decide (r_5<0))) _ H (g.weak ⟨rfl,rfl,rfl,rfl,rfl,rfl,rfl,rfl,rfl,rfl,trivial⟩))))))
       ·replace H:=H.2 hbr5
        replace g:=g.bool (b:=false) (t:=83) rfl (decide_eq_false hbr5)
        exact g.qoff (by rfl) (by rfl) (by decide) (fun _ g=>(g.qoff (by rfl) (by rfl) (by decide) (fun _ g=>(g.qoff (by rfl) (by rfl) (by decide) (fun _ g=>(g.qoff (by rfl) (by rfl) (by decide) (fun _ g=>(g.qoff (by rfl) (by rfl) (by decide) (fun _ g=>(g.qoff (by rfl) (by rfl) (by decide) (fun _ g=>(g.qoff (by rfl) (by rfl) (by decide) (fun _ g=>(g.qoff (by rfl) (by rfl) (by decide) (fun _ g=>(g.qoff (by rfl) (by rfl) (by decide) (fun _ g=>(g.qoff (by rfl) (by rfl) (by decide) (fun _ g=>(g.qoff (by rfl) (by rfl) (by decide) (fun _ g=>(g.qoff (by rfl) (by rfl) (by decide) (fun _ g=>(g.qoff (by rfl) (by rfl) (by decide) (fun _ g=>(g.qpur (zAi g rfl rfl) fun _ g=>(hr5 false _ H (g.weak ⟨rfl,rfl,rfl,rfl,rfl,rfl,rfl,rfl,rfl,rfl,trivial⟩))))))))))))))))))))))))))))
     ·refine zAF (zAA (g.mv rfl fun _ g=>(g.mv rfl fun _ g=>(WL.join (ds:=[]) (N:=148) (σ:=Bool) (fun s=>[(71,(.bool s)),(0,(Sl.v x0)),(1,(.int .i64 x1_1)),(2,(.int .i64 x2_1)),(3,(.int .i64 x3_2)),(4,x4),(10,(.bool x10)),(11,(.bool x11)),(12,(.int .i64 (IntKind.wrap .i64 (x2_1 - x1_1)))),(13,(.int .i64 x13)),(14,(.int .i64 x14))]) (fun s w=>zDQ x0 x4 Ret x1_1 x2_1 x10 x11 Kl1 x3_2 x13 x14 s w) 2 ?_ (fun hr6=>?_)))))
      ·intro x71 w a H g
       try dsimp only at H g
       unfold zDQ at H
       refine g.mv rfl fun _ g=>WL.join (ds:=[]) (N:=148) (σ:=Bool) (fun s=>[(75,(.bool s)),(0,(Sl.v x0)),(1,(.int .i64 x1_1)),(2,(.int .i64 x2_1)),(3,(.int .i64 x3_2)),(4,x4),(10,(.bool x10)),(11,(.bool x11)),(12,(.int .i64 (IntKind.wrap .i64 (x2_1 - x1_1)))),(13,(.int .i64 x13))]) (fun s w=>zCE x0 x4 Ret x1_1 x2_1 x10 x11 Kl1 x3_2 x13 s w) 3 ?_ (fun hr7=>?_)
       ·intro x75 w a H g
        try dsimp only at H g
        unfold zCE at H
        refine zAG (tn (zAV g rfl (fun hc=>?_) (fun hc=>?_)))
        ·replace H:=H.1 hc
         refine zAF (zAA (g.mv rfl fun _ g=>(g.mv rfl fun _ g=>(g.mv rfl fun _ g=>(g.mv rfl fun _ g=>(g.call (zAQ g zT0 rfl rfl) H fun e w H=>?_))))))
         obtain ⟨r_6,rfl,H⟩:=H
         refine ⟨_,rfl,fun _ g=>(zAG (tn (zAV g rfl (fun hc=>?_) (fun hc=>?_))))⟩
         ·replace H:=H.1 hc
          exact zAf (tr (br (tr (br (zKH g rfl ⟨rfl,H⟩)))))
         ·replace H:=H.2 hc
          exact zAP (tn (hj4 () _ _ H (g.weak ⟨rfl,rfl,rfl,rfl,rfl,rfl,rfl,rfl,rfl,trivial⟩)))
        ·replace H:=H.2 hc
         exact zAP (tn (hj4 () _ _ H (g.weak ⟨rfl,rfl,rfl,rfl,rfl,rfl,rfl,rfl,rfl,trivial⟩)))
       ·rcases Bool.eq_false_or_eq_true (x71) with hbr7|hbr7
        ·replace H:=H.1 hbr7
         replace g:=g.bool (b:=true) (t:=72) rfl (hbr7)
         exact g.on (by rfl) (by rfl) (g.mv rfl fun _ g=>(g.on (by rfl) (by rfl) (g.pur (zGX g rfl rfl) fun _ g=>(g.pur (zAj g rfl rfl) fun _ g=>(hr7 (decide (x14=1)) _ _ H (g.weak ⟨rfl,rfl,rfl,rfl,rfl,rfl,rfl,rfl,rfl,rfl,trivial⟩))))))
        ·replace H:=H.2 hbr7
         replace g:=g.bool (b:=false) (t:=72) rfl (hbr7)
         exact g.off (by rfl) (by rfl) (by decide) (fun _ g=>(g.off (by rfl) (by rfl) (by decide) (fun _ g=>(g.pur (zAi g rfl rfl) fun _ g=>(hr7 false _ _ H (g.weak ⟨rfl,rfl,rfl,rfl,rfl,rfl,rfl,rfl,rfl,rfl,trivial⟩))))))
      ·rcases Bool.eq_false_or_eq_true (x10) with hbr6|hbr6
       ·replace H:=H.1 hbr6
        replace g:=g.bool (b:=true) (t:=69) rfl (hbr6)
        exact g.on (by rfl) (by rfl) (g.mv rfl fun _ g=>(g.pur (zAj g rfl rfl) fun _ g=>(hr6 x11 _ _ H (g.weak ⟨rfl,rfl,rfl,rfl,rfl,rfl,rfl,rfl,rfl,rfl,rfl,trivial⟩))))
       ·replace H:=H.2 hbr6
        replace g:=g.bool (b:=false) (t:=69) rfl (hbr6)
        exact g.off (by rfl) (by rfl) (by decide) (fun _ g=>(g.pur (zAi g rfl rfl) fun _ g=>(hr6 false _ _ H (g.weak ⟨rfl,rfl,rfl,rfl,rfl,rfl,rfl,rfl,rfl,rfl,rfl,trivial⟩))))
    ·refine zAF (zAA (g.mv rfl fun _ g=>(g.pur (zGX g rfl rfl) fun _ g=>(zAG (tn (zAR g rfl (fun hc=>?_) (fun hc=>?_)))))))
     ·replace H:=H.1 hc
      refine zAF (zAA (g.mv rfl fun _ g=>(g.mv rfl fun _ g=>(g.mv rfl fun _ g=>(g.mv rfl fun _ g=>(g.call (zAQ g zTx rfl rfl) H fun e w H=>?_))))))
      obtain ⟨rfl,H⟩:=H
      exact ⟨_,rfl,fun _ g=>(zAG (tn (zAF (zAA (g.mv rfl fun _ g=>(g.pur (zAv g rfl rfl) fun _ g=>(g.mv rfl fun _ g=>(g.mv rfl fun _ g=>(g.pur (zAv g rfl rfl) fun _ g=>(g.pur (zAv g rfl rfl) fun _ g=>(g.as_ rfl fun _ g=>(zAG (tn (zAA (g.as_ rfl fun _ g=>(zAG (tn (hj3 ((IntKind.wrap .i64 ((IntKind.wrap .i64 (x2_1 - 1)) - (IntKind.wrap .i64 (r - x1_1)))),1) _ _ H (g.weak ⟨rfl,rfl,rfl,rfl,rfl,rfl,rfl,rfl,rfl,rfl,trivial⟩)))))))))))))))))))⟩
     ·replace H:=H.2 hc
      exact zAP (tn (hj3 (r,r_1) _ _ H (g.weak ⟨rfl,rfl,rfl,rfl,rfl,rfl,rfl,rfl,rfl,rfl,trivial⟩)))
   ·refine zAF (zAA (g.mv rfl fun _ g=>(g.pur (zGp g rfl) fun _ g=>(zAG (tn (zAV g rfl (fun hc=>?_) (fun hc=>?_)))))))
    ·replace H:=H.1 hc
     refine zAF (zAA (g.mv rfl fun _ g=>(g.mv rfl fun _ g=>(g.mv rfl fun _ g=>(g.mv rfl fun _ g=>(g.call (zAQ g zTv rfl rfl) H fun e w H=>?_))))))
     obtain ⟨rfl,H⟩:=H
     exact ⟨_,rfl,fun _ g=>(zAG (tn (zAA (g.mv rfl fun _ g=>(g.pur (zAv g rfl rfl) fun _ g=>(g.as_ rfl fun _ g=>(zAG (tn (hj2 (IntKind.wrap .i64 (x3_1 - 1)) _ _ H (g.weak ⟨rfl,rfl,rfl,rfl,rfl,rfl,rfl,rfl,trivial⟩))))))))))⟩
    ·replace H:=H.2 hc
     exact zAP (tn (hj2 x3_1 _ _ H (g.weak ⟨rfl,rfl,rfl,rfl,rfl,rfl,rfl,rfl,trivial⟩)))
def zB6 (x11:Int) (Kl1:Int→World→Prop) (w:World):Prop:=
 Kl1 (IntKind.wrap .i64 (x11+1)) w
def zBB (x0:Sl) (x1:Int) (x11:Int) (Kl1:Int→World→Prop) (x12:Int) (w:World):Prop:=
 nextB w (fun w=>opP Tryz.prog Value.pointer (Instr.indexAt 30 (Sl.v x0) (.int .i64 (IntKind.wrap .i64 (x1+x12)))) (fun x59=>opP Tryz.prog Value.pointer (Instr.indexAt 30 (Sl.v x0) (.int .i64 x11)) (fun x63=>(opE Tryz.prog zAD.v (Instr.loadAt 34 (.pointer x59)) w (fun x60 w=>opE Tryz.prog zAD.v (Instr.loadAt 34 (.pointer x63)) w (fun x64 w=>opP Tryz.prog Value.pointer (Instr.indexAt 30 (Sl.v x0) (.int .i64 x11)) (fun x65=>opU Tryz.prog (Instr.storeAt 34 (.pointer x65) (zAD.v x60)) w (fun w=>opP Tryz.prog Value.pointer (Instr.indexAt 30 (Sl.v x0) (.int .i64 (IntKind.wrap .i64 (x1+x12)))) (fun x66=>opU Tryz.prog (Instr.storeAt 34 (.pointer x66) (zAD.v x64)) w (fun w=>zB6 x11 Kl1 w)))))))∧(opE Tryz.prog zAD.v (Instr.loadAt 34 (.pointer x63)) w (fun x64_1 w=>opE Tryz.prog zAD.v (Instr.loadAt 34 (.pointer x59)) w (fun x60_1 w=>opP Tryz.prog Value.pointer (Instr.indexAt 30 (Sl.v x0) (.int .i64 x11)) (fun x65_1=>opU Tryz.prog (Instr.storeAt 34 (.pointer x65_1) (zAD.v x60_1)) w (fun w=>opP Tryz.prog Value.pointer (Instr.indexAt 30 (Sl.v x0) (.int .i64 (IntKind.wrap .i64 (x1+x12)))) (fun x66_1=>opU Tryz.prog (Instr.storeAt 34 (.pointer x66_1) (zAD.v x64_1)) w (fun w=>zB6 x11 Kl1 w))))))))))
def zDM (x0:Sl) (x1:Int) (x2:Int) (Ret:World→Prop) (x9:Option Addr) (r:Int) (x11:Int) (w:World) (Kl1:Int→World→Prop):Prop:=
 opE Tryz.prog (Value.int .i64) (binOp .quo 3 (.int .i64 (IntKind.wrap .i64 (x2 - x1))) (.int .i64 4)) w (fun x31 w=>((x11≤(IntKind.wrap .i64 ((IntKind.wrap .i64 (x1+(IntKind.wrap .i64 (x31*2))))+1)))→(Cl Tryz.prog 116 [(.pointer x9)].toArray w (fun e w=>∃ (r_1:Int),e=.returned (.int .u64 r_1)∧(opE Tryz.prog (Value.int .u64) (binOp .and 143 (.int .u64 r_1) (.int .u64 (IntKind.wrap .u64 (r - 1)))) w (fun x41 w=>opE Tryz.prog (Value.int .i64) (Go.convert 143 3 (.int .u64 x41)) w (fun x42 w=>(((IntKind.wrap .i64 (x2 - x1))≤x42)→(zBB x0 x1 x11 Kl1 (IntKind.wrap .i64 (x42 - (IntKind.wrap .i64 (x2 - x1)))) w))∧(¬ ((IntKind.wrap .i64 (x2 - x1))≤x42)→(zBB x0 x1 x11 Kl1 x42 w))))))))∧(¬ (x11≤(IntKind.wrap .i64 ((IntKind.wrap .i64 (x1+(IntKind.wrap .i64 (x31*2))))+1)))→(Ret w)))
def zEb (x0:Sl) (x1:Int) (x2:Int) (x3:Value) (w:World) (Ret:World→Prop):Prop:=
 ((8≤(IntKind.wrap .i64 (x2 - x1)))→(opE Tryz.prog (Value.int .u64) (Go.convert 3 182 (.int .i64 (IntKind.wrap .i64 (x2 - x1)))) w (fun x19 w=>opE Tryz.prog Value.pointer (Instr.alloc 182 true (.tuple #[])) w (fun x9 w=>opU Tryz.prog (Instr.storeAt 182 (.pointer x9) (.int .u64 x19)) w (fun w=>Cl Tryz.prog 115 [(.int .i64 (IntKind.wrap .i64 (x2 - x1)))].toArray w (fun e w=>∃ (r:Int),e=.returned (.int .u64 r)∧(opE Tryz.prog (Value.int .i64) (binOp .quo 3 (.int .i64 (IntKind.wrap .i64 (x2 - x1))) (.int .i64 4)) w (fun x24 w=>∃ (I:Int→World→Prop) (μ:Int→World→Nat),I (IntKind.wrap .i64 ((IntKind.wrap .i64 (x1+(IntKind.wrap .i64 (x24*2)))) - 1)) w∧∀ (x11:Int) w,I x11 w→zDM x0 x1 x2 Ret x9 r x11 w (fun x11' w'=>I x11' w'∧μ x11' w'<μ x11 w)))))))))∧(¬ (8≤(IntKind.wrap .i64 (x2 - x1)))→(Ret w))
set_option maxRecDepth 100000 in
theorem zHv (x0:Sl) (x1:Int) (x2:Int) (x3:Value) (w:World) (Ret:World→Prop) (H:zEb x0 x1 x2 x3 w Ret):Cl Tryz.prog 130 [(Sl.v x0),(.int .i64 x1),(.int .i64 x2),x3].toArray w (fun e w'=>e=.returned (.tuple [].toArray)∧Ret w'):=by
 unfold zEb at H
 refine zAY 67 (zipE 0 [(Sl.v x0),(.int .i64 x1),(.int .i64 x2),x3]) Tryz.func130 rfl rfl (by rfl) rfl ?_
 intro a g
 replace g:Sat [] 67 [(0,(Sl.v x0)),(1,(.int .i64 x1)),(2,(.int .i64 x2)),(3,x3)] a:=g
 refine zAF (zAA (g.mv rfl fun _ g=>(g.mv rfl fun _ g=>(g.pur (zAv g rfl rfl) fun _ g=>(g.as_ rfl fun _ g=>(zAG (tn (zAF (zAA (g.mv rfl fun _ g=>(g.pur (zF7 g rfl rfl) fun _ g=>(zAG (tn (zAR g rfl (fun hc=>?_) (fun hc=>?_)))))))))))))))
 ·replace H:=H.1 hc
  refine zAF (zAA (g.mv rfl fun _ g=>(g.op (zGY g rfl) H fun x19 w a H g=>(g.op (zEH) H fun x9 w a H g=>(g.opu (zAM g rfl rfl) H fun w a H g=>(zAG (tn (zAF (zAA (g.mv rfl fun _ g=>(g.call (zAQ g zRh rfl rfl) H fun e w H=>?_)))))))))))
  obtain ⟨r,rfl,H⟩:=H
  refine ⟨_,rfl,fun _ g=>(g.as_ rfl fun _ g=>(zAG (tn (zAF (zAA (g.mv rfl fun _ g=>(g.mv rfl fun _ g=>(g.op (zFD g rfl rfl) H fun x24 w a H g=>(g.pur (zLJ g rfl rfl) fun _ g=>(g.pur (zAn g rfl rfl) fun _ g=>(g.pur (zAv g rfl rfl) fun _ g=>(g.as_ rfl fun _ g=>(zAG (tn (zAN ?_)))))))))))))))⟩
  obtain ⟨I_l1,μ_l1,h0,hb⟩:=H
  refine zBl (ds:=[]) (N:=67) (σ:=Int) (fun s=>[(11,(.int .i64 s)),(0,(Sl.v x0)),(1,(.int .i64 x1)),(8,(.int .i64 (IntKind.wrap .i64 (x2 - x1)))),(9,(.pointer x9)),(10,(.int .u64 r))]) (fun s w=>I_l1 s w) (fun s w=>μ_l1 s w) (IntKind.wrap .i64 ((IntKind.wrap .i64 (x1+(IntKind.wrap .i64 (x24*2)))) - 1)) h0 (g.weak ⟨rfl,rfl,rfl,rfl,rfl,rfl,trivial⟩) ?_
  intro x11 w a hI g
  try dsimp only at hI g
  obtain ⟨Kl1,hK_l1⟩:∃ K:Int→World→Prop,K=(fun x11' w'=>I_l1 x11' w'∧μ_l1 x11' w'<μ_l1 x11 w):=⟨_,rfl⟩
  have H:zDM x0 x1 x2 Ret x9 r x11 w Kl1:=by rw [hK_l1];exact hb x11 w hI
  clear hb h0 hI
  unfold zDM at H
  refine zAF (zAF (zAA (g.mv rfl fun _ g=>(g.mv rfl fun _ g=>(g.mv rfl fun _ g=>(g.op (zFD g rfl rfl) H fun x31 w a H g=>(g.pur (zLJ g rfl rfl) fun _ g=>(g.pur (zAn g rfl rfl) fun _ g=>(g.pur (zAn g rfl rfl) fun _ g=>(g.pur (zJn g rfl rfl) fun _ g=>(zAG (tn (zAR g rfl (fun hc=>?_) (fun hc=>?_))))))))))))))
  ·replace H:=H.1 hc
   refine zAP (tn (zBG (ds:=[]) (N:=67) (σ:=Unit) (fun s=>[(0,(Sl.v x0)),(1,(.int .i64 x1)),(8,(.int .i64 (IntKind.wrap .i64 (x2 - x1)))),(9,(.pointer x9)),(10,(.int .u64 r)),(11,(.int .i64 x11))]) (fun s w=>zB6 x11 Kl1 w) ?_ (fun hj2=>?_)))
   ·rintro ⟨⟩ w a H g
    try dsimp only at H g
    unfold zB6 at H
    refine zAA (g.mv rfl fun _ g=>(g.pur (zAn g rfl rfl) fun _ g=>(g.as_ rfl fun _ g=>?_)))
    rw [hK_l1] at H
    exact zAG (tn ⟨(IntKind.wrap .i64 (x11+1)),g.weak ⟨rfl,rfl,rfl,rfl,rfl,rfl,trivial⟩,H⟩)
   ·refine zAN (zAF (zAA (g.call (zAQ g zRE rfl rfl) H fun e w H=>?_)))
    obtain ⟨r_1,rfl,H⟩:=H
    refine ⟨_,rfl,fun _ g=>(g.mv rfl fun _ g=>(g.pur (zAv g rfl rfl) fun _ g=>(g.op (zFD g rfl rfl) H fun x41 w a H g=>(g.op (zGY g rfl) H fun x42 w a H g=>(g.as_ rfl fun _ g=>(zAG (tn (zBG (ds:=[]) (N:=67) (σ:=Int) (fun s=>[(12,(.int .i64 s)),(0,(Sl.v x0)),(1,(.int .i64 x1)),(8,(.int .i64 (IntKind.wrap .i64 (x2 - x1)))),(9,(.pointer x9)),(10,(.int .u64 r)),(11,(.int .i64 x11))]) (fun s w=>zBB x0 x1 x11 Kl1 s w) ?_ (fun hj3=>?_)))))))))⟩
    ·intro x12 w a H g
     try dsimp only at H g
     unfold zBB at H
     refine zKK 20 fun w hB=>?_
     replace H:=H w hB
     refine g.ap 0 rfl (zAL g rfl) fun _ g=>g.ap 1 rfl (zAL g rfl) fun _ g=>g.ap 2 rfl (zAL g rfl) fun _ g=>g.ap 3 rfl (zAL g rfl) fun _ g=>g.ap 4 rfl (zAL g rfl) fun _ g=>g.ap 5 rfl (zAn g rfl rfl) fun _ g=>g.ap 6 rfl (zAL g rfl) fun _ g=>g.ap 7 rfl (zAL g rfl) fun _ g=>g.ap 8 rfl (zAL g rfl) fun _ g=>g.ap 9 rfl (zAn g rfl rfl) fun _ g=>g.ao 10 rfl (zAC g rfl rfl) H fun x59 a H g=>g.ap 12 rfl (zAL g rfl) fun _ g=>g.ap 13 rfl (zAL g rfl) fun _ g=>g.ao 14 rfl (zAC g rfl rfl) H fun x63 a H g=>WA.tw 11 15 rfl rfl ?_ ?_
     ·replace H:=H.1
      intro K hK
      exact g.wop (zAI g rfl) H fun x60 w a H g=>hK _ _ (g.o1 15 rfl (zAI g rfl) H fun x64 w a H g=>(g.ao 16 rfl (zAC g rfl rfl) H fun x65 a H g=>(g.o1u 17 rfl (zAM g rfl rfl) H fun w a H g=>(g.ao 18 rfl (zAC g rfl rfl) H fun x66 a H g=>(g.o1u 19 rfl (zAM g rfl rfl) H fun w a H g=>(WA.ni ((bn (tn (hj2 () _ _ H (g.weak ⟨rfl,rfl,rfl,rfl,rfl,rfl,trivial⟩)))))))))))
     ·replace H:=H.2
      intro K hK
      exact g.wop (zAI g rfl) H fun x64_1 w a H g=>hK _ _ (g.o1 11 rfl (zAI g rfl) H fun x60_1 w a H g=>(g.ao 16 rfl (zAC g rfl rfl) H fun x65_1 a H g=>(g.o1u 17 rfl (zAM g rfl rfl) H fun w a H g=>(g.ao 18 rfl (zAC g rfl rfl) H fun x66_1 a H g=>(g.o1u 19 rfl (zAM g rfl rfl) H fun w a H g=>(WA.ni ((bn (tn (hj2 () _ _ H (g.weak ⟨rfl,rfl,rfl,rfl,rfl,rfl,trivial⟩)))))))))))
    ·refine zAF (zAA (g.mv rfl fun _ g=>(g.mv rfl fun _ g=>(g.pur (zF7 g rfl rfl) fun _ g=>(zAG (tn (zAR g rfl (fun hc=>?_) (fun hc=>?_))))))))
     ·replace H:=H.1 hc
      exact zAA (g.mv rfl fun _ g=>(g.mv rfl fun _ g=>(g.pur (zAv g rfl rfl) fun _ g=>(g.as_ rfl fun _ g=>(zAG (tn (hj3 (IntKind.wrap .i64 (x42 - (IntKind.wrap .i64 (x2 - x1)))) _ _ H (g.weak ⟨rfl,rfl,rfl,rfl,rfl,rfl,rfl,trivial⟩))))))))
     ·replace H:=H.2 hc
      exact zAP (tn (hj3 x42 _ _ H (g.weak ⟨rfl,rfl,rfl,rfl,rfl,rfl,rfl,trivial⟩)))
  ·replace H:=H.2 hc
   exact zBJ (te (te (be (zG1 g rfl ⟨rfl,H⟩))))
 ·replace H:=H.2 hc
  exact zAP (zG1 g rfl ⟨rfl,H⟩)
end Go.Proofs.YtealcoghiaeiiaaGreat.VG
set_option linter.unusedVariables false
namespace Go.Proofs.YtealcoghiaeiiaaGreat.VG
open Go.VB Go.VB.Srt Go.Proofs
namespace SoCmpFunc_api_Write
theorem zAa:zKu Tryz.prog zFQ zFE 3 zAD.cells zAD.v:=zKu.agg zDq zGJ (fun _=>rfl) (fun _=>rfl) (by decide)
abbrev Ow (base:Nat) (w:World) (s:Sl) (l:List zAD):Prop:=OwnS zAD.cells 3 zFE base w s l
def Cmps (cmp:Value) (lt:zAD→zAD→Bool):Prop:=∀ w x y,∃ r:Int,CallQ Tryz.prog cmp [zAD.v x,zAD.v y] w (.int .i64 r)∧(lt x y=true↔r<0)
theorem zFF {lt:zAD→zAD→Bool} {x y:zAD} {r:Int} (h:lt x y=true↔r<0):decide (r<0)=lt x y:=by
 cases hl:lt x y with
 |true=>rw [decide_eq_true (h.1 hl)]
 |false=>rw [decide_eq_false (fun e=>by rw [h.2 e] at hl;cases hl)]
section
variable {cmp:Value} {lt:zAD→zAD→Bool} (O:SWO lt) (hcmp:Cmps cmp lt) {base:Nat} {w:World} {s:Sl} {L:Nat} {f:Nat→zAD}
include O hcmp
theorem zG9 (hO:Ow base w s (tab f L)) {a b:Nat} (hA:a≤b) (hb:b≤L) {k:World→Prop}
  (H:∀ g w',Seg a b f g→zBm lt a b g→Ow base w' s (tab g L)→w.grownBy w' (Sl.v s).ownBlock→k w'):
  Cl Tryz.prog zHi [Sl.v s,.int .i64 (a:Int),.int .i64 (b:Int),cmp].toArray w (fun e w'=>e=.returned (.tuple [].toArray)∧k w'):=by
 refine zHr s a b cmp w k ?_
 have hlen:=hO.len;have hsm:=hO.small
 rw [zDJ] at hlen
 by_cases hab:b≤a
 ·unfold zDs
  refine ⟨fun i w1=>i=(a:Int)+1∧w1=w,fun _ _=>0,⟨wr64 (by omega) (by omega),rfl⟩,?_⟩
  rintro i w1 ⟨rfl,rfl⟩
  unfold zBs
  exact ⟨fun hc=>by omega,fun _=>H f w1 (.refl f) (zBm.small (by omega)) hO (World.grownBy.refl _ _)⟩
 unfold zDs
 refine ⟨fun x w1=>∃ (i:Nat) (g:Nat→zAD),x=(i:Int)∧a+1≤i∧i≤b∧Seg a b f g∧zBm lt a i g∧Ow base w1 s (tab g L)∧w.grownBy w1 (Sl.v s).ownBlock,fun x _=>(b - x).toNat,?_,?_⟩
 ·exact ⟨a+1,f,by rw [wr64 (by omega) (by omega)];omega,by omega,by omega,.refl f,zBm.small (by omega),hO,World.grownBy.refl _ _⟩
 rintro x w1 ⟨i,g,rfl,hi1,hi2,hsg,hso,hO1,hg1⟩
 unfold zBs
 refine ⟨fun hc=>?_,fun hc=>?_⟩
 rotate_left
 ·obtain rfl:i=b:=by omega
  exact H g w1 hsg hso hO1 hg1
 refine ⟨fun y w2=>∃ (j:Nat) (g:Nat→zAD),y=(j:Int)∧a≤j∧j≤i∧Seg a b f g∧Hole lt a i j g∧Ow base w2 s (tab g L)∧w.grownBy w2 (Sl.v s).ownBlock,fun y _=>y.toNat,?_,?_⟩
 ·exact ⟨i,g,rfl,by omega,by omega,hsg,Hole.start hso,hO1,hg1⟩
 rintro y w2 ⟨j,g,rfl,hj1,hj2,hsg,hho,hO2,hg2⟩
 unfold zDK
 have fin:∀ w3,Bel w2 w3→(j≤a∨Le lt (g (j - 1)) (g j))→(fun (x8':Int) (w':World)=>(∃ (i:Nat) (g:Nat→zAD),x8'=(i:Int)∧a+1≤i∧i≤b∧Seg a b f g∧zBm lt a i g∧Ow base w' s (tab g L)∧w.grownBy w' (Sl.v s).ownBlock)∧(b - x8').toNat<(b - (i:Int)).toNat) (IntKind.wrap .i64 ((i:Int)+1)) w3:=by
  intro w3 hb3 hd
  rw [wr64 (by omega) (by omega)]
  exact ⟨⟨i+1,g,by omega,by omega,by omega,hsg,hho.done O hd,hO2.bel hb3,zAK hg2 (zAT hb3 _)⟩,by omega⟩
 refine ⟨fun hc=>?_,fun hc=>?_⟩
 ·refine zBP zAa hO2 rfl (by omega) ?_
  refine zBP zAa hO2 (i':=j - 1) (by rw [wr64 (by omega) (by omega)];omega) (by omega) ?_
  obtain ⟨r,hr,hl⟩:=hcmp w2 (g j) (g (j - 1))
  refine ⟨r,hr,?_⟩
  rw [zFF hl]
  unfold zBA
  intro w3 hb3
  refine ⟨fun hlt=>?_,fun hlt=>fin w3 hb3 (.inr hlt)⟩
  refine zEn zAa (hO2.bel hb3) (i':=j) (j':=j - 1) rfl (by rw [wr64 (by omega) (by omega)];omega) (by omega) (by omega) fun w4 hO4 hg4=>?_
  unfold zB5
  rw [wr64 (by omega) (by omega)]
  exact ⟨⟨j - 1,_,by omega,by omega,by omega,.step j (j - 1) (by omega) (by omega) (by omega) (by omega) hsg,hho.step O (by omega) hj2 hlt,hO4,zAK (zAK hg2 (zAT hb3 _)) hg4⟩,by dsimp only;omega⟩
 ·unfold zBA
  intro w3 hb3
  exact ⟨fun h=>(nomatch h),fun _=>fin w3 hb3 (.inl (by omega))⟩
end
end SoCmpFunc_api_Write
end Go.Proofs.YtealcoghiaeiiaaGreat.VG
set_option linter.unusedVariables false
namespace Go.Proofs.YtealcoghiaeiiaaGreat.VG
open Go.VB Go.VB.Srt Go.Proofs
namespace SoCmpFunc_api_Write
section
variable {cmp:Value} {lt:zAD→zAD→Bool} (O:SWO lt) (hcmp:Cmps cmp lt) {base:Nat} {w:World} {s:Sl} {L:Nat} {f:Nat→zAD}
include O hcmp
theorem zLP (hO:Ow base w s (tab f L)) {lo hi o:Nat} (hb:o+hi≤L) (hlo:lo≤hi) (hp:Hp lt o (lo+1) hi f) {k:World→Prop}
  (H:∀ g w',Seg (o+lo) (o+hi) f g→Hp lt o lo hi g→Ow base w' s (tab g L)→w.grownBy w' (Sl.v s).ownBlock→k w'):
  Cl Tryz.prog zJH [Sl.v s,.int .i64 (lo:Int),.int .i64 (hi:Int),.int .i64 (o:Int),cmp].toArray w (fun e w'=>e=.returned (.tuple [].toArray)∧k w'):=by
 refine zI8 s lo hi o cmp w k ?_
 have hlen:=hO.len;have hsm:=hO.small
 rw [zDJ] at hlen
 unfold zFP
 refine ⟨fun x w1=>∃ (r:Nat) (g:Nat→zAD),x=(r:Int)∧lo≤r∧r≤hi∧Seg (o+lo) (o+hi) f g∧HpX lt o lo hi r g∧Ow base w1 s (tab g L)∧w.grownBy w1 (Sl.v s).ownBlock,fun x _=>(hi - x).toNat,?_,?_⟩
 ·exact ⟨lo,f,rfl,Nat.le_refl _,hlo,.refl f,HpX.start hp,hO,World.grownBy.refl _ _⟩
 rintro x w1 ⟨r,g,rfl,hr1,hr2,hsg,hx,hO1,hg1⟩
 unfold zD2
 rw [wr64 (n:=2*(r:Int)) (by omega) (by omega),wr64 (n:=2*(r:Int)+1) (by omega) (by omega)]
 refine ⟨fun hc=>H g w1 hsg (hx.done O fun c h1 h2=>by unfold Child at h1;omega) hO1 hg1,fun hc=>?_⟩
 -- the greater child is c
 have j2:∀ (c:Nat) (w2:World),Bel w1 w2→Child c r→c<hi→(∀ d,Child d r→d<hi→Le lt (g (o+d)) (g (o+c)))→
   zBv s o cmp k r (fun x10' w'=>(∃ (r:Nat) (g:Nat→zAD),x10'=(r:Int)∧lo≤r∧r≤hi∧Seg (o+lo) (o+hi) f g∧HpX lt o lo hi r g∧Ow base w' s (tab g L)∧w.grownBy w' (Sl.v s).ownBlock)∧(hi - x10').toNat<(hi - (r:Int)).toNat) c w2:=by
  intro c w2 hb2 hcr hch hmax
  have hrc:r<c:=by unfold Child at hcr;omega
  have hO2:=hO1.bel hb2
  unfold zBv
  rw [wr64 (n:=(o:Int)+r) (by omega) (by omega),wr64 (n:=(o:Int)+c) (by omega) (by omega)]
  refine zBP zAa hO2 (i':=o+r) (by omega) (by omega) ?_
  refine zBP zAa hO2 (i':=o+c) (by omega) (by omega) ?_
  obtain ⟨q,hq,hl⟩:=hcmp w2 (g (o+r)) (g (o+c))
  refine ⟨q,hq,?_⟩
  rw [zFF hl]
  intro w3 hb3
  refine ⟨fun hn=>?_,fun hn=>?_⟩
  ·have hn':lt (g (o+r)) (g (o+c))=false:=by simpa using hn
   exact H g w3 hsg (hx.done O fun d h1 h2=>O.trans (hmax d h1 h2) hn') (hO2.bel hb3) (zAK (zAK hg1 (zAT hb2 _)) (zAT hb3 _))
  ·have hn':lt (g (o+r)) (g (o+c))=true:=by simpa using hn
   refine zEn zAa (hO2.bel hb3) (i':=o+r) (j':=o+c) (by omega) (by omega) (by omega) (by omega) fun w4 hO4 hg4=>?_
   unfold zDE
   exact ⟨⟨c,_,rfl,by omega,by omega,.step (o+r) (o+c) (by omega) (by omega) (by omega) (by omega) hsg,hx.step O hr1 hcr hch hmax hn',hO4,zAK (zAK (zAK hg1 (zAT hb2 _)) (zAT hb3 _)) hg4⟩,by omega⟩
 rw [wr64 (n:=2*(r:Int)+1+1) (by omega) (by omega),wr64 (n:=(o:Int)+(2*r+1)) (by omega) (by omega)]
 refine ⟨fun hc2=>?_,fun hc2=>?_⟩
 ·rw [wr64 (n:=(o:Int)+(2*r+1)+1) (by omega) (by omega)]
  refine zBP zAa hO1 (i':=o+(2*r+1)) (by omega) (by omega) ?_
  refine zBP zAa hO1 (i':=o+(2*r+2)) (by omega) (by omega) ?_
  obtain ⟨q,hq,hl⟩:=hcmp w1 (g (o+(2*r+1))) (g (o+(2*r+2)))
  refine ⟨q,hq,?_⟩
  rw [zFF hl]
  unfold zBw
  rw [wr64 (n:=2*(r:Int)) (by omega) (by omega),wr64 (n:=2*(r:Int)+1) (by omega) (by omega),wr64 (n:=2*(r:Int)+1+1) (by omega) (by omega)]
  intro w2 hb2
  refine ⟨fun hn=>?_,fun hn=>?_⟩
  ·have:=j2 (2*r+2) w2 hb2 (.inr rfl) (by omega) fun d hd hdh=>by
    rcases hd with rfl|rfl
    ·exact O.of_lt hn
    ·exact O.refl _
   rw [show ((2*r+2:Nat):Int)=2*(r:Int)+1+1 by omega] at this
   exact this
  ·have:=j2 (2*r+1) w2 hb2 (.inl rfl) (by omega) fun d hd hdh=>by
    rcases hd with rfl|rfl
    ·exact O.refl _
    ·exact hn
   rw [show ((2*r+1:Nat):Int)=2*(r:Int)+1 by omega] at this
   exact this
 ·unfold zBw
  rw [wr64 (n:=2*(r:Int)) (by omega) (by omega),wr64 (n:=2*(r:Int)+1) (by omega) (by omega)]
  intro w2 hb2
  refine ⟨fun h=>(nomatch h),fun _=>?_⟩
  have:=j2 (2*r+1) w2 hb2 (.inl rfl) (by omega) fun d hd hdh=>by
    rcases hd with rfl|rfl
    ·exact O.refl _
    ·omega
  rw [show ((2*r+1:Nat):Int)=2*(r:Int)+1 by omega] at this
  exact this
theorem zNw (hO:Ow base w s (tab f L)) {a b:Nat} (hA:a≤b) (hb:b≤L) {k:World→Prop}
  (H:∀ g w',Seg a b f g→zBm lt a b g→Ow base w' s (tab g L)→w.grownBy w' (Sl.v s).ownBlock→k w'):
  Cl Tryz.prog zI7 [Sl.v s,.int .i64 (a:Int),.int .i64 (b:Int),cmp].toArray w (fun e w'=>e=.returned (.tuple [].toArray)∧k w'):=by
 refine zI5 s a b cmp w k ?_
 have hlen:=hO.len;have hsm:=hO.small
 rw [zDJ] at hlen
 unfold zFO
 rw [wr64 (n:=(b:Int) - a) (by omega) (by omega),wr64 (n:=(b:Int) - a - 1) (by omega) (by omega)]
 have hq:∃ q:Nat,((b:Int) - a - 1).tdiv 2=(q:Int)∧b - a≤2*q+2∧q≤b - a:=by
  by_cases h0:a=b
  ·subst h0;exact ⟨0,by rw [show (a:Int) - a - 1 = -1 by omega];rfl,by omega,by omega⟩
  ·refine ⟨(b - a - 1) / 2,?_,by omega,by omega⟩
   rw [Int.tdiv_eq_ediv_of_nonneg (by omega)];omega
 obtain ⟨q,hq1,hq2,hq3⟩:=hq
 refine zKn (by decide) (by rw [hq1];omega) (by rw [hq1];omega) ?_
 rw [hq1]
 obtain ⟨n,rfl⟩:∃ n,b=a+n:=⟨b - a,by omega⟩
 refine ⟨fun x w1=>∃ (i:Nat) (g:Nat→zAD),x=(i:Int) - 1∧i≤n+1∧Seg a (a+n) f g∧Hp lt a i n g∧Ow base w1 s (tab g L)∧w.grownBy w1 (Sl.v s).ownBlock,fun x _=>(x+1).toNat,?_,?_⟩
 ·exact ⟨q+1,f,by omega,by omega,.refl f,fun i c h1 h2 h3=>by unfold Child at h2;omega,hO,World.grownBy.refl _ _⟩
 rintro x w1 ⟨i,g,rfl,hi,hsg,hp,hO1,hg1⟩
 unfold zD3
 rw [wr64 (n:=((a+n:Nat):Int) - a) (by omega) (by omega)]
 refine ⟨fun hc=>?_,fun hc=>?_⟩
 ·obtain ⟨m,rfl⟩:∃ m,i=m+1:=⟨i - 1,by omega⟩
  rw [show ((m+1:Nat):Int) - 1=(m:Int) by omega,show ((a+n:Nat):Int) - a=(n:Int) by omega]
  refine zLP O hcmp hO1 (lo:=m) (hi:=n) (o:=a) hb (by omega) hp fun h w2 hsg2 hp2 hO2 hg2=>?_
  rw [wr64 (by omega) (by omega)]
  exact ⟨⟨m,h,rfl,by omega,hsg.trans (hsg2.mono (by omega) (Nat.le_refl _)),hp2,hO2,zAK hg1 hg2⟩,by dsimp only;omega⟩
 ·obtain rfl:i=0:=by omega
  rw [wr64 (n:=((a+n:Nat):Int) - a - 1) (by omega) (by omega)]
  refine ⟨fun x w2=>∃ (i:Nat) (g:Nat→zAD),x=(i:Int) - 1∧i≤n∧Seg a (a+n) f g∧HS lt a (a+n) i g∧Ow base w2 s (tab g L)∧w.grownBy w2 (Sl.v s).ownBlock,fun x _=>(x+1).toNat,?_,?_⟩
  ·exact ⟨n,g,by omega,Nat.le_refl _,hsg,⟨hp,fun i j h1 h2 h3=>by omega,fun k q h1 h2 h3 h4=>by omega⟩,hO1,hg1⟩
  rintro x w2 ⟨i,g,rfl,hi,hsg,hs,hO2,hg2⟩
  unfold zD0
  refine ⟨fun hc=>?_,fun hc=>?_⟩
  ·obtain ⟨m,rfl⟩:∃ m,i=m+1:=⟨i - 1,by omega⟩
   rw [show ((m+1:Nat):Int) - 1=(m:Int) by omega,wr64 (n:=(a:Int)+m) (by omega) (by omega)]
   refine zEn zAa hO2 (i':=a) (j':=a+m) rfl (by omega) (by omega) (by omega) fun w3 hO3 hg3=>?_
   unfold zDF
   refine zLP O hcmp hO3 (lo:=0) (hi:=m) (o:=a) (by omega) (by omega) (fun i c h1 h2 h3=>?_) fun h w4 hsg4 hp4 hO4 hg4=>?_
   ·rw [swp_o g (by unfold Child at h2;omega) (by unfold Child at h2;omega),swp_o g (by omega) (by unfold Child at h2;omega)]
    exact hs.hp i c (by omega) h2 (by omega)
   ·rw [wr64 (by omega) (by omega)]
    rw [Nat.add_zero] at hsg4
    exact ⟨⟨m,h,rfl,by omega,(hsg.trans (Seg.one g (by omega) (by omega) (by omega) (by omega))).trans (hsg4.mono (Nat.le_refl _) (by omega)),hs.step O (by omega) hsg4 hp4,hO4,zAK (zAK hg2 hg3) hg4⟩,by dsimp only;omega⟩
  ·obtain rfl:i=0:=by omega
   exact H g w2 hsg hs.so hO2 hg2
end
theorem zK1 {cmp:Value} {base:Nat} {w:World} {s:Sl} {L:Nat} {f:Nat→zAD} (hO:Ow base w s (tab f L)) {a b:Nat} (hA:a≤b) (hb:b≤L) {k:World→Prop}
  (H:∀ g w',Seg a b f g→Ow base w' s (tab g L)→w.grownBy w' (Sl.v s).ownBlock→k w'):
  Cl Tryz.prog zH5 [Sl.v s,.int .i64 (a:Int),.int .i64 (b:Int),cmp].toArray w (fun e w'=>e=.returned (.tuple [].toArray)∧k w'):=by
 refine zH0 s a b cmp w k ?_
 have hlen:=hO.len;have hsm:=hO.small
 rw [zDJ] at hlen
 unfold zEg
 refine ⟨fun x y w1=>∃ (i:Nat) (g:Nat→zAD),x=(i:Int)∧a≤i∧i≤b ∧ -1≤y∧y<b∧Seg a b f g∧Ow base w1 s (tab g L)∧w.grownBy w1 (Sl.v s).ownBlock,fun x y _=>(y - x).toNat,?_,?_⟩
 ·rw [wr64 (by omega) (by omega)]
  exact ⟨a,f,rfl,Nat.le_refl _,hA,by omega,by omega,.refl f,hO,World.grownBy.refl _ _⟩
 rintro x y w1 ⟨i,g,rfl,hi,hib,hy1,hy2,hsg,hO1,hg1⟩
 unfold zDU
 refine ⟨fun hc=>?_,fun hc=>H g w1 hsg hO1 hg1⟩
 refine zEn zAa hO1 (i':=i) (j':=y.toNat) rfl (by omega) (by omega) (by omega) fun w3 hO3 hg3=>?_
 unfold zCR
 rw [wr64 (n:=(i:Int)+1) (by omega) (by omega),wr64 (n:=y - 1) (by omega) (by omega)]
 exact ⟨⟨i+1,_,by omega,by omega,by omega,by omega,by omega,.step i y.toNat (by omega) (by omega) (by omega) (by omega) hsg,hO3,zAK hg1 hg3⟩,by dsimp only;omega⟩
end SoCmpFunc_api_Write
end Go.Proofs.YtealcoghiaeiiaaGreat.VG
set_option linter.unusedVariables false
namespace Go.Proofs.YtealcoghiaeiiaaGreat.VG
open Go.VB Go.VB.Srt Go.Proofs
namespace SoCmpFunc_api_Write
section
variable {cmp:Value} {lt:zAD→zAD→Bool} (hcmp:Cmps cmp lt) {base:Nat} {w:World} {s:Sl} {L:Nat} {f:Nat→zAD}
include hcmp
theorem zH6 (hO:Ow base w s (tab f L)) {B:Nat} {v:Int} (hB:Row w B [.int .i64 v] zFp) {a b:Nat} (ha:a<L) (hb:b<L) {k:Int→Int→World→Prop}
  (H:∀ (x y:Nat) w' v',(x=a∨x=b)→(y=a∨y=b)→Row w' B [.int .i64 v'] zFp→w.grownBy w' (some B)→k x y w'):
  Cl Tryz.prog zJg [Sl.v s,.int .i64 (a:Int),.int .i64 (b:Int),.pointer (some ⟨B,0,none⟩),cmp].toArray w (fun e w'=>∃ (r0 r1:Int),e=.returned (.tuple [.int .i64 r0,.int .i64 r1].toArray)∧k r0 r1 w'):=by
 refine zJd s a b (some ⟨B,0,none⟩) cmp w k ?_
 unfold zFe
 refine zBP zAa hO (i':=b) rfl hb ?_
 refine zBP zAa hO (i':=a) rfl ha ?_
 obtain ⟨q,hq,hl⟩:=hcmp w (f b) (f a)
 refine ⟨q,hq,?_⟩
 intro w1 hb1
 have hB1:=hB.bel hb1
 refine ⟨fun _=>⟨by trivial,?_⟩,fun _=>H a b w1 v (.inl rfl) (.inr rfl) hB1 (zAT hb1 _)⟩
 refine zHM zF4 v hB1.cell ?_
 refine ⟨by trivial,?_⟩
 refine zNZ zF4 hB1 rfl rfl fun w2 hB2 hg2=>?_
 exact H b a w2 _ (.inr rfl) (.inl rfl) hB2 (zAK (zAT hb1 _) hg2)
theorem zJ2 (hO:Ow base w s (tab f L)) {B:Nat} {v:Int} (hB:Row w B [.int .i64 v] zFp) (hne:(Sl.v s).ownBlock≠some B) {a b c:Nat} (ha:a<L) (hb:b<L) (hc:c<L) {k:Int→World→Prop}
  (H:∀ (x:Nat) w' v',(x=a∨x=b∨x=c)→Row w' B [.int .i64 v'] zFp→w.grownBy w' (some B)→k x w'):
  Cl Tryz.prog zJV [Sl.v s,.int .i64 (a:Int),.int .i64 (b:Int),.int .i64 (c:Int),.pointer (some ⟨B,0,none⟩),cmp].toArray w (fun e w'=>∃ r0:Int,e=.returned (.int .i64 r0)∧k r0 w'):=by
 refine zJW s a b c (some ⟨B,0,none⟩) cmp w k ?_
 unfold zFf
 have kept:∀ {w w'},Ow base w s (tab f L)→w.grownBy w' (some B)→Ow base w' s (tab f L):=fun h hg=>h.kept hg (by
  cases hk:(Sl.v s).ownBlock with
  |none=>exact .inl rfl
  |some q=>exact .inr (by rw [← hk];exact hne))
 refine zH6 hcmp hO hB ha hb fun x y w1 v1 hx hy hB1 hg1=>?_
 have hO1:=kept hO hg1
 refine zH6 hcmp hO1 hB1 (a:=y) (b:=c) (by omega) hc fun x2 y2 w2 v2 hx2 hy2 hB2 hg2=>?_
 have hO2:=kept hO1 hg2
 refine zH6 hcmp hO2 hB2 (a:=x) (b:=x2) (by omega) (by omega) fun x3 y3 w3 v3 hx3 hy3 hB3 hg3=>?_
 exact H y3 w3 v3 (by omega) hB3 (zAK (zAK hg1 hg2) hg3)
theorem zFx (hO:Ow base w s (tab f L)) {B:Nat} {v:Int} (hB:Row w B [.int .i64 v] zFp) (hne:(Sl.v s).ownBlock≠some B) {a:Nat} (h0:1≤a) (ha:a+1<L) (hL:L≤140737488355328) {k:Int→World→Prop}
  (H:∀ (x:Nat) w' v',a - 1≤x→x≤a+1→Row w' B [.int .i64 v'] zFp→w.grownBy w' (some B)→k x w'):
  Cl Tryz.prog zHW [Sl.v s,.int .i64 (a:Int),.pointer (some ⟨B,0,none⟩),cmp].toArray w (fun e w'=>∃ r0:Int,e=.returned (.int .i64 r0)∧k r0 w'):=by
 refine zHa s a (some ⟨B,0,none⟩) cmp w k ?_
 unfold zET
 rw [wr64 (n:=(a:Int) - 1) (by omega) (by omega),wr64 (n:=(a:Int)+1) (by omega) (by omega),show (a:Int) - 1=((a - 1:Nat):Int) by omega,show (a:Int)+1=((a+1:Nat):Int) by omega]
 exact zJ2 hcmp hO hB hne (a:=a - 1) (b:=a) (c:=a+1) (by omega) (by omega) ha fun x w' v' hx h1 h2=>H x w' v' (by omega) (by omega) h1 h2
theorem zMh (hO:Ow base w s (tab f L)) {a b:Nat} (hA:a<b) (hb:b≤L) {k:Int→Int→World→Prop}
  (H:∀ (x:Nat) (y:Int) w',a≤x→x<b→Bel w w'→k x y w'):
  Cl Tryz.prog zIP [Sl.v s,.int .i64 (a:Int),.int .i64 (b:Int),cmp].toArray w (fun e w'=>∃ (r0 r1:Int),e=.returned (.tuple [.int .i64 r0,.int .i64 r1].toArray)∧k r0 r1 w'):=by
 refine zIR s a b cmp w k ?_
 have hlen:=hO.len;have hsm:=hO.small
 rw [zDJ] at hlen
 unfold zEq
 refine zNE zPt ?_
 have hB:=Row.new w zJw zFp
 have hb1:Bel w (w.alloc (.cells zJw.toArray zFp)):=Bel.alloc _ _
 have hO1:=hO.bel hb1
 have hne:(Sl.v s).ownBlock≠some w.heap.size:=fun e=>by have:=(hO.row.lt _ e).2;omega
 have hw:w.heap.size≤w.heap.size:=Nat.le_refl _
 generalize hBd:w.heap.size=B at hB hne ⊢
 generalize (w.alloc (.cells zJw.toArray zFp))=w1 at hB hb1 hO1 ⊢
 obtain ⟨n,rfl⟩:∃ n,b=a+n:=⟨b - a,by omega⟩
 rw [wr64 (n:=((a+n:Nat):Int) - a) (by omega) (by omega),show ((a+n:Nat):Int) - a=(n:Int) by omega]
 have hq:(n:Int).tdiv 4=((n / 4:Nat):Int):=by rw [Int.tdiv_eq_ediv_of_nonneg (by omega)];omega
 refine zKn (by decide) (by rw [hq];omega) (by rw [hq];omega) ?_
 refine zKn (by decide) (by rw [hq];omega) (by rw [hq];omega) ?_
 refine zKn (by decide) (by rw [hq];omega) (by rw [hq];omega) ?_
 rw [hq]
 generalize hm:n / 4=m
 have hm1:4*m≤n:=by omega
 rw [wr64 (n:=(m:Int)*1) (by omega) (by omega),wr64 (n:=(m:Int)*2) (by omega) (by omega),wr64 (n:=(m:Int)*3) (by omega) (by omega),
  wr64 (n:=(a:Int)+m*1) (by omega) (by omega),wr64 (n:=(a:Int)+m*2) (by omega) (by omega),wr64 (n:=(a:Int)+m*3) (by omega) (by omega)]
 have j1:∀ (x:Nat) (w2:World) (v:Int),a≤x→x<a+n→Row w2 B [.int .i64 v] zFp→w1.grownBy w2 (some B)→zBK k (some ⟨B,0,none⟩) x w2:=by
  intro x w2 v h1 h2 h3 h4
  have hb2:Bel w w2:=hb1.grown h4 (fun r hr=>by cases hr;omega)
  unfold zBK
  refine zHM zF4 v h3.cell ?_
  exact ⟨fun _=>H x _ w2 h1 h2 hb2,fun _=>⟨fun _=>H x _ w2 h1 h2 hb2,fun _=>H x _ w2 h1 h2 hb2⟩⟩
 have kept:∀ {w w'},Ow base w s (tab f L)→w.grownBy w' (some B)→Ow base w' s (tab f L):=fun h hg=>h.kept hg (by
  cases hk:(Sl.v s).ownBlock with
  |none=>exact .inl rfl
  |some q=>exact .inr (by rw [← hk];exact hne))
 have j2:∀ (x y z:Nat) (w2:World) (v:Int),a≤x→x<a+n→a≤y→y<a+n→a≤z→z<a+n→Row w2 B [.int .i64 v] zFp→w1.grownBy w2 (some B)→zBN s cmp k (some ⟨B,0,none⟩) x y z w2:=by
  intro x y z w2 v h1 h2 h3 h4 h5 h6 h7 h8
  unfold zBN
  refine zJ2 hcmp (kept hO1 h8) h7 hne (by omega) (by omega) (by omega) fun q w3 v3 hq h9 h10=>j1 q w3 v3 (by omega) (by omega) h9 (zAK h8 h10)
 have e1:(a:Int)+m*1=((a+m:Nat):Int):=by omega
 have e2:(a:Int)+m*2=((a+2*m:Nat):Int):=by omega
 have e3:(a:Int)+m*3=((a+3*m:Nat):Int):=by omega
 rw [e1,e2,e3]
 refine ⟨fun h8=>⟨fun h50=>?_,fun _=>?_⟩,fun _=>j1 _ w1 _ (by omega) (by omega) hB (World.grownBy.refl _ _)⟩
 ·refine zFx hcmp hO1 hB hne (by omega) (by omega) (by omega) fun x w2 v2 hx1 hx2 hB2 hg2=>?_
  refine zFx hcmp (kept hO1 hg2) hB2 hne (by omega) (by omega) (by omega) fun y w3 v3 hy1 hy2 hB3 hg3=>?_
  refine zFx hcmp (kept hO1 (zAK hg2 hg3)) hB3 hne (by omega) (by omega) (by omega) fun z w4 v4 hz1 hz2 hB4 hg4=>?_
  exact j2 x y z w4 v4 (by omega) (by omega) (by omega) (by omega) (by omega) (by omega) hB4 (zAK (zAK hg2 hg3) hg4)
 ·exact j2 _ _ _ w1 _ (by omega) (by omega) (by omega) (by omega) (by omega) (by omega) hB (World.grownBy.refl _ _)
end
end SoCmpFunc_api_Write
end Go.Proofs.YtealcoghiaeiiaaGreat.VG
set_option linter.unusedVariables false
namespace Go.Proofs.YtealcoghiaeiiaaGreat.VG
open Go.VB Go.VB.Srt Go.Proofs
namespace SoCmpFunc_api_Write
theorem zMd {cmp:Value} {base:Nat} {w:World} {s:Sl} {L:Nat} {f:Nat→zAD} (hO:Ow base w s (tab f L)) {a b:Nat} (hA:a≤b) (hb:b≤L) {w0:World} {k:World→Prop}
  (H:∀ g w',Seg a b f g→Ow base w' s (tab g L)→w.grownBy w' (Sl.v s).ownBlock→k w'):
  Cl Tryz.prog zHp [Sl.v s,.int .i64 (a:Int),.int .i64 (b:Int),cmp].toArray w (fun e w'=>e=.returned (.tuple [].toArray)∧k w'):=by
 refine zHv s a b cmp w k ?_
 have hlen:=hO.len;have hsm:=hO.small
 rw [zDJ] at hlen
 obtain ⟨n,rfl⟩:∃ n,b=a+n:=⟨b - a,by omega⟩
 unfold zEb
 rw [wr64 (n:=((a+n:Nat):Int) - a) (by omega) (by omega),show ((a+n:Nat):Int) - a=(n:Int) by omega]
 refine ⟨fun h8=>?_,fun _=>H f w (.refl f) hO (World.grownBy.refl _ _)⟩
 refine zKd (by kernel_rfl) (by kernel_rfl) ?_
 rw [wru64 (by omega) (by omega)]
 refine zNE zJE ?_
 have hr0:=Row.new w zDj zBn
 have hb1:Bel w (w.alloc (.cells zDj.toArray zBn)):=Bel.alloc _ _
 have hO1:=hO.bel hb1
 have hne:(Sl.v s).ownBlock≠some w.heap.size:=fun e=>by have:=(hO.row.lt _ e).2;omega
 have hB0:w.heap.size≤w.heap.size:=Nat.le_refl _
 generalize hBd:w.heap.size=B at hr0 hne ⊢
 generalize (w.alloc (.cells zDj.toArray zBn))=w1 at hr0 hb1 hO1 ⊢
 refine zNZ zFB hr0 rfl rfl fun w2 hr2 hg2=>?_
 have kept:∀ {g:Nat→zAD} {w w'},Ow base w s (tab g L)→w.grownBy w' (some B)→Ow base w' s (tab g L):=fun h hg=>h.kept hg (by
  cases hk:(Sl.v s).ownBlock with
  |none=>exact .inl rfl
  |some q=>exact .inr (by rw [← hk];exact hne))
 have hO2:=kept hO1 hg2
 have hb2:Bel w w2:=hb1.grown hg2 (fun r hr=>by cases hr;omega)
 refine zPe (by omega) (by omega) fun m hm1 hm2=>?_
 have hq:(n:Int).tdiv 4=((n / 4:Nat):Int):=by rw [Int.tdiv_eq_ediv_of_nonneg (by omega)];omega
 refine zKn (by decide) (by rw [hq];omega) (by rw [hq];omega) ?_
 rw [hq]
 generalize hn4:n / 4=q
 have hq1:4*q≤n:=by omega
 have hq2:2≤q:=by omega
 rw [wr64 (n:=(q:Int)*2) (by omega) (by omega),wr64 (n:=(a:Int)+q*2) (by omega) (by omega),wr64 (n:=(a:Int)+q*2 - 1) (by omega) (by omega)]
 refine ⟨fun x w3=>∃ (i:Nat) (g:Nat→zAD) (v:Int),x=(i:Int)∧a+2*q - 1≤i∧i≤a+2*q+2∧Seg a (a+n) f g∧Ow base w3 s (tab g L)∧Row w3 B [.int .u64 v] zBn∧w.heap.size≤w3.heap.size∧w.grownBy w3 (Sl.v s).ownBlock,fun x _=>(a+2*q+3 - x).toNat,?_,?_⟩
 ·exact ⟨a+2*q - 1,f,_,by omega,by omega,by omega,.refl f,hO2,hr2,hb2.le,zAT hb2 _⟩
 rintro x w3 ⟨i,g,v,rfl,hi1,hi2,hsg,hO3,hr3,hsz3,hg3⟩
 unfold zDM
 rw [wr64 (n:=((a+n:Nat):Int) - a) (by omega) (by omega),show ((a+n:Nat):Int) - a=(n:Int) by omega]
 refine zKn (by decide) (by rw [hq];omega) (by rw [hq];omega) ?_
 rw [hq,hn4,wr64 (n:=(q:Int)*2) (by omega) (by omega),wr64 (n:=(a:Int)+q*2) (by omega) (by omega),wr64 (n:=(a:Int)+q*2+1) (by omega) (by omega)]
 refine ⟨fun hc=>?_,fun hc=>H g w3 hsg hO3 hg3⟩
 refine zPQ hr3 fun r v' w4 hr4 hg4=>?_
 have hO4:=kept hO3 hg4
 rw [wru64 (n:=(m:Int) - 1) (by omega) (by omega)]
 refine zTf (by omega) (by omega) fun z hz0 hz1=>?_
 refine zKd (by kernel_rfl) (by kernel_rfl) ?_
 rw [wr64 (n:=z) (by omega) (by omega)]
 have hgo4:w.grownBy w4 (Sl.v s).ownBlock:=by
  refine ⟨hg4.os.trans hg3.os,hg4.tape.trans hg3.tape,hg4.output.trans hg3.output,Nat.le_trans hg3.size hg4.size,fun k hk hr=>?_⟩
  exact (hg4.block k (Nat.lt_of_lt_of_le hk hg3.size) (fun e=>by have:=Option.some.inj e;omega)).trans (hg3.block k hk hr)
 have j3:∀ y:Nat,y<n→zBB s a i (fun x11' w'=>(∃ (i:Nat) (g:Nat→zAD) (v:Int),x11'=(i:Int)∧a+2*q - 1≤i∧i≤a+2*q+2∧Seg a (a+n) f g∧Ow base w' s (tab g L)∧Row w' B [.int .u64 v] zBn∧w.heap.size≤w'.heap.size∧w.grownBy w' (Sl.v s).ownBlock)∧(a+2*q+3 - x11').toNat<(a+2*q+3 - (i:Int)).toNat) y w4:=by
  intro y hy
  unfold zBB
  rw [wr64 (n:=(a:Int)+y) (by omega) (by omega)]
  refine zEn zAa hO4 (i':=i) (j':=a+y) rfl (by omega) (by omega) (by omega) fun w5 hO5 hg5=>?_
  unfold zB6
  rw [wr64 (n:=(i:Int)+1) (by omega) (by omega)]
  exact ⟨⟨i+1,_,v',by omega,by omega,by omega,.step i (a+y) (by omega) (by omega) (by omega) (by omega) hsg,hO5,hr4.grown hg5 hne,Nat.le_trans hsz3 (Nat.le_trans hg4.size hg5.size),zAK hgo4 hg5⟩,by omega⟩
 obtain ⟨y,rfl⟩:∃ y:Nat,z=(y:Int):=⟨z.toNat,by omega⟩
 refine ⟨fun h=>?_,fun h=>j3 y (by omega)⟩
 rw [wr64 (n:=(y:Int) - n) (by omega) (by omega)]
 have:=j3 (y - n) (by omega)
 rw [show ((y - n:Nat):Int)=(y:Int) - n by omega] at this
 exact this
end SoCmpFunc_api_Write
end Go.Proofs.YtealcoghiaeiiaaGreat.VG
set_option linter.unusedVariables false
namespace Go.Proofs.YtealcoghiaeiiaaGreat.VG
open Go.VB Go.VB.Srt Go.Proofs
namespace SoCmpFunc_api_Write
section
variable {cmp:Value} {lt:zAD→zAD→Bool} (O:SWO lt) (hcmp:Cmps cmp lt) {base:Nat} {w:World} {s:Sl} {L:Nat} {f:Nat→zAD}
include O hcmp
theorem zKz (hO:Ow base w s (tab f L)) {a b:Nat} (hA:a<b) (hb:b≤L) (hpre:Pre lt a b f) {k:Bool→World→Prop}
  (H:∀ r g w',Seg a b f g→(r=true→zBm lt a b g)→Ow base w' s (tab g L)→w.grownBy w' (Sl.v s).ownBlock→k r w'):
  Cl Tryz.prog zGd [Sl.v s,.int .i64 (a:Int),.int .i64 (b:Int),cmp].toArray w (fun e w'=>∃ r0:Bool,e=.returned (.bool r0)∧k r0 w'):=by
 refine zGh s a b cmp w k ?_
 have hlen:=hO.len;have hsm:=hO.small
 rw [zDJ] at hlen
 unfold zD5
 refine ⟨fun x y w1=>∃ (i:Nat) (g:Nat→zAD),x=(i:Int)∧0≤y∧y≤5∧a+1≤i∧i≤b∧Seg a b f g∧zBm lt a i g∧Ow base w1 s (tab g L)∧w.grownBy w1 (Sl.v s).ownBlock,fun _ y _=>(5 - y).toNat,?_,?_⟩
 ·rw [wr64 (by omega) (by omega)]
  exact ⟨a+1,f,by omega,by decide,by decide,Nat.le_refl _,by omega,.refl f,zBm.small (Nat.le_refl _),hO,World.grownBy.refl _ _⟩
 rintro x y w1 ⟨i0,g0,rfl,hy0,hy5,hi1,hi2,hsg0,hso0,hO1,hg1⟩
 unfold zBy
 refine ⟨fun hc5=>?_,fun _=>H false g0 w1 hsg0 (fun h=>(nomatch h)) hO1 hg1⟩
 -- the next step
 have next:∀ (i:Nat) (g:Nat→zAD) (w2:World),a+1≤i→i≤b→Seg a b f g→zBm lt a i g→Ow base w2 s (tab g L)→w.grownBy w2 (Sl.v s).ownBlock→
   zAd y (fun x9' x10' w'=>(∃ (i:Nat) (g:Nat→zAD),x9'=(i:Int)∧0≤x10'∧x10'≤5∧a+1≤i∧i≤b∧Seg a b f g∧zBm lt a i g∧Ow base w' s (tab g L)∧w.grownBy w' (Sl.v s).ownBlock)∧(5 - x10').toNat<(5 - y).toNat) (i:Int) w2:=by
  intro i g w2 h1 h2 h3 h4 h5 h6
  unfold zAd
  rw [wr64 (by omega) (by omega)]
  exact ⟨⟨i,g,rfl,by omega,by omega,h1,h2,h3,h4,h5,h6⟩,by omega⟩
 generalize hKl:(fun (x9' x10':Int) (w':World)=>(∃ (i:Nat) (g:Nat→zAD),x9'=(i:Int)∧0≤x10'∧x10'≤5∧a+1≤i∧i≤b∧Seg a b f g∧zBm lt a i g∧Ow base w' s (tab g L)∧w.grownBy w' (Sl.v s).ownBlock)∧(5 - x10').toNat<(5 - y).toNat)=Kl at next
 have j6:∀ (i:Nat) (g:Nat→zAD) (w2:World),a+1≤i→i≤b→Seg a b f g→zBm lt a i g→Ow base w2 s (tab g L)→w.grownBy w2 (Sl.v s).ownBlock→zAX s b cmp y Kl (i:Int) w2:=by
  intro i g w2 h1 h2 h3 h4 h5 h6
  unfold zAX
  refine ⟨fun _=>?_,fun _=>next i g w2 h1 h2 h3 h4 h5 h6⟩
  rw [wr64 (n:=(i:Int)+1) (by omega) (by omega)]
  refine ⟨fun x w3=>∃ (m:Nat) (h:Nat→zAD),x=(m:Int)∧i+1≤m∧m≤b+1∧Seg a b f h∧zBm lt a i h∧Ow base w3 s (tab h L)∧w.grownBy w3 (Sl.v s).ownBlock,fun x _=>(b+1 - x).toNat,?_,?_⟩
  ·exact ⟨i+1,g,by omega,Nat.le_refl _,by omega,h3,h4,h5,h6⟩
  rintro x w3 ⟨m,h,rfl,hm1,hm2,hsg,hso,hO3,hg3⟩
  unfold zB0
  refine ⟨fun hc=>?_,fun _=>next i h w3 h1 h2 hsg hso hO3 hg3⟩
  refine zBP zAa hO3 (i':=m) rfl (by omega) ?_
  refine zBP zAa hO3 (i':=m - 1) (by rw [wr64 (by omega) (by omega)];omega) (by omega) ?_
  obtain ⟨r,hr,hl⟩:=hcmp w3 (h m) (h (m - 1))
  refine ⟨r,hr,?_⟩
  rw [zFF hl]
  intro w4 hb4
  refine ⟨fun _=>next i h w4 h1 h2 hsg hso (hO3.bel hb4) (zAK hg3 (zAT hb4 _)),fun _=>?_⟩
  refine zEn zAa (hO3.bel hb4) (i':=m) (j':=m - 1) rfl (by rw [wr64 (by omega) (by omega)];omega) (by omega) (by omega) fun w5 hO5 hg5=>?_
  unfold zA5
  rw [wr64 (n:=(m:Int)+1) (by omega) (by omega)]
  exact ⟨⟨m+1,_,by omega,by omega,by omega,.step m (m - 1) (by omega) (by omega) (by omega) (by omega) hsg,hso.congr fun q h7 h8=>swp_o h (by omega) (by omega),hO5,zAK (zAK hg3 (zAT hb4 _)) hg5⟩,by dsimp only;omega⟩
 refine ⟨fun x w2=>∃ (i:Nat) (g:Nat→zAD),x=(i:Int)∧a+1≤i∧i≤b∧Seg a b f g∧zBm lt a i g∧Ow base w2 s (tab g L)∧w.grownBy w2 (Sl.v s).ownBlock,fun x _=>(b - x).toNat,⟨i0,g0,rfl,hi1,hi2,hsg0,hso0,hO1,hg1⟩,?_⟩
 rintro x w2 ⟨i,g,rfl,hi1,hi2,hsg,hso,hO2,hg2⟩
 unfold zB1
 generalize hK3:(fun (x9_2':Int) (w':World)=>(∃ (i:Nat) (g:Nat→zAD),x9_2'=(i:Int)∧a+1≤i∧i≤b∧Seg a b f g∧zBm lt a i g∧Ow base w' s (tab g L)∧w.grownBy w' (Sl.v s).ownBlock)∧(b - x9_2').toNat<(b - (i:Int)).toNat)=K3
 have stop:∀ w3,Bel w2 w3→(i<b→lt (g i) (g (i - 1))=true)→zA6 s a b cmp k y Kl (i:Int) K3 false w2:=by
  intro w3' hb3' hlt w3 hb3
  have hO3:=hO2.bel hb3
  have hg3:=zAK hg2 (zAT hb3 _)
  refine ⟨fun h=>(nomatch h),fun _=>⟨fun hib=>?_,fun hib=>⟨fun _=>H false g w3 hsg (fun h=>(nomatch h)) hO3 hg3,fun _=>?_⟩⟩⟩
  ·obtain rfl:i=b:=by omega
   exact H true g w3 hsg (fun _=>hso) hO3 hg3
  have hib':i<b:=by omega
  refine zEn zAa hO3 (i':=i) (j':=i - 1) rfl (by rw [wr64 (by omega) (by omega)];omega) (by omega) (by omega) fun w4 hO4 hg4=>?_
  have hg04:=zAK hg3 hg4
  have hsg4:Seg a b f (swp g i (i - 1)):=.step i (i - 1) (by omega) (by omega) (by omega) (by omega) hsg
  have hso4:zBm lt a (i - 1) (swp g i (i - 1)):=zBm.congr (f:=g) (fun p q h1 h2 h3=>hso p q h1 h2 (by omega)) fun q h1 h2=>swp_o g (by omega) (by omega)
  unfold zA3
  refine ⟨fun hia=>?_,fun hia=>j6 i _ w4 hi1 hi2 hsg4 (zBm.small (by rw [wr64 (by omega) (by omega)] at hia;omega)) hO4 hg04⟩
  rw [wr64 (by omega) (by omega)] at hia
  rw [wr64 (by omega) (by omega)]
  refine ⟨fun x w5=>∃ (j:Nat) (h:Nat→zAD),x=(j:Int)∧a≤j∧j≤i - 1∧Seg a b f h∧Hole lt a (i - 1) j h∧Ow base w5 s (tab h L)∧w.grownBy w5 (Sl.v s).ownBlock,fun x _=>x.toNat,⟨i - 1,_,by omega,by omega,Nat.le_refl _,hsg4,Hole.start hso4,hO4,hg04⟩,?_⟩
  rintro x w5 ⟨j,h,rfl,hj1,hj2,hsg5,hho,hO5,hg5⟩
  unfold zBz
  have out:∀ w6,Bel w5 w6→(j≤a∨Le lt (h (j - 1)) (h j))→zAX s b cmp y Kl (i:Int) w6:=by
   intro w6 hb6 hd
   have:=hho.done O hd
   rw [show i - 1+1=i by omega] at this
   exact j6 i h w6 hi1 hi2 hsg5 this (hO5.bel hb6) (zAK hg5 (zAT hb6 _))
  refine ⟨fun hc=>?_,fun hc=>out w5 (Bel.refl _) (.inl (by omega))⟩
  refine zBP zAa hO5 (i':=j) rfl (by omega) ?_
  refine zBP zAa hO5 (i':=j - 1) (by rw [wr64 (by omega) (by omega)];omega) (by omega) ?_
  obtain ⟨r,hr,hl⟩:=hcmp w5 (h j) (h (j - 1))
  refine ⟨r,hr,?_⟩
  rw [zFF hl]
  intro w6 hb6
  refine ⟨fun hn=>out w6 hb6 (.inr (show lt (h j) (h (j - 1))=false by simpa using hn)),fun hn=>?_⟩
  have hn':lt (h j) (h (j - 1))=true:=by simpa using hn
  have haj:a<j:=by
   rcases Nat.lt_or_ge a j with h1|h1
   ·exact h1
   ·obtain rfl:j=a:=by omega
    rcases hpre.seg hsg5 with h2|h2
    ·omega
    ·have:=h2 j (Nat.le_refl _) hA
     unfold Le at this
     rw [hn'] at this;cases this
  refine zEn zAa (hO5.bel hb6) (i':=j) (j':=j - 1) rfl (by rw [wr64 (by omega) (by omega)];omega) (by omega) (by omega) fun w7 hO7 hg7=>?_
  unfold zA2
  rw [wr64 (n:=(j:Int) - 1) (by omega) (by omega)]
  exact ⟨⟨j - 1,_,by omega,by omega,by omega,.step j (j - 1) (by omega) (by omega) (by omega) (by omega) hsg5,hho.step O haj hj2 hn',hO7,zAK (zAK hg5 (zAT hb6 _)) hg7⟩,by dsimp only;omega⟩
 refine ⟨fun hc=>?_,fun hc=>stop w2 (Bel.refl _) (fun h=>by omega)⟩
 refine zBP zAa hO2 (i':=i) rfl (by omega) ?_
 refine zBP zAa hO2 (i':=i - 1) (by rw [wr64 (by omega) (by omega)];omega) (by omega) ?_
 obtain ⟨r,hr,hl⟩:=hcmp w2 (g i) (g (i - 1))
 refine ⟨r,hr,?_⟩
 rw [zFF hl]
 cases hlt:lt (g i) (g (i - 1)) with
 |true=>exact stop w2 (Bel.refl _) (fun _=>hlt)
 |false=>
  intro w3 hb3
  refine ⟨fun _=>?_,fun h=>(nomatch h)⟩
  rw [wr64 (n:=(i:Int)+1) (by omega) (by omega),← hK3]
  exact ⟨⟨i+1,g,by omega,by omega,by omega,hsg,hso.snoc O (by omega) hlt,hO2.bel hb3,zAK hg2 (zAT hb3 _)⟩,by omega⟩
end
end SoCmpFunc_api_Write
end Go.Proofs.YtealcoghiaeiiaaGreat.VG
set_option linter.unusedVariables false
namespace Go.Proofs.YtealcoghiaeiiaaGreat.VG
open Go.VB Go.VB.Srt Go.Proofs
namespace SoCmpFunc_api_Write
section
variable {cmp:Value} {lt:zAD→zAD→Bool} (O:SWO lt) (hcmp:Cmps cmp lt) {base:Nat} {w:World} {s:Sl} {L:Nat} {f:Nat→zAD}
include O hcmp
theorem zMg (hO:Ow base w s (tab f L)) {a b p:Nat} (hA:a≤p) (hp:p<b) (hb:b≤L) {k:Int→World→Prop}
  (H:∀ (m:Nat) g w',a<m→m≤b→Seg a b f g→(∀ q,a≤q→q<m→Le lt (g q) (f p))→Ow base w' s (tab g L)→w.grownBy w' (Sl.v s).ownBlock→k m w'):
  Cl Tryz.prog zHY [Sl.v s,.int .i64 (a:Int),.int .i64 (b:Int),.int .i64 (p:Int),cmp].toArray w (fun e w'=>∃ r0:Int,e=.returned (.int .i64 r0)∧k r0 w'):=by
 refine zHU s a b p cmp w k ?_
 have hlen:=hO.len;have hsm:=hO.small
 rw [zDJ] at hlen
 unfold zEV
 refine zEn zAa hO (i':=a) (j':=p) rfl rfl (by omega) (by omega) fun w1 hO1 hg1=>?_
 have hs1:Seg a b f (swp f a p):=Seg.one f (by omega) (by omega) (by omega) (by omega)
 have ha1:swp f a p a=f p:=swp_i f a p
 generalize (swp f a p)=f1 at hO1 hs1 ha1
 unfold zBr
 rw [wr64 (n:=(a:Int)+1) (by omega) (by omega),wr64 (n:=(b:Int) - 1) (by omega) (by omega)]
 refine ⟨fun x y w2=>∃ (i j:Nat) (g:Nat→zAD),x=(i:Int)∧y=(j:Int)∧a<i∧a≤j∧i≤j+1∧j<b∧Seg a b f g∧g a=f p∧Pt (fun q z=>!(lt q z)) a b i j g∧Ow base w2 s (tab g L)∧w.grownBy w2 (Sl.v s).ownBlock,fun x y _=>(y+1 - x).toNat,?_,?_⟩
 ·exact ⟨a+1,b - 1,f1,by omega,by omega,by omega,by omega,by omega,by omega,hs1,ha1,Pt.start _ a b f1,hO1,hg1⟩
 rintro x y w2 ⟨i0,j0,g,rfl,rfl,hi0,hj0,hij0,hjb,hsg,hga,hpt0,hO2,hg2⟩
 unfold zC6
 generalize hKl2:(fun (x11' x12':Int) (w':World)=>(∃ (i j:Nat) (g:Nat→zAD),x11'=(i:Int)∧x12'=(j:Int)∧a<i∧a≤j∧i≤j+1∧j<b∧Seg a b f g∧g a=f p∧Pt (fun q z=>!(lt q z)) a b i j g∧Ow base w' s (tab g L)∧w.grownBy w' (Sl.v s).ownBlock)∧(x12'+1 - x11').toNat<((j0:Int)+1 - (i0:Int)).toNat)=Kl2
 refine ⟨fun x w3=>∃ i:Nat,x=(i:Int)∧i0≤i∧i≤j0+1∧Pt (fun q z=>!(lt q z)) a b i j0 g∧Bel w2 w3,fun x _=>(j0+1 - x).toNat,⟨i0,rfl,Nat.le_refl _,hij0,hpt0,Bel.refl _⟩,?_⟩
 rintro x w3 ⟨i,rfl,hi1,hi2,hpt,hb3⟩
 have hO3:=hO2.bel hb3
 unfold zC7
 generalize hKl3:(fun (x11_1':Int) (w':World)=>(∃ i:Nat,x11_1'=(i:Int)∧i0≤i∧i≤j0+1∧Pt (fun q z=>!(lt q z)) a b i j0 g∧Bel w2 w')∧(j0+1 - x11_1').toNat<((j0:Int)+1 - (i:Int)).toNat)=Kl3
 -- from above
 have down:∀ w4,Bel w3 w4→(i≤j0→lt (g a) (g i)=true)→zBu s a cmp k (j0:Int) Kl2 (i:Int) Kl3 false w3:=by
  intro w4' hb4' hlti w4 hb4
  refine ⟨fun h=>(nomatch h),fun _=>?_⟩
  refine ⟨fun y w5=>∃ j:Nat,y=(j:Int)∧a≤j∧i≤j+1∧j≤j0∧Pt (fun q z=>!(lt q z)) a b i j g∧Bel w2 w5,fun y _=>y.toNat,⟨j0,rfl,hj0,hi2,Nat.le_refl _,hpt,hb3.trans hb4⟩,?_⟩
  rintro y w5 ⟨j,rfl,hj1,hj2,hj3,hptj,hb5⟩
  have hO5:=hO2.bel hb5
  unfold zC8
  generalize hKl5:(fun (x12_1':Int) (w':World)=>(∃ j:Nat,x12_1'=(j:Int)∧a≤j∧i≤j+1∧j≤j0∧Pt (fun q z=>!(lt q z)) a b i j g∧Bel w2 w')∧x12_1'.toNat<((j:Int)).toNat)=Kl5
  have stop:(i≤j→lt (g a) (g j)=false)→zBo s k Kl2 (i:Int) (j:Int) Kl5 false w5:=by
   intro hltj w6 hb6
   have hO6:=hO5.bel hb6
   have hg6:=zAK hg2 (zAT (hb5.trans hb6) (Sl.v s).ownBlock)
   refine ⟨fun h=>(nomatch h),fun _=>⟨fun hc=>?_,fun hc=>?_⟩⟩
   ·refine H i g w6 (by omega) (by omega) hsg (fun q h1 h2=>?_) hO6 hg6
    rw [← hga]
    by_cases hq:q=a
    ·rw [hq];exact O.refl _
    ·have:=hptj.lo q (by omega) h2
     unfold Le;simpa using this
   ·have hij:i<j:=by
     rcases Nat.lt_or_ge i j with h1|h1
     ·exact h1
     ·obtain rfl:i=j:=by omega
      have h2:=hlti (by omega)
      have h3:=hltj (Nat.le_refl _)
      rw [h2] at h3;cases h3
    refine zEn zAa hO6 (i':=i) (j':=j) rfl rfl (by omega) (by omega) fun w7 hO7 hg7=>?_
    unfold zBp
    rw [wr64 (n:=(i:Int)+1) (by omega) (by omega),wr64 (n:=(j:Int) - 1) (by omega) (by omega),← hKl2]
    exact ⟨⟨i+1,j - 1,_,by omega,by omega,by omega,by omega,by omega,by omega,.step i j (by omega) (by omega) (by omega) (by omega) hsg,by rw [swp_o g (by omega) (by omega)];exact hga,
     hptj.swap (by omega) hij (by simp [hlti (by omega)]) (by simp [hltj (by omega)]),hO7,zAK hg6 hg7⟩,by omega⟩
  refine ⟨fun hc=>?_,fun hc=>stop (fun h=>by omega)⟩
  refine zBP zAa hO5 (i':=a) rfl (by omega) ?_
  refine zBP zAa hO5 (i':=j) rfl (by omega) ?_
  obtain ⟨r,hr,hl⟩:=hcmp w5 (g a) (g j)
  refine ⟨r,hr,?_⟩
  rw [zFF hl]
  cases hlt:lt (g a) (g j) with
  |false=>exact stop (fun _=>hlt)
  |true=>
   intro w6 hb6
   refine ⟨fun _=>?_,fun h=>(nomatch h)⟩
   rw [wr64 (n:=(j:Int) - 1) (by omega) (by omega),← hKl5]
   exact ⟨⟨j - 1,by omega,by omega,by omega,by omega,hptj.decr (by simp [hlt]),hb5.trans hb6⟩,by omega⟩
 refine ⟨fun hc=>?_,fun hc=>down w3 (Bel.refl _) (fun h=>by omega)⟩
 refine zBP zAa hO3 (i':=a) rfl (by omega) ?_
 refine zBP zAa hO3 (i':=i) rfl (by omega) ?_
 obtain ⟨r,hr,hl⟩:=hcmp w3 (g a) (g i)
 refine ⟨r,hr,?_⟩
 rw [zFF hl]
 cases hlt:lt (g a) (g i) with
 |true=>exact down w3 (Bel.refl _) (fun _=>hlt)
 |false=>
  intro w4 hb4
  refine ⟨fun _=>?_,fun h=>(nomatch h)⟩
  rw [wr64 (n:=(i:Int)+1) (by omega) (by omega),← hKl3]
  exact ⟨⟨i+1,by omega,by omega,by omega,hpt.incr (by simp [hlt]),hb3.trans hb4⟩,by omega⟩
theorem zNS (hO:Ow base w s (tab f L)) {a b p:Nat} (hA:a≤p) (hp:p<b) (hb:b≤L) {k:Int→Bool→World→Prop}
  (H:∀ (m:Nat) (r:Bool) g w',a≤m→m<b→Seg a b f g→zLG lt a b m g→Ow base w' s (tab g L)→w.grownBy w' (Sl.v s).ownBlock→k m r w'):
  Cl Tryz.prog zIn [Sl.v s,.int .i64 (a:Int),.int .i64 (b:Int),.int .i64 (p:Int),cmp].toArray w (fun e w'=>∃ (r0:Int) (r1:Bool),e=.returned (.tuple [.int .i64 r0,.bool r1].toArray)∧k r0 r1 w'):=by
 refine zIu s a b p cmp w k ?_
 have hlen:=hO.len;have hsm:=hO.small
 rw [zDJ] at hlen
 unfold zFA
 refine zEn zAa hO (i':=a) (j':=p) rfl rfl (by omega) (by omega) fun w1 hO1 hg1=>?_
 have hs1:Seg a b f (swp f a p):=Seg.one f (by omega) (by omega) (by omega) (by omega)
 generalize (swp f a p)=f1 at hO1 hs1
 unfold zC0
 rw [wr64 (n:=(a:Int)+1) (by omega) (by omega)]
 have hbm:IntKind.wrap .i64 ((b:Int) - 1)=((b - 1:Nat):Int):=by rw [wr64 (by omega) (by omega)];omega
 -- the main loop,from i,j on
 have main:∀ (i0 j0:Nat) (g0:Nat→zAD) (w0:World),a<i0→a≤j0→i0≤j0+1→j0<b→Seg a b f g0→Pt (fun q z=>lt z q) a b i0 j0 g0→Ow base w0 s (tab g0 L)→w.grownBy w0 (Sl.v s).ownBlock→
   ∃ (I:Int→Int→World→Prop) (μ:Int→Int→World→Nat),I (i0:Int) (j0:Int) w0∧∀ (x12_1:Int) (x13_1:Int) w,I x12_1 x13_1 w→zCl s a cmp k x12_1 x13_1 w (fun x12_1' x13_1' w'=>I x12_1' x13_1' w'∧μ x12_1' x13_1' w'<μ x12_1 x13_1 w):=by
  intro i0 j0 g0 w0 h1 h2 h3 h4 h5 h6 h7 h8
  refine ⟨fun x y w2=>∃ (i j:Nat) (g:Nat→zAD),x=(i:Int)∧y=(j:Int)∧a<i∧a≤j∧i≤j+1∧j<b∧Seg a b f g∧Pt (fun q z=>lt z q) a b i j g∧Ow base w2 s (tab g L)∧w.grownBy w2 (Sl.v s).ownBlock,fun x y _=>(y+1 - x).toNat,⟨i0,j0,g0,rfl,rfl,h1,h2,h3,h4,h5,h6,h7,h8⟩,?_⟩
  rintro x y w2 ⟨i0,j0,g,rfl,rfl,hi0,hj0,hij0,hjb,hsg,hpt0,hO2,hg2⟩
  unfold zCl
  generalize hKl8:(fun (x12' x13':Int) (w':World)=>(∃ (i j:Nat) (g:Nat→zAD),x12'=(i:Int)∧x13'=(j:Int)∧a<i∧a≤j∧i≤j+1∧j<b∧Seg a b f g∧Pt (fun q z=>lt z q) a b i j g∧Ow base w' s (tab g L)∧w.grownBy w' (Sl.v s).ownBlock)∧(x13'+1 - x12').toNat<((j0:Int)+1 - (i0:Int)).toNat)=Kl8
  refine ⟨fun x w3=>∃ i:Nat,x=(i:Int)∧i0≤i∧i≤j0+1∧Pt (fun q z=>lt z q) a b i j0 g∧Bel w2 w3,fun x _=>(j0+1 - x).toNat,⟨i0,rfl,Nat.le_refl _,hij0,hpt0,Bel.refl _⟩,?_⟩
  rintro x w3 ⟨i,rfl,hi1,hi2,hpt,hb3⟩
  have hO3:=hO2.bel hb3
  unfold zDu
  generalize hKl9:(fun (x12_2':Int) (w':World)=>(∃ i:Nat,x12_2'=(i:Int)∧i0≤i∧i≤j0+1∧Pt (fun q z=>lt z q) a b i j0 g∧Bel w2 w')∧(j0+1 - x12_2').toNat<((j0:Int)+1 - (i:Int)).toNat)=Kl9
  have down:(i≤j0→lt (g i) (g a)=false)→zCf s a cmp k (j0:Int) Kl8 (i:Int) Kl9 false w3:=by
   intro hlti w4 hb4
   refine ⟨fun h=>(nomatch h),fun _=>?_⟩
   refine ⟨fun y w5=>∃ j:Nat,y=(j:Int)∧a≤j∧i≤j+1∧j≤j0∧Pt (fun q z=>lt z q) a b i j g∧Bel w2 w5,fun y _=>y.toNat,⟨j0,rfl,hj0,hi2,Nat.le_refl _,hpt,hb3.trans hb4⟩,?_⟩
   rintro y w5 ⟨j,rfl,hj1,hj2,hj3,hptj,hb5⟩
   have hO5:=hO2.bel hb5
   unfold zDm
   generalize hKl11:(fun (x13_2':Int) (w':World)=>(∃ j:Nat,x13_2'=(j:Int)∧a≤j∧i≤j+1∧j≤j0∧Pt (fun q z=>lt z q) a b i j g∧Bel w2 w')∧x13_2'.toNat<((j:Int)).toNat)=Kl11
   have stop:(i≤j→lt (g j) (g a)=true)→zCk s a k Kl8 (i:Int) (j:Int) Kl11 false w5:=by
    intro hltj w6 hb6
    have hO6:=hO5.bel hb6
    have hg6:=zAK hg2 (zAT (hb5.trans hb6) (Sl.v s).ownBlock)
    refine ⟨fun h=>(nomatch h),fun _=>⟨fun hc=>?_,fun hc=>?_⟩⟩
    ·refine zEn zAa hO6 (i':=j) (j':=a) rfl rfl (by omega) (by omega) fun w7 hO7 hg7=>?_
     unfold zCi
     exact H j false _ w7 hj1 (by omega) (.step j a (by omega) (by omega) (by omega) (by omega) hsg) (hptj.done O hj1 (by omega)) hO7 (zAK hg6 hg7)
    ·have hij:i<j:=by
      rcases Nat.lt_or_ge i j with h1|h1
      ·exact h1
      ·obtain rfl:i=j:=by omega
       have h2:=hlti (by omega)
       have h3:=hltj (Nat.le_refl _)
       rw [h2] at h3;cases h3
     refine zEn zAa hO6 (i':=i) (j':=j) rfl rfl (by omega) (by omega) fun w7 hO7 hg7=>?_
     unfold zCe
     rw [wr64 (n:=(i:Int)+1) (by omega) (by omega),wr64 (n:=(j:Int) - 1) (by omega) (by omega),← hKl8]
     exact ⟨⟨i+1,j - 1,_,by omega,by omega,by omega,by omega,by omega,by omega,.step i j (by omega) (by omega) (by omega) (by omega) hsg,
      hptj.swap (by omega) hij (hlti (by omega)) (hltj (by omega)),hO7,zAK hg6 hg7⟩,by omega⟩
   refine ⟨fun hc=>?_,fun hc=>stop (fun h=>by omega)⟩
   refine zBP zAa hO5 (i':=j) rfl (by omega) ?_
   refine zBP zAa hO5 (i':=a) rfl (by omega) ?_
   obtain ⟨r,hr,hl⟩:=hcmp w5 (g j) (g a)
   refine ⟨r,hr,?_⟩
   rw [zFF hl]
   cases hlt:lt (g j) (g a) with
   |true=>exact stop (fun _=>hlt)
   |false=>
    intro w6 hb6
    refine ⟨fun _=>?_,fun h=>(nomatch h)⟩
    rw [wr64 (n:=(j:Int) - 1) (by omega) (by omega),← hKl11]
    exact ⟨⟨j - 1,by omega,by omega,by omega,by omega,hptj.decr hlt,hb5.trans hb6⟩,by omega⟩
  refine ⟨fun hc=>?_,fun hc=>down (fun h=>by omega)⟩
  refine zBP zAa hO3 (i':=i) rfl (by omega) ?_
  refine zBP zAa hO3 (i':=a) rfl (by omega) ?_
  obtain ⟨r,hr,hl⟩:=hcmp w3 (g i) (g a)
  refine ⟨r,hr,?_⟩
  rw [zFF hl]
  cases hlt:lt (g i) (g a) with
  |false=>exact down (fun _=>hlt)
  |true=>
   intro w4 hb4
   refine ⟨fun _=>?_,fun h=>(nomatch h)⟩
   rw [wr64 (n:=(i:Int)+1) (by omega) (by omega),← hKl9]
   exact ⟨⟨i+1,by omega,by omega,by omega,hpt.incr hlt,hb3.trans hb4⟩,by omega⟩
 -- ahead of it: from below,then from above
 refine ⟨fun x w3=>∃ i:Nat,x=(i:Int)∧a<i∧i≤b - 1+1∧Pt (fun q z=>lt z q) a b i (b - 1) f1∧Bel w1 w3,fun x _=>(b+1 - x).toNat,⟨a+1,by omega,by omega,by omega,Pt.start _ a b f1,Bel.refl _⟩,?_⟩
 rintro x w3 ⟨i,rfl,hi1,hi2,hpt,hb3⟩
 have hO3:=hO1.bel hb3
 unfold zDw
 generalize hKl2:(fun (x12':Int) (w':World)=>(∃ i:Nat,x12'=(i:Int)∧a<i∧i≤b - 1+1∧Pt (fun q z=>lt z q) a b i (b - 1) f1∧Bel w1 w')∧(b+1 - x12').toNat<((b:Int)+1 - (i:Int)).toNat)=Kl2
 rw [hbm]
 have down:(i≤b - 1→lt (f1 i) (f1 a)=false)→zBg s a b cmp k (i:Int) Kl2 false w3:=by
  intro hlti
  unfold zBg
  intro w4 hb4
  refine ⟨fun h=>(nomatch h),fun _=>?_⟩
  rw [hbm]
  refine ⟨fun y w5=>∃ j:Nat,y=(j:Int)∧a≤j∧i≤j+1∧j≤b - 1∧Pt (fun q z=>lt z q) a b i j f1∧Bel w1 w5,fun y _=>y.toNat,⟨b - 1,rfl,by omega,hi2,Nat.le_refl _,hpt,hb3.trans hb4⟩,?_⟩
  rintro y w5 ⟨j,rfl,hj1,hj2,hj3,hptj,hb5⟩
  have hO5:=hO1.bel hb5
  unfold zDr
  generalize hKl4:(fun (x13':Int) (w':World)=>(∃ j:Nat,x13'=(j:Int)∧a≤j∧i≤j+1∧j≤b - 1∧Pt (fun q z=>lt z q) a b i j f1∧Bel w1 w')∧x13'.toNat<((j:Int)).toNat)=Kl4
  have stop:(i≤j→lt (f1 j) (f1 a)=true)→zCu s a cmp k (i:Int) (j:Int) Kl4 false w5:=by
   intro hltj w6 hb6
   have hO6:=hO5.bel hb6
   have hg6:=zAK hg1 (zAT (hb5.trans hb6) (Sl.v s).ownBlock)
   refine ⟨fun h=>(nomatch h),fun _=>⟨fun hc=>?_,fun hc=>?_⟩⟩
   ·refine zEn zAa hO6 (i':=j) (j':=a) rfl rfl (by omega) (by omega) fun w7 hO7 hg7=>?_
    unfold zC4
    exact H j true _ w7 hj1 (by omega) (.step j a (by omega) (by omega) (by omega) (by omega) hs1) (hptj.done O hj1 (by omega)) hO7 (zAK hg6 hg7)
   ·have hij:i<j:=by
     rcases Nat.lt_or_ge i j with h1|h1
     ·exact h1
     ·obtain rfl:i=j:=by omega
      have h2:=hlti (by omega)
      have h3:=hltj (Nat.le_refl _)
      rw [h2] at h3;cases h3
    refine zEn zAa hO6 (i':=i) (j':=j) rfl rfl (by omega) (by omega) fun w7 hO7 hg7=>?_
    unfold zCq
    rw [wr64 (n:=(i:Int)+1) (by omega) (by omega),wr64 (n:=(j:Int) - 1) (by omega) (by omega),show (i:Int)+1=((i+1:Nat):Int) by omega,show (j:Int) - 1=((j - 1:Nat):Int) by omega]
    exact main (i+1) (j - 1) _ w7 (by omega) (by omega) (by omega) (by omega) (.step i j (by omega) (by omega) (by omega) (by omega) hs1) (hptj.swap (by omega) hij (hlti (by omega)) (hltj (by omega))) hO7 (zAK hg6 hg7)
  refine ⟨fun hc=>?_,fun hc=>stop (fun h=>by omega)⟩
  refine zBP zAa hO5 (i':=j) rfl (by omega) ?_
  refine zBP zAa hO5 (i':=a) rfl (by omega) ?_
  obtain ⟨r,hr,hl⟩:=hcmp w5 (f1 j) (f1 a)
  refine ⟨r,hr,?_⟩
  rw [zFF hl]
  cases hlt:lt (f1 j) (f1 a) with
  |true=>exact stop (fun _=>hlt)
  |false=>
   intro w6 hb6
   refine ⟨fun _=>?_,fun h=>(nomatch h)⟩
   rw [wr64 (n:=(j:Int) - 1) (by omega) (by omega),← hKl4]
   exact ⟨⟨j - 1,by omega,by omega,by omega,by omega,hptj.decr hlt,hb5.trans hb6⟩,by omega⟩
 refine ⟨fun hc=>?_,fun hc=>down (fun h=>by omega)⟩
 refine zBP zAa hO3 (i':=i) rfl (by omega) ?_
 refine zBP zAa hO3 (i':=a) rfl (by omega) ?_
 obtain ⟨r,hr,hl⟩:=hcmp w3 (f1 i) (f1 a)
 refine ⟨r,hr,?_⟩
 rw [zFF hl]
 cases hlt:lt (f1 i) (f1 a) with
 |false=>exact down (fun _=>hlt)
 |true=>
  intro w4 hb4
  refine ⟨fun _=>?_,fun h=>(nomatch h)⟩
  rw [wr64 (n:=(i:Int)+1) (by omega) (by omega),← hKl2]
  exact ⟨⟨i+1,by omega,by omega,by omega,hpt.incr hlt,hb3.trans hb4⟩,by omega⟩
end
end SoCmpFunc_api_Write
end Go.Proofs.YtealcoghiaeiiaaGreat.VG
set_option linter.unusedVariables false
namespace Go.Proofs.YtealcoghiaeiiaaGreat.VG
open Go.VB Go.VB.Srt Go.Proofs
namespace SoCmpFunc_api_Write
section
variable {cmp:Value} {lt:zAD→zAD→Bool} (O:SWO lt) (hcmp:Cmps cmp lt) {base:Nat}
include O hcmp
theorem zNC:∀ (n:Nat) {w:World} {s:Sl} {L:Nat} {f:Nat→zAD} (hO:Ow base w s (tab f L)) {a b:Nat} (hab:a≤b) (hn:b - a≤n) (hb:b≤L) (hpre:Pre lt a b f) (lim:Int) {k:World→Prop}
  (H:∀ g w',Seg a b f g→zBm lt a b g→Ow base w' s (tab g L)→w.grownBy w' (Sl.v s).ownBlock→k w'),
  Cl Tryz.prog zJQ [Sl.v s,.int .i64 (a:Int),.int .i64 (b:Int),.int .i64 lim,cmp].toArray w (fun e w'=>e=.returned (.tuple [].toArray)∧k w'):=by
 intro n
 induction n with
 |zero=>
  intro w s L f hO a b hab hn hb hpre lim k H
  refine zGQ s a b lim cmp w k ?_
  have hlen:=hO.len;have hsm:=hO.small
  rw [zDJ] at hlen
  unfold zEQ
  refine ⟨fun x y _ _ _ w1=>x=(a:Int)∧y=(b:Int)∧w1=w,fun _ _ _ _ _ _=>0,⟨rfl,rfl,rfl⟩,?_⟩
  rintro x y z p q w1 ⟨rfl,rfl,rfl⟩
  unfold zDA
  rw [wr64 (n:=(b:Int) - a) (by omega) (by omega)]
  refine ⟨fun _=>?_,fun h=>by omega⟩
  exact zG9 O hcmp hO hab hb H
 |succ n ih=>
  intro w s L f hO a b hab hn hb hpre lim k H
  refine zGQ s a b lim cmp w k ?_
  have hlen:=hO.len;have hsm:=hO.small
  rw [zDJ] at hlen
  unfold zEQ
  refine ⟨fun x y _ _ _ w1=>∃ (a1 b1:Nat) (g:Nat→zAD),x=(a1:Int)∧y=(b1:Int)∧a1≤b1∧Inv lt a b a1 b1 f g∧Ow base w1 s (tab g L)∧w.grownBy w1 (Sl.v s).ownBlock,fun x y _ _ _ _=>(y - x).toNat,⟨a,b,f,rfl,rfl,hab,Inv.start a b f,hO,World.grownBy.refl _ _⟩,?_⟩
  rintro x y z p q w1 ⟨a1,b1,g,rfl,rfl,hab1,hinv,hO1,hg1⟩
  have hA:=hinv.ha;have hB:=hinv.hb
  unfold zDA
  generalize hKl:(fun (x1_1' x2_1' x3_1':Int) (x10' x11':Bool) (w':World)=>(∃ (a1 b1:Nat) (g:Nat→zAD),x1_1'=(a1:Int)∧x2_1'=(b1:Int)∧a1≤b1∧Inv lt a b a1 b1 f g∧Ow base w' s (tab g L)∧w.grownBy w' (Sl.v s).ownBlock)∧(x2_1' - x1_1').toNat<((b1:Int) - (a1:Int)).toNat)=Kl
  have hwn:IntKind.wrap .i64 ((b1:Int) - a1)=(b1:Int) - a1:=wr64 (by omega) (by omega)
  rw [hwn]
  have fin:∀ (h:Nat→zAD) (w2:World),Seg a1 b1 g h→zBm lt a1 b1 h→Ow base w2 s (tab h L)→w1.grownBy w2 (Sl.v s).ownBlock→k w2:=fun h w2 h1 h2 h3 h4=>
   H h w2 (hinv.turn h1).seg ((hinv.turn h1).fin h2) h3 (zAK hg1 h4)
  refine ⟨fun _=>zG9 O hcmp hO1 hab1 (by omega) fin,fun hc=>⟨fun _=>zNw O hcmp hO1 hab1 (by omega) fin,fun _=>?_⟩⟩
  have hlt:a1<b1:=by omega
  -- what is left,about a place
  have j4:∀ (h:Nat→zAD) (w2:World) (lim:Int) (v:Nat),Seg a1 b1 g h→Ow base w2 s (tab h L)→w1.grownBy w2 (Sl.v s).ownBlock→a1≤v→v<b1→zCH s cmp (a1:Int) (b1:Int) p q Kl lim (v:Int) w2:=by
   intro h w2 lim v hs2 hO2 hg2 hv1 hv2
   have hinv2:=hinv.turn hs2
   have hg02:=zAK hg1 hg2
   have away:∀ w3,Bel w2 w3→zDN s cmp (a1:Int) (b1:Int) p q Kl lim (v:Int) false w2:=by
    intro w3' hb3'
    intro w3 hb3
    refine ⟨fun h=>(nomatch h),fun _=>?_⟩
    have hg03:=zAK hg02 (zAT hb3 (Sl.v s).ownBlock)
    refine zNS O hcmp (hO2.bel hb3) hv1 hv2 (by omega) fun m r h4 w4 hm1 hm2 hs4 hpk hO4 hg4=>?_
    have hinv4:=hinv2.turn hs4
    have hg04:=zAK hg03 hg4
    refine zKn (by decide) (by rw [hwn,Int.tdiv_eq_ediv_of_nonneg (by omega)];omega) (by rw [hwn,Int.tdiv_eq_ediv_of_nonneg (by omega)];omega) ?_
    rw [wr64 (n:=(m:Int) - a1) (by omega) (by omega),wr64 (n:=(b1:Int) - m) (by omega) (by omega),wr64 (n:=(m:Int)+1) (by omega) (by omega),show (m:Int)+1=((m+1:Nat):Int) by omega]
    refine ⟨fun _=>?_,fun _=>?_⟩
    ·refine ih hO4 hm1 (by omega) (by omega) (a:=a1) (b:=m) (by
      rcases hinv4.pre hpre with h5|h5
      ·exact .inl h5
      ·exact .inr fun k h6 h7=>h5 k h6 (by omega)) lim fun h5 w5 hs5 hso5 hO5 hg5=>?_
     have hs5':Seg a1 b1 h4 h5:=hs5.mono (Nat.le_refl _) (by omega)
     rw [← hKl]
     exact ⟨⟨m+1,b1,h5,rfl,rfl,by omega,(hinv4.turn hs5').goRight hm1 hm2 O (hpk.left hs5) hso5,hO5,zAK hg04 hg5⟩,by omega⟩
    ·refine ih hO4 (a:=m+1) (b:=b1) (by omega) (by omega) (by omega) (.inr fun k h6 h7=>hpk.hi k (by omega) h7) lim fun h5 w5 hs5 hso5 hO5 hg5=>?_
     have hs5':Seg a1 b1 h4 h5:=hs5.mono (by omega) (Nat.le_refl _)
     rw [← hKl]
     exact ⟨⟨a1,m,h5,rfl,rfl,hm1,(hinv4.turn hs5').goLeft hm1 hm2 O (hpk.right hs5) hso5,hO5,zAK hg04 hg5⟩,by omega⟩
   unfold zCH
   refine ⟨fun ha0=>?_,fun _=>away w2 (Bel.refl _)⟩
   refine zBP zAa hO2 (i':=a1 - 1) (by rw [wr64 (by omega) (by omega)];omega) (by omega) ?_
   refine zBP zAa hO2 (i':=v) rfl (by omega) ?_
   obtain ⟨r,hr,hl⟩:=hcmp w2 (h (a1 - 1)) (h v)
   refine ⟨r,hr,?_⟩
   rw [zFF hl]
   cases hlv:lt (h (a1 - 1)) (h v) with
   |true=>exact away w2 (Bel.refl _)
   |false=>
    intro w3 hb3
    refine ⟨fun _=>?_,fun h=>(nomatch h)⟩
    have hg03:=zAK hg02 (zAT hb3 (Sl.v s).ownBlock)
    refine zMg O hcmp (hO2.bel hb3) hv1 hv2 (by omega) fun m h4 w4 hm1 hm2 hs4 heq hO4 hg4=>?_
    have hinv4:=hinv2.turn hs4
    rw [← hKl]
    have hpre4:=hinv4.pre hpre
    refine ⟨⟨m,b1,h4,rfl,rfl,hm2,hinv4.goEqual (by omega) hm2 O (v:=h4 (a1 - 1)) (fun q h1 h2=>?_) (fun q h1 h2=>?_),hO4,zAK hg03 hg4⟩,by omega⟩
    ·rw [hs4.out (a1 - 1) (.inl (by omega))]
     exact O.trans (heq q h1 h2) hlv
    ·rcases hpre4 with h5|h5
     ·omega
     ·exact h5 q h1 h2
  have j3:∀ (h:Nat→zAD) (w2:World) (lim hint:Int) (v:Nat),Seg a1 b1 g h→Ow base w2 s (tab h L)→w1.grownBy w2 (Sl.v s).ownBlock→a1≤v→v<b1→zCG s cmp k (a1:Int) (b1:Int) p q Kl lim (v:Int) hint w2:=by
   intro h w2 lim hint v hs2 hO2 hg2 hv1 hv2
   have r7f:zCE s cmp k (a1:Int) (b1:Int) p q Kl lim (v:Int) false w2:=⟨fun h=>(nomatch h),fun _=>j4 h w2 lim v hs2 hO2 hg2 hv1 hv2⟩
   have r7t:zCE s cmp k (a1:Int) (b1:Int) p q Kl lim (v:Int) true w2:=by
    refine ⟨fun _=>?_,fun h=>(nomatch h)⟩
    refine zKz O hcmp hO2 hlt (by omega) ((hinv.turn hs2).pre hpre) fun r h3 w3 hs3 hso3 hO3 hg3=>?_
    exact ⟨fun ht=>fin h3 w3 (hs2.trans hs3) (hso3 ht) hO3 (zAK hg2 hg3),fun _=>j4 h3 w3 lim v (hs2.trans hs3) hO3 (zAK hg2 hg3) hv1 hv2⟩
   have r6:∀ c:Bool,zDQ s cmp k (a1:Int) (b1:Int) p q Kl lim (v:Int) hint c w2:=by
    intro c
    refine ⟨fun _=>?_,fun _=>r7f⟩
    by_cases hh:hint=1
    ·rw [decide_eq_true hh];exact r7t
    ·rw [decide_eq_false hh];exact r7f
   unfold zCG
   exact ⟨fun _=>r6 q,fun _=>r6 false⟩
  have j2:∀ (h:Nat→zAD) (w2:World) (lim:Int),Seg a1 b1 g h→Ow base w2 s (tab h L)→w1.grownBy w2 (Sl.v s).ownBlock→zCF s cmp k (a1:Int) (b1:Int) p q Kl lim w2:=by
   intro h w2 lim hs2 hO2 hg2
   unfold zCF
   refine zMh hcmp hO2 hlt (by omega) fun v hint w3 hv1 hv2 hb3=>?_
   have hg3:=zAK hg2 (zAT hb3 (Sl.v s).ownBlock)
   refine ⟨fun _=>?_,fun _=>j3 h w3 lim hint v hs2 (hO2.bel hb3) hg3 hv1 hv2⟩
   refine zK1 (hO2.bel hb3) hab1 (by omega) fun h4 w4 hs4 hO4 hg4=>?_
   rw [wr64 (n:=(b1:Int) - 1) (by omega) (by omega),wr64 (n:=(v:Int) - a1) (by omega) (by omega),wr64 (by omega) (by omega),show (b1:Int) - 1 - (v - a1)=((b1 - 1 - (v - a1):Nat):Int) by omega]
   exact j3 h4 w4 lim 1 _ (hs2.trans hs4) hO4 (zAK hg3 hg4) (by omega) (by omega)
  refine ⟨fun _=>?_,fun _=>j2 g w1 _ (.refl g) hO1 (World.grownBy.refl _ _)⟩
  exact zMd (w0:=w) hO1 hab1 (by omega) fun h w2 hs2 hO2 hg2=>j2 h w2 _ hs2 hO2 hg2
theorem sort_ok {w:World} {s:Sl} {xs:List zAD} (hO:Ow base w s xs) {k:World→Prop}
  (H:∀ ys w',ys.Perm xs→ys.Pairwise (fun x y=>Le lt x y)→Ow base w' s ys→w.grownBy w' (Sl.v s).ownBlock→k w'):
  Cl Tryz.prog zIU [Sl.v s,cmp].toArray w (fun e w'=>e=.returned (.tuple [].toArray)∧k w'):=by
 refine zIJ s cmp w k ?_
 have hlen:=hO.len;have hsm:=hO.small
 unfold zEr
 refine zKd (by kernel_rfl) (by kernel_rfl) ?_
 rw [wru64 (by omega) (by omega)]
 refine zQK (by omega) fun r hr=>?_
 cases xs with
 |nil=>
  have hl0:s.len=0:=by simpa using hlen.symm
  rw [hl0]
  refine zNC O hcmp 0 (f:=fun _=>⟨ByteArray.mk #[],ByteArray.mk #[],false⟩) (L:=0) (a:=0) (b:=0) hO (Nat.le_refl _) (Nat.le_refl _) (Nat.le_refl _) (.inl rfl) _ fun g w' _ _ hO' hg=>?_
  exact H [] w' (.refl _) .nil hO' hg
 |cons x0 xs=>
  obtain ⟨f,hf⟩:∃ f:Nat→zAD,f=fun i=>((x0::xs)[i]?).getD x0:=⟨_,rfl⟩
  have htab:tab f (x0::xs).length=x0::xs:=zRK _ f fun i y hy=>by rw [hf];simp only [hy,Option.getD_some]
  rw [← htab] at hO
  have hL:s.len=(x0::xs).length:=hlen.symm
  rw [hL]
  refine zNC O hcmp (x0::xs).length hO (a:=0) (Nat.zero_le _) (by omega) (Nat.le_refl _) (.inl rfl) _ fun g w' hsg hso hO' hg=>?_
  refine H (tab g (x0::xs).length) w' ?_ ?_ hO' hg
  ·have:=hsg.perm (Nat.le_refl _)
   rw [htab] at this;exact this
  ·rw [List.pairwise_iff_getElem]
   intro i j hi hj hij
   rw [zDJ] at hi hj
   have e1:=zKC g hi
   have e2:=zKC g hj
   have:=hso i j (Nat.zero_le _) hij hj
   rw [List.getElem?_eq_getElem (by rw [zDJ];exact hi)] at e1
   rw [List.getElem?_eq_getElem (by rw [zDJ];exact hj)] at e2
   rw [Option.some.inj e1,Option.some.inj e2]
   exact this
end
end SoCmpFunc_api_Write
end Go.Proofs.YtealcoghiaeiiaaGreat.VG
set_option linter.unusedVariables false
set_option linter.unusedSimpArgs false
namespace Go.VB
open Go.RowKit
structure zT3 {κ ν:Type} (ek:κ→Value) (ev:ν→Value) (w:World) (b r:Nat) (f:κ→Option ν) (ks:List κ) (es:Array MapEntry) (c:Nat) (sb:Array Nat):Prop where
 map:MapAt ek ev w b f es c
 blk:w.heap[r]?=some (.mapIter (some b) c sb c)
 seen:∀ (i:Nat) (e:MapEntry) (k:κ),es[i]?=some e→e.key=ek k→(sb.contains e.born=true↔k∈ks)
 nd:ks.Nodup
 dom:∀ k∈ks,∃ v,f k=some v
 len:sb.size=ks.length
 last:∀ k,ks.getLast?=some k→∃ (i:Nat) (e:MapEntry),es[i]?=some e∧e.key=ek k∧sb.back?=some e.born
def zGV {κ ν:Type} (ek:κ→Value) (ev:ν→Value) (w:World) (b r:Nat) (f:κ→Option ν) (ks:List κ):Prop:=∃ es c sb,zT3 ek ev w b r f ks es c sb
def zL9 (w:World) (r:Nat):Nat:=match w.heap[r]? with
 |some (.mapIter _ _ sb _)=>sb.size
 |_=>0
section
variable {κ ν:Type} {ek:κ→Value} {ev:ν→Value} {P:Program} {kt et mt:TypeId} {w:World} {b r:Nat} {f:κ→Option ν} {ks:List κ}
theorem zGV.grown {w':World} {row:Option Nat} (h:zGV ek ev w b r f ks) (hg:w.grownBy w' row) (hb:row≠some b) (hr:row≠some r):zGV ek ev w' b r f ks:=
 let ⟨es,c,sb,m⟩:=h
 ⟨es,c,sb,⟨(hg.block b (Array.getElem?_eq_some_iff.1 m.map.blk).1 (fun e=>hb e.symm)).trans m.map.blk,m.map.sound,m.map.full,m.map.one⟩,(hg.block r (Array.getElem?_eq_some_iff.1 m.blk).1 (fun e=>hr e.symm)).trans m.blk,m.seen,m.nd,m.dom,m.len,m.last⟩
theorem zGV.bel {w':World} (h:zGV ek ev w b r f ks) (hb:Bel w w'):zGV ek ev w' b r f ks:=
 let ⟨es,c,sb,m⟩:=h
 ⟨es,c,sb,⟨hb.blk m.map.blk,m.map.sound,m.map.full,m.map.one⟩,hb.blk m.blk,m.seen,m.nd,m.dom,m.len,m.last⟩
theorem zGV.size (h:zGV ek ev w b r f ks):zL9 w r=ks.length:=by
 obtain ⟨es,c,sb,m⟩:=h
 unfold zL9;rw [m.blk];exact m.len
theorem zGV.nd (h:zGV ek ev w b r f ks):ks.Nodup:=let ⟨_,_,_,m⟩:=h;m.nd
theorem zGV.dom (h:zGV ek ev w b r f ks):∀ k∈ks,∃ v,f k=some v:=let ⟨_,_,_,m⟩:=h;m.dom
theorem zGV.blk (h:zGV ek ev w b r f ks):∃ c sb,w.heap[r]?=some (.mapIter (some b) c sb c):=let ⟨_,c,sb,m⟩:=h;⟨c,sb,m.blk⟩
theorem zGV.mapLt (h:zGV ek ev w b r f ks):∃ es c,w.heap[b]?=some (.map es c):=let ⟨es,c,sb,m⟩:=h;⟨es,c,m.map.blk⟩
theorem zGV.keep {w':World} (h:zGV ek ev w b r f ks) (hb:w'.heap[b]?=w.heap[b]?) (hr:w'.heap[r]?=w.heap[r]?):zGV ek ev w' b r f ks:=
 let ⟨es,c,sb,m⟩:=h
 ⟨es,c,sb,⟨hb.trans m.map.blk,m.map.sound,m.map.full,m.map.one⟩,hr.trans m.blk,m.seen,m.nd,m.dom,m.len,m.last⟩
theorem zTT (h:MapIs ek ev w b f) (hm:P.underlying mt=some (.map kt et)) {k:Option Addr→World→Prop}
  (H:∀ w',zGV ek ev w' b w.heap.size f []→Bel w w'→k (some ⟨w.heap.size,0,none⟩) w'):opE P Value.pointer (Instr.range mt (.map (some b))) w k:=by
 obtain ⟨es,c,m⟩:=h
 refine ⟨_,w.alloc (.mapIter (some b) c #[] c),?_,H _ ⟨es,c,#[],⟨(Bel.alloc w _).blk m.blk,m.sound,m.full,m.one⟩,zOq w _,?_,List.nodup_nil,by simp,by simp,by simp⟩ (Bel.alloc w _)⟩
 ·simp [Instr.range,run_underlying hm,MapKept.run_getObj_map m.blk,Result.andThen]
 ·intro i e k _ _;simp
theorem zRf (h:zGV ek ev w b r f ks) (hne:b≠r) (hinj:∀ x y,ek x=ek y→x=y) {ty:TypeId} {k:Option (Value × Value)→World→Prop}
  (h0:(∀ x v,f x=some v→x∈ks)→k none w)
  (h1:∀ x v w',f x=some v→x∉ks→zGV ek ev w' b r f (ks++[x])→w.grownBy w' (some r)→k (some (ek x,ev v)) w'):
  opE P (zOp id id) (Instr.next (.pointer (some ⟨r,0,none⟩)) false ty) w k:=by
 obtain ⟨es,c,sb,m⟩:=h
 have hold:∀ x∈es.toList,x.born<c:=fun e he=>by
  obtain ⟨i,hi⟩:=List.getElem?_of_mem he
  obtain ⟨_,_,_,_,_,h4⟩:=m.map.sound i e (by simpa using hi)
  exact h4
 rcases run_next_at (P:=P) w ty r b c c sb es c m.blk m.map.blk hold (Nat.le_refl _) with ⟨hl,hr⟩|⟨e,he,w1,hw1,hr⟩
 ·refine ⟨none,w,hr,h0 fun x v hx=>?_⟩
  obtain ⟨i,e,h2,h3,h4⟩:=m.map.full x v hx
  refine (m.seen i e x h2 h3).1 ?_
  have hem:e∈es:=Array.mem_of_getElem? h2
  have hE:leftOf es sb=#[]:=Array.size_eq_zero_iff.1 hl
  unfold leftOf at hE
  rw [Array.filter_eq_empty_iff] at hE
  simpa using hE e hem
 ·have hmem:e∈es∧sb.contains e.born=false:=by
   unfold leftOf at he
   simpa using he
  obtain ⟨i,hi⟩:=Array.getElem?_of_mem hmem.1
  obtain ⟨x,v,h2,h3,h4,h5⟩:=m.map.sound i e hi
  have hw:w.grownBy w1 none:=by
   rcases hw1 with rfl|rfl
   ·exact World.grownBy.refl _ _
   ·exact ⟨rfl,rfl,rfl,Nat.le_refl _,fun _ _ _=>rfl⟩
  have hr1:w1.heap[r]?=some (.mapIter (some b) c sb c):=(hw.block r (Array.getElem?_eq_some_iff.1 m.blk).1 (by simp)).trans m.blk
  have hg:w.grownBy (setB w1 r (.mapIter (some b) c (sb.push e.born) c)) (some r):=by
   have:=zJM (w:=w1) (b:=r) (o:=.mapIter (some b) c (sb.push e.born) c)
   rcases hw1 with rfl|rfl<;>exact ⟨this.1,this.2,this.3,this.4,this.5⟩
  have hx:x∉ks:=fun hk=>by
   have:=(m.seen i e x hi h2).2 hk
   rw [hmem.2] at this;cases this
  refine ⟨some (ek x,ev v),_,?_,h1 x v _ h4 hx ⟨es,c,sb.push e.born,?_⟩ hg⟩
  ·rw [hr,h2,h3];rfl
  ·refine ⟨⟨(hg.block b (Array.getElem?_eq_some_iff.1 m.map.blk).1 (by simpa using hne)).trans m.map.blk,m.map.sound,m.map.full,m.map.one⟩,zJy hr1,fun j e' y hj hy=>?_,?_,?_,by simp [m.len],?_⟩
   ·rw [Array.contains_push,Bool.or_eq_true,List.mem_append,m.seen j e' y hj hy]
    refine or_congr Iff.rfl ?_
    simp only [beq_iff_eq,List.mem_singleton]
    constructor
    ·intro hb
     have:=m.map.one i j e e' hi hj (.inr hb.symm)
     subst this
     rw [hi] at hj;cases hj
     exact hinj _ _ (hy.symm.trans h2)
    ·rintro rfl
     have:=m.map.one i j e e' hi hj (.inl (h2.trans hy.symm))
     subst this
     rw [hi] at hj;cases hj;rfl
   ·rw [List.nodup_append]
    exact ⟨m.nd,by simp,fun a ha y hy=>by rw [List.mem_singleton] at hy;subst hy;exact fun e=>hx (e ▸ ha)⟩
   ·intro y hy
    rcases List.mem_append.1 hy with hy|hy
    ·exact m.dom y hy
    ·rw [List.mem_singleton] at hy;subst hy;exact ⟨v,h4⟩
   ·intro y hy
    rw [List.getLast?_append] at hy
    simp at hy;subst hy
    exact ⟨i,e,hi,h2,by simp⟩
theorem zL7 {x:κ} {v:ν} (h:zGV ek ev w b r f (ks++[x])) (hv:f x=some v) (hinj:∀ x y,ek x=ek y→x=y) {k:Value × Value→World→Prop} (H:k (ek x,ev v) w):
  opE P (fun p:Value × Value=>.tuple [p.1,p.2].toArray) (Instr.entry (.pointer (some ⟨r,0,none⟩))) w k:=by
 obtain ⟨es,c,sb,m⟩:=h
 obtain ⟨i,e,hi,hk,hl⟩:=m.last x (by simp)
 obtain ⟨y,u,h2,h3,h4,h5⟩:=m.map.sound i e hi
 obtain rfl:y=x:=hinj _ _ (h2.symm.trans hk)
 rw [hv] at h4;cases h4
 have hf:es.find? (·.born==e.born)=some e:=by
  have hex:(es.find? (·.born==e.born)).isSome:=by
   rw [Array.find?_isSome];exact ⟨e,Array.mem_of_getElem? hi,by simp⟩
  obtain ⟨e',he'⟩:=Option.isSome_iff_exists.1 hex
  have hb:e'.born=e.born:=by simpa using Array.find?_some he'
  obtain ⟨j,hj⟩:=Array.getElem?_of_mem (Array.mem_of_find?_eq_some he')
  have:=m.map.one j i e' e hj hi (.inr hb)
  subst this
  rw [hi] at hj;cases hj
  exact he'
 refine ⟨(ek y,ev v),w,?_,H⟩
 simp [Instr.entry,getObj,Sem.run_bind,Sem.run,m.blk,m.map.blk,hl,hf,h2,h3,Result.andThen]
end
end Go.VB
set_option linter.unusedVariables false
namespace Go.VB
open Go.RowKit Go.Proofs
theorem zPq {x y:ByteArray}:sLt x y=true↔x.data.toList<y.data.toList:=by
 unfold sLt;rw [bytesLess_eq,decide_eq_true_eq];rw [ByteArray.toList_eq,ByteArray.toList_eq]
theorem zSb {x y:ByteArray} (h:x.data.toList=y.data.toList):x=y:=by
 exact ByteArray.ext (Array.toList_inj.1 h)
theorem zFy (x:ByteArray):¬ sLt x x=true:=by rw [zPq];exact List.lt_irrefl _
theorem zM9 {x y z:ByteArray} (h:sLt x y=true) (k:sLt y z=true):sLt x z=true:=by
 rw [zPq] at *;exact List.lt_trans h k
theorem zKE {x y:ByteArray} (h:¬ sLt x y=true) (hn:x≠y):sLt y x=true:=by
 rw [zPq] at*
 have h1:y.data.toList≤x.data.toList:=List.not_lt.1 h
 rcases Classical.em (y.data.toList<x.data.toList) with h2|h2
 ·exact h2
 ·exact absurd (zSb (List.le_antisymm (List.not_lt.1 h2) h1)) hn
theorem zL8 {x y:ByteArray} (h:sLt x y=true):¬ sLt y x=true:=fun k=>zFy x (zM9 h k)
theorem zP3 {x y:ByteArray} (h:sLt x y=true):x≠y:=fun e=>by subst e;exact zFy _ h
theorem zQs {x y:ByteArray}:(sLt x y||decide (x=y))=true↔¬ sLt y x=true:=by
 constructor
 ·intro h k
  rcases Bool.or_eq_true _ _ ▸ h with h|h
  ·exact zL8 h k
  ·have:=of_decide_eq_true h;subst this;exact zFy _ k
 ·intro h
  by_cases e:x=y
  ·rw [decide_eq_true e,Bool.or_true]
  ·rw [zKE h (fun h'=>e h'.symm),Bool.true_or]
theorem zSu (x y:ByteArray):(!(sLt x y||decide (x=y)))=sLt y x:=by
 cases h:sLt y x with
 |true=>
  cases h2:(sLt x y||decide (x=y)) with
  |true=>exact absurd h (zQs.1 h2)
  |false=>rfl
 |false=>rw [zQs.2 (by rw [h];decide)];rfl
theorem Rd.lit {α:Type} {c:α→List Value} {n:Nat} (hc:∀ x,(c x).length=n) (xs:List α) (hl:xs.length≤140737488355328) (w:World) (t:TypeId):
  Rd c n (w.alloc (.cells (xs.flatMap c).toArray t)) ⟨some ⟨w.heap.size,0,none⟩,xs.length,xs.length⟩ xs:=by
 refine ⟨rfl,Nat.le_refl _,by show xs.length≤_;omega,hl,fun h=>by simp at h,fun i x hx=>⟨_,rfl,fun j v hj=>?_⟩⟩
 have hA:At (w.alloc (.cells (xs.flatMap c).toArray t)) ⟨w.heap.size,0,none⟩ (xs.flatMap c):=At.new w _ _
 rw [zK9]
 refine hA _ _ ?_
 rw [zOd hc xs i j x hx (by have:=(List.getElem?_eq_some_iff.1 hj).1;rw [hc] at this;exact this),hj]
section
variable {P:Program} {w:World} {C:World→Prop}
theorem zPJ {t:Nat} {v:Value} {cs:List Value} (hv:v.cells=cs.toArray) {k:Option Addr→World→Prop} (H:k (some ⟨w.heap.size,0,none⟩) (w.alloc (.cells cs.toArray t))):opE P Value.pointer (Instr.box t v) w k:=by
 refine ⟨_,w.alloc (.cells v.cells t),rfl,?_⟩
 rw [hv];exact H
theorem zGl {t:Nat} {v:Value} {cs:List Value} (hv:v.cells=cs.toArray) {k:Option Addr→World→Prop} (H:∀ b w',Bel w w'→Row w' b cs t→w.heap.size≤b→k (some ⟨b,0,none⟩) w'):opE P Value.pointer (Instr.box t v) w k:=
 zPJ hv (H _ _ (Bel.alloc _ _) (Row.new _ _ _) (Nat.le_refl _))
theorem zJb {t n:Nat} {z:List Value} (hz:∀ w,(Instr.alloc t true (.tuple #[])).run P w=.ok (.pointer (some ⟨w.heap.size,0,none⟩)) (w.alloc (.cells z.toArray t))) (hzn:z.length=n)
  (hA:Agg P t n) {cs:List Value} (hn:cs.length=n) (h1:cs.all (·.oneCell')=true) {v:Value} (hv:v=.agg cs.toArray) {k:Option Addr→World→Prop}
  (H:∀ b w',Bel w w'→Row w' b cs t→w.heap.size≤b→k (some ⟨b,0,none⟩) w'):
  opE P Value.pointer (Instr.alloc t true (.tuple #[])) w (fun p w=>opU P (Instr.storeAt t (.pointer p) v) w (k p)):=
 zTr hz hzn hA hn h1 hv (H _ _ (Bel.alloc _ _) (Row.new _ _ _) (Nat.le_refl _))
theorem zKA {t:Nat} {z:List Value} (hz:∀ w,(Instr.alloc t true (.tuple #[])).run P w=.ok (.pointer (some ⟨w.heap.size,0,none⟩)) (w.alloc (.cells z.toArray t))) {k:Option Addr→World→Prop}
  (H:∀ b w',Bel w w'→Row w' b z t→w.heap.size≤b→k (some ⟨b,0,none⟩) w'):opE P Value.pointer (Instr.alloc t true (.tuple #[])) w k:=
 zNE hz (H _ _ (Bel.alloc _ _) (Row.new _ _ _) (Nat.le_refl _))
theorem zMp {s f off:Nat} (hf:∀ p w,(Instr.fieldAt s (.pointer (some p)) f).run P w=.ok (.pointer (some (p.add off))) w) {p:Addr} {k:Option Addr→Prop} (H:k (some (p.add off))):
  opC C P Value.pointer (Instr.fieldAt s (.pointer (some p)) f) k:=⟨_,fun w _=>hf p w,H⟩
theorem zKB {τ:Type} {enc:τ→Value} {t:Nat} (hA:One P t) {ad:Addr} {k:τ→Prop} (x:τ) (h:∀ w,C w→w.cell? ad=some (enc x)) (H:k x):opC C P enc (Instr.loadAt t (.pointer (some ad))) k:=
 ⟨x,fun w hw=>zKN hA (h w hw),H⟩
theorem zSU {τ:Type} {enc:τ→Value} {t n:Nat} (hA:Agg P t n) {ad:Addr} {cs:List Value} {k:τ→Prop} (x:τ) (hx:enc x=.agg cs.toArray) (h:∀ w,C w→At w ad cs) (hn:cs.length=n) (H:k x):opC C P enc (Instr.loadAt t (.pointer (some ad))) k:=
 ⟨x,fun w hw=>by rw [hx];exact zK2 hA (h w hw) hn,H⟩
theorem At.fld {w:World} {p:Addr} {cs:List Value} (h:At w p cs) {j:Nat} {v:Value} (hj:cs[j]?=some v):w.cell? (p.add j)=some v:=h j v hj
theorem R.agg {τ:Type} {enc:τ→Value} {t n:Nat} (hA:Agg P t n) {ad:Addr} {cs:List Value} {k:τ→Prop} (x:τ) (hx:enc x=.agg cs.toArray) (h:At w ad cs) (hn:cs.length=n) (H:k x):opR P enc t (some ad) w k:=by
 refine ⟨x,_,rfl,?_,H⟩
 have:=zK2 hA h hn
 rw [hx]
 simpa [Instr.loadAt,Instr.sureAddr] using this
end
end Go.VB
set_option linter.unusedVariables false
set_option linter.unusedSimpArgs false
namespace Go.VB
open Go.RowKit
structure Out (S:Nat→Prop) (w w':World):Prop where
 os:w'.os=w.os
 tape:w'.tape=w.tape
 output:w'.output=w.output
 size:w.heap.size≤w'.heap.size
 block:∀ k,k<w.heap.size→¬ S k→w'.heap[k]?=w.heap[k]?
section
variable {S T:Nat→Prop} {w w' w'':World}
theorem Out.refl (S:Nat→Prop) (w:World):Out S w w:=⟨rfl,rfl,rfl,Nat.le_refl _,fun _ _ _=>rfl⟩
theorem Bel.out (h:Bel w w'):Out S w w':=⟨h.os,h.tape,h.output,h.size,fun k hk _=>h.block k hk⟩
theorem Out.row {row:Option Nat} (h:w.grownBy w' row) (hr:∀ k,row=some k→S k∨w.heap.size≤k):Out S w w':=
 ⟨h.os,h.tape,h.output,h.size,fun k hk hs=>h.block k hk fun e=>by
  rcases hr k e.symm with h1|h1
  ·exact hs h1
  ·omega⟩
theorem Out.trans (h:Out S w w') (k:Out T w' w'') (hT:∀ i,i<w.heap.size→T i→S i):Out S w w'':=
 ⟨k.os.trans h.os,k.tape.trans h.tape,k.output.trans h.output,Nat.le_trans h.size k.size,fun i hi hs=>(k.block i (Nat.lt_of_lt_of_le hi h.size) fun ht=>hs (hT i hi ht)).trans (h.block i hi hs)⟩
theorem Out.mono (h:Out S w w') (hT:∀ i,i<w.heap.size→S i→T i):Out T w w':=⟨h.os,h.tape,h.output,h.size,fun i hi hs=>h.block i hi fun h1=>hs (hT i hi h1)⟩
theorem Out.bel {w0:World} (hb:Bel w0 w) (h:Out S w w') (hS:∀ i,i<w0.heap.size→¬ S i):Bel w0 w':=
 ⟨h.os.trans hb.os,h.tape.trans hb.tape,h.output.trans hb.output,Nat.le_trans hb.size h.size,fun i hi=>(h.block i (Nat.lt_of_lt_of_le hi hb.size) (hS i hi)).trans (hb.block i hi)⟩
end
theorem Row.keep {w w':World} {b:Nat} {cs:List Value} {t:TypeId} (h:Row w b cs t) (hk:w'.heap[b]?=w.heap[b]?):Row w' b cs t:=hk.trans h
theorem MapIs.keep {κ ν:Type} {ek:κ→Value} {ev:ν→Value} {w w':World} {b:Nat} {f:κ→Option ν} (h:MapIs ek ev w b f) (hk:w'.heap[b]?=w.heap[b]?):MapIs ek ev w' b f:=
 let ⟨es,c,m⟩:=h;⟨es,c,hk.trans m.blk,m.sound,m.full,m.one⟩
theorem Rd.keep {α:Type} {c:α→List Value} {n:Nat} {w w':World} {s:Sl} {xs:List α} (h:Rd c n w s xs) (hk:∀ k,(Sl.v s).ownBlock=some k→w'.heap[k]?=w.heap[k]?):Rd c n w' s xs:=
 ⟨h.len,h.cap,h.capm,h.big,h.nilc,fun i x hx=>by
  obtain ⟨ad,e,ha⟩:=h.cells i x hx
  refine ⟨ad,e,fun j v hj=>?_⟩
  have h1:=ha j v hj
  rw [← h1]
  refine World.cell?_of_block ?_
  have hb:((ad.add (i*n)).add j).block=ad.block:=by unfold Addr.add;(repeat' split)<;>rfl
  rw [hb]
  exact hk ad.block (by simp [Sl.v,e,Value.ownBlock])⟩
theorem OwnS.keep {α:Type} {c:α→List Value} {n e base:Nat} {w w':World} {s:Sl} {xs:List α} (h:OwnS c n e base w s xs) (hk:∀ k,(Sl.v s).ownBlock=some k→w'.heap[k]?=w.heap[k]?):OwnS c n e base w' s xs:=by
 refine ⟨h.len,h.small,h.row.1,?_⟩
 rcases h.row.2 with h1|⟨g,cap,cur,h1,h2,h3,h4⟩
 ·exact .inl h1
 ·exact .inr ⟨g,cap,cur,h1,h2,(hk g (by rw [h1];rfl)).trans h3,h4⟩
theorem OwnS.lt {α:Type} {c:α→List Value} {n e base:Nat} {w:World} {s:Sl} {xs:List α} (h:OwnS c n e base w s xs) {k:Nat} (hk:(Sl.v s).ownBlock=some k):k<w.heap.size:=(h.row.lt k hk).2
section
variable {P:Program} {w0 w:World} {α:Type} {c:α→List Value} {n e t bytes base:Nat}
theorem zRD {s:Sl} {xs:List α} {x:α} (hO:OwnS c n e base w s xs) (hc:∀ x,(c x).length=n) (h1:∀ x,(c x).all (·.oneCell')=true) (hn:0<n)
  (hu:P.underlying t=some (.slice e)) {z:Value} (hi:(P.info? e).map (fun i=>(i.zero,i.size,i.bytes))=some (some z,n,bytes))
  (room:(xs.length+1)*bytes≤140737488355328) (hby:0<bytes) {ad:Addr} (hA:At w ad (c x)) {ty:TypeId} {v':Value} {w':World}
  (hr:(Builtin.append_ #[t,t] ty [Sl.v s,.slice (some ad) 1 1].toArray).run P w=.ok v' w'):v'.ownBlock=(Sl.v s).ownBlock∨v'.ownBlock=some w.heap.size:=by
 obtain ⟨i0,hi0,hi1⟩:=Option.map_eq_some_iff.1 hi
 simp only [Prod.mk.injEq] at hi1
 obtain ⟨hz0,hz1,hz2⟩:=hi1
 have hroom:xs.length+1≤140737488355328:=Nat.le_trans (Nat.le_mul_of_pos_right _ hby) room
 have hsl:=hO.len
 have hl:(c x).length=1*i0.size:=by rw [hc,hz1];omega
 have hall:∀ u∈c x,u.oneCell'=true:=fun u hu=>by have:=h1 x;rw [List.all_eq_true] at this;exact this u hu
 rcases hO.row.2 with ⟨h2,h3⟩|⟨g,cap,cur,h2,h3,h4,h5,h6,h7,h8⟩
 ·have h9:=run_append_nil (P:=P) w t ty e i0 z hu hi0 hz0 ad 1 1 (c x) hl hA (by omega) (by omega) (by rw [hz2];have:1*bytes≤(xs.length+1)*bytes:=Nat.mul_le_mul_right _ (by omega);omega)
  rw [h2] at hr
  have:=h9.symm.trans hr
  injection this with h10 h11
  rw [← h10];exact .inr rfl
 ·rw [h2] at hr
  have hxs:(xs.flatMap c).length=s.len*i0.size:=by rw [zLo hc,hsl,hz1]
  by_cases hroom2:s.len+1≤cap
  ·have h9:=run_append_room (P:=P) w t ty e i0 hu hi0 g s.len cap cur h4 ad 1 1 (c x) hl hA hall hroom2 (by rw [hl,← Nat.add_mul,h7,hz1];exact Nat.mul_le_mul_right _ hroom2)
   have:=h9.symm.trans hr
   injection this with h10 h11
   rw [← h10,h2];exact .inl rfl
  ·have holds:∀ j u,(xs.flatMap c)[j]?=some u→w.cell? ((⟨g,0,none⟩:Addr).add j)=some u:=hO.row.cells (g:=g) (by rw [h2];rfl)
   have h9:=run_append_grow (P:=P) w t ty e i0 z hu hi0 hz0 ⟨g,0,none⟩ s.len cap (xs.flatMap c) hxs holds ad 1 1 (c x) hl hA (by omega) (by omega) (growslice_fits (by omega) (by rw [hz2,← hsl];exact room))
   have:=h9.symm.trans hr
   injection this with h10 h11
   rw [← h10];exact .inr rfl
theorem zQ0 {s:Sl} {xs:List α} {x:α} {vx:Value} (hO:OwnS c n e base w s xs) (hc:∀ x,(c x).length=n) (h1:∀ x,(c x).all (·.oneCell')=true) (hn:0<n)
  (hu:P.underlying t=some (.slice e)) {z:Value} (hi:(P.info? e).map (fun i=>(i.zero,i.size,i.bytes))=some (some z,n,bytes)) (hz:z.cells.size=n) (hby:0<bytes)
  (hbs:∀ w,(Instr.buildSlice t 1 [(0,vx)].toArray).run P w=.ok (Sl.v ⟨some ⟨w.heap.size,0,none⟩,1,1⟩) (w.alloc (.cells (c x).toArray e)))
  (hbw:base≤w.heap.size) (room:(xs.length+1)*bytes≤140737488355328) {k:Sl→World→Prop} {ty:TypeId}
  (H:∀ s' w',OwnS c n e base w' s' (xs++[x])→w.grownBy w' (Sl.v s).ownBlock→(∀ q,(Sl.v s').ownBlock=some q→(Sl.v s).ownBlock=some q∨w.heap.size≤q)→k s' w'):
  opE P Sl.v (Instr.buildSlice t 1 [(0,vx)].toArray) w (fun y w=>opE P Sl.v (Builtin.append_ #[t,t] ty [Sl.v s,Sl.v y].toArray) w k):=by
 refine ⟨_,_,hbs w,?_⟩
 have hA:At (w.alloc (.cells (c x).toArray e)) ⟨w.heap.size,0,none⟩ (c x):=At.new w (c x) e
 have key:opE P Sl.v (Builtin.append_ #[t,t] ty [Sl.v s,Sl.v ⟨some ⟨w.heap.size,0,none⟩,1,1⟩].toArray) (w.alloc (.cells (c x).toArray e)) (fun s' w'=>OwnS c n e base w' s' (xs++[x])∧(w.alloc (.cells (c x).toArray e)).grownBy w' (Sl.v s).ownBlock):=
  zTN (w0:={w with heap:=#[]}) (ys:=[x]) (hO.bel (Bel.alloc _ _)) ⟨rfl,by simp,by simp,by simp,fun h=>by simp at h,fun i y hy=>by
   cases i with
   |zero=>
    simp at hy;subst hy
    exact ⟨_,rfl,by rw [Nat.zero_mul];simpa [Addr.add] using hA⟩
   |succ i=>simp at hy⟩ hc h1 hn hu hi hz hby ⟨rfl,rfl,rfl,Nat.zero_le _,fun k hk=>absurd hk (by simp)⟩ (by simp) (by rw [size_alloc'];omega) (by simpa using room) fun s' w' h1 h2 h3=>⟨h1,h3⟩
 obtain ⟨s',w',hrun,h2,h3⟩:=key
 refine ⟨s',w',hrun,H s' w' h2 (zAK (World.grownBy_alloc w _ _) h3) fun q hq=>?_⟩
 rcases zRD (x:=x) (hO.bel (Bel.alloc w (.cells (c x).toArray e))) hc h1 hn hu hi room hby hA hrun with h4|h4
 ·exact .inl (h4.symm.trans hq)
 ·rw [hq] at h4
  injection h4 with h4
  rw [size_alloc'] at h4
  exact .inr (by omega)
end
section
variable {P:Program} {w:World}
theorem zTo {t n:Nat} (hA:Agg P t n) {b off:Nat} {cs vs:List Value} {e:TypeId} (h:Row w b cs e) (hn:vs.length=n) (hl:off+vs.length≤cs.length) (h1:vs.all (·.oneCell')=true) {k:World→Prop}
  (H:∀ w',Row w' b (cs.take off++vs++cs.drop (off+vs.length)) e→w.grownBy w' (some b)→k w'):opU P (Instr.storeAt t (.pointer (some ((⟨b,0,none⟩:Addr).add off))) (.agg vs.toArray)) w k:=by
 refine ⟨w.setRow b (cs.take off++vs++cs.drop (off+vs.length)).toArray,?_,H _ (zKW h) (zJ3 w b _)⟩
 have:=zJU hA.size (off:=off) (v:=.agg vs.toArray) (vs:=vs) h (by simp [Value.cells]) hn hl h1
 rw [add_plain']
 simpa [Instr.storeAt,Instr.sureAddr] using this
end
section
variable {κ ν:Type} {ek:κ→Value} {ev:ν→Value} {P:Program} {kt et mt:TypeId} {w:World} {b:Nat} {f:κ→Option ν}
def Doms (f:κ→Option ν) (ks:List κ):Prop:=ks.Nodup∧∀ k,k∈ks↔∃ v,f k=some v
theorem zRr {es:Array MapEntry} (hinj:∀ x y,ek x=ek y→x=y):∀ l:List MapEntry,(∀ e∈l,∃ y,e.key=ek y)→l.Pairwise (fun a b=>a.key≠b.key)→∃ ks:List κ,ks.length=l.length∧ks.Nodup∧∀ k,k∈ks↔∃ e∈l,e.key=ek k
 |[],_,_=>⟨[],rfl,List.nodup_nil,by simp⟩
 |e::l,h,hp=>by
  obtain ⟨y,hy⟩:=h e (by simp)
  obtain ⟨hp1,hp2⟩:=List.pairwise_cons.1 hp
  obtain ⟨ks,h1,h2,h3⟩:=zRr (es:=es) hinj l (fun e' he=>h e' (by simp [he])) hp2
  refine ⟨y::ks,by simp [h1],List.nodup_cons.2 ⟨fun hm=>?_,h2⟩,fun k=>?_⟩
  ·obtain ⟨e',he,hk⟩:=(h3 y).1 hm
   exact hp1 e' he (by rw [hy,hk])
  ·rw [List.mem_cons,h3]
   constructor
   ·rintro (rfl|⟨e',he,hk⟩)
    ·exact ⟨e,by simp,hy⟩
    ·exact ⟨e',by simp [he],hk⟩
   ·rintro ⟨e',he,hk⟩
    rcases List.mem_cons.1 he with rfl|he
    ·exact .inl (hinj _ _ (hk.symm.trans hy))
    ·exact .inr ⟨e',he,hk⟩
theorem MapAt.doms {es:Array MapEntry} {c:Nat} (m:MapAt ek ev w b f es c) (hinj:∀ x y,ek x=ek y→x=y):∃ ks,Doms f ks∧ks.length=es.size:=by
 have hp:es.toList.Pairwise (fun a b=>a.key≠b.key):=by
  rw [List.pairwise_iff_getElem]
  intro i j hi hj hij hk
  have:=m.one i j es.toList[i] es.toList[j] (by simp at hi;simp [hi]) (by simp at hj;simp [hj]) (.inl hk)
  omega
 obtain ⟨ks,h1,h2,h3⟩:=zRr (es:=es) hinj es.toList m.keys hp
 refine ⟨ks,⟨h2,fun k=>?_⟩,by simpa using h1⟩
 rw [h3]
 constructor
 ·rintro ⟨e,he,hk⟩
  obtain ⟨i,hi⟩:=List.getElem?_of_mem he
  obtain ⟨k',v,h4,_,h5,_⟩:=m.sound i e (by simpa using hi)
  have:k'=k:=hinj _ _ (h4.symm.trans hk)
  subst this;exact ⟨v,h5⟩
 ·rintro ⟨v,hv⟩
  obtain ⟨i,e,h4,h5,_⟩:=m.full k v hv
  exact ⟨e,List.mem_of_getElem? (i:=i) (by simpa using h4),h5⟩
theorem zRO (h:MapIs ek ev w b f) (hinj:∀ x y,ek x=ek y→x=y) (hm:P.underlying mt=some (.map kt et)) {ty:TypeId} {k:Int→World→Prop} (H:∀ ks,Doms f ks→k (ks.length:Int) w):
  opE P (Value.int .i64) (Builtin.len_ #[mt] ty [.map (some b)].toArray) w k:=by
 obtain ⟨es,c,m⟩:=h
 obtain ⟨ks,h1,h2⟩:=m.doms hinj
 refine ⟨(ks.length:Int),w,?_,H ks h1⟩
 simp [Builtin.len_,run_underlying hm,MapKept.run_getObj_map m.blk,Result.andThen,h2,goInt]
open Classical in
noncomputable def del (f:κ→Option ν) (x:κ):κ→Option ν:=fun y=>if y=x then none else f y
theorem zKf (f:κ→Option ν) (x:κ):del f x x=none:=by simp [del]
theorem zG4 (f:κ→Option ν) {x y:κ} (h:y≠x):del f x y=f y:=by simp [del,h]
theorem MapAt.erase {es:Array MapEntry} {c:Nat} (m:MapAt ek ev w b f es c) {x:κ} (hinj:∀ x y,ek x=ek y→x=y) {i:Nat} {e:MapEntry} (hi:es[i]?=some e) (hx:e.key=ek x) {w':World}
  (hw:w'.heap[b]?=some (.map (es.eraseIdxIfInBounds i) c)):MapAt ek ev w' b (del f x) (es.eraseIdxIfInBounds i) c:=by
 have hlt:i<es.size:=(Array.getElem?_eq_some_iff.1 hi).1
 have he0:es.eraseIdxIfInBounds i=es.eraseIdx i hlt:=by simp [Array.eraseIdxIfInBounds,hlt]
 have get:∀ j,(es.eraseIdxIfInBounds i)[j]?=if j<i then es[j]? else es[j+1]?:=fun j=>by
  rw [he0,Array.getElem?_eraseIdx]
 have back:∀ j e',(es.eraseIdxIfInBounds i)[j]?=some e'→∃ j',j'≠i∧es[j']?=some e'∧(j'=if j<i then j else j+1):=fun j e' h=>by
  rw [get] at h
  by_cases hj:j<i
  ·rw [if_pos hj] at h;exact ⟨j,by omega,h,by rw [if_pos hj]⟩
  ·rw [if_neg hj] at h;exact ⟨j+1,by omega,h,by rw [if_neg hj]⟩
 refine ⟨hw,fun j e' h=>?_,fun k u hk=>?_,fun j l e1 e2 h1 h2 hor=>?_⟩
 ·obtain ⟨j',hj,h',_⟩:=back j e' h
  obtain ⟨k,u,h1,h2,h3,h4⟩:=m.sound j' e' h'
  have hk:k≠x:=fun e1=>hj (m.one j' i e' e h' hi (.inl (by rw [h1,hx,e1])))
  exact ⟨k,u,h1,h2,by rw [zG4 f hk];exact h3,h4⟩
 ·have hkx:k≠x:=fun e1=>by subst e1;rw [zKf] at hk;cases hk
  rw [zG4 f hkx] at hk
  obtain ⟨j,e',h1,h2,h3⟩:=m.full k u hk
  have hj:j≠i:=fun e1=>by subst e1;rw [hi] at h1;cases h1;exact hkx (hinj _ _ (h2.symm.trans hx))
  by_cases hji:j<i
  ·exact ⟨j,e',by rw [get,if_pos hji];exact h1,h2,h3⟩
  ·exact ⟨j - 1,e',by rw [get,if_neg (by omega),show j - 1+1=j from by omega];exact h1,h2,h3⟩
 ·obtain ⟨j',hj,h3,h4⟩:=back j e1 h1
  obtain ⟨l',hl,h5,h6⟩:=back l e2 h2
  have:=m.one j' l' e1 e2 h3 h5 hor
  split at h4<;>split at h6<;>omega
theorem zUJ (h:MapIs ek ev w b f) (K:KeyOk P kt ek) (hm:P.underlying mt=some (.map kt et)) (x:κ) {ty t2:TypeId} {k:Unit→World→Prop} (H:∀ w',MapIs ek ev w' b (del f x)→w.grownBy w' (some b)→k () w'):
  opE P (fun _:Unit=>.tuple #[]) (Builtin.delete_ #[mt,t2] ty [.map (some b),ek x].toArray) w k:=by
 obtain ⟨es,c,m⟩:=h
 rcases K.find x es.toList w m.keys with ⟨h1,h2⟩|⟨i,e,h1,h2,h3⟩
 ·refine ⟨(),setB w b (.map es c),?_,H _ ⟨es,c,zJy m.blk,fun i e he=>?_,fun y v hy=>?_,m.one⟩ zJM⟩
  ·simp [Builtin.delete_,run_underlying hm,MapKept.run_getObj_map m.blk,K.chk,h1,MapKept.run_setObj_map _ m.blk,Result.andThen,setB]
  ·obtain ⟨y,v,h4,h5,h6,h7⟩:=m.sound i e he
   have hy:y≠x:=fun e1=>h2 e (List.mem_of_getElem? (i:=i) (by simpa using he)) (by rw [h4,e1])
   exact ⟨y,v,h4,h5,by rw [zG4 f hy];exact h6,h7⟩
  ·have hyx:y≠x:=fun e1=>by subst e1;rw [zKf] at hy;cases hy
   rw [zG4 f hyx] at hy
   exact m.full y v hy
 ·have hi:es[i]?=some e:=by simpa using h2
  refine ⟨(),setB w b (.map (es.eraseIdxIfInBounds i) c),?_,H _ ⟨_,_,m.erase K.inj hi h3 (zJy m.blk)⟩ zJM⟩
  simp [Builtin.delete_,run_underlying hm,MapKept.run_getObj_map m.blk,K.chk,h1,MapKept.run_setObj_map _ m.blk,Result.andThen,setB]
end
end Go.VB
set_option linter.unusedVariables false
set_option linter.unusedSimpArgs false
namespace Go.Proofs.YtealcoghiaeiiaaGreat.VG
open Go.VB Go.Proofs
def zJA (x0:Option Addr) (w:World) (Ret:Int→Int→World→Prop):Prop:=
 opE Tryz.prog Value.bool (do eqGuard .eql 26 (.tmp 5) (.const (.pointer none)) (.pointer x0) (.pointer none);binOp .eql 26 (.pointer x0) (.pointer none)) w (fun x6 w=>(x6=true→(Ret 0 1 w))∧(x6=false→(nilOk (.pointer x0)∧(opE Tryz.prog Value.pointer (Instr.fieldAt 87 (.pointer x0) 3) w (fun x10 w=>opE Tryz.prog Value.map (Instr.loadAt 85 (.pointer x10)) w (fun x11 w=>opE Tryz.prog (Value.int .i64) (Builtin.len_ #[85] 3 [(.map x11)].toArray) w (fun x12 w=>((16≤x12)→(Ret 0 3 w))∧(¬ (16≤x12)→(nilOk (.pointer x0)∧(opE Tryz.prog Value.pointer (Instr.fieldAt 87 (.pointer x0) 2) w (fun x16 w=>opE Tryz.prog (Value.int .i64) (Instr.loadAt 3 (.pointer x16)) w (fun x17 w=>nilOk (.pointer x0)∧(opE Tryz.prog Value.pointer (Instr.fieldAt 87 (.pointer x0) 2) w (fun x20 w=>opU Tryz.prog (Instr.storeAt 3 (.pointer x20) (.int .i64 (IntKind.wrap .i64 (x17+1)))) w (fun w=>regC w (fun C1 w=>nilOk (.pointer x0)∧(opC C1 Tryz.prog Value.pointer (Instr.fieldAt 87 (.pointer x0) 3) (fun x23=>nilOk (.pointer x0)∧(opC C1 Tryz.prog Value.pointer (Instr.fieldAt 87 (.pointer x0) 2) (fun x27=>nilOk (.pointer x0)∧(opC C1 Tryz.prog Value.pointer (Instr.fieldAt 87 (.pointer x0) 1) (fun x31=>opC C1 Tryz.prog Value.map (Instr.loadAt 85 (.pointer x23)) (fun x24=>opC C1 Tryz.prog (Value.int .i64) (Instr.loadAt 3 (.pointer x27)) (fun x28=>opC C1 Tryz.prog (Value.int .u64) (Instr.loadAt 37 (.pointer x31)) (fun x32=>opE Tryz.prog Value.map (Instr.makeMap 89 none) w (fun x33 w=>C1 w∧(opC C1 Tryz.prog zLB.v (Instr.build 92 [(0,(.int .u64 x32)),(2,(.map x33))].toArray) (fun x34=>opE Tryz.prog Value.pointer (Instr.box 92 (zLB.v x34)) w (fun x35 w=>C1 w∧(opU Tryz.prog (Instr.mapUpdate 85 (.map x24) (.int .i64 x28) (.pointer x35)) w (fun w=>C1 w∧(nilOk (.pointer x0)∧(opE Tryz.prog Value.pointer (Instr.fieldAt 87 (.pointer x0) 2) w (fun x38 w=>opE Tryz.prog (Value.int .i64) (Instr.loadAt 3 (.pointer x38)) w (fun x39 w=>Ret x39 0 w)))))))))))))))))))))))))))))))))))
set_option maxRecDepth 100000 in
theorem zLq (x0:Option Addr) (w:World) (Ret:Int→Int→World→Prop) (H:zJA x0 w Ret):Cl Tryz.prog 12 [(.pointer x0)].toArray w (fun e w'=>∃ (r0:Int) (r1:Int),e=.returned (.tuple [(.int .i64 r0),(.int .i64 r1)].toArray)∧Ret r0 r1 w'):=by
 unfold zJA at H
 refine zAY 40 (zipE 0 [(.pointer x0)]) Tryz.func12 rfl rfl (by rfl) rfl ?_
 intro a g
 replace g:Sat [] 40 [(0,(.pointer x0))] a:=g
 refine zAF (zAA (g.as_ rfl fun _ g=>(g.as_ rfl fun _ g=>(zAG (tn (zAF (zAN (zAF (zAA (g.mv rfl fun _ g=>(g.op (zJ4 g rfl rfl) H fun x6 w a H g=>(g.as_ rfl fun _ g=>(zAG (tn (zAV g rfl (fun hc=>?_) (fun hc=>?_))))))))))))))))
 ·replace H:=H.1 hc
  exact zAF (zAA (g.as_ rfl fun _ g=>(g.as_ rfl fun _ g=>(zAG (tn (zAf (br (tr (zFz g rfl rfl rfl ⟨_,_,rfl,H⟩)))))))))
 ·replace H:=H.2 hc
  refine zAF (zAA (g.mv rfl fun _ g=>(g.pur (zAS g rfl H.1) fun _ g=>?_)))
  replace H:=H.2
  refine g.op (zAJ g rfl) H fun x10 w a H g=>g.op (zAI g rfl) H fun x11 w a H g=>g.op (zQt g rfl) H fun x12 w a H g=>g.pur (zF7 g rfl rfl) fun _ g=>g.as_ rfl fun _ g=>zAG (tn (zAR g rfl (fun hc=>?_) (fun hc=>?_)))
  ·replace H:=H.1 hc
   exact zAF (zAA (g.as_ rfl fun _ g=>(g.as_ rfl fun _ g=>(zAG (tn (zAf (br (tr (zFz g rfl rfl rfl ⟨_,_,rfl,H⟩)))))))))
  ·replace H:=H.2 hc
   refine zAP (bn (tn (zAF (zAA (g.mv rfl fun _ g=>(g.pur (zAS g rfl H.1) fun _ g=>?_))))))
   replace H:=H.2
   refine g.op (zAJ g rfl) H fun x16 w a H g=>g.op (zAI g rfl) H fun x17 w a H g=>g.pur (zAn g rfl rfl) fun _ g=>g.pur (zAS g rfl H.1) fun _ g=>?_
   replace H:=H.2
   refine g.op (zAJ g rfl) H fun x20 w a H g=>g.opu (zAM g rfl rfl) H fun w a H g=>zAG (tn (zAF (zTg H 16 fun C1 w hC0 H=>(g.kp 0 rfl hC0 (zEL (zAL g rfl)) fun _ g=>(g.kp 1 rfl hC0 (zEL (zAS g rfl H.1)) fun _ g=>?_)))))
   replace H:=H.2
   refine g.ko 2 rfl hC0 (zAJ g rfl) H fun x23 a H g=>g.kp 4 rfl hC0 (zEL (zAL g rfl)) fun _ g=>g.kp 5 rfl hC0 (zEL (zAS g rfl H.1)) fun _ g=>?_
   replace H:=H.2
   refine g.ko 6 rfl hC0 (zAJ g rfl) H fun x27 a H g=>g.kp 8 rfl hC0 (zEL (zAL g rfl)) fun _ g=>g.kp 9 rfl hC0 (zEL (zAS g rfl H.1)) fun _ g=>?_
   replace H:=H.2
   refine g.ko 10 rfl hC0 (zAJ g rfl) H fun x31 a H g=>g.ko 3 rfl hC0 (zAI g rfl) H fun x24 a H g=>g.ko 7 rfl hC0 (zAI g rfl) H fun x28 a H g=>g.ko 11 rfl hC0 (zAI g rfl) H fun x32 a H g=>WK.on 12 rfl ?_
   intro K hK
   refine g.wop (zNY) H fun x33 w a H g=>hK _ _ ⟨H.1,?_⟩
   have hC1:=H.1
   replace H:=H.2
   refine g.ko 13 rfl hC1 (zGM g rfl) H fun x34 a H g=>WK.on 14 rfl ?_
   intro K hK
   refine g.wop (zIm g rfl) H fun x35 w a H g=>hK _ _ ⟨H.1,?_⟩
   have hC2:=H.1
   replace H:=H.2
   refine WK.on 15 rfl ?_
   intro K hK
   refine g.wopu (zMD g rfl rfl rfl) H fun w a H g=>hK _ _ ⟨H.1,?_⟩
   have hC3:=H.1
   replace H:=H.2
   refine WK.nil (by kernel_rfl) ((tn (zAF (zAA (g.mv rfl fun _ g=>(g.pur (zAS g rfl H.1) fun _ g=>?_))))))
   replace H:=H.2
   exact g.op (zAJ g rfl) H fun x38 w a H g=>g.op (zAI g rfl) H fun x39 w a H g=>g.as_ rfl fun _ g=>g.as_ rfl fun _ g=>zAG (tn (zAf (zFz g rfl rfl rfl ⟨_,_,rfl,H⟩)))
def zIe (x0:Option Addr) (x1:Int) (x2:ByteArray) (w:World) (Ret:Int→World→Prop):Prop:=
 opE Tryz.prog zAD.v (Instr.build 34 [(0,(.string x2)),(2,(.bool true))].toArray) w (fun x10 w=>Cl Tryz.prog 35 [(.pointer x0),(.int .i64 x1),(zAD.v x10)].toArray w (fun e w=>∃ (r:Int),e=.returned (.int .i64 r)∧(Ret r w)))
set_option maxRecDepth 100000 in
theorem zLk (x0:Option Addr) (x1:Int) (x2:ByteArray) (w:World) (Ret:Int→World→Prop) (H:zIe x0 x1 x2 w Ret):Cl Tryz.prog 13 [(.pointer x0),(.int .i64 x1),(.string x2)].toArray w (fun e w'=>∃ (r0:Int),e=.returned (.int .i64 r0)∧Ret r0 w'):=by
 unfold zIe at H
 refine zAY 12 (zipE 0 [(.pointer x0),(.int .i64 x1),(.string x2)]) Tryz.func13 rfl rfl (by rfl) rfl ?_
 intro a g
 replace g:Sat [] 12 [(0,(.pointer x0)),(1,(.int .i64 x1)),(2,(.string x2))] a:=g
 refine zAF (zAA (g.as_ rfl fun _ g=>(zAG (tn (zAF (zAA (g.mv rfl fun _ g=>(g.mv rfl fun _ g=>(g.mv rfl fun _ g=>(g.op (zGM g rfl) H fun x10 w a H g=>(g.call (zAQ g ent35 rfl rfl) H fun e w H=>?_)))))))))))
 obtain ⟨r,rfl,H⟩:=H
 exact ⟨_,rfl,fun _ g=>(g.as_ rfl fun _ g=>(zAG (tn (zAf (zAt g rfl rfl ⟨_,rfl,H⟩)))))⟩
def zJr (x0:Option Addr) (x1:Int) (x2:ByteArray) (x3:ByteArray) (w:World) (Ret:Int→World→Prop):Prop:=
 opE Tryz.prog zAD.v (Instr.build 34 [(0,(.string x2)),(1,(.string x3))].toArray) w (fun x13 w=>Cl Tryz.prog 35 [(.pointer x0),(.int .i64 x1),(zAD.v x13)].toArray w (fun e w=>∃ (r:Int),e=.returned (.int .i64 r)∧(Ret r w)))
set_option maxRecDepth 100000 in
theorem zMc (x0:Option Addr) (x1:Int) (x2:ByteArray) (x3:ByteArray) (w:World) (Ret:Int→World→Prop) (H:zJr x0 x1 x2 x3 w Ret):Cl Tryz.prog 14 [(.pointer x0),(.int .i64 x1),(.string x2),(.string x3)].toArray w (fun e w'=>∃ (r0:Int),e=.returned (.int .i64 r0)∧Ret r0 w'):=by
 unfold zJr at H
 refine zAY 15 (zipE 0 [(.pointer x0),(.int .i64 x1),(.string x2),(.string x3)]) Tryz.func14 rfl rfl (by rfl) rfl ?_
 intro a g
 replace g:Sat [] 15 [(0,(.pointer x0)),(1,(.int .i64 x1)),(2,(.string x2)),(3,(.string x3))] a:=g
 refine zAF (zAA (g.as_ rfl fun _ g=>(zAG (tn (zAF (zAA (g.mv rfl fun _ g=>(g.mv rfl fun _ g=>(g.mv rfl fun _ g=>(g.mv rfl fun _ g=>(g.op (zGM g rfl) H fun x13 w a H g=>(g.call (zAQ g ent35 rfl rfl) H fun e w H=>?_))))))))))))
 obtain ⟨r,rfl,H⟩:=H
 exact ⟨_,rfl,fun _ g=>(g.as_ rfl fun _ g=>(zAG (tn (zAf (zAt g rfl rfl ⟨_,rfl,H⟩)))))⟩
def zBq (Ret:zAq→World→Prop) (x4:Option Addr) (x5:Option Addr) (w:World):Prop:=
 opE Tryz.prog zAq.v (Instr.loadAt 51 (.pointer x5)) w (fun x104 w=>opU Tryz.prog (Instr.storeAt 51 (.pointer x4) (zAq.v x104)) w (fun w=>opR Tryz.prog zAq.v 51 x4 w (fun q=>Ret q w)))
def zJ9 (x0:Option Addr) (x1:zAr) (w:World) (Ret:zAq→World→Prop):Prop:=
 opE Tryz.prog Value.pointer (Instr.box 49 (zAr.v x1)) w (fun x3 w=>opE Tryz.prog Value.pointer (Instr.alloc 51 true (.tuple #[])) w (fun x4 w=>opE Tryz.prog zAq.v (Instr.build 51 [(0,(.int .i64 15))].toArray) w (fun x6 w=>opE Tryz.prog Value.pointer (Instr.alloc 51 true (.tuple #[])) w (fun x5 w=>opU Tryz.prog (Instr.storeAt 51 (.pointer x5) (zAq.v x6)) w (fun w=>opE Tryz.prog Value.bool (do eqGuard .eql 26 (.tmp 8) (.const (.pointer none)) (.pointer x0) (.pointer none);binOp .eql 26 (.pointer x0) (.pointer none)) w (fun x9 w=>(x9=true→(opE Tryz.prog Value.pointer (Instr.fieldAt 51 (.pointer x5) 0) w (fun x10 w=>opU Tryz.prog (Instr.storeAt 27 (.pointer x10) (.int .i64 1)) w (fun w=>zBq Ret x4 x5 w))))∧(x9=false→(opE Tryz.prog Value.pointer (Instr.fieldAt 49 (.pointer x3) 0) w (fun x12 w=>opE Tryz.prog (Value.int .u8) (Instr.loadAt 47 (.pointer x12)) w (fun x13 w=>((x13=1)→(Cl Tryz.prog 12 [(.pointer x0)].toArray w (fun e w=>∃ (r:Int) (r_1:Int),e=.returned (.tuple [(.int .i64 r),(.int .i64 r_1)].toArray)∧(opE Tryz.prog Value.pointer (Instr.fieldAt 51 (.pointer x5) 1) w (fun x20 w=>opU Tryz.prog (Instr.storeAt 3 (.pointer x20) (.int .i64 r)) w (fun w=>opE Tryz.prog Value.pointer (Instr.fieldAt 51 (.pointer x5) 0) w (fun x21 w=>opU Tryz.prog (Instr.storeAt 27 (.pointer x21) (.int .i64 r_1)) w (fun w=>zBq Ret x4 x5 w))))))))∧(¬ (x13=1)→(opE Tryz.prog Value.pointer (Instr.fieldAt 49 (.pointer x3) 0) w (fun x23 w=>opE Tryz.prog (Value.int .u8) (Instr.loadAt 47 (.pointer x23)) w (fun x24 w=>((x24=2)→(opE Tryz.prog Value.pointer (Instr.fieldAt 49 (.pointer x3) 1) w (fun x28 w=>opE Tryz.prog (Value.int .i64) (Instr.loadAt 3 (.pointer x28)) w (fun x29 w=>opE Tryz.prog Value.pointer (Instr.fieldAt 49 (.pointer x3) 2) w (fun x30 w=>opE Tryz.prog Value.string (Instr.loadAt 9 (.pointer x30)) w (fun x31 w=>Cl Tryz.prog 22 [(.pointer x0),(.int .i64 x29),(.string x31)].toArray w (fun e w=>∃ (r_2:ByteArray) (r_3:Bool) (r_4:Int),e=.returned (.tuple [(.string r_2),(.bool r_3),(.int .i64 r_4)].toArray)∧(opE Tryz.prog Value.pointer (Instr.fieldAt 51 (.pointer x5) 2) w (fun x36 w=>opU Tryz.prog (Instr.storeAt 9 (.pointer x36) (.string r_2)) w (fun w=>opE Tryz.prog Value.pointer (Instr.fieldAt 51 (.pointer x5) 3) w (fun x37 w=>opU Tryz.prog (Instr.storeAt 4 (.pointer x37) (.bool r_3)) w (fun w=>opE Tryz.prog Value.pointer (Instr.fieldAt 51 (.pointer x5) 0) w (fun x38 w=>opU Tryz.prog (Instr.storeAt 27 (.pointer x38) (.int .i64 r_4)) w (fun w=>zBq Ret x4 x5 w))))))))))))))∧(¬ (x24=2)→(opE Tryz.prog Value.pointer (Instr.fieldAt 49 (.pointer x3) 0) w (fun x40 w=>opE Tryz.prog (Value.int .u8) (Instr.loadAt 47 (.pointer x40)) w (fun x41 w=>((x41=3)→(opE Tryz.prog Value.pointer (Instr.fieldAt 49 (.pointer x3) 1) w (fun x45 w=>opE Tryz.prog (Value.int .i64) (Instr.loadAt 3 (.pointer x45)) w (fun x46 w=>opE Tryz.prog Value.pointer (Instr.fieldAt 49 (.pointer x3) 2) w (fun x47 w=>opE Tryz.prog Value.string (Instr.loadAt 9 (.pointer x47)) w (fun x48 w=>opE Tryz.prog Value.pointer (Instr.fieldAt 49 (.pointer x3) 3) w (fun x49 w=>opE Tryz.prog Value.string (Instr.loadAt 9 (.pointer x49)) w (fun x50 w=>Cl Tryz.prog 17 [(.pointer x0),(.int .i64 x46),(.string x48),(.string x50)].toArray w (fun e w=>∃ (r_5:Sl) (r_6:Int),e=.returned (.tuple [(Sl.v r_5),(.int .i64 r_6)].toArray)∧(opE Tryz.prog Value.pointer (Instr.fieldAt 51 (.pointer x5) 4) w (fun x54 w=>opU Tryz.prog (Instr.storeAt 22 (.pointer x54) (Sl.v r_5)) w (fun w=>opE Tryz.prog Value.pointer (Instr.fieldAt 51 (.pointer x5) 0) w (fun x55 w=>opU Tryz.prog (Instr.storeAt 27 (.pointer x55) (.int .i64 r_6)) w (fun w=>zBq Ret x4 x5 w))))))))))))))∧(¬ (x41=3)→(opE Tryz.prog Value.pointer (Instr.fieldAt 49 (.pointer x3) 0) w (fun x57 w=>opE Tryz.prog (Value.int .u8) (Instr.loadAt 47 (.pointer x57)) w (fun x58 w=>((x58=4)→(opE Tryz.prog Value.pointer (Instr.fieldAt 49 (.pointer x3) 1) w (fun x61 w=>opE Tryz.prog (Value.int .i64) (Instr.loadAt 3 (.pointer x61)) w (fun x62 w=>opE Tryz.prog Value.pointer (Instr.fieldAt 49 (.pointer x3) 2) w (fun x63 w=>opE Tryz.prog Value.string (Instr.loadAt 9 (.pointer x63)) w (fun x64 w=>opE Tryz.prog Value.pointer (Instr.fieldAt 49 (.pointer x3) 4) w (fun x65 w=>opE Tryz.prog Value.string (Instr.loadAt 9 (.pointer x65)) w (fun x66 w=>Cl Tryz.prog 14 [(.pointer x0),(.int .i64 x62),(.string x64),(.string x66)].toArray w (fun e w=>∃ (r_7:Int),e=.returned (.int .i64 r_7)∧(opE Tryz.prog Value.pointer (Instr.fieldAt 51 (.pointer x5) 0) w (fun x68 w=>opU Tryz.prog (Instr.storeAt 27 (.pointer x68) (.int .i64 r_7)) w (fun w=>zBq Ret x4 x5 w))))))))))))∧(¬ (x58=4)→(opE Tryz.prog Value.pointer (Instr.fieldAt 49 (.pointer x3) 0) w (fun x70 w=>opE Tryz.prog (Value.int .u8) (Instr.loadAt 47 (.pointer x70)) w (fun x71 w=>((x71=5)→(opE Tryz.prog Value.pointer (Instr.fieldAt 49 (.pointer x3) 1) w (fun x74 w=>opE Tryz.prog (Value.int .i64) (Instr.loadAt 3 (.pointer x74)) w (fun x75 w=>opE Tryz.prog Value.pointer (Instr.fieldAt 49 (.pointer x3) 2) w (fun x76 w=>opE Tryz.prog Value.string (Instr.loadAt 9 (.pointer x76)) w (fun x77 w=>Cl Tryz.prog 13 [(.pointer x0),(.int .i64 x75),(.string x77)].toArray w (fun e w=>∃ (r_8:Int),e=.returned (.int .i64 r_8)∧(opE Tryz.prog Value.pointer (Instr.fieldAt 51 (.pointer x5) 0) w (fun x79 w=>opU Tryz.prog (Instr.storeAt 27 (.pointer x79) (.int .i64 r_8)) w (fun w=>zBq Ret x4 x5 w))))))))))∧(¬ (x71=5)→(opE Tryz.prog Value.pointer (Instr.fieldAt 49 (.pointer x3) 0) w (fun x81 w=>opE Tryz.prog (Value.int .u8) (Instr.loadAt 47 (.pointer x81)) w (fun x82 w=>((x82=6)→(opE Tryz.prog Value.pointer (Instr.fieldAt 49 (.pointer x3) 1) w (fun x86 w=>opE Tryz.prog (Value.int .i64) (Instr.loadAt 3 (.pointer x86)) w (fun x87 w=>Cl Tryz.prog 15 [(.pointer x0),(.int .i64 x87)].toArray w (fun e w=>∃ (r_9:Sl) (r_10:Int) (r_11:Int),e=.returned (.tuple [(Sl.v r_9),(.int .u64 r_10),(.int .i64 r_11)].toArray)∧(opE Tryz.prog Value.pointer (Instr.fieldAt 51 (.pointer x5) 5) w (fun x92 w=>opU Tryz.prog (Instr.storeAt 30 (.pointer x92) (Sl.v r_9)) w (fun w=>opE Tryz.prog Value.pointer (Instr.fieldAt 51 (.pointer x5) 6) w (fun x93 w=>opU Tryz.prog (Instr.storeAt 37 (.pointer x93) (.int .u64 r_10)) w (fun w=>opE Tryz.prog Value.pointer (Instr.fieldAt 51 (.pointer x5) 0) w (fun x94 w=>opU Tryz.prog (Instr.storeAt 27 (.pointer x94) (.int .i64 r_11)) w (fun w=>zBq Ret x4 x5 w))))))))))))∧(¬ (x82=6)→(opE Tryz.prog Value.pointer (Instr.fieldAt 49 (.pointer x3) 0) w (fun x96 w=>opE Tryz.prog (Value.int .u8) (Instr.loadAt 47 (.pointer x96)) w (fun x97 w=>((x97=7)→(opE Tryz.prog Value.pointer (Instr.fieldAt 49 (.pointer x3) 1) w (fun x100 w=>opE Tryz.prog (Value.int .i64) (Instr.loadAt 3 (.pointer x100)) w (fun x101 w=>Cl Tryz.prog 29 [(.pointer x0),(.int .i64 x101)].toArray w (fun e w=>∃ (r_12:Int),e=.returned (.int .i64 r_12)∧(opE Tryz.prog Value.pointer (Instr.fieldAt 51 (.pointer x5) 0) w (fun x103 w=>opU Tryz.prog (Instr.storeAt 27 (.pointer x103) (.int .i64 r_12)) w (fun w=>zBq Ret x4 x5 w))))))))∧(¬ (x97=7)→(zBq Ret x4 x5 w))))))))))))))))))))))))))))))))))))
set_option maxRecDepth 100000 in
theorem zMx (x0:Option Addr) (x1:zAr) (w:World) (Ret:zAq→World→Prop) (H:zJ9 x0 x1 w Ret):Cl Tryz.prog 19 [(.pointer x0),(zAr.v x1)].toArray w (fun e w'=>∃ (r0:zAq),e=.returned (zAq.v r0)∧Ret r0 w'):=by
 unfold zJ9 at H
 refine zAY 105 (zipE 0 [(.pointer x0),(zAr.v x1)]) Tryz.func19 rfl rfl (by rfl) rfl ?_
 intro a g
 replace g:Sat [] 105 [(0,(.pointer x0)),(1,(zAr.v x1))] a:=g
 refine zAF (zAA (g.op (zIm g rfl) H fun x3 w a H g=>(g.op (zEH) H fun x4 w a H g=>(zAG (tn (zAF (zAA (g.op (zGM g rfl) H fun x6 w a H g=>(g.op (zEH) H fun x5 w a H g=>(g.opu (zAM g rfl rfl) H fun w a H g=>(zAG (tn (zBG (ds:=[]) (N:=105) (σ:=Unit) (fun s=>[(4,(.pointer x4)),(5,(.pointer x5))]) (fun s w=>zBq Ret x4 x5 w) ?_ (fun hj1=>?_))))))))))))))
 ·rintro ⟨⟩ w a H g
  try dsimp only at H g
  unfold zBq at H
  refine zAF (zAA (g.op (zAI g rfl) H fun x104 w a H g=>(g.opu (zAM g rfl rfl) H fun w a H g=>(zAG (tn ?_)))))
  obtain ⟨q,ad,hp,hl,H⟩:=H
  exact zAf (zOs g (rs:=[.cell 4 51]) (vs:=[(zAq.v q)]) rfl ⟨⟨ad,by rw [← hp];rfl,hl⟩,trivial⟩ ⟨_,rfl,H⟩)
 ·refine zAN (zAF (zAA (g.mv rfl fun _ g=>(g.op (zJ4 g rfl rfl) H fun x9 w a H g=>(g.as_ rfl fun _ g=>(zAG (tn (zAV g rfl (fun hc=>?_) (fun hc=>?_)))))))))
  ·replace H:=H.1 hc
   exact zAA (g.op (zAJ g rfl) H fun x10 w a H g=>(g.opu (zAM g rfl rfl) H fun w a H g=>(zAG (bn (tn (hj1 () _ _ H (g.weak ⟨rfl,rfl,trivial⟩)))))))
  ·replace H:=H.2 hc
   refine zAF (zAA (g.op (zAJ g rfl) H fun x12 w a H g=>(g.op (zAI g rfl) H fun x13 w a H g=>(g.pur (zGX g rfl rfl) fun _ g=>(g.as_ rfl fun _ g=>(zAG (tn (zAR g rfl (fun hc=>?_) (fun hc=>?_)))))))))
   ·replace H:=H.1 hc
    refine zAA (g.mv rfl fun _ g=>(g.call (zAQ g ent12 rfl rfl) H fun e w H=>?_))
    obtain ⟨r,r_1,rfl,H⟩:=H
    exact ⟨_,rfl,fun _ g=>(g.mv rfl fun _ g=>(g.pur (zAO g rfl rfl) fun _ g=>(g.pur (zAO g rfl rfl) fun _ g=>(g.op (zAJ g rfl) H fun x20 w a H g=>(g.opu (zAM g rfl rfl) H fun w a H g=>(g.op (zAJ g rfl) H fun x21 w a H g=>(g.opu (zAM g rfl rfl) H fun w a H g=>(zAG (bn (tn (hj1 () _ _ H (g.weak ⟨rfl,rfl,trivial⟩))))))))))))⟩
   ·replace H:=H.2 hc
    refine zAF (zAA (g.op (zAJ g rfl) H fun x23 w a H g=>(g.op (zAI g rfl) H fun x24 w a H g=>(g.pur (zGX g rfl rfl) fun _ g=>(g.as_ rfl fun _ g=>(zAG (tn (zAR g rfl (fun hc=>?_) (fun hc=>?_)))))))))
    ·replace H:=H.1 hc
     refine zAA (g.mv rfl fun _ g=>(g.op (zAJ g rfl) H fun x28 w a H g=>(g.op (zAI g rfl) H fun x29 w a H g=>(g.op (zAJ g rfl) H fun x30 w a H g=>(g.op (zAI g rfl) H fun x31 w a H g=>(g.call (zAQ g ent22 rfl rfl) H fun e w H=>?_))))))
     obtain ⟨r_2,r_3,r_4,rfl,H⟩:=H
     exact ⟨_,rfl,fun _ g=>(g.mv rfl fun _ g=>(g.pur (zAO g rfl rfl) fun _ g=>(g.pur (zAO g rfl rfl) fun _ g=>(g.pur (zAO g rfl rfl) fun _ g=>(g.op (zAJ g rfl) H fun x36 w a H g=>(g.opu (zAM g rfl rfl) H fun w a H g=>(g.op (zAJ g rfl) H fun x37 w a H g=>(g.opu (zAM g rfl rfl) H fun w a H g=>(g.op (zAJ g rfl) H fun x38 w a H g=>(g.opu (zAM g rfl rfl) H fun w a H g=>(zAG (bn (tn (hj1 () _ _ H (g.weak ⟨rfl,rfl,trivial⟩)))))))))))))))⟩
    ·replace H:=H.2 hc
     refine zAF (zAA (g.op (zAJ g rfl) H fun x40 w a H g=>(g.op (zAI g rfl) H fun x41 w a H g=>(g.pur (zGX g rfl rfl) fun _ g=>(g.as_ rfl fun _ g=>(zAG (tn (zAR g rfl (fun hc=>?_) (fun hc=>?_)))))))))
     ·replace H:=H.1 hc
      refine zAA (g.mv rfl fun _ g=>(g.op (zAJ g rfl) H fun x45 w a H g=>(g.op (zAI g rfl) H fun x46 w a H g=>(g.op (zAJ g rfl) H fun x47 w a H g=>(g.op (zAI g rfl) H fun x48 w a H g=>(g.op (zAJ g rfl) H fun x49 w a H g=>(g.op (zAI g rfl) H fun x50 w a H g=>(g.call (zAQ g ent17 rfl rfl) H fun e w H=>?_))))))))
      obtain ⟨r_5,r_6,rfl,H⟩:=H
      exact ⟨_,rfl,fun _ g=>(g.mv rfl fun _ g=>(g.pur (zAO g rfl rfl) fun _ g=>(g.pur (zAO g rfl rfl) fun _ g=>(g.op (zAJ g rfl) H fun x54 w a H g=>(g.opu (zAM g rfl rfl) H fun w a H g=>(g.op (zAJ g rfl) H fun x55 w a H g=>(g.opu (zAM g rfl rfl) H fun w a H g=>(zAG (bn (tn (hj1 () _ _ H (g.weak ⟨rfl,rfl,trivial⟩))))))))))))⟩
     ·replace H:=H.2 hc
      refine zAF (zAA (g.op (zAJ g rfl) H fun x57 w a H g=>(g.op (zAI g rfl) H fun x58 w a H g=>(g.pur (zGX g rfl rfl) fun _ g=>(g.as_ rfl fun _ g=>(zAG (tn (zAR g rfl (fun hc=>?_) (fun hc=>?_)))))))))
      ·replace H:=H.1 hc
       refine zAA (g.mv rfl fun _ g=>(g.op (zAJ g rfl) H fun x61 w a H g=>(g.op (zAI g rfl) H fun x62 w a H g=>(g.op (zAJ g rfl) H fun x63 w a H g=>(g.op (zAI g rfl) H fun x64 w a H g=>(g.op (zAJ g rfl) H fun x65 w a H g=>(g.op (zAI g rfl) H fun x66 w a H g=>(g.call (zAQ g ent14 rfl rfl) H fun e w H=>?_))))))))
       obtain ⟨r_7,rfl,H⟩:=H
       exact ⟨_,rfl,fun _ g=>(g.op (zAJ g rfl) H fun x68 w a H g=>(g.opu (zAM g rfl rfl) H fun w a H g=>(zAG (bn (tn (hj1 () _ _ H (g.weak ⟨rfl,rfl,trivial⟩)))))))⟩
      ·replace H:=H.2 hc
       refine zAF (zAA (g.op (zAJ g rfl) H fun x70 w a H g=>(g.op (zAI g rfl) H fun x71 w a H g=>(g.pur (zGX g rfl rfl) fun _ g=>(g.as_ rfl fun _ g=>(zAG (tn (zAR g rfl (fun hc=>?_) (fun hc=>?_)))))))))
       ·replace H:=H.1 hc
        refine zAA (g.mv rfl fun _ g=>(g.op (zAJ g rfl) H fun x74 w a H g=>(g.op (zAI g rfl) H fun x75 w a H g=>(g.op (zAJ g rfl) H fun x76 w a H g=>(g.op (zAI g rfl) H fun x77 w a H g=>(g.call (zAQ g ent13 rfl rfl) H fun e w H=>?_))))))
        obtain ⟨r_8,rfl,H⟩:=H
        exact ⟨_,rfl,fun _ g=>(g.op (zAJ g rfl) H fun x79 w a H g=>(g.opu (zAM g rfl rfl) H fun w a H g=>(zAG (bn (tn (hj1 () _ _ H (g.weak ⟨rfl,rfl,trivial⟩)))))))⟩
       ·replace H:=H.2 hc
        refine zAF (zAA (g.op (zAJ g rfl) H fun x81 w a H g=>(g.op (zAI g rfl) H fun x82 w a H g=>(g.pur (zGX g rfl rfl) fun _ g=>(g.as_ rfl fun _ g=>(zAG (tn (zAR g rfl (fun hc=>?_) (fun hc=>?_)))))))))
        ·replace H:=H.1 hc
         refine zAA (g.mv rfl fun _ g=>(g.op (zAJ g rfl) H fun x86 w a H g=>(g.op (zAI g rfl) H fun x87 w a H g=>(g.call (zAQ g ent15 rfl rfl) H fun e w H=>?_))))
         obtain ⟨r_9,r_10,r_11,rfl,H⟩:=H
         exact ⟨_,rfl,fun _ g=>(g.mv rfl fun _ g=>(g.pur (zAO g rfl rfl) fun _ g=>(g.pur (zAO g rfl rfl) fun _ g=>(g.pur (zAO g rfl rfl) fun _ g=>(g.op (zAJ g rfl) H fun x92 w a H g=>(g.opu (zAM g rfl rfl) H fun w a H g=>(g.op (zAJ g rfl) H fun x93 w a H g=>(g.opu (zAM g rfl rfl) H fun w a H g=>(g.op (zAJ g rfl) H fun x94 w a H g=>(g.opu (zAM g rfl rfl) H fun w a H g=>(zAG (bn (tn (hj1 () _ _ H (g.weak ⟨rfl,rfl,trivial⟩)))))))))))))))⟩
        ·replace H:=H.2 hc
         refine zAF (zAA (g.op (zAJ g rfl) H fun x96 w a H g=>(g.op (zAI g rfl) H fun x97 w a H g=>(g.pur (zGX g rfl rfl) fun _ g=>(g.as_ rfl fun _ g=>(zAG (tn (zAR g rfl (fun hc=>?_) (fun hc=>?_)))))))))
         ·replace H:=H.1 hc
          refine zAA (g.mv rfl fun _ g=>(g.op (zAJ g rfl) H fun x100 w a H g=>(g.op (zAI g rfl) H fun x101 w a H g=>(g.call (zAQ g ent29 rfl rfl) H fun e w H=>?_))))
          obtain ⟨r_12,rfl,H⟩:=H
          exact ⟨_,rfl,fun _ g=>(g.op (zAJ g rfl) H fun x103 w a H g=>(g.opu (zAM g rfl rfl) H fun w a H g=>(zAG (bn (tn (hj1 () _ _ H (g.weak ⟨rfl,rfl,trivial⟩)))))))⟩
         ·replace H:=H.2 hc
          exact zAP (bn (tn (hj1 () _ _ H (g.weak ⟨rfl,rfl,trivial⟩))))
def zJq (x0:Option Addr) (x1:Int) (x2:ByteArray) (w:World) (Ret:ByteArray→Bool→Int→World→Prop):Prop:=
 Cl Tryz.prog 36 [(.pointer x0),(.int .i64 x1)].toArray w (fun e w=>∃ (r:Option Addr) (r_1:Int),e=.returned (.tuple [(.pointer r),(.int .i64 r_1)].toArray)∧(((r_1≠0)→(Ret (ByteArray.mk #[]) false r_1 w))∧(¬ (r_1≠0)→(((256<(x2.size:Int))→(Ret (ByteArray.mk #[]) false 4 w))∧(¬ (256<(x2.size:Int))→(nilOk (.pointer r)∧(opE Tryz.prog Value.pointer (Instr.fieldAt 92 (.pointer r) 1) w (fun x30 w=>opE Tryz.prog Sl.v (Instr.loadAt 90 (.pointer x30)) w (fun x31 w=>((256≤(x31.len:Int))→(Ret (ByteArray.mk #[]) false 3 w))∧(¬ (256≤(x31.len:Int))→(nilOk (.pointer r)∧(opE Tryz.prog Value.pointer (Instr.fieldAt 92 (.pointer r) 1) w (fun x37 w=>opE Tryz.prog Sl.v (Instr.loadAt 90 (.pointer x37)) w (fun x38 w=>opE Tryz.prog zAm.v (Instr.build 103 [(0,(.string x2)),(2,(.bool true))].toArray) w (fun x40 w=>opE Tryz.prog Sl.v (Instr.buildSlice 90 1 [(0,(zAm.v x40))].toArray) w (fun x41 w=>opE Tryz.prog Sl.v (Builtin.append_ #[90,90] 90 [(Sl.v x38),(Sl.v x41)].toArray) w (fun x42 w=>nilOk (.pointer r)∧(opE Tryz.prog Value.pointer (Instr.fieldAt 92 (.pointer r) 1) w (fun x44 w=>opU Tryz.prog (Instr.storeAt 90 (.pointer x44) (Sl.v x42)) w (fun w=>nilOk (.pointer r)∧(opE Tryz.prog Value.pointer (Instr.fieldAt 92 (.pointer r) 2) w (fun x48 w=>opE Tryz.prog Value.map (Instr.loadAt 89 (.pointer x48)) w (fun x49 w=>opE Tryz.prog (fun p:zAD × Bool=>.tuple [(zAD.v p.1),(.bool p.2)].toArray) (Instr.lookup 89 (.map x49) (.string x2) true) w (fun x51 w=>opE Tryz.prog Value.pointer (Instr.alloc 34 true (.tuple #[])) w (fun x11 w=>opU Tryz.prog (Instr.storeAt 34 (.pointer x11) (zAD.v x51.1)) w (fun w=>(x51.2=true→(opB Tryz.prog Value.pointer (Instr.fieldAt 34 (.pointer x11) 1) w (fun x55=>opB Tryz.prog Value.string (Instr.loadAt 9 (.pointer x55)) w (fun x56=>opB Tryz.prog Value.pointer (Instr.fieldAt 34 (.pointer x11) 2) w (fun x57=>opB Tryz.prog Value.bool (Instr.loadAt 4 (.pointer x57)) w (fun x58=>nextB w (fun w=>Ret x56 (!x58) 0 w)))))))∧(x51.2=false→(nilOk (.pointer x0)∧(opB Tryz.prog Value.pointer (Instr.fieldAt 87 (.pointer x0) 0) w (fun x62=>opB Tryz.prog zAH.v (Instr.loadAt 69 (.pointer x62)) w (fun x63=>nilOk (.pointer r)∧(opB Tryz.prog Value.pointer (Instr.fieldAt 92 (.pointer r) 0) w (fun x67=>opB Tryz.prog (Value.int .u64) (Instr.loadAt 37 (.pointer x67)) w (fun x68=>∃ (r_2:ByteArray) (r_3:Bool) (r_4:Int),(∀ w',Bel w w'→Cl Tryz.prog 51 [(zAH.v x63),(.string x2),(.int .u64 x68)].toArray w' (fun e w''=>e=.returned (.tuple [(.string r_2),(.bool r_3),(.int .i64 r_4)].toArray)∧Bel w' w''))∧(nextB w (fun w=>Ret r_2 r_3 r_4 w))))))))))))))))))))))))))))))))))))
set_option maxRecDepth 100000 in
theorem zMa (x0:Option Addr) (x1:Int) (x2:ByteArray) (w:World) (Ret:ByteArray→Bool→Int→World→Prop) (H:zJq x0 x1 x2 w Ret):Cl Tryz.prog 22 [(.pointer x0),(.int .i64 x1),(.string x2)].toArray w (fun e w'=>∃ (r0:ByteArray) (r1:Bool) (r2:Int),e=.returned (.tuple [(.string r0),(.bool r1),(.int .i64 r2)].toArray)∧Ret r0 r1 r2 w'):=by
 unfold zJq at H
 refine zAY 73 (zipE 0 [(.pointer x0),(.int .i64 x1),(.string x2)]) Tryz.func22 rfl rfl (by rfl) rfl ?_
 intro a g
 replace g:Sat [] 73 [(0,(.pointer x0)),(1,(.int .i64 x1)),(2,(.string x2))] a:=g
 refine zAF (zAA (g.as_ rfl fun _ g=>(g.as_ rfl fun _ g=>(g.as_ rfl fun _ g=>(zAG (tn (zAF (zAA (g.mv rfl fun _ g=>(g.mv rfl fun _ g=>(g.call (zAQ g ent36 rfl rfl) H fun e w H=>?_)))))))))))
 obtain ⟨r,r_1,rfl,H⟩:=H
 refine ⟨_,rfl,fun _ g=>(g.mv rfl fun _ g=>(g.pur (zAO g rfl rfl) fun _ g=>(g.pur (zAO g rfl rfl) fun _ g=>(g.as_ rfl fun _ g=>(g.as_ rfl fun _ g=>(zAG (tn (zAF (zAN (zAF (zAA (g.mv rfl fun _ g=>(g.pur (zLw g rfl rfl) fun _ g=>(g.as_ rfl fun _ g=>(zAG (tn (zAR g rfl (fun hc=>?_) (fun hc=>?_))))))))))))))))))⟩
 ·replace H:=H.1 hc
  exact zAF (zAA (g.mv rfl fun _ g=>(g.as_ rfl fun _ g=>(g.as_ rfl fun _ g=>(g.as_ rfl fun _ g=>(zAG (tn (zAf (br (tr (zNf g rfl rfl rfl rfl ⟨_,_,_,rfl,H⟩)))))))))))
 ·replace H:=H.2 hc
  refine zAF (zAA (g.mv rfl fun _ g=>(g.purR (fun w=>zMn g Tryz.underlying9 rfl) fun _ g=>(g.pur (zIG g rfl rfl) fun _ g=>(g.as_ rfl fun _ g=>(zAG (tn (zAR g rfl (fun hc=>?_) (fun hc=>?_)))))))))
  ·replace H:=H.1 hc
   exact zAF (zAA (g.as_ rfl fun _ g=>(g.as_ rfl fun _ g=>(g.as_ rfl fun _ g=>(zAG (tn (zAf (br (tr (zNf g rfl rfl rfl rfl ⟨_,_,_,rfl,H⟩))))))))))
  ·replace H:=H.2 hc
   refine zAF (zAA (g.mv rfl fun _ g=>(g.pur (zAS g rfl H.1) fun _ g=>?_)))
   replace H:=H.2
   refine g.op (zAJ g rfl) H fun x30 w a H g=>g.op (zAI g rfl) H fun x31 w a H g=>g.purR (fun w=>zGm g Tryz.underlying90 rfl) fun _ g=>g.pur (zF7 g rfl rfl) fun _ g=>g.as_ rfl fun _ g=>zAG (tn (zAR g rfl (fun hc=>?_) (fun hc=>?_)))
   ·replace H:=H.1 hc
    exact zAF (zAA (g.as_ rfl fun _ g=>(g.as_ rfl fun _ g=>(g.as_ rfl fun _ g=>(zAG (tn (zAf (br (tr (zNf g rfl rfl rfl rfl ⟨_,_,_,rfl,H⟩))))))))))
   ·replace H:=H.2 hc
    refine zAP (bn (tn (zAF (zAA (g.mv rfl fun _ g=>(g.mv rfl fun _ g=>(g.pur (zAS g rfl H.1) fun _ g=>?_)))))))
    replace H:=H.2
    refine g.op (zAJ g rfl) H fun x37 w a H g=>g.op (zAI g rfl) H fun x38 w a H g=>g.mv rfl fun _ g=>g.op (zGM g rfl) H fun x40 w a H g=>g.op (zFI g rfl) H fun x41 w a H g=>g.op (zJv g rfl) H fun x42 w a H g=>g.pur (zAS g rfl H.1) fun _ g=>?_
    replace H:=H.2
    refine g.op (zAJ g rfl) H fun x44 w a H g=>g.opu (zAM g rfl rfl) H fun w a H g=>zAG (tn (zAF (zAF (zAA (g.mv rfl fun _ g=>(g.pur (zAS g rfl H.1) fun _ g=>?_))))))
    replace H:=H.2
    refine g.op (zAJ g rfl) H fun x48 w a H g=>g.op (zAI g rfl) H fun x49 w a H g=>g.mv rfl fun _ g=>g.op (zMf g rfl rfl) H fun x51 w a H g=>g.mv rfl fun _ g=>g.pur (zAO g rfl rfl) fun _ g=>g.pur (zAO g rfl rfl) fun _ g=>g.op (zEH) H fun x11 w a H g=>g.opu (zAM g rfl rfl) H fun w a H g=>g.as_ rfl fun _ g=>zAG (tn (zAF (zAA (g.mv rfl fun _ g=>(zAG (tn (zAV g rfl (fun hc=>?_) (fun hc=>?_))))))))
    ·replace H:=H.1 hc
     refine zAF (zEB (by kernel_rfl) (by kernel_rfl) (g.qop (zAJ g rfl) H fun x55 a H g=>(g.qop (zAI g rfl) H fun x56 a H g=>(g.qop (zAJ g rfl) H fun x57 a H g=>(g.qop (zAI g rfl) H fun x58 a H g=>(g.qpur (zGp g rfl) fun _ g=>(g.qpur (zEX g rfl) fun _ g=>(g.qpur (zEX g rfl) fun _ g=>(g.qpur (zEX g rfl) fun _ g=>(zED (fun w hB=>?_)))))))))))
     replace H:=H w hB
     exact (tn (zAf (tr (zNf g rfl rfl rfl rfl ⟨_,_,_,rfl,H⟩))))
    ·replace H:=H.2 hc
     refine zAP (tn (zAF (zEB (by kernel_rfl) (by kernel_rfl) (g.qm rfl fun _ g=>(g.qpur (zAS g rfl H.1) fun _ g=>?_)))))
     replace H:=H.2
     refine g.qop (zAJ g rfl) H fun x62 a H g=>g.qop (zAI g rfl) H fun x63 a H g=>g.qm rfl fun _ g=>g.qm rfl fun _ g=>g.qpur (zAS g rfl H.1) fun _ g=>?_
     replace H:=H.2
     refine g.qop (zAJ g rfl) H fun x67 a H g=>g.qop (zAI g rfl) H fun x68 a H g=>?_
     obtain ⟨r_2,r_3,r_4,hc,H⟩:=H
     refine g.qcall (fun w'=>zAQ g ent51 rfl rfl) hc fun _ g=>g.qpur (zAO g rfl rfl) fun _ g=>g.qpur (zAO g rfl rfl) fun _ g=>g.qpur (zAO g rfl rfl) fun _ g=>g.qpur (zEX g rfl) fun _ g=>g.qpur (zEX g rfl) fun _ g=>g.qpur (zEX g rfl) fun _ g=>zED (fun w hB=>?_)
     replace H:=H w hB
     exact (tn (zAf (zNf g rfl rfl rfl rfl ⟨_,_,_,rfl,H⟩)))
def zJI (x0:Option Addr) (x1:Int) (w:World) (Ret:Int→World→Prop):Prop:=
 Cl Tryz.prog 36 [(.pointer x0),(.int .i64 x1)].toArray w (fun e w=>∃ (r:Option Addr) (r_1:Int),e=.returned (.tuple [(.pointer r),(.int .i64 r_1)].toArray)∧(((r_1≠0)→(Ret r_1 w))∧(¬ (r_1≠0)→(Cl Tryz.prog 37 [(.pointer x0),(.int .i64 x1)].toArray w (fun e w=>e=.returned (.tuple [].toArray)∧(Ret 0 w))))))
set_option maxRecDepth 100000 in
theorem zLu (x0:Option Addr) (x1:Int) (w:World) (Ret:Int→World→Prop) (H:zJI x0 x1 w Ret):Cl Tryz.prog 29 [(.pointer x0),(.int .i64 x1)].toArray w (fun e w'=>∃ (r0:Int),e=.returned (.int .i64 r0)∧Ret r0 w'):=by
 unfold zJI at H
 refine zAY 19 (zipE 0 [(.pointer x0),(.int .i64 x1)]) Tryz.func29 rfl rfl (by rfl) rfl ?_
 intro a g
 replace g:Sat [] 19 [(0,(.pointer x0)),(1,(.int .i64 x1))] a:=g
 refine zAF (zAA (g.as_ rfl fun _ g=>(zAG (tn (zAF (zAF (zAA (g.mv rfl fun _ g=>(g.mv rfl fun _ g=>(g.call (zAQ g ent36 rfl rfl) H fun e w H=>?_))))))))))
 obtain ⟨r,r_1,rfl,H⟩:=H
 refine ⟨_,rfl,fun _ g=>(g.mv rfl fun _ g=>(g.pur (zAO g rfl rfl) fun _ g=>(g.pur (zAO g rfl rfl) fun _ g=>(g.as_ rfl fun _ g=>(g.as_ rfl fun _ g=>(zAG (tn (zAF (zAA (g.mv rfl fun _ g=>(g.pur (zLw g rfl rfl) fun _ g=>(zAG (tn (zAR g rfl (fun hc=>?_) (fun hc=>?_)))))))))))))))⟩
 ·replace H:=H.1 hc
  exact zAF (zAA (g.mv rfl fun _ g=>(g.as_ rfl fun _ g=>(zAG (tn (zAf (tr (zAt g rfl rfl ⟨_,rfl,H⟩))))))))
 ·replace H:=H.2 hc
  refine zAP (tn (zAF (zAA (g.mv rfl fun _ g=>(g.mv rfl fun _ g=>(g.call (zAQ g ent37 rfl rfl) H fun e w H=>?_))))))
  obtain ⟨rfl,H⟩:=H
  exact ⟨_,rfl,fun _ g=>(zAG (tn (zAF (zAA (g.as_ rfl fun _ g=>(zAG (tn (zAf (zAt g rfl rfl ⟨_,rfl,H⟩)))))))))⟩
def zJp (x0:Option Addr) (w:World) (Ret:Int→World→Prop):Prop:=
 opE Tryz.prog Value.bool (do eqGuard .eql 26 (.tmp 3) (.const (.pointer none)) (.pointer x0) (.pointer none);binOp .eql 26 (.pointer x0) (.pointer none)) w (fun x4 w=>(x4=true→(Ret 0 w))∧(x4=false→(nilOk (.pointer x0)∧(opE Tryz.prog Value.pointer (Instr.fieldAt 87 (.pointer x0) 1) w (fun x7 w=>opE Tryz.prog (Value.int .u64) (Instr.loadAt 37 (.pointer x7)) w (fun x8 w=>Ret x8 w))))))
set_option maxRecDepth 100000 in
theorem zMe (x0:Option Addr) (w:World) (Ret:Int→World→Prop) (H:zJp x0 w Ret):Cl Tryz.prog 31 [(.pointer x0)].toArray w (fun e w'=>∃ (r0:Int),e=.returned (.int .u64 r0)∧Ret r0 w'):=by
 unfold zJp at H
 refine zAY 9 (zipE 0 [(.pointer x0)]) Tryz.func31 rfl rfl (by rfl) rfl ?_
 intro a g
 replace g:Sat [] 9 [(0,(.pointer x0))] a:=g
 refine zAF (zAA (g.as_ rfl fun _ g=>(zAG (tn (zAF (zAF (zAA (g.mv rfl fun _ g=>(g.op (zJ4 g rfl rfl) H fun x4 w a H g=>(zAG (tn (zAV g rfl (fun hc=>?_) (fun hc=>?_)))))))))))))
 ·replace H:=H.1 hc
  exact zAF (zAA (g.as_ rfl fun _ g=>(zAG (tn (zAf (tr (zAt g rfl rfl ⟨_,rfl,H⟩)))))))
 ·replace H:=H.2 hc
  refine zAP (tn (zAF (zAA (g.mv rfl fun _ g=>(g.pur (zAS g rfl H.1) fun _ g=>?_)))))
  replace H:=H.2
  exact g.op (zAJ g rfl) H fun x7 w a H g=>g.op (zAI g rfl) H fun x8 w a H g=>g.as_ rfl fun _ g=>zAG (tn (zAf (zAt g rfl rfl ⟨_,rfl,H⟩)))
def zEc (x0:Sl) (x1:Value) (w:World) (Ret:Bool→World→Prop):Prop:=
 Cl Tryz.prog 55 [(Sl.v x0),x1].toArray w (fun e w=>∃ (r:Int),e=.returned (.int .i64 r)∧(Ret (decide (0≤r)) w))
set_option maxRecDepth 100000 in
theorem zHn (x0:Sl) (x1:Value) (w:World) (Ret:Bool→World→Prop) (H:zEc x0 x1 w Ret):Cl Tryz.prog 33 [(Sl.v x0),x1].toArray w (fun e w'=>∃ (r0:Bool),e=.returned (.bool r0)∧Ret r0 w'):=by
 unfold zEc at H
 refine zAY 9 (zipE 0 [(Sl.v x0),x1]) Tryz.func33 rfl rfl (by rfl) rfl ?_
 intro a g
 replace g:Sat [] 9 [(0,(Sl.v x0)),(1,x1)] a:=g
 refine zAF (zAA (g.as_ rfl fun _ g=>(zAG (tn (zAF (zAA (g.mv rfl fun _ g=>(g.mv rfl fun _ g=>(g.call (zAQ g ent55 rfl rfl) H fun e w H=>?_)))))))))
 obtain ⟨r,rfl,H⟩:=H
 exact ⟨_,rfl,fun _ g=>(g.pur (zF7 g rfl rfl) fun _ g=>(g.as_ rfl fun _ g=>(zAG (tn (zAf (zAt g rfl rfl ⟨_,rfl,H⟩))))))⟩
def zEw (Ret:Int→World→Prop) (x5:Option Addr) (r:Option Addr) (x51:Bool) (w:World):Prop:=
 (x51=true→(Ret 3 w))∧(x51=false→(regC w (fun C4 w=>nilOk (.pointer r)∧(opC C4 Tryz.prog Value.pointer (Instr.fieldAt 92 (.pointer r) 2) (fun x54=>opC C4 Tryz.prog Value.pointer (Instr.fieldAt 34 (.pointer x5) 0) (fun x56=>opC C4 Tryz.prog Value.map (Instr.loadAt 89 (.pointer x54)) (fun x55=>opC C4 Tryz.prog Value.string (Instr.loadAt 9 (.pointer x56)) (fun x57=>opC C4 Tryz.prog zAD.v (Instr.loadAt 34 (.pointer x5)) (fun x58=>opU Tryz.prog (Instr.mapUpdate 89 (.map x55) (.string x57) (zAD.v x58)) w (fun w=>C4 w∧(Ret 0 w)))))))))))
def zEu (Ret:Int→World→Prop) (x5:Option Addr) (r:Option Addr) (x27:zAD × Bool) (x40:Bool) (w:World):Prop:=
 (x40=true→(Ret 4 w))∧(x40=false→(((!x27.2)=true→(nilOk (.pointer r)∧(opE Tryz.prog Value.pointer (Instr.fieldAt 92 (.pointer r) 2) w (fun x47 w=>opE Tryz.prog Value.map (Instr.loadAt 89 (.pointer x47)) w (fun x48 w=>opE Tryz.prog (Value.int .i64) (Builtin.len_ #[89] 3 [(.map x48)].toArray) w (fun x49 w=>zEw Ret x5 r (decide (256≤x49)) w))))))∧((!x27.2)=false→(zEw Ret x5 r false w))))
def zI6 (x0:Option Addr) (x1:Int) (x2:zAD) (w:World) (Ret:Int→World→Prop):Prop:=
 opE Tryz.prog Value.pointer (Instr.box 34 (zAD.v x2)) w (fun x5 w=>Cl Tryz.prog 36 [(.pointer x0),(.int .i64 x1)].toArray w (fun e w=>∃ (r:Option Addr) (r_1:Int),e=.returned (.tuple [(.pointer r),(.int .i64 r_1)].toArray)∧(((r_1≠0)→(Ret r_1 w))∧(¬ (r_1≠0)→(regC w (fun C1 w=>nilOk (.pointer r)∧(opC C1 Tryz.prog Value.pointer (Instr.fieldAt 92 (.pointer r) 2) (fun x23=>opC C1 Tryz.prog Value.pointer (Instr.fieldAt 34 (.pointer x5) 0) (fun x25=>opC C1 Tryz.prog Value.map (Instr.loadAt 89 (.pointer x23)) (fun x24=>opC C1 Tryz.prog Value.string (Instr.loadAt 9 (.pointer x25)) (fun x26=>opC C1 Tryz.prog (fun p:zAD × Bool=>.tuple [(zAD.v p.1),(.bool p.2)].toArray) (Instr.lookup 89 (.map x24) (.string x26) true) (fun x27=>opE Tryz.prog Value.pointer (Instr.alloc 34 true (.tuple #[])) w (fun x9 w=>C1 w∧(opU Tryz.prog (Instr.storeAt 34 (.pointer x9) (zAD.v x27.1)) w (fun w=>C1 w∧(opE Tryz.prog Value.pointer (Instr.fieldAt 34 (.pointer x5) 0) w (fun x31 w=>opE Tryz.prog Value.string (Instr.loadAt 9 (.pointer x31)) w (fun x32 w=>((256<(x32.size:Int))→(zEu Ret x5 r x27 true w))∧(¬ (256<(x32.size:Int))→(opE Tryz.prog Value.pointer (Instr.fieldAt 34 (.pointer x5) 1) w (fun x36 w=>opE Tryz.prog Value.string (Instr.loadAt 9 (.pointer x36)) w (fun x37 w=>zEu Ret x5 r x27 (decide (512<(x37.size:Int))) w))))))))))))))))))))))
set_option maxRecDepth 100000 in
theorem zLs (x0:Option Addr) (x1:Int) (x2:zAD) (w:World) (Ret:Int→World→Prop) (H:zI6 x0 x1 x2 w Ret):Cl Tryz.prog 35 [(.pointer x0),(.int .i64 x1),(zAD.v x2)].toArray w (fun e w'=>∃ (r0:Int),e=.returned (.int .i64 r0)∧Ret r0 w'):=by
 unfold zI6 at H
 refine zAY 59 (zipE 0 [(.pointer x0),(.int .i64 x1),(zAD.v x2)]) Tryz.func35 rfl rfl (by rfl) rfl ?_
 intro a g
 replace g:Sat [] 59 [(0,(.pointer x0)),(1,(.int .i64 x1)),(2,(zAD.v x2))] a:=g
 refine zAF (zAA (g.op (zIm g rfl) H fun x5 w a H g=>(g.as_ rfl fun _ g=>(zAG (tn (zAF (zAA (g.mv rfl fun _ g=>(g.mv rfl fun _ g=>(g.call (zAQ g ent36 rfl rfl) H fun e w H=>?_))))))))))
 obtain ⟨r,r_1,rfl,H⟩:=H
 refine ⟨_,rfl,fun _ g=>(g.mv rfl fun _ g=>(g.pur (zAO g rfl rfl) fun _ g=>(g.pur (zAO g rfl rfl) fun _ g=>(g.as_ rfl fun _ g=>(g.as_ rfl fun _ g=>(zAG (tn (zAF (zAF (zAA (g.mv rfl fun _ g=>(g.pur (zLw g rfl rfl) fun _ g=>(zAG (tn (zAR g rfl (fun hc=>?_) (fun hc=>?_))))))))))))))))⟩
 ·replace H:=H.1 hc
  exact zAF (zAA (g.mv rfl fun _ g=>(g.as_ rfl fun _ g=>(zAG (tn (zAf (tr (zAt g rfl rfl ⟨_,rfl,H⟩))))))))
 ·replace H:=H.2 hc
  refine zAP (tn (zAF (zTg H 13 fun C1 w hC0 H=>(g.kp 0 rfl hC0 (zEL (zAL g rfl)) fun _ g=>(g.kp 1 rfl hC0 (zEL (zAS g rfl H.1)) fun _ g=>?_)))))
  replace H:=H.2
  refine g.ko 2 rfl hC0 (zAJ g rfl) H fun x23 a H g=>g.ko 4 rfl hC0 (zAJ g rfl) H fun x25 a H g=>g.ko 3 rfl hC0 (zAI g rfl) H fun x24 a H g=>g.ko 5 rfl hC0 (zAI g rfl) H fun x26 a H g=>g.ko 6 rfl hC0 (zMf g rfl rfl) H fun x27 a H g=>g.kp 7 rfl hC0 (zEL (zAL g rfl)) fun _ g=>g.kp 8 rfl hC0 (zEL (zAO g rfl rfl)) fun _ g=>g.kp 9 rfl hC0 (zEL (zAO g rfl rfl)) fun _ g=>WK.on 10 rfl ?_
  intro K hK
  refine g.wop (zEH) H fun x9 w a H g=>hK _ _ ⟨H.1,?_⟩
  have hC1:=H.1
  replace H:=H.2
  refine WK.on 11 rfl ?_
  intro K hK
  refine g.wopu (zAM g rfl rfl) H fun w a H g=>hK _ _ ⟨H.1,?_⟩
  have hC2:=H.1
  replace H:=H.2
  refine g.kp 12 rfl hC2 (zEL (zEX g rfl)) fun _ g=>WK.nil (by kernel_rfl) ((tn (zAF (zAN (zAF (zAA (g.op (zAJ g rfl) H fun x31 w a H g=>(g.op (zAI g rfl) H fun x32 w a H g=>(g.purR (fun w=>zMn g Tryz.underlying9 rfl) fun _ g=>(g.pur (zIG g rfl rfl) fun _ g=>(g.mv rfl fun _ g=>(WL.join (ds:=[]) (N:=59) (σ:=Bool) (fun s=>[(40,(.bool s)),(5,(.pointer x5)),(7,(.pointer r)),(10,(.bool x27.2))]) (fun s w=>zEu Ret x5 r x27 s w) 5 ?_ (fun hr2=>?_)))))))))))))
  ·intro x40 w a H g
   try dsimp only at H g
   unfold zEu at H
   refine g.as_ rfl fun _ g=>zAG (tn (zAV g rfl (fun hc=>?_) (fun hc=>?_)))
   ·replace H:=H.1 hc
    exact zAF (zAA (g.as_ rfl fun _ g=>(zAG (tn (zAf (br (tr (zAt g rfl rfl ⟨_,rfl,H⟩))))))))
   ·replace H:=H.2 hc
    refine zAF (zAA (g.mv rfl fun _ g=>(g.pur (zGp g rfl) fun _ g=>(g.mv rfl fun _ g=>(WL.join (ds:=[]) (N:=59) (σ:=Bool) (fun s=>[(51,(.bool s)),(5,(.pointer x5)),(7,(.pointer r))]) (fun s w=>zEw Ret x5 r s w) 7 ?_ (fun hr3=>?_))))))
    ·intro x51 w a H g
     try dsimp only at H g
     unfold zEw at H
     refine g.as_ rfl fun _ g=>zAG (tn (zAV g rfl (fun hc=>?_) (fun hc=>?_)))
     ·replace H:=H.1 hc
      exact zAF (zAA (g.as_ rfl fun _ g=>(zAG (tn (zAf (br (tr (zAt g rfl rfl ⟨_,rfl,H⟩))))))))
     ·replace H:=H.2 hc
      refine zAP (bn (tn (zAF (zTg H 8 fun C4 w hC0 H=>(g.kp 0 rfl hC0 (zEL (zAL g rfl)) fun _ g=>(g.kp 1 rfl hC0 (zEL (zAS g rfl H.1)) fun _ g=>?_))))))
      replace H:=H.2
      refine g.ko 2 rfl hC0 (zAJ g rfl) H fun x54 a H g=>g.ko 4 rfl hC0 (zAJ g rfl) H fun x56 a H g=>g.ko 3 rfl hC0 (zAI g rfl) H fun x55 a H g=>g.ko 5 rfl hC0 (zAI g rfl) H fun x57 a H g=>g.ko 6 rfl hC0 (zAI g rfl) H fun x58 a H g=>WK.on 7 rfl ?_
      intro K hK
      refine g.wopu (zMD g rfl rfl rfl) H fun w a H g=>hK _ _ ⟨H.1,?_⟩
      have hC1:=H.1
      replace H:=H.2
      exact WK.nil (by kernel_rfl) ((tn (zAF (zAA (g.as_ rfl fun _ g=>(zAG (tn (zAf (zAt g rfl rfl ⟨_,rfl,H⟩)))))))))
    ·rcases Bool.eq_false_or_eq_true ((!x27.2)) with hbr3|hbr3
     ·replace H:=H.1 hbr3
      replace g:=g.bool (b:=true) (t:=44) rfl (hbr3)
      refine g.on (by rfl) (by rfl) (g.mv rfl fun _ g=>(g.on (by rfl) (by rfl) (g.pur (zAS g rfl H.1) fun _ g=>?_)))
      replace H:=H.2
      exact g.on (by rfl) (by rfl) (g.op (zAJ g rfl) H fun x47 w a H g=>(g.on (by rfl) (by rfl) (g.op (zAI g rfl) H fun x48 w a H g=>(g.on (by rfl) (by rfl) (g.op (zQt g rfl) H fun x49 w a H g=>(g.on (by rfl) (by rfl) (g.pur (zF7 g rfl rfl) fun _ g=>(g.pur (zAj g rfl rfl) fun _ g=>(hr3 (decide (256≤x49)) _ _ H (g.weak ⟨rfl,rfl,rfl,trivial⟩))))))))))
     ·replace H:=H.2 hbr3
      replace g:=g.bool (b:=false) (t:=44) rfl (hbr3)
      exact g.off (by rfl) (by rfl) (by decide) (fun _ g=>(g.off (by rfl) (by rfl) (by decide) (fun _ g=>(g.off (by rfl) (by rfl) (by decide) (fun _ g=>(g.off (by rfl) (by rfl) (by decide) (fun _ g=>(g.off (by rfl) (by rfl) (by decide) (fun _ g=>(g.off (by rfl) (by rfl) (by decide) (fun _ g=>(g.pur (zAi g rfl rfl) fun _ g=>(hr3 false _ _ H (g.weak ⟨rfl,rfl,rfl,trivial⟩))))))))))))))
  ·rcases Classical.em ((256<(x32.size:Int))) with hbr2|hbr2
   ·replace H:=H.1 hbr2
    replace g:=g.bool (b:=true) (t:=35) rfl (decide_eq_true hbr2)
    exact g.off (by rfl) (by rfl) (by decide) (fun _ g=>(g.off (by rfl) (by rfl) (by decide) (fun _ g=>(g.off (by rfl) (by rfl) (by decide) (fun _ g=>(g.off (by rfl) (by rfl) (by decide) (fun _ g=>(g.pur (zAj g rfl rfl) fun _ g=>(hr2 true _ _ H (g.weak ⟨rfl,rfl,rfl,rfl,trivial⟩))))))))))
   ·replace H:=H.2 hbr2
    replace g:=g.bool (b:=false) (t:=35) rfl (decide_eq_false hbr2)
    exact g.on (by rfl) (by rfl) (g.op (zAJ g rfl) H fun x36 w a H g=>(g.on (by rfl) (by rfl) (g.op (zAI g rfl) H fun x37 w a H g=>(g.on (by rfl) (by rfl) (g.purR (fun w=>zMn g Tryz.underlying9 rfl) fun _ g=>(g.on (by rfl) (by rfl) (g.pur (zIG g rfl rfl) fun _ g=>(g.pur (zAi g rfl rfl) fun _ g=>(hr2 (decide (512<(x37.size:Int))) _ _ H (g.weak ⟨rfl,rfl,rfl,rfl,trivial⟩))))))))))
def zKD (x0:Option Addr) (x1:Int) (w:World) (Ret:(Option Addr)→Int→World→Prop):Prop:=
 opE Tryz.prog Value.bool (do eqGuard .eql 26 (.tmp 7) (.const (.pointer none)) (.pointer x0) (.pointer none);binOp .eql 26 (.pointer x0) (.pointer none)) w (fun x8 w=>(x8=true→(Ret none 1 w))∧(x8=false→(nilOk (.pointer x0)∧(opE Tryz.prog Value.pointer (Instr.fieldAt 87 (.pointer x0) 3) w (fun x11 w=>opE Tryz.prog Value.map (Instr.loadAt 85 (.pointer x11)) w (fun x12 w=>opE Tryz.prog Value.pointer (Instr.lookup 85 (.map x12) (.int .i64 x1) false) w (fun x14 w=>opE Tryz.prog Value.bool (do eqGuard .eql 88 (.tmp 15) (.const (.pointer none)) (.pointer x14) (.pointer none);binOp .eql 88 (.pointer x14) (.pointer none)) w (fun x16 w=>(x16=true→(Ret none 11 w))∧(x16=false→(Ret x14 0 w))))))))))
set_option maxRecDepth 100000 in
theorem zM2 (x0:Option Addr) (x1:Int) (w:World) (Ret:(Option Addr)→Int→World→Prop) (H:zKD x0 x1 w Ret):Cl Tryz.prog 36 [(.pointer x0),(.int .i64 x1)].toArray w (fun e w'=>∃ (r0:Option Addr) (r1:Int),e=.returned (.tuple [(.pointer r0),(.int .i64 r1)].toArray)∧Ret r0 r1 w'):=by
 unfold zKD at H
 refine zAY 18 (zipE 0 [(.pointer x0),(.int .i64 x1)]) Tryz.func36 rfl rfl (by rfl) rfl ?_
 intro a g
 replace g:Sat [] 18 [(0,(.pointer x0)),(1,(.int .i64 x1))] a:=g
 refine zAF (zAA (g.as_ rfl fun _ g=>(g.as_ rfl fun _ g=>(zAG (tn (zAF (zAF (zAA (g.mv rfl fun _ g=>(g.op (zJ4 g rfl rfl) H fun x8 w a H g=>(zAG (tn (zAV g rfl (fun hc=>?_) (fun hc=>?_))))))))))))))
 ·replace H:=H.1 hc
  exact zAF (zAA (g.as_ rfl fun _ g=>(g.as_ rfl fun _ g=>(zAG (tn (zAf (tr (zFz g rfl rfl rfl ⟨_,_,rfl,H⟩))))))))
 ·replace H:=H.2 hc
  refine zAP (tn (zAF (zAA (g.mv rfl fun _ g=>(g.pur (zAS g rfl H.1) fun _ g=>?_)))))
  replace H:=H.2
  refine g.op (zAJ g rfl) H fun x11 w a H g=>g.op (zAI g rfl) H fun x12 w a H g=>g.mv rfl fun _ g=>g.op (zMf g rfl rfl) H fun x14 w a H g=>g.as_ rfl fun _ g=>zAG (tn (zAF (zAF (zAA (g.mv rfl fun _ g=>(g.op (zJ4 g rfl rfl) H fun x16 w a H g=>(zAG (tn (zAV g rfl (fun hc=>?_) (fun hc=>?_))))))))))
  ·replace H:=H.1 hc
   exact zAF (zAA (g.as_ rfl fun _ g=>(g.as_ rfl fun _ g=>(zAG (tn (zAf (tr (zFz g rfl rfl rfl ⟨_,_,rfl,H⟩))))))))
  ·replace H:=H.2 hc
   exact zAP (tn (zAF (zAA (g.mv rfl fun _ g=>(g.as_ rfl fun _ g=>(g.as_ rfl fun _ g=>(zAG (tn (zAf (zFz g rfl rfl rfl ⟨_,_,rfl,H⟩))))))))))
def zHD (x0:Option Addr) (x1:Option Addr) (w:World) (Ret:Bool→World→Prop):Prop:=
 opE Tryz.prog Value.pointer (Instr.box 88 (.pointer x1)) w (fun x3 w=>nilOk (.pointer x0)∧(opE Tryz.prog Value.pointer (Instr.fieldAt 87 (.pointer x0) 0) w (fun x7 w=>opE Tryz.prog Value.pointer (Instr.fieldAt 69 (.pointer x7) 0) w (fun x8 w=>opE Tryz.prog Sl.v (Instr.loadAt 67 (.pointer x8)) w (fun x9 w=>Cl Tryz.prog 57 [(Sl.v x9),(.func (.func 58) [].toArray [(.pointer x3)].toArray)].toArray w (fun e w=>∃ (r:Bool),e=.returned (.bool r)∧(Ret r w)))))))
set_option maxRecDepth 100000 in
theorem zKx (x0:Option Addr) (x1:Option Addr) (w:World) (Ret:Bool→World→Prop) (H:zHD x0 x1 w Ret):Cl Tryz.prog 38 [(.pointer x0),(.pointer x1)].toArray w (fun e w'=>∃ (r0:Bool),e=.returned (.bool r0)∧Ret r0 w'):=by
 unfold zHD at H
 refine zAY 12 (zipE 0 [(.pointer x0),(.pointer x1)]) Tryz.func38 rfl rfl (by rfl) rfl ?_
 intro a g
 replace g:Sat [] 12 [(0,(.pointer x0)),(1,(.pointer x1))] a:=g
 refine zAF (zAA (g.op (zIm g rfl) H fun x3 w a H g=>(g.as_ rfl fun _ g=>(zAG (tn (zAF (zAA (g.mv rfl fun _ g=>(g.pur (zAS g rfl H.1) fun _ g=>?_)))))))))
 replace H:=H.2
 refine g.op (zAJ g rfl) H fun x7 w a H g=>g.op (zAJ g rfl) H fun x8 w a H g=>g.op (zAI g rfl) H fun x9 w a H g=>g.pur (zKM g rfl rfl) fun _ g=>g.call (zAQ g ent57 rfl rfl) H fun e w H=>?_
 obtain ⟨r,rfl,H⟩:=H
 exact ⟨_,rfl,fun _ g=>(g.as_ rfl fun _ g=>(zAG (tn (zAf (zAt g rfl rfl ⟨_,rfl,H⟩)))))⟩
def zKY (x0:Option Addr) (w:World) (Ret:Sl→World→Prop):Prop:=
 nilOk (.pointer x0)∧(opE Tryz.prog Value.pointer (Instr.fieldAt 92 (.pointer x0) 2) w (fun x5 w=>opE Tryz.prog Value.map (Instr.loadAt 89 (.pointer x5)) w (fun x6 w=>Cl Tryz.prog 62 [(.map x6)].toArray w (fun e w=>∃ (r:Value),e=.returned r∧(Cl Tryz.prog 61 [r,(.func (.func 63) #[] #[])].toArray w (fun e w=>∃ (r_1:Sl),e=.returned (Sl.v r_1)∧(Ret r_1 w)))))))
set_option maxRecDepth 100000 in
theorem zNH (x0:Option Addr) (w:World) (Ret:Sl→World→Prop) (H:zKY x0 w Ret):Cl Tryz.prog 39 [(.pointer x0)].toArray w (fun e w'=>∃ (r0:Sl),e=.returned (Sl.v r0)∧Ret r0 w'):=by
 unfold zKY at H
 refine zAY 9 (zipE 0 [(.pointer x0)]) Tryz.func39 rfl rfl (by rfl) rfl ?_
 intro a g
 replace g:Sat [] 9 [(0,(.pointer x0))] a:=g
 refine zAF (zAA (g.as_ rfl fun _ g=>(zAG (tn (zAF (zAA (g.mv rfl fun _ g=>(g.pur (zAS g rfl H.1) fun _ g=>?_))))))))
 replace H:=H.2
 refine g.op (zAJ g rfl) H fun x5 w a H g=>g.op (zAI g rfl) H fun x6 w a H g=>g.call (zAQ g ent62 rfl rfl) H fun e w H=>?_
 obtain ⟨r,rfl,H⟩:=H
 refine ⟨_,rfl,fun _ g=>(g.call (zAQ g ent61 rfl rfl) H fun e w H=>?_)⟩
 obtain ⟨r_1,rfl,H⟩:=H
 exact ⟨_,rfl,fun _ g=>(g.as_ rfl fun _ g=>(zAG (tn (zAf (zAt g rfl rfl ⟨_,rfl,H⟩)))))⟩
def zBM (x6:Int) (Kl1:Int→Int→World→Prop) (x5_1:Int) (w:World):Prop:=
 Kl1 x5_1 (IntKind.wrap .i64 (x6+1)) w
def zDc (x0:Sl) (x1:Value) (Ret:Sl→World→Prop) (x5:Int) (x6:Int) (w:World) (Kl1:Int→Int→World→Prop):Prop:=
 ((x6<(x0.len:Int))→(opE Tryz.prog Value.pointer (Instr.indexAt 22 (Sl.v x0) (.int .i64 x6)) w (fun x24 w=>opE Tryz.prog zAE.v (Instr.loadAt 66 (.pointer x24)) w (fun x25 w=>opE Tryz.prog Value.pointer (Instr.alloc 66 true (.tuple #[])) w (fun x7 w=>opU Tryz.prog (Instr.storeAt 66 (.pointer x7) (zAE.v x25)) w (fun w=>opE Tryz.prog zAE.v (Instr.loadAt 66 (.pointer x7)) w (fun x27 w=>CallV Tryz.prog x1 [(zAE.v x27)] w (fun e w=>∃ (r_1:Bool),e=.returned (.bool r_1)∧(((!r_1)=true→(opE Tryz.prog zAE.v (Instr.loadAt 66 (.pointer x7)) w (fun x32 w=>opE Tryz.prog Value.pointer (Instr.indexAt 22 (Sl.v x0) (.int .i64 x5)) w (fun x33 w=>opU Tryz.prog (Instr.storeAt 66 (.pointer x33) (zAE.v x32)) w (fun w=>zBM x6 Kl1 (IntKind.wrap .i64 (x5+1)) w)))))∧((!r_1)=false→(zBM x6 Kl1 x5 w)))))))))))∧(¬ (x6<(x0.len:Int))→(opE Tryz.prog Sl.v (Instr.sliceAt 22 (Sl.v x0) (some (.int .i64 x5)) none none) w (fun x38 w=>opE Tryz.prog (fun _:Unit=>.tuple #[]) (Builtin.clear_ #[22] 0 [(Sl.v x38)].toArray) w (fun z w=>opE Tryz.prog Sl.v (Instr.sliceAt 22 (Sl.v x0) none (some (.int .i64 x5)) none) w (fun x41 w=>Ret x41 w)))))
def zEp (x0:Sl) (x1:Value) (w:World) (Ret:Sl→World→Prop):Prop:=
 Cl Tryz.prog 55 [(Sl.v x0),x1].toArray w (fun e w=>∃ (r:Int),e=.returned (.int .i64 r)∧(((r=(-1))→(Ret x0 w))∧(¬ (r=(-1))→(∃ (I:Int→Int→World→Prop) (μ:Int→Int→World→Nat),I r (IntKind.wrap .i64 (r+1)) w∧∀ (x5:Int) (x6:Int) w,I x5 x6 w→zDc x0 x1 Ret x5 x6 w (fun x5' x6' w'=>I x5' x6' w'∧μ x5' x6' w'<μ x5 x6 w)))))
set_option maxRecDepth 100000 in
theorem zIL (x0:Sl) (x1:Value) (w:World) (Ret:Sl→World→Prop) (H:zEp x0 x1 w Ret):Cl Tryz.prog 43 [(Sl.v x0),x1].toArray w (fun e w'=>∃ (r0:Sl),e=.returned (Sl.v r0)∧Ret r0 w'):=by
 unfold zEp at H
 refine zAY 42 (zipE 0 [(Sl.v x0),x1]) Tryz.func43 rfl rfl (by rfl) rfl ?_
 intro a g
 replace g:Sat [] 42 [(0,(Sl.v x0)),(1,x1)] a:=g
 refine zAF (zAA (g.as_ rfl fun _ g=>(zAG (tn (zAF (zAA (g.mv rfl fun _ g=>(g.mv rfl fun _ g=>(g.call (zAQ g ent55 rfl rfl) H fun e w H=>?_)))))))))
 obtain ⟨r,rfl,H⟩:=H
 refine ⟨_,rfl,fun _ g=>(g.as_ rfl fun _ g=>(zAG (tn (zAF (zAF (zAA (g.mv rfl fun _ g=>(g.pur (zGX g rfl rfl) fun _ g=>(zAG (tn (zAR g rfl (fun hc=>?_) (fun hc=>?_))))))))))))⟩
 ·replace H:=H.1 hc
  exact zAF (zAA (g.mv rfl fun _ g=>(g.as_ rfl fun _ g=>(zAG (tn (zAf (tr (zAt g rfl rfl ⟨_,rfl,H⟩))))))))
 ·replace H:=H.2 hc
  refine zAP (tn (zAF (zAF (zAA (g.mv rfl fun _ g=>(g.pur (zAn g rfl rfl) fun _ g=>(g.as_ rfl fun _ g=>(zAG (tn (zAN ?_))))))))))
  obtain ⟨I_l1,μ_l1,h0,hb⟩:=H
  refine zBl (ds:=[]) (N:=42) (σ:=Int × Int) (fun s=>[(5,(.int .i64 s.1)),(6,(.int .i64 s.2)),(0,(Sl.v x0)),(1,x1)]) (fun s w=>I_l1 s.1 s.2 w) (fun s w=>μ_l1 s.1 s.2 w) (r,(IntKind.wrap .i64 (r+1))) h0 (g.weak ⟨rfl,rfl,rfl,rfl,trivial⟩) ?_
  rintro ⟨x5,x6⟩ w a hI g
  try dsimp only at hI g
  obtain ⟨Kl1,hK_l1⟩:∃ K:Int→Int→World→Prop,K=(fun x5' x6' w'=>I_l1 x5' x6' w'∧μ_l1 x5' x6' w'<μ_l1 x5 x6 w):=⟨_,rfl⟩
  have H:zDc x0 x1 Ret x5 x6 w Kl1:=by rw [hK_l1];exact hb x5 x6 w hI
  clear hb h0 hI
  unfold zDc at H
  refine zAF (zAF (zAA (g.mv rfl fun _ g=>(g.mv rfl fun _ g=>(g.purR (fun w=>zGm g Tryz.underlying22 rfl) fun _ g=>(g.pur (zDp g rfl rfl) fun _ g=>(zAG (tn (zAR g rfl (fun hc=>?_) (fun hc=>?_))))))))))
  ·replace H:=H.1 hc
   refine zAP (tn (zBG (ds:=[]) (N:=42) (σ:=Int) (fun s=>[(5,(.int .i64 s)),(0,(Sl.v x0)),(1,x1),(6,(.int .i64 x6))]) (fun s w=>zBM x6 Kl1 s w) ?_ (fun hj2=>?_)))
   ·intro x5_1 w a H g
    try dsimp only at H g
    unfold zBM at H
    refine zAA (g.mv rfl fun _ g=>(g.pur (zAn g rfl rfl) fun _ g=>(g.as_ rfl fun _ g=>?_)))
    rw [hK_l1] at H
    exact zAG (tn ⟨(x5_1,(IntKind.wrap .i64 (x6+1))),g.weak ⟨rfl,rfl,rfl,rfl,trivial⟩,H⟩)
   ·refine zAN (zAF (zAA (g.mv rfl fun _ g=>(g.mv rfl fun _ g=>(g.op (zAC g rfl rfl) H fun x24 w a H g=>(g.op (zAI g rfl) H fun x25 w a H g=>(g.op (zEH) H fun x7 w a H g=>(g.opu (zAM g rfl rfl) H fun w a H g=>(zAG (tn (zAF (zAA (g.mv rfl fun _ g=>(g.op (zAI g rfl) H fun x27 w a H g=>(g.callV rfl rfl H fun e w H=>?_)))))))))))))))
    obtain ⟨r_1,rfl,H⟩:=H
    refine ⟨_,rfl,fun _ g=>(g.pur (zGp g rfl) fun _ g=>(zAG (tn (zAV g rfl (fun hc=>?_) (fun hc=>?_)))))⟩
    ·replace H:=H.1 hc
     exact zAF (zAA (g.mv rfl fun _ g=>(g.mv rfl fun _ g=>(g.op (zAI g rfl) H fun x32 w a H g=>(g.op (zAC g rfl rfl) H fun x33 w a H g=>(g.opu (zAM g rfl rfl) H fun w a H g=>(zAG (tn (zAA (g.mv rfl fun _ g=>(g.pur (zAn g rfl rfl) fun _ g=>(g.as_ rfl fun _ g=>(zAG (bn (tn (hj2 (IntKind.wrap .i64 (x5+1)) _ _ H (g.weak ⟨rfl,rfl,rfl,rfl,trivial⟩)))))))))))))))))
    ·replace H:=H.2 hc
     exact zAP (bn (tn (hj2 x5 _ _ H (g.weak ⟨rfl,rfl,rfl,rfl,trivial⟩))))
  ·replace H:=H.2 hc
   exact zBJ (te (te (be (tn (zAF (zAA (g.mv rfl fun _ g=>(g.mv rfl fun _ g=>(g.op (zNq g rfl rfl rfl rfl) H fun x38 w a H g=>(g.op0 (zTU g rfl) H fun z w a H g=>(zAG (tn (zAF (zAA (g.mv rfl fun _ g=>(g.mv rfl fun _ g=>(g.op (zNq g rfl rfl rfl rfl) H fun x41 w a H g=>(g.as_ rfl fun _ g=>(zAG (tn (zAf (zAt g rfl rfl ⟨_,rfl,H⟩))))))))))))))))))))))
def zG6 (Ret:Bool→World→Prop) (x25:Bool) (w:World):Prop:=
 Ret x25 w
def zG2 (Ret:Bool→World→Prop) (x24:Bool) (w:World):Prop:=
 zG6 Ret x24 w
def zKi (x0:zAm) (x1:ByteArray) (w:World) (Ret:Bool→World→Prop):Prop:=
 opE Tryz.prog Value.pointer (Instr.box 103 (zAm.v x0)) w (fun x2 w=>opE Tryz.prog Value.pointer (Instr.fieldAt 103 (.pointer x2) 2) w (fun x5 w=>opE Tryz.prog Value.bool (Instr.loadAt 4 (.pointer x5)) w (fun x6 w=>(x6=true→(opE Tryz.prog Value.pointer (Instr.fieldAt 103 (.pointer x2) 0) w (fun x8 w=>opE Tryz.prog Value.string (Instr.loadAt 9 (.pointer x8)) w (fun x9 w=>Ret (decide (x1=x9)) w))))∧(x6=false→(opE Tryz.prog Value.pointer (Instr.fieldAt 103 (.pointer x2) 0) w (fun x12 w=>opE Tryz.prog Value.string (Instr.loadAt 9 (.pointer x12)) w (fun x13 w=>((!sLt x1 x13)=true→(opE Tryz.prog Value.pointer (Instr.fieldAt 103 (.pointer x2) 1) w (fun x16 w=>opE Tryz.prog Value.string (Instr.loadAt 9 (.pointer x16)) w (fun x17 w=>((x17=(ByteArray.mk #[]))→(zG2 Ret true w))∧(¬ (x17=(ByteArray.mk #[]))→(opE Tryz.prog Value.pointer (Instr.fieldAt 103 (.pointer x2) 1) w (fun x21 w=>opE Tryz.prog Value.string (Instr.loadAt 9 (.pointer x21)) w (fun x22 w=>zG2 Ret (sLt x1 x22) w))))))))∧((!sLt x1 x13)=false→(zG6 Ret false w)))))))))
set_option maxRecDepth 100000 in
theorem zNd (x0:zAm) (x1:ByteArray) (w:World) (Ret:Bool→World→Prop) (H:zKi x0 x1 w Ret):Cl Tryz.prog 45 [(zAm.v x0),(.string x1)].toArray w (fun e w'=>∃ (r0:Bool),e=.returned (.bool r0)∧Ret r0 w'):=by
 unfold zKi at H
 refine zAY 26 (zipE 0 [(zAm.v x0),(.string x1)]) Tryz.func45 rfl rfl (by rfl) rfl ?_
 intro a g
 replace g:Sat [] 26 [(0,(zAm.v x0)),(1,(.string x1))] a:=g
 refine zAF (zAA (g.op (zIm g rfl) H fun x2 w a H g=>(g.as_ rfl fun _ g=>(zAG (tn (zAF (zAF (zAA (g.op (zAJ g rfl) H fun x5 w a H g=>(g.op (zAI g rfl) H fun x6 w a H g=>(zAG (tn (zAV g rfl (fun hc=>?_) (fun hc=>?_))))))))))))))
 ·replace H:=H.1 hc
  exact zAF (zAA (g.mv rfl fun _ g=>(g.op (zAJ g rfl) H fun x8 w a H g=>(g.op (zAI g rfl) H fun x9 w a H g=>(g.pur (zQa g rfl rfl) fun _ g=>(g.as_ rfl fun _ g=>(zAG (tn (zAf (tr (zAt g rfl rfl ⟨_,rfl,H⟩)))))))))))
 ·replace H:=H.2 hc
  refine zAP (tn (zAF (zAA (g.mv rfl fun _ g=>(g.op (zAJ g rfl) H fun x12 w a H g=>(g.op (zAI g rfl) H fun x13 w a H g=>(g.pur (zTA g rfl rfl) fun _ g=>(g.mv rfl fun _ g=>(WL.join (ds:=[]) (N:=26) (σ:=Bool) (fun s=>[(25,(.bool s))]) (fun s w=>zG6 Ret s w) 10 ?_ (fun hr1=>?_))))))))))
  ·intro x25 w a H g
   try dsimp only at H g
   unfold zG6 at H
   exact g.as_ rfl fun _ g=>zAG (tn (zAf (zAt g rfl rfl ⟨_,rfl,H⟩)))
  ·rcases Bool.eq_false_or_eq_true ((!sLt x1 x13)) with hbr1|hbr1
   ·replace H:=H.1 hbr1
    replace g:=g.bool (b:=true) (t:=15) rfl (hbr1)
    refine g.on (by rfl) (by rfl) (g.op (zAJ g rfl) H fun x16 w a H g=>(g.on (by rfl) (by rfl) (g.op (zAI g rfl) H fun x17 w a H g=>(g.on (by rfl) (by rfl) (g.pur (zQa g rfl rfl) fun _ g=>(g.on (by rfl) (by rfl) (g.mv rfl fun _ g=>(WL.join (ds:=[]) (N:=26) (σ:=Bool) (fun s=>[(24,(.bool s)),(4,(.bool false)),(15,(.bool true))]) (fun s w=>zG2 Ret s w) 5 ?_ (fun hr2=>?_)))))))))
    ·intro x24 w a H g
     try dsimp only at H g
     unfold zG2 at H
     exact g.pur (zAj g rfl rfl) fun _ g=>hr1 x24 _ _ H (g.weak ⟨rfl,trivial⟩)
    ·rcases Classical.em ((x17=(ByteArray.mk #[]))) with hbr2|hbr2
     ·replace H:=H.1 hbr2
      replace g:=g.bool (b:=true) (t:=19) rfl (decide_eq_true hbr2)
      exact g.off (by rfl) (by rfl) (by decide) (fun _ g=>(g.off (by rfl) (by rfl) (by decide) (fun _ g=>(g.off (by rfl) (by rfl) (by decide) (fun _ g=>(g.off (by rfl) (by rfl) (by decide) (fun _ g=>(g.on (by rfl) (by rfl) (g.pur (zAj g rfl rfl) fun _ g=>(hr2 true _ _ H (g.weak ⟨rfl,rfl,rfl,trivial⟩)))))))))))
     ·replace H:=H.2 hbr2
      replace g:=g.bool (b:=false) (t:=19) rfl (decide_eq_false hbr2)
      exact g.on (by rfl) (by rfl) (g.mv rfl fun _ g=>(g.on (by rfl) (by rfl) (g.op (zAJ g rfl) H fun x21 w a H g=>(g.on (by rfl) (by rfl) (g.op (zAI g rfl) H fun x22 w a H g=>(g.on (by rfl) (by rfl) (g.pur (zTE g rfl rfl) fun _ g=>(g.on (by rfl) (by rfl) (g.pur (zAi g rfl rfl) fun _ g=>(hr2 (sLt x1 x22) _ _ H (g.weak ⟨rfl,rfl,rfl,trivial⟩)))))))))))
   ·replace H:=H.2 hbr1
    replace g:=g.bool (b:=false) (t:=15) rfl (hbr1)
    exact g.off (by rfl) (by rfl) (by decide) (fun _ g=>(g.off (by rfl) (by rfl) (by decide) (fun _ g=>(g.off (by rfl) (by rfl) (by decide) (fun _ g=>(g.off (by rfl) (by rfl) (by decide) (fun _ g=>(g.offU (by rfl) (by rfl) (fun _ g=>(g.offU (by rfl) (by rfl) (fun _ g=>(g.offU (by rfl) (by rfl) (fun _ g=>(g.offU (by rfl) (by rfl) (fun _ g=>(g.off (by rfl) (by rfl) (by decide) (fun _ g=>(g.pur (zAi g rfl rfl) fun _ g=>(hr1 false _ _ H (g.weak ⟨rfl,trivial⟩))))))))))))))))))))
def zCY (x0:Sl) (x1:Value) (Ret:Int→World→Prop) (x8:Int) (w:World) (Kl1:Int→World→Prop):Prop:=
 ((x8<(x0.len:Int))→(opE Tryz.prog Value.pointer (Instr.indexAt 22 (Sl.v x0) (.int .i64 x8)) w (fun x14 w=>opE Tryz.prog zAE.v (Instr.loadAt 66 (.pointer x14)) w (fun x15 w=>CallV Tryz.prog x1 [(zAE.v x15)] w (fun e w=>∃ (r:Bool),e=.returned (.bool r)∧((r=true→(Ret x8 w))∧(r=false→(Kl1 (IntKind.wrap .i64 (x8+1)) w))))))))∧(¬ (x8<(x0.len:Int))→(Ret (-1) w))
def zEC (x0:Sl) (x1:Value) (w:World) (Ret:Int→World→Prop):Prop:=
 ∃ (I:Int→World→Prop) (μ:Int→World→Nat),I 0 w∧∀ (x8:Int) w,I x8 w→zCY x0 x1 Ret x8 w (fun x8' w'=>I x8' w'∧μ x8' w'<μ x8 w)
set_option maxRecDepth 100000 in
theorem zGA (x0:Sl) (x1:Value) (w:World) (Ret:Int→World→Prop) (H:zEC x0 x1 w Ret):Cl Tryz.prog 55 [(Sl.v x0),x1].toArray w (fun e w'=>∃ (r0:Int),e=.returned (.int .i64 r0)∧Ret r0 w'):=by
 unfold zEC at H
 refine zAY 19 (zipE 0 [(Sl.v x0),x1]) Tryz.func55 rfl rfl (by rfl) rfl ?_
 intro a g
 replace g:Sat [] 19 [(0,(Sl.v x0)),(1,x1)] a:=g
 refine zAF (zAA (g.as_ rfl fun _ g=>(zAG (tn (zAF (zAF (zAA (g.mv rfl fun _ g=>(g.purR (fun w=>zGm g Tryz.underlying22 rfl) fun _ g=>(g.mv rfl fun _ g=>(zAG (tn (zAN ?_)))))))))))))
 obtain ⟨I_l1,μ_l1,h0,hb⟩:=H
 refine zBl (ds:=[]) (N:=19) (σ:=Int) (fun s=>[(8,(.int .i64 s)),(0,(Sl.v x0)),(1,x1),(7,(.int .i64 (x0.len:Int)))]) (fun s w=>I_l1 s w) (fun s w=>μ_l1 s w) 0 h0 (g.weak ⟨rfl,rfl,rfl,rfl,trivial⟩) ?_
 intro x8 w a hI g
 try dsimp only at hI g
 obtain ⟨Kl1,hK_l1⟩:∃ K:Int→World→Prop,K=(fun x8' w'=>I_l1 x8' w'∧μ_l1 x8' w'<μ_l1 x8 w):=⟨_,rfl⟩
 have H:zCY x0 x1 Ret x8 w Kl1:=by rw [hK_l1];exact hb x8 w hI
 clear hb h0 hI
 unfold zCY at H
 refine zAF (zAA (g.pur (zDp g rfl rfl) fun _ g=>(zAG (tn (zAF (zAR g rfl (fun hc=>?_) (fun hc=>?_)))))))
 ·replace H:=H.1 hc
  refine zAP (tn (zAF (zAN (zAF (zAA (g.mv rfl fun _ g=>(g.as_ rfl fun _ g=>(zAG (tn (zAF (zAA (g.mv rfl fun _ g=>(g.mv rfl fun _ g=>(g.mv rfl fun _ g=>(g.op (zAC g rfl rfl) H fun x14 w a H g=>(g.op (zAI g rfl) H fun x15 w a H g=>(g.callV rfl rfl H fun e w H=>?_)))))))))))))))))
  obtain ⟨r,rfl,H⟩:=H
  refine ⟨_,rfl,fun _ g=>(zAG (tn (zAV g rfl (fun hc=>?_) (fun hc=>?_))))⟩
  ·replace H:=H.1 hc
   exact zAF (zAA (g.mv rfl fun _ g=>(g.as_ rfl fun _ g=>(zAG (tn (zAf (br (tr (tr (br (tr (zAt g rfl rfl ⟨_,rfl,H⟩))))))))))))
  ·replace H:=H.2 hc
   refine zAP (bn (tn (zAA (g.pur (zAn g rfl rfl) fun _ g=>(g.mv rfl fun _ g=>?_)))))
   rw [hK_l1] at H
   exact zAG (tn ⟨(IntKind.wrap .i64 (x8+1)),g.weak ⟨rfl,rfl,rfl,rfl,trivial⟩,H⟩)
 ·replace H:=H.2 hc
  exact zBJ (te (te (be (tn (zAF (zAA (g.as_ rfl fun _ g=>(zAG (tn (zAf (zAt g rfl rfl ⟨_,rfl,H⟩)))))))))))
def zER (Ret:Bool→World→Prop) (x18:Bool) (w:World):Prop:=
 nextB w (fun w=>Ret x18 w)
def zGj (x0:zAB) (x1:Option Addr) (w:World) (Ret:Bool→World→Prop):Prop:=
 opE Tryz.prog Value.pointer (Instr.box 72 (zAB.v x0)) w (fun x2 w=>opB Tryz.prog Value.pointer (Instr.fieldAt 72 (.pointer x2) 1) w (fun x4=>opB Tryz.prog (Value.int .u64) (Instr.loadAt 37 (.pointer x4)) w (fun x5=>opB Tryz.prog Value.pointer (Instr.loadAt 88 (.pointer x1)) w (fun x6=>nilOk (.pointer x6)∧(opB Tryz.prog Value.pointer (Instr.fieldAt 92 (.pointer x6) 0) w (fun x8=>opB Tryz.prog (Value.int .u64) (Instr.loadAt 37 (.pointer x8)) w (fun x9=>((x9<x5)→(opB Tryz.prog Value.pointer (Instr.loadAt 88 (.pointer x1)) w (fun x12=>nilOk (.pointer x12)∧(opB Tryz.prog Value.pointer (Instr.fieldAt 92 (.pointer x12) 1) w (fun x14=>opB Tryz.prog Sl.v (Instr.loadAt 90 (.pointer x14)) w (fun x15=>∃ (r:Bool),(∀ w',Bel w w'→Cl Tryz.prog 59 [(Sl.v x15),(.func (.func 60) [].toArray [(.pointer x2)].toArray)].toArray w' (fun e w''=>e=.returned (.bool r)∧Bel w' w''))∧(zER Ret r w)))))))∧(¬ (x9<x5)→(zER Ret false w)))))))))
set_option maxRecDepth 100000 in
theorem zKb (x0:zAB) (x1:Option Addr) (w:World) (Ret:Bool→World→Prop) (H:zGj x0 x1 w Ret):Cl Tryz.prog 58 [(zAB.v x0),(.pointer x1)].toArray w (fun e w'=>∃ (r0:Bool),e=.returned (.bool r0)∧Ret r0 w'):=by
 unfold zGj at H
 refine zAY 19 (zipE 0 [(zAB.v x0),(.pointer x1)]) Tryz.func58 rfl rfl (by rfl) rfl ?_
 intro a g
 replace g:Sat [] 19 [(0,(zAB.v x0)),(1,(.pointer x1))] a:=g
 refine zAF (zAA (g.op (zIm g rfl) H fun x2 w a H g=>(g.as_ rfl fun _ g=>(zAG (tn (zAF (zEB (by kernel_rfl) (by kernel_rfl) (g.qop (zAJ g rfl) H fun x4 a H g=>(g.qop (zAI g rfl) H fun x5 a H g=>(g.qop (zAI g rfl) H fun x6 a H g=>(g.qpur (zAS g rfl H.1) fun _ g=>?_)))))))))))
 replace H:=H.2
 refine g.qop (zAJ g rfl) H fun x8 a H g=>g.qop (zAI g rfl) H fun x9 a H g=>g.qpur (zIG g rfl rfl) fun _ g=>g.qm rfl fun _ g=>WQ.join (ds:=[]) (N:=19) (σ:=Bool) (fun s=>[(18,(.bool s))]) (fun s=>zER Ret s w) 7 ?_ (fun hr1=>?_)
 ·intro x18 a H g
  try dsimp only at H g
  unfold zER at H
  refine g.qpur (zEX g rfl) fun _ g=>zED (fun w hB=>?_)
  replace H:=H w hB
  exact (tn (zAf (zAt g rfl rfl ⟨_,rfl,H⟩)))
 ·rcases Classical.em ((x9<x5)) with hbr1|hbr1
  ·replace H:=H.1 hbr1
   replace g:=g.bool (b:=true) (t:=11) rfl (decide_eq_true hbr1)
   refine g.qon (by rfl) (by rfl) (g.qop (zAI g rfl) H fun x12 a H g=>(g.qon (by rfl) (by rfl) (g.qpur (zAS g rfl H.1) fun _ g=>?_)))
   replace H:=H.2
   refine g.qon (by rfl) (by rfl) (g.qop (zAJ g rfl) H fun x14 a H g=>(g.qon (by rfl) (by rfl) (g.qop (zAI g rfl) H fun x15 a H g=>(g.qon (by rfl) (by rfl) (g.qpur (zKM g rfl rfl) fun _ g=>(g.qon (by rfl) (by rfl) ?_))))))
   obtain ⟨r,hc,H⟩:=H
   exact g.qcall (fun w'=>zAQ g ent59 rfl rfl) hc fun _ g=>g.qpur (zAj g rfl rfl) fun _ g=>hr1 r _ H (g.weak ⟨rfl,trivial⟩)
  ·replace H:=H.2 hbr1
   replace g:=g.bool (b:=false) (t:=11) rfl (decide_eq_false hbr1)
   exact g.qoff (by rfl) (by rfl) (by decide) (fun _ g=>(g.qoff (by rfl) (by rfl) (by decide) (fun _ g=>(g.qoff (by rfl) (by rfl) (by decide) (fun _ g=>(g.qoff (by rfl) (by rfl) (by decide) (fun _ g=>(g.qoff (by rfl) (by rfl) (by decide) (fun _ g=>(g.qoff (by rfl) (by rfl) (by decide) (fun _ g=>(g.qpur (zAi g rfl rfl) fun _ g=>(hr1 false _ H (g.weak ⟨rfl,trivial⟩))))))))))))))
def zEe (x0:Sl) (x1:Value) (w:World) (Ret:Bool→World→Prop):Prop:=
 Cl Tryz.prog 79 [(Sl.v x0),x1].toArray w (fun e w=>∃ (r:Int),e=.returned (.int .i64 r)∧(Ret (decide (0≤r)) w))
set_option maxRecDepth 100000 in
theorem zHj (x0:Sl) (x1:Value) (w:World) (Ret:Bool→World→Prop) (H:zEe x0 x1 w Ret):Cl Tryz.prog 59 [(Sl.v x0),x1].toArray w (fun e w'=>∃ (r0:Bool),e=.returned (.bool r0)∧Ret r0 w'):=by
 unfold zEe at H
 refine zAY 9 (zipE 0 [(Sl.v x0),x1]) Tryz.func59 rfl rfl (by rfl) rfl ?_
 intro a g
 replace g:Sat [] 9 [(0,(Sl.v x0)),(1,x1)] a:=g
 refine zAF (zAA (g.as_ rfl fun _ g=>(zAG (tn (zAF (zAA (g.mv rfl fun _ g=>(g.mv rfl fun _ g=>(g.call (zAQ g ent79 rfl rfl) H fun e w H=>?_)))))))))
 obtain ⟨r,rfl,H⟩:=H
 exact ⟨_,rfl,fun _ g=>(g.pur (zF7 g rfl rfl) fun _ g=>(g.as_ rfl fun _ g=>(zAG (tn (zAf (zAt g rfl rfl ⟨_,rfl,H⟩))))))⟩
def zGL (x0:zAm) (x1:Option Addr) (w:World) (Ret:Bool→World→Prop):Prop:=
 opE Tryz.prog Value.pointer (Instr.box 103 (zAm.v x0)) w (fun x2 w=>opE Tryz.prog zAm.v (Instr.loadAt 103 (.pointer x2)) w (fun x4 w=>opE Tryz.prog Value.pointer (Instr.fieldAt 72 (.pointer x1) 0) w (fun x5 w=>opE Tryz.prog Value.string (Instr.loadAt 9 (.pointer x5)) w (fun x6 w=>Cl Tryz.prog 45 [(zAm.v x4),(.string x6)].toArray w (fun e w=>∃ (r:Bool),e=.returned (.bool r)∧(Ret r w))))))
set_option maxRecDepth 100000 in
theorem zKL (x0:zAm) (x1:Option Addr) (w:World) (Ret:Bool→World→Prop) (H:zGL x0 x1 w Ret):Cl Tryz.prog 60 [(zAm.v x0),(.pointer x1)].toArray w (fun e w'=>∃ (r0:Bool),e=.returned (.bool r0)∧Ret r0 w'):=by
 unfold zGL at H
 refine zAY 8 (zipE 0 [(zAm.v x0),(.pointer x1)]) Tryz.func60 rfl rfl (by rfl) rfl ?_
 intro a g
 replace g:Sat [] 8 [(0,(zAm.v x0)),(1,(.pointer x1))] a:=g
 refine zAF (zAA (g.op (zIm g rfl) H fun x2 w a H g=>(g.as_ rfl fun _ g=>(zAG (tn (zAF (zAA (g.op (zAI g rfl) H fun x4 w a H g=>(g.op (zAJ g rfl) H fun x5 w a H g=>(g.op (zAI g rfl) H fun x6 w a H g=>(g.call (zAQ g ent45 rfl rfl) H fun e w H=>?_)))))))))))
 obtain ⟨r,rfl,H⟩:=H
 exact ⟨_,rfl,fun _ g=>(g.as_ rfl fun _ g=>(zAG (tn (zAf (zAt g rfl rfl ⟨_,rfl,H⟩)))))⟩
def zF1 (x0:Value) (x1:Value) (w:World) (Ret:Sl→World→Prop):Prop:=
 Cl Tryz.prog 80 [x0].toArray w (fun e w=>∃ (r:Sl),e=.returned (Sl.v r)∧(Cl Tryz.prog 81 [(Sl.v r),x1].toArray w (fun e w=>e=.returned (.tuple [].toArray)∧(Ret r w))))
set_option maxRecDepth 100000 in
theorem zJ1 (x0:Value) (x1:Value) (w:World) (Ret:Sl→World→Prop) (H:zF1 x0 x1 w Ret):Cl Tryz.prog 61 [x0,x1].toArray w (fun e w'=>∃ (r0:Sl),e=.returned (Sl.v r0)∧Ret r0 w'):=by
 unfold zF1 at H
 refine zAY 12 (zipE 0 [x0,x1]) Tryz.func61 rfl rfl (by rfl) rfl ?_
 intro a g
 replace g:Sat [] 12 [(0,x0),(1,x1)] a:=g
 refine zAF (zAA (g.as_ rfl fun _ g=>(zAG (tn (zAF (zAA (g.mv rfl fun _ g=>(g.call (zAQ g ent80 rfl rfl) H fun e w H=>?_))))))))
 obtain ⟨r,rfl,H⟩:=H
 refine ⟨_,rfl,fun _ g=>(g.as_ rfl fun _ g=>(zAG (tn (zAF (zAA (g.mv rfl fun _ g=>(g.mv rfl fun _ g=>(g.call (zAQ g ent81 rfl rfl) H fun e w H=>?_))))))))⟩
 obtain ⟨rfl,H⟩:=H
 exact ⟨_,rfl,fun _ g=>(zAG (tn (zAF (zAA (g.mv rfl fun _ g=>(g.as_ rfl fun _ g=>(zAG (tn (zAf (zAt g rfl rfl ⟨_,rfl,H⟩))))))))))⟩
def zDY (x0:Option Nat) (w:World) (Ret:Value→World→Prop):Prop:=
 opE Tryz.prog Value.pointer (Instr.box 89 (.map x0)) w (fun x1 w=>Ret (.func (.func 82) [].toArray [(.pointer x1)].toArray) w)
set_option maxRecDepth 100000 in
theorem zGH (x0:Option Nat) (w:World) (Ret:Value→World→Prop) (H:zDY x0 w Ret):Cl Tryz.prog 62 [(.map x0)].toArray w (fun e w'=>∃ (r0:Value),e=.returned r0∧Ret r0 w'):=by
 unfold zDY at H
 refine zAY 4 (zipE 0 [(.map x0)]) Tryz.func62 rfl rfl (by rfl) rfl ?_
 intro a g
 replace g:Sat [] 4 [(0,(.map x0))] a:=g
 exact zAF (zAA (g.op (zIm g rfl) H fun x1 w a H g=>(g.as_ rfl fun _ g=>(zAG (tn (zAF (zAA (g.pur (zKM g rfl rfl) fun _ g=>(g.as_ rfl fun _ g=>(zAG (tn (zAf (zAt g rfl rfl ⟨_,rfl,H⟩)))))))))))))
def zJo (x0:zAD) (x1:zAD) (w:World) (Ret:Int→World→Prop):Prop:=
 opE Tryz.prog Value.pointer (Instr.box 34 (zAD.v x0)) w (fun x2 w=>opE Tryz.prog Value.pointer (Instr.box 34 (zAD.v x1)) w (fun x3 w=>opE Tryz.prog Value.pointer (Instr.fieldAt 34 (.pointer x2) 0) w (fun x5 w=>opE Tryz.prog Value.string (Instr.loadAt 9 (.pointer x5)) w (fun x6 w=>opE Tryz.prog Value.pointer (Instr.fieldAt 34 (.pointer x3) 0) w (fun x7 w=>opE Tryz.prog Value.string (Instr.loadAt 9 (.pointer x7)) w (fun x8 w=>Cl Tryz.prog 48 [(.string x6),(.string x8)].toArray w (fun e w=>∃ (r:Int),e=.returned (.int .i64 r)∧(Ret r w))))))))
set_option maxRecDepth 100000 in
theorem zMS (x0:zAD) (x1:zAD) (w:World) (Ret:Int→World→Prop) (H:zJo x0 x1 w Ret):Cl Tryz.prog 63 [(zAD.v x0),(zAD.v x1)].toArray w (fun e w'=>∃ (r0:Int),e=.returned (.int .i64 r0)∧Ret r0 w'):=by
 unfold zJo at H
 refine zAY 10 (zipE 0 [(zAD.v x0),(zAD.v x1)]) Tryz.func63 rfl rfl (by rfl) rfl ?_
 intro a g
 replace g:Sat [] 10 [(0,(zAD.v x0)),(1,(zAD.v x1))] a:=g
 refine zAF (zAA (g.op (zIm g rfl) H fun x2 w a H g=>(g.op (zIm g rfl) H fun x3 w a H g=>(g.as_ rfl fun _ g=>(zAG (tn (zAF (zAA (g.op (zAJ g rfl) H fun x5 w a H g=>(g.op (zAI g rfl) H fun x6 w a H g=>(g.op (zAJ g rfl) H fun x7 w a H g=>(g.op (zAI g rfl) H fun x8 w a H g=>(g.call (zAQ g ent48 rfl rfl) H fun e w H=>?_)))))))))))))
 obtain ⟨r,rfl,H⟩:=H
 exact ⟨_,rfl,fun _ g=>(g.as_ rfl fun _ g=>(zAG (tn (zAf (zAt g rfl rfl ⟨_,rfl,H⟩)))))⟩
def zDl (x0:Sl) (x1:Value) (Ret:Int→World→Prop) (x8:Int) (w:World) (Kl1:Int→World→Prop):Prop:=
 ((x8<(x0.len:Int))→(opE Tryz.prog Value.pointer (Instr.indexAt 90 (Sl.v x0) (.int .i64 x8)) w (fun x14 w=>opE Tryz.prog zAm.v (Instr.loadAt 103 (.pointer x14)) w (fun x15 w=>CallV Tryz.prog x1 [(zAm.v x15)] w (fun e w=>∃ (r:Bool),e=.returned (.bool r)∧((r=true→(Ret x8 w))∧(r=false→(Kl1 (IntKind.wrap .i64 (x8+1)) w))))))))∧(¬ (x8<(x0.len:Int))→(Ret (-1) w))
def zEx (x0:Sl) (x1:Value) (w:World) (Ret:Int→World→Prop):Prop:=
 ∃ (I:Int→World→Prop) (μ:Int→World→Nat),I 0 w∧∀ (x8:Int) w,I x8 w→zDl x0 x1 Ret x8 w (fun x8' w'=>I x8' w'∧μ x8' w'<μ x8 w)
set_option maxRecDepth 100000 in
theorem zId (x0:Sl) (x1:Value) (w:World) (Ret:Int→World→Prop) (H:zEx x0 x1 w Ret):Cl Tryz.prog 79 [(Sl.v x0),x1].toArray w (fun e w'=>∃ (r0:Int),e=.returned (.int .i64 r0)∧Ret r0 w'):=by
 unfold zEx at H
 refine zAY 19 (zipE 0 [(Sl.v x0),x1]) Tryz.func79 rfl rfl (by rfl) rfl ?_
 intro a g
 replace g:Sat [] 19 [(0,(Sl.v x0)),(1,x1)] a:=g
 refine zAF (zAA (g.as_ rfl fun _ g=>(zAG (tn (zAF (zAF (zAA (g.mv rfl fun _ g=>(g.purR (fun w=>zGm g Tryz.underlying90 rfl) fun _ g=>(g.mv rfl fun _ g=>(zAG (tn (zAN ?_)))))))))))))
 obtain ⟨I_l1,μ_l1,h0,hb⟩:=H
 refine zBl (ds:=[]) (N:=19) (σ:=Int) (fun s=>[(8,(.int .i64 s)),(0,(Sl.v x0)),(1,x1),(7,(.int .i64 (x0.len:Int)))]) (fun s w=>I_l1 s w) (fun s w=>μ_l1 s w) 0 h0 (g.weak ⟨rfl,rfl,rfl,rfl,trivial⟩) ?_
 intro x8 w a hI g
 try dsimp only at hI g
 obtain ⟨Kl1,hK_l1⟩:∃ K:Int→World→Prop,K=(fun x8' w'=>I_l1 x8' w'∧μ_l1 x8' w'<μ_l1 x8 w):=⟨_,rfl⟩
 have H:zDl x0 x1 Ret x8 w Kl1:=by rw [hK_l1];exact hb x8 w hI
 clear hb h0 hI
 unfold zDl at H
 refine zAF (zAA (g.pur (zDp g rfl rfl) fun _ g=>(zAG (tn (zAF (zAR g rfl (fun hc=>?_) (fun hc=>?_)))))))
 ·replace H:=H.1 hc
  refine zAP (tn (zAF (zAN (zAF (zAA (g.mv rfl fun _ g=>(g.as_ rfl fun _ g=>(zAG (tn (zAF (zAA (g.mv rfl fun _ g=>(g.mv rfl fun _ g=>(g.mv rfl fun _ g=>(g.op (zAC g rfl rfl) H fun x14 w a H g=>(g.op (zAI g rfl) H fun x15 w a H g=>(g.callV rfl rfl H fun e w H=>?_)))))))))))))))))
  obtain ⟨r,rfl,H⟩:=H
  refine ⟨_,rfl,fun _ g=>(zAG (tn (zAV g rfl (fun hc=>?_) (fun hc=>?_))))⟩
  ·replace H:=H.1 hc
   exact zAF (zAA (g.mv rfl fun _ g=>(g.as_ rfl fun _ g=>(zAG (tn (zAf (br (tr (tr (br (tr (zAt g rfl rfl ⟨_,rfl,H⟩))))))))))))
  ·replace H:=H.2 hc
   refine zAP (bn (tn (zAA (g.pur (zAn g rfl rfl) fun _ g=>(g.mv rfl fun _ g=>?_)))))
   rw [hK_l1] at H
   exact zAG (tn ⟨(IntKind.wrap .i64 (x8+1)),g.weak ⟨rfl,rfl,rfl,rfl,trivial⟩,H⟩)
 ·replace H:=H.2 hc
  exact zBJ (te (te (be (tn (zAF (zAA (g.as_ rfl fun _ g=>(zAG (tn (zAf (zAt g rfl rfl ⟨_,rfl,H⟩)))))))))))
def zGS (x0:Value) (w:World) (Ret:Sl→World→Prop):Prop:=
 Cl Tryz.prog 102 [(Sl.v Sl.none),x0].toArray w (fun e w=>∃ (r:Sl),e=.returned (Sl.v r)∧(Ret r w))
set_option maxRecDepth 100000 in
theorem zKR (x0:Value) (w:World) (Ret:Sl→World→Prop) (H:zGS x0 w Ret):Cl Tryz.prog 80 [x0].toArray w (fun e w'=>∃ (r0:Sl),e=.returned (Sl.v r0)∧Ret r0 w'):=by
 unfold zGS at H
 refine zAY 5 (zipE 0 [x0]) Tryz.func80 rfl rfl (by rfl) rfl ?_
 intro a g
 replace g:Sat [] 5 [(0,x0)] a:=g
 refine zAF (zAA (g.as_ rfl fun _ g=>(zAG (tn (zAF (zAA (g.mv rfl fun _ g=>(g.call (zAQ g zUA rfl rfl) H fun e w H=>?_))))))))
 obtain ⟨r,rfl,H⟩:=H
 exact ⟨_,rfl,fun _ g=>(g.as_ rfl fun _ g=>(zAG (tn (zAf (zAt g rfl rfl ⟨_,rfl,H⟩)))))⟩
def zBF (x0:Value) (Ret:World→Prop) (x6:Option Addr) (w:World) (Kl1:World→Prop):Prop:=
 opE Tryz.prog (zOp id id) (Instr.next (.pointer x6) false 0) w (fun r w=>(r=none→(Ret w))∧(∀ k v,r=some (k,v)→(opE Tryz.prog (fun p:Value × Value=>.tuple [p.1,p.2].toArray) (Instr.entry (.pointer x6)) w (fun x9 w=>opE Tryz.prog Value.pointer (Instr.alloc 34 true (.tuple #[])) w (fun x4 w=>opU Tryz.prog (Instr.storeAt 34 (.pointer x4) x9.2) w (fun w=>opE Tryz.prog zAD.v (Instr.loadAt 34 (.pointer x4)) w (fun x12 w=>CallV Tryz.prog x0 [(zAD.v x12)] w (fun e w=>∃ (r_1:Bool),e=.returned (.bool r_1)∧(((!r_1)=true→(Ret w))∧((!r_1)=false→(Kl1 w)))))))))))
def zDI (x0:Value) (x1:Option Addr) (w:World) (Ret:World→Prop):Prop:=
 opE Tryz.prog Value.map (Instr.loadAt 89 (.pointer x1)) w (fun x5 w=>opE Tryz.prog Value.pointer (Instr.range 89 (.map x5)) w (fun x6 w=>∃ (I:World→Prop) (μ:World→Nat),I w∧∀ w,I w→zBF x0 Ret x6 w (fun w'=>I w'∧μ w'<μ w)))
set_option maxRecDepth 100000 in
theorem zF8 (x0:Value) (x1:Option Addr) (w:World) (Ret:World→Prop) (H:zDI x0 x1 w Ret):Cl Tryz.prog 82 [x0,(.pointer x1)].toArray w (fun e w'=>e=.returned (.tuple [].toArray)∧Ret w'):=by
 unfold zDI at H
 refine zAY 15 (zipE 0 [x0,(.pointer x1)]) Tryz.func82 rfl rfl (by rfl) rfl ?_
 intro a g
 replace g:Sat [] 15 [(0,x0),(1,(.pointer x1))] a:=g
 refine zAF (zAA (g.op (zAI g rfl) H fun x5 w a H g=>(g.op (zOG g rfl) H fun x6 w a H g=>(zAG (tn (zAN ?_))))))
 obtain ⟨I_l1,μ_l1,h0,hb⟩:=H
 refine zBl (ds:=[]) (N:=15) (σ:=Unit) (fun s=>[(0,x0),(6,(.pointer x6))]) (fun s w=>I_l1 w) (fun s w=>μ_l1 w) () h0 (g.weak ⟨rfl,rfl,trivial⟩) ?_
 rintro ⟨⟩ w a hI g
 try dsimp only at hI g
 obtain ⟨Kl1,hK_l1⟩:∃ K:World→Prop,K=(fun w'=>I_l1 w'∧μ_l1 w'<μ_l1 w):=⟨_,rfl⟩
 have H:zBF x0 Ret x6 w Kl1:=by rw [hK_l1];exact hb w hI
 clear hb h0 hI
 unfold zBF at H
 refine zAF (zAA (g.op (zP4 g rfl) H fun r w a H g=>?_))
 rcases r with _|⟨k,v⟩
 ·replace H:=H.1 rfl
  exact g.pur (zAO g rfl rfl) fun _ g=>zAG (tn (zAF (zAV g rfl (fun h=>nomatch h) (fun _=>(zBJ (te (te (be (zG1 g rfl ⟨rfl,H⟩)))))))))
 ·replace H:=H.2 _ _ rfl
  refine g.pur (zAO g rfl rfl) fun _ g=>zAG (tn (zAF (zAV g rfl (fun _=>(zAP (tn (zAN (zAF (zAA (g.op (zOS g rfl) H fun x9 w a H g=>(g.pur (zAO g rfl rfl) fun _ g=>(g.op (zEH) H fun x4 w a H g=>(g.opu (zAM g rfl rfl) H fun w a H g=>(zAG (tn (zAF (zAA (g.mv rfl fun _ g=>(g.op (zAI g rfl) H fun x12 w a H g=>(g.callV rfl rfl H fun e w H=>?_))))))))))))))))) (fun h=>nomatch h))))
  obtain ⟨r_1,rfl,H⟩:=H
  refine ⟨_,rfl,fun _ g=>(g.pur (zGp g rfl) fun _ g=>(zAG (tn (zAV g rfl (fun hc=>?_) (fun hc=>?_)))))⟩
  ·replace H:=H.1 hc
   exact zAf (br (tr (br (zKH g rfl ⟨rfl,H⟩))))
  ·replace H:=H.2 hc
   rw [hK_l1] at H
   exact zAP (bn (tn ⟨(),g.weak ⟨rfl,rfl,trivial⟩,H⟩))
def zEK (x2:Option Addr) (x7:zAD) (x5:Option Addr) (w:World) (Gf1:World→Prop) (Lf1:World→Prop):Prop:=
 opE Tryz.prog Sl.v (Instr.loadAt 30 (.pointer x2)) w (fun x8 w=>opE Tryz.prog zAD.v (Instr.loadAt 34 (.pointer x5)) w (fun x9 w=>opE Tryz.prog Sl.v (Instr.buildSlice 30 1 [(0,(zAD.v x9))].toArray) w (fun x10 w=>opE Tryz.prog Sl.v (Builtin.append_ #[30,30] 30 [(Sl.v x8),(Sl.v x10)].toArray) w (fun x11 w=>opU Tryz.prog (Instr.storeAt 30 (.pointer x2) (Sl.v x11)) w (fun w=>Gf1 w)))))
def zEk (x0:Sl) (x1:Value) (w:World) (Ret:Sl→World→Prop):Prop:=
 opE Tryz.prog Value.pointer (Instr.box 30 (Sl.v x0)) w (fun x2 w=>zT8 Tryz.prog x1 zAD.v 34 w (zEK x2) (fun D w=>opE Tryz.prog Sl.v (Instr.loadAt 30 (.pointer x2)) w (fun x12 w=>zRA D w (fun w=>Ret x12 w))) (fun D w=>True))
set_option maxRecDepth 100000 in
theorem zH2 (x0:Sl) (x1:Value) (w:World) (Ret:Sl→World→Prop) (H:zEk x0 x1 w Ret):Cl Tryz.prog 102 [(Sl.v x0),x1].toArray w (fun e w'=>∃ (r0:Sl),e=.returned (Sl.v r0)∧Ret r0 w'):=by
 unfold zEk at H
 refine zNP 13 (zipE 0 [(Sl.v x0),x1]) Tryz.func102 rfl rfl (by rfl) rfl ?_
 intro a g
 replace g:Sat [] 13 [(0,(Sl.v x0)),(1,x1)] a:=g
 refine zAF (zAA (g.op (zIm g rfl) H fun x2 w a H g=>(g.as_ rfl fun _ g=>(zAG (tn (zAF (zAF (zAA (g.mv rfl fun _ g=>(zAG (tn (zAN ?_))))))))))))
 obtain ⟨cells,Kp,S,Sp,Num,I,Ir,hR,hnew,hbd,hdn,hst⟩:=H
 refine zSF zAD.v cells none g rfl hR hnew (by rfl) (by rfl) (by rfl) ?_ ?_ ?_
 ·intro l pre x7 Bx w a h1 h2 h3 h4 g
  have H:=hbd pre x7 Bx w h1 h2 h3 h4
  generalize (some (⟨Bx,0,none⟩:Addr))=x5 at H g
  generalize (fun (W':World)=>KeepsFrom _ w W'∧Kp w W'∧I (pre++[x7]) W')=Gf1 at H ⊢
  generalize (fun (W':World)=>KeepsFrom _ w W'∧Ir (pre++[x7]) W')=Lf1 at H ⊢
  unfold zEK at H
  exact zAN (zAA (g.op (zAI g rfl) H fun x8 w a H g=>(g.op (zAI g rfl) H fun x9 w a H g=>(g.op (zFI g rfl) H fun x10 w a H g=>(g.op (zJv g rfl) H fun x11 w a H g=>(g.opu (zAM g rfl rfl) H fun w a H g=>(zAG (bn H))))))))
 ·intro D xs w a h1 h2 h3 hD g
  have H:=hdn D xs w h1 h2 h3 hD
  clear hbd hdn hst hnew
  try dsimp only at H
  refine (bn (tn (zAF (zAA (g.op (zAI g rfl) H fun x12 w a H g=>(g.as_ rfl fun _ g=>(zAG (tn ?_))))))))
  obtain ⟨hD0,H⟩:=H
  try dsimp only at H
  exact zAf (zPU g (rs:=[.tmp 4]) (vs:=[(Sl.v x12)]) rfl hD0 ⟨rfl,trivial⟩ ⟨_,rfl,H⟩)
 ·intro D c pre w a hj h1 h2 h3 hD g
  cases hj
end Go.Proofs.YtealcoghiaeiiaaGreat.VG
set_option linter.unusedVariables false
namespace Go.VB
def ClD (P:Program) (f:FuncId) (args:Array Value) (w:World) (R:Ending→World→Prop):Prop:=CallsDIn (FW none) 0 P f args .returning w fun e u' w'=>u'=.returning∧R e w'
theorem ClD.mono {P:Program} {f:FuncId} {args:Array Value} {w:World} {R R':Ending→World→Prop} (h:ClD P f args w R) (hr:∀ e w',R e w'→R' e w'):ClD P f args w R':=
 CallsDIn.mono h fun _ _ _ h=>⟨h.1,hr _ _ h.2⟩
theorem zSc {P:Program} {f:FuncId} {fn:Func} {c:Code} {args:List Value} {w:World} {R:Ending→World→Prop} (N:Nat) (E:Env)
  (hf:P.funcs[f]?=some fn) (hb:fn.body=some c) (hN:fn.ntmps=N) (hle:Nat.ble args.length N=true)
  (hz:zipE 0 args=E)
  (h:∀ a,Sat [] N E a→WC none P c (bodyPost P fn R) a w):ClD P f args.toArray w R:=by
 subst hN
 exact callsDIn_of_wp hf hb trivial (h _ (Sat.enter args.toArray (by simpa using hle) (by intro t v hv;rw [← hz] at hv;simpa using (zOc args 0 t v hv).2))) rfl
def defd (f:FuncId) (vs:List Value):Deferred:={target:=.fn (.func f) #[],args:=vs.toArray}
def opD (P:Program) (f:FuncId) (vs:List Value) (w:World) (k:World→Prop):Prop:=ClD P f vs.toArray w fun e w'=>(∃ v,e=.returned v)∧k w'
def noP (Q:Exit→Act→World→Prop):Exit→Act→World→Prop
 |.panic _,_,_=>False
 |e,a,w=>Q e a w
theorem zUE {Q:Exit→Act→World→Prop}:∀ e a w,noP Q e a w→Q e a w:=by
 intro e a w h
 cases e<;>first|exact h|exact h.elim
theorem zSJ {P:Program} {f:FuncId} {fn:Func} {c:Code} {args:List Value} {w:World} {R:Ending→World→Prop} (N:Nat) (E:Env)
  (hf:P.funcs[f]?=some fn) (hb:fn.body=some c) (hN:fn.ntmps=N) (hle:Nat.ble args.length N=true)
  (hz:zipE 0 args=E)
  (h:∀ a,Sat [] N E a→WC none P c (noP (bodyPostM (FW none) 0 P fn R)) a w):Cl P f args.toArray w R:=
 zNP N E hf hb hN hle hz fun a hE=>wpIn_mono (h a hE) zUE
section
variable {ro:Option Nat} {P:Program} {ops:Array Oper} {Q:Exit→Act→World→Prop} {ds:List Deferred} {N:Nat} {E:Env} {a:Act} {w:World} {rest:List Oper}
theorem Sat.defer (hE:Sat ds N E a) {f:FuncId} {x:Operand} {xs:List Operand} {vs:List Value} {ts:Array TypeId} {ty:TypeId} {pos:String} {aft:Array Edge}
  (hx:Go.VB.ev E x=some (.func (.func f) #[] #[])) (h:Go.VB.evL E xs=some vs) (next:∀ a',Sat (defd f vs::ds) N E a'→WL none P ops Q rest a' w):
  WL none P ops Q (⟨none,.defer {callee:=.value x,args:=xs.toArray,argTypes:=ts},ty,pos,aft,none⟩::rest) a w:=by
 unfold WL wpListIn
 rw [if_pos (by simp [Region.wanted])]
 refine ⟨fun _ _=>trivial,?_⟩
 have h1:=hE.evA h
 have e:=hE.ev hx
 have hr:(Oper.semAt (FW none).round a.eval ⟨none,.defer {callee:=.value x,args:=xs.toArray,argTypes:=ts},ty,pos,aft,none⟩).run P w=.ok (.defer (defd f vs)) w:=by
  rw [show (FW none).round=none from rfl,Oper.semAt_none]
  simp [execOp,resolve,Deferred.ofValue,e,defd,← h1]
 rw [hr,Oper.uponIn_defer]
 exact next _ ⟨hE.size,hE.vals,by show _::a.defers=_;rw [hE.defs]⟩
theorem zQL {fn:Func} {R:Ending→World→Prop} {f:FuncId} {us:List Value} (hE:Sat [defd f us] N E a) {rs:List ResultVar} {vs:List Value} {k:World→Prop} (hr:fn.results=rs.toArray) (he:Ent P f) (H:opD P f us w k)
  (hv:∀ w',resV P E w' rs vs) (h:∀ w',k w'→R (.returned (tupOf vs)) w'):bodyPostM (FW none) 0 P fn R .ret a w:=by
 show LeavesInM _ _ _ _ _ _ a.defers _ _
 rw [hE.defs]
 refine ⟨by simp,.inr ⟨fun h=>by simp [Fence.wide] at h,.func f,#[],f,us.toArray,rfl,?_,fun _ _=>trivial,?_⟩⟩
 ·show (invoke (.fn (.func f) #[]) us.toArray).run P w=_
  have:=he us.toArray w
  simpa [invoke] using this
 ·refine CallsDIn.mono H fun e u' w' h1=>?_
  obtain ⟨rfl,⟨v,rfl⟩,hk⟩:=h1
  exact ⟨_,zK3 ⟨hE.size,hE.vals,hE.defs⟩ hr (hv w'),h w' hk⟩
end
end Go.VB
set_option linter.unusedVariables false
set_option linter.unusedSimpArgs false
namespace Go.Proofs.YtealcoghiaeiiaaGreat.VG
open Go.VB Go.Proofs
def zEj (x0:Option Addr) (x1:Int) (Ret:Sl→Int→Int→World→Prop) (r_3:Sl) (x8:Int) (x10:Option Addr) (w:World):Prop:=
 ((x8≠0)→(opD Tryz.prog 37 [(.pointer x0),(.int .i64 x1)] w (fun w=>Ret Sl.none 0 x8 w)))∧(¬ (x8≠0)→(opE Tryz.prog zAH.v (Instr.loadAt 69 (.pointer x10)) w (fun x55 w=>nilOk (.pointer x0)∧(opE Tryz.prog Value.pointer (Instr.fieldAt 87 (.pointer x0) 0) w (fun x57 w=>opU Tryz.prog (Instr.storeAt 69 (.pointer x57) (zAH.v x55)) w (fun w=>nilOk (.pointer x0)∧(opE Tryz.prog Value.pointer (Instr.fieldAt 87 (.pointer x0) 1) w (fun x60 w=>opE Tryz.prog (Value.int .u64) (Instr.loadAt 37 (.pointer x60)) w (fun x61 w=>nilOk (.pointer x0)∧(opE Tryz.prog Value.pointer (Instr.fieldAt 87 (.pointer x0) 1) w (fun x64 w=>opU Tryz.prog (Instr.storeAt 37 (.pointer x64) (.int .u64 (IntKind.wrap .u64 (x61+1)))) w (fun w=>nilOk (.pointer x0)∧(opB Tryz.prog Value.pointer (Instr.fieldAt 87 (.pointer x0) 1) w (fun x68=>opB Tryz.prog (Value.int .u64) (Instr.loadAt 37 (.pointer x68)) w (fun x69=>nextB w (fun w=>opD Tryz.prog 37 [(.pointer x0),(.int .i64 x1)] w (fun w=>Ret r_3 x69 0 w)))))))))))))))))
def zIa (x0:Option Addr) (x1:Int) (w:World) (Ret:Sl→Int→Int→World→Prop):Prop:=
 Cl Tryz.prog 36 [(.pointer x0),(.int .i64 x1)].toArray w (fun e w=>∃ (r:Option Addr) (r_1:Int),e=.returned (.tuple [(.pointer r),(.int .i64 r_1)].toArray)∧(((r_1≠0)→(Ret Sl.none 0 r_1 w))∧(¬ (r_1≠0)→(Cl Tryz.prog 38 [(.pointer x0),(.pointer r)].toArray w (fun e w=>∃ (r_2:Bool),e=.returned (.bool r_2)∧((r_2=true→(opD Tryz.prog 37 [(.pointer x0),(.int .i64 x1)] w (fun w=>Ret Sl.none 0 10 w)))∧(r_2=false→(nilOk (.pointer r)∧(opE Tryz.prog Value.pointer (Instr.fieldAt 92 (.pointer r) 2) w (fun x27 w=>opE Tryz.prog Value.map (Instr.loadAt 89 (.pointer x27)) w (fun x28 w=>opE Tryz.prog (Value.int .i64) (Builtin.len_ #[89] 3 [(.map x28)].toArray) w (fun x29 w=>((x29=0)→(nilOk (.pointer x0)∧(opB Tryz.prog Value.pointer (Instr.fieldAt 87 (.pointer x0) 1) w (fun x33=>opB Tryz.prog (Value.int .u64) (Instr.loadAt 37 (.pointer x33)) w (fun x34=>nextB w (fun w=>opD Tryz.prog 37 [(.pointer x0),(.int .i64 x1)] w (fun w=>Ret Sl.none x34 0 w)))))))∧(¬ (x29=0)→(Cl Tryz.prog 39 [(.pointer r)].toArray w (fun e w=>∃ (r_3:Sl),e=.returned (Sl.v r_3)∧(regC w (fun C2 w=>nilOk (.pointer x0)∧(opC C2 Tryz.prog Value.pointer (Instr.fieldAt 87 (.pointer x0) 0) (fun x40=>nilOk (.pointer x0)∧(opC C2 Tryz.prog Value.pointer (Instr.fieldAt 87 (.pointer x0) 1) (fun x45=>opC C2 Tryz.prog zAH.v (Instr.loadAt 69 (.pointer x40)) (fun x41=>opC C2 Tryz.prog (Value.int .u64) (Instr.loadAt 37 (.pointer x45)) (fun x46=>(Cl Tryz.prog 40 [(zAH.v x41),(Sl.v r_3),(.int .u64 (IntKind.wrap .u64 (x46+1)))].toArray w (fun e w=>∃ (r_4:zAH) (r_5:Int),e=.returned (.tuple [(zAH.v r_4),(.int .i64 r_5)].toArray)∧(C2 w∧(opE Tryz.prog Value.pointer (Instr.alloc 69 true (.tuple #[])) w (fun x10_1 w=>C2 w∧(opU Tryz.prog (Instr.storeAt 69 (.pointer x10_1) (zAH.v r_4)) w (fun w=>C2 w∧(zEj x0 x1 Ret r_3 r_5 x10_1 w))))))))∧(opE Tryz.prog Value.pointer (Instr.alloc 69 true (.tuple #[])) w (fun x10_2 w=>C2 w∧(Cl Tryz.prog 40 [(zAH.v x41),(Sl.v r_3),(.int .u64 (IntKind.wrap .u64 (x46+1)))].toArray w (fun e w=>∃ (r_6:zAH) (r_7:Int),e=.returned (.tuple [(zAH.v r_6),(.int .i64 r_7)].toArray)∧(C2 w∧(opU Tryz.prog (Instr.storeAt 69 (.pointer x10_2) (zAH.v r_6)) w (fun w=>C2 w∧(zEj x0 x1 Ret r_3 r_7 x10_2 w)))))))))))))))))))))))))))))))
set_option maxRecDepth 100000 in
theorem zLf (x0:Option Addr) (x1:Int) (w:World) (Ret:Sl→Int→Int→World→Prop) (H:zIa x0 x1 w Ret):Cl Tryz.prog 15 [(.pointer x0),(.int .i64 x1)].toArray w (fun e w'=>∃ (r0:Sl) (r1:Int) (r2:Int),e=.returned (.tuple [(Sl.v r0),(.int .u64 r1),(.int .i64 r2)].toArray)∧Ret r0 r1 r2 w'):=by
 unfold zIa at H
 refine zSJ 70 (zipE 0 [(.pointer x0),(.int .i64 x1)]) Tryz.func15 rfl rfl (by rfl) rfl ?_
 intro a g
 replace g:Sat [] 70 [(0,(.pointer x0)),(1,(.int .i64 x1))] a:=g
 refine zAF (zAA (g.as_ rfl fun _ g=>(g.as_ rfl fun _ g=>(g.as_ rfl fun _ g=>(zAG (tn (zAF (zAA (g.mv rfl fun _ g=>(g.mv rfl fun _ g=>(g.call (zAQ g ent36 rfl rfl) H fun e w H=>?_)))))))))))
 obtain ⟨r,r_1,rfl,H⟩:=H
 refine ⟨_,rfl,fun _ g=>(g.mv rfl fun _ g=>(g.pur (zAO g rfl rfl) fun _ g=>(g.pur (zAO g rfl rfl) fun _ g=>(g.as_ rfl fun _ g=>(g.as_ rfl fun _ g=>(zAG (tn (zAF (zAF (zAA (g.mv rfl fun _ g=>(g.pur (zLw g rfl rfl) fun _ g=>(zAG (tn (zAR g rfl (fun hc=>?_) (fun hc=>?_))))))))))))))))⟩
 ·replace H:=H.1 hc
  exact zAF (zAA (g.mv rfl fun _ g=>(g.as_ rfl fun _ g=>(g.as_ rfl fun _ g=>(g.as_ rfl fun _ g=>(zAG (tn (zAf (tr (zNs g (rs:=[.tmp 4,.tmp 5,.tmp 6]) (vs:=[(Sl.v Sl.none),(.int .u64 0),(.int .i64 r_1)]) rfl ⟨rfl,rfl,rfl,trivial⟩ ⟨_,_,_,rfl,H⟩))))))))))
 ·replace H:=H.2 hc
  refine zAP (tn (zAF (zAA (g.mv rfl fun _ g=>(g.mv rfl fun _ g=>(g.defer rfl rfl fun _ g=>(zAG (tn (zAF (zAF (zAA (g.mv rfl fun _ g=>(g.mv rfl fun _ g=>(g.call (zAQ g ent38 rfl rfl) H fun e w H=>?_))))))))))))))
  obtain ⟨r_2,rfl,H⟩:=H
  refine ⟨_,rfl,fun _ g=>(zAG (tn (zAV g rfl (fun hc=>?_) (fun hc=>?_))))⟩
  ·replace H:=H.1 hc
   exact zAF (zAA (g.as_ rfl fun _ g=>(g.as_ rfl fun _ g=>(g.as_ rfl fun _ g=>(zAG (tn (zAf (tr (zQL g (rs:=[.tmp 4,.tmp 5,.tmp 6]) (vs:=[(Sl.v Sl.none),(.int .u64 0),(.int .i64 10)]) rfl ent37 H (fun w=>⟨rfl,rfl,rfl,trivial⟩) (fun w H=>⟨_,_,_,rfl,H⟩))))))))))
  ·replace H:=H.2 hc
   refine zAP (tn (zAF (zAF (zAA (g.mv rfl fun _ g=>(g.pur (zAS g rfl H.1) fun _ g=>?_))))))
   replace H:=H.2
   refine g.op (zAJ g rfl) H fun x27 w a H g=>g.op (zAI g rfl) H fun x28 w a H g=>g.op (zQt g rfl) H fun x29 w a H g=>g.pur (zGX g rfl rfl) fun _ g=>zAG (tn (zAR g rfl (fun hc=>?_) (fun hc=>?_)))
   ·replace H:=H.1 hc
    refine zAF (zEB (by kernel_rfl) (by kernel_rfl) (g.qm rfl fun _ g=>(g.qpur (zAS g rfl H.1) fun _ g=>?_)))
    replace H:=H.2
    refine g.qop (zAJ g rfl) H fun x33 a H g=>g.qop (zAI g rfl) H fun x34 a H g=>g.qpur (zEX g rfl) fun _ g=>g.qpur (zEX g rfl) fun _ g=>g.qpur (zEX g rfl) fun _ g=>zED (fun w hB=>?_)
    replace H:=H w hB
    exact (tn (zAf (tr (zQL g (rs:=[.tmp 4,.tmp 5,.tmp 6]) (vs:=[(Sl.v Sl.none),(.int .u64 x34),(.int .i64 0)]) rfl ent37 H (fun w=>⟨rfl,rfl,rfl,trivial⟩) (fun w H=>⟨_,_,_,rfl,H⟩)))))
   ·replace H:=H.2 hc
    refine zAP (tn (zAF (zAA (g.mv rfl fun _ g=>(g.call (zAQ g ent39 rfl rfl) H fun e w H=>?_)))))
    obtain ⟨r_3,rfl,H⟩:=H
    refine ⟨_,rfl,fun _ g=>(g.as_ rfl fun _ g=>(zAG (tn (zBG (ds:=[defd 37 [(.pointer x0),(.int .i64 x1)]]) (N:=70) (σ:=Int × (Option Addr)) (fun s=>[(8,(.int .i64 s.1)),(10,(.pointer s.2)),(0,(.pointer x0)),(9,(Sl.v r_3))]) (fun s w=>zEj x0 x1 Ret r_3 s.1 s.2 w) ?_ (fun hj1=>?_)))))⟩
    ·rintro ⟨x8,x10⟩ w a H g
     try dsimp only at H g
     unfold zEj at H
     refine zAF (zAF (zAA (g.mv rfl fun _ g=>(g.pur (zLw g rfl rfl) fun _ g=>(zAG (tn (zAR g rfl (fun hc=>?_) (fun hc=>?_))))))))
     ·replace H:=H.1 hc
      exact zAF (zAA (g.mv rfl fun _ g=>(g.as_ rfl fun _ g=>(g.as_ rfl fun _ g=>(g.as_ rfl fun _ g=>(zAG (tn (zAf (tr (zQL g (rs:=[.tmp 4,.tmp 5,.tmp 6]) (vs:=[(Sl.v Sl.none),(.int .u64 0),(.int .i64 x8)]) rfl ent37 H (fun w=>⟨rfl,rfl,rfl,trivial⟩) (fun w H=>⟨_,_,_,rfl,H⟩)))))))))))
     ·replace H:=H.2 hc
      refine zAP (tn (zAF (zAA (g.mv rfl fun _ g=>(g.op (zAI g rfl) H fun x55 w a H g=>(g.pur (zAS g rfl H.1) fun _ g=>?_))))))
      replace H:=H.2
      refine g.op (zAJ g rfl) H fun x57 w a H g=>g.opu (zAM g rfl rfl) H fun w a H g=>zAG (tn (zAF (zAA (g.mv rfl fun _ g=>(g.pur (zAS g rfl H.1) fun _ g=>?_)))))
      replace H:=H.2
      refine g.op (zAJ g rfl) H fun x60 w a H g=>g.op (zAI g rfl) H fun x61 w a H g=>g.pur (zAn g rfl rfl) fun _ g=>g.pur (zAS g rfl H.1) fun _ g=>?_
      replace H:=H.2
      refine g.op (zAJ g rfl) H fun x64 w a H g=>g.opu (zAM g rfl rfl) H fun w a H g=>zAG (tn (zAF (zEB (by kernel_rfl) (by kernel_rfl) (g.qm rfl fun _ g=>(g.qm rfl fun _ g=>(g.qpur (zAS g rfl H.1) fun _ g=>?_))))))
      replace H:=H.2
      refine g.qop (zAJ g rfl) H fun x68 a H g=>g.qop (zAI g rfl) H fun x69 a H g=>g.qpur (zEX g rfl) fun _ g=>g.qpur (zEX g rfl) fun _ g=>g.qpur (zEX g rfl) fun _ g=>zED (fun w hB=>?_)
      replace H:=H w hB
      exact (tn (zAf (zQL g (rs:=[.tmp 4,.tmp 5,.tmp 6]) (vs:=[(Sl.v r_3),(.int .u64 x69),(.int .i64 0)]) rfl ent37 H (fun w=>⟨rfl,rfl,rfl,trivial⟩) (fun w H=>⟨_,_,_,rfl,H⟩))))
    ·refine zTg H 17 fun C2 w hC0 H=>g.kp 0 rfl hC0 (zEL (zAL g rfl)) fun _ g=>g.kp 1 rfl hC0 (zEL (zAS g rfl H.1)) fun _ g=>?_
     replace H:=H.2
     refine g.ko 2 rfl hC0 (zAJ g rfl) H fun x40 a H g=>g.kp 4 rfl hC0 (zEL (zAL g rfl)) fun _ g=>g.kp 5 rfl hC0 (zEL (zAL g rfl)) fun _ g=>g.kp 6 rfl hC0 (zEL (zAS g rfl H.1)) fun _ g=>?_
     replace H:=H.2
     refine g.ko 7 rfl hC0 (zAJ g rfl) H fun x45 a H g=>g.ko 3 rfl hC0 (zAI g rfl) H fun x41 a H g=>g.ko 8 rfl hC0 (zAI g rfl) H fun x46 a H g=>g.kp 9 rfl hC0 (zEL (zAn g rfl rfl)) fun _ g=>WK.tw 10 14 rfl rfl ?_ ?_
     ·replace H:=H.1
      intro K hK
      refine g.wcall (zAQ g ent40 rfl rfl) H fun e w H=>?_
      obtain ⟨r_4,r_5,rfl,H⟩:=H
      refine ⟨_,rfl,fun _ g=>(hK _ _ ⟨H.1,?_⟩)⟩
      have hC1:=H.1
      replace H:=H.2
      refine g.kp 11 rfl hC1 (zEL (zAL g rfl)) fun _ g=>g.kp 12 rfl hC1 (zEL (zAO g rfl rfl)) fun _ g=>g.kp 13 rfl hC1 (zEL (zAO g rfl rfl)) fun _ g=>WK.on 14 rfl ?_
      intro K hK
      refine g.wop (zEH) H fun x10_1 w a H g=>hK _ _ ⟨H.1,?_⟩
      have hC2:=H.1
      replace H:=H.2
      refine WK.on 15 rfl ?_
      intro K hK
      refine g.wopu (zAM g rfl rfl) H fun w a H g=>hK _ _ ⟨H.1,?_⟩
      have hC3:=H.1
      replace H:=H.2
      exact g.kp 16 rfl hC3 (zEL (zEX g rfl)) fun _ g=>WK.nil (by kernel_rfl) ((tn (hj1 (r_5,x10_1) _ _ H (g.weak ⟨rfl,rfl,rfl,rfl,trivial⟩))))
     ·replace H:=H.2
      intro K hK
      refine g.wop (zEH) H fun x10_2 w a H g=>hK _ _ ⟨H.1,?_⟩
      have hC1:=H.1
      replace H:=H.2
      refine WK.on 10 rfl ?_
      intro K hK
      refine g.wcall (zAQ g ent40 rfl rfl) H fun e w H=>?_
      obtain ⟨r_6,r_7,rfl,H⟩:=H
      refine ⟨_,rfl,fun _ g=>(hK _ _ ⟨H.1,?_⟩)⟩
      have hC2:=H.1
      replace H:=H.2
      refine g.kp 11 rfl hC2 (zEL (zAL g rfl)) fun _ g=>g.kp 12 rfl hC2 (zEL (zAO g rfl rfl)) fun _ g=>g.kp 13 rfl hC2 (zEL (zAO g rfl rfl)) fun _ g=>WK.on 15 rfl ?_
      intro K hK
      refine g.wopu (zAM g rfl rfl) H fun w a H g=>hK _ _ ⟨H.1,?_⟩
      have hC3:=H.1
      replace H:=H.2
      exact g.kp 16 rfl hC3 (zEL (zEX g rfl)) fun _ g=>WK.nil (by kernel_rfl) ((tn (hj1 (r_7,x10_2) _ _ H (g.weak ⟨rfl,rfl,rfl,rfl,trivial⟩))))
def zEv (x0:Option Addr) (Ret:World→Prop) (x22:Option Addr) (x4:Int) (w:World) (Kl1:Int→World→Prop):Prop:=
 opE Tryz.prog (zOp id id) (Instr.next (.pointer x22) false 0) w (fun r w=>(r=none→(nilOk (.pointer x0)∧(opE Tryz.prog Value.pointer (Instr.fieldAt 87 (.pointer x0) 0) w (fun x36 w=>opE Tryz.prog zAH.v (Instr.loadAt 69 (.pointer x36)) w (fun x37 w=>Cl Tryz.prog 56 [(zAH.v x37),(.int .u64 x4)].toArray w (fun e w=>∃ (r_1:zAH) (r_2:Int),e=.returned (.tuple [(zAH.v r_1),(.int .i64 r_2)].toArray)∧(opE Tryz.prog Value.pointer (Instr.alloc 69 true (.tuple #[])) w (fun x7 w=>opU Tryz.prog (Instr.storeAt 69 (.pointer x7) (zAH.v r_1)) w (fun w=>((r_2=0)→(opE Tryz.prog zAH.v (Instr.loadAt 69 (.pointer x7)) w (fun x45 w=>nilOk (.pointer x0)∧(opE Tryz.prog Value.pointer (Instr.fieldAt 87 (.pointer x0) 0) w (fun x47 w=>opU Tryz.prog (Instr.storeAt 69 (.pointer x47) (zAH.v x45)) w (fun w=>Ret w))))))∧(¬ (r_2=0)→(Ret w)))))))))))∧(∀ k v,r=some (k,v)→(opE Tryz.prog (fun p:Value × Value=>.tuple [p.1,p.2].toArray) (Instr.entry (.pointer x22)) w (fun x25 w=>nilOk x25.2∧(opE Tryz.prog Value.pointer (Instr.fieldAt 92 x25.2 0) w (fun x30 w=>opE Tryz.prog (Value.int .u64) (Instr.loadAt 37 (.pointer x30)) w (fun x31 w=>Kl1 (if x31<x4 then x31 else x4) w)))))))
def zF0 (x0:Option Addr) (x1:Int) (w:World) (Ret:World→Prop):Prop:=
 nilOk (.pointer x0)∧(opE Tryz.prog Value.pointer (Instr.fieldAt 87 (.pointer x0) 3) w (fun x11 w=>opE Tryz.prog Value.map (Instr.loadAt 85 (.pointer x11)) w (fun x12 w=>opE Tryz.prog (fun _:Unit=>.tuple #[]) (Builtin.delete_ #[85,3] 0 [(.map x12),(.int .i64 x1)].toArray) w (fun z w=>nilOk (.pointer x0)∧(opE Tryz.prog Value.pointer (Instr.fieldAt 87 (.pointer x0) 1) w (fun x16 w=>opE Tryz.prog (Value.int .u64) (Instr.loadAt 37 (.pointer x16)) w (fun x17 w=>nilOk (.pointer x0)∧(opE Tryz.prog Value.pointer (Instr.fieldAt 87 (.pointer x0) 3) w (fun x20 w=>opE Tryz.prog Value.map (Instr.loadAt 85 (.pointer x20)) w (fun x21 w=>opE Tryz.prog Value.pointer (Instr.range 85 (.map x21)) w (fun x22 w=>∃ (I:Int→World→Prop) (μ:Int→World→Nat),I x17 w∧∀ (x4:Int) w,I x4 w→zEv x0 Ret x22 x4 w (fun x4' w'=>I x4' w'∧μ x4' w'<μ x4 w))))))))))))
set_option maxRecDepth 100000 in
theorem zMB (x0:Option Addr) (x1:Int) (w:World) (Ret:World→Prop) (H:zF0 x0 x1 w Ret):Cl Tryz.prog 37 [(.pointer x0),(.int .i64 x1)].toArray w (fun e w'=>e=.returned (.tuple [].toArray)∧Ret w'):=by
 unfold zF0 at H
 refine zAY 48 (zipE 0 [(.pointer x0),(.int .i64 x1)]) Tryz.func37 rfl rfl (by rfl) rfl ?_
 intro a g
 replace g:Sat [] 48 [(0,(.pointer x0)),(1,(.int .i64 x1))] a:=g
 refine zAF (zAA (g.mv rfl fun _ g=>(g.pur (zAS g rfl H.1) fun _ g=>?_)))
 replace H:=H.2
 refine g.op (zAJ g rfl) H fun x11 w a H g=>g.op (zAI g rfl) H fun x12 w a H g=>g.mv rfl fun _ g=>g.op0 (zQP g rfl) H fun z w a H g=>zAG (tn (zAF (zAA (g.mv rfl fun _ g=>(g.pur (zAS g rfl H.1) fun _ g=>?_)))))
 replace H:=H.2
 refine g.op (zAJ g rfl) H fun x16 w a H g=>g.op (zAI g rfl) H fun x17 w a H g=>g.as_ rfl fun _ g=>zAG (tn (zAF (zAF (zAA (g.mv rfl fun _ g=>(g.pur (zAS g rfl H.1) fun _ g=>?_))))))
 replace H:=H.2
 refine g.op (zAJ g rfl) H fun x20 w a H g=>g.op (zAI g rfl) H fun x21 w a H g=>g.op (zOG g rfl) H fun x22 w a H g=>zAG (tn (zAN ?_))
 obtain ⟨I_l1,μ_l1,h0,hb⟩:=H
 refine zBl (ds:=[]) (N:=48) (σ:=Int) (fun s=>[(4,(.int .u64 s)),(0,(.pointer x0)),(22,(.pointer x22))]) (fun s w=>I_l1 s w) (fun s w=>μ_l1 s w) x17 h0 (g.weak ⟨rfl,rfl,rfl,trivial⟩) ?_
 intro x4 w a hI g
 try dsimp only at hI g
 obtain ⟨Kl1,hK_l1⟩:∃ K:Int→World→Prop,K=(fun x4' w'=>I_l1 x4' w'∧μ_l1 x4' w'<μ_l1 x4 w):=⟨_,rfl⟩
 have H:zEv x0 Ret x22 x4 w Kl1:=by rw [hK_l1];exact hb x4 w hI
 clear hb h0 hI
 unfold zEv at H
 refine zAF (zAA (g.op (zP4 g rfl) H fun r w a H g=>?_))
 rcases r with _|⟨k,v⟩
 ·replace H:=H.1 rfl
  refine g.pur (zAO g rfl rfl) fun _ g=>zAG (tn (zAF (zAV g rfl (fun h=>nomatch h) (fun _=>(zBJ (te (te (be (tn (zAF (zAA (g.mv rfl fun _ g=>(g.pur (zAS g rfl H.1) fun _ g=>?_)))))))))))))
  replace H:=H.2
  refine g.op (zAJ g rfl) H fun x36 w a H g=>g.op (zAI g rfl) H fun x37 w a H g=>g.mv rfl fun _ g=>g.call (zAQ g ent56 rfl rfl) H fun e w H=>?_
  obtain ⟨r_1,r_2,rfl,H⟩:=H
  refine ⟨_,rfl,fun _ g=>(g.mv rfl fun _ g=>(g.pur (zAO g rfl rfl) fun _ g=>(g.pur (zAO g rfl rfl) fun _ g=>(g.op (zEH) H fun x7 w a H g=>(g.opu (zAM g rfl rfl) H fun w a H g=>(g.as_ rfl fun _ g=>(zAG (tn (zAF (zAA (g.mv rfl fun _ g=>(g.pur (zGX g rfl rfl) fun _ g=>(zAG (tn (zAR g rfl (fun hc=>?_) (fun hc=>?_))))))))))))))))⟩
  ·replace H:=H.1 hc
   refine zAA (g.mv rfl fun _ g=>(g.op (zAI g rfl) H fun x45 w a H g=>(g.pur (zAS g rfl H.1) fun _ g=>?_)))
   replace H:=H.2
   exact g.op (zAJ g rfl) H fun x47 w a H g=>g.opu (zAM g rfl rfl) H fun w a H g=>zAG (zG1 g rfl ⟨rfl,H⟩)
  ·replace H:=H.2 hc
   exact zAP (zG1 g rfl ⟨rfl,H⟩)
 ·replace H:=H.2 _ _ rfl
  refine g.pur (zAO g rfl rfl) fun _ g=>zAG (tn (zAF (zAV g rfl (fun _=>(zAP (tn (zAN (zAF (zAA (g.op (zOS g rfl) H fun x25 w a H g=>(g.pur (zAO g rfl rfl) fun _ g=>(g.as_ rfl fun _ g=>(zAG (tn (zAA (g.mv rfl fun _ g=>(g.mv rfl fun _ g=>(g.pur (zAS g rfl H.1) fun _ g=>?_))))))))))))))) (fun h=>nomatch h))))
  replace H:=H.2
  refine g.op (zAJ g rfl) H fun x30 w a H g=>g.op (zAI g rfl) H fun x31 w a H g=>g.pur (zSt g rfl rfl) fun _ g=>g.as_ rfl fun _ g=>?_
  rw [hK_l1] at H
  exact zAG (bn (tn ⟨(if x31<x4 then x31 else x4),g.weak ⟨rfl,rfl,rfl,trivial⟩,H⟩))
set_option maxRecDepth 100000 in
theorem zLr (x0:Option Addr) (x1:Int) (w:World) (Ret:World→Prop) (H:zF0 x0 x1 w Ret):ClD Tryz.prog 37 [(.pointer x0),(.int .i64 x1)].toArray w (fun e w'=>e=.returned (.tuple [].toArray)∧Ret w'):=by
 unfold zF0 at H
 refine zSc 48 (zipE 0 [(.pointer x0),(.int .i64 x1)]) Tryz.func37 rfl rfl (by rfl) rfl ?_
 intro a g
 replace g:Sat [] 48 [(0,(.pointer x0)),(1,(.int .i64 x1))] a:=g
 refine zAF (zAA (g.mv rfl fun _ g=>(g.pur (zAS g rfl H.1) fun _ g=>?_)))
 replace H:=H.2
 refine g.op (zAJ g rfl) H fun x11 w a H g=>g.op (zAI g rfl) H fun x12 w a H g=>g.mv rfl fun _ g=>g.op0 (zQP g rfl) H fun z w a H g=>zAG (tn (zAF (zAA (g.mv rfl fun _ g=>(g.pur (zAS g rfl H.1) fun _ g=>?_)))))
 replace H:=H.2
 refine g.op (zAJ g rfl) H fun x16 w a H g=>g.op (zAI g rfl) H fun x17 w a H g=>g.as_ rfl fun _ g=>zAG (tn (zAF (zAF (zAA (g.mv rfl fun _ g=>(g.pur (zAS g rfl H.1) fun _ g=>?_))))))
 replace H:=H.2
 refine g.op (zAJ g rfl) H fun x20 w a H g=>g.op (zAI g rfl) H fun x21 w a H g=>g.op (zOG g rfl) H fun x22 w a H g=>zAG (tn (zAN ?_))
 obtain ⟨I_l1,μ_l1,h0,hb⟩:=H
 refine zBl (ds:=[]) (N:=48) (σ:=Int) (fun s=>[(4,(.int .u64 s)),(0,(.pointer x0)),(22,(.pointer x22))]) (fun s w=>I_l1 s w) (fun s w=>μ_l1 s w) x17 h0 (g.weak ⟨rfl,rfl,rfl,trivial⟩) ?_
 intro x4 w a hI g
 try dsimp only at hI g
 obtain ⟨Kl1,hK_l1⟩:∃ K:Int→World→Prop,K=(fun x4' w'=>I_l1 x4' w'∧μ_l1 x4' w'<μ_l1 x4 w):=⟨_,rfl⟩
 have H:zEv x0 Ret x22 x4 w Kl1:=by rw [hK_l1];exact hb x4 w hI
 clear hb h0 hI
 unfold zEv at H
 refine zAF (zAA (g.op (zP4 g rfl) H fun r w a H g=>?_))
 rcases r with _|⟨k,v⟩
 ·replace H:=H.1 rfl
  refine g.pur (zAO g rfl rfl) fun _ g=>zAG (tn (zAF (zAV g rfl (fun h=>nomatch h) (fun _=>(zBJ (te (te (be (tn (zAF (zAA (g.mv rfl fun _ g=>(g.pur (zAS g rfl H.1) fun _ g=>?_)))))))))))))
  replace H:=H.2
  refine g.op (zAJ g rfl) H fun x36 w a H g=>g.op (zAI g rfl) H fun x37 w a H g=>g.mv rfl fun _ g=>g.call (zAQ g ent56 rfl rfl) H fun e w H=>?_
  obtain ⟨r_1,r_2,rfl,H⟩:=H
  refine ⟨_,rfl,fun _ g=>(g.mv rfl fun _ g=>(g.pur (zAO g rfl rfl) fun _ g=>(g.pur (zAO g rfl rfl) fun _ g=>(g.op (zEH) H fun x7 w a H g=>(g.opu (zAM g rfl rfl) H fun w a H g=>(g.as_ rfl fun _ g=>(zAG (tn (zAF (zAA (g.mv rfl fun _ g=>(g.pur (zGX g rfl rfl) fun _ g=>(zAG (tn (zAR g rfl (fun hc=>?_) (fun hc=>?_))))))))))))))))⟩
  ·replace H:=H.1 hc
   refine zAA (g.mv rfl fun _ g=>(g.op (zAI g rfl) H fun x45 w a H g=>(g.pur (zAS g rfl H.1) fun _ g=>?_)))
   replace H:=H.2
   exact g.op (zAJ g rfl) H fun x47 w a H g=>g.opu (zAM g rfl rfl) H fun w a H g=>zAG (zG1 g rfl ⟨rfl,H⟩)
  ·replace H:=H.2 hc
   exact zAP (zG1 g rfl ⟨rfl,H⟩)
 ·replace H:=H.2 _ _ rfl
  refine g.pur (zAO g rfl rfl) fun _ g=>zAG (tn (zAF (zAV g rfl (fun _=>(zAP (tn (zAN (zAF (zAA (g.op (zOS g rfl) H fun x25 w a H g=>(g.pur (zAO g rfl rfl) fun _ g=>(g.as_ rfl fun _ g=>(zAG (tn (zAA (g.mv rfl fun _ g=>(g.mv rfl fun _ g=>(g.pur (zAS g rfl H.1) fun _ g=>?_))))))))))))))) (fun h=>nomatch h))))
  replace H:=H.2
  refine g.op (zAJ g rfl) H fun x30 w a H g=>g.op (zAI g rfl) H fun x31 w a H g=>g.pur (zSt g rfl rfl) fun _ g=>g.as_ rfl fun _ g=>?_
  rw [hK_l1] at H
  exact zAG (bn (tn ⟨(if x31<x4 then x31 else x4),g.weak ⟨rfl,rfl,rfl,trivial⟩,H⟩))
end Go.Proofs.YtealcoghiaeiiaaGreat.VG
set_option linter.unusedVariables false
namespace Go.Proofs.YtealcoghiaeiiaaGreat.VG
open Go.VB Go.Proofs
abbrev Ver:=zAB
abbrev Wri:=zAD
abbrev Pai:=zAE
abbrev noB:ByteArray:=ByteArray.mk #[]
def vlt (a b:Ver):Prop:=sLt a.Key b.Key=true∨(a.Key=b.Key∧a.At<b.At)
theorem zNW (a:Ver):¬ vlt a a:=fun h=>by
 rcases h with h|h
 ·exact zFy _ h
 ·omega
theorem zNV {a b c:Ver} (h:vlt a b) (k:vlt b c):vlt a c:=by
 rcases h with h|⟨h1,h2⟩<;>rcases k with k|⟨k1,k2⟩
 ·exact .inl (zM9 h k)
 ·exact .inl (k1 ▸ h)
 ·exact .inl (h1 ▸ k)
 ·exact .inr ⟨h1.trans k1,by omega⟩
theorem zTH {a b:Ver} (h:vlt a b):¬ vlt b a:=fun k=>zNW a (zNV h k)
theorem zRb {a b:Ver} (h:¬ vlt a b) (hn:¬ (a.Key=b.Key∧a.At=b.At)):vlt b a:=by
 by_cases hk:a.Key=b.Key
 ·refine .inr ⟨hk.symm,?_⟩
  have h1:¬ a.At<b.At:=fun h2=>h (.inr ⟨hk,h2⟩)
  have h2:a.At≠b.At:=fun h2=>hn ⟨hk,h2⟩
  omega
 ·exact .inl (zKE (fun h1=>h (.inl h1)) hk)
theorem zQ4 {a b:Ver} (h:vlt a b):¬ sLt b.Key a.Key=true:=fun k=>by
 rcases h with h|h
 ·exact zL8 h k
 ·rw [h.1] at k;exact zFy _ k
structure Made (x:Ver):Prop where
 lo:1≤x.At
 hi:x.At≤2305843009213693952
 gone:x.Gone=true→x.Val=noB
 keyl:x.Key.size≤256
 vall:x.Val.size≤512
def OkAt (l:List Ver) (i:Nat) (x:Ver):Prop:=Made x∧∀ j y,i=j+1→l[j]?=some y→vlt y x
def OkTo (l:List Ver) (n:Nat):Prop:=∀ i x,i<n→l[i]?=some x→OkAt l i x
structure GoodV (l:List Ver) (low:Int):Prop where
 len:l.length≤4096
 low:low≤2305843009213693952
 ok:OkTo l l.length
open Classical in
noncomputable def vchk (l:List Ver) (low:Int):Int:=if GoodV l low then 0 else 2
theorem zPF {l:List Ver} {low:Int} (h:GoodV l low):vchk l low=0:=by unfold vchk;rw [if_pos h]
theorem zR7 {l:List Ver} {low:Int} (h:¬ GoodV l low):vchk l low=2:=by unfold vchk;rw [if_neg h]
theorem zKQ {l:List Ver} {low:Int}:vchk l low=0↔GoodV l low:=by
 unfold vchk;split<;>simp_all
theorem zS7 {l:List Ver} {low:Int} (h:vchk l low≠0):vchk l low=2:=by
 unfold vchk at h ⊢;split<;>simp_all
theorem OkTo.zero (l:List Ver):OkTo l 0:=fun i x h=>by omega
theorem OkTo.succ {l:List Ver} {n:Nat} (h:OkTo l n) {x:Ver} (hx:l[n]?=some x) (hg:OkAt l n x):OkTo l (n+1):=by
 intro i y hi hy
 rcases Nat.lt_or_ge i n with h1|h1
 ·exact h i y h1 hy
 ·obtain rfl:i=n:=by omega
  rw [hx] at hy;cases hy;exact hg
theorem GoodV.made {l:List Ver} {low:Int} (h:GoodV l low) {x:Ver} (hx:x∈l):Made x:=by
 obtain ⟨i,hi⟩:=List.getElem?_of_mem hx
 exact (h.ok i x (List.getElem?_eq_some_iff.1 hi).1 hi).1
theorem zO4 {l:List Ver} (h:∀ j x y,l[j]?=some x→l[j+1]?=some y→vlt x y):∀ d i x y,l[i]?=some x→l[i+d+1]?=some y→vlt x y
 |0,i,x,y,hx,hy=>h i x y hx hy
 |d+1,i,x,y,hx,hy=>by
  have hl:=(List.getElem?_eq_some_iff.1 hy).1
  obtain ⟨z,hz⟩:∃ z,l[i+d+1]?=some z:=⟨l[i+d+1]'(by omega),by simp⟩
  exact zNV (zO4 h d i x z hx hz) (h _ z y hz hy)
theorem GoodV.sorted {l:List Ver} {low:Int} (h:GoodV l low):l.Pairwise vlt:=by
 rw [List.pairwise_iff_getElem]
 intro i j hi hj hij
 refine zO4 (l:=l) (fun j x y hx hy=>(h.ok (j+1) y (List.getElem?_eq_some_iff.1 hy).1 hy).2 j x rfl hx) (j - i - 1) i _ _ (by simp) ?_
 rw [show i+(j - i - 1)+1=j by omega];simp
theorem zOr {l:List Ver} {low:Int} (h1:l.length≤4096) (h2:low≤2305843009213693952) (h3:∀ x∈l,Made x) (h4:l.Pairwise vlt):GoodV l low:=
 ⟨h1,h2,fun i x hi hx=>⟨h3 x (List.mem_of_getElem? hx),fun j y hj hy=>by
  subst hj
  have a:=List.getElem?_eq_some_iff.1 hx;have b:=List.getElem?_eq_some_iff.1 hy
  have:=List.pairwise_iff_getElem.1 h4 j (j+1) b.1 a.1 (by omega)
  rw [a.2,b.2] at this;exact this⟩⟩
noncomputable def vask (l:List Ver) (low t:Int):Int:=if vchk l low≠0 then 2 else if t<low then 9 else 0
theorem zLS {l:List Ver} {low t:Int}:vask l low t=0↔GoodV l low∧low≤t:=by
 unfold vask
 by_cases h:vchk l low=0
 ·rw [if_neg (by simp [h])]
  rw [zKQ] at h
  split
  ·exact ⟨fun h=>absurd h (by decide),fun h=>by omega⟩
  ·exact ⟨fun _=>⟨h,by omega⟩,fun _=>rfl⟩
 ·rw [if_pos h]
  exact ⟨fun h=>absurd h (by decide),fun h2=>absurd (zKQ.2 h2.1) h⟩
def sees (l:List Ver) (key:ByteArray) (t:Int):Option Ver:=(l.filter fun x=>decide (x.Key=key)&&decide (x.At≤t)).getLast?
def outV:Option Ver→ByteArray × Bool
 |none=>(noB,false)
 |some x=>(x.Val,!x.Gone)
noncomputable def vget (l:List Ver) (low:Int) (key:ByteArray) (t:Int):ByteArray × Bool × Int:=
 if vask l low t≠0 then (noB,false,vask l low t) else ((outV (sees l key t)).1,(outV (sees l key t)).2,0)
theorem zQI (key:ByteArray) (t:Int):sees [] key t=none:=rfl
theorem zMN (l m:List Ver) (key:ByteArray) (t:Int):sees (l++m) key t=(sees m key t).or (sees l key t):=by
 unfold sees
 rw [List.filter_append,List.getLast?_append]
theorem zQF (x:Ver) (key:ByteArray) (t:Int):sees [x] key t=if x.Key=key∧x.At≤t then some x else none:=by
 unfold sees
 by_cases h:x.Key=key∧x.At≤t
 ·rw [if_pos h];simp [h.1,h.2]
 ·rw [if_neg h]
  have:([x].filter fun x=>decide (x.Key=key)&&decide (x.At≤t))=[]:=by
   rw [List.filter_eq_nil_iff];intro y hy;simp at hy;subst hy;simpa using fun h1=>Int.not_le.1 fun h2=>h ⟨h1,h2⟩
  rw [this];rfl
theorem zIx {α:Type} {l:List α} {n:Nat} {x:α} (h:l[n]?=some x):l.take (n+1)=l.take n++[x]:=by
 rw [List.take_add_one,h];rfl
theorem zMY {l:List Ver} {key:ByteArray} {t:Int} {x:Ver} (h:sees l key t=some x):x∈l∧x.Key=key∧x.At≤t:=by
 unfold sees at h
 have:=List.mem_of_getLast? h
 rw [List.mem_filter] at this
 simp at this
 exact ⟨this.1,this.2.1,this.2.2⟩
theorem zJY {l:List Ver} {key:ByteArray} {t:Int}:sees l key t=none↔∀ x∈l,¬ (x.Key=key∧x.At≤t):=by
 unfold sees
 rw [List.getLast?_eq_none_iff,List.filter_eq_nil_iff]
 simp
theorem zOP {l:List Ver} (hs:l.Pairwise vlt) {key:ByteArray} {t:Int} {x:Ver} (hx:x∈l) (hk:x.Key=key) (ht:x.At≤t) (hm:∀ y∈l,y.Key=key→y.At≤t→y.At≤x.At):sees l key t=some x:=by
 cases h:sees l key t with
 |none=>exact absurd ⟨hk,ht⟩ (zJY.1 h x hx)
 |some y=>
  obtain ⟨h1,h2,h3⟩:=zMY h
  have h4:=hm y h1 h2 h3
  have hsort:(l.filter fun x=>decide (x.Key=key)&&decide (x.At≤t)).Pairwise vlt:=hs.sublist List.filter_sublist
  have hxf:x∈l.filter fun x=>decide (x.Key=key)&&decide (x.At≤t):=by rw [List.mem_filter];exact ⟨hx,by simp [hk,ht]⟩
  unfold sees at h
  obtain ⟨ys,hys⟩:=List.getLast?_eq_some_iff.1 h
  rw [hys] at hxf hsort
  rcases List.mem_append.1 hxf with h5|h5
  ·have h6:=(List.pairwise_append.1 hsort).2.2 x h5 y (by simp)
   rcases h6 with h6|h6
   ·rw [hk,h2] at h6;exact absurd h6 (zFy _)
   ·omega
  ·simp at h5;rw [h5]
theorem zTS {l:List Ver} (hs:l.Pairwise vlt) {key:ByteArray} {t:Int} {x:Ver} (h:sees l key t=some x):∀ y∈l,y.Key=key→y.At≤t→y.At≤x.At:=by
 intro y hy hk ht
 obtain ⟨h1,h2,h3⟩:=zMY h
 have hsort:(l.filter fun x=>decide (x.Key=key)&&decide (x.At≤t)).Pairwise vlt:=hs.sublist List.filter_sublist
 have hyf:y∈l.filter fun x=>decide (x.Key=key)&&decide (x.At≤t):=by rw [List.mem_filter];exact ⟨hy,by simp [hk,ht]⟩
 unfold sees at h
 obtain ⟨ys,hys⟩:=List.getLast?_eq_some_iff.1 h
 rw [hys] at hyf hsort
 rcases List.mem_append.1 hyf with h5|h5
 ·have h6:=(List.pairwise_append.1 hsort).2.2 y h5 x (by simp)
  rcases h6 with h6|h6
  ·rw [hk,h2] at h6;exact absurd h6 (zFy _)
  ·omega
 ·simp at h5;rw [h5];omega
end Go.Proofs.YtealcoghiaeiiaaGreat.VG
