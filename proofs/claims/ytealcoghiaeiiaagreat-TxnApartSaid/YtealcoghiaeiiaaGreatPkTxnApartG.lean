/- Texts by which the law's calls are walked (part 7): rules, printed conditions, contracts; no condition. -/
import Derived.TacticsIn
import Derived.TacticsInMore
import Derived.Deep.LoopGhost
import Derived.Sort.QuietThIn
import Derived.RangeFuncCalls
import Derived.RangeFuncNested
import Derived.RangeFuncLeaves
import Derived.WalkKit
import Derived.StillTail
import Derived.Test.YtealcoghiaeiiaaGreatProg
import Derived.KernelRfl
import Derived.Deep.WholeRow
import Derived.Laws.StructEq
import Derived.MapFrom
import Derived.Laws.CopyRow
import Derived.Maps.RangeRun
import Derived.Sort.Walk0
import Derived.RangeFuncBound
import Derived.Test.YtealcoghiaeiiaaGreatPkTxnApartF
set_option linter.unusedVariables false
set_option linter.unusedSimpArgs false
namespace Go.Proofs.YtealcoghiaeiiaaGreat.VG
open Go.VB Go.Proofs
def zID (x9:Option Addr) (x60:Int) (Kl4:Int→World→Prop) (x12:Option Addr) (w:World):Prop:=
 opE Tryz.prog Value.pointer (Instr.fieldAt 69 (.pointer x9) 0) w (fun x75 w=>opE Tryz.prog Sl.v (Instr.loadAt 67 (.pointer x75)) w (fun x76 w=>opE Tryz.prog zAB.v (Instr.loadAt 72 (.pointer x12)) w (fun x77 w=>opE Tryz.prog Sl.v (Instr.buildSlice 67 1 [(0,(zAB.v x77))].toArray) w (fun x78 w=>opE Tryz.prog Sl.v (Builtin.append_ #[67,67] 67 [(Sl.v x76),(Sl.v x78)].toArray) w (fun x79 w=>opE Tryz.prog Value.pointer (Instr.fieldAt 69 (.pointer x9) 0) w (fun x80 w=>opU Tryz.prog (Instr.storeAt 67 (.pointer x80) (Sl.v x79)) w (fun w=>Kl4 (IntKind.wrap .i64 (x60+1)) w)))))))
def zJt (x1:Sl) (Ret:zAH→Int→World→Prop) (x5:Option Addr) (x6:Option Addr) (x9:Option Addr) (x60:Int) (w:World) (Kl4:Int→World→Prop):Prop:=
 ((x60<(x1.len:Int))→(opE Tryz.prog Value.pointer (Instr.indexAt 30 (Sl.v x1) (.int .i64 x60)) w (fun x62 w=>opE Tryz.prog zAD.v (Instr.loadAt 34 (.pointer x62)) w (fun x63 w=>opE Tryz.prog Value.pointer (Instr.alloc 34 true (.tuple #[])) w (fun x11 w=>opU Tryz.prog (Instr.storeAt 34 (.pointer x11) (zAD.v x63)) w (fun w=>opE Tryz.prog Value.pointer (Instr.fieldAt 34 (.pointer x11) 0) w (fun x64 w=>opE Tryz.prog Value.string (Instr.loadAt 9 (.pointer x64)) w (fun x65 w=>opE Tryz.prog (Value.int .u64) (Instr.loadAt 37 (.pointer x5)) w (fun x66 w=>opE Tryz.prog Value.pointer (Instr.fieldAt 34 (.pointer x11) 1) w (fun x67 w=>opE Tryz.prog Value.string (Instr.loadAt 9 (.pointer x67)) w (fun x68 w=>opE Tryz.prog Value.pointer (Instr.fieldAt 34 (.pointer x11) 2) w (fun x69 w=>opE Tryz.prog Value.bool (Instr.loadAt 4 (.pointer x69)) w (fun x70 w=>opE Tryz.prog zAB.v (Instr.build 72 [(0,(.string x65)),(1,(.int .u64 x66)),(2,(.string x68)),(3,(.bool x70))].toArray) w (fun x71 w=>opE Tryz.prog Value.pointer (Instr.alloc 72 true (.tuple #[])) w (fun x12 w=>opU Tryz.prog (Instr.storeAt 72 (.pointer x12) (zAB.v x71)) w (fun w=>opE Tryz.prog Value.pointer (Instr.fieldAt 34 (.pointer x11) 2) w (fun x72 w=>opE Tryz.prog Value.bool (Instr.loadAt 4 (.pointer x72)) w (fun x73 w=>(x73=true→(opE Tryz.prog Value.pointer (Instr.fieldAt 72 (.pointer x12) 2) w (fun x74 w=>opU Tryz.prog (Instr.storeAt 9 (.pointer x74) (.string (ByteArray.mk #[]))) w (fun w=>zID x9 x60 Kl4 x12 w))))∧(x73=false→(zID x9 x60 Kl4 x12 w))))))))))))))))))))∧(¬ (x60<(x1.len:Int))→(opE Tryz.prog Value.pointer (Instr.fieldAt 69 (.pointer x9) 0) w (fun x82 w=>opE Tryz.prog Sl.v (Instr.loadAt 67 (.pointer x82)) w (fun x83 w=>Cl Tryz.prog 67 [(Sl.v x83),(.func (.func 68) #[] #[])].toArray w (fun e w=>e=.returned (.tuple [].toArray)∧(opE Tryz.prog zAH.v (Instr.loadAt 69 (.pointer x9)) w (fun x85 w=>opU Tryz.prog (Instr.storeAt 69 (.pointer x6) (zAH.v x85)) w (fun w=>opR Tryz.prog zAH.v 69 x6 w (fun q_1=>Ret q_1 0 w)))))))))
def zIE (x1:Sl) (Ret:zAH→Int→World→Prop) (x5:Option Addr) (x6:Option Addr) (x9:Option Addr) (w:World):Prop:=
 ∃ (I:Int→World→Prop) (μ:Int→World→Nat),I 0 w∧∀ (x60:Int) w,I x60 w→zJt x1 Ret x5 x6 x9 x60 w (fun x60' w'=>I x60' w'∧μ x60' w'<μ x60 w)
def zGC (x1:Sl) (Ret:zAH→Int→World→Prop) (x3:Option Addr) (x5:Option Addr) (x6:Option Addr) (x8_1:Int) (w:World):Prop:=
 ((x8_1≠0)→(opE Tryz.prog zAH.v (Instr.build 69 [].toArray) w (fun x50 w=>opU Tryz.prog (Instr.storeAt 69 (.pointer x6) (zAH.v x50)) w (fun w=>opR Tryz.prog zAH.v 69 x6 w (fun q=>Ret q x8_1 w)))))∧(¬ (x8_1≠0)→(regC w (fun C6 w=>opC C6 Tryz.prog Value.pointer (Instr.fieldAt 69 (.pointer x3) 0) (fun x52=>opC C6 Tryz.prog Value.pointer (Instr.fieldAt 69 (.pointer x3) 1) (fun x55=>opC C6 Tryz.prog Sl.v (Instr.loadAt 67 (.pointer x52)) (fun x53=>opC C6 Tryz.prog (Value.int .u64) (Instr.loadAt 37 (.pointer x55)) (fun x56=>(Cl Tryz.prog 52 [(Sl.v x53)].toArray w (fun e w=>∃ (r_1:Sl),e=.returned (Sl.v r_1)∧(C6 w∧(opC C6 Tryz.prog zAH.v (Instr.build 69 [(0,(Sl.v r_1)),(1,(.int .u64 x56))].toArray) (fun x57=>opE Tryz.prog Value.pointer (Instr.alloc 69 true (.tuple #[])) w (fun x9_1 w=>C6 w∧(opU Tryz.prog (Instr.storeAt 69 (.pointer x9_1) (zAH.v x57)) w (fun w=>C6 w∧(zIE x1 Ret x5 x6 x9_1 w)))))))))∧(opE Tryz.prog Value.pointer (Instr.alloc 69 true (.tuple #[])) w (fun x9_2 w=>C6 w∧(Cl Tryz.prog 52 [(Sl.v x53)].toArray w (fun e w=>∃ (r_2:Sl),e=.returned (Sl.v r_2)∧(C6 w∧(opC C6 Tryz.prog zAH.v (Instr.build 69 [(0,(Sl.v r_2)),(1,(.int .u64 x56))].toArray) (fun x57_1=>opU Tryz.prog (Instr.storeAt 69 (.pointer x9_2) (zAH.v x57_1)) w (fun w=>C6 w∧(zIE x1 Ret x5 x6 x9_2 w))))))))))))))))
def zIN (x1:Sl) (Ret:zAH→Int→World→Prop) (x3:Option Addr) (x5:Option Addr) (x6:Option Addr) (x8:Int) (x39:Bool) (w:World):Prop:=
 (x39=true→(zGC x1 Ret x3 x5 x6 9 w))∧(x39=false→(opE Tryz.prog Value.pointer (Instr.fieldAt 69 (.pointer x3) 0) w (fun x41 w=>opE Tryz.prog Sl.v (Instr.loadAt 67 (.pointer x41)) w (fun x42 w=>((4096<(IntKind.wrap .i64 ((x42.len:Int)+(x1.len:Int))))→(zGC x1 Ret x3 x5 x6 3 w))∧(¬ (4096<(IntKind.wrap .i64 ((x42.len:Int)+(x1.len:Int))))→(zGC x1 Ret x3 x5 x6 x8 w))))))
def zIO (x1:Sl) (Ret:zAH→Int→World→Prop) (x3:Option Addr) (x5:Option Addr) (x6:Option Addr) (x8:Int) (x28:Bool) (w:World):Prop:=
 (x28=true→(zGC x1 Ret x3 x5 x6 2 w))∧(x28=false→(opE Tryz.prog (Value.int .u64) (Instr.loadAt 37 (.pointer x5)) w (fun x30 w=>opE Tryz.prog Value.pointer (Instr.fieldAt 69 (.pointer x3) 1) w (fun x31 w=>opE Tryz.prog (Value.int .u64) (Instr.loadAt 37 (.pointer x31)) w (fun x32 w=>((x30<x32)→(zIN x1 Ret x3 x5 x6 x8 true w))∧(¬ (x30<x32)→(opE Tryz.prog Value.pointer (Instr.fieldAt 69 (.pointer x3) 0) w (fun x35 w=>opE Tryz.prog Sl.v (Instr.loadAt 67 (.pointer x35)) w (fun x36 w=>Cl Tryz.prog 57 [(Sl.v x36),(.func (.func 66) [].toArray [(.pointer x5)].toArray)].toArray w (fun e w=>∃ (r_3:Bool),e=.returned (.bool r_3)∧(zIN x1 Ret x3 x5 x6 x8 r_3 w)))))))))))
def zIH (x1:Sl) (Ret:zAH→Int→World→Prop) (x3:Option Addr) (x5:Option Addr) (x6:Option Addr) (x8:Int) (w:World):Prop:=
 ((x8≠0)→(zGC x1 Ret x3 x5 x6 x8 w))∧(¬ (x8≠0)→(opE Tryz.prog (Value.int .u64) (Instr.loadAt 37 (.pointer x5)) w (fun x23 w=>((x23<1)→(zIO x1 Ret x3 x5 x6 x8 true w))∧(¬ (x23<1)→(opE Tryz.prog (Value.int .u64) (Instr.loadAt 37 (.pointer x5)) w (fun x26 w=>zIO x1 Ret x3 x5 x6 x8 (decide (2305843009213693952<x26)) w))))))
def zM8 (x0:zAH) (x1:Sl) (x2:Int) (w:World) (Ret:zAH→Int→World→Prop):Prop:=
 opE Tryz.prog Value.pointer (Instr.box 69 (zAH.v x0)) w (fun x3 w=>opE Tryz.prog Value.pointer (Instr.box 37 (.int .u64 x2)) w (fun x5 w=>opE Tryz.prog Value.pointer (Instr.alloc 69 true (.tuple #[])) w (fun x6 w=>opE Tryz.prog zAH.v (Instr.loadAt 69 (.pointer x3)) w (fun x13 w=>Cl Tryz.prog 64 [(zAH.v x13)].toArray w (fun e w=>∃ (r:Int),e=.returned (.int .i64 r)∧(((r=0)→(Cl Tryz.prog 65 [(Sl.v x1)].toArray w (fun e w=>∃ (r_4:Int),e=.returned (.int .i64 r_4)∧(zIH x1 Ret x3 x5 x6 r_4 w))))∧(¬ (r=0)→(zIH x1 Ret x3 x5 x6 r w))))))))
set_option maxRecDepth 100000 in
theorem zPa (x0:zAH) (x1:Sl) (x2:Int) (w:World) (Ret:zAH→Int→World→Prop) (H:zM8 x0 x1 x2 w Ret):Cl Tryz.prog 40 [(zAH.v x0),(Sl.v x1),(.int .u64 x2)].toArray w (fun e w'=>∃ (r0:zAH) (r1:Int),e=.returned (.tuple [(zAH.v r0),(.int .i64 r1)].toArray)∧Ret r0 r1 w'):=by
 unfold zM8 at H
 refine zAY 86 (zipE 0 [(zAH.v x0),(Sl.v x1),(.int .u64 x2)]) Tryz.func40 rfl rfl (by rfl) rfl ?_
 intro a g
 replace g:Sat [] 86 [(0,(zAH.v x0)),(1,(Sl.v x1)),(2,(.int .u64 x2))] a:=g
 refine zAF (zAA (g.op (zIm g rfl) H fun x3 w a H g=>(g.op (zIm g rfl) H fun x5 w a H g=>(g.op (zEH) H fun x6 w a H g=>(g.as_ rfl fun _ g=>(zAG (tn (zAF (zAA (g.op (zAI g rfl) H fun x13 w a H g=>(g.call (zAQ g ent64 rfl rfl) H fun e w H=>?_)))))))))))
 obtain ⟨r,rfl,H⟩:=H
 refine ⟨_,rfl,fun _ g=>(g.as_ rfl fun _ g=>(zAG (tn (zBG (ds:=[]) (N:=86) (σ:=Int) (fun s=>[(8,(.int .i64 s)),(1,(Sl.v x1)),(3,(.pointer x3)),(5,(.pointer x5)),(6,(.pointer x6))]) (fun s w=>zIH x1 Ret x3 x5 x6 s w) ?_ (fun hj1=>?_)))))⟩
 ·intro x8 w a H g
  try dsimp only at H g
  unfold zIH at H
  refine zBG (ds:=[]) (N:=86) (σ:=Int) (fun s=>[(8,(.int .i64 s)),(1,(Sl.v x1)),(3,(.pointer x3)),(5,(.pointer x5)),(6,(.pointer x6))]) (fun s w=>zGC x1 Ret x3 x5 x6 s w) ?_ (fun hj2=>?_)
  ·intro x8_1 w a H g
   try dsimp only at H g
   unfold zGC at H
   refine zAF (zAF (zAA (g.mv rfl fun _ g=>(g.pur (zLw g rfl rfl) fun _ g=>(zAG (tn (zAR g rfl (fun hc=>?_) (fun hc=>?_))))))))
   ·replace H:=H.1 hc
    refine zAF (zAA (g.op (zGM g rfl) H fun x50 w a H g=>(g.mv rfl fun _ g=>(g.opu (zAM g rfl rfl) H fun w a H g=>(g.as_ rfl fun _ g=>(zAG (tn ?_)))))))
    obtain ⟨q,ad,hp,hl,H⟩:=H
    exact zAf (tr (zOs g (rs:=[.cell 6 69,.tmp 7]) (vs:=[(zAH.v q),(.int .i64 x8_1)]) rfl ⟨⟨ad,by rw [← hp];rfl,hl⟩,rfl,trivial⟩ ⟨_,_,rfl,H⟩))
   ·replace H:=H.2 hc
    refine zAP (tn (zBG (ds:=[]) (N:=86) (σ:=(Option Addr)) (fun s=>[(9,(.pointer s)),(1,(Sl.v x1)),(5,(.pointer x5)),(6,(.pointer x6))]) (fun s w=>zIE x1 Ret x5 x6 s w) ?_ (fun hj3=>?_)))
    ·intro x9 w a H g
     try dsimp only at H g
     unfold zIE at H
     refine zAF (zAF (zAA (g.mv rfl fun _ g=>(g.purR (fun w=>zGm g Tryz.underlying30 rfl) fun _ g=>(g.mv rfl fun _ g=>(zAG (tn (zAN ?_))))))))
     obtain ⟨I_l4,μ_l4,h0,hb⟩:=H
     refine zBl (ds:=[]) (N:=86) (σ:=Int) (fun s=>[(60,(.int .i64 s)),(5,(.pointer x5)),(6,(.pointer x6)),(9,(.pointer x9)),(58,(Sl.v x1)),(59,(.int .i64 (x1.len:Int)))]) (fun s w=>I_l4 s w) (fun s w=>μ_l4 s w) 0 h0 (g.weak ⟨rfl,rfl,rfl,rfl,rfl,rfl,trivial⟩) ?_
     intro x60 w a hI g
     try dsimp only at hI g
     obtain ⟨Kl4,hK_l4⟩:∃ K:Int→World→Prop,K=(fun x60' w'=>I_l4 x60' w'∧μ_l4 x60' w'<μ_l4 x60 w):=⟨_,rfl⟩
     have H:zJt x1 Ret x5 x6 x9 x60 w Kl4:=by rw [hK_l4];exact hb x60 w hI
     clear hb h0 hI
     unfold zJt at H
     refine zAF (zAA (g.pur (zDp g rfl rfl) fun _ g=>(zAG (tn (zAF (zAR g rfl (fun hc=>?_) (fun hc=>?_)))))))
     ·replace H:=H.1 hc
      refine zAP (tn (zAF (zAN (zAF (zAA (g.op (zAC g rfl rfl) H fun x62 w a H g=>(g.op (zAI g rfl) H fun x63 w a H g=>(g.op (zEH) H fun x11 w a H g=>(g.opu (zAM g rfl rfl) H fun w a H g=>(zAG (tn (zAF (zAA (g.op (zAJ g rfl) H fun x64 w a H g=>(g.op (zAI g rfl) H fun x65 w a H g=>(g.op (zAI g rfl) H fun x66 w a H g=>(g.op (zAJ g rfl) H fun x67 w a H g=>(g.op (zAI g rfl) H fun x68 w a H g=>(g.op (zAJ g rfl) H fun x69 w a H g=>(g.op (zAI g rfl) H fun x70 w a H g=>(g.op (zGM g rfl) H fun x71 w a H g=>(g.op (zEH) H fun x12 w a H g=>(g.opu (zAM g rfl rfl) H fun w a H g=>(zAG (tn (zBG (ds:=[]) (N:=86) (σ:=Unit) (fun s=>[(5,(.pointer x5)),(6,(.pointer x6)),(9,(.pointer x9)),(12,(.pointer x12)),(58,(Sl.v x1)),(59,(.int .i64 (x1.len:Int))),(60,(.int .i64 x60))]) (fun s w=>zID x9 x60 Kl4 x12 w) ?_ (fun hj5=>?_)))))))))))))))))))))))))))
      ·rintro ⟨⟩ w a H g
       try dsimp only at H g
       unfold zID at H
       refine zAA (g.op (zAJ g rfl) H fun x75 w a H g=>(g.op (zAI g rfl) H fun x76 w a H g=>(g.op (zAI g rfl) H fun x77 w a H g=>(g.op (zFI g rfl) H fun x78 w a H g=>(g.op (zJv g rfl) H fun x79 w a H g=>(g.op (zAJ g rfl) H fun x80 w a H g=>(g.opu (zAM g rfl rfl) H fun w a H g=>(zAG (bn (tn (zAA (g.pur (zAn g rfl rfl) fun _ g=>(g.mv rfl fun _ g=>?_)))))))))))))
       rw [hK_l4] at H
       exact zAG (tn ⟨(IntKind.wrap .i64 (x60+1)),g.weak ⟨rfl,rfl,rfl,rfl,rfl,rfl,trivial⟩,H⟩)
      ·refine zAF (zAA (g.op (zAJ g rfl) H fun x72 w a H g=>(g.op (zAI g rfl) H fun x73 w a H g=>(zAG (tn (zAV g rfl (fun hc=>?_) (fun hc=>?_)))))))
       ·replace H:=H.1 hc
        exact zAA (g.op (zAJ g rfl) H fun x74 w a H g=>(g.opu (zAM g rfl rfl) H fun w a H g=>(zAG (tn (hj5 () _ _ H (g.weak ⟨rfl,rfl,rfl,rfl,rfl,rfl,rfl,trivial⟩))))))
       ·replace H:=H.2 hc
        exact zAP (tn (hj5 () _ _ H (g.weak ⟨rfl,rfl,rfl,rfl,rfl,rfl,rfl,trivial⟩)))
     ·replace H:=H.2 hc
      refine zBJ (te (te (be (tn (zAF (zAA (g.op (zAJ g rfl) H fun x82 w a H g=>(g.op (zAI g rfl) H fun x83 w a H g=>(g.call (zAQ g ent67 rfl rfl) H fun e w H=>?_)))))))))
      obtain ⟨rfl,H⟩:=H
      refine ⟨_,rfl,fun _ g=>(zAG (tn (zAF (zAA (g.op (zAI g rfl) H fun x85 w a H g=>(g.opu (zAM g rfl rfl) H fun w a H g=>(g.as_ rfl fun _ g=>(zAG (tn ?_)))))))))⟩
      obtain ⟨q_1,ad_1,hp_1,hl_1,H⟩:=H
      exact zAf (zOs g (rs:=[.cell 6 69,.tmp 7]) (vs:=[(zAH.v q_1),(.int .i64 0)]) rfl ⟨⟨ad_1,by rw [← hp_1];rfl,hl_1⟩,rfl,trivial⟩ ⟨_,_,rfl,H⟩)
    ·refine zTg H 8 fun C6 w hC0 H=>g.ko 0 rfl hC0 (zAJ g rfl) H fun x52 a H g=>g.ko 3 rfl hC0 (zAJ g rfl) H fun x55 a H g=>g.ko 1 rfl hC0 (zAI g rfl) H fun x53 a H g=>g.ko 4 rfl hC0 (zAI g rfl) H fun x56 a H g=>WK.tw 2 6 rfl rfl ?_ ?_
     ·replace H:=H.1
      intro K hK
      refine g.wcall (zAQ g ent52 rfl rfl) H fun e w H=>?_
      obtain ⟨r_1,rfl,H⟩:=H
      refine ⟨_,rfl,fun _ g=>(hK _ _ ⟨H.1,?_⟩)⟩
      have hC1:=H.1
      replace H:=H.2
      refine g.ko 5 rfl hC1 (zGM g rfl) H fun x57 a H g=>WK.on 6 rfl ?_
      intro K hK
      refine g.wop (zEH) H fun x9_1 w a H g=>hK _ _ ⟨H.1,?_⟩
      have hC2:=H.1
      replace H:=H.2
      refine WK.on 7 rfl ?_
      intro K hK
      refine g.wopu (zAM g rfl rfl) H fun w a H g=>hK _ _ ⟨H.1,?_⟩
      have hC3:=H.1
      replace H:=H.2
      exact WK.nil (by kernel_rfl) ((tn (hj3 x9_1 _ _ H (g.weak ⟨rfl,rfl,rfl,rfl,trivial⟩))))
     ·replace H:=H.2
      intro K hK
      refine g.wop (zEH) H fun x9_2 w a H g=>hK _ _ ⟨H.1,?_⟩
      have hC1:=H.1
      replace H:=H.2
      refine WK.on 2 rfl ?_
      intro K hK
      refine g.wcall (zAQ g ent52 rfl rfl) H fun e w H=>?_
      obtain ⟨r_2,rfl,H⟩:=H
      refine ⟨_,rfl,fun _ g=>(hK _ _ ⟨H.1,?_⟩)⟩
      have hC2:=H.1
      replace H:=H.2
      refine g.ko 5 rfl hC2 (zGM g rfl) H fun x57_1 a H g=>WK.on 7 rfl ?_
      intro K hK
      refine g.wopu (zAM g rfl rfl) H fun w a H g=>hK _ _ ⟨H.1,?_⟩
      have hC3:=H.1
      replace H:=H.2
      exact WK.nil (by kernel_rfl) ((tn (hj3 x9_2 _ _ H (g.weak ⟨rfl,rfl,rfl,rfl,trivial⟩))))
  ·refine zAN (zAF (zAA (g.mv rfl fun _ g=>(g.pur (zLw g rfl rfl) fun _ g=>(g.as_ rfl fun _ g=>(zAG (tn (zAR g rfl (fun hc=>?_) (fun hc=>?_)))))))))
   ·replace H:=H.1 hc
    exact zAP (bn (tn (hj2 x8 _ _ H (g.weak ⟨rfl,rfl,rfl,rfl,rfl,trivial⟩))))
   ·replace H:=H.2 hc
    refine zAF (zAA (g.op (zAI g rfl) H fun x23 w a H g=>(g.pur (zDp g rfl rfl) fun _ g=>(g.mv rfl fun _ g=>(WL.join (ds:=[]) (N:=86) (σ:=Bool) (fun s=>[(28,(.bool s)),(1,(Sl.v x1)),(3,(.pointer x3)),(5,(.pointer x5)),(6,(.pointer x6)),(8,(.int .i64 x8))]) (fun s w=>zIO x1 Ret x3 x5 x6 x8 s w) 3 ?_ (fun hr7=>?_))))))
    ·intro x28 w a H g
     try dsimp only at H g
     unfold zIO at H
     refine g.as_ rfl fun _ g=>zAG (tn (zAV g rfl (fun hc=>?_) (fun hc=>?_)))
     ·replace H:=H.1 hc
      exact zAA (g.as_ rfl fun _ g=>(zAG (bn (tn (hj2 2 _ _ H (g.weak ⟨rfl,rfl,rfl,rfl,rfl,trivial⟩))))))
     ·replace H:=H.2 hc
      refine zAF (zAA (g.op (zAI g rfl) H fun x30 w a H g=>(g.op (zAJ g rfl) H fun x31 w a H g=>(g.op (zAI g rfl) H fun x32 w a H g=>(g.pur (zDp g rfl rfl) fun _ g=>(g.mv rfl fun _ g=>(WL.join (ds:=[]) (N:=86) (σ:=Bool) (fun s=>[(39,(.bool s)),(1,(Sl.v x1)),(3,(.pointer x3)),(5,(.pointer x5)),(6,(.pointer x6)),(8,(.int .i64 x8))]) (fun s w=>zIN x1 Ret x3 x5 x6 x8 s w) 5 ?_ (fun hr8=>?_))))))))
      ·intro x39 w a H g
       try dsimp only at H g
       unfold zIN at H
       refine g.as_ rfl fun _ g=>zAG (tn (zAV g rfl (fun hc=>?_) (fun hc=>?_)))
       ·replace H:=H.1 hc
        exact zAA (g.as_ rfl fun _ g=>(zAG (bn (tn (hj2 9 _ _ H (g.weak ⟨rfl,rfl,rfl,rfl,rfl,trivial⟩))))))
       ·replace H:=H.2 hc
        refine zAF (zAA (g.op (zAJ g rfl) H fun x41 w a H g=>(g.op (zAI g rfl) H fun x42 w a H g=>(g.purR (fun w=>zGm g Tryz.underlying67 rfl) fun _ g=>(g.mv rfl fun _ g=>(g.purR (fun w=>zGm g Tryz.underlying30 rfl) fun _ g=>(g.pur (zAn g rfl rfl) fun _ g=>(g.pur (zIG g rfl rfl) fun _ g=>(g.as_ rfl fun _ g=>(zAG (tn (zAR g rfl (fun hc=>?_) (fun hc=>?_)))))))))))))
        ·replace H:=H.1 hc
         exact zAA (g.as_ rfl fun _ g=>(zAG (bn (tn (hj2 3 _ _ H (g.weak ⟨rfl,rfl,rfl,rfl,rfl,trivial⟩))))))
        ·replace H:=H.2 hc
         exact zAP (bn (tn (hj2 x8 _ _ H (g.weak ⟨rfl,rfl,rfl,rfl,rfl,trivial⟩))))
      ·rcases Classical.em ((x30<x32)) with hbr8|hbr8
       ·replace H:=H.1 hbr8
        replace g:=g.bool (b:=true) (t:=34) rfl (decide_eq_true hbr8)
        exact g.off (by rfl) (by rfl) (by decide) (fun _ g=>(g.off (by rfl) (by rfl) (by decide) (fun _ g=>(g.off (by rfl) (by rfl) (by decide) (fun _ g=>(g.off (by rfl) (by rfl) (by decide) (fun _ g=>(g.pur (zAj g rfl rfl) fun _ g=>(hr8 true _ _ H (g.weak ⟨rfl,rfl,rfl,rfl,rfl,rfl,trivial⟩))))))))))
       ·replace H:=H.2 hbr8
        replace g:=g.bool (b:=false) (t:=34) rfl (decide_eq_false hbr8)
        refine g.on (by rfl) (by rfl) (g.op (zAJ g rfl) H fun x35 w a H g=>(g.on (by rfl) (by rfl) (g.op (zAI g rfl) H fun x36 w a H g=>(g.on (by rfl) (by rfl) (g.pur (zKM g rfl rfl) fun _ g=>(g.on (by rfl) (by rfl) (g.call (zAQ g ent57 rfl rfl) H fun e w H=>?_)))))))
        obtain ⟨r_3,rfl,H⟩:=H
        exact ⟨_,rfl,fun _ g=>(g.pur (zAi g rfl rfl) fun _ g=>(hr8 r_3 _ _ H (g.weak ⟨rfl,rfl,rfl,rfl,rfl,rfl,trivial⟩)))⟩
    ·rcases Classical.em ((x23<1)) with hbr7|hbr7
     ·replace H:=H.1 hbr7
      replace g:=g.bool (b:=true) (t:=25) rfl (decide_eq_true hbr7)
      exact g.off (by rfl) (by rfl) (by decide) (fun _ g=>(g.off (by rfl) (by rfl) (by decide) (fun _ g=>(g.pur (zAj g rfl rfl) fun _ g=>(hr7 true _ _ H (g.weak ⟨rfl,rfl,rfl,rfl,rfl,rfl,trivial⟩))))))
     ·replace H:=H.2 hbr7
      replace g:=g.bool (b:=false) (t:=25) rfl (decide_eq_false hbr7)
      exact g.on (by rfl) (by rfl) (g.op (zAI g rfl) H fun x26 w a H g=>(g.on (by rfl) (by rfl) (g.pur (zIG g rfl rfl) fun _ g=>(g.pur (zAi g rfl rfl) fun _ g=>(hr7 (decide (2305843009213693952<x26)) _ _ H (g.weak ⟨rfl,rfl,rfl,rfl,rfl,rfl,trivial⟩))))))
 ·refine zAF (zAA (g.mv rfl fun _ g=>(g.pur (zGX g rfl rfl) fun _ g=>(zAG (tn (zAR g rfl (fun hc=>?_) (fun hc=>?_)))))))
  ·replace H:=H.1 hc
   refine zAA (g.mv rfl fun _ g=>(g.call (zAQ g ent65 rfl rfl) H fun e w H=>?_))
   obtain ⟨r_4,rfl,H⟩:=H
   exact ⟨_,rfl,fun _ g=>(g.as_ rfl fun _ g=>(zAG (tn (hj1 r_4 _ _ H (g.weak ⟨rfl,rfl,rfl,rfl,rfl,trivial⟩)))))⟩
  ·replace H:=H.2 hc
   exact zAP (tn (hj1 r _ _ H (g.weak ⟨rfl,rfl,rfl,rfl,rfl,trivial⟩)))
def zIt (x11:Option Addr) (x25:ByteArray) (Gf1:World→Prop) (x14:Option Addr) (x51:Bool) (w:World):Prop:=
 (x51=true→(opE Tryz.prog Sl.v (Instr.loadAt 22 (.pointer x11)) w (fun x52 w=>opE Tryz.prog Value.pointer (Instr.fieldAt 72 (.pointer x14) 2) w (fun x54 w=>opE Tryz.prog Value.string (Instr.loadAt 9 (.pointer x54)) w (fun x55 w=>opE Tryz.prog zAE.v (Instr.build 66 [(0,(.string x25)),(1,(.string x55))].toArray) w (fun x56 w=>opE Tryz.prog Sl.v (Instr.buildSlice 22 1 [(0,(zAE.v x56))].toArray) w (fun x57 w=>opE Tryz.prog Sl.v (Builtin.append_ #[22,22] 22 [(Sl.v x52),(Sl.v x57)].toArray) w (fun x58 w=>opU Tryz.prog (Instr.storeAt 22 (.pointer x11) (Sl.v x58)) w (fun w=>Gf1 w)))))))))∧(x51=false→(Gf1 w))
def zHS (x7:Option Addr) (x11:Option Addr) (x25:ByteArray) (x26:Sl) (Gf1:World→Prop) (x38:Bool) (w:World):Prop:=
 (x38=true→(Gf1 w))∧(x38=false→(opE Tryz.prog (Value.int .u64) (Instr.loadAt 37 (.pointer x7)) w (fun x42 w=>Cl Tryz.prog 71 [(Sl.v x26),(.string x25),(.int .u64 x42)].toArray w (fun e w=>∃ (r_2:zAB) (r_3:Bool),e=.returned (.tuple [(zAB.v r_2),(.bool r_3)].toArray)∧(opE Tryz.prog Value.pointer (Instr.alloc 72 true (.tuple #[])) w (fun x14 w=>opU Tryz.prog (Instr.storeAt 72 (.pointer x14) (zAB.v r_2)) w (fun w=>(r_3=true→(opE Tryz.prog Value.pointer (Instr.fieldAt 72 (.pointer x14) 3) w (fun x48 w=>opE Tryz.prog Value.bool (Instr.loadAt 4 (.pointer x48)) w (fun x49 w=>zIt x11 x25 Gf1 x14 (!x49) w))))∧(r_3=false→(zIt x11 x25 Gf1 x14 false w)))))))))
def zIp (x7:Option Addr) (x11:Option Addr) (x25:ByteArray) (x26:Sl) (Gf1:World→Prop) (x37:Bool) (w:World):Prop:=
 zHS x7 x11 x25 x26 Gf1 x37 w
def zKa (x5:Option Addr) (x6:Option Addr) (x7:Option Addr) (x11:Option Addr) (x25:ByteArray) (x26:Sl) (w:World) (Gf1:World→Prop) (Lf1:World→Prop):Prop:=
 opE Tryz.prog Value.string (Instr.loadAt 9 (.pointer x5)) w (fun x28 w=>((sLt x25 x28)=true→(zHS x7 x11 x25 x26 Gf1 true w))∧((sLt x25 x28)=false→(opE Tryz.prog Value.string (Instr.loadAt 9 (.pointer x6)) w (fun x31 w=>((x31≠(ByteArray.mk #[]))→(opE Tryz.prog Value.string (Instr.loadAt 9 (.pointer x6)) w (fun x35 w=>zIp x7 x11 x25 x26 Gf1 (!sLt x25 x35) w)))∧(¬ (x31≠(ByteArray.mk #[]))→(zIp x7 x11 x25 x26 Gf1 false w))))))
def zMF (x0:zAH) (x1:ByteArray) (x2:ByteArray) (x3:Int) (w:World) (Ret:Sl→Int→World→Prop):Prop:=
 opE Tryz.prog Value.pointer (Instr.box 69 (zAH.v x0)) w (fun x4 w=>opE Tryz.prog Value.pointer (Instr.box 9 (.string x1)) w (fun x5 w=>opE Tryz.prog Value.pointer (Instr.box 9 (.string x2)) w (fun x6 w=>opE Tryz.prog Value.pointer (Instr.box 37 (.int .u64 x3)) w (fun x7 w=>opE Tryz.prog zAH.v (Instr.loadAt 69 (.pointer x4)) w (fun x16 w=>opE Tryz.prog (Value.int .u64) (Instr.loadAt 37 (.pointer x7)) w (fun x17 w=>Cl Tryz.prog 69 [(zAH.v x16),(.int .u64 x17)].toArray w (fun e w=>∃ (r:Int),e=.returned (.int .i64 r)∧(((r≠0)→(Ret Sl.none r w))∧(¬ (r≠0)→(opE Tryz.prog Value.pointer (Instr.alloc 22 true (.tuple #[])) w (fun x11 w=>opE Tryz.prog Value.pointer (Instr.fieldAt 69 (.pointer x4) 0) w (fun x22 w=>opE Tryz.prog Sl.v (Instr.loadAt 67 (.pointer x22)) w (fun x23 w=>Cl Tryz.prog 70 [(Sl.v x23)].toArray w (fun e w=>∃ (r_1:Value),e=.returned r_1∧(zQ1 Tryz.prog r_1 Value.string Sl.v w (zKa x5 x6 x7 x11) (fun D w=>opE Tryz.prog Sl.v (Instr.loadAt 22 (.pointer x11)) w (fun x59 w=>zRA D w (fun w=>Ret x59 0 w))) (fun D w=>True))))))))))))))))
set_option maxRecDepth 100000 in
theorem zO7 (x0:zAH) (x1:ByteArray) (x2:ByteArray) (x3:Int) (w:World) (Ret:Sl→Int→World→Prop) (H:zMF x0 x1 x2 x3 w Ret):Cl Tryz.prog 42 [(zAH.v x0),(.string x1),(.string x2),(.int .u64 x3)].toArray w (fun e w'=>∃ (r0:Sl) (r1:Int),e=.returned (.tuple [(Sl.v r0),(.int .i64 r1)].toArray)∧Ret r0 r1 w'):=by
 unfold zMF at H
 refine zNP 60 (zipE 0 [(zAH.v x0),(.string x1),(.string x2),(.int .u64 x3)]) Tryz.func42 rfl rfl (by rfl) rfl ?_
 intro a g
 replace g:Sat [] 60 [(0,(zAH.v x0)),(1,(.string x1)),(2,(.string x2)),(3,(.int .u64 x3))] a:=g
 refine zAF (zAA (g.op (zIm g rfl) H fun x4 w a H g=>(g.op (zIm g rfl) H fun x5 w a H g=>(g.op (zIm g rfl) H fun x6 w a H g=>(g.op (zIm g rfl) H fun x7 w a H g=>(g.as_ rfl fun _ g=>(g.as_ rfl fun _ g=>(zAG (tn (zAF (zAF (zAA (g.op (zAI g rfl) H fun x16 w a H g=>(g.op (zAI g rfl) H fun x17 w a H g=>(g.call (zAQ g ent69 rfl rfl) H fun e w H=>?_)))))))))))))))
 obtain ⟨r,rfl,H⟩:=H
 refine ⟨_,rfl,fun _ g=>(g.as_ rfl fun _ g=>(zAG (tn (zAF (zAA (g.mv rfl fun _ g=>(g.pur (zLw g rfl rfl) fun _ g=>(zAG (tn (zAR g rfl (fun hc=>?_) (fun hc=>?_)))))))))))⟩
 ·replace H:=H.1 hc
  exact zAF (zAA (g.mv rfl fun _ g=>(g.as_ rfl fun _ g=>(g.as_ rfl fun _ g=>(zAG (tn (zAf (tr (zNs g (rs:=[.tmp 8,.tmp 9]) (vs:=[(Sl.v Sl.none),(.int .i64 r)]) rfl ⟨rfl,rfl,trivial⟩ ⟨_,_,rfl,H⟩)))))))))
 ·replace H:=H.2 hc
  refine zAP (tn (zAF (zAA (g.op (zEH) H fun x11 w a H g=>(zAG (tn (zAF (zAF (zAA (g.op (zAJ g rfl) H fun x22 w a H g=>(g.op (zAI g rfl) H fun x23 w a H g=>(g.call (zAQ g ent70 rfl rfl) H fun e w H=>?_))))))))))))
  obtain ⟨r_1,rfl,H⟩:=H
  refine ⟨_,rfl,fun _ g=>(zAG (tn (zAN ?_)))⟩
  obtain ⟨α,f,f',Kp,S,Sp,Num,I,Ir,hR,hnew,hbd,hdn,hst⟩:=H
  refine zO9 f f' Value.string Sl.v none g rfl hR hnew (by rfl) (by rfl) (by rfl) (by rfl) (by rfl) (by rfl) ?_ ?_ ?_
  ·intro l pre z w a h3 h4 g
   have H:=hbd pre z w h3 h4
   generalize (fun (W':World)=>KeepsFrom _ w W'∧Kp w W'∧I (pre++[z]) W')=Gf1 at H ⊢
   generalize (fun (W':World)=>KeepsFrom _ w W'∧Ir (pre++[z]) W')=Lf1 at H ⊢
   generalize f z=x25 at H g
   generalize f' z=x26 at H g
   unfold zKa at H
   refine zAN (zAF (zAF (zAA (g.mv rfl fun _ g=>(g.op (zAI g rfl) H fun x28 w a H g=>(g.pur (zTE g rfl rfl) fun _ g=>(g.mv rfl fun _ g=>(WL.join (ds:=[]) (N:=60) (σ:=Bool) (fun s=>[(38,(.bool s)),(7,(.pointer x7)),(11,(.pointer x11)),(12,(.string x25)),(13,(Sl.v x26))]) (fun s w=>zHS x7 x11 x25 x26 Gf1 s w) 8 ?_ (fun hr2=>?_)))))))))
   ·intro x38 w a H g
    try dsimp only at H g
    unfold zHS at H
    refine zAG (tn (zAV g rfl (fun hc=>?_) (fun hc=>?_)))
    ·replace H:=H.1 hc
     exact zBJ (te (be H))
    ·replace H:=H.2 hc
     refine zAP (tn (zAF (zAA (g.mv rfl fun _ g=>(g.mv rfl fun _ g=>(g.op (zAI g rfl) H fun x42 w a H g=>(g.call (zAQ g ent71 rfl rfl) H fun e w H=>?_)))))))
     obtain ⟨r_2,r_3,rfl,H⟩:=H
     refine ⟨_,rfl,fun _ g=>(g.mv rfl fun _ g=>(g.pur (zAO g rfl rfl) fun _ g=>(g.pur (zAO g rfl rfl) fun _ g=>(g.op (zEH) H fun x14 w a H g=>(g.opu (zAM g rfl rfl) H fun w a H g=>(g.as_ rfl fun _ g=>(zAG (tn (zAF (zAA (g.mv rfl fun _ g=>(g.mv rfl fun _ g=>(WL.join (ds:=[]) (N:=60) (σ:=Bool) (fun s=>[(51,(.bool s)),(11,(.pointer x11)),(12,(.string x25)),(14,(.pointer x14))]) (fun s w=>zIt x11 x25 Gf1 x14 s w) 4 ?_ (fun hr3=>?_))))))))))))))⟩
     ·intro x51 w a H g
      try dsimp only at H g
      unfold zIt at H
      refine zAG (tn (zAV g rfl (fun hc=>?_) (fun hc=>?_)))
      ·replace H:=H.1 hc
       exact zAA (g.op (zAI g rfl) H fun x52 w a H g=>(g.mv rfl fun _ g=>(g.op (zAJ g rfl) H fun x54 w a H g=>(g.op (zAI g rfl) H fun x55 w a H g=>(g.op (zGM g rfl) H fun x56 w a H g=>(g.op (zFI g rfl) H fun x57 w a H g=>(g.op (zJv g rfl) H fun x58 w a H g=>(g.opu (zAM g rfl rfl) H fun w a H g=>(zAG (bn H))))))))))
      ·replace H:=H.2 hc
       exact zAP (bn H)
     ·rcases Bool.eq_false_or_eq_true (r_3) with hbr3|hbr3
      ·replace H:=H.1 hbr3
       replace g:=g.bool (b:=true) (t:=47) rfl (hbr3)
       exact g.on (by rfl) (by rfl) (g.op (zAJ g rfl) H fun x48 w a H g=>(g.on (by rfl) (by rfl) (g.op (zAI g rfl) H fun x49 w a H g=>(g.on (by rfl) (by rfl) (g.pur (zGp g rfl) fun _ g=>(g.pur (zAj g rfl rfl) fun _ g=>(hr3 (!x49) _ _ H (g.weak ⟨rfl,rfl,rfl,rfl,trivial⟩))))))))
      ·replace H:=H.2 hbr3
       replace g:=g.bool (b:=false) (t:=47) rfl (hbr3)
       exact g.off (by rfl) (by rfl) (by decide) (fun _ g=>(g.off (by rfl) (by rfl) (by decide) (fun _ g=>(g.off (by rfl) (by rfl) (by decide) (fun _ g=>(g.pur (zAi g rfl rfl) fun _ g=>(hr3 false _ _ H (g.weak ⟨rfl,rfl,rfl,rfl,trivial⟩))))))))
   ·rcases Bool.eq_false_or_eq_true ((sLt x25 x28)) with hbr2|hbr2
    ·replace H:=H.1 hbr2
     replace g:=g.bool (b:=true) (t:=30) rfl (hbr2)
     exact g.off (by rfl) (by rfl) (by decide) (fun _ g=>(g.off (by rfl) (by rfl) (by decide) (fun _ g=>(g.off (by rfl) (by rfl) (by decide) (fun _ g=>(g.offU (by rfl) (by rfl) (fun _ g=>(g.offU (by rfl) (by rfl) (fun _ g=>(g.offU (by rfl) (by rfl) (fun _ g=>(g.off (by rfl) (by rfl) (by decide) (fun _ g=>(g.pur (zAj g rfl rfl) fun _ g=>(hr2 true _ _ H (g.weak ⟨rfl,rfl,rfl,rfl,rfl,trivial⟩))))))))))))))))
    ·replace H:=H.2 hbr2
     replace g:=g.bool (b:=false) (t:=30) rfl (hbr2)
     refine g.on (by rfl) (by rfl) (g.op (zAI g rfl) H fun x31 w a H g=>(g.on (by rfl) (by rfl) (g.pur (zS8 g rfl rfl) fun _ g=>(g.on (by rfl) (by rfl) (g.mv rfl fun _ g=>(WL.join (ds:=[]) (N:=60) (σ:=Bool) (fun s=>[(37,(.bool s)),(7,(.pointer x7)),(11,(.pointer x11)),(12,(.string x25)),(13,(Sl.v x26)),(30,(.bool false))]) (fun s w=>zIp x7 x11 x25 x26 Gf1 s w) 4 ?_ (fun hr4=>?_)))))))
     ·intro x37 w a H g
      try dsimp only at H g
      unfold zIp at H
      exact g.pur (zAi g rfl rfl) fun _ g=>hr2 x37 _ _ H (g.weak ⟨rfl,rfl,rfl,rfl,rfl,trivial⟩)
     ·rcases Classical.em ((x31≠(ByteArray.mk #[]))) with hbr4|hbr4
      ·replace H:=H.1 hbr4
       replace g:=g.bool (b:=true) (t:=33) rfl (decide_eq_true hbr4)
       exact g.on (by rfl) (by rfl) (g.mv rfl fun _ g=>(g.on (by rfl) (by rfl) (g.op (zAI g rfl) H fun x35 w a H g=>(g.on (by rfl) (by rfl) (g.pur (zTA g rfl rfl) fun _ g=>(g.on (by rfl) (by rfl) (g.pur (zAj g rfl rfl) fun _ g=>(hr4 (!sLt x25 x35) _ _ H (g.weak ⟨rfl,rfl,rfl,rfl,rfl,rfl,trivial⟩)))))))))
      ·replace H:=H.2 hbr4
       replace g:=g.bool (b:=false) (t:=33) rfl (decide_eq_false hbr4)
       exact g.off (by rfl) (by rfl) (by decide) (fun _ g=>(g.off (by rfl) (by rfl) (by decide) (fun _ g=>(g.off (by rfl) (by rfl) (by decide) (fun _ g=>(g.on (by rfl) (by rfl) (g.pur (zAi g rfl rfl) fun _ g=>(hr4 false _ _ H (g.weak ⟨rfl,rfl,rfl,rfl,rfl,rfl,trivial⟩)))))))))
  ·intro D xs w a h1 h2 h3 hD g
   have H:=hdn D xs w h1 h2 h3 hD
   clear hbd hdn hst hnew
   try dsimp only at H
   refine (bn (tn (zAF (zAA (g.op (zAI g rfl) H fun x59 w a H g=>(g.as_ rfl fun _ g=>(g.as_ rfl fun _ g=>(zAG (tn ?_)))))))))
   obtain ⟨hD0,H⟩:=H
   try dsimp only at H
   exact zAf (zPU g (rs:=[.tmp 8,.tmp 9]) (vs:=[(Sl.v x59),(.int .i64 0)]) rfl hD0 ⟨rfl,rfl,trivial⟩ ⟨_,_,rfl,H⟩)
  ·intro D c pre w a hj h1 h2 h3 hD g
   cases hj
def zIh (x0:ByteArray) (x1:ByteArray) (w:World) (Ret:Int→World→Prop):Prop:=
 Cl Tryz.prog 74 [(.string x0)].toArray w (fun e w=>∃ (r:Bool),e=.returned (.bool r)∧(Cl Tryz.prog 74 [(.string x1)].toArray w (fun e w=>∃ (r_1:Bool),e=.returned (.bool r_1)∧((r=true→((r_1=true→(Ret 0 w))∧(r_1=false→(Ret (-1) w))))∧(r=false→((r_1=true→(Ret 1 w))∧(r_1=false→(((sLt x0 x1)=true→(Ret (-1) w))∧((sLt x0 x1)=false→(((!(sLt x0 x1||decide (x0=x1)))=true→(Ret 1 w))∧((!(sLt x0 x1||decide (x0=x1)))=false→(Ret 0 w))))))))))))
set_option maxRecDepth 100000 in
theorem zLg (x0:ByteArray) (x1:ByteArray) (w:World) (Ret:Int→World→Prop) (H:zIh x0 x1 w Ret):Cl Tryz.prog 48 [(.string x0),(.string x1)].toArray w (fun e w'=>∃ (r0:Int),e=.returned (.int .i64 r0)∧Ret r0 w'):=by
 unfold zIh at H
 refine zAY 20 (zipE 0 [(.string x0),(.string x1)]) Tryz.func48 rfl rfl (by rfl) rfl ?_
 intro a g
 replace g:Sat [] 20 [(0,(.string x0)),(1,(.string x1))] a:=g
 refine zAF (zAA (g.as_ rfl fun _ g=>(zAG (tn (zAF (zAA (g.mv rfl fun _ g=>(g.call (zAQ g ent74 rfl rfl) H fun e w H=>?_))))))))
 obtain ⟨r,rfl,H⟩:=H
 refine ⟨_,rfl,fun _ g=>(g.as_ rfl fun _ g=>(zAG (tn (zAF (zAA (g.mv rfl fun _ g=>(g.call (zAQ g ent74 rfl rfl) H fun e w H=>?_)))))))⟩
 obtain ⟨r_1,rfl,H⟩:=H
 refine ⟨_,rfl,fun _ g=>(g.as_ rfl fun _ g=>(zAG (tn (zAF (zAF (zAA (g.mv rfl fun _ g=>(zAG (tn (zAV g rfl (fun hc=>?_) (fun hc=>?_)))))))))))⟩
 ·replace H:=H.1 hc
  refine zAF (zAF (zAA (g.mv rfl fun _ g=>(zAG (tn (zAV g rfl (fun hc=>?_) (fun hc=>?_)))))))
  ·replace H:=H.1 hc
   exact zAF (zAA (g.as_ rfl fun _ g=>(zAG (tn (zAf (tr (tr (zAt g rfl rfl ⟨_,rfl,H⟩))))))))
  ·replace H:=H.2 hc
   exact zAP (tn (zAF (zAA (g.as_ rfl fun _ g=>(zAG (tn (zAf (tr (zAt g rfl rfl ⟨_,rfl,H⟩)))))))))
 ·replace H:=H.2 hc
  refine zAP (tn (zAF (zAF (zAA (g.mv rfl fun _ g=>(zAG (tn (zAV g rfl (fun hc=>?_) (fun hc=>?_)))))))))
  ·replace H:=H.1 hc
   exact zAF (zAA (g.as_ rfl fun _ g=>(zAG (tn (zAf (tr (zAt g rfl rfl ⟨_,rfl,H⟩)))))))
  ·replace H:=H.2 hc
   refine zAP (tn (zAF (zAF (zAA (g.mv rfl fun _ g=>(g.mv rfl fun _ g=>(g.pur (zTE g rfl rfl) fun _ g=>(zAG (tn (zAV g rfl (fun hc=>?_) (fun hc=>?_)))))))))))
   ·replace H:=H.1 hc
    exact zAF (zAA (g.as_ rfl fun _ g=>(zAG (tn (zAf (tr (zAt g rfl rfl ⟨_,rfl,H⟩)))))))
   ·replace H:=H.2 hc
    refine zAP (tn (zAF (zAF (zAA (g.mv rfl fun _ g=>(g.mv rfl fun _ g=>(g.pur (zUR g rfl rfl) fun _ g=>(zAG (tn (zAV g rfl (fun hc=>?_) (fun hc=>?_)))))))))))
    ·replace H:=H.1 hc
     exact zAF (zAA (g.as_ rfl fun _ g=>(zAG (tn (zAf (tr (zAt g rfl rfl ⟨_,rfl,H⟩)))))))
    ·replace H:=H.2 hc
     exact zAP (tn (zAF (zAA (g.as_ rfl fun _ g=>(zAG (tn (zAf (zAt g rfl rfl ⟨_,rfl,H⟩))))))))
def zKJ (Ret:ByteArray→Bool→Int→World→Prop) (x27:ByteArray) (x33:Bool) (w:World):Prop:=
 nextB w (fun w=>Ret x27 x33 0 w)
def zMq (x0:zAH) (x1:ByteArray) (x2:Int) (w:World) (Ret:ByteArray→Bool→Int→World→Prop):Prop:=
 opE Tryz.prog Value.pointer (Instr.box 69 (zAH.v x0)) w (fun x3 w=>opE Tryz.prog zAH.v (Instr.loadAt 69 (.pointer x3)) w (fun x12 w=>Cl Tryz.prog 69 [(zAH.v x12),(.int .u64 x2)].toArray w (fun e w=>∃ (r:Int),e=.returned (.int .i64 r)∧(((r≠0)→(Ret (ByteArray.mk #[]) false r w))∧(¬ (r≠0)→(opE Tryz.prog Value.pointer (Instr.fieldAt 69 (.pointer x3) 0) w (fun x19 w=>opE Tryz.prog Sl.v (Instr.loadAt 67 (.pointer x19)) w (fun x20 w=>Cl Tryz.prog 71 [(Sl.v x20),(.string x1),(.int .u64 x2)].toArray w (fun e w=>∃ (r_1:zAB) (r_2:Bool),e=.returned (.tuple [(zAB.v r_1),(.bool r_2)].toArray)∧(opE Tryz.prog Value.pointer (Instr.alloc 72 true (.tuple #[])) w (fun x10 w=>opU Tryz.prog (Instr.storeAt 72 (.pointer x10) (zAB.v r_1)) w (fun w=>opB Tryz.prog Value.pointer (Instr.fieldAt 72 (.pointer x10) 2) w (fun x26=>opB Tryz.prog Value.string (Instr.loadAt 9 (.pointer x26)) w (fun x27=>(r_2=true→(opB Tryz.prog Value.pointer (Instr.fieldAt 72 (.pointer x10) 3) w (fun x30=>opB Tryz.prog Value.bool (Instr.loadAt 4 (.pointer x30)) w (fun x31=>zKJ Ret x27 (!x31) w))))∧(r_2=false→(zKJ Ret x27 false w))))))))))))))))
set_option maxRecDepth 100000 in
theorem zPV (x0:zAH) (x1:ByteArray) (x2:Int) (w:World) (Ret:ByteArray→Bool→Int→World→Prop) (H:zMq x0 x1 x2 w Ret):Cl Tryz.prog 51 [(zAH.v x0),(.string x1),(.int .u64 x2)].toArray w (fun e w'=>∃ (r0:ByteArray) (r1:Bool) (r2:Int),e=.returned (.tuple [(.string r0),(.bool r1),(.int .i64 r2)].toArray)∧Ret r0 r1 r2 w'):=by
 unfold zMq at H
 refine zAY 34 (zipE 0 [(zAH.v x0),(.string x1),(.int .u64 x2)]) Tryz.func51 rfl rfl (by rfl) rfl ?_
 intro a g
 replace g:Sat [] 34 [(0,(zAH.v x0)),(1,(.string x1)),(2,(.int .u64 x2))] a:=g
 refine zAF (zAA (g.op (zIm g rfl) H fun x3 w a H g=>(g.as_ rfl fun _ g=>(g.as_ rfl fun _ g=>(g.as_ rfl fun _ g=>(zAG (tn (zAF (zAF (zAA (g.op (zAI g rfl) H fun x12 w a H g=>(g.mv rfl fun _ g=>(g.call (zAQ g ent69 rfl rfl) H fun e w H=>?_)))))))))))))
 obtain ⟨r,rfl,H⟩:=H
 refine ⟨_,rfl,fun _ g=>(g.as_ rfl fun _ g=>(zAG (tn (zAF (zAA (g.mv rfl fun _ g=>(g.pur (zLw g rfl rfl) fun _ g=>(zAG (tn (zAR g rfl (fun hc=>?_) (fun hc=>?_)))))))))))⟩
 ·replace H:=H.1 hc
  exact zAF (zAA (g.mv rfl fun _ g=>(g.as_ rfl fun _ g=>(g.as_ rfl fun _ g=>(g.as_ rfl fun _ g=>(zAG (tn (zAf (tr (zNf g rfl rfl rfl rfl ⟨_,_,_,rfl,H⟩))))))))))
 ·replace H:=H.2 hc
  refine zAP (tn (zAF (zAA (g.op (zAJ g rfl) H fun x19 w a H g=>(g.op (zAI g rfl) H fun x20 w a H g=>(g.mv rfl fun _ g=>(g.mv rfl fun _ g=>(g.call (zAQ g ent71 rfl rfl) H fun e w H=>?_))))))))
  obtain ⟨r_1,r_2,rfl,H⟩:=H
  refine ⟨_,rfl,fun _ g=>(g.mv rfl fun _ g=>(g.pur (zAO g rfl rfl) fun _ g=>(g.pur (zAO g rfl rfl) fun _ g=>(g.op (zEH) H fun x10 w a H g=>(g.opu (zAM g rfl rfl) H fun w a H g=>(g.as_ rfl fun _ g=>(zAG (tn (zAF (zEB (by kernel_rfl) (by kernel_rfl) (g.qop (zAJ g rfl) H fun x26 a H g=>(g.qop (zAI g rfl) H fun x27 a H g=>(g.qm rfl fun _ g=>(g.qm rfl fun _ g=>(WQ.join (ds:=[]) (N:=34) (σ:=Bool) (fun s=>[(33,(.bool s)),(27,(.string x27))]) (fun s=>zKJ Ret x27 s w) 4 ?_ (fun hr1=>?_))))))))))))))))⟩
  ·intro x33 a H g
   try dsimp only at H g
   unfold zKJ at H
   refine g.qpur (zEX g rfl) fun _ g=>g.qpur (zEX g rfl) fun _ g=>g.qpur (zEX g rfl) fun _ g=>zED (fun w hB=>?_)
   replace H:=H w hB
   exact (tn (zAf (zNf g rfl rfl rfl rfl ⟨_,_,_,rfl,H⟩)))
  ·rcases Bool.eq_false_or_eq_true (r_2) with hbr1|hbr1
   ·replace H:=H.1 hbr1
    replace g:=g.bool (b:=true) (t:=29) rfl (hbr1)
    exact g.qon (by rfl) (by rfl) (g.qop (zAJ g rfl) H fun x30 a H g=>(g.qon (by rfl) (by rfl) (g.qop (zAI g rfl) H fun x31 a H g=>(g.qon (by rfl) (by rfl) (g.qpur (zGp g rfl) fun _ g=>(g.qpur (zAj g rfl rfl) fun _ g=>(hr1 (!x31) _ H (g.weak ⟨rfl,rfl,trivial⟩))))))))
   ·replace H:=H.2 hbr1
    replace g:=g.bool (b:=false) (t:=29) rfl (hbr1)
    exact g.qoff (by rfl) (by rfl) (by decide) (fun _ g=>(g.qoff (by rfl) (by rfl) (by decide) (fun _ g=>(g.qoff (by rfl) (by rfl) (by decide) (fun _ g=>(g.qpur (zAi g rfl rfl) fun _ g=>(hr1 false _ H (g.weak ⟨rfl,rfl,trivial⟩))))))))
def zEi (x0:Sl) (w:World) (Ret:Sl→World→Prop):Prop:=
 opE Tryz.prog Value.bool (do eqGuard .eql 67 (.tmp 3) (.const (Sl.v Sl.none)) (Sl.v x0) (Sl.v Sl.none);binOp .eql 67 (Sl.v x0) (Sl.v Sl.none)) w (fun x4 w=>(x4=true→(Ret Sl.none w))∧(x4=false→(opE Tryz.prog Sl.v (Instr.buildSlice 67 0 [].toArray) w (fun x5 w=>opE Tryz.prog Sl.v (Builtin.append_ #[67,67] 67 [(Sl.v x5),(Sl.v x0)].toArray) w (fun x7 w=>Ret x7 w)))))
set_option maxRecDepth 100000 in
theorem zIA (x0:Sl) (w:World) (Ret:Sl→World→Prop) (H:zEi x0 w Ret):Cl Tryz.prog 52 [(Sl.v x0)].toArray w (fun e w'=>∃ (r0:Sl),e=.returned (Sl.v r0)∧Ret r0 w'):=by
 unfold zEi at H
 refine zAY 8 (zipE 0 [(Sl.v x0)]) Tryz.func52 rfl rfl (by rfl) rfl ?_
 intro a g
 replace g:Sat [] 8 [(0,(Sl.v x0))] a:=g
 refine zAF (zAA (g.as_ rfl fun _ g=>(zAG (tn (zAF (zAF (zAA (g.mv rfl fun _ g=>(g.op (zJ4 g rfl rfl) H fun x4 w a H g=>(zAG (tn (zAV g rfl (fun hc=>?_) (fun hc=>?_)))))))))))))
 ·replace H:=H.1 hc
  exact zAF (zAA (g.as_ rfl fun _ g=>(zAG (tn (zAf (tr (zAt g rfl rfl ⟨_,rfl,H⟩)))))))
 ·replace H:=H.2 hc
  exact zAP (tn (zAF (zAA (g.op (zFI g rfl) H fun x5 w a H g=>(g.mv rfl fun _ g=>(g.op (zJv g rfl) H fun x7 w a H g=>(g.as_ rfl fun _ g=>(zAG (tn (zAf (zAt g rfl rfl ⟨_,rfl,H⟩)))))))))))
def zG0 (x59:Int) (Kl3:Int→World→Prop) (w:World):Prop:=
 Kl3 (IntKind.wrap .i64 (x59+1)) w
def zI3 (x3:Option Addr) (x7:Option Addr) (x37:Sl) (Gf1:World→Prop) (x59:Int) (w:World) (Kl3:Int→World→Prop):Prop:=
 ((x59<(x37.len:Int))→(opE Tryz.prog Value.pointer (Instr.indexAt 67 (Sl.v x37) (.int .i64 x59)) w (fun x61 w=>opE Tryz.prog zAB.v (Instr.loadAt 72 (.pointer x61)) w (fun x62 w=>opE Tryz.prog Value.pointer (Instr.alloc 72 true (.tuple #[])) w (fun x13 w=>opU Tryz.prog (Instr.storeAt 72 (.pointer x13) (zAB.v x62)) w (fun w=>opE Tryz.prog Value.pointer (Instr.fieldAt 72 (.pointer x13) 1) w (fun x63 w=>opE Tryz.prog (Value.int .u64) (Instr.loadAt 37 (.pointer x63)) w (fun x64 w=>opE Tryz.prog (Value.int .u64) (Instr.loadAt 37 (.pointer x3)) w (fun x65 w=>((x65<x64)→(opE Tryz.prog Value.pointer (Instr.fieldAt 69 (.pointer x7) 0) w (fun x67 w=>opE Tryz.prog Sl.v (Instr.loadAt 67 (.pointer x67)) w (fun x68 w=>opE Tryz.prog zAB.v (Instr.loadAt 72 (.pointer x13)) w (fun x69 w=>opE Tryz.prog Sl.v (Instr.buildSlice 67 1 [(0,(zAB.v x69))].toArray) w (fun x70 w=>opE Tryz.prog Sl.v (Builtin.append_ #[67,67] 67 [(Sl.v x68),(Sl.v x70)].toArray) w (fun x71 w=>opE Tryz.prog Value.pointer (Instr.fieldAt 69 (.pointer x7) 0) w (fun x72 w=>opU Tryz.prog (Instr.storeAt 67 (.pointer x72) (Sl.v x71)) w (fun w=>zG0 x59 Kl3 w)))))))))∧(¬ (x65<x64)→(zG0 x59 Kl3 w)))))))))))∧(¬ (x59<(x37.len:Int))→(Gf1 w))
def zFv (x3:Option Addr) (x7:Option Addr) (x37:Sl) (Gf1:World→Prop) (w:World):Prop:=
 ∃ (I:Int→World→Prop) (μ:Int→World→Nat),I 0 w∧∀ (x59:Int) w,I x59 w→zI3 x3 x7 x37 Gf1 x59 w (fun x59' w'=>I x59' w'∧μ x59' w'<μ x59 w)
def zH4 (x3:Option Addr) (x7:Option Addr) (x37:Sl) (Gf1:World→Prop) (x10:Option Addr) (x50:Bool) (w:World):Prop:=
 (x50=true→(opE Tryz.prog Value.pointer (Instr.fieldAt 69 (.pointer x7) 0) w (fun x51 w=>opE Tryz.prog Sl.v (Instr.loadAt 67 (.pointer x51)) w (fun x52 w=>opE Tryz.prog zAB.v (Instr.loadAt 72 (.pointer x10)) w (fun x53 w=>opE Tryz.prog Sl.v (Instr.buildSlice 67 1 [(0,(zAB.v x53))].toArray) w (fun x54 w=>opE Tryz.prog Sl.v (Builtin.append_ #[67,67] 67 [(Sl.v x52),(Sl.v x54)].toArray) w (fun x55 w=>opE Tryz.prog Value.pointer (Instr.fieldAt 69 (.pointer x7) 0) w (fun x56 w=>opU Tryz.prog (Instr.storeAt 67 (.pointer x56) (Sl.v x55)) w (fun w=>zFv x3 x7 x37 Gf1 w)))))))))∧(x50=false→(zFv x3 x7 x37 Gf1 w))
def zI1 (x3:Option Addr) (x7:Option Addr) (x36:ByteArray) (x37:Sl) (w:World) (Gf1:World→Prop) (Lf1:World→Prop):Prop:=
 opE Tryz.prog (Value.int .u64) (Instr.loadAt 37 (.pointer x3)) w (fun x41 w=>Cl Tryz.prog 71 [(Sl.v x37),(.string x36),(.int .u64 x41)].toArray w (fun e w=>∃ (r_2:zAB) (r_3:Bool),e=.returned (.tuple [(zAB.v r_2),(.bool r_3)].toArray)∧(opE Tryz.prog Value.pointer (Instr.alloc 72 true (.tuple #[])) w (fun x10 w=>opU Tryz.prog (Instr.storeAt 72 (.pointer x10) (zAB.v r_2)) w (fun w=>(r_3=true→(opE Tryz.prog Value.pointer (Instr.fieldAt 72 (.pointer x10) 3) w (fun x47 w=>opE Tryz.prog Value.bool (Instr.loadAt 4 (.pointer x47)) w (fun x48 w=>zH4 x3 x7 x37 Gf1 x10 (!x48) w))))∧(r_3=false→(zH4 x3 x7 x37 Gf1 x10 false w)))))))
def zLO (x0:zAH) (x1:Int) (w:World) (Ret:zAH→Int→World→Prop):Prop:=
 opE Tryz.prog Value.pointer (Instr.box 69 (zAH.v x0)) w (fun x2 w=>opE Tryz.prog Value.pointer (Instr.box 37 (.int .u64 x1)) w (fun x3 w=>opE Tryz.prog Value.pointer (Instr.alloc 69 true (.tuple #[])) w (fun x4 w=>opE Tryz.prog zAH.v (Instr.loadAt 69 (.pointer x2)) w (fun x14 w=>Cl Tryz.prog 64 [(zAH.v x14)].toArray w (fun e w=>∃ (r:Int),e=.returned (.int .i64 r)∧(((r≠0)→(opE Tryz.prog zAH.v (Instr.build 69 [].toArray) w (fun x19 w=>opU Tryz.prog (Instr.storeAt 69 (.pointer x4) (zAH.v x19)) w (fun w=>opR Tryz.prog zAH.v 69 x4 w (fun q=>Ret q r w)))))∧(¬ (r≠0)→(opE Tryz.prog (Value.int .u64) (Instr.loadAt 37 (.pointer x3)) w (fun x22 w=>opE Tryz.prog Value.pointer (Instr.fieldAt 69 (.pointer x2) 1) w (fun x23 w=>opE Tryz.prog (Value.int .u64) (Instr.loadAt 37 (.pointer x23)) w (fun x24 w=>((x22<x24)→(opE Tryz.prog zAH.v (Instr.build 69 [].toArray) w (fun x26 w=>opU Tryz.prog (Instr.storeAt 69 (.pointer x4) (zAH.v x26)) w (fun w=>opR Tryz.prog zAH.v 69 x4 w (fun q_1=>Ret q_1 9 w)))))∧(¬ (x22<x24)→(opE Tryz.prog (Value.int .u64) (Instr.loadAt 37 (.pointer x3)) w (fun x28 w=>((2305843009213693952<x28)→(opE Tryz.prog zAH.v (Instr.build 69 [].toArray) w (fun x30 w=>opU Tryz.prog (Instr.storeAt 69 (.pointer x4) (zAH.v x30)) w (fun w=>opR Tryz.prog zAH.v 69 x4 w (fun q_2=>Ret q_2 2 w)))))∧(¬ (2305843009213693952<x28)→(opE Tryz.prog (Value.int .u64) (Instr.loadAt 37 (.pointer x3)) w (fun x31 w=>opE Tryz.prog zAH.v (Instr.build 69 [(1,(.int .u64 x31))].toArray) w (fun x32 w=>opE Tryz.prog Value.pointer (Instr.alloc 69 true (.tuple #[])) w (fun x7 w=>opU Tryz.prog (Instr.storeAt 69 (.pointer x7) (zAH.v x32)) w (fun w=>opE Tryz.prog Value.pointer (Instr.fieldAt 69 (.pointer x2) 0) w (fun x33 w=>opE Tryz.prog Sl.v (Instr.loadAt 67 (.pointer x33)) w (fun x34 w=>Cl Tryz.prog 70 [(Sl.v x34)].toArray w (fun e w=>∃ (r_1:Value),e=.returned r_1∧(zQ1 Tryz.prog r_1 Value.string Sl.v w (zI1 x3 x7) (fun D w=>opE Tryz.prog zAH.v (Instr.loadAt 69 (.pointer x7)) w (fun x74 w=>opU Tryz.prog (Instr.storeAt 69 (.pointer x4) (zAH.v x74)) w (fun w=>zRA D w (fun w=>opR Tryz.prog zAH.v 69 x4 w (fun q_3=>Ret q_3 0 w))))) (fun D w=>True)))))))))))))))))))))))))
set_option maxRecDepth 100000 in
theorem zOi (x0:zAH) (x1:Int) (w:World) (Ret:zAH→Int→World→Prop) (H:zLO x0 x1 w Ret):Cl Tryz.prog 56 [(zAH.v x0),(.int .u64 x1)].toArray w (fun e w'=>∃ (r0:zAH) (r1:Int),e=.returned (.tuple [(zAH.v r0),(.int .i64 r1)].toArray)∧Ret r0 r1 w'):=by
 unfold zLO at H
 refine zNP 75 (zipE 0 [(zAH.v x0),(.int .u64 x1)]) Tryz.func56 rfl rfl (by rfl) rfl ?_
 intro a g
 replace g:Sat [] 75 [(0,(zAH.v x0)),(1,(.int .u64 x1))] a:=g
 refine zAF (zAA (g.op (zIm g rfl) H fun x2 w a H g=>(g.op (zIm g rfl) H fun x3 w a H g=>(g.op (zEH) H fun x4 w a H g=>(g.as_ rfl fun _ g=>(zAG (tn (zAF (zAA (g.op (zAI g rfl) H fun x14 w a H g=>(g.call (zAQ g ent64 rfl rfl) H fun e w H=>?_)))))))))))
 obtain ⟨r,rfl,H⟩:=H
 refine ⟨_,rfl,fun _ g=>(g.as_ rfl fun _ g=>(zAG (tn (zAF (zAN (zAF (zAA (g.mv rfl fun _ g=>(g.pur (zLw g rfl rfl) fun _ g=>(g.as_ rfl fun _ g=>(zAG (tn (zAR g rfl (fun hc=>?_) (fun hc=>?_))))))))))))))⟩
 ·replace H:=H.1 hc
  refine zAF (zAA (g.op (zGM g rfl) H fun x19 w a H g=>(g.mv rfl fun _ g=>(g.opu (zAM g rfl rfl) H fun w a H g=>(g.as_ rfl fun _ g=>(zAG (tn ?_)))))))
  obtain ⟨q,ad,hp,hl,H⟩:=H
  exact zAf (br (tr (zNs g (rs:=[.cell 4 69,.tmp 5]) (vs:=[(zAH.v q),(.int .i64 r)]) rfl ⟨⟨ad,by rw [← hp];rfl,hl⟩,rfl,trivial⟩ ⟨_,_,rfl,H⟩)))
 ·replace H:=H.2 hc
  refine zAF (zAA (g.op (zAI g rfl) H fun x22 w a H g=>(g.op (zAJ g rfl) H fun x23 w a H g=>(g.op (zAI g rfl) H fun x24 w a H g=>(g.pur (zDp g rfl rfl) fun _ g=>(g.as_ rfl fun _ g=>(zAG (tn (zAR g rfl (fun hc=>?_) (fun hc=>?_))))))))))
  ·replace H:=H.1 hc
   refine zAF (zAA (g.op (zGM g rfl) H fun x26 w a H g=>(g.opu (zAM g rfl rfl) H fun w a H g=>(g.as_ rfl fun _ g=>(zAG (tn ?_))))))
   obtain ⟨q_1,ad_1,hp_1,hl_1,H⟩:=H
   exact zAf (br (tr (zNs g (rs:=[.cell 4 69,.tmp 5]) (vs:=[(zAH.v q_1),(.int .i64 9)]) rfl ⟨⟨ad_1,by rw [← hp_1];rfl,hl_1⟩,rfl,trivial⟩ ⟨_,_,rfl,H⟩)))
  ·replace H:=H.2 hc
   refine zAF (zAA (g.op (zAI g rfl) H fun x28 w a H g=>(g.pur (zIG g rfl rfl) fun _ g=>(g.as_ rfl fun _ g=>(zAG (tn (zAR g rfl (fun hc=>?_) (fun hc=>?_))))))))
   ·replace H:=H.1 hc
    refine zAF (zAA (g.op (zGM g rfl) H fun x30 w a H g=>(g.opu (zAM g rfl rfl) H fun w a H g=>(g.as_ rfl fun _ g=>(zAG (tn ?_))))))
    obtain ⟨q_2,ad_2,hp_2,hl_2,H⟩:=H
    exact zAf (br (tr (zNs g (rs:=[.cell 4 69,.tmp 5]) (vs:=[(zAH.v q_2),(.int .i64 2)]) rfl ⟨⟨ad_2,by rw [← hp_2];rfl,hl_2⟩,rfl,trivial⟩ ⟨_,_,rfl,H⟩)))
   ·replace H:=H.2 hc
    refine zAP (bn (tn (zAF (zAA (g.op (zAI g rfl) H fun x31 w a H g=>(g.op (zGM g rfl) H fun x32 w a H g=>(g.op (zEH) H fun x7 w a H g=>(g.opu (zAM g rfl rfl) H fun w a H g=>(zAG (tn (zAF (zAF (zAA (g.op (zAJ g rfl) H fun x33 w a H g=>(g.op (zAI g rfl) H fun x34 w a H g=>(g.call (zAQ g ent70 rfl rfl) H fun e w H=>?_))))))))))))))))
    obtain ⟨r_1,rfl,H⟩:=H
    refine ⟨_,rfl,fun _ g=>(zAG (tn (zAN ?_)))⟩
    obtain ⟨α,f,f',Kp,S,Sp,Num,I,Ir,hR,hnew,hbd,hdn,hst⟩:=H
    refine zO9 f f' Value.string Sl.v none g rfl hR hnew (by rfl) (by rfl) (by rfl) (by rfl) (by rfl) (by rfl) ?_ ?_ ?_
    ·intro l pre z w a h3 h4 g
     have H:=hbd pre z w h3 h4
     generalize (fun (W':World)=>KeepsFrom _ w W'∧Kp w W'∧I (pre++[z]) W')=Gf1 at H ⊢
     generalize (fun (W':World)=>KeepsFrom _ w W'∧Ir (pre++[z]) W')=Lf1 at H ⊢
     generalize f z=x36 at H g
     generalize f' z=x37 at H g
     unfold zI1 at H
     refine zAN (zBG (ds:=[]) (N:=75) (σ:=Unit) (fun s=>[(3,(.pointer x3)),(7,(.pointer x7)),(9,(Sl.v x37))]) (fun s w=>zFv x3 x7 x37 Gf1 w) ?_ (fun hj2=>?_))
     ·rintro ⟨⟩ w a H g
      try dsimp only at H g
      unfold zFv at H
      refine zAF (zAA (g.mv rfl fun _ g=>(g.purR (fun w=>zGm g Tryz.underlying67 rfl) fun _ g=>(g.mv rfl fun _ g=>(zAG (tn (zAN ?_)))))))
      obtain ⟨I_l3,μ_l3,h0,hb⟩:=H
      refine zBl (ds:=[]) (N:=75) (σ:=Int) (fun s=>[(59,(.int .i64 s)),(3,(.pointer x3)),(7,(.pointer x7)),(57,(Sl.v x37)),(58,(.int .i64 (x37.len:Int)))]) (fun s w=>I_l3 s w) (fun s w=>μ_l3 s w) 0 h0 (g.weak ⟨rfl,rfl,rfl,rfl,rfl,trivial⟩) ?_
      intro x59 w a hI g
      try dsimp only at hI g
      obtain ⟨Kl3,hK_l3⟩:∃ K:Int→World→Prop,K=(fun x59' w'=>I_l3 x59' w'∧μ_l3 x59' w'<μ_l3 x59 w):=⟨_,rfl⟩
      have H:zI3 x3 x7 x37 Gf1 x59 w Kl3:=by rw [hK_l3];exact hb x59 w hI
      clear hb h0 hI
      unfold zI3 at H
      refine zAF (zAA (g.pur (zDp g rfl rfl) fun _ g=>(zAG (tn (zAF (zAR g rfl (fun hc=>?_) (fun hc=>?_)))))))
      ·replace H:=H.1 hc
       refine zAP (tn (zBG (ds:=[]) (N:=75) (σ:=Unit) (fun s=>[(3,(.pointer x3)),(7,(.pointer x7)),(57,(Sl.v x37)),(58,(.int .i64 (x37.len:Int))),(59,(.int .i64 x59))]) (fun s w=>zG0 x59 Kl3 w) ?_ (fun hj4=>?_)))
       ·rintro ⟨⟩ w a H g
        try dsimp only at H g
        unfold zG0 at H
        refine zAA (g.pur (zAn g rfl rfl) fun _ g=>(g.mv rfl fun _ g=>?_))
        rw [hK_l3] at H
        exact zAG (tn ⟨(IntKind.wrap .i64 (x59+1)),g.weak ⟨rfl,rfl,rfl,rfl,rfl,trivial⟩,H⟩)
       ·refine zAN (zAF (zAA (g.op (zAC g rfl rfl) H fun x61 w a H g=>(g.op (zAI g rfl) H fun x62 w a H g=>(g.op (zEH) H fun x13 w a H g=>(g.opu (zAM g rfl rfl) H fun w a H g=>(zAG (tn (zAF (zAA (g.op (zAJ g rfl) H fun x63 w a H g=>(g.op (zAI g rfl) H fun x64 w a H g=>(g.op (zAI g rfl) H fun x65 w a H g=>(g.pur (zIG g rfl rfl) fun _ g=>(zAG (tn (zAR g rfl (fun hc=>?_) (fun hc=>?_))))))))))))))))))
        ·replace H:=H.1 hc
         exact zAA (g.op (zAJ g rfl) H fun x67 w a H g=>(g.op (zAI g rfl) H fun x68 w a H g=>(g.op (zAI g rfl) H fun x69 w a H g=>(g.op (zFI g rfl) H fun x70 w a H g=>(g.op (zJv g rfl) H fun x71 w a H g=>(g.op (zAJ g rfl) H fun x72 w a H g=>(g.opu (zAM g rfl rfl) H fun w a H g=>(zAG (bn (tn (hj4 () _ _ H (g.weak ⟨rfl,rfl,rfl,rfl,rfl,trivial⟩))))))))))))
        ·replace H:=H.2 hc
         exact zAP (bn (tn (hj4 () _ _ H (g.weak ⟨rfl,rfl,rfl,rfl,rfl,trivial⟩))))
      ·replace H:=H.2 hc
       exact zBJ (te (te (be (bn H))))
     ·refine zAF (zAA (g.mv rfl fun _ g=>(g.mv rfl fun _ g=>(g.op (zAI g rfl) H fun x41 w a H g=>(g.call (zAQ g ent71 rfl rfl) H fun e w H=>?_)))))
      obtain ⟨r_2,r_3,rfl,H⟩:=H
      refine ⟨_,rfl,fun _ g=>(g.mv rfl fun _ g=>(g.pur (zAO g rfl rfl) fun _ g=>(g.pur (zAO g rfl rfl) fun _ g=>(g.op (zEH) H fun x10 w a H g=>(g.opu (zAM g rfl rfl) H fun w a H g=>(g.as_ rfl fun _ g=>(zAG (tn (zAF (zAA (g.mv rfl fun _ g=>(g.mv rfl fun _ g=>(WL.join (ds:=[]) (N:=75) (σ:=Bool) (fun s=>[(50,(.bool s)),(3,(.pointer x3)),(7,(.pointer x7)),(9,(Sl.v x37)),(10,(.pointer x10))]) (fun s w=>zH4 x3 x7 x37 Gf1 x10 s w) 4 ?_ (fun hr5=>?_))))))))))))))⟩
      ·intro x50 w a H g
       try dsimp only at H g
       unfold zH4 at H
       refine zAG (tn (zAV g rfl (fun hc=>?_) (fun hc=>?_)))
       ·replace H:=H.1 hc
        exact zAA (g.op (zAJ g rfl) H fun x51 w a H g=>(g.op (zAI g rfl) H fun x52 w a H g=>(g.op (zAI g rfl) H fun x53 w a H g=>(g.op (zFI g rfl) H fun x54 w a H g=>(g.op (zJv g rfl) H fun x55 w a H g=>(g.op (zAJ g rfl) H fun x56 w a H g=>(g.opu (zAM g rfl rfl) H fun w a H g=>(zAG (tn (hj2 () _ _ H (g.weak ⟨rfl,rfl,rfl,trivial⟩)))))))))))
       ·replace H:=H.2 hc
        exact zAP (tn (hj2 () _ _ H (g.weak ⟨rfl,rfl,rfl,trivial⟩)))
      ·rcases Bool.eq_false_or_eq_true (r_3) with hbr5|hbr5
       ·replace H:=H.1 hbr5
        replace g:=g.bool (b:=true) (t:=46) rfl (hbr5)
        exact g.on (by rfl) (by rfl) (g.op (zAJ g rfl) H fun x47 w a H g=>(g.on (by rfl) (by rfl) (g.op (zAI g rfl) H fun x48 w a H g=>(g.on (by rfl) (by rfl) (g.pur (zGp g rfl) fun _ g=>(g.pur (zAj g rfl rfl) fun _ g=>(hr5 (!x48) _ _ H (g.weak ⟨rfl,rfl,rfl,rfl,rfl,trivial⟩))))))))
       ·replace H:=H.2 hbr5
        replace g:=g.bool (b:=false) (t:=46) rfl (hbr5)
        exact g.off (by rfl) (by rfl) (by decide) (fun _ g=>(g.off (by rfl) (by rfl) (by decide) (fun _ g=>(g.off (by rfl) (by rfl) (by decide) (fun _ g=>(g.pur (zAi g rfl rfl) fun _ g=>(hr5 false _ _ H (g.weak ⟨rfl,rfl,rfl,rfl,rfl,trivial⟩))))))))
    ·intro D xs w a h1 h2 h3 hD g
     have H:=hdn D xs w h1 h2 h3 hD
     clear hbd hdn hst hnew
     try dsimp only at H
     refine (bn (tn (zAF (zAA (g.op (zAI g rfl) H fun x74 w a H g=>(g.opu (zAM g rfl rfl) H fun w a H g=>(g.as_ rfl fun _ g=>(zAG (tn ?_)))))))))
     obtain ⟨hD0,H⟩:=H
     try dsimp only at H
     obtain ⟨q_3,ad_3,hp_3,hl_3,H⟩:=H
     exact zAf (zPU g (rs:=[.cell 4 69,.tmp 5]) (vs:=[(zAH.v q_3),(.int .i64 0)]) rfl hD0 ⟨⟨ad_3,by rw [← hp_3];rfl,hl_3⟩,rfl,trivial⟩ ⟨_,_,rfl,H⟩)
    ·intro D c pre w a hj h1 h2 h3 hD g
     cases hj
def zCt (x0:Sl) (x1:Value) (w:World) (Ret:Bool→World→Prop):Prop:=
 Cl Tryz.prog 78 [(Sl.v x0),x1].toArray w (fun e w=>∃ (r:Int),e=.returned (.int .i64 r)∧(Ret (decide (0≤r)) w))
set_option maxRecDepth 100000 in
theorem zE8 (x0:Sl) (x1:Value) (w:World) (Ret:Bool→World→Prop) (H:zCt x0 x1 w Ret):Cl Tryz.prog 57 [(Sl.v x0),x1].toArray w (fun e w'=>∃ (r0:Bool),e=.returned (.bool r0)∧Ret r0 w'):=by
 unfold zCt at H
 refine zAY 9 (zipE 0 [(Sl.v x0),x1]) Tryz.func57 rfl rfl (by rfl) rfl ?_
 intro a g
 replace g:Sat [] 9 [(0,(Sl.v x0)),(1,x1)] a:=g
 refine zAF (zAA (g.as_ rfl fun _ g=>(zAG (tn (zAF (zAA (g.mv rfl fun _ g=>(g.mv rfl fun _ g=>(g.call (zAQ g ent78 rfl rfl) H fun e w H=>?_)))))))))
 obtain ⟨r,rfl,H⟩:=H
 exact ⟨_,rfl,fun _ g=>(g.pur (zF7 g rfl rfl) fun _ g=>(g.as_ rfl fun _ g=>(zAG (tn (zAf (zAt g rfl rfl ⟨_,rfl,H⟩))))))⟩
def zG5 (Ret:Int→World→Prop) (x18:Int) (Kl2:Int→World→Prop) (x69:Bool) (w:World):Prop:=
 nextB w (fun w=>(x69=true→(Ret 2 w))∧(x69=false→(Kl2 (IntKind.wrap .i64 (x18+1)) w)))
def zJZ (Ret:Int→World→Prop) (x18:Int) (Kl2:Int→World→Prop) (x68:Bool) (w:World):Prop:=
 zG5 Ret x18 Kl2 x68 w
def zGx (Ret:Int→World→Prop) (x1:Option Addr) (x18:Int) (Kl2:Int→World→Prop) (x4:Option Addr) (x52:Bool) (w:World):Prop:=
 ((!x52)=true→(zG5 Ret x18 Kl2 true w))∧((!x52)=false→(((0<x18)→(opB Tryz.prog Value.pointer (Instr.fieldAt 69 (.pointer x1) 0) w (fun x59=>opB Tryz.prog Sl.v (Instr.loadAt 67 (.pointer x59)) w (fun x60=>opB Tryz.prog Value.pointer (Instr.indexAt 67 (Sl.v x60) (.int .i64 (IntKind.wrap .i64 (x18 - 1)))) w (fun x63=>opB Tryz.prog zAB.v (Instr.loadAt 72 (.pointer x63)) w (fun x64=>opB Tryz.prog zAB.v (Instr.loadAt 72 (.pointer x4)) w (fun x65=>∃ (r:Int),(∀ w',Bel w w'→Cl Tryz.prog 68 [(zAB.v x64),(zAB.v x65)].toArray w' (fun e w''=>e=.returned (.int .i64 r)∧Bel w' w''))∧(zJZ Ret x18 Kl2 (decide (0≤r)) w))))))))∧(¬ (0<x18)→(zJZ Ret x18 Kl2 false w))))
def zGw (Ret:Int→World→Prop) (x1:Option Addr) (x18:Int) (Kl2:Int→World→Prop) (x4:Option Addr) (x46:Bool) (w:World):Prop:=
 (x46=true→(opE Tryz.prog Value.pointer (Instr.fieldAt 72 (.pointer x4) 2) w (fun x48 w=>opE Tryz.prog Value.string (Instr.loadAt 9 (.pointer x48)) w (fun x49 w=>zGx Ret x1 x18 Kl2 x4 (decide ((x49.size:Int)≤512)) w))))∧(x46=false→(zGx Ret x1 x18 Kl2 x4 false w))
def zGK (Ret:Int→World→Prop) (x1:Option Addr) (x18:Int) (Kl2:Int→World→Prop) (x4:Option Addr) (x40:Bool) (w:World):Prop:=
 (x40=true→(opE Tryz.prog Value.pointer (Instr.fieldAt 72 (.pointer x4) 0) w (fun x42 w=>opE Tryz.prog Value.string (Instr.loadAt 9 (.pointer x42)) w (fun x43 w=>zGw Ret x1 x18 Kl2 x4 (decide ((x43.size:Int)≤256)) w))))∧(x40=false→(zGw Ret x1 x18 Kl2 x4 false w))
def zIB (Ret:Int→World→Prop) (x1:Option Addr) (x18:Int) (Kl2:Int→World→Prop) (x4:Option Addr) (x39:Bool) (w:World):Prop:=
 zGK Ret x1 x18 Kl2 x4 x39 w
def zGs (Ret:Int→World→Prop) (x1:Option Addr) (x18:Int) (Kl2:Int→World→Prop) (x4:Option Addr) (x30:Bool) (w:World):Prop:=
 (x30=true→(opE Tryz.prog Value.pointer (Instr.fieldAt 72 (.pointer x4) 3) w (fun x32 w=>opE Tryz.prog Value.bool (Instr.loadAt 4 (.pointer x32)) w (fun x33 w=>((!x33)=true→(zIB Ret x1 x18 Kl2 x4 true w))∧((!x33)=false→(opE Tryz.prog Value.pointer (Instr.fieldAt 72 (.pointer x4) 2) w (fun x36 w=>opE Tryz.prog Value.string (Instr.loadAt 9 (.pointer x36)) w (fun x37 w=>zIB Ret x1 x18 Kl2 x4 (decide (x37=(ByteArray.mk #[]))) w))))))))∧(x30=false→(zGK Ret x1 x18 Kl2 x4 false w))
def zIz (Ret:Int→World→Prop) (x1:Option Addr) (x16:Sl) (x18:Int) (w:World) (Kl2:Int→World→Prop):Prop:=
 ((x18<(x16.len:Int))→(opE Tryz.prog Value.pointer (Instr.indexAt 67 (Sl.v x16) (.int .i64 x18)) w (fun x21 w=>opE Tryz.prog zAB.v (Instr.loadAt 72 (.pointer x21)) w (fun x22 w=>opE Tryz.prog Value.pointer (Instr.alloc 72 true (.tuple #[])) w (fun x4 w=>opU Tryz.prog (Instr.storeAt 72 (.pointer x4) (zAB.v x22)) w (fun w=>opE Tryz.prog Value.pointer (Instr.fieldAt 72 (.pointer x4) 1) w (fun x23 w=>opE Tryz.prog (Value.int .u64) (Instr.loadAt 37 (.pointer x23)) w (fun x24 w=>((1≤x24)→(opE Tryz.prog Value.pointer (Instr.fieldAt 72 (.pointer x4) 1) w (fun x27 w=>opE Tryz.prog (Value.int .u64) (Instr.loadAt 37 (.pointer x27)) w (fun x28 w=>zGs Ret x1 x18 Kl2 x4 (decide (x28≤2305843009213693952)) w))))∧(¬ (1≤x24)→(zGs Ret x1 x18 Kl2 x4 false w))))))))))∧(¬ (x18<(x16.len:Int))→(Ret 0 w))
def zGy (Ret:Int→World→Prop) (x1:Option Addr) (x14:Bool) (w:World):Prop:=
 (x14=true→(Ret 2 w))∧(x14=false→(opE Tryz.prog Value.pointer (Instr.fieldAt 69 (.pointer x1) 0) w (fun x15 w=>opE Tryz.prog Sl.v (Instr.loadAt 67 (.pointer x15)) w (fun x16 w=>∃ (I:Int→World→Prop) (μ:Int→World→Nat),I 0 w∧∀ (x18:Int) w,I x18 w→zIz Ret x1 x16 x18 w (fun x18' w'=>I x18' w'∧μ x18' w'<μ x18 w)))))
def zLX (x0:zAH) (w:World) (Ret:Int→World→Prop):Prop:=
 opE Tryz.prog Value.pointer (Instr.box 69 (zAH.v x0)) w (fun x1 w=>opE Tryz.prog Value.pointer (Instr.fieldAt 69 (.pointer x1) 0) w (fun x6 w=>opE Tryz.prog Sl.v (Instr.loadAt 67 (.pointer x6)) w (fun x7 w=>((4096<(x7.len:Int))→(zGy Ret x1 true w))∧(¬ (4096<(x7.len:Int))→(opE Tryz.prog Value.pointer (Instr.fieldAt 69 (.pointer x1) 1) w (fun x11 w=>opE Tryz.prog (Value.int .u64) (Instr.loadAt 37 (.pointer x11)) w (fun x12 w=>zGy Ret x1 (decide (2305843009213693952<x12)) w)))))))
set_option maxRecDepth 100000 in
theorem zOo (x0:zAH) (w:World) (Ret:Int→World→Prop) (H:zLX x0 w Ret):Cl Tryz.prog 64 [(zAH.v x0)].toArray w (fun e w'=>∃ (r0:Int),e=.returned (.int .i64 r0)∧Ret r0 w'):=by
 unfold zLX at H
 refine zAY 71 (zipE 0 [(zAH.v x0)]) Tryz.func64 rfl rfl (by rfl) rfl ?_
 intro a g
 replace g:Sat [] 71 [(0,(zAH.v x0))] a:=g
 refine zAF (zAA (g.op (zIm g rfl) H fun x1 w a H g=>(g.as_ rfl fun _ g=>(zAG (tn (zAF (zAF (zAA (g.op (zAJ g rfl) H fun x6 w a H g=>(g.op (zAI g rfl) H fun x7 w a H g=>(g.purR (fun w=>zGm g Tryz.underlying67 rfl) fun _ g=>(g.pur (zIG g rfl rfl) fun _ g=>(g.mv rfl fun _ g=>(WL.join (ds:=[]) (N:=71) (σ:=Bool) (fun s=>[(14,(.bool s)),(1,(.pointer x1))]) (fun s w=>zGy Ret x1 s w) 4 ?_ (fun hr1=>?_)))))))))))))))
 ·intro x14 w a H g
  try dsimp only at H g
  unfold zGy at H
  refine zAG (tn (zAV g rfl (fun hc=>?_) (fun hc=>?_)))
  ·replace H:=H.1 hc
   exact zAF (zAA (g.as_ rfl fun _ g=>(zAG (tn (zAf (tr (zAt g rfl rfl ⟨_,rfl,H⟩)))))))
  ·replace H:=H.2 hc
   refine zAP (tn (zAF (zAF (zAA (g.op (zAJ g rfl) H fun x15 w a H g=>(g.op (zAI g rfl) H fun x16 w a H g=>(g.purR (fun w=>zGm g Tryz.underlying67 rfl) fun _ g=>(g.mv rfl fun _ g=>(zAG (tn (zAN ?_)))))))))))
   obtain ⟨I_l2,μ_l2,h0,hb⟩:=H
   refine zBl (ds:=[]) (N:=71) (σ:=Int) (fun s=>[(18,(.int .i64 s)),(1,(.pointer x1)),(16,(Sl.v x16)),(17,(.int .i64 (x16.len:Int)))]) (fun s w=>I_l2 s w) (fun s w=>μ_l2 s w) 0 h0 (g.weak ⟨rfl,rfl,rfl,rfl,trivial⟩) ?_
   intro x18 w a hI g
   try dsimp only at hI g
   obtain ⟨Kl2,hK_l2⟩:∃ K:Int→World→Prop,K=(fun x18' w'=>I_l2 x18' w'∧μ_l2 x18' w'<μ_l2 x18 w):=⟨_,rfl⟩
   have H:zIz Ret x1 x16 x18 w Kl2:=by rw [hK_l2];exact hb x18 w hI
   clear hb h0 hI
   unfold zIz at H
   refine zAF (zAA (g.pur (zDp g rfl rfl) fun _ g=>(zAG (tn (zAF (zAR g rfl (fun hc=>?_) (fun hc=>?_)))))))
   ·replace H:=H.1 hc
    refine zAP (tn (zAF (zAN (zAF (zAA (g.mv rfl fun _ g=>(g.op (zAC g rfl rfl) H fun x21 w a H g=>(g.op (zAI g rfl) H fun x22 w a H g=>(g.op (zEH) H fun x4 w a H g=>(g.as_ rfl fun _ g=>(g.opu (zAM g rfl rfl) H fun w a H g=>(zAG (tn (zAF (zAA (g.op (zAJ g rfl) H fun x23 w a H g=>(g.op (zAI g rfl) H fun x24 w a H g=>(g.pur (zF7 g rfl rfl) fun _ g=>(g.mv rfl fun _ g=>(WL.join (ds:=[]) (N:=71) (σ:=Bool) (fun s=>[(30,(.bool s)),(1,(.pointer x1)),(3,(.int .i64 x18)),(4,(.pointer x4)),(16,(Sl.v x16)),(17,(.int .i64 (x16.len:Int))),(18,(.int .i64 x18))]) (fun s w=>zGs Ret x1 x18 Kl2 x4 s w) 4 ?_ (fun hr3=>?_)))))))))))))))))))))
    ·intro x30 w a H g
     try dsimp only at H g
     unfold zGs at H
     refine g.mv rfl fun _ g=>WL.join (ds:=[]) (N:=71) (σ:=Bool) (fun s=>[(40,(.bool s)),(1,(.pointer x1)),(3,(.int .i64 x18)),(4,(.pointer x4)),(16,(Sl.v x16)),(17,(.int .i64 (x16.len:Int))),(18,(.int .i64 x18))]) (fun s w=>zGK Ret x1 x18 Kl2 x4 s w) 9 ?_ (fun hr4=>?_)
     ·intro x40 w a H g
      try dsimp only at H g
      unfold zGK at H
      refine g.mv rfl fun _ g=>WL.join (ds:=[]) (N:=71) (σ:=Bool) (fun s=>[(46,(.bool s)),(1,(.pointer x1)),(3,(.int .i64 x18)),(4,(.pointer x4)),(16,(Sl.v x16)),(17,(.int .i64 (x16.len:Int))),(18,(.int .i64 x18))]) (fun s w=>zGw Ret x1 x18 Kl2 x4 s w) 5 ?_ (fun hr5=>?_)
      ·intro x46 w a H g
       try dsimp only at H g
       unfold zGw at H
       refine g.mv rfl fun _ g=>WL.join (ds:=[]) (N:=71) (σ:=Bool) (fun s=>[(52,(.bool s)),(1,(.pointer x1)),(3,(.int .i64 x18)),(4,(.pointer x4)),(16,(Sl.v x16)),(17,(.int .i64 (x16.len:Int))),(18,(.int .i64 x18))]) (fun s w=>zGx Ret x1 x18 Kl2 x4 s w) 5 ?_ (fun hr6=>?_)
       ·intro x52 w a H g
        try dsimp only at H g
        unfold zGx at H
        refine g.as_ rfl fun _ g=>zAG (tn (zAF (zEB (by kernel_rfl) (by kernel_rfl) (g.qm rfl fun _ g=>(g.qpur (zGp g rfl) fun _ g=>(g.qm rfl fun _ g=>(WQ.join (ds:=[]) (N:=71) (σ:=Bool) (fun s=>[(69,(.bool s)),(1,(.pointer x1)),(16,(Sl.v x16)),(17,(.int .i64 (x16.len:Int))),(18,(.int .i64 x18))]) (fun s=>zG5 Ret x18 Kl2 s w) 14 ?_ (fun hr7=>?_))))))))
        ·intro x69 a H g
         try dsimp only at H g
         unfold zG5 at H
         refine zED (fun w hB=>?_)
         replace H:=H w hB
         refine (tn (zAV g rfl (fun hc=>?_) (fun hc=>?_)))
         ·replace H:=H.1 hc
          exact zAF (zAA (g.as_ rfl fun _ g=>(zAG (tn (zAf (br (tr (tr (br (tr (zAt g rfl rfl ⟨_,rfl,H⟩)))))))))))
         ·replace H:=H.2 hc
          refine zAP (bn (tn (zAA (g.pur (zAn g rfl rfl) fun _ g=>(g.mv rfl fun _ g=>?_)))))
          rw [hK_l2] at H
          exact zAG (tn ⟨(IntKind.wrap .i64 (x18+1)),g.weak ⟨rfl,rfl,rfl,rfl,trivial⟩,H⟩)
        ·rcases Bool.eq_false_or_eq_true ((!x52)) with hbr7|hbr7
         ·replace H:=H.1 hbr7
          replace g:=g.bool (b:=true) (t:=55) rfl (hbr7)
          exact g.qoff (by rfl) (by rfl) (by decide) (fun _ g=>(g.qoff (by rfl) (by rfl) (by decide) (fun _ g=>(g.qoff (by rfl) (by rfl) (by decide) (fun _ g=>(g.qoffU (by rfl) (by rfl) (fun _ g=>(g.qoffU (by rfl) (by rfl) (fun _ g=>(g.qoffU (by rfl) (by rfl) (fun _ g=>(g.qoffU (by rfl) (by rfl) (fun _ g=>(g.qoffU (by rfl) (by rfl) (fun _ g=>(g.qoffU (by rfl) (by rfl) (fun _ g=>(g.qoffU (by rfl) (by rfl) (fun _ g=>(g.qoffU (by rfl) (by rfl) (fun _ g=>(g.qoffU (by rfl) (by rfl) (fun _ g=>(g.qoff (by rfl) (by rfl) (by decide) (fun _ g=>(g.qpur (zAj g rfl rfl) fun _ g=>(hr7 true _ H (g.weak ⟨rfl,rfl,rfl,rfl,rfl,trivial⟩))))))))))))))))))))))))))))
         ·replace H:=H.2 hbr7
          replace g:=g.bool (b:=false) (t:=55) rfl (hbr7)
          refine g.qon (by rfl) (by rfl) (g.qm rfl fun _ g=>(g.qon (by rfl) (by rfl) (g.qpur (zIG g rfl rfl) fun _ g=>(g.qon (by rfl) (by rfl) (g.qm rfl fun _ g=>(WQ.join (ds:=[]) (N:=71) (σ:=Bool) (fun s=>[(68,(.bool s)),(1,(.pointer x1)),(16,(Sl.v x16)),(17,(.int .i64 (x16.len:Int))),(18,(.int .i64 x18)),(55,(.bool false))]) (fun s=>zJZ Ret x18 Kl2 s w) 10 ?_ (fun hr8=>?_)))))))
          ·intro x68 a H g
           try dsimp only at H g
           unfold zJZ at H
           exact g.qpur (zAi g rfl rfl) fun _ g=>hr7 x68 _ H (g.weak ⟨rfl,rfl,rfl,rfl,rfl,trivial⟩)
          ·rcases Classical.em ((0<x18)) with hbr8|hbr8
           ·replace H:=H.1 hbr8
            replace g:=g.bool (b:=true) (t:=58) rfl (decide_eq_true hbr8)
            refine g.qon (by rfl) (by rfl) (g.qop (zAJ g rfl) H fun x59 a H g=>(g.qon (by rfl) (by rfl) (g.qop (zAI g rfl) H fun x60 a H g=>(g.qon (by rfl) (by rfl) (g.qm rfl fun _ g=>(g.qon (by rfl) (by rfl) (g.qpur (zAv g rfl rfl) fun _ g=>(g.qon (by rfl) (by rfl) (g.qop (zAC g rfl rfl) H fun x63 a H g=>(g.qon (by rfl) (by rfl) (g.qop (zAI g rfl) H fun x64 a H g=>(g.qon (by rfl) (by rfl) (g.qop (zAI g rfl) H fun x65 a H g=>(g.qon (by rfl) (by rfl) ?_))))))))))))))
            obtain ⟨r,hc,H⟩:=H
            exact g.qcall (fun w'=>zAQ g ent68 rfl rfl) hc fun _ g=>g.qon (by rfl) (by rfl) (g.qpur (zF7 g rfl rfl) fun _ g=>(g.qon (by rfl) (by rfl) (g.qpur (zAj g rfl rfl) fun _ g=>(hr8 (decide (0≤r)) _ H (g.weak ⟨rfl,rfl,rfl,rfl,rfl,rfl,trivial⟩)))))
           ·replace H:=H.2 hbr8
            replace g:=g.bool (b:=false) (t:=58) rfl (decide_eq_false hbr8)
            exact g.qoff (by rfl) (by rfl) (by decide) (fun _ g=>(g.qoff (by rfl) (by rfl) (by decide) (fun _ g=>(g.qoff (by rfl) (by rfl) (by decide) (fun _ g=>(g.qoff (by rfl) (by rfl) (by decide) (fun _ g=>(g.qoff (by rfl) (by rfl) (by decide) (fun _ g=>(g.qoff (by rfl) (by rfl) (by decide) (fun _ g=>(g.qoff (by rfl) (by rfl) (by decide) (fun _ g=>(g.qoff (by rfl) (by rfl) (by decide) (fun _ g=>(g.qoff (by rfl) (by rfl) (by decide) (fun _ g=>(g.qon (by rfl) (by rfl) (g.qpur (zAi g rfl rfl) fun _ g=>(hr8 false _ H (g.weak ⟨rfl,rfl,rfl,rfl,rfl,rfl,trivial⟩)))))))))))))))))))))
       ·rcases Bool.eq_false_or_eq_true (x46) with hbr6|hbr6
        ·replace H:=H.1 hbr6
         replace g:=g.bool (b:=true) (t:=47) rfl (hbr6)
         exact g.on (by rfl) (by rfl) (g.op (zAJ g rfl) H fun x48 w a H g=>(g.on (by rfl) (by rfl) (g.op (zAI g rfl) H fun x49 w a H g=>(g.on (by rfl) (by rfl) (g.purR (fun w=>zMn g Tryz.underlying9 rfl) fun _ g=>(g.on (by rfl) (by rfl) (g.pur (zJn g rfl rfl) fun _ g=>(g.pur (zAj g rfl rfl) fun _ g=>(hr6 (decide ((x49.size:Int)≤512)) _ _ H (g.weak ⟨rfl,rfl,rfl,rfl,rfl,rfl,rfl,trivial⟩))))))))))
        ·replace H:=H.2 hbr6
         replace g:=g.bool (b:=false) (t:=47) rfl (hbr6)
         exact g.off (by rfl) (by rfl) (by decide) (fun _ g=>(g.off (by rfl) (by rfl) (by decide) (fun _ g=>(g.off (by rfl) (by rfl) (by decide) (fun _ g=>(g.off (by rfl) (by rfl) (by decide) (fun _ g=>(g.pur (zAi g rfl rfl) fun _ g=>(hr6 false _ _ H (g.weak ⟨rfl,rfl,rfl,rfl,rfl,rfl,rfl,trivial⟩))))))))))
      ·rcases Bool.eq_false_or_eq_true (x40) with hbr5|hbr5
       ·replace H:=H.1 hbr5
        replace g:=g.bool (b:=true) (t:=41) rfl (hbr5)
        exact g.on (by rfl) (by rfl) (g.op (zAJ g rfl) H fun x42 w a H g=>(g.on (by rfl) (by rfl) (g.op (zAI g rfl) H fun x43 w a H g=>(g.on (by rfl) (by rfl) (g.purR (fun w=>zMn g Tryz.underlying9 rfl) fun _ g=>(g.on (by rfl) (by rfl) (g.pur (zJn g rfl rfl) fun _ g=>(g.pur (zAj g rfl rfl) fun _ g=>(hr5 (decide ((x43.size:Int)≤256)) _ _ H (g.weak ⟨rfl,rfl,rfl,rfl,rfl,rfl,rfl,trivial⟩))))))))))
       ·replace H:=H.2 hbr5
        replace g:=g.bool (b:=false) (t:=41) rfl (hbr5)
        exact g.off (by rfl) (by rfl) (by decide) (fun _ g=>(g.off (by rfl) (by rfl) (by decide) (fun _ g=>(g.off (by rfl) (by rfl) (by decide) (fun _ g=>(g.off (by rfl) (by rfl) (by decide) (fun _ g=>(g.pur (zAi g rfl rfl) fun _ g=>(hr5 false _ _ H (g.weak ⟨rfl,rfl,rfl,rfl,rfl,rfl,rfl,trivial⟩))))))))))
     ·rcases Bool.eq_false_or_eq_true (x30) with hbr4|hbr4
      ·replace H:=H.1 hbr4
       replace g:=g.bool (b:=true) (t:=31) rfl (hbr4)
       refine g.on (by rfl) (by rfl) (g.op (zAJ g rfl) H fun x32 w a H g=>(g.on (by rfl) (by rfl) (g.op (zAI g rfl) H fun x33 w a H g=>(g.on (by rfl) (by rfl) (g.pur (zGp g rfl) fun _ g=>(g.on (by rfl) (by rfl) (g.mv rfl fun _ g=>(WL.join (ds:=[]) (N:=71) (σ:=Bool) (fun s=>[(39,(.bool s)),(1,(.pointer x1)),(3,(.int .i64 x18)),(4,(.pointer x4)),(16,(Sl.v x16)),(17,(.int .i64 (x16.len:Int))),(18,(.int .i64 x18)),(31,(.bool true))]) (fun s w=>zIB Ret x1 x18 Kl2 x4 s w) 4 ?_ (fun hr9=>?_)))))))))
       ·intro x39 w a H g
        try dsimp only at H g
        unfold zIB at H
        exact g.pur (zAj g rfl rfl) fun _ g=>hr4 x39 _ _ H (g.weak ⟨rfl,rfl,rfl,rfl,rfl,rfl,rfl,trivial⟩)
       ·rcases Bool.eq_false_or_eq_true ((!x33)) with hbr9|hbr9
        ·replace H:=H.1 hbr9
         replace g:=g.bool (b:=true) (t:=35) rfl (hbr9)
         exact g.off (by rfl) (by rfl) (by decide) (fun _ g=>(g.off (by rfl) (by rfl) (by decide) (fun _ g=>(g.off (by rfl) (by rfl) (by decide) (fun _ g=>(g.on (by rfl) (by rfl) (g.pur (zAj g rfl rfl) fun _ g=>(hr9 true _ _ H (g.weak ⟨rfl,rfl,rfl,rfl,rfl,rfl,rfl,rfl,trivial⟩)))))))))
        ·replace H:=H.2 hbr9
         replace g:=g.bool (b:=false) (t:=35) rfl (hbr9)
         exact g.on (by rfl) (by rfl) (g.op (zAJ g rfl) H fun x36 w a H g=>(g.on (by rfl) (by rfl) (g.op (zAI g rfl) H fun x37 w a H g=>(g.on (by rfl) (by rfl) (g.pur (zQa g rfl rfl) fun _ g=>(g.on (by rfl) (by rfl) (g.pur (zAi g rfl rfl) fun _ g=>(hr9 (decide (x37=(ByteArray.mk #[]))) _ _ H (g.weak ⟨rfl,rfl,rfl,rfl,rfl,rfl,rfl,rfl,trivial⟩)))))))))
      ·replace H:=H.2 hbr4
       replace g:=g.bool (b:=false) (t:=31) rfl (hbr4)
       exact g.off (by rfl) (by rfl) (by decide) (fun _ g=>(g.off (by rfl) (by rfl) (by decide) (fun _ g=>(g.off (by rfl) (by rfl) (by decide) (fun _ g=>(g.off (by rfl) (by rfl) (by decide) (fun _ g=>(g.offU (by rfl) (by rfl) (fun _ g=>(g.offU (by rfl) (by rfl) (fun _ g=>(g.offU (by rfl) (by rfl) (fun _ g=>(g.off (by rfl) (by rfl) (by decide) (fun _ g=>(g.pur (zAi g rfl rfl) fun _ g=>(hr4 false _ _ H (g.weak ⟨rfl,rfl,rfl,rfl,rfl,rfl,rfl,trivial⟩))))))))))))))))))
    ·rcases Classical.em ((1≤x24)) with hbr3|hbr3
     ·replace H:=H.1 hbr3
      replace g:=g.bool (b:=true) (t:=26) rfl (decide_eq_true hbr3)
      exact g.on (by rfl) (by rfl) (g.op (zAJ g rfl) H fun x27 w a H g=>(g.on (by rfl) (by rfl) (g.op (zAI g rfl) H fun x28 w a H g=>(g.on (by rfl) (by rfl) (g.pur (zJn g rfl rfl) fun _ g=>(g.pur (zAj g rfl rfl) fun _ g=>(hr3 (decide (x28≤2305843009213693952)) _ _ H (g.weak ⟨rfl,rfl,rfl,rfl,rfl,rfl,rfl,trivial⟩))))))))
     ·replace H:=H.2 hbr3
      replace g:=g.bool (b:=false) (t:=26) rfl (decide_eq_false hbr3)
      exact g.off (by rfl) (by rfl) (by decide) (fun _ g=>(g.off (by rfl) (by rfl) (by decide) (fun _ g=>(g.off (by rfl) (by rfl) (by decide) (fun _ g=>(g.pur (zAi g rfl rfl) fun _ g=>(hr3 false _ _ H (g.weak ⟨rfl,rfl,rfl,rfl,rfl,rfl,rfl,trivial⟩))))))))
   ·replace H:=H.2 hc
    exact zBJ (te (te (be (tn (zAF (zAA (g.as_ rfl fun _ g=>(zAG (tn (zAf (zAt g rfl rfl ⟨_,rfl,H⟩)))))))))))
 ·rcases Classical.em ((4096<(x7.len:Int))) with hbr1|hbr1
  ·replace H:=H.1 hbr1
   replace g:=g.bool (b:=true) (t:=10) rfl (decide_eq_true hbr1)
   exact g.off (by rfl) (by rfl) (by decide) (fun _ g=>(g.off (by rfl) (by rfl) (by decide) (fun _ g=>(g.off (by rfl) (by rfl) (by decide) (fun _ g=>(g.pur (zAj g rfl rfl) fun _ g=>(hr1 true _ _ H (g.weak ⟨rfl,rfl,trivial⟩))))))))
  ·replace H:=H.2 hbr1
   replace g:=g.bool (b:=false) (t:=10) rfl (decide_eq_false hbr1)
   exact g.on (by rfl) (by rfl) (g.op (zAJ g rfl) H fun x11 w a H g=>(g.on (by rfl) (by rfl) (g.op (zAI g rfl) H fun x12 w a H g=>(g.on (by rfl) (by rfl) (g.pur (zIG g rfl rfl) fun _ g=>(g.pur (zAi g rfl rfl) fun _ g=>(hr1 (decide (2305843009213693952<x12)) _ _ H (g.weak ⟨rfl,rfl,trivial⟩))))))))
def zIy (x0:Sl) (Ret:Int→World→Prop) (x13:Option Nat) (x16:Int) (w:World) (Kl1:Int→World→Prop):Prop:=
 ((x16<(x0.len:Int))→(opE Tryz.prog Value.pointer (Instr.indexAt 30 (Sl.v x0) (.int .i64 x16)) w (fun x18 w=>opE Tryz.prog zAD.v (Instr.loadAt 34 (.pointer x18)) w (fun x19 w=>opE Tryz.prog Value.pointer (Instr.alloc 34 true (.tuple #[])) w (fun x5 w=>opU Tryz.prog (Instr.storeAt 34 (.pointer x5) (zAD.v x19)) w (fun w=>opE Tryz.prog Value.pointer (Instr.fieldAt 34 (.pointer x5) 0) w (fun x22 w=>opE Tryz.prog Value.string (Instr.loadAt 9 (.pointer x22)) w (fun x23 w=>opE Tryz.prog (fun p:zKs × Bool=>.tuple [(zKs.v p.1),(.bool p.2)].toArray) (Instr.lookup 152 (.map x13) (.string x23) true) w (fun x24 w=>opE Tryz.prog Value.pointer (Instr.alloc 153 true (.tuple #[])) w (fun x6 w=>opU Tryz.prog (Instr.storeAt 153 (.pointer x6) (zKs.v x24.1)) w (fun w=>(x24.2=true→(Ret 12 w))∧(x24.2=false→(opE Tryz.prog Value.pointer (Instr.fieldAt 34 (.pointer x5) 0) w (fun x29 w=>opE Tryz.prog Value.string (Instr.loadAt 9 (.pointer x29)) w (fun x30 w=>opE Tryz.prog zKs.v (Instr.build 153 [].toArray) w (fun x31 w=>opU Tryz.prog (Instr.mapUpdate 152 (.map x13) (.string x30) (zKs.v x31)) w (fun w=>Kl1 (IntKind.wrap .i64 (x16+1)) w)))))))))))))))))∧(¬ (x16<(x0.len:Int))→(Ret 0 w))
def zLa (x0:Sl) (w:World) (Ret:Int→World→Prop):Prop:=
 ((4096<(x0.len:Int))→(Ret 3 w))∧(¬ (4096<(x0.len:Int))→(Cl Tryz.prog 83 [(Sl.v x0),(.func (.func 84) #[] #[])].toArray w (fun e w=>∃ (r:Bool),e=.returned (.bool r)∧((r=true→(Ret 4 w))∧(r=false→(opE Tryz.prog Value.map (Instr.makeMap 152 none) w (fun x13 w=>∃ (I:Int→World→Prop) (μ:Int→World→Nat),I 0 w∧∀ (x16:Int) w,I x16 w→zIy x0 Ret x13 x16 w (fun x16' w'=>I x16' w'∧μ x16' w'<μ x16 w))))))))
set_option maxRecDepth 100000 in
theorem zOg (x0:Sl) (w:World) (Ret:Int→World→Prop) (H:zLa x0 w Ret):Cl Tryz.prog 65 [(Sl.v x0)].toArray w (fun e w'=>∃ (r0:Int),e=.returned (.int .i64 r0)∧Ret r0 w'):=by
 unfold zLa at H
 refine zAY 33 (zipE 0 [(Sl.v x0)]) Tryz.func65 rfl rfl (by rfl) rfl ?_
 intro a g
 replace g:Sat [] 33 [(0,(Sl.v x0))] a:=g
 refine zAF (zAA (g.as_ rfl fun _ g=>(zAG (tn (zAF (zAF (zAA (g.mv rfl fun _ g=>(g.purR (fun w=>zGm g Tryz.underlying30 rfl) fun _ g=>(g.pur (zIG g rfl rfl) fun _ g=>(zAG (tn (zAR g rfl (fun hc=>?_) (fun hc=>?_))))))))))))))
 ·replace H:=H.1 hc
  exact zAF (zAA (g.as_ rfl fun _ g=>(zAG (tn (zAf (tr (zAt g rfl rfl ⟨_,rfl,H⟩)))))))
 ·replace H:=H.2 hc
  refine zAP (tn (zAF (zAF (zAA (g.mv rfl fun _ g=>(g.call (zAQ g ent83 rfl rfl) H fun e w H=>?_))))))
  obtain ⟨r,rfl,H⟩:=H
  refine ⟨_,rfl,fun _ g=>(zAG (tn (zAV g rfl (fun hc=>?_) (fun hc=>?_))))⟩
  ·replace H:=H.1 hc
   exact zAF (zAA (g.as_ rfl fun _ g=>(zAG (tn (zAf (tr (zAt g rfl rfl ⟨_,rfl,H⟩)))))))
  ·replace H:=H.2 hc
   refine zAP (tn (zAF (zAA (g.op (zNY) H fun x13 w a H g=>(g.as_ rfl fun _ g=>(zAG (tn (zAF (zAF (zAA (g.mv rfl fun _ g=>(g.purR (fun w=>zGm g Tryz.underlying30 rfl) fun _ g=>(g.mv rfl fun _ g=>(zAG (tn (zAN ?_))))))))))))))))
   obtain ⟨I_l1,μ_l1,h0,hb⟩:=H
   refine zBl (ds:=[]) (N:=33) (σ:=Int) (fun s=>[(16,(.int .i64 s)),(3,(.map x13)),(14,(Sl.v x0)),(15,(.int .i64 (x0.len:Int)))]) (fun s w=>I_l1 s w) (fun s w=>μ_l1 s w) 0 h0 (g.weak ⟨rfl,rfl,rfl,rfl,trivial⟩) ?_
   intro x16 w a hI g
   try dsimp only at hI g
   obtain ⟨Kl1,hK_l1⟩:∃ K:Int→World→Prop,K=(fun x16' w'=>I_l1 x16' w'∧μ_l1 x16' w'<μ_l1 x16 w):=⟨_,rfl⟩
   have H:zIy x0 Ret x13 x16 w Kl1:=by rw [hK_l1];exact hb x16 w hI
   clear hb h0 hI
   unfold zIy at H
   refine zAF (zAA (g.pur (zDp g rfl rfl) fun _ g=>(zAG (tn (zAF (zAR g rfl (fun hc=>?_) (fun hc=>?_)))))))
   ·replace H:=H.1 hc
    refine zAP (tn (zAF (zAN (zAF (zAA (g.op (zAC g rfl rfl) H fun x18 w a H g=>(g.op (zAI g rfl) H fun x19 w a H g=>(g.op (zEH) H fun x5 w a H g=>(g.opu (zAM g rfl rfl) H fun w a H g=>(zAG (tn (zAF (zAF (zAA (g.mv rfl fun _ g=>(g.op (zAJ g rfl) H fun x22 w a H g=>(g.op (zAI g rfl) H fun x23 w a H g=>(g.op (zMf g rfl rfl) H fun x24 w a H g=>(g.mv rfl fun _ g=>(g.pur (zAO g rfl rfl) fun _ g=>(g.pur (zAO g rfl rfl) fun _ g=>(g.op (zEH) H fun x6 w a H g=>(g.opu (zAM g rfl rfl) H fun w a H g=>(g.as_ rfl fun _ g=>(zAG (tn (zAF (zAA (g.mv rfl fun _ g=>(zAG (tn (zAV g rfl (fun hc=>?_) (fun hc=>?_)))))))))))))))))))))))))))))))))
    ·replace H:=H.1 hc
     exact zAF (zAA (g.as_ rfl fun _ g=>(zAG (tn (zAf (tr (br (tr (tr (br (tr (zAt g rfl rfl ⟨_,rfl,H⟩))))))))))))
    ·replace H:=H.2 hc
     refine zAP (tn (zAA (g.mv rfl fun _ g=>(g.op (zAJ g rfl) H fun x29 w a H g=>(g.op (zAI g rfl) H fun x30 w a H g=>(g.op (zGM g rfl) H fun x31 w a H g=>(g.opu (zMD g rfl rfl rfl) H fun w a H g=>(zAG (bn (tn (zAA (g.pur (zAn g rfl rfl) fun _ g=>(g.mv rfl fun _ g=>?_)))))))))))))
     rw [hK_l1] at H
     exact zAG (tn ⟨(IntKind.wrap .i64 (x16+1)),g.weak ⟨rfl,rfl,rfl,rfl,trivial⟩,H⟩)
   ·replace H:=H.2 hc
    exact zBJ (te (te (be (tn (zAF (zAA (g.as_ rfl fun _ g=>(zAG (tn (zAf (zAt g rfl rfl ⟨_,rfl,H⟩)))))))))))
def zLj (x0:zAB) (x1:Option Addr) (w:World) (Ret:Bool→World→Prop):Prop:=
 opE Tryz.prog Value.pointer (Instr.box 72 (zAB.v x0)) w (fun x2 w=>opE Tryz.prog Value.pointer (Instr.fieldAt 72 (.pointer x2) 1) w (fun x4 w=>opE Tryz.prog (Value.int .u64) (Instr.loadAt 37 (.pointer x4)) w (fun x5 w=>opE Tryz.prog (Value.int .u64) (Instr.loadAt 37 (.pointer x1)) w (fun x6 w=>Ret (decide (x6≤x5)) w))))
set_option maxRecDepth 100000 in
theorem zOV (x0:zAB) (x1:Option Addr) (w:World) (Ret:Bool→World→Prop) (H:zLj x0 x1 w Ret):Cl Tryz.prog 66 [(zAB.v x0),(.pointer x1)].toArray w (fun e w'=>∃ (r0:Bool),e=.returned (.bool r0)∧Ret r0 w'):=by
 unfold zLj at H
 refine zAY 8 (zipE 0 [(zAB.v x0),(.pointer x1)]) Tryz.func66 rfl rfl (by rfl) rfl ?_
 intro a g
 replace g:Sat [] 8 [(0,(zAB.v x0)),(1,(.pointer x1))] a:=g
 exact zAF (zAA (g.op (zIm g rfl) H fun x2 w a H g=>(g.as_ rfl fun _ g=>(zAG (tn (zAF (zAA (g.op (zAJ g rfl) H fun x4 w a H g=>(g.op (zAI g rfl) H fun x5 w a H g=>(g.op (zAI g rfl) H fun x6 w a H g=>(g.pur (zF7 g rfl rfl) fun _ g=>(g.as_ rfl fun _ g=>(zAG (tn (zAf (zAt g rfl rfl ⟨_,rfl,H⟩))))))))))))))))
def zLd (x0:zAB) (x1:zAB) (w:World) (Ret:Int→World→Prop):Prop:=
 opE Tryz.prog Value.pointer (Instr.box 72 (zAB.v x0)) w (fun x2 w=>opE Tryz.prog Value.pointer (Instr.box 72 (zAB.v x1)) w (fun x3 w=>regC w (fun C1 w=>opC C1 Tryz.prog Value.pointer (Instr.fieldAt 72 (.pointer x2) 0) (fun x5=>opC C1 Tryz.prog Value.pointer (Instr.fieldAt 72 (.pointer x3) 0) (fun x7=>opC C1 Tryz.prog Value.pointer (Instr.fieldAt 72 (.pointer x2) 1) (fun x10=>opC C1 Tryz.prog Value.pointer (Instr.fieldAt 72 (.pointer x3) 1) (fun x12=>opC C1 Tryz.prog Value.string (Instr.loadAt 9 (.pointer x5)) (fun x6=>opC C1 Tryz.prog Value.string (Instr.loadAt 9 (.pointer x7)) (fun x8=>opC C1 Tryz.prog (Value.int .u64) (Instr.loadAt 37 (.pointer x10)) (fun x11=>opC C1 Tryz.prog (Value.int .u64) (Instr.loadAt 37 (.pointer x12)) (fun x13=>Cl Tryz.prog 48 [(.string x6),(.string x8)].toArray w (fun e w=>∃ (r:Int),e=.returned (.int .i64 r)∧(C1 w∧(Cl Tryz.prog 87 [(.int .u64 x11),(.int .u64 x13)].toArray w (fun e w=>∃ (r_1:Int),e=.returned (.int .i64 r_1)∧(C1 w∧(opE Tryz.prog Sl.v (Instr.buildSlice 24 2 [(0,(.int .i64 r)),(1,(.int .i64 r_1))].toArray) w (fun x15 w=>C1 w∧(Cl Tryz.prog 86 [(Sl.v x15)].toArray w (fun e w=>∃ (r_2:Int),e=.returned (.int .i64 r_2)∧(C1 w∧(Ret r_2 w))))))))))))))))))))))
set_option maxRecDepth 100000 in
theorem zOY (x0:zAB) (x1:zAB) (w:World) (Ret:Int→World→Prop) (H:zLd x0 x1 w Ret):Cl Tryz.prog 68 [(zAB.v x0),(zAB.v x1)].toArray w (fun e w'=>∃ (r0:Int),e=.returned (.int .i64 r0)∧Ret r0 w'):=by
 unfold zLd at H
 refine zAY 17 (zipE 0 [(zAB.v x0),(zAB.v x1)]) Tryz.func68 rfl rfl (by rfl) rfl ?_
 intro a g
 replace g:Sat [] 17 [(0,(zAB.v x0)),(1,(zAB.v x1))] a:=g
 refine zAF (zAA (g.op (zIm g rfl) H fun x2 w a H g=>(g.op (zIm g rfl) H fun x3 w a H g=>(g.as_ rfl fun _ g=>(zAG (tn (zAF (zTg H 13 fun C1 w hC0 H=>(g.ko 0 rfl hC0 (zAJ g rfl) H fun x5 a H g=>(g.ko 2 rfl hC0 (zAJ g rfl) H fun x7 a H g=>(g.ko 5 rfl hC0 (zAJ g rfl) H fun x10 a H g=>(g.ko 7 rfl hC0 (zAJ g rfl) H fun x12 a H g=>(g.ko 1 rfl hC0 (zAI g rfl) H fun x6 a H g=>(g.ko 3 rfl hC0 (zAI g rfl) H fun x8 a H g=>(g.ko 6 rfl hC0 (zAI g rfl) H fun x11 a H g=>(g.ko 8 rfl hC0 (zAI g rfl) H fun x13 a H g=>(WK.on 4 rfl ?_)))))))))))))))))
 intro K hK
 refine g.wcall (zAQ g ent48 rfl rfl) H fun e w H=>?_
 obtain ⟨r,rfl,H⟩:=H
 refine ⟨_,rfl,fun _ g=>(hK _ _ ⟨H.1,?_⟩)⟩
 have hC1:=H.1
 replace H:=H.2
 refine WK.on 9 rfl ?_
 intro K hK
 refine g.wcall (zAQ g ent87 rfl rfl) H fun e w H=>?_
 obtain ⟨r_1,rfl,H⟩:=H
 refine ⟨_,rfl,fun _ g=>(hK _ _ ⟨H.1,?_⟩)⟩
 have hC2:=H.1
 replace H:=H.2
 refine WK.on 10 rfl ?_
 intro K hK
 refine g.wop (zFI g rfl) H fun x15 w a H g=>hK _ _ ⟨H.1,?_⟩
 have hC3:=H.1
 replace H:=H.2
 refine WK.on 11 rfl ?_
 intro K hK
 refine g.wcall (zAQ g ent86 rfl rfl) H fun e w H=>?_
 obtain ⟨r_2,rfl,H⟩:=H
 refine ⟨_,rfl,fun _ g=>(hK _ _ ⟨H.1,?_⟩)⟩
 have hC4:=H.1
 replace H:=H.2
 exact g.kp 12 rfl hC4 (zEL (zEX g rfl)) fun _ g=>WK.nil (by kernel_rfl) ((tn (zAf (zAt g rfl rfl ⟨_,rfl,H⟩))))
def zG7 (Ret:Int→World→Prop) (r:Int) (x15:Bool) (w:World):Prop:=
 (x15=true→(Ret 9 w))∧(x15=false→(Ret r w))
def zLT (x0:zAH) (x1:Int) (w:World) (Ret:Int→World→Prop):Prop:=
 opE Tryz.prog Value.pointer (Instr.box 69 (zAH.v x0)) w (fun x2 w=>opE Tryz.prog zAH.v (Instr.loadAt 69 (.pointer x2)) w (fun x6 w=>Cl Tryz.prog 64 [(zAH.v x6)].toArray w (fun e w=>∃ (r:Int),e=.returned (.int .i64 r)∧(((r=0)→(opE Tryz.prog Value.pointer (Instr.fieldAt 69 (.pointer x2) 1) w (fun x12 w=>opE Tryz.prog (Value.int .u64) (Instr.loadAt 37 (.pointer x12)) w (fun x13 w=>zG7 Ret r (decide (x1<x13)) w))))∧(¬ (r=0)→(zG7 Ret r false w))))))
set_option maxRecDepth 100000 in
theorem zOW (x0:zAH) (x1:Int) (w:World) (Ret:Int→World→Prop) (H:zLT x0 x1 w Ret):Cl Tryz.prog 69 [(zAH.v x0),(.int .u64 x1)].toArray w (fun e w'=>∃ (r0:Int),e=.returned (.int .i64 r0)∧Ret r0 w'):=by
 unfold zLT at H
 refine zAY 17 (zipE 0 [(zAH.v x0),(.int .u64 x1)]) Tryz.func69 rfl rfl (by rfl) rfl ?_
 intro a g
 replace g:Sat [] 17 [(0,(zAH.v x0)),(1,(.int .u64 x1))] a:=g
 refine zAF (zAA (g.op (zIm g rfl) H fun x2 w a H g=>(g.as_ rfl fun _ g=>(zAG (tn (zAF (zAA (g.op (zAI g rfl) H fun x6 w a H g=>(g.call (zAQ g ent64 rfl rfl) H fun e w H=>?_)))))))))
 obtain ⟨r,rfl,H⟩:=H
 refine ⟨_,rfl,fun _ g=>(g.as_ rfl fun _ g=>(zAG (tn (zAF (zAF (zAA (g.mv rfl fun _ g=>(g.pur (zGX g rfl rfl) fun _ g=>(g.mv rfl fun _ g=>(WL.join (ds:=[]) (N:=17) (σ:=Bool) (fun s=>[(15,(.bool s)),(5,(.int .i64 r))]) (fun s w=>zG7 Ret r s w) 5 ?_ (fun hr1=>?_)))))))))))⟩
 ·intro x15 w a H g
  try dsimp only at H g
  unfold zG7 at H
  refine zAG (tn (zAV g rfl (fun hc=>?_) (fun hc=>?_)))
  ·replace H:=H.1 hc
   exact zAF (zAA (g.as_ rfl fun _ g=>(zAG (tn (zAf (tr (zAt g rfl rfl ⟨_,rfl,H⟩)))))))
  ·replace H:=H.2 hc
   exact zAP (tn (zAF (zAA (g.mv rfl fun _ g=>(g.as_ rfl fun _ g=>(zAG (tn (zAf (zAt g rfl rfl ⟨_,rfl,H⟩)))))))))
 ·rcases Classical.em ((r=0)) with hbr1|hbr1
  ·replace H:=H.1 hbr1
   replace g:=g.bool (b:=true) (t:=10) rfl (decide_eq_true hbr1)
   exact g.on (by rfl) (by rfl) (g.mv rfl fun _ g=>(g.on (by rfl) (by rfl) (g.op (zAJ g rfl) H fun x12 w a H g=>(g.on (by rfl) (by rfl) (g.op (zAI g rfl) H fun x13 w a H g=>(g.on (by rfl) (by rfl) (g.pur (zDp g rfl rfl) fun _ g=>(g.pur (zAj g rfl rfl) fun _ g=>(hr1 (decide (x1<x13)) _ _ H (g.weak ⟨rfl,rfl,trivial⟩))))))))))
  ·replace H:=H.2 hbr1
   replace g:=g.bool (b:=false) (t:=10) rfl (decide_eq_false hbr1)
   exact g.off (by rfl) (by rfl) (by decide) (fun _ g=>(g.off (by rfl) (by rfl) (by decide) (fun _ g=>(g.off (by rfl) (by rfl) (by decide) (fun _ g=>(g.off (by rfl) (by rfl) (by decide) (fun _ g=>(g.pur (zAi g rfl rfl) fun _ g=>(hr1 false _ _ H (g.weak ⟨rfl,rfl,trivial⟩))))))))))
def zGE (x0:Sl) (Ret:zAB→Bool→World→Prop) (x6:Option Addr) (x8:Int) (x32:Bool) (w:World):Prop:=
 (x32=true→(opE Tryz.prog zAB.v (Instr.build 72 [].toArray) w (fun x33 w=>opU Tryz.prog (Instr.storeAt 72 (.pointer x6) (zAB.v x33)) w (fun w=>opR Tryz.prog zAB.v 72 x6 w (fun q=>Ret q false w)))))∧(x32=false→(opE Tryz.prog Value.pointer (Instr.indexAt 67 (Sl.v x0) (.int .i64 x8)) w (fun x36 w=>opE Tryz.prog zAB.v (Instr.loadAt 72 (.pointer x36)) w (fun x37 w=>opU Tryz.prog (Instr.storeAt 72 (.pointer x6) (zAB.v x37)) w (fun w=>opR Tryz.prog zAB.v 72 x6 w (fun q_1=>Ret q_1 true w))))))
def zHT (x0:Sl) (x1:ByteArray) (Ret:zAB→Bool→World→Prop) (x6:Option Addr) (x8:Int) (w:World):Prop:=
 ((x8<0)→(zGE x0 Ret x6 x8 true w))∧(¬ (x8<0)→(opE Tryz.prog Value.pointer (Instr.indexAt 67 (Sl.v x0) (.int .i64 x8)) w (fun x27 w=>opE Tryz.prog Value.pointer (Instr.fieldAt 72 (.pointer x27) 0) w (fun x28 w=>opE Tryz.prog Value.string (Instr.loadAt 9 (.pointer x28)) w (fun x29 w=>zGE x0 Ret x6 x8 (decide (x29≠x1)) w)))))
def zL5 (x0:Sl) (x1:ByteArray) (x2:Int) (w:World) (Ret:zAB→Bool→World→Prop):Prop:=
 opE Tryz.prog Value.pointer (Instr.alloc 72 true (.tuple #[])) w (fun x6 w=>opE Tryz.prog zAB.v (Instr.build 72 [(0,(.string x1)),(1,(.int .u64 x2))].toArray) w (fun x14 w=>Cl Tryz.prog 89 [(Sl.v x0),(zAB.v x14),(.func (.func 68) #[] #[])].toArray w (fun e w=>∃ (r:Int) (r_1:Bool),e=.returned (.tuple [(.int .i64 r),(.bool r_1)].toArray)∧(((!r_1)=true→(zHT x0 x1 Ret x6 (IntKind.wrap .i64 (r - 1)) w))∧((!r_1)=false→(zHT x0 x1 Ret x6 r w))))))
set_option maxRecDepth 100000 in
theorem zPL (x0:Sl) (x1:ByteArray) (x2:Int) (w:World) (Ret:zAB→Bool→World→Prop) (H:zL5 x0 x1 x2 w Ret):Cl Tryz.prog 71 [(Sl.v x0),(.string x1),(.int .u64 x2)].toArray w (fun e w'=>∃ (r0:zAB) (r1:Bool),e=.returned (.tuple [(zAB.v r0),(.bool r1)].toArray)∧Ret r0 r1 w'):=by
 unfold zL5 at H
 refine zAY 38 (zipE 0 [(Sl.v x0),(.string x1),(.int .u64 x2)]) Tryz.func71 rfl rfl (by rfl) rfl ?_
 intro a g
 replace g:Sat [] 38 [(0,(Sl.v x0)),(1,(.string x1)),(2,(.int .u64 x2))] a:=g
 refine zAF (zAA (g.op (zEH) H fun x6 w a H g=>(g.as_ rfl fun _ g=>(zAG (tn (zAF (zAA (g.mv rfl fun _ g=>(g.mv rfl fun _ g=>(g.mv rfl fun _ g=>(g.op (zGM g rfl) H fun x14 w a H g=>(g.call (zAQ g ent89 rfl rfl) H fun e w H=>?_))))))))))))
 obtain ⟨r,r_1,rfl,H⟩:=H
 refine ⟨_,rfl,fun _ g=>(g.mv rfl fun _ g=>(g.pur (zAO g rfl rfl) fun _ g=>(g.pur (zAO g rfl rfl) fun _ g=>(g.as_ rfl fun _ g=>(g.as_ rfl fun _ g=>(zAG (tn (zBG (ds:=[]) (N:=38) (σ:=Int) (fun s=>[(8,(.int .i64 s)),(0,(Sl.v x0)),(1,(.string x1)),(6,(.pointer x6))]) (fun s w=>zHT x0 x1 Ret x6 s w) ?_ (fun hj1=>?_)))))))))⟩
 ·intro x8 w a H g
  try dsimp only at H g
  unfold zHT at H
  refine zAF (zAF (zAA (g.mv rfl fun _ g=>(g.pur (zDp g rfl rfl) fun _ g=>(g.mv rfl fun _ g=>(WL.join (ds:=[]) (N:=38) (σ:=Bool) (fun s=>[(32,(.bool s)),(0,(Sl.v x0)),(6,(.pointer x6)),(8,(.int .i64 x8))]) (fun s w=>zGE x0 Ret x6 x8 s w) 8 ?_ (fun hr2=>?_)))))))
  ·intro x32 w a H g
   try dsimp only at H g
   unfold zGE at H
   refine zAG (tn (zAV g rfl (fun hc=>?_) (fun hc=>?_)))
   ·replace H:=H.1 hc
    refine zAF (zAA (g.op (zGM g rfl) H fun x33 w a H g=>(g.opu (zAM g rfl rfl) H fun w a H g=>(g.as_ rfl fun _ g=>(zAG (tn ?_))))))
    obtain ⟨q,ad,hp,hl,H⟩:=H
    exact zAf (tr (zOs g (rs:=[.cell 6 72,.tmp 7]) (vs:=[(zAB.v q),(.bool false)]) rfl ⟨⟨ad,by rw [← hp];rfl,hl⟩,rfl,trivial⟩ ⟨_,_,rfl,H⟩))
   ·replace H:=H.2 hc
    refine zAP (tn (zAF (zAA (g.mv rfl fun _ g=>(g.mv rfl fun _ g=>(g.op (zAC g rfl rfl) H fun x36 w a H g=>(g.op (zAI g rfl) H fun x37 w a H g=>(g.opu (zAM g rfl rfl) H fun w a H g=>(g.as_ rfl fun _ g=>(zAG (tn ?_)))))))))))
    obtain ⟨q_1,ad_1,hp_1,hl_1,H⟩:=H
    exact zAf (zOs g (rs:=[.cell 6 72,.tmp 7]) (vs:=[(zAB.v q_1),(.bool true)]) rfl ⟨⟨ad_1,by rw [← hp_1];rfl,hl_1⟩,rfl,trivial⟩ ⟨_,_,rfl,H⟩)
  ·rcases Classical.em ((x8<0)) with hbr2|hbr2
   ·replace H:=H.1 hbr2
    replace g:=g.bool (b:=true) (t:=24) rfl (decide_eq_true hbr2)
    exact g.off (by rfl) (by rfl) (by decide) (fun _ g=>(g.off (by rfl) (by rfl) (by decide) (fun _ g=>(g.off (by rfl) (by rfl) (by decide) (fun _ g=>(g.off (by rfl) (by rfl) (by decide) (fun _ g=>(g.off (by rfl) (by rfl) (by decide) (fun _ g=>(g.off (by rfl) (by rfl) (by decide) (fun _ g=>(g.off (by rfl) (by rfl) (by decide) (fun _ g=>(g.pur (zAj g rfl rfl) fun _ g=>(hr2 true _ _ H (g.weak ⟨rfl,rfl,rfl,rfl,trivial⟩))))))))))))))))
   ·replace H:=H.2 hbr2
    replace g:=g.bool (b:=false) (t:=24) rfl (decide_eq_false hbr2)
    exact g.on (by rfl) (by rfl) (g.mv rfl fun _ g=>(g.on (by rfl) (by rfl) (g.mv rfl fun _ g=>(g.on (by rfl) (by rfl) (g.op (zAC g rfl rfl) H fun x27 w a H g=>(g.on (by rfl) (by rfl) (g.op (zAJ g rfl) H fun x28 w a H g=>(g.on (by rfl) (by rfl) (g.op (zAI g rfl) H fun x29 w a H g=>(g.on (by rfl) (by rfl) (g.mv rfl fun _ g=>(g.on (by rfl) (by rfl) (g.pur (zS8 g rfl rfl) fun _ g=>(g.pur (zAi g rfl rfl) fun _ g=>(hr2 (decide (x29≠x1)) _ _ H (g.weak ⟨rfl,rfl,rfl,rfl,trivial⟩))))))))))))))))
 ·refine zAF (zAA (g.mv rfl fun _ g=>(g.pur (zGp g rfl) fun _ g=>(zAG (tn (zAV g rfl (fun hc=>?_) (fun hc=>?_)))))))
  ·replace H:=H.1 hc
   exact zAA (g.mv rfl fun _ g=>(g.pur (zAv g rfl rfl) fun _ g=>(g.as_ rfl fun _ g=>(zAG (tn (hj1 (IntKind.wrap .i64 (r - 1)) _ _ H (g.weak ⟨rfl,rfl,rfl,rfl,trivial⟩)))))))
  ·replace H:=H.2 hc
   exact zAP (tn (hj1 r _ _ H (g.weak ⟨rfl,rfl,rfl,rfl,trivial⟩)))
def zHe (x0:ByteArray) (w:World) (Ret:Bool→World→Prop):Prop:=
 Ret (decide (x0≠x0)) w
set_option maxRecDepth 100000 in
theorem zKT (x0:ByteArray) (w:World) (Ret:Bool→World→Prop) (H:zHe x0 w Ret):Cl Tryz.prog 74 [(.string x0)].toArray w (fun e w'=>∃ (r0:Bool),e=.returned (.bool r0)∧Ret r0 w'):=by
 unfold zHe at H
 refine zAY 6 (zipE 0 [(.string x0)]) Tryz.func74 rfl rfl (by rfl) rfl ?_
 intro a g
 replace g:Sat [] 6 [(0,(.string x0))] a:=g
 exact zAF (zAA (g.as_ rfl fun _ g=>(zAG (tn (zAF (zAA (g.mv rfl fun _ g=>(g.mv rfl fun _ g=>(g.pur (zS8 g rfl rfl) fun _ g=>(g.as_ rfl fun _ g=>(zAG (tn (zAf (zAt g rfl rfl ⟨_,rfl,H⟩))))))))))))))
def zBO (x0:Sl) (x1:Value) (Ret:Int→World→Prop) (x8:Int) (w:World) (Kl1:Int→World→Prop):Prop:=
 ((x8<(x0.len:Int))→(opE Tryz.prog Value.pointer (Instr.indexAt 67 (Sl.v x0) (.int .i64 x8)) w (fun x14 w=>opE Tryz.prog zAB.v (Instr.loadAt 72 (.pointer x14)) w (fun x15 w=>CallV Tryz.prog x1 [(zAB.v x15)] w (fun e w=>∃ (r:Bool),e=.returned (.bool r)∧((r=true→(Ret x8 w))∧(r=false→(Kl1 (IntKind.wrap .i64 (x8+1)) w))))))))∧(¬ (x8<(x0.len:Int))→(Ret (-1) w))
def zDX (x0:Sl) (x1:Value) (w:World) (Ret:Int→World→Prop):Prop:=
 ∃ (I:Int→World→Prop) (μ:Int→World→Nat),I 0 w∧∀ (x8:Int) w,I x8 w→zBO x0 x1 Ret x8 w (fun x8' w'=>I x8' w'∧μ x8' w'<μ x8 w)
set_option maxRecDepth 100000 in
theorem zFT (x0:Sl) (x1:Value) (w:World) (Ret:Int→World→Prop) (H:zDX x0 x1 w Ret):Cl Tryz.prog 78 [(Sl.v x0),x1].toArray w (fun e w'=>∃ (r0:Int),e=.returned (.int .i64 r0)∧Ret r0 w'):=by
 unfold zDX at H
 refine zAY 19 (zipE 0 [(Sl.v x0),x1]) Tryz.func78 rfl rfl (by rfl) rfl ?_
 intro a g
 replace g:Sat [] 19 [(0,(Sl.v x0)),(1,x1)] a:=g
 refine zAF (zAA (g.as_ rfl fun _ g=>(zAG (tn (zAF (zAF (zAA (g.mv rfl fun _ g=>(g.purR (fun w=>zGm g Tryz.underlying67 rfl) fun _ g=>(g.mv rfl fun _ g=>(zAG (tn (zAN ?_)))))))))))))
 obtain ⟨I_l1,μ_l1,h0,hb⟩:=H
 refine zBl (ds:=[]) (N:=19) (σ:=Int) (fun s=>[(8,(.int .i64 s)),(0,(Sl.v x0)),(1,x1),(7,(.int .i64 (x0.len:Int)))]) (fun s w=>I_l1 s w) (fun s w=>μ_l1 s w) 0 h0 (g.weak ⟨rfl,rfl,rfl,rfl,trivial⟩) ?_
 intro x8 w a hI g
 try dsimp only at hI g
 obtain ⟨Kl1,hK_l1⟩:∃ K:Int→World→Prop,K=(fun x8' w'=>I_l1 x8' w'∧μ_l1 x8' w'<μ_l1 x8 w):=⟨_,rfl⟩
 have H:zBO x0 x1 Ret x8 w Kl1:=by rw [hK_l1];exact hb x8 w hI
 clear hb h0 hI
 unfold zBO at H
 refine zAF (zAA (g.pur (zDp g rfl rfl) fun _ g=>(zAG (tn (zAF (zAR g rfl (fun hc=>?_) (fun hc=>?_)))))))
 ·replace H:=H.1 hc
  refine zAP (tn (zAF (zAN (zAF (zAA (g.mv rfl fun _ g=>(g.as_ rfl fun _ g=>(zAG (tn (zAF (zAA (g.mv rfl fun _ g=>(g.mv rfl fun _ g=>(g.mv rfl fun _ g=>(g.op (zAC g rfl rfl) H fun x14 w a H g=>(g.op (zAI g rfl) H fun x15 w a H g=>(g.callV rfl rfl H fun e w H=>?_)))))))))))))))))
  obtain ⟨r,rfl,H⟩:=H
  refine ⟨_,rfl,fun _ g=>(zAG (tn (zAV g rfl (fun hc=>?_) (fun hc=>?_))))⟩
  ·replace H:=H.1 hc
   exact zAF (zAA (g.mv rfl fun _ g=>(g.as_ rfl fun _ g=>(zAG (tn (zAf (br (tr (tr (br (tr (zAt g rfl rfl ⟨_,rfl,H⟩))))))))))))
  ·replace H:=H.2 hc
   refine zAP (bn (tn (zAA (g.pur (zAn g rfl rfl) fun _ g=>(g.mv rfl fun _ g=>?_)))))
   rw [hK_l1] at H
   exact zAG (tn ⟨(IntKind.wrap .i64 (x8+1)),g.weak ⟨rfl,rfl,rfl,rfl,trivial⟩,H⟩)
 ·replace H:=H.2 hc
  exact zBJ (te (te (be (tn (zAF (zAA (g.as_ rfl fun _ g=>(zAG (tn (zAf (zAt g rfl rfl ⟨_,rfl,H⟩)))))))))))
def zEO (x0:Sl) (x1:Value) (w:World) (Ret:Bool→World→Prop):Prop:=
 Cl Tryz.prog 104 [(Sl.v x0),x1].toArray w (fun e w=>∃ (r:Int),e=.returned (.int .i64 r)∧(Ret (decide (0≤r)) w))
set_option maxRecDepth 100000 in
theorem zHJ (x0:Sl) (x1:Value) (w:World) (Ret:Bool→World→Prop) (H:zEO x0 x1 w Ret):Cl Tryz.prog 83 [(Sl.v x0),x1].toArray w (fun e w'=>∃ (r0:Bool),e=.returned (.bool r0)∧Ret r0 w'):=by
 unfold zEO at H
 refine zAY 9 (zipE 0 [(Sl.v x0),x1]) Tryz.func83 rfl rfl (by rfl) rfl ?_
 intro a g
 replace g:Sat [] 9 [(0,(Sl.v x0)),(1,x1)] a:=g
 refine zAF (zAA (g.as_ rfl fun _ g=>(zAG (tn (zAF (zAA (g.mv rfl fun _ g=>(g.mv rfl fun _ g=>(g.call (zAQ g zT9 rfl rfl) H fun e w H=>?_)))))))))
 obtain ⟨r,rfl,H⟩:=H
 exact ⟨_,rfl,fun _ g=>(g.pur (zF7 g rfl rfl) fun _ g=>(g.as_ rfl fun _ g=>(zAG (tn (zAf (zAt g rfl rfl ⟨_,rfl,H⟩))))))⟩
def zG8 (Ret:Bool→World→Prop) (x12:Bool) (w:World):Prop:=
 Ret x12 w
def zKp (x0:zAD) (w:World) (Ret:Bool→World→Prop):Prop:=
 opE Tryz.prog Value.pointer (Instr.box 34 (zAD.v x0)) w (fun x1 w=>opE Tryz.prog Value.pointer (Instr.fieldAt 34 (.pointer x1) 0) w (fun x3 w=>opE Tryz.prog Value.string (Instr.loadAt 9 (.pointer x3)) w (fun x4 w=>((256<(x4.size:Int))→(zG8 Ret true w))∧(¬ (256<(x4.size:Int))→(opE Tryz.prog Value.pointer (Instr.fieldAt 34 (.pointer x1) 1) w (fun x8 w=>opE Tryz.prog Value.string (Instr.loadAt 9 (.pointer x8)) w (fun x9 w=>zG8 Ret (decide (512<(x9.size:Int))) w)))))))
set_option maxRecDepth 100000 in
theorem zNX (x0:zAD) (w:World) (Ret:Bool→World→Prop) (H:zKp x0 w Ret):Cl Tryz.prog 84 [(zAD.v x0)].toArray w (fun e w'=>∃ (r0:Bool),e=.returned (.bool r0)∧Ret r0 w'):=by
 unfold zKp at H
 refine zAY 13 (zipE 0 [(zAD.v x0)]) Tryz.func84 rfl rfl (by rfl) rfl ?_
 intro a g
 replace g:Sat [] 13 [(0,(zAD.v x0))] a:=g
 refine zAF (zAA (g.op (zIm g rfl) H fun x1 w a H g=>(g.as_ rfl fun _ g=>(zAG (tn (zAF (zAA (g.op (zAJ g rfl) H fun x3 w a H g=>(g.op (zAI g rfl) H fun x4 w a H g=>(g.purR (fun w=>zMn g Tryz.underlying9 rfl) fun _ g=>(g.pur (zIG g rfl rfl) fun _ g=>(g.mv rfl fun _ g=>(WL.join (ds:=[]) (N:=13) (σ:=Bool) (fun s=>[(12,(.bool s))]) (fun s w=>zG8 Ret s w) 5 ?_ (fun hr1=>?_))))))))))))))
 ·intro x12 w a H g
  try dsimp only at H g
  unfold zG8 at H
  exact g.as_ rfl fun _ g=>zAG (tn (zAf (zAt g rfl rfl ⟨_,rfl,H⟩)))
 ·rcases Classical.em ((256<(x4.size:Int))) with hbr1|hbr1
  ·replace H:=H.1 hbr1
   replace g:=g.bool (b:=true) (t:=7) rfl (decide_eq_true hbr1)
   exact g.off (by rfl) (by rfl) (by decide) (fun _ g=>(g.off (by rfl) (by rfl) (by decide) (fun _ g=>(g.off (by rfl) (by rfl) (by decide) (fun _ g=>(g.off (by rfl) (by rfl) (by decide) (fun _ g=>(g.pur (zAj g rfl rfl) fun _ g=>(hr1 true _ _ H (g.weak ⟨rfl,trivial⟩))))))))))
  ·replace H:=H.2 hbr1
   replace g:=g.bool (b:=false) (t:=7) rfl (decide_eq_false hbr1)
   exact g.on (by rfl) (by rfl) (g.op (zAJ g rfl) H fun x8 w a H g=>(g.on (by rfl) (by rfl) (g.op (zAI g rfl) H fun x9 w a H g=>(g.on (by rfl) (by rfl) (g.purR (fun w=>zMn g Tryz.underlying9 rfl) fun _ g=>(g.on (by rfl) (by rfl) (g.pur (zIG g rfl rfl) fun _ g=>(g.pur (zAi g rfl rfl) fun _ g=>(hr1 (decide (512<(x9.size:Int))) _ _ H (g.weak ⟨rfl,trivial⟩))))))))))
def zI2 (x0:Sl) (Ret:Int→World→Prop) (x8:Int) (w:World) (Kl1:Int→World→Prop):Prop:=
 ((x8<(x0.len:Int))→(opE Tryz.prog Value.pointer (Instr.indexAt 24 (Sl.v x0) (.int .i64 x8)) w (fun x10 w=>opE Tryz.prog (Value.int .i64) (Instr.loadAt 3 (.pointer x10)) w (fun x11 w=>((x11≠0)→(Ret x11 w))∧(¬ (x11≠0)→(Kl1 (IntKind.wrap .i64 (x8+1)) w))))))∧(¬ (x8<(x0.len:Int))→(Ret 0 w))
def zLV (x0:Sl) (w:World) (Ret:Int→World→Prop):Prop:=
 ∃ (I:Int→World→Prop) (μ:Int→World→Nat),I 0 w∧∀ (x8:Int) w,I x8 w→zI2 x0 Ret x8 w (fun x8' w'=>I x8' w'∧μ x8' w'<μ x8 w)
set_option maxRecDepth 100000 in
theorem zOK (x0:Sl) (w:World) (Ret:Int→World→Prop) (H:zLV x0 w Ret):Cl Tryz.prog 86 [(Sl.v x0)].toArray w (fun e w'=>∃ (r0:Int),e=.returned (.int .i64 r0)∧Ret r0 w'):=by
 unfold zLV at H
 refine zAY 18 (zipE 0 [(Sl.v x0)]) Tryz.func86 rfl rfl (by rfl) rfl ?_
 intro a g
 replace g:Sat [] 18 [(0,(Sl.v x0))] a:=g
 refine zAF (zAA (g.as_ rfl fun _ g=>(zAG (tn (zAF (zAA (g.as_ rfl fun _ g=>(zAG (tn (zAF (zAF (zAA (g.mv rfl fun _ g=>(g.purR (fun w=>zGm g Tryz.underlying24 rfl) fun _ g=>(g.mv rfl fun _ g=>(zAG (tn (zAN ?_))))))))))))))))))
 obtain ⟨I_l1,μ_l1,h0,hb⟩:=H
 refine zBl (ds:=[]) (N:=18) (σ:=Int) (fun s=>[(8,(.int .i64 s)),(3,(.int .i64 0)),(6,(Sl.v x0)),(7,(.int .i64 (x0.len:Int)))]) (fun s w=>I_l1 s w) (fun s w=>μ_l1 s w) 0 h0 (g.weak ⟨rfl,rfl,rfl,rfl,trivial⟩) ?_
 intro x8 w a hI g
 try dsimp only at hI g
 obtain ⟨Kl1,hK_l1⟩:∃ K:Int→World→Prop,K=(fun x8' w'=>I_l1 x8' w'∧μ_l1 x8' w'<μ_l1 x8 w):=⟨_,rfl⟩
 have H:zI2 x0 Ret x8 w Kl1:=by rw [hK_l1];exact hb x8 w hI
 clear hb h0 hI
 unfold zI2 at H
 refine zAF (zAA (g.pur (zDp g rfl rfl) fun _ g=>(zAG (tn (zAF (zAR g rfl (fun hc=>?_) (fun hc=>?_)))))))
 ·replace H:=H.1 hc
  refine zAP (tn (zAF (zAN (zAF (zAA (g.op (zAC g rfl rfl) H fun x10 w a H g=>(g.op (zAI g rfl) H fun x11 w a H g=>(g.as_ rfl fun _ g=>(zAG (tn (zAF (zAA (g.mv rfl fun _ g=>(g.mv rfl fun _ g=>(g.pur (zLw g rfl rfl) fun _ g=>(zAG (tn (zAR g rfl (fun hc=>?_) (fun hc=>?_)))))))))))))))))))
  ·replace H:=H.1 hc
   exact zAF (zAA (g.mv rfl fun _ g=>(g.as_ rfl fun _ g=>(zAG (tn (zAf (br (tr (tr (br (tr (zAt g rfl rfl ⟨_,rfl,H⟩))))))))))))
  ·replace H:=H.2 hc
   refine zAP (bn (tn (zAA (g.pur (zAn g rfl rfl) fun _ g=>(g.mv rfl fun _ g=>?_)))))
   rw [hK_l1] at H
   exact zAG (tn ⟨(IntKind.wrap .i64 (x8+1)),g.weak ⟨rfl,rfl,rfl,rfl,trivial⟩,H⟩)
 ·replace H:=H.2 hc
  exact zBJ (te (te (be (tn (zAF (zAA (g.mv rfl fun _ g=>(g.as_ rfl fun _ g=>(zAG (tn (zAf (zAt g rfl rfl ⟨_,rfl,H⟩))))))))))))
def zIg (x0:Int) (x1:Int) (w:World) (Ret:Int→World→Prop):Prop:=
 Cl Tryz.prog 113 [(.int .u64 x0)].toArray w (fun e w=>∃ (r:Bool),e=.returned (.bool r)∧(Cl Tryz.prog 113 [(.int .u64 x1)].toArray w (fun e w=>∃ (r_1:Bool),e=.returned (.bool r_1)∧((r=true→((r_1=true→(Ret 0 w))∧(r_1=false→(Ret (-1) w))))∧(r=false→((r_1=true→(Ret 1 w))∧(r_1=false→(((x0<x1)→(Ret (-1) w))∧(¬ (x0<x1)→(((x1<x0)→(Ret 1 w))∧(¬ (x1<x0)→(Ret 0 w))))))))))))
set_option maxRecDepth 100000 in
theorem zLM (x0:Int) (x1:Int) (w:World) (Ret:Int→World→Prop) (H:zIg x0 x1 w Ret):Cl Tryz.prog 87 [(.int .u64 x0),(.int .u64 x1)].toArray w (fun e w'=>∃ (r0:Int),e=.returned (.int .i64 r0)∧Ret r0 w'):=by
 unfold zIg at H
 refine zAY 20 (zipE 0 [(.int .u64 x0),(.int .u64 x1)]) Tryz.func87 rfl rfl (by rfl) rfl ?_
 intro a g
 replace g:Sat [] 20 [(0,(.int .u64 x0)),(1,(.int .u64 x1))] a:=g
 refine zAF (zAA (g.as_ rfl fun _ g=>(zAG (tn (zAF (zAA (g.mv rfl fun _ g=>(g.call (zAQ g zSo rfl rfl) H fun e w H=>?_))))))))
 obtain ⟨r,rfl,H⟩:=H
 refine ⟨_,rfl,fun _ g=>(g.as_ rfl fun _ g=>(zAG (tn (zAF (zAA (g.mv rfl fun _ g=>(g.call (zAQ g zSo rfl rfl) H fun e w H=>?_)))))))⟩
 obtain ⟨r_1,rfl,H⟩:=H
 refine ⟨_,rfl,fun _ g=>(g.as_ rfl fun _ g=>(zAG (tn (zAF (zAF (zAA (g.mv rfl fun _ g=>(zAG (tn (zAV g rfl (fun hc=>?_) (fun hc=>?_)))))))))))⟩
 ·replace H:=H.1 hc
  refine zAF (zAF (zAA (g.mv rfl fun _ g=>(zAG (tn (zAV g rfl (fun hc=>?_) (fun hc=>?_)))))))
  ·replace H:=H.1 hc
   exact zAF (zAA (g.as_ rfl fun _ g=>(zAG (tn (zAf (tr (tr (zAt g rfl rfl ⟨_,rfl,H⟩))))))))
  ·replace H:=H.2 hc
   exact zAP (tn (zAF (zAA (g.as_ rfl fun _ g=>(zAG (tn (zAf (tr (zAt g rfl rfl ⟨_,rfl,H⟩)))))))))
 ·replace H:=H.2 hc
  refine zAP (tn (zAF (zAF (zAA (g.mv rfl fun _ g=>(zAG (tn (zAV g rfl (fun hc=>?_) (fun hc=>?_)))))))))
  ·replace H:=H.1 hc
   exact zAF (zAA (g.as_ rfl fun _ g=>(zAG (tn (zAf (tr (zAt g rfl rfl ⟨_,rfl,H⟩)))))))
  ·replace H:=H.2 hc
   refine zAP (tn (zAF (zAF (zAA (g.mv rfl fun _ g=>(g.mv rfl fun _ g=>(g.pur (zDp g rfl rfl) fun _ g=>(zAG (tn (zAR g rfl (fun hc=>?_) (fun hc=>?_)))))))))))
   ·replace H:=H.1 hc
    exact zAF (zAA (g.as_ rfl fun _ g=>(zAG (tn (zAf (tr (zAt g rfl rfl ⟨_,rfl,H⟩)))))))
   ·replace H:=H.2 hc
    refine zAP (tn (zAF (zAF (zAA (g.mv rfl fun _ g=>(g.mv rfl fun _ g=>(g.pur (zIG g rfl rfl) fun _ g=>(zAG (tn (zAR g rfl (fun hc=>?_) (fun hc=>?_)))))))))))
    ·replace H:=H.1 hc
     exact zAF (zAA (g.as_ rfl fun _ g=>(zAG (tn (zAf (tr (zAt g rfl rfl ⟨_,rfl,H⟩)))))))
    ·replace H:=H.2 hc
     exact zAP (tn (zAF (zAA (g.as_ rfl fun _ g=>(zAG (tn (zAf (zAt g rfl rfl ⟨_,rfl,H⟩))))))))
def zAs (Ret:Int→Bool→World→Prop) (x9:Int) (x48:Bool) (w:World):Prop:=
 nextB w (fun w=>Ret x9 x48 w)
def zAo (x0:Sl) (x2:Value) (Ret:Int→Bool→World→Prop) (x4:Option Addr) (x9:Int) (x10:Int) (w:World) (Kl1:Int→Int→World→Prop):Prop:=
 ((x9<x10)→(opE Tryz.prog (Value.int .u64) (Go.convert 3 143 (.int .i64 (IntKind.wrap .i64 (x9+x10)))) w (fun x21 w=>opE Tryz.prog (Value.int .u64) (binOp .shr 143 (.int .u64 x21) (.int .u64 1)) w (fun x22 w=>opE Tryz.prog (Value.int .i64) (Go.convert 143 3 (.int .u64 x22)) w (fun x23 w=>opB Tryz.prog Value.pointer (Instr.indexAt 67 (Sl.v x0) (.int .i64 x23)) w (fun x27=>opB Tryz.prog zAB.v (Instr.loadAt 72 (.pointer x27)) w (fun x28=>opB Tryz.prog zAB.v (Instr.loadAt 72 (.pointer x4)) w (fun x29=>∃ (r:Int),CallQ Tryz.prog x2 [(zAB.v x28),(zAB.v x29)] w (.int .i64 r)∧(nextB w (fun w=>((r<0)→(Kl1 (IntKind.wrap .i64 (x23+1)) x10 w))∧(¬ (r<0)→(Kl1 x9 x23 w))))))))))))∧(¬ (x9<x10)→(((x9<(x0.len:Int))→(opB Tryz.prog Value.pointer (Instr.indexAt 67 (Sl.v x0) (.int .i64 x9)) w (fun x43=>opB Tryz.prog zAB.v (Instr.loadAt 72 (.pointer x43)) w (fun x44=>opB Tryz.prog zAB.v (Instr.loadAt 72 (.pointer x4)) w (fun x45=>∃ (r_1:Int),CallQ Tryz.prog x2 [(zAB.v x44),(zAB.v x45)] w (.int .i64 r_1)∧(zAs Ret x9 (decide (r_1=0)) w))))))∧(¬ (x9<(x0.len:Int))→(zAs Ret x9 false w))))
def zCA (x0:Sl) (x1:zAB) (x2:Value) (w:World) (Ret:Int→Bool→World→Prop):Prop:=
 opE Tryz.prog Value.pointer (Instr.box 72 (zAB.v x1)) w (fun x4 w=>∃ (I:Int→Int→World→Prop) (μ:Int→Int→World→Nat),I 0 (x0.len:Int) w∧∀ (x9:Int) (x10:Int) w,I x9 x10 w→zAo x0 x2 Ret x4 x9 x10 w (fun x9' x10' w'=>I x9' x10' w'∧μ x9' x10' w'<μ x9 x10 w))
set_option maxRecDepth 100000 in
theorem zFc (x0:Sl) (x1:zAB) (x2:Value) (w:World) (Ret:Int→Bool→World→Prop) (H:zCA x0 x1 x2 w Ret):Cl Tryz.prog 89 [(Sl.v x0),(zAB.v x1),x2].toArray w (fun e w'=>∃ (r0:Int) (r1:Bool),e=.returned (.tuple [(.int .i64 r0),(.bool r1)].toArray)∧Ret r0 r1 w'):=by
 unfold zCA at H
 refine zAY 49 (zipE 0 [(Sl.v x0),(zAB.v x1),x2]) Tryz.func89 rfl rfl (by rfl) rfl ?_
 intro a g
 replace g:Sat [] 49 [(0,(Sl.v x0)),(1,(zAB.v x1)),(2,x2)] a:=g
 refine zAF (zAA (g.op (zIm g rfl) H fun x4 w a H g=>(g.as_ rfl fun _ g=>(g.as_ rfl fun _ g=>(zAG (tn (zAF (zAA (g.mv rfl fun _ g=>(g.purR (fun w=>zGm g Tryz.underlying67 rfl) fun _ g=>(g.as_ rfl fun _ g=>(zAG (tn (zAF (zAA (g.mv rfl fun _ g=>(g.as_ rfl fun _ g=>(g.as_ rfl fun _ g=>(zAG (tn (zAF (zAN ?_))))))))))))))))))))))
 obtain ⟨I_l1,μ_l1,h0,hb⟩:=H
 refine zBl (ds:=[]) (N:=49) (σ:=Int × Int) (fun s=>[(9,(.int .i64 s.1)),(10,(.int .i64 s.2)),(0,(Sl.v x0)),(2,x2),(4,(.pointer x4)),(8,(.int .i64 (x0.len:Int)))]) (fun s w=>I_l1 s.1 s.2 w) (fun s w=>μ_l1 s.1 s.2 w) (0,(x0.len:Int)) h0 (g.weak ⟨rfl,rfl,rfl,rfl,rfl,rfl,trivial⟩) ?_
 rintro ⟨x9,x10⟩ w a hI g
 try dsimp only at hI g
 obtain ⟨Kl1,hK_l1⟩:∃ K:Int→Int→World→Prop,K=(fun x9' x10' w'=>I_l1 x9' x10' w'∧μ_l1 x9' x10' w'<μ_l1 x9 x10 w):=⟨_,rfl⟩
 have H:zAo x0 x2 Ret x4 x9 x10 w Kl1:=by rw [hK_l1];exact hb x9 x10 w hI
 clear hb h0 hI
 unfold zAo at H
 refine zAF (zAF (zAA (g.mv rfl fun _ g=>(g.mv rfl fun _ g=>(g.pur (zDp g rfl rfl) fun _ g=>(zAG (tn (zAR g rfl (fun hc=>?_) (fun hc=>?_)))))))))
 ·replace H:=H.1 hc
  refine zAP (tn (zAN (zAF (zAA (g.mv rfl fun _ g=>(g.mv rfl fun _ g=>(g.pur (zAn g rfl rfl) fun _ g=>(g.op (zGY g rfl) H fun x21 w a H g=>(g.op (zFD g rfl rfl) H fun x22 w a H g=>(g.op (zGY g rfl) H fun x23 w a H g=>(g.as_ rfl fun _ g=>(zAG (tn (zAF (zEB (by kernel_rfl) (by kernel_rfl) (g.qm rfl fun _ g=>(g.qm rfl fun _ g=>(g.qm rfl fun _ g=>(g.qop (zAC g rfl rfl) H fun x27 a H g=>(g.qop (zAI g rfl) H fun x28 a H g=>(g.qop (zAI g rfl) H fun x29 a H g=>?_)))))))))))))))))))))
  obtain ⟨r,hc,H⟩:=H
  refine g.qcallV rfl rfl hc fun _ g=>g.qpur (zDp g rfl rfl) fun _ g=>zED (fun w hB=>?_)
  replace H:=H w hB
  refine (tn (zAR g rfl (fun hc=>?_) (fun hc=>?_)))
  ·replace H:=H.1 hc
   refine zAA (g.mv rfl fun _ g=>(g.pur (zAn g rfl rfl) fun _ g=>(g.as_ rfl fun _ g=>?_)))
   rw [hK_l1] at H
   exact zAG (bn (tn ⟨((IntKind.wrap .i64 (x23+1)),x10),g.weak ⟨rfl,rfl,rfl,rfl,rfl,rfl,trivial⟩,H⟩))
  ·replace H:=H.2 hc
   refine zAA (g.mv rfl fun _ g=>(g.as_ rfl fun _ g=>?_))
   rw [hK_l1] at H
   exact zAG (bn (tn ⟨(x9,x23),g.weak ⟨rfl,rfl,rfl,rfl,rfl,rfl,trivial⟩,H⟩))
 ·replace H:=H.2 hc
  refine zBJ (te (te (be (tn (zAF (zEB (by kernel_rfl) (by kernel_rfl) (g.qm rfl fun _ g=>(g.qm rfl fun _ g=>(g.qm rfl fun _ g=>(g.qpur (zDp g rfl rfl) fun _ g=>(g.qm rfl fun _ g=>(WQ.join (ds:=[]) (N:=49) (σ:=Bool) (fun s=>[(48,(.bool s)),(35,(.int .i64 x9))]) (fun s=>zAs Ret x9 s w) 9 ?_ (fun hr2=>?_)))))))))))))
  ·intro x48 a H g
   try dsimp only at H g
   unfold zAs at H
   refine g.qpur (zEX g rfl) fun _ g=>g.qpur (zEX g rfl) fun _ g=>zED (fun w hB=>?_)
   replace H:=H w hB
   exact (tn (zAf (zFz g rfl rfl rfl ⟨_,_,rfl,H⟩)))
  ·rcases Classical.em ((x9<(x0.len:Int))) with hbr2|hbr2
   ·replace H:=H.1 hbr2
    replace g:=g.bool (b:=true) (t:=39) rfl (decide_eq_true hbr2)
    refine g.qon (by rfl) (by rfl) (g.qm rfl fun _ g=>(g.qon (by rfl) (by rfl) (g.qm rfl fun _ g=>(g.qon (by rfl) (by rfl) (g.qm rfl fun _ g=>(g.qon (by rfl) (by rfl) (g.qop (zAC g rfl rfl) H fun x43 a H g=>(g.qon (by rfl) (by rfl) (g.qop (zAI g rfl) H fun x44 a H g=>(g.qon (by rfl) (by rfl) (g.qop (zAI g rfl) H fun x45 a H g=>(g.qon (by rfl) (by rfl) ?_))))))))))))
    obtain ⟨r_1,hc,H⟩:=H
    exact g.qcallV rfl rfl hc fun _ g=>g.qon (by rfl) (by rfl) (g.qpur (zGX g rfl rfl) fun _ g=>(g.qpur (zAj g rfl rfl) fun _ g=>(hr2 (decide (r_1=0)) _ H (g.weak ⟨rfl,rfl,trivial⟩))))
   ·replace H:=H.2 hbr2
    replace g:=g.bool (b:=false) (t:=39) rfl (decide_eq_false hbr2)
    exact g.qoff (by rfl) (by rfl) (by decide) (fun _ g=>(g.qoff (by rfl) (by rfl) (by decide) (fun _ g=>(g.qoff (by rfl) (by rfl) (by decide) (fun _ g=>(g.qoff (by rfl) (by rfl) (by decide) (fun _ g=>(g.qoff (by rfl) (by rfl) (by decide) (fun _ g=>(g.qoff (by rfl) (by rfl) (by decide) (fun _ g=>(g.qoff (by rfl) (by rfl) (by decide) (fun _ g=>(g.qoff (by rfl) (by rfl) (by decide) (fun _ g=>(g.qpur (zAi g rfl rfl) fun _ g=>(hr2 false _ H (g.weak ⟨rfl,rfl,trivial⟩))))))))))))))))))
def zDW (x0:Sl) (x1:Value) (Ret:Int→World→Prop) (x8:Int) (w:World) (Kl1:Int→World→Prop):Prop:=
 ((x8<(x0.len:Int))→(opE Tryz.prog Value.pointer (Instr.indexAt 30 (Sl.v x0) (.int .i64 x8)) w (fun x14 w=>opE Tryz.prog zAD.v (Instr.loadAt 34 (.pointer x14)) w (fun x15 w=>CallV Tryz.prog x1 [(zAD.v x15)] w (fun e w=>∃ (r:Bool),e=.returned (.bool r)∧((r=true→(Ret x8 w))∧(r=false→(Kl1 (IntKind.wrap .i64 (x8+1)) w))))))))∧(¬ (x8<(x0.len:Int))→(Ret (-1) w))
def zEf (x0:Sl) (x1:Value) (w:World) (Ret:Int→World→Prop):Prop:=
 ∃ (I:Int→World→Prop) (μ:Int→World→Nat),I 0 w∧∀ (x8:Int) w,I x8 w→zDW x0 x1 Ret x8 w (fun x8' w'=>I x8' w'∧μ x8' w'<μ x8 w)
set_option maxRecDepth 100000 in
theorem zHw (x0:Sl) (x1:Value) (w:World) (Ret:Int→World→Prop) (H:zEf x0 x1 w Ret):Cl Tryz.prog 104 [(Sl.v x0),x1].toArray w (fun e w'=>∃ (r0:Int),e=.returned (.int .i64 r0)∧Ret r0 w'):=by
 unfold zEf at H
 refine zAY 19 (zipE 0 [(Sl.v x0),x1]) Tryz.func104 rfl rfl (by rfl) rfl ?_
 intro a g
 replace g:Sat [] 19 [(0,(Sl.v x0)),(1,x1)] a:=g
 refine zAF (zAA (g.as_ rfl fun _ g=>(zAG (tn (zAF (zAF (zAA (g.mv rfl fun _ g=>(g.purR (fun w=>zGm g Tryz.underlying30 rfl) fun _ g=>(g.mv rfl fun _ g=>(zAG (tn (zAN ?_)))))))))))))
 obtain ⟨I_l1,μ_l1,h0,hb⟩:=H
 refine zBl (ds:=[]) (N:=19) (σ:=Int) (fun s=>[(8,(.int .i64 s)),(0,(Sl.v x0)),(1,x1),(7,(.int .i64 (x0.len:Int)))]) (fun s w=>I_l1 s w) (fun s w=>μ_l1 s w) 0 h0 (g.weak ⟨rfl,rfl,rfl,rfl,trivial⟩) ?_
 intro x8 w a hI g
 try dsimp only at hI g
 obtain ⟨Kl1,hK_l1⟩:∃ K:Int→World→Prop,K=(fun x8' w'=>I_l1 x8' w'∧μ_l1 x8' w'<μ_l1 x8 w):=⟨_,rfl⟩
 have H:zDW x0 x1 Ret x8 w Kl1:=by rw [hK_l1];exact hb x8 w hI
 clear hb h0 hI
 unfold zDW at H
 refine zAF (zAA (g.pur (zDp g rfl rfl) fun _ g=>(zAG (tn (zAF (zAR g rfl (fun hc=>?_) (fun hc=>?_)))))))
 ·replace H:=H.1 hc
  refine zAP (tn (zAF (zAN (zAF (zAA (g.mv rfl fun _ g=>(g.as_ rfl fun _ g=>(zAG (tn (zAF (zAA (g.mv rfl fun _ g=>(g.mv rfl fun _ g=>(g.mv rfl fun _ g=>(g.op (zAC g rfl rfl) H fun x14 w a H g=>(g.op (zAI g rfl) H fun x15 w a H g=>(g.callV rfl rfl H fun e w H=>?_)))))))))))))))))
  obtain ⟨r,rfl,H⟩:=H
  refine ⟨_,rfl,fun _ g=>(zAG (tn (zAV g rfl (fun hc=>?_) (fun hc=>?_))))⟩
  ·replace H:=H.1 hc
   exact zAF (zAA (g.mv rfl fun _ g=>(g.as_ rfl fun _ g=>(zAG (tn (zAf (br (tr (tr (br (tr (zAt g rfl rfl ⟨_,rfl,H⟩))))))))))))
  ·replace H:=H.2 hc
   refine zAP (bn (tn (zAA (g.pur (zAn g rfl rfl) fun _ g=>(g.mv rfl fun _ g=>?_)))))
   rw [hK_l1] at H
   exact zAG (tn ⟨(IntKind.wrap .i64 (x8+1)),g.weak ⟨rfl,rfl,rfl,rfl,trivial⟩,H⟩)
 ·replace H:=H.2 hc
  exact zBJ (te (te (be (tn (zAF (zAA (g.as_ rfl fun _ g=>(zAG (tn (zAf (zAt g rfl rfl ⟨_,rfl,H⟩)))))))))))
def zHg (x0:Int) (w:World) (Ret:Bool→World→Prop):Prop:=
 Ret (decide (x0≠x0)) w
set_option maxRecDepth 100000 in
theorem zKZ (x0:Int) (w:World) (Ret:Bool→World→Prop) (H:zHg x0 w Ret):Cl Tryz.prog 113 [(.int .u64 x0)].toArray w (fun e w'=>∃ (r0:Bool),e=.returned (.bool r0)∧Ret r0 w'):=by
 unfold zHg at H
 refine zAY 6 (zipE 0 [(.int .u64 x0)]) Tryz.func113 rfl rfl (by rfl) rfl ?_
 intro a g
 replace g:Sat [] 6 [(0,(.int .u64 x0))] a:=g
 exact zAF (zAA (g.as_ rfl fun _ g=>(zAG (tn (zAF (zAA (g.mv rfl fun _ g=>(g.mv rfl fun _ g=>(g.pur (zLw g rfl rfl) fun _ g=>(g.as_ rfl fun _ g=>(zAG (tn (zAf (zAt g rfl rfl ⟨_,rfl,H⟩))))))))))))))
end Go.Proofs.YtealcoghiaeiiaaGreat.VG
set_option linter.unusedVariables false
namespace Go.Proofs.YtealcoghiaeiiaaGreat.VG
open Go.VB Go.VB.Srt Go.Proofs Go.RowKit
abbrev VerRd (w:World) (s:Sl) (l:List Ver):Prop:=Rd zAB.cells 4 w s l
abbrev zFt (base:Nat) (w:World) (s:Sl) (l:List Ver):Prop:=OwnS zAB.cells 4 zAp base w s l
theorem zFt.rd {base:Nat} {w:World} {s:Sl} {l:List Ver} (h:zFt base w s l):VerRd w s l:=OwnS.rd h (fun _=>rfl)
def cmpS (x y:ByteArray):Int:=if sLt x y=true then -1 else if x=y then 0 else 1
def cmpU (x y:Int):Int:=if x<y then -1 else if y<x then 1 else 0
theorem zPX {x y:ByteArray}:cmpS x y<0↔sLt x y=true:=by
 unfold cmpS;split
 ·simp [*]
 ·rename_i h
  split
  ·exact ⟨fun h=>absurd h (by decide),fun h1=>absurd h1 h⟩
  ·exact ⟨fun h=>absurd h (by decide),fun h1=>absurd h1 h⟩
theorem zMl {x y:ByteArray}:cmpS x y=0↔x=y:=by
 unfold cmpS;split
 ·rename_i h;exact ⟨fun h=>absurd h (by decide),fun e=>absurd e (zP3 h)⟩
 ·split<;>simp [*]
theorem zTa {x y:Int}:cmpU x y<0↔x<y:=by unfold cmpU;split<;>(try split)<;>omega
theorem zRR {x y:Int}:cmpU x y=0↔x=y:=by unfold cmpU;split<;>(try split)<;>omega
def ordI (a b:Ver):Int:=if cmpS a.Key b.Key≠0 then cmpS a.Key b.Key else cmpU a.At b.At
theorem zNi {a b:Ver}:ordI a b<0↔vlt a b:=by
 unfold ordI vlt
 by_cases h:cmpS a.Key b.Key=0
 ·rw [if_neg (by simp [h])]
  have hk:=zMl.1 h
  rw [zTa]
  exact ⟨fun h1=>.inr ⟨hk,h1⟩,fun h1=>by
   rcases h1 with h1|h1
   ·exact absurd hk (zP3 h1)
   ·exact h1.2⟩
 ·rw [if_pos h,zPX]
  exact ⟨fun h1=>.inl h1,fun h1=>by
   rcases h1 with h1|h1
   ·exact h1
   ·exact absurd (zMl.2 h1.1) h⟩
theorem zRs {a b:Ver}:ordI a b=0↔a.Key=b.Key∧a.At=b.At:=by
 unfold ordI
 by_cases h:cmpS a.Key b.Key=0
 ·rw [if_neg (by simp [h]),zRR]
  exact ⟨fun h1=>⟨zMl.1 h,h1⟩,fun h1=>h1.2⟩
 ·rw [if_pos h]
  exact ⟨fun h1=>absurd h1 h,fun h1=>absurd (zMl.2 h1.1) h⟩
theorem zMJ (x y:ByteArray) (w:World) {k:Int→World→Prop} (H:k (cmpS x y) w):Cl Tryz.prog zLY [.string x,.string y].toArray w (fun e w'=>∃ r0:Int,e=.returned (.int .i64 r0)∧k r0 w'):=by
 refine zLg x y w k ?_
 unfold zIh
 refine zKT x w _ ?_
 unfold zHe
 refine zKT y w _ ?_
 unfold zHe
 rw [decide_eq_false (p:=x≠x) (by simp),decide_eq_false (p:=y≠y) (by simp)]
 refine ⟨fun h=>(nomatch h),fun _=>⟨fun h=>(nomatch h),fun _=>⟨fun h=>?_,fun h=>⟨fun h1=>?_,fun h1=>?_⟩⟩⟩⟩
 ·unfold cmpS at H;rw [if_pos h] at H;exact H
 ·unfold cmpS at H
  rw [zSu] at h1
  rw [if_neg (by rw [h];decide),if_neg (fun e=>zFy x (by rw [← e] at h1;exact h1))] at H;exact H
 ·unfold cmpS at H
  rw [zSu] at h1
  have hxy:x=y:=Classical.byContradiction fun hn=>by
   have:=zKE (x:=x) (y:=y) (by rw [h];decide) hn
   rw [h1] at this;cases this
  rw [if_neg (by rw [h];decide),if_pos hxy] at H;exact H
theorem zPO (x y:Int) (w:World) {k:Int→World→Prop} (H:k (cmpU x y) w):Cl Tryz.prog zLh [.int .u64 x,.int .u64 y].toArray w (fun e w'=>∃ r0:Int,e=.returned (.int .i64 r0)∧k r0 w'):=by
 refine zLM x y w k ?_
 unfold zIg
 refine zKZ x w _ ?_
 unfold zHg
 refine zKZ y w _ ?_
 unfold zHg
 rw [decide_eq_false (p:=x≠x) (by simp),decide_eq_false (p:=y≠y) (by simp)]
 unfold cmpU at H
 refine ⟨fun h=>(nomatch h),fun _=>⟨fun h=>(nomatch h),fun _=>⟨fun h=>?_,fun h=>⟨fun h1=>?_,fun h1=>?_⟩⟩⟩⟩
 ·rw [if_pos h] at H;exact H
 ·rw [if_neg h,if_pos h1] at H;exact H
 ·rw [if_neg h,if_neg h1] at H;exact H
theorem zTw {w:World} {s:Sl} {a b:Int} (h:Rd (fun x:Int=>[Value.int .i64 x]) 1 w s [a,b]) {k:Int→World→Prop} (H:k (if a≠0 then a else b) w):
  Cl Tryz.prog zOZ [Sl.v s].toArray w (fun e w'=>∃ r0:Int,e=.returned (.int .i64 r0)∧k r0 w'):=by
 refine zOK s w k ?_
 have hlen:=h.len
 simp at hlen
 unfold zLV
 refine ⟨fun x W=>W=w∧(x=0∨(x=1∧a=0)∨(x=2∧a=0∧b=0)),fun x _=>(2 - x).toNat,⟨rfl,.inl rfl⟩,?_⟩
 rintro x W ⟨rfl,hx⟩
 unfold zI2
 refine ⟨fun hlt=>?_,fun hlt=>?_⟩
 ·rcases hx with rfl|⟨rfl,ha⟩|⟨rfl,_,_⟩
  ·refine zLL h zPN zPE (by omega) (x:=a) rfl fun ad hA=>?_
   refine zHM zF4 a (by have:=hA 0 (.int .i64 a) rfl;simpa [Addr.add] using this) ?_
   refine ⟨fun hn=>by rw [if_pos hn] at H;exact H,fun hn=>⟨⟨rfl,.inr (.inl ⟨by rw [wr64 (by omega) (by omega)];rfl,Classical.not_not.1 hn⟩)⟩,by rw [wr64 (by omega) (by omega)];dsimp only;omega⟩⟩
  ·refine zLL h zPN zPE (by omega) (x:=b) rfl fun ad hA=>?_
   refine zHM zF4 b (by have:=hA 0 (.int .i64 b) rfl;simpa [Addr.add] using this) ?_
   rw [if_neg (by simp [ha])] at H
   refine ⟨fun hn=>H,fun hn=>⟨⟨rfl,.inr (.inr ⟨by rw [wr64 (by omega) (by omega)];rfl,ha,Classical.not_not.1 hn⟩)⟩,by rw [wr64 (by omega) (by omega)];dsimp only;omega⟩⟩
  ·omega
 ·rcases hx with rfl|⟨rfl,ha⟩|⟨rfl,ha,hb⟩
  ·omega
  ·omega
  ·rw [if_neg (by simp [ha]),hb] at H;exact H
theorem zQC (a b:Ver) (w:World) {k:Int→World→Prop} (H:∀ w',Bel w w'→k (ordI a b) w'):
  Cl Tryz.prog zIM [zAB.v a,zAB.v b].toArray w (fun e w'=>∃ r0:Int,e=.returned (.int .i64 r0)∧k r0 w'):=by
 refine zOY a b w k ?_
 unfold zLd
 refine zPJ (cs:=a.cells) rfl ?_
 have h1:=At.new w a.cells zAp
 have b1:Bel w (w.alloc (.cells a.cells.toArray zAp)):=Bel.alloc _ _
 generalize w.heap.size=B1 at h1 ⊢
 generalize (w.alloc (.cells a.cells.toArray zAp))=w1 at h1 b1 ⊢
 refine zPJ (cs:=b.cells) rfl ?_
 have h2:=At.new w1 b.cells zAp
 have b2:Bel w1 (w1.alloc (.cells b.cells.toArray zAp)):=Bel.alloc _ _
 generalize w1.heap.size=B2 at h2 ⊢
 generalize (w1.alloc (.cells b.cells.toArray zAp))=w2 at h2 b2 ⊢
 replace h1:=h1.bel b2
 have b02:=b1.trans b2
 refine ⟨Bel w2,fun w3 b3=>⟨b3,?_⟩⟩
 refine zMp zEG ?_
 refine zMp zEG ?_
 refine zMp zFZ ?_
 refine zMp zFZ ?_
 refine zKB zAc a.Key (fun w hw=>(h1.bel hw).fld rfl) ?_
 refine zKB zAc b.Key (fun w hw=>(h2.bel hw).fld rfl) ?_
 refine zKB zA9 a.At (fun w hw=>(h1.bel hw).fld rfl) ?_
 refine zKB zA9 b.At (fun w hw=>(h2.bel hw).fld rfl) ?_
 refine zMJ a.Key b.Key w3 ⟨b3,?_⟩
 refine zPO a.At b.At w3 ⟨b3,?_⟩
 have hl:=Rd.lit (c:=fun x:Int=>[Value.int .i64 x]) (n:=1) (fun _=>rfl) [cmpS a.Key b.Key,cmpU a.At b.At] (by simp) w3 zFp
 have b4:Bel w3 (w3.alloc (.cells ([cmpS a.Key b.Key,cmpU a.At b.At].flatMap fun x:Int=>[Value.int .i64 x]).toArray zFp)):=Bel.alloc _ _
 refine ⟨⟨some ⟨w3.heap.size,0,none⟩,2,2⟩,(w3.alloc (.cells ([cmpS a.Key b.Key,cmpU a.At b.At].flatMap fun x:Int=>[Value.int .i64 x]).toArray zFp)),by kernel_rfl,?_⟩
 refine ⟨b3.trans b4,?_⟩
 exact zTw hl ⟨b3.trans b4,H _ ((b02.trans b3).trans b4)⟩
def vltB (a b:Ver):Bool:=sLt a.Key b.Key||(decide (a.Key=b.Key)&&decide (a.At<b.At))
theorem zLn {a b:Ver}:vltB a b=true↔vlt a b:=by
 unfold vltB vlt;simp
theorem zR6:Srt.SWO vltB where
 irr x:=by
  cases h:vltB x x with
  |false=>rfl
  |true=>exact absurd (zLn.1 h) (zNW x)
 neg x y z h:=by
  by_cases h1:vltB x y=true
  ·exact .inl h1
  ·right
   rw [zLn] at*
   by_cases h2:x.Key=y.Key∧x.At=y.At
   ·rcases h with h|h
    ·left;rw [← h2.1];exact h
    ·right;rw [← h2.1,← h2.2];exact h
   ·exact zNV (zRb h1 h2) h
 asy x y h:=by
  cases h1:vltB y x with
  |false=>rfl
  |true=>exact absurd (zLn.1 h1) (zTH (zLn.1 h))
theorem zMu (a b:Ver) (w:World):CallQ Tryz.prog (.func (.func zIM) #[] #[]) [zAB.v a,zAB.v b] w (.int .i64 (ordI a b)):=
 ⟨zIM,[],[],rfl,ent68,fun w' _=>(zQC a b w' (k:=fun r W=>r=ordI a b∧Bel w' W) fun W hb=>⟨rfl,hb⟩).mono fun e W ⟨r,he,hr,hb⟩=>⟨by rw [he,hr],hb⟩⟩
theorem zTZ (a b:Ver) (w:World):∀ w',Bel w w'→Cl Tryz.prog zIM [zAB.v a,zAB.v b].toArray w' (fun e w''=>e=.returned (.int .i64 (ordI a b))∧Bel w' w''):=
 fun w' _=>(zQC a b w' (k:=fun r W=>r=ordI a b∧Bel w' W) fun W hb=>⟨rfl,hb⟩).mono fun e W ⟨r,he,hr,hb⟩=>⟨by rw [he,hr],hb⟩
theorem zQT:SoCmpFunc_api_Version.Cmps (.func (.func zIM) #[] #[]) vltB:=fun w x y=>⟨ordI x y,zMu x y w,by rw [zLn,zNi]⟩
end Go.Proofs.YtealcoghiaeiiaaGreat.VG
set_option linter.unusedVariables false
namespace Go.Proofs.YtealcoghiaeiiaaGreat.VG
open Go.VB Go.VB.Srt Go.Proofs Go.RowKit
theorem zMb {l:List Ver} (hs:l.Pairwise vlt) {i j:Nat} {x y:Ver} (h:i<j) (hx:l[i]?=some x) (hy:l[j]?=some y):vlt x y:=by
 have a:=List.getElem?_eq_some_iff.1 hx;have b:=List.getElem?_eq_some_iff.1 hy
 have:=List.pairwise_iff_getElem.1 hs i j a.1 b.1 h
 rw [a.2,b.2] at this;exact this
theorem fdiv2 (n:Nat):((n:Int)).fdiv (2 ^ (min (1:Int).toNat IntKind.u64.bits))=((n / 2:Nat):Int):=by
 rw [show min (1:Int).toNat IntKind.u64.bits=1 by decide,Int.fdiv_eq_ediv_of_nonneg _ (by decide)]
 omega
theorem zRJ {w:World} {s:Sl} {l:List Ver} (h:VerRd w s l) (hs:l.Pairwise vlt) (t:Ver) {k:Int→Bool→World→Prop}
  (H:∀ (i:Nat) (b:Bool) w',i≤l.length→(∀ j x,j<i→l[j]?=some x→vlt x t)→(∀ j x,i≤j→l[j]?=some x→¬ vlt x t)→(b=true↔∃ x,l[i]?=some x∧x.Key=t.Key∧x.At=t.At)→Bel w w'→k (i:Int) b w'):
  Cl Tryz.prog zFb [Sl.v s,zAB.v t,.func (.func zIM) #[] #[]].toArray w (fun e w'=>∃ (r0:Int) (r1:Bool),e=.returned (.tuple [.int .i64 r0,.bool r1].toArray)∧k r0 r1 w'):=by
 refine zFc s t _ w k ?_
 have hlen:=h.len;have hbig:=h.big
 unfold zCA
 refine zPJ (cs:=t.cells) rfl ?_
 have ht:=At.new w t.cells zAp
 have b1:Bel w (w.alloc (.cells t.cells.toArray zAp)):=Bel.alloc _ _
 generalize w.heap.size=B1 at ht ⊢
 generalize (w.alloc (.cells t.cells.toArray zAp))=w1 at ht b1 ⊢
 refine ⟨fun x y W=>∃ i j:Nat,x=(i:Int)∧y=(j:Int)∧i≤j∧j≤l.length∧Bel w1 W∧(∀ n x,n<i→l[n]?=some x→vlt x t)∧(∀ n x,j≤n→l[n]?=some x→¬ vlt x t),fun x y _=>(y - x).toNat,
  ⟨0,l.length,rfl,by omega,by omega,by omega,Bel.refl _,fun n x hn=>by omega,fun n x hn hx=>by have:=(List.getElem?_eq_some_iff.1 hx).1;omega⟩,?_⟩
 rintro x y W ⟨i,j,rfl,rfl,hij,hj,hb,hlo,hhi⟩
 have hb0:=b1.trans hb
 unfold zAo
 refine ⟨fun hlt=>?_,fun hlt=>?_⟩
 ·rw [wr64 (by omega) (by omega)]
  refine zKd (by kernel_rfl) (by kernel_rfl) ?_
  rw [show IntKind.wrap .u64 ((i:Int)+(j:Int))=((i+j:Nat):Int) by unfold IntKind.wrap;simp [IntKind.signed,IntKind.bits];omega]
  refine ⟨_,W,zNm (by decide) W,?_⟩
  rw [fdiv2]
  refine zKd (by kernel_rfl) (by kernel_rfl) ?_
  rw [wr64 (by omega) (by omega)]
  obtain ⟨e,he⟩:∃ e,l[(i+j) / 2]?=some e:=⟨l[(i+j) / 2]'(by omega),by simp⟩
  refine zOL (h.bel hb0) zBU zC2 (by omega) (x:=e) (by rw [Int.toNat_natCast];exact he) fun ad hA=>?_
  refine zOO zAx e rfl hA rfl ?_
  refine zOO zAx t rfl (ht.bel hb) rfl ?_
  refine ⟨ordI e t,zMu e t W,?_⟩
  intro W2 hb2
  refine ⟨fun hr=>?_,fun hr=>?_⟩
  ·rw [wr64 (by omega) (by omega)]
   have hv:=zNi.1 hr
   refine ⟨⟨(i+j) / 2+1,j,by omega,rfl,by omega,hj,hb.trans hb2,fun n x hn hx=>?_,hhi⟩,by dsimp only;omega⟩
   rcases Nat.lt_or_ge n ((i+j) / 2) with h1|h1
   ·exact zNV (zMb hs h1 hx he) hv
   ·obtain rfl:n=(i+j) / 2:=by omega
    rw [he] at hx;cases hx;exact hv
  ·have hv:¬ vlt e t:=fun h1=>hr (zNi.2 h1)
   refine ⟨⟨i,(i+j) / 2,rfl,rfl,by omega,by omega,hb.trans hb2,hlo,fun n x hn hx=>?_⟩,by dsimp only;omega⟩
   rcases Nat.lt_or_ge ((i+j) / 2) n with h1|h1
   ·exact fun h2=>hv (zNV (zMb hs h1 he hx) h2)
   ·obtain rfl:n=(i+j) / 2:=by omega
    rw [he] at hx;cases hx;exact hv
 ·obtain rfl:i=j:=by omega
  refine ⟨fun hl=>?_,fun hl=>?_⟩
  ·obtain ⟨e,he⟩:∃ e,l[i]?=some e:=⟨l[i]'(by omega),by simp⟩
   refine zOL (h.bel hb0) zBU zC2 (by omega) (x:=e) (by simpa using he) fun ad hA=>?_
   refine zOO zAx e rfl hA rfl ?_
   refine zOO zAx t rfl (ht.bel hb) rfl ?_
   refine ⟨ordI e t,zMu e t W,?_⟩
   intro W2 hb2
   refine H i _ W2 hj hlo hhi ?_ (hb0.trans hb2)
   rw [decide_eq_true_iff,zRs]
   exact ⟨fun h1=>⟨e,he,h1⟩,fun ⟨x,hx,h1⟩=>by rw [he] at hx;cases hx;exact h1⟩
  ·intro W2 hb2
   refine H i _ W2 hj hlo hhi ?_ (hb0.trans hb2)
   exact ⟨fun h=>(nomatch h),fun ⟨x,hx,_⟩=>by have:=(List.getElem?_eq_some_iff.1 hx).1;omega⟩
theorem zOh {l:List Ver} (hs:l.Pairwise vlt) {key:ByteArray} {t:Int} {i:Nat} (hhi:∀ j x,i≤j→l[j]?=some x→¬ vlt x ⟨key,t,noB,false⟩)
  (hb:¬ ∃ x,l[i]?=some x∧x.Key=key∧x.At=t) {x:Ver} {j:Nat} (hx:l[j]?=some x) (hk:x.Key=key) (ht:x.At≤t):j<i:=by
 rcases Nat.lt_or_ge j i with h|h
 ·exact h
 ·have h1:=hhi j x h hx
  have h2:x.At=t:=by
   have:¬ x.At<t:=fun h3=>h1 (.inr ⟨hk,h3⟩)
   omega
  rcases Nat.lt_or_ge i j with h3|h3
  ·obtain ⟨y,hy⟩:∃ y,l[i]?=some y:=⟨l[i]'(by have:=(List.getElem?_eq_some_iff.1 hx).1;omega),by simp⟩
   have h4:=zMb hs h3 hy hx
   refine absurd ?_ (hhi i y (Nat.le_refl _) hy)
   rcases h4 with h4|h4
   ·left;rw [← hk];exact h4
   ·right;rw [← hk,← h2];exact h4
  ·obtain rfl:j=i:=by omega
   exact absurd ⟨x,hx,hk,h2⟩ hb
theorem zRe {l:List Ver} (hs:l.Pairwise vlt) {key:ByteArray} {t:Int} {i:Nat} {x:Ver} (hx:l[i]?=some x) (hk:x.Key=key) (ht:x.At=t):sees l key t=some x:=
 zOP hs (List.mem_of_getElem? hx) hk (by omega) fun y _ _ h=>by omega
theorem zRc {l:List Ver} (hs:l.Pairwise vlt) {key:ByteArray} {t:Int} {i:Nat} (hlo:∀ j x,j<i→l[j]?=some x→vlt x ⟨key,t,noB,false⟩) (hhi:∀ j x,i≤j→l[j]?=some x→¬ vlt x ⟨key,t,noB,false⟩)
  (hb:¬ ∃ x,l[i]?=some x∧x.Key=key∧x.At=t):(i=0→sees l key t=none)∧∀ j y,i=j+1→l[j]?=some y→(y.Key=key→sees l key t=some y)∧(y.Key≠key→sees l key t=none):=by
 refine ⟨fun h0=>?_,fun j y hj hy=>⟨fun hk=>?_,fun hk=>?_⟩⟩
 ·rw [zJY]
  rintro x hx ⟨h1,h2⟩
  obtain ⟨n,hn⟩:=List.getElem?_of_mem hx
  have:=zOh hs hhi hb hn h1 h2
  omega
 ·have hy1:=hlo j y (by omega) hy
  have hyt:y.At<t:=by
   rcases hy1 with h1|h1
   ·rw [hk] at h1;exact absurd h1 (zFy _)
   ·exact h1.2
  refine zOP hs (List.mem_of_getElem? hy) hk (by omega) fun x hx h1 h2=>?_
  obtain ⟨n,hn⟩:=List.getElem?_of_mem hx
  have:=zOh hs hhi hb hn h1 h2
  rcases Nat.lt_or_ge n j with h3|h3
  ·rcases zMb hs h3 hn hy with h4|h4
   ·rw [h1,hk] at h4;exact absurd h4 (zFy _)
   ·omega
  ·obtain rfl:n=j:=by omega
   rw [hy] at hn;cases hn;exact Int.le_refl _
 ·have hy1:=hlo j y (by omega) hy
  have hyk:sLt y.Key key=true:=by
   rcases hy1 with h1|h1
   ·exact h1
   ·exact absurd h1.1 hk
  rw [zJY]
  rintro x hx ⟨h1,h2⟩
  obtain ⟨n,hn⟩:=List.getElem?_of_mem hx
  have:=zOh hs hhi hb hn h1 h2
  rcases Nat.lt_or_ge n j with h3|h3
  ·have h4:=zQ4 (zMb hs h3 hn hy)
   rw [h1] at h4;exact h4 hyk
  ·obtain rfl:n=j:=by omega
   rw [hy] at hn;cases hn;exact hk h1
abbrev zeroV:Ver:=⟨noB,0,noB,false⟩
def verOr:Option Ver→Ver
 |none=>zeroV
 |some x=>x
theorem zPb {w:World} {s:Sl} {l:List Ver} (h:VerRd w s l) (hs:l.Pairwise vlt) (key:ByteArray) (t:Int) {k:Ver→Bool→World→Prop}
  (H:∀ w',Bel w w'→k (verOr (sees l key t)) (sees l key t).isSome w'):
  Cl Tryz.prog zPC [Sl.v s,.string key,.int .u64 t].toArray w (fun e w'=>∃ (r0:Ver) (r1:Bool),e=.returned (.tuple [zAB.v r0,.bool r1].toArray)∧k r0 r1 w'):=by
 refine zPL s key t w k ?_
 have hlen:=h.len;have hbig:=h.big
 unfold zL5
 refine zNE zGO ?_
 have hrow:=Row.new w zIw zAp
 have b1:Bel w (w.alloc (.cells (zIw).toArray zAp)):=Bel.alloc _ _
 have hR:w.heap.size≤w.heap.size:=Nat.le_refl _
 generalize hB:w.heap.size=B1 at hrow hR ⊢
 generalize (w.alloc (.cells (zIw).toArray zAp))=w1 at hrow b1 ⊢
 refine ⟨⟨key,t,noB,false⟩,w1,by kernel_rfl,?_⟩
 refine zRJ (h.bel b1) hs ⟨key,t,noB,false⟩ fun i b w2 hi hlo hhi hbb b2=>?_
 have b02:=b1.trans b2
 have hrow2:=hrow.bel b2
 have fin:∀ (x:Ver) (bb:Bool),verOr (sees l key t)=x→(sees l key t).isSome=bb→∀ w3,Row w3 B1 x.cells zAp→w2.grownBy w3 (some B1)→opR Tryz.prog zAB.v zAp (some ⟨B1,0,none⟩) w3 (fun q=>k q bb w3):=by
  intro x bb h1 h2 w3 hr3 hg
  refine R.agg zAx x rfl hr3.at rfl ?_
  rw [← h1,← h2]
  exact H w3 (b02.grown hg (fun q hq=>by cases hq;omega))
 have no:sees l key t=none→zGE s k (some ⟨B1,0,none⟩) ((i:Int) - 1) true w2:=by
  intro hn
  unfold zGE
  refine ⟨fun _=>?_,fun h=>(nomatch h)⟩
  refine ⟨zeroV,w2,by kernel_rfl,?_⟩
  refine zNy zAx hrow2 rfl rfl rfl fun w3 hr3 hg=>?_
  exact fin zeroV false (by rw [hn];rfl) (by rw [hn];rfl) w3 hr3 hg
 have yes:∀ (n:Nat) (x:Ver),l[n]?=some x→sees l key t=some x→zGE s k (some ⟨B1,0,none⟩) (n:Int) false w2:=by
  intro n x hx hn
  unfold zGE
  refine ⟨fun h=>(nomatch h),fun _=>?_⟩
  refine zLL (h.bel b02) zBU zC2 (by omega) (x:=x) (by simpa using hx) fun ad hA=>?_
  refine zII zAx x rfl hA rfl ?_
  refine zNy zAx hrow2 rfl rfl rfl fun w3 hr3 hg=>?_
  exact fin x true (by rw [hn];rfl) (by rw [hn];rfl) w3 hr3 hg
 refine ⟨fun hf=>?_,fun hf=>?_⟩
 ·have hb0:¬ ∃ x,l[i]?=some x∧x.Key=key∧x.At=t:=fun hx=>by rw [hbb.2 hx] at hf;cases hf
  obtain ⟨p0,p1⟩:=zRc hs hlo hhi hb0
  rw [wr64 (by omega) (by omega)]
  unfold zHT
  refine ⟨fun hi0=>no (p0 (by omega)),fun hi0=>?_⟩
  obtain ⟨y,hy⟩:∃ y,l[i - 1]?=some y:=⟨l[i - 1]'(by omega),by simp⟩
  obtain ⟨p2,p3⟩:=p1 (i - 1) y (by omega) hy
  refine zLL (h.bel b02) zBU zC2 (by omega) (x:=y) (by rw [show ((i:Int) - 1).toNat=i - 1 by omega];exact hy) fun ad hA=>?_
  refine zDi zEG zAc hA y.Key rfl ?_
  by_cases hk:y.Key=key
  ·rw [decide_eq_false (fun h=>h hk),show (i:Int) - 1=((i - 1:Nat):Int) by omega]
   exact yes _ y hy (p2 hk)
  ·rw [decide_eq_true hk]
   exact no (p3 hk)
 ·have hb1:b=true:=by cases b<;>simp_all
  obtain ⟨x,hx,hk,ht⟩:=hbb.1 hb1
  unfold zHT
  refine ⟨fun hi0=>by omega,fun hi0=>?_⟩
  refine zLL (h.bel b02) zBU zC2 (by omega) (x:=x) (by simpa using hx) fun ad hA=>?_
  refine zDi zEG zAc hA x.Key rfl ?_
  rw [decide_eq_false (fun h=>h hk)]
  exact yes i x hx (zRe hs hx hk ht)
end Go.Proofs.YtealcoghiaeiiaaGreat.VG
set_option linter.unusedVariables false
set_option linter.unusedSimpArgs false
namespace Go.Proofs.YtealcoghiaeiiaaGreat.VG
open Go.VB Go.Proofs
def zFK (x0:Sl) (x1:Sl) (Ret:Bool→World→Prop) (x13:Int) (w:World) (Kl1:Int→World→Prop):Prop:=
 ((x13<(x0.len:Int))→(opB Tryz.prog Value.pointer (Instr.indexAt 30 (Sl.v x0) (.int .i64 x13)) w (fun x18=>opB Tryz.prog zAD.v (Instr.loadAt 34 (.pointer x18)) w (fun x19=>opB Tryz.prog Value.pointer (Instr.indexAt 30 (Sl.v x1) (.int .i64 x13)) w (fun x22=>opB Tryz.prog zAD.v (Instr.loadAt 34 (.pointer x22)) w (fun x23=>opB Tryz.prog Value.bool (do eqGuard .neq 34 (.tmp 19) (.tmp 23) (zAD.v x19) (zAD.v x23);binOp .neq 34 (zAD.v x19) (zAD.v x23)) w (fun x24=>nextB w (fun w=>(x24=true→(Ret false w))∧(x24=false→(Kl1 (IntKind.wrap .i64 (x13+1)) w))))))))))∧(¬ (x13<(x0.len:Int))→(Ret true w))
def zGz (x0:Sl) (x1:Sl) (w:World) (Ret:Bool→World→Prop):Prop:=
 (((x0.len:Int)≠(x1.len:Int))→(Ret false w))∧(¬ ((x0.len:Int)≠(x1.len:Int))→(∃ (I:Int→World→Prop) (μ:Int→World→Nat),I 0 w∧∀ (x13:Int) w,I x13 w→zFK x0 x1 Ret x13 w (fun x13' w'=>I x13' w'∧μ x13' w'<μ x13 w)))
set_option maxRecDepth 100000 in
theorem zKq (x0:Sl) (x1:Sl) (w:World) (Ret:Bool→World→Prop) (H:zGz x0 x1 w Ret):Cl Tryz.prog 28 [(Sl.v x0),(Sl.v x1)].toArray w (fun e w'=>∃ (r0:Bool),e=.returned (.bool r0)∧Ret r0 w'):=by
 unfold zGz at H
 refine zAY 26 (zipE 0 [(Sl.v x0),(Sl.v x1)]) Tryz.func28 rfl rfl (by rfl) rfl ?_
 intro a g
 replace g:Sat [] 26 [(0,(Sl.v x0)),(1,(Sl.v x1))] a:=g
 refine zAF (zAA (g.as_ rfl fun _ g=>(zAG (tn (zAF (zAF (zAA (g.mv rfl fun _ g=>(g.purR (fun w=>zGm g Tryz.underlying30 rfl) fun _ g=>(g.mv rfl fun _ g=>(g.purR (fun w=>zGm g Tryz.underlying30 rfl) fun _ g=>(g.pur (zLw g rfl rfl) fun _ g=>(zAG (tn (zAR g rfl (fun hc=>?_) (fun hc=>?_))))))))))))))))
 ·replace H:=H.1 hc
  exact zAF (zAA (g.as_ rfl fun _ g=>(zAG (tn (zAf (tr (zAt g rfl rfl ⟨_,rfl,H⟩)))))))
 ·replace H:=H.2 hc
  refine zAP (tn (zAF (zAF (zAA (g.mv rfl fun _ g=>(g.purR (fun w=>zGm g Tryz.underlying30 rfl) fun _ g=>(g.mv rfl fun _ g=>(zAG (tn (zAN ?_))))))))))
  obtain ⟨I_l1,μ_l1,h0,hb⟩:=H
  refine zBl (ds:=[]) (N:=26) (σ:=Int) (fun s=>[(13,(.int .i64 s)),(0,(Sl.v x0)),(1,(Sl.v x1)),(12,(.int .i64 (x0.len:Int)))]) (fun s w=>I_l1 s w) (fun s w=>μ_l1 s w) 0 h0 (g.weak ⟨rfl,rfl,rfl,rfl,trivial⟩) ?_
  intro x13 w a hI g
  try dsimp only at hI g
  obtain ⟨Kl1,hK_l1⟩:∃ K:Int→World→Prop,K=(fun x13' w'=>I_l1 x13' w'∧μ_l1 x13' w'<μ_l1 x13 w):=⟨_,rfl⟩
  have H:zFK x0 x1 Ret x13 w Kl1:=by rw [hK_l1];exact hb x13 w hI
  clear hb h0 hI
  unfold zFK at H
  refine zAF (zAA (g.pur (zDp g rfl rfl) fun _ g=>(zAG (tn (zAF (zAR g rfl (fun hc=>?_) (fun hc=>?_)))))))
  ·replace H:=H.1 hc
   refine zAP (tn (zAF (zAN (zAF (zAA (g.mv rfl fun _ g=>(g.as_ rfl fun _ g=>(zAG (tn (zAF (zEB (by kernel_rfl) (by kernel_rfl) (g.qm rfl fun _ g=>(g.qm rfl fun _ g=>(g.qop (zAC g rfl rfl) H fun x18 a H g=>(g.qop (zAI g rfl) H fun x19 a H g=>(g.qm rfl fun _ g=>(g.qm rfl fun _ g=>(g.qop (zAC g rfl rfl) H fun x22 a H g=>(g.qop (zAI g rfl) H fun x23 a H g=>(g.qop (zJ4 g rfl rfl) H fun x24 a H g=>(zED (fun w hB=>?_))))))))))))))))))))))
   replace H:=H w hB
   refine (tn (zAV g rfl (fun hc=>?_) (fun hc=>?_)))
   ·replace H:=H.1 hc
    exact zAF (zAA (g.as_ rfl fun _ g=>(zAG (tn (zAf (br (tr (tr (br (tr (zAt g rfl rfl ⟨_,rfl,H⟩)))))))))))
   ·replace H:=H.2 hc
    refine zAP (bn (tn (zAA (g.pur (zAn g rfl rfl) fun _ g=>(g.mv rfl fun _ g=>?_)))))
    rw [hK_l1] at H
    exact zAG (tn ⟨(IntKind.wrap .i64 (x13+1)),g.weak ⟨rfl,rfl,rfl,rfl,trivial⟩,H⟩)
  ·replace H:=H.2 hc
   exact zBJ (te (te (be (tn (zAF (zAA (g.as_ rfl fun _ g=>(zAG (tn (zAf (zAt g rfl rfl ⟨_,rfl,H⟩)))))))))))
end Go.Proofs.YtealcoghiaeiiaaGreat.VG
set_option linter.unusedVariables false
namespace Go.Proofs.YtealcoghiaeiiaaGreat.VG
open Go.VB Go.VB.Srt Go.Proofs Go.RowKit
theorem getV {l:List Ver} {n:Nat} (h:n<l.length):∃ x,l[n]?=some x:=⟨l[n]'h,by simp⟩
theorem zNo {w:World} {x0:zAH} {l:List Ver} (h:VerRd w x0.List l) {k:Int→World→Prop} (H:∀ w',Bel w w'→k (vchk l x0.Low) w'):
  Cl Tryz.prog zOk [zAH.v x0].toArray w (fun e w'=>∃ r0:Int,e=.returned (.int .i64 r0)∧k r0 w'):=by
 refine zOo x0 w k ?_
 have hbig:=h.big;have hcap:=h.cap;have hlen:=h.len
 have bad:∀ w',Bel w w'→¬ GoodV l x0.Low→k 2 w':=fun w' hb hn=>by rw [← zR7 hn];exact H w' hb
 unfold zLX
 refine zGl (cs:=x0.cells) rfl fun B w1 b1 hV _=>?_
 refine zDi zAh zAl hV.at x0.List rfl ?_
 have r1t:¬ GoodV l x0.Low→zGy k (some ⟨B,0,none⟩) true w1:=fun hn=>⟨fun _=>bad _ b1 hn,fun h=>(nomatch h)⟩
 refine ⟨fun hc=>r1t (fun hg=>by have:=hg.len;omega),fun hc=>?_⟩
 refine zDi zFa zA9 hV.at x0.Low rfl ?_
 by_cases hlow:2305843009213693952<x0.Low
 case pos=>rw [decide_eq_true hlow];exact r1t (fun hg=>by have:=hg.low;omega)
 rw [decide_eq_false hlow]
 unfold zGy
 refine ⟨fun h=>(nomatch h),fun _=>?_⟩
 refine zDi zAh zAl hV.at x0.List rfl ?_
 refine ⟨fun x W=>∃ n:Nat,x=(n:Int)∧n≤l.length∧Bel w1 W∧OkTo l n,fun x _=>(x0.List.len - x).toNat,⟨0,rfl,by omega,Bel.refl _,OkTo.zero l⟩,?_⟩
 rintro x W ⟨n,rfl,hn,hb,hok⟩
 unfold zIz
 refine ⟨fun hlt=>?_,fun hlt=>?_⟩
 case refine_2=>
  have hG:GoodV l x0.Low:=⟨by omega,by omega,by rw [show l.length=n from by omega];exact hok⟩
  rw [← zPF hG];exact H W (b1.trans hb)
 obtain ⟨e,he⟩:=getV (l:=l) (n:=n) (by omega)
 have b01:=b1.trans hb
 refine zLL (h.bel b01) zBU zC2 (by omega) (x:=e) (by simpa using he) fun ad hA=>?_
 refine zII zAx e rfl hA rfl ?_
 refine zJb zGO rfl zAx (cs:=e.cells) rfl rfl rfl fun C w2 b2 hX _=>?_
 have b02:=b01.trans b2
 have hV2:=(hV.bel hb).bel b2
 have badAt:∀ w',Bel w2 w'→¬ OkAt l n e→k 2 w':=fun w' hb hno=>bad w' (b02.trans hb) fun hG=>hno (hG.ok n e (by omega) he)
 have r7t:∀ K:Int→World→Prop,¬ OkAt l n e→zG5 k n K true w2:=fun K hng w' hb'=>⟨fun _=>badAt _ hb' hng,fun h=>(nomatch h)⟩
 have r6f:∀ K:Int→World→Prop,¬ OkAt l n e→zGx k (some ⟨B,0,none⟩) n K (some ⟨C,0,none⟩) false w2:=fun K hng=>⟨fun _=>r7t K hng,fun h=>(nomatch h)⟩
 have r5f:∀ K:Int→World→Prop,¬ OkAt l n e→zGw k (some ⟨B,0,none⟩) n K (some ⟨C,0,none⟩) false w2:=fun K hng=>⟨fun h=>(nomatch h),fun _=>r6f K hng⟩
 have r4f:∀ K:Int→World→Prop,¬ OkAt l n e→zGK k (some ⟨B,0,none⟩) n K (some ⟨C,0,none⟩) false w2:=fun K hng=>⟨fun h=>(nomatch h),fun _=>r5f K hng⟩
 have r3f:∀ K:Int→World→Prop,¬ OkAt l n e→zGs k (some ⟨B,0,none⟩) n K (some ⟨C,0,none⟩) false w2:=fun K hng=>⟨fun h=>(nomatch h),fun _=>r4f K hng⟩
 refine zDi zFZ zA9 hX.at e.At rfl ?_
 refine ⟨fun hlo=>?_,fun hc=>r3f _ (fun hG=>by have:=hG.1.lo;omega)⟩
 refine zDi zFZ zA9 hX.at e.At rfl ?_
 by_cases hhi:e.At≤2305843009213693952
 case neg=>rw [decide_eq_false hhi];exact r3f _ (fun hG=>by have:=hG.1.hi;omega)
 rw [decide_eq_true hhi]
 unfold zGs
 refine ⟨fun _=>?_,fun h=>(nomatch h)⟩
 refine zDi zGr zJu hX.at e.Gone rfl ?_
 have r4t:∀ K:Int→World→Prop,(∀ w',Bel w2 w'→OkAt l n e→K (IntKind.wrap .i64 ((n:Int)+1)) w')→(e.Gone=true→e.Val=noB)→zGK k (some ⟨B,0,none⟩) n K (some ⟨C,0,none⟩) true w2:=by
  intro K hK hgone
  unfold zGK
  refine ⟨fun _=>?_,fun h=>(nomatch h)⟩
  refine zDi zEG zAc hX.at e.Key rfl ?_
  by_cases hkl:(e.Key.size:Int)≤256
  case neg=>rw [decide_eq_false hkl];exact r5f _ (fun hG=>by have:=hG.1.keyl;omega)
  rw [decide_eq_true hkl]
  unfold zGw
  refine ⟨fun _=>?_,fun h=>(nomatch h)⟩
  refine zDi zGN zAc hX.at e.Val rfl ?_
  by_cases hvl:(e.Val.size:Int)≤512
  case neg=>rw [decide_eq_false hvl];exact r6f _ (fun hG=>by have:=hG.1.vall;omega)
  rw [decide_eq_true hvl]
  have made:Made e:=⟨by omega,by omega,hgone,by omega,by omega⟩
  have r7f:OkAt l n e→zG5 k n K false w2:=fun hG w' hb'=>⟨fun h=>(nomatch h),fun _=>hK w' hb' hG⟩
  unfold zGx
  refine ⟨fun h=>(nomatch h),fun _=>⟨fun h0=>?_,fun h0=>r7f ⟨made,fun j y hj _=>by omega⟩⟩⟩
  obtain ⟨p,hp⟩:=getV (l:=l) (n:=n - 1) (by omega)
  have hp':l[((n:Int) - 1).toNat]?=some p:=by rw [show ((n:Int) - 1).toNat=n - 1 by omega];exact hp
  have uniq:∀ j y,n=j+1→l[j]?=some y→y=p:=fun j y hj hy=>by rw [show j=n - 1 by omega,hp] at hy;cases hy;rfl
  rw [wr64 (by omega) (by omega)]
  refine zMG zAh zAl hV2.at x0.List rfl ?_
  refine zOL (h.bel b02) zBU zC2 (by omega) hp' fun ad hA=>?_
  refine zOO zAx p rfl hA rfl ?_
  refine zOO zAx e rfl hX.at rfl ?_
  refine ⟨ordI p e,zTZ p e w2,?_⟩
  by_cases hv:vlt p e
  ·have:=zNi.2 hv
   rw [decide_eq_false (by omega)]
   exact r7f ⟨made,fun j y hj hy=>by rw [uniq j y hj hy];exact hv⟩
  ·have:¬ ordI p e<0:=fun h1=>hv (zNi.1 h1)
   rw [decide_eq_true (by omega)]
   exact r7t K (fun hG=>hv (hG.2 (n - 1) p (by omega) hp))
 have again:∀ w',Bel w2 w'→OkAt l n e→(fun (x':Int) (w':World)=>(∃ n:Nat,x'=(n:Int)∧n≤l.length∧Bel w1 w'∧OkTo l n)∧(x0.List.len - x').toNat<(x0.List.len - (n:Int)).toNat) (IntKind.wrap .i64 ((n:Int)+1)) w':=by
  intro w' hb' hG
  rw [wr64 (by omega) (by omega)]
  exact ⟨⟨n+1,by omega,by omega,(hb.trans b2).trans hb',hok.succ he hG⟩,by omega⟩
 unfold zIB
 refine ⟨fun hg=>r4t _ again (fun h=>by rw [h] at hg;cases hg),fun hg=>?_⟩
 have hg':e.Gone=true:=by cases h:e.Gone<;>simp_all
 refine zDi zGN zAc hX.at e.Val rfl ?_
 by_cases hv:e.Val=noB
 ·rw [decide_eq_true hv]
  exact r4t _ again fun _=>hv
 ·rw [decide_eq_false hv]
  exact r4f _ (fun hG=>hv (hG.1.gone hg'))
theorem zPI {w:World} {x0:zAH} {l:List Ver} (h:VerRd w x0.List l) (t:Int) {k:Int→World→Prop} (H:∀ w',Bel w w'→k (vask l x0.Low t) w'):
  Cl Tryz.prog zOQ [zAH.v x0,.int .u64 t].toArray w (fun e w'=>∃ r0:Int,e=.returned (.int .i64 r0)∧k r0 w'):=by
 refine zOW x0 t w k ?_
 unfold zLT
 refine zGl (cs:=x0.cells) rfl fun B w1 b1 hV _=>?_
 refine zII zAg x0 rfl hV.at rfl ?_
 refine zNo (h.bel b1) fun w2 b2=>?_
 have b02:=b1.trans b2
 unfold vask at H
 refine ⟨fun hc=>?_,fun hc=>?_⟩
 ·rw [if_neg (by simp [hc])] at H
  refine zDi zFa zA9 (hV.bel b2).at x0.Low rfl ?_
  unfold zG7
  refine ⟨fun ht=>?_,fun hf=>?_⟩
  ·rw [if_pos (of_decide_eq_true ht)] at H;exact H w2 b02
  ·rw [if_neg (of_decide_eq_false hf)] at H;rw [hc];exact H w2 b02
 ·rw [if_pos hc] at H
  unfold zG7
  refine ⟨fun h=>(nomatch h),fun _=>?_⟩
  rw [zS7 hc];exact H w2 b02
end Go.Proofs.YtealcoghiaeiiaaGreat.VG
set_option linter.unusedVariables false
namespace Go.Proofs.YtealcoghiaeiiaaGreat.VG
open Go.VB Go.VB.Srt Go.Proofs Go.RowKit
theorem zTJ {w:World} {x0:zAH} {l:List Ver} (h:VerRd w x0.List l) (key:ByteArray) (t:Int) {k:ByteArray→Bool→Int→World→Prop}
  (H:∀ w',Bel w w'→k (vget l x0.Low key t).1 (vget l x0.Low key t).2.1 (vget l x0.Low key t).2.2 w'):
  Cl Tryz.prog zPh [zAH.v x0,.string key,.int .u64 t].toArray w (fun e w'=>∃ (r0:ByteArray) (r1:Bool) (r2:Int),e=.returned (.tuple [.string r0,.bool r1,.int .i64 r2].toArray)∧k r0 r1 r2 w'):=by
 refine zPV x0 key t w k ?_
 unfold zMq
 refine zGl (cs:=x0.cells) rfl fun B w1 b1 hV _=>?_
 refine zII zAg x0 rfl hV.at rfl ?_
 refine zPI (h.bel b1) t fun w2 b2=>?_
 have b02:=b1.trans b2
 unfold vget at H
 refine ⟨fun hc=>?_,fun hc=>?_⟩
 ·rw [if_pos hc] at H;exact H w2 b02
 rw [if_neg hc] at H
 have hg:=(zLS.1 (Classical.not_not.1 hc)).1
 refine zDi zAh zAl (hV.bel b2).at x0.List rfl ?_
 refine zPb (h.bel b02) hg.sorted key t fun w3 b3=>?_
 refine zJb zGO rfl zAx (cs:=(verOr (sees l key t)).cells) rfl rfl rfl fun C w4 b4 hX _=>?_
 have b04:=(b02.trans b3).trans b4
 refine zMG zGN zAc hX.at (verOr (sees l key t)).Val rfl ?_
 cases hs:sees l key t with
 |none=>
  refine ⟨fun h=>(nomatch h),fun _=>?_⟩
  intro w5 b5
  rw [hs] at H
  exact H w5 (b04.trans b5)
 |some x=>
  refine ⟨fun _=>?_,fun h=>(nomatch h)⟩
  rw [hs] at hX
  refine zMG zGr zJu hX.at x.Gone rfl ?_
  intro w5 b5
  rw [hs] at H
  exact H w5 (b04.trans b5)
theorem zPw {base:Nat} {w0 w:World} {s:Sl} {l:List Ver} {x:Ver} {k:Sl→World→Prop} (hO:zFt base w s l) (hB:Bel w0 w) (hb:w0.heap.size≤base) (hbw:base≤w.heap.size) (room:l.length+1≤2932031007402)
  (H:∀ s' w',zFt base w' s' (l++[x])→Bel w0 w'→w.grownBy w' (Sl.v s).ownBlock→k s' w'):
  opE Tryz.prog Sl.v (Instr.buildSlice zAW 1 [(0,zAB.v x)].toArray) w (fun y w=>opE Tryz.prog Sl.v (Builtin.append_ #[zAW,zAW] zAW [Sl.v s,Sl.v y].toArray) w k):=
 zRG hO (fun _=>rfl) (fun _=>rfl) (by decide) zBU zKe rfl (by decide) (zK0 x) hB hb hbw (by omega) H
theorem zQp {base:Nat} {w0 w:World} {s y:Sl} {l m:List Ver} {k:Sl→World→Prop} (hO:zFt base w s l) (hy:VerRd w y m) (hB:Bel w0 w) (hb:w0.heap.size≤base) (hbw:base≤w.heap.size) (room:l.length+m.length≤2932031007402)
  (H:∀ s' w',zFt base w' s' (l++m)→Bel w0 w'→w.grownBy w' (Sl.v s).ownBlock→k s' w'):
  opE Tryz.prog Sl.v (Builtin.append_ #[zAW,zAW] zAW [Sl.v s,Sl.v y].toArray) w k:=
 zTN hO hy (fun _=>rfl) (fun _=>rfl) (by decide) zBU zKe rfl (by decide) hB hb hbw (by omega) H
theorem zOz {α:Type} {l m:List α} {n:Nat} {e:α} (h:l.take n=m.take n) (h1:l[n]?=some e) (h2:m[n]?=some e):l.take (n+1)=m.take (n+1):=by
 rw [zIx h1,zIx h2,h]
end Go.Proofs.YtealcoghiaeiiaaGreat.VG
set_option linter.unusedVariables false
set_option linter.unusedSimpArgs false
namespace Go.Proofs.YtealcoghiaeiiaaGreat.VG
open Go.VB Go.Proofs
def zL6 (x0:Sl) (w:World) (Ret:Value→World→Prop):Prop:=
 opE Tryz.prog Value.pointer (Instr.box 67 (Sl.v x0)) w (fun x1 w=>Ret (.func (.func 88) [].toArray [(.pointer x1)].toArray) w)
set_option maxRecDepth 100000 in
theorem zPD (x0:Sl) (w:World) (Ret:Value→World→Prop) (H:zL6 x0 w Ret):Cl Tryz.prog 70 [(Sl.v x0)].toArray w (fun e w'=>∃ (r0:Value),e=.returned r0∧Ret r0 w'):=by
 unfold zL6 at H
 refine zAY 4 (zipE 0 [(Sl.v x0)]) Tryz.func70 rfl rfl (by rfl) rfl ?_
 intro a g
 replace g:Sat [] 4 [(0,(Sl.v x0))] a:=g
 exact zAF (zAA (g.op (zIm g rfl) H fun x1 w a H g=>(g.as_ rfl fun _ g=>(zAG (tn (zAF (zAA (g.pur (zKM g rfl rfl) fun _ g=>(g.as_ rfl fun _ g=>(zAG (tn (zAf (zAt g rfl rfl ⟨_,rfl,H⟩)))))))))))))
def zHQ (x0:Value) (x1:Option Addr) (Ret:World→Prop) (x3:Int) (Kl1:Int→World→Prop) (x4:Int) (Kl2:Int→World→Prop) (x27:Bool) (w:World):Prop:=
 nextB w (fun w=>(x27=true→(Kl2 (IntKind.wrap .i64 (x4+1)) w))∧(x27=false→(nextB w (fun w=>(opE Tryz.prog Sl.v (Instr.loadAt 67 (.pointer x1)) w (fun x31 w=>opP Tryz.prog Value.pointer (Instr.indexAt 67 (Sl.v x31) (.int .i64 x3)) (fun x33=>opP Tryz.prog Value.pointer (Instr.fieldAt 72 (.pointer x33) 0) (fun x34=>(opE Tryz.prog Value.string (Instr.loadAt 9 (.pointer x34)) w (fun x35 w=>opE Tryz.prog Sl.v (Instr.loadAt 67 (.pointer x1)) w (fun x36 w=>opP Tryz.prog Sl.v (Instr.sliceAt 67 (Sl.v x36) (some (.int .i64 x3)) (some (.int .i64 x4)) none) (fun x39=>CallV Tryz.prog x0 [(.string x35),(Sl.v x39)] w (fun e w=>∃ (r:Bool),e=.returned (.bool r)∧(((!r)=true→(Ret w))∧((!r)=false→(Kl1 x4 w))))))))∧(opE Tryz.prog Sl.v (Instr.loadAt 67 (.pointer x1)) w (fun x36_1 w=>opP Tryz.prog Sl.v (Instr.sliceAt 67 (Sl.v x36_1) (some (.int .i64 x3)) (some (.int .i64 x4)) none) (fun x39_1=>opE Tryz.prog Value.string (Instr.loadAt 9 (.pointer x34)) w (fun x35_1 w=>CallV Tryz.prog x0 [(.string x35_1),(Sl.v x39_1)] w (fun e w=>∃ (r_1:Bool),e=.returned (.bool r_1)∧(((!r_1)=true→(Ret w))∧((!r_1)=false→(Kl1 x4 w))))))))))))∧(opE Tryz.prog Sl.v (Instr.loadAt 67 (.pointer x1)) w (fun x36_2 w=>opP Tryz.prog Sl.v (Instr.sliceAt 67 (Sl.v x36_2) (some (.int .i64 x3)) (some (.int .i64 x4)) none) (fun x39_2=>opE Tryz.prog Sl.v (Instr.loadAt 67 (.pointer x1)) w (fun x31_1 w=>opP Tryz.prog Value.pointer (Instr.indexAt 67 (Sl.v x31_1) (.int .i64 x3)) (fun x33_1=>opP Tryz.prog Value.pointer (Instr.fieldAt 72 (.pointer x33_1) 0) (fun x34_1=>opE Tryz.prog Value.string (Instr.loadAt 9 (.pointer x34_1)) w (fun x35_2 w=>CallV Tryz.prog x0 [(.string x35_2),(Sl.v x39_2)] w (fun e w=>∃ (r_2:Bool),e=.returned (.bool r_2)∧(((!r_2)=true→(Ret w))∧((!r_2)=false→(Kl1 x4 w)))))))))))))))
def zIF (x0:Value) (x1:Option Addr) (Ret:World→Prop) (x3:Int) (Kl1:Int→World→Prop) (x4:Int) (w:World) (Kl2:Int→World→Prop):Prop:=
 opB Tryz.prog Sl.v (Instr.loadAt 67 (.pointer x1)) w (fun x12=>((x4<(x12.len:Int))→(opB Tryz.prog Sl.v (Instr.loadAt 67 (.pointer x1)) w (fun x16=>opB Tryz.prog Value.pointer (Instr.indexAt 67 (Sl.v x16) (.int .i64 x4)) w (fun x18=>opB Tryz.prog Value.pointer (Instr.fieldAt 72 (.pointer x18) 0) w (fun x19=>opB Tryz.prog Value.string (Instr.loadAt 9 (.pointer x19)) w (fun x20=>opB Tryz.prog Sl.v (Instr.loadAt 67 (.pointer x1)) w (fun x21=>opB Tryz.prog Value.pointer (Instr.indexAt 67 (Sl.v x21) (.int .i64 x3)) w (fun x23=>opB Tryz.prog Value.pointer (Instr.fieldAt 72 (.pointer x23) 0) w (fun x24=>opB Tryz.prog Value.string (Instr.loadAt 9 (.pointer x24)) w (fun x25=>zHQ x0 x1 Ret x3 Kl1 x4 Kl2 (decide (x20=x25)) w))))))))))∧(¬ (x4<(x12.len:Int))→(zHQ x0 x1 Ret x3 Kl1 x4 Kl2 false w)))
def zIS (x0:Value) (x1:Option Addr) (Ret:World→Prop) (x3:Int) (w:World) (Kl1:Int→World→Prop):Prop:=
 opE Tryz.prog Sl.v (Instr.loadAt 67 (.pointer x1)) w (fun x6 w=>((x3<(x6.len:Int))→(∃ (I:Int→World→Prop) (μ:Int→World→Nat),I (IntKind.wrap .i64 (x3+1)) w∧∀ (x4:Int) w,I x4 w→zIF x0 x1 Ret x3 Kl1 x4 w (fun x4' w'=>I x4' w'∧μ x4' w'<μ x4 w)))∧(¬ (x3<(x6.len:Int))→(Ret w)))
def zK4 (x0:Value) (x1:Option Addr) (w:World) (Ret:World→Prop):Prop:=
 ∃ (I:Int→World→Prop) (μ:Int→World→Nat),I 0 w∧∀ (x3:Int) w,I x3 w→zIS x0 x1 Ret x3 w (fun x3' w'=>I x3' w'∧μ x3' w'<μ x3 w)
set_option maxRecDepth 100000 in
theorem zN0 (x0:Value) (x1:Option Addr) (w:World) (Ret:World→Prop) (H:zK4 x0 x1 w Ret):Cl Tryz.prog 88 [x0,(.pointer x1)].toArray w (fun e w'=>e=.returned (.tuple [].toArray)∧Ret w'):=by
 unfold zK4 at H
 refine zAY 43 (zipE 0 [x0,(.pointer x1)]) Tryz.func88 rfl rfl (by rfl) rfl ?_
 intro a g
 replace g:Sat [] 43 [(0,x0),(1,(.pointer x1))] a:=g
 refine zAF (zAA (g.as_ rfl fun _ g=>(zAG (tn (zAN ?_)))))
 obtain ⟨I_l1,μ_l1,h0,hb⟩:=H
 refine zBl (ds:=[]) (N:=43) (σ:=Int) (fun s=>[(3,(.int .i64 s)),(0,x0),(1,(.pointer x1))]) (fun s w=>I_l1 s w) (fun s w=>μ_l1 s w) 0 h0 (g.weak ⟨rfl,rfl,rfl,trivial⟩) ?_
 intro x3 w a hI g
 try dsimp only at hI g
 obtain ⟨Kl1,hK_l1⟩:∃ K:Int→World→Prop,K=(fun x3' w'=>I_l1 x3' w'∧μ_l1 x3' w'<μ_l1 x3 w):=⟨_,rfl⟩
 have H:zIS x0 x1 Ret x3 w Kl1:=by rw [hK_l1];exact hb x3 w hI
 clear hb h0 hI
 unfold zIS at H
 refine zAF (zAF (zAA (g.mv rfl fun _ g=>(g.op (zAI g rfl) H fun x6 w a H g=>(g.purR (fun w=>zGm g Tryz.underlying67 rfl) fun _ g=>(g.pur (zDp g rfl rfl) fun _ g=>(zAG (tn (zAR g rfl (fun hc=>?_) (fun hc=>?_))))))))))
 ·replace H:=H.1 hc
  refine zAP (tn (zAN (zAF (zAA (g.mv rfl fun _ g=>(g.pur (zAn g rfl rfl) fun _ g=>(g.as_ rfl fun _ g=>(zAG (tn (zAF (zAN ?_)))))))))))
  obtain ⟨I_l2,μ_l2,h0,hb⟩:=H
  refine zBl (ds:=[]) (N:=43) (σ:=Int) (fun s=>[(4,(.int .i64 s)),(0,x0),(1,(.pointer x1)),(3,(.int .i64 x3))]) (fun s w=>I_l2 s w) (fun s w=>μ_l2 s w) (IntKind.wrap .i64 (x3+1)) h0 (g.weak ⟨rfl,rfl,rfl,rfl,trivial⟩) ?_
  intro x4 w a hI g
  try dsimp only at hI g
  obtain ⟨Kl2,hK_l2⟩:∃ K:Int→World→Prop,K=(fun x4' w'=>I_l2 x4' w'∧μ_l2 x4' w'<μ_l2 x4 w):=⟨_,rfl⟩
  have H:zIF x0 x1 Ret x3 Kl1 x4 w Kl2:=by rw [hK_l2];exact hb x4 w hI
  clear hb h0 hI
  unfold zIF at H
  refine zAF (zAF (zEB (by kernel_rfl) (by kernel_rfl) (g.qm rfl fun _ g=>(g.qop (zAI g rfl) H fun x12 a H g=>(g.qpurR (fun w=>zGm g Tryz.underlying67 rfl) fun _ g=>(g.qpur (zDp g rfl rfl) fun _ g=>(g.qm rfl fun _ g=>(WQ.join (ds:=[]) (N:=43) (σ:=Bool) (fun s=>[(27,(.bool s)),(0,x0),(1,(.pointer x1)),(3,(.int .i64 x3)),(4,(.int .i64 x4))]) (fun s=>zHQ x0 x1 Ret x3 Kl1 x4 Kl2 s w) 12 ?_ (fun hr3=>?_)))))))))
  ·intro x27 a H g
   try dsimp only at H g
   unfold zHQ at H
   refine zED (fun w hB=>?_)
   replace H:=H w hB
   refine (tn (zAV g rfl (fun hc=>?_) (fun hc=>?_)))
   ·replace H:=H.1 hc
    refine zAP (tn (zAN (zAA (g.mv rfl fun _ g=>(g.pur (zAn g rfl rfl) fun _ g=>(g.as_ rfl fun _ g=>?_))))))
    rw [hK_l2] at H
    exact zAG (bn (tn ⟨(IntKind.wrap .i64 (x4+1)),g.weak ⟨rfl,rfl,rfl,rfl,trivial⟩,H⟩))
   ·replace H:=H.2 hc
    refine zBJ (te (te (be (tn (zAF (zAF (zKK 12 fun w hB=>?_)))))))
    replace H:=H w hB
    refine g.ap 0 rfl (zAL g rfl) fun _ g=>g.ap 2 rfl (zAL g rfl) fun _ g=>g.ap 7 rfl (zAL g rfl) fun _ g=>g.ap 8 rfl (zAL g rfl) fun _ g=>WA.tw 1 6 rfl rfl ?_ ?_
    ·replace H:=H.1
     intro K hK
     refine g.wop (zAI g rfl) H fun x31 w a H g=>hK _ _ (g.ao 3 rfl (zAC g rfl rfl) H fun x33 a H g=>(g.ao 4 rfl (zAJ g rfl) H fun x34 a H g=>(WA.tw 5 6 rfl rfl ?_ ?_)))
     ·replace H:=H.1
      intro K hK
      refine g.wop (zAI g rfl) H fun x35 w a H g=>hK _ _ (g.o1 6 rfl (zAI g rfl) H fun x36 w a H g=>(g.ao 9 rfl (zNq g rfl rfl rfl rfl) H fun x39 a H g=>(WA.one (i:=10) rfl (by kernel_rfl) rfl ?_)))
      intro K hK
      refine g.wcallV rfl rfl H fun e w H=>?_
      obtain ⟨r,rfl,H⟩:=H
      refine ⟨_,rfl,fun _ g=>(hK _ _ (g.ap 11 rfl (zGp g rfl) fun _ g=>(WA.ni ((tn (zAV g rfl (fun hc=>?_) (fun hc=>?_)))))))⟩
      ·replace H:=H.1 hc
       exact zAf (tr (br (tr (br (zKH g rfl ⟨rfl,H⟩)))))
      ·replace H:=H.2 hc
       refine zAP (tn (zAA (g.mv rfl fun _ g=>(g.as_ rfl fun _ g=>?_))))
       rw [hK_l1] at H
       exact zAG (bn (tn ⟨x4,g.weak ⟨rfl,rfl,rfl,trivial⟩,H⟩))
     ·replace H:=H.2
      intro K hK
      refine g.wop (zAI g rfl) H fun x36_1 w a H g=>hK _ _ (g.ao 9 rfl (zNq g rfl rfl rfl rfl) H fun x39_1 a H g=>(g.o1 5 rfl (zAI g rfl) H fun x35_1 w a H g=>(WA.one (i:=10) rfl (by kernel_rfl) rfl ?_)))
      intro K hK
      refine g.wcallV rfl rfl H fun e w H=>?_
      obtain ⟨r_1,rfl,H⟩:=H
      refine ⟨_,rfl,fun _ g=>(hK _ _ (g.ap 11 rfl (zGp g rfl) fun _ g=>(WA.ni ((tn (zAV g rfl (fun hc=>?_) (fun hc=>?_)))))))⟩
      ·replace H:=H.1 hc
       exact zAf (tr (br (tr (br (zKH g rfl ⟨rfl,H⟩)))))
      ·replace H:=H.2 hc
       refine zAP (tn (zAA (g.mv rfl fun _ g=>(g.as_ rfl fun _ g=>?_))))
       rw [hK_l1] at H
       exact zAG (bn (tn ⟨x4,g.weak ⟨rfl,rfl,rfl,trivial⟩,H⟩))
    ·replace H:=H.2
     intro K hK
     refine g.wop (zAI g rfl) H fun x36_2 w a H g=>hK _ _ (g.ao 9 rfl (zNq g rfl rfl rfl rfl) H fun x39_2 a H g=>(g.o1 1 rfl (zAI g rfl) H fun x31_1 w a H g=>(g.ao 3 rfl (zAC g rfl rfl) H fun x33_1 a H g=>(g.ao 4 rfl (zAJ g rfl) H fun x34_1 a H g=>(g.o1 5 rfl (zAI g rfl) H fun x35_2 w a H g=>(WA.one (i:=10) rfl (by kernel_rfl) rfl ?_))))))
     intro K hK
     refine g.wcallV rfl rfl H fun e w H=>?_
     obtain ⟨r_2,rfl,H⟩:=H
     refine ⟨_,rfl,fun _ g=>(hK _ _ (g.ap 11 rfl (zGp g rfl) fun _ g=>(WA.ni ((tn (zAV g rfl (fun hc=>?_) (fun hc=>?_)))))))⟩
     ·replace H:=H.1 hc
      exact zAf (tr (br (tr (br (zKH g rfl ⟨rfl,H⟩)))))
     ·replace H:=H.2 hc
      refine zAP (tn (zAA (g.mv rfl fun _ g=>(g.as_ rfl fun _ g=>?_))))
      rw [hK_l1] at H
      exact zAG (bn (tn ⟨x4,g.weak ⟨rfl,rfl,rfl,trivial⟩,H⟩))
  ·rcases Classical.em ((x4<(x12.len:Int))) with hbr3|hbr3
   ·replace H:=H.1 hbr3
    replace g:=g.bool (b:=true) (t:=15) rfl (decide_eq_true hbr3)
    exact g.qon (by rfl) (by rfl) (g.qop (zAI g rfl) H fun x16 a H g=>(g.qon (by rfl) (by rfl) (g.qm rfl fun _ g=>(g.qon (by rfl) (by rfl) (g.qop (zAC g rfl rfl) H fun x18 a H g=>(g.qon (by rfl) (by rfl) (g.qop (zAJ g rfl) H fun x19 a H g=>(g.qon (by rfl) (by rfl) (g.qop (zAI g rfl) H fun x20 a H g=>(g.qon (by rfl) (by rfl) (g.qop (zAI g rfl) H fun x21 a H g=>(g.qon (by rfl) (by rfl) (g.qm rfl fun _ g=>(g.qon (by rfl) (by rfl) (g.qop (zAC g rfl rfl) H fun x23 a H g=>(g.qon (by rfl) (by rfl) (g.qop (zAJ g rfl) H fun x24 a H g=>(g.qon (by rfl) (by rfl) (g.qop (zAI g rfl) H fun x25 a H g=>(g.qon (by rfl) (by rfl) (g.qpur (zQa g rfl rfl) fun _ g=>(g.qpur (zAj g rfl rfl) fun _ g=>(hr3 (decide (x20=x25)) _ H (g.weak ⟨rfl,rfl,rfl,rfl,rfl,trivial⟩))))))))))))))))))))))))
   ·replace H:=H.2 hbr3
    replace g:=g.bool (b:=false) (t:=15) rfl (decide_eq_false hbr3)
    exact g.qoff (by rfl) (by rfl) (by decide) (fun _ g=>(g.qoff (by rfl) (by rfl) (by decide) (fun _ g=>(g.qoff (by rfl) (by rfl) (by decide) (fun _ g=>(g.qoff (by rfl) (by rfl) (by decide) (fun _ g=>(g.qoff (by rfl) (by rfl) (by decide) (fun _ g=>(g.qoff (by rfl) (by rfl) (by decide) (fun _ g=>(g.qoff (by rfl) (by rfl) (by decide) (fun _ g=>(g.qoff (by rfl) (by rfl) (by decide) (fun _ g=>(g.qoff (by rfl) (by rfl) (by decide) (fun _ g=>(g.qoff (by rfl) (by rfl) (by decide) (fun _ g=>(g.qoff (by rfl) (by rfl) (by decide) (fun _ g=>(g.qpur (zAi g rfl rfl) fun _ g=>(hr3 false _ H (g.weak ⟨rfl,rfl,rfl,rfl,rfl,trivial⟩))))))))))))))))))))))))
 ·replace H:=H.2 hc
  exact zBJ (te (te (be (zG1 g rfl ⟨rfl,H⟩))))
end Go.Proofs.YtealcoghiaeiiaaGreat.VG
set_option linter.unusedVariables false
namespace Go.Proofs.YtealcoghiaeiiaaGreat.VG
open Go.VB Go.VB.Srt Go.Proofs Go.RowKit
def Bdry (l:List Ver) (n:Nat):Prop:=∀ j x y,n=j+1→l[j]?=some x→l[n]?=some y→x.Key≠y.Key
structure Seg (l:List Ver) where
 lo:Nat
 hi:Nat
 key:ByteArray
 lt:lo<hi
 le:hi≤l.length
 all:∀ j x,lo≤j→j<hi→l[j]?=some x→x.Key=key
 bl:Bdry l lo
 bh:Bdry l hi
def Seg.vers {l:List Ver} (s:Seg l):List Ver:=(l.drop s.lo).take (s.hi - s.lo)
inductive Cuts (l:List Ver):List (Seg l)→Nat→Prop
 |nil:Cuts l [] 0
 |snoc {pre:List (Seg l)} (s:Seg l):Cuts l pre s.lo→Cuts l (pre++[s]) s.hi
theorem Bdry.zero (l:List Ver):Bdry l 0:=fun j x y h=>by omega
theorem zPv {l:List Ver} (s:Seg l):l.take s.hi=l.take s.lo++s.vers:=by
 unfold Seg.vers
 have h:=s.lt
 have:s.hi=s.lo+(s.hi - s.lo):=by omega
 conv=>lhs;rw [this,List.take_add]
theorem Seg.mem {l:List Ver} (s:Seg l) {x:Ver} (h:x∈s.vers):x∈l∧x.Key=s.key:=by
 obtain ⟨j,hj⟩:=List.getElem?_of_mem h
 unfold Seg.vers at hj
 have h1:=(List.getElem?_eq_some_iff.1 hj).1
 rw [List.length_take,List.length_drop] at h1
 rw [List.getElem?_take_of_lt (by omega),List.getElem?_drop] at hj
 exact ⟨List.mem_of_getElem? hj,s.all _ x (by omega) (by omega) hj⟩
theorem Seg.rd {w:World} {x0:Sl} {l:List Ver} (h:VerRd w x0 l) (s:Seg l):VerRd w (x0.sub s.lo s.hi 4) s.vers:=h.sub (Nat.le_of_lt s.lt) (by rw [← h.len];exact s.le)
def zFG (w0:World) (b:Nat) (A B:World):Prop:=(Bel w0 A→Bel w0 B)∧B.heap[b]?=A.heap[b]?
theorem zFG.refl (w0:World) (b:Nat) (A:World):zFG w0 b A A:=⟨fun h=>h,rfl⟩
theorem zFG.trans {w0:World} {b:Nat} {A B C:World} (h:zFG w0 b A B) (k:zFG w0 b B C):zFG w0 b A C:=⟨fun h1=>k.1 (h.1 h1),k.2.trans h.2⟩
theorem zFG.bel {w0:World} {b:Nat} {A B:World} (h:Bel A B) (hb:b<A.heap.size):zFG w0 b A B:=⟨fun h1=>h1.trans h,h.block b hb⟩
theorem zFG.grown {w0:World} {b:Nat} {A B:World} {row:Option Nat} (h:A.grownBy B row) (hb:b<A.heap.size) (hr:∀ r,row=some r→w0.heap.size≤r∧r≠b):zFG w0 b A B:=
 ⟨fun h1=>h1.grown h (fun r e=>(hr r e).1),h.block b hb (fun e=>(hr b e.symm).2 rfl)⟩
theorem zKo.of2 {α:Type} {P:Program} {v:Value} {encs:α→List Value} {w0:World} {b:Nat} {S Sp:List α→Prop} {Num:Nat} {I Ir:List α→World→Prop} {w:World} (hs:SeqAt P v encs (zFG w0 b) S Sp Num w) (hn:w0.heap.size≤w.heap.size) (hb:b<w.heap.size)
  (own:OwnFrom w.heap.size I) (ownr:OwnFrom w.heap.size Ir) (lo:∀ pre W,I pre W→w.heap.size≤W.heap.size) (start:I [] w):zKo P v encs (zFG w0 b) S Sp Num I Ir w:=
 ⟨hs,fun A B C h k=>h.trans k,fun W l o o' h1 h2 h3 h4=>by
  have hl:=(Array.getElem?_eq_some_iff.1 h2).1
  exact zFG.grown (grownBy_putObj' W l o') (by omega) (fun r e=>by cases e;exact ⟨by omega,by omega⟩),fun pre W o hI=>zFG.bel (Bel.alloc W o) (Nat.lt_of_lt_of_le hb (lo pre W hI)),own,ownr,lo,start⟩
abbrev zTn (x0:Sl) (l:List Ver) (v:Value) (w0:World) (b:Nat) (w:World):Prop:=
 SeqAt Tryz.prog v (fun s:Seg l=>[.string s.key,Sl.v (x0.sub s.lo s.hi 4)]) (zFG w0 b) (fun xs=>Cuts l xs l.length) (fun _=>True) l.length w
theorem zR1 {w0 w:World} {x0:Sl} {l:List Ver} (hw:Bel w0 w) (h:VerRd w0 x0 l) {b1:Nat} (h1:Row w b1 [Sl.v x0] zAW):
  SeqStopsK (FW none) 0 Tryz.prog zLy [.pointer (some ⟨b1,0,none⟩)].toArray (fun s:Seg l=>([.string s.key,Sl.v (x0.sub s.lo s.hi 4)]:List Value).toArray) (zFG w0 b1) (fun xs=>Cuts l xs l.length) (fun _=>True) l.length w:=by
 intro l' J Jx W hW hJ hJx hY h0
 have hbig:=h.big;have hcap:=h.cap;have hlen:=h.len
 have C:=zN0 (.func (.yield l') #[] #[]) (some ⟨b1,0,none⟩) W (fun w'=>(∃ xs,Cuts l xs l.length∧J xs w')∨(∃ pre,True∧Jx pre w')) ?_
 ·exact CallsIn.mono C fun e w' hr=>⟨⟨_,hr.1⟩,hr.2⟩
 unfold zK4
 refine ⟨fun x w1=>∃ (n:Nat) (pre:List (Seg l)),x=(n:Int)∧n≤l.length∧(Bel w0 w1∧Row w1 b1 [Sl.v x0] zAW)∧Cuts l pre n∧Bdry l n∧pre.length≤n∧J pre w1,fun x _=>(x0.len - x).toNat,?_,?_⟩
 ·exact ⟨0,[],rfl,by omega,⟨hw.trans hW,h1.bel hW⟩,Cuts.nil,Bdry.zero l,by simp,h0⟩
 rintro x w1 ⟨n,pre,rfl,hn,hb,hC,hB,hp,hj⟩
 unfold zIS
 refine zHM zAl x0 hb.2.cell ?_
 refine ⟨fun hlt=>?_,fun hlt=>?_⟩
 case refine_2=>
  obtain rfl:n=l.length:=by omega
  exact .inl ⟨pre,hC,hj⟩
 obtain ⟨e,he⟩:=getV (l:=l) (n:=n) (by omega)
 rw [wr64 (by omega) (by omega)]
 refine ⟨fun y w2=>∃ m:Nat,y=(m:Int)∧n<m∧m≤l.length∧(Bel w0 w2∧Row w2 b1 [Sl.v x0] zAW)∧(∀ j x,n≤j→j<m→l[j]?=some x→x.Key=e.Key)∧J pre w2,fun y _=>(x0.len - y).toNat,?_,?_⟩
 ·exact ⟨n+1,by omega,by omega,by omega,hb,fun j x h1 h2 hx=>(by
   obtain rfl:j=n:=by omega
   rw [he] at hx;cases hx;rfl),hj⟩
 rintro y w2 ⟨m,rfl,hnm,hm,hb2,hall,hj2⟩
 unfold zIF
 refine zQu zAl x0 hb2.2.cell ?_
 have give:(∀ x,l[m]?=some x→x.Key≠e.Key)→zHQ (.func (.yield l') #[] #[]) (some ⟨b1,0,none⟩) (fun w'=>(∃ xs,Cuts l xs l.length∧J xs w')∨(∃ pre,True∧Jx pre w')) n
   (fun x' w'=>(∃ (n:Nat) (pre:List (Seg l)),x'=(n:Int)∧n≤l.length∧(Bel w0 w'∧Row w' b1 [Sl.v x0] zAW)∧Cuts l pre n∧Bdry l n∧pre.length≤n∧J pre w')∧(x0.len - x').toNat<(x0.len - (n:Int)).toNat) m
   (fun y' w'=>(∃ m:Nat,y'=(m:Int)∧n<m∧m≤l.length∧(Bel w0 w'∧Row w' b1 [Sl.v x0] zAW)∧(∀ j x,n≤j→j<m→l[j]?=some x→x.Key=e.Key)∧J pre w')∧(x0.len - y').toNat<(x0.len - (m:Int)).toNat) false w2:=by
  intro hend w3 b3
  refine ⟨fun h=>(nomatch h),fun _=>?_⟩
  have hbm:Bdry l m:=fun j x y hj hx hy=>by
   rw [hall j x (by omega) (by omega) hx]
   exact fun h=>hend y hy h.symm
  let s:Seg l:=⟨n,m,e.Key,hnm,hm,hall,hB,hbm⟩
  intro w4 b4
  have b04:Bel w0 w4∧Row w4 b1 [Sl.v x0] zAW:=⟨(hb2.1.trans b3).trans b4,(hb2.2.bel b3).bel b4⟩
  have hj4:J pre w4:=hJ _ _ _ none (hJ _ _ _ none hj2 (zAT b3 none) (fun r e=>by cases e)) (zAT b4 none) (fun r e=>by cases e)
  have yld:CallV Tryz.prog (.func (.yield l') #[] #[]) [.string e.Key,Sl.v (x0.sub n m 4)] w4 (fun e W0=>∃ r:Bool,e=.returned (.bool r)∧(((!r)=true→((∃ xs,Cuts l xs l.length∧J xs W0)∨(∃ pre,True∧Jx pre W0)))∧((!r)=false→
    ((∃ (n:Nat) (pre:List (Seg l)),(m:Int)=(n:Int)∧n≤l.length∧(Bel w0 W0∧Row W0 b1 [Sl.v x0] zAW)∧Cuts l pre n∧Bdry l n∧pre.length≤n∧J pre W0)∧(x0.len - (m:Int)).toNat<(x0.len - (n:Int)).toNat)))):=by
   refine .inr ⟨l',rfl,YieldAt.mono (hY pre s w4 hj4 (by omega)) fun e' w5 hr=>?_⟩
   rcases hr with ⟨rfl,hj5,hk⟩|⟨rfl,hj5⟩
   ·have hk':Bel w0 w5∧Row w5 b1 [Sl.v x0] zAW:=⟨hk.1 b04.1,hk.2.trans b04.2⟩
    refine ⟨true,rfl,fun h=>(nomatch h),fun _=>?_⟩
    exact ⟨⟨m,pre++[s],rfl,hm,hk',Cuts.snoc s hC,hbm,by simp;omega,hj5⟩,by omega⟩
   ·exact ⟨false,rfl,fun _=>.inr ⟨_,trivial,hj5⟩,fun h=>(nomatch h)⟩
  obtain ⟨ad,had,hA⟩:=(h.bel b04.1).cells n e he
  have q0:∀ {k:Sl→World→Prop},k x0 w4→opE Tryz.prog Sl.v (Instr.loadAt zAW (.pointer (some ⟨b1,0,none⟩))) w4 k:=fun H=>zHM zAl x0 b04.2.cell H
  have q1:∀ {k:Option Addr→Prop},k (some (ad.add (n*4)))→opP Tryz.prog Value.pointer (Instr.indexAt zAW (Sl.v x0) (.int .i64 (n:Int))) k:=fun H=>⟨_,fun W'=>zNU zBU zC2 had (by omega) (by omega),H⟩
  have q2:∀ {k:Option Addr→Prop},k (some ((ad.add (n*4)).add 0))→opP Tryz.prog Value.pointer (Instr.fieldAt zAp (.pointer (some (ad.add (n*4)))) 0) k:=fun H=>⟨_,fun W'=>zEG _ W',H⟩
  have q3:∀ {k:ByteArray→World→Prop},k e.Key w4→opE Tryz.prog Value.string (Instr.loadAt zPB (.pointer (some ((ad.add (n*4)).add 0)))) w4 k:=fun H=>zHM zAc e.Key (hA.fld rfl) H
  have q4:∀ {k:Sl→Prop},k (x0.sub n m 4)→opP Tryz.prog Sl.v (Instr.sliceAt zAW (Sl.v x0) (some (.int .i64 (n:Int))) (some (.int .i64 (m:Int))) none) k:=fun H=>⟨_,fun W'=>zTc zBU zC2 (Nat.le_of_lt hnm) (by omega),H⟩
  exact ⟨q0 (q1 (q2 ⟨q3 (q0 (q4 yld)),q0 (q4 (q3 yld))⟩)),q0 (q4 (q0 (q1 (q2 (q3 yld)))))⟩
 refine ⟨fun hlt2=>?_,fun hlt2=>give fun x hx=>by have:=(List.getElem?_eq_some_iff.1 hx).1;omega⟩
 obtain ⟨f,hf⟩:=getV (l:=l) (n:=m) (by omega)
 refine zQu zAl x0 hb2.2.cell ?_
 refine zOL (h.bel hb2.1) zBU zC2 (by omega) (x:=f) (by simpa using hf) fun ad hA=>?_
 refine zMG zEG zAc hA f.Key rfl ?_
 refine zQu zAl x0 hb2.2.cell ?_
 refine zOL (h.bel hb2.1) zBU zC2 (by omega) (x:=e) (by simpa using he) fun ad hA=>?_
 refine zMG zEG zAc hA e.Key rfl ?_
 by_cases hk:f.Key=e.Key
 ·rw [decide_eq_true hk]
  intro w3 b3
  refine ⟨fun _=>?_,fun h=>(nomatch h)⟩
  rw [wr64 (by omega) (by omega)]
  refine ⟨⟨m+1,by omega,by omega,by omega,⟨hb2.1.trans b3,hb2.2.bel b3⟩,fun j x h1 h2 hx=>?_,hJ _ _ _ none hj2 (zAT b3 none) (fun r e=>by cases e)⟩,by dsimp only;omega⟩
  rcases Nat.lt_or_ge j m with h3|h3
  ·exact hall j x h1 h3 hx
  ·obtain rfl:j=m:=by omega
   rw [hf] at hx;cases hx;exact hk
 ·rw [decide_eq_false hk]
  exact give fun x hx=>by rw [hf] at hx;cases hx;exact hk
theorem zQl {w0 w:World} {x0:Sl} {l:List Ver} (hw:Bel w0 w) (h:VerRd w0 x0 l) {k:Value→World→Prop} (H:∀ v b w',zTn x0 l v w0 b w'→w.heap.size≤b→b<w'.heap.size→Bel w w'→k v w'):
  Cl Tryz.prog zO1 [Sl.v x0].toArray w (fun e w'=>∃ v:Value,e=.returned v∧k v w'):=by
 refine zPD x0 w k ?_
 unfold zL6
 refine zGl (cs:=[Sl.v x0]) rfl fun B w1 b1 hr hB=>?_
 exact H _ B _ ⟨zLy,_,rfl,ent88,zR1 (hw.trans b1) h hr⟩ hB hr.lt b1
end Go.Proofs.YtealcoghiaeiiaaGreat.VG
set_option linter.unusedVariables false
namespace Go.Proofs.YtealcoghiaeiiaaGreat.VG
open Go.VB Go.VB.Srt Go.Proofs Go.RowKit
def zLZ (fr to key:ByteArray):Prop:=sLt key fr=true∨(to≠noB∧sLt key to=false)
open Classical in
noncomputable def one (fr to key:ByteArray) (o:Option Ver):List Pai:=
 if zLZ fr to key then [] else match o with
  |none=>[]
  |some x=>if x.Gone=true then [] else [⟨key,x.Val⟩]
open Classical in
noncomputable def pick (l:List Ver) (fr to:ByteArray) (t:Int) (i:Nat):List Pai:=match l[i]? with
 |none=>[]
 |some x=>if (∃ j y,i=j+1∧l[j]?=some y∧y.Key=x.Key) then [] else one fr to x.Key (sees l x.Key t)
noncomputable def zJe (l:List Ver) (fr to:ByteArray) (t:Int) (n:Nat):List Pai:=(List.range n).flatMap (pick l fr to t)
theorem zML (l:List Ver) (fr to:ByteArray) (t:Int) (n:Nat):zJe l fr to t (n+1)=zJe l fr to t n++pick l fr to t n:=by
 unfold zJe;rw [List.range_succ,List.flatMap_append];simp
noncomputable def vscan (l:List Ver) (low:Int) (fr to:ByteArray) (t:Int):List Pai × Int:=if vask l low t≠0 then ([],vask l low t) else (zJe l fr to t l.length,0)
theorem zRX (fr to key:ByteArray) (o:Option Ver):(one fr to key o).length≤1:=by
 unfold one;split
 ·simp
 ·cases o with
  |none=>simp
  |some x=>simp only;split<;>simp
theorem zP1 (l:List Ver) (fr to:ByteArray) (t:Int) (i:Nat):(pick l fr to t i).length≤1:=by
 unfold pick;split
 ·simp
 ·split
  ·simp
  ·exact zRX _ _ _ _
theorem zN5 (l:List Ver) (fr to:ByteArray) (t:Int):∀ n,(zJe l fr to t n).length≤n
 |0=>by simp [zJe]
 |n+1=>by
  rw [zML,List.length_append]
  have:=zN5 l fr to t n;have:=zP1 l fr to t n;omega
theorem zQW {l:List Ver} {i:Nat} {x:Ver} (hx:l[i]?=some x) (hb:Bdry l i) (fr to:ByteArray) (t:Int):pick l fr to t i=one fr to x.Key (sees l x.Key t):=by
 unfold pick;rw [hx]
 simp only
 rw [if_neg]
 rintro ⟨j,y,hj,hy,hk⟩
 exact hb j y x hj hy hx hk
theorem zQY {l:List Ver} {j:Nat} {x y:Ver} (hx:l[j+1]?=some x) (hy:l[j]?=some y) (hk:y.Key=x.Key) (fr to:ByteArray) (t:Int):pick l fr to t (j+1)=[]:=by
 unfold pick;rw [hx]
 simp only
 rw [if_pos ⟨j,y,rfl,hy,hk⟩]
theorem zPu {l:List Ver} (hs:l.Pairwise vlt) {i j:Nat} {x y:Ver} (h:i<j) (hx:l[i]?=some x) (hy:l[j]?=some y):¬ sLt y.Key x.Key=true:=zQ4 (zMb hs h hx hy)
theorem zRF {l:List Ver} (hs:l.Pairwise vlt) {i j:Nat} {x y:Ver} (h:i<j) (hx:l[i]?=some x) (hy:l[j]?=some y) (hk:x.Key≠y.Key):sLt x.Key y.Key=true:=by
 rcases zMb hs h hx hy with h1|h1
 ·exact h1
 ·exact absurd h1.1 hk
theorem Seg.before {l:List Ver} (hs:l.Pairwise vlt) (s:Seg l) {j:Nat} {x:Ver} (hj:j<s.lo) (hx:l[j]?=some x):sLt x.Key s.key=true:=by
 have h1:=s.lt;have h2:=s.le
 obtain ⟨y,hy⟩:=getV (l:=l) (n:=s.lo - 1) (by omega)
 obtain ⟨z,hz⟩:=getV (l:=l) (n:=s.lo) (by omega)
 have hzk:=s.all s.lo z (Nat.le_refl _) h1 hz
 have hyz:=zRF hs (by omega) hy hz (s.bl (s.lo - 1) y z (by omega) hy hz)
 rw [← hzk]
 rcases Nat.lt_or_ge j (s.lo - 1) with h3|h3
 ·have h4:=zPu hs h3 hx hy
  by_cases hk:x.Key=y.Key
  ·rw [hk];exact hyz
  ·exact zM9 (zKE h4 (fun h=>hk h.symm)) hyz
 ·obtain rfl:j=s.lo - 1:=by omega
  rw [hx] at hy;cases hy;exact hyz
theorem Seg.behind {l:List Ver} (hs:l.Pairwise vlt) (s:Seg l) {j:Nat} {x:Ver} (hj:s.hi≤j) (hx:l[j]?=some x):sLt s.key x.Key=true:=by
 have h1:=s.lt;have h2:=s.le
 have hjl:=(List.getElem?_eq_some_iff.1 hx).1
 obtain ⟨y,hy⟩:=getV (l:=l) (n:=s.hi - 1) (by omega)
 obtain ⟨z,hz⟩:=getV (l:=l) (n:=s.hi) (by omega)
 have hyk:=s.all (s.hi - 1) y (by omega) (by omega) hy
 have hyz:=zRF hs (by omega) hy hz (s.bh (s.hi - 1) y z (by omega) hy hz)
 rw [← hyk]
 rcases Nat.lt_or_ge s.hi j with h3|h3
 ·have h4:=zPu hs h3 hz hx
  by_cases hk:z.Key=x.Key
  ·rw [← hk];exact hyz
  ·exact zM9 hyz (zKE h4 (fun h=>hk h.symm))
 ·obtain rfl:j=s.hi:=by omega
  rw [hx] at hz;cases hz;exact hyz
theorem Seg.split {l:List Ver} (s:Seg l):l=l.take s.lo++s.vers++l.drop s.hi:=by
 rw [← zPv,List.take_append_drop]
theorem zRL {l:List Ver} {key:ByteArray} (h:∀ x∈l,x.Key≠key) (t:Int):sees l key t=none:=zJY.2 fun x hx h1=>h x hx h1.1
theorem Seg.sees {l:List Ver} (hs:l.Pairwise vlt) (s:Seg l) (t:Int):VG.sees s.vers s.key t=VG.sees l s.key t:=by
 have key:VG.sees l s.key t=VG.sees (l.take s.lo++s.vers++l.drop s.hi) s.key t:=congrArg (fun m=>VG.sees m s.key t) s.split
 rw [key,zMN,zMN]
 have h1:VG.sees (l.drop s.hi) s.key t=none:=zRL (fun x hx hk=>by
  obtain ⟨j,hj⟩:=List.getElem?_of_mem hx
  rw [List.getElem?_drop] at hj
  exact zP3 (s.behind hs (by omega) hj) hk.symm) t
 have h2:VG.sees (l.take s.lo) s.key t=none:=zRL (fun x hx hk=>by
  obtain ⟨j,hj⟩:=List.getElem?_of_mem hx
  have hjl:=(List.getElem?_eq_some_iff.1 hj).1
  rw [List.length_take] at hjl
  rw [List.getElem?_take_of_lt (by omega)] at hj
  exact zP3 (s.before hs (by omega) hj) hk) t
 rw [h1,h2];cases VG.sees s.vers s.key t<;>rfl
theorem Seg.scan {l:List Ver} (hs:l.Pairwise vlt) (s:Seg l) (fr to:ByteArray) (t:Int):zJe l fr to t s.hi=zJe l fr to t s.lo++one fr to s.key (VG.sees s.vers s.key t):=by
 have h1:=s.lt;have h2:=s.le
 obtain ⟨z,hz⟩:=getV (l:=l) (n:=s.lo) (by omega)
 have hzk:=s.all s.lo z (Nat.le_refl _) h1 hz
 have key:∀ d,s.lo+d<s.hi→zJe l fr to t (s.lo+d+1)=zJe l fr to t s.lo++one fr to s.key (VG.sees s.vers s.key t):=by
  intro d
  induction d with
  |zero=>intro _;rw [show s.lo+0+1=s.lo+1 from rfl,zML,zQW hz s.bl,hzk,s.sees hs]
  |succ d ih=>
   intro hd
   obtain ⟨x,hx⟩:=getV (l:=l) (n:=s.lo+d+1) (by omega)
   obtain ⟨y,hy⟩:=getV (l:=l) (n:=s.lo+d) (by omega)
   rw [show s.lo+(d+1)+1=(s.lo+d+1)+1 by omega,zML,ih (by omega),zQY hx hy (by rw [s.all _ x (by omega) (by omega) hx,s.all _ y (by omega) (by omega) hy]),List.append_nil]
 have:=key (s.hi - s.lo - 1) (by omega)
 rwa [show s.lo+(s.hi - s.lo - 1)+1=s.hi by omega] at this
noncomputable def scanS {l:List Ver} (fr to:ByteArray) (t:Int) (pre:List (Seg l)):List Pai:=pre.flatMap fun s=>one fr to s.key (sees s.vers s.key t)
theorem Cuts.scan {l:List Ver} (hs:l.Pairwise vlt) (fr to:ByteArray) (t:Int) {pre:List (Seg l)} {n:Nat} (h:Cuts l pre n):zJe l fr to t n=scanS fr to t pre:=by
 induction h with
 |nil=>rfl
 |snoc s h ih=>rw [s.scan hs,ih];unfold scanS;rw [List.flatMap_append];simp
open Classical in
noncomputable def zIk (low:Int) (x:Ver) (o:Option Ver):List Ver:=
 if (∃ y,o=some y∧y.Key=x.Key∧y.At≤low) then [] else if x.Gone=true∧x.At≤low then [] else [x]
noncomputable def swp (low:Int):List Ver→List Ver
 |[]=>[]
 |x::r=>zIk low x r.head?++swp low r
theorem zPr (low:Int) (x:Ver) (o:Option Ver):(zIk low x o).length≤1:=by unfold zIk;split<;>(try split)<;>simp
theorem zPT (low:Int):∀ l:List Ver,(swp low l).length≤l.length
 |[]=>by simp [swp]
 |x::r=>by rw [swp,List.length_append,List.length_cons];have:=zPT low r;have:=zPr low x r.head?;omega
theorem zOD (low:Int):∀ (a b:List Ver),(∀ x y,a.getLast?=some x→b.head?=some y→x.Key≠y.Key)→swp low (a++b)=swp low a++swp low b
 |[],b,_=>rfl
 |[x],b,h=>by
  show zIk low x b.head?++swp low b=(zIk low x none++[])++swp low b
  rw [List.append_nil]
  congr 1
  unfold zIk
  have h1:¬ ∃ y,b.head?=some y∧y.Key=x.Key∧y.At≤low:=fun ⟨y,hy,hk,_⟩=>h x y rfl hy hk.symm
  have h2:¬ ∃ y,(none:Option Ver)=some y∧y.Key=x.Key∧y.At≤low:=fun ⟨y,hy,_⟩=>by cases hy
  rw [if_neg h1,if_neg h2]
 |x::z::a,b,h=>by
  have ih:=zOD low (z::a) b (fun p q hp hq=>h p q (by rw [List.getLast?_cons_cons];exact hp) hq)
  show zIk low x (some z)++swp low (z::a++b)=(zIk low x (some z)++swp low (z::a))++swp low b
  rw [ih,List.append_assoc]
def zLH (o:Option Ver):List Ver:=match o with
 |none=>[]
 |some x=>if x.Gone=true then [] else [x]
theorem zPy (low:Int) (key:ByteArray):∀ g:List Ver,(∀ x∈g,x.Key=key)→g.Pairwise vlt→swp low g=zLH (sees g key low)++g.filter (fun x=>decide (low<x.At))
 |[],_,_=>rfl
 |x::r,hk,hs=>by
  have hxk:=hk x (by simp)
  have hkr:∀ y∈r,y.Key=key:=fun y hy=>hk y (List.mem_cons_of_mem _ hy)
  rw [List.pairwise_cons] at hs
  have hlt:∀ y∈r,x.At<y.At:=fun y hy=>by
   rcases hs.1 y hy with h|h
   ·rw [hxk,hkr y hy] at h;exact absurd h (zFy _)
   ·exact h.2
  have ih:=zPy low key r hkr hs.2
  have hsee:sees (x::r) key low=(sees r key low).or (if x.At≤low then some x else none):=by
   rw [show x::r=[x]++r from rfl,zMN,zQF]
   congr 1
   by_cases h:x.At≤low
   ·rw [if_pos ⟨hxk,h⟩,if_pos h]
   ·rw [if_neg (fun h1=>h h1.2),if_neg h]
  rw [swp,ih,hsee,List.filter_cons]
  cases r with
  |nil=>
   show zIk low x none++([]++[])=_
   have h2:¬ ∃ y,(none:Option Ver)=some y∧y.Key=x.Key∧y.At≤low:=fun ⟨y,hy,_⟩=>by cases hy
   unfold zIk
   rw [if_neg h2]
   by_cases h:x.At≤low
   ·have h3:¬ low<x.At:=by omega
    simp only [h,and_true,if_true,h3,decide_false,Bool.false_eq_true,if_false,zQI,Option.or_none,Option.none_or,List.append_nil,List.filter_nil]
    rfl
   ·have h3:low<x.At:=by omega
    simp only [h,and_false,if_false,h3,decide_true,if_true,zQI,Option.none_or,List.filter_nil]
    rfl
  |cons y r=>
   have hxy:=hlt y (by simp)
   have hyk:=hkr y (by simp)
   show zIk low x (some y)++_=_
   unfold zIk
   by_cases h:y.At≤low
   ·have hx:¬ low<x.At:=by omega
    obtain ⟨z,hz⟩:∃ z,sees (y::r) key low=some z:=by
     cases hc:sees (y::r) key low with
     |none=>exact absurd ⟨hyk,h⟩ (zJY.1 hc y (by simp))
     |some z=>exact ⟨z,rfl⟩
    rw [if_pos ⟨y,rfl,by rw [hyk,hxk],h⟩,hz]
    simp only [hx,decide_false,Bool.false_eq_true,if_false,Option.or_some,List.nil_append]
    rfl
   ·have hn:sees (y::r) key low=none:=zJY.2 fun z hz h1=>by
     rcases List.mem_cons.1 hz with h2|h2
     ·subst h2;exact h h1.2
     ·rcases (List.pairwise_cons.1 hs.2).1 z h2 with h3|h3
      ·rw [hyk,hkr z (List.mem_cons_of_mem _ h2)] at h3;exact absurd h3 (zFy _)
      ·have:=h1.2;omega
    have h2:¬ ∃ z,(some y:Option Ver)=some z∧z.Key=x.Key∧z.At≤low:=fun ⟨z,hz,_,h4⟩=>by cases hz;exact h h4
    rw [if_neg h2,hn]
    by_cases hxl:x.At≤low
    ·have h3:¬ low<x.At:=by omega
     simp only [hxl,and_true,if_true,h3,decide_false,Bool.false_eq_true,if_false,Option.none_or]
     rfl
    ·have h3:low<x.At:=by omega
     simp only [hxl,and_false,if_false,h3,decide_true,if_true,Option.none_or]
     rfl
noncomputable def zJm (l:List Ver) (low0 low:Int):List Ver × Int × Int:=
 if vchk l low0≠0 then ([],0,vchk l low0) else if low<low0 then ([],0,9) else if 2305843009213693952<low then ([],0,2) else (swp low l,low,0)
def swpS {l:List Ver} (low:Int) (pre:List (Seg l)):List Ver:=pre.flatMap fun s=>zLH (sees s.vers s.key low)++s.vers.filter (fun x=>decide (low<x.At))
theorem Cuts.sweep {l:List Ver} (hs:l.Pairwise vlt) (low:Int) {pre:List (Seg l)} {n:Nat} (h:Cuts l pre n):swp low (l.take n)=swpS low pre:=by
 induction h with
 |nil=>rfl
 |@snoc pre s h ih=>
  have h1:=s.lt;have h2:=s.le
  rw [zPv,zOD,ih]
  ·unfold swpS
   rw [List.flatMap_append,zPy low s.key s.vers (fun x hx=>(s.mem hx).2) (by
    unfold Seg.vers
    exact (hs.sublist (List.drop_sublist _ _)).sublist (List.take_sublist _ _))]
   simp
  ·intro x y hx hy
   have hx':l[s.lo - 1]?=some x∧0<s.lo:=by
    rw [List.getLast?_eq_getElem?,List.length_take,List.getElem?_take] at hx
    split at hx
    ·refine ⟨?_,by omega⟩
     rw [Nat.min_eq_left (by omega)] at hx;exact hx
    ·cases hx
   have hy':l[s.lo]?=some y:=by
    unfold Seg.vers at hy
    rw [List.head?_eq_getElem?,List.getElem?_take_of_lt (by omega),List.getElem?_drop] at hy
    simpa using hy
   exact s.bl (s.lo - 1) x y (by omega) hx'.1 hy'
end Go.Proofs.YtealcoghiaeiiaaGreat.VG
set_option linter.unusedVariables false
namespace Go.Proofs.YtealcoghiaeiiaaGreat.VG
open Go.VB Go.VB.Srt Go.Proofs Go.RowKit
abbrev PaiRd (w:World) (s:Sl) (l:List Pai):Prop:=Rd zAE.cells 2 w s l
abbrev zGk (base:Nat) (w:World) (s:Sl) (l:List Pai):Prop:=OwnS zAE.cells 2 zGc base w s l
theorem zGk.rd {base:Nat} {w:World} {s:Sl} {l:List Pai} (h:zGk base w s l):PaiRd w s l:=OwnS.rd h (fun _=>rfl)
theorem zPx {base:Nat} {w0 w:World} {s:Sl} {l:List Pai} {x:Pai} {k:Sl→World→Prop} (hO:zGk base w s l) (hB:Bel w0 w) (hb:w0.heap.size≤base) (hbw:base≤w.heap.size) (room:l.length+1≤4398046511104)
  (H:∀ s' w',zGk base w' s' (l++[x])→Bel w0 w'→w.grownBy w' (Sl.v s).ownBlock→k s' w'):
  opE Tryz.prog Sl.v (Instr.buildSlice zFV 1 [(0,zAE.v x)].toArray) w (fun y w=>opE Tryz.prog Sl.v (Builtin.append_ #[zFV,zFV] zFV [Sl.v s,Sl.v y].toArray) w k):=
 zRG hO (fun _=>rfl) (fun _=>rfl) (by decide) zFR zNv rfl (by decide) (zN3 x) hB hb hbw (by omega) H
theorem zTO {fr to key:ByteArray} {o:Option Ver} (h:zLZ fr to key):one fr to key o=[]:=by unfold one;rw [if_pos h]
theorem zSV {fr to key:ByteArray}:one fr to key none=[]:=by unfold one;split<;>rfl
theorem zR9 {fr to key:ByteArray} {x:Ver} (h:x.Gone=true):one fr to key (some x)=[]:=by
 unfold one;split
 ·rfl
 ·simp only;rw [if_pos h]
theorem zTi {fr to key:ByteArray} {x:Ver} (h:¬ zLZ fr to key) (hg:x.Gone=false):one fr to key (some x)=[⟨key,x.Val⟩]:=by
 unfold one;rw [if_neg h];simp only;rw [if_neg (by rw [hg];decide)]
theorem zOv {l:List Ver} (fr to:ByteArray) (t:Int):∀ pre:List (Seg l),(scanS fr to t pre).length≤pre.length
 |[]=>by simp [scanS]
 |s::pre=>by
  have:=zOv fr to t pre
  have h2:=zRX fr to s.key (sees s.vers s.key t)
  unfold scanS at*
  rw [List.flatMap_cons,List.length_append,List.length_cons];omega
theorem zN6 {l:List Ver} (fr to:ByteArray) (t:Int) (pre:List (Seg l)) (s:Seg l):scanS fr to t (pre++[s])=scanS fr to t pre++one fr to s.key (sees s.vers s.key t):=by
 unfold scanS;rw [List.flatMap_append];simp
theorem Seg.sorted {l:List Ver} (hs:l.Pairwise vlt) (s:Seg l):s.vers.Pairwise vlt:=by
 unfold Seg.vers
 exact (hs.sublist (List.drop_sublist _ _)).sublist (List.take_sublist _ _)
theorem zSK {w:World} {x0:zAH} {l:List Ver} (h:VerRd w x0.List l) (fr to:ByteArray) (t:Int) {k:Sl→Int→World→Prop}
  (H:∀ r w' base,w.heap.size≤base→base≤w'.heap.size→zGk base w' r (vscan l x0.Low fr to t).1→Bel w w'→k r (vscan l x0.Low fr to t).2 w'):
  Cl Tryz.prog zOw [zAH.v x0,.string fr,.string to,.int .u64 t].toArray w (fun e w'=>∃ (r0:Sl) (r1:Int),e=.returned (.tuple [Sl.v r0,.int .i64 r1].toArray)∧k r0 r1 w'):=by
 refine zO7 x0 fr to t w k ?_
 have hbig:=h.big;have hcap:=h.cap;have hlen:=h.len
 unfold zMF
 refine zGl (cs:=x0.cells) rfl fun B4 w1 b1 hV hB4=>?_
 refine zGl (cs:=[.string fr]) rfl fun B5 w2 b2 h5 hB5=>?_
 refine zGl (cs:=[.string to]) rfl fun B6 w3 b3 h6 hB6=>?_
 refine zGl (cs:=[.int .u64 t]) rfl fun B7 w4 b4 h7 hB7=>?_
 replace hV:=((hV.bel b2).bel b3).bel b4
 replace h5:=(h5.bel b3).bel b4
 replace h6:=h6.bel b4
 have b04:=((b1.trans b2).trans b3).trans b4
 refine zII zAg x0 rfl hV.at rfl ?_
 refine zHM zA9 t h7.cell ?_
 refine zPI (h.bel b04) t fun w5 b5=>?_
 have b05:=b04.trans b5
 unfold vscan at H
 refine ⟨fun hc=>?_,fun hc=>?_⟩
 ·rw [if_pos hc] at H;exact H _ w5 w5.heap.size b05.le (Nat.le_refl _) (OwnS.nil _ _ _ _ _) b05
 rw [if_neg hc] at H
 have hg:=(zLS.1 (Classical.not_not.1 hc)).1
 have hl4:=hg.len
 have hs:=hg.sorted
 refine zKA zN4 fun B w6 b6 hR hB=>?_
 have b06:=b05.trans b6
 have hRR:Row w6 B [Sl.v Sl.none] zFV:=hR
 refine zDi zAh zAl ((hV.bel b5).bel b6).at x0.List rfl ?_
 have w05:w.heap.size≤w5.heap.size:=b05.le
 refine zQl b06 h fun v b w7 hS hb6 hb7 b7=>?_
 have b07:=b06.trans b7
 have hBw:B<w6.heap.size:=hRR.lt
 have h57:=((h5.bel b5).bel b6).bel b7
 have h67:=((h6.bel b5).bel b6).bel b7
 have h77:=((h7.bel b5).bel b6).bel b7
 have c7:=b7.le
 have lt5:B5<w5.heap.size:=(h5.bel b5).lt
 have lt6:B6<w5.heap.size:=(h6.bel b5).lt
 have lt7:B7<w5.heap.size:=(h7.bel b5).lt
 have b57:Bel w5 w7:=b6.trans b7
 refine ⟨Seg l,fun s=>s.key,fun s=>x0.List.sub s.lo s.hi 4,zFG w b,fun xs=>Cuts l xs l.length,fun _=>True,l.length,
  fun pre W=>∃ sl,Row W B [Sl.v sl] zFV∧zGk w7.heap.size W sl (scanS fr to t pre)∧Bel w5 W∧w7.heap.size≤W.heap.size,fun _ _=>False,
  zKo.of2 hS b07.le hb7 (fun s W W' row hi hg hr=>?_) (fun s W W' row hi hg hr=>hi) (fun pre W hi=>hi.elim fun _ h=>h.2.2.2) ⟨Sl.none,hRR.bel b7,OwnS.nil _ _ _ _ _,b57,Nat.le_refl _⟩,
  fun W=>zFG.refl _ _ _,?_,?_,?_⟩
 ·obtain ⟨sl,h1,h2,h3,h4⟩:=hi
  exact ⟨sl,h1.notwalk hg hr,h2.notwalk hg hr,h3.notwalk b57.le hg hr,Nat.le_trans h4 hg.size⟩
 ·rintro pre s W ⟨sl,h1,h2,h3,h4⟩ hlenp
  have hsl:=zOv fr to t pre
  have r5:=h5.bel b5;have r6:=h6.bel b5;have r7:=h7.bel b5
  unfold zKa
  refine zHM zAc fr (r5.bel h3).cell ?_
  have skip:∀ W',Bel W W'→one fr to s.key (sees s.vers s.key t)=[]→(KeepsFrom w7.heap.size W W'∧zFG w b W W'∧∃ sl,Row W' B [Sl.v sl] zFV∧zGk w7.heap.size W' sl (scanS fr to t (pre++[s]))∧Bel w5 W'∧w7.heap.size≤W'.heap.size):=by
   intro W' hb hn
   refine ⟨KeepsFrom.bel hb,zFG.bel hb (by omega),sl,h1.bel hb,?_,h3.trans hb,Nat.le_trans h4 hb.le⟩
   rw [zN6,hn,List.append_nil];exact h2.bel hb
  have r2t:zLZ fr to s.key→zHS (some ⟨B7,0,none⟩) (some ⟨B,0,none⟩) s.key (x0.List.sub s.lo s.hi 4) (fun W'=>KeepsFrom w7.heap.size W W'∧zFG w b W W'∧∃ sl,Row W' B [Sl.v sl] zFV∧zGk w7.heap.size W' sl (scanS fr to t (pre++[s]))∧Bel w5 W'∧w7.heap.size≤W'.heap.size) true W:=
   fun ho=>⟨fun _=>skip W (Bel.refl _) (zTO ho),fun h=>(nomatch h)⟩
  have r2f:¬ zLZ fr to s.key→zHS (some ⟨B7,0,none⟩) (some ⟨B,0,none⟩) s.key (x0.List.sub s.lo s.hi 4) (fun W'=>KeepsFrom w7.heap.size W W'∧zFG w b W W'∧∃ sl,Row W' B [Sl.v sl] zFV∧zGk w7.heap.size W' sl (scanS fr to t (pre++[s]))∧Bel w5 W'∧w7.heap.size≤W'.heap.size) false W:=by
   intro hin
   refine ⟨fun h=>(nomatch h),fun _=>?_⟩
   refine zHM zA9 t (r7.bel h3).cell ?_
   refine zPb (s.rd (h.bel (b05.trans h3))) (s.sorted hs) s.key t fun W1 c1=>?_
   refine zJb zGO rfl zAx (cs:=(verOr (sees s.vers s.key t)).cells) rfl rfl rfl fun C W2 c2 hX _=>?_
   have c02:=c1.trans c2
   cases hq:sees s.vers s.key t with
   |none=>exact ⟨fun h=>(nomatch h),fun _=>⟨fun h=>(nomatch h),fun _=>skip W2 c02 (by rw [hq,zSV])⟩⟩
   |some x=>
    refine ⟨fun _=>?_,fun h=>(nomatch h)⟩
    rw [hq] at hX
    refine zDi zGr zJu hX.at x.Gone rfl ?_
    unfold zIt
    refine ⟨fun hx=>?_,fun hx=>skip W2 c02 (by rw [hq,zR9 (by cases hxg:x.Gone<;>simp_all)])⟩
    have hxg:x.Gone=false:=by cases hxg:x.Gone<;>simp_all
    refine zHM zJx sl (h1.bel c02).cell ?_
    refine zDi zGN zAc hX.at x.Val rfl ?_
    refine ⟨⟨s.key,x.Val⟩,W2,by kernel_rfl,?_⟩
    refine zPx (w0:=w5) (h2.bel c02) (h3.trans c02) b57.le (Nat.le_trans h4 c02.le) (by omega) fun s' W3 g5 g6 g7=>?_
    have hne:(Sl.v sl).ownBlock≠some B:=fun e=>by have:=h2.lo e;omega
    have hr1:=(h1.bel c02).grown g7 hne
    refine zNZ zJx hr1 rfl rfl fun W4 hr2 hg2=>?_
    have le02:=c02.le
    refine ⟨(KeepsFrom.bel c02).trans ((KeepsFrom.row g7 fun r hr=>(h2.bel c02).isRow hr).trans (KeepsFrom.row hg2 fun r hr=>by cases hr;exact ⟨_,_,_,hr1⟩)),?_,s',hr2,?_,?_,Nat.le_trans h4 (Nat.le_trans c02.le (Nat.le_trans g7.size hg2.size))⟩
    ·exact (zFG.bel c02 (by omega)).trans ((zFG.grown g7 (by omega) fun r hr=>by have:=h2.lo hr;have:=b07.le;omega).trans (zFG.grown hg2 (by have:=g7.size;omega) fun r hr=>by cases hr;omega))
    ·rw [zN6,hq,zTi hin hxg]
     exact g5.kept hg2 (by
      cases ho:(Sl.v s').ownBlock with
      |none=>exact .inl rfl
      |some q=>exact .inr fun e=>by have h8:=g5.lo ho;have h9:=Option.some.inj e;omega)
    ·exact g6.grown hg2 fun r hr=>by cases hr;omega
  refine ⟨fun hf=>r2t (.inl hf),fun hf=>?_⟩
  refine zHM zAc to (r6.bel h3).cell ?_
  refine ⟨fun hto=>?_,fun hto=>r2f (fun ho=>by
   rcases ho with g|g
   ·rw [hf] at g;cases g
   ·exact hto g.1)⟩
  refine zHM zAc to (r6.bel h3).cell ?_
  unfold zIp
  cases ht:sLt s.key to with
  |false=>exact r2t (.inr ⟨hto,ht⟩)
  |true=>exact r2f (fun ho=>by
    rcases ho with g|g
    ·rw [hf] at g;cases g
    ·rw [ht] at g;cases g.2)
 ·rintro D xs W hD hC ⟨sl,h1,h2,h3,h4⟩ hK
  refine zHM zJx sl h1.cell ?_
  refine ⟨hK,?_⟩
  have hg:=zMs W D
  have hr:∀ r,some D=some r→w7.heap.size≤r∧∃ o:Obj,W.heap[r]?=some o∧o.isCells=false:=fun r e=>by cases e;exact ⟨hD,_,hK,rfl⟩
  have hsc:=Cuts.scan hs fr to t hC
  refine H sl _ w7.heap.size b07.le (Nat.le_trans h4 hg.size) ?_ (b05.trans (h3.notwalk b57.le hg hr))
  rw [hsc];exact h2.notwalk hg hr
 ·exact fun D pre W h1 h2 h3 h4=>trivial
end Go.Proofs.YtealcoghiaeiiaaGreat.VG
set_option linter.unusedVariables false
namespace Go.Proofs.YtealcoghiaeiiaaGreat.VG
open Go.VB Go.VB.Srt Go.Proofs Go.RowKit
theorem zRB {base:Nat} {w0 W:World} {B C:Nat} {sl:Sl} {low:Int} {l:List Ver} {x:Ver} {ty:TypeId} (hR:Row W B [Sl.v sl,.int .u64 low] ty) (hO:zFt base W sl l) (hX:At W ⟨C,0,none⟩ x.cells) (hb:Bel w0 W) (h0:w0.heap.size≤base) (hbw:base≤W.heap.size) (hB:B<base) (hB0:w0.heap.size≤B) (room:l.length+1≤2932031007402)
  {k:World→Prop} (H:∀ s' W3 W',W.grownBy W3 (Sl.v sl).ownBlock→Row W3 B [Sl.v sl,.int .u64 low] ty→W3.grownBy W' (some B)→Row W' B [Sl.v s',.int .u64 low] ty→zFt base W' s' (l++[x])→Bel w0 W'→W.heap.size≤W'.heap.size→k W'):
  opE Tryz.prog Value.pointer (Instr.fieldAt zAk (.pointer (some ⟨B,0,none⟩)) 0) W (fun p w=>opE Tryz.prog Sl.v (Instr.loadAt zAW (.pointer p)) w (fun s w=>opE Tryz.prog zAB.v (Instr.loadAt zAp (.pointer (some ⟨C,0,none⟩))) w (fun v w=>
   opE Tryz.prog Sl.v (Instr.buildSlice zAW 1 [(0,zAB.v v)].toArray) w (fun y w=>opE Tryz.prog Sl.v (Builtin.append_ #[zAW,zAW] zAW [Sl.v s,Sl.v y].toArray) w (fun s' w=>
   opE Tryz.prog Value.pointer (Instr.fieldAt zAk (.pointer (some ⟨B,0,none⟩)) 0) w (fun p w=>opU Tryz.prog (Instr.storeAt zAW (.pointer p) (Sl.v s')) w k)))))):=by
 refine zDi zAh zAl hR.at sl rfl ?_
 refine zII zAx x rfl hX rfl ?_
 refine zPw (w0:=w0) hO hb h0 hbw room fun s' W3 h1 h2 h3=>?_
 have hne:(Sl.v sl).ownBlock≠some B:=fun e=>by have:=hO.lo e;omega
 have hR3:=hR.grown h3 hne
 refine ⟨_,_,zAh _ W3,?_⟩
 refine zNK zAl (off:=0) hR3 rfl (by simp) rfl fun W4 h4 h5=>?_
 refine H s' W3 W4 h3 hR3 h5 (by simpa using h4) (h1.kept h5 ?_) (h2.grown h5 fun r hr=>by cases hr;exact hB0) (Nat.le_trans h3.size h5.size)
 cases ho:(Sl.v s').ownBlock with
 |none=>exact .inl rfl
 |some q=>exact .inr fun e=>by have h8:=h1.lo ho;have h9:=Option.some.inj e;omega
abbrev zQO:zAH:=⟨Sl.none,0⟩
theorem zPA {W:World} {B:Nat} {x:zAH} {z:List Value} {q:zAH→World→Prop} (hR:Row W B z zAk) (hz:z.length=2)
  (H:∀ W',W.grownBy W' (some B)→q x W'):opU Tryz.prog (Instr.storeAt zAk (.pointer (some ⟨B,0,none⟩)) (zAH.v x)) W (fun w=>opR Tryz.prog zAH.v zAk (some ⟨B,0,none⟩) w (fun r=>q r w)):=by
 refine zNy zAg hR hz rfl rfl fun W' hR' hg=>?_
 exact R.agg zAg x rfl hR'.at rfl (H W' hg)
theorem zRj {l:List Ver} (low:Int) (pre:List (Seg l)) (s:Seg l):swpS low (pre++[s])=swpS low pre++(zLH (sees s.vers s.key low)++s.vers.filter (fun x=>decide (low<x.At))):=by
 unfold swpS;rw [List.flatMap_append];simp
theorem Cuts.len {l:List Ver} (hs:l.Pairwise vlt) (low:Int) {pre:List (Seg l)} {n:Nat} (h:Cuts l pre n):(swpS low pre).length≤l.length:=by
 rw [← Cuts.sweep hs low h]
 refine Nat.le_trans (zPT low _) ?_
 rw [List.length_take];omega
theorem zRT {l:List Ver} {n:Nat} {x:Ver} (h:l[n]?=some x) (low:Int):(l.take (n+1)).filter (fun x=>decide (low<x.At))=(l.take n).filter (fun x=>decide (low<x.At))++(if low<x.At then [x] else []):=by
 rw [zIx h,List.filter_append]
 by_cases hh:low<x.At<;>simp [hh]
theorem zN8 (o:Option Ver):(zLH o).length≤1:=by
 unfold zLH;split
 ·simp
 ·split<;>simp
theorem zOI {l:List Ver} (low:Int):∀ pre:List (Seg l),(swpS low pre).length≤pre.length*(l.length+1)
 |[]=>by simp [swpS]
 |s::pre=>by
  have h1:=zOI low pre
  have h2:=zN8 (sees s.vers s.key low)
  have h3:(s.vers.filter (fun x=>decide (low<x.At))).length≤s.vers.length:=List.length_filter_le _ _
  have h4:s.vers.length≤l.length:=by unfold Seg.vers;rw [List.length_take,List.length_drop];omega
  unfold swpS at*
  rw [List.flatMap_cons,List.length_append,List.length_append,List.length_cons,Nat.succ_mul];omega
theorem zOC {base:Nat} {W W3 W':World} {B n0 b:Nat} {w0:World} {sl:Sl} {low:Int} {l:List Ver} {ty:TypeId} (hO:zFt base W sl l) (h1:W.grownBy W3 (Sl.v sl).ownBlock) (hR3:Row W3 B [Sl.v sl,.int .u64 low] ty) (h2:W3.grownBy W' (some B))
  (hb:b<base) (hbB:b≠B) (hw0:w0.heap.size≤base) (hB:w0.heap.size≤B) (hsz:base≤W.heap.size):KeepsFrom n0 W W'∧zFG w0 b W W':=
 ⟨(KeepsFrom.row h1 fun r hr=>hO.isRow hr).trans (KeepsFrom.row h2 fun r hr=>by cases hr;exact ⟨_,_,_,hR3⟩),
  (zFG.grown h1 (by omega) fun r hr=>by have:=hO.lo hr;omega).trans (zFG.grown h2 (by have:=h1.size;omega) fun r hr=>by cases hr;omega)⟩
theorem zQd {w w3 w7 W:World} {x0:Sl} {l:List Ver} {low:Int} {b B B3:Nat} (h:VerRd w x0 l) (hs:l.Pairwise vlt) (hl4:l.length≤4096) (b03:Bel w w3) (hL3:Row w3 B3 [.int .u64 low] zMP) (b37:Bel w3 w7) (hb7:b<w7.heap.size) (hbB:b≠B) (hB:w3.heap.size≤B) (hBw:B<w7.heap.size)
  {pre:List (Seg l)} (s:Seg l) (hlenp:pre.length<l.length) (h4:w7.heap.size≤W.heap.size)
  {W3:World} {sl3:Sl} (r1:Row W3 B [Sl.v sl3,.int .u64 low] zAk) (r2:zFt w7.heap.size W3 sl3 (swpS low pre++zLH (sees s.vers s.key low))) (r3:Bel w3 W3) (r4:w7.heap.size≤W3.heap.size) (r5:KeepsFrom w7.heap.size W W3) (r6:zFG w b W W3):
  zFv (some ⟨B3,0,none⟩) (some ⟨B,0,none⟩) (x0.sub s.lo s.hi 4) (fun W'=>KeepsFrom w7.heap.size W W'∧zFG w b W W'∧∃ sl,Row W' B [Sl.v sl,.int .u64 low] zAk∧zFt w7.heap.size W' sl (swpS low (pre++[s]))∧Bel w3 W'∧w7.heap.size≤W'.heap.size) W3:=by
 have hbig:=h.big;have hcap:=h.cap;have hlen:=h.len
 have hw3:=b03.le
 have w37:=b37.le
 have hsl:=zOI low pre
 have hml:pre.length*(l.length+1)≤4096*4097:=Nat.mul_le_mul (by omega) (by omega)
 have hvl:s.vers.length≤l.length:=by unfold Seg.vers;rw [List.length_take,List.length_drop];omega
 have hsr:=s.rd (h.bel (b03.trans r3))
 have hsrlen:=hsr.len
 have hlo1:=zN8 (sees s.vers s.key low)
 unfold zFv
 refine ⟨fun i W'=>∃ (n:Nat) (sl:Sl),i=(n:Int)∧n≤s.vers.length∧Row W' B [Sl.v sl,.int .u64 low] zAk∧zFt w7.heap.size W' sl (swpS low pre++zLH (sees s.vers s.key low)++(s.vers.take n).filter (fun x=>decide (low<x.At)))∧Bel w3 W'∧w7.heap.size≤W'.heap.size∧KeepsFrom w7.heap.size W W'∧zFG w b W W',
  fun i _=>((x0.sub s.lo s.hi 4).len - i).toNat,⟨0,sl3,rfl,by omega,r1,by simpa using r2,r3,r4,r5,r6⟩,?_⟩
 rintro i W' ⟨n,sl',rfl,hn,q1,q2,q3,q4,q5,q6⟩
 unfold zI3
 refine ⟨fun hlt=>?_,fun hlt=>?_⟩
 case refine_2=>
  obtain rfl:n=s.vers.length:=by omega
  rw [List.take_length] at q2
  exact ⟨q5,q6,sl',q1,by rw [zRj,← List.append_assoc];exact q2,q3,q4⟩
 obtain ⟨e,he⟩:=getV (l:=s.vers) (n:=n) (by omega)
 have hfs:=zRT he low
 have hfl:((s.vers.take n).filter (fun x=>decide (low<x.At))).length≤l.length:=Nat.le_trans (List.length_filter_le _ _) (by rw [List.length_take];omega)
 refine zLL (s.rd (h.bel (b03.trans q3))) zBU zC2 (by omega) (x:=e) (by simpa using he) fun ad hA=>?_
 refine zII zAx e rfl hA rfl ?_
 refine zJb zGO rfl zAx (cs:=e.cells) rfl rfl rfl fun C' W4 c4 hX' _=>?_
 refine zDi zFZ zA9 hX'.at e.At rfl ?_
 refine zHM zA9 low ((hL3.bel q3).bel c4).cell ?_
 have c4le:=c4.le
 refine ⟨fun hat=>?_,fun hat=>?_⟩
 ·rw [if_pos hat] at hfs
  refine zRB (w0:=w3) (q1.bel c4) (q2.bel c4) hX'.at (q3.trans c4) b37.le (Nat.le_trans q4 c4.le) (by omega) hB (by rw [List.length_append,List.length_append];omega) fun s' W5 W6 g1 g2 g3 g4 g5 g6 g7=>?_
  obtain ⟨p1,p2⟩:=zOC (n0:=w7.heap.size) (w0:=w) (b:=b) (q2.bel c4) g1 g2 g3 (by omega) (by omega) (by omega) (by omega) (Nat.le_trans q4 c4.le)
  unfold zG0
  rw [wr64 (by omega) (by omega)]
  refine ⟨⟨n+1,s',by omega,by omega,g4,?_,g6,Nat.le_trans (Nat.le_trans q4 c4.le) g7,(q5.trans (KeepsFrom.bel c4)).trans p1,(q6.trans (zFG.bel c4 (by omega))).trans p2⟩,by dsimp only;omega⟩
  rw [hfs,← List.append_assoc];exact g5
 ·rw [if_neg hat,List.append_nil] at hfs
  unfold zG0
  rw [wr64 (by omega) (by omega)]
  refine ⟨⟨n+1,sl',by omega,by omega,q1.bel c4,?_,q3.trans c4,Nat.le_trans q4 c4.le,q5.trans (KeepsFrom.bel c4),q6.trans (zFG.bel c4 (by omega))⟩,by dsimp only;omega⟩
  rw [hfs];exact q2.bel c4
theorem zPS {w w3 w7 W:World} {x0:Sl} {l:List Ver} {low:Int} {b B B3:Nat} (h:VerRd w x0 l) (hs:l.Pairwise vlt) (hl4:l.length≤4096) (b03:Bel w w3) (hL3:Row w3 B3 [.int .u64 low] zMP) (b37:Bel w3 w7) (hb7:b<w7.heap.size) (hbB:b≠B) (hB:w3.heap.size≤B) (hBw:B<w7.heap.size)
  {pre:List (Seg l)} (s:Seg l) (hlenp:pre.length<l.length) (h4:w7.heap.size≤W.heap.size)
  {sl:Sl} (h1:Row W B [Sl.v sl,.int .u64 low] zAk) (h2:zFt w7.heap.size W sl (swpS low pre)) (h3:Bel w3 W) {L:World→Prop}:
  zI1 (some ⟨B3,0,none⟩) (some ⟨B,0,none⟩) s.key (x0.sub s.lo s.hi 4) W (fun W'=>KeepsFrom w7.heap.size W W'∧zFG w b W W'∧∃ sl,Row W' B [Sl.v sl,.int .u64 low] zAk∧zFt w7.heap.size W' sl (swpS low (pre++[s]))∧Bel w3 W'∧w7.heap.size≤W'.heap.size) L:=by
 have hbig:=h.big;have hcap:=h.cap;have hlen:=h.len
 have hw3:=b03.le
 have w37:=b37.le
 have hsl:=zOI low pre
 have hml:pre.length*(l.length+1)≤4096*4097:=Nat.mul_le_mul (by omega) (by omega)
 have hvl:s.vers.length≤l.length:=by unfold Seg.vers;rw [List.length_take,List.length_drop];omega
 have hsr:=s.rd (h.bel (b03.trans h3))
 have hsrlen:=hsr.len
 unfold zI1
 refine zHM zA9 low (hL3.bel h3).cell ?_
 refine zPb hsr (s.sorted hs) s.key low fun W1 c1=>?_
 refine zJb zGO rfl zAx (cs:=(verOr (sees s.vers s.key low)).cells) rfl rfl rfl fun C W2 c2 hX _=>?_
 have c02:=c1.trans c2
 have c02le:=c02.le
 have j2:∀ W3 sl3,Row W3 B [Sl.v sl3,.int .u64 low] zAk→zFt w7.heap.size W3 sl3 (swpS low pre++zLH (sees s.vers s.key low))→Bel w3 W3→w7.heap.size≤W3.heap.size→KeepsFrom w7.heap.size W W3→zFG w b W W3→
   zFv (some ⟨B3,0,none⟩) (some ⟨B,0,none⟩) (x0.sub s.lo s.hi 4) (fun W'=>KeepsFrom w7.heap.size W W'∧zFG w b W W'∧∃ sl,Row W' B [Sl.v sl,.int .u64 low] zAk∧zFt w7.heap.size W' sl (swpS low (pre++[s]))∧Bel w3 W'∧w7.heap.size≤W'.heap.size) W3:=fun W3 sl3 r1 r2 r3 r4 r5 r6=>zQd h hs hl4 b03 hL3 b37 hb7 hbB hB hBw s hlenp h4 r1 r2 r3 r4 r5 r6
 have skip:zLH (sees s.vers s.key low)=[]→zFv (some ⟨B3,0,none⟩) (some ⟨B,0,none⟩) (x0.sub s.lo s.hi 4) (fun W'=>KeepsFrom w7.heap.size W W'∧zFG w b W W'∧∃ sl,Row W' B [Sl.v sl,.int .u64 low] zAk∧zFt w7.heap.size W' sl (swpS low (pre++[s]))∧Bel w3 W'∧w7.heap.size≤W'.heap.size) W2:=fun hn=>
  j2 W2 sl (h1.bel c02) (by rw [hn,List.append_nil];exact h2.bel c02) (h3.trans c02) (Nat.le_trans h4 c02.le) (KeepsFrom.bel c02) (zFG.bel c02 (by omega))
 cases hq:sees s.vers s.key low with
 |none=>exact ⟨fun h=>(nomatch h),fun _=>⟨fun h=>(nomatch h),fun _=>skip (by rw [hq];rfl)⟩⟩
 |some x=>
  refine ⟨fun _=>?_,fun h=>(nomatch h)⟩
  rw [hq] at hX
  refine zDi zGr zJu hX.at x.Gone rfl ?_
  unfold zH4
  refine ⟨fun hx=>?_,fun hx=>skip (by rw [hq];unfold zLH;simp only;rw [if_pos (by cases hxg:x.Gone<;>simp_all)])⟩
  have hone:zLH (some x)=[x]:=by unfold zLH;simp only;rw [if_neg (by cases hxg:x.Gone<;>simp_all)]
  refine zRB (w0:=w3) (h1.bel c02) (h2.bel c02) hX.at (h3.trans c02) b37.le (Nat.le_trans h4 c02.le) (by omega) hB (by omega) fun s' W5 W6 g1 g2 g3 g4 g5 g6 g7=>?_
  obtain ⟨p1,p2⟩:=zOC (n0:=w7.heap.size) (w0:=w) (b:=b) (h2.bel c02) g1 g2 g3 (by omega) (by omega) (by omega) (by omega) (Nat.le_trans h4 c02.le)
  exact j2 W6 s' g4 (by rw [hq,hone];exact g5) g6 (Nat.le_trans (Nat.le_trans h4 c02.le) g7) ((KeepsFrom.bel c02).trans p1) ((zFG.bel c02 (by omega)).trans p2)
theorem zRi {w:World} {x0:zAH} {l:List Ver} (h:VerRd w x0.List l) (low:Int) {k:zAH→Int→World→Prop}
  (H:∀ r w' base,w.heap.size≤base→zFt base w' r (zJm l x0.Low low).1→Bel w w'→k ⟨r,(zJm l x0.Low low).2.1⟩ (zJm l x0.Low low).2.2 w'):
  Cl Tryz.prog zOH [zAH.v x0,.int .u64 low].toArray w (fun e w'=>∃ (r0:zAH) (r1:Int),e=.returned (.tuple [zAH.v r0,.int .i64 r1].toArray)∧k r0 r1 w'):=by
 refine zOi x0 low w k ?_
 have hbig:=h.big;have hcap:=h.cap;have hlen:=h.len
 unfold zLO
 refine zGl (cs:=x0.cells) rfl fun B2 w1 b1 hV hB2=>?_
 refine zGl (cs:=[.int .u64 low]) rfl fun B3 wl bl hL hB3=>?_
 refine zKA zFd fun B4 w2 b2 hZ hB4=>?_
 have b02:=(b1.trans bl).trans b2
 have w1le:=b1.le
 have wlle:=bl.le
 replace hV:=(hV.bel bl).bel b2
 replace hL:=hL.bel b2
 refine zII zAg x0 rfl hV.at rfl ?_
 refine zNo (h.bel b02) fun w3 b3=>?_
 have b03:=b02.trans b3
 have hZ3:=hZ.bel b3
 unfold zJm at H
 refine ⟨fun hc=>?_,fun hc=>?_⟩
 ·rw [if_pos hc] at H
  refine ⟨zQO,w3,by kernel_rfl,?_⟩
  exact zPA hZ3 rfl fun W' hg=>H Sl.none W' W'.heap.size (b03.grown hg fun r hr=>by cases hr;omega).le (OwnS.nil _ _ _ _ _) (b03.grown hg fun r hr=>by cases hr;omega)
 rw [if_neg hc] at H
 have hg:=zKQ.1 (Classical.not_not.1 hc)
 have hl4:=hg.len
 have hs:=hg.sorted
 refine zHM zA9 low (hL.bel b3).cell ?_
 refine zDi zFa zA9 (hV.bel b3).at x0.Low rfl ?_
 refine ⟨fun hlo=>?_,fun hlo=>?_⟩
 ·rw [if_pos hlo] at H
  refine ⟨zQO,w3,by kernel_rfl,?_⟩
  exact zPA hZ3 rfl fun W' hg=>H Sl.none W' W'.heap.size (b03.grown hg fun r hr=>by cases hr;omega).le (OwnS.nil _ _ _ _ _) (b03.grown hg fun r hr=>by cases hr;omega)
 rw [if_neg hlo] at H
 refine zHM zA9 low (hL.bel b3).cell ?_
 refine ⟨fun hhi=>?_,fun hhi=>?_⟩
 ·rw [if_pos hhi] at H
  refine ⟨zQO,w3,by kernel_rfl,?_⟩
  exact zPA hZ3 rfl fun W' hg=>H Sl.none W' W'.heap.size (b03.grown hg fun r hr=>by cases hr;omega).le (OwnS.nil _ _ _ _ _) (b03.grown hg fun r hr=>by cases hr;omega)
 rw [if_neg hhi] at H
 refine zHM zA9 low (hL.bel b3).cell ?_
 refine ⟨⟨Sl.none,low⟩,w3,by kernel_rfl,?_⟩
 refine zJb zFd rfl zAg (cs:=(⟨Sl.none,low⟩:zAH).cells) rfl rfl rfl fun B w4 b4 hR hB=>?_
 have b04:=b03.trans b4
 have hw3:=b03.le
 have hB4w:B4<w3.heap.size:=hZ3.lt
 have hBw:B<w4.heap.size:=hR.lt
 refine zDi zAh zAl ((hV.bel b3).bel b4).at x0.List rfl ?_
 refine zQl b04 h fun v b w7 hS hb6 hb7 b7=>?_
 have b07:=b04.trans b7
 have b37:=b4.trans b7
 have w7le:=b7.le
 refine ⟨Seg l,fun s=>s.key,fun s=>x0.List.sub s.lo s.hi 4,zFG w b,fun xs=>Cuts l xs l.length,fun _=>True,l.length,
  fun pre W=>∃ sl,Row W B [Sl.v sl,.int .u64 low] zAk∧zFt w7.heap.size W sl (swpS low pre)∧Bel w3 W∧w7.heap.size≤W.heap.size,fun _ _=>False,
  zKo.of2 hS b07.le hb7 (fun s W W' row hi hg hr=>?_) (fun s W W' row hi hg hr=>hi) (fun pre W hi=>hi.elim fun _ h=>h.2.2.2) ⟨Sl.none,hR.bel b7,OwnS.nil _ _ _ _ _,b37,Nat.le_refl _⟩,
  fun W=>zFG.refl _ _ _,?_,?_,?_⟩
 ·obtain ⟨sl,h1,h2,h3,h4⟩:=hi
  exact ⟨sl,h1.notwalk hg hr,h2.notwalk hg hr,h3.notwalk b37.le hg hr,Nat.le_trans h4 hg.size⟩
 ·rintro pre s W ⟨sl,h1,h2,h3,h4⟩ hlenp
  exact zPS h hs hl4 b03 (hL.bel b3) b37 hb7 (by omega) hB (by omega) s hlenp h4 h1 h2 h3
 ·rintro D xs W hD hC ⟨sl,h1,h2,h3,h4⟩ hK
  refine zII zAg ⟨sl,low⟩ rfl h1.at rfl ?_
  have hsw:=Cuts.sweep hs low hC
  rw [List.take_length] at hsw
  rw [← hsw] at h2
  refine zNy zAg (hZ3.bel h3) rfl rfl rfl fun W5 hR5 hg5=>?_
  have hDW:D<W.heap.size:=(Array.getElem?_eq_some_iff.1 hK).1
  have hw37:=b37.le
  have hK5:W5.heap[D]?=some (.deferred (some [])):=(hg5.block D hDW (fun e=>by have:=Option.some.inj e;omega)).trans hK
  refine ⟨hK5,?_⟩
  have hgd:=zMs W5 D
  have hr:∀ r,some D=some r→w7.heap.size≤r∧∃ o:Obj,W5.heap[r]?=some o∧o.isCells=false:=fun r e=>by cases e;exact ⟨hD,_,hK5,rfl⟩
  refine R.agg zAg ⟨sl,low⟩ rfl (hR5.notwalk hgd hr).at rfl ?_
  refine H sl _ w7.heap.size b07.le (OwnS.notwalk (h2.kept hg5 ?_) hgd hr) (((b03.trans h3).grown hg5 fun r hr=>by cases hr;omega).notwalk b07.le hgd hr)
  cases ho:(Sl.v sl).ownBlock with
  |none=>exact .inl rfl
  |some q=>exact .inr fun e=>by have h8:=h2.lo ho;have h9:=Option.some.inj e;omega
 ·exact fun D pre W h1 h2 h3 h4=>trivial
end Go.Proofs.YtealcoghiaeiiaaGreat.VG
set_option linter.unusedVariables false
namespace Go.Proofs.YtealcoghiaeiiaaGreat.VG
open Go.VB Go.VB.Srt Go.Proofs Go.RowKit
def zGi (w:Wri):Prop:=256<w.Key.size∨512<w.Val.size
def wkeys (m:List Wri):List ByteArray:=m.map (·.Key)
open Classical in
noncomputable def zMW (m:List Wri):Int:=if 4096<m.length then 3 else if (∃ w∈m,zGi w) then 4 else if ¬ (wkeys m).Nodup then 12 else 0
theorem zKO {m:List Wri}:zMW m=0↔m.length≤4096∧(∀ w∈m,¬ zGi w)∧(wkeys m).Nodup:=by
 unfold zMW
 by_cases h1:4096<m.length
 ·rw [if_pos h1];exact ⟨fun h=>absurd h (by decide),fun h=>by omega⟩
 rw [if_neg h1]
 by_cases h2:∃ w∈m,zGi w
 ·rw [if_pos h2];exact ⟨fun h=>absurd h (by decide),fun h=>absurd h2 (fun ⟨w,h3,h4⟩=>h.2.1 w h3 h4)⟩
 rw [if_neg h2]
 by_cases h3:(wkeys m).Nodup
 ·rw [if_neg (by simp [h3])];exact ⟨fun _=>⟨by omega,fun w h4 h5=>h2 ⟨w,h4,h5⟩,h3⟩,fun _=>rfl⟩
 ·rw [if_pos h3];exact ⟨fun h=>absurd h (by decide),fun h=>absurd h.2.2 h3⟩
def mk (t:Int) (w:Wri):Ver:=⟨w.Key,t,if w.Gone=true then noB else w.Val,w.Gone⟩
def ins (x:Ver):List Ver→List Ver
 |[]=>[x]
 |y::r=>if sLt x.Key y.Key=true then x::y::r else y::ins x r
def putL (l:List Ver) (t:Int) (m:List Wri):List Ver:=m.foldl (fun l w=>ins (mk t w) l) l
theorem zQ3 (x:Ver):∀ l:List Ver,(ins x l).length=l.length+1
 |[]=>rfl
 |y::r=>by
  rw [ins];split
  ·rfl
  ·rw [List.length_cons,zQ3 x r,List.length_cons]
theorem zPW {x z:Ver}:∀ {l:List Ver},z∈ins x l↔z=x∨z∈l
 |[]=>by simp [ins]
 |y::r=>by
  rw [ins];split
  ·simp
  ·rw [List.mem_cons,zPW,List.mem_cons]
   constructor
   ·rintro (h|h|h)<;>simp [h]
   ·rintro (h|h|h)<;>simp [h]
theorem zQH (x:Ver):∀ l:List Ver,(ins x l).Perm (x::l)
 |[]=>List.Perm.refl _
 |y::r=>by
  rw [ins];split
  ·exact List.Perm.refl _
  ·exact ((zQH x r).cons y).trans (List.Perm.swap x y r)
theorem zN9 {x:Ver}:∀ {l:List Ver},l.Pairwise vlt→(∀ y∈l,y.Key=x.Key→y.At<x.At)→(ins x l).Pairwise vlt
 |[],_,_=>by simp [ins]
 |y::r,hs,h=>by
  rw [List.pairwise_cons] at hs
  rw [ins];split
  ·rename_i hlt
   rw [List.pairwise_cons,List.pairwise_cons]
   refine ⟨fun z hz=>?_,hs⟩
   rcases List.mem_cons.1 hz with h1|h1
   ·subst h1;exact .inl hlt
   ·exact zNV (.inl hlt) (hs.1 z h1)
  ·rename_i hlt
   rw [List.pairwise_cons]
   refine ⟨fun z hz=>?_,zN9 hs.2 fun z hz=>h z (List.mem_cons_of_mem _ hz)⟩
   rcases zPW.1 hz with h1|h1
   ·subst h1
    by_cases hk:y.Key=z.Key
    ·exact .inr ⟨hk,h y (by simp) hk⟩
    ·exact .inl (zKE hlt (fun e=>hk e.symm))
   ·exact hs.1 z h1
theorem zPz (t:Int):∀ (m:List Wri) (l:List Ver),(putL l t m).length=l.length+m.length
 |[],l=>rfl
 |w::m,l=>by
  show (putL (ins (mk t w) l) t m).length=_
  rw [zPz t m,zQ3,List.length_cons];omega
theorem zNh (t:Int):∀ (m:List Wri) (l:List Ver),(putL l t m).Perm (l++m.map (mk t))
 |[],l=>by simp [putL]
 |w::m,l=>by
  show (putL (ins (mk t w) l) t m).Perm _
  refine (zNh t m _).trans ?_
  rw [List.map_cons]
  refine ((zQH (mk t w) l).append_right (m.map (mk t))).trans ?_
  exact (List.perm_middle (a:=mk t w) (l₁:=l) (l₂:=m.map (mk t))).symm
theorem zMI {t:Int}:∀ (m:List Wri) (l:List Ver),l.Pairwise vlt→(wkeys m).Nodup→(∀ w∈m,∀ y∈l,y.Key=w.Key→y.At<t)→(putL l t m).Pairwise vlt
 |[],l,hs,_,_=>hs
 |w::m,l,hs,hn,h=>by
  have hn':=List.nodup_cons.1 (show (w.Key::wkeys m).Nodup from hn)
  refine zMI (t:=t) m _ (zN9 hs (h w (by simp))) hn'.2 fun v hv y hy hk=>?_
  rcases zPW.1 hy with h1|h1
  ·subst h1
   exact absurd (List.mem_map.2 ⟨v,hv,hk.symm⟩) hn'.1
  ·exact h v (List.mem_cons_of_mem _ hv) y h1 hk
theorem zMy:∀ {s t:List Ver},s.Pairwise vlt→t.Pairwise vlt→(∀ x,x∈s↔x∈t)→s=t
 |[],[],_,_,_=>rfl
 |[],y::t,_,_,h=>absurd ((h y).2 (by simp)) (by simp)
 |x::s,[],_,_,h=>absurd ((h x).1 (by simp)) (by simp)
 |x::s,y::t,hs,ht,h=>by
  rw [List.pairwise_cons] at hs ht
  have hxy:x=y:=by
   rcases List.mem_cons.1 ((h x).1 (by simp)) with h1|h1
   ·exact h1
   ·rcases List.mem_cons.1 ((h y).2 (by simp)) with h2|h2
    ·exact h2.symm
    ·exact absurd (zNV (hs.1 y h2) (ht.1 x h1)) (zNW x)
  subst hxy
  have hst:s=t:=zMy hs.2 ht.2 fun z=>by
   constructor
   ·intro hz
    rcases List.mem_cons.1 ((h z).1 (by simp [hz])) with h1|h1
    ·subst h1;exact absurd (hs.1 z hz) (zNW z)
    ·exact h1
   ·intro hz
    rcases List.mem_cons.1 ((h z).2 (by simp [hz])) with h1|h1
    ·subst h1;exact absurd (ht.1 z hz) (zNW z)
    ·exact h1
  rw [hst]
theorem zPl {s t:List Ver} (hs:s.Pairwise vlt) (ht:t.Pairwise vlt) (h:s.Perm t):s=t:=zMy hs ht fun x=>h.mem_iff
theorem zRC {ys:List Ver} (hp:ys.Pairwise (fun x y=>Le vltB x y)) (hn:ys.Pairwise (fun x y=>¬ (x.Key=y.Key∧x.At=y.At))):ys.Pairwise vlt:=
 (hp.and hn).imp fun {x y} h=>by
  have h1:¬ vlt y x:=fun h2=>by have h3:vltB y x=false:=h.1;rw [zLn.2 h2] at h3;cases h3
  exact zRb h1 (fun h2=>h.2 ⟨h2.1.symm,h2.2.symm⟩)
theorem zTe {l:List Ver} {t:Int} {m:List Wri} {ys:List Ver} (hs:l.Pairwise vlt) (hn:(wkeys m).Nodup) (hl:∀ y∈l,y.At<t) (hp:ys.Perm (l++m.map (mk t))) (hle:ys.Pairwise (fun x y=>Le vltB x y)):ys=putL l t m:=by
 have hq:=zMI (t:=t) m l hs hn fun w _ y hy _=>hl y hy
 have hpp:=zNh t m l
 refine zPl (zRC hle ?_) hq (hp.trans hpp.symm)
 have h1:(putL l t m).Pairwise (fun x y=>¬ (x.Key=y.Key∧x.At=y.At)):=hq.imp fun {x y} h h2=>by
  rcases h with h|h
  ·rw [h2.1] at h;exact zFy _ h
  ·omega
 exact (hp.trans hpp.symm).pairwise_iff (fun {a b} h h2=>h ⟨h2.1.symm,h2.2.symm⟩) |>.2 h1
open Classical in
noncomputable def pwhy (l:List Ver) (low:Int) (m:List Wri) (t:Int):Int:=
 if vchk l low≠0 then vchk l low else if zMW m≠0 then zMW m else if t<1∨2305843009213693952<t then 2 else if t<low∨(∃ x∈l,t≤x.At) then 9 else if 4096<l.length+m.length then 3 else 0
noncomputable def vput (l:List Ver) (low:Int) (m:List Wri) (t:Int):List Ver × Int × Int:=
 if pwhy l low m t≠0 then ([],0,pwhy l low m t) else (putL l t m,low,0)
theorem zLm {l:List Ver} {low:Int} {m:List Wri} {t:Int}:pwhy l low m t=0↔GoodV l low∧zMW m=0∧1≤t∧t≤2305843009213693952∧low≤t∧(∀ x∈l,x.At<t)∧l.length+m.length≤4096:=by
 unfold pwhy
 by_cases h1:vchk l low=0
 case neg=>rw [if_pos h1];exact ⟨fun h=>absurd h h1,fun h=>absurd (zKQ.2 h.1) h1⟩
 rw [if_neg (by simp [h1])]
 by_cases h2:zMW m=0
 case neg=>rw [if_pos h2];exact ⟨fun h=>absurd h h2,fun h=>absurd h.2.1 h2⟩
 rw [if_neg (by simp [h2])]
 by_cases h3:t<1∨2305843009213693952<t
 ·rw [if_pos h3];exact ⟨fun h=>absurd h (by decide),fun h=>by omega⟩
 rw [if_neg h3]
 by_cases h4:t<low∨(∃ x∈l,t≤x.At)
 ·rw [if_pos h4]
  refine ⟨fun h=>absurd h (by decide),fun h=>?_⟩
  rcases h4 with h5|⟨x,h5,h6⟩
  ·omega
  ·have:=h.2.2.2.2.2.1 x h5;omega
 rw [if_neg h4]
 by_cases h5:4096<l.length+m.length
 ·rw [if_pos h5];exact ⟨fun h=>absurd h (by decide),fun h=>by omega⟩
 rw [if_neg h5]
 exact ⟨fun _=>⟨zKQ.1 h1,h2,by omega,by omega,by omega,fun x hx=>Int.not_le.1 fun h6=>h4 (.inr ⟨x,hx,h6⟩),by omega⟩,fun _=>rfl⟩
end Go.Proofs.YtealcoghiaeiiaaGreat.VG
set_option linter.unusedVariables false
namespace Go.Proofs.YtealcoghiaeiiaaGreat.VG
open Go.VB Go.VB.Srt Go.Proofs Go.RowKit
theorem zUD:Agg Tryz.prog zMU 0:=⟨fun w=>by kernel_rfl,fun w=>by kernel_rfl,by kernel_rfl⟩
theorem zUF:∀ w,(Instr.alloc zMU true (.tuple #[])).run Tryz.prog w=.ok (.pointer (some ⟨w.heap.size,0,none⟩)) (w.alloc (.cells ([]:List Value).toArray zMU)):=fun w=>by kernel_rfl
theorem zv_s0:∀ w,(zeroValue zMU).run Tryz.prog w=.ok (.agg ([]:List Value).toArray) w:=fun w=>by kernel_rfl
theorem zMw:KeyOk Tryz.prog zPB Value.string:=KeyOk.string (by kernel_rfl)
abbrev WriRd (w:World) (s:Sl) (l:List Wri):Prop:=Rd zAD.cells 3 w s l
theorem OwnS.ne_row {α:Type} {c:α→List Value} {n e base:Nat} {w:World} {s:Sl} {xs:List α} (h:OwnS c n e base w s xs) {B:Nat} {cs:List Value} {e':TypeId} (hR:Row w B cs e') (hne:e≠e'):(Sl.v s).ownBlock≠some B:=fun hB=>by
 rcases h.row.2 with ⟨h1,_⟩|⟨g,cap,cur,h1,_,hh,_⟩
 ·rw [h1] at hB;cases hB
 ·rw [h1] at hB
  simp [Value.ownBlock] at hB
  subst hB
  unfold Row at hR
  rw [hR] at hh
  injection hh with hh
  injection hh with _ h3 _
  exact hne h3.symm
theorem getW {l:List Wri} {n:Nat} (h:n<l.length):∃ x,l[n]?=some x:=⟨l[n]'h,by simp⟩
theorem zQU (x:Wri) (w:World) {k:Bool→World→Prop} (H:∀ b w',(b=true↔zGi x)→Bel w w'→k b w'):
  Cl Tryz.prog zKV [zAD.v x].toArray w (fun e w'=>∃ r0:Bool,e=.returned (.bool r0)∧k r0 w'):=by
 refine zNX x w k ?_
 unfold zKp
 refine zGl (cs:=x.cells) rfl fun B w1 b1 hX _=>?_
 refine zDi zD9 zAc hX.at x.Key rfl ?_
 unfold zG8
 refine ⟨fun h=>H true w1 ⟨fun _=>.inl (by omega),fun _=>rfl⟩ b1,fun h=>?_⟩
 refine zDi zGv zAc hX.at x.Val rfl ?_
 refine H _ w1 ?_ b1
 rw [decide_eq_true_iff]
 exact ⟨fun h=>.inr (by omega),fun h1=>by rcases h1 with h1|h1<;>omega⟩
theorem zPG {w:World} {x:Sl} {m:List Wri} (hd:WriRd w x m) {k:Bool→World→Prop} (H:∀ b w',(b=true↔∃ d∈m,zGi d)→Bel w w'→k b w'):
  Cl Tryz.prog zHN [Sl.v x,.func (.func zKV) #[] #[]].toArray w (fun e w'=>∃ r0:Bool,e=.returned (.bool r0)∧k r0 w'):=by
 have dbig:=hd.big;have dcap:=hd.cap;have dlen:=hd.len
 refine zHJ x _ w k ?_
 unfold zEO
 refine zHw x _ w _ ?_
 unfold zEf
 refine ⟨fun i w1=>∃ n:Nat,i=(n:Int)∧n≤m.length∧Bel w w1∧∀ d∈m.take n,¬ zGi d,fun i _=>(x.len - i).toNat,⟨0,rfl,by omega,Bel.refl _,by simp⟩,?_⟩
 rintro i w1 ⟨n,rfl,hn,hb,hno⟩
 unfold zDW
 refine ⟨fun hc=>?_,fun hc=>?_⟩
 ·obtain ⟨d,hdn⟩:=getW (l:=m) (n:=n) (by omega)
  refine zLL (hd.bel hb) zGJ zH1 (by omega) (x:=d) (by simpa using hdn) fun ad hA=>?_
  refine zII zDq d rfl hA rfl ?_
  refine .inl ⟨zKV,[],[],rfl,ent84,zQU d w1 fun b w2 hbb hb2=>?_⟩
  refine ⟨fun ht=>?_,fun hf=>?_⟩
  ·dsimp only
   rw [decide_eq_true (p:=0≤(n:Int)) (by omega)]
   exact H true w2 ⟨fun _=>⟨d,List.mem_of_getElem? hdn,hbb.1 ht⟩,fun _=>rfl⟩ (hb.trans hb2)
  ·rw [wr64 (by omega) (by omega)]
   refine ⟨⟨n+1,by omega,by omega,hb.trans hb2,fun e he=>?_⟩,by dsimp only;omega⟩
   rw [zIx hdn] at he
   rcases List.mem_append.1 he with h2|h2
   ·exact hno e h2
   ·simp at h2;subst h2;exact fun h3=>by rw [hbb.2 h3] at hf;cases hf
 ·obtain rfl:n=m.length:=by omega
  rw [List.take_length] at hno
  refine H _ w1 ⟨fun h=>absurd (of_decide_eq_true h) (by omega),fun ⟨d,h1,h2⟩=>absurd h2 (hno d h1)⟩ hb
theorem zQb {m:List Wri} {n:Nat} {x:Wri} (h:m[n]?=some x):wkeys (m.take (n+1))=wkeys (m.take n)++[x.Key]:=by
 unfold wkeys;rw [zIx h,List.map_append];rfl
theorem zOE {l:List ByteArray} {a:ByteArray}:(l++[a]).Nodup↔l.Nodup∧a∉l:=by
 rw [List.nodup_append]
 constructor
 ·rintro ⟨h1,_,h3⟩;exact ⟨h1,fun h=>h3 a h a (by simp) rfl⟩
 ·rintro ⟨h1,h2⟩;exact ⟨h1,by simp,fun x hx y hy e=>by simp at hy;subst hy;subst e;exact h2 hx⟩
theorem zQg {m:List Wri} (n:Nat) (h:¬ (wkeys (m.take n)).Nodup):¬ (wkeys m).Nodup:=fun h1=>h (by
 unfold wkeys at*
 rw [List.map_take]
 exact h1.sublist (List.take_sublist _ _))
theorem zQ7 {w:World} {x:Sl} {m:List Wri} (hd:WriRd w x m) {k:Int→World→Prop} (H:∀ w',Bel w w'→k (zMW m) w'):
  Cl Tryz.prog zOT [Sl.v x].toArray w (fun e w'=>∃ r0:Int,e=.returned (.int .i64 r0)∧k r0 w'):=by
 have dbig:=hd.big;have dcap:=hd.cap;have dlen:=hd.len
 refine zOg x w k ?_
 unfold zLa
 unfold zMW at H
 refine ⟨fun hc=>?_,fun hc=>?_⟩
 ·rw [if_pos (by omega)] at H;exact H w (Bel.refl _)
 rw [if_neg (by omega)] at H
 refine zPG hd fun b w1 hb b1=>?_
 refine ⟨fun ht=>?_,fun hf=>?_⟩
 ·rw [if_pos (hb.1 ht)] at H;exact H w1 b1
 rw [if_neg (fun h=>by rw [hb.2 h] at hf;cases hf)] at H
 refine zRI (ek:=Value.string) (ev:=zKs.v) fun hM=>?_
 have b2:=Bel.alloc w1 (.map #[] 0)
 have hle1:=b1.le
 generalize hB:w1.heap.size=B at hM hle1 ⊢
 generalize (w1.alloc (.map #[] 0))=w2 at hM b2 ⊢
 have b02:=b1.trans b2
 refine ⟨fun i W=>∃ (n:Nat) (f:ByteArray→Option zKs),i=(n:Int)∧n≤m.length∧Bel w W∧MapIs Value.string zKs.v W B f∧(∀ s,(f s).isSome=true↔s∈wkeys (m.take n))∧(wkeys (m.take n)).Nodup,fun i _=>(x.len - i).toNat,⟨0,_,rfl,by omega,b02,hM,fun s=>by simp [wkeys],by simp [wkeys]⟩,?_⟩
 rintro i W ⟨n,f,rfl,hn,hb,hm,hf1,hnd⟩
 unfold zIy
 refine ⟨fun hlt=>?_,fun hlt=>?_⟩
 case refine_2=>
  obtain rfl:n=m.length:=by omega
  rw [List.take_length] at hnd
  rw [if_neg (by simp [hnd])] at H
  exact H W hb
 obtain ⟨d,hdn⟩:=getW (l:=m) (n:=n) (by omega)
 have hwk:=zQb hdn
 refine zLL (hd.bel hb) zGJ zH1 (by omega) (x:=d) (by simpa using hdn) fun ad hA=>?_
 refine zII zDq d rfl hA rfl ?_
 refine zJb zGU rfl zDq (cs:=d.cells) rfl rfl rfl fun C w3 b3 hX hC=>?_
 refine zDi zD9 zAc hX.at d.Key rfl ?_
 have hm3:=hm.bel b3
 refine ⟨((f d.Key).getD ⟨⟩,(f d.Key).isSome),w3,hm3.run_lookOk zMw zJ8 zv_s0 d.Key,?_⟩
 refine zJb zUF rfl zUD (cs:=([]:List Value)) rfl rfl rfl fun C2 w4 b4 _ _=>?_
 have b04:=(hb.trans b3).trans b4
 refine ⟨fun ht=>?_,fun hfl=>?_⟩
 ·have hin:=(hf1 d.Key).1 ht
  rw [if_pos (zQg (n+1) (by rw [hwk,zOE];exact fun h=>h.2 hin))] at H
  exact H w4 b04
 ·have hout:d.Key∉wkeys (m.take n):=fun h=>by rw [(hf1 d.Key).2 h] at hfl;cases hfl
  refine zDi zD9 zAc (hX.bel b4).at d.Key rfl ?_
  refine ⟨⟨⟩,w4,by kernel_rfl,?_⟩
  refine zTV (hm3.bel b4) zMw zJ8 d.Key ⟨⟩ fun w5 hm5 hg5=>?_
  rw [wr64 (by omega) (by omega)]
  refine ⟨⟨n+1,_,by omega,by omega,b04.grown hg5 (fun q hq=>by cases hq;exact hle1),hm5,fun s=>?_,by rw [hwk,zOE];exact ⟨hnd,hout⟩⟩,by dsimp only;omega⟩
  rw [hwk]
  by_cases hs:s=d.Key
  ·subst hs;rw [zEE];simp
  ·rw [zB9 _ _ hs,hf1 s];simp [hs]
theorem zOt {w:World} {x:Sl} {l:List Ver} (hd:VerRd w x l) {t:Int} {B:Nat} (hT:Row w B [.int .u64 t] zMP) {k:Bool→World→Prop} (H:∀ b w',(b=true↔∃ d∈l,t≤d.At)→Bel w w'→k b w'):
  Cl Tryz.prog zE7 [Sl.v x,.func (.func zMO) [].toArray [(.pointer (some ⟨B,0,none⟩))].toArray].toArray w (fun e w'=>∃ r0:Bool,e=.returned (.bool r0)∧k r0 w'):=by
 have dbig:=hd.big;have dcap:=hd.cap;have dlen:=hd.len
 refine zE8 x _ w k ?_
 unfold zCt
 refine zFT x _ w _ ?_
 unfold zDX
 refine ⟨fun i w1=>∃ n:Nat,i=(n:Int)∧n≤l.length∧Bel w w1∧∀ d∈l.take n,¬ t≤d.At,fun i _=>(x.len - i).toNat,⟨0,rfl,by omega,Bel.refl _,by simp⟩,?_⟩
 rintro i w1 ⟨n,rfl,hn,hb,hno⟩
 unfold zBO
 refine ⟨fun hc=>?_,fun hc=>?_⟩
 ·obtain ⟨d,hdn⟩:=getV (l:=l) (n:=n) (by omega)
  refine zLL (hd.bel hb) zBU zC2 (by omega) (x:=d) (by simpa using hdn) fun ad hA=>?_
  refine zII zAx d rfl hA rfl ?_
  refine .inl ⟨zMO,[],[.pointer (some ⟨B,0,none⟩)],rfl,ent66,?_⟩
  refine zOV d (some ⟨B,0,none⟩) w1 _ ?_
  unfold zLj
  refine zGl (cs:=d.cells) rfl fun C w2 b2 hX _=>?_
  refine zDi zFZ zA9 hX.at d.At rfl ?_
  refine zHM zA9 t ((hT.bel hb).bel b2).cell ?_
  refine ⟨fun ht=>?_,fun hf=>?_⟩
  ·dsimp only
   rw [decide_eq_true (p:=0≤(n:Int)) (by omega)]
   exact H true w2 ⟨fun _=>⟨d,List.mem_of_getElem? hdn,of_decide_eq_true ht⟩,fun _=>rfl⟩ (hb.trans b2)
  ·have h1:=of_decide_eq_false hf
   rw [wr64 (by omega) (by omega)]
   refine ⟨⟨n+1,by omega,by omega,hb.trans b2,fun e he=>?_⟩,by dsimp only;omega⟩
   rw [zIx hdn] at he
   rcases List.mem_append.1 he with h2|h2
   ·exact hno e h2
   ·simp at h2;subst h2;exact h1
 ·obtain rfl:n=l.length:=by omega
  rw [List.take_length] at hno
  refine H _ w1 ⟨fun h=>absurd (of_decide_eq_true h) (by omega),fun ⟨d,h1,h2⟩=>absurd h2 (hno d h1)⟩ hb
theorem zQG {w:World} {x0:Sl} {l:List Ver} (h:VerRd w x0 l) (hl:l.length≤2932031007402) {k:Sl→World→Prop} (H:∀ r w',zFt w.heap.size w' r l→Bel w w'→k r w'):
  Cl Tryz.prog zH9 [Sl.v x0].toArray w (fun e w'=>∃ r0:Sl,e=.returned (Sl.v r0)∧k r0 w'):=by
 refine zIA x0 w k ?_
 unfold zEi
 obtain ⟨a,len,cap⟩:=x0
 cases a with
 |none=>
  have hcap:=h.nilc rfl;have h1:=h.cap;have h2:=h.len
  have hl0:l=[]:=List.eq_nil_of_length_eq_zero (by simp at hcap h1 h2;omega)
  refine ⟨true,w,by kernel_rfl,fun _=>?_,fun h=>(nomatch h)⟩
  subst hl0
  exact H _ _ (OwnS.nil _ _ _ _ _) (Bel.refl _)
 |some a=>
  refine ⟨false,w,by kernel_rfl,fun h=>(nomatch h),fun _=>?_⟩
  refine ⟨_,_,zM0 w,?_⟩
  exact zQp (w0:=w) (OwnS.lit0 (Nat.le_refl _)) (h.bel (Bel.alloc _ _)) (Bel.alloc _ _) (Nat.le_refl _) (by rw [size_alloc'];omega) (by simpa using hl) fun s' w' h1 h2 _=>H s' w' (by simpa using h1) h2
theorem zSH {base:Nat} {w0 W:World} {B C:Nat} {sl:Sl} {low:Int} {l:List Ver} {x:Ver} (hR:Row W B [Sl.v sl,.int .u64 low] zAk) (hO:zFt base W sl l) (hX:At W ⟨C,0,none⟩ x.cells) (hb:Bel w0 W) (h0:w0.heap.size≤base) (hbw:base≤W.heap.size) (hB0:w0.heap.size≤B) (room:l.length+1≤2932031007402)
  {k:World→Prop} (H:∀ s' W',Row W' B [Sl.v s',.int .u64 low] zAk→zFt base W' s' (l++[x])→Bel w0 W'→W.heap.size≤W'.heap.size→k W'):
  opE Tryz.prog Value.pointer (Instr.fieldAt zAk (.pointer (some ⟨B,0,none⟩)) 0) W (fun p w=>opE Tryz.prog Sl.v (Instr.loadAt zAW (.pointer p)) w (fun s w=>opE Tryz.prog zAB.v (Instr.loadAt zAp (.pointer (some ⟨C,0,none⟩))) w (fun v w=>
   opE Tryz.prog Sl.v (Instr.buildSlice zAW 1 [(0,zAB.v v)].toArray) w (fun y w=>opE Tryz.prog Sl.v (Builtin.append_ #[zAW,zAW] zAW [Sl.v s,Sl.v y].toArray) w (fun s' w=>
   opE Tryz.prog Value.pointer (Instr.fieldAt zAk (.pointer (some ⟨B,0,none⟩)) 0) w (fun p w=>opU Tryz.prog (Instr.storeAt zAW (.pointer p) (Sl.v s')) w k)))))):=by
 refine zDi zAh zAl hR.at sl rfl ?_
 refine zII zAx x rfl hX rfl ?_
 refine zPw (w0:=w0) hO hb h0 hbw room fun s' W3 h1 h2 h3=>?_
 have hR3:=hR.grown h3 (OwnS.ne_row hO hR (by decide))
 refine ⟨_,_,zAh _ W3,?_⟩
 refine zNK zAl (off:=0) hR3 rfl (by simp) rfl fun W4 h4 h5=>?_
 refine H s' W4 (by simpa using h4) (h1.kept h5 (.inr (OwnS.ne_row h1 hR3 (by decide)))) (h2.grown h5 fun r hr=>by cases hr;exact hB0) (Nat.le_trans h3.size h5.size)
end Go.Proofs.YtealcoghiaeiiaaGreat.VG
set_option linter.unusedVariables false
namespace Go.Proofs.YtealcoghiaeiiaaGreat.VG
open Go.VB Go.VB.Srt Go.Proofs Go.RowKit
theorem zQv {w u W:World} {x1:Sl} {l:List Ver} {m:List Wri} {low t:Int} {B5 B6 B9:Nat} {r:Sl} (hm:WriRd w x1 m) (hbu:Bel w u) (hs:l.Pairwise vlt) (hn:(wkeys m).Nodup) (hl:∀ y∈l,y.At<t) (hlen:l.length+m.length≤4096)
  (h5:Row u B5 [.int .u64 t] zMP) (h6:Row u B6 zKw zAk) (hB6:w.heap.size≤B6) (hR:Row W B9 [Sl.v r,.int .u64 low] zAk) (hO:zFt u.heap.size W r l) (hb:Bel u W) (hB9:u.heap.size≤B9)
  {k:zAH→Int→World→Prop} (H:∀ r w' base,w.heap.size≤base→zFt base w' r (putL l t m)→Bel w w'→k ⟨r,low⟩ 0 w'):
  zIE x1 k (some ⟨B5,0,none⟩) (some ⟨B6,0,none⟩) (some ⟨B9,0,none⟩) W:=by
 have dbig:=hm.big;have dcap:=hm.cap;have dlen:=hm.len
 have hwu:=hbu.le
 have lt6:=h6.lt
 unfold zIE
 refine ⟨fun i W'=>∃ (n:Nat) (sl:Sl),i=(n:Int)∧n≤m.length∧Row W' B9 [Sl.v sl,.int .u64 low] zAk∧zFt u.heap.size W' sl (l++(m.take n).map (mk t))∧Bel u W',fun i _=>(x1.len - i).toNat,⟨0,r,rfl,by omega,hR,by simpa using hO,hb⟩,?_⟩
 rintro i W' ⟨n,sl,rfl,hnn,hR',hO',hb'⟩
 unfold zJt
 refine ⟨fun hlt=>?_,fun hlt=>?_⟩
 ·obtain ⟨d,hdn⟩:=getW (l:=m) (n:=n) (by omega)
  have hmk:(m.take (n+1)).map (mk t)=(m.take n).map (mk t)++[mk t d]:=by rw [zIx hdn,List.map_append];rfl
  refine zLL (hm.bel (hbu.trans hb')) zGJ zH1 (by omega) (x:=d) (by simpa using hdn) fun ad hA=>?_
  refine zII zDq d rfl hA rfl ?_
  refine zJb zGU rfl zDq (cs:=d.cells) rfl rfl rfl fun C w3 b3 hX hC=>?_
  refine zDi zD9 zAc hX.at d.Key rfl ?_
  refine zHM zA9 t ((h5.bel hb').bel b3).cell ?_
  refine zDi zGv zAc hX.at d.Val rfl ?_
  refine zDi zHd zJu hX.at d.Gone rfl ?_
  refine ⟨⟨d.Key,t,d.Val,d.Gone⟩,w3,by kernel_rfl,?_⟩
  refine zJb zGO rfl zAx (cs:=(⟨d.Key,t,d.Val,d.Gone⟩:Ver).cells) rfl rfl rfl fun C2 w4 b4 hY hC2=>?_
  have b34:=b3.trans b4
  have hb4:=hb'.trans b34
  refine zDi zHd zJu (hX.bel b4).at d.Gone rfl ?_
  have j5:∀ w5,Row w5 C2 (mk t d).cells zAp→Row w5 B9 [Sl.v sl,.int .u64 low] zAk→zFt u.heap.size w5 sl (l++(m.take n).map (mk t))→Bel u w5→
    zID (some ⟨B9,0,none⟩) n (fun (i':Int) (w':World)=>(∃ (n:Nat) (sl:Sl),i'=(n:Int)∧n≤m.length∧Row w' B9 [Sl.v sl,.int .u64 low] zAk∧zFt u.heap.size w' sl (l++(m.take n).map (mk t))∧Bel u w')∧(x1.len - i').toNat<(x1.len - (n:Int)).toNat) (some ⟨C2,0,none⟩) w5:=by
   intro w5 r1 r2 r3 r4
   unfold zID
   refine zSH (w0:=u) r2 r3 r1.at r4 (Nat.le_refl _) r4.le hB9 (by rw [List.length_append,List.length_map,List.length_take];omega) fun s' W5 q1 q2 q3 q4=>?_
   rw [wr64 (by omega) (by omega)]
   exact ⟨⟨n+1,s',by omega,by omega,q1,by rw [hmk,← List.append_assoc];exact q2,q3⟩,by omega⟩
  have hb'le:=hb'.le
  have b3le:=b3.le
  refine ⟨fun hg=>?_,fun hg=>?_⟩
  ·refine ⟨_,_,zGN _ w4,?_⟩
   refine zNK zAc (off:=2) hY rfl (by simp) rfl fun w5 hZ hg5=>?_
   refine j5 w5 ?_ (((hR'.bel b34)).grown hg5 (fun e=>?_)) ((hO'.bel b34).kept hg5 ?_) (hb4.grown hg5 fun r hr=>by cases hr;omega)
   ·rw [show (mk t d)=⟨d.Key,t,noB,d.Gone⟩ by unfold mk;rw [if_pos hg]];simpa using hZ
   ·have h1:=hR'.lt;have h2:=Option.some.inj e;omega
   ·cases ho:(Sl.v sl).ownBlock with
    |none=>exact .inl rfl
    |some q=>exact .inr fun e=>by have h8:=(hO'.row.lt q ho).2;have h9:=Option.some.inj e;omega
  ·exact j5 w4 (by rw [show (mk t d)=⟨d.Key,t,d.Val,d.Gone⟩ by unfold mk;rw [if_neg (by rw [hg];decide)]];exact hY) (hR'.bel b34) (hO'.bel b34) hb4
 ·obtain rfl:n=m.length:=by omega
  rw [List.take_length] at hO'
  refine zDi zAh zAl hR'.at sl rfl ?_
  refine SoCmpFunc_api_Version.sort_ok zR6 zQT hO' fun ys w3 hp hle hO3 hg3=>?_
  have hys:=zTe hs hn hl hp hle
  subst hys
  have hR3:=hR'.grown hg3 (OwnS.ne_row hO' hR' (by decide))
  refine zII zAg ⟨sl,low⟩ rfl hR3.at rfl ?_
  have hb3:Bel u w3:=hb'.grown hg3 fun r hr=>hO'.lo hr
  refine zPA (h6.bel hb3) rfl fun w4 hg4=>?_
  have hb6:Bel w w4:=(hbu.trans hb3).grown hg4 fun r hr=>by cases hr;exact hB6
  refine H sl w4 u.heap.size hwu (hO3.kept hg4 ?_) hb6
  cases ho:(Sl.v sl).ownBlock with
  |none=>exact .inl rfl
  |some q=>exact .inr fun e=>by have h8:=hO3.lo ho;have h9:=Option.some.inj e;omega
theorem zRN {w:World} {x0:zAH} {x1:Sl} {l:List Ver} {m:List Wri} (h:VerRd w x0.List l) (hm:WriRd w x1 m) (t:Int) {k:zAH→Int→World→Prop}
  (H:∀ r w' base,w.heap.size≤base→zFt base w' r (vput l x0.Low m t).1→Bel w w'→k ⟨r,(vput l x0.Low m t).2.1⟩ (vput l x0.Low m t).2.2 w'):
  Cl Tryz.prog zPR [zAH.v x0,Sl.v x1,.int .u64 t].toArray w (fun e w'=>∃ (r0:zAH) (r1:Int),e=.returned (.tuple [zAH.v r0,.int .i64 r1].toArray)∧k r0 r1 w'):=by
 refine zPa x0 x1 t w k ?_
 have hbig:=h.big;have hcap:=h.cap;have hlen:=h.len
 have dbig:=hm.big;have dcap:=hm.cap;have dlen:=hm.len
 unfold zM8
 refine zGl (cs:=x0.cells) rfl fun B3 w1 b1 hV hB3=>?_
 refine zGl (cs:=[.int .u64 t]) rfl fun B5 w2 b2 hT hB5=>?_
 refine zKA zFd fun B6 w3 b3 hZ hB6=>?_
 have b03:=(b1.trans b2).trans b3
 have w1le:=b1.le;have w2le:=b2.le
 replace hV:=(hV.bel b2).bel b3
 replace hT:=hT.bel b3
 refine zII zAg x0 rfl hV.at rfl ?_
 refine zNo (h.bel b03) fun w4 b4=>?_
 have b04:=b03.trans b4
 have J2:∀ (c:Int) W,Bel w4 W→c=pwhy l x0.Low m t→zGC x1 k (some ⟨B3,0,none⟩) (some ⟨B5,0,none⟩) (some ⟨B6,0,none⟩) c W:=by
  intro c W hb hc
  have b0W:=b04.trans hb
  have hZW:=(hZ.bel b4).bel hb
  unfold vput at H
  rw [← hc] at H
  unfold zGC
  refine ⟨fun hne=>?_,fun hz=>?_⟩
  ·rw [if_pos hne] at H
   refine ⟨zQO,W,by kernel_rfl,?_⟩
   have hbg:∀ W',W.grownBy W' (some B6)→Bel w W':=fun W' hg=>b0W.grown hg fun r hr=>by cases hr;omega
   exact zPA hZW rfl fun W' hg=>H Sl.none W' W'.heap.size (hbg W' hg).le (OwnS.nil _ _ _ _ _) (hbg W' hg)
  rw [if_neg hz] at H
  obtain ⟨g1,g2,g3,g4,g5,g6,g7⟩:=zLm.1 (hc ▸ Classical.not_not.1 hz:pwhy l x0.Low m t=0)
  have hnd:=(zKO.1 g2).2.2
  refine ⟨Bel W,fun u bu=>⟨bu,?_⟩⟩
  have b0u:=b0W.trans bu
  have hVu:=((hV.bel b4).bel hb).bel bu
  have hTu:=((hT.bel b4).bel hb).bel bu
  have hZu:=hZW.bel bu
  have hVb:∀ W',Bel W W'→Row W' B3 x0.cells zAk:=fun W' hw=>((hV.bel b4).bel hb).bel hw
  refine zMp zAh ?_
  refine zMp zFa ?_
  refine zKB zAl x0.List (fun W' hW'=>(hVb W' hW').at.fld rfl) ?_
  refine zKB zA9 x0.Low (fun W' hW'=>(hVb W' hW').at.fld rfl) ?_
  have fin:=fun (r:Sl) (B9:Nat) (W':World) (hR:Row W' B9 [Sl.v r,.int .u64 x0.Low] zAk) (hO:zFt u.heap.size W' r l) (hb':Bel u W') (hB9:u.heap.size≤B9)=>zQv (low:=x0.Low) (k:=k) hm b0u g1.sorted hnd g6 g7 hTu hZu (by omega) hR hO hb' hB9 H
  constructor
  ·refine zQG (h.bel b0u) (by omega) fun r W1 hO c1=>?_
   refine ⟨bu.trans c1,?_⟩
   refine ⟨⟨r,x0.Low⟩,fun W' _=>by kernel_rfl,?_⟩
   refine zKA zFd fun B9 W2 c2 hR hB9=>?_
   refine ⟨(bu.trans c1).trans c2,?_⟩
   have c1le:=c1.le
   refine zNy zAg hR rfl rfl rfl fun W3 hR3 hg3=>?_
   have c3:Bel u W3:=(c1.trans c2).grown hg3 fun r hr=>by cases hr;omega
   exact ⟨bu.trans c3,fin r B9 W3 hR3 ((hO.bel c2).kept hg3 (.inr (OwnS.ne_row (hO.bel c2) hR (by decide)))) c3 (by omega)⟩
  ·refine zKA zFd fun B9 W1 c1 hR hB9=>?_
   refine ⟨bu.trans c1,?_⟩
   refine zQG (h.bel (b0u.trans c1)) (by omega) fun r W2 hO c2=>?_
   refine ⟨(bu.trans c1).trans c2,?_⟩
   refine ⟨⟨r,x0.Low⟩,fun W' _=>by kernel_rfl,?_⟩
   have hR2:=hR.bel c2
   refine zNy zAg hR2 rfl rfl rfl fun W3 hR3 hg3=>?_
   have c3:Bel u W3:=(c1.trans c2).grown hg3 fun r hr=>by cases hr;omega
   have hO':zFt u.heap.size W2 r l:=⟨hO.len,hO.small,hO.row.1,by
    rcases hO.row.2 with h1|⟨g,cap,cur,p1,p2,p3⟩
    ·exact .inl h1
    ·exact .inr ⟨g,cap,cur,p1,Nat.le_trans c1.le p2,p3⟩⟩
   exact ⟨bu.trans c3,fin r B9 W3 hR3 (hO'.kept hg3 (.inr (OwnS.ne_row hO' hR2 (by decide)))) c3 hB9⟩
 have J1:∀ (c:Int) W,Bel w4 W→(c≠0→c=pwhy l x0.Low m t)→(c=0→vchk l x0.Low=0∧zMW m=0)→zIH x1 k (some ⟨B3,0,none⟩) (some ⟨B5,0,none⟩) (some ⟨B6,0,none⟩) c W:=by
  intro c W hb hc1 hc2
  have b0W:=b04.trans hb
  unfold zIH
  refine ⟨fun hne=>J2 c W hb (hc1 hne),fun hz=>?_⟩
  obtain rfl:c=0:=Classical.not_not.1 hz
  obtain ⟨e1,e2⟩:=hc2 rfl
  have hp:pwhy l x0.Low m t=if t<1∨2305843009213693952<t then 2 else if t<x0.Low∨(∃ x∈l,t≤x.At) then 9 else if 4096<l.length+m.length then 3 else 0:=by
   unfold pwhy;rw [if_neg (by simp [e1]),if_neg (by simp [e2])]
  have hg:=(zKQ.1 e1).len
  have hm4:=(zKO.1 e2).1
  have hTW:=(hT.bel b4).bel hb
  have hVW:=(hV.bel b4).bel hb
  refine zHM zA9 t hTW.cell ?_
  have r7t:(t<1∨2305843009213693952<t)→zIO x1 k (some ⟨B3,0,none⟩) (some ⟨B5,0,none⟩) (some ⟨B6,0,none⟩) 0 true W:=fun ht=>⟨fun _=>J2 2 W hb (by rw [hp,if_pos ht]),fun h=>(nomatch h)⟩
  refine ⟨fun ht=>r7t (.inl ht),fun ht=>?_⟩
  refine zHM zA9 t hTW.cell ?_
  by_cases ht2:2305843009213693952<t
  ·rw [decide_eq_true ht2];exact r7t (.inr ht2)
  rw [decide_eq_false ht2]
  rw [if_neg (by omega)] at hp
  unfold zIO
  refine ⟨fun h=>(nomatch h),fun _=>?_⟩
  refine zHM zA9 t hTW.cell ?_
  refine zDi zFa zA9 hVW.at x0.Low rfl ?_
  have r8t:∀ W',Bel w4 W'→(t<x0.Low∨(∃ x∈l,t≤x.At))→zIN x1 k (some ⟨B3,0,none⟩) (some ⟨B5,0,none⟩) (some ⟨B6,0,none⟩) 0 true W':=fun W' hb' ht=>⟨fun _=>J2 9 W' hb' (by rw [hp,if_pos ht]),fun h=>(nomatch h)⟩
  refine ⟨fun hlo=>r8t W hb (.inl hlo),fun hlo=>?_⟩
  refine zDi zAh zAl hVW.at x0.List rfl ?_
  refine zOt (h.bel b0W) hTW fun b W1 hbb b5=>?_
  cases b with
  |true=>exact r8t W1 (hb.trans b5) (.inr (hbb.1 rfl))
  |false=>
   rw [if_neg (fun hx=>by
    rcases hx with h1|h1
    ·exact hlo h1
    ·have:=hbb.2 h1;cases this)] at hp
   unfold zIN
   refine ⟨fun h=>(nomatch h),fun _=>?_⟩
   refine zDi zAh zAl (hVW.bel b5).at x0.List rfl ?_
   rw [wr64 (by omega) (by omega)]
   exact ⟨fun h4=>J2 3 W1 (hb.trans b5) (by rw [hp,if_pos (by omega)]),fun h4=>J2 0 W1 (hb.trans b5) (by rw [hp,if_neg (by omega)])⟩
 refine ⟨fun hc=>?_,fun hc=>J1 _ w4 (Bel.refl _) (fun _=>by unfold pwhy;rw [if_pos hc]) (fun h=>absurd h hc)⟩
 refine zQ7 (hm.bel b04) fun w5 b5=>?_
 exact J1 _ w5 b5 (fun hne=>by unfold pwhy;rw [if_neg (by simp [hc]),if_pos hne]) (fun hz=>⟨hc,hz⟩)
end Go.Proofs.YtealcoghiaeiiaaGreat.VG
set_option linter.unusedVariables false
namespace Go.Proofs.YtealcoghiaeiiaaGreat.VG
open Go.VB Go.VB.Srt Go.Proofs Go.RowKit
abbrev tA:ByteArray:=ByteArray.mk #[97]
abbrev t1:ByteArray:=ByteArray.mk #[49]
abbrev t2:ByteArray:=ByteArray.mk #[50]
end Go.Proofs.YtealcoghiaeiiaaGreat.VG
set_option linter.unusedVariables false
namespace Go.Proofs.YtealcoghiaeiiaaGreat.VG
open Go.VB Go.VB.Srt Go.Proofs Go.RowKit
theorem zPg {low:Int} {x z:Ver} {o:Option Ver}:z∈zIk low x o↔z=x∧(∀ y,o=some y→y.Key=x.Key→low<y.At)∧¬ (x.Gone=true∧x.At≤low):=by
 unfold zIk
 by_cases h1:∃ y,o=some y∧y.Key=x.Key∧y.At≤low
 ·rw [if_pos h1]
  obtain ⟨y,h2,h3,h4⟩:=h1
  exact ⟨fun h=>(nomatch h),fun h=>by have:=h.2.1 y h2 h3;omega⟩
 ·rw [if_neg h1]
  by_cases h2:x.Gone=true∧x.At≤low
  ·rw [if_pos h2];exact ⟨fun h=>(nomatch h),fun h=>absurd h2 h.2.2⟩
  ·rw [if_neg h2]
   refine ⟨fun h=>⟨by simpa using h,fun y h3 h4=>Int.not_le.1 fun h5=>h1 ⟨y,h3,h4,h5⟩,h2⟩,fun h=>by simp [h.1]⟩
theorem zOF {low:Int} {z:Ver}:∀ {l:List Ver},l.Pairwise vlt→(z∈swp low l↔z∈l∧(∀ y∈l,y.Key=z.Key→z.At<y.At→low<y.At)∧¬ (z.Gone=true∧z.At≤low))
 |[],_=>by simp [swp]
 |x::r,hs=>by
  rw [List.pairwise_cons] at hs
  rw [swp,List.mem_append,zPg,zOF hs.2]
  have hxr:∀ y∈r,y.Key=x.Key→x.At<y.At:=fun y hy hk=>by
   rcases hs.1 y hy with h|h
   ·rw [hk] at h;exact absurd h (zFy _)
   ·exact h.2
  constructor
  ·rintro (⟨rfl,h1,h2⟩|⟨h1,h2,h3⟩)
   ·refine ⟨by simp,fun y hy hk hlt=>?_,h2⟩
    rcases List.mem_cons.1 hy with h3|h3
    ·subst h3;omega
    ·cases r with
     |nil=>simp at h3
     |cons h r=>
      rcases List.mem_cons.1 h3 with h4|h4
      ·subst h4;exact h1 y rfl hk
      ·have h5:=(List.pairwise_cons.1 hs.2).1 y h4
       have h6:=hs.1 h (by simp)
       have hhk:h.Key=z.Key:=by
        rcases h5 with h5|h5
        ·rcases h6 with h6|h6
         ·rw [hk] at h5;exact absurd h6 (zL8 h5)
         ·exact h6.1.symm
        ·exact h5.1.trans hk
       have h7:=h1 h rfl hhk
       rcases h5 with h5|h5
       ·rw [hk,hhk] at h5;exact absurd h5 (zFy _)
       ·omega
   ·refine ⟨List.mem_cons_of_mem _ h1,fun y hy hk hlt=>?_,h3⟩
    rcases List.mem_cons.1 hy with h4|h4
    ·subst h4
     have:=hxr z h1 hk.symm
     omega
    ·exact h2 y h4 hk hlt
  ·rintro ⟨h1,h2,h3⟩
   rcases List.mem_cons.1 h1 with h4|h4
   ·left
    subst h4
    refine ⟨rfl,fun y hy hk=>?_,h3⟩
    have hyr:y∈r:=List.mem_of_mem_head? hy
    exact h2 y (List.mem_cons_of_mem _ hyr) hk (hxr y hyr hk)
   ·right
    exact ⟨h4,fun y hy=>h2 y (List.mem_cons_of_mem _ hy),h3⟩
theorem zPP (low:Int) (x:Ver) (o:Option Ver):(zIk low x o).Sublist [x]:=by
 unfold zIk;split
 ·exact List.nil_sublist _
 ·split
  ·exact List.nil_sublist _
  ·exact List.Sublist.refl _
theorem zL4 (low:Int):∀ l:List Ver,(swp low l).Sublist l
 |[]=>List.Sublist.refl _
 |x::r=>by
  rw [swp]
  exact (zPP low x r.head?).append (zL4 low r)
theorem zRz {l:List Ver} {low0 low:Int} (h:GoodV l low0) (hl:low≤2305843009213693952):GoodV (swp low l) low:=
 zOr (Nat.le_trans (zPT low l) h.len) hl (fun x hx=>h.made ((zL4 low l).subset hx)) (h.sorted.sublist (zL4 low l))
theorem zRo {l:List Ver} {low0 low:Int} (h:(zJm l low0 low).2.2=0):GoodV l low0∧low0≤low∧low≤2305843009213693952∧zJm l low0 low=(swp low l,low,0):=by
 unfold zJm at h ⊢
 by_cases h1:vchk l low0=0
 case neg=>rw [if_pos h1] at h;exact absurd h h1
 rw [if_neg (by simp [h1])] at h ⊢
 by_cases h2:low<low0
 ·rw [if_pos h2] at h;exact absurd h (by decide)
 rw [if_neg h2] at h ⊢
 by_cases h3:2305843009213693952<low
 ·rw [if_pos h3] at h;exact absurd h (by decide)
 rw [if_neg h3]
 exact ⟨zKQ.1 h1,by omega,by omega,rfl⟩
theorem zRm {l:List Ver} {low0 low:Int} (h:GoodV l low0) (h1:low0≤low) (h2:low≤2305843009213693952):zJm l low0 low=(swp low l,low,0):=by
 unfold zJm;rw [if_neg (by simp [zPF h]),if_neg (by omega),if_neg (by omega)]
theorem zQV {l m:List Ver} (hl:l.Pairwise vlt) (hm:m.Pairwise vlt) {key:ByteArray} {s t:Int} (h:∀ x:Ver,x.Key=key→((x∈l∧x.At≤s)↔(x∈m∧x.At≤t))):sees l key s=sees m key t:=by
 unfold sees
 congr 1
 refine zMy (hl.sublist List.filter_sublist) (hm.sublist List.filter_sublist) fun x=>?_
 rw [List.mem_filter,List.mem_filter]
 simp only [Bool.and_eq_true,decide_eq_true_eq]
 constructor
 ·rintro ⟨h1,h2,h3⟩;have:=(h x h2).1 ⟨h1,h3⟩;exact ⟨this.1,h2,this.2⟩
 ·rintro ⟨h1,h2,h3⟩;have:=(h x h2).2 ⟨h1,h3⟩;exact ⟨this.1,h2,this.2⟩
theorem zR0 {l:List Ver} {low0:Int} (hg:GoodV l low0) {low ask:Int} (ha:low≤ask) (key:ByteArray):outV (sees (swp low l) key ask)=outV (sees l key ask):=by
 have hs:=hg.sorted
 have hsw:=hs.sublist (zL4 low l)
 cases h:sees l key ask with
 |none=>
  have:sees (swp low l) key ask=none:=zJY.2 fun x hx=>zJY.1 h x ((zL4 low l).subset hx)
  rw [this]
 |some x=>
  obtain ⟨h1,h2,h3⟩:=zMY h
  have hmax:=zTS hs h
  by_cases hx:x∈swp low l
  ·rw [zOP hsw hx h2 h3 fun y hy=>hmax y ((zL4 low l).subset hy)]
  ·have hgone:x.Gone=true∧x.At≤low:=Classical.byContradiction fun hn=>hx ((zOF hs).2 ⟨h1,fun y hy hk hlt=>Int.not_le.1 fun hle=>by
    have:=hmax y hy (hk.trans h2) (by omega);omega,hn⟩)
   have:sees (swp low l) key ask=none:=zJY.2 fun z hz ⟨hk,hz2⟩=>by
    obtain ⟨z1,z2,z3⟩:=(zOF hs).1 hz
    have hzx:=hmax z z1 hk hz2
    by_cases he:z.At=x.At
    ·have:z=x:=by
      have hmem:∀ p∈l,∀ q∈l,p.Key=q.Key→p.At=q.At→p=q:=fun p hp q hq hk ha=>by
       obtain ⟨i,hi⟩:=List.getElem?_of_mem hp
       obtain ⟨j,hj⟩:=List.getElem?_of_mem hq
       rcases Nat.lt_trichotomy i j with hij|hij|hij
       ·rcases zMb hs hij hi hj with h5|h5
        ·rw [hk] at h5;exact absurd h5 (zFy _)
        ·omega
       ·subst hij;rw [hi] at hj;exact Option.some.inj hj
       ·rcases zMb hs hij hj hi with h5|h5
        ·rw [hk] at h5;exact absurd h5 (zFy _)
        ·omega
      exact hmem z z1 x h1 (hk.trans h2.symm) he
     subst this;exact hx hz
    ·have:=z2 x h1 (h2.trans hk.symm) (by omega);omega
   rw [this]
   show (noB,false)=(x.Val,!x.Gone)
   rw [hgone.1,(hg.made h1).gone hgone.1];rfl
theorem zNQ {l:List Ver} {t:Int} {m:List Wri} {x:Ver}:x∈putL l t m↔x∈l∨∃ w∈m,mk t w=x:=by
 rw [(zNh t m l).mem_iff,List.mem_append,List.mem_map]
theorem zTD {l:List Ver} {low:Int} {m:List Wri} {t:Int} (h:(vput l low m t).2.2=0):pwhy l low m t=0∧vput l low m t=(putL l t m,low,0):=by
 unfold vput at h ⊢
 by_cases h1:pwhy l low m t=0
 ·rw [if_neg (by simp [h1])];exact ⟨h1,rfl⟩
 ·rw [if_pos h1] at h;exact absurd h h1
theorem zTG {t:Int} {w:Wri} (h1:1≤t) (h2:t≤2305843009213693952) (hw:¬ zGi w):Made (mk t w):=by
 have h3:w.Key.size≤256:=Nat.not_lt.1 fun h=>hw (.inl h)
 have h4:w.Val.size≤512:=Nat.not_lt.1 fun h=>hw (.inr h)
 refine ⟨h1,h2,fun hg=>?_,h3,?_⟩
 ·unfold mk at hg ⊢;simp only at hg ⊢;rw [if_pos hg]
 ·unfold mk;simp only;split
  ·decide
  ·exact h4
theorem zM4 {l:List Ver} {low:Int} {m:List Wri} {t:Int} (h:pwhy l low m t=0):(putL l t m).Pairwise vlt:=by
 obtain ⟨g1,g2,g3,g4,g5,g6,g7⟩:=zLm.1 h
 exact zMI m l g1.sorted (zKO.1 g2).2.2 fun w _ y hy _=>g6 y hy
theorem zSD {l:List Ver} {low:Int} {m:List Wri} {t:Int} (h:pwhy l low m t=0):GoodV (putL l t m) low:=by
 obtain ⟨g1,g2,g3,g4,g5,g6,g7⟩:=zLm.1 h
 refine zOr (by rw [zPz];exact g7) g1.low (fun x hx=>?_) (zM4 h)
 rcases zNQ.1 hx with h1|⟨w,h1,rfl⟩
 ·exact g1.made h1
 ·exact zTG g3 g4 ((zKO.1 g2).2.1 w h1)
theorem zRy {l:List Ver} {low:Int} {m:List Wri} {t ask:Int} (h:pwhy l low m t=0) (ha:ask<t) (key:ByteArray):sees (putL l t m) key ask=sees l key ask:=by
 obtain ⟨g1,_⟩:=zLm.1 h
 refine zQV (zM4 h) g1.sorted fun x _=>?_
 rw [zNQ]
 constructor
 ·rintro ⟨h1|⟨w,h1,rfl⟩,h2⟩
  ·exact ⟨h1,h2⟩
  ·have:t≤ask:=h2;omega
 ·rintro ⟨h1,h2⟩;exact ⟨.inl h1,h2⟩
theorem zTB {l:List Ver} {low t:Int} (hg:GoodV l low) (ht:low≤t) (key:ByteArray):vget l low key t=((outV (sees l key t)).1,(outV (sees l key t)).2,0):=by
 unfold vget;rw [if_neg (by rw [zLS.2 ⟨hg,ht⟩];decide)]
end Go.Proofs.YtealcoghiaeiiaaGreat.VG
