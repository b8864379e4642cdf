/- Texts by which the law's calls are walked (part 9): rules, printed conditions, contracts; no condition. -/
import Derived.TacticsIn
import Derived.TacticsInMore
import Derived.Deep.LoopGhost
import Derived.Sort.QuietThIn
import Derived.RangeFuncCalls
import Derived.RangeFuncNested
import Derived.RangeFuncLeaves
import Derived.WalkKit
import Derived.StillTail
import Derived.Test.YtealcoghiaeiiaaGreatProg
import Derived.KernelRfl
import Derived.Deep.WholeRow
import Derived.Laws.StructEq
import Derived.MapFrom
import Derived.Laws.CopyRow
import Derived.Maps.RangeRun
import Derived.Sort.Walk0
import Derived.RangeFuncBound
import Derived.Test.YtealcoghiaeiiaaGreatPkTxnAloneH
open Go.Proofs.Tryz renaming prog → zA
open Go.IntKind renaming wrap → zB
open Go.Value renaming pointer → zC, int → zU, string → za, bool → QQ
open Go.Instr renaming loadAt → zD, storeAt → zJ, indexAt → zF, fieldAt → zN, alloc → ze, build → QP, buildSlice → zq
open Nat renaming le_refl → zV, le_trans → zj, lt_of_lt_of_le → xh
open List renaming length_append → yO
set_option linter.unusedVariables false
set_option linter.unusedSimpArgs false
namespace Go.Proofs.YtealcoghiaeiiaaGreat.VG
open Go.VB Go.Proofs
def zBH (Ret:Bool->World->Prop) (x36:Bool) (w:World):Prop:=
 Ret x36 w
def ZM (x44:Int) (Kl3:Int->World->Prop) (w:World):Prop:=
 Kl3 (zB .i64 (x44+1)) w
def ZE (Ret:Bool->World->Prop) (x44:Int) (Kl3:Int->World->Prop) (x154:Bool) (w:World):Prop:=
 (x154=true->(Ret false w))/\(x154=false->(ZM x44 Kl3 w))
def Y8 (Ret:Bool->World->Prop) (x44:Int) (Kl3:Int->World->Prop) (x153:Bool) (w:World):Prop:=
 ZE Ret x44 Kl3 x153 w
def ZH (Ret:Bool->World->Prop) (x44:Int) (Kl3:Int->World->Prop) (r_7:Bool) (x150:Bool) (w:World):Prop:=
 (x150=true->(Y8 Ret x44 Kl3 r_7 w))/\(x150=false->(Y8 Ret x44 Kl3 false w))
def ZD (Ret:Bool->World->Prop) (x44:Int) (Kl3:Int->World->Prop) (x10:Option Addr) (x11:Option Addr) (r_7:Bool) (x141:Bool) (w:World):Prop:=
 (x141=true->(ZE Ret x44 Kl3 true w))/\(x141=false->(opE zA zC (zN 49 (.pointer x10) 0) w (λx143 w=>opE zA (zU .u8) (zD 47 (.pointer x143)) w (λx144 w=>((x144=5)->(opE zA zC (zN 51 (.pointer x11) 0) w (λx147 w=>opE zA (zU .i64) (zD 27 (.pointer x147)) w (λx148 w=>ZH Ret x44 Kl3 r_7 (decide (x148=0)) w))))/\(¬ (x144=5)->(ZH Ret x44 Kl3 r_7 false w))))))
def Zt (Ret:Bool->World->Prop) (x44:Int) (Kl3:Int->World->Prop) (x10:Option Addr) (x11:Option Addr) (r_7:Bool) (x140:Bool) (w:World):Prop:=
 ZD Ret x44 Kl3 x10 x11 r_7 x140 w
def ZI (Ret:Bool->World->Prop) (x44:Int) (Kl3:Int->World->Prop) (x10:Option Addr) (x11:Option Addr) (r_6:ByteArray) (r_7:Bool) (x131:Bool) (w:World):Prop:=
 (x131=true->(opE zA zC (zN 49 (.pointer x10) 4) w (λx134 w=>opE zA za (zD 9 (.pointer x134)) w (λx135 w=>((r_6≠x135)->(Zt Ret x44 Kl3 x10 x11 r_7 true w))/\(¬ (r_6≠x135)->(Zt Ret x44 Kl3 x10 x11 r_7 (!r_7) w))))))/\(x131=false->(ZD Ret x44 Kl3 x10 x11 r_7 false w))
def Y9 (Ret:Bool->World->Prop) (x44:Int) (Kl3:Int->World->Prop) (x10:Option Addr) (x11:Option Addr) (r_6:ByteArray) (r_7:Bool) (x123:Bool) (w:World):Prop:=
 (x123=true->(Ret false w))/\(x123=false->(opE zA zC (zN 49 (.pointer x10) 0) w (λx124 w=>opE zA (zU .u8) (zD 47 (.pointer x124)) w (λx125 w=>((x125=4)->(opE zA zC (zN 51 (.pointer x11) 0) w (λx128 w=>opE zA (zU .i64) (zD 27 (.pointer x128)) w (λx129 w=>ZI Ret x44 Kl3 x10 x11 r_6 r_7 (decide (x129=0)) w))))/\(¬ (x125=4)->(ZI Ret x44 Kl3 x10 x11 r_6 r_7 false w))))))
def ZF (Ret:Bool->World->Prop) (x44:Int) (Kl3:Int->World->Prop) (x10:Option Addr) (x11:Option Addr) (r_6:ByteArray) (r_7:Bool) (x122:Bool) (w:World):Prop:=
 Y9 Ret x44 Kl3 x10 x11 r_6 r_7 x122 w
def Zw (Ret:Bool->World->Prop) (x44:Int) (Kl3:Int->World->Prop) (x10:Option Addr) (x11:Option Addr) (r_6:ByteArray) (r_7:Bool) (x121:Bool) (w:World):Prop:=
 ZF Ret x44 Kl3 x10 x11 r_6 r_7 x121 w
def ZG (Ret:Bool->World->Prop) (x44:Int) (Kl3:Int->World->Prop) (x10:Option Addr) (x11:Option Addr) (r_6:ByteArray) (r_7:Bool) (x110:Bool) (w:World):Prop:=
 (x110=true->(opE zA zC (zN 51 (.pointer x11) 2) w (λx113 w=>opE zA za (zD 9 (.pointer x113)) w (λx114 w=>((r_6≠x114)->(Zw Ret x44 Kl3 x10 x11 r_6 r_7 true w))/\(¬ (r_6≠x114)->(opE zA zC (zN 51 (.pointer x11) 3) w (λx118 w=>opE zA QQ (zD 4 (.pointer x118)) w (λx119 w=>opE zA QQ (do eqGuard .neq 4 (.tmp 117) (.tmp 119) (.bool r_7) (.bool x119);binOp .neq 4 (.bool r_7) (.bool x119)) w (λx120 w=>Zw Ret x44 Kl3 x10 x11 r_6 r_7 x120 w)))))))))/\(x110=false->(ZF Ret x44 Kl3 x10 x11 r_6 r_7 false w))
def zAF (Ret:Bool->World->Prop) (x44:Int) (Kl3:Int->World->Prop) (x10:Option Addr) (x11:Option Addr) (r_6:ByteArray) (r_7:Bool) (x101:Bool) (w:World):Prop:=
 (x101=true->(Y9 Ret x44 Kl3 x10 x11 r_6 r_7 true w))/\(x101=false->(opE zA zC (zN 49 (.pointer x10) 0) w (λx103 w=>opE zA (zU .u8) (zD 47 (.pointer x103)) w (λx104 w=>((x104=2)->(opE zA zC (zN 51 (.pointer x11) 0) w (λx107 w=>opE zA (zU .i64) (zD 27 (.pointer x107)) w (λx108 w=>ZG Ret x44 Kl3 x10 x11 r_6 r_7 (decide (x108=0)) w))))/\(¬ (x104=2)->(ZG Ret x44 Kl3 x10 x11 r_6 r_7 false w))))))
def zAE (Ret:Bool->World->Prop) (x44:Int) (Kl3:Int->World->Prop) (x10:Option Addr) (x11:Option Addr) (r_6:ByteArray) (r_7:Bool) (r_10:Bool) (x96:Bool) (w:World):Prop:=
 (x96=true->(zAF Ret x44 Kl3 x10 x11 r_6 r_7 true w))/\(x96=false->(opE zA QQ (do eqGuard .neq 4 (.tmp 98) (.tmp 99) (.bool r_7) (.bool r_10);binOp .neq 4 (.bool r_7) (.bool r_10)) w (λx100 w=>zAF Ret x44 Kl3 x10 x11 r_6 r_7 x100 w)))
def ZL (Ret:Bool->World->Prop) (r_1:Option Addr) (r_3:Int) (x44:Int) (Kl3:Int->World->Prop) (x10:Option Addr) (x67:Bool) (w:World):Prop:=
 (x67=true->(ZM x44 Kl3 w))/\(x67=false->(opE zA yH.v (zD 49 (.pointer x10)) w (λx69 w=>Cl zA 19 [(.pointer r_1),(yH.v x69)].toArray w (λe w=>∃ (r_5:yA),e=.returned (yA.v r_5)/\(opE zA zC (ze 51 true (.tuple #[])) w (λx11 w=>opU zA (zJ 51 (.pointer x11) (yA.v r_5)) w (λw=>opE zA zC (zN 49 (.pointer x10) 2) w (λx74 w=>opE zA za (zD 9 (.pointer x74)) w (λx75 w=>Cl zA 22 [(.pointer r_1),(.int .i64 r_3),(.string x75)].toArray w (λe w=>∃ (r_6:ByteArray) (r_7:Bool) (r_8:Int),e=.returned (.tuple [(.string r_6),(.bool r_7),(.int .i64 r_8)].toArray)/\(opE zA zC (zN 49 (.pointer x10) 2) w (λx83 w=>opE zA za (zD 9 (.pointer x83)) w (λx84 w=>Cl zA 22 [(.pointer r_1),(.int .i64 r_3),(.string x84)].toArray w (λe w=>∃ (r_9:ByteArray) (r_10:Bool) (r_11:Int),e=.returned (.tuple [(.string r_9),(.bool r_10),(.int .i64 r_11)].toArray)/\(((r_8≠r_11)->(zAE Ret x44 Kl3 x10 x11 r_6 r_7 r_10 true w))/\(¬ (r_8≠r_11)->(zAE Ret x44 Kl3 x10 x11 r_6 r_7 r_10 (decide (r_6≠r_9)) w)))))))))))))))))
def ZN (Ret:Bool->World->Prop) (r_1:Option Addr) (r_3:Int) (x44:Int) (Kl3:Int->World->Prop) (x10:Option Addr) (x63:Bool) (w:World):Prop:=
 (x63=true->(ZL Ret r_1 r_3 x44 Kl3 x10 true w))/\(x63=false->(ZL Ret r_1 r_3 x44 Kl3 x10 (decide (60<x44)) w))
def ZK (Ret:Bool->World->Prop) (r_1:Option Addr) (r_3:Int) (x44:Int) (Kl3:Int->World->Prop) (x10:Option Addr) (x58:Bool) (w:World):Prop:=
 (x58=true->(opE zA zC (zN 49 (.pointer x10) 0) w (λx60 w=>opE zA (zU .u8) (zD 47 (.pointer x60)) w (λx61 w=>ZN Ret r_1 r_3 x44 Kl3 x10 (decide (x61≠5)) w))))/\(x58=false->(ZN Ret r_1 r_3 x44 Kl3 x10 false w))
def zA0 (Ret:Bool->World->Prop) (x173:Bool) (w:World):Prop:=
 Ret x173 w
def zA5 (Ret:Bool->World->Prop) (x172:Bool) (w:World):Prop:=
 zA0 Ret x172 w
def zAx (x0:Sl) (x1:Sl) (Ret:Bool->World->Prop) (r_1:Option Addr) (r_3:Int) (x44:Int) (w:World) (Kl3:Int->World->Prop):Prop:=
 ((x44<(x1.len:Int))->(opE zA zC (zF 45 (Sl.v x1) (.int .i64 x44)) w (λx47 w=>opE zA yH.v (zD 49 (.pointer x47)) w (λx48 w=>opE zA zC (ze 49 true (.tuple #[])) w (λx10 w=>opU zA (zJ 49 (.pointer x10) (yH.v x48)) w (λw=>opE zA zC (zN 49 (.pointer x10) 1) w (λx50 w=>opU zA (zJ 3 (.pointer x50) (.int .i64 r_3)) w (λw=>opE zA zC (zN 49 (.pointer x10) 0) w (λx51 w=>opE zA (zU .u8) (zD 47 (.pointer x51)) w (λx52 w=>((x52≠2)->(opE zA zC (zN 49 (.pointer x10) 0) w (λx55 w=>opE zA (zU .u8) (zD 47 (.pointer x55)) w (λx56 w=>ZK Ret r_1 r_3 x44 Kl3 x10 (decide (x56≠4)) w))))/\(¬ (x52≠2)->(ZK Ret r_1 r_3 x44 Kl3 x10 false w))))))))))))/\(¬ (x44<(x1.len:Int))->(Cl zA 15 [(.pointer r_1),(.int .i64 r_3)].toArray w (λe w=>∃ (r_12:Sl) (r_13:Int) (r_14:Int),e=.returned (.tuple [(Sl.v r_12),(.int .u64 r_13),(.int .i64 r_14)].toArray)/\(((r_14=0)->(zA0 Ret true w))/\(¬ (r_14=0)->(((r_14=3)->(zA5 Ret (decide (3840<(x0.len:Int))) w))/\(¬ (r_14=3)->(zA5 Ret false w))))))))
def Yo (x0:Sl) (x1:Sl) (Ret:Bool->World->Prop) (r_1:Option Addr) (r_2:Int) (x30:Bool) (w:World):Prop:=
 (x30=true->(((r_2≠0)->(opE zA QQ (do eqGuard .eql 26 (.tmp 34) (.const (.pointer none)) (.pointer r_1) (.pointer none);binOp .eql 26 (.pointer r_1) (.pointer none)) w (λx35 w=>zBH Ret x35 w)))/\(¬ (r_2≠0)->(zBH Ret false w))))/\(x30=false->(Cl zA 12 [(.pointer r_1)].toArray w (λe w=>∃ (r_3:Int) (r_4:Int),e=.returned (.tuple [(.int .i64 r_3),(.int .i64 r_4)].toArray)/\(∃ (I:Int->World->Prop) (μ:Int->World->Nat),I 0 w/\∀ (x44:Int) w,I x44 w->zAx x0 x1 Ret r_1 r_3 x44 w (λx44' w'=>I x44' w'/\μ x44' w'<μ x44 w)))))
def zCp (x0:Sl) (x1:Sl) (w:World) (Ret:Bool->World->Prop):Prop:=
 Cl zA 10 [].toArray w (λe w=>∃ (r:Bool),e=.returned (.bool r)/\(((!r)=true->(Ret false w))/\((!r)=false->(Cl zA 11 [(Sl.v x0)].toArray w (λe w=>∃ (r_1:Option Addr) (r_2:Int),e=.returned (.tuple [(.pointer r_1),(.int .i64 r_2)].toArray)/\(((r_2≠0)->(Yo x0 x1 Ret r_1 r_2 true w))/\(¬ (r_2≠0)->(opE zA QQ (do eqGuard .eql 26 (.tmp 28) (.const (.pointer none)) (.pointer r_1) (.pointer none);binOp .eql 26 (.pointer r_1) (.pointer none)) w (λx29 w=>Yo x0 x1 Ret r_1 r_2 x29 w)))))))))
set_option maxRecDepth 100000 in
theorem zGu (x0:Sl) (x1:Sl) (w:World) (Ret:Bool->World->Prop) (H:zCp x0 x1 w Ret):Cl zA 5 [(Sl.v x0),(Sl.v x1)].toArray w (λe w'=>∃ (r0:Bool),e=.returned (.bool r0)/\Ret r0 w'):=by
 unfold zCp at H
 refine zk 174 (zipE 0 [(Sl.v x0),(Sl.v x1)]) Tryz.func5 rfl rfl (by rfl) rfl ?_
 intro a g
 replace g:Sat [] 174 [(0,(Sl.v x0)),(1,(Sl.v x1))] a:=g
 refine zK (zE (g.as_ rfl λ_ g=>zL (tn (zK (zK (zE (g.call (zZ g zQ7 rfl rfl) H λe w H=>?_)))))))
 obtain ⟨r,rfl,H⟩:=H
 refine ⟨_,rfl,λ_ g=>(g.pur (zAO g rfl) λ_ g=>zL (tn (zd g rfl (λhc=>?_) (λhc=>?_))))⟩
 ·replace H:=H.1 hc
  exact zK (zE (g.as_ rfl λ_ g=>zL (tn (zg (tr (zw g rfl rfl ⟨_,rfl,H⟩))))))
 ·replace H:=H.2 hc
  refine zX (tn (zK (zE (g.mv rfl λ_ g=>g.call (zZ g zPd rfl rfl) H λe w H=>?_))))
  obtain ⟨r_1,r_2,rfl,H⟩:=H
  refine ⟨_,rfl,λ_ g=>(g.mv rfl λ_ g=>g.pur (zY g rfl rfl) λ_ g=>g.pur (zY g rfl rfl) λ_ g=>g.as_ rfl λ_ g=>g.as_ rfl λ_ g=>zL (tn (zK (zK (zE (g.mv rfl λ_ g=>g.pur (zE5 g rfl rfl) λ_ g=>g.mv rfl λ_ g=>WL.join (ds:=[]) (N:=174) (σ:=Bool) (λs=>[(30,(.bool s)),(0,(Sl.v x0)),(1,(Sl.v x1)),(5,(.pointer r_1)),(6,(.int .i64 r_2))]) (λs w=>Yo x0 x1 Ret r_1 r_2 s w) 3 ?_ (λhr1=>?_)))))))⟩
  ·intro x30 w a H g
   try dsimp only at H g
   unfold Yo at H
   refine zL (tn (zd g rfl (λhc=>?_) (λhc=>?_)))
   ·replace H:=H.1 hc
    refine zK (zE (g.mv rfl λ_ g=>g.pur (zE5 g rfl rfl) λ_ g=>g.mv rfl λ_ g=>WL.join (ds:=[]) (N:=174) (σ:=Bool) (λs=>[(36,(.bool s))]) (λs w=>zBH Ret s w) 3 ?_ (λhr2=>?_)))
    ·intro x36 w a H g
     try dsimp only at H g
     unfold zBH at H
     exact g.as_ rfl λ_ g=>zL (tn (zg (tr (zw g rfl rfl ⟨_,rfl,H⟩))))
    ·rcases Classical.em ((r_2≠0)) with hbr2|hbr2
     ·replace H:=H.1 hbr2
      replace g:=g.bool (b:=true) (t:=33) rfl (decide_eq_true hbr2)
      exact g.on (by rfl) (by rfl) (g.mv rfl λ_ g=>g.on (by rfl) (by rfl) (g.op (zCV g rfl rfl) H λx35 w a H g=>g.pur (zl g rfl rfl) λ_ g=>hr2 x35 _ _ H (g.wk)))
     ·replace H:=H.2 hbr2
      replace g:=g.bool (b:=false) (t:=33) rfl (decide_eq_false hbr2)
      exact g.off (by rfl) (by rfl) (by decide) (λ_ g=>g.off (by rfl) (by rfl) (by decide) (λ_ g=>g.pur (zm g rfl rfl) λ_ g=>hr2 false _ _ H (g.wk)))
   ·replace H:=H.2 hc
    refine zX (tn (zK (zE (g.mv rfl λ_ g=>g.call (zZ g zMv rfl rfl) H λe w H=>?_))))
    obtain ⟨r_3,r_4,rfl,H⟩:=H
    refine ⟨_,rfl,λ_ g=>(g.mv rfl λ_ g=>g.pur (zY g rfl rfl) λ_ g=>g.pur (zY g rfl rfl) λ_ g=>g.as_ rfl λ_ g=>g.as_ rfl λ_ g=>zL (tn (zK (zK (zE (g.mv rfl λ_ g=>g.purR (λw=>zAm g Tryz.underlying45 rfl) λ_ g=>g.mv rfl λ_ g=>zL (tn (zW ?_))))))))⟩
    obtain ⟨I_l3,μ_l3,h0,hb⟩:=H
    refine yF (ds:=[]) (N:=174) (σ:=Int) (λs=>[(44,(.int .i64 s)),(0,(Sl.v x0)),(5,(.pointer r_1)),(7,(.int .i64 r_3)),(42,(Sl.v x1)),(43,(.int .i64 (x1.len:Int)))]) (λs w=>I_l3 s w) (λs w=>μ_l3 s w) 0 h0 (g.wk) ?_
    intro x44 w a hI g
    try dsimp only at hI g
    obtain ⟨Kl3,hK_l3⟩:∃ K:Int->World->Prop,K=(λx44' w'=>I_l3 x44' w'/\μ_l3 x44' w'<μ_l3 x44 w):=⟨_,rfl⟩
    have H:zAx x0 x1 Ret r_1 r_3 x44 w Kl3:=by rw [hK_l3];exact hb x44 w hI
    clear hb h0 hI
    unfold zAx at H
    refine zK (zE (g.pur (yj g rfl rfl) λ_ g=>zL (tn (zK (zb g rfl (λhc=>?_) (λhc=>?_))))))
    ·replace H:=H.1 hc
     refine zX (tn (z6 (ds:=[]) (N:=174) (σ:=Unit) (λs=>[(0,(Sl.v x0)),(5,(.pointer r_1)),(7,(.int .i64 r_3)),(42,(Sl.v x1)),(43,(.int .i64 (x1.len:Int))),(44,(.int .i64 x44))]) (λs w=>ZM x44 Kl3 w) ?_ (λhj4=>?_)))
     ·rintro ⟨⟩ w a H g
      try dsimp only at H g
      unfold ZM at H
      refine zE (g.pur (zn g rfl rfl) λ_ g=>g.mv rfl λ_ g=>?_)
      rw [hK_l3] at H
      exact zL (tn ⟨(zB .i64 (x44+1)),g.wk,H⟩)
     ·refine zW (zK (zE (g.mv rfl λ_ g=>g.op (zH g rfl rfl) H λx47 w a H g=>g.op (zO g rfl) H λx48 w a H g=>g.op (YA) H λx10 w a H g=>g.as_ rfl λ_ g=>g.opu (zT g rfl rfl) H λw a H g=>zL (tn (zK (zE (g.mv rfl λ_ g=>g.op (zQ g rfl) H λx50 w a H g=>g.opu (zT g rfl rfl) H λw a H g=>zL (tn (zK (zK (zE (g.op (zQ g rfl) H λx51 w a H g=>g.op (zO g rfl) H λx52 w a H g=>g.pur (zE5 g rfl rfl) λ_ g=>g.mv rfl λ_ g=>WL.join (ds:=[]) (N:=174) (σ:=Bool) (λs=>[(58,(.bool s)),(0,(Sl.v x0)),(5,(.pointer r_1)),(7,(.int .i64 r_3)),(9,(.int .i64 x44)),(10,(.pointer x10)),(42,(Sl.v x1)),(43,(.int .i64 (x1.len:Int))),(44,(.int .i64 x44))]) (λs w=>ZK Ret r_1 r_3 x44 Kl3 x10 s w) 4 ?_ (λhr5=>?_)))))))))))))
      ·intro x58 w a H g
       try dsimp only at H g
       unfold ZK at H
       refine g.mv rfl λ_ g=>WL.join (ds:=[]) (N:=174) (σ:=Bool) (λs=>[(63,(.bool s)),(0,(Sl.v x0)),(5,(.pointer r_1)),(7,(.int .i64 r_3)),(9,(.int .i64 x44)),(10,(.pointer x10)),(42,(Sl.v x1)),(43,(.int .i64 (x1.len:Int))),(44,(.int .i64 x44))]) (λs w=>ZN Ret r_1 r_3 x44 Kl3 x10 s w) 4 ?_ (λhr6=>?_)
       ·intro x63 w a H g
        try dsimp only at H g
        unfold ZN at H
        refine g.mv rfl λ_ g=>WL.join (ds:=[]) (N:=174) (σ:=Bool) (λs=>[(67,(.bool s)),(0,(Sl.v x0)),(5,(.pointer r_1)),(7,(.int .i64 r_3)),(10,(.pointer x10)),(42,(Sl.v x1)),(43,(.int .i64 (x1.len:Int))),(44,(.int .i64 x44))]) (λs w=>ZL Ret r_1 r_3 x44 Kl3 x10 s w) 3 ?_ (λhr7=>?_)
        ·intro x67 w a H g
         try dsimp only at H g
         unfold ZL at H
         refine zL (tn (zd g rfl (λhc=>?_) (λhc=>?_)))
         ·replace H:=H.1 hc
          exact z8 (te (be (tn (hj4 () _ _ H (g.wk)))))
         ·replace H:=H.2 hc
          refine zX (tn (zK (zE (g.mv rfl λ_ g=>g.op (zO g rfl) H λx69 w a H g=>g.call (zZ g zQh rfl rfl) H λe w H=>?_))))
          obtain ⟨r_5,rfl,H⟩:=H
          refine ⟨_,rfl,λ_ g=>(g.op (YA) H λx11 w a H g=>g.opu (zT g rfl rfl) H λw a H g=>zL (tn (zK (zE (g.mv rfl λ_ g=>g.mv rfl λ_ g=>g.op (zQ g rfl) H λx74 w a H g=>g.op (zO g rfl) H λx75 w a H g=>g.call (zZ g zLU rfl rfl) H λe w H=>?_)))))⟩
          obtain ⟨r_6,r_7,r_8,rfl,H⟩:=H
          refine ⟨_,rfl,λ_ g=>(g.mv rfl λ_ g=>g.pur (zY g rfl rfl) λ_ g=>g.pur (zY g rfl rfl) λ_ g=>g.pur (zY g rfl rfl) λ_ g=>g.as_ rfl λ_ g=>g.as_ rfl λ_ g=>g.as_ rfl λ_ g=>zL (tn (zK (zE (g.mv rfl λ_ g=>g.mv rfl λ_ g=>g.op (zQ g rfl) H λx83 w a H g=>g.op (zO g rfl) H λx84 w a H g=>g.call (zZ g zLU rfl rfl) H λe w H=>?_)))))⟩
          obtain ⟨r_9,r_10,r_11,rfl,H⟩:=H
          refine ⟨_,rfl,λ_ g=>(g.mv rfl λ_ g=>g.pur (zY g rfl rfl) λ_ g=>g.pur (zY g rfl rfl) λ_ g=>g.pur (zY g rfl rfl) λ_ g=>g.as_ rfl λ_ g=>g.as_ rfl λ_ g=>g.as_ rfl λ_ g=>zL (tn (zK (zK (zE (g.mv rfl λ_ g=>g.mv rfl λ_ g=>g.pur (zE5 g rfl rfl) λ_ g=>g.mv rfl λ_ g=>WL.join (ds:=[]) (N:=174) (σ:=Bool) (λs=>[(96,(.bool s)),(0,(Sl.v x0)),(5,(.pointer r_1)),(7,(.int .i64 r_3)),(10,(.pointer x10)),(11,(.pointer x11)),(12,(.string r_6)),(13,(.bool r_7)),(16,(.bool r_10)),(42,(Sl.v x1)),(43,(.int .i64 (x1.len:Int))),(44,(.int .i64 x44))]) (λs w=>zAE Ret x44 Kl3 x10 x11 r_6 r_7 r_10 s w) 4 ?_ (λhr8=>?_)))))))⟩
          ·intro x96 w a H g
           try dsimp only at H g
           unfold zAE at H
           refine g.mv rfl λ_ g=>WL.join (ds:=[]) (N:=174) (σ:=Bool) (λs=>[(101,(.bool s)),(0,(Sl.v x0)),(5,(.pointer r_1)),(7,(.int .i64 r_3)),(10,(.pointer x10)),(11,(.pointer x11)),(12,(.string r_6)),(13,(.bool r_7)),(42,(Sl.v x1)),(43,(.int .i64 (x1.len:Int))),(44,(.int .i64 x44))]) (λs w=>zAF Ret x44 Kl3 x10 x11 r_6 r_7 s w) 4 ?_ (λhr9=>?_)
           ·intro x101 w a H g
            try dsimp only at H g
            unfold zAF at H
            refine g.mv rfl λ_ g=>WL.join (ds:=[]) (N:=174) (σ:=Bool) (λs=>[(123,(.bool s)),(0,(Sl.v x0)),(5,(.pointer r_1)),(7,(.int .i64 r_3)),(10,(.pointer x10)),(11,(.pointer x11)),(12,(.string r_6)),(13,(.bool r_7)),(42,(Sl.v x1)),(43,(.int .i64 (x1.len:Int))),(44,(.int .i64 x44))]) (λs w=>Y9 Ret x44 Kl3 x10 x11 r_6 r_7 s w) 21 ?_ (λhr10=>?_)
            ·intro x123 w a H g
             try dsimp only at H g
             unfold Y9 at H
             refine zL (tn (zd g rfl (λhc=>?_) (λhc=>?_)))
             ·replace H:=H.1 hc
              exact zK (zE (g.as_ rfl λ_ g=>zL (tn (zg (tr (br (tr (tr (br (tr (zw g rfl rfl ⟨_,rfl,H⟩)))))))))))
             ·replace H:=H.2 hc
              refine zX (tn (zK (zE (g.op (zQ g rfl) H λx124 w a H g=>g.op (zO g rfl) H λx125 w a H g=>g.pur (ZZ g rfl rfl) λ_ g=>g.mv rfl λ_ g=>WL.join (ds:=[]) (N:=174) (σ:=Bool) (λs=>[(131,(.bool s)),(0,(Sl.v x0)),(5,(.pointer r_1)),(7,(.int .i64 r_3)),(10,(.pointer x10)),(11,(.pointer x11)),(12,(.string r_6)),(13,(.bool r_7)),(42,(Sl.v x1)),(43,(.int .i64 (x1.len:Int))),(44,(.int .i64 x44))]) (λs w=>ZI Ret x44 Kl3 x10 x11 r_6 r_7 s w) 4 ?_ (λhr11=>?_)))))
              ·intro x131 w a H g
               try dsimp only at H g
               unfold ZI at H
               refine g.mv rfl λ_ g=>WL.join (ds:=[]) (N:=174) (σ:=Bool) (λs=>[(141,(.bool s)),(0,(Sl.v x0)),(5,(.pointer r_1)),(7,(.int .i64 r_3)),(10,(.pointer x10)),(11,(.pointer x11)),(13,(.bool r_7)),(42,(Sl.v x1)),(43,(.int .i64 (x1.len:Int))),(44,(.int .i64 x44))]) (λs w=>ZD Ret x44 Kl3 x10 x11 r_7 s w) 9 ?_ (λhr12=>?_)
               ·intro x141 w a H g
                try dsimp only at H g
                unfold ZD at H
                refine g.mv rfl λ_ g=>WL.join (ds:=[]) (N:=174) (σ:=Bool) (λs=>[(154,(.bool s)),(0,(Sl.v x0)),(5,(.pointer r_1)),(7,(.int .i64 r_3)),(42,(Sl.v x1)),(43,(.int .i64 (x1.len:Int))),(44,(.int .i64 x44))]) (λs w=>ZE Ret x44 Kl3 s w) 12 ?_ (λhr13=>?_)
                ·intro x154 w a H g
                 try dsimp only at H g
                 unfold ZE at H
                 refine zL (tn (zd g rfl (λhc=>?_) (λhc=>?_)))
                 ·replace H:=H.1 hc
                  exact zK (zE (g.as_ rfl λ_ g=>zL (tn (zg (br (tr (tr (br (tr (zw g rfl rfl ⟨_,rfl,H⟩))))))))))
                 ·replace H:=H.2 hc
                  exact zX (bn (tn (hj4 () _ _ H (g.wk))))
                ·rcases Bool.eq_false_or_eq_true (x141) with hbr13|hbr13
                 ·replace H:=H.1 hbr13
                  replace g:=g.bool (b:=true) (t:=142) rfl (hbr13)
                  exact g.off (by rfl) (by rfl) (by decide) (λ_ g=>g.off (by rfl) (by rfl) (by decide) (λ_ g=>g.off (by rfl) (by rfl) (by decide) (λ_ g=>g.off (by rfl) (by rfl) (by decide) (λ_ g=>g.offU (by rfl) (by rfl) (λ_ g=>g.offU (by rfl) (by rfl) (λ_ g=>g.offU (by rfl) (by rfl) (λ_ g=>g.off (by rfl) (by rfl) (by decide) (λ_ g=>g.off (by rfl) (by rfl) (by decide) (λ_ g=>g.offU (by rfl) (by rfl) (λ_ g=>g.off (by rfl) (by rfl) (by decide) (λ_ g=>g.pur (zl g rfl rfl) λ_ g=>hr13 true _ _ H (g.wk))))))))))))
                 ·replace H:=H.2 hbr13
                  replace g:=g.bool (b:=false) (t:=142) rfl (hbr13)
                  refine g.on (by rfl) (by rfl) (g.op (zQ g rfl) H λx143 w a H g=>g.on (by rfl) (by rfl) (g.op (zO g rfl) H λx144 w a H g=>g.on (by rfl) (by rfl) (g.pur (ZZ g rfl rfl) λ_ g=>g.on (by rfl) (by rfl) (g.mv rfl λ_ g=>WL.join (ds:=[]) (N:=174) (σ:=Bool) (λs=>[(150,(.bool s)),(0,(Sl.v x0)),(5,(.pointer r_1)),(7,(.int .i64 r_3)),(13,(.bool r_7)),(42,(Sl.v x1)),(43,(.int .i64 (x1.len:Int))),(44,(.int .i64 x44)),(142,(.bool false))]) (λs w=>ZH Ret x44 Kl3 r_7 s w) 4 ?_ (λhr14=>?_)))))
                  ·intro x150 w a H g
                   try dsimp only at H g
                   unfold ZH at H
                   refine g.on (by rfl) (by rfl) (g.mv rfl λ_ g=>WL.join (ds:=[]) (N:=174) (σ:=Bool) (λs=>[(153,(.bool s)),(0,(Sl.v x0)),(5,(.pointer r_1)),(7,(.int .i64 r_3)),(42,(Sl.v x1)),(43,(.int .i64 (x1.len:Int))),(44,(.int .i64 x44)),(142,(.bool false))]) (λs w=>Y8 Ret x44 Kl3 s w) 2 ?_ (λhr15=>?_))
                   ·intro x153 w a H g
                    try dsimp only at H g
                    unfold Y8 at H
                    exact g.pur (zm g rfl rfl) λ_ g=>hr13 x153 _ _ H (g.wk)
                   ·rcases Bool.eq_false_or_eq_true (x150) with hbr15|hbr15
                    ·replace H:=H.1 hbr15
                     replace g:=g.bool (b:=true) (t:=151) rfl (hbr15)
                     exact g.on (by rfl) (by rfl) (g.mv rfl λ_ g=>g.on (by rfl) (by rfl) (g.pur (zl g rfl rfl) λ_ g=>hr15 r_7 _ _ H (g.wk)))
                    ·replace H:=H.2 hbr15
                     replace g:=g.bool (b:=false) (t:=151) rfl (hbr15)
                     exact g.off (by rfl) (by rfl) (by decide) (λ_ g=>g.on (by rfl) (by rfl) (g.pur (zm g rfl rfl) λ_ g=>hr15 false _ _ H (g.wk)))
                  ·rcases Classical.em ((x144=5)) with hbr14|hbr14
                   ·replace H:=H.1 hbr14
                    replace g:=g.bool (b:=true) (t:=146) rfl (decide_eq_true hbr14)
                    exact g.on (by rfl) (by rfl) (g.op (zQ g rfl) H λx147 w a H g=>g.on (by rfl) (by rfl) (g.op (zO g rfl) H λx148 w a H g=>g.on (by rfl) (by rfl) (g.pur (ZZ g rfl rfl) λ_ g=>g.on (by rfl) (by rfl) (g.pur (zl g rfl rfl) λ_ g=>hr14 (decide (x148=0)) _ _ H (g.wk)))))
                   ·replace H:=H.2 hbr14
                    replace g:=g.bool (b:=false) (t:=146) rfl (decide_eq_false hbr14)
                    exact g.off (by rfl) (by rfl) (by decide) (λ_ g=>g.off (by rfl) (by rfl) (by decide) (λ_ g=>g.off (by rfl) (by rfl) (by decide) (λ_ g=>g.on (by rfl) (by rfl) (g.pur (zm g rfl rfl) λ_ g=>hr14 false _ _ H (g.wk)))))
               ·rcases Bool.eq_false_or_eq_true (x131) with hbr12|hbr12
                ·replace H:=H.1 hbr12
                 replace g:=g.bool (b:=true) (t:=132) rfl (hbr12)
                 refine g.on (by rfl) (by rfl) (g.mv rfl λ_ g=>g.on (by rfl) (by rfl) (g.op (zQ g rfl) H λx134 w a H g=>g.on (by rfl) (by rfl) (g.op (zO g rfl) H λx135 w a H g=>g.on (by rfl) (by rfl) (g.pur (zKh g rfl rfl) λ_ g=>g.on (by rfl) (by rfl) (g.mv rfl λ_ g=>WL.join (ds:=[]) (N:=174) (σ:=Bool) (λs=>[(140,(.bool s)),(0,(Sl.v x0)),(5,(.pointer r_1)),(7,(.int .i64 r_3)),(10,(.pointer x10)),(11,(.pointer x11)),(13,(.bool r_7)),(42,(Sl.v x1)),(43,(.int .i64 (x1.len:Int))),(44,(.int .i64 x44)),(132,(.bool true))]) (λs w=>Zt Ret x44 Kl3 x10 x11 r_7 s w) 3 ?_ (λhr16=>?_))))))
                 ·intro x140 w a H g
                  try dsimp only at H g
                  unfold Zt at H
                  exact g.pur (zl g rfl rfl) λ_ g=>hr12 x140 _ _ H (g.wk)
                 ·rcases Classical.em ((r_6≠x135)) with hbr16|hbr16
                  ·replace H:=H.1 hbr16
                   replace g:=g.bool (b:=true) (t:=137) rfl (decide_eq_true hbr16)
                   exact g.off (by rfl) (by rfl) (by decide) (λ_ g=>g.off (by rfl) (by rfl) (by decide) (λ_ g=>g.on (by rfl) (by rfl) (g.pur (zl g rfl rfl) λ_ g=>hr16 true _ _ H (g.wk))))
                  ·replace H:=H.2 hbr16
                   replace g:=g.bool (b:=false) (t:=137) rfl (decide_eq_false hbr16)
                   exact g.on (by rfl) (by rfl) (g.mv rfl λ_ g=>g.on (by rfl) (by rfl) (g.pur (zAO g rfl) λ_ g=>g.on (by rfl) (by rfl) (g.pur (zm g rfl rfl) λ_ g=>hr16 (!r_7) _ _ H (g.wk))))
                ·replace H:=H.2 hbr12
                 replace g:=g.bool (b:=false) (t:=132) rfl (hbr12)
                 exact g.off (by rfl) (by rfl) (by decide) (λ_ g=>g.off (by rfl) (by rfl) (by decide) (λ_ g=>g.off (by rfl) (by rfl) (by decide) (λ_ g=>g.off (by rfl) (by rfl) (by decide) (λ_ g=>g.off (by rfl) (by rfl) (by decide) (λ_ g=>g.offU (by rfl) (by rfl) (λ_ g=>g.offU (by rfl) (by rfl) (λ_ g=>g.off (by rfl) (by rfl) (by decide) (λ_ g=>g.pur (zm g rfl rfl) λ_ g=>hr12 false _ _ H (g.wk)))))))))
              ·rcases Classical.em ((x125=4)) with hbr11|hbr11
               ·replace H:=H.1 hbr11
                replace g:=g.bool (b:=true) (t:=127) rfl (decide_eq_true hbr11)
                exact g.on (by rfl) (by rfl) (g.op (zQ g rfl) H λx128 w a H g=>g.on (by rfl) (by rfl) (g.op (zO g rfl) H λx129 w a H g=>g.on (by rfl) (by rfl) (g.pur (ZZ g rfl rfl) λ_ g=>g.pur (zl g rfl rfl) λ_ g=>hr11 (decide (x129=0)) _ _ H (g.wk))))
               ·replace H:=H.2 hbr11
                replace g:=g.bool (b:=false) (t:=127) rfl (decide_eq_false hbr11)
                exact g.off (by rfl) (by rfl) (by decide) (λ_ g=>g.off (by rfl) (by rfl) (by decide) (λ_ g=>g.off (by rfl) (by rfl) (by decide) (λ_ g=>g.pur (zm g rfl rfl) λ_ g=>hr11 false _ _ H (g.wk))))
            ·rcases Bool.eq_false_or_eq_true (x101) with hbr10|hbr10
             ·replace H:=H.1 hbr10
              replace g:=g.bool (b:=true) (t:=102) rfl (hbr10)
              exact g.off (by rfl) (by rfl) (by decide) (λ_ g=>g.off (by rfl) (by rfl) (by decide) (λ_ g=>g.off (by rfl) (by rfl) (by decide) (λ_ g=>g.off (by rfl) (by rfl) (by decide) (λ_ g=>g.offU (by rfl) (by rfl) (λ_ g=>g.offU (by rfl) (by rfl) (λ_ g=>g.offU (by rfl) (by rfl) (λ_ g=>g.off (by rfl) (by rfl) (by decide) (λ_ g=>g.off (by rfl) (by rfl) (by decide) (λ_ g=>g.offU (by rfl) (by rfl) (λ_ g=>g.offU (by rfl) (by rfl) (λ_ g=>g.offU (by rfl) (by rfl) (λ_ g=>g.offU (by rfl) (by rfl) (λ_ g=>g.offU (by rfl) (by rfl) (λ_ g=>g.offU (by rfl) (by rfl) (λ_ g=>g.offU (by rfl) (by rfl) (λ_ g=>g.offU (by rfl) (by rfl) (λ_ g=>g.offU (by rfl) (by rfl) (λ_ g=>g.offU (by rfl) (by rfl) (λ_ g=>g.off (by rfl) (by rfl) (by decide) (λ_ g=>g.pur (zl g rfl rfl) λ_ g=>hr10 true _ _ H (g.wk)))))))))))))))))))))
             ·replace H:=H.2 hbr10
              replace g:=g.bool (b:=false) (t:=102) rfl (hbr10)
              refine g.on (by rfl) (by rfl) (g.op (zQ g rfl) H λx103 w a H g=>g.on (by rfl) (by rfl) (g.op (zO g rfl) H λx104 w a H g=>g.on (by rfl) (by rfl) (g.pur (ZZ g rfl rfl) λ_ g=>g.on (by rfl) (by rfl) (g.mv rfl λ_ g=>WL.join (ds:=[]) (N:=174) (σ:=Bool) (λs=>[(110,(.bool s)),(0,(Sl.v x0)),(5,(.pointer r_1)),(7,(.int .i64 r_3)),(10,(.pointer x10)),(11,(.pointer x11)),(12,(.string r_6)),(13,(.bool r_7)),(42,(Sl.v x1)),(43,(.int .i64 (x1.len:Int))),(44,(.int .i64 x44)),(102,(.bool false))]) (λs w=>ZG Ret x44 Kl3 x10 x11 r_6 r_7 s w) 4 ?_ (λhr17=>?_)))))
              ·intro x110 w a H g
               try dsimp only at H g
               unfold ZG at H
               refine g.on (by rfl) (by rfl) (g.mv rfl λ_ g=>WL.join (ds:=[]) (N:=174) (σ:=Bool) (λs=>[(122,(.bool s)),(0,(Sl.v x0)),(5,(.pointer r_1)),(7,(.int .i64 r_3)),(10,(.pointer x10)),(11,(.pointer x11)),(12,(.string r_6)),(13,(.bool r_7)),(42,(Sl.v x1)),(43,(.int .i64 (x1.len:Int))),(44,(.int .i64 x44)),(102,(.bool false))]) (λs w=>ZF Ret x44 Kl3 x10 x11 r_6 r_7 s w) 11 ?_ (λhr18=>?_))
               ·intro x122 w a H g
                try dsimp only at H g
                unfold ZF at H
                exact g.pur (zm g rfl rfl) λ_ g=>hr10 x122 _ _ H (g.wk)
               ·rcases Bool.eq_false_or_eq_true (x110) with hbr18|hbr18
                ·replace H:=H.1 hbr18
                 replace g:=g.bool (b:=true) (t:=111) rfl (hbr18)
                 refine g.on (by rfl) (by rfl) (g.mv rfl λ_ g=>g.on (by rfl) (by rfl) (g.op (zQ g rfl) H λx113 w a H g=>g.on (by rfl) (by rfl) (g.op (zO g rfl) H λx114 w a H g=>g.on (by rfl) (by rfl) (g.pur (zKh g rfl rfl) λ_ g=>g.on (by rfl) (by rfl) (g.mv rfl λ_ g=>WL.join (ds:=[]) (N:=174) (σ:=Bool) (λs=>[(121,(.bool s)),(0,(Sl.v x0)),(5,(.pointer r_1)),(7,(.int .i64 r_3)),(10,(.pointer x10)),(11,(.pointer x11)),(12,(.string r_6)),(13,(.bool r_7)),(42,(Sl.v x1)),(43,(.int .i64 (x1.len:Int))),(44,(.int .i64 x44)),(102,(.bool false)),(111,(.bool true))]) (λs w=>Zw Ret x44 Kl3 x10 x11 r_6 r_7 s w) 5 ?_ (λhr19=>?_))))))
                 ·intro x121 w a H g
                  try dsimp only at H g
                  unfold Zw at H
                  exact g.on (by rfl) (by rfl) (g.pur (zl g rfl rfl) λ_ g=>hr18 x121 _ _ H (g.wk))
                 ·rcases Classical.em ((r_6≠x114)) with hbr19|hbr19
                  ·replace H:=H.1 hbr19
                   replace g:=g.bool (b:=true) (t:=116) rfl (decide_eq_true hbr19)
                   exact g.off (by rfl) (by rfl) (by decide) (λ_ g=>g.off (by rfl) (by rfl) (by decide) (λ_ g=>g.off (by rfl) (by rfl) (by decide) (λ_ g=>g.off (by rfl) (by rfl) (by decide) (λ_ g=>g.on (by rfl) (by rfl) (g.pur (zl g rfl rfl) λ_ g=>hr19 true _ _ H (g.wk))))))
                  ·replace H:=H.2 hbr19
                   replace g:=g.bool (b:=false) (t:=116) rfl (decide_eq_false hbr19)
                   exact g.on (by rfl) (by rfl) (g.mv rfl λ_ g=>g.on (by rfl) (by rfl) (g.op (zQ g rfl) H λx118 w a H g=>g.on (by rfl) (by rfl) (g.op (zO g rfl) H λx119 w a H g=>g.on (by rfl) (by rfl) (g.op (zCV g rfl rfl) H λx120 w a H g=>g.on (by rfl) (by rfl) (g.pur (zm g rfl rfl) λ_ g=>hr19 x120 _ _ H (g.wk))))))
                ·replace H:=H.2 hbr18
                 replace g:=g.bool (b:=false) (t:=111) rfl (hbr18)
                 exact g.off (by rfl) (by rfl) (by decide) (λ_ g=>g.off (by rfl) (by rfl) (by decide) (λ_ g=>g.off (by rfl) (by rfl) (by decide) (λ_ g=>g.off (by rfl) (by rfl) (by decide) (λ_ g=>g.off (by rfl) (by rfl) (by decide) (λ_ g=>g.offU (by rfl) (by rfl) (λ_ g=>g.offU (by rfl) (by rfl) (λ_ g=>g.offU (by rfl) (by rfl) (λ_ g=>g.offU (by rfl) (by rfl) (λ_ g=>g.off (by rfl) (by rfl) (by decide) (λ_ g=>g.on (by rfl) (by rfl) (g.pur (zm g rfl rfl) λ_ g=>hr18 false _ _ H (g.wk))))))))))))
              ·rcases Classical.em ((x104=2)) with hbr17|hbr17
               ·replace H:=H.1 hbr17
                replace g:=g.bool (b:=true) (t:=106) rfl (decide_eq_true hbr17)
                exact g.on (by rfl) (by rfl) (g.op (zQ g rfl) H λx107 w a H g=>g.on (by rfl) (by rfl) (g.op (zO g rfl) H λx108 w a H g=>g.on (by rfl) (by rfl) (g.pur (ZZ g rfl rfl) λ_ g=>g.on (by rfl) (by rfl) (g.pur (zl g rfl rfl) λ_ g=>hr17 (decide (x108=0)) _ _ H (g.wk)))))
               ·replace H:=H.2 hbr17
                replace g:=g.bool (b:=false) (t:=106) rfl (decide_eq_false hbr17)
                exact g.off (by rfl) (by rfl) (by decide) (λ_ g=>g.off (by rfl) (by rfl) (by decide) (λ_ g=>g.off (by rfl) (by rfl) (by decide) (λ_ g=>g.on (by rfl) (by rfl) (g.pur (zm g rfl rfl) λ_ g=>hr17 false _ _ H (g.wk)))))
           ·rcases Bool.eq_false_or_eq_true (x96) with hbr9|hbr9
            ·replace H:=H.1 hbr9
             replace g:=g.bool (b:=true) (t:=97) rfl (hbr9)
             exact g.off (by rfl) (by rfl) (by decide) (λ_ g=>g.off (by rfl) (by rfl) (by decide) (λ_ g=>g.off (by rfl) (by rfl) (by decide) (λ_ g=>g.pur (zl g rfl rfl) λ_ g=>hr9 true _ _ H (g.wk))))
            ·replace H:=H.2 hbr9
             replace g:=g.bool (b:=false) (t:=97) rfl (hbr9)
             exact g.on (by rfl) (by rfl) (g.mv rfl λ_ g=>g.on (by rfl) (by rfl) (g.mv rfl λ_ g=>g.on (by rfl) (by rfl) (g.op (zCV g rfl rfl) H λx100 w a H g=>g.pur (zm g rfl rfl) λ_ g=>hr9 x100 _ _ H (g.wk))))
          ·rcases Classical.em ((r_8≠r_11)) with hbr8|hbr8
           ·replace H:=H.1 hbr8
            replace g:=g.bool (b:=true) (t:=92) rfl (decide_eq_true hbr8)
            exact g.off (by rfl) (by rfl) (by decide) (λ_ g=>g.off (by rfl) (by rfl) (by decide) (λ_ g=>g.off (by rfl) (by rfl) (by decide) (λ_ g=>g.pur (zl g rfl rfl) λ_ g=>hr8 true _ _ H (g.wk))))
           ·replace H:=H.2 hbr8
            replace g:=g.bool (b:=false) (t:=92) rfl (decide_eq_false hbr8)
            exact g.on (by rfl) (by rfl) (g.mv rfl λ_ g=>g.on (by rfl) (by rfl) (g.mv rfl λ_ g=>g.on (by rfl) (by rfl) (g.pur (zKh g rfl rfl) λ_ g=>g.pur (zm g rfl rfl) λ_ g=>hr8 (decide (r_6≠r_9)) _ _ H (g.wk))))
        ·rcases Bool.eq_false_or_eq_true (x63) with hbr7|hbr7
         ·replace H:=H.1 hbr7
          replace g:=g.bool (b:=true) (t:=64) rfl (hbr7)
          exact g.off (by rfl) (by rfl) (by decide) (λ_ g=>g.off (by rfl) (by rfl) (by decide) (λ_ g=>g.pur (zl g rfl rfl) λ_ g=>hr7 true _ _ H (g.wk)))
         ·replace H:=H.2 hbr7
          replace g:=g.bool (b:=false) (t:=64) rfl (hbr7)
          exact g.on (by rfl) (by rfl) (g.mv rfl λ_ g=>g.on (by rfl) (by rfl) (g.pur (zBQ g rfl rfl) λ_ g=>g.pur (zm g rfl rfl) λ_ g=>hr7 (decide (60<x44)) _ _ H (g.wk)))
       ·rcases Bool.eq_false_or_eq_true (x58) with hbr6|hbr6
        ·replace H:=H.1 hbr6
         replace g:=g.bool (b:=true) (t:=59) rfl (hbr6)
         exact g.on (by rfl) (by rfl) (g.op (zQ g rfl) H λx60 w a H g=>g.on (by rfl) (by rfl) (g.op (zO g rfl) H λx61 w a H g=>g.on (by rfl) (by rfl) (g.pur (zE5 g rfl rfl) λ_ g=>g.pur (zl g rfl rfl) λ_ g=>hr6 (decide (x61≠5)) _ _ H (g.wk))))
        ·replace H:=H.2 hbr6
         replace g:=g.bool (b:=false) (t:=59) rfl (hbr6)
         exact g.off (by rfl) (by rfl) (by decide) (λ_ g=>g.off (by rfl) (by rfl) (by decide) (λ_ g=>g.off (by rfl) (by rfl) (by decide) (λ_ g=>g.pur (zm g rfl rfl) λ_ g=>hr6 false _ _ H (g.wk))))
      ·rcases Classical.em ((x52≠2)) with hbr5|hbr5
       ·replace H:=H.1 hbr5
        replace g:=g.bool (b:=true) (t:=54) rfl (decide_eq_true hbr5)
        exact g.on (by rfl) (by rfl) (g.op (zQ g rfl) H λx55 w a H g=>g.on (by rfl) (by rfl) (g.op (zO g rfl) H λx56 w a H g=>g.on (by rfl) (by rfl) (g.pur (zE5 g rfl rfl) λ_ g=>g.pur (zl g rfl rfl) λ_ g=>hr5 (decide (x56≠4)) _ _ H (g.wk))))
       ·replace H:=H.2 hbr5
        replace g:=g.bool (b:=false) (t:=54) rfl (decide_eq_false hbr5)
        exact g.off (by rfl) (by rfl) (by decide) (λ_ g=>g.off (by rfl) (by rfl) (by decide) (λ_ g=>g.off (by rfl) (by rfl) (by decide) (λ_ g=>g.pur (zm g rfl rfl) λ_ g=>hr5 false _ _ H (g.wk))))
    ·replace H:=H.2 hc
     refine z8 (te (te (be (tn (zK (zE (g.mv rfl λ_ g=>g.mv rfl λ_ g=>g.call (zZ g zNO rfl rfl) H λe w H=>?_)))))))
     obtain ⟨r_12,r_13,r_14,rfl,H⟩:=H
     refine ⟨_,rfl,λ_ g=>(g.mv rfl λ_ g=>g.pur (zY g rfl rfl) λ_ g=>g.pur (zY g rfl rfl) λ_ g=>g.pur (zY g rfl rfl) λ_ g=>g.as_ rfl λ_ g=>zL (tn (zK (zE (g.mv rfl λ_ g=>g.pur (ZZ g rfl rfl) λ_ g=>g.mv rfl λ_ g=>WL.join (ds:=[]) (N:=174) (σ:=Bool) (λs=>[(173,(.bool s))]) (λs w=>zA0 Ret s w) 8 ?_ (λhr20=>?_))))))⟩
     ·intro x173 w a H g
      try dsimp only at H g
      unfold zA0 at H
      exact g.as_ rfl λ_ g=>zL (tn (zg (zw g rfl rfl ⟨_,rfl,H⟩)))
     ·rcases Classical.em ((r_14=0)) with hbr20|hbr20
      ·replace H:=H.1 hbr20
       replace g:=g.bool (b:=true) (t:=165) rfl (decide_eq_true hbr20)
       exact g.off (by rfl) (by rfl) (by decide) (λ_ g=>g.off (by rfl) (by rfl) (by decide) (λ_ g=>g.off (by rfl) (by rfl) (by decide) (λ_ g=>g.offU (by rfl) (by rfl) (λ_ g=>g.offU (by rfl) (by rfl) (λ_ g=>g.offU (by rfl) (by rfl) (λ_ g=>g.off (by rfl) (by rfl) (by decide) (λ_ g=>g.pur (zl g rfl rfl) λ_ g=>hr20 true _ _ H (g.wk))))))))
      ·replace H:=H.2 hbr20
       replace g:=g.bool (b:=false) (t:=165) rfl (decide_eq_false hbr20)
       refine g.on (by rfl) (by rfl) (g.mv rfl λ_ g=>g.on (by rfl) (by rfl) (g.pur (ZZ g rfl rfl) λ_ g=>g.on (by rfl) (by rfl) (g.mv rfl λ_ g=>WL.join (ds:=[]) (N:=174) (σ:=Bool) (λs=>[(172,(.bool s)),(165,(.bool false))]) (λs w=>zA5 Ret s w) 4 ?_ (λhr21=>?_))))
       ·intro x172 w a H g
        try dsimp only at H g
        unfold zA5 at H
        exact g.pur (zm g rfl rfl) λ_ g=>hr20 x172 _ _ H (g.wk)
       ·rcases Classical.em ((r_14=3)) with hbr21|hbr21
        ·replace H:=H.1 hbr21
         replace g:=g.bool (b:=true) (t:=168) rfl (decide_eq_true hbr21)
         exact g.on (by rfl) (by rfl) (g.mv rfl λ_ g=>g.on (by rfl) (by rfl) (g.purR (λw=>zAm g Tryz.underlying22 rfl) λ_ g=>g.on (by rfl) (by rfl) (g.pur (zBQ g rfl rfl) λ_ g=>g.on (by rfl) (by rfl) (g.pur (zl g rfl rfl) λ_ g=>hr21 (decide (3840<(x0.len:Int))) _ _ H (g.wk)))))
        ·replace H:=H.2 hbr21
         replace g:=g.bool (b:=false) (t:=168) rfl (decide_eq_false hbr21)
         exact g.off (by rfl) (by rfl) (by decide) (λ_ g=>g.off (by rfl) (by rfl) (by decide) (λ_ g=>g.off (by rfl) (by rfl) (by decide) (λ_ g=>g.on (by rfl) (by rfl) (g.pur (zm g rfl rfl) λ_ g=>hr21 false _ _ H (g.wk)))))
  ·rcases Classical.em ((r_2≠0)) with hbr1|hbr1
   ·replace H:=H.1 hbr1
    replace g:=g.bool (b:=true) (t:=27) rfl (decide_eq_true hbr1)
    exact g.off (by rfl) (by rfl) (by decide) (λ_ g=>g.off (by rfl) (by rfl) (by decide) (λ_ g=>g.pur (zl g rfl rfl) λ_ g=>hr1 true _ _ H (g.wk)))
   ·replace H:=H.2 hbr1
    replace g:=g.bool (b:=false) (t:=27) rfl (decide_eq_false hbr1)
    exact g.on (by rfl) (by rfl) (g.mv rfl λ_ g=>g.on (by rfl) (by rfl) (g.op (zCV g rfl rfl) H λx29 w a H g=>g.pur (zm g rfl rfl) λ_ g=>hr1 x29 _ _ H (g.wk)))
end Go.Proofs.YtealcoghiaeiiaaGreat.VG
set_option linter.unusedVariables false
set_option linter.unusedSimpArgs false
namespace Go.Proofs.YtealcoghiaeiiaaGreat.VG
open Go.VB Go.Proofs Go.RowKit
theorem zN8 {s s':St} {t t':Tx} (hl:s'.l=s.l) (hb:t'.began=t.began) (hw:t'.wr=t.wr) (key:ByteArray):seeV s' t' key=seeV s t key:=by
 unfold seeV zFz;rw [hl,hb,hw]
theorem zMZ {s:St} (hI:Inv s) (hn:s.now+1<=maxT) {x:yH} {t:Tx} (ht:s.tx x.Tx=some t) (hk:x.Kind=2∨x.Kind=4∨x.Kind=5):
  ∃ t',(doS s x).1.tx x.Tx=some t'/\t'.began=t.began/\t'.reads.length<=t.reads.length+1/\(doS s x).1.l=s.l/\(doS s x).1.now=s.now/\(doS s x).1.given=s.given/\
   (x.Kind=2->(doS s x).2.why=0->(doS s x).2.val=(seeV (doS s x).1 t' x.Key).1/\(doS s x).2.is=(seeV (doS s x).1 t' x.Key).2.1)/\
   (x.Kind=4->(doS s x).2.why=0->(seeV (doS s x).1 t' x.Key).1=x.Val/\(seeV (doS s x).1 t' x.Key).2.1=true)/\
   (x.Kind=5->(doS s x).2.why=0->(seeV (doS s x).1 t' x.Key).2.1=false):=by
 have heff:=zNP hI hn x
 generalize (doS s x).1=s' at heff ⊢
 generalize (doS s x).2=a at heff ⊢
 cases heff with
 |no e he=>exact ⟨t,ht,rfl,by omega,rfl,rfl,rfl,λ_ h=>absurd h he,λ_ h=>absurd h he,λ_ h=>absurd h he⟩
 |beg h _=>omega
 |get u h hu hs hl=>
  rw [ht] at hu;cases hu
  refine ⟨addR t (zBr x.Key),by simp [setTx,QS],rfl,by simp [addR],rfl,rfl,rfl,λ_ _=>?_,λh'=>by omega,λh'=>by omega⟩
  rw [show seeV (setTx s x.Tx (addR t (zBr x.Key))) (addR t (zBr x.Key)) x.Key=seeV s t x.Key from zN8 rfl rfl rfl x.Key]
  unfold seeV;rw [if_neg (by omega)];exact ⟨rfl,rfl⟩
 |scan u h _ _=>omega
 |write u y hky hu hy hl=>
  rw [ht] at hu;cases hu
  have hsz:∀ (w:Wri),w.Key=x.Key->¬ zBG w->¬ 256<x.Key.size:=λw e h1 h2=>h1 (.inl (by rw [e];exact h2))
  refine ⟨putW t y,by simp [setTx,QS],rfl,by simp [putW],rfl,rfl,rfl,λh'=>by rcases hky with ⟨h,_⟩|⟨h,_⟩<;>omega,λh' _=>?_,λh' _=>?_⟩
  ·rcases hky with ⟨_,rfl⟩|⟨h,_⟩
   ·unfold seeV zFz ovl
    rw [if_neg (hsz _ rfl hy)]
    simp [putW,QS]
   ·omega
  ·rcases hky with ⟨h,_⟩|⟨_,rfl⟩
   ·omega
   ·unfold seeV zFz ovl
    rw [if_neg (hsz _ rfl hy)]
    simp [putW,QS]
 |abort u h _=>omega
 |fail u e h _ _=>omega
 |empty u h _ _ _=>omega
 |comm u ys h _ _ _ _ _=>omega
theorem zKt {s:St} (hI:Inv s) (hn:s.now+1<=maxT) {n:Int} {t:Tx} (ht:s.tx n=some t) (hb:t.began=s.now):(zBR s n).2.why=0∨(zBR s n).2.why=3/\3840<s.l.length:=by
 unfold zBR
 rw [zBO ht]
 unfold zGV
 have hc:s.l.any (conf t)=false:=by
  rw [List.any_eq_false]
  intro x hx
  have:=hI.past x hx
  unfold conf;rw [decide_eq_false (by omega)];simp
 have hS:=hI.sorts ht
 rw [if_neg (by simp [hc])]
 split
 ·exact .inl rfl
 split
 ·right
  rename_i h
  unfold vput at h ⊢
  have hw:=zPJ hI ht hS hn
  have hl:=zPO hI ht hS
  by_cases hp:pwhy s.l s.low (zGA t.wr) (s.now+1)≠0
  ·rw [if_pos hp]
   rw [hw] at hp ⊢
   by_cases hq:4096<s.l.length+(zGA t.wr).length
   ·rw [if_pos hq];exact ⟨rfl,by omega⟩
   ·rw [if_neg hq] at hp;exact absurd rfl hp
  ·rw [if_neg hp] at h;exact absurd rfl h
 ·exact .inl rfl
theorem zOL (a b:Bool) {w:World} {o1 o2:Operand} {k:Bool->World->Prop} (H:k (decide (a≠b)) w):opE zA QQ (do eqGuard .neq zM2 o1 o2 (.bool a) (.bool b);binOp .neq zM2 (.bool a) (.bool b)) w k:=
 ⟨decide (a≠b),w,by cases a<;>cases b<;>kernel_rfl,H⟩
theorem zOv {w:World} {x0 x1:Sl} {l:List Pai} {steps:List yH} (h:zLV w x0 l) (h1:zQ6 w x1 steps):
  Cl zA zGs [Sl.v x0,Sl.v x1].toArray w (λe w'=>∃ r0:Bool,e=.returned (.bool r0)/\(r0=true/\Bel w w')):=by
 refine zGu x0 x1 w (λb w'=>b=true/\Bel w w') ?_
 have hbig:=h1.big;have hcap:=h1.cap;have hlen:=h1.len;have hlen0:=h.len
 unfold zCp
 refine zOG w λw1 b1=>⟨λh=>(nomatch h),λ_=>?_⟩
 have err:∀ (e:Int) W,e≠0->Bel w1 W->Yo x0 x1 (λb w'=>b=true/\Bel w w') none e true W:=by
  intro e W he hb
  unfold Yo
  refine ⟨λ_=>⟨λ_=>zJh none ?_,λh=>absurd he h⟩,λh=>(nomatch h)⟩
  exact ⟨rfl,b1.trans hb⟩
 refine zOq (h.bel b1) (λ_=>⟨λ_=>err 3 w1 (by decide) (Bel.refl _),λh=>absurd (by decide) h⟩) (λ_ _ w2 b2=>⟨λ_=>err 4 w2 (by decide) b2,λh=>absurd (by decide) h⟩)
  (λ_ _ _ w2 b2=>⟨λ_=>err 2 w2 (by decide) b2,λh=>absurd (by decide) h⟩) λg1 g2 g3 b ρ w2 b2 m2 hρ=>⟨λh=>absurd rfl h,λ_=>zJh _ ?_⟩
 have b02:=b1.trans b2
 have hρ0:∀ q,q<w.heap.size->ρ q=none:=λq hq=>hρ q (xh hq b1.le)
 have hI:=zN7 g1 g2 g3
 unfold Yo
 refine ⟨λh=>(nomatch h),λ_=>?_⟩
 have hc0:cnt (newS l).tx=0:=zIO (ks:=[]) ⟨List.nodup_nil,λk=>by simp [newS]⟩
 refine zNE m2 hI (by show (0:Int)<_;decide) λρ3 w3 m3 e3=>?_
 have hb:zCT (newS l)=(zFG (newS l),{ans0 with tx:=1}):=by unfold zCT;rw [if_neg (by rw [hc0];decide)];rfl
 rw [hb] at m3 ⊢
 simp only at m3 ⊢
 have hI1:Inv (zFG (newS l)):=zKV hI (by rw [hc0];decide)
 have ht1:(zFG (newS l)).tx 1=some (zGK (newS l)):=by show upd (newS l).tx 1 _ 1=_;rw [QS]
 have hl1:(zFG (newS l)).l.length=l.length:=by show (l.map verP).length=_;rw [List.length_map]
 refine ⟨λi W=>∃ (j:Nat) (ρ':Own) (s:St) (t:Tx),i=(j:Int)/\j<=steps.length/\Mgr ρ' W b s/\Inv s/\Ext ρ w2 ρ' W/\s.tx 1=some t/\t.began=1/\s.now=1/\s.given=1/\s.l.length=l.length/\t.reads.length<=3*min j 61,λi _=>(x1.len - i).toNat,
  ⟨0,ρ3,_,_,rfl,by omega,m3,hI1,e3,ht1,rfl,rfl,rfl,hl1,by simp [zGK]⟩,?_⟩
 rintro i W ⟨j,ρ',s,t,rfl,hj,hM,hIs,g,hts,htb,hnow,hgiv,hsl,hrd⟩
 have hbW:Bel w W:=g.base b02 hρ0
 have hn1:s.now+1<=maxT:=by rw [hnow];decide
 unfold zAx
 refine ⟨λhc=>?_,λhc=>?_⟩
 case refine_2=>
  have hcm:=zKt hIs hn1 hts (by omega)
  refine zLy hM hIs (by omega) 1 λr ρ6 W6 hM6 hE6 hO6 hρ6=>?_
  have hend:Bel w W6:=(g.trans hE6).base b02 hρ0
  generalize (zBR s 1).2.why=y at hcm ⊢
  refine ⟨λ_=>⟨rfl,hend⟩,λh0=>?_⟩
  have h3:=hcm.resolve_left h0
  refine ⟨λ_=>?_,λh=>absurd h3.1 h⟩
  exact ⟨decide_eq_true (by omega),hend⟩
 obtain ⟨st,hst⟩:=getE (l:=steps) (n:=j) (by omega)
 refine zFX (h1.bel hbW) zI3 zJD (by omega) (x:=st) (by simpa using hst) λad hA=>?_
 refine zBc zGB st rfl hA rfl ?_
 refine zCd zJ3 rfl zGB (cs:=st.cells) rfl rfl rfl λX W1 b5 hX hX0=>?_
 refine ⟨_,W1,zA6 _ _,?_⟩
 refine zHO zA2 hX rfl (by simp [yH.cells]) rfl λW2 hX2 g5=>?_
 let st':yH:={st with Tx:=1}
 replace hX2:Row W2 X st'.cells zGj:=hX2
 have b5':Bel W W2:=b5.grown g5 λr hr=>by cases hr;exact hX0
 have hρX:ρ' X=none:=by
  cases hq:ρ' X with
  |none=>rfl
  |some r=>have:=hM.lt X (by rw [hq];simp);omega
 have next:∀ W' ρ6 s' t',Mgr ρ6 W' b s'->Inv s'->Ext ρ w2 ρ6 W'->s'.tx 1=some t'->t'.began=1->s'.now=1->s'.given=1->s'.l.length=l.length->t'.reads.length<=3*min (j+1) 61->
   ZM (j:Int) (λx44' w'=>(∃ (j:Nat) (ρ':Own) (s:St) (t:Tx),x44'=(j:Int)/\j<=steps.length/\Mgr ρ' w' b s/\Inv s/\Ext ρ w2 ρ' w'/\s.tx 1=some t/\t.began=1/\s.now=1/\s.given=1/\s.l.length=l.length/\t.reads.length<=3*min j 61)/\(x1.len - x44').toNat<(x1.len - (j:Int)).toNat) W':=by
  intro W' ρ6 s' t' a1 a2 a3 a4 a5 a6 a7 a8 a9
  unfold ZM
  rw [wr64 (by omega) (by omega)]
  exact ⟨⟨j+1,ρ6,s',t',by omega,by omega,a1,a2,a3,a4,a5,a6,a7,a8,a9⟩,by omega⟩
 have J7:∀ (c:Bool),(c=false->(st.Kind=2∨st.Kind=4∨st.Kind=5)/\j<=60)->ZL (λb w'=>b=true/\Bel w w') (ptrA b) 1 (j:Int) (λx44' w'=>(∃ (j:Nat) (ρ':Own) (s:St) (t:Tx),x44'=(j:Int)/\j<=steps.length/\Mgr ρ' w' b s/\Inv s/\Ext ρ w2 ρ' w'/\s.tx 1=some t/\t.began=1/\s.now=1/\s.given=1/\s.l.length=l.length/\t.reads.length<=3*min j 61)/\(x1.len - x44').toNat<(x1.len - (j:Int)).toNat) (ptrA X) c W2:=by
  intro c hcf
  unfold ZL
  refine ⟨λ_=>next W2 ρ' s t (hM.bel b5') hIs (g.trans (Ext.bel b5')) hts htb hnow hgiv hsl (by omega),λh0=>?_⟩
  obtain ⟨hkind,hj60⟩:=hcf h0
  refine zBc zGB st' rfl hX2.at rfl ?_
  have hst1:=zMZ hIs hn1 (x:=st') (t:=t) hts hkind
  refine zQv (hM.bel b5') hIs (by omega) (by omega) st' λy ρ6 W3 hM3 hE3 hy=>?_
  have hI3:Inv (doS s st').1:=zPX hIs hn1 (zNP hIs hn1 st')
  have ey1:=hy.why;have ey2:=hy.val;have ey3:=hy.is
  obtain ⟨t3,ht3,hb3,hr3,hl3,hn3,hg3,F2,F4,F5⟩:=hst1
  generalize (doS s st').1=s3 at hM3 hI3 ht3 hl3 hn3 hg3 F2 F4 F5
  generalize (doS s st').2=a3 at ey1 ey2 ey3 F2 F4 F5
  have hX3:Row W3 X st'.cells zGj:=hX2.keep (hE3.blk hX2.lt hρX)
  have hX3n:ρ6 X=none:=(hE3.same X hX2.lt).trans hρX
  have hone:y.cells.all (·.oneCell')=true:=by
   obtain ⟨a1,a2,a3,a4,⟨a5,a51,a52⟩,⟨a6,a61,a62⟩,a7⟩:=y
   cases a5<;>cases a6<;>rfl
  refine zCd zFd rfl zCe (cs:=y.cells) rfl hone rfl λY W4 b6 hY hY0=>?_
  have hE':=((g.trans (Ext.bel b5')).trans hE3).trans (Ext.bel b6)
  have hX4:=hX3.bel b6
  have hM4:=hM3.bel b6
  have hYn:ρ6 Y=none:=by
   cases hq:ρ6 Y with
   |none=>rfl
   |some r=>have:=hM3.lt Y (by rw [hq];simp);omega
  refine yI zBK zo hX4.at st'.Key rfl ?_
  have hrl3:t3.reads.length<=181:=by omega
  refine zN9 hM4 1 st'.Key λρ7 W5 hM5 hE5=>?_
  rw [zM3 hI3 ht3 (by omega) st'.Key] at hM5 ⊢
  simp only at hM5 ⊢
  have ht4:=zNK ht3 st'.Key
  have hI4:Inv (if 256<st'.Key.size then s3 else setTx s3 1 (addR t3 (zBr st'.Key))):=by
   split
   ·exact hI3
   ·exact zGn hI3 ht3 rfl (zJS (hI3.txok 1 t3 ht3) (by omega) _)
  have hq4:(if 256<st'.Key.size then s3 else setTx s3 1 (addR t3 (zBr st'.Key))).l=s3.l/\(if 256<st'.Key.size then s3 else setTx s3 1 (addR t3 (zBr st'.Key))).now=s3.now/\(if 256<st'.Key.size then s3 else setTx s3 1 (addR t3 (zBr st'.Key))).given=s3.given:=by split<;>exact ⟨rfl,rfl,rfl⟩
  have hp4:(if 256<st'.Key.size then t3 else addR t3 (zBr st'.Key)).began=t3.began/\(if 256<st'.Key.size then t3 else addR t3 (zBr st'.Key)).wr=t3.wr/\(if 256<st'.Key.size then t3 else addR t3 (zBr st'.Key)).reads.length<=t3.reads.length+1:=by split<;>simp [addR]
  generalize (if 256<st'.Key.size then s3 else setTx s3 1 (addR t3 (zBr st'.Key)))=s4 at hM5 ht4 hI4 hq4
  generalize (if 256<st'.Key.size then t3 else addR t3 (zBr st'.Key))=t4 at ht4 hp4
  have hX5:=hX4.keep (hE5.blk hX4.lt hX3n)
  have hY5:=hY.keep (hE5.blk hY.lt hYn)
  have hX5n:ρ7 X=none:=(hE5.same X hX4.lt).trans hX3n
  have hY5n:ρ7 Y=none:=(hE5.same Y hY.lt).trans hYn
  refine yI zBK zo hX5.at st'.Key rfl ?_
  refine zN9 hM5 1 st'.Key λρ8 W6 hM6 hE6=>?_
  rw [zM3 hI4 ht4 (by omega) st'.Key] at hM6 ⊢
  simp only at hM6 ⊢
  have ht5:=zNK ht4 st'.Key
  have hI5:Inv (if 256<st'.Key.size then s4 else setTx s4 1 (addR t4 (zBr st'.Key))):=by
   split
   ·exact hI4
   ·exact zGn hI4 ht4 rfl (zJS (hI4.txok 1 t4 ht4) (by omega) _)
  have hq5:(if 256<st'.Key.size then s4 else setTx s4 1 (addR t4 (zBr st'.Key))).l=s4.l/\(if 256<st'.Key.size then s4 else setTx s4 1 (addR t4 (zBr st'.Key))).now=s4.now/\(if 256<st'.Key.size then s4 else setTx s4 1 (addR t4 (zBr st'.Key))).given=s4.given:=by split<;>exact ⟨rfl,rfl,rfl⟩
  have hp5:(if 256<st'.Key.size then t4 else addR t4 (zBr st'.Key)).began=t4.began/\(if 256<st'.Key.size then t4 else addR t4 (zBr st'.Key)).reads.length<=t4.reads.length+1:=by split<;>simp [addR]
  generalize (if 256<st'.Key.size then s4 else setTx s4 1 (addR t4 (zBr st'.Key)))=s5 at hM6 ht5 hI5 hq5
  generalize (if 256<st'.Key.size then t4 else addR t4 (zBr st'.Key))=t5 at ht5 hp5
  rw [zN8 (s:=s3) (t:=t3) hq4.1 hp4.1 hp4.2.1]
  change st'.Kind=2->_ at F2
  generalize seeV s3 t3 st'.Key=v at F2 F4 F5 ⊢
  have hE'':=(hE'.trans hE5).trans hE6
  have hX6:=hX5.keep (hE6.blk hX5.lt hX5n)
  have hY6:=hY5.keep (hE6.blk hY5.lt hY5n)
  have fin:=next W6 ρ8 s5 t5 hM6 hI5 hE'' ht5 (by omega) (by omega) (by omega) (by rw [hq5.1,hq4.1,hl3];exact hsl) (by omega)
  generalize (λx44' w'=>(∃ (j:Nat) (ρ':Own) (s:St) (t:Tx),x44'=(j:Int)/\j<=steps.length/\Mgr ρ' w' b s/\Inv s/\Ext ρ w2 ρ' w'/\s.tx 1=some t/\t.began=1/\s.now=1/\s.given=1/\s.l.length=l.length/\t.reads.length<=3*min j 61)/\(x1.len - x44').toNat<(x1.len - (j:Int)).toNat)=Kl at fin ⊢
  have e13:ZE (λb w'=>b=true/\Bel w w') (j:Int) Kl false W6:=by
   unfold ZE
   exact ⟨λh=>(nomatch h),λ_=>fin⟩
  have e14:∀ c:Bool,(c=true->v.2.1=false)->ZH (λb w'=>b=true/\Bel w w') (j:Int) Kl v.2.1 c W6:=by
   intro c hc
   unfold ZH
   refine ⟨λh=>?_,λ_=>by unfold Y8;exact e13⟩
   unfold Y8
   rw [hc h];exact e13
  have e12:ZD (λb w'=>b=true/\Bel w w') (j:Int) Kl (ptrA X) (ptrA Y) v.2.1 false W6:=by
   unfold ZD
   refine ⟨λh=>(nomatch h),λ_=>?_⟩
   refine yI xk Y7 hX6.at st'.Kind rfl ⟨λh5=>?_,λ_=>e14 false λh=>(nomatch h)⟩
   refine yI YQ zAk hY6.at y.Why rfl (e14 _ λh=>F5 h5 ?_)
   rw [← ey1];exact of_decide_eq_true h
  have e11:∀ c:Bool,(c=true->v.1=st.Val/\v.2.1=true)->ZI (λb w'=>b=true/\Bel w w') (j:Int) Kl (ptrA X) (ptrA Y) v.1 v.2.1 c W6:=by
   intro c hc
   unfold ZI
   refine ⟨λh=>?_,λ_=>e12⟩
   obtain ⟨h2,h3⟩:=hc h
   refine yI zGJ zo hX6.at st'.Val rfl ⟨λhne=>absurd h2 hne,λ_=>?_⟩
   unfold Zt
   rw [h3] at e12 ⊢;exact e12
  have e10:Y9 (λb w'=>b=true/\Bel w w') (j:Int) Kl (ptrA X) (ptrA Y) v.1 v.2.1 false W6:=by
   unfold Y9
   refine ⟨λh=>(nomatch h),λ_=>?_⟩
   refine yI xk Y7 hX6.at st'.Kind rfl ⟨λh4=>?_,λ_=>e11 false λh=>(nomatch h)⟩
   refine yI YQ zAk hY6.at y.Why rfl (e11 _ λh=>F4 h4 ?_)
   rw [← ey1];exact of_decide_eq_true h
  have e17:∀ c:Bool,(c=true->y.Val=v.1/\y.Is=v.2.1)->ZG (λb w'=>b=true/\Bel w w') (j:Int) Kl (ptrA X) (ptrA Y) v.1 v.2.1 c W6:=by
   intro c hc
   unfold ZG
   refine ⟨λh=>?_,λ_=>by unfold ZF;exact e10⟩
   obtain ⟨h2,h3⟩:=hc h
   refine yI zFo zo hY6.at y.Val rfl ⟨λhne=>absurd h2.symm hne,λ_=>?_⟩
   refine yI zF4 zD3 hY6.at y.Is rfl ?_
   refine zOL _ _ ?_
   unfold Zw ZF
   rw [decide_eq_false (λhne=>hne h3.symm)]
   exact e10
  refine ⟨λh=>absurd rfl h,λ_=>?_⟩
  rw [decide_eq_false (λh=>h rfl)]
  unfold zAE
  refine ⟨λh=>(nomatch h),λ_=>zOL _ _ ?_⟩
  rw [decide_eq_false (λh=>h rfl)]
  unfold zAF
  refine ⟨λh=>(nomatch h),λ_=>?_⟩
  refine yI xk Y7 hX6.at st'.Kind rfl ⟨λh2=>?_,λ_=>e17 false λh=>(nomatch h)⟩
  refine yI YQ zAk hY6.at y.Why rfl (e17 _ λh=>?_)
  obtain ⟨q1,q2⟩:=F2 h2 (by rw [← ey1];exact of_decide_eq_true h)
  exact ⟨ey2.trans q1,ey3.trans q2⟩
 have J6:∀ (c:Bool),(c=false->st.Kind=2∨st.Kind=4∨st.Kind=5)->ZN (λb w'=>b=true/\Bel w w') (ptrA b) 1 (j:Int) (λx44' w'=>(∃ (j:Nat) (ρ':Own) (s:St) (t:Tx),x44'=(j:Int)/\j<=steps.length/\Mgr ρ' w' b s/\Inv s/\Ext ρ w2 ρ' w'/\s.tx 1=some t/\t.began=1/\s.now=1/\s.given=1/\s.l.length=l.length/\t.reads.length<=3*min j 61)/\(x1.len - x44').toNat<(x1.len - (j:Int)).toNat) (ptrA X) c W2:=by
  intro c hc
  unfold ZN
  exact ⟨λ_=>J7 true λh=>(nomatch h),λh=>J7 _ λh2=>⟨hc h,by have:=of_decide_eq_false h2;omega⟩⟩
 refine yI xk Y7 hX2.at st'.Kind rfl ⟨λh2=>?_,λh2=>?_⟩
 ·refine yI xk Y7 hX2.at st'.Kind rfl ?_
  unfold ZK
  refine ⟨λh4=>?_,λh4=>J6 false λ_=>.inr (.inl (Classical.not_not.1 (of_decide_eq_false h4)))⟩
  refine yI xk Y7 hX2.at st'.Kind rfl ?_
  exact J6 _ λh5=>.inr (.inr (Classical.not_not.1 (of_decide_eq_false h5)))
 ·unfold ZK
  exact ⟨λh=>(nomatch h),λ_=>J6 false λ_=>.inl (Classical.not_not.1 h2)⟩
end Go.Proofs.YtealcoghiaeiiaaGreat.VG
