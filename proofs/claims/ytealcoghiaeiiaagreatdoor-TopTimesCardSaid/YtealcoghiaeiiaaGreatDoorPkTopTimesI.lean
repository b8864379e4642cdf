/- Texts by which the law's calls are walked (part 9): rules, printed conditions, contracts; no condition. -/
import Derived.TacticsIn
import Derived.TacticsInMore
import Derived.Deep.LoopGhost
import Derived.Sort.QuietThIn
import Derived.RangeFuncCalls
import Derived.RangeFuncNested
import Derived.RangeFuncLeaves
import Derived.WalkKit
import Derived.StillTail
import Derived.Test.YtealcoghiaeiiaaGreatDoorProg
import Derived.KernelRfl
import Derived.Deep.WholeRow
import Derived.Laws.StructEq
import Derived.MapFrom
import Derived.Laws.CopyRow
import Derived.Maps.RangeRun
import Derived.Sort.Walk0
import Derived.RangeFuncBound
import Derived.Laws.BytesArg
import Derived.Test.YtealcoghiaeiiaaGreatDoorPkTopTimesH
open Go.Proofs.Tryz renaming prog → zA
open Go.IntKind renaming wrap → zB
open Go.Value renaming pointer → zC, int → zU, string → zY, bool → YR
open Go.Instr renaming loadAt → zE, storeAt → zI, indexAt → zF, fieldAt → zN, alloc → ze, build → yo, buildSlice → zl
open Nat renaming le_refl → zV, le_trans → zj, lt_of_lt_of_le → QR
open List renaming length_append → yB
set_option linter.unusedVariables false
set_option linter.unusedSimpArgs false
namespace Go.Proofs.YtealcoghiaeiiaaGreatDoor.VG
open Go.VB Go.Proofs
def zBH (Ret:Bool->World->Prop) (x33:Bool) (w:World):Prop:=
 Ret x33 w
def zAZ (Ret:Bool->World->Prop) (x39:Int) (Kl3:Sl->Int->World->Prop) (x7_1:Sl) (x68:Bool) (w:World):Prop:=
 (x68=true->(Ret false w))/\(x68=false->(Kl3 x7_1 (zB .i64 (x39+1)) w))
def Zd (Ret:Bool->World->Prop) (r_1:Option Addr) (x39:Int) (Kl3:Sl->Int->World->Prop) (x7_1:Sl) (w:World):Prop:=
 Cl zA 9 [(.pointer r_1)].toArray w (λe w=>∃ (r_3:zP),e=.returned (zP.v r_3)/\(Cl zA 10 [(.pointer r_1)].toArray w (λe w=>∃ (r_4:Int),e=.returned (.int .u64 r_4)/\(Cl zA 8 [(zP.v r_3),(.string (ByteArray.mk #[])),(.string (ByteArray.mk #[])),(.int .u64 r_4)].toArray w (λe w=>∃ (r_5:Sl) (r_6:Int),e=.returned (.tuple [(Sl.v r_5),(.int .i64 r_6)].toArray)/\(((r_6≠0)->(zAZ Ret x39 Kl3 x7_1 true w))/\(¬ (r_6≠0)->(Cl zA 11 [(Sl.v r_5),(Sl.v x7_1)].toArray w (λe w=>∃ (r_7:Bool),e=.returned (.bool r_7)/\(zAZ Ret x39 Kl3 x7_1 (!r_7) w))))))))))
def zAa (Ret:Bool->World->Prop) (x91:Bool) (w:World):Prop:=
 Ret x91 w
def zA2 (x1:Sl) (Ret:Bool->World->Prop) (r_1:Option Addr) (x7:Sl) (x39:Int) (w:World) (Kl3:Sl->Int->World->Prop):Prop:=
 ((x39<(x1.len:Int))->(opE zA zC (zF 23 (Sl.v x1) (.int .i64 x39)) w (λx41 w=>opE zA yK.v (zE 31 (.pointer x41)) w (λx42 w=>opE zA zC (ze 31 true (.tuple #[])) w (λx9 w=>opU zA (zI 31 (.pointer x9) (yK.v x42)) w (λw=>opE zA yK.v (zE 31 (.pointer x9)) w (λx44 w=>Cl zA 6 [(.pointer r_1),(yK.v x44)].toArray w (λe w=>∃ (r_8:zv),e=.returned (zv.v r_8)/\(opE zA zC (ze 35 true (.tuple #[])) w (λx10 w=>opU zA (zI 35 (.pointer x10) (zv.v r_8)) w (λw=>opE zA zC (zN 35 (.pointer x10) 0) w (λx46 w=>opE zA (zU .i64) (zE 26 (.pointer x46)) w (λx47 w=>((x47=0)->(opE zA zC (zN 35 (.pointer x10) 5) w (λx50 w=>opE zA Sl.v (zE 32 (.pointer x50)) w (λx51 w=>Cl zA 7 [(Sl.v x7),(Sl.v x51)].toArray w (λe w=>∃ (r_9:Sl),e=.returned (Sl.v r_9)/\(Zd Ret r_1 x39 Kl3 r_9 w))))))/\(¬ (x47=0)->(Zd Ret r_1 x39 Kl3 x7 w)))))))))))))))/\(¬ (x39<(x1.len:Int))->(Cl zA 12 [(.pointer r_1)].toArray w (λe w=>∃ (r_10:Int) (r_11:Int),e=.returned (.tuple [(.int .i64 r_10),(.int .i64 r_11)].toArray)/\(((r_11≠0)->(Ret (decide (r_11=3)) w))/\(¬ (r_11≠0)->(Cl zA 13 [(.pointer r_1),(.int .i64 r_10),(.string (ByteArray.mk #[])),(.string (ByteArray.mk #[]))].toArray w (λe w=>∃ (r_12:Sl) (r_13:Int),e=.returned (.tuple [(Sl.v r_12),(.int .i64 r_13)].toArray)/\(((r_13=0)->(Cl zA 11 [(Sl.v r_12),(Sl.v x7)].toArray w (λe w=>∃ (r_14:Bool),e=.returned (.bool r_14)/\(zAa Ret r_14 w))))/\(¬ (r_13=0)->(zAa Ret false w))))))))))
def Zf (x0:Sl) (x1:Sl) (Ret:Bool->World->Prop) (r_1:Option Addr) (r_2:Int) (x27:Bool) (w:World):Prop:=
 (x27=true->(((r_2≠0)->(opE zA YR (do eqGuard .eql 25 (.tmp 31) (.const (.pointer none)) (.pointer r_1) (.pointer none);binOp .eql 25 (.pointer r_1) (.pointer none)) w (λx32 w=>zBH Ret x32 w)))/\(¬ (r_2≠0)->(zBH Ret false w))))/\(x27=false->(opE zA Sl.v (zl 22 0 [].toArray) w (λx34 w=>opE zA Sl.v (Builtin.append_ #[22,22] 22 [(Sl.v x34),(Sl.v x0)].toArray) w (λx36 w=>∃ (I:Sl->Int->World->Prop) (μ:Sl->Int->World->Nat),I x36 0 w/\∀ (x7:Sl) (x39:Int) w,I x7 x39 w->zA2 x1 Ret r_1 x7 x39 w (λx7' x39' w'=>I x7' x39' w'/\μ x7' x39' w'<μ x7 x39 w)))))
def zDs (x0:Sl) (x1:Sl) (w:World) (Ret:Bool->World->Prop):Prop:=
 Cl zA 4 [].toArray w (λe w=>∃ (r:Bool),e=.returned (.bool r)/\(((!r)=true->(Ret false w))/\((!r)=false->(Cl zA 5 [(Sl.v x0)].toArray w (λe w=>∃ (r_1:Option Addr) (r_2:Int),e=.returned (.tuple [(.pointer r_1),(.int .i64 r_2)].toArray)/\(((r_2≠0)->(Zf x0 x1 Ret r_1 r_2 true w))/\(¬ (r_2≠0)->(opE zA YR (do eqGuard .eql 25 (.tmp 25) (.const (.pointer none)) (.pointer r_1) (.pointer none);binOp .eql 25 (.pointer r_1) (.pointer none)) w (λx26 w=>Zf x0 x1 Ret r_1 r_2 x26 w)))))))))
set_option maxRecDepth 100000 in
theorem zHU (x0:Sl) (x1:Sl) (w:World) (Ret:Bool->World->Prop) (H:zDs x0 x1 w Ret):Cl zA 3 [(Sl.v x0),(Sl.v x1)].toArray w (λe w'=>∃ (r0:Bool),e=.returned (.bool r0)/\Ret r0 w'):=by
 unfold zDs at H
 refine zf 92 (zipE 0 [(Sl.v x0),(Sl.v x1)]) Tryz.func3 rfl rfl (by rfl) rfl ?_
 intro a g
 replace g:Sat [] 92 [(0,(Sl.v x0)),(1,(Sl.v x1))] a:=g
 refine zJ (zD (g.as_ rfl λ_ g=>zL (tn (zJ (zJ (zD (g.call (zZ g ent4 rfl rfl) H λe w H=>?_)))))))
 obtain ⟨r,rfl,H⟩:=H
 refine ⟨_,rfl,λ_ g=>(g.pur (Z4 g rfl) λ_ g=>zL (tn (zg g rfl (λhc=>?_) (λhc=>?_))))⟩
 ·replace H:=H.1 hc
  exact zJ (zD (g.as_ rfl λ_ g=>zL (tn (zd (tr (zp g rfl rfl ⟨_,rfl,H⟩))))))
 ·replace H:=H.2 hc
  refine zW (tn (zJ (zD (g.mv rfl λ_ g=>g.call (zZ g ent5 rfl rfl) H λe w H=>?_))))
  obtain ⟨r_1,r_2,rfl,H⟩:=H
  refine ⟨_,rfl,λ_ g=>(g.mv rfl λ_ g=>g.pur (zb g rfl rfl) λ_ g=>g.pur (zb g rfl rfl) λ_ g=>g.as_ rfl λ_ g=>g.as_ rfl λ_ g=>zL (tn (zJ (zJ (zD (g.mv rfl λ_ g=>g.pur (zFU g rfl rfl) λ_ g=>g.mv rfl λ_ g=>WL.join (ds:=[]) (N:=92) (σ:=Bool) (λs=>[(27,(.bool s)),(0,(Sl.v x0)),(1,(Sl.v x1)),(5,(.pointer r_1)),(6,(.int .i64 r_2))]) (λs w=>Zf x0 x1 Ret r_1 r_2 s w) 3 ?_ (λhr1=>?_)))))))⟩
  ·intro x27 w a H g
   try dsimp only at H g
   unfold Zf at H
   refine zL (tn (zg g rfl (λhc=>?_) (λhc=>?_)))
   ·replace H:=H.1 hc
    refine zJ (zD (g.mv rfl λ_ g=>g.pur (zFU g rfl rfl) λ_ g=>g.mv rfl λ_ g=>WL.join (ds:=[]) (N:=92) (σ:=Bool) (λs=>[(33,(.bool s))]) (λs w=>zBH Ret s w) 3 ?_ (λhr2=>?_)))
    ·intro x33 w a H g
     try dsimp only at H g
     unfold zBH at H
     exact g.as_ rfl λ_ g=>zL (tn (zd (tr (zp g rfl rfl ⟨_,rfl,H⟩))))
    ·rcases Classical.em ((r_2≠0)) with hbr2|hbr2
     ·replace H:=H.1 hbr2
      replace g:=g.bool (b:=true) (t:=30) rfl (decide_eq_true hbr2)
      exact g.on (by rfl) (by rfl) (g.mv rfl λ_ g=>g.on (by rfl) (by rfl) (g.op (zCp g rfl rfl) H λx32 w a H g=>g.pur (yD g rfl rfl) λ_ g=>hr2 x32 _ _ H (g.wk)))
     ·replace H:=H.2 hbr2
      replace g:=g.bool (b:=false) (t:=30) rfl (decide_eq_false hbr2)
      exact g.off (by rfl) (by rfl) (by decide) (λ_ g=>g.off (by rfl) (by rfl) (by decide) (λ_ g=>g.pur (yC g rfl rfl) λ_ g=>hr2 false _ _ H (g.wk)))
   ·replace H:=H.2 hc
    refine zW (tn (zJ (zD (g.op (Y4 g rfl) H λx34 w a H g=>g.mv rfl λ_ g=>g.op (zBe g rfl) H λx36 w a H g=>g.as_ rfl λ_ g=>zL (tn (zJ (zJ (zD (g.mv rfl λ_ g=>g.purR (λw=>zAT g Tryz.underlying23 rfl) λ_ g=>g.mv rfl λ_ g=>zL (tn (zX ?_)))))))))))
    obtain ⟨I_l3,μ_l3,h0,hb⟩:=H
    refine yH (ds:=[]) (N:=92) (σ:=Sl × Int) (λs=>[(7,(Sl.v s.1)),(39,(.int .i64 s.2)),(5,(.pointer r_1)),(37,(Sl.v x1)),(38,(.int .i64 (x1.len:Int)))]) (λs w=>I_l3 s.1 s.2 w) (λs w=>μ_l3 s.1 s.2 w) (x36,0) h0 (g.wk) ?_
    rintro ⟨x7,x39⟩ w a hI g
    try dsimp only at hI g
    obtain ⟨Kl3,hK_l3⟩:∃ K:Sl->Int->World->Prop,K=(λx7' x39' w'=>I_l3 x7' x39' w'/\μ_l3 x7' x39' w'<μ_l3 x7 x39 w):=⟨_,rfl⟩
    have H:zA2 x1 Ret r_1 x7 x39 w Kl3:=by rw [hK_l3];exact hb x7 x39 w hI
    clear hb h0 hI
    unfold zA2 at H
    refine zJ (zD (g.pur (yV g rfl rfl) λ_ g=>zL (tn (zJ (za g rfl (λhc=>?_) (λhc=>?_))))))
    ·replace H:=H.1 hc
     refine zW (tn (zJ (zX (zJ (zD (g.op (zH g rfl rfl) H λx41 w a H g=>g.op (zO g rfl) H λx42 w a H g=>g.op (QP) H λx9 w a H g=>g.opu (zT g rfl rfl) H λw a H g=>zL (tn (zy (ds:=[]) (N:=92) (σ:=Sl) (λs=>[(7,(Sl.v s)),(5,(.pointer r_1)),(37,(Sl.v x1)),(38,(.int .i64 (x1.len:Int))),(39,(.int .i64 x39))]) (λs w=>Zd Ret r_1 x39 Kl3 s w) ?_ (λhj4=>?_)))))))))
     ·intro x7_1 w a H g
      try dsimp only at H g
      unfold Zd at H
      refine zJ (zD (g.mv rfl λ_ g=>g.call (zZ g ent9 rfl rfl) H λe w H=>?_))
      obtain ⟨r_3,rfl,H⟩:=H
      refine ⟨_,rfl,λ_ g=>(g.mv rfl λ_ g=>g.call (zZ g zRo rfl rfl) H λe w H=>?_)⟩
      obtain ⟨r_4,rfl,H⟩:=H
      refine ⟨_,rfl,λ_ g=>(g.call (zZ g ent8 rfl rfl) H λe w H=>?_)⟩
      obtain ⟨r_5,r_6,rfl,H⟩:=H
      refine ⟨_,rfl,λ_ g=>(g.mv rfl λ_ g=>g.pur (zb g rfl rfl) λ_ g=>g.pur (zb g rfl rfl) λ_ g=>g.as_ rfl λ_ g=>g.as_ rfl λ_ g=>zL (tn (zJ (zD (g.mv rfl λ_ g=>g.pur (zFU g rfl rfl) λ_ g=>g.mv rfl λ_ g=>WL.join (ds:=[]) (N:=92) (σ:=Bool) (λs=>[(68,(.bool s)),(5,(.pointer r_1)),(7,(Sl.v x7_1)),(37,(Sl.v x1)),(38,(.int .i64 (x1.len:Int))),(39,(.int .i64 x39))]) (λs w=>zAZ Ret x39 Kl3 x7_1 s w) 5 ?_ (λhr5=>?_))))))⟩
      ·intro x68 w a H g
       try dsimp only at H g
       unfold zAZ at H
       refine zL (tn (zg g rfl (λhc=>?_) (λhc=>?_)))
       ·replace H:=H.1 hc
        exact zJ (zD (g.as_ rfl λ_ g=>zL (tn (zd (br (tr (tr (br (tr (zp g rfl rfl ⟨_,rfl,H⟩))))))))))
       ·replace H:=H.2 hc
        refine zW (bn (tn (zD (g.pur (zm g rfl rfl) λ_ g=>g.mv rfl λ_ g=>?_))))
        rw [hK_l3] at H
        exact zL (tn ⟨(x7_1,(zB .i64 (x39+1))),g.wk,H⟩)
      ·rcases Classical.em ((r_6≠0)) with hbr5|hbr5
       ·replace H:=H.1 hbr5
        replace g:=g.bool (b:=true) (t:=63) rfl (decide_eq_true hbr5)
        exact g.off (by rfl) (by rfl) (by decide) (λ_ g=>g.off (by rfl) (by rfl) (by decide) (λ_ g=>g.off (by rfl) (by rfl) (by decide) (λ_ g=>g.off (by rfl) (by rfl) (by decide) (λ_ g=>g.pur (yD g rfl rfl) λ_ g=>hr5 true _ _ H (g.wk)))))
       ·replace H:=H.2 hbr5
        replace g:=g.bool (b:=false) (t:=63) rfl (decide_eq_false hbr5)
        refine g.on (by rfl) (by rfl) (g.mv rfl λ_ g=>g.on (by rfl) (by rfl) (g.mv rfl λ_ g=>g.on (by rfl) (by rfl) (g.call (zZ g zQc rfl rfl) H λe w H=>?_)))
        obtain ⟨r_7,rfl,H⟩:=H
        exact ⟨_,rfl,λ_ g=>(g.on (by rfl) (by rfl) (g.pur (Z4 g rfl) λ_ g=>g.pur (yC g rfl rfl) λ_ g=>hr5 (!r_7) _ _ H (g.wk)))⟩
     ·refine zJ (zD (g.mv rfl λ_ g=>g.op (zO g rfl) H λx44 w a H g=>g.call (zZ g ent6 rfl rfl) H λe w H=>?_))
      obtain ⟨r_8,rfl,H⟩:=H
      refine ⟨_,rfl,λ_ g=>(g.op (QP) H λx10 w a H g=>g.opu (zT g rfl rfl) H λw a H g=>zL (tn (zJ (zD (g.op (zR g rfl) H λx46 w a H g=>g.op (zO g rfl) H λx47 w a H g=>g.pur (zA1 g rfl rfl) λ_ g=>zL (tn (za g rfl (λhc=>?_) (λhc=>?_))))))))⟩
      ·replace H:=H.1 hc
       refine zD (g.mv rfl λ_ g=>g.op (zR g rfl) H λx50 w a H g=>g.op (zO g rfl) H λx51 w a H g=>g.call (zZ g ent7 rfl rfl) H λe w H=>?_)
       obtain ⟨r_9,rfl,H⟩:=H
       exact ⟨_,rfl,λ_ g=>(g.as_ rfl λ_ g=>zL (tn (hj4 r_9 _ _ H (g.wk))))⟩
      ·replace H:=H.2 hc
       exact zW (tn (hj4 x7 _ _ H (g.wk)))
    ·replace H:=H.2 hc
     refine z7 (te (te (be (tn (zJ (zD (g.mv rfl λ_ g=>g.call (zZ g zQZ rfl rfl) H λe w H=>?_)))))))
     obtain ⟨r_10,r_11,rfl,H⟩:=H
     refine ⟨_,rfl,λ_ g=>(g.mv rfl λ_ g=>g.pur (zb g rfl rfl) λ_ g=>g.pur (zb g rfl rfl) λ_ g=>g.as_ rfl λ_ g=>g.as_ rfl λ_ g=>zL (tn (zJ (zJ (zD (g.mv rfl λ_ g=>g.pur (zFU g rfl rfl) λ_ g=>zL (tn (za g rfl (λhc=>?_) (λhc=>?_)))))))))⟩
     ·replace H:=H.1 hc
      exact zJ (zD (g.mv rfl λ_ g=>g.pur (zA1 g rfl rfl) λ_ g=>g.as_ rfl λ_ g=>zL (tn (zd (tr (zp g rfl rfl ⟨_,rfl,H⟩))))))
     ·replace H:=H.2 hc
      refine zW (tn (zJ (zD (g.mv rfl λ_ g=>g.mv rfl λ_ g=>g.call (zZ g zQP rfl rfl) H λe w H=>?_))))
      obtain ⟨r_12,r_13,rfl,H⟩:=H
      refine ⟨_,rfl,λ_ g=>(g.mv rfl λ_ g=>g.pur (zb g rfl rfl) λ_ g=>g.pur (zb g rfl rfl) λ_ g=>g.as_ rfl λ_ g=>g.as_ rfl λ_ g=>zL (tn (zJ (zD (g.mv rfl λ_ g=>g.pur (zA1 g rfl rfl) λ_ g=>g.mv rfl λ_ g=>WL.join (ds:=[]) (N:=92) (σ:=Bool) (λs=>[(91,(.bool s))]) (λs w=>zAa Ret s w) 4 ?_ (λhr6=>?_))))))⟩
      ·intro x91 w a H g
       try dsimp only at H g
       unfold zAa at H
       exact g.as_ rfl λ_ g=>zL (tn (zd (zp g rfl rfl ⟨_,rfl,H⟩)))
      ·rcases Classical.em ((r_13=0)) with hbr6|hbr6
       ·replace H:=H.1 hbr6
        replace g:=g.bool (b:=true) (t:=87) rfl (decide_eq_true hbr6)
        refine g.on (by rfl) (by rfl) (g.mv rfl λ_ g=>g.on (by rfl) (by rfl) (g.mv rfl λ_ g=>g.on (by rfl) (by rfl) (g.call (zZ g zQc rfl rfl) H λe w H=>?_)))
        obtain ⟨r_14,rfl,H⟩:=H
        exact ⟨_,rfl,λ_ g=>(g.pur (yD g rfl rfl) λ_ g=>hr6 r_14 _ _ H (g.wk))⟩
       ·replace H:=H.2 hbr6
        replace g:=g.bool (b:=false) (t:=87) rfl (decide_eq_false hbr6)
        exact g.off (by rfl) (by rfl) (by decide) (λ_ g=>g.off (by rfl) (by rfl) (by decide) (λ_ g=>g.off (by rfl) (by rfl) (by decide) (λ_ g=>g.pur (yC g rfl rfl) λ_ g=>hr6 false _ _ H (g.wk))))
  ·rcases Classical.em ((r_2≠0)) with hbr1|hbr1
   ·replace H:=H.1 hbr1
    replace g:=g.bool (b:=true) (t:=24) rfl (decide_eq_true hbr1)
    exact g.off (by rfl) (by rfl) (by decide) (λ_ g=>g.off (by rfl) (by rfl) (by decide) (λ_ g=>g.pur (yD g rfl rfl) λ_ g=>hr1 true _ _ H (g.wk)))
   ·replace H:=H.2 hbr1
    replace g:=g.bool (b:=false) (t:=24) rfl (decide_eq_false hbr1)
    exact g.on (by rfl) (by rfl) (g.mv rfl λ_ g=>g.on (by rfl) (by rfl) (g.op (zCp g rfl rfl) H λx26 w a H g=>g.pur (yC g rfl rfl) λ_ g=>hr1 x26 _ _ H (g.wk)))
end Go.Proofs.YtealcoghiaeiiaaGreatDoor.VG
set_option linter.unusedVariables false
set_option linter.unusedSimpArgs false
namespace Go.Proofs.YtealcoghiaeiiaaGreatDoor.VG
open Go.VB Go.Proofs Go.RowKit
theorem zO5 {s:St} (hI:Inv (zGf s)) (hl:s.tx (s.given+1)=none) {cur:List Pai} (hc:zBb (λk=>val s.l k s.now) cur):(zFv (zGf s) (s.given+1) noB noB).2.why=0/\(zFv (zGf s) (s.given+1) noB noB).2.pairs=cur:=by
 have ht:(zGf s).tx (s.given+1)=some (zHS s):=by show upd s.tx _ _ _=_;rw [zAY]
 unfold zFv
 rw [zBL ht]
 unfold zKw
 rw [if_neg (by simp [zHS])]
 refine ⟨rfl,?_⟩
 show zJI _=_
 refine zKO ?_
 rw [zNS]
 exact hc
theorem zN5 (s:St):(zBp s).2.why=0/\zBp s=(zGf s,{ans0 with tx:=s.given+1})/\cnt s.tx<16∨(zBp s).2.why=3:=by
 unfold zBp
 split
 ·exact .inr rfl
 ·exact .inl ⟨rfl,rfl,by omega⟩
theorem zOo {w:World} {x0 x1:Sl} {l:List Pai} {steps:List yK} (h:zIE w x0 l) (h1:zR4 w x1 steps)
  (hbeg:∀ (k:Bool->World->Prop),(∀ w',Bel w w'->k true w')->Cl zA zFy [].toArray w (λe w'=>∃ r0:Bool,e=.returned (.bool r0)/\k r0 w')):
  Cl zA zHd [Sl.v x0,Sl.v x1].toArray w (λe w'=>∃ r0:Bool,e=.returned (.bool r0)/\(r0=true/\Bel w w')):=by
 refine zHU x0 x1 w (λb w'=>b=true/\Bel w w') ?_
 have hbig:=h1.big;have hcap:=h1.cap;have hlen:=h1.len
 unfold zDs
 refine hbeg _ λw1 b1=>⟨λh=>(nomatch h),λ_=>?_⟩
 refine zSD (h.bel b1) (λw2 he b2=>⟨λ_=>?_,λh=>absurd he h⟩) λb ρ w2 he hI hv b2 m2 hρ=>⟨λh=>absurd rfl h,λ_=>zKN _ ?_⟩
 ·unfold Zf
  refine ⟨λ_=>⟨λ_=>zKN none ?_,λh=>absurd he h⟩,λh=>(nomatch h)⟩
  exact ⟨rfl,b1.trans b2⟩
 have hl4:=zOd he
 have b02:=b1.trans b2
 have hρ0:∀ q,q<w.heap.size->ρ q=none:=λq hq=>hρ q (QR hq b1.le)
 unfold Zf
 refine ⟨λh=>(nomatch h),λ_=>?_⟩
 have b3:=Bel.alloc w2 (.cells #[] zBA)
 refine ⟨_,_,zHe w2,?_⟩
 refine zNb (w0:=w2) (OwnS.lit0 (zV _)) ((h.bel b02).bel b3) b3 (zV _) (by rw [size_alloc'];omega) (by simp;omega) λx7 w3 hO3 b23 _=>?_
 rw [List.nil_append] at hO3
 have m3:=m2.bel b23
 refine ⟨λa i W=>∃ (j:Nat) (ρ':Own) (s:St) (cur:List Pai),i=(j:Int)/\j<=steps.length/\Mgr ρ' W b s/\Inv s/\Ext ρ w2 ρ' W/\s.now<=1+j/\s.given<=j/\zBb (λk=>val s.l k s.now) cur/\Q8 w2.heap.size W a cur/\(∀ q,(Sl.v a).ownBlock=some q->ρ' q=none),λ_ i _=>(x1.len - i).toNat,
  ⟨0,ρ,newS l,l,rfl,by omega,m3,hI,Ext.bel b23,by show (1:Int)<=1+(0:Nat);decide,by show (0:Int)<=(0:Nat);decide,hv,hO3,λq hq=>m2.new (hO3.lo hq)⟩,?_⟩
 rintro a i W ⟨j,ρ',s,cur,rfl,hj,hM,hIs,hE,hnow,hgiv,hcur,hO,hOρ⟩
 have hbW:Bel w W:=hE.base b02 hρ0
 have hn1:s.now+1<=maxT:=by unfold maxT;omega
 have hgl:=hIs.good.len
 have hcl:=zN9 hIs.good hcur
 unfold zA2
 refine ⟨λhc=>?_,λhc=>?_⟩
 ·obtain ⟨st,hst⟩:=getE (l:=steps) (n:=j) (by omega)
  refine zE2 (h1.bel hbW) zJV zJa (by omega) (x:=st) (by simpa using hst) λad hA=>?_
  refine zAs zGL st rfl hA rfl ?_
  refine zBo zKA rfl zGL (cs:=st.cells) rfl rfl rfl λX W1 b5 hX hX0=>?_
  refine zAs zGL st rfl hX.at rfl ?_
  refine zRL (hM.bel b5) hIs (by omega) (by omega) st λy ρ2 W2 hM2 hE2 hy=>?_
  have heff:=zPq hIs hn1 st
  have hnn:=zPh heff
  have hI':=zNU hIs hn1 heff
  obtain ⟨hall,hno,hdl⟩:=zP5 hIs hn1 heff hcur
  have ey:=hy.why
  have hd2:=hy.done
  generalize (doS s st).1=s' at hM2 heff hnn hI' hall
  generalize (doS s st).2.done=ds at hall hno hdl hd2
  generalize (doS s st).2.why=e' at hno ey
  obtain ⟨hO2,hOρ2⟩:=(hO.bel b5).ext hOρ hE2
  refine zBo zFV rfl zCN (cs:=y.cells) rfl (zP8 y) rfl λY W3 b6 hY hY0=>?_
  refine yO ZC zBa hY.at y.Why rfl ?_
  have hE3:=((hE.trans (Ext.bel b5)).trans hE2).trans (Ext.bel b6)
  have hM3:=hM2.bel b6
  have J4:∀ (r9:Sl) (W4:World),Bel W3 W4->Q8 w2.heap.size W4 r9 (allL cur ds)->(∀ q,(Sl.v r9).ownBlock=some q->ρ2 q=none)->
    Zd (λb w'=>b=true/\Bel w w') (ptrA b) (j:Int) (λa' i' w'=>(∃ (j:Nat) (ρ':Own) (s:St) (cur:List Pai),i'=(j:Int)/\j<=steps.length/\Mgr ρ' w' b s/\Inv s/\Ext ρ w2 ρ' w'/\s.now<=1+j/\s.given<=j/\zBb (λk=>val s.l k s.now) cur/\Q8 w2.heap.size w' a' cur/\(∀ q,(Sl.v a').ownBlock=some q->ρ' q=none))/\(x1.len - i').toNat<(x1.len - (j:Int)).toNat) r9 W4:=by
   intro r9 W4 b34 hO4 hρ4
   unfold Zd
   have hM4:=hM3.bel b34
   obtain ⟨vs,mb,g,m4⟩:=hM4
   have hgl':=hI'.good.len
   refine zL5 m4 (by omega) λr3 W5 hv5 b45=>?_
   refine zQu (m4.bel b45) ?_
   refine zL3 (x0:=⟨r3,s'.low⟩) (Y9.rd hv5) noB noB s'.now λr5 W6 base hb hbw hO6 b56=>?_
   have hvs:zHt s'.l s'.low noB noB s'.now=(zBq s'.l noB noB s'.now s'.l.length,0):=by
    unfold zHt
    rw [if_neg (by rw [zGm.2 ⟨hI'.good,hI'.lonow⟩];decide)]
   replace hO6:Q8 base W6 r5 (zHt s'.l s'.low noB noB s'.now).1:=hO6
   have e6:(zHt (s'.l) (zP.Low ⟨r3,s'.low⟩) noB noB s'.now).2=0:=by
    show (zHt s'.l s'.low noB noB s'.now).2=0
    rw [hvs]
   rw [hvs] at hO6
   replace hO6:Q8 base W6 r5 (zBq s'.l noB noB s'.now s'.l.length):=hO6
   rw [← hall.one (zMB hI'.good s'.now)] at hO6
   refine ⟨λh=>absurd e6 h,λ_=>?_⟩
   have b46:=b45.trans b56
   refine zL2 (Q8.rd hO6) (Q8.rd (hO4.bel b46)) λc W7 hc7 b67=>?_
   have hct:c=true:=hc7.2 rfl
   rw [hct]
   unfold zAZ
   refine ⟨λh=>(nomatch h),λ_=>?_⟩
   rw [wr64 (by omega) (by omega)]
   have b47:=b46.trans b67
   exact ⟨⟨j+1,ρ2,s',allL cur ds,by omega,by omega,⟨vs,mb,g,m4.bel b47⟩,hI',hE3.trans (Ext.bel (b34.trans b47)),by omega,by omega,hall,hO4.bel b47,hρ4⟩,by omega⟩
  refine ⟨λhz=>?_,λhz=>?_⟩
  ·refine yO zFQ zCl hY.at y.Done rfl ?_
   refine zPy (Q8.rd (hO2.bel b6)) (zDE.rd (hd2.bel b6)) (by omega) λr9 W4 hO4 b34=>?_
   have hsz:w2.heap.size<=W3.heap.size:=hE3.out.size
   exact J4 r9 W4 b34 (hO4.low hsz) λq hq=>hM3.new (hO4.lo hq)
  ·have hnil:ds=[]:=hno (by rw [← ey];exact hz)
   subst hnil
   exact J4 a W3 (Bel.refl _) (hO2.bel b6) hOρ2
 ·refine zNn hM hIs (by omega) λρ2 W2 hM2 hE2=>?_
  have hbW2:Bel w W2:=(hE.trans hE2).base b02 hρ0
  rcases zN5 s with ⟨h0,hb,hcn⟩|h3
  ·rw [hb] at hM2 ⊢
   simp only at hM2 ⊢
   refine ⟨λh=>absurd rfl h,λ_=>?_⟩
   have hI2:=zK0 hIs hcn
   obtain ⟨hs1,hs2⟩:=zO5 hI2 hIs.free hcur
   obtain ⟨hO2,hOρ2⟩:=hO.ext hOρ hE2
   refine zOy hM2 hI2 (s.given+1) noB noB λr ρ3 W3 hM3 hE3 hO3 hρ3=>?_
   obtain ⟨hO3',hOρ3⟩:=hO2.ext hOρ2 hE3
   rw [hs2] at hO3
   rw [hs1]
   refine ⟨λ_=>?_,λh=>absurd rfl h⟩
   refine zL2 (Q8.rd hO3) (Q8.rd hO3') λc W4 hc4 b4=>?_
   unfold zAa
   exact ⟨hc4.2 rfl,(((hE.trans hE2).trans hE3).base b02 hρ0).trans b4⟩
  ·refine ⟨λ_=>⟨decide_eq_true h3,hbW2⟩,λh=>absurd (by rw [h3];decide) h⟩
end Go.Proofs.YtealcoghiaeiiaaGreatDoor.VG
set_option linter.unusedVariables false
set_option linter.unusedSimpArgs false
namespace Go.Proofs.YtealcoghiaeiiaaGreatDoor.VG
open Go.VB Go.Proofs
def zEs (w:World) (Ret:Bool->World->Prop):Prop:=
 Cl zA 14 [(.int .i64 (-5))].toArray w (λe w=>∃ (r:ByteArray),e=.returned (.string r)/\(Ret (decide (r=(ByteArray.mk #[45,48,46,48,53]))) w))
set_option maxRecDepth 100000 in
theorem zIP (w:World) (Ret:Bool->World->Prop) (H:zEs w Ret):Cl zA 4 [].toArray w (λe w'=>∃ (r0:Bool),e=.returned (.bool r0)/\Ret r0 w'):=by
 unfold zEs at H
 refine zf 3 (zipE 0 []) Tryz.func4 rfl rfl (by rfl) rfl ?_
 intro a g
 replace g:Sat [] 3 [] a:=g
 refine zJ (zD (g.as_ rfl λ_ g=>(zL (tn (zJ (zD (g.call (zZ g zRK rfl rfl) H λe w H=>?_)))))))
 obtain ⟨r,rfl,H⟩:=H
 exact ⟨_,rfl,λ_ g=>(g.pur (zLw g rfl rfl) λ_ g=>(g.as_ rfl λ_ g=>(zL (tn (zd (zp g rfl rfl ⟨_,rfl,H⟩))))))⟩
def zG7 (x0:Int) (w:World) (Ret:ByteArray->World->Prop):Prop:=
 Cl zA 34 [(.int .i64 x0)].toArray w (λe w=>∃ (r:Int),e=.returned (.int .u64 r)/\(opE zA (zU .u64) (binOp .rem 33 (.int .u64 r) (.int .u64 100)) w (λx9 w=>Cl zA 35 [(.int .u64 (zB .u64 (x9+100))),(.int .i64 10)].toArray w (λe w=>∃ (r_1:ByteArray),e=.returned (.string r_1)/\(opE zA zY (Instr.sliceAt 9 (.string r_1) (some (.int .i64 1)) none none) w (λx12 w=>opE zA (zU .u64) (binOp .quo 33 (.int .u64 r) (.int .u64 100)) w (λx14 w=>Cl zA 35 [(.int .u64 x14),(.int .i64 10)].toArray w (λe w=>∃ (r_2:ByteArray),e=.returned (.string r_2)/\(opE zA zY (binOp .add 9 (.string r_2) (.string (ByteArray.mk #[46]))) w (λx16 w=>opE zA zY (binOp .add 9 (.string x16) (.string x12)) w (λx18 w=>((x0<0)->(opE zA zY (binOp .add 9 (.string (ByteArray.mk #[45])) (.string x18)) w (λx22 w=>Ret x22 w)))/\(¬ (x0<0)->(Ret x18 w)))))))))))))
set_option maxRecDepth 100000 in
theorem zKd (x0:Int) (w:World) (Ret:ByteArray->World->Prop) (H:zG7 x0 w Ret):Cl zA 14 [(.int .i64 x0)].toArray w (λe w'=>∃ (r0:ByteArray),e=.returned (.string r0)/\Ret r0 w'):=by
 unfold zG7 at H
 refine zf 24 (zipE 0 [(.int .i64 x0)]) Tryz.func14 rfl rfl (by rfl) rfl ?_
 intro a g
 replace g:Sat [] 24 [(0,(.int .i64 x0))] a:=g
 refine zJ (zD (g.as_ rfl λ_ g=>zL (tn (zJ (zD (g.mv rfl λ_ g=>g.call (zZ g zRx rfl rfl) H λe w H=>?_))))))
 obtain ⟨r,rfl,H⟩:=H
 refine ⟨_,rfl,λ_ g=>(g.as_ rfl λ_ g=>zL (tn (zJ (zD (g.mv rfl λ_ g=>g.op (xN g rfl rfl) H λx9 w a H g=>g.pur (zm g rfl rfl) λ_ g=>g.call (zZ g zQd rfl rfl) H λe w H=>?_)))))⟩
 obtain ⟨r_1,rfl,H⟩:=H
 refine ⟨_,rfl,λ_ g=>(g.op (zFi g rfl rfl rfl rfl) H λx12 w a H g=>g.as_ rfl λ_ g=>zL (tn (zJ (zD (g.mv rfl λ_ g=>g.op (xN g rfl rfl) H λx14 w a H g=>g.call (zZ g zQd rfl rfl) H λe w H=>?_)))))⟩
 obtain ⟨r_2,rfl,H⟩:=H
 refine ⟨_,rfl,λ_ g=>(g.op (xN g rfl rfl) H λx16 w a H g=>g.mv rfl λ_ g=>g.op (xN g rfl rfl) H λx18 w a H g=>g.as_ rfl λ_ g=>zL (tn (zJ (zJ (zD (g.mv rfl λ_ g=>g.pur (yV g rfl rfl) λ_ g=>zL (tn (za g rfl (λhc=>?_) (λhc=>?_)))))))))⟩
 ·replace H:=H.1 hc
  exact zJ (zD (g.mv rfl λ_ g=>g.op (xN g rfl rfl) H λx22 w a H g=>g.as_ rfl λ_ g=>zL (tn (zd (tr (zp g rfl rfl ⟨_,rfl,H⟩))))))
 ·replace H:=H.2 hc
  exact zW (tn (zJ (zD (g.mv rfl λ_ g=>g.as_ rfl λ_ g=>zL (tn (zd (zp g rfl rfl ⟨_,rfl,H⟩)))))))
def zG6 (x0:Int) (w:World) (Ret:Int->World->Prop):Prop:=
 ((x0<0)->(opE zA (zU .u64) (Go.convert 2 33 (.int .i64 x0)) w (λx6 w=>opE zA (zU .u64) (Op.unary .neg (.int .u64 x6)) w (λx7 w=>Ret x7 w))))/\(¬ (x0<0)->(opE zA (zU .u64) (Go.convert 2 33 (.int .i64 x0)) w (λx9 w=>Ret x9 w)))
set_option maxRecDepth 100000 in
theorem zKi (x0:Int) (w:World) (Ret:Int->World->Prop) (H:zG6 x0 w Ret):Cl zA 34 [(.int .i64 x0)].toArray w (λe w'=>∃ (r0:Int),e=.returned (.int .u64 r0)/\Ret r0 w'):=by
 unfold zG6 at H
 refine zf 10 (zipE 0 [(.int .i64 x0)]) Tryz.func34 rfl rfl (by rfl) rfl ?_
 intro a g
 replace g:Sat [] 10 [(0,(.int .i64 x0))] a:=g
 refine zJ (zD (g.as_ rfl λ_ g=>zL (tn (zJ (zJ (zD (g.mv rfl λ_ g=>g.pur (yV g rfl rfl) λ_ g=>zL (tn (za g rfl (λhc=>?_) (λhc=>?_))))))))))
 ·replace H:=H.1 hc
  exact zJ (zD (g.mv rfl λ_ g=>g.op (ZO g rfl) H λx6 w a H g=>g.op (zST g rfl) H λx7 w a H g=>g.as_ rfl λ_ g=>zL (tn (zd (tr (zp g rfl rfl ⟨_,rfl,H⟩))))))
 ·replace H:=H.2 hc
  exact zW (tn (zJ (zD (g.mv rfl λ_ g=>g.op (ZO g rfl) H λx9 w a H g=>g.as_ rfl λ_ g=>zL (tn (zd (zp g rfl rfl ⟨_,rfl,H⟩)))))))
def zBE (x0:Int) (x1:Int) (w:World) (Ret:ByteArray->World->Prop):Prop:=
 Cl zA 50 [(.int .u64 x0),(.int .i64 x1)].toArray w (λe w=>∃ (r:ByteArray),e=.returned (.string r)/\(Ret r w))
set_option maxRecDepth 100000 in
theorem zEd (x0:Int) (x1:Int) (w:World) (Ret:ByteArray->World->Prop) (H:zBE x0 x1 w Ret):Cl zA 35 [(.int .u64 x0),(.int .i64 x1)].toArray w (λe w'=>∃ (r0:ByteArray),e=.returned (.string r0)/\Ret r0 w'):=by
 unfold zBE at H
 refine zf 8 (zipE 0 [(.int .u64 x0),(.int .i64 x1)]) Tryz.func35 rfl rfl (by rfl) rfl ?_
 intro a g
 replace g:Sat [] 8 [(0,(.int .u64 x0)),(1,(.int .i64 x1))] a:=g
 refine zJ (zD (g.as_ rfl λ_ g=>(zL (tn (zJ (zD (g.mv rfl λ_ g=>(g.mv rfl λ_ g=>(g.call (zZ g zRE rfl rfl) H λe w H=>?_)))))))))
 obtain ⟨r,rfl,H⟩:=H
 exact ⟨_,rfl,λ_ g=>(g.as_ rfl λ_ g=>(zL (tn (zd (zp g rfl rfl ⟨_,rfl,H⟩)))))⟩
def zBG (x0:Int) (x1:Int) (w:World) (Ret:ByteArray->World->Prop):Prop:=
 ((x1=10)->(((x0<100)->(opE zA (zU .i64) (Go.convert 33 3 (.int .u64 x0)) w (λx14 w=>Cl zA 74 [(.int .i64 x14)].toArray w (λe w=>∃ (r:ByteArray),e=.returned (.string r)/\(Ret r w)))))/\(¬ (x0<100)->(opE zA zC (ze 135 true (.tuple #[])) w (λx5 w=>Cl zA 75 [(.int .u64 x0)].toArray w (λe w=>∃ (r_1:Int),e=.returned (.int .i64 r_1)/\(opE zA Sl.v (Instr.sliceAt 135 (.pointer x5) none (some (.int .i64 r_1)) none) w (λx19 w=>Cl zA 76 [(Sl.v x19),(.int .u64 x0)].toArray w (λe w=>e=.returned (.tuple [].toArray)/\(opE zA Sl.v (Instr.sliceAt 135 (.pointer x5) none (some (.int .i64 r_1)) none) w (λx23 w=>opE zA zY (Go.convert 137 9 (Sl.v x23)) w (λx24 w=>Ret x24 w))))))))))))/\(¬ (x1=10)->(Cl zA 77 [(Sl.v Sl.none),(.int .u64 x0),(.int .i64 x1),(.bool false),(.bool false)].toArray w (λe w=>∃ (r_2:Sl) (r_3:ByteArray),e=.returned (.tuple [(Sl.v r_2),(.string r_3)].toArray)/\(Ret r_3 w))))
set_option maxRecDepth 100000 in
theorem zEi (x0:Int) (x1:Int) (w:World) (Ret:ByteArray->World->Prop) (H:zBG x0 x1 w Ret):Cl zA 50 [(.int .u64 x0),(.int .i64 x1)].toArray w (λe w'=>∃ (r0:ByteArray),e=.returned (.string r0)/\Ret r0 w'):=by
 unfold zBG at H
 refine zf 32 (zipE 0 [(.int .u64 x0),(.int .i64 x1)]) Tryz.func50 rfl rfl (by rfl) rfl ?_
 intro a g
 replace g:Sat [] 32 [(0,(.int .u64 x0)),(1,(.int .i64 x1))] a:=g
 refine zJ (zD (g.as_ rfl λ_ g=>zL (tn (zJ (zJ (zD (g.mv rfl λ_ g=>g.pur (zA1 g rfl rfl) λ_ g=>zL (tn (za g rfl (λhc=>?_) (λhc=>?_))))))))))
 ·replace H:=H.1 hc
  refine zJ (zJ (zD (g.mv rfl λ_ g=>g.pur (yV g rfl rfl) λ_ g=>zL (tn (za g rfl (λhc=>?_) (λhc=>?_))))))
  ·replace H:=H.1 hc
   refine zJ (zD (g.mv rfl λ_ g=>g.op (ZO g rfl) H λx14 w a H g=>g.call (zZ g zSF rfl rfl) H λe w H=>?_))
   obtain ⟨r,rfl,H⟩:=H
   exact ⟨_,rfl,λ_ g=>(g.as_ rfl λ_ g=>zL (tn (zd (tr (tr (zp g rfl rfl ⟨_,rfl,H⟩))))))⟩
  ·replace H:=H.2 hc
   refine zW (tn (zJ (zD (g.op (QP) H λx5 w a H g=>zL (tn (zJ (zD (g.mv rfl λ_ g=>g.call (zZ g zSI rfl rfl) H λe w H=>?_))))))))
   obtain ⟨r_1,rfl,H⟩:=H
   refine ⟨_,rfl,λ_ g=>(g.as_ rfl λ_ g=>zL (tn (zJ (zD (g.mv rfl λ_ g=>g.op (zFi g rfl rfl rfl rfl) H λx19 w a H g=>g.mv rfl λ_ g=>g.call (zZ g zRD rfl rfl) H λe w H=>?_)))))⟩
   obtain ⟨rfl,H⟩:=H
   exact ⟨_,rfl,λ_ g=>(zL (tn (zJ (zD (g.mv rfl λ_ g=>g.op (zFi g rfl rfl rfl rfl) H λx23 w a H g=>g.op (ZO g rfl) H λx24 w a H g=>g.as_ rfl λ_ g=>zL (tn (zd (tr (zp g rfl rfl ⟨_,rfl,H⟩)))))))))⟩
 ·replace H:=H.2 hc
  refine zW (tn (zJ (zD (g.mv rfl λ_ g=>g.mv rfl λ_ g=>g.call (zZ g zRR rfl rfl) H λe w H=>?_))))
  obtain ⟨r_2,r_3,rfl,H⟩:=H
  exact ⟨_,rfl,λ_ g=>(g.mv rfl λ_ g=>g.pur (zb g rfl rfl) λ_ g=>g.pur (zb g rfl rfl) λ_ g=>g.as_ rfl λ_ g=>g.as_ rfl λ_ g=>zL (tn (zJ (zD (g.mv rfl λ_ g=>g.as_ rfl λ_ g=>zL (tn (zd (zp g rfl rfl ⟨_,rfl,H⟩))))))))⟩
def zFp (x0:Int) (w:World) (Ret:ByteArray->World->Prop):Prop:=
 ((x0<10)->(opE zA zY (Instr.sliceAt 9 (.string (ByteArray.mk #[48,49,50,51,52,53,54,55,56,57,97,98,99,100,101,102,103,104,105,106,107,108,109,110,111,112,113,114,115,116,117,118,119,120,121,122])) (some (.int .i64 x0)) (some (.int .i64 (zB .i64 (x0+1)))) none) w (λx8 w=>Ret x8 w)))/\(¬ (x0<10)->(opE zA zY (Instr.sliceAt 9 (.string (ByteArray.mk #[48,48,48,49,48,50,48,51,48,52,48,53,48,54,48,55,48,56,48,57,49,48,49,49,49,50,49,51,49,52,49,53,49,54,49,55,49,56,49,57,50,48,50,49,50,50,50,51,50,52,50,53,50,54,50,55,50,56,50,57,51,48,51,49,51,50,51,51,51,52,51,53,51,54,51,55,51,56,51,57,52,48,52,49,52,50,52,51,52,52,52,53,52,54,52,55,52,56,52,57,53,48,53,49,53,50,53,51,53,52,53,53,53,54,53,55,53,56,53,57,54,48,54,49,54,50,54,51,54,52,54,53,54,54,54,55,54,56,54,57,55,48,55,49,55,50,55,51,55,52,55,53,55,54,55,55,55,56,55,57,56,48,56,49,56,50,56,51,56,52,56,53,56,54,56,55,56,56,56,57,57,48,57,49,57,50,57,51,57,52,57,53,57,54,57,55,57,56,57,57])) (some (.int .i64 (zB .i64 (x0*2)))) (some (.int .i64 (zB .i64 ((zB .i64 (x0*2))+2)))) none) w (λx14 w=>Ret x14 w)))
set_option maxRecDepth 100000 in
theorem zJg (x0:Int) (w:World) (Ret:ByteArray->World->Prop) (H:zFp x0 w Ret):Cl zA 74 [(.int .i64 x0)].toArray w (λe w'=>∃ (r0:ByteArray),e=.returned (.string r0)/\Ret r0 w'):=by
 unfold zFp at H
 refine zf 15 (zipE 0 [(.int .i64 x0)]) Tryz.func74 rfl rfl (by rfl) rfl ?_
 intro a g
 replace g:Sat [] 15 [(0,(.int .i64 x0))] a:=g
 refine zJ (zD (g.as_ rfl λ_ g=>zL (tn (zJ (zJ (zD (g.mv rfl λ_ g=>g.pur (yV g rfl rfl) λ_ g=>zL (tn (za g rfl (λhc=>?_) (λhc=>?_))))))))))
 ·replace H:=H.1 hc
  exact zJ (zD (g.mv rfl λ_ g=>g.mv rfl λ_ g=>g.pur (zm g rfl rfl) λ_ g=>g.op (zFi g rfl rfl rfl rfl) H λx8 w a H g=>g.as_ rfl λ_ g=>zL (tn (zd (tr (zp g rfl rfl ⟨_,rfl,H⟩))))))
 ·replace H:=H.2 hc
  exact zW (tn (zJ (zD (g.mv rfl λ_ g=>g.pur (zCE g rfl rfl) λ_ g=>g.mv rfl λ_ g=>g.pur (zCE g rfl rfl) λ_ g=>g.pur (zm g rfl rfl) λ_ g=>g.op (zFi g rfl rfl rfl rfl) H λx14 w a H g=>g.as_ rfl λ_ g=>zL (tn (zd (zp g rfl rfl ⟨_,rfl,H⟩)))))))
def zER (x0:Int) (w:World) (Ret:Int->World->Prop):Prop:=
 Cl zA 73 [(.int .u64 x0)].toArray w (λe w=>∃ (r:Int),e=.returned (.int .i64 r)/\(Cl zA 92 [(.int .i64 r)].toArray w (λe w=>∃ (r_1:Int),e=.returned (.int .i64 r_1)/\(opE zA zC (zF 159 (.pointer (some ⟨0,0,none⟩)) (.int .i64 r_1)) w (λx10 w=>opE zA (zU .u64) (zE 33 (.pointer x10)) w (λx11 w=>Cl zA 93 [(.bool (decide (x11<=x0)))].toArray w (λe w=>∃ (r_2:Int),e=.returned (.int .i64 r_2)/\(Ret (zB .i64 (r_1+r_2)) w))))))))
set_option maxRecDepth 100000 in
theorem zHl (x0:Int) (w:World) (Ret:Int->World->Prop) (H:zER x0 w Ret):Cl zA 75 [(.int .u64 x0)].toArray w (λe w'=>∃ (r0:Int),e=.returned (.int .i64 r0)/\Ret r0 w'):=by
 unfold zER at H
 refine zf 15 (zipE 0 [(.int .u64 x0)]) Tryz.func75 rfl rfl (by rfl) rfl ?_
 intro a g
 replace g:Sat [] 15 [(0,(.int .u64 x0))] a:=g
 refine zJ (zD (g.as_ rfl λ_ g=>zL (tn (zJ (zD (g.mv rfl λ_ g=>g.call (zZ g zQb rfl rfl) H λe w H=>?_))))))
 obtain ⟨r,rfl,H⟩:=H
 refine ⟨_,rfl,λ_ g=>(g.call (zZ g zSC rfl rfl) H λe w H=>?_)⟩
 obtain ⟨r_1,rfl,H⟩:=H
 refine ⟨_,rfl,λ_ g=>(g.as_ rfl λ_ g=>zL (tn (zJ (zD (g.mv rfl λ_ g=>g.mv rfl λ_ g=>g.mv rfl λ_ g=>g.op (zH g rfl rfl) H λx10 w a H g=>g.op (zO g rfl) H λx11 w a H g=>g.pur (ZB g rfl rfl) λ_ g=>g.call (zZ g zSJ rfl rfl) H λe w H=>?_)))))⟩
 obtain ⟨r_2,rfl,H⟩:=H
 exact ⟨_,rfl,λ_ g=>(g.pur (zm g rfl rfl) λ_ g=>g.as_ rfl λ_ g=>zL (tn (zd (zp g rfl rfl ⟨_,rfl,H⟩))))⟩
def Z3 (x0:Sl) (Ret:World->Prop) (x4_2:Int) (x12_1:Int) (w:World):Prop:=
 ((0<x4_2)->(opE zA (zU .u8) (Go.convert 132 5 (.int .u32 (zB .u32 (48+x12_1)))) w (λx165 w=>opE zA zC (zF 137 (Sl.v x0) (.int .i64 0)) w (λx166 w=>opU zA (zI 5 (.pointer x166) (.int .u8 x165)) w (λw=>Ret w)))))/\(¬ (0<x4_2)->(Ret w))
def Z8 (x0:Sl) (Ret:World->Prop) (x4_1:Int) (x12:Int) (w:World):Prop:=
 ((2<=x4_1)->(opE zA (zU .u32) (binOp .rem 132 (.int .u32 x12) (.int .u32 100)) w (λx141 w=>opE zA (zU .u32) (binOp .quo 132 (.int .u32 x12) (.int .u32 100)) w (λx144 w=>yF w (λw=>opP zA (zU .u8) (Instr.index 9 (.string (ByteArray.mk #[48,48,48,49,48,50,48,51,48,52,48,53,48,54,48,55,48,56,48,57,49,48,49,49,49,50,49,51,49,52,49,53,49,54,49,55,49,56,49,57,50,48,50,49,50,50,50,51,50,52,50,53,50,54,50,55,50,56,50,57,51,48,51,49,51,50,51,51,51,52,51,53,51,54,51,55,51,56,51,57,52,48,52,49,52,50,52,51,52,52,52,53,52,54,52,55,52,56,52,57,53,48,53,49,53,50,53,51,53,52,53,53,53,54,53,55,53,56,53,57,54,48,54,49,54,50,54,51,54,52,54,53,54,54,54,55,54,56,54,57,55,48,55,49,55,50,55,51,55,52,55,53,55,54,55,55,55,56,55,57,56,48,56,49,56,50,56,51,56,52,56,53,56,54,56,55,56,56,56,57,57,48,57,49,57,50,57,51,57,52,57,53,57,54,57,55,57,56,57,57])) (.int .u32 (zB .u32 ((zB .u32 (x141*2))+1)))) (λx153=>opP zA (zU .u8) (Instr.index 9 (.string (ByteArray.mk #[48,48,48,49,48,50,48,51,48,52,48,53,48,54,48,55,48,56,48,57,49,48,49,49,49,50,49,51,49,52,49,53,49,54,49,55,49,56,49,57,50,48,50,49,50,50,50,51,50,52,50,53,50,54,50,55,50,56,50,57,51,48,51,49,51,50,51,51,51,52,51,53,51,54,51,55,51,56,51,57,52,48,52,49,52,50,52,51,52,52,52,53,52,54,52,55,52,56,52,57,53,48,53,49,53,50,53,51,53,52,53,53,53,54,53,55,53,56,53,57,54,48,54,49,54,50,54,51,54,52,54,53,54,54,54,55,54,56,54,57,55,48,55,49,55,50,55,51,55,52,55,53,55,54,55,55,55,56,55,57,56,48,56,49,56,50,56,51,56,52,56,53,56,54,56,55,56,56,56,57,57,48,57,49,57,50,57,51,57,52,57,53,57,54,57,55,57,56,57,57])) (.int .u32 (zB .u32 (x141*2)))) (λx155=>opP zA zC (zF 137 (Sl.v x0) (.int .i64 (zB .i64 (x4_1 - 1)))) (λx156=>opU zA (zI 5 (.pointer x156) (.int .u8 x153)) w (λw=>opP zA zC (zF 137 (Sl.v x0) (.int .i64 (zB .i64 (x4_1 - 2)))) (λx157=>opU zA (zI 5 (.pointer x157) (.int .u8 x155)) w (λw=>Z3 x0 Ret (zB .i64 (x4_1 - 2)) x144 w)))))))))))/\(¬ (2<=x4_1)->(Z3 x0 Ret x4_1 x12 w))
def zAo (x0:Sl) (Ret:World->Prop) (x1_1:Int) (x4:Int) (w:World) (Kl1:Int->Int->World->Prop):Prop:=
 ((8<=x4)->(opE zA (zU .u64) (binOp .rem 33 (.int .u64 x1_1) (.int .u64 100000000)) w (λx22 w=>opE zA (zU .u32) (Go.convert 33 132 (.int .u64 x22)) w (λx23 w=>opE zA (zU .u64) (binOp .quo 33 (.int .u64 x1_1) (.int .u64 100000000)) w (λx25 w=>opE zA (zU .u32) (binOp .quo 132 (.int .u32 x23) (.int .u32 10000)) w (λx27 w=>opE zA (zU .u32) (binOp .rem 132 (.int .u32 x23) (.int .u32 10000)) w (λx29 w=>opE zA (zU .u32) (binOp .quo 132 (.int .u32 x29) (.int .u32 100)) w (λx31 w=>opE zA (zU .u32) (binOp .rem 132 (.int .u32 x29) (.int .u32 100)) w (λx34 w=>opE zA (zU .u32) (binOp .quo 132 (.int .u32 x27) (.int .u32 100)) w (λx37 w=>opE zA (zU .u32) (binOp .rem 132 (.int .u32 x27) (.int .u32 100)) w (λx40 w=>yF w (λw=>opP zA (zU .u8) (Instr.index 9 (.string (ByteArray.mk #[48,48,48,49,48,50,48,51,48,52,48,53,48,54,48,55,48,56,48,57,49,48,49,49,49,50,49,51,49,52,49,53,49,54,49,55,49,56,49,57,50,48,50,49,50,50,50,51,50,52,50,53,50,54,50,55,50,56,50,57,51,48,51,49,51,50,51,51,51,52,51,53,51,54,51,55,51,56,51,57,52,48,52,49,52,50,52,51,52,52,52,53,52,54,52,55,52,56,52,57,53,48,53,49,53,50,53,51,53,52,53,53,53,54,53,55,53,56,53,57,54,48,54,49,54,50,54,51,54,52,54,53,54,54,54,55,54,56,54,57,55,48,55,49,55,50,55,51,55,52,55,53,55,54,55,55,55,56,55,57,56,48,56,49,56,50,56,51,56,52,56,53,56,54,56,55,56,56,56,57,57,48,57,49,57,50,57,51,57,52,57,53,57,54,57,55,57,56,57,57])) (.int .u32 (zB .u32 ((zB .u32 (x34*2))+1)))) (λx50=>opP zA (zU .u8) (Instr.index 9 (.string (ByteArray.mk #[48,48,48,49,48,50,48,51,48,52,48,53,48,54,48,55,48,56,48,57,49,48,49,49,49,50,49,51,49,52,49,53,49,54,49,55,49,56,49,57,50,48,50,49,50,50,50,51,50,52,50,53,50,54,50,55,50,56,50,57,51,48,51,49,51,50,51,51,51,52,51,53,51,54,51,55,51,56,51,57,52,48,52,49,52,50,52,51,52,52,52,53,52,54,52,55,52,56,52,57,53,48,53,49,53,50,53,51,53,52,53,53,53,54,53,55,53,56,53,57,54,48,54,49,54,50,54,51,54,52,54,53,54,54,54,55,54,56,54,57,55,48,55,49,55,50,55,51,55,52,55,53,55,54,55,55,55,56,55,57,56,48,56,49,56,50,56,51,56,52,56,53,56,54,56,55,56,56,56,57,57,48,57,49,57,50,57,51,57,52,57,53,57,54,57,55,57,56,57,57])) (.int .u32 (zB .u32 (x34*2)))) (λx52=>opP zA zC (zF 137 (Sl.v x0) (.int .i64 (zB .i64 (x4 - 1)))) (λx53=>opU zA (zI 5 (.pointer x53) (.int .u8 x50)) w (λw=>opP zA zC (zF 137 (Sl.v x0) (.int .i64 (zB .i64 (x4 - 2)))) (λx54=>opU zA (zI 5 (.pointer x54) (.int .u8 x52)) w (λw=>yF w (λw=>opP zA (zU .u8) (Instr.index 9 (.string (ByteArray.mk #[48,48,48,49,48,50,48,51,48,52,48,53,48,54,48,55,48,56,48,57,49,48,49,49,49,50,49,51,49,52,49,53,49,54,49,55,49,56,49,57,50,48,50,49,50,50,50,51,50,52,50,53,50,54,50,55,50,56,50,57,51,48,51,49,51,50,51,51,51,52,51,53,51,54,51,55,51,56,51,57,52,48,52,49,52,50,52,51,52,52,52,53,52,54,52,55,52,56,52,57,53,48,53,49,53,50,53,51,53,52,53,53,53,54,53,55,53,56,53,57,54,48,54,49,54,50,54,51,54,52,54,53,54,54,54,55,54,56,54,57,55,48,55,49,55,50,55,51,55,52,55,53,55,54,55,55,55,56,55,57,56,48,56,49,56,50,56,51,56,52,56,53,56,54,56,55,56,56,56,57,57,48,57,49,57,50,57,51,57,52,57,53,57,54,57,55,57,56,57,57])) (.int .u32 (zB .u32 ((zB .u32 (x31*2))+1)))) (λx63=>opP zA (zU .u8) (Instr.index 9 (.string (ByteArray.mk #[48,48,48,49,48,50,48,51,48,52,48,53,48,54,48,55,48,56,48,57,49,48,49,49,49,50,49,51,49,52,49,53,49,54,49,55,49,56,49,57,50,48,50,49,50,50,50,51,50,52,50,53,50,54,50,55,50,56,50,57,51,48,51,49,51,50,51,51,51,52,51,53,51,54,51,55,51,56,51,57,52,48,52,49,52,50,52,51,52,52,52,53,52,54,52,55,52,56,52,57,53,48,53,49,53,50,53,51,53,52,53,53,53,54,53,55,53,56,53,57,54,48,54,49,54,50,54,51,54,52,54,53,54,54,54,55,54,56,54,57,55,48,55,49,55,50,55,51,55,52,55,53,55,54,55,55,55,56,55,57,56,48,56,49,56,50,56,51,56,52,56,53,56,54,56,55,56,56,56,57,57,48,57,49,57,50,57,51,57,52,57,53,57,54,57,55,57,56,57,57])) (.int .u32 (zB .u32 (x31*2)))) (λx65=>opP zA zC (zF 137 (Sl.v x0) (.int .i64 (zB .i64 (x4 - 3)))) (λx66=>opU zA (zI 5 (.pointer x66) (.int .u8 x63)) w (λw=>opP zA zC (zF 137 (Sl.v x0) (.int .i64 (zB .i64 (x4 - 4)))) (λx67=>opU zA (zI 5 (.pointer x67) (.int .u8 x65)) w (λw=>yF w (λw=>opP zA (zU .u8) (Instr.index 9 (.string (ByteArray.mk #[48,48,48,49,48,50,48,51,48,52,48,53,48,54,48,55,48,56,48,57,49,48,49,49,49,50,49,51,49,52,49,53,49,54,49,55,49,56,49,57,50,48,50,49,50,50,50,51,50,52,50,53,50,54,50,55,50,56,50,57,51,48,51,49,51,50,51,51,51,52,51,53,51,54,51,55,51,56,51,57,52,48,52,49,52,50,52,51,52,52,52,53,52,54,52,55,52,56,52,57,53,48,53,49,53,50,53,51,53,52,53,53,53,54,53,55,53,56,53,57,54,48,54,49,54,50,54,51,54,52,54,53,54,54,54,55,54,56,54,57,55,48,55,49,55,50,55,51,55,52,55,53,55,54,55,55,55,56,55,57,56,48,56,49,56,50,56,51,56,52,56,53,56,54,56,55,56,56,56,57,57,48,57,49,57,50,57,51,57,52,57,53,57,54,57,55,57,56,57,57])) (.int .u32 (zB .u32 ((zB .u32 (x40*2))+1)))) (λx76=>opP zA (zU .u8) (Instr.index 9 (.string (ByteArray.mk #[48,48,48,49,48,50,48,51,48,52,48,53,48,54,48,55,48,56,48,57,49,48,49,49,49,50,49,51,49,52,49,53,49,54,49,55,49,56,49,57,50,48,50,49,50,50,50,51,50,52,50,53,50,54,50,55,50,56,50,57,51,48,51,49,51,50,51,51,51,52,51,53,51,54,51,55,51,56,51,57,52,48,52,49,52,50,52,51,52,52,52,53,52,54,52,55,52,56,52,57,53,48,53,49,53,50,53,51,53,52,53,53,53,54,53,55,53,56,53,57,54,48,54,49,54,50,54,51,54,52,54,53,54,54,54,55,54,56,54,57,55,48,55,49,55,50,55,51,55,52,55,53,55,54,55,55,55,56,55,57,56,48,56,49,56,50,56,51,56,52,56,53,56,54,56,55,56,56,56,57,57,48,57,49,57,50,57,51,57,52,57,53,57,54,57,55,57,56,57,57])) (.int .u32 (zB .u32 (x40*2)))) (λx78=>opP zA zC (zF 137 (Sl.v x0) (.int .i64 (zB .i64 (x4 - 5)))) (λx79=>opU zA (zI 5 (.pointer x79) (.int .u8 x76)) w (λw=>opP zA zC (zF 137 (Sl.v x0) (.int .i64 (zB .i64 (x4 - 6)))) (λx80=>opU zA (zI 5 (.pointer x80) (.int .u8 x78)) w (λw=>yF w (λw=>opP zA (zU .u8) (Instr.index 9 (.string (ByteArray.mk #[48,48,48,49,48,50,48,51,48,52,48,53,48,54,48,55,48,56,48,57,49,48,49,49,49,50,49,51,49,52,49,53,49,54,49,55,49,56,49,57,50,48,50,49,50,50,50,51,50,52,50,53,50,54,50,55,50,56,50,57,51,48,51,49,51,50,51,51,51,52,51,53,51,54,51,55,51,56,51,57,52,48,52,49,52,50,52,51,52,52,52,53,52,54,52,55,52,56,52,57,53,48,53,49,53,50,53,51,53,52,53,53,53,54,53,55,53,56,53,57,54,48,54,49,54,50,54,51,54,52,54,53,54,54,54,55,54,56,54,57,55,48,55,49,55,50,55,51,55,52,55,53,55,54,55,55,55,56,55,57,56,48,56,49,56,50,56,51,56,52,56,53,56,54,56,55,56,56,56,57,57,48,57,49,57,50,57,51,57,52,57,53,57,54,57,55,57,56,57,57])) (.int .u32 (zB .u32 ((zB .u32 (x37*2))+1)))) (λx89=>opP zA (zU .u8) (Instr.index 9 (.string (ByteArray.mk #[48,48,48,49,48,50,48,51,48,52,48,53,48,54,48,55,48,56,48,57,49,48,49,49,49,50,49,51,49,52,49,53,49,54,49,55,49,56,49,57,50,48,50,49,50,50,50,51,50,52,50,53,50,54,50,55,50,56,50,57,51,48,51,49,51,50,51,51,51,52,51,53,51,54,51,55,51,56,51,57,52,48,52,49,52,50,52,51,52,52,52,53,52,54,52,55,52,56,52,57,53,48,53,49,53,50,53,51,53,52,53,53,53,54,53,55,53,56,53,57,54,48,54,49,54,50,54,51,54,52,54,53,54,54,54,55,54,56,54,57,55,48,55,49,55,50,55,51,55,52,55,53,55,54,55,55,55,56,55,57,56,48,56,49,56,50,56,51,56,52,56,53,56,54,56,55,56,56,56,57,57,48,57,49,57,50,57,51,57,52,57,53,57,54,57,55,57,56,57,57])) (.int .u32 (zB .u32 (x37*2)))) (λx91=>opP zA zC (zF 137 (Sl.v x0) (.int .i64 (zB .i64 (x4 - 7)))) (λx92=>opU zA (zI 5 (.pointer x92) (.int .u8 x89)) w (λw=>opP zA zC (zF 137 (Sl.v x0) (.int .i64 (zB .i64 (x4 - 8)))) (λx93=>opU zA (zI 5 (.pointer x93) (.int .u8 x91)) w (λw=>Kl1 x25 (zB .i64 (x4 - 8)) w)))))))))))))))))))))))))))))))))))))))/\(¬ (8<=x4)->(opE zA (zU .u32) (Go.convert 33 132 (.int .u64 x1_1)) w (λx97 w=>((4<=x4)->(opE zA (zU .u32) (binOp .rem 132 (.int .u32 x97) (.int .u32 10000)) w (λx101 w=>opE zA (zU .u32) (binOp .quo 132 (.int .u32 x97) (.int .u32 10000)) w (λx103 w=>opE zA (zU .u32) (binOp .quo 132 (.int .u32 x101) (.int .u32 100)) w (λx105 w=>opE zA (zU .u32) (binOp .rem 132 (.int .u32 x101) (.int .u32 100)) w (λx108 w=>yF w (λw=>opP zA (zU .u8) (Instr.index 9 (.string (ByteArray.mk #[48,48,48,49,48,50,48,51,48,52,48,53,48,54,48,55,48,56,48,57,49,48,49,49,49,50,49,51,49,52,49,53,49,54,49,55,49,56,49,57,50,48,50,49,50,50,50,51,50,52,50,53,50,54,50,55,50,56,50,57,51,48,51,49,51,50,51,51,51,52,51,53,51,54,51,55,51,56,51,57,52,48,52,49,52,50,52,51,52,52,52,53,52,54,52,55,52,56,52,57,53,48,53,49,53,50,53,51,53,52,53,53,53,54,53,55,53,56,53,57,54,48,54,49,54,50,54,51,54,52,54,53,54,54,54,55,54,56,54,57,55,48,55,49,55,50,55,51,55,52,55,53,55,54,55,55,55,56,55,57,56,48,56,49,56,50,56,51,56,52,56,53,56,54,56,55,56,56,56,57,57,48,57,49,57,50,57,51,57,52,57,53,57,54,57,55,57,56,57,57])) (.int .u32 (zB .u32 ((zB .u32 (x108*2))+1)))) (λx118=>opP zA (zU .u8) (Instr.index 9 (.string (ByteArray.mk #[48,48,48,49,48,50,48,51,48,52,48,53,48,54,48,55,48,56,48,57,49,48,49,49,49,50,49,51,49,52,49,53,49,54,49,55,49,56,49,57,50,48,50,49,50,50,50,51,50,52,50,53,50,54,50,55,50,56,50,57,51,48,51,49,51,50,51,51,51,52,51,53,51,54,51,55,51,56,51,57,52,48,52,49,52,50,52,51,52,52,52,53,52,54,52,55,52,56,52,57,53,48,53,49,53,50,53,51,53,52,53,53,53,54,53,55,53,56,53,57,54,48,54,49,54,50,54,51,54,52,54,53,54,54,54,55,54,56,54,57,55,48,55,49,55,50,55,51,55,52,55,53,55,54,55,55,55,56,55,57,56,48,56,49,56,50,56,51,56,52,56,53,56,54,56,55,56,56,56,57,57,48,57,49,57,50,57,51,57,52,57,53,57,54,57,55,57,56,57,57])) (.int .u32 (zB .u32 (x108*2)))) (λx120=>opP zA zC (zF 137 (Sl.v x0) (.int .i64 (zB .i64 (x4 - 1)))) (λx121=>opU zA (zI 5 (.pointer x121) (.int .u8 x118)) w (λw=>opP zA zC (zF 137 (Sl.v x0) (.int .i64 (zB .i64 (x4 - 2)))) (λx122=>opU zA (zI 5 (.pointer x122) (.int .u8 x120)) w (λw=>yF w (λw=>opP zA (zU .u8) (Instr.index 9 (.string (ByteArray.mk #[48,48,48,49,48,50,48,51,48,52,48,53,48,54,48,55,48,56,48,57,49,48,49,49,49,50,49,51,49,52,49,53,49,54,49,55,49,56,49,57,50,48,50,49,50,50,50,51,50,52,50,53,50,54,50,55,50,56,50,57,51,48,51,49,51,50,51,51,51,52,51,53,51,54,51,55,51,56,51,57,52,48,52,49,52,50,52,51,52,52,52,53,52,54,52,55,52,56,52,57,53,48,53,49,53,50,53,51,53,52,53,53,53,54,53,55,53,56,53,57,54,48,54,49,54,50,54,51,54,52,54,53,54,54,54,55,54,56,54,57,55,48,55,49,55,50,55,51,55,52,55,53,55,54,55,55,55,56,55,57,56,48,56,49,56,50,56,51,56,52,56,53,56,54,56,55,56,56,56,57,57,48,57,49,57,50,57,51,57,52,57,53,57,54,57,55,57,56,57,57])) (.int .u32 (zB .u32 ((zB .u32 (x105*2))+1)))) (λx131=>opP zA (zU .u8) (Instr.index 9 (.string (ByteArray.mk #[48,48,48,49,48,50,48,51,48,52,48,53,48,54,48,55,48,56,48,57,49,48,49,49,49,50,49,51,49,52,49,53,49,54,49,55,49,56,49,57,50,48,50,49,50,50,50,51,50,52,50,53,50,54,50,55,50,56,50,57,51,48,51,49,51,50,51,51,51,52,51,53,51,54,51,55,51,56,51,57,52,48,52,49,52,50,52,51,52,52,52,53,52,54,52,55,52,56,52,57,53,48,53,49,53,50,53,51,53,52,53,53,53,54,53,55,53,56,53,57,54,48,54,49,54,50,54,51,54,52,54,53,54,54,54,55,54,56,54,57,55,48,55,49,55,50,55,51,55,52,55,53,55,54,55,55,55,56,55,57,56,48,56,49,56,50,56,51,56,52,56,53,56,54,56,55,56,56,56,57,57,48,57,49,57,50,57,51,57,52,57,53,57,54,57,55,57,56,57,57])) (.int .u32 (zB .u32 (x105*2)))) (λx133=>opP zA zC (zF 137 (Sl.v x0) (.int .i64 (zB .i64 (x4 - 3)))) (λx134=>opU zA (zI 5 (.pointer x134) (.int .u8 x131)) w (λw=>opP zA zC (zF 137 (Sl.v x0) (.int .i64 (zB .i64 (x4 - 4)))) (λx135=>opU zA (zI 5 (.pointer x135) (.int .u8 x133)) w (λw=>Z8 x0 Ret (zB .i64 (x4 - 4)) x103 w))))))))))))))))))))/\(¬ (4<=x4)->(Z8 x0 Ret x4 x97 w)))))
def zCc (x0:Sl) (x1:Int) (w:World) (Ret:World->Prop):Prop:=
 ∃ (I:Int->Int->World->Prop) (μ:Int->Int->World->Nat),I x1 (x0.len:Int) w/\∀ (x1_1:Int) (x4:Int) w,I x1_1 x4 w->zAo x0 Ret x1_1 x4 w (λx1_1' x4' w'=>I x1_1' x4' w'/\μ x1_1' x4' w'<μ x1_1 x4 w)
set_option maxRecDepth 100000 in
theorem zGl (x0:Sl) (x1:Int) (w:World) (Ret:World->Prop) (H:zCc x0 x1 w Ret):Cl zA 76 [(Sl.v x0),(.int .u64 x1)].toArray w (λe w'=>e=.returned (.tuple [].toArray)/\Ret w'):=by
 unfold zCc at H
 refine zf 167 (zipE 0 [(Sl.v x0),(.int .u64 x1)]) Tryz.func76 rfl rfl (by rfl) rfl ?_
 intro a g
 replace g:Sat [] 167 [(0,(Sl.v x0)),(1,(.int .u64 x1))] a:=g
 refine zJ (zD (g.mv rfl λ_ g=>g.purR (λw=>zAT g Tryz.underlying137 rfl) λ_ g=>g.as_ rfl λ_ g=>zL (tn (zJ (zX ?_)))))
 obtain ⟨I_l1,μ_l1,h0,hb⟩:=H
 refine yH (ds:=[]) (N:=167) (σ:=Int × Int) (λs=>[(1,(.int .u64 s.1)),(4,(.int .i64 s.2)),(0,(Sl.v x0))]) (λs w=>I_l1 s.1 s.2 w) (λs w=>μ_l1 s.1 s.2 w) (x1,(x0.len:Int)) h0 (g.wk) ?_
 rintro ⟨x1_1,x4⟩ w a hI g
 try dsimp only at hI g
 obtain ⟨Kl1,hK_l1⟩:∃ K:Int->Int->World->Prop,K=(λx1_1' x4' w'=>I_l1 x1_1' x4' w'/\μ_l1 x1_1' x4' w'<μ_l1 x1_1 x4 w):=⟨_,rfl⟩
 have H:zAo x0 Ret x1_1 x4 w Kl1:=by rw [hK_l1];exact hb x1_1 x4 w hI
 clear hb h0 hI
 unfold zAo at H
 refine zJ (zJ (zD (g.mv rfl λ_ g=>g.pur (ZB g rfl rfl) λ_ g=>zL (tn (za g rfl (λhc=>?_) (λhc=>?_))))))
 ·replace H:=H.1 hc
  refine zW (tn (zX (zJ (zD (g.mv rfl λ_ g=>g.op (xN g rfl rfl) H λx22 w a H g=>g.op (ZO g rfl) H λx23 w a H g=>g.as_ rfl λ_ g=>zL (tn (zJ (zD (g.mv rfl λ_ g=>g.op (xN g rfl rfl) H λx25 w a H g=>g.as_ rfl λ_ g=>zL (tn (zJ (zD (g.mv rfl λ_ g=>g.op (xN g rfl rfl) H λx27 w a H g=>g.mv rfl λ_ g=>g.op (xN g rfl rfl) H λx29 w a H g=>g.as_ rfl λ_ g=>g.as_ rfl λ_ g=>zL (tn (zJ (zD (g.mv rfl λ_ g=>g.op (xN g rfl rfl) H λx31 w a H g=>g.pur (zCE g rfl rfl) λ_ g=>g.mv rfl λ_ g=>g.op (xN g rfl rfl) H λx34 w a H g=>g.pur (zCE g rfl rfl) λ_ g=>g.as_ rfl λ_ g=>g.as_ rfl λ_ g=>zL (tn (zJ (zD (g.mv rfl λ_ g=>g.op (xN g rfl rfl) H λx37 w a H g=>g.pur (zCE g rfl rfl) λ_ g=>g.mv rfl λ_ g=>g.op (xN g rfl rfl) H λx40 w a H g=>g.pur (zCE g rfl rfl) λ_ g=>g.as_ rfl λ_ g=>g.as_ rfl λ_ g=>zL (tn (zJ (zAv 15 λw hB=>?_))))))))))))))))))))))))
  replace H:=H w hB
  refine g.ap 0 rfl (zQ g rfl) λ_ g=>g.ap 1 rfl (zQ g rfl) λ_ g=>g.ap 2 rfl (zo g rfl rfl) λ_ g=>g.ap 3 rfl (zQ g rfl) λ_ g=>g.ap 4 rfl (zQ g rfl) λ_ g=>g.ap 5 rfl (zo g rfl rfl) λ_ g=>g.ap 6 rfl (zQ g rfl) λ_ g=>g.ap 7 rfl (zm g rfl rfl) λ_ g=>g.ao 8 rfl (zCi g rfl rfl) H λx50 a H g=>g.ap 9 rfl (zQ g rfl) λ_ g=>g.ao 10 rfl (zCi g rfl rfl) H λx52 a H g=>g.ao 11 rfl (zH g rfl rfl) H λx53 a H g=>g.o1u 12 rfl (zT g rfl rfl) H λw a H g=>g.ao 13 rfl (zH g rfl rfl) H λx54 a H g=>g.o1u 14 rfl (zT g rfl rfl) H λw a H g=>WA.ni ((tn (zJ (zAv 15 λw hB=>?_))))
  replace H:=H w hB
  refine g.ap 0 rfl (zQ g rfl) λ_ g=>g.ap 1 rfl (zQ g rfl) λ_ g=>g.ap 2 rfl (zo g rfl rfl) λ_ g=>g.ap 3 rfl (zQ g rfl) λ_ g=>g.ap 4 rfl (zQ g rfl) λ_ g=>g.ap 5 rfl (zo g rfl rfl) λ_ g=>g.ap 6 rfl (zQ g rfl) λ_ g=>g.ap 7 rfl (zm g rfl rfl) λ_ g=>g.ao 8 rfl (zCi g rfl rfl) H λx63 a H g=>g.ap 9 rfl (zQ g rfl) λ_ g=>g.ao 10 rfl (zCi g rfl rfl) H λx65 a H g=>g.ao 11 rfl (zH g rfl rfl) H λx66 a H g=>g.o1u 12 rfl (zT g rfl rfl) H λw a H g=>g.ao 13 rfl (zH g rfl rfl) H λx67 a H g=>g.o1u 14 rfl (zT g rfl rfl) H λw a H g=>WA.ni ((tn (zJ (zAv 15 λw hB=>?_))))
  replace H:=H w hB
  refine g.ap 0 rfl (zQ g rfl) λ_ g=>g.ap 1 rfl (zQ g rfl) λ_ g=>g.ap 2 rfl (zo g rfl rfl) λ_ g=>g.ap 3 rfl (zQ g rfl) λ_ g=>g.ap 4 rfl (zQ g rfl) λ_ g=>g.ap 5 rfl (zo g rfl rfl) λ_ g=>g.ap 6 rfl (zQ g rfl) λ_ g=>g.ap 7 rfl (zm g rfl rfl) λ_ g=>g.ao 8 rfl (zCi g rfl rfl) H λx76 a H g=>g.ap 9 rfl (zQ g rfl) λ_ g=>g.ao 10 rfl (zCi g rfl rfl) H λx78 a H g=>g.ao 11 rfl (zH g rfl rfl) H λx79 a H g=>g.o1u 12 rfl (zT g rfl rfl) H λw a H g=>g.ao 13 rfl (zH g rfl rfl) H λx80 a H g=>g.o1u 14 rfl (zT g rfl rfl) H λw a H g=>WA.ni ((tn (zJ (zAv 15 λw hB=>?_))))
  replace H:=H w hB
  refine g.ap 0 rfl (zQ g rfl) λ_ g=>g.ap 1 rfl (zQ g rfl) λ_ g=>g.ap 2 rfl (zo g rfl rfl) λ_ g=>g.ap 3 rfl (zQ g rfl) λ_ g=>g.ap 4 rfl (zQ g rfl) λ_ g=>g.ap 5 rfl (zo g rfl rfl) λ_ g=>g.ap 6 rfl (zQ g rfl) λ_ g=>g.ap 7 rfl (zm g rfl rfl) λ_ g=>g.ao 8 rfl (zCi g rfl rfl) H λx89 a H g=>g.ap 9 rfl (zQ g rfl) λ_ g=>g.ao 10 rfl (zCi g rfl rfl) H λx91 a H g=>g.ao 11 rfl (zH g rfl rfl) H λx92 a H g=>g.o1u 12 rfl (zT g rfl rfl) H λw a H g=>g.ao 13 rfl (zH g rfl rfl) H λx93 a H g=>g.o1u 14 rfl (zT g rfl rfl) H λw a H g=>WA.ni ((tn (zD (g.mv rfl λ_ g=>g.pur (zo g rfl rfl) λ_ g=>g.as_ rfl λ_ g=>?_))))
  rw [hK_l1] at H
  exact zL (bn (tn ⟨(x25,(zB .i64 (x4 - 8))),g.wk,H⟩))
 ·replace H:=H.2 hc
  refine z7 (te (te (be (tn (zJ (zD (g.mv rfl λ_ g=>g.op (ZO g rfl) H λx97 w a H g=>g.as_ rfl λ_ g=>zL (tn (zy (ds:=[]) (N:=167) (σ:=Int × Int) (λs=>[(4,(.int .i64 s.1)),(12,(.int .u32 s.2)),(0,(Sl.v x0))]) (λs w=>Z8 x0 Ret s.1 s.2 w) ?_ (λhj2=>?_))))))))))
  ·rintro ⟨x4_1,x12⟩ w a H g
   try dsimp only at H g
   unfold Z8 at H
   refine zy (ds:=[]) (N:=167) (σ:=Int × Int) (λs=>[(4,(.int .i64 s.1)),(12,(.int .u32 s.2)),(0,(Sl.v x0))]) (λs w=>Z3 x0 Ret s.1 s.2 w) ?_ (λhj3=>?_)
   ·rintro ⟨x4_2,x12_1⟩ w a H g
    try dsimp only at H g
    unfold Z3 at H
    refine zJ (zD (g.mv rfl λ_ g=>g.pur (zA7 g rfl rfl) λ_ g=>zL (tn (za g rfl (λhc=>?_) (λhc=>?_)))))
    ·replace H:=H.1 hc
     exact zD (g.mv rfl λ_ g=>g.mv rfl λ_ g=>g.pur (zm g rfl rfl) λ_ g=>g.op (ZO g rfl) H λx165 w a H g=>g.op (zH g rfl rfl) H λx166 w a H g=>g.opu (zT g rfl rfl) H λw a H g=>zL (zAl g rfl ⟨rfl,H⟩))
    ·replace H:=H.2 hc
     exact zW (zAl g rfl ⟨rfl,H⟩)
   ·refine zJ (zD (g.mv rfl λ_ g=>g.pur (ZB g rfl rfl) λ_ g=>zL (tn (za g rfl (λhc=>?_) (λhc=>?_)))))
    ·replace H:=H.1 hc
     refine zJ (zD (g.mv rfl λ_ g=>g.op (xN g rfl rfl) H λx141 w a H g=>g.pur (zCE g rfl rfl) λ_ g=>g.as_ rfl λ_ g=>zL (tn (zJ (zD (g.mv rfl λ_ g=>g.op (xN g rfl rfl) H λx144 w a H g=>g.as_ rfl λ_ g=>zL (tn (zJ (zAv 15 λw hB=>?_)))))))))
     replace H:=H w hB
     exact g.ap 0 rfl (zQ g rfl) λ_ g=>g.ap 1 rfl (zQ g rfl) λ_ g=>g.ap 2 rfl (zo g rfl rfl) λ_ g=>g.ap 3 rfl (zQ g rfl) λ_ g=>g.ap 4 rfl (zQ g rfl) λ_ g=>g.ap 5 rfl (zo g rfl rfl) λ_ g=>g.ap 6 rfl (zQ g rfl) λ_ g=>g.ap 7 rfl (zm g rfl rfl) λ_ g=>g.ao 8 rfl (zCi g rfl rfl) H λx153 a H g=>g.ap 9 rfl (zQ g rfl) λ_ g=>g.ao 10 rfl (zCi g rfl rfl) H λx155 a H g=>g.ao 11 rfl (zH g rfl rfl) H λx156 a H g=>g.o1u 12 rfl (zT g rfl rfl) H λw a H g=>g.ao 13 rfl (zH g rfl rfl) H λx157 a H g=>g.o1u 14 rfl (zT g rfl rfl) H λw a H g=>WA.ni ((tn (zD (g.mv rfl λ_ g=>g.pur (zo g rfl rfl) λ_ g=>g.as_ rfl λ_ g=>zL (tn (hj3 ((zB .i64 (x4_1 - 2)),x144) _ _ H (g.wk)))))))
    ·replace H:=H.2 hc
     exact zW (tn (hj3 (x4_1,x12) _ _ H (g.wk)))
  ·refine zJ (zD (g.mv rfl λ_ g=>g.pur (ZB g rfl rfl) λ_ g=>zL (tn (za g rfl (λhc=>?_) (λhc=>?_)))))
   ·replace H:=H.1 hc
    refine zJ (zD (g.mv rfl λ_ g=>g.op (xN g rfl rfl) H λx101 w a H g=>g.as_ rfl λ_ g=>zL (tn (zJ (zD (g.mv rfl λ_ g=>g.op (xN g rfl rfl) H λx103 w a H g=>g.as_ rfl λ_ g=>zL (tn (zJ (zD (g.mv rfl λ_ g=>g.op (xN g rfl rfl) H λx105 w a H g=>g.pur (zCE g rfl rfl) λ_ g=>g.mv rfl λ_ g=>g.op (xN g rfl rfl) H λx108 w a H g=>g.pur (zCE g rfl rfl) λ_ g=>g.as_ rfl λ_ g=>g.as_ rfl λ_ g=>zL (tn (zJ (zAv 15 λw hB=>?_)))))))))))))
    replace H:=H w hB
    refine g.ap 0 rfl (zQ g rfl) λ_ g=>g.ap 1 rfl (zQ g rfl) λ_ g=>g.ap 2 rfl (zo g rfl rfl) λ_ g=>g.ap 3 rfl (zQ g rfl) λ_ g=>g.ap 4 rfl (zQ g rfl) λ_ g=>g.ap 5 rfl (zo g rfl rfl) λ_ g=>g.ap 6 rfl (zQ g rfl) λ_ g=>g.ap 7 rfl (zm g rfl rfl) λ_ g=>g.ao 8 rfl (zCi g rfl rfl) H λx118 a H g=>g.ap 9 rfl (zQ g rfl) λ_ g=>g.ao 10 rfl (zCi g rfl rfl) H λx120 a H g=>g.ao 11 rfl (zH g rfl rfl) H λx121 a H g=>g.o1u 12 rfl (zT g rfl rfl) H λw a H g=>g.ao 13 rfl (zH g rfl rfl) H λx122 a H g=>g.o1u 14 rfl (zT g rfl rfl) H λw a H g=>WA.ni ((tn (zJ (zAv 15 λw hB=>?_))))
    replace H:=H w hB
    exact g.ap 0 rfl (zQ g rfl) λ_ g=>g.ap 1 rfl (zQ g rfl) λ_ g=>g.ap 2 rfl (zo g rfl rfl) λ_ g=>g.ap 3 rfl (zQ g rfl) λ_ g=>g.ap 4 rfl (zQ g rfl) λ_ g=>g.ap 5 rfl (zo g rfl rfl) λ_ g=>g.ap 6 rfl (zQ g rfl) λ_ g=>g.ap 7 rfl (zm g rfl rfl) λ_ g=>g.ao 8 rfl (zCi g rfl rfl) H λx131 a H g=>g.ap 9 rfl (zQ g rfl) λ_ g=>g.ao 10 rfl (zCi g rfl rfl) H λx133 a H g=>g.ao 11 rfl (zH g rfl rfl) H λx134 a H g=>g.o1u 12 rfl (zT g rfl rfl) H λw a H g=>g.ao 13 rfl (zH g rfl rfl) H λx135 a H g=>g.o1u 14 rfl (zT g rfl rfl) H λw a H g=>WA.ni ((tn (zD (g.mv rfl λ_ g=>g.pur (zo g rfl rfl) λ_ g=>g.as_ rfl λ_ g=>zL (tn (hj2 ((zB .i64 (x4 - 4)),x103) _ _ H (g.wk)))))))
   ·replace H:=H.2 hc
    exact zW (tn (hj2 (x4,x97) _ _ H (g.wk)))
def zEF (x0:Int) (w:World) (Ret:Int->World->Prop):Prop:=
 opE zA (zU .i64) (binOp .shr 3 (.int .i64 (zB .i64 (x0*78913))) (.int .u64 18)) w (λx5 w=>Ret x5 w)
set_option maxRecDepth 100000 in
theorem zHy (x0:Int) (w:World) (Ret:Int->World->Prop) (H:zEF x0 w Ret):Cl zA 92 [(.int .i64 x0)].toArray w (λe w'=>∃ (r0:Int),e=.returned (.int .i64 r0)/\Ret r0 w'):=by
 unfold zEF at H
 refine zf 6 (zipE 0 [(.int .i64 x0)]) Tryz.func92 rfl rfl (by rfl) rfl ?_
 intro a g
 replace g:Sat [] 6 [(0,(.int .i64 x0))] a:=g
 exact zJ (zD (g.as_ rfl λ_ g=>(zL (tn (zJ (zD (g.mv rfl λ_ g=>(g.pur (zCE g rfl rfl) λ_ g=>(g.op (xN g rfl rfl) H λx5 w a H g=>(g.as_ rfl λ_ g=>(zL (tn (zd (zp g rfl rfl ⟨_,rfl,H⟩))))))))))))))
def zEP (x0:Bool) (w:World) (Ret:Int->World->Prop):Prop:=
 (x0=true->(Ret 1 w))/\(x0=false->(Ret 0 w))
set_option maxRecDepth 100000 in
theorem zHk (x0:Bool) (w:World) (Ret:Int->World->Prop) (H:zEP x0 w Ret):Cl zA 93 [(.bool x0)].toArray w (λe w'=>∃ (r0:Int),e=.returned (.int .i64 r0)/\Ret r0 w'):=by
 unfold zEP at H
 refine zf 4 (zipE 0 [(.bool x0)]) Tryz.func93 rfl rfl (by rfl) rfl ?_
 intro a g
 replace g:Sat [] 4 [(0,(.bool x0))] a:=g
 refine zJ (zD (g.as_ rfl λ_ g=>(zL (tn (zJ (zJ (zD (g.mv rfl λ_ g=>(zL (tn (zg g rfl (λhc=>?_) (λhc=>?_))))))))))))
 ·replace H:=H.1 hc
  exact zJ (zD (g.as_ rfl λ_ g=>(zL (tn (zd (tr (zp g rfl rfl ⟨_,rfl,H⟩)))))))
 ·replace H:=H.2 hc
  exact zW (tn (zJ (zD (g.as_ rfl λ_ g=>(zL (tn (zd (zp g rfl rfl ⟨_,rfl,H⟩))))))))
end Go.Proofs.YtealcoghiaeiiaaGreatDoor.VG
set_option linter.unusedVariables false
set_option linter.unusedSimpArgs false
namespace Go.Proofs.YtealcoghiaeiiaaGreatDoor.VG
open Go.VB Go.Proofs Go.RowKit
theorem zOG (w:World) {k:Int->World->Prop} (H:k 7 w):Cl zA zIc [.int .u64 105].toArray w (λe w'=>∃ r:Int,e=.returned (.int .i64 r)/\k r w'):=by
 refine zIZ 105 w k ?_
 unfold zF0
 refine ⟨λh=>absurd h (by decide),λ_=>?_⟩
 unfold zBR
 refine ⟨λh=>absurd h (by decide),λ_=>?_⟩
 unfold zBQ
 refine ⟨λh=>absurd h (by decide),λ_=>?_⟩
 unfold zBM
 refine ⟨105,w,by kernel_rfl,7,w,by kernel_rfl,7,w,by kernel_rfl,?_⟩
 exact H
def zLt (w:World):Prop:=w.cell? ⟨0,2,none⟩=some (.int .u64 100)
theorem zN4 {w:World} (hp:zLt w) {k:Int->World->Prop} (H:k 3 w):Cl zA zHm [.int .u64 105].toArray w (λe w'=>∃ r:Int,e=.returned (.int .i64 r)/\k r w'):=by
 refine zHl 105 w k ?_
 unfold zER
 refine zOG w ?_
 refine zHy 7 w _ ?_
 unfold zEF
 refine ⟨2,w,by kernel_rfl,?_⟩
 refine ⟨some ⟨0,2,none⟩,w,by kernel_rfl,?_⟩
 refine zAF yE 100 hp ?_
 refine zHk _ w _ ?_
 unfold zEP
 exact ⟨λ_=>H,λh=>absurd h (by decide)⟩
theorem zOJ {w:World} {B:Nat} {e:TypeId} (hB:Row w B (List.replicate 24 (.int .u8 0)) e) {k:World->Prop}
  (H:∀ w',Row w' B ([.int .u8 49,.int .u8 48,.int .u8 53]++List.replicate (24 - 3) (.int .u8 0)) e->w.grownBy w' (some B)->k w'):
  Cl zA zGv [Sl.v ⟨some ⟨B,0,none⟩,3,24⟩,.int .u64 105].toArray w (λe w'=>e=.returned (.tuple [].toArray)/\k w'):=by
 refine zGl ⟨some ⟨B,0,none⟩,3,24⟩ 105 w k ?_
 unfold zCc
 refine ⟨λx n W=>x=105/\n=3/\W=w,λ_ _ _=>0,⟨rfl,rfl,rfl⟩,?_⟩
 rintro x n W ⟨rfl,rfl,rfl⟩
 unfold zAo
 refine ⟨λh=>absurd h (by decide),λ_=>?_⟩
 refine ⟨105,W,by kernel_rfl,λh=>absurd h (by decide),λ_=>?_⟩
 unfold Z8
 refine ⟨λ_=>?_,λh=>absurd (by decide) h⟩
 refine ⟨5,W,by kernel_rfl,1,W,by kernel_rfl,?_⟩
 intro W1 b1
 refine ⟨53,λw=>by kernel_rfl,48,λw=>by kernel_rfl,?_⟩
 refine ⟨some ((⟨B,0,none⟩:Addr).add 2),λw=>by kernel_rfl,?_⟩
 refine zGT zJc (hB.bel b1) rfl (by simp) rfl λW2 h2 g2=>?_
 refine ⟨some ((⟨B,0,none⟩:Addr).add 1),λw=>by kernel_rfl,?_⟩
 refine zGT zJc h2 rfl (by simp) rfl λW3 h3 g3=>?_
 unfold Z3
 refine ⟨λ_=>?_,λh=>absurd (by decide) h⟩
 refine ⟨49,W3,by kernel_rfl,?_⟩
 refine ⟨some ((⟨B,0,none⟩:Addr).add 0),W3,by kernel_rfl,?_⟩
 refine zGT (off:=0) zJc h3 rfl (by simp) rfl λW4 h4 g4=>?_
 exact H W4 h4 (zS (zS (zS (zh b1 _) g2) g3) g4)
theorem zLh {w:World} (hp:zLt w) {k:ByteArray->World->Prop} (H:∀ w',Bel w w'->k (ByteArray.mk #[49,48,53]) w'):Cl zA zEg [.int .u64 105,.int .i64 10].toArray w (λe w'=>∃ r:ByteArray,e=.returned (.string r)/\k r w'):=by
 refine zEd 105 10 w k ?_
 unfold zBE
 refine zEi 105 10 w _ ?_
 unfold zBG
 refine ⟨λ_=>⟨λh=>absurd h (by decide),λ_=>?_⟩,λh=>absurd rfl h⟩
 refine ⟨some ⟨w.heap.size,0,none⟩,w.alloc (.cells (List.replicate 24 (.int .u8 0)).toArray zGR),by kernel_rfl,?_⟩
 have hB:=Row.new w (List.replicate 24 (.int .u8 0)) zGR
 have b1:=Bel.alloc w (.cells (List.replicate 24 (.int .u8 0)).toArray zGR)
 have hlt:w.heap.size<=w.heap.size:=zV _
 generalize hBe:w.heap.size=B at hB hlt ⊢
 generalize w.alloc (.cells (List.replicate 24 (.int .u8 0)).toArray zGR)=w1 at hB b1 ⊢
 have hp1:zLt w1:=b1.cell hp
 refine zN4 hp1 ?_
 refine ⟨⟨some ⟨B,0,none⟩,3,24⟩,w1,by kernel_rfl,?_⟩
 refine zOJ hB λw2 h2 g2=>?_
 refine ⟨⟨some ⟨B,0,none⟩,3,24⟩,w2,by kernel_rfl,?_⟩
 have hc:=run_convert_bytes_arg (P:=zA) w2 zM4 zO7 Tryz.underlying137 Tryz.underlying5 B 0 3 24 [49,48,53] rfl (λi hi=>by
  have h3:=h2.at
  match i,hi with
  |0,_=>have:=h3 0 (.int .u8 49) rfl;simpa [Addr.add] using this
  |1,_=>have:=h3 1 (.int .u8 48) rfl;simpa [Addr.add] using this
  |2,_=>have:=h3 2 (.int .u8 53) rfl;simpa [Addr.add] using this) zJQ Tryz.underlying9
 exact ⟨_,w2,hc,H w2 (b1.grown g2 λq hq=>by cases hq;omega)⟩
theorem zMj (w:World) {k:ByteArray->World->Prop} (H:k (ByteArray.mk #[48]) w):Cl zA zEg [.int .u64 0,.int .i64 10].toArray w (λe w'=>∃ r:ByteArray,e=.returned (.string r)/\k r w'):=by
 refine zEd 0 10 w k ?_
 unfold zBE
 refine zEi 0 10 w _ ?_
 unfold zBG
 refine ⟨λ_=>⟨λ_=>?_,λh=>absurd (by decide) h⟩,λh=>absurd rfl h⟩
 refine ⟨0,w,by kernel_rfl,?_⟩
 refine zJg 0 w _ ?_
 unfold zFp
 refine ⟨λ_=>?_,λh=>absurd (by decide) h⟩
 exact ⟨ByteArray.mk #[48],w,by kernel_rfl,H⟩
theorem zOC {w:World} (hp:zLt w) (k:Bool->World->Prop) (H:∀ w',Bel w w'->k true w'):Cl zA zFy [].toArray w (λe w'=>∃ r0:Bool,e=.returned (.bool r0)/\k r0 w'):=by
 refine zIP w k ?_
 unfold zEs
 refine zKd (-5) w _ ?_
 unfold zG7
 refine zKi (-5) w _ ?_
 unfold zG6
 refine ⟨λ_=>?_,λh=>absurd (by decide) h⟩
 refine ⟨18446744073709551611,w,by kernel_rfl,5,w,by kernel_rfl,?_⟩
 refine ⟨5,w,by kernel_rfl,?_⟩
 refine zLh hp λw1 b1=>?_
 refine ⟨ByteArray.mk #[48,53],w1,by kernel_rfl,0,w1,by kernel_rfl,?_⟩
 refine zMj w1 ?_
 refine ⟨ByteArray.mk #[48,46],w1,by kernel_rfl,ByteArray.mk #[48,46,48,53],w1,by kernel_rfl,?_⟩
 refine ⟨λ_=>?_,λh=>absurd (by decide) h⟩
 refine ⟨ByteArray.mk #[45,48,46,48,53],w1,by kernel_rfl,?_⟩
 exact H w1 b1
end Go.Proofs.YtealcoghiaeiiaaGreatDoor.VG
