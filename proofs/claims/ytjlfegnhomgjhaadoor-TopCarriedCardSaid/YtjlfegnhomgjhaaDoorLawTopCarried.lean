/- The law TopCarried answers true at whatever it is called with, and its arguments read as_ before; no condition. -/
import Derived.Test.YtjlfegnhomgjhaaDoorRows
import Derived.Test.YtjlfegnhomgjhaaDoorCards
import Derived.Test.YtjlfegnhomgjhaaDoorTie
import Derived.WalkKit
import Derived.ProofKit
import Derived.OpenShut
import Derived.ShutString
import Derived.ChangeOld
import Derived.Below
import Derived.Carry
import Derived.SizedLaws
import Derived.KernelRfl
import Derived.LaidMore
import Derived.Stop.Joined
import Derived.SevenTiedAt
import Derived.Test.YtjlfegnhomgjhaaDoorPkTopCarriedD
open Go.Proofs.Tryd renaming prog → zA
open Go.IntKind renaming wrap → zF
open Go.Value renaming pointer → zC, int → zH, bool → yO
open Go.Instr renaming loadAt → zG, storeAt → zK, indexAt → zN, fieldAt → zJ, alloc → z6, build → yI, buildSlice → zd
open Nat renaming le_refl → zP
namespace Go.Proofs.YtjlfegnhomgjhaaDoor.topCarried
open Go.ChangeShapes Go.WideShapes Go.ChangeAt Go.RowKit Go.VB Go.Proofs.YtjlfegnhomgjhaaDoor.VG
open Go.ChangeMaps (open_string shut_string)
set_option linter.unusedVariables false
theorem own : ownKnob zA.godebug = none := by kernel_rfl
theorem laidOut : laidOutB zA = true := by kernel_rfl
theorem gPow : zA.globalNamed "internal/strconv.uint64pow10" = some 0 := by kernel_rfl
theorem tPow : (zA.globals[0]?).map (·.type) = some 89 := by kernel_rfl
theorem door_met (os : Os) (args : Array Value) : laidMetH zA Rows.topCarriedRow.laid ((World.doorLaid zA 400 os).forCall (fun _ _ => 0) ⟨#[], args, []⟩).memory :=
  laidMetH_of_parts3 (fuel := 8) (laidMet_of_run' 8 (by kernel_rfl) (by kernel_rfl)) (by kernel_rfl) (by kernel_rfl)
set_option maxRecDepth 100000 in
theorem of_laid {W : World} (h : laidMetH zA Rows.topCarriedRow.laid W) : Zn W := by
  rw [MakeChecks.laidMetH_plain _ _ _ (by kernel_rfl)] at h
  obtain ⟨ps, ⟨g0, t0, cs0, f0, p0, q0, hg0, ht0, hv0, hd0, ⟨g1, t1, cs1, f1, p1, q1, hg1, ht1, hv1, hd1, ⟨g2, t2, cs2, f2, p2, q2, hg2, ht2, hv2, hd2, _, _⟩, _⟩, _⟩, _, _⟩ := h
  obtain rfl := Option.some.inj (gPow.symm.trans hg2)
  obtain rfl := Option.some.inj (tPow.symm.trans ht2)
  obtain ⟨xs, m1, rfl, hx1, hlen, hn3, hel⟩ := DataW.trod_array Tryd.underlying89 hd2
  have c3 : zA.cellsOf 62 = 1 := by kernel_rfl
  have h2 := hel 2 (by decide)
  simp only [Prod.mk.injEq] at hx1
  have hx2 : (xs.map (·.1))[2]? = some (.lit (.int .u64 100)) := by
    have := hx1.1
    unfold Rows.laid_internal_strconv_uint64pow10 at this
    injection this with this
    rw [← this]; rfl
  obtain ⟨x2, e0, e3⟩ : ∃ x, xs[2]? = some x ∧ x.1 = .lit (.int .u64 100) := by
    rw [List.getElem?_map] at hx2
    cases hq : xs[2]? with
    | none => rw [hq] at hx2; cases hx2
    | some x => rw [hq] at hx2; exact ⟨x, rfl, Option.some.inj hx2⟩
  rw [e0] at h2
  obtain ⟨k, e1, e2, _⟩ := DataW.trod_int Tryd.underlying62 h2
  have hk : k = 100 := by rw [e2] at e3; simpa using e3
  subst hk
  have h5 := World.var?_cell hg2 hv2 2
  rw [c3] at e1
  have h6 : cs2[2]? = some (.int .u64 100) := by
    have h7 : cs2.toList[2]? = some (.int .u64 100) := by
      have := congrArg (fun l => l[0]?) e1
      simpa [List.getElem?_take, List.getElem?_drop] using this
    simpa using h7
  rw [h6] at h5
  exact h5
set_option maxRecDepth 100000 in
theorem lifted (os : Os) (started : os.Started) (H : Type) (enc : TypeId × Value → H) :
    ReturnsInHanded {} Tryd.checked os 3 .any (fun w args => (Rows.topCarriedSpec.pre enc zA Tryd.f3 [] false w args ∧ laidMetH zA Rows.topCarriedRow.laid w) ∧ sizedMet enc zA Tryd.f3 (OpenSpec.ofChange Rows.topCarriedSpec) false w args)
      (Rows.topCarriedSpec.post enc zA Tryd.f3 false true false false) := by
  refine returnsInHanded_of_change_and (C := Tryd.checked) (X := fun w _ => laidMetH zA Rows.topCarriedRow.laid w) (fun _ _ _ hh h => h.of_heap hh) own started (by kernel_rfl) Tryd.func3
    (ChangeSpec.witness_shaped (enc := enc) (C := Tryd.checked) (os := os) (X := fun w _ => laidMetH zA Rows.topCarriedRow.laid w) false (World.doorLaid zA 400 os) #[.int .i64 0, .slice none 0 0] 8 rfl (World.shaped_of_RefB (by kernel_rfl) (by kernel_rfl)) (by kernel_rfl) (by kernel_rfl) (by kernel_rfl) (door_met os _)) ?_
  intro W base args ds gs before hval0 hW hcnd hsz0 hL _
  have hsz : (DataW.weightsEach zA (Tryd.f3.params.toList ++ Rows.topCarriedSpec.plain.varTypes zA) (ds ++ gs)).all (· ≤ reachBytes) = true := hsz0
  have hval : ∀ (j : Nat) t v, Tryd.f3.params[j]? = some t → args[j]? = some v → Value.okWide zA W .any base t v := hval0
  have hW' := hW
  obtain ⟨p, q, hA0, hV, rfl, hfz, hnd⟩ := hW
  have hA : DataW.TrodAll enc zA W 0 (fun _ => true) true Tryd.f3.params.toList args.toList ds p := hA0
  rw [Tryd.params3] at hA hval hsz
  obtain ⟨v0, vs0, d0, ds0, p0, q0, hargs, rfl, rfl, h0, r0⟩ := trodAll_cons hA
  obtain ⟨v1, vs1, d1, ds1, p1, q1, rfl, rfl, rfl, h1, r1⟩ := trodAll_cons r0
  obtain ⟨rfl, rfl, rfl⟩ := trodAll_nil r1
  obtain rfl : args = #[v0, v1] := by cases args; simp_all
  obtain ⟨rfl, rfl⟩ := trodVars_none hV
  obtain ⟨a0, rfl, rfl, rfl, w0⟩ := open_int Tryd.underlying3 (hval 0 3 v0 rfl rfl) h0
  obtain ⟨a1, len1, cap1, rfl⟩ := okWide_slice Tryd.underlying22 (hval 1 22 v1 rfl rfl)
  have k1 := h1
  have lt1 : ∀ x ∈ p1, x.block < W.heap.size := by obtain ⟨m, hm⟩ := k1; exact DataW.trod_lt m _ _ _ hm
  obtain ⟨l1, R1, B1⟩ := zA7 hsz (j := 1) (n := 1) (B := 1) rfl rfl Tryd.underlying22 (by kernel_rfl) (by kernel_rfl) (by decide) (zAq Tryd.underlying35) h1
  clear hA0 hval0 hsz0 hsz
  refine (Cl.calls (Z3 (o := a0) R1 (zAU (of_laid hL)))).mono fun e W' ⟨r0, he, hr, bel⟩ => ?_
  subst he; subst hr
  exact ⟨_, rfl, _, _, _, [], _, [], hW', trodAll_mk1 (shut_bool Tryd.underlying4 _), (trodAll_cons_mk (shut_int Tryd.underlying3 w0) (trodAll_cons_mk (Below.trod laidOut (by kernel_rfl) (of_decide_eq_true (by kernel_rfl)) k1 bel lt1) trodAll_mk0)), rfl, bel.frame _, fun h => by cases h⟩
theorem over : Rows.topCarriedRow.holds Tryd.pinned (OpenSpec.ofChange Rows.topCarriedSpec) :=
  OpenClaim.holds_of_wide 3 Tryd.f3 rfl rfl rfl rfl rfl rfl rfl ⟨rfl, rfl, rfl, rfl, rfl⟩ rfl rfl rfl rfl rfl (by kernel_rfl) Tryd.func3 (by kernel_rfl)
    (of_decide_eq_true (by kernel_rfl)) (by unfold Func.isWrapper; first | (rw [if_pos (by decide +kernel)]; kernel_rfl) | (rw [if_neg (by decide +kernel)]; exact ⟨rfl, rfl⟩))
    (fun os started H enc _ => lifted os started H enc)
theorem proved : Rows.TopCarriedSaid := over
theorem card : Rows.TopCarriedCardSaid :=
  Claim7.holds_tied_plain_at .later [] [.data, .data, .data] true (true, "daab39b7bdc71d7938434dcb7ba9090704bfc353420c7de7fed7210a81a2f189") false
    proved (fun _ h => by cases h) (by kernel_rfl) (fun _ h => by cases h) topCarried_row_tie rfl ⟨rfl, rfl⟩ (by kernel_rfl) rfl
    (fun f fn hf hfn => by
      obtain rfl : f = 3 := Option.some.inj ((show zA.funcNamed "lading/ladingtop.TopCarried" = some 3 by kernel_rfl).symm.trans hf) |>.symm
      obtain rfl : fn = Tryd.f3 := (Option.some.inj (Tryd.func3.symm.trans hfn)).symm
      exact ⟨by kernel_rfl, fun j t ht => by
        rw [Tryd.params3] at ht
        have hm : t ∈ [3, 22] := by simpa using Array.mem_of_getElem? ht
        have hall : ([3, 22].all fun u => !Tryd.prog.wantsStandIn u) = true := by kernel_rfl
        exact (show zA.wantsStandIn t = false by simpa using List.all_eq_true.1 hall t hm)⟩)
    (by kernel_rfl)
#print axioms card
end Go.Proofs.YtjlfegnhomgjhaaDoor.topCarried
namespace Go.Proofs.YtjlfegnhomgjhaaDoor
/-- The row, under a short name, for the claim. -/
theorem topCarried_holds : Rows.TopCarriedCardSaid := topCarried.card
end Go.Proofs.YtjlfegnhomgjhaaDoor
