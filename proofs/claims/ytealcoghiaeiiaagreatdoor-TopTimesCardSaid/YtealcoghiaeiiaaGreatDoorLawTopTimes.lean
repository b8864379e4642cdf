/- The law TopTimes answers true at whatever it is called with, and its arguments read as_ before; no condition. -/
import Derived.Test.YtealcoghiaeiiaaGreatDoorRows
import Derived.Test.YtealcoghiaeiiaaGreatDoorCards
import Derived.Test.YtealcoghiaeiiaaGreatDoorTie
import Derived.WalkKit
import Derived.ProofKit
import Derived.OpenShut
import Derived.ShutString
import Derived.ChangeOld
import Derived.Below
import Derived.Carry
import Derived.SizedLaws
import Derived.KernelRfl
import Derived.LaidMore
import Derived.Stop.Joined
import Derived.SevenTiedAt
import Derived.Test.YtealcoghiaeiiaaGreatDoorPkTopTimesK
open Go.Proofs.Tryz renaming prog → zA
open Go.IntKind renaming wrap → zB
open Go.Value renaming pointer → zC, int → zU, string → zY, bool → YR
open Go.Instr renaming loadAt → zE, storeAt → zI, indexAt → zF, fieldAt → zN, alloc → ze, build → yo, buildSlice → zl
open Nat renaming le_refl → zV, le_trans → zj, lt_of_lt_of_le → QR
open List renaming length_append → yB
namespace Go.Proofs.YtealcoghiaeiiaaGreatDoor.topTimes
open Go.ChangeShapes Go.WideShapes Go.ChangeAt Go.RowKit Go.VB Go.Proofs.YtealcoghiaeiiaaGreatDoor.VG
open Go.ChangeMaps (open_string shut_string)
set_option linter.unusedVariables false
theorem own : ownKnob zA.godebug = none := by kernel_rfl
theorem laidOut : laidOutB zA = true := by kernel_rfl
theorem gPow : zA.globalNamed "internal/strconv.uint64pow10" = some 0 := by kernel_rfl
theorem tPow : (zA.globals[0]?).map (·.type) = some 159 := by kernel_rfl
theorem door_met (os : Os) (args : Array Value) : laidMetH zA Rows.topTimesRow.laid ((World.doorLaid zA 400 os).forCall (fun _ _ => 0) ⟨#[], args, []⟩).memory :=
  laidMetH_of_parts3 (fuel := 8) (laidMet_of_run' 8 (by kernel_rfl) (by kernel_rfl)) (by kernel_rfl) (by kernel_rfl)
set_option maxRecDepth 100000 in
theorem of_laid {W : World} (h : laidMetH zA Rows.topTimesRow.laid W) : zLt W := by
  rw [MakeChecks.laidMetH_plain _ _ _ (by kernel_rfl)] at h
  obtain ⟨ps, ⟨g0, t0, cs0, f0, p0, q0, hg0, ht0, hv0, hd0, ⟨g1, t1, cs1, f1, p1, q1, hg1, ht1, hv1, hd1, ⟨g2, t2, cs2, f2, p2, q2, hg2, ht2, hv2, hd2, _, _⟩, _⟩, _⟩, _, _⟩ := h
  obtain rfl := Option.some.inj (gPow.symm.trans hg2)
  obtain rfl := Option.some.inj (tPow.symm.trans ht2)
  obtain ⟨xs, m1, rfl, hx1, hlen, hn3, hel⟩ := DataW.trod_array Tryz.underlying159 hd2
  have c3 : zA.cellsOf 33 = 1 := by kernel_rfl
  have h2 := hel 2 (by decide)
  simp only [Prod.mk.injEq] at hx1
  have hx2 : (xs.map (·.1))[2]? = some (.lit (.int .u64 100)) := by
    have := hx1.1
    unfold Rows.laid_internal_strconv_uint64pow10 at this
    injection this with this
    rw [← this]; rfl
  obtain ⟨x2, e0, e3⟩ : ∃ x, xs[2]? = some x ∧ x.1 = .lit (.int .u64 100) := by
    rw [List.getElem?_map] at hx2
    cases hq : xs[2]? with
    | none => rw [hq] at hx2; cases hx2
    | some x => rw [hq] at hx2; exact ⟨x, rfl, Option.some.inj hx2⟩
  rw [e0] at h2
  obtain ⟨k, e1, e2, _⟩ := DataW.trod_int Tryz.underlying33 h2
  have hk : k = 100 := by rw [e2] at e3; simpa using e3
  subst hk
  have h5 := World.var?_cell hg2 hv2 2
  rw [c3] at e1
  have h6 : cs2[2]? = some (.int .u64 100) := by
    have h7 : cs2.toList[2]? = some (.int .u64 100) := by
      have := congrArg (fun l => l[0]?) e1
      simpa [List.getElem?_take, List.getElem?_drop] using this
    simpa using h7
  rw [h6] at h5
  exact h5
set_option maxRecDepth 100000 in
theorem lifted (os : Os) (started : os.Started) (H : Type) (enc : TypeId × Value → H) :
    ReturnsInHanded {} Tryz.checked os 3 .any (fun w args => (Rows.topTimesSpec.pre enc zA Tryz.f3 [] false w args ∧ laidMetH zA Rows.topTimesRow.laid w) ∧ sizedMet enc zA Tryz.f3 (OpenSpec.ofChange Rows.topTimesSpec) false w args)
      (Rows.topTimesSpec.post enc zA Tryz.f3 false true false false) := by
  refine returnsInHanded_of_change_and (C := Tryz.checked) (X := fun w _ => laidMetH zA Rows.topTimesRow.laid w) (fun _ _ _ hh h => h.of_heap hh) own started (by kernel_rfl) Tryz.func3
    (ChangeSpec.witness_shaped (enc := enc) (C := Tryz.checked) (os := os) (X := fun w _ => laidMetH zA Rows.topTimesRow.laid w) false (World.doorLaid zA 400 os) #[.slice none 0 0, .slice none 0 0] 8 rfl (World.shaped_of_RefB (by kernel_rfl) (by kernel_rfl)) (by kernel_rfl) (by kernel_rfl) (by kernel_rfl) (door_met os _)) ?_
  intro W base args ds gs before hval0 hW hcnd hsz0 hL _
  have hsz : (DataW.weightsEach zA (Tryz.f3.params.toList ++ Rows.topTimesSpec.plain.varTypes zA) (ds ++ gs)).all (· ≤ reachBytes) = true := hsz0
  have hval : ∀ (j : Nat) t v, Tryz.f3.params[j]? = some t → args[j]? = some v → Value.okWide zA W .any base t v := hval0
  have hW' := hW
  obtain ⟨p, q, hA0, hV, rfl, hfz, hnd⟩ := hW
  have hA : DataW.TrodAll enc zA W 0 (fun _ => true) true Tryz.f3.params.toList args.toList ds p := hA0
  rw [Tryz.params3] at hA hval hsz
  obtain ⟨v0, vs0, d0, ds0, p0, q0, hargs, rfl, rfl, h0, r0⟩ := trodAll_cons hA
  obtain ⟨v1, vs1, d1, ds1, p1, q1, rfl, rfl, rfl, h1, r1⟩ := trodAll_cons r0
  obtain ⟨rfl, rfl, rfl⟩ := trodAll_nil r1
  obtain rfl : args = #[v0, v1] := by cases args; simp_all
  obtain ⟨rfl, rfl⟩ := trodVars_none hV
  obtain ⟨a0, len0, cap0, rfl⟩ := okWide_slice Tryz.underlying22 (hval 0 22 v0 rfl rfl)
  have k0 := h0
  have lt0 : ∀ x ∈ p0, x.block < W.heap.size := by obtain ⟨m, hm⟩ := k0; exact DataW.trod_lt m _ _ _ hm
  obtain ⟨l0, R0, B0⟩ := zNJ hsz (j := 0) (n := 2) (B := 32) rfl rfl Tryz.underlying22 (by kernel_rfl) (by kernel_rfl) (by decide) zP4 h0
  obtain ⟨a1, len1, cap1, rfl⟩ := okWide_slice Tryz.underlying23 (hval 1 23 v1 rfl rfl)
  have k1 := h1
  have lt1 : ∀ x ∈ p1, x.block < W.heap.size := by obtain ⟨m, hm⟩ := k1; exact DataW.trod_lt m _ _ _ hm
  obtain ⟨l1, R1, B1⟩ := zNJ hsz (j := 1) (n := 5) (B := 64) rfl rfl Tryz.underlying23 (by kernel_rfl) (by kernel_rfl) (by decide) zP7 h1
  clear hA0 hval0 hsz0 hsz
  refine (Cl.calls (zOo R0 R1 (zOC (of_laid hL)))).mono fun e W' ⟨r0, he, hr, bel⟩ => ?_
  subst he; subst hr
  exact ⟨_, rfl, _, _, _, [], _, [], hW', trodAll_mk1 (shut_bool Tryz.underlying4 _), (trodAll_cons_mk (Below.trod laidOut (by kernel_rfl) (of_decide_eq_true (by kernel_rfl)) k0 bel lt0) (trodAll_cons_mk (Below.trod laidOut (by kernel_rfl) (of_decide_eq_true (by kernel_rfl)) k1 bel lt1) trodAll_mk0)), rfl, bel.frame _, fun h => by cases h⟩
theorem over : Rows.topTimesRow.holds Tryz.pinned (OpenSpec.ofChange Rows.topTimesSpec) :=
  OpenClaim.holds_of_wide 3 Tryz.f3 rfl rfl rfl rfl rfl rfl rfl ⟨rfl, rfl, rfl, rfl, rfl⟩ rfl rfl rfl rfl rfl (by kernel_rfl) Tryz.func3 (by kernel_rfl)
    (of_decide_eq_true (by kernel_rfl)) (by unfold Func.isWrapper; first | (rw [if_pos (by decide +kernel)]; kernel_rfl) | (rw [if_neg (by decide +kernel)]; exact ⟨rfl, rfl⟩))
    (fun os started H enc _ => lifted os started H enc)
theorem proved : Rows.TopTimesSaid := over
theorem card : Rows.TopTimesCardSaid :=
  Claim7.holds_tied_plain_at .later [] [.data, .data, .data] true (true, "49fc9f42896224e4287f477ab7f72a03334ec039dbca9a48492e3816d8a17c5c") false
    proved (fun _ h => by cases h) (by kernel_rfl) (fun _ h => by cases h) topTimes_row_tie rfl ⟨rfl, rfl⟩ (by kernel_rfl) rfl
    (fun f fn hf hfn => by
      obtain rfl : f = 3 := Option.some.inj ((show zA.funcNamed "lading/ladingtop.TopTimes" = some 3 by kernel_rfl).symm.trans hf) |>.symm
      obtain rfl : fn = Tryz.f3 := (Option.some.inj (Tryz.func3.symm.trans hfn)).symm
      exact ⟨by kernel_rfl, fun j t ht => by
        rw [Tryz.params3] at ht
        have hm : t ∈ [22, 23] := by simpa using Array.mem_of_getElem? ht
        have hall : ([22, 23].all fun u => !Tryz.prog.wantsStandIn u) = true := by kernel_rfl
        exact (show zA.wantsStandIn t = false by simpa using List.all_eq_true.1 hall t hm)⟩)
    (by kernel_rfl)
#print axioms card
end Go.Proofs.YtealcoghiaeiiaaGreatDoor.topTimes
namespace Go.Proofs.YtealcoghiaeiiaaGreatDoor
/-- The row, under a short name, for the claim. -/
theorem topTimes_holds : Rows.TopTimesCardSaid := topTimes.card
end Go.Proofs.YtealcoghiaeiiaaGreatDoor
