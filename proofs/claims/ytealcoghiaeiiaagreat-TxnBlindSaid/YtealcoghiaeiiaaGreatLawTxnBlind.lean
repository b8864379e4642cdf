/- The law TxnBlind answers true at whatever it is called with, and its arguments read as_ before; no condition. -/
import Derived.Test.YtealcoghiaeiiaaGreatRows
import Derived.WalkKit
import Derived.ProofKit
import Derived.OpenShut
import Derived.ShutString
import Derived.ChangeOld
import Derived.Below
import Derived.Carry
import Derived.SizedLaws
import Derived.KernelRfl
import Derived.Test.YtealcoghiaeiiaaGreatPkTxnBlindK
open Go.Proofs.Tryz renaming prog → zA
open Go.IntKind renaming wrap → zB
open Go.Value renaming pointer → zC, int → zV, string → zY, bool → Qq
open Go.Instr renaming loadAt → zD, storeAt → zK, indexAt → zF, fieldAt → zO, alloc → zk, build → QC, buildSlice → zc
open Nat renaming le_refl → zU, le_trans → ze, lt_of_lt_of_le → xf
open List renaming length_append → zy
namespace Go.Proofs.YtealcoghiaeiiaaGreat.txnBlind
open Go.ChangeShapes Go.WideShapes Go.ChangeAt Go.RowKit Go.VB Go.Proofs.YtealcoghiaeiiaaGreat.VG
open Go.ChangeMaps (open_string shut_string)
set_option linter.unusedVariables false
theorem own : ownKnob zA.godebug = none := by kernel_rfl
theorem laidOut : laidOutB zA = true := by kernel_rfl
set_option maxRecDepth 100000 in
theorem lifted (os : Os) (started : os.Started) (H : Type) (enc : TypeId × Value → H) :
    ReturnsInHanded {} Tryz.checked os 3 .any (Rows.txnBlindSpec.pre6 enc zA Tryz.f3 Rows.txnBlindRow.domain false) (Rows.txnBlindSpec.post enc zA Tryz.f3 false true false false) := by
  refine returnsInHanded_of_change_sized (C := Tryz.checked) own started (by kernel_rfl) Tryz.func3
    (ChangeSpec.witness6 (enc := enc) (C := Tryz.checked) false ⟨#[], #[.slice none 0 0, .slice none 0 0, .slice none 0 0], []⟩ 8 (by kernel_rfl) (by kernel_rfl) (by kernel_rfl) (by kernel_rfl)) ?_
  intro W base args ds gs before hval0 hW hcnd hsz0 _
  have hsz : (DataW.weightsEach zA (Tryz.f3.params.toList ++ Rows.txnBlindSpec.plain.varTypes zA) (ds ++ gs)).all (· ≤ reachBytes) = true := hsz0
  have hval : ∀ (j : Nat) t v, Tryz.f3.params[j]? = some t → args[j]? = some v → Value.okWide zA W .any base t v := hval0
  have hW' := hW
  obtain ⟨p, q, hA0, hV, rfl, hfz, hnd⟩ := hW
  have hA : DataW.TrodAll enc zA W 0 (fun _ => true) true Tryz.f3.params.toList args.toList ds p := hA0
  rw [Tryz.params3] at hA hval hsz
  obtain ⟨v0, vs0, d0, ds0, p0, q0, hargs, rfl, rfl, h0, r0⟩ := trodAll_cons hA
  obtain ⟨v1, vs1, d1, ds1, p1, q1, rfl, rfl, rfl, h1, r1⟩ := trodAll_cons r0
  obtain ⟨v2, vs2, d2, ds2, p2, q2, rfl, rfl, rfl, h2, r2⟩ := trodAll_cons r1
  obtain ⟨rfl, rfl, rfl⟩ := trodAll_nil r2
  obtain rfl : args = #[v0, v1, v2] := by cases args; simp_all
  obtain ⟨rfl, rfl⟩ := trodVars_none hV
  obtain ⟨a0, len0, cap0, rfl⟩ := okWide_slice Tryz.underlying22 (hval 0 22 v0 rfl rfl)
  have k0 := h0
  have lt0 : ∀ x ∈ p0, x.block < W.heap.size := by obtain ⟨m, hm⟩ := k0; exact DataW.trod_lt m _ _ _ hm
  obtain ⟨l0, R0, B0⟩ := zNG hsz (j := 0) (n := 2) (B := 32) rfl rfl Tryz.underlying22 (by kernel_rfl) (by kernel_rfl) (by decide) zPP h0
  obtain ⟨a1, len1, cap1, rfl⟩ := okWide_slice Tryz.underlying23 (hval 1 23 v1 rfl rfl)
  have k1 := h1
  have lt1 : ∀ x ∈ p1, x.block < W.heap.size := by obtain ⟨m, hm⟩ := k1; exact DataW.trod_lt m _ _ _ hm
  obtain ⟨l1, R1⟩ := zOa hsz (j := 1) (B := 24) (n := 3) (B2 := 40) rfl rfl Tryz.underlying23 (by kernel_rfl) (by kernel_rfl) (by decide) Tryz.underlying30 (by kernel_rfl) (by kernel_rfl) (by decide) zOg h1
  obtain ⟨a2, len2, cap2, rfl⟩ := okWide_slice Tryz.underlying24 (hval 2 24 v2 rfl rfl)
  have k2 := h2
  have lt2 : ∀ x ∈ p2, x.block < W.heap.size := by obtain ⟨m, hm⟩ := k2; exact DataW.trod_lt m _ _ _ hm
  obtain ⟨l2, R2, B2⟩ := zNG hsz (j := 2) (n := 1) (B := 8) rfl rfl Tryz.underlying24 (by kernel_rfl) (by kernel_rfl) (by decide) (zOV Tryz.underlying3) h2
  clear hA0 hval0 hsz0 hsz
  refine (Cl.calls (zPI R0 R1 R2)).mono fun e W' ⟨r0, he, hr, bel⟩ => ?_
  subst he; subst hr
  exact ⟨_, rfl, _, _, _, [], _, [], hW', trodAll_mk1 (shut_bool Tryz.underlying4 _), (trodAll_cons_mk (Below.trod laidOut (by kernel_rfl) (of_decide_eq_true (by kernel_rfl)) k0 bel lt0) (trodAll_cons_mk (Below.trod laidOut (by kernel_rfl) (of_decide_eq_true (by kernel_rfl)) k1 bel lt1) (trodAll_cons_mk (Below.trod laidOut (by kernel_rfl) (of_decide_eq_true (by kernel_rfl)) k2 bel lt2) trodAll_mk0))), rfl, bel.frame _, fun h => by cases h⟩
theorem over : Rows.txnBlindRow.holds Tryz.pinned (OpenSpec.ofChange Rows.txnBlindSpec) :=
  OpenClaim.holds_of_wide 3 Tryz.f3 rfl rfl rfl rfl rfl rfl rfl ⟨rfl, rfl, rfl, rfl, rfl⟩ rfl rfl rfl rfl rfl (by kernel_rfl) Tryz.func3 (by kernel_rfl)
    (of_decide_eq_true (by kernel_rfl)) (by unfold Func.isWrapper; first | (rw [if_pos (by decide +kernel)]; kernel_rfl) | (rw [if_neg (by decide +kernel)]; exact ⟨rfl, rfl⟩))
    (fun os started H enc _ => lifted os started H enc)
theorem proved : Rows.TxnBlindSaid := over
#print axioms proved
end Go.Proofs.YtealcoghiaeiiaaGreat.txnBlind
namespace Go.Proofs.YtealcoghiaeiiaaGreat
/-- The row, under a short name, for the claim. -/
theorem txnBlind_holds : Rows.TxnBlindSaid := txnBlind.proved
end Go.Proofs.YtealcoghiaeiiaaGreat
