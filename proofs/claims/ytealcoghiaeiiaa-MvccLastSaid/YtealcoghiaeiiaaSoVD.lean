/- The library's sort of a row by a function that compares: patterns broken; no condition. -/
import Derived.Test.YtealcoghiaeiiaaSoVC
import Derived.Test.YtealcoghiaeiiaaVBits
set_option linter.unusedVariables false
namespace Go.Proofs.Ytealcoghiaeiiaa.VG
open Go.VB Go.VB.Srt Go.Proofs

namespace SoCmpFunc_api_Version
theorem break_ok {cmp : Value} {base : Nat} {w : World} {s : Sl} {L : Nat} {f : Nat → T_api_Version} (hO : Ow base w s (tab f L)) {a b : Nat} (hA : a ≤ b) (hb : b ≤ L) {w0 : World} {k : World → Prop}
    (H : ∀ g w', Seg a b f g → Ow base w' s (tab g L) → w.grownBy w' (Sl.v s).ownBlock → k w') :
    Cl Try.prog fn_slices_breakPatternsCmpFunc_api_Version [Sl.v s, .int .i64 (a : Int), .int .i64 (b : Int), cmp].toArray w (fun e w' => e = .returned (.tuple [].toArray) ∧ k w') := by
  refine L1_slices_breakPatternsCmpFunc_api_Version s a b cmp w k ?_
  have hlen := hO.len; have hsm := hO.small
  rw [tab_len] at hlen
  obtain ⟨n, rfl⟩ : ∃ n, b = a + n := ⟨b - a, by omega⟩
  unfold V_slices_breakPatternsCmpFunc_api_Version
  rw [wr64 (n := ((a + n : Nat) : Int) - a) (by omega) (by omega), show ((a + n : Nat) : Int) - a = (n : Int) by omega]
  refine ⟨fun h8 => ?_, fun _ => H f w (.refl f) hO (World.grownBy.refl _ _)⟩
  refine S.conv (by kernel_rfl) (by kernel_rfl) ?_
  rw [wru64 (by omega) (by omega)]
  refine S.new1 new_slices_xorshift ?_
  have hr0 := Row.new w zero_slices_xorshift ty_slices_xorshift
  have hb1 : Bel w (w.alloc (.cells zero_slices_xorshift.toArray ty_slices_xorshift)) := Bel.alloc _ _
  have hO1 := hO.bel hb1
  have hne : (Sl.v s).ownBlock ≠ some w.heap.size := fun e => by have := (hO.row.lt _ e).2; omega
  have hB0 : w.heap.size ≤ w.heap.size := Nat.le_refl _
  generalize hBd : w.heap.size = B at hr0 hne ⊢
  generalize (w.alloc (.cells zero_slices_xorshift.toArray ty_slices_xorshift)) = w1 at hr0 hb1 hO1 ⊢
  refine S.st0 one_slices_xorshift hr0 rfl rfl fun w2 hr2 hg2 => ?_
  have kept : ∀ {g : Nat → T_api_Version} {w w'}, Ow base w s (tab g L) → w.grownBy w' (some B) → Ow base w' s (tab g L) := fun h hg => h.kept hg (by
    cases hk : (Sl.v s).ownBlock with
    | none => exact .inl rfl
    | some q => exact .inr (by rw [← hk]; exact hne))
  have hO2 := kept hO1 hg2
  have hb2 : Bel w w2 := hb1.grown hg2 (fun r hr => by cases hr; omega)
  refine pow2_ok (by omega) (by omega) fun m hm1 hm2 => ?_
  have hq : (n : Int).tdiv 4 = ((n / 4 : Nat) : Int) := by rw [Int.tdiv_eq_ediv_of_nonneg (by omega)]; omega
  refine S.quo (by decide) (by rw [hq]; omega) (by rw [hq]; omega) ?_
  rw [hq]
  generalize hn4 : n / 4 = q
  have hq1 : 4 * q ≤ n := by omega
  have hq2 : 2 ≤ q := by omega
  rw [wr64 (n := (q : Int) * 2) (by omega) (by omega), wr64 (n := (a : Int) + q * 2) (by omega) (by omega), wr64 (n := (a : Int) + q * 2 - 1) (by omega) (by omega)]
  refine ⟨fun x w3 => ∃ (i : Nat) (g : Nat → T_api_Version) (v : Int), x = (i : Int) ∧ a + 2 * q - 1 ≤ i ∧ i ≤ a + 2 * q + 2 ∧ Seg a (a + n) f g ∧ Ow base w3 s (tab g L) ∧ Row w3 B [.int .u64 v] ty_slices_xorshift ∧ w.heap.size ≤ w3.heap.size ∧ w.grownBy w3 (Sl.v s).ownBlock, fun x _ => (a + 2 * q + 3 - x).toNat, ?_, ?_⟩
  · exact ⟨a + 2 * q - 1, f, _, by omega, by omega, by omega, .refl f, hO2, hr2, hb2.le, grown_bel hb2 _⟩
  rintro x w3 ⟨i, g, v, rfl, hi1, hi2, hsg, hO3, hr3, hsz3, hg3⟩
  unfold V_slices_breakPatternsCmpFunc_api_Version_l1b
  rw [wr64 (n := ((a + n : Nat) : Int) - a) (by omega) (by omega), show ((a + n : Nat) : Int) - a = (n : Int) by omega]
  refine S.quo (by decide) (by rw [hq]; omega) (by rw [hq]; omega) ?_
  rw [hq, hn4, wr64 (n := (q : Int) * 2) (by omega) (by omega), wr64 (n := (a : Int) + q * 2) (by omega) (by omega), wr64 (n := (a : Int) + q * 2 + 1) (by omega) (by omega)]
  refine ⟨fun hc => ?_, fun hc => H g w3 hsg hO3 hg3⟩
  refine draw_ok hr3 fun r v' w4 hr4 hg4 => ?_
  have hO4 := kept hO3 hg4
  rw [wru64 (n := (m : Int) - 1) (by omega) (by omega)]
  refine S.and (by omega) (by omega) fun z hz0 hz1 => ?_
  refine S.conv (by kernel_rfl) (by kernel_rfl) ?_
  rw [wr64 (n := z) (by omega) (by omega)]
  have hgo4 : w.grownBy w4 (Sl.v s).ownBlock := by
    refine ⟨hg4.os.trans hg3.os, hg4.tape.trans hg3.tape, hg4.output.trans hg3.output, Nat.le_trans hg3.size hg4.size, fun k hk hr => ?_⟩
    exact (hg4.block k (Nat.lt_of_lt_of_le hk hg3.size) (fun e => by have := Option.some.inj e; omega)).trans (hg3.block k hk hr)
  have j3 : ∀ y : Nat, y < n → V_slices_breakPatternsCmpFunc_api_Version_j3 s a i (fun x11' w' => (∃ (i : Nat) (g : Nat → T_api_Version) (v : Int), x11' = (i : Int) ∧ a + 2 * q - 1 ≤ i ∧ i ≤ a + 2 * q + 2 ∧ Seg a (a + n) f g ∧ Ow base w' s (tab g L) ∧ Row w' B [.int .u64 v] ty_slices_xorshift ∧ w.heap.size ≤ w'.heap.size ∧ w.grownBy w' (Sl.v s).ownBlock) ∧ (a + 2 * q + 3 - x11').toNat < (a + 2 * q + 3 - (i : Int)).toNat) y w4 := by
    intro y hy
    unfold V_slices_breakPatternsCmpFunc_api_Version_j3
    rw [wr64 (n := (a : Int) + y) (by omega) (by omega)]
    refine S.swap elemOk hO4 (i' := i) (j' := a + y) rfl (by omega) (by omega) (by omega) fun w5 hO5 hg5 => ?_
    unfold V_slices_breakPatternsCmpFunc_api_Version_j2
    rw [wr64 (n := (i : Int) + 1) (by omega) (by omega)]
    exact ⟨⟨i + 1, _, v', by omega, by omega, by omega, .step i (a + y) (by omega) (by omega) (by omega) (by omega) hsg, hO5, hr4.grown hg5 hne, Nat.le_trans hsz3 (Nat.le_trans hg4.size hg5.size), grown_trans hgo4 hg5⟩, by omega⟩
  obtain ⟨y, rfl⟩ : ∃ y : Nat, z = (y : Int) := ⟨z.toNat, by omega⟩
  refine ⟨fun h => ?_, fun h => j3 y (by omega)⟩
  rw [wr64 (n := (y : Int) - n) (by omega) (by omega)]
  have := j3 (y - n) (by omega)
  rw [show ((y - n : Nat) : Int) = (y : Int) - n by omega] at this
  exact this
end SoCmpFunc_api_Version
end Go.Proofs.Ytealcoghiaeiiaa.VG
