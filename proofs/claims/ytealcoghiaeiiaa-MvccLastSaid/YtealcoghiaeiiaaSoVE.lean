/- The library's sort of a row by a function that compares: a few steps of insertion; no condition. -/
import Derived.Test.YtealcoghiaeiiaaSoVD
import Derived.Test.YtealcoghiaeiiaaVSortQ
set_option linter.unusedVariables false
namespace Go.Proofs.Ytealcoghiaeiiaa.VG
open Go.VB Go.VB.Srt Go.Proofs

namespace SoCmpFunc_api_Version
section
variable {cmp : Value} {lt : T_api_Version → T_api_Version → Bool} (O : SWO lt) (hcmp : Cmps cmp lt) {base : Nat} {w : World} {s : Sl} {L : Nat} {f : Nat → T_api_Version}
include O hcmp
theorem partial_ok (hO : Ow base w s (tab f L)) {a b : Nat} (hA : a < b) (hb : b ≤ L) (hpre : Pre lt a b f) {k : Bool → World → Prop}
    (H : ∀ r g w', Seg a b f g → (r = true → Sorted lt a b g) → Ow base w' s (tab g L) → w.grownBy w' (Sl.v s).ownBlock → k r w') :
    Cl Try.prog fn_slices_partialInsertionSortCmpFunc_api_Version [Sl.v s, .int .i64 (a : Int), .int .i64 (b : Int), cmp].toArray w (fun e w' => ∃ r0 : Bool, e = .returned (.bool r0) ∧ k r0 w') := by
  refine L1_slices_partialInsertionSortCmpFunc_api_Version s a b cmp w k ?_
  have hlen := hO.len; have hsm := hO.small
  rw [tab_len] at hlen
  unfold V_slices_partialInsertionSortCmpFunc_api_Version
  refine ⟨fun x y w1 => ∃ (i : Nat) (g : Nat → T_api_Version), x = (i : Int) ∧ 0 ≤ y ∧ y ≤ 5 ∧ a + 1 ≤ i ∧ i ≤ b ∧ Seg a b f g ∧ Sorted lt a i g ∧ Ow base w1 s (tab g L) ∧ w.grownBy w1 (Sl.v s).ownBlock, fun _ y _ => (5 - y).toNat, ?_, ?_⟩
  · rw [wr64 (by omega) (by omega)]
    exact ⟨a + 1, f, by omega, by decide, by decide, Nat.le_refl _, by omega, .refl f, Sorted.small (Nat.le_refl _), hO, World.grownBy.refl _ _⟩
  rintro x y w1 ⟨i0, g0, rfl, hy0, hy5, hi1, hi2, hsg0, hso0, hO1, hg1⟩
  unfold V_slices_partialInsertionSortCmpFunc_api_Version_l1b
  refine ⟨fun hc5 => ?_, fun _ => H false g0 w1 hsg0 (fun h => (nomatch h)) hO1 hg1⟩
  -- the next step
  have next : ∀ (i : Nat) (g : Nat → T_api_Version) (w2 : World), a + 1 ≤ i → i ≤ b → Seg a b f g → Sorted lt a i g → Ow base w2 s (tab g L) → w.grownBy w2 (Sl.v s).ownBlock →
      V_slices_partialInsertionSortCmpFunc_api_Version_j2 y (fun x9' x10' w' => (∃ (i : Nat) (g : Nat → T_api_Version), x9' = (i : Int) ∧ 0 ≤ x10' ∧ x10' ≤ 5 ∧ a + 1 ≤ i ∧ i ≤ b ∧ Seg a b f g ∧ Sorted lt a i g ∧ Ow base w' s (tab g L) ∧ w.grownBy w' (Sl.v s).ownBlock) ∧ (5 - x10').toNat < (5 - y).toNat) (i : Int) w2 := by
    intro i g w2 h1 h2 h3 h4 h5 h6
    unfold V_slices_partialInsertionSortCmpFunc_api_Version_j2
    rw [wr64 (by omega) (by omega)]
    exact ⟨⟨i, g, rfl, by omega, by omega, h1, h2, h3, h4, h5, h6⟩, by omega⟩
  generalize hKl : (fun (x9' x10' : Int) (w' : World) => (∃ (i : Nat) (g : Nat → T_api_Version), x9' = (i : Int) ∧ 0 ≤ x10' ∧ x10' ≤ 5 ∧ a + 1 ≤ i ∧ i ≤ b ∧ Seg a b f g ∧ Sorted lt a i g ∧ Ow base w' s (tab g L) ∧ w.grownBy w' (Sl.v s).ownBlock) ∧ (5 - x10').toNat < (5 - y).toNat) = Kl at next
  have j6 : ∀ (i : Nat) (g : Nat → T_api_Version) (w2 : World), a + 1 ≤ i → i ≤ b → Seg a b f g → Sorted lt a i g → Ow base w2 s (tab g L) → w.grownBy w2 (Sl.v s).ownBlock → V_slices_partialInsertionSortCmpFunc_api_Version_j6 s b cmp y Kl (i : Int) w2 := by
    intro i g w2 h1 h2 h3 h4 h5 h6
    unfold V_slices_partialInsertionSortCmpFunc_api_Version_j6
    refine ⟨fun _ => ?_, fun _ => next i g w2 h1 h2 h3 h4 h5 h6⟩
    rw [wr64 (n := (i : Int) + 1) (by omega) (by omega)]
    refine ⟨fun x w3 => ∃ (m : Nat) (h : Nat → T_api_Version), x = (m : Int) ∧ i + 1 ≤ m ∧ m ≤ b + 1 ∧ Seg a b f h ∧ Sorted lt a i h ∧ Ow base w3 s (tab h L) ∧ w.grownBy w3 (Sl.v s).ownBlock, fun x _ => (b + 1 - x).toNat, ?_, ?_⟩
    · exact ⟨i + 1, g, by omega, Nat.le_refl _, by omega, h3, h4, h5, h6⟩
    rintro x w3 ⟨m, h, rfl, hm1, hm2, hsg, hso, hO3, hg3⟩
    unfold V_slices_partialInsertionSortCmpFunc_api_Version_l7b
    refine ⟨fun hc => ?_, fun _ => next i h w3 h1 h2 hsg hso hO3 hg3⟩
    refine Q.elem elemOk hO3 (i' := m) rfl (by omega) ?_
    refine Q.elem elemOk hO3 (i' := m - 1) (by rw [wr64 (by omega) (by omega)]; omega) (by omega) ?_
    obtain ⟨r, hr, hl⟩ := hcmp w3 (h m) (h (m - 1))
    refine ⟨r, hr, ?_⟩
    rw [dec_lt hl]
    intro w4 hb4
    refine ⟨fun _ => next i h w4 h1 h2 hsg hso (hO3.bel hb4) (grown_trans hg3 (grown_bel hb4 _)), fun _ => ?_⟩
    refine S.swap elemOk (hO3.bel hb4) (i' := m) (j' := m - 1) rfl (by rw [wr64 (by omega) (by omega)]; omega) (by omega) (by omega) fun w5 hO5 hg5 => ?_
    unfold V_slices_partialInsertionSortCmpFunc_api_Version_j8
    rw [wr64 (n := (m : Int) + 1) (by omega) (by omega)]
    exact ⟨⟨m + 1, _, by omega, by omega, by omega, .step m (m - 1) (by omega) (by omega) (by omega) (by omega) hsg, hso.congr fun q h7 h8 => swp_o h (by omega) (by omega), hO5, grown_trans (grown_trans hg3 (grown_bel hb4 _)) hg5⟩, by dsimp only; omega⟩
  refine ⟨fun x w2 => ∃ (i : Nat) (g : Nat → T_api_Version), x = (i : Int) ∧ a + 1 ≤ i ∧ i ≤ b ∧ Seg a b f g ∧ Sorted lt a i g ∧ Ow base w2 s (tab g L) ∧ w.grownBy w2 (Sl.v s).ownBlock, fun x _ => (b - x).toNat, ⟨i0, g0, rfl, hi1, hi2, hsg0, hso0, hO1, hg1⟩, ?_⟩
  rintro x w2 ⟨i, g, rfl, hi1, hi2, hsg, hso, hO2, hg2⟩
  unfold V_slices_partialInsertionSortCmpFunc_api_Version_l3b
  generalize hK3 : (fun (x9_2' : Int) (w' : World) => (∃ (i : Nat) (g : Nat → T_api_Version), x9_2' = (i : Int) ∧ a + 1 ≤ i ∧ i ≤ b ∧ Seg a b f g ∧ Sorted lt a i g ∧ Ow base w' s (tab g L) ∧ w.grownBy w' (Sl.v s).ownBlock) ∧ (b - x9_2').toNat < (b - (i : Int)).toNat) = K3
  have stop : ∀ w3, Bel w2 w3 → (i < b → lt (g i) (g (i - 1)) = true) → V_slices_partialInsertionSortCmpFunc_api_Version_r4 s a b cmp k y Kl (i : Int) K3 false w2 := by
    intro w3' hb3' hlt w3 hb3
    have hO3 := hO2.bel hb3
    have hg3 := grown_trans hg2 (grown_bel hb3 _)
    refine ⟨fun h => (nomatch h), fun _ => ⟨fun hib => ?_, fun hib => ⟨fun _ => H false g w3 hsg (fun h => (nomatch h)) hO3 hg3, fun _ => ?_⟩⟩⟩
    · obtain rfl : i = b := by omega
      exact H true g w3 hsg (fun _ => hso) hO3 hg3
    have hib' : i < b := by omega
    refine S.swap elemOk hO3 (i' := i) (j' := i - 1) rfl (by rw [wr64 (by omega) (by omega)]; omega) (by omega) (by omega) fun w4 hO4 hg4 => ?_
    have hg04 := grown_trans hg3 hg4
    have hsg4 : Seg a b f (swp g i (i - 1)) := .step i (i - 1) (by omega) (by omega) (by omega) (by omega) hsg
    have hso4 : Sorted lt a (i - 1) (swp g i (i - 1)) := Sorted.congr (f := g) (fun p q h1 h2 h3 => hso p q h1 h2 (by omega)) fun q h1 h2 => swp_o g (by omega) (by omega)
    unfold V_slices_partialInsertionSortCmpFunc_api_Version_j5
    refine ⟨fun hia => ?_, fun hia => j6 i _ w4 hi1 hi2 hsg4 (Sorted.small (by rw [wr64 (by omega) (by omega)] at hia; omega)) hO4 hg04⟩
    rw [wr64 (by omega) (by omega)] at hia
    rw [wr64 (by omega) (by omega)]
    refine ⟨fun x w5 => ∃ (j : Nat) (h : Nat → T_api_Version), x = (j : Int) ∧ a ≤ j ∧ j ≤ i - 1 ∧ Seg a b f h ∧ Hole lt a (i - 1) j h ∧ Ow base w5 s (tab h L) ∧ w.grownBy w5 (Sl.v s).ownBlock, fun x _ => x.toNat, ⟨i - 1, _, by omega, by omega, Nat.le_refl _, hsg4, Hole.start hso4, hO4, hg04⟩, ?_⟩
    rintro x w5 ⟨j, h, rfl, hj1, hj2, hsg5, hho, hO5, hg5⟩
    unfold V_slices_partialInsertionSortCmpFunc_api_Version_l9b
    have out : ∀ w6, Bel w5 w6 → (j ≤ a ∨ Le lt (h (j - 1)) (h j)) → V_slices_partialInsertionSortCmpFunc_api_Version_j6 s b cmp y Kl (i : Int) w6 := by
      intro w6 hb6 hd
      have := hho.done O hd
      rw [show i - 1 + 1 = i by omega] at this
      exact j6 i h w6 hi1 hi2 hsg5 this (hO5.bel hb6) (grown_trans hg5 (grown_bel hb6 _))
    refine ⟨fun hc => ?_, fun hc => out w5 (Bel.refl _) (.inl (by omega))⟩
    refine Q.elem elemOk hO5 (i' := j) rfl (by omega) ?_
    refine Q.elem elemOk hO5 (i' := j - 1) (by rw [wr64 (by omega) (by omega)]; omega) (by omega) ?_
    obtain ⟨r, hr, hl⟩ := hcmp w5 (h j) (h (j - 1))
    refine ⟨r, hr, ?_⟩
    rw [dec_lt hl]
    intro w6 hb6
    refine ⟨fun hn => out w6 hb6 (.inr (show lt (h j) (h (j - 1)) = false by simpa using hn)), fun hn => ?_⟩
    have hn' : lt (h j) (h (j - 1)) = true := by simpa using hn
    have haj : a < j := by
      rcases Nat.lt_or_ge a j with h1 | h1
      · exact h1
      · obtain rfl : j = a := by omega
        rcases hpre.seg hsg5 with h2 | h2
        · omega
        · have := h2 j (Nat.le_refl _) hA
          unfold Le at this
          rw [hn'] at this; cases this
    refine S.swap elemOk (hO5.bel hb6) (i' := j) (j' := j - 1) rfl (by rw [wr64 (by omega) (by omega)]; omega) (by omega) (by omega) fun w7 hO7 hg7 => ?_
    unfold V_slices_partialInsertionSortCmpFunc_api_Version_j10
    rw [wr64 (n := (j : Int) - 1) (by omega) (by omega)]
    exact ⟨⟨j - 1, _, by omega, by omega, by omega, .step j (j - 1) (by omega) (by omega) (by omega) (by omega) hsg5, hho.step O haj hj2 hn', hO7, grown_trans (grown_trans hg5 (grown_bel hb6 _)) hg7⟩, by dsimp only; omega⟩
  refine ⟨fun hc => ?_, fun hc => stop w2 (Bel.refl _) (fun h => by omega)⟩
  refine Q.elem elemOk hO2 (i' := i) rfl (by omega) ?_
  refine Q.elem elemOk hO2 (i' := i - 1) (by rw [wr64 (by omega) (by omega)]; omega) (by omega) ?_
  obtain ⟨r, hr, hl⟩ := hcmp w2 (g i) (g (i - 1))
  refine ⟨r, hr, ?_⟩
  rw [dec_lt hl]
  cases hlt : lt (g i) (g (i - 1)) with
  | true => exact stop w2 (Bel.refl _) (fun _ => hlt)
  | false =>
    intro w3 hb3
    refine ⟨fun _ => ?_, fun h => (nomatch h)⟩
    rw [wr64 (n := (i : Int) + 1) (by omega) (by omega), ← hK3]
    exact ⟨⟨i + 1, g, by omega, by omega, by omega, hsg, hso.snoc O (by omega) hlt, hO2.bel hb3, grown_trans hg2 (grown_bel hb3 _)⟩, by omega⟩
end
end SoCmpFunc_api_Version
end Go.Proofs.Ytealcoghiaeiiaa.VG
