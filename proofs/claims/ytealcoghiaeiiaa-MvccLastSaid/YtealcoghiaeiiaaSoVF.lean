/- The library's sort of a row by a function that compares: a row parted about one of its own; no condition. -/
import Derived.Test.YtealcoghiaeiiaaSoVE
set_option linter.unusedVariables false
namespace Go.Proofs.Ytealcoghiaeiiaa.VG
open Go.VB Go.VB.Srt Go.Proofs

namespace SoCmpFunc_api_Version
section
variable {cmp : Value} {lt : T_api_Version → T_api_Version → Bool} (O : SWO lt) (hcmp : Cmps cmp lt) {base : Nat} {w : World} {s : Sl} {L : Nat} {f : Nat → T_api_Version}
include O hcmp
theorem equal_ok (hO : Ow base w s (tab f L)) {a b p : Nat} (hA : a ≤ p) (hp : p < b) (hb : b ≤ L) {k : Int → World → Prop}
    (H : ∀ (m : Nat) g w', a < m → m ≤ b → Seg a b f g → (∀ q, a ≤ q → q < m → Le lt (g q) (f p)) → Ow base w' s (tab g L) → w.grownBy w' (Sl.v s).ownBlock → k m w') :
    Cl Try.prog fn_slices_partitionEqualCmpFunc_api_Version [Sl.v s, .int .i64 (a : Int), .int .i64 (b : Int), .int .i64 (p : Int), cmp].toArray w (fun e w' => ∃ r0 : Int, e = .returned (.int .i64 r0) ∧ k r0 w') := by
  refine L1_slices_partitionEqualCmpFunc_api_Version s a b p cmp w k ?_
  have hlen := hO.len; have hsm := hO.small
  rw [tab_len] at hlen
  unfold V_slices_partitionEqualCmpFunc_api_Version
  refine S.swap elemOk hO (i' := a) (j' := p) rfl rfl (by omega) (by omega) fun w1 hO1 hg1 => ?_
  have hs1 : Seg a b f (swp f a p) := Seg.one f (by omega) (by omega) (by omega) (by omega)
  have ha1 : swp f a p a = f p := swp_i f a p
  generalize (swp f a p) = f1 at hO1 hs1 ha1
  unfold V_slices_partitionEqualCmpFunc_api_Version_j1
  rw [wr64 (n := (a : Int) + 1) (by omega) (by omega), wr64 (n := (b : Int) - 1) (by omega) (by omega)]
  refine ⟨fun x y w2 => ∃ (i j : Nat) (g : Nat → T_api_Version), x = (i : Int) ∧ y = (j : Int) ∧ a < i ∧ a ≤ j ∧ i ≤ j + 1 ∧ j < b ∧ Seg a b f g ∧ g a = f p ∧ Pt (fun q z => !(lt q z)) a b i j g ∧ Ow base w2 s (tab g L) ∧ w.grownBy w2 (Sl.v s).ownBlock, fun x y _ => (y + 1 - x).toNat, ?_, ?_⟩
  · exact ⟨a + 1, b - 1, f1, by omega, by omega, by omega, by omega, by omega, by omega, hs1, ha1, Pt.start _ a b f1, hO1, hg1⟩
  rintro x y w2 ⟨i0, j0, g, rfl, rfl, hi0, hj0, hij0, hjb, hsg, hga, hpt0, hO2, hg2⟩
  unfold V_slices_partitionEqualCmpFunc_api_Version_l2b
  generalize hKl2 : (fun (x11' x12' : Int) (w' : World) => (∃ (i j : Nat) (g : Nat → T_api_Version), x11' = (i : Int) ∧ x12' = (j : Int) ∧ a < i ∧ a ≤ j ∧ i ≤ j + 1 ∧ j < b ∧ Seg a b f g ∧ g a = f p ∧ Pt (fun q z => !(lt q z)) a b i j g ∧ Ow base w' s (tab g L) ∧ w.grownBy w' (Sl.v s).ownBlock) ∧ (x12' + 1 - x11').toNat < ((j0 : Int) + 1 - (i0 : Int)).toNat) = Kl2
  refine ⟨fun x w3 => ∃ i : Nat, x = (i : Int) ∧ i0 ≤ i ∧ i ≤ j0 + 1 ∧ Pt (fun q z => !(lt q z)) a b i j0 g ∧ Bel w2 w3, fun x _ => (j0 + 1 - x).toNat, ⟨i0, rfl, Nat.le_refl _, hij0, hpt0, Bel.refl _⟩, ?_⟩
  rintro x w3 ⟨i, rfl, hi1, hi2, hpt, hb3⟩
  have hO3 := hO2.bel hb3
  unfold V_slices_partitionEqualCmpFunc_api_Version_l3b
  generalize hKl3 : (fun (x11_1' : Int) (w' : World) => (∃ i : Nat, x11_1' = (i : Int) ∧ i0 ≤ i ∧ i ≤ j0 + 1 ∧ Pt (fun q z => !(lt q z)) a b i j0 g ∧ Bel w2 w') ∧ (j0 + 1 - x11_1').toNat < ((j0 : Int) + 1 - (i : Int)).toNat) = Kl3
  -- from above
  have down : ∀ w4, Bel w3 w4 → (i ≤ j0 → lt (g a) (g i) = true) → V_slices_partitionEqualCmpFunc_api_Version_r4 s a cmp k (j0 : Int) Kl2 (i : Int) Kl3 false w3 := by
    intro w4' hb4' hlti w4 hb4
    refine ⟨fun h => (nomatch h), fun _ => ?_⟩
    refine ⟨fun y w5 => ∃ j : Nat, y = (j : Int) ∧ a ≤ j ∧ i ≤ j + 1 ∧ j ≤ j0 ∧ Pt (fun q z => !(lt q z)) a b i j g ∧ Bel w2 w5, fun y _ => y.toNat, ⟨j0, rfl, hj0, hi2, Nat.le_refl _, hpt, hb3.trans hb4⟩, ?_⟩
    rintro y w5 ⟨j, rfl, hj1, hj2, hj3, hptj, hb5⟩
    have hO5 := hO2.bel hb5
    unfold V_slices_partitionEqualCmpFunc_api_Version_l5b
    generalize hKl5 : (fun (x12_1' : Int) (w' : World) => (∃ j : Nat, x12_1' = (j : Int) ∧ a ≤ j ∧ i ≤ j + 1 ∧ j ≤ j0 ∧ Pt (fun q z => !(lt q z)) a b i j g ∧ Bel w2 w') ∧ x12_1'.toNat < ((j : Int)).toNat) = Kl5
    have stop : (i ≤ j → lt (g a) (g j) = false) → V_slices_partitionEqualCmpFunc_api_Version_r6 s k Kl2 (i : Int) (j : Int) Kl5 false w5 := by
      intro hltj w6 hb6
      have hO6 := hO5.bel hb6
      have hg6 := grown_trans hg2 (grown_bel (hb5.trans hb6) (Sl.v s).ownBlock)
      refine ⟨fun h => (nomatch h), fun _ => ⟨fun hc => ?_, fun hc => ?_⟩⟩
      · refine H i g w6 (by omega) (by omega) hsg (fun q h1 h2 => ?_) hO6 hg6
        rw [← hga]
        by_cases hq : q = a
        · rw [hq]; exact O.refl _
        · have := hptj.lo q (by omega) h2
          unfold Le; simpa using this
      · have hij : i < j := by
          rcases Nat.lt_or_ge i j with h1 | h1
          · exact h1
          · obtain rfl : i = j := by omega
            have h2 := hlti (by omega)
            have h3 := hltj (Nat.le_refl _)
            rw [h2] at h3; cases h3
        refine S.swap elemOk hO6 (i' := i) (j' := j) rfl rfl (by omega) (by omega) fun w7 hO7 hg7 => ?_
        unfold V_slices_partitionEqualCmpFunc_api_Version_j7
        rw [wr64 (n := (i : Int) + 1) (by omega) (by omega), wr64 (n := (j : Int) - 1) (by omega) (by omega), ← hKl2]
        exact ⟨⟨i + 1, j - 1, _, by omega, by omega, by omega, by omega, by omega, by omega, .step i j (by omega) (by omega) (by omega) (by omega) hsg, by rw [swp_o g (by omega) (by omega)]; exact hga,
          hptj.swap (by omega) hij (by simp [hlti (by omega)]) (by simp [hltj (by omega)]), hO7, grown_trans hg6 hg7⟩, by omega⟩
    refine ⟨fun hc => ?_, fun hc => stop (fun h => by omega)⟩
    refine Q.elem elemOk hO5 (i' := a) rfl (by omega) ?_
    refine Q.elem elemOk hO5 (i' := j) rfl (by omega) ?_
    obtain ⟨r, hr, hl⟩ := hcmp w5 (g a) (g j)
    refine ⟨r, hr, ?_⟩
    rw [dec_lt hl]
    cases hlt : lt (g a) (g j) with
    | false => exact stop (fun _ => hlt)
    | true =>
      intro w6 hb6
      refine ⟨fun _ => ?_, fun h => (nomatch h)⟩
      rw [wr64 (n := (j : Int) - 1) (by omega) (by omega), ← hKl5]
      exact ⟨⟨j - 1, by omega, by omega, by omega, by omega, hptj.decr (by simp [hlt]), hb5.trans hb6⟩, by omega⟩
  refine ⟨fun hc => ?_, fun hc => down w3 (Bel.refl _) (fun h => by omega)⟩
  refine Q.elem elemOk hO3 (i' := a) rfl (by omega) ?_
  refine Q.elem elemOk hO3 (i' := i) rfl (by omega) ?_
  obtain ⟨r, hr, hl⟩ := hcmp w3 (g a) (g i)
  refine ⟨r, hr, ?_⟩
  rw [dec_lt hl]
  cases hlt : lt (g a) (g i) with
  | true => exact down w3 (Bel.refl _) (fun _ => hlt)
  | false =>
    intro w4 hb4
    refine ⟨fun _ => ?_, fun h => (nomatch h)⟩
    rw [wr64 (n := (i : Int) + 1) (by omega) (by omega), ← hKl3]
    exact ⟨⟨i + 1, by omega, by omega, by omega, hpt.incr (by simp [hlt]), hb3.trans hb4⟩, by omega⟩

theorem part_ok (hO : Ow base w s (tab f L)) {a b p : Nat} (hA : a ≤ p) (hp : p < b) (hb : b ≤ L) {k : Int → Bool → World → Prop}
    (H : ∀ (m : Nat) (r : Bool) g w', a ≤ m → m < b → Seg a b f g → PartOk lt a b m g → Ow base w' s (tab g L) → w.grownBy w' (Sl.v s).ownBlock → k m r w') :
    Cl Try.prog fn_slices_partitionCmpFunc_api_Version [Sl.v s, .int .i64 (a : Int), .int .i64 (b : Int), .int .i64 (p : Int), cmp].toArray w (fun e w' => ∃ (r0 : Int) (r1 : Bool), e = .returned (.tuple [.int .i64 r0, .bool r1].toArray) ∧ k r0 r1 w') := by
  refine L1_slices_partitionCmpFunc_api_Version s a b p cmp w k ?_
  have hlen := hO.len; have hsm := hO.small
  rw [tab_len] at hlen
  unfold V_slices_partitionCmpFunc_api_Version
  refine S.swap elemOk hO (i' := a) (j' := p) rfl rfl (by omega) (by omega) fun w1 hO1 hg1 => ?_
  have hs1 : Seg a b f (swp f a p) := Seg.one f (by omega) (by omega) (by omega) (by omega)
  generalize (swp f a p) = f1 at hO1 hs1
  unfold V_slices_partitionCmpFunc_api_Version_j1
  rw [wr64 (n := (a : Int) + 1) (by omega) (by omega)]
  have hbm : IntKind.wrap .i64 ((b : Int) - 1) = ((b - 1 : Nat) : Int) := by rw [wr64 (by omega) (by omega)]; omega
  -- the main loop, from i, j on
  have main : ∀ (i0 j0 : Nat) (g0 : Nat → T_api_Version) (w0 : World), a < i0 → a ≤ j0 → i0 ≤ j0 + 1 → j0 < b → Seg a b f g0 → Pt (fun q z => lt z q) a b i0 j0 g0 → Ow base w0 s (tab g0 L) → w.grownBy w0 (Sl.v s).ownBlock →
      ∃ (I : Int → Int → World → Prop) (μ : Int → Int → World → Nat), I (i0 : Int) (j0 : Int) w0 ∧ ∀ (x12_1 : Int) (x13_1 : Int) w, I x12_1 x13_1 w → V_slices_partitionCmpFunc_api_Version_l8b s a cmp k x12_1 x13_1 w (fun x12_1' x13_1' w' => I x12_1' x13_1' w' ∧ μ x12_1' x13_1' w' < μ x12_1 x13_1 w) := by
    intro i0 j0 g0 w0 h1 h2 h3 h4 h5 h6 h7 h8
    refine ⟨fun x y w2 => ∃ (i j : Nat) (g : Nat → T_api_Version), x = (i : Int) ∧ y = (j : Int) ∧ a < i ∧ a ≤ j ∧ i ≤ j + 1 ∧ j < b ∧ Seg a b f g ∧ Pt (fun q z => lt z q) a b i j g ∧ Ow base w2 s (tab g L) ∧ w.grownBy w2 (Sl.v s).ownBlock, fun x y _ => (y + 1 - x).toNat, ⟨i0, j0, g0, rfl, rfl, h1, h2, h3, h4, h5, h6, h7, h8⟩, ?_⟩
    rintro x y w2 ⟨i0, j0, g, rfl, rfl, hi0, hj0, hij0, hjb, hsg, hpt0, hO2, hg2⟩
    unfold V_slices_partitionCmpFunc_api_Version_l8b
    generalize hKl8 : (fun (x12' x13' : Int) (w' : World) => (∃ (i j : Nat) (g : Nat → T_api_Version), x12' = (i : Int) ∧ x13' = (j : Int) ∧ a < i ∧ a ≤ j ∧ i ≤ j + 1 ∧ j < b ∧ Seg a b f g ∧ Pt (fun q z => lt z q) a b i j g ∧ Ow base w' s (tab g L) ∧ w.grownBy w' (Sl.v s).ownBlock) ∧ (x13' + 1 - x12').toNat < ((j0 : Int) + 1 - (i0 : Int)).toNat) = Kl8
    refine ⟨fun x w3 => ∃ i : Nat, x = (i : Int) ∧ i0 ≤ i ∧ i ≤ j0 + 1 ∧ Pt (fun q z => lt z q) a b i j0 g ∧ Bel w2 w3, fun x _ => (j0 + 1 - x).toNat, ⟨i0, rfl, Nat.le_refl _, hij0, hpt0, Bel.refl _⟩, ?_⟩
    rintro x w3 ⟨i, rfl, hi1, hi2, hpt, hb3⟩
    have hO3 := hO2.bel hb3
    unfold V_slices_partitionCmpFunc_api_Version_l9b
    generalize hKl9 : (fun (x12_2' : Int) (w' : World) => (∃ i : Nat, x12_2' = (i : Int) ∧ i0 ≤ i ∧ i ≤ j0 + 1 ∧ Pt (fun q z => lt z q) a b i j0 g ∧ Bel w2 w') ∧ (j0 + 1 - x12_2').toNat < ((j0 : Int) + 1 - (i : Int)).toNat) = Kl9
    have down : (i ≤ j0 → lt (g i) (g a) = false) → V_slices_partitionCmpFunc_api_Version_r10 s a cmp k (j0 : Int) Kl8 (i : Int) Kl9 false w3 := by
      intro hlti w4 hb4
      refine ⟨fun h => (nomatch h), fun _ => ?_⟩
      refine ⟨fun y w5 => ∃ j : Nat, y = (j : Int) ∧ a ≤ j ∧ i ≤ j + 1 ∧ j ≤ j0 ∧ Pt (fun q z => lt z q) a b i j g ∧ Bel w2 w5, fun y _ => y.toNat, ⟨j0, rfl, hj0, hi2, Nat.le_refl _, hpt, hb3.trans hb4⟩, ?_⟩
      rintro y w5 ⟨j, rfl, hj1, hj2, hj3, hptj, hb5⟩
      have hO5 := hO2.bel hb5
      unfold V_slices_partitionCmpFunc_api_Version_l11b
      generalize hKl11 : (fun (x13_2' : Int) (w' : World) => (∃ j : Nat, x13_2' = (j : Int) ∧ a ≤ j ∧ i ≤ j + 1 ∧ j ≤ j0 ∧ Pt (fun q z => lt z q) a b i j g ∧ Bel w2 w') ∧ x13_2'.toNat < ((j : Int)).toNat) = Kl11
      have stop : (i ≤ j → lt (g j) (g a) = true) → V_slices_partitionCmpFunc_api_Version_r12 s a k Kl8 (i : Int) (j : Int) Kl11 false w5 := by
        intro hltj w6 hb6
        have hO6 := hO5.bel hb6
        have hg6 := grown_trans hg2 (grown_bel (hb5.trans hb6) (Sl.v s).ownBlock)
        refine ⟨fun h => (nomatch h), fun _ => ⟨fun hc => ?_, fun hc => ?_⟩⟩
        · refine S.swap elemOk hO6 (i' := j) (j' := a) rfl rfl (by omega) (by omega) fun w7 hO7 hg7 => ?_
          unfold V_slices_partitionCmpFunc_api_Version_j13
          exact H j false _ w7 hj1 (by omega) (.step j a (by omega) (by omega) (by omega) (by omega) hsg) (hptj.done O hj1 (by omega)) hO7 (grown_trans hg6 hg7)
        · have hij : i < j := by
            rcases Nat.lt_or_ge i j with h1 | h1
            · exact h1
            · obtain rfl : i = j := by omega
              have h2 := hlti (by omega)
              have h3 := hltj (Nat.le_refl _)
              rw [h2] at h3; cases h3
          refine S.swap elemOk hO6 (i' := i) (j' := j) rfl rfl (by omega) (by omega) fun w7 hO7 hg7 => ?_
          unfold V_slices_partitionCmpFunc_api_Version_j14
          rw [wr64 (n := (i : Int) + 1) (by omega) (by omega), wr64 (n := (j : Int) - 1) (by omega) (by omega), ← hKl8]
          exact ⟨⟨i + 1, j - 1, _, by omega, by omega, by omega, by omega, by omega, by omega, .step i j (by omega) (by omega) (by omega) (by omega) hsg,
            hptj.swap (by omega) hij (hlti (by omega)) (hltj (by omega)), hO7, grown_trans hg6 hg7⟩, by omega⟩
      refine ⟨fun hc => ?_, fun hc => stop (fun h => by omega)⟩
      refine Q.elem elemOk hO5 (i' := j) rfl (by omega) ?_
      refine Q.elem elemOk hO5 (i' := a) rfl (by omega) ?_
      obtain ⟨r, hr, hl⟩ := hcmp w5 (g j) (g a)
      refine ⟨r, hr, ?_⟩
      rw [dec_lt hl]
      cases hlt : lt (g j) (g a) with
      | true => exact stop (fun _ => hlt)
      | false =>
        intro w6 hb6
        refine ⟨fun _ => ?_, fun h => (nomatch h)⟩
        rw [wr64 (n := (j : Int) - 1) (by omega) (by omega), ← hKl11]
        exact ⟨⟨j - 1, by omega, by omega, by omega, by omega, hptj.decr hlt, hb5.trans hb6⟩, by omega⟩
    refine ⟨fun hc => ?_, fun hc => down (fun h => by omega)⟩
    refine Q.elem elemOk hO3 (i' := i) rfl (by omega) ?_
    refine Q.elem elemOk hO3 (i' := a) rfl (by omega) ?_
    obtain ⟨r, hr, hl⟩ := hcmp w3 (g i) (g a)
    refine ⟨r, hr, ?_⟩
    rw [dec_lt hl]
    cases hlt : lt (g i) (g a) with
    | false => exact down (fun _ => hlt)
    | true =>
      intro w4 hb4
      refine ⟨fun _ => ?_, fun h => (nomatch h)⟩
      rw [wr64 (n := (i : Int) + 1) (by omega) (by omega), ← hKl9]
      exact ⟨⟨i + 1, by omega, by omega, by omega, hpt.incr hlt, hb3.trans hb4⟩, by omega⟩
  -- ahead of it: from below, then from above
  refine ⟨fun x w3 => ∃ i : Nat, x = (i : Int) ∧ a < i ∧ i ≤ b - 1 + 1 ∧ Pt (fun q z => lt z q) a b i (b - 1) f1 ∧ Bel w1 w3, fun x _ => (b + 1 - x).toNat, ⟨a + 1, by omega, by omega, by omega, Pt.start _ a b f1, Bel.refl _⟩, ?_⟩
  rintro x w3 ⟨i, rfl, hi1, hi2, hpt, hb3⟩
  have hO3 := hO1.bel hb3
  unfold V_slices_partitionCmpFunc_api_Version_l2b
  generalize hKl2 : (fun (x12' : Int) (w' : World) => (∃ i : Nat, x12' = (i : Int) ∧ a < i ∧ i ≤ b - 1 + 1 ∧ Pt (fun q z => lt z q) a b i (b - 1) f1 ∧ Bel w1 w') ∧ (b + 1 - x12').toNat < ((b : Int) + 1 - (i : Int)).toNat) = Kl2
  rw [hbm]
  have down : (i ≤ b - 1 → lt (f1 i) (f1 a) = false) → V_slices_partitionCmpFunc_api_Version_r3 s a b cmp k (i : Int) Kl2 false w3 := by
    intro hlti
    unfold V_slices_partitionCmpFunc_api_Version_r3
    intro w4 hb4
    refine ⟨fun h => (nomatch h), fun _ => ?_⟩
    rw [hbm]
    refine ⟨fun y w5 => ∃ j : Nat, y = (j : Int) ∧ a ≤ j ∧ i ≤ j + 1 ∧ j ≤ b - 1 ∧ Pt (fun q z => lt z q) a b i j f1 ∧ Bel w1 w5, fun y _ => y.toNat, ⟨b - 1, rfl, by omega, hi2, Nat.le_refl _, hpt, hb3.trans hb4⟩, ?_⟩
    rintro y w5 ⟨j, rfl, hj1, hj2, hj3, hptj, hb5⟩
    have hO5 := hO1.bel hb5
    unfold V_slices_partitionCmpFunc_api_Version_l4b
    generalize hKl4 : (fun (x13' : Int) (w' : World) => (∃ j : Nat, x13' = (j : Int) ∧ a ≤ j ∧ i ≤ j + 1 ∧ j ≤ b - 1 ∧ Pt (fun q z => lt z q) a b i j f1 ∧ Bel w1 w') ∧ x13'.toNat < ((j : Int)).toNat) = Kl4
    have stop : (i ≤ j → lt (f1 j) (f1 a) = true) → V_slices_partitionCmpFunc_api_Version_r5 s a cmp k (i : Int) (j : Int) Kl4 false w5 := by
      intro hltj w6 hb6
      have hO6 := hO5.bel hb6
      have hg6 := grown_trans hg1 (grown_bel (hb5.trans hb6) (Sl.v s).ownBlock)
      refine ⟨fun h => (nomatch h), fun _ => ⟨fun hc => ?_, fun hc => ?_⟩⟩
      · refine S.swap elemOk hO6 (i' := j) (j' := a) rfl rfl (by omega) (by omega) fun w7 hO7 hg7 => ?_
        unfold V_slices_partitionCmpFunc_api_Version_j6
        exact H j true _ w7 hj1 (by omega) (.step j a (by omega) (by omega) (by omega) (by omega) hs1) (hptj.done O hj1 (by omega)) hO7 (grown_trans hg6 hg7)
      · have hij : i < j := by
          rcases Nat.lt_or_ge i j with h1 | h1
          · exact h1
          · obtain rfl : i = j := by omega
            have h2 := hlti (by omega)
            have h3 := hltj (Nat.le_refl _)
            rw [h2] at h3; cases h3
        refine S.swap elemOk hO6 (i' := i) (j' := j) rfl rfl (by omega) (by omega) fun w7 hO7 hg7 => ?_
        unfold V_slices_partitionCmpFunc_api_Version_j7
        rw [wr64 (n := (i : Int) + 1) (by omega) (by omega), wr64 (n := (j : Int) - 1) (by omega) (by omega), show (i : Int) + 1 = ((i + 1 : Nat) : Int) by omega, show (j : Int) - 1 = ((j - 1 : Nat) : Int) by omega]
        exact main (i + 1) (j - 1) _ w7 (by omega) (by omega) (by omega) (by omega) (.step i j (by omega) (by omega) (by omega) (by omega) hs1) (hptj.swap (by omega) hij (hlti (by omega)) (hltj (by omega))) hO7 (grown_trans hg6 hg7)
    refine ⟨fun hc => ?_, fun hc => stop (fun h => by omega)⟩
    refine Q.elem elemOk hO5 (i' := j) rfl (by omega) ?_
    refine Q.elem elemOk hO5 (i' := a) rfl (by omega) ?_
    obtain ⟨r, hr, hl⟩ := hcmp w5 (f1 j) (f1 a)
    refine ⟨r, hr, ?_⟩
    rw [dec_lt hl]
    cases hlt : lt (f1 j) (f1 a) with
    | true => exact stop (fun _ => hlt)
    | false =>
      intro w6 hb6
      refine ⟨fun _ => ?_, fun h => (nomatch h)⟩
      rw [wr64 (n := (j : Int) - 1) (by omega) (by omega), ← hKl4]
      exact ⟨⟨j - 1, by omega, by omega, by omega, by omega, hptj.decr hlt, hb5.trans hb6⟩, by omega⟩
  refine ⟨fun hc => ?_, fun hc => down (fun h => by omega)⟩
  refine Q.elem elemOk hO3 (i' := i) rfl (by omega) ?_
  refine Q.elem elemOk hO3 (i' := a) rfl (by omega) ?_
  obtain ⟨r, hr, hl⟩ := hcmp w3 (f1 i) (f1 a)
  refine ⟨r, hr, ?_⟩
  rw [dec_lt hl]
  cases hlt : lt (f1 i) (f1 a) with
  | false => exact down (fun _ => hlt)
  | true =>
    intro w4 hb4
    refine ⟨fun _ => ?_, fun h => (nomatch h)⟩
    rw [wr64 (n := (i : Int) + 1) (by omega) (by omega), ← hKl2]
    exact ⟨⟨i + 1, by omega, by omega, by omega, hpt.incr hlt, hb3.trans hb4⟩, by omega⟩
end
end SoCmpFunc_api_Version
end Go.Proofs.Ytealcoghiaeiiaa.VG
