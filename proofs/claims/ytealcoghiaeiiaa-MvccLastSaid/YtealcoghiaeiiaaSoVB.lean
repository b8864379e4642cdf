/- The library's sort of a row by a function that compares: heaps, the row turned round, medians; no condition. -/
import Derived.Test.YtealcoghiaeiiaaSoVA
set_option linter.unusedVariables false
namespace Go.Proofs.Ytealcoghiaeiiaa.VG
open Go.VB Go.VB.Srt Go.Proofs

namespace SoCmpFunc_api_Version
section
variable {cmp : Value} {lt : T_api_Version → T_api_Version → Bool} (O : SWO lt) (hcmp : Cmps cmp lt) {base : Nat} {w : World} {s : Sl} {L : Nat} {f : Nat → T_api_Version}
include O hcmp
theorem sift_ok (hO : Ow base w s (tab f L)) {lo hi o : Nat} (hb : o + hi ≤ L) (hlo : lo ≤ hi) (hp : Hp lt o (lo + 1) hi f) {k : World → Prop}
    (H : ∀ g w', Seg (o + lo) (o + hi) f g → Hp lt o lo hi g → Ow base w' s (tab g L) → w.grownBy w' (Sl.v s).ownBlock → k w') :
    Cl Try.prog fn_slices_siftDownCmpFunc_api_Version [Sl.v s, .int .i64 (lo : Int), .int .i64 (hi : Int), .int .i64 (o : Int), cmp].toArray w (fun e w' => e = .returned (.tuple [].toArray) ∧ k w') := by
  refine L1_slices_siftDownCmpFunc_api_Version s lo hi o cmp w k ?_
  have hlen := hO.len; have hsm := hO.small
  rw [tab_len] at hlen
  unfold V_slices_siftDownCmpFunc_api_Version
  refine ⟨fun x w1 => ∃ (r : Nat) (g : Nat → T_api_Version), x = (r : Int) ∧ lo ≤ r ∧ r ≤ hi ∧ Seg (o + lo) (o + hi) f g ∧ HpX lt o lo hi r g ∧ Ow base w1 s (tab g L) ∧ w.grownBy w1 (Sl.v s).ownBlock, fun x _ => (hi - x).toNat, ?_, ?_⟩
  · exact ⟨lo, f, rfl, Nat.le_refl _, hlo, .refl f, HpX.start hp, hO, World.grownBy.refl _ _⟩
  rintro x w1 ⟨r, g, rfl, hr1, hr2, hsg, hx, hO1, hg1⟩
  unfold V_slices_siftDownCmpFunc_api_Version_l1b
  rw [wr64 (n := 2 * (r : Int)) (by omega) (by omega), wr64 (n := 2 * (r : Int) + 1) (by omega) (by omega)]
  refine ⟨fun hc => H g w1 hsg (hx.done O fun c h1 h2 => by unfold Child at h1; omega) hO1 hg1, fun hc => ?_⟩
  -- the greater child is c
  have j2 : ∀ (c : Nat) (w2 : World), Bel w1 w2 → Child c r → c < hi → (∀ d, Child d r → d < hi → Le lt (g (o + d)) (g (o + c))) →
      V_slices_siftDownCmpFunc_api_Version_j2 s o cmp k r (fun x10' w' => (∃ (r : Nat) (g : Nat → T_api_Version), x10' = (r : Int) ∧ lo ≤ r ∧ r ≤ hi ∧ Seg (o + lo) (o + hi) f g ∧ HpX lt o lo hi r g ∧ Ow base w' s (tab g L) ∧ w.grownBy w' (Sl.v s).ownBlock) ∧ (hi - x10').toNat < (hi - (r : Int)).toNat) c w2 := by
    intro c w2 hb2 hcr hch hmax
    have hrc : r < c := by unfold Child at hcr; omega
    have hO2 := hO1.bel hb2
    unfold V_slices_siftDownCmpFunc_api_Version_j2
    rw [wr64 (n := (o : Int) + r) (by omega) (by omega), wr64 (n := (o : Int) + c) (by omega) (by omega)]
    refine Q.elem elemOk hO2 (i' := o + r) (by omega) (by omega) ?_
    refine Q.elem elemOk hO2 (i' := o + c) (by omega) (by omega) ?_
    obtain ⟨q, hq, hl⟩ := hcmp w2 (g (o + r)) (g (o + c))
    refine ⟨q, hq, ?_⟩
    rw [dec_lt hl]
    intro w3 hb3
    refine ⟨fun hn => ?_, fun hn => ?_⟩
    · have hn' : lt (g (o + r)) (g (o + c)) = false := by simpa using hn
      exact H g w3 hsg (hx.done O fun d h1 h2 => O.trans (hmax d h1 h2) hn') (hO2.bel hb3) (grown_trans (grown_trans hg1 (grown_bel hb2 _)) (grown_bel hb3 _))
    · have hn' : lt (g (o + r)) (g (o + c)) = true := by simpa using hn
      refine S.swap elemOk (hO2.bel hb3) (i' := o + r) (j' := o + c) (by omega) (by omega) (by omega) (by omega) fun w4 hO4 hg4 => ?_
      unfold V_slices_siftDownCmpFunc_api_Version_j3
      exact ⟨⟨c, _, rfl, by omega, by omega, .step (o + r) (o + c) (by omega) (by omega) (by omega) (by omega) hsg, hx.step O hr1 hcr hch hmax hn', hO4, grown_trans (grown_trans (grown_trans hg1 (grown_bel hb2 _)) (grown_bel hb3 _)) hg4⟩, by omega⟩
  rw [wr64 (n := 2 * (r : Int) + 1 + 1) (by omega) (by omega), wr64 (n := (o : Int) + (2 * r + 1)) (by omega) (by omega)]
  refine ⟨fun hc2 => ?_, fun hc2 => ?_⟩
  · rw [wr64 (n := (o : Int) + (2 * r + 1) + 1) (by omega) (by omega)]
    refine Q.elem elemOk hO1 (i' := o + (2 * r + 1)) (by omega) (by omega) ?_
    refine Q.elem elemOk hO1 (i' := o + (2 * r + 2)) (by omega) (by omega) ?_
    obtain ⟨q, hq, hl⟩ := hcmp w1 (g (o + (2 * r + 1))) (g (o + (2 * r + 2)))
    refine ⟨q, hq, ?_⟩
    rw [dec_lt hl]
    unfold V_slices_siftDownCmpFunc_api_Version_r4
    rw [wr64 (n := 2 * (r : Int)) (by omega) (by omega), wr64 (n := 2 * (r : Int) + 1) (by omega) (by omega), wr64 (n := 2 * (r : Int) + 1 + 1) (by omega) (by omega)]
    intro w2 hb2
    refine ⟨fun hn => ?_, fun hn => ?_⟩
    · have := j2 (2 * r + 2) w2 hb2 (.inr rfl) (by omega) fun d hd hdh => by
        rcases hd with rfl | rfl
        · exact O.of_lt hn
        · exact O.refl _
      rw [show ((2 * r + 2 : Nat) : Int) = 2 * (r : Int) + 1 + 1 by omega] at this
      exact this
    · have := j2 (2 * r + 1) w2 hb2 (.inl rfl) (by omega) fun d hd hdh => by
        rcases hd with rfl | rfl
        · exact O.refl _
        · exact hn
      rw [show ((2 * r + 1 : Nat) : Int) = 2 * (r : Int) + 1 by omega] at this
      exact this
  · unfold V_slices_siftDownCmpFunc_api_Version_r4
    rw [wr64 (n := 2 * (r : Int)) (by omega) (by omega), wr64 (n := 2 * (r : Int) + 1) (by omega) (by omega)]
    intro w2 hb2
    refine ⟨fun h => (nomatch h), fun _ => ?_⟩
    have := j2 (2 * r + 1) w2 hb2 (.inl rfl) (by omega) fun d hd hdh => by
        rcases hd with rfl | rfl
        · exact O.refl _
        · omega
    rw [show ((2 * r + 1 : Nat) : Int) = 2 * (r : Int) + 1 by omega] at this
    exact this

theorem heap_ok (hO : Ow base w s (tab f L)) {a b : Nat} (hA : a ≤ b) (hb : b ≤ L) {k : World → Prop}
    (H : ∀ g w', Seg a b f g → Sorted lt a b g → Ow base w' s (tab g L) → w.grownBy w' (Sl.v s).ownBlock → k w') :
    Cl Try.prog fn_slices_heapSortCmpFunc_api_Version [Sl.v s, .int .i64 (a : Int), .int .i64 (b : Int), cmp].toArray w (fun e w' => e = .returned (.tuple [].toArray) ∧ k w') := by
  refine L1_slices_heapSortCmpFunc_api_Version s a b cmp w k ?_
  have hlen := hO.len; have hsm := hO.small
  rw [tab_len] at hlen
  unfold V_slices_heapSortCmpFunc_api_Version
  rw [wr64 (n := (b : Int) - a) (by omega) (by omega), wr64 (n := (b : Int) - a - 1) (by omega) (by omega)]
  have hq : ∃ q : Nat, ((b : Int) - a - 1).tdiv 2 = (q : Int) ∧ b - a ≤ 2 * q + 2 ∧ q ≤ b - a := by
    by_cases h0 : a = b
    · subst h0; exact ⟨0, by rw [show (a : Int) - a - 1 = -1 by omega]; rfl, by omega, by omega⟩
    · refine ⟨(b - a - 1) / 2, ?_, by omega, by omega⟩
      rw [Int.tdiv_eq_ediv_of_nonneg (by omega)]; omega
  obtain ⟨q, hq1, hq2, hq3⟩ := hq
  refine S.quo (by decide) (by rw [hq1]; omega) (by rw [hq1]; omega) ?_
  rw [hq1]
  obtain ⟨n, rfl⟩ : ∃ n, b = a + n := ⟨b - a, by omega⟩
  refine ⟨fun x w1 => ∃ (i : Nat) (g : Nat → T_api_Version), x = (i : Int) - 1 ∧ i ≤ n + 1 ∧ Seg a (a + n) f g ∧ Hp lt a i n g ∧ Ow base w1 s (tab g L) ∧ w.grownBy w1 (Sl.v s).ownBlock, fun x _ => (x + 1).toNat, ?_, ?_⟩
  · exact ⟨q + 1, f, by omega, by omega, .refl f, fun i c h1 h2 h3 => by unfold Child at h2; omega, hO, World.grownBy.refl _ _⟩
  rintro x w1 ⟨i, g, rfl, hi, hsg, hp, hO1, hg1⟩
  unfold V_slices_heapSortCmpFunc_api_Version_l1b
  rw [wr64 (n := ((a + n : Nat) : Int) - a) (by omega) (by omega)]
  refine ⟨fun hc => ?_, fun hc => ?_⟩
  · obtain ⟨m, rfl⟩ : ∃ m, i = m + 1 := ⟨i - 1, by omega⟩
    rw [show ((m + 1 : Nat) : Int) - 1 = (m : Int) by omega, show ((a + n : Nat) : Int) - a = (n : Int) by omega]
    refine sift_ok O hcmp hO1 (lo := m) (hi := n) (o := a) hb (by omega) hp fun h w2 hsg2 hp2 hO2 hg2 => ?_
    rw [wr64 (by omega) (by omega)]
    exact ⟨⟨m, h, rfl, by omega, hsg.trans (hsg2.mono (by omega) (Nat.le_refl _)), hp2, hO2, grown_trans hg1 hg2⟩, by dsimp only; omega⟩
  · obtain rfl : i = 0 := by omega
    rw [wr64 (n := ((a + n : Nat) : Int) - a - 1) (by omega) (by omega)]
    refine ⟨fun x w2 => ∃ (i : Nat) (g : Nat → T_api_Version), x = (i : Int) - 1 ∧ i ≤ n ∧ Seg a (a + n) f g ∧ HS lt a (a + n) i g ∧ Ow base w2 s (tab g L) ∧ w.grownBy w2 (Sl.v s).ownBlock, fun x _ => (x + 1).toNat, ?_, ?_⟩
    · exact ⟨n, g, by omega, Nat.le_refl _, hsg, ⟨hp, fun i j h1 h2 h3 => by omega, fun k q h1 h2 h3 h4 => by omega⟩, hO1, hg1⟩
    rintro x w2 ⟨i, g, rfl, hi, hsg, hs, hO2, hg2⟩
    unfold V_slices_heapSortCmpFunc_api_Version_l2b
    refine ⟨fun hc => ?_, fun hc => ?_⟩
    · obtain ⟨m, rfl⟩ : ∃ m, i = m + 1 := ⟨i - 1, by omega⟩
      rw [show ((m + 1 : Nat) : Int) - 1 = (m : Int) by omega, wr64 (n := (a : Int) + m) (by omega) (by omega)]
      refine S.swap elemOk hO2 (i' := a) (j' := a + m) rfl (by omega) (by omega) (by omega) fun w3 hO3 hg3 => ?_
      unfold V_slices_heapSortCmpFunc_api_Version_j3
      refine sift_ok O hcmp hO3 (lo := 0) (hi := m) (o := a) (by omega) (by omega) (fun i c h1 h2 h3 => ?_) fun h w4 hsg4 hp4 hO4 hg4 => ?_
      · rw [swp_o g (by unfold Child at h2; omega) (by unfold Child at h2; omega), swp_o g (by omega) (by unfold Child at h2; omega)]
        exact hs.hp i c (by omega) h2 (by omega)
      · rw [wr64 (by omega) (by omega)]
        rw [Nat.add_zero] at hsg4
        exact ⟨⟨m, h, rfl, by omega, (hsg.trans (Seg.one g (by omega) (by omega) (by omega) (by omega))).trans (hsg4.mono (Nat.le_refl _) (by omega)), hs.step O (by omega) hsg4 hp4, hO4, grown_trans (grown_trans hg2 hg3) hg4⟩, by dsimp only; omega⟩
    · obtain rfl : i = 0 := by omega
      exact H g w2 hsg hs.so hO2 hg2
end
theorem reverse_ok {cmp : Value} {base : Nat} {w : World} {s : Sl} {L : Nat} {f : Nat → T_api_Version} (hO : Ow base w s (tab f L)) {a b : Nat} (hA : a ≤ b) (hb : b ≤ L) {k : World → Prop}
    (H : ∀ g w', Seg a b f g → Ow base w' s (tab g L) → w.grownBy w' (Sl.v s).ownBlock → k w') :
    Cl Try.prog fn_slices_reverseRangeCmpFunc_api_Version [Sl.v s, .int .i64 (a : Int), .int .i64 (b : Int), cmp].toArray w (fun e w' => e = .returned (.tuple [].toArray) ∧ k w') := by
  refine L1_slices_reverseRangeCmpFunc_api_Version s a b cmp w k ?_
  have hlen := hO.len; have hsm := hO.small
  rw [tab_len] at hlen
  unfold V_slices_reverseRangeCmpFunc_api_Version
  refine ⟨fun x y w1 => ∃ (i : Nat) (g : Nat → T_api_Version), x = (i : Int) ∧ a ≤ i ∧ i ≤ b ∧ -1 ≤ y ∧ y < b ∧ Seg a b f g ∧ Ow base w1 s (tab g L) ∧ w.grownBy w1 (Sl.v s).ownBlock, fun x y _ => (y - x).toNat, ?_, ?_⟩
  · rw [wr64 (by omega) (by omega)]
    exact ⟨a, f, rfl, Nat.le_refl _, hA, by omega, by omega, .refl f, hO, World.grownBy.refl _ _⟩
  rintro x y w1 ⟨i, g, rfl, hi, hib, hy1, hy2, hsg, hO1, hg1⟩
  unfold V_slices_reverseRangeCmpFunc_api_Version_l1b
  refine ⟨fun hc => ?_, fun hc => H g w1 hsg hO1 hg1⟩
  refine S.swap elemOk hO1 (i' := i) (j' := y.toNat) rfl (by omega) (by omega) (by omega) fun w3 hO3 hg3 => ?_
  unfold V_slices_reverseRangeCmpFunc_api_Version_j2
  rw [wr64 (n := (i : Int) + 1) (by omega) (by omega), wr64 (n := y - 1) (by omega) (by omega)]
  exact ⟨⟨i + 1, _, by omega, by omega, by omega, by omega, by omega, .step i y.toNat (by omega) (by omega) (by omega) (by omega) hsg, hO3, grown_trans hg1 hg3⟩, by dsimp only; omega⟩
end SoCmpFunc_api_Version
end Go.Proofs.Ytealcoghiaeiiaa.VG
