/- Facts on versions as lists: what a sweep, a write leave; no condition. -/
import Derived.Test.YtealcoghiaeiiaaMvLives
set_option linter.unusedVariables false
namespace Go.Proofs.Ytealcoghiaeiiaa.VG
open Go.VB Go.VB.Srt Go.Proofs Go.RowKit

theorem keepOne_mem {low : Int} {x z : Ver} {o : Option Ver} : z ∈ keepOne low x o ↔ z = x ∧ (∀ y, o = some y → y.Key = x.Key → low < y.At) ∧ ¬ (x.Gone = true ∧ x.At ≤ low) := by
  unfold keepOne
  by_cases h1 : ∃ y, o = some y ∧ y.Key = x.Key ∧ y.At ≤ low
  · rw [if_pos h1]
    obtain ⟨y, h2, h3, h4⟩ := h1
    exact ⟨fun h => (nomatch h), fun h => by have := h.2.1 y h2 h3; omega⟩
  · rw [if_neg h1]
    by_cases h2 : x.Gone = true ∧ x.At ≤ low
    · rw [if_pos h2]; exact ⟨fun h => (nomatch h), fun h => absurd h2 h.2.2⟩
    · rw [if_neg h2]
      refine ⟨fun h => ⟨by simpa using h, fun y h3 h4 => Int.not_le.1 fun h5 => h1 ⟨y, h3, h4, h5⟩, h2⟩, fun h => by simp [h.1]⟩
/-- What is kept. -/
theorem swp_mem {low : Int} {z : Ver} : ∀ {l : List Ver}, l.Pairwise vlt → (z ∈ swp low l ↔ z ∈ l ∧ (∀ y ∈ l, y.Key = z.Key → z.At < y.At → low < y.At) ∧ ¬ (z.Gone = true ∧ z.At ≤ low))
  | [], _ => by simp [swp]
  | x :: r, hs => by
    rw [List.pairwise_cons] at hs
    rw [swp, List.mem_append, keepOne_mem, swp_mem hs.2]
    have hxr : ∀ y ∈ r, y.Key = x.Key → x.At < y.At := fun y hy hk => by
      rcases hs.1 y hy with h | h
      · rw [hk] at h; exact absurd h (sLt_irr _)
      · exact h.2
    constructor
    · rintro (⟨rfl, h1, h2⟩ | ⟨h1, h2, h3⟩)
      · refine ⟨by simp, fun y hy hk hlt => ?_, h2⟩
        rcases List.mem_cons.1 hy with h3 | h3
        · subst h3; omega
        · cases r with
          | nil => simp at h3
          | cons h r =>
            rcases List.mem_cons.1 h3 with h4 | h4
            · subst h4; exact h1 y rfl hk
            · have h5 := (List.pairwise_cons.1 hs.2).1 y h4
              have h6 := hs.1 h (by simp)
              have hhk : h.Key = z.Key := by
                rcases h5 with h5 | h5
                · rcases h6 with h6 | h6
                  · rw [hk] at h5; exact absurd h6 (sLt_asy h5)
                  · exact h6.1.symm
                · exact h5.1.trans hk
              have h7 := h1 h rfl hhk
              rcases h5 with h5 | h5
              · rw [hk, hhk] at h5; exact absurd h5 (sLt_irr _)
              · omega
      · refine ⟨List.mem_cons_of_mem _ h1, fun y hy hk hlt => ?_, h3⟩
        rcases List.mem_cons.1 hy with h4 | h4
        · subst h4
          have := hxr z h1 hk.symm
          omega
        · exact h2 y h4 hk hlt
    · rintro ⟨h1, h2, h3⟩
      rcases List.mem_cons.1 h1 with h4 | h4
      · left
        subst h4
        refine ⟨rfl, fun y hy hk => ?_, h3⟩
        have hyr : y ∈ r := List.mem_of_mem_head? hy
        exact h2 y (List.mem_cons_of_mem _ hyr) hk (hxr y hyr hk)
      · right
        exact ⟨h4, fun y hy => h2 y (List.mem_cons_of_mem _ hy), h3⟩
theorem keepOne_sub (low : Int) (x : Ver) (o : Option Ver) : (keepOne low x o).Sublist [x] := by
  unfold keepOne; split
  · exact List.nil_sublist _
  · split
    · exact List.nil_sublist _
    · exact List.Sublist.refl _
theorem swp_sub (low : Int) : ∀ l : List Ver, (swp low l).Sublist l
  | [] => List.Sublist.refl _
  | x :: r => by
    rw [swp]
    exact (keepOne_sub low x r.head?).append (swp_sub low r)
theorem swp_good {l : List Ver} {low0 low : Int} (h : GoodV l low0) (hl : low ≤ 2305843009213693952) : GoodV (swp low l) low :=
  good_of (Nat.le_trans (swp_len low l) h.len) hl (fun x hx => h.made ((swp_sub low l).subset hx)) (h.sorted.sublist (swp_sub low l))
theorem vsweep_ok {l : List Ver} {low0 low : Int} (h : (vsweep l low0 low).2.2 = 0) : GoodV l low0 ∧ low0 ≤ low ∧ low ≤ 2305843009213693952 ∧ vsweep l low0 low = (swp low l, low, 0) := by
  unfold vsweep at h ⊢
  by_cases h1 : vchk l low0 = 0
  case neg => rw [if_pos h1] at h; exact absurd h h1
  rw [if_neg (by simp [h1])] at h ⊢
  by_cases h2 : low < low0
  · rw [if_pos h2] at h; exact absurd h (by decide)
  rw [if_neg h2] at h ⊢
  by_cases h3 : 2305843009213693952 < low
  · rw [if_pos h3] at h; exact absurd h (by decide)
  rw [if_neg h3]
  exact ⟨vchk_zero.1 h1, by omega, by omega, rfl⟩
theorem vsweep_err {l : List Ver} {low0 low : Int} (h : (vsweep l low0 low).2.2 ≠ 0) : (vsweep l low0 low).1 = [] := by
  unfold vsweep at h ⊢
  by_cases h1 : vchk l low0 = 0
  case neg => rw [if_pos h1]
  rw [if_neg (by simp [h1])] at h ⊢
  by_cases h2 : low < low0
  · rw [if_pos h2]
  rw [if_neg h2] at h ⊢
  by_cases h3 : 2305843009213693952 < low
  · rw [if_pos h3]
  rw [if_neg h3] at h; exact absurd rfl h
theorem vsweep_of {l : List Ver} {low0 low : Int} (h : GoodV l low0) (h1 : low0 ≤ low) (h2 : low ≤ 2305843009213693952) : vsweep l low0 low = (swp low l, low, 0) := by
  unfold vsweep; rw [if_neg (by simp [vchk_good h]), if_neg (by omega), if_neg (by omega)]
theorem vsweep_hi {l : List Ver} {low0 low : Int} (h : GoodV l low0) (h1 : low0 ≤ low) (h2 : 2305843009213693952 < low) : vsweep l low0 low = ([], 0, 2) := by
  unfold vsweep; rw [if_neg (by simp [vchk_good h]), if_neg (by omega), if_pos h2]
theorem swp_swp {l : List Ver} (hs : l.Pairwise vlt) {a b : Int} (hab : a ≤ b) : swp b (swp a l) = swp b l := by
  have hsa := hs.sublist (swp_sub a l)
  refine sorted_one (hsa.sublist (swp_sub b _)) (hs.sublist (swp_sub b l)) fun z => ?_
  rw [swp_mem hsa, swp_mem hs, swp_mem hs]
  constructor
  · rintro ⟨⟨h1, h2, h3⟩, h4, h5⟩
    refine ⟨h1, fun y hy hk hlt => ?_, h5⟩
    by_cases hya : y ∈ swp a l
    · exact h4 y hya hk hlt
    · rw [swp_mem hs] at hya
      have := h2 y hy hk hlt
      exact absurd ⟨hy, fun y' hy' hk' hlt' => h2 y' hy' (hk'.trans hk) (by omega), fun h6 => by omega⟩ hya
  · rintro ⟨h1, h2, h3⟩
    refine ⟨⟨h1, fun y hy hk hlt => by have := h2 y hy hk hlt; omega, fun h => h3 ⟨h.1, by omega⟩⟩, fun y hy hk hlt => h2 y ((swp_sub a l).subset hy) hk hlt, h3⟩
/-- What is seen hangs on what is there of the key up to the time. -/
theorem sees_congr {l m : List Ver} (hl : l.Pairwise vlt) (hm : m.Pairwise vlt) {key : ByteArray} {s t : Int} (h : ∀ x : Ver, x.Key = key → ((x ∈ l ∧ x.At ≤ s) ↔ (x ∈ m ∧ x.At ≤ t))) : sees l key s = sees m key t := by
  unfold sees
  congr 1
  refine sorted_one (hl.sublist List.filter_sublist) (hm.sublist List.filter_sublist) fun x => ?_
  rw [List.mem_filter, List.mem_filter]
  simp only [Bool.and_eq_true, decide_eq_true_eq]
  constructor
  · rintro ⟨h1, h2, h3⟩; have := (h x h2).1 ⟨h1, h3⟩; exact ⟨this.1, h2, this.2⟩
  · rintro ⟨h1, h2, h3⟩; have := (h x h2).2 ⟨h1, h3⟩; exact ⟨this.1, h2, this.2⟩
/-- From the sweep's time on every key is what it was. -/
theorem swp_sees {l : List Ver} {low0 : Int} (hg : GoodV l low0) {low ask : Int} (ha : low ≤ ask) (key : ByteArray) : outV (sees (swp low l) key ask) = outV (sees l key ask) := by
  have hs := hg.sorted
  have hsw := hs.sublist (swp_sub low l)
  cases h : sees l key ask with
  | none =>
    have : sees (swp low l) key ask = none := sees_none.2 fun x hx => sees_none.1 h x ((swp_sub low l).subset hx)
    rw [this]
  | some x =>
    obtain ⟨h1, h2, h3⟩ := sees_mem h
    have hmax := sees_ge hs h
    by_cases hx : x ∈ swp low l
    · rw [sees_max hsw hx h2 h3 fun y hy => hmax y ((swp_sub low l).subset hy)]
    · have hgone : x.Gone = true ∧ x.At ≤ low := Classical.byContradiction fun hn => hx ((swp_mem hs).2 ⟨h1, fun y hy hk hlt => Int.not_le.1 fun hle => by
        have := hmax y hy (hk.trans h2) (by omega); omega, hn⟩)
      have : sees (swp low l) key ask = none := sees_none.2 fun z hz ⟨hk, hz2⟩ => by
        obtain ⟨z1, z2, z3⟩ := (swp_mem hs).1 hz
        have hzx := hmax z z1 hk hz2
        by_cases he : z.At = x.At
        · have : z = x := by
            have hmem : ∀ p ∈ l, ∀ q ∈ l, p.Key = q.Key → p.At = q.At → p = q := fun p hp q hq hk ha => by
              obtain ⟨i, hi⟩ := List.getElem?_of_mem hp
              obtain ⟨j, hj⟩ := List.getElem?_of_mem hq
              rcases Nat.lt_trichotomy i j with hij | hij | hij
              · rcases pw_get hs hij hi hj with h5 | h5
                · rw [hk] at h5; exact absurd h5 (sLt_irr _)
                · omega
              · subst hij; rw [hi] at hj; exact Option.some.inj hj
              · rcases pw_get hs hij hj hi with h5 | h5
                · rw [hk] at h5; exact absurd h5 (sLt_irr _)
                · omega
            exact hmem z z1 x h1 (hk.trans h2.symm) he
          subst this; exact hx hz
        · have := z2 x h1 (h2.trans hk.symm) (by omega); omega
      rw [this]
      show (noB, false) = (x.Val, !x.Gone)
      rw [hgone.1, (hg.made h1).gone hgone.1]; rfl
theorem swp_low {l : List Ver} (hs : l.Pairwise vlt) {low : Int} {i : Nat} {x : Ver} (hx : (swp low l)[i]? = some x) (ha : x.At ≤ low) : x.Gone = false ∧ ∀ j y, i = j + 1 → (swp low l)[j]? = some y → y.Key ≠ x.Key := by
  have h1 := (swp_mem hs).1 (List.mem_of_getElem? hx)
  refine ⟨?_, fun j y hj hy hk => ?_⟩
  · cases hg : x.Gone with
    | false => rfl
    | true => exact absurd ⟨hg, ha⟩ h1.2.2
  · have h2 := (swp_mem hs).1 (List.mem_of_getElem? hy)
    have h3 := pw_get (hs.sublist (swp_sub low l)) (show j < i by omega) hy hx
    rcases h3 with h3 | h3
    · rw [hk] at h3; exact sLt_irr _ h3
    · have := h2.2.1 x h1.1 hk.symm h3.2; omega

/-! ### Writes -/
theorem putL_mem {l : List Ver} {t : Int} {m : List Wri} {x : Ver} : x ∈ putL l t m ↔ x ∈ l ∨ ∃ w ∈ m, mk t w = x := by
  rw [(putL_perm t m l).mem_iff, List.mem_append, List.mem_map]
theorem vput_ok {l : List Ver} {low : Int} {m : List Wri} {t : Int} (h : (vput l low m t).2.2 = 0) : pwhy l low m t = 0 ∧ vput l low m t = (putL l t m, low, 0) := by
  unfold vput at h ⊢
  by_cases h1 : pwhy l low m t = 0
  · rw [if_neg (by simp [h1])]; exact ⟨h1, rfl⟩
  · rw [if_pos h1] at h; exact absurd h h1
theorem vput_err {l : List Ver} {low : Int} {m : List Wri} {t : Int} (h : (vput l low m t).2.2 ≠ 0) : (vput l low m t).1 = [] := by
  unfold vput at h ⊢
  by_cases h1 : pwhy l low m t = 0
  · rw [if_neg (by simp [h1])] at h; exact absurd rfl h
  · rw [if_pos h1]
theorem mk_made {t : Int} {w : Wri} (h1 : 1 ≤ t) (h2 : t ≤ 2305843009213693952) (hw : ¬ TooLong w) : Made (mk t w) := by
  have h3 : w.Key.size ≤ 256 := Nat.not_lt.1 fun h => hw (.inl h)
  have h4 : w.Val.size ≤ 512 := Nat.not_lt.1 fun h => hw (.inr h)
  refine ⟨h1, h2, fun hg => ?_, h3, ?_⟩
  · unfold mk at hg ⊢; simp only at hg ⊢; rw [if_pos hg]
  · unfold mk; simp only; split
    · decide
    · exact h4
theorem put_sorted {l : List Ver} {low : Int} {m : List Wri} {t : Int} (h : pwhy l low m t = 0) : (putL l t m).Pairwise vlt := by
  obtain ⟨g1, g2, g3, g4, g5, g6, g7⟩ := pwhy_zero.1 h
  exact putL_sorted m l g1.sorted (wwrong_zero.1 g2).2.2 fun w _ y hy _ => g6 y hy
theorem put_good {l : List Ver} {low : Int} {m : List Wri} {t : Int} (h : pwhy l low m t = 0) : GoodV (putL l t m) low := by
  obtain ⟨g1, g2, g3, g4, g5, g6, g7⟩ := pwhy_zero.1 h
  refine good_of (by rw [putL_len]; exact g7) g1.low (fun x hx => ?_) (put_sorted h)
  rcases putL_mem.1 hx with h1 | ⟨w, h1, rfl⟩
  · exact g1.made h1
  · exact mk_made g3 g4 ((wwrong_zero.1 g2).2.1 w h1)
theorem put_past {l : List Ver} {low : Int} {m : List Wri} {t ask : Int} (h : pwhy l low m t = 0) (ha : ask < t) (key : ByteArray) : sees (putL l t m) key ask = sees l key ask := by
  obtain ⟨g1, _⟩ := pwhy_zero.1 h
  refine sees_congr (put_sorted h) g1.sorted fun x _ => ?_
  rw [putL_mem]
  constructor
  · rintro ⟨h1 | ⟨w, h1, rfl⟩, h2⟩
    · exact ⟨h1, h2⟩
    · have : t ≤ ask := h2; omega
  · rintro ⟨h1, h2⟩; exact ⟨.inl h1, h2⟩
theorem put_other {l : List Ver} {low : Int} {m : List Wri} {t ask : Int} (h : pwhy l low m t = 0) (ha : t ≤ ask) {key : ByteArray} (hk : ∀ w ∈ m, w.Key ≠ key) : sees (putL l t m) key ask = sees l key t := by
  obtain ⟨g1, _, _, _, _, g6, _⟩ := pwhy_zero.1 h
  refine sees_congr (put_sorted h) g1.sorted fun x hxk => ?_
  rw [putL_mem]
  constructor
  · rintro ⟨h1 | ⟨w, h1, rfl⟩, h2⟩
    · exact ⟨h1, by have := g6 x h1; omega⟩
    · exact absurd hxk (hk w h1)
  · rintro ⟨h1, h2⟩; exact ⟨.inl h1, by omega⟩
theorem put_hit {l : List Ver} {low : Int} {m : List Wri} {t ask : Int} (h : pwhy l low m t = 0) (ha : t ≤ ask) {w : Wri} (hw : w ∈ m) : sees (putL l t m) w.Key ask = some (mk t w) := by
  obtain ⟨g1, _, _, _, _, g6, _⟩ := pwhy_zero.1 h
  refine sees_max (put_sorted h) (putL_mem.2 (.inr ⟨w, hw, rfl⟩)) rfl ha fun y hy _ _ => ?_
  rcases putL_mem.1 hy with h1 | ⟨v, h1, rfl⟩
  · have := g6 y h1; show y.At ≤ t; omega
  · exact Int.le_refl _
/-- The last version of a key is what is seen at any time behind it. -/
theorem lastAt_of {l : List Ver} {low : Int} (hg : GoodV l low) (key : ByteArray) : (lastAt l key = 0 ∧ ∀ x ∈ l, x.Key ≠ key) ∨ ∃ x, x ∈ l ∧ x.Key = key ∧ lastAt l key = x.At ∧ 1 ≤ x.At ∧ ∀ t, x.At ≤ t → sees l key t = some x := by
  have he := lastAt_sees (fun x hx => (hg.made hx).hi) key
  cases h : sees l key 2305843009213693952 with
  | none =>
    rw [h] at he
    exact .inl ⟨he.symm, fun x hx hk => sees_none.1 h x hx ⟨hk, (hg.made hx).hi⟩⟩
  | some x =>
    rw [h] at he
    obtain ⟨h1, h2, h3⟩ := sees_mem h
    exact .inr ⟨x, h1, h2, he.symm, (hg.made h1).lo, fun t ht => sees_max hg.sorted h1 h2 ht fun y hy hk _ => sees_ge hg.sorted h y hy hk (hg.made hy).hi⟩
theorem vget_ok {l : List Ver} {low t : Int} (hg : GoodV l low) (ht : low ≤ t) (key : ByteArray) : vget l low key t = ((outV (sees l key t)).1, (outV (sees l key t)).2, 0) := by
  unfold vget; rw [if_neg (by rw [vask_zero.2 ⟨hg, ht⟩]; decide)]
theorem vget_low {l : List Ver} {low t : Int} (hg : GoodV l low) (ht : t < low) (key : ByteArray) : vget l low key t = (noB, false, 9) := by
  have : vask l low t = 9 := by unfold vask; rw [if_neg (by simp [vchk_good hg]), if_pos ht]
  unfold vget; rw [this]; rfl
theorem vlast_ok {l : List Ver} {low : Int} (hg : GoodV l low) (key : ByteArray) : vlast l low key = (lastAt l key, 0) := by
  unfold vlast; rw [if_neg (by simp [vchk_good hg])]
theorem vlast_err {l : List Ver} {low : Int} {key : ByteArray} (h : (vlast l low key).2 ≠ 0) : (vlast l low key).1 = 0 := by
  unfold vlast at h ⊢
  by_cases h1 : vchk l low = 0
  · rw [if_neg (by simp [h1])] at h; exact absurd rfl h
  · rw [if_pos h1]
theorem vlast_good {l : List Ver} {low : Int} {key : ByteArray} (h : (vlast l low key).2 = 0) : GoodV l low := by
  unfold vlast at h
  by_cases h1 : vchk l low = 0
  · exact vchk_zero.1 h1
  · rw [if_pos h1] at h; exact absurd h h1
end Go.Proofs.Ytealcoghiaeiiaa.VG
