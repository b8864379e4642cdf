/- The search by halves in versions, and the last version of a key as of a time; no condition. -/
import Derived.Test.YtealcoghiaeiiaaMvCmp
import Derived.Test.YtealcoghiaeiiaaVBits
set_option linter.unusedVariables false
namespace Go.Proofs.Ytealcoghiaeiiaa.VG
open Go.VB Go.VB.Srt Go.Proofs Go.RowKit

theorem pw_get {l : List Ver} (hs : l.Pairwise vlt) {i j : Nat} {x y : Ver} (h : i < j) (hx : l[i]? = some x) (hy : l[j]? = some y) : vlt x y := by
  have a := List.getElem?_eq_some_iff.1 hx; have b := List.getElem?_eq_some_iff.1 hy
  have := List.pairwise_iff_getElem.1 hs i j a.1 b.1 h
  rw [a.2, b.2] at this; exact this
theorem fdiv2 (n : Nat) : ((n : Int)).fdiv (2 ^ (min (1 : Int).toNat IntKind.u64.bits)) = ((n / 2 : Nat) : Int) := by
  rw [show min (1 : Int).toNat IntKind.u64.bits = 1 by decide, Int.fdiv_eq_ediv_of_nonneg _ (by decide)]
  omega
theorem search_ok {w : World} {s : Sl} {l : List Ver} (h : VerRd w s l) (hs : l.Pairwise vlt) (t : Ver) {k : Int → Bool → World → Prop}
    (H : ∀ (i : Nat) (b : Bool) w', i ≤ l.length → (∀ j x, j < i → l[j]? = some x → vlt x t) → (∀ j x, i ≤ j → l[j]? = some x → ¬ vlt x t) → (b = true ↔ ∃ x, l[i]? = some x ∧ x.Key = t.Key ∧ x.At = t.At) → Bel w w' → k (i : Int) b w') :
    Cl Try.prog fn_slices_BinarySearchFunc_api_Version_api_Version_api_Version [Sl.v s, T_api_Version.v t, .func (.func fn_mvcc_order) #[] #[]].toArray w (fun e w' => ∃ (r0 : Int) (r1 : Bool), e = .returned (.tuple [.int .i64 r0, .bool r1].toArray) ∧ k r0 r1 w') := by
  refine L1_slices_BinarySearchFunc_api_Version_api_Version_api_Version s t _ w k ?_
  have hlen := h.len; have hbig := h.big
  unfold V_slices_BinarySearchFunc_api_Version_api_Version_api_Version
  refine S.boxA (cs := t.cells) rfl ?_
  have ht := At.new w t.cells ty_api_Version
  have b1 : Bel w (w.alloc (.cells t.cells.toArray ty_api_Version)) := Bel.alloc _ _
  generalize w.heap.size = B1 at ht ⊢
  generalize (w.alloc (.cells t.cells.toArray ty_api_Version)) = w1 at ht b1 ⊢
  refine ⟨fun x y W => ∃ i j : Nat, x = (i : Int) ∧ y = (j : Int) ∧ i ≤ j ∧ j ≤ l.length ∧ Bel w1 W ∧ (∀ n x, n < i → l[n]? = some x → vlt x t) ∧ (∀ n x, j ≤ n → l[n]? = some x → ¬ vlt x t), fun x y _ => (y - x).toNat,
    ⟨0, l.length, rfl, by omega, by omega, by omega, Bel.refl _, fun n x hn => by omega, fun n x hn hx => by have := (List.getElem?_eq_some_iff.1 hx).1; omega⟩, ?_⟩
  rintro x y W ⟨i, j, rfl, rfl, hij, hj, hb, hlo, hhi⟩
  have hb0 := b1.trans hb
  unfold V_slices_BinarySearchFunc_api_Version_api_Version_api_Version_l1b
  refine ⟨fun hlt => ?_, fun hlt => ?_⟩
  · rw [wr64 (by omega) (by omega)]
    refine S.conv (by kernel_rfl) (by kernel_rfl) ?_
    rw [show IntKind.wrap .u64 ((i : Int) + (j : Int)) = ((i + j : Nat) : Int) by unfold IntKind.wrap; simp [IntKind.signed, IntKind.bits]; omega]
    refine ⟨_, W, run_shr (by decide) W, ?_⟩
    rw [fdiv2]
    refine S.conv (by kernel_rfl) (by kernel_rfl) ?_
    rw [wr64 (by omega) (by omega)]
    obtain ⟨e, he⟩ : ∃ e, l[(i + j) / 2]? = some e := ⟨l[(i + j) / 2]'(by omega), by simp⟩
    refine Q.idx (h.bel hb0) und_L_api_Version esz_L_api_Version (by omega) (x := e) (by rw [Int.toNat_natCast]; exact he) fun ad hA => ?_
    refine Q.ldA agg_api_Version e rfl hA rfl ?_
    refine Q.ldA agg_api_Version t rfl (ht.bel hb) rfl ?_
    refine ⟨ordI e t, order_call e t W, ?_⟩
    intro W2 hb2
    refine ⟨fun hr => ?_, fun hr => ?_⟩
    · rw [wr64 (by omega) (by omega)]
      have hv := ordI_lt.1 hr
      refine ⟨⟨(i + j) / 2 + 1, j, by omega, rfl, by omega, hj, hb.trans hb2, fun n x hn hx => ?_, hhi⟩, by dsimp only; omega⟩
      rcases Nat.lt_or_ge n ((i + j) / 2) with h1 | h1
      · exact vlt_tr (pw_get hs h1 hx he) hv
      · obtain rfl : n = (i + j) / 2 := by omega
        rw [he] at hx; cases hx; exact hv
    · have hv : ¬ vlt e t := fun h1 => hr (ordI_lt.2 h1)
      refine ⟨⟨i, (i + j) / 2, rfl, rfl, by omega, by omega, hb.trans hb2, hlo, fun n x hn hx => ?_⟩, by dsimp only; omega⟩
      rcases Nat.lt_or_ge ((i + j) / 2) n with h1 | h1
      · exact fun h2 => hv (vlt_tr (pw_get hs h1 he hx) h2)
      · obtain rfl : n = (i + j) / 2 := by omega
        rw [he] at hx; cases hx; exact hv
  · obtain rfl : i = j := by omega
    refine ⟨fun hl => ?_, fun hl => ?_⟩
    · obtain ⟨e, he⟩ : ∃ e, l[i]? = some e := ⟨l[i]'(by omega), by simp⟩
      refine Q.idx (h.bel hb0) und_L_api_Version esz_L_api_Version (by omega) (x := e) (by simpa using he) fun ad hA => ?_
      refine Q.ldA agg_api_Version e rfl hA rfl ?_
      refine Q.ldA agg_api_Version t rfl (ht.bel hb) rfl ?_
      refine ⟨ordI e t, order_call e t W, ?_⟩
      intro W2 hb2
      refine H i _ W2 hj hlo hhi ?_ (hb0.trans hb2)
      rw [decide_eq_true_iff, ordI_zero]
      exact ⟨fun h1 => ⟨e, he, h1⟩, fun ⟨x, hx, h1⟩ => by rw [he] at hx; cases hx; exact h1⟩
    · intro W2 hb2
      refine H i _ W2 hj hlo hhi ?_ (hb0.trans hb2)
      exact ⟨fun h => (nomatch h), fun ⟨x, hx, _⟩ => by have := (List.getElem?_eq_some_iff.1 hx).1; omega⟩
/-- What the place of a time among versions tells. -/
theorem place_no {l : List Ver} (hs : l.Pairwise vlt) {key : ByteArray} {t : Int} {i : Nat} (hhi : ∀ j x, i ≤ j → l[j]? = some x → ¬ vlt x ⟨key, t, noB, false⟩)
    (hb : ¬ ∃ x, l[i]? = some x ∧ x.Key = key ∧ x.At = t) {x : Ver} {j : Nat} (hx : l[j]? = some x) (hk : x.Key = key) (ht : x.At ≤ t) : j < i := by
  rcases Nat.lt_or_ge j i with h | h
  · exact h
  · have h1 := hhi j x h hx
    have h2 : x.At = t := by
      have : ¬ x.At < t := fun h3 => h1 (.inr ⟨hk, h3⟩)
      omega
    rcases Nat.lt_or_ge i j with h3 | h3
    · obtain ⟨y, hy⟩ : ∃ y, l[i]? = some y := ⟨l[i]'(by have := (List.getElem?_eq_some_iff.1 hx).1; omega), by simp⟩
      have h4 := pw_get hs h3 hy hx
      refine absurd ?_ (hhi i y (Nat.le_refl _) hy)
      rcases h4 with h4 | h4
      · left; rw [← hk]; exact h4
      · right; rw [← hk, ← h2]; exact h4
    · obtain rfl : j = i := by omega
      exact absurd ⟨x, hx, hk, h2⟩ hb
theorem place_hit {l : List Ver} (hs : l.Pairwise vlt) {key : ByteArray} {t : Int} {i : Nat} {x : Ver} (hx : l[i]? = some x) (hk : x.Key = key) (ht : x.At = t) : sees l key t = some x :=
  sees_max hs (List.mem_of_getElem? hx) hk (by omega) fun y _ _ h => by omega
theorem place_low {l : List Ver} (hs : l.Pairwise vlt) {key : ByteArray} {t : Int} {i : Nat} (hlo : ∀ j x, j < i → l[j]? = some x → vlt x ⟨key, t, noB, false⟩) (hhi : ∀ j x, i ≤ j → l[j]? = some x → ¬ vlt x ⟨key, t, noB, false⟩)
    (hb : ¬ ∃ x, l[i]? = some x ∧ x.Key = key ∧ x.At = t) : (i = 0 → sees l key t = none) ∧ ∀ j y, i = j + 1 → l[j]? = some y → (y.Key = key → sees l key t = some y) ∧ (y.Key ≠ key → sees l key t = none) := by
  refine ⟨fun h0 => ?_, fun j y hj hy => ⟨fun hk => ?_, fun hk => ?_⟩⟩
  · rw [sees_none]
    rintro x hx ⟨h1, h2⟩
    obtain ⟨n, hn⟩ := List.getElem?_of_mem hx
    have := place_no hs hhi hb hn h1 h2
    omega
  · have hy1 := hlo j y (by omega) hy
    have hyt : y.At < t := by
      rcases hy1 with h1 | h1
      · rw [hk] at h1; exact absurd h1 (sLt_irr _)
      · exact h1.2
    refine sees_max hs (List.mem_of_getElem? hy) hk (by omega) fun x hx h1 h2 => ?_
    obtain ⟨n, hn⟩ := List.getElem?_of_mem hx
    have := place_no hs hhi hb hn h1 h2
    rcases Nat.lt_or_ge n j with h3 | h3
    · rcases pw_get hs h3 hn hy with h4 | h4
      · rw [h1, hk] at h4; exact absurd h4 (sLt_irr _)
      · omega
    · obtain rfl : n = j := by omega
      rw [hy] at hn; cases hn; exact Int.le_refl _
  · have hy1 := hlo j y (by omega) hy
    have hyk : sLt y.Key key = true := by
      rcases hy1 with h1 | h1
      · exact h1
      · exact absurd h1.1 hk
    rw [sees_none]
    rintro x hx ⟨h1, h2⟩
    obtain ⟨n, hn⟩ := List.getElem?_of_mem hx
    have := place_no hs hhi hb hn h1 h2
    rcases Nat.lt_or_ge n j with h3 | h3
    · have h4 := vlt_key (pw_get hs h3 hn hy)
      rw [h1] at h4; exact h4 hyk
    · obtain rfl : n = j := by omega
      rw [hy] at hn; cases hn; exact hk h1
abbrev zeroV : Ver := ⟨noB, 0, noB, false⟩
def verOr : Option Ver → Ver
  | none => zeroV
  | some x => x
theorem last_ok {w : World} {s : Sl} {l : List Ver} (h : VerRd w s l) (hs : l.Pairwise vlt) (key : ByteArray) (t : Int) {k : Ver → Bool → World → Prop}
    (H : ∀ w', Bel w w' → k (verOr (sees l key t)) (sees l key t).isSome w') :
    Cl Try.prog fn_mvcc_last [Sl.v s, .string key, .int .u64 t].toArray w (fun e w' => ∃ (r0 : Ver) (r1 : Bool), e = .returned (.tuple [T_api_Version.v r0, .bool r1].toArray) ∧ k r0 r1 w') := by
  refine L1_mvcc_last s key t w k ?_
  have hlen := h.len; have hbig := h.big
  unfold V_mvcc_last
  refine S.new1 new_api_Version ?_
  have hrow := Row.new w zero_api_Version ty_api_Version
  have b1 : Bel w (w.alloc (.cells (zero_api_Version).toArray ty_api_Version)) := Bel.alloc _ _
  have hR : w.heap.size ≤ w.heap.size := Nat.le_refl _
  generalize hB : w.heap.size = B1 at hrow hR ⊢
  generalize (w.alloc (.cells (zero_api_Version).toArray ty_api_Version)) = w1 at hrow b1 ⊢
  refine ⟨⟨key, t, noB, false⟩, w1, by kernel_rfl, ?_⟩
  refine search_ok (h.bel b1) hs ⟨key, t, noB, false⟩ fun i b w2 hi hlo hhi hbb b2 => ?_
  have b02 := b1.trans b2
  have hrow2 := hrow.bel b2
  have fin : ∀ (x : Ver) (bb : Bool), verOr (sees l key t) = x → (sees l key t).isSome = bb → ∀ w3, Row w3 B1 x.cells ty_api_Version → w2.grownBy w3 (some B1) → opR Try.prog T_api_Version.v ty_api_Version (some ⟨B1, 0, none⟩) w3 (fun q => k q bb w3) := by
    intro x bb h1 h2 w3 hr3 hg
    refine R.agg agg_api_Version x rfl hr3.at rfl ?_
    rw [← h1, ← h2]
    exact H w3 (b02.grown hg (fun q hq => by cases hq; omega))
  have no : sees l key t = none → V_mvcc_last_r2 s k (some ⟨B1, 0, none⟩) ((i : Int) - 1) true w2 := by
    intro hn
    unfold V_mvcc_last_r2
    refine ⟨fun _ => ?_, fun h => (nomatch h)⟩
    refine ⟨zeroV, w2, by kernel_rfl, ?_⟩
    refine S.stA agg_api_Version hrow2 rfl rfl rfl fun w3 hr3 hg => ?_
    exact fin zeroV false (by rw [hn]; rfl) (by rw [hn]; rfl) w3 hr3 hg
  have yes : ∀ (n : Nat) (x : Ver), l[n]? = some x → sees l key t = some x → V_mvcc_last_r2 s k (some ⟨B1, 0, none⟩) (n : Int) false w2 := by
    intro n x hx hn
    unfold V_mvcc_last_r2
    refine ⟨fun h => (nomatch h), fun _ => ?_⟩
    refine S.idx (h.bel b02) und_L_api_Version esz_L_api_Version (by omega) (x := x) (by simpa using hx) fun ad hA => ?_
    refine S.ldA agg_api_Version x rfl hA rfl ?_
    refine S.stA agg_api_Version hrow2 rfl rfl rfl fun w3 hr3 hg => ?_
    exact fin x true (by rw [hn]; rfl) (by rw [hn]; rfl) w3 hr3 hg
  refine ⟨fun hf => ?_, fun hf => ?_⟩
  · have hb0 : ¬ ∃ x, l[i]? = some x ∧ x.Key = key ∧ x.At = t := fun hx => by rw [hbb.2 hx] at hf; cases hf
    obtain ⟨p0, p1⟩ := place_low hs hlo hhi hb0
    rw [wr64 (by omega) (by omega)]
    unfold V_mvcc_last_j1
    refine ⟨fun hi0 => no (p0 (by omega)), fun hi0 => ?_⟩
    obtain ⟨y, hy⟩ : ∃ y, l[i - 1]? = some y := ⟨l[i - 1]'(by omega), by simp⟩
    obtain ⟨p2, p3⟩ := p1 (i - 1) y (by omega) hy
    refine S.idx (h.bel b02) und_L_api_Version esz_L_api_Version (by omega) (x := y) (by rw [show ((i : Int) - 1).toNat = i - 1 by omega]; exact hy) fun ad hA => ?_
    refine S.fld fld_api_Version_Key one_string hA y.Key rfl ?_
    by_cases hk : y.Key = key
    · rw [decide_eq_false (fun h => h hk), show (i : Int) - 1 = ((i - 1 : Nat) : Int) by omega]
      exact yes _ y hy (p2 hk)
    · rw [decide_eq_true hk]
      exact no (p3 hk)
  · have hb1 : b = true := by cases b <;> simp_all
    obtain ⟨x, hx, hk, ht⟩ := hbb.1 hb1
    unfold V_mvcc_last_j1
    refine ⟨fun hi0 => by omega, fun hi0 => ?_⟩
    refine S.idx (h.bel b02) und_L_api_Version esz_L_api_Version (by omega) (x := x) (by simpa using hx) fun ad hA => ?_
    refine S.fld fld_api_Version_Key one_string hA x.Key rfl ?_
    rw [decide_eq_false (fun h => h hk)]
    exact yes i x hx (place_hit hs hx hk ht)
end Go.Proofs.Ytealcoghiaeiiaa.VG
