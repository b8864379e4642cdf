/- Rows of the call's own that are turned by swaps: the steps over a condition; no condition. -/
import Derived.Test.YtealcoghiaeiiaaVSortP
import Derived.Test.YtealcoghiaeiiaaVCell
set_option linter.unusedVariables false
set_option linter.unusedSimpArgs false
namespace Go.VB
open Go.RowKit Go.VB.Srt

structure ElemOk {α : Type} (P : Program) (t e n : Nat) (c : α → List Value) (enc : α → Value) : Prop where
  und : P.underlying t = some (.slice e)
  esz : ∀ w, (sizeOf e).run P w = .ok n w
  load : ∀ w a x, At w a (c x) → (Instr.loadAt e (.pointer (some a))).run P w = .ok (enc x) w
  cells : ∀ x, (enc x).cells.toList = c x
  len : ∀ x, (c x).length = n
  one : ∀ x, (c x).all (·.oneCell') = true
  pos : 0 < n
theorem flat_set {α : Type} {c : α → List Value} {n : Nat} (hc : ∀ x, (c x).length = n) (x : α) : ∀ (xs : List α) (i : Nat), i < xs.length → (xs.set i x).flatMap c = (xs.flatMap c).take (i * n) ++ c x ++ (xs.flatMap c).drop (i * n + n)
  | [], i, h => by simp at h
  | y :: r, 0, _ => by
    rw [List.set_cons_zero, List.flatMap_cons, List.flatMap_cons, Nat.zero_mul, List.take_zero, List.nil_append, Nat.zero_add, List.drop_append_of_le_length (by rw [hc]; exact Nat.le_refl _), List.drop_of_length_le (by rw [hc]; exact Nat.le_refl _), List.nil_append]
  | y :: r, i + 1, h => by
    have ih := flat_set hc x r i (by simpa using h)
    rw [List.set_cons_succ, List.flatMap_cons, List.flatMap_cons, ih, List.take_append, List.drop_append, hc, List.take_of_length_le (l := c y) (by rw [hc, Nat.add_mul]; omega), List.drop_of_length_le (l := c y) (by rw [hc, Nat.add_mul]; omega), List.nil_append,
      show (i + 1) * n - n = i * n by rw [Nat.add_mul]; omega, show (i + 1) * n + n - n = i * n + n by rw [Nat.add_mul]; omega]
    simp [List.append_assoc]
section
variable {P : Program} {w : World} {α : Type} {c : α → List Value} {enc : α → Value} {n e t base : Nat} {s : Sl}
theorem OwnS.at {xs : List α} (hO : OwnS c n e base w s xs) (hpos : 0 < xs.length) : ∃ g cap cur, s = ⟨some ⟨g, 0, none⟩, xs.length, cap⟩ ∧ w.heap[g]? = some (.cells cur e (0, 0)) ∧ xs.length ≤ cap ∧ cap ≤ maxLen ∧ cur.size = cap * n ∧ cur.toList.take (xs.length * n) = xs.flatMap c ∧ base ≤ g := by
  obtain ⟨hl, hs, hr⟩ := hO
  obtain ⟨a, len, cap⟩ := s
  simp only at hl
  rcases hr.2 with ⟨h1, h2⟩ | ⟨g, cap', cur, h1, hb, hh, hcap, hm, hsz, htk⟩
  · simp only at h2; omega
  · injection h1 with h3 h4 h5
    subst h3; subst h5
    exact ⟨g, cap, cur, by rw [hl], hh, by simpa [hl] using hcap, hm, hsz, by rw [hl]; exact htk, hb⟩
theorem store_own (E : ElemOk P t e n c enc) {xs : List α} (hO : OwnS c n e base w s xs) {i : Nat} (hi : i < xs.length) (x : α) {ad : Addr} (had : s.a = some ad) :
    ∃ w', (Instr.storeAt e (.pointer (some (ad.add (i * n)))) (enc x)).run P w = .ok () w' ∧ OwnS c n e base w' s (xs.set i x) ∧ w.grownBy w' (Sl.v s).ownBlock := by
  obtain ⟨g, cap, cur, rfl, hh, hcap, hm, hsz, htk, hb⟩ := hO.at (by omega)
  obtain rfl : (⟨g, 0, none⟩ : Addr) = ad := Option.some.inj had
  have hrow : Row w g cur.toList e := by unfold Row; simpa using hh
  have hin : i * n + n ≤ xs.length * n := by
    have : (i + 1) * n ≤ xs.length * n := Nat.mul_le_mul_right _ (by omega)
    rw [Nat.add_mul] at this; omega
  have hC : xs.length * n ≤ cur.toList.length := by
    have h0 : cur.toList.length = cap * n := by simpa using hsz
    rw [h0]; exact Nat.mul_le_mul_right _ hcap
  have hst := run_storeVar_sz E.esz (off := i * n) (v := enc x) hrow (E.cells x) (E.len x) (by rw [E.len]; omega) (E.one x)
  refine ⟨w.setRow g (cur.toList.take (i * n) ++ c x ++ cur.toList.drop (i * n + (c x).length)).toArray, ?_, ⟨by simp, hO.small, ?_⟩, setRow_grown w g _⟩
  · rw [add_plain']
    simpa [Instr.storeAt, Instr.sureAddr] using hst
  · refine ⟨by rw [flat_len E.len, List.length_set], .inr ⟨g, cap, _, rfl, hb, setRow_same hh, hcap, hm, ?_, ?_⟩⟩
    · simp only [List.size_toArray, List.length_append, List.length_take, List.length_drop, E.len]
      have h0 : cur.toList.length = cap * n := by simpa using hsz
      omega
    · show ((cur.toList.take (i * n) ++ c x ++ cur.toList.drop (i * n + (c x).length))).take (xs.length * n) = _
      have hA : (cur.toList.take (i * n) ++ c x).length = i * n + n := by rw [List.length_append, List.length_take, E.len]; omega
      rw [flat_set E.len x xs i hi, ← htk, List.take_append, List.take_of_length_le (by rw [hA]; omega), hA, E.len, List.take_take, Nat.min_eq_left (by omega), List.drop_take]
/-- data[i], data[j] = data[j], data[i]: whichever is read first. -/
theorem S.swap (E : ElemOk P t e n c enc) {f : Nat → α} {L : Nat} (hO : OwnS c n e base w s (tab f L)) {i j : Int} {i' j' : Nat} (hi : i = (i' : Int)) (hj : j = (j' : Int)) (hi' : i' < L) (hj' : j' < L) {K : World → Prop}
    (H : ∀ w', OwnS c n e base w' s (tab (swp f i' j') L) → w.grownBy w' (Sl.v s).ownBlock → K w') :
    nextB w (fun w => opP P Value.pointer (Instr.indexAt t (Sl.v s) (.int .i64 j)) (fun p => opP P Value.pointer (Instr.indexAt t (Sl.v s) (.int .i64 i)) (fun q =>
      (opE P enc (Instr.loadAt e (.pointer p)) w (fun x w => opE P enc (Instr.loadAt e (.pointer q)) w (fun y w => opP P Value.pointer (Instr.indexAt t (Sl.v s) (.int .i64 i)) (fun a => opU P (Instr.storeAt e (.pointer a) (enc x)) w (fun w => opP P Value.pointer (Instr.indexAt t (Sl.v s) (.int .i64 j)) (fun b => opU P (Instr.storeAt e (.pointer b) (enc y)) w (fun w => K w))))))) ∧
      (opE P enc (Instr.loadAt e (.pointer q)) w (fun y w => opE P enc (Instr.loadAt e (.pointer p)) w (fun x w => opP P Value.pointer (Instr.indexAt t (Sl.v s) (.int .i64 i)) (fun a => opU P (Instr.storeAt e (.pointer a) (enc x)) w (fun w => opP P Value.pointer (Instr.indexAt t (Sl.v s) (.int .i64 j)) (fun b => opU P (Instr.storeAt e (.pointer b) (enc y)) w (fun w => K w)))))))))) := by
  subst hi; subst hj
  intro w1 hb1
  have hO1 := hO.bel hb1
  have hL : (tab f L).length = L := tab_len f L
  have hR := hO1.rd E.len
  obtain ⟨adj, ha, hAj⟩ := hR.cells j' (f j') (tab_get f hj')
  obtain ⟨adi, ha', hAi⟩ := hR.cells i' (f i') (tab_get f hi')
  obtain rfl : adj = adi := Option.some.inj (ha.symm.trans ha')
  have hlen := hR.len
  have idx : ∀ (k : Nat), k < L → ∀ w, (Instr.indexAt t (Sl.v s) (.int .i64 (k : Int))).run P w = .ok (.pointer (some (adj.add (k * n)))) w := fun k hk w => by
    have := run_idx (k := .i64) E.und E.esz (w := w) (s := s) (i := (k : Int)) ha (by omega) (by omega)
    simpa using this
  have tail : opP P Value.pointer (Instr.indexAt t (Sl.v s) (.int .i64 (i' : Int))) (fun a => opU P (Instr.storeAt e (.pointer a) (enc (f j'))) w1 (fun w => opP P Value.pointer (Instr.indexAt t (Sl.v s) (.int .i64 (j' : Int))) (fun b => opU P (Instr.storeAt e (.pointer b) (enc (f i'))) w (fun w => K w)))) := by
    obtain ⟨w2, hs2, hO2, hg2⟩ := store_own E hO1 (i := i') (by omega) (f j') ha
    obtain ⟨w3, hs3, hO3, hg3⟩ := store_own E hO2 (i := j') (by rw [List.length_set]; omega) (f i') ha
    refine ⟨_, idx i' hi', w2, hs2, _, idx j' hj', w3, hs3, H w3 ?_ (grown_trans (grown_trans (grown_bel hb1 _) hg2) hg3)⟩
    rw [tab_swp f hi' hj'] at hO3; exact hO3
  refine ⟨_, idx j' hj', _, idx i' hi', ⟨_, w1, E.load _ _ _ hAj, _, w1, E.load _ _ _ hAi, tail⟩, ⟨_, w1, E.load _ _ _ hAi, _, w1, E.load _ _ _ hAj, tail⟩⟩
/-- data[i] is read, in a region that draws its order. -/
theorem Q.elem (E : ElemOk P t e n c enc) {f : Nat → α} {L : Nat} (hO : OwnS c n e base w s (tab f L)) {i : Int} {i' : Nat} (hi : i = (i' : Int)) (hi' : i' < L) {k : α → Prop} (H : k (f i')) :
    opB P Value.pointer (Instr.indexAt t (Sl.v s) (.int .i64 i)) w (fun p => opB P enc (Instr.loadAt e (.pointer p)) w k) := by
  subst hi
  refine Q.idx (hO.rd E.len) E.und E.esz (by omega) (x := f i') (by simpa using tab_get f hi') fun ad hA => ?_
  exact ⟨_, fun w' hb => E.load _ _ _ (hA.bel hb), H⟩
theorem ElemOk.agg {n : Nat} {α : Type} {c : α → List Value} (hA : Agg P e n) (hu : P.underlying t = some (.slice e)) (hc : ∀ x, (c x).length = n) (h1 : ∀ x, (c x).all (·.oneCell') = true) (hn : 0 < n) : ElemOk P t e n c (fun x => .agg (c x).toArray) :=
  ⟨hu, hA.size, fun w a x h => run_ld_agg hA h (hc x), fun x => by simp [Value.cells], hc, h1, hn⟩
theorem ElemOk.single {α : Type} {enc : α → Value} (hA : One P e) (hu : P.underlying t = some (.slice e)) (hc : ∀ x, (enc x).cells.toList = [enc x]) (h1 : ∀ x, (enc x).oneCell' = true) : ElemOk P t e 1 (fun x => [enc x]) enc :=
  ⟨hu, hA.size, fun w a x h => run_ld_one hA (by have := h 0 (enc x) rfl; simpa [Addr.add] using this), hc, fun _ => rfl, fun x => by simp [h1], by decide⟩
theorem S.quo {t : TypeId} {a b : Int} (hb : b ≠ 0) (h0 : -9223372036854775808 ≤ a.tdiv b) (h1 : a.tdiv b ≤ 9223372036854775807) {k : Int → World → Prop} (H : k (a.tdiv b) w) : opE P (Value.int .i64) (binOp .quo t (.int .i64 a) (.int .i64 b)) w k := by
  refine ⟨a.tdiv b, w, ?_, H⟩
  rw [binOp_quo]
  simp [Op.intDiv, hb]
  exact wr64 h0 h1
end
end Go.VB
