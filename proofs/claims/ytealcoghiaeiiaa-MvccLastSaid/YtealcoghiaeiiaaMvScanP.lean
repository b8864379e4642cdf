/- Scans and sweeps of versions in plain words on lists; no condition. -/
import Derived.Test.YtealcoghiaeiiaaMvSeg
set_option linter.unusedVariables false
namespace Go.Proofs.Ytealcoghiaeiiaa.VG
open Go.VB Go.VB.Srt Go.Proofs Go.RowKit

def outSpan (fr to key : ByteArray) : Prop := sLt key fr = true ∨ (to ≠ noB ∧ sLt key to = false)
open Classical in
noncomputable def one (fr to key : ByteArray) (o : Option Ver) : List Pai :=
  if outSpan fr to key then [] else match o with
    | none => []
    | some x => if x.Gone = true then [] else [⟨key, x.Val⟩]
open Classical in
noncomputable def pick (l : List Ver) (fr to : ByteArray) (t : Int) (i : Nat) : List Pai := match l[i]? with
  | none => []
  | some x => if (∃ j y, i = j + 1 ∧ l[j]? = some y ∧ y.Key = x.Key) then [] else one fr to x.Key (sees l x.Key t)
noncomputable def scanTo (l : List Ver) (fr to : ByteArray) (t : Int) (n : Nat) : List Pai := (List.range n).flatMap (pick l fr to t)
theorem scanTo_succ (l : List Ver) (fr to : ByteArray) (t : Int) (n : Nat) : scanTo l fr to t (n + 1) = scanTo l fr to t n ++ pick l fr to t n := by
  unfold scanTo; rw [List.range_succ, List.flatMap_append]; simp
noncomputable def vscan (l : List Ver) (low : Int) (fr to : ByteArray) (t : Int) : List Pai × Int := if vask l low t ≠ 0 then ([], vask l low t) else (scanTo l fr to t l.length, 0)
theorem one_len (fr to key : ByteArray) (o : Option Ver) : (one fr to key o).length ≤ 1 := by
  unfold one; split
  · simp
  · cases o with
    | none => simp
    | some x => simp only; split <;> simp
theorem pick_len (l : List Ver) (fr to : ByteArray) (t : Int) (i : Nat) : (pick l fr to t i).length ≤ 1 := by
  unfold pick; split
  · simp
  · split
    · simp
    · exact one_len _ _ _ _
theorem scanTo_len (l : List Ver) (fr to : ByteArray) (t : Int) : ∀ n, (scanTo l fr to t n).length ≤ n
  | 0 => by simp [scanTo]
  | n + 1 => by
    rw [scanTo_succ, List.length_append]
    have := scanTo_len l fr to t n; have := pick_len l fr to t n; omega
theorem pick_first {l : List Ver} {i : Nat} {x : Ver} (hx : l[i]? = some x) (hb : Bdry l i) (fr to : ByteArray) (t : Int) : pick l fr to t i = one fr to x.Key (sees l x.Key t) := by
  unfold pick; rw [hx]
  simp only
  rw [if_neg]
  rintro ⟨j, y, hj, hy, hk⟩
  exact hb j y x hj hy hx hk
theorem pick_later {l : List Ver} {j : Nat} {x y : Ver} (hx : l[j + 1]? = some x) (hy : l[j]? = some y) (hk : y.Key = x.Key) (fr to : ByteArray) (t : Int) : pick l fr to t (j + 1) = [] := by
  unfold pick; rw [hx]
  simp only
  rw [if_pos ⟨j, y, rfl, hy, hk⟩]
theorem key_le {l : List Ver} (hs : l.Pairwise vlt) {i j : Nat} {x y : Ver} (h : i < j) (hx : l[i]? = some x) (hy : l[j]? = some y) : ¬ sLt y.Key x.Key = true := vlt_key (pw_get hs h hx hy)
theorem key_lt {l : List Ver} (hs : l.Pairwise vlt) {i j : Nat} {x y : Ver} (h : i < j) (hx : l[i]? = some x) (hy : l[j]? = some y) (hk : x.Key ≠ y.Key) : sLt x.Key y.Key = true := by
  rcases pw_get hs h hx hy with h1 | h1
  · exact h1
  · exact absurd h1.1 hk
/-- Ahead of a segment all keys are less, behind it all are greater. -/
theorem Seg.before {l : List Ver} (hs : l.Pairwise vlt) (s : Seg l) {j : Nat} {x : Ver} (hj : j < s.lo) (hx : l[j]? = some x) : sLt x.Key s.key = true := by
  have h1 := s.lt; have h2 := s.le
  obtain ⟨y, hy⟩ := getV (l := l) (n := s.lo - 1) (by omega)
  obtain ⟨z, hz⟩ := getV (l := l) (n := s.lo) (by omega)
  have hzk := s.all s.lo z (Nat.le_refl _) h1 hz
  have hyz := key_lt hs (by omega) hy hz (s.bl (s.lo - 1) y z (by omega) hy hz)
  rw [← hzk]
  rcases Nat.lt_or_ge j (s.lo - 1) with h3 | h3
  · have h4 := key_le hs h3 hx hy
    by_cases hk : x.Key = y.Key
    · rw [hk]; exact hyz
    · exact sLt_tr (sLt_tot h4 (fun h => hk h.symm)) hyz
  · obtain rfl : j = s.lo - 1 := by omega
    rw [hx] at hy; cases hy; exact hyz
theorem Seg.behind {l : List Ver} (hs : l.Pairwise vlt) (s : Seg l) {j : Nat} {x : Ver} (hj : s.hi ≤ j) (hx : l[j]? = some x) : sLt s.key x.Key = true := by
  have h1 := s.lt; have h2 := s.le
  have hjl := (List.getElem?_eq_some_iff.1 hx).1
  obtain ⟨y, hy⟩ := getV (l := l) (n := s.hi - 1) (by omega)
  obtain ⟨z, hz⟩ := getV (l := l) (n := s.hi) (by omega)
  have hyk := s.all (s.hi - 1) y (by omega) (by omega) hy
  have hyz := key_lt hs (by omega) hy hz (s.bh (s.hi - 1) y z (by omega) hy hz)
  rw [← hyk]
  rcases Nat.lt_or_ge s.hi j with h3 | h3
  · have h4 := key_le hs h3 hz hx
    by_cases hk : z.Key = x.Key
    · rw [← hk]; exact hyz
    · exact sLt_tr hyz (sLt_tot h4 (fun h => hk h.symm))
  · obtain rfl : j = s.hi := by omega
    rw [hx] at hz; cases hz; exact hyz
theorem Seg.split {l : List Ver} (s : Seg l) : l = l.take s.lo ++ s.vers ++ l.drop s.hi := by
  rw [← take_seg, List.take_append_drop]
theorem sees_no {l : List Ver} {key : ByteArray} (h : ∀ x ∈ l, x.Key ≠ key) (t : Int) : sees l key t = none := sees_none.2 fun x hx h1 => h x hx h1.1
theorem Seg.sees {l : List Ver} (hs : l.Pairwise vlt) (s : Seg l) (t : Int) : VG.sees s.vers s.key t = VG.sees l s.key t := by
  have key : VG.sees l s.key t = VG.sees (l.take s.lo ++ s.vers ++ l.drop s.hi) s.key t := congrArg (fun m => VG.sees m s.key t) s.split
  rw [key, sees_append, sees_append]
  have h1 : VG.sees (l.drop s.hi) s.key t = none := sees_no (fun x hx hk => by
    obtain ⟨j, hj⟩ := List.getElem?_of_mem hx
    rw [List.getElem?_drop] at hj
    exact sLt_ne (s.behind hs (by omega) hj) hk.symm) t
  have h2 : VG.sees (l.take s.lo) s.key t = none := sees_no (fun x hx hk => by
    obtain ⟨j, hj⟩ := List.getElem?_of_mem hx
    have hjl := (List.getElem?_eq_some_iff.1 hj).1
    rw [List.length_take] at hjl
    rw [List.getElem?_take_of_lt (by omega)] at hj
    exact sLt_ne (s.before hs (by omega) hj) hk) t
  rw [h1, h2]; cases VG.sees s.vers s.key t <;> rfl
theorem Seg.scan {l : List Ver} (hs : l.Pairwise vlt) (s : Seg l) (fr to : ByteArray) (t : Int) : scanTo l fr to t s.hi = scanTo l fr to t s.lo ++ one fr to s.key (VG.sees s.vers s.key t) := by
  have h1 := s.lt; have h2 := s.le
  obtain ⟨z, hz⟩ := getV (l := l) (n := s.lo) (by omega)
  have hzk := s.all s.lo z (Nat.le_refl _) h1 hz
  have key : ∀ d, s.lo + d < s.hi → scanTo l fr to t (s.lo + d + 1) = scanTo l fr to t s.lo ++ one fr to s.key (VG.sees s.vers s.key t) := by
    intro d
    induction d with
    | zero => intro _; rw [show s.lo + 0 + 1 = s.lo + 1 from rfl, scanTo_succ, pick_first hz s.bl, hzk, s.sees hs]
    | succ d ih =>
      intro hd
      obtain ⟨x, hx⟩ := getV (l := l) (n := s.lo + d + 1) (by omega)
      obtain ⟨y, hy⟩ := getV (l := l) (n := s.lo + d) (by omega)
      rw [show s.lo + (d + 1) + 1 = (s.lo + d + 1) + 1 by omega, scanTo_succ, ih (by omega), pick_later hx hy (by rw [s.all _ x (by omega) (by omega) hx, s.all _ y (by omega) (by omega) hy]), List.append_nil]
  have := key (s.hi - s.lo - 1) (by omega)
  rwa [show s.lo + (s.hi - s.lo - 1) + 1 = s.hi by omega] at this
noncomputable def scanS {l : List Ver} (fr to : ByteArray) (t : Int) (pre : List (Seg l)) : List Pai := pre.flatMap fun s => one fr to s.key (sees s.vers s.key t)
theorem Cuts.scan {l : List Ver} (hs : l.Pairwise vlt) (fr to : ByteArray) (t : Int) {pre : List (Seg l)} {n : Nat} (h : Cuts l pre n) : scanTo l fr to t n = scanS fr to t pre := by
  induction h with
  | nil => rfl
  | snoc s h ih => rw [s.scan hs, ih]; unfold scanS; rw [List.flatMap_append]; simp

/-! ### Sweeps -/
open Classical in
noncomputable def keepOne (low : Int) (x : Ver) (o : Option Ver) : List Ver :=
  if (∃ y, o = some y ∧ y.Key = x.Key ∧ y.At ≤ low) then [] else if x.Gone = true ∧ x.At ≤ low then [] else [x]
noncomputable def swp (low : Int) : List Ver → List Ver
  | [] => []
  | x :: r => keepOne low x r.head? ++ swp low r
noncomputable def keepAt (l : List Ver) (low : Int) (i : Nat) : List Ver := match l[i]? with
  | none => []
  | some x => keepOne low x l[i + 1]?
noncomputable def swpTo (l : List Ver) (low : Int) (n : Nat) : List Ver := (List.range n).flatMap (keepAt l low)
theorem swpTo_succ (l : List Ver) (low : Int) (n : Nat) : swpTo l low (n + 1) = swpTo l low n ++ keepAt l low n := by
  unfold swpTo; rw [List.range_succ, List.flatMap_append]; simp
theorem swpTo_all (low : Int) : ∀ l : List Ver, swpTo l low l.length = swp low l
  | [] => rfl
  | x :: r => by
    have ih := swpTo_all low r
    unfold swpTo at *
    rw [List.length_cons, List.range_succ_eq_map, List.flatMap_cons, List.flatMap_map, swp, ← ih]
    congr 1
    show keepOne low x ((x :: r)[0 + 1]?) = _
    rw [List.getElem?_cons_succ, List.head?_eq_getElem?]
theorem keepOne_len (low : Int) (x : Ver) (o : Option Ver) : (keepOne low x o).length ≤ 1 := by unfold keepOne; split <;> (try split) <;> simp
theorem swp_len (low : Int) : ∀ l : List Ver, (swp low l).length ≤ l.length
  | [] => by simp [swp]
  | x :: r => by rw [swp, List.length_append, List.length_cons]; have := swp_len low r; have := keepOne_len low x r.head?; omega
theorem keepAt_len (l : List Ver) (low : Int) (i : Nat) : (keepAt l low i).length ≤ 1 := by
  unfold keepAt; split
  · simp
  · exact keepOne_len _ _ _
theorem swpTo_len (l : List Ver) (low : Int) : ∀ n, (swpTo l low n).length ≤ n
  | 0 => by simp [swpTo]
  | n + 1 => by
    rw [swpTo_succ, List.length_append]
    have := swpTo_len l low n; have := keepAt_len l low n; omega
theorem swp_append (low : Int) : ∀ (a b : List Ver), (∀ x y, a.getLast? = some x → b.head? = some y → x.Key ≠ y.Key) → swp low (a ++ b) = swp low a ++ swp low b
  | [], b, _ => rfl
  | [x], b, h => by
    show keepOne low x b.head? ++ swp low b = (keepOne low x none ++ []) ++ swp low b
    rw [List.append_nil]
    congr 1
    unfold keepOne
    have h1 : ¬ ∃ y, b.head? = some y ∧ y.Key = x.Key ∧ y.At ≤ low := fun ⟨y, hy, hk, _⟩ => h x y rfl hy hk.symm
    have h2 : ¬ ∃ y, (none : Option Ver) = some y ∧ y.Key = x.Key ∧ y.At ≤ low := fun ⟨y, hy, _⟩ => by cases hy
    rw [if_neg h1, if_neg h2]
  | x :: z :: a, b, h => by
    have ih := swp_append low (z :: a) b (fun p q hp hq => h p q (by rw [List.getLast?_cons_cons]; exact hp) hq)
    show keepOne low x (some z) ++ swp low (z :: a ++ b) = (keepOne low x (some z) ++ swp low (z :: a)) ++ swp low b
    rw [ih, List.append_assoc]
/-- The last one up to a time, if it is there. -/
def lowOne (o : Option Ver) : List Ver := match o with
  | none => []
  | some x => if x.Gone = true then [] else [x]
theorem swp_same (low : Int) (key : ByteArray) : ∀ g : List Ver, (∀ x ∈ g, x.Key = key) → g.Pairwise vlt → swp low g = lowOne (sees g key low) ++ g.filter (fun x => decide (low < x.At))
  | [], _, _ => rfl
  | x :: r, hk, hs => by
    have hxk := hk x (by simp)
    have hkr : ∀ y ∈ r, y.Key = key := fun y hy => hk y (List.mem_cons_of_mem _ hy)
    rw [List.pairwise_cons] at hs
    have hlt : ∀ y ∈ r, x.At < y.At := fun y hy => by
      rcases hs.1 y hy with h | h
      · rw [hxk, hkr y hy] at h; exact absurd h (sLt_irr _)
      · exact h.2
    have ih := swp_same low key r hkr hs.2
    have hsee : sees (x :: r) key low = (sees r key low).or (if x.At ≤ low then some x else none) := by
      rw [show x :: r = [x] ++ r from rfl, sees_append, sees_one]
      congr 1
      by_cases h : x.At ≤ low
      · rw [if_pos ⟨hxk, h⟩, if_pos h]
      · rw [if_neg (fun h1 => h h1.2), if_neg h]
    rw [swp, ih, hsee, List.filter_cons]
    cases r with
    | nil =>
      show keepOne low x none ++ ([] ++ []) = _
      have h2 : ¬ ∃ y, (none : Option Ver) = some y ∧ y.Key = x.Key ∧ y.At ≤ low := fun ⟨y, hy, _⟩ => by cases hy
      unfold keepOne
      rw [if_neg h2]
      by_cases h : x.At ≤ low
      · have h3 : ¬ low < x.At := by omega
        simp only [h, and_true, if_true, h3, decide_false, Bool.false_eq_true, if_false, sees_nil, Option.or_none, Option.none_or, List.append_nil, List.filter_nil]
        rfl
      · have h3 : low < x.At := by omega
        simp only [h, and_false, if_false, h3, decide_true, if_true, sees_nil, Option.none_or, List.filter_nil]
        rfl
    | cons y r =>
      have hxy := hlt y (by simp)
      have hyk := hkr y (by simp)
      show keepOne low x (some y) ++ _ = _
      unfold keepOne
      by_cases h : y.At ≤ low
      · have hx : ¬ low < x.At := by omega
        obtain ⟨z, hz⟩ : ∃ z, sees (y :: r) key low = some z := by
          cases hc : sees (y :: r) key low with
          | none => exact absurd ⟨hyk, h⟩ (sees_none.1 hc y (by simp))
          | some z => exact ⟨z, rfl⟩
        rw [if_pos ⟨y, rfl, by rw [hyk, hxk], h⟩, hz]
        simp only [hx, decide_false, Bool.false_eq_true, if_false, Option.or_some, List.nil_append]
        rfl
      · have hn : sees (y :: r) key low = none := sees_none.2 fun z hz h1 => by
          rcases List.mem_cons.1 hz with h2 | h2
          · subst h2; exact h h1.2
          · rcases (List.pairwise_cons.1 hs.2).1 z h2 with h3 | h3
            · rw [hyk, hkr z (List.mem_cons_of_mem _ h2)] at h3; exact absurd h3 (sLt_irr _)
            · have := h1.2; omega
        have h2 : ¬ ∃ z, (some y : Option Ver) = some z ∧ z.Key = x.Key ∧ z.At ≤ low := fun ⟨z, hz, _, h4⟩ => by cases hz; exact h h4
        rw [if_neg h2, hn]
        by_cases hxl : x.At ≤ low
        · have h3 : ¬ low < x.At := by omega
          simp only [hxl, and_true, if_true, h3, decide_false, Bool.false_eq_true, if_false, Option.none_or]
          rfl
        · have h3 : low < x.At := by omega
          simp only [hxl, and_false, if_false, h3, decide_true, if_true, Option.none_or]
          rfl
noncomputable def vsweep (l : List Ver) (low0 low : Int) : List Ver × Int × Int :=
  if vchk l low0 ≠ 0 then ([], 0, vchk l low0) else if low < low0 then ([], 0, 9) else if 2305843009213693952 < low then ([], 0, 2) else (swp low l, low, 0)
def swpS {l : List Ver} (low : Int) (pre : List (Seg l)) : List Ver := pre.flatMap fun s => lowOne (sees s.vers s.key low) ++ s.vers.filter (fun x => decide (low < x.At))
theorem Cuts.sweep {l : List Ver} (hs : l.Pairwise vlt) (low : Int) {pre : List (Seg l)} {n : Nat} (h : Cuts l pre n) : swp low (l.take n) = swpS low pre := by
  induction h with
  | nil => rfl
  | @snoc pre s h ih =>
    have h1 := s.lt; have h2 := s.le
    rw [take_seg, swp_append, ih]
    · unfold swpS
      rw [List.flatMap_append, swp_same low s.key s.vers (fun x hx => (s.mem hx).2) (by
        unfold Seg.vers
        exact (hs.sublist (List.drop_sublist _ _)).sublist (List.take_sublist _ _))]
      simp
    · intro x y hx hy
      have hx' : l[s.lo - 1]? = some x ∧ 0 < s.lo := by
        rw [List.getLast?_eq_getElem?, List.length_take, List.getElem?_take] at hx
        split at hx
        · refine ⟨?_, by omega⟩
          rw [Nat.min_eq_left (by omega)] at hx; exact hx
        · cases hx
      have hy' : l[s.lo]? = some y := by
        unfold Seg.vers at hy
        rw [List.head?_eq_getElem?, List.getElem?_take_of_lt (by omega), List.getElem?_drop] at hy
        simpa using hy
      exact s.bl (s.lo - 1) x y (by omega) hx'.1 hy'
end Go.Proofs.Ytealcoghiaeiiaa.VG
