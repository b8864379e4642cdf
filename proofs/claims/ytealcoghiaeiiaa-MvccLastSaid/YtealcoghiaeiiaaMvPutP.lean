/- What is put to versions, in plain words on lists; no condition. -/
import Derived.Test.YtealcoghiaeiiaaMvSweep
set_option linter.unusedVariables false
namespace Go.Proofs.Ytealcoghiaeiiaa.VG
open Go.VB Go.VB.Srt Go.Proofs Go.RowKit

def TooLong (w : Wri) : Prop := 256 < w.Key.size ∨ 512 < w.Val.size
def wkeys (m : List Wri) : List ByteArray := m.map (·.Key)
open Classical in
noncomputable def wwrong (m : List Wri) : Int := if 4096 < m.length then 3 else if (∃ w ∈ m, TooLong w) then 4 else if ¬ (wkeys m).Nodup then 12 else 0
theorem wwrong_zero {m : List Wri} : wwrong m = 0 ↔ m.length ≤ 4096 ∧ (∀ w ∈ m, ¬ TooLong w) ∧ (wkeys m).Nodup := by
  unfold wwrong
  by_cases h1 : 4096 < m.length
  · rw [if_pos h1]; exact ⟨fun h => absurd h (by decide), fun h => by omega⟩
  rw [if_neg h1]
  by_cases h2 : ∃ w ∈ m, TooLong w
  · rw [if_pos h2]; exact ⟨fun h => absurd h (by decide), fun h => absurd h2 (fun ⟨w, h3, h4⟩ => h.2.1 w h3 h4)⟩
  rw [if_neg h2]
  by_cases h3 : (wkeys m).Nodup
  · rw [if_neg (by simp [h3])]; exact ⟨fun _ => ⟨by omega, fun w h4 h5 => h2 ⟨w, h4, h5⟩, h3⟩, fun _ => rfl⟩
  · rw [if_pos h3]; exact ⟨fun h => absurd h (by decide), fun h => absurd h.2.2 h3⟩
def mk (t : Int) (w : Wri) : Ver := ⟨w.Key, t, if w.Gone = true then noB else w.Val, w.Gone⟩
def ins (x : Ver) : List Ver → List Ver
  | [] => [x]
  | y :: r => if sLt x.Key y.Key = true then x :: y :: r else y :: ins x r
def putL (l : List Ver) (t : Int) (m : List Wri) : List Ver := m.foldl (fun l w => ins (mk t w) l) l
theorem ins_eq {x : Ver} : ∀ (l : List Ver) (n : Nat), n ≤ l.length → (∀ j y, j < n → l[j]? = some y → ¬ sLt x.Key y.Key = true) → (∀ y, l[n]? = some y → sLt x.Key y.Key = true) → ins x l = l.take n ++ [x] ++ l.drop n
  | [], 0, _, _, _ => rfl
  | [], n + 1, h, _, _ => by simp at h
  | y :: r, 0, _, _, h => by rw [ins, if_pos (h y rfl)]; rfl
  | y :: r, n + 1, hn, h1, h2 => by
    rw [ins, if_neg (h1 0 y (by omega) rfl), ins_eq r n (by simpa using hn) (fun j z hj hz => h1 (j + 1) z (by omega) (by simpa using hz)) (fun z hz => h2 z (by simpa using hz))]
    rfl
theorem ins_len (x : Ver) : ∀ l : List Ver, (ins x l).length = l.length + 1
  | [] => rfl
  | y :: r => by
    rw [ins]; split
    · rfl
    · rw [List.length_cons, ins_len x r, List.length_cons]
theorem ins_mem {x z : Ver} : ∀ {l : List Ver}, z ∈ ins x l ↔ z = x ∨ z ∈ l
  | [] => by simp [ins]
  | y :: r => by
    rw [ins]; split
    · simp
    · rw [List.mem_cons, ins_mem, List.mem_cons]
      constructor
      · rintro (h | h | h) <;> simp [h]
      · rintro (h | h | h) <;> simp [h]
theorem ins_perm (x : Ver) : ∀ l : List Ver, (ins x l).Perm (x :: l)
  | [] => List.Perm.refl _
  | y :: r => by
    rw [ins]; split
    · exact List.Perm.refl _
    · exact ((ins_perm x r).cons y).trans (List.Perm.swap x y r)
theorem ins_sorted {x : Ver} : ∀ {l : List Ver}, l.Pairwise vlt → (∀ y ∈ l, y.Key = x.Key → y.At < x.At) → (ins x l).Pairwise vlt
  | [], _, _ => by simp [ins]
  | y :: r, hs, h => by
    rw [List.pairwise_cons] at hs
    rw [ins]; split
    · rename_i hlt
      rw [List.pairwise_cons, List.pairwise_cons]
      refine ⟨fun z hz => ?_, hs⟩
      rcases List.mem_cons.1 hz with h1 | h1
      · subst h1; exact .inl hlt
      · exact vlt_tr (.inl hlt) (hs.1 z h1)
    · rename_i hlt
      rw [List.pairwise_cons]
      refine ⟨fun z hz => ?_, ins_sorted hs.2 fun z hz => h z (List.mem_cons_of_mem _ hz)⟩
      rcases ins_mem.1 hz with h1 | h1
      · subst h1
        by_cases hk : y.Key = z.Key
        · exact .inr ⟨hk, h y (by simp) hk⟩
        · exact .inl (sLt_tot hlt (fun e => hk e.symm))
      · exact hs.1 z h1
theorem putL_len (t : Int) : ∀ (m : List Wri) (l : List Ver), (putL l t m).length = l.length + m.length
  | [], l => rfl
  | w :: m, l => by
    show (putL (ins (mk t w) l) t m).length = _
    rw [putL_len t m, ins_len, List.length_cons]; omega
theorem putL_perm (t : Int) : ∀ (m : List Wri) (l : List Ver), (putL l t m).Perm (l ++ m.map (mk t))
  | [], l => by simp [putL]
  | w :: m, l => by
    show (putL (ins (mk t w) l) t m).Perm _
    refine (putL_perm t m _).trans ?_
    rw [List.map_cons]
    refine ((ins_perm (mk t w) l).append_right (m.map (mk t))).trans ?_
    exact (List.perm_middle (a := mk t w) (l₁ := l) (l₂ := m.map (mk t))).symm
theorem putL_sorted {t : Int} : ∀ (m : List Wri) (l : List Ver), l.Pairwise vlt → (wkeys m).Nodup → (∀ w ∈ m, ∀ y ∈ l, y.Key = w.Key → y.At < t) → (putL l t m).Pairwise vlt
  | [], l, hs, _, _ => hs
  | w :: m, l, hs, hn, h => by
    have hn' := List.nodup_cons.1 (show (w.Key :: wkeys m).Nodup from hn)
    refine putL_sorted (t := t) m _ (ins_sorted hs (h w (by simp))) hn'.2 fun v hv y hy hk => ?_
    rcases ins_mem.1 hy with h1 | h1
    · subst h1
      exact absurd (List.mem_map.2 ⟨v, hv, hk.symm⟩) hn'.1
    · exact h v (List.mem_cons_of_mem _ hv) y h1 hk
theorem sorted_one : ∀ {s t : List Ver}, s.Pairwise vlt → t.Pairwise vlt → (∀ x, x ∈ s ↔ x ∈ t) → s = t
  | [], [], _, _, _ => rfl
  | [], y :: t, _, _, h => absurd ((h y).2 (by simp)) (by simp)
  | x :: s, [], _, _, h => absurd ((h x).1 (by simp)) (by simp)
  | x :: s, y :: t, hs, ht, h => by
    rw [List.pairwise_cons] at hs ht
    have hxy : x = y := by
      rcases List.mem_cons.1 ((h x).1 (by simp)) with h1 | h1
      · exact h1
      · rcases List.mem_cons.1 ((h y).2 (by simp)) with h2 | h2
        · exact h2.symm
        · exact absurd (vlt_tr (hs.1 y h2) (ht.1 x h1)) (vlt_irr x)
    subst hxy
    have hst : s = t := sorted_one hs.2 ht.2 fun z => by
      constructor
      · intro hz
        rcases List.mem_cons.1 ((h z).1 (by simp [hz])) with h1 | h1
        · subst h1; exact absurd (hs.1 z hz) (vlt_irr z)
        · exact h1
      · intro hz
        rcases List.mem_cons.1 ((h z).2 (by simp [hz])) with h1 | h1
        · subst h1; exact absurd (ht.1 z hz) (vlt_irr z)
        · exact h1
    rw [hst]
/-- What two sorts of the same ones come to. -/
theorem sorted_perm {s t : List Ver} (hs : s.Pairwise vlt) (ht : t.Pairwise vlt) (h : s.Perm t) : s = t := sorted_one hs ht fun x => h.mem_iff
/-- A sort by the order, where no two are alike, is a sort by the strict order. -/
theorem strict_of {ys : List Ver} (hp : ys.Pairwise (fun x y => Le vltB x y)) (hn : ys.Pairwise (fun x y => ¬ (x.Key = y.Key ∧ x.At = y.At))) : ys.Pairwise vlt :=
  (hp.and hn).imp fun {x y} h => by
    have h1 : ¬ vlt y x := fun h2 => by have h3 : vltB y x = false := h.1; rw [vltB_iff.2 h2] at h3; cases h3
    exact vlt_tot h1 (fun h2 => h.2 ⟨h2.1.symm, h2.2.symm⟩)
theorem sort_is {l : List Ver} {t : Int} {m : List Wri} {ys : List Ver} (hs : l.Pairwise vlt) (hn : (wkeys m).Nodup) (hl : ∀ y ∈ l, y.At < t) (hp : ys.Perm (l ++ m.map (mk t))) (hle : ys.Pairwise (fun x y => Le vltB x y)) : ys = putL l t m := by
  have hq := putL_sorted (t := t) m l hs hn fun w _ y hy _ => hl y hy
  have hpp := putL_perm t m l
  refine sorted_perm (strict_of hle ?_) hq (hp.trans hpp.symm)
  have h1 : (putL l t m).Pairwise (fun x y => ¬ (x.Key = y.Key ∧ x.At = y.At)) := hq.imp fun {x y} h h2 => by
    rcases h with h | h
    · rw [h2.1] at h; exact sLt_irr _ h
    · omega
  exact (hp.trans hpp.symm).pairwise_iff (fun {a b} h h2 => h ⟨h2.1.symm, h2.2.symm⟩) |>.2 h1
open Classical in
noncomputable def pwhy (l : List Ver) (low : Int) (m : List Wri) (t : Int) : Int :=
  if vchk l low ≠ 0 then vchk l low else if wwrong m ≠ 0 then wwrong m else if t < 1 ∨ 2305843009213693952 < t then 2 else if t < low ∨ (∃ x ∈ l, t ≤ x.At) then 9 else if 4096 < l.length + m.length then 3 else 0
noncomputable def vput (l : List Ver) (low : Int) (m : List Wri) (t : Int) : List Ver × Int × Int :=
  if pwhy l low m t ≠ 0 then ([], 0, pwhy l low m t) else (putL l t m, low, 0)
theorem pwhy_zero {l : List Ver} {low : Int} {m : List Wri} {t : Int} : pwhy l low m t = 0 ↔ GoodV l low ∧ wwrong m = 0 ∧ 1 ≤ t ∧ t ≤ 2305843009213693952 ∧ low ≤ t ∧ (∀ x ∈ l, x.At < t) ∧ l.length + m.length ≤ 4096 := by
  unfold pwhy
  by_cases h1 : vchk l low = 0
  case neg => rw [if_pos h1]; exact ⟨fun h => absurd h h1, fun h => absurd (vchk_zero.2 h.1) h1⟩
  rw [if_neg (by simp [h1])]
  by_cases h2 : wwrong m = 0
  case neg => rw [if_pos h2]; exact ⟨fun h => absurd h h2, fun h => absurd h.2.1 h2⟩
  rw [if_neg (by simp [h2])]
  by_cases h3 : t < 1 ∨ 2305843009213693952 < t
  · rw [if_pos h3]; exact ⟨fun h => absurd h (by decide), fun h => by omega⟩
  rw [if_neg h3]
  by_cases h4 : t < low ∨ (∃ x ∈ l, t ≤ x.At)
  · rw [if_pos h4]
    refine ⟨fun h => absurd h (by decide), fun h => ?_⟩
    rcases h4 with h5 | ⟨x, h5, h6⟩
    · omega
    · have := h.2.2.2.2.2.1 x h5; omega
  rw [if_neg h4]
  by_cases h5 : 4096 < l.length + m.length
  · rw [if_pos h5]; exact ⟨fun h => absurd h (by decide), fun h => by omega⟩
  rw [if_neg h5]
  exact ⟨fun _ => ⟨vchk_zero.1 h1, h2, by omega, by omega, by omega, fun x hx => Int.not_le.1 fun h6 => h4 (.inr ⟨x, hx, h6⟩), by omega⟩, fun _ => rfl⟩
end Go.Proofs.Ytealcoghiaeiiaa.VG
