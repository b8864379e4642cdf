/- The iterator over keys, each with its versions; no condition. -/
import Derived.RangeFuncBound
import Derived.Test.YtealcoghiaeiiaaMvGet
import Derived.Test.YtealcoghiaeiiaaVGk
set_option linter.unusedVariables false
namespace Go.Proofs.Ytealcoghiaeiiaa.VG
open Go.VB Go.VB.Srt Go.Proofs Go.RowKit

/-- No key stands on both sides of a place. -/
def Bdry (l : List Ver) (n : Nat) : Prop := ∀ j x y, n = j + 1 → l[j]? = some x → l[n]? = some y → x.Key ≠ y.Key
structure Seg (l : List Ver) where
  lo : Nat
  hi : Nat
  key : ByteArray
  lt : lo < hi
  le : hi ≤ l.length
  all : ∀ j x, lo ≤ j → j < hi → l[j]? = some x → x.Key = key
  bl : Bdry l lo
  bh : Bdry l hi
def Seg.vers {l : List Ver} (s : Seg l) : List Ver := (l.drop s.lo).take (s.hi - s.lo)
inductive Cuts (l : List Ver) : List (Seg l) → Nat → Prop
  | nil : Cuts l [] 0
  | snoc {pre : List (Seg l)} (s : Seg l) : Cuts l pre s.lo → Cuts l (pre ++ [s]) s.hi
theorem Bdry.zero (l : List Ver) : Bdry l 0 := fun j x y h => by omega
theorem take_seg {l : List Ver} (s : Seg l) : l.take s.hi = l.take s.lo ++ s.vers := by
  unfold Seg.vers
  have h := s.lt
  have : s.hi = s.lo + (s.hi - s.lo) := by omega
  conv => lhs; rw [this, List.take_add]
theorem Seg.mem {l : List Ver} (s : Seg l) {x : Ver} (h : x ∈ s.vers) : x ∈ l ∧ x.Key = s.key := by
  obtain ⟨j, hj⟩ := List.getElem?_of_mem h
  unfold Seg.vers at hj
  have h1 := (List.getElem?_eq_some_iff.1 hj).1
  rw [List.length_take, List.length_drop] at h1
  rw [List.getElem?_take_of_lt (by omega), List.getElem?_drop] at hj
  exact ⟨List.mem_of_getElem? hj, s.all _ x (by omega) (by omega) hj⟩
theorem Seg.rd {w : World} {x0 : Sl} {l : List Ver} (h : VerRd w x0 l) (s : Seg l) : VerRd w (x0.sub s.lo s.hi 4) s.vers := h.sub (Nat.le_of_lt s.lt) (by rw [← h.len]; exact s.le)
/-- What lay in w0, and one block, stay. -/
def Keeps2 (w0 : World) (b : Nat) (A B : World) : Prop := (Bel w0 A → Bel w0 B) ∧ B.heap[b]? = A.heap[b]?
theorem Keeps2.refl (w0 : World) (b : Nat) (A : World) : Keeps2 w0 b A A := ⟨fun h => h, rfl⟩
theorem Keeps2.trans {w0 : World} {b : Nat} {A B C : World} (h : Keeps2 w0 b A B) (k : Keeps2 w0 b B C) : Keeps2 w0 b A C := ⟨fun h1 => k.1 (h.1 h1), k.2.trans h.2⟩
theorem Keeps2.bel {w0 : World} {b : Nat} {A B : World} (h : Bel A B) (hb : b < A.heap.size) : Keeps2 w0 b A B := ⟨fun h1 => h1.trans h, h.block b hb⟩
theorem Keeps2.grown {w0 : World} {b : Nat} {A B : World} {row : Option Nat} (h : A.grownBy B row) (hb : b < A.heap.size) (hr : ∀ r, row = some r → w0.heap.size ≤ r ∧ r ≠ b) : Keeps2 w0 b A B :=
  ⟨fun h1 => h1.grown h (fun r e => (hr r e).1), h.block b hb (fun e => (hr b e.symm).2 rfl)⟩
theorem RangeOk.of2 {α : Type} {P : Program} {v : Value} {encs : α → List Value} {w0 : World} {b : Nat} {S Sp : List α → Prop} {Num : Nat} {I Ir : List α → World → Prop} {w : World} (hs : SeqAt P v encs (Keeps2 w0 b) S Sp Num w) (hn : w0.heap.size ≤ w.heap.size) (hb : b < w.heap.size)
    (own : OwnFrom w.heap.size I) (ownr : OwnFrom w.heap.size Ir) (lo : ∀ pre W, I pre W → w.heap.size ≤ W.heap.size) (start : I [] w) : RangeOk P v encs (Keeps2 w0 b) S Sp Num I Ir w :=
  ⟨hs, fun A B C h k => h.trans k, fun W l o o' h1 h2 h3 h4 => by
    have hl := (Array.getElem?_eq_some_iff.1 h2).1
    exact Keeps2.grown (grownBy_putObj' W l o') (by omega) (fun r e => by cases e; exact ⟨by omega, by omega⟩), fun pre W o hI => Keeps2.bel (Bel.alloc W o) (Nat.lt_of_lt_of_le hb (lo pre W hI)), own, ownr, lo, start⟩
abbrev KeySeq (x0 : Sl) (l : List Ver) (v : Value) (w0 : World) (b : Nat) (w : World) : Prop :=
  SeqAt Try.prog v (fun s : Seg l => [.string s.key, Sl.v (x0.sub s.lo s.hi 4)]) (Keeps2 w0 b) (fun xs => Cuts l xs l.length) (fun _ => True) l.length w
theorem keys1_ok {w0 w : World} {x0 : Sl} {l : List Ver} (hw : Bel w0 w) (h : VerRd w0 x0 l) {b1 : Nat} (h1 : Row w b1 [Sl.v x0] ty_L_api_Version) :
    SeqStopsK (FW none) 0 Try.prog fn_mvcc_keys_1 [.pointer (some ⟨b1, 0, none⟩)].toArray (fun s : Seg l => ([.string s.key, Sl.v (x0.sub s.lo s.hi 4)] : List Value).toArray) (Keeps2 w0 b1) (fun xs => Cuts l xs l.length) (fun _ => True) l.length w := by
  intro l' J Jx W hW hJ hJx hY h0
  have hbig := h.big; have hcap := h.cap; have hlen := h.len
  have C := L1_mvcc_keys_1 (.func (.yield l') #[] #[]) (some ⟨b1, 0, none⟩) W (fun w' => (∃ xs, Cuts l xs l.length ∧ J xs w') ∨ (∃ pre, True ∧ Jx pre w')) ?_
  · exact CallsIn.mono C fun e w' hr => ⟨⟨_, hr.1⟩, hr.2⟩
  unfold V_mvcc_keys_1
  refine ⟨fun x w1 => ∃ (n : Nat) (pre : List (Seg l)), x = (n : Int) ∧ n ≤ l.length ∧ (Bel w0 w1 ∧ Row w1 b1 [Sl.v x0] ty_L_api_Version) ∧ Cuts l pre n ∧ Bdry l n ∧ pre.length ≤ n ∧ J pre w1, fun x _ => (x0.len - x).toNat, ?_, ?_⟩
  · exact ⟨0, [], rfl, by omega, ⟨hw.trans hW, h1.bel hW⟩, Cuts.nil, Bdry.zero l, by simp, h0⟩
  rintro x w1 ⟨n, pre, rfl, hn, hb, hC, hB, hp, hj⟩
  unfold V_mvcc_keys_1_l1b
  refine S.ld1 one_L_api_Version x0 hb.2.cell ?_
  refine ⟨fun hlt => ?_, fun hlt => ?_⟩
  case refine_2 =>
    obtain rfl : n = l.length := by omega
    exact .inl ⟨pre, hC, hj⟩
  obtain ⟨e, he⟩ := getV (l := l) (n := n) (by omega)
  rw [wr64 (by omega) (by omega)]
  refine ⟨fun y w2 => ∃ m : Nat, y = (m : Int) ∧ n < m ∧ m ≤ l.length ∧ (Bel w0 w2 ∧ Row w2 b1 [Sl.v x0] ty_L_api_Version) ∧ (∀ j x, n ≤ j → j < m → l[j]? = some x → x.Key = e.Key) ∧ J pre w2, fun y _ => (x0.len - y).toNat, ?_, ?_⟩
  · exact ⟨n + 1, by omega, by omega, by omega, hb, fun j x h1 h2 hx => by obtain rfl : j = n := by omega
                                                                           rw [he] at hx; cases hx; rfl, hj⟩
  rintro y w2 ⟨m, rfl, hnm, hm, hb2, hall, hj2⟩
  unfold V_mvcc_keys_1_l2b
  refine Q.ld1 one_L_api_Version x0 hb2.2.cell ?_
  have give : (∀ x, l[m]? = some x → x.Key ≠ e.Key) → V_mvcc_keys_1_r3 (.func (.yield l') #[] #[]) (some ⟨b1, 0, none⟩) (fun w' => (∃ xs, Cuts l xs l.length ∧ J xs w') ∨ (∃ pre, True ∧ Jx pre w')) n
      (fun x' w' => (∃ (n : Nat) (pre : List (Seg l)), x' = (n : Int) ∧ n ≤ l.length ∧ (Bel w0 w' ∧ Row w' b1 [Sl.v x0] ty_L_api_Version) ∧ Cuts l pre n ∧ Bdry l n ∧ pre.length ≤ n ∧ J pre w') ∧ (x0.len - x').toNat < (x0.len - (n : Int)).toNat) m
      (fun y' w' => (∃ m : Nat, y' = (m : Int) ∧ n < m ∧ m ≤ l.length ∧ (Bel w0 w' ∧ Row w' b1 [Sl.v x0] ty_L_api_Version) ∧ (∀ j x, n ≤ j → j < m → l[j]? = some x → x.Key = e.Key) ∧ J pre w') ∧ (x0.len - y').toNat < (x0.len - (m : Int)).toNat) false w2 := by
    intro hend w3 b3
    refine ⟨fun h => (nomatch h), fun _ => ?_⟩
    have hbm : Bdry l m := fun j x y hj hx hy => by
      rw [hall j x (by omega) (by omega) hx]
      exact fun h => hend y hy h.symm
    let s : Seg l := ⟨n, m, e.Key, hnm, hm, hall, hB, hbm⟩
    intro w4 b4
    have b04 : Bel w0 w4 ∧ Row w4 b1 [Sl.v x0] ty_L_api_Version := ⟨(hb2.1.trans b3).trans b4, (hb2.2.bel b3).bel b4⟩
    have hj4 : J pre w4 := hJ _ _ _ none (hJ _ _ _ none hj2 (grown_bel b3 none) (fun r e => by cases e)) (grown_bel b4 none) (fun r e => by cases e)
    have yld : CallV Try.prog (.func (.yield l') #[] #[]) [.string e.Key, Sl.v (x0.sub n m 4)] w4 (fun e W0 => ∃ r : Bool, e = .returned (.bool r) ∧ (((!r) = true → ((∃ xs, Cuts l xs l.length ∧ J xs W0) ∨ (∃ pre, True ∧ Jx pre W0))) ∧ ((!r) = false →
        ((∃ (n : Nat) (pre : List (Seg l)), (m : Int) = (n : Int) ∧ n ≤ l.length ∧ (Bel w0 W0 ∧ Row W0 b1 [Sl.v x0] ty_L_api_Version) ∧ Cuts l pre n ∧ Bdry l n ∧ pre.length ≤ n ∧ J pre W0) ∧ (x0.len - (m : Int)).toNat < (x0.len - (n : Int)).toNat)))) := by
      refine .inr ⟨l', rfl, YieldAt.mono (hY pre s w4 hj4 (by omega)) fun e' w5 hr => ?_⟩
      rcases hr with ⟨rfl, hj5, hk⟩ | ⟨rfl, hj5⟩
      · have hk' : Bel w0 w5 ∧ Row w5 b1 [Sl.v x0] ty_L_api_Version := ⟨hk.1 b04.1, hk.2.trans b04.2⟩
        refine ⟨true, rfl, fun h => (nomatch h), fun _ => ?_⟩
        exact ⟨⟨m, pre ++ [s], rfl, hm, hk', Cuts.snoc s hC, hbm, by simp; omega, hj5⟩, by omega⟩
      · exact ⟨false, rfl, fun _ => .inr ⟨_, trivial, hj5⟩, fun h => (nomatch h)⟩
    obtain ⟨ad, had, hA⟩ := (h.bel b04.1).cells n e he
    have q0 : ∀ {k : Sl → World → Prop}, k x0 w4 → opE Try.prog Sl.v (Instr.loadAt ty_L_api_Version (.pointer (some ⟨b1, 0, none⟩))) w4 k := fun H => S.ld1 one_L_api_Version x0 b04.2.cell H
    have q1 : ∀ {k : Option Addr → Prop}, k (some (ad.add (n * 4))) → opP Try.prog Value.pointer (Instr.indexAt ty_L_api_Version (Sl.v x0) (.int .i64 (n : Int))) k := fun H => ⟨_, fun W' => run_idx und_L_api_Version esz_L_api_Version had (by omega) (by omega), H⟩
    have q2 : ∀ {k : Option Addr → Prop}, k (some ((ad.add (n * 4)).add 0)) → opP Try.prog Value.pointer (Instr.fieldAt ty_api_Version (.pointer (some (ad.add (n * 4)))) 0) k := fun H => ⟨_, fun W' => fld_api_Version_Key _ W', H⟩
    have q3 : ∀ {k : ByteArray → World → Prop}, k e.Key w4 → opE Try.prog Value.string (Instr.loadAt ty_string (.pointer (some ((ad.add (n * 4)).add 0)))) w4 k := fun H => S.ld1 one_string e.Key (hA.fld rfl) H
    have q4 : ∀ {k : Sl → Prop}, k (x0.sub n m 4) → opP Try.prog Sl.v (Instr.sliceAt ty_L_api_Version (Sl.v x0) (some (.int .i64 (n : Int))) (some (.int .i64 (m : Int))) none) k := fun H => ⟨_, fun W' => run_cut und_L_api_Version esz_L_api_Version (Nat.le_of_lt hnm) (by omega), H⟩
    exact ⟨q0 (q1 (q2 ⟨q3 (q0 (q4 yld)), q0 (q4 (q3 yld))⟩)), q0 (q4 (q0 (q1 (q2 (q3 yld)))))⟩
  refine ⟨fun hlt2 => ?_, fun hlt2 => give fun x hx => by have := (List.getElem?_eq_some_iff.1 hx).1; omega⟩
  obtain ⟨f, hf⟩ := getV (l := l) (n := m) (by omega)
  refine Q.ld1 one_L_api_Version x0 hb2.2.cell ?_
  refine Q.idx (h.bel hb2.1) und_L_api_Version esz_L_api_Version (by omega) (x := f) (by simpa using hf) fun ad hA => ?_
  refine Q.fld fld_api_Version_Key one_string hA f.Key rfl ?_
  refine Q.ld1 one_L_api_Version x0 hb2.2.cell ?_
  refine Q.idx (h.bel hb2.1) und_L_api_Version esz_L_api_Version (by omega) (x := e) (by simpa using he) fun ad hA => ?_
  refine Q.fld fld_api_Version_Key one_string hA e.Key rfl ?_
  by_cases hk : f.Key = e.Key
  · rw [decide_eq_true hk]
    intro w3 b3
    refine ⟨fun _ => ?_, fun h => (nomatch h)⟩
    rw [wr64 (by omega) (by omega)]
    refine ⟨⟨m + 1, by omega, by omega, by omega, ⟨hb2.1.trans b3, hb2.2.bel b3⟩, fun j x h1 h2 hx => ?_, hJ _ _ _ none hj2 (grown_bel b3 none) (fun r e => by cases e)⟩, by dsimp only; omega⟩
    rcases Nat.lt_or_ge j m with h3 | h3
    · exact hall j x h1 h3 hx
    · obtain rfl : j = m := by omega
      rw [hf] at hx; cases hx; exact hk
  · rw [decide_eq_false hk]
    exact give fun x hx => by rw [hf] at hx; cases hx; exact hk
theorem keys_ok {w0 w : World} {x0 : Sl} {l : List Ver} (hw : Bel w0 w) (h : VerRd w0 x0 l) {k : Value → World → Prop} (H : ∀ v b w', KeySeq x0 l v w0 b w' → w.heap.size ≤ b → b < w'.heap.size → Bel w w' → k v w') :
    Cl Try.prog fn_mvcc_keys [Sl.v x0].toArray w (fun e w' => ∃ v : Value, e = .returned v ∧ k v w') := by
  refine L1_mvcc_keys x0 w k ?_
  unfold V_mvcc_keys
  refine S.boxW (cs := [Sl.v x0]) rfl fun B w1 b1 hr hB => ?_
  exact H _ B _ ⟨fn_mvcc_keys_1, _, rfl, ent48, keys1_ok (hw.trans b1) h hr⟩ hB hr.lt b1
end Go.Proofs.Ytealcoghiaeiiaa.VG
