/- Blocks of the call's own that are stored into, and ranges over functions, as steps over a condition; no condition. -/
import Derived.Laws.CopyRow
import Derived.Test.YtealcoghiaeiiaaVMap
set_option linter.unusedVariables false
set_option linter.unusedSimpArgs false
namespace Go.VB
open Go.RowKit

def Row (w : World) (b : Nat) (cs : List Value) (t : TypeId) : Prop := w.heap[b]? = some (.cells cs.toArray t (0, 0))
theorem Row.at {w : World} {b : Nat} {cs : List Value} {t : TypeId} (h : Row w b cs t) : At w ⟨b, 0, none⟩ cs := At.blk h
theorem Row.bel {w w' : World} {b : Nat} {cs : List Value} {t : TypeId} (h : Row w b cs t) (hb : Bel w w') : Row w' b cs t := hb.blk h
theorem Row.grown {w w' : World} {b : Nat} {cs : List Value} {t : TypeId} {row : Option Nat} (h : Row w b cs t) (hg : w.grownBy w' row) (hr : row ≠ some b) : Row w' b cs t :=
  (hg.block b (Array.getElem?_eq_some_iff.1 h).1 (fun e => hr e.symm)).trans h
theorem Row.lt {w : World} {b : Nat} {cs : List Value} {t : TypeId} (h : Row w b cs t) : b < w.heap.size := (Array.getElem?_eq_some_iff.1 h).1
theorem Row.new (w : World) (cs : List Value) (t : TypeId) : Row (w.alloc (.cells cs.toArray t)) w.heap.size cs t := blk_new w _
theorem Row.cell {w : World} {b : Nat} {v : Value} {t : TypeId} (h : Row w b [v] t) : w.cell? ⟨b, 0, none⟩ = some v := by
  have := h.at 0 v rfl; simpa [Addr.add] using this
theorem setRow_grown (w : World) (g : Nat) (c : Array Value) : w.grownBy (w.setRow g c) (some g) :=
  ⟨rfl, rfl, rfl, by simp [World.setRow], fun k hk hne => by
    have : g ≠ k := fun e => hne (by rw [e])
    simp [World.setRow, Array.getElem?_modify, this]⟩
theorem setRow_same {w : World} {g : Nat} {c c' : Array Value} {t : TypeId} (h : w.heap[g]? = some (.cells c t (0, 0))) : (w.setRow g c').heap[g]? = some (.cells c' t (0, 0)) := by
  simp [World.setRow, Array.getElem?_modify, h]
section
variable {P : Program} {w : World}
theorem run_storeVar_sz {t n : Nat} (hs : ∀ w, (sizeOf t).run P w = .ok n w) {b off : Nat} {cs vs : List Value} {e : TypeId} {v : Value} (h : Row w b cs e) (hv : v.cells.toList = vs) (hn : vs.length = n) (hl : off + vs.length ≤ cs.length) (h1 : vs.all (·.oneCell') = true) :
    (storeVar t ⟨b, off, none⟩ v).run P w = .ok () (w.setRow b (cs.take off ++ vs ++ cs.drop (off + vs.length)).toArray) := by
  have h2 := run_storeCells_at (P := P) b off e vs 0 cs.toArray w h (by simpa using hl) (fun x hx => by rw [List.all_eq_true] at h1; exact h1 x hx)
  have hsz : v.cells.size = n := by rw [← hn, ← hv]; simp
  simp only [storeVar, Sem.run_bind, hs w, Result.andThen_ok]
  rw [if_neg (by rw [hsz]; simp)]
  simp only [hv]
  simpa using h2
/-- A store of one cell. -/
theorem S.st1 {t : Nat} (hA : One P t) {b off : Nat} {cs : List Value} {e : TypeId} {v : Value} (h : Row w b cs e) (hv : v.cells.toList = [v]) (hl : off < cs.length) (h1 : v.oneCell' = true) {k : World → Prop}
    (H : ∀ w', Row w' b (cs.take off ++ [v] ++ cs.drop (off + 1)) e → w.grownBy w' (some b) → k w') : opU P (Instr.storeAt t (.pointer (some ((⟨b, 0, none⟩ : Addr).add off))) v) w k := by
  refine ⟨w.setRow b (cs.take off ++ [v] ++ cs.drop (off + 1)).toArray, ?_, H _ (setRow_same h) (setRow_grown w b _)⟩
  have := run_storeVar_sz hA.size (off := off) h hv rfl (by simp; omega) (by simpa using h1)
  rw [add_plain']
  simpa [Instr.storeAt, Instr.sureAddr] using this
theorem S.st0 {t : Nat} (hA : One P t) {b : Nat} {u : Value} {e : TypeId} {v : Value} (h : Row w b [u] e) (hv : v.cells.toList = [v]) (h1 : v.oneCell' = true) {k : World → Prop}
    (H : ∀ w', Row w' b [v] e → w.grownBy w' (some b) → k w') : opU P (Instr.storeAt t (.pointer (some ⟨b, 0, none⟩)) v) w k := by
  have := S.st1 hA (off := 0) h hv (by simp) h1 H
  simpa [Addr.add] using this
/-- A store of a struct into a variable of its own. -/
theorem S.stA {t n : Nat} (hA : Agg P t n) {b : Nat} {cs cs' : List Value} {e : TypeId} (h : Row w b cs e) (hn : cs.length = n) (hn' : cs'.length = n) (h1 : cs'.all (·.oneCell') = true) {k : World → Prop}
    (H : ∀ w', Row w' b cs' e → w.grownBy w' (some b) → k w') : opU P (Instr.storeAt t (.pointer (some ⟨b, 0, none⟩)) (.agg cs'.toArray)) w k := by
  refine ⟨w.setRow b cs'.toArray, ?_, H _ (setRow_same h) (setRow_grown w b _)⟩
  have := run_storeVar_sz hA.size (off := 0) (v := .agg cs'.toArray) (vs := cs') h (by simp [Value.cells]) hn' (by omega) h1
  have h2 : cs.drop (0 + cs'.length) = [] := List.drop_of_length_le (by omega)
  rw [h2] at this
  simpa [Instr.storeAt, Instr.sureAddr] using this
theorem S.box {t : Nat} {v : Value} (hv : v.cells = #[v]) {k : Option Addr → World → Prop} (H : k (some ⟨w.heap.size, 0, none⟩) (w.alloc (.cells [v].toArray t))) : opE P Value.pointer (Instr.box t v) w k := by
  refine ⟨_, w.alloc (.cells v.cells t), rfl, ?_⟩
  rw [hv]; exact H
theorem S.new1 {t : Nat} {z : List Value} (hz : ∀ w, (Instr.alloc t true (.tuple #[])).run P w = .ok (.pointer (some ⟨w.heap.size, 0, none⟩)) (w.alloc (.cells z.toArray t))) {k : Option Addr → World → Prop} (H : k (some ⟨w.heap.size, 0, none⟩) (w.alloc (.cells z.toArray t))) : opE P Value.pointer (Instr.alloc t true (.tuple #[])) w k := ⟨_, _, hz w, H⟩
theorem R.cell {τ : Type} {enc : τ → Value} {t : Nat} (hA : One P t) {b : Nat} {e : TypeId} {k : τ → Prop} (x : τ) (h : Row w b [enc x] e) (H : k x) : opR P enc t (some ⟨b, 0, none⟩) w k := by
  refine ⟨x, _, rfl, ?_, H⟩
  have := run_ld_one hA h.cell
  simpa [Instr.loadAt, Instr.sureAddr] using this
end
/-! ### Rounds -/
theorem OwnS.isRow {α : Type} {c : α → List Value} {n e base : Nat} {w : World} {s : Sl} {xs : List α} (h : OwnS c n e base w s xs) {k : Nat} (hk : (Sl.v s).ownBlock = some k) : ∃ cs t fr, w.heap[k]? = some (.cells cs t fr) := by
  rcases h.row.2 with ⟨h1, _⟩ | ⟨g, cap, cur, h1, _, hh, _⟩
  · rw [h1] at hk; cases hk
  · rw [h1] at hk
    simp [Value.ownBlock] at hk
    subst hk
    exact ⟨_, _, _, hh⟩
theorem KeepsFrom.row {B : Nat} {w w' : World} {row : Option Nat} (hg : w.grownBy w' row) (hr : ∀ r, row = some r → ∃ cs t fr, w.heap[r]? = some (.cells cs t fr)) : KeepsFrom B w w' :=
  ⟨hg.size, fun k o hB hk ho => (hg.block k (Array.getElem?_eq_some_iff.1 hk).1 (fun e => by
    obtain ⟨cs, t, fr, h⟩ := hr k e.symm
    rw [hk] at h; cases h; simp [Obj.isCells] at ho)).trans hk⟩
theorem KeepsFrom.bel {B : Nat} {w w' : World} (h : Bel w w') : KeepsFrom B w w' := KeepsFrom.row (grown_bel h none) (fun r e => by cases e)
theorem Bel.in {n0 : Nat} {w w' : World} (h : Bel w w') (hn : n0 ≤ w.heap.size) : Below n0 w w' := h.mono hn
theorem Bw.row {n0 : Nat} {w w' : World} {row : Option Nat} (hg : w.grownBy w' row) (hn : n0 ≤ w.heap.size) (hr : ∀ r, row = some r → n0 ≤ r) : Below n0 w w' := (Below.refl n0 w).grown hg hn hr
theorem SeqAt.later {α : Type} {P : Program} {v : Value} {encs : α → List Value} {Kp : World → World → Prop} {S Sp : List α → Prop} {Num : Nat} {w w' : World} (h : SeqAt P v encs Kp S Sp Num w) (hb : Bel w w') : SeqAt P v encs Kp S Sp Num w' := by
  obtain ⟨gf, lb, rfl, he, hs⟩ := h
  exact ⟨gf, lb, rfl, he, fun l J Jx W hW hJ hJx hY h0 => hs l J Jx W (hb.trans hW) hJ hJx hY h0⟩
/-- What a loop over an iterator that keeps what lay ahead must have. -/
theorem RangeOk.of {α : Type} {P : Program} {v : Value} {encs : α → List Value} {n0 : Nat} {S Sp : List α → Prop} {Num : Nat} {I Ir : List α → World → Prop} {w : World} (hs : SeqAt P v encs (Below n0) S Sp Num w) (hn : n0 ≤ w.heap.size)
    (own : OwnFrom w.heap.size I) (ownr : OwnFrom w.heap.size Ir) (lo : ∀ pre W, I pre W → w.heap.size ≤ W.heap.size) (start : I [] w) : RangeOk P v encs (Below n0) S Sp Num I Ir w :=
  ⟨hs, fun A B C h k => h.trans k, fun W l o o' h1 h2 h3 h4 => belowK_b hn W l o o' h1 h2 h3 h4, fun pre W o hI => (Below.refl n0 W).alloc (Nat.le_trans hn (lo pre W hI)) o, own, ownr, lo, start⟩
/-- What a walk's own turn leaves: rows of cells. -/
theorem Row.notwalk {w w' : World} {b : Nat} {cs : List Value} {t : TypeId} {row : Option Nat} {B : Nat} (h : Row w b cs t) (hg : w.grownBy w' row) (hr : ∀ r, row = some r → B ≤ r ∧ ∃ o : Obj, w.heap[r]? = some o ∧ o.isCells = false) : Row w' b cs t :=
  h.grown hg (fun e => by
    obtain ⟨_, o, ho, hc⟩ := hr b e
    unfold Row at h; rw [h] at ho; cases ho; simp [Obj.isCells] at hc)
theorem OwnS.notwalk {α : Type} {c : α → List Value} {n e base : Nat} {w w' : World} {s : Sl} {xs : List α} {row : Option Nat} {B : Nat} (h : OwnS c n e base w s xs) (hg : w.grownBy w' row) (hr : ∀ r, row = some r → B ≤ r ∧ ∃ o : Obj, w.heap[r]? = some o ∧ o.isCells = false) : OwnS c n e base w' s xs := by
  refine h.kept hg ?_
  cases hk : (Sl.v s).ownBlock with
  | none => exact .inl rfl
  | some k =>
    refine .inr fun e => ?_
    obtain ⟨cs, t, fr, h1⟩ := h.isRow hk
    obtain ⟨_, o, ho, hc⟩ := hr k e.symm
    rw [h1] at ho; cases ho; simp [Obj.isCells] at hc
theorem Bel.notwalk {w0 w w' : World} {row : Option Nat} {B : Nat} (h : Bel w0 w) (hB : w0.heap.size ≤ B) (hg : w.grownBy w' row) (hr : ∀ r, row = some r → B ≤ r ∧ ∃ o : Obj, w.heap[r]? = some o ∧ o.isCells = false) : Bel w0 w' :=
  h.grown hg (fun k e => Nat.le_trans hB (hr k e).1)
theorem Bel.trans_low {a b c : World} (h : Bel a b) (k : Below a.heap.size b c) : Bel a c := Below.trans h k
theorem shut_grown (w : World) (D : Nat) : w.grownBy (w.putObj D (.deferred none)) (some D) := grownBy_putObj' w D _
end Go.VB
