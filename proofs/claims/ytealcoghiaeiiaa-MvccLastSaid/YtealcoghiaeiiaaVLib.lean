/- Words on memory for proofs over verification conditions: cells, slices that are read, new blocks; no condition. -/
import Derived.Deep.WholeRow
import Derived.Laws.StructEq
import Derived.Test.YtealcoghiaeiiaaVBase
set_option linter.unusedVariables false
set_option linter.unusedSimpArgs false
namespace Go.VB
open Go.RowKit

/-! ### Worlds -/
theorem Bel.trans {a b c : World} (h : Bel a b) (k : Bel b c) : Bel a c := Below.trans h ⟨k.os, k.tape, k.output, k.size, fun i hi => k.block i (Nat.lt_of_lt_of_le hi h.size)⟩
theorem Bel.alloc (w : World) (o : Obj) : Bel w (w.alloc o) := (Below.refl _ _).alloc (Nat.le_refl _) o
theorem Bel.le {a b : World} (h : Bel a b) : a.heap.size ≤ b.heap.size := h.size
theorem Bel.cell {a b : World} (h : Bel a b) {p : Addr} {v : Value} (hc : a.cell? p = some v) : b.cell? p = some v :=
  (Below.cell h (World.block_lt_of_cell? _ _ hc)).trans hc
theorem Bel.blk {a b : World} (h : Bel a b) {k : Nat} {o : Obj} (hc : a.heap[k]? = some o) : b.heap[k]? = some o :=
  (h.block k (Array.getElem?_eq_some_iff.1 hc).1).trans hc
theorem size_alloc' (w : World) (o : Obj) : (w.alloc o).heap.size = w.heap.size + 1 := by show (w.heap.push o).size = _; simp
theorem blk_new (w : World) (o : Obj) : (w.alloc o).heap[w.heap.size]? = some o := by show (w.heap.push o)[w.heap.size]? = _; simp

/-! ### Rows of cells -/
def At (w : World) (a : Addr) (cs : List Value) : Prop := ∀ j v, cs[j]? = some v → w.cell? (a.add j) = some v
theorem At.bel {w w' : World} {a : Addr} {cs : List Value} (h : At w a cs) (hb : Bel w w') : At w' a cs := fun j v hj => hb.cell (h j v hj)
theorem add_plain' (g j : Nat) : (⟨g, 0, none⟩ : Addr).add j = ⟨g, j, none⟩ := by unfold Addr.add; split <;> simp_all
theorem add_add (a : Addr) (i j : Nat) : (a.add i).add j = a.add (i + j) := by
  unfold Addr.add
  by_cases h1 : i = 0 <;> by_cases h2 : j = 0 <;> simp [h1, h2]
  omega
theorem At.blk {w : World} {b : Nat} {cs : List Value} {t : TypeId} {fr : Nat × Nat} (h : w.heap[b]? = some (.cells cs.toArray t fr)) : At w ⟨b, 0, none⟩ cs := by
  intro j v hj
  rw [add_plain']
  simp [World.cell?, h, hj]
theorem At.new (w : World) (cs : List Value) (t : TypeId) : At (w.alloc (.cells cs.toArray t)) ⟨w.heap.size, 0, none⟩ cs := At.blk (blk_new w _)

/-! ### Types -/
structure Agg (P : Program) (t n : Nat) : Prop where
  agg : ∀ w, (isAgg t).run P w = .ok true w
  size : ∀ w, (sizeOf t).run P w = .ok n w
  info : (P.info? t).map (·.size) = some n
structure One (P : Program) (t : Nat) : Prop where
  agg : ∀ w, (isAgg t).run P w = .ok false w
  size : ∀ w, (sizeOf t).run P w = .ok 1 w

theorem run_ld_agg {P : Program} {t n : Nat} (h : Agg P t n) {w : World} {a : Addr} {cs : List Value} (hc : At w a cs) (hn : cs.length = n) :
    (Instr.loadAt t (.pointer (some a))).run P w = .ok (.agg cs.toArray) w := by
  subst hn
  simp [Instr.loadAt, Instr.sureAddr, loadVar, h.agg w, h.size w, run_loadCells_list w a cs hc]
theorem run_ld_one {P : Program} {t : Nat} (h : One P t) {w : World} {a : Addr} {v : Value} (hc : w.cell? a = some v) :
    (Instr.loadAt t (.pointer (some a))).run P w = .ok v w := by
  simp [Instr.loadAt, Instr.sureAddr, loadVar, h.agg w, load, Sem.run, hc]
theorem run_idx {P : Program} {t e n : Nat} (hu : P.underlying t = some (.slice e)) (hs : ∀ w, (sizeOf e).run P w = .ok n w) {w : World} {s : Sl} {ad : Addr} {k : IntKind} {i : Int}
    (ha : s.a = some ad) (h0 : 0 ≤ i) (h1 : i < s.len) : (Instr.indexAt t (Sl.v s) (.int k i)).run P w = .ok (.pointer (some (ad.add (i.toNat * n)))) w := by
  simp [Instr.indexAt, run_underlying hu, asIntOf, ha, h0, h1, hs w]

/-! ### Slices that are read -/
structure Rd {α : Type} (c : α → List Value) (n : Nat) (w : World) (s : Sl) (xs : List α) : Prop where
  len : xs.length = s.len
  cap : s.len ≤ s.cap
  capm : s.cap ≤ 9223372036854775807
  big : s.len ≤ 140737488355328
  nilc : s.a = none → s.cap = 0
  cells : ∀ i x, xs[i]? = some x → ∃ ad, s.a = some ad ∧ At w (ad.add (i * n)) (c x)
theorem Rd.bel {α : Type} {c : α → List Value} {n : Nat} {w w' : World} {s : Sl} {xs : List α} (h : Rd c n w s xs) (hb : Bel w w') : Rd c n w' s xs :=
  ⟨h.len, h.cap, h.capm, h.big, h.nilc, fun i x hx => let ⟨ad, e, ha⟩ := h.cells i x hx; ⟨ad, e, ha.bel hb⟩⟩
theorem Rd.lenI {α : Type} {c : α → List Value} {n : Nat} {w : World} {s : Sl} {xs : List α} (h : Rd c n w s xs) : (s.len : Int) = (xs.length : Int) := by rw [h.len]
theorem Rd.nil {α : Type} (c : α → List Value) (n : Nat) (w : World) : Rd c n w Sl.none [] := ⟨rfl, by simp, by simp, by simp, fun _ => rfl, fun i x h => by simp at h⟩

/-! ### Steps over a condition -/
section
variable {P : Program} {w : World}
theorem S.idx {α : Type} {c : α → List Value} {n t e : Nat} {s : Sl} {xs : List α} {i : Int} {k : Option Addr → World → Prop} (h : Rd c n w s xs)
    (hu : P.underlying t = some (.slice e)) (hs : ∀ w, (sizeOf e).run P w = .ok n w) (h0 : 0 ≤ i) {x : α} (hx : xs[i.toNat]? = some x) (H : ∀ ad, At w ad (c x) → k (some ad) w) :
    opE P Value.pointer (Instr.indexAt t (Sl.v s) (.int .i64 i)) w k := by
  obtain ⟨ad, ha, hc⟩ := h.cells _ x hx
  have hlt : i.toNat < xs.length := (List.getElem?_eq_some_iff.1 hx).1
  exact ⟨_, w, run_idx hu hs ha h0 (by have := h.len; omega), H _ hc⟩
theorem S.ldA {τ : Type} {enc : τ → Value} {t n : Nat} (hA : Agg P t n) {ad : Addr} {cs : List Value} {k : τ → World → Prop} (x : τ) (hx : enc x = .agg cs.toArray) (h : At w ad cs) (hn : cs.length = n) (H : k x w) :
    opE P enc (Instr.loadAt t (.pointer (some ad))) w k := ⟨x, w, by rw [run_ld_agg hA h hn, hx], H⟩
theorem S.ld1 {τ : Type} {enc : τ → Value} {t : Nat} (hA : One P t) {ad : Addr} {k : τ → World → Prop} (x : τ) (h : w.cell? ad = some (enc x)) (H : k x w) :
    opE P enc (Instr.loadAt t (.pointer (some ad))) w k := ⟨x, w, run_ld_one hA h, H⟩
/-- A field's place, then its value. -/
theorem S.fld {τ : Type} {enc : τ → Value} {s f off t : Nat} (hf : ∀ p w, (Instr.fieldAt s (.pointer (some p)) f).run P w = .ok (.pointer (some (p.add off))) w) (hA : One P t)
    {ad : Addr} {cs : List Value} {k : τ → World → Prop} (h : At w ad cs) (x : τ) (hx : cs[off]? = some (enc x)) (H : k x w) :
    opE P Value.pointer (Instr.fieldAt s (.pointer (some ad)) f) w (fun p w => opE P enc (Instr.loadAt t (.pointer p)) w k) :=
  ⟨_, w, hf ad w, x, w, run_ld_one hA (h _ _ hx), H⟩
/-- A new variable of a struct's type, and what is put there. -/
theorem S.new {t n : Nat} {z : List Value} (hz : ∀ w, (Instr.alloc t true (.tuple #[])).run P w = .ok (.pointer (some ⟨w.heap.size, 0, none⟩)) (w.alloc (.cells z.toArray t))) (hzn : z.length = n)
    (hA : Agg P t n) {cs : List Value} (hn : cs.length = n) (h1 : cs.all (·.oneCell') = true) {v : Value} (hv : v = .agg cs.toArray) {k : Option Addr → World → Prop}
    (H : k (some ⟨w.heap.size, 0, none⟩) (w.alloc (.cells cs.toArray t))) :
    opE P Value.pointer (Instr.alloc t true (.tuple #[])) w (fun p w => opU P (Instr.storeAt t (.pointer p) v) w (k p)) := by
  subst hv
  refine ⟨_, _, hz w, _, run_storeAt_new w t z.toArray cs.toArray ?_ (by simp [hzn, hn]) (by simpa using h1), H⟩
  rw [hA.info]; simp [hn]
end

section
variable {P : Program} {w : World}
theorem Q.idx {α : Type} {c : α → List Value} {n t e : Nat} {s : Sl} {xs : List α} {i : Int} {k : Option Addr → Prop} (h : Rd c n w s xs)
    (hu : P.underlying t = some (.slice e)) (hs : ∀ w, (sizeOf e).run P w = .ok n w) (h0 : 0 ≤ i) {x : α} (hx : xs[i.toNat]? = some x) (H : ∀ ad, At w ad (c x) → k (some ad)) :
    opB P Value.pointer (Instr.indexAt t (Sl.v s) (.int .i64 i)) w k := by
  obtain ⟨ad, ha, hc⟩ := h.cells _ x hx
  have hlt : i.toNat < xs.length := (List.getElem?_eq_some_iff.1 hx).1
  exact ⟨_, fun w' _ => run_idx hu hs ha h0 (by have := h.len; omega), H _ hc⟩
theorem Q.ldA {τ : Type} {enc : τ → Value} {t n : Nat} (hA : Agg P t n) {ad : Addr} {cs : List Value} {k : τ → Prop} (x : τ) (hx : enc x = .agg cs.toArray) (h : At w ad cs) (hn : cs.length = n) (H : k x) :
    opB P enc (Instr.loadAt t (.pointer (some ad))) w k := ⟨x, fun w' hb => by rw [run_ld_agg hA (h.bel hb) hn, hx], H⟩
theorem Q.ld1 {τ : Type} {enc : τ → Value} {t : Nat} (hA : One P t) {ad : Addr} {k : τ → Prop} (x : τ) (h : w.cell? ad = some (enc x)) (H : k x) :
    opB P enc (Instr.loadAt t (.pointer (some ad))) w k := ⟨x, fun w' hb => run_ld_one hA (hb.cell h), H⟩
theorem Q.fld {τ : Type} {enc : τ → Value} {s f off t : Nat} (hf : ∀ p w, (Instr.fieldAt s (.pointer (some p)) f).run P w = .ok (.pointer (some (p.add off))) w) (hA : One P t)
    {ad : Addr} {cs : List Value} {k : τ → Prop} (h : At w ad cs) (x : τ) (hx : cs[off]? = some (enc x)) (H : k x) :
    opB P Value.pointer (Instr.fieldAt s (.pointer (some ad)) f) w (fun p => opB P enc (Instr.loadAt t (.pointer p)) w k) :=
  ⟨_, fun w' _ => hf ad w', x, fun w' hb => run_ld_one hA (hb.cell (h _ _ hx)), H⟩
end
/-! ### Slices of the call's own -/
theorem flat_at {α : Type} {c : α → List Value} {n : Nat} (hc : ∀ x, (c x).length = n) : ∀ (xs : List α) (i j : Nat) (x : α), xs[i]? = some x → j < n → (xs.flatMap c)[i * n + j]? = (c x)[j]?
  | [], i, j, x, h, _ => by simp at h
  | y :: r, 0, j, x, h, hj => by
    simp at h; subst h
    rw [List.flatMap_cons, List.getElem?_append_left (by rw [hc]; omega)]
    simp
  | y :: r, i + 1, j, x, h, hj => by
    have h' : r[i]? = some x := by simpa using h
    rw [List.flatMap_cons, List.getElem?_append_right (by rw [hc, Nat.add_mul]; omega), hc, ← flat_at hc r i j x h' hj]
    congr 1
    rw [Nat.add_mul]; omega
theorem flat_len {α : Type} {c : α → List Value} {n : Nat} (hc : ∀ x, (c x).length = n) (xs : List α) : (xs.flatMap c).length = xs.length * n := by
  induction xs with
  | nil => simp
  | cons y r ih => simp [List.flatMap_cons, hc, ih, Nat.add_mul]; omega
theorem grown_trans {a b c : World} {row : Option Nat} (h : a.grownBy b row) (k : b.grownBy c row) : a.grownBy c row :=
  ⟨k.os.trans h.os, k.tape.trans h.tape, k.output.trans h.output, Nat.le_trans h.size k.size, fun i hi hr => (k.block i (Nat.lt_of_lt_of_le hi h.size) hr).trans (h.block i hi hr)⟩
structure OwnS {α : Type} (c : α → List Value) (n e base : Nat) (w : World) (s : Sl) (xs : List α) : Prop where
  len : xs.length = s.len
  small : s.len ≤ 140737488355328
  row : w.ownsRow base e n (Sl.v s) s.len (xs.flatMap c)
theorem OwnS.nil {α : Type} (c : α → List Value) (n e base : Nat) (w : World) : OwnS c n e base w Sl.none [] := ⟨rfl, by simp, World.ownsRow_nil _ _ _ _⟩
theorem OwnS.rd {α : Type} {c : α → List Value} {n e base : Nat} {w : World} {s : Sl} {xs : List α} (h : OwnS c n e base w s xs) (hc : ∀ x, (c x).length = n) : Rd c n w s xs := by
  obtain ⟨hl, hs, hr⟩ := h
  obtain ⟨a, len, cap⟩ := s
  rcases hr.2 with ⟨h1, h2⟩ | ⟨g, cap', cur, h1, hb, hh, hcap, hm, hsz, htk⟩
  · injection h1 with h3 h4 h5
    subst h3; subst h5
    simp only at h2; subst h2
    exact ⟨hl, by simp, by simp, by simp, fun _ => rfl, fun i x hx => by
      have : i < xs.length := (List.getElem?_eq_some_iff.1 hx).1
      simp at hl; subst hl; simp at this⟩
  · injection h1 with h3 h4 h5
    subst h3; subst h5
    refine ⟨hl, hcap, by simpa [maxLen] using hm, hs, fun h => by simp at h, fun i x hx => ⟨⟨g, 0, none⟩, rfl, fun j u hj => ?_⟩⟩
    have hjn : j < n := by have := (List.getElem?_eq_some_iff.1 hj).1; rw [hc] at this; exact this
    rw [add_add]
    refine hr.cells (g := g) rfl _ _ ?_
    rw [flat_at hc xs i j x hx hjn]; exact hj
theorem OwnS.kept {α : Type} {c : α → List Value} {n e base : Nat} {w w' : World} {s : Sl} {xs : List α} (h : OwnS c n e base w s xs) {row : Option Nat} (hg : w.grownBy w' row) (hne : (Sl.v s).ownBlock = none ∨ (Sl.v s).ownBlock ≠ row) : OwnS c n e base w' s xs :=
  ⟨h.len, h.small, h.row.kept hg hne⟩
theorem grown_bel {w w' : World} (h : Bel w w') (row : Option Nat) : w.grownBy w' row := ⟨h.os, h.tape, h.output, h.size, fun k hk _ => h.block k hk⟩
theorem OwnS.bel {α : Type} {c : α → List Value} {n e base : Nat} {w w' : World} {s : Sl} {xs : List α} (h : OwnS c n e base w s xs) (hb : Bel w w') : OwnS c n e base w' s xs := by
  refine h.kept (grown_bel hb none) ?_
  cases (Sl.v s).ownBlock <;> simp
theorem OwnS.lo {α : Type} {c : α → List Value} {n e base : Nat} {w : World} {s : Sl} {xs : List α} (h : OwnS c n e base w s xs) {k : Nat} (hk : (Sl.v s).ownBlock = some k) : base ≤ k := (h.row.lt k hk).1
theorem Bel.grown {w0 w w' : World} {row : Option Nat} (h : Bel w0 w) (hg : w.grownBy w' row) (hr : ∀ k, row = some k → w0.heap.size ≤ k) : Bel w0 w' := Below.grown h hg h.size hr
section
variable {P : Program} {w0 w : World} {α : Type} {c : α → List Value} {n e t bytes base : Nat}
/-- append(s, ys..): s the call's own. -/
theorem S.app {s y : Sl} {xs ys : List α} (hO : OwnS c n e base w s xs) (hy : Rd c n w y ys) (hc : ∀ x, (c x).length = n) (h1 : ∀ x, (c x).all (·.oneCell') = true) (hn : 0 < n)
    (hu : P.underlying t = some (.slice e)) {z : Value} (hi : (P.info? e).map (fun i => (i.zero, i.size, i.bytes)) = some (some z, n, bytes)) (hz : z.cells.size = n) (hby : 0 < bytes)
    (hB : Bel w0 w) (hb : w0.heap.size ≤ base) (hbw : base ≤ w.heap.size) (room : (xs.length + ys.length) * bytes ≤ 140737488355328) {k : Sl → World → Prop} {ty : TypeId}
    (H : ∀ s' w', OwnS c n e base w' s' (xs ++ ys) → Bel w0 w' → w.grownBy w' (Sl.v s).ownBlock → k s' w') :
    opE P Sl.v (Builtin.append_ #[t, t] ty [Sl.v s, Sl.v y].toArray) w k := by
  obtain ⟨i0, hi0, hi1⟩ := Option.map_eq_some_iff.1 hi
  simp only [Prod.mk.injEq] at hi1
  obtain ⟨hz0, hz1, hz2⟩ := hi1
  have hroom : xs.length + ys.length ≤ 140737488355328 := Nat.le_trans (Nat.le_mul_of_pos_right _ hby) room
  have hsl := hO.len
  have hyl := hy.len
  by_cases hya : y.a = none
  · have hcap := hy.nilc hya
    have hlen : y.len = 0 := by have := hy.cap; omega
    have hy0 : ys = [] := List.eq_nil_of_length_eq_zero (by omega)
    have hyv : Sl.v y = .slice none 0 0 := by simp [Sl.v, hya, hcap, hlen]
    refine ⟨s, w, ?_, H s w (by rw [hy0]; simpa using hO) hB (World.grownBy.refl _ _)⟩
    rw [hyv]
    exact run_append_owned_none (w := w) base t ty e i0 n hu hi0 (Sl.v s) s.len _ hO.row
  · obtain ⟨ad, had⟩ : ∃ ad, y.a = some ad := by
      cases h : y.a with
      | none => exact absurd h hya
      | some ad => exact ⟨ad, rfl⟩
    have hnews : ∀ j u, (ys.flatMap c)[j]? = some u → w.cell? (ad.add j) = some u := by
      intro j u hj
      have hjl : j < ys.length * n := by have := (List.getElem?_eq_some_iff.1 hj).1; rwa [flat_len hc] at this
      have hdiv : j / n < ys.length := Nat.div_lt_of_lt_mul (by rwa [Nat.mul_comm] at hjl)
      have hmod : j % n < n := Nat.mod_lt _ hn
      have hx : ys[j / n]? = some ys[j / n] := by simp [hdiv]
      obtain ⟨ad', h3, h4⟩ := hy.cells _ _ hx
      rw [had] at h3; obtain rfl := Option.some.inj h3
      have he : j / n * n + j % n = j := by rw [Nat.mul_comm]; exact Nat.div_add_mod j n
      have h5 := flat_at hc ys (j / n) (j % n) _ hx hmod
      rw [he, hj] at h5
      have h6 := h4 (j % n) u h5.symm
      rwa [add_add, he] at h6
    obtain ⟨v', w', hrun, r1, r2, r3⟩ := run_append_own (P := P) w base t ty e i0 z n bytes hu hi0 hz0 hz1 hz2 hz hn (Sl.v s) s.len _ hO.row ad y.len y.cap (ys.flatMap c) (by rw [flat_len hc, hyl]) hnews
      (fun u hu' => by
        obtain ⟨x, _, hx⟩ := List.mem_flatMap.1 hu'
        have := h1 x
        rw [List.all_eq_true] at this
        exact this u hx) (by simp only [maxLen]; omega) (by rw [← hsl, ← hyl]; exact room) hbw
    obtain ⟨s', hs'⟩ : ∃ s' : Sl, v' = Sl.v s' ∧ s'.len = s.len + y.len := by
      rcases r1.2 with ⟨h1, h2⟩ | ⟨g, cap, cur, h1, _⟩
      · exact ⟨Sl.none, h1, by simp; omega⟩
      · exact ⟨⟨some ⟨g, 0, none⟩, s.len + y.len, cap⟩, h1, rfl⟩
    obtain ⟨rfl, hlen'⟩ := hs'
    refine ⟨s', w', ?_, H s' w' ⟨by simp; omega, by omega, by rw [hlen', List.flatMap_append]; exact r1⟩ (hB.grown r2 (fun k hk => Nat.le_trans hb (hO.lo hk))) r2⟩
    have : Sl.v y = .slice (some ad) y.len y.cap := by simp [Sl.v, had]
    rw [this]; exact hrun
/-- append(s, x). -/
theorem S.app1 {s : Sl} {xs : List α} {x : α} {vx : Value} (hO : OwnS c n e base w s xs) (hc : ∀ x, (c x).length = n) (h1 : ∀ x, (c x).all (·.oneCell') = true) (hn : 0 < n)
    (hu : P.underlying t = some (.slice e)) {z : Value} (hi : (P.info? e).map (fun i => (i.zero, i.size, i.bytes)) = some (some z, n, bytes)) (hz : z.cells.size = n) (hby : 0 < bytes)
    (hbs : ∀ w, (Instr.buildSlice t 1 [(0, vx)].toArray).run P w = .ok (Sl.v ⟨some ⟨w.heap.size, 0, none⟩, 1, 1⟩) (w.alloc (.cells (c x).toArray e)))
    (hB : Bel w0 w) (hb : w0.heap.size ≤ base) (hbw : base ≤ w.heap.size) (room : (xs.length + 1) * bytes ≤ 140737488355328) {k : Sl → World → Prop} {ty : TypeId}
    (H : ∀ s' w', OwnS c n e base w' s' (xs ++ [x]) → Bel w0 w' → w.grownBy w' (Sl.v s).ownBlock → k s' w') :
    opE P Sl.v (Instr.buildSlice t 1 [(0, vx)].toArray) w (fun y w => opE P Sl.v (Builtin.append_ #[t, t] ty [Sl.v s, Sl.v y].toArray) w k) := by
  refine ⟨_, _, hbs w, ?_⟩
  have hA : At (w.alloc (.cells (c x).toArray e)) ⟨w.heap.size, 0, none⟩ (c x) := At.new w (c x) e
  refine S.app (ys := [x]) (hO.bel (Bel.alloc _ _)) ⟨rfl, by simp, by simp, by simp, fun h => by simp at h, fun i y hy => ?_⟩ hc h1 hn hu hi hz hby (hB.trans (Bel.alloc _ _)) hb (by rw [size_alloc']; omega) (by simpa using room) fun s' w' h1 h2 h3 => ?_
  · cases i with
    | zero =>
      simp at hy; subst hy
      exact ⟨_, rfl, by rw [Nat.zero_mul]; simpa [Addr.add] using hA⟩
    | succ i => simp at hy
  · exact H s' w' h1 h2 (grown_trans (World.grownBy_alloc w _ _) h3)
/-- []T{} -/
theorem OwnS.lit0 (hbw : base ≤ w.heap.size) : OwnS c n e base (w.alloc (.cells #[] e)) ⟨some ⟨w.heap.size, 0, none⟩, 0, 0⟩ [] :=
  ⟨rfl, by simp, by have := World.ownsRow_lit (base := base) (e := e) (size := n) w #[] 0 hbw (by simp) (by simp); simpa using this⟩
end
/-! ### Cuts of slices -/
def Sl.sub (s : Sl) (l h n : Nat) : Sl := ⟨if s.cap = l then s.a else s.a.map (·.add (l * n)), h - l, s.cap - l⟩
theorem run_cut {P : Program} {w : World} {t e n : Nat} (hu : P.underlying t = some (.slice e)) (hs : ∀ w, (sizeOf e).run P w = .ok n w) {s : Sl} {kl kh : IntKind} {l h : Nat} (h0 : l ≤ h) (h1 : h ≤ s.cap) :
    (Instr.sliceAt t (Sl.v s) (some (.int kl l)) (some (.int kh h)) none).run P w = .ok (Sl.v (s.sub l h n)) w := by
  simp [Instr.sliceAt, run_underlying hu, Instr.slice, Instr.sliceBounds, Instr.sliceBound, asIntOf, hs w, h0, h1, Sl.sub]
theorem run_from {P : Program} {w : World} {t e n : Nat} (hu : P.underlying t = some (.slice e)) (hs : ∀ w, (sizeOf e).run P w = .ok n w) {s : Sl} {kl : IntKind} {l : Nat} (h0 : l ≤ s.len) :
    (Instr.sliceAt t (Sl.v s) (some (.int kl l)) none none).run P w = .ok (Sl.v (s.sub l s.len n)) w := by
  simp [Instr.sliceAt, run_underlying hu, Instr.slice, Instr.sliceBounds, Instr.sliceBound, asIntOf, hs w, h0, Sl.sub]
theorem run_upto {P : Program} {w : World} {t e n : Nat} (hu : P.underlying t = some (.slice e)) (hs : ∀ w, (sizeOf e).run P w = .ok n w) {s : Sl} {kh : IntKind} {h : Nat} (h1 : h ≤ s.cap) :
    (Instr.sliceAt t (Sl.v s) none (some (.int kh h)) none).run P w = .ok (Sl.v (s.sub 0 h n)) w := by
  simp [Instr.sliceAt, run_underlying hu, Instr.slice, Instr.sliceBounds, Instr.sliceBound, asIntOf, hs w, h1, Sl.sub, Addr.add]
theorem Rd.sub {α : Type} {c : α → List Value} {n : Nat} {w : World} {s : Sl} {xs : List α} (hr : Rd c n w s xs) {l h : Nat} (h0 : l ≤ h) (h1 : h ≤ s.len) : Rd c n w (s.sub l h n) ((xs.drop l).take (h - l)) := by
  have hcap := hr.cap; have hlen := hr.len; have hbig := hr.big; have hm := hr.capm
  refine ⟨by simp [Sl.sub]; omega, by simp [Sl.sub]; omega, by simp [Sl.sub]; omega, by simp [Sl.sub]; omega, fun hn => ?_, fun i x hx => ?_⟩
  · have : s.a = none := by
      unfold Sl.sub at hn; simp only at hn
      split at hn
      · exact hn
      · cases h : s.a with
        | none => rfl
        | some a => rw [h] at hn; simp at hn
    have := hr.nilc this
    simp [Sl.sub]; omega
  · have hi : i < h - l := by
      have := (List.getElem?_eq_some_iff.1 hx).1
      simp at this; omega
    have hx' : xs[l + i]? = some x := by
      rw [List.getElem?_take_of_lt hi, List.getElem?_drop] at hx; exact hx
    obtain ⟨ad, ha, hA⟩ := hr.cells _ _ hx'
    have hne : ¬ s.cap = l := by omega
    refine ⟨ad.add (l * n), by simp [Sl.sub, hne, ha], ?_⟩
    rw [add_add, ← Nat.add_mul]
    exact hA
/-! ### '==' on structs -/
section
variable {P : Program} {w : World} {d : Nat} {xs ys : Array Value} {f : Field} {fs : List Field} {a b : Value}
theorem eqI {t : TypeId} {k k' : IntKind} (h : P.underlying t = some (.int k')) (m n : Int) : ∃ r, (Op.equalIn (d + 1) t (.int k m) (.int k n)).run P w = .ok r w ∧ (r = true ↔ m = n) := ⟨_, run_equalIn_int w d t k k' m n h, by simp⟩
theorem eqS {t : TypeId} (h : P.underlying t = some .string) (m n : ByteArray) : ∃ r, (Op.equalIn (d + 1) t (.string m) (.string n)).run P w = .ok r w ∧ (r = true ↔ m = n) := ⟨_, run_equalIn_string w d t m n h, by rw [beq_bytes]; simp⟩
theorem eqB {t : TypeId} (h : P.underlying t = some .bool) (m n : Bool) : ∃ r, (Op.equalIn (d + 1) t (.bool m) (.bool n)).run P w = .ok r w ∧ (r = true ↔ m = n) := ⟨_, run_equalIn_bool w d t m n h, by simp⟩
theorem eqf_nil : ∃ r, (Op.eqFields d xs ys []).run P w = .ok r w ∧ (r = true ↔ True) := ⟨true, by simp [Op.eqFields], by simp⟩
theorem eqf_cons {p q : Prop} (hn : (f.name == "_") = false) (ha : (part f.type xs f.offset).run P w = .ok a w) (hb : (part f.type ys f.offset).run P w = .ok b w)
    (he : ∃ r, (Op.equalIn d f.type a b).run P w = .ok r w ∧ (r = true ↔ p)) (hr : ∃ r, (Op.eqFields d xs ys fs).run P w = .ok r w ∧ (r = true ↔ q)) :
    ∃ r, (Op.eqFields d xs ys (f :: fs)).run P w = .ok r w ∧ (r = true ↔ p ∧ q) := by
  have hn' : f.name ≠ "_" := by simpa using hn
  obtain ⟨r, h1, h2⟩ := he
  obtain ⟨s, h3, h4⟩ := hr
  rw [Op.eqFields]
  simp only [if_pos hn', Sem.run_bind, ha, hb, h1, Result.andThen_ok]
  cases r
  · exact ⟨false, by simp, by simp at h2; simp [h2]⟩
  · refine ⟨s, by simpa using h3, ?_⟩
    have hp : p := h2.1 rfl
    rw [h4]; exact ⟨fun h => ⟨hp, h⟩, fun h => h.2⟩
theorem eqA {t : TypeId} {F : Array Field} {l : List Field} {p q : Prop} (hu : P.underlying t = some (.struct F)) (hl : F.toList = l) (hp : P.stoodInHeld t = false) (hpq : p ↔ q) (h : ∃ r, (Op.eqFields d xs ys l).run P w = .ok r w ∧ (r = true ↔ q)) :
    ∃ r, (Op.equalIn (d + 1) t (.agg xs) (.agg ys)).run P w = .ok r w ∧ (r = true ↔ p) := by
  have hf : P.fieldsOf t = F := by simp [Program.fieldsOf, hu]
  obtain ⟨r, h1, h2⟩ := h
  exact ⟨r, by rw [run_equalIn_struct (P := P) w d t xs ys (by rw [hf]; exact hu) hp, hf, hl]; exact h1, h2.trans hpq.symm⟩
/-- '==' and '!=' as operations. -/
theorem eqop {t : TypeId} {o1 o2 : Operand} {p : Prop} (hg : P.eqGuardType P.depth t = false) (h : ∀ d w, ∃ r, (Op.equalIn (d + 4) t (.agg xs) (.agg ys)).run P w = .ok r w ∧ (r = true ↔ p)) :
    ∃ r, (∀ w, (do eqGuard .eql t o1 o2 (.agg xs) (.agg ys); binOp .eql t (.agg xs) (.agg ys) : Sem Value).run P w = .ok (.bool r) w) ∧ (r = true ↔ p) := by
  obtain ⟨r, h1, h2⟩ := h 9996 default
  refine ⟨r, fun w => ?_, h2⟩
  obtain ⟨r', h1', h2'⟩ := h 9996 w
  have : r' = r := by
    cases r <;> cases r' <;> simp_all
  subst this
  have hgr : (eqGuard .eql t o1 o2 (.agg xs) (.agg ys)).run P w = .ok () w := by
    unfold eqGuard
    simp [Sem.run, program, hg]
  simp [hgr, binOp, Op.equal, Op.maxDepth, h1']
theorem neop {t : TypeId} {o1 o2 : Operand} {p : Prop} (hg : P.eqGuardType P.depth t = false) (h : ∀ d w, ∃ r, (Op.equalIn (d + 4) t (.agg xs) (.agg ys)).run P w = .ok r w ∧ (r = true ↔ p)) :
    ∃ r, (∀ w, (do eqGuard .neq t o1 o2 (.agg xs) (.agg ys); binOp .neq t (.agg xs) (.agg ys) : Sem Value).run P w = .ok (.bool r) w) ∧ (r = true ↔ ¬ p) := by
  obtain ⟨r, h1, h2⟩ := h 9996 default
  refine ⟨!r, fun w => ?_, by cases r <;> simp_all⟩
  obtain ⟨r', h1', h2'⟩ := h 9996 w
  have : r' = r := by
    cases r <;> cases r' <;> simp_all
  subst this
  have hgr : (eqGuard .neq t o1 o2 (.agg xs) (.agg ys)).run P w = .ok () w := by
    unfold eqGuard
    simp [Sem.run, program, hg]
  simp [hgr, binOp, Op.equal, Op.maxDepth, h1']
end
/-! ### Numbers -/
theorem wr64 {n : Int} (h0 : -9223372036854775808 ≤ n) (h1 : n ≤ 9223372036854775807) : IntKind.wrap .i64 n = n := IntWalk.i64_in _ ⟨h0, h1⟩
end Go.VB
