/- A map ranged over: the iterator's word beside MapAt, and the steps range, next, entry; no condition. -/
import Derived.Maps.RangeRun
import Derived.Test.YtealcoghiaeiiaaVMap
set_option linter.unusedVariables false
set_option linter.unusedSimpArgs false
namespace Go.VB
open Go.RowKit

/-- The iterator in block r over the map in block b: the keys that it has given, in order. -/
structure IterAt {κ ν : Type} (ek : κ → Value) (ev : ν → Value) (w : World) (b r : Nat) (f : κ → Option ν) (ks : List κ) (es : Array MapEntry) (c : Nat) (sb : Array Nat) : Prop where
  map : MapAt ek ev w b f es c
  blk : w.heap[r]? = some (.mapIter (some b) c sb c)
  seen : ∀ (i : Nat) (e : MapEntry) (k : κ), es[i]? = some e → e.key = ek k → (sb.contains e.born = true ↔ k ∈ ks)
  nd : ks.Nodup
  dom : ∀ k ∈ ks, ∃ v, f k = some v
  len : sb.size = ks.length
  last : ∀ k, ks.getLast? = some k → ∃ (i : Nat) (e : MapEntry), es[i]? = some e ∧ e.key = ek k ∧ sb.back? = some e.born
def IterIs {κ ν : Type} (ek : κ → Value) (ev : ν → Value) (w : World) (b r : Nat) (f : κ → Option ν) (ks : List κ) : Prop := ∃ es c sb, IterAt ek ev w b r f ks es c sb
def iterLen (w : World) (r : Nat) : Nat := match w.heap[r]? with
  | some (.mapIter _ _ sb _) => sb.size
  | _ => 0
section
variable {κ ν : Type} {ek : κ → Value} {ev : ν → Value} {P : Program} {kt et mt : TypeId} {w : World} {b r : Nat} {f : κ → Option ν} {ks : List κ}
theorem IterIs.grown {w' : World} {row : Option Nat} (h : IterIs ek ev w b r f ks) (hg : w.grownBy w' row) (hb : row ≠ some b) (hr : row ≠ some r) : IterIs ek ev w' b r f ks :=
  let ⟨es, c, sb, m⟩ := h
  ⟨es, c, sb, ⟨(hg.block b (Array.getElem?_eq_some_iff.1 m.map.blk).1 (fun e => hb e.symm)).trans m.map.blk, m.map.sound, m.map.full, m.map.one⟩, (hg.block r (Array.getElem?_eq_some_iff.1 m.blk).1 (fun e => hr e.symm)).trans m.blk, m.seen, m.nd, m.dom, m.len, m.last⟩
theorem IterIs.bel {w' : World} (h : IterIs ek ev w b r f ks) (hb : Bel w w') : IterIs ek ev w' b r f ks :=
  let ⟨es, c, sb, m⟩ := h
  ⟨es, c, sb, ⟨hb.blk m.map.blk, m.map.sound, m.map.full, m.map.one⟩, hb.blk m.blk, m.seen, m.nd, m.dom, m.len, m.last⟩
theorem IterIs.size (h : IterIs ek ev w b r f ks) : iterLen w r = ks.length := by
  obtain ⟨es, c, sb, m⟩ := h
  unfold iterLen; rw [m.blk]; exact m.len
theorem IterIs.nd (h : IterIs ek ev w b r f ks) : ks.Nodup := let ⟨_, _, _, m⟩ := h; m.nd
theorem IterIs.dom (h : IterIs ek ev w b r f ks) : ∀ k ∈ ks, ∃ v, f k = some v := let ⟨_, _, _, m⟩ := h; m.dom
theorem IterIs.blk (h : IterIs ek ev w b r f ks) : ∃ c sb, w.heap[r]? = some (.mapIter (some b) c sb c) := let ⟨_, c, sb, m⟩ := h; ⟨c, sb, m.blk⟩
theorem IterIs.mapLt (h : IterIs ek ev w b r f ks) : ∃ es c, w.heap[b]? = some (.map es c) := let ⟨es, c, sb, m⟩ := h; ⟨es, c, m.map.blk⟩
theorem IterIs.keep {w' : World} (h : IterIs ek ev w b r f ks) (hb : w'.heap[b]? = w.heap[b]?) (hr : w'.heap[r]? = w.heap[r]?) : IterIs ek ev w' b r f ks :=
  let ⟨es, c, sb, m⟩ := h
  ⟨es, c, sb, ⟨hb.trans m.map.blk, m.map.sound, m.map.full, m.map.one⟩, hr.trans m.blk, m.seen, m.nd, m.dom, m.len, m.last⟩
theorem S.rng (h : MapIs ek ev w b f) (hm : P.underlying mt = some (.map kt et)) {k : Option Addr → World → Prop}
    (H : ∀ w', IterIs ek ev w' b w.heap.size f [] → Bel w w' → k (some ⟨w.heap.size, 0, none⟩) w') : opE P Value.pointer (Instr.range mt (.map (some b))) w k := by
  obtain ⟨es, c, m⟩ := h
  refine ⟨_, w.alloc (.mapIter (some b) c #[] c), ?_, H _ ⟨es, c, #[], ⟨(Bel.alloc w _).blk m.blk, m.sound, m.full, m.one⟩, blk_new w _, ?_, List.nodup_nil, by simp, by simp, by simp⟩ (Bel.alloc w _)⟩
  · simp [Instr.range, run_underlying hm, MapKept.run_getObj_map m.blk, Result.andThen]
  · intro i e k _ _; simp
theorem S.next (h : IterIs ek ev w b r f ks) (hne : b ≠ r) (hinj : ∀ x y, ek x = ek y → x = y) {ty : TypeId} {k : Option (Value × Value) → World → Prop}
    (h0 : (∀ x v, f x = some v → x ∈ ks) → k none w)
    (h1 : ∀ x v w', f x = some v → x ∉ ks → IterIs ek ev w' b r f (ks ++ [x]) → w.grownBy w' (some r) → k (some (ek x, ev v)) w') :
    opE P (encNext id id) (Instr.next (.pointer (some ⟨r, 0, none⟩)) false ty) w k := by
  obtain ⟨es, c, sb, m⟩ := h
  have hold : ∀ x ∈ es.toList, x.born < c := fun e he => by
    obtain ⟨i, hi⟩ := List.getElem?_of_mem he
    obtain ⟨_, _, _, _, _, h4⟩ := m.map.sound i e (by simpa using hi)
    exact h4
  rcases run_next_at (P := P) w ty r b c c sb es c m.blk m.map.blk hold (Nat.le_refl _) with ⟨hl, hr⟩ | ⟨e, he, w1, hw1, hr⟩
  · refine ⟨none, w, hr, h0 fun x v hx => ?_⟩
    obtain ⟨i, e, h2, h3, h4⟩ := m.map.full x v hx
    refine (m.seen i e x h2 h3).1 ?_
    have hem : e ∈ es := Array.mem_of_getElem? h2
    have hE : leftOf es sb = #[] := Array.size_eq_zero_iff.1 hl
    unfold leftOf at hE
    rw [Array.filter_eq_empty_iff] at hE
    simpa using hE e hem
  · have hmem : e ∈ es ∧ sb.contains e.born = false := by
      unfold leftOf at he
      simpa using he
    obtain ⟨i, hi⟩ := Array.getElem?_of_mem hmem.1
    obtain ⟨x, v, h2, h3, h4, h5⟩ := m.map.sound i e hi
    have hw : w.grownBy w1 none := by
      rcases hw1 with rfl | rfl
      · exact World.grownBy.refl _ _
      · exact ⟨rfl, rfl, rfl, Nat.le_refl _, fun _ _ _ => rfl⟩
    have hr1 : w1.heap[r]? = some (.mapIter (some b) c sb c) := (hw.block r (Array.getElem?_eq_some_iff.1 m.blk).1 (by simp)).trans m.blk
    have hg : w.grownBy (setB w1 r (.mapIter (some b) c (sb.push e.born) c)) (some r) := by
      have := setB_grown (w := w1) (b := r) (o := .mapIter (some b) c (sb.push e.born) c)
      rcases hw1 with rfl | rfl <;> exact ⟨this.1, this.2, this.3, this.4, this.5⟩
    have hx : x ∉ ks := fun hk => by
      have := (m.seen i e x hi h2).2 hk
      rw [hmem.2] at this; cases this
    refine ⟨some (ek x, ev v), _, ?_, h1 x v _ h4 hx ⟨es, c, sb.push e.born, ?_⟩ hg⟩
    · rw [hr, h2, h3]; rfl
    · refine ⟨⟨(hg.block b (Array.getElem?_eq_some_iff.1 m.map.blk).1 (by simpa using hne)).trans m.map.blk, m.map.sound, m.map.full, m.map.one⟩, setB_same hr1, fun j e' y hj hy => ?_, ?_, ?_, by simp [m.len], ?_⟩
      · rw [Array.contains_push, Bool.or_eq_true, List.mem_append, m.seen j e' y hj hy]
        refine or_congr Iff.rfl ?_
        simp only [beq_iff_eq, List.mem_singleton]
        constructor
        · intro hb
          have := m.map.one i j e e' hi hj (.inr hb.symm)
          subst this
          rw [hi] at hj; cases hj
          exact hinj _ _ (hy.symm.trans h2)
        · rintro rfl
          have := m.map.one i j e e' hi hj (.inl (h2.trans hy.symm))
          subst this
          rw [hi] at hj; cases hj; rfl
      · rw [List.nodup_append]
        exact ⟨m.nd, by simp, fun a ha y hy => by rw [List.mem_singleton] at hy; subst hy; exact fun e => hx (e ▸ ha)⟩
      · intro y hy
        rcases List.mem_append.1 hy with hy | hy
        · exact m.dom y hy
        · rw [List.mem_singleton] at hy; subst hy; exact ⟨v, h4⟩
      · intro y hy
        rw [List.getLast?_append] at hy
        simp at hy; subst hy
        exact ⟨i, e, hi, h2, by simp⟩
theorem S.iterEntry {x : κ} {v : ν} (h : IterIs ek ev w b r f (ks ++ [x])) (hv : f x = some v) (hinj : ∀ x y, ek x = ek y → x = y) {k : Value × Value → World → Prop} (H : k (ek x, ev v) w) :
    opE P (fun p : Value × Value => .tuple [p.1, p.2].toArray) (Instr.entry (.pointer (some ⟨r, 0, none⟩))) w k := by
  obtain ⟨es, c, sb, m⟩ := h
  obtain ⟨i, e, hi, hk, hl⟩ := m.last x (by simp)
  obtain ⟨y, u, h2, h3, h4, h5⟩ := m.map.sound i e hi
  obtain rfl : y = x := hinj _ _ (h2.symm.trans hk)
  rw [hv] at h4; cases h4
  have hf : es.find? (·.born == e.born) = some e := by
    have hex : (es.find? (·.born == e.born)).isSome := by
      rw [Array.find?_isSome]; exact ⟨e, Array.mem_of_getElem? hi, by simp⟩
    obtain ⟨e', he'⟩ := Option.isSome_iff_exists.1 hex
    have hb : e'.born = e.born := by simpa using Array.find?_some he'
    obtain ⟨j, hj⟩ := Array.getElem?_of_mem (Array.mem_of_find?_eq_some he')
    have := m.map.one j i e' e hj hi (.inr hb)
    subst this
    rw [hi] at hj; cases hj
    exact he'
  refine ⟨(ek y, ev v), w, ?_, H⟩
  simp [Instr.entry, getObj, Sem.run_bind, Sem.run, m.blk, m.map.blk, hl, hf, h2, h3, Result.andThen]
end
end Go.VB
