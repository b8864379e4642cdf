/- Maps of the call's own as functions from keys to values, and the steps over a condition that use them; no condition. -/
import Derived.MapFrom
import Derived.Test.YtealcoghiaeiiaaVLib
set_option linter.unusedVariables false
set_option linter.unusedSimpArgs false
namespace Go.VB
open Go.RowKit

def setB (w : World) (b : Nat) (o : Obj) : World := { w with heap := w.heap.setIfInBounds b o }
theorem setB_same {w : World} {b : Nat} {o0 o : Obj} (h : w.heap[b]? = some o0) : (setB w b o).heap[b]? = some o := by
  have hlt : b < w.heap.size := (Array.getElem?_eq_some_iff.1 h).1
  simp [setB, hlt]
theorem setB_grown {w : World} {b : Nat} {o : Obj} : w.grownBy (setB w b o) (some b) :=
  ⟨rfl, rfl, rfl, by simp [setB], fun k hk hne => by
    have : b ≠ k := fun e => hne (by rw [e])
    simp [setB, this]⟩
/-- How keys of a type lie in a map. -/
structure KeyOk {κ : Type} (P : Program) (kt : TypeId) (ek : κ → Value) : Prop where
  chk : ∀ b x w, (Instr.checkKey b 10000 kt (ek x)).run P w = .ok () w
  find : ∀ x (es : List MapEntry) w, (∀ e ∈ es, ∃ y, e.key = ek y) →
    ((Instr.findKey kt (ek x) es).run P w = .ok none w ∧ ∀ e ∈ es, e.key ≠ ek x) ∨ (∃ i e, (Instr.findKey kt (ek x) es).run P w = .ok (some (i, e.val)) w ∧ es[i]? = some e ∧ e.key = ek x)
  stay : ∀ x w, (Instr.keyThatStays (ek x) (ek x)).run P w = .ok (ek x) w
  inj : ∀ x y, ek x = ek y → x = y

theorem beqBA (x y : ByteArray) : (x == y) = decide (x = y) := by rw [beq_toListBytes, beq_bytes]
theorem run_findKey' {P : Program} {w : World} {kt : TypeId} {d : TypeDesc} (hd : P.underlying kt = some d) {k : Value} {es : List MapEntry} {r : Option (Nat × Value)} (h : Instr.findNow d k es 0 = some r) :
    (Instr.findKey kt k es).run P w = .ok r w := by
  simp [Instr.findKey, run_underlying hd, h]
theorem findNow_str {x : ByteArray} : ∀ (es : List MapEntry) (i : Nat), (∀ e ∈ es, ∃ y : ByteArray, e.key = .string y) →
    (Instr.findNow .string (.string x) es i = some none ∧ ∀ e ∈ es, e.key ≠ .string x) ∨ (∃ j e, Instr.findNow .string (.string x) es i = some (some (i + j, e.val)) ∧ es[j]? = some e ∧ e.key = .string x)
  | [], i, _ => .inl ⟨rfl, by simp⟩
  | e :: es, i, h => by
    obtain ⟨y, hy⟩ := h e (by simp)
    by_cases hxy : x = y
    · subst hxy
      exact .inr ⟨0, e, by simp [Instr.findNow, hy, Instr.sameNow, beqBA], rfl, hy⟩
    · have hf : Instr.findNow .string (.string x) (e :: es) i = Instr.findNow .string (.string x) es (i + 1) := by
        simp [Instr.findNow, hy, Instr.sameNow, beqBA, hxy]
      rcases findNow_str es (i + 1) (fun e' he' => h e' (by simp [he'])) with ⟨h1, h2⟩ | ⟨j, e', h1, h2, h3⟩
      · refine .inl ⟨hf.trans h1, fun e' he' => ?_⟩
        rcases List.mem_cons.1 he' with rfl | he'
        · rw [hy]; simpa using fun h => hxy h.symm
        · exact h2 e' he'
      · exact .inr ⟨j + 1, e', by rw [hf, h1]; congr 3; omega, by simpa using h2, h3⟩
theorem KeyOk.string {P : Program} {kt : TypeId} (hk : P.underlying kt = some .string) : KeyOk P kt Value.string where
  chk b x w := MapKept.run_checkKey hk (by simp [MapKept.IsKey]) b 9999
  find x es w h := by
    rcases findNow_str es 0 h with ⟨h1, h2⟩ | ⟨j, e, h1, h2, h3⟩
    · exact .inl ⟨run_findKey' hk h1, h2⟩
    · exact .inr ⟨j, e, by rw [run_findKey' hk h1]; simp, h2, h3⟩
  stay x w := by simp [Instr.keyThatStays, Instr.sameBits, beqBA]
  inj x y h := by injection h
theorem findNow_int {q : IntKind} {x : Int} : ∀ (es : List MapEntry) (i : Nat), (∀ e ∈ es, ∃ y : Int, e.key = .int q y) →
    (Instr.findNow (.int q) (.int q x) es i = some none ∧ ∀ e ∈ es, e.key ≠ .int q x) ∨ (∃ j e, Instr.findNow (.int q) (.int q x) es i = some (some (i + j, e.val)) ∧ es[j]? = some e ∧ e.key = .int q x)
  | [], i, _ => .inl ⟨rfl, by simp⟩
  | e :: es, i, h => by
    obtain ⟨y, hy⟩ := h e (by simp)
    by_cases hxy : x = y
    · subst hxy
      exact .inr ⟨0, e, by simp [Instr.findNow, hy, Instr.sameNow, beqBA], rfl, hy⟩
    · have hf : Instr.findNow (.int q) (.int q x) (e :: es) i = Instr.findNow (.int q) (.int q x) es (i + 1) := by
        have hb : (x == y) = false := by simpa using hxy
        simp [Instr.findNow, hy, Instr.sameNow, hb]
      rcases findNow_int es (i + 1) (fun e' he' => h e' (by simp [he'])) with ⟨h1, h2⟩ | ⟨j, e', h1, h2, h3⟩
      · refine .inl ⟨hf.trans h1, fun e' he' => ?_⟩
        rcases List.mem_cons.1 he' with rfl | he'
        · rw [hy]; simpa using fun h => hxy h.symm
        · exact h2 e' he'
      · exact .inr ⟨j + 1, e', by rw [hf, h1]; congr 3; omega, by simpa using h2, h3⟩
theorem KeyOk.int {P : Program} {kt : TypeId} {q : IntKind} (hk : P.underlying kt = some (.int q)) : KeyOk P kt (Value.int q) where
  chk b x w := MapKept.run_checkKey hk (by simp [MapKept.IsKey]) b 9999
  find x es w h := by
    rcases findNow_int es 0 h with ⟨h1, h2⟩ | ⟨j, e, h1, h2, h3⟩
    · exact .inl ⟨run_findKey' hk h1, h2⟩
    · exact .inr ⟨j, e, by rw [run_findKey' hk h1]; simp, h2, h3⟩
  stay x w := by simp [Instr.keyThatStays, Instr.sameBits, beqBA]
  inj x y h := by injection h
theorem findAsking_ok {κ : Type} {P : Program} {kt : TypeId} {ek : κ → Value} (he : ∀ x y w, ∃ r, (Op.equal kt (ek x) (ek y)).run P w = .ok r w ∧ (r = true ↔ x = y)) (hinj : ∀ x y, ek x = ek y → x = y) {x : κ} {w : World} : ∀ (es : List MapEntry) (i : Nat), (∀ e ∈ es, ∃ y, e.key = ek y) →
    ((Instr.findAsking kt (ek x) es i).run P w = .ok none w ∧ ∀ e ∈ es, e.key ≠ ek x) ∨ (∃ j e, (Instr.findAsking kt (ek x) es i).run P w = .ok (some (i + j, e.val)) w ∧ es[j]? = some e ∧ e.key = ek x)
  | [], i, _ => .inl ⟨rfl, by simp⟩
  | e :: es, i, h => by
    obtain ⟨y, hy⟩ := h e (by simp)
    obtain ⟨r, h1, h2⟩ := he x y w
    cases r with
    | true =>
      obtain rfl := h2.1 rfl
      exact .inr ⟨0, e, by simp [Instr.findAsking, hy, h1], rfl, hy⟩
    | false =>
      have hne : x ≠ y := fun e1 => by have := h2.2 e1; cases this
      have hf : (Instr.findAsking kt (ek x) (e :: es) i).run P w = (Instr.findAsking kt (ek x) es (i + 1)).run P w := by
        simp [Instr.findAsking, hy, h1]
      rcases findAsking_ok he hinj es (i + 1) (fun e' he' => h e' (by simp [he'])) with ⟨h3, h4⟩ | ⟨j, e', h3, h4, h5⟩
      · refine .inl ⟨hf.trans h3, fun e' he' => ?_⟩
        rcases List.mem_cons.1 he' with rfl | he'
        · rw [hy]; exact fun h => hne (hinj _ _ h).symm
        · exact h4 e' he'
      · exact .inr ⟨j + 1, e', by rw [hf, h3]; congr 3; omega, by simpa using h4, h5⟩
theorem findNow_none {F : Array Field} {k : Value} {e : MapEntry} {es : List MapEntry} {i : Nat} : Instr.findNow (.struct F) k (e :: es) i = none := by
  simp [Instr.findNow, Instr.sameNow]
theorem KeyOk.struct {κ : Type} {P : Program} {kt : TypeId} {ek : κ → Value} {F : Array Field} (hk : P.underlying kt = some (.struct F)) (hc : ∀ b x w, (Instr.checkKey b 10000 kt (ek x)).run P w = .ok () w)
    (he : ∀ x y w, ∃ r, (Op.equal kt (ek x) (ek y)).run P w = .ok r w ∧ (r = true ↔ x = y)) (hs : ∀ x, Instr.sameBits 10000 (ek x) (ek x) = true) (hinj : ∀ x y, ek x = ek y → x = y) : KeyOk P kt ek where
  chk := hc
  find x es w h := by
    cases es with
    | nil => exact .inl ⟨run_findKey' hk rfl, by simp⟩
    | cons e es =>
      have h0 : (Instr.findKey kt (ek x) (e :: es)).run P w = (Instr.findAsking kt (ek x) (e :: es) 0).run P w := by
        simp [Instr.findKey, run_underlying hk, findNow_none]
      rcases findAsking_ok he hinj (x := x) (w := w) (e :: es) 0 h with ⟨h1, h2⟩ | ⟨j, e', h1, h2, h3⟩
      · exact .inl ⟨h0.trans h1, h2⟩
      · exact .inr ⟨j, e', by rw [h0, h1]; simp, h2, h3⟩
  stay x w := by simp [Instr.keyThatStays, hs]
  inj := hinj

/-- The map in block b is f. -/
structure MapAt {κ ν : Type} (ek : κ → Value) (ev : ν → Value) (w : World) (b : Nat) (f : κ → Option ν) (es : Array MapEntry) (clock : Nat) : Prop where
  blk : w.heap[b]? = some (.map es clock)
  sound : ∀ (i : Nat) (e : MapEntry), es[i]? = some e → ∃ k v, e.key = ek k ∧ e.val = ev v ∧ f k = some v ∧ e.born < clock
  full : ∀ k v, f k = some v → ∃ (i : Nat) (e : MapEntry), es[i]? = some e ∧ e.key = ek k ∧ e.val = ev v
  one : ∀ (i j : Nat) (e e' : MapEntry), es[i]? = some e → es[j]? = some e' → e.key = e'.key ∨ e.born = e'.born → i = j
def MapIs {κ ν : Type} (ek : κ → Value) (ev : ν → Value) (w : World) (b : Nat) (f : κ → Option ν) : Prop := ∃ es clock, MapAt ek ev w b f es clock
theorem MapIs.bel {κ ν : Type} {ek : κ → Value} {ev : ν → Value} {w w' : World} {b : Nat} {f : κ → Option ν} (h : MapIs ek ev w b f) (hb : Bel w w') : MapIs ek ev w' b f :=
  let ⟨es, c, m⟩ := h; ⟨es, c, hb.blk m.blk, m.sound, m.full, m.one⟩
theorem MapIs.grown {κ ν : Type} {ek : κ → Value} {ev : ν → Value} {w w' : World} {b : Nat} {f : κ → Option ν} {row : Option Nat} (h : MapIs ek ev w b f) (hg : w.grownBy w' row) (hr : row ≠ some b) : MapIs ek ev w' b f :=
  let ⟨es, c, m⟩ := h; ⟨es, c, (hg.block b (Array.getElem?_eq_some_iff.1 m.blk).1 (fun e => hr e.symm)).trans m.blk, m.sound, m.full, m.one⟩
theorem MapIs.lt {κ ν : Type} {ek : κ → Value} {ev : ν → Value} {w : World} {b : Nat} {f : κ → Option ν} (h : MapIs ek ev w b f) : b < w.heap.size :=
  let ⟨es, c, m⟩ := h; (Array.getElem?_eq_some_iff.1 m.blk).1
theorem MapIs.new {κ ν : Type} (ek : κ → Value) (ev : ν → Value) (w : World) : MapIs ek ev (w.alloc (.map #[] 0)) w.heap.size (fun _ => none) :=
  ⟨#[], 0, blk_new w _, by simp, by simp, by simp⟩
theorem At.grown {w w' : World} {a : Addr} {cs : List Value} {row : Option Nat} (h : At w a cs) (hg : w.grownBy w' row) (hr : row ≠ some a.block) : At w' a cs := fun j v hj => by
  refine hg.cell (h j v hj) (fun e => hr ?_)
  rw [← e]; unfold Addr.add; split <;> rfl
section
variable {κ ν : Type} {ek : κ → Value} {ev : ν → Value} {P : Program} {kt et mt : TypeId} {w : World} {b : Nat} {f : κ → Option ν}
open Classical in
noncomputable def upd (f : κ → Option ν) (k : κ) (v : ν) : κ → Option ν := fun x => if x = k then some v else f x
theorem upd_same (f : κ → Option ν) (k : κ) (v : ν) : upd f k v k = some v := by simp [upd]
theorem upd_other (f : κ → Option ν) {k x : κ} (v : ν) (h : x ≠ k) : upd f k v x = f x := by simp [upd, h]

theorem MapIs.run_look (h : MapIs ek ev w b f) (K : KeyOk P kt ek) (hm : P.underlying mt = some (.map kt et)) {z : ν} (hz : ∀ w, (zeroValue et).run P w = .ok (ev z) w) (x : κ) :
    (Instr.lookup mt (.map (some b)) (ek x) false).run P w = .ok (ev ((f x).getD z)) w := by
  obtain ⟨es, c, m⟩ := h
  have hks : ∀ e ∈ es.toList, ∃ y, e.key = ek y := fun e he => by
    obtain ⟨i, hi⟩ := List.getElem?_of_mem he
    obtain ⟨k, v, h1, _⟩ := m.sound i e (by simpa using hi)
    exact ⟨k, h1⟩
  rcases K.find x es.toList w hks with ⟨h1, h2⟩ | ⟨i, e, h1, h2, h3⟩
  · have hn : f x = none := by
      cases hf : f x with
      | none => rfl
      | some v =>
        obtain ⟨i, e, h3, h4, _⟩ := m.full x v hf
        exact absurd h4 (h2 e (List.mem_of_getElem? (i := i) (by simpa using h3)))
    simp [Instr.lookup, run_underlying hm, MapKept.run_getObj_map m.blk, K.chk, h1, hz, hn, Result.andThen]
  · obtain ⟨k, v, h4, h5, h6, _⟩ := m.sound i e (by simpa using h2)
    obtain rfl : k = x := K.inj _ _ (h4.symm.trans h3)
    simp [Instr.lookup, run_underlying hm, MapKept.run_getObj_map m.blk, K.chk, h1, h5, h6, Result.andThen]
theorem MapIs.run_lookOk (h : MapIs ek ev w b f) (K : KeyOk P kt ek) (hm : P.underlying mt = some (.map kt et)) {z : ν} (hz : ∀ w, (zeroValue et).run P w = .ok (ev z) w) (x : κ) :
    (Instr.lookup mt (.map (some b)) (ek x) true).run P w = .ok (.tuple #[ev ((f x).getD z), .bool (f x).isSome]) w := by
  obtain ⟨es, c, m⟩ := h
  have hks : ∀ e ∈ es.toList, ∃ y, e.key = ek y := fun e he => by
    obtain ⟨i, hi⟩ := List.getElem?_of_mem he
    obtain ⟨k, v, h1, _⟩ := m.sound i e (by simpa using hi)
    exact ⟨k, h1⟩
  rcases K.find x es.toList w hks with ⟨h1, h2⟩ | ⟨i, e, h1, h2, h3⟩
  · have hn : f x = none := by
      cases hf : f x with
      | none => rfl
      | some v =>
        obtain ⟨i, e, h3, h4, _⟩ := m.full x v hf
        exact absurd h4 (h2 e (List.mem_of_getElem? (i := i) (by simpa using h3)))
    simp [Instr.lookup, run_underlying hm, MapKept.run_getObj_map m.blk, K.chk, h1, hz, hn, Result.andThen]
  · obtain ⟨k, v, h4, h5, h6, _⟩ := m.sound i e (by simpa using h2)
    obtain rfl : k = x := K.inj _ _ (h4.symm.trans h3)
    simp [Instr.lookup, run_underlying hm, MapKept.run_getObj_map m.blk, K.chk, h1, h5, h6, Result.andThen]

theorem MapAt.push {es : Array MapEntry} {c : Nat} (m : MapAt ek ev w b f es c) {x : κ} (hinj : ∀ x y, ek x = ek y → x = y) (hno : ∀ e ∈ es.toList, e.key ≠ ek x) (v : ν) {w' : World} (hw : w'.heap[b]? = some (.map (es.push ⟨ek x, ev v, c⟩) (c + 1))) :
    MapAt ek ev w' b (upd f x v) (es.push ⟨ek x, ev v, c⟩) (c + 1) := by
  have hmem : ∀ {i e}, es[i]? = some e → e ∈ es.toList := fun {i e} h => List.mem_of_getElem? (i := i) (by simpa using h)
  refine ⟨hw, fun i e he => ?_, fun k u hk => ?_, fun i j e e' he he' hor => ?_⟩
  · rw [Array.getElem?_push] at he
    split at he
    · cases he; exact ⟨x, v, rfl, rfl, upd_same f x v, by simp⟩
    · obtain ⟨k, u, h1, h2, h3, h4⟩ := m.sound i e he
      have hkx : k ≠ x := fun e1 => hno e (hmem he) (by rw [h1, e1])
      exact ⟨k, u, h1, h2, by rw [upd_other f v hkx]; exact h3, by omega⟩
  · by_cases hkx : k = x
    · subst hkx
      rw [upd_same] at hk; cases hk
      exact ⟨es.size, ⟨ek k, ev v, c⟩, by simp, rfl, rfl⟩
    · rw [upd_other f v hkx] at hk
      obtain ⟨i, e, h1, h2, h3⟩ := m.full k u hk
      have hi : i < es.size := (Array.getElem?_eq_some_iff.1 h1).1
      exact ⟨i, e, by rw [Array.getElem?_push, if_neg (by omega)]; exact h1, h2, h3⟩
  · rw [Array.getElem?_push] at he he'
    split at he <;> split at he'
    · omega
    · cases he
      obtain ⟨k, u, h1, h2, h3, h4⟩ := m.sound j e' he'
      rcases hor with h | h
      · exact absurd h.symm (hno e' (hmem he'))
      · simp at h; omega
    · cases he'
      obtain ⟨k, u, h1, h2, h3, h4⟩ := m.sound i e he
      rcases hor with h | h
      · exact absurd h (hno e (hmem he))
      · simp at h; omega
    · exact m.one i j e e' he he' hor
theorem MapAt.set {es : Array MapEntry} {c : Nat} (m : MapAt ek ev w b f es c) {x : κ} (hinj : ∀ x y, ek x = ek y → x = y) {i : Nat} {e : MapEntry} (hi : es[i]? = some e) (hx : e.key = ek x) (v : ν) {g : MapEntry → MapEntry}
    (hg : (g e).key = ek x ∧ (g e).val = ev v ∧ (g e).born = e.born) {w' : World} (hw : w'.heap[b]? = some (.map (es.modify i g) c)) : MapAt ek ev w' b (upd f x v) (es.modify i g) c := by
  have get : ∀ j e', (es.modify i g)[j]? = some e' → (j = i ∧ e' = g e) ∨ (j ≠ i ∧ es[j]? = some e') := fun j e' h => by
    rw [Array.getElem?_modify] at h
    split at h
    · rename_i hj; subst hj
      rw [hi] at h; simp at h; exact .inl ⟨rfl, h.symm⟩
    · rename_i hj; exact .inr ⟨fun h => hj h.symm, h⟩
  have geti : (es.modify i g)[i]? = some (g e) := by rw [Array.getElem?_modify, if_pos rfl, hi]; rfl
  have getn : ∀ j e', j ≠ i → es[j]? = some e' → (es.modify i g)[j]? = some e' := fun j e' h h' => by rw [Array.getElem?_modify, if_neg (fun h'' => h h''.symm)]; exact h'
  obtain ⟨k0, v0, h1, h2, h3, h4⟩ := m.sound i e hi
  obtain rfl : k0 = x := hinj _ _ (h1.symm.trans hx)
  refine ⟨hw, fun j e' he => ?_, fun k u hk => ?_, fun j l e1 e2 he he' hor => ?_⟩
  · rcases get j e' he with ⟨rfl, rfl⟩ | ⟨hj, he⟩
    · exact ⟨k0, v, hg.1, hg.2.1, upd_same _ _ _, by rw [hg.2.2]; exact h4⟩
    · obtain ⟨k, u, h5, h6, h7, h8⟩ := m.sound j e' he
      have hk : k ≠ k0 := fun e1 => hj (m.one j i e' e he hi (.inl (by rw [h5, hx, e1])))
      exact ⟨k, u, h5, h6, by rw [upd_other f v hk]; exact h7, h8⟩
  · by_cases hk0 : k = k0
    · subst hk0
      rw [upd_same] at hk; cases hk
      exact ⟨i, _, geti, hg.1, hg.2.1⟩
    · rw [upd_other f v hk0] at hk
      obtain ⟨j, e', h5, h6, h7⟩ := m.full k u hk
      have hj : j ≠ i := fun e1 => by subst e1; rw [hi] at h5; cases h5; exact hk0 (hinj _ _ (h6.symm.trans hx))
      exact ⟨j, e', getn j e' hj h5, h6, h7⟩
  · rcases get j e1 he with ⟨hj, hje⟩ | ⟨hj, hje⟩
    · rcases get l e2 he' with ⟨hl, hle⟩ | ⟨hl, hle⟩
      · rw [hj, hl]
      · rw [hj]
        rw [hje] at hor
        exact m.one _ _ e e2 hi hle (by rw [hg.1, hg.2.2] at hor; rw [hx]; exact hor)
    · rcases get l e2 he' with ⟨hl, hle⟩ | ⟨hl, hle⟩
      · rw [hl]
        rw [hle] at hor
        exact m.one _ _ e1 e hje hi (by rw [hg.1, hg.2.2] at hor; rw [hx]; exact hor)
      · exact m.one _ _ e1 e2 hje hle hor
theorem MapAt.keys {es : Array MapEntry} {c : Nat} (m : MapAt ek ev w b f es c) : ∀ e ∈ es.toList, ∃ y, e.key = ek y := fun e he => by
  obtain ⟨i, hi⟩ := List.getElem?_of_mem he
  obtain ⟨k, v, h1, _⟩ := m.sound i e (by simpa using hi)
  exact ⟨k, h1⟩
theorem S.make {k : Option Nat → World → Prop} (H : MapIs ek ev (w.alloc (.map #[] 0)) w.heap.size (fun _ => none) → k (some w.heap.size) (w.alloc (.map #[] 0))) : opE P Value.map (Instr.makeMap mt none) w k := ⟨_, _, rfl, H (MapIs.new ek ev w)⟩
theorem S.look (h : MapIs ek ev w b f) (K : KeyOk P kt ek) (hm : P.underlying mt = some (.map kt et)) {z : ν} (hz : ∀ w, (zeroValue et).run P w = .ok (ev z) w) (x : κ) {k : ν → World → Prop} (H : k ((f x).getD z) w) :
    opE P ev (Instr.lookup mt (.map (some b)) (ek x) false) w k := ⟨_, w, h.run_look K hm hz x, H⟩
theorem Q.look (h : MapIs ek ev w b f) (K : KeyOk P kt ek) (hm : P.underlying mt = some (.map kt et)) {z : ν} (hz : ∀ w, (zeroValue et).run P w = .ok (ev z) w) (x : κ) {k : ν → Prop} (H : k ((f x).getD z)) :
    opB P ev (Instr.lookup mt (.map (some b)) (ek x) false) w k := ⟨_, fun w' hb => (h.bel hb).run_look K hm hz x, H⟩
theorem S.put (h : MapIs ek ev w b f) (K : KeyOk P kt ek) (hm : P.underlying mt = some (.map kt et)) (x : κ) (v : ν) {k : World → Prop} (H : ∀ w', MapIs ek ev w' b (upd f x v) → w.grownBy w' (some b) → k w') :
    opU P (Instr.mapUpdate mt (.map (some b)) (ek x) (ev v)) w k := by
  obtain ⟨es, c, m⟩ := h
  rcases K.find x es.toList w m.keys with ⟨h1, h2⟩ | ⟨i, e, h1, h2, h3⟩
  · refine ⟨setB w b (.map (es.push ⟨ek x, ev v, c⟩) (c + 1)), ?_, H _ ⟨_, _, m.push K.inj h2 v (setB_same m.blk)⟩ setB_grown⟩
    simp [Instr.mapUpdate, run_underlying hm, MapKept.run_getObj_map m.blk, K.chk, h1, MapKept.run_setObj_map _ m.blk, Result.andThen, setB]
  · have hi : es[i]? = some e := by simpa using h2
    refine ⟨setB w b (.map (es.modify i fun e => { e with key := ek x, val := ev v }) c), ?_, H _ ⟨_, _, m.set K.inj hi h3 v ⟨rfl, rfl, rfl⟩ (setB_same m.blk)⟩ setB_grown⟩
    simp [Instr.mapUpdate, run_underlying hm, MapKept.run_getObj_map m.blk, K.chk, h1, hi, h3, K.stay, MapKept.run_setObj_map _ m.blk, Result.andThen, setB]
/-- 'm[k] op= v': the entry's stamp, then what is put there. -/
theorem S.entry (h : MapIs ek ev w b f) (K : KeyOk P kt ek) (hm : P.underlying mt = some (.map kt et)) {z : ν} (hz : ∀ w, (zeroValue et).run P w = .ok (ev z) w) (x : κ) {k : ν × Int → World → Prop}
    (H : ∀ (born : Int) w', w.grownBy w' (some b) → MapIs ek ev w' b (upd f x ((f x).getD z)) →
      (∀ (v : ν) (K2 : World → Prop), (∀ w'', MapIs ek ev w'' b (upd f x v) → w'.grownBy w'' (some b) → K2 w'') → opU P (Instr.entryStore mt (.map (some b)) (.int .i64 born) (ev v)) w' K2) → k ((f x).getD z, born) w') :
    opE P (fun p : ν × Int => .tuple [ev p.1, .int .i64 p.2].toArray) (Instr.mapEntry mt (.map (some b)) (ek x)) w k := by
  obtain ⟨es, c, m⟩ := h
  have store : ∀ (w' : World) (es' : Array MapEntry) (c' : Nat) (f' : κ → Option ν) (i : Nat) (e : MapEntry), MapAt ek ev w' b f' es' c' → es'[i]? = some e → e.key = ek x →
      (∀ v, upd f' x v = upd f x v) → ∀ (v : ν) (K2 : World → Prop), (∀ w'', MapIs ek ev w'' b (upd f x v) → w'.grownBy w'' (some b) → K2 w'') → opU P (Instr.entryStore mt (.map (some b)) (.int .i64 (e.born : Int)) (ev v)) w' K2 := by
    intro w' es' c' f' i e m' hi hx hf v K2 HK
    have hidx : es'.findIdx? (fun e' => (e'.born : Int) == (e.born : Int)) = some i := by
      rw [Array.findIdx?_eq_some_iff_getElem]
      have hlt : i < es'.size := (Array.getElem?_eq_some_iff.1 hi).1
      have he : es'[i] = e := (Array.getElem?_eq_some_iff.1 hi).2
      refine ⟨hlt, by simp [he], fun j hj => ?_⟩
      have hj' : es'[j]? = some es'[j] := by simp
      simp only [beq_iff_eq]
      intro hb
      have := m'.one j i es'[j] e hj' hi (.inr (by omega))
      omega
    have m2 := m'.set K.inj hi hx v (g := fun e' => { e' with val := ev v }) ⟨hx, rfl, rfl⟩ (setB_same (o := .map (es'.modify i fun e' => { e' with val := ev v }) c') m'.blk)
    rw [hf] at m2
    refine ⟨setB w' b (.map (es'.modify i fun e' => { e' with val := ev v }) c'), ?_, HK _ ⟨_, _, m2⟩ setB_grown⟩
    · simp [Instr.entryStore, MapKept.run_getObj_map m'.blk, asInt, asIntOf, hidx, MapKept.run_setObj_map _ m'.blk, Result.andThen, setB]
  rcases K.find x es.toList w m.keys with ⟨h1, h2⟩ | ⟨i, e, h1, h2, h3⟩
  · have hn : f x = none := by
      cases hf : f x with
      | none => rfl
      | some v =>
        obtain ⟨i, e, h3, h4, _⟩ := m.full x v hf
        exact absurd h4 (h2 e (List.mem_of_getElem? (i := i) (by simpa using h3)))
    have m1 := m.push K.inj h2 z (setB_same (o := .map (es.push ⟨ek x, ev z, c⟩) (c + 1)) m.blk)
    rw [hn] at H
    refine ⟨(z, (c : Int)), setB w b (.map (es.push ⟨ek x, ev z, c⟩) (c + 1)), ?_, ?_⟩
    · simp [Instr.mapEntry, run_underlying hm, MapKept.run_getObj_map m.blk, K.chk, h1, hz, MapKept.run_setObj_map _ m.blk, Result.andThen, setB, goInt]
    · refine H c _ setB_grown ⟨_, _, m1⟩ ?_
      refine store _ _ _ _ es.size ⟨ek x, ev z, c⟩ m1 (by simp) rfl fun v => ?_
      funext y; simp only [upd]; split <;> simp_all
  · have hi : es[i]? = some e := by simpa using h2
    obtain ⟨k0, v0, h4, h5, h6, h7⟩ := m.sound i e hi
    obtain rfl : k0 = x := K.inj _ _ (h4.symm.trans h3)
    rw [h6] at H
    have m1 := m.set K.inj hi h3 v0 (g := fun e => { e with key := ek k0 }) ⟨rfl, h5, rfl⟩ (setB_same (o := .map (es.modify i fun e => { e with key := ek k0 }) c) m.blk)
    refine ⟨(v0, (e.born : Int)), setB w b (.map (es.modify i fun e => { e with key := ek k0 }) c), ?_, ?_⟩
    · simp [Instr.mapEntry, run_underlying hm, MapKept.run_getObj_map m.blk, K.chk, h1, hi, h3, h5, K.stay, MapKept.run_setObj_map _ m.blk, Result.andThen, setB, goInt]
    · refine H e.born _ setB_grown ⟨_, _, m1⟩ ?_
      refine store _ _ _ _ i { e with key := ek k0 } m1 (by rw [Array.getElem?_modify, if_pos rfl, hi]; rfl) rfl fun v => ?_
      funext y; simp only [upd]; split <;> simp_all
end
end Go.VB
