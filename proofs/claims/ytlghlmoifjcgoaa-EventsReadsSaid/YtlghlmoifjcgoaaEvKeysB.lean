/- maps.Keys collected: a row of the texts; no condition. -/
import Derived.Test.YtlghlmoifjcgoaaEvKeys
import Derived.Test.YtlghlmoifjcgoaaEvSeq
import Derived.Test.YtlghlmoifjcgoaaEvRefD
set_option linter.unusedVariables false
namespace Go.Proofs.Ytlghlmoifjcgoaa.VG
open Go.VB Go.Proofs Go.RowKit

theorem KeepsWalks.row {w w' : World} {row : Option Nat} (hg : w.grownBy w' row) (hr : ∀ r, row = some r → ∃ cs t fr, w.heap[r]? = some (.cells cs t fr)) : KeepsWalks w w' :=
  ⟨hg.size, fun k o hk ho => (hg.block k (Array.getElem?_eq_some_iff.1 hk).1 (fun e => by
    obtain ⟨cs, t, fr, h⟩ := hr k e.symm
    rw [h] at hk; cases hk; cases ho)).trans hk⟩
theorem keys_ok {w : World} {ν : Type} {ev : ν → Value} {f : ByteArray → Option ν} {b : Nat} (h : MapIs Value.string ev w b f) {dom : List ByteArray} (hd : ∀ x v, f x = some v → x ∈ dom) {k : Value → World → Prop}
    (H : ∀ v w', SeqAt Try.prog v encS KeepsWalks (fun xs => xs.Nodup ∧ ∀ x, x ∈ xs ↔ ∃ v, f x = some v) (fun _ => True) dom.length w' → Bel w w' → k v w') :
    Cl Try.prog fn_maps_Keys_map_string_struct_string_struct [.map (some b)].toArray w (fun e w' => ∃ v : Value, e = .returned v ∧ k v w') := by
  refine L1_maps_Keys_map_string_struct_string_struct (some b) w k ?_
  unfold V_maps_Keys_map_string_struct_string_struct
  refine S.box rfl ?_
  have hr1 := Row.new w [.map (some b)] 60
  have hb : Bel w (w.alloc (.cells [.map (some b)].toArray 60)) := Bel.alloc _ _
  exact H _ _ ⟨fn_maps_Keys_map_string_struct_string_struct_1, _, rfl, ent42, keys1_ok (h.bel hb) hr1 hd⟩ hb

theorem collectS_ok {v : Value} {Sq Sp : List ByteArray → Prop} {Num : Nat} {w : World} (hs : SeqAt Try.prog v encS KeepsWalks Sq Sp Num w) (hN : Num ≤ 8796093022208) {k : Sl → World → Prop}
    (H : ∀ r w' xs base, w.heap.size ≤ base → Sq xs → StrOwn base w' r xs → Bel w w' → k r w') : Cl Try.prog fn_slices_Collect_string [v].toArray w (fun e w' => ∃ r0 : Sl, e = .returned (Sl.v r0) ∧ k r0 w') := by
  refine L1_slices_Collect_string v w k ?_
  unfold V_slices_Collect_string
  refine L1_slices_AppendSeq_string_string Sl.none v w k ?_
  unfold V_slices_AppendSeq_string_string
  refine S.box rfl ?_
  have hb0 : Bel w (w.alloc (.cells [Sl.v Sl.none].toArray ty_L_string)) := Bel.alloc _ _
  have hr0 := Row.new w [Sl.v Sl.none] ty_L_string
  have hsz : (w.alloc (.cells [Sl.v Sl.none].toArray ty_L_string)).heap.size = w.heap.size + 1 := size_alloc' _ _
  have hlo0 := hr0.lt
  generalize hB : w.heap.size = B at hr0 hsz hlo0 ⊢
  generalize (w.alloc (.cells [Sl.v Sl.none].toArray ty_L_string)) = w1 at hb0 hr0 hsz hlo0 ⊢
  refine ⟨KeepsWalks, Sq, Sp, Num, fun pre W => ∃ sl, Row W B [Sl.v sl] ty_L_string ∧ StrOwn w1.heap.size W sl pre ∧ Bel w W ∧ w1.heap.size ≤ W.heap.size, fun _ _ => False,
    ⟨hs.later hb0, fun _ _ _ => KeepsWalks.trans, fun W l o o' h1 h2 h3 h4 => KeepsWalks.putObj o' h2 h4, fun pre W o _ => KeepsWalks.alloc W o, fun s W W' row hi hg hr => ?_, fun s W W' row hi hg hr => hi, fun pre W hi => hi.elim fun _ h => h.2.2.2, ⟨Sl.none, hr0, OwnS.nil _ _ _ _ _, hb0, Nat.le_refl _⟩⟩,
    fun W => KeepsWalks.refl W, ?_, ?_, ?_⟩
  · obtain ⟨sl, h1, h2, h3, h4⟩ := hi
    exact ⟨sl, h1.notwalk hg hr, h2.notwalk hg hr, h3.notwalk (by omega) hg hr, Nat.le_trans h4 hg.size⟩
  · rintro pre x W ⟨sl, h1, h2, h3, h4⟩ hlen
    unfold V_slices_AppendSeq_string_string_f1b
    refine S.ld1 one_L_string sl h1.cell ?_
    refine str_app1 (w0 := w) (w := W) h2 h3 (by omega) h4 (by omega) fun s' w' h5 h6 h7 => ?_
    have hne : (Sl.v sl).ownBlock ≠ some B := fun e => by have := h2.lo e; omega
    have hr1 := h1.grown h7 hne
    refine S.st0 one_L_string hr1 rfl rfl fun w'' hr2 hg2 => ?_
    refine ⟨(KeepsFrom.row h7 fun r hr => h2.isRow hr).trans (KeepsFrom.row hg2 fun r hr => by cases hr; exact ⟨_, _, _, hr1⟩), (KeepsWalks.row h7 fun r hr => h2.isRow hr).trans (KeepsWalks.row hg2 fun r hr => by cases hr; exact ⟨_, _, _, hr1⟩), s', hr2, h5.kept hg2 ?_, ?_, Nat.le_trans h4 (Nat.le_trans h7.size hg2.size)⟩
    · cases hq : (Sl.v s').ownBlock with
      | none => exact .inl rfl
      | some q =>
        refine .inr fun e => ?_
        have h8 := h5.lo hq
        have h9 := Option.some.inj e
        omega
    · exact h6.grown hg2 fun r hr => by cases hr; omega
  · rintro D xs W hD hS ⟨sl, h1, h2, h3, h4⟩ hK
    refine S.ld1 one_L_string sl h1.cell ?_
    refine ⟨hK, ?_⟩
    have hg := shut_grown W D
    have hr : ∀ r, some D = some r → w1.heap.size ≤ r ∧ ∃ o : Obj, W.heap[r]? = some o ∧ o.isCells = false := fun r e => by cases e; exact ⟨hD, _, hK, rfl⟩
    exact H sl _ xs _ (by omega) hS (h2.notwalk hg hr) (h3.notwalk (by omega) hg hr)
  · exact fun D pre W h1 h2 h3 h4 => trivial
end Go.Proofs.Ytlghlmoifjcgoaa.VG
