/- maps.Keys over a map from texts: the iterator's contract; no condition. -/
import Derived.RangeFuncBound
import Derived.Test.YtlghlmoifjcgoaaVKey
import Derived.Test.YtlghlmoifjcgoaaVCell
import Derived.Test.YtlghlmoifjcgoaaVGe
import Derived.Test.YtlghlmoifjcgoaaVT
set_option linter.unusedVariables false
namespace Go.Proofs.Ytlghlmoifjcgoaa.VG
open Go.VB Go.Proofs Go.RowKit

theorem und_map_string_struct : Try.prog.underlying 60 = some (.map 9 61) := Try.underlying60
theorem nodup_len {α : Type} [DecidableEq α] : ∀ {l d : List α}, l.Nodup → (∀ x ∈ l, x ∈ d) → l.length ≤ d.length
  | [], _, _, _ => by simp
  | x :: l, d, h, hs => by
    have h1 := List.nodup_cons.1 h
    have hx : x ∈ d := hs x (by simp)
    have h2 : l.length ≤ (d.erase x).length := nodup_len h1.2 fun y hy => (List.mem_erase_of_ne (fun e => h1.1 (by rw [← e]; exact hy))).2 (hs y (by simp [hy]))
    have h3 := List.length_erase_of_mem hx
    have h4 : 0 < d.length := List.length_pos_of_mem hx
    rw [List.length_cons]; omega
abbrev encS (x : ByteArray) : List Value := [.string x]
theorem walkIter {w w' : World} {ek : ByteArray → Value} {ν : Type} {ev : ν → Value} {b r : Nat} {f : ByteArray → Option ν} {ks : List ByteArray} (h : IterIs ek ev w b r f ks) (hk : KeepsWalks w w') : IterIs ek ev w' b r f ks := by
  obtain ⟨c, sb, h1⟩ := h.blk
  obtain ⟨es, c', h2⟩ := h.mapLt
  exact h.keep ((hk.same b _ h2 rfl).trans h2.symm) ((hk.same r _ h1 rfl).trans h1.symm)
theorem keys1_ok {w : World} {ν : Type} {ev : ν → Value} {f : ByteArray → Option ν} {b b1 : Nat} (h : MapIs Value.string ev w b f) (h1 : Row w b1 [.map (some b)] 60) {dom : List ByteArray} (hd : ∀ x v, f x = some v → x ∈ dom) :
    SeqStopsK (FW none) 0 Try.prog fn_maps_Keys_map_string_struct_string_struct_1 [.pointer (some ⟨b1, 0, none⟩)].toArray (fun x => (encS x).toArray) KeepsWalks (fun xs => xs.Nodup ∧ ∀ x, x ∈ xs ↔ ∃ v, f x = some v) (fun _ => True) dom.length w := by
  intro l' J Jx W hW hJ hJx hY h0
  have C := L1_maps_Keys_map_string_struct_string_struct_1 (.func (.yield l') #[] #[]) (some ⟨b1, 0, none⟩) W (fun w' => (∃ xs, (xs.Nodup ∧ ∀ x, x ∈ xs ↔ ∃ v, f x = some v) ∧ J xs w') ∨ (∃ pre, True ∧ Jx pre w')) ?_
  · exact CallsIn.mono C fun e w' hr => ⟨⟨_, hr.1⟩, hr.2⟩
  unfold V_maps_Keys_map_string_struct_string_struct_1
  refine S.ld1 one_map_string_struct (some b) (h1.bel hW).cell ?_
  refine S.rng (h.bel hW) und_map_string_struct fun W1 hi hb1 => ?_
  have hlt : W.heap.size ≤ W.heap.size := Nat.le_refl _
  have hblt : b < W.heap.size := (h.bel hW).lt
  have hj0 : J [] W1 := hJ _ _ _ none h0 (grown_bel hb1 none) (fun r e => by cases e)
  generalize hR : W.heap.size = R at hi hblt ⊢
  refine ⟨fun w1 => ∃ ks, IterIs Value.string ev w1 b R f ks ∧ J ks w1, fun w1 => dom.length - iterLen w1 R, ⟨[], hi, hj0⟩, ?_⟩
  rintro w1 ⟨ks, hi1, hj1⟩
  unfold V_maps_Keys_map_string_struct_string_struct_1_l1b
  refine S.next hi1 (by omega) (fun x y e => by injection e) (fun hall => ?_) fun x v w2 hx hn hi2 hg => ?_
  · refine ⟨fun _ => .inl ⟨ks, ⟨hi1.nd, fun x => ⟨hi1.dom x, fun ⟨v, hv⟩ => hall x v hv⟩⟩, hj1⟩, fun k v e => by cases e⟩
  · refine ⟨fun e => (nomatch e), fun k v' e => ?_⟩
    cases e
    have hj2 : J ks w2 := hJ _ _ _ (some R) hj1 hg (fun r e => by
      cases e
      obtain ⟨c, sb, hb⟩ := hi1.blk
      exact ⟨by omega, _, hb, rfl⟩)
    have hcl : (ks ++ [x]).length ≤ dom.length := nodup_len hi2.nd (fun y hy => by
      obtain ⟨u, hu⟩ := hi2.dom y hy
      exact hd y u hu)
    have hl1 := hi1.size
    rw [List.length_append, List.length_singleton] at hcl
    refine S.iterEntry hi2 hx (fun x y e => by injection e) ?_
    refine .inr ⟨l', rfl, YieldAt.mono (hY _ x w2 hj2 (by omega)) fun e' w3 hr => ?_⟩
    rcases hr with ⟨rfl, hj3, hk⟩ | ⟨rfl, hj3⟩
    · refine ⟨true, rfl, fun h => (nomatch h), fun _ => ?_⟩
      have hi3 := walkIter hi2 hk
      refine ⟨⟨_, hi3, hj3⟩, ?_⟩
      have hl3 := hi3.size
      rw [List.length_append, List.length_singleton] at hl3
      dsimp only
      omega
    · exact ⟨false, rfl, fun _ => .inr ⟨_, trivial, hj3⟩, fun h => (nomatch h)⟩
end Go.Proofs.Ytlghlmoifjcgoaa.VG
