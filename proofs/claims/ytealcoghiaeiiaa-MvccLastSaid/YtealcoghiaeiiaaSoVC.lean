/- The library's sort of a row by a function that compares: the choice of a place; no condition. -/
import Derived.Test.YtealcoghiaeiiaaSoVB
set_option linter.unusedVariables false
namespace Go.Proofs.Ytealcoghiaeiiaa.VG
open Go.VB Go.VB.Srt Go.Proofs

namespace SoCmpFunc_api_Version
section
variable {cmp : Value} {lt : T_api_Version → T_api_Version → Bool} (hcmp : Cmps cmp lt) {base : Nat} {w : World} {s : Sl} {L : Nat} {f : Nat → T_api_Version}
include hcmp
theorem order2_ok (hO : Ow base w s (tab f L)) {B : Nat} {v : Int} (hB : Row w B [.int .i64 v] ty_int) {a b : Nat} (ha : a < L) (hb : b < L) {k : Int → Int → World → Prop}
    (H : ∀ (x y : Nat) w' v', (x = a ∨ x = b) → (y = a ∨ y = b) → Row w' B [.int .i64 v'] ty_int → w.grownBy w' (some B) → k x y w') :
    Cl Try.prog fn_slices_order2CmpFunc_api_Version [Sl.v s, .int .i64 (a : Int), .int .i64 (b : Int), .pointer (some ⟨B, 0, none⟩), cmp].toArray w (fun e w' => ∃ (r0 r1 : Int), e = .returned (.tuple [.int .i64 r0, .int .i64 r1].toArray) ∧ k r0 r1 w') := by
  refine L1_slices_order2CmpFunc_api_Version s a b (some ⟨B, 0, none⟩) cmp w k ?_
  unfold V_slices_order2CmpFunc_api_Version
  refine Q.elem elemOk hO (i' := b) rfl hb ?_
  refine Q.elem elemOk hO (i' := a) rfl ha ?_
  obtain ⟨q, hq, hl⟩ := hcmp w (f b) (f a)
  refine ⟨q, hq, ?_⟩
  intro w1 hb1
  have hB1 := hB.bel hb1
  refine ⟨fun _ => ⟨by trivial, ?_⟩, fun _ => H a b w1 v (.inl rfl) (.inr rfl) hB1 (grown_bel hb1 _)⟩
  refine S.ld1 one_int v hB1.cell ?_
  refine ⟨by trivial, ?_⟩
  refine S.st0 one_int hB1 rfl rfl fun w2 hB2 hg2 => ?_
  exact H b a w2 _ (.inr rfl) (.inl rfl) hB2 (grown_trans (grown_bel hb1 _) hg2)

theorem median_ok (hO : Ow base w s (tab f L)) {B : Nat} {v : Int} (hB : Row w B [.int .i64 v] ty_int) (hne : (Sl.v s).ownBlock ≠ some B) {a b c : Nat} (ha : a < L) (hb : b < L) (hc : c < L) {k : Int → World → Prop}
    (H : ∀ (x : Nat) w' v', (x = a ∨ x = b ∨ x = c) → Row w' B [.int .i64 v'] ty_int → w.grownBy w' (some B) → k x w') :
    Cl Try.prog fn_slices_medianCmpFunc_api_Version [Sl.v s, .int .i64 (a : Int), .int .i64 (b : Int), .int .i64 (c : Int), .pointer (some ⟨B, 0, none⟩), cmp].toArray w (fun e w' => ∃ r0 : Int, e = .returned (.int .i64 r0) ∧ k r0 w') := by
  refine L1_slices_medianCmpFunc_api_Version s a b c (some ⟨B, 0, none⟩) cmp w k ?_
  unfold V_slices_medianCmpFunc_api_Version
  have kept : ∀ {w w'}, Ow base w s (tab f L) → w.grownBy w' (some B) → Ow base w' s (tab f L) := fun h hg => h.kept hg (by
    cases hk : (Sl.v s).ownBlock with
    | none => exact .inl rfl
    | some q => exact .inr (by rw [← hk]; exact hne))
  refine order2_ok hcmp hO hB ha hb fun x y w1 v1 hx hy hB1 hg1 => ?_
  have hO1 := kept hO hg1
  refine order2_ok hcmp hO1 hB1 (a := y) (b := c) (by omega) hc fun x2 y2 w2 v2 hx2 hy2 hB2 hg2 => ?_
  have hO2 := kept hO1 hg2
  refine order2_ok hcmp hO2 hB2 (a := x) (b := x2) (by omega) (by omega) fun x3 y3 w3 v3 hx3 hy3 hB3 hg3 => ?_
  exact H y3 w3 v3 (by omega) hB3 (grown_trans (grown_trans hg1 hg2) hg3)

theorem medianAdj_ok (hO : Ow base w s (tab f L)) {B : Nat} {v : Int} (hB : Row w B [.int .i64 v] ty_int) (hne : (Sl.v s).ownBlock ≠ some B) {a : Nat} (h0 : 1 ≤ a) (ha : a + 1 < L) (hL : L ≤ 140737488355328) {k : Int → World → Prop}
    (H : ∀ (x : Nat) w' v', a - 1 ≤ x → x ≤ a + 1 → Row w' B [.int .i64 v'] ty_int → w.grownBy w' (some B) → k x w') :
    Cl Try.prog fn_slices_medianAdjacentCmpFunc_api_Version [Sl.v s, .int .i64 (a : Int), .pointer (some ⟨B, 0, none⟩), cmp].toArray w (fun e w' => ∃ r0 : Int, e = .returned (.int .i64 r0) ∧ k r0 w') := by
  refine L1_slices_medianAdjacentCmpFunc_api_Version s a (some ⟨B, 0, none⟩) cmp w k ?_
  unfold V_slices_medianAdjacentCmpFunc_api_Version
  rw [wr64 (n := (a : Int) - 1) (by omega) (by omega), wr64 (n := (a : Int) + 1) (by omega) (by omega), show (a : Int) - 1 = ((a - 1 : Nat) : Int) by omega, show (a : Int) + 1 = ((a + 1 : Nat) : Int) by omega]
  exact median_ok hcmp hO hB hne (a := a - 1) (b := a) (c := a + 1) (by omega) (by omega) ha fun x w' v' hx h1 h2 => H x w' v' (by omega) (by omega) h1 h2

theorem pivot_ok (hO : Ow base w s (tab f L)) {a b : Nat} (hA : a < b) (hb : b ≤ L) {k : Int → Int → World → Prop}
    (H : ∀ (x : Nat) (y : Int) w', a ≤ x → x < b → Bel w w' → k x y w') :
    Cl Try.prog fn_slices_choosePivotCmpFunc_api_Version [Sl.v s, .int .i64 (a : Int), .int .i64 (b : Int), cmp].toArray w (fun e w' => ∃ (r0 r1 : Int), e = .returned (.tuple [.int .i64 r0, .int .i64 r1].toArray) ∧ k r0 r1 w') := by
  refine L1_slices_choosePivotCmpFunc_api_Version s a b cmp w k ?_
  have hlen := hO.len; have hsm := hO.small
  rw [tab_len] at hlen
  unfold V_slices_choosePivotCmpFunc_api_Version
  refine S.new1 new_int ?_
  have hB := Row.new w zero_int ty_int
  have hb1 : Bel w (w.alloc (.cells zero_int.toArray ty_int)) := Bel.alloc _ _
  have hO1 := hO.bel hb1
  have hne : (Sl.v s).ownBlock ≠ some w.heap.size := fun e => by have := (hO.row.lt _ e).2; omega
  have hw : w.heap.size ≤ w.heap.size := Nat.le_refl _
  generalize hBd : w.heap.size = B at hB hne ⊢
  generalize (w.alloc (.cells zero_int.toArray ty_int)) = w1 at hB hb1 hO1 ⊢
  obtain ⟨n, rfl⟩ : ∃ n, b = a + n := ⟨b - a, by omega⟩
  rw [wr64 (n := ((a + n : Nat) : Int) - a) (by omega) (by omega), show ((a + n : Nat) : Int) - a = (n : Int) by omega]
  have hq : (n : Int).tdiv 4 = ((n / 4 : Nat) : Int) := by rw [Int.tdiv_eq_ediv_of_nonneg (by omega)]; omega
  refine S.quo (by decide) (by rw [hq]; omega) (by rw [hq]; omega) ?_
  refine S.quo (by decide) (by rw [hq]; omega) (by rw [hq]; omega) ?_
  refine S.quo (by decide) (by rw [hq]; omega) (by rw [hq]; omega) ?_
  rw [hq]
  generalize hm : n / 4 = m
  have hm1 : 4 * m ≤ n := by omega
  rw [wr64 (n := (m : Int) * 1) (by omega) (by omega), wr64 (n := (m : Int) * 2) (by omega) (by omega), wr64 (n := (m : Int) * 3) (by omega) (by omega),
    wr64 (n := (a : Int) + m * 1) (by omega) (by omega), wr64 (n := (a : Int) + m * 2) (by omega) (by omega), wr64 (n := (a : Int) + m * 3) (by omega) (by omega)]
  have j1 : ∀ (x : Nat) (w2 : World) (v : Int), a ≤ x → x < a + n → Row w2 B [.int .i64 v] ty_int → w1.grownBy w2 (some B) → V_slices_choosePivotCmpFunc_api_Version_j1 k (some ⟨B, 0, none⟩) x w2 := by
    intro x w2 v h1 h2 h3 h4
    have hb2 : Bel w w2 := hb1.grown h4 (fun r hr => by cases hr; omega)
    unfold V_slices_choosePivotCmpFunc_api_Version_j1
    refine S.ld1 one_int v h3.cell ?_
    exact ⟨fun _ => H x _ w2 h1 h2 hb2, fun _ => ⟨fun _ => H x _ w2 h1 h2 hb2, fun _ => H x _ w2 h1 h2 hb2⟩⟩
  have kept : ∀ {w w'}, Ow base w s (tab f L) → w.grownBy w' (some B) → Ow base w' s (tab f L) := fun h hg => h.kept hg (by
    cases hk : (Sl.v s).ownBlock with
    | none => exact .inl rfl
    | some q => exact .inr (by rw [← hk]; exact hne))
  have j2 : ∀ (x y z : Nat) (w2 : World) (v : Int), a ≤ x → x < a + n → a ≤ y → y < a + n → a ≤ z → z < a + n → Row w2 B [.int .i64 v] ty_int → w1.grownBy w2 (some B) → V_slices_choosePivotCmpFunc_api_Version_j2 s cmp k (some ⟨B, 0, none⟩) x y z w2 := by
    intro x y z w2 v h1 h2 h3 h4 h5 h6 h7 h8
    unfold V_slices_choosePivotCmpFunc_api_Version_j2
    refine median_ok hcmp (kept hO1 h8) h7 hne (by omega) (by omega) (by omega) fun q w3 v3 hq h9 h10 => j1 q w3 v3 (by omega) (by omega) h9 (grown_trans h8 h10)
  have e1 : (a : Int) + m * 1 = ((a + m : Nat) : Int) := by omega
  have e2 : (a : Int) + m * 2 = ((a + 2 * m : Nat) : Int) := by omega
  have e3 : (a : Int) + m * 3 = ((a + 3 * m : Nat) : Int) := by omega
  rw [e1, e2, e3]
  refine ⟨fun h8 => ⟨fun h50 => ?_, fun _ => ?_⟩, fun _ => j1 _ w1 _ (by omega) (by omega) hB (World.grownBy.refl _ _)⟩
  · refine medianAdj_ok hcmp hO1 hB hne (by omega) (by omega) (by omega) fun x w2 v2 hx1 hx2 hB2 hg2 => ?_
    refine medianAdj_ok hcmp (kept hO1 hg2) hB2 hne (by omega) (by omega) (by omega) fun y w3 v3 hy1 hy2 hB3 hg3 => ?_
    refine medianAdj_ok hcmp (kept hO1 (grown_trans hg2 hg3)) hB3 hne (by omega) (by omega) (by omega) fun z w4 v4 hz1 hz2 hB4 hg4 => ?_
    exact j2 x y z w4 v4 (by omega) (by omega) (by omega) (by omega) (by omega) (by omega) hB4 (grown_trans (grown_trans hg2 hg3) hg4)
  · exact j2 _ _ _ w1 _ (by omega) (by omega) (by omega) (by omega) (by omega) (by omega) hB (World.grownBy.refl _ _)
end
end SoCmpFunc_api_Version
end Go.Proofs.Ytealcoghiaeiiaa.VG
