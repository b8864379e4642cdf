/- How versions are compared; the search by halves; the last version as of a time; no condition. -/
import Derived.Test.YtealcoghiaeiiaaMvPure
import Derived.Test.YtealcoghiaeiiaaVGm
import Derived.Test.YtealcoghiaeiiaaSoVA
set_option linter.unusedVariables false
namespace Go.Proofs.Ytealcoghiaeiiaa.VG
open Go.VB Go.VB.Srt Go.Proofs Go.RowKit

abbrev VerRd (w : World) (s : Sl) (l : List Ver) : Prop := Rd T_api_Version.cells 4 w s l
abbrev VerOwn (base : Nat) (w : World) (s : Sl) (l : List Ver) : Prop := OwnS T_api_Version.cells 4 ty_api_Version base w s l
theorem VerOwn.rd {base : Nat} {w : World} {s : Sl} {l : List Ver} (h : VerOwn base w s l) : VerRd w s l := OwnS.rd h (fun _ => rfl)
def cmpS (x y : ByteArray) : Int := if sLt x y = true then -1 else if x = y then 0 else 1
def cmpU (x y : Int) : Int := if x < y then -1 else if y < x then 1 else 0
theorem cmpS_lt {x y : ByteArray} : cmpS x y < 0 ↔ sLt x y = true := by
  unfold cmpS; split
  · simp [*]
  · rename_i h
    split
    · exact ⟨fun h => absurd h (by decide), fun h1 => absurd h1 h⟩
    · exact ⟨fun h => absurd h (by decide), fun h1 => absurd h1 h⟩
theorem cmpS_zero {x y : ByteArray} : cmpS x y = 0 ↔ x = y := by
  unfold cmpS; split
  · rename_i h; exact ⟨fun h => absurd h (by decide), fun e => absurd e (sLt_ne h)⟩
  · split <;> simp [*]
theorem cmpU_lt {x y : Int} : cmpU x y < 0 ↔ x < y := by unfold cmpU; split <;> (try split) <;> omega
theorem cmpU_zero {x y : Int} : cmpU x y = 0 ↔ x = y := by unfold cmpU; split <;> (try split) <;> omega
def ordI (a b : Ver) : Int := if cmpS a.Key b.Key ≠ 0 then cmpS a.Key b.Key else cmpU a.At b.At
theorem ordI_lt {a b : Ver} : ordI a b < 0 ↔ vlt a b := by
  unfold ordI vlt
  by_cases h : cmpS a.Key b.Key = 0
  · rw [if_neg (by simp [h])]
    have hk := cmpS_zero.1 h
    rw [cmpU_lt]
    exact ⟨fun h1 => .inr ⟨hk, h1⟩, fun h1 => by
      rcases h1 with h1 | h1
      · exact absurd hk (sLt_ne h1)
      · exact h1.2⟩
  · rw [if_pos h, cmpS_lt]
    exact ⟨fun h1 => .inl h1, fun h1 => by
      rcases h1 with h1 | h1
      · exact h1
      · exact absurd (cmpS_zero.2 h1.1) h⟩
theorem ordI_zero {a b : Ver} : ordI a b = 0 ↔ a.Key = b.Key ∧ a.At = b.At := by
  unfold ordI
  by_cases h : cmpS a.Key b.Key = 0
  · rw [if_neg (by simp [h]), cmpU_zero]
    exact ⟨fun h1 => ⟨cmpS_zero.1 h, h1⟩, fun h1 => h1.2⟩
  · rw [if_pos h]
    exact ⟨fun h1 => absurd h1 h, fun h1 => absurd (cmpS_zero.2 h1.1) h⟩
theorem compareS_ok (x y : ByteArray) (w : World) {k : Int → World → Prop} (H : k (cmpS x y) w) : Cl Try.prog fn_cmp_Compare_string [.string x, .string y].toArray w (fun e w' => ∃ r0 : Int, e = .returned (.int .i64 r0) ∧ k r0 w') := by
  refine L1_cmp_Compare_string x y w k ?_
  unfold V_cmp_Compare_string
  refine L1_cmp_isNaN_string x w _ ?_
  unfold V_cmp_isNaN_string
  refine L1_cmp_isNaN_string y w _ ?_
  unfold V_cmp_isNaN_string
  rw [decide_eq_false (p := x ≠ x) (by simp), decide_eq_false (p := y ≠ y) (by simp)]
  refine ⟨fun h => (nomatch h), fun _ => ⟨fun h => (nomatch h), fun _ => ⟨fun h => ?_, fun h => ⟨fun h1 => ?_, fun h1 => ?_⟩⟩⟩⟩
  · unfold cmpS at H; rw [if_pos h] at H; exact H
  · unfold cmpS at H
    rw [sGt_eq] at h1
    rw [if_neg (by rw [h]; decide), if_neg (fun e => sLt_irr x (by rw [← e] at h1; exact h1))] at H; exact H
  · unfold cmpS at H
    rw [sGt_eq] at h1
    have hxy : x = y := Classical.byContradiction fun hn => by
      have := sLt_tot (x := x) (y := y) (by rw [h]; decide) hn
      rw [h1] at this; cases this
    rw [if_neg (by rw [h]; decide), if_pos hxy] at H; exact H
theorem compareU_ok (x y : Int) (w : World) {k : Int → World → Prop} (H : k (cmpU x y) w) : Cl Try.prog fn_cmp_Compare_uint64 [.int .u64 x, .int .u64 y].toArray w (fun e w' => ∃ r0 : Int, e = .returned (.int .i64 r0) ∧ k r0 w') := by
  refine L1_cmp_Compare_uint64 x y w k ?_
  unfold V_cmp_Compare_uint64
  refine L1_cmp_isNaN_uint64 x w _ ?_
  unfold V_cmp_isNaN_uint64
  refine L1_cmp_isNaN_uint64 y w _ ?_
  unfold V_cmp_isNaN_uint64
  rw [decide_eq_false (p := x ≠ x) (by simp), decide_eq_false (p := y ≠ y) (by simp)]
  unfold cmpU at H
  refine ⟨fun h => (nomatch h), fun _ => ⟨fun h => (nomatch h), fun _ => ⟨fun h => ?_, fun h => ⟨fun h1 => ?_, fun h1 => ?_⟩⟩⟩⟩
  · rw [if_pos h] at H; exact H
  · rw [if_neg h, if_pos h1] at H; exact H
  · rw [if_neg h, if_neg h1] at H; exact H
theorem or2_ok {w : World} {s : Sl} {a b : Int} (h : Rd (fun x : Int => [Value.int .i64 x]) 1 w s [a, b]) {k : Int → World → Prop} (H : k (if a ≠ 0 then a else b) w) :
    Cl Try.prog fn_cmp_Or_int [Sl.v s].toArray w (fun e w' => ∃ r0 : Int, e = .returned (.int .i64 r0) ∧ k r0 w') := by
  refine L1_cmp_Or_int s w k ?_
  have hlen := h.len
  simp at hlen
  unfold V_cmp_Or_int
  refine ⟨fun x W => W = w ∧ (x = 0 ∨ (x = 1 ∧ a = 0) ∨ (x = 2 ∧ a = 0 ∧ b = 0)), fun x _ => (2 - x).toNat, ⟨rfl, .inl rfl⟩, ?_⟩
  rintro x W ⟨rfl, hx⟩
  unfold V_cmp_Or_int_l1b
  refine ⟨fun hlt => ?_, fun hlt => ?_⟩
  · rcases hx with rfl | ⟨rfl, ha⟩ | ⟨rfl, _, _⟩
    · refine S.idx h und_L_int esz_L_int (by omega) (x := a) rfl fun ad hA => ?_
      refine S.ld1 one_int a (by have := hA 0 (.int .i64 a) rfl; simpa [Addr.add] using this) ?_
      refine ⟨fun hn => by rw [if_pos hn] at H; exact H, fun hn => ⟨⟨rfl, .inr (.inl ⟨by rw [wr64 (by omega) (by omega)]; rfl, Classical.not_not.1 hn⟩)⟩, by rw [wr64 (by omega) (by omega)]; dsimp only; omega⟩⟩
    · refine S.idx h und_L_int esz_L_int (by omega) (x := b) rfl fun ad hA => ?_
      refine S.ld1 one_int b (by have := hA 0 (.int .i64 b) rfl; simpa [Addr.add] using this) ?_
      rw [if_neg (by simp [ha])] at H
      refine ⟨fun hn => H, fun hn => ⟨⟨rfl, .inr (.inr ⟨by rw [wr64 (by omega) (by omega)]; rfl, ha, Classical.not_not.1 hn⟩)⟩, by rw [wr64 (by omega) (by omega)]; dsimp only; omega⟩⟩
    · omega
  · rcases hx with rfl | ⟨rfl, ha⟩ | ⟨rfl, ha, hb⟩
    · omega
    · omega
    · rw [if_neg (by simp [ha]), hb] at H; exact H
theorem order_ok (a b : Ver) (w : World) {k : Int → World → Prop} (H : ∀ w', Bel w w' → k (ordI a b) w') :
    Cl Try.prog fn_mvcc_order [T_api_Version.v a, T_api_Version.v b].toArray w (fun e w' => ∃ r0 : Int, e = .returned (.int .i64 r0) ∧ k r0 w') := by
  refine L1_mvcc_order a b w k ?_
  unfold V_mvcc_order
  refine S.boxA (cs := a.cells) rfl ?_
  have h1 := At.new w a.cells ty_api_Version
  have b1 : Bel w (w.alloc (.cells a.cells.toArray ty_api_Version)) := Bel.alloc _ _
  generalize w.heap.size = B1 at h1 ⊢
  generalize (w.alloc (.cells a.cells.toArray ty_api_Version)) = w1 at h1 b1 ⊢
  refine S.boxA (cs := b.cells) rfl ?_
  have h2 := At.new w1 b.cells ty_api_Version
  have b2 : Bel w1 (w1.alloc (.cells b.cells.toArray ty_api_Version)) := Bel.alloc _ _
  generalize w1.heap.size = B2 at h2 ⊢
  generalize (w1.alloc (.cells b.cells.toArray ty_api_Version)) = w2 at h2 b2 ⊢
  replace h1 := h1.bel b2
  have b02 := b1.trans b2
  refine ⟨Bel w2, fun w3 b3 => ⟨b3, ?_⟩⟩
  refine K.fa fld_api_Version_Key ?_
  refine K.fa fld_api_Version_Key ?_
  refine K.fa fld_api_Version_At ?_
  refine K.fa fld_api_Version_At ?_
  refine K.ld1 one_string a.Key (fun w hw => (h1.bel hw).fld rfl) ?_
  refine K.ld1 one_string b.Key (fun w hw => (h2.bel hw).fld rfl) ?_
  refine K.ld1 one_uint64 a.At (fun w hw => (h1.bel hw).fld rfl) ?_
  refine K.ld1 one_uint64 b.At (fun w hw => (h2.bel hw).fld rfl) ?_
  refine compareS_ok a.Key b.Key w3 ⟨b3, ?_⟩
  refine compareU_ok a.At b.At w3 ⟨b3, ?_⟩
  have hl := Rd.lit (c := fun x : Int => [Value.int .i64 x]) (n := 1) (fun _ => rfl) [cmpS a.Key b.Key, cmpU a.At b.At] (by simp) w3 ty_int
  have b4 : Bel w3 (w3.alloc (.cells ([cmpS a.Key b.Key, cmpU a.At b.At].flatMap fun x : Int => [Value.int .i64 x]).toArray ty_int)) := Bel.alloc _ _
  refine ⟨⟨some ⟨w3.heap.size, 0, none⟩, 2, 2⟩, (w3.alloc (.cells ([cmpS a.Key b.Key, cmpU a.At b.At].flatMap fun x : Int => [Value.int .i64 x]).toArray ty_int)), by kernel_rfl, ?_⟩
  refine ⟨b3.trans b4, ?_⟩
  exact or2_ok hl ⟨b3.trans b4, H _ ((b02.trans b3).trans b4)⟩
/-- As a function that compares. -/
def vltB (a b : Ver) : Bool := sLt a.Key b.Key || (decide (a.Key = b.Key) && decide (a.At < b.At))
theorem vltB_iff {a b : Ver} : vltB a b = true ↔ vlt a b := by
  unfold vltB vlt; simp
theorem vltB_swo : Srt.SWO vltB where
  irr x := by
    cases h : vltB x x with
    | false => rfl
    | true => exact absurd (vltB_iff.1 h) (vlt_irr x)
  neg x y z h := by
    by_cases h1 : vltB x y = true
    · exact .inl h1
    · right
      rw [vltB_iff] at *
      by_cases h2 : x.Key = y.Key ∧ x.At = y.At
      · rcases h with h | h
        · left; rw [← h2.1]; exact h
        · right; rw [← h2.1, ← h2.2]; exact h
      · exact vlt_tr (vlt_tot h1 h2) h
  asy x y h := by
    cases h1 : vltB y x with
    | false => rfl
    | true => exact absurd (vltB_iff.1 h1) (vlt_asy (vltB_iff.1 h))
theorem order_call (a b : Ver) (w : World) : CallQ Try.prog (.func (.func fn_mvcc_order) #[] #[]) [T_api_Version.v a, T_api_Version.v b] w (.int .i64 (ordI a b)) :=
  ⟨fn_mvcc_order, [], [], rfl, ent32, fun w' _ => (order_ok a b w' (k := fun r W => r = ordI a b ∧ Bel w' W) fun W hb => ⟨rfl, hb⟩).mono fun e W ⟨r, he, hr, hb⟩ => ⟨by rw [he, hr], hb⟩⟩
theorem order_q (a b : Ver) (w : World) : ∀ w', Bel w w' → Cl Try.prog fn_mvcc_order [T_api_Version.v a, T_api_Version.v b].toArray w' (fun e w'' => e = .returned (.int .i64 (ordI a b)) ∧ Bel w' w'') :=
  fun w' _ => (order_ok a b w' (k := fun r W => r = ordI a b ∧ Bel w' W) fun W hb => ⟨rfl, hb⟩).mono fun e W ⟨r, he, hr, hb⟩ => ⟨by rw [he, hr], hb⟩
theorem order_cmps : SoCmpFunc_api_Version.Cmps (.func (.func fn_mvcc_order) #[] #[]) vltB := fun w x y => ⟨ordI x y, order_call x y w, by rw [vltB_iff, ordI_lt]⟩
end Go.Proofs.Ytealcoghiaeiiaa.VG
