/- The program's sample of events is as the document says, whatever the world; no condition. -/
import Derived.Test.YtlghlmoifjcgoaaVLl
import Derived.Test.YtlghlmoifjcgoaaEvPkg
import Derived.Test.YtlghlmoifjcgoaaEvFacts
set_option linter.unusedVariables false
namespace Go.Proofs.Ytlghlmoifjcgoaa.VG
open Go.VB Go.Proofs Go.RowKit

abbrev tA : ByteArray := ByteArray.mk #[97]
abbrev tM : ByteArray := ByteArray.mk #[109]
abbrev tX : ByteArray := ByteArray.mk #[120]
abbrev tY : ByteArray := ByteArray.mk #[121]
abbrev tZ : ByteArray := ByteArray.mk #[122]
theorem strLit {w : World} {ss : List ByteArray} : StrRd (w.alloc (.cells (ss.map Value.string).toArray ty_string)) ⟨some ⟨w.heap.size, 0, none⟩, ss.length, ss.length⟩ ss ∨ 140737488355328 < ss.length := by
  by_cases hl : ss.length ≤ 140737488355328
  · refine .inl ⟨rfl, Nat.le_refl _, by show ss.length ≤ _; omega, hl, fun h => by simp at h, fun i x hx => ⟨_, rfl, fun j v hj => ?_⟩⟩
    have hA : At (w.alloc (.cells (ss.map Value.string).toArray ty_string)) ⟨w.heap.size, 0, none⟩ (ss.map Value.string) := At.new w _ _
    cases j with
    | zero =>
      simp at hj; subst hj
      rw [Nat.mul_one, add_add]
      refine hA _ _ ?_
      simp [hx]
    | succ j => simp at hj
  · exact .inr (by omega)
theorem notLongA (mark : ByteArray) (data : List ByteArray) (hm : mark.size ≤ 1024) (hd : ∀ d ∈ data, d.size ≤ 1024) : ¬ LongIn tA mark data := by
  rintro (h | h | h | ⟨d, h1, h2⟩)
  · cases h
  · exact absurd h (by decide)
  · omega
  · have := hd d h1; omega
abbrev live : List Ev := [⟨tA, 1, 1, tM, tX⟩, ⟨tA, 2, 2, noB, tY⟩]
theorem app1 : app [] tA 0 tM [tX, tY] = (live, 2, 0) := by
  have h := app_put (l := []) (s := tA) (x := 0) (mark := tM) (data := [tX, tY]) (chk_good good_nil) (notLongA _ _ (by decide) (by intro d hd; simp at hd; rcases hd with rfl | rfl <;> decide)) (by rw [mkd_pos good_nil]; simp) (by simp [cnt, ofS]) (by simp)
  rw [h]
  rfl
theorem good_live : Good live := by
  have h := app_good (l := []) (s := tA) (x := 0) (mark := tM) (data := [tX, tY]) (by rw [app1])
  rw [app1] at h; exact h
theorem app2 : app live tA 0 tM [tZ] = (live, 2, 0) := by
  have h := app_there (l := live) (s := tA) (x := 0) (mark := tM) (data := [tZ]) (chk_good good_live) (notLongA _ _ (by decide) (by intro d hd; simp at hd; subst hd; decide)) ((mkd_pos good_live).2 ⟨(fun h => nomatch h), (⟨tA, 1, 1, tM, tX⟩ : Ev), by simp, rfl, rfl⟩)
  rw [h]; rfl
theorem app3 : app live tA 0 noB [tZ] = ([], 0, 10) :=
  app_conflict (chk_good good_live) (notLongA _ _ (by decide) (by intro d hd; simp at hd; subst hd; decide)) (by rw [mkd_pos good_live]; exact fun h => h.1 rfl) ⟨by decide, by show (0 : Int) ≠ ((cnt live tA : Nat) : Int); intro h; cases h⟩

theorem lives_ok (w : World) {k : Bool → World → Prop} (H : ∀ w', Bel w w' → k true w') : Cl Try.prog fn_ladinglaw12_lives [].toArray w (fun e w' => ∃ r0 : Bool, e = .returned (.bool r0) ∧ k r0 w') := by
  refine L1_ladinglaw12_lives w k ?_
  unfold V_ladinglaw12_lives
  refine ⟨⟨some ⟨w.heap.size, 0, none⟩, 2, 2⟩, w.alloc (.cells [.string tX, .string tY].toArray ty_string), by kernel_rfl, ?_⟩
  have hd1 : StrRd (w.alloc (.cells [.string tX, .string tY].toArray ty_string)) ⟨some ⟨w.heap.size, 0, none⟩, 2, 2⟩ [tX, tY] := (strLit (w := w) (ss := [tX, tY])).resolve_right (by simp)
  have hb1 : Bel w (w.alloc (.cells [.string tX, .string tY].toArray ty_string)) := Bel.alloc _ _
  generalize (w.alloc (.cells [.string tX, .string tY].toArray ty_string)) = w1 at hd1 hb1 ⊢
  refine eappend_ok (l := []) (Rd.nil _ _ _) (by simp) hd1 tA tM 0 fun r w2 hr hb2 => ?_
  rw [app1] at hr ⊢
  have hb02 := hb1.trans hb2
  refine ⟨⟨some ⟨w2.heap.size, 0, none⟩, 1, 1⟩, _, bs1_L_string tZ w2, ?_⟩
  have hd2 : StrRd (w2.alloc (.cells [.string tZ].toArray ty_string)) ⟨some ⟨w2.heap.size, 0, none⟩, 1, 1⟩ [tZ] := (strLit (w := w2) (ss := [tZ])).resolve_right (by simp)
  have hb3 : Bel w2 (w2.alloc (.cells [.string tZ].toArray ty_string)) := Bel.alloc _ _
  have hb03 := hb02.trans hb3
  have hr3 := hr.bel hb3
  refine eappend_ok hr3 (by simp) hd2 tA tM 0 fun r' w4 hr' hb4 => ?_
  rw [app2] at hr' ⊢
  have hb04 := hb03.trans hb4
  have hr4 := hr3.bel hb4
  refine ⟨⟨some ⟨w4.heap.size, 0, none⟩, 1, 1⟩, _, bs1_L_string tZ w4, ?_⟩
  have hd3 : StrRd (w4.alloc (.cells [.string tZ].toArray ty_string)) ⟨some ⟨w4.heap.size, 0, none⟩, 1, 1⟩ [tZ] := (strLit (w := w4) (ss := [tZ])).resolve_right (by simp)
  have hb5 : Bel w4 (w4.alloc (.cells [.string tZ].toArray ty_string)) := Bel.alloc _ _
  have hr5 := hr4.bel hb5
  refine eappend_ok hr5 (by simp) hd3 tA noB 0 fun r'' w6 hr'' hb6 => ?_
  rw [app3]
  have hb06 := (hb04.trans hb5).trans hb6
  have hr6 := hr5.bel hb6
  have hl1 : r.len = 2 := hr.len.symm
  have hl2 : r'.len = 2 := hr'.len.symm
  refine ⟨fun _ => ?_, fun h => absurd rfl h⟩
  refine ⟨fun _ => ?_, fun h => (nomatch h)⟩
  rw [hl1]
  refine ⟨fun _ => ?_, fun h => (nomatch h)⟩
  refine S.idx (i := 1) hr6 und_L_api_Event esz_L_api_Event (by decide) (x := ⟨tA, 2, 2, noB, tY⟩) rfl fun ad hA => ?_
  refine S.ldA agg_api_Event (⟨tA, 2, 2, noB, tY⟩ : Ev) rfl hA rfl ?_
  refine ⟨(⟨tA, 2, 2, noB, tY⟩ : Ev), w6, by kernel_rfl, ?_⟩
  obtain ⟨q, h1, h2⟩ := eql_api_Event (⟨tA, 2, 2, noB, tY⟩ : Ev) ⟨tA, 2, 2, noB, tY⟩ (.tmp 44) (.tmp 45)
  obtain rfl : q = true := h2.2 rfl
  refine ⟨true, w6, h1 w6, ?_⟩
  refine ⟨fun _ => ?_, fun h => (nomatch h)⟩
  refine ⟨fun _ => ?_, fun h => (nomatch h)⟩
  unfold V_ladinglaw12_lives_r5
  rw [hl2]
  refine ⟨fun _ => ?_, fun h => (nomatch h)⟩
  refine ⟨fun _ => ?_, fun h => (nomatch h)⟩
  exact H w6 hb06
end Go.Proofs.Ytlghlmoifjcgoaa.VG
