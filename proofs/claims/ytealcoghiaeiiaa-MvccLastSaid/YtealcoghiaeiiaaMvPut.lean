/- Writes to versions, the program's; no condition. -/
import Derived.Test.YtealcoghiaeiiaaMvPutP
import Derived.Test.YtealcoghiaeiiaaSoVG
import Derived.Test.YtealcoghiaeiiaaVKey
set_option linter.unusedVariables false
namespace Go.Proofs.Ytealcoghiaeiiaa.VG
open Go.VB Go.VB.Srt Go.Proofs Go.RowKit

theorem agg_s0 : Agg Try.prog ty_struct 0 := ⟨fun w => by kernel_rfl, fun w => by kernel_rfl, by kernel_rfl⟩
theorem new_s0 : ∀ w, (Instr.alloc ty_struct true (.tuple #[])).run Try.prog w = .ok (.pointer (some ⟨w.heap.size, 0, none⟩)) (w.alloc (.cells ([] : List Value).toArray ty_struct)) := fun w => by kernel_rfl
theorem zv_s0 : ∀ w, (zeroValue ty_struct).run Try.prog w = .ok (.agg ([] : List Value).toArray) w := fun w => by kernel_rfl
theorem key_str : KeyOk Try.prog ty_string Value.string := KeyOk.string (by kernel_rfl)
abbrev WriRd (w : World) (s : Sl) (l : List Wri) : Prop := Rd T_api_Write.cells 3 w s l
theorem OwnS.ne_row {α : Type} {c : α → List Value} {n e base : Nat} {w : World} {s : Sl} {xs : List α} (h : OwnS c n e base w s xs) {B : Nat} {cs : List Value} {e' : TypeId} (hR : Row w B cs e') (hne : e ≠ e') : (Sl.v s).ownBlock ≠ some B := fun hB => by
  rcases h.row.2 with ⟨h1, _⟩ | ⟨g, cap, cur, h1, _, hh, _⟩
  · rw [h1] at hB; cases hB
  · rw [h1] at hB
    simp [Value.ownBlock] at hB
    subst hB
    unfold Row at hR
    rw [hR] at hh
    injection hh with hh
    injection hh with _ h3 _
    exact hne h3.symm
theorem getW {l : List Wri} {n : Nat} (h : n < l.length) : ∃ x, l[n]? = some x := ⟨l[n]'h, by simp⟩
theorem mwrong1_ok (x : Wri) (w : World) {k : Bool → World → Prop} (H : ∀ b w', (b = true ↔ TooLong x) → Bel w w' → k b w') :
    Cl Try.prog fn_mvcc_wrong_1 [T_api_Write.v x].toArray w (fun e w' => ∃ r0 : Bool, e = .returned (.bool r0) ∧ k r0 w') := by
  refine L1_mvcc_wrong_1 x w k ?_
  unfold V_mvcc_wrong_1
  refine S.boxW (cs := x.cells) rfl fun B w1 b1 hX _ => ?_
  refine S.fld fld_api_Write_Key one_string hX.at x.Key rfl ?_
  unfold V_mvcc_wrong_1_r1
  refine ⟨fun h => H true w1 ⟨fun _ => .inl (by omega), fun _ => rfl⟩ b1, fun h => ?_⟩
  refine S.fld fld_api_Write_Val one_string hX.at x.Val rfl ?_
  refine H _ w1 ?_ b1
  rw [decide_eq_true_iff]
  exact ⟨fun h => .inr (by omega), fun h1 => by rcases h1 with h1 | h1 <;> omega⟩
theorem containsW_ok {w : World} {x : Sl} {m : List Wri} (hd : WriRd w x m) {k : Bool → World → Prop} (H : ∀ b w', (b = true ↔ ∃ d ∈ m, TooLong d) → Bel w w' → k b w') :
    Cl Try.prog fn_slices_ContainsFunc_api_Write_api_Write [Sl.v x, .func (.func fn_mvcc_wrong_1) #[] #[]].toArray w (fun e w' => ∃ r0 : Bool, e = .returned (.bool r0) ∧ k r0 w') := by
  have dbig := hd.big; have dcap := hd.cap; have dlen := hd.len
  refine L1_slices_ContainsFunc_api_Write_api_Write x _ w k ?_
  unfold V_slices_ContainsFunc_api_Write_api_Write
  refine L1_slices_IndexFunc_api_Write_api_Write x _ w _ ?_
  unfold V_slices_IndexFunc_api_Write_api_Write
  refine ⟨fun i w1 => ∃ n : Nat, i = (n : Int) ∧ n ≤ m.length ∧ Bel w w1 ∧ ∀ d ∈ m.take n, ¬ TooLong d, fun i _ => (x.len - i).toNat, ⟨0, rfl, by omega, Bel.refl _, by simp⟩, ?_⟩
  rintro i w1 ⟨n, rfl, hn, hb, hno⟩
  unfold V_slices_IndexFunc_api_Write_api_Write_l1b
  refine ⟨fun hc => ?_, fun hc => ?_⟩
  · obtain ⟨d, hdn⟩ := getW (l := m) (n := n) (by omega)
    refine S.idx (hd.bel hb) und_L_api_Write esz_L_api_Write (by omega) (x := d) (by simpa using hdn) fun ad hA => ?_
    refine S.ldA agg_api_Write d rfl hA rfl ?_
    refine .inl ⟨fn_mvcc_wrong_1, [], [], rfl, ent41, mwrong1_ok d w1 fun b w2 hbb hb2 => ?_⟩
    refine ⟨fun ht => ?_, fun hf => ?_⟩
    · dsimp only
      rw [decide_eq_true (p := 0 ≤ (n : Int)) (by omega)]
      exact H true w2 ⟨fun _ => ⟨d, List.mem_of_getElem? hdn, hbb.1 ht⟩, fun _ => rfl⟩ (hb.trans hb2)
    · rw [wr64 (by omega) (by omega)]
      refine ⟨⟨n + 1, by omega, by omega, hb.trans hb2, fun e he => ?_⟩, by dsimp only; omega⟩
      rw [take_one hdn] at he
      rcases List.mem_append.1 he with h2 | h2
      · exact hno e h2
      · simp at h2; subst h2; exact fun h3 => by rw [hbb.2 h3] at hf; cases hf
  · obtain rfl : n = m.length := by omega
    rw [List.take_length] at hno
    refine H _ w1 ⟨fun h => absurd (of_decide_eq_true h) (by omega), fun ⟨d, h1, h2⟩ => absurd h2 (hno d h1)⟩ hb
theorem wkeys_take {m : List Wri} {n : Nat} {x : Wri} (h : m[n]? = some x) : wkeys (m.take (n + 1)) = wkeys (m.take n) ++ [x.Key] := by
  unfold wkeys; rw [take_one h, List.map_append]; rfl
theorem nodup_snoc {l : List ByteArray} {a : ByteArray} : (l ++ [a]).Nodup ↔ l.Nodup ∧ a ∉ l := by
  rw [List.nodup_append]
  constructor
  · rintro ⟨h1, _, h3⟩; exact ⟨h1, fun h => h3 a h a (by simp) rfl⟩
  · rintro ⟨h1, h2⟩; exact ⟨h1, by simp, fun x hx y hy e => by simp at hy; subst hy; subst e; exact h2 hx⟩
theorem nodup_part {m : List Wri} (n : Nat) (h : ¬ (wkeys (m.take n)).Nodup) : ¬ (wkeys m).Nodup := fun h1 => h (by
  unfold wkeys at *
  rw [List.map_take]
  exact h1.sublist (List.take_sublist _ _))
theorem mwrong_ok {w : World} {x : Sl} {m : List Wri} (hd : WriRd w x m) {k : Int → World → Prop} (H : ∀ w', Bel w w' → k (wwrong m) w') :
    Cl Try.prog fn_mvcc_wrong [Sl.v x].toArray w (fun e w' => ∃ r0 : Int, e = .returned (.int .i64 r0) ∧ k r0 w') := by
  have dbig := hd.big; have dcap := hd.cap; have dlen := hd.len
  refine L1_mvcc_wrong x w k ?_
  unfold V_mvcc_wrong
  unfold wwrong at H
  refine ⟨fun hc => ?_, fun hc => ?_⟩
  · rw [if_pos (by omega)] at H; exact H w (Bel.refl _)
  rw [if_neg (by omega)] at H
  refine containsW_ok hd fun b w1 hb b1 => ?_
  refine ⟨fun ht => ?_, fun hf => ?_⟩
  · rw [if_pos (hb.1 ht)] at H; exact H w1 b1
  rw [if_neg (fun h => by rw [hb.2 h] at hf; cases hf)] at H
  refine S.make (ek := Value.string) (ev := T_s75.v) fun hM => ?_
  have b2 := Bel.alloc w1 (.map #[] 0)
  have hle1 := b1.le
  generalize hB : w1.heap.size = B at hM hle1 ⊢
  generalize (w1.alloc (.map #[] 0)) = w2 at hM b2 ⊢
  have b02 := b1.trans b2
  refine ⟨fun i W => ∃ (n : Nat) (f : ByteArray → Option T_s75), i = (n : Int) ∧ n ≤ m.length ∧ Bel w W ∧ MapIs Value.string T_s75.v W B f ∧ (∀ s, (f s).isSome = true ↔ s ∈ wkeys (m.take n)) ∧ (wkeys (m.take n)).Nodup, fun i _ => (x.len - i).toNat, ⟨0, _, rfl, by omega, b02, hM, fun s => by simp [wkeys], by simp [wkeys]⟩, ?_⟩
  rintro i W ⟨n, f, rfl, hn, hb, hm, hf1, hnd⟩
  unfold V_mvcc_wrong_l1b
  refine ⟨fun hlt => ?_, fun hlt => ?_⟩
  case refine_2 =>
    obtain rfl : n = m.length := by omega
    rw [List.take_length] at hnd
    rw [if_neg (by simp [hnd])] at H
    exact H W hb
  obtain ⟨d, hdn⟩ := getW (l := m) (n := n) (by omega)
  have hwk := wkeys_take hdn
  refine S.idx (hd.bel hb) und_L_api_Write esz_L_api_Write (by omega) (x := d) (by simpa using hdn) fun ad hA => ?_
  refine S.ldA agg_api_Write d rfl hA rfl ?_
  refine S.newW new_api_Write rfl agg_api_Write (cs := d.cells) rfl rfl rfl fun C w3 b3 hX hC => ?_
  refine S.fld fld_api_Write_Key one_string hX.at d.Key rfl ?_
  have hm3 := hm.bel b3
  refine ⟨((f d.Key).getD ⟨⟩, (f d.Key).isSome), w3, hm3.run_lookOk key_str und_map_string_struct zv_s0 d.Key, ?_⟩
  refine S.newW new_s0 rfl agg_s0 (cs := ([] : List Value)) rfl rfl rfl fun C2 w4 b4 _ _ => ?_
  have b04 := (hb.trans b3).trans b4
  refine ⟨fun ht => ?_, fun hfl => ?_⟩
  · have hin := (hf1 d.Key).1 ht
    rw [if_pos (nodup_part (n + 1) (by rw [hwk, nodup_snoc]; exact fun h => h.2 hin))] at H
    exact H w4 b04
  · have hout : d.Key ∉ wkeys (m.take n) := fun h => by rw [(hf1 d.Key).2 h] at hfl; cases hfl
    refine S.fld fld_api_Write_Key one_string (hX.bel b4).at d.Key rfl ?_
    refine ⟨⟨⟩, w4, by kernel_rfl, ?_⟩
    refine S.put (hm3.bel b4) key_str und_map_string_struct d.Key ⟨⟩ fun w5 hm5 hg5 => ?_
    rw [wr64 (by omega) (by omega)]
    refine ⟨⟨n + 1, _, by omega, by omega, b04.grown hg5 (fun q hq => by cases hq; exact hle1), hm5, fun s => ?_, by rw [hwk, nodup_snoc]; exact ⟨hnd, hout⟩⟩, by dsimp only; omega⟩
    rw [hwk]
    by_cases hs : s = d.Key
    · subst hs; rw [upd_same]; simp
    · rw [upd_other _ _ hs, hf1 s]; simp [hs]
theorem containsV_ok {w : World} {x : Sl} {l : List Ver} (hd : VerRd w x l) {t : Int} {B : Nat} (hT : Row w B [.int .u64 t] ty_uint64) {k : Bool → World → Prop} (H : ∀ b w', (b = true ↔ ∃ d ∈ l, t ≤ d.At) → Bel w w' → k b w') :
    Cl Try.prog fn_slices_ContainsFunc_api_Version_api_Version [Sl.v x, .func (.func fn_mvcc_Put_1) [].toArray [(.pointer (some ⟨B, 0, none⟩))].toArray].toArray w (fun e w' => ∃ r0 : Bool, e = .returned (.bool r0) ∧ k r0 w') := by
  have dbig := hd.big; have dcap := hd.cap; have dlen := hd.len
  refine L1_slices_ContainsFunc_api_Version_api_Version x _ w k ?_
  unfold V_slices_ContainsFunc_api_Version_api_Version
  refine L1_slices_IndexFunc_api_Version_api_Version x _ w _ ?_
  unfold V_slices_IndexFunc_api_Version_api_Version
  refine ⟨fun i w1 => ∃ n : Nat, i = (n : Int) ∧ n ≤ l.length ∧ Bel w w1 ∧ ∀ d ∈ l.take n, ¬ t ≤ d.At, fun i _ => (x.len - i).toNat, ⟨0, rfl, by omega, Bel.refl _, by simp⟩, ?_⟩
  rintro i w1 ⟨n, rfl, hn, hb, hno⟩
  unfold V_slices_IndexFunc_api_Version_api_Version_l1b
  refine ⟨fun hc => ?_, fun hc => ?_⟩
  · obtain ⟨d, hdn⟩ := getV (l := l) (n := n) (by omega)
    refine S.idx (hd.bel hb) und_L_api_Version esz_L_api_Version (by omega) (x := d) (by simpa using hdn) fun ad hA => ?_
    refine S.ldA agg_api_Version d rfl hA rfl ?_
    refine .inl ⟨fn_mvcc_Put_1, [], [.pointer (some ⟨B, 0, none⟩)], rfl, ent29, ?_⟩
    refine L1_mvcc_Put_1 d (some ⟨B, 0, none⟩) w1 _ ?_
    unfold V_mvcc_Put_1
    refine S.boxW (cs := d.cells) rfl fun C w2 b2 hX _ => ?_
    refine S.fld fld_api_Version_At one_uint64 hX.at d.At rfl ?_
    refine S.ld1 one_uint64 t ((hT.bel hb).bel b2).cell ?_
    refine ⟨fun ht => ?_, fun hf => ?_⟩
    · dsimp only
      rw [decide_eq_true (p := 0 ≤ (n : Int)) (by omega)]
      exact H true w2 ⟨fun _ => ⟨d, List.mem_of_getElem? hdn, of_decide_eq_true ht⟩, fun _ => rfl⟩ (hb.trans b2)
    · have h1 := of_decide_eq_false hf
      rw [wr64 (by omega) (by omega)]
      refine ⟨⟨n + 1, by omega, by omega, hb.trans b2, fun e he => ?_⟩, by dsimp only; omega⟩
      rw [take_one hdn] at he
      rcases List.mem_append.1 he with h2 | h2
      · exact hno e h2
      · simp at h2; subst h2; exact h1
  · obtain rfl : n = l.length := by omega
    rw [List.take_length] at hno
    refine H _ w1 ⟨fun h => absurd (of_decide_eq_true h) (by omega), fun ⟨d, h1, h2⟩ => absurd h2 (hno d h1)⟩ hb
theorem clone_ok {w : World} {x0 : Sl} {l : List Ver} (h : VerRd w x0 l) (hl : l.length ≤ 2932031007402) {k : Sl → World → Prop} (H : ∀ r w', VerOwn w.heap.size w' r l → Bel w w' → k r w') :
    Cl Try.prog fn_slices_Clone_api_Version_api_Version [Sl.v x0].toArray w (fun e w' => ∃ r0 : Sl, e = .returned (Sl.v r0) ∧ k r0 w') := by
  refine L1_slices_Clone_api_Version_api_Version x0 w k ?_
  unfold V_slices_Clone_api_Version_api_Version
  obtain ⟨a, len, cap⟩ := x0
  cases a with
  | none =>
    have hcap := h.nilc rfl; have h1 := h.cap; have h2 := h.len
    have hl0 : l = [] := List.eq_nil_of_length_eq_zero (by simp at hcap h1 h2; omega)
    refine ⟨true, w, by kernel_rfl, fun _ => ?_, fun h => (nomatch h)⟩
    subst hl0
    exact H _ _ (OwnS.nil _ _ _ _ _) (Bel.refl _)
  | some a =>
    refine ⟨false, w, by kernel_rfl, fun h => (nomatch h), fun _ => ?_⟩
    refine ⟨_, _, bs0_L_api_Version w, ?_⟩
    exact ver_app (w0 := w) (OwnS.lit0 (Nat.le_refl _)) (h.bel (Bel.alloc _ _)) (Bel.alloc _ _) (Nat.le_refl _) (by rw [size_alloc']; omega) (by simpa using hl) fun s' w' h1 h2 _ => H s' w' (by simpa using h1) h2
/-- One more version is put to a struct's list, wherever the struct lies. -/
theorem push2_ok {base : Nat} {w0 W : World} {B C : Nat} {sl : Sl} {low : Int} {l : List Ver} {x : Ver} (hR : Row W B [Sl.v sl, .int .u64 low] ty_api_Versions) (hO : VerOwn base W sl l) (hX : At W ⟨C, 0, none⟩ x.cells) (hb : Bel w0 W) (h0 : w0.heap.size ≤ base) (hbw : base ≤ W.heap.size) (hB0 : w0.heap.size ≤ B) (room : l.length + 1 ≤ 2932031007402)
    {k : World → Prop} (H : ∀ s' W', Row W' B [Sl.v s', .int .u64 low] ty_api_Versions → VerOwn base W' s' (l ++ [x]) → Bel w0 W' → W.heap.size ≤ W'.heap.size → k W') :
    opE Try.prog Value.pointer (Instr.fieldAt ty_api_Versions (.pointer (some ⟨B, 0, none⟩)) 0) W (fun p w => opE Try.prog Sl.v (Instr.loadAt ty_L_api_Version (.pointer p)) w (fun s w => opE Try.prog T_api_Version.v (Instr.loadAt ty_api_Version (.pointer (some ⟨C, 0, none⟩))) w (fun v w =>
      opE Try.prog Sl.v (Instr.buildSlice ty_L_api_Version 1 [(0, T_api_Version.v v)].toArray) w (fun y w => opE Try.prog Sl.v (Builtin.append_ #[ty_L_api_Version, ty_L_api_Version] ty_L_api_Version [Sl.v s, Sl.v y].toArray) w (fun s' w =>
      opE Try.prog Value.pointer (Instr.fieldAt ty_api_Versions (.pointer (some ⟨B, 0, none⟩)) 0) w (fun p w => opU Try.prog (Instr.storeAt ty_L_api_Version (.pointer p) (Sl.v s')) w k)))))) := by
  refine S.fld fld_api_Versions_List one_L_api_Version hR.at sl rfl ?_
  refine S.ldA agg_api_Version x rfl hX rfl ?_
  refine ver_app1 (w0 := w0) hO hb h0 hbw room fun s' W3 h1 h2 h3 => ?_
  have hR3 := hR.grown h3 (OwnS.ne_row hO hR (by decide))
  refine ⟨_, _, fld_api_Versions_List _ W3, ?_⟩
  refine S.st1 one_L_api_Version (off := 0) hR3 rfl (by simp) rfl fun W4 h4 h5 => ?_
  refine H s' W4 (by simpa using h4) (h1.kept h5 (.inr (OwnS.ne_row h1 hR3 (by decide)))) (h2.grown h5 fun r hr => by cases hr; exact hB0) (Nat.le_trans h3.size h5.size)
end Go.Proofs.Ytealcoghiaeiiaa.VG
