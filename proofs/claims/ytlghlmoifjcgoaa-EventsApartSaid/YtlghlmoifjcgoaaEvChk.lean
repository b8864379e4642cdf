/- The program's check of events answers as the document's; no condition. -/
import Derived.Test.YtlghlmoifjcgoaaEvRefD
import Derived.Test.YtlghlmoifjcgoaaVMap
import Derived.Test.YtlghlmoifjcgoaaVGe
set_option linter.unusedVariables false
namespace Go.Proofs.Ytlghlmoifjcgoaa.VG
open Go.VB Go.Proofs

theorem und_many : Try.prog.underlying 54 = some (.map 9 3) := Try.underlying54
theorem und_seen : Try.prog.underlying 55 = some (.map 57 3) := Try.underlying55
theorem key_str : KeyOk Try.prog 9 Value.string := KeyOk.string (by kernel_rfl)
theorem key_mark : KeyOk Try.prog 57 T_events_mark.v := by
  have hF := Try.underlying57
  refine KeyOk.struct hF (fun b x w => by kernel_rfl) (fun x y w => eqA_events_mark x y 9996 w) (fun x => ?_) (fun x y h => ?_)
  · simp [T_events_mark.cells, Instr.sameBits, beqBA]
  · cases x; cases y
    simp [T_events_mark.v, T_events_mark.cells] at h
    simp [h]
/-- How often a stream and a mark stand together. -/
def cnt2 (l : List Ev) (m : T_events_mark) : Nat := (l.filter fun e => decide (e.Stream = m.stream) && decide (e.Mark = m.mark)).length
open Classical in
theorem cnt2_succ {l : List Ev} {n : Nat} {e : Ev} (he : l[n]? = some e) (m : T_events_mark) : cnt2 (l.take (n + 1)) m = cnt2 (l.take n) m + (if m = ⟨e.Stream, e.Mark⟩ then 1 else 0) := by
  unfold cnt2
  rw [List.take_add_one, he, Option.toList_some, List.filter_append, List.length_append]
  congr 1
  cases m with
  | mk a b =>
    by_cases h1 : e.Stream = a <;> by_cases h2 : e.Mark = b
    · simp [h1, h2]
    · have : ¬ b = e.Mark := fun h => h2 h.symm
      simp [h1, h2, this]
    · have : ¬ a = e.Stream := fun h => h1 h.symm
      simp [h1, h2, this]
    · have : ¬ a = e.Stream := fun h => h1 h.symm
      simp [h1, h2, this]
theorem cnt2_pos {l : List Ev} {m : T_events_mark} : 0 < cnt2 l m ↔ ∃ x ∈ l, x.Stream = m.stream ∧ x.Mark = m.mark := by
  unfold cnt2
  rw [List.length_pos_iff_exists_mem]
  constructor
  · rintro ⟨x, hx⟩
    rw [List.mem_filter] at hx
    exact ⟨x, hx.1, by simpa using hx.2⟩
  · rintro ⟨x, hx, h1, h2⟩
    exact ⟨x, List.mem_filter.2 ⟨hx, by simp [h1, h2]⟩⟩
theorem cnt2_le (l : List Ev) (m : T_events_mark) : cnt2 l m ≤ l.length := List.length_filter_le _ _

theorem echeck_ok {w : World} {x0 : Sl} {l : List Ev} (h : EvRd w x0 l) {k : Int → World → Prop} (H : ∀ w', Bel w w' → k (chk l) w') :
    Cl Try.prog fn_events_Check [Sl.v x0].toArray w (fun e w' => ∃ r0 : Int, e = .returned (.int .i64 r0) ∧ k r0 w') := by
  refine L1_events_Check x0 w k ?_
  have hbig := h.big; have hcap := h.cap; have hlen := h.len
  have bad : ∀ w', Bel w w' → ¬ Good l → k 2 w' := fun w' hb hn => by rw [← chk_bad hn]; exact H w' hb
  unfold V_events_Check
  refine ⟨fun hc => bad w (Bel.refl _) (fun hg => by have := hg.1; omega), fun hc => ?_⟩
  refine S.make (ek := Value.string) (ev := Value.int .i64) fun hM1 => ?_
  have hb1 : Bel w (w.alloc (.map #[] 0)) := Bel.alloc _ _
  have hlt1 := hM1.lt
  have hle1 : w.heap.size ≤ w.heap.size := Nat.le_refl _
  generalize hB1 : w.heap.size = b1 at hM1 hlt1 hle1 ⊢
  generalize (w.alloc (.map #[] 0)) = w1 at hM1 hb1 hlt1 ⊢
  refine S.make (ek := T_events_mark.v) (ev := Value.int .i64) fun hM2 => ?_
  have hb2 : Bel w (w1.alloc (.map #[] 0)) := hb1.trans (Bel.alloc _ _)
  have hM1' := hM1.bel (Bel.alloc w1 (.map #[] 0))
  have hle2 : w1.heap.size ≤ w1.heap.size := Nat.le_refl _
  generalize hB2 : w1.heap.size = b2 at hM2 hlt1 hle2 ⊢
  generalize (w1.alloc (.map #[] 0)) = w2 at hM2 hM1' hb2 ⊢
  have hlt2 := hM2.lt
  have hwb1 : w.heap.size ≤ b1 := by omega
  have hwb2 : w.heap.size ≤ b2 := by omega
  refine ⟨fun x w3 => ∃ (n : Nat) (f1 : ByteArray → Option Int) (f2 : T_events_mark → Option Int), x = (n : Int) ∧ n ≤ l.length ∧ Bel w w3 ∧ GoodTo l n ∧ b2 < w3.heap.size ∧
    MapIs Value.string (Value.int .i64) w3 b1 f1 ∧ (∀ s, (f1 s).getD 0 = (cnt (l.take n) s : Int)) ∧ MapIs T_events_mark.v (Value.int .i64) w3 b2 f2 ∧ (∀ m, (f2 m).getD 0 = (cnt2 (l.take n) m : Int)), fun x _ => (x0.len - x).toNat, ?_, ?_⟩
  · exact ⟨0, _, _, rfl, by omega, hb2, GoodTo.zero l, hlt2, hM1', fun s => by simp [cnt, ofS], hM2, fun m => by simp [cnt2]⟩
  rintro x w3 ⟨n, f1, f2, rfl, hn, hb3, hg, hsz3, hf1, he1, hf2, he2⟩
  unfold V_events_Check_l1b
  refine ⟨fun hc => ?_, fun hc => ?_⟩
  rotate_left
  · have hG : Good l := ⟨by omega, by rw [show l.length = n from by omega]; exact hg⟩
    rw [← chk_good hG]
    exact H w3 hb3
  obtain ⟨e, he⟩ := getL (l := l) (i := (n : Int)) (by omega) (by omega)
  have he' : l[n]? = some e := by simpa using he
  have badAt : ∀ w', Bel w w' → ¬ GoodAt (l.take n) n e → k 2 w' := fun w' hb hn => bad w' hb fun hG => hn (hG.2 n e (by omega) he')
  refine S.idx (h.bel hb3) und_L_api_Event esz_L_api_Event (by omega) he fun ad hA => ?_
  refine S.ldA agg_api_Event e rfl hA rfl ?_
  refine S.new new_api_Event rfl agg_api_Event (cs := e.cells) rfl rfl rfl ?_
  have hbox := At.new w3 e.cells ty_api_Event
  have hb34 : Bel w3 (w3.alloc (.cells e.cells.toArray ty_api_Event)) := Bel.alloc _ _
  have hBne1 : b1 ≠ w3.heap.size := by omega
  have hBne2 : b2 ≠ w3.heap.size := by omega
  generalize w3.heap.size = B at hbox hBne1 hBne2 ⊢
  generalize (w3.alloc (.cells e.cells.toArray ty_api_Event)) = w4 at hbox hb34 ⊢
  have hb4 := hb3.trans hb34
  have hf1' := hf1.bel hb34
  have hf2' := hf2.bel hb34
  have hsz4 : b2 < w4.heap.size := Nat.lt_of_lt_of_le hsz3 hb34.le
  refine S.fld fld_api_Event_Stream one_string hbox e.Stream rfl ?_
  refine S.look hf1' key_str und_many zv_int e.Stream ?_
  rw [he1 e.Stream]
  have hcl := cnt_le (l.take n) e.Stream
  have htl : (l.take n).length ≤ n := List.length_take_le _ _
  rw [wr64 (by omega) (by omega)]
  refine S.put hf1' key_str und_many e.Stream ((cnt (l.take n) e.Stream : Int) + 1) fun w5 hf15 hg5 => ?_
  have hb5 : Bel w w5 := hb4.grown hg5 (fun k hk => by cases hk; exact hwb1)
  have hbox5 := hbox.grown hg5 (fun h => hBne1 (Option.some.inj h))
  have hf25 := hf2'.grown hg5 (fun h => absurd (Option.some.inj h) (by omega))
  have hsz5 : b2 < w5.heap.size := Nat.lt_of_lt_of_le hsz4 hg5.size
  have he15 : ∀ s, ((upd f1 e.Stream ((cnt (l.take n) e.Stream : Int) + 1)) s).getD 0 = (cnt (l.take (n + 1)) s : Int) := fun s => by
    rw [cnt_succ he']
    by_cases hs : s = e.Stream
    · subst hs; rw [upd_same]; simp
    · rw [upd_other _ _ hs, if_neg (fun h => hs h.symm), he1]; simp
  refine S.fld fld_api_Event_Stream one_string hbox5 e.Stream rfl ?_
  refine S.fld fld_api_Event_Mark one_string hbox5 e.Mark rfl ?_
  refine ⟨⟨e.Stream, e.Mark⟩, w5, by kernel_rfl, ?_⟩
  refine S.new new_events_mark rfl agg_events_mark (cs := T_events_mark.cells ⟨e.Stream, e.Mark⟩) rfl rfl rfl ?_
  have hbm := At.new w5 (T_events_mark.cells ⟨e.Stream, e.Mark⟩) ty_events_mark
  have hb56 : Bel w5 (w5.alloc (.cells (T_events_mark.cells ⟨e.Stream, e.Mark⟩).toArray ty_events_mark)) := Bel.alloc _ _
  have hMne2 : b2 ≠ w5.heap.size := by omega
  generalize w5.heap.size = M at hbm hMne2 ⊢
  generalize (w5.alloc (.cells (T_events_mark.cells ⟨e.Stream, e.Mark⟩).toArray ty_events_mark)) = w6 at hbm hb56 ⊢
  have hb6 := hb5.trans hb56
  have hbox6 := hbox5.bel hb56
  have hf16 := hf15.bel hb56
  have hf26 := hf25.bel hb56
  have hsz6 : b2 < w6.heap.size := Nat.lt_of_lt_of_le hsz5 hb56.le
  refine S.fld fld_api_Event_Global one_int hbox6 e.Global rfl ?_
  rw [wr64 (by omega) (by omega)]
  generalize hK : (fun (x15' : Int) (w' : World) => (∃ (n : Nat) (f1 : ByteArray → Option Int) (f2 : T_events_mark → Option Int), x15' = (n : Int) ∧ n ≤ l.length ∧ Bel w w' ∧ GoodTo l n ∧ b2 < w'.heap.size ∧
    MapIs Value.string (Value.int .i64) w' b1 f1 ∧ (∀ s, (f1 s).getD 0 = (cnt (l.take n) s : Int)) ∧ MapIs T_events_mark.v (Value.int .i64) w' b2 f2 ∧ (∀ m, (f2 m).getD 0 = (cnt2 (l.take n) m : Int))) ∧ (x0.len - x15').toNat < (x0.len - (n : Int)).toNat) = Kl
  have r7t : ∀ w', Bel w w' → ¬ GoodAt (l.take n) n e → V_events_Check_r7 k (some b2) n Kl (some ⟨M, 0, none⟩) true w' := fun w' hb hng => ⟨fun _ => badAt w' hb hng, fun h => (nomatch h)⟩
  have r6t : ¬ GoodAt (l.take n) n e → V_events_Check_r6 k (some b2) n Kl (some ⟨B, 0, none⟩) (some ⟨M, 0, none⟩) true w6 := fun hng => ⟨fun _ => r7t w6 hb6 hng, fun h => (nomatch h)⟩
  have r5t : ¬ GoodAt (l.take n) n e → V_events_Check_r5 k (some b2) n Kl (some ⟨B, 0, none⟩) (some ⟨M, 0, none⟩) true w6 := fun hng => ⟨fun _ => r6t hng, fun h => (nomatch h)⟩
  have r4t : ¬ GoodAt (l.take n) n e → V_events_Check_r4 k (some b2) n Kl (some ⟨B, 0, none⟩) (some ⟨M, 0, none⟩) true w6 := fun hng => ⟨fun _ => r5t hng, fun h => (nomatch h)⟩
  have r3t : ¬ GoodAt (l.take n) n e → V_events_Check_r3 k (some b2) n Kl (some ⟨B, 0, none⟩) (some ⟨M, 0, none⟩) true w6 := fun hng => ⟨fun _ => r4t hng, fun h => (nomatch h)⟩
  have r2t : ¬ GoodAt (l.take n) n e → V_events_Check_r2 k (some b2) n Kl (some ⟨B, 0, none⟩) (some ⟨M, 0, none⟩) true w6 := fun hng => ⟨fun _ => r3t hng, fun h => (nomatch h)⟩
  refine ⟨fun hgl => r2t (fun hG => hgl hG.glob), fun hgl => ?_⟩
  have hgl' : e.Global = (n : Int) + 1 := Classical.not_not.1 hgl
  refine S.fld fld_api_Event_Num one_int hbox6 e.Num rfl ?_
  refine S.fld fld_api_Event_Stream one_string hbox6 e.Stream rfl ?_
  refine S.look hf16 key_str und_many zv_int e.Stream ?_
  rw [upd_same]
  simp only [Option.getD_some]
  by_cases hnum : e.Num = (cnt (l.take n) e.Stream : Int) + 1
  case neg => rw [decide_eq_true (p := e.Num ≠ _) hnum]; exact r2t (fun hG => hnum hG.num)
  rw [decide_eq_false (p := e.Num ≠ _) (fun h => h hnum)]
  refine ⟨fun h => (nomatch h), fun _ => ?_⟩
  refine S.fld fld_api_Event_Stream one_string hbox6 e.Stream rfl ?_
  by_cases hstr : e.Stream = noB
  case pos => rw [decide_eq_true (p := e.Stream = _) hstr]; exact r3t (fun hG => hG.str hstr)
  rw [decide_eq_false (p := e.Stream = _) hstr]
  refine ⟨fun h => (nomatch h), fun _ => ?_⟩
  refine S.fld fld_api_Event_Stream one_string hbox6 e.Stream rfl ?_
  refine long_ok _ _ ?_
  by_cases hsl : 1024 < (e.Stream.size : Int)
  case pos => rw [decide_eq_true hsl]; exact r4t (fun hG => by have := hG.strl; omega)
  rw [decide_eq_false hsl]
  refine ⟨fun h => (nomatch h), fun _ => ?_⟩
  refine S.fld fld_api_Event_Mark one_string hbox6 e.Mark rfl ?_
  refine long_ok _ _ ?_
  by_cases hml : 1024 < (e.Mark.size : Int)
  case pos => rw [decide_eq_true hml]; exact r5t (fun hG => by have := hG.markl; omega)
  rw [decide_eq_false hml]
  refine ⟨fun h => (nomatch h), fun _ => ?_⟩
  refine S.fld fld_api_Event_Data one_string hbox6 e.Data rfl ?_
  refine long_ok _ _ ?_
  by_cases hdl : 1024 < (e.Data.size : Int)
  case pos => rw [decide_eq_true hdl]; exact r6t (fun hG => by have := hG.datal; omega)
  rw [decide_eq_false hdl]
  refine ⟨fun h => (nomatch h), fun _ => ?_⟩
  refine S.fld fld_api_Event_Mark one_string hbox6 e.Mark rfl ?_
  have r7 : ∀ b : Bool, (b = true → ¬ GoodAt (l.take n) n e) → (b = false → GoodAt (l.take n) n e) → V_events_Check_r7 k (some b2) n Kl (some ⟨M, 0, none⟩) b w6 := by
    intro b ht hf
    refine ⟨fun hb => badAt w6 hb6 (ht hb), fun hb => ?_⟩
    intro w7 hb67
    have hf17 := hf16.bel hb67
    have hf27 := hf26.bel hb67
    have hb7 := hb6.trans hb67
    have hsz7 : b2 < w7.heap.size := Nat.lt_of_lt_of_le hsz6 hb67.le
    have hGA := hf hb
    have hcl2 := cnt2_le (l.take n) ⟨e.Stream, e.Mark⟩
    have fin : ∀ w9, Bel w w9 → b2 < w9.heap.size → MapIs Value.string (Value.int .i64) w9 b1 (upd f1 e.Stream ((cnt (l.take n) e.Stream : Int) + 1)) →
        MapIs T_events_mark.v (Value.int .i64) w9 b2 (upd f2 ⟨e.Stream, e.Mark⟩ ((cnt2 (l.take n) ⟨e.Stream, e.Mark⟩ : Int) + 1)) → Kl (IntKind.wrap .i64 ((n : Int) + 1)) w9 := by
      intro w9 h1 h2 h3 h4
      rw [wr64 (by omega) (by omega), ← hK]
      refine ⟨⟨n + 1, _, _, by omega, by omega, h1, hg.succ he' hGA, h2, h3, he15, h4, fun m => ?_⟩, by omega⟩
      rw [cnt2_succ he']
      by_cases hm : m = ⟨e.Stream, e.Mark⟩
      · subst hm; rw [upd_same]; simp
      · rw [upd_other _ _ hm, if_neg hm, he2]; simp
    refine S.ldA agg_events_mark ⟨e.Stream, e.Mark⟩ rfl (hbm.bel hb67) rfl ?_
    refine ⟨?_, ?_⟩
    · refine S.look hf27 key_mark und_seen zv_int (⟨e.Stream, e.Mark⟩ : T_events_mark) ?_
      refine S.entry hf27 key_mark und_seen zv_int (⟨e.Stream, e.Mark⟩ : T_events_mark) fun born w8 hg8 hf28 hst => ?_
      rw [he2, wr64 (by omega) (by omega)]
      refine hst _ _ fun w9 hf29 hg9 => ?_
      refine fin w9 ((hb7.grown hg8 (fun k hk => by cases hk; exact hwb2)).grown hg9 (fun k hk => by cases hk; exact hwb2)) (Nat.lt_of_lt_of_le (Nat.lt_of_lt_of_le hsz7 hg8.size) hg9.size)
        ((hf17.grown hg8 (fun h => absurd (Option.some.inj h) (by omega))).grown hg9 (fun h => absurd (Option.some.inj h) (by omega))) hf29
    · refine S.entry hf27 key_mark und_seen zv_int (⟨e.Stream, e.Mark⟩ : T_events_mark) fun born w8 hg8 hf28 hst => ?_
      refine S.look hf28 key_mark und_seen zv_int (⟨e.Stream, e.Mark⟩ : T_events_mark) ?_
      rw [upd_same, Option.getD_some, he2, wr64 (by omega) (by omega)]
      refine hst _ _ fun w9 hf29 hg9 => ?_
      refine fin w9 ((hb7.grown hg8 (fun k hk => by cases hk; exact hwb2)).grown hg9 (fun k hk => by cases hk; exact hwb2)) (Nat.lt_of_lt_of_le (Nat.lt_of_lt_of_le hsz7 hg8.size) hg9.size)
        ((hf17.grown hg8 (fun h => absurd (Option.some.inj h) (by omega))).grown hg9 (fun h => absurd (Option.some.inj h) (by omega))) hf29
  have hGA : (∀ x ∈ l.take n, x.Stream = e.Stream → e.Mark ≠ noB → x.Mark ≠ e.Mark) → GoodAt (l.take n) n e := fun hq => ⟨hgl', hnum, hstr, by omega, by omega, by omega, fun h1 x h2 h3 => hq x h2 h3 h1⟩
  unfold V_events_Check_r8
  refine ⟨fun hm => ?_, fun hm => ?_⟩
  · refine S.ldA agg_events_mark ⟨e.Stream, e.Mark⟩ rfl hbm rfl ?_
    refine S.look hf26 key_mark und_seen zv_int (⟨e.Stream, e.Mark⟩ : T_events_mark) ?_
    rw [he2]
    refine r7 _ (fun hd hG => ?_) (fun hd => hGA fun x hx h1 h2 h3 => ?_)
    · have := of_decide_eq_true hd
      obtain ⟨x, hx, h1, h2⟩ := cnt2_pos.1 (show 0 < cnt2 (l.take n) ⟨e.Stream, e.Mark⟩ by omega)
      exact hG.mark hm x hx h1 h2
    · have h4 := of_decide_eq_false hd
      exact h4 (by have := (cnt2_pos (m := ⟨e.Stream, e.Mark⟩)).2 ⟨x, hx, h1, h3⟩; omega)
  · exact r7 false (fun h => (nomatch h)) (fun _ => hGA fun x hx h1 h2 => absurd h2 hm)
end Go.Proofs.Ytlghlmoifjcgoaa.VG
