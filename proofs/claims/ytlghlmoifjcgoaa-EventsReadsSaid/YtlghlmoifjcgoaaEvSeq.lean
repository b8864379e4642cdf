/- The program's iterator over a stream's events, what is collected of it, where a mark is; no condition. -/
import Derived.RangeFuncBound
import Derived.Test.YtlghlmoifjcgoaaEvChk
import Derived.Test.YtlghlmoifjcgoaaVCell
set_option linter.unusedVariables false
namespace Go.Proofs.Ytlghlmoifjcgoaa.VG
open Go.VB Go.Proofs Go.RowKit

theorem ofS_split (l : List Ev) (n : Nat) (s : ByteArray) : ofS (l.take n) s ++ ofS (l.drop n) s = ofS l s := by
  unfold ofS; rw [← List.filter_append, List.take_append_drop]
abbrev encEv (x : Ev) : List Value := [T_api_Event.v x]
abbrev OfSeq (l : List Ev) (s : ByteArray) (v : Value) (n0 : Nat) (w : World) : Prop := SeqAt Try.prog v encEv (Below n0) (fun xs => xs = ofS l s) (fun pre => ∃ r, pre ++ r = ofS l s) l.length w

theorem of1_ok {w : World} {x0 : Sl} {l : List Ev} (h : EvRd w x0 l) {s : ByteArray} {b1 b2 : Nat} (h1 : Row w b1 [Sl.v x0] ty_L_api_Event) (h2 : Row w b2 [.string s] ty_string) :
    SeqStopsK (FW none) 0 Try.prog fn_events_of_1 [.pointer (some ⟨b1, 0, none⟩), .pointer (some ⟨b2, 0, none⟩)].toArray (fun x => (encEv x).toArray) (Below w.heap.size) (fun xs => xs = ofS l s) (fun pre => ∃ r, pre ++ r = ofS l s) l.length w := by
  intro l' J Jx W hW hJ hJx hY h0
  have hbig := h.big; have hcap := h.cap; have hlen := h.len
  have C := L1_events_of_1 (.func (.yield l') #[] #[]) (some ⟨b1, 0, none⟩) (some ⟨b2, 0, none⟩) W (fun w' => (∃ xs, xs = ofS l s ∧ J xs w') ∨ (∃ pre, (∃ r, pre ++ r = ofS l s) ∧ Jx pre w')) ?_
  · exact CallsIn.mono C fun e w' hr => ⟨⟨_, hr.1⟩, hr.2⟩
  unfold V_events_of_1
  refine S.ld1 one_L_api_Event x0 (h1.bel hW).cell ?_
  refine ⟨fun x w1 => ∃ n : Nat, x = (n : Int) ∧ n ≤ l.length ∧ Bel w w1 ∧ J (ofS (l.take n) s) w1, fun x _ => (x0.len - x).toNat, ?_, ?_⟩
  · exact ⟨0, rfl, by omega, hW, h0⟩
  rintro x w1 ⟨n, rfl, hn, hb, hj⟩
  unfold V_events_of_1_l1b
  refine ⟨fun hc => ?_, fun hc => ?_⟩
  · obtain ⟨e, he⟩ := getL (l := l) (i := (n : Int)) (by omega) (by omega)
    have he' : l[n]? = some e := by simpa using he
    have hs := ofS_take_succ he' s
    refine S.idx (h.bel hb) und_L_api_Event esz_L_api_Event (by omega) he fun ad hA => ?_
    refine S.ldA agg_api_Event e rfl hA rfl ?_
    refine S.new new_api_Event rfl agg_api_Event (cs := e.cells) rfl rfl rfl ?_
    have hbox := At.new w1 e.cells ty_api_Event
    have hb1 : Bel w1 (w1.alloc (.cells e.cells.toArray ty_api_Event)) := Bel.alloc _ _
    have hj1 := hJ _ _ _ none hj (World.grownBy_alloc w1 (.cells e.cells.toArray ty_api_Event) none) (fun r e => by cases e)
    generalize w1.heap.size = B at hbox ⊢
    generalize (w1.alloc (.cells e.cells.toArray ty_api_Event)) = w2 at hbox hb1 hj1 ⊢
    refine S.fld fld_api_Event_Stream one_string hbox e.Stream rfl ?_
    refine S.ld1 one_string s (h2.bel (hb.trans hb1)).cell ?_
    have fin : ∀ w3, Bel w2 w3 → J (ofS (l.take (n + 1)) s) w3 → (fun (x8' : Int) (w' : World) => (∃ n : Nat, x8' = (n : Int) ∧ n ≤ l.length ∧ Bel w w' ∧ J (ofS (l.take n) s) w') ∧ (x0.len - x8').toNat < (x0.len - (n : Int)).toNat) (IntKind.wrap .i64 ((n : Int) + 1)) w3 := by
      intro w3 hb3 hj3
      rw [wr64 (by omega) (by omega)]
      exact ⟨⟨n + 1, by omega, by omega, (hb.trans hb1).trans hb3, hj3⟩, by omega⟩
    refine ⟨fun hq => ?_, fun hq => ?_⟩
    · rw [if_pos hq] at hs
      refine S.ldA agg_api_Event e rfl hbox rfl ?_
      have hcl : (ofS (l.take n) s).length < l.length := by
        have h3 : (ofS (l.take n) s).length ≤ (l.take n).length := List.length_filter_le _ _
        rw [List.length_take] at h3
        omega
      refine .inr ⟨l', rfl, YieldAt.mono (hY _ e w2 hj1 hcl) fun e' w3 hr => ?_⟩
      rcases hr with ⟨rfl, hj3, hk⟩ | ⟨rfl, hj3⟩
      · refine ⟨true, rfl, fun h => (nomatch h), fun _ => ?_⟩
        have hk' : Below w.heap.size w2 w3 := hk
        rw [wr64 (by omega) (by omega)]
        exact ⟨⟨n + 1, by omega, by omega, Below.trans (hb.trans hb1) hk', by rw [hs]; exact hj3⟩, by dsimp only; omega⟩
      · refine ⟨false, rfl, fun _ => .inr ⟨_, ⟨ofS (l.drop (n + 1)) s, ?_⟩, hj3⟩, fun h => (nomatch h)⟩
        rw [← hs, ofS_split]
    · rw [if_neg hq, List.append_nil] at hs
      exact ⟨fun h => (nomatch h), fun _ => fin w2 (Bel.refl _) (by rw [hs]; exact hj1)⟩
  · obtain rfl : n = l.length := by omega
    rw [List.take_length] at hj
    exact .inl ⟨_, rfl, hj⟩
theorem of_fn_ok {w : World} {x0 : Sl} {l : List Ev} (h : EvRd w x0 l) (s : ByteArray) {k : Value → World → Prop} (H : ∀ v w', OfSeq l s v w'.heap.size w' → Bel w w' → k v w') :
    Cl Try.prog fn_events_of [Sl.v x0, .string s].toArray w (fun e w' => ∃ v : Value, e = .returned v ∧ k v w') := by
  refine L1_events_of x0 s w k ?_
  unfold V_events_of
  refine S.box rfl ?_
  refine S.box rfl ?_
  have hr1 := (Row.new w [Sl.v x0] ty_L_api_Event).bel (Bel.alloc _ (.cells [.string s].toArray ty_string))
  have hr2 := Row.new (w.alloc (.cells [Sl.v x0].toArray ty_L_api_Event)) [.string s] ty_string
  have hb : Bel w ((w.alloc (.cells [Sl.v x0].toArray ty_L_api_Event)).alloc (.cells [.string s].toArray ty_string)) := (Bel.alloc _ _).trans (Bel.alloc _ _)
  exact H _ _ ⟨fn_events_of_1, _, rfl, ent38, of1_ok (h.bel hb) hr1 hr2⟩ hb

/-- What an iterator over events gives is collected. -/
theorem collect_ok {v : Value} {Sq Sp : List Ev → Prop} {Num n0 : Nat} {w : World} (hs : SeqAt Try.prog v encEv (Below n0) Sq Sp Num w) (hn : n0 ≤ w.heap.size) (hN : Num ≤ 2199023255552) {k : Sl → World → Prop}
    (H : ∀ r w' xs, Sq xs → EvRd w' r xs → Bel w w' → k r w') : Cl Try.prog fn_slices_Collect_api_Event [v].toArray w (fun e w' => ∃ r0 : Sl, e = .returned (Sl.v r0) ∧ k r0 w') := by
  refine L1_slices_Collect_api_Event v w k ?_
  unfold V_slices_Collect_api_Event
  refine L1_slices_AppendSeq_api_Event_api_Event Sl.none v w k ?_
  unfold V_slices_AppendSeq_api_Event_api_Event
  refine S.box rfl ?_
  have hb0 : Bel w (w.alloc (.cells [Sl.v Sl.none].toArray ty_L_api_Event)) := Bel.alloc _ _
  have hr0 := Row.new w [Sl.v Sl.none] ty_L_api_Event
  have hsz : (w.alloc (.cells [Sl.v Sl.none].toArray ty_L_api_Event)).heap.size = w.heap.size + 1 := size_alloc' _ _
  generalize hB : w.heap.size = B at hr0 hsz ⊢
  generalize (w.alloc (.cells [Sl.v Sl.none].toArray ty_L_api_Event)) = w1 at hb0 hr0 hsz ⊢
  refine ⟨T_api_Event.cells, Below n0, Sq, Sp, Num, fun pre W => ∃ sl, Row W B [Sl.v sl] ty_L_api_Event ∧ EvOwn w1.heap.size W sl pre ∧ Bel w W ∧ w1.heap.size ≤ W.heap.size, fun _ _ => False,
    RangeOk.of (hs.later hb0) (by omega) (fun s W W' row hi hg hr => ?_) (fun s W W' row hi hg hr => hi) (fun pre W hi => hi.elim fun _ h => h.2.2.2) ⟨Sl.none, hr0, OwnS.nil _ _ _ _ _, hb0, Nat.le_refl _⟩,
    fun x W k hk => S.new new_api_Event rfl agg_api_Event (cs := x.cells) rfl rfl rfl hk, ?_, ?_, ?_⟩
  · obtain ⟨sl, h1, h2, h3, h4⟩ := hi
    exact ⟨sl, h1.notwalk hg hr, h2.notwalk hg hr, h3.notwalk (by omega) hg hr, Nat.le_trans h4 hg.size⟩
  · rintro pre x Bx W hBx hx ⟨sl, h1, h2, h3, h4⟩ hlen
    unfold V_slices_AppendSeq_api_Event_api_Event_f1b
    have hx' : Row W Bx x.cells ty_api_Event := hx
    refine S.ld1 one_L_api_Event sl h1.cell ?_
    refine S.ldA agg_api_Event x rfl hx'.at rfl ?_
    refine ev_app1 (w0 := w) (w := W) h2 h3 (by omega) h4 (by omega) fun s' w' h5 h6 h7 => ?_
    have hne : (Sl.v sl).ownBlock ≠ some B := fun e => by have := h2.lo e; omega
    have hr1 := h1.grown h7 hne
    refine S.st0 one_L_api_Event hr1 rfl rfl fun w'' hr2 hg2 => ?_
    refine ⟨(KeepsFrom.row h7 fun r hr => h2.isRow hr).trans (KeepsFrom.row hg2 fun r hr => by cases hr; exact ⟨_, _, _, hr1⟩), ?_, s', hr2, h5.kept hg2 ?_, ?_, Nat.le_trans h4 (Nat.le_trans h7.size hg2.size)⟩
    · exact (Bw.row h7 (by omega) fun r hr => by have := h2.lo hr; omega).trans (Bw.row hg2 (Nat.le_trans (by omega) h7.size) fun r hr => by cases hr; omega)
    · cases hq : (Sl.v s').ownBlock with
      | none => exact .inl rfl
      | some q =>
        refine .inr fun e => ?_
        have h8 := h5.lo hq
        have h9 := Option.some.inj e
        omega
    · exact h6.grown hg2 fun r hr => by cases hr; omega
  · rintro D xs W hD hS ⟨sl, h1, h2, h3, h4⟩ hK
    refine S.ld1 one_L_api_Event sl h1.cell ?_
    refine ⟨hK, ?_⟩
    have hg := shut_grown W D
    have hr : ∀ r, some D = some r → w1.heap.size ≤ r ∧ ∃ o : Obj, W.heap[r]? = some o ∧ o.isCells = false := fun r e => by cases e; exact ⟨hD, _, hK, rfl⟩
    exact H sl _ xs hS (EvOwn.rd (h2.notwalk hg hr)) (h3.notwalk (by omega) hg hr)
  · exact fun D pre W h1 h2 h3 h4 => trivial

theorem mkF_first {m p r : List Ev} {x : Ev} {mark : ByteArray} (h : p ++ [x] ++ r = m) (hno : ∀ y ∈ p, y.Mark ≠ mark) (hx : x.Mark = mark) : mkF m mark = x.Num := by
  refine mkF_hit (n := p.length) (e := x) (by rw [← h]; simp) (fun j y hj hy => hno y ?_) hx
  rw [← h, List.append_assoc, List.getElem?_append_left hj] at hy
  exact List.mem_of_getElem? hy

theorem emarked_ok {w : World} {x0 : Sl} {l : List Ev} (h : EvRd w x0 l) (s mark : ByteArray) {k : Int → Int → World → Prop}
    (H : ∀ w', Bel w w' → k (if chk l = 0 then mkd l s mark else 0) (chk l) w') :
    Cl Try.prog fn_events_Marked [Sl.v x0, .string s, .string mark].toArray w (fun e w' => ∃ (r0 : Int) (r1 : Int), e = .returned (.tuple [(.int .i64 r0), (.int .i64 r1)].toArray) ∧ k r0 r1 w') := by
  refine L1_events_Marked x0 s mark w k ?_
  have hbig := h.big; have hcap := h.cap; have hlen := h.len
  unfold V_events_Marked
  refine S.box rfl ?_
  have hb1 : Bel w (w.alloc (.cells [Value.string mark].toArray ty_string)) := Bel.alloc _ _
  have hr1 := Row.new w [Value.string mark] ty_string
  generalize hB1 : w.heap.size = B1 at hr1 ⊢
  generalize (w.alloc (.cells [Value.string mark].toArray ty_string)) = w1 at hb1 hr1 ⊢
  refine S.new1 new_int ?_
  have hb2 : Bel w (w1.alloc (.cells zero_int.toArray ty_int)) := hb1.trans (Bel.alloc _ _)
  have hr2 := Row.new w1 zero_int ty_int
  have hr1' := hr1.bel (Bel.alloc w1 (.cells zero_int.toArray ty_int))
  have hlt1 := hr1.lt
  have hle1 := hb1.le
  generalize hB2 : w1.heap.size = B2 at hr2 hlt1 hle1 ⊢
  generalize (w1.alloc (.cells zero_int.toArray ty_int)) = w2 at hb2 hr2 hr1' ⊢
  refine S.new1 new_api_Errno ?_
  have hb3 : Bel w (w2.alloc (.cells zero_api_Errno.toArray ty_api_Errno)) := hb2.trans (Bel.alloc _ _)
  have hr3 := Row.new w2 zero_api_Errno ty_api_Errno
  have hr1'' := hr1'.bel (Bel.alloc w2 (.cells zero_api_Errno.toArray ty_api_Errno))
  have hr2' := hr2.bel (Bel.alloc w2 (.cells zero_api_Errno.toArray ty_api_Errno))
  have hlt2 := hr2.lt
  have hle2 := hb2.le
  generalize hB3 : w2.heap.size = B3 at hr3 hlt2 hle2 ⊢
  generalize (w2.alloc (.cells zero_api_Errno.toArray ty_api_Errno)) = w3 at hb3 hr3 hr1'' hr2' ⊢
  refine echeck_ok (h.bel hb3) fun w4 hb34 => ?_
  have hb4 := hb3.trans hb34
  have m1 := hr1''.bel hb34; have c2 := hr2'.bel hb34; have c3 := hr3.bel hb34
  have hlt3 := c3.lt
  -- the two results are laid
  have fin : ∀ (a b : Int) (W : World), Row W B2 [.int .i64 a] ty_int → Row W B3 [.int .i64 b] ty_api_Errno → k a b W →
      opR Try.prog (Value.int .i64) 3 (some ⟨B2, 0, none⟩) W (fun q => opR Try.prog (Value.int .i64) 24 (some ⟨B3, 0, none⟩) W (fun q_1 => k q q_1 W)) := fun a b W h1 h2 h3 => R.cell one_int a h1 (R.cell one_api_Errno b h2 h3)
  have lay : ∀ (a b u v : Int) (W : World) (K : World → Prop), Row W B2 [.int .i64 u] ty_int → Row W B3 [.int .i64 v] ty_api_Errno →
      (∀ W', Row W' B2 [.int .i64 a] ty_int → Row W' B3 [.int .i64 b] ty_api_Errno → (∀ n0, n0 ≤ B2 → Below n0 W W') → (∀ B, KeepsFrom B W W') → W.heap.size ≤ W'.heap.size → K W') →
      opU Try.prog (Instr.storeAt 3 (.pointer (some ⟨B2, 0, none⟩)) (.int .i64 a)) W (fun W => opU Try.prog (Instr.storeAt 24 (.pointer (some ⟨B3, 0, none⟩)) (.int .i64 b)) W K) := by
    intro a b u v W K h1 h2 hK
    refine S.st0 one_int h1 rfl rfl fun W1 h3 g1 => ?_
    have h2' := h2.grown g1 (fun e => by cases e; omega)
    refine S.st0 one_api_Errno h2' rfl rfl fun W2 h4 g2 => ?_
    have l1 := h1.lt; have l2 := h2.lt
    refine hK W2 (h3.grown g2 (fun e => by cases e; omega)) h4 (fun n0 hn => (Bw.row g1 (by omega) fun r hr => by cases hr; omega).trans (Bw.row g2 (Nat.le_trans (by omega) g1.size) fun r hr => by cases hr; omega)) ?_ (Nat.le_trans g1.size g2.size)
    exact fun B => (KeepsFrom.row g1 fun r hr => by cases hr; exact ⟨_, _, _, h1⟩).trans (KeepsFrom.row g2 fun r hr => by cases hr; exact ⟨_, _, _, h2'⟩)
  refine ⟨fun hc => ?_, fun hc => ?_⟩
  · unfold V_events_Marked_r1
    refine ⟨fun _ => ?_, fun h => (nomatch h)⟩
    refine lay 0 (chk l) 0 0 w4 _ c2 c3 fun W h1 h2 h3 _ _ => fin 0 (chk l) W h1 h2 ?_
    have := H W (hb4.trans_low (h3 w.heap.size (by omega)))
    rw [if_neg hc] at this; exact this
  have hc0 : chk l = 0 := Classical.not_not.1 hc
  have hG := (chk_zero.1 hc0).1
  rw [if_pos hc0, hc0] at H
  rw [hc0]
  refine S.ld1 one_string mark m1.cell ?_
  unfold V_events_Marked_r1
  by_cases hm : mark = noB
  · rw [decide_eq_true (p := mark = _) hm]
    refine ⟨fun _ => ?_, fun h => (nomatch h)⟩
    refine lay 0 0 0 0 w4 _ c2 c3 fun W h1 h2 h3 _ _ => fin 0 0 W h1 h2 ?_
    have := H W (hb4.trans_low (h3 w.heap.size (by omega)))
    unfold mkd at this; rw [if_pos hm] at this; exact this
  rw [decide_eq_false (p := mark = _) hm]
  refine ⟨fun h => (nomatch h), fun _ => ?_⟩
  unfold mkd at H; rw [if_neg hm] at H
  refine of_fn_ok (h.bel hb4) s fun v w5 hs hb45 => ?_
  have hb5 := hb4.trans hb45
  have hsz45 := hb45.le
  refine ⟨T_api_Event.cells, Below w5.heap.size, _, _, _, fun pre W => (∃ u, Row W B2 [.int .i64 u] ty_int) ∧ (∃ u, Row W B3 [.int .i64 u] ty_api_Errno) ∧ Row W B1 [.string mark] ty_string ∧ Bel w W ∧ w5.heap.size ≤ W.heap.size ∧ ∀ y ∈ pre, y.Mark ≠ mark,
    fun pre W => (∃ p x, pre = p ++ [x] ∧ (∀ y ∈ p, y.Mark ≠ mark) ∧ x.Mark = mark ∧ Row W B2 [.int .i64 x.Num] ty_int) ∧ Row W B3 [.int .i64 0] ty_api_Errno ∧ Bel w W,
    RangeOk.of hs (Nat.le_refl _) ?_ ?_ (fun pre W hi => hi.2.2.2.2.1) ⟨⟨_, c2.bel hb45⟩, ⟨_, c3.bel hb45⟩, m1.bel hb45, hb5, Nat.le_refl _, by simp⟩,
    fun x W k hk => S.new new_api_Event rfl agg_api_Event (cs := x.cells) rfl rfl rfl hk, ?_, ?_, ?_⟩
  · rintro pre W W' row ⟨⟨u, h1⟩, ⟨v, h2⟩, h3, h4, h5, h6⟩ hg hr
    exact ⟨⟨u, h1.notwalk hg hr⟩, ⟨v, h2.notwalk hg hr⟩, h3.notwalk hg hr, h4.notwalk hb5.le hg hr, Nat.le_trans h5 hg.size, h6⟩
  · rintro pre W W' row ⟨⟨p, x, h1, h2, h3, h4⟩, h5, h6⟩ hg hr
    exact ⟨⟨p, x, h1, h2, h3, h4.notwalk hg hr⟩, h5.notwalk hg hr, h6.notwalk hb5.le hg hr⟩
  · rintro pre x Bx W hBx hx ⟨⟨u, h1⟩, ⟨v, h2⟩, h3, h4, h5, h6⟩ hlen
    unfold V_events_Marked_f2b
    have hx' : Row W Bx x.cells ty_api_Event := hx
    refine S.fld fld_api_Event_Mark one_string hx'.at x.Mark rfl ?_
    refine S.ld1 one_string mark h3.cell ?_
    refine ⟨fun hq => ?_, fun hq => ?_⟩
    · refine S.fld fld_api_Event_Num one_int hx'.at x.Num rfl ?_
      refine lay x.Num 0 u v W _ h1 h2 fun W' h7 h8 h9 h10 _ => ?_
      exact ⟨h10 _, ⟨pre, x, rfl, h6, hq, h7⟩, h8, h4.trans_low (h9 w.heap.size (by omega))⟩
    · exact ⟨KeepsFrom.refl _ _, Below.refl _ _, ⟨u, h1⟩, ⟨v, h2⟩, h3, h4, h5, fun y hy => by
        rcases List.mem_append.1 hy with h | h
        · exact h6 y h
        · simp at h; subst h; exact hq⟩
  · rintro D xs W hD rfl ⟨⟨u, h1⟩, ⟨v, h2⟩, h3, h4, h5, h6⟩ hK
    refine lay 0 0 u v W _ h1 h2 fun W' h7 h8 h9 h10 _ => ?_
    have hK' := (h10 w5.heap.size).same D _ hD hK rfl
    have hg := shut_grown W' D
    have hr' : ∀ r, some D = some r → w5.heap.size ≤ r ∧ ∃ o : Obj, W'.heap[r]? = some o ∧ o.isCells = false := fun r e => by cases e; exact ⟨hD, _, hK', rfl⟩
    refine ⟨hK', fin _ _ _ (h7.notwalk hg hr') (h8.notwalk hg hr') ?_⟩
    have := H _ ((h4.trans_low (h9 w.heap.size (by omega))).notwalk hb5.le hg hr')
    rw [mkF_none h6] at this
    exact this
  · rintro D pre W hD ⟨r, hr⟩ ⟨⟨p, x, rfl, h2, h3, h4⟩, h5, h6⟩ hK
    have hg := shut_grown W D
    have hr' : ∀ r, some D = some r → w5.heap.size ≤ r ∧ ∃ o : Obj, W.heap[r]? = some o ∧ o.isCells = false := fun r e => by cases e; exact ⟨hD, _, hK, rfl⟩
    refine ⟨hK, fin _ _ _ (h4.notwalk hg hr') (h5.notwalk hg hr') ?_⟩
    have := H _ (h6.notwalk hb5.le hg hr')
    rw [mkF_first hr h2 h3] at this
    exact this
end Go.Proofs.Ytlghlmoifjcgoaa.VG
