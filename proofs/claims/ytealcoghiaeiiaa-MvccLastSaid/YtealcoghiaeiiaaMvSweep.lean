/- The sweeps, the document's and the program's; no condition. -/
import Derived.Test.YtealcoghiaeiiaaMvScan
set_option linter.unusedVariables false
namespace Go.Proofs.Ytealcoghiaeiiaa.VG
open Go.VB Go.VB.Srt Go.Proofs Go.RowKit

abbrev verC (x : T_api_Versions) : List Value := x.cells
/-- One more version is put to a struct's list. -/
theorem push_ok {base : Nat} {w0 W : World} {B C : Nat} {sl : Sl} {low : Int} {l : List Ver} {x : Ver} {ty : TypeId} (hR : Row W B [Sl.v sl, .int .u64 low] ty) (hO : VerOwn base W sl l) (hX : At W ⟨C, 0, none⟩ x.cells) (hb : Bel w0 W) (h0 : w0.heap.size ≤ base) (hbw : base ≤ W.heap.size) (hB : B < base) (hB0 : w0.heap.size ≤ B) (room : l.length + 1 ≤ 2932031007402)
    {k : World → Prop} (H : ∀ s' W3 W', W.grownBy W3 (Sl.v sl).ownBlock → Row W3 B [Sl.v sl, .int .u64 low] ty → W3.grownBy W' (some B) → Row W' B [Sl.v s', .int .u64 low] ty → VerOwn base W' s' (l ++ [x]) → Bel w0 W' → W.heap.size ≤ W'.heap.size → k W') :
    opE Try.prog Value.pointer (Instr.fieldAt ty_api_Versions (.pointer (some ⟨B, 0, none⟩)) 0) W (fun p w => opE Try.prog Sl.v (Instr.loadAt ty_L_api_Version (.pointer p)) w (fun s w => opE Try.prog T_api_Version.v (Instr.loadAt ty_api_Version (.pointer (some ⟨C, 0, none⟩))) w (fun v w =>
      opE Try.prog Sl.v (Instr.buildSlice ty_L_api_Version 1 [(0, T_api_Version.v v)].toArray) w (fun y w => opE Try.prog Sl.v (Builtin.append_ #[ty_L_api_Version, ty_L_api_Version] ty_L_api_Version [Sl.v s, Sl.v y].toArray) w (fun s' w =>
      opE Try.prog Value.pointer (Instr.fieldAt ty_api_Versions (.pointer (some ⟨B, 0, none⟩)) 0) w (fun p w => opU Try.prog (Instr.storeAt ty_L_api_Version (.pointer p) (Sl.v s')) w k)))))) := by
  refine S.fld fld_api_Versions_List one_L_api_Version hR.at sl rfl ?_
  refine S.ldA agg_api_Version x rfl hX rfl ?_
  refine ver_app1 (w0 := w0) hO hb h0 hbw room fun s' W3 h1 h2 h3 => ?_
  have hne : (Sl.v sl).ownBlock ≠ some B := fun e => by have := hO.lo e; omega
  have hR3 := hR.grown h3 hne
  refine ⟨_, _, fld_api_Versions_List _ W3, ?_⟩
  refine S.st1 one_L_api_Version (off := 0) hR3 rfl (by simp) rfl fun W4 h4 h5 => ?_
  refine H s' W3 W4 h3 hR3 h5 (by simpa using h4) (h1.kept h5 ?_) (h2.grown h5 fun r hr => by cases hr; exact hB0) (Nat.le_trans h3.size h5.size)
  cases ho : (Sl.v s').ownBlock with
  | none => exact .inl rfl
  | some q => exact .inr fun e => by have h8 := h1.lo ho; have h9 := Option.some.inj e; omega
theorem keepOne_later {low : Int} {x y : Ver} (h1 : y.Key = x.Key) (h2 : y.At ≤ low) : keepOne low x (some y) = [] := by unfold keepOne; rw [if_pos ⟨y, rfl, h1, h2⟩]
theorem keepOne_gone {low : Int} {x : Ver} {o : Option Ver} (h : x.Gone = true ∧ x.At ≤ low) : keepOne low x o = [] := by
  unfold keepOne; rw [if_pos h]; split <;> rfl
theorem keepOne_is {low : Int} {x : Ver} {o : Option Ver} (h : ∀ y, o = some y → y.Key = x.Key → ¬ y.At ≤ low) (hg : ¬ (x.Gone = true ∧ x.At ≤ low)) : keepOne low x o = [x] := by
  unfold keepOne; rw [if_neg (fun ⟨y, h1, h2, h3⟩ => h y h1 h2 h3), if_neg hg]
theorem keepAt_eq {l : List Ver} {low : Int} {n : Nat} {x : Ver} (h : l[n]? = some x) : keepAt l low n = keepOne low x l[n + 1]? := by unfold keepAt; rw [h]
abbrev zeroVs : T_api_Versions := ⟨Sl.none, 0⟩
/-- What stands in the result's variable is handed back. -/
theorem ret_ok {W : World} {B : Nat} {x : T_api_Versions} {z : List Value} {q : T_api_Versions → World → Prop} (hR : Row W B z ty_api_Versions) (hz : z.length = 2)
    (H : ∀ W', W.grownBy W' (some B) → q x W') : opU Try.prog (Instr.storeAt ty_api_Versions (.pointer (some ⟨B, 0, none⟩)) (T_api_Versions.v x)) W (fun w => opR Try.prog T_api_Versions.v ty_api_Versions (some ⟨B, 0, none⟩) w (fun r => q r w)) := by
  refine S.stA agg_api_Versions hR hz rfl rfl fun W' hR' hg => ?_
  exact R.agg agg_api_Versions x rfl hR'.at rfl (H W' hg)
theorem rsweep_ok {w : World} {x0 : T_api_Versions} {l : List Ver} (h : VerRd w x0.List l) (low : Int) {k : T_api_Versions → Int → World → Prop}
    (H : ∀ r w', VerRd w' r (vsweep l x0.Low low).1 → Bel w w' → k ⟨r, (vsweep l x0.Low low).2.1⟩ (vsweep l x0.Low low).2.2 w') :
    Cl Try.prog fn_ladingref09_Sweep [T_api_Versions.v x0, .int .u64 low].toArray w (fun e w' => ∃ (r0 : T_api_Versions) (r1 : Int), e = .returned (.tuple [T_api_Versions.v r0, .int .i64 r1].toArray) ∧ k r0 r1 w') := by
  refine L1_ladingref09_Sweep x0 low w k ?_
  have hbig := h.big; have hcap := h.cap; have hlen := h.len
  unfold V_ladingref09_Sweep
  refine S.boxW (cs := x0.cells) rfl fun B2 w1 b1 hV hB2 => ?_
  refine S.new1W new_api_Versions fun B4 w2 b2 hZ hB4 => ?_
  have b02 := b1.trans b2
  have w1le := b1.le
  replace hV := hV.bel b2
  refine S.ldA agg_api_Versions x0 rfl hV.at rfl ?_
  refine rcheck_ok (h.bel b02) fun w3 b3 => ?_
  have b03 := b02.trans b3
  have hZ3 := hZ.bel b3
  unfold vsweep at H
  refine ⟨fun hc => ?_, fun hc => ?_⟩
  · rw [if_pos hc] at H
    refine ⟨zeroVs, w3, by kernel_rfl, ?_⟩
    exact ret_ok hZ3 rfl fun W' hg => H Sl.none W' (Rd.nil _ _ _) (b03.grown hg fun r hr => by cases hr; omega)
  rw [if_neg hc] at H
  have hg := vchk_zero.1 (Classical.not_not.1 hc)
  have hl4 := hg.len
  refine S.fld fld_api_Versions_Low one_uint64 (hV.bel b3).at x0.Low rfl ?_
  refine ⟨fun hlo => ?_, fun hlo => ?_⟩
  · rw [if_pos hlo] at H
    refine ⟨zeroVs, w3, by kernel_rfl, ?_⟩
    exact ret_ok hZ3 rfl fun W' hg => H Sl.none W' (Rd.nil _ _ _) (b03.grown hg fun r hr => by cases hr; omega)
  rw [if_neg hlo] at H
  refine ⟨fun hhi => ?_, fun hhi => ?_⟩
  · rw [if_pos hhi] at H
    refine ⟨zeroVs, w3, by kernel_rfl, ?_⟩
    exact ret_ok hZ3 rfl fun W' hg => H Sl.none W' (Rd.nil _ _ _) (b03.grown hg fun r hr => by cases hr; omega)
  rw [if_neg hhi] at H
  refine ⟨⟨Sl.none, low⟩, w3, by kernel_rfl, ?_⟩
  refine S.newW new_api_Versions rfl agg_api_Versions (cs := (⟨Sl.none, low⟩ : T_api_Versions).cells) rfl rfl rfl fun B w4 b4 hR hB => ?_
  have b04 := b03.trans b4
  have hV4 := (hV.bel b3).bel b4
  have hw3 := b03.le
  have hB4w : B4 < w3.heap.size := hZ3.lt
  have hBw : B < w4.heap.size := hR.lt
  refine S.fld fld_api_Versions_List one_L_api_Version hV4.at x0.List rfl ?_
  refine ⟨fun i W => ∃ (n : Nat) (sl : Sl), i = (n : Int) ∧ n ≤ l.length ∧ Row W B [Sl.v sl, .int .u64 low] ty_api_Versions ∧ VerOwn w4.heap.size W sl (swpTo l low n) ∧ Bel w3 W ∧ w4.heap.size ≤ W.heap.size, fun i _ => (x0.List.len - i).toNat, ⟨0, Sl.none, rfl, by omega, hR, OwnS.nil _ _ _ _ _, b4, Nat.le_refl _⟩, ?_⟩
  rintro i W ⟨n, sl, rfl, hn, hRW, hO, hb, hw4⟩
  have b0W := b03.trans hb
  have hVW : Row W B2 x0.cells ty_api_Versions := (hV.bel b3).bel hb
  unfold V_ladingref09_Sweep_l1b
  refine ⟨fun hlt => ?_, fun hlt => ?_⟩
  case refine_2 =>
    obtain rfl : n = l.length := by omega
    refine S.ldA agg_api_Versions ⟨sl, low⟩ rfl hRW.at rfl ?_
    refine ret_ok (hZ3.bel hb) rfl fun W' hg => ?_
    rw [swpTo_all] at hO
    refine H sl W' (VerOwn.rd (hO.kept hg ?_)) (b0W.grown hg fun r hr => by cases hr; omega)
    cases ho : (Sl.v sl).ownBlock with
    | none => exact .inl rfl
    | some q => exact .inr fun e => by have h8 := hO.lo ho; have h9 := Option.some.inj e; omega
  obtain ⟨e, he⟩ := getV (l := l) (n := n) (by omega)
  have hsucc := swpTo_succ l low n
  have hsl := swpTo_len l low n
  have hka := keepAt_eq (low := low) he
  refine S.idx (h.bel b0W) und_L_api_Version esz_L_api_Version (by omega) (x := e) (by simpa using he) fun ad hA => ?_
  refine S.ldA agg_api_Version e rfl hA rfl ?_
  refine S.newW new_api_Version rfl agg_api_Version (cs := e.cells) rfl rfl rfl fun C w5 b5 hX hC => ?_
  have b05 := b0W.trans b5
  have hV5 := hVW.bel b5
  have hle5 := b5.le
  have r5f : ∀ w6, Bel w5 w6 → keepOne low e l[n + 1]? = [] → V_ladingref09_Sweep_r5 (some ⟨B, 0, none⟩) n (fun (i' : Int) (w' : World) => (∃ (n : Nat) (sl : Sl), i' = (n : Int) ∧ n ≤ l.length ∧ Row w' B [Sl.v sl, .int .u64 low] ty_api_Versions ∧ VerOwn w4.heap.size w' sl (swpTo l low n) ∧ Bel w3 w' ∧ w4.heap.size ≤ w'.heap.size) ∧ (x0.List.len - i').toNat < (x0.List.len - (n : Int)).toNat) (some ⟨C, 0, none⟩) false w6 := by
    intro w6 b6 hk
    unfold V_ladingref09_Sweep_r5 V_ladingref09_Sweep_j2
    refine ⟨fun h => (nomatch h), fun _ => ?_⟩
    rw [wr64 (by omega) (by omega)]
    refine ⟨⟨n + 1, sl, by omega, by omega, (hRW.bel b5).bel b6, ?_, (hb.trans b5).trans b6, Nat.le_trans hw4 (b5.trans b6).le⟩, by omega⟩
    rw [hsucc, hka, hk, List.append_nil]; exact (hO.bel b5).bel b6
  have r5t : ∀ w6, Bel w5 w6 → keepOne low e l[n + 1]? = [e] → V_ladingref09_Sweep_r5 (some ⟨B, 0, none⟩) n (fun (i' : Int) (w' : World) => (∃ (n : Nat) (sl : Sl), i' = (n : Int) ∧ n ≤ l.length ∧ Row w' B [Sl.v sl, .int .u64 low] ty_api_Versions ∧ VerOwn w4.heap.size w' sl (swpTo l low n) ∧ Bel w3 w' ∧ w4.heap.size ≤ w'.heap.size) ∧ (x0.List.len - i').toNat < (x0.List.len - (n : Int)).toNat) (some ⟨C, 0, none⟩) true w6 := by
    intro w6 b6 hk
    unfold V_ladingref09_Sweep_r5
    refine ⟨fun _ => ?_, fun h => (nomatch h)⟩
    refine push_ok (w0 := w3) ((hRW.bel b5).bel b6) ((hO.bel b5).bel b6) (hX.bel b6).at ((hb.trans b5).trans b6) b4.le (Nat.le_trans hw4 (b5.trans b6).le) hBw hB (by omega) fun s' W3 W' _ _ _ q1 q2 q3 q4 => ?_
    unfold V_ladingref09_Sweep_j2
    rw [wr64 (by omega) (by omega)]
    refine ⟨⟨n + 1, s', by omega, by omega, q1, ?_, q3, Nat.le_trans (Nat.le_trans hw4 (b5.trans b6).le) q4⟩, by omega⟩
    rw [hsucc, hka, hk]; exact q2
  have r4f : (∀ y, l[n + 1]? = some y → y.Key = e.Key → ¬ y.At ≤ low) → V_ladingref09_Sweep_r4 low (some ⟨B, 0, none⟩) n (fun (i' : Int) (w' : World) => (∃ (n : Nat) (sl : Sl), i' = (n : Int) ∧ n ≤ l.length ∧ Row w' B [Sl.v sl, .int .u64 low] ty_api_Versions ∧ VerOwn w4.heap.size w' sl (swpTo l low n) ∧ Bel w3 w' ∧ w4.heap.size ≤ w'.heap.size) ∧ (x0.List.len - i').toNat < (x0.List.len - (n : Int)).toNat) (some ⟨C, 0, none⟩) false w5 := by
    intro hno w6 b6
    refine ⟨fun _ => ?_, fun h => (nomatch h)⟩
    refine S.fld fld_api_Version_Gone one_bool (hX.bel b6).at e.Gone rfl ?_
    unfold V_ladingref09_Sweep_r6
    refine ⟨fun hgn => r5t w6 b6 (keepOne_is hno (fun hq => by rw [hq.1] at hgn; cases hgn)), fun hgn => ?_⟩
    refine S.fld fld_api_Version_At one_uint64 (hX.bel b6).at e.At rfl ?_
    have hgn' : e.Gone = true := by cases hq : e.Gone <;> simp_all
    by_cases hat : low < e.At
    · rw [decide_eq_true hat]
      exact r5t w6 b6 (keepOne_is hno (fun hq => by omega))
    · rw [decide_eq_false hat]
      exact r5f w6 b6 (keepOne_gone ⟨hgn', by omega⟩)
  have r4t : keepOne low e l[n + 1]? = [] → V_ladingref09_Sweep_r4 low (some ⟨B, 0, none⟩) n (fun (i' : Int) (w' : World) => (∃ (n : Nat) (sl : Sl), i' = (n : Int) ∧ n ≤ l.length ∧ Row w' B [Sl.v sl, .int .u64 low] ty_api_Versions ∧ VerOwn w4.heap.size w' sl (swpTo l low n) ∧ Bel w3 w' ∧ w4.heap.size ≤ w'.heap.size) ∧ (x0.List.len - i').toNat < (x0.List.len - (n : Int)).toNat) (some ⟨C, 0, none⟩) true w5 :=
    fun hk w6 b6 => ⟨fun h => (nomatch h), fun _ => r5f w6 b6 hk⟩
  refine Q.fld fld_api_Versions_List one_L_api_Version hV5.at x0.List rfl ?_
  rw [wr64 (n := (n : Int) + 1) (by omega) (by omega)]
  have r3f : (∀ y, l[n + 1]? = some y → y.Key = e.Key → ¬ y.At ≤ low) → V_ladingref09_Sweep_r3 low (some ⟨B2, 0, none⟩) (some ⟨B, 0, none⟩) n (fun (i' : Int) (w' : World) => (∃ (n : Nat) (sl : Sl), i' = (n : Int) ∧ n ≤ l.length ∧ Row w' B [Sl.v sl, .int .u64 low] ty_api_Versions ∧ VerOwn w4.heap.size w' sl (swpTo l low n) ∧ Bel w3 w' ∧ w4.heap.size ≤ w'.heap.size) ∧ (x0.List.len - i').toNat < (x0.List.len - (n : Int)).toNat) (some ⟨C, 0, none⟩) false w5 :=
    fun hno => ⟨fun h => (nomatch h), fun _ => r4f hno⟩
  refine ⟨fun hnx => ?_, fun hnx => r3f (fun y hy => by have := (List.getElem?_eq_some_iff.1 hy).1; omega)⟩
  obtain ⟨y, hy⟩ := getV (l := l) (n := n + 1) (by omega)
  refine Q.fld fld_api_Versions_List one_L_api_Version hV5.at x0.List rfl ?_
  refine Q.idx (h.bel b05) und_L_api_Version esz_L_api_Version (by omega) (x := y) (by rw [show ((n : Int) + 1).toNat = n + 1 by omega]; exact hy) fun ad hA => ?_
  refine Q.fld fld_api_Version_Key one_string hA y.Key rfl ?_
  refine Q.fld fld_api_Version_Key one_string hX.at e.Key rfl ?_
  by_cases hk : y.Key = e.Key
  case neg => rw [decide_eq_false hk]; exact r3f (fun z hz h1 => by rw [hy] at hz; cases hz; exact absurd h1 hk)
  rw [decide_eq_true hk]
  unfold V_ladingref09_Sweep_r3
  refine ⟨fun _ => ?_, fun h => (nomatch h)⟩
  rw [wr64 (n := (n : Int) + 1) (by omega) (by omega)]
  refine Q.fld fld_api_Versions_List one_L_api_Version hV5.at x0.List rfl ?_
  refine Q.idx (h.bel b05) und_L_api_Version esz_L_api_Version (by omega) (x := y) (by rw [show ((n : Int) + 1).toNat = n + 1 by omega]; exact hy) fun ad hA => ?_
  refine Q.fld fld_api_Version_At one_uint64 hA y.At rfl ?_
  by_cases hat : y.At ≤ low
  · rw [decide_eq_true hat]; exact r4t (by rw [hy]; exact keepOne_later hk hat)
  · rw [decide_eq_false hat]; exact r4f (fun z hz h1 => by rw [hy] at hz; cases hz; exact hat)
theorem swpS_snoc {l : List Ver} (low : Int) (pre : List (Seg l)) (s : Seg l) : swpS low (pre ++ [s]) = swpS low pre ++ (lowOne (sees s.vers s.key low) ++ s.vers.filter (fun x => decide (low < x.At))) := by
  unfold swpS; rw [List.flatMap_append]; simp
theorem Cuts.len {l : List Ver} (hs : l.Pairwise vlt) (low : Int) {pre : List (Seg l)} {n : Nat} (h : Cuts l pre n) : (swpS low pre).length ≤ l.length := by
  rw [← Cuts.sweep hs low h]
  refine Nat.le_trans (swp_len low _) ?_
  rw [List.length_take]; omega
theorem filt_succ {l : List Ver} {n : Nat} {x : Ver} (h : l[n]? = some x) (low : Int) : (l.take (n + 1)).filter (fun x => decide (low < x.At)) = (l.take n).filter (fun x => decide (low < x.At)) ++ (if low < x.At then [x] else []) := by
  rw [take_one h, List.filter_append]
  by_cases hh : low < x.At <;> simp [hh]
theorem lowOne_len (o : Option Ver) : (lowOne o).length ≤ 1 := by
  unfold lowOne; split
  · simp
  · split <;> simp
theorem swpS_len {l : List Ver} (low : Int) : ∀ pre : List (Seg l), (swpS low pre).length ≤ pre.length * (l.length + 1)
  | [] => by simp [swpS]
  | s :: pre => by
    have h1 := swpS_len low pre
    have h2 := lowOne_len (sees s.vers s.key low)
    have h3 : (s.vers.filter (fun x => decide (low < x.At))).length ≤ s.vers.length := List.length_filter_le _ _
    have h4 : s.vers.length ≤ l.length := by unfold Seg.vers; rw [List.length_take, List.length_drop]; omega
    unfold swpS at *
    rw [List.flatMap_cons, List.length_append, List.length_append, List.length_cons, Nat.succ_mul]; omega
theorem push_keeps {base : Nat} {W W3 W' : World} {B n0 b : Nat} {w0 : World} {sl : Sl} {low : Int} {l : List Ver} {ty : TypeId} (hO : VerOwn base W sl l) (h1 : W.grownBy W3 (Sl.v sl).ownBlock) (hR3 : Row W3 B [Sl.v sl, .int .u64 low] ty) (h2 : W3.grownBy W' (some B))
    (hb : b < base) (hbB : b ≠ B) (hw0 : w0.heap.size ≤ base) (hB : w0.heap.size ≤ B) (hsz : base ≤ W.heap.size) : KeepsFrom n0 W W' ∧ Keeps2 w0 b W W' :=
  ⟨(KeepsFrom.row h1 fun r hr => hO.isRow hr).trans (KeepsFrom.row h2 fun r hr => by cases hr; exact ⟨_, _, _, hR3⟩),
    (Keeps2.grown h1 (by omega) fun r hr => by have := hO.lo hr; omega).trans (Keeps2.grown h2 (by have := h1.size; omega) fun r hr => by cases hr; omega)⟩
/-- A round's second half: the versions from the time on. -/
theorem sweep_rest {w w3 w7 W : World} {x0 : Sl} {l : List Ver} {low : Int} {b B B3 : Nat} (h : VerRd w x0 l) (hs : l.Pairwise vlt) (hl4 : l.length ≤ 4096) (b03 : Bel w w3) (hL3 : Row w3 B3 [.int .u64 low] ty_uint64) (b37 : Bel w3 w7) (hb7 : b < w7.heap.size) (hbB : b ≠ B) (hB : w3.heap.size ≤ B) (hBw : B < w7.heap.size)
    {pre : List (Seg l)} (s : Seg l) (hlenp : pre.length < l.length) (h4 : w7.heap.size ≤ W.heap.size)
    {W3 : World} {sl3 : Sl} (r1 : Row W3 B [Sl.v sl3, .int .u64 low] ty_api_Versions) (r2 : VerOwn w7.heap.size W3 sl3 (swpS low pre ++ lowOne (sees s.vers s.key low))) (r3 : Bel w3 W3) (r4 : w7.heap.size ≤ W3.heap.size) (r5 : KeepsFrom w7.heap.size W W3) (r6 : Keeps2 w b W W3) :
    V_mvcc_Sweep_j2 (some ⟨B3, 0, none⟩) (some ⟨B, 0, none⟩) (x0.sub s.lo s.hi 4) (fun W' => KeepsFrom w7.heap.size W W' ∧ Keeps2 w b W W' ∧ ∃ sl, Row W' B [Sl.v sl, .int .u64 low] ty_api_Versions ∧ VerOwn w7.heap.size W' sl (swpS low (pre ++ [s])) ∧ Bel w3 W' ∧ w7.heap.size ≤ W'.heap.size) W3 := by
  have hbig := h.big; have hcap := h.cap; have hlen := h.len
  have hw3 := b03.le
  have w37 := b37.le
  have hsl := swpS_len low pre
  have hml : pre.length * (l.length + 1) ≤ 4096 * 4097 := Nat.mul_le_mul (by omega) (by omega)
  have hvl : s.vers.length ≤ l.length := by unfold Seg.vers; rw [List.length_take, List.length_drop]; omega
  have hsr := s.rd (h.bel (b03.trans r3))
  have hsrlen := hsr.len
  have hlo1 := lowOne_len (sees s.vers s.key low)
  unfold V_mvcc_Sweep_j2
  refine ⟨fun i W' => ∃ (n : Nat) (sl : Sl), i = (n : Int) ∧ n ≤ s.vers.length ∧ Row W' B [Sl.v sl, .int .u64 low] ty_api_Versions ∧ VerOwn w7.heap.size W' sl (swpS low pre ++ lowOne (sees s.vers s.key low) ++ (s.vers.take n).filter (fun x => decide (low < x.At))) ∧ Bel w3 W' ∧ w7.heap.size ≤ W'.heap.size ∧ KeepsFrom w7.heap.size W W' ∧ Keeps2 w b W W',
    fun i _ => ((x0.sub s.lo s.hi 4).len - i).toNat, ⟨0, sl3, rfl, by omega, r1, by simpa using r2, r3, r4, r5, r6⟩, ?_⟩
  rintro i W' ⟨n, sl', rfl, hn, q1, q2, q3, q4, q5, q6⟩
  unfold V_mvcc_Sweep_l3b
  refine ⟨fun hlt => ?_, fun hlt => ?_⟩
  case refine_2 =>
    obtain rfl : n = s.vers.length := by omega
    rw [List.take_length] at q2
    exact ⟨q5, q6, sl', q1, by rw [swpS_snoc, ← List.append_assoc]; exact q2, q3, q4⟩
  obtain ⟨e, he⟩ := getV (l := s.vers) (n := n) (by omega)
  have hfs := filt_succ he low
  have hfl : ((s.vers.take n).filter (fun x => decide (low < x.At))).length ≤ l.length := Nat.le_trans (List.length_filter_le _ _) (by rw [List.length_take]; omega)
  refine S.idx (s.rd (h.bel (b03.trans q3))) und_L_api_Version esz_L_api_Version (by omega) (x := e) (by simpa using he) fun ad hA => ?_
  refine S.ldA agg_api_Version e rfl hA rfl ?_
  refine S.newW new_api_Version rfl agg_api_Version (cs := e.cells) rfl rfl rfl fun C' W4 c4 hX' _ => ?_
  refine S.fld fld_api_Version_At one_uint64 hX'.at e.At rfl ?_
  refine S.ld1 one_uint64 low ((hL3.bel q3).bel c4).cell ?_
  have c4le := c4.le
  refine ⟨fun hat => ?_, fun hat => ?_⟩
  · rw [if_pos hat] at hfs
    refine push_ok (w0 := w3) (q1.bel c4) (q2.bel c4) hX'.at (q3.trans c4) b37.le (Nat.le_trans q4 c4.le) (by omega) hB (by rw [List.length_append, List.length_append]; omega) fun s' W5 W6 g1 g2 g3 g4 g5 g6 g7 => ?_
    obtain ⟨p1, p2⟩ := push_keeps (n0 := w7.heap.size) (w0 := w) (b := b) (q2.bel c4) g1 g2 g3 (by omega) (by omega) (by omega) (by omega) (Nat.le_trans q4 c4.le)
    unfold V_mvcc_Sweep_j4
    rw [wr64 (by omega) (by omega)]
    refine ⟨⟨n + 1, s', by omega, by omega, g4, ?_, g6, Nat.le_trans (Nat.le_trans q4 c4.le) g7, (q5.trans (KeepsFrom.bel c4)).trans p1, (q6.trans (Keeps2.bel c4 (by omega))).trans p2⟩, by dsimp only; omega⟩
    rw [hfs, ← List.append_assoc]; exact g5
  · rw [if_neg hat, List.append_nil] at hfs
    unfold V_mvcc_Sweep_j4
    rw [wr64 (by omega) (by omega)]
    refine ⟨⟨n + 1, sl', by omega, by omega, q1.bel c4, ?_, q3.trans c4, Nat.le_trans q4 c4.le, q5.trans (KeepsFrom.bel c4), q6.trans (Keeps2.bel c4 (by omega))⟩, by dsimp only; omega⟩
    rw [hfs]; exact q2.bel c4
/-- A round of the sweep. -/
theorem sweep_round {w w3 w7 W : World} {x0 : Sl} {l : List Ver} {low : Int} {b B B3 : Nat} (h : VerRd w x0 l) (hs : l.Pairwise vlt) (hl4 : l.length ≤ 4096) (b03 : Bel w w3) (hL3 : Row w3 B3 [.int .u64 low] ty_uint64) (b37 : Bel w3 w7) (hb7 : b < w7.heap.size) (hbB : b ≠ B) (hB : w3.heap.size ≤ B) (hBw : B < w7.heap.size)
    {pre : List (Seg l)} (s : Seg l) (hlenp : pre.length < l.length) (h4 : w7.heap.size ≤ W.heap.size)
    {sl : Sl} (h1 : Row W B [Sl.v sl, .int .u64 low] ty_api_Versions) (h2 : VerOwn w7.heap.size W sl (swpS low pre)) (h3 : Bel w3 W) {L : World → Prop} :
    V_mvcc_Sweep_f1b (some ⟨B3, 0, none⟩) (some ⟨B, 0, none⟩) s.key (x0.sub s.lo s.hi 4) W (fun W' => KeepsFrom w7.heap.size W W' ∧ Keeps2 w b W W' ∧ ∃ sl, Row W' B [Sl.v sl, .int .u64 low] ty_api_Versions ∧ VerOwn w7.heap.size W' sl (swpS low (pre ++ [s])) ∧ Bel w3 W' ∧ w7.heap.size ≤ W'.heap.size) L := by
  have hbig := h.big; have hcap := h.cap; have hlen := h.len
  have hw3 := b03.le
  have w37 := b37.le
  have hsl := swpS_len low pre
  have hml : pre.length * (l.length + 1) ≤ 4096 * 4097 := Nat.mul_le_mul (by omega) (by omega)
  have hvl : s.vers.length ≤ l.length := by unfold Seg.vers; rw [List.length_take, List.length_drop]; omega
  have hsr := s.rd (h.bel (b03.trans h3))
  have hsrlen := hsr.len
  unfold V_mvcc_Sweep_f1b
  refine S.ld1 one_uint64 low (hL3.bel h3).cell ?_
  refine last_ok hsr (s.sorted hs) s.key low fun W1 c1 => ?_
  refine S.newW new_api_Version rfl agg_api_Version (cs := (verOr (sees s.vers s.key low)).cells) rfl rfl rfl fun C W2 c2 hX _ => ?_
  have c02 := c1.trans c2
  have c02le := c02.le
  have j2 : ∀ W3 sl3, Row W3 B [Sl.v sl3, .int .u64 low] ty_api_Versions → VerOwn w7.heap.size W3 sl3 (swpS low pre ++ lowOne (sees s.vers s.key low)) → Bel w3 W3 → w7.heap.size ≤ W3.heap.size → KeepsFrom w7.heap.size W W3 → Keeps2 w b W W3 →
      V_mvcc_Sweep_j2 (some ⟨B3, 0, none⟩) (some ⟨B, 0, none⟩) (x0.sub s.lo s.hi 4) (fun W' => KeepsFrom w7.heap.size W W' ∧ Keeps2 w b W W' ∧ ∃ sl, Row W' B [Sl.v sl, .int .u64 low] ty_api_Versions ∧ VerOwn w7.heap.size W' sl (swpS low (pre ++ [s])) ∧ Bel w3 W' ∧ w7.heap.size ≤ W'.heap.size) W3 := fun W3 sl3 r1 r2 r3 r4 r5 r6 => sweep_rest h hs hl4 b03 hL3 b37 hb7 hbB hB hBw s hlenp h4 r1 r2 r3 r4 r5 r6
  have skip : lowOne (sees s.vers s.key low) = [] → V_mvcc_Sweep_j2 (some ⟨B3, 0, none⟩) (some ⟨B, 0, none⟩) (x0.sub s.lo s.hi 4) (fun W' => KeepsFrom w7.heap.size W W' ∧ Keeps2 w b W W' ∧ ∃ sl, Row W' B [Sl.v sl, .int .u64 low] ty_api_Versions ∧ VerOwn w7.heap.size W' sl (swpS low (pre ++ [s])) ∧ Bel w3 W' ∧ w7.heap.size ≤ W'.heap.size) W2 := fun hn =>
    j2 W2 sl (h1.bel c02) (by rw [hn, List.append_nil]; exact h2.bel c02) (h3.trans c02) (Nat.le_trans h4 c02.le) (KeepsFrom.bel c02) (Keeps2.bel c02 (by omega))
  cases hq : sees s.vers s.key low with
  | none => exact ⟨fun h => (nomatch h), fun _ => ⟨fun h => (nomatch h), fun _ => skip (by rw [hq]; rfl)⟩⟩
  | some x =>
    refine ⟨fun _ => ?_, fun h => (nomatch h)⟩
    rw [hq] at hX
    refine S.fld fld_api_Version_Gone one_bool hX.at x.Gone rfl ?_
    unfold V_mvcc_Sweep_r5
    refine ⟨fun hx => ?_, fun hx => skip (by rw [hq]; unfold lowOne; simp only; rw [if_pos (by cases hxg : x.Gone <;> simp_all)])⟩
    have hone : lowOne (some x) = [x] := by unfold lowOne; simp only; rw [if_neg (by cases hxg : x.Gone <;> simp_all)]
    refine push_ok (w0 := w3) (h1.bel c02) (h2.bel c02) hX.at (h3.trans c02) b37.le (Nat.le_trans h4 c02.le) (by omega) hB (by omega) fun s' W5 W6 g1 g2 g3 g4 g5 g6 g7 => ?_
    obtain ⟨p1, p2⟩ := push_keeps (n0 := w7.heap.size) (w0 := w) (b := b) (h2.bel c02) g1 g2 g3 (by omega) (by omega) (by omega) (by omega) (Nat.le_trans h4 c02.le)
    exact j2 W6 s' g4 (by rw [hq, hone]; exact g5) g6 (Nat.le_trans (Nat.le_trans h4 c02.le) g7) ((KeepsFrom.bel c02).trans p1) ((Keeps2.bel c02 (by omega)).trans p2)
theorem msweep_ok {w : World} {x0 : T_api_Versions} {l : List Ver} (h : VerRd w x0.List l) (low : Int) {k : T_api_Versions → Int → World → Prop}
    (H : ∀ r w' base, w.heap.size ≤ base → VerOwn base w' r (vsweep l x0.Low low).1 → Bel w w' → k ⟨r, (vsweep l x0.Low low).2.1⟩ (vsweep l x0.Low low).2.2 w') :
    Cl Try.prog fn_mvcc_Sweep [T_api_Versions.v x0, .int .u64 low].toArray w (fun e w' => ∃ (r0 : T_api_Versions) (r1 : Int), e = .returned (.tuple [T_api_Versions.v r0, .int .i64 r1].toArray) ∧ k r0 r1 w') := by
  refine L1_mvcc_Sweep x0 low w k ?_
  have hbig := h.big; have hcap := h.cap; have hlen := h.len
  unfold V_mvcc_Sweep
  refine S.boxW (cs := x0.cells) rfl fun B2 w1 b1 hV hB2 => ?_
  refine S.boxW (cs := [.int .u64 low]) rfl fun B3 wl bl hL hB3 => ?_
  refine S.new1W new_api_Versions fun B4 w2 b2 hZ hB4 => ?_
  have b02 := (b1.trans bl).trans b2
  have w1le := b1.le
  have wlle := bl.le
  replace hV := (hV.bel bl).bel b2
  replace hL := hL.bel b2
  refine S.ldA agg_api_Versions x0 rfl hV.at rfl ?_
  refine mcheck_ok (h.bel b02) fun w3 b3 => ?_
  have b03 := b02.trans b3
  have hZ3 := hZ.bel b3
  unfold vsweep at H
  refine ⟨fun hc => ?_, fun hc => ?_⟩
  · rw [if_pos hc] at H
    refine ⟨zeroVs, w3, by kernel_rfl, ?_⟩
    exact ret_ok hZ3 rfl fun W' hg => H Sl.none W' W'.heap.size (b03.grown hg fun r hr => by cases hr; omega).le (OwnS.nil _ _ _ _ _) (b03.grown hg fun r hr => by cases hr; omega)
  rw [if_neg hc] at H
  have hg := vchk_zero.1 (Classical.not_not.1 hc)
  have hl4 := hg.len
  have hs := hg.sorted
  refine S.ld1 one_uint64 low (hL.bel b3).cell ?_
  refine S.fld fld_api_Versions_Low one_uint64 (hV.bel b3).at x0.Low rfl ?_
  refine ⟨fun hlo => ?_, fun hlo => ?_⟩
  · rw [if_pos hlo] at H
    refine ⟨zeroVs, w3, by kernel_rfl, ?_⟩
    exact ret_ok hZ3 rfl fun W' hg => H Sl.none W' W'.heap.size (b03.grown hg fun r hr => by cases hr; omega).le (OwnS.nil _ _ _ _ _) (b03.grown hg fun r hr => by cases hr; omega)
  rw [if_neg hlo] at H
  refine S.ld1 one_uint64 low (hL.bel b3).cell ?_
  refine ⟨fun hhi => ?_, fun hhi => ?_⟩
  · rw [if_pos hhi] at H
    refine ⟨zeroVs, w3, by kernel_rfl, ?_⟩
    exact ret_ok hZ3 rfl fun W' hg => H Sl.none W' W'.heap.size (b03.grown hg fun r hr => by cases hr; omega).le (OwnS.nil _ _ _ _ _) (b03.grown hg fun r hr => by cases hr; omega)
  rw [if_neg hhi] at H
  refine S.ld1 one_uint64 low (hL.bel b3).cell ?_
  refine ⟨⟨Sl.none, low⟩, w3, by kernel_rfl, ?_⟩
  refine S.newW new_api_Versions rfl agg_api_Versions (cs := (⟨Sl.none, low⟩ : T_api_Versions).cells) rfl rfl rfl fun B w4 b4 hR hB => ?_
  have b04 := b03.trans b4
  have hw3 := b03.le
  have hB4w : B4 < w3.heap.size := hZ3.lt
  have hBw : B < w4.heap.size := hR.lt
  refine S.fld fld_api_Versions_List one_L_api_Version ((hV.bel b3).bel b4).at x0.List rfl ?_
  refine keys_ok b04 h fun v b w7 hS hb6 hb7 b7 => ?_
  have b07 := b04.trans b7
  have b37 := b4.trans b7
  have w7le := b7.le
  refine ⟨Seg l, fun s => s.key, fun s => x0.List.sub s.lo s.hi 4, Keeps2 w b, fun xs => Cuts l xs l.length, fun _ => True, l.length,
    fun pre W => ∃ sl, Row W B [Sl.v sl, .int .u64 low] ty_api_Versions ∧ VerOwn w7.heap.size W sl (swpS low pre) ∧ Bel w3 W ∧ w7.heap.size ≤ W.heap.size, fun _ _ => False,
    RangeOk.of2 hS b07.le hb7 (fun s W W' row hi hg hr => ?_) (fun s W W' row hi hg hr => hi) (fun pre W hi => hi.elim fun _ h => h.2.2.2) ⟨Sl.none, hR.bel b7, OwnS.nil _ _ _ _ _, b37, Nat.le_refl _⟩,
    fun W => Keeps2.refl _ _ _, ?_, ?_, ?_⟩
  · obtain ⟨sl, h1, h2, h3, h4⟩ := hi
    exact ⟨sl, h1.notwalk hg hr, h2.notwalk hg hr, h3.notwalk b37.le hg hr, Nat.le_trans h4 hg.size⟩
  · rintro pre s W ⟨sl, h1, h2, h3, h4⟩ hlenp
    exact sweep_round h hs hl4 b03 (hL.bel b3) b37 hb7 (by omega) hB (by omega) s hlenp h4 h1 h2 h3
  · rintro D xs W hD hC ⟨sl, h1, h2, h3, h4⟩ hK
    refine S.ldA agg_api_Versions ⟨sl, low⟩ rfl h1.at rfl ?_
    have hsw := Cuts.sweep hs low hC
    rw [List.take_length] at hsw
    rw [← hsw] at h2
    refine S.stA agg_api_Versions (hZ3.bel h3) rfl rfl rfl fun W5 hR5 hg5 => ?_
    have hDW : D < W.heap.size := (Array.getElem?_eq_some_iff.1 hK).1
    have hw37 := b37.le
    have hK5 : W5.heap[D]? = some (.deferred (some [])) := (hg5.block D hDW (fun e => by have := Option.some.inj e; omega)).trans hK
    refine ⟨hK5, ?_⟩
    have hgd := shut_grown W5 D
    have hr : ∀ r, some D = some r → w7.heap.size ≤ r ∧ ∃ o : Obj, W5.heap[r]? = some o ∧ o.isCells = false := fun r e => by cases e; exact ⟨hD, _, hK5, rfl⟩
    refine R.agg agg_api_Versions ⟨sl, low⟩ rfl (hR5.notwalk hgd hr).at rfl ?_
    refine H sl _ w7.heap.size b07.le (OwnS.notwalk (h2.kept hg5 ?_) hgd hr) (((b03.trans h3).grown hg5 fun r hr => by cases hr; omega).notwalk b07.le hgd hr)
    cases ho : (Sl.v sl).ownBlock with
    | none => exact .inl rfl
    | some q => exact .inr fun e => by have h8 := h2.lo ho; have h9 := Option.some.inj e; omega
  · exact fun D pre W h1 h2 h3 h4 => trivial
end Go.Proofs.Ytealcoghiaeiiaa.VG
