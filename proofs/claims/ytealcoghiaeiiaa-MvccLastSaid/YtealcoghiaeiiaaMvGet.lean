/- What a key is as of a time, when it became so; copies; sameness; no condition. -/
import Derived.Test.YtealcoghiaeiiaaMvChk
set_option linter.unusedVariables false
namespace Go.Proofs.Ytealcoghiaeiiaa.VG
open Go.VB Go.VB.Srt Go.Proofs Go.RowKit

theorem seen_ok {w : World} {x0 : T_api_Versions} {l : List Ver} (h : VerRd w x0.List l) (key : ByteArray) (t : Int) {k : ByteArray → Bool → World → Prop}
    (H : ∀ w', Bel w w' → k (outV (sees l key t)).1 (outV (sees l key t)).2 w') :
    Cl Try.prog fn_ladingref09_seen [T_api_Versions.v x0, .string key, .int .u64 t].toArray w (fun e w' => ∃ (r0 : ByteArray) (r1 : Bool), e = .returned (.tuple [.string r0, .bool r1].toArray) ∧ k r0 r1 w') := by
  refine L1_ladingref09_seen x0 key t w k ?_
  have hbig := h.big; have hcap := h.cap; have hlen := h.len
  unfold V_ladingref09_seen
  refine S.boxW (cs := x0.cells) rfl fun B w1 b1 hV _ => ?_
  refine S.fld fld_api_Versions_List one_L_api_Version hV.at x0.List rfl ?_
  refine ⟨fun x y i W => ∃ n : Nat, i = (n : Int) ∧ n ≤ l.length ∧ Bel w1 W ∧ x = (outV (sees (l.take n) key t)).1 ∧ y = (outV (sees (l.take n) key t)).2, fun _ _ i _ => (x0.List.len - i).toNat, ⟨0, rfl, by omega, Bel.refl _, rfl, rfl⟩, ?_⟩
  rintro x y i W ⟨n, rfl, hn, hb, rfl, rfl⟩
  have b01 := b1.trans hb
  unfold V_ladingref09_seen_l1b
  refine ⟨fun hlt => ?_, fun hlt => ?_⟩
  case refine_2 =>
    obtain rfl : n = l.length := by omega
    rw [List.take_length]
    exact H W b01
  obtain ⟨e, he⟩ := getV (l := l) (n := n) (by omega)
  have hss := sees_succ he key t
  refine S.idx (h.bel b01) und_L_api_Version esz_L_api_Version (by omega) (x := e) (by simpa using he) fun ad hA => ?_
  refine S.ldA agg_api_Version e rfl hA rfl ?_
  refine S.newW new_api_Version rfl agg_api_Version (cs := e.cells) rfl rfl rfl fun C w2 b2 hX _ => ?_
  have no : ∀ K : ByteArray → Bool → Int → World → Prop, K (outV (sees (l.take n) key t)).1 (outV (sees (l.take n) key t)).2 (IntKind.wrap .i64 ((n : Int) + 1)) w2 → V_ladingref09_seen_r3 (outV (sees (l.take n) key t)).1 (outV (sees (l.take n) key t)).2 n K (some ⟨C, 0, none⟩) false w2 := by
    intro K hK
    unfold V_ladingref09_seen_r3 V_ladingref09_seen_j2
    exact ⟨fun h => (nomatch h), fun _ => hK⟩
  refine S.fld fld_api_Version_Key one_string hX.at e.Key rfl ?_
  refine ⟨fun hk => ?_, fun hk => no _ ?_⟩
  case refine_2 =>
    rw [wr64 (by omega) (by omega)]
    exact ⟨⟨n + 1, by omega, by omega, hb.trans b2, by rw [hss, if_neg (fun h => hk h.1)], by rw [hss, if_neg (fun h => hk h.1)]⟩, by dsimp only; omega⟩
  refine S.fld fld_api_Version_At one_uint64 hX.at e.At rfl ?_
  by_cases ht : e.At ≤ t
  case neg =>
    rw [decide_eq_false ht]
    refine no _ ?_
    rw [wr64 (by omega) (by omega)]
    exact ⟨⟨n + 1, by omega, by omega, hb.trans b2, by rw [hss, if_neg (fun h => ht h.2)], by rw [hss, if_neg (fun h => ht h.2)]⟩, by dsimp only; omega⟩
  rw [decide_eq_true ht]
  unfold V_ladingref09_seen_r3
  refine ⟨fun _ => ?_, fun h => (nomatch h)⟩
  refine Q.fld fld_api_Version_Val one_string hX.at e.Val rfl ?_
  refine Q.fld fld_api_Version_Gone one_bool hX.at e.Gone rfl ?_
  intro w3 b3
  unfold V_ladingref09_seen_j2
  rw [wr64 (by omega) (by omega)]
  exact ⟨⟨n + 1, by omega, by omega, (hb.trans b2).trans b3, by rw [hss, if_pos ⟨hk, ht⟩]; rfl, by rw [hss, if_pos ⟨hk, ht⟩]; rfl⟩, by dsimp only; omega⟩
theorem rget_ok {w : World} {x0 : T_api_Versions} {l : List Ver} (h : VerRd w x0.List l) (key : ByteArray) (t : Int) {k : ByteArray → Bool → Int → World → Prop}
    (H : ∀ w', Bel w w' → k (vget l x0.Low key t).1 (vget l x0.Low key t).2.1 (vget l x0.Low key t).2.2 w') :
    Cl Try.prog fn_ladingref09_Get [T_api_Versions.v x0, .string key, .int .u64 t].toArray w (fun e w' => ∃ (r0 : ByteArray) (r1 : Bool) (r2 : Int), e = .returned (.tuple [.string r0, .bool r1, .int .i64 r2].toArray) ∧ k r0 r1 r2 w') := by
  refine L1_ladingref09_Get x0 key t w k ?_
  unfold V_ladingref09_Get
  refine S.boxW (cs := x0.cells) rfl fun B w1 b1 hV _ => ?_
  refine S.ldA agg_api_Versions x0 rfl hV.at rfl ?_
  refine rasked_ok (h.bel b1) t fun w2 b2 => ?_
  have b02 := b1.trans b2
  unfold vget at H
  refine ⟨fun hc => ?_, fun hc => ?_⟩
  · rw [if_pos hc] at H; exact H w2 b02
  · rw [if_neg hc] at H
    refine S.ldA agg_api_Versions x0 rfl (hV.bel b2).at rfl ?_
    exact seen_ok (h.bel b02) key t fun w3 b3 => H w3 (b02.trans b3)
theorem mget_ok {w : World} {x0 : T_api_Versions} {l : List Ver} (h : VerRd w x0.List l) (key : ByteArray) (t : Int) {k : ByteArray → Bool → Int → World → Prop}
    (H : ∀ w', Bel w w' → k (vget l x0.Low key t).1 (vget l x0.Low key t).2.1 (vget l x0.Low key t).2.2 w') :
    Cl Try.prog fn_mvcc_Get [T_api_Versions.v x0, .string key, .int .u64 t].toArray w (fun e w' => ∃ (r0 : ByteArray) (r1 : Bool) (r2 : Int), e = .returned (.tuple [.string r0, .bool r1, .int .i64 r2].toArray) ∧ k r0 r1 r2 w') := by
  refine L1_mvcc_Get x0 key t w k ?_
  unfold V_mvcc_Get
  refine S.boxW (cs := x0.cells) rfl fun B w1 b1 hV _ => ?_
  refine S.ldA agg_api_Versions x0 rfl hV.at rfl ?_
  refine masked_ok (h.bel b1) t fun w2 b2 => ?_
  have b02 := b1.trans b2
  unfold vget at H
  refine ⟨fun hc => ?_, fun hc => ?_⟩
  · rw [if_pos hc] at H; exact H w2 b02
  rw [if_neg hc] at H
  have hg := (vask_zero.1 (Classical.not_not.1 hc)).1
  refine S.fld fld_api_Versions_List one_L_api_Version (hV.bel b2).at x0.List rfl ?_
  refine last_ok (h.bel b02) hg.sorted key t fun w3 b3 => ?_
  refine S.newW new_api_Version rfl agg_api_Version (cs := (verOr (sees l key t)).cells) rfl rfl rfl fun C w4 b4 hX _ => ?_
  have b04 := (b02.trans b3).trans b4
  refine Q.fld fld_api_Version_Val one_string hX.at (verOr (sees l key t)).Val rfl ?_
  cases hs : sees l key t with
  | none =>
    refine ⟨fun h => (nomatch h), fun _ => ?_⟩
    intro w5 b5
    rw [hs] at H
    exact H w5 (b04.trans b5)
  | some x =>
    refine ⟨fun _ => ?_, fun h => (nomatch h)⟩
    rw [hs] at hX
    refine Q.fld fld_api_Version_Gone one_bool hX.at x.Gone rfl ?_
    intro w5 b5
    rw [hs] at H
    exact H w5 (b04.trans b5)
theorem lastAt_succ {l : List Ver} {n : Nat} {x : Ver} (h : l[n]? = some x) (key : ByteArray) : lastAt (l.take (n + 1)) key = if x.Key = key then x.At else lastAt (l.take n) key := by
  unfold lastAt
  rw [take_one h, List.filter_append, List.getLast?_append]
  by_cases hk : x.Key = key
  · rw [if_pos hk]
    have : ([x].filter fun x => decide (x.Key = key)) = [x] := by simp [hk]
    rw [this]; rfl
  · rw [if_neg hk]
    have : ([x].filter fun x => decide (x.Key = key)) = [] := by simp [hk]
    rw [this]; rfl
theorem lastAt_sees {l : List Ver} (h : ∀ x ∈ l, x.At ≤ 2305843009213693952) (key : ByteArray) : (verOr (sees l key 2305843009213693952)).At = lastAt l key := by
  unfold sees lastAt
  have : (l.filter fun x => decide (x.Key = key) && decide (x.At ≤ 2305843009213693952)) = l.filter fun x => decide (x.Key = key) := by
    apply List.filter_congr
    intro x hx
    simp [h x hx]
  rw [this]
  cases (l.filter fun x => decide (x.Key = key)).getLast? <;> rfl
theorem rlast_ok {w : World} {x0 : T_api_Versions} {l : List Ver} (h : VerRd w x0.List l) (key : ByteArray) {k : Int → Int → World → Prop}
    (H : ∀ w', Bel w w' → k (vlast l x0.Low key).1 (vlast l x0.Low key).2 w') :
    Cl Try.prog fn_ladingref09_Last [T_api_Versions.v x0, .string key].toArray w (fun e w' => ∃ (r0 r1 : Int), e = .returned (.tuple [.int .u64 r0, .int .i64 r1].toArray) ∧ k r0 r1 w') := by
  refine L1_ladingref09_Last x0 key w k ?_
  have hbig := h.big; have hcap := h.cap; have hlen := h.len
  unfold V_ladingref09_Last
  refine S.boxW (cs := x0.cells) rfl fun B w1 b1 hV _ => ?_
  refine S.ldA agg_api_Versions x0 rfl hV.at rfl ?_
  refine rcheck_ok (h.bel b1) fun w2 b2 => ?_
  have b02 := b1.trans b2
  unfold vlast at H
  refine ⟨fun hc => ?_, fun hc => ?_⟩
  · rw [if_pos hc] at H; exact H w2 b02
  rw [if_neg hc] at H
  refine S.fld fld_api_Versions_List one_L_api_Version (hV.bel b2).at x0.List rfl ?_
  refine ⟨fun x i W => ∃ n : Nat, i = (n : Int) ∧ n ≤ l.length ∧ Bel w2 W ∧ x = lastAt (l.take n) key, fun _ i _ => (x0.List.len - i).toNat, ⟨0, rfl, by omega, Bel.refl _, rfl⟩, ?_⟩
  rintro x i W ⟨n, rfl, hn, hb, rfl⟩
  have b03 := b02.trans hb
  unfold V_ladingref09_Last_l1b
  refine ⟨fun hlt => ?_, fun hlt => ?_⟩
  case refine_2 =>
    obtain rfl : n = l.length := by omega
    rw [List.take_length]
    exact H W b03
  obtain ⟨e, he⟩ := getV (l := l) (n := n) (by omega)
  have hss := lastAt_succ he key
  refine S.idx (h.bel b03) und_L_api_Version esz_L_api_Version (by omega) (x := e) (by simpa using he) fun ad hA => ?_
  refine S.ldA agg_api_Version e rfl hA rfl ?_
  refine S.newW new_api_Version rfl agg_api_Version (cs := e.cells) rfl rfl rfl fun C w4 b4 hX _ => ?_
  refine S.fld fld_api_Version_Key one_string hX.at e.Key rfl ?_
  refine ⟨fun hk => ?_, fun hk => ?_⟩
  · refine S.fld fld_api_Version_At one_uint64 hX.at e.At rfl ?_
    unfold V_ladingref09_Last_j2
    rw [wr64 (by omega) (by omega)]
    exact ⟨⟨n + 1, by omega, by omega, hb.trans b4, by rw [hss, if_pos hk]⟩, by dsimp only; omega⟩
  · unfold V_ladingref09_Last_j2
    rw [wr64 (by omega) (by omega)]
    exact ⟨⟨n + 1, by omega, by omega, hb.trans b4, by rw [hss, if_neg hk]⟩, by dsimp only; omega⟩
theorem mlast_ok {w : World} {x0 : T_api_Versions} {l : List Ver} (h : VerRd w x0.List l) (key : ByteArray) {k : Int → Int → World → Prop}
    (H : ∀ w', Bel w w' → k (vlast l x0.Low key).1 (vlast l x0.Low key).2 w') :
    Cl Try.prog fn_mvcc_Last [T_api_Versions.v x0, .string key].toArray w (fun e w' => ∃ (r0 r1 : Int), e = .returned (.tuple [.int .u64 r0, .int .i64 r1].toArray) ∧ k r0 r1 w') := by
  refine L1_mvcc_Last x0 key w k ?_
  unfold V_mvcc_Last
  refine S.boxW (cs := x0.cells) rfl fun B w1 b1 hV _ => ?_
  refine S.ldA agg_api_Versions x0 rfl hV.at rfl ?_
  refine mcheck_ok (h.bel b1) fun w2 b2 => ?_
  have b02 := b1.trans b2
  unfold vlast at H
  refine ⟨fun hc => ?_, fun hc => ?_⟩
  · rw [if_pos hc] at H; exact H w2 b02
  rw [if_neg hc] at H
  have hg := vchk_zero.1 (Classical.not_not.1 hc)
  refine S.fld fld_api_Versions_List one_L_api_Version (hV.bel b2).at x0.List rfl ?_
  refine last_ok (h.bel b02) hg.sorted key 2305843009213693952 fun w3 b3 => ?_
  refine S.newW new_api_Version rfl agg_api_Version (cs := (verOr (sees l key 2305843009213693952)).cells) rfl rfl rfl fun C w4 b4 hX _ => ?_
  refine S.fld fld_api_Version_At one_uint64 hX.at (verOr (sees l key 2305843009213693952)).At rfl ?_
  rw [lastAt_sees (fun x hx => (hg.made hx).hi)]
  exact H w4 ((b02.trans b3).trans b4)

theorem ver_app1 {base : Nat} {w0 w : World} {s : Sl} {l : List Ver} {x : Ver} {k : Sl → World → Prop} (hO : VerOwn base w s l) (hB : Bel w0 w) (hb : w0.heap.size ≤ base) (hbw : base ≤ w.heap.size) (room : l.length + 1 ≤ 2932031007402)
    (H : ∀ s' w', VerOwn base w' s' (l ++ [x]) → Bel w0 w' → w.grownBy w' (Sl.v s).ownBlock → k s' w') :
    opE Try.prog Sl.v (Instr.buildSlice ty_L_api_Version 1 [(0, T_api_Version.v x)].toArray) w (fun y w => opE Try.prog Sl.v (Builtin.append_ #[ty_L_api_Version, ty_L_api_Version] ty_L_api_Version [Sl.v s, Sl.v y].toArray) w k) :=
  S.app1 hO (fun _ => rfl) (fun _ => rfl) (by decide) und_L_api_Version einf_L_api_Version rfl (by decide) (bs1_L_api_Version x) hB hb hbw (by omega) H
theorem ver_app {base : Nat} {w0 w : World} {s y : Sl} {l m : List Ver} {k : Sl → World → Prop} (hO : VerOwn base w s l) (hy : VerRd w y m) (hB : Bel w0 w) (hb : w0.heap.size ≤ base) (hbw : base ≤ w.heap.size) (room : l.length + m.length ≤ 2932031007402)
    (H : ∀ s' w', VerOwn base w' s' (l ++ m) → Bel w0 w' → w.grownBy w' (Sl.v s).ownBlock → k s' w') :
    opE Try.prog Sl.v (Builtin.append_ #[ty_L_api_Version, ty_L_api_Version] ty_L_api_Version [Sl.v s, Sl.v y].toArray) w k :=
  S.app hO hy (fun _ => rfl) (fun _ => rfl) (by decide) und_L_api_Version einf_L_api_Version rfl (by decide) hB hb hbw (by omega) H
theorem copy_ok {w : World} {x0 : T_api_Versions} {l : List Ver} (h : VerRd w x0.List l) (room : l.length ≤ 2932031007402) {k : T_api_Versions → World → Prop}
    (H : ∀ r w' base, w.heap.size ≤ base → base ≤ w'.heap.size → VerOwn base w' r l → Bel w w' → k ⟨r, x0.Low⟩ w') :
    Cl Try.prog fn_ladingref09_Copy [T_api_Versions.v x0].toArray w (fun e w' => ∃ r0 : T_api_Versions, e = .returned (T_api_Versions.v r0) ∧ k r0 w') := by
  refine L1_ladingref09_Copy x0 w k ?_
  unfold V_ladingref09_Copy
  refine S.boxW (cs := x0.cells) rfl fun B1 w1 b1 hV hB1 => ?_
  refine S.new1W new_api_Versions fun B2 w2 b2 hZ hB2 => ?_
  have hne : B2 ≠ B1 := by have := hV.lt; omega
  have b02 := b1.trans b2
  refine ⟨fun W => Row W B1 x0.cells ty_api_Versions, fun w3 b3 => ⟨(hV.bel b2).bel b3, ?_⟩⟩
  have b03 := b02.trans b3
  refine K.fa fld_api_Versions_List ?_
  refine K.fa fld_api_Versions_Low ?_
  refine K.ld1 one_L_api_Version x0.List (fun W hW => hW.at.fld rfl) ?_
  refine K.ld1 one_uint64 x0.Low (fun W hW => hW.at.fld rfl) ?_
  have b4 := Bel.alloc w3 (.cells #[] ty_api_Version)
  refine ⟨_, _, bs0_L_api_Version w3, ((hV.bel b2).bel b3).bel b4, ?_⟩
  refine ver_app (w0 := w3) (OwnS.lit0 (Nat.le_refl _)) ((h.bel b03).bel b4) b4 (Nat.le_refl _) (by rw [size_alloc']; omega) (by simpa using room) fun r w5 hO b5 _ => ?_
  rw [List.nil_append] at hO
  refine ⟨((hV.bel b2).bel b3).bel b5, ?_⟩
  refine ⟨⟨r, x0.Low⟩, fun W _ => by kernel_rfl, ?_⟩
  refine S.stA agg_api_Versions ((hZ.bel b3).bel b5) rfl rfl rfl fun w6 hR hg => ?_
  refine ⟨(((hV.bel b2).bel b3).bel b5).grown hg (fun e => hne (Option.some.inj e)), ?_⟩
  refine R.agg agg_api_Versions ⟨r, x0.Low⟩ rfl hR.at rfl ?_
  have hB2' := hZ.lt
  have hle := b3.le
  have hO6 : VerOwn w3.heap.size w6 r l := hO.kept hg (by
    cases ho : (Sl.v r).ownBlock with
    | none => exact .inl rfl
    | some q => exact .inr (fun e => by have h1 := hO.lo ho; cases e; omega))
  refine H r w6 w3.heap.size b03.le ?_ hO6 ((b03.trans b5).grown hg (fun q hq => by cases hq; have := b1.le; omega))
  exact Nat.le_trans b5.le hg.size
theorem Q.neqV {w : World} {x y : Ver} {o1 o2 : Operand} {k : Bool → Prop} (H : ∀ b : Bool, (b = true ↔ ¬ x = y) → k b) :
    opB Try.prog Value.bool (do eqGuard .neq ty_api_Version o1 o2 (T_api_Version.v x) (T_api_Version.v y); binOp .neq ty_api_Version (T_api_Version.v x) (T_api_Version.v y)) w k := by
  obtain ⟨r, h1, h2⟩ := neq_api_Version x y o1 o2
  exact ⟨r, fun w' _ => h1 w', H r h2⟩
theorem take_eq_succ {α : Type} {l m : List α} {n : Nat} {e : α} (h : l.take n = m.take n) (h1 : l[n]? = some e) (h2 : m[n]? = some e) : l.take (n + 1) = m.take (n + 1) := by
  rw [take_one h1, take_one h2, h]
theorem same_ok {w : World} {x0 x1 : T_api_Versions} {l m : List Ver} (h : VerRd w x0.List l) (h' : VerRd w x1.List m) {k : Bool → World → Prop} (H : ∀ r w', (r = true ↔ l = m ∧ x0.Low = x1.Low) → Bel w w' → k r w') :
    Cl Try.prog fn_ladingref09_Same [T_api_Versions.v x0, T_api_Versions.v x1].toArray w (fun e w' => ∃ r0 : Bool, e = .returned (.bool r0) ∧ k r0 w') := by
  refine L1_ladingref09_Same x0 x1 w k ?_
  have hbig := h.big; have hcap := h.cap; have hlen := h.len; have hlen' := h'.len
  unfold V_ladingref09_Same
  refine S.boxW (cs := x0.cells) rfl fun B1 w1 b1 hV1 hB1 => ?_
  refine S.boxW (cs := x1.cells) rfl fun B2 w2 b2 hV2 hB2 => ?_
  have b02 := b1.trans b2
  replace hV1 := hV1.bel b2
  refine S.fld fld_api_Versions_Low one_uint64 hV1.at x0.Low rfl ?_
  refine S.fld fld_api_Versions_Low one_uint64 hV2.at x1.Low rfl ?_
  have r1t : ¬ (l = m ∧ x0.Low = x1.Low) → V_ladingref09_Same_r1 k (some ⟨B1, 0, none⟩) (some ⟨B2, 0, none⟩) true w2 := fun hn => ⟨fun _ => H false w2 ⟨fun h => (nomatch h), fun h => absurd h hn⟩ b02, fun h => (nomatch h)⟩
  refine ⟨fun hc => r1t (fun h => hc h.2), fun hc => ?_⟩
  refine S.fld fld_api_Versions_List one_L_api_Version hV1.at x0.List rfl ?_
  refine S.fld fld_api_Versions_List one_L_api_Version hV2.at x1.List rfl ?_
  by_cases hll : (x0.List.len : Int) = (x1.List.len : Int)
  case neg => rw [decide_eq_true hll]; exact r1t (fun h => hll (by rw [← hlen, ← hlen', h.1]))
  rw [decide_eq_false (fun h => h hll)]
  unfold V_ladingref09_Same_r1
  refine ⟨fun h => (nomatch h), fun _ => ?_⟩
  refine S.fld fld_api_Versions_List one_L_api_Version hV1.at x0.List rfl ?_
  have hlow : x0.Low = x1.Low := Classical.not_not.1 hc
  refine ⟨fun x W => ∃ n : Nat, x = (n : Int) ∧ n ≤ l.length ∧ Bel w2 W ∧ l.take n = m.take n, fun x _ => (x0.List.len - x).toNat, ⟨0, rfl, by omega, Bel.refl _, rfl⟩, ?_⟩
  rintro x W ⟨n, rfl, hn, hb, hq⟩
  have b0W := b02.trans hb
  unfold V_ladingref09_Same_l2b
  refine ⟨fun hlt => ?_, fun hlt => ?_⟩
  · obtain ⟨e, he⟩ := getV (l := l) (n := n) (by omega)
    obtain ⟨f, hf⟩ := getV (l := m) (n := n) (by omega)
    refine Q.fld fld_api_Versions_List one_L_api_Version (hV1.bel hb).at x0.List rfl ?_
    refine Q.idx (h.bel b0W) und_L_api_Version esz_L_api_Version (by omega) (x := e) (by simpa using he) fun ad hA => ?_
    refine Q.ldA agg_api_Version e rfl hA rfl ?_
    refine Q.fld fld_api_Versions_List one_L_api_Version (hV2.bel hb).at x1.List rfl ?_
    refine Q.idx (h'.bel b0W) und_L_api_Version esz_L_api_Version (by omega) (x := f) (by simpa using hf) fun ad hA => ?_
    refine Q.ldA agg_api_Version f rfl hA rfl ?_
    refine Q.neqV fun b hbb => ?_
    intro w3 b3
    refine ⟨fun ht => H false w3 ⟨fun h => (nomatch h), fun h => ?_⟩ (b0W.trans b3), fun hf0 => ?_⟩
    · rw [h.1] at he; rw [he] at hf; exact absurd (Option.some.inj hf) (hbb.1 ht)
    · have hef : e = f := Classical.not_not.1 fun h => by rw [hbb.2 h] at hf0; cases hf0
      subst hef
      rw [wr64 (by omega) (by omega)]
      exact ⟨⟨n + 1, by omega, by omega, hb.trans b3, take_eq_succ hq he hf⟩, by dsimp only; omega⟩
  · obtain rfl : n = l.length := by omega
    refine H true W ⟨fun _ => ⟨?_, hlow⟩, fun _ => rfl⟩ b0W
    rw [List.take_length, List.take_of_length_le (by omega)] at hq
    exact hq
end Go.Proofs.Ytealcoghiaeiiaa.VG
