/- The program's Streams: the streams of a good log, in order; no condition. -/
import Derived.Test.YtlghlmoifjcgoaaEvKeysC
import Derived.Test.YtlghlmoifjcgoaaEvChk
set_option linter.unusedVariables false
namespace Go.Proofs.Ytlghlmoifjcgoaa.VG
open Go.VB Go.VB.Srt Go.Proofs Go.RowKit

theorem isStr_of {l : List Ev} {xs ys : List ByteArray} (hn : xs.Nodup) (hm : ∀ x, x ∈ xs ↔ ∃ e ∈ l, e.Stream = x) (hp : ys.Perm xs) (hs : ys.Pairwise (fun x y => Le sLt x y)) : IsStr l ys := by
  have hny : ys.Nodup := hp.nodup_iff.2 hn
  refine ⟨?_, fun x => (hp.mem_iff).trans (hm x)⟩
  refine (hs.and hny).imp fun {x y} h => ?_
  exact sLt_tot (fun e => by have h1 : sLt y x = false := h.1; rw [e] at h1; cases h1) (fun e => h.2 e.symm)
theorem estreams_ok {w : World} {x0 : Sl} {l : List Ev} (h : EvRd w x0 l) {k : Sl → Int → World → Prop}
    (H : ∀ r w' t, StrRd w' r t → (if chk l = 0 then IsStr l t else t = []) → Bel w w' → k r (chk l) w') :
    Cl Try.prog fn_events_Streams [Sl.v x0].toArray w (fun e w' => ∃ (r0 : Sl) (r1 : Int), e = .returned (.tuple [Sl.v r0, .int .i64 r1].toArray) ∧ k r0 r1 w') := by
  refine L1_events_Streams x0 w k ?_
  have hbig := h.big; have hcap := h.cap; have hlen := h.len
  unfold V_events_Streams
  refine echeck_ok h fun w1 hb1 => ?_
  refine ⟨fun hc => H Sl.none w1 [] (Rd.nil _ _ _) (by rw [if_neg hc]) hb1, fun hc => ?_⟩
  have hc0 : chk l = 0 := Classical.not_not.1 hc
  have hgood : Good l := Classical.byContradiction fun hn => by have h9 := chk_bad hn; rw [hc0] at h9; cases h9
  have hgl := hgood.1
  refine S.make (ek := Value.string) (ev := T_s61.v) fun hM => ?_
  have hb2 : Bel w (w1.alloc (.map #[] 0)) := hb1.trans (Bel.alloc _ _)
  have hle1 := hb1.le
  generalize hB : w1.heap.size = B at hM hle1 ⊢
  generalize (w1.alloc (.map #[] 0)) = w2 at hM hb2 ⊢
  refine ⟨fun x W => ∃ (n : Nat) (f : ByteArray → Option T_s61), x = (n : Int) ∧ n ≤ l.length ∧ Bel w W ∧ MapIs Value.string T_s61.v W B f ∧ ∀ s, (∃ v, f s = some v) ↔ ∃ e ∈ l.take n, e.Stream = s, fun x _ => (x0.len - x).toNat, ?_, ?_⟩
  · exact ⟨0, _, rfl, by omega, hb2, hM, fun s => by simp⟩
  rintro x W ⟨n, f, rfl, hn, hb, hm, hf⟩
  unfold V_events_Streams_l1b
  refine ⟨fun hlt => ?_, fun hlt => ?_⟩
  · obtain ⟨e, he⟩ := getL (l := l) (i := (n : Int)) (by omega) (by omega)
    have he' : l[n]? = some e := by simpa using he
    refine S.idx (h.bel hb) und_L_api_Event esz_L_api_Event (by omega) he fun ad hA => ?_
    refine S.ldA agg_api_Event e rfl hA rfl ?_
    refine S.new new_api_Event rfl agg_api_Event (cs := e.cells) rfl rfl rfl ?_
    have hbox := At.new W e.cells ty_api_Event
    have hb3 : Bel W (W.alloc (.cells e.cells.toArray ty_api_Event)) := Bel.alloc _ _
    generalize W.heap.size = Q at hbox ⊢
    generalize (W.alloc (.cells e.cells.toArray ty_api_Event)) = w3 at hbox hb3 ⊢
    refine S.fld fld_api_Event_Stream one_string hbox e.Stream rfl ?_
    refine ⟨⟨⟩, w3, by kernel_rfl, ?_⟩
    refine S.put (hm.bel hb3) key_str und_map_string_struct e.Stream ⟨⟩ fun w4 hm4 hg4 => ?_
    have hb4 : Bel w w4 := (hb.trans hb3).grown hg4 (fun q hq => by cases hq; exact hle1)
    rw [wr64 (by omega) (by omega)]
    refine ⟨⟨n + 1, _, by omega, by omega, hb4, hm4, fun s => ?_⟩, by dsimp only; omega⟩
    have hlt' : n < l.length := by omega
    rw [List.take_add_one, he']
    by_cases hs : s = e.Stream
    · subst hs
      rw [upd_same]
      exact ⟨fun _ => ⟨e, by simp, rfl⟩, fun _ => ⟨_, rfl⟩⟩
    · rw [upd_other _ _ hs, hf s]
      constructor
      · rintro ⟨e', h1, h2⟩; exact ⟨e', List.mem_append_left _ h1, h2⟩
      · rintro ⟨e', h1, h2⟩
        rcases List.mem_append.1 h1 with h1 | h1
        · exact ⟨e', h1, h2⟩
        · simp at h1; subst h1; exact absurd h2.symm hs
  · obtain rfl : n = l.length := by omega
    rw [List.take_length] at hf
    refine keys_ok hm (dom := l.map (·.Stream)) (fun x v hx => by
      obtain ⟨e, h1, h2⟩ := (hf x).1 ⟨v, hx⟩
      exact List.mem_map.2 ⟨e, h1, h2⟩) fun v w3 hs hb3 => ?_
    refine sortedKeys_ok hs (by rw [List.length_map]; omega) fun r w4 xs ys base hbs hS hp hpw hO hb4 => ?_
    rw [← hc0]
    refine H r w4 ys (StrOwn.rd hO) ?_ ((hb.trans hb3).trans hb4)
    rw [if_pos hc0]
    exact isStr_of hS.1 (fun x => (hS.2 x).trans (hf x)) hp hpw
end Go.Proofs.Ytlghlmoifjcgoaa.VG
