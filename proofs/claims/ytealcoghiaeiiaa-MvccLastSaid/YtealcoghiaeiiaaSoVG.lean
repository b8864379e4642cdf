/- The library's sort of a row by a function that compares: the whole; no condition. -/
import Derived.Test.YtealcoghiaeiiaaSoVF
set_option linter.unusedVariables false
namespace Go.Proofs.Ytealcoghiaeiiaa.VG
open Go.VB Go.VB.Srt Go.Proofs

namespace SoCmpFunc_api_Version
section
variable {cmp : Value} {lt : T_api_Version → T_api_Version → Bool} (O : SWO lt) (hcmp : Cmps cmp lt) {base : Nat}
include O hcmp
theorem pdq_ok : ∀ (n : Nat) {w : World} {s : Sl} {L : Nat} {f : Nat → T_api_Version} (hO : Ow base w s (tab f L)) {a b : Nat} (hab : a ≤ b) (hn : b - a ≤ n) (hb : b ≤ L) (hpre : Pre lt a b f) (lim : Int) {k : World → Prop}
    (H : ∀ g w', Seg a b f g → Sorted lt a b g → Ow base w' s (tab g L) → w.grownBy w' (Sl.v s).ownBlock → k w'),
    Cl Try.prog fn_slices_pdqsortCmpFunc_api_Version [Sl.v s, .int .i64 (a : Int), .int .i64 (b : Int), .int .i64 lim, cmp].toArray w (fun e w' => e = .returned (.tuple [].toArray) ∧ k w') := by
  intro n
  induction n with
  | zero =>
    intro w s L f hO a b hab hn hb hpre lim k H
    refine L1_slices_pdqsortCmpFunc_api_Version s a b lim cmp w k ?_
    have hlen := hO.len; have hsm := hO.small
    rw [tab_len] at hlen
    unfold V_slices_pdqsortCmpFunc_api_Version
    refine ⟨fun x y _ _ _ w1 => x = (a : Int) ∧ y = (b : Int) ∧ w1 = w, fun _ _ _ _ _ _ => 0, ⟨rfl, rfl, rfl⟩, ?_⟩
    rintro x y z p q w1 ⟨rfl, rfl, rfl⟩
    unfold V_slices_pdqsortCmpFunc_api_Version_l1b
    rw [wr64 (n := (b : Int) - a) (by omega) (by omega)]
    refine ⟨fun _ => ?_, fun h => by omega⟩
    exact insertion_ok O hcmp hO hab hb H
  | succ n ih =>
    intro w s L f hO a b hab hn hb hpre lim k H
    refine L1_slices_pdqsortCmpFunc_api_Version s a b lim cmp w k ?_
    have hlen := hO.len; have hsm := hO.small
    rw [tab_len] at hlen
    unfold V_slices_pdqsortCmpFunc_api_Version
    refine ⟨fun x y _ _ _ w1 => ∃ (a1 b1 : Nat) (g : Nat → T_api_Version), x = (a1 : Int) ∧ y = (b1 : Int) ∧ a1 ≤ b1 ∧ Inv lt a b a1 b1 f g ∧ Ow base w1 s (tab g L) ∧ w.grownBy w1 (Sl.v s).ownBlock, fun x y _ _ _ _ => (y - x).toNat, ⟨a, b, f, rfl, rfl, hab, Inv.start a b f, hO, World.grownBy.refl _ _⟩, ?_⟩
    rintro x y z p q w1 ⟨a1, b1, g, rfl, rfl, hab1, hinv, hO1, hg1⟩
    have hA := hinv.ha; have hB := hinv.hb
    unfold V_slices_pdqsortCmpFunc_api_Version_l1b
    generalize hKl : (fun (x1_1' x2_1' x3_1' : Int) (x10' x11' : Bool) (w' : World) => (∃ (a1 b1 : Nat) (g : Nat → T_api_Version), x1_1' = (a1 : Int) ∧ x2_1' = (b1 : Int) ∧ a1 ≤ b1 ∧ Inv lt a b a1 b1 f g ∧ Ow base w' s (tab g L) ∧ w.grownBy w' (Sl.v s).ownBlock) ∧ (x2_1' - x1_1').toNat < ((b1 : Int) - (a1 : Int)).toNat) = Kl
    have hwn : IntKind.wrap .i64 ((b1 : Int) - a1) = (b1 : Int) - a1 := wr64 (by omega) (by omega)
    rw [hwn]
    have fin : ∀ (h : Nat → T_api_Version) (w2 : World), Seg a1 b1 g h → Sorted lt a1 b1 h → Ow base w2 s (tab h L) → w1.grownBy w2 (Sl.v s).ownBlock → k w2 := fun h w2 h1 h2 h3 h4 =>
      H h w2 (hinv.turn h1).seg ((hinv.turn h1).fin h2) h3 (grown_trans hg1 h4)
    refine ⟨fun _ => insertion_ok O hcmp hO1 hab1 (by omega) fin, fun hc => ⟨fun _ => heap_ok O hcmp hO1 hab1 (by omega) fin, fun _ => ?_⟩⟩
    have hlt : a1 < b1 := by omega
    -- what is left, about a place
    have j4 : ∀ (h : Nat → T_api_Version) (w2 : World) (lim : Int) (v : Nat), Seg a1 b1 g h → Ow base w2 s (tab h L) → w1.grownBy w2 (Sl.v s).ownBlock → a1 ≤ v → v < b1 → V_slices_pdqsortCmpFunc_api_Version_j4 s cmp (a1 : Int) (b1 : Int) p q Kl lim (v : Int) w2 := by
      intro h w2 lim v hs2 hO2 hg2 hv1 hv2
      have hinv2 := hinv.turn hs2
      have hg02 := grown_trans hg1 hg2
      have away : ∀ w3, Bel w2 w3 → V_slices_pdqsortCmpFunc_api_Version_r5 s cmp (a1 : Int) (b1 : Int) p q Kl lim (v : Int) false w2 := by
        intro w3' hb3'
        intro w3 hb3
        refine ⟨fun h => (nomatch h), fun _ => ?_⟩
        have hg03 := grown_trans hg02 (grown_bel hb3 (Sl.v s).ownBlock)
        refine part_ok O hcmp (hO2.bel hb3) hv1 hv2 (by omega) fun m r h4 w4 hm1 hm2 hs4 hpk hO4 hg4 => ?_
        have hinv4 := hinv2.turn hs4
        have hg04 := grown_trans hg03 hg4
        refine S.quo (by decide) (by rw [hwn, Int.tdiv_eq_ediv_of_nonneg (by omega)]; omega) (by rw [hwn, Int.tdiv_eq_ediv_of_nonneg (by omega)]; omega) ?_
        rw [wr64 (n := (m : Int) - a1) (by omega) (by omega), wr64 (n := (b1 : Int) - m) (by omega) (by omega), wr64 (n := (m : Int) + 1) (by omega) (by omega), show (m : Int) + 1 = ((m + 1 : Nat) : Int) by omega]
        refine ⟨fun _ => ?_, fun _ => ?_⟩
        · refine ih hO4 hm1 (by omega) (by omega) (a := a1) (b := m) (by
            rcases hinv4.pre hpre with h5 | h5
            · exact .inl h5
            · exact .inr fun k h6 h7 => h5 k h6 (by omega)) lim fun h5 w5 hs5 hso5 hO5 hg5 => ?_
          have hs5' : Seg a1 b1 h4 h5 := hs5.mono (Nat.le_refl _) (by omega)
          rw [← hKl]
          exact ⟨⟨m + 1, b1, h5, rfl, rfl, by omega, (hinv4.turn hs5').goRight hm1 hm2 O (hpk.left hs5) hso5, hO5, grown_trans hg04 hg5⟩, by omega⟩
        · refine ih hO4 (a := m + 1) (b := b1) (by omega) (by omega) (by omega) (.inr fun k h6 h7 => hpk.hi k (by omega) h7) lim fun h5 w5 hs5 hso5 hO5 hg5 => ?_
          have hs5' : Seg a1 b1 h4 h5 := hs5.mono (by omega) (Nat.le_refl _)
          rw [← hKl]
          exact ⟨⟨a1, m, h5, rfl, rfl, hm1, (hinv4.turn hs5').goLeft hm1 hm2 O (hpk.right hs5) hso5, hO5, grown_trans hg04 hg5⟩, by omega⟩
      unfold V_slices_pdqsortCmpFunc_api_Version_j4
      refine ⟨fun ha0 => ?_, fun _ => away w2 (Bel.refl _)⟩
      refine Q.elem elemOk hO2 (i' := a1 - 1) (by rw [wr64 (by omega) (by omega)]; omega) (by omega) ?_
      refine Q.elem elemOk hO2 (i' := v) rfl (by omega) ?_
      obtain ⟨r, hr, hl⟩ := hcmp w2 (h (a1 - 1)) (h v)
      refine ⟨r, hr, ?_⟩
      rw [dec_lt hl]
      cases hlv : lt (h (a1 - 1)) (h v) with
      | true => exact away w2 (Bel.refl _)
      | false =>
        intro w3 hb3
        refine ⟨fun _ => ?_, fun h => (nomatch h)⟩
        have hg03 := grown_trans hg02 (grown_bel hb3 (Sl.v s).ownBlock)
        refine equal_ok O hcmp (hO2.bel hb3) hv1 hv2 (by omega) fun m h4 w4 hm1 hm2 hs4 heq hO4 hg4 => ?_
        have hinv4 := hinv2.turn hs4
        rw [← hKl]
        have hpre4 := hinv4.pre hpre
        refine ⟨⟨m, b1, h4, rfl, rfl, hm2, hinv4.goEqual (by omega) hm2 O (v := h4 (a1 - 1)) (fun q h1 h2 => ?_) (fun q h1 h2 => ?_), hO4, grown_trans hg03 hg4⟩, by omega⟩
        · rw [hs4.out (a1 - 1) (.inl (by omega))]
          exact O.trans (heq q h1 h2) hlv
        · rcases hpre4 with h5 | h5
          · omega
          · exact h5 q h1 h2
    have j3 : ∀ (h : Nat → T_api_Version) (w2 : World) (lim hint : Int) (v : Nat), Seg a1 b1 g h → Ow base w2 s (tab h L) → w1.grownBy w2 (Sl.v s).ownBlock → a1 ≤ v → v < b1 → V_slices_pdqsortCmpFunc_api_Version_j3 s cmp k (a1 : Int) (b1 : Int) p q Kl lim (v : Int) hint w2 := by
      intro h w2 lim hint v hs2 hO2 hg2 hv1 hv2
      have r7f : V_slices_pdqsortCmpFunc_api_Version_r7 s cmp k (a1 : Int) (b1 : Int) p q Kl lim (v : Int) false w2 := ⟨fun h => (nomatch h), fun _ => j4 h w2 lim v hs2 hO2 hg2 hv1 hv2⟩
      have r7t : V_slices_pdqsortCmpFunc_api_Version_r7 s cmp k (a1 : Int) (b1 : Int) p q Kl lim (v : Int) true w2 := by
        refine ⟨fun _ => ?_, fun h => (nomatch h)⟩
        refine partial_ok O hcmp hO2 hlt (by omega) ((hinv.turn hs2).pre hpre) fun r h3 w3 hs3 hso3 hO3 hg3 => ?_
        exact ⟨fun ht => fin h3 w3 (hs2.trans hs3) (hso3 ht) hO3 (grown_trans hg2 hg3), fun _ => j4 h3 w3 lim v (hs2.trans hs3) hO3 (grown_trans hg2 hg3) hv1 hv2⟩
      have r6 : ∀ c : Bool, V_slices_pdqsortCmpFunc_api_Version_r6 s cmp k (a1 : Int) (b1 : Int) p q Kl lim (v : Int) hint c w2 := by
        intro c
        refine ⟨fun _ => ?_, fun _ => r7f⟩
        by_cases hh : hint = 1
        · rw [decide_eq_true hh]; exact r7t
        · rw [decide_eq_false hh]; exact r7f
      unfold V_slices_pdqsortCmpFunc_api_Version_j3
      exact ⟨fun _ => r6 q, fun _ => r6 false⟩
    have j2 : ∀ (h : Nat → T_api_Version) (w2 : World) (lim : Int), Seg a1 b1 g h → Ow base w2 s (tab h L) → w1.grownBy w2 (Sl.v s).ownBlock → V_slices_pdqsortCmpFunc_api_Version_j2 s cmp k (a1 : Int) (b1 : Int) p q Kl lim w2 := by
      intro h w2 lim hs2 hO2 hg2
      unfold V_slices_pdqsortCmpFunc_api_Version_j2
      refine pivot_ok hcmp hO2 hlt (by omega) fun v hint w3 hv1 hv2 hb3 => ?_
      have hg3 := grown_trans hg2 (grown_bel hb3 (Sl.v s).ownBlock)
      refine ⟨fun _ => ?_, fun _ => j3 h w3 lim hint v hs2 (hO2.bel hb3) hg3 hv1 hv2⟩
      refine reverse_ok (hO2.bel hb3) hab1 (by omega) fun h4 w4 hs4 hO4 hg4 => ?_
      rw [wr64 (n := (b1 : Int) - 1) (by omega) (by omega), wr64 (n := (v : Int) - a1) (by omega) (by omega), wr64 (by omega) (by omega), show (b1 : Int) - 1 - (v - a1) = ((b1 - 1 - (v - a1) : Nat) : Int) by omega]
      exact j3 h4 w4 lim 1 _ (hs2.trans hs4) hO4 (grown_trans hg3 hg4) (by omega) (by omega)
    refine ⟨fun _ => ?_, fun _ => j2 g w1 _ (.refl g) hO1 (World.grownBy.refl _ _)⟩
    exact break_ok (w0 := w) hO1 hab1 (by omega) fun h w2 hs2 hO2 hg2 => j2 h w2 _ hs2 hO2 hg2

/-- slices.SortFunc: the same ones, in order; nothing else is turned. -/
theorem sort_ok {w : World} {s : Sl} {xs : List T_api_Version} (hO : Ow base w s xs) {k : World → Prop}
    (H : ∀ ys w', ys.Perm xs → ys.Pairwise (fun x y => Le lt x y) → Ow base w' s ys → w.grownBy w' (Sl.v s).ownBlock → k w') :
    Cl Try.prog fn_slices_SortFunc_api_Version_api_Version [Sl.v s, cmp].toArray w (fun e w' => e = .returned (.tuple [].toArray) ∧ k w') := by
  refine L1_slices_SortFunc_api_Version_api_Version s cmp w k ?_
  have hlen := hO.len; have hsm := hO.small
  unfold V_slices_SortFunc_api_Version_api_Version
  refine S.conv (by kernel_rfl) (by kernel_rfl) ?_
  rw [wru64 (by omega) (by omega)]
  refine len_ok (by omega) fun r hr => ?_
  cases xs with
  | nil =>
    have hl0 : s.len = 0 := by simpa using hlen.symm
    rw [hl0]
    refine pdq_ok O hcmp 0 (f := fun _ => ⟨ByteArray.mk #[], 0, ByteArray.mk #[], false⟩) (L := 0) (a := 0) (b := 0) hO (Nat.le_refl _) (Nat.le_refl _) (Nat.le_refl _) (.inl rfl) _ fun g w' _ _ hO' hg => ?_
    exact H [] w' (.refl _) .nil hO' hg
  | cons x0 xs =>
    obtain ⟨f, hf⟩ : ∃ f : Nat → T_api_Version, f = fun i => ((x0 :: xs)[i]?).getD x0 := ⟨_, rfl⟩
    have htab : tab f (x0 :: xs).length = x0 :: xs := tab_of _ f fun i y hy => by rw [hf]; simp only [hy, Option.getD_some]
    rw [← htab] at hO
    have hL : s.len = (x0 :: xs).length := hlen.symm
    rw [hL]
    refine pdq_ok O hcmp (x0 :: xs).length hO (a := 0) (Nat.zero_le _) (by omega) (Nat.le_refl _) (.inl rfl) _ fun g w' hsg hso hO' hg => ?_
    refine H (tab g (x0 :: xs).length) w' ?_ ?_ hO' hg
    · have := hsg.perm (Nat.le_refl _)
      rw [htab] at this; exact this
    · rw [List.pairwise_iff_getElem]
      intro i j hi hj hij
      rw [tab_len] at hi hj
      have e1 := tab_get g hi
      have e2 := tab_get g hj
      have := hso i j (Nat.zero_le _) hij hj
      rw [List.getElem?_eq_getElem (by rw [tab_len]; exact hi)] at e1
      rw [List.getElem?_eq_getElem (by rw [tab_len]; exact hj)] at e2
      rw [Option.some.inj e1, Option.some.inj e2]
      exact this
end
end SoCmpFunc_api_Version
end Go.Proofs.Ytealcoghiaeiiaa.VG
