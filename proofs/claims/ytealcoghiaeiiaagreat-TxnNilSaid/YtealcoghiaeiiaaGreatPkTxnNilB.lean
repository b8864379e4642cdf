/- Texts by which the law's calls are walked (part 2): rules, printed conditions, contracts; no condition. -/
import Derived.TacticsIn
import Derived.TacticsInMore
import Derived.Deep.LoopGhost
import Derived.Sort.QuietThIn
import Derived.RangeFuncCalls
import Derived.RangeFuncNested
import Derived.RangeFuncLeaves
import Derived.WalkKit
import Derived.StillTail
import Derived.Test.YtealcoghiaeiiaaGreatProg
import Derived.KernelRfl
import Derived.Test.YtealcoghiaeiiaaGreatPkTxnNilA
set_option linter.unusedVariables false
set_option linter.unusedSimpArgs false
namespace Go.Proofs.YtealcoghiaeiiaaGreat.VG
open Go.VB Go.Proofs
def V_slices_SortFunc_api_Version_api_Version (x0 : Sl) (x1 : Value) (w : World) (Ret : World → Prop) : Prop :=
  opE Tryz.prog (Value.int .u64) (Go.convert 3 143 (.int .i64 (x0.len : Int))) w (fun x10 w => Cl Tryz.prog 73 [(.int .u64 x10)].toArray w (fun e w => ∃ (r : Int), e = .returned (.int .i64 r) ∧ (Cl Tryz.prog 85 [(Sl.v x0), (.int .i64 0), (.int .i64 (x0.len : Int)), (.int .i64 r), x1].toArray w (fun e w => e = .returned (.tuple [].toArray) ∧ (Ret  w)))))
set_option maxRecDepth 100000 in
theorem L1_slices_SortFunc_api_Version_api_Version (x0 : Sl) (x1 : Value) (w : World) (Ret : World → Prop) (H : V_slices_SortFunc_api_Version_api_Version x0 x1 w Ret) : Cl Tryz.prog 67 [(Sl.v x0), x1].toArray w (fun e w' => e = .returned (.tuple [].toArray) ∧ Ret  w') := by
  unfold V_slices_SortFunc_api_Version_api_Version at H
  refine C.enter 14 (zipE 0 [(Sl.v x0), x1]) Tryz.func67 rfl rfl (by rfl) rfl ?_
  intro a hE
  replace hE : Sat [] 14 [(0, (Sl.v x0)), (1, x1)] a := hE
  refine C.seq (C.region (hE.mv rfl fun _ hE => (hE.purR (fun w => X.lenL hE Tryz.underlying67 rfl) fun _ hE => (hE.as_ rfl fun _ hE => (C.nil (tn (C.region (hE.mv rfl fun _ hE => (hE.mv rfl fun _ hE => (hE.mv rfl fun _ hE => (hE.op (X.convert hE rfl) H fun x10 w a H hE => (hE.call (X.callF hE ent73 rfl rfl) H fun e w H => ?_))))))))))))
  obtain ⟨r, rfl, H⟩ := H
  refine ⟨_, rfl, fun _ hE => (hE.mv rfl fun _ hE => (hE.call (X.callF hE ent85 rfl rfl) H fun e w H => ?_))⟩
  obtain ⟨rfl, H⟩ := H
  exact ⟨_, rfl, fun _ hE => (C.nil (C.end0 hE rfl ⟨rfl, H⟩))⟩
def V_slices_pdqsortCmpFunc_api_Version_r5 (x0 : Sl) (x4 : Value) (x1_1 : Int) (x2_1 : Int) (x10 : Bool) (x11 : Bool) (Kl1 : Int → Int → Int → Bool → Bool → World → Prop) (x3_2 : Int) (x13 : Int) (x97 : Bool) (w : World) : Prop :=
  nextB w (fun w => (x97 = true → (Cl Tryz.prog 111 [(Sl.v x0), (.int .i64 x1_1), (.int .i64 x2_1), (.int .i64 x13), x4].toArray w (fun e w => ∃ (r_2 : Int), e = .returned (.int .i64 r_2) ∧ (Kl1 r_2 x2_1 x3_2 x10 x11 w)))) ∧ (x97 = false → (Cl Tryz.prog 112 [(Sl.v x0), (.int .i64 x1_1), (.int .i64 x2_1), (.int .i64 x13), x4].toArray w (fun e w => ∃ (r_3 : Int) (r_4 : Bool), e = .returned (.tuple [(.int .i64 r_3), (.bool r_4)].toArray) ∧ (opE Tryz.prog (Value.int .i64) (binOp .quo 3 (.int .i64 (IntKind.wrap .i64 (x2_1 - x1_1))) (.int .i64 8)) w (fun x122 w => (((IntKind.wrap .i64 (r_3 - x1_1)) < (IntKind.wrap .i64 (x2_1 - r_3))) → (Cl Tryz.prog 85 [(Sl.v x0), (.int .i64 x1_1), (.int .i64 r_3), (.int .i64 x3_2), x4].toArray w (fun e w => e = .returned (.tuple [].toArray) ∧ (Kl1 (IntKind.wrap .i64 (r_3 + 1)) x2_1 x3_2 (decide (x122 ≤ (IntKind.wrap .i64 (r_3 - x1_1)))) r_4 w)))) ∧ (¬ ((IntKind.wrap .i64 (r_3 - x1_1)) < (IntKind.wrap .i64 (x2_1 - r_3))) → (Cl Tryz.prog 85 [(Sl.v x0), (.int .i64 (IntKind.wrap .i64 (r_3 + 1))), (.int .i64 x2_1), (.int .i64 x3_2), x4].toArray w (fun e w => e = .returned (.tuple [].toArray) ∧ (Kl1 x1_1 r_3 x3_2 (decide (x122 ≤ (IntKind.wrap .i64 (x2_1 - r_3)))) r_4 w))))))))))
def V_slices_pdqsortCmpFunc_api_Version_j4 (x0 : Sl) (x4 : Value) (x1_1 : Int) (x2_1 : Int) (x10 : Bool) (x11 : Bool) (Kl1 : Int → Int → Int → Bool → Bool → World → Prop) (x3_2 : Int) (x13 : Int) (w : World) : Prop :=
  ((0 < x1_1) → (opB Tryz.prog Value.pointer (Instr.indexAt 67 (Sl.v x0) (.int .i64 (IntKind.wrap .i64 (x1_1 - 1)))) w (fun x88 => opB Tryz.prog T_api_Version.v (Instr.loadAt 72 (.pointer x88)) w (fun x89 => opB Tryz.prog Value.pointer (Instr.indexAt 67 (Sl.v x0) (.int .i64 x13)) w (fun x92 => opB Tryz.prog T_api_Version.v (Instr.loadAt 72 (.pointer x92)) w (fun x93 => ∃ (r_5 : Int), CallQ Tryz.prog x4 [(T_api_Version.v x89), (T_api_Version.v x93)] w (.int .i64 r_5) ∧ (V_slices_pdqsortCmpFunc_api_Version_r5 x0 x4 x1_1 x2_1 x10 x11 Kl1 x3_2 x13 (!(decide (r_5 < 0))) w))))))) ∧ (¬ (0 < x1_1) → (V_slices_pdqsortCmpFunc_api_Version_r5 x0 x4 x1_1 x2_1 x10 x11 Kl1 x3_2 x13 false w))
def V_slices_pdqsortCmpFunc_api_Version_r7 (x0 : Sl) (x4 : Value) (Ret : World → Prop) (x1_1 : Int) (x2_1 : Int) (x10 : Bool) (x11 : Bool) (Kl1 : Int → Int → Int → Bool → Bool → World → Prop) (x3_2 : Int) (x13 : Int) (x75 : Bool) (w : World) : Prop :=
  (x75 = true → (Cl Tryz.prog 110 [(Sl.v x0), (.int .i64 x1_1), (.int .i64 x2_1), x4].toArray w (fun e w => ∃ (r_6 : Bool), e = .returned (.bool r_6) ∧ ((r_6 = true → (Ret  w)) ∧ (r_6 = false → (V_slices_pdqsortCmpFunc_api_Version_j4 x0 x4 x1_1 x2_1 x10 x11 Kl1 x3_2 x13 w)))))) ∧ (x75 = false → (V_slices_pdqsortCmpFunc_api_Version_j4 x0 x4 x1_1 x2_1 x10 x11 Kl1 x3_2 x13 w))
def V_slices_pdqsortCmpFunc_api_Version_r6 (x0 : Sl) (x4 : Value) (Ret : World → Prop) (x1_1 : Int) (x2_1 : Int) (x10 : Bool) (x11 : Bool) (Kl1 : Int → Int → Int → Bool → Bool → World → Prop) (x3_2 : Int) (x13 : Int) (x14 : Int) (x71 : Bool) (w : World) : Prop :=
  (x71 = true → (V_slices_pdqsortCmpFunc_api_Version_r7 x0 x4 Ret x1_1 x2_1 x10 x11 Kl1 x3_2 x13 (decide (x14 = 1)) w)) ∧ (x71 = false → (V_slices_pdqsortCmpFunc_api_Version_r7 x0 x4 Ret x1_1 x2_1 x10 x11 Kl1 x3_2 x13 false w))
def V_slices_pdqsortCmpFunc_api_Version_j3 (x0 : Sl) (x4 : Value) (Ret : World → Prop) (x1_1 : Int) (x2_1 : Int) (x10 : Bool) (x11 : Bool) (Kl1 : Int → Int → Int → Bool → Bool → World → Prop) (x3_2 : Int) (x13 : Int) (x14 : Int) (w : World) : Prop :=
  (x10 = true → (V_slices_pdqsortCmpFunc_api_Version_r6 x0 x4 Ret x1_1 x2_1 x10 x11 Kl1 x3_2 x13 x14 x11 w)) ∧ (x10 = false → (V_slices_pdqsortCmpFunc_api_Version_r6 x0 x4 Ret x1_1 x2_1 x10 x11 Kl1 x3_2 x13 x14 false w))
def V_slices_pdqsortCmpFunc_api_Version_j2 (x0 : Sl) (x4 : Value) (Ret : World → Prop) (x1_1 : Int) (x2_1 : Int) (x10 : Bool) (x11 : Bool) (Kl1 : Int → Int → Int → Bool → Bool → World → Prop) (x3_2 : Int) (w : World) : Prop :=
  Cl Tryz.prog 108 [(Sl.v x0), (.int .i64 x1_1), (.int .i64 x2_1), x4].toArray w (fun e w => ∃ (r : Int) (r_1 : Int), e = .returned (.tuple [(.int .i64 r), (.int .i64 r_1)].toArray) ∧ (((r_1 = 2) → (Cl Tryz.prog 109 [(Sl.v x0), (.int .i64 x1_1), (.int .i64 x2_1), x4].toArray w (fun e w => e = .returned (.tuple [].toArray) ∧ (V_slices_pdqsortCmpFunc_api_Version_j3 x0 x4 Ret x1_1 x2_1 x10 x11 Kl1 x3_2 (IntKind.wrap .i64 ((IntKind.wrap .i64 (x2_1 - 1)) - (IntKind.wrap .i64 (r - x1_1)))) 1 w)))) ∧ (¬ (r_1 = 2) → (V_slices_pdqsortCmpFunc_api_Version_j3 x0 x4 Ret x1_1 x2_1 x10 x11 Kl1 x3_2 r r_1 w))))
def V_slices_pdqsortCmpFunc_api_Version_l1b (x0 : Sl) (x4 : Value) (Ret : World → Prop) (x1_1 : Int) (x2_1 : Int) (x3_1 : Int) (x10 : Bool) (x11 : Bool) (w : World) (Kl1 : Int → Int → Int → Bool → Bool → World → Prop) : Prop :=
  (((IntKind.wrap .i64 (x2_1 - x1_1)) ≤ 12) → (Cl Tryz.prog 105 [(Sl.v x0), (.int .i64 x1_1), (.int .i64 x2_1), x4].toArray w (fun e w => e = .returned (.tuple [].toArray) ∧ (Ret  w)))) ∧ (¬ ((IntKind.wrap .i64 (x2_1 - x1_1)) ≤ 12) → (((x3_1 = 0) → (Cl Tryz.prog 106 [(Sl.v x0), (.int .i64 x1_1), (.int .i64 x2_1), x4].toArray w (fun e w => e = .returned (.tuple [].toArray) ∧ (Ret  w)))) ∧ (¬ (x3_1 = 0) → (((!x10) = true → (Cl Tryz.prog 107 [(Sl.v x0), (.int .i64 x1_1), (.int .i64 x2_1), x4].toArray w (fun e w => e = .returned (.tuple [].toArray) ∧ (V_slices_pdqsortCmpFunc_api_Version_j2 x0 x4 Ret x1_1 x2_1 x10 x11 Kl1 (IntKind.wrap .i64 (x3_1 - 1)) w)))) ∧ ((!x10) = false → (V_slices_pdqsortCmpFunc_api_Version_j2 x0 x4 Ret x1_1 x2_1 x10 x11 Kl1 x3_1 w))))))
def V_slices_pdqsortCmpFunc_api_Version (x0 : Sl) (x1 : Int) (x2 : Int) (x3 : Int) (x4 : Value) (w : World) (Ret : World → Prop) : Prop :=
  ∃ (I : Int → Int → Int → Bool → Bool → World → Prop) (μ : Int → Int → Int → Bool → Bool → World → Nat), I x1 x2 x3 true true w ∧ ∀ (x1_1 : Int) (x2_1 : Int) (x3_1 : Int) (x10 : Bool) (x11 : Bool) w, I x1_1 x2_1 x3_1 x10 x11 w → V_slices_pdqsortCmpFunc_api_Version_l1b x0 x4 Ret x1_1 x2_1 x3_1 x10 x11 w (fun x1_1' x2_1' x3_1' x10' x11' w' => I x1_1' x2_1' x3_1' x10' x11' w' ∧ μ x1_1' x2_1' x3_1' x10' x11' w' < μ x1_1 x2_1 x3_1 x10 x11 w)
set_option maxRecDepth 100000 in
theorem L1_slices_pdqsortCmpFunc_api_Version (x0 : Sl) (x1 : Int) (x2 : Int) (x3 : Int) (x4 : Value) (w : World) (Ret : World → Prop) (H : V_slices_pdqsortCmpFunc_api_Version x0 x1 x2 x3 x4 w Ret) : Cl Tryz.prog 85 [(Sl.v x0), (.int .i64 x1), (.int .i64 x2), (.int .i64 x3), x4].toArray w (fun e w' => e = .returned (.tuple [].toArray) ∧ Ret  w') := by
  unfold V_slices_pdqsortCmpFunc_api_Version at H
  refine C.enter 148 (zipE 0 [(Sl.v x0), (.int .i64 x1), (.int .i64 x2), (.int .i64 x3), x4]) Tryz.func85 rfl rfl (by rfl) rfl ?_
  intro a hE
  replace hE : Sat [] 148 [(0, (Sl.v x0)), (1, (.int .i64 x1)), (2, (.int .i64 x2)), (3, (.int .i64 x3)), (4, x4)] a := hE
  refine C.seq (C.region (hE.as_ rfl fun _ hE => (C.nil (tn (C.seq (C.region (hE.as_ rfl fun _ hE => (C.nil (tn (C.block ?_))))))))))
  obtain ⟨I_l1, μ_l1, h0, hb⟩ := H
  refine C.loop (ds := []) (N := 148) (σ := Int × Int × Int × Bool × Bool) (fun s => [(1, (.int .i64 s.1)), (2, (.int .i64 s.2.1)), (3, (.int .i64 s.2.2.1)), (10, (.bool s.2.2.2.1)), (11, (.bool s.2.2.2.2)), (0, (Sl.v x0)), (4, x4)]) (fun s w => I_l1 s.1 s.2.1 s.2.2.1 s.2.2.2.1 s.2.2.2.2 w) (fun s w => μ_l1 s.1 s.2.1 s.2.2.1 s.2.2.2.1 s.2.2.2.2 w) (x1, x2, x3, true, true) h0 (hE.weak ⟨rfl, rfl, rfl, rfl, rfl, rfl, rfl, trivial⟩) ?_
  rintro ⟨x1_1, x2_1, x3_1, x10, x11⟩ w a hI hE
  try dsimp only at hI hE
  obtain ⟨Kl1, hK_l1⟩ : ∃ K : Int → Int → Int → Bool → Bool → World → Prop, K = (fun x1_1' x2_1' x3_1' x10' x11' w' => I_l1 x1_1' x2_1' x3_1' x10' x11' w' ∧ μ_l1 x1_1' x2_1' x3_1' x10' x11' w' < μ_l1 x1_1 x2_1 x3_1 x10 x11 w) := ⟨_, rfl⟩
  have H : V_slices_pdqsortCmpFunc_api_Version_l1b x0 x4 Ret x1_1 x2_1 x3_1 x10 x11 w Kl1 := by rw [hK_l1]; exact hb x1_1 x2_1 x3_1 x10 x11 w hI
  clear hb h0 hI
  unfold V_slices_pdqsortCmpFunc_api_Version_l1b at H
  refine C.block (C.seq (C.region (hE.mv rfl fun _ hE => (hE.mv rfl fun _ hE => (hE.pur (X.sub hE rfl rfl) fun _ hE => (hE.as_ rfl fun _ hE => (C.nil (tn (C.seq (C.seq (C.region (hE.mv rfl fun _ hE => (hE.pur (X.leI hE rfl rfl) fun _ hE => (C.nil (tn (C.condP hE rfl (fun hc => ?_) (fun hc => ?_)))))))))))))))))
  · replace H := H.1 hc
    refine C.seq (C.region (hE.mv rfl fun _ hE => (hE.mv rfl fun _ hE => (hE.mv rfl fun _ hE => (hE.mv rfl fun _ hE => (hE.call (X.callF hE ent105 rfl rfl) H fun e w H => ?_))))))
    obtain ⟨rfl, H⟩ := H
    exact ⟨_, rfl, fun _ hE => (C.nil (tn (C.ret (tr (br (tr (br (C.ret0 hE rfl ⟨rfl, H⟩))))))))⟩
  · replace H := H.2 hc
    refine C.skip (tn (C.seq (C.seq (C.region (hE.mv rfl fun _ hE => (hE.pur (X.eqI hE rfl rfl) fun _ hE => (C.nil (tn (C.condP hE rfl (fun hc => ?_) (fun hc => ?_))))))))))
    · replace H := H.1 hc
      refine C.seq (C.region (hE.mv rfl fun _ hE => (hE.mv rfl fun _ hE => (hE.mv rfl fun _ hE => (hE.mv rfl fun _ hE => (hE.call (X.callF hE ent106 rfl rfl) H fun e w H => ?_))))))
      obtain ⟨rfl, H⟩ := H
      exact ⟨_, rfl, fun _ hE => (C.nil (tn (C.ret (tr (br (tr (br (C.ret0 hE rfl ⟨rfl, H⟩))))))))⟩
    · replace H := H.2 hc
      refine C.skip (tn (C.join (ds := []) (N := 148) (σ := Int) (fun s => [(3, (.int .i64 s)), (0, (Sl.v x0)), (1, (.int .i64 x1_1)), (2, (.int .i64 x2_1)), (4, x4), (10, (.bool x10)), (11, (.bool x11)), (12, (.int .i64 (IntKind.wrap .i64 (x2_1 - x1_1))))]) (fun s w => V_slices_pdqsortCmpFunc_api_Version_j2 x0 x4 Ret x1_1 x2_1 x10 x11 Kl1 s w) ?_ (fun hj2 => ?_)))
      · intro x3_2 w a H hE
        try dsimp only at H hE
        unfold V_slices_pdqsortCmpFunc_api_Version_j2 at H
        refine C.seq (C.region (hE.mv rfl fun _ hE => (hE.mv rfl fun _ hE => (hE.mv rfl fun _ hE => (hE.mv rfl fun _ hE => (hE.call (X.callF hE ent108 rfl rfl) H fun e w H => ?_))))))
        obtain ⟨r, r_1, rfl, H⟩ := H
        refine ⟨_, rfl, fun _ hE => (hE.mv rfl fun _ hE => (hE.pur (X.extract hE rfl rfl) fun _ hE => (hE.pur (X.extract hE rfl rfl) fun _ hE => (hE.as_ rfl fun _ hE => (hE.as_ rfl fun _ hE => (C.nil (tn (C.join (ds := []) (N := 148) (σ := Int × Int) (fun s => [(13, (.int .i64 s.1)), (14, (.int .i64 s.2)), (0, (Sl.v x0)), (1, (.int .i64 x1_1)), (2, (.int .i64 x2_1)), (3, (.int .i64 x3_2)), (4, x4), (10, (.bool x10)), (11, (.bool x11)), (12, (.int .i64 (IntKind.wrap .i64 (x2_1 - x1_1))))]) (fun s w => V_slices_pdqsortCmpFunc_api_Version_j3 x0 x4 Ret x1_1 x2_1 x10 x11 Kl1 x3_2 s.1 s.2 w) ?_ (fun hj3 => ?_)))))))))⟩
        · rintro ⟨x13, x14⟩ w a H hE
          try dsimp only at H hE
          unfold V_slices_pdqsortCmpFunc_api_Version_j3 at H
          refine C.join (ds := []) (N := 148) (σ := Unit) (fun s => [(0, (Sl.v x0)), (1, (.int .i64 x1_1)), (2, (.int .i64 x2_1)), (3, (.int .i64 x3_2)), (4, x4), (10, (.bool x10)), (11, (.bool x11)), (12, (.int .i64 (IntKind.wrap .i64 (x2_1 - x1_1)))), (13, (.int .i64 x13))]) (fun s w => V_slices_pdqsortCmpFunc_api_Version_j4 x0 x4 x1_1 x2_1 x10 x11 Kl1 x3_2 x13  w) ?_ (fun hj4 => ?_)
          · rintro ⟨⟩ w a H hE
            try dsimp only at H hE
            unfold V_slices_pdqsortCmpFunc_api_Version_j4 at H
            refine C.seq (C.seq (C.draw (by kernel_rfl) (by kernel_rfl) (hE.qm rfl fun _ hE => (hE.qpur (X.gtI hE rfl rfl) fun _ hE => (hE.qm rfl fun _ hE => (WQ.join (ds := []) (N := 148) (σ := Bool) (fun s => [(97, (.bool s)), (0, (Sl.v x0)), (1, (.int .i64 x1_1)), (2, (.int .i64 x2_1)), (3, (.int .i64 x3_2)), (4, x4), (10, (.bool x10)), (11, (.bool x11)), (12, (.int .i64 (IntKind.wrap .i64 (x2_1 - x1_1)))), (13, (.int .i64 x13))]) (fun s => V_slices_pdqsortCmpFunc_api_Version_r5 x0 x4 x1_1 x2_1 x10 x11 Kl1 x3_2 x13 s w) 14 ?_ (fun hr5 => ?_)))))))
            · intro x97 a H hE
              try dsimp only at H hE
              unfold V_slices_pdqsortCmpFunc_api_Version_r5 at H
              refine C.qnil (fun w hB => ?_)
              replace H := H w hB
              refine (tn (C.condB hE rfl (fun hc => ?_) (fun hc => ?_)))
              · replace H := H.1 hc
                refine C.seq (C.region (hE.mv rfl fun _ hE => (hE.mv rfl fun _ hE => (hE.mv rfl fun _ hE => (hE.mv rfl fun _ hE => (hE.mv rfl fun _ hE => (hE.call (X.callF hE ent111 rfl rfl) H fun e w H => ?_)))))))
                obtain ⟨r_2, rfl, H⟩ := H
                refine ⟨_, rfl, fun _ hE => (hE.as_ rfl fun _ hE => (C.nil (tn (C.seq (C.region (hE.mv rfl fun _ hE => (hE.as_ rfl fun _ hE => (C.nil (tn ?_)))))))))⟩
                rw [hK_l1] at H
                exact C.exit (te (be (tn ⟨(r_2, x2_1, x3_2, x10, x11), hE.weak ⟨rfl, rfl, rfl, rfl, rfl, rfl, rfl, trivial⟩, H⟩)))
              · replace H := H.2 hc
                refine C.skip (tn (C.seq (C.region (hE.mv rfl fun _ hE => (hE.mv rfl fun _ hE => (hE.mv rfl fun _ hE => (hE.mv rfl fun _ hE => (hE.mv rfl fun _ hE => (hE.call (X.callF hE ent112 rfl rfl) H fun e w H => ?_)))))))))
                obtain ⟨r_3, r_4, rfl, H⟩ := H
                refine ⟨_, rfl, fun _ hE => (hE.mv rfl fun _ hE => (hE.pur (X.extract hE rfl rfl) fun _ hE => (hE.pur (X.extract hE rfl rfl) fun _ hE => (hE.as_ rfl fun _ hE => (hE.as_ rfl fun _ hE => (C.nil (tn (C.seq (C.region (hE.mv rfl fun _ hE => (hE.as_ rfl fun _ hE => (C.nil (tn (C.seq (C.region (hE.mv rfl fun _ hE => (hE.mv rfl fun _ hE => (hE.pur (X.sub hE rfl rfl) fun _ hE => (hE.mv rfl fun _ hE => (hE.mv rfl fun _ hE => (hE.pur (X.sub hE rfl rfl) fun _ hE => (hE.as_ rfl fun _ hE => (hE.as_ rfl fun _ hE => (C.nil (tn (C.seq (C.region (hE.mv rfl fun _ hE => (hE.op (X.binG hE rfl rfl) H fun x122 w a H hE => (hE.as_ rfl fun _ hE => (C.nil (tn (C.seq (C.region (hE.mv rfl fun _ hE => (hE.mv rfl fun _ hE => (hE.pur (X.ltI hE rfl rfl) fun _ hE => (C.nil (tn (C.condP hE rfl (fun hc => ?_) (fun hc => ?_)))))))))))))))))))))))))))))))))))))))))⟩
                · replace H := H.1 hc
                  refine C.seq (C.region (hE.mv rfl fun _ hE => (hE.mv rfl fun _ hE => (hE.pur (X.geI hE rfl rfl) fun _ hE => (hE.as_ rfl fun _ hE => (C.nil (tn (C.seq (C.region (hE.mv rfl fun _ hE => (hE.mv rfl fun _ hE => (hE.mv rfl fun _ hE => (hE.mv rfl fun _ hE => (hE.mv rfl fun _ hE => (hE.call (X.callF hE ent85 rfl rfl) H fun e w H => ?_)))))))))))))))
                  obtain ⟨rfl, H⟩ := H
                  refine ⟨_, rfl, fun _ hE => (C.nil (tn (C.region (hE.mv rfl fun _ hE => (hE.pur (X.add hE rfl rfl) fun _ hE => (hE.as_ rfl fun _ hE => ?_))))))⟩
                  rw [hK_l1] at H
                  exact C.nil (bn (tn ⟨((IntKind.wrap .i64 (r_3 + 1)), x2_1, x3_2, (decide (x122 ≤ (IntKind.wrap .i64 (r_3 - x1_1)))), r_4), hE.weak ⟨rfl, rfl, rfl, rfl, rfl, rfl, rfl, trivial⟩, H⟩))
                · replace H := H.2 hc
                  refine C.seq (C.region (hE.mv rfl fun _ hE => (hE.mv rfl fun _ hE => (hE.pur (X.geI hE rfl rfl) fun _ hE => (hE.as_ rfl fun _ hE => (C.nil (tn (C.seq (C.region (hE.mv rfl fun _ hE => (hE.mv rfl fun _ hE => (hE.pur (X.add hE rfl rfl) fun _ hE => (hE.mv rfl fun _ hE => (hE.mv rfl fun _ hE => (hE.mv rfl fun _ hE => (hE.call (X.callF hE ent85 rfl rfl) H fun e w H => ?_))))))))))))))))
                  obtain ⟨rfl, H⟩ := H
                  refine ⟨_, rfl, fun _ hE => (C.nil (tn (C.region (hE.mv rfl fun _ hE => (hE.as_ rfl fun _ hE => ?_)))))⟩
                  rw [hK_l1] at H
                  exact C.nil (bn (tn ⟨(x1_1, r_3, x3_2, (decide (x122 ≤ (IntKind.wrap .i64 (x2_1 - r_3)))), r_4), hE.weak ⟨rfl, rfl, rfl, rfl, rfl, rfl, rfl, trivial⟩, H⟩))
            · rcases Classical.em ((0 < x1_1)) with hbr5 | hbr5
              · replace H := H.1 hbr5
                replace hE := hE.bool (b := true) (t := 83) rfl (decide_eq_true hbr5)
                refine hE.qon (by rfl) (by rfl) (hE.qm rfl fun _ hE => (hE.qon (by rfl) (by rfl) (hE.qm rfl fun _ hE => (hE.qon (by rfl) (by rfl) (hE.qm rfl fun _ hE => (hE.qon (by rfl) (by rfl) (hE.qpur (X.sub hE rfl rfl) fun _ hE => (hE.qon (by rfl) (by rfl) (hE.qop (X.indexAddr hE rfl rfl) H fun x88 a H hE => (hE.qon (by rfl) (by rfl) (hE.qop (X.load hE rfl) H fun x89 a H hE => (hE.qon (by rfl) (by rfl) (hE.qm rfl fun _ hE => (hE.qon (by rfl) (by rfl) (hE.qm rfl fun _ hE => (hE.qon (by rfl) (by rfl) (hE.qop (X.indexAddr hE rfl rfl) H fun x92 a H hE => (hE.qon (by rfl) (by rfl) (hE.qop (X.load hE rfl) H fun x93 a H hE => (hE.qon (by rfl) (by rfl) ?_))))))))))))))))))))
                obtain ⟨r_5, hc, H⟩ := H
                exact hE.qcallV rfl rfl hc fun _ hE => hE.qon (by rfl) (by rfl) (hE.qpur (X.ltI hE rfl rfl) fun _ hE => (hE.qon (by rfl) (by rfl) (hE.qpur (X.not hE rfl) fun _ hE => (hE.qpur (X.pickT hE rfl rfl) fun _ hE => (hr5 (!(decide (r_5 < 0))) _ H (hE.weak ⟨rfl, rfl, rfl, rfl, rfl, rfl, rfl, rfl, rfl, rfl, trivial⟩))))))
              · replace H := H.2 hbr5
                replace hE := hE.bool (b := false) (t := 83) rfl (decide_eq_false hbr5)
                exact hE.qoff (by rfl) (by rfl) (by decide) (fun _ hE => (hE.qoff (by rfl) (by rfl) (by decide) (fun _ hE => (hE.qoff (by rfl) (by rfl) (by decide) (fun _ hE => (hE.qoff (by rfl) (by rfl) (by decide) (fun _ hE => (hE.qoff (by rfl) (by rfl) (by decide) (fun _ hE => (hE.qoff (by rfl) (by rfl) (by decide) (fun _ hE => (hE.qoff (by rfl) (by rfl) (by decide) (fun _ hE => (hE.qoff (by rfl) (by rfl) (by decide) (fun _ hE => (hE.qoff (by rfl) (by rfl) (by decide) (fun _ hE => (hE.qoff (by rfl) (by rfl) (by decide) (fun _ hE => (hE.qoff (by rfl) (by rfl) (by decide) (fun _ hE => (hE.qoff (by rfl) (by rfl) (by decide) (fun _ hE => (hE.qoff (by rfl) (by rfl) (by decide) (fun _ hE => (hE.qpur (X.pickF hE rfl rfl) fun _ hE => (hr5 false _ H (hE.weak ⟨rfl, rfl, rfl, rfl, rfl, rfl, rfl, rfl, rfl, rfl, trivial⟩))))))))))))))))))))))))))))
          · refine C.seq (C.region (hE.mv rfl fun _ hE => (hE.mv rfl fun _ hE => (WL.join (ds := []) (N := 148) (σ := Bool) (fun s => [(71, (.bool s)), (0, (Sl.v x0)), (1, (.int .i64 x1_1)), (2, (.int .i64 x2_1)), (3, (.int .i64 x3_2)), (4, x4), (10, (.bool x10)), (11, (.bool x11)), (12, (.int .i64 (IntKind.wrap .i64 (x2_1 - x1_1)))), (13, (.int .i64 x13)), (14, (.int .i64 x14))]) (fun s w => V_slices_pdqsortCmpFunc_api_Version_r6 x0 x4 Ret x1_1 x2_1 x10 x11 Kl1 x3_2 x13 x14 s w) 2 ?_ (fun hr6 => ?_)))))
            · intro x71 w a H hE
              try dsimp only at H hE
              unfold V_slices_pdqsortCmpFunc_api_Version_r6 at H
              refine hE.mv rfl fun _ hE => WL.join (ds := []) (N := 148) (σ := Bool) (fun s => [(75, (.bool s)), (0, (Sl.v x0)), (1, (.int .i64 x1_1)), (2, (.int .i64 x2_1)), (3, (.int .i64 x3_2)), (4, x4), (10, (.bool x10)), (11, (.bool x11)), (12, (.int .i64 (IntKind.wrap .i64 (x2_1 - x1_1)))), (13, (.int .i64 x13))]) (fun s w => V_slices_pdqsortCmpFunc_api_Version_r7 x0 x4 Ret x1_1 x2_1 x10 x11 Kl1 x3_2 x13 s w) 3 ?_ (fun hr7 => ?_)
              · intro x75 w a H hE
                try dsimp only at H hE
                unfold V_slices_pdqsortCmpFunc_api_Version_r7 at H
                refine C.nil (tn (C.condB hE rfl (fun hc => ?_) (fun hc => ?_)))
                · replace H := H.1 hc
                  refine C.seq (C.region (hE.mv rfl fun _ hE => (hE.mv rfl fun _ hE => (hE.mv rfl fun _ hE => (hE.mv rfl fun _ hE => (hE.call (X.callF hE ent110 rfl rfl) H fun e w H => ?_))))))
                  obtain ⟨r_6, rfl, H⟩ := H
                  refine ⟨_, rfl, fun _ hE => (C.nil (tn (C.condB hE rfl (fun hc => ?_) (fun hc => ?_))))⟩
                  · replace H := H.1 hc
                    exact C.ret (tr (br (tr (br (C.ret0 hE rfl ⟨rfl, H⟩)))))
                  · replace H := H.2 hc
                    exact C.skip (tn (hj4 () _ _ H (hE.weak ⟨rfl, rfl, rfl, rfl, rfl, rfl, rfl, rfl, rfl, trivial⟩)))
                · replace H := H.2 hc
                  exact C.skip (tn (hj4 () _ _ H (hE.weak ⟨rfl, rfl, rfl, rfl, rfl, rfl, rfl, rfl, rfl, trivial⟩)))
              · rcases Bool.eq_false_or_eq_true (x71) with hbr7 | hbr7
                · replace H := H.1 hbr7
                  replace hE := hE.bool (b := true) (t := 72) rfl (hbr7)
                  exact hE.on (by rfl) (by rfl) (hE.mv rfl fun _ hE => (hE.on (by rfl) (by rfl) (hE.pur (X.eqI hE rfl rfl) fun _ hE => (hE.pur (X.pickT hE rfl rfl) fun _ hE => (hr7 (decide (x14 = 1)) _ _ H (hE.weak ⟨rfl, rfl, rfl, rfl, rfl, rfl, rfl, rfl, rfl, rfl, trivial⟩))))))
                · replace H := H.2 hbr7
                  replace hE := hE.bool (b := false) (t := 72) rfl (hbr7)
                  exact hE.off (by rfl) (by rfl) (by decide) (fun _ hE => (hE.off (by rfl) (by rfl) (by decide) (fun _ hE => (hE.pur (X.pickF hE rfl rfl) fun _ hE => (hr7 false _ _ H (hE.weak ⟨rfl, rfl, rfl, rfl, rfl, rfl, rfl, rfl, rfl, rfl, trivial⟩))))))
            · rcases Bool.eq_false_or_eq_true (x10) with hbr6 | hbr6
              · replace H := H.1 hbr6
                replace hE := hE.bool (b := true) (t := 69) rfl (hbr6)
                exact hE.on (by rfl) (by rfl) (hE.mv rfl fun _ hE => (hE.pur (X.pickT hE rfl rfl) fun _ hE => (hr6 x11 _ _ H (hE.weak ⟨rfl, rfl, rfl, rfl, rfl, rfl, rfl, rfl, rfl, rfl, rfl, trivial⟩))))
              · replace H := H.2 hbr6
                replace hE := hE.bool (b := false) (t := 69) rfl (hbr6)
                exact hE.off (by rfl) (by rfl) (by decide) (fun _ hE => (hE.pur (X.pickF hE rfl rfl) fun _ hE => (hr6 false _ _ H (hE.weak ⟨rfl, rfl, rfl, rfl, rfl, rfl, rfl, rfl, rfl, rfl, rfl, trivial⟩))))
        · refine C.seq (C.region (hE.mv rfl fun _ hE => (hE.pur (X.eqI hE rfl rfl) fun _ hE => (C.nil (tn (C.condP hE rfl (fun hc => ?_) (fun hc => ?_)))))))
          · replace H := H.1 hc
            refine C.seq (C.region (hE.mv rfl fun _ hE => (hE.mv rfl fun _ hE => (hE.mv rfl fun _ hE => (hE.mv rfl fun _ hE => (hE.call (X.callF hE ent109 rfl rfl) H fun e w H => ?_))))))
            obtain ⟨rfl, H⟩ := H
            exact ⟨_, rfl, fun _ hE => (C.nil (tn (C.seq (C.region (hE.mv rfl fun _ hE => (hE.pur (X.sub hE rfl rfl) fun _ hE => (hE.mv rfl fun _ hE => (hE.mv rfl fun _ hE => (hE.pur (X.sub hE rfl rfl) fun _ hE => (hE.pur (X.sub hE rfl rfl) fun _ hE => (hE.as_ rfl fun _ hE => (C.nil (tn (C.region (hE.as_ rfl fun _ hE => (C.nil (tn (hj3 ((IntKind.wrap .i64 ((IntKind.wrap .i64 (x2_1 - 1)) - (IntKind.wrap .i64 (r - x1_1)))), 1) _ _ H (hE.weak ⟨rfl, rfl, rfl, rfl, rfl, rfl, rfl, rfl, rfl, rfl, trivial⟩)))))))))))))))))))⟩
          · replace H := H.2 hc
            exact C.skip (tn (hj3 (r, r_1) _ _ H (hE.weak ⟨rfl, rfl, rfl, rfl, rfl, rfl, rfl, rfl, rfl, rfl, trivial⟩)))
      · refine C.seq (C.region (hE.mv rfl fun _ hE => (hE.pur (X.not hE rfl) fun _ hE => (C.nil (tn (C.condB hE rfl (fun hc => ?_) (fun hc => ?_)))))))
        · replace H := H.1 hc
          refine C.seq (C.region (hE.mv rfl fun _ hE => (hE.mv rfl fun _ hE => (hE.mv rfl fun _ hE => (hE.mv rfl fun _ hE => (hE.call (X.callF hE ent107 rfl rfl) H fun e w H => ?_))))))
          obtain ⟨rfl, H⟩ := H
          exact ⟨_, rfl, fun _ hE => (C.nil (tn (C.region (hE.mv rfl fun _ hE => (hE.pur (X.sub hE rfl rfl) fun _ hE => (hE.as_ rfl fun _ hE => (C.nil (tn (hj2 (IntKind.wrap .i64 (x3_1 - 1)) _ _ H (hE.weak ⟨rfl, rfl, rfl, rfl, rfl, rfl, rfl, rfl, trivial⟩))))))))))⟩
        · replace H := H.2 hc
          exact C.skip (tn (hj2 x3_1 _ _ H (hE.weak ⟨rfl, rfl, rfl, rfl, rfl, rfl, rfl, rfl, trivial⟩)))
def V_slices_breakPatternsCmpFunc_api_Version_j2 (x11 : Int) (Kl1 : Int → World → Prop) (w : World) : Prop :=
  Kl1 (IntKind.wrap .i64 (x11 + 1)) w
def V_slices_breakPatternsCmpFunc_api_Version_j3 (x0 : Sl) (x1 : Int) (x11 : Int) (Kl1 : Int → World → Prop) (x12 : Int) (w : World) : Prop :=
  nextB w (fun w => opP Tryz.prog Value.pointer (Instr.indexAt 67 (Sl.v x0) (.int .i64 (IntKind.wrap .i64 (x1 + x12)))) (fun x59 => opP Tryz.prog Value.pointer (Instr.indexAt 67 (Sl.v x0) (.int .i64 x11)) (fun x63 => (opE Tryz.prog T_api_Version.v (Instr.loadAt 72 (.pointer x59)) w (fun x60 w => opE Tryz.prog T_api_Version.v (Instr.loadAt 72 (.pointer x63)) w (fun x64 w => opP Tryz.prog Value.pointer (Instr.indexAt 67 (Sl.v x0) (.int .i64 x11)) (fun x65 => opU Tryz.prog (Instr.storeAt 72 (.pointer x65) (T_api_Version.v x60)) w (fun w => opP Tryz.prog Value.pointer (Instr.indexAt 67 (Sl.v x0) (.int .i64 (IntKind.wrap .i64 (x1 + x12)))) (fun x66 => opU Tryz.prog (Instr.storeAt 72 (.pointer x66) (T_api_Version.v x64)) w (fun w => V_slices_breakPatternsCmpFunc_api_Version_j2 x11 Kl1 w))))))) ∧ (opE Tryz.prog T_api_Version.v (Instr.loadAt 72 (.pointer x63)) w (fun x64_1 w => opE Tryz.prog T_api_Version.v (Instr.loadAt 72 (.pointer x59)) w (fun x60_1 w => opP Tryz.prog Value.pointer (Instr.indexAt 67 (Sl.v x0) (.int .i64 x11)) (fun x65_1 => opU Tryz.prog (Instr.storeAt 72 (.pointer x65_1) (T_api_Version.v x60_1)) w (fun w => opP Tryz.prog Value.pointer (Instr.indexAt 67 (Sl.v x0) (.int .i64 (IntKind.wrap .i64 (x1 + x12)))) (fun x66_1 => opU Tryz.prog (Instr.storeAt 72 (.pointer x66_1) (T_api_Version.v x64_1)) w (fun w => V_slices_breakPatternsCmpFunc_api_Version_j2 x11 Kl1 w))))))))))
def V_slices_breakPatternsCmpFunc_api_Version_l1b (x0 : Sl) (x1 : Int) (x2 : Int) (Ret : World → Prop) (x9 : Option Addr) (r : Int) (x11 : Int) (w : World) (Kl1 : Int → World → Prop) : Prop :=
  opE Tryz.prog (Value.int .i64) (binOp .quo 3 (.int .i64 (IntKind.wrap .i64 (x2 - x1))) (.int .i64 4)) w (fun x31 w => ((x11 ≤ (IntKind.wrap .i64 ((IntKind.wrap .i64 (x1 + (IntKind.wrap .i64 (x31 * 2)))) + 1))) → (Cl Tryz.prog 116 [(.pointer x9)].toArray w (fun e w => ∃ (r_1 : Int), e = .returned (.int .u64 r_1) ∧ (opE Tryz.prog (Value.int .u64) (binOp .and 143 (.int .u64 r_1) (.int .u64 (IntKind.wrap .u64 (r - 1)))) w (fun x41 w => opE Tryz.prog (Value.int .i64) (Go.convert 143 3 (.int .u64 x41)) w (fun x42 w => (((IntKind.wrap .i64 (x2 - x1)) ≤ x42) → (V_slices_breakPatternsCmpFunc_api_Version_j3 x0 x1 x11 Kl1 (IntKind.wrap .i64 (x42 - (IntKind.wrap .i64 (x2 - x1)))) w)) ∧ (¬ ((IntKind.wrap .i64 (x2 - x1)) ≤ x42) → (V_slices_breakPatternsCmpFunc_api_Version_j3 x0 x1 x11 Kl1 x42 w)))))))) ∧ (¬ (x11 ≤ (IntKind.wrap .i64 ((IntKind.wrap .i64 (x1 + (IntKind.wrap .i64 (x31 * 2)))) + 1))) → (Ret  w)))
def V_slices_breakPatternsCmpFunc_api_Version (x0 : Sl) (x1 : Int) (x2 : Int) (x3 : Value) (w : World) (Ret : World → Prop) : Prop :=
  ((8 ≤ (IntKind.wrap .i64 (x2 - x1))) → (opE Tryz.prog (Value.int .u64) (Go.convert 3 182 (.int .i64 (IntKind.wrap .i64 (x2 - x1)))) w (fun x19 w => opE Tryz.prog Value.pointer (Instr.alloc 182 true (.tuple #[])) w (fun x9 w => opU Tryz.prog (Instr.storeAt 182 (.pointer x9) (.int .u64 x19)) w (fun w => Cl Tryz.prog 115 [(.int .i64 (IntKind.wrap .i64 (x2 - x1)))].toArray w (fun e w => ∃ (r : Int), e = .returned (.int .u64 r) ∧ (opE Tryz.prog (Value.int .i64) (binOp .quo 3 (.int .i64 (IntKind.wrap .i64 (x2 - x1))) (.int .i64 4)) w (fun x24 w => ∃ (I : Int → World → Prop) (μ : Int → World → Nat), I (IntKind.wrap .i64 ((IntKind.wrap .i64 (x1 + (IntKind.wrap .i64 (x24 * 2)))) - 1)) w ∧ ∀ (x11 : Int) w, I x11 w → V_slices_breakPatternsCmpFunc_api_Version_l1b x0 x1 x2 Ret x9 r x11 w (fun x11' w' => I x11' w' ∧ μ x11' w' < μ x11 w))))))))) ∧ (¬ (8 ≤ (IntKind.wrap .i64 (x2 - x1))) → (Ret  w))
set_option maxRecDepth 100000 in
theorem L1_slices_breakPatternsCmpFunc_api_Version (x0 : Sl) (x1 : Int) (x2 : Int) (x3 : Value) (w : World) (Ret : World → Prop) (H : V_slices_breakPatternsCmpFunc_api_Version x0 x1 x2 x3 w Ret) : Cl Tryz.prog 107 [(Sl.v x0), (.int .i64 x1), (.int .i64 x2), x3].toArray w (fun e w' => e = .returned (.tuple [].toArray) ∧ Ret  w') := by
  unfold V_slices_breakPatternsCmpFunc_api_Version at H
  refine C.enter 67 (zipE 0 [(Sl.v x0), (.int .i64 x1), (.int .i64 x2), x3]) Tryz.func107 rfl rfl (by rfl) rfl ?_
  intro a hE
  replace hE : Sat [] 67 [(0, (Sl.v x0)), (1, (.int .i64 x1)), (2, (.int .i64 x2)), (3, x3)] a := hE
  refine C.seq (C.region (hE.mv rfl fun _ hE => (hE.mv rfl fun _ hE => (hE.pur (X.sub hE rfl rfl) fun _ hE => (hE.as_ rfl fun _ hE => (C.nil (tn (C.seq (C.region (hE.mv rfl fun _ hE => (hE.pur (X.geI hE rfl rfl) fun _ hE => (C.nil (tn (C.condP hE rfl (fun hc => ?_) (fun hc => ?_)))))))))))))))
  · replace H := H.1 hc
    refine C.seq (C.region (hE.mv rfl fun _ hE => (hE.op (X.convert hE rfl) H fun x19 w a H hE => (hE.op (X.alloc) H fun x9 w a H hE => (hE.opu (X.store hE rfl rfl) H fun w a H hE => (C.nil (tn (C.seq (C.region (hE.mv rfl fun _ hE => (hE.call (X.callF hE ent115 rfl rfl) H fun e w H => ?_)))))))))))
    obtain ⟨r, rfl, H⟩ := H
    refine ⟨_, rfl, fun _ hE => (hE.as_ rfl fun _ hE => (C.nil (tn (C.seq (C.region (hE.mv rfl fun _ hE => (hE.mv rfl fun _ hE => (hE.op (X.binG hE rfl rfl) H fun x24 w a H hE => (hE.pur (X.mul hE rfl rfl) fun _ hE => (hE.pur (X.add hE rfl rfl) fun _ hE => (hE.pur (X.sub hE rfl rfl) fun _ hE => (hE.as_ rfl fun _ hE => (C.nil (tn (C.block ?_)))))))))))))))⟩
    obtain ⟨I_l1, μ_l1, h0, hb⟩ := H
    refine C.loop (ds := []) (N := 67) (σ := Int) (fun s => [(11, (.int .i64 s)), (0, (Sl.v x0)), (1, (.int .i64 x1)), (8, (.int .i64 (IntKind.wrap .i64 (x2 - x1)))), (9, (.pointer x9)), (10, (.int .u64 r))]) (fun s w => I_l1 s w) (fun s w => μ_l1 s w) (IntKind.wrap .i64 ((IntKind.wrap .i64 (x1 + (IntKind.wrap .i64 (x24 * 2)))) - 1)) h0 (hE.weak ⟨rfl, rfl, rfl, rfl, rfl, rfl, trivial⟩) ?_
    intro x11 w a hI hE
    try dsimp only at hI hE
    obtain ⟨Kl1, hK_l1⟩ : ∃ K : Int → World → Prop, K = (fun x11' w' => I_l1 x11' w' ∧ μ_l1 x11' w' < μ_l1 x11 w) := ⟨_, rfl⟩
    have H : V_slices_breakPatternsCmpFunc_api_Version_l1b x0 x1 x2 Ret x9 r x11 w Kl1 := by rw [hK_l1]; exact hb x11 w hI
    clear hb h0 hI
    unfold V_slices_breakPatternsCmpFunc_api_Version_l1b at H
    refine C.seq (C.seq (C.region (hE.mv rfl fun _ hE => (hE.mv rfl fun _ hE => (hE.mv rfl fun _ hE => (hE.op (X.binG hE rfl rfl) H fun x31 w a H hE => (hE.pur (X.mul hE rfl rfl) fun _ hE => (hE.pur (X.add hE rfl rfl) fun _ hE => (hE.pur (X.add hE rfl rfl) fun _ hE => (hE.pur (X.leI hE rfl rfl) fun _ hE => (C.nil (tn (C.condP hE rfl (fun hc => ?_) (fun hc => ?_))))))))))))))
    · replace H := H.1 hc
      refine C.skip (tn (C.join (ds := []) (N := 67) (σ := Unit) (fun s => [(0, (Sl.v x0)), (1, (.int .i64 x1)), (8, (.int .i64 (IntKind.wrap .i64 (x2 - x1)))), (9, (.pointer x9)), (10, (.int .u64 r)), (11, (.int .i64 x11))]) (fun s w => V_slices_breakPatternsCmpFunc_api_Version_j2 x11 Kl1  w) ?_ (fun hj2 => ?_)))
      · rintro ⟨⟩ w a H hE
        try dsimp only at H hE
        unfold V_slices_breakPatternsCmpFunc_api_Version_j2 at H
        refine C.region (hE.mv rfl fun _ hE => (hE.pur (X.add hE rfl rfl) fun _ hE => (hE.as_ rfl fun _ hE => ?_)))
        rw [hK_l1] at H
        exact C.nil (tn ⟨(IntKind.wrap .i64 (x11 + 1)), hE.weak ⟨rfl, rfl, rfl, rfl, rfl, rfl, trivial⟩, H⟩)
      · refine C.block (C.seq (C.region (hE.call (X.callF hE ent116 rfl rfl) H fun e w H => ?_)))
        obtain ⟨r_1, rfl, H⟩ := H
        refine ⟨_, rfl, fun _ hE => (hE.mv rfl fun _ hE => (hE.pur (X.sub hE rfl rfl) fun _ hE => (hE.op (X.binG hE rfl rfl) H fun x41 w a H hE => (hE.op (X.convert hE rfl) H fun x42 w a H hE => (hE.as_ rfl fun _ hE => (C.nil (tn (C.join (ds := []) (N := 67) (σ := Int) (fun s => [(12, (.int .i64 s)), (0, (Sl.v x0)), (1, (.int .i64 x1)), (8, (.int .i64 (IntKind.wrap .i64 (x2 - x1)))), (9, (.pointer x9)), (10, (.int .u64 r)), (11, (.int .i64 x11))]) (fun s w => V_slices_breakPatternsCmpFunc_api_Version_j3 x0 x1 x11 Kl1 s w) ?_ (fun hj3 => ?_)))))))))⟩
        · intro x12 w a H hE
          try dsimp only at H hE
          unfold V_slices_breakPatternsCmpFunc_api_Version_j3 at H
          refine C.an 20 fun w hB => ?_
          replace H := H w hB
          refine hE.ap 0 rfl (X.move hE rfl) fun _ hE => hE.ap 1 rfl (X.move hE rfl) fun _ hE => hE.ap 2 rfl (X.move hE rfl) fun _ hE => hE.ap 3 rfl (X.move hE rfl) fun _ hE => hE.ap 4 rfl (X.move hE rfl) fun _ hE => hE.ap 5 rfl (X.add hE rfl rfl) fun _ hE => hE.ap 6 rfl (X.move hE rfl) fun _ hE => hE.ap 7 rfl (X.move hE rfl) fun _ hE => hE.ap 8 rfl (X.move hE rfl) fun _ hE => hE.ap 9 rfl (X.add hE rfl rfl) fun _ hE => hE.ao 10 rfl (X.indexAddr hE rfl rfl) H fun x59 a H hE => hE.ap 12 rfl (X.move hE rfl) fun _ hE => hE.ap 13 rfl (X.move hE rfl) fun _ hE => hE.ao 14 rfl (X.indexAddr hE rfl rfl) H fun x63 a H hE => WA.tw 11 15 rfl rfl ?_ ?_
          · replace H := H.1
            intro K hK
            exact hE.wop (X.load hE rfl) H fun x60 w a H hE => hK _ _ (hE.o1 15 rfl (X.load hE rfl) H fun x64 w a H hE => (hE.ao 16 rfl (X.indexAddr hE rfl rfl) H fun x65 a H hE => (hE.o1u 17 rfl (X.store hE rfl rfl) H fun w a H hE => (hE.ao 18 rfl (X.indexAddr hE rfl rfl) H fun x66 a H hE => (hE.o1u 19 rfl (X.store hE rfl rfl) H fun w a H hE => (WA.ni ((bn (tn (hj2 () _ _ H (hE.weak ⟨rfl, rfl, rfl, rfl, rfl, rfl, trivial⟩)))))))))))
          · replace H := H.2
            intro K hK
            exact hE.wop (X.load hE rfl) H fun x64_1 w a H hE => hK _ _ (hE.o1 11 rfl (X.load hE rfl) H fun x60_1 w a H hE => (hE.ao 16 rfl (X.indexAddr hE rfl rfl) H fun x65_1 a H hE => (hE.o1u 17 rfl (X.store hE rfl rfl) H fun w a H hE => (hE.ao 18 rfl (X.indexAddr hE rfl rfl) H fun x66_1 a H hE => (hE.o1u 19 rfl (X.store hE rfl rfl) H fun w a H hE => (WA.ni ((bn (tn (hj2 () _ _ H (hE.weak ⟨rfl, rfl, rfl, rfl, rfl, rfl, trivial⟩)))))))))))
        · refine C.seq (C.region (hE.mv rfl fun _ hE => (hE.mv rfl fun _ hE => (hE.pur (X.geI hE rfl rfl) fun _ hE => (C.nil (tn (C.condP hE rfl (fun hc => ?_) (fun hc => ?_))))))))
          · replace H := H.1 hc
            exact C.region (hE.mv rfl fun _ hE => (hE.mv rfl fun _ hE => (hE.pur (X.sub hE rfl rfl) fun _ hE => (hE.as_ rfl fun _ hE => (C.nil (tn (hj3 (IntKind.wrap .i64 (x42 - (IntKind.wrap .i64 (x2 - x1)))) _ _ H (hE.weak ⟨rfl, rfl, rfl, rfl, rfl, rfl, rfl, trivial⟩))))))))
          · replace H := H.2 hc
            exact C.skip (tn (hj3 x42 _ _ H (hE.weak ⟨rfl, rfl, rfl, rfl, rfl, rfl, rfl, trivial⟩)))
    · replace H := H.2 hc
      exact C.exit (te (te (be (C.end0 hE rfl ⟨rfl, H⟩))))
  · replace H := H.2 hc
    exact C.skip (C.end0 hE rfl ⟨rfl, H⟩)
end Go.Proofs.YtealcoghiaeiiaaGreat.VG
