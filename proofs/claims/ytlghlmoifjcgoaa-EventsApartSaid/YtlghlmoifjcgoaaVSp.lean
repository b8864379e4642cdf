/- Verification conditions, by program (gen.py), of functions of the loaded program, each with the proof that it gives the call; no condition. -/
import Derived.Test.YtlghlmoifjcgoaaVS
set_option linter.unusedVariables false
set_option linter.unusedSimpArgs false
namespace Go.Proofs.Ytlghlmoifjcgoaa.VG
open Go.VB Go.Proofs

/-! ### slices.Sort[[]string,string]: function 41 -/
def V_slices_Sort_string_string (x0 : Sl) (w : World) (Ret : World → Prop) : Prop :=
  opE Try.prog (Value.int .u64) (Go.convert 3 74 (.int .i64 (x0.len : Int))) w (fun x8 w => Cl Try.prog 45 [(.int .u64 x8)].toArray w (fun e w => ∃ (r : Int), e = .returned (.int .i64 r) ∧ (Cl Try.prog 44 [(Sl.v x0), (.int .i64 0), (.int .i64 (x0.len : Int)), (.int .i64 r)].toArray w (fun e w => e = .returned (.tuple [].toArray) ∧ (Ret  w)))))
set_option maxRecDepth 100000 in
theorem L1_slices_Sort_string_string (x0 : Sl) (w : World) (Ret : World → Prop) (H : V_slices_Sort_string_string x0 w Ret) : Cl Try.prog 41 [(Sl.v x0)].toArray w (fun e w' => e = .returned (.tuple [].toArray) ∧ Ret  w') := by
  unfold V_slices_Sort_string_string at H
  refine C.enter 11 (zipE 0 [(Sl.v x0)]) Try.func41 rfl rfl (by rfl) rfl ?_
  intro a hE
  replace hE : Sat [] 11 [(0, (Sl.v x0))] a := hE
  refine C.seq ?_
  refine C.region ?_
  refine hE.pur (X.move hE rfl) fun a hE => ?_
  refine hE.purR (fun w => X.lenL hE Try.underlying23 rfl) fun a hE => ?_
  refine hE.pur (X.assign hE rfl) fun a hE => ?_
  refine C.nil (tn ?_)
  refine C.region ?_
  refine hE.pur (X.move hE rfl) fun a hE => ?_
  refine hE.pur (X.move hE rfl) fun a hE => ?_
  refine hE.pur (X.move hE rfl) fun a hE => ?_
  refine hE.op (X.convert hE rfl) H fun x8 w a H hE => ?_
  refine hE.call (X.callF hE ent45 rfl rfl) H fun e w H => ?_
  obtain ⟨r, rfl, H⟩ := H
  refine ⟨_, rfl, fun a hE => ?_⟩
  refine hE.call (X.callF hE ent44 rfl rfl) H fun e w H => ?_
  obtain ⟨rfl, H⟩ := H
  refine ⟨_, rfl, fun a hE => ?_⟩
  exact C.nil (C.end0 hE rfl ⟨rfl, H⟩)
/-! ### slices.pdqsortOrdered[string]: function 44 -/
def V_slices_pdqsortOrdered_string_r5 (x0 : Sl) (x1_1 : Int) (x2_1 : Int) (x8 : Bool) (x9 : Bool) (Kl1 : Int → Int → Int → Bool → Bool → World → Prop) (x3_2 : Int) (x11 : Int) (x87 : Bool) (w : World) : Prop :=
  nextB w (fun w => (x87 = true → (Cl Try.prog 53 [(Sl.v x0), (.int .i64 x1_1), (.int .i64 x2_1), (.int .i64 x11)].toArray w (fun e w => ∃ (r_2 : Int), e = .returned (.int .i64 r_2) ∧ (Kl1 r_2 x2_1 x3_2 x8 x9 w)))) ∧ (x87 = false → (Cl Try.prog 54 [(Sl.v x0), (.int .i64 x1_1), (.int .i64 x2_1), (.int .i64 x11)].toArray w (fun e w => ∃ (r_3 : Int) (r_4 : Bool), e = .returned (.tuple [(.int .i64 r_3), (.bool r_4)].toArray) ∧ (opE Try.prog (Value.int .i64) (binOp .quo 3 (.int .i64 (IntKind.wrap .i64 (x2_1 - x1_1))) (.int .i64 8)) w (fun x110 w => (((IntKind.wrap .i64 (r_3 - x1_1)) < (IntKind.wrap .i64 (x2_1 - r_3))) → (Cl Try.prog 44 [(Sl.v x0), (.int .i64 x1_1), (.int .i64 r_3), (.int .i64 x3_2)].toArray w (fun e w => e = .returned (.tuple [].toArray) ∧ (Kl1 (IntKind.wrap .i64 (r_3 + 1)) x2_1 x3_2 (decide (x110 ≤ (IntKind.wrap .i64 (r_3 - x1_1)))) r_4 w)))) ∧ (¬ ((IntKind.wrap .i64 (r_3 - x1_1)) < (IntKind.wrap .i64 (x2_1 - r_3))) → (Cl Try.prog 44 [(Sl.v x0), (.int .i64 (IntKind.wrap .i64 (r_3 + 1))), (.int .i64 x2_1), (.int .i64 x3_2)].toArray w (fun e w => e = .returned (.tuple [].toArray) ∧ (Kl1 x1_1 r_3 x3_2 (decide (x110 ≤ (IntKind.wrap .i64 (x2_1 - r_3)))) r_4 w))))))))))
def V_slices_pdqsortOrdered_string_j4 (x0 : Sl) (x1_1 : Int) (x2_1 : Int) (x8 : Bool) (x9 : Bool) (Kl1 : Int → Int → Int → Bool → Bool → World → Prop) (x3_2 : Int) (x11 : Int) (w : World) : Prop :=
  ((0 < x1_1) → (opB Try.prog Value.pointer (Instr.indexAt 23 (Sl.v x0) (.int .i64 (IntKind.wrap .i64 (x1_1 - 1)))) w (fun x79 => opB Try.prog Value.string (Instr.loadAt 9 (.pointer x79)) w (fun x80 => opB Try.prog Value.pointer (Instr.indexAt 23 (Sl.v x0) (.int .i64 x11)) w (fun x83 => opB Try.prog Value.string (Instr.loadAt 9 (.pointer x83)) w (fun x84 => ∃ (r_5 : Bool), (∀ w', Bel w w' → Cl Try.prog 52 [(.string x80), (.string x84)].toArray w' (fun e w'' => e = .returned (.bool r_5) ∧ Bel w' w'')) ∧ (V_slices_pdqsortOrdered_string_r5 x0 x1_1 x2_1 x8 x9 Kl1 x3_2 x11 (!r_5) w))))))) ∧ (¬ (0 < x1_1) → (V_slices_pdqsortOrdered_string_r5 x0 x1_1 x2_1 x8 x9 Kl1 x3_2 x11 false w))
def V_slices_pdqsortOrdered_string_r7 (x0 : Sl) (Ret : World → Prop) (x1_1 : Int) (x2_1 : Int) (x8 : Bool) (x9 : Bool) (Kl1 : Int → Int → Int → Bool → Bool → World → Prop) (x3_2 : Int) (x11 : Int) (x68 : Bool) (w : World) : Prop :=
  (x68 = true → (Cl Try.prog 51 [(Sl.v x0), (.int .i64 x1_1), (.int .i64 x2_1)].toArray w (fun e w => ∃ (r_6 : Bool), e = .returned (.bool r_6) ∧ ((r_6 = true → (Ret  w)) ∧ (r_6 = false → (V_slices_pdqsortOrdered_string_j4 x0 x1_1 x2_1 x8 x9 Kl1 x3_2 x11 w)))))) ∧ (x68 = false → (V_slices_pdqsortOrdered_string_j4 x0 x1_1 x2_1 x8 x9 Kl1 x3_2 x11 w))
def V_slices_pdqsortOrdered_string_r6 (x0 : Sl) (Ret : World → Prop) (x1_1 : Int) (x2_1 : Int) (x8 : Bool) (x9 : Bool) (Kl1 : Int → Int → Int → Bool → Bool → World → Prop) (x3_2 : Int) (x11 : Int) (x12 : Int) (x64 : Bool) (w : World) : Prop :=
  (x64 = true → (V_slices_pdqsortOrdered_string_r7 x0 Ret x1_1 x2_1 x8 x9 Kl1 x3_2 x11 (decide (x12 = 1)) w)) ∧ (x64 = false → (V_slices_pdqsortOrdered_string_r7 x0 Ret x1_1 x2_1 x8 x9 Kl1 x3_2 x11 false w))
def V_slices_pdqsortOrdered_string_j3 (x0 : Sl) (Ret : World → Prop) (x1_1 : Int) (x2_1 : Int) (x8 : Bool) (x9 : Bool) (Kl1 : Int → Int → Int → Bool → Bool → World → Prop) (x3_2 : Int) (x11 : Int) (x12 : Int) (w : World) : Prop :=
  (x8 = true → (V_slices_pdqsortOrdered_string_r6 x0 Ret x1_1 x2_1 x8 x9 Kl1 x3_2 x11 x12 x9 w)) ∧ (x8 = false → (V_slices_pdqsortOrdered_string_r6 x0 Ret x1_1 x2_1 x8 x9 Kl1 x3_2 x11 x12 false w))
def V_slices_pdqsortOrdered_string_j2 (x0 : Sl) (Ret : World → Prop) (x1_1 : Int) (x2_1 : Int) (x8 : Bool) (x9 : Bool) (Kl1 : Int → Int → Int → Bool → Bool → World → Prop) (x3_2 : Int) (w : World) : Prop :=
  Cl Try.prog 49 [(Sl.v x0), (.int .i64 x1_1), (.int .i64 x2_1)].toArray w (fun e w => ∃ (r : Int) (r_1 : Int), e = .returned (.tuple [(.int .i64 r), (.int .i64 r_1)].toArray) ∧ (((r_1 = 2) → (Cl Try.prog 50 [(Sl.v x0), (.int .i64 x1_1), (.int .i64 x2_1)].toArray w (fun e w => e = .returned (.tuple [].toArray) ∧ (V_slices_pdqsortOrdered_string_j3 x0 Ret x1_1 x2_1 x8 x9 Kl1 x3_2 (IntKind.wrap .i64 ((IntKind.wrap .i64 (x2_1 - 1)) - (IntKind.wrap .i64 (r - x1_1)))) 1 w)))) ∧ (¬ (r_1 = 2) → (V_slices_pdqsortOrdered_string_j3 x0 Ret x1_1 x2_1 x8 x9 Kl1 x3_2 r r_1 w))))
def V_slices_pdqsortOrdered_string_l1b (x0 : Sl) (Ret : World → Prop) (x1_1 : Int) (x2_1 : Int) (x3_1 : Int) (x8 : Bool) (x9 : Bool) (w : World) (Kl1 : Int → Int → Int → Bool → Bool → World → Prop) : Prop :=
  (((IntKind.wrap .i64 (x2_1 - x1_1)) ≤ 12) → (Cl Try.prog 46 [(Sl.v x0), (.int .i64 x1_1), (.int .i64 x2_1)].toArray w (fun e w => e = .returned (.tuple [].toArray) ∧ (Ret  w)))) ∧ (¬ ((IntKind.wrap .i64 (x2_1 - x1_1)) ≤ 12) → (((x3_1 = 0) → (Cl Try.prog 47 [(Sl.v x0), (.int .i64 x1_1), (.int .i64 x2_1)].toArray w (fun e w => e = .returned (.tuple [].toArray) ∧ (Ret  w)))) ∧ (¬ (x3_1 = 0) → (((!x8) = true → (Cl Try.prog 48 [(Sl.v x0), (.int .i64 x1_1), (.int .i64 x2_1)].toArray w (fun e w => e = .returned (.tuple [].toArray) ∧ (V_slices_pdqsortOrdered_string_j2 x0 Ret x1_1 x2_1 x8 x9 Kl1 (IntKind.wrap .i64 (x3_1 - 1)) w)))) ∧ ((!x8) = false → (V_slices_pdqsortOrdered_string_j2 x0 Ret x1_1 x2_1 x8 x9 Kl1 x3_1 w))))))
def V_slices_pdqsortOrdered_string (x0 : Sl) (x1 : Int) (x2 : Int) (x3 : Int) (w : World) (Ret : World → Prop) : Prop :=
  ∃ (I : Int → Int → Int → Bool → Bool → World → Prop) (μ : Int → Int → Int → Bool → Bool → World → Nat), I x1 x2 x3 true true w ∧ ∀ (x1_1 : Int) (x2_1 : Int) (x3_1 : Int) (x8 : Bool) (x9 : Bool) w, I x1_1 x2_1 x3_1 x8 x9 w → V_slices_pdqsortOrdered_string_l1b x0 Ret x1_1 x2_1 x3_1 x8 x9 w (fun x1_1' x2_1' x3_1' x8' x9' w' => I x1_1' x2_1' x3_1' x8' x9' w' ∧ μ x1_1' x2_1' x3_1' x8' x9' w' < μ x1_1 x2_1 x3_1 x8 x9 w)
set_option maxRecDepth 100000 in
theorem L1_slices_pdqsortOrdered_string (x0 : Sl) (x1 : Int) (x2 : Int) (x3 : Int) (w : World) (Ret : World → Prop) (H : V_slices_pdqsortOrdered_string x0 x1 x2 x3 w Ret) : Cl Try.prog 44 [(Sl.v x0), (.int .i64 x1), (.int .i64 x2), (.int .i64 x3)].toArray w (fun e w' => e = .returned (.tuple [].toArray) ∧ Ret  w') := by
  unfold V_slices_pdqsortOrdered_string at H
  refine C.enter 134 (zipE 0 [(Sl.v x0), (.int .i64 x1), (.int .i64 x2), (.int .i64 x3)]) Try.func44 rfl rfl (by rfl) rfl ?_
  intro a hE
  replace hE : Sat [] 134 [(0, (Sl.v x0)), (1, (.int .i64 x1)), (2, (.int .i64 x2)), (3, (.int .i64 x3))] a := hE
  refine C.seq ?_
  refine C.region ?_
  refine hE.pur (X.assign hE rfl) fun a hE => ?_
  refine C.nil (tn ?_)
  refine C.seq ?_
  refine C.region ?_
  refine hE.pur (X.assign hE rfl) fun a hE => ?_
  refine C.nil (tn ?_)
  refine C.block ?_
  obtain ⟨I_l1, μ_l1, h0, hb⟩ := H
  refine C.loop (ds := []) (N := 134) (σ := Int × Int × Int × Bool × Bool) (fun s => [(1, (.int .i64 s.1)), (2, (.int .i64 s.2.1)), (3, (.int .i64 s.2.2.1)), (8, (.bool s.2.2.2.1)), (9, (.bool s.2.2.2.2)), (0, (Sl.v x0))]) (fun s w => I_l1 s.1 s.2.1 s.2.2.1 s.2.2.2.1 s.2.2.2.2 w) (fun s w => μ_l1 s.1 s.2.1 s.2.2.1 s.2.2.2.1 s.2.2.2.2 w) (x1, x2, x3, true, true) h0 (hE.weak ⟨rfl, rfl, rfl, rfl, rfl, rfl, trivial⟩) ?_
  rintro ⟨x1_1, x2_1, x3_1, x8, x9⟩ w a hI hE
  try dsimp only at hI hE
  obtain ⟨Kl1, hK_l1⟩ : ∃ K : Int → Int → Int → Bool → Bool → World → Prop, K = (fun x1_1' x2_1' x3_1' x8' x9' w' => I_l1 x1_1' x2_1' x3_1' x8' x9' w' ∧ μ_l1 x1_1' x2_1' x3_1' x8' x9' w' < μ_l1 x1_1 x2_1 x3_1 x8 x9 w) := ⟨_, rfl⟩
  have H : V_slices_pdqsortOrdered_string_l1b x0 Ret x1_1 x2_1 x3_1 x8 x9 w Kl1 := by rw [hK_l1]; exact hb x1_1 x2_1 x3_1 x8 x9 w hI
  clear hb h0 hI
  unfold V_slices_pdqsortOrdered_string_l1b at H
  refine C.block ?_
  refine C.seq ?_
  refine C.region ?_
  refine hE.pur (X.move hE rfl) fun a hE => ?_
  refine hE.pur (X.move hE rfl) fun a hE => ?_
  refine hE.pur (X.sub hE rfl rfl) fun a hE => ?_
  refine hE.pur (X.assign hE rfl) fun a hE => ?_
  refine C.nil (tn ?_)
  refine C.seq ?_
  refine C.seq ?_
  refine C.region ?_
  refine hE.pur (X.move hE rfl) fun a hE => ?_
  refine hE.pur (X.leI hE rfl rfl) fun a hE => ?_
  refine C.nil (tn ?_)
  refine C.condP hE rfl (fun hc => ?_) (fun hc => ?_)
  · replace H := H.1 hc
    refine C.seq ?_
    refine C.region ?_
    refine hE.pur (X.move hE rfl) fun a hE => ?_
    refine hE.pur (X.move hE rfl) fun a hE => ?_
    refine hE.pur (X.move hE rfl) fun a hE => ?_
    refine hE.call (X.callF hE ent46 rfl rfl) H fun e w H => ?_
    obtain ⟨rfl, H⟩ := H
    refine ⟨_, rfl, fun a hE => ?_⟩
    refine C.nil (tn ?_)
    exact C.ret (tr (br (tr (br (C.ret0 hE rfl ⟨rfl, H⟩)))))
  · replace H := H.2 hc
    refine C.skip (tn ?_)
    refine C.seq ?_
    refine C.seq ?_
    refine C.region ?_
    refine hE.pur (X.move hE rfl) fun a hE => ?_
    refine hE.pur (X.eqI hE rfl rfl) fun a hE => ?_
    refine C.nil (tn ?_)
    refine C.condP hE rfl (fun hc => ?_) (fun hc => ?_)
    · replace H := H.1 hc
      refine C.seq ?_
      refine C.region ?_
      refine hE.pur (X.move hE rfl) fun a hE => ?_
      refine hE.pur (X.move hE rfl) fun a hE => ?_
      refine hE.pur (X.move hE rfl) fun a hE => ?_
      refine hE.call (X.callF hE ent47 rfl rfl) H fun e w H => ?_
      obtain ⟨rfl, H⟩ := H
      refine ⟨_, rfl, fun a hE => ?_⟩
      refine C.nil (tn ?_)
      exact C.ret (tr (br (tr (br (C.ret0 hE rfl ⟨rfl, H⟩)))))
    · replace H := H.2 hc
      refine C.skip (tn ?_)
      refine C.join (ds := []) (N := 134) (σ := Int) (fun s => [(3, (.int .i64 s)), (0, (Sl.v x0)), (1, (.int .i64 x1_1)), (2, (.int .i64 x2_1)), (8, (.bool x8)), (9, (.bool x9)), (10, (.int .i64 (IntKind.wrap .i64 (x2_1 - x1_1))))]) (fun s w => V_slices_pdqsortOrdered_string_j2 x0 Ret x1_1 x2_1 x8 x9 Kl1 s w) ?_ (fun hj2 => ?_)
      · intro x3_2 w a H hE
        try dsimp only at H hE
        unfold V_slices_pdqsortOrdered_string_j2 at H
        refine C.seq ?_
        refine C.region ?_
        refine hE.pur (X.move hE rfl) fun a hE => ?_
        refine hE.pur (X.move hE rfl) fun a hE => ?_
        refine hE.pur (X.move hE rfl) fun a hE => ?_
        refine hE.call (X.callF hE ent49 rfl rfl) H fun e w H => ?_
        obtain ⟨r, r_1, rfl, H⟩ := H
        refine ⟨_, rfl, fun a hE => ?_⟩
        refine hE.pur (X.move hE rfl) fun a hE => ?_
        refine hE.pur (X.extract hE rfl rfl) fun a hE => ?_
        refine hE.pur (X.extract hE rfl rfl) fun a hE => ?_
        refine hE.pur (X.assign hE rfl) fun a hE => ?_
        refine hE.pur (X.assign hE rfl) fun a hE => ?_
        refine C.nil (tn ?_)
        refine C.join (ds := []) (N := 134) (σ := Int × Int) (fun s => [(11, (.int .i64 s.1)), (12, (.int .i64 s.2)), (0, (Sl.v x0)), (1, (.int .i64 x1_1)), (2, (.int .i64 x2_1)), (3, (.int .i64 x3_2)), (8, (.bool x8)), (9, (.bool x9)), (10, (.int .i64 (IntKind.wrap .i64 (x2_1 - x1_1))))]) (fun s w => V_slices_pdqsortOrdered_string_j3 x0 Ret x1_1 x2_1 x8 x9 Kl1 x3_2 s.1 s.2 w) ?_ (fun hj3 => ?_)
        · rintro ⟨x11, x12⟩ w a H hE
          try dsimp only at H hE
          unfold V_slices_pdqsortOrdered_string_j3 at H
          refine C.join (ds := []) (N := 134) (σ := Unit) (fun s => [(0, (Sl.v x0)), (1, (.int .i64 x1_1)), (2, (.int .i64 x2_1)), (3, (.int .i64 x3_2)), (8, (.bool x8)), (9, (.bool x9)), (10, (.int .i64 (IntKind.wrap .i64 (x2_1 - x1_1)))), (11, (.int .i64 x11))]) (fun s w => V_slices_pdqsortOrdered_string_j4 x0 x1_1 x2_1 x8 x9 Kl1 x3_2 x11  w) ?_ (fun hj4 => ?_)
          · rintro ⟨⟩ w a H hE
            try dsimp only at H hE
            unfold V_slices_pdqsortOrdered_string_j4 at H
            refine C.seq ?_
            refine C.seq ?_
            refine C.draw (by kernel_rfl) (by kernel_rfl) ?_
            refine hE.qpur (X.move hE rfl) fun a hE => ?_
            refine hE.qpur (X.gtI hE rfl rfl) fun a hE => ?_
            refine hE.qpur (X.move hE rfl) fun a hE => ?_
            refine WQ.join (ds := []) (N := 134) (σ := Bool) (fun s => [(87, (.bool s)), (0, (Sl.v x0)), (1, (.int .i64 x1_1)), (2, (.int .i64 x2_1)), (3, (.int .i64 x3_2)), (8, (.bool x8)), (9, (.bool x9)), (10, (.int .i64 (IntKind.wrap .i64 (x2_1 - x1_1)))), (11, (.int .i64 x11))]) (fun s => V_slices_pdqsortOrdered_string_r5 x0 x1_1 x2_1 x8 x9 Kl1 x3_2 x11 s w) 12 ?_ (fun hr5 => ?_)
            · intro x87 a H hE
              try dsimp only at H hE
              unfold V_slices_pdqsortOrdered_string_r5 at H
              refine C.qnil (fun w hB => ?_)
              replace H := H w hB
              refine (tn ?_)
              refine C.condB hE rfl (fun hc => ?_) (fun hc => ?_)
              · replace H := H.1 hc
                refine C.seq ?_
                refine C.region ?_
                refine hE.pur (X.move hE rfl) fun a hE => ?_
                refine hE.pur (X.move hE rfl) fun a hE => ?_
                refine hE.pur (X.move hE rfl) fun a hE => ?_
                refine hE.pur (X.move hE rfl) fun a hE => ?_
                refine hE.call (X.callF hE ent53 rfl rfl) H fun e w H => ?_
                obtain ⟨r_2, rfl, H⟩ := H
                refine ⟨_, rfl, fun a hE => ?_⟩
                refine hE.pur (X.assign hE rfl) fun a hE => ?_
                refine C.nil (tn ?_)
                refine C.seq ?_
                refine C.region ?_
                refine hE.pur (X.move hE rfl) fun a hE => ?_
                refine hE.pur (X.assign hE rfl) fun a hE => ?_
                refine C.nil (tn ?_)
                rw [hK_l1] at H
                exact C.exit (te (be (tn ⟨(r_2, x2_1, x3_2, x8, x9), hE.weak ⟨rfl, rfl, rfl, rfl, rfl, rfl, trivial⟩, H⟩)))
              · replace H := H.2 hc
                refine C.skip (tn ?_)
                refine C.seq ?_
                refine C.region ?_
                refine hE.pur (X.move hE rfl) fun a hE => ?_
                refine hE.pur (X.move hE rfl) fun a hE => ?_
                refine hE.pur (X.move hE rfl) fun a hE => ?_
                refine hE.pur (X.move hE rfl) fun a hE => ?_
                refine hE.call (X.callF hE ent54 rfl rfl) H fun e w H => ?_
                obtain ⟨r_3, r_4, rfl, H⟩ := H
                refine ⟨_, rfl, fun a hE => ?_⟩
                refine hE.pur (X.move hE rfl) fun a hE => ?_
                refine hE.pur (X.extract hE rfl rfl) fun a hE => ?_
                refine hE.pur (X.extract hE rfl rfl) fun a hE => ?_
                refine hE.pur (X.assign hE rfl) fun a hE => ?_
                refine hE.pur (X.assign hE rfl) fun a hE => ?_
                refine C.nil (tn ?_)
                refine C.seq ?_
                refine C.region ?_
                refine hE.pur (X.move hE rfl) fun a hE => ?_
                refine hE.pur (X.assign hE rfl) fun a hE => ?_
                refine C.nil (tn ?_)
                refine C.seq ?_
                refine C.region ?_
                refine hE.pur (X.move hE rfl) fun a hE => ?_
                refine hE.pur (X.move hE rfl) fun a hE => ?_
                refine hE.pur (X.sub hE rfl rfl) fun a hE => ?_
                refine hE.pur (X.move hE rfl) fun a hE => ?_
                refine hE.pur (X.move hE rfl) fun a hE => ?_
                refine hE.pur (X.sub hE rfl rfl) fun a hE => ?_
                refine hE.pur (X.assign hE rfl) fun a hE => ?_
                refine hE.pur (X.assign hE rfl) fun a hE => ?_
                refine C.nil (tn ?_)
                refine C.seq ?_
                refine C.region ?_
                refine hE.pur (X.move hE rfl) fun a hE => ?_
                refine hE.op (X.binG hE rfl rfl) H fun x110 w a H hE => ?_
                refine hE.pur (X.assign hE rfl) fun a hE => ?_
                refine C.nil (tn ?_)
                refine C.seq ?_
                refine C.region ?_
                refine hE.pur (X.move hE rfl) fun a hE => ?_
                refine hE.pur (X.move hE rfl) fun a hE => ?_
                refine hE.pur (X.ltI hE rfl rfl) fun a hE => ?_
                refine C.nil (tn ?_)
                refine C.condP hE rfl (fun hc => ?_) (fun hc => ?_)
                · replace H := H.1 hc
                  refine C.seq ?_
                  refine C.region ?_
                  refine hE.pur (X.move hE rfl) fun a hE => ?_
                  refine hE.pur (X.move hE rfl) fun a hE => ?_
                  refine hE.pur (X.geI hE rfl rfl) fun a hE => ?_
                  refine hE.pur (X.assign hE rfl) fun a hE => ?_
                  refine C.nil (tn ?_)
                  refine C.seq ?_
                  refine C.region ?_
                  refine hE.pur (X.move hE rfl) fun a hE => ?_
                  refine hE.pur (X.move hE rfl) fun a hE => ?_
                  refine hE.pur (X.move hE rfl) fun a hE => ?_
                  refine hE.pur (X.move hE rfl) fun a hE => ?_
                  refine hE.call (X.callF hE ent44 rfl rfl) H fun e w H => ?_
                  obtain ⟨rfl, H⟩ := H
                  refine ⟨_, rfl, fun a hE => ?_⟩
                  refine C.nil (tn ?_)
                  refine C.region ?_
                  refine hE.pur (X.move hE rfl) fun a hE => ?_
                  refine hE.pur (X.add hE rfl rfl) fun a hE => ?_
                  refine hE.pur (X.assign hE rfl) fun a hE => ?_
                  rw [hK_l1] at H
                  exact C.nil (bn (tn ⟨((IntKind.wrap .i64 (r_3 + 1)), x2_1, x3_2, (decide (x110 ≤ (IntKind.wrap .i64 (r_3 - x1_1)))), r_4), hE.weak ⟨rfl, rfl, rfl, rfl, rfl, rfl, trivial⟩, H⟩))
                · replace H := H.2 hc
                  refine C.seq ?_
                  refine C.region ?_
                  refine hE.pur (X.move hE rfl) fun a hE => ?_
                  refine hE.pur (X.move hE rfl) fun a hE => ?_
                  refine hE.pur (X.geI hE rfl rfl) fun a hE => ?_
                  refine hE.pur (X.assign hE rfl) fun a hE => ?_
                  refine C.nil (tn ?_)
                  refine C.seq ?_
                  refine C.region ?_
                  refine hE.pur (X.move hE rfl) fun a hE => ?_
                  refine hE.pur (X.move hE rfl) fun a hE => ?_
                  refine hE.pur (X.add hE rfl rfl) fun a hE => ?_
                  refine hE.pur (X.move hE rfl) fun a hE => ?_
                  refine hE.pur (X.move hE rfl) fun a hE => ?_
                  refine hE.call (X.callF hE ent44 rfl rfl) H fun e w H => ?_
                  obtain ⟨rfl, H⟩ := H
                  refine ⟨_, rfl, fun a hE => ?_⟩
                  refine C.nil (tn ?_)
                  refine C.region ?_
                  refine hE.pur (X.move hE rfl) fun a hE => ?_
                  refine hE.pur (X.assign hE rfl) fun a hE => ?_
                  rw [hK_l1] at H
                  exact C.nil (bn (tn ⟨(x1_1, r_3, x3_2, (decide (x110 ≤ (IntKind.wrap .i64 (x2_1 - r_3)))), r_4), hE.weak ⟨rfl, rfl, rfl, rfl, rfl, rfl, trivial⟩, H⟩))
            · rcases Classical.em ((0 < x1_1)) with hbr5 | hbr5
              · replace H := H.1 hbr5
                replace hE := hE.bool (b := true) (t := 75) rfl (decide_eq_true hbr5)
                refine hE.qon (by rfl) (by rfl) ?_
                refine hE.qpur (X.move hE rfl) fun a hE => ?_
                refine hE.qon (by rfl) (by rfl) ?_
                refine hE.qpur (X.move hE rfl) fun a hE => ?_
                refine hE.qon (by rfl) (by rfl) ?_
                refine hE.qpur (X.sub hE rfl rfl) fun a hE => ?_
                refine hE.qon (by rfl) (by rfl) ?_
                refine hE.qop (X.indexAddr hE rfl rfl) H fun x79 a H hE => ?_
                refine hE.qon (by rfl) (by rfl) ?_
                refine hE.qop (X.load hE rfl) H fun x80 a H hE => ?_
                refine hE.qon (by rfl) (by rfl) ?_
                refine hE.qpur (X.move hE rfl) fun a hE => ?_
                refine hE.qon (by rfl) (by rfl) ?_
                refine hE.qpur (X.move hE rfl) fun a hE => ?_
                refine hE.qon (by rfl) (by rfl) ?_
                refine hE.qop (X.indexAddr hE rfl rfl) H fun x83 a H hE => ?_
                refine hE.qon (by rfl) (by rfl) ?_
                refine hE.qop (X.load hE rfl) H fun x84 a H hE => ?_
                refine hE.qon (by rfl) (by rfl) ?_
                obtain ⟨r_5, hc, H⟩ := H
                refine hE.qcall (fun w' => X.callF hE ent52 rfl rfl) hc fun a hE => ?_
                refine hE.qon (by rfl) (by rfl) ?_
                refine hE.qpur (X.not hE rfl) fun a hE => ?_
                refine hE.qpur (X.pickT hE rfl rfl) fun a hE => ?_
                exact hr5 (!r_5) _ H (hE.weak ⟨rfl, rfl, rfl, rfl, rfl, rfl, rfl, rfl, rfl, trivial⟩)
              · replace H := H.2 hbr5
                replace hE := hE.bool (b := false) (t := 75) rfl (decide_eq_false hbr5)
                refine hE.qoff (by rfl) (by rfl) (by decide) (fun a hE => ?_)
                refine hE.qoff (by rfl) (by rfl) (by decide) (fun a hE => ?_)
                refine hE.qoff (by rfl) (by rfl) (by decide) (fun a hE => ?_)
                refine hE.qoff (by rfl) (by rfl) (by decide) (fun a hE => ?_)
                refine hE.qoff (by rfl) (by rfl) (by decide) (fun a hE => ?_)
                refine hE.qoff (by rfl) (by rfl) (by decide) (fun a hE => ?_)
                refine hE.qoff (by rfl) (by rfl) (by decide) (fun a hE => ?_)
                refine hE.qoff (by rfl) (by rfl) (by decide) (fun a hE => ?_)
                refine hE.qoff (by rfl) (by rfl) (by decide) (fun a hE => ?_)
                refine hE.qoff (by rfl) (by rfl) (by decide) (fun a hE => ?_)
                refine hE.qoff (by rfl) (by rfl) (by decide) (fun a hE => ?_)
                refine hE.qpur (X.pickF hE rfl rfl) fun a hE => ?_
                exact hr5 false _ H (hE.weak ⟨rfl, rfl, rfl, rfl, rfl, rfl, rfl, rfl, rfl, trivial⟩)
          · refine C.seq ?_
            refine C.region ?_
            refine hE.pur (X.move hE rfl) fun a hE => ?_
            refine hE.pur (X.move hE rfl) fun a hE => ?_
            refine WL.join (ds := []) (N := 134) (σ := Bool) (fun s => [(64, (.bool s)), (0, (Sl.v x0)), (1, (.int .i64 x1_1)), (2, (.int .i64 x2_1)), (3, (.int .i64 x3_2)), (8, (.bool x8)), (9, (.bool x9)), (10, (.int .i64 (IntKind.wrap .i64 (x2_1 - x1_1)))), (11, (.int .i64 x11)), (12, (.int .i64 x12))]) (fun s w => V_slices_pdqsortOrdered_string_r6 x0 Ret x1_1 x2_1 x8 x9 Kl1 x3_2 x11 x12 s w) 2 ?_ (fun hr6 => ?_)
            · intro x64 w a H hE
              try dsimp only at H hE
              unfold V_slices_pdqsortOrdered_string_r6 at H
              refine hE.pur (X.move hE rfl) fun a hE => ?_
              refine WL.join (ds := []) (N := 134) (σ := Bool) (fun s => [(68, (.bool s)), (0, (Sl.v x0)), (1, (.int .i64 x1_1)), (2, (.int .i64 x2_1)), (3, (.int .i64 x3_2)), (8, (.bool x8)), (9, (.bool x9)), (10, (.int .i64 (IntKind.wrap .i64 (x2_1 - x1_1)))), (11, (.int .i64 x11))]) (fun s w => V_slices_pdqsortOrdered_string_r7 x0 Ret x1_1 x2_1 x8 x9 Kl1 x3_2 x11 s w) 3 ?_ (fun hr7 => ?_)
              · intro x68 w a H hE
                try dsimp only at H hE
                unfold V_slices_pdqsortOrdered_string_r7 at H
                refine C.nil (tn ?_)
                refine C.condB hE rfl (fun hc => ?_) (fun hc => ?_)
                · replace H := H.1 hc
                  refine C.seq ?_
                  refine C.region ?_
                  refine hE.pur (X.move hE rfl) fun a hE => ?_
                  refine hE.pur (X.move hE rfl) fun a hE => ?_
                  refine hE.pur (X.move hE rfl) fun a hE => ?_
                  refine hE.call (X.callF hE ent51 rfl rfl) H fun e w H => ?_
                  obtain ⟨r_6, rfl, H⟩ := H
                  refine ⟨_, rfl, fun a hE => ?_⟩
                  refine C.nil (tn ?_)
                  refine C.condB hE rfl (fun hc => ?_) (fun hc => ?_)
                  · replace H := H.1 hc
                    exact C.ret (tr (br (tr (br (C.ret0 hE rfl ⟨rfl, H⟩)))))
                  · replace H := H.2 hc
                    exact C.skip (tn (hj4 () _ _ H (hE.weak ⟨rfl, rfl, rfl, rfl, rfl, rfl, rfl, rfl, trivial⟩)))
                · replace H := H.2 hc
                  exact C.skip (tn (hj4 () _ _ H (hE.weak ⟨rfl, rfl, rfl, rfl, rfl, rfl, rfl, rfl, trivial⟩)))
              · rcases Bool.eq_false_or_eq_true (x64) with hbr7 | hbr7
                · replace H := H.1 hbr7
                  replace hE := hE.bool (b := true) (t := 65) rfl (hbr7)
                  refine hE.on (by rfl) (by rfl) ?_
                  refine hE.pur (X.move hE rfl) fun a hE => ?_
                  refine hE.on (by rfl) (by rfl) ?_
                  refine hE.pur (X.eqI hE rfl rfl) fun a hE => ?_
                  refine hE.pur (X.pickT hE rfl rfl) fun a hE => ?_
                  exact hr7 (decide (x12 = 1)) _ _ H (hE.weak ⟨rfl, rfl, rfl, rfl, rfl, rfl, rfl, rfl, rfl, trivial⟩)
                · replace H := H.2 hbr7
                  replace hE := hE.bool (b := false) (t := 65) rfl (hbr7)
                  refine hE.off (by rfl) (by rfl) (by decide) (fun a hE => ?_)
                  refine hE.off (by rfl) (by rfl) (by decide) (fun a hE => ?_)
                  refine hE.pur (X.pickF hE rfl rfl) fun a hE => ?_
                  exact hr7 false _ _ H (hE.weak ⟨rfl, rfl, rfl, rfl, rfl, rfl, rfl, rfl, rfl, trivial⟩)
            · rcases Bool.eq_false_or_eq_true (x8) with hbr6 | hbr6
              · replace H := H.1 hbr6
                replace hE := hE.bool (b := true) (t := 62) rfl (hbr6)
                refine hE.on (by rfl) (by rfl) ?_
                refine hE.pur (X.move hE rfl) fun a hE => ?_
                refine hE.pur (X.pickT hE rfl rfl) fun a hE => ?_
                exact hr6 x9 _ _ H (hE.weak ⟨rfl, rfl, rfl, rfl, rfl, rfl, rfl, rfl, rfl, rfl, trivial⟩)
              · replace H := H.2 hbr6
                replace hE := hE.bool (b := false) (t := 62) rfl (hbr6)
                refine hE.off (by rfl) (by rfl) (by decide) (fun a hE => ?_)
                refine hE.pur (X.pickF hE rfl rfl) fun a hE => ?_
                exact hr6 false _ _ H (hE.weak ⟨rfl, rfl, rfl, rfl, rfl, rfl, rfl, rfl, rfl, rfl, trivial⟩)
        · refine C.seq ?_
          refine C.region ?_
          refine hE.pur (X.move hE rfl) fun a hE => ?_
          refine hE.pur (X.eqI hE rfl rfl) fun a hE => ?_
          refine C.nil (tn ?_)
          refine C.condP hE rfl (fun hc => ?_) (fun hc => ?_)
          · replace H := H.1 hc
            refine C.seq ?_
            refine C.region ?_
            refine hE.pur (X.move hE rfl) fun a hE => ?_
            refine hE.pur (X.move hE rfl) fun a hE => ?_
            refine hE.pur (X.move hE rfl) fun a hE => ?_
            refine hE.call (X.callF hE ent50 rfl rfl) H fun e w H => ?_
            obtain ⟨rfl, H⟩ := H
            refine ⟨_, rfl, fun a hE => ?_⟩
            refine C.nil (tn ?_)
            refine C.seq ?_
            refine C.region ?_
            refine hE.pur (X.move hE rfl) fun a hE => ?_
            refine hE.pur (X.sub hE rfl rfl) fun a hE => ?_
            refine hE.pur (X.move hE rfl) fun a hE => ?_
            refine hE.pur (X.move hE rfl) fun a hE => ?_
            refine hE.pur (X.sub hE rfl rfl) fun a hE => ?_
            refine hE.pur (X.sub hE rfl rfl) fun a hE => ?_
            refine hE.pur (X.assign hE rfl) fun a hE => ?_
            refine C.nil (tn ?_)
            refine C.region ?_
            refine hE.pur (X.assign hE rfl) fun a hE => ?_
            exact C.nil (tn (hj3 ((IntKind.wrap .i64 ((IntKind.wrap .i64 (x2_1 - 1)) - (IntKind.wrap .i64 (r - x1_1)))), 1) _ _ H (hE.weak ⟨rfl, rfl, rfl, rfl, rfl, rfl, rfl, rfl, rfl, trivial⟩)))
          · replace H := H.2 hc
            exact C.skip (tn (hj3 (r, r_1) _ _ H (hE.weak ⟨rfl, rfl, rfl, rfl, rfl, rfl, rfl, rfl, rfl, trivial⟩)))
      · refine C.seq ?_
        refine C.region ?_
        refine hE.pur (X.move hE rfl) fun a hE => ?_
        refine hE.pur (X.not hE rfl) fun a hE => ?_
        refine C.nil (tn ?_)
        refine C.condB hE rfl (fun hc => ?_) (fun hc => ?_)
        · replace H := H.1 hc
          refine C.seq ?_
          refine C.region ?_
          refine hE.pur (X.move hE rfl) fun a hE => ?_
          refine hE.pur (X.move hE rfl) fun a hE => ?_
          refine hE.pur (X.move hE rfl) fun a hE => ?_
          refine hE.call (X.callF hE ent48 rfl rfl) H fun e w H => ?_
          obtain ⟨rfl, H⟩ := H
          refine ⟨_, rfl, fun a hE => ?_⟩
          refine C.nil (tn ?_)
          refine C.region ?_
          refine hE.pur (X.move hE rfl) fun a hE => ?_
          refine hE.pur (X.sub hE rfl rfl) fun a hE => ?_
          refine hE.pur (X.assign hE rfl) fun a hE => ?_
          exact C.nil (tn (hj2 (IntKind.wrap .i64 (x3_1 - 1)) _ _ H (hE.weak ⟨rfl, rfl, rfl, rfl, rfl, rfl, rfl, trivial⟩)))
        · replace H := H.2 hc
          exact C.skip (tn (hj2 x3_1 _ _ H (hE.weak ⟨rfl, rfl, rfl, rfl, rfl, rfl, rfl, trivial⟩)))
/-! ### slices.breakPatternsOrdered[string]: function 48 -/
def V_slices_breakPatternsOrdered_string_j2 (x9 : Int) (Kl1 : Int → World → Prop) (w : World) : Prop :=
  Kl1 (IntKind.wrap .i64 (x9 + 1)) w
def V_slices_breakPatternsOrdered_string_j3 (x0 : Sl) (x1 : Int) (x9 : Int) (Kl1 : Int → World → Prop) (x10 : Int) (w : World) : Prop :=
  nextB w (fun w => opP Try.prog Value.pointer (Instr.indexAt 23 (Sl.v x0) (.int .i64 (IntKind.wrap .i64 (x1 + x10)))) (fun x57 => opP Try.prog Value.pointer (Instr.indexAt 23 (Sl.v x0) (.int .i64 x9)) (fun x61 => (opE Try.prog Value.string (Instr.loadAt 9 (.pointer x57)) w (fun x58 w => opE Try.prog Value.string (Instr.loadAt 9 (.pointer x61)) w (fun x62 w => opP Try.prog Value.pointer (Instr.indexAt 23 (Sl.v x0) (.int .i64 x9)) (fun x63 => opU Try.prog (Instr.storeAt 9 (.pointer x63) (.string x58)) w (fun w => opP Try.prog Value.pointer (Instr.indexAt 23 (Sl.v x0) (.int .i64 (IntKind.wrap .i64 (x1 + x10)))) (fun x64 => opU Try.prog (Instr.storeAt 9 (.pointer x64) (.string x62)) w (fun w => V_slices_breakPatternsOrdered_string_j2 x9 Kl1 w))))))) ∧ (opE Try.prog Value.string (Instr.loadAt 9 (.pointer x61)) w (fun x62_1 w => opE Try.prog Value.string (Instr.loadAt 9 (.pointer x57)) w (fun x58_1 w => opP Try.prog Value.pointer (Instr.indexAt 23 (Sl.v x0) (.int .i64 x9)) (fun x63_1 => opU Try.prog (Instr.storeAt 9 (.pointer x63_1) (.string x58_1)) w (fun w => opP Try.prog Value.pointer (Instr.indexAt 23 (Sl.v x0) (.int .i64 (IntKind.wrap .i64 (x1 + x10)))) (fun x64_1 => opU Try.prog (Instr.storeAt 9 (.pointer x64_1) (.string x62_1)) w (fun w => V_slices_breakPatternsOrdered_string_j2 x9 Kl1 w))))))))))
def V_slices_breakPatternsOrdered_string_l1b (x0 : Sl) (x1 : Int) (x2 : Int) (Ret : World → Prop) (x7 : Option Addr) (r : Int) (x9 : Int) (w : World) (Kl1 : Int → World → Prop) : Prop :=
  opE Try.prog (Value.int .i64) (binOp .quo 3 (.int .i64 (IntKind.wrap .i64 (x2 - x1))) (.int .i64 4)) w (fun x29 w => ((x9 ≤ (IntKind.wrap .i64 ((IntKind.wrap .i64 (x1 + (IntKind.wrap .i64 (x29 * 2)))) + 1))) → (Cl Try.prog 59 [(.pointer x7)].toArray w (fun e w => ∃ (r_1 : Int), e = .returned (.int .u64 r_1) ∧ (opE Try.prog (Value.int .u64) (binOp .and 74 (.int .u64 r_1) (.int .u64 (IntKind.wrap .u64 (r - 1)))) w (fun x39 w => opE Try.prog (Value.int .i64) (Go.convert 74 3 (.int .u64 x39)) w (fun x40 w => (((IntKind.wrap .i64 (x2 - x1)) ≤ x40) → (V_slices_breakPatternsOrdered_string_j3 x0 x1 x9 Kl1 (IntKind.wrap .i64 (x40 - (IntKind.wrap .i64 (x2 - x1)))) w)) ∧ (¬ ((IntKind.wrap .i64 (x2 - x1)) ≤ x40) → (V_slices_breakPatternsOrdered_string_j3 x0 x1 x9 Kl1 x40 w)))))))) ∧ (¬ (x9 ≤ (IntKind.wrap .i64 ((IntKind.wrap .i64 (x1 + (IntKind.wrap .i64 (x29 * 2)))) + 1))) → (Ret  w)))
def V_slices_breakPatternsOrdered_string (x0 : Sl) (x1 : Int) (x2 : Int) (w : World) (Ret : World → Prop) : Prop :=
  ((8 ≤ (IntKind.wrap .i64 (x2 - x1))) → (opE Try.prog (Value.int .u64) (Go.convert 3 88 (.int .i64 (IntKind.wrap .i64 (x2 - x1)))) w (fun x17 w => opE Try.prog Value.pointer (Instr.alloc 88 true (.tuple #[])) w (fun x7 w => opU Try.prog (Instr.storeAt 88 (.pointer x7) (.int .u64 x17)) w (fun w => Cl Try.prog 58 [(.int .i64 (IntKind.wrap .i64 (x2 - x1)))].toArray w (fun e w => ∃ (r : Int), e = .returned (.int .u64 r) ∧ (opE Try.prog (Value.int .i64) (binOp .quo 3 (.int .i64 (IntKind.wrap .i64 (x2 - x1))) (.int .i64 4)) w (fun x22 w => ∃ (I : Int → World → Prop) (μ : Int → World → Nat), I (IntKind.wrap .i64 ((IntKind.wrap .i64 (x1 + (IntKind.wrap .i64 (x22 * 2)))) - 1)) w ∧ ∀ (x9 : Int) w, I x9 w → V_slices_breakPatternsOrdered_string_l1b x0 x1 x2 Ret x7 r x9 w (fun x9' w' => I x9' w' ∧ μ x9' w' < μ x9 w))))))))) ∧ (¬ (8 ≤ (IntKind.wrap .i64 (x2 - x1))) → (Ret  w))
set_option maxRecDepth 100000 in
theorem L1_slices_breakPatternsOrdered_string (x0 : Sl) (x1 : Int) (x2 : Int) (w : World) (Ret : World → Prop) (H : V_slices_breakPatternsOrdered_string x0 x1 x2 w Ret) : Cl Try.prog 48 [(Sl.v x0), (.int .i64 x1), (.int .i64 x2)].toArray w (fun e w' => e = .returned (.tuple [].toArray) ∧ Ret  w') := by
  unfold V_slices_breakPatternsOrdered_string at H
  refine C.enter 65 (zipE 0 [(Sl.v x0), (.int .i64 x1), (.int .i64 x2)]) Try.func48 rfl rfl (by rfl) rfl ?_
  intro a hE
  replace hE : Sat [] 65 [(0, (Sl.v x0)), (1, (.int .i64 x1)), (2, (.int .i64 x2))] a := hE
  refine C.seq ?_
  refine C.region ?_
  refine hE.pur (X.move hE rfl) fun a hE => ?_
  refine hE.pur (X.move hE rfl) fun a hE => ?_
  refine hE.pur (X.sub hE rfl rfl) fun a hE => ?_
  refine hE.pur (X.assign hE rfl) fun a hE => ?_
  refine C.nil (tn ?_)
  refine C.seq ?_
  refine C.region ?_
  refine hE.pur (X.move hE rfl) fun a hE => ?_
  refine hE.pur (X.geI hE rfl rfl) fun a hE => ?_
  refine C.nil (tn ?_)
  refine C.condP hE rfl (fun hc => ?_) (fun hc => ?_)
  · replace H := H.1 hc
    refine C.seq ?_
    refine C.region ?_
    refine hE.pur (X.move hE rfl) fun a hE => ?_
    refine hE.op (X.convert hE rfl) H fun x17 w a H hE => ?_
    refine hE.op (X.alloc) H fun x7 w a H hE => ?_
    refine hE.opu (X.store hE rfl rfl) H fun w a H hE => ?_
    refine C.nil (tn ?_)
    refine C.seq ?_
    refine C.region ?_
    refine hE.pur (X.move hE rfl) fun a hE => ?_
    refine hE.call (X.callF hE ent58 rfl rfl) H fun e w H => ?_
    obtain ⟨r, rfl, H⟩ := H
    refine ⟨_, rfl, fun a hE => ?_⟩
    refine hE.pur (X.assign hE rfl) fun a hE => ?_
    refine C.nil (tn ?_)
    refine C.seq ?_
    refine C.region ?_
    refine hE.pur (X.move hE rfl) fun a hE => ?_
    refine hE.pur (X.move hE rfl) fun a hE => ?_
    refine hE.op (X.binG hE rfl rfl) H fun x22 w a H hE => ?_
    refine hE.pur (X.mul hE rfl rfl) fun a hE => ?_
    refine hE.pur (X.add hE rfl rfl) fun a hE => ?_
    refine hE.pur (X.sub hE rfl rfl) fun a hE => ?_
    refine hE.pur (X.assign hE rfl) fun a hE => ?_
    refine C.nil (tn ?_)
    refine C.block ?_
    obtain ⟨I_l1, μ_l1, h0, hb⟩ := H
    refine C.loop (ds := []) (N := 65) (σ := Int) (fun s => [(9, (.int .i64 s)), (0, (Sl.v x0)), (1, (.int .i64 x1)), (6, (.int .i64 (IntKind.wrap .i64 (x2 - x1)))), (7, (.pointer x7)), (8, (.int .u64 r))]) (fun s w => I_l1 s w) (fun s w => μ_l1 s w) (IntKind.wrap .i64 ((IntKind.wrap .i64 (x1 + (IntKind.wrap .i64 (x22 * 2)))) - 1)) h0 (hE.weak ⟨rfl, rfl, rfl, rfl, rfl, rfl, trivial⟩) ?_
    intro x9 w a hI hE
    try dsimp only at hI hE
    obtain ⟨Kl1, hK_l1⟩ : ∃ K : Int → World → Prop, K = (fun x9' w' => I_l1 x9' w' ∧ μ_l1 x9' w' < μ_l1 x9 w) := ⟨_, rfl⟩
    have H : V_slices_breakPatternsOrdered_string_l1b x0 x1 x2 Ret x7 r x9 w Kl1 := by rw [hK_l1]; exact hb x9 w hI
    clear hb h0 hI
    unfold V_slices_breakPatternsOrdered_string_l1b at H
    refine C.seq ?_
    refine C.seq ?_
    refine C.region ?_
    refine hE.pur (X.move hE rfl) fun a hE => ?_
    refine hE.pur (X.move hE rfl) fun a hE => ?_
    refine hE.pur (X.move hE rfl) fun a hE => ?_
    refine hE.op (X.binG hE rfl rfl) H fun x29 w a H hE => ?_
    refine hE.pur (X.mul hE rfl rfl) fun a hE => ?_
    refine hE.pur (X.add hE rfl rfl) fun a hE => ?_
    refine hE.pur (X.add hE rfl rfl) fun a hE => ?_
    refine hE.pur (X.leI hE rfl rfl) fun a hE => ?_
    refine C.nil (tn ?_)
    refine C.condP hE rfl (fun hc => ?_) (fun hc => ?_)
    · replace H := H.1 hc
      refine C.skip (tn ?_)
      refine C.join (ds := []) (N := 65) (σ := Unit) (fun s => [(0, (Sl.v x0)), (1, (.int .i64 x1)), (6, (.int .i64 (IntKind.wrap .i64 (x2 - x1)))), (7, (.pointer x7)), (8, (.int .u64 r)), (9, (.int .i64 x9))]) (fun s w => V_slices_breakPatternsOrdered_string_j2 x9 Kl1  w) ?_ (fun hj2 => ?_)
      · rintro ⟨⟩ w a H hE
        try dsimp only at H hE
        unfold V_slices_breakPatternsOrdered_string_j2 at H
        refine C.region ?_
        refine hE.pur (X.move hE rfl) fun a hE => ?_
        refine hE.pur (X.add hE rfl rfl) fun a hE => ?_
        refine hE.pur (X.assign hE rfl) fun a hE => ?_
        rw [hK_l1] at H
        exact C.nil (tn ⟨(IntKind.wrap .i64 (x9 + 1)), hE.weak ⟨rfl, rfl, rfl, rfl, rfl, rfl, trivial⟩, H⟩)
      · refine C.block ?_
        refine C.seq ?_
        refine C.region ?_
        refine hE.call (X.callF hE ent59 rfl rfl) H fun e w H => ?_
        obtain ⟨r_1, rfl, H⟩ := H
        refine ⟨_, rfl, fun a hE => ?_⟩
        refine hE.pur (X.move hE rfl) fun a hE => ?_
        refine hE.pur (X.sub hE rfl rfl) fun a hE => ?_
        refine hE.op (X.binG hE rfl rfl) H fun x39 w a H hE => ?_
        refine hE.op (X.convert hE rfl) H fun x40 w a H hE => ?_
        refine hE.pur (X.assign hE rfl) fun a hE => ?_
        refine C.nil (tn ?_)
        refine C.join (ds := []) (N := 65) (σ := Int) (fun s => [(10, (.int .i64 s)), (0, (Sl.v x0)), (1, (.int .i64 x1)), (6, (.int .i64 (IntKind.wrap .i64 (x2 - x1)))), (7, (.pointer x7)), (8, (.int .u64 r)), (9, (.int .i64 x9))]) (fun s w => V_slices_breakPatternsOrdered_string_j3 x0 x1 x9 Kl1 s w) ?_ (fun hj3 => ?_)
        · intro x10 w a H hE
          try dsimp only at H hE
          unfold V_slices_breakPatternsOrdered_string_j3 at H
          refine C.any 20 #[false, false, false, false, false, false, false, false, false, false, false, false, false, false, false, false, false, false, false, false] (by kernel_rfl) (fun w hB => ?_)
          replace H := H w hB
          refine hE.apur (i := 0) (fun _ _ _ _ _ h => h) (by kernel_rfl) rfl (by kernel_rfl) (by kernel_rfl) (by rfl) (l2 := #[true, false, false, false, false, false, false, false, false, false, false, false, false, false, false, false, false, false, false, false]) (pn_run (X.move hE rfl)) fun a hE => ?_
          refine hE.apur (i := 1) (fun _ _ _ _ _ h => h) (by kernel_rfl) rfl (by kernel_rfl) (by kernel_rfl) (by rfl) (l2 := #[true, true, false, false, false, false, false, false, false, false, false, false, false, false, false, false, false, false, false, false]) (pn_run (X.move hE rfl)) fun a hE => ?_
          refine hE.apur (i := 2) (fun _ _ _ _ _ h => h) (by kernel_rfl) rfl (by kernel_rfl) (by kernel_rfl) (by rfl) (l2 := #[true, true, true, false, false, false, false, false, false, false, false, false, false, false, false, false, false, false, false, false]) (pn_run (X.move hE rfl)) fun a hE => ?_
          refine hE.apur (i := 3) (fun _ _ _ _ _ h => h) (by kernel_rfl) rfl (by kernel_rfl) (by kernel_rfl) (by rfl) (l2 := #[true, true, true, true, false, false, false, false, false, false, false, false, false, false, false, false, false, false, false, false]) (pn_run (X.move hE rfl)) fun a hE => ?_
          refine hE.apur (i := 4) (fun _ _ _ _ _ h => h) (by kernel_rfl) rfl (by kernel_rfl) (by kernel_rfl) (by rfl) (l2 := #[true, true, true, true, true, false, false, false, false, false, false, false, false, false, false, false, false, false, false, false]) (pn_run (X.move hE rfl)) fun a hE => ?_
          refine hE.apur (i := 5) (fun _ _ _ _ _ h => h) (by kernel_rfl) rfl (by kernel_rfl) (by kernel_rfl) (by rfl) (l2 := #[true, true, true, true, true, true, false, false, false, false, false, false, false, false, false, false, false, false, false, false]) (pn_run (X.add hE rfl rfl)) fun a hE => ?_
          refine hE.apur (i := 6) (fun _ _ _ _ _ h => h) (by kernel_rfl) rfl (by kernel_rfl) (by kernel_rfl) (by rfl) (l2 := #[true, true, true, true, true, true, true, false, false, false, false, false, false, false, false, false, false, false, false, false]) (pn_run (X.move hE rfl)) fun a hE => ?_
          refine hE.apur (i := 7) (fun _ _ _ _ _ h => h) (by kernel_rfl) rfl (by kernel_rfl) (by kernel_rfl) (by rfl) (l2 := #[true, true, true, true, true, true, true, true, false, false, false, false, false, false, false, false, false, false, false, false]) (pn_run (X.move hE rfl)) fun a hE => ?_
          refine hE.apur (i := 8) (fun _ _ _ _ _ h => h) (by kernel_rfl) rfl (by kernel_rfl) (by kernel_rfl) (by rfl) (l2 := #[true, true, true, true, true, true, true, true, true, false, false, false, false, false, false, false, false, false, false, false]) (pn_run (X.move hE rfl)) fun a hE => ?_
          refine hE.apur (i := 9) (fun _ _ _ _ _ h => h) (by kernel_rfl) rfl (by kernel_rfl) (by kernel_rfl) (by rfl) (l2 := #[true, true, true, true, true, true, true, true, true, true, false, false, false, false, false, false, false, false, false, false]) (pn_run (X.add hE rfl rfl)) fun a hE => ?_
          refine hE.aop (i := 10) (fun _ _ _ _ _ h => h) (by kernel_rfl) rfl (by kernel_rfl) (by kernel_rfl) (by rfl) (l2 := #[true, true, true, true, true, true, true, true, true, true, true, false, false, false, false, false, false, false, false, false]) (X.indexAddr hE rfl rfl) H fun x57 a H hE => ?_
          refine hE.apur (i := 12) (fun _ _ _ _ _ h => h) (by kernel_rfl) rfl (by kernel_rfl) (by kernel_rfl) (by rfl) (l2 := #[true, true, true, true, true, true, true, true, true, true, true, false, true, false, false, false, false, false, false, false]) (pn_run (X.move hE rfl)) fun a hE => ?_
          refine hE.apur (i := 13) (fun _ _ _ _ _ h => h) (by kernel_rfl) rfl (by kernel_rfl) (by kernel_rfl) (by rfl) (l2 := #[true, true, true, true, true, true, true, true, true, true, true, false, true, true, false, false, false, false, false, false]) (pn_run (X.move hE rfl)) fun a hE => ?_
          refine hE.aop (i := 14) (fun _ _ _ _ _ h => h) (by kernel_rfl) rfl (by kernel_rfl) (by kernel_rfl) (by rfl) (l2 := #[true, true, true, true, true, true, true, true, true, true, true, false, true, true, true, false, false, false, false, false]) (X.indexAddr hE rfl rfl) H fun x61 a H hE => ?_
          refine WA.two (i := 11) (j := 15) (l2 := #[true, true, true, true, true, true, true, true, true, true, true, true, true, true, true, false, false, false, false, false]) (l3 := #[true, true, true, true, true, true, true, true, true, true, true, false, true, true, true, true, false, false, false, false]) rfl rfl (by kernel_rfl) (by rfl) (by rfl) ?_ ?_
          · replace H := H.1
            intro K hK
            refine hE.wop (X.load hE rfl) H fun x58 w a H hE => ?_
            refine hK _ _ ?_
            refine WA.one (i := 15) (l2 := #[true, true, true, true, true, true, true, true, true, true, true, true, true, true, true, true, false, false, false, false]) rfl (by kernel_rfl) (by rfl) ?_
            intro K hK
            refine hE.wop (X.load hE rfl) H fun x62 w a H hE => ?_
            refine hK _ _ ?_
            refine hE.aop (i := 16) (fun _ _ _ _ _ h => h) (by kernel_rfl) rfl (by kernel_rfl) (by kernel_rfl) (by rfl) (l2 := #[true, true, true, true, true, true, true, true, true, true, true, true, true, true, true, true, true, false, false, false]) (X.indexAddr hE rfl rfl) H fun x63 a H hE => ?_
            refine WA.one (i := 17) (l2 := #[true, true, true, true, true, true, true, true, true, true, true, true, true, true, true, true, true, true, false, false]) rfl (by kernel_rfl) (by rfl) ?_
            intro K hK
            refine hE.wopu (X.store hE rfl rfl) H fun w a H hE => ?_
            refine hK _ _ ?_
            refine hE.aop (i := 18) (fun _ _ _ _ _ h => h) (by kernel_rfl) rfl (by kernel_rfl) (by kernel_rfl) (by rfl) (l2 := #[true, true, true, true, true, true, true, true, true, true, true, true, true, true, true, true, true, true, true, false]) (X.indexAddr hE rfl rfl) H fun x64 a H hE => ?_
            refine WA.one (i := 19) (l2 := #[true, true, true, true, true, true, true, true, true, true, true, true, true, true, true, true, true, true, true, true]) rfl (by kernel_rfl) (by rfl) ?_
            intro K hK
            refine hE.wopu (X.store hE rfl rfl) H fun w a H hE => ?_
            refine hK _ _ ?_
            refine WA.nil (by kernel_rfl) ?_
            exact (bn (tn (hj2 () _ _ H (hE.weak ⟨rfl, rfl, rfl, rfl, rfl, rfl, trivial⟩))))
          · replace H := H.2
            intro K hK
            refine hE.wop (X.load hE rfl) H fun x62_1 w a H hE => ?_
            refine hK _ _ ?_
            refine WA.one (i := 11) (l2 := #[true, true, true, true, true, true, true, true, true, true, true, true, true, true, true, true, false, false, false, false]) rfl (by kernel_rfl) (by rfl) ?_
            intro K hK
            refine hE.wop (X.load hE rfl) H fun x58_1 w a H hE => ?_
            refine hK _ _ ?_
            refine hE.aop (i := 16) (fun _ _ _ _ _ h => h) (by kernel_rfl) rfl (by kernel_rfl) (by kernel_rfl) (by rfl) (l2 := #[true, true, true, true, true, true, true, true, true, true, true, true, true, true, true, true, true, false, false, false]) (X.indexAddr hE rfl rfl) H fun x63_1 a H hE => ?_
            refine WA.one (i := 17) (l2 := #[true, true, true, true, true, true, true, true, true, true, true, true, true, true, true, true, true, true, false, false]) rfl (by kernel_rfl) (by rfl) ?_
            intro K hK
            refine hE.wopu (X.store hE rfl rfl) H fun w a H hE => ?_
            refine hK _ _ ?_
            refine hE.aop (i := 18) (fun _ _ _ _ _ h => h) (by kernel_rfl) rfl (by kernel_rfl) (by kernel_rfl) (by rfl) (l2 := #[true, true, true, true, true, true, true, true, true, true, true, true, true, true, true, true, true, true, true, false]) (X.indexAddr hE rfl rfl) H fun x64_1 a H hE => ?_
            refine WA.one (i := 19) (l2 := #[true, true, true, true, true, true, true, true, true, true, true, true, true, true, true, true, true, true, true, true]) rfl (by kernel_rfl) (by rfl) ?_
            intro K hK
            refine hE.wopu (X.store hE rfl rfl) H fun w a H hE => ?_
            refine hK _ _ ?_
            refine WA.nil (by kernel_rfl) ?_
            exact (bn (tn (hj2 () _ _ H (hE.weak ⟨rfl, rfl, rfl, rfl, rfl, rfl, trivial⟩))))
        · refine C.seq ?_
          refine C.region ?_
          refine hE.pur (X.move hE rfl) fun a hE => ?_
          refine hE.pur (X.move hE rfl) fun a hE => ?_
          refine hE.pur (X.geI hE rfl rfl) fun a hE => ?_
          refine C.nil (tn ?_)
          refine C.condP hE rfl (fun hc => ?_) (fun hc => ?_)
          · replace H := H.1 hc
            refine C.region ?_
            refine hE.pur (X.move hE rfl) fun a hE => ?_
            refine hE.pur (X.move hE rfl) fun a hE => ?_
            refine hE.pur (X.sub hE rfl rfl) fun a hE => ?_
            refine hE.pur (X.assign hE rfl) fun a hE => ?_
            exact C.nil (tn (hj3 (IntKind.wrap .i64 (x40 - (IntKind.wrap .i64 (x2 - x1)))) _ _ H (hE.weak ⟨rfl, rfl, rfl, rfl, rfl, rfl, rfl, trivial⟩)))
          · replace H := H.2 hc
            exact C.skip (tn (hj3 x40 _ _ H (hE.weak ⟨rfl, rfl, rfl, rfl, rfl, rfl, rfl, trivial⟩)))
    · replace H := H.2 hc
      exact C.exit (te (te (be (C.end0 hE rfl ⟨rfl, H⟩))))
  · replace H := H.2 hc
    exact C.skip (C.end0 hE rfl ⟨rfl, H⟩)
end Go.Proofs.Ytlghlmoifjcgoaa.VG
