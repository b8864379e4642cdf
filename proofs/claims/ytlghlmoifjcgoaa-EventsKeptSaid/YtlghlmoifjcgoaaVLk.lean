/- Verification conditions, by program (gen.py), of functions of the loaded program, each with the proof that it gives the call; no condition. -/
import Derived.Test.YtlghlmoifjcgoaaVS
set_option linter.unusedVariables false
set_option linter.unusedSimpArgs false
namespace Go.Proofs.Ytlghlmoifjcgoaa.VG
open Go.VB Go.Proofs

/-! ### lading ladinglaw12.EventsKept: function 4 -/
def V_ladinglaw12_EventsKept_r1 (Ret : Bool → World → Prop) (x42 : Bool) (w : World) : Prop :=
  Ret x42 w
def V_ladinglaw12_EventsKept_r7 (Ret : Bool → World → Prop) (x84 : Int) (Kl5 : Int → World → Prop) (x110 : Bool) (w : World) : Prop :=
  nextB w (fun w => (x110 = true → (Ret false w)) ∧ (x110 = false → (Kl5 (IntKind.wrap .i64 (x84 + 1)) w)))
def V_ladinglaw12_EventsKept_r8 (Ret : Bool → World → Prop) (x84 : Int) (Kl5 : Int → World → Prop) (x109 : Bool) (w : World) : Prop :=
  V_ladinglaw12_EventsKept_r7 Ret x84 Kl5 x109 w
def V_ladinglaw12_EventsKept_r6 (Ret : Bool → World → Prop) (x84 : Int) (Kl5 : Int → World → Prop) (x15 : Option Addr) (x101 : Bool) (w : World) : Prop :=
  (x101 = true → (V_ladinglaw12_EventsKept_r7 Ret x84 Kl5 true w)) ∧ (x101 = false → (((0 < x84) → (opB Try.prog Value.pointer (Instr.fieldAt 32 (.pointer x15) 3) w (fun x106 => opB Try.prog Value.string (Instr.loadAt 9 (.pointer x106)) w (fun x107 => V_ladinglaw12_EventsKept_r8 Ret x84 Kl5 (decide (x107 ≠ (ByteArray.mk #[]))) w)))) ∧ (¬ (0 < x84) → (V_ladinglaw12_EventsKept_r8 Ret x84 Kl5 false w))))
def V_ladinglaw12_EventsKept_r10 (x1 : ByteArray) (x2 : Int) (Ret : Bool → World → Prop) (r_1 : Sl) (x150 : Bool) (w : World) : Prop :=
  (x150 = true → (Ret true w)) ∧ (x150 = false → (opE Try.prog Sl.v (Instr.buildSlice 23 1 [(0, (.string (ByteArray.mk #[109, 111, 114, 101])))].toArray) w (fun x155 w => Cl Try.prog 10 [(Sl.v r_1), (.string x1), (.int .i64 x2), (.string (ByteArray.mk #[])), (Sl.v x155)].toArray w (fun e w => ∃ (r_4 : Sl) (r_5 : Int) (r_6 : Int), e = .returned (.tuple [(Sl.v r_4), (.int .i64 r_5), (.int .i64 r_6)].toArray) ∧ (Ret (decide (r_6 = 10)) w)))))
def V_ladinglaw12_EventsKept_j9 (x0 : Sl) (x1 : ByteArray) (x2 : Int) (Ret : Bool → World → Prop) (r_1 : Sl) (w : World) : Prop :=
  ((x2 < 0) → (V_ladinglaw12_EventsKept_r10 x1 x2 Ret r_1 true w)) ∧ (¬ (x2 < 0) → (V_ladinglaw12_EventsKept_r10 x1 x2 Ret r_1 (decide ((r_1.len : Int) = (x0.len : Int))) w))
def V_ladinglaw12_EventsKept_r13 (x0 : Sl) (x1 : ByteArray) (x2 : Int) (Ret : Bool → World → Prop) (r_1 : Sl) (x141 : Bool) (w : World) : Prop :=
  (x141 = true → (Ret false w)) ∧ (x141 = false → (V_ladinglaw12_EventsKept_j9 x0 x1 x2 Ret r_1 w))
def V_ladinglaw12_EventsKept_r12 (x0 : Sl) (x1 : ByteArray) (x2 : Int) (Ret : Bool → World → Prop) (r_1 : Sl) (r_7 : Sl) (x135 : Bool) (w : World) : Prop :=
  (x135 = true → (V_ladinglaw12_EventsKept_r13 x0 x1 x2 Ret r_1 true w)) ∧ (x135 = false → (Cl Try.prog 13 [(Sl.v r_1), (Sl.v r_7)].toArray w (fun e w => ∃ (r_10 : Bool), e = .returned (.bool r_10) ∧ (V_ladinglaw12_EventsKept_r13 x0 x1 x2 Ret r_1 (!r_10) w))))
def V_ladinglaw12_EventsKept_r11 (x0 : Sl) (x1 : ByteArray) (x2 : Int) (x3 : ByteArray) (x4 : Sl) (Ret : Bool → World → Prop) (r_1 : Sl) (r_2 : Int) (x118 : Bool) (w : World) : Prop :=
  (x118 = true → (Cl Try.prog 10 [(Sl.v r_1), (.string x1), (.int .i64 x2), (.string x3), (Sl.v x4)].toArray w (fun e w => ∃ (r_7 : Sl) (r_8 : Int) (r_9 : Int), e = .returned (.tuple [(Sl.v r_7), (.int .i64 r_8), (.int .i64 r_9)].toArray) ∧ (((r_9 ≠ 0) → (V_ladinglaw12_EventsKept_r12 x0 x1 x2 Ret r_1 r_7 true w)) ∧ (¬ (r_9 ≠ 0) → (V_ladinglaw12_EventsKept_r12 x0 x1 x2 Ret r_1 r_7 (decide (r_8 ≠ r_2)) w)))))) ∧ (x118 = false → (V_ladinglaw12_EventsKept_j9 x0 x1 x2 Ret r_1 w))
def V_ladinglaw12_EventsKept_l5b (x0 : Sl) (x1 : ByteArray) (x2 : Int) (x3 : ByteArray) (x4 : Sl) (Ret : Bool → World → Prop) (r_1 : Sl) (r_2 : Int) (x82 : Sl) (x84 : Int) (w : World) (Kl5 : Int → World → Prop) : Prop :=
  ((x84 < (x82.len : Int)) → (opE Try.prog Value.pointer (Instr.indexAt 22 (Sl.v x82) (.int .i64 x84)) w (fun x87 w => opE Try.prog T_api_Event.v (Instr.loadAt 32 (.pointer x87)) w (fun x88 w => opE Try.prog Value.pointer (Instr.alloc 32 true (.tuple #[])) w (fun x15 w => opU Try.prog (Instr.storeAt 32 (.pointer x15) (T_api_Event.v x88)) w (fun w => opB Try.prog Value.pointer (Instr.fieldAt 32 (.pointer x15) 0) w (fun x89 => opB Try.prog Value.string (Instr.loadAt 9 (.pointer x89)) w (fun x90 => ((x90 ≠ x1) → (V_ladinglaw12_EventsKept_r6 Ret x84 Kl5 x15 true w)) ∧ (¬ (x90 ≠ x1) → (opB Try.prog Value.pointer (Instr.fieldAt 32 (.pointer x15) 4) w (fun x94 => opB Try.prog Value.string (Instr.loadAt 9 (.pointer x94)) w (fun x95 => opB Try.prog Value.pointer (Instr.indexAt 23 (Sl.v x4) (.int .i64 x84)) w (fun x98 => opB Try.prog Value.string (Instr.loadAt 9 (.pointer x98)) w (fun x99 => V_ladinglaw12_EventsKept_r6 Ret x84 Kl5 x15 (decide (x95 ≠ x99)) w)))))))))))))) ∧ (¬ (x84 < (x82.len : Int)) → (((x3 ≠ (ByteArray.mk #[])) → (V_ladinglaw12_EventsKept_r11 x0 x1 x2 x3 x4 Ret r_1 r_2 (decide (0 < (x4.len : Int))) w)) ∧ (¬ (x3 ≠ (ByteArray.mk #[])) → (V_ladinglaw12_EventsKept_r11 x0 x1 x2 x3 x4 Ret r_1 r_2 false w))))
def V_ladinglaw12_EventsKept_r4 (x0 : Sl) (x1 : ByteArray) (x2 : Int) (x3 : ByteArray) (x4 : Sl) (Ret : Bool → World → Prop) (r_1 : Sl) (r_2 : Int) (x78 : Bool) (w : World) : Prop :=
  (x78 = true → (Ret false w)) ∧ (x78 = false → (opE Try.prog Sl.v (Instr.sliceAt 22 (Sl.v r_1) (some (.int .i64 (x0.len : Int))) none none) w (fun x82 w => ∃ (I : Int → World → Prop) (μ : Int → World → Nat), I 0 w ∧ ∀ (x84 : Int) w, I x84 w → V_ladinglaw12_EventsKept_l5b x0 x1 x2 x3 x4 Ret r_1 r_2 x82 x84 w (fun x84' w' => I x84' w' ∧ μ x84' w' < μ x84 w))))
def V_ladinglaw12_EventsKept_r14 (x0 : Sl) (x1 : ByteArray) (x2 : Int) (x3 : ByteArray) (x4 : Sl) (Ret : Bool → World → Prop) (r_1 : Sl) (r_2 : Int) (x77 : Bool) (w : World) : Prop :=
  V_ladinglaw12_EventsKept_r4 x0 x1 x2 x3 x4 Ret r_1 r_2 x77 w
def V_ladinglaw12_EventsKept_r3 (x0 : Sl) (x1 : ByteArray) (x2 : Int) (x3 : ByteArray) (x4 : Sl) (Ret : Bool → World → Prop) (r_1 : Sl) (r_2 : Int) (x61 : Bool) (w : World) : Prop :=
  (x61 = true → (V_ladinglaw12_EventsKept_r4 x0 x1 x2 x3 x4 Ret r_1 r_2 true w)) ∧ (x61 = false → ((((r_1.len : Int) ≠ (x0.len : Int)) → (V_ladinglaw12_EventsKept_r14 x0 x1 x2 x3 x4 Ret r_1 r_2 (decide ((r_1.len : Int) ≠ (IntKind.wrap .i64 ((x0.len : Int) + (x4.len : Int))))) w)) ∧ (¬ ((r_1.len : Int) ≠ (x0.len : Int)) → (V_ladinglaw12_EventsKept_r14 x0 x1 x2 x3 x4 Ret r_1 r_2 false w))))
def V_ladinglaw12_EventsKept_r2 (x0 : Sl) (x1 : ByteArray) (x2 : Int) (x3 : ByteArray) (x4 : Sl) (Ret : Bool → World → Prop) (r_1 : Sl) (r_2 : Int) (x56 : Bool) (w : World) : Prop :=
  (x56 = true → (V_ladinglaw12_EventsKept_r3 x0 x1 x2 x3 x4 Ret r_1 r_2 true w)) ∧ (x56 = false → (Cl Try.prog 14 [(Sl.v r_1)].toArray w (fun e w => ∃ (r_11 : Int), e = .returned (.int .i64 r_11) ∧ (V_ladinglaw12_EventsKept_r3 x0 x1 x2 x3 x4 Ret r_1 r_2 (decide (r_11 ≠ 0)) w))))
def V_ladinglaw12_EventsKept (x0 : Sl) (x1 : ByteArray) (x2 : Int) (x3 : ByteArray) (x4 : Sl) (w : World) (Ret : Bool → World → Prop) : Prop :=
  Cl Try.prog 12 [].toArray w (fun e w => ∃ (r : Bool), e = .returned (.bool r) ∧ (((!r) = true → (Ret false w)) ∧ ((!r) = false → (Cl Try.prog 10 [(Sl.v x0), (.string x1), (.int .i64 x2), (.string x3), (Sl.v x4)].toArray w (fun e w => ∃ (r_1 : Sl) (r_2 : Int) (r_3 : Int), e = .returned (.tuple [(Sl.v r_1), (.int .i64 r_2), (.int .i64 r_3)].toArray) ∧ (((r_3 ≠ 0) → ((((r_1.len : Int) = 0) → (V_ladinglaw12_EventsKept_r1 Ret (decide (r_2 = 0)) w)) ∧ (¬ ((r_1.len : Int) = 0) → (V_ladinglaw12_EventsKept_r1 Ret false w)))) ∧ (¬ (r_3 ≠ 0) → ((((r_1.len : Int) < (x0.len : Int)) → (V_ladinglaw12_EventsKept_r2 x0 x1 x2 x3 x4 Ret r_1 r_2 true w)) ∧ (¬ ((r_1.len : Int) < (x0.len : Int)) → (opE Try.prog Sl.v (Instr.sliceAt 22 (Sl.v r_1) none (some (.int .i64 (x0.len : Int))) none) w (fun x52 w => Cl Try.prog 13 [(Sl.v x52), (Sl.v x0)].toArray w (fun e w => ∃ (r_12 : Bool), e = .returned (.bool r_12) ∧ (V_ladinglaw12_EventsKept_r2 x0 x1 x2 x3 x4 Ret r_1 r_2 (!r_12) w)))))))))))))
set_option maxRecDepth 100000 in
theorem L1_ladinglaw12_EventsKept (x0 : Sl) (x1 : ByteArray) (x2 : Int) (x3 : ByteArray) (x4 : Sl) (w : World) (Ret : Bool → World → Prop) (H : V_ladinglaw12_EventsKept x0 x1 x2 x3 x4 w Ret) : Cl Try.prog 4 [(Sl.v x0), (.string x1), (.int .i64 x2), (.string x3), (Sl.v x4)].toArray w (fun e w' => ∃ (r0 : Bool), e = .returned (.bool r0) ∧ Ret r0 w') := by
  unfold V_ladinglaw12_EventsKept at H
  refine C.enter 162 (zipE 0 [(Sl.v x0), (.string x1), (.int .i64 x2), (.string x3), (Sl.v x4)]) Try.func4 rfl rfl (by rfl) rfl ?_
  intro a hE
  replace hE : Sat [] 162 [(0, (Sl.v x0)), (1, (.string x1)), (2, (.int .i64 x2)), (3, (.string x3)), (4, (Sl.v x4))] a := hE
  refine C.seq ?_
  refine C.region ?_
  refine hE.pur (X.assign hE rfl) fun a hE => ?_
  refine C.nil (tn ?_)
  refine C.seq ?_
  refine C.seq ?_
  refine C.region ?_
  refine hE.call (X.callF hE ent12 rfl rfl) H fun e w H => ?_
  obtain ⟨r, rfl, H⟩ := H
  refine ⟨_, rfl, fun a hE => ?_⟩
  refine hE.pur (X.not hE rfl) fun a hE => ?_
  refine C.nil (tn ?_)
  refine C.condB hE rfl (fun hc => ?_) (fun hc => ?_)
  · replace H := H.1 hc
    refine C.seq ?_
    refine C.region ?_
    refine hE.pur (X.assign hE rfl) fun a hE => ?_
    refine C.nil (tn ?_)
    exact C.ret (tr (C.ret1 hE rfl rfl ⟨_, rfl, H⟩))
  · replace H := H.2 hc
    refine C.skip (tn ?_)
    refine C.seq ?_
    refine C.region ?_
    refine hE.pur (X.move hE rfl) fun a hE => ?_
    refine hE.pur (X.move hE rfl) fun a hE => ?_
    refine hE.pur (X.move hE rfl) fun a hE => ?_
    refine hE.pur (X.move hE rfl) fun a hE => ?_
    refine hE.pur (X.move hE rfl) fun a hE => ?_
    refine hE.call (X.callF hE ent10 rfl rfl) H fun e w H => ?_
    obtain ⟨r_1, r_2, r_3, rfl, H⟩ := H
    refine ⟨_, rfl, fun a hE => ?_⟩
    refine hE.pur (X.move hE rfl) fun a hE => ?_
    refine hE.pur (X.extract hE rfl rfl) fun a hE => ?_
    refine hE.pur (X.extract hE rfl rfl) fun a hE => ?_
    refine hE.pur (X.extract hE rfl rfl) fun a hE => ?_
    refine hE.pur (X.assign hE rfl) fun a hE => ?_
    refine hE.pur (X.assign hE rfl) fun a hE => ?_
    refine hE.pur (X.assign hE rfl) fun a hE => ?_
    refine C.nil (tn ?_)
    refine C.seq ?_
    refine C.seq ?_
    refine C.region ?_
    refine hE.pur (X.move hE rfl) fun a hE => ?_
    refine hE.pur (X.neI hE rfl rfl) fun a hE => ?_
    refine C.nil (tn ?_)
    refine C.condP hE rfl (fun hc => ?_) (fun hc => ?_)
    · replace H := H.1 hc
      refine C.seq ?_
      refine C.region ?_
      refine hE.pur (X.move hE rfl) fun a hE => ?_
      refine hE.purR (fun w => X.lenL hE Try.underlying22 rfl) fun a hE => ?_
      refine hE.pur (X.eqI hE rfl rfl) fun a hE => ?_
      refine hE.pur (X.move hE rfl) fun a hE => ?_
      refine WL.join (ds := []) (N := 162) (σ := Bool) (fun s => [(42, (.bool s))]) (fun s w => V_ladinglaw12_EventsKept_r1 Ret s w) 3 ?_ (fun hr1 => ?_)
      · intro x42 w a H hE
        try dsimp only at H hE
        unfold V_ladinglaw12_EventsKept_r1 at H
        refine hE.pur (X.assign hE rfl) fun a hE => ?_
        refine C.nil (tn ?_)
        exact C.ret (tr (C.ret1 hE rfl rfl ⟨_, rfl, H⟩))
      · rcases Classical.em (((r_1.len : Int) = 0)) with hbr1 | hbr1
        · replace H := H.1 hbr1
          replace hE := hE.bool (b := true) (t := 39) rfl (decide_eq_true hbr1)
          refine hE.on (by rfl) (by rfl) ?_
          refine hE.pur (X.move hE rfl) fun a hE => ?_
          refine hE.on (by rfl) (by rfl) ?_
          refine hE.pur (X.eqI hE rfl rfl) fun a hE => ?_
          refine hE.pur (X.pickT hE rfl rfl) fun a hE => ?_
          exact hr1 (decide (r_2 = 0)) _ _ H (hE.weak ⟨rfl, trivial⟩)
        · replace H := H.2 hbr1
          replace hE := hE.bool (b := false) (t := 39) rfl (decide_eq_false hbr1)
          refine hE.off (by rfl) (by rfl) (by decide) (fun a hE => ?_)
          refine hE.off (by rfl) (by rfl) (by decide) (fun a hE => ?_)
          refine hE.pur (X.pickF hE rfl rfl) fun a hE => ?_
          exact hr1 false _ _ H (hE.weak ⟨rfl, trivial⟩)
    · replace H := H.2 hc
      refine C.skip (tn ?_)
      refine C.seq ?_
      refine C.seq ?_
      refine C.region ?_
      refine hE.pur (X.move hE rfl) fun a hE => ?_
      refine hE.purR (fun w => X.lenL hE Try.underlying22 rfl) fun a hE => ?_
      refine hE.pur (X.move hE rfl) fun a hE => ?_
      refine hE.purR (fun w => X.lenL hE Try.underlying22 rfl) fun a hE => ?_
      refine hE.pur (X.ltI hE rfl rfl) fun a hE => ?_
      refine hE.pur (X.move hE rfl) fun a hE => ?_
      refine WL.join (ds := []) (N := 162) (σ := Bool) (fun s => [(56, (.bool s)), (0, (Sl.v x0)), (1, (.string x1)), (2, (.int .i64 x2)), (3, (.string x3)), (4, (Sl.v x4)), (11, (Sl.v r_1)), (12, (.int .i64 r_2))]) (fun s w => V_ladinglaw12_EventsKept_r2 x0 x1 x2 x3 x4 Ret r_1 r_2 s w) 8 ?_ (fun hr2 => ?_)
      · intro x56 w a H hE
        try dsimp only at H hE
        unfold V_ladinglaw12_EventsKept_r2 at H
        refine hE.pur (X.move hE rfl) fun a hE => ?_
        refine WL.join (ds := []) (N := 162) (σ := Bool) (fun s => [(61, (.bool s)), (0, (Sl.v x0)), (1, (.string x1)), (2, (.int .i64 x2)), (3, (.string x3)), (4, (Sl.v x4)), (11, (Sl.v r_1)), (12, (.int .i64 r_2))]) (fun s w => V_ladinglaw12_EventsKept_r3 x0 x1 x2 x3 x4 Ret r_1 r_2 s w) 4 ?_ (fun hr3 => ?_)
        · intro x61 w a H hE
          try dsimp only at H hE
          unfold V_ladinglaw12_EventsKept_r3 at H
          refine hE.pur (X.move hE rfl) fun a hE => ?_
          refine WL.join (ds := []) (N := 162) (σ := Bool) (fun s => [(78, (.bool s)), (0, (Sl.v x0)), (1, (.string x1)), (2, (.int .i64 x2)), (3, (.string x3)), (4, (Sl.v x4)), (11, (Sl.v r_1)), (12, (.int .i64 r_2))]) (fun s w => V_ladinglaw12_EventsKept_r4 x0 x1 x2 x3 x4 Ret r_1 r_2 s w) 16 ?_ (fun hr4 => ?_)
          · intro x78 w a H hE
            try dsimp only at H hE
            unfold V_ladinglaw12_EventsKept_r4 at H
            refine C.nil (tn ?_)
            refine C.condB hE rfl (fun hc => ?_) (fun hc => ?_)
            · replace H := H.1 hc
              refine C.seq ?_
              refine C.region ?_
              refine hE.pur (X.assign hE rfl) fun a hE => ?_
              refine C.nil (tn ?_)
              exact C.ret (tr (C.ret1 hE rfl rfl ⟨_, rfl, H⟩))
            · replace H := H.2 hc
              refine C.skip (tn ?_)
              refine C.seq ?_
              refine C.seq ?_
              refine C.region ?_
              refine hE.pur (X.move hE rfl) fun a hE => ?_
              refine hE.pur (X.move hE rfl) fun a hE => ?_
              refine hE.purR (fun w => X.lenL hE Try.underlying22 rfl) fun a hE => ?_
              refine hE.op (X.slice hE rfl rfl rfl rfl) H fun x82 w a H hE => ?_
              refine hE.purR (fun w => X.lenL hE Try.underlying22 rfl) fun a hE => ?_
              refine hE.pur (X.move hE rfl) fun a hE => ?_
              refine C.nil (tn ?_)
              refine C.block ?_
              obtain ⟨I_l5, μ_l5, h0, hb⟩ := H
              refine C.loop (ds := []) (N := 162) (σ := Int) (fun s => [(84, (.int .i64 s)), (0, (Sl.v x0)), (1, (.string x1)), (2, (.int .i64 x2)), (3, (.string x3)), (4, (Sl.v x4)), (11, (Sl.v r_1)), (12, (.int .i64 r_2)), (82, (Sl.v x82)), (83, (.int .i64 (x82.len : Int)))]) (fun s w => I_l5 s w) (fun s w => μ_l5 s w) 0 h0 (hE.weak ⟨rfl, rfl, rfl, rfl, rfl, rfl, rfl, rfl, rfl, rfl, trivial⟩) ?_
              intro x84 w a hI hE
              try dsimp only at hI hE
              obtain ⟨Kl5, hK_l5⟩ : ∃ K : Int → World → Prop, K = (fun x84' w' => I_l5 x84' w' ∧ μ_l5 x84' w' < μ_l5 x84 w) := ⟨_, rfl⟩
              have H : V_ladinglaw12_EventsKept_l5b x0 x1 x2 x3 x4 Ret r_1 r_2 x82 x84 w Kl5 := by rw [hK_l5]; exact hb x84 w hI
              clear hb h0 hI
              unfold V_ladinglaw12_EventsKept_l5b at H
              refine C.seq ?_
              refine C.region ?_
              refine hE.pur (X.ltI hE rfl rfl) fun a hE => ?_
              refine C.nil (tn ?_)
              refine C.seq ?_
              refine C.condP hE rfl (fun hc => ?_) (fun hc => ?_)
              · replace H := H.1 hc
                refine C.skip (tn ?_)
                refine C.seq ?_
                refine C.block ?_
                refine C.seq ?_
                refine C.region ?_
                refine hE.pur (X.move hE rfl) fun a hE => ?_
                refine hE.op (X.indexAddr hE rfl rfl) H fun x87 w a H hE => ?_
                refine hE.op (X.load hE rfl) H fun x88 w a H hE => ?_
                refine hE.op (X.alloc) H fun x15 w a H hE => ?_
                refine hE.pur (X.assign hE rfl) fun a hE => ?_
                refine hE.opu (X.store hE rfl rfl) H fun w a H hE => ?_
                refine C.nil (tn ?_)
                refine C.seq ?_
                refine C.draw (by kernel_rfl) (by kernel_rfl) ?_
                refine hE.qop (X.fieldAddr hE rfl) H fun x89 a H hE => ?_
                refine hE.qop (X.load hE rfl) H fun x90 a H hE => ?_
                refine hE.qpur (X.move hE rfl) fun a hE => ?_
                refine hE.qpur (X.neS hE rfl rfl) fun a hE => ?_
                refine hE.qpur (X.move hE rfl) fun a hE => ?_
                refine WQ.join (ds := []) (N := 162) (σ := Bool) (fun s => [(101, (.bool s)), (0, (Sl.v x0)), (1, (.string x1)), (2, (.int .i64 x2)), (3, (.string x3)), (4, (Sl.v x4)), (11, (Sl.v r_1)), (12, (.int .i64 r_2)), (14, (.int .i64 x84)), (15, (.pointer x15)), (82, (Sl.v x82)), (83, (.int .i64 (x82.len : Int))), (84, (.int .i64 x84))]) (fun s => V_ladinglaw12_EventsKept_r6 Ret x84 Kl5 x15 s w) 8 ?_ (fun hr6 => ?_)
                · intro x101 a H hE
                  try dsimp only at H hE
                  unfold V_ladinglaw12_EventsKept_r6 at H
                  refine hE.qpur (X.move hE rfl) fun a hE => ?_
                  refine WQ.join (ds := []) (N := 162) (σ := Bool) (fun s => [(110, (.bool s)), (0, (Sl.v x0)), (1, (.string x1)), (2, (.int .i64 x2)), (3, (.string x3)), (4, (Sl.v x4)), (11, (Sl.v r_1)), (12, (.int .i64 r_2)), (82, (Sl.v x82)), (83, (.int .i64 (x82.len : Int))), (84, (.int .i64 x84))]) (fun s => V_ladinglaw12_EventsKept_r7 Ret x84 Kl5 s w) 8 ?_ (fun hr7 => ?_)
                  · intro x110 a H hE
                    try dsimp only at H hE
                    unfold V_ladinglaw12_EventsKept_r7 at H
                    refine C.qnil (fun w hB => ?_)
                    replace H := H w hB
                    refine (tn ?_)
                    refine C.condB hE rfl (fun hc => ?_) (fun hc => ?_)
                    · replace H := H.1 hc
                      refine C.seq ?_
                      refine C.region ?_
                      refine hE.pur (X.assign hE rfl) fun a hE => ?_
                      refine C.nil (tn ?_)
                      exact C.ret (br (tr (tr (br (tr (C.ret1 hE rfl rfl ⟨_, rfl, H⟩))))))
                    · replace H := H.2 hc
                      refine C.skip (bn (tn ?_))
                      refine C.region ?_
                      refine hE.pur (X.add hE rfl rfl) fun a hE => ?_
                      refine hE.pur (X.move hE rfl) fun a hE => ?_
                      rw [hK_l5] at H
                      exact C.nil (tn ⟨(IntKind.wrap .i64 (x84 + 1)), hE.weak ⟨rfl, rfl, rfl, rfl, rfl, rfl, rfl, rfl, rfl, rfl, trivial⟩, H⟩)
                  · rcases Bool.eq_false_or_eq_true (x101) with hbr7 | hbr7
                    · replace H := H.1 hbr7
                      replace hE := hE.bool (b := true) (t := 102) rfl (hbr7)
                      refine hE.qoff (by rfl) (by rfl) (by decide) (fun a hE => ?_)
                      refine hE.qoff (by rfl) (by rfl) (by decide) (fun a hE => ?_)
                      refine hE.qoff (by rfl) (by rfl) (by decide) (fun a hE => ?_)
                      refine hE.qoffU (by rfl) (by rfl) (fun a hE => ?_)
                      refine hE.qoffU (by rfl) (by rfl) (fun a hE => ?_)
                      refine hE.qoffU (by rfl) (by rfl) (fun a hE => ?_)
                      refine hE.qoff (by rfl) (by rfl) (by decide) (fun a hE => ?_)
                      refine hE.qpur (X.pickT hE rfl rfl) fun a hE => ?_
                      exact hr7 true _ H (hE.weak ⟨rfl, rfl, rfl, rfl, rfl, rfl, rfl, rfl, rfl, rfl, rfl, trivial⟩)
                    · replace H := H.2 hbr7
                      replace hE := hE.bool (b := false) (t := 102) rfl (hbr7)
                      refine hE.qon (by rfl) (by rfl) ?_
                      refine hE.qpur (X.move hE rfl) fun a hE => ?_
                      refine hE.qon (by rfl) (by rfl) ?_
                      refine hE.qpur (X.gtI hE rfl rfl) fun a hE => ?_
                      refine hE.qon (by rfl) (by rfl) ?_
                      refine hE.qpur (X.move hE rfl) fun a hE => ?_
                      refine WQ.join (ds := []) (N := 162) (σ := Bool) (fun s => [(109, (.bool s)), (0, (Sl.v x0)), (1, (.string x1)), (2, (.int .i64 x2)), (3, (.string x3)), (4, (Sl.v x4)), (11, (Sl.v r_1)), (12, (.int .i64 r_2)), (82, (Sl.v x82)), (83, (.int .i64 (x82.len : Int))), (84, (.int .i64 x84)), (102, (.bool false))]) (fun s => V_ladinglaw12_EventsKept_r8 Ret x84 Kl5 s w) 4 ?_ (fun hr8 => ?_)
                      · intro x109 a H hE
                        try dsimp only at H hE
                        unfold V_ladinglaw12_EventsKept_r8 at H
                        refine hE.qpur (X.pickF hE rfl rfl) fun a hE => ?_
                        exact hr7 x109 _ H (hE.weak ⟨rfl, rfl, rfl, rfl, rfl, rfl, rfl, rfl, rfl, rfl, rfl, trivial⟩)
                      · rcases Classical.em ((0 < x84)) with hbr8 | hbr8
                        · replace H := H.1 hbr8
                          replace hE := hE.bool (b := true) (t := 105) rfl (decide_eq_true hbr8)
                          refine hE.qon (by rfl) (by rfl) ?_
                          refine hE.qop (X.fieldAddr hE rfl) H fun x106 a H hE => ?_
                          refine hE.qon (by rfl) (by rfl) ?_
                          refine hE.qop (X.load hE rfl) H fun x107 a H hE => ?_
                          refine hE.qon (by rfl) (by rfl) ?_
                          refine hE.qpur (X.neS hE rfl rfl) fun a hE => ?_
                          refine hE.qon (by rfl) (by rfl) ?_
                          refine hE.qpur (X.pickT hE rfl rfl) fun a hE => ?_
                          exact hr8 (decide (x107 ≠ (ByteArray.mk #[]))) _ H (hE.weak ⟨rfl, rfl, rfl, rfl, rfl, rfl, rfl, rfl, rfl, rfl, rfl, rfl, trivial⟩)
                        · replace H := H.2 hbr8
                          replace hE := hE.bool (b := false) (t := 105) rfl (decide_eq_false hbr8)
                          refine hE.qoff (by rfl) (by rfl) (by decide) (fun a hE => ?_)
                          refine hE.qoff (by rfl) (by rfl) (by decide) (fun a hE => ?_)
                          refine hE.qoff (by rfl) (by rfl) (by decide) (fun a hE => ?_)
                          refine hE.qon (by rfl) (by rfl) ?_
                          refine hE.qpur (X.pickF hE rfl rfl) fun a hE => ?_
                          exact hr8 false _ H (hE.weak ⟨rfl, rfl, rfl, rfl, rfl, rfl, rfl, rfl, rfl, rfl, rfl, rfl, trivial⟩)
                · rcases Classical.em ((x90 ≠ x1)) with hbr6 | hbr6
                  · replace H := H.1 hbr6
                    replace hE := hE.bool (b := true) (t := 93) rfl (decide_eq_true hbr6)
                    refine hE.qoff (by rfl) (by rfl) (by decide) (fun a hE => ?_)
                    refine hE.qoff (by rfl) (by rfl) (by decide) (fun a hE => ?_)
                    refine hE.qoff (by rfl) (by rfl) (by decide) (fun a hE => ?_)
                    refine hE.qoff (by rfl) (by rfl) (by decide) (fun a hE => ?_)
                    refine hE.qoff (by rfl) (by rfl) (by decide) (fun a hE => ?_)
                    refine hE.qoff (by rfl) (by rfl) (by decide) (fun a hE => ?_)
                    refine hE.qoff (by rfl) (by rfl) (by decide) (fun a hE => ?_)
                    refine hE.qpur (X.pickT hE rfl rfl) fun a hE => ?_
                    exact hr6 true _ H (hE.weak ⟨rfl, rfl, rfl, rfl, rfl, rfl, rfl, rfl, rfl, rfl, rfl, rfl, rfl, trivial⟩)
                  · replace H := H.2 hbr6
                    replace hE := hE.bool (b := false) (t := 93) rfl (decide_eq_false hbr6)
                    refine hE.qon (by rfl) (by rfl) ?_
                    refine hE.qop (X.fieldAddr hE rfl) H fun x94 a H hE => ?_
                    refine hE.qon (by rfl) (by rfl) ?_
                    refine hE.qop (X.load hE rfl) H fun x95 a H hE => ?_
                    refine hE.qon (by rfl) (by rfl) ?_
                    refine hE.qpur (X.move hE rfl) fun a hE => ?_
                    refine hE.qon (by rfl) (by rfl) ?_
                    refine hE.qpur (X.move hE rfl) fun a hE => ?_
                    refine hE.qon (by rfl) (by rfl) ?_
                    refine hE.qop (X.indexAddr hE rfl rfl) H fun x98 a H hE => ?_
                    refine hE.qon (by rfl) (by rfl) ?_
                    refine hE.qop (X.load hE rfl) H fun x99 a H hE => ?_
                    refine hE.qon (by rfl) (by rfl) ?_
                    refine hE.qpur (X.neS hE rfl rfl) fun a hE => ?_
                    refine hE.qpur (X.pickF hE rfl rfl) fun a hE => ?_
                    exact hr6 (decide (x95 ≠ x99)) _ H (hE.weak ⟨rfl, rfl, rfl, rfl, rfl, rfl, rfl, rfl, rfl, rfl, rfl, rfl, rfl, trivial⟩)
              · replace H := H.2 hc
                refine C.exit (te (te (be (tn ?_))))
                refine C.join (ds := []) (N := 162) (σ := Unit) (fun s => [(0, (Sl.v x0)), (1, (.string x1)), (2, (.int .i64 x2)), (11, (Sl.v r_1))]) (fun s w => V_ladinglaw12_EventsKept_j9 x0 x1 x2 Ret r_1  w) ?_ (fun hj9 => ?_)
                · rintro ⟨⟩ w a H hE
                  try dsimp only at H hE
                  unfold V_ladinglaw12_EventsKept_j9 at H
                  refine C.seq ?_
                  refine C.seq ?_
                  refine C.region ?_
                  refine hE.pur (X.move hE rfl) fun a hE => ?_
                  refine hE.pur (X.ltI hE rfl rfl) fun a hE => ?_
                  refine hE.pur (X.move hE rfl) fun a hE => ?_
                  refine WL.join (ds := []) (N := 162) (σ := Bool) (fun s => [(150, (.bool s)), (1, (.string x1)), (2, (.int .i64 x2)), (11, (Sl.v r_1))]) (fun s w => V_ladinglaw12_EventsKept_r10 x1 x2 Ret r_1 s w) 6 ?_ (fun hr10 => ?_)
                  · intro x150 w a H hE
                    try dsimp only at H hE
                    unfold V_ladinglaw12_EventsKept_r10 at H
                    refine C.nil (tn ?_)
                    refine C.condB hE rfl (fun hc => ?_) (fun hc => ?_)
                    · replace H := H.1 hc
                      refine C.seq ?_
                      refine C.region ?_
                      refine hE.pur (X.assign hE rfl) fun a hE => ?_
                      refine C.nil (tn ?_)
                      exact C.ret (tr (C.ret1 hE rfl rfl ⟨_, rfl, H⟩))
                    · replace H := H.2 hc
                      refine C.skip (tn ?_)
                      refine C.seq ?_
                      refine C.region ?_
                      refine hE.pur (X.move hE rfl) fun a hE => ?_
                      refine hE.pur (X.move hE rfl) fun a hE => ?_
                      refine hE.pur (X.move hE rfl) fun a hE => ?_
                      refine hE.op (X.buildSlice hE rfl) H fun x155 w a H hE => ?_
                      refine hE.call (X.callF hE ent10 rfl rfl) H fun e w H => ?_
                      obtain ⟨r_4, r_5, r_6, rfl, H⟩ := H
                      refine ⟨_, rfl, fun a hE => ?_⟩
                      refine hE.pur (X.move hE rfl) fun a hE => ?_
                      refine hE.pur (X.extract hE rfl rfl) fun a hE => ?_
                      refine hE.pur (X.extract hE rfl rfl) fun a hE => ?_
                      refine hE.pur (X.extract hE rfl rfl) fun a hE => ?_
                      refine hE.pur (X.assign hE rfl) fun a hE => ?_
                      refine hE.pur (X.assign hE rfl) fun a hE => ?_
                      refine hE.pur (X.assign hE rfl) fun a hE => ?_
                      refine C.nil (tn ?_)
                      refine C.seq ?_
                      refine C.region ?_
                      refine hE.pur (X.move hE rfl) fun a hE => ?_
                      refine hE.pur (X.eqI hE rfl rfl) fun a hE => ?_
                      refine hE.pur (X.assign hE rfl) fun a hE => ?_
                      refine C.nil (tn ?_)
                      exact C.ret (C.ret1 hE rfl rfl ⟨_, rfl, H⟩)
                  · rcases Classical.em ((x2 < 0)) with hbr10 | hbr10
                    · replace H := H.1 hbr10
                      replace hE := hE.bool (b := true) (t := 144) rfl (decide_eq_true hbr10)
                      refine hE.off (by rfl) (by rfl) (by decide) (fun a hE => ?_)
                      refine hE.off (by rfl) (by rfl) (by decide) (fun a hE => ?_)
                      refine hE.off (by rfl) (by rfl) (by decide) (fun a hE => ?_)
                      refine hE.off (by rfl) (by rfl) (by decide) (fun a hE => ?_)
                      refine hE.off (by rfl) (by rfl) (by decide) (fun a hE => ?_)
                      refine hE.pur (X.pickT hE rfl rfl) fun a hE => ?_
                      exact hr10 true _ _ H (hE.weak ⟨rfl, rfl, rfl, rfl, trivial⟩)
                    · replace H := H.2 hbr10
                      replace hE := hE.bool (b := false) (t := 144) rfl (decide_eq_false hbr10)
                      refine hE.on (by rfl) (by rfl) ?_
                      refine hE.pur (X.move hE rfl) fun a hE => ?_
                      refine hE.on (by rfl) (by rfl) ?_
                      refine hE.purR (fun w => X.lenL hE Try.underlying22 rfl) fun a hE => ?_
                      refine hE.on (by rfl) (by rfl) ?_
                      refine hE.pur (X.move hE rfl) fun a hE => ?_
                      refine hE.on (by rfl) (by rfl) ?_
                      refine hE.purR (fun w => X.lenL hE Try.underlying22 rfl) fun a hE => ?_
                      refine hE.on (by rfl) (by rfl) ?_
                      refine hE.pur (X.eqI hE rfl rfl) fun a hE => ?_
                      refine hE.pur (X.pickF hE rfl rfl) fun a hE => ?_
                      exact hr10 (decide ((r_1.len : Int) = (x0.len : Int))) _ _ H (hE.weak ⟨rfl, rfl, rfl, rfl, trivial⟩)
                · refine C.seq ?_
                  refine C.region ?_
                  refine hE.pur (X.move hE rfl) fun a hE => ?_
                  refine hE.pur (X.neS hE rfl rfl) fun a hE => ?_
                  refine hE.pur (X.move hE rfl) fun a hE => ?_
                  refine WL.join (ds := []) (N := 162) (σ := Bool) (fun s => [(118, (.bool s)), (0, (Sl.v x0)), (1, (.string x1)), (2, (.int .i64 x2)), (3, (.string x3)), (4, (Sl.v x4)), (11, (Sl.v r_1)), (12, (.int .i64 r_2))]) (fun s w => V_ladinglaw12_EventsKept_r11 x0 x1 x2 x3 x4 Ret r_1 r_2 s w) 4 ?_ (fun hr11 => ?_)
                  · intro x118 w a H hE
                    try dsimp only at H hE
                    unfold V_ladinglaw12_EventsKept_r11 at H
                    refine C.nil (tn ?_)
                    refine C.condB hE rfl (fun hc => ?_) (fun hc => ?_)
                    · replace H := H.1 hc
                      refine C.seq ?_
                      refine C.region ?_
                      refine hE.pur (X.move hE rfl) fun a hE => ?_
                      refine hE.pur (X.move hE rfl) fun a hE => ?_
                      refine hE.pur (X.move hE rfl) fun a hE => ?_
                      refine hE.pur (X.move hE rfl) fun a hE => ?_
                      refine hE.pur (X.move hE rfl) fun a hE => ?_
                      refine hE.call (X.callF hE ent10 rfl rfl) H fun e w H => ?_
                      obtain ⟨r_7, r_8, r_9, rfl, H⟩ := H
                      refine ⟨_, rfl, fun a hE => ?_⟩
                      refine hE.pur (X.move hE rfl) fun a hE => ?_
                      refine hE.pur (X.extract hE rfl rfl) fun a hE => ?_
                      refine hE.pur (X.extract hE rfl rfl) fun a hE => ?_
                      refine hE.pur (X.extract hE rfl rfl) fun a hE => ?_
                      refine hE.pur (X.assign hE rfl) fun a hE => ?_
                      refine hE.pur (X.assign hE rfl) fun a hE => ?_
                      refine hE.pur (X.assign hE rfl) fun a hE => ?_
                      refine C.nil (tn ?_)
                      refine C.seq ?_
                      refine C.region ?_
                      refine hE.pur (X.move hE rfl) fun a hE => ?_
                      refine hE.pur (X.neI hE rfl rfl) fun a hE => ?_
                      refine hE.pur (X.move hE rfl) fun a hE => ?_
                      refine WL.join (ds := []) (N := 162) (σ := Bool) (fun s => [(135, (.bool s)), (0, (Sl.v x0)), (1, (.string x1)), (2, (.int .i64 x2)), (11, (Sl.v r_1)), (16, (Sl.v r_7))]) (fun s w => V_ladinglaw12_EventsKept_r12 x0 x1 x2 Ret r_1 r_7 s w) 4 ?_ (fun hr12 => ?_)
                      · intro x135 w a H hE
                        try dsimp only at H hE
                        unfold V_ladinglaw12_EventsKept_r12 at H
                        refine hE.pur (X.move hE rfl) fun a hE => ?_
                        refine WL.join (ds := []) (N := 162) (σ := Bool) (fun s => [(141, (.bool s)), (0, (Sl.v x0)), (1, (.string x1)), (2, (.int .i64 x2)), (11, (Sl.v r_1))]) (fun s w => V_ladinglaw12_EventsKept_r13 x0 x1 x2 Ret r_1 s w) 5 ?_ (fun hr13 => ?_)
                        · intro x141 w a H hE
                          try dsimp only at H hE
                          unfold V_ladinglaw12_EventsKept_r13 at H
                          refine C.nil (tn ?_)
                          refine C.condB hE rfl (fun hc => ?_) (fun hc => ?_)
                          · replace H := H.1 hc
                            refine C.seq ?_
                            refine C.region ?_
                            refine hE.pur (X.assign hE rfl) fun a hE => ?_
                            refine C.nil (tn ?_)
                            exact C.ret (tr (C.ret1 hE rfl rfl ⟨_, rfl, H⟩))
                          · replace H := H.2 hc
                            exact C.skip (tn (hj9 () _ _ H (hE.weak ⟨rfl, rfl, rfl, rfl, trivial⟩)))
                        · rcases Bool.eq_false_or_eq_true (x135) with hbr13 | hbr13
                          · replace H := H.1 hbr13
                            replace hE := hE.bool (b := true) (t := 136) rfl (hbr13)
                            refine hE.off (by rfl) (by rfl) (by decide) (fun a hE => ?_)
                            refine hE.off (by rfl) (by rfl) (by decide) (fun a hE => ?_)
                            refine hE.off (by rfl) (by rfl) (by decide) (fun a hE => ?_)
                            refine hE.off (by rfl) (by rfl) (by decide) (fun a hE => ?_)
                            refine hE.pur (X.pickT hE rfl rfl) fun a hE => ?_
                            exact hr13 true _ _ H (hE.weak ⟨rfl, rfl, rfl, rfl, rfl, trivial⟩)
                          · replace H := H.2 hbr13
                            replace hE := hE.bool (b := false) (t := 136) rfl (hbr13)
                            refine hE.on (by rfl) (by rfl) ?_
                            refine hE.pur (X.move hE rfl) fun a hE => ?_
                            refine hE.on (by rfl) (by rfl) ?_
                            refine hE.pur (X.move hE rfl) fun a hE => ?_
                            refine hE.on (by rfl) (by rfl) ?_
                            refine hE.call (X.callF hE ent13 rfl rfl) H fun e w H => ?_
                            obtain ⟨r_10, rfl, H⟩ := H
                            refine ⟨_, rfl, fun a hE => ?_⟩
                            refine hE.on (by rfl) (by rfl) ?_
                            refine hE.pur (X.not hE rfl) fun a hE => ?_
                            refine hE.pur (X.pickF hE rfl rfl) fun a hE => ?_
                            exact hr13 (!r_10) _ _ H (hE.weak ⟨rfl, rfl, rfl, rfl, rfl, trivial⟩)
                      · rcases Classical.em ((r_9 ≠ 0)) with hbr12 | hbr12
                        · replace H := H.1 hbr12
                          replace hE := hE.bool (b := true) (t := 131) rfl (decide_eq_true hbr12)
                          refine hE.off (by rfl) (by rfl) (by decide) (fun a hE => ?_)
                          refine hE.off (by rfl) (by rfl) (by decide) (fun a hE => ?_)
                          refine hE.off (by rfl) (by rfl) (by decide) (fun a hE => ?_)
                          refine hE.pur (X.pickT hE rfl rfl) fun a hE => ?_
                          exact hr12 true _ _ H (hE.weak ⟨rfl, rfl, rfl, rfl, rfl, rfl, trivial⟩)
                        · replace H := H.2 hbr12
                          replace hE := hE.bool (b := false) (t := 131) rfl (decide_eq_false hbr12)
                          refine hE.on (by rfl) (by rfl) ?_
                          refine hE.pur (X.move hE rfl) fun a hE => ?_
                          refine hE.on (by rfl) (by rfl) ?_
                          refine hE.pur (X.move hE rfl) fun a hE => ?_
                          refine hE.on (by rfl) (by rfl) ?_
                          refine hE.pur (X.neI hE rfl rfl) fun a hE => ?_
                          refine hE.pur (X.pickF hE rfl rfl) fun a hE => ?_
                          exact hr12 (decide (r_8 ≠ r_2)) _ _ H (hE.weak ⟨rfl, rfl, rfl, rfl, rfl, rfl, trivial⟩)
                    · replace H := H.2 hc
                      exact C.skip (tn (hj9 () _ _ H (hE.weak ⟨rfl, rfl, rfl, rfl, trivial⟩)))
                  · rcases Classical.em ((x3 ≠ (ByteArray.mk #[]))) with hbr11 | hbr11
                    · replace H := H.1 hbr11
                      replace hE := hE.bool (b := true) (t := 114) rfl (decide_eq_true hbr11)
                      refine hE.on (by rfl) (by rfl) ?_
                      refine hE.pur (X.move hE rfl) fun a hE => ?_
                      refine hE.on (by rfl) (by rfl) ?_
                      refine hE.purR (fun w => X.lenL hE Try.underlying23 rfl) fun a hE => ?_
                      refine hE.on (by rfl) (by rfl) ?_
                      refine hE.pur (X.gtI hE rfl rfl) fun a hE => ?_
                      refine hE.pur (X.pickT hE rfl rfl) fun a hE => ?_
                      exact hr11 (decide (0 < (x4.len : Int))) _ _ H (hE.weak ⟨rfl, rfl, rfl, rfl, rfl, rfl, rfl, rfl, trivial⟩)
                    · replace H := H.2 hbr11
                      replace hE := hE.bool (b := false) (t := 114) rfl (decide_eq_false hbr11)
                      refine hE.off (by rfl) (by rfl) (by decide) (fun a hE => ?_)
                      refine hE.off (by rfl) (by rfl) (by decide) (fun a hE => ?_)
                      refine hE.off (by rfl) (by rfl) (by decide) (fun a hE => ?_)
                      refine hE.pur (X.pickF hE rfl rfl) fun a hE => ?_
                      exact hr11 false _ _ H (hE.weak ⟨rfl, rfl, rfl, rfl, rfl, rfl, rfl, rfl, trivial⟩)
          · rcases Bool.eq_false_or_eq_true (x61) with hbr4 | hbr4
            · replace H := H.1 hbr4
              replace hE := hE.bool (b := true) (t := 62) rfl (hbr4)
              refine hE.off (by rfl) (by rfl) (by decide) (fun a hE => ?_)
              refine hE.off (by rfl) (by rfl) (by decide) (fun a hE => ?_)
              refine hE.off (by rfl) (by rfl) (by decide) (fun a hE => ?_)
              refine hE.off (by rfl) (by rfl) (by decide) (fun a hE => ?_)
              refine hE.off (by rfl) (by rfl) (by decide) (fun a hE => ?_)
              refine hE.off (by rfl) (by rfl) (by decide) (fun a hE => ?_)
              refine hE.offU (by rfl) (by rfl) (fun a hE => ?_)
              refine hE.offU (by rfl) (by rfl) (fun a hE => ?_)
              refine hE.offU (by rfl) (by rfl) (fun a hE => ?_)
              refine hE.offU (by rfl) (by rfl) (fun a hE => ?_)
              refine hE.offU (by rfl) (by rfl) (fun a hE => ?_)
              refine hE.offU (by rfl) (by rfl) (fun a hE => ?_)
              refine hE.offU (by rfl) (by rfl) (fun a hE => ?_)
              refine hE.offU (by rfl) (by rfl) (fun a hE => ?_)
              refine hE.off (by rfl) (by rfl) (by decide) (fun a hE => ?_)
              refine hE.pur (X.pickT hE rfl rfl) fun a hE => ?_
              exact hr4 true _ _ H (hE.weak ⟨rfl, rfl, rfl, rfl, rfl, rfl, rfl, rfl, trivial⟩)
            · replace H := H.2 hbr4
              replace hE := hE.bool (b := false) (t := 62) rfl (hbr4)
              refine hE.on (by rfl) (by rfl) ?_
              refine hE.pur (X.move hE rfl) fun a hE => ?_
              refine hE.on (by rfl) (by rfl) ?_
              refine hE.purR (fun w => X.lenL hE Try.underlying22 rfl) fun a hE => ?_
              refine hE.on (by rfl) (by rfl) ?_
              refine hE.pur (X.move hE rfl) fun a hE => ?_
              refine hE.on (by rfl) (by rfl) ?_
              refine hE.purR (fun w => X.lenL hE Try.underlying22 rfl) fun a hE => ?_
              refine hE.on (by rfl) (by rfl) ?_
              refine hE.pur (X.neI hE rfl rfl) fun a hE => ?_
              refine hE.on (by rfl) (by rfl) ?_
              refine hE.pur (X.move hE rfl) fun a hE => ?_
              refine WL.join (ds := []) (N := 162) (σ := Bool) (fun s => [(77, (.bool s)), (0, (Sl.v x0)), (1, (.string x1)), (2, (.int .i64 x2)), (3, (.string x3)), (4, (Sl.v x4)), (11, (Sl.v r_1)), (12, (.int .i64 r_2)), (62, (.bool false))]) (fun s w => V_ladinglaw12_EventsKept_r14 x0 x1 x2 x3 x4 Ret r_1 r_2 s w) 9 ?_ (fun hr14 => ?_)
              · intro x77 w a H hE
                try dsimp only at H hE
                unfold V_ladinglaw12_EventsKept_r14 at H
                refine hE.pur (X.pickF hE rfl rfl) fun a hE => ?_
                exact hr4 x77 _ _ H (hE.weak ⟨rfl, rfl, rfl, rfl, rfl, rfl, rfl, rfl, trivial⟩)
              · rcases Classical.em (((r_1.len : Int) ≠ (x0.len : Int))) with hbr14 | hbr14
                · replace H := H.1 hbr14
                  replace hE := hE.bool (b := true) (t := 68) rfl (decide_eq_true hbr14)
                  refine hE.on (by rfl) (by rfl) ?_
                  refine hE.pur (X.move hE rfl) fun a hE => ?_
                  refine hE.on (by rfl) (by rfl) ?_
                  refine hE.purR (fun w => X.lenL hE Try.underlying22 rfl) fun a hE => ?_
                  refine hE.on (by rfl) (by rfl) ?_
                  refine hE.pur (X.move hE rfl) fun a hE => ?_
                  refine hE.on (by rfl) (by rfl) ?_
                  refine hE.purR (fun w => X.lenL hE Try.underlying22 rfl) fun a hE => ?_
                  refine hE.on (by rfl) (by rfl) ?_
                  refine hE.pur (X.move hE rfl) fun a hE => ?_
                  refine hE.on (by rfl) (by rfl) ?_
                  refine hE.purR (fun w => X.lenL hE Try.underlying23 rfl) fun a hE => ?_
                  refine hE.on (by rfl) (by rfl) ?_
                  refine hE.pur (X.add hE rfl rfl) fun a hE => ?_
                  refine hE.on (by rfl) (by rfl) ?_
                  refine hE.pur (X.neI hE rfl rfl) fun a hE => ?_
                  refine hE.on (by rfl) (by rfl) ?_
                  refine hE.pur (X.pickT hE rfl rfl) fun a hE => ?_
                  exact hr14 (decide ((r_1.len : Int) ≠ (IntKind.wrap .i64 ((x0.len : Int) + (x4.len : Int))))) _ _ H (hE.weak ⟨rfl, rfl, rfl, rfl, rfl, rfl, rfl, rfl, rfl, trivial⟩)
                · replace H := H.2 hbr14
                  replace hE := hE.bool (b := false) (t := 68) rfl (decide_eq_false hbr14)
                  refine hE.off (by rfl) (by rfl) (by decide) (fun a hE => ?_)
                  refine hE.off (by rfl) (by rfl) (by decide) (fun a hE => ?_)
                  refine hE.off (by rfl) (by rfl) (by decide) (fun a hE => ?_)
                  refine hE.off (by rfl) (by rfl) (by decide) (fun a hE => ?_)
                  refine hE.off (by rfl) (by rfl) (by decide) (fun a hE => ?_)
                  refine hE.off (by rfl) (by rfl) (by decide) (fun a hE => ?_)
                  refine hE.off (by rfl) (by rfl) (by decide) (fun a hE => ?_)
                  refine hE.off (by rfl) (by rfl) (by decide) (fun a hE => ?_)
                  refine hE.on (by rfl) (by rfl) ?_
                  refine hE.pur (X.pickF hE rfl rfl) fun a hE => ?_
                  exact hr14 false _ _ H (hE.weak ⟨rfl, rfl, rfl, rfl, rfl, rfl, rfl, rfl, rfl, trivial⟩)
        · rcases Bool.eq_false_or_eq_true (x56) with hbr3 | hbr3
          · replace H := H.1 hbr3
            replace hE := hE.bool (b := true) (t := 57) rfl (hbr3)
            refine hE.off (by rfl) (by rfl) (by decide) (fun a hE => ?_)
            refine hE.off (by rfl) (by rfl) (by decide) (fun a hE => ?_)
            refine hE.off (by rfl) (by rfl) (by decide) (fun a hE => ?_)
            refine hE.pur (X.pickT hE rfl rfl) fun a hE => ?_
            exact hr3 true _ _ H (hE.weak ⟨rfl, rfl, rfl, rfl, rfl, rfl, rfl, rfl, trivial⟩)
          · replace H := H.2 hbr3
            replace hE := hE.bool (b := false) (t := 57) rfl (hbr3)
            refine hE.on (by rfl) (by rfl) ?_
            refine hE.pur (X.move hE rfl) fun a hE => ?_
            refine hE.on (by rfl) (by rfl) ?_
            refine hE.call (X.callF hE ent14 rfl rfl) H fun e w H => ?_
            obtain ⟨r_11, rfl, H⟩ := H
            refine ⟨_, rfl, fun a hE => ?_⟩
            refine hE.on (by rfl) (by rfl) ?_
            refine hE.pur (X.neI hE rfl rfl) fun a hE => ?_
            refine hE.pur (X.pickF hE rfl rfl) fun a hE => ?_
            exact hr3 (decide (r_11 ≠ 0)) _ _ H (hE.weak ⟨rfl, rfl, rfl, rfl, rfl, rfl, rfl, rfl, trivial⟩)
      · rcases Classical.em (((r_1.len : Int) < (x0.len : Int))) with hbr2 | hbr2
        · replace H := H.1 hbr2
          replace hE := hE.bool (b := true) (t := 48) rfl (decide_eq_true hbr2)
          refine hE.off (by rfl) (by rfl) (by decide) (fun a hE => ?_)
          refine hE.off (by rfl) (by rfl) (by decide) (fun a hE => ?_)
          refine hE.off (by rfl) (by rfl) (by decide) (fun a hE => ?_)
          refine hE.off (by rfl) (by rfl) (by decide) (fun a hE => ?_)
          refine hE.off (by rfl) (by rfl) (by decide) (fun a hE => ?_)
          refine hE.off (by rfl) (by rfl) (by decide) (fun a hE => ?_)
          refine hE.off (by rfl) (by rfl) (by decide) (fun a hE => ?_)
          refine hE.pur (X.pickT hE rfl rfl) fun a hE => ?_
          exact hr2 true _ _ H (hE.weak ⟨rfl, rfl, rfl, rfl, rfl, rfl, rfl, rfl, trivial⟩)
        · replace H := H.2 hbr2
          replace hE := hE.bool (b := false) (t := 48) rfl (decide_eq_false hbr2)
          refine hE.on (by rfl) (by rfl) ?_
          refine hE.pur (X.move hE rfl) fun a hE => ?_
          refine hE.on (by rfl) (by rfl) ?_
          refine hE.pur (X.move hE rfl) fun a hE => ?_
          refine hE.on (by rfl) (by rfl) ?_
          refine hE.purR (fun w => X.lenL hE Try.underlying22 rfl) fun a hE => ?_
          refine hE.on (by rfl) (by rfl) ?_
          refine hE.op (X.slice hE rfl rfl rfl rfl) H fun x52 w a H hE => ?_
          refine hE.on (by rfl) (by rfl) ?_
          refine hE.pur (X.move hE rfl) fun a hE => ?_
          refine hE.on (by rfl) (by rfl) ?_
          refine hE.call (X.callF hE ent13 rfl rfl) H fun e w H => ?_
          obtain ⟨r_12, rfl, H⟩ := H
          refine ⟨_, rfl, fun a hE => ?_⟩
          refine hE.on (by rfl) (by rfl) ?_
          refine hE.pur (X.not hE rfl) fun a hE => ?_
          refine hE.pur (X.pickF hE rfl rfl) fun a hE => ?_
          exact hr2 (!r_12) _ _ H (hE.weak ⟨rfl, rfl, rfl, rfl, rfl, rfl, rfl, rfl, trivial⟩)
end Go.Proofs.Ytlghlmoifjcgoaa.VG
