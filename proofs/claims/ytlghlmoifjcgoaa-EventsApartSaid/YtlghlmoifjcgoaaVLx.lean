/- Verification conditions, by program (gen.py), of functions of the loaded program, each with the proof that it gives the call; no condition. -/
import Derived.Test.YtlghlmoifjcgoaaVS
set_option linter.unusedVariables false
set_option linter.unusedSimpArgs false
namespace Go.Proofs.Ytlghlmoifjcgoaa.VG
open Go.VB Go.Proofs

/-! ### lading ladinglaw12.EventsApart: function 8 -/
def V_ladinglaw12_EventsApart_r8 (Ret : Bool → World → Prop) (x71 : Int) (Kl4 : Int → World → Prop) (x108 : Bool) (w : World) : Prop :=
  nextB w (fun w => (x108 = true → (Ret false w)) ∧ (x108 = false → (Kl4 (IntKind.wrap .i64 (x71 + 1)) w)))
def V_ladinglaw12_EventsApart_r7 (x0 : Sl) (Ret : Bool → World → Prop) (x71 : Int) (Kl4 : Int → World → Prop) (x17 : Option Addr) (x98 : Bool) (w : World) : Prop :=
  (x98 = true → (V_ladinglaw12_EventsApart_r8 Ret x71 Kl4 true w)) ∧ (x98 = false → (opB Try.prog Value.pointer (Instr.fieldAt 32 (.pointer x17) 2) w (fun x101 => opB Try.prog (Value.int .i64) (Instr.loadAt 3 (.pointer x101)) w (fun x102 => opB Try.prog Value.pointer (Instr.indexAt 22 (Sl.v x0) (.int .i64 (IntKind.wrap .i64 (x102 - 1)))) w (fun x104 => opB Try.prog T_api_Event.v (Instr.loadAt 32 (.pointer x104)) w (fun x105 => opB Try.prog T_api_Event.v (Instr.loadAt 32 (.pointer x17)) w (fun x106 => opB Try.prog Value.bool (do eqGuard .neq 32 (.tmp 105) (.tmp 106) (T_api_Event.v x105) (T_api_Event.v x106); binOp .neq 32 (T_api_Event.v x105) (T_api_Event.v x106)) w (fun x107 => V_ladinglaw12_EventsApart_r8 Ret x71 Kl4 x107 w))))))))
def V_ladinglaw12_EventsApart_r6 (x0 : Sl) (Ret : Bool → World → Prop) (x71 : Int) (Kl4 : Int → World → Prop) (x17 : Option Addr) (x91 : Bool) (w : World) : Prop :=
  (x91 = true → (V_ladinglaw12_EventsApart_r7 x0 Ret x71 Kl4 x17 true w)) ∧ (x91 = false → (opB Try.prog Value.pointer (Instr.fieldAt 32 (.pointer x17) 2) w (fun x93 => opB Try.prog (Value.int .i64) (Instr.loadAt 3 (.pointer x93)) w (fun x94 => V_ladinglaw12_EventsApart_r7 x0 Ret x71 Kl4 x17 (decide ((x0.len : Int) < x94)) w))))
def V_ladinglaw12_EventsApart_r5 (x0 : Sl) (Ret : Bool → World → Prop) (x71 : Int) (Kl4 : Int → World → Prop) (x17 : Option Addr) (x86 : Bool) (w : World) : Prop :=
  (x86 = true → (V_ladinglaw12_EventsApart_r6 x0 Ret x71 Kl4 x17 true w)) ∧ (x86 = false → (opB Try.prog Value.pointer (Instr.fieldAt 32 (.pointer x17) 2) w (fun x88 => opB Try.prog (Value.int .i64) (Instr.loadAt 3 (.pointer x88)) w (fun x89 => V_ladinglaw12_EventsApart_r6 x0 Ret x71 Kl4 x17 (decide (x89 < 1)) w))))
def V_ladinglaw12_EventsApart_l4b (x0 : Sl) (Ret : Bool → World → Prop) (x11 : Int) (x38 : Int) (Kl1 : Int → Int → World → Prop) (x42 : ByteArray) (r_3 : Sl) (x71 : Int) (w : World) (Kl4 : Int → World → Prop) : Prop :=
  ((x71 < (r_3.len : Int)) → (opE Try.prog Value.pointer (Instr.indexAt 22 (Sl.v r_3) (.int .i64 x71)) w (fun x74 w => opE Try.prog T_api_Event.v (Instr.loadAt 32 (.pointer x74)) w (fun x75 w => opE Try.prog Value.pointer (Instr.alloc 32 true (.tuple #[])) w (fun x17 w => opU Try.prog (Instr.storeAt 32 (.pointer x17) (T_api_Event.v x75)) w (fun w => opB Try.prog Value.pointer (Instr.fieldAt 32 (.pointer x17) 0) w (fun x76 => opB Try.prog Value.string (Instr.loadAt 9 (.pointer x76)) w (fun x77 => ((x77 ≠ x42) → (V_ladinglaw12_EventsApart_r5 x0 Ret x71 Kl4 x17 true w)) ∧ (¬ (x77 ≠ x42) → (opB Try.prog Value.pointer (Instr.fieldAt 32 (.pointer x17) 1) w (fun x81 => opB Try.prog (Value.int .i64) (Instr.loadAt 3 (.pointer x81)) w (fun x82 => V_ladinglaw12_EventsApart_r5 x0 Ret x71 Kl4 x17 (decide (x82 ≠ (IntKind.wrap .i64 (x71 + 1)))) w)))))))))))) ∧ (¬ (x71 < (r_3.len : Int)) → (Kl1 (IntKind.wrap .i64 (x11 + (r_3.len : Int))) (IntKind.wrap .i64 (x38 + 1)) w))
def V_ladinglaw12_EventsApart_r3 (x0 : Sl) (Ret : Bool → World → Prop) (x11 : Int) (x38 : Int) (Kl1 : Int → Int → World → Prop) (x42 : ByteArray) (r_3 : Sl) (x68 : Bool) (w : World) : Prop :=
  (x68 = true → (Ret false w)) ∧ (x68 = false → (∃ (I : Int → World → Prop) (μ : Int → World → Nat), I 0 w ∧ ∀ (x71 : Int) w, I x71 w → V_ladinglaw12_EventsApart_l4b x0 Ret x11 x38 Kl1 x42 r_3 x71 w (fun x71' w' => I x71' w' ∧ μ x71' w' < μ x71 w)))
def V_ladinglaw12_EventsApart_r9 (x0 : Sl) (Ret : Bool → World → Prop) (x11 : Int) (x38 : Int) (Kl1 : Int → Int → World → Prop) (x42 : ByteArray) (r_3 : Sl) (x67 : Bool) (w : World) : Prop :=
  V_ladinglaw12_EventsApart_r3 x0 Ret x11 x38 Kl1 x42 r_3 x67 w
def V_ladinglaw12_EventsApart_r2 (x0 : Sl) (Ret : Bool → World → Prop) (r_1 : Sl) (x11 : Int) (x38 : Int) (Kl1 : Int → Int → World → Prop) (x42 : ByteArray) (r_3 : Sl) (x55 : Bool) (w : World) : Prop :=
  (x55 = true → (V_ladinglaw12_EventsApart_r3 x0 Ret x11 x38 Kl1 x42 r_3 true w)) ∧ (x55 = false → (((0 < x38) → (opE Try.prog Value.pointer (Instr.indexAt 23 (Sl.v r_1) (.int .i64 (IntKind.wrap .i64 (x38 - 1)))) w (fun x63 w => opE Try.prog Value.string (Instr.loadAt 9 (.pointer x63)) w (fun x64 w => V_ladinglaw12_EventsApart_r9 x0 Ret x11 x38 Kl1 x42 r_3 (!sLt x64 x42) w)))) ∧ (¬ (0 < x38) → (V_ladinglaw12_EventsApart_r9 x0 Ret x11 x38 Kl1 x42 r_3 false w))))
def V_ladinglaw12_EventsApart_r13 (Ret : Bool → World → Prop) (x162 : Bool) (w : World) : Prop :=
  Ret x162 w
def V_ladinglaw12_EventsApart_r12 (Ret : Bool → World → Prop) (r_8 : Sl) (r_10 : Sl) (x157 : Bool) (w : World) : Prop :=
  (x157 = true → (Cl Try.prog 13 [(Sl.v r_8), (Sl.v r_10)].toArray w (fun e w => ∃ (r_12 : Bool), e = .returned (.bool r_12) ∧ (V_ladinglaw12_EventsApart_r13 Ret r_12 w)))) ∧ (x157 = false → (V_ladinglaw12_EventsApart_r13 Ret false w))
def V_ladinglaw12_EventsApart_r11 (Ret : Bool → World → Prop) (r_8 : Sl) (r_10 : Sl) (r_11 : Int) (x153 : Bool) (w : World) : Prop :=
  (x153 = true → (V_ladinglaw12_EventsApart_r12 Ret r_8 r_10 (decide (r_11 = 0)) w)) ∧ (x153 = false → (V_ladinglaw12_EventsApart_r12 Ret r_8 r_10 false w))
def V_ladinglaw12_EventsApart_r10 (x0 : Sl) (x2 : ByteArray) (Ret : Bool → World → Prop) (x11 : Int) (r_5 : Sl) (x129 : Bool) (w : World) : Prop :=
  (x129 = true → (Ret (decide (x11 = (x0.len : Int))) w)) ∧ (x129 = false → (Cl Try.prog 16 [(Sl.v x0), (.string x2), (.int .i64 1), (.int .i64 16384)].toArray w (fun e w => ∃ (r_8 : Sl) (r_9 : Int), e = .returned (.tuple [(Sl.v r_8), (.int .i64 r_9)].toArray) ∧ (Cl Try.prog 16 [(Sl.v r_5), (.string x2), (.int .i64 1), (.int .i64 16384)].toArray w (fun e w => ∃ (r_10 : Sl) (r_11 : Int), e = .returned (.tuple [(Sl.v r_10), (.int .i64 r_11)].toArray) ∧ (((x11 = (x0.len : Int)) → (V_ladinglaw12_EventsApart_r11 Ret r_8 r_10 r_11 (decide (r_9 = 0)) w)) ∧ (¬ (x11 = (x0.len : Int)) → (V_ladinglaw12_EventsApart_r11 Ret r_8 r_10 r_11 false w))))))))
def V_ladinglaw12_EventsApart_l1b (x0 : Sl) (x1 : ByteArray) (x2 : ByteArray) (x3 : Sl) (Ret : Bool → World → Prop) (r_1 : Sl) (x11 : Int) (x38 : Int) (w : World) (Kl1 : Int → Int → World → Prop) : Prop :=
  ((x38 < (r_1.len : Int)) → (opE Try.prog Value.pointer (Instr.indexAt 23 (Sl.v r_1) (.int .i64 x38)) w (fun x41 w => opE Try.prog Value.string (Instr.loadAt 9 (.pointer x41)) w (fun x42 w => Cl Try.prog 16 [(Sl.v x0), (.string x42), (.int .i64 1), (.int .i64 16384)].toArray w (fun e w => ∃ (r_3 : Sl) (r_4 : Int), e = .returned (.tuple [(Sl.v r_3), (.int .i64 r_4)].toArray) ∧ (((r_4 ≠ 0) → (V_ladinglaw12_EventsApart_r2 x0 Ret r_1 x11 x38 Kl1 x42 r_3 true w)) ∧ (¬ (r_4 ≠ 0) → (V_ladinglaw12_EventsApart_r2 x0 Ret r_1 x11 x38 Kl1 x42 r_3 (decide ((r_3.len : Int) = 0)) w)))))))) ∧ (¬ (x38 < (r_1.len : Int)) → (Cl Try.prog 10 [(Sl.v x0), (.string x1), (.int .i64 (-1)), (.string (ByteArray.mk #[])), (Sl.v x3)].toArray w (fun e w => ∃ (r_5 : Sl) (r_6 : Int) (r_7 : Int), e = .returned (.tuple [(Sl.v r_5), (.int .i64 r_6), (.int .i64 r_7)].toArray) ∧ (((r_7 ≠ 0) → (V_ladinglaw12_EventsApart_r10 x0 x2 Ret x11 r_5 true w)) ∧ (¬ (r_7 ≠ 0) → (V_ladinglaw12_EventsApart_r10 x0 x2 Ret x11 r_5 (decide (x2 = x1)) w))))))
def V_ladinglaw12_EventsApart (x0 : Sl) (x1 : ByteArray) (x2 : ByteArray) (x3 : Sl) (w : World) (Ret : Bool → World → Prop) : Prop :=
  Cl Try.prog 12 [].toArray w (fun e w => ∃ (r : Bool), e = .returned (.bool r) ∧ (((!r) = true → (Ret false w)) ∧ ((!r) = false → (Cl Try.prog 18 [(Sl.v x0)].toArray w (fun e w => ∃ (r_1 : Sl) (r_2 : Int), e = .returned (.tuple [(Sl.v r_1), (.int .i64 r_2)].toArray) ∧ (((r_2 ≠ 0) → (Ret (decide ((r_1.len : Int) = 0)) w)) ∧ (¬ (r_2 ≠ 0) → (∃ (I : Int → Int → World → Prop) (μ : Int → Int → World → Nat), I 0 0 w ∧ ∀ (x11 : Int) (x38 : Int) w, I x11 x38 w → V_ladinglaw12_EventsApart_l1b x0 x1 x2 x3 Ret r_1 x11 x38 w (fun x11' x38' w' => I x11' x38' w' ∧ μ x11' x38' w' < μ x11 x38 w)))))))))
set_option maxRecDepth 100000 in
theorem L1_ladinglaw12_EventsApart (x0 : Sl) (x1 : ByteArray) (x2 : ByteArray) (x3 : Sl) (w : World) (Ret : Bool → World → Prop) (H : V_ladinglaw12_EventsApart x0 x1 x2 x3 w Ret) : Cl Try.prog 8 [(Sl.v x0), (.string x1), (.string x2), (Sl.v x3)].toArray w (fun e w' => ∃ (r0 : Bool), e = .returned (.bool r0) ∧ Ret r0 w') := by
  unfold V_ladinglaw12_EventsApart at H
  refine C.enter 163 (zipE 0 [(Sl.v x0), (.string x1), (.string x2), (Sl.v x3)]) Try.func8 rfl rfl (by rfl) rfl ?_
  intro a hE
  replace hE : Sat [] 163 [(0, (Sl.v x0)), (1, (.string x1)), (2, (.string x2)), (3, (Sl.v x3))] a := hE
  refine C.seq ?_
  refine C.region ?_
  refine hE.pur (X.assign hE rfl) fun a hE => ?_
  refine C.nil (tn ?_)
  refine C.seq ?_
  refine C.seq ?_
  refine C.region ?_
  refine hE.call (X.callF hE ent12 rfl rfl) H fun e w H => ?_
  obtain ⟨r, rfl, H⟩ := H
  refine ⟨_, rfl, fun a hE => ?_⟩
  refine hE.pur (X.not hE rfl) fun a hE => ?_
  refine C.nil (tn ?_)
  refine C.condB hE rfl (fun hc => ?_) (fun hc => ?_)
  · replace H := H.1 hc
    refine C.seq ?_
    refine C.region ?_
    refine hE.pur (X.assign hE rfl) fun a hE => ?_
    refine C.nil (tn ?_)
    exact C.ret (tr (C.ret1 hE rfl rfl ⟨_, rfl, H⟩))
  · replace H := H.2 hc
    refine C.skip (tn ?_)
    refine C.seq ?_
    refine C.region ?_
    refine hE.pur (X.move hE rfl) fun a hE => ?_
    refine hE.call (X.callF hE ent18 rfl rfl) H fun e w H => ?_
    obtain ⟨r_1, r_2, rfl, H⟩ := H
    refine ⟨_, rfl, fun a hE => ?_⟩
    refine hE.pur (X.move hE rfl) fun a hE => ?_
    refine hE.pur (X.extract hE rfl rfl) fun a hE => ?_
    refine hE.pur (X.extract hE rfl rfl) fun a hE => ?_
    refine hE.pur (X.assign hE rfl) fun a hE => ?_
    refine hE.pur (X.assign hE rfl) fun a hE => ?_
    refine C.nil (tn ?_)
    refine C.seq ?_
    refine C.seq ?_
    refine C.region ?_
    refine hE.pur (X.move hE rfl) fun a hE => ?_
    refine hE.pur (X.neI hE rfl rfl) fun a hE => ?_
    refine C.nil (tn ?_)
    refine C.condP hE rfl (fun hc => ?_) (fun hc => ?_)
    · replace H := H.1 hc
      refine C.seq ?_
      refine C.region ?_
      refine hE.pur (X.move hE rfl) fun a hE => ?_
      refine hE.purR (fun w => X.lenL hE Try.underlying23 rfl) fun a hE => ?_
      refine hE.pur (X.eqI hE rfl rfl) fun a hE => ?_
      refine hE.pur (X.assign hE rfl) fun a hE => ?_
      refine C.nil (tn ?_)
      exact C.ret (tr (C.ret1 hE rfl rfl ⟨_, rfl, H⟩))
    · replace H := H.2 hc
      refine C.skip (tn ?_)
      refine C.seq ?_
      refine C.region ?_
      refine hE.pur (X.assign hE rfl) fun a hE => ?_
      refine C.nil (tn ?_)
      refine C.seq ?_
      refine C.seq ?_
      refine C.region ?_
      refine hE.pur (X.move hE rfl) fun a hE => ?_
      refine hE.purR (fun w => X.lenL hE Try.underlying23 rfl) fun a hE => ?_
      refine hE.pur (X.move hE rfl) fun a hE => ?_
      refine C.nil (tn ?_)
      refine C.block ?_
      obtain ⟨I_l1, μ_l1, h0, hb⟩ := H
      refine C.loop (ds := []) (N := 163) (σ := Int × Int) (fun s => [(11, (.int .i64 s.1)), (38, (.int .i64 s.2)), (0, (Sl.v x0)), (1, (.string x1)), (2, (.string x2)), (3, (Sl.v x3)), (9, (Sl.v r_1)), (36, (Sl.v r_1)), (37, (.int .i64 (r_1.len : Int)))]) (fun s w => I_l1 s.1 s.2 w) (fun s w => μ_l1 s.1 s.2 w) (0, 0) h0 (hE.weak ⟨rfl, rfl, rfl, rfl, rfl, rfl, rfl, rfl, rfl, trivial⟩) ?_
      rintro ⟨x11, x38⟩ w a hI hE
      try dsimp only at hI hE
      obtain ⟨Kl1, hK_l1⟩ : ∃ K : Int → Int → World → Prop, K = (fun x11' x38' w' => I_l1 x11' x38' w' ∧ μ_l1 x11' x38' w' < μ_l1 x11 x38 w) := ⟨_, rfl⟩
      have H : V_ladinglaw12_EventsApart_l1b x0 x1 x2 x3 Ret r_1 x11 x38 w Kl1 := by rw [hK_l1]; exact hb x11 x38 w hI
      clear hb h0 hI
      unfold V_ladinglaw12_EventsApart_l1b at H
      refine C.seq ?_
      refine C.region ?_
      refine hE.pur (X.ltI hE rfl rfl) fun a hE => ?_
      refine C.nil (tn ?_)
      refine C.seq ?_
      refine C.condP hE rfl (fun hc => ?_) (fun hc => ?_)
      · replace H := H.1 hc
        refine C.skip (tn ?_)
        refine C.seq ?_
        refine C.block ?_
        refine C.seq ?_
        refine C.region ?_
        refine hE.pur (X.move hE rfl) fun a hE => ?_
        refine hE.op (X.indexAddr hE rfl rfl) H fun x41 w a H hE => ?_
        refine hE.op (X.load hE rfl) H fun x42 w a H hE => ?_
        refine hE.pur (X.assign hE rfl) fun a hE => ?_
        refine hE.pur (X.assign hE rfl) fun a hE => ?_
        refine C.nil (tn ?_)
        refine C.seq ?_
        refine C.region ?_
        refine hE.pur (X.move hE rfl) fun a hE => ?_
        refine hE.pur (X.move hE rfl) fun a hE => ?_
        refine hE.call (X.callF hE ent16 rfl rfl) H fun e w H => ?_
        obtain ⟨r_3, r_4, rfl, H⟩ := H
        refine ⟨_, rfl, fun a hE => ?_⟩
        refine hE.pur (X.move hE rfl) fun a hE => ?_
        refine hE.pur (X.extract hE rfl rfl) fun a hE => ?_
        refine hE.pur (X.extract hE rfl rfl) fun a hE => ?_
        refine hE.pur (X.assign hE rfl) fun a hE => ?_
        refine hE.pur (X.assign hE rfl) fun a hE => ?_
        refine C.nil (tn ?_)
        refine C.seq ?_
        refine C.seq ?_
        refine C.region ?_
        refine hE.pur (X.move hE rfl) fun a hE => ?_
        refine hE.pur (X.neI hE rfl rfl) fun a hE => ?_
        refine hE.pur (X.move hE rfl) fun a hE => ?_
        refine WL.join (ds := []) (N := 163) (σ := Bool) (fun s => [(55, (.bool s)), (0, (Sl.v x0)), (1, (.string x1)), (2, (.string x2)), (3, (Sl.v x3)), (9, (Sl.v r_1)), (11, (.int .i64 x11)), (12, (.int .i64 x38)), (13, (.string x42)), (14, (Sl.v r_3)), (36, (Sl.v r_1)), (37, (.int .i64 (r_1.len : Int))), (38, (.int .i64 x38))]) (fun s w => V_ladinglaw12_EventsApart_r2 x0 Ret r_1 x11 x38 Kl1 x42 r_3 s w) 4 ?_ (fun hr2 => ?_)
        · intro x55 w a H hE
          try dsimp only at H hE
          unfold V_ladinglaw12_EventsApart_r2 at H
          refine hE.pur (X.move hE rfl) fun a hE => ?_
          refine WL.join (ds := []) (N := 163) (σ := Bool) (fun s => [(68, (.bool s)), (0, (Sl.v x0)), (1, (.string x1)), (2, (.string x2)), (3, (Sl.v x3)), (9, (Sl.v r_1)), (11, (.int .i64 x11)), (13, (.string x42)), (14, (Sl.v r_3)), (36, (Sl.v r_1)), (37, (.int .i64 (r_1.len : Int))), (38, (.int .i64 x38))]) (fun s w => V_ladinglaw12_EventsApart_r3 x0 Ret x11 x38 Kl1 x42 r_3 s w) 12 ?_ (fun hr3 => ?_)
          · intro x68 w a H hE
            try dsimp only at H hE
            unfold V_ladinglaw12_EventsApart_r3 at H
            refine C.nil (tn ?_)
            refine C.condB hE rfl (fun hc => ?_) (fun hc => ?_)
            · replace H := H.1 hc
              refine C.seq ?_
              refine C.region ?_
              refine hE.pur (X.assign hE rfl) fun a hE => ?_
              refine C.nil (tn ?_)
              exact C.ret (tr (br (tr (tr (br (tr (C.ret1 hE rfl rfl ⟨_, rfl, H⟩)))))))
            · replace H := H.2 hc
              refine C.skip (tn ?_)
              refine C.seq ?_
              refine C.seq ?_
              refine C.region ?_
              refine hE.pur (X.move hE rfl) fun a hE => ?_
              refine hE.purR (fun w => X.lenL hE Try.underlying22 rfl) fun a hE => ?_
              refine hE.pur (X.move hE rfl) fun a hE => ?_
              refine C.nil (tn ?_)
              refine C.block ?_
              obtain ⟨I_l4, μ_l4, h0, hb⟩ := H
              refine C.loop (ds := []) (N := 163) (σ := Int) (fun s => [(71, (.int .i64 s)), (0, (Sl.v x0)), (1, (.string x1)), (2, (.string x2)), (3, (Sl.v x3)), (9, (Sl.v r_1)), (11, (.int .i64 x11)), (13, (.string x42)), (14, (Sl.v r_3)), (36, (Sl.v r_1)), (37, (.int .i64 (r_1.len : Int))), (38, (.int .i64 x38)), (69, (Sl.v r_3)), (70, (.int .i64 (r_3.len : Int)))]) (fun s w => I_l4 s w) (fun s w => μ_l4 s w) 0 h0 (hE.weak ⟨rfl, rfl, rfl, rfl, rfl, rfl, rfl, rfl, rfl, rfl, rfl, rfl, rfl, rfl, trivial⟩) ?_
              intro x71 w a hI hE
              try dsimp only at hI hE
              obtain ⟨Kl4, hK_l4⟩ : ∃ K : Int → World → Prop, K = (fun x71' w' => I_l4 x71' w' ∧ μ_l4 x71' w' < μ_l4 x71 w) := ⟨_, rfl⟩
              have H : V_ladinglaw12_EventsApart_l4b x0 Ret x11 x38 Kl1 x42 r_3 x71 w Kl4 := by rw [hK_l4]; exact hb x71 w hI
              clear hb h0 hI
              unfold V_ladinglaw12_EventsApart_l4b at H
              refine C.seq ?_
              refine C.region ?_
              refine hE.pur (X.ltI hE rfl rfl) fun a hE => ?_
              refine C.nil (tn ?_)
              refine C.seq ?_
              refine C.condP hE rfl (fun hc => ?_) (fun hc => ?_)
              · replace H := H.1 hc
                refine C.skip (tn ?_)
                refine C.seq ?_
                refine C.block ?_
                refine C.seq ?_
                refine C.region ?_
                refine hE.pur (X.move hE rfl) fun a hE => ?_
                refine hE.op (X.indexAddr hE rfl rfl) H fun x74 w a H hE => ?_
                refine hE.op (X.load hE rfl) H fun x75 w a H hE => ?_
                refine hE.op (X.alloc) H fun x17 w a H hE => ?_
                refine hE.pur (X.assign hE rfl) fun a hE => ?_
                refine hE.opu (X.store hE rfl rfl) H fun w a H hE => ?_
                refine C.nil (tn ?_)
                refine C.seq ?_
                refine C.draw (by kernel_rfl) (by kernel_rfl) ?_
                refine hE.qop (X.fieldAddr hE rfl) H fun x76 a H hE => ?_
                refine hE.qop (X.load hE rfl) H fun x77 a H hE => ?_
                refine hE.qpur (X.move hE rfl) fun a hE => ?_
                refine hE.qpur (X.neS hE rfl rfl) fun a hE => ?_
                refine hE.qpur (X.move hE rfl) fun a hE => ?_
                refine WQ.join (ds := []) (N := 163) (σ := Bool) (fun s => [(86, (.bool s)), (0, (Sl.v x0)), (1, (.string x1)), (2, (.string x2)), (3, (Sl.v x3)), (9, (Sl.v r_1)), (11, (.int .i64 x11)), (13, (.string x42)), (14, (Sl.v r_3)), (17, (.pointer x17)), (36, (Sl.v r_1)), (37, (.int .i64 (r_1.len : Int))), (38, (.int .i64 x38)), (69, (Sl.v r_3)), (70, (.int .i64 (r_3.len : Int))), (71, (.int .i64 x71))]) (fun s => V_ladinglaw12_EventsApart_r5 x0 Ret x71 Kl4 x17 s w) 6 ?_ (fun hr5 => ?_)
                · intro x86 a H hE
                  try dsimp only at H hE
                  unfold V_ladinglaw12_EventsApart_r5 at H
                  refine hE.qpur (X.move hE rfl) fun a hE => ?_
                  refine WQ.join (ds := []) (N := 163) (σ := Bool) (fun s => [(91, (.bool s)), (0, (Sl.v x0)), (1, (.string x1)), (2, (.string x2)), (3, (Sl.v x3)), (9, (Sl.v r_1)), (11, (.int .i64 x11)), (13, (.string x42)), (14, (Sl.v r_3)), (17, (.pointer x17)), (36, (Sl.v r_1)), (37, (.int .i64 (r_1.len : Int))), (38, (.int .i64 x38)), (69, (Sl.v r_3)), (70, (.int .i64 (r_3.len : Int))), (71, (.int .i64 x71))]) (fun s => V_ladinglaw12_EventsApart_r6 x0 Ret x71 Kl4 x17 s w) 4 ?_ (fun hr6 => ?_)
                  · intro x91 a H hE
                    try dsimp only at H hE
                    unfold V_ladinglaw12_EventsApart_r6 at H
                    refine hE.qpur (X.move hE rfl) fun a hE => ?_
                    refine WQ.join (ds := []) (N := 163) (σ := Bool) (fun s => [(98, (.bool s)), (0, (Sl.v x0)), (1, (.string x1)), (2, (.string x2)), (3, (Sl.v x3)), (9, (Sl.v r_1)), (11, (.int .i64 x11)), (13, (.string x42)), (14, (Sl.v r_3)), (17, (.pointer x17)), (36, (Sl.v r_1)), (37, (.int .i64 (r_1.len : Int))), (38, (.int .i64 x38)), (69, (Sl.v r_3)), (70, (.int .i64 (r_3.len : Int))), (71, (.int .i64 x71))]) (fun s => V_ladinglaw12_EventsApart_r7 x0 Ret x71 Kl4 x17 s w) 6 ?_ (fun hr7 => ?_)
                    · intro x98 a H hE
                      try dsimp only at H hE
                      unfold V_ladinglaw12_EventsApart_r7 at H
                      refine hE.qpur (X.move hE rfl) fun a hE => ?_
                      refine WQ.join (ds := []) (N := 163) (σ := Bool) (fun s => [(108, (.bool s)), (0, (Sl.v x0)), (1, (.string x1)), (2, (.string x2)), (3, (Sl.v x3)), (9, (Sl.v r_1)), (11, (.int .i64 x11)), (13, (.string x42)), (14, (Sl.v r_3)), (36, (Sl.v r_1)), (37, (.int .i64 (r_1.len : Int))), (38, (.int .i64 x38)), (69, (Sl.v r_3)), (70, (.int .i64 (r_3.len : Int))), (71, (.int .i64 x71))]) (fun s => V_ladinglaw12_EventsApart_r8 Ret x71 Kl4 s w) 9 ?_ (fun hr8 => ?_)
                      · intro x108 a H hE
                        try dsimp only at H hE
                        unfold V_ladinglaw12_EventsApart_r8 at H
                        refine C.qnil (fun w hB => ?_)
                        replace H := H w hB
                        refine (tn ?_)
                        refine C.condB hE rfl (fun hc => ?_) (fun hc => ?_)
                        · replace H := H.1 hc
                          refine C.seq ?_
                          refine C.region ?_
                          refine hE.pur (X.assign hE rfl) fun a hE => ?_
                          refine C.nil (tn ?_)
                          exact C.ret (br (tr (tr (br (tr (br (tr (tr (br (tr (C.ret1 hE rfl rfl ⟨_, rfl, H⟩)))))))))))
                        · replace H := H.2 hc
                          refine C.skip (bn (tn ?_))
                          refine C.region ?_
                          refine hE.pur (X.add hE rfl rfl) fun a hE => ?_
                          refine hE.pur (X.move hE rfl) fun a hE => ?_
                          rw [hK_l4] at H
                          exact C.nil (tn ⟨(IntKind.wrap .i64 (x71 + 1)), hE.weak ⟨rfl, rfl, rfl, rfl, rfl, rfl, rfl, rfl, rfl, rfl, rfl, rfl, rfl, rfl, trivial⟩, H⟩)
                      · rcases Bool.eq_false_or_eq_true (x98) with hbr8 | hbr8
                        · replace H := H.1 hbr8
                          replace hE := hE.bool (b := true) (t := 99) rfl (hbr8)
                          refine hE.qoff (by rfl) (by rfl) (by decide) (fun a hE => ?_)
                          refine hE.qoff (by rfl) (by rfl) (by decide) (fun a hE => ?_)
                          refine hE.qoff (by rfl) (by rfl) (by decide) (fun a hE => ?_)
                          refine hE.qoff (by rfl) (by rfl) (by decide) (fun a hE => ?_)
                          refine hE.qoff (by rfl) (by rfl) (by decide) (fun a hE => ?_)
                          refine hE.qoff (by rfl) (by rfl) (by decide) (fun a hE => ?_)
                          refine hE.qoff (by rfl) (by rfl) (by decide) (fun a hE => ?_)
                          refine hE.qoff (by rfl) (by rfl) (by decide) (fun a hE => ?_)
                          refine hE.qpur (X.pickT hE rfl rfl) fun a hE => ?_
                          exact hr8 true _ H (hE.weak ⟨rfl, rfl, rfl, rfl, rfl, rfl, rfl, rfl, rfl, rfl, rfl, rfl, rfl, rfl, rfl, trivial⟩)
                        · replace H := H.2 hbr8
                          replace hE := hE.bool (b := false) (t := 99) rfl (hbr8)
                          refine hE.qon (by rfl) (by rfl) ?_
                          refine hE.qpur (X.move hE rfl) fun a hE => ?_
                          refine hE.qon (by rfl) (by rfl) ?_
                          refine hE.qop (X.fieldAddr hE rfl) H fun x101 a H hE => ?_
                          refine hE.qon (by rfl) (by rfl) ?_
                          refine hE.qop (X.load hE rfl) H fun x102 a H hE => ?_
                          refine hE.qon (by rfl) (by rfl) ?_
                          refine hE.qpur (X.sub hE rfl rfl) fun a hE => ?_
                          refine hE.qon (by rfl) (by rfl) ?_
                          refine hE.qop (X.indexAddr hE rfl rfl) H fun x104 a H hE => ?_
                          refine hE.qon (by rfl) (by rfl) ?_
                          refine hE.qop (X.load hE rfl) H fun x105 a H hE => ?_
                          refine hE.qon (by rfl) (by rfl) ?_
                          refine hE.qop (X.load hE rfl) H fun x106 a H hE => ?_
                          refine hE.qon (by rfl) (by rfl) ?_
                          refine hE.qop (X.bin hE rfl rfl) H fun x107 a H hE => ?_
                          refine hE.qpur (X.pickF hE rfl rfl) fun a hE => ?_
                          exact hr8 x107 _ H (hE.weak ⟨rfl, rfl, rfl, rfl, rfl, rfl, rfl, rfl, rfl, rfl, rfl, rfl, rfl, rfl, rfl, trivial⟩)
                    · rcases Bool.eq_false_or_eq_true (x91) with hbr7 | hbr7
                      · replace H := H.1 hbr7
                        replace hE := hE.bool (b := true) (t := 92) rfl (hbr7)
                        refine hE.qoff (by rfl) (by rfl) (by decide) (fun a hE => ?_)
                        refine hE.qoff (by rfl) (by rfl) (by decide) (fun a hE => ?_)
                        refine hE.qoff (by rfl) (by rfl) (by decide) (fun a hE => ?_)
                        refine hE.qoff (by rfl) (by rfl) (by decide) (fun a hE => ?_)
                        refine hE.qoff (by rfl) (by rfl) (by decide) (fun a hE => ?_)
                        refine hE.qpur (X.pickT hE rfl rfl) fun a hE => ?_
                        exact hr7 true _ H (hE.weak ⟨rfl, rfl, rfl, rfl, rfl, rfl, rfl, rfl, rfl, rfl, rfl, rfl, rfl, rfl, rfl, rfl, trivial⟩)
                      · replace H := H.2 hbr7
                        replace hE := hE.bool (b := false) (t := 92) rfl (hbr7)
                        refine hE.qon (by rfl) (by rfl) ?_
                        refine hE.qop (X.fieldAddr hE rfl) H fun x93 a H hE => ?_
                        refine hE.qon (by rfl) (by rfl) ?_
                        refine hE.qop (X.load hE rfl) H fun x94 a H hE => ?_
                        refine hE.qon (by rfl) (by rfl) ?_
                        refine hE.qpur (X.move hE rfl) fun a hE => ?_
                        refine hE.qon (by rfl) (by rfl) ?_
                        refine hE.qpurR (fun w => X.lenL hE Try.underlying22 rfl) fun a hE => ?_
                        refine hE.qon (by rfl) (by rfl) ?_
                        refine hE.qpur (X.gtI hE rfl rfl) fun a hE => ?_
                        refine hE.qpur (X.pickF hE rfl rfl) fun a hE => ?_
                        exact hr7 (decide ((x0.len : Int) < x94)) _ H (hE.weak ⟨rfl, rfl, rfl, rfl, rfl, rfl, rfl, rfl, rfl, rfl, rfl, rfl, rfl, rfl, rfl, rfl, trivial⟩)
                  · rcases Bool.eq_false_or_eq_true (x86) with hbr6 | hbr6
                    · replace H := H.1 hbr6
                      replace hE := hE.bool (b := true) (t := 87) rfl (hbr6)
                      refine hE.qoff (by rfl) (by rfl) (by decide) (fun a hE => ?_)
                      refine hE.qoff (by rfl) (by rfl) (by decide) (fun a hE => ?_)
                      refine hE.qoff (by rfl) (by rfl) (by decide) (fun a hE => ?_)
                      refine hE.qpur (X.pickT hE rfl rfl) fun a hE => ?_
                      exact hr6 true _ H (hE.weak ⟨rfl, rfl, rfl, rfl, rfl, rfl, rfl, rfl, rfl, rfl, rfl, rfl, rfl, rfl, rfl, rfl, trivial⟩)
                    · replace H := H.2 hbr6
                      replace hE := hE.bool (b := false) (t := 87) rfl (hbr6)
                      refine hE.qon (by rfl) (by rfl) ?_
                      refine hE.qop (X.fieldAddr hE rfl) H fun x88 a H hE => ?_
                      refine hE.qon (by rfl) (by rfl) ?_
                      refine hE.qop (X.load hE rfl) H fun x89 a H hE => ?_
                      refine hE.qon (by rfl) (by rfl) ?_
                      refine hE.qpur (X.ltI hE rfl rfl) fun a hE => ?_
                      refine hE.qpur (X.pickF hE rfl rfl) fun a hE => ?_
                      exact hr6 (decide (x89 < 1)) _ H (hE.weak ⟨rfl, rfl, rfl, rfl, rfl, rfl, rfl, rfl, rfl, rfl, rfl, rfl, rfl, rfl, rfl, rfl, trivial⟩)
                · rcases Classical.em ((x77 ≠ x42)) with hbr5 | hbr5
                  · replace H := H.1 hbr5
                    replace hE := hE.bool (b := true) (t := 80) rfl (decide_eq_true hbr5)
                    refine hE.qoff (by rfl) (by rfl) (by decide) (fun a hE => ?_)
                    refine hE.qoff (by rfl) (by rfl) (by decide) (fun a hE => ?_)
                    refine hE.qoff (by rfl) (by rfl) (by decide) (fun a hE => ?_)
                    refine hE.qoff (by rfl) (by rfl) (by decide) (fun a hE => ?_)
                    refine hE.qoff (by rfl) (by rfl) (by decide) (fun a hE => ?_)
                    refine hE.qpur (X.pickT hE rfl rfl) fun a hE => ?_
                    exact hr5 true _ H (hE.weak ⟨rfl, rfl, rfl, rfl, rfl, rfl, rfl, rfl, rfl, rfl, rfl, rfl, rfl, rfl, rfl, rfl, trivial⟩)
                  · replace H := H.2 hbr5
                    replace hE := hE.bool (b := false) (t := 80) rfl (decide_eq_false hbr5)
                    refine hE.qon (by rfl) (by rfl) ?_
                    refine hE.qop (X.fieldAddr hE rfl) H fun x81 a H hE => ?_
                    refine hE.qon (by rfl) (by rfl) ?_
                    refine hE.qop (X.load hE rfl) H fun x82 a H hE => ?_
                    refine hE.qon (by rfl) (by rfl) ?_
                    refine hE.qpur (X.move hE rfl) fun a hE => ?_
                    refine hE.qon (by rfl) (by rfl) ?_
                    refine hE.qpur (X.add hE rfl rfl) fun a hE => ?_
                    refine hE.qon (by rfl) (by rfl) ?_
                    refine hE.qpur (X.neI hE rfl rfl) fun a hE => ?_
                    refine hE.qpur (X.pickF hE rfl rfl) fun a hE => ?_
                    exact hr5 (decide (x82 ≠ (IntKind.wrap .i64 (x71 + 1)))) _ H (hE.weak ⟨rfl, rfl, rfl, rfl, rfl, rfl, rfl, rfl, rfl, rfl, rfl, rfl, rfl, rfl, rfl, rfl, trivial⟩)
              · replace H := H.2 hc
                refine C.exit (te (te (be (tn ?_))))
                refine C.region ?_
                refine hE.pur (X.move hE rfl) fun a hE => ?_
                refine hE.pur (X.move hE rfl) fun a hE => ?_
                refine hE.purR (fun w => X.lenL hE Try.underlying22 rfl) fun a hE => ?_
                refine hE.pur (X.add hE rfl rfl) fun a hE => ?_
                refine hE.pur (X.assign hE rfl) fun a hE => ?_
                refine C.nil (bn (tn ?_))
                refine C.region ?_
                refine hE.pur (X.add hE rfl rfl) fun a hE => ?_
                refine hE.pur (X.move hE rfl) fun a hE => ?_
                rw [hK_l1] at H
                exact C.nil (tn ⟨((IntKind.wrap .i64 (x11 + (r_3.len : Int))), (IntKind.wrap .i64 (x38 + 1))), hE.weak ⟨rfl, rfl, rfl, rfl, rfl, rfl, rfl, rfl, rfl, trivial⟩, H⟩)
          · rcases Bool.eq_false_or_eq_true (x55) with hbr3 | hbr3
            · replace H := H.1 hbr3
              replace hE := hE.bool (b := true) (t := 56) rfl (hbr3)
              refine hE.off (by rfl) (by rfl) (by decide) (fun a hE => ?_)
              refine hE.off (by rfl) (by rfl) (by decide) (fun a hE => ?_)
              refine hE.off (by rfl) (by rfl) (by decide) (fun a hE => ?_)
              refine hE.offU (by rfl) (by rfl) (fun a hE => ?_)
              refine hE.offU (by rfl) (by rfl) (fun a hE => ?_)
              refine hE.offU (by rfl) (by rfl) (fun a hE => ?_)
              refine hE.offU (by rfl) (by rfl) (fun a hE => ?_)
              refine hE.offU (by rfl) (by rfl) (fun a hE => ?_)
              refine hE.offU (by rfl) (by rfl) (fun a hE => ?_)
              refine hE.offU (by rfl) (by rfl) (fun a hE => ?_)
              refine hE.off (by rfl) (by rfl) (by decide) (fun a hE => ?_)
              refine hE.pur (X.pickT hE rfl rfl) fun a hE => ?_
              exact hr3 true _ _ H (hE.weak ⟨rfl, rfl, rfl, rfl, rfl, rfl, rfl, rfl, rfl, rfl, rfl, rfl, trivial⟩)
            · replace H := H.2 hbr3
              replace hE := hE.bool (b := false) (t := 56) rfl (hbr3)
              refine hE.on (by rfl) (by rfl) ?_
              refine hE.pur (X.move hE rfl) fun a hE => ?_
              refine hE.on (by rfl) (by rfl) ?_
              refine hE.pur (X.gtI hE rfl rfl) fun a hE => ?_
              refine hE.on (by rfl) (by rfl) ?_
              refine hE.pur (X.move hE rfl) fun a hE => ?_
              refine WL.join (ds := []) (N := 163) (σ := Bool) (fun s => [(67, (.bool s)), (0, (Sl.v x0)), (1, (.string x1)), (2, (.string x2)), (3, (Sl.v x3)), (9, (Sl.v r_1)), (11, (.int .i64 x11)), (13, (.string x42)), (14, (Sl.v r_3)), (36, (Sl.v r_1)), (37, (.int .i64 (r_1.len : Int))), (38, (.int .i64 x38)), (56, (.bool false))]) (fun s w => V_ladinglaw12_EventsApart_r9 x0 Ret x11 x38 Kl1 x42 r_3 s w) 8 ?_ (fun hr9 => ?_)
              · intro x67 w a H hE
                try dsimp only at H hE
                unfold V_ladinglaw12_EventsApart_r9 at H
                refine hE.pur (X.pickF hE rfl rfl) fun a hE => ?_
                exact hr3 x67 _ _ H (hE.weak ⟨rfl, rfl, rfl, rfl, rfl, rfl, rfl, rfl, rfl, rfl, rfl, rfl, trivial⟩)
              · rcases Classical.em ((0 < x38)) with hbr9 | hbr9
                · replace H := H.1 hbr9
                  replace hE := hE.bool (b := true) (t := 59) rfl (decide_eq_true hbr9)
                  refine hE.on (by rfl) (by rfl) ?_
                  refine hE.pur (X.move hE rfl) fun a hE => ?_
                  refine hE.on (by rfl) (by rfl) ?_
                  refine hE.pur (X.move hE rfl) fun a hE => ?_
                  refine hE.on (by rfl) (by rfl) ?_
                  refine hE.pur (X.sub hE rfl rfl) fun a hE => ?_
                  refine hE.on (by rfl) (by rfl) ?_
                  refine hE.op (X.indexAddr hE rfl rfl) H fun x63 w a H hE => ?_
                  refine hE.on (by rfl) (by rfl) ?_
                  refine hE.op (X.load hE rfl) H fun x64 w a H hE => ?_
                  refine hE.on (by rfl) (by rfl) ?_
                  refine hE.pur (X.move hE rfl) fun a hE => ?_
                  refine hE.on (by rfl) (by rfl) ?_
                  refine hE.pur (X.geS hE rfl rfl) fun a hE => ?_
                  refine hE.on (by rfl) (by rfl) ?_
                  refine hE.pur (X.pickT hE rfl rfl) fun a hE => ?_
                  exact hr9 (!sLt x64 x42) _ _ H (hE.weak ⟨rfl, rfl, rfl, rfl, rfl, rfl, rfl, rfl, rfl, rfl, rfl, rfl, rfl, trivial⟩)
                · replace H := H.2 hbr9
                  replace hE := hE.bool (b := false) (t := 59) rfl (decide_eq_false hbr9)
                  refine hE.off (by rfl) (by rfl) (by decide) (fun a hE => ?_)
                  refine hE.off (by rfl) (by rfl) (by decide) (fun a hE => ?_)
                  refine hE.off (by rfl) (by rfl) (by decide) (fun a hE => ?_)
                  refine hE.off (by rfl) (by rfl) (by decide) (fun a hE => ?_)
                  refine hE.off (by rfl) (by rfl) (by decide) (fun a hE => ?_)
                  refine hE.off (by rfl) (by rfl) (by decide) (fun a hE => ?_)
                  refine hE.off (by rfl) (by rfl) (by decide) (fun a hE => ?_)
                  refine hE.on (by rfl) (by rfl) ?_
                  refine hE.pur (X.pickF hE rfl rfl) fun a hE => ?_
                  exact hr9 false _ _ H (hE.weak ⟨rfl, rfl, rfl, rfl, rfl, rfl, rfl, rfl, rfl, rfl, rfl, rfl, rfl, trivial⟩)
        · rcases Classical.em ((r_4 ≠ 0)) with hbr2 | hbr2
          · replace H := H.1 hbr2
            replace hE := hE.bool (b := true) (t := 51) rfl (decide_eq_true hbr2)
            refine hE.off (by rfl) (by rfl) (by decide) (fun a hE => ?_)
            refine hE.off (by rfl) (by rfl) (by decide) (fun a hE => ?_)
            refine hE.off (by rfl) (by rfl) (by decide) (fun a hE => ?_)
            refine hE.pur (X.pickT hE rfl rfl) fun a hE => ?_
            exact hr2 true _ _ H (hE.weak ⟨rfl, rfl, rfl, rfl, rfl, rfl, rfl, rfl, rfl, rfl, rfl, rfl, rfl, trivial⟩)
          · replace H := H.2 hbr2
            replace hE := hE.bool (b := false) (t := 51) rfl (decide_eq_false hbr2)
            refine hE.on (by rfl) (by rfl) ?_
            refine hE.pur (X.move hE rfl) fun a hE => ?_
            refine hE.on (by rfl) (by rfl) ?_
            refine hE.purR (fun w => X.lenL hE Try.underlying22 rfl) fun a hE => ?_
            refine hE.on (by rfl) (by rfl) ?_
            refine hE.pur (X.eqI hE rfl rfl) fun a hE => ?_
            refine hE.pur (X.pickF hE rfl rfl) fun a hE => ?_
            exact hr2 (decide ((r_3.len : Int) = 0)) _ _ H (hE.weak ⟨rfl, rfl, rfl, rfl, rfl, rfl, rfl, rfl, rfl, rfl, rfl, rfl, rfl, trivial⟩)
      · replace H := H.2 hc
        refine C.exit (te (te (be (tn ?_))))
        refine C.seq ?_
        refine C.region ?_
        refine hE.pur (X.move hE rfl) fun a hE => ?_
        refine hE.pur (X.move hE rfl) fun a hE => ?_
        refine hE.pur (X.move hE rfl) fun a hE => ?_
        refine hE.call (X.callF hE ent10 rfl rfl) H fun e w H => ?_
        obtain ⟨r_5, r_6, r_7, rfl, H⟩ := H
        refine ⟨_, rfl, fun a hE => ?_⟩
        refine hE.pur (X.move hE rfl) fun a hE => ?_
        refine hE.pur (X.extract hE rfl rfl) fun a hE => ?_
        refine hE.pur (X.extract hE rfl rfl) fun a hE => ?_
        refine hE.pur (X.extract hE rfl rfl) fun a hE => ?_
        refine hE.pur (X.assign hE rfl) fun a hE => ?_
        refine hE.pur (X.assign hE rfl) fun a hE => ?_
        refine hE.pur (X.assign hE rfl) fun a hE => ?_
        refine C.nil (tn ?_)
        refine C.seq ?_
        refine C.seq ?_
        refine C.region ?_
        refine hE.pur (X.move hE rfl) fun a hE => ?_
        refine hE.pur (X.neI hE rfl rfl) fun a hE => ?_
        refine hE.pur (X.move hE rfl) fun a hE => ?_
        refine WL.join (ds := []) (N := 163) (σ := Bool) (fun s => [(129, (.bool s)), (0, (Sl.v x0)), (2, (.string x2)), (11, (.int .i64 x11)), (18, (Sl.v r_5))]) (fun s w => V_ladinglaw12_EventsApart_r10 x0 x2 Ret x11 r_5 s w) 4 ?_ (fun hr10 => ?_)
        · intro x129 w a H hE
          try dsimp only at H hE
          unfold V_ladinglaw12_EventsApart_r10 at H
          refine C.nil (tn ?_)
          refine C.condB hE rfl (fun hc => ?_) (fun hc => ?_)
          · replace H := H.1 hc
            refine C.seq ?_
            refine C.region ?_
            refine hE.pur (X.move hE rfl) fun a hE => ?_
            refine hE.pur (X.move hE rfl) fun a hE => ?_
            refine hE.purR (fun w => X.lenL hE Try.underlying22 rfl) fun a hE => ?_
            refine hE.pur (X.eqI hE rfl rfl) fun a hE => ?_
            refine hE.pur (X.assign hE rfl) fun a hE => ?_
            refine C.nil (tn ?_)
            exact C.ret (tr (C.ret1 hE rfl rfl ⟨_, rfl, H⟩))
          · replace H := H.2 hc
            refine C.skip (tn ?_)
            refine C.seq ?_
            refine C.region ?_
            refine hE.pur (X.move hE rfl) fun a hE => ?_
            refine hE.pur (X.move hE rfl) fun a hE => ?_
            refine hE.call (X.callF hE ent16 rfl rfl) H fun e w H => ?_
            obtain ⟨r_8, r_9, rfl, H⟩ := H
            refine ⟨_, rfl, fun a hE => ?_⟩
            refine hE.pur (X.move hE rfl) fun a hE => ?_
            refine hE.pur (X.extract hE rfl rfl) fun a hE => ?_
            refine hE.pur (X.extract hE rfl rfl) fun a hE => ?_
            refine hE.pur (X.assign hE rfl) fun a hE => ?_
            refine hE.pur (X.assign hE rfl) fun a hE => ?_
            refine C.nil (tn ?_)
            refine C.seq ?_
            refine C.region ?_
            refine hE.pur (X.move hE rfl) fun a hE => ?_
            refine hE.pur (X.move hE rfl) fun a hE => ?_
            refine hE.call (X.callF hE ent16 rfl rfl) H fun e w H => ?_
            obtain ⟨r_10, r_11, rfl, H⟩ := H
            refine ⟨_, rfl, fun a hE => ?_⟩
            refine hE.pur (X.move hE rfl) fun a hE => ?_
            refine hE.pur (X.extract hE rfl rfl) fun a hE => ?_
            refine hE.pur (X.extract hE rfl rfl) fun a hE => ?_
            refine hE.pur (X.assign hE rfl) fun a hE => ?_
            refine hE.pur (X.assign hE rfl) fun a hE => ?_
            refine C.nil (tn ?_)
            refine C.seq ?_
            refine C.region ?_
            refine hE.pur (X.move hE rfl) fun a hE => ?_
            refine hE.pur (X.move hE rfl) fun a hE => ?_
            refine hE.purR (fun w => X.lenL hE Try.underlying22 rfl) fun a hE => ?_
            refine hE.pur (X.eqI hE rfl rfl) fun a hE => ?_
            refine hE.pur (X.move hE rfl) fun a hE => ?_
            refine WL.join (ds := []) (N := 163) (σ := Bool) (fun s => [(153, (.bool s)), (20, (Sl.v r_8)), (22, (Sl.v r_10)), (23, (.int .i64 r_11))]) (fun s w => V_ladinglaw12_EventsApart_r11 Ret r_8 r_10 r_11 s w) 3 ?_ (fun hr11 => ?_)
            · intro x153 w a H hE
              try dsimp only at H hE
              unfold V_ladinglaw12_EventsApart_r11 at H
              refine hE.pur (X.move hE rfl) fun a hE => ?_
              refine WL.join (ds := []) (N := 163) (σ := Bool) (fun s => [(157, (.bool s)), (20, (Sl.v r_8)), (22, (Sl.v r_10))]) (fun s w => V_ladinglaw12_EventsApart_r12 Ret r_8 r_10 s w) 3 ?_ (fun hr12 => ?_)
              · intro x157 w a H hE
                try dsimp only at H hE
                unfold V_ladinglaw12_EventsApart_r12 at H
                refine hE.pur (X.move hE rfl) fun a hE => ?_
                refine WL.join (ds := []) (N := 163) (σ := Bool) (fun s => [(162, (.bool s))]) (fun s w => V_ladinglaw12_EventsApart_r13 Ret s w) 4 ?_ (fun hr13 => ?_)
                · intro x162 w a H hE
                  try dsimp only at H hE
                  unfold V_ladinglaw12_EventsApart_r13 at H
                  refine hE.pur (X.assign hE rfl) fun a hE => ?_
                  refine C.nil (tn ?_)
                  exact C.ret (C.ret1 hE rfl rfl ⟨_, rfl, H⟩)
                · rcases Bool.eq_false_or_eq_true (x157) with hbr13 | hbr13
                  · replace H := H.1 hbr13
                    replace hE := hE.bool (b := true) (t := 158) rfl (hbr13)
                    refine hE.on (by rfl) (by rfl) ?_
                    refine hE.pur (X.move hE rfl) fun a hE => ?_
                    refine hE.on (by rfl) (by rfl) ?_
                    refine hE.pur (X.move hE rfl) fun a hE => ?_
                    refine hE.on (by rfl) (by rfl) ?_
                    refine hE.call (X.callF hE ent13 rfl rfl) H fun e w H => ?_
                    obtain ⟨r_12, rfl, H⟩ := H
                    refine ⟨_, rfl, fun a hE => ?_⟩
                    refine hE.pur (X.pickT hE rfl rfl) fun a hE => ?_
                    exact hr13 r_12 _ _ H (hE.weak ⟨rfl, trivial⟩)
                  · replace H := H.2 hbr13
                    replace hE := hE.bool (b := false) (t := 158) rfl (hbr13)
                    refine hE.off (by rfl) (by rfl) (by decide) (fun a hE => ?_)
                    refine hE.off (by rfl) (by rfl) (by decide) (fun a hE => ?_)
                    refine hE.off (by rfl) (by rfl) (by decide) (fun a hE => ?_)
                    refine hE.pur (X.pickF hE rfl rfl) fun a hE => ?_
                    exact hr13 false _ _ H (hE.weak ⟨rfl, trivial⟩)
              · rcases Bool.eq_false_or_eq_true (x153) with hbr12 | hbr12
                · replace H := H.1 hbr12
                  replace hE := hE.bool (b := true) (t := 154) rfl (hbr12)
                  refine hE.on (by rfl) (by rfl) ?_
                  refine hE.pur (X.move hE rfl) fun a hE => ?_
                  refine hE.on (by rfl) (by rfl) ?_
                  refine hE.pur (X.eqI hE rfl rfl) fun a hE => ?_
                  refine hE.pur (X.pickT hE rfl rfl) fun a hE => ?_
                  exact hr12 (decide (r_11 = 0)) _ _ H (hE.weak ⟨rfl, rfl, rfl, trivial⟩)
                · replace H := H.2 hbr12
                  replace hE := hE.bool (b := false) (t := 154) rfl (hbr12)
                  refine hE.off (by rfl) (by rfl) (by decide) (fun a hE => ?_)
                  refine hE.off (by rfl) (by rfl) (by decide) (fun a hE => ?_)
                  refine hE.pur (X.pickF hE rfl rfl) fun a hE => ?_
                  exact hr12 false _ _ H (hE.weak ⟨rfl, rfl, rfl, trivial⟩)
            · rcases Classical.em ((x11 = (x0.len : Int))) with hbr11 | hbr11
              · replace H := H.1 hbr11
                replace hE := hE.bool (b := true) (t := 150) rfl (decide_eq_true hbr11)
                refine hE.on (by rfl) (by rfl) ?_
                refine hE.pur (X.move hE rfl) fun a hE => ?_
                refine hE.on (by rfl) (by rfl) ?_
                refine hE.pur (X.eqI hE rfl rfl) fun a hE => ?_
                refine hE.pur (X.pickT hE rfl rfl) fun a hE => ?_
                exact hr11 (decide (r_9 = 0)) _ _ H (hE.weak ⟨rfl, rfl, rfl, rfl, trivial⟩)
              · replace H := H.2 hbr11
                replace hE := hE.bool (b := false) (t := 150) rfl (decide_eq_false hbr11)
                refine hE.off (by rfl) (by rfl) (by decide) (fun a hE => ?_)
                refine hE.off (by rfl) (by rfl) (by decide) (fun a hE => ?_)
                refine hE.pur (X.pickF hE rfl rfl) fun a hE => ?_
                exact hr11 false _ _ H (hE.weak ⟨rfl, rfl, rfl, rfl, trivial⟩)
        · rcases Classical.em ((r_7 ≠ 0)) with hbr10 | hbr10
          · replace H := H.1 hbr10
            replace hE := hE.bool (b := true) (t := 125) rfl (decide_eq_true hbr10)
            refine hE.off (by rfl) (by rfl) (by decide) (fun a hE => ?_)
            refine hE.off (by rfl) (by rfl) (by decide) (fun a hE => ?_)
            refine hE.off (by rfl) (by rfl) (by decide) (fun a hE => ?_)
            refine hE.pur (X.pickT hE rfl rfl) fun a hE => ?_
            exact hr10 true _ _ H (hE.weak ⟨rfl, rfl, rfl, rfl, rfl, trivial⟩)
          · replace H := H.2 hbr10
            replace hE := hE.bool (b := false) (t := 125) rfl (decide_eq_false hbr10)
            refine hE.on (by rfl) (by rfl) ?_
            refine hE.pur (X.move hE rfl) fun a hE => ?_
            refine hE.on (by rfl) (by rfl) ?_
            refine hE.pur (X.move hE rfl) fun a hE => ?_
            refine hE.on (by rfl) (by rfl) ?_
            refine hE.pur (X.eqS hE rfl rfl) fun a hE => ?_
            refine hE.pur (X.pickF hE rfl rfl) fun a hE => ?_
            exact hr10 (decide (x2 = x1)) _ _ H (hE.weak ⟨rfl, rfl, rfl, rfl, rfl, trivial⟩)
end Go.Proofs.Ytlghlmoifjcgoaa.VG
