/- Verification conditions, by program (gen.py), of functions of the loaded program, each with the proof that it gives the call; no condition. -/
import Derived.Test.YtealcoghiaeiiaaVS
set_option linter.unusedVariables false
set_option linter.unusedSimpArgs false
namespace Go.Proofs.Ytealcoghiaeiiaa.VG
open Go.VB Go.Proofs

/-! ### lading ladinglaw09.lives: function 15 -/
def V_ladinglaw09_lives_r9 (Ret : Bool → World → Prop) (x91 : Bool) (w : World) : Prop :=
  Ret x91 w
def V_ladinglaw09_lives_r8 (Ret : Bool → World → Prop) (r_13 : Int) (x87 : Bool) (w : World) : Prop :=
  (x87 = true → (V_ladinglaw09_lives_r9 Ret (decide (r_13 = 9)) w)) ∧ (x87 = false → (V_ladinglaw09_lives_r9 Ret false w))
def V_ladinglaw09_lives_r7 (Ret : Bool → World → Prop) (r_10 : Int) (r_13 : Int) (x83 : Bool) (w : World) : Prop :=
  (x83 = true → (V_ladinglaw09_lives_r8 Ret r_13 (decide (r_10 = 0)) w)) ∧ (x83 = false → (V_ladinglaw09_lives_r8 Ret r_13 false w))
def V_ladinglaw09_lives_r6 (Ret : Bool → World → Prop) (r_10 : Int) (x9 : Option Addr) (r_13 : Int) (x77 : Bool) (w : World) : Prop :=
  (x77 = true → (opE Try.prog Value.pointer (Instr.fieldAt 25 (.pointer x9) 0) w (fun x79 w => opE Try.prog Sl.v (Instr.loadAt 22 (.pointer x79)) w (fun x80 w => V_ladinglaw09_lives_r7 Ret r_10 r_13 (decide ((x80.len : Int) = 1)) w)))) ∧ (x77 = false → (V_ladinglaw09_lives_r7 Ret r_10 r_13 false w))
def V_ladinglaw09_lives_r5 (Ret : Bool → World → Prop) (r_8 : Int) (r_10 : Int) (x9 : Option Addr) (r_13 : Int) (x73 : Bool) (w : World) : Prop :=
  (x73 = true → (V_ladinglaw09_lives_r6 Ret r_10 x9 r_13 (decide (r_8 = 0)) w)) ∧ (x73 = false → (V_ladinglaw09_lives_r6 Ret r_10 x9 r_13 false w))
def V_ladinglaw09_lives_r4 (Ret : Bool → World → Prop) (r_7 : Sl) (r_8 : Int) (r_10 : Int) (x9 : Option Addr) (r_13 : Int) (x67 : Bool) (w : World) : Prop :=
  (x67 = true → (opE Try.prog T_api_Pair.v (Instr.build 45 [(0, (.string (ByteArray.mk #[98]))), (1, (.string (ByteArray.mk #[50])))].toArray) w (fun x70 w => opE Try.prog Sl.v (Instr.buildSlice 41 1 [(0, (T_api_Pair.v x70))].toArray) w (fun x71 w => Cl Try.prog 25 [(Sl.v r_7), (Sl.v x71)].toArray w (fun e w => ∃ (r_14 : Bool), e = .returned (.bool r_14) ∧ (V_ladinglaw09_lives_r5 Ret r_8 r_10 x9 r_13 r_14 w)))))) ∧ (x67 = false → (V_ladinglaw09_lives_r5 Ret r_8 r_10 x9 r_13 false w))
def V_ladinglaw09_lives_r3 (Ret : Bool → World → Prop) (r_6 : Int) (r_7 : Sl) (r_8 : Int) (r_10 : Int) (x9 : Option Addr) (r_13 : Int) (x63 : Bool) (w : World) : Prop :=
  (x63 = true → (V_ladinglaw09_lives_r4 Ret r_7 r_8 r_10 x9 r_13 (decide (r_6 = 0)) w)) ∧ (x63 = false → (V_ladinglaw09_lives_r4 Ret r_7 r_8 r_10 x9 r_13 false w))
def V_ladinglaw09_lives_r2 (Ret : Bool → World → Prop) (r_5 : Bool) (r_6 : Int) (r_7 : Sl) (r_8 : Int) (r_10 : Int) (x9 : Option Addr) (r_13 : Int) (x60 : Bool) (w : World) : Prop :=
  (x60 = true → (V_ladinglaw09_lives_r3 Ret r_6 r_7 r_8 r_10 x9 r_13 r_5 w)) ∧ (x60 = false → (V_ladinglaw09_lives_r3 Ret r_6 r_7 r_8 r_10 x9 r_13 false w))
def V_ladinglaw09_lives_r1 (Ret : Bool → World → Prop) (r_4 : ByteArray) (r_5 : Bool) (r_6 : Int) (r_7 : Sl) (r_8 : Int) (r_10 : Int) (x9 : Option Addr) (r_13 : Int) (x56 : Bool) (w : World) : Prop :=
  (x56 = true → (V_ladinglaw09_lives_r2 Ret r_5 r_6 r_7 r_8 r_10 x9 r_13 (decide (r_4 = (ByteArray.mk #[49]))) w)) ∧ (x56 = false → (V_ladinglaw09_lives_r2 Ret r_5 r_6 r_7 r_8 r_10 x9 r_13 false w))
def V_ladinglaw09_lives (w : World) (Ret : Bool → World → Prop) : Prop :=
  opE Try.prog T_api_Versions.v (Instr.build 25 [].toArray) w (fun x15 w => opE Try.prog T_api_Write.v (Instr.build 52 [(0, (.string (ByteArray.mk #[97]))), (1, (.string (ByteArray.mk #[49])))].toArray) w (fun x16 w => opE Try.prog Sl.v (Instr.buildSlice 26 1 [(0, (T_api_Write.v x16))].toArray) w (fun x17 w => Cl Try.prog 11 [(T_api_Versions.v x15), (Sl.v x17), (.int .u64 1)].toArray w (fun e w => ∃ (r : T_api_Versions) (r_1 : Int), e = .returned (.tuple [(T_api_Versions.v r), (.int .i64 r_1)].toArray) ∧ (opE Try.prog Value.pointer (Instr.alloc 25 true (.tuple #[])) w (fun x1 w => opU Try.prog (Instr.storeAt 25 (.pointer x1) (T_api_Versions.v r)) w (fun w => opE Try.prog T_api_Versions.v (Instr.loadAt 25 (.pointer x1)) w (fun x22 w => opE Try.prog T_api_Write.v (Instr.build 52 [(0, (.string (ByteArray.mk #[97]))), (2, (.bool true))].toArray) w (fun x23 w => opE Try.prog T_api_Write.v (Instr.build 52 [(0, (.string (ByteArray.mk #[98]))), (1, (.string (ByteArray.mk #[50])))].toArray) w (fun x24 w => opE Try.prog Sl.v (Instr.buildSlice 26 2 [(0, (T_api_Write.v x23)), (1, (T_api_Write.v x24))].toArray) w (fun x25 w => Cl Try.prog 11 [(T_api_Versions.v x22), (Sl.v x25), (.int .u64 5)].toArray w (fun e w => ∃ (r_2 : T_api_Versions) (r_3 : Int), e = .returned (.tuple [(T_api_Versions.v r_2), (.int .i64 r_3)].toArray) ∧ (opU Try.prog (Instr.storeAt 25 (.pointer x1) (T_api_Versions.v r_2)) w (fun w => opE Try.prog T_api_Versions.v (Instr.loadAt 25 (.pointer x1)) w (fun x30 w => Cl Try.prog 18 [(T_api_Versions.v x30), (.string (ByteArray.mk #[97])), (.int .u64 4)].toArray w (fun e w => ∃ (r_4 : ByteArray) (r_5 : Bool) (r_6 : Int), e = .returned (.tuple [(.string r_4), (.bool r_5), (.int .i64 r_6)].toArray) ∧ (opE Try.prog T_api_Versions.v (Instr.loadAt 25 (.pointer x1)) w (fun x36 w => Cl Try.prog 19 [(T_api_Versions.v x36), (.string (ByteArray.mk #[])), (.string (ByteArray.mk #[])), (.int .u64 5)].toArray w (fun e w => ∃ (r_7 : Sl) (r_8 : Int), e = .returned (.tuple [(Sl.v r_7), (.int .i64 r_8)].toArray) ∧ (opE Try.prog T_api_Versions.v (Instr.loadAt 25 (.pointer x1)) w (fun x41 w => Cl Try.prog 13 [(T_api_Versions.v x41), (.int .u64 5)].toArray w (fun e w => ∃ (r_9 : T_api_Versions) (r_10 : Int), e = .returned (.tuple [(T_api_Versions.v r_9), (.int .i64 r_10)].toArray) ∧ (opE Try.prog Value.pointer (Instr.alloc 25 true (.tuple #[])) w (fun x9 w => opU Try.prog (Instr.storeAt 25 (.pointer x9) (T_api_Versions.v r_9)) w (fun w => opE Try.prog T_api_Versions.v (Instr.loadAt 25 (.pointer x9)) w (fun x46 w => Cl Try.prog 18 [(T_api_Versions.v x46), (.string (ByteArray.mk #[97])), (.int .u64 4)].toArray w (fun e w => ∃ (r_11 : ByteArray) (r_12 : Bool) (r_13 : Int), e = .returned (.tuple [(.string r_11), (.bool r_12), (.int .i64 r_13)].toArray) ∧ (((r_1 = 0) → (V_ladinglaw09_lives_r1 Ret r_4 r_5 r_6 r_7 r_8 r_10 x9 r_13 (decide (r_3 = 0)) w)) ∧ (¬ (r_1 = 0) → (V_ladinglaw09_lives_r1 Ret r_4 r_5 r_6 r_7 r_8 r_10 x9 r_13 false w))))))))))))))))))))))))))))))
set_option maxRecDepth 100000 in
theorem L1_ladinglaw09_lives (w : World) (Ret : Bool → World → Prop) (H : V_ladinglaw09_lives w Ret) : Cl Try.prog 15 [].toArray w (fun e w' => ∃ (r0 : Bool), e = .returned (.bool r0) ∧ Ret r0 w') := by
  unfold V_ladinglaw09_lives at H
  refine C.enter 92 (zipE 0 []) Try.func15 rfl rfl (by rfl) rfl ?_
  intro a hE
  replace hE : Sat [] 92 [] a := hE
  refine C.seq ?_
  refine C.region ?_
  refine hE.pur (X.assign hE rfl) fun a hE => ?_
  refine C.nil (tn ?_)
  refine C.seq ?_
  refine C.region ?_
  refine hE.op (X.build hE rfl) H fun x15 w a H hE => ?_
  refine hE.op (X.build hE rfl) H fun x16 w a H hE => ?_
  refine hE.op (X.buildSlice hE rfl) H fun x17 w a H hE => ?_
  refine hE.call (X.callF hE ent11 rfl rfl) H fun e w H => ?_
  obtain ⟨r, r_1, rfl, H⟩ := H
  refine ⟨_, rfl, fun a hE => ?_⟩
  refine hE.pur (X.move hE rfl) fun a hE => ?_
  refine hE.pur (X.extract hE rfl rfl) fun a hE => ?_
  refine hE.pur (X.extract hE rfl rfl) fun a hE => ?_
  refine hE.op (X.alloc) H fun x1 w a H hE => ?_
  refine hE.opu (X.store hE rfl rfl) H fun w a H hE => ?_
  refine hE.pur (X.assign hE rfl) fun a hE => ?_
  refine C.nil (tn ?_)
  refine C.seq ?_
  refine C.region ?_
  refine hE.op (X.load hE rfl) H fun x22 w a H hE => ?_
  refine hE.op (X.build hE rfl) H fun x23 w a H hE => ?_
  refine hE.op (X.build hE rfl) H fun x24 w a H hE => ?_
  refine hE.op (X.buildSlice hE rfl) H fun x25 w a H hE => ?_
  refine hE.call (X.callF hE ent11 rfl rfl) H fun e w H => ?_
  obtain ⟨r_2, r_3, rfl, H⟩ := H
  refine ⟨_, rfl, fun a hE => ?_⟩
  refine hE.pur (X.move hE rfl) fun a hE => ?_
  refine hE.pur (X.extract hE rfl rfl) fun a hE => ?_
  refine hE.pur (X.extract hE rfl rfl) fun a hE => ?_
  refine hE.opu (X.store hE rfl rfl) H fun w a H hE => ?_
  refine hE.pur (X.assign hE rfl) fun a hE => ?_
  refine C.nil (tn ?_)
  refine C.seq ?_
  refine C.region ?_
  refine hE.op (X.load hE rfl) H fun x30 w a H hE => ?_
  refine hE.call (X.callF hE ent18 rfl rfl) H fun e w H => ?_
  obtain ⟨r_4, r_5, r_6, rfl, H⟩ := H
  refine ⟨_, rfl, fun a hE => ?_⟩
  refine hE.pur (X.move hE rfl) fun a hE => ?_
  refine hE.pur (X.extract hE rfl rfl) fun a hE => ?_
  refine hE.pur (X.extract hE rfl rfl) fun a hE => ?_
  refine hE.pur (X.extract hE rfl rfl) fun a hE => ?_
  refine hE.pur (X.assign hE rfl) fun a hE => ?_
  refine hE.pur (X.assign hE rfl) fun a hE => ?_
  refine hE.pur (X.assign hE rfl) fun a hE => ?_
  refine C.nil (tn ?_)
  refine C.seq ?_
  refine C.region ?_
  refine hE.op (X.load hE rfl) H fun x36 w a H hE => ?_
  refine hE.call (X.callF hE ent19 rfl rfl) H fun e w H => ?_
  obtain ⟨r_7, r_8, rfl, H⟩ := H
  refine ⟨_, rfl, fun a hE => ?_⟩
  refine hE.pur (X.move hE rfl) fun a hE => ?_
  refine hE.pur (X.extract hE rfl rfl) fun a hE => ?_
  refine hE.pur (X.extract hE rfl rfl) fun a hE => ?_
  refine hE.pur (X.assign hE rfl) fun a hE => ?_
  refine hE.pur (X.assign hE rfl) fun a hE => ?_
  refine C.nil (tn ?_)
  refine C.seq ?_
  refine C.region ?_
  refine hE.op (X.load hE rfl) H fun x41 w a H hE => ?_
  refine hE.call (X.callF hE ent13 rfl rfl) H fun e w H => ?_
  obtain ⟨r_9, r_10, rfl, H⟩ := H
  refine ⟨_, rfl, fun a hE => ?_⟩
  refine hE.pur (X.move hE rfl) fun a hE => ?_
  refine hE.pur (X.extract hE rfl rfl) fun a hE => ?_
  refine hE.pur (X.extract hE rfl rfl) fun a hE => ?_
  refine hE.op (X.alloc) H fun x9 w a H hE => ?_
  refine hE.opu (X.store hE rfl rfl) H fun w a H hE => ?_
  refine hE.pur (X.assign hE rfl) fun a hE => ?_
  refine C.nil (tn ?_)
  refine C.seq ?_
  refine C.region ?_
  refine hE.op (X.load hE rfl) H fun x46 w a H hE => ?_
  refine hE.call (X.callF hE ent18 rfl rfl) H fun e w H => ?_
  obtain ⟨r_11, r_12, r_13, rfl, H⟩ := H
  refine ⟨_, rfl, fun a hE => ?_⟩
  refine hE.pur (X.move hE rfl) fun a hE => ?_
  refine hE.pur (X.extract hE rfl rfl) fun a hE => ?_
  refine hE.pur (X.extract hE rfl rfl) fun a hE => ?_
  refine hE.pur (X.extract hE rfl rfl) fun a hE => ?_
  refine hE.pur (X.assign hE rfl) fun a hE => ?_
  refine hE.pur (X.assign hE rfl) fun a hE => ?_
  refine hE.pur (X.assign hE rfl) fun a hE => ?_
  refine C.nil (tn ?_)
  refine C.seq ?_
  refine C.region ?_
  refine hE.pur (X.move hE rfl) fun a hE => ?_
  refine hE.pur (X.eqI hE rfl rfl) fun a hE => ?_
  refine hE.pur (X.move hE rfl) fun a hE => ?_
  refine WL.join (ds := []) (N := 92) (σ := Bool) (fun s => [(56, (.bool s)), (4, (.string r_4)), (5, (.bool r_5)), (6, (.int .i64 r_6)), (7, (Sl.v r_7)), (8, (.int .i64 r_8)), (9, (.pointer x9)), (10, (.int .i64 r_10)), (13, (.int .i64 r_13))]) (fun s w => V_ladinglaw09_lives_r1 Ret r_4 r_5 r_6 r_7 r_8 r_10 x9 r_13 s w) 3 ?_ (fun hr1 => ?_)
  · intro x56 w a H hE
    try dsimp only at H hE
    unfold V_ladinglaw09_lives_r1 at H
    refine hE.pur (X.move hE rfl) fun a hE => ?_
    refine WL.join (ds := []) (N := 92) (σ := Bool) (fun s => [(60, (.bool s)), (5, (.bool r_5)), (6, (.int .i64 r_6)), (7, (Sl.v r_7)), (8, (.int .i64 r_8)), (9, (.pointer x9)), (10, (.int .i64 r_10)), (13, (.int .i64 r_13))]) (fun s w => V_ladinglaw09_lives_r2 Ret r_5 r_6 r_7 r_8 r_10 x9 r_13 s w) 3 ?_ (fun hr2 => ?_)
    · intro x60 w a H hE
      try dsimp only at H hE
      unfold V_ladinglaw09_lives_r2 at H
      refine hE.pur (X.move hE rfl) fun a hE => ?_
      refine WL.join (ds := []) (N := 92) (σ := Bool) (fun s => [(63, (.bool s)), (6, (.int .i64 r_6)), (7, (Sl.v r_7)), (8, (.int .i64 r_8)), (9, (.pointer x9)), (10, (.int .i64 r_10)), (13, (.int .i64 r_13))]) (fun s w => V_ladinglaw09_lives_r3 Ret r_6 r_7 r_8 r_10 x9 r_13 s w) 2 ?_ (fun hr3 => ?_)
      · intro x63 w a H hE
        try dsimp only at H hE
        unfold V_ladinglaw09_lives_r3 at H
        refine hE.pur (X.move hE rfl) fun a hE => ?_
        refine WL.join (ds := []) (N := 92) (σ := Bool) (fun s => [(67, (.bool s)), (7, (Sl.v r_7)), (8, (.int .i64 r_8)), (9, (.pointer x9)), (10, (.int .i64 r_10)), (13, (.int .i64 r_13))]) (fun s w => V_ladinglaw09_lives_r4 Ret r_7 r_8 r_10 x9 r_13 s w) 3 ?_ (fun hr4 => ?_)
        · intro x67 w a H hE
          try dsimp only at H hE
          unfold V_ladinglaw09_lives_r4 at H
          refine hE.pur (X.move hE rfl) fun a hE => ?_
          refine WL.join (ds := []) (N := 92) (σ := Bool) (fun s => [(73, (.bool s)), (8, (.int .i64 r_8)), (9, (.pointer x9)), (10, (.int .i64 r_10)), (13, (.int .i64 r_13))]) (fun s w => V_ladinglaw09_lives_r5 Ret r_8 r_10 x9 r_13 s w) 5 ?_ (fun hr5 => ?_)
          · intro x73 w a H hE
            try dsimp only at H hE
            unfold V_ladinglaw09_lives_r5 at H
            refine hE.pur (X.move hE rfl) fun a hE => ?_
            refine WL.join (ds := []) (N := 92) (σ := Bool) (fun s => [(77, (.bool s)), (9, (.pointer x9)), (10, (.int .i64 r_10)), (13, (.int .i64 r_13))]) (fun s w => V_ladinglaw09_lives_r6 Ret r_10 x9 r_13 s w) 3 ?_ (fun hr6 => ?_)
            · intro x77 w a H hE
              try dsimp only at H hE
              unfold V_ladinglaw09_lives_r6 at H
              refine hE.pur (X.move hE rfl) fun a hE => ?_
              refine WL.join (ds := []) (N := 92) (σ := Bool) (fun s => [(83, (.bool s)), (10, (.int .i64 r_10)), (13, (.int .i64 r_13))]) (fun s w => V_ladinglaw09_lives_r7 Ret r_10 r_13 s w) 5 ?_ (fun hr7 => ?_)
              · intro x83 w a H hE
                try dsimp only at H hE
                unfold V_ladinglaw09_lives_r7 at H
                refine hE.pur (X.move hE rfl) fun a hE => ?_
                refine WL.join (ds := []) (N := 92) (σ := Bool) (fun s => [(87, (.bool s)), (13, (.int .i64 r_13))]) (fun s w => V_ladinglaw09_lives_r8 Ret r_13 s w) 3 ?_ (fun hr8 => ?_)
                · intro x87 w a H hE
                  try dsimp only at H hE
                  unfold V_ladinglaw09_lives_r8 at H
                  refine hE.pur (X.move hE rfl) fun a hE => ?_
                  refine WL.join (ds := []) (N := 92) (σ := Bool) (fun s => [(91, (.bool s))]) (fun s w => V_ladinglaw09_lives_r9 Ret s w) 3 ?_ (fun hr9 => ?_)
                  · intro x91 w a H hE
                    try dsimp only at H hE
                    unfold V_ladinglaw09_lives_r9 at H
                    refine hE.pur (X.assign hE rfl) fun a hE => ?_
                    refine C.nil (tn ?_)
                    exact C.ret (C.ret1 hE rfl rfl ⟨_, rfl, H⟩)
                  · rcases Bool.eq_false_or_eq_true (x87) with hbr9 | hbr9
                    · replace H := H.1 hbr9
                      replace hE := hE.bool (b := true) (t := 88) rfl (hbr9)
                      refine hE.on (by rfl) (by rfl) ?_
                      refine hE.pur (X.move hE rfl) fun a hE => ?_
                      refine hE.on (by rfl) (by rfl) ?_
                      refine hE.pur (X.eqI hE rfl rfl) fun a hE => ?_
                      refine hE.pur (X.pickT hE rfl rfl) fun a hE => ?_
                      exact hr9 (decide (r_13 = 9)) _ _ H (hE.weak ⟨rfl, trivial⟩)
                    · replace H := H.2 hbr9
                      replace hE := hE.bool (b := false) (t := 88) rfl (hbr9)
                      refine hE.off (by rfl) (by rfl) (by decide) (fun a hE => ?_)
                      refine hE.off (by rfl) (by rfl) (by decide) (fun a hE => ?_)
                      refine hE.pur (X.pickF hE rfl rfl) fun a hE => ?_
                      exact hr9 false _ _ H (hE.weak ⟨rfl, trivial⟩)
                · rcases Bool.eq_false_or_eq_true (x83) with hbr8 | hbr8
                  · replace H := H.1 hbr8
                    replace hE := hE.bool (b := true) (t := 84) rfl (hbr8)
                    refine hE.on (by rfl) (by rfl) ?_
                    refine hE.pur (X.move hE rfl) fun a hE => ?_
                    refine hE.on (by rfl) (by rfl) ?_
                    refine hE.pur (X.eqI hE rfl rfl) fun a hE => ?_
                    refine hE.pur (X.pickT hE rfl rfl) fun a hE => ?_
                    exact hr8 (decide (r_10 = 0)) _ _ H (hE.weak ⟨rfl, rfl, trivial⟩)
                  · replace H := H.2 hbr8
                    replace hE := hE.bool (b := false) (t := 84) rfl (hbr8)
                    refine hE.off (by rfl) (by rfl) (by decide) (fun a hE => ?_)
                    refine hE.off (by rfl) (by rfl) (by decide) (fun a hE => ?_)
                    refine hE.pur (X.pickF hE rfl rfl) fun a hE => ?_
                    exact hr8 false _ _ H (hE.weak ⟨rfl, rfl, trivial⟩)
              · rcases Bool.eq_false_or_eq_true (x77) with hbr7 | hbr7
                · replace H := H.1 hbr7
                  replace hE := hE.bool (b := true) (t := 78) rfl (hbr7)
                  refine hE.on (by rfl) (by rfl) ?_
                  refine hE.op (X.fieldAddr hE rfl) H fun x79 w a H hE => ?_
                  refine hE.on (by rfl) (by rfl) ?_
                  refine hE.op (X.load hE rfl) H fun x80 w a H hE => ?_
                  refine hE.on (by rfl) (by rfl) ?_
                  refine hE.purR (fun w => X.lenL hE Try.underlying22 rfl) fun a hE => ?_
                  refine hE.on (by rfl) (by rfl) ?_
                  refine hE.pur (X.eqI hE rfl rfl) fun a hE => ?_
                  refine hE.pur (X.pickT hE rfl rfl) fun a hE => ?_
                  exact hr7 (decide ((x80.len : Int) = 1)) _ _ H (hE.weak ⟨rfl, rfl, rfl, trivial⟩)
                · replace H := H.2 hbr7
                  replace hE := hE.bool (b := false) (t := 78) rfl (hbr7)
                  refine hE.off (by rfl) (by rfl) (by decide) (fun a hE => ?_)
                  refine hE.off (by rfl) (by rfl) (by decide) (fun a hE => ?_)
                  refine hE.off (by rfl) (by rfl) (by decide) (fun a hE => ?_)
                  refine hE.off (by rfl) (by rfl) (by decide) (fun a hE => ?_)
                  refine hE.pur (X.pickF hE rfl rfl) fun a hE => ?_
                  exact hr7 false _ _ H (hE.weak ⟨rfl, rfl, rfl, trivial⟩)
            · rcases Bool.eq_false_or_eq_true (x73) with hbr6 | hbr6
              · replace H := H.1 hbr6
                replace hE := hE.bool (b := true) (t := 74) rfl (hbr6)
                refine hE.on (by rfl) (by rfl) ?_
                refine hE.pur (X.move hE rfl) fun a hE => ?_
                refine hE.on (by rfl) (by rfl) ?_
                refine hE.pur (X.eqI hE rfl rfl) fun a hE => ?_
                refine hE.pur (X.pickT hE rfl rfl) fun a hE => ?_
                exact hr6 (decide (r_8 = 0)) _ _ H (hE.weak ⟨rfl, rfl, rfl, rfl, trivial⟩)
              · replace H := H.2 hbr6
                replace hE := hE.bool (b := false) (t := 74) rfl (hbr6)
                refine hE.off (by rfl) (by rfl) (by decide) (fun a hE => ?_)
                refine hE.off (by rfl) (by rfl) (by decide) (fun a hE => ?_)
                refine hE.pur (X.pickF hE rfl rfl) fun a hE => ?_
                exact hr6 false _ _ H (hE.weak ⟨rfl, rfl, rfl, rfl, trivial⟩)
          · rcases Bool.eq_false_or_eq_true (x67) with hbr5 | hbr5
            · replace H := H.1 hbr5
              replace hE := hE.bool (b := true) (t := 68) rfl (hbr5)
              refine hE.on (by rfl) (by rfl) ?_
              refine hE.pur (X.move hE rfl) fun a hE => ?_
              refine hE.on (by rfl) (by rfl) ?_
              refine hE.op (X.build hE rfl) H fun x70 w a H hE => ?_
              refine hE.on (by rfl) (by rfl) ?_
              refine hE.op (X.buildSlice hE rfl) H fun x71 w a H hE => ?_
              refine hE.on (by rfl) (by rfl) ?_
              refine hE.call (X.callF hE ent25 rfl rfl) H fun e w H => ?_
              obtain ⟨r_14, rfl, H⟩ := H
              refine ⟨_, rfl, fun a hE => ?_⟩
              refine hE.pur (X.pickT hE rfl rfl) fun a hE => ?_
              exact hr5 r_14 _ _ H (hE.weak ⟨rfl, rfl, rfl, rfl, rfl, trivial⟩)
            · replace H := H.2 hbr5
              replace hE := hE.bool (b := false) (t := 68) rfl (hbr5)
              refine hE.off (by rfl) (by rfl) (by decide) (fun a hE => ?_)
              refine hE.off (by rfl) (by rfl) (by decide) (fun a hE => ?_)
              refine hE.off (by rfl) (by rfl) (by decide) (fun a hE => ?_)
              refine hE.off (by rfl) (by rfl) (by decide) (fun a hE => ?_)
              refine hE.pur (X.pickF hE rfl rfl) fun a hE => ?_
              exact hr5 false _ _ H (hE.weak ⟨rfl, rfl, rfl, rfl, rfl, trivial⟩)
        · rcases Bool.eq_false_or_eq_true (x63) with hbr4 | hbr4
          · replace H := H.1 hbr4
            replace hE := hE.bool (b := true) (t := 64) rfl (hbr4)
            refine hE.on (by rfl) (by rfl) ?_
            refine hE.pur (X.move hE rfl) fun a hE => ?_
            refine hE.on (by rfl) (by rfl) ?_
            refine hE.pur (X.eqI hE rfl rfl) fun a hE => ?_
            refine hE.pur (X.pickT hE rfl rfl) fun a hE => ?_
            exact hr4 (decide (r_6 = 0)) _ _ H (hE.weak ⟨rfl, rfl, rfl, rfl, rfl, rfl, trivial⟩)
          · replace H := H.2 hbr4
            replace hE := hE.bool (b := false) (t := 64) rfl (hbr4)
            refine hE.off (by rfl) (by rfl) (by decide) (fun a hE => ?_)
            refine hE.off (by rfl) (by rfl) (by decide) (fun a hE => ?_)
            refine hE.pur (X.pickF hE rfl rfl) fun a hE => ?_
            exact hr4 false _ _ H (hE.weak ⟨rfl, rfl, rfl, rfl, rfl, rfl, trivial⟩)
      · rcases Bool.eq_false_or_eq_true (x60) with hbr3 | hbr3
        · replace H := H.1 hbr3
          replace hE := hE.bool (b := true) (t := 61) rfl (hbr3)
          refine hE.on (by rfl) (by rfl) ?_
          refine hE.pur (X.move hE rfl) fun a hE => ?_
          refine hE.pur (X.pickT hE rfl rfl) fun a hE => ?_
          exact hr3 r_5 _ _ H (hE.weak ⟨rfl, rfl, rfl, rfl, rfl, rfl, rfl, trivial⟩)
        · replace H := H.2 hbr3
          replace hE := hE.bool (b := false) (t := 61) rfl (hbr3)
          refine hE.off (by rfl) (by rfl) (by decide) (fun a hE => ?_)
          refine hE.pur (X.pickF hE rfl rfl) fun a hE => ?_
          exact hr3 false _ _ H (hE.weak ⟨rfl, rfl, rfl, rfl, rfl, rfl, rfl, trivial⟩)
    · rcases Bool.eq_false_or_eq_true (x56) with hbr2 | hbr2
      · replace H := H.1 hbr2
        replace hE := hE.bool (b := true) (t := 57) rfl (hbr2)
        refine hE.on (by rfl) (by rfl) ?_
        refine hE.pur (X.move hE rfl) fun a hE => ?_
        refine hE.on (by rfl) (by rfl) ?_
        refine hE.pur (X.eqS hE rfl rfl) fun a hE => ?_
        refine hE.pur (X.pickT hE rfl rfl) fun a hE => ?_
        exact hr2 (decide (r_4 = (ByteArray.mk #[49]))) _ _ H (hE.weak ⟨rfl, rfl, rfl, rfl, rfl, rfl, rfl, rfl, trivial⟩)
      · replace H := H.2 hbr2
        replace hE := hE.bool (b := false) (t := 57) rfl (hbr2)
        refine hE.off (by rfl) (by rfl) (by decide) (fun a hE => ?_)
        refine hE.off (by rfl) (by rfl) (by decide) (fun a hE => ?_)
        refine hE.pur (X.pickF hE rfl rfl) fun a hE => ?_
        exact hr2 false _ _ H (hE.weak ⟨rfl, rfl, rfl, rfl, rfl, rfl, rfl, rfl, trivial⟩)
  · rcases Classical.em ((r_1 = 0)) with hbr1 | hbr1
    · replace H := H.1 hbr1
      replace hE := hE.bool (b := true) (t := 53) rfl (decide_eq_true hbr1)
      refine hE.on (by rfl) (by rfl) ?_
      refine hE.pur (X.move hE rfl) fun a hE => ?_
      refine hE.on (by rfl) (by rfl) ?_
      refine hE.pur (X.eqI hE rfl rfl) fun a hE => ?_
      refine hE.pur (X.pickT hE rfl rfl) fun a hE => ?_
      exact hr1 (decide (r_3 = 0)) _ _ H (hE.weak ⟨rfl, rfl, rfl, rfl, rfl, rfl, rfl, rfl, rfl, trivial⟩)
    · replace H := H.2 hbr1
      replace hE := hE.bool (b := false) (t := 53) rfl (decide_eq_false hbr1)
      refine hE.off (by rfl) (by rfl) (by decide) (fun a hE => ?_)
      refine hE.off (by rfl) (by rfl) (by decide) (fun a hE => ?_)
      refine hE.pur (X.pickF hE rfl rfl) fun a hE => ?_
      exact hr1 false _ _ H (hE.weak ⟨rfl, rfl, rfl, rfl, rfl, rfl, rfl, rfl, rfl, trivial⟩)
end Go.Proofs.Ytealcoghiaeiiaa.VG
