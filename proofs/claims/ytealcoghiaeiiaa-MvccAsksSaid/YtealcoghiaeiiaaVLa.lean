/- Verification conditions, by program (gen.py), of functions of the loaded program, each with the proof that it gives the call; no condition. -/
import Derived.Test.YtealcoghiaeiiaaVS
set_option linter.unusedVariables false
set_option linter.unusedSimpArgs false
namespace Go.Proofs.Ytealcoghiaeiiaa.VG
open Go.VB Go.Proofs

/-! ### lading ladinglaw09.MvccAsks: function 7 -/
def V_ladinglaw09_MvccAsks_r9 (Ret : Bool → World → Prop) (x117 : Bool) (w : World) : Prop :=
  nextB w (fun w => Ret x117 w)
def V_ladinglaw09_MvccAsks_r8 (Ret : Bool → World → Prop) (x4 : Option Addr) (x9 : Option Addr) (x112 : Bool) (w : World) : Prop :=
  (x112 = true → (opB Try.prog T_api_Versions.v (Instr.loadAt 25 (.pointer x9)) w (fun x114 => opB Try.prog T_api_Versions.v (Instr.loadAt 25 (.pointer x4)) w (fun x115 => ∃ (r_16 : Bool), (∀ w', Bel w w' → Cl Try.prog 16 [(T_api_Versions.v x114), (T_api_Versions.v x115)].toArray w' (fun e w'' => e = .returned (.bool r_16) ∧ Bel w' w'')) ∧ (V_ladinglaw09_MvccAsks_r9 Ret r_16 w))))) ∧ (x112 = false → (V_ladinglaw09_MvccAsks_r9 Ret false w))
def V_ladinglaw09_MvccAsks_r7 (Ret : Bool → World → Prop) (x4 : Option Addr) (x9 : Option Addr) (r_12 : Int) (r_14 : Int) (x107 : Bool) (w : World) : Prop :=
  (x107 = true → (V_ladinglaw09_MvccAsks_r8 Ret x4 x9 (decide (r_12 = r_14)) w)) ∧ (x107 = false → (V_ladinglaw09_MvccAsks_r8 Ret x4 x9 false w))
def V_ladinglaw09_MvccAsks_r6 (Ret : Bool → World → Prop) (x4 : Option Addr) (x9 : Option Addr) (r_11 : Int) (r_12 : Int) (r_13 : Int) (r_14 : Int) (x102 : Bool) (w : World) : Prop :=
  (x102 = true → (V_ladinglaw09_MvccAsks_r7 Ret x4 x9 r_12 r_14 (decide (r_11 = r_13)) w)) ∧ (x102 = false → (V_ladinglaw09_MvccAsks_r7 Ret x4 x9 r_12 r_14 false w))
def V_ladinglaw09_MvccAsks_r5 (Ret : Bool → World → Prop) (x4 : Option Addr) (x9 : Option Addr) (r_8 : Int) (r_10 : Int) (r_11 : Int) (r_12 : Int) (r_13 : Int) (r_14 : Int) (x97 : Bool) (w : World) : Prop :=
  (x97 = true → (V_ladinglaw09_MvccAsks_r6 Ret x4 x9 r_11 r_12 r_13 r_14 (decide (r_8 = r_10)) w)) ∧ (x97 = false → (V_ladinglaw09_MvccAsks_r6 Ret x4 x9 r_11 r_12 r_13 r_14 false w))
def V_ladinglaw09_MvccAsks_r4 (Ret : Bool → World → Prop) (x4 : Option Addr) (x9 : Option Addr) (r_7 : Sl) (r_8 : Int) (r_9 : Sl) (r_10 : Int) (r_11 : Int) (r_12 : Int) (r_13 : Int) (r_14 : Int) (x92 : Bool) (w : World) : Prop :=
  (x92 = true → (∃ (r_17 : Bool), (∀ w', Bel w w' → Cl Try.prog 25 [(Sl.v r_7), (Sl.v r_9)].toArray w' (fun e w'' => e = .returned (.bool r_17) ∧ Bel w' w'')) ∧ (V_ladinglaw09_MvccAsks_r5 Ret x4 x9 r_8 r_10 r_11 r_12 r_13 r_14 r_17 w))) ∧ (x92 = false → (V_ladinglaw09_MvccAsks_r5 Ret x4 x9 r_8 r_10 r_11 r_12 r_13 r_14 false w))
def V_ladinglaw09_MvccAsks_r3 (Ret : Bool → World → Prop) (x4 : Option Addr) (x9 : Option Addr) (r_3 : Int) (r_6 : Int) (r_7 : Sl) (r_8 : Int) (r_9 : Sl) (r_10 : Int) (r_11 : Int) (r_12 : Int) (r_13 : Int) (r_14 : Int) (x87 : Bool) (w : World) : Prop :=
  (x87 = true → (V_ladinglaw09_MvccAsks_r4 Ret x4 x9 r_7 r_8 r_9 r_10 r_11 r_12 r_13 r_14 (decide (r_3 = r_6)) w)) ∧ (x87 = false → (V_ladinglaw09_MvccAsks_r4 Ret x4 x9 r_7 r_8 r_9 r_10 r_11 r_12 r_13 r_14 false w))
def V_ladinglaw09_MvccAsks_r2 (Ret : Bool → World → Prop) (x4 : Option Addr) (x9 : Option Addr) (r_2 : Bool) (r_3 : Int) (r_5 : Bool) (r_6 : Int) (r_7 : Sl) (r_8 : Int) (r_9 : Sl) (r_10 : Int) (r_11 : Int) (r_12 : Int) (r_13 : Int) (r_14 : Int) (x82 : Bool) (w : World) : Prop :=
  (x82 = true → (opB Try.prog Value.bool (do eqGuard .eql 4 (.tmp 84) (.tmp 85) (.bool r_2) (.bool r_5); binOp .eql 4 (.bool r_2) (.bool r_5)) w (fun x86 => V_ladinglaw09_MvccAsks_r3 Ret x4 x9 r_3 r_6 r_7 r_8 r_9 r_10 r_11 r_12 r_13 r_14 x86 w))) ∧ (x82 = false → (V_ladinglaw09_MvccAsks_r3 Ret x4 x9 r_3 r_6 r_7 r_8 r_9 r_10 r_11 r_12 r_13 r_14 false w))
def V_ladinglaw09_MvccAsks_r1 (Ret : Bool → World → Prop) (x4 : Option Addr) (x9 : Option Addr) (r_1 : ByteArray) (r_2 : Bool) (r_3 : Int) (r_4 : ByteArray) (r_5 : Bool) (r_6 : Int) (r_7 : Sl) (r_8 : Int) (r_9 : Sl) (r_10 : Int) (r_11 : Int) (r_12 : Int) (r_13 : Int) (r_14 : Int) (x77 : Bool) (w : World) : Prop :=
  (x77 = true → (V_ladinglaw09_MvccAsks_r2 Ret x4 x9 r_2 r_3 r_5 r_6 r_7 r_8 r_9 r_10 r_11 r_12 r_13 r_14 (decide (r_1 = r_4)) w)) ∧ (x77 = false → (V_ladinglaw09_MvccAsks_r2 Ret x4 x9 r_2 r_3 r_5 r_6 r_7 r_8 r_9 r_10 r_11 r_12 r_13 r_14 false w))
def V_ladinglaw09_MvccAsks (x0 : T_api_Versions) (x1 : ByteArray) (x2 : ByteArray) (x3 : Int) (w : World) (Ret : Bool → World → Prop) : Prop :=
  opE Try.prog Value.pointer (Instr.box 25 (T_api_Versions.v x0)) w (fun x4 w => opE Try.prog T_api_Versions.v (Instr.loadAt 25 (.pointer x4)) w (fun x24 w => Cl Try.prog 10 [(T_api_Versions.v x24)].toArray w (fun e w => ∃ (r : T_api_Versions), e = .returned (T_api_Versions.v r) ∧ (opE Try.prog Value.pointer (Instr.alloc 25 true (.tuple #[])) w (fun x9 w => opU Try.prog (Instr.storeAt 25 (.pointer x9) (T_api_Versions.v r)) w (fun w => opE Try.prog T_api_Versions.v (Instr.loadAt 25 (.pointer x9)) w (fun x27 w => Cl Try.prog 18 [(T_api_Versions.v x27), (.string x1), (.int .u64 x3)].toArray w (fun e w => ∃ (r_1 : ByteArray) (r_2 : Bool) (r_3 : Int), e = .returned (.tuple [(.string r_1), (.bool r_2), (.int .i64 r_3)].toArray) ∧ (opE Try.prog T_api_Versions.v (Instr.loadAt 25 (.pointer x4)) w (fun x35 w => Cl Try.prog 20 [(T_api_Versions.v x35), (.string x1), (.int .u64 x3)].toArray w (fun e w => ∃ (r_4 : ByteArray) (r_5 : Bool) (r_6 : Int), e = .returned (.tuple [(.string r_4), (.bool r_5), (.int .i64 r_6)].toArray) ∧ (opE Try.prog T_api_Versions.v (Instr.loadAt 25 (.pointer x9)) w (fun x43 w => Cl Try.prog 19 [(T_api_Versions.v x43), (.string x1), (.string x2), (.int .u64 x3)].toArray w (fun e w => ∃ (r_7 : Sl) (r_8 : Int), e = .returned (.tuple [(Sl.v r_7), (.int .i64 r_8)].toArray) ∧ (opE Try.prog T_api_Versions.v (Instr.loadAt 25 (.pointer x4)) w (fun x51 w => Cl Try.prog 21 [(T_api_Versions.v x51), (.string x1), (.string x2), (.int .u64 x3)].toArray w (fun e w => ∃ (r_9 : Sl) (r_10 : Int), e = .returned (.tuple [(Sl.v r_9), (.int .i64 r_10)].toArray) ∧ (opE Try.prog T_api_Versions.v (Instr.loadAt 25 (.pointer x9)) w (fun x59 w => Cl Try.prog 22 [(T_api_Versions.v x59), (.string x1)].toArray w (fun e w => ∃ (r_11 : Int) (r_12 : Int), e = .returned (.tuple [(.int .u64 r_11), (.int .i64 r_12)].toArray) ∧ (opE Try.prog T_api_Versions.v (Instr.loadAt 25 (.pointer x4)) w (fun x65 w => Cl Try.prog 23 [(T_api_Versions.v x65), (.string x1)].toArray w (fun e w => ∃ (r_13 : Int) (r_14 : Int), e = .returned (.tuple [(.int .u64 r_13), (.int .i64 r_14)].toArray) ∧ (∃ (r_15 : Bool), (∀ w', Bel w w' → Cl Try.prog 15 [].toArray w' (fun e w'' => e = .returned (.bool r_15) ∧ Bel w' w'')) ∧ ((r_15 = true → (opB Try.prog T_api_Versions.v (Instr.loadAt 25 (.pointer x9)) w (fun x72 => ∃ (r_18 : Int), (∀ w', Bel w w' → Cl Try.prog 17 [(T_api_Versions.v x72)].toArray w' (fun e w'' => e = .returned (.int .i64 r_18) ∧ Bel w' w'')) ∧ (opB Try.prog T_api_Versions.v (Instr.loadAt 25 (.pointer x4)) w (fun x74 => ∃ (r_19 : Int), (∀ w', Bel w w' → Cl Try.prog 24 [(T_api_Versions.v x74)].toArray w' (fun e w'' => e = .returned (.int .i64 r_19) ∧ Bel w' w'')) ∧ (V_ladinglaw09_MvccAsks_r1 Ret x4 x9 r_1 r_2 r_3 r_4 r_5 r_6 r_7 r_8 r_9 r_10 r_11 r_12 r_13 r_14 (decide (r_18 = r_19)) w)))))) ∧ (r_15 = false → (V_ladinglaw09_MvccAsks_r1 Ret x4 x9 r_1 r_2 r_3 r_4 r_5 r_6 r_7 r_8 r_9 r_10 r_11 r_12 r_13 r_14 false w)))))))))))))))))))))))))))
set_option maxRecDepth 100000 in
theorem L1_ladinglaw09_MvccAsks (x0 : T_api_Versions) (x1 : ByteArray) (x2 : ByteArray) (x3 : Int) (w : World) (Ret : Bool → World → Prop) (H : V_ladinglaw09_MvccAsks x0 x1 x2 x3 w Ret) : Cl Try.prog 7 [(T_api_Versions.v x0), (.string x1), (.string x2), (.int .u64 x3)].toArray w (fun e w' => ∃ (r0 : Bool), e = .returned (.bool r0) ∧ Ret r0 w') := by
  unfold V_ladinglaw09_MvccAsks at H
  refine C.enter 118 (zipE 0 [(T_api_Versions.v x0), (.string x1), (.string x2), (.int .u64 x3)]) Try.func7 rfl rfl (by rfl) rfl ?_
  intro a hE
  replace hE : Sat [] 118 [(0, (T_api_Versions.v x0)), (1, (.string x1)), (2, (.string x2)), (3, (.int .u64 x3))] a := hE
  refine C.seq ?_
  refine C.region ?_
  refine hE.op (X.box hE rfl) H fun x4 w a H hE => ?_
  refine hE.pur (X.assign hE rfl) fun a hE => ?_
  refine C.nil (tn ?_)
  refine C.seq ?_
  refine C.region ?_
  refine hE.op (X.load hE rfl) H fun x24 w a H hE => ?_
  refine hE.call (X.callF hE ent10 rfl rfl) H fun e w H => ?_
  obtain ⟨r, rfl, H⟩ := H
  refine ⟨_, rfl, fun a hE => ?_⟩
  refine hE.op (X.alloc) H fun x9 w a H hE => ?_
  refine hE.opu (X.store hE rfl rfl) H fun w a H hE => ?_
  refine C.nil (tn ?_)
  refine C.seq ?_
  refine C.region ?_
  refine hE.op (X.load hE rfl) H fun x27 w a H hE => ?_
  refine hE.pur (X.move hE rfl) fun a hE => ?_
  refine hE.pur (X.move hE rfl) fun a hE => ?_
  refine hE.call (X.callF hE ent18 rfl rfl) H fun e w H => ?_
  obtain ⟨r_1, r_2, r_3, rfl, H⟩ := H
  refine ⟨_, rfl, fun a hE => ?_⟩
  refine hE.pur (X.move hE rfl) fun a hE => ?_
  refine hE.pur (X.extract hE rfl rfl) fun a hE => ?_
  refine hE.pur (X.extract hE rfl rfl) fun a hE => ?_
  refine hE.pur (X.extract hE rfl rfl) fun a hE => ?_
  refine hE.pur (X.assign hE rfl) fun a hE => ?_
  refine hE.pur (X.assign hE rfl) fun a hE => ?_
  refine hE.pur (X.assign hE rfl) fun a hE => ?_
  refine C.nil (tn ?_)
  refine C.seq ?_
  refine C.region ?_
  refine hE.op (X.load hE rfl) H fun x35 w a H hE => ?_
  refine hE.pur (X.move hE rfl) fun a hE => ?_
  refine hE.pur (X.move hE rfl) fun a hE => ?_
  refine hE.call (X.callF hE ent20 rfl rfl) H fun e w H => ?_
  obtain ⟨r_4, r_5, r_6, rfl, H⟩ := H
  refine ⟨_, rfl, fun a hE => ?_⟩
  refine hE.pur (X.move hE rfl) fun a hE => ?_
  refine hE.pur (X.extract hE rfl rfl) fun a hE => ?_
  refine hE.pur (X.extract hE rfl rfl) fun a hE => ?_
  refine hE.pur (X.extract hE rfl rfl) fun a hE => ?_
  refine hE.pur (X.assign hE rfl) fun a hE => ?_
  refine hE.pur (X.assign hE rfl) fun a hE => ?_
  refine hE.pur (X.assign hE rfl) fun a hE => ?_
  refine C.nil (tn ?_)
  refine C.seq ?_
  refine C.region ?_
  refine hE.op (X.load hE rfl) H fun x43 w a H hE => ?_
  refine hE.pur (X.move hE rfl) fun a hE => ?_
  refine hE.pur (X.move hE rfl) fun a hE => ?_
  refine hE.pur (X.move hE rfl) fun a hE => ?_
  refine hE.call (X.callF hE ent19 rfl rfl) H fun e w H => ?_
  obtain ⟨r_7, r_8, rfl, H⟩ := H
  refine ⟨_, rfl, fun a hE => ?_⟩
  refine hE.pur (X.move hE rfl) fun a hE => ?_
  refine hE.pur (X.extract hE rfl rfl) fun a hE => ?_
  refine hE.pur (X.extract hE rfl rfl) fun a hE => ?_
  refine hE.pur (X.assign hE rfl) fun a hE => ?_
  refine hE.pur (X.assign hE rfl) fun a hE => ?_
  refine C.nil (tn ?_)
  refine C.seq ?_
  refine C.region ?_
  refine hE.op (X.load hE rfl) H fun x51 w a H hE => ?_
  refine hE.pur (X.move hE rfl) fun a hE => ?_
  refine hE.pur (X.move hE rfl) fun a hE => ?_
  refine hE.pur (X.move hE rfl) fun a hE => ?_
  refine hE.call (X.callF hE ent21 rfl rfl) H fun e w H => ?_
  obtain ⟨r_9, r_10, rfl, H⟩ := H
  refine ⟨_, rfl, fun a hE => ?_⟩
  refine hE.pur (X.move hE rfl) fun a hE => ?_
  refine hE.pur (X.extract hE rfl rfl) fun a hE => ?_
  refine hE.pur (X.extract hE rfl rfl) fun a hE => ?_
  refine hE.pur (X.assign hE rfl) fun a hE => ?_
  refine hE.pur (X.assign hE rfl) fun a hE => ?_
  refine C.nil (tn ?_)
  refine C.seq ?_
  refine C.region ?_
  refine hE.op (X.load hE rfl) H fun x59 w a H hE => ?_
  refine hE.pur (X.move hE rfl) fun a hE => ?_
  refine hE.call (X.callF hE ent22 rfl rfl) H fun e w H => ?_
  obtain ⟨r_11, r_12, rfl, H⟩ := H
  refine ⟨_, rfl, fun a hE => ?_⟩
  refine hE.pur (X.move hE rfl) fun a hE => ?_
  refine hE.pur (X.extract hE rfl rfl) fun a hE => ?_
  refine hE.pur (X.extract hE rfl rfl) fun a hE => ?_
  refine hE.pur (X.assign hE rfl) fun a hE => ?_
  refine hE.pur (X.assign hE rfl) fun a hE => ?_
  refine C.nil (tn ?_)
  refine C.seq ?_
  refine C.region ?_
  refine hE.op (X.load hE rfl) H fun x65 w a H hE => ?_
  refine hE.pur (X.move hE rfl) fun a hE => ?_
  refine hE.call (X.callF hE ent23 rfl rfl) H fun e w H => ?_
  obtain ⟨r_13, r_14, rfl, H⟩ := H
  refine ⟨_, rfl, fun a hE => ?_⟩
  refine hE.pur (X.move hE rfl) fun a hE => ?_
  refine hE.pur (X.extract hE rfl rfl) fun a hE => ?_
  refine hE.pur (X.extract hE rfl rfl) fun a hE => ?_
  refine hE.pur (X.assign hE rfl) fun a hE => ?_
  refine hE.pur (X.assign hE rfl) fun a hE => ?_
  refine C.nil (tn ?_)
  refine C.seq ?_
  refine C.draw (by kernel_rfl) (by kernel_rfl) ?_
  obtain ⟨r_15, hc, H⟩ := H
  refine hE.qcall (fun w' => X.callF hE ent15 rfl rfl) hc fun a hE => ?_
  refine hE.qpur (X.move hE rfl) fun a hE => ?_
  refine WQ.join (ds := []) (N := 118) (σ := Bool) (fun s => [(77, (.bool s)), (4, (.pointer x4)), (9, (.pointer x9)), (10, (.string r_1)), (11, (.bool r_2)), (12, (.int .i64 r_3)), (13, (.string r_4)), (14, (.bool r_5)), (15, (.int .i64 r_6)), (16, (Sl.v r_7)), (17, (.int .i64 r_8)), (18, (Sl.v r_9)), (19, (.int .i64 r_10)), (20, (.int .u64 r_11)), (21, (.int .i64 r_12)), (22, (.int .u64 r_13)), (23, (.int .i64 r_14))]) (fun s => V_ladinglaw09_MvccAsks_r1 Ret x4 x9 r_1 r_2 r_3 r_4 r_5 r_6 r_7 r_8 r_9 r_10 r_11 r_12 r_13 r_14 s w) 6 ?_ (fun hr1 => ?_)
  · intro x77 a H hE
    try dsimp only at H hE
    unfold V_ladinglaw09_MvccAsks_r1 at H
    refine hE.qpur (X.move hE rfl) fun a hE => ?_
    refine WQ.join (ds := []) (N := 118) (σ := Bool) (fun s => [(82, (.bool s)), (4, (.pointer x4)), (9, (.pointer x9)), (11, (.bool r_2)), (12, (.int .i64 r_3)), (14, (.bool r_5)), (15, (.int .i64 r_6)), (16, (Sl.v r_7)), (17, (.int .i64 r_8)), (18, (Sl.v r_9)), (19, (.int .i64 r_10)), (20, (.int .u64 r_11)), (21, (.int .i64 r_12)), (22, (.int .u64 r_13)), (23, (.int .i64 r_14))]) (fun s => V_ladinglaw09_MvccAsks_r2 Ret x4 x9 r_2 r_3 r_5 r_6 r_7 r_8 r_9 r_10 r_11 r_12 r_13 r_14 s w) 4 ?_ (fun hr2 => ?_)
    · intro x82 a H hE
      try dsimp only at H hE
      unfold V_ladinglaw09_MvccAsks_r2 at H
      refine hE.qpur (X.move hE rfl) fun a hE => ?_
      refine WQ.join (ds := []) (N := 118) (σ := Bool) (fun s => [(87, (.bool s)), (4, (.pointer x4)), (9, (.pointer x9)), (12, (.int .i64 r_3)), (15, (.int .i64 r_6)), (16, (Sl.v r_7)), (17, (.int .i64 r_8)), (18, (Sl.v r_9)), (19, (.int .i64 r_10)), (20, (.int .u64 r_11)), (21, (.int .i64 r_12)), (22, (.int .u64 r_13)), (23, (.int .i64 r_14))]) (fun s => V_ladinglaw09_MvccAsks_r3 Ret x4 x9 r_3 r_6 r_7 r_8 r_9 r_10 r_11 r_12 r_13 r_14 s w) 4 ?_ (fun hr3 => ?_)
      · intro x87 a H hE
        try dsimp only at H hE
        unfold V_ladinglaw09_MvccAsks_r3 at H
        refine hE.qpur (X.move hE rfl) fun a hE => ?_
        refine WQ.join (ds := []) (N := 118) (σ := Bool) (fun s => [(92, (.bool s)), (4, (.pointer x4)), (9, (.pointer x9)), (16, (Sl.v r_7)), (17, (.int .i64 r_8)), (18, (Sl.v r_9)), (19, (.int .i64 r_10)), (20, (.int .u64 r_11)), (21, (.int .i64 r_12)), (22, (.int .u64 r_13)), (23, (.int .i64 r_14))]) (fun s => V_ladinglaw09_MvccAsks_r4 Ret x4 x9 r_7 r_8 r_9 r_10 r_11 r_12 r_13 r_14 s w) 4 ?_ (fun hr4 => ?_)
        · intro x92 a H hE
          try dsimp only at H hE
          unfold V_ladinglaw09_MvccAsks_r4 at H
          refine hE.qpur (X.move hE rfl) fun a hE => ?_
          refine WQ.join (ds := []) (N := 118) (σ := Bool) (fun s => [(97, (.bool s)), (4, (.pointer x4)), (9, (.pointer x9)), (17, (.int .i64 r_8)), (19, (.int .i64 r_10)), (20, (.int .u64 r_11)), (21, (.int .i64 r_12)), (22, (.int .u64 r_13)), (23, (.int .i64 r_14))]) (fun s => V_ladinglaw09_MvccAsks_r5 Ret x4 x9 r_8 r_10 r_11 r_12 r_13 r_14 s w) 4 ?_ (fun hr5 => ?_)
          · intro x97 a H hE
            try dsimp only at H hE
            unfold V_ladinglaw09_MvccAsks_r5 at H
            refine hE.qpur (X.move hE rfl) fun a hE => ?_
            refine WQ.join (ds := []) (N := 118) (σ := Bool) (fun s => [(102, (.bool s)), (4, (.pointer x4)), (9, (.pointer x9)), (20, (.int .u64 r_11)), (21, (.int .i64 r_12)), (22, (.int .u64 r_13)), (23, (.int .i64 r_14))]) (fun s => V_ladinglaw09_MvccAsks_r6 Ret x4 x9 r_11 r_12 r_13 r_14 s w) 4 ?_ (fun hr6 => ?_)
            · intro x102 a H hE
              try dsimp only at H hE
              unfold V_ladinglaw09_MvccAsks_r6 at H
              refine hE.qpur (X.move hE rfl) fun a hE => ?_
              refine WQ.join (ds := []) (N := 118) (σ := Bool) (fun s => [(107, (.bool s)), (4, (.pointer x4)), (9, (.pointer x9)), (21, (.int .i64 r_12)), (23, (.int .i64 r_14))]) (fun s => V_ladinglaw09_MvccAsks_r7 Ret x4 x9 r_12 r_14 s w) 4 ?_ (fun hr7 => ?_)
              · intro x107 a H hE
                try dsimp only at H hE
                unfold V_ladinglaw09_MvccAsks_r7 at H
                refine hE.qpur (X.move hE rfl) fun a hE => ?_
                refine WQ.join (ds := []) (N := 118) (σ := Bool) (fun s => [(112, (.bool s)), (4, (.pointer x4)), (9, (.pointer x9))]) (fun s => V_ladinglaw09_MvccAsks_r8 Ret x4 x9 s w) 4 ?_ (fun hr8 => ?_)
                · intro x112 a H hE
                  try dsimp only at H hE
                  unfold V_ladinglaw09_MvccAsks_r8 at H
                  refine hE.qpur (X.move hE rfl) fun a hE => ?_
                  refine WQ.join (ds := []) (N := 118) (σ := Bool) (fun s => [(117, (.bool s))]) (fun s => V_ladinglaw09_MvccAsks_r9 Ret s w) 4 ?_ (fun hr9 => ?_)
                  · intro x117 a H hE
                    try dsimp only at H hE
                    unfold V_ladinglaw09_MvccAsks_r9 at H
                    refine hE.qpur (X.assign hE rfl) fun a hE => ?_
                    refine C.qnil (fun w hB => ?_)
                    replace H := H w hB
                    refine (tn ?_)
                    exact C.ret (C.ret1 hE rfl rfl ⟨_, rfl, H⟩)
                  · rcases Bool.eq_false_or_eq_true (x112) with hbr9 | hbr9
                    · replace H := H.1 hbr9
                      replace hE := hE.bool (b := true) (t := 113) rfl (hbr9)
                      refine hE.qon (by rfl) (by rfl) ?_
                      refine hE.qop (X.load hE rfl) H fun x114 a H hE => ?_
                      refine hE.qon (by rfl) (by rfl) ?_
                      refine hE.qop (X.load hE rfl) H fun x115 a H hE => ?_
                      refine hE.qon (by rfl) (by rfl) ?_
                      obtain ⟨r_16, hc, H⟩ := H
                      refine hE.qcall (fun w' => X.callF hE ent16 rfl rfl) hc fun a hE => ?_
                      refine hE.qpur (X.pickT hE rfl rfl) fun a hE => ?_
                      exact hr9 r_16 _ H (hE.weak ⟨rfl, trivial⟩)
                    · replace H := H.2 hbr9
                      replace hE := hE.bool (b := false) (t := 113) rfl (hbr9)
                      refine hE.qoff (by rfl) (by rfl) (by decide) (fun a hE => ?_)
                      refine hE.qoff (by rfl) (by rfl) (by decide) (fun a hE => ?_)
                      refine hE.qoff (by rfl) (by rfl) (by decide) (fun a hE => ?_)
                      refine hE.qpur (X.pickF hE rfl rfl) fun a hE => ?_
                      exact hr9 false _ H (hE.weak ⟨rfl, trivial⟩)
                · rcases Bool.eq_false_or_eq_true (x107) with hbr8 | hbr8
                  · replace H := H.1 hbr8
                    replace hE := hE.bool (b := true) (t := 108) rfl (hbr8)
                    refine hE.qon (by rfl) (by rfl) ?_
                    refine hE.qpur (X.move hE rfl) fun a hE => ?_
                    refine hE.qon (by rfl) (by rfl) ?_
                    refine hE.qpur (X.move hE rfl) fun a hE => ?_
                    refine hE.qon (by rfl) (by rfl) ?_
                    refine hE.qpur (X.eqI hE rfl rfl) fun a hE => ?_
                    refine hE.qpur (X.pickT hE rfl rfl) fun a hE => ?_
                    exact hr8 (decide (r_12 = r_14)) _ H (hE.weak ⟨rfl, rfl, rfl, trivial⟩)
                  · replace H := H.2 hbr8
                    replace hE := hE.bool (b := false) (t := 108) rfl (hbr8)
                    refine hE.qoff (by rfl) (by rfl) (by decide) (fun a hE => ?_)
                    refine hE.qoff (by rfl) (by rfl) (by decide) (fun a hE => ?_)
                    refine hE.qoff (by rfl) (by rfl) (by decide) (fun a hE => ?_)
                    refine hE.qpur (X.pickF hE rfl rfl) fun a hE => ?_
                    exact hr8 false _ H (hE.weak ⟨rfl, rfl, rfl, trivial⟩)
              · rcases Bool.eq_false_or_eq_true (x102) with hbr7 | hbr7
                · replace H := H.1 hbr7
                  replace hE := hE.bool (b := true) (t := 103) rfl (hbr7)
                  refine hE.qon (by rfl) (by rfl) ?_
                  refine hE.qpur (X.move hE rfl) fun a hE => ?_
                  refine hE.qon (by rfl) (by rfl) ?_
                  refine hE.qpur (X.move hE rfl) fun a hE => ?_
                  refine hE.qon (by rfl) (by rfl) ?_
                  refine hE.qpur (X.eqI hE rfl rfl) fun a hE => ?_
                  refine hE.qpur (X.pickT hE rfl rfl) fun a hE => ?_
                  exact hr7 (decide (r_11 = r_13)) _ H (hE.weak ⟨rfl, rfl, rfl, rfl, rfl, trivial⟩)
                · replace H := H.2 hbr7
                  replace hE := hE.bool (b := false) (t := 103) rfl (hbr7)
                  refine hE.qoff (by rfl) (by rfl) (by decide) (fun a hE => ?_)
                  refine hE.qoff (by rfl) (by rfl) (by decide) (fun a hE => ?_)
                  refine hE.qoff (by rfl) (by rfl) (by decide) (fun a hE => ?_)
                  refine hE.qpur (X.pickF hE rfl rfl) fun a hE => ?_
                  exact hr7 false _ H (hE.weak ⟨rfl, rfl, rfl, rfl, rfl, trivial⟩)
            · rcases Bool.eq_false_or_eq_true (x97) with hbr6 | hbr6
              · replace H := H.1 hbr6
                replace hE := hE.bool (b := true) (t := 98) rfl (hbr6)
                refine hE.qon (by rfl) (by rfl) ?_
                refine hE.qpur (X.move hE rfl) fun a hE => ?_
                refine hE.qon (by rfl) (by rfl) ?_
                refine hE.qpur (X.move hE rfl) fun a hE => ?_
                refine hE.qon (by rfl) (by rfl) ?_
                refine hE.qpur (X.eqI hE rfl rfl) fun a hE => ?_
                refine hE.qpur (X.pickT hE rfl rfl) fun a hE => ?_
                exact hr6 (decide (r_8 = r_10)) _ H (hE.weak ⟨rfl, rfl, rfl, rfl, rfl, rfl, rfl, trivial⟩)
              · replace H := H.2 hbr6
                replace hE := hE.bool (b := false) (t := 98) rfl (hbr6)
                refine hE.qoff (by rfl) (by rfl) (by decide) (fun a hE => ?_)
                refine hE.qoff (by rfl) (by rfl) (by decide) (fun a hE => ?_)
                refine hE.qoff (by rfl) (by rfl) (by decide) (fun a hE => ?_)
                refine hE.qpur (X.pickF hE rfl rfl) fun a hE => ?_
                exact hr6 false _ H (hE.weak ⟨rfl, rfl, rfl, rfl, rfl, rfl, rfl, trivial⟩)
          · rcases Bool.eq_false_or_eq_true (x92) with hbr5 | hbr5
            · replace H := H.1 hbr5
              replace hE := hE.bool (b := true) (t := 93) rfl (hbr5)
              refine hE.qon (by rfl) (by rfl) ?_
              refine hE.qpur (X.move hE rfl) fun a hE => ?_
              refine hE.qon (by rfl) (by rfl) ?_
              refine hE.qpur (X.move hE rfl) fun a hE => ?_
              refine hE.qon (by rfl) (by rfl) ?_
              obtain ⟨r_17, hc, H⟩ := H
              refine hE.qcall (fun w' => X.callF hE ent25 rfl rfl) hc fun a hE => ?_
              refine hE.qpur (X.pickT hE rfl rfl) fun a hE => ?_
              exact hr5 r_17 _ H (hE.weak ⟨rfl, rfl, rfl, rfl, rfl, rfl, rfl, rfl, rfl, trivial⟩)
            · replace H := H.2 hbr5
              replace hE := hE.bool (b := false) (t := 93) rfl (hbr5)
              refine hE.qoff (by rfl) (by rfl) (by decide) (fun a hE => ?_)
              refine hE.qoff (by rfl) (by rfl) (by decide) (fun a hE => ?_)
              refine hE.qoff (by rfl) (by rfl) (by decide) (fun a hE => ?_)
              refine hE.qpur (X.pickF hE rfl rfl) fun a hE => ?_
              exact hr5 false _ H (hE.weak ⟨rfl, rfl, rfl, rfl, rfl, rfl, rfl, rfl, rfl, trivial⟩)
        · rcases Bool.eq_false_or_eq_true (x87) with hbr4 | hbr4
          · replace H := H.1 hbr4
            replace hE := hE.bool (b := true) (t := 88) rfl (hbr4)
            refine hE.qon (by rfl) (by rfl) ?_
            refine hE.qpur (X.move hE rfl) fun a hE => ?_
            refine hE.qon (by rfl) (by rfl) ?_
            refine hE.qpur (X.move hE rfl) fun a hE => ?_
            refine hE.qon (by rfl) (by rfl) ?_
            refine hE.qpur (X.eqI hE rfl rfl) fun a hE => ?_
            refine hE.qpur (X.pickT hE rfl rfl) fun a hE => ?_
            exact hr4 (decide (r_3 = r_6)) _ H (hE.weak ⟨rfl, rfl, rfl, rfl, rfl, rfl, rfl, rfl, rfl, rfl, rfl, trivial⟩)
          · replace H := H.2 hbr4
            replace hE := hE.bool (b := false) (t := 88) rfl (hbr4)
            refine hE.qoff (by rfl) (by rfl) (by decide) (fun a hE => ?_)
            refine hE.qoff (by rfl) (by rfl) (by decide) (fun a hE => ?_)
            refine hE.qoff (by rfl) (by rfl) (by decide) (fun a hE => ?_)
            refine hE.qpur (X.pickF hE rfl rfl) fun a hE => ?_
            exact hr4 false _ H (hE.weak ⟨rfl, rfl, rfl, rfl, rfl, rfl, rfl, rfl, rfl, rfl, rfl, trivial⟩)
      · rcases Bool.eq_false_or_eq_true (x82) with hbr3 | hbr3
        · replace H := H.1 hbr3
          replace hE := hE.bool (b := true) (t := 83) rfl (hbr3)
          refine hE.qon (by rfl) (by rfl) ?_
          refine hE.qpur (X.move hE rfl) fun a hE => ?_
          refine hE.qon (by rfl) (by rfl) ?_
          refine hE.qpur (X.move hE rfl) fun a hE => ?_
          refine hE.qon (by rfl) (by rfl) ?_
          refine hE.qop (X.bin hE rfl rfl) H fun x86 a H hE => ?_
          refine hE.qpur (X.pickT hE rfl rfl) fun a hE => ?_
          exact hr3 x86 _ H (hE.weak ⟨rfl, rfl, rfl, rfl, rfl, rfl, rfl, rfl, rfl, rfl, rfl, rfl, rfl, trivial⟩)
        · replace H := H.2 hbr3
          replace hE := hE.bool (b := false) (t := 83) rfl (hbr3)
          refine hE.qoff (by rfl) (by rfl) (by decide) (fun a hE => ?_)
          refine hE.qoff (by rfl) (by rfl) (by decide) (fun a hE => ?_)
          refine hE.qoff (by rfl) (by rfl) (by decide) (fun a hE => ?_)
          refine hE.qpur (X.pickF hE rfl rfl) fun a hE => ?_
          exact hr3 false _ H (hE.weak ⟨rfl, rfl, rfl, rfl, rfl, rfl, rfl, rfl, rfl, rfl, rfl, rfl, rfl, trivial⟩)
    · rcases Bool.eq_false_or_eq_true (x77) with hbr2 | hbr2
      · replace H := H.1 hbr2
        replace hE := hE.bool (b := true) (t := 78) rfl (hbr2)
        refine hE.qon (by rfl) (by rfl) ?_
        refine hE.qpur (X.move hE rfl) fun a hE => ?_
        refine hE.qon (by rfl) (by rfl) ?_
        refine hE.qpur (X.move hE rfl) fun a hE => ?_
        refine hE.qon (by rfl) (by rfl) ?_
        refine hE.qpur (X.eqS hE rfl rfl) fun a hE => ?_
        refine hE.qpur (X.pickT hE rfl rfl) fun a hE => ?_
        exact hr2 (decide (r_1 = r_4)) _ H (hE.weak ⟨rfl, rfl, rfl, rfl, rfl, rfl, rfl, rfl, rfl, rfl, rfl, rfl, rfl, rfl, rfl, trivial⟩)
      · replace H := H.2 hbr2
        replace hE := hE.bool (b := false) (t := 78) rfl (hbr2)
        refine hE.qoff (by rfl) (by rfl) (by decide) (fun a hE => ?_)
        refine hE.qoff (by rfl) (by rfl) (by decide) (fun a hE => ?_)
        refine hE.qoff (by rfl) (by rfl) (by decide) (fun a hE => ?_)
        refine hE.qpur (X.pickF hE rfl rfl) fun a hE => ?_
        exact hr2 false _ H (hE.weak ⟨rfl, rfl, rfl, rfl, rfl, rfl, rfl, rfl, rfl, rfl, rfl, rfl, rfl, rfl, rfl, trivial⟩)
  · rcases Bool.eq_false_or_eq_true (r_15) with hbr1 | hbr1
    · replace H := H.1 hbr1
      replace hE := hE.bool (b := true) (t := 71) rfl (hbr1)
      refine hE.qon (by rfl) (by rfl) ?_
      refine hE.qop (X.load hE rfl) H fun x72 a H hE => ?_
      refine hE.qon (by rfl) (by rfl) ?_
      obtain ⟨r_18, hc, H⟩ := H
      refine hE.qcall (fun w' => X.callF hE ent17 rfl rfl) hc fun a hE => ?_
      refine hE.qon (by rfl) (by rfl) ?_
      refine hE.qop (X.load hE rfl) H fun x74 a H hE => ?_
      refine hE.qon (by rfl) (by rfl) ?_
      obtain ⟨r_19, hc, H⟩ := H
      refine hE.qcall (fun w' => X.callF hE ent24 rfl rfl) hc fun a hE => ?_
      refine hE.qon (by rfl) (by rfl) ?_
      refine hE.qpur (X.eqI hE rfl rfl) fun a hE => ?_
      refine hE.qpur (X.pickT hE rfl rfl) fun a hE => ?_
      exact hr1 (decide (r_18 = r_19)) _ H (hE.weak ⟨rfl, rfl, rfl, rfl, rfl, rfl, rfl, rfl, rfl, rfl, rfl, rfl, rfl, rfl, rfl, rfl, rfl, trivial⟩)
    · replace H := H.2 hbr1
      replace hE := hE.bool (b := false) (t := 71) rfl (hbr1)
      refine hE.qoff (by rfl) (by rfl) (by decide) (fun a hE => ?_)
      refine hE.qoff (by rfl) (by rfl) (by decide) (fun a hE => ?_)
      refine hE.qoff (by rfl) (by rfl) (by decide) (fun a hE => ?_)
      refine hE.qoff (by rfl) (by rfl) (by decide) (fun a hE => ?_)
      refine hE.qoff (by rfl) (by rfl) (by decide) (fun a hE => ?_)
      refine hE.qpur (X.pickF hE rfl rfl) fun a hE => ?_
      exact hr1 false _ H (hE.weak ⟨rfl, rfl, rfl, rfl, rfl, rfl, rfl, rfl, rfl, rfl, rfl, rfl, rfl, rfl, rfl, rfl, rfl, trivial⟩)
end Go.Proofs.Ytealcoghiaeiiaa.VG
