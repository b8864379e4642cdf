/- Verification conditions, by program (gen.py), of functions of the loaded program, each with the proof that it gives the call; no condition. -/
import Derived.Test.YtealcoghiaeiiaaVS
set_option linter.unusedVariables false
set_option linter.unusedSimpArgs false
namespace Go.Proofs.Ytealcoghiaeiiaa.VG
open Go.VB Go.Proofs

/-! ### lading ladinglaw09.MvccPast: function 8 -/
def V_ladinglaw09_MvccPast_r2 (Ret : Bool → World → Prop) (x78 : Bool) (w : World) : Prop :=
  Ret x78 w
def V_ladinglaw09_MvccPast_r1 (Ret : Bool → World → Prop) (r_6 : Int) (r_9 : Int) (x73 : Bool) (w : World) : Prop :=
  (x73 = true → (V_ladinglaw09_MvccPast_r2 Ret (decide (r_6 = r_9)) w)) ∧ (x73 = false → (V_ladinglaw09_MvccPast_r2 Ret false w))
def V_ladinglaw09_MvccPast_r6 (Ret : Bool → World → Prop) (x131 : Bool) (w : World) : Prop :=
  Ret x131 w
def V_ladinglaw09_MvccPast_r5 (x2 : Int) (Ret : Bool → World → Prop) (r_16 : Int) (x126 : Bool) (w : World) : Prop :=
  (x126 = true → (V_ladinglaw09_MvccPast_r6 Ret (decide (r_16 < x2)) w)) ∧ (x126 = false → (V_ladinglaw09_MvccPast_r6 Ret false w))
def V_ladinglaw09_MvccPast_r8 (Ret : Bool → World → Prop) (x151 : Bool) (w : World) : Prop :=
  Ret x151 w
def V_ladinglaw09_MvccPast_r7 (x2 : Int) (Ret : Bool → World → Prop) (r_16 : Int) (x146 : Bool) (w : World) : Prop :=
  (x146 = true → (V_ladinglaw09_MvccPast_r8 Ret (decide (r_16 = x2)) w)) ∧ (x146 = false → (V_ladinglaw09_MvccPast_r8 Ret false w))
def V_ladinglaw09_MvccPast_r9 (x2 : Int) (Ret : Bool → World → Prop) (r_16 : Int) (x145 : Bool) (w : World) : Prop :=
  V_ladinglaw09_MvccPast_r7 x2 Ret r_16 x145 w
def V_ladinglaw09_MvccPast_r4 (x2 : Int) (Ret : Bool → World → Prop) (r_10 : ByteArray) (r_11 : Bool) (r_13 : ByteArray) (r_14 : Bool) (r_16 : Int) (r_19 : Bool) (x27 : Option Addr) (x116 : Bool) (w : World) : Prop :=
  (x116 = true → (Ret false w)) ∧ (x116 = false → (((!r_19) = true → (((r_10 = r_13) → (opE Try.prog Value.bool (do eqGuard .eql 4 (.tmp 123) (.tmp 124) (.bool r_11) (.bool r_14); binOp .eql 4 (.bool r_11) (.bool r_14)) w (fun x125 w => V_ladinglaw09_MvccPast_r5 x2 Ret r_16 x125 w))) ∧ (¬ (r_10 = r_13) → (V_ladinglaw09_MvccPast_r5 x2 Ret r_16 false w)))) ∧ ((!r_19) = false → (opE Try.prog Value.pointer (Instr.fieldAt 52 (.pointer x27) 2) w (fun x133 w => opE Try.prog Value.bool (Instr.loadAt 4 (.pointer x133)) w (fun x134 w => opE Try.prog Value.bool (do eqGuard .eql 4 (.tmp 132) (.tmp 135) (.bool r_14) (.bool (!x134)); binOp .eql 4 (.bool r_14) (.bool (!x134))) w (fun x136 w => (x136 = true → (opE Try.prog Value.pointer (Instr.fieldAt 52 (.pointer x27) 2) w (fun x138 w => opE Try.prog Value.bool (Instr.loadAt 4 (.pointer x138)) w (fun x139 w => (x139 = true → (V_ladinglaw09_MvccPast_r9 x2 Ret r_16 true w)) ∧ (x139 = false → (opE Try.prog Value.pointer (Instr.fieldAt 52 (.pointer x27) 1) w (fun x142 w => opE Try.prog Value.string (Instr.loadAt 9 (.pointer x142)) w (fun x143 w => V_ladinglaw09_MvccPast_r9 x2 Ret r_16 (decide (r_13 = x143)) w)))))))) ∧ (x136 = false → (V_ladinglaw09_MvccPast_r7 x2 Ret r_16 false w)))))))))
def V_ladinglaw09_MvccPast_r3 (x2 : Int) (Ret : Bool → World → Prop) (r_10 : ByteArray) (r_11 : Bool) (r_13 : ByteArray) (r_14 : Bool) (r_16 : Int) (r_17 : Int) (r_19 : Bool) (x27 : Option Addr) (x112 : Bool) (w : World) : Prop :=
  (x112 = true → (V_ladinglaw09_MvccPast_r4 x2 Ret r_10 r_11 r_13 r_14 r_16 r_19 x27 true w)) ∧ (x112 = false → (V_ladinglaw09_MvccPast_r4 x2 Ret r_10 r_11 r_13 r_14 r_16 r_19 x27 (decide (r_17 ≠ 0)) w))
def V_ladinglaw09_MvccPast (x0 : T_api_Versions) (x1 : Sl) (x2 : Int) (x3 : Int) (x4 : ByteArray) (w : World) (Ret : Bool → World → Prop) : Prop :=
  opE Try.prog Value.pointer (Instr.box 25 (T_api_Versions.v x0)) w (fun x5 w => Cl Try.prog 15 [].toArray w (fun e w => ∃ (r : Bool), e = .returned (.bool r) ∧ (((!r) = true → (Ret false w)) ∧ ((!r) = false → (opE Try.prog T_api_Versions.v (Instr.loadAt 25 (.pointer x5)) w (fun x32 w => Cl Try.prog 11 [(T_api_Versions.v x32), (Sl.v x1), (.int .u64 x2)].toArray w (fun e w => ∃ (r_1 : T_api_Versions) (r_2 : Int), e = .returned (.tuple [(T_api_Versions.v r_1), (.int .i64 r_2)].toArray) ∧ (opE Try.prog Value.pointer (Instr.alloc 25 true (.tuple #[])) w (fun x11 w => opU Try.prog (Instr.storeAt 25 (.pointer x11) (T_api_Versions.v r_1)) w (fun w => ((r_2 ≠ 0) → (opE Try.prog Value.pointer (Instr.fieldAt 25 (.pointer x11) 0) w (fun x40 w => opE Try.prog Sl.v (Instr.loadAt 22 (.pointer x40)) w (fun x41 w => Ret (decide ((x41.len : Int) = 0)) w)))) ∧ (¬ (r_2 ≠ 0) → (opE Try.prog T_api_Versions.v (Instr.loadAt 25 (.pointer x11)) w (fun x44 w => Cl Try.prog 17 [(T_api_Versions.v x44)].toArray w (fun e w => ∃ (r_3 : Int), e = .returned (.int .i64 r_3) ∧ (((r_3 ≠ 0) → (Ret false w)) ∧ (¬ (r_3 ≠ 0) → (((x3 < x2) → (opE Try.prog T_api_Versions.v (Instr.loadAt 25 (.pointer x5)) w (fun x51 w => Cl Try.prog 18 [(T_api_Versions.v x51), (.string x4), (.int .u64 x3)].toArray w (fun e w => ∃ (r_4 : ByteArray) (r_5 : Bool) (r_6 : Int), e = .returned (.tuple [(.string r_4), (.bool r_5), (.int .i64 r_6)].toArray) ∧ (opE Try.prog T_api_Versions.v (Instr.loadAt 25 (.pointer x11)) w (fun x59 w => Cl Try.prog 18 [(T_api_Versions.v x59), (.string x4), (.int .u64 x3)].toArray w (fun e w => ∃ (r_7 : ByteArray) (r_8 : Bool) (r_9 : Int), e = .returned (.tuple [(.string r_7), (.bool r_8), (.int .i64 r_9)].toArray) ∧ (((r_4 = r_7) → (opE Try.prog Value.bool (do eqGuard .eql 4 (.tmp 70) (.tmp 71) (.bool r_5) (.bool r_8); binOp .eql 4 (.bool r_5) (.bool r_8)) w (fun x72 w => V_ladinglaw09_MvccPast_r1 Ret r_6 r_9 x72 w))) ∧ (¬ (r_4 = r_7) → (V_ladinglaw09_MvccPast_r1 Ret r_6 r_9 false w)))))))))) ∧ (¬ (x3 < x2) → (opE Try.prog T_api_Versions.v (Instr.loadAt 25 (.pointer x5)) w (fun x80 w => Cl Try.prog 18 [(T_api_Versions.v x80), (.string x4), (.int .u64 x2)].toArray w (fun e w => ∃ (r_10 : ByteArray) (r_11 : Bool) (r_12 : Int), e = .returned (.tuple [(.string r_10), (.bool r_11), (.int .i64 r_12)].toArray) ∧ (opE Try.prog T_api_Versions.v (Instr.loadAt 25 (.pointer x11)) w (fun x88 w => Cl Try.prog 18 [(T_api_Versions.v x88), (.string x4), (.int .u64 x3)].toArray w (fun e w => ∃ (r_13 : ByteArray) (r_14 : Bool) (r_15 : Int), e = .returned (.tuple [(.string r_13), (.bool r_14), (.int .i64 r_15)].toArray) ∧ (opE Try.prog T_api_Versions.v (Instr.loadAt 25 (.pointer x11)) w (fun x96 w => Cl Try.prog 22 [(T_api_Versions.v x96), (.string x4)].toArray w (fun e w => ∃ (r_16 : Int) (r_17 : Int), e = .returned (.tuple [(.int .u64 r_16), (.int .i64 r_17)].toArray) ∧ (Cl Try.prog 26 [(Sl.v x1), (.string x4)].toArray w (fun e w => ∃ (r_18 : T_api_Write) (r_19 : Bool), e = .returned (.tuple [(T_api_Write.v r_18), (.bool r_19)].toArray) ∧ (opE Try.prog Value.pointer (Instr.alloc 52 true (.tuple #[])) w (fun x27 w => opU Try.prog (Instr.storeAt 52 (.pointer x27) (T_api_Write.v r_18)) w (fun w => ((r_12 ≠ 0) → (V_ladinglaw09_MvccPast_r3 x2 Ret r_10 r_11 r_13 r_14 r_16 r_17 r_19 x27 true w)) ∧ (¬ (r_12 ≠ 0) → (V_ladinglaw09_MvccPast_r3 x2 Ret r_10 r_11 r_13 r_14 r_16 r_17 r_19 x27 (decide (r_15 ≠ 0)) w))))))))))))))))))))))))))))))))))
set_option maxRecDepth 100000 in
theorem L1_ladinglaw09_MvccPast (x0 : T_api_Versions) (x1 : Sl) (x2 : Int) (x3 : Int) (x4 : ByteArray) (w : World) (Ret : Bool → World → Prop) (H : V_ladinglaw09_MvccPast x0 x1 x2 x3 x4 w Ret) : Cl Try.prog 8 [(T_api_Versions.v x0), (Sl.v x1), (.int .u64 x2), (.int .u64 x3), (.string x4)].toArray w (fun e w' => ∃ (r0 : Bool), e = .returned (.bool r0) ∧ Ret r0 w') := by
  unfold V_ladinglaw09_MvccPast at H
  refine C.enter 152 (zipE 0 [(T_api_Versions.v x0), (Sl.v x1), (.int .u64 x2), (.int .u64 x3), (.string x4)]) Try.func8 rfl rfl (by rfl) rfl ?_
  intro a hE
  replace hE : Sat [] 152 [(0, (T_api_Versions.v x0)), (1, (Sl.v x1)), (2, (.int .u64 x2)), (3, (.int .u64 x3)), (4, (.string x4))] a := hE
  refine C.seq ?_
  refine C.region ?_
  refine hE.op (X.box hE rfl) H fun x5 w a H hE => ?_
  refine hE.pur (X.assign hE rfl) fun a hE => ?_
  refine C.nil (tn ?_)
  refine C.seq ?_
  refine C.seq ?_
  refine C.region ?_
  refine hE.call (X.callF hE ent15 rfl rfl) H fun e w H => ?_
  obtain ⟨r, rfl, H⟩ := H
  refine ⟨_, rfl, fun a hE => ?_⟩
  refine hE.pur (X.not hE rfl) fun a hE => ?_
  refine C.nil (tn ?_)
  refine C.condB hE rfl (fun hc => ?_) (fun hc => ?_)
  · replace H := H.1 hc
    refine C.seq ?_
    refine C.region ?_
    refine hE.pur (X.assign hE rfl) fun a hE => ?_
    refine C.nil (tn ?_)
    exact C.ret (tr (C.ret1 hE rfl rfl ⟨_, rfl, H⟩))
  · replace H := H.2 hc
    refine C.skip (tn ?_)
    refine C.seq ?_
    refine C.region ?_
    refine hE.op (X.load hE rfl) H fun x32 w a H hE => ?_
    refine hE.pur (X.move hE rfl) fun a hE => ?_
    refine hE.pur (X.move hE rfl) fun a hE => ?_
    refine hE.call (X.callF hE ent11 rfl rfl) H fun e w H => ?_
    obtain ⟨r_1, r_2, rfl, H⟩ := H
    refine ⟨_, rfl, fun a hE => ?_⟩
    refine hE.pur (X.move hE rfl) fun a hE => ?_
    refine hE.pur (X.extract hE rfl rfl) fun a hE => ?_
    refine hE.pur (X.extract hE rfl rfl) fun a hE => ?_
    refine hE.op (X.alloc) H fun x11 w a H hE => ?_
    refine hE.opu (X.store hE rfl rfl) H fun w a H hE => ?_
    refine hE.pur (X.assign hE rfl) fun a hE => ?_
    refine C.nil (tn ?_)
    refine C.seq ?_
    refine C.seq ?_
    refine C.region ?_
    refine hE.pur (X.move hE rfl) fun a hE => ?_
    refine hE.pur (X.neI hE rfl rfl) fun a hE => ?_
    refine C.nil (tn ?_)
    refine C.condP hE rfl (fun hc => ?_) (fun hc => ?_)
    · replace H := H.1 hc
      refine C.seq ?_
      refine C.region ?_
      refine hE.op (X.fieldAddr hE rfl) H fun x40 w a H hE => ?_
      refine hE.op (X.load hE rfl) H fun x41 w a H hE => ?_
      refine hE.purR (fun w => X.lenL hE Try.underlying22 rfl) fun a hE => ?_
      refine hE.pur (X.eqI hE rfl rfl) fun a hE => ?_
      refine hE.pur (X.assign hE rfl) fun a hE => ?_
      refine C.nil (tn ?_)
      exact C.ret (tr (C.ret1 hE rfl rfl ⟨_, rfl, H⟩))
    · replace H := H.2 hc
      refine C.skip (tn ?_)
      refine C.seq ?_
      refine C.seq ?_
      refine C.region ?_
      refine hE.op (X.load hE rfl) H fun x44 w a H hE => ?_
      refine hE.call (X.callF hE ent17 rfl rfl) H fun e w H => ?_
      obtain ⟨r_3, rfl, H⟩ := H
      refine ⟨_, rfl, fun a hE => ?_⟩
      refine hE.pur (X.neI hE rfl rfl) fun a hE => ?_
      refine C.nil (tn ?_)
      refine C.condP hE rfl (fun hc => ?_) (fun hc => ?_)
      · replace H := H.1 hc
        refine C.seq ?_
        refine C.region ?_
        refine hE.pur (X.assign hE rfl) fun a hE => ?_
        refine C.nil (tn ?_)
        exact C.ret (tr (C.ret1 hE rfl rfl ⟨_, rfl, H⟩))
      · replace H := H.2 hc
        refine C.skip (tn ?_)
        refine C.seq ?_
        refine C.seq ?_
        refine C.region ?_
        refine hE.pur (X.move hE rfl) fun a hE => ?_
        refine hE.pur (X.move hE rfl) fun a hE => ?_
        refine hE.pur (X.ltI hE rfl rfl) fun a hE => ?_
        refine C.nil (tn ?_)
        refine C.condP hE rfl (fun hc => ?_) (fun hc => ?_)
        · replace H := H.1 hc
          refine C.seq ?_
          refine C.region ?_
          refine hE.op (X.load hE rfl) H fun x51 w a H hE => ?_
          refine hE.pur (X.move hE rfl) fun a hE => ?_
          refine hE.pur (X.move hE rfl) fun a hE => ?_
          refine hE.call (X.callF hE ent18 rfl rfl) H fun e w H => ?_
          obtain ⟨r_4, r_5, r_6, rfl, H⟩ := H
          refine ⟨_, rfl, fun a hE => ?_⟩
          refine hE.pur (X.move hE rfl) fun a hE => ?_
          refine hE.pur (X.extract hE rfl rfl) fun a hE => ?_
          refine hE.pur (X.extract hE rfl rfl) fun a hE => ?_
          refine hE.pur (X.extract hE rfl rfl) fun a hE => ?_
          refine hE.pur (X.assign hE rfl) fun a hE => ?_
          refine hE.pur (X.assign hE rfl) fun a hE => ?_
          refine hE.pur (X.assign hE rfl) fun a hE => ?_
          refine C.nil (tn ?_)
          refine C.seq ?_
          refine C.region ?_
          refine hE.op (X.load hE rfl) H fun x59 w a H hE => ?_
          refine hE.pur (X.move hE rfl) fun a hE => ?_
          refine hE.pur (X.move hE rfl) fun a hE => ?_
          refine hE.call (X.callF hE ent18 rfl rfl) H fun e w H => ?_
          obtain ⟨r_7, r_8, r_9, rfl, H⟩ := H
          refine ⟨_, rfl, fun a hE => ?_⟩
          refine hE.pur (X.move hE rfl) fun a hE => ?_
          refine hE.pur (X.extract hE rfl rfl) fun a hE => ?_
          refine hE.pur (X.extract hE rfl rfl) fun a hE => ?_
          refine hE.pur (X.extract hE rfl rfl) fun a hE => ?_
          refine hE.pur (X.assign hE rfl) fun a hE => ?_
          refine hE.pur (X.assign hE rfl) fun a hE => ?_
          refine hE.pur (X.assign hE rfl) fun a hE => ?_
          refine C.nil (tn ?_)
          refine C.seq ?_
          refine C.region ?_
          refine hE.pur (X.move hE rfl) fun a hE => ?_
          refine hE.pur (X.move hE rfl) fun a hE => ?_
          refine hE.pur (X.eqS hE rfl rfl) fun a hE => ?_
          refine hE.pur (X.move hE rfl) fun a hE => ?_
          refine WL.join (ds := []) (N := 152) (σ := Bool) (fun s => [(73, (.bool s)), (15, (.int .i64 r_6)), (18, (.int .i64 r_9))]) (fun s w => V_ladinglaw09_MvccPast_r1 Ret r_6 r_9 s w) 4 ?_ (fun hr1 => ?_)
          · intro x73 w a H hE
            try dsimp only at H hE
            unfold V_ladinglaw09_MvccPast_r1 at H
            refine hE.pur (X.move hE rfl) fun a hE => ?_
            refine WL.join (ds := []) (N := 152) (σ := Bool) (fun s => [(78, (.bool s))]) (fun s w => V_ladinglaw09_MvccPast_r2 Ret s w) 4 ?_ (fun hr2 => ?_)
            · intro x78 w a H hE
              try dsimp only at H hE
              unfold V_ladinglaw09_MvccPast_r2 at H
              refine hE.pur (X.assign hE rfl) fun a hE => ?_
              refine C.nil (tn ?_)
              exact C.ret (tr (C.ret1 hE rfl rfl ⟨_, rfl, H⟩))
            · rcases Bool.eq_false_or_eq_true (x73) with hbr2 | hbr2
              · replace H := H.1 hbr2
                replace hE := hE.bool (b := true) (t := 74) rfl (hbr2)
                refine hE.on (by rfl) (by rfl) ?_
                refine hE.pur (X.move hE rfl) fun a hE => ?_
                refine hE.on (by rfl) (by rfl) ?_
                refine hE.pur (X.move hE rfl) fun a hE => ?_
                refine hE.on (by rfl) (by rfl) ?_
                refine hE.pur (X.eqI hE rfl rfl) fun a hE => ?_
                refine hE.pur (X.pickT hE rfl rfl) fun a hE => ?_
                exact hr2 (decide (r_6 = r_9)) _ _ H (hE.weak ⟨rfl, trivial⟩)
              · replace H := H.2 hbr2
                replace hE := hE.bool (b := false) (t := 74) rfl (hbr2)
                refine hE.off (by rfl) (by rfl) (by decide) (fun a hE => ?_)
                refine hE.off (by rfl) (by rfl) (by decide) (fun a hE => ?_)
                refine hE.off (by rfl) (by rfl) (by decide) (fun a hE => ?_)
                refine hE.pur (X.pickF hE rfl rfl) fun a hE => ?_
                exact hr2 false _ _ H (hE.weak ⟨rfl, trivial⟩)
          · rcases Classical.em ((r_4 = r_7)) with hbr1 | hbr1
            · replace H := H.1 hbr1
              replace hE := hE.bool (b := true) (t := 69) rfl (decide_eq_true hbr1)
              refine hE.on (by rfl) (by rfl) ?_
              refine hE.pur (X.move hE rfl) fun a hE => ?_
              refine hE.on (by rfl) (by rfl) ?_
              refine hE.pur (X.move hE rfl) fun a hE => ?_
              refine hE.on (by rfl) (by rfl) ?_
              refine hE.op (X.bin hE rfl rfl) H fun x72 w a H hE => ?_
              refine hE.pur (X.pickT hE rfl rfl) fun a hE => ?_
              exact hr1 x72 _ _ H (hE.weak ⟨rfl, rfl, rfl, trivial⟩)
            · replace H := H.2 hbr1
              replace hE := hE.bool (b := false) (t := 69) rfl (decide_eq_false hbr1)
              refine hE.off (by rfl) (by rfl) (by decide) (fun a hE => ?_)
              refine hE.off (by rfl) (by rfl) (by decide) (fun a hE => ?_)
              refine hE.off (by rfl) (by rfl) (by decide) (fun a hE => ?_)
              refine hE.pur (X.pickF hE rfl rfl) fun a hE => ?_
              exact hr1 false _ _ H (hE.weak ⟨rfl, rfl, rfl, trivial⟩)
        · replace H := H.2 hc
          refine C.skip (tn ?_)
          refine C.seq ?_
          refine C.region ?_
          refine hE.op (X.load hE rfl) H fun x80 w a H hE => ?_
          refine hE.pur (X.move hE rfl) fun a hE => ?_
          refine hE.pur (X.move hE rfl) fun a hE => ?_
          refine hE.call (X.callF hE ent18 rfl rfl) H fun e w H => ?_
          obtain ⟨r_10, r_11, r_12, rfl, H⟩ := H
          refine ⟨_, rfl, fun a hE => ?_⟩
          refine hE.pur (X.move hE rfl) fun a hE => ?_
          refine hE.pur (X.extract hE rfl rfl) fun a hE => ?_
          refine hE.pur (X.extract hE rfl rfl) fun a hE => ?_
          refine hE.pur (X.extract hE rfl rfl) fun a hE => ?_
          refine hE.pur (X.assign hE rfl) fun a hE => ?_
          refine hE.pur (X.assign hE rfl) fun a hE => ?_
          refine hE.pur (X.assign hE rfl) fun a hE => ?_
          refine C.nil (tn ?_)
          refine C.seq ?_
          refine C.region ?_
          refine hE.op (X.load hE rfl) H fun x88 w a H hE => ?_
          refine hE.pur (X.move hE rfl) fun a hE => ?_
          refine hE.pur (X.move hE rfl) fun a hE => ?_
          refine hE.call (X.callF hE ent18 rfl rfl) H fun e w H => ?_
          obtain ⟨r_13, r_14, r_15, rfl, H⟩ := H
          refine ⟨_, rfl, fun a hE => ?_⟩
          refine hE.pur (X.move hE rfl) fun a hE => ?_
          refine hE.pur (X.extract hE rfl rfl) fun a hE => ?_
          refine hE.pur (X.extract hE rfl rfl) fun a hE => ?_
          refine hE.pur (X.extract hE rfl rfl) fun a hE => ?_
          refine hE.pur (X.assign hE rfl) fun a hE => ?_
          refine hE.pur (X.assign hE rfl) fun a hE => ?_
          refine hE.pur (X.assign hE rfl) fun a hE => ?_
          refine C.nil (tn ?_)
          refine C.seq ?_
          refine C.region ?_
          refine hE.op (X.load hE rfl) H fun x96 w a H hE => ?_
          refine hE.pur (X.move hE rfl) fun a hE => ?_
          refine hE.call (X.callF hE ent22 rfl rfl) H fun e w H => ?_
          obtain ⟨r_16, r_17, rfl, H⟩ := H
          refine ⟨_, rfl, fun a hE => ?_⟩
          refine hE.pur (X.move hE rfl) fun a hE => ?_
          refine hE.pur (X.extract hE rfl rfl) fun a hE => ?_
          refine hE.pur (X.extract hE rfl rfl) fun a hE => ?_
          refine hE.pur (X.assign hE rfl) fun a hE => ?_
          refine hE.pur (X.assign hE rfl) fun a hE => ?_
          refine C.nil (tn ?_)
          refine C.seq ?_
          refine C.region ?_
          refine hE.pur (X.move hE rfl) fun a hE => ?_
          refine hE.pur (X.move hE rfl) fun a hE => ?_
          refine hE.call (X.callF hE ent26 rfl rfl) H fun e w H => ?_
          obtain ⟨r_18, r_19, rfl, H⟩ := H
          refine ⟨_, rfl, fun a hE => ?_⟩
          refine hE.pur (X.move hE rfl) fun a hE => ?_
          refine hE.pur (X.extract hE rfl rfl) fun a hE => ?_
          refine hE.pur (X.extract hE rfl rfl) fun a hE => ?_
          refine hE.op (X.alloc) H fun x27 w a H hE => ?_
          refine hE.opu (X.store hE rfl rfl) H fun w a H hE => ?_
          refine hE.pur (X.assign hE rfl) fun a hE => ?_
          refine C.nil (tn ?_)
          refine C.seq ?_
          refine C.seq ?_
          refine C.region ?_
          refine hE.pur (X.move hE rfl) fun a hE => ?_
          refine hE.pur (X.neI hE rfl rfl) fun a hE => ?_
          refine hE.pur (X.move hE rfl) fun a hE => ?_
          refine WL.join (ds := []) (N := 152) (σ := Bool) (fun s => [(112, (.bool s)), (2, (.int .u64 x2)), (19, (.string r_10)), (20, (.bool r_11)), (22, (.string r_13)), (23, (.bool r_14)), (25, (.int .u64 r_16)), (26, (.int .i64 r_17)), (27, (.pointer x27)), (28, (.bool r_19))]) (fun s w => V_ladinglaw09_MvccPast_r3 x2 Ret r_10 r_11 r_13 r_14 r_16 r_17 r_19 x27 s w) 3 ?_ (fun hr3 => ?_)
          · intro x112 w a H hE
            try dsimp only at H hE
            unfold V_ladinglaw09_MvccPast_r3 at H
            refine hE.pur (X.move hE rfl) fun a hE => ?_
            refine WL.join (ds := []) (N := 152) (σ := Bool) (fun s => [(116, (.bool s)), (2, (.int .u64 x2)), (19, (.string r_10)), (20, (.bool r_11)), (22, (.string r_13)), (23, (.bool r_14)), (25, (.int .u64 r_16)), (27, (.pointer x27)), (28, (.bool r_19))]) (fun s w => V_ladinglaw09_MvccPast_r4 x2 Ret r_10 r_11 r_13 r_14 r_16 r_19 x27 s w) 3 ?_ (fun hr4 => ?_)
            · intro x116 w a H hE
              try dsimp only at H hE
              unfold V_ladinglaw09_MvccPast_r4 at H
              refine C.nil (tn ?_)
              refine C.condB hE rfl (fun hc => ?_) (fun hc => ?_)
              · replace H := H.1 hc
                refine C.seq ?_
                refine C.region ?_
                refine hE.pur (X.assign hE rfl) fun a hE => ?_
                refine C.nil (tn ?_)
                exact C.ret (tr (C.ret1 hE rfl rfl ⟨_, rfl, H⟩))
              · replace H := H.2 hc
                refine C.skip (tn ?_)
                refine C.seq ?_
                refine C.seq ?_
                refine C.region ?_
                refine hE.pur (X.move hE rfl) fun a hE => ?_
                refine hE.pur (X.not hE rfl) fun a hE => ?_
                refine C.nil (tn ?_)
                refine C.condB hE rfl (fun hc => ?_) (fun hc => ?_)
                · replace H := H.1 hc
                  refine C.seq ?_
                  refine C.region ?_
                  refine hE.pur (X.move hE rfl) fun a hE => ?_
                  refine hE.pur (X.move hE rfl) fun a hE => ?_
                  refine hE.pur (X.eqS hE rfl rfl) fun a hE => ?_
                  refine hE.pur (X.move hE rfl) fun a hE => ?_
                  refine WL.join (ds := []) (N := 152) (σ := Bool) (fun s => [(126, (.bool s)), (2, (.int .u64 x2)), (25, (.int .u64 r_16))]) (fun s w => V_ladinglaw09_MvccPast_r5 x2 Ret r_16 s w) 4 ?_ (fun hr5 => ?_)
                  · intro x126 w a H hE
                    try dsimp only at H hE
                    unfold V_ladinglaw09_MvccPast_r5 at H
                    refine hE.pur (X.move hE rfl) fun a hE => ?_
                    refine WL.join (ds := []) (N := 152) (σ := Bool) (fun s => [(131, (.bool s))]) (fun s w => V_ladinglaw09_MvccPast_r6 Ret s w) 4 ?_ (fun hr6 => ?_)
                    · intro x131 w a H hE
                      try dsimp only at H hE
                      unfold V_ladinglaw09_MvccPast_r6 at H
                      refine hE.pur (X.assign hE rfl) fun a hE => ?_
                      refine C.nil (tn ?_)
                      exact C.ret (tr (C.ret1 hE rfl rfl ⟨_, rfl, H⟩))
                    · rcases Bool.eq_false_or_eq_true (x126) with hbr6 | hbr6
                      · replace H := H.1 hbr6
                        replace hE := hE.bool (b := true) (t := 127) rfl (hbr6)
                        refine hE.on (by rfl) (by rfl) ?_
                        refine hE.pur (X.move hE rfl) fun a hE => ?_
                        refine hE.on (by rfl) (by rfl) ?_
                        refine hE.pur (X.move hE rfl) fun a hE => ?_
                        refine hE.on (by rfl) (by rfl) ?_
                        refine hE.pur (X.ltI hE rfl rfl) fun a hE => ?_
                        refine hE.pur (X.pickT hE rfl rfl) fun a hE => ?_
                        exact hr6 (decide (r_16 < x2)) _ _ H (hE.weak ⟨rfl, trivial⟩)
                      · replace H := H.2 hbr6
                        replace hE := hE.bool (b := false) (t := 127) rfl (hbr6)
                        refine hE.off (by rfl) (by rfl) (by decide) (fun a hE => ?_)
                        refine hE.off (by rfl) (by rfl) (by decide) (fun a hE => ?_)
                        refine hE.off (by rfl) (by rfl) (by decide) (fun a hE => ?_)
                        refine hE.pur (X.pickF hE rfl rfl) fun a hE => ?_
                        exact hr6 false _ _ H (hE.weak ⟨rfl, trivial⟩)
                  · rcases Classical.em ((r_10 = r_13)) with hbr5 | hbr5
                    · replace H := H.1 hbr5
                      replace hE := hE.bool (b := true) (t := 122) rfl (decide_eq_true hbr5)
                      refine hE.on (by rfl) (by rfl) ?_
                      refine hE.pur (X.move hE rfl) fun a hE => ?_
                      refine hE.on (by rfl) (by rfl) ?_
                      refine hE.pur (X.move hE rfl) fun a hE => ?_
                      refine hE.on (by rfl) (by rfl) ?_
                      refine hE.op (X.bin hE rfl rfl) H fun x125 w a H hE => ?_
                      refine hE.pur (X.pickT hE rfl rfl) fun a hE => ?_
                      exact hr5 x125 _ _ H (hE.weak ⟨rfl, rfl, rfl, trivial⟩)
                    · replace H := H.2 hbr5
                      replace hE := hE.bool (b := false) (t := 122) rfl (decide_eq_false hbr5)
                      refine hE.off (by rfl) (by rfl) (by decide) (fun a hE => ?_)
                      refine hE.off (by rfl) (by rfl) (by decide) (fun a hE => ?_)
                      refine hE.off (by rfl) (by rfl) (by decide) (fun a hE => ?_)
                      refine hE.pur (X.pickF hE rfl rfl) fun a hE => ?_
                      exact hr5 false _ _ H (hE.weak ⟨rfl, rfl, rfl, trivial⟩)
                · replace H := H.2 hc
                  refine C.skip (tn ?_)
                  refine C.seq ?_
                  refine C.region ?_
                  refine hE.pur (X.move hE rfl) fun a hE => ?_
                  refine hE.op (X.fieldAddr hE rfl) H fun x133 w a H hE => ?_
                  refine hE.op (X.load hE rfl) H fun x134 w a H hE => ?_
                  refine hE.pur (X.not hE rfl) fun a hE => ?_
                  refine hE.op (X.bin hE rfl rfl) H fun x136 w a H hE => ?_
                  refine hE.pur (X.move hE rfl) fun a hE => ?_
                  refine WL.join (ds := []) (N := 152) (σ := Bool) (fun s => [(146, (.bool s)), (2, (.int .u64 x2)), (25, (.int .u64 r_16))]) (fun s w => V_ladinglaw09_MvccPast_r7 x2 Ret r_16 s w) 9 ?_ (fun hr7 => ?_)
                  · intro x146 w a H hE
                    try dsimp only at H hE
                    unfold V_ladinglaw09_MvccPast_r7 at H
                    refine hE.pur (X.move hE rfl) fun a hE => ?_
                    refine WL.join (ds := []) (N := 152) (σ := Bool) (fun s => [(151, (.bool s))]) (fun s w => V_ladinglaw09_MvccPast_r8 Ret s w) 4 ?_ (fun hr8 => ?_)
                    · intro x151 w a H hE
                      try dsimp only at H hE
                      unfold V_ladinglaw09_MvccPast_r8 at H
                      refine hE.pur (X.assign hE rfl) fun a hE => ?_
                      refine C.nil (tn ?_)
                      exact C.ret (C.ret1 hE rfl rfl ⟨_, rfl, H⟩)
                    · rcases Bool.eq_false_or_eq_true (x146) with hbr8 | hbr8
                      · replace H := H.1 hbr8
                        replace hE := hE.bool (b := true) (t := 147) rfl (hbr8)
                        refine hE.on (by rfl) (by rfl) ?_
                        refine hE.pur (X.move hE rfl) fun a hE => ?_
                        refine hE.on (by rfl) (by rfl) ?_
                        refine hE.pur (X.move hE rfl) fun a hE => ?_
                        refine hE.on (by rfl) (by rfl) ?_
                        refine hE.pur (X.eqI hE rfl rfl) fun a hE => ?_
                        refine hE.pur (X.pickT hE rfl rfl) fun a hE => ?_
                        exact hr8 (decide (r_16 = x2)) _ _ H (hE.weak ⟨rfl, trivial⟩)
                      · replace H := H.2 hbr8
                        replace hE := hE.bool (b := false) (t := 147) rfl (hbr8)
                        refine hE.off (by rfl) (by rfl) (by decide) (fun a hE => ?_)
                        refine hE.off (by rfl) (by rfl) (by decide) (fun a hE => ?_)
                        refine hE.off (by rfl) (by rfl) (by decide) (fun a hE => ?_)
                        refine hE.pur (X.pickF hE rfl rfl) fun a hE => ?_
                        exact hr8 false _ _ H (hE.weak ⟨rfl, trivial⟩)
                  · rcases Bool.eq_false_or_eq_true (x136) with hbr7 | hbr7
                    · replace H := H.1 hbr7
                      replace hE := hE.bool (b := true) (t := 137) rfl (hbr7)
                      refine hE.on (by rfl) (by rfl) ?_
                      refine hE.op (X.fieldAddr hE rfl) H fun x138 w a H hE => ?_
                      refine hE.on (by rfl) (by rfl) ?_
                      refine hE.op (X.load hE rfl) H fun x139 w a H hE => ?_
                      refine hE.on (by rfl) (by rfl) ?_
                      refine hE.pur (X.move hE rfl) fun a hE => ?_
                      refine WL.join (ds := []) (N := 152) (σ := Bool) (fun s => [(145, (.bool s)), (2, (.int .u64 x2)), (25, (.int .u64 r_16)), (137, (.bool true))]) (fun s w => V_ladinglaw09_MvccPast_r9 x2 Ret r_16 s w) 5 ?_ (fun hr9 => ?_)
                      · intro x145 w a H hE
                        try dsimp only at H hE
                        unfold V_ladinglaw09_MvccPast_r9 at H
                        refine hE.pur (X.pickT hE rfl rfl) fun a hE => ?_
                        exact hr7 x145 _ _ H (hE.weak ⟨rfl, rfl, rfl, trivial⟩)
                      · rcases Bool.eq_false_or_eq_true (x139) with hbr9 | hbr9
                        · replace H := H.1 hbr9
                          replace hE := hE.bool (b := true) (t := 140) rfl (hbr9)
                          refine hE.off (by rfl) (by rfl) (by decide) (fun a hE => ?_)
                          refine hE.off (by rfl) (by rfl) (by decide) (fun a hE => ?_)
                          refine hE.off (by rfl) (by rfl) (by decide) (fun a hE => ?_)
                          refine hE.off (by rfl) (by rfl) (by decide) (fun a hE => ?_)
                          refine hE.on (by rfl) (by rfl) ?_
                          refine hE.pur (X.pickT hE rfl rfl) fun a hE => ?_
                          exact hr9 true _ _ H (hE.weak ⟨rfl, rfl, rfl, rfl, trivial⟩)
                        · replace H := H.2 hbr9
                          replace hE := hE.bool (b := false) (t := 140) rfl (hbr9)
                          refine hE.on (by rfl) (by rfl) ?_
                          refine hE.pur (X.move hE rfl) fun a hE => ?_
                          refine hE.on (by rfl) (by rfl) ?_
                          refine hE.op (X.fieldAddr hE rfl) H fun x142 w a H hE => ?_
                          refine hE.on (by rfl) (by rfl) ?_
                          refine hE.op (X.load hE rfl) H fun x143 w a H hE => ?_
                          refine hE.on (by rfl) (by rfl) ?_
                          refine hE.pur (X.eqS hE rfl rfl) fun a hE => ?_
                          refine hE.on (by rfl) (by rfl) ?_
                          refine hE.pur (X.pickF hE rfl rfl) fun a hE => ?_
                          exact hr9 (decide (r_13 = x143)) _ _ H (hE.weak ⟨rfl, rfl, rfl, rfl, trivial⟩)
                    · replace H := H.2 hbr7
                      replace hE := hE.bool (b := false) (t := 137) rfl (hbr7)
                      refine hE.off (by rfl) (by rfl) (by decide) (fun a hE => ?_)
                      refine hE.off (by rfl) (by rfl) (by decide) (fun a hE => ?_)
                      refine hE.off (by rfl) (by rfl) (by decide) (fun a hE => ?_)
                      refine hE.offU (by rfl) (by rfl) (fun a hE => ?_)
                      refine hE.offU (by rfl) (by rfl) (fun a hE => ?_)
                      refine hE.offU (by rfl) (by rfl) (fun a hE => ?_)
                      refine hE.offU (by rfl) (by rfl) (fun a hE => ?_)
                      refine hE.off (by rfl) (by rfl) (by decide) (fun a hE => ?_)
                      refine hE.pur (X.pickF hE rfl rfl) fun a hE => ?_
                      exact hr7 false _ _ H (hE.weak ⟨rfl, rfl, rfl, trivial⟩)
            · rcases Bool.eq_false_or_eq_true (x112) with hbr4 | hbr4
              · replace H := H.1 hbr4
                replace hE := hE.bool (b := true) (t := 113) rfl (hbr4)
                refine hE.off (by rfl) (by rfl) (by decide) (fun a hE => ?_)
                refine hE.off (by rfl) (by rfl) (by decide) (fun a hE => ?_)
                refine hE.pur (X.pickT hE rfl rfl) fun a hE => ?_
                exact hr4 true _ _ H (hE.weak ⟨rfl, rfl, rfl, rfl, rfl, rfl, rfl, rfl, rfl, trivial⟩)
              · replace H := H.2 hbr4
                replace hE := hE.bool (b := false) (t := 113) rfl (hbr4)
                refine hE.on (by rfl) (by rfl) ?_
                refine hE.pur (X.move hE rfl) fun a hE => ?_
                refine hE.on (by rfl) (by rfl) ?_
                refine hE.pur (X.neI hE rfl rfl) fun a hE => ?_
                refine hE.pur (X.pickF hE rfl rfl) fun a hE => ?_
                exact hr4 (decide (r_17 ≠ 0)) _ _ H (hE.weak ⟨rfl, rfl, rfl, rfl, rfl, rfl, rfl, rfl, rfl, trivial⟩)
          · rcases Classical.em ((r_12 ≠ 0)) with hbr3 | hbr3
            · replace H := H.1 hbr3
              replace hE := hE.bool (b := true) (t := 109) rfl (decide_eq_true hbr3)
              refine hE.off (by rfl) (by rfl) (by decide) (fun a hE => ?_)
              refine hE.off (by rfl) (by rfl) (by decide) (fun a hE => ?_)
              refine hE.pur (X.pickT hE rfl rfl) fun a hE => ?_
              exact hr3 true _ _ H (hE.weak ⟨rfl, rfl, rfl, rfl, rfl, rfl, rfl, rfl, rfl, rfl, trivial⟩)
            · replace H := H.2 hbr3
              replace hE := hE.bool (b := false) (t := 109) rfl (decide_eq_false hbr3)
              refine hE.on (by rfl) (by rfl) ?_
              refine hE.pur (X.move hE rfl) fun a hE => ?_
              refine hE.on (by rfl) (by rfl) ?_
              refine hE.pur (X.neI hE rfl rfl) fun a hE => ?_
              refine hE.pur (X.pickF hE rfl rfl) fun a hE => ?_
              exact hr3 (decide (r_15 ≠ 0)) _ _ H (hE.weak ⟨rfl, rfl, rfl, rfl, rfl, rfl, rfl, rfl, rfl, rfl, trivial⟩)
/-! ### lading ladinglaw09.written: function 26 -/
def V_ladinglaw09_written_l1b (x0 : Sl) (x1 : ByteArray) (Ret : T_api_Write → Bool → World → Prop) (x4 : Option Addr) (x10 : Int) (w : World) (Kl1 : Int → World → Prop) : Prop :=
  ((x10 < (x0.len : Int)) → (opE Try.prog Value.pointer (Instr.indexAt 26 (Sl.v x0) (.int .i64 x10)) w (fun x12 w => opE Try.prog T_api_Write.v (Instr.loadAt 52 (.pointer x12)) w (fun x13 w => opE Try.prog Value.pointer (Instr.alloc 52 true (.tuple #[])) w (fun x7 w => opU Try.prog (Instr.storeAt 52 (.pointer x7) (T_api_Write.v x13)) w (fun w => opE Try.prog Value.pointer (Instr.fieldAt 52 (.pointer x7) 0) w (fun x14 w => opE Try.prog Value.string (Instr.loadAt 9 (.pointer x14)) w (fun x15 w => ((x15 = x1) → (opE Try.prog T_api_Write.v (Instr.loadAt 52 (.pointer x7)) w (fun x18 w => opU Try.prog (Instr.storeAt 52 (.pointer x4) (T_api_Write.v x18)) w (fun w => opR Try.prog T_api_Write.v 52 x4 w (fun q => Ret q true w))))) ∧ (¬ (x15 = x1) → (Kl1 (IntKind.wrap .i64 (x10 + 1)) w)))))))))) ∧ (¬ (x10 < (x0.len : Int)) → (opE Try.prog T_api_Write.v (Instr.build 52 [].toArray) w (fun x20 w => opU Try.prog (Instr.storeAt 52 (.pointer x4) (T_api_Write.v x20)) w (fun w => opR Try.prog T_api_Write.v 52 x4 w (fun q_1 => Ret q_1 false w)))))
def V_ladinglaw09_written (x0 : Sl) (x1 : ByteArray) (w : World) (Ret : T_api_Write → Bool → World → Prop) : Prop :=
  opE Try.prog Value.pointer (Instr.alloc 52 true (.tuple #[])) w (fun x4 w => ∃ (I : Int → World → Prop) (μ : Int → World → Nat), I 0 w ∧ ∀ (x10 : Int) w, I x10 w → V_ladinglaw09_written_l1b x0 x1 Ret x4 x10 w (fun x10' w' => I x10' w' ∧ μ x10' w' < μ x10 w))
set_option maxRecDepth 100000 in
theorem L1_ladinglaw09_written (x0 : Sl) (x1 : ByteArray) (w : World) (Ret : T_api_Write → Bool → World → Prop) (H : V_ladinglaw09_written x0 x1 w Ret) : Cl Try.prog 26 [(Sl.v x0), (.string x1)].toArray w (fun e w' => ∃ (r0 : T_api_Write) (r1 : Bool), e = .returned (.tuple [(T_api_Write.v r0), (.bool r1)].toArray) ∧ Ret r0 r1 w') := by
  unfold V_ladinglaw09_written at H
  refine C.enter 21 (zipE 0 [(Sl.v x0), (.string x1)]) Try.func26 rfl rfl (by rfl) rfl ?_
  intro a hE
  replace hE : Sat [] 21 [(0, (Sl.v x0)), (1, (.string x1))] a := hE
  refine C.seq ?_
  refine C.region ?_
  refine hE.op (X.alloc) H fun x4 w a H hE => ?_
  refine hE.pur (X.assign hE rfl) fun a hE => ?_
  refine C.nil (tn ?_)
  refine C.seq ?_
  refine C.seq ?_
  refine C.region ?_
  refine hE.pur (X.move hE rfl) fun a hE => ?_
  refine hE.purR (fun w => X.lenL hE Try.underlying26 rfl) fun a hE => ?_
  refine hE.pur (X.move hE rfl) fun a hE => ?_
  refine C.nil (tn ?_)
  refine C.block ?_
  obtain ⟨I_l1, μ_l1, h0, hb⟩ := H
  refine C.loop (ds := []) (N := 21) (σ := Int) (fun s => [(10, (.int .i64 s)), (1, (.string x1)), (4, (.pointer x4)), (8, (Sl.v x0)), (9, (.int .i64 (x0.len : Int)))]) (fun s w => I_l1 s w) (fun s w => μ_l1 s w) 0 h0 (hE.weak ⟨rfl, rfl, rfl, rfl, rfl, trivial⟩) ?_
  intro x10 w a hI hE
  try dsimp only at hI hE
  obtain ⟨Kl1, hK_l1⟩ : ∃ K : Int → World → Prop, K = (fun x10' w' => I_l1 x10' w' ∧ μ_l1 x10' w' < μ_l1 x10 w) := ⟨_, rfl⟩
  have H : V_ladinglaw09_written_l1b x0 x1 Ret x4 x10 w Kl1 := by rw [hK_l1]; exact hb x10 w hI
  clear hb h0 hI
  unfold V_ladinglaw09_written_l1b at H
  refine C.seq ?_
  refine C.region ?_
  refine hE.pur (X.ltI hE rfl rfl) fun a hE => ?_
  refine C.nil (tn ?_)
  refine C.seq ?_
  refine C.condP hE rfl (fun hc => ?_) (fun hc => ?_)
  · replace H := H.1 hc
    refine C.skip (tn ?_)
    refine C.seq ?_
    refine C.block ?_
    refine C.seq ?_
    refine C.region ?_
    refine hE.op (X.indexAddr hE rfl rfl) H fun x12 w a H hE => ?_
    refine hE.op (X.load hE rfl) H fun x13 w a H hE => ?_
    refine hE.op (X.alloc) H fun x7 w a H hE => ?_
    refine hE.opu (X.store hE rfl rfl) H fun w a H hE => ?_
    refine C.nil (tn ?_)
    refine C.seq ?_
    refine C.region ?_
    refine hE.op (X.fieldAddr hE rfl) H fun x14 w a H hE => ?_
    refine hE.op (X.load hE rfl) H fun x15 w a H hE => ?_
    refine hE.pur (X.move hE rfl) fun a hE => ?_
    refine hE.pur (X.eqS hE rfl rfl) fun a hE => ?_
    refine C.nil (tn ?_)
    refine C.condP hE rfl (fun hc => ?_) (fun hc => ?_)
    · replace H := H.1 hc
      refine C.seq ?_
      refine C.region ?_
      refine hE.op (X.load hE rfl) H fun x18 w a H hE => ?_
      refine hE.opu (X.store hE rfl rfl) H fun w a H hE => ?_
      refine hE.pur (X.assign hE rfl) fun a hE => ?_
      refine C.nil (tn ?_)
      obtain ⟨q, ad, hp, hl, H⟩ := H
      exact C.ret (br (tr (tr (br (tr (C.retC hE (rs := [.cell 4 52, .tmp 5]) (vs := [(T_api_Write.v q), (.bool true)]) rfl ⟨⟨ad, by rw [← hp]; rfl, hl⟩, rfl, trivial⟩ ⟨_, _, rfl, H⟩))))))
    · replace H := H.2 hc
      refine C.skip (bn (tn ?_))
      refine C.region ?_
      refine hE.pur (X.add hE rfl rfl) fun a hE => ?_
      refine hE.pur (X.move hE rfl) fun a hE => ?_
      rw [hK_l1] at H
      exact C.nil (tn ⟨(IntKind.wrap .i64 (x10 + 1)), hE.weak ⟨rfl, rfl, rfl, rfl, rfl, trivial⟩, H⟩)
  · replace H := H.2 hc
    refine C.exit (te (te (be (tn ?_))))
    refine C.seq ?_
    refine C.region ?_
    refine hE.op (X.build hE rfl) H fun x20 w a H hE => ?_
    refine hE.opu (X.store hE rfl rfl) H fun w a H hE => ?_
    refine hE.pur (X.assign hE rfl) fun a hE => ?_
    refine C.nil (tn ?_)
    obtain ⟨q_1, ad_1, hp_1, hl_1, H⟩ := H
    exact C.ret (C.retC hE (rs := [.cell 4 52, .tmp 5]) (vs := [(T_api_Write.v q_1), (.bool false)]) rfl ⟨⟨ad_1, by rw [← hp_1]; rfl, hl_1⟩, rfl, trivial⟩ ⟨_, _, rfl, H⟩)
end Go.Proofs.Ytealcoghiaeiiaa.VG
