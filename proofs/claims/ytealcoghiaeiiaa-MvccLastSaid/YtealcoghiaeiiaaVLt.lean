/- Verification conditions, by program (gen.py), of functions of the loaded program, each with the proof that it gives the call; no condition. -/
import Derived.Test.YtealcoghiaeiiaaVS
set_option linter.unusedVariables false
set_option linter.unusedSimpArgs false
namespace Go.Proofs.Ytealcoghiaeiiaa.VG
open Go.VB Go.Proofs

/-! ### lading ladinglaw09.MvccLast: function 9 -/
def V_ladinglaw09_MvccLast_r2 (Ret : Bool → World → Prop) (x52 : Bool) (w : World) : Prop :=
  Ret x52 w
def V_ladinglaw09_MvccLast_r1 (Ret : Bool → World → Prop) (r_4 : Bool) (x48 : Bool) (w : World) : Prop :=
  (x48 = true → (V_ladinglaw09_MvccLast_r2 Ret (!r_4) w)) ∧ (x48 = false → (V_ladinglaw09_MvccLast_r2 Ret false w))
def V_ladinglaw09_MvccLast_r6 (Ret : Bool → World → Prop) (x93 : Bool) (w : World) : Prop :=
  Ret x93 w
def V_ladinglaw09_MvccLast_r5 (Ret : Bool → World → Prop) (r_7 : Bool) (r_10 : Bool) (x88 : Bool) (w : World) : Prop :=
  (x88 = true → (opE Try.prog Value.bool (do eqGuard .eql 4 (.tmp 90) (.tmp 91) (.bool r_7) (.bool r_10); binOp .eql 4 (.bool r_7) (.bool r_10)) w (fun x92 w => V_ladinglaw09_MvccLast_r6 Ret x92 w))) ∧ (x88 = false → (V_ladinglaw09_MvccLast_r6 Ret false w))
def V_ladinglaw09_MvccLast_r4 (Ret : Bool → World → Prop) (r_6 : ByteArray) (r_7 : Bool) (r_9 : ByteArray) (r_10 : Bool) (x83 : Bool) (w : World) : Prop :=
  (x83 = true → (V_ladinglaw09_MvccLast_r5 Ret r_7 r_10 (decide (r_6 = r_9)) w)) ∧ (x83 = false → (V_ladinglaw09_MvccLast_r5 Ret r_7 r_10 false w))
def V_ladinglaw09_MvccLast_r3 (x1 : ByteArray) (x2 : Int) (Ret : Bool → World → Prop) (x3 : Option Addr) (r_1 : Int) (x61 : Bool) (w : World) : Prop :=
  (x61 = true → (Ret true w)) ∧ (x61 = false → (opE Try.prog T_api_Versions.v (Instr.loadAt 25 (.pointer x3)) w (fun x63 w => Cl Try.prog 18 [(T_api_Versions.v x63), (.string x1), (.int .u64 r_1)].toArray w (fun e w => ∃ (r_6 : ByteArray) (r_7 : Bool) (r_8 : Int), e = .returned (.tuple [(.string r_6), (.bool r_7), (.int .i64 r_8)].toArray) ∧ (opE Try.prog T_api_Versions.v (Instr.loadAt 25 (.pointer x3)) w (fun x71 w => Cl Try.prog 18 [(T_api_Versions.v x71), (.string x1), (.int .u64 x2)].toArray w (fun e w => ∃ (r_9 : ByteArray) (r_10 : Bool) (r_11 : Int), e = .returned (.tuple [(.string r_9), (.bool r_10), (.int .i64 r_11)].toArray) ∧ (((r_8 = 0) → (V_ladinglaw09_MvccLast_r4 Ret r_6 r_7 r_9 r_10 (decide (r_11 = 0)) w)) ∧ (¬ (r_8 = 0) → (V_ladinglaw09_MvccLast_r4 Ret r_6 r_7 r_9 r_10 false w))))))))))
def V_ladinglaw09_MvccLast (x0 : T_api_Versions) (x1 : ByteArray) (x2 : Int) (w : World) (Ret : Bool → World → Prop) : Prop :=
  opE Try.prog Value.pointer (Instr.box 25 (T_api_Versions.v x0)) w (fun x3 w => Cl Try.prog 15 [].toArray w (fun e w => ∃ (r : Bool), e = .returned (.bool r) ∧ (((!r) = true → (Ret false w)) ∧ ((!r) = false → (opE Try.prog T_api_Versions.v (Instr.loadAt 25 (.pointer x3)) w (fun x21 w => Cl Try.prog 22 [(T_api_Versions.v x21), (.string x1)].toArray w (fun e w => ∃ (r_1 : Int) (r_2 : Int), e = .returned (.tuple [(.int .u64 r_1), (.int .i64 r_2)].toArray) ∧ (((r_2 ≠ 0) → (Ret (decide (r_1 = 0)) w)) ∧ (¬ (r_2 ≠ 0) → (((r_1 = 0) → (opE Try.prog T_api_Versions.v (Instr.loadAt 25 (.pointer x3)) w (fun x33 w => opE Try.prog Value.pointer (Instr.fieldAt 25 (.pointer x3) 1) w (fun x36 w => opE Try.prog (Value.int .u64) (Instr.loadAt 23 (.pointer x36)) w (fun x37 w => Cl Try.prog 18 [(T_api_Versions.v x33), (.string x1), (.int .u64 (if x2 < x37 then x37 else x2))].toArray w (fun e w => ∃ (r_3 : ByteArray) (r_4 : Bool) (r_5 : Int), e = .returned (.tuple [(.string r_3), (.bool r_4), (.int .i64 r_5)].toArray) ∧ (((r_5 = 0) → (V_ladinglaw09_MvccLast_r1 Ret r_4 (decide (r_3 = (ByteArray.mk #[]))) w)) ∧ (¬ (r_5 = 0) → (V_ladinglaw09_MvccLast_r1 Ret r_4 false w))))))))) ∧ (¬ (r_1 = 0) → (((x2 < r_1) → (V_ladinglaw09_MvccLast_r3 x1 x2 Ret x3 r_1 true w)) ∧ (¬ (x2 < r_1) → (opE Try.prog Value.pointer (Instr.fieldAt 25 (.pointer x3) 1) w (fun x58 w => opE Try.prog (Value.int .u64) (Instr.loadAt 23 (.pointer x58)) w (fun x59 w => V_ladinglaw09_MvccLast_r3 x1 x2 Ret x3 r_1 (decide (r_1 < x59)) w))))))))))))))))
set_option maxRecDepth 100000 in
theorem L1_ladinglaw09_MvccLast (x0 : T_api_Versions) (x1 : ByteArray) (x2 : Int) (w : World) (Ret : Bool → World → Prop) (H : V_ladinglaw09_MvccLast x0 x1 x2 w Ret) : Cl Try.prog 9 [(T_api_Versions.v x0), (.string x1), (.int .u64 x2)].toArray w (fun e w' => ∃ (r0 : Bool), e = .returned (.bool r0) ∧ Ret r0 w') := by
  unfold V_ladinglaw09_MvccLast at H
  refine C.enter 94 (zipE 0 [(T_api_Versions.v x0), (.string x1), (.int .u64 x2)]) Try.func9 rfl rfl (by rfl) rfl ?_
  intro a hE
  replace hE : Sat [] 94 [(0, (T_api_Versions.v x0)), (1, (.string x1)), (2, (.int .u64 x2))] a := hE
  refine C.seq ?_
  refine C.region ?_
  refine hE.op (X.box hE rfl) H fun x3 w a H hE => ?_
  refine hE.pur (X.assign hE rfl) fun a hE => ?_
  refine C.nil (tn ?_)
  refine C.seq ?_
  refine C.seq ?_
  refine C.region ?_
  refine hE.call (X.callF hE ent15 rfl rfl) H fun e w H => ?_
  obtain ⟨r, rfl, H⟩ := H
  refine ⟨_, rfl, fun a hE => ?_⟩
  refine hE.pur (X.not hE rfl) fun a hE => ?_
  refine C.nil (tn ?_)
  refine C.condB hE rfl (fun hc => ?_) (fun hc => ?_)
  · replace H := H.1 hc
    refine C.seq ?_
    refine C.region ?_
    refine hE.pur (X.assign hE rfl) fun a hE => ?_
    refine C.nil (tn ?_)
    exact C.ret (tr (C.ret1 hE rfl rfl ⟨_, rfl, H⟩))
  · replace H := H.2 hc
    refine C.skip (tn ?_)
    refine C.seq ?_
    refine C.region ?_
    refine hE.op (X.load hE rfl) H fun x21 w a H hE => ?_
    refine hE.pur (X.move hE rfl) fun a hE => ?_
    refine hE.call (X.callF hE ent22 rfl rfl) H fun e w H => ?_
    obtain ⟨r_1, r_2, rfl, H⟩ := H
    refine ⟨_, rfl, fun a hE => ?_⟩
    refine hE.pur (X.move hE rfl) fun a hE => ?_
    refine hE.pur (X.extract hE rfl rfl) fun a hE => ?_
    refine hE.pur (X.extract hE rfl rfl) fun a hE => ?_
    refine hE.pur (X.assign hE rfl) fun a hE => ?_
    refine hE.pur (X.assign hE rfl) fun a hE => ?_
    refine C.nil (tn ?_)
    refine C.seq ?_
    refine C.seq ?_
    refine C.region ?_
    refine hE.pur (X.move hE rfl) fun a hE => ?_
    refine hE.pur (X.neI hE rfl rfl) fun a hE => ?_
    refine C.nil (tn ?_)
    refine C.condP hE rfl (fun hc => ?_) (fun hc => ?_)
    · replace H := H.1 hc
      refine C.seq ?_
      refine C.region ?_
      refine hE.pur (X.move hE rfl) fun a hE => ?_
      refine hE.pur (X.eqI hE rfl rfl) fun a hE => ?_
      refine hE.pur (X.assign hE rfl) fun a hE => ?_
      refine C.nil (tn ?_)
      exact C.ret (tr (C.ret1 hE rfl rfl ⟨_, rfl, H⟩))
    · replace H := H.2 hc
      refine C.skip (tn ?_)
      refine C.seq ?_
      refine C.seq ?_
      refine C.region ?_
      refine hE.pur (X.move hE rfl) fun a hE => ?_
      refine hE.pur (X.eqI hE rfl rfl) fun a hE => ?_
      refine C.nil (tn ?_)
      refine C.condP hE rfl (fun hc => ?_) (fun hc => ?_)
      · replace H := H.1 hc
        refine C.seq ?_
        refine C.region ?_
        refine hE.op (X.load hE rfl) H fun x33 w a H hE => ?_
        refine hE.pur (X.move hE rfl) fun a hE => ?_
        refine hE.pur (X.move hE rfl) fun a hE => ?_
        refine hE.op (X.fieldAddr hE rfl) H fun x36 w a H hE => ?_
        refine hE.op (X.load hE rfl) H fun x37 w a H hE => ?_
        refine hE.pur (X.maxI hE rfl rfl) fun a hE => ?_
        refine hE.call (X.callF hE ent18 rfl rfl) H fun e w H => ?_
        obtain ⟨r_3, r_4, r_5, rfl, H⟩ := H
        refine ⟨_, rfl, fun a hE => ?_⟩
        refine hE.pur (X.move hE rfl) fun a hE => ?_
        refine hE.pur (X.extract hE rfl rfl) fun a hE => ?_
        refine hE.pur (X.extract hE rfl rfl) fun a hE => ?_
        refine hE.pur (X.extract hE rfl rfl) fun a hE => ?_
        refine hE.pur (X.assign hE rfl) fun a hE => ?_
        refine hE.pur (X.assign hE rfl) fun a hE => ?_
        refine hE.pur (X.assign hE rfl) fun a hE => ?_
        refine C.nil (tn ?_)
        refine C.seq ?_
        refine C.region ?_
        refine hE.pur (X.move hE rfl) fun a hE => ?_
        refine hE.pur (X.eqI hE rfl rfl) fun a hE => ?_
        refine hE.pur (X.move hE rfl) fun a hE => ?_
        refine WL.join (ds := []) (N := 94) (σ := Bool) (fun s => [(48, (.bool s)), (10, (.bool r_4))]) (fun s w => V_ladinglaw09_MvccLast_r1 Ret r_4 s w) 3 ?_ (fun hr1 => ?_)
        · intro x48 w a H hE
          try dsimp only at H hE
          unfold V_ladinglaw09_MvccLast_r1 at H
          refine hE.pur (X.move hE rfl) fun a hE => ?_
          refine WL.join (ds := []) (N := 94) (σ := Bool) (fun s => [(52, (.bool s))]) (fun s w => V_ladinglaw09_MvccLast_r2 Ret s w) 3 ?_ (fun hr2 => ?_)
          · intro x52 w a H hE
            try dsimp only at H hE
            unfold V_ladinglaw09_MvccLast_r2 at H
            refine hE.pur (X.assign hE rfl) fun a hE => ?_
            refine C.nil (tn ?_)
            exact C.ret (tr (C.ret1 hE rfl rfl ⟨_, rfl, H⟩))
          · rcases Bool.eq_false_or_eq_true (x48) with hbr2 | hbr2
            · replace H := H.1 hbr2
              replace hE := hE.bool (b := true) (t := 49) rfl (hbr2)
              refine hE.on (by rfl) (by rfl) ?_
              refine hE.pur (X.move hE rfl) fun a hE => ?_
              refine hE.on (by rfl) (by rfl) ?_
              refine hE.pur (X.not hE rfl) fun a hE => ?_
              refine hE.pur (X.pickT hE rfl rfl) fun a hE => ?_
              exact hr2 (!r_4) _ _ H (hE.weak ⟨rfl, trivial⟩)
            · replace H := H.2 hbr2
              replace hE := hE.bool (b := false) (t := 49) rfl (hbr2)
              refine hE.off (by rfl) (by rfl) (by decide) (fun a hE => ?_)
              refine hE.off (by rfl) (by rfl) (by decide) (fun a hE => ?_)
              refine hE.pur (X.pickF hE rfl rfl) fun a hE => ?_
              exact hr2 false _ _ H (hE.weak ⟨rfl, trivial⟩)
        · rcases Classical.em ((r_5 = 0)) with hbr1 | hbr1
          · replace H := H.1 hbr1
            replace hE := hE.bool (b := true) (t := 45) rfl (decide_eq_true hbr1)
            refine hE.on (by rfl) (by rfl) ?_
            refine hE.pur (X.move hE rfl) fun a hE => ?_
            refine hE.on (by rfl) (by rfl) ?_
            refine hE.pur (X.eqS hE rfl rfl) fun a hE => ?_
            refine hE.pur (X.pickT hE rfl rfl) fun a hE => ?_
            exact hr1 (decide (r_3 = (ByteArray.mk #[]))) _ _ H (hE.weak ⟨rfl, rfl, trivial⟩)
          · replace H := H.2 hbr1
            replace hE := hE.bool (b := false) (t := 45) rfl (decide_eq_false hbr1)
            refine hE.off (by rfl) (by rfl) (by decide) (fun a hE => ?_)
            refine hE.off (by rfl) (by rfl) (by decide) (fun a hE => ?_)
            refine hE.pur (X.pickF hE rfl rfl) fun a hE => ?_
            exact hr1 false _ _ H (hE.weak ⟨rfl, rfl, trivial⟩)
      · replace H := H.2 hc
        refine C.skip (tn ?_)
        refine C.seq ?_
        refine C.seq ?_
        refine C.region ?_
        refine hE.pur (X.move hE rfl) fun a hE => ?_
        refine hE.pur (X.move hE rfl) fun a hE => ?_
        refine hE.pur (X.ltI hE rfl rfl) fun a hE => ?_
        refine hE.pur (X.move hE rfl) fun a hE => ?_
        refine WL.join (ds := []) (N := 94) (σ := Bool) (fun s => [(61, (.bool s)), (1, (.string x1)), (2, (.int .u64 x2)), (3, (.pointer x3)), (7, (.int .u64 r_1))]) (fun s w => V_ladinglaw09_MvccLast_r3 x1 x2 Ret x3 r_1 s w) 5 ?_ (fun hr3 => ?_)
        · intro x61 w a H hE
          try dsimp only at H hE
          unfold V_ladinglaw09_MvccLast_r3 at H
          refine C.nil (tn ?_)
          refine C.condB hE rfl (fun hc => ?_) (fun hc => ?_)
          · replace H := H.1 hc
            refine C.seq ?_
            refine C.region ?_
            refine hE.pur (X.assign hE rfl) fun a hE => ?_
            refine C.nil (tn ?_)
            exact C.ret (tr (C.ret1 hE rfl rfl ⟨_, rfl, H⟩))
          · replace H := H.2 hc
            refine C.skip (tn ?_)
            refine C.seq ?_
            refine C.region ?_
            refine hE.op (X.load hE rfl) H fun x63 w a H hE => ?_
            refine hE.pur (X.move hE rfl) fun a hE => ?_
            refine hE.pur (X.move hE rfl) fun a hE => ?_
            refine hE.call (X.callF hE ent18 rfl rfl) H fun e w H => ?_
            obtain ⟨r_6, r_7, r_8, rfl, H⟩ := H
            refine ⟨_, rfl, fun a hE => ?_⟩
            refine hE.pur (X.move hE rfl) fun a hE => ?_
            refine hE.pur (X.extract hE rfl rfl) fun a hE => ?_
            refine hE.pur (X.extract hE rfl rfl) fun a hE => ?_
            refine hE.pur (X.extract hE rfl rfl) fun a hE => ?_
            refine hE.pur (X.assign hE rfl) fun a hE => ?_
            refine hE.pur (X.assign hE rfl) fun a hE => ?_
            refine hE.pur (X.assign hE rfl) fun a hE => ?_
            refine C.nil (tn ?_)
            refine C.seq ?_
            refine C.region ?_
            refine hE.op (X.load hE rfl) H fun x71 w a H hE => ?_
            refine hE.pur (X.move hE rfl) fun a hE => ?_
            refine hE.pur (X.move hE rfl) fun a hE => ?_
            refine hE.call (X.callF hE ent18 rfl rfl) H fun e w H => ?_
            obtain ⟨r_9, r_10, r_11, rfl, H⟩ := H
            refine ⟨_, rfl, fun a hE => ?_⟩
            refine hE.pur (X.move hE rfl) fun a hE => ?_
            refine hE.pur (X.extract hE rfl rfl) fun a hE => ?_
            refine hE.pur (X.extract hE rfl rfl) fun a hE => ?_
            refine hE.pur (X.extract hE rfl rfl) fun a hE => ?_
            refine hE.pur (X.assign hE rfl) fun a hE => ?_
            refine hE.pur (X.assign hE rfl) fun a hE => ?_
            refine hE.pur (X.assign hE rfl) fun a hE => ?_
            refine C.nil (tn ?_)
            refine C.seq ?_
            refine C.region ?_
            refine hE.pur (X.move hE rfl) fun a hE => ?_
            refine hE.pur (X.eqI hE rfl rfl) fun a hE => ?_
            refine hE.pur (X.move hE rfl) fun a hE => ?_
            refine WL.join (ds := []) (N := 94) (σ := Bool) (fun s => [(83, (.bool s)), (12, (.string r_6)), (13, (.bool r_7)), (15, (.string r_9)), (16, (.bool r_10))]) (fun s w => V_ladinglaw09_MvccLast_r4 Ret r_6 r_7 r_9 r_10 s w) 3 ?_ (fun hr4 => ?_)
            · intro x83 w a H hE
              try dsimp only at H hE
              unfold V_ladinglaw09_MvccLast_r4 at H
              refine hE.pur (X.move hE rfl) fun a hE => ?_
              refine WL.join (ds := []) (N := 94) (σ := Bool) (fun s => [(88, (.bool s)), (13, (.bool r_7)), (16, (.bool r_10))]) (fun s w => V_ladinglaw09_MvccLast_r5 Ret r_7 r_10 s w) 4 ?_ (fun hr5 => ?_)
              · intro x88 w a H hE
                try dsimp only at H hE
                unfold V_ladinglaw09_MvccLast_r5 at H
                refine hE.pur (X.move hE rfl) fun a hE => ?_
                refine WL.join (ds := []) (N := 94) (σ := Bool) (fun s => [(93, (.bool s))]) (fun s w => V_ladinglaw09_MvccLast_r6 Ret s w) 4 ?_ (fun hr6 => ?_)
                · intro x93 w a H hE
                  try dsimp only at H hE
                  unfold V_ladinglaw09_MvccLast_r6 at H
                  refine hE.pur (X.assign hE rfl) fun a hE => ?_
                  refine C.nil (tn ?_)
                  exact C.ret (C.ret1 hE rfl rfl ⟨_, rfl, H⟩)
                · rcases Bool.eq_false_or_eq_true (x88) with hbr6 | hbr6
                  · replace H := H.1 hbr6
                    replace hE := hE.bool (b := true) (t := 89) rfl (hbr6)
                    refine hE.on (by rfl) (by rfl) ?_
                    refine hE.pur (X.move hE rfl) fun a hE => ?_
                    refine hE.on (by rfl) (by rfl) ?_
                    refine hE.pur (X.move hE rfl) fun a hE => ?_
                    refine hE.on (by rfl) (by rfl) ?_
                    refine hE.op (X.bin hE rfl rfl) H fun x92 w a H hE => ?_
                    refine hE.pur (X.pickT hE rfl rfl) fun a hE => ?_
                    exact hr6 x92 _ _ H (hE.weak ⟨rfl, trivial⟩)
                  · replace H := H.2 hbr6
                    replace hE := hE.bool (b := false) (t := 89) rfl (hbr6)
                    refine hE.off (by rfl) (by rfl) (by decide) (fun a hE => ?_)
                    refine hE.off (by rfl) (by rfl) (by decide) (fun a hE => ?_)
                    refine hE.off (by rfl) (by rfl) (by decide) (fun a hE => ?_)
                    refine hE.pur (X.pickF hE rfl rfl) fun a hE => ?_
                    exact hr6 false _ _ H (hE.weak ⟨rfl, trivial⟩)
              · rcases Bool.eq_false_or_eq_true (x83) with hbr5 | hbr5
                · replace H := H.1 hbr5
                  replace hE := hE.bool (b := true) (t := 84) rfl (hbr5)
                  refine hE.on (by rfl) (by rfl) ?_
                  refine hE.pur (X.move hE rfl) fun a hE => ?_
                  refine hE.on (by rfl) (by rfl) ?_
                  refine hE.pur (X.move hE rfl) fun a hE => ?_
                  refine hE.on (by rfl) (by rfl) ?_
                  refine hE.pur (X.eqS hE rfl rfl) fun a hE => ?_
                  refine hE.pur (X.pickT hE rfl rfl) fun a hE => ?_
                  exact hr5 (decide (r_6 = r_9)) _ _ H (hE.weak ⟨rfl, rfl, rfl, trivial⟩)
                · replace H := H.2 hbr5
                  replace hE := hE.bool (b := false) (t := 84) rfl (hbr5)
                  refine hE.off (by rfl) (by rfl) (by decide) (fun a hE => ?_)
                  refine hE.off (by rfl) (by rfl) (by decide) (fun a hE => ?_)
                  refine hE.off (by rfl) (by rfl) (by decide) (fun a hE => ?_)
                  refine hE.pur (X.pickF hE rfl rfl) fun a hE => ?_
                  exact hr5 false _ _ H (hE.weak ⟨rfl, rfl, rfl, trivial⟩)
            · rcases Classical.em ((r_8 = 0)) with hbr4 | hbr4
              · replace H := H.1 hbr4
                replace hE := hE.bool (b := true) (t := 80) rfl (decide_eq_true hbr4)
                refine hE.on (by rfl) (by rfl) ?_
                refine hE.pur (X.move hE rfl) fun a hE => ?_
                refine hE.on (by rfl) (by rfl) ?_
                refine hE.pur (X.eqI hE rfl rfl) fun a hE => ?_
                refine hE.pur (X.pickT hE rfl rfl) fun a hE => ?_
                exact hr4 (decide (r_11 = 0)) _ _ H (hE.weak ⟨rfl, rfl, rfl, rfl, rfl, trivial⟩)
              · replace H := H.2 hbr4
                replace hE := hE.bool (b := false) (t := 80) rfl (decide_eq_false hbr4)
                refine hE.off (by rfl) (by rfl) (by decide) (fun a hE => ?_)
                refine hE.off (by rfl) (by rfl) (by decide) (fun a hE => ?_)
                refine hE.pur (X.pickF hE rfl rfl) fun a hE => ?_
                exact hr4 false _ _ H (hE.weak ⟨rfl, rfl, rfl, rfl, rfl, trivial⟩)
        · rcases Classical.em ((x2 < r_1)) with hbr3 | hbr3
          · replace H := H.1 hbr3
            replace hE := hE.bool (b := true) (t := 56) rfl (decide_eq_true hbr3)
            refine hE.off (by rfl) (by rfl) (by decide) (fun a hE => ?_)
            refine hE.off (by rfl) (by rfl) (by decide) (fun a hE => ?_)
            refine hE.off (by rfl) (by rfl) (by decide) (fun a hE => ?_)
            refine hE.off (by rfl) (by rfl) (by decide) (fun a hE => ?_)
            refine hE.pur (X.pickT hE rfl rfl) fun a hE => ?_
            exact hr3 true _ _ H (hE.weak ⟨rfl, rfl, rfl, rfl, rfl, trivial⟩)
          · replace H := H.2 hbr3
            replace hE := hE.bool (b := false) (t := 56) rfl (decide_eq_false hbr3)
            refine hE.on (by rfl) (by rfl) ?_
            refine hE.pur (X.move hE rfl) fun a hE => ?_
            refine hE.on (by rfl) (by rfl) ?_
            refine hE.op (X.fieldAddr hE rfl) H fun x58 w a H hE => ?_
            refine hE.on (by rfl) (by rfl) ?_
            refine hE.op (X.load hE rfl) H fun x59 w a H hE => ?_
            refine hE.on (by rfl) (by rfl) ?_
            refine hE.pur (X.ltI hE rfl rfl) fun a hE => ?_
            refine hE.pur (X.pickF hE rfl rfl) fun a hE => ?_
            exact hr3 (decide (r_1 < x59)) _ _ H (hE.weak ⟨rfl, rfl, rfl, rfl, rfl, trivial⟩)
end Go.Proofs.Ytealcoghiaeiiaa.VG
