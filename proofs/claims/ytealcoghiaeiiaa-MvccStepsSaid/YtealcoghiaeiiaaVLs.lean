/- Verification conditions, by program (gen.py), of functions of the loaded program, each with the proof that it gives the call; no condition. -/
import Derived.Test.YtealcoghiaeiiaaVS
set_option linter.unusedVariables false
set_option linter.unusedSimpArgs false
namespace Go.Proofs.Ytealcoghiaeiiaa.VG
open Go.VB Go.Proofs

/-! ### lading ladinglaw09.MvccSteps: function 6 -/
def V_ladinglaw09_MvccSteps_r2 (Ret : Bool → World → Prop) (x53 : Bool) (w : World) : Prop :=
  Ret x53 w
def V_ladinglaw09_MvccSteps_r5 (Ret : Bool → World → Prop) (x77 : Bool) (w : World) : Prop :=
  Ret x77 w
def V_ladinglaw09_MvccSteps_r4 (Ret : Bool → World → Prop) (x11 : Option Addr) (x13 : Option Addr) (x72 : Bool) (w : World) : Prop :=
  (x72 = true → (opE Try.prog T_api_Versions.v (Instr.loadAt 25 (.pointer x13)) w (fun x74 w => opE Try.prog T_api_Versions.v (Instr.loadAt 25 (.pointer x11)) w (fun x75 w => Cl Try.prog 16 [(T_api_Versions.v x74), (T_api_Versions.v x75)].toArray w (fun e w => ∃ (r_9 : Bool), e = .returned (.bool r_9) ∧ (V_ladinglaw09_MvccSteps_r5 Ret r_9 w)))))) ∧ (x72 = false → (V_ladinglaw09_MvccSteps_r5 Ret false w))
def V_ladinglaw09_MvccSteps_r3 (Ret : Bool → World → Prop) (x11 : Option Addr) (r_8 : Int) (x13 : Option Addr) (x68 : Bool) (w : World) : Prop :=
  (x68 = true → (V_ladinglaw09_MvccSteps_r4 Ret x11 x13 (decide (r_8 = 0)) w)) ∧ (x68 = false → (V_ladinglaw09_MvccSteps_r4 Ret x11 x13 false w))
def V_ladinglaw09_MvccSteps_r1 (x1 : Int) (x2 : Int) (Ret : Bool → World → Prop) (r_2 : Int) (r_4 : Int) (x9 : Option Addr) (r_6 : Int) (x11 : Option Addr) (x46 : Bool) (w : World) : Prop :=
  (x46 = true → (((r_2 ≠ 0) → (V_ladinglaw09_MvccSteps_r2 Ret true w)) ∧ (¬ (r_2 ≠ 0) → (V_ladinglaw09_MvccSteps_r2 Ret (decide (r_4 = r_6)) w)))) ∧ (x46 = false → (opE Try.prog T_api_Versions.v (Instr.loadAt 25 (.pointer x11)) w (fun x55 w => Cl Try.prog 13 [(T_api_Versions.v x55), (.int .u64 (if x1 < x2 then x2 else x1))].toArray w (fun e w => ∃ (r_7 : T_api_Versions) (r_8 : Int), e = .returned (.tuple [(T_api_Versions.v r_7), (.int .i64 r_8)].toArray) ∧ (opE Try.prog Value.pointer (Instr.alloc 25 true (.tuple #[])) w (fun x13 w => opU Try.prog (Instr.storeAt 25 (.pointer x13) (T_api_Versions.v r_7)) w (fun w => ((r_6 = 0) → (opE Try.prog T_api_Versions.v (Instr.loadAt 25 (.pointer x9)) w (fun x65 w => opE Try.prog T_api_Versions.v (Instr.loadAt 25 (.pointer x11)) w (fun x66 w => Cl Try.prog 16 [(T_api_Versions.v x65), (T_api_Versions.v x66)].toArray w (fun e w => ∃ (r_10 : Bool), e = .returned (.bool r_10) ∧ (V_ladinglaw09_MvccSteps_r3 Ret x11 r_8 x13 r_10 w)))))) ∧ (¬ (r_6 = 0) → (V_ladinglaw09_MvccSteps_r3 Ret x11 r_8 x13 false w)))))))))
def V_ladinglaw09_MvccSteps (x0 : T_api_Versions) (x1 : Int) (x2 : Int) (w : World) (Ret : Bool → World → Prop) : Prop :=
  opE Try.prog Value.pointer (Instr.box 25 (T_api_Versions.v x0)) w (fun x3 w => Cl Try.prog 15 [].toArray w (fun e w => ∃ (r : Bool), e = .returned (.bool r) ∧ (((!r) = true → (Ret false w)) ∧ ((!r) = false → (opE Try.prog T_api_Versions.v (Instr.loadAt 25 (.pointer x3)) w (fun x18 w => Cl Try.prog 13 [(T_api_Versions.v x18), (.int .u64 (if x2 < x1 then x2 else x1))].toArray w (fun e w => ∃ (r_1 : T_api_Versions) (r_2 : Int), e = .returned (.tuple [(T_api_Versions.v r_1), (.int .i64 r_2)].toArray) ∧ (opE Try.prog Value.pointer (Instr.alloc 25 true (.tuple #[])) w (fun x7 w => opU Try.prog (Instr.storeAt 25 (.pointer x7) (T_api_Versions.v r_1)) w (fun w => opE Try.prog T_api_Versions.v (Instr.loadAt 25 (.pointer x7)) w (fun x26 w => Cl Try.prog 13 [(T_api_Versions.v x26), (.int .u64 (if x1 < x2 then x2 else x1))].toArray w (fun e w => ∃ (r_3 : T_api_Versions) (r_4 : Int), e = .returned (.tuple [(T_api_Versions.v r_3), (.int .i64 r_4)].toArray) ∧ (opE Try.prog Value.pointer (Instr.alloc 25 true (.tuple #[])) w (fun x9 w => opU Try.prog (Instr.storeAt 25 (.pointer x9) (T_api_Versions.v r_3)) w (fun w => opE Try.prog T_api_Versions.v (Instr.loadAt 25 (.pointer x3)) w (fun x34 w => Cl Try.prog 13 [(T_api_Versions.v x34), (.int .u64 (if x1 < x2 then x2 else x1))].toArray w (fun e w => ∃ (r_5 : T_api_Versions) (r_6 : Int), e = .returned (.tuple [(T_api_Versions.v r_5), (.int .i64 r_6)].toArray) ∧ (opE Try.prog Value.pointer (Instr.alloc 25 true (.tuple #[])) w (fun x11 w => opU Try.prog (Instr.storeAt 25 (.pointer x11) (T_api_Versions.v r_5)) w (fun w => ((r_2 ≠ 0) → (V_ladinglaw09_MvccSteps_r1 x1 x2 Ret r_2 r_4 x9 r_6 x11 true w)) ∧ (¬ (r_2 ≠ 0) → (V_ladinglaw09_MvccSteps_r1 x1 x2 Ret r_2 r_4 x9 r_6 x11 (decide (r_4 ≠ 0)) w))))))))))))))))))))))
set_option maxRecDepth 100000 in
theorem L1_ladinglaw09_MvccSteps (x0 : T_api_Versions) (x1 : Int) (x2 : Int) (w : World) (Ret : Bool → World → Prop) (H : V_ladinglaw09_MvccSteps x0 x1 x2 w Ret) : Cl Try.prog 6 [(T_api_Versions.v x0), (.int .u64 x1), (.int .u64 x2)].toArray w (fun e w' => ∃ (r0 : Bool), e = .returned (.bool r0) ∧ Ret r0 w') := by
  unfold V_ladinglaw09_MvccSteps at H
  refine C.enter 78 (zipE 0 [(T_api_Versions.v x0), (.int .u64 x1), (.int .u64 x2)]) Try.func6 rfl rfl (by rfl) rfl ?_
  intro a hE
  replace hE : Sat [] 78 [(0, (T_api_Versions.v x0)), (1, (.int .u64 x1)), (2, (.int .u64 x2))] a := hE
  refine C.seq ?_
  refine C.region ?_
  refine hE.op (X.box hE rfl) H fun x3 w a H hE => ?_
  refine hE.pur (X.assign hE rfl) fun a hE => ?_
  refine C.nil (tn ?_)
  refine C.seq ?_
  refine C.seq ?_
  refine C.region ?_
  refine hE.call (X.callF hE ent15 rfl rfl) H fun e w H => ?_
  obtain ⟨r, rfl, H⟩ := H
  refine ⟨_, rfl, fun a hE => ?_⟩
  refine hE.pur (X.not hE rfl) fun a hE => ?_
  refine C.nil (tn ?_)
  refine C.condB hE rfl (fun hc => ?_) (fun hc => ?_)
  · replace H := H.1 hc
    refine C.seq ?_
    refine C.region ?_
    refine hE.pur (X.assign hE rfl) fun a hE => ?_
    refine C.nil (tn ?_)
    exact C.ret (tr (C.ret1 hE rfl rfl ⟨_, rfl, H⟩))
  · replace H := H.2 hc
    refine C.skip (tn ?_)
    refine C.seq ?_
    refine C.region ?_
    refine hE.op (X.load hE rfl) H fun x18 w a H hE => ?_
    refine hE.pur (X.move hE rfl) fun a hE => ?_
    refine hE.pur (X.move hE rfl) fun a hE => ?_
    refine hE.pur (X.minI hE rfl rfl) fun a hE => ?_
    refine hE.call (X.callF hE ent13 rfl rfl) H fun e w H => ?_
    obtain ⟨r_1, r_2, rfl, H⟩ := H
    refine ⟨_, rfl, fun a hE => ?_⟩
    refine hE.pur (X.move hE rfl) fun a hE => ?_
    refine hE.pur (X.extract hE rfl rfl) fun a hE => ?_
    refine hE.pur (X.extract hE rfl rfl) fun a hE => ?_
    refine hE.op (X.alloc) H fun x7 w a H hE => ?_
    refine hE.opu (X.store hE rfl rfl) H fun w a H hE => ?_
    refine hE.pur (X.assign hE rfl) fun a hE => ?_
    refine C.nil (tn ?_)
    refine C.seq ?_
    refine C.region ?_
    refine hE.op (X.load hE rfl) H fun x26 w a H hE => ?_
    refine hE.pur (X.move hE rfl) fun a hE => ?_
    refine hE.pur (X.move hE rfl) fun a hE => ?_
    refine hE.pur (X.maxI hE rfl rfl) fun a hE => ?_
    refine hE.call (X.callF hE ent13 rfl rfl) H fun e w H => ?_
    obtain ⟨r_3, r_4, rfl, H⟩ := H
    refine ⟨_, rfl, fun a hE => ?_⟩
    refine hE.pur (X.move hE rfl) fun a hE => ?_
    refine hE.pur (X.extract hE rfl rfl) fun a hE => ?_
    refine hE.pur (X.extract hE rfl rfl) fun a hE => ?_
    refine hE.op (X.alloc) H fun x9 w a H hE => ?_
    refine hE.opu (X.store hE rfl rfl) H fun w a H hE => ?_
    refine hE.pur (X.assign hE rfl) fun a hE => ?_
    refine C.nil (tn ?_)
    refine C.seq ?_
    refine C.region ?_
    refine hE.op (X.load hE rfl) H fun x34 w a H hE => ?_
    refine hE.pur (X.move hE rfl) fun a hE => ?_
    refine hE.pur (X.move hE rfl) fun a hE => ?_
    refine hE.pur (X.maxI hE rfl rfl) fun a hE => ?_
    refine hE.call (X.callF hE ent13 rfl rfl) H fun e w H => ?_
    obtain ⟨r_5, r_6, rfl, H⟩ := H
    refine ⟨_, rfl, fun a hE => ?_⟩
    refine hE.pur (X.move hE rfl) fun a hE => ?_
    refine hE.pur (X.extract hE rfl rfl) fun a hE => ?_
    refine hE.pur (X.extract hE rfl rfl) fun a hE => ?_
    refine hE.op (X.alloc) H fun x11 w a H hE => ?_
    refine hE.opu (X.store hE rfl rfl) H fun w a H hE => ?_
    refine hE.pur (X.assign hE rfl) fun a hE => ?_
    refine C.nil (tn ?_)
    refine C.seq ?_
    refine C.seq ?_
    refine C.region ?_
    refine hE.pur (X.move hE rfl) fun a hE => ?_
    refine hE.pur (X.neI hE rfl rfl) fun a hE => ?_
    refine hE.pur (X.move hE rfl) fun a hE => ?_
    refine WL.join (ds := []) (N := 78) (σ := Bool) (fun s => [(46, (.bool s)), (1, (.int .u64 x1)), (2, (.int .u64 x2)), (8, (.int .i64 r_2)), (9, (.pointer x9)), (10, (.int .i64 r_4)), (11, (.pointer x11)), (12, (.int .i64 r_6))]) (fun s w => V_ladinglaw09_MvccSteps_r1 x1 x2 Ret r_2 r_4 x9 r_6 x11 s w) 3 ?_ (fun hr1 => ?_)
    · intro x46 w a H hE
      try dsimp only at H hE
      unfold V_ladinglaw09_MvccSteps_r1 at H
      refine C.nil (tn ?_)
      refine C.condB hE rfl (fun hc => ?_) (fun hc => ?_)
      · replace H := H.1 hc
        refine C.seq ?_
        refine C.region ?_
        refine hE.pur (X.move hE rfl) fun a hE => ?_
        refine hE.pur (X.neI hE rfl rfl) fun a hE => ?_
        refine hE.pur (X.move hE rfl) fun a hE => ?_
        refine WL.join (ds := []) (N := 78) (σ := Bool) (fun s => [(53, (.bool s))]) (fun s w => V_ladinglaw09_MvccSteps_r2 Ret s w) 4 ?_ (fun hr2 => ?_)
        · intro x53 w a H hE
          try dsimp only at H hE
          unfold V_ladinglaw09_MvccSteps_r2 at H
          refine hE.pur (X.assign hE rfl) fun a hE => ?_
          refine C.nil (tn ?_)
          exact C.ret (tr (C.ret1 hE rfl rfl ⟨_, rfl, H⟩))
        · rcases Classical.em ((r_2 ≠ 0)) with hbr2 | hbr2
          · replace H := H.1 hbr2
            replace hE := hE.bool (b := true) (t := 49) rfl (decide_eq_true hbr2)
            refine hE.off (by rfl) (by rfl) (by decide) (fun a hE => ?_)
            refine hE.off (by rfl) (by rfl) (by decide) (fun a hE => ?_)
            refine hE.off (by rfl) (by rfl) (by decide) (fun a hE => ?_)
            refine hE.pur (X.pickT hE rfl rfl) fun a hE => ?_
            exact hr2 true _ _ H (hE.weak ⟨rfl, trivial⟩)
          · replace H := H.2 hbr2
            replace hE := hE.bool (b := false) (t := 49) rfl (decide_eq_false hbr2)
            refine hE.on (by rfl) (by rfl) ?_
            refine hE.pur (X.move hE rfl) fun a hE => ?_
            refine hE.on (by rfl) (by rfl) ?_
            refine hE.pur (X.move hE rfl) fun a hE => ?_
            refine hE.on (by rfl) (by rfl) ?_
            refine hE.pur (X.eqI hE rfl rfl) fun a hE => ?_
            refine hE.pur (X.pickF hE rfl rfl) fun a hE => ?_
            exact hr2 (decide (r_4 = r_6)) _ _ H (hE.weak ⟨rfl, trivial⟩)
      · replace H := H.2 hc
        refine C.skip (tn ?_)
        refine C.seq ?_
        refine C.region ?_
        refine hE.op (X.load hE rfl) H fun x55 w a H hE => ?_
        refine hE.pur (X.move hE rfl) fun a hE => ?_
        refine hE.pur (X.move hE rfl) fun a hE => ?_
        refine hE.pur (X.maxI hE rfl rfl) fun a hE => ?_
        refine hE.call (X.callF hE ent13 rfl rfl) H fun e w H => ?_
        obtain ⟨r_7, r_8, rfl, H⟩ := H
        refine ⟨_, rfl, fun a hE => ?_⟩
        refine hE.pur (X.move hE rfl) fun a hE => ?_
        refine hE.pur (X.extract hE rfl rfl) fun a hE => ?_
        refine hE.pur (X.extract hE rfl rfl) fun a hE => ?_
        refine hE.op (X.alloc) H fun x13 w a H hE => ?_
        refine hE.opu (X.store hE rfl rfl) H fun w a H hE => ?_
        refine hE.pur (X.assign hE rfl) fun a hE => ?_
        refine C.nil (tn ?_)
        refine C.seq ?_
        refine C.region ?_
        refine hE.pur (X.move hE rfl) fun a hE => ?_
        refine hE.pur (X.eqI hE rfl rfl) fun a hE => ?_
        refine hE.pur (X.move hE rfl) fun a hE => ?_
        refine WL.join (ds := []) (N := 78) (σ := Bool) (fun s => [(68, (.bool s)), (11, (.pointer x11)), (13, (.pointer x13)), (14, (.int .i64 r_8))]) (fun s w => V_ladinglaw09_MvccSteps_r3 Ret x11 r_8 x13 s w) 4 ?_ (fun hr3 => ?_)
        · intro x68 w a H hE
          try dsimp only at H hE
          unfold V_ladinglaw09_MvccSteps_r3 at H
          refine hE.pur (X.move hE rfl) fun a hE => ?_
          refine WL.join (ds := []) (N := 78) (σ := Bool) (fun s => [(72, (.bool s)), (11, (.pointer x11)), (13, (.pointer x13))]) (fun s w => V_ladinglaw09_MvccSteps_r4 Ret x11 x13 s w) 3 ?_ (fun hr4 => ?_)
          · intro x72 w a H hE
            try dsimp only at H hE
            unfold V_ladinglaw09_MvccSteps_r4 at H
            refine hE.pur (X.move hE rfl) fun a hE => ?_
            refine WL.join (ds := []) (N := 78) (σ := Bool) (fun s => [(77, (.bool s))]) (fun s w => V_ladinglaw09_MvccSteps_r5 Ret s w) 4 ?_ (fun hr5 => ?_)
            · intro x77 w a H hE
              try dsimp only at H hE
              unfold V_ladinglaw09_MvccSteps_r5 at H
              refine hE.pur (X.assign hE rfl) fun a hE => ?_
              refine C.nil (tn ?_)
              exact C.ret (C.ret1 hE rfl rfl ⟨_, rfl, H⟩)
            · rcases Bool.eq_false_or_eq_true (x72) with hbr5 | hbr5
              · replace H := H.1 hbr5
                replace hE := hE.bool (b := true) (t := 73) rfl (hbr5)
                refine hE.on (by rfl) (by rfl) ?_
                refine hE.op (X.load hE rfl) H fun x74 w a H hE => ?_
                refine hE.on (by rfl) (by rfl) ?_
                refine hE.op (X.load hE rfl) H fun x75 w a H hE => ?_
                refine hE.on (by rfl) (by rfl) ?_
                refine hE.call (X.callF hE ent16 rfl rfl) H fun e w H => ?_
                obtain ⟨r_9, rfl, H⟩ := H
                refine ⟨_, rfl, fun a hE => ?_⟩
                refine hE.pur (X.pickT hE rfl rfl) fun a hE => ?_
                exact hr5 r_9 _ _ H (hE.weak ⟨rfl, trivial⟩)
              · replace H := H.2 hbr5
                replace hE := hE.bool (b := false) (t := 73) rfl (hbr5)
                refine hE.off (by rfl) (by rfl) (by decide) (fun a hE => ?_)
                refine hE.off (by rfl) (by rfl) (by decide) (fun a hE => ?_)
                refine hE.off (by rfl) (by rfl) (by decide) (fun a hE => ?_)
                refine hE.pur (X.pickF hE rfl rfl) fun a hE => ?_
                exact hr5 false _ _ H (hE.weak ⟨rfl, trivial⟩)
          · rcases Bool.eq_false_or_eq_true (x68) with hbr4 | hbr4
            · replace H := H.1 hbr4
              replace hE := hE.bool (b := true) (t := 69) rfl (hbr4)
              refine hE.on (by rfl) (by rfl) ?_
              refine hE.pur (X.move hE rfl) fun a hE => ?_
              refine hE.on (by rfl) (by rfl) ?_
              refine hE.pur (X.eqI hE rfl rfl) fun a hE => ?_
              refine hE.pur (X.pickT hE rfl rfl) fun a hE => ?_
              exact hr4 (decide (r_8 = 0)) _ _ H (hE.weak ⟨rfl, rfl, rfl, trivial⟩)
            · replace H := H.2 hbr4
              replace hE := hE.bool (b := false) (t := 69) rfl (hbr4)
              refine hE.off (by rfl) (by rfl) (by decide) (fun a hE => ?_)
              refine hE.off (by rfl) (by rfl) (by decide) (fun a hE => ?_)
              refine hE.pur (X.pickF hE rfl rfl) fun a hE => ?_
              exact hr4 false _ _ H (hE.weak ⟨rfl, rfl, rfl, trivial⟩)
        · rcases Classical.em ((r_6 = 0)) with hbr3 | hbr3
          · replace H := H.1 hbr3
            replace hE := hE.bool (b := true) (t := 64) rfl (decide_eq_true hbr3)
            refine hE.on (by rfl) (by rfl) ?_
            refine hE.op (X.load hE rfl) H fun x65 w a H hE => ?_
            refine hE.on (by rfl) (by rfl) ?_
            refine hE.op (X.load hE rfl) H fun x66 w a H hE => ?_
            refine hE.on (by rfl) (by rfl) ?_
            refine hE.call (X.callF hE ent16 rfl rfl) H fun e w H => ?_
            obtain ⟨r_10, rfl, H⟩ := H
            refine ⟨_, rfl, fun a hE => ?_⟩
            refine hE.pur (X.pickT hE rfl rfl) fun a hE => ?_
            exact hr3 r_10 _ _ H (hE.weak ⟨rfl, rfl, rfl, rfl, trivial⟩)
          · replace H := H.2 hbr3
            replace hE := hE.bool (b := false) (t := 64) rfl (decide_eq_false hbr3)
            refine hE.off (by rfl) (by rfl) (by decide) (fun a hE => ?_)
            refine hE.off (by rfl) (by rfl) (by decide) (fun a hE => ?_)
            refine hE.off (by rfl) (by rfl) (by decide) (fun a hE => ?_)
            refine hE.pur (X.pickF hE rfl rfl) fun a hE => ?_
            exact hr3 false _ _ H (hE.weak ⟨rfl, rfl, rfl, rfl, trivial⟩)
    · rcases Classical.em ((r_2 ≠ 0)) with hbr1 | hbr1
      · replace H := H.1 hbr1
        replace hE := hE.bool (b := true) (t := 43) rfl (decide_eq_true hbr1)
        refine hE.off (by rfl) (by rfl) (by decide) (fun a hE => ?_)
        refine hE.off (by rfl) (by rfl) (by decide) (fun a hE => ?_)
        refine hE.pur (X.pickT hE rfl rfl) fun a hE => ?_
        exact hr1 true _ _ H (hE.weak ⟨rfl, rfl, rfl, rfl, rfl, rfl, rfl, rfl, trivial⟩)
      · replace H := H.2 hbr1
        replace hE := hE.bool (b := false) (t := 43) rfl (decide_eq_false hbr1)
        refine hE.on (by rfl) (by rfl) ?_
        refine hE.pur (X.move hE rfl) fun a hE => ?_
        refine hE.on (by rfl) (by rfl) ?_
        refine hE.pur (X.neI hE rfl rfl) fun a hE => ?_
        refine hE.pur (X.pickF hE rfl rfl) fun a hE => ?_
        exact hr1 (decide (r_4 ≠ 0)) _ _ H (hE.weak ⟨rfl, rfl, rfl, rfl, rfl, rfl, rfl, rfl, trivial⟩)
end Go.Proofs.Ytealcoghiaeiiaa.VG
