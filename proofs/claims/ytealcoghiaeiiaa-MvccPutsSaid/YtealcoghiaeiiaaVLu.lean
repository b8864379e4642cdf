/- Verification conditions, by program (gen.py), of functions of the loaded program, each with the proof that it gives the call; no condition. -/
import Derived.Test.YtealcoghiaeiiaaVS
set_option linter.unusedVariables false
set_option linter.unusedSimpArgs false
namespace Go.Proofs.Ytealcoghiaeiiaa.VG
open Go.VB Go.Proofs

/-! ### lading ladinglaw09.MvccPuts: function 3 -/
def V_ladinglaw09_MvccPuts_r5 (Ret : Bool → World → Prop) (x69 : Bool) (w : World) : Prop :=
  Ret x69 w
def V_ladinglaw09_MvccPuts_r4 (Ret : Bool → World → Prop) (x3 : Option Addr) (x7 : Option Addr) (x64 : Bool) (w : World) : Prop :=
  (x64 = true → (opE Try.prog T_api_Versions.v (Instr.loadAt 25 (.pointer x7)) w (fun x66 w => opE Try.prog T_api_Versions.v (Instr.loadAt 25 (.pointer x3)) w (fun x67 w => Cl Try.prog 16 [(T_api_Versions.v x66), (T_api_Versions.v x67)].toArray w (fun e w => ∃ (r_10 : Bool), e = .returned (.bool r_10) ∧ (V_ladinglaw09_MvccPuts_r5 Ret r_10 w)))))) ∧ (x64 = false → (V_ladinglaw09_MvccPuts_r5 Ret false w))
def V_ladinglaw09_MvccPuts_r3 (Ret : Bool → World → Prop) (x3 : Option Addr) (x7 : Option Addr) (r_6 : Int) (r_8 : Int) (x59 : Bool) (w : World) : Prop :=
  (x59 = true → (V_ladinglaw09_MvccPuts_r4 Ret x3 x7 (decide (r_6 = r_8)) w)) ∧ (x59 = false → (V_ladinglaw09_MvccPuts_r4 Ret x3 x7 false w))
def V_ladinglaw09_MvccPuts_r2 (Ret : Bool → World → Prop) (x3 : Option Addr) (x7 : Option Addr) (r_6 : Int) (x12 : Option Addr) (r_8 : Int) (x14 : Option Addr) (x54 : Bool) (w : World) : Prop :=
  (x54 = true → (opE Try.prog T_api_Versions.v (Instr.loadAt 25 (.pointer x12)) w (fun x56 w => opE Try.prog T_api_Versions.v (Instr.loadAt 25 (.pointer x14)) w (fun x57 w => Cl Try.prog 16 [(T_api_Versions.v x56), (T_api_Versions.v x57)].toArray w (fun e w => ∃ (r_11 : Bool), e = .returned (.bool r_11) ∧ (V_ladinglaw09_MvccPuts_r3 Ret x3 x7 r_6 r_8 r_11 w)))))) ∧ (x54 = false → (V_ladinglaw09_MvccPuts_r3 Ret x3 x7 r_6 r_8 false w))
def V_ladinglaw09_MvccPuts_r1 (Ret : Bool → World → Prop) (x3 : Option Addr) (x7 : Option Addr) (r_2 : Int) (r_4 : Int) (r_6 : Int) (x12 : Option Addr) (r_8 : Int) (x14 : Option Addr) (x49 : Bool) (w : World) : Prop :=
  (x49 = true → (V_ladinglaw09_MvccPuts_r2 Ret x3 x7 r_6 x12 r_8 x14 (decide (r_2 = r_4)) w)) ∧ (x49 = false → (V_ladinglaw09_MvccPuts_r2 Ret x3 x7 r_6 x12 r_8 x14 false w))
def V_ladinglaw09_MvccPuts (x0 : T_api_Versions) (x1 : Sl) (x2 : Int) (w : World) (Ret : Bool → World → Prop) : Prop :=
  opE Try.prog Value.pointer (Instr.box 25 (T_api_Versions.v x0)) w (fun x3 w => opE Try.prog T_api_Versions.v (Instr.loadAt 25 (.pointer x3)) w (fun x16 w => Cl Try.prog 10 [(T_api_Versions.v x16)].toArray w (fun e w => ∃ (r : T_api_Versions), e = .returned (T_api_Versions.v r) ∧ (opE Try.prog Value.pointer (Instr.alloc 25 true (.tuple #[])) w (fun x7 w => opU Try.prog (Instr.storeAt 25 (.pointer x7) (T_api_Versions.v r)) w (fun w => opE Try.prog T_api_Versions.v (Instr.loadAt 25 (.pointer x7)) w (fun x19 w => Cl Try.prog 11 [(T_api_Versions.v x19), (Sl.v x1), (.int .u64 x2)].toArray w (fun e w => ∃ (r_1 : T_api_Versions) (r_2 : Int), e = .returned (.tuple [(T_api_Versions.v r_1), (.int .i64 r_2)].toArray) ∧ (opE Try.prog Value.pointer (Instr.alloc 25 true (.tuple #[])) w (fun x8 w => opU Try.prog (Instr.storeAt 25 (.pointer x8) (T_api_Versions.v r_1)) w (fun w => opE Try.prog T_api_Versions.v (Instr.loadAt 25 (.pointer x3)) w (fun x26 w => Cl Try.prog 12 [(T_api_Versions.v x26), (Sl.v x1), (.int .u64 x2)].toArray w (fun e w => ∃ (r_3 : T_api_Versions) (r_4 : Int), e = .returned (.tuple [(T_api_Versions.v r_3), (.int .i64 r_4)].toArray) ∧ (opE Try.prog Value.pointer (Instr.alloc 25 true (.tuple #[])) w (fun x10 w => opU Try.prog (Instr.storeAt 25 (.pointer x10) (T_api_Versions.v r_3)) w (fun w => opE Try.prog T_api_Versions.v (Instr.loadAt 25 (.pointer x7)) w (fun x33 w => Cl Try.prog 13 [(T_api_Versions.v x33), (.int .u64 x2)].toArray w (fun e w => ∃ (r_5 : T_api_Versions) (r_6 : Int), e = .returned (.tuple [(T_api_Versions.v r_5), (.int .i64 r_6)].toArray) ∧ (opE Try.prog Value.pointer (Instr.alloc 25 true (.tuple #[])) w (fun x12 w => opU Try.prog (Instr.storeAt 25 (.pointer x12) (T_api_Versions.v r_5)) w (fun w => opE Try.prog T_api_Versions.v (Instr.loadAt 25 (.pointer x3)) w (fun x39 w => Cl Try.prog 14 [(T_api_Versions.v x39), (.int .u64 x2)].toArray w (fun e w => ∃ (r_7 : T_api_Versions) (r_8 : Int), e = .returned (.tuple [(T_api_Versions.v r_7), (.int .i64 r_8)].toArray) ∧ (opE Try.prog Value.pointer (Instr.alloc 25 true (.tuple #[])) w (fun x14 w => opU Try.prog (Instr.storeAt 25 (.pointer x14) (T_api_Versions.v r_7)) w (fun w => Cl Try.prog 15 [].toArray w (fun e w => ∃ (r_9 : Bool), e = .returned (.bool r_9) ∧ ((r_9 = true → (opE Try.prog T_api_Versions.v (Instr.loadAt 25 (.pointer x8)) w (fun x46 w => opE Try.prog T_api_Versions.v (Instr.loadAt 25 (.pointer x10)) w (fun x47 w => Cl Try.prog 16 [(T_api_Versions.v x46), (T_api_Versions.v x47)].toArray w (fun e w => ∃ (r_12 : Bool), e = .returned (.bool r_12) ∧ (V_ladinglaw09_MvccPuts_r1 Ret x3 x7 r_2 r_4 r_6 x12 r_8 x14 r_12 w)))))) ∧ (r_9 = false → (V_ladinglaw09_MvccPuts_r1 Ret x3 x7 r_2 r_4 r_6 x12 r_8 x14 false w))))))))))))))))))))))))))))))
set_option maxRecDepth 100000 in
theorem L1_ladinglaw09_MvccPuts (x0 : T_api_Versions) (x1 : Sl) (x2 : Int) (w : World) (Ret : Bool → World → Prop) (H : V_ladinglaw09_MvccPuts x0 x1 x2 w Ret) : Cl Try.prog 3 [(T_api_Versions.v x0), (Sl.v x1), (.int .u64 x2)].toArray w (fun e w' => ∃ (r0 : Bool), e = .returned (.bool r0) ∧ Ret r0 w') := by
  unfold V_ladinglaw09_MvccPuts at H
  refine C.enter 70 (zipE 0 [(T_api_Versions.v x0), (Sl.v x1), (.int .u64 x2)]) Try.func3 rfl rfl (by rfl) rfl ?_
  intro a hE
  replace hE : Sat [] 70 [(0, (T_api_Versions.v x0)), (1, (Sl.v x1)), (2, (.int .u64 x2))] a := hE
  refine C.seq ?_
  refine C.region ?_
  refine hE.op (X.box hE rfl) H fun x3 w a H hE => ?_
  refine hE.pur (X.assign hE rfl) fun a hE => ?_
  refine C.nil (tn ?_)
  refine C.seq ?_
  refine C.region ?_
  refine hE.op (X.load hE rfl) H fun x16 w a H hE => ?_
  refine hE.call (X.callF hE ent10 rfl rfl) H fun e w H => ?_
  obtain ⟨r, rfl, H⟩ := H
  refine ⟨_, rfl, fun a hE => ?_⟩
  refine hE.op (X.alloc) H fun x7 w a H hE => ?_
  refine hE.opu (X.store hE rfl rfl) H fun w a H hE => ?_
  refine C.nil (tn ?_)
  refine C.seq ?_
  refine C.region ?_
  refine hE.op (X.load hE rfl) H fun x19 w a H hE => ?_
  refine hE.pur (X.move hE rfl) fun a hE => ?_
  refine hE.pur (X.move hE rfl) fun a hE => ?_
  refine hE.call (X.callF hE ent11 rfl rfl) H fun e w H => ?_
  obtain ⟨r_1, r_2, rfl, H⟩ := H
  refine ⟨_, rfl, fun a hE => ?_⟩
  refine hE.pur (X.move hE rfl) fun a hE => ?_
  refine hE.pur (X.extract hE rfl rfl) fun a hE => ?_
  refine hE.pur (X.extract hE rfl rfl) fun a hE => ?_
  refine hE.op (X.alloc) H fun x8 w a H hE => ?_
  refine hE.opu (X.store hE rfl rfl) H fun w a H hE => ?_
  refine hE.pur (X.assign hE rfl) fun a hE => ?_
  refine C.nil (tn ?_)
  refine C.seq ?_
  refine C.region ?_
  refine hE.op (X.load hE rfl) H fun x26 w a H hE => ?_
  refine hE.pur (X.move hE rfl) fun a hE => ?_
  refine hE.pur (X.move hE rfl) fun a hE => ?_
  refine hE.call (X.callF hE ent12 rfl rfl) H fun e w H => ?_
  obtain ⟨r_3, r_4, rfl, H⟩ := H
  refine ⟨_, rfl, fun a hE => ?_⟩
  refine hE.pur (X.move hE rfl) fun a hE => ?_
  refine hE.pur (X.extract hE rfl rfl) fun a hE => ?_
  refine hE.pur (X.extract hE rfl rfl) fun a hE => ?_
  refine hE.op (X.alloc) H fun x10 w a H hE => ?_
  refine hE.opu (X.store hE rfl rfl) H fun w a H hE => ?_
  refine hE.pur (X.assign hE rfl) fun a hE => ?_
  refine C.nil (tn ?_)
  refine C.seq ?_
  refine C.region ?_
  refine hE.op (X.load hE rfl) H fun x33 w a H hE => ?_
  refine hE.pur (X.move hE rfl) fun a hE => ?_
  refine hE.call (X.callF hE ent13 rfl rfl) H fun e w H => ?_
  obtain ⟨r_5, r_6, rfl, H⟩ := H
  refine ⟨_, rfl, fun a hE => ?_⟩
  refine hE.pur (X.move hE rfl) fun a hE => ?_
  refine hE.pur (X.extract hE rfl rfl) fun a hE => ?_
  refine hE.pur (X.extract hE rfl rfl) fun a hE => ?_
  refine hE.op (X.alloc) H fun x12 w a H hE => ?_
  refine hE.opu (X.store hE rfl rfl) H fun w a H hE => ?_
  refine hE.pur (X.assign hE rfl) fun a hE => ?_
  refine C.nil (tn ?_)
  refine C.seq ?_
  refine C.region ?_
  refine hE.op (X.load hE rfl) H fun x39 w a H hE => ?_
  refine hE.pur (X.move hE rfl) fun a hE => ?_
  refine hE.call (X.callF hE ent14 rfl rfl) H fun e w H => ?_
  obtain ⟨r_7, r_8, rfl, H⟩ := H
  refine ⟨_, rfl, fun a hE => ?_⟩
  refine hE.pur (X.move hE rfl) fun a hE => ?_
  refine hE.pur (X.extract hE rfl rfl) fun a hE => ?_
  refine hE.pur (X.extract hE rfl rfl) fun a hE => ?_
  refine hE.op (X.alloc) H fun x14 w a H hE => ?_
  refine hE.opu (X.store hE rfl rfl) H fun w a H hE => ?_
  refine hE.pur (X.assign hE rfl) fun a hE => ?_
  refine C.nil (tn ?_)
  refine C.seq ?_
  refine C.region ?_
  refine hE.call (X.callF hE ent15 rfl rfl) H fun e w H => ?_
  obtain ⟨r_9, rfl, H⟩ := H
  refine ⟨_, rfl, fun a hE => ?_⟩
  refine hE.pur (X.move hE rfl) fun a hE => ?_
  refine WL.join (ds := []) (N := 70) (σ := Bool) (fun s => [(49, (.bool s)), (3, (.pointer x3)), (7, (.pointer x7)), (9, (.int .i64 r_2)), (11, (.int .i64 r_4)), (12, (.pointer x12)), (13, (.int .i64 r_6)), (14, (.pointer x14)), (15, (.int .i64 r_8))]) (fun s w => V_ladinglaw09_MvccPuts_r1 Ret x3 x7 r_2 r_4 r_6 x12 r_8 x14 s w) 4 ?_ (fun hr1 => ?_)
  · intro x49 w a H hE
    try dsimp only at H hE
    unfold V_ladinglaw09_MvccPuts_r1 at H
    refine hE.pur (X.move hE rfl) fun a hE => ?_
    refine WL.join (ds := []) (N := 70) (σ := Bool) (fun s => [(54, (.bool s)), (3, (.pointer x3)), (7, (.pointer x7)), (12, (.pointer x12)), (13, (.int .i64 r_6)), (14, (.pointer x14)), (15, (.int .i64 r_8))]) (fun s w => V_ladinglaw09_MvccPuts_r2 Ret x3 x7 r_6 x12 r_8 x14 s w) 4 ?_ (fun hr2 => ?_)
    · intro x54 w a H hE
      try dsimp only at H hE
      unfold V_ladinglaw09_MvccPuts_r2 at H
      refine hE.pur (X.move hE rfl) fun a hE => ?_
      refine WL.join (ds := []) (N := 70) (σ := Bool) (fun s => [(59, (.bool s)), (3, (.pointer x3)), (7, (.pointer x7)), (13, (.int .i64 r_6)), (15, (.int .i64 r_8))]) (fun s w => V_ladinglaw09_MvccPuts_r3 Ret x3 x7 r_6 r_8 s w) 4 ?_ (fun hr3 => ?_)
      · intro x59 w a H hE
        try dsimp only at H hE
        unfold V_ladinglaw09_MvccPuts_r3 at H
        refine hE.pur (X.move hE rfl) fun a hE => ?_
        refine WL.join (ds := []) (N := 70) (σ := Bool) (fun s => [(64, (.bool s)), (3, (.pointer x3)), (7, (.pointer x7))]) (fun s w => V_ladinglaw09_MvccPuts_r4 Ret x3 x7 s w) 4 ?_ (fun hr4 => ?_)
        · intro x64 w a H hE
          try dsimp only at H hE
          unfold V_ladinglaw09_MvccPuts_r4 at H
          refine hE.pur (X.move hE rfl) fun a hE => ?_
          refine WL.join (ds := []) (N := 70) (σ := Bool) (fun s => [(69, (.bool s))]) (fun s w => V_ladinglaw09_MvccPuts_r5 Ret s w) 4 ?_ (fun hr5 => ?_)
          · intro x69 w a H hE
            try dsimp only at H hE
            unfold V_ladinglaw09_MvccPuts_r5 at H
            refine hE.pur (X.assign hE rfl) fun a hE => ?_
            refine C.nil (tn ?_)
            exact C.ret (C.ret1 hE rfl rfl ⟨_, rfl, H⟩)
          · rcases Bool.eq_false_or_eq_true (x64) with hbr5 | hbr5
            · replace H := H.1 hbr5
              replace hE := hE.bool (b := true) (t := 65) rfl (hbr5)
              refine hE.on (by rfl) (by rfl) ?_
              refine hE.op (X.load hE rfl) H fun x66 w a H hE => ?_
              refine hE.on (by rfl) (by rfl) ?_
              refine hE.op (X.load hE rfl) H fun x67 w a H hE => ?_
              refine hE.on (by rfl) (by rfl) ?_
              refine hE.call (X.callF hE ent16 rfl rfl) H fun e w H => ?_
              obtain ⟨r_10, rfl, H⟩ := H
              refine ⟨_, rfl, fun a hE => ?_⟩
              refine hE.pur (X.pickT hE rfl rfl) fun a hE => ?_
              exact hr5 r_10 _ _ H (hE.weak ⟨rfl, trivial⟩)
            · replace H := H.2 hbr5
              replace hE := hE.bool (b := false) (t := 65) rfl (hbr5)
              refine hE.off (by rfl) (by rfl) (by decide) (fun a hE => ?_)
              refine hE.off (by rfl) (by rfl) (by decide) (fun a hE => ?_)
              refine hE.off (by rfl) (by rfl) (by decide) (fun a hE => ?_)
              refine hE.pur (X.pickF hE rfl rfl) fun a hE => ?_
              exact hr5 false _ _ H (hE.weak ⟨rfl, trivial⟩)
        · rcases Bool.eq_false_or_eq_true (x59) with hbr4 | hbr4
          · replace H := H.1 hbr4
            replace hE := hE.bool (b := true) (t := 60) rfl (hbr4)
            refine hE.on (by rfl) (by rfl) ?_
            refine hE.pur (X.move hE rfl) fun a hE => ?_
            refine hE.on (by rfl) (by rfl) ?_
            refine hE.pur (X.move hE rfl) fun a hE => ?_
            refine hE.on (by rfl) (by rfl) ?_
            refine hE.pur (X.eqI hE rfl rfl) fun a hE => ?_
            refine hE.pur (X.pickT hE rfl rfl) fun a hE => ?_
            exact hr4 (decide (r_6 = r_8)) _ _ H (hE.weak ⟨rfl, rfl, rfl, trivial⟩)
          · replace H := H.2 hbr4
            replace hE := hE.bool (b := false) (t := 60) rfl (hbr4)
            refine hE.off (by rfl) (by rfl) (by decide) (fun a hE => ?_)
            refine hE.off (by rfl) (by rfl) (by decide) (fun a hE => ?_)
            refine hE.off (by rfl) (by rfl) (by decide) (fun a hE => ?_)
            refine hE.pur (X.pickF hE rfl rfl) fun a hE => ?_
            exact hr4 false _ _ H (hE.weak ⟨rfl, rfl, rfl, trivial⟩)
      · rcases Bool.eq_false_or_eq_true (x54) with hbr3 | hbr3
        · replace H := H.1 hbr3
          replace hE := hE.bool (b := true) (t := 55) rfl (hbr3)
          refine hE.on (by rfl) (by rfl) ?_
          refine hE.op (X.load hE rfl) H fun x56 w a H hE => ?_
          refine hE.on (by rfl) (by rfl) ?_
          refine hE.op (X.load hE rfl) H fun x57 w a H hE => ?_
          refine hE.on (by rfl) (by rfl) ?_
          refine hE.call (X.callF hE ent16 rfl rfl) H fun e w H => ?_
          obtain ⟨r_11, rfl, H⟩ := H
          refine ⟨_, rfl, fun a hE => ?_⟩
          refine hE.pur (X.pickT hE rfl rfl) fun a hE => ?_
          exact hr3 r_11 _ _ H (hE.weak ⟨rfl, rfl, rfl, rfl, rfl, trivial⟩)
        · replace H := H.2 hbr3
          replace hE := hE.bool (b := false) (t := 55) rfl (hbr3)
          refine hE.off (by rfl) (by rfl) (by decide) (fun a hE => ?_)
          refine hE.off (by rfl) (by rfl) (by decide) (fun a hE => ?_)
          refine hE.off (by rfl) (by rfl) (by decide) (fun a hE => ?_)
          refine hE.pur (X.pickF hE rfl rfl) fun a hE => ?_
          exact hr3 false _ _ H (hE.weak ⟨rfl, rfl, rfl, rfl, rfl, trivial⟩)
    · rcases Bool.eq_false_or_eq_true (x49) with hbr2 | hbr2
      · replace H := H.1 hbr2
        replace hE := hE.bool (b := true) (t := 50) rfl (hbr2)
        refine hE.on (by rfl) (by rfl) ?_
        refine hE.pur (X.move hE rfl) fun a hE => ?_
        refine hE.on (by rfl) (by rfl) ?_
        refine hE.pur (X.move hE rfl) fun a hE => ?_
        refine hE.on (by rfl) (by rfl) ?_
        refine hE.pur (X.eqI hE rfl rfl) fun a hE => ?_
        refine hE.pur (X.pickT hE rfl rfl) fun a hE => ?_
        exact hr2 (decide (r_2 = r_4)) _ _ H (hE.weak ⟨rfl, rfl, rfl, rfl, rfl, rfl, rfl, trivial⟩)
      · replace H := H.2 hbr2
        replace hE := hE.bool (b := false) (t := 50) rfl (hbr2)
        refine hE.off (by rfl) (by rfl) (by decide) (fun a hE => ?_)
        refine hE.off (by rfl) (by rfl) (by decide) (fun a hE => ?_)
        refine hE.off (by rfl) (by rfl) (by decide) (fun a hE => ?_)
        refine hE.pur (X.pickF hE rfl rfl) fun a hE => ?_
        exact hr2 false _ _ H (hE.weak ⟨rfl, rfl, rfl, rfl, rfl, rfl, rfl, trivial⟩)
  · rcases Bool.eq_false_or_eq_true (r_9) with hbr1 | hbr1
    · replace H := H.1 hbr1
      replace hE := hE.bool (b := true) (t := 45) rfl (hbr1)
      refine hE.on (by rfl) (by rfl) ?_
      refine hE.op (X.load hE rfl) H fun x46 w a H hE => ?_
      refine hE.on (by rfl) (by rfl) ?_
      refine hE.op (X.load hE rfl) H fun x47 w a H hE => ?_
      refine hE.on (by rfl) (by rfl) ?_
      refine hE.call (X.callF hE ent16 rfl rfl) H fun e w H => ?_
      obtain ⟨r_12, rfl, H⟩ := H
      refine ⟨_, rfl, fun a hE => ?_⟩
      refine hE.pur (X.pickT hE rfl rfl) fun a hE => ?_
      exact hr1 r_12 _ _ H (hE.weak ⟨rfl, rfl, rfl, rfl, rfl, rfl, rfl, rfl, rfl, trivial⟩)
    · replace H := H.2 hbr1
      replace hE := hE.bool (b := false) (t := 45) rfl (hbr1)
      refine hE.off (by rfl) (by rfl) (by decide) (fun a hE => ?_)
      refine hE.off (by rfl) (by rfl) (by decide) (fun a hE => ?_)
      refine hE.off (by rfl) (by rfl) (by decide) (fun a hE => ?_)
      refine hE.pur (X.pickF hE rfl rfl) fun a hE => ?_
      exact hr1 false _ _ H (hE.weak ⟨rfl, rfl, rfl, rfl, rfl, rfl, rfl, rfl, rfl, trivial⟩)
end Go.Proofs.Ytealcoghiaeiiaa.VG
