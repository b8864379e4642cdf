/- Verification conditions, by program (gen.py), of functions of the loaded program, each with the proof that it gives the call; no condition. -/
import Derived.Test.YtlghlmoifjcgoaaVS
set_option linter.unusedVariables false
set_option linter.unusedSimpArgs false
namespace Go.Proofs.Ytlghlmoifjcgoaa.VG
open Go.VB Go.Proofs

/-! ### lading ladinglaw12.lives: function 12 -/
def V_ladinglaw12_lives_r7 (Ret : Bool → World → Prop) (x64 : Bool) (w : World) : Prop :=
  Ret x64 w
def V_ladinglaw12_lives_r6 (Ret : Bool → World → Prop) (r_8 : Int) (x60 : Bool) (w : World) : Prop :=
  (x60 = true → (V_ladinglaw12_lives_r7 Ret (decide (r_8 = 10)) w)) ∧ (x60 = false → (V_ladinglaw12_lives_r7 Ret false w))
def V_ladinglaw12_lives_r5 (Ret : Bool → World → Prop) (r_3 : Sl) (r_8 : Int) (x55 : Bool) (w : World) : Prop :=
  (x55 = true → (V_ladinglaw12_lives_r6 Ret r_8 (decide ((r_3.len : Int) = 2)) w)) ∧ (x55 = false → (V_ladinglaw12_lives_r6 Ret r_8 false w))
def V_ladinglaw12_lives_r4 (Ret : Bool → World → Prop) (r_3 : Sl) (r_5 : Int) (r_8 : Int) (x51 : Bool) (w : World) : Prop :=
  (x51 = true → (V_ladinglaw12_lives_r5 Ret r_3 r_8 (decide (r_5 = 0)) w)) ∧ (x51 = false → (V_ladinglaw12_lives_r5 Ret r_3 r_8 false w))
def V_ladinglaw12_lives_r3 (Ret : Bool → World → Prop) (r_3 : Sl) (r_4 : Int) (r_5 : Int) (r_8 : Int) (x47 : Bool) (w : World) : Prop :=
  (x47 = true → (V_ladinglaw12_lives_r4 Ret r_3 r_5 r_8 (decide (r_4 = 2)) w)) ∧ (x47 = false → (V_ladinglaw12_lives_r4 Ret r_3 r_5 r_8 false w))
def V_ladinglaw12_lives_r2 (Ret : Bool → World → Prop) (r : Sl) (r_3 : Sl) (r_4 : Int) (r_5 : Int) (r_8 : Int) (x40 : Bool) (w : World) : Prop :=
  (x40 = true → (opE Try.prog Value.pointer (Instr.indexAt 22 (Sl.v r) (.int .i64 1)) w (fun x43 w => opE Try.prog T_api_Event.v (Instr.loadAt 32 (.pointer x43)) w (fun x44 w => opE Try.prog T_api_Event.v (Instr.build 32 [(0, (.string (ByteArray.mk #[97]))), (1, (.int .i64 2)), (2, (.int .i64 2)), (4, (.string (ByteArray.mk #[121])))].toArray) w (fun x45 w => opE Try.prog Value.bool (do eqGuard .eql 32 (.tmp 44) (.tmp 45) (T_api_Event.v x44) (T_api_Event.v x45); binOp .eql 32 (T_api_Event.v x44) (T_api_Event.v x45)) w (fun x46 w => V_ladinglaw12_lives_r3 Ret r_3 r_4 r_5 r_8 x46 w)))))) ∧ (x40 = false → (V_ladinglaw12_lives_r3 Ret r_3 r_4 r_5 r_8 false w))
def V_ladinglaw12_lives_r1 (Ret : Bool → World → Prop) (r : Sl) (r_3 : Sl) (r_4 : Int) (r_5 : Int) (r_8 : Int) (x35 : Bool) (w : World) : Prop :=
  (x35 = true → (V_ladinglaw12_lives_r2 Ret r r_3 r_4 r_5 r_8 (decide ((r.len : Int) = 2)) w)) ∧ (x35 = false → (V_ladinglaw12_lives_r2 Ret r r_3 r_4 r_5 r_8 false w))
def V_ladinglaw12_lives (w : World) (Ret : Bool → World → Prop) : Prop :=
  opE Try.prog Sl.v (Instr.buildSlice 23 2 [(0, (.string (ByteArray.mk #[120]))), (1, (.string (ByteArray.mk #[121])))].toArray) w (fun x11 w => Cl Try.prog 10 [(Sl.v Sl.none), (.string (ByteArray.mk #[97])), (.int .i64 0), (.string (ByteArray.mk #[109])), (Sl.v x11)].toArray w (fun e w => ∃ (r : Sl) (r_1 : Int) (r_2 : Int), e = .returned (.tuple [(Sl.v r), (.int .i64 r_1), (.int .i64 r_2)].toArray) ∧ (opE Try.prog Sl.v (Instr.buildSlice 23 1 [(0, (.string (ByteArray.mk #[122])))].toArray) w (fun x18 w => Cl Try.prog 10 [(Sl.v r), (.string (ByteArray.mk #[97])), (.int .i64 0), (.string (ByteArray.mk #[109])), (Sl.v x18)].toArray w (fun e w => ∃ (r_3 : Sl) (r_4 : Int) (r_5 : Int), e = .returned (.tuple [(Sl.v r_3), (.int .i64 r_4), (.int .i64 r_5)].toArray) ∧ (opE Try.prog Sl.v (Instr.buildSlice 23 1 [(0, (.string (ByteArray.mk #[122])))].toArray) w (fun x25 w => Cl Try.prog 10 [(Sl.v r), (.string (ByteArray.mk #[97])), (.int .i64 0), (.string (ByteArray.mk #[])), (Sl.v x25)].toArray w (fun e w => ∃ (r_6 : Sl) (r_7 : Int) (r_8 : Int), e = .returned (.tuple [(Sl.v r_6), (.int .i64 r_7), (.int .i64 r_8)].toArray) ∧ (((r_1 = 2) → (V_ladinglaw12_lives_r1 Ret r r_3 r_4 r_5 r_8 (decide (r_2 = 0)) w)) ∧ (¬ (r_1 = 2) → (V_ladinglaw12_lives_r1 Ret r r_3 r_4 r_5 r_8 false w)))))))))))
set_option maxRecDepth 100000 in
theorem L1_ladinglaw12_lives (w : World) (Ret : Bool → World → Prop) (H : V_ladinglaw12_lives w Ret) : Cl Try.prog 12 [].toArray w (fun e w' => ∃ (r0 : Bool), e = .returned (.bool r0) ∧ Ret r0 w') := by
  unfold V_ladinglaw12_lives at H
  refine C.enter 65 (zipE 0 []) Try.func12 rfl rfl (by rfl) rfl ?_
  intro a hE
  replace hE : Sat [] 65 [] a := hE
  refine C.seq ?_
  refine C.region ?_
  refine hE.pur (X.assign hE rfl) fun a hE => ?_
  refine C.nil (tn ?_)
  refine C.seq ?_
  refine C.region ?_
  refine hE.op (X.buildSlice hE rfl) H fun x11 w a H hE => ?_
  refine hE.call (X.callF hE ent10 rfl rfl) H fun e w H => ?_
  obtain ⟨r, r_1, r_2, rfl, H⟩ := H
  refine ⟨_, rfl, fun a hE => ?_⟩
  refine hE.pur (X.move hE rfl) fun a hE => ?_
  refine hE.pur (X.extract hE rfl rfl) fun a hE => ?_
  refine hE.pur (X.extract hE rfl rfl) fun a hE => ?_
  refine hE.pur (X.extract hE rfl rfl) fun a hE => ?_
  refine hE.pur (X.assign hE rfl) fun a hE => ?_
  refine hE.pur (X.assign hE rfl) fun a hE => ?_
  refine hE.pur (X.assign hE rfl) fun a hE => ?_
  refine C.nil (tn ?_)
  refine C.seq ?_
  refine C.region ?_
  refine hE.pur (X.move hE rfl) fun a hE => ?_
  refine hE.op (X.buildSlice hE rfl) H fun x18 w a H hE => ?_
  refine hE.call (X.callF hE ent10 rfl rfl) H fun e w H => ?_
  obtain ⟨r_3, r_4, r_5, rfl, H⟩ := H
  refine ⟨_, rfl, fun a hE => ?_⟩
  refine hE.pur (X.move hE rfl) fun a hE => ?_
  refine hE.pur (X.extract hE rfl rfl) fun a hE => ?_
  refine hE.pur (X.extract hE rfl rfl) fun a hE => ?_
  refine hE.pur (X.extract hE rfl rfl) fun a hE => ?_
  refine hE.pur (X.assign hE rfl) fun a hE => ?_
  refine hE.pur (X.assign hE rfl) fun a hE => ?_
  refine hE.pur (X.assign hE rfl) fun a hE => ?_
  refine C.nil (tn ?_)
  refine C.seq ?_
  refine C.region ?_
  refine hE.pur (X.move hE rfl) fun a hE => ?_
  refine hE.op (X.buildSlice hE rfl) H fun x25 w a H hE => ?_
  refine hE.call (X.callF hE ent10 rfl rfl) H fun e w H => ?_
  obtain ⟨r_6, r_7, r_8, rfl, H⟩ := H
  refine ⟨_, rfl, fun a hE => ?_⟩
  refine hE.pur (X.move hE rfl) fun a hE => ?_
  refine hE.pur (X.extract hE rfl rfl) fun a hE => ?_
  refine hE.pur (X.extract hE rfl rfl) fun a hE => ?_
  refine hE.pur (X.extract hE rfl rfl) fun a hE => ?_
  refine hE.pur (X.assign hE rfl) fun a hE => ?_
  refine hE.pur (X.assign hE rfl) fun a hE => ?_
  refine hE.pur (X.assign hE rfl) fun a hE => ?_
  refine C.nil (tn ?_)
  refine C.seq ?_
  refine C.region ?_
  refine hE.pur (X.move hE rfl) fun a hE => ?_
  refine hE.pur (X.eqI hE rfl rfl) fun a hE => ?_
  refine hE.pur (X.move hE rfl) fun a hE => ?_
  refine WL.join (ds := []) (N := 65) (σ := Bool) (fun s => [(35, (.bool s)), (1, (Sl.v r)), (4, (Sl.v r_3)), (5, (.int .i64 r_4)), (6, (.int .i64 r_5)), (9, (.int .i64 r_8))]) (fun s w => V_ladinglaw12_lives_r1 Ret r r_3 r_4 r_5 r_8 s w) 3 ?_ (fun hr1 => ?_)
  · intro x35 w a H hE
    try dsimp only at H hE
    unfold V_ladinglaw12_lives_r1 at H
    refine hE.pur (X.move hE rfl) fun a hE => ?_
    refine WL.join (ds := []) (N := 65) (σ := Bool) (fun s => [(40, (.bool s)), (1, (Sl.v r)), (4, (Sl.v r_3)), (5, (.int .i64 r_4)), (6, (.int .i64 r_5)), (9, (.int .i64 r_8))]) (fun s w => V_ladinglaw12_lives_r2 Ret r r_3 r_4 r_5 r_8 s w) 4 ?_ (fun hr2 => ?_)
    · intro x40 w a H hE
      try dsimp only at H hE
      unfold V_ladinglaw12_lives_r2 at H
      refine hE.pur (X.move hE rfl) fun a hE => ?_
      refine WL.join (ds := []) (N := 65) (σ := Bool) (fun s => [(47, (.bool s)), (4, (Sl.v r_3)), (5, (.int .i64 r_4)), (6, (.int .i64 r_5)), (9, (.int .i64 r_8))]) (fun s w => V_ladinglaw12_lives_r3 Ret r_3 r_4 r_5 r_8 s w) 6 ?_ (fun hr3 => ?_)
      · intro x47 w a H hE
        try dsimp only at H hE
        unfold V_ladinglaw12_lives_r3 at H
        refine hE.pur (X.move hE rfl) fun a hE => ?_
        refine WL.join (ds := []) (N := 65) (σ := Bool) (fun s => [(51, (.bool s)), (4, (Sl.v r_3)), (6, (.int .i64 r_5)), (9, (.int .i64 r_8))]) (fun s w => V_ladinglaw12_lives_r4 Ret r_3 r_5 r_8 s w) 3 ?_ (fun hr4 => ?_)
        · intro x51 w a H hE
          try dsimp only at H hE
          unfold V_ladinglaw12_lives_r4 at H
          refine hE.pur (X.move hE rfl) fun a hE => ?_
          refine WL.join (ds := []) (N := 65) (σ := Bool) (fun s => [(55, (.bool s)), (4, (Sl.v r_3)), (9, (.int .i64 r_8))]) (fun s w => V_ladinglaw12_lives_r5 Ret r_3 r_8 s w) 3 ?_ (fun hr5 => ?_)
          · intro x55 w a H hE
            try dsimp only at H hE
            unfold V_ladinglaw12_lives_r5 at H
            refine hE.pur (X.move hE rfl) fun a hE => ?_
            refine WL.join (ds := []) (N := 65) (σ := Bool) (fun s => [(60, (.bool s)), (9, (.int .i64 r_8))]) (fun s w => V_ladinglaw12_lives_r6 Ret r_8 s w) 4 ?_ (fun hr6 => ?_)
            · intro x60 w a H hE
              try dsimp only at H hE
              unfold V_ladinglaw12_lives_r6 at H
              refine hE.pur (X.move hE rfl) fun a hE => ?_
              refine WL.join (ds := []) (N := 65) (σ := Bool) (fun s => [(64, (.bool s))]) (fun s w => V_ladinglaw12_lives_r7 Ret s w) 3 ?_ (fun hr7 => ?_)
              · intro x64 w a H hE
                try dsimp only at H hE
                unfold V_ladinglaw12_lives_r7 at H
                refine hE.pur (X.assign hE rfl) fun a hE => ?_
                refine C.nil (tn ?_)
                exact C.ret (C.ret1 hE rfl rfl ⟨_, rfl, H⟩)
              · rcases Bool.eq_false_or_eq_true (x60) with hbr7 | hbr7
                · replace H := H.1 hbr7
                  replace hE := hE.bool (b := true) (t := 61) rfl (hbr7)
                  refine hE.on (by rfl) (by rfl) ?_
                  refine hE.pur (X.move hE rfl) fun a hE => ?_
                  refine hE.on (by rfl) (by rfl) ?_
                  refine hE.pur (X.eqI hE rfl rfl) fun a hE => ?_
                  refine hE.pur (X.pickT hE rfl rfl) fun a hE => ?_
                  exact hr7 (decide (r_8 = 10)) _ _ H (hE.weak ⟨rfl, trivial⟩)
                · replace H := H.2 hbr7
                  replace hE := hE.bool (b := false) (t := 61) rfl (hbr7)
                  refine hE.off (by rfl) (by rfl) (by decide) (fun a hE => ?_)
                  refine hE.off (by rfl) (by rfl) (by decide) (fun a hE => ?_)
                  refine hE.pur (X.pickF hE rfl rfl) fun a hE => ?_
                  exact hr7 false _ _ H (hE.weak ⟨rfl, trivial⟩)
            · rcases Bool.eq_false_or_eq_true (x55) with hbr6 | hbr6
              · replace H := H.1 hbr6
                replace hE := hE.bool (b := true) (t := 56) rfl (hbr6)
                refine hE.on (by rfl) (by rfl) ?_
                refine hE.pur (X.move hE rfl) fun a hE => ?_
                refine hE.on (by rfl) (by rfl) ?_
                refine hE.purR (fun w => X.lenL hE Try.underlying22 rfl) fun a hE => ?_
                refine hE.on (by rfl) (by rfl) ?_
                refine hE.pur (X.eqI hE rfl rfl) fun a hE => ?_
                refine hE.pur (X.pickT hE rfl rfl) fun a hE => ?_
                exact hr6 (decide ((r_3.len : Int) = 2)) _ _ H (hE.weak ⟨rfl, rfl, trivial⟩)
              · replace H := H.2 hbr6
                replace hE := hE.bool (b := false) (t := 56) rfl (hbr6)
                refine hE.off (by rfl) (by rfl) (by decide) (fun a hE => ?_)
                refine hE.off (by rfl) (by rfl) (by decide) (fun a hE => ?_)
                refine hE.off (by rfl) (by rfl) (by decide) (fun a hE => ?_)
                refine hE.pur (X.pickF hE rfl rfl) fun a hE => ?_
                exact hr6 false _ _ H (hE.weak ⟨rfl, rfl, trivial⟩)
          · rcases Bool.eq_false_or_eq_true (x51) with hbr5 | hbr5
            · replace H := H.1 hbr5
              replace hE := hE.bool (b := true) (t := 52) rfl (hbr5)
              refine hE.on (by rfl) (by rfl) ?_
              refine hE.pur (X.move hE rfl) fun a hE => ?_
              refine hE.on (by rfl) (by rfl) ?_
              refine hE.pur (X.eqI hE rfl rfl) fun a hE => ?_
              refine hE.pur (X.pickT hE rfl rfl) fun a hE => ?_
              exact hr5 (decide (r_5 = 0)) _ _ H (hE.weak ⟨rfl, rfl, rfl, trivial⟩)
            · replace H := H.2 hbr5
              replace hE := hE.bool (b := false) (t := 52) rfl (hbr5)
              refine hE.off (by rfl) (by rfl) (by decide) (fun a hE => ?_)
              refine hE.off (by rfl) (by rfl) (by decide) (fun a hE => ?_)
              refine hE.pur (X.pickF hE rfl rfl) fun a hE => ?_
              exact hr5 false _ _ H (hE.weak ⟨rfl, rfl, rfl, trivial⟩)
        · rcases Bool.eq_false_or_eq_true (x47) with hbr4 | hbr4
          · replace H := H.1 hbr4
            replace hE := hE.bool (b := true) (t := 48) rfl (hbr4)
            refine hE.on (by rfl) (by rfl) ?_
            refine hE.pur (X.move hE rfl) fun a hE => ?_
            refine hE.on (by rfl) (by rfl) ?_
            refine hE.pur (X.eqI hE rfl rfl) fun a hE => ?_
            refine hE.pur (X.pickT hE rfl rfl) fun a hE => ?_
            exact hr4 (decide (r_4 = 2)) _ _ H (hE.weak ⟨rfl, rfl, rfl, rfl, trivial⟩)
          · replace H := H.2 hbr4
            replace hE := hE.bool (b := false) (t := 48) rfl (hbr4)
            refine hE.off (by rfl) (by rfl) (by decide) (fun a hE => ?_)
            refine hE.off (by rfl) (by rfl) (by decide) (fun a hE => ?_)
            refine hE.pur (X.pickF hE rfl rfl) fun a hE => ?_
            exact hr4 false _ _ H (hE.weak ⟨rfl, rfl, rfl, rfl, trivial⟩)
      · rcases Bool.eq_false_or_eq_true (x40) with hbr3 | hbr3
        · replace H := H.1 hbr3
          replace hE := hE.bool (b := true) (t := 41) rfl (hbr3)
          refine hE.on (by rfl) (by rfl) ?_
          refine hE.pur (X.move hE rfl) fun a hE => ?_
          refine hE.on (by rfl) (by rfl) ?_
          refine hE.op (X.indexAddr hE rfl rfl) H fun x43 w a H hE => ?_
          refine hE.on (by rfl) (by rfl) ?_
          refine hE.op (X.load hE rfl) H fun x44 w a H hE => ?_
          refine hE.on (by rfl) (by rfl) ?_
          refine hE.op (X.build hE rfl) H fun x45 w a H hE => ?_
          refine hE.on (by rfl) (by rfl) ?_
          refine hE.op (X.bin hE rfl rfl) H fun x46 w a H hE => ?_
          refine hE.pur (X.pickT hE rfl rfl) fun a hE => ?_
          exact hr3 x46 _ _ H (hE.weak ⟨rfl, rfl, rfl, rfl, rfl, trivial⟩)
        · replace H := H.2 hbr3
          replace hE := hE.bool (b := false) (t := 41) rfl (hbr3)
          refine hE.off (by rfl) (by rfl) (by decide) (fun a hE => ?_)
          refine hE.off (by rfl) (by rfl) (by decide) (fun a hE => ?_)
          refine hE.off (by rfl) (by rfl) (by decide) (fun a hE => ?_)
          refine hE.off (by rfl) (by rfl) (by decide) (fun a hE => ?_)
          refine hE.off (by rfl) (by rfl) (by decide) (fun a hE => ?_)
          refine hE.pur (X.pickF hE rfl rfl) fun a hE => ?_
          exact hr3 false _ _ H (hE.weak ⟨rfl, rfl, rfl, rfl, rfl, trivial⟩)
    · rcases Bool.eq_false_or_eq_true (x35) with hbr2 | hbr2
      · replace H := H.1 hbr2
        replace hE := hE.bool (b := true) (t := 36) rfl (hbr2)
        refine hE.on (by rfl) (by rfl) ?_
        refine hE.pur (X.move hE rfl) fun a hE => ?_
        refine hE.on (by rfl) (by rfl) ?_
        refine hE.purR (fun w => X.lenL hE Try.underlying22 rfl) fun a hE => ?_
        refine hE.on (by rfl) (by rfl) ?_
        refine hE.pur (X.eqI hE rfl rfl) fun a hE => ?_
        refine hE.pur (X.pickT hE rfl rfl) fun a hE => ?_
        exact hr2 (decide ((r.len : Int) = 2)) _ _ H (hE.weak ⟨rfl, rfl, rfl, rfl, rfl, rfl, trivial⟩)
      · replace H := H.2 hbr2
        replace hE := hE.bool (b := false) (t := 36) rfl (hbr2)
        refine hE.off (by rfl) (by rfl) (by decide) (fun a hE => ?_)
        refine hE.off (by rfl) (by rfl) (by decide) (fun a hE => ?_)
        refine hE.off (by rfl) (by rfl) (by decide) (fun a hE => ?_)
        refine hE.pur (X.pickF hE rfl rfl) fun a hE => ?_
        exact hr2 false _ _ H (hE.weak ⟨rfl, rfl, rfl, rfl, rfl, rfl, trivial⟩)
  · rcases Classical.em ((r_1 = 2)) with hbr1 | hbr1
    · replace H := H.1 hbr1
      replace hE := hE.bool (b := true) (t := 32) rfl (decide_eq_true hbr1)
      refine hE.on (by rfl) (by rfl) ?_
      refine hE.pur (X.move hE rfl) fun a hE => ?_
      refine hE.on (by rfl) (by rfl) ?_
      refine hE.pur (X.eqI hE rfl rfl) fun a hE => ?_
      refine hE.pur (X.pickT hE rfl rfl) fun a hE => ?_
      exact hr1 (decide (r_2 = 0)) _ _ H (hE.weak ⟨rfl, rfl, rfl, rfl, rfl, rfl, trivial⟩)
    · replace H := H.2 hbr1
      replace hE := hE.bool (b := false) (t := 32) rfl (decide_eq_false hbr1)
      refine hE.off (by rfl) (by rfl) (by decide) (fun a hE => ?_)
      refine hE.off (by rfl) (by rfl) (by decide) (fun a hE => ?_)
      refine hE.pur (X.pickF hE rfl rfl) fun a hE => ?_
      exact hr1 false _ _ H (hE.weak ⟨rfl, rfl, rfl, rfl, rfl, rfl, trivial⟩)
end Go.Proofs.Ytlghlmoifjcgoaa.VG
