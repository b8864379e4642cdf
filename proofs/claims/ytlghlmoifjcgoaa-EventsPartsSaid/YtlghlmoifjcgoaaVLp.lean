/- Verification conditions, by program (gen.py), of functions of the loaded program, each with the proof that it gives the call; no condition. -/
import Derived.Test.YtlghlmoifjcgoaaVS
set_option linter.unusedVariables false
set_option linter.unusedSimpArgs false
namespace Go.Proofs.Ytlghlmoifjcgoaa.VG
open Go.VB Go.Proofs

/-! ### lading ladinglaw12.EventsParts: function 5 -/
def V_ladinglaw12_EventsParts_r4 (Ret : Bool → World → Prop) (x75 : Bool) (w : World) : Prop :=
  Ret x75 w
def V_ladinglaw12_EventsParts_r3 (Ret : Bool → World → Prop) (r_1 : Sl) (r_7 : Sl) (x70 : Bool) (w : World) : Prop :=
  (x70 = true → (Cl Try.prog 13 [(Sl.v r_1), (Sl.v r_7)].toArray w (fun e w => ∃ (r_10 : Bool), e = .returned (.bool r_10) ∧ (V_ladinglaw12_EventsParts_r4 Ret r_10 w)))) ∧ (x70 = false → (V_ladinglaw12_EventsParts_r4 Ret false w))
def V_ladinglaw12_EventsParts_r2 (x1 : ByteArray) (x2 : Sl) (x3 : Int) (Ret : Bool → World → Prop) (r_1 : Sl) (r_2 : Int) (r_3 : Int) (r_4 : Sl) (x51 : Bool) (w : World) : Prop :=
  (x51 = true → (Ret (decide (r_3 ≠ 0)) w)) ∧ (x51 = false → (opE Try.prog Sl.v (Instr.sliceAt 23 (Sl.v x2) (some (.int .i64 x3)) none none) w (fun x59 w => Cl Try.prog 10 [(Sl.v r_4), (.string x1), (.int .i64 (-1)), (.string (ByteArray.mk #[])), (Sl.v x59)].toArray w (fun e w => ∃ (r_7 : Sl) (r_8 : Int) (r_9 : Int), e = .returned (.tuple [(Sl.v r_7), (.int .i64 r_8), (.int .i64 r_9)].toArray) ∧ (((r_9 = 0) → (V_ladinglaw12_EventsParts_r3 Ret r_1 r_7 (decide (r_2 = r_8)) w)) ∧ (¬ (r_9 = 0) → (V_ladinglaw12_EventsParts_r3 Ret r_1 r_7 false w)))))))
def V_ladinglaw12_EventsParts_r1 (x0 : Sl) (x1 : ByteArray) (x2 : Sl) (x3 : Int) (Ret : Bool → World → Prop) (x27 : Bool) (w : World) : Prop :=
  (x27 = true → (Ret true w)) ∧ (x27 = false → (Cl Try.prog 10 [(Sl.v x0), (.string x1), (.int .i64 (-1)), (.string (ByteArray.mk #[])), (Sl.v x2)].toArray w (fun e w => ∃ (r_1 : Sl) (r_2 : Int) (r_3 : Int), e = .returned (.tuple [(Sl.v r_1), (.int .i64 r_2), (.int .i64 r_3)].toArray) ∧ (opE Try.prog Sl.v (Instr.sliceAt 23 (Sl.v x2) none (some (.int .i64 x3)) none) w (fun x41 w => Cl Try.prog 10 [(Sl.v x0), (.string x1), (.int .i64 (-1)), (.string (ByteArray.mk #[])), (Sl.v x41)].toArray w (fun e w => ∃ (r_4 : Sl) (r_5 : Int) (r_6 : Int), e = .returned (.tuple [(Sl.v r_4), (.int .i64 r_5), (.int .i64 r_6)].toArray) ∧ (((r_3 ≠ 0) → (V_ladinglaw12_EventsParts_r2 x1 x2 x3 Ret r_1 r_2 r_3 r_4 true w)) ∧ (¬ (r_3 ≠ 0) → (V_ladinglaw12_EventsParts_r2 x1 x2 x3 Ret r_1 r_2 r_3 r_4 (decide (r_6 ≠ 0)) w)))))))))
def V_ladinglaw12_EventsParts (x0 : Sl) (x1 : ByteArray) (x2 : Sl) (x3 : Int) (w : World) (Ret : Bool → World → Prop) : Prop :=
  Cl Try.prog 12 [].toArray w (fun e w => ∃ (r : Bool), e = .returned (.bool r) ∧ (((!r) = true → (Ret false w)) ∧ ((!r) = false → (((x3 < 0) → (V_ladinglaw12_EventsParts_r1 x0 x1 x2 x3 Ret true w)) ∧ (¬ (x3 < 0) → (V_ladinglaw12_EventsParts_r1 x0 x1 x2 x3 Ret (decide ((x2.len : Int) < x3)) w))))))
set_option maxRecDepth 100000 in
theorem L1_ladinglaw12_EventsParts (x0 : Sl) (x1 : ByteArray) (x2 : Sl) (x3 : Int) (w : World) (Ret : Bool → World → Prop) (H : V_ladinglaw12_EventsParts x0 x1 x2 x3 w Ret) : Cl Try.prog 5 [(Sl.v x0), (.string x1), (Sl.v x2), (.int .i64 x3)].toArray w (fun e w' => ∃ (r0 : Bool), e = .returned (.bool r0) ∧ Ret r0 w') := by
  unfold V_ladinglaw12_EventsParts at H
  refine C.enter 76 (zipE 0 [(Sl.v x0), (.string x1), (Sl.v x2), (.int .i64 x3)]) Try.func5 rfl rfl (by rfl) rfl ?_
  intro a hE
  replace hE : Sat [] 76 [(0, (Sl.v x0)), (1, (.string x1)), (2, (Sl.v x2)), (3, (.int .i64 x3))] a := hE
  refine C.seq ?_
  refine C.region ?_
  refine hE.pur (X.assign hE rfl) fun a hE => ?_
  refine C.nil (tn ?_)
  refine C.seq ?_
  refine C.seq ?_
  refine C.region ?_
  refine hE.call (X.callF hE ent12 rfl rfl) H fun e w H => ?_
  obtain ⟨r, rfl, H⟩ := H
  refine ⟨_, rfl, fun a hE => ?_⟩
  refine hE.pur (X.not hE rfl) fun a hE => ?_
  refine C.nil (tn ?_)
  refine C.condB hE rfl (fun hc => ?_) (fun hc => ?_)
  · replace H := H.1 hc
    refine C.seq ?_
    refine C.region ?_
    refine hE.pur (X.assign hE rfl) fun a hE => ?_
    refine C.nil (tn ?_)
    exact C.ret (tr (C.ret1 hE rfl rfl ⟨_, rfl, H⟩))
  · replace H := H.2 hc
    refine C.skip (tn ?_)
    refine C.seq ?_
    refine C.seq ?_
    refine C.region ?_
    refine hE.pur (X.move hE rfl) fun a hE => ?_
    refine hE.pur (X.ltI hE rfl rfl) fun a hE => ?_
    refine hE.pur (X.move hE rfl) fun a hE => ?_
    refine WL.join (ds := []) (N := 76) (σ := Bool) (fun s => [(27, (.bool s)), (0, (Sl.v x0)), (1, (.string x1)), (2, (Sl.v x2)), (3, (.int .i64 x3))]) (fun s w => V_ladinglaw12_EventsParts_r1 x0 x1 x2 x3 Ret s w) 5 ?_ (fun hr1 => ?_)
    · intro x27 w a H hE
      try dsimp only at H hE
      unfold V_ladinglaw12_EventsParts_r1 at H
      refine C.nil (tn ?_)
      refine C.condB hE rfl (fun hc => ?_) (fun hc => ?_)
      · replace H := H.1 hc
        refine C.seq ?_
        refine C.region ?_
        refine hE.pur (X.assign hE rfl) fun a hE => ?_
        refine C.nil (tn ?_)
        exact C.ret (tr (C.ret1 hE rfl rfl ⟨_, rfl, H⟩))
      · replace H := H.2 hc
        refine C.skip (tn ?_)
        refine C.seq ?_
        refine C.region ?_
        refine hE.pur (X.move hE rfl) fun a hE => ?_
        refine hE.pur (X.move hE rfl) fun a hE => ?_
        refine hE.pur (X.move hE rfl) fun a hE => ?_
        refine hE.call (X.callF hE ent10 rfl rfl) H fun e w H => ?_
        obtain ⟨r_1, r_2, r_3, rfl, H⟩ := H
        refine ⟨_, rfl, fun a hE => ?_⟩
        refine hE.pur (X.move hE rfl) fun a hE => ?_
        refine hE.pur (X.extract hE rfl rfl) fun a hE => ?_
        refine hE.pur (X.extract hE rfl rfl) fun a hE => ?_
        refine hE.pur (X.extract hE rfl rfl) fun a hE => ?_
        refine hE.pur (X.assign hE rfl) fun a hE => ?_
        refine hE.pur (X.assign hE rfl) fun a hE => ?_
        refine hE.pur (X.assign hE rfl) fun a hE => ?_
        refine C.nil (tn ?_)
        refine C.seq ?_
        refine C.region ?_
        refine hE.pur (X.move hE rfl) fun a hE => ?_
        refine hE.pur (X.move hE rfl) fun a hE => ?_
        refine hE.pur (X.move hE rfl) fun a hE => ?_
        refine hE.pur (X.move hE rfl) fun a hE => ?_
        refine hE.op (X.slice hE rfl rfl rfl rfl) H fun x41 w a H hE => ?_
        refine hE.call (X.callF hE ent10 rfl rfl) H fun e w H => ?_
        obtain ⟨r_4, r_5, r_6, rfl, H⟩ := H
        refine ⟨_, rfl, fun a hE => ?_⟩
        refine hE.pur (X.move hE rfl) fun a hE => ?_
        refine hE.pur (X.extract hE rfl rfl) fun a hE => ?_
        refine hE.pur (X.extract hE rfl rfl) fun a hE => ?_
        refine hE.pur (X.extract hE rfl rfl) fun a hE => ?_
        refine hE.pur (X.assign hE rfl) fun a hE => ?_
        refine hE.pur (X.assign hE rfl) fun a hE => ?_
        refine hE.pur (X.assign hE rfl) fun a hE => ?_
        refine C.nil (tn ?_)
        refine C.seq ?_
        refine C.seq ?_
        refine C.region ?_
        refine hE.pur (X.move hE rfl) fun a hE => ?_
        refine hE.pur (X.neI hE rfl rfl) fun a hE => ?_
        refine hE.pur (X.move hE rfl) fun a hE => ?_
        refine WL.join (ds := []) (N := 76) (σ := Bool) (fun s => [(51, (.bool s)), (1, (.string x1)), (2, (Sl.v x2)), (3, (.int .i64 x3)), (9, (Sl.v r_1)), (10, (.int .i64 r_2)), (11, (.int .i64 r_3)), (12, (Sl.v r_4))]) (fun s w => V_ladinglaw12_EventsParts_r2 x1 x2 x3 Ret r_1 r_2 r_3 r_4 s w) 3 ?_ (fun hr2 => ?_)
        · intro x51 w a H hE
          try dsimp only at H hE
          unfold V_ladinglaw12_EventsParts_r2 at H
          refine C.nil (tn ?_)
          refine C.condB hE rfl (fun hc => ?_) (fun hc => ?_)
          · replace H := H.1 hc
            refine C.seq ?_
            refine C.region ?_
            refine hE.pur (X.move hE rfl) fun a hE => ?_
            refine hE.pur (X.neI hE rfl rfl) fun a hE => ?_
            refine hE.pur (X.assign hE rfl) fun a hE => ?_
            refine C.nil (tn ?_)
            exact C.ret (tr (C.ret1 hE rfl rfl ⟨_, rfl, H⟩))
          · replace H := H.2 hc
            refine C.skip (tn ?_)
            refine C.seq ?_
            refine C.region ?_
            refine hE.pur (X.move hE rfl) fun a hE => ?_
            refine hE.pur (X.move hE rfl) fun a hE => ?_
            refine hE.pur (X.move hE rfl) fun a hE => ?_
            refine hE.pur (X.move hE rfl) fun a hE => ?_
            refine hE.op (X.slice hE rfl rfl rfl rfl) H fun x59 w a H hE => ?_
            refine hE.call (X.callF hE ent10 rfl rfl) H fun e w H => ?_
            obtain ⟨r_7, r_8, r_9, rfl, H⟩ := H
            refine ⟨_, rfl, fun a hE => ?_⟩
            refine hE.pur (X.move hE rfl) fun a hE => ?_
            refine hE.pur (X.extract hE rfl rfl) fun a hE => ?_
            refine hE.pur (X.extract hE rfl rfl) fun a hE => ?_
            refine hE.pur (X.extract hE rfl rfl) fun a hE => ?_
            refine hE.pur (X.assign hE rfl) fun a hE => ?_
            refine hE.pur (X.assign hE rfl) fun a hE => ?_
            refine hE.pur (X.assign hE rfl) fun a hE => ?_
            refine C.nil (tn ?_)
            refine C.seq ?_
            refine C.region ?_
            refine hE.pur (X.move hE rfl) fun a hE => ?_
            refine hE.pur (X.eqI hE rfl rfl) fun a hE => ?_
            refine hE.pur (X.move hE rfl) fun a hE => ?_
            refine WL.join (ds := []) (N := 76) (σ := Bool) (fun s => [(70, (.bool s)), (9, (Sl.v r_1)), (15, (Sl.v r_7))]) (fun s w => V_ladinglaw12_EventsParts_r3 Ret r_1 r_7 s w) 4 ?_ (fun hr3 => ?_)
            · intro x70 w a H hE
              try dsimp only at H hE
              unfold V_ladinglaw12_EventsParts_r3 at H
              refine hE.pur (X.move hE rfl) fun a hE => ?_
              refine WL.join (ds := []) (N := 76) (σ := Bool) (fun s => [(75, (.bool s))]) (fun s w => V_ladinglaw12_EventsParts_r4 Ret s w) 4 ?_ (fun hr4 => ?_)
              · intro x75 w a H hE
                try dsimp only at H hE
                unfold V_ladinglaw12_EventsParts_r4 at H
                refine hE.pur (X.assign hE rfl) fun a hE => ?_
                refine C.nil (tn ?_)
                exact C.ret (C.ret1 hE rfl rfl ⟨_, rfl, H⟩)
              · rcases Bool.eq_false_or_eq_true (x70) with hbr4 | hbr4
                · replace H := H.1 hbr4
                  replace hE := hE.bool (b := true) (t := 71) rfl (hbr4)
                  refine hE.on (by rfl) (by rfl) ?_
                  refine hE.pur (X.move hE rfl) fun a hE => ?_
                  refine hE.on (by rfl) (by rfl) ?_
                  refine hE.pur (X.move hE rfl) fun a hE => ?_
                  refine hE.on (by rfl) (by rfl) ?_
                  refine hE.call (X.callF hE ent13 rfl rfl) H fun e w H => ?_
                  obtain ⟨r_10, rfl, H⟩ := H
                  refine ⟨_, rfl, fun a hE => ?_⟩
                  refine hE.pur (X.pickT hE rfl rfl) fun a hE => ?_
                  exact hr4 r_10 _ _ H (hE.weak ⟨rfl, trivial⟩)
                · replace H := H.2 hbr4
                  replace hE := hE.bool (b := false) (t := 71) rfl (hbr4)
                  refine hE.off (by rfl) (by rfl) (by decide) (fun a hE => ?_)
                  refine hE.off (by rfl) (by rfl) (by decide) (fun a hE => ?_)
                  refine hE.off (by rfl) (by rfl) (by decide) (fun a hE => ?_)
                  refine hE.pur (X.pickF hE rfl rfl) fun a hE => ?_
                  exact hr4 false _ _ H (hE.weak ⟨rfl, trivial⟩)
            · rcases Classical.em ((r_9 = 0)) with hbr3 | hbr3
              · replace H := H.1 hbr3
                replace hE := hE.bool (b := true) (t := 66) rfl (decide_eq_true hbr3)
                refine hE.on (by rfl) (by rfl) ?_
                refine hE.pur (X.move hE rfl) fun a hE => ?_
                refine hE.on (by rfl) (by rfl) ?_
                refine hE.pur (X.move hE rfl) fun a hE => ?_
                refine hE.on (by rfl) (by rfl) ?_
                refine hE.pur (X.eqI hE rfl rfl) fun a hE => ?_
                refine hE.pur (X.pickT hE rfl rfl) fun a hE => ?_
                exact hr3 (decide (r_2 = r_8)) _ _ H (hE.weak ⟨rfl, rfl, rfl, trivial⟩)
              · replace H := H.2 hbr3
                replace hE := hE.bool (b := false) (t := 66) rfl (decide_eq_false hbr3)
                refine hE.off (by rfl) (by rfl) (by decide) (fun a hE => ?_)
                refine hE.off (by rfl) (by rfl) (by decide) (fun a hE => ?_)
                refine hE.off (by rfl) (by rfl) (by decide) (fun a hE => ?_)
                refine hE.pur (X.pickF hE rfl rfl) fun a hE => ?_
                exact hr3 false _ _ H (hE.weak ⟨rfl, rfl, rfl, trivial⟩)
        · rcases Classical.em ((r_3 ≠ 0)) with hbr2 | hbr2
          · replace H := H.1 hbr2
            replace hE := hE.bool (b := true) (t := 48) rfl (decide_eq_true hbr2)
            refine hE.off (by rfl) (by rfl) (by decide) (fun a hE => ?_)
            refine hE.off (by rfl) (by rfl) (by decide) (fun a hE => ?_)
            refine hE.pur (X.pickT hE rfl rfl) fun a hE => ?_
            exact hr2 true _ _ H (hE.weak ⟨rfl, rfl, rfl, rfl, rfl, rfl, rfl, rfl, trivial⟩)
          · replace H := H.2 hbr2
            replace hE := hE.bool (b := false) (t := 48) rfl (decide_eq_false hbr2)
            refine hE.on (by rfl) (by rfl) ?_
            refine hE.pur (X.move hE rfl) fun a hE => ?_
            refine hE.on (by rfl) (by rfl) ?_
            refine hE.pur (X.neI hE rfl rfl) fun a hE => ?_
            refine hE.pur (X.pickF hE rfl rfl) fun a hE => ?_
            exact hr2 (decide (r_6 ≠ 0)) _ _ H (hE.weak ⟨rfl, rfl, rfl, rfl, rfl, rfl, rfl, rfl, trivial⟩)
    · rcases Classical.em ((x3 < 0)) with hbr1 | hbr1
      · replace H := H.1 hbr1
        replace hE := hE.bool (b := true) (t := 22) rfl (decide_eq_true hbr1)
        refine hE.off (by rfl) (by rfl) (by decide) (fun a hE => ?_)
        refine hE.off (by rfl) (by rfl) (by decide) (fun a hE => ?_)
        refine hE.off (by rfl) (by rfl) (by decide) (fun a hE => ?_)
        refine hE.off (by rfl) (by rfl) (by decide) (fun a hE => ?_)
        refine hE.pur (X.pickT hE rfl rfl) fun a hE => ?_
        exact hr1 true _ _ H (hE.weak ⟨rfl, rfl, rfl, rfl, rfl, trivial⟩)
      · replace H := H.2 hbr1
        replace hE := hE.bool (b := false) (t := 22) rfl (decide_eq_false hbr1)
        refine hE.on (by rfl) (by rfl) ?_
        refine hE.pur (X.move hE rfl) fun a hE => ?_
        refine hE.on (by rfl) (by rfl) ?_
        refine hE.pur (X.move hE rfl) fun a hE => ?_
        refine hE.on (by rfl) (by rfl) ?_
        refine hE.purR (fun w => X.lenL hE Try.underlying23 rfl) fun a hE => ?_
        refine hE.on (by rfl) (by rfl) ?_
        refine hE.pur (X.gtI hE rfl rfl) fun a hE => ?_
        refine hE.pur (X.pickF hE rfl rfl) fun a hE => ?_
        exact hr1 (decide ((x2.len : Int) < x3)) _ _ H (hE.weak ⟨rfl, rfl, rfl, rfl, rfl, trivial⟩)
end Go.Proofs.Ytlghlmoifjcgoaa.VG
