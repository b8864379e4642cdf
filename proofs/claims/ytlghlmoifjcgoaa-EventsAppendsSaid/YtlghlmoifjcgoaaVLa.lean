/- Verification conditions, by program (gen.py), of functions of the loaded program, each with the proof that it gives the call; no condition. -/
import Derived.Test.YtlghlmoifjcgoaaVS
set_option linter.unusedVariables false
set_option linter.unusedSimpArgs false
namespace Go.Proofs.Ytlghlmoifjcgoaa.VG
open Go.VB Go.Proofs

/-! ### lading ladinglaw12.EventsAppends: function 3 -/
def V_ladinglaw12_EventsAppends_r5 (Ret : Bool → World → Prop) (x68 : Bool) (w : World) : Prop :=
  Ret x68 w
def V_ladinglaw12_EventsAppends_r4 (x0 : Sl) (Ret : Bool → World → Prop) (x61 : Bool) (w : World) : Prop :=
  (x61 = true → (Cl Try.prog 14 [(Sl.v x0)].toArray w (fun e w => ∃ (r_7 : Int), e = .returned (.int .i64 r_7) ∧ (Cl Try.prog 15 [(Sl.v x0)].toArray w (fun e w => ∃ (r_8 : Int), e = .returned (.int .i64 r_8) ∧ (V_ladinglaw12_EventsAppends_r5 Ret (decide (r_7 = r_8)) w)))))) ∧ (x61 = false → (V_ladinglaw12_EventsAppends_r5 Ret false w))
def V_ladinglaw12_EventsAppends_r3 (x0 : Sl) (Ret : Bool → World → Prop) (x20 : Sl) (x56 : Bool) (w : World) : Prop :=
  (x56 = true → (Cl Try.prog 13 [(Sl.v x20), (Sl.v x0)].toArray w (fun e w => ∃ (r_9 : Bool), e = .returned (.bool r_9) ∧ (V_ladinglaw12_EventsAppends_r4 x0 Ret r_9 w)))) ∧ (x56 = false → (V_ladinglaw12_EventsAppends_r4 x0 Ret false w))
def V_ladinglaw12_EventsAppends_r2 (x0 : Sl) (Ret : Bool → World → Prop) (x20 : Sl) (r_2 : Int) (r_5 : Int) (x51 : Bool) (w : World) : Prop :=
  (x51 = true → (V_ladinglaw12_EventsAppends_r3 x0 Ret x20 (decide (r_2 = r_5)) w)) ∧ (x51 = false → (V_ladinglaw12_EventsAppends_r3 x0 Ret x20 false w))
def V_ladinglaw12_EventsAppends_r1 (x0 : Sl) (Ret : Bool → World → Prop) (x20 : Sl) (r_1 : Int) (r_2 : Int) (r_4 : Int) (r_5 : Int) (x46 : Bool) (w : World) : Prop :=
  (x46 = true → (V_ladinglaw12_EventsAppends_r2 x0 Ret x20 r_2 r_5 (decide (r_1 = r_4)) w)) ∧ (x46 = false → (V_ladinglaw12_EventsAppends_r2 x0 Ret x20 r_2 r_5 false w))
def V_ladinglaw12_EventsAppends (x0 : Sl) (x1 : ByteArray) (x2 : Int) (x3 : ByteArray) (x4 : Sl) (w : World) (Ret : Bool → World → Prop) : Prop :=
  opE Try.prog Sl.v (Instr.buildSlice 22 0 [].toArray) w (fun x18 w => opE Try.prog Sl.v (Builtin.append_ #[22, 22] 22 [(Sl.v x18), (Sl.v x0)].toArray) w (fun x20 w => Cl Try.prog 10 [(Sl.v x20), (.string x1), (.int .i64 x2), (.string x3), (Sl.v x4)].toArray w (fun e w => ∃ (r : Sl) (r_1 : Int) (r_2 : Int), e = .returned (.tuple [(Sl.v r), (.int .i64 r_1), (.int .i64 r_2)].toArray) ∧ (Cl Try.prog 11 [(Sl.v x0), (.string x1), (.int .i64 x2), (.string x3), (Sl.v x4)].toArray w (fun e w => ∃ (r_3 : Sl) (r_4 : Int) (r_5 : Int), e = .returned (.tuple [(Sl.v r_3), (.int .i64 r_4), (.int .i64 r_5)].toArray) ∧ (Cl Try.prog 12 [].toArray w (fun e w => ∃ (r_6 : Bool), e = .returned (.bool r_6) ∧ ((r_6 = true → (Cl Try.prog 13 [(Sl.v r), (Sl.v r_3)].toArray w (fun e w => ∃ (r_10 : Bool), e = .returned (.bool r_10) ∧ (V_ladinglaw12_EventsAppends_r1 x0 Ret x20 r_1 r_2 r_4 r_5 r_10 w)))) ∧ (r_6 = false → (V_ladinglaw12_EventsAppends_r1 x0 Ret x20 r_1 r_2 r_4 r_5 false w))))))))))
set_option maxRecDepth 100000 in
theorem L1_ladinglaw12_EventsAppends (x0 : Sl) (x1 : ByteArray) (x2 : Int) (x3 : ByteArray) (x4 : Sl) (w : World) (Ret : Bool → World → Prop) (H : V_ladinglaw12_EventsAppends x0 x1 x2 x3 x4 w Ret) : Cl Try.prog 3 [(Sl.v x0), (.string x1), (.int .i64 x2), (.string x3), (Sl.v x4)].toArray w (fun e w' => ∃ (r0 : Bool), e = .returned (.bool r0) ∧ Ret r0 w') := by
  unfold V_ladinglaw12_EventsAppends at H
  refine C.enter 69 (zipE 0 [(Sl.v x0), (.string x1), (.int .i64 x2), (.string x3), (Sl.v x4)]) Try.func3 rfl rfl (by rfl) rfl ?_
  intro a hE
  replace hE : Sat [] 69 [(0, (Sl.v x0)), (1, (.string x1)), (2, (.int .i64 x2)), (3, (.string x3)), (4, (Sl.v x4))] a := hE
  refine C.seq ?_
  refine C.region ?_
  refine hE.pur (X.assign hE rfl) fun a hE => ?_
  refine C.nil (tn ?_)
  refine C.seq ?_
  refine C.region ?_
  refine hE.op (X.buildSlice hE rfl) H fun x18 w a H hE => ?_
  refine hE.pur (X.move hE rfl) fun a hE => ?_
  refine hE.op (X.append hE rfl) H fun x20 w a H hE => ?_
  refine hE.pur (X.assign hE rfl) fun a hE => ?_
  refine C.nil (tn ?_)
  refine C.seq ?_
  refine C.region ?_
  refine hE.pur (X.move hE rfl) fun a hE => ?_
  refine hE.pur (X.move hE rfl) fun a hE => ?_
  refine hE.pur (X.move hE rfl) fun a hE => ?_
  refine hE.pur (X.move hE rfl) fun a hE => ?_
  refine hE.pur (X.move hE rfl) fun a hE => ?_
  refine hE.call (X.callF hE ent10 rfl rfl) H fun e w H => ?_
  obtain ⟨r, r_1, r_2, rfl, H⟩ := H
  refine ⟨_, rfl, fun a hE => ?_⟩
  refine hE.pur (X.move hE rfl) fun a hE => ?_
  refine hE.pur (X.extract hE rfl rfl) fun a hE => ?_
  refine hE.pur (X.extract hE rfl rfl) fun a hE => ?_
  refine hE.pur (X.extract hE rfl rfl) fun a hE => ?_
  refine hE.pur (X.assign hE rfl) fun a hE => ?_
  refine hE.pur (X.assign hE rfl) fun a hE => ?_
  refine hE.pur (X.assign hE rfl) fun a hE => ?_
  refine C.nil (tn ?_)
  refine C.seq ?_
  refine C.region ?_
  refine hE.pur (X.move hE rfl) fun a hE => ?_
  refine hE.pur (X.move hE rfl) fun a hE => ?_
  refine hE.pur (X.move hE rfl) fun a hE => ?_
  refine hE.pur (X.move hE rfl) fun a hE => ?_
  refine hE.pur (X.move hE rfl) fun a hE => ?_
  refine hE.call (X.callF hE ent11 rfl rfl) H fun e w H => ?_
  obtain ⟨r_3, r_4, r_5, rfl, H⟩ := H
  refine ⟨_, rfl, fun a hE => ?_⟩
  refine hE.pur (X.move hE rfl) fun a hE => ?_
  refine hE.pur (X.extract hE rfl rfl) fun a hE => ?_
  refine hE.pur (X.extract hE rfl rfl) fun a hE => ?_
  refine hE.pur (X.extract hE rfl rfl) fun a hE => ?_
  refine hE.pur (X.assign hE rfl) fun a hE => ?_
  refine hE.pur (X.assign hE rfl) fun a hE => ?_
  refine hE.pur (X.assign hE rfl) fun a hE => ?_
  refine C.nil (tn ?_)
  refine C.seq ?_
  refine C.region ?_
  refine hE.call (X.callF hE ent12 rfl rfl) H fun e w H => ?_
  obtain ⟨r_6, rfl, H⟩ := H
  refine ⟨_, rfl, fun a hE => ?_⟩
  refine hE.pur (X.move hE rfl) fun a hE => ?_
  refine WL.join (ds := []) (N := 69) (σ := Bool) (fun s => [(46, (.bool s)), (0, (Sl.v x0)), (11, (Sl.v x20)), (13, (.int .i64 r_1)), (14, (.int .i64 r_2)), (16, (.int .i64 r_4)), (17, (.int .i64 r_5))]) (fun s w => V_ladinglaw12_EventsAppends_r1 x0 Ret x20 r_1 r_2 r_4 r_5 s w) 4 ?_ (fun hr1 => ?_)
  · intro x46 w a H hE
    try dsimp only at H hE
    unfold V_ladinglaw12_EventsAppends_r1 at H
    refine hE.pur (X.move hE rfl) fun a hE => ?_
    refine WL.join (ds := []) (N := 69) (σ := Bool) (fun s => [(51, (.bool s)), (0, (Sl.v x0)), (11, (Sl.v x20)), (14, (.int .i64 r_2)), (17, (.int .i64 r_5))]) (fun s w => V_ladinglaw12_EventsAppends_r2 x0 Ret x20 r_2 r_5 s w) 4 ?_ (fun hr2 => ?_)
    · intro x51 w a H hE
      try dsimp only at H hE
      unfold V_ladinglaw12_EventsAppends_r2 at H
      refine hE.pur (X.move hE rfl) fun a hE => ?_
      refine WL.join (ds := []) (N := 69) (σ := Bool) (fun s => [(56, (.bool s)), (0, (Sl.v x0)), (11, (Sl.v x20))]) (fun s w => V_ladinglaw12_EventsAppends_r3 x0 Ret x20 s w) 4 ?_ (fun hr3 => ?_)
      · intro x56 w a H hE
        try dsimp only at H hE
        unfold V_ladinglaw12_EventsAppends_r3 at H
        refine hE.pur (X.move hE rfl) fun a hE => ?_
        refine WL.join (ds := []) (N := 69) (σ := Bool) (fun s => [(61, (.bool s)), (0, (Sl.v x0))]) (fun s w => V_ladinglaw12_EventsAppends_r4 x0 Ret s w) 4 ?_ (fun hr4 => ?_)
        · intro x61 w a H hE
          try dsimp only at H hE
          unfold V_ladinglaw12_EventsAppends_r4 at H
          refine hE.pur (X.move hE rfl) fun a hE => ?_
          refine WL.join (ds := []) (N := 69) (σ := Bool) (fun s => [(68, (.bool s))]) (fun s w => V_ladinglaw12_EventsAppends_r5 Ret s w) 6 ?_ (fun hr5 => ?_)
          · intro x68 w a H hE
            try dsimp only at H hE
            unfold V_ladinglaw12_EventsAppends_r5 at H
            refine hE.pur (X.assign hE rfl) fun a hE => ?_
            refine C.nil (tn ?_)
            exact C.ret (C.ret1 hE rfl rfl ⟨_, rfl, H⟩)
          · rcases Bool.eq_false_or_eq_true (x61) with hbr5 | hbr5
            · replace H := H.1 hbr5
              replace hE := hE.bool (b := true) (t := 62) rfl (hbr5)
              refine hE.on (by rfl) (by rfl) ?_
              refine hE.pur (X.move hE rfl) fun a hE => ?_
              refine hE.on (by rfl) (by rfl) ?_
              refine hE.call (X.callF hE ent14 rfl rfl) H fun e w H => ?_
              obtain ⟨r_7, rfl, H⟩ := H
              refine ⟨_, rfl, fun a hE => ?_⟩
              refine hE.on (by rfl) (by rfl) ?_
              refine hE.pur (X.move hE rfl) fun a hE => ?_
              refine hE.on (by rfl) (by rfl) ?_
              refine hE.call (X.callF hE ent15 rfl rfl) H fun e w H => ?_
              obtain ⟨r_8, rfl, H⟩ := H
              refine ⟨_, rfl, fun a hE => ?_⟩
              refine hE.on (by rfl) (by rfl) ?_
              refine hE.pur (X.eqI hE rfl rfl) fun a hE => ?_
              refine hE.pur (X.pickT hE rfl rfl) fun a hE => ?_
              exact hr5 (decide (r_7 = r_8)) _ _ H (hE.weak ⟨rfl, trivial⟩)
            · replace H := H.2 hbr5
              replace hE := hE.bool (b := false) (t := 62) rfl (hbr5)
              refine hE.off (by rfl) (by rfl) (by decide) (fun a hE => ?_)
              refine hE.off (by rfl) (by rfl) (by decide) (fun a hE => ?_)
              refine hE.off (by rfl) (by rfl) (by decide) (fun a hE => ?_)
              refine hE.off (by rfl) (by rfl) (by decide) (fun a hE => ?_)
              refine hE.off (by rfl) (by rfl) (by decide) (fun a hE => ?_)
              refine hE.pur (X.pickF hE rfl rfl) fun a hE => ?_
              exact hr5 false _ _ H (hE.weak ⟨rfl, trivial⟩)
        · rcases Bool.eq_false_or_eq_true (x56) with hbr4 | hbr4
          · replace H := H.1 hbr4
            replace hE := hE.bool (b := true) (t := 57) rfl (hbr4)
            refine hE.on (by rfl) (by rfl) ?_
            refine hE.pur (X.move hE rfl) fun a hE => ?_
            refine hE.on (by rfl) (by rfl) ?_
            refine hE.pur (X.move hE rfl) fun a hE => ?_
            refine hE.on (by rfl) (by rfl) ?_
            refine hE.call (X.callF hE ent13 rfl rfl) H fun e w H => ?_
            obtain ⟨r_9, rfl, H⟩ := H
            refine ⟨_, rfl, fun a hE => ?_⟩
            refine hE.pur (X.pickT hE rfl rfl) fun a hE => ?_
            exact hr4 r_9 _ _ H (hE.weak ⟨rfl, rfl, trivial⟩)
          · replace H := H.2 hbr4
            replace hE := hE.bool (b := false) (t := 57) rfl (hbr4)
            refine hE.off (by rfl) (by rfl) (by decide) (fun a hE => ?_)
            refine hE.off (by rfl) (by rfl) (by decide) (fun a hE => ?_)
            refine hE.off (by rfl) (by rfl) (by decide) (fun a hE => ?_)
            refine hE.pur (X.pickF hE rfl rfl) fun a hE => ?_
            exact hr4 false _ _ H (hE.weak ⟨rfl, rfl, trivial⟩)
      · rcases Bool.eq_false_or_eq_true (x51) with hbr3 | hbr3
        · replace H := H.1 hbr3
          replace hE := hE.bool (b := true) (t := 52) rfl (hbr3)
          refine hE.on (by rfl) (by rfl) ?_
          refine hE.pur (X.move hE rfl) fun a hE => ?_
          refine hE.on (by rfl) (by rfl) ?_
          refine hE.pur (X.move hE rfl) fun a hE => ?_
          refine hE.on (by rfl) (by rfl) ?_
          refine hE.pur (X.eqI hE rfl rfl) fun a hE => ?_
          refine hE.pur (X.pickT hE rfl rfl) fun a hE => ?_
          exact hr3 (decide (r_2 = r_5)) _ _ H (hE.weak ⟨rfl, rfl, rfl, trivial⟩)
        · replace H := H.2 hbr3
          replace hE := hE.bool (b := false) (t := 52) rfl (hbr3)
          refine hE.off (by rfl) (by rfl) (by decide) (fun a hE => ?_)
          refine hE.off (by rfl) (by rfl) (by decide) (fun a hE => ?_)
          refine hE.off (by rfl) (by rfl) (by decide) (fun a hE => ?_)
          refine hE.pur (X.pickF hE rfl rfl) fun a hE => ?_
          exact hr3 false _ _ H (hE.weak ⟨rfl, rfl, rfl, trivial⟩)
    · rcases Bool.eq_false_or_eq_true (x46) with hbr2 | hbr2
      · replace H := H.1 hbr2
        replace hE := hE.bool (b := true) (t := 47) rfl (hbr2)
        refine hE.on (by rfl) (by rfl) ?_
        refine hE.pur (X.move hE rfl) fun a hE => ?_
        refine hE.on (by rfl) (by rfl) ?_
        refine hE.pur (X.move hE rfl) fun a hE => ?_
        refine hE.on (by rfl) (by rfl) ?_
        refine hE.pur (X.eqI hE rfl rfl) fun a hE => ?_
        refine hE.pur (X.pickT hE rfl rfl) fun a hE => ?_
        exact hr2 (decide (r_1 = r_4)) _ _ H (hE.weak ⟨rfl, rfl, rfl, rfl, rfl, trivial⟩)
      · replace H := H.2 hbr2
        replace hE := hE.bool (b := false) (t := 47) rfl (hbr2)
        refine hE.off (by rfl) (by rfl) (by decide) (fun a hE => ?_)
        refine hE.off (by rfl) (by rfl) (by decide) (fun a hE => ?_)
        refine hE.off (by rfl) (by rfl) (by decide) (fun a hE => ?_)
        refine hE.pur (X.pickF hE rfl rfl) fun a hE => ?_
        exact hr2 false _ _ H (hE.weak ⟨rfl, rfl, rfl, rfl, rfl, trivial⟩)
  · rcases Bool.eq_false_or_eq_true (r_6) with hbr1 | hbr1
    · replace H := H.1 hbr1
      replace hE := hE.bool (b := true) (t := 42) rfl (hbr1)
      refine hE.on (by rfl) (by rfl) ?_
      refine hE.pur (X.move hE rfl) fun a hE => ?_
      refine hE.on (by rfl) (by rfl) ?_
      refine hE.pur (X.move hE rfl) fun a hE => ?_
      refine hE.on (by rfl) (by rfl) ?_
      refine hE.call (X.callF hE ent13 rfl rfl) H fun e w H => ?_
      obtain ⟨r_10, rfl, H⟩ := H
      refine ⟨_, rfl, fun a hE => ?_⟩
      refine hE.pur (X.pickT hE rfl rfl) fun a hE => ?_
      exact hr1 r_10 _ _ H (hE.weak ⟨rfl, rfl, rfl, rfl, rfl, rfl, rfl, trivial⟩)
    · replace H := H.2 hbr1
      replace hE := hE.bool (b := false) (t := 42) rfl (hbr1)
      refine hE.off (by rfl) (by rfl) (by decide) (fun a hE => ?_)
      refine hE.off (by rfl) (by rfl) (by decide) (fun a hE => ?_)
      refine hE.off (by rfl) (by rfl) (by decide) (fun a hE => ?_)
      refine hE.pur (X.pickF hE rfl rfl) fun a hE => ?_
      exact hr1 false _ _ H (hE.weak ⟨rfl, rfl, rfl, rfl, rfl, rfl, rfl, trivial⟩)
end Go.Proofs.Ytlghlmoifjcgoaa.VG
