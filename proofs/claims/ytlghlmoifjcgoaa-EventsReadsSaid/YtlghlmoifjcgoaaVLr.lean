/- Verification conditions, by program (gen.py), of functions of the loaded program, each with the proof that it gives the call; no condition. -/
import Derived.Test.YtlghlmoifjcgoaaVS
set_option linter.unusedVariables false
set_option linter.unusedSimpArgs false
namespace Go.Proofs.Ytlghlmoifjcgoaa.VG
open Go.VB Go.Proofs

/-! ### lading ladinglaw12.EventsReads: function 9 -/
def V_ladinglaw12_EventsReads_r8 (Ret : Bool → World → Prop) (x121 : Bool) (w : World) : Prop :=
  Ret x121 w
def V_ladinglaw12_EventsReads_r7 (Ret : Bool → World → Prop) (r_13 : Int) (r_15 : Int) (x116 : Bool) (w : World) : Prop :=
  (x116 = true → (V_ladinglaw12_EventsReads_r8 Ret (decide (r_13 = r_15)) w)) ∧ (x116 = false → (V_ladinglaw12_EventsReads_r8 Ret false w))
def V_ladinglaw12_EventsReads_r6 (Ret : Bool → World → Prop) (r_12 : Sl) (r_13 : Int) (r_14 : Sl) (r_15 : Int) (x111 : Bool) (w : World) : Prop :=
  (x111 = true → (Cl Try.prog 24 [(Sl.v r_12), (Sl.v r_14)].toArray w (fun e w => ∃ (r_17 : Bool), e = .returned (.bool r_17) ∧ (V_ladinglaw12_EventsReads_r7 Ret r_13 r_15 r_17 w)))) ∧ (x111 = false → (V_ladinglaw12_EventsReads_r7 Ret r_13 r_15 false w))
def V_ladinglaw12_EventsReads_r5 (Ret : Bool → World → Prop) (r_9 : Int) (r_11 : Int) (r_12 : Sl) (r_13 : Int) (r_14 : Sl) (r_15 : Int) (x106 : Bool) (w : World) : Prop :=
  (x106 = true → (V_ladinglaw12_EventsReads_r6 Ret r_12 r_13 r_14 r_15 (decide (r_9 = r_11)) w)) ∧ (x106 = false → (V_ladinglaw12_EventsReads_r6 Ret r_12 r_13 r_14 r_15 false w))
def V_ladinglaw12_EventsReads_r4 (Ret : Bool → World → Prop) (r_8 : Int) (r_9 : Int) (r_10 : Int) (r_11 : Int) (r_12 : Sl) (r_13 : Int) (r_14 : Sl) (r_15 : Int) (x101 : Bool) (w : World) : Prop :=
  (x101 = true → (V_ladinglaw12_EventsReads_r5 Ret r_9 r_11 r_12 r_13 r_14 r_15 (decide (r_8 = r_10)) w)) ∧ (x101 = false → (V_ladinglaw12_EventsReads_r5 Ret r_9 r_11 r_12 r_13 r_14 r_15 false w))
def V_ladinglaw12_EventsReads_r3 (Ret : Bool → World → Prop) (r_5 : Int) (r_7 : Int) (r_8 : Int) (r_9 : Int) (r_10 : Int) (r_11 : Int) (r_12 : Sl) (r_13 : Int) (r_14 : Sl) (r_15 : Int) (x96 : Bool) (w : World) : Prop :=
  (x96 = true → (V_ladinglaw12_EventsReads_r4 Ret r_8 r_9 r_10 r_11 r_12 r_13 r_14 r_15 (decide (r_5 = r_7)) w)) ∧ (x96 = false → (V_ladinglaw12_EventsReads_r4 Ret r_8 r_9 r_10 r_11 r_12 r_13 r_14 r_15 false w))
def V_ladinglaw12_EventsReads_r2 (Ret : Bool → World → Prop) (r_4 : Sl) (r_5 : Int) (r_6 : Sl) (r_7 : Int) (r_8 : Int) (r_9 : Int) (r_10 : Int) (r_11 : Int) (r_12 : Sl) (r_13 : Int) (r_14 : Sl) (r_15 : Int) (x91 : Bool) (w : World) : Prop :=
  (x91 = true → (Cl Try.prog 13 [(Sl.v r_4), (Sl.v r_6)].toArray w (fun e w => ∃ (r_18 : Bool), e = .returned (.bool r_18) ∧ (V_ladinglaw12_EventsReads_r3 Ret r_5 r_7 r_8 r_9 r_10 r_11 r_12 r_13 r_14 r_15 r_18 w)))) ∧ (x91 = false → (V_ladinglaw12_EventsReads_r3 Ret r_5 r_7 r_8 r_9 r_10 r_11 r_12 r_13 r_14 r_15 false w))
def V_ladinglaw12_EventsReads_r1 (Ret : Bool → World → Prop) (r_1 : Int) (r_3 : Int) (r_4 : Sl) (r_5 : Int) (r_6 : Sl) (r_7 : Int) (r_8 : Int) (r_9 : Int) (r_10 : Int) (r_11 : Int) (r_12 : Sl) (r_13 : Int) (r_14 : Sl) (r_15 : Int) (x86 : Bool) (w : World) : Prop :=
  (x86 = true → (V_ladinglaw12_EventsReads_r2 Ret r_4 r_5 r_6 r_7 r_8 r_9 r_10 r_11 r_12 r_13 r_14 r_15 (decide (r_1 = r_3)) w)) ∧ (x86 = false → (V_ladinglaw12_EventsReads_r2 Ret r_4 r_5 r_6 r_7 r_8 r_9 r_10 r_11 r_12 r_13 r_14 r_15 false w))
def V_ladinglaw12_EventsReads (x0 : Sl) (x1 : ByteArray) (x2 : Int) (x3 : Int) (x4 : ByteArray) (w : World) (Ret : Bool → World → Prop) : Prop :=
  Cl Try.prog 16 [(Sl.v x0), (.string x1), (.int .i64 x2), (.int .i64 x3)].toArray w (fun e w => ∃ (r : Sl) (r_1 : Int), e = .returned (.tuple [(Sl.v r), (.int .i64 r_1)].toArray) ∧ (Cl Try.prog 19 [(Sl.v x0), (.string x1), (.int .i64 x2), (.int .i64 x3)].toArray w (fun e w => ∃ (r_2 : Sl) (r_3 : Int), e = .returned (.tuple [(Sl.v r_2), (.int .i64 r_3)].toArray) ∧ (Cl Try.prog 20 [(Sl.v x0), (.int .i64 x2), (.int .i64 x3)].toArray w (fun e w => ∃ (r_4 : Sl) (r_5 : Int), e = .returned (.tuple [(Sl.v r_4), (.int .i64 r_5)].toArray) ∧ (Cl Try.prog 21 [(Sl.v x0), (.int .i64 x2), (.int .i64 x3)].toArray w (fun e w => ∃ (r_6 : Sl) (r_7 : Int), e = .returned (.tuple [(Sl.v r_6), (.int .i64 r_7)].toArray) ∧ (Cl Try.prog 17 [(Sl.v x0), (.string x1), (.string x4)].toArray w (fun e w => ∃ (r_8 : Int) (r_9 : Int), e = .returned (.tuple [(.int .i64 r_8), (.int .i64 r_9)].toArray) ∧ (Cl Try.prog 22 [(Sl.v x0), (.string x1), (.string x4)].toArray w (fun e w => ∃ (r_10 : Int) (r_11 : Int), e = .returned (.tuple [(.int .i64 r_10), (.int .i64 r_11)].toArray) ∧ (Cl Try.prog 18 [(Sl.v x0)].toArray w (fun e w => ∃ (r_12 : Sl) (r_13 : Int), e = .returned (.tuple [(Sl.v r_12), (.int .i64 r_13)].toArray) ∧ (Cl Try.prog 23 [(Sl.v x0)].toArray w (fun e w => ∃ (r_14 : Sl) (r_15 : Int), e = .returned (.tuple [(Sl.v r_14), (.int .i64 r_15)].toArray) ∧ (Cl Try.prog 12 [].toArray w (fun e w => ∃ (r_16 : Bool), e = .returned (.bool r_16) ∧ ((r_16 = true → (Cl Try.prog 13 [(Sl.v r), (Sl.v r_2)].toArray w (fun e w => ∃ (r_19 : Bool), e = .returned (.bool r_19) ∧ (V_ladinglaw12_EventsReads_r1 Ret r_1 r_3 r_4 r_5 r_6 r_7 r_8 r_9 r_10 r_11 r_12 r_13 r_14 r_15 r_19 w)))) ∧ (r_16 = false → (V_ladinglaw12_EventsReads_r1 Ret r_1 r_3 r_4 r_5 r_6 r_7 r_8 r_9 r_10 r_11 r_12 r_13 r_14 r_15 false w))))))))))))))))))))
set_option maxRecDepth 100000 in
theorem L1_ladinglaw12_EventsReads (x0 : Sl) (x1 : ByteArray) (x2 : Int) (x3 : Int) (x4 : ByteArray) (w : World) (Ret : Bool → World → Prop) (H : V_ladinglaw12_EventsReads x0 x1 x2 x3 x4 w Ret) : Cl Try.prog 9 [(Sl.v x0), (.string x1), (.int .i64 x2), (.int .i64 x3), (.string x4)].toArray w (fun e w' => ∃ (r0 : Bool), e = .returned (.bool r0) ∧ Ret r0 w') := by
  unfold V_ladinglaw12_EventsReads at H
  refine C.enter 122 (zipE 0 [(Sl.v x0), (.string x1), (.int .i64 x2), (.int .i64 x3), (.string x4)]) Try.func9 rfl rfl (by rfl) rfl ?_
  intro a hE
  replace hE : Sat [] 122 [(0, (Sl.v x0)), (1, (.string x1)), (2, (.int .i64 x2)), (3, (.int .i64 x3)), (4, (.string x4))] a := hE
  refine C.seq ?_
  refine C.region ?_
  refine hE.pur (X.assign hE rfl) fun a hE => ?_
  refine C.nil (tn ?_)
  refine C.seq ?_
  refine C.region ?_
  refine hE.pur (X.move hE rfl) fun a hE => ?_
  refine hE.pur (X.move hE rfl) fun a hE => ?_
  refine hE.pur (X.move hE rfl) fun a hE => ?_
  refine hE.pur (X.move hE rfl) fun a hE => ?_
  refine hE.call (X.callF hE ent16 rfl rfl) H fun e w H => ?_
  obtain ⟨r, r_1, rfl, H⟩ := H
  refine ⟨_, rfl, fun a hE => ?_⟩
  refine hE.pur (X.move hE rfl) fun a hE => ?_
  refine hE.pur (X.extract hE rfl rfl) fun a hE => ?_
  refine hE.pur (X.extract hE rfl rfl) fun a hE => ?_
  refine hE.pur (X.assign hE rfl) fun a hE => ?_
  refine hE.pur (X.assign hE rfl) fun a hE => ?_
  refine C.nil (tn ?_)
  refine C.seq ?_
  refine C.region ?_
  refine hE.pur (X.move hE rfl) fun a hE => ?_
  refine hE.pur (X.move hE rfl) fun a hE => ?_
  refine hE.pur (X.move hE rfl) fun a hE => ?_
  refine hE.pur (X.move hE rfl) fun a hE => ?_
  refine hE.call (X.callF hE ent19 rfl rfl) H fun e w H => ?_
  obtain ⟨r_2, r_3, rfl, H⟩ := H
  refine ⟨_, rfl, fun a hE => ?_⟩
  refine hE.pur (X.move hE rfl) fun a hE => ?_
  refine hE.pur (X.extract hE rfl rfl) fun a hE => ?_
  refine hE.pur (X.extract hE rfl rfl) fun a hE => ?_
  refine hE.pur (X.assign hE rfl) fun a hE => ?_
  refine hE.pur (X.assign hE rfl) fun a hE => ?_
  refine C.nil (tn ?_)
  refine C.seq ?_
  refine C.region ?_
  refine hE.pur (X.move hE rfl) fun a hE => ?_
  refine hE.pur (X.move hE rfl) fun a hE => ?_
  refine hE.pur (X.move hE rfl) fun a hE => ?_
  refine hE.call (X.callF hE ent20 rfl rfl) H fun e w H => ?_
  obtain ⟨r_4, r_5, rfl, H⟩ := H
  refine ⟨_, rfl, fun a hE => ?_⟩
  refine hE.pur (X.move hE rfl) fun a hE => ?_
  refine hE.pur (X.extract hE rfl rfl) fun a hE => ?_
  refine hE.pur (X.extract hE rfl rfl) fun a hE => ?_
  refine hE.pur (X.assign hE rfl) fun a hE => ?_
  refine hE.pur (X.assign hE rfl) fun a hE => ?_
  refine C.nil (tn ?_)
  refine C.seq ?_
  refine C.region ?_
  refine hE.pur (X.move hE rfl) fun a hE => ?_
  refine hE.pur (X.move hE rfl) fun a hE => ?_
  refine hE.pur (X.move hE rfl) fun a hE => ?_
  refine hE.call (X.callF hE ent21 rfl rfl) H fun e w H => ?_
  obtain ⟨r_6, r_7, rfl, H⟩ := H
  refine ⟨_, rfl, fun a hE => ?_⟩
  refine hE.pur (X.move hE rfl) fun a hE => ?_
  refine hE.pur (X.extract hE rfl rfl) fun a hE => ?_
  refine hE.pur (X.extract hE rfl rfl) fun a hE => ?_
  refine hE.pur (X.assign hE rfl) fun a hE => ?_
  refine hE.pur (X.assign hE rfl) fun a hE => ?_
  refine C.nil (tn ?_)
  refine C.seq ?_
  refine C.region ?_
  refine hE.pur (X.move hE rfl) fun a hE => ?_
  refine hE.pur (X.move hE rfl) fun a hE => ?_
  refine hE.pur (X.move hE rfl) fun a hE => ?_
  refine hE.call (X.callF hE ent17 rfl rfl) H fun e w H => ?_
  obtain ⟨r_8, r_9, rfl, H⟩ := H
  refine ⟨_, rfl, fun a hE => ?_⟩
  refine hE.pur (X.move hE rfl) fun a hE => ?_
  refine hE.pur (X.extract hE rfl rfl) fun a hE => ?_
  refine hE.pur (X.extract hE rfl rfl) fun a hE => ?_
  refine hE.pur (X.assign hE rfl) fun a hE => ?_
  refine hE.pur (X.assign hE rfl) fun a hE => ?_
  refine C.nil (tn ?_)
  refine C.seq ?_
  refine C.region ?_
  refine hE.pur (X.move hE rfl) fun a hE => ?_
  refine hE.pur (X.move hE rfl) fun a hE => ?_
  refine hE.pur (X.move hE rfl) fun a hE => ?_
  refine hE.call (X.callF hE ent22 rfl rfl) H fun e w H => ?_
  obtain ⟨r_10, r_11, rfl, H⟩ := H
  refine ⟨_, rfl, fun a hE => ?_⟩
  refine hE.pur (X.move hE rfl) fun a hE => ?_
  refine hE.pur (X.extract hE rfl rfl) fun a hE => ?_
  refine hE.pur (X.extract hE rfl rfl) fun a hE => ?_
  refine hE.pur (X.assign hE rfl) fun a hE => ?_
  refine hE.pur (X.assign hE rfl) fun a hE => ?_
  refine C.nil (tn ?_)
  refine C.seq ?_
  refine C.region ?_
  refine hE.pur (X.move hE rfl) fun a hE => ?_
  refine hE.call (X.callF hE ent18 rfl rfl) H fun e w H => ?_
  obtain ⟨r_12, r_13, rfl, H⟩ := H
  refine ⟨_, rfl, fun a hE => ?_⟩
  refine hE.pur (X.move hE rfl) fun a hE => ?_
  refine hE.pur (X.extract hE rfl rfl) fun a hE => ?_
  refine hE.pur (X.extract hE rfl rfl) fun a hE => ?_
  refine hE.pur (X.assign hE rfl) fun a hE => ?_
  refine hE.pur (X.assign hE rfl) fun a hE => ?_
  refine C.nil (tn ?_)
  refine C.seq ?_
  refine C.region ?_
  refine hE.pur (X.move hE rfl) fun a hE => ?_
  refine hE.call (X.callF hE ent23 rfl rfl) H fun e w H => ?_
  obtain ⟨r_14, r_15, rfl, H⟩ := H
  refine ⟨_, rfl, fun a hE => ?_⟩
  refine hE.pur (X.move hE rfl) fun a hE => ?_
  refine hE.pur (X.extract hE rfl rfl) fun a hE => ?_
  refine hE.pur (X.extract hE rfl rfl) fun a hE => ?_
  refine hE.pur (X.assign hE rfl) fun a hE => ?_
  refine hE.pur (X.assign hE rfl) fun a hE => ?_
  refine C.nil (tn ?_)
  refine C.seq ?_
  refine C.region ?_
  refine hE.call (X.callF hE ent12 rfl rfl) H fun e w H => ?_
  obtain ⟨r_16, rfl, H⟩ := H
  refine ⟨_, rfl, fun a hE => ?_⟩
  refine hE.pur (X.move hE rfl) fun a hE => ?_
  refine WL.join (ds := []) (N := 122) (σ := Bool) (fun s => [(86, (.bool s)), (12, (.int .i64 r_1)), (14, (.int .i64 r_3)), (15, (Sl.v r_4)), (16, (.int .i64 r_5)), (17, (Sl.v r_6)), (18, (.int .i64 r_7)), (19, (.int .i64 r_8)), (20, (.int .i64 r_9)), (21, (.int .i64 r_10)), (22, (.int .i64 r_11)), (23, (Sl.v r_12)), (24, (.int .i64 r_13)), (25, (Sl.v r_14)), (26, (.int .i64 r_15))]) (fun s w => V_ladinglaw12_EventsReads_r1 Ret r_1 r_3 r_4 r_5 r_6 r_7 r_8 r_9 r_10 r_11 r_12 r_13 r_14 r_15 s w) 4 ?_ (fun hr1 => ?_)
  · intro x86 w a H hE
    try dsimp only at H hE
    unfold V_ladinglaw12_EventsReads_r1 at H
    refine hE.pur (X.move hE rfl) fun a hE => ?_
    refine WL.join (ds := []) (N := 122) (σ := Bool) (fun s => [(91, (.bool s)), (15, (Sl.v r_4)), (16, (.int .i64 r_5)), (17, (Sl.v r_6)), (18, (.int .i64 r_7)), (19, (.int .i64 r_8)), (20, (.int .i64 r_9)), (21, (.int .i64 r_10)), (22, (.int .i64 r_11)), (23, (Sl.v r_12)), (24, (.int .i64 r_13)), (25, (Sl.v r_14)), (26, (.int .i64 r_15))]) (fun s w => V_ladinglaw12_EventsReads_r2 Ret r_4 r_5 r_6 r_7 r_8 r_9 r_10 r_11 r_12 r_13 r_14 r_15 s w) 4 ?_ (fun hr2 => ?_)
    · intro x91 w a H hE
      try dsimp only at H hE
      unfold V_ladinglaw12_EventsReads_r2 at H
      refine hE.pur (X.move hE rfl) fun a hE => ?_
      refine WL.join (ds := []) (N := 122) (σ := Bool) (fun s => [(96, (.bool s)), (16, (.int .i64 r_5)), (18, (.int .i64 r_7)), (19, (.int .i64 r_8)), (20, (.int .i64 r_9)), (21, (.int .i64 r_10)), (22, (.int .i64 r_11)), (23, (Sl.v r_12)), (24, (.int .i64 r_13)), (25, (Sl.v r_14)), (26, (.int .i64 r_15))]) (fun s w => V_ladinglaw12_EventsReads_r3 Ret r_5 r_7 r_8 r_9 r_10 r_11 r_12 r_13 r_14 r_15 s w) 4 ?_ (fun hr3 => ?_)
      · intro x96 w a H hE
        try dsimp only at H hE
        unfold V_ladinglaw12_EventsReads_r3 at H
        refine hE.pur (X.move hE rfl) fun a hE => ?_
        refine WL.join (ds := []) (N := 122) (σ := Bool) (fun s => [(101, (.bool s)), (19, (.int .i64 r_8)), (20, (.int .i64 r_9)), (21, (.int .i64 r_10)), (22, (.int .i64 r_11)), (23, (Sl.v r_12)), (24, (.int .i64 r_13)), (25, (Sl.v r_14)), (26, (.int .i64 r_15))]) (fun s w => V_ladinglaw12_EventsReads_r4 Ret r_8 r_9 r_10 r_11 r_12 r_13 r_14 r_15 s w) 4 ?_ (fun hr4 => ?_)
        · intro x101 w a H hE
          try dsimp only at H hE
          unfold V_ladinglaw12_EventsReads_r4 at H
          refine hE.pur (X.move hE rfl) fun a hE => ?_
          refine WL.join (ds := []) (N := 122) (σ := Bool) (fun s => [(106, (.bool s)), (20, (.int .i64 r_9)), (22, (.int .i64 r_11)), (23, (Sl.v r_12)), (24, (.int .i64 r_13)), (25, (Sl.v r_14)), (26, (.int .i64 r_15))]) (fun s w => V_ladinglaw12_EventsReads_r5 Ret r_9 r_11 r_12 r_13 r_14 r_15 s w) 4 ?_ (fun hr5 => ?_)
          · intro x106 w a H hE
            try dsimp only at H hE
            unfold V_ladinglaw12_EventsReads_r5 at H
            refine hE.pur (X.move hE rfl) fun a hE => ?_
            refine WL.join (ds := []) (N := 122) (σ := Bool) (fun s => [(111, (.bool s)), (23, (Sl.v r_12)), (24, (.int .i64 r_13)), (25, (Sl.v r_14)), (26, (.int .i64 r_15))]) (fun s w => V_ladinglaw12_EventsReads_r6 Ret r_12 r_13 r_14 r_15 s w) 4 ?_ (fun hr6 => ?_)
            · intro x111 w a H hE
              try dsimp only at H hE
              unfold V_ladinglaw12_EventsReads_r6 at H
              refine hE.pur (X.move hE rfl) fun a hE => ?_
              refine WL.join (ds := []) (N := 122) (σ := Bool) (fun s => [(116, (.bool s)), (24, (.int .i64 r_13)), (26, (.int .i64 r_15))]) (fun s w => V_ladinglaw12_EventsReads_r7 Ret r_13 r_15 s w) 4 ?_ (fun hr7 => ?_)
              · intro x116 w a H hE
                try dsimp only at H hE
                unfold V_ladinglaw12_EventsReads_r7 at H
                refine hE.pur (X.move hE rfl) fun a hE => ?_
                refine WL.join (ds := []) (N := 122) (σ := Bool) (fun s => [(121, (.bool s))]) (fun s w => V_ladinglaw12_EventsReads_r8 Ret s w) 4 ?_ (fun hr8 => ?_)
                · intro x121 w a H hE
                  try dsimp only at H hE
                  unfold V_ladinglaw12_EventsReads_r8 at H
                  refine hE.pur (X.assign hE rfl) fun a hE => ?_
                  refine C.nil (tn ?_)
                  exact C.ret (C.ret1 hE rfl rfl ⟨_, rfl, H⟩)
                · rcases Bool.eq_false_or_eq_true (x116) with hbr8 | hbr8
                  · replace H := H.1 hbr8
                    replace hE := hE.bool (b := true) (t := 117) rfl (hbr8)
                    refine hE.on (by rfl) (by rfl) ?_
                    refine hE.pur (X.move hE rfl) fun a hE => ?_
                    refine hE.on (by rfl) (by rfl) ?_
                    refine hE.pur (X.move hE rfl) fun a hE => ?_
                    refine hE.on (by rfl) (by rfl) ?_
                    refine hE.pur (X.eqI hE rfl rfl) fun a hE => ?_
                    refine hE.pur (X.pickT hE rfl rfl) fun a hE => ?_
                    exact hr8 (decide (r_13 = r_15)) _ _ H (hE.weak ⟨rfl, trivial⟩)
                  · replace H := H.2 hbr8
                    replace hE := hE.bool (b := false) (t := 117) rfl (hbr8)
                    refine hE.off (by rfl) (by rfl) (by decide) (fun a hE => ?_)
                    refine hE.off (by rfl) (by rfl) (by decide) (fun a hE => ?_)
                    refine hE.off (by rfl) (by rfl) (by decide) (fun a hE => ?_)
                    refine hE.pur (X.pickF hE rfl rfl) fun a hE => ?_
                    exact hr8 false _ _ H (hE.weak ⟨rfl, trivial⟩)
              · rcases Bool.eq_false_or_eq_true (x111) with hbr7 | hbr7
                · replace H := H.1 hbr7
                  replace hE := hE.bool (b := true) (t := 112) rfl (hbr7)
                  refine hE.on (by rfl) (by rfl) ?_
                  refine hE.pur (X.move hE rfl) fun a hE => ?_
                  refine hE.on (by rfl) (by rfl) ?_
                  refine hE.pur (X.move hE rfl) fun a hE => ?_
                  refine hE.on (by rfl) (by rfl) ?_
                  refine hE.call (X.callF hE ent24 rfl rfl) H fun e w H => ?_
                  obtain ⟨r_17, rfl, H⟩ := H
                  refine ⟨_, rfl, fun a hE => ?_⟩
                  refine hE.pur (X.pickT hE rfl rfl) fun a hE => ?_
                  exact hr7 r_17 _ _ H (hE.weak ⟨rfl, rfl, rfl, trivial⟩)
                · replace H := H.2 hbr7
                  replace hE := hE.bool (b := false) (t := 112) rfl (hbr7)
                  refine hE.off (by rfl) (by rfl) (by decide) (fun a hE => ?_)
                  refine hE.off (by rfl) (by rfl) (by decide) (fun a hE => ?_)
                  refine hE.off (by rfl) (by rfl) (by decide) (fun a hE => ?_)
                  refine hE.pur (X.pickF hE rfl rfl) fun a hE => ?_
                  exact hr7 false _ _ H (hE.weak ⟨rfl, rfl, rfl, trivial⟩)
            · rcases Bool.eq_false_or_eq_true (x106) with hbr6 | hbr6
              · replace H := H.1 hbr6
                replace hE := hE.bool (b := true) (t := 107) rfl (hbr6)
                refine hE.on (by rfl) (by rfl) ?_
                refine hE.pur (X.move hE rfl) fun a hE => ?_
                refine hE.on (by rfl) (by rfl) ?_
                refine hE.pur (X.move hE rfl) fun a hE => ?_
                refine hE.on (by rfl) (by rfl) ?_
                refine hE.pur (X.eqI hE rfl rfl) fun a hE => ?_
                refine hE.pur (X.pickT hE rfl rfl) fun a hE => ?_
                exact hr6 (decide (r_9 = r_11)) _ _ H (hE.weak ⟨rfl, rfl, rfl, rfl, rfl, trivial⟩)
              · replace H := H.2 hbr6
                replace hE := hE.bool (b := false) (t := 107) rfl (hbr6)
                refine hE.off (by rfl) (by rfl) (by decide) (fun a hE => ?_)
                refine hE.off (by rfl) (by rfl) (by decide) (fun a hE => ?_)
                refine hE.off (by rfl) (by rfl) (by decide) (fun a hE => ?_)
                refine hE.pur (X.pickF hE rfl rfl) fun a hE => ?_
                exact hr6 false _ _ H (hE.weak ⟨rfl, rfl, rfl, rfl, rfl, trivial⟩)
          · rcases Bool.eq_false_or_eq_true (x101) with hbr5 | hbr5
            · replace H := H.1 hbr5
              replace hE := hE.bool (b := true) (t := 102) rfl (hbr5)
              refine hE.on (by rfl) (by rfl) ?_
              refine hE.pur (X.move hE rfl) fun a hE => ?_
              refine hE.on (by rfl) (by rfl) ?_
              refine hE.pur (X.move hE rfl) fun a hE => ?_
              refine hE.on (by rfl) (by rfl) ?_
              refine hE.pur (X.eqI hE rfl rfl) fun a hE => ?_
              refine hE.pur (X.pickT hE rfl rfl) fun a hE => ?_
              exact hr5 (decide (r_8 = r_10)) _ _ H (hE.weak ⟨rfl, rfl, rfl, rfl, rfl, rfl, rfl, trivial⟩)
            · replace H := H.2 hbr5
              replace hE := hE.bool (b := false) (t := 102) rfl (hbr5)
              refine hE.off (by rfl) (by rfl) (by decide) (fun a hE => ?_)
              refine hE.off (by rfl) (by rfl) (by decide) (fun a hE => ?_)
              refine hE.off (by rfl) (by rfl) (by decide) (fun a hE => ?_)
              refine hE.pur (X.pickF hE rfl rfl) fun a hE => ?_
              exact hr5 false _ _ H (hE.weak ⟨rfl, rfl, rfl, rfl, rfl, rfl, rfl, trivial⟩)
        · rcases Bool.eq_false_or_eq_true (x96) with hbr4 | hbr4
          · replace H := H.1 hbr4
            replace hE := hE.bool (b := true) (t := 97) rfl (hbr4)
            refine hE.on (by rfl) (by rfl) ?_
            refine hE.pur (X.move hE rfl) fun a hE => ?_
            refine hE.on (by rfl) (by rfl) ?_
            refine hE.pur (X.move hE rfl) fun a hE => ?_
            refine hE.on (by rfl) (by rfl) ?_
            refine hE.pur (X.eqI hE rfl rfl) fun a hE => ?_
            refine hE.pur (X.pickT hE rfl rfl) fun a hE => ?_
            exact hr4 (decide (r_5 = r_7)) _ _ H (hE.weak ⟨rfl, rfl, rfl, rfl, rfl, rfl, rfl, rfl, rfl, trivial⟩)
          · replace H := H.2 hbr4
            replace hE := hE.bool (b := false) (t := 97) rfl (hbr4)
            refine hE.off (by rfl) (by rfl) (by decide) (fun a hE => ?_)
            refine hE.off (by rfl) (by rfl) (by decide) (fun a hE => ?_)
            refine hE.off (by rfl) (by rfl) (by decide) (fun a hE => ?_)
            refine hE.pur (X.pickF hE rfl rfl) fun a hE => ?_
            exact hr4 false _ _ H (hE.weak ⟨rfl, rfl, rfl, rfl, rfl, rfl, rfl, rfl, rfl, trivial⟩)
      · rcases Bool.eq_false_or_eq_true (x91) with hbr3 | hbr3
        · replace H := H.1 hbr3
          replace hE := hE.bool (b := true) (t := 92) rfl (hbr3)
          refine hE.on (by rfl) (by rfl) ?_
          refine hE.pur (X.move hE rfl) fun a hE => ?_
          refine hE.on (by rfl) (by rfl) ?_
          refine hE.pur (X.move hE rfl) fun a hE => ?_
          refine hE.on (by rfl) (by rfl) ?_
          refine hE.call (X.callF hE ent13 rfl rfl) H fun e w H => ?_
          obtain ⟨r_18, rfl, H⟩ := H
          refine ⟨_, rfl, fun a hE => ?_⟩
          refine hE.pur (X.pickT hE rfl rfl) fun a hE => ?_
          exact hr3 r_18 _ _ H (hE.weak ⟨rfl, rfl, rfl, rfl, rfl, rfl, rfl, rfl, rfl, rfl, rfl, trivial⟩)
        · replace H := H.2 hbr3
          replace hE := hE.bool (b := false) (t := 92) rfl (hbr3)
          refine hE.off (by rfl) (by rfl) (by decide) (fun a hE => ?_)
          refine hE.off (by rfl) (by rfl) (by decide) (fun a hE => ?_)
          refine hE.off (by rfl) (by rfl) (by decide) (fun a hE => ?_)
          refine hE.pur (X.pickF hE rfl rfl) fun a hE => ?_
          exact hr3 false _ _ H (hE.weak ⟨rfl, rfl, rfl, rfl, rfl, rfl, rfl, rfl, rfl, rfl, rfl, trivial⟩)
    · rcases Bool.eq_false_or_eq_true (x86) with hbr2 | hbr2
      · replace H := H.1 hbr2
        replace hE := hE.bool (b := true) (t := 87) rfl (hbr2)
        refine hE.on (by rfl) (by rfl) ?_
        refine hE.pur (X.move hE rfl) fun a hE => ?_
        refine hE.on (by rfl) (by rfl) ?_
        refine hE.pur (X.move hE rfl) fun a hE => ?_
        refine hE.on (by rfl) (by rfl) ?_
        refine hE.pur (X.eqI hE rfl rfl) fun a hE => ?_
        refine hE.pur (X.pickT hE rfl rfl) fun a hE => ?_
        exact hr2 (decide (r_1 = r_3)) _ _ H (hE.weak ⟨rfl, rfl, rfl, rfl, rfl, rfl, rfl, rfl, rfl, rfl, rfl, rfl, rfl, trivial⟩)
      · replace H := H.2 hbr2
        replace hE := hE.bool (b := false) (t := 87) rfl (hbr2)
        refine hE.off (by rfl) (by rfl) (by decide) (fun a hE => ?_)
        refine hE.off (by rfl) (by rfl) (by decide) (fun a hE => ?_)
        refine hE.off (by rfl) (by rfl) (by decide) (fun a hE => ?_)
        refine hE.pur (X.pickF hE rfl rfl) fun a hE => ?_
        exact hr2 false _ _ H (hE.weak ⟨rfl, rfl, rfl, rfl, rfl, rfl, rfl, rfl, rfl, rfl, rfl, rfl, rfl, trivial⟩)
  · rcases Bool.eq_false_or_eq_true (r_16) with hbr1 | hbr1
    · replace H := H.1 hbr1
      replace hE := hE.bool (b := true) (t := 82) rfl (hbr1)
      refine hE.on (by rfl) (by rfl) ?_
      refine hE.pur (X.move hE rfl) fun a hE => ?_
      refine hE.on (by rfl) (by rfl) ?_
      refine hE.pur (X.move hE rfl) fun a hE => ?_
      refine hE.on (by rfl) (by rfl) ?_
      refine hE.call (X.callF hE ent13 rfl rfl) H fun e w H => ?_
      obtain ⟨r_19, rfl, H⟩ := H
      refine ⟨_, rfl, fun a hE => ?_⟩
      refine hE.pur (X.pickT hE rfl rfl) fun a hE => ?_
      exact hr1 r_19 _ _ H (hE.weak ⟨rfl, rfl, rfl, rfl, rfl, rfl, rfl, rfl, rfl, rfl, rfl, rfl, rfl, rfl, rfl, trivial⟩)
    · replace H := H.2 hbr1
      replace hE := hE.bool (b := false) (t := 82) rfl (hbr1)
      refine hE.off (by rfl) (by rfl) (by decide) (fun a hE => ?_)
      refine hE.off (by rfl) (by rfl) (by decide) (fun a hE => ?_)
      refine hE.off (by rfl) (by rfl) (by decide) (fun a hE => ?_)
      refine hE.pur (X.pickF hE rfl rfl) fun a hE => ?_
      exact hr1 false _ _ H (hE.weak ⟨rfl, rfl, rfl, rfl, rfl, rfl, rfl, rfl, rfl, rfl, rfl, rfl, rfl, rfl, rfl, trivial⟩)
end Go.Proofs.Ytlghlmoifjcgoaa.VG
