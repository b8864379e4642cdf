/- Verification conditions, by program (gen.py), of functions of the loaded program, each with the proof that it gives the call; no condition. -/
import Derived.Test.YtlghlmoifjcgoaaVS
set_option linter.unusedVariables false
set_option linter.unusedSimpArgs false
namespace Go.Proofs.Ytlghlmoifjcgoaa.VG
open Go.VB Go.Proofs

/-! ### lading ladinglaw12.EventsMarks: function 7 -/
def V_ladinglaw12_EventsMarks_r5 (Ret : Bool → World → Prop) (x29 : Int) (Kl2 : Int → World → Prop) (x50 : Bool) (w : World) : Prop :=
  (x50 = true → (Ret false w)) ∧ (x50 = false → (Kl2 (IntKind.wrap .i64 (x29 + 1)) w))
def V_ladinglaw12_EventsMarks_r4 (x2 : ByteArray) (Ret : Bool → World → Prop) (x29 : Int) (Kl2 : Int → World → Prop) (x10 : Option Addr) (x44 : Bool) (w : World) : Prop :=
  (x44 = true → (opE Try.prog Value.pointer (Instr.fieldAt 32 (.pointer x10) 3) w (fun x46 w => opE Try.prog Value.string (Instr.loadAt 9 (.pointer x46)) w (fun x47 w => V_ladinglaw12_EventsMarks_r5 Ret x29 Kl2 (decide (x47 = x2)) w)))) ∧ (x44 = false → (V_ladinglaw12_EventsMarks_r5 Ret x29 Kl2 false w))
def V_ladinglaw12_EventsMarks_r3 (x1 : ByteArray) (x2 : ByteArray) (Ret : Bool → World → Prop) (x29 : Int) (Kl2 : Int → World → Prop) (x10 : Option Addr) (x38 : Bool) (w : World) : Prop :=
  (x38 = true → (opE Try.prog Value.pointer (Instr.fieldAt 32 (.pointer x10) 0) w (fun x40 w => opE Try.prog Value.string (Instr.loadAt 9 (.pointer x40)) w (fun x41 w => V_ladinglaw12_EventsMarks_r4 x2 Ret x29 Kl2 x10 (decide (x41 = x1)) w)))) ∧ (x38 = false → (V_ladinglaw12_EventsMarks_r4 x2 Ret x29 Kl2 x10 false w))
def V_ladinglaw12_EventsMarks_l2b (x0 : Sl) (x1 : ByteArray) (x2 : ByteArray) (Ret : Bool → World → Prop) (r_1 : Int) (r_2 : Int) (x29 : Int) (w : World) (Kl2 : Int → World → Prop) : Prop :=
  ((x29 < (x0.len : Int)) → (opE Try.prog Value.pointer (Instr.indexAt 22 (Sl.v x0) (.int .i64 x29)) w (fun x31 w => opE Try.prog T_api_Event.v (Instr.loadAt 32 (.pointer x31)) w (fun x32 w => opE Try.prog Value.pointer (Instr.alloc 32 true (.tuple #[])) w (fun x10 w => opU Try.prog (Instr.storeAt 32 (.pointer x10) (T_api_Event.v x32)) w (fun w => ((r_2 = 0) → (V_ladinglaw12_EventsMarks_r3 x1 x2 Ret x29 Kl2 x10 (decide (x2 ≠ (ByteArray.mk #[]))) w)) ∧ (¬ (r_2 = 0) → (V_ladinglaw12_EventsMarks_r3 x1 x2 Ret x29 Kl2 x10 false w)))))))) ∧ (¬ (x29 < (x0.len : Int)) → (Ret (decide (r_1 = 0)) w))
def V_ladinglaw12_EventsMarks_r9 (Ret : Bool → World → Prop) (x87 : Bool) (w : World) : Prop :=
  Ret x87 w
def V_ladinglaw12_EventsMarks_r8 (x2 : ByteArray) (Ret : Bool → World → Prop) (x83 : Bool) (w : World) : Prop :=
  (x83 = true → (V_ladinglaw12_EventsMarks_r9 Ret (decide (x2 ≠ (ByteArray.mk #[]))) w)) ∧ (x83 = false → (V_ladinglaw12_EventsMarks_r9 Ret false w))
def V_ladinglaw12_EventsMarks_r7 (x2 : ByteArray) (Ret : Bool → World → Prop) (r_1 : Int) (r_3 : Sl) (x75 : Bool) (w : World) : Prop :=
  (x75 = true → (opE Try.prog Value.pointer (Instr.indexAt 22 (Sl.v r_3) (.int .i64 0)) w (fun x78 w => opE Try.prog Value.pointer (Instr.fieldAt 32 (.pointer x78) 1) w (fun x79 w => opE Try.prog (Value.int .i64) (Instr.loadAt 3 (.pointer x79)) w (fun x80 w => V_ladinglaw12_EventsMarks_r8 x2 Ret (decide (x80 = r_1)) w))))) ∧ (x75 = false → (V_ladinglaw12_EventsMarks_r8 x2 Ret false w))
def V_ladinglaw12_EventsMarks_r6 (x2 : ByteArray) (Ret : Bool → World → Prop) (r_1 : Int) (r_3 : Sl) (x67 : Bool) (w : World) : Prop :=
  (x67 = true → (opE Try.prog Value.pointer (Instr.indexAt 22 (Sl.v r_3) (.int .i64 0)) w (fun x70 w => opE Try.prog Value.pointer (Instr.fieldAt 32 (.pointer x70) 3) w (fun x71 w => opE Try.prog Value.string (Instr.loadAt 9 (.pointer x71)) w (fun x72 w => V_ladinglaw12_EventsMarks_r7 x2 Ret r_1 r_3 (decide (x72 = x2)) w))))) ∧ (x67 = false → (V_ladinglaw12_EventsMarks_r7 x2 Ret r_1 r_3 false w))
def V_ladinglaw12_EventsMarks_r1 (x0 : Sl) (x1 : ByteArray) (x2 : ByteArray) (Ret : Bool → World → Prop) (r_1 : Int) (r_2 : Int) (x26 : Bool) (w : World) : Prop :=
  (x26 = true → (∃ (I : Int → World → Prop) (μ : Int → World → Nat), I 0 w ∧ ∀ (x29 : Int) w, I x29 w → V_ladinglaw12_EventsMarks_l2b x0 x1 x2 Ret r_1 r_2 x29 w (fun x29' w' => I x29' w' ∧ μ x29' w' < μ x29 w))) ∧ (x26 = false → (Cl Try.prog 16 [(Sl.v x0), (.string x1), (.int .i64 r_1), (.int .i64 1)].toArray w (fun e w => ∃ (r_3 : Sl) (r_4 : Int), e = .returned (.tuple [(Sl.v r_3), (.int .i64 r_4)].toArray) ∧ (((r_4 = 0) → (V_ladinglaw12_EventsMarks_r6 x2 Ret r_1 r_3 (decide ((r_3.len : Int) = 1)) w)) ∧ (¬ (r_4 = 0) → (V_ladinglaw12_EventsMarks_r6 x2 Ret r_1 r_3 false w))))))
def V_ladinglaw12_EventsMarks (x0 : Sl) (x1 : ByteArray) (x2 : ByteArray) (w : World) (Ret : Bool → World → Prop) : Prop :=
  Cl Try.prog 12 [].toArray w (fun e w => ∃ (r : Bool), e = .returned (.bool r) ∧ (((!r) = true → (Ret false w)) ∧ ((!r) = false → (Cl Try.prog 17 [(Sl.v x0), (.string x1), (.string x2)].toArray w (fun e w => ∃ (r_1 : Int) (r_2 : Int), e = .returned (.tuple [(.int .i64 r_1), (.int .i64 r_2)].toArray) ∧ (((r_2 ≠ 0) → (V_ladinglaw12_EventsMarks_r1 x0 x1 x2 Ret r_1 r_2 true w)) ∧ (¬ (r_2 ≠ 0) → (V_ladinglaw12_EventsMarks_r1 x0 x1 x2 Ret r_1 r_2 (decide (r_1 = 0)) w))))))))
set_option maxRecDepth 100000 in
theorem L1_ladinglaw12_EventsMarks (x0 : Sl) (x1 : ByteArray) (x2 : ByteArray) (w : World) (Ret : Bool → World → Prop) (H : V_ladinglaw12_EventsMarks x0 x1 x2 w Ret) : Cl Try.prog 7 [(Sl.v x0), (.string x1), (.string x2)].toArray w (fun e w' => ∃ (r0 : Bool), e = .returned (.bool r0) ∧ Ret r0 w') := by
  unfold V_ladinglaw12_EventsMarks at H
  refine C.enter 88 (zipE 0 [(Sl.v x0), (.string x1), (.string x2)]) Try.func7 rfl rfl (by rfl) rfl ?_
  intro a hE
  replace hE : Sat [] 88 [(0, (Sl.v x0)), (1, (.string x1)), (2, (.string x2))] a := hE
  refine C.seq ?_
  refine C.region ?_
  refine hE.pur (X.assign hE rfl) fun a hE => ?_
  refine C.nil (tn ?_)
  refine C.seq ?_
  refine C.seq ?_
  refine C.region ?_
  refine hE.call (X.callF hE ent12 rfl rfl) H fun e w H => ?_
  obtain ⟨r, rfl, H⟩ := H
  refine ⟨_, rfl, fun a hE => ?_⟩
  refine hE.pur (X.not hE rfl) fun a hE => ?_
  refine C.nil (tn ?_)
  refine C.condB hE rfl (fun hc => ?_) (fun hc => ?_)
  · replace H := H.1 hc
    refine C.seq ?_
    refine C.region ?_
    refine hE.pur (X.assign hE rfl) fun a hE => ?_
    refine C.nil (tn ?_)
    exact C.ret (tr (C.ret1 hE rfl rfl ⟨_, rfl, H⟩))
  · replace H := H.2 hc
    refine C.skip (tn ?_)
    refine C.seq ?_
    refine C.region ?_
    refine hE.pur (X.move hE rfl) fun a hE => ?_
    refine hE.pur (X.move hE rfl) fun a hE => ?_
    refine hE.pur (X.move hE rfl) fun a hE => ?_
    refine hE.call (X.callF hE ent17 rfl rfl) H fun e w H => ?_
    obtain ⟨r_1, r_2, rfl, H⟩ := H
    refine ⟨_, rfl, fun a hE => ?_⟩
    refine hE.pur (X.move hE rfl) fun a hE => ?_
    refine hE.pur (X.extract hE rfl rfl) fun a hE => ?_
    refine hE.pur (X.extract hE rfl rfl) fun a hE => ?_
    refine hE.pur (X.assign hE rfl) fun a hE => ?_
    refine hE.pur (X.assign hE rfl) fun a hE => ?_
    refine C.nil (tn ?_)
    refine C.seq ?_
    refine C.seq ?_
    refine C.region ?_
    refine hE.pur (X.move hE rfl) fun a hE => ?_
    refine hE.pur (X.neI hE rfl rfl) fun a hE => ?_
    refine hE.pur (X.move hE rfl) fun a hE => ?_
    refine WL.join (ds := []) (N := 88) (σ := Bool) (fun s => [(26, (.bool s)), (0, (Sl.v x0)), (1, (.string x1)), (2, (.string x2)), (7, (.int .i64 r_1)), (8, (.int .i64 r_2))]) (fun s w => V_ladinglaw12_EventsMarks_r1 x0 x1 x2 Ret r_1 r_2 s w) 3 ?_ (fun hr1 => ?_)
    · intro x26 w a H hE
      try dsimp only at H hE
      unfold V_ladinglaw12_EventsMarks_r1 at H
      refine C.nil (tn ?_)
      refine C.condB hE rfl (fun hc => ?_) (fun hc => ?_)
      · replace H := H.1 hc
        refine C.seq ?_
        refine C.seq ?_
        refine C.region ?_
        refine hE.pur (X.move hE rfl) fun a hE => ?_
        refine hE.purR (fun w => X.lenL hE Try.underlying22 rfl) fun a hE => ?_
        refine hE.pur (X.move hE rfl) fun a hE => ?_
        refine C.nil (tn ?_)
        refine C.block ?_
        obtain ⟨I_l2, μ_l2, h0, hb⟩ := H
        refine C.loop (ds := []) (N := 88) (σ := Int) (fun s => [(29, (.int .i64 s)), (1, (.string x1)), (2, (.string x2)), (7, (.int .i64 r_1)), (8, (.int .i64 r_2)), (27, (Sl.v x0)), (28, (.int .i64 (x0.len : Int)))]) (fun s w => I_l2 s w) (fun s w => μ_l2 s w) 0 h0 (hE.weak ⟨rfl, rfl, rfl, rfl, rfl, rfl, rfl, trivial⟩) ?_
        intro x29 w a hI hE
        try dsimp only at hI hE
        obtain ⟨Kl2, hK_l2⟩ : ∃ K : Int → World → Prop, K = (fun x29' w' => I_l2 x29' w' ∧ μ_l2 x29' w' < μ_l2 x29 w) := ⟨_, rfl⟩
        have H : V_ladinglaw12_EventsMarks_l2b x0 x1 x2 Ret r_1 r_2 x29 w Kl2 := by rw [hK_l2]; exact hb x29 w hI
        clear hb h0 hI
        unfold V_ladinglaw12_EventsMarks_l2b at H
        refine C.seq ?_
        refine C.region ?_
        refine hE.pur (X.ltI hE rfl rfl) fun a hE => ?_
        refine C.nil (tn ?_)
        refine C.seq ?_
        refine C.condP hE rfl (fun hc => ?_) (fun hc => ?_)
        · replace H := H.1 hc
          refine C.skip (tn ?_)
          refine C.seq ?_
          refine C.block ?_
          refine C.seq ?_
          refine C.region ?_
          refine hE.op (X.indexAddr hE rfl rfl) H fun x31 w a H hE => ?_
          refine hE.op (X.load hE rfl) H fun x32 w a H hE => ?_
          refine hE.op (X.alloc) H fun x10 w a H hE => ?_
          refine hE.opu (X.store hE rfl rfl) H fun w a H hE => ?_
          refine C.nil (tn ?_)
          refine C.seq ?_
          refine C.region ?_
          refine hE.pur (X.move hE rfl) fun a hE => ?_
          refine hE.pur (X.eqI hE rfl rfl) fun a hE => ?_
          refine hE.pur (X.move hE rfl) fun a hE => ?_
          refine WL.join (ds := []) (N := 88) (σ := Bool) (fun s => [(38, (.bool s)), (1, (.string x1)), (2, (.string x2)), (7, (.int .i64 r_1)), (8, (.int .i64 r_2)), (10, (.pointer x10)), (27, (Sl.v x0)), (28, (.int .i64 (x0.len : Int))), (29, (.int .i64 x29))]) (fun s w => V_ladinglaw12_EventsMarks_r3 x1 x2 Ret x29 Kl2 x10 s w) 3 ?_ (fun hr3 => ?_)
          · intro x38 w a H hE
            try dsimp only at H hE
            unfold V_ladinglaw12_EventsMarks_r3 at H
            refine hE.pur (X.move hE rfl) fun a hE => ?_
            refine WL.join (ds := []) (N := 88) (σ := Bool) (fun s => [(44, (.bool s)), (1, (.string x1)), (2, (.string x2)), (7, (.int .i64 r_1)), (8, (.int .i64 r_2)), (10, (.pointer x10)), (27, (Sl.v x0)), (28, (.int .i64 (x0.len : Int))), (29, (.int .i64 x29))]) (fun s w => V_ladinglaw12_EventsMarks_r4 x2 Ret x29 Kl2 x10 s w) 5 ?_ (fun hr4 => ?_)
            · intro x44 w a H hE
              try dsimp only at H hE
              unfold V_ladinglaw12_EventsMarks_r4 at H
              refine hE.pur (X.move hE rfl) fun a hE => ?_
              refine WL.join (ds := []) (N := 88) (σ := Bool) (fun s => [(50, (.bool s)), (1, (.string x1)), (2, (.string x2)), (7, (.int .i64 r_1)), (8, (.int .i64 r_2)), (27, (Sl.v x0)), (28, (.int .i64 (x0.len : Int))), (29, (.int .i64 x29))]) (fun s w => V_ladinglaw12_EventsMarks_r5 Ret x29 Kl2 s w) 5 ?_ (fun hr5 => ?_)
              · intro x50 w a H hE
                try dsimp only at H hE
                unfold V_ladinglaw12_EventsMarks_r5 at H
                refine C.nil (tn ?_)
                refine C.condB hE rfl (fun hc => ?_) (fun hc => ?_)
                · replace H := H.1 hc
                  refine C.seq ?_
                  refine C.region ?_
                  refine hE.pur (X.assign hE rfl) fun a hE => ?_
                  refine C.nil (tn ?_)
                  exact C.ret (br (tr (tr (br (tr (tr (C.ret1 hE rfl rfl ⟨_, rfl, H⟩)))))))
                · replace H := H.2 hc
                  refine C.skip (bn (tn ?_))
                  refine C.region ?_
                  refine hE.pur (X.add hE rfl rfl) fun a hE => ?_
                  refine hE.pur (X.move hE rfl) fun a hE => ?_
                  rw [hK_l2] at H
                  exact C.nil (tn ⟨(IntKind.wrap .i64 (x29 + 1)), hE.weak ⟨rfl, rfl, rfl, rfl, rfl, rfl, rfl, trivial⟩, H⟩)
              · rcases Bool.eq_false_or_eq_true (x44) with hbr5 | hbr5
                · replace H := H.1 hbr5
                  replace hE := hE.bool (b := true) (t := 45) rfl (hbr5)
                  refine hE.on (by rfl) (by rfl) ?_
                  refine hE.op (X.fieldAddr hE rfl) H fun x46 w a H hE => ?_
                  refine hE.on (by rfl) (by rfl) ?_
                  refine hE.op (X.load hE rfl) H fun x47 w a H hE => ?_
                  refine hE.on (by rfl) (by rfl) ?_
                  refine hE.pur (X.move hE rfl) fun a hE => ?_
                  refine hE.on (by rfl) (by rfl) ?_
                  refine hE.pur (X.eqS hE rfl rfl) fun a hE => ?_
                  refine hE.pur (X.pickT hE rfl rfl) fun a hE => ?_
                  exact hr5 (decide (x47 = x2)) _ _ H (hE.weak ⟨rfl, rfl, rfl, rfl, rfl, rfl, rfl, rfl, trivial⟩)
                · replace H := H.2 hbr5
                  replace hE := hE.bool (b := false) (t := 45) rfl (hbr5)
                  refine hE.off (by rfl) (by rfl) (by decide) (fun a hE => ?_)
                  refine hE.off (by rfl) (by rfl) (by decide) (fun a hE => ?_)
                  refine hE.off (by rfl) (by rfl) (by decide) (fun a hE => ?_)
                  refine hE.off (by rfl) (by rfl) (by decide) (fun a hE => ?_)
                  refine hE.pur (X.pickF hE rfl rfl) fun a hE => ?_
                  exact hr5 false _ _ H (hE.weak ⟨rfl, rfl, rfl, rfl, rfl, rfl, rfl, rfl, trivial⟩)
            · rcases Bool.eq_false_or_eq_true (x38) with hbr4 | hbr4
              · replace H := H.1 hbr4
                replace hE := hE.bool (b := true) (t := 39) rfl (hbr4)
                refine hE.on (by rfl) (by rfl) ?_
                refine hE.op (X.fieldAddr hE rfl) H fun x40 w a H hE => ?_
                refine hE.on (by rfl) (by rfl) ?_
                refine hE.op (X.load hE rfl) H fun x41 w a H hE => ?_
                refine hE.on (by rfl) (by rfl) ?_
                refine hE.pur (X.move hE rfl) fun a hE => ?_
                refine hE.on (by rfl) (by rfl) ?_
                refine hE.pur (X.eqS hE rfl rfl) fun a hE => ?_
                refine hE.pur (X.pickT hE rfl rfl) fun a hE => ?_
                exact hr4 (decide (x41 = x1)) _ _ H (hE.weak ⟨rfl, rfl, rfl, rfl, rfl, rfl, rfl, rfl, rfl, trivial⟩)
              · replace H := H.2 hbr4
                replace hE := hE.bool (b := false) (t := 39) rfl (hbr4)
                refine hE.off (by rfl) (by rfl) (by decide) (fun a hE => ?_)
                refine hE.off (by rfl) (by rfl) (by decide) (fun a hE => ?_)
                refine hE.off (by rfl) (by rfl) (by decide) (fun a hE => ?_)
                refine hE.off (by rfl) (by rfl) (by decide) (fun a hE => ?_)
                refine hE.pur (X.pickF hE rfl rfl) fun a hE => ?_
                exact hr4 false _ _ H (hE.weak ⟨rfl, rfl, rfl, rfl, rfl, rfl, rfl, rfl, rfl, trivial⟩)
          · rcases Classical.em ((r_2 = 0)) with hbr3 | hbr3
            · replace H := H.1 hbr3
              replace hE := hE.bool (b := true) (t := 35) rfl (decide_eq_true hbr3)
              refine hE.on (by rfl) (by rfl) ?_
              refine hE.pur (X.move hE rfl) fun a hE => ?_
              refine hE.on (by rfl) (by rfl) ?_
              refine hE.pur (X.neS hE rfl rfl) fun a hE => ?_
              refine hE.pur (X.pickT hE rfl rfl) fun a hE => ?_
              exact hr3 (decide (x2 ≠ (ByteArray.mk #[]))) _ _ H (hE.weak ⟨rfl, rfl, rfl, rfl, rfl, rfl, rfl, rfl, rfl, trivial⟩)
            · replace H := H.2 hbr3
              replace hE := hE.bool (b := false) (t := 35) rfl (decide_eq_false hbr3)
              refine hE.off (by rfl) (by rfl) (by decide) (fun a hE => ?_)
              refine hE.off (by rfl) (by rfl) (by decide) (fun a hE => ?_)
              refine hE.pur (X.pickF hE rfl rfl) fun a hE => ?_
              exact hr3 false _ _ H (hE.weak ⟨rfl, rfl, rfl, rfl, rfl, rfl, rfl, rfl, rfl, trivial⟩)
        · replace H := H.2 hc
          refine C.exit (te (te (be (tn ?_))))
          refine C.seq ?_
          refine C.region ?_
          refine hE.pur (X.move hE rfl) fun a hE => ?_
          refine hE.pur (X.eqI hE rfl rfl) fun a hE => ?_
          refine hE.pur (X.assign hE rfl) fun a hE => ?_
          refine C.nil (tn ?_)
          exact C.ret (tr (C.ret1 hE rfl rfl ⟨_, rfl, H⟩))
      · replace H := H.2 hc
        refine C.skip (tn ?_)
        refine C.seq ?_
        refine C.region ?_
        refine hE.pur (X.move hE rfl) fun a hE => ?_
        refine hE.pur (X.move hE rfl) fun a hE => ?_
        refine hE.pur (X.move hE rfl) fun a hE => ?_
        refine hE.call (X.callF hE ent16 rfl rfl) H fun e w H => ?_
        obtain ⟨r_3, r_4, rfl, H⟩ := H
        refine ⟨_, rfl, fun a hE => ?_⟩
        refine hE.pur (X.move hE rfl) fun a hE => ?_
        refine hE.pur (X.extract hE rfl rfl) fun a hE => ?_
        refine hE.pur (X.extract hE rfl rfl) fun a hE => ?_
        refine hE.pur (X.assign hE rfl) fun a hE => ?_
        refine hE.pur (X.assign hE rfl) fun a hE => ?_
        refine C.nil (tn ?_)
        refine C.seq ?_
        refine C.region ?_
        refine hE.pur (X.move hE rfl) fun a hE => ?_
        refine hE.pur (X.eqI hE rfl rfl) fun a hE => ?_
        refine hE.pur (X.move hE rfl) fun a hE => ?_
        refine WL.join (ds := []) (N := 88) (σ := Bool) (fun s => [(67, (.bool s)), (2, (.string x2)), (7, (.int .i64 r_1)), (11, (Sl.v r_3))]) (fun s w => V_ladinglaw12_EventsMarks_r6 x2 Ret r_1 r_3 s w) 4 ?_ (fun hr6 => ?_)
        · intro x67 w a H hE
          try dsimp only at H hE
          unfold V_ladinglaw12_EventsMarks_r6 at H
          refine hE.pur (X.move hE rfl) fun a hE => ?_
          refine WL.join (ds := []) (N := 88) (σ := Bool) (fun s => [(75, (.bool s)), (2, (.string x2)), (7, (.int .i64 r_1)), (11, (Sl.v r_3))]) (fun s w => V_ladinglaw12_EventsMarks_r7 x2 Ret r_1 r_3 s w) 7 ?_ (fun hr7 => ?_)
          · intro x75 w a H hE
            try dsimp only at H hE
            unfold V_ladinglaw12_EventsMarks_r7 at H
            refine hE.pur (X.move hE rfl) fun a hE => ?_
            refine WL.join (ds := []) (N := 88) (σ := Bool) (fun s => [(83, (.bool s)), (2, (.string x2))]) (fun s w => V_ladinglaw12_EventsMarks_r8 x2 Ret s w) 7 ?_ (fun hr8 => ?_)
            · intro x83 w a H hE
              try dsimp only at H hE
              unfold V_ladinglaw12_EventsMarks_r8 at H
              refine hE.pur (X.move hE rfl) fun a hE => ?_
              refine WL.join (ds := []) (N := 88) (σ := Bool) (fun s => [(87, (.bool s))]) (fun s w => V_ladinglaw12_EventsMarks_r9 Ret s w) 3 ?_ (fun hr9 => ?_)
              · intro x87 w a H hE
                try dsimp only at H hE
                unfold V_ladinglaw12_EventsMarks_r9 at H
                refine hE.pur (X.assign hE rfl) fun a hE => ?_
                refine C.nil (tn ?_)
                exact C.ret (C.ret1 hE rfl rfl ⟨_, rfl, H⟩)
              · rcases Bool.eq_false_or_eq_true (x83) with hbr9 | hbr9
                · replace H := H.1 hbr9
                  replace hE := hE.bool (b := true) (t := 84) rfl (hbr9)
                  refine hE.on (by rfl) (by rfl) ?_
                  refine hE.pur (X.move hE rfl) fun a hE => ?_
                  refine hE.on (by rfl) (by rfl) ?_
                  refine hE.pur (X.neS hE rfl rfl) fun a hE => ?_
                  refine hE.pur (X.pickT hE rfl rfl) fun a hE => ?_
                  exact hr9 (decide (x2 ≠ (ByteArray.mk #[]))) _ _ H (hE.weak ⟨rfl, trivial⟩)
                · replace H := H.2 hbr9
                  replace hE := hE.bool (b := false) (t := 84) rfl (hbr9)
                  refine hE.off (by rfl) (by rfl) (by decide) (fun a hE => ?_)
                  refine hE.off (by rfl) (by rfl) (by decide) (fun a hE => ?_)
                  refine hE.pur (X.pickF hE rfl rfl) fun a hE => ?_
                  exact hr9 false _ _ H (hE.weak ⟨rfl, trivial⟩)
            · rcases Bool.eq_false_or_eq_true (x75) with hbr8 | hbr8
              · replace H := H.1 hbr8
                replace hE := hE.bool (b := true) (t := 76) rfl (hbr8)
                refine hE.on (by rfl) (by rfl) ?_
                refine hE.pur (X.move hE rfl) fun a hE => ?_
                refine hE.on (by rfl) (by rfl) ?_
                refine hE.op (X.indexAddr hE rfl rfl) H fun x78 w a H hE => ?_
                refine hE.on (by rfl) (by rfl) ?_
                refine hE.op (X.fieldAddr hE rfl) H fun x79 w a H hE => ?_
                refine hE.on (by rfl) (by rfl) ?_
                refine hE.op (X.load hE rfl) H fun x80 w a H hE => ?_
                refine hE.on (by rfl) (by rfl) ?_
                refine hE.pur (X.move hE rfl) fun a hE => ?_
                refine hE.on (by rfl) (by rfl) ?_
                refine hE.pur (X.eqI hE rfl rfl) fun a hE => ?_
                refine hE.pur (X.pickT hE rfl rfl) fun a hE => ?_
                exact hr8 (decide (x80 = r_1)) _ _ H (hE.weak ⟨rfl, rfl, trivial⟩)
              · replace H := H.2 hbr8
                replace hE := hE.bool (b := false) (t := 76) rfl (hbr8)
                refine hE.off (by rfl) (by rfl) (by decide) (fun a hE => ?_)
                refine hE.off (by rfl) (by rfl) (by decide) (fun a hE => ?_)
                refine hE.off (by rfl) (by rfl) (by decide) (fun a hE => ?_)
                refine hE.off (by rfl) (by rfl) (by decide) (fun a hE => ?_)
                refine hE.off (by rfl) (by rfl) (by decide) (fun a hE => ?_)
                refine hE.off (by rfl) (by rfl) (by decide) (fun a hE => ?_)
                refine hE.pur (X.pickF hE rfl rfl) fun a hE => ?_
                exact hr8 false _ _ H (hE.weak ⟨rfl, rfl, trivial⟩)
          · rcases Bool.eq_false_or_eq_true (x67) with hbr7 | hbr7
            · replace H := H.1 hbr7
              replace hE := hE.bool (b := true) (t := 68) rfl (hbr7)
              refine hE.on (by rfl) (by rfl) ?_
              refine hE.pur (X.move hE rfl) fun a hE => ?_
              refine hE.on (by rfl) (by rfl) ?_
              refine hE.op (X.indexAddr hE rfl rfl) H fun x70 w a H hE => ?_
              refine hE.on (by rfl) (by rfl) ?_
              refine hE.op (X.fieldAddr hE rfl) H fun x71 w a H hE => ?_
              refine hE.on (by rfl) (by rfl) ?_
              refine hE.op (X.load hE rfl) H fun x72 w a H hE => ?_
              refine hE.on (by rfl) (by rfl) ?_
              refine hE.pur (X.move hE rfl) fun a hE => ?_
              refine hE.on (by rfl) (by rfl) ?_
              refine hE.pur (X.eqS hE rfl rfl) fun a hE => ?_
              refine hE.pur (X.pickT hE rfl rfl) fun a hE => ?_
              exact hr7 (decide (x72 = x2)) _ _ H (hE.weak ⟨rfl, rfl, rfl, rfl, trivial⟩)
            · replace H := H.2 hbr7
              replace hE := hE.bool (b := false) (t := 68) rfl (hbr7)
              refine hE.off (by rfl) (by rfl) (by decide) (fun a hE => ?_)
              refine hE.off (by rfl) (by rfl) (by decide) (fun a hE => ?_)
              refine hE.off (by rfl) (by rfl) (by decide) (fun a hE => ?_)
              refine hE.off (by rfl) (by rfl) (by decide) (fun a hE => ?_)
              refine hE.off (by rfl) (by rfl) (by decide) (fun a hE => ?_)
              refine hE.off (by rfl) (by rfl) (by decide) (fun a hE => ?_)
              refine hE.pur (X.pickF hE rfl rfl) fun a hE => ?_
              exact hr7 false _ _ H (hE.weak ⟨rfl, rfl, rfl, rfl, trivial⟩)
        · rcases Classical.em ((r_4 = 0)) with hbr6 | hbr6
          · replace H := H.1 hbr6
            replace hE := hE.bool (b := true) (t := 63) rfl (decide_eq_true hbr6)
            refine hE.on (by rfl) (by rfl) ?_
            refine hE.pur (X.move hE rfl) fun a hE => ?_
            refine hE.on (by rfl) (by rfl) ?_
            refine hE.purR (fun w => X.lenL hE Try.underlying22 rfl) fun a hE => ?_
            refine hE.on (by rfl) (by rfl) ?_
            refine hE.pur (X.eqI hE rfl rfl) fun a hE => ?_
            refine hE.pur (X.pickT hE rfl rfl) fun a hE => ?_
            exact hr6 (decide ((r_3.len : Int) = 1)) _ _ H (hE.weak ⟨rfl, rfl, rfl, rfl, trivial⟩)
          · replace H := H.2 hbr6
            replace hE := hE.bool (b := false) (t := 63) rfl (decide_eq_false hbr6)
            refine hE.off (by rfl) (by rfl) (by decide) (fun a hE => ?_)
            refine hE.off (by rfl) (by rfl) (by decide) (fun a hE => ?_)
            refine hE.off (by rfl) (by rfl) (by decide) (fun a hE => ?_)
            refine hE.pur (X.pickF hE rfl rfl) fun a hE => ?_
            exact hr6 false _ _ H (hE.weak ⟨rfl, rfl, rfl, rfl, trivial⟩)
    · rcases Classical.em ((r_2 ≠ 0)) with hbr1 | hbr1
      · replace H := H.1 hbr1
        replace hE := hE.bool (b := true) (t := 23) rfl (decide_eq_true hbr1)
        refine hE.off (by rfl) (by rfl) (by decide) (fun a hE => ?_)
        refine hE.off (by rfl) (by rfl) (by decide) (fun a hE => ?_)
        refine hE.pur (X.pickT hE rfl rfl) fun a hE => ?_
        exact hr1 true _ _ H (hE.weak ⟨rfl, rfl, rfl, rfl, rfl, rfl, trivial⟩)
      · replace H := H.2 hbr1
        replace hE := hE.bool (b := false) (t := 23) rfl (decide_eq_false hbr1)
        refine hE.on (by rfl) (by rfl) ?_
        refine hE.pur (X.move hE rfl) fun a hE => ?_
        refine hE.on (by rfl) (by rfl) ?_
        refine hE.pur (X.eqI hE rfl rfl) fun a hE => ?_
        refine hE.pur (X.pickF hE rfl rfl) fun a hE => ?_
        exact hr1 (decide (r_1 = 0)) _ _ H (hE.weak ⟨rfl, rfl, rfl, rfl, rfl, rfl, trivial⟩)
end Go.Proofs.Ytlghlmoifjcgoaa.VG
