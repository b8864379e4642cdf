/- Verification conditions, by program (gen.py), of functions of the loaded program, each with the proof that it gives the call; no condition. -/
import Derived.Test.YtealcoghiaeiiaaVS
set_option linter.unusedVariables false
set_option linter.unusedSimpArgs false
namespace Go.Proofs.Ytealcoghiaeiiaa.VG
open Go.VB Go.Proofs

/-! ### lading ladinglaw09.MvccSwept: function 4 -/
def V_ladinglaw09_MvccSwept_r4 (Ret : Bool → World → Prop) (x57 : Int) (Kl3 : Int → World → Prop) (x85 : Bool) (w : World) : Prop :=
  nextB w (fun w => (x85 = true → (Ret false w)) ∧ (x85 = false → (Kl3 (IntKind.wrap .i64 (x57 + 1)) w)))
def V_ladinglaw09_MvccSwept_r5 (Ret : Bool → World → Prop) (x57 : Int) (Kl3 : Int → World → Prop) (x84 : Bool) (w : World) : Prop :=
  V_ladinglaw09_MvccSwept_r4 Ret x57 Kl3 x84 w
def V_ladinglaw09_MvccSwept_r6 (Ret : Bool → World → Prop) (x57 : Int) (Kl3 : Int → World → Prop) (x83 : Bool) (w : World) : Prop :=
  V_ladinglaw09_MvccSwept_r5 Ret x57 Kl3 x83 w
def V_ladinglaw09_MvccSwept_r9 (Ret : Bool → World → Prop) (x131 : Bool) (w : World) : Prop :=
  Ret x131 w
def V_ladinglaw09_MvccSwept_r8 (Ret : Bool → World → Prop) (r_8 : Bool) (r_11 : Bool) (x126 : Bool) (w : World) : Prop :=
  (x126 = true → (opE Try.prog Value.bool (do eqGuard .eql 4 (.tmp 128) (.tmp 129) (.bool r_8) (.bool r_11); binOp .eql 4 (.bool r_8) (.bool r_11)) w (fun x130 w => V_ladinglaw09_MvccSwept_r9 Ret x130 w))) ∧ (x126 = false → (V_ladinglaw09_MvccSwept_r9 Ret false w))
def V_ladinglaw09_MvccSwept_r7 (Ret : Bool → World → Prop) (r_7 : ByteArray) (r_8 : Bool) (r_10 : ByteArray) (r_11 : Bool) (x121 : Bool) (w : World) : Prop :=
  (x121 = true → (V_ladinglaw09_MvccSwept_r8 Ret r_8 r_11 (decide (r_7 = r_10)) w)) ∧ (x121 = false → (V_ladinglaw09_MvccSwept_r8 Ret r_8 r_11 false w))
def V_ladinglaw09_MvccSwept_l3b (x1 : Int) (x2 : Int) (x3 : ByteArray) (Ret : Bool → World → Prop) (x4 : Option Addr) (x9 : Option Addr) (x55 : Sl) (x57 : Int) (w : World) (Kl3 : Int → World → Prop) : Prop :=
  ((x57 < (x55.len : Int)) → (opE Try.prog Value.pointer (Instr.indexAt 22 (Sl.v x55) (.int .i64 x57)) w (fun x60 w => opE Try.prog T_api_Version.v (Instr.loadAt 37 (.pointer x60)) w (fun x61 w => opE Try.prog Value.pointer (Instr.alloc 37 true (.tuple #[])) w (fun x12 w => opU Try.prog (Instr.storeAt 37 (.pointer x12) (T_api_Version.v x61)) w (fun w => opB Try.prog Value.pointer (Instr.fieldAt 37 (.pointer x12) 1) w (fun x62 => opB Try.prog (Value.int .u64) (Instr.loadAt 23 (.pointer x62)) w (fun x63 => ((x63 ≤ x1) → (opB Try.prog Value.pointer (Instr.fieldAt 37 (.pointer x12) 3) w (fun x67 => opB Try.prog Value.bool (Instr.loadAt 4 (.pointer x67)) w (fun x68 => (x68 = true → (V_ladinglaw09_MvccSwept_r5 Ret x57 Kl3 true w)) ∧ (x68 = false → (((0 < x57) → (opB Try.prog Value.pointer (Instr.fieldAt 25 (.pointer x9) 0) w (fun x73 => opB Try.prog Sl.v (Instr.loadAt 22 (.pointer x73)) w (fun x74 => opB Try.prog Value.pointer (Instr.indexAt 22 (Sl.v x74) (.int .i64 (IntKind.wrap .i64 (x57 - 1)))) w (fun x77 => opB Try.prog Value.pointer (Instr.fieldAt 37 (.pointer x77) 0) w (fun x78 => opB Try.prog Value.string (Instr.loadAt 9 (.pointer x78)) w (fun x79 => opB Try.prog Value.pointer (Instr.fieldAt 37 (.pointer x12) 0) w (fun x80 => opB Try.prog Value.string (Instr.loadAt 9 (.pointer x80)) w (fun x81 => V_ladinglaw09_MvccSwept_r6 Ret x57 Kl3 (decide (x79 = x81)) w))))))))) ∧ (¬ (0 < x57) → (V_ladinglaw09_MvccSwept_r6 Ret x57 Kl3 false w)))))))) ∧ (¬ (x63 ≤ x1) → (V_ladinglaw09_MvccSwept_r4 Ret x57 Kl3 false w)))))))))) ∧ (¬ (x57 < (x55.len : Int)) → (((x2 < x1) → (opE Try.prog T_api_Versions.v (Instr.loadAt 25 (.pointer x9)) w (fun x91 w => Cl Try.prog 18 [(T_api_Versions.v x91), (.string x3), (.int .u64 x2)].toArray w (fun e w => ∃ (r_4 : ByteArray) (r_5 : Bool) (r_6 : Int), e = .returned (.tuple [(.string r_4), (.bool r_5), (.int .i64 r_6)].toArray) ∧ (Ret (decide (r_6 = 9)) w))))) ∧ (¬ (x2 < x1) → (opE Try.prog T_api_Versions.v (Instr.loadAt 25 (.pointer x4)) w (fun x101 w => Cl Try.prog 18 [(T_api_Versions.v x101), (.string x3), (.int .u64 x2)].toArray w (fun e w => ∃ (r_7 : ByteArray) (r_8 : Bool) (r_9 : Int), e = .returned (.tuple [(.string r_7), (.bool r_8), (.int .i64 r_9)].toArray) ∧ (opE Try.prog T_api_Versions.v (Instr.loadAt 25 (.pointer x9)) w (fun x109 w => Cl Try.prog 18 [(T_api_Versions.v x109), (.string x3), (.int .u64 x2)].toArray w (fun e w => ∃ (r_10 : ByteArray) (r_11 : Bool) (r_12 : Int), e = .returned (.tuple [(.string r_10), (.bool r_11), (.int .i64 r_12)].toArray) ∧ (((r_9 = 0) → (V_ladinglaw09_MvccSwept_r7 Ret r_7 r_8 r_10 r_11 (decide (r_12 = 0)) w)) ∧ (¬ (r_9 = 0) → (V_ladinglaw09_MvccSwept_r7 Ret r_7 r_8 r_10 r_11 false w))))))))))))
def V_ladinglaw09_MvccSwept_r2 (x1 : Int) (x2 : Int) (x3 : ByteArray) (Ret : Bool → World → Prop) (x4 : Option Addr) (x9 : Option Addr) (x53 : Bool) (w : World) : Prop :=
  (x53 = true → (Ret false w)) ∧ (x53 = false → (opE Try.prog Value.pointer (Instr.fieldAt 25 (.pointer x9) 0) w (fun x54 w => opE Try.prog Sl.v (Instr.loadAt 22 (.pointer x54)) w (fun x55 w => ∃ (I : Int → World → Prop) (μ : Int → World → Nat), I 0 w ∧ ∀ (x57 : Int) w, I x57 w → V_ladinglaw09_MvccSwept_l3b x1 x2 x3 Ret x4 x9 x55 x57 w (fun x57' w' => I x57' w' ∧ μ x57' w' < μ x57 w)))))
def V_ladinglaw09_MvccSwept_r1 (x1 : Int) (x2 : Int) (x3 : ByteArray) (Ret : Bool → World → Prop) (x4 : Option Addr) (x9 : Option Addr) (x44 : Bool) (w : World) : Prop :=
  (x44 = true → (V_ladinglaw09_MvccSwept_r2 x1 x2 x3 Ret x4 x9 true w)) ∧ (x44 = false → (opE Try.prog Value.pointer (Instr.fieldAt 25 (.pointer x9) 0) w (fun x46 w => opE Try.prog Sl.v (Instr.loadAt 22 (.pointer x46)) w (fun x47 w => opE Try.prog Value.pointer (Instr.fieldAt 25 (.pointer x4) 0) w (fun x49 w => opE Try.prog Sl.v (Instr.loadAt 22 (.pointer x49)) w (fun x50 w => V_ladinglaw09_MvccSwept_r2 x1 x2 x3 Ret x4 x9 (decide ((x50.len : Int) < (x47.len : Int))) w))))))
def V_ladinglaw09_MvccSwept (x0 : T_api_Versions) (x1 : Int) (x2 : Int) (x3 : ByteArray) (w : World) (Ret : Bool → World → Prop) : Prop :=
  opE Try.prog Value.pointer (Instr.box 25 (T_api_Versions.v x0)) w (fun x4 w => Cl Try.prog 15 [].toArray w (fun e w => ∃ (r : Bool), e = .returned (.bool r) ∧ (((!r) = true → (Ret false w)) ∧ ((!r) = false → (opE Try.prog T_api_Versions.v (Instr.loadAt 25 (.pointer x4)) w (fun x25 w => Cl Try.prog 13 [(T_api_Versions.v x25), (.int .u64 x1)].toArray w (fun e w => ∃ (r_1 : T_api_Versions) (r_2 : Int), e = .returned (.tuple [(T_api_Versions.v r_1), (.int .i64 r_2)].toArray) ∧ (opE Try.prog Value.pointer (Instr.alloc 25 true (.tuple #[])) w (fun x9 w => opU Try.prog (Instr.storeAt 25 (.pointer x9) (T_api_Versions.v r_1)) w (fun w => ((r_2 ≠ 0) → (opE Try.prog Value.pointer (Instr.fieldAt 25 (.pointer x9) 0) w (fun x32 w => opE Try.prog Sl.v (Instr.loadAt 22 (.pointer x32)) w (fun x33 w => Ret (decide ((x33.len : Int) = 0)) w)))) ∧ (¬ (r_2 ≠ 0) → (opE Try.prog T_api_Versions.v (Instr.loadAt 25 (.pointer x9)) w (fun x36 w => Cl Try.prog 17 [(T_api_Versions.v x36)].toArray w (fun e w => ∃ (r_3 : Int), e = .returned (.int .i64 r_3) ∧ (((r_3 ≠ 0) → (V_ladinglaw09_MvccSwept_r1 x1 x2 x3 Ret x4 x9 true w)) ∧ (¬ (r_3 ≠ 0) → (opE Try.prog Value.pointer (Instr.fieldAt 25 (.pointer x9) 1) w (fun x40 w => opE Try.prog (Value.int .u64) (Instr.loadAt 23 (.pointer x40)) w (fun x41 w => V_ladinglaw09_MvccSwept_r1 x1 x2 x3 Ret x4 x9 (decide (x41 ≠ x1)) w)))))))))))))))))))
set_option maxRecDepth 100000 in
theorem L1_ladinglaw09_MvccSwept (x0 : T_api_Versions) (x1 : Int) (x2 : Int) (x3 : ByteArray) (w : World) (Ret : Bool → World → Prop) (H : V_ladinglaw09_MvccSwept x0 x1 x2 x3 w Ret) : Cl Try.prog 4 [(T_api_Versions.v x0), (.int .u64 x1), (.int .u64 x2), (.string x3)].toArray w (fun e w' => ∃ (r0 : Bool), e = .returned (.bool r0) ∧ Ret r0 w') := by
  unfold V_ladinglaw09_MvccSwept at H
  refine C.enter 132 (zipE 0 [(T_api_Versions.v x0), (.int .u64 x1), (.int .u64 x2), (.string x3)]) Try.func4 rfl rfl (by rfl) rfl ?_
  intro a hE
  replace hE : Sat [] 132 [(0, (T_api_Versions.v x0)), (1, (.int .u64 x1)), (2, (.int .u64 x2)), (3, (.string x3))] a := hE
  refine C.seq ?_
  refine C.region ?_
  refine hE.op (X.box hE rfl) H fun x4 w a H hE => ?_
  refine hE.pur (X.assign hE rfl) fun a hE => ?_
  refine C.nil (tn ?_)
  refine C.seq ?_
  refine C.seq ?_
  refine C.region ?_
  refine hE.call (X.callF hE ent15 rfl rfl) H fun e w H => ?_
  obtain ⟨r, rfl, H⟩ := H
  refine ⟨_, rfl, fun a hE => ?_⟩
  refine hE.pur (X.not hE rfl) fun a hE => ?_
  refine C.nil (tn ?_)
  refine C.condB hE rfl (fun hc => ?_) (fun hc => ?_)
  · replace H := H.1 hc
    refine C.seq ?_
    refine C.region ?_
    refine hE.pur (X.assign hE rfl) fun a hE => ?_
    refine C.nil (tn ?_)
    exact C.ret (tr (C.ret1 hE rfl rfl ⟨_, rfl, H⟩))
  · replace H := H.2 hc
    refine C.skip (tn ?_)
    refine C.seq ?_
    refine C.region ?_
    refine hE.op (X.load hE rfl) H fun x25 w a H hE => ?_
    refine hE.pur (X.move hE rfl) fun a hE => ?_
    refine hE.call (X.callF hE ent13 rfl rfl) H fun e w H => ?_
    obtain ⟨r_1, r_2, rfl, H⟩ := H
    refine ⟨_, rfl, fun a hE => ?_⟩
    refine hE.pur (X.move hE rfl) fun a hE => ?_
    refine hE.pur (X.extract hE rfl rfl) fun a hE => ?_
    refine hE.pur (X.extract hE rfl rfl) fun a hE => ?_
    refine hE.op (X.alloc) H fun x9 w a H hE => ?_
    refine hE.opu (X.store hE rfl rfl) H fun w a H hE => ?_
    refine hE.pur (X.assign hE rfl) fun a hE => ?_
    refine C.nil (tn ?_)
    refine C.seq ?_
    refine C.seq ?_
    refine C.region ?_
    refine hE.pur (X.move hE rfl) fun a hE => ?_
    refine hE.pur (X.neI hE rfl rfl) fun a hE => ?_
    refine C.nil (tn ?_)
    refine C.condP hE rfl (fun hc => ?_) (fun hc => ?_)
    · replace H := H.1 hc
      refine C.seq ?_
      refine C.region ?_
      refine hE.op (X.fieldAddr hE rfl) H fun x32 w a H hE => ?_
      refine hE.op (X.load hE rfl) H fun x33 w a H hE => ?_
      refine hE.purR (fun w => X.lenL hE Try.underlying22 rfl) fun a hE => ?_
      refine hE.pur (X.eqI hE rfl rfl) fun a hE => ?_
      refine hE.pur (X.assign hE rfl) fun a hE => ?_
      refine C.nil (tn ?_)
      exact C.ret (tr (C.ret1 hE rfl rfl ⟨_, rfl, H⟩))
    · replace H := H.2 hc
      refine C.skip (tn ?_)
      refine C.seq ?_
      refine C.seq ?_
      refine C.region ?_
      refine hE.op (X.load hE rfl) H fun x36 w a H hE => ?_
      refine hE.call (X.callF hE ent17 rfl rfl) H fun e w H => ?_
      obtain ⟨r_3, rfl, H⟩ := H
      refine ⟨_, rfl, fun a hE => ?_⟩
      refine hE.pur (X.neI hE rfl rfl) fun a hE => ?_
      refine hE.pur (X.move hE rfl) fun a hE => ?_
      refine WL.join (ds := []) (N := 132) (σ := Bool) (fun s => [(44, (.bool s)), (1, (.int .u64 x1)), (2, (.int .u64 x2)), (3, (.string x3)), (4, (.pointer x4)), (9, (.pointer x9))]) (fun s w => V_ladinglaw09_MvccSwept_r1 x1 x2 x3 Ret x4 x9 s w) 5 ?_ (fun hr1 => ?_)
      · intro x44 w a H hE
        try dsimp only at H hE
        unfold V_ladinglaw09_MvccSwept_r1 at H
        refine hE.pur (X.move hE rfl) fun a hE => ?_
        refine WL.join (ds := []) (N := 132) (σ := Bool) (fun s => [(53, (.bool s)), (1, (.int .u64 x1)), (2, (.int .u64 x2)), (3, (.string x3)), (4, (.pointer x4)), (9, (.pointer x9))]) (fun s w => V_ladinglaw09_MvccSwept_r2 x1 x2 x3 Ret x4 x9 s w) 8 ?_ (fun hr2 => ?_)
        · intro x53 w a H hE
          try dsimp only at H hE
          unfold V_ladinglaw09_MvccSwept_r2 at H
          refine C.nil (tn ?_)
          refine C.condB hE rfl (fun hc => ?_) (fun hc => ?_)
          · replace H := H.1 hc
            refine C.seq ?_
            refine C.region ?_
            refine hE.pur (X.assign hE rfl) fun a hE => ?_
            refine C.nil (tn ?_)
            exact C.ret (tr (C.ret1 hE rfl rfl ⟨_, rfl, H⟩))
          · replace H := H.2 hc
            refine C.skip (tn ?_)
            refine C.seq ?_
            refine C.seq ?_
            refine C.region ?_
            refine hE.op (X.fieldAddr hE rfl) H fun x54 w a H hE => ?_
            refine hE.op (X.load hE rfl) H fun x55 w a H hE => ?_
            refine hE.purR (fun w => X.lenL hE Try.underlying22 rfl) fun a hE => ?_
            refine hE.pur (X.move hE rfl) fun a hE => ?_
            refine C.nil (tn ?_)
            refine C.block ?_
            obtain ⟨I_l3, μ_l3, h0, hb⟩ := H
            refine C.loop (ds := []) (N := 132) (σ := Int) (fun s => [(57, (.int .i64 s)), (1, (.int .u64 x1)), (2, (.int .u64 x2)), (3, (.string x3)), (4, (.pointer x4)), (9, (.pointer x9)), (55, (Sl.v x55)), (56, (.int .i64 (x55.len : Int)))]) (fun s w => I_l3 s w) (fun s w => μ_l3 s w) 0 h0 (hE.weak ⟨rfl, rfl, rfl, rfl, rfl, rfl, rfl, rfl, trivial⟩) ?_
            intro x57 w a hI hE
            try dsimp only at hI hE
            obtain ⟨Kl3, hK_l3⟩ : ∃ K : Int → World → Prop, K = (fun x57' w' => I_l3 x57' w' ∧ μ_l3 x57' w' < μ_l3 x57 w) := ⟨_, rfl⟩
            have H : V_ladinglaw09_MvccSwept_l3b x1 x2 x3 Ret x4 x9 x55 x57 w Kl3 := by rw [hK_l3]; exact hb x57 w hI
            clear hb h0 hI
            unfold V_ladinglaw09_MvccSwept_l3b at H
            refine C.seq ?_
            refine C.region ?_
            refine hE.pur (X.ltI hE rfl rfl) fun a hE => ?_
            refine C.nil (tn ?_)
            refine C.seq ?_
            refine C.condP hE rfl (fun hc => ?_) (fun hc => ?_)
            · replace H := H.1 hc
              refine C.skip (tn ?_)
              refine C.seq ?_
              refine C.block ?_
              refine C.seq ?_
              refine C.region ?_
              refine hE.pur (X.move hE rfl) fun a hE => ?_
              refine hE.op (X.indexAddr hE rfl rfl) H fun x60 w a H hE => ?_
              refine hE.op (X.load hE rfl) H fun x61 w a H hE => ?_
              refine hE.op (X.alloc) H fun x12 w a H hE => ?_
              refine hE.pur (X.assign hE rfl) fun a hE => ?_
              refine hE.opu (X.store hE rfl rfl) H fun w a H hE => ?_
              refine C.nil (tn ?_)
              refine C.seq ?_
              refine C.draw (by kernel_rfl) (by kernel_rfl) ?_
              refine hE.qop (X.fieldAddr hE rfl) H fun x62 a H hE => ?_
              refine hE.qop (X.load hE rfl) H fun x63 a H hE => ?_
              refine hE.qpur (X.move hE rfl) fun a hE => ?_
              refine hE.qpur (X.leI hE rfl rfl) fun a hE => ?_
              refine hE.qpur (X.move hE rfl) fun a hE => ?_
              refine WQ.join (ds := []) (N := 132) (σ := Bool) (fun s => [(85, (.bool s)), (1, (.int .u64 x1)), (2, (.int .u64 x2)), (3, (.string x3)), (4, (.pointer x4)), (9, (.pointer x9)), (55, (Sl.v x55)), (56, (.int .i64 (x55.len : Int))), (57, (.int .i64 x57))]) (fun s => V_ladinglaw09_MvccSwept_r4 Ret x57 Kl3 s w) 19 ?_ (fun hr4 => ?_)
              · intro x85 a H hE
                try dsimp only at H hE
                unfold V_ladinglaw09_MvccSwept_r4 at H
                refine C.qnil (fun w hB => ?_)
                replace H := H w hB
                refine (tn ?_)
                refine C.condB hE rfl (fun hc => ?_) (fun hc => ?_)
                · replace H := H.1 hc
                  refine C.seq ?_
                  refine C.region ?_
                  refine hE.pur (X.assign hE rfl) fun a hE => ?_
                  refine C.nil (tn ?_)
                  exact C.ret (br (tr (tr (br (tr (C.ret1 hE rfl rfl ⟨_, rfl, H⟩))))))
                · replace H := H.2 hc
                  refine C.skip (bn (tn ?_))
                  refine C.region ?_
                  refine hE.pur (X.add hE rfl rfl) fun a hE => ?_
                  refine hE.pur (X.move hE rfl) fun a hE => ?_
                  rw [hK_l3] at H
                  exact C.nil (tn ⟨(IntKind.wrap .i64 (x57 + 1)), hE.weak ⟨rfl, rfl, rfl, rfl, rfl, rfl, rfl, rfl, trivial⟩, H⟩)
              · rcases Classical.em ((x63 ≤ x1)) with hbr4 | hbr4
                · replace H := H.1 hbr4
                  replace hE := hE.bool (b := true) (t := 66) rfl (decide_eq_true hbr4)
                  refine hE.qon (by rfl) (by rfl) ?_
                  refine hE.qop (X.fieldAddr hE rfl) H fun x67 a H hE => ?_
                  refine hE.qon (by rfl) (by rfl) ?_
                  refine hE.qop (X.load hE rfl) H fun x68 a H hE => ?_
                  refine hE.qon (by rfl) (by rfl) ?_
                  refine hE.qpur (X.move hE rfl) fun a hE => ?_
                  refine WQ.join (ds := []) (N := 132) (σ := Bool) (fun s => [(84, (.bool s)), (1, (.int .u64 x1)), (2, (.int .u64 x2)), (3, (.string x3)), (4, (.pointer x4)), (9, (.pointer x9)), (55, (Sl.v x55)), (56, (.int .i64 (x55.len : Int))), (57, (.int .i64 x57)), (66, (.bool true))]) (fun s => V_ladinglaw09_MvccSwept_r5 Ret x57 Kl3 s w) 15 ?_ (fun hr5 => ?_)
                  · intro x84 a H hE
                    try dsimp only at H hE
                    unfold V_ladinglaw09_MvccSwept_r5 at H
                    refine hE.qpur (X.pickT hE rfl rfl) fun a hE => ?_
                    exact hr4 x84 _ H (hE.weak ⟨rfl, rfl, rfl, rfl, rfl, rfl, rfl, rfl, rfl, trivial⟩)
                  · rcases Bool.eq_false_or_eq_true (x68) with hbr5 | hbr5
                    · replace H := H.1 hbr5
                      replace hE := hE.bool (b := true) (t := 69) rfl (hbr5)
                      refine hE.qoff (by rfl) (by rfl) (by decide) (fun a hE => ?_)
                      refine hE.qoff (by rfl) (by rfl) (by decide) (fun a hE => ?_)
                      refine hE.qoff (by rfl) (by rfl) (by decide) (fun a hE => ?_)
                      refine hE.qoffU (by rfl) (by rfl) (fun a hE => ?_)
                      refine hE.qoffU (by rfl) (by rfl) (fun a hE => ?_)
                      refine hE.qoffU (by rfl) (by rfl) (fun a hE => ?_)
                      refine hE.qoffU (by rfl) (by rfl) (fun a hE => ?_)
                      refine hE.qoffU (by rfl) (by rfl) (fun a hE => ?_)
                      refine hE.qoffU (by rfl) (by rfl) (fun a hE => ?_)
                      refine hE.qoffU (by rfl) (by rfl) (fun a hE => ?_)
                      refine hE.qoffU (by rfl) (by rfl) (fun a hE => ?_)
                      refine hE.qoffU (by rfl) (by rfl) (fun a hE => ?_)
                      refine hE.qoffU (by rfl) (by rfl) (fun a hE => ?_)
                      refine hE.qoff (by rfl) (by rfl) (by decide) (fun a hE => ?_)
                      refine hE.qon (by rfl) (by rfl) ?_
                      refine hE.qpur (X.pickT hE rfl rfl) fun a hE => ?_
                      exact hr5 true _ H (hE.weak ⟨rfl, rfl, rfl, rfl, rfl, rfl, rfl, rfl, rfl, rfl, trivial⟩)
                    · replace H := H.2 hbr5
                      replace hE := hE.bool (b := false) (t := 69) rfl (hbr5)
                      refine hE.qon (by rfl) (by rfl) ?_
                      refine hE.qpur (X.move hE rfl) fun a hE => ?_
                      refine hE.qon (by rfl) (by rfl) ?_
                      refine hE.qpur (X.gtI hE rfl rfl) fun a hE => ?_
                      refine hE.qon (by rfl) (by rfl) ?_
                      refine hE.qpur (X.move hE rfl) fun a hE => ?_
                      refine WQ.join (ds := []) (N := 132) (σ := Bool) (fun s => [(83, (.bool s)), (1, (.int .u64 x1)), (2, (.int .u64 x2)), (3, (.string x3)), (4, (.pointer x4)), (9, (.pointer x9)), (55, (Sl.v x55)), (56, (.int .i64 (x55.len : Int))), (57, (.int .i64 x57)), (66, (.bool true)), (69, (.bool false))]) (fun s => V_ladinglaw09_MvccSwept_r6 Ret x57 Kl3 s w) 11 ?_ (fun hr6 => ?_)
                      · intro x83 a H hE
                        try dsimp only at H hE
                        unfold V_ladinglaw09_MvccSwept_r6 at H
                        refine hE.qon (by rfl) (by rfl) ?_
                        refine hE.qpur (X.pickF hE rfl rfl) fun a hE => ?_
                        exact hr5 x83 _ H (hE.weak ⟨rfl, rfl, rfl, rfl, rfl, rfl, rfl, rfl, rfl, rfl, trivial⟩)
                      · rcases Classical.em ((0 < x57)) with hbr6 | hbr6
                        · replace H := H.1 hbr6
                          replace hE := hE.bool (b := true) (t := 72) rfl (decide_eq_true hbr6)
                          refine hE.qon (by rfl) (by rfl) ?_
                          refine hE.qop (X.fieldAddr hE rfl) H fun x73 a H hE => ?_
                          refine hE.qon (by rfl) (by rfl) ?_
                          refine hE.qop (X.load hE rfl) H fun x74 a H hE => ?_
                          refine hE.qon (by rfl) (by rfl) ?_
                          refine hE.qpur (X.move hE rfl) fun a hE => ?_
                          refine hE.qon (by rfl) (by rfl) ?_
                          refine hE.qpur (X.sub hE rfl rfl) fun a hE => ?_
                          refine hE.qon (by rfl) (by rfl) ?_
                          refine hE.qop (X.indexAddr hE rfl rfl) H fun x77 a H hE => ?_
                          refine hE.qon (by rfl) (by rfl) ?_
                          refine hE.qop (X.fieldAddr hE rfl) H fun x78 a H hE => ?_
                          refine hE.qon (by rfl) (by rfl) ?_
                          refine hE.qop (X.load hE rfl) H fun x79 a H hE => ?_
                          refine hE.qon (by rfl) (by rfl) ?_
                          refine hE.qop (X.fieldAddr hE rfl) H fun x80 a H hE => ?_
                          refine hE.qon (by rfl) (by rfl) ?_
                          refine hE.qop (X.load hE rfl) H fun x81 a H hE => ?_
                          refine hE.qon (by rfl) (by rfl) ?_
                          refine hE.qpur (X.eqS hE rfl rfl) fun a hE => ?_
                          refine hE.qon (by rfl) (by rfl) ?_
                          refine hE.qpur (X.pickT hE rfl rfl) fun a hE => ?_
                          exact hr6 (decide (x79 = x81)) _ H (hE.weak ⟨rfl, rfl, rfl, rfl, rfl, rfl, rfl, rfl, rfl, rfl, rfl, trivial⟩)
                        · replace H := H.2 hbr6
                          replace hE := hE.bool (b := false) (t := 72) rfl (decide_eq_false hbr6)
                          refine hE.qoff (by rfl) (by rfl) (by decide) (fun a hE => ?_)
                          refine hE.qoff (by rfl) (by rfl) (by decide) (fun a hE => ?_)
                          refine hE.qoff (by rfl) (by rfl) (by decide) (fun a hE => ?_)
                          refine hE.qoff (by rfl) (by rfl) (by decide) (fun a hE => ?_)
                          refine hE.qoff (by rfl) (by rfl) (by decide) (fun a hE => ?_)
                          refine hE.qoff (by rfl) (by rfl) (by decide) (fun a hE => ?_)
                          refine hE.qoff (by rfl) (by rfl) (by decide) (fun a hE => ?_)
                          refine hE.qoff (by rfl) (by rfl) (by decide) (fun a hE => ?_)
                          refine hE.qoff (by rfl) (by rfl) (by decide) (fun a hE => ?_)
                          refine hE.qoff (by rfl) (by rfl) (by decide) (fun a hE => ?_)
                          refine hE.qon (by rfl) (by rfl) ?_
                          refine hE.qpur (X.pickF hE rfl rfl) fun a hE => ?_
                          exact hr6 false _ H (hE.weak ⟨rfl, rfl, rfl, rfl, rfl, rfl, rfl, rfl, rfl, rfl, rfl, trivial⟩)
                · replace H := H.2 hbr4
                  replace hE := hE.bool (b := false) (t := 66) rfl (decide_eq_false hbr4)
                  refine hE.qoff (by rfl) (by rfl) (by decide) (fun a hE => ?_)
                  refine hE.qoff (by rfl) (by rfl) (by decide) (fun a hE => ?_)
                  refine hE.qoff (by rfl) (by rfl) (by decide) (fun a hE => ?_)
                  refine hE.qoffU (by rfl) (by rfl) (fun a hE => ?_)
                  refine hE.qoffU (by rfl) (by rfl) (fun a hE => ?_)
                  refine hE.qoffU (by rfl) (by rfl) (fun a hE => ?_)
                  refine hE.qoffU (by rfl) (by rfl) (fun a hE => ?_)
                  refine hE.qoffU (by rfl) (by rfl) (fun a hE => ?_)
                  refine hE.qoffU (by rfl) (by rfl) (fun a hE => ?_)
                  refine hE.qoffU (by rfl) (by rfl) (fun a hE => ?_)
                  refine hE.qoffU (by rfl) (by rfl) (fun a hE => ?_)
                  refine hE.qoffU (by rfl) (by rfl) (fun a hE => ?_)
                  refine hE.qoffU (by rfl) (by rfl) (fun a hE => ?_)
                  refine hE.qoffU (by rfl) (by rfl) (fun a hE => ?_)
                  refine hE.qoffU (by rfl) (by rfl) (fun a hE => ?_)
                  refine hE.qoffU (by rfl) (by rfl) (fun a hE => ?_)
                  refine hE.qoffU (by rfl) (by rfl) (fun a hE => ?_)
                  refine hE.qoff (by rfl) (by rfl) (by decide) (fun a hE => ?_)
                  refine hE.qpur (X.pickF hE rfl rfl) fun a hE => ?_
                  exact hr4 false _ H (hE.weak ⟨rfl, rfl, rfl, rfl, rfl, rfl, rfl, rfl, rfl, trivial⟩)
            · replace H := H.2 hc
              refine C.exit (te (te (be (tn ?_))))
              refine C.seq ?_
              refine C.seq ?_
              refine C.region ?_
              refine hE.pur (X.move hE rfl) fun a hE => ?_
              refine hE.pur (X.move hE rfl) fun a hE => ?_
              refine hE.pur (X.ltI hE rfl rfl) fun a hE => ?_
              refine C.nil (tn ?_)
              refine C.condP hE rfl (fun hc => ?_) (fun hc => ?_)
              · replace H := H.1 hc
                refine C.seq ?_
                refine C.region ?_
                refine hE.op (X.load hE rfl) H fun x91 w a H hE => ?_
                refine hE.pur (X.move hE rfl) fun a hE => ?_
                refine hE.pur (X.move hE rfl) fun a hE => ?_
                refine hE.call (X.callF hE ent18 rfl rfl) H fun e w H => ?_
                obtain ⟨r_4, r_5, r_6, rfl, H⟩ := H
                refine ⟨_, rfl, fun a hE => ?_⟩
                refine hE.pur (X.move hE rfl) fun a hE => ?_
                refine hE.pur (X.extract hE rfl rfl) fun a hE => ?_
                refine hE.pur (X.extract hE rfl rfl) fun a hE => ?_
                refine hE.pur (X.extract hE rfl rfl) fun a hE => ?_
                refine hE.pur (X.assign hE rfl) fun a hE => ?_
                refine hE.pur (X.assign hE rfl) fun a hE => ?_
                refine hE.pur (X.assign hE rfl) fun a hE => ?_
                refine C.nil (tn ?_)
                refine C.seq ?_
                refine C.region ?_
                refine hE.pur (X.move hE rfl) fun a hE => ?_
                refine hE.pur (X.eqI hE rfl rfl) fun a hE => ?_
                refine hE.pur (X.assign hE rfl) fun a hE => ?_
                refine C.nil (tn ?_)
                exact C.ret (tr (C.ret1 hE rfl rfl ⟨_, rfl, H⟩))
              · replace H := H.2 hc
                refine C.skip (tn ?_)
                refine C.seq ?_
                refine C.region ?_
                refine hE.op (X.load hE rfl) H fun x101 w a H hE => ?_
                refine hE.pur (X.move hE rfl) fun a hE => ?_
                refine hE.pur (X.move hE rfl) fun a hE => ?_
                refine hE.call (X.callF hE ent18 rfl rfl) H fun e w H => ?_
                obtain ⟨r_7, r_8, r_9, rfl, H⟩ := H
                refine ⟨_, rfl, fun a hE => ?_⟩
                refine hE.pur (X.move hE rfl) fun a hE => ?_
                refine hE.pur (X.extract hE rfl rfl) fun a hE => ?_
                refine hE.pur (X.extract hE rfl rfl) fun a hE => ?_
                refine hE.pur (X.extract hE rfl rfl) fun a hE => ?_
                refine hE.pur (X.assign hE rfl) fun a hE => ?_
                refine hE.pur (X.assign hE rfl) fun a hE => ?_
                refine hE.pur (X.assign hE rfl) fun a hE => ?_
                refine C.nil (tn ?_)
                refine C.seq ?_
                refine C.region ?_
                refine hE.op (X.load hE rfl) H fun x109 w a H hE => ?_
                refine hE.pur (X.move hE rfl) fun a hE => ?_
                refine hE.pur (X.move hE rfl) fun a hE => ?_
                refine hE.call (X.callF hE ent18 rfl rfl) H fun e w H => ?_
                obtain ⟨r_10, r_11, r_12, rfl, H⟩ := H
                refine ⟨_, rfl, fun a hE => ?_⟩
                refine hE.pur (X.move hE rfl) fun a hE => ?_
                refine hE.pur (X.extract hE rfl rfl) fun a hE => ?_
                refine hE.pur (X.extract hE rfl rfl) fun a hE => ?_
                refine hE.pur (X.extract hE rfl rfl) fun a hE => ?_
                refine hE.pur (X.assign hE rfl) fun a hE => ?_
                refine hE.pur (X.assign hE rfl) fun a hE => ?_
                refine hE.pur (X.assign hE rfl) fun a hE => ?_
                refine C.nil (tn ?_)
                refine C.seq ?_
                refine C.region ?_
                refine hE.pur (X.move hE rfl) fun a hE => ?_
                refine hE.pur (X.eqI hE rfl rfl) fun a hE => ?_
                refine hE.pur (X.move hE rfl) fun a hE => ?_
                refine WL.join (ds := []) (N := 132) (σ := Bool) (fun s => [(121, (.bool s)), (16, (.string r_7)), (17, (.bool r_8)), (19, (.string r_10)), (20, (.bool r_11))]) (fun s w => V_ladinglaw09_MvccSwept_r7 Ret r_7 r_8 r_10 r_11 s w) 3 ?_ (fun hr7 => ?_)
                · intro x121 w a H hE
                  try dsimp only at H hE
                  unfold V_ladinglaw09_MvccSwept_r7 at H
                  refine hE.pur (X.move hE rfl) fun a hE => ?_
                  refine WL.join (ds := []) (N := 132) (σ := Bool) (fun s => [(126, (.bool s)), (17, (.bool r_8)), (20, (.bool r_11))]) (fun s w => V_ladinglaw09_MvccSwept_r8 Ret r_8 r_11 s w) 4 ?_ (fun hr8 => ?_)
                  · intro x126 w a H hE
                    try dsimp only at H hE
                    unfold V_ladinglaw09_MvccSwept_r8 at H
                    refine hE.pur (X.move hE rfl) fun a hE => ?_
                    refine WL.join (ds := []) (N := 132) (σ := Bool) (fun s => [(131, (.bool s))]) (fun s w => V_ladinglaw09_MvccSwept_r9 Ret s w) 4 ?_ (fun hr9 => ?_)
                    · intro x131 w a H hE
                      try dsimp only at H hE
                      unfold V_ladinglaw09_MvccSwept_r9 at H
                      refine hE.pur (X.assign hE rfl) fun a hE => ?_
                      refine C.nil (tn ?_)
                      exact C.ret (C.ret1 hE rfl rfl ⟨_, rfl, H⟩)
                    · rcases Bool.eq_false_or_eq_true (x126) with hbr9 | hbr9
                      · replace H := H.1 hbr9
                        replace hE := hE.bool (b := true) (t := 127) rfl (hbr9)
                        refine hE.on (by rfl) (by rfl) ?_
                        refine hE.pur (X.move hE rfl) fun a hE => ?_
                        refine hE.on (by rfl) (by rfl) ?_
                        refine hE.pur (X.move hE rfl) fun a hE => ?_
                        refine hE.on (by rfl) (by rfl) ?_
                        refine hE.op (X.bin hE rfl rfl) H fun x130 w a H hE => ?_
                        refine hE.pur (X.pickT hE rfl rfl) fun a hE => ?_
                        exact hr9 x130 _ _ H (hE.weak ⟨rfl, trivial⟩)
                      · replace H := H.2 hbr9
                        replace hE := hE.bool (b := false) (t := 127) rfl (hbr9)
                        refine hE.off (by rfl) (by rfl) (by decide) (fun a hE => ?_)
                        refine hE.off (by rfl) (by rfl) (by decide) (fun a hE => ?_)
                        refine hE.off (by rfl) (by rfl) (by decide) (fun a hE => ?_)
                        refine hE.pur (X.pickF hE rfl rfl) fun a hE => ?_
                        exact hr9 false _ _ H (hE.weak ⟨rfl, trivial⟩)
                  · rcases Bool.eq_false_or_eq_true (x121) with hbr8 | hbr8
                    · replace H := H.1 hbr8
                      replace hE := hE.bool (b := true) (t := 122) rfl (hbr8)
                      refine hE.on (by rfl) (by rfl) ?_
                      refine hE.pur (X.move hE rfl) fun a hE => ?_
                      refine hE.on (by rfl) (by rfl) ?_
                      refine hE.pur (X.move hE rfl) fun a hE => ?_
                      refine hE.on (by rfl) (by rfl) ?_
                      refine hE.pur (X.eqS hE rfl rfl) fun a hE => ?_
                      refine hE.pur (X.pickT hE rfl rfl) fun a hE => ?_
                      exact hr8 (decide (r_7 = r_10)) _ _ H (hE.weak ⟨rfl, rfl, rfl, trivial⟩)
                    · replace H := H.2 hbr8
                      replace hE := hE.bool (b := false) (t := 122) rfl (hbr8)
                      refine hE.off (by rfl) (by rfl) (by decide) (fun a hE => ?_)
                      refine hE.off (by rfl) (by rfl) (by decide) (fun a hE => ?_)
                      refine hE.off (by rfl) (by rfl) (by decide) (fun a hE => ?_)
                      refine hE.pur (X.pickF hE rfl rfl) fun a hE => ?_
                      exact hr8 false _ _ H (hE.weak ⟨rfl, rfl, rfl, trivial⟩)
                · rcases Classical.em ((r_9 = 0)) with hbr7 | hbr7
                  · replace H := H.1 hbr7
                    replace hE := hE.bool (b := true) (t := 118) rfl (decide_eq_true hbr7)
                    refine hE.on (by rfl) (by rfl) ?_
                    refine hE.pur (X.move hE rfl) fun a hE => ?_
                    refine hE.on (by rfl) (by rfl) ?_
                    refine hE.pur (X.eqI hE rfl rfl) fun a hE => ?_
                    refine hE.pur (X.pickT hE rfl rfl) fun a hE => ?_
                    exact hr7 (decide (r_12 = 0)) _ _ H (hE.weak ⟨rfl, rfl, rfl, rfl, rfl, trivial⟩)
                  · replace H := H.2 hbr7
                    replace hE := hE.bool (b := false) (t := 118) rfl (decide_eq_false hbr7)
                    refine hE.off (by rfl) (by rfl) (by decide) (fun a hE => ?_)
                    refine hE.off (by rfl) (by rfl) (by decide) (fun a hE => ?_)
                    refine hE.pur (X.pickF hE rfl rfl) fun a hE => ?_
                    exact hr7 false _ _ H (hE.weak ⟨rfl, rfl, rfl, rfl, rfl, trivial⟩)
        · rcases Bool.eq_false_or_eq_true (x44) with hbr2 | hbr2
          · replace H := H.1 hbr2
            replace hE := hE.bool (b := true) (t := 45) rfl (hbr2)
            refine hE.off (by rfl) (by rfl) (by decide) (fun a hE => ?_)
            refine hE.off (by rfl) (by rfl) (by decide) (fun a hE => ?_)
            refine hE.off (by rfl) (by rfl) (by decide) (fun a hE => ?_)
            refine hE.off (by rfl) (by rfl) (by decide) (fun a hE => ?_)
            refine hE.off (by rfl) (by rfl) (by decide) (fun a hE => ?_)
            refine hE.off (by rfl) (by rfl) (by decide) (fun a hE => ?_)
            refine hE.off (by rfl) (by rfl) (by decide) (fun a hE => ?_)
            refine hE.pur (X.pickT hE rfl rfl) fun a hE => ?_
            exact hr2 true _ _ H (hE.weak ⟨rfl, rfl, rfl, rfl, rfl, rfl, trivial⟩)
          · replace H := H.2 hbr2
            replace hE := hE.bool (b := false) (t := 45) rfl (hbr2)
            refine hE.on (by rfl) (by rfl) ?_
            refine hE.op (X.fieldAddr hE rfl) H fun x46 w a H hE => ?_
            refine hE.on (by rfl) (by rfl) ?_
            refine hE.op (X.load hE rfl) H fun x47 w a H hE => ?_
            refine hE.on (by rfl) (by rfl) ?_
            refine hE.purR (fun w => X.lenL hE Try.underlying22 rfl) fun a hE => ?_
            refine hE.on (by rfl) (by rfl) ?_
            refine hE.op (X.fieldAddr hE rfl) H fun x49 w a H hE => ?_
            refine hE.on (by rfl) (by rfl) ?_
            refine hE.op (X.load hE rfl) H fun x50 w a H hE => ?_
            refine hE.on (by rfl) (by rfl) ?_
            refine hE.purR (fun w => X.lenL hE Try.underlying22 rfl) fun a hE => ?_
            refine hE.on (by rfl) (by rfl) ?_
            refine hE.pur (X.gtI hE rfl rfl) fun a hE => ?_
            refine hE.pur (X.pickF hE rfl rfl) fun a hE => ?_
            exact hr2 (decide ((x50.len : Int) < (x47.len : Int))) _ _ H (hE.weak ⟨rfl, rfl, rfl, rfl, rfl, rfl, trivial⟩)
      · rcases Classical.em ((r_3 ≠ 0)) with hbr1 | hbr1
        · replace H := H.1 hbr1
          replace hE := hE.bool (b := true) (t := 39) rfl (decide_eq_true hbr1)
          refine hE.off (by rfl) (by rfl) (by decide) (fun a hE => ?_)
          refine hE.off (by rfl) (by rfl) (by decide) (fun a hE => ?_)
          refine hE.off (by rfl) (by rfl) (by decide) (fun a hE => ?_)
          refine hE.off (by rfl) (by rfl) (by decide) (fun a hE => ?_)
          refine hE.pur (X.pickT hE rfl rfl) fun a hE => ?_
          exact hr1 true _ _ H (hE.weak ⟨rfl, rfl, rfl, rfl, rfl, rfl, trivial⟩)
        · replace H := H.2 hbr1
          replace hE := hE.bool (b := false) (t := 39) rfl (decide_eq_false hbr1)
          refine hE.on (by rfl) (by rfl) ?_
          refine hE.op (X.fieldAddr hE rfl) H fun x40 w a H hE => ?_
          refine hE.on (by rfl) (by rfl) ?_
          refine hE.op (X.load hE rfl) H fun x41 w a H hE => ?_
          refine hE.on (by rfl) (by rfl) ?_
          refine hE.pur (X.move hE rfl) fun a hE => ?_
          refine hE.on (by rfl) (by rfl) ?_
          refine hE.pur (X.neI hE rfl rfl) fun a hE => ?_
          refine hE.pur (X.pickF hE rfl rfl) fun a hE => ?_
          exact hr1 (decide (x41 ≠ x1)) _ _ H (hE.weak ⟨rfl, rfl, rfl, rfl, rfl, rfl, trivial⟩)
end Go.Proofs.Ytealcoghiaeiiaa.VG
