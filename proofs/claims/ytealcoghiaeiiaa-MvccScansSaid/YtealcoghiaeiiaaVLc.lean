/- Verification conditions, by program (gen.py), of functions of the loaded program, each with the proof that it gives the call; no condition. -/
import Derived.Test.YtealcoghiaeiiaaVS
set_option linter.unusedVariables false
set_option linter.unusedSimpArgs false
namespace Go.Proofs.Ytealcoghiaeiiaa.VG
open Go.VB Go.Proofs

/-! ### lading ladinglaw09.MvccScans: function 5 -/
def V_ladinglaw09_MvccScans_j2 (x35 : Int) (Kl1 : Int → Int → World → Prop) (x11_1 : Int) (w : World) : Prop :=
  Kl1 x11_1 (IntKind.wrap .i64 (x35 + 1)) w
def V_ladinglaw09_MvccScans_r6 (Ret : Bool → World → Prop) (x11 : Int) (x35 : Int) (Kl1 : Int → Int → World → Prop) (x97 : Bool) (w : World) : Prop :=
  nextB w (fun w => (x97 = true → (Ret false w)) ∧ (x97 = false → (V_ladinglaw09_MvccScans_j2 x35 Kl1 (IntKind.wrap .i64 (x11 + 1)) w)))
def V_ladinglaw09_MvccScans_r5 (Ret : Bool → World → Prop) (r_1 : Sl) (x11 : Int) (x35 : Int) (Kl1 : Int → Int → World → Prop) (x13 : Option Addr) (r_3 : ByteArray) (x82 : Bool) (w : World) : Prop :=
  (x82 = true → (V_ladinglaw09_MvccScans_j2 x35 Kl1 x11 w)) ∧ (x82 = false → ((((r_1.len : Int) ≤ x11) → (V_ladinglaw09_MvccScans_r6 Ret x11 x35 Kl1 true w)) ∧ (¬ ((r_1.len : Int) ≤ x11) → (opB Try.prog Value.pointer (Instr.indexAt 41 (Sl.v r_1) (.int .i64 x11)) w (fun x90 => opB Try.prog T_api_Pair.v (Instr.loadAt 45 (.pointer x90)) w (fun x91 => opB Try.prog Value.pointer (Instr.fieldAt 37 (.pointer x13) 0) w (fun x92 => opB Try.prog Value.string (Instr.loadAt 9 (.pointer x92)) w (fun x93 => opB Try.prog T_api_Pair.v (Instr.build 45 [(0, (.string x93)), (1, (.string r_3))].toArray) w (fun x95 => opB Try.prog Value.bool (do eqGuard .neq 45 (.tmp 91) (.tmp 95) (T_api_Pair.v x91) (T_api_Pair.v x95); binOp .neq 45 (T_api_Pair.v x91) (T_api_Pair.v x95)) w (fun x96 => V_ladinglaw09_MvccScans_r6 Ret x11 x35 Kl1 x96 w))))))))))
def V_ladinglaw09_MvccScans_r7 (Ret : Bool → World → Prop) (r_1 : Sl) (x11 : Int) (x35 : Int) (Kl1 : Int → Int → World → Prop) (x13 : Option Addr) (r_3 : ByteArray) (x81 : Bool) (w : World) : Prop :=
  V_ladinglaw09_MvccScans_r5 Ret r_1 x11 x35 Kl1 x13 r_3 x81 w
def V_ladinglaw09_MvccScans_r4 (x2 : ByteArray) (Ret : Bool → World → Prop) (r_1 : Sl) (x11 : Int) (x35 : Int) (Kl1 : Int → Int → World → Prop) (x13 : Option Addr) (r_3 : ByteArray) (x72 : Bool) (w : World) : Prop :=
  (x72 = true → (V_ladinglaw09_MvccScans_r5 Ret r_1 x11 x35 Kl1 x13 r_3 true w)) ∧ (x72 = false → (((x2 ≠ (ByteArray.mk #[])) → (opE Try.prog Value.pointer (Instr.fieldAt 37 (.pointer x13) 0) w (fun x77 w => opE Try.prog Value.string (Instr.loadAt 9 (.pointer x77)) w (fun x78 w => V_ladinglaw09_MvccScans_r7 Ret r_1 x11 x35 Kl1 x13 r_3 (!sLt x78 x2) w)))) ∧ (¬ (x2 ≠ (ByteArray.mk #[])) → (V_ladinglaw09_MvccScans_r7 Ret r_1 x11 x35 Kl1 x13 r_3 false w))))
def V_ladinglaw09_MvccScans_r3 (x1 : ByteArray) (x2 : ByteArray) (x3 : Int) (Ret : Bool → World → Prop) (x4 : Option Addr) (r_1 : Sl) (x11 : Int) (x35 : Int) (Kl1 : Int → Int → World → Prop) (x13 : Option Addr) (x53 : Bool) (w : World) : Prop :=
  nextB w (fun w => (x53 = true → (V_ladinglaw09_MvccScans_j2 x35 Kl1 x11 w)) ∧ (x53 = false → (opE Try.prog T_api_Versions.v (Instr.loadAt 25 (.pointer x4)) w (fun x55 w => opE Try.prog Value.pointer (Instr.fieldAt 37 (.pointer x13) 0) w (fun x56 w => opE Try.prog Value.string (Instr.loadAt 9 (.pointer x56)) w (fun x57 w => Cl Try.prog 18 [(T_api_Versions.v x55), (.string x57), (.int .u64 x3)].toArray w (fun e w => ∃ (r_3 : ByteArray) (r_4 : Bool) (r_5 : Int), e = .returned (.tuple [(.string r_3), (.bool r_4), (.int .i64 r_5)].toArray) ∧ (((r_5 ≠ 0) → (Ret false w)) ∧ (¬ (r_5 ≠ 0) → (((!r_4) = true → (V_ladinglaw09_MvccScans_r4 x2 Ret r_1 x11 x35 Kl1 x13 r_3 true w)) ∧ ((!r_4) = false → (opE Try.prog Value.pointer (Instr.fieldAt 37 (.pointer x13) 0) w (fun x68 w => opE Try.prog Value.string (Instr.loadAt 9 (.pointer x68)) w (fun x69 w => V_ladinglaw09_MvccScans_r4 x2 Ret r_1 x11 x35 Kl1 x13 r_3 (sLt x69 x1) w))))))))))))))
def V_ladinglaw09_MvccScans_l1b (x1 : ByteArray) (x2 : ByteArray) (x3 : Int) (Ret : Bool → World → Prop) (x4 : Option Addr) (r_1 : Sl) (x33 : Sl) (x11 : Int) (x35 : Int) (w : World) (Kl1 : Int → Int → World → Prop) : Prop :=
  ((x35 < (x33.len : Int)) → (opE Try.prog Value.pointer (Instr.indexAt 22 (Sl.v x33) (.int .i64 x35)) w (fun x38 w => opE Try.prog T_api_Version.v (Instr.loadAt 37 (.pointer x38)) w (fun x39 w => opE Try.prog Value.pointer (Instr.alloc 37 true (.tuple #[])) w (fun x13 w => opU Try.prog (Instr.storeAt 37 (.pointer x13) (T_api_Version.v x39)) w (fun w => ((0 < x35) → (opB Try.prog Value.pointer (Instr.fieldAt 25 (.pointer x4) 0) w (fun x43 => opB Try.prog Sl.v (Instr.loadAt 22 (.pointer x43)) w (fun x44 => opB Try.prog Value.pointer (Instr.indexAt 22 (Sl.v x44) (.int .i64 (IntKind.wrap .i64 (x35 - 1)))) w (fun x47 => opB Try.prog Value.pointer (Instr.fieldAt 37 (.pointer x47) 0) w (fun x48 => opB Try.prog Value.string (Instr.loadAt 9 (.pointer x48)) w (fun x49 => opB Try.prog Value.pointer (Instr.fieldAt 37 (.pointer x13) 0) w (fun x50 => opB Try.prog Value.string (Instr.loadAt 9 (.pointer x50)) w (fun x51 => V_ladinglaw09_MvccScans_r3 x1 x2 x3 Ret x4 r_1 x11 x35 Kl1 x13 (decide (x49 = x51)) w))))))))) ∧ (¬ (0 < x35) → (V_ladinglaw09_MvccScans_r3 x1 x2 x3 Ret x4 r_1 x11 x35 Kl1 x13 false w)))))))) ∧ (¬ (x35 < (x33.len : Int)) → (Ret (decide (x11 = (r_1.len : Int))) w))
def V_ladinglaw09_MvccScans (x0 : T_api_Versions) (x1 : ByteArray) (x2 : ByteArray) (x3 : Int) (w : World) (Ret : Bool → World → Prop) : Prop :=
  opE Try.prog Value.pointer (Instr.box 25 (T_api_Versions.v x0)) w (fun x4 w => Cl Try.prog 15 [].toArray w (fun e w => ∃ (r : Bool), e = .returned (.bool r) ∧ (((!r) = true → (Ret false w)) ∧ ((!r) = false → (opE Try.prog T_api_Versions.v (Instr.loadAt 25 (.pointer x4)) w (fun x20 w => Cl Try.prog 19 [(T_api_Versions.v x20), (.string x1), (.string x2), (.int .u64 x3)].toArray w (fun e w => ∃ (r_1 : Sl) (r_2 : Int), e = .returned (.tuple [(Sl.v r_1), (.int .i64 r_2)].toArray) ∧ (((r_2 ≠ 0) → (Ret (decide ((r_1.len : Int) = 0)) w)) ∧ (¬ (r_2 ≠ 0) → (opE Try.prog Value.pointer (Instr.fieldAt 25 (.pointer x4) 0) w (fun x32 w => opE Try.prog Sl.v (Instr.loadAt 22 (.pointer x32)) w (fun x33 w => ∃ (I : Int → Int → World → Prop) (μ : Int → Int → World → Nat), I 0 0 w ∧ ∀ (x11 : Int) (x35 : Int) w, I x11 x35 w → V_ladinglaw09_MvccScans_l1b x1 x2 x3 Ret x4 r_1 x33 x11 x35 w (fun x11' x35' w' => I x11' x35' w' ∧ μ x11' x35' w' < μ x11 x35 w)))))))))))))
set_option maxRecDepth 100000 in
theorem L1_ladinglaw09_MvccScans (x0 : T_api_Versions) (x1 : ByteArray) (x2 : ByteArray) (x3 : Int) (w : World) (Ret : Bool → World → Prop) (H : V_ladinglaw09_MvccScans x0 x1 x2 x3 w Ret) : Cl Try.prog 5 [(T_api_Versions.v x0), (.string x1), (.string x2), (.int .u64 x3)].toArray w (fun e w' => ∃ (r0 : Bool), e = .returned (.bool r0) ∧ Ret r0 w') := by
  unfold V_ladinglaw09_MvccScans at H
  refine C.enter 105 (zipE 0 [(T_api_Versions.v x0), (.string x1), (.string x2), (.int .u64 x3)]) Try.func5 rfl rfl (by rfl) rfl ?_
  intro a hE
  replace hE : Sat [] 105 [(0, (T_api_Versions.v x0)), (1, (.string x1)), (2, (.string x2)), (3, (.int .u64 x3))] a := hE
  refine C.seq ?_
  refine C.region ?_
  refine hE.op (X.box hE rfl) H fun x4 w a H hE => ?_
  refine hE.pur (X.assign hE rfl) fun a hE => ?_
  refine C.nil (tn ?_)
  refine C.seq ?_
  refine C.seq ?_
  refine C.region ?_
  refine hE.call (X.callF hE ent15 rfl rfl) H fun e w H => ?_
  obtain ⟨r, rfl, H⟩ := H
  refine ⟨_, rfl, fun a hE => ?_⟩
  refine hE.pur (X.not hE rfl) fun a hE => ?_
  refine C.nil (tn ?_)
  refine C.condB hE rfl (fun hc => ?_) (fun hc => ?_)
  · replace H := H.1 hc
    refine C.seq ?_
    refine C.region ?_
    refine hE.pur (X.assign hE rfl) fun a hE => ?_
    refine C.nil (tn ?_)
    exact C.ret (tr (C.ret1 hE rfl rfl ⟨_, rfl, H⟩))
  · replace H := H.2 hc
    refine C.skip (tn ?_)
    refine C.seq ?_
    refine C.region ?_
    refine hE.op (X.load hE rfl) H fun x20 w a H hE => ?_
    refine hE.pur (X.move hE rfl) fun a hE => ?_
    refine hE.pur (X.move hE rfl) fun a hE => ?_
    refine hE.pur (X.move hE rfl) fun a hE => ?_
    refine hE.call (X.callF hE ent19 rfl rfl) H fun e w H => ?_
    obtain ⟨r_1, r_2, rfl, H⟩ := H
    refine ⟨_, rfl, fun a hE => ?_⟩
    refine hE.pur (X.move hE rfl) fun a hE => ?_
    refine hE.pur (X.extract hE rfl rfl) fun a hE => ?_
    refine hE.pur (X.extract hE rfl rfl) fun a hE => ?_
    refine hE.pur (X.assign hE rfl) fun a hE => ?_
    refine hE.pur (X.assign hE rfl) fun a hE => ?_
    refine C.nil (tn ?_)
    refine C.seq ?_
    refine C.seq ?_
    refine C.region ?_
    refine hE.pur (X.move hE rfl) fun a hE => ?_
    refine hE.pur (X.neI hE rfl rfl) fun a hE => ?_
    refine C.nil (tn ?_)
    refine C.condP hE rfl (fun hc => ?_) (fun hc => ?_)
    · replace H := H.1 hc
      refine C.seq ?_
      refine C.region ?_
      refine hE.pur (X.move hE rfl) fun a hE => ?_
      refine hE.purR (fun w => X.lenL hE Try.underlying41 rfl) fun a hE => ?_
      refine hE.pur (X.eqI hE rfl rfl) fun a hE => ?_
      refine hE.pur (X.assign hE rfl) fun a hE => ?_
      refine C.nil (tn ?_)
      exact C.ret (tr (C.ret1 hE rfl rfl ⟨_, rfl, H⟩))
    · replace H := H.2 hc
      refine C.skip (tn ?_)
      refine C.seq ?_
      refine C.region ?_
      refine hE.pur (X.assign hE rfl) fun a hE => ?_
      refine C.nil (tn ?_)
      refine C.seq ?_
      refine C.seq ?_
      refine C.region ?_
      refine hE.op (X.fieldAddr hE rfl) H fun x32 w a H hE => ?_
      refine hE.op (X.load hE rfl) H fun x33 w a H hE => ?_
      refine hE.purR (fun w => X.lenL hE Try.underlying22 rfl) fun a hE => ?_
      refine hE.pur (X.move hE rfl) fun a hE => ?_
      refine C.nil (tn ?_)
      refine C.block ?_
      obtain ⟨I_l1, μ_l1, h0, hb⟩ := H
      refine C.loop (ds := []) (N := 105) (σ := Int × Int) (fun s => [(11, (.int .i64 s.1)), (35, (.int .i64 s.2)), (1, (.string x1)), (2, (.string x2)), (3, (.int .u64 x3)), (4, (.pointer x4)), (9, (Sl.v r_1)), (33, (Sl.v x33)), (34, (.int .i64 (x33.len : Int)))]) (fun s w => I_l1 s.1 s.2 w) (fun s w => μ_l1 s.1 s.2 w) (0, 0) h0 (hE.weak ⟨rfl, rfl, rfl, rfl, rfl, rfl, rfl, rfl, rfl, trivial⟩) ?_
      rintro ⟨x11, x35⟩ w a hI hE
      try dsimp only at hI hE
      obtain ⟨Kl1, hK_l1⟩ : ∃ K : Int → Int → World → Prop, K = (fun x11' x35' w' => I_l1 x11' x35' w' ∧ μ_l1 x11' x35' w' < μ_l1 x11 x35 w) := ⟨_, rfl⟩
      have H : V_ladinglaw09_MvccScans_l1b x1 x2 x3 Ret x4 r_1 x33 x11 x35 w Kl1 := by rw [hK_l1]; exact hb x11 x35 w hI
      clear hb h0 hI
      unfold V_ladinglaw09_MvccScans_l1b at H
      refine C.seq ?_
      refine C.region ?_
      refine hE.pur (X.ltI hE rfl rfl) fun a hE => ?_
      refine C.nil (tn ?_)
      refine C.seq ?_
      refine C.condP hE rfl (fun hc => ?_) (fun hc => ?_)
      · replace H := H.1 hc
        refine C.skip (tn ?_)
        refine C.join (ds := []) (N := 105) (σ := Int) (fun s => [(11, (.int .i64 s)), (1, (.string x1)), (2, (.string x2)), (3, (.int .u64 x3)), (4, (.pointer x4)), (9, (Sl.v r_1)), (33, (Sl.v x33)), (34, (.int .i64 (x33.len : Int))), (35, (.int .i64 x35))]) (fun s w => V_ladinglaw09_MvccScans_j2 x35 Kl1 s w) ?_ (fun hj2 => ?_)
        · intro x11_1 w a H hE
          try dsimp only at H hE
          unfold V_ladinglaw09_MvccScans_j2 at H
          refine C.region ?_
          refine hE.pur (X.add hE rfl rfl) fun a hE => ?_
          refine hE.pur (X.move hE rfl) fun a hE => ?_
          rw [hK_l1] at H
          exact C.nil (tn ⟨(x11_1, (IntKind.wrap .i64 (x35 + 1))), hE.weak ⟨rfl, rfl, rfl, rfl, rfl, rfl, rfl, rfl, rfl, trivial⟩, H⟩)
        · refine C.block ?_
          refine C.seq ?_
          refine C.region ?_
          refine hE.pur (X.move hE rfl) fun a hE => ?_
          refine hE.op (X.indexAddr hE rfl rfl) H fun x38 w a H hE => ?_
          refine hE.op (X.load hE rfl) H fun x39 w a H hE => ?_
          refine hE.op (X.alloc) H fun x13 w a H hE => ?_
          refine hE.pur (X.assign hE rfl) fun a hE => ?_
          refine hE.opu (X.store hE rfl rfl) H fun w a H hE => ?_
          refine C.nil (tn ?_)
          refine C.seq ?_
          refine C.seq ?_
          refine C.draw (by kernel_rfl) (by kernel_rfl) ?_
          refine hE.qpur (X.move hE rfl) fun a hE => ?_
          refine hE.qpur (X.gtI hE rfl rfl) fun a hE => ?_
          refine hE.qpur (X.move hE rfl) fun a hE => ?_
          refine WQ.join (ds := []) (N := 105) (σ := Bool) (fun s => [(53, (.bool s)), (1, (.string x1)), (2, (.string x2)), (3, (.int .u64 x3)), (4, (.pointer x4)), (9, (Sl.v r_1)), (11, (.int .i64 x11)), (13, (.pointer x13)), (33, (Sl.v x33)), (34, (.int .i64 (x33.len : Int))), (35, (.int .i64 x35))]) (fun s => V_ladinglaw09_MvccScans_r3 x1 x2 x3 Ret x4 r_1 x11 x35 Kl1 x13 s w) 11 ?_ (fun hr3 => ?_)
          · intro x53 a H hE
            try dsimp only at H hE
            unfold V_ladinglaw09_MvccScans_r3 at H
            refine C.qnil (fun w hB => ?_)
            replace H := H w hB
            refine (tn ?_)
            refine C.condB hE rfl (fun hc => ?_) (fun hc => ?_)
            · replace H := H.1 hc
              exact C.exit (te (be (tn (hj2 x11 _ _ H (hE.weak ⟨rfl, rfl, rfl, rfl, rfl, rfl, rfl, rfl, rfl, trivial⟩)))))
            · replace H := H.2 hc
              refine C.skip (tn ?_)
              refine C.seq ?_
              refine C.region ?_
              refine hE.op (X.load hE rfl) H fun x55 w a H hE => ?_
              refine hE.op (X.fieldAddr hE rfl) H fun x56 w a H hE => ?_
              refine hE.op (X.load hE rfl) H fun x57 w a H hE => ?_
              refine hE.pur (X.move hE rfl) fun a hE => ?_
              refine hE.call (X.callF hE ent18 rfl rfl) H fun e w H => ?_
              obtain ⟨r_3, r_4, r_5, rfl, H⟩ := H
              refine ⟨_, rfl, fun a hE => ?_⟩
              refine hE.pur (X.move hE rfl) fun a hE => ?_
              refine hE.pur (X.extract hE rfl rfl) fun a hE => ?_
              refine hE.pur (X.extract hE rfl rfl) fun a hE => ?_
              refine hE.pur (X.extract hE rfl rfl) fun a hE => ?_
              refine hE.pur (X.assign hE rfl) fun a hE => ?_
              refine hE.pur (X.assign hE rfl) fun a hE => ?_
              refine hE.pur (X.assign hE rfl) fun a hE => ?_
              refine C.nil (tn ?_)
              refine C.seq ?_
              refine C.seq ?_
              refine C.region ?_
              refine hE.pur (X.move hE rfl) fun a hE => ?_
              refine hE.pur (X.neI hE rfl rfl) fun a hE => ?_
              refine C.nil (tn ?_)
              refine C.condP hE rfl (fun hc => ?_) (fun hc => ?_)
              · replace H := H.1 hc
                refine C.seq ?_
                refine C.region ?_
                refine hE.pur (X.assign hE rfl) fun a hE => ?_
                refine C.nil (tn ?_)
                exact C.ret (tr (br (tr (tr (br (tr (C.ret1 hE rfl rfl ⟨_, rfl, H⟩)))))))
              · replace H := H.2 hc
                refine C.skip (tn ?_)
                refine C.seq ?_
                refine C.seq ?_
                refine C.region ?_
                refine hE.pur (X.move hE rfl) fun a hE => ?_
                refine hE.pur (X.not hE rfl) fun a hE => ?_
                refine hE.pur (X.move hE rfl) fun a hE => ?_
                refine WL.join (ds := []) (N := 105) (σ := Bool) (fun s => [(72, (.bool s)), (1, (.string x1)), (2, (.string x2)), (3, (.int .u64 x3)), (4, (.pointer x4)), (9, (Sl.v r_1)), (11, (.int .i64 x11)), (13, (.pointer x13)), (14, (.string r_3)), (33, (Sl.v x33)), (34, (.int .i64 (x33.len : Int))), (35, (.int .i64 x35))]) (fun s w => V_ladinglaw09_MvccScans_r4 x2 Ret r_1 x11 x35 Kl1 x13 r_3 s w) 5 ?_ (fun hr4 => ?_)
                · intro x72 w a H hE
                  try dsimp only at H hE
                  unfold V_ladinglaw09_MvccScans_r4 at H
                  refine hE.pur (X.move hE rfl) fun a hE => ?_
                  refine WL.join (ds := []) (N := 105) (σ := Bool) (fun s => [(82, (.bool s)), (1, (.string x1)), (2, (.string x2)), (3, (.int .u64 x3)), (4, (.pointer x4)), (9, (Sl.v r_1)), (11, (.int .i64 x11)), (13, (.pointer x13)), (14, (.string r_3)), (33, (Sl.v x33)), (34, (.int .i64 (x33.len : Int))), (35, (.int .i64 x35))]) (fun s w => V_ladinglaw09_MvccScans_r5 Ret r_1 x11 x35 Kl1 x13 r_3 s w) 9 ?_ (fun hr5 => ?_)
                  · intro x82 w a H hE
                    try dsimp only at H hE
                    unfold V_ladinglaw09_MvccScans_r5 at H
                    refine C.nil (tn ?_)
                    refine C.condB hE rfl (fun hc => ?_) (fun hc => ?_)
                    · replace H := H.1 hc
                      exact C.exit (te (be (tn (hj2 x11 _ _ H (hE.weak ⟨rfl, rfl, rfl, rfl, rfl, rfl, rfl, rfl, rfl, trivial⟩)))))
                    · replace H := H.2 hc
                      refine C.skip (tn ?_)
                      refine C.seq ?_
                      refine C.seq ?_
                      refine C.draw (by kernel_rfl) (by kernel_rfl) ?_
                      refine hE.qpur (X.move hE rfl) fun a hE => ?_
                      refine hE.qpur (X.move hE rfl) fun a hE => ?_
                      refine hE.qpurR (fun w => X.lenL hE Try.underlying41 rfl) fun a hE => ?_
                      refine hE.qpur (X.geI hE rfl rfl) fun a hE => ?_
                      refine hE.qpur (X.move hE rfl) fun a hE => ?_
                      refine WQ.join (ds := []) (N := 105) (σ := Bool) (fun s => [(97, (.bool s)), (1, (.string x1)), (2, (.string x2)), (3, (.int .u64 x3)), (4, (.pointer x4)), (9, (Sl.v r_1)), (11, (.int .i64 x11)), (33, (Sl.v x33)), (34, (.int .i64 (x33.len : Int))), (35, (.int .i64 x35))]) (fun s => V_ladinglaw09_MvccScans_r6 Ret x11 x35 Kl1 s w) 10 ?_ (fun hr6 => ?_)
                      · intro x97 a H hE
                        try dsimp only at H hE
                        unfold V_ladinglaw09_MvccScans_r6 at H
                        refine C.qnil (fun w hB => ?_)
                        replace H := H w hB
                        refine (tn ?_)
                        refine C.condB hE rfl (fun hc => ?_) (fun hc => ?_)
                        · replace H := H.1 hc
                          refine C.seq ?_
                          refine C.region ?_
                          refine hE.pur (X.assign hE rfl) fun a hE => ?_
                          refine C.nil (tn ?_)
                          exact C.ret (tr (br (tr (tr (br (tr (C.ret1 hE rfl rfl ⟨_, rfl, H⟩)))))))
                        · replace H := H.2 hc
                          refine C.skip (tn ?_)
                          refine C.region ?_
                          refine hE.pur (X.move hE rfl) fun a hE => ?_
                          refine hE.pur (X.add hE rfl rfl) fun a hE => ?_
                          refine hE.pur (X.assign hE rfl) fun a hE => ?_
                          exact C.nil (bn (tn (hj2 (IntKind.wrap .i64 (x11 + 1)) _ _ H (hE.weak ⟨rfl, rfl, rfl, rfl, rfl, rfl, rfl, rfl, rfl, trivial⟩))))
                      · rcases Classical.em (((r_1.len : Int) ≤ x11)) with hbr6 | hbr6
                        · replace H := H.1 hbr6
                          replace hE := hE.bool (b := true) (t := 87) rfl (decide_eq_true hbr6)
                          refine hE.qoff (by rfl) (by rfl) (by decide) (fun a hE => ?_)
                          refine hE.qoff (by rfl) (by rfl) (by decide) (fun a hE => ?_)
                          refine hE.qoff (by rfl) (by rfl) (by decide) (fun a hE => ?_)
                          refine hE.qoff (by rfl) (by rfl) (by decide) (fun a hE => ?_)
                          refine hE.qoff (by rfl) (by rfl) (by decide) (fun a hE => ?_)
                          refine hE.qoff (by rfl) (by rfl) (by decide) (fun a hE => ?_)
                          refine hE.qoff (by rfl) (by rfl) (by decide) (fun a hE => ?_)
                          refine hE.qoff (by rfl) (by rfl) (by decide) (fun a hE => ?_)
                          refine hE.qoff (by rfl) (by rfl) (by decide) (fun a hE => ?_)
                          refine hE.qpur (X.pickT hE rfl rfl) fun a hE => ?_
                          exact hr6 true _ H (hE.weak ⟨rfl, rfl, rfl, rfl, rfl, rfl, rfl, rfl, rfl, rfl, trivial⟩)
                        · replace H := H.2 hbr6
                          replace hE := hE.bool (b := false) (t := 87) rfl (decide_eq_false hbr6)
                          refine hE.qon (by rfl) (by rfl) ?_
                          refine hE.qpur (X.move hE rfl) fun a hE => ?_
                          refine hE.qon (by rfl) (by rfl) ?_
                          refine hE.qpur (X.move hE rfl) fun a hE => ?_
                          refine hE.qon (by rfl) (by rfl) ?_
                          refine hE.qop (X.indexAddr hE rfl rfl) H fun x90 a H hE => ?_
                          refine hE.qon (by rfl) (by rfl) ?_
                          refine hE.qop (X.load hE rfl) H fun x91 a H hE => ?_
                          refine hE.qon (by rfl) (by rfl) ?_
                          refine hE.qop (X.fieldAddr hE rfl) H fun x92 a H hE => ?_
                          refine hE.qon (by rfl) (by rfl) ?_
                          refine hE.qop (X.load hE rfl) H fun x93 a H hE => ?_
                          refine hE.qon (by rfl) (by rfl) ?_
                          refine hE.qpur (X.move hE rfl) fun a hE => ?_
                          refine hE.qon (by rfl) (by rfl) ?_
                          refine hE.qop (X.build hE rfl) H fun x95 a H hE => ?_
                          refine hE.qon (by rfl) (by rfl) ?_
                          refine hE.qop (X.bin hE rfl rfl) H fun x96 a H hE => ?_
                          refine hE.qpur (X.pickF hE rfl rfl) fun a hE => ?_
                          exact hr6 x96 _ H (hE.weak ⟨rfl, rfl, rfl, rfl, rfl, rfl, rfl, rfl, rfl, rfl, trivial⟩)
                  · rcases Bool.eq_false_or_eq_true (x72) with hbr5 | hbr5
                    · replace H := H.1 hbr5
                      replace hE := hE.bool (b := true) (t := 73) rfl (hbr5)
                      refine hE.off (by rfl) (by rfl) (by decide) (fun a hE => ?_)
                      refine hE.off (by rfl) (by rfl) (by decide) (fun a hE => ?_)
                      refine hE.off (by rfl) (by rfl) (by decide) (fun a hE => ?_)
                      refine hE.offU (by rfl) (by rfl) (fun a hE => ?_)
                      refine hE.offU (by rfl) (by rfl) (fun a hE => ?_)
                      refine hE.offU (by rfl) (by rfl) (fun a hE => ?_)
                      refine hE.offU (by rfl) (by rfl) (fun a hE => ?_)
                      refine hE.off (by rfl) (by rfl) (by decide) (fun a hE => ?_)
                      refine hE.pur (X.pickT hE rfl rfl) fun a hE => ?_
                      exact hr5 true _ _ H (hE.weak ⟨rfl, rfl, rfl, rfl, rfl, rfl, rfl, rfl, rfl, rfl, rfl, rfl, trivial⟩)
                    · replace H := H.2 hbr5
                      replace hE := hE.bool (b := false) (t := 73) rfl (hbr5)
                      refine hE.on (by rfl) (by rfl) ?_
                      refine hE.pur (X.move hE rfl) fun a hE => ?_
                      refine hE.on (by rfl) (by rfl) ?_
                      refine hE.pur (X.neS hE rfl rfl) fun a hE => ?_
                      refine hE.on (by rfl) (by rfl) ?_
                      refine hE.pur (X.move hE rfl) fun a hE => ?_
                      refine WL.join (ds := []) (N := 105) (σ := Bool) (fun s => [(81, (.bool s)), (1, (.string x1)), (2, (.string x2)), (3, (.int .u64 x3)), (4, (.pointer x4)), (9, (Sl.v r_1)), (11, (.int .i64 x11)), (13, (.pointer x13)), (14, (.string r_3)), (33, (Sl.v x33)), (34, (.int .i64 (x33.len : Int))), (35, (.int .i64 x35)), (73, (.bool false))]) (fun s w => V_ladinglaw09_MvccScans_r7 Ret r_1 x11 x35 Kl1 x13 r_3 s w) 5 ?_ (fun hr7 => ?_)
                      · intro x81 w a H hE
                        try dsimp only at H hE
                        unfold V_ladinglaw09_MvccScans_r7 at H
                        refine hE.pur (X.pickF hE rfl rfl) fun a hE => ?_
                        exact hr5 x81 _ _ H (hE.weak ⟨rfl, rfl, rfl, rfl, rfl, rfl, rfl, rfl, rfl, rfl, rfl, rfl, trivial⟩)
                      · rcases Classical.em ((x2 ≠ (ByteArray.mk #[]))) with hbr7 | hbr7
                        · replace H := H.1 hbr7
                          replace hE := hE.bool (b := true) (t := 76) rfl (decide_eq_true hbr7)
                          refine hE.on (by rfl) (by rfl) ?_
                          refine hE.op (X.fieldAddr hE rfl) H fun x77 w a H hE => ?_
                          refine hE.on (by rfl) (by rfl) ?_
                          refine hE.op (X.load hE rfl) H fun x78 w a H hE => ?_
                          refine hE.on (by rfl) (by rfl) ?_
                          refine hE.pur (X.move hE rfl) fun a hE => ?_
                          refine hE.on (by rfl) (by rfl) ?_
                          refine hE.pur (X.geS hE rfl rfl) fun a hE => ?_
                          refine hE.on (by rfl) (by rfl) ?_
                          refine hE.pur (X.pickT hE rfl rfl) fun a hE => ?_
                          exact hr7 (!sLt x78 x2) _ _ H (hE.weak ⟨rfl, rfl, rfl, rfl, rfl, rfl, rfl, rfl, rfl, rfl, rfl, rfl, rfl, trivial⟩)
                        · replace H := H.2 hbr7
                          replace hE := hE.bool (b := false) (t := 76) rfl (decide_eq_false hbr7)
                          refine hE.off (by rfl) (by rfl) (by decide) (fun a hE => ?_)
                          refine hE.off (by rfl) (by rfl) (by decide) (fun a hE => ?_)
                          refine hE.off (by rfl) (by rfl) (by decide) (fun a hE => ?_)
                          refine hE.off (by rfl) (by rfl) (by decide) (fun a hE => ?_)
                          refine hE.on (by rfl) (by rfl) ?_
                          refine hE.pur (X.pickF hE rfl rfl) fun a hE => ?_
                          exact hr7 false _ _ H (hE.weak ⟨rfl, rfl, rfl, rfl, rfl, rfl, rfl, rfl, rfl, rfl, rfl, rfl, rfl, trivial⟩)
                · rcases Bool.eq_false_or_eq_true ((!r_4)) with hbr4 | hbr4
                  · replace H := H.1 hbr4
                    replace hE := hE.bool (b := true) (t := 67) rfl (hbr4)
                    refine hE.off (by rfl) (by rfl) (by decide) (fun a hE => ?_)
                    refine hE.off (by rfl) (by rfl) (by decide) (fun a hE => ?_)
                    refine hE.off (by rfl) (by rfl) (by decide) (fun a hE => ?_)
                    refine hE.off (by rfl) (by rfl) (by decide) (fun a hE => ?_)
                    refine hE.pur (X.pickT hE rfl rfl) fun a hE => ?_
                    exact hr4 true _ _ H (hE.weak ⟨rfl, rfl, rfl, rfl, rfl, rfl, rfl, rfl, rfl, rfl, rfl, rfl, trivial⟩)
                  · replace H := H.2 hbr4
                    replace hE := hE.bool (b := false) (t := 67) rfl (hbr4)
                    refine hE.on (by rfl) (by rfl) ?_
                    refine hE.op (X.fieldAddr hE rfl) H fun x68 w a H hE => ?_
                    refine hE.on (by rfl) (by rfl) ?_
                    refine hE.op (X.load hE rfl) H fun x69 w a H hE => ?_
                    refine hE.on (by rfl) (by rfl) ?_
                    refine hE.pur (X.move hE rfl) fun a hE => ?_
                    refine hE.on (by rfl) (by rfl) ?_
                    refine hE.pur (X.ltS hE rfl rfl) fun a hE => ?_
                    refine hE.pur (X.pickF hE rfl rfl) fun a hE => ?_
                    exact hr4 (sLt x69 x1) _ _ H (hE.weak ⟨rfl, rfl, rfl, rfl, rfl, rfl, rfl, rfl, rfl, rfl, rfl, rfl, trivial⟩)
          · rcases Classical.em ((0 < x35)) with hbr3 | hbr3
            · replace H := H.1 hbr3
              replace hE := hE.bool (b := true) (t := 42) rfl (decide_eq_true hbr3)
              refine hE.qon (by rfl) (by rfl) ?_
              refine hE.qop (X.fieldAddr hE rfl) H fun x43 a H hE => ?_
              refine hE.qon (by rfl) (by rfl) ?_
              refine hE.qop (X.load hE rfl) H fun x44 a H hE => ?_
              refine hE.qon (by rfl) (by rfl) ?_
              refine hE.qpur (X.move hE rfl) fun a hE => ?_
              refine hE.qon (by rfl) (by rfl) ?_
              refine hE.qpur (X.sub hE rfl rfl) fun a hE => ?_
              refine hE.qon (by rfl) (by rfl) ?_
              refine hE.qop (X.indexAddr hE rfl rfl) H fun x47 a H hE => ?_
              refine hE.qon (by rfl) (by rfl) ?_
              refine hE.qop (X.fieldAddr hE rfl) H fun x48 a H hE => ?_
              refine hE.qon (by rfl) (by rfl) ?_
              refine hE.qop (X.load hE rfl) H fun x49 a H hE => ?_
              refine hE.qon (by rfl) (by rfl) ?_
              refine hE.qop (X.fieldAddr hE rfl) H fun x50 a H hE => ?_
              refine hE.qon (by rfl) (by rfl) ?_
              refine hE.qop (X.load hE rfl) H fun x51 a H hE => ?_
              refine hE.qon (by rfl) (by rfl) ?_
              refine hE.qpur (X.eqS hE rfl rfl) fun a hE => ?_
              refine hE.qpur (X.pickT hE rfl rfl) fun a hE => ?_
              exact hr3 (decide (x49 = x51)) _ H (hE.weak ⟨rfl, rfl, rfl, rfl, rfl, rfl, rfl, rfl, rfl, rfl, rfl, trivial⟩)
            · replace H := H.2 hbr3
              replace hE := hE.bool (b := false) (t := 42) rfl (decide_eq_false hbr3)
              refine hE.qoff (by rfl) (by rfl) (by decide) (fun a hE => ?_)
              refine hE.qoff (by rfl) (by rfl) (by decide) (fun a hE => ?_)
              refine hE.qoff (by rfl) (by rfl) (by decide) (fun a hE => ?_)
              refine hE.qoff (by rfl) (by rfl) (by decide) (fun a hE => ?_)
              refine hE.qoff (by rfl) (by rfl) (by decide) (fun a hE => ?_)
              refine hE.qoff (by rfl) (by rfl) (by decide) (fun a hE => ?_)
              refine hE.qoff (by rfl) (by rfl) (by decide) (fun a hE => ?_)
              refine hE.qoff (by rfl) (by rfl) (by decide) (fun a hE => ?_)
              refine hE.qoff (by rfl) (by rfl) (by decide) (fun a hE => ?_)
              refine hE.qoff (by rfl) (by rfl) (by decide) (fun a hE => ?_)
              refine hE.qpur (X.pickF hE rfl rfl) fun a hE => ?_
              exact hr3 false _ H (hE.weak ⟨rfl, rfl, rfl, rfl, rfl, rfl, rfl, rfl, rfl, rfl, rfl, trivial⟩)
      · replace H := H.2 hc
        refine C.exit (te (te (be (tn ?_))))
        refine C.seq ?_
        refine C.region ?_
        refine hE.pur (X.move hE rfl) fun a hE => ?_
        refine hE.pur (X.move hE rfl) fun a hE => ?_
        refine hE.purR (fun w => X.lenL hE Try.underlying41 rfl) fun a hE => ?_
        refine hE.pur (X.eqI hE rfl rfl) fun a hE => ?_
        refine hE.pur (X.assign hE rfl) fun a hE => ?_
        refine C.nil (tn ?_)
        exact C.ret (C.ret1 hE rfl rfl ⟨_, rfl, H⟩)
end Go.Proofs.Ytealcoghiaeiiaa.VG
