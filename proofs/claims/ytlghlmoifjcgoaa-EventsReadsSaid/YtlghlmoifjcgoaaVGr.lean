/- Verification conditions, by program (gen.py), of functions of the loaded program, each with the proof that it gives the call; no condition. -/
import Derived.Test.YtlghlmoifjcgoaaVS
set_option linter.unusedVariables false
set_option linter.unusedSimpArgs false
namespace Go.Proofs.Ytlghlmoifjcgoaa.VG
open Go.VB Go.Proofs

/-! ### lading ladingref12.Append: function 11 -/
def V_ladingref12_Append_r4 (x46 : Int) (Kl3 : Bool → Int → World → Prop) (x55 : Bool) (w : World) : Prop :=
  Kl3 x55 (IntKind.wrap .i64 (x46 + 1)) w
def V_ladingref12_Append_l6b (x1 : ByteArray) (x4 : Sl) (Ret : Sl → Int → Int → World → Prop) (x3_1 : ByteArray) (x18 : Int) (x19 : Sl) (x88 : Int) (w : World) (Kl6 : ByteArray → Int → Sl → Int → World → Prop) : Prop :=
  ((x88 < (x4.len : Int)) → (opE Try.prog Value.pointer (Instr.indexAt 23 (Sl.v x4) (.int .i64 x88)) w (fun x90 w => opE Try.prog Value.string (Instr.loadAt 9 (.pointer x90)) w (fun x91 w => opE Try.prog T_api_Event.v (Instr.build 32 [(0, (.string x1)), (1, (.int .i64 (IntKind.wrap .i64 (x18 + 1)))), (2, (.int .i64 (IntKind.wrap .i64 ((x19.len : Int) + 1)))), (3, (.string x3_1)), (4, (.string x91))].toArray) w (fun x102 w => opE Try.prog Sl.v (Instr.buildSlice 22 1 [(0, (T_api_Event.v x102))].toArray) w (fun x103 w => opE Try.prog Sl.v (Builtin.append_ #[22, 22] 22 [(Sl.v x19), (Sl.v x103)].toArray) w (fun x104 w => Kl6 (ByteArray.mk #[]) (IntKind.wrap .i64 (x18 + 1)) x104 (IntKind.wrap .i64 (x88 + 1)) w))))))) ∧ (¬ (x88 < (x4.len : Int)) → (Ret x19 x18 0 w))
def V_ladingref12_Append_r5 (x0 : Sl) (x1 : ByteArray) (x3 : ByteArray) (x4 : Sl) (Ret : Sl → Int → Int → World → Prop) (r_2 : Sl) (x63 : Sl) (x78 : Bool) (w : World) : Prop :=
  (x78 = true → (Ret Sl.none 0 10 w)) ∧ (x78 = false → ((((IntKind.wrap .i64 (16384 - (x0.len : Int))) < (x4.len : Int)) → (Ret Sl.none 0 3 w)) ∧ (¬ ((IntKind.wrap .i64 (16384 - (x0.len : Int))) < (x4.len : Int)) → (∃ (I : ByteArray → Int → Sl → Int → World → Prop) (μ : ByteArray → Int → Sl → Int → World → Nat), I x3 (r_2.len : Int) x63 0 w ∧ ∀ (x3_1 : ByteArray) (x18 : Int) (x19 : Sl) (x88 : Int) w, I x3_1 x18 x19 x88 w → V_ladingref12_Append_l6b x1 x4 Ret x3_1 x18 x19 x88 w (fun x3_1' x18' x19' x88' w' => I x3_1' x18' x19' x88' w' ∧ μ x3_1' x18' x19' x88' w' < μ x3_1 x18 x19 x88 w)))))
def V_ladingref12_Append_l3b (x0 : Sl) (x1 : ByteArray) (x2 : Int) (x3 : ByteArray) (x4 : Sl) (Ret : Sl → Int → Int → World → Prop) (r : Int) (x15 : Bool) (x46 : Int) (w : World) (Kl3 : Bool → Int → World → Prop) : Prop :=
  ((x46 < (x4.len : Int)) → (opE Try.prog Value.pointer (Instr.indexAt 23 (Sl.v x4) (.int .i64 x46)) w (fun x48 w => opE Try.prog Value.string (Instr.loadAt 9 (.pointer x48)) w (fun x49 w => (x15 = true → (V_ladingref12_Append_r4 x46 Kl3 true w)) ∧ (x15 = false → (V_ladingref12_Append_r4 x46 Kl3 (decide (1024 < (x49.size : Int))) w)))))) ∧ (¬ (x46 < (x4.len : Int)) → (Cl Try.prog 30 [(Sl.v x0), (.string x1)].toArray w (fun e w => ∃ (r_2 : Sl), e = .returned (Sl.v r_2) ∧ (opE Try.prog Sl.v (Instr.buildSlice 22 0 [].toArray) w (fun x61 w => opE Try.prog Sl.v (Builtin.append_ #[22, 22] 22 [(Sl.v x61), (Sl.v x0)].toArray) w (fun x63 w => (x15 = true → (Ret Sl.none 0 4 w)) ∧ (x15 = false → (((0 < r) → (Ret x63 (r_2.len : Int) 0 w)) ∧ (¬ (0 < r) → (((0 ≤ x2) → (V_ladingref12_Append_r5 x0 x1 x3 x4 Ret r_2 x63 (decide (x2 ≠ (r_2.len : Int))) w)) ∧ (¬ (0 ≤ x2) → (V_ladingref12_Append_r5 x0 x1 x3 x4 Ret r_2 x63 false w))))))))))))
def V_ladingref12_Append_r2 (x0 : Sl) (x1 : ByteArray) (x2 : Int) (x3 : ByteArray) (x4 : Sl) (Ret : Sl → Int → Int → World → Prop) (r : Int) (x43 : Bool) (w : World) : Prop :=
  ∃ (I : Bool → Int → World → Prop) (μ : Bool → Int → World → Nat), I x43 0 w ∧ ∀ (x15 : Bool) (x46 : Int) w, I x15 x46 w → V_ladingref12_Append_l3b x0 x1 x2 x3 x4 Ret r x15 x46 w (fun x15' x46' w' => I x15' x46' w' ∧ μ x15' x46' w' < μ x15 x46 w)
def V_ladingref12_Append_r1 (x0 : Sl) (x1 : ByteArray) (x2 : Int) (x3 : ByteArray) (x4 : Sl) (Ret : Sl → Int → Int → World → Prop) (r : Int) (x38 : Bool) (w : World) : Prop :=
  (x38 = true → (V_ladingref12_Append_r2 x0 x1 x2 x3 x4 Ret r true w)) ∧ (x38 = false → (V_ladingref12_Append_r2 x0 x1 x2 x3 x4 Ret r (decide (1024 < (x3.size : Int))) w))
def V_ladingref12_Append (x0 : Sl) (x1 : ByteArray) (x2 : Int) (x3 : ByteArray) (x4 : Sl) (w : World) (Ret : Sl → Int → Int → World → Prop) : Prop :=
  Cl Try.prog 22 [(Sl.v x0), (.string x1), (.string x3)].toArray w (fun e w => ∃ (r : Int) (r_1 : Int), e = .returned (.tuple [(.int .i64 r), (.int .i64 r_1)].toArray) ∧ (((r_1 ≠ 0) → (Ret Sl.none 0 r_1 w)) ∧ (¬ (r_1 ≠ 0) → (((x1 = (ByteArray.mk #[])) → (V_ladingref12_Append_r1 x0 x1 x2 x3 x4 Ret r true w)) ∧ (¬ (x1 = (ByteArray.mk #[])) → (V_ladingref12_Append_r1 x0 x1 x2 x3 x4 Ret r (decide (1024 < (x1.size : Int))) w))))))
set_option maxRecDepth 100000 in
theorem L1_ladingref12_Append (x0 : Sl) (x1 : ByteArray) (x2 : Int) (x3 : ByteArray) (x4 : Sl) (w : World) (Ret : Sl → Int → Int → World → Prop) (H : V_ladingref12_Append x0 x1 x2 x3 x4 w Ret) : Cl Try.prog 11 [(Sl.v x0), (.string x1), (.int .i64 x2), (.string x3), (Sl.v x4)].toArray w (fun e w' => ∃ (r0 : Sl) (r1 : Int) (r2 : Int), e = .returned (.tuple [(Sl.v r0), (.int .i64 r1), (.int .i64 r2)].toArray) ∧ Ret r0 r1 r2 w') := by
  unfold V_ladingref12_Append at H
  refine C.enter 108 (zipE 0 [(Sl.v x0), (.string x1), (.int .i64 x2), (.string x3), (Sl.v x4)]) Try.func11 rfl rfl (by rfl) rfl ?_
  intro a hE
  replace hE : Sat [] 108 [(0, (Sl.v x0)), (1, (.string x1)), (2, (.int .i64 x2)), (3, (.string x3)), (4, (Sl.v x4))] a := hE
  refine C.seq ?_
  refine C.region ?_
  refine hE.pur (X.assign hE rfl) fun a hE => ?_
  refine hE.pur (X.assign hE rfl) fun a hE => ?_
  refine hE.pur (X.assign hE rfl) fun a hE => ?_
  refine C.nil (tn ?_)
  refine C.seq ?_
  refine C.region ?_
  refine hE.pur (X.move hE rfl) fun a hE => ?_
  refine hE.pur (X.move hE rfl) fun a hE => ?_
  refine hE.pur (X.move hE rfl) fun a hE => ?_
  refine hE.call (X.callF hE ent22 rfl rfl) H fun e w H => ?_
  obtain ⟨r, r_1, rfl, H⟩ := H
  refine ⟨_, rfl, fun a hE => ?_⟩
  refine hE.pur (X.move hE rfl) fun a hE => ?_
  refine hE.pur (X.extract hE rfl rfl) fun a hE => ?_
  refine hE.pur (X.extract hE rfl rfl) fun a hE => ?_
  refine hE.pur (X.assign hE rfl) fun a hE => ?_
  refine hE.pur (X.assign hE rfl) fun a hE => ?_
  refine C.nil (tn ?_)
  refine C.seq ?_
  refine C.seq ?_
  refine C.region ?_
  refine hE.pur (X.move hE rfl) fun a hE => ?_
  refine hE.pur (X.neI hE rfl rfl) fun a hE => ?_
  refine C.nil (tn ?_)
  refine C.condP hE rfl (fun hc => ?_) (fun hc => ?_)
  · replace H := H.1 hc
    refine C.seq ?_
    refine C.region ?_
    refine hE.pur (X.move hE rfl) fun a hE => ?_
    refine hE.pur (X.assign hE rfl) fun a hE => ?_
    refine hE.pur (X.assign hE rfl) fun a hE => ?_
    refine hE.pur (X.assign hE rfl) fun a hE => ?_
    refine C.nil (tn ?_)
    exact C.ret (tr (C.ret3 hE rfl rfl rfl rfl ⟨_, _, _, rfl, H⟩))
  · replace H := H.2 hc
    refine C.skip (tn ?_)
    refine C.seq ?_
    refine C.region ?_
    refine hE.pur (X.move hE rfl) fun a hE => ?_
    refine hE.pur (X.eqS hE rfl rfl) fun a hE => ?_
    refine hE.pur (X.move hE rfl) fun a hE => ?_
    refine WL.join (ds := []) (N := 108) (σ := Bool) (fun s => [(38, (.bool s)), (0, (Sl.v x0)), (1, (.string x1)), (2, (.int .i64 x2)), (3, (.string x3)), (4, (Sl.v x4)), (13, (.int .i64 r))]) (fun s w => V_ladingref12_Append_r1 x0 x1 x2 x3 x4 Ret r s w) 4 ?_ (fun hr1 => ?_)
    · intro x38 w a H hE
      try dsimp only at H hE
      unfold V_ladingref12_Append_r1 at H
      refine hE.pur (X.move hE rfl) fun a hE => ?_
      refine WL.join (ds := []) (N := 108) (σ := Bool) (fun s => [(43, (.bool s)), (0, (Sl.v x0)), (1, (.string x1)), (2, (.int .i64 x2)), (3, (.string x3)), (4, (Sl.v x4)), (13, (.int .i64 r))]) (fun s w => V_ladingref12_Append_r2 x0 x1 x2 x3 x4 Ret r s w) 4 ?_ (fun hr2 => ?_)
      · intro x43 w a H hE
        try dsimp only at H hE
        unfold V_ladingref12_Append_r2 at H
        refine hE.pur (X.assign hE rfl) fun a hE => ?_
        refine C.nil (tn ?_)
        refine C.seq ?_
        refine C.seq ?_
        refine C.region ?_
        refine hE.pur (X.move hE rfl) fun a hE => ?_
        refine hE.purR (fun w => X.lenL hE Try.underlying23 rfl) fun a hE => ?_
        refine hE.pur (X.move hE rfl) fun a hE => ?_
        refine C.nil (tn ?_)
        refine C.block ?_
        obtain ⟨I_l3, μ_l3, h0, hb⟩ := H
        refine C.loop (ds := []) (N := 108) (σ := Bool × Int) (fun s => [(15, (.bool s.1)), (46, (.int .i64 s.2)), (0, (Sl.v x0)), (1, (.string x1)), (2, (.int .i64 x2)), (3, (.string x3)), (4, (Sl.v x4)), (13, (.int .i64 r)), (44, (Sl.v x4)), (45, (.int .i64 (x4.len : Int)))]) (fun s w => I_l3 s.1 s.2 w) (fun s w => μ_l3 s.1 s.2 w) (x43, 0) h0 (hE.weak ⟨rfl, rfl, rfl, rfl, rfl, rfl, rfl, rfl, rfl, rfl, trivial⟩) ?_
        rintro ⟨x15, x46⟩ w a hI hE
        try dsimp only at hI hE
        obtain ⟨Kl3, hK_l3⟩ : ∃ K : Bool → Int → World → Prop, K = (fun x15' x46' w' => I_l3 x15' x46' w' ∧ μ_l3 x15' x46' w' < μ_l3 x15 x46 w) := ⟨_, rfl⟩
        have H : V_ladingref12_Append_l3b x0 x1 x2 x3 x4 Ret r x15 x46 w Kl3 := by rw [hK_l3]; exact hb x15 x46 w hI
        clear hb h0 hI
        unfold V_ladingref12_Append_l3b at H
        refine C.seq ?_
        refine C.region ?_
        refine hE.pur (X.ltI hE rfl rfl) fun a hE => ?_
        refine C.nil (tn ?_)
        refine C.seq ?_
        refine C.condP hE rfl (fun hc => ?_) (fun hc => ?_)
        · replace H := H.1 hc
          refine C.skip (tn ?_)
          refine C.seq ?_
          refine C.block ?_
          refine C.seq ?_
          refine C.region ?_
          refine hE.op (X.indexAddr hE rfl rfl) H fun x48 w a H hE => ?_
          refine hE.op (X.load hE rfl) H fun x49 w a H hE => ?_
          refine hE.pur (X.assign hE rfl) fun a hE => ?_
          refine C.nil (tn ?_)
          refine C.region ?_
          refine hE.pur (X.move hE rfl) fun a hE => ?_
          refine hE.pur (X.move hE rfl) fun a hE => ?_
          refine WL.join (ds := []) (N := 108) (σ := Bool) (fun s => [(55, (.bool s)), (0, (Sl.v x0)), (1, (.string x1)), (2, (.int .i64 x2)), (3, (.string x3)), (4, (Sl.v x4)), (13, (.int .i64 r)), (44, (Sl.v x4)), (45, (.int .i64 (x4.len : Int))), (46, (.int .i64 x46))]) (fun s w => V_ladingref12_Append_r4 x46 Kl3 s w) 4 ?_ (fun hr4 => ?_)
          · intro x55 w a H hE
            try dsimp only at H hE
            unfold V_ladingref12_Append_r4 at H
            refine hE.pur (X.assign hE rfl) fun a hE => ?_
            refine C.nil (bn (tn ?_))
            refine C.region ?_
            refine hE.pur (X.add hE rfl rfl) fun a hE => ?_
            refine hE.pur (X.move hE rfl) fun a hE => ?_
            rw [hK_l3] at H
            exact C.nil (tn ⟨(x55, (IntKind.wrap .i64 (x46 + 1))), hE.weak ⟨rfl, rfl, rfl, rfl, rfl, rfl, rfl, rfl, rfl, rfl, trivial⟩, H⟩)
          · rcases Bool.eq_false_or_eq_true (x15) with hbr4 | hbr4
            · replace H := H.1 hbr4
              replace hE := hE.bool (b := true) (t := 51) rfl (hbr4)
              refine hE.off (by rfl) (by rfl) (by decide) (fun a hE => ?_)
              refine hE.off (by rfl) (by rfl) (by decide) (fun a hE => ?_)
              refine hE.off (by rfl) (by rfl) (by decide) (fun a hE => ?_)
              refine hE.pur (X.pickT hE rfl rfl) fun a hE => ?_
              exact hr4 true _ _ H (hE.weak ⟨rfl, rfl, rfl, rfl, rfl, rfl, rfl, rfl, rfl, rfl, trivial⟩)
            · replace H := H.2 hbr4
              replace hE := hE.bool (b := false) (t := 51) rfl (hbr4)
              refine hE.on (by rfl) (by rfl) ?_
              refine hE.pur (X.move hE rfl) fun a hE => ?_
              refine hE.on (by rfl) (by rfl) ?_
              refine hE.purR (fun w => X.lenS hE Try.underlying9 rfl) fun a hE => ?_
              refine hE.on (by rfl) (by rfl) ?_
              refine hE.pur (X.gtI hE rfl rfl) fun a hE => ?_
              refine hE.pur (X.pickF hE rfl rfl) fun a hE => ?_
              exact hr4 (decide (1024 < (x49.size : Int))) _ _ H (hE.weak ⟨rfl, rfl, rfl, rfl, rfl, rfl, rfl, rfl, rfl, rfl, trivial⟩)
        · replace H := H.2 hc
          refine C.exit (te (te (be (tn ?_))))
          refine C.seq ?_
          refine C.region ?_
          refine hE.pur (X.move hE rfl) fun a hE => ?_
          refine hE.pur (X.move hE rfl) fun a hE => ?_
          refine hE.call (X.callF hE ent30 rfl rfl) H fun e w H => ?_
          obtain ⟨r_2, rfl, H⟩ := H
          refine ⟨_, rfl, fun a hE => ?_⟩
          refine hE.purR (fun w => X.lenL hE Try.underlying22 rfl) fun a hE => ?_
          refine hE.pur (X.assign hE rfl) fun a hE => ?_
          refine C.nil (tn ?_)
          refine C.seq ?_
          refine C.region ?_
          refine hE.op (X.buildSlice hE rfl) H fun x61 w a H hE => ?_
          refine hE.pur (X.move hE rfl) fun a hE => ?_
          refine hE.op (X.append hE rfl) H fun x63 w a H hE => ?_
          refine hE.pur (X.assign hE rfl) fun a hE => ?_
          refine C.nil (tn ?_)
          refine C.seq ?_
          refine C.block ?_
          refine C.seq ?_
          refine C.region ?_
          refine hE.pur (X.move hE rfl) fun a hE => ?_
          refine hE.pur (X.assign hE rfl) fun a hE => ?_
          refine C.nil (tn ?_)
          refine C.condB hE rfl (fun hc => ?_) (fun hc => ?_)
          · replace H := H.1 hc
            refine C.seq ?_
            refine C.region ?_
            refine hE.pur (X.assign hE rfl) fun a hE => ?_
            refine hE.pur (X.assign hE rfl) fun a hE => ?_
            refine hE.pur (X.assign hE rfl) fun a hE => ?_
            refine C.nil (tn ?_)
            exact C.ret (br (tr (C.ret3 hE rfl rfl rfl rfl ⟨_, _, _, rfl, H⟩)))
          · replace H := H.2 hc
            refine C.seq ?_
            refine C.region ?_
            refine hE.pur (X.move hE rfl) fun a hE => ?_
            refine hE.pur (X.gtI hE rfl rfl) fun a hE => ?_
            refine hE.pur (X.assign hE rfl) fun a hE => ?_
            refine C.nil (tn ?_)
            refine C.condP hE rfl (fun hc => ?_) (fun hc => ?_)
            · replace H := H.1 hc
              refine C.seq ?_
              refine C.region ?_
              refine hE.pur (X.move hE rfl) fun a hE => ?_
              refine hE.pur (X.move hE rfl) fun a hE => ?_
              refine hE.pur (X.assign hE rfl) fun a hE => ?_
              refine hE.pur (X.assign hE rfl) fun a hE => ?_
              refine hE.pur (X.assign hE rfl) fun a hE => ?_
              refine C.nil (tn ?_)
              exact C.ret (br (tr (C.ret3 hE rfl rfl rfl rfl ⟨_, _, _, rfl, H⟩)))
            · replace H := H.2 hc
              refine C.seq ?_
              refine C.region ?_
              refine hE.pur (X.move hE rfl) fun a hE => ?_
              refine hE.pur (X.geI hE rfl rfl) fun a hE => ?_
              refine hE.pur (X.move hE rfl) fun a hE => ?_
              refine WL.join (ds := []) (N := 108) (σ := Bool) (fun s => [(78, (.bool s)), (0, (Sl.v x0)), (1, (.string x1)), (3, (.string x3)), (4, (Sl.v x4)), (18, (.int .i64 (r_2.len : Int))), (19, (Sl.v x63))]) (fun s w => V_ladingref12_Append_r5 x0 x1 x3 x4 Ret r_2 x63 s w) 4 ?_ (fun hr5 => ?_)
              · intro x78 w a H hE
                try dsimp only at H hE
                unfold V_ladingref12_Append_r5 at H
                refine hE.pur (X.assign hE rfl) fun a hE => ?_
                refine C.nil (tn ?_)
                refine C.condB hE rfl (fun hc => ?_) (fun hc => ?_)
                · replace H := H.1 hc
                  refine C.seq ?_
                  refine C.region ?_
                  refine hE.pur (X.assign hE rfl) fun a hE => ?_
                  refine hE.pur (X.assign hE rfl) fun a hE => ?_
                  refine hE.pur (X.assign hE rfl) fun a hE => ?_
                  refine C.nil (tn ?_)
                  exact C.ret (br (tr (C.ret3 hE rfl rfl rfl rfl ⟨_, _, _, rfl, H⟩)))
                · replace H := H.2 hc
                  refine C.seq ?_
                  refine C.region ?_
                  refine hE.pur (X.move hE rfl) fun a hE => ?_
                  refine hE.purR (fun w => X.lenL hE Try.underlying23 rfl) fun a hE => ?_
                  refine hE.pur (X.move hE rfl) fun a hE => ?_
                  refine hE.purR (fun w => X.lenL hE Try.underlying22 rfl) fun a hE => ?_
                  refine hE.pur (X.sub hE rfl rfl) fun a hE => ?_
                  refine hE.pur (X.gtI hE rfl rfl) fun a hE => ?_
                  refine hE.pur (X.assign hE rfl) fun a hE => ?_
                  refine C.nil (tn ?_)
                  refine C.condP hE rfl (fun hc => ?_) (fun hc => ?_)
                  · replace H := H.1 hc
                    refine C.seq ?_
                    refine C.region ?_
                    refine hE.pur (X.assign hE rfl) fun a hE => ?_
                    refine hE.pur (X.assign hE rfl) fun a hE => ?_
                    refine hE.pur (X.assign hE rfl) fun a hE => ?_
                    refine C.nil (tn ?_)
                    exact C.ret (br (tr (C.ret3 hE rfl rfl rfl rfl ⟨_, _, _, rfl, H⟩)))
                  · replace H := H.2 hc
                    refine C.skip (bn (tn ?_))
                    refine C.seq ?_
                    refine C.seq ?_
                    refine C.region ?_
                    refine hE.pur (X.move hE rfl) fun a hE => ?_
                    refine hE.purR (fun w => X.lenL hE Try.underlying23 rfl) fun a hE => ?_
                    refine hE.pur (X.move hE rfl) fun a hE => ?_
                    refine C.nil (tn ?_)
                    refine C.block ?_
                    obtain ⟨I_l6, μ_l6, h0, hb⟩ := H
                    refine C.loop (ds := []) (N := 108) (σ := ByteArray × Int × Sl × Int) (fun s => [(3, (.string s.1)), (18, (.int .i64 s.2.1)), (19, (Sl.v s.2.2.1)), (88, (.int .i64 s.2.2.2)), (1, (.string x1)), (86, (Sl.v x4)), (87, (.int .i64 (x4.len : Int)))]) (fun s w => I_l6 s.1 s.2.1 s.2.2.1 s.2.2.2 w) (fun s w => μ_l6 s.1 s.2.1 s.2.2.1 s.2.2.2 w) (x3, (r_2.len : Int), x63, 0) h0 (hE.weak ⟨rfl, rfl, rfl, rfl, rfl, rfl, rfl, trivial⟩) ?_
                    rintro ⟨x3_1, x18, x19, x88⟩ w a hI hE
                    try dsimp only at hI hE
                    obtain ⟨Kl6, hK_l6⟩ : ∃ K : ByteArray → Int → Sl → Int → World → Prop, K = (fun x3_1' x18' x19' x88' w' => I_l6 x3_1' x18' x19' x88' w' ∧ μ_l6 x3_1' x18' x19' x88' w' < μ_l6 x3_1 x18 x19 x88 w) := ⟨_, rfl⟩
                    have H : V_ladingref12_Append_l6b x1 x4 Ret x3_1 x18 x19 x88 w Kl6 := by rw [hK_l6]; exact hb x3_1 x18 x19 x88 w hI
                    clear hb h0 hI
                    unfold V_ladingref12_Append_l6b at H
                    refine C.seq ?_
                    refine C.region ?_
                    refine hE.pur (X.ltI hE rfl rfl) fun a hE => ?_
                    refine C.nil (tn ?_)
                    refine C.seq ?_
                    refine C.condP hE rfl (fun hc => ?_) (fun hc => ?_)
                    · replace H := H.1 hc
                      refine C.skip (tn ?_)
                      refine C.seq ?_
                      refine C.block ?_
                      refine C.seq ?_
                      refine C.region ?_
                      refine hE.op (X.indexAddr hE rfl rfl) H fun x90 w a H hE => ?_
                      refine hE.op (X.load hE rfl) H fun x91 w a H hE => ?_
                      refine hE.pur (X.assign hE rfl) fun a hE => ?_
                      refine C.nil (tn ?_)
                      refine C.seq ?_
                      refine C.region ?_
                      refine hE.pur (X.move hE rfl) fun a hE => ?_
                      refine hE.pur (X.add hE rfl rfl) fun a hE => ?_
                      refine hE.pur (X.assign hE rfl) fun a hE => ?_
                      refine C.nil (tn ?_)
                      refine C.seq ?_
                      refine C.region ?_
                      refine hE.pur (X.move hE rfl) fun a hE => ?_
                      refine hE.pur (X.move hE rfl) fun a hE => ?_
                      refine hE.pur (X.move hE rfl) fun a hE => ?_
                      refine hE.pur (X.move hE rfl) fun a hE => ?_
                      refine hE.purR (fun w => X.lenL hE Try.underlying22 rfl) fun a hE => ?_
                      refine hE.pur (X.add hE rfl rfl) fun a hE => ?_
                      refine hE.pur (X.move hE rfl) fun a hE => ?_
                      refine hE.pur (X.move hE rfl) fun a hE => ?_
                      refine hE.op (X.build hE rfl) H fun x102 w a H hE => ?_
                      refine hE.op (X.buildSlice hE rfl) H fun x103 w a H hE => ?_
                      refine hE.op (X.append hE rfl) H fun x104 w a H hE => ?_
                      refine hE.pur (X.assign hE rfl) fun a hE => ?_
                      refine C.nil (tn ?_)
                      refine C.region ?_
                      refine hE.pur (X.assign hE rfl) fun a hE => ?_
                      refine C.nil (bn (tn ?_))
                      refine C.region ?_
                      refine hE.pur (X.add hE rfl rfl) fun a hE => ?_
                      refine hE.pur (X.move hE rfl) fun a hE => ?_
                      rw [hK_l6] at H
                      exact C.nil (tn ⟨((ByteArray.mk #[]), (IntKind.wrap .i64 (x18 + 1)), x104, (IntKind.wrap .i64 (x88 + 1))), hE.weak ⟨rfl, rfl, rfl, rfl, rfl, rfl, rfl, trivial⟩, H⟩)
                    · replace H := H.2 hc
                      refine C.exit (te (te (be (tn ?_))))
                      refine C.seq ?_
                      refine C.region ?_
                      refine hE.pur (X.move hE rfl) fun a hE => ?_
                      refine hE.pur (X.move hE rfl) fun a hE => ?_
                      refine hE.pur (X.assign hE rfl) fun a hE => ?_
                      refine hE.pur (X.assign hE rfl) fun a hE => ?_
                      refine hE.pur (X.assign hE rfl) fun a hE => ?_
                      refine C.nil (tn ?_)
                      exact C.ret (C.ret3 hE rfl rfl rfl rfl ⟨_, _, _, rfl, H⟩)
              · rcases Classical.em ((0 ≤ x2)) with hbr5 | hbr5
                · replace H := H.1 hbr5
                  replace hE := hE.bool (b := true) (t := 74) rfl (decide_eq_true hbr5)
                  refine hE.on (by rfl) (by rfl) ?_
                  refine hE.pur (X.move hE rfl) fun a hE => ?_
                  refine hE.on (by rfl) (by rfl) ?_
                  refine hE.pur (X.move hE rfl) fun a hE => ?_
                  refine hE.on (by rfl) (by rfl) ?_
                  refine hE.pur (X.neI hE rfl rfl) fun a hE => ?_
                  refine hE.pur (X.pickT hE rfl rfl) fun a hE => ?_
                  exact hr5 (decide (x2 ≠ (r_2.len : Int))) _ _ H (hE.weak ⟨rfl, rfl, rfl, rfl, rfl, rfl, rfl, trivial⟩)
                · replace H := H.2 hbr5
                  replace hE := hE.bool (b := false) (t := 74) rfl (decide_eq_false hbr5)
                  refine hE.off (by rfl) (by rfl) (by decide) (fun a hE => ?_)
                  refine hE.off (by rfl) (by rfl) (by decide) (fun a hE => ?_)
                  refine hE.off (by rfl) (by rfl) (by decide) (fun a hE => ?_)
                  refine hE.pur (X.pickF hE rfl rfl) fun a hE => ?_
                  exact hr5 false _ _ H (hE.weak ⟨rfl, rfl, rfl, rfl, rfl, rfl, rfl, trivial⟩)
      · rcases Bool.eq_false_or_eq_true (x38) with hbr2 | hbr2
        · replace H := H.1 hbr2
          replace hE := hE.bool (b := true) (t := 39) rfl (hbr2)
          refine hE.off (by rfl) (by rfl) (by decide) (fun a hE => ?_)
          refine hE.off (by rfl) (by rfl) (by decide) (fun a hE => ?_)
          refine hE.off (by rfl) (by rfl) (by decide) (fun a hE => ?_)
          refine hE.pur (X.pickT hE rfl rfl) fun a hE => ?_
          exact hr2 true _ _ H (hE.weak ⟨rfl, rfl, rfl, rfl, rfl, rfl, rfl, trivial⟩)
        · replace H := H.2 hbr2
          replace hE := hE.bool (b := false) (t := 39) rfl (hbr2)
          refine hE.on (by rfl) (by rfl) ?_
          refine hE.pur (X.move hE rfl) fun a hE => ?_
          refine hE.on (by rfl) (by rfl) ?_
          refine hE.purR (fun w => X.lenS hE Try.underlying9 rfl) fun a hE => ?_
          refine hE.on (by rfl) (by rfl) ?_
          refine hE.pur (X.gtI hE rfl rfl) fun a hE => ?_
          refine hE.pur (X.pickF hE rfl rfl) fun a hE => ?_
          exact hr2 (decide (1024 < (x3.size : Int))) _ _ H (hE.weak ⟨rfl, rfl, rfl, rfl, rfl, rfl, rfl, trivial⟩)
    · rcases Classical.em ((x1 = (ByteArray.mk #[]))) with hbr1 | hbr1
      · replace H := H.1 hbr1
        replace hE := hE.bool (b := true) (t := 34) rfl (decide_eq_true hbr1)
        refine hE.off (by rfl) (by rfl) (by decide) (fun a hE => ?_)
        refine hE.off (by rfl) (by rfl) (by decide) (fun a hE => ?_)
        refine hE.off (by rfl) (by rfl) (by decide) (fun a hE => ?_)
        refine hE.pur (X.pickT hE rfl rfl) fun a hE => ?_
        exact hr1 true _ _ H (hE.weak ⟨rfl, rfl, rfl, rfl, rfl, rfl, rfl, trivial⟩)
      · replace H := H.2 hbr1
        replace hE := hE.bool (b := false) (t := 34) rfl (decide_eq_false hbr1)
        refine hE.on (by rfl) (by rfl) ?_
        refine hE.pur (X.move hE rfl) fun a hE => ?_
        refine hE.on (by rfl) (by rfl) ?_
        refine hE.purR (fun w => X.lenS hE Try.underlying9 rfl) fun a hE => ?_
        refine hE.on (by rfl) (by rfl) ?_
        refine hE.pur (X.gtI hE rfl rfl) fun a hE => ?_
        refine hE.pur (X.pickF hE rfl rfl) fun a hE => ?_
        exact hr1 (decide (1024 < (x1.size : Int))) _ _ H (hE.weak ⟨rfl, rfl, rfl, rfl, rfl, rfl, rfl, trivial⟩)
/-! ### lading ladingref12.Same: function 13 -/
def V_ladingref12_Same_l1b (x0 : Sl) (x1 : Sl) (Ret : Bool → World → Prop) (x13 : Int) (w : World) (Kl1 : Int → World → Prop) : Prop :=
  ((x13 < (x0.len : Int)) → (opB Try.prog Value.pointer (Instr.indexAt 22 (Sl.v x0) (.int .i64 x13)) w (fun x18 => opB Try.prog T_api_Event.v (Instr.loadAt 32 (.pointer x18)) w (fun x19 => opB Try.prog Value.pointer (Instr.indexAt 22 (Sl.v x1) (.int .i64 x13)) w (fun x22 => opB Try.prog T_api_Event.v (Instr.loadAt 32 (.pointer x22)) w (fun x23 => opB Try.prog Value.bool (do eqGuard .neq 32 (.tmp 19) (.tmp 23) (T_api_Event.v x19) (T_api_Event.v x23); binOp .neq 32 (T_api_Event.v x19) (T_api_Event.v x23)) w (fun x24 => nextB w (fun w => (x24 = true → (Ret false w)) ∧ (x24 = false → (Kl1 (IntKind.wrap .i64 (x13 + 1)) w)))))))))) ∧ (¬ (x13 < (x0.len : Int)) → (Ret true w))
def V_ladingref12_Same (x0 : Sl) (x1 : Sl) (w : World) (Ret : Bool → World → Prop) : Prop :=
  (((x0.len : Int) ≠ (x1.len : Int)) → (Ret false w)) ∧ (¬ ((x0.len : Int) ≠ (x1.len : Int)) → (∃ (I : Int → World → Prop) (μ : Int → World → Nat), I 0 w ∧ ∀ (x13 : Int) w, I x13 w → V_ladingref12_Same_l1b x0 x1 Ret x13 w (fun x13' w' => I x13' w' ∧ μ x13' w' < μ x13 w)))
set_option maxRecDepth 100000 in
theorem L1_ladingref12_Same (x0 : Sl) (x1 : Sl) (w : World) (Ret : Bool → World → Prop) (H : V_ladingref12_Same x0 x1 w Ret) : Cl Try.prog 13 [(Sl.v x0), (Sl.v x1)].toArray w (fun e w' => ∃ (r0 : Bool), e = .returned (.bool r0) ∧ Ret r0 w') := by
  unfold V_ladingref12_Same at H
  refine C.enter 26 (zipE 0 [(Sl.v x0), (Sl.v x1)]) Try.func13 rfl rfl (by rfl) rfl ?_
  intro a hE
  replace hE : Sat [] 26 [(0, (Sl.v x0)), (1, (Sl.v x1))] a := hE
  refine C.seq ?_
  refine C.region ?_
  refine hE.pur (X.assign hE rfl) fun a hE => ?_
  refine C.nil (tn ?_)
  refine C.seq ?_
  refine C.seq ?_
  refine C.region ?_
  refine hE.pur (X.move hE rfl) fun a hE => ?_
  refine hE.purR (fun w => X.lenL hE Try.underlying22 rfl) fun a hE => ?_
  refine hE.pur (X.move hE rfl) fun a hE => ?_
  refine hE.purR (fun w => X.lenL hE Try.underlying22 rfl) fun a hE => ?_
  refine hE.pur (X.neI hE rfl rfl) fun a hE => ?_
  refine C.nil (tn ?_)
  refine C.condP hE rfl (fun hc => ?_) (fun hc => ?_)
  · replace H := H.1 hc
    refine C.seq ?_
    refine C.region ?_
    refine hE.pur (X.assign hE rfl) fun a hE => ?_
    refine C.nil (tn ?_)
    exact C.ret (tr (C.ret1 hE rfl rfl ⟨_, rfl, H⟩))
  · replace H := H.2 hc
    refine C.skip (tn ?_)
    refine C.seq ?_
    refine C.seq ?_
    refine C.region ?_
    refine hE.pur (X.move hE rfl) fun a hE => ?_
    refine hE.purR (fun w => X.lenL hE Try.underlying22 rfl) fun a hE => ?_
    refine hE.pur (X.move hE rfl) fun a hE => ?_
    refine C.nil (tn ?_)
    refine C.block ?_
    obtain ⟨I_l1, μ_l1, h0, hb⟩ := H
    refine C.loop (ds := []) (N := 26) (σ := Int) (fun s => [(13, (.int .i64 s)), (0, (Sl.v x0)), (1, (Sl.v x1)), (12, (.int .i64 (x0.len : Int)))]) (fun s w => I_l1 s w) (fun s w => μ_l1 s w) 0 h0 (hE.weak ⟨rfl, rfl, rfl, rfl, trivial⟩) ?_
    intro x13 w a hI hE
    try dsimp only at hI hE
    obtain ⟨Kl1, hK_l1⟩ : ∃ K : Int → World → Prop, K = (fun x13' w' => I_l1 x13' w' ∧ μ_l1 x13' w' < μ_l1 x13 w) := ⟨_, rfl⟩
    have H : V_ladingref12_Same_l1b x0 x1 Ret x13 w Kl1 := by rw [hK_l1]; exact hb x13 w hI
    clear hb h0 hI
    unfold V_ladingref12_Same_l1b at H
    refine C.seq ?_
    refine C.region ?_
    refine hE.pur (X.ltI hE rfl rfl) fun a hE => ?_
    refine C.nil (tn ?_)
    refine C.seq ?_
    refine C.condP hE rfl (fun hc => ?_) (fun hc => ?_)
    · replace H := H.1 hc
      refine C.skip (tn ?_)
      refine C.seq ?_
      refine C.block ?_
      refine C.seq ?_
      refine C.region ?_
      refine hE.pur (X.move hE rfl) fun a hE => ?_
      refine hE.pur (X.assign hE rfl) fun a hE => ?_
      refine C.nil (tn ?_)
      refine C.seq ?_
      refine C.draw (by kernel_rfl) (by kernel_rfl) ?_
      refine hE.qpur (X.move hE rfl) fun a hE => ?_
      refine hE.qpur (X.move hE rfl) fun a hE => ?_
      refine hE.qop (X.indexAddr hE rfl rfl) H fun x18 a H hE => ?_
      refine hE.qop (X.load hE rfl) H fun x19 a H hE => ?_
      refine hE.qpur (X.move hE rfl) fun a hE => ?_
      refine hE.qpur (X.move hE rfl) fun a hE => ?_
      refine hE.qop (X.indexAddr hE rfl rfl) H fun x22 a H hE => ?_
      refine hE.qop (X.load hE rfl) H fun x23 a H hE => ?_
      refine hE.qop (X.bin hE rfl rfl) H fun x24 a H hE => ?_
      refine C.qnil (fun w hB => ?_)
      replace H := H w hB
      refine (tn ?_)
      refine C.condB hE rfl (fun hc => ?_) (fun hc => ?_)
      · replace H := H.1 hc
        refine C.seq ?_
        refine C.region ?_
        refine hE.pur (X.assign hE rfl) fun a hE => ?_
        refine C.nil (tn ?_)
        exact C.ret (br (tr (tr (br (tr (C.ret1 hE rfl rfl ⟨_, rfl, H⟩))))))
      · replace H := H.2 hc
        refine C.skip (bn (tn ?_))
        refine C.region ?_
        refine hE.pur (X.add hE rfl rfl) fun a hE => ?_
        refine hE.pur (X.move hE rfl) fun a hE => ?_
        rw [hK_l1] at H
        exact C.nil (tn ⟨(IntKind.wrap .i64 (x13 + 1)), hE.weak ⟨rfl, rfl, rfl, rfl, trivial⟩, H⟩)
    · replace H := H.2 hc
      refine C.exit (te (te (be (tn ?_))))
      refine C.seq ?_
      refine C.region ?_
      refine hE.pur (X.assign hE rfl) fun a hE => ?_
      refine C.nil (tn ?_)
      exact C.ret (C.ret1 hE rfl rfl ⟨_, rfl, H⟩)
/-! ### lading ladingref12.Check: function 15 -/
def V_ladingref12_Check_r8 (Ret : Int → World → Prop) (x12 : Int) (Kl1 : Int → World → Prop) (x66 : Bool) (w : World) : Prop :=
  (x66 = true → (Ret 2 w)) ∧ (x66 = false → (Kl1 (IntKind.wrap .i64 (x12 + 1)) w))
def V_ladingref12_Check_r7 (x0 : Sl) (Ret : Int → World → Prop) (x12 : Int) (Kl1 : Int → World → Prop) (x61 : Bool) (w : World) : Prop :=
  (x61 = true → (V_ladingref12_Check_r8 Ret x12 Kl1 true w)) ∧ (x61 = false → (Cl Try.prog 32 [(Sl.v x0), (.int .i64 x12)].toArray w (fun e w => ∃ (r : Bool), e = .returned (.bool r) ∧ (V_ladingref12_Check_r8 Ret x12 Kl1 r w))))
def V_ladingref12_Check_r6 (x0 : Sl) (Ret : Int → World → Prop) (x12 : Int) (Kl1 : Int → World → Prop) (x4 : Option Addr) (x55 : Bool) (w : World) : Prop :=
  (x55 = true → (V_ladingref12_Check_r7 x0 Ret x12 Kl1 true w)) ∧ (x55 = false → (opE Try.prog Value.pointer (Instr.fieldAt 32 (.pointer x4) 4) w (fun x57 w => opE Try.prog Value.string (Instr.loadAt 9 (.pointer x57)) w (fun x58 w => V_ladingref12_Check_r7 x0 Ret x12 Kl1 (decide (1024 < (x58.size : Int))) w))))
def V_ladingref12_Check_r5 (x0 : Sl) (Ret : Int → World → Prop) (x12 : Int) (Kl1 : Int → World → Prop) (x4 : Option Addr) (x49 : Bool) (w : World) : Prop :=
  (x49 = true → (V_ladingref12_Check_r6 x0 Ret x12 Kl1 x4 true w)) ∧ (x49 = false → (opE Try.prog Value.pointer (Instr.fieldAt 32 (.pointer x4) 3) w (fun x51 w => opE Try.prog Value.string (Instr.loadAt 9 (.pointer x51)) w (fun x52 w => V_ladingref12_Check_r6 x0 Ret x12 Kl1 x4 (decide (1024 < (x52.size : Int))) w))))
def V_ladingref12_Check_r4 (x0 : Sl) (Ret : Int → World → Prop) (x12 : Int) (Kl1 : Int → World → Prop) (x4 : Option Addr) (x43 : Bool) (w : World) : Prop :=
  (x43 = true → (V_ladingref12_Check_r5 x0 Ret x12 Kl1 x4 true w)) ∧ (x43 = false → (opE Try.prog Value.pointer (Instr.fieldAt 32 (.pointer x4) 0) w (fun x45 w => opE Try.prog Value.string (Instr.loadAt 9 (.pointer x45)) w (fun x46 w => V_ladingref12_Check_r5 x0 Ret x12 Kl1 x4 (decide (1024 < (x46.size : Int))) w))))
def V_ladingref12_Check_r3 (x0 : Sl) (Ret : Int → World → Prop) (x12 : Int) (Kl1 : Int → World → Prop) (x4 : Option Addr) (x38 : Bool) (w : World) : Prop :=
  (x38 = true → (V_ladingref12_Check_r4 x0 Ret x12 Kl1 x4 true w)) ∧ (x38 = false → (opE Try.prog Value.pointer (Instr.fieldAt 32 (.pointer x4) 0) w (fun x40 w => opE Try.prog Value.string (Instr.loadAt 9 (.pointer x40)) w (fun x41 w => V_ladingref12_Check_r4 x0 Ret x12 Kl1 x4 (decide (x41 = (ByteArray.mk #[]))) w))))
def V_ladingref12_Check_j2 (x0 : Sl) (Ret : Int → World → Prop) (x12 : Int) (Kl1 : Int → World → Prop) (x4 : Option Addr) (x5 : Int) (w : World) : Prop :=
  opE Try.prog Value.pointer (Instr.fieldAt 32 (.pointer x4) 2) w (fun x28 w => opE Try.prog (Value.int .i64) (Instr.loadAt 3 (.pointer x28)) w (fun x29 w => ((x29 ≠ (IntKind.wrap .i64 (x12 + 1))) → (V_ladingref12_Check_r3 x0 Ret x12 Kl1 x4 true w)) ∧ (¬ (x29 ≠ (IntKind.wrap .i64 (x12 + 1))) → (opE Try.prog Value.pointer (Instr.fieldAt 32 (.pointer x4) 1) w (fun x34 w => opE Try.prog (Value.int .i64) (Instr.loadAt 3 (.pointer x34)) w (fun x35 w => V_ladingref12_Check_r3 x0 Ret x12 Kl1 x4 (decide (x35 ≠ x5)) w))))))
def V_ladingref12_Check_l1b (x0 : Sl) (Ret : Int → World → Prop) (x12 : Int) (w : World) (Kl1 : Int → World → Prop) : Prop :=
  ((x12 < (x0.len : Int)) → (opE Try.prog Value.pointer (Instr.indexAt 22 (Sl.v x0) (.int .i64 x12)) w (fun x15 w => opE Try.prog T_api_Event.v (Instr.loadAt 32 (.pointer x15)) w (fun x16 w => opE Try.prog Value.pointer (Instr.alloc 32 true (.tuple #[])) w (fun x4 w => opU Try.prog (Instr.storeAt 32 (.pointer x4) (T_api_Event.v x16)) w (fun w => Cl Try.prog 31 [(Sl.v x0), (.int .i64 x12)].toArray w (fun e w => ∃ (r_1 : Int), e = .returned (.int .i64 r_1) ∧ (((0 ≤ r_1) → (opE Try.prog Value.pointer (Instr.indexAt 22 (Sl.v x0) (.int .i64 r_1)) w (fun x24 w => opE Try.prog Value.pointer (Instr.fieldAt 32 (.pointer x24) 1) w (fun x25 w => opE Try.prog (Value.int .i64) (Instr.loadAt 3 (.pointer x25)) w (fun x26 w => V_ladingref12_Check_j2 x0 Ret x12 Kl1 x4 (IntKind.wrap .i64 (x26 + 1)) w))))) ∧ (¬ (0 ≤ r_1) → (V_ladingref12_Check_j2 x0 Ret x12 Kl1 x4 1 w)))))))))) ∧ (¬ (x12 < (x0.len : Int)) → (Ret 0 w))
def V_ladingref12_Check (x0 : Sl) (w : World) (Ret : Int → World → Prop) : Prop :=
  ((16384 < (x0.len : Int)) → (Ret 2 w)) ∧ (¬ (16384 < (x0.len : Int)) → (∃ (I : Int → World → Prop) (μ : Int → World → Nat), I 0 w ∧ ∀ (x12 : Int) w, I x12 w → V_ladingref12_Check_l1b x0 Ret x12 w (fun x12' w' => I x12' w' ∧ μ x12' w' < μ x12 w)))
set_option maxRecDepth 100000 in
theorem L1_ladingref12_Check (x0 : Sl) (w : World) (Ret : Int → World → Prop) (H : V_ladingref12_Check x0 w Ret) : Cl Try.prog 15 [(Sl.v x0)].toArray w (fun e w' => ∃ (r0 : Int), e = .returned (.int .i64 r0) ∧ Ret r0 w') := by
  unfold V_ladingref12_Check at H
  refine C.enter 68 (zipE 0 [(Sl.v x0)]) Try.func15 rfl rfl (by rfl) rfl ?_
  intro a hE
  replace hE : Sat [] 68 [(0, (Sl.v x0))] a := hE
  refine C.seq ?_
  refine C.region ?_
  refine hE.pur (X.assign hE rfl) fun a hE => ?_
  refine C.nil (tn ?_)
  refine C.seq ?_
  refine C.seq ?_
  refine C.region ?_
  refine hE.pur (X.move hE rfl) fun a hE => ?_
  refine hE.purR (fun w => X.lenL hE Try.underlying22 rfl) fun a hE => ?_
  refine hE.pur (X.gtI hE rfl rfl) fun a hE => ?_
  refine C.nil (tn ?_)
  refine C.condP hE rfl (fun hc => ?_) (fun hc => ?_)
  · replace H := H.1 hc
    refine C.seq ?_
    refine C.region ?_
    refine hE.pur (X.assign hE rfl) fun a hE => ?_
    refine C.nil (tn ?_)
    exact C.ret (tr (C.ret1 hE rfl rfl ⟨_, rfl, H⟩))
  · replace H := H.2 hc
    refine C.skip (tn ?_)
    refine C.seq ?_
    refine C.seq ?_
    refine C.region ?_
    refine hE.pur (X.move hE rfl) fun a hE => ?_
    refine hE.purR (fun w => X.lenL hE Try.underlying22 rfl) fun a hE => ?_
    refine hE.pur (X.move hE rfl) fun a hE => ?_
    refine C.nil (tn ?_)
    refine C.block ?_
    obtain ⟨I_l1, μ_l1, h0, hb⟩ := H
    refine C.loop (ds := []) (N := 68) (σ := Int) (fun s => [(12, (.int .i64 s)), (0, (Sl.v x0)), (10, (Sl.v x0)), (11, (.int .i64 (x0.len : Int)))]) (fun s w => I_l1 s w) (fun s w => μ_l1 s w) 0 h0 (hE.weak ⟨rfl, rfl, rfl, rfl, trivial⟩) ?_
    intro x12 w a hI hE
    try dsimp only at hI hE
    obtain ⟨Kl1, hK_l1⟩ : ∃ K : Int → World → Prop, K = (fun x12' w' => I_l1 x12' w' ∧ μ_l1 x12' w' < μ_l1 x12 w) := ⟨_, rfl⟩
    have H : V_ladingref12_Check_l1b x0 Ret x12 w Kl1 := by rw [hK_l1]; exact hb x12 w hI
    clear hb h0 hI
    unfold V_ladingref12_Check_l1b at H
    refine C.seq ?_
    refine C.region ?_
    refine hE.pur (X.ltI hE rfl rfl) fun a hE => ?_
    refine C.nil (tn ?_)
    refine C.seq ?_
    refine C.condP hE rfl (fun hc => ?_) (fun hc => ?_)
    · replace H := H.1 hc
      refine C.skip (tn ?_)
      refine C.seq ?_
      refine C.block ?_
      refine C.seq ?_
      refine C.region ?_
      refine hE.pur (X.move hE rfl) fun a hE => ?_
      refine hE.op (X.indexAddr hE rfl rfl) H fun x15 w a H hE => ?_
      refine hE.op (X.load hE rfl) H fun x16 w a H hE => ?_
      refine hE.op (X.alloc) H fun x4 w a H hE => ?_
      refine hE.pur (X.assign hE rfl) fun a hE => ?_
      refine hE.opu (X.store hE rfl rfl) H fun w a H hE => ?_
      refine C.nil (tn ?_)
      refine C.seq ?_
      refine C.region ?_
      refine hE.pur (X.assign hE rfl) fun a hE => ?_
      refine C.nil (tn ?_)
      refine C.join (ds := []) (N := 68) (σ := Int) (fun s => [(5, (.int .i64 s)), (0, (Sl.v x0)), (3, (.int .i64 x12)), (4, (.pointer x4)), (10, (Sl.v x0)), (11, (.int .i64 (x0.len : Int))), (12, (.int .i64 x12))]) (fun s w => V_ladingref12_Check_j2 x0 Ret x12 Kl1 x4 s w) ?_ (fun hj2 => ?_)
      · intro x5 w a H hE
        try dsimp only at H hE
        unfold V_ladingref12_Check_j2 at H
        refine C.seq ?_
        refine C.region ?_
        refine hE.op (X.fieldAddr hE rfl) H fun x28 w a H hE => ?_
        refine hE.op (X.load hE rfl) H fun x29 w a H hE => ?_
        refine hE.pur (X.move hE rfl) fun a hE => ?_
        refine hE.pur (X.add hE rfl rfl) fun a hE => ?_
        refine hE.pur (X.neI hE rfl rfl) fun a hE => ?_
        refine hE.pur (X.move hE rfl) fun a hE => ?_
        refine WL.join (ds := []) (N := 68) (σ := Bool) (fun s => [(38, (.bool s)), (0, (Sl.v x0)), (3, (.int .i64 x12)), (4, (.pointer x4)), (10, (Sl.v x0)), (11, (.int .i64 (x0.len : Int))), (12, (.int .i64 x12))]) (fun s w => V_ladingref12_Check_r3 x0 Ret x12 Kl1 x4 s w) 5 ?_ (fun hr3 => ?_)
        · intro x38 w a H hE
          try dsimp only at H hE
          unfold V_ladingref12_Check_r3 at H
          refine hE.pur (X.move hE rfl) fun a hE => ?_
          refine WL.join (ds := []) (N := 68) (σ := Bool) (fun s => [(43, (.bool s)), (0, (Sl.v x0)), (3, (.int .i64 x12)), (4, (.pointer x4)), (10, (Sl.v x0)), (11, (.int .i64 (x0.len : Int))), (12, (.int .i64 x12))]) (fun s w => V_ladingref12_Check_r4 x0 Ret x12 Kl1 x4 s w) 4 ?_ (fun hr4 => ?_)
          · intro x43 w a H hE
            try dsimp only at H hE
            unfold V_ladingref12_Check_r4 at H
            refine hE.pur (X.move hE rfl) fun a hE => ?_
            refine WL.join (ds := []) (N := 68) (σ := Bool) (fun s => [(49, (.bool s)), (0, (Sl.v x0)), (3, (.int .i64 x12)), (4, (.pointer x4)), (10, (Sl.v x0)), (11, (.int .i64 (x0.len : Int))), (12, (.int .i64 x12))]) (fun s w => V_ladingref12_Check_r5 x0 Ret x12 Kl1 x4 s w) 5 ?_ (fun hr5 => ?_)
            · intro x49 w a H hE
              try dsimp only at H hE
              unfold V_ladingref12_Check_r5 at H
              refine hE.pur (X.move hE rfl) fun a hE => ?_
              refine WL.join (ds := []) (N := 68) (σ := Bool) (fun s => [(55, (.bool s)), (0, (Sl.v x0)), (3, (.int .i64 x12)), (4, (.pointer x4)), (10, (Sl.v x0)), (11, (.int .i64 (x0.len : Int))), (12, (.int .i64 x12))]) (fun s w => V_ladingref12_Check_r6 x0 Ret x12 Kl1 x4 s w) 5 ?_ (fun hr6 => ?_)
              · intro x55 w a H hE
                try dsimp only at H hE
                unfold V_ladingref12_Check_r6 at H
                refine hE.pur (X.move hE rfl) fun a hE => ?_
                refine WL.join (ds := []) (N := 68) (σ := Bool) (fun s => [(61, (.bool s)), (0, (Sl.v x0)), (3, (.int .i64 x12)), (10, (Sl.v x0)), (11, (.int .i64 (x0.len : Int))), (12, (.int .i64 x12))]) (fun s w => V_ladingref12_Check_r7 x0 Ret x12 Kl1 s w) 5 ?_ (fun hr7 => ?_)
                · intro x61 w a H hE
                  try dsimp only at H hE
                  unfold V_ladingref12_Check_r7 at H
                  refine hE.pur (X.move hE rfl) fun a hE => ?_
                  refine WL.join (ds := []) (N := 68) (σ := Bool) (fun s => [(66, (.bool s)), (0, (Sl.v x0)), (10, (Sl.v x0)), (11, (.int .i64 (x0.len : Int))), (12, (.int .i64 x12))]) (fun s w => V_ladingref12_Check_r8 Ret x12 Kl1 s w) 4 ?_ (fun hr8 => ?_)
                  · intro x66 w a H hE
                    try dsimp only at H hE
                    unfold V_ladingref12_Check_r8 at H
                    refine C.nil (tn ?_)
                    refine C.condB hE rfl (fun hc => ?_) (fun hc => ?_)
                    · replace H := H.1 hc
                      refine C.seq ?_
                      refine C.region ?_
                      refine hE.pur (X.assign hE rfl) fun a hE => ?_
                      refine C.nil (tn ?_)
                      exact C.ret (br (tr (tr (br (tr (C.ret1 hE rfl rfl ⟨_, rfl, H⟩))))))
                    · replace H := H.2 hc
                      refine C.skip (bn (tn ?_))
                      refine C.region ?_
                      refine hE.pur (X.add hE rfl rfl) fun a hE => ?_
                      refine hE.pur (X.move hE rfl) fun a hE => ?_
                      rw [hK_l1] at H
                      exact C.nil (tn ⟨(IntKind.wrap .i64 (x12 + 1)), hE.weak ⟨rfl, rfl, rfl, rfl, trivial⟩, H⟩)
                  · rcases Bool.eq_false_or_eq_true (x61) with hbr8 | hbr8
                    · replace H := H.1 hbr8
                      replace hE := hE.bool (b := true) (t := 62) rfl (hbr8)
                      refine hE.off (by rfl) (by rfl) (by decide) (fun a hE => ?_)
                      refine hE.off (by rfl) (by rfl) (by decide) (fun a hE => ?_)
                      refine hE.off (by rfl) (by rfl) (by decide) (fun a hE => ?_)
                      refine hE.pur (X.pickT hE rfl rfl) fun a hE => ?_
                      exact hr8 true _ _ H (hE.weak ⟨rfl, rfl, rfl, rfl, rfl, trivial⟩)
                    · replace H := H.2 hbr8
                      replace hE := hE.bool (b := false) (t := 62) rfl (hbr8)
                      refine hE.on (by rfl) (by rfl) ?_
                      refine hE.pur (X.move hE rfl) fun a hE => ?_
                      refine hE.on (by rfl) (by rfl) ?_
                      refine hE.pur (X.move hE rfl) fun a hE => ?_
                      refine hE.on (by rfl) (by rfl) ?_
                      refine hE.call (X.callF hE ent32 rfl rfl) H fun e w H => ?_
                      obtain ⟨r, rfl, H⟩ := H
                      refine ⟨_, rfl, fun a hE => ?_⟩
                      refine hE.pur (X.pickF hE rfl rfl) fun a hE => ?_
                      exact hr8 r _ _ H (hE.weak ⟨rfl, rfl, rfl, rfl, rfl, trivial⟩)
                · rcases Bool.eq_false_or_eq_true (x55) with hbr7 | hbr7
                  · replace H := H.1 hbr7
                    replace hE := hE.bool (b := true) (t := 56) rfl (hbr7)
                    refine hE.off (by rfl) (by rfl) (by decide) (fun a hE => ?_)
                    refine hE.off (by rfl) (by rfl) (by decide) (fun a hE => ?_)
                    refine hE.off (by rfl) (by rfl) (by decide) (fun a hE => ?_)
                    refine hE.off (by rfl) (by rfl) (by decide) (fun a hE => ?_)
                    refine hE.pur (X.pickT hE rfl rfl) fun a hE => ?_
                    exact hr7 true _ _ H (hE.weak ⟨rfl, rfl, rfl, rfl, rfl, rfl, trivial⟩)
                  · replace H := H.2 hbr7
                    replace hE := hE.bool (b := false) (t := 56) rfl (hbr7)
                    refine hE.on (by rfl) (by rfl) ?_
                    refine hE.op (X.fieldAddr hE rfl) H fun x57 w a H hE => ?_
                    refine hE.on (by rfl) (by rfl) ?_
                    refine hE.op (X.load hE rfl) H fun x58 w a H hE => ?_
                    refine hE.on (by rfl) (by rfl) ?_
                    refine hE.purR (fun w => X.lenS hE Try.underlying9 rfl) fun a hE => ?_
                    refine hE.on (by rfl) (by rfl) ?_
                    refine hE.pur (X.gtI hE rfl rfl) fun a hE => ?_
                    refine hE.pur (X.pickF hE rfl rfl) fun a hE => ?_
                    exact hr7 (decide (1024 < (x58.size : Int))) _ _ H (hE.weak ⟨rfl, rfl, rfl, rfl, rfl, rfl, trivial⟩)
              · rcases Bool.eq_false_or_eq_true (x49) with hbr6 | hbr6
                · replace H := H.1 hbr6
                  replace hE := hE.bool (b := true) (t := 50) rfl (hbr6)
                  refine hE.off (by rfl) (by rfl) (by decide) (fun a hE => ?_)
                  refine hE.off (by rfl) (by rfl) (by decide) (fun a hE => ?_)
                  refine hE.off (by rfl) (by rfl) (by decide) (fun a hE => ?_)
                  refine hE.off (by rfl) (by rfl) (by decide) (fun a hE => ?_)
                  refine hE.pur (X.pickT hE rfl rfl) fun a hE => ?_
                  exact hr6 true _ _ H (hE.weak ⟨rfl, rfl, rfl, rfl, rfl, rfl, rfl, trivial⟩)
                · replace H := H.2 hbr6
                  replace hE := hE.bool (b := false) (t := 50) rfl (hbr6)
                  refine hE.on (by rfl) (by rfl) ?_
                  refine hE.op (X.fieldAddr hE rfl) H fun x51 w a H hE => ?_
                  refine hE.on (by rfl) (by rfl) ?_
                  refine hE.op (X.load hE rfl) H fun x52 w a H hE => ?_
                  refine hE.on (by rfl) (by rfl) ?_
                  refine hE.purR (fun w => X.lenS hE Try.underlying9 rfl) fun a hE => ?_
                  refine hE.on (by rfl) (by rfl) ?_
                  refine hE.pur (X.gtI hE rfl rfl) fun a hE => ?_
                  refine hE.pur (X.pickF hE rfl rfl) fun a hE => ?_
                  exact hr6 (decide (1024 < (x52.size : Int))) _ _ H (hE.weak ⟨rfl, rfl, rfl, rfl, rfl, rfl, rfl, trivial⟩)
            · rcases Bool.eq_false_or_eq_true (x43) with hbr5 | hbr5
              · replace H := H.1 hbr5
                replace hE := hE.bool (b := true) (t := 44) rfl (hbr5)
                refine hE.off (by rfl) (by rfl) (by decide) (fun a hE => ?_)
                refine hE.off (by rfl) (by rfl) (by decide) (fun a hE => ?_)
                refine hE.off (by rfl) (by rfl) (by decide) (fun a hE => ?_)
                refine hE.off (by rfl) (by rfl) (by decide) (fun a hE => ?_)
                refine hE.pur (X.pickT hE rfl rfl) fun a hE => ?_
                exact hr5 true _ _ H (hE.weak ⟨rfl, rfl, rfl, rfl, rfl, rfl, rfl, trivial⟩)
              · replace H := H.2 hbr5
                replace hE := hE.bool (b := false) (t := 44) rfl (hbr5)
                refine hE.on (by rfl) (by rfl) ?_
                refine hE.op (X.fieldAddr hE rfl) H fun x45 w a H hE => ?_
                refine hE.on (by rfl) (by rfl) ?_
                refine hE.op (X.load hE rfl) H fun x46 w a H hE => ?_
                refine hE.on (by rfl) (by rfl) ?_
                refine hE.purR (fun w => X.lenS hE Try.underlying9 rfl) fun a hE => ?_
                refine hE.on (by rfl) (by rfl) ?_
                refine hE.pur (X.gtI hE rfl rfl) fun a hE => ?_
                refine hE.pur (X.pickF hE rfl rfl) fun a hE => ?_
                exact hr5 (decide (1024 < (x46.size : Int))) _ _ H (hE.weak ⟨rfl, rfl, rfl, rfl, rfl, rfl, rfl, trivial⟩)
          · rcases Bool.eq_false_or_eq_true (x38) with hbr4 | hbr4
            · replace H := H.1 hbr4
              replace hE := hE.bool (b := true) (t := 39) rfl (hbr4)
              refine hE.off (by rfl) (by rfl) (by decide) (fun a hE => ?_)
              refine hE.off (by rfl) (by rfl) (by decide) (fun a hE => ?_)
              refine hE.off (by rfl) (by rfl) (by decide) (fun a hE => ?_)
              refine hE.pur (X.pickT hE rfl rfl) fun a hE => ?_
              exact hr4 true _ _ H (hE.weak ⟨rfl, rfl, rfl, rfl, rfl, rfl, rfl, trivial⟩)
            · replace H := H.2 hbr4
              replace hE := hE.bool (b := false) (t := 39) rfl (hbr4)
              refine hE.on (by rfl) (by rfl) ?_
              refine hE.op (X.fieldAddr hE rfl) H fun x40 w a H hE => ?_
              refine hE.on (by rfl) (by rfl) ?_
              refine hE.op (X.load hE rfl) H fun x41 w a H hE => ?_
              refine hE.on (by rfl) (by rfl) ?_
              refine hE.pur (X.eqS hE rfl rfl) fun a hE => ?_
              refine hE.pur (X.pickF hE rfl rfl) fun a hE => ?_
              exact hr4 (decide (x41 = (ByteArray.mk #[]))) _ _ H (hE.weak ⟨rfl, rfl, rfl, rfl, rfl, rfl, rfl, trivial⟩)
        · rcases Classical.em ((x29 ≠ (IntKind.wrap .i64 (x12 + 1)))) with hbr3 | hbr3
          · replace H := H.1 hbr3
            replace hE := hE.bool (b := true) (t := 33) rfl (decide_eq_true hbr3)
            refine hE.off (by rfl) (by rfl) (by decide) (fun a hE => ?_)
            refine hE.off (by rfl) (by rfl) (by decide) (fun a hE => ?_)
            refine hE.off (by rfl) (by rfl) (by decide) (fun a hE => ?_)
            refine hE.off (by rfl) (by rfl) (by decide) (fun a hE => ?_)
            refine hE.pur (X.pickT hE rfl rfl) fun a hE => ?_
            exact hr3 true _ _ H (hE.weak ⟨rfl, rfl, rfl, rfl, rfl, rfl, rfl, trivial⟩)
          · replace H := H.2 hbr3
            replace hE := hE.bool (b := false) (t := 33) rfl (decide_eq_false hbr3)
            refine hE.on (by rfl) (by rfl) ?_
            refine hE.op (X.fieldAddr hE rfl) H fun x34 w a H hE => ?_
            refine hE.on (by rfl) (by rfl) ?_
            refine hE.op (X.load hE rfl) H fun x35 w a H hE => ?_
            refine hE.on (by rfl) (by rfl) ?_
            refine hE.pur (X.move hE rfl) fun a hE => ?_
            refine hE.on (by rfl) (by rfl) ?_
            refine hE.pur (X.neI hE rfl rfl) fun a hE => ?_
            refine hE.pur (X.pickF hE rfl rfl) fun a hE => ?_
            exact hr3 (decide (x35 ≠ x5)) _ _ H (hE.weak ⟨rfl, rfl, rfl, rfl, rfl, rfl, rfl, trivial⟩)
      · refine C.seq ?_
        refine C.region ?_
        refine hE.pur (X.move hE rfl) fun a hE => ?_
        refine hE.pur (X.move hE rfl) fun a hE => ?_
        refine hE.call (X.callF hE ent31 rfl rfl) H fun e w H => ?_
        obtain ⟨r_1, rfl, H⟩ := H
        refine ⟨_, rfl, fun a hE => ?_⟩
        refine hE.pur (X.assign hE rfl) fun a hE => ?_
        refine C.nil (tn ?_)
        refine C.seq ?_
        refine C.region ?_
        refine hE.pur (X.move hE rfl) fun a hE => ?_
        refine hE.pur (X.geI hE rfl rfl) fun a hE => ?_
        refine C.nil (tn ?_)
        refine C.condP hE rfl (fun hc => ?_) (fun hc => ?_)
        · replace H := H.1 hc
          refine C.region ?_
          refine hE.pur (X.move hE rfl) fun a hE => ?_
          refine hE.pur (X.move hE rfl) fun a hE => ?_
          refine hE.op (X.indexAddr hE rfl rfl) H fun x24 w a H hE => ?_
          refine hE.op (X.fieldAddr hE rfl) H fun x25 w a H hE => ?_
          refine hE.op (X.load hE rfl) H fun x26 w a H hE => ?_
          refine hE.pur (X.add hE rfl rfl) fun a hE => ?_
          refine hE.pur (X.assign hE rfl) fun a hE => ?_
          exact C.nil (tn (hj2 (IntKind.wrap .i64 (x26 + 1)) _ _ H (hE.weak ⟨rfl, rfl, rfl, rfl, rfl, rfl, rfl, trivial⟩)))
        · replace H := H.2 hc
          exact C.skip (tn (hj2 1 _ _ H (hE.weak ⟨rfl, rfl, rfl, rfl, rfl, rfl, rfl, trivial⟩)))
    · replace H := H.2 hc
      refine C.exit (te (te (be (tn ?_))))
      refine C.seq ?_
      refine C.region ?_
      refine hE.pur (X.assign hE rfl) fun a hE => ?_
      refine C.nil (tn ?_)
      exact C.ret (C.ret1 hE rfl rfl ⟨_, rfl, H⟩)
/-! ### lading ladingref12.Read: function 19 -/
def V_ladingref12_Read_j1 (x0 : Sl) (x1 : ByteArray) (x2 : Int) (x3 : Int) (Ret : Sl → Int → World → Prop) (x10 : Int) (w : World) : Prop :=
  ((x10 ≠ 0) → (Ret Sl.none x10 w)) ∧ (¬ (x10 ≠ 0) → (Cl Try.prog 30 [(Sl.v x0), (.string x1)].toArray w (fun e w => ∃ (r_1 : Sl), e = .returned (Sl.v r_1) ∧ (opE Try.prog Sl.v (Instr.sliceAt 22 (Sl.v r_1) (some (.int .i64 (if (r_1.len : Int) < (IntKind.wrap .i64 (x2 - 1)) then (r_1.len : Int) else (IntKind.wrap .i64 (x2 - 1))))) none none) w (fun x36 w => Cl Try.prog 36 [(Sl.v x36), (.int .i64 x3)].toArray w (fun e w => ∃ (r_2 : Sl), e = .returned (Sl.v r_2) ∧ (Ret r_2 0 w)))))))
def V_ladingref12_Read_r2 (x0 : Sl) (x1 : ByteArray) (x2 : Int) (x3 : Int) (Ret : Sl → Int → World → Prop) (r : Int) (x23 : Bool) (w : World) : Prop :=
  (x23 = true → (V_ladingref12_Read_j1 x0 x1 x2 x3 Ret 2 w)) ∧ (x23 = false → (V_ladingref12_Read_j1 x0 x1 x2 x3 Ret r w))
def V_ladingref12_Read_r3 (x0 : Sl) (x1 : ByteArray) (x2 : Int) (x3 : Int) (Ret : Sl → Int → World → Prop) (r : Int) (x22 : Bool) (w : World) : Prop :=
  V_ladingref12_Read_r2 x0 x1 x2 x3 Ret r x22 w
def V_ladingref12_Read (x0 : Sl) (x1 : ByteArray) (x2 : Int) (x3 : Int) (w : World) (Ret : Sl → Int → World → Prop) : Prop :=
  Cl Try.prog 15 [(Sl.v x0)].toArray w (fun e w => ∃ (r : Int), e = .returned (.int .i64 r) ∧ (((r = 0) → (((x2 < 1) → (V_ladingref12_Read_r3 x0 x1 x2 x3 Ret r true w)) ∧ (¬ (x2 < 1) → (V_ladingref12_Read_r3 x0 x1 x2 x3 Ret r (decide (x3 < 0)) w)))) ∧ (¬ (r = 0) → (V_ladingref12_Read_r2 x0 x1 x2 x3 Ret r false w))))
set_option maxRecDepth 100000 in
theorem L1_ladingref12_Read (x0 : Sl) (x1 : ByteArray) (x2 : Int) (x3 : Int) (w : World) (Ret : Sl → Int → World → Prop) (H : V_ladingref12_Read x0 x1 x2 x3 w Ret) : Cl Try.prog 19 [(Sl.v x0), (.string x1), (.int .i64 x2), (.int .i64 x3)].toArray w (fun e w' => ∃ (r0 : Sl) (r1 : Int), e = .returned (.tuple [(Sl.v r0), (.int .i64 r1)].toArray) ∧ Ret r0 r1 w') := by
  unfold V_ladingref12_Read at H
  refine C.enter 39 (zipE 0 [(Sl.v x0), (.string x1), (.int .i64 x2), (.int .i64 x3)]) Try.func19 rfl rfl (by rfl) rfl ?_
  intro a hE
  replace hE : Sat [] 39 [(0, (Sl.v x0)), (1, (.string x1)), (2, (.int .i64 x2)), (3, (.int .i64 x3))] a := hE
  refine C.seq ?_
  refine C.region ?_
  refine hE.pur (X.assign hE rfl) fun a hE => ?_
  refine hE.pur (X.assign hE rfl) fun a hE => ?_
  refine C.nil (tn ?_)
  refine C.seq ?_
  refine C.region ?_
  refine hE.pur (X.move hE rfl) fun a hE => ?_
  refine hE.call (X.callF hE ent15 rfl rfl) H fun e w H => ?_
  obtain ⟨r, rfl, H⟩ := H
  refine ⟨_, rfl, fun a hE => ?_⟩
  refine hE.pur (X.assign hE rfl) fun a hE => ?_
  refine C.nil (tn ?_)
  refine C.join (ds := []) (N := 39) (σ := Int) (fun s => [(10, (.int .i64 s)), (0, (Sl.v x0)), (1, (.string x1)), (2, (.int .i64 x2)), (3, (.int .i64 x3))]) (fun s w => V_ladingref12_Read_j1 x0 x1 x2 x3 Ret s w) ?_ (fun hj1 => ?_)
  · intro x10 w a H hE
    try dsimp only at H hE
    unfold V_ladingref12_Read_j1 at H
    refine C.seq ?_
    refine C.seq ?_
    refine C.region ?_
    refine hE.pur (X.move hE rfl) fun a hE => ?_
    refine hE.pur (X.neI hE rfl rfl) fun a hE => ?_
    refine C.nil (tn ?_)
    refine C.condP hE rfl (fun hc => ?_) (fun hc => ?_)
    · replace H := H.1 hc
      refine C.seq ?_
      refine C.region ?_
      refine hE.pur (X.move hE rfl) fun a hE => ?_
      refine hE.pur (X.assign hE rfl) fun a hE => ?_
      refine hE.pur (X.assign hE rfl) fun a hE => ?_
      refine C.nil (tn ?_)
      exact C.ret (tr (C.ret2 hE rfl rfl rfl ⟨_, _, rfl, H⟩))
    · replace H := H.2 hc
      refine C.skip (tn ?_)
      refine C.seq ?_
      refine C.region ?_
      refine hE.pur (X.move hE rfl) fun a hE => ?_
      refine hE.pur (X.move hE rfl) fun a hE => ?_
      refine hE.call (X.callF hE ent30 rfl rfl) H fun e w H => ?_
      obtain ⟨r_1, rfl, H⟩ := H
      refine ⟨_, rfl, fun a hE => ?_⟩
      refine hE.pur (X.assign hE rfl) fun a hE => ?_
      refine C.nil (tn ?_)
      refine C.seq ?_
      refine C.region ?_
      refine hE.pur (X.move hE rfl) fun a hE => ?_
      refine hE.pur (X.move hE rfl) fun a hE => ?_
      refine hE.pur (X.sub hE rfl rfl) fun a hE => ?_
      refine hE.pur (X.move hE rfl) fun a hE => ?_
      refine hE.purR (fun w => X.lenL hE Try.underlying22 rfl) fun a hE => ?_
      refine hE.pur (X.minI hE rfl rfl) fun a hE => ?_
      refine hE.op (X.slice hE rfl rfl rfl rfl) H fun x36 w a H hE => ?_
      refine hE.pur (X.move hE rfl) fun a hE => ?_
      refine hE.call (X.callF hE ent36 rfl rfl) H fun e w H => ?_
      obtain ⟨r_2, rfl, H⟩ := H
      refine ⟨_, rfl, fun a hE => ?_⟩
      refine hE.pur (X.assign hE rfl) fun a hE => ?_
      refine hE.pur (X.assign hE rfl) fun a hE => ?_
      refine C.nil (tn ?_)
      exact C.ret (C.ret2 hE rfl rfl rfl ⟨_, _, rfl, H⟩)
  · refine C.seq ?_
    refine C.region ?_
    refine hE.pur (X.move hE rfl) fun a hE => ?_
    refine hE.pur (X.eqI hE rfl rfl) fun a hE => ?_
    refine hE.pur (X.move hE rfl) fun a hE => ?_
    refine WL.join (ds := []) (N := 39) (σ := Bool) (fun s => [(23, (.bool s)), (0, (Sl.v x0)), (1, (.string x1)), (2, (.int .i64 x2)), (3, (.int .i64 x3)), (10, (.int .i64 r))]) (fun s w => V_ladingref12_Read_r2 x0 x1 x2 x3 Ret r s w) 7 ?_ (fun hr2 => ?_)
    · intro x23 w a H hE
      try dsimp only at H hE
      unfold V_ladingref12_Read_r2 at H
      refine C.nil (tn ?_)
      refine C.condB hE rfl (fun hc => ?_) (fun hc => ?_)
      · replace H := H.1 hc
        refine C.region ?_
        refine hE.pur (X.assign hE rfl) fun a hE => ?_
        exact C.nil (tn (hj1 2 _ _ H (hE.weak ⟨rfl, rfl, rfl, rfl, rfl, trivial⟩)))
      · replace H := H.2 hc
        exact C.skip (tn (hj1 r _ _ H (hE.weak ⟨rfl, rfl, rfl, rfl, rfl, trivial⟩)))
    · rcases Classical.em ((r = 0)) with hbr2 | hbr2
      · replace H := H.1 hbr2
        replace hE := hE.bool (b := true) (t := 16) rfl (decide_eq_true hbr2)
        refine hE.on (by rfl) (by rfl) ?_
        refine hE.pur (X.move hE rfl) fun a hE => ?_
        refine hE.on (by rfl) (by rfl) ?_
        refine hE.pur (X.ltI hE rfl rfl) fun a hE => ?_
        refine hE.on (by rfl) (by rfl) ?_
        refine hE.pur (X.move hE rfl) fun a hE => ?_
        refine WL.join (ds := []) (N := 39) (σ := Bool) (fun s => [(22, (.bool s)), (0, (Sl.v x0)), (1, (.string x1)), (2, (.int .i64 x2)), (3, (.int .i64 x3)), (10, (.int .i64 r)), (16, (.bool true))]) (fun s w => V_ladingref12_Read_r3 x0 x1 x2 x3 Ret r s w) 3 ?_ (fun hr3 => ?_)
        · intro x22 w a H hE
          try dsimp only at H hE
          unfold V_ladingref12_Read_r3 at H
          refine hE.pur (X.pickT hE rfl rfl) fun a hE => ?_
          exact hr2 x22 _ _ H (hE.weak ⟨rfl, rfl, rfl, rfl, rfl, rfl, trivial⟩)
        · rcases Classical.em ((x2 < 1)) with hbr3 | hbr3
          · replace H := H.1 hbr3
            replace hE := hE.bool (b := true) (t := 19) rfl (decide_eq_true hbr3)
            refine hE.off (by rfl) (by rfl) (by decide) (fun a hE => ?_)
            refine hE.off (by rfl) (by rfl) (by decide) (fun a hE => ?_)
            refine hE.on (by rfl) (by rfl) ?_
            refine hE.pur (X.pickT hE rfl rfl) fun a hE => ?_
            exact hr3 true _ _ H (hE.weak ⟨rfl, rfl, rfl, rfl, rfl, rfl, rfl, trivial⟩)
          · replace H := H.2 hbr3
            replace hE := hE.bool (b := false) (t := 19) rfl (decide_eq_false hbr3)
            refine hE.on (by rfl) (by rfl) ?_
            refine hE.pur (X.move hE rfl) fun a hE => ?_
            refine hE.on (by rfl) (by rfl) ?_
            refine hE.pur (X.ltI hE rfl rfl) fun a hE => ?_
            refine hE.on (by rfl) (by rfl) ?_
            refine hE.pur (X.pickF hE rfl rfl) fun a hE => ?_
            exact hr3 (decide (x3 < 0)) _ _ H (hE.weak ⟨rfl, rfl, rfl, rfl, rfl, rfl, rfl, trivial⟩)
      · replace H := H.2 hbr2
        replace hE := hE.bool (b := false) (t := 16) rfl (decide_eq_false hbr2)
        refine hE.off (by rfl) (by rfl) (by decide) (fun a hE => ?_)
        refine hE.off (by rfl) (by rfl) (by decide) (fun a hE => ?_)
        refine hE.off (by rfl) (by rfl) (by decide) (fun a hE => ?_)
        refine hE.offU (by rfl) (by rfl) (fun a hE => ?_)
        refine hE.offU (by rfl) (by rfl) (fun a hE => ?_)
        refine hE.off (by rfl) (by rfl) (by decide) (fun a hE => ?_)
        refine hE.pur (X.pickF hE rfl rfl) fun a hE => ?_
        exact hr2 false _ _ H (hE.weak ⟨rfl, rfl, rfl, rfl, rfl, rfl, trivial⟩)
/-! ### lading ladingref12.All: function 21 -/
def V_ladingref12_All_j1 (x0 : Sl) (x1 : Int) (x2 : Int) (Ret : Sl → Int → World → Prop) (x8 : Int) (w : World) : Prop :=
  ((x8 ≠ 0) → (Ret Sl.none x8 w)) ∧ (¬ (x8 ≠ 0) → (opE Try.prog Sl.v (Instr.sliceAt 22 (Sl.v x0) (some (.int .i64 (if (x0.len : Int) < (IntKind.wrap .i64 (x1 - 1)) then (x0.len : Int) else (IntKind.wrap .i64 (x1 - 1))))) none none) w (fun x30 w => Cl Try.prog 36 [(Sl.v x30), (.int .i64 x2)].toArray w (fun e w => ∃ (r_1 : Sl), e = .returned (Sl.v r_1) ∧ (Ret r_1 0 w)))))
def V_ladingref12_All_r2 (x0 : Sl) (x1 : Int) (x2 : Int) (Ret : Sl → Int → World → Prop) (r : Int) (x20 : Bool) (w : World) : Prop :=
  (x20 = true → (V_ladingref12_All_j1 x0 x1 x2 Ret 2 w)) ∧ (x20 = false → (V_ladingref12_All_j1 x0 x1 x2 Ret r w))
def V_ladingref12_All_r3 (x0 : Sl) (x1 : Int) (x2 : Int) (Ret : Sl → Int → World → Prop) (r : Int) (x19 : Bool) (w : World) : Prop :=
  V_ladingref12_All_r2 x0 x1 x2 Ret r x19 w
def V_ladingref12_All (x0 : Sl) (x1 : Int) (x2 : Int) (w : World) (Ret : Sl → Int → World → Prop) : Prop :=
  Cl Try.prog 15 [(Sl.v x0)].toArray w (fun e w => ∃ (r : Int), e = .returned (.int .i64 r) ∧ (((r = 0) → (((x1 < 1) → (V_ladingref12_All_r3 x0 x1 x2 Ret r true w)) ∧ (¬ (x1 < 1) → (V_ladingref12_All_r3 x0 x1 x2 Ret r (decide (x2 < 0)) w)))) ∧ (¬ (r = 0) → (V_ladingref12_All_r2 x0 x1 x2 Ret r false w))))
set_option maxRecDepth 100000 in
theorem L1_ladingref12_All (x0 : Sl) (x1 : Int) (x2 : Int) (w : World) (Ret : Sl → Int → World → Prop) (H : V_ladingref12_All x0 x1 x2 w Ret) : Cl Try.prog 21 [(Sl.v x0), (.int .i64 x1), (.int .i64 x2)].toArray w (fun e w' => ∃ (r0 : Sl) (r1 : Int), e = .returned (.tuple [(Sl.v r0), (.int .i64 r1)].toArray) ∧ Ret r0 r1 w') := by
  unfold V_ladingref12_All at H
  refine C.enter 33 (zipE 0 [(Sl.v x0), (.int .i64 x1), (.int .i64 x2)]) Try.func21 rfl rfl (by rfl) rfl ?_
  intro a hE
  replace hE : Sat [] 33 [(0, (Sl.v x0)), (1, (.int .i64 x1)), (2, (.int .i64 x2))] a := hE
  refine C.seq ?_
  refine C.region ?_
  refine hE.pur (X.assign hE rfl) fun a hE => ?_
  refine hE.pur (X.assign hE rfl) fun a hE => ?_
  refine C.nil (tn ?_)
  refine C.seq ?_
  refine C.region ?_
  refine hE.pur (X.move hE rfl) fun a hE => ?_
  refine hE.call (X.callF hE ent15 rfl rfl) H fun e w H => ?_
  obtain ⟨r, rfl, H⟩ := H
  refine ⟨_, rfl, fun a hE => ?_⟩
  refine hE.pur (X.assign hE rfl) fun a hE => ?_
  refine C.nil (tn ?_)
  refine C.join (ds := []) (N := 33) (σ := Int) (fun s => [(8, (.int .i64 s)), (0, (Sl.v x0)), (1, (.int .i64 x1)), (2, (.int .i64 x2))]) (fun s w => V_ladingref12_All_j1 x0 x1 x2 Ret s w) ?_ (fun hj1 => ?_)
  · intro x8 w a H hE
    try dsimp only at H hE
    unfold V_ladingref12_All_j1 at H
    refine C.seq ?_
    refine C.seq ?_
    refine C.region ?_
    refine hE.pur (X.move hE rfl) fun a hE => ?_
    refine hE.pur (X.neI hE rfl rfl) fun a hE => ?_
    refine C.nil (tn ?_)
    refine C.condP hE rfl (fun hc => ?_) (fun hc => ?_)
    · replace H := H.1 hc
      refine C.seq ?_
      refine C.region ?_
      refine hE.pur (X.move hE rfl) fun a hE => ?_
      refine hE.pur (X.assign hE rfl) fun a hE => ?_
      refine hE.pur (X.assign hE rfl) fun a hE => ?_
      refine C.nil (tn ?_)
      exact C.ret (tr (C.ret2 hE rfl rfl rfl ⟨_, _, rfl, H⟩))
    · replace H := H.2 hc
      refine C.skip (tn ?_)
      refine C.seq ?_
      refine C.region ?_
      refine hE.pur (X.move hE rfl) fun a hE => ?_
      refine hE.pur (X.move hE rfl) fun a hE => ?_
      refine hE.pur (X.sub hE rfl rfl) fun a hE => ?_
      refine hE.pur (X.move hE rfl) fun a hE => ?_
      refine hE.purR (fun w => X.lenL hE Try.underlying22 rfl) fun a hE => ?_
      refine hE.pur (X.minI hE rfl rfl) fun a hE => ?_
      refine hE.op (X.slice hE rfl rfl rfl rfl) H fun x30 w a H hE => ?_
      refine hE.pur (X.move hE rfl) fun a hE => ?_
      refine hE.call (X.callF hE ent36 rfl rfl) H fun e w H => ?_
      obtain ⟨r_1, rfl, H⟩ := H
      refine ⟨_, rfl, fun a hE => ?_⟩
      refine hE.pur (X.assign hE rfl) fun a hE => ?_
      refine hE.pur (X.assign hE rfl) fun a hE => ?_
      refine C.nil (tn ?_)
      exact C.ret (C.ret2 hE rfl rfl rfl ⟨_, _, rfl, H⟩)
  · refine C.seq ?_
    refine C.region ?_
    refine hE.pur (X.move hE rfl) fun a hE => ?_
    refine hE.pur (X.eqI hE rfl rfl) fun a hE => ?_
    refine hE.pur (X.move hE rfl) fun a hE => ?_
    refine WL.join (ds := []) (N := 33) (σ := Bool) (fun s => [(20, (.bool s)), (0, (Sl.v x0)), (1, (.int .i64 x1)), (2, (.int .i64 x2)), (8, (.int .i64 r))]) (fun s w => V_ladingref12_All_r2 x0 x1 x2 Ret r s w) 7 ?_ (fun hr2 => ?_)
    · intro x20 w a H hE
      try dsimp only at H hE
      unfold V_ladingref12_All_r2 at H
      refine C.nil (tn ?_)
      refine C.condB hE rfl (fun hc => ?_) (fun hc => ?_)
      · replace H := H.1 hc
        refine C.region ?_
        refine hE.pur (X.assign hE rfl) fun a hE => ?_
        exact C.nil (tn (hj1 2 _ _ H (hE.weak ⟨rfl, rfl, rfl, rfl, trivial⟩)))
      · replace H := H.2 hc
        exact C.skip (tn (hj1 r _ _ H (hE.weak ⟨rfl, rfl, rfl, rfl, trivial⟩)))
    · rcases Classical.em ((r = 0)) with hbr2 | hbr2
      · replace H := H.1 hbr2
        replace hE := hE.bool (b := true) (t := 13) rfl (decide_eq_true hbr2)
        refine hE.on (by rfl) (by rfl) ?_
        refine hE.pur (X.move hE rfl) fun a hE => ?_
        refine hE.on (by rfl) (by rfl) ?_
        refine hE.pur (X.ltI hE rfl rfl) fun a hE => ?_
        refine hE.on (by rfl) (by rfl) ?_
        refine hE.pur (X.move hE rfl) fun a hE => ?_
        refine WL.join (ds := []) (N := 33) (σ := Bool) (fun s => [(19, (.bool s)), (0, (Sl.v x0)), (1, (.int .i64 x1)), (2, (.int .i64 x2)), (8, (.int .i64 r)), (13, (.bool true))]) (fun s w => V_ladingref12_All_r3 x0 x1 x2 Ret r s w) 3 ?_ (fun hr3 => ?_)
        · intro x19 w a H hE
          try dsimp only at H hE
          unfold V_ladingref12_All_r3 at H
          refine hE.pur (X.pickT hE rfl rfl) fun a hE => ?_
          exact hr2 x19 _ _ H (hE.weak ⟨rfl, rfl, rfl, rfl, rfl, trivial⟩)
        · rcases Classical.em ((x1 < 1)) with hbr3 | hbr3
          · replace H := H.1 hbr3
            replace hE := hE.bool (b := true) (t := 16) rfl (decide_eq_true hbr3)
            refine hE.off (by rfl) (by rfl) (by decide) (fun a hE => ?_)
            refine hE.off (by rfl) (by rfl) (by decide) (fun a hE => ?_)
            refine hE.on (by rfl) (by rfl) ?_
            refine hE.pur (X.pickT hE rfl rfl) fun a hE => ?_
            exact hr3 true _ _ H (hE.weak ⟨rfl, rfl, rfl, rfl, rfl, rfl, trivial⟩)
          · replace H := H.2 hbr3
            replace hE := hE.bool (b := false) (t := 16) rfl (decide_eq_false hbr3)
            refine hE.on (by rfl) (by rfl) ?_
            refine hE.pur (X.move hE rfl) fun a hE => ?_
            refine hE.on (by rfl) (by rfl) ?_
            refine hE.pur (X.ltI hE rfl rfl) fun a hE => ?_
            refine hE.on (by rfl) (by rfl) ?_
            refine hE.pur (X.pickF hE rfl rfl) fun a hE => ?_
            exact hr3 (decide (x2 < 0)) _ _ H (hE.weak ⟨rfl, rfl, rfl, rfl, rfl, rfl, trivial⟩)
      · replace H := H.2 hbr2
        replace hE := hE.bool (b := false) (t := 13) rfl (decide_eq_false hbr2)
        refine hE.off (by rfl) (by rfl) (by decide) (fun a hE => ?_)
        refine hE.off (by rfl) (by rfl) (by decide) (fun a hE => ?_)
        refine hE.off (by rfl) (by rfl) (by decide) (fun a hE => ?_)
        refine hE.offU (by rfl) (by rfl) (fun a hE => ?_)
        refine hE.offU (by rfl) (by rfl) (fun a hE => ?_)
        refine hE.off (by rfl) (by rfl) (by decide) (fun a hE => ?_)
        refine hE.pur (X.pickF hE rfl rfl) fun a hE => ?_
        exact hr2 false _ _ H (hE.weak ⟨rfl, rfl, rfl, rfl, rfl, trivial⟩)
/-! ### lading ladingref12.Marked: function 22 -/
def V_ladingref12_Marked_l2b (x2 : ByteArray) (Ret : Int → Int → World → Prop) (r_1 : Sl) (x24 : Int) (w : World) (Kl2 : Int → World → Prop) : Prop :=
  ((x24 < (r_1.len : Int)) → (opE Try.prog Value.pointer (Instr.indexAt 22 (Sl.v r_1) (.int .i64 x24)) w (fun x26 w => opE Try.prog T_api_Event.v (Instr.loadAt 32 (.pointer x26)) w (fun x27 w => opE Try.prog Value.pointer (Instr.alloc 32 true (.tuple #[])) w (fun x10 w => opU Try.prog (Instr.storeAt 32 (.pointer x10) (T_api_Event.v x27)) w (fun w => opE Try.prog Value.pointer (Instr.fieldAt 32 (.pointer x10) 3) w (fun x28 w => opE Try.prog Value.string (Instr.loadAt 9 (.pointer x28)) w (fun x29 w => ((x29 = x2) → (opE Try.prog Value.pointer (Instr.fieldAt 32 (.pointer x10) 1) w (fun x32 w => opE Try.prog (Value.int .i64) (Instr.loadAt 3 (.pointer x32)) w (fun x33 w => Ret x33 0 w)))) ∧ (¬ (x29 = x2) → (Kl2 (IntKind.wrap .i64 (x24 + 1)) w)))))))))) ∧ (¬ (x24 < (r_1.len : Int)) → (Ret 0 0 w))
def V_ladingref12_Marked_r1 (x0 : Sl) (x1 : ByteArray) (x2 : ByteArray) (Ret : Int → Int → World → Prop) (r : Int) (x18 : Bool) (w : World) : Prop :=
  (x18 = true → (Ret 0 r w)) ∧ (x18 = false → (Cl Try.prog 30 [(Sl.v x0), (.string x1)].toArray w (fun e w => ∃ (r_1 : Sl), e = .returned (Sl.v r_1) ∧ (∃ (I : Int → World → Prop) (μ : Int → World → Nat), I 0 w ∧ ∀ (x24 : Int) w, I x24 w → V_ladingref12_Marked_l2b x2 Ret r_1 x24 w (fun x24' w' => I x24' w' ∧ μ x24' w' < μ x24 w)))))
def V_ladingref12_Marked (x0 : Sl) (x1 : ByteArray) (x2 : ByteArray) (w : World) (Ret : Int → Int → World → Prop) : Prop :=
  Cl Try.prog 15 [(Sl.v x0)].toArray w (fun e w => ∃ (r : Int), e = .returned (.int .i64 r) ∧ (((r ≠ 0) → (V_ladingref12_Marked_r1 x0 x1 x2 Ret r true w)) ∧ (¬ (r ≠ 0) → (V_ladingref12_Marked_r1 x0 x1 x2 Ret r (decide (x2 = (ByteArray.mk #[]))) w))))
set_option maxRecDepth 100000 in
theorem L1_ladingref12_Marked (x0 : Sl) (x1 : ByteArray) (x2 : ByteArray) (w : World) (Ret : Int → Int → World → Prop) (H : V_ladingref12_Marked x0 x1 x2 w Ret) : Cl Try.prog 22 [(Sl.v x0), (.string x1), (.string x2)].toArray w (fun e w' => ∃ (r0 : Int) (r1 : Int), e = .returned (.tuple [(.int .i64 r0), (.int .i64 r1)].toArray) ∧ Ret r0 r1 w') := by
  unfold V_ladingref12_Marked at H
  refine C.enter 35 (zipE 0 [(Sl.v x0), (.string x1), (.string x2)]) Try.func22 rfl rfl (by rfl) rfl ?_
  intro a hE
  replace hE : Sat [] 35 [(0, (Sl.v x0)), (1, (.string x1)), (2, (.string x2))] a := hE
  refine C.seq ?_
  refine C.region ?_
  refine hE.pur (X.assign hE rfl) fun a hE => ?_
  refine hE.pur (X.assign hE rfl) fun a hE => ?_
  refine C.nil (tn ?_)
  refine C.seq ?_
  refine C.region ?_
  refine hE.pur (X.move hE rfl) fun a hE => ?_
  refine hE.call (X.callF hE ent15 rfl rfl) H fun e w H => ?_
  obtain ⟨r, rfl, H⟩ := H
  refine ⟨_, rfl, fun a hE => ?_⟩
  refine hE.pur (X.assign hE rfl) fun a hE => ?_
  refine C.nil (tn ?_)
  refine C.seq ?_
  refine C.seq ?_
  refine C.region ?_
  refine hE.pur (X.move hE rfl) fun a hE => ?_
  refine hE.pur (X.neI hE rfl rfl) fun a hE => ?_
  refine hE.pur (X.move hE rfl) fun a hE => ?_
  refine WL.join (ds := []) (N := 35) (σ := Bool) (fun s => [(18, (.bool s)), (0, (Sl.v x0)), (1, (.string x1)), (2, (.string x2)), (8, (.int .i64 r))]) (fun s w => V_ladingref12_Marked_r1 x0 x1 x2 Ret r s w) 3 ?_ (fun hr1 => ?_)
  · intro x18 w a H hE
    try dsimp only at H hE
    unfold V_ladingref12_Marked_r1 at H
    refine C.nil (tn ?_)
    refine C.condB hE rfl (fun hc => ?_) (fun hc => ?_)
    · replace H := H.1 hc
      refine C.seq ?_
      refine C.region ?_
      refine hE.pur (X.move hE rfl) fun a hE => ?_
      refine hE.pur (X.assign hE rfl) fun a hE => ?_
      refine hE.pur (X.assign hE rfl) fun a hE => ?_
      refine C.nil (tn ?_)
      exact C.ret (tr (C.ret2 hE rfl rfl rfl ⟨_, _, rfl, H⟩))
    · replace H := H.2 hc
      refine C.skip (tn ?_)
      refine C.seq ?_
      refine C.seq ?_
      refine C.region ?_
      refine hE.pur (X.move hE rfl) fun a hE => ?_
      refine hE.pur (X.move hE rfl) fun a hE => ?_
      refine hE.call (X.callF hE ent30 rfl rfl) H fun e w H => ?_
      obtain ⟨r_1, rfl, H⟩ := H
      refine ⟨_, rfl, fun a hE => ?_⟩
      refine hE.purR (fun w => X.lenL hE Try.underlying22 rfl) fun a hE => ?_
      refine hE.pur (X.move hE rfl) fun a hE => ?_
      refine C.nil (tn ?_)
      refine C.block ?_
      obtain ⟨I_l2, μ_l2, h0, hb⟩ := H
      refine C.loop (ds := []) (N := 35) (σ := Int) (fun s => [(24, (.int .i64 s)), (2, (.string x2)), (22, (Sl.v r_1)), (23, (.int .i64 (r_1.len : Int)))]) (fun s w => I_l2 s w) (fun s w => μ_l2 s w) 0 h0 (hE.weak ⟨rfl, rfl, rfl, rfl, trivial⟩) ?_
      intro x24 w a hI hE
      try dsimp only at hI hE
      obtain ⟨Kl2, hK_l2⟩ : ∃ K : Int → World → Prop, K = (fun x24' w' => I_l2 x24' w' ∧ μ_l2 x24' w' < μ_l2 x24 w) := ⟨_, rfl⟩
      have H : V_ladingref12_Marked_l2b x2 Ret r_1 x24 w Kl2 := by rw [hK_l2]; exact hb x24 w hI
      clear hb h0 hI
      unfold V_ladingref12_Marked_l2b at H
      refine C.seq ?_
      refine C.region ?_
      refine hE.pur (X.ltI hE rfl rfl) fun a hE => ?_
      refine C.nil (tn ?_)
      refine C.seq ?_
      refine C.condP hE rfl (fun hc => ?_) (fun hc => ?_)
      · replace H := H.1 hc
        refine C.skip (tn ?_)
        refine C.seq ?_
        refine C.block ?_
        refine C.seq ?_
        refine C.region ?_
        refine hE.op (X.indexAddr hE rfl rfl) H fun x26 w a H hE => ?_
        refine hE.op (X.load hE rfl) H fun x27 w a H hE => ?_
        refine hE.op (X.alloc) H fun x10 w a H hE => ?_
        refine hE.opu (X.store hE rfl rfl) H fun w a H hE => ?_
        refine C.nil (tn ?_)
        refine C.seq ?_
        refine C.region ?_
        refine hE.op (X.fieldAddr hE rfl) H fun x28 w a H hE => ?_
        refine hE.op (X.load hE rfl) H fun x29 w a H hE => ?_
        refine hE.pur (X.move hE rfl) fun a hE => ?_
        refine hE.pur (X.eqS hE rfl rfl) fun a hE => ?_
        refine C.nil (tn ?_)
        refine C.condP hE rfl (fun hc => ?_) (fun hc => ?_)
        · replace H := H.1 hc
          refine C.seq ?_
          refine C.region ?_
          refine hE.op (X.fieldAddr hE rfl) H fun x32 w a H hE => ?_
          refine hE.op (X.load hE rfl) H fun x33 w a H hE => ?_
          refine hE.pur (X.assign hE rfl) fun a hE => ?_
          refine hE.pur (X.assign hE rfl) fun a hE => ?_
          refine C.nil (tn ?_)
          exact C.ret (br (tr (tr (br (tr (C.ret2 hE rfl rfl rfl ⟨_, _, rfl, H⟩))))))
        · replace H := H.2 hc
          refine C.skip (bn (tn ?_))
          refine C.region ?_
          refine hE.pur (X.add hE rfl rfl) fun a hE => ?_
          refine hE.pur (X.move hE rfl) fun a hE => ?_
          rw [hK_l2] at H
          exact C.nil (tn ⟨(IntKind.wrap .i64 (x24 + 1)), hE.weak ⟨rfl, rfl, rfl, rfl, trivial⟩, H⟩)
      · replace H := H.2 hc
        refine C.exit (te (te (be (tn ?_))))
        refine C.seq ?_
        refine C.region ?_
        refine hE.pur (X.assign hE rfl) fun a hE => ?_
        refine hE.pur (X.assign hE rfl) fun a hE => ?_
        refine C.nil (tn ?_)
        exact C.ret (C.ret2 hE rfl rfl rfl ⟨_, _, rfl, H⟩)
  · rcases Classical.em ((r ≠ 0)) with hbr1 | hbr1
    · replace H := H.1 hbr1
      replace hE := hE.bool (b := true) (t := 15) rfl (decide_eq_true hbr1)
      refine hE.off (by rfl) (by rfl) (by decide) (fun a hE => ?_)
      refine hE.off (by rfl) (by rfl) (by decide) (fun a hE => ?_)
      refine hE.pur (X.pickT hE rfl rfl) fun a hE => ?_
      exact hr1 true _ _ H (hE.weak ⟨rfl, rfl, rfl, rfl, rfl, trivial⟩)
    · replace H := H.2 hbr1
      replace hE := hE.bool (b := false) (t := 15) rfl (decide_eq_false hbr1)
      refine hE.on (by rfl) (by rfl) ?_
      refine hE.pur (X.move hE rfl) fun a hE => ?_
      refine hE.on (by rfl) (by rfl) ?_
      refine hE.pur (X.eqS hE rfl rfl) fun a hE => ?_
      refine hE.pur (X.pickF hE rfl rfl) fun a hE => ?_
      exact hr1 (decide (x2 = (ByteArray.mk #[]))) _ _ H (hE.weak ⟨rfl, rfl, rfl, rfl, rfl, trivial⟩)
/-! ### lading ladingref12.Streams: function 23 -/
def V_ladingref12_Streams_j2 (x17 : Int) (Kl1 : Sl → Int → World → Prop) (x5_1 : Sl) (w : World) : Prop :=
  Kl1 x5_1 (IntKind.wrap .i64 (x17 + 1)) w
def V_ladingref12_Streams_r5 (x5 : Sl) (x17 : Int) (Kl1 : Sl → Int → World → Prop) (x7 : Option Addr) (x8 : Int) (x48 : Bool) (w : World) : Prop :=
  nextB w (fun w => (x48 = true → (V_ladingref12_Streams_j2 x17 Kl1 x5 w)) ∧ (x48 = false → (opE Try.prog Sl.v (Instr.buildSlice 23 0 [].toArray) w (fun x49 w => opE Try.prog Sl.v (Instr.sliceAt 23 (Sl.v x5) (some (.int .i64 x8)) none none) w (fun x52 w => opE Try.prog Sl.v (Builtin.append_ #[23, 23] 23 [(Sl.v x49), (Sl.v x52)].toArray) w (fun x53 w => nextB w (fun w => opP Try.prog Sl.v (Instr.sliceAt 23 (Sl.v x5) none (some (.int .i64 x8)) none) (fun x56 => opP Try.prog Value.pointer (Instr.fieldAt 32 (.pointer x7) 0) (fun x57 => opE Try.prog Value.string (Instr.loadAt 9 (.pointer x57)) w (fun x58 w => opE Try.prog Sl.v (Instr.buildSlice 23 1 [(0, (.string x58))].toArray) w (fun x59 w => opE Try.prog Sl.v (Builtin.append_ #[23, 23] 23 [(Sl.v x56), (Sl.v x59)].toArray) w (fun x60 w => opE Try.prog Sl.v (Builtin.append_ #[23, 23] 23 [(Sl.v x60), (Sl.v x53)].toArray) w (fun x62 w => V_ladingref12_Streams_j2 x17 Kl1 x62 w)))))))))))))
def V_ladingref12_Streams_r4 (x5 : Sl) (x17 : Int) (Kl1 : Sl → Int → World → Prop) (x7 : Option Addr) (x8 : Int) (Kl3 : Int → World → Prop) (x33 : Bool) (w : World) : Prop :=
  nextB w (fun w => (x33 = true → (Kl3 (IntKind.wrap .i64 (x8 + 1)) w)) ∧ (x33 = false → (((x8 < (x5.len : Int)) → (opB Try.prog Value.pointer (Instr.indexAt 23 (Sl.v x5) (.int .i64 x8)) w (fun x43 => opB Try.prog Value.string (Instr.loadAt 9 (.pointer x43)) w (fun x44 => opB Try.prog Value.pointer (Instr.fieldAt 32 (.pointer x7) 0) w (fun x45 => opB Try.prog Value.string (Instr.loadAt 9 (.pointer x45)) w (fun x46 => V_ladingref12_Streams_r5 x5 x17 Kl1 x7 x8 (decide (x44 = x46)) w)))))) ∧ (¬ (x8 < (x5.len : Int)) → (V_ladingref12_Streams_r5 x5 x17 Kl1 x7 x8 false w)))))
def V_ladingref12_Streams_l3b (x5 : Sl) (x17 : Int) (Kl1 : Sl → Int → World → Prop) (x7 : Option Addr) (x8 : Int) (w : World) (Kl3 : Int → World → Prop) : Prop :=
  ((x8 < (x5.len : Int)) → (opB Try.prog Value.pointer (Instr.indexAt 23 (Sl.v x5) (.int .i64 x8)) w (fun x28 => opB Try.prog Value.string (Instr.loadAt 9 (.pointer x28)) w (fun x29 => opB Try.prog Value.pointer (Instr.fieldAt 32 (.pointer x7) 0) w (fun x30 => opB Try.prog Value.string (Instr.loadAt 9 (.pointer x30)) w (fun x31 => V_ladingref12_Streams_r4 x5 x17 Kl1 x7 x8 Kl3 (sLt x29 x31) w)))))) ∧ (¬ (x8 < (x5.len : Int)) → (V_ladingref12_Streams_r4 x5 x17 Kl1 x7 x8 Kl3 false w))
def V_ladingref12_Streams_l1b (x0 : Sl) (Ret : Sl → Int → World → Prop) (x5 : Sl) (x17 : Int) (w : World) (Kl1 : Sl → Int → World → Prop) : Prop :=
  ((x17 < (x0.len : Int)) → (opE Try.prog Value.pointer (Instr.indexAt 22 (Sl.v x0) (.int .i64 x17)) w (fun x19 w => opE Try.prog T_api_Event.v (Instr.loadAt 32 (.pointer x19)) w (fun x20 w => opE Try.prog Value.pointer (Instr.alloc 32 true (.tuple #[])) w (fun x7 w => opU Try.prog (Instr.storeAt 32 (.pointer x7) (T_api_Event.v x20)) w (fun w => ∃ (I : Int → World → Prop) (μ : Int → World → Nat), I 0 w ∧ ∀ (x8 : Int) w, I x8 w → V_ladingref12_Streams_l3b x5 x17 Kl1 x7 x8 w (fun x8' w' => I x8' w' ∧ μ x8' w' < μ x8 w))))))) ∧ (¬ (x17 < (x0.len : Int)) → (Ret x5 0 w))
def V_ladingref12_Streams (x0 : Sl) (w : World) (Ret : Sl → Int → World → Prop) : Prop :=
  Cl Try.prog 15 [(Sl.v x0)].toArray w (fun e w => ∃ (r : Int), e = .returned (.int .i64 r) ∧ (((r ≠ 0) → (Ret Sl.none r w)) ∧ (¬ (r ≠ 0) → (∃ (I : Sl → Int → World → Prop) (μ : Sl → Int → World → Nat), I Sl.none 0 w ∧ ∀ (x5 : Sl) (x17 : Int) w, I x5 x17 w → V_ladingref12_Streams_l1b x0 Ret x5 x17 w (fun x5' x17' w' => I x5' x17' w' ∧ μ x5' x17' w' < μ x5 x17 w)))))
set_option maxRecDepth 100000 in
theorem L1_ladingref12_Streams (x0 : Sl) (w : World) (Ret : Sl → Int → World → Prop) (H : V_ladingref12_Streams x0 w Ret) : Cl Try.prog 23 [(Sl.v x0)].toArray w (fun e w' => ∃ (r0 : Sl) (r1 : Int), e = .returned (.tuple [(Sl.v r0), (.int .i64 r1)].toArray) ∧ Ret r0 r1 w') := by
  unfold V_ladingref12_Streams at H
  refine C.enter 65 (zipE 0 [(Sl.v x0)]) Try.func23 rfl rfl (by rfl) rfl ?_
  intro a hE
  replace hE : Sat [] 65 [(0, (Sl.v x0))] a := hE
  refine C.seq ?_
  refine C.region ?_
  refine hE.pur (X.assign hE rfl) fun a hE => ?_
  refine hE.pur (X.assign hE rfl) fun a hE => ?_
  refine C.nil (tn ?_)
  refine C.seq ?_
  refine C.region ?_
  refine hE.pur (X.move hE rfl) fun a hE => ?_
  refine hE.call (X.callF hE ent15 rfl rfl) H fun e w H => ?_
  obtain ⟨r, rfl, H⟩ := H
  refine ⟨_, rfl, fun a hE => ?_⟩
  refine hE.pur (X.assign hE rfl) fun a hE => ?_
  refine C.nil (tn ?_)
  refine C.seq ?_
  refine C.seq ?_
  refine C.region ?_
  refine hE.pur (X.move hE rfl) fun a hE => ?_
  refine hE.pur (X.neI hE rfl rfl) fun a hE => ?_
  refine C.nil (tn ?_)
  refine C.condP hE rfl (fun hc => ?_) (fun hc => ?_)
  · replace H := H.1 hc
    refine C.seq ?_
    refine C.region ?_
    refine hE.pur (X.move hE rfl) fun a hE => ?_
    refine hE.pur (X.assign hE rfl) fun a hE => ?_
    refine hE.pur (X.assign hE rfl) fun a hE => ?_
    refine C.nil (tn ?_)
    exact C.ret (tr (C.ret2 hE rfl rfl rfl ⟨_, _, rfl, H⟩))
  · replace H := H.2 hc
    refine C.skip (tn ?_)
    refine C.seq ?_
    refine C.region ?_
    refine hE.pur (X.assign hE rfl) fun a hE => ?_
    refine C.nil (tn ?_)
    refine C.seq ?_
    refine C.seq ?_
    refine C.region ?_
    refine hE.pur (X.move hE rfl) fun a hE => ?_
    refine hE.purR (fun w => X.lenL hE Try.underlying22 rfl) fun a hE => ?_
    refine hE.pur (X.move hE rfl) fun a hE => ?_
    refine C.nil (tn ?_)
    refine C.block ?_
    obtain ⟨I_l1, μ_l1, h0, hb⟩ := H
    refine C.loop (ds := []) (N := 65) (σ := Sl × Int) (fun s => [(5, (Sl.v s.1)), (17, (.int .i64 s.2)), (15, (Sl.v x0)), (16, (.int .i64 (x0.len : Int)))]) (fun s w => I_l1 s.1 s.2 w) (fun s w => μ_l1 s.1 s.2 w) (Sl.none, 0) h0 (hE.weak ⟨rfl, rfl, rfl, rfl, trivial⟩) ?_
    rintro ⟨x5, x17⟩ w a hI hE
    try dsimp only at hI hE
    obtain ⟨Kl1, hK_l1⟩ : ∃ K : Sl → Int → World → Prop, K = (fun x5' x17' w' => I_l1 x5' x17' w' ∧ μ_l1 x5' x17' w' < μ_l1 x5 x17 w) := ⟨_, rfl⟩
    have H : V_ladingref12_Streams_l1b x0 Ret x5 x17 w Kl1 := by rw [hK_l1]; exact hb x5 x17 w hI
    clear hb h0 hI
    unfold V_ladingref12_Streams_l1b at H
    refine C.seq ?_
    refine C.region ?_
    refine hE.pur (X.ltI hE rfl rfl) fun a hE => ?_
    refine C.nil (tn ?_)
    refine C.seq ?_
    refine C.condP hE rfl (fun hc => ?_) (fun hc => ?_)
    · replace H := H.1 hc
      refine C.skip (tn ?_)
      refine C.join (ds := []) (N := 65) (σ := Sl) (fun s => [(5, (Sl.v s)), (15, (Sl.v x0)), (16, (.int .i64 (x0.len : Int))), (17, (.int .i64 x17))]) (fun s w => V_ladingref12_Streams_j2 x17 Kl1 s w) ?_ (fun hj2 => ?_)
      · intro x5_1 w a H hE
        try dsimp only at H hE
        unfold V_ladingref12_Streams_j2 at H
        refine C.region ?_
        refine hE.pur (X.add hE rfl rfl) fun a hE => ?_
        refine hE.pur (X.move hE rfl) fun a hE => ?_
        rw [hK_l1] at H
        exact C.nil (tn ⟨(x5_1, (IntKind.wrap .i64 (x17 + 1))), hE.weak ⟨rfl, rfl, rfl, rfl, trivial⟩, H⟩)
      · refine C.block ?_
        refine C.seq ?_
        refine C.region ?_
        refine hE.op (X.indexAddr hE rfl rfl) H fun x19 w a H hE => ?_
        refine hE.op (X.load hE rfl) H fun x20 w a H hE => ?_
        refine hE.op (X.alloc) H fun x7 w a H hE => ?_
        refine hE.opu (X.store hE rfl rfl) H fun w a H hE => ?_
        refine C.nil (tn ?_)
        refine C.seq ?_
        refine C.region ?_
        refine hE.pur (X.assign hE rfl) fun a hE => ?_
        refine C.nil (tn ?_)
        refine C.seq ?_
        refine C.block ?_
        obtain ⟨I_l3, μ_l3, h0, hb⟩ := H
        refine C.loop (ds := []) (N := 65) (σ := Int) (fun s => [(8, (.int .i64 s)), (5, (Sl.v x5)), (7, (.pointer x7)), (15, (Sl.v x0)), (16, (.int .i64 (x0.len : Int))), (17, (.int .i64 x17))]) (fun s w => I_l3 s w) (fun s w => μ_l3 s w) 0 h0 (hE.weak ⟨rfl, rfl, rfl, rfl, rfl, rfl, trivial⟩) ?_
        intro x8 w a hI hE
        try dsimp only at hI hE
        obtain ⟨Kl3, hK_l3⟩ : ∃ K : Int → World → Prop, K = (fun x8' w' => I_l3 x8' w' ∧ μ_l3 x8' w' < μ_l3 x8 w) := ⟨_, rfl⟩
        have H : V_ladingref12_Streams_l3b x5 x17 Kl1 x7 x8 w Kl3 := by rw [hK_l3]; exact hb x8 w hI
        clear hb h0 hI
        unfold V_ladingref12_Streams_l3b at H
        refine C.seq ?_
        refine C.seq ?_
        refine C.draw (by kernel_rfl) (by kernel_rfl) ?_
        refine hE.qpur (X.move hE rfl) fun a hE => ?_
        refine hE.qpur (X.move hE rfl) fun a hE => ?_
        refine hE.qpurR (fun w => X.lenL hE Try.underlying23 rfl) fun a hE => ?_
        refine hE.qpur (X.ltI hE rfl rfl) fun a hE => ?_
        refine hE.qpur (X.move hE rfl) fun a hE => ?_
        refine WQ.join (ds := []) (N := 65) (σ := Bool) (fun s => [(33, (.bool s)), (5, (Sl.v x5)), (7, (.pointer x7)), (8, (.int .i64 x8)), (15, (Sl.v x0)), (16, (.int .i64 (x0.len : Int))), (17, (.int .i64 x17))]) (fun s => V_ladingref12_Streams_r4 x5 x17 Kl1 x7 x8 Kl3 s w) 8 ?_ (fun hr4 => ?_)
        · intro x33 a H hE
          try dsimp only at H hE
          unfold V_ladingref12_Streams_r4 at H
          refine C.qnil (fun w hB => ?_)
          replace H := H w hB
          refine (tn ?_)
          refine C.condB hE rfl (fun hc => ?_) (fun hc => ?_)
          · replace H := H.1 hc
            refine C.skip (tn ?_)
            refine C.block ?_
            refine C.region ?_
            refine hE.pur (X.move hE rfl) fun a hE => ?_
            refine hE.pur (X.add hE rfl rfl) fun a hE => ?_
            refine hE.pur (X.assign hE rfl) fun a hE => ?_
            rw [hK_l3] at H
            exact C.nil (bn (tn ⟨(IntKind.wrap .i64 (x8 + 1)), hE.weak ⟨rfl, rfl, rfl, rfl, rfl, rfl, trivial⟩, H⟩))
          · replace H := H.2 hc
            refine C.exit (te (te (be (tn ?_))))
            refine C.seq ?_
            refine C.seq ?_
            refine C.draw (by kernel_rfl) (by kernel_rfl) ?_
            refine hE.qpur (X.move hE rfl) fun a hE => ?_
            refine hE.qpur (X.move hE rfl) fun a hE => ?_
            refine hE.qpurR (fun w => X.lenL hE Try.underlying23 rfl) fun a hE => ?_
            refine hE.qpur (X.ltI hE rfl rfl) fun a hE => ?_
            refine hE.qpur (X.move hE rfl) fun a hE => ?_
            refine WQ.join (ds := []) (N := 65) (σ := Bool) (fun s => [(48, (.bool s)), (5, (Sl.v x5)), (7, (.pointer x7)), (8, (.int .i64 x8)), (15, (Sl.v x0)), (16, (.int .i64 (x0.len : Int))), (17, (.int .i64 x17))]) (fun s => V_ladingref12_Streams_r5 x5 x17 Kl1 x7 x8 s w) 8 ?_ (fun hr5 => ?_)
            · intro x48 a H hE
              try dsimp only at H hE
              unfold V_ladingref12_Streams_r5 at H
              refine C.qnil (fun w hB => ?_)
              replace H := H w hB
              refine (tn ?_)
              refine C.condB hE rfl (fun hc => ?_) (fun hc => ?_)
              · replace H := H.1 hc
                exact C.exit (te (be (tn (hj2 x5 _ _ H (hE.weak ⟨rfl, rfl, rfl, rfl, trivial⟩)))))
              · replace H := H.2 hc
                refine C.skip (tn ?_)
                refine C.seq ?_
                refine C.region ?_
                refine hE.op (X.buildSlice hE rfl) H fun x49 w a H hE => ?_
                refine hE.pur (X.move hE rfl) fun a hE => ?_
                refine hE.pur (X.move hE rfl) fun a hE => ?_
                refine hE.op (X.slice hE rfl rfl rfl rfl) H fun x52 w a H hE => ?_
                refine hE.op (X.append hE rfl) H fun x53 w a H hE => ?_
                refine hE.pur (X.assign hE rfl) fun a hE => ?_
                refine C.nil (tn ?_)
                refine C.any 10 #[false, false, false, false, false, false, false, false, false, false] (by kernel_rfl) (fun w hB => ?_)
                replace H := H w hB
                refine hE.apur (i := 0) (fun _ _ _ _ _ h => h) (by kernel_rfl) rfl (by kernel_rfl) (by kernel_rfl) (by rfl) (l2 := #[true, false, false, false, false, false, false, false, false, false]) (pn_run (X.move hE rfl)) fun a hE => ?_
                refine hE.apur (i := 1) (fun _ _ _ _ _ h => h) (by kernel_rfl) rfl (by kernel_rfl) (by kernel_rfl) (by rfl) (l2 := #[true, true, false, false, false, false, false, false, false, false]) (pn_run (X.move hE rfl)) fun a hE => ?_
                refine hE.aop (i := 2) (fun _ _ _ _ _ h => h) (by kernel_rfl) rfl (by kernel_rfl) (by kernel_rfl) (by rfl) (l2 := #[true, true, true, false, false, false, false, false, false, false]) (X.slice hE rfl rfl rfl rfl) H fun x56 a H hE => ?_
                refine hE.aop (i := 3) (fun _ _ _ _ _ h => h) (by kernel_rfl) rfl (by kernel_rfl) (by kernel_rfl) (by rfl) (l2 := #[true, true, true, true, false, false, false, false, false, false]) (X.fieldAddr hE rfl) H fun x57 a H hE => ?_
                refine hE.apur (i := 7) (fun _ _ _ _ _ h => h) (by kernel_rfl) rfl (by kernel_rfl) (by kernel_rfl) (by rfl) (l2 := #[true, true, true, true, false, false, false, true, false, false]) (pn_run (X.move hE rfl)) fun a hE => ?_
                refine WA.one (i := 4) (l2 := #[true, true, true, true, true, false, false, true, false, false]) rfl (by kernel_rfl) (by rfl) ?_
                intro K hK
                refine hE.wop (X.load hE rfl) H fun x58 w a H hE => ?_
                refine hK _ _ ?_
                refine WA.one (i := 5) (l2 := #[true, true, true, true, true, true, false, true, false, false]) rfl (by kernel_rfl) (by rfl) ?_
                intro K hK
                refine hE.wop (X.buildSlice hE rfl) H fun x59 w a H hE => ?_
                refine hK _ _ ?_
                refine WA.one (i := 6) (l2 := #[true, true, true, true, true, true, true, true, false, false]) rfl (by kernel_rfl) (by rfl) ?_
                intro K hK
                refine hE.wop (X.append hE rfl) H fun x60 w a H hE => ?_
                refine hK _ _ ?_
                refine WA.one (i := 8) (l2 := #[true, true, true, true, true, true, true, true, true, false]) rfl (by kernel_rfl) (by rfl) ?_
                intro K hK
                refine hE.wop (X.append hE rfl) H fun x62 w a H hE => ?_
                refine hK _ _ ?_
                refine hE.apur (i := 9) (fun _ _ _ _ _ h => h) (by kernel_rfl) rfl (by kernel_rfl) (by kernel_rfl) (by rfl) (l2 := #[true, true, true, true, true, true, true, true, true, true]) (pn_run (X.assign hE rfl)) fun a hE => ?_
                refine WA.nil (by kernel_rfl) ?_
                exact (bn (tn (hj2 x62 _ _ H (hE.weak ⟨rfl, rfl, rfl, rfl, trivial⟩))))
            · rcases Classical.em ((x8 < (x5.len : Int))) with hbr5 | hbr5
              · replace H := H.1 hbr5
                replace hE := hE.bool (b := true) (t := 40) rfl (decide_eq_true hbr5)
                refine hE.qon (by rfl) (by rfl) ?_
                refine hE.qpur (X.move hE rfl) fun a hE => ?_
                refine hE.qon (by rfl) (by rfl) ?_
                refine hE.qpur (X.move hE rfl) fun a hE => ?_
                refine hE.qon (by rfl) (by rfl) ?_
                refine hE.qop (X.indexAddr hE rfl rfl) H fun x43 a H hE => ?_
                refine hE.qon (by rfl) (by rfl) ?_
                refine hE.qop (X.load hE rfl) H fun x44 a H hE => ?_
                refine hE.qon (by rfl) (by rfl) ?_
                refine hE.qop (X.fieldAddr hE rfl) H fun x45 a H hE => ?_
                refine hE.qon (by rfl) (by rfl) ?_
                refine hE.qop (X.load hE rfl) H fun x46 a H hE => ?_
                refine hE.qon (by rfl) (by rfl) ?_
                refine hE.qpur (X.eqS hE rfl rfl) fun a hE => ?_
                refine hE.qpur (X.pickT hE rfl rfl) fun a hE => ?_
                exact hr5 (decide (x44 = x46)) _ H (hE.weak ⟨rfl, rfl, rfl, rfl, rfl, rfl, rfl, trivial⟩)
              · replace H := H.2 hbr5
                replace hE := hE.bool (b := false) (t := 40) rfl (decide_eq_false hbr5)
                refine hE.qoff (by rfl) (by rfl) (by decide) (fun a hE => ?_)
                refine hE.qoff (by rfl) (by rfl) (by decide) (fun a hE => ?_)
                refine hE.qoff (by rfl) (by rfl) (by decide) (fun a hE => ?_)
                refine hE.qoff (by rfl) (by rfl) (by decide) (fun a hE => ?_)
                refine hE.qoff (by rfl) (by rfl) (by decide) (fun a hE => ?_)
                refine hE.qoff (by rfl) (by rfl) (by decide) (fun a hE => ?_)
                refine hE.qoff (by rfl) (by rfl) (by decide) (fun a hE => ?_)
                refine hE.qpur (X.pickF hE rfl rfl) fun a hE => ?_
                exact hr5 false _ H (hE.weak ⟨rfl, rfl, rfl, rfl, rfl, rfl, rfl, trivial⟩)
        · rcases Classical.em ((x8 < (x5.len : Int))) with hbr4 | hbr4
          · replace H := H.1 hbr4
            replace hE := hE.bool (b := true) (t := 25) rfl (decide_eq_true hbr4)
            refine hE.qon (by rfl) (by rfl) ?_
            refine hE.qpur (X.move hE rfl) fun a hE => ?_
            refine hE.qon (by rfl) (by rfl) ?_
            refine hE.qpur (X.move hE rfl) fun a hE => ?_
            refine hE.qon (by rfl) (by rfl) ?_
            refine hE.qop (X.indexAddr hE rfl rfl) H fun x28 a H hE => ?_
            refine hE.qon (by rfl) (by rfl) ?_
            refine hE.qop (X.load hE rfl) H fun x29 a H hE => ?_
            refine hE.qon (by rfl) (by rfl) ?_
            refine hE.qop (X.fieldAddr hE rfl) H fun x30 a H hE => ?_
            refine hE.qon (by rfl) (by rfl) ?_
            refine hE.qop (X.load hE rfl) H fun x31 a H hE => ?_
            refine hE.qon (by rfl) (by rfl) ?_
            refine hE.qpur (X.ltS hE rfl rfl) fun a hE => ?_
            refine hE.qpur (X.pickT hE rfl rfl) fun a hE => ?_
            exact hr4 (sLt x29 x31) _ H (hE.weak ⟨rfl, rfl, rfl, rfl, rfl, rfl, rfl, trivial⟩)
          · replace H := H.2 hbr4
            replace hE := hE.bool (b := false) (t := 25) rfl (decide_eq_false hbr4)
            refine hE.qoff (by rfl) (by rfl) (by decide) (fun a hE => ?_)
            refine hE.qoff (by rfl) (by rfl) (by decide) (fun a hE => ?_)
            refine hE.qoff (by rfl) (by rfl) (by decide) (fun a hE => ?_)
            refine hE.qoff (by rfl) (by rfl) (by decide) (fun a hE => ?_)
            refine hE.qoff (by rfl) (by rfl) (by decide) (fun a hE => ?_)
            refine hE.qoff (by rfl) (by rfl) (by decide) (fun a hE => ?_)
            refine hE.qoff (by rfl) (by rfl) (by decide) (fun a hE => ?_)
            refine hE.qpur (X.pickF hE rfl rfl) fun a hE => ?_
            exact hr4 false _ H (hE.weak ⟨rfl, rfl, rfl, rfl, rfl, rfl, rfl, trivial⟩)
    · replace H := H.2 hc
      refine C.exit (te (te (be (tn ?_))))
      refine C.seq ?_
      refine C.region ?_
      refine hE.pur (X.move hE rfl) fun a hE => ?_
      refine hE.pur (X.assign hE rfl) fun a hE => ?_
      refine hE.pur (X.assign hE rfl) fun a hE => ?_
      refine C.nil (tn ?_)
      exact C.ret (C.ret2 hE rfl rfl rfl ⟨_, _, rfl, H⟩)
/-! ### lading ladingref05.Same: function 24 -/
def V_ladingref05_Same_l1b (x0 : Sl) (x1 : Sl) (Ret : Bool → World → Prop) (x13 : Int) (w : World) (Kl1 : Int → World → Prop) : Prop :=
  ((x13 < (x0.len : Int)) → (opB Try.prog Value.pointer (Instr.indexAt 23 (Sl.v x0) (.int .i64 x13)) w (fun x18 => opB Try.prog Value.string (Instr.loadAt 9 (.pointer x18)) w (fun x19 => opB Try.prog Value.pointer (Instr.indexAt 23 (Sl.v x1) (.int .i64 x13)) w (fun x22 => opB Try.prog Value.string (Instr.loadAt 9 (.pointer x22)) w (fun x23 => nextB w (fun w => ((x19 ≠ x23) → (Ret false w)) ∧ (¬ (x19 ≠ x23) → (Kl1 (IntKind.wrap .i64 (x13 + 1)) w))))))))) ∧ (¬ (x13 < (x0.len : Int)) → (Ret true w))
def V_ladingref05_Same (x0 : Sl) (x1 : Sl) (w : World) (Ret : Bool → World → Prop) : Prop :=
  (((x0.len : Int) ≠ (x1.len : Int)) → (Ret false w)) ∧ (¬ ((x0.len : Int) ≠ (x1.len : Int)) → (∃ (I : Int → World → Prop) (μ : Int → World → Nat), I 0 w ∧ ∀ (x13 : Int) w, I x13 w → V_ladingref05_Same_l1b x0 x1 Ret x13 w (fun x13' w' => I x13' w' ∧ μ x13' w' < μ x13 w)))
set_option maxRecDepth 100000 in
theorem L1_ladingref05_Same (x0 : Sl) (x1 : Sl) (w : World) (Ret : Bool → World → Prop) (H : V_ladingref05_Same x0 x1 w Ret) : Cl Try.prog 24 [(Sl.v x0), (Sl.v x1)].toArray w (fun e w' => ∃ (r0 : Bool), e = .returned (.bool r0) ∧ Ret r0 w') := by
  unfold V_ladingref05_Same at H
  refine C.enter 26 (zipE 0 [(Sl.v x0), (Sl.v x1)]) Try.func24 rfl rfl (by rfl) rfl ?_
  intro a hE
  replace hE : Sat [] 26 [(0, (Sl.v x0)), (1, (Sl.v x1))] a := hE
  refine C.seq ?_
  refine C.region ?_
  refine hE.pur (X.assign hE rfl) fun a hE => ?_
  refine C.nil (tn ?_)
  refine C.seq ?_
  refine C.seq ?_
  refine C.region ?_
  refine hE.pur (X.move hE rfl) fun a hE => ?_
  refine hE.purR (fun w => X.lenL hE Try.underlying23 rfl) fun a hE => ?_
  refine hE.pur (X.move hE rfl) fun a hE => ?_
  refine hE.purR (fun w => X.lenL hE Try.underlying23 rfl) fun a hE => ?_
  refine hE.pur (X.neI hE rfl rfl) fun a hE => ?_
  refine C.nil (tn ?_)
  refine C.condP hE rfl (fun hc => ?_) (fun hc => ?_)
  · replace H := H.1 hc
    refine C.seq ?_
    refine C.region ?_
    refine hE.pur (X.assign hE rfl) fun a hE => ?_
    refine C.nil (tn ?_)
    exact C.ret (tr (C.ret1 hE rfl rfl ⟨_, rfl, H⟩))
  · replace H := H.2 hc
    refine C.skip (tn ?_)
    refine C.seq ?_
    refine C.seq ?_
    refine C.region ?_
    refine hE.pur (X.move hE rfl) fun a hE => ?_
    refine hE.purR (fun w => X.lenL hE Try.underlying23 rfl) fun a hE => ?_
    refine hE.pur (X.move hE rfl) fun a hE => ?_
    refine C.nil (tn ?_)
    refine C.block ?_
    obtain ⟨I_l1, μ_l1, h0, hb⟩ := H
    refine C.loop (ds := []) (N := 26) (σ := Int) (fun s => [(13, (.int .i64 s)), (0, (Sl.v x0)), (1, (Sl.v x1)), (12, (.int .i64 (x0.len : Int)))]) (fun s w => I_l1 s w) (fun s w => μ_l1 s w) 0 h0 (hE.weak ⟨rfl, rfl, rfl, rfl, trivial⟩) ?_
    intro x13 w a hI hE
    try dsimp only at hI hE
    obtain ⟨Kl1, hK_l1⟩ : ∃ K : Int → World → Prop, K = (fun x13' w' => I_l1 x13' w' ∧ μ_l1 x13' w' < μ_l1 x13 w) := ⟨_, rfl⟩
    have H : V_ladingref05_Same_l1b x0 x1 Ret x13 w Kl1 := by rw [hK_l1]; exact hb x13 w hI
    clear hb h0 hI
    unfold V_ladingref05_Same_l1b at H
    refine C.seq ?_
    refine C.region ?_
    refine hE.pur (X.ltI hE rfl rfl) fun a hE => ?_
    refine C.nil (tn ?_)
    refine C.seq ?_
    refine C.condP hE rfl (fun hc => ?_) (fun hc => ?_)
    · replace H := H.1 hc
      refine C.skip (tn ?_)
      refine C.seq ?_
      refine C.block ?_
      refine C.seq ?_
      refine C.region ?_
      refine hE.pur (X.move hE rfl) fun a hE => ?_
      refine hE.pur (X.assign hE rfl) fun a hE => ?_
      refine C.nil (tn ?_)
      refine C.seq ?_
      refine C.draw (by kernel_rfl) (by kernel_rfl) ?_
      refine hE.qpur (X.move hE rfl) fun a hE => ?_
      refine hE.qpur (X.move hE rfl) fun a hE => ?_
      refine hE.qop (X.indexAddr hE rfl rfl) H fun x18 a H hE => ?_
      refine hE.qop (X.load hE rfl) H fun x19 a H hE => ?_
      refine hE.qpur (X.move hE rfl) fun a hE => ?_
      refine hE.qpur (X.move hE rfl) fun a hE => ?_
      refine hE.qop (X.indexAddr hE rfl rfl) H fun x22 a H hE => ?_
      refine hE.qop (X.load hE rfl) H fun x23 a H hE => ?_
      refine hE.qpur (X.neS hE rfl rfl) fun a hE => ?_
      refine C.qnil (fun w hB => ?_)
      replace H := H w hB
      refine (tn ?_)
      refine C.condP hE rfl (fun hc => ?_) (fun hc => ?_)
      · replace H := H.1 hc
        refine C.seq ?_
        refine C.region ?_
        refine hE.pur (X.assign hE rfl) fun a hE => ?_
        refine C.nil (tn ?_)
        exact C.ret (br (tr (tr (br (tr (C.ret1 hE rfl rfl ⟨_, rfl, H⟩))))))
      · replace H := H.2 hc
        refine C.skip (bn (tn ?_))
        refine C.region ?_
        refine hE.pur (X.add hE rfl rfl) fun a hE => ?_
        refine hE.pur (X.move hE rfl) fun a hE => ?_
        rw [hK_l1] at H
        exact C.nil (tn ⟨(IntKind.wrap .i64 (x13 + 1)), hE.weak ⟨rfl, rfl, rfl, rfl, trivial⟩, H⟩)
    · replace H := H.2 hc
      refine C.exit (te (te (be (tn ?_))))
      refine C.seq ?_
      refine C.region ?_
      refine hE.pur (X.assign hE rfl) fun a hE => ?_
      refine C.nil (tn ?_)
      exact C.ret (C.ret1 hE rfl rfl ⟨_, rfl, H⟩)
/-! ### lading ladingref12.Of: function 30 -/
def V_ladingref12_Of_j2 (x10 : Int) (Kl1 : Sl → Int → World → Prop) (x5_1 : Sl) (w : World) : Prop :=
  Kl1 x5_1 (IntKind.wrap .i64 (x10 + 1)) w
def V_ladingref12_Of_l1b (x0 : Sl) (x1 : ByteArray) (Ret : Sl → World → Prop) (x5 : Sl) (x10 : Int) (w : World) (Kl1 : Sl → Int → World → Prop) : Prop :=
  ((x10 < (x0.len : Int)) → (opE Try.prog Value.pointer (Instr.indexAt 22 (Sl.v x0) (.int .i64 x10)) w (fun x12 w => opE Try.prog T_api_Event.v (Instr.loadAt 32 (.pointer x12)) w (fun x13 w => opE Try.prog Value.pointer (Instr.alloc 32 true (.tuple #[])) w (fun x7 w => opU Try.prog (Instr.storeAt 32 (.pointer x7) (T_api_Event.v x13)) w (fun w => opE Try.prog Value.pointer (Instr.fieldAt 32 (.pointer x7) 0) w (fun x14 w => opE Try.prog Value.string (Instr.loadAt 9 (.pointer x14)) w (fun x15 w => ((x15 = x1) → (opE Try.prog T_api_Event.v (Instr.loadAt 32 (.pointer x7)) w (fun x19 w => opE Try.prog Sl.v (Instr.buildSlice 22 1 [(0, (T_api_Event.v x19))].toArray) w (fun x20 w => opE Try.prog Sl.v (Builtin.append_ #[22, 22] 22 [(Sl.v x5), (Sl.v x20)].toArray) w (fun x21 w => V_ladingref12_Of_j2 x10 Kl1 x21 w))))) ∧ (¬ (x15 = x1) → (V_ladingref12_Of_j2 x10 Kl1 x5 w)))))))))) ∧ (¬ (x10 < (x0.len : Int)) → (Ret x5 w))
def V_ladingref12_Of (x0 : Sl) (x1 : ByteArray) (w : World) (Ret : Sl → World → Prop) : Prop :=
  ∃ (I : Sl → Int → World → Prop) (μ : Sl → Int → World → Nat), I Sl.none 0 w ∧ ∀ (x5 : Sl) (x10 : Int) w, I x5 x10 w → V_ladingref12_Of_l1b x0 x1 Ret x5 x10 w (fun x5' x10' w' => I x5' x10' w' ∧ μ x5' x10' w' < μ x5 x10 w)
set_option maxRecDepth 100000 in
theorem L1_ladingref12_Of (x0 : Sl) (x1 : ByteArray) (w : World) (Ret : Sl → World → Prop) (H : V_ladingref12_Of x0 x1 w Ret) : Cl Try.prog 30 [(Sl.v x0), (.string x1)].toArray w (fun e w' => ∃ (r0 : Sl), e = .returned (Sl.v r0) ∧ Ret r0 w') := by
  unfold V_ladingref12_Of at H
  refine C.enter 24 (zipE 0 [(Sl.v x0), (.string x1)]) Try.func30 rfl rfl (by rfl) rfl ?_
  intro a hE
  replace hE : Sat [] 24 [(0, (Sl.v x0)), (1, (.string x1))] a := hE
  refine C.seq ?_
  refine C.region ?_
  refine hE.pur (X.assign hE rfl) fun a hE => ?_
  refine C.nil (tn ?_)
  refine C.seq ?_
  refine C.region ?_
  refine hE.pur (X.assign hE rfl) fun a hE => ?_
  refine C.nil (tn ?_)
  refine C.seq ?_
  refine C.seq ?_
  refine C.region ?_
  refine hE.pur (X.move hE rfl) fun a hE => ?_
  refine hE.purR (fun w => X.lenL hE Try.underlying22 rfl) fun a hE => ?_
  refine hE.pur (X.move hE rfl) fun a hE => ?_
  refine C.nil (tn ?_)
  refine C.block ?_
  obtain ⟨I_l1, μ_l1, h0, hb⟩ := H
  refine C.loop (ds := []) (N := 24) (σ := Sl × Int) (fun s => [(5, (Sl.v s.1)), (10, (.int .i64 s.2)), (1, (.string x1)), (8, (Sl.v x0)), (9, (.int .i64 (x0.len : Int)))]) (fun s w => I_l1 s.1 s.2 w) (fun s w => μ_l1 s.1 s.2 w) (Sl.none, 0) h0 (hE.weak ⟨rfl, rfl, rfl, rfl, rfl, trivial⟩) ?_
  rintro ⟨x5, x10⟩ w a hI hE
  try dsimp only at hI hE
  obtain ⟨Kl1, hK_l1⟩ : ∃ K : Sl → Int → World → Prop, K = (fun x5' x10' w' => I_l1 x5' x10' w' ∧ μ_l1 x5' x10' w' < μ_l1 x5 x10 w) := ⟨_, rfl⟩
  have H : V_ladingref12_Of_l1b x0 x1 Ret x5 x10 w Kl1 := by rw [hK_l1]; exact hb x5 x10 w hI
  clear hb h0 hI
  unfold V_ladingref12_Of_l1b at H
  refine C.seq ?_
  refine C.region ?_
  refine hE.pur (X.ltI hE rfl rfl) fun a hE => ?_
  refine C.nil (tn ?_)
  refine C.seq ?_
  refine C.condP hE rfl (fun hc => ?_) (fun hc => ?_)
  · replace H := H.1 hc
    refine C.skip (tn ?_)
    refine C.join (ds := []) (N := 24) (σ := Sl) (fun s => [(5, (Sl.v s)), (1, (.string x1)), (8, (Sl.v x0)), (9, (.int .i64 (x0.len : Int))), (10, (.int .i64 x10))]) (fun s w => V_ladingref12_Of_j2 x10 Kl1 s w) ?_ (fun hj2 => ?_)
    · intro x5_1 w a H hE
      try dsimp only at H hE
      unfold V_ladingref12_Of_j2 at H
      refine C.region ?_
      refine hE.pur (X.add hE rfl rfl) fun a hE => ?_
      refine hE.pur (X.move hE rfl) fun a hE => ?_
      rw [hK_l1] at H
      exact C.nil (tn ⟨(x5_1, (IntKind.wrap .i64 (x10 + 1))), hE.weak ⟨rfl, rfl, rfl, rfl, rfl, trivial⟩, H⟩)
    · refine C.block ?_
      refine C.seq ?_
      refine C.region ?_
      refine hE.op (X.indexAddr hE rfl rfl) H fun x12 w a H hE => ?_
      refine hE.op (X.load hE rfl) H fun x13 w a H hE => ?_
      refine hE.op (X.alloc) H fun x7 w a H hE => ?_
      refine hE.opu (X.store hE rfl rfl) H fun w a H hE => ?_
      refine C.nil (tn ?_)
      refine C.seq ?_
      refine C.region ?_
      refine hE.op (X.fieldAddr hE rfl) H fun x14 w a H hE => ?_
      refine hE.op (X.load hE rfl) H fun x15 w a H hE => ?_
      refine hE.pur (X.move hE rfl) fun a hE => ?_
      refine hE.pur (X.eqS hE rfl rfl) fun a hE => ?_
      refine C.nil (tn ?_)
      refine C.condP hE rfl (fun hc => ?_) (fun hc => ?_)
      · replace H := H.1 hc
        refine C.region ?_
        refine hE.pur (X.move hE rfl) fun a hE => ?_
        refine hE.op (X.load hE rfl) H fun x19 w a H hE => ?_
        refine hE.op (X.buildSlice hE rfl) H fun x20 w a H hE => ?_
        refine hE.op (X.append hE rfl) H fun x21 w a H hE => ?_
        refine hE.pur (X.assign hE rfl) fun a hE => ?_
        exact C.nil (bn (tn (hj2 x21 _ _ H (hE.weak ⟨rfl, rfl, rfl, rfl, rfl, trivial⟩))))
      · replace H := H.2 hc
        exact C.skip (bn (tn (hj2 x5 _ _ H (hE.weak ⟨rfl, rfl, rfl, rfl, rfl, trivial⟩))))
  · replace H := H.2 hc
    refine C.exit (te (te (be (tn ?_))))
    refine C.seq ?_
    refine C.region ?_
    refine hE.pur (X.move hE rfl) fun a hE => ?_
    refine hE.pur (X.assign hE rfl) fun a hE => ?_
    refine C.nil (tn ?_)
    exact C.ret (C.ret1 hE rfl rfl ⟨_, rfl, H⟩)
/-! ### lading ladingref12.last: function 31 -/
def V_ladingref12_last_l1b (x0 : Sl) (x1 : Int) (Ret : Int → World → Prop) (x5 : Int) (w : World) (Kl1 : Int → World → Prop) : Prop :=
  ((0 ≤ x5) → (opB Try.prog Value.pointer (Instr.indexAt 22 (Sl.v x0) (.int .i64 x5)) w (fun x14 => opB Try.prog Value.pointer (Instr.fieldAt 32 (.pointer x14) 0) w (fun x15 => opB Try.prog Value.string (Instr.loadAt 9 (.pointer x15)) w (fun x16 => opB Try.prog Value.pointer (Instr.indexAt 22 (Sl.v x0) (.int .i64 x1)) w (fun x19 => opB Try.prog Value.pointer (Instr.fieldAt 32 (.pointer x19) 0) w (fun x20 => opB Try.prog Value.string (Instr.loadAt 9 (.pointer x20)) w (fun x21 => nextB w (fun w => ((x16 = x21) → (Ret x5 w)) ∧ (¬ (x16 = x21) → (Kl1 (IntKind.wrap .i64 (x5 - 1)) w))))))))))) ∧ (¬ (0 ≤ x5) → (Ret (-1) w))
def V_ladingref12_last (x0 : Sl) (x1 : Int) (w : World) (Ret : Int → World → Prop) : Prop :=
  ∃ (I : Int → World → Prop) (μ : Int → World → Nat), I (IntKind.wrap .i64 (x1 - 1)) w ∧ ∀ (x5 : Int) w, I x5 w → V_ladingref12_last_l1b x0 x1 Ret x5 w (fun x5' w' => I x5' w' ∧ μ x5' w' < μ x5 w)
set_option maxRecDepth 100000 in
theorem L1_ladingref12_last (x0 : Sl) (x1 : Int) (w : World) (Ret : Int → World → Prop) (H : V_ladingref12_last x0 x1 w Ret) : Cl Try.prog 31 [(Sl.v x0), (.int .i64 x1)].toArray w (fun e w' => ∃ (r0 : Int), e = .returned (.int .i64 r0) ∧ Ret r0 w') := by
  unfold V_ladingref12_last at H
  refine C.enter 24 (zipE 0 [(Sl.v x0), (.int .i64 x1)]) Try.func31 rfl rfl (by rfl) rfl ?_
  intro a hE
  replace hE : Sat [] 24 [(0, (Sl.v x0)), (1, (.int .i64 x1))] a := hE
  refine C.seq ?_
  refine C.region ?_
  refine hE.pur (X.assign hE rfl) fun a hE => ?_
  refine C.nil (tn ?_)
  refine C.seq ?_
  refine C.seq ?_
  refine C.region ?_
  refine hE.pur (X.move hE rfl) fun a hE => ?_
  refine hE.pur (X.sub hE rfl rfl) fun a hE => ?_
  refine hE.pur (X.assign hE rfl) fun a hE => ?_
  refine C.nil (tn ?_)
  refine C.block ?_
  obtain ⟨I_l1, μ_l1, h0, hb⟩ := H
  refine C.loop (ds := []) (N := 24) (σ := Int) (fun s => [(5, (.int .i64 s)), (0, (Sl.v x0)), (1, (.int .i64 x1))]) (fun s w => I_l1 s w) (fun s w => μ_l1 s w) (IntKind.wrap .i64 (x1 - 1)) h0 (hE.weak ⟨rfl, rfl, rfl, trivial⟩) ?_
  intro x5 w a hI hE
  try dsimp only at hI hE
  obtain ⟨Kl1, hK_l1⟩ : ∃ K : Int → World → Prop, K = (fun x5' w' => I_l1 x5' w' ∧ μ_l1 x5' w' < μ_l1 x5 w) := ⟨_, rfl⟩
  have H : V_ladingref12_last_l1b x0 x1 Ret x5 w Kl1 := by rw [hK_l1]; exact hb x5 w hI
  clear hb h0 hI
  unfold V_ladingref12_last_l1b at H
  refine C.seq ?_
  refine C.seq ?_
  refine C.region ?_
  refine hE.pur (X.move hE rfl) fun a hE => ?_
  refine hE.pur (X.geI hE rfl rfl) fun a hE => ?_
  refine C.nil (tn ?_)
  refine C.condP hE rfl (fun hc => ?_) (fun hc => ?_)
  · replace H := H.1 hc
    refine C.skip (tn ?_)
    refine C.seq ?_
    refine C.block ?_
    refine C.seq ?_
    refine C.draw (by kernel_rfl) (by kernel_rfl) ?_
    refine hE.qpur (X.move hE rfl) fun a hE => ?_
    refine hE.qpur (X.move hE rfl) fun a hE => ?_
    refine hE.qop (X.indexAddr hE rfl rfl) H fun x14 a H hE => ?_
    refine hE.qop (X.fieldAddr hE rfl) H fun x15 a H hE => ?_
    refine hE.qop (X.load hE rfl) H fun x16 a H hE => ?_
    refine hE.qpur (X.move hE rfl) fun a hE => ?_
    refine hE.qpur (X.move hE rfl) fun a hE => ?_
    refine hE.qop (X.indexAddr hE rfl rfl) H fun x19 a H hE => ?_
    refine hE.qop (X.fieldAddr hE rfl) H fun x20 a H hE => ?_
    refine hE.qop (X.load hE rfl) H fun x21 a H hE => ?_
    refine hE.qpur (X.eqS hE rfl rfl) fun a hE => ?_
    refine C.qnil (fun w hB => ?_)
    replace H := H w hB
    refine (tn ?_)
    refine C.condP hE rfl (fun hc => ?_) (fun hc => ?_)
    · replace H := H.1 hc
      refine C.seq ?_
      refine C.region ?_
      refine hE.pur (X.move hE rfl) fun a hE => ?_
      refine hE.pur (X.assign hE rfl) fun a hE => ?_
      refine C.nil (tn ?_)
      exact C.ret (br (tr (tr (br (tr (C.ret1 hE rfl rfl ⟨_, rfl, H⟩))))))
    · replace H := H.2 hc
      refine C.skip (bn (tn ?_))
      refine C.region ?_
      refine hE.pur (X.move hE rfl) fun a hE => ?_
      refine hE.pur (X.sub hE rfl rfl) fun a hE => ?_
      refine hE.pur (X.assign hE rfl) fun a hE => ?_
      rw [hK_l1] at H
      exact C.nil (tn ⟨(IntKind.wrap .i64 (x5 - 1)), hE.weak ⟨rfl, rfl, rfl, trivial⟩, H⟩)
  · replace H := H.2 hc
    refine C.exit (te (te (be (tn ?_))))
    refine C.seq ?_
    refine C.region ?_
    refine hE.pur (X.assign hE rfl) fun a hE => ?_
    refine C.nil (tn ?_)
    exact C.ret (C.ret1 hE rfl rfl ⟨_, rfl, H⟩)
/-! ### lading ladingref12.twice: function 32 -/
def V_ladingref12_twice_r3 (Ret : Bool → World → Prop) (x5 : Int) (Kl1 : Int → World → Prop) (x42 : Bool) (w : World) : Prop :=
  nextB w (fun w => (x42 = true → (Ret true w)) ∧ (x42 = false → (Kl1 (IntKind.wrap .i64 (x5 + 1)) w)))
def V_ladingref12_twice_r2 (x0 : Sl) (x1 : Int) (Ret : Bool → World → Prop) (x5 : Int) (Kl1 : Int → World → Prop) (x16 : Bool) (w : World) : Prop :=
  (x16 = true → (opB Try.prog Value.pointer (Instr.indexAt 22 (Sl.v x0) (.int .i64 x5)) w (fun x21 => opB Try.prog Value.pointer (Instr.fieldAt 32 (.pointer x21) 0) w (fun x22 => opB Try.prog Value.string (Instr.loadAt 9 (.pointer x22)) w (fun x23 => opB Try.prog Value.pointer (Instr.indexAt 22 (Sl.v x0) (.int .i64 x1)) w (fun x26 => opB Try.prog Value.pointer (Instr.fieldAt 32 (.pointer x26) 0) w (fun x27 => opB Try.prog Value.string (Instr.loadAt 9 (.pointer x27)) w (fun x28 => ((x23 = x28) → (opB Try.prog Value.pointer (Instr.indexAt 22 (Sl.v x0) (.int .i64 x5)) w (fun x33 => opB Try.prog Value.pointer (Instr.fieldAt 32 (.pointer x33) 3) w (fun x34 => opB Try.prog Value.string (Instr.loadAt 9 (.pointer x34)) w (fun x35 => opB Try.prog Value.pointer (Instr.indexAt 22 (Sl.v x0) (.int .i64 x1)) w (fun x38 => opB Try.prog Value.pointer (Instr.fieldAt 32 (.pointer x38) 3) w (fun x39 => opB Try.prog Value.string (Instr.loadAt 9 (.pointer x39)) w (fun x40 => V_ladingref12_twice_r3 Ret x5 Kl1 (decide (x35 = x40)) w)))))))) ∧ (¬ (x23 = x28) → (V_ladingref12_twice_r3 Ret x5 Kl1 false w)))))))))) ∧ (x16 = false → (Ret false w))
def V_ladingref12_twice_l1b (x0 : Sl) (x1 : Int) (Ret : Bool → World → Prop) (x5 : Int) (w : World) (Kl1 : Int → World → Prop) : Prop :=
  ((x5 < x1) → (opE Try.prog Value.pointer (Instr.indexAt 22 (Sl.v x0) (.int .i64 x1)) w (fun x12 w => opE Try.prog Value.pointer (Instr.fieldAt 32 (.pointer x12) 3) w (fun x13 w => opE Try.prog Value.string (Instr.loadAt 9 (.pointer x13)) w (fun x14 w => V_ladingref12_twice_r2 x0 x1 Ret x5 Kl1 (decide (x14 ≠ (ByteArray.mk #[]))) w))))) ∧ (¬ (x5 < x1) → (V_ladingref12_twice_r2 x0 x1 Ret x5 Kl1 false w))
def V_ladingref12_twice (x0 : Sl) (x1 : Int) (w : World) (Ret : Bool → World → Prop) : Prop :=
  ∃ (I : Int → World → Prop) (μ : Int → World → Nat), I 0 w ∧ ∀ (x5 : Int) w, I x5 w → V_ladingref12_twice_l1b x0 x1 Ret x5 w (fun x5' w' => I x5' w' ∧ μ x5' w' < μ x5 w)
set_option maxRecDepth 100000 in
theorem L1_ladingref12_twice (x0 : Sl) (x1 : Int) (w : World) (Ret : Bool → World → Prop) (H : V_ladingref12_twice x0 x1 w Ret) : Cl Try.prog 32 [(Sl.v x0), (.int .i64 x1)].toArray w (fun e w' => ∃ (r0 : Bool), e = .returned (.bool r0) ∧ Ret r0 w') := by
  unfold V_ladingref12_twice at H
  refine C.enter 43 (zipE 0 [(Sl.v x0), (.int .i64 x1)]) Try.func32 rfl rfl (by rfl) rfl ?_
  intro a hE
  replace hE : Sat [] 43 [(0, (Sl.v x0)), (1, (.int .i64 x1))] a := hE
  refine C.seq ?_
  refine C.region ?_
  refine hE.pur (X.assign hE rfl) fun a hE => ?_
  refine C.nil (tn ?_)
  refine C.seq ?_
  refine C.seq ?_
  refine C.region ?_
  refine hE.pur (X.assign hE rfl) fun a hE => ?_
  refine C.nil (tn ?_)
  refine C.block ?_
  obtain ⟨I_l1, μ_l1, h0, hb⟩ := H
  refine C.loop (ds := []) (N := 43) (σ := Int) (fun s => [(5, (.int .i64 s)), (0, (Sl.v x0)), (1, (.int .i64 x1))]) (fun s w => I_l1 s w) (fun s w => μ_l1 s w) 0 h0 (hE.weak ⟨rfl, rfl, rfl, trivial⟩) ?_
  intro x5 w a hI hE
  try dsimp only at hI hE
  obtain ⟨Kl1, hK_l1⟩ : ∃ K : Int → World → Prop, K = (fun x5' w' => I_l1 x5' w' ∧ μ_l1 x5' w' < μ_l1 x5 w) := ⟨_, rfl⟩
  have H : V_ladingref12_twice_l1b x0 x1 Ret x5 w Kl1 := by rw [hK_l1]; exact hb x5 w hI
  clear hb h0 hI
  unfold V_ladingref12_twice_l1b at H
  refine C.seq ?_
  refine C.seq ?_
  refine C.region ?_
  refine hE.pur (X.move hE rfl) fun a hE => ?_
  refine hE.pur (X.move hE rfl) fun a hE => ?_
  refine hE.pur (X.ltI hE rfl rfl) fun a hE => ?_
  refine hE.pur (X.move hE rfl) fun a hE => ?_
  refine WL.join (ds := []) (N := 43) (σ := Bool) (fun s => [(16, (.bool s)), (0, (Sl.v x0)), (1, (.int .i64 x1)), (5, (.int .i64 x5))]) (fun s w => V_ladingref12_twice_r2 x0 x1 Ret x5 Kl1 s w) 7 ?_ (fun hr2 => ?_)
  · intro x16 w a H hE
    try dsimp only at H hE
    unfold V_ladingref12_twice_r2 at H
    refine C.nil (tn ?_)
    refine C.condB hE rfl (fun hc => ?_) (fun hc => ?_)
    · replace H := H.1 hc
      refine C.skip (tn ?_)
      refine C.seq ?_
      refine C.block ?_
      refine C.seq ?_
      refine C.draw (by kernel_rfl) (by kernel_rfl) ?_
      refine hE.qpur (X.move hE rfl) fun a hE => ?_
      refine hE.qpur (X.move hE rfl) fun a hE => ?_
      refine hE.qop (X.indexAddr hE rfl rfl) H fun x21 a H hE => ?_
      refine hE.qop (X.fieldAddr hE rfl) H fun x22 a H hE => ?_
      refine hE.qop (X.load hE rfl) H fun x23 a H hE => ?_
      refine hE.qpur (X.move hE rfl) fun a hE => ?_
      refine hE.qpur (X.move hE rfl) fun a hE => ?_
      refine hE.qop (X.indexAddr hE rfl rfl) H fun x26 a H hE => ?_
      refine hE.qop (X.fieldAddr hE rfl) H fun x27 a H hE => ?_
      refine hE.qop (X.load hE rfl) H fun x28 a H hE => ?_
      refine hE.qpur (X.eqS hE rfl rfl) fun a hE => ?_
      refine hE.qpur (X.move hE rfl) fun a hE => ?_
      refine WQ.join (ds := []) (N := 43) (σ := Bool) (fun s => [(42, (.bool s)), (0, (Sl.v x0)), (1, (.int .i64 x1)), (5, (.int .i64 x5))]) (fun s => V_ladingref12_twice_r3 Ret x5 Kl1 s w) 12 ?_ (fun hr3 => ?_)
      · intro x42 a H hE
        try dsimp only at H hE
        unfold V_ladingref12_twice_r3 at H
        refine C.qnil (fun w hB => ?_)
        replace H := H w hB
        refine (tn ?_)
        refine C.condB hE rfl (fun hc => ?_) (fun hc => ?_)
        · replace H := H.1 hc
          refine C.seq ?_
          refine C.region ?_
          refine hE.pur (X.assign hE rfl) fun a hE => ?_
          refine C.nil (tn ?_)
          exact C.ret (br (tr (tr (br (tr (C.ret1 hE rfl rfl ⟨_, rfl, H⟩))))))
        · replace H := H.2 hc
          refine C.skip (bn (tn ?_))
          refine C.region ?_
          refine hE.pur (X.move hE rfl) fun a hE => ?_
          refine hE.pur (X.add hE rfl rfl) fun a hE => ?_
          refine hE.pur (X.assign hE rfl) fun a hE => ?_
          rw [hK_l1] at H
          exact C.nil (tn ⟨(IntKind.wrap .i64 (x5 + 1)), hE.weak ⟨rfl, rfl, rfl, trivial⟩, H⟩)
      · rcases Classical.em ((x23 = x28)) with hbr3 | hbr3
        · replace H := H.1 hbr3
          replace hE := hE.bool (b := true) (t := 30) rfl (decide_eq_true hbr3)
          refine hE.qon (by rfl) (by rfl) ?_
          refine hE.qpur (X.move hE rfl) fun a hE => ?_
          refine hE.qon (by rfl) (by rfl) ?_
          refine hE.qpur (X.move hE rfl) fun a hE => ?_
          refine hE.qon (by rfl) (by rfl) ?_
          refine hE.qop (X.indexAddr hE rfl rfl) H fun x33 a H hE => ?_
          refine hE.qon (by rfl) (by rfl) ?_
          refine hE.qop (X.fieldAddr hE rfl) H fun x34 a H hE => ?_
          refine hE.qon (by rfl) (by rfl) ?_
          refine hE.qop (X.load hE rfl) H fun x35 a H hE => ?_
          refine hE.qon (by rfl) (by rfl) ?_
          refine hE.qpur (X.move hE rfl) fun a hE => ?_
          refine hE.qon (by rfl) (by rfl) ?_
          refine hE.qpur (X.move hE rfl) fun a hE => ?_
          refine hE.qon (by rfl) (by rfl) ?_
          refine hE.qop (X.indexAddr hE rfl rfl) H fun x38 a H hE => ?_
          refine hE.qon (by rfl) (by rfl) ?_
          refine hE.qop (X.fieldAddr hE rfl) H fun x39 a H hE => ?_
          refine hE.qon (by rfl) (by rfl) ?_
          refine hE.qop (X.load hE rfl) H fun x40 a H hE => ?_
          refine hE.qon (by rfl) (by rfl) ?_
          refine hE.qpur (X.eqS hE rfl rfl) fun a hE => ?_
          refine hE.qpur (X.pickT hE rfl rfl) fun a hE => ?_
          exact hr3 (decide (x35 = x40)) _ H (hE.weak ⟨rfl, rfl, rfl, rfl, trivial⟩)
        · replace H := H.2 hbr3
          replace hE := hE.bool (b := false) (t := 30) rfl (decide_eq_false hbr3)
          refine hE.qoff (by rfl) (by rfl) (by decide) (fun a hE => ?_)
          refine hE.qoff (by rfl) (by rfl) (by decide) (fun a hE => ?_)
          refine hE.qoff (by rfl) (by rfl) (by decide) (fun a hE => ?_)
          refine hE.qoff (by rfl) (by rfl) (by decide) (fun a hE => ?_)
          refine hE.qoff (by rfl) (by rfl) (by decide) (fun a hE => ?_)
          refine hE.qoff (by rfl) (by rfl) (by decide) (fun a hE => ?_)
          refine hE.qoff (by rfl) (by rfl) (by decide) (fun a hE => ?_)
          refine hE.qoff (by rfl) (by rfl) (by decide) (fun a hE => ?_)
          refine hE.qoff (by rfl) (by rfl) (by decide) (fun a hE => ?_)
          refine hE.qoff (by rfl) (by rfl) (by decide) (fun a hE => ?_)
          refine hE.qoff (by rfl) (by rfl) (by decide) (fun a hE => ?_)
          refine hE.qpur (X.pickF hE rfl rfl) fun a hE => ?_
          exact hr3 false _ H (hE.weak ⟨rfl, rfl, rfl, rfl, trivial⟩)
    · replace H := H.2 hc
      refine C.exit (te (te (be (tn ?_))))
      refine C.seq ?_
      refine C.region ?_
      refine hE.pur (X.assign hE rfl) fun a hE => ?_
      refine C.nil (tn ?_)
      exact C.ret (C.ret1 hE rfl rfl ⟨_, rfl, H⟩)
  · rcases Classical.em ((x5 < x1)) with hbr2 | hbr2
    · replace H := H.1 hbr2
      replace hE := hE.bool (b := true) (t := 9) rfl (decide_eq_true hbr2)
      refine hE.on (by rfl) (by rfl) ?_
      refine hE.pur (X.move hE rfl) fun a hE => ?_
      refine hE.on (by rfl) (by rfl) ?_
      refine hE.pur (X.move hE rfl) fun a hE => ?_
      refine hE.on (by rfl) (by rfl) ?_
      refine hE.op (X.indexAddr hE rfl rfl) H fun x12 w a H hE => ?_
      refine hE.on (by rfl) (by rfl) ?_
      refine hE.op (X.fieldAddr hE rfl) H fun x13 w a H hE => ?_
      refine hE.on (by rfl) (by rfl) ?_
      refine hE.op (X.load hE rfl) H fun x14 w a H hE => ?_
      refine hE.on (by rfl) (by rfl) ?_
      refine hE.pur (X.neS hE rfl rfl) fun a hE => ?_
      refine hE.pur (X.pickT hE rfl rfl) fun a hE => ?_
      exact hr2 (decide (x14 ≠ (ByteArray.mk #[]))) _ _ H (hE.weak ⟨rfl, rfl, rfl, rfl, trivial⟩)
    · replace H := H.2 hbr2
      replace hE := hE.bool (b := false) (t := 9) rfl (decide_eq_false hbr2)
      refine hE.off (by rfl) (by rfl) (by decide) (fun a hE => ?_)
      refine hE.off (by rfl) (by rfl) (by decide) (fun a hE => ?_)
      refine hE.off (by rfl) (by rfl) (by decide) (fun a hE => ?_)
      refine hE.off (by rfl) (by rfl) (by decide) (fun a hE => ?_)
      refine hE.off (by rfl) (by rfl) (by decide) (fun a hE => ?_)
      refine hE.off (by rfl) (by rfl) (by decide) (fun a hE => ?_)
      refine hE.pur (X.pickF hE rfl rfl) fun a hE => ?_
      exact hr2 false _ _ H (hE.weak ⟨rfl, rfl, rfl, rfl, trivial⟩)
/-! ### lading ladingref12.some: function 36 -/
def V_ladingref12_some (x0 : Sl) (x1 : Int) (w : World) (Ret : Sl → World → Prop) : Prop :=
  opE Try.prog Sl.v (Instr.buildSlice 22 0 [].toArray) w (fun x5 w => opE Try.prog Sl.v (Instr.sliceAt 22 (Sl.v x0) none (some (.int .i64 (if (x0.len : Int) < x1 then (x0.len : Int) else x1))) none) w (fun x11 w => opE Try.prog Sl.v (Builtin.append_ #[22, 22] 22 [(Sl.v x5), (Sl.v x11)].toArray) w (fun x12 w => Ret x12 w)))
set_option maxRecDepth 100000 in
theorem L1_ladingref12_some (x0 : Sl) (x1 : Int) (w : World) (Ret : Sl → World → Prop) (H : V_ladingref12_some x0 x1 w Ret) : Cl Try.prog 36 [(Sl.v x0), (.int .i64 x1)].toArray w (fun e w' => ∃ (r0 : Sl), e = .returned (Sl.v r0) ∧ Ret r0 w') := by
  unfold V_ladingref12_some at H
  refine C.enter 13 (zipE 0 [(Sl.v x0), (.int .i64 x1)]) Try.func36 rfl rfl (by rfl) rfl ?_
  intro a hE
  replace hE : Sat [] 13 [(0, (Sl.v x0)), (1, (.int .i64 x1))] a := hE
  refine C.seq ?_
  refine C.region ?_
  refine hE.pur (X.assign hE rfl) fun a hE => ?_
  refine C.nil (tn ?_)
  refine C.seq ?_
  refine C.region ?_
  refine hE.op (X.buildSlice hE rfl) H fun x5 w a H hE => ?_
  refine hE.pur (X.move hE rfl) fun a hE => ?_
  refine hE.pur (X.move hE rfl) fun a hE => ?_
  refine hE.pur (X.move hE rfl) fun a hE => ?_
  refine hE.purR (fun w => X.lenL hE Try.underlying22 rfl) fun a hE => ?_
  refine hE.pur (X.minI hE rfl rfl) fun a hE => ?_
  refine hE.op (X.slice hE rfl rfl rfl rfl) H fun x11 w a H hE => ?_
  refine hE.op (X.append hE rfl) H fun x12 w a H hE => ?_
  refine hE.pur (X.assign hE rfl) fun a hE => ?_
  refine C.nil (tn ?_)
  exact C.ret (C.ret1 hE rfl rfl ⟨_, rfl, H⟩)
end Go.Proofs.Ytlghlmoifjcgoaa.VG
