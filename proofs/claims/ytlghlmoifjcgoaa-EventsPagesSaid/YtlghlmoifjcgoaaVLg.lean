/- Verification conditions, by program (gen.py), of functions of the loaded program, each with the proof that it gives the call; no condition. -/
import Derived.Test.YtlghlmoifjcgoaaVS
set_option linter.unusedVariables false
set_option linter.unusedSimpArgs false
namespace Go.Proofs.Ytlghlmoifjcgoaa.VG
open Go.VB Go.Proofs

/-! ### lading ladinglaw12.EventsPages: function 6 -/
def V_ladinglaw12_EventsPages_r2 (Ret : Bool → World → Prop) (r_1 : Sl) (x9 : Sl) (x10 : Int) (Kl1 : Sl → Int → World → Prop) (r_3 : Sl) (x43 : Bool) (w : World) : Prop :=
  (x43 = true → (Ret false w)) ∧ (x43 = false → ((((r_3.len : Int) = 0) → (Cl Try.prog 13 [(Sl.v x9), (Sl.v r_1)].toArray w (fun e w => ∃ (r_5 : Bool), e = .returned (.bool r_5) ∧ (Ret r_5 w)))) ∧ (¬ ((r_3.len : Int) = 0) → (opE Try.prog Sl.v (Builtin.append_ #[22, 22] 22 [(Sl.v x9), (Sl.v r_3)].toArray) w (fun x49 w => Kl1 x49 (IntKind.wrap .i64 (x10 + (r_3.len : Int))) w)))))
def V_ladinglaw12_EventsPages_l1b (x0 : Sl) (x1 : ByteArray) (x2 : Int) (Ret : Bool → World → Prop) (r_1 : Sl) (x9 : Sl) (x10 : Int) (w : World) (Kl1 : Sl → Int → World → Prop) : Prop :=
  Cl Try.prog 16 [(Sl.v x0), (.string x1), (.int .i64 x10), (.int .i64 x2)].toArray w (fun e w => ∃ (r_3 : Sl) (r_4 : Int), e = .returned (.tuple [(Sl.v r_3), (.int .i64 r_4)].toArray) ∧ (((r_4 ≠ 0) → (V_ladinglaw12_EventsPages_r2 Ret r_1 x9 x10 Kl1 r_3 true w)) ∧ (¬ (r_4 ≠ 0) → (V_ladinglaw12_EventsPages_r2 Ret r_1 x9 x10 Kl1 r_3 (decide (x2 < (r_3.len : Int))) w))))
def V_ladinglaw12_EventsPages (x0 : Sl) (x1 : ByteArray) (x2 : Int) (w : World) (Ret : Bool → World → Prop) : Prop :=
  Cl Try.prog 12 [].toArray w (fun e w => ∃ (r : Bool), e = .returned (.bool r) ∧ (((!r) = true → (Ret false w)) ∧ ((!r) = false → (Cl Try.prog 16 [(Sl.v x0), (.string x1), (.int .i64 1), (.int .i64 16384)].toArray w (fun e w => ∃ (r_1 : Sl) (r_2 : Int), e = .returned (.tuple [(Sl.v r_1), (.int .i64 r_2)].toArray) ∧ (((r_2 ≠ 0) → (Ret (decide ((r_1.len : Int) = 0)) w)) ∧ (¬ (r_2 ≠ 0) → (((x2 < 1) → (Ret true w)) ∧ (¬ (x2 < 1) → (∃ (I : Sl → Int → World → Prop) (μ : Sl → Int → World → Nat), I Sl.none 1 w ∧ ∀ (x9 : Sl) (x10 : Int) w, I x9 x10 w → V_ladinglaw12_EventsPages_l1b x0 x1 x2 Ret r_1 x9 x10 w (fun x9' x10' w' => I x9' x10' w' ∧ μ x9' x10' w' < μ x9 x10 w)))))))))))
set_option maxRecDepth 100000 in
theorem L1_ladinglaw12_EventsPages (x0 : Sl) (x1 : ByteArray) (x2 : Int) (w : World) (Ret : Bool → World → Prop) (H : V_ladinglaw12_EventsPages x0 x1 x2 w Ret) : Cl Try.prog 6 [(Sl.v x0), (.string x1), (.int .i64 x2)].toArray w (fun e w' => ∃ (r0 : Bool), e = .returned (.bool r0) ∧ Ret r0 w') := by
  unfold V_ladinglaw12_EventsPages at H
  refine C.enter 57 (zipE 0 [(Sl.v x0), (.string x1), (.int .i64 x2)]) Try.func6 rfl rfl (by rfl) rfl ?_
  intro a hE
  replace hE : Sat [] 57 [(0, (Sl.v x0)), (1, (.string x1)), (2, (.int .i64 x2))] a := hE
  refine C.seq ?_
  refine C.region ?_
  refine hE.pur (X.assign hE rfl) fun a hE => ?_
  refine C.nil (tn ?_)
  refine C.seq ?_
  refine C.seq ?_
  refine C.region ?_
  refine hE.call (X.callF hE ent12 rfl rfl) H fun e w H => ?_
  obtain ⟨r, rfl, H⟩ := H
  refine ⟨_, rfl, fun a hE => ?_⟩
  refine hE.pur (X.not hE rfl) fun a hE => ?_
  refine C.nil (tn ?_)
  refine C.condB hE rfl (fun hc => ?_) (fun hc => ?_)
  · replace H := H.1 hc
    refine C.seq ?_
    refine C.region ?_
    refine hE.pur (X.assign hE rfl) fun a hE => ?_
    refine C.nil (tn ?_)
    exact C.ret (tr (C.ret1 hE rfl rfl ⟨_, rfl, H⟩))
  · replace H := H.2 hc
    refine C.skip (tn ?_)
    refine C.seq ?_
    refine C.region ?_
    refine hE.pur (X.move hE rfl) fun a hE => ?_
    refine hE.pur (X.move hE rfl) fun a hE => ?_
    refine hE.call (X.callF hE ent16 rfl rfl) H fun e w H => ?_
    obtain ⟨r_1, r_2, rfl, H⟩ := H
    refine ⟨_, rfl, fun a hE => ?_⟩
    refine hE.pur (X.move hE rfl) fun a hE => ?_
    refine hE.pur (X.extract hE rfl rfl) fun a hE => ?_
    refine hE.pur (X.extract hE rfl rfl) fun a hE => ?_
    refine hE.pur (X.assign hE rfl) fun a hE => ?_
    refine hE.pur (X.assign hE rfl) fun a hE => ?_
    refine C.nil (tn ?_)
    refine C.seq ?_
    refine C.seq ?_
    refine C.region ?_
    refine hE.pur (X.move hE rfl) fun a hE => ?_
    refine hE.pur (X.neI hE rfl rfl) fun a hE => ?_
    refine C.nil (tn ?_)
    refine C.condP hE rfl (fun hc => ?_) (fun hc => ?_)
    · replace H := H.1 hc
      refine C.seq ?_
      refine C.region ?_
      refine hE.pur (X.move hE rfl) fun a hE => ?_
      refine hE.purR (fun w => X.lenL hE Try.underlying22 rfl) fun a hE => ?_
      refine hE.pur (X.eqI hE rfl rfl) fun a hE => ?_
      refine hE.pur (X.assign hE rfl) fun a hE => ?_
      refine C.nil (tn ?_)
      exact C.ret (tr (C.ret1 hE rfl rfl ⟨_, rfl, H⟩))
    · replace H := H.2 hc
      refine C.skip (tn ?_)
      refine C.seq ?_
      refine C.seq ?_
      refine C.region ?_
      refine hE.pur (X.move hE rfl) fun a hE => ?_
      refine hE.pur (X.ltI hE rfl rfl) fun a hE => ?_
      refine C.nil (tn ?_)
      refine C.condP hE rfl (fun hc => ?_) (fun hc => ?_)
      · replace H := H.1 hc
        refine C.seq ?_
        refine C.region ?_
        refine hE.pur (X.assign hE rfl) fun a hE => ?_
        refine C.nil (tn ?_)
        exact C.ret (tr (C.ret1 hE rfl rfl ⟨_, rfl, H⟩))
      · replace H := H.2 hc
        refine C.skip (tn ?_)
        refine C.seq ?_
        refine C.region ?_
        refine hE.pur (X.assign hE rfl) fun a hE => ?_
        refine C.nil (tn ?_)
        refine C.seq ?_
        refine C.seq ?_
        refine C.region ?_
        refine hE.pur (X.assign hE rfl) fun a hE => ?_
        refine C.nil (tn ?_)
        refine C.block ?_
        obtain ⟨I_l1, μ_l1, h0, hb⟩ := H
        refine C.loop (ds := []) (N := 57) (σ := Sl × Int) (fun s => [(9, (Sl.v s.1)), (10, (.int .i64 s.2)), (0, (Sl.v x0)), (1, (.string x1)), (2, (.int .i64 x2)), (7, (Sl.v r_1))]) (fun s w => I_l1 s.1 s.2 w) (fun s w => μ_l1 s.1 s.2 w) (Sl.none, 1) h0 (hE.weak ⟨rfl, rfl, rfl, rfl, rfl, rfl, trivial⟩) ?_
        rintro ⟨x9, x10⟩ w a hI hE
        try dsimp only at hI hE
        obtain ⟨Kl1, hK_l1⟩ : ∃ K : Sl → Int → World → Prop, K = (fun x9' x10' w' => I_l1 x9' x10' w' ∧ μ_l1 x9' x10' w' < μ_l1 x9 x10 w) := ⟨_, rfl⟩
        have H : V_ladinglaw12_EventsPages_l1b x0 x1 x2 Ret r_1 x9 x10 w Kl1 := by rw [hK_l1]; exact hb x9 x10 w hI
        clear hb h0 hI
        unfold V_ladinglaw12_EventsPages_l1b at H
        refine C.block ?_
        refine C.seq ?_
        refine C.region ?_
        refine hE.pur (X.move hE rfl) fun a hE => ?_
        refine hE.pur (X.move hE rfl) fun a hE => ?_
        refine hE.pur (X.move hE rfl) fun a hE => ?_
        refine hE.pur (X.move hE rfl) fun a hE => ?_
        refine hE.call (X.callF hE ent16 rfl rfl) H fun e w H => ?_
        obtain ⟨r_3, r_4, rfl, H⟩ := H
        refine ⟨_, rfl, fun a hE => ?_⟩
        refine hE.pur (X.move hE rfl) fun a hE => ?_
        refine hE.pur (X.extract hE rfl rfl) fun a hE => ?_
        refine hE.pur (X.extract hE rfl rfl) fun a hE => ?_
        refine hE.pur (X.assign hE rfl) fun a hE => ?_
        refine hE.pur (X.assign hE rfl) fun a hE => ?_
        refine C.nil (tn ?_)
        refine C.seq ?_
        refine C.seq ?_
        refine C.region ?_
        refine hE.pur (X.move hE rfl) fun a hE => ?_
        refine hE.pur (X.neI hE rfl rfl) fun a hE => ?_
        refine hE.pur (X.move hE rfl) fun a hE => ?_
        refine WL.join (ds := []) (N := 57) (σ := Bool) (fun s => [(43, (.bool s)), (0, (Sl.v x0)), (1, (.string x1)), (2, (.int .i64 x2)), (7, (Sl.v r_1)), (9, (Sl.v x9)), (10, (.int .i64 x10)), (11, (Sl.v r_3))]) (fun s w => V_ladinglaw12_EventsPages_r2 Ret r_1 x9 x10 Kl1 r_3 s w) 5 ?_ (fun hr2 => ?_)
        · intro x43 w a H hE
          try dsimp only at H hE
          unfold V_ladinglaw12_EventsPages_r2 at H
          refine C.nil (tn ?_)
          refine C.condB hE rfl (fun hc => ?_) (fun hc => ?_)
          · replace H := H.1 hc
            refine C.seq ?_
            refine C.region ?_
            refine hE.pur (X.assign hE rfl) fun a hE => ?_
            refine C.nil (tn ?_)
            exact C.ret (tr (br (tr (br (tr (C.ret1 hE rfl rfl ⟨_, rfl, H⟩))))))
          · replace H := H.2 hc
            refine C.skip (tn ?_)
            refine C.seq ?_
            refine C.seq ?_
            refine C.region ?_
            refine hE.pur (X.move hE rfl) fun a hE => ?_
            refine hE.purR (fun w => X.lenL hE Try.underlying22 rfl) fun a hE => ?_
            refine hE.pur (X.eqI hE rfl rfl) fun a hE => ?_
            refine C.nil (tn ?_)
            refine C.condP hE rfl (fun hc => ?_) (fun hc => ?_)
            · replace H := H.1 hc
              refine C.exit (te (bo (te (be (tn ?_)))))
              refine C.seq ?_
              refine C.region ?_
              refine hE.pur (X.move hE rfl) fun a hE => ?_
              refine hE.pur (X.move hE rfl) fun a hE => ?_
              refine hE.call (X.callF hE ent13 rfl rfl) H fun e w H => ?_
              obtain ⟨r_5, rfl, H⟩ := H
              refine ⟨_, rfl, fun a hE => ?_⟩
              refine hE.pur (X.assign hE rfl) fun a hE => ?_
              refine C.nil (tn ?_)
              exact C.ret (C.ret1 hE rfl rfl ⟨_, rfl, H⟩)
            · replace H := H.2 hc
              refine C.skip (tn ?_)
              refine C.seq ?_
              refine C.region ?_
              refine hE.pur (X.move hE rfl) fun a hE => ?_
              refine hE.pur (X.move hE rfl) fun a hE => ?_
              refine hE.op (X.append hE rfl) H fun x49 w a H hE => ?_
              refine hE.pur (X.assign hE rfl) fun a hE => ?_
              refine C.nil (tn ?_)
              refine C.region ?_
              refine hE.pur (X.move hE rfl) fun a hE => ?_
              refine hE.pur (X.move hE rfl) fun a hE => ?_
              refine hE.purR (fun w => X.lenL hE Try.underlying22 rfl) fun a hE => ?_
              refine hE.pur (X.add hE rfl rfl) fun a hE => ?_
              refine hE.pur (X.assign hE rfl) fun a hE => ?_
              rw [hK_l1] at H
              exact C.nil (bn (tn ⟨(x49, (IntKind.wrap .i64 (x10 + (r_3.len : Int)))), hE.weak ⟨rfl, rfl, rfl, rfl, rfl, rfl, trivial⟩, H⟩))
        · rcases Classical.em ((r_4 ≠ 0)) with hbr2 | hbr2
          · replace H := H.1 hbr2
            replace hE := hE.bool (b := true) (t := 38) rfl (decide_eq_true hbr2)
            refine hE.off (by rfl) (by rfl) (by decide) (fun a hE => ?_)
            refine hE.off (by rfl) (by rfl) (by decide) (fun a hE => ?_)
            refine hE.off (by rfl) (by rfl) (by decide) (fun a hE => ?_)
            refine hE.off (by rfl) (by rfl) (by decide) (fun a hE => ?_)
            refine hE.pur (X.pickT hE rfl rfl) fun a hE => ?_
            exact hr2 true _ _ H (hE.weak ⟨rfl, rfl, rfl, rfl, rfl, rfl, rfl, rfl, trivial⟩)
          · replace H := H.2 hbr2
            replace hE := hE.bool (b := false) (t := 38) rfl (decide_eq_false hbr2)
            refine hE.on (by rfl) (by rfl) ?_
            refine hE.pur (X.move hE rfl) fun a hE => ?_
            refine hE.on (by rfl) (by rfl) ?_
            refine hE.purR (fun w => X.lenL hE Try.underlying22 rfl) fun a hE => ?_
            refine hE.on (by rfl) (by rfl) ?_
            refine hE.pur (X.move hE rfl) fun a hE => ?_
            refine hE.on (by rfl) (by rfl) ?_
            refine hE.pur (X.gtI hE rfl rfl) fun a hE => ?_
            refine hE.pur (X.pickF hE rfl rfl) fun a hE => ?_
            exact hr2 (decide (x2 < (r_3.len : Int))) _ _ H (hE.weak ⟨rfl, rfl, rfl, rfl, rfl, rfl, rfl, rfl, trivial⟩)
end Go.Proofs.Ytlghlmoifjcgoaa.VG
