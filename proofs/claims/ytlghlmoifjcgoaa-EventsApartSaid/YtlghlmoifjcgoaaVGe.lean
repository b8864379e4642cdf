/- Verification conditions, by program (gen.py), of functions of the loaded program, each with the proof that it gives the call; no condition. -/
import Derived.Test.YtlghlmoifjcgoaaVS
set_option linter.unusedVariables false
set_option linter.unusedSimpArgs false
namespace Go.Proofs.Ytlghlmoifjcgoaa.VG
open Go.VB Go.Proofs

/-! ### lading events.Append: function 10 -/
def V_events_Append_j6 (x16 : Sl) (x75 : Int) (Kl5 : Sl → Int → World → Prop) (x19 : Option Addr) (w : World) : Prop :=
  opE Try.prog T_api_Event.v (Instr.loadAt 32 (.pointer x19)) w (fun x95 w => opE Try.prog Sl.v (Instr.buildSlice 22 1 [(0, (T_api_Event.v x95))].toArray) w (fun x96 w => opE Try.prog Sl.v (Builtin.append_ #[22, 22] 22 [(Sl.v x16), (Sl.v x96)].toArray) w (fun x97 w => Kl5 x97 (IntKind.wrap .i64 (x75 + 1)) w)))
def V_events_Append_l5b (x1 : ByteArray) (x3 : ByteArray) (x4 : Sl) (Ret : Sl → Int → Int → World → Prop) (r_3 : Sl) (x16 : Sl) (x75 : Int) (w : World) (Kl5 : Sl → Int → World → Prop) : Prop :=
  ((x75 < (x4.len : Int)) → (opE Try.prog Value.pointer (Instr.indexAt 23 (Sl.v x4) (.int .i64 x75)) w (fun x78 w => opE Try.prog Value.string (Instr.loadAt 9 (.pointer x78)) w (fun x79 w => opE Try.prog T_api_Event.v (Instr.build 32 [(0, (.string x1)), (1, (.int .i64 (IntKind.wrap .i64 ((IntKind.wrap .i64 ((r_3.len : Int) + 1)) + x75)))), (2, (.int .i64 (IntKind.wrap .i64 ((x16.len : Int) + 1)))), (4, (.string x79))].toArray) w (fun x89 w => opE Try.prog Value.pointer (Instr.alloc 32 true (.tuple #[])) w (fun x19 w => opU Try.prog (Instr.storeAt 32 (.pointer x19) (T_api_Event.v x89)) w (fun w => ((x75 = 0) → (opE Try.prog Value.pointer (Instr.fieldAt 32 (.pointer x19) 3) w (fun x93 w => opU Try.prog (Instr.storeAt 9 (.pointer x93) (.string x3)) w (fun w => V_events_Append_j6 x16 x75 Kl5 x19 w)))) ∧ (¬ (x75 = 0) → (V_events_Append_j6 x16 x75 Kl5 x19 w))))))))) ∧ (¬ (x75 < (x4.len : Int)) → (Ret x16 (IntKind.wrap .i64 ((r_3.len : Int) + (x4.len : Int))) 0 w))
def V_events_Append_r4 (x0 : Sl) (x1 : ByteArray) (x3 : ByteArray) (x4 : Sl) (Ret : Sl → Int → Int → World → Prop) (r_3 : Sl) (r_4 : Sl) (x65 : Bool) (w : World) : Prop :=
  (x65 = true → (Ret Sl.none 0 10 w)) ∧ (x65 = false → ((((IntKind.wrap .i64 (16384 - (x0.len : Int))) < (x4.len : Int)) → (Ret Sl.none 0 3 w)) ∧ (¬ ((IntKind.wrap .i64 (16384 - (x0.len : Int))) < (x4.len : Int)) → (∃ (I : Sl → Int → World → Prop) (μ : Sl → Int → World → Nat), I r_4 0 w ∧ ∀ (x16 : Sl) (x75 : Int) w, I x16 x75 w → V_events_Append_l5b x1 x3 x4 Ret r_3 x16 x75 w (fun x16' x75' w' => I x16' x75' w' ∧ μ x16' x75' w' < μ x16 x75 w)))))
def V_events_Append_r3 (x0 : Sl) (x1 : ByteArray) (x2 : Int) (x3 : ByteArray) (x4 : Sl) (Ret : Sl → Int → Int → World → Prop) (r : Int) (r_3 : Sl) (r_4 : Sl) (x52 : Bool) (w : World) : Prop :=
  (x52 = true → (Ret Sl.none 0 4 w)) ∧ (x52 = false → (((0 < r) → (Ret r_4 (r_3.len : Int) 0 w)) ∧ (¬ (0 < r) → (((0 ≤ x2) → (V_events_Append_r4 x0 x1 x3 x4 Ret r_3 r_4 (decide (x2 ≠ (r_3.len : Int))) w)) ∧ (¬ (0 ≤ x2) → (V_events_Append_r4 x0 x1 x3 x4 Ret r_3 r_4 false w))))))
def V_events_Append_r2 (x0 : Sl) (x1 : ByteArray) (x2 : Int) (x3 : ByteArray) (x4 : Sl) (Ret : Sl → Int → Int → World → Prop) (r : Int) (r_3 : Sl) (r_4 : Sl) (x48 : Bool) (w : World) : Prop :=
  (x48 = true → (V_events_Append_r3 x0 x1 x2 x3 x4 Ret r r_3 r_4 true w)) ∧ (x48 = false → (Cl Try.prog 29 [(Sl.v x4), (.func (.func 28) #[] #[])].toArray w (fun e w => ∃ (r_5 : Bool), e = .returned (.bool r_5) ∧ (V_events_Append_r3 x0 x1 x2 x3 x4 Ret r r_3 r_4 r_5 w))))
def V_events_Append_r1 (x0 : Sl) (x1 : ByteArray) (x2 : Int) (x3 : ByteArray) (x4 : Sl) (Ret : Sl → Int → Int → World → Prop) (r : Int) (r_3 : Sl) (r_4 : Sl) (x44 : Bool) (w : World) : Prop :=
  (x44 = true → (V_events_Append_r2 x0 x1 x2 x3 x4 Ret r r_3 r_4 true w)) ∧ (x44 = false → (Cl Try.prog 28 [(.string x3)].toArray w (fun e w => ∃ (r_6 : Bool), e = .returned (.bool r_6) ∧ (V_events_Append_r2 x0 x1 x2 x3 x4 Ret r r_3 r_4 r_6 w))))
def V_events_Append (x0 : Sl) (x1 : ByteArray) (x2 : Int) (x3 : ByteArray) (x4 : Sl) (w : World) (Ret : Sl → Int → Int → World → Prop) : Prop :=
  Cl Try.prog 17 [(Sl.v x0), (.string x1), (.string x3)].toArray w (fun e w => ∃ (r : Int) (r_1 : Int), e = .returned (.tuple [(.int .i64 r), (.int .i64 r_1)].toArray) ∧ (Cl Try.prog 26 [(Sl.v x0), (.string x1)].toArray w (fun e w => ∃ (r_2 : Value), e = .returned r_2 ∧ (Cl Try.prog 25 [r_2].toArray w (fun e w => ∃ (r_3 : Sl), e = .returned (Sl.v r_3) ∧ (Cl Try.prog 27 [(Sl.v x0)].toArray w (fun e w => ∃ (r_4 : Sl), e = .returned (Sl.v r_4) ∧ (((r_1 ≠ 0) → (Ret Sl.none 0 r_1 w)) ∧ (¬ (r_1 ≠ 0) → (((x1 = (ByteArray.mk #[])) → (V_events_Append_r1 x0 x1 x2 x3 x4 Ret r r_3 r_4 true w)) ∧ (¬ (x1 = (ByteArray.mk #[])) → (Cl Try.prog 28 [(.string x1)].toArray w (fun e w => ∃ (r_7 : Bool), e = .returned (.bool r_7) ∧ (V_events_Append_r1 x0 x1 x2 x3 x4 Ret r r_3 r_4 r_7 w))))))))))))))
set_option maxRecDepth 100000 in
theorem L1_events_Append (x0 : Sl) (x1 : ByteArray) (x2 : Int) (x3 : ByteArray) (x4 : Sl) (w : World) (Ret : Sl → Int → Int → World → Prop) (H : V_events_Append x0 x1 x2 x3 x4 w Ret) : Cl Try.prog 10 [(Sl.v x0), (.string x1), (.int .i64 x2), (.string x3), (Sl.v x4)].toArray w (fun e w' => ∃ (r0 : Sl) (r1 : Int) (r2 : Int), e = .returned (.tuple [(Sl.v r0), (.int .i64 r1), (.int .i64 r2)].toArray) ∧ Ret r0 r1 r2 w') := by
  unfold V_events_Append at H
  refine C.enter 104 (zipE 0 [(Sl.v x0), (.string x1), (.int .i64 x2), (.string x3), (Sl.v x4)]) Try.func10 rfl rfl (by rfl) rfl ?_
  intro a hE
  replace hE : Sat [] 104 [(0, (Sl.v x0)), (1, (.string x1)), (2, (.int .i64 x2)), (3, (.string x3)), (4, (Sl.v x4))] a := hE
  refine C.seq ?_
  refine C.region ?_
  refine hE.pur (X.assign hE rfl) fun a hE => ?_
  refine hE.pur (X.assign hE rfl) fun a hE => ?_
  refine hE.pur (X.assign hE rfl) fun a hE => ?_
  refine C.nil (tn ?_)
  refine C.seq ?_
  refine C.region ?_
  refine hE.pur (X.move hE rfl) fun a hE => ?_
  refine hE.pur (X.move hE rfl) fun a hE => ?_
  refine hE.pur (X.move hE rfl) fun a hE => ?_
  refine hE.call (X.callF hE ent17 rfl rfl) H fun e w H => ?_
  obtain ⟨r, r_1, rfl, H⟩ := H
  refine ⟨_, rfl, fun a hE => ?_⟩
  refine hE.pur (X.move hE rfl) fun a hE => ?_
  refine hE.pur (X.extract hE rfl rfl) fun a hE => ?_
  refine hE.pur (X.extract hE rfl rfl) fun a hE => ?_
  refine hE.pur (X.assign hE rfl) fun a hE => ?_
  refine hE.pur (X.assign hE rfl) fun a hE => ?_
  refine C.nil (tn ?_)
  refine C.seq ?_
  refine C.region ?_
  refine hE.pur (X.move hE rfl) fun a hE => ?_
  refine hE.pur (X.move hE rfl) fun a hE => ?_
  refine hE.call (X.callF hE ent26 rfl rfl) H fun e w H => ?_
  obtain ⟨r_2, rfl, H⟩ := H
  refine ⟨_, rfl, fun a hE => ?_⟩
  refine hE.call (X.callF hE ent25 rfl rfl) H fun e w H => ?_
  obtain ⟨r_3, rfl, H⟩ := H
  refine ⟨_, rfl, fun a hE => ?_⟩
  refine hE.purR (fun w => X.lenL hE Try.underlying22 rfl) fun a hE => ?_
  refine hE.pur (X.assign hE rfl) fun a hE => ?_
  refine C.nil (tn ?_)
  refine C.seq ?_
  refine C.region ?_
  refine hE.pur (X.move hE rfl) fun a hE => ?_
  refine hE.call (X.callF hE ent27 rfl rfl) H fun e w H => ?_
  obtain ⟨r_4, rfl, H⟩ := H
  refine ⟨_, rfl, fun a hE => ?_⟩
  refine hE.pur (X.assign hE rfl) fun a hE => ?_
  refine C.nil (tn ?_)
  refine C.seq ?_
  refine C.block ?_
  refine C.seq ?_
  refine C.region ?_
  refine hE.pur (X.move hE rfl) fun a hE => ?_
  refine hE.pur (X.neI hE rfl rfl) fun a hE => ?_
  refine hE.pur (X.assign hE rfl) fun a hE => ?_
  refine C.nil (tn ?_)
  refine C.condP hE rfl (fun hc => ?_) (fun hc => ?_)
  · replace H := H.1 hc
    refine C.seq ?_
    refine C.region ?_
    refine hE.pur (X.move hE rfl) fun a hE => ?_
    refine hE.pur (X.assign hE rfl) fun a hE => ?_
    refine hE.pur (X.assign hE rfl) fun a hE => ?_
    refine hE.pur (X.assign hE rfl) fun a hE => ?_
    refine C.nil (tn ?_)
    exact C.ret (br (tr (C.ret3 hE rfl rfl rfl rfl ⟨_, _, _, rfl, H⟩)))
  · replace H := H.2 hc
    refine C.seq ?_
    refine C.region ?_
    refine hE.pur (X.move hE rfl) fun a hE => ?_
    refine hE.pur (X.eqS hE rfl rfl) fun a hE => ?_
    refine hE.pur (X.move hE rfl) fun a hE => ?_
    refine WL.join (ds := []) (N := 104) (σ := Bool) (fun s => [(44, (.bool s)), (0, (Sl.v x0)), (1, (.string x1)), (2, (.int .i64 x2)), (3, (.string x3)), (4, (Sl.v x4)), (13, (.int .i64 r)), (15, (.int .i64 (r_3.len : Int))), (16, (Sl.v r_4))]) (fun s w => V_events_Append_r1 x0 x1 x2 x3 x4 Ret r r_3 r_4 s w) 3 ?_ (fun hr1 => ?_)
    · intro x44 w a H hE
      try dsimp only at H hE
      unfold V_events_Append_r1 at H
      refine hE.pur (X.move hE rfl) fun a hE => ?_
      refine WL.join (ds := []) (N := 104) (σ := Bool) (fun s => [(48, (.bool s)), (0, (Sl.v x0)), (1, (.string x1)), (2, (.int .i64 x2)), (3, (.string x3)), (4, (Sl.v x4)), (13, (.int .i64 r)), (15, (.int .i64 (r_3.len : Int))), (16, (Sl.v r_4))]) (fun s w => V_events_Append_r2 x0 x1 x2 x3 x4 Ret r r_3 r_4 s w) 3 ?_ (fun hr2 => ?_)
      · intro x48 w a H hE
        try dsimp only at H hE
        unfold V_events_Append_r2 at H
        refine hE.pur (X.move hE rfl) fun a hE => ?_
        refine WL.join (ds := []) (N := 104) (σ := Bool) (fun s => [(52, (.bool s)), (0, (Sl.v x0)), (1, (.string x1)), (2, (.int .i64 x2)), (3, (.string x3)), (4, (Sl.v x4)), (13, (.int .i64 r)), (15, (.int .i64 (r_3.len : Int))), (16, (Sl.v r_4))]) (fun s w => V_events_Append_r3 x0 x1 x2 x3 x4 Ret r r_3 r_4 s w) 3 ?_ (fun hr3 => ?_)
        · intro x52 w a H hE
          try dsimp only at H hE
          unfold V_events_Append_r3 at H
          refine hE.pur (X.assign hE rfl) fun a hE => ?_
          refine C.nil (tn ?_)
          refine C.condB hE rfl (fun hc => ?_) (fun hc => ?_)
          · replace H := H.1 hc
            refine C.seq ?_
            refine C.region ?_
            refine hE.pur (X.assign hE rfl) fun a hE => ?_
            refine hE.pur (X.assign hE rfl) fun a hE => ?_
            refine hE.pur (X.assign hE rfl) fun a hE => ?_
            refine C.nil (tn ?_)
            exact C.ret (br (tr (C.ret3 hE rfl rfl rfl rfl ⟨_, _, _, rfl, H⟩)))
          · replace H := H.2 hc
            refine C.seq ?_
            refine C.region ?_
            refine hE.pur (X.move hE rfl) fun a hE => ?_
            refine hE.pur (X.gtI hE rfl rfl) fun a hE => ?_
            refine hE.pur (X.assign hE rfl) fun a hE => ?_
            refine C.nil (tn ?_)
            refine C.condP hE rfl (fun hc => ?_) (fun hc => ?_)
            · replace H := H.1 hc
              refine C.seq ?_
              refine C.region ?_
              refine hE.pur (X.move hE rfl) fun a hE => ?_
              refine hE.pur (X.move hE rfl) fun a hE => ?_
              refine hE.pur (X.assign hE rfl) fun a hE => ?_
              refine hE.pur (X.assign hE rfl) fun a hE => ?_
              refine hE.pur (X.assign hE rfl) fun a hE => ?_
              refine C.nil (tn ?_)
              exact C.ret (br (tr (C.ret3 hE rfl rfl rfl rfl ⟨_, _, _, rfl, H⟩)))
            · replace H := H.2 hc
              refine C.seq ?_
              refine C.region ?_
              refine hE.pur (X.move hE rfl) fun a hE => ?_
              refine hE.pur (X.geI hE rfl rfl) fun a hE => ?_
              refine hE.pur (X.move hE rfl) fun a hE => ?_
              refine WL.join (ds := []) (N := 104) (σ := Bool) (fun s => [(65, (.bool s)), (0, (Sl.v x0)), (1, (.string x1)), (3, (.string x3)), (4, (Sl.v x4)), (15, (.int .i64 (r_3.len : Int))), (16, (Sl.v r_4))]) (fun s w => V_events_Append_r4 x0 x1 x3 x4 Ret r_3 r_4 s w) 4 ?_ (fun hr4 => ?_)
              · intro x65 w a H hE
                try dsimp only at H hE
                unfold V_events_Append_r4 at H
                refine hE.pur (X.assign hE rfl) fun a hE => ?_
                refine C.nil (tn ?_)
                refine C.condB hE rfl (fun hc => ?_) (fun hc => ?_)
                · replace H := H.1 hc
                  refine C.seq ?_
                  refine C.region ?_
                  refine hE.pur (X.assign hE rfl) fun a hE => ?_
                  refine hE.pur (X.assign hE rfl) fun a hE => ?_
                  refine hE.pur (X.assign hE rfl) fun a hE => ?_
                  refine C.nil (tn ?_)
                  exact C.ret (br (tr (C.ret3 hE rfl rfl rfl rfl ⟨_, _, _, rfl, H⟩)))
                · replace H := H.2 hc
                  refine C.seq ?_
                  refine C.region ?_
                  refine hE.pur (X.move hE rfl) fun a hE => ?_
                  refine hE.purR (fun w => X.lenL hE Try.underlying23 rfl) fun a hE => ?_
                  refine hE.pur (X.move hE rfl) fun a hE => ?_
                  refine hE.purR (fun w => X.lenL hE Try.underlying22 rfl) fun a hE => ?_
                  refine hE.pur (X.sub hE rfl rfl) fun a hE => ?_
                  refine hE.pur (X.gtI hE rfl rfl) fun a hE => ?_
                  refine hE.pur (X.assign hE rfl) fun a hE => ?_
                  refine C.nil (tn ?_)
                  refine C.condP hE rfl (fun hc => ?_) (fun hc => ?_)
                  · replace H := H.1 hc
                    refine C.seq ?_
                    refine C.region ?_
                    refine hE.pur (X.assign hE rfl) fun a hE => ?_
                    refine hE.pur (X.assign hE rfl) fun a hE => ?_
                    refine hE.pur (X.assign hE rfl) fun a hE => ?_
                    refine C.nil (tn ?_)
                    exact C.ret (br (tr (C.ret3 hE rfl rfl rfl rfl ⟨_, _, _, rfl, H⟩)))
                  · replace H := H.2 hc
                    refine C.skip (bn (tn ?_))
                    refine C.seq ?_
                    refine C.seq ?_
                    refine C.region ?_
                    refine hE.pur (X.move hE rfl) fun a hE => ?_
                    refine hE.purR (fun w => X.lenL hE Try.underlying23 rfl) fun a hE => ?_
                    refine hE.pur (X.move hE rfl) fun a hE => ?_
                    refine C.nil (tn ?_)
                    refine C.block ?_
                    obtain ⟨I_l5, μ_l5, h0, hb⟩ := H
                    refine C.loop (ds := []) (N := 104) (σ := Sl × Int) (fun s => [(16, (Sl.v s.1)), (75, (.int .i64 s.2)), (1, (.string x1)), (3, (.string x3)), (4, (Sl.v x4)), (15, (.int .i64 (r_3.len : Int))), (73, (Sl.v x4)), (74, (.int .i64 (x4.len : Int)))]) (fun s w => I_l5 s.1 s.2 w) (fun s w => μ_l5 s.1 s.2 w) (r_4, 0) h0 (hE.weak ⟨rfl, rfl, rfl, rfl, rfl, rfl, rfl, rfl, trivial⟩) ?_
                    rintro ⟨x16, x75⟩ w a hI hE
                    try dsimp only at hI hE
                    obtain ⟨Kl5, hK_l5⟩ : ∃ K : Sl → Int → World → Prop, K = (fun x16' x75' w' => I_l5 x16' x75' w' ∧ μ_l5 x16' x75' w' < μ_l5 x16 x75 w) := ⟨_, rfl⟩
                    have H : V_events_Append_l5b x1 x3 x4 Ret r_3 x16 x75 w Kl5 := by rw [hK_l5]; exact hb x16 x75 w hI
                    clear hb h0 hI
                    unfold V_events_Append_l5b at H
                    refine C.seq ?_
                    refine C.region ?_
                    refine hE.pur (X.ltI hE rfl rfl) fun a hE => ?_
                    refine C.nil (tn ?_)
                    refine C.seq ?_
                    refine C.condP hE rfl (fun hc => ?_) (fun hc => ?_)
                    · replace H := H.1 hc
                      refine C.skip (tn ?_)
                      refine C.seq ?_
                      refine C.block ?_
                      refine C.seq ?_
                      refine C.region ?_
                      refine hE.pur (X.move hE rfl) fun a hE => ?_
                      refine hE.op (X.indexAddr hE rfl rfl) H fun x78 w a H hE => ?_
                      refine hE.op (X.load hE rfl) H fun x79 w a H hE => ?_
                      refine hE.pur (X.assign hE rfl) fun a hE => ?_
                      refine hE.pur (X.assign hE rfl) fun a hE => ?_
                      refine C.nil (tn ?_)
                      refine C.seq ?_
                      refine C.region ?_
                      refine hE.pur (X.move hE rfl) fun a hE => ?_
                      refine hE.pur (X.move hE rfl) fun a hE => ?_
                      refine hE.pur (X.add hE rfl rfl) fun a hE => ?_
                      refine hE.pur (X.move hE rfl) fun a hE => ?_
                      refine hE.pur (X.add hE rfl rfl) fun a hE => ?_
                      refine hE.pur (X.move hE rfl) fun a hE => ?_
                      refine hE.purR (fun w => X.lenL hE Try.underlying22 rfl) fun a hE => ?_
                      refine hE.pur (X.add hE rfl rfl) fun a hE => ?_
                      refine hE.pur (X.move hE rfl) fun a hE => ?_
                      refine hE.op (X.build hE rfl) H fun x89 w a H hE => ?_
                      refine hE.op (X.alloc) H fun x19 w a H hE => ?_
                      refine hE.opu (X.store hE rfl rfl) H fun w a H hE => ?_
                      refine C.nil (tn ?_)
                      refine C.join (ds := []) (N := 104) (σ := Unit) (fun s => [(1, (.string x1)), (3, (.string x3)), (4, (Sl.v x4)), (15, (.int .i64 (r_3.len : Int))), (16, (Sl.v x16)), (19, (.pointer x19)), (73, (Sl.v x4)), (74, (.int .i64 (x4.len : Int))), (75, (.int .i64 x75))]) (fun s w => V_events_Append_j6 x16 x75 Kl5 x19  w) ?_ (fun hj6 => ?_)
                      · rintro ⟨⟩ w a H hE
                        try dsimp only at H hE
                        unfold V_events_Append_j6 at H
                        refine C.region ?_
                        refine hE.pur (X.move hE rfl) fun a hE => ?_
                        refine hE.op (X.load hE rfl) H fun x95 w a H hE => ?_
                        refine hE.op (X.buildSlice hE rfl) H fun x96 w a H hE => ?_
                        refine hE.op (X.append hE rfl) H fun x97 w a H hE => ?_
                        refine hE.pur (X.assign hE rfl) fun a hE => ?_
                        refine C.nil (bn (tn ?_))
                        refine C.region ?_
                        refine hE.pur (X.add hE rfl rfl) fun a hE => ?_
                        refine hE.pur (X.move hE rfl) fun a hE => ?_
                        rw [hK_l5] at H
                        exact C.nil (tn ⟨(x97, (IntKind.wrap .i64 (x75 + 1))), hE.weak ⟨rfl, rfl, rfl, rfl, rfl, rfl, rfl, rfl, trivial⟩, H⟩)
                      · refine C.seq ?_
                        refine C.region ?_
                        refine hE.pur (X.move hE rfl) fun a hE => ?_
                        refine hE.pur (X.eqI hE rfl rfl) fun a hE => ?_
                        refine C.nil (tn ?_)
                        refine C.condP hE rfl (fun hc => ?_) (fun hc => ?_)
                        · replace H := H.1 hc
                          refine C.region ?_
                          refine hE.pur (X.move hE rfl) fun a hE => ?_
                          refine hE.op (X.fieldAddr hE rfl) H fun x93 w a H hE => ?_
                          refine hE.opu (X.store hE rfl rfl) H fun w a H hE => ?_
                          exact C.nil (tn (hj6 () _ _ H (hE.weak ⟨rfl, rfl, rfl, rfl, rfl, rfl, rfl, rfl, rfl, trivial⟩)))
                        · replace H := H.2 hc
                          exact C.skip (tn (hj6 () _ _ H (hE.weak ⟨rfl, rfl, rfl, rfl, rfl, rfl, rfl, rfl, rfl, trivial⟩)))
                    · replace H := H.2 hc
                      refine C.exit (te (te (be (tn ?_))))
                      refine C.seq ?_
                      refine C.region ?_
                      refine hE.pur (X.move hE rfl) fun a hE => ?_
                      refine hE.pur (X.move hE rfl) fun a hE => ?_
                      refine hE.pur (X.move hE rfl) fun a hE => ?_
                      refine hE.purR (fun w => X.lenL hE Try.underlying23 rfl) fun a hE => ?_
                      refine hE.pur (X.add hE rfl rfl) fun a hE => ?_
                      refine hE.pur (X.assign hE rfl) fun a hE => ?_
                      refine hE.pur (X.assign hE rfl) fun a hE => ?_
                      refine hE.pur (X.assign hE rfl) fun a hE => ?_
                      refine C.nil (tn ?_)
                      exact C.ret (C.ret3 hE rfl rfl rfl rfl ⟨_, _, _, rfl, H⟩)
              · rcases Classical.em ((0 ≤ x2)) with hbr4 | hbr4
                · replace H := H.1 hbr4
                  replace hE := hE.bool (b := true) (t := 61) rfl (decide_eq_true hbr4)
                  refine hE.on (by rfl) (by rfl) ?_
                  refine hE.pur (X.move hE rfl) fun a hE => ?_
                  refine hE.on (by rfl) (by rfl) ?_
                  refine hE.pur (X.move hE rfl) fun a hE => ?_
                  refine hE.on (by rfl) (by rfl) ?_
                  refine hE.pur (X.neI hE rfl rfl) fun a hE => ?_
                  refine hE.pur (X.pickT hE rfl rfl) fun a hE => ?_
                  exact hr4 (decide (x2 ≠ (r_3.len : Int))) _ _ H (hE.weak ⟨rfl, rfl, rfl, rfl, rfl, rfl, rfl, trivial⟩)
                · replace H := H.2 hbr4
                  replace hE := hE.bool (b := false) (t := 61) rfl (decide_eq_false hbr4)
                  refine hE.off (by rfl) (by rfl) (by decide) (fun a hE => ?_)
                  refine hE.off (by rfl) (by rfl) (by decide) (fun a hE => ?_)
                  refine hE.off (by rfl) (by rfl) (by decide) (fun a hE => ?_)
                  refine hE.pur (X.pickF hE rfl rfl) fun a hE => ?_
                  exact hr4 false _ _ H (hE.weak ⟨rfl, rfl, rfl, rfl, rfl, rfl, rfl, trivial⟩)
        · rcases Bool.eq_false_or_eq_true (x48) with hbr3 | hbr3
          · replace H := H.1 hbr3
            replace hE := hE.bool (b := true) (t := 49) rfl (hbr3)
            refine hE.off (by rfl) (by rfl) (by decide) (fun a hE => ?_)
            refine hE.off (by rfl) (by rfl) (by decide) (fun a hE => ?_)
            refine hE.pur (X.pickT hE rfl rfl) fun a hE => ?_
            exact hr3 true _ _ H (hE.weak ⟨rfl, rfl, rfl, rfl, rfl, rfl, rfl, rfl, rfl, trivial⟩)
          · replace H := H.2 hbr3
            replace hE := hE.bool (b := false) (t := 49) rfl (hbr3)
            refine hE.on (by rfl) (by rfl) ?_
            refine hE.pur (X.move hE rfl) fun a hE => ?_
            refine hE.on (by rfl) (by rfl) ?_
            refine hE.call (X.callF hE ent29 rfl rfl) H fun e w H => ?_
            obtain ⟨r_5, rfl, H⟩ := H
            refine ⟨_, rfl, fun a hE => ?_⟩
            refine hE.pur (X.pickF hE rfl rfl) fun a hE => ?_
            exact hr3 r_5 _ _ H (hE.weak ⟨rfl, rfl, rfl, rfl, rfl, rfl, rfl, rfl, rfl, trivial⟩)
      · rcases Bool.eq_false_or_eq_true (x44) with hbr2 | hbr2
        · replace H := H.1 hbr2
          replace hE := hE.bool (b := true) (t := 45) rfl (hbr2)
          refine hE.off (by rfl) (by rfl) (by decide) (fun a hE => ?_)
          refine hE.off (by rfl) (by rfl) (by decide) (fun a hE => ?_)
          refine hE.pur (X.pickT hE rfl rfl) fun a hE => ?_
          exact hr2 true _ _ H (hE.weak ⟨rfl, rfl, rfl, rfl, rfl, rfl, rfl, rfl, rfl, trivial⟩)
        · replace H := H.2 hbr2
          replace hE := hE.bool (b := false) (t := 45) rfl (hbr2)
          refine hE.on (by rfl) (by rfl) ?_
          refine hE.pur (X.move hE rfl) fun a hE => ?_
          refine hE.on (by rfl) (by rfl) ?_
          refine hE.call (X.callF hE ent28 rfl rfl) H fun e w H => ?_
          obtain ⟨r_6, rfl, H⟩ := H
          refine ⟨_, rfl, fun a hE => ?_⟩
          refine hE.pur (X.pickF hE rfl rfl) fun a hE => ?_
          exact hr2 r_6 _ _ H (hE.weak ⟨rfl, rfl, rfl, rfl, rfl, rfl, rfl, rfl, rfl, trivial⟩)
    · rcases Classical.em ((x1 = (ByteArray.mk #[]))) with hbr1 | hbr1
      · replace H := H.1 hbr1
        replace hE := hE.bool (b := true) (t := 41) rfl (decide_eq_true hbr1)
        refine hE.off (by rfl) (by rfl) (by decide) (fun a hE => ?_)
        refine hE.off (by rfl) (by rfl) (by decide) (fun a hE => ?_)
        refine hE.pur (X.pickT hE rfl rfl) fun a hE => ?_
        exact hr1 true _ _ H (hE.weak ⟨rfl, rfl, rfl, rfl, rfl, rfl, rfl, rfl, rfl, trivial⟩)
      · replace H := H.2 hbr1
        replace hE := hE.bool (b := false) (t := 41) rfl (decide_eq_false hbr1)
        refine hE.on (by rfl) (by rfl) ?_
        refine hE.pur (X.move hE rfl) fun a hE => ?_
        refine hE.on (by rfl) (by rfl) ?_
        refine hE.call (X.callF hE ent28 rfl rfl) H fun e w H => ?_
        obtain ⟨r_7, rfl, H⟩ := H
        refine ⟨_, rfl, fun a hE => ?_⟩
        refine hE.pur (X.pickF hE rfl rfl) fun a hE => ?_
        exact hr1 r_7 _ _ H (hE.weak ⟨rfl, rfl, rfl, rfl, rfl, rfl, rfl, rfl, rfl, trivial⟩)
/-! ### lading events.Check: function 14 -/
def V_events_Check_r7 (Ret : Int → World → Prop) (x12 : Option Nat) (x15 : Int) (Kl1 : Int → World → Prop) (x7 : Option Addr) (x74 : Bool) (w : World) : Prop :=
  (x74 = true → (Ret 2 w)) ∧ (x74 = false → (nextB w (fun w => opE Try.prog T_events_mark.v (Instr.loadAt 57 (.pointer x7)) w (fun x76 w => (opE Try.prog (Value.int .i64) (Instr.lookup 55 (.map x12) (T_events_mark.v x76) false) w (fun x77 w => opE Try.prog (fun p : Int × Int => .tuple [(.int .i64 p.1), (.int .i64 p.2)].toArray) (Instr.mapEntry 55 (.map x12) (T_events_mark.v x76)) w (fun x79 w => opU Try.prog (Instr.entryStore 55 (.map x12) (.int .i64 x79.2) (.int .i64 (IntKind.wrap .i64 (x77 + 1)))) w (fun w => Kl1 (IntKind.wrap .i64 (x15 + 1)) w)))) ∧ (opE Try.prog (fun p : Int × Int => .tuple [(.int .i64 p.1), (.int .i64 p.2)].toArray) (Instr.mapEntry 55 (.map x12) (T_events_mark.v x76)) w (fun x79_1 w => opE Try.prog (Value.int .i64) (Instr.lookup 55 (.map x12) (T_events_mark.v x76) false) w (fun x77_1 w => opU Try.prog (Instr.entryStore 55 (.map x12) (.int .i64 x79_1.2) (.int .i64 (IntKind.wrap .i64 (x77_1 + 1)))) w (fun w => Kl1 (IntKind.wrap .i64 (x15 + 1)) w))))))))
def V_events_Check_r8 (Ret : Int → World → Prop) (x12 : Option Nat) (x15 : Int) (Kl1 : Int → World → Prop) (x7 : Option Addr) (x73 : Bool) (w : World) : Prop :=
  V_events_Check_r7 Ret x12 x15 Kl1 x7 x73 w
def V_events_Check_r6 (Ret : Int → World → Prop) (x12 : Option Nat) (x15 : Int) (Kl1 : Int → World → Prop) (x6 : Option Addr) (x7 : Option Addr) (x63 : Bool) (w : World) : Prop :=
  (x63 = true → (V_events_Check_r7 Ret x12 x15 Kl1 x7 true w)) ∧ (x63 = false → (opE Try.prog Value.pointer (Instr.fieldAt 32 (.pointer x6) 3) w (fun x65 w => opE Try.prog Value.string (Instr.loadAt 9 (.pointer x65)) w (fun x66 w => ((x66 ≠ (ByteArray.mk #[])) → (opE Try.prog T_events_mark.v (Instr.loadAt 57 (.pointer x7)) w (fun x70 w => opE Try.prog (Value.int .i64) (Instr.lookup 55 (.map x12) (T_events_mark.v x70) false) w (fun x71 w => V_events_Check_r8 Ret x12 x15 Kl1 x7 (decide (0 < x71)) w)))) ∧ (¬ (x66 ≠ (ByteArray.mk #[])) → (V_events_Check_r8 Ret x12 x15 Kl1 x7 false w))))))
def V_events_Check_r5 (Ret : Int → World → Prop) (x12 : Option Nat) (x15 : Int) (Kl1 : Int → World → Prop) (x6 : Option Addr) (x7 : Option Addr) (x58 : Bool) (w : World) : Prop :=
  (x58 = true → (V_events_Check_r6 Ret x12 x15 Kl1 x6 x7 true w)) ∧ (x58 = false → (opE Try.prog Value.pointer (Instr.fieldAt 32 (.pointer x6) 4) w (fun x60 w => opE Try.prog Value.string (Instr.loadAt 9 (.pointer x60)) w (fun x61 w => Cl Try.prog 28 [(.string x61)].toArray w (fun e w => ∃ (r : Bool), e = .returned (.bool r) ∧ (V_events_Check_r6 Ret x12 x15 Kl1 x6 x7 r w))))))
def V_events_Check_r4 (Ret : Int → World → Prop) (x12 : Option Nat) (x15 : Int) (Kl1 : Int → World → Prop) (x6 : Option Addr) (x7 : Option Addr) (x53 : Bool) (w : World) : Prop :=
  (x53 = true → (V_events_Check_r5 Ret x12 x15 Kl1 x6 x7 true w)) ∧ (x53 = false → (opE Try.prog Value.pointer (Instr.fieldAt 32 (.pointer x6) 3) w (fun x55 w => opE Try.prog Value.string (Instr.loadAt 9 (.pointer x55)) w (fun x56 w => Cl Try.prog 28 [(.string x56)].toArray w (fun e w => ∃ (r_1 : Bool), e = .returned (.bool r_1) ∧ (V_events_Check_r5 Ret x12 x15 Kl1 x6 x7 r_1 w))))))
def V_events_Check_r3 (Ret : Int → World → Prop) (x12 : Option Nat) (x15 : Int) (Kl1 : Int → World → Prop) (x6 : Option Addr) (x7 : Option Addr) (x48 : Bool) (w : World) : Prop :=
  (x48 = true → (V_events_Check_r4 Ret x12 x15 Kl1 x6 x7 true w)) ∧ (x48 = false → (opE Try.prog Value.pointer (Instr.fieldAt 32 (.pointer x6) 0) w (fun x50 w => opE Try.prog Value.string (Instr.loadAt 9 (.pointer x50)) w (fun x51 w => Cl Try.prog 28 [(.string x51)].toArray w (fun e w => ∃ (r_2 : Bool), e = .returned (.bool r_2) ∧ (V_events_Check_r4 Ret x12 x15 Kl1 x6 x7 r_2 w))))))
def V_events_Check_r2 (Ret : Int → World → Prop) (x12 : Option Nat) (x15 : Int) (Kl1 : Int → World → Prop) (x6 : Option Addr) (x7 : Option Addr) (x43 : Bool) (w : World) : Prop :=
  (x43 = true → (V_events_Check_r3 Ret x12 x15 Kl1 x6 x7 true w)) ∧ (x43 = false → (opE Try.prog Value.pointer (Instr.fieldAt 32 (.pointer x6) 0) w (fun x45 w => opE Try.prog Value.string (Instr.loadAt 9 (.pointer x45)) w (fun x46 w => V_events_Check_r3 Ret x12 x15 Kl1 x6 x7 (decide (x46 = (ByteArray.mk #[]))) w))))
def V_events_Check_l1b (x0 : Sl) (Ret : Int → World → Prop) (x11 : Option Nat) (x12 : Option Nat) (x15 : Int) (w : World) (Kl1 : Int → World → Prop) : Prop :=
  ((x15 < (x0.len : Int)) → (opE Try.prog Value.pointer (Instr.indexAt 22 (Sl.v x0) (.int .i64 x15)) w (fun x18 w => opE Try.prog T_api_Event.v (Instr.loadAt 32 (.pointer x18)) w (fun x19 w => opE Try.prog Value.pointer (Instr.alloc 32 true (.tuple #[])) w (fun x6 w => opU Try.prog (Instr.storeAt 32 (.pointer x6) (T_api_Event.v x19)) w (fun w => opE Try.prog Value.pointer (Instr.fieldAt 32 (.pointer x6) 0) w (fun x21 w => opE Try.prog Value.string (Instr.loadAt 9 (.pointer x21)) w (fun x22 w => opE Try.prog (Value.int .i64) (Instr.lookup 54 (.map x11) (.string x22) false) w (fun x23 w => opU Try.prog (Instr.mapUpdate 54 (.map x11) (.string x22) (.int .i64 (IntKind.wrap .i64 (x23 + 1)))) w (fun w => opE Try.prog Value.pointer (Instr.fieldAt 32 (.pointer x6) 0) w (fun x25 w => opE Try.prog Value.string (Instr.loadAt 9 (.pointer x25)) w (fun x26 w => opE Try.prog Value.pointer (Instr.fieldAt 32 (.pointer x6) 3) w (fun x27 w => opE Try.prog Value.string (Instr.loadAt 9 (.pointer x27)) w (fun x28 w => opE Try.prog T_events_mark.v (Instr.build 57 [(0, (.string x26)), (1, (.string x28))].toArray) w (fun x29 w => opE Try.prog Value.pointer (Instr.alloc 57 true (.tuple #[])) w (fun x7 w => opU Try.prog (Instr.storeAt 57 (.pointer x7) (T_events_mark.v x29)) w (fun w => opE Try.prog Value.pointer (Instr.fieldAt 32 (.pointer x6) 2) w (fun x30 w => opE Try.prog (Value.int .i64) (Instr.loadAt 3 (.pointer x30)) w (fun x31 w => ((x31 ≠ (IntKind.wrap .i64 (x15 + 1))) → (V_events_Check_r2 Ret x12 x15 Kl1 x6 x7 true w)) ∧ (¬ (x31 ≠ (IntKind.wrap .i64 (x15 + 1))) → (opE Try.prog Value.pointer (Instr.fieldAt 32 (.pointer x6) 1) w (fun x36 w => opE Try.prog (Value.int .i64) (Instr.loadAt 3 (.pointer x36)) w (fun x37 w => opE Try.prog Value.pointer (Instr.fieldAt 32 (.pointer x6) 0) w (fun x39 w => opE Try.prog Value.string (Instr.loadAt 9 (.pointer x39)) w (fun x40 w => opE Try.prog (Value.int .i64) (Instr.lookup 54 (.map x11) (.string x40) false) w (fun x41 w => V_events_Check_r2 Ret x12 x15 Kl1 x6 x7 (decide (x37 ≠ x41)) w)))))))))))))))))))))))))) ∧ (¬ (x15 < (x0.len : Int)) → (Ret 0 w))
def V_events_Check (x0 : Sl) (w : World) (Ret : Int → World → Prop) : Prop :=
  ((16384 < (x0.len : Int)) → (Ret 2 w)) ∧ (¬ (16384 < (x0.len : Int)) → (opE Try.prog Value.map (Instr.makeMap 54 none) w (fun x11 w => opE Try.prog Value.map (Instr.makeMap 55 none) w (fun x12 w => ∃ (I : Int → World → Prop) (μ : Int → World → Nat), I 0 w ∧ ∀ (x15 : Int) w, I x15 w → V_events_Check_l1b x0 Ret x11 x12 x15 w (fun x15' w' => I x15' w' ∧ μ x15' w' < μ x15 w)))))
set_option maxRecDepth 100000 in
theorem L1_events_Check (x0 : Sl) (w : World) (Ret : Int → World → Prop) (H : V_events_Check x0 w Ret) : Cl Try.prog 14 [(Sl.v x0)].toArray w (fun e w' => ∃ (r0 : Int), e = .returned (.int .i64 r0) ∧ Ret r0 w') := by
  unfold V_events_Check at H
  refine C.enter 82 (zipE 0 [(Sl.v x0)]) Try.func14 rfl rfl (by rfl) rfl ?_
  intro a hE
  replace hE : Sat [] 82 [(0, (Sl.v x0))] a := hE
  refine C.seq ?_
  refine C.region ?_
  refine hE.pur (X.assign hE rfl) fun a hE => ?_
  refine C.nil (tn ?_)
  refine C.seq ?_
  refine C.seq ?_
  refine C.region ?_
  refine hE.pur (X.move hE rfl) fun a hE => ?_
  refine hE.purR (fun w => X.lenL hE Try.underlying22 rfl) fun a hE => ?_
  refine hE.pur (X.gtI hE rfl rfl) fun a hE => ?_
  refine C.nil (tn ?_)
  refine C.condP hE rfl (fun hc => ?_) (fun hc => ?_)
  · replace H := H.1 hc
    refine C.seq ?_
    refine C.region ?_
    refine hE.pur (X.assign hE rfl) fun a hE => ?_
    refine C.nil (tn ?_)
    exact C.ret (tr (C.ret1 hE rfl rfl ⟨_, rfl, H⟩))
  · replace H := H.2 hc
    refine C.skip (tn ?_)
    refine C.seq ?_
    refine C.region ?_
    refine hE.op (X.makeMap) H fun x11 w a H hE => ?_
    refine hE.pur (X.assign hE rfl) fun a hE => ?_
    refine C.nil (tn ?_)
    refine C.seq ?_
    refine C.region ?_
    refine hE.op (X.makeMap) H fun x12 w a H hE => ?_
    refine hE.pur (X.assign hE rfl) fun a hE => ?_
    refine C.nil (tn ?_)
    refine C.seq ?_
    refine C.seq ?_
    refine C.region ?_
    refine hE.pur (X.move hE rfl) fun a hE => ?_
    refine hE.purR (fun w => X.lenL hE Try.underlying22 rfl) fun a hE => ?_
    refine hE.pur (X.move hE rfl) fun a hE => ?_
    refine C.nil (tn ?_)
    refine C.block ?_
    obtain ⟨I_l1, μ_l1, h0, hb⟩ := H
    refine C.loop (ds := []) (N := 82) (σ := Int) (fun s => [(15, (.int .i64 s)), (3, (.map x11)), (4, (.map x12)), (13, (Sl.v x0)), (14, (.int .i64 (x0.len : Int)))]) (fun s w => I_l1 s w) (fun s w => μ_l1 s w) 0 h0 (hE.weak ⟨rfl, rfl, rfl, rfl, rfl, trivial⟩) ?_
    intro x15 w a hI hE
    try dsimp only at hI hE
    obtain ⟨Kl1, hK_l1⟩ : ∃ K : Int → World → Prop, K = (fun x15' w' => I_l1 x15' w' ∧ μ_l1 x15' w' < μ_l1 x15 w) := ⟨_, rfl⟩
    have H : V_events_Check_l1b x0 Ret x11 x12 x15 w Kl1 := by rw [hK_l1]; exact hb x15 w hI
    clear hb h0 hI
    unfold V_events_Check_l1b at H
    refine C.seq ?_
    refine C.region ?_
    refine hE.pur (X.ltI hE rfl rfl) fun a hE => ?_
    refine C.nil (tn ?_)
    refine C.seq ?_
    refine C.condP hE rfl (fun hc => ?_) (fun hc => ?_)
    · replace H := H.1 hc
      refine C.skip (tn ?_)
      refine C.seq ?_
      refine C.block ?_
      refine C.seq ?_
      refine C.region ?_
      refine hE.pur (X.move hE rfl) fun a hE => ?_
      refine hE.op (X.indexAddr hE rfl rfl) H fun x18 w a H hE => ?_
      refine hE.op (X.load hE rfl) H fun x19 w a H hE => ?_
      refine hE.op (X.alloc) H fun x6 w a H hE => ?_
      refine hE.pur (X.assign hE rfl) fun a hE => ?_
      refine hE.opu (X.store hE rfl rfl) H fun w a H hE => ?_
      refine C.nil (tn ?_)
      refine C.seq ?_
      refine C.region ?_
      refine hE.pur (X.move hE rfl) fun a hE => ?_
      refine hE.op (X.fieldAddr hE rfl) H fun x21 w a H hE => ?_
      refine hE.op (X.load hE rfl) H fun x22 w a H hE => ?_
      refine hE.op (X.lookup hE rfl rfl) H fun x23 w a H hE => ?_
      refine hE.pur (X.add hE rfl rfl) fun a hE => ?_
      refine hE.opu (X.mapUpdate hE rfl rfl rfl) H fun w a H hE => ?_
      refine C.nil (tn ?_)
      refine C.seq ?_
      refine C.region ?_
      refine hE.op (X.fieldAddr hE rfl) H fun x25 w a H hE => ?_
      refine hE.op (X.load hE rfl) H fun x26 w a H hE => ?_
      refine hE.op (X.fieldAddr hE rfl) H fun x27 w a H hE => ?_
      refine hE.op (X.load hE rfl) H fun x28 w a H hE => ?_
      refine hE.op (X.build hE rfl) H fun x29 w a H hE => ?_
      refine hE.op (X.alloc) H fun x7 w a H hE => ?_
      refine hE.opu (X.store hE rfl rfl) H fun w a H hE => ?_
      refine C.nil (tn ?_)
      refine C.seq ?_
      refine C.seq ?_
      refine C.region ?_
      refine hE.op (X.fieldAddr hE rfl) H fun x30 w a H hE => ?_
      refine hE.op (X.load hE rfl) H fun x31 w a H hE => ?_
      refine hE.pur (X.move hE rfl) fun a hE => ?_
      refine hE.pur (X.add hE rfl rfl) fun a hE => ?_
      refine hE.pur (X.neI hE rfl rfl) fun a hE => ?_
      refine hE.pur (X.move hE rfl) fun a hE => ?_
      refine WL.join (ds := []) (N := 82) (σ := Bool) (fun s => [(43, (.bool s)), (3, (.map x11)), (4, (.map x12)), (6, (.pointer x6)), (7, (.pointer x7)), (13, (Sl.v x0)), (14, (.int .i64 (x0.len : Int))), (15, (.int .i64 x15))]) (fun s w => V_events_Check_r2 Ret x12 x15 Kl1 x6 x7 s w) 8 ?_ (fun hr2 => ?_)
      · intro x43 w a H hE
        try dsimp only at H hE
        unfold V_events_Check_r2 at H
        refine hE.pur (X.move hE rfl) fun a hE => ?_
        refine WL.join (ds := []) (N := 82) (σ := Bool) (fun s => [(48, (.bool s)), (3, (.map x11)), (4, (.map x12)), (6, (.pointer x6)), (7, (.pointer x7)), (13, (Sl.v x0)), (14, (.int .i64 (x0.len : Int))), (15, (.int .i64 x15))]) (fun s w => V_events_Check_r3 Ret x12 x15 Kl1 x6 x7 s w) 4 ?_ (fun hr3 => ?_)
        · intro x48 w a H hE
          try dsimp only at H hE
          unfold V_events_Check_r3 at H
          refine hE.pur (X.move hE rfl) fun a hE => ?_
          refine WL.join (ds := []) (N := 82) (σ := Bool) (fun s => [(53, (.bool s)), (3, (.map x11)), (4, (.map x12)), (6, (.pointer x6)), (7, (.pointer x7)), (13, (Sl.v x0)), (14, (.int .i64 (x0.len : Int))), (15, (.int .i64 x15))]) (fun s w => V_events_Check_r4 Ret x12 x15 Kl1 x6 x7 s w) 4 ?_ (fun hr4 => ?_)
          · intro x53 w a H hE
            try dsimp only at H hE
            unfold V_events_Check_r4 at H
            refine hE.pur (X.move hE rfl) fun a hE => ?_
            refine WL.join (ds := []) (N := 82) (σ := Bool) (fun s => [(58, (.bool s)), (3, (.map x11)), (4, (.map x12)), (6, (.pointer x6)), (7, (.pointer x7)), (13, (Sl.v x0)), (14, (.int .i64 (x0.len : Int))), (15, (.int .i64 x15))]) (fun s w => V_events_Check_r5 Ret x12 x15 Kl1 x6 x7 s w) 4 ?_ (fun hr5 => ?_)
            · intro x58 w a H hE
              try dsimp only at H hE
              unfold V_events_Check_r5 at H
              refine hE.pur (X.move hE rfl) fun a hE => ?_
              refine WL.join (ds := []) (N := 82) (σ := Bool) (fun s => [(63, (.bool s)), (3, (.map x11)), (4, (.map x12)), (6, (.pointer x6)), (7, (.pointer x7)), (13, (Sl.v x0)), (14, (.int .i64 (x0.len : Int))), (15, (.int .i64 x15))]) (fun s w => V_events_Check_r6 Ret x12 x15 Kl1 x6 x7 s w) 4 ?_ (fun hr6 => ?_)
              · intro x63 w a H hE
                try dsimp only at H hE
                unfold V_events_Check_r6 at H
                refine hE.pur (X.move hE rfl) fun a hE => ?_
                refine WL.join (ds := []) (N := 82) (σ := Bool) (fun s => [(74, (.bool s)), (3, (.map x11)), (4, (.map x12)), (7, (.pointer x7)), (13, (Sl.v x0)), (14, (.int .i64 (x0.len : Int))), (15, (.int .i64 x15))]) (fun s w => V_events_Check_r7 Ret x12 x15 Kl1 x7 s w) 10 ?_ (fun hr7 => ?_)
                · intro x74 w a H hE
                  try dsimp only at H hE
                  unfold V_events_Check_r7 at H
                  refine C.nil (tn ?_)
                  refine C.condB hE rfl (fun hc => ?_) (fun hc => ?_)
                  · replace H := H.1 hc
                    refine C.seq ?_
                    refine C.region ?_
                    refine hE.pur (X.assign hE rfl) fun a hE => ?_
                    refine C.nil (tn ?_)
                    exact C.ret (tr (br (tr (tr (br (tr (C.ret1 hE rfl rfl ⟨_, rfl, H⟩)))))))
                  · replace H := H.2 hc
                    refine C.skip (tn ?_)
                    refine C.any 7 #[false, false, false, false, false, false, false] (by kernel_rfl) (fun w hB => ?_)
                    replace H := H w hB
                    refine hE.apur (i := 0) (fun _ _ _ _ _ h => h) (by kernel_rfl) rfl (by kernel_rfl) (by kernel_rfl) (by rfl) (l2 := #[true, false, false, false, false, false, false]) (pn_run (X.move hE rfl)) fun a hE => ?_
                    refine WA.one (i := 1) (l2 := #[true, true, false, false, false, false, false]) rfl (by kernel_rfl) (by rfl) ?_
                    intro K hK
                    refine hE.wop (X.load hE rfl) H fun x76 w a H hE => ?_
                    refine hK _ _ ?_
                    refine WA.two (i := 2) (j := 4) (l2 := #[true, true, true, false, false, false, false]) (l3 := #[true, true, false, false, true, false, false]) rfl rfl (by kernel_rfl) (by rfl) (by rfl) ?_ ?_
                    · replace H := H.1
                      intro K hK
                      refine hE.wop (X.lookup hE rfl rfl) H fun x77 w a H hE => ?_
                      refine hK _ _ ?_
                      refine hE.apur (i := 3) (fun _ _ _ _ _ h => h) (by kernel_rfl) rfl (by kernel_rfl) (by kernel_rfl) (by rfl) (l2 := #[true, true, true, true, false, false, false]) (pn_run (X.add hE rfl rfl)) fun a hE => ?_
                      refine WA.one (i := 4) (l2 := #[true, true, true, true, true, false, false]) rfl (by kernel_rfl) (by rfl) ?_
                      intro K hK
                      refine hE.wop (X.mapEntry hE rfl rfl) H fun x79 w a H hE => ?_
                      refine hK _ _ ?_
                      refine hE.apur (i := 5) (fun _ _ _ _ _ h => h) (by kernel_rfl) rfl (by kernel_rfl) (by kernel_rfl) (by rfl) (l2 := #[true, true, true, true, true, true, false]) (pn_run (X.extract hE rfl rfl)) fun a hE => ?_
                      refine WA.one (i := 6) (l2 := #[true, true, true, true, true, true, true]) rfl (by kernel_rfl) (by rfl) ?_
                      intro K hK
                      refine hE.wopu (X.entryStore hE rfl rfl rfl) H fun w a H hE => ?_
                      refine hK _ _ ?_
                      refine WA.nil (by kernel_rfl) ?_
                      refine (bn (tn ?_))
                      refine C.region ?_
                      refine hE.pur (X.add hE rfl rfl) fun a hE => ?_
                      refine hE.pur (X.move hE rfl) fun a hE => ?_
                      rw [hK_l1] at H
                      exact C.nil (tn ⟨(IntKind.wrap .i64 (x15 + 1)), hE.weak ⟨rfl, rfl, rfl, rfl, rfl, trivial⟩, H⟩)
                    · replace H := H.2
                      intro K hK
                      refine hE.wop (X.mapEntry hE rfl rfl) H fun x79_1 w a H hE => ?_
                      refine hK _ _ ?_
                      refine hE.apur (i := 5) (fun _ _ _ _ _ h => h) (by kernel_rfl) rfl (by kernel_rfl) (by kernel_rfl) (by rfl) (l2 := #[true, true, false, false, true, true, false]) (pn_run (X.extract hE rfl rfl)) fun a hE => ?_
                      refine WA.one (i := 2) (l2 := #[true, true, true, false, true, true, false]) rfl (by kernel_rfl) (by rfl) ?_
                      intro K hK
                      refine hE.wop (X.lookup hE rfl rfl) H fun x77_1 w a H hE => ?_
                      refine hK _ _ ?_
                      refine hE.apur (i := 3) (fun _ _ _ _ _ h => h) (by kernel_rfl) rfl (by kernel_rfl) (by kernel_rfl) (by rfl) (l2 := #[true, true, true, true, true, true, false]) (pn_run (X.add hE rfl rfl)) fun a hE => ?_
                      refine WA.one (i := 6) (l2 := #[true, true, true, true, true, true, true]) rfl (by kernel_rfl) (by rfl) ?_
                      intro K hK
                      refine hE.wopu (X.entryStore hE rfl rfl rfl) H fun w a H hE => ?_
                      refine hK _ _ ?_
                      refine WA.nil (by kernel_rfl) ?_
                      refine (bn (tn ?_))
                      refine C.region ?_
                      refine hE.pur (X.add hE rfl rfl) fun a hE => ?_
                      refine hE.pur (X.move hE rfl) fun a hE => ?_
                      rw [hK_l1] at H
                      exact C.nil (tn ⟨(IntKind.wrap .i64 (x15 + 1)), hE.weak ⟨rfl, rfl, rfl, rfl, rfl, trivial⟩, H⟩)
                · rcases Bool.eq_false_or_eq_true (x63) with hbr7 | hbr7
                  · replace H := H.1 hbr7
                    replace hE := hE.bool (b := true) (t := 64) rfl (hbr7)
                    refine hE.off (by rfl) (by rfl) (by decide) (fun a hE => ?_)
                    refine hE.off (by rfl) (by rfl) (by decide) (fun a hE => ?_)
                    refine hE.off (by rfl) (by rfl) (by decide) (fun a hE => ?_)
                    refine hE.off (by rfl) (by rfl) (by decide) (fun a hE => ?_)
                    refine hE.offU (by rfl) (by rfl) (fun a hE => ?_)
                    refine hE.offU (by rfl) (by rfl) (fun a hE => ?_)
                    refine hE.offU (by rfl) (by rfl) (fun a hE => ?_)
                    refine hE.offU (by rfl) (by rfl) (fun a hE => ?_)
                    refine hE.off (by rfl) (by rfl) (by decide) (fun a hE => ?_)
                    refine hE.pur (X.pickT hE rfl rfl) fun a hE => ?_
                    exact hr7 true _ _ H (hE.weak ⟨rfl, rfl, rfl, rfl, rfl, rfl, rfl, trivial⟩)
                  · replace H := H.2 hbr7
                    replace hE := hE.bool (b := false) (t := 64) rfl (hbr7)
                    refine hE.on (by rfl) (by rfl) ?_
                    refine hE.op (X.fieldAddr hE rfl) H fun x65 w a H hE => ?_
                    refine hE.on (by rfl) (by rfl) ?_
                    refine hE.op (X.load hE rfl) H fun x66 w a H hE => ?_
                    refine hE.on (by rfl) (by rfl) ?_
                    refine hE.pur (X.neS hE rfl rfl) fun a hE => ?_
                    refine hE.on (by rfl) (by rfl) ?_
                    refine hE.pur (X.move hE rfl) fun a hE => ?_
                    refine WL.join (ds := []) (N := 82) (σ := Bool) (fun s => [(73, (.bool s)), (3, (.map x11)), (4, (.map x12)), (7, (.pointer x7)), (13, (Sl.v x0)), (14, (.int .i64 (x0.len : Int))), (15, (.int .i64 x15)), (64, (.bool false))]) (fun s w => V_events_Check_r8 Ret x12 x15 Kl1 x7 s w) 5 ?_ (fun hr8 => ?_)
                    · intro x73 w a H hE
                      try dsimp only at H hE
                      unfold V_events_Check_r8 at H
                      refine hE.pur (X.pickF hE rfl rfl) fun a hE => ?_
                      exact hr7 x73 _ _ H (hE.weak ⟨rfl, rfl, rfl, rfl, rfl, rfl, rfl, trivial⟩)
                    · rcases Classical.em ((x66 ≠ (ByteArray.mk #[]))) with hbr8 | hbr8
                      · replace H := H.1 hbr8
                        replace hE := hE.bool (b := true) (t := 68) rfl (decide_eq_true hbr8)
                        refine hE.on (by rfl) (by rfl) ?_
                        refine hE.pur (X.move hE rfl) fun a hE => ?_
                        refine hE.on (by rfl) (by rfl) ?_
                        refine hE.op (X.load hE rfl) H fun x70 w a H hE => ?_
                        refine hE.on (by rfl) (by rfl) ?_
                        refine hE.op (X.lookup hE rfl rfl) H fun x71 w a H hE => ?_
                        refine hE.on (by rfl) (by rfl) ?_
                        refine hE.pur (X.gtI hE rfl rfl) fun a hE => ?_
                        refine hE.on (by rfl) (by rfl) ?_
                        refine hE.pur (X.pickT hE rfl rfl) fun a hE => ?_
                        exact hr8 (decide (0 < x71)) _ _ H (hE.weak ⟨rfl, rfl, rfl, rfl, rfl, rfl, rfl, rfl, trivial⟩)
                      · replace H := H.2 hbr8
                        replace hE := hE.bool (b := false) (t := 68) rfl (decide_eq_false hbr8)
                        refine hE.off (by rfl) (by rfl) (by decide) (fun a hE => ?_)
                        refine hE.off (by rfl) (by rfl) (by decide) (fun a hE => ?_)
                        refine hE.off (by rfl) (by rfl) (by decide) (fun a hE => ?_)
                        refine hE.off (by rfl) (by rfl) (by decide) (fun a hE => ?_)
                        refine hE.on (by rfl) (by rfl) ?_
                        refine hE.pur (X.pickF hE rfl rfl) fun a hE => ?_
                        exact hr8 false _ _ H (hE.weak ⟨rfl, rfl, rfl, rfl, rfl, rfl, rfl, rfl, trivial⟩)
              · rcases Bool.eq_false_or_eq_true (x58) with hbr6 | hbr6
                · replace H := H.1 hbr6
                  replace hE := hE.bool (b := true) (t := 59) rfl (hbr6)
                  refine hE.off (by rfl) (by rfl) (by decide) (fun a hE => ?_)
                  refine hE.off (by rfl) (by rfl) (by decide) (fun a hE => ?_)
                  refine hE.off (by rfl) (by rfl) (by decide) (fun a hE => ?_)
                  refine hE.pur (X.pickT hE rfl rfl) fun a hE => ?_
                  exact hr6 true _ _ H (hE.weak ⟨rfl, rfl, rfl, rfl, rfl, rfl, rfl, rfl, trivial⟩)
                · replace H := H.2 hbr6
                  replace hE := hE.bool (b := false) (t := 59) rfl (hbr6)
                  refine hE.on (by rfl) (by rfl) ?_
                  refine hE.op (X.fieldAddr hE rfl) H fun x60 w a H hE => ?_
                  refine hE.on (by rfl) (by rfl) ?_
                  refine hE.op (X.load hE rfl) H fun x61 w a H hE => ?_
                  refine hE.on (by rfl) (by rfl) ?_
                  refine hE.call (X.callF hE ent28 rfl rfl) H fun e w H => ?_
                  obtain ⟨r, rfl, H⟩ := H
                  refine ⟨_, rfl, fun a hE => ?_⟩
                  refine hE.pur (X.pickF hE rfl rfl) fun a hE => ?_
                  exact hr6 r _ _ H (hE.weak ⟨rfl, rfl, rfl, rfl, rfl, rfl, rfl, rfl, trivial⟩)
            · rcases Bool.eq_false_or_eq_true (x53) with hbr5 | hbr5
              · replace H := H.1 hbr5
                replace hE := hE.bool (b := true) (t := 54) rfl (hbr5)
                refine hE.off (by rfl) (by rfl) (by decide) (fun a hE => ?_)
                refine hE.off (by rfl) (by rfl) (by decide) (fun a hE => ?_)
                refine hE.off (by rfl) (by rfl) (by decide) (fun a hE => ?_)
                refine hE.pur (X.pickT hE rfl rfl) fun a hE => ?_
                exact hr5 true _ _ H (hE.weak ⟨rfl, rfl, rfl, rfl, rfl, rfl, rfl, rfl, trivial⟩)
              · replace H := H.2 hbr5
                replace hE := hE.bool (b := false) (t := 54) rfl (hbr5)
                refine hE.on (by rfl) (by rfl) ?_
                refine hE.op (X.fieldAddr hE rfl) H fun x55 w a H hE => ?_
                refine hE.on (by rfl) (by rfl) ?_
                refine hE.op (X.load hE rfl) H fun x56 w a H hE => ?_
                refine hE.on (by rfl) (by rfl) ?_
                refine hE.call (X.callF hE ent28 rfl rfl) H fun e w H => ?_
                obtain ⟨r_1, rfl, H⟩ := H
                refine ⟨_, rfl, fun a hE => ?_⟩
                refine hE.pur (X.pickF hE rfl rfl) fun a hE => ?_
                exact hr5 r_1 _ _ H (hE.weak ⟨rfl, rfl, rfl, rfl, rfl, rfl, rfl, rfl, trivial⟩)
          · rcases Bool.eq_false_or_eq_true (x48) with hbr4 | hbr4
            · replace H := H.1 hbr4
              replace hE := hE.bool (b := true) (t := 49) rfl (hbr4)
              refine hE.off (by rfl) (by rfl) (by decide) (fun a hE => ?_)
              refine hE.off (by rfl) (by rfl) (by decide) (fun a hE => ?_)
              refine hE.off (by rfl) (by rfl) (by decide) (fun a hE => ?_)
              refine hE.pur (X.pickT hE rfl rfl) fun a hE => ?_
              exact hr4 true _ _ H (hE.weak ⟨rfl, rfl, rfl, rfl, rfl, rfl, rfl, rfl, trivial⟩)
            · replace H := H.2 hbr4
              replace hE := hE.bool (b := false) (t := 49) rfl (hbr4)
              refine hE.on (by rfl) (by rfl) ?_
              refine hE.op (X.fieldAddr hE rfl) H fun x50 w a H hE => ?_
              refine hE.on (by rfl) (by rfl) ?_
              refine hE.op (X.load hE rfl) H fun x51 w a H hE => ?_
              refine hE.on (by rfl) (by rfl) ?_
              refine hE.call (X.callF hE ent28 rfl rfl) H fun e w H => ?_
              obtain ⟨r_2, rfl, H⟩ := H
              refine ⟨_, rfl, fun a hE => ?_⟩
              refine hE.pur (X.pickF hE rfl rfl) fun a hE => ?_
              exact hr4 r_2 _ _ H (hE.weak ⟨rfl, rfl, rfl, rfl, rfl, rfl, rfl, rfl, trivial⟩)
        · rcases Bool.eq_false_or_eq_true (x43) with hbr3 | hbr3
          · replace H := H.1 hbr3
            replace hE := hE.bool (b := true) (t := 44) rfl (hbr3)
            refine hE.off (by rfl) (by rfl) (by decide) (fun a hE => ?_)
            refine hE.off (by rfl) (by rfl) (by decide) (fun a hE => ?_)
            refine hE.off (by rfl) (by rfl) (by decide) (fun a hE => ?_)
            refine hE.pur (X.pickT hE rfl rfl) fun a hE => ?_
            exact hr3 true _ _ H (hE.weak ⟨rfl, rfl, rfl, rfl, rfl, rfl, rfl, rfl, trivial⟩)
          · replace H := H.2 hbr3
            replace hE := hE.bool (b := false) (t := 44) rfl (hbr3)
            refine hE.on (by rfl) (by rfl) ?_
            refine hE.op (X.fieldAddr hE rfl) H fun x45 w a H hE => ?_
            refine hE.on (by rfl) (by rfl) ?_
            refine hE.op (X.load hE rfl) H fun x46 w a H hE => ?_
            refine hE.on (by rfl) (by rfl) ?_
            refine hE.pur (X.eqS hE rfl rfl) fun a hE => ?_
            refine hE.pur (X.pickF hE rfl rfl) fun a hE => ?_
            exact hr3 (decide (x46 = (ByteArray.mk #[]))) _ _ H (hE.weak ⟨rfl, rfl, rfl, rfl, rfl, rfl, rfl, rfl, trivial⟩)
      · rcases Classical.em ((x31 ≠ (IntKind.wrap .i64 (x15 + 1)))) with hbr2 | hbr2
        · replace H := H.1 hbr2
          replace hE := hE.bool (b := true) (t := 35) rfl (decide_eq_true hbr2)
          refine hE.off (by rfl) (by rfl) (by decide) (fun a hE => ?_)
          refine hE.off (by rfl) (by rfl) (by decide) (fun a hE => ?_)
          refine hE.off (by rfl) (by rfl) (by decide) (fun a hE => ?_)
          refine hE.off (by rfl) (by rfl) (by decide) (fun a hE => ?_)
          refine hE.off (by rfl) (by rfl) (by decide) (fun a hE => ?_)
          refine hE.off (by rfl) (by rfl) (by decide) (fun a hE => ?_)
          refine hE.off (by rfl) (by rfl) (by decide) (fun a hE => ?_)
          refine hE.pur (X.pickT hE rfl rfl) fun a hE => ?_
          exact hr2 true _ _ H (hE.weak ⟨rfl, rfl, rfl, rfl, rfl, rfl, rfl, rfl, trivial⟩)
        · replace H := H.2 hbr2
          replace hE := hE.bool (b := false) (t := 35) rfl (decide_eq_false hbr2)
          refine hE.on (by rfl) (by rfl) ?_
          refine hE.op (X.fieldAddr hE rfl) H fun x36 w a H hE => ?_
          refine hE.on (by rfl) (by rfl) ?_
          refine hE.op (X.load hE rfl) H fun x37 w a H hE => ?_
          refine hE.on (by rfl) (by rfl) ?_
          refine hE.pur (X.move hE rfl) fun a hE => ?_
          refine hE.on (by rfl) (by rfl) ?_
          refine hE.op (X.fieldAddr hE rfl) H fun x39 w a H hE => ?_
          refine hE.on (by rfl) (by rfl) ?_
          refine hE.op (X.load hE rfl) H fun x40 w a H hE => ?_
          refine hE.on (by rfl) (by rfl) ?_
          refine hE.op (X.lookup hE rfl rfl) H fun x41 w a H hE => ?_
          refine hE.on (by rfl) (by rfl) ?_
          refine hE.pur (X.neI hE rfl rfl) fun a hE => ?_
          refine hE.pur (X.pickF hE rfl rfl) fun a hE => ?_
          exact hr2 (decide (x37 ≠ x41)) _ _ H (hE.weak ⟨rfl, rfl, rfl, rfl, rfl, rfl, rfl, rfl, trivial⟩)
    · replace H := H.2 hc
      refine C.exit (te (te (be (tn ?_))))
      refine C.seq ?_
      refine C.region ?_
      refine hE.pur (X.assign hE rfl) fun a hE => ?_
      refine C.nil (tn ?_)
      exact C.ret (C.ret1 hE rfl rfl ⟨_, rfl, H⟩)
/-! ### lading events.Read: function 16 -/
def V_events_Read (x0 : Sl) (x1 : ByteArray) (x2 : Int) (x3 : Int) (w : World) (Ret : Sl → Int → World → Prop) : Prop :=
  Cl Try.prog 14 [(Sl.v x0)].toArray w (fun e w => ∃ (r : Int), e = .returned (.int .i64 r) ∧ (((r ≠ 0) → (Ret Sl.none r w)) ∧ (¬ (r ≠ 0) → (Cl Try.prog 26 [(Sl.v x0), (.string x1)].toArray w (fun e w => ∃ (r_1 : Value), e = .returned r_1 ∧ (Cl Try.prog 25 [r_1].toArray w (fun e w => ∃ (r_2 : Sl), e = .returned (Sl.v r_2) ∧ (Cl Try.prog 33 [(Sl.v r_2), (.int .i64 x2), (.int .i64 x3)].toArray w (fun e w => ∃ (r_3 : Sl) (r_4 : Int), e = .returned (.tuple [(Sl.v r_3), (.int .i64 r_4)].toArray) ∧ (Ret r_3 r_4 w))))))))))
set_option maxRecDepth 100000 in
theorem L1_events_Read (x0 : Sl) (x1 : ByteArray) (x2 : Int) (x3 : Int) (w : World) (Ret : Sl → Int → World → Prop) (H : V_events_Read x0 x1 x2 x3 w Ret) : Cl Try.prog 16 [(Sl.v x0), (.string x1), (.int .i64 x2), (.int .i64 x3)].toArray w (fun e w' => ∃ (r0 : Sl) (r1 : Int), e = .returned (.tuple [(Sl.v r0), (.int .i64 r1)].toArray) ∧ Ret r0 r1 w') := by
  unfold V_events_Read at H
  refine C.enter 25 (zipE 0 [(Sl.v x0), (.string x1), (.int .i64 x2), (.int .i64 x3)]) Try.func16 rfl rfl (by rfl) rfl ?_
  intro a hE
  replace hE : Sat [] 25 [(0, (Sl.v x0)), (1, (.string x1)), (2, (.int .i64 x2)), (3, (.int .i64 x3))] a := hE
  refine C.seq ?_
  refine C.region ?_
  refine hE.pur (X.assign hE rfl) fun a hE => ?_
  refine hE.pur (X.assign hE rfl) fun a hE => ?_
  refine C.nil (tn ?_)
  refine C.seq ?_
  refine C.seq ?_
  refine C.region ?_
  refine hE.pur (X.move hE rfl) fun a hE => ?_
  refine hE.call (X.callF hE ent14 rfl rfl) H fun e w H => ?_
  obtain ⟨r, rfl, H⟩ := H
  refine ⟨_, rfl, fun a hE => ?_⟩
  refine hE.pur (X.assign hE rfl) fun a hE => ?_
  refine C.nil (tn ?_)
  refine C.seq ?_
  refine C.region ?_
  refine hE.pur (X.move hE rfl) fun a hE => ?_
  refine hE.pur (X.neI hE rfl rfl) fun a hE => ?_
  refine C.nil (tn ?_)
  refine C.condP hE rfl (fun hc => ?_) (fun hc => ?_)
  · replace H := H.1 hc
    refine C.seq ?_
    refine C.region ?_
    refine hE.pur (X.move hE rfl) fun a hE => ?_
    refine hE.pur (X.assign hE rfl) fun a hE => ?_
    refine hE.pur (X.assign hE rfl) fun a hE => ?_
    refine C.nil (tn ?_)
    exact C.ret (tr (C.ret2 hE rfl rfl rfl ⟨_, _, rfl, H⟩))
  · replace H := H.2 hc
    refine C.skip (tn ?_)
    refine C.seq ?_
    refine C.region ?_
    refine hE.pur (X.move hE rfl) fun a hE => ?_
    refine hE.pur (X.move hE rfl) fun a hE => ?_
    refine hE.call (X.callF hE ent26 rfl rfl) H fun e w H => ?_
    obtain ⟨r_1, rfl, H⟩ := H
    refine ⟨_, rfl, fun a hE => ?_⟩
    refine hE.call (X.callF hE ent25 rfl rfl) H fun e w H => ?_
    obtain ⟨r_2, rfl, H⟩ := H
    refine ⟨_, rfl, fun a hE => ?_⟩
    refine hE.pur (X.move hE rfl) fun a hE => ?_
    refine hE.pur (X.move hE rfl) fun a hE => ?_
    refine hE.call (X.callF hE ent33 rfl rfl) H fun e w H => ?_
    obtain ⟨r_3, r_4, rfl, H⟩ := H
    refine ⟨_, rfl, fun a hE => ?_⟩
    refine hE.pur (X.extract hE rfl rfl) fun a hE => ?_
    refine hE.pur (X.extract hE rfl rfl) fun a hE => ?_
    refine hE.pur (X.assign hE rfl) fun a hE => ?_
    refine hE.pur (X.assign hE rfl) fun a hE => ?_
    refine C.nil (tn ?_)
    exact C.ret (C.ret2 hE rfl rfl rfl ⟨_, _, rfl, H⟩)
/-! ### lading events.Marked: function 17 -/
def V_events_Marked_f2b (x5 : Option Addr) (x6 : Option Addr) (x7 : Option Addr) (x22 : T_api_Event) (x9 : Option Addr) (w : World) (Gf2 : World → Prop) (Lf2 : World → Prop) : Prop :=
  opE Try.prog Value.pointer (Instr.fieldAt 32 (.pointer x9) 3) w (fun x23 w => opE Try.prog Value.string (Instr.loadAt 9 (.pointer x23)) w (fun x24 w => opE Try.prog Value.string (Instr.loadAt 9 (.pointer x5)) w (fun x25 w => ((x24 = x25) → (opE Try.prog Value.pointer (Instr.fieldAt 32 (.pointer x9) 1) w (fun x27 w => opE Try.prog (Value.int .i64) (Instr.loadAt 3 (.pointer x27)) w (fun x28 w => opU Try.prog (Instr.storeAt 3 (.pointer x6) (.int .i64 x28)) w (fun w => opU Try.prog (Instr.storeAt 24 (.pointer x7) (.int .i64 0)) w (fun w => Lf2 w)))))) ∧ (¬ (x24 = x25) → (Gf2 w)))))
def V_events_Marked_r1 (x0 : Sl) (x1 : ByteArray) (Ret : Int → Int → World → Prop) (x5 : Option Addr) (x6 : Option Addr) (x7 : Option Addr) (r : Int) (x17 : Bool) (w : World) : Prop :=
  (x17 = true → (opU Try.prog (Instr.storeAt 3 (.pointer x6) (.int .i64 0)) w (fun w => opU Try.prog (Instr.storeAt 24 (.pointer x7) (.int .i64 r)) w (fun w => opR Try.prog (Value.int .i64) 3 x6 w (fun q => opR Try.prog (Value.int .i64) 24 x7 w (fun q_1 => Ret q q_1 w)))))) ∧ (x17 = false → (Cl Try.prog 26 [(Sl.v x0), (.string x1)].toArray w (fun e w => ∃ (r_1 : Value), e = .returned r_1 ∧ (RangeV Try.prog r_1 T_api_Event.v 32 w (V_events_Marked_f2b x5 x6 x7) (fun D w => opU Try.prog (Instr.storeAt 3 (.pointer x6) (.int .i64 0)) w (fun w => opU Try.prog (Instr.storeAt 24 (.pointer x7) (.int .i64 0)) w (fun w => afterM D w (fun w => opR Try.prog (Value.int .i64) 3 x6 w (fun q_2 => opR Try.prog (Value.int .i64) 24 x7 w (fun q_3 => Ret q_2 q_3 w)))))) (fun D w => afterM D w (fun w => opR Try.prog (Value.int .i64) 3 x6 w (fun q_4 => opR Try.prog (Value.int .i64) 24 x7 w (fun q_5 => Ret q_4 q_5 w))))))))
def V_events_Marked (x0 : Sl) (x1 : ByteArray) (x2 : ByteArray) (w : World) (Ret : Int → Int → World → Prop) : Prop :=
  opE Try.prog Value.pointer (Instr.box 9 (.string x2)) w (fun x5 w => opE Try.prog Value.pointer (Instr.alloc 3 true (.tuple #[])) w (fun x6 w => opE Try.prog Value.pointer (Instr.alloc 24 true (.tuple #[])) w (fun x7 w => Cl Try.prog 14 [(Sl.v x0)].toArray w (fun e w => ∃ (r : Int), e = .returned (.int .i64 r) ∧ (((r ≠ 0) → (V_events_Marked_r1 x0 x1 Ret x5 x6 x7 r true w)) ∧ (¬ (r ≠ 0) → (opE Try.prog Value.string (Instr.loadAt 9 (.pointer x5)) w (fun x15 w => V_events_Marked_r1 x0 x1 Ret x5 x6 x7 r (decide (x15 = (ByteArray.mk #[]))) w))))))))
set_option maxRecDepth 100000 in
theorem L1_events_Marked (x0 : Sl) (x1 : ByteArray) (x2 : ByteArray) (w : World) (Ret : Int → Int → World → Prop) (H : V_events_Marked x0 x1 x2 w Ret) : Cl Try.prog 17 [(Sl.v x0), (.string x1), (.string x2)].toArray w (fun e w' => ∃ (r0 : Int) (r1 : Int), e = .returned (.tuple [(.int .i64 r0), (.int .i64 r1)].toArray) ∧ Ret r0 r1 w') := by
  unfold V_events_Marked at H
  refine C.enterM 29 (zipE 0 [(Sl.v x0), (.string x1), (.string x2)]) Try.func17 rfl rfl (by rfl) rfl ?_
  intro a hE
  replace hE : Sat [] 29 [(0, (Sl.v x0)), (1, (.string x1)), (2, (.string x2))] a := hE
  refine C.seq ?_
  refine C.region ?_
  refine hE.op (X.box hE rfl) H fun x5 w a H hE => ?_
  refine hE.op (X.alloc) H fun x6 w a H hE => ?_
  refine hE.op (X.alloc) H fun x7 w a H hE => ?_
  refine C.nil (tn ?_)
  refine C.seq ?_
  refine C.seq ?_
  refine C.region ?_
  refine hE.pur (X.move hE rfl) fun a hE => ?_
  refine hE.call (X.callF hE ent14 rfl rfl) H fun e w H => ?_
  obtain ⟨r, rfl, H⟩ := H
  refine ⟨_, rfl, fun a hE => ?_⟩
  refine hE.pur (X.assign hE rfl) fun a hE => ?_
  refine C.nil (tn ?_)
  refine C.seq ?_
  refine C.region ?_
  refine hE.pur (X.move hE rfl) fun a hE => ?_
  refine hE.pur (X.neI hE rfl rfl) fun a hE => ?_
  refine hE.pur (X.move hE rfl) fun a hE => ?_
  refine WL.join (ds := []) (N := 29) (σ := Bool) (fun s => [(17, (.bool s)), (0, (Sl.v x0)), (1, (.string x1)), (5, (.pointer x5)), (6, (.pointer x6)), (7, (.pointer x7)), (8, (.int .i64 r))]) (fun s w => V_events_Marked_r1 x0 x1 Ret x5 x6 x7 r s w) 3 ?_ (fun hr1 => ?_)
  · intro x17 w a H hE
    try dsimp only at H hE
    unfold V_events_Marked_r1 at H
    refine C.nil (tn ?_)
    refine C.condB hE rfl (fun hc => ?_) (fun hc => ?_)
    · replace H := H.1 hc
      refine C.seq ?_
      refine C.region ?_
      refine hE.pur (X.move hE rfl) fun a hE => ?_
      refine hE.opu (X.store hE rfl rfl) H fun w a H hE => ?_
      refine hE.opu (X.store hE rfl rfl) H fun w a H hE => ?_
      refine C.nil (tn ?_)
      obtain ⟨q, ad, hp, hl, H⟩ := H
      obtain ⟨q_1, ad_1, hp_1, hl_1, H⟩ := H
      exact C.ret (tr (C.retM0 hE (rs := [.cell 6 3, .cell 7 24]) (vs := [(.int .i64 q), (.int .i64 q_1)]) rfl ⟨⟨ad, by rw [← hp]; rfl, hl⟩, ⟨ad_1, by rw [← hp_1]; rfl, hl_1⟩, trivial⟩ ⟨_, _, rfl, H⟩))
    · replace H := H.2 hc
      refine C.skip (tn ?_)
      refine C.seq ?_
      refine C.seq ?_
      refine C.region ?_
      refine hE.pur (X.move hE rfl) fun a hE => ?_
      refine hE.pur (X.move hE rfl) fun a hE => ?_
      refine hE.call (X.callF hE ent26 rfl rfl) H fun e w H => ?_
      obtain ⟨r_1, rfl, H⟩ := H
      refine ⟨_, rfl, fun a hE => ?_⟩
      refine C.nil (tn ?_)
      refine C.block ?_
      obtain ⟨cells, Kp, S, Sp, Num, I, Ir, hR, hnew, hbd, hdn, hst⟩ := H
      refine C.range1 T_api_Event.v cells (some .ret) hE rfl hR hnew (by rfl) (by rfl) (by rfl) ?_ ?_ ?_
      · intro l pre x22 Bx w a h1 h2 h3 h4 hE
        have H := hbd pre x22 Bx w h1 h2 h3 h4
        generalize (some (⟨Bx, 0, none⟩ : Addr)) = x9 at H hE
        generalize (fun (W' : World) => KeepsFrom _ w W' ∧ Kp w W' ∧ I (pre ++ [x22]) W') = Gf2 at H ⊢
        generalize (fun (W' : World) => KeepsFrom _ w W' ∧ Ir (pre ++ [x22]) W') = Lf2 at H ⊢
        unfold V_events_Marked_f2b at H
        refine C.block ?_
        refine C.seq ?_
        refine C.region ?_
        refine hE.op (X.fieldAddr hE rfl) H fun x23 w a H hE => ?_
        refine hE.op (X.load hE rfl) H fun x24 w a H hE => ?_
        refine hE.op (X.load hE rfl) H fun x25 w a H hE => ?_
        refine hE.pur (X.eqS hE rfl rfl) fun a hE => ?_
        refine C.nil (tn ?_)
        refine C.condP hE rfl (fun hc => ?_) (fun hc => ?_)
        · replace H := H.1 hc
          refine C.seq ?_
          refine C.region ?_
          refine hE.op (X.fieldAddr hE rfl) H fun x27 w a H hE => ?_
          refine hE.op (X.load hE rfl) H fun x28 w a H hE => ?_
          refine hE.opu (X.store hE rfl rfl) H fun w a H hE => ?_
          refine hE.opu (X.store hE rfl rfl) H fun w a H hE => ?_
          refine C.nil (tn ?_)
          exact C.ret (br ⟨rfl, H⟩)
        · replace H := H.2 hc
          exact C.skip (bn H)
      · intro D xs w a h1 h2 h3 hD hE
        have H := hdn D xs w h1 h2 h3 hD
        clear hbd hdn hst hnew
        try dsimp only at H
        refine (bn (tn ?_))
        refine C.seq ?_
        refine C.region ?_
        refine hE.opu (X.store hE rfl rfl) H fun w a H hE => ?_
        refine hE.opu (X.store hE rfl rfl) H fun w a H hE => ?_
        refine C.nil (tn ?_)
        obtain ⟨hD0, H⟩ := H
        try dsimp only at H
        obtain ⟨q_2, ad_2, hp_2, hl_2, H⟩ := H
        obtain ⟨q_3, ad_3, hp_3, hl_3, H⟩ := H
        exact C.ret (C.retM1 hE (rs := [.cell 6 3, .cell 7 24]) (vs := [(.int .i64 q_2), (.int .i64 q_3)]) rfl hD0 ⟨⟨ad_2, by rw [← hp_2]; rfl, hl_2⟩, ⟨ad_3, by rw [← hp_3]; rfl, hl_3⟩, trivial⟩ ⟨_, _, rfl, H⟩)
      · intro D c pre w a hj h1 h2 h3 hD hE
        cases hj
        have H := hst D pre w h1 h2 h3 hD
        clear hbd hdn hst hnew
        try dsimp only at H
        obtain ⟨hD0, H⟩ := H
        try dsimp only at H
        obtain ⟨q_4, ad_4, hp_4, hl_4, H⟩ := H
        obtain ⟨q_5, ad_5, hp_5, hl_5, H⟩ := H
        exact (C.ret (br (tr (C.retM1 hE (rs := [.cell 6 3, .cell 7 24]) (vs := [(.int .i64 q_4), (.int .i64 q_5)]) rfl hD0 ⟨⟨ad_4, by rw [← hp_4]; rfl, hl_4⟩, ⟨ad_5, by rw [← hp_5]; rfl, hl_5⟩, trivial⟩ ⟨_, _, rfl, H⟩))))
  · rcases Classical.em ((r ≠ 0)) with hbr1 | hbr1
    · replace H := H.1 hbr1
      replace hE := hE.bool (b := true) (t := 14) rfl (decide_eq_true hbr1)
      refine hE.off (by rfl) (by rfl) (by decide) (fun a hE => ?_)
      refine hE.off (by rfl) (by rfl) (by decide) (fun a hE => ?_)
      refine hE.pur (X.pickT hE rfl rfl) fun a hE => ?_
      exact hr1 true _ _ H (hE.weak ⟨rfl, rfl, rfl, rfl, rfl, rfl, rfl, trivial⟩)
    · replace H := H.2 hbr1
      replace hE := hE.bool (b := false) (t := 14) rfl (decide_eq_false hbr1)
      refine hE.on (by rfl) (by rfl) ?_
      refine hE.op (X.load hE rfl) H fun x15 w a H hE => ?_
      refine hE.on (by rfl) (by rfl) ?_
      refine hE.pur (X.eqS hE rfl rfl) fun a hE => ?_
      refine hE.pur (X.pickF hE rfl rfl) fun a hE => ?_
      exact hr1 (decide (x15 = (ByteArray.mk #[]))) _ _ H (hE.weak ⟨rfl, rfl, rfl, rfl, rfl, rfl, rfl, trivial⟩)
/-! ### lading events.Streams: function 18 -/
def V_events_Streams_l1b (x0 : Sl) (Ret : Sl → Int → World → Prop) (x13 : Option Nat) (x16 : Int) (w : World) (Kl1 : Int → World → Prop) : Prop :=
  ((x16 < (x0.len : Int)) → (opE Try.prog Value.pointer (Instr.indexAt 22 (Sl.v x0) (.int .i64 x16)) w (fun x18 w => opE Try.prog T_api_Event.v (Instr.loadAt 32 (.pointer x18)) w (fun x19 w => opE Try.prog Value.pointer (Instr.alloc 32 true (.tuple #[])) w (fun x7 w => opU Try.prog (Instr.storeAt 32 (.pointer x7) (T_api_Event.v x19)) w (fun w => opE Try.prog Value.pointer (Instr.fieldAt 32 (.pointer x7) 0) w (fun x21 w => opE Try.prog Value.string (Instr.loadAt 9 (.pointer x21)) w (fun x22 w => opE Try.prog T_s61.v (Instr.build 61 [].toArray) w (fun x23 w => opU Try.prog (Instr.mapUpdate 60 (.map x13) (.string x22) (T_s61.v x23)) w (fun w => Kl1 (IntKind.wrap .i64 (x16 + 1)) w)))))))))) ∧ (¬ (x16 < (x0.len : Int)) → (Cl Try.prog 35 [(.map x13)].toArray w (fun e w => ∃ (r_1 : Value), e = .returned r_1 ∧ (Cl Try.prog 34 [r_1].toArray w (fun e w => ∃ (r_2 : Sl), e = .returned (Sl.v r_2) ∧ (Ret r_2 0 w))))))
def V_events_Streams (x0 : Sl) (w : World) (Ret : Sl → Int → World → Prop) : Prop :=
  Cl Try.prog 14 [(Sl.v x0)].toArray w (fun e w => ∃ (r : Int), e = .returned (.int .i64 r) ∧ (((r ≠ 0) → (Ret Sl.none r w)) ∧ (¬ (r ≠ 0) → (opE Try.prog Value.map (Instr.makeMap 60 none) w (fun x13 w => ∃ (I : Int → World → Prop) (μ : Int → World → Nat), I 0 w ∧ ∀ (x16 : Int) w, I x16 w → V_events_Streams_l1b x0 Ret x13 x16 w (fun x16' w' => I x16' w' ∧ μ x16' w' < μ x16 w))))))
set_option maxRecDepth 100000 in
theorem L1_events_Streams (x0 : Sl) (w : World) (Ret : Sl → Int → World → Prop) (H : V_events_Streams x0 w Ret) : Cl Try.prog 18 [(Sl.v x0)].toArray w (fun e w' => ∃ (r0 : Sl) (r1 : Int), e = .returned (.tuple [(Sl.v r0), (.int .i64 r1)].toArray) ∧ Ret r0 r1 w') := by
  unfold V_events_Streams at H
  refine C.enter 28 (zipE 0 [(Sl.v x0)]) Try.func18 rfl rfl (by rfl) rfl ?_
  intro a hE
  replace hE : Sat [] 28 [(0, (Sl.v x0))] a := hE
  refine C.seq ?_
  refine C.region ?_
  refine hE.pur (X.assign hE rfl) fun a hE => ?_
  refine hE.pur (X.assign hE rfl) fun a hE => ?_
  refine C.nil (tn ?_)
  refine C.seq ?_
  refine C.seq ?_
  refine C.region ?_
  refine hE.pur (X.move hE rfl) fun a hE => ?_
  refine hE.call (X.callF hE ent14 rfl rfl) H fun e w H => ?_
  obtain ⟨r, rfl, H⟩ := H
  refine ⟨_, rfl, fun a hE => ?_⟩
  refine hE.pur (X.assign hE rfl) fun a hE => ?_
  refine C.nil (tn ?_)
  refine C.seq ?_
  refine C.region ?_
  refine hE.pur (X.move hE rfl) fun a hE => ?_
  refine hE.pur (X.neI hE rfl rfl) fun a hE => ?_
  refine C.nil (tn ?_)
  refine C.condP hE rfl (fun hc => ?_) (fun hc => ?_)
  · replace H := H.1 hc
    refine C.seq ?_
    refine C.region ?_
    refine hE.pur (X.move hE rfl) fun a hE => ?_
    refine hE.pur (X.assign hE rfl) fun a hE => ?_
    refine hE.pur (X.assign hE rfl) fun a hE => ?_
    refine C.nil (tn ?_)
    exact C.ret (tr (C.ret2 hE rfl rfl rfl ⟨_, _, rfl, H⟩))
  · replace H := H.2 hc
    refine C.skip (tn ?_)
    refine C.seq ?_
    refine C.region ?_
    refine hE.op (X.makeMap) H fun x13 w a H hE => ?_
    refine hE.pur (X.assign hE rfl) fun a hE => ?_
    refine C.nil (tn ?_)
    refine C.seq ?_
    refine C.seq ?_
    refine C.region ?_
    refine hE.pur (X.move hE rfl) fun a hE => ?_
    refine hE.purR (fun w => X.lenL hE Try.underlying22 rfl) fun a hE => ?_
    refine hE.pur (X.move hE rfl) fun a hE => ?_
    refine C.nil (tn ?_)
    refine C.block ?_
    obtain ⟨I_l1, μ_l1, h0, hb⟩ := H
    refine C.loop (ds := []) (N := 28) (σ := Int) (fun s => [(16, (.int .i64 s)), (5, (.map x13)), (14, (Sl.v x0)), (15, (.int .i64 (x0.len : Int)))]) (fun s w => I_l1 s w) (fun s w => μ_l1 s w) 0 h0 (hE.weak ⟨rfl, rfl, rfl, rfl, trivial⟩) ?_
    intro x16 w a hI hE
    try dsimp only at hI hE
    obtain ⟨Kl1, hK_l1⟩ : ∃ K : Int → World → Prop, K = (fun x16' w' => I_l1 x16' w' ∧ μ_l1 x16' w' < μ_l1 x16 w) := ⟨_, rfl⟩
    have H : V_events_Streams_l1b x0 Ret x13 x16 w Kl1 := by rw [hK_l1]; exact hb x16 w hI
    clear hb h0 hI
    unfold V_events_Streams_l1b at H
    refine C.seq ?_
    refine C.region ?_
    refine hE.pur (X.ltI hE rfl rfl) fun a hE => ?_
    refine C.nil (tn ?_)
    refine C.seq ?_
    refine C.condP hE rfl (fun hc => ?_) (fun hc => ?_)
    · replace H := H.1 hc
      refine C.skip (tn ?_)
      refine C.seq ?_
      refine C.block ?_
      refine C.seq ?_
      refine C.region ?_
      refine hE.op (X.indexAddr hE rfl rfl) H fun x18 w a H hE => ?_
      refine hE.op (X.load hE rfl) H fun x19 w a H hE => ?_
      refine hE.op (X.alloc) H fun x7 w a H hE => ?_
      refine hE.opu (X.store hE rfl rfl) H fun w a H hE => ?_
      refine C.nil (tn ?_)
      refine C.region ?_
      refine hE.pur (X.move hE rfl) fun a hE => ?_
      refine hE.op (X.fieldAddr hE rfl) H fun x21 w a H hE => ?_
      refine hE.op (X.load hE rfl) H fun x22 w a H hE => ?_
      refine hE.op (X.build hE rfl) H fun x23 w a H hE => ?_
      refine hE.opu (X.mapUpdate hE rfl rfl rfl) H fun w a H hE => ?_
      refine C.nil (bn (tn ?_))
      refine C.region ?_
      refine hE.pur (X.add hE rfl rfl) fun a hE => ?_
      refine hE.pur (X.move hE rfl) fun a hE => ?_
      rw [hK_l1] at H
      exact C.nil (tn ⟨(IntKind.wrap .i64 (x16 + 1)), hE.weak ⟨rfl, rfl, rfl, rfl, trivial⟩, H⟩)
    · replace H := H.2 hc
      refine C.exit (te (te (be (tn ?_))))
      refine C.seq ?_
      refine C.region ?_
      refine hE.pur (X.move hE rfl) fun a hE => ?_
      refine hE.call (X.callF hE ent35 rfl rfl) H fun e w H => ?_
      obtain ⟨r_1, rfl, H⟩ := H
      refine ⟨_, rfl, fun a hE => ?_⟩
      refine hE.call (X.callF hE ent34 rfl rfl) H fun e w H => ?_
      obtain ⟨r_2, rfl, H⟩ := H
      refine ⟨_, rfl, fun a hE => ?_⟩
      refine hE.pur (X.assign hE rfl) fun a hE => ?_
      refine hE.pur (X.assign hE rfl) fun a hE => ?_
      refine C.nil (tn ?_)
      exact C.ret (C.ret2 hE rfl rfl rfl ⟨_, _, rfl, H⟩)
/-! ### lading events.All: function 20 -/
def V_events_All (x0 : Sl) (x1 : Int) (x2 : Int) (w : World) (Ret : Sl → Int → World → Prop) : Prop :=
  Cl Try.prog 14 [(Sl.v x0)].toArray w (fun e w => ∃ (r : Int), e = .returned (.int .i64 r) ∧ (((r ≠ 0) → (Ret Sl.none r w)) ∧ (¬ (r ≠ 0) → (Cl Try.prog 33 [(Sl.v x0), (.int .i64 x1), (.int .i64 x2)].toArray w (fun e w => ∃ (r_1 : Sl) (r_2 : Int), e = .returned (.tuple [(Sl.v r_1), (.int .i64 r_2)].toArray) ∧ (Ret r_1 r_2 w))))))
set_option maxRecDepth 100000 in
theorem L1_events_All (x0 : Sl) (x1 : Int) (x2 : Int) (w : World) (Ret : Sl → Int → World → Prop) (H : V_events_All x0 x1 x2 w Ret) : Cl Try.prog 20 [(Sl.v x0), (.int .i64 x1), (.int .i64 x2)].toArray w (fun e w' => ∃ (r0 : Sl) (r1 : Int), e = .returned (.tuple [(Sl.v r0), (.int .i64 r1)].toArray) ∧ Ret r0 r1 w') := by
  unfold V_events_All at H
  refine C.enter 20 (zipE 0 [(Sl.v x0), (.int .i64 x1), (.int .i64 x2)]) Try.func20 rfl rfl (by rfl) rfl ?_
  intro a hE
  replace hE : Sat [] 20 [(0, (Sl.v x0)), (1, (.int .i64 x1)), (2, (.int .i64 x2))] a := hE
  refine C.seq ?_
  refine C.region ?_
  refine hE.pur (X.assign hE rfl) fun a hE => ?_
  refine hE.pur (X.assign hE rfl) fun a hE => ?_
  refine C.nil (tn ?_)
  refine C.seq ?_
  refine C.seq ?_
  refine C.region ?_
  refine hE.pur (X.move hE rfl) fun a hE => ?_
  refine hE.call (X.callF hE ent14 rfl rfl) H fun e w H => ?_
  obtain ⟨r, rfl, H⟩ := H
  refine ⟨_, rfl, fun a hE => ?_⟩
  refine hE.pur (X.assign hE rfl) fun a hE => ?_
  refine C.nil (tn ?_)
  refine C.seq ?_
  refine C.region ?_
  refine hE.pur (X.move hE rfl) fun a hE => ?_
  refine hE.pur (X.neI hE rfl rfl) fun a hE => ?_
  refine C.nil (tn ?_)
  refine C.condP hE rfl (fun hc => ?_) (fun hc => ?_)
  · replace H := H.1 hc
    refine C.seq ?_
    refine C.region ?_
    refine hE.pur (X.move hE rfl) fun a hE => ?_
    refine hE.pur (X.assign hE rfl) fun a hE => ?_
    refine hE.pur (X.assign hE rfl) fun a hE => ?_
    refine C.nil (tn ?_)
    exact C.ret (tr (C.ret2 hE rfl rfl rfl ⟨_, _, rfl, H⟩))
  · replace H := H.2 hc
    refine C.skip (tn ?_)
    refine C.seq ?_
    refine C.region ?_
    refine hE.pur (X.move hE rfl) fun a hE => ?_
    refine hE.pur (X.move hE rfl) fun a hE => ?_
    refine hE.pur (X.move hE rfl) fun a hE => ?_
    refine hE.call (X.callF hE ent33 rfl rfl) H fun e w H => ?_
    obtain ⟨r_1, r_2, rfl, H⟩ := H
    refine ⟨_, rfl, fun a hE => ?_⟩
    refine hE.pur (X.extract hE rfl rfl) fun a hE => ?_
    refine hE.pur (X.extract hE rfl rfl) fun a hE => ?_
    refine hE.pur (X.assign hE rfl) fun a hE => ?_
    refine hE.pur (X.assign hE rfl) fun a hE => ?_
    refine C.nil (tn ?_)
    exact C.ret (C.ret2 hE rfl rfl rfl ⟨_, _, rfl, H⟩)
/-! ### slices.Collect[lading api.Event]: function 25 -/
def V_slices_Collect_api_Event (x0 : Value) (w : World) (Ret : Sl → World → Prop) : Prop :=
  Cl Try.prog 37 [(Sl.v Sl.none), x0].toArray w (fun e w => ∃ (r : Sl), e = .returned (Sl.v r) ∧ (Ret r w))
set_option maxRecDepth 100000 in
theorem L1_slices_Collect_api_Event (x0 : Value) (w : World) (Ret : Sl → World → Prop) (H : V_slices_Collect_api_Event x0 w Ret) : Cl Try.prog 25 [x0].toArray w (fun e w' => ∃ (r0 : Sl), e = .returned (Sl.v r0) ∧ Ret r0 w') := by
  unfold V_slices_Collect_api_Event at H
  refine C.enter 5 (zipE 0 [x0]) Try.func25 rfl rfl (by rfl) rfl ?_
  intro a hE
  replace hE : Sat [] 5 [(0, x0)] a := hE
  refine C.seq ?_
  refine C.region ?_
  refine hE.pur (X.assign hE rfl) fun a hE => ?_
  refine C.nil (tn ?_)
  refine C.seq ?_
  refine C.region ?_
  refine hE.pur (X.move hE rfl) fun a hE => ?_
  refine hE.call (X.callF hE ent37 rfl rfl) H fun e w H => ?_
  obtain ⟨r, rfl, H⟩ := H
  refine ⟨_, rfl, fun a hE => ?_⟩
  refine hE.pur (X.assign hE rfl) fun a hE => ?_
  refine C.nil (tn ?_)
  exact C.ret (C.ret1 hE rfl rfl ⟨_, rfl, H⟩)
/-! ### lading events.of: function 26 -/
def V_events_of (x0 : Sl) (x1 : ByteArray) (w : World) (Ret : Value → World → Prop) : Prop :=
  opE Try.prog Value.pointer (Instr.box 22 (Sl.v x0)) w (fun x2 w => opE Try.prog Value.pointer (Instr.box 9 (.string x1)) w (fun x3 w => Ret (.func (.func 38) [].toArray [(.pointer x2), (.pointer x3)].toArray) w))
set_option maxRecDepth 100000 in
theorem L1_events_of (x0 : Sl) (x1 : ByteArray) (w : World) (Ret : Value → World → Prop) (H : V_events_of x0 x1 w Ret) : Cl Try.prog 26 [(Sl.v x0), (.string x1)].toArray w (fun e w' => ∃ (r0 : Value), e = .returned r0 ∧ Ret r0 w') := by
  unfold V_events_of at H
  refine C.enter 6 (zipE 0 [(Sl.v x0), (.string x1)]) Try.func26 rfl rfl (by rfl) rfl ?_
  intro a hE
  replace hE : Sat [] 6 [(0, (Sl.v x0)), (1, (.string x1))] a := hE
  refine C.seq ?_
  refine C.region ?_
  refine hE.op (X.box hE rfl) H fun x2 w a H hE => ?_
  refine hE.op (X.box hE rfl) H fun x3 w a H hE => ?_
  refine hE.pur (X.assign hE rfl) fun a hE => ?_
  refine C.nil (tn ?_)
  refine C.seq ?_
  refine C.region ?_
  refine hE.pur (X.makeFunc hE rfl rfl) fun a hE => ?_
  refine hE.pur (X.assign hE rfl) fun a hE => ?_
  refine C.nil (tn ?_)
  exact C.ret (C.ret1 hE rfl rfl ⟨_, rfl, H⟩)
/-! ### slices.Clone[[]lading api.Event,lading api.Event]: function 27 -/
def V_slices_Clone_api_Event_api_Event (x0 : Sl) (w : World) (Ret : Sl → World → Prop) : Prop :=
  opE Try.prog Value.bool (do eqGuard .eql 22 (.tmp 3) (.const (Sl.v Sl.none)) (Sl.v x0) (Sl.v Sl.none); binOp .eql 22 (Sl.v x0) (Sl.v Sl.none)) w (fun x4 w => (x4 = true → (Ret Sl.none w)) ∧ (x4 = false → (opE Try.prog Sl.v (Instr.buildSlice 22 0 [].toArray) w (fun x5 w => opE Try.prog Sl.v (Builtin.append_ #[22, 22] 22 [(Sl.v x5), (Sl.v x0)].toArray) w (fun x7 w => Ret x7 w)))))
set_option maxRecDepth 100000 in
theorem L1_slices_Clone_api_Event_api_Event (x0 : Sl) (w : World) (Ret : Sl → World → Prop) (H : V_slices_Clone_api_Event_api_Event x0 w Ret) : Cl Try.prog 27 [(Sl.v x0)].toArray w (fun e w' => ∃ (r0 : Sl), e = .returned (Sl.v r0) ∧ Ret r0 w') := by
  unfold V_slices_Clone_api_Event_api_Event at H
  refine C.enter 8 (zipE 0 [(Sl.v x0)]) Try.func27 rfl rfl (by rfl) rfl ?_
  intro a hE
  replace hE : Sat [] 8 [(0, (Sl.v x0))] a := hE
  refine C.seq ?_
  refine C.region ?_
  refine hE.pur (X.assign hE rfl) fun a hE => ?_
  refine C.nil (tn ?_)
  refine C.seq ?_
  refine C.seq ?_
  refine C.region ?_
  refine hE.pur (X.move hE rfl) fun a hE => ?_
  refine hE.op (X.bin hE rfl rfl) H fun x4 w a H hE => ?_
  refine C.nil (tn ?_)
  refine C.condB hE rfl (fun hc => ?_) (fun hc => ?_)
  · replace H := H.1 hc
    refine C.seq ?_
    refine C.region ?_
    refine hE.pur (X.assign hE rfl) fun a hE => ?_
    refine C.nil (tn ?_)
    exact C.ret (tr (C.ret1 hE rfl rfl ⟨_, rfl, H⟩))
  · replace H := H.2 hc
    refine C.skip (tn ?_)
    refine C.seq ?_
    refine C.region ?_
    refine hE.op (X.buildSlice hE rfl) H fun x5 w a H hE => ?_
    refine hE.pur (X.move hE rfl) fun a hE => ?_
    refine hE.op (X.append hE rfl) H fun x7 w a H hE => ?_
    refine hE.pur (X.assign hE rfl) fun a hE => ?_
    refine C.nil (tn ?_)
    exact C.ret (C.ret1 hE rfl rfl ⟨_, rfl, H⟩)
/-! ### lading events.long: function 28 -/
def V_events_long (x0 : ByteArray) (w : World) (Ret : Bool → World → Prop) : Prop :=
  Ret (decide (1024 < (x0.size : Int))) w
set_option maxRecDepth 100000 in
theorem L1_events_long (x0 : ByteArray) (w : World) (Ret : Bool → World → Prop) (H : V_events_long x0 w Ret) : Cl Try.prog 28 [(.string x0)].toArray w (fun e w' => ∃ (r0 : Bool), e = .returned (.bool r0) ∧ Ret r0 w') := by
  unfold V_events_long at H
  refine C.enter 6 (zipE 0 [(.string x0)]) Try.func28 rfl rfl (by rfl) rfl ?_
  intro a hE
  replace hE : Sat [] 6 [(0, (.string x0))] a := hE
  refine C.seq ?_
  refine C.region ?_
  refine hE.pur (X.assign hE rfl) fun a hE => ?_
  refine C.nil (tn ?_)
  refine C.seq ?_
  refine C.region ?_
  refine hE.pur (X.move hE rfl) fun a hE => ?_
  refine hE.purR (fun w => X.lenS hE Try.underlying9 rfl) fun a hE => ?_
  refine hE.pur (X.gtI hE rfl rfl) fun a hE => ?_
  refine hE.pur (X.assign hE rfl) fun a hE => ?_
  refine C.nil (tn ?_)
  exact C.ret (C.ret1 hE rfl rfl ⟨_, rfl, H⟩)
/-! ### slices.ContainsFunc[[]string,string]: function 29 -/
def V_slices_ContainsFunc_string_string (x0 : Sl) (x1 : Value) (w : World) (Ret : Bool → World → Prop) : Prop :=
  Cl Try.prog 39 [(Sl.v x0), x1].toArray w (fun e w => ∃ (r : Int), e = .returned (.int .i64 r) ∧ (Ret (decide (0 ≤ r)) w))
set_option maxRecDepth 100000 in
theorem L1_slices_ContainsFunc_string_string (x0 : Sl) (x1 : Value) (w : World) (Ret : Bool → World → Prop) (H : V_slices_ContainsFunc_string_string x0 x1 w Ret) : Cl Try.prog 29 [(Sl.v x0), x1].toArray w (fun e w' => ∃ (r0 : Bool), e = .returned (.bool r0) ∧ Ret r0 w') := by
  unfold V_slices_ContainsFunc_string_string at H
  refine C.enter 9 (zipE 0 [(Sl.v x0), x1]) Try.func29 rfl rfl (by rfl) rfl ?_
  intro a hE
  replace hE : Sat [] 9 [(0, (Sl.v x0)), (1, x1)] a := hE
  refine C.seq ?_
  refine C.region ?_
  refine hE.pur (X.assign hE rfl) fun a hE => ?_
  refine C.nil (tn ?_)
  refine C.seq ?_
  refine C.region ?_
  refine hE.pur (X.move hE rfl) fun a hE => ?_
  refine hE.pur (X.move hE rfl) fun a hE => ?_
  refine hE.call (X.callF hE ent39 rfl rfl) H fun e w H => ?_
  obtain ⟨r, rfl, H⟩ := H
  refine ⟨_, rfl, fun a hE => ?_⟩
  refine hE.pur (X.geI hE rfl rfl) fun a hE => ?_
  refine hE.pur (X.assign hE rfl) fun a hE => ?_
  refine C.nil (tn ?_)
  exact C.ret (C.ret1 hE rfl rfl ⟨_, rfl, H⟩)
/-! ### lading events.part: function 33 -/
def V_events_part_r1 (x0 : Sl) (x1 : Int) (x2 : Int) (Ret : Sl → Int → World → Prop) (x13 : Bool) (w : World) : Prop :=
  (x13 = true → (Ret Sl.none 2 w)) ∧ (x13 = false → (opE Try.prog Sl.v (Instr.sliceAt 22 (Sl.v x0) (some (.int .i64 (if (x0.len : Int) < (IntKind.wrap .i64 (x1 - 1)) then (x0.len : Int) else (IntKind.wrap .i64 (x1 - 1))))) none none) w (fun x20 w => opE Try.prog Sl.v (Instr.sliceAt 22 (Sl.v x20) none (some (.int .i64 (if (x20.len : Int) < x2 then (x20.len : Int) else x2))) none) w (fun x26 w => Cl Try.prog 27 [(Sl.v x26)].toArray w (fun e w => ∃ (r : Sl), e = .returned (Sl.v r) ∧ (Ret r 0 w))))))
def V_events_part (x0 : Sl) (x1 : Int) (x2 : Int) (w : World) (Ret : Sl → Int → World → Prop) : Prop :=
  ((x1 < 1) → (V_events_part_r1 x0 x1 x2 Ret true w)) ∧ (¬ (x1 < 1) → (V_events_part_r1 x0 x1 x2 Ret (decide (x2 < 0)) w))
set_option maxRecDepth 100000 in
theorem L1_events_part (x0 : Sl) (x1 : Int) (x2 : Int) (w : World) (Ret : Sl → Int → World → Prop) (H : V_events_part x0 x1 x2 w Ret) : Cl Try.prog 33 [(Sl.v x0), (.int .i64 x1), (.int .i64 x2)].toArray w (fun e w' => ∃ (r0 : Sl) (r1 : Int), e = .returned (.tuple [(Sl.v r0), (.int .i64 r1)].toArray) ∧ Ret r0 r1 w') := by
  unfold V_events_part at H
  refine C.enter 28 (zipE 0 [(Sl.v x0), (.int .i64 x1), (.int .i64 x2)]) Try.func33 rfl rfl (by rfl) rfl ?_
  intro a hE
  replace hE : Sat [] 28 [(0, (Sl.v x0)), (1, (.int .i64 x1)), (2, (.int .i64 x2))] a := hE
  refine C.seq ?_
  refine C.region ?_
  refine hE.pur (X.assign hE rfl) fun a hE => ?_
  refine hE.pur (X.assign hE rfl) fun a hE => ?_
  refine C.nil (tn ?_)
  refine C.seq ?_
  refine C.seq ?_
  refine C.region ?_
  refine hE.pur (X.move hE rfl) fun a hE => ?_
  refine hE.pur (X.ltI hE rfl rfl) fun a hE => ?_
  refine hE.pur (X.move hE rfl) fun a hE => ?_
  refine WL.join (ds := []) (N := 28) (σ := Bool) (fun s => [(13, (.bool s)), (0, (Sl.v x0)), (1, (.int .i64 x1)), (2, (.int .i64 x2))]) (fun s w => V_events_part_r1 x0 x1 x2 Ret s w) 3 ?_ (fun hr1 => ?_)
  · intro x13 w a H hE
    try dsimp only at H hE
    unfold V_events_part_r1 at H
    refine C.nil (tn ?_)
    refine C.condB hE rfl (fun hc => ?_) (fun hc => ?_)
    · replace H := H.1 hc
      refine C.seq ?_
      refine C.region ?_
      refine hE.pur (X.assign hE rfl) fun a hE => ?_
      refine hE.pur (X.assign hE rfl) fun a hE => ?_
      refine C.nil (tn ?_)
      exact C.ret (tr (C.ret2 hE rfl rfl rfl ⟨_, _, rfl, H⟩))
    · replace H := H.2 hc
      refine C.skip (tn ?_)
      refine C.seq ?_
      refine C.region ?_
      refine hE.pur (X.move hE rfl) fun a hE => ?_
      refine hE.pur (X.move hE rfl) fun a hE => ?_
      refine hE.pur (X.sub hE rfl rfl) fun a hE => ?_
      refine hE.pur (X.move hE rfl) fun a hE => ?_
      refine hE.purR (fun w => X.lenL hE Try.underlying22 rfl) fun a hE => ?_
      refine hE.pur (X.minI hE rfl rfl) fun a hE => ?_
      refine hE.op (X.slice hE rfl rfl rfl rfl) H fun x20 w a H hE => ?_
      refine hE.pur (X.assign hE rfl) fun a hE => ?_
      refine C.nil (tn ?_)
      refine C.seq ?_
      refine C.region ?_
      refine hE.pur (X.move hE rfl) fun a hE => ?_
      refine hE.pur (X.move hE rfl) fun a hE => ?_
      refine hE.pur (X.move hE rfl) fun a hE => ?_
      refine hE.purR (fun w => X.lenL hE Try.underlying22 rfl) fun a hE => ?_
      refine hE.pur (X.minI hE rfl rfl) fun a hE => ?_
      refine hE.op (X.slice hE rfl rfl rfl rfl) H fun x26 w a H hE => ?_
      refine hE.call (X.callF hE ent27 rfl rfl) H fun e w H => ?_
      obtain ⟨r, rfl, H⟩ := H
      refine ⟨_, rfl, fun a hE => ?_⟩
      refine hE.pur (X.assign hE rfl) fun a hE => ?_
      refine hE.pur (X.assign hE rfl) fun a hE => ?_
      refine C.nil (tn ?_)
      exact C.ret (C.ret2 hE rfl rfl rfl ⟨_, _, rfl, H⟩)
  · rcases Classical.em ((x1 < 1)) with hbr1 | hbr1
    · replace H := H.1 hbr1
      replace hE := hE.bool (b := true) (t := 10) rfl (decide_eq_true hbr1)
      refine hE.off (by rfl) (by rfl) (by decide) (fun a hE => ?_)
      refine hE.off (by rfl) (by rfl) (by decide) (fun a hE => ?_)
      refine hE.pur (X.pickT hE rfl rfl) fun a hE => ?_
      exact hr1 true _ _ H (hE.weak ⟨rfl, rfl, rfl, rfl, trivial⟩)
    · replace H := H.2 hbr1
      replace hE := hE.bool (b := false) (t := 10) rfl (decide_eq_false hbr1)
      refine hE.on (by rfl) (by rfl) ?_
      refine hE.pur (X.move hE rfl) fun a hE => ?_
      refine hE.on (by rfl) (by rfl) ?_
      refine hE.pur (X.ltI hE rfl rfl) fun a hE => ?_
      refine hE.pur (X.pickF hE rfl rfl) fun a hE => ?_
      exact hr1 (decide (x2 < 0)) _ _ H (hE.weak ⟨rfl, rfl, rfl, rfl, trivial⟩)
/-! ### slices.Sorted[string]: function 34 -/
def V_slices_Sorted_string (x0 : Value) (w : World) (Ret : Sl → World → Prop) : Prop :=
  Cl Try.prog 40 [x0].toArray w (fun e w => ∃ (r : Sl), e = .returned (Sl.v r) ∧ (Cl Try.prog 41 [(Sl.v r)].toArray w (fun e w => e = .returned (.tuple [].toArray) ∧ (Ret r w))))
set_option maxRecDepth 100000 in
theorem L1_slices_Sorted_string (x0 : Value) (w : World) (Ret : Sl → World → Prop) (H : V_slices_Sorted_string x0 w Ret) : Cl Try.prog 34 [x0].toArray w (fun e w' => ∃ (r0 : Sl), e = .returned (Sl.v r0) ∧ Ret r0 w') := by
  unfold V_slices_Sorted_string at H
  refine C.enter 9 (zipE 0 [x0]) Try.func34 rfl rfl (by rfl) rfl ?_
  intro a hE
  replace hE : Sat [] 9 [(0, x0)] a := hE
  refine C.seq ?_
  refine C.region ?_
  refine hE.pur (X.assign hE rfl) fun a hE => ?_
  refine C.nil (tn ?_)
  refine C.seq ?_
  refine C.region ?_
  refine hE.pur (X.move hE rfl) fun a hE => ?_
  refine hE.call (X.callF hE ent40 rfl rfl) H fun e w H => ?_
  obtain ⟨r, rfl, H⟩ := H
  refine ⟨_, rfl, fun a hE => ?_⟩
  refine hE.pur (X.assign hE rfl) fun a hE => ?_
  refine C.nil (tn ?_)
  refine C.seq ?_
  refine C.region ?_
  refine hE.pur (X.move hE rfl) fun a hE => ?_
  refine hE.call (X.callF hE ent41 rfl rfl) H fun e w H => ?_
  obtain ⟨rfl, H⟩ := H
  refine ⟨_, rfl, fun a hE => ?_⟩
  refine C.nil (tn ?_)
  refine C.seq ?_
  refine C.region ?_
  refine hE.pur (X.move hE rfl) fun a hE => ?_
  refine hE.pur (X.assign hE rfl) fun a hE => ?_
  refine C.nil (tn ?_)
  exact C.ret (C.ret1 hE rfl rfl ⟨_, rfl, H⟩)
/-! ### maps.Keys[map[string]struct{},string,struct{}]: function 35 -/
def V_maps_Keys_map_string_struct_string_struct (x0 : Option Nat) (w : World) (Ret : Value → World → Prop) : Prop :=
  opE Try.prog Value.pointer (Instr.box 60 (.map x0)) w (fun x1 w => Ret (.func (.func 42) [].toArray [(.pointer x1)].toArray) w)
set_option maxRecDepth 100000 in
theorem L1_maps_Keys_map_string_struct_string_struct (x0 : Option Nat) (w : World) (Ret : Value → World → Prop) (H : V_maps_Keys_map_string_struct_string_struct x0 w Ret) : Cl Try.prog 35 [(.map x0)].toArray w (fun e w' => ∃ (r0 : Value), e = .returned r0 ∧ Ret r0 w') := by
  unfold V_maps_Keys_map_string_struct_string_struct at H
  refine C.enter 4 (zipE 0 [(.map x0)]) Try.func35 rfl rfl (by rfl) rfl ?_
  intro a hE
  replace hE : Sat [] 4 [(0, (.map x0))] a := hE
  refine C.seq ?_
  refine C.region ?_
  refine hE.op (X.box hE rfl) H fun x1 w a H hE => ?_
  refine hE.pur (X.assign hE rfl) fun a hE => ?_
  refine C.nil (tn ?_)
  refine C.seq ?_
  refine C.region ?_
  refine hE.pur (X.makeFunc hE rfl rfl) fun a hE => ?_
  refine hE.pur (X.assign hE rfl) fun a hE => ?_
  refine C.nil (tn ?_)
  exact C.ret (C.ret1 hE rfl rfl ⟨_, rfl, H⟩)
/-! ### slices.AppendSeq[[]lading api.Event,lading api.Event]: function 37 -/
def V_slices_AppendSeq_api_Event_api_Event_f1b (x2 : Option Addr) (x7 : T_api_Event) (x5 : Option Addr) (w : World) (Gf1 : World → Prop) (Lf1 : World → Prop) : Prop :=
  opE Try.prog Sl.v (Instr.loadAt 22 (.pointer x2)) w (fun x8 w => opE Try.prog T_api_Event.v (Instr.loadAt 32 (.pointer x5)) w (fun x9 w => opE Try.prog Sl.v (Instr.buildSlice 22 1 [(0, (T_api_Event.v x9))].toArray) w (fun x10 w => opE Try.prog Sl.v (Builtin.append_ #[22, 22] 22 [(Sl.v x8), (Sl.v x10)].toArray) w (fun x11 w => opU Try.prog (Instr.storeAt 22 (.pointer x2) (Sl.v x11)) w (fun w => Gf1 w)))))
def V_slices_AppendSeq_api_Event_api_Event (x0 : Sl) (x1 : Value) (w : World) (Ret : Sl → World → Prop) : Prop :=
  opE Try.prog Value.pointer (Instr.box 22 (Sl.v x0)) w (fun x2 w => RangeV Try.prog x1 T_api_Event.v 32 w (V_slices_AppendSeq_api_Event_api_Event_f1b x2) (fun D w => opE Try.prog Sl.v (Instr.loadAt 22 (.pointer x2)) w (fun x12 w => afterM D w (fun w => Ret x12 w))) (fun D w => True))
set_option maxRecDepth 100000 in
theorem L1_slices_AppendSeq_api_Event_api_Event (x0 : Sl) (x1 : Value) (w : World) (Ret : Sl → World → Prop) (H : V_slices_AppendSeq_api_Event_api_Event x0 x1 w Ret) : Cl Try.prog 37 [(Sl.v x0), x1].toArray w (fun e w' => ∃ (r0 : Sl), e = .returned (Sl.v r0) ∧ Ret r0 w') := by
  unfold V_slices_AppendSeq_api_Event_api_Event at H
  refine C.enterM 13 (zipE 0 [(Sl.v x0), x1]) Try.func37 rfl rfl (by rfl) rfl ?_
  intro a hE
  replace hE : Sat [] 13 [(0, (Sl.v x0)), (1, x1)] a := hE
  refine C.seq ?_
  refine C.region ?_
  refine hE.op (X.box hE rfl) H fun x2 w a H hE => ?_
  refine hE.pur (X.assign hE rfl) fun a hE => ?_
  refine C.nil (tn ?_)
  refine C.seq ?_
  refine C.seq ?_
  refine C.region ?_
  refine hE.pur (X.move hE rfl) fun a hE => ?_
  refine C.nil (tn ?_)
  refine C.block ?_
  obtain ⟨cells, Kp, S, Sp, Num, I, Ir, hR, hnew, hbd, hdn, hst⟩ := H
  refine C.range1 T_api_Event.v cells none hE rfl hR hnew (by rfl) (by rfl) (by rfl) ?_ ?_ ?_
  · intro l pre x7 Bx w a h1 h2 h3 h4 hE
    have H := hbd pre x7 Bx w h1 h2 h3 h4
    generalize (some (⟨Bx, 0, none⟩ : Addr)) = x5 at H hE
    generalize (fun (W' : World) => KeepsFrom _ w W' ∧ Kp w W' ∧ I (pre ++ [x7]) W') = Gf1 at H ⊢
    generalize (fun (W' : World) => KeepsFrom _ w W' ∧ Ir (pre ++ [x7]) W') = Lf1 at H ⊢
    unfold V_slices_AppendSeq_api_Event_api_Event_f1b at H
    refine C.block ?_
    refine C.region ?_
    refine hE.op (X.load hE rfl) H fun x8 w a H hE => ?_
    refine hE.op (X.load hE rfl) H fun x9 w a H hE => ?_
    refine hE.op (X.buildSlice hE rfl) H fun x10 w a H hE => ?_
    refine hE.op (X.append hE rfl) H fun x11 w a H hE => ?_
    refine hE.opu (X.store hE rfl rfl) H fun w a H hE => ?_
    exact C.nil (bn H)
  · intro D xs w a h1 h2 h3 hD hE
    have H := hdn D xs w h1 h2 h3 hD
    clear hbd hdn hst hnew
    try dsimp only at H
    refine (bn (tn ?_))
    refine C.seq ?_
    refine C.region ?_
    refine hE.op (X.load hE rfl) H fun x12 w a H hE => ?_
    refine hE.pur (X.assign hE rfl) fun a hE => ?_
    refine C.nil (tn ?_)
    obtain ⟨hD0, H⟩ := H
    try dsimp only at H
    exact C.ret (C.retM1 hE (rs := [.tmp 4]) (vs := [(Sl.v x12)]) rfl hD0 ⟨rfl, trivial⟩ ⟨_, rfl, H⟩)
  · intro D c pre w a hj h1 h2 h3 hD hE
    cases hj
/-! ### lading events.of$1: function 38 -/
def V_events_of_1_r2 (Ret : World → Prop) (x8 : Int) (Kl1 : Int → World → Prop) (x21 : Bool) (w : World) : Prop :=
  (x21 = true → (Ret  w)) ∧ (x21 = false → (Kl1 (IntKind.wrap .i64 (x8 + 1)) w))
def V_events_of_1_l1b (x0 : Value) (x2 : Option Addr) (Ret : World → Prop) (x6 : Sl) (x8 : Int) (w : World) (Kl1 : Int → World → Prop) : Prop :=
  ((x8 < (x6.len : Int)) → (opE Try.prog Value.pointer (Instr.indexAt 22 (Sl.v x6) (.int .i64 x8)) w (fun x10 w => opE Try.prog T_api_Event.v (Instr.loadAt 32 (.pointer x10)) w (fun x11 w => opE Try.prog Value.pointer (Instr.alloc 32 true (.tuple #[])) w (fun x5 w => opU Try.prog (Instr.storeAt 32 (.pointer x5) (T_api_Event.v x11)) w (fun w => opE Try.prog Value.pointer (Instr.fieldAt 32 (.pointer x5) 0) w (fun x12 w => opE Try.prog Value.string (Instr.loadAt 9 (.pointer x12)) w (fun x13 w => opE Try.prog Value.string (Instr.loadAt 9 (.pointer x2)) w (fun x14 w => ((x13 = x14) → (opE Try.prog T_api_Event.v (Instr.loadAt 32 (.pointer x5)) w (fun x18 w => CallV Try.prog x0 [(T_api_Event.v x18)] w (fun e w => ∃ (r : Bool), e = .returned (.bool r) ∧ (V_events_of_1_r2 Ret x8 Kl1 (!r) w))))) ∧ (¬ (x13 = x14) → (V_events_of_1_r2 Ret x8 Kl1 false w))))))))))) ∧ (¬ (x8 < (x6.len : Int)) → (Ret  w))
def V_events_of_1 (x0 : Value) (x1 : Option Addr) (x2 : Option Addr) (w : World) (Ret : World → Prop) : Prop :=
  opE Try.prog Sl.v (Instr.loadAt 22 (.pointer x1)) w (fun x6 w => ∃ (I : Int → World → Prop) (μ : Int → World → Nat), I 0 w ∧ ∀ (x8 : Int) w, I x8 w → V_events_of_1_l1b x0 x2 Ret x6 x8 w (fun x8' w' => I x8' w' ∧ μ x8' w' < μ x8 w))
set_option maxRecDepth 100000 in
theorem L1_events_of_1 (x0 : Value) (x1 : Option Addr) (x2 : Option Addr) (w : World) (Ret : World → Prop) (H : V_events_of_1 x0 x1 x2 w Ret) : Cl Try.prog 38 [x0, (.pointer x1), (.pointer x2)].toArray w (fun e w' => e = .returned (.tuple [].toArray) ∧ Ret  w') := by
  unfold V_events_of_1 at H
  refine C.enter 23 (zipE 0 [x0, (.pointer x1), (.pointer x2)]) Try.func38 rfl rfl (by rfl) rfl ?_
  intro a hE
  replace hE : Sat [] 23 [(0, x0), (1, (.pointer x1)), (2, (.pointer x2))] a := hE
  refine C.seq ?_
  refine C.region ?_
  refine hE.op (X.load hE rfl) H fun x6 w a H hE => ?_
  refine hE.purR (fun w => X.lenL hE Try.underlying22 rfl) fun a hE => ?_
  refine hE.pur (X.move hE rfl) fun a hE => ?_
  refine C.nil (tn ?_)
  refine C.block ?_
  obtain ⟨I_l1, μ_l1, h0, hb⟩ := H
  refine C.loop (ds := []) (N := 23) (σ := Int) (fun s => [(8, (.int .i64 s)), (0, x0), (2, (.pointer x2)), (6, (Sl.v x6)), (7, (.int .i64 (x6.len : Int)))]) (fun s w => I_l1 s w) (fun s w => μ_l1 s w) 0 h0 (hE.weak ⟨rfl, rfl, rfl, rfl, rfl, trivial⟩) ?_
  intro x8 w a hI hE
  try dsimp only at hI hE
  obtain ⟨Kl1, hK_l1⟩ : ∃ K : Int → World → Prop, K = (fun x8' w' => I_l1 x8' w' ∧ μ_l1 x8' w' < μ_l1 x8 w) := ⟨_, rfl⟩
  have H : V_events_of_1_l1b x0 x2 Ret x6 x8 w Kl1 := by rw [hK_l1]; exact hb x8 w hI
  clear hb h0 hI
  unfold V_events_of_1_l1b at H
  refine C.seq ?_
  refine C.region ?_
  refine hE.pur (X.ltI hE rfl rfl) fun a hE => ?_
  refine C.nil (tn ?_)
  refine C.seq ?_
  refine C.condP hE rfl (fun hc => ?_) (fun hc => ?_)
  · replace H := H.1 hc
    refine C.skip (tn ?_)
    refine C.seq ?_
    refine C.block ?_
    refine C.seq ?_
    refine C.region ?_
    refine hE.op (X.indexAddr hE rfl rfl) H fun x10 w a H hE => ?_
    refine hE.op (X.load hE rfl) H fun x11 w a H hE => ?_
    refine hE.op (X.alloc) H fun x5 w a H hE => ?_
    refine hE.opu (X.store hE rfl rfl) H fun w a H hE => ?_
    refine C.nil (tn ?_)
    refine C.seq ?_
    refine C.region ?_
    refine hE.op (X.fieldAddr hE rfl) H fun x12 w a H hE => ?_
    refine hE.op (X.load hE rfl) H fun x13 w a H hE => ?_
    refine hE.op (X.load hE rfl) H fun x14 w a H hE => ?_
    refine hE.pur (X.eqS hE rfl rfl) fun a hE => ?_
    refine hE.pur (X.move hE rfl) fun a hE => ?_
    refine WL.join (ds := []) (N := 23) (σ := Bool) (fun s => [(21, (.bool s)), (0, x0), (2, (.pointer x2)), (6, (Sl.v x6)), (7, (.int .i64 (x6.len : Int))), (8, (.int .i64 x8))]) (fun s w => V_events_of_1_r2 Ret x8 Kl1 s w) 5 ?_ (fun hr2 => ?_)
    · intro x21 w a H hE
      try dsimp only at H hE
      unfold V_events_of_1_r2 at H
      refine C.nil (tn ?_)
      refine C.condB hE rfl (fun hc => ?_) (fun hc => ?_)
      · replace H := H.1 hc
        exact C.ret (br (tr (tr (br (C.ret0 hE rfl ⟨rfl, H⟩)))))
      · replace H := H.2 hc
        refine C.skip (bn (tn ?_))
        refine C.region ?_
        refine hE.pur (X.add hE rfl rfl) fun a hE => ?_
        refine hE.pur (X.move hE rfl) fun a hE => ?_
        rw [hK_l1] at H
        exact C.nil (tn ⟨(IntKind.wrap .i64 (x8 + 1)), hE.weak ⟨rfl, rfl, rfl, rfl, rfl, trivial⟩, H⟩)
    · rcases Classical.em ((x13 = x14)) with hbr2 | hbr2
      · replace H := H.1 hbr2
        replace hE := hE.bool (b := true) (t := 16) rfl (decide_eq_true hbr2)
        refine hE.on (by rfl) (by rfl) ?_
        refine hE.pur (X.move hE rfl) fun a hE => ?_
        refine hE.on (by rfl) (by rfl) ?_
        refine hE.op (X.load hE rfl) H fun x18 w a H hE => ?_
        refine hE.on (by rfl) (by rfl) ?_
        refine hE.callV rfl rfl H fun e w H => ?_
        obtain ⟨r, rfl, H⟩ := H
        refine ⟨_, rfl, fun a hE => ?_⟩
        refine hE.on (by rfl) (by rfl) ?_
        refine hE.pur (X.not hE rfl) fun a hE => ?_
        refine hE.pur (X.pickT hE rfl rfl) fun a hE => ?_
        exact hr2 (!r) _ _ H (hE.weak ⟨rfl, rfl, rfl, rfl, rfl, rfl, trivial⟩)
      · replace H := H.2 hbr2
        replace hE := hE.bool (b := false) (t := 16) rfl (decide_eq_false hbr2)
        refine hE.off (by rfl) (by rfl) (by decide) (fun a hE => ?_)
        refine hE.off (by rfl) (by rfl) (by decide) (fun a hE => ?_)
        refine hE.off (by rfl) (by rfl) (by decide) (fun a hE => ?_)
        refine hE.off (by rfl) (by rfl) (by decide) (fun a hE => ?_)
        refine hE.pur (X.pickF hE rfl rfl) fun a hE => ?_
        exact hr2 false _ _ H (hE.weak ⟨rfl, rfl, rfl, rfl, rfl, rfl, trivial⟩)
  · replace H := H.2 hc
    exact C.exit (te (te (be (C.end0 hE rfl ⟨rfl, H⟩))))
/-! ### slices.IndexFunc[[]string,string]: function 39 -/
def V_slices_IndexFunc_string_string_l1b (x0 : Sl) (x1 : Value) (Ret : Int → World → Prop) (x8 : Int) (w : World) (Kl1 : Int → World → Prop) : Prop :=
  ((x8 < (x0.len : Int)) → (opE Try.prog Value.pointer (Instr.indexAt 23 (Sl.v x0) (.int .i64 x8)) w (fun x14 w => opE Try.prog Value.string (Instr.loadAt 9 (.pointer x14)) w (fun x15 w => CallV Try.prog x1 [(.string x15)] w (fun e w => ∃ (r : Bool), e = .returned (.bool r) ∧ ((r = true → (Ret x8 w)) ∧ (r = false → (Kl1 (IntKind.wrap .i64 (x8 + 1)) w)))))))) ∧ (¬ (x8 < (x0.len : Int)) → (Ret (-1) w))
def V_slices_IndexFunc_string_string (x0 : Sl) (x1 : Value) (w : World) (Ret : Int → World → Prop) : Prop :=
  ∃ (I : Int → World → Prop) (μ : Int → World → Nat), I 0 w ∧ ∀ (x8 : Int) w, I x8 w → V_slices_IndexFunc_string_string_l1b x0 x1 Ret x8 w (fun x8' w' => I x8' w' ∧ μ x8' w' < μ x8 w)
set_option maxRecDepth 100000 in
theorem L1_slices_IndexFunc_string_string (x0 : Sl) (x1 : Value) (w : World) (Ret : Int → World → Prop) (H : V_slices_IndexFunc_string_string x0 x1 w Ret) : Cl Try.prog 39 [(Sl.v x0), x1].toArray w (fun e w' => ∃ (r0 : Int), e = .returned (.int .i64 r0) ∧ Ret r0 w') := by
  unfold V_slices_IndexFunc_string_string at H
  refine C.enter 19 (zipE 0 [(Sl.v x0), x1]) Try.func39 rfl rfl (by rfl) rfl ?_
  intro a hE
  replace hE : Sat [] 19 [(0, (Sl.v x0)), (1, x1)] a := hE
  refine C.seq ?_
  refine C.region ?_
  refine hE.pur (X.assign hE rfl) fun a hE => ?_
  refine C.nil (tn ?_)
  refine C.seq ?_
  refine C.seq ?_
  refine C.region ?_
  refine hE.pur (X.move hE rfl) fun a hE => ?_
  refine hE.purR (fun w => X.lenL hE Try.underlying23 rfl) fun a hE => ?_
  refine hE.pur (X.move hE rfl) fun a hE => ?_
  refine C.nil (tn ?_)
  refine C.block ?_
  obtain ⟨I_l1, μ_l1, h0, hb⟩ := H
  refine C.loop (ds := []) (N := 19) (σ := Int) (fun s => [(8, (.int .i64 s)), (0, (Sl.v x0)), (1, x1), (7, (.int .i64 (x0.len : Int)))]) (fun s w => I_l1 s w) (fun s w => μ_l1 s w) 0 h0 (hE.weak ⟨rfl, rfl, rfl, rfl, trivial⟩) ?_
  intro x8 w a hI hE
  try dsimp only at hI hE
  obtain ⟨Kl1, hK_l1⟩ : ∃ K : Int → World → Prop, K = (fun x8' w' => I_l1 x8' w' ∧ μ_l1 x8' w' < μ_l1 x8 w) := ⟨_, rfl⟩
  have H : V_slices_IndexFunc_string_string_l1b x0 x1 Ret x8 w Kl1 := by rw [hK_l1]; exact hb x8 w hI
  clear hb h0 hI
  unfold V_slices_IndexFunc_string_string_l1b at H
  refine C.seq ?_
  refine C.region ?_
  refine hE.pur (X.ltI hE rfl rfl) fun a hE => ?_
  refine C.nil (tn ?_)
  refine C.seq ?_
  refine C.condP hE rfl (fun hc => ?_) (fun hc => ?_)
  · replace H := H.1 hc
    refine C.skip (tn ?_)
    refine C.seq ?_
    refine C.block ?_
    refine C.seq ?_
    refine C.region ?_
    refine hE.pur (X.move hE rfl) fun a hE => ?_
    refine hE.pur (X.assign hE rfl) fun a hE => ?_
    refine C.nil (tn ?_)
    refine C.seq ?_
    refine C.region ?_
    refine hE.pur (X.move hE rfl) fun a hE => ?_
    refine hE.pur (X.move hE rfl) fun a hE => ?_
    refine hE.pur (X.move hE rfl) fun a hE => ?_
    refine hE.op (X.indexAddr hE rfl rfl) H fun x14 w a H hE => ?_
    refine hE.op (X.load hE rfl) H fun x15 w a H hE => ?_
    refine hE.callV rfl rfl H fun e w H => ?_
    obtain ⟨r, rfl, H⟩ := H
    refine ⟨_, rfl, fun a hE => ?_⟩
    refine C.nil (tn ?_)
    refine C.condB hE rfl (fun hc => ?_) (fun hc => ?_)
    · replace H := H.1 hc
      refine C.seq ?_
      refine C.region ?_
      refine hE.pur (X.move hE rfl) fun a hE => ?_
      refine hE.pur (X.assign hE rfl) fun a hE => ?_
      refine C.nil (tn ?_)
      exact C.ret (br (tr (tr (br (tr (C.ret1 hE rfl rfl ⟨_, rfl, H⟩))))))
    · replace H := H.2 hc
      refine C.skip (bn (tn ?_))
      refine C.region ?_
      refine hE.pur (X.add hE rfl rfl) fun a hE => ?_
      refine hE.pur (X.move hE rfl) fun a hE => ?_
      rw [hK_l1] at H
      exact C.nil (tn ⟨(IntKind.wrap .i64 (x8 + 1)), hE.weak ⟨rfl, rfl, rfl, rfl, trivial⟩, H⟩)
  · replace H := H.2 hc
    refine C.exit (te (te (be (tn ?_))))
    refine C.seq ?_
    refine C.region ?_
    refine hE.pur (X.assign hE rfl) fun a hE => ?_
    refine C.nil (tn ?_)
    exact C.ret (C.ret1 hE rfl rfl ⟨_, rfl, H⟩)
/-! ### slices.Collect[string]: function 40 -/
def V_slices_Collect_string (x0 : Value) (w : World) (Ret : Sl → World → Prop) : Prop :=
  Cl Try.prog 43 [(Sl.v Sl.none), x0].toArray w (fun e w => ∃ (r : Sl), e = .returned (Sl.v r) ∧ (Ret r w))
set_option maxRecDepth 100000 in
theorem L1_slices_Collect_string (x0 : Value) (w : World) (Ret : Sl → World → Prop) (H : V_slices_Collect_string x0 w Ret) : Cl Try.prog 40 [x0].toArray w (fun e w' => ∃ (r0 : Sl), e = .returned (Sl.v r0) ∧ Ret r0 w') := by
  unfold V_slices_Collect_string at H
  refine C.enter 5 (zipE 0 [x0]) Try.func40 rfl rfl (by rfl) rfl ?_
  intro a hE
  replace hE : Sat [] 5 [(0, x0)] a := hE
  refine C.seq ?_
  refine C.region ?_
  refine hE.pur (X.assign hE rfl) fun a hE => ?_
  refine C.nil (tn ?_)
  refine C.seq ?_
  refine C.region ?_
  refine hE.pur (X.move hE rfl) fun a hE => ?_
  refine hE.call (X.callF hE ent43 rfl rfl) H fun e w H => ?_
  obtain ⟨r, rfl, H⟩ := H
  refine ⟨_, rfl, fun a hE => ?_⟩
  refine hE.pur (X.assign hE rfl) fun a hE => ?_
  refine C.nil (tn ?_)
  exact C.ret (C.ret1 hE rfl rfl ⟨_, rfl, H⟩)
/-! ### maps.Keys[map[string]struct{},string,struct{}]$1: function 42 -/
def V_maps_Keys_map_string_struct_string_struct_1_l1b (x0 : Value) (Ret : World → Prop) (x5 : Option Addr) (w : World) (Kl1 : World → Prop) : Prop :=
  opE Try.prog (encNext id id) (Instr.next (.pointer x5) false 0) w (fun r w => (r = none → (Ret  w)) ∧ (∀ k v, r = some (k, v) → (opE Try.prog (fun p : Value × Value => .tuple [p.1, p.2].toArray) (Instr.entry (.pointer x5)) w (fun x8 w => CallV Try.prog x0 [x8.1] w (fun e w => ∃ (r_1 : Bool), e = .returned (.bool r_1) ∧ (((!r_1) = true → (Ret  w)) ∧ ((!r_1) = false → (Kl1  w))))))))
def V_maps_Keys_map_string_struct_string_struct_1 (x0 : Value) (x1 : Option Addr) (w : World) (Ret : World → Prop) : Prop :=
  opE Try.prog Value.map (Instr.loadAt 60 (.pointer x1)) w (fun x4 w => opE Try.prog Value.pointer (Instr.range 60 (.map x4)) w (fun x5 w => ∃ (I : World → Prop) (μ : World → Nat), I  w ∧ ∀  w, I  w → V_maps_Keys_map_string_struct_string_struct_1_l1b x0 Ret x5  w (fun  w' => I  w' ∧ μ  w' < μ  w)))
set_option maxRecDepth 100000 in
theorem L1_maps_Keys_map_string_struct_string_struct_1 (x0 : Value) (x1 : Option Addr) (w : World) (Ret : World → Prop) (H : V_maps_Keys_map_string_struct_string_struct_1 x0 x1 w Ret) : Cl Try.prog 42 [x0, (.pointer x1)].toArray w (fun e w' => e = .returned (.tuple [].toArray) ∧ Ret  w') := by
  unfold V_maps_Keys_map_string_struct_string_struct_1 at H
  refine C.enter 14 (zipE 0 [x0, (.pointer x1)]) Try.func42 rfl rfl (by rfl) rfl ?_
  intro a hE
  replace hE : Sat [] 14 [(0, x0), (1, (.pointer x1))] a := hE
  refine C.seq ?_
  refine C.region ?_
  refine hE.op (X.load hE rfl) H fun x4 w a H hE => ?_
  refine hE.op (X.range hE rfl) H fun x5 w a H hE => ?_
  refine C.nil (tn ?_)
  refine C.block ?_
  obtain ⟨I_l1, μ_l1, h0, hb⟩ := H
  refine C.loop (ds := []) (N := 14) (σ := Unit) (fun s => [(0, x0), (5, (.pointer x5))]) (fun s w => I_l1  w) (fun s w => μ_l1  w) () h0 (hE.weak ⟨rfl, rfl, trivial⟩) ?_
  rintro ⟨⟩ w a hI hE
  try dsimp only at hI hE
  obtain ⟨Kl1, hK_l1⟩ : ∃ K : World → Prop, K = (fun  w' => I_l1  w' ∧ μ_l1  w' < μ_l1  w) := ⟨_, rfl⟩
  have H : V_maps_Keys_map_string_struct_string_struct_1_l1b x0 Ret x5  w Kl1 := by rw [hK_l1]; exact hb  w hI
  clear hb h0 hI
  unfold V_maps_Keys_map_string_struct_string_struct_1_l1b at H
  refine C.seq ?_
  refine C.region ?_
  refine hE.op (X.next hE rfl) H fun r w a H hE => ?_
  rcases r with _ | ⟨k, v⟩
  · replace H := H.1 rfl
    refine hE.pur (X.extract hE rfl rfl) fun a hE => ?_
    refine C.nil (tn ?_)
    refine C.seq ?_
    refine C.condB hE rfl (fun h => nomatch h) (fun _ => ?_)
    exact C.exit (te (te (be (C.end0 hE rfl ⟨rfl, H⟩))))
  · replace H := H.2 _ _ rfl
    refine hE.pur (X.extract hE rfl rfl) fun a hE => ?_
    refine C.nil (tn ?_)
    refine C.seq ?_
    refine C.condB hE rfl (fun _ => ?_) (fun h => nomatch h)
    refine C.skip (tn ?_)
    refine C.block ?_
    refine C.seq ?_
    refine C.region ?_
    refine hE.op (X.entry hE rfl) H fun x8 w a H hE => ?_
    refine hE.pur (X.extract hE rfl rfl) fun a hE => ?_
    refine hE.pur (X.assign hE rfl) fun a hE => ?_
    refine C.nil (tn ?_)
    refine C.seq ?_
    refine C.region ?_
    refine hE.pur (X.move hE rfl) fun a hE => ?_
    refine hE.pur (X.move hE rfl) fun a hE => ?_
    refine hE.callV rfl rfl H fun e w H => ?_
    obtain ⟨r_1, rfl, H⟩ := H
    refine ⟨_, rfl, fun a hE => ?_⟩
    refine hE.pur (X.not hE rfl) fun a hE => ?_
    refine C.nil (tn ?_)
    refine C.condB hE rfl (fun hc => ?_) (fun hc => ?_)
    · replace H := H.1 hc
      exact C.ret (br (tr (br (C.ret0 hE rfl ⟨rfl, H⟩))))
    · replace H := H.2 hc
      rw [hK_l1] at H
      exact C.skip (bn (tn ⟨(), hE.weak ⟨rfl, rfl, trivial⟩, H⟩))
/-! ### slices.AppendSeq[[]string,string]: function 43 -/
def V_slices_AppendSeq_string_string_f1b (x2 : Option Addr) (x7 : ByteArray) (w : World) (Gf1 : World → Prop) (Lf1 : World → Prop) : Prop :=
  opE Try.prog Sl.v (Instr.loadAt 23 (.pointer x2)) w (fun x8 w => opE Try.prog Sl.v (Instr.buildSlice 23 1 [(0, (.string x7))].toArray) w (fun x10 w => opE Try.prog Sl.v (Builtin.append_ #[23, 23] 23 [(Sl.v x8), (Sl.v x10)].toArray) w (fun x11 w => opU Try.prog (Instr.storeAt 23 (.pointer x2) (Sl.v x11)) w (fun w => Gf1 w))))
def V_slices_AppendSeq_string_string (x0 : Sl) (x1 : Value) (w : World) (Ret : Sl → World → Prop) : Prop :=
  opE Try.prog Value.pointer (Instr.box 23 (Sl.v x0)) w (fun x2 w => RangeVm Try.prog x1 Value.string w (V_slices_AppendSeq_string_string_f1b x2) (fun D w => opE Try.prog Sl.v (Instr.loadAt 23 (.pointer x2)) w (fun x12 w => afterM D w (fun w => Ret x12 w))) (fun D w => True))
set_option maxRecDepth 100000 in
theorem L1_slices_AppendSeq_string_string (x0 : Sl) (x1 : Value) (w : World) (Ret : Sl → World → Prop) (H : V_slices_AppendSeq_string_string x0 x1 w Ret) : Cl Try.prog 43 [(Sl.v x0), x1].toArray w (fun e w' => ∃ (r0 : Sl), e = .returned (Sl.v r0) ∧ Ret r0 w') := by
  unfold V_slices_AppendSeq_string_string at H
  refine C.enterM 13 (zipE 0 [(Sl.v x0), x1]) Try.func43 rfl rfl (by rfl) rfl ?_
  intro a hE
  replace hE : Sat [] 13 [(0, (Sl.v x0)), (1, x1)] a := hE
  refine C.seq ?_
  refine C.region ?_
  refine hE.op (X.box hE rfl) H fun x2 w a H hE => ?_
  refine hE.pur (X.assign hE rfl) fun a hE => ?_
  refine C.nil (tn ?_)
  refine C.seq ?_
  refine C.seq ?_
  refine C.region ?_
  refine hE.pur (X.move hE rfl) fun a hE => ?_
  refine C.nil (tn ?_)
  refine C.block ?_
  obtain ⟨Kp, S, Sp, Num, I, Ir, hR, hnew, hbd, hdn, hst⟩ := H
  refine C.range1m Value.string none hE rfl hR hnew (by rfl) (by rfl) ?_ ?_ ?_
  · intro l pre x7 w a h3 h4 hE
    have H := hbd pre x7 w h3 h4
    generalize (fun (W' : World) => KeepsFrom _ w W' ∧ Kp w W' ∧ I (pre ++ [x7]) W') = Gf1 at H ⊢
    generalize (fun (W' : World) => KeepsFrom _ w W' ∧ Ir (pre ++ [x7]) W') = Lf1 at H ⊢
    unfold V_slices_AppendSeq_string_string_f1b at H
    refine C.block ?_
    refine C.region ?_
    refine hE.op (X.load hE rfl) H fun x8 w a H hE => ?_
    refine hE.pur (X.move hE rfl) fun a hE => ?_
    refine hE.op (X.buildSlice hE rfl) H fun x10 w a H hE => ?_
    refine hE.op (X.append hE rfl) H fun x11 w a H hE => ?_
    refine hE.opu (X.store hE rfl rfl) H fun w a H hE => ?_
    exact C.nil (bn H)
  · intro D xs w a h1 h2 h3 hD hE
    have H := hdn D xs w h1 h2 h3 hD
    clear hbd hdn hst hnew
    try dsimp only at H
    refine (bn (tn ?_))
    refine C.seq ?_
    refine C.region ?_
    refine hE.op (X.load hE rfl) H fun x12 w a H hE => ?_
    refine hE.pur (X.assign hE rfl) fun a hE => ?_
    refine C.nil (tn ?_)
    obtain ⟨hD0, H⟩ := H
    try dsimp only at H
    exact C.ret (C.retM1 hE (rs := [.tmp 4]) (vs := [(Sl.v x12)]) rfl hD0 ⟨rfl, trivial⟩ ⟨_, rfl, H⟩)
  · intro D c pre w a hj h1 h2 h3 hD hE
    cases hj
end Go.Proofs.Ytlghlmoifjcgoaa.VG
