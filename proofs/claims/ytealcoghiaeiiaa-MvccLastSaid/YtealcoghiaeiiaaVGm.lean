/- Verification conditions, by program (gen.py), of functions of the loaded program, each with the proof that it gives the call; no condition. -/
import Derived.Test.YtealcoghiaeiiaaVS
import Derived.Test.YtealcoghiaeiiaaVOrd
set_option linter.unusedVariables false
set_option linter.unusedSimpArgs false
namespace Go.Proofs.Ytealcoghiaeiiaa.VG
open Go.VB Go.Proofs

/-! ### lading mvcc.Put: function 11 -/
def V_mvcc_Put_j5 (x9 : Option Addr) (x60 : Int) (Kl4 : Int → World → Prop) (x12 : Option Addr) (w : World) : Prop :=
  opE Try.prog Value.pointer (Instr.fieldAt 25 (.pointer x9) 0) w (fun x75 w => opE Try.prog Sl.v (Instr.loadAt 22 (.pointer x75)) w (fun x76 w => opE Try.prog T_api_Version.v (Instr.loadAt 37 (.pointer x12)) w (fun x77 w => opE Try.prog Sl.v (Instr.buildSlice 22 1 [(0, (T_api_Version.v x77))].toArray) w (fun x78 w => opE Try.prog Sl.v (Builtin.append_ #[22, 22] 22 [(Sl.v x76), (Sl.v x78)].toArray) w (fun x79 w => opE Try.prog Value.pointer (Instr.fieldAt 25 (.pointer x9) 0) w (fun x80 w => opU Try.prog (Instr.storeAt 22 (.pointer x80) (Sl.v x79)) w (fun w => Kl4 (IntKind.wrap .i64 (x60 + 1)) w)))))))
def V_mvcc_Put_l4b (x1 : Sl) (Ret : T_api_Versions → Int → World → Prop) (x5 : Option Addr) (x6 : Option Addr) (x9 : Option Addr) (x60 : Int) (w : World) (Kl4 : Int → World → Prop) : Prop :=
  ((x60 < (x1.len : Int)) → (opE Try.prog Value.pointer (Instr.indexAt 26 (Sl.v x1) (.int .i64 x60)) w (fun x62 w => opE Try.prog T_api_Write.v (Instr.loadAt 52 (.pointer x62)) w (fun x63 w => opE Try.prog Value.pointer (Instr.alloc 52 true (.tuple #[])) w (fun x11 w => opU Try.prog (Instr.storeAt 52 (.pointer x11) (T_api_Write.v x63)) w (fun w => opE Try.prog Value.pointer (Instr.fieldAt 52 (.pointer x11) 0) w (fun x64 w => opE Try.prog Value.string (Instr.loadAt 9 (.pointer x64)) w (fun x65 w => opE Try.prog (Value.int .u64) (Instr.loadAt 23 (.pointer x5)) w (fun x66 w => opE Try.prog Value.pointer (Instr.fieldAt 52 (.pointer x11) 1) w (fun x67 w => opE Try.prog Value.string (Instr.loadAt 9 (.pointer x67)) w (fun x68 w => opE Try.prog Value.pointer (Instr.fieldAt 52 (.pointer x11) 2) w (fun x69 w => opE Try.prog Value.bool (Instr.loadAt 4 (.pointer x69)) w (fun x70 w => opE Try.prog T_api_Version.v (Instr.build 37 [(0, (.string x65)), (1, (.int .u64 x66)), (2, (.string x68)), (3, (.bool x70))].toArray) w (fun x71 w => opE Try.prog Value.pointer (Instr.alloc 37 true (.tuple #[])) w (fun x12 w => opU Try.prog (Instr.storeAt 37 (.pointer x12) (T_api_Version.v x71)) w (fun w => opE Try.prog Value.pointer (Instr.fieldAt 52 (.pointer x11) 2) w (fun x72 w => opE Try.prog Value.bool (Instr.loadAt 4 (.pointer x72)) w (fun x73 w => (x73 = true → (opE Try.prog Value.pointer (Instr.fieldAt 37 (.pointer x12) 2) w (fun x74 w => opU Try.prog (Instr.storeAt 9 (.pointer x74) (.string (ByteArray.mk #[]))) w (fun w => V_mvcc_Put_j5 x9 x60 Kl4 x12 w)))) ∧ (x73 = false → (V_mvcc_Put_j5 x9 x60 Kl4 x12 w)))))))))))))))))))) ∧ (¬ (x60 < (x1.len : Int)) → (opE Try.prog Value.pointer (Instr.fieldAt 25 (.pointer x9) 0) w (fun x82 w => opE Try.prog Sl.v (Instr.loadAt 22 (.pointer x82)) w (fun x83 w => Cl Try.prog 31 [(Sl.v x83), (.func (.func 32) #[] #[])].toArray w (fun e w => e = .returned (.tuple [].toArray) ∧ (opE Try.prog T_api_Versions.v (Instr.loadAt 25 (.pointer x9)) w (fun x85 w => opU Try.prog (Instr.storeAt 25 (.pointer x6) (T_api_Versions.v x85)) w (fun w => opR Try.prog T_api_Versions.v 25 x6 w (fun q_1 => Ret q_1 0 w)))))))))
def V_mvcc_Put_j3 (x1 : Sl) (Ret : T_api_Versions → Int → World → Prop) (x5 : Option Addr) (x6 : Option Addr) (x9 : Option Addr) (w : World) : Prop :=
  ∃ (I : Int → World → Prop) (μ : Int → World → Nat), I 0 w ∧ ∀ (x60 : Int) w, I x60 w → V_mvcc_Put_l4b x1 Ret x5 x6 x9 x60 w (fun x60' w' => I x60' w' ∧ μ x60' w' < μ x60 w)
def V_mvcc_Put_j2 (x1 : Sl) (Ret : T_api_Versions → Int → World → Prop) (x3 : Option Addr) (x5 : Option Addr) (x6 : Option Addr) (x8_1 : Int) (w : World) : Prop :=
  ((x8_1 ≠ 0) → (opE Try.prog T_api_Versions.v (Instr.build 25 [].toArray) w (fun x50 w => opU Try.prog (Instr.storeAt 25 (.pointer x6) (T_api_Versions.v x50)) w (fun w => opR Try.prog T_api_Versions.v 25 x6 w (fun q => Ret q x8_1 w))))) ∧ (¬ (x8_1 ≠ 0) → (regC w (fun C6 w => opC C6 Try.prog Value.pointer (Instr.fieldAt 25 (.pointer x3) 0) (fun x52 => opC C6 Try.prog Value.pointer (Instr.fieldAt 25 (.pointer x3) 1) (fun x55 => opC C6 Try.prog Sl.v (Instr.loadAt 22 (.pointer x52)) (fun x53 => opC C6 Try.prog (Value.int .u64) (Instr.loadAt 23 (.pointer x55)) (fun x56 => (Cl Try.prog 30 [(Sl.v x53)].toArray w (fun e w => ∃ (r_1 : Sl), e = .returned (Sl.v r_1) ∧ (C6 w ∧ (opC C6 Try.prog T_api_Versions.v (Instr.build 25 [(0, (Sl.v r_1)), (1, (.int .u64 x56))].toArray) (fun x57 => opE Try.prog Value.pointer (Instr.alloc 25 true (.tuple #[])) w (fun x9_1 w => C6 w ∧ (opU Try.prog (Instr.storeAt 25 (.pointer x9_1) (T_api_Versions.v x57)) w (fun w => C6 w ∧ (V_mvcc_Put_j3 x1 Ret x5 x6 x9_1 w))))))))) ∧ (opE Try.prog Value.pointer (Instr.alloc 25 true (.tuple #[])) w (fun x9_2 w => C6 w ∧ (Cl Try.prog 30 [(Sl.v x53)].toArray w (fun e w => ∃ (r_2 : Sl), e = .returned (Sl.v r_2) ∧ (C6 w ∧ (opC C6 Try.prog T_api_Versions.v (Instr.build 25 [(0, (Sl.v r_2)), (1, (.int .u64 x56))].toArray) (fun x57_1 => opU Try.prog (Instr.storeAt 25 (.pointer x9_2) (T_api_Versions.v x57_1)) w (fun w => C6 w ∧ (V_mvcc_Put_j3 x1 Ret x5 x6 x9_2 w))))))))))))))))
def V_mvcc_Put_r8 (x1 : Sl) (Ret : T_api_Versions → Int → World → Prop) (x3 : Option Addr) (x5 : Option Addr) (x6 : Option Addr) (x8 : Int) (x39 : Bool) (w : World) : Prop :=
  (x39 = true → (V_mvcc_Put_j2 x1 Ret x3 x5 x6 9 w)) ∧ (x39 = false → (opE Try.prog Value.pointer (Instr.fieldAt 25 (.pointer x3) 0) w (fun x41 w => opE Try.prog Sl.v (Instr.loadAt 22 (.pointer x41)) w (fun x42 w => ((4096 < (IntKind.wrap .i64 ((x42.len : Int) + (x1.len : Int)))) → (V_mvcc_Put_j2 x1 Ret x3 x5 x6 3 w)) ∧ (¬ (4096 < (IntKind.wrap .i64 ((x42.len : Int) + (x1.len : Int)))) → (V_mvcc_Put_j2 x1 Ret x3 x5 x6 x8 w))))))
def V_mvcc_Put_r7 (x1 : Sl) (Ret : T_api_Versions → Int → World → Prop) (x3 : Option Addr) (x5 : Option Addr) (x6 : Option Addr) (x8 : Int) (x28 : Bool) (w : World) : Prop :=
  (x28 = true → (V_mvcc_Put_j2 x1 Ret x3 x5 x6 2 w)) ∧ (x28 = false → (opE Try.prog (Value.int .u64) (Instr.loadAt 23 (.pointer x5)) w (fun x30 w => opE Try.prog Value.pointer (Instr.fieldAt 25 (.pointer x3) 1) w (fun x31 w => opE Try.prog (Value.int .u64) (Instr.loadAt 23 (.pointer x31)) w (fun x32 w => ((x30 < x32) → (V_mvcc_Put_r8 x1 Ret x3 x5 x6 x8 true w)) ∧ (¬ (x30 < x32) → (opE Try.prog Value.pointer (Instr.fieldAt 25 (.pointer x3) 0) w (fun x35 w => opE Try.prog Sl.v (Instr.loadAt 22 (.pointer x35)) w (fun x36 w => Cl Try.prog 28 [(Sl.v x36), (.func (.func 29) [].toArray [(.pointer x5)].toArray)].toArray w (fun e w => ∃ (r_3 : Bool), e = .returned (.bool r_3) ∧ (V_mvcc_Put_r8 x1 Ret x3 x5 x6 x8 r_3 w)))))))))))
def V_mvcc_Put_j1 (x1 : Sl) (Ret : T_api_Versions → Int → World → Prop) (x3 : Option Addr) (x5 : Option Addr) (x6 : Option Addr) (x8 : Int) (w : World) : Prop :=
  ((x8 ≠ 0) → (V_mvcc_Put_j2 x1 Ret x3 x5 x6 x8 w)) ∧ (¬ (x8 ≠ 0) → (opE Try.prog (Value.int .u64) (Instr.loadAt 23 (.pointer x5)) w (fun x23 w => ((x23 < 1) → (V_mvcc_Put_r7 x1 Ret x3 x5 x6 x8 true w)) ∧ (¬ (x23 < 1) → (opE Try.prog (Value.int .u64) (Instr.loadAt 23 (.pointer x5)) w (fun x26 w => V_mvcc_Put_r7 x1 Ret x3 x5 x6 x8 (decide (2305843009213693952 < x26)) w))))))
def V_mvcc_Put (x0 : T_api_Versions) (x1 : Sl) (x2 : Int) (w : World) (Ret : T_api_Versions → Int → World → Prop) : Prop :=
  opE Try.prog Value.pointer (Instr.box 25 (T_api_Versions.v x0)) w (fun x3 w => opE Try.prog Value.pointer (Instr.box 23 (.int .u64 x2)) w (fun x5 w => opE Try.prog Value.pointer (Instr.alloc 25 true (.tuple #[])) w (fun x6 w => opE Try.prog T_api_Versions.v (Instr.loadAt 25 (.pointer x3)) w (fun x13 w => Cl Try.prog 17 [(T_api_Versions.v x13)].toArray w (fun e w => ∃ (r : Int), e = .returned (.int .i64 r) ∧ (((r = 0) → (Cl Try.prog 27 [(Sl.v x1)].toArray w (fun e w => ∃ (r_4 : Int), e = .returned (.int .i64 r_4) ∧ (V_mvcc_Put_j1 x1 Ret x3 x5 x6 r_4 w)))) ∧ (¬ (r = 0) → (V_mvcc_Put_j1 x1 Ret x3 x5 x6 r w))))))))
set_option maxRecDepth 100000 in
theorem L1_mvcc_Put (x0 : T_api_Versions) (x1 : Sl) (x2 : Int) (w : World) (Ret : T_api_Versions → Int → World → Prop) (H : V_mvcc_Put x0 x1 x2 w Ret) : Cl Try.prog 11 [(T_api_Versions.v x0), (Sl.v x1), (.int .u64 x2)].toArray w (fun e w' => ∃ (r0 : T_api_Versions) (r1 : Int), e = .returned (.tuple [(T_api_Versions.v r0), (.int .i64 r1)].toArray) ∧ Ret r0 r1 w') := by
  unfold V_mvcc_Put at H
  refine C.enter 86 (zipE 0 [(T_api_Versions.v x0), (Sl.v x1), (.int .u64 x2)]) Try.func11 rfl rfl (by rfl) rfl ?_
  intro a hE
  replace hE : Sat [] 86 [(0, (T_api_Versions.v x0)), (1, (Sl.v x1)), (2, (.int .u64 x2))] a := hE
  refine C.seq ?_
  refine C.region ?_
  refine hE.op (X.box hE rfl) H fun x3 w a H hE => ?_
  refine hE.op (X.box hE rfl) H fun x5 w a H hE => ?_
  refine hE.op (X.alloc) H fun x6 w a H hE => ?_
  refine hE.pur (X.assign hE rfl) fun a hE => ?_
  refine C.nil (tn ?_)
  refine C.seq ?_
  refine C.region ?_
  refine hE.op (X.load hE rfl) H fun x13 w a H hE => ?_
  refine hE.call (X.callF hE ent17 rfl rfl) H fun e w H => ?_
  obtain ⟨r, rfl, H⟩ := H
  refine ⟨_, rfl, fun a hE => ?_⟩
  refine hE.pur (X.assign hE rfl) fun a hE => ?_
  refine C.nil (tn ?_)
  refine C.join (ds := []) (N := 86) (σ := Int) (fun s => [(8, (.int .i64 s)), (1, (Sl.v x1)), (3, (.pointer x3)), (5, (.pointer x5)), (6, (.pointer x6))]) (fun s w => V_mvcc_Put_j1 x1 Ret x3 x5 x6 s w) ?_ (fun hj1 => ?_)
  · intro x8 w a H hE
    try dsimp only at H hE
    unfold V_mvcc_Put_j1 at H
    refine C.join (ds := []) (N := 86) (σ := Int) (fun s => [(8, (.int .i64 s)), (1, (Sl.v x1)), (3, (.pointer x3)), (5, (.pointer x5)), (6, (.pointer x6))]) (fun s w => V_mvcc_Put_j2 x1 Ret x3 x5 x6 s w) ?_ (fun hj2 => ?_)
    · intro x8_1 w a H hE
      try dsimp only at H hE
      unfold V_mvcc_Put_j2 at H
      refine C.seq ?_
      refine C.seq ?_
      refine C.region ?_
      refine hE.pur (X.move hE rfl) fun a hE => ?_
      refine hE.pur (X.neI hE rfl rfl) fun a hE => ?_
      refine C.nil (tn ?_)
      refine C.condP hE rfl (fun hc => ?_) (fun hc => ?_)
      · replace H := H.1 hc
        refine C.seq ?_
        refine C.region ?_
        refine hE.op (X.build hE rfl) H fun x50 w a H hE => ?_
        refine hE.pur (X.move hE rfl) fun a hE => ?_
        refine hE.opu (X.store hE rfl rfl) H fun w a H hE => ?_
        refine hE.pur (X.assign hE rfl) fun a hE => ?_
        refine C.nil (tn ?_)
        obtain ⟨q, ad, hp, hl, H⟩ := H
        exact C.ret (tr (C.retC hE (rs := [.cell 6 25, .tmp 7]) (vs := [(T_api_Versions.v q), (.int .i64 x8_1)]) rfl ⟨⟨ad, by rw [← hp]; rfl, hl⟩, rfl, trivial⟩ ⟨_, _, rfl, H⟩))
      · replace H := H.2 hc
        refine C.skip (tn ?_)
        refine C.join (ds := []) (N := 86) (σ := (Option Addr)) (fun s => [(9, (.pointer s)), (1, (Sl.v x1)), (5, (.pointer x5)), (6, (.pointer x6))]) (fun s w => V_mvcc_Put_j3 x1 Ret x5 x6 s w) ?_ (fun hj3 => ?_)
        · intro x9 w a H hE
          try dsimp only at H hE
          unfold V_mvcc_Put_j3 at H
          refine C.seq ?_
          refine C.seq ?_
          refine C.region ?_
          refine hE.pur (X.move hE rfl) fun a hE => ?_
          refine hE.purR (fun w => X.lenL hE Try.underlying26 rfl) fun a hE => ?_
          refine hE.pur (X.move hE rfl) fun a hE => ?_
          refine C.nil (tn ?_)
          refine C.block ?_
          obtain ⟨I_l4, μ_l4, h0, hb⟩ := H
          refine C.loop (ds := []) (N := 86) (σ := Int) (fun s => [(60, (.int .i64 s)), (5, (.pointer x5)), (6, (.pointer x6)), (9, (.pointer x9)), (58, (Sl.v x1)), (59, (.int .i64 (x1.len : Int)))]) (fun s w => I_l4 s w) (fun s w => μ_l4 s w) 0 h0 (hE.weak ⟨rfl, rfl, rfl, rfl, rfl, rfl, trivial⟩) ?_
          intro x60 w a hI hE
          try dsimp only at hI hE
          obtain ⟨Kl4, hK_l4⟩ : ∃ K : Int → World → Prop, K = (fun x60' w' => I_l4 x60' w' ∧ μ_l4 x60' w' < μ_l4 x60 w) := ⟨_, rfl⟩
          have H : V_mvcc_Put_l4b x1 Ret x5 x6 x9 x60 w Kl4 := by rw [hK_l4]; exact hb x60 w hI
          clear hb h0 hI
          unfold V_mvcc_Put_l4b at H
          refine C.seq ?_
          refine C.region ?_
          refine hE.pur (X.ltI hE rfl rfl) fun a hE => ?_
          refine C.nil (tn ?_)
          refine C.seq ?_
          refine C.condP hE rfl (fun hc => ?_) (fun hc => ?_)
          · replace H := H.1 hc
            refine C.skip (tn ?_)
            refine C.seq ?_
            refine C.block ?_
            refine C.seq ?_
            refine C.region ?_
            refine hE.op (X.indexAddr hE rfl rfl) H fun x62 w a H hE => ?_
            refine hE.op (X.load hE rfl) H fun x63 w a H hE => ?_
            refine hE.op (X.alloc) H fun x11 w a H hE => ?_
            refine hE.opu (X.store hE rfl rfl) H fun w a H hE => ?_
            refine C.nil (tn ?_)
            refine C.seq ?_
            refine C.region ?_
            refine hE.op (X.fieldAddr hE rfl) H fun x64 w a H hE => ?_
            refine hE.op (X.load hE rfl) H fun x65 w a H hE => ?_
            refine hE.op (X.load hE rfl) H fun x66 w a H hE => ?_
            refine hE.op (X.fieldAddr hE rfl) H fun x67 w a H hE => ?_
            refine hE.op (X.load hE rfl) H fun x68 w a H hE => ?_
            refine hE.op (X.fieldAddr hE rfl) H fun x69 w a H hE => ?_
            refine hE.op (X.load hE rfl) H fun x70 w a H hE => ?_
            refine hE.op (X.build hE rfl) H fun x71 w a H hE => ?_
            refine hE.op (X.alloc) H fun x12 w a H hE => ?_
            refine hE.opu (X.store hE rfl rfl) H fun w a H hE => ?_
            refine C.nil (tn ?_)
            refine C.join (ds := []) (N := 86) (σ := Unit) (fun s => [(5, (.pointer x5)), (6, (.pointer x6)), (9, (.pointer x9)), (12, (.pointer x12)), (58, (Sl.v x1)), (59, (.int .i64 (x1.len : Int))), (60, (.int .i64 x60))]) (fun s w => V_mvcc_Put_j5 x9 x60 Kl4 x12  w) ?_ (fun hj5 => ?_)
            · rintro ⟨⟩ w a H hE
              try dsimp only at H hE
              unfold V_mvcc_Put_j5 at H
              refine C.region ?_
              refine hE.op (X.fieldAddr hE rfl) H fun x75 w a H hE => ?_
              refine hE.op (X.load hE rfl) H fun x76 w a H hE => ?_
              refine hE.op (X.load hE rfl) H fun x77 w a H hE => ?_
              refine hE.op (X.buildSlice hE rfl) H fun x78 w a H hE => ?_
              refine hE.op (X.append hE rfl) H fun x79 w a H hE => ?_
              refine hE.op (X.fieldAddr hE rfl) H fun x80 w a H hE => ?_
              refine hE.opu (X.store hE rfl rfl) H fun w a H hE => ?_
              refine C.nil (bn (tn ?_))
              refine C.region ?_
              refine hE.pur (X.add hE rfl rfl) fun a hE => ?_
              refine hE.pur (X.move hE rfl) fun a hE => ?_
              rw [hK_l4] at H
              exact C.nil (tn ⟨(IntKind.wrap .i64 (x60 + 1)), hE.weak ⟨rfl, rfl, rfl, rfl, rfl, rfl, trivial⟩, H⟩)
            · refine C.seq ?_
              refine C.region ?_
              refine hE.op (X.fieldAddr hE rfl) H fun x72 w a H hE => ?_
              refine hE.op (X.load hE rfl) H fun x73 w a H hE => ?_
              refine C.nil (tn ?_)
              refine C.condB hE rfl (fun hc => ?_) (fun hc => ?_)
              · replace H := H.1 hc
                refine C.region ?_
                refine hE.op (X.fieldAddr hE rfl) H fun x74 w a H hE => ?_
                refine hE.opu (X.store hE rfl rfl) H fun w a H hE => ?_
                exact C.nil (tn (hj5 () _ _ H (hE.weak ⟨rfl, rfl, rfl, rfl, rfl, rfl, rfl, trivial⟩)))
              · replace H := H.2 hc
                exact C.skip (tn (hj5 () _ _ H (hE.weak ⟨rfl, rfl, rfl, rfl, rfl, rfl, rfl, trivial⟩)))
          · replace H := H.2 hc
            refine C.exit (te (te (be (tn ?_))))
            refine C.seq ?_
            refine C.region ?_
            refine hE.op (X.fieldAddr hE rfl) H fun x82 w a H hE => ?_
            refine hE.op (X.load hE rfl) H fun x83 w a H hE => ?_
            refine hE.call (X.callF hE ent31 rfl rfl) H fun e w H => ?_
            obtain ⟨rfl, H⟩ := H
            refine ⟨_, rfl, fun a hE => ?_⟩
            refine C.nil (tn ?_)
            refine C.seq ?_
            refine C.region ?_
            refine hE.op (X.load hE rfl) H fun x85 w a H hE => ?_
            refine hE.opu (X.store hE rfl rfl) H fun w a H hE => ?_
            refine hE.pur (X.assign hE rfl) fun a hE => ?_
            refine C.nil (tn ?_)
            obtain ⟨q_1, ad_1, hp_1, hl_1, H⟩ := H
            exact C.ret (C.retC hE (rs := [.cell 6 25, .tmp 7]) (vs := [(T_api_Versions.v q_1), (.int .i64 0)]) rfl ⟨⟨ad_1, by rw [← hp_1]; rfl, hl_1⟩, rfl, trivial⟩ ⟨_, _, rfl, H⟩)
        · refine C.cls H 8 #[false, false, false, false, false, false, false, false] (by kernel_rfl) (fun C6 w hC0 H => ?_)
          refine hE.kop (i := 0) (fun _ _ _ _ _ h => h) (by kernel_rfl) rfl (by kernel_rfl) (by kernel_rfl) (by rfl) (l2 := #[true, false, false, false, false, false, false, false]) hC0 (X.fieldAddr hE rfl) H fun x52 a H hE => ?_
          refine hE.kop (i := 3) (fun _ _ _ _ _ h => h) (by kernel_rfl) rfl (by kernel_rfl) (by kernel_rfl) (by rfl) (l2 := #[true, false, false, true, false, false, false, false]) hC0 (X.fieldAddr hE rfl) H fun x55 a H hE => ?_
          refine hE.kop (i := 1) (fun _ _ _ _ _ h => h) (by kernel_rfl) rfl (by kernel_rfl) (by kernel_rfl) (by rfl) (l2 := #[true, true, false, true, false, false, false, false]) hC0 (X.load hE rfl) H fun x53 a H hE => ?_
          refine hE.kop (i := 4) (fun _ _ _ _ _ h => h) (by kernel_rfl) rfl (by kernel_rfl) (by kernel_rfl) (by rfl) (l2 := #[true, true, false, true, true, false, false, false]) hC0 (X.load hE rfl) H fun x56 a H hE => ?_
          refine WK.two (i := 2) (j := 6) (l2 := #[true, true, true, true, true, false, false, false]) (l3 := #[true, true, false, true, true, false, true, false]) rfl rfl (by kernel_rfl) (by rfl) (by rfl) ?_ ?_
          · replace H := H.1
            intro K hK
            refine hE.wcall (X.callF hE ent30 rfl rfl) H fun e w H => ?_
            obtain ⟨r_1, rfl, H⟩ := H
            refine ⟨_, rfl, fun a hE => ?_⟩
            refine hK _ _ ⟨H.1, ?_⟩
            have hC1 := H.1
            replace H := H.2
            refine hE.kop (i := 5) (fun _ _ _ _ _ h => h) (by kernel_rfl) rfl (by kernel_rfl) (by kernel_rfl) (by rfl) (l2 := #[true, true, true, true, true, true, false, false]) hC1 (X.build hE rfl) H fun x57 a H hE => ?_
            refine WK.one (i := 6) (l2 := #[true, true, true, true, true, true, true, false]) rfl (by kernel_rfl) (by rfl) ?_
            intro K hK
            refine hE.wop (X.alloc) H fun x9_1 w a H hE => ?_
            refine hK _ _ ⟨H.1, ?_⟩
            have hC2 := H.1
            replace H := H.2
            refine WK.one (i := 7) (l2 := #[true, true, true, true, true, true, true, true]) rfl (by kernel_rfl) (by rfl) ?_
            intro K hK
            refine hE.wopu (X.store hE rfl rfl) H fun w a H hE => ?_
            refine hK _ _ ⟨H.1, ?_⟩
            have hC3 := H.1
            replace H := H.2
            refine WK.nil (by kernel_rfl) ?_
            exact (tn (hj3 x9_1 _ _ H (hE.weak ⟨rfl, rfl, rfl, rfl, trivial⟩)))
          · replace H := H.2
            intro K hK
            refine hE.wop (X.alloc) H fun x9_2 w a H hE => ?_
            refine hK _ _ ⟨H.1, ?_⟩
            have hC1 := H.1
            replace H := H.2
            refine WK.one (i := 2) (l2 := #[true, true, true, true, true, false, true, false]) rfl (by kernel_rfl) (by rfl) ?_
            intro K hK
            refine hE.wcall (X.callF hE ent30 rfl rfl) H fun e w H => ?_
            obtain ⟨r_2, rfl, H⟩ := H
            refine ⟨_, rfl, fun a hE => ?_⟩
            refine hK _ _ ⟨H.1, ?_⟩
            have hC2 := H.1
            replace H := H.2
            refine hE.kop (i := 5) (fun _ _ _ _ _ h => h) (by kernel_rfl) rfl (by kernel_rfl) (by kernel_rfl) (by rfl) (l2 := #[true, true, true, true, true, true, true, false]) hC2 (X.build hE rfl) H fun x57_1 a H hE => ?_
            refine WK.one (i := 7) (l2 := #[true, true, true, true, true, true, true, true]) rfl (by kernel_rfl) (by rfl) ?_
            intro K hK
            refine hE.wopu (X.store hE rfl rfl) H fun w a H hE => ?_
            refine hK _ _ ⟨H.1, ?_⟩
            have hC3 := H.1
            replace H := H.2
            refine WK.nil (by kernel_rfl) ?_
            exact (tn (hj3 x9_2 _ _ H (hE.weak ⟨rfl, rfl, rfl, rfl, trivial⟩)))
    · refine C.block ?_
      refine C.seq ?_
      refine C.region ?_
      refine hE.pur (X.move hE rfl) fun a hE => ?_
      refine hE.pur (X.neI hE rfl rfl) fun a hE => ?_
      refine hE.pur (X.assign hE rfl) fun a hE => ?_
      refine C.nil (tn ?_)
      refine C.condP hE rfl (fun hc => ?_) (fun hc => ?_)
      · replace H := H.1 hc
        exact C.skip (bn (tn (hj2 x8 _ _ H (hE.weak ⟨rfl, rfl, rfl, rfl, rfl, trivial⟩))))
      · replace H := H.2 hc
        refine C.seq ?_
        refine C.region ?_
        refine hE.op (X.load hE rfl) H fun x23 w a H hE => ?_
        refine hE.pur (X.ltI hE rfl rfl) fun a hE => ?_
        refine hE.pur (X.move hE rfl) fun a hE => ?_
        refine WL.join (ds := []) (N := 86) (σ := Bool) (fun s => [(28, (.bool s)), (1, (Sl.v x1)), (3, (.pointer x3)), (5, (.pointer x5)), (6, (.pointer x6)), (8, (.int .i64 x8))]) (fun s w => V_mvcc_Put_r7 x1 Ret x3 x5 x6 x8 s w) 3 ?_ (fun hr7 => ?_)
        · intro x28 w a H hE
          try dsimp only at H hE
          unfold V_mvcc_Put_r7 at H
          refine hE.pur (X.assign hE rfl) fun a hE => ?_
          refine C.nil (tn ?_)
          refine C.condB hE rfl (fun hc => ?_) (fun hc => ?_)
          · replace H := H.1 hc
            refine C.region ?_
            refine hE.pur (X.assign hE rfl) fun a hE => ?_
            exact C.nil (bn (tn (hj2 2 _ _ H (hE.weak ⟨rfl, rfl, rfl, rfl, rfl, trivial⟩))))
          · replace H := H.2 hc
            refine C.seq ?_
            refine C.region ?_
            refine hE.op (X.load hE rfl) H fun x30 w a H hE => ?_
            refine hE.op (X.fieldAddr hE rfl) H fun x31 w a H hE => ?_
            refine hE.op (X.load hE rfl) H fun x32 w a H hE => ?_
            refine hE.pur (X.ltI hE rfl rfl) fun a hE => ?_
            refine hE.pur (X.move hE rfl) fun a hE => ?_
            refine WL.join (ds := []) (N := 86) (σ := Bool) (fun s => [(39, (.bool s)), (1, (Sl.v x1)), (3, (.pointer x3)), (5, (.pointer x5)), (6, (.pointer x6)), (8, (.int .i64 x8))]) (fun s w => V_mvcc_Put_r8 x1 Ret x3 x5 x6 x8 s w) 5 ?_ (fun hr8 => ?_)
            · intro x39 w a H hE
              try dsimp only at H hE
              unfold V_mvcc_Put_r8 at H
              refine hE.pur (X.assign hE rfl) fun a hE => ?_
              refine C.nil (tn ?_)
              refine C.condB hE rfl (fun hc => ?_) (fun hc => ?_)
              · replace H := H.1 hc
                refine C.region ?_
                refine hE.pur (X.assign hE rfl) fun a hE => ?_
                exact C.nil (bn (tn (hj2 9 _ _ H (hE.weak ⟨rfl, rfl, rfl, rfl, rfl, trivial⟩))))
              · replace H := H.2 hc
                refine C.seq ?_
                refine C.region ?_
                refine hE.op (X.fieldAddr hE rfl) H fun x41 w a H hE => ?_
                refine hE.op (X.load hE rfl) H fun x42 w a H hE => ?_
                refine hE.purR (fun w => X.lenL hE Try.underlying22 rfl) fun a hE => ?_
                refine hE.pur (X.move hE rfl) fun a hE => ?_
                refine hE.purR (fun w => X.lenL hE Try.underlying26 rfl) fun a hE => ?_
                refine hE.pur (X.add hE rfl rfl) fun a hE => ?_
                refine hE.pur (X.gtI hE rfl rfl) fun a hE => ?_
                refine hE.pur (X.assign hE rfl) fun a hE => ?_
                refine C.nil (tn ?_)
                refine C.condP hE rfl (fun hc => ?_) (fun hc => ?_)
                · replace H := H.1 hc
                  refine C.region ?_
                  refine hE.pur (X.assign hE rfl) fun a hE => ?_
                  exact C.nil (bn (tn (hj2 3 _ _ H (hE.weak ⟨rfl, rfl, rfl, rfl, rfl, trivial⟩))))
                · replace H := H.2 hc
                  exact C.skip (bn (tn (hj2 x8 _ _ H (hE.weak ⟨rfl, rfl, rfl, rfl, rfl, trivial⟩))))
            · rcases Classical.em ((x30 < x32)) with hbr8 | hbr8
              · replace H := H.1 hbr8
                replace hE := hE.bool (b := true) (t := 34) rfl (decide_eq_true hbr8)
                refine hE.off (by rfl) (by rfl) (by decide) (fun a hE => ?_)
                refine hE.off (by rfl) (by rfl) (by decide) (fun a hE => ?_)
                refine hE.off (by rfl) (by rfl) (by decide) (fun a hE => ?_)
                refine hE.off (by rfl) (by rfl) (by decide) (fun a hE => ?_)
                refine hE.pur (X.pickT hE rfl rfl) fun a hE => ?_
                exact hr8 true _ _ H (hE.weak ⟨rfl, rfl, rfl, rfl, rfl, rfl, trivial⟩)
              · replace H := H.2 hbr8
                replace hE := hE.bool (b := false) (t := 34) rfl (decide_eq_false hbr8)
                refine hE.on (by rfl) (by rfl) ?_
                refine hE.op (X.fieldAddr hE rfl) H fun x35 w a H hE => ?_
                refine hE.on (by rfl) (by rfl) ?_
                refine hE.op (X.load hE rfl) H fun x36 w a H hE => ?_
                refine hE.on (by rfl) (by rfl) ?_
                refine hE.pur (X.makeFunc hE rfl rfl) fun a hE => ?_
                refine hE.on (by rfl) (by rfl) ?_
                refine hE.call (X.callF hE ent28 rfl rfl) H fun e w H => ?_
                obtain ⟨r_3, rfl, H⟩ := H
                refine ⟨_, rfl, fun a hE => ?_⟩
                refine hE.pur (X.pickF hE rfl rfl) fun a hE => ?_
                exact hr8 r_3 _ _ H (hE.weak ⟨rfl, rfl, rfl, rfl, rfl, rfl, trivial⟩)
        · rcases Classical.em ((x23 < 1)) with hbr7 | hbr7
          · replace H := H.1 hbr7
            replace hE := hE.bool (b := true) (t := 25) rfl (decide_eq_true hbr7)
            refine hE.off (by rfl) (by rfl) (by decide) (fun a hE => ?_)
            refine hE.off (by rfl) (by rfl) (by decide) (fun a hE => ?_)
            refine hE.pur (X.pickT hE rfl rfl) fun a hE => ?_
            exact hr7 true _ _ H (hE.weak ⟨rfl, rfl, rfl, rfl, rfl, rfl, trivial⟩)
          · replace H := H.2 hbr7
            replace hE := hE.bool (b := false) (t := 25) rfl (decide_eq_false hbr7)
            refine hE.on (by rfl) (by rfl) ?_
            refine hE.op (X.load hE rfl) H fun x26 w a H hE => ?_
            refine hE.on (by rfl) (by rfl) ?_
            refine hE.pur (X.gtI hE rfl rfl) fun a hE => ?_
            refine hE.pur (X.pickF hE rfl rfl) fun a hE => ?_
            exact hr7 (decide (2305843009213693952 < x26)) _ _ H (hE.weak ⟨rfl, rfl, rfl, rfl, rfl, rfl, trivial⟩)
  · refine C.seq ?_
    refine C.region ?_
    refine hE.pur (X.move hE rfl) fun a hE => ?_
    refine hE.pur (X.eqI hE rfl rfl) fun a hE => ?_
    refine C.nil (tn ?_)
    refine C.condP hE rfl (fun hc => ?_) (fun hc => ?_)
    · replace H := H.1 hc
      refine C.region ?_
      refine hE.pur (X.move hE rfl) fun a hE => ?_
      refine hE.call (X.callF hE ent27 rfl rfl) H fun e w H => ?_
      obtain ⟨r_4, rfl, H⟩ := H
      refine ⟨_, rfl, fun a hE => ?_⟩
      refine hE.pur (X.assign hE rfl) fun a hE => ?_
      exact C.nil (tn (hj1 r_4 _ _ H (hE.weak ⟨rfl, rfl, rfl, rfl, rfl, trivial⟩)))
    · replace H := H.2 hc
      exact C.skip (tn (hj1 r _ _ H (hE.weak ⟨rfl, rfl, rfl, rfl, rfl, trivial⟩)))
/-! ### lading mvcc.Sweep: function 13 -/
def V_mvcc_Sweep_j4 (x59 : Int) (Kl3 : Int → World → Prop) (w : World) : Prop :=
  Kl3 (IntKind.wrap .i64 (x59 + 1)) w
def V_mvcc_Sweep_l3b (x3 : Option Addr) (x7 : Option Addr) (x37 : Sl) (Gf1 : World → Prop) (x59 : Int) (w : World) (Kl3 : Int → World → Prop) : Prop :=
  ((x59 < (x37.len : Int)) → (opE Try.prog Value.pointer (Instr.indexAt 22 (Sl.v x37) (.int .i64 x59)) w (fun x61 w => opE Try.prog T_api_Version.v (Instr.loadAt 37 (.pointer x61)) w (fun x62 w => opE Try.prog Value.pointer (Instr.alloc 37 true (.tuple #[])) w (fun x13 w => opU Try.prog (Instr.storeAt 37 (.pointer x13) (T_api_Version.v x62)) w (fun w => opE Try.prog Value.pointer (Instr.fieldAt 37 (.pointer x13) 1) w (fun x63 w => opE Try.prog (Value.int .u64) (Instr.loadAt 23 (.pointer x63)) w (fun x64 w => opE Try.prog (Value.int .u64) (Instr.loadAt 23 (.pointer x3)) w (fun x65 w => ((x65 < x64) → (opE Try.prog Value.pointer (Instr.fieldAt 25 (.pointer x7) 0) w (fun x67 w => opE Try.prog Sl.v (Instr.loadAt 22 (.pointer x67)) w (fun x68 w => opE Try.prog T_api_Version.v (Instr.loadAt 37 (.pointer x13)) w (fun x69 w => opE Try.prog Sl.v (Instr.buildSlice 22 1 [(0, (T_api_Version.v x69))].toArray) w (fun x70 w => opE Try.prog Sl.v (Builtin.append_ #[22, 22] 22 [(Sl.v x68), (Sl.v x70)].toArray) w (fun x71 w => opE Try.prog Value.pointer (Instr.fieldAt 25 (.pointer x7) 0) w (fun x72 w => opU Try.prog (Instr.storeAt 22 (.pointer x72) (Sl.v x71)) w (fun w => V_mvcc_Sweep_j4 x59 Kl3 w))))))))) ∧ (¬ (x65 < x64) → (V_mvcc_Sweep_j4 x59 Kl3 w))))))))))) ∧ (¬ (x59 < (x37.len : Int)) → (Gf1 w))
def V_mvcc_Sweep_j2 (x3 : Option Addr) (x7 : Option Addr) (x37 : Sl) (Gf1 : World → Prop) (w : World) : Prop :=
  ∃ (I : Int → World → Prop) (μ : Int → World → Nat), I 0 w ∧ ∀ (x59 : Int) w, I x59 w → V_mvcc_Sweep_l3b x3 x7 x37 Gf1 x59 w (fun x59' w' => I x59' w' ∧ μ x59' w' < μ x59 w)
def V_mvcc_Sweep_r5 (x3 : Option Addr) (x7 : Option Addr) (x37 : Sl) (Gf1 : World → Prop) (x10 : Option Addr) (x50 : Bool) (w : World) : Prop :=
  (x50 = true → (opE Try.prog Value.pointer (Instr.fieldAt 25 (.pointer x7) 0) w (fun x51 w => opE Try.prog Sl.v (Instr.loadAt 22 (.pointer x51)) w (fun x52 w => opE Try.prog T_api_Version.v (Instr.loadAt 37 (.pointer x10)) w (fun x53 w => opE Try.prog Sl.v (Instr.buildSlice 22 1 [(0, (T_api_Version.v x53))].toArray) w (fun x54 w => opE Try.prog Sl.v (Builtin.append_ #[22, 22] 22 [(Sl.v x52), (Sl.v x54)].toArray) w (fun x55 w => opE Try.prog Value.pointer (Instr.fieldAt 25 (.pointer x7) 0) w (fun x56 w => opU Try.prog (Instr.storeAt 22 (.pointer x56) (Sl.v x55)) w (fun w => V_mvcc_Sweep_j2 x3 x7 x37 Gf1 w))))))))) ∧ (x50 = false → (V_mvcc_Sweep_j2 x3 x7 x37 Gf1 w))
def V_mvcc_Sweep_f1b (x3 : Option Addr) (x7 : Option Addr) (x36 : ByteArray) (x37 : Sl) (w : World) (Gf1 : World → Prop) (Lf1 : World → Prop) : Prop :=
  opE Try.prog (Value.int .u64) (Instr.loadAt 23 (.pointer x3)) w (fun x41 w => Cl Try.prog 36 [(Sl.v x37), (.string x36), (.int .u64 x41)].toArray w (fun e w => ∃ (r_2 : T_api_Version) (r_3 : Bool), e = .returned (.tuple [(T_api_Version.v r_2), (.bool r_3)].toArray) ∧ (opE Try.prog Value.pointer (Instr.alloc 37 true (.tuple #[])) w (fun x10 w => opU Try.prog (Instr.storeAt 37 (.pointer x10) (T_api_Version.v r_2)) w (fun w => (r_3 = true → (opE Try.prog Value.pointer (Instr.fieldAt 37 (.pointer x10) 3) w (fun x47 w => opE Try.prog Value.bool (Instr.loadAt 4 (.pointer x47)) w (fun x48 w => V_mvcc_Sweep_r5 x3 x7 x37 Gf1 x10 (!x48) w)))) ∧ (r_3 = false → (V_mvcc_Sweep_r5 x3 x7 x37 Gf1 x10 false w)))))))
def V_mvcc_Sweep (x0 : T_api_Versions) (x1 : Int) (w : World) (Ret : T_api_Versions → Int → World → Prop) : Prop :=
  opE Try.prog Value.pointer (Instr.box 25 (T_api_Versions.v x0)) w (fun x2 w => opE Try.prog Value.pointer (Instr.box 23 (.int .u64 x1)) w (fun x3 w => opE Try.prog Value.pointer (Instr.alloc 25 true (.tuple #[])) w (fun x4 w => opE Try.prog T_api_Versions.v (Instr.loadAt 25 (.pointer x2)) w (fun x14 w => Cl Try.prog 17 [(T_api_Versions.v x14)].toArray w (fun e w => ∃ (r : Int), e = .returned (.int .i64 r) ∧ (((r ≠ 0) → (opE Try.prog T_api_Versions.v (Instr.build 25 [].toArray) w (fun x19 w => opU Try.prog (Instr.storeAt 25 (.pointer x4) (T_api_Versions.v x19)) w (fun w => opR Try.prog T_api_Versions.v 25 x4 w (fun q => Ret q r w))))) ∧ (¬ (r ≠ 0) → (opE Try.prog (Value.int .u64) (Instr.loadAt 23 (.pointer x3)) w (fun x22 w => opE Try.prog Value.pointer (Instr.fieldAt 25 (.pointer x2) 1) w (fun x23 w => opE Try.prog (Value.int .u64) (Instr.loadAt 23 (.pointer x23)) w (fun x24 w => ((x22 < x24) → (opE Try.prog T_api_Versions.v (Instr.build 25 [].toArray) w (fun x26 w => opU Try.prog (Instr.storeAt 25 (.pointer x4) (T_api_Versions.v x26)) w (fun w => opR Try.prog T_api_Versions.v 25 x4 w (fun q_1 => Ret q_1 9 w))))) ∧ (¬ (x22 < x24) → (opE Try.prog (Value.int .u64) (Instr.loadAt 23 (.pointer x3)) w (fun x28 w => ((2305843009213693952 < x28) → (opE Try.prog T_api_Versions.v (Instr.build 25 [].toArray) w (fun x30 w => opU Try.prog (Instr.storeAt 25 (.pointer x4) (T_api_Versions.v x30)) w (fun w => opR Try.prog T_api_Versions.v 25 x4 w (fun q_2 => Ret q_2 2 w))))) ∧ (¬ (2305843009213693952 < x28) → (opE Try.prog (Value.int .u64) (Instr.loadAt 23 (.pointer x3)) w (fun x31 w => opE Try.prog T_api_Versions.v (Instr.build 25 [(1, (.int .u64 x31))].toArray) w (fun x32 w => opE Try.prog Value.pointer (Instr.alloc 25 true (.tuple #[])) w (fun x7 w => opU Try.prog (Instr.storeAt 25 (.pointer x7) (T_api_Versions.v x32)) w (fun w => opE Try.prog Value.pointer (Instr.fieldAt 25 (.pointer x2) 0) w (fun x33 w => opE Try.prog Sl.v (Instr.loadAt 22 (.pointer x33)) w (fun x34 w => Cl Try.prog 35 [(Sl.v x34)].toArray w (fun e w => ∃ (r_1 : Value), e = .returned r_1 ∧ (RangeV2 Try.prog r_1 Value.string Sl.v w (V_mvcc_Sweep_f1b x3 x7) (fun D w => opE Try.prog T_api_Versions.v (Instr.loadAt 25 (.pointer x7)) w (fun x74 w => opU Try.prog (Instr.storeAt 25 (.pointer x4) (T_api_Versions.v x74)) w (fun w => afterM D w (fun w => opR Try.prog T_api_Versions.v 25 x4 w (fun q_3 => Ret q_3 0 w))))) (fun D w => True)))))))))))))))))))))))))
set_option maxRecDepth 100000 in
theorem L1_mvcc_Sweep (x0 : T_api_Versions) (x1 : Int) (w : World) (Ret : T_api_Versions → Int → World → Prop) (H : V_mvcc_Sweep x0 x1 w Ret) : Cl Try.prog 13 [(T_api_Versions.v x0), (.int .u64 x1)].toArray w (fun e w' => ∃ (r0 : T_api_Versions) (r1 : Int), e = .returned (.tuple [(T_api_Versions.v r0), (.int .i64 r1)].toArray) ∧ Ret r0 r1 w') := by
  unfold V_mvcc_Sweep at H
  refine C.enterM 75 (zipE 0 [(T_api_Versions.v x0), (.int .u64 x1)]) Try.func13 rfl rfl (by rfl) rfl ?_
  intro a hE
  replace hE : Sat [] 75 [(0, (T_api_Versions.v x0)), (1, (.int .u64 x1))] a := hE
  refine C.seq ?_
  refine C.region ?_
  refine hE.op (X.box hE rfl) H fun x2 w a H hE => ?_
  refine hE.op (X.box hE rfl) H fun x3 w a H hE => ?_
  refine hE.op (X.alloc) H fun x4 w a H hE => ?_
  refine hE.pur (X.assign hE rfl) fun a hE => ?_
  refine C.nil (tn ?_)
  refine C.seq ?_
  refine C.region ?_
  refine hE.op (X.load hE rfl) H fun x14 w a H hE => ?_
  refine hE.call (X.callF hE ent17 rfl rfl) H fun e w H => ?_
  obtain ⟨r, rfl, H⟩ := H
  refine ⟨_, rfl, fun a hE => ?_⟩
  refine hE.pur (X.assign hE rfl) fun a hE => ?_
  refine C.nil (tn ?_)
  refine C.seq ?_
  refine C.block ?_
  refine C.seq ?_
  refine C.region ?_
  refine hE.pur (X.move hE rfl) fun a hE => ?_
  refine hE.pur (X.neI hE rfl rfl) fun a hE => ?_
  refine hE.pur (X.assign hE rfl) fun a hE => ?_
  refine C.nil (tn ?_)
  refine C.condP hE rfl (fun hc => ?_) (fun hc => ?_)
  · replace H := H.1 hc
    refine C.seq ?_
    refine C.region ?_
    refine hE.op (X.build hE rfl) H fun x19 w a H hE => ?_
    refine hE.pur (X.move hE rfl) fun a hE => ?_
    refine hE.opu (X.store hE rfl rfl) H fun w a H hE => ?_
    refine hE.pur (X.assign hE rfl) fun a hE => ?_
    refine C.nil (tn ?_)
    obtain ⟨q, ad, hp, hl, H⟩ := H
    exact C.ret (br (tr (C.retM0 hE (rs := [.cell 4 25, .tmp 5]) (vs := [(T_api_Versions.v q), (.int .i64 r)]) rfl ⟨⟨ad, by rw [← hp]; rfl, hl⟩, rfl, trivial⟩ ⟨_, _, rfl, H⟩)))
  · replace H := H.2 hc
    refine C.seq ?_
    refine C.region ?_
    refine hE.op (X.load hE rfl) H fun x22 w a H hE => ?_
    refine hE.op (X.fieldAddr hE rfl) H fun x23 w a H hE => ?_
    refine hE.op (X.load hE rfl) H fun x24 w a H hE => ?_
    refine hE.pur (X.ltI hE rfl rfl) fun a hE => ?_
    refine hE.pur (X.assign hE rfl) fun a hE => ?_
    refine C.nil (tn ?_)
    refine C.condP hE rfl (fun hc => ?_) (fun hc => ?_)
    · replace H := H.1 hc
      refine C.seq ?_
      refine C.region ?_
      refine hE.op (X.build hE rfl) H fun x26 w a H hE => ?_
      refine hE.opu (X.store hE rfl rfl) H fun w a H hE => ?_
      refine hE.pur (X.assign hE rfl) fun a hE => ?_
      refine C.nil (tn ?_)
      obtain ⟨q_1, ad_1, hp_1, hl_1, H⟩ := H
      exact C.ret (br (tr (C.retM0 hE (rs := [.cell 4 25, .tmp 5]) (vs := [(T_api_Versions.v q_1), (.int .i64 9)]) rfl ⟨⟨ad_1, by rw [← hp_1]; rfl, hl_1⟩, rfl, trivial⟩ ⟨_, _, rfl, H⟩)))
    · replace H := H.2 hc
      refine C.seq ?_
      refine C.region ?_
      refine hE.op (X.load hE rfl) H fun x28 w a H hE => ?_
      refine hE.pur (X.gtI hE rfl rfl) fun a hE => ?_
      refine hE.pur (X.assign hE rfl) fun a hE => ?_
      refine C.nil (tn ?_)
      refine C.condP hE rfl (fun hc => ?_) (fun hc => ?_)
      · replace H := H.1 hc
        refine C.seq ?_
        refine C.region ?_
        refine hE.op (X.build hE rfl) H fun x30 w a H hE => ?_
        refine hE.opu (X.store hE rfl rfl) H fun w a H hE => ?_
        refine hE.pur (X.assign hE rfl) fun a hE => ?_
        refine C.nil (tn ?_)
        obtain ⟨q_2, ad_2, hp_2, hl_2, H⟩ := H
        exact C.ret (br (tr (C.retM0 hE (rs := [.cell 4 25, .tmp 5]) (vs := [(T_api_Versions.v q_2), (.int .i64 2)]) rfl ⟨⟨ad_2, by rw [← hp_2]; rfl, hl_2⟩, rfl, trivial⟩ ⟨_, _, rfl, H⟩)))
      · replace H := H.2 hc
        refine C.skip (bn (tn ?_))
        refine C.seq ?_
        refine C.region ?_
        refine hE.op (X.load hE rfl) H fun x31 w a H hE => ?_
        refine hE.op (X.build hE rfl) H fun x32 w a H hE => ?_
        refine hE.op (X.alloc) H fun x7 w a H hE => ?_
        refine hE.opu (X.store hE rfl rfl) H fun w a H hE => ?_
        refine C.nil (tn ?_)
        refine C.seq ?_
        refine C.seq ?_
        refine C.region ?_
        refine hE.op (X.fieldAddr hE rfl) H fun x33 w a H hE => ?_
        refine hE.op (X.load hE rfl) H fun x34 w a H hE => ?_
        refine hE.call (X.callF hE ent35 rfl rfl) H fun e w H => ?_
        obtain ⟨r_1, rfl, H⟩ := H
        refine ⟨_, rfl, fun a hE => ?_⟩
        refine C.nil (tn ?_)
        refine C.block ?_
        obtain ⟨α, f, f', Kp, S, Sp, Num, I, Ir, hR, hnew, hbd, hdn, hst⟩ := H
        refine C.range2m f f' Value.string Sl.v none hE rfl hR hnew (by rfl) (by rfl) (by rfl) (by rfl) (by rfl) (by rfl) ?_ ?_ ?_
        · intro l pre z w a h3 h4 hE
          have H := hbd pre z w h3 h4
          generalize (fun (W' : World) => KeepsFrom _ w W' ∧ Kp w W' ∧ I (pre ++ [z]) W') = Gf1 at H ⊢
          generalize (fun (W' : World) => KeepsFrom _ w W' ∧ Ir (pre ++ [z]) W') = Lf1 at H ⊢
          generalize f z = x36 at H hE
          generalize f' z = x37 at H hE
          unfold V_mvcc_Sweep_f1b at H
          refine C.block ?_
          refine C.join (ds := []) (N := 75) (σ := Unit) (fun s => [(3, (.pointer x3)), (7, (.pointer x7)), (9, (Sl.v x37))]) (fun s w => V_mvcc_Sweep_j2 x3 x7 x37 Gf1  w) ?_ (fun hj2 => ?_)
          · rintro ⟨⟩ w a H hE
            try dsimp only at H hE
            unfold V_mvcc_Sweep_j2 at H
            refine C.seq ?_
            refine C.region ?_
            refine hE.pur (X.move hE rfl) fun a hE => ?_
            refine hE.purR (fun w => X.lenL hE Try.underlying22 rfl) fun a hE => ?_
            refine hE.pur (X.move hE rfl) fun a hE => ?_
            refine C.nil (tn ?_)
            refine C.block ?_
            obtain ⟨I_l3, μ_l3, h0, hb⟩ := H
            refine C.loop (ds := []) (N := 75) (σ := Int) (fun s => [(59, (.int .i64 s)), (3, (.pointer x3)), (7, (.pointer x7)), (57, (Sl.v x37)), (58, (.int .i64 (x37.len : Int)))]) (fun s w => I_l3 s w) (fun s w => μ_l3 s w) 0 h0 (hE.weak ⟨rfl, rfl, rfl, rfl, rfl, trivial⟩) ?_
            intro x59 w a hI hE
            try dsimp only at hI hE
            obtain ⟨Kl3, hK_l3⟩ : ∃ K : Int → World → Prop, K = (fun x59' w' => I_l3 x59' w' ∧ μ_l3 x59' w' < μ_l3 x59 w) := ⟨_, rfl⟩
            have H : V_mvcc_Sweep_l3b x3 x7 x37 Gf1 x59 w Kl3 := by rw [hK_l3]; exact hb x59 w hI
            clear hb h0 hI
            unfold V_mvcc_Sweep_l3b at H
            refine C.seq ?_
            refine C.region ?_
            refine hE.pur (X.ltI hE rfl rfl) fun a hE => ?_
            refine C.nil (tn ?_)
            refine C.seq ?_
            refine C.condP hE rfl (fun hc => ?_) (fun hc => ?_)
            · replace H := H.1 hc
              refine C.skip (tn ?_)
              refine C.join (ds := []) (N := 75) (σ := Unit) (fun s => [(3, (.pointer x3)), (7, (.pointer x7)), (57, (Sl.v x37)), (58, (.int .i64 (x37.len : Int))), (59, (.int .i64 x59))]) (fun s w => V_mvcc_Sweep_j4 x59 Kl3  w) ?_ (fun hj4 => ?_)
              · rintro ⟨⟩ w a H hE
                try dsimp only at H hE
                unfold V_mvcc_Sweep_j4 at H
                refine C.region ?_
                refine hE.pur (X.add hE rfl rfl) fun a hE => ?_
                refine hE.pur (X.move hE rfl) fun a hE => ?_
                rw [hK_l3] at H
                exact C.nil (tn ⟨(IntKind.wrap .i64 (x59 + 1)), hE.weak ⟨rfl, rfl, rfl, rfl, rfl, trivial⟩, H⟩)
              · refine C.block ?_
                refine C.seq ?_
                refine C.region ?_
                refine hE.op (X.indexAddr hE rfl rfl) H fun x61 w a H hE => ?_
                refine hE.op (X.load hE rfl) H fun x62 w a H hE => ?_
                refine hE.op (X.alloc) H fun x13 w a H hE => ?_
                refine hE.opu (X.store hE rfl rfl) H fun w a H hE => ?_
                refine C.nil (tn ?_)
                refine C.seq ?_
                refine C.region ?_
                refine hE.op (X.fieldAddr hE rfl) H fun x63 w a H hE => ?_
                refine hE.op (X.load hE rfl) H fun x64 w a H hE => ?_
                refine hE.op (X.load hE rfl) H fun x65 w a H hE => ?_
                refine hE.pur (X.gtI hE rfl rfl) fun a hE => ?_
                refine C.nil (tn ?_)
                refine C.condP hE rfl (fun hc => ?_) (fun hc => ?_)
                · replace H := H.1 hc
                  refine C.region ?_
                  refine hE.op (X.fieldAddr hE rfl) H fun x67 w a H hE => ?_
                  refine hE.op (X.load hE rfl) H fun x68 w a H hE => ?_
                  refine hE.op (X.load hE rfl) H fun x69 w a H hE => ?_
                  refine hE.op (X.buildSlice hE rfl) H fun x70 w a H hE => ?_
                  refine hE.op (X.append hE rfl) H fun x71 w a H hE => ?_
                  refine hE.op (X.fieldAddr hE rfl) H fun x72 w a H hE => ?_
                  refine hE.opu (X.store hE rfl rfl) H fun w a H hE => ?_
                  exact C.nil (bn (tn (hj4 () _ _ H (hE.weak ⟨rfl, rfl, rfl, rfl, rfl, trivial⟩))))
                · replace H := H.2 hc
                  exact C.skip (bn (tn (hj4 () _ _ H (hE.weak ⟨rfl, rfl, rfl, rfl, rfl, trivial⟩))))
            · replace H := H.2 hc
              exact C.exit (te (te (be (bn H))))
          · refine C.seq ?_
            refine C.region ?_
            refine hE.pur (X.move hE rfl) fun a hE => ?_
            refine hE.pur (X.move hE rfl) fun a hE => ?_
            refine hE.op (X.load hE rfl) H fun x41 w a H hE => ?_
            refine hE.call (X.callF hE ent36 rfl rfl) H fun e w H => ?_
            obtain ⟨r_2, r_3, rfl, H⟩ := H
            refine ⟨_, rfl, fun a hE => ?_⟩
            refine hE.pur (X.move hE rfl) fun a hE => ?_
            refine hE.pur (X.extract hE rfl rfl) fun a hE => ?_
            refine hE.pur (X.extract hE rfl rfl) fun a hE => ?_
            refine hE.op (X.alloc) H fun x10 w a H hE => ?_
            refine hE.opu (X.store hE rfl rfl) H fun w a H hE => ?_
            refine hE.pur (X.assign hE rfl) fun a hE => ?_
            refine C.nil (tn ?_)
            refine C.seq ?_
            refine C.region ?_
            refine hE.pur (X.move hE rfl) fun a hE => ?_
            refine hE.pur (X.move hE rfl) fun a hE => ?_
            refine WL.join (ds := []) (N := 75) (σ := Bool) (fun s => [(50, (.bool s)), (3, (.pointer x3)), (7, (.pointer x7)), (9, (Sl.v x37)), (10, (.pointer x10))]) (fun s w => V_mvcc_Sweep_r5 x3 x7 x37 Gf1 x10 s w) 4 ?_ (fun hr5 => ?_)
            · intro x50 w a H hE
              try dsimp only at H hE
              unfold V_mvcc_Sweep_r5 at H
              refine C.nil (tn ?_)
              refine C.condB hE rfl (fun hc => ?_) (fun hc => ?_)
              · replace H := H.1 hc
                refine C.region ?_
                refine hE.op (X.fieldAddr hE rfl) H fun x51 w a H hE => ?_
                refine hE.op (X.load hE rfl) H fun x52 w a H hE => ?_
                refine hE.op (X.load hE rfl) H fun x53 w a H hE => ?_
                refine hE.op (X.buildSlice hE rfl) H fun x54 w a H hE => ?_
                refine hE.op (X.append hE rfl) H fun x55 w a H hE => ?_
                refine hE.op (X.fieldAddr hE rfl) H fun x56 w a H hE => ?_
                refine hE.opu (X.store hE rfl rfl) H fun w a H hE => ?_
                exact C.nil (tn (hj2 () _ _ H (hE.weak ⟨rfl, rfl, rfl, trivial⟩)))
              · replace H := H.2 hc
                exact C.skip (tn (hj2 () _ _ H (hE.weak ⟨rfl, rfl, rfl, trivial⟩)))
            · rcases Bool.eq_false_or_eq_true (r_3) with hbr5 | hbr5
              · replace H := H.1 hbr5
                replace hE := hE.bool (b := true) (t := 46) rfl (hbr5)
                refine hE.on (by rfl) (by rfl) ?_
                refine hE.op (X.fieldAddr hE rfl) H fun x47 w a H hE => ?_
                refine hE.on (by rfl) (by rfl) ?_
                refine hE.op (X.load hE rfl) H fun x48 w a H hE => ?_
                refine hE.on (by rfl) (by rfl) ?_
                refine hE.pur (X.not hE rfl) fun a hE => ?_
                refine hE.pur (X.pickT hE rfl rfl) fun a hE => ?_
                exact hr5 (!x48) _ _ H (hE.weak ⟨rfl, rfl, rfl, rfl, rfl, trivial⟩)
              · replace H := H.2 hbr5
                replace hE := hE.bool (b := false) (t := 46) rfl (hbr5)
                refine hE.off (by rfl) (by rfl) (by decide) (fun a hE => ?_)
                refine hE.off (by rfl) (by rfl) (by decide) (fun a hE => ?_)
                refine hE.off (by rfl) (by rfl) (by decide) (fun a hE => ?_)
                refine hE.pur (X.pickF hE rfl rfl) fun a hE => ?_
                exact hr5 false _ _ H (hE.weak ⟨rfl, rfl, rfl, rfl, rfl, trivial⟩)
        · intro D xs w a h1 h2 h3 hD hE
          have H := hdn D xs w h1 h2 h3 hD
          clear hbd hdn hst hnew
          try dsimp only at H
          refine (bn (tn ?_))
          refine C.seq ?_
          refine C.region ?_
          refine hE.op (X.load hE rfl) H fun x74 w a H hE => ?_
          refine hE.opu (X.store hE rfl rfl) H fun w a H hE => ?_
          refine hE.pur (X.assign hE rfl) fun a hE => ?_
          refine C.nil (tn ?_)
          obtain ⟨hD0, H⟩ := H
          try dsimp only at H
          obtain ⟨q_3, ad_3, hp_3, hl_3, H⟩ := H
          exact C.ret (C.retM1 hE (rs := [.cell 4 25, .tmp 5]) (vs := [(T_api_Versions.v q_3), (.int .i64 0)]) rfl hD0 ⟨⟨ad_3, by rw [← hp_3]; rfl, hl_3⟩, rfl, trivial⟩ ⟨_, _, rfl, H⟩)
        · intro D c pre w a hj h1 h2 h3 hD hE
          cases hj
/-! ### lading mvcc.Check: function 17 -/
def V_mvcc_Check_r7 (Ret : Int → World → Prop) (x18 : Int) (Kl2 : Int → World → Prop) (x69 : Bool) (w : World) : Prop :=
  nextB w (fun w => (x69 = true → (Ret 2 w)) ∧ (x69 = false → (Kl2 (IntKind.wrap .i64 (x18 + 1)) w)))
def V_mvcc_Check_r8 (Ret : Int → World → Prop) (x18 : Int) (Kl2 : Int → World → Prop) (x68 : Bool) (w : World) : Prop :=
  V_mvcc_Check_r7 Ret x18 Kl2 x68 w
def V_mvcc_Check_r6 (Ret : Int → World → Prop) (x1 : Option Addr) (x18 : Int) (Kl2 : Int → World → Prop) (x4 : Option Addr) (x52 : Bool) (w : World) : Prop :=
  ((!x52) = true → (V_mvcc_Check_r7 Ret x18 Kl2 true w)) ∧ ((!x52) = false → (((0 < x18) → (opB Try.prog Value.pointer (Instr.fieldAt 25 (.pointer x1) 0) w (fun x59 => opB Try.prog Sl.v (Instr.loadAt 22 (.pointer x59)) w (fun x60 => opB Try.prog Value.pointer (Instr.indexAt 22 (Sl.v x60) (.int .i64 (IntKind.wrap .i64 (x18 - 1)))) w (fun x63 => opB Try.prog T_api_Version.v (Instr.loadAt 37 (.pointer x63)) w (fun x64 => opB Try.prog T_api_Version.v (Instr.loadAt 37 (.pointer x4)) w (fun x65 => ∃ (r : Int), (∀ w', Bel w w' → Cl Try.prog 32 [(T_api_Version.v x64), (T_api_Version.v x65)].toArray w' (fun e w'' => e = .returned (.int .i64 r) ∧ Bel w' w'')) ∧ (V_mvcc_Check_r8 Ret x18 Kl2 (decide (0 ≤ r)) w)))))))) ∧ (¬ (0 < x18) → (V_mvcc_Check_r8 Ret x18 Kl2 false w))))
def V_mvcc_Check_r5 (Ret : Int → World → Prop) (x1 : Option Addr) (x18 : Int) (Kl2 : Int → World → Prop) (x4 : Option Addr) (x46 : Bool) (w : World) : Prop :=
  (x46 = true → (opE Try.prog Value.pointer (Instr.fieldAt 37 (.pointer x4) 2) w (fun x48 w => opE Try.prog Value.string (Instr.loadAt 9 (.pointer x48)) w (fun x49 w => V_mvcc_Check_r6 Ret x1 x18 Kl2 x4 (decide ((x49.size : Int) ≤ 512)) w)))) ∧ (x46 = false → (V_mvcc_Check_r6 Ret x1 x18 Kl2 x4 false w))
def V_mvcc_Check_r4 (Ret : Int → World → Prop) (x1 : Option Addr) (x18 : Int) (Kl2 : Int → World → Prop) (x4 : Option Addr) (x40 : Bool) (w : World) : Prop :=
  (x40 = true → (opE Try.prog Value.pointer (Instr.fieldAt 37 (.pointer x4) 0) w (fun x42 w => opE Try.prog Value.string (Instr.loadAt 9 (.pointer x42)) w (fun x43 w => V_mvcc_Check_r5 Ret x1 x18 Kl2 x4 (decide ((x43.size : Int) ≤ 256)) w)))) ∧ (x40 = false → (V_mvcc_Check_r5 Ret x1 x18 Kl2 x4 false w))
def V_mvcc_Check_r9 (Ret : Int → World → Prop) (x1 : Option Addr) (x18 : Int) (Kl2 : Int → World → Prop) (x4 : Option Addr) (x39 : Bool) (w : World) : Prop :=
  V_mvcc_Check_r4 Ret x1 x18 Kl2 x4 x39 w
def V_mvcc_Check_r3 (Ret : Int → World → Prop) (x1 : Option Addr) (x18 : Int) (Kl2 : Int → World → Prop) (x4 : Option Addr) (x30 : Bool) (w : World) : Prop :=
  (x30 = true → (opE Try.prog Value.pointer (Instr.fieldAt 37 (.pointer x4) 3) w (fun x32 w => opE Try.prog Value.bool (Instr.loadAt 4 (.pointer x32)) w (fun x33 w => ((!x33) = true → (V_mvcc_Check_r9 Ret x1 x18 Kl2 x4 true w)) ∧ ((!x33) = false → (opE Try.prog Value.pointer (Instr.fieldAt 37 (.pointer x4) 2) w (fun x36 w => opE Try.prog Value.string (Instr.loadAt 9 (.pointer x36)) w (fun x37 w => V_mvcc_Check_r9 Ret x1 x18 Kl2 x4 (decide (x37 = (ByteArray.mk #[]))) w)))))))) ∧ (x30 = false → (V_mvcc_Check_r4 Ret x1 x18 Kl2 x4 false w))
def V_mvcc_Check_l2b (Ret : Int → World → Prop) (x1 : Option Addr) (x16 : Sl) (x18 : Int) (w : World) (Kl2 : Int → World → Prop) : Prop :=
  ((x18 < (x16.len : Int)) → (opE Try.prog Value.pointer (Instr.indexAt 22 (Sl.v x16) (.int .i64 x18)) w (fun x21 w => opE Try.prog T_api_Version.v (Instr.loadAt 37 (.pointer x21)) w (fun x22 w => opE Try.prog Value.pointer (Instr.alloc 37 true (.tuple #[])) w (fun x4 w => opU Try.prog (Instr.storeAt 37 (.pointer x4) (T_api_Version.v x22)) w (fun w => opE Try.prog Value.pointer (Instr.fieldAt 37 (.pointer x4) 1) w (fun x23 w => opE Try.prog (Value.int .u64) (Instr.loadAt 23 (.pointer x23)) w (fun x24 w => ((1 ≤ x24) → (opE Try.prog Value.pointer (Instr.fieldAt 37 (.pointer x4) 1) w (fun x27 w => opE Try.prog (Value.int .u64) (Instr.loadAt 23 (.pointer x27)) w (fun x28 w => V_mvcc_Check_r3 Ret x1 x18 Kl2 x4 (decide (x28 ≤ 2305843009213693952)) w)))) ∧ (¬ (1 ≤ x24) → (V_mvcc_Check_r3 Ret x1 x18 Kl2 x4 false w)))))))))) ∧ (¬ (x18 < (x16.len : Int)) → (Ret 0 w))
def V_mvcc_Check_r1 (Ret : Int → World → Prop) (x1 : Option Addr) (x14 : Bool) (w : World) : Prop :=
  (x14 = true → (Ret 2 w)) ∧ (x14 = false → (opE Try.prog Value.pointer (Instr.fieldAt 25 (.pointer x1) 0) w (fun x15 w => opE Try.prog Sl.v (Instr.loadAt 22 (.pointer x15)) w (fun x16 w => ∃ (I : Int → World → Prop) (μ : Int → World → Nat), I 0 w ∧ ∀ (x18 : Int) w, I x18 w → V_mvcc_Check_l2b Ret x1 x16 x18 w (fun x18' w' => I x18' w' ∧ μ x18' w' < μ x18 w)))))
def V_mvcc_Check (x0 : T_api_Versions) (w : World) (Ret : Int → World → Prop) : Prop :=
  opE Try.prog Value.pointer (Instr.box 25 (T_api_Versions.v x0)) w (fun x1 w => opE Try.prog Value.pointer (Instr.fieldAt 25 (.pointer x1) 0) w (fun x6 w => opE Try.prog Sl.v (Instr.loadAt 22 (.pointer x6)) w (fun x7 w => ((4096 < (x7.len : Int)) → (V_mvcc_Check_r1 Ret x1 true w)) ∧ (¬ (4096 < (x7.len : Int)) → (opE Try.prog Value.pointer (Instr.fieldAt 25 (.pointer x1) 1) w (fun x11 w => opE Try.prog (Value.int .u64) (Instr.loadAt 23 (.pointer x11)) w (fun x12 w => V_mvcc_Check_r1 Ret x1 (decide (2305843009213693952 < x12)) w)))))))
set_option maxRecDepth 100000 in
theorem L1_mvcc_Check (x0 : T_api_Versions) (w : World) (Ret : Int → World → Prop) (H : V_mvcc_Check x0 w Ret) : Cl Try.prog 17 [(T_api_Versions.v x0)].toArray w (fun e w' => ∃ (r0 : Int), e = .returned (.int .i64 r0) ∧ Ret r0 w') := by
  unfold V_mvcc_Check at H
  refine C.enter 71 (zipE 0 [(T_api_Versions.v x0)]) Try.func17 rfl rfl (by rfl) rfl ?_
  intro a hE
  replace hE : Sat [] 71 [(0, (T_api_Versions.v x0))] a := hE
  refine C.seq ?_
  refine C.region ?_
  refine hE.op (X.box hE rfl) H fun x1 w a H hE => ?_
  refine hE.pur (X.assign hE rfl) fun a hE => ?_
  refine C.nil (tn ?_)
  refine C.seq ?_
  refine C.seq ?_
  refine C.region ?_
  refine hE.op (X.fieldAddr hE rfl) H fun x6 w a H hE => ?_
  refine hE.op (X.load hE rfl) H fun x7 w a H hE => ?_
  refine hE.purR (fun w => X.lenL hE Try.underlying22 rfl) fun a hE => ?_
  refine hE.pur (X.gtI hE rfl rfl) fun a hE => ?_
  refine hE.pur (X.move hE rfl) fun a hE => ?_
  refine WL.join (ds := []) (N := 71) (σ := Bool) (fun s => [(14, (.bool s)), (1, (.pointer x1))]) (fun s w => V_mvcc_Check_r1 Ret x1 s w) 4 ?_ (fun hr1 => ?_)
  · intro x14 w a H hE
    try dsimp only at H hE
    unfold V_mvcc_Check_r1 at H
    refine C.nil (tn ?_)
    refine C.condB hE rfl (fun hc => ?_) (fun hc => ?_)
    · replace H := H.1 hc
      refine C.seq ?_
      refine C.region ?_
      refine hE.pur (X.assign hE rfl) fun a hE => ?_
      refine C.nil (tn ?_)
      exact C.ret (tr (C.ret1 hE rfl rfl ⟨_, rfl, H⟩))
    · replace H := H.2 hc
      refine C.skip (tn ?_)
      refine C.seq ?_
      refine C.seq ?_
      refine C.region ?_
      refine hE.op (X.fieldAddr hE rfl) H fun x15 w a H hE => ?_
      refine hE.op (X.load hE rfl) H fun x16 w a H hE => ?_
      refine hE.purR (fun w => X.lenL hE Try.underlying22 rfl) fun a hE => ?_
      refine hE.pur (X.move hE rfl) fun a hE => ?_
      refine C.nil (tn ?_)
      refine C.block ?_
      obtain ⟨I_l2, μ_l2, h0, hb⟩ := H
      refine C.loop (ds := []) (N := 71) (σ := Int) (fun s => [(18, (.int .i64 s)), (1, (.pointer x1)), (16, (Sl.v x16)), (17, (.int .i64 (x16.len : Int)))]) (fun s w => I_l2 s w) (fun s w => μ_l2 s w) 0 h0 (hE.weak ⟨rfl, rfl, rfl, rfl, trivial⟩) ?_
      intro x18 w a hI hE
      try dsimp only at hI hE
      obtain ⟨Kl2, hK_l2⟩ : ∃ K : Int → World → Prop, K = (fun x18' w' => I_l2 x18' w' ∧ μ_l2 x18' w' < μ_l2 x18 w) := ⟨_, rfl⟩
      have H : V_mvcc_Check_l2b Ret x1 x16 x18 w Kl2 := by rw [hK_l2]; exact hb x18 w hI
      clear hb h0 hI
      unfold V_mvcc_Check_l2b at H
      refine C.seq ?_
      refine C.region ?_
      refine hE.pur (X.ltI hE rfl rfl) fun a hE => ?_
      refine C.nil (tn ?_)
      refine C.seq ?_
      refine C.condP hE rfl (fun hc => ?_) (fun hc => ?_)
      · replace H := H.1 hc
        refine C.skip (tn ?_)
        refine C.seq ?_
        refine C.block ?_
        refine C.seq ?_
        refine C.region ?_
        refine hE.pur (X.move hE rfl) fun a hE => ?_
        refine hE.op (X.indexAddr hE rfl rfl) H fun x21 w a H hE => ?_
        refine hE.op (X.load hE rfl) H fun x22 w a H hE => ?_
        refine hE.op (X.alloc) H fun x4 w a H hE => ?_
        refine hE.pur (X.assign hE rfl) fun a hE => ?_
        refine hE.opu (X.store hE rfl rfl) H fun w a H hE => ?_
        refine C.nil (tn ?_)
        refine C.seq ?_
        refine C.region ?_
        refine hE.op (X.fieldAddr hE rfl) H fun x23 w a H hE => ?_
        refine hE.op (X.load hE rfl) H fun x24 w a H hE => ?_
        refine hE.pur (X.geI hE rfl rfl) fun a hE => ?_
        refine hE.pur (X.move hE rfl) fun a hE => ?_
        refine WL.join (ds := []) (N := 71) (σ := Bool) (fun s => [(30, (.bool s)), (1, (.pointer x1)), (3, (.int .i64 x18)), (4, (.pointer x4)), (16, (Sl.v x16)), (17, (.int .i64 (x16.len : Int))), (18, (.int .i64 x18))]) (fun s w => V_mvcc_Check_r3 Ret x1 x18 Kl2 x4 s w) 4 ?_ (fun hr3 => ?_)
        · intro x30 w a H hE
          try dsimp only at H hE
          unfold V_mvcc_Check_r3 at H
          refine hE.pur (X.move hE rfl) fun a hE => ?_
          refine WL.join (ds := []) (N := 71) (σ := Bool) (fun s => [(40, (.bool s)), (1, (.pointer x1)), (3, (.int .i64 x18)), (4, (.pointer x4)), (16, (Sl.v x16)), (17, (.int .i64 (x16.len : Int))), (18, (.int .i64 x18))]) (fun s w => V_mvcc_Check_r4 Ret x1 x18 Kl2 x4 s w) 9 ?_ (fun hr4 => ?_)
          · intro x40 w a H hE
            try dsimp only at H hE
            unfold V_mvcc_Check_r4 at H
            refine hE.pur (X.move hE rfl) fun a hE => ?_
            refine WL.join (ds := []) (N := 71) (σ := Bool) (fun s => [(46, (.bool s)), (1, (.pointer x1)), (3, (.int .i64 x18)), (4, (.pointer x4)), (16, (Sl.v x16)), (17, (.int .i64 (x16.len : Int))), (18, (.int .i64 x18))]) (fun s w => V_mvcc_Check_r5 Ret x1 x18 Kl2 x4 s w) 5 ?_ (fun hr5 => ?_)
            · intro x46 w a H hE
              try dsimp only at H hE
              unfold V_mvcc_Check_r5 at H
              refine hE.pur (X.move hE rfl) fun a hE => ?_
              refine WL.join (ds := []) (N := 71) (σ := Bool) (fun s => [(52, (.bool s)), (1, (.pointer x1)), (3, (.int .i64 x18)), (4, (.pointer x4)), (16, (Sl.v x16)), (17, (.int .i64 (x16.len : Int))), (18, (.int .i64 x18))]) (fun s w => V_mvcc_Check_r6 Ret x1 x18 Kl2 x4 s w) 5 ?_ (fun hr6 => ?_)
              · intro x52 w a H hE
                try dsimp only at H hE
                unfold V_mvcc_Check_r6 at H
                refine hE.pur (X.assign hE rfl) fun a hE => ?_
                refine C.nil (tn ?_)
                refine C.seq ?_
                refine C.draw (by kernel_rfl) (by kernel_rfl) ?_
                refine hE.qpur (X.move hE rfl) fun a hE => ?_
                refine hE.qpur (X.not hE rfl) fun a hE => ?_
                refine hE.qpur (X.move hE rfl) fun a hE => ?_
                refine WQ.join (ds := []) (N := 71) (σ := Bool) (fun s => [(69, (.bool s)), (1, (.pointer x1)), (16, (Sl.v x16)), (17, (.int .i64 (x16.len : Int))), (18, (.int .i64 x18))]) (fun s => V_mvcc_Check_r7 Ret x18 Kl2 s w) 14 ?_ (fun hr7 => ?_)
                · intro x69 a H hE
                  try dsimp only at H hE
                  unfold V_mvcc_Check_r7 at H
                  refine C.qnil (fun w hB => ?_)
                  replace H := H w hB
                  refine (tn ?_)
                  refine C.condB hE rfl (fun hc => ?_) (fun hc => ?_)
                  · replace H := H.1 hc
                    refine C.seq ?_
                    refine C.region ?_
                    refine hE.pur (X.assign hE rfl) fun a hE => ?_
                    refine C.nil (tn ?_)
                    exact C.ret (br (tr (tr (br (tr (C.ret1 hE rfl rfl ⟨_, rfl, H⟩))))))
                  · replace H := H.2 hc
                    refine C.skip (bn (tn ?_))
                    refine C.region ?_
                    refine hE.pur (X.add hE rfl rfl) fun a hE => ?_
                    refine hE.pur (X.move hE rfl) fun a hE => ?_
                    rw [hK_l2] at H
                    exact C.nil (tn ⟨(IntKind.wrap .i64 (x18 + 1)), hE.weak ⟨rfl, rfl, rfl, rfl, trivial⟩, H⟩)
                · rcases Bool.eq_false_or_eq_true ((!x52)) with hbr7 | hbr7
                  · replace H := H.1 hbr7
                    replace hE := hE.bool (b := true) (t := 55) rfl (hbr7)
                    refine hE.qoff (by rfl) (by rfl) (by decide) (fun a hE => ?_)
                    refine hE.qoff (by rfl) (by rfl) (by decide) (fun a hE => ?_)
                    refine hE.qoff (by rfl) (by rfl) (by decide) (fun a hE => ?_)
                    refine hE.qoffU (by rfl) (by rfl) (fun a hE => ?_)
                    refine hE.qoffU (by rfl) (by rfl) (fun a hE => ?_)
                    refine hE.qoffU (by rfl) (by rfl) (fun a hE => ?_)
                    refine hE.qoffU (by rfl) (by rfl) (fun a hE => ?_)
                    refine hE.qoffU (by rfl) (by rfl) (fun a hE => ?_)
                    refine hE.qoffU (by rfl) (by rfl) (fun a hE => ?_)
                    refine hE.qoffU (by rfl) (by rfl) (fun a hE => ?_)
                    refine hE.qoffU (by rfl) (by rfl) (fun a hE => ?_)
                    refine hE.qoffU (by rfl) (by rfl) (fun a hE => ?_)
                    refine hE.qoff (by rfl) (by rfl) (by decide) (fun a hE => ?_)
                    refine hE.qpur (X.pickT hE rfl rfl) fun a hE => ?_
                    exact hr7 true _ H (hE.weak ⟨rfl, rfl, rfl, rfl, rfl, trivial⟩)
                  · replace H := H.2 hbr7
                    replace hE := hE.bool (b := false) (t := 55) rfl (hbr7)
                    refine hE.qon (by rfl) (by rfl) ?_
                    refine hE.qpur (X.move hE rfl) fun a hE => ?_
                    refine hE.qon (by rfl) (by rfl) ?_
                    refine hE.qpur (X.gtI hE rfl rfl) fun a hE => ?_
                    refine hE.qon (by rfl) (by rfl) ?_
                    refine hE.qpur (X.move hE rfl) fun a hE => ?_
                    refine WQ.join (ds := []) (N := 71) (σ := Bool) (fun s => [(68, (.bool s)), (1, (.pointer x1)), (16, (Sl.v x16)), (17, (.int .i64 (x16.len : Int))), (18, (.int .i64 x18)), (55, (.bool false))]) (fun s => V_mvcc_Check_r8 Ret x18 Kl2 s w) 10 ?_ (fun hr8 => ?_)
                    · intro x68 a H hE
                      try dsimp only at H hE
                      unfold V_mvcc_Check_r8 at H
                      refine hE.qpur (X.pickF hE rfl rfl) fun a hE => ?_
                      exact hr7 x68 _ H (hE.weak ⟨rfl, rfl, rfl, rfl, rfl, trivial⟩)
                    · rcases Classical.em ((0 < x18)) with hbr8 | hbr8
                      · replace H := H.1 hbr8
                        replace hE := hE.bool (b := true) (t := 58) rfl (decide_eq_true hbr8)
                        refine hE.qon (by rfl) (by rfl) ?_
                        refine hE.qop (X.fieldAddr hE rfl) H fun x59 a H hE => ?_
                        refine hE.qon (by rfl) (by rfl) ?_
                        refine hE.qop (X.load hE rfl) H fun x60 a H hE => ?_
                        refine hE.qon (by rfl) (by rfl) ?_
                        refine hE.qpur (X.move hE rfl) fun a hE => ?_
                        refine hE.qon (by rfl) (by rfl) ?_
                        refine hE.qpur (X.sub hE rfl rfl) fun a hE => ?_
                        refine hE.qon (by rfl) (by rfl) ?_
                        refine hE.qop (X.indexAddr hE rfl rfl) H fun x63 a H hE => ?_
                        refine hE.qon (by rfl) (by rfl) ?_
                        refine hE.qop (X.load hE rfl) H fun x64 a H hE => ?_
                        refine hE.qon (by rfl) (by rfl) ?_
                        refine hE.qop (X.load hE rfl) H fun x65 a H hE => ?_
                        refine hE.qon (by rfl) (by rfl) ?_
                        obtain ⟨r, hc, H⟩ := H
                        refine hE.qcall (fun w' => X.callF hE ent32 rfl rfl) hc fun a hE => ?_
                        refine hE.qon (by rfl) (by rfl) ?_
                        refine hE.qpur (X.geI hE rfl rfl) fun a hE => ?_
                        refine hE.qon (by rfl) (by rfl) ?_
                        refine hE.qpur (X.pickT hE rfl rfl) fun a hE => ?_
                        exact hr8 (decide (0 ≤ r)) _ H (hE.weak ⟨rfl, rfl, rfl, rfl, rfl, rfl, trivial⟩)
                      · replace H := H.2 hbr8
                        replace hE := hE.bool (b := false) (t := 58) rfl (decide_eq_false hbr8)
                        refine hE.qoff (by rfl) (by rfl) (by decide) (fun a hE => ?_)
                        refine hE.qoff (by rfl) (by rfl) (by decide) (fun a hE => ?_)
                        refine hE.qoff (by rfl) (by rfl) (by decide) (fun a hE => ?_)
                        refine hE.qoff (by rfl) (by rfl) (by decide) (fun a hE => ?_)
                        refine hE.qoff (by rfl) (by rfl) (by decide) (fun a hE => ?_)
                        refine hE.qoff (by rfl) (by rfl) (by decide) (fun a hE => ?_)
                        refine hE.qoff (by rfl) (by rfl) (by decide) (fun a hE => ?_)
                        refine hE.qoff (by rfl) (by rfl) (by decide) (fun a hE => ?_)
                        refine hE.qoff (by rfl) (by rfl) (by decide) (fun a hE => ?_)
                        refine hE.qon (by rfl) (by rfl) ?_
                        refine hE.qpur (X.pickF hE rfl rfl) fun a hE => ?_
                        exact hr8 false _ H (hE.weak ⟨rfl, rfl, rfl, rfl, rfl, rfl, trivial⟩)
              · rcases Bool.eq_false_or_eq_true (x46) with hbr6 | hbr6
                · replace H := H.1 hbr6
                  replace hE := hE.bool (b := true) (t := 47) rfl (hbr6)
                  refine hE.on (by rfl) (by rfl) ?_
                  refine hE.op (X.fieldAddr hE rfl) H fun x48 w a H hE => ?_
                  refine hE.on (by rfl) (by rfl) ?_
                  refine hE.op (X.load hE rfl) H fun x49 w a H hE => ?_
                  refine hE.on (by rfl) (by rfl) ?_
                  refine hE.purR (fun w => X.lenS hE Try.underlying9 rfl) fun a hE => ?_
                  refine hE.on (by rfl) (by rfl) ?_
                  refine hE.pur (X.leI hE rfl rfl) fun a hE => ?_
                  refine hE.pur (X.pickT hE rfl rfl) fun a hE => ?_
                  exact hr6 (decide ((x49.size : Int) ≤ 512)) _ _ H (hE.weak ⟨rfl, rfl, rfl, rfl, rfl, rfl, rfl, trivial⟩)
                · replace H := H.2 hbr6
                  replace hE := hE.bool (b := false) (t := 47) rfl (hbr6)
                  refine hE.off (by rfl) (by rfl) (by decide) (fun a hE => ?_)
                  refine hE.off (by rfl) (by rfl) (by decide) (fun a hE => ?_)
                  refine hE.off (by rfl) (by rfl) (by decide) (fun a hE => ?_)
                  refine hE.off (by rfl) (by rfl) (by decide) (fun a hE => ?_)
                  refine hE.pur (X.pickF hE rfl rfl) fun a hE => ?_
                  exact hr6 false _ _ H (hE.weak ⟨rfl, rfl, rfl, rfl, rfl, rfl, rfl, trivial⟩)
            · rcases Bool.eq_false_or_eq_true (x40) with hbr5 | hbr5
              · replace H := H.1 hbr5
                replace hE := hE.bool (b := true) (t := 41) rfl (hbr5)
                refine hE.on (by rfl) (by rfl) ?_
                refine hE.op (X.fieldAddr hE rfl) H fun x42 w a H hE => ?_
                refine hE.on (by rfl) (by rfl) ?_
                refine hE.op (X.load hE rfl) H fun x43 w a H hE => ?_
                refine hE.on (by rfl) (by rfl) ?_
                refine hE.purR (fun w => X.lenS hE Try.underlying9 rfl) fun a hE => ?_
                refine hE.on (by rfl) (by rfl) ?_
                refine hE.pur (X.leI hE rfl rfl) fun a hE => ?_
                refine hE.pur (X.pickT hE rfl rfl) fun a hE => ?_
                exact hr5 (decide ((x43.size : Int) ≤ 256)) _ _ H (hE.weak ⟨rfl, rfl, rfl, rfl, rfl, rfl, rfl, trivial⟩)
              · replace H := H.2 hbr5
                replace hE := hE.bool (b := false) (t := 41) rfl (hbr5)
                refine hE.off (by rfl) (by rfl) (by decide) (fun a hE => ?_)
                refine hE.off (by rfl) (by rfl) (by decide) (fun a hE => ?_)
                refine hE.off (by rfl) (by rfl) (by decide) (fun a hE => ?_)
                refine hE.off (by rfl) (by rfl) (by decide) (fun a hE => ?_)
                refine hE.pur (X.pickF hE rfl rfl) fun a hE => ?_
                exact hr5 false _ _ H (hE.weak ⟨rfl, rfl, rfl, rfl, rfl, rfl, rfl, trivial⟩)
          · rcases Bool.eq_false_or_eq_true (x30) with hbr4 | hbr4
            · replace H := H.1 hbr4
              replace hE := hE.bool (b := true) (t := 31) rfl (hbr4)
              refine hE.on (by rfl) (by rfl) ?_
              refine hE.op (X.fieldAddr hE rfl) H fun x32 w a H hE => ?_
              refine hE.on (by rfl) (by rfl) ?_
              refine hE.op (X.load hE rfl) H fun x33 w a H hE => ?_
              refine hE.on (by rfl) (by rfl) ?_
              refine hE.pur (X.not hE rfl) fun a hE => ?_
              refine hE.on (by rfl) (by rfl) ?_
              refine hE.pur (X.move hE rfl) fun a hE => ?_
              refine WL.join (ds := []) (N := 71) (σ := Bool) (fun s => [(39, (.bool s)), (1, (.pointer x1)), (3, (.int .i64 x18)), (4, (.pointer x4)), (16, (Sl.v x16)), (17, (.int .i64 (x16.len : Int))), (18, (.int .i64 x18)), (31, (.bool true))]) (fun s w => V_mvcc_Check_r9 Ret x1 x18 Kl2 x4 s w) 4 ?_ (fun hr9 => ?_)
              · intro x39 w a H hE
                try dsimp only at H hE
                unfold V_mvcc_Check_r9 at H
                refine hE.pur (X.pickT hE rfl rfl) fun a hE => ?_
                exact hr4 x39 _ _ H (hE.weak ⟨rfl, rfl, rfl, rfl, rfl, rfl, rfl, trivial⟩)
              · rcases Bool.eq_false_or_eq_true ((!x33)) with hbr9 | hbr9
                · replace H := H.1 hbr9
                  replace hE := hE.bool (b := true) (t := 35) rfl (hbr9)
                  refine hE.off (by rfl) (by rfl) (by decide) (fun a hE => ?_)
                  refine hE.off (by rfl) (by rfl) (by decide) (fun a hE => ?_)
                  refine hE.off (by rfl) (by rfl) (by decide) (fun a hE => ?_)
                  refine hE.on (by rfl) (by rfl) ?_
                  refine hE.pur (X.pickT hE rfl rfl) fun a hE => ?_
                  exact hr9 true _ _ H (hE.weak ⟨rfl, rfl, rfl, rfl, rfl, rfl, rfl, rfl, trivial⟩)
                · replace H := H.2 hbr9
                  replace hE := hE.bool (b := false) (t := 35) rfl (hbr9)
                  refine hE.on (by rfl) (by rfl) ?_
                  refine hE.op (X.fieldAddr hE rfl) H fun x36 w a H hE => ?_
                  refine hE.on (by rfl) (by rfl) ?_
                  refine hE.op (X.load hE rfl) H fun x37 w a H hE => ?_
                  refine hE.on (by rfl) (by rfl) ?_
                  refine hE.pur (X.eqS hE rfl rfl) fun a hE => ?_
                  refine hE.on (by rfl) (by rfl) ?_
                  refine hE.pur (X.pickF hE rfl rfl) fun a hE => ?_
                  exact hr9 (decide (x37 = (ByteArray.mk #[]))) _ _ H (hE.weak ⟨rfl, rfl, rfl, rfl, rfl, rfl, rfl, rfl, trivial⟩)
            · replace H := H.2 hbr4
              replace hE := hE.bool (b := false) (t := 31) rfl (hbr4)
              refine hE.off (by rfl) (by rfl) (by decide) (fun a hE => ?_)
              refine hE.off (by rfl) (by rfl) (by decide) (fun a hE => ?_)
              refine hE.off (by rfl) (by rfl) (by decide) (fun a hE => ?_)
              refine hE.off (by rfl) (by rfl) (by decide) (fun a hE => ?_)
              refine hE.offU (by rfl) (by rfl) (fun a hE => ?_)
              refine hE.offU (by rfl) (by rfl) (fun a hE => ?_)
              refine hE.offU (by rfl) (by rfl) (fun a hE => ?_)
              refine hE.off (by rfl) (by rfl) (by decide) (fun a hE => ?_)
              refine hE.pur (X.pickF hE rfl rfl) fun a hE => ?_
              exact hr4 false _ _ H (hE.weak ⟨rfl, rfl, rfl, rfl, rfl, rfl, rfl, trivial⟩)
        · rcases Classical.em ((1 ≤ x24)) with hbr3 | hbr3
          · replace H := H.1 hbr3
            replace hE := hE.bool (b := true) (t := 26) rfl (decide_eq_true hbr3)
            refine hE.on (by rfl) (by rfl) ?_
            refine hE.op (X.fieldAddr hE rfl) H fun x27 w a H hE => ?_
            refine hE.on (by rfl) (by rfl) ?_
            refine hE.op (X.load hE rfl) H fun x28 w a H hE => ?_
            refine hE.on (by rfl) (by rfl) ?_
            refine hE.pur (X.leI hE rfl rfl) fun a hE => ?_
            refine hE.pur (X.pickT hE rfl rfl) fun a hE => ?_
            exact hr3 (decide (x28 ≤ 2305843009213693952)) _ _ H (hE.weak ⟨rfl, rfl, rfl, rfl, rfl, rfl, rfl, trivial⟩)
          · replace H := H.2 hbr3
            replace hE := hE.bool (b := false) (t := 26) rfl (decide_eq_false hbr3)
            refine hE.off (by rfl) (by rfl) (by decide) (fun a hE => ?_)
            refine hE.off (by rfl) (by rfl) (by decide) (fun a hE => ?_)
            refine hE.off (by rfl) (by rfl) (by decide) (fun a hE => ?_)
            refine hE.pur (X.pickF hE rfl rfl) fun a hE => ?_
            exact hr3 false _ _ H (hE.weak ⟨rfl, rfl, rfl, rfl, rfl, rfl, rfl, trivial⟩)
      · replace H := H.2 hc
        refine C.exit (te (te (be (tn ?_))))
        refine C.seq ?_
        refine C.region ?_
        refine hE.pur (X.assign hE rfl) fun a hE => ?_
        refine C.nil (tn ?_)
        exact C.ret (C.ret1 hE rfl rfl ⟨_, rfl, H⟩)
  · rcases Classical.em ((4096 < (x7.len : Int))) with hbr1 | hbr1
    · replace H := H.1 hbr1
      replace hE := hE.bool (b := true) (t := 10) rfl (decide_eq_true hbr1)
      refine hE.off (by rfl) (by rfl) (by decide) (fun a hE => ?_)
      refine hE.off (by rfl) (by rfl) (by decide) (fun a hE => ?_)
      refine hE.off (by rfl) (by rfl) (by decide) (fun a hE => ?_)
      refine hE.pur (X.pickT hE rfl rfl) fun a hE => ?_
      exact hr1 true _ _ H (hE.weak ⟨rfl, rfl, trivial⟩)
    · replace H := H.2 hbr1
      replace hE := hE.bool (b := false) (t := 10) rfl (decide_eq_false hbr1)
      refine hE.on (by rfl) (by rfl) ?_
      refine hE.op (X.fieldAddr hE rfl) H fun x11 w a H hE => ?_
      refine hE.on (by rfl) (by rfl) ?_
      refine hE.op (X.load hE rfl) H fun x12 w a H hE => ?_
      refine hE.on (by rfl) (by rfl) ?_
      refine hE.pur (X.gtI hE rfl rfl) fun a hE => ?_
      refine hE.pur (X.pickF hE rfl rfl) fun a hE => ?_
      exact hr1 (decide (2305843009213693952 < x12)) _ _ H (hE.weak ⟨rfl, rfl, trivial⟩)
/-! ### lading mvcc.Get: function 18 -/
def V_mvcc_Get_r1 (Ret : ByteArray → Bool → Int → World → Prop) (x27 : ByteArray) (x33 : Bool) (w : World) : Prop :=
  nextB w (fun w => Ret x27 x33 0 w)
def V_mvcc_Get (x0 : T_api_Versions) (x1 : ByteArray) (x2 : Int) (w : World) (Ret : ByteArray → Bool → Int → World → Prop) : Prop :=
  opE Try.prog Value.pointer (Instr.box 25 (T_api_Versions.v x0)) w (fun x3 w => opE Try.prog T_api_Versions.v (Instr.loadAt 25 (.pointer x3)) w (fun x12 w => Cl Try.prog 37 [(T_api_Versions.v x12), (.int .u64 x2)].toArray w (fun e w => ∃ (r : Int), e = .returned (.int .i64 r) ∧ (((r ≠ 0) → (Ret (ByteArray.mk #[]) false r w)) ∧ (¬ (r ≠ 0) → (opE Try.prog Value.pointer (Instr.fieldAt 25 (.pointer x3) 0) w (fun x19 w => opE Try.prog Sl.v (Instr.loadAt 22 (.pointer x19)) w (fun x20 w => Cl Try.prog 36 [(Sl.v x20), (.string x1), (.int .u64 x2)].toArray w (fun e w => ∃ (r_1 : T_api_Version) (r_2 : Bool), e = .returned (.tuple [(T_api_Version.v r_1), (.bool r_2)].toArray) ∧ (opE Try.prog Value.pointer (Instr.alloc 37 true (.tuple #[])) w (fun x10 w => opU Try.prog (Instr.storeAt 37 (.pointer x10) (T_api_Version.v r_1)) w (fun w => opB Try.prog Value.pointer (Instr.fieldAt 37 (.pointer x10) 2) w (fun x26 => opB Try.prog Value.string (Instr.loadAt 9 (.pointer x26)) w (fun x27 => (r_2 = true → (opB Try.prog Value.pointer (Instr.fieldAt 37 (.pointer x10) 3) w (fun x30 => opB Try.prog Value.bool (Instr.loadAt 4 (.pointer x30)) w (fun x31 => V_mvcc_Get_r1 Ret x27 (!x31) w)))) ∧ (r_2 = false → (V_mvcc_Get_r1 Ret x27 false w))))))))))))))))
set_option maxRecDepth 100000 in
theorem L1_mvcc_Get (x0 : T_api_Versions) (x1 : ByteArray) (x2 : Int) (w : World) (Ret : ByteArray → Bool → Int → World → Prop) (H : V_mvcc_Get x0 x1 x2 w Ret) : Cl Try.prog 18 [(T_api_Versions.v x0), (.string x1), (.int .u64 x2)].toArray w (fun e w' => ∃ (r0 : ByteArray) (r1 : Bool) (r2 : Int), e = .returned (.tuple [(.string r0), (.bool r1), (.int .i64 r2)].toArray) ∧ Ret r0 r1 r2 w') := by
  unfold V_mvcc_Get at H
  refine C.enter 34 (zipE 0 [(T_api_Versions.v x0), (.string x1), (.int .u64 x2)]) Try.func18 rfl rfl (by rfl) rfl ?_
  intro a hE
  replace hE : Sat [] 34 [(0, (T_api_Versions.v x0)), (1, (.string x1)), (2, (.int .u64 x2))] a := hE
  refine C.seq ?_
  refine C.region ?_
  refine hE.op (X.box hE rfl) H fun x3 w a H hE => ?_
  refine hE.pur (X.assign hE rfl) fun a hE => ?_
  refine hE.pur (X.assign hE rfl) fun a hE => ?_
  refine hE.pur (X.assign hE rfl) fun a hE => ?_
  refine C.nil (tn ?_)
  refine C.seq ?_
  refine C.seq ?_
  refine C.region ?_
  refine hE.op (X.load hE rfl) H fun x12 w a H hE => ?_
  refine hE.pur (X.move hE rfl) fun a hE => ?_
  refine hE.call (X.callF hE ent37 rfl rfl) H fun e w H => ?_
  obtain ⟨r, rfl, H⟩ := H
  refine ⟨_, rfl, fun a hE => ?_⟩
  refine hE.pur (X.assign hE rfl) fun a hE => ?_
  refine C.nil (tn ?_)
  refine C.seq ?_
  refine C.region ?_
  refine hE.pur (X.move hE rfl) fun a hE => ?_
  refine hE.pur (X.neI hE rfl rfl) fun a hE => ?_
  refine C.nil (tn ?_)
  refine C.condP hE rfl (fun hc => ?_) (fun hc => ?_)
  · replace H := H.1 hc
    refine C.seq ?_
    refine C.region ?_
    refine hE.pur (X.move hE rfl) fun a hE => ?_
    refine hE.pur (X.assign hE rfl) fun a hE => ?_
    refine hE.pur (X.assign hE rfl) fun a hE => ?_
    refine hE.pur (X.assign hE rfl) fun a hE => ?_
    refine C.nil (tn ?_)
    exact C.ret (tr (C.ret3 hE rfl rfl rfl rfl ⟨_, _, _, rfl, H⟩))
  · replace H := H.2 hc
    refine C.skip (tn ?_)
    refine C.seq ?_
    refine C.region ?_
    refine hE.op (X.fieldAddr hE rfl) H fun x19 w a H hE => ?_
    refine hE.op (X.load hE rfl) H fun x20 w a H hE => ?_
    refine hE.pur (X.move hE rfl) fun a hE => ?_
    refine hE.pur (X.move hE rfl) fun a hE => ?_
    refine hE.call (X.callF hE ent36 rfl rfl) H fun e w H => ?_
    obtain ⟨r_1, r_2, rfl, H⟩ := H
    refine ⟨_, rfl, fun a hE => ?_⟩
    refine hE.pur (X.move hE rfl) fun a hE => ?_
    refine hE.pur (X.extract hE rfl rfl) fun a hE => ?_
    refine hE.pur (X.extract hE rfl rfl) fun a hE => ?_
    refine hE.op (X.alloc) H fun x10 w a H hE => ?_
    refine hE.opu (X.store hE rfl rfl) H fun w a H hE => ?_
    refine hE.pur (X.assign hE rfl) fun a hE => ?_
    refine C.nil (tn ?_)
    refine C.seq ?_
    refine C.draw (by kernel_rfl) (by kernel_rfl) ?_
    refine hE.qop (X.fieldAddr hE rfl) H fun x26 a H hE => ?_
    refine hE.qop (X.load hE rfl) H fun x27 a H hE => ?_
    refine hE.qpur (X.move hE rfl) fun a hE => ?_
    refine hE.qpur (X.move hE rfl) fun a hE => ?_
    refine WQ.join (ds := []) (N := 34) (σ := Bool) (fun s => [(33, (.bool s)), (27, (.string x27))]) (fun s => V_mvcc_Get_r1 Ret x27 s w) 4 ?_ (fun hr1 => ?_)
    · intro x33 a H hE
      try dsimp only at H hE
      unfold V_mvcc_Get_r1 at H
      refine hE.qpur (X.assign hE rfl) fun a hE => ?_
      refine hE.qpur (X.assign hE rfl) fun a hE => ?_
      refine hE.qpur (X.assign hE rfl) fun a hE => ?_
      refine C.qnil (fun w hB => ?_)
      replace H := H w hB
      refine (tn ?_)
      exact C.ret (C.ret3 hE rfl rfl rfl rfl ⟨_, _, _, rfl, H⟩)
    · rcases Bool.eq_false_or_eq_true (r_2) with hbr1 | hbr1
      · replace H := H.1 hbr1
        replace hE := hE.bool (b := true) (t := 29) rfl (hbr1)
        refine hE.qon (by rfl) (by rfl) ?_
        refine hE.qop (X.fieldAddr hE rfl) H fun x30 a H hE => ?_
        refine hE.qon (by rfl) (by rfl) ?_
        refine hE.qop (X.load hE rfl) H fun x31 a H hE => ?_
        refine hE.qon (by rfl) (by rfl) ?_
        refine hE.qpur (X.not hE rfl) fun a hE => ?_
        refine hE.qpur (X.pickT hE rfl rfl) fun a hE => ?_
        exact hr1 (!x31) _ H (hE.weak ⟨rfl, rfl, trivial⟩)
      · replace H := H.2 hbr1
        replace hE := hE.bool (b := false) (t := 29) rfl (hbr1)
        refine hE.qoff (by rfl) (by rfl) (by decide) (fun a hE => ?_)
        refine hE.qoff (by rfl) (by rfl) (by decide) (fun a hE => ?_)
        refine hE.qoff (by rfl) (by rfl) (by decide) (fun a hE => ?_)
        refine hE.qpur (X.pickF hE rfl rfl) fun a hE => ?_
        exact hr1 false _ H (hE.weak ⟨rfl, rfl, trivial⟩)
/-! ### lading mvcc.Scan: function 19 -/
def V_mvcc_Scan_r3 (x11 : Option Addr) (x25 : ByteArray) (Gf1 : World → Prop) (x14 : Option Addr) (x51 : Bool) (w : World) : Prop :=
  (x51 = true → (opE Try.prog Sl.v (Instr.loadAt 41 (.pointer x11)) w (fun x52 w => opE Try.prog Value.pointer (Instr.fieldAt 37 (.pointer x14) 2) w (fun x54 w => opE Try.prog Value.string (Instr.loadAt 9 (.pointer x54)) w (fun x55 w => opE Try.prog T_api_Pair.v (Instr.build 45 [(0, (.string x25)), (1, (.string x55))].toArray) w (fun x56 w => opE Try.prog Sl.v (Instr.buildSlice 41 1 [(0, (T_api_Pair.v x56))].toArray) w (fun x57 w => opE Try.prog Sl.v (Builtin.append_ #[41, 41] 41 [(Sl.v x52), (Sl.v x57)].toArray) w (fun x58 w => opU Try.prog (Instr.storeAt 41 (.pointer x11) (Sl.v x58)) w (fun w => Gf1 w))))))))) ∧ (x51 = false → (Gf1 w))
def V_mvcc_Scan_r2 (x7 : Option Addr) (x11 : Option Addr) (x25 : ByteArray) (x26 : Sl) (Gf1 : World → Prop) (x38 : Bool) (w : World) : Prop :=
  (x38 = true → (Gf1 w)) ∧ (x38 = false → (opE Try.prog (Value.int .u64) (Instr.loadAt 23 (.pointer x7)) w (fun x42 w => Cl Try.prog 36 [(Sl.v x26), (.string x25), (.int .u64 x42)].toArray w (fun e w => ∃ (r_2 : T_api_Version) (r_3 : Bool), e = .returned (.tuple [(T_api_Version.v r_2), (.bool r_3)].toArray) ∧ (opE Try.prog Value.pointer (Instr.alloc 37 true (.tuple #[])) w (fun x14 w => opU Try.prog (Instr.storeAt 37 (.pointer x14) (T_api_Version.v r_2)) w (fun w => (r_3 = true → (opE Try.prog Value.pointer (Instr.fieldAt 37 (.pointer x14) 3) w (fun x48 w => opE Try.prog Value.bool (Instr.loadAt 4 (.pointer x48)) w (fun x49 w => V_mvcc_Scan_r3 x11 x25 Gf1 x14 (!x49) w)))) ∧ (r_3 = false → (V_mvcc_Scan_r3 x11 x25 Gf1 x14 false w)))))))))
def V_mvcc_Scan_r4 (x7 : Option Addr) (x11 : Option Addr) (x25 : ByteArray) (x26 : Sl) (Gf1 : World → Prop) (x37 : Bool) (w : World) : Prop :=
  V_mvcc_Scan_r2 x7 x11 x25 x26 Gf1 x37 w
def V_mvcc_Scan_f1b (x5 : Option Addr) (x6 : Option Addr) (x7 : Option Addr) (x11 : Option Addr) (x25 : ByteArray) (x26 : Sl) (w : World) (Gf1 : World → Prop) (Lf1 : World → Prop) : Prop :=
  opE Try.prog Value.string (Instr.loadAt 9 (.pointer x5)) w (fun x28 w => ((sLt x25 x28) = true → (V_mvcc_Scan_r2 x7 x11 x25 x26 Gf1 true w)) ∧ ((sLt x25 x28) = false → (opE Try.prog Value.string (Instr.loadAt 9 (.pointer x6)) w (fun x31 w => ((x31 ≠ (ByteArray.mk #[])) → (opE Try.prog Value.string (Instr.loadAt 9 (.pointer x6)) w (fun x35 w => V_mvcc_Scan_r4 x7 x11 x25 x26 Gf1 (!sLt x25 x35) w))) ∧ (¬ (x31 ≠ (ByteArray.mk #[])) → (V_mvcc_Scan_r4 x7 x11 x25 x26 Gf1 false w))))))
def V_mvcc_Scan (x0 : T_api_Versions) (x1 : ByteArray) (x2 : ByteArray) (x3 : Int) (w : World) (Ret : Sl → Int → World → Prop) : Prop :=
  opE Try.prog Value.pointer (Instr.box 25 (T_api_Versions.v x0)) w (fun x4 w => opE Try.prog Value.pointer (Instr.box 9 (.string x1)) w (fun x5 w => opE Try.prog Value.pointer (Instr.box 9 (.string x2)) w (fun x6 w => opE Try.prog Value.pointer (Instr.box 23 (.int .u64 x3)) w (fun x7 w => opE Try.prog T_api_Versions.v (Instr.loadAt 25 (.pointer x4)) w (fun x16 w => opE Try.prog (Value.int .u64) (Instr.loadAt 23 (.pointer x7)) w (fun x17 w => Cl Try.prog 37 [(T_api_Versions.v x16), (.int .u64 x17)].toArray w (fun e w => ∃ (r : Int), e = .returned (.int .i64 r) ∧ (((r ≠ 0) → (Ret Sl.none r w)) ∧ (¬ (r ≠ 0) → (opE Try.prog Value.pointer (Instr.alloc 41 true (.tuple #[])) w (fun x11 w => opE Try.prog Value.pointer (Instr.fieldAt 25 (.pointer x4) 0) w (fun x22 w => opE Try.prog Sl.v (Instr.loadAt 22 (.pointer x22)) w (fun x23 w => Cl Try.prog 35 [(Sl.v x23)].toArray w (fun e w => ∃ (r_1 : Value), e = .returned r_1 ∧ (RangeV2 Try.prog r_1 Value.string Sl.v w (V_mvcc_Scan_f1b x5 x6 x7 x11) (fun D w => opE Try.prog Sl.v (Instr.loadAt 41 (.pointer x11)) w (fun x59 w => afterM D w (fun w => Ret x59 0 w))) (fun D w => True))))))))))))))))
set_option maxRecDepth 100000 in
theorem L1_mvcc_Scan (x0 : T_api_Versions) (x1 : ByteArray) (x2 : ByteArray) (x3 : Int) (w : World) (Ret : Sl → Int → World → Prop) (H : V_mvcc_Scan x0 x1 x2 x3 w Ret) : Cl Try.prog 19 [(T_api_Versions.v x0), (.string x1), (.string x2), (.int .u64 x3)].toArray w (fun e w' => ∃ (r0 : Sl) (r1 : Int), e = .returned (.tuple [(Sl.v r0), (.int .i64 r1)].toArray) ∧ Ret r0 r1 w') := by
  unfold V_mvcc_Scan at H
  refine C.enterM 60 (zipE 0 [(T_api_Versions.v x0), (.string x1), (.string x2), (.int .u64 x3)]) Try.func19 rfl rfl (by rfl) rfl ?_
  intro a hE
  replace hE : Sat [] 60 [(0, (T_api_Versions.v x0)), (1, (.string x1)), (2, (.string x2)), (3, (.int .u64 x3))] a := hE
  refine C.seq ?_
  refine C.region ?_
  refine hE.op (X.box hE rfl) H fun x4 w a H hE => ?_
  refine hE.op (X.box hE rfl) H fun x5 w a H hE => ?_
  refine hE.op (X.box hE rfl) H fun x6 w a H hE => ?_
  refine hE.op (X.box hE rfl) H fun x7 w a H hE => ?_
  refine hE.pur (X.assign hE rfl) fun a hE => ?_
  refine hE.pur (X.assign hE rfl) fun a hE => ?_
  refine C.nil (tn ?_)
  refine C.seq ?_
  refine C.seq ?_
  refine C.region ?_
  refine hE.op (X.load hE rfl) H fun x16 w a H hE => ?_
  refine hE.op (X.load hE rfl) H fun x17 w a H hE => ?_
  refine hE.call (X.callF hE ent37 rfl rfl) H fun e w H => ?_
  obtain ⟨r, rfl, H⟩ := H
  refine ⟨_, rfl, fun a hE => ?_⟩
  refine hE.pur (X.assign hE rfl) fun a hE => ?_
  refine C.nil (tn ?_)
  refine C.seq ?_
  refine C.region ?_
  refine hE.pur (X.move hE rfl) fun a hE => ?_
  refine hE.pur (X.neI hE rfl rfl) fun a hE => ?_
  refine C.nil (tn ?_)
  refine C.condP hE rfl (fun hc => ?_) (fun hc => ?_)
  · replace H := H.1 hc
    refine C.seq ?_
    refine C.region ?_
    refine hE.pur (X.move hE rfl) fun a hE => ?_
    refine hE.pur (X.assign hE rfl) fun a hE => ?_
    refine hE.pur (X.assign hE rfl) fun a hE => ?_
    refine C.nil (tn ?_)
    exact C.ret (tr (C.retM0 hE (rs := [.tmp 8, .tmp 9]) (vs := [(Sl.v Sl.none), (.int .i64 r)]) rfl ⟨rfl, rfl, trivial⟩ ⟨_, _, rfl, H⟩))
  · replace H := H.2 hc
    refine C.skip (tn ?_)
    refine C.seq ?_
    refine C.region ?_
    refine hE.op (X.alloc) H fun x11 w a H hE => ?_
    refine C.nil (tn ?_)
    refine C.seq ?_
    refine C.seq ?_
    refine C.region ?_
    refine hE.op (X.fieldAddr hE rfl) H fun x22 w a H hE => ?_
    refine hE.op (X.load hE rfl) H fun x23 w a H hE => ?_
    refine hE.call (X.callF hE ent35 rfl rfl) H fun e w H => ?_
    obtain ⟨r_1, rfl, H⟩ := H
    refine ⟨_, rfl, fun a hE => ?_⟩
    refine C.nil (tn ?_)
    refine C.block ?_
    obtain ⟨α, f, f', Kp, S, Sp, Num, I, Ir, hR, hnew, hbd, hdn, hst⟩ := H
    refine C.range2m f f' Value.string Sl.v none hE rfl hR hnew (by rfl) (by rfl) (by rfl) (by rfl) (by rfl) (by rfl) ?_ ?_ ?_
    · intro l pre z w a h3 h4 hE
      have H := hbd pre z w h3 h4
      generalize (fun (W' : World) => KeepsFrom _ w W' ∧ Kp w W' ∧ I (pre ++ [z]) W') = Gf1 at H ⊢
      generalize (fun (W' : World) => KeepsFrom _ w W' ∧ Ir (pre ++ [z]) W') = Lf1 at H ⊢
      generalize f z = x25 at H hE
      generalize f' z = x26 at H hE
      unfold V_mvcc_Scan_f1b at H
      refine C.block ?_
      refine C.seq ?_
      refine C.seq ?_
      refine C.region ?_
      refine hE.pur (X.move hE rfl) fun a hE => ?_
      refine hE.op (X.load hE rfl) H fun x28 w a H hE => ?_
      refine hE.pur (X.ltS hE rfl rfl) fun a hE => ?_
      refine hE.pur (X.move hE rfl) fun a hE => ?_
      refine WL.join (ds := []) (N := 60) (σ := Bool) (fun s => [(38, (.bool s)), (7, (.pointer x7)), (11, (.pointer x11)), (12, (.string x25)), (13, (Sl.v x26))]) (fun s w => V_mvcc_Scan_r2 x7 x11 x25 x26 Gf1 s w) 8 ?_ (fun hr2 => ?_)
      · intro x38 w a H hE
        try dsimp only at H hE
        unfold V_mvcc_Scan_r2 at H
        refine C.nil (tn ?_)
        refine C.condB hE rfl (fun hc => ?_) (fun hc => ?_)
        · replace H := H.1 hc
          exact C.exit (te (be H))
        · replace H := H.2 hc
          refine C.skip (tn ?_)
          refine C.seq ?_
          refine C.region ?_
          refine hE.pur (X.move hE rfl) fun a hE => ?_
          refine hE.pur (X.move hE rfl) fun a hE => ?_
          refine hE.op (X.load hE rfl) H fun x42 w a H hE => ?_
          refine hE.call (X.callF hE ent36 rfl rfl) H fun e w H => ?_
          obtain ⟨r_2, r_3, rfl, H⟩ := H
          refine ⟨_, rfl, fun a hE => ?_⟩
          refine hE.pur (X.move hE rfl) fun a hE => ?_
          refine hE.pur (X.extract hE rfl rfl) fun a hE => ?_
          refine hE.pur (X.extract hE rfl rfl) fun a hE => ?_
          refine hE.op (X.alloc) H fun x14 w a H hE => ?_
          refine hE.opu (X.store hE rfl rfl) H fun w a H hE => ?_
          refine hE.pur (X.assign hE rfl) fun a hE => ?_
          refine C.nil (tn ?_)
          refine C.seq ?_
          refine C.region ?_
          refine hE.pur (X.move hE rfl) fun a hE => ?_
          refine hE.pur (X.move hE rfl) fun a hE => ?_
          refine WL.join (ds := []) (N := 60) (σ := Bool) (fun s => [(51, (.bool s)), (11, (.pointer x11)), (12, (.string x25)), (14, (.pointer x14))]) (fun s w => V_mvcc_Scan_r3 x11 x25 Gf1 x14 s w) 4 ?_ (fun hr3 => ?_)
          · intro x51 w a H hE
            try dsimp only at H hE
            unfold V_mvcc_Scan_r3 at H
            refine C.nil (tn ?_)
            refine C.condB hE rfl (fun hc => ?_) (fun hc => ?_)
            · replace H := H.1 hc
              refine C.region ?_
              refine hE.op (X.load hE rfl) H fun x52 w a H hE => ?_
              refine hE.pur (X.move hE rfl) fun a hE => ?_
              refine hE.op (X.fieldAddr hE rfl) H fun x54 w a H hE => ?_
              refine hE.op (X.load hE rfl) H fun x55 w a H hE => ?_
              refine hE.op (X.build hE rfl) H fun x56 w a H hE => ?_
              refine hE.op (X.buildSlice hE rfl) H fun x57 w a H hE => ?_
              refine hE.op (X.append hE rfl) H fun x58 w a H hE => ?_
              refine hE.opu (X.store hE rfl rfl) H fun w a H hE => ?_
              exact C.nil (bn H)
            · replace H := H.2 hc
              exact C.skip (bn H)
          · rcases Bool.eq_false_or_eq_true (r_3) with hbr3 | hbr3
            · replace H := H.1 hbr3
              replace hE := hE.bool (b := true) (t := 47) rfl (hbr3)
              refine hE.on (by rfl) (by rfl) ?_
              refine hE.op (X.fieldAddr hE rfl) H fun x48 w a H hE => ?_
              refine hE.on (by rfl) (by rfl) ?_
              refine hE.op (X.load hE rfl) H fun x49 w a H hE => ?_
              refine hE.on (by rfl) (by rfl) ?_
              refine hE.pur (X.not hE rfl) fun a hE => ?_
              refine hE.pur (X.pickT hE rfl rfl) fun a hE => ?_
              exact hr3 (!x49) _ _ H (hE.weak ⟨rfl, rfl, rfl, rfl, trivial⟩)
            · replace H := H.2 hbr3
              replace hE := hE.bool (b := false) (t := 47) rfl (hbr3)
              refine hE.off (by rfl) (by rfl) (by decide) (fun a hE => ?_)
              refine hE.off (by rfl) (by rfl) (by decide) (fun a hE => ?_)
              refine hE.off (by rfl) (by rfl) (by decide) (fun a hE => ?_)
              refine hE.pur (X.pickF hE rfl rfl) fun a hE => ?_
              exact hr3 false _ _ H (hE.weak ⟨rfl, rfl, rfl, rfl, trivial⟩)
      · rcases Bool.eq_false_or_eq_true ((sLt x25 x28)) with hbr2 | hbr2
        · replace H := H.1 hbr2
          replace hE := hE.bool (b := true) (t := 30) rfl (hbr2)
          refine hE.off (by rfl) (by rfl) (by decide) (fun a hE => ?_)
          refine hE.off (by rfl) (by rfl) (by decide) (fun a hE => ?_)
          refine hE.off (by rfl) (by rfl) (by decide) (fun a hE => ?_)
          refine hE.offU (by rfl) (by rfl) (fun a hE => ?_)
          refine hE.offU (by rfl) (by rfl) (fun a hE => ?_)
          refine hE.offU (by rfl) (by rfl) (fun a hE => ?_)
          refine hE.off (by rfl) (by rfl) (by decide) (fun a hE => ?_)
          refine hE.pur (X.pickT hE rfl rfl) fun a hE => ?_
          exact hr2 true _ _ H (hE.weak ⟨rfl, rfl, rfl, rfl, rfl, trivial⟩)
        · replace H := H.2 hbr2
          replace hE := hE.bool (b := false) (t := 30) rfl (hbr2)
          refine hE.on (by rfl) (by rfl) ?_
          refine hE.op (X.load hE rfl) H fun x31 w a H hE => ?_
          refine hE.on (by rfl) (by rfl) ?_
          refine hE.pur (X.neS hE rfl rfl) fun a hE => ?_
          refine hE.on (by rfl) (by rfl) ?_
          refine hE.pur (X.move hE rfl) fun a hE => ?_
          refine WL.join (ds := []) (N := 60) (σ := Bool) (fun s => [(37, (.bool s)), (7, (.pointer x7)), (11, (.pointer x11)), (12, (.string x25)), (13, (Sl.v x26)), (30, (.bool false))]) (fun s w => V_mvcc_Scan_r4 x7 x11 x25 x26 Gf1 s w) 4 ?_ (fun hr4 => ?_)
          · intro x37 w a H hE
            try dsimp only at H hE
            unfold V_mvcc_Scan_r4 at H
            refine hE.pur (X.pickF hE rfl rfl) fun a hE => ?_
            exact hr2 x37 _ _ H (hE.weak ⟨rfl, rfl, rfl, rfl, rfl, trivial⟩)
          · rcases Classical.em ((x31 ≠ (ByteArray.mk #[]))) with hbr4 | hbr4
            · replace H := H.1 hbr4
              replace hE := hE.bool (b := true) (t := 33) rfl (decide_eq_true hbr4)
              refine hE.on (by rfl) (by rfl) ?_
              refine hE.pur (X.move hE rfl) fun a hE => ?_
              refine hE.on (by rfl) (by rfl) ?_
              refine hE.op (X.load hE rfl) H fun x35 w a H hE => ?_
              refine hE.on (by rfl) (by rfl) ?_
              refine hE.pur (X.geS hE rfl rfl) fun a hE => ?_
              refine hE.on (by rfl) (by rfl) ?_
              refine hE.pur (X.pickT hE rfl rfl) fun a hE => ?_
              exact hr4 (!sLt x25 x35) _ _ H (hE.weak ⟨rfl, rfl, rfl, rfl, rfl, rfl, trivial⟩)
            · replace H := H.2 hbr4
              replace hE := hE.bool (b := false) (t := 33) rfl (decide_eq_false hbr4)
              refine hE.off (by rfl) (by rfl) (by decide) (fun a hE => ?_)
              refine hE.off (by rfl) (by rfl) (by decide) (fun a hE => ?_)
              refine hE.off (by rfl) (by rfl) (by decide) (fun a hE => ?_)
              refine hE.on (by rfl) (by rfl) ?_
              refine hE.pur (X.pickF hE rfl rfl) fun a hE => ?_
              exact hr4 false _ _ H (hE.weak ⟨rfl, rfl, rfl, rfl, rfl, rfl, trivial⟩)
    · intro D xs w a h1 h2 h3 hD hE
      have H := hdn D xs w h1 h2 h3 hD
      clear hbd hdn hst hnew
      try dsimp only at H
      refine (bn (tn ?_))
      refine C.seq ?_
      refine C.region ?_
      refine hE.op (X.load hE rfl) H fun x59 w a H hE => ?_
      refine hE.pur (X.assign hE rfl) fun a hE => ?_
      refine hE.pur (X.assign hE rfl) fun a hE => ?_
      refine C.nil (tn ?_)
      obtain ⟨hD0, H⟩ := H
      try dsimp only at H
      exact C.ret (C.retM1 hE (rs := [.tmp 8, .tmp 9]) (vs := [(Sl.v x59), (.int .i64 0)]) rfl hD0 ⟨rfl, rfl, trivial⟩ ⟨_, _, rfl, H⟩)
    · intro D c pre w a hj h1 h2 h3 hD hE
      cases hj
/-! ### lading mvcc.Last: function 22 -/
def V_mvcc_Last (x0 : T_api_Versions) (x1 : ByteArray) (w : World) (Ret : Int → Int → World → Prop) : Prop :=
  opE Try.prog Value.pointer (Instr.box 25 (T_api_Versions.v x0)) w (fun x2 w => opE Try.prog T_api_Versions.v (Instr.loadAt 25 (.pointer x2)) w (fun x9 w => Cl Try.prog 17 [(T_api_Versions.v x9)].toArray w (fun e w => ∃ (r : Int), e = .returned (.int .i64 r) ∧ (((r ≠ 0) → (Ret 0 r w)) ∧ (¬ (r ≠ 0) → (opE Try.prog Value.pointer (Instr.fieldAt 25 (.pointer x2) 0) w (fun x15 w => opE Try.prog Sl.v (Instr.loadAt 22 (.pointer x15)) w (fun x16 w => Cl Try.prog 36 [(Sl.v x16), (.string x1), (.int .u64 2305843009213693952)].toArray w (fun e w => ∃ (r_1 : T_api_Version) (r_2 : Bool), e = .returned (.tuple [(T_api_Version.v r_1), (.bool r_2)].toArray) ∧ (opE Try.prog Value.pointer (Instr.alloc 37 true (.tuple #[])) w (fun x7 w => opU Try.prog (Instr.storeAt 37 (.pointer x7) (T_api_Version.v r_1)) w (fun w => opE Try.prog Value.pointer (Instr.fieldAt 37 (.pointer x7) 1) w (fun x21 w => opE Try.prog (Value.int .u64) (Instr.loadAt 23 (.pointer x21)) w (fun x22 w => Ret x22 0 w))))))))))))))
set_option maxRecDepth 100000 in
theorem L1_mvcc_Last (x0 : T_api_Versions) (x1 : ByteArray) (w : World) (Ret : Int → Int → World → Prop) (H : V_mvcc_Last x0 x1 w Ret) : Cl Try.prog 22 [(T_api_Versions.v x0), (.string x1)].toArray w (fun e w' => ∃ (r0 : Int) (r1 : Int), e = .returned (.tuple [(.int .u64 r0), (.int .i64 r1)].toArray) ∧ Ret r0 r1 w') := by
  unfold V_mvcc_Last at H
  refine C.enter 23 (zipE 0 [(T_api_Versions.v x0), (.string x1)]) Try.func22 rfl rfl (by rfl) rfl ?_
  intro a hE
  replace hE : Sat [] 23 [(0, (T_api_Versions.v x0)), (1, (.string x1))] a := hE
  refine C.seq ?_
  refine C.region ?_
  refine hE.op (X.box hE rfl) H fun x2 w a H hE => ?_
  refine hE.pur (X.assign hE rfl) fun a hE => ?_
  refine hE.pur (X.assign hE rfl) fun a hE => ?_
  refine C.nil (tn ?_)
  refine C.seq ?_
  refine C.seq ?_
  refine C.region ?_
  refine hE.op (X.load hE rfl) H fun x9 w a H hE => ?_
  refine hE.call (X.callF hE ent17 rfl rfl) H fun e w H => ?_
  obtain ⟨r, rfl, H⟩ := H
  refine ⟨_, rfl, fun a hE => ?_⟩
  refine hE.pur (X.assign hE rfl) fun a hE => ?_
  refine C.nil (tn ?_)
  refine C.seq ?_
  refine C.region ?_
  refine hE.pur (X.move hE rfl) fun a hE => ?_
  refine hE.pur (X.neI hE rfl rfl) fun a hE => ?_
  refine C.nil (tn ?_)
  refine C.condP hE rfl (fun hc => ?_) (fun hc => ?_)
  · replace H := H.1 hc
    refine C.seq ?_
    refine C.region ?_
    refine hE.pur (X.move hE rfl) fun a hE => ?_
    refine hE.pur (X.assign hE rfl) fun a hE => ?_
    refine hE.pur (X.assign hE rfl) fun a hE => ?_
    refine C.nil (tn ?_)
    exact C.ret (tr (C.ret2 hE rfl rfl rfl ⟨_, _, rfl, H⟩))
  · replace H := H.2 hc
    refine C.skip (tn ?_)
    refine C.seq ?_
    refine C.region ?_
    refine hE.op (X.fieldAddr hE rfl) H fun x15 w a H hE => ?_
    refine hE.op (X.load hE rfl) H fun x16 w a H hE => ?_
    refine hE.pur (X.move hE rfl) fun a hE => ?_
    refine hE.call (X.callF hE ent36 rfl rfl) H fun e w H => ?_
    obtain ⟨r_1, r_2, rfl, H⟩ := H
    refine ⟨_, rfl, fun a hE => ?_⟩
    refine hE.pur (X.move hE rfl) fun a hE => ?_
    refine hE.pur (X.extract hE rfl rfl) fun a hE => ?_
    refine hE.pur (X.extract hE rfl rfl) fun a hE => ?_
    refine hE.op (X.alloc) H fun x7 w a H hE => ?_
    refine hE.opu (X.store hE rfl rfl) H fun w a H hE => ?_
    refine hE.pur (X.assign hE rfl) fun a hE => ?_
    refine C.nil (tn ?_)
    refine C.seq ?_
    refine C.region ?_
    refine hE.op (X.fieldAddr hE rfl) H fun x21 w a H hE => ?_
    refine hE.op (X.load hE rfl) H fun x22 w a H hE => ?_
    refine hE.pur (X.assign hE rfl) fun a hE => ?_
    refine hE.pur (X.assign hE rfl) fun a hE => ?_
    refine C.nil (tn ?_)
    exact C.ret (C.ret2 hE rfl rfl rfl ⟨_, _, rfl, H⟩)
/-! ### lading mvcc.wrong: function 27 -/
def V_mvcc_wrong_l1b (x0 : Sl) (Ret : Int → World → Prop) (x13 : Option Nat) (x16 : Int) (w : World) (Kl1 : Int → World → Prop) : Prop :=
  ((x16 < (x0.len : Int)) → (opE Try.prog Value.pointer (Instr.indexAt 26 (Sl.v x0) (.int .i64 x16)) w (fun x18 w => opE Try.prog T_api_Write.v (Instr.loadAt 52 (.pointer x18)) w (fun x19 w => opE Try.prog Value.pointer (Instr.alloc 52 true (.tuple #[])) w (fun x5 w => opU Try.prog (Instr.storeAt 52 (.pointer x5) (T_api_Write.v x19)) w (fun w => opE Try.prog Value.pointer (Instr.fieldAt 52 (.pointer x5) 0) w (fun x22 w => opE Try.prog Value.string (Instr.loadAt 9 (.pointer x22)) w (fun x23 w => opE Try.prog (fun p : T_s75 × Bool => .tuple [(T_s75.v p.1), (.bool p.2)].toArray) (Instr.lookup 74 (.map x13) (.string x23) true) w (fun x24 w => opE Try.prog Value.pointer (Instr.alloc 75 true (.tuple #[])) w (fun x6 w => opU Try.prog (Instr.storeAt 75 (.pointer x6) (T_s75.v x24.1)) w (fun w => (x24.2 = true → (Ret 12 w)) ∧ (x24.2 = false → (opE Try.prog Value.pointer (Instr.fieldAt 52 (.pointer x5) 0) w (fun x29 w => opE Try.prog Value.string (Instr.loadAt 9 (.pointer x29)) w (fun x30 w => opE Try.prog T_s75.v (Instr.build 75 [].toArray) w (fun x31 w => opU Try.prog (Instr.mapUpdate 74 (.map x13) (.string x30) (T_s75.v x31)) w (fun w => Kl1 (IntKind.wrap .i64 (x16 + 1)) w))))))))))))))))) ∧ (¬ (x16 < (x0.len : Int)) → (Ret 0 w))
def V_mvcc_wrong (x0 : Sl) (w : World) (Ret : Int → World → Prop) : Prop :=
  ((4096 < (x0.len : Int)) → (Ret 3 w)) ∧ (¬ (4096 < (x0.len : Int)) → (Cl Try.prog 40 [(Sl.v x0), (.func (.func 41) #[] #[])].toArray w (fun e w => ∃ (r : Bool), e = .returned (.bool r) ∧ ((r = true → (Ret 4 w)) ∧ (r = false → (opE Try.prog Value.map (Instr.makeMap 74 none) w (fun x13 w => ∃ (I : Int → World → Prop) (μ : Int → World → Nat), I 0 w ∧ ∀ (x16 : Int) w, I x16 w → V_mvcc_wrong_l1b x0 Ret x13 x16 w (fun x16' w' => I x16' w' ∧ μ x16' w' < μ x16 w))))))))
set_option maxRecDepth 100000 in
theorem L1_mvcc_wrong (x0 : Sl) (w : World) (Ret : Int → World → Prop) (H : V_mvcc_wrong x0 w Ret) : Cl Try.prog 27 [(Sl.v x0)].toArray w (fun e w' => ∃ (r0 : Int), e = .returned (.int .i64 r0) ∧ Ret r0 w') := by
  unfold V_mvcc_wrong at H
  refine C.enter 33 (zipE 0 [(Sl.v x0)]) Try.func27 rfl rfl (by rfl) rfl ?_
  intro a hE
  replace hE : Sat [] 33 [(0, (Sl.v x0))] a := hE
  refine C.seq ?_
  refine C.region ?_
  refine hE.pur (X.assign hE rfl) fun a hE => ?_
  refine C.nil (tn ?_)
  refine C.seq ?_
  refine C.seq ?_
  refine C.region ?_
  refine hE.pur (X.move hE rfl) fun a hE => ?_
  refine hE.purR (fun w => X.lenL hE Try.underlying26 rfl) fun a hE => ?_
  refine hE.pur (X.gtI hE rfl rfl) fun a hE => ?_
  refine C.nil (tn ?_)
  refine C.condP hE rfl (fun hc => ?_) (fun hc => ?_)
  · replace H := H.1 hc
    refine C.seq ?_
    refine C.region ?_
    refine hE.pur (X.assign hE rfl) fun a hE => ?_
    refine C.nil (tn ?_)
    exact C.ret (tr (C.ret1 hE rfl rfl ⟨_, rfl, H⟩))
  · replace H := H.2 hc
    refine C.skip (tn ?_)
    refine C.seq ?_
    refine C.seq ?_
    refine C.region ?_
    refine hE.pur (X.move hE rfl) fun a hE => ?_
    refine hE.call (X.callF hE ent40 rfl rfl) H fun e w H => ?_
    obtain ⟨r, rfl, H⟩ := H
    refine ⟨_, rfl, fun a hE => ?_⟩
    refine C.nil (tn ?_)
    refine C.condB hE rfl (fun hc => ?_) (fun hc => ?_)
    · replace H := H.1 hc
      refine C.seq ?_
      refine C.region ?_
      refine hE.pur (X.assign hE rfl) fun a hE => ?_
      refine C.nil (tn ?_)
      exact C.ret (tr (C.ret1 hE rfl rfl ⟨_, rfl, H⟩))
    · replace H := H.2 hc
      refine C.skip (tn ?_)
      refine C.seq ?_
      refine C.region ?_
      refine hE.op (X.makeMap) H fun x13 w a H hE => ?_
      refine hE.pur (X.assign hE rfl) fun a hE => ?_
      refine C.nil (tn ?_)
      refine C.seq ?_
      refine C.seq ?_
      refine C.region ?_
      refine hE.pur (X.move hE rfl) fun a hE => ?_
      refine hE.purR (fun w => X.lenL hE Try.underlying26 rfl) fun a hE => ?_
      refine hE.pur (X.move hE rfl) fun a hE => ?_
      refine C.nil (tn ?_)
      refine C.block ?_
      obtain ⟨I_l1, μ_l1, h0, hb⟩ := H
      refine C.loop (ds := []) (N := 33) (σ := Int) (fun s => [(16, (.int .i64 s)), (3, (.map x13)), (14, (Sl.v x0)), (15, (.int .i64 (x0.len : Int)))]) (fun s w => I_l1 s w) (fun s w => μ_l1 s w) 0 h0 (hE.weak ⟨rfl, rfl, rfl, rfl, trivial⟩) ?_
      intro x16 w a hI hE
      try dsimp only at hI hE
      obtain ⟨Kl1, hK_l1⟩ : ∃ K : Int → World → Prop, K = (fun x16' w' => I_l1 x16' w' ∧ μ_l1 x16' w' < μ_l1 x16 w) := ⟨_, rfl⟩
      have H : V_mvcc_wrong_l1b x0 Ret x13 x16 w Kl1 := by rw [hK_l1]; exact hb x16 w hI
      clear hb h0 hI
      unfold V_mvcc_wrong_l1b at H
      refine C.seq ?_
      refine C.region ?_
      refine hE.pur (X.ltI hE rfl rfl) fun a hE => ?_
      refine C.nil (tn ?_)
      refine C.seq ?_
      refine C.condP hE rfl (fun hc => ?_) (fun hc => ?_)
      · replace H := H.1 hc
        refine C.skip (tn ?_)
        refine C.seq ?_
        refine C.block ?_
        refine C.seq ?_
        refine C.region ?_
        refine hE.op (X.indexAddr hE rfl rfl) H fun x18 w a H hE => ?_
        refine hE.op (X.load hE rfl) H fun x19 w a H hE => ?_
        refine hE.op (X.alloc) H fun x5 w a H hE => ?_
        refine hE.opu (X.store hE rfl rfl) H fun w a H hE => ?_
        refine C.nil (tn ?_)
        refine C.seq ?_
        refine C.seq ?_
        refine C.region ?_
        refine hE.pur (X.move hE rfl) fun a hE => ?_
        refine hE.op (X.fieldAddr hE rfl) H fun x22 w a H hE => ?_
        refine hE.op (X.load hE rfl) H fun x23 w a H hE => ?_
        refine hE.op (X.lookup hE rfl rfl) H fun x24 w a H hE => ?_
        refine hE.pur (X.move hE rfl) fun a hE => ?_
        refine hE.pur (X.extract hE rfl rfl) fun a hE => ?_
        refine hE.pur (X.extract hE rfl rfl) fun a hE => ?_
        refine hE.op (X.alloc) H fun x6 w a H hE => ?_
        refine hE.opu (X.store hE rfl rfl) H fun w a H hE => ?_
        refine hE.pur (X.assign hE rfl) fun a hE => ?_
        refine C.nil (tn ?_)
        refine C.seq ?_
        refine C.region ?_
        refine hE.pur (X.move hE rfl) fun a hE => ?_
        refine C.nil (tn ?_)
        refine C.condB hE rfl (fun hc => ?_) (fun hc => ?_)
        · replace H := H.1 hc
          refine C.seq ?_
          refine C.region ?_
          refine hE.pur (X.assign hE rfl) fun a hE => ?_
          refine C.nil (tn ?_)
          exact C.ret (tr (br (tr (tr (br (tr (C.ret1 hE rfl rfl ⟨_, rfl, H⟩)))))))
        · replace H := H.2 hc
          refine C.skip (tn ?_)
          refine C.region ?_
          refine hE.pur (X.move hE rfl) fun a hE => ?_
          refine hE.op (X.fieldAddr hE rfl) H fun x29 w a H hE => ?_
          refine hE.op (X.load hE rfl) H fun x30 w a H hE => ?_
          refine hE.op (X.build hE rfl) H fun x31 w a H hE => ?_
          refine hE.opu (X.mapUpdate hE rfl rfl rfl) H fun w a H hE => ?_
          refine C.nil (bn (tn ?_))
          refine C.region ?_
          refine hE.pur (X.add hE rfl rfl) fun a hE => ?_
          refine hE.pur (X.move hE rfl) fun a hE => ?_
          rw [hK_l1] at H
          exact C.nil (tn ⟨(IntKind.wrap .i64 (x16 + 1)), hE.weak ⟨rfl, rfl, rfl, rfl, trivial⟩, H⟩)
      · replace H := H.2 hc
        refine C.exit (te (te (be (tn ?_))))
        refine C.seq ?_
        refine C.region ?_
        refine hE.pur (X.assign hE rfl) fun a hE => ?_
        refine C.nil (tn ?_)
        exact C.ret (C.ret1 hE rfl rfl ⟨_, rfl, H⟩)
/-! ### slices.ContainsFunc[[]lading api.Version,lading api.Version]: function 28 -/
def V_slices_ContainsFunc_api_Version_api_Version (x0 : Sl) (x1 : Value) (w : World) (Ret : Bool → World → Prop) : Prop :=
  Cl Try.prog 42 [(Sl.v x0), x1].toArray w (fun e w => ∃ (r : Int), e = .returned (.int .i64 r) ∧ (Ret (decide (0 ≤ r)) w))
set_option maxRecDepth 100000 in
theorem L1_slices_ContainsFunc_api_Version_api_Version (x0 : Sl) (x1 : Value) (w : World) (Ret : Bool → World → Prop) (H : V_slices_ContainsFunc_api_Version_api_Version x0 x1 w Ret) : Cl Try.prog 28 [(Sl.v x0), x1].toArray w (fun e w' => ∃ (r0 : Bool), e = .returned (.bool r0) ∧ Ret r0 w') := by
  unfold V_slices_ContainsFunc_api_Version_api_Version at H
  refine C.enter 9 (zipE 0 [(Sl.v x0), x1]) Try.func28 rfl rfl (by rfl) rfl ?_
  intro a hE
  replace hE : Sat [] 9 [(0, (Sl.v x0)), (1, x1)] a := hE
  refine C.seq ?_
  refine C.region ?_
  refine hE.pur (X.assign hE rfl) fun a hE => ?_
  refine C.nil (tn ?_)
  refine C.seq ?_
  refine C.region ?_
  refine hE.pur (X.move hE rfl) fun a hE => ?_
  refine hE.pur (X.move hE rfl) fun a hE => ?_
  refine hE.call (X.callF hE ent42 rfl rfl) H fun e w H => ?_
  obtain ⟨r, rfl, H⟩ := H
  refine ⟨_, rfl, fun a hE => ?_⟩
  refine hE.pur (X.geI hE rfl rfl) fun a hE => ?_
  refine hE.pur (X.assign hE rfl) fun a hE => ?_
  refine C.nil (tn ?_)
  exact C.ret (C.ret1 hE rfl rfl ⟨_, rfl, H⟩)
/-! ### lading mvcc.Put$1: function 29 -/
def V_mvcc_Put_1 (x0 : T_api_Version) (x1 : Option Addr) (w : World) (Ret : Bool → World → Prop) : Prop :=
  opE Try.prog Value.pointer (Instr.box 37 (T_api_Version.v x0)) w (fun x2 w => opE Try.prog Value.pointer (Instr.fieldAt 37 (.pointer x2) 1) w (fun x4 w => opE Try.prog (Value.int .u64) (Instr.loadAt 23 (.pointer x4)) w (fun x5 w => opE Try.prog (Value.int .u64) (Instr.loadAt 23 (.pointer x1)) w (fun x6 w => Ret (decide (x6 ≤ x5)) w))))
set_option maxRecDepth 100000 in
theorem L1_mvcc_Put_1 (x0 : T_api_Version) (x1 : Option Addr) (w : World) (Ret : Bool → World → Prop) (H : V_mvcc_Put_1 x0 x1 w Ret) : Cl Try.prog 29 [(T_api_Version.v x0), (.pointer x1)].toArray w (fun e w' => ∃ (r0 : Bool), e = .returned (.bool r0) ∧ Ret r0 w') := by
  unfold V_mvcc_Put_1 at H
  refine C.enter 8 (zipE 0 [(T_api_Version.v x0), (.pointer x1)]) Try.func29 rfl rfl (by rfl) rfl ?_
  intro a hE
  replace hE : Sat [] 8 [(0, (T_api_Version.v x0)), (1, (.pointer x1))] a := hE
  refine C.seq ?_
  refine C.region ?_
  refine hE.op (X.box hE rfl) H fun x2 w a H hE => ?_
  refine hE.pur (X.assign hE rfl) fun a hE => ?_
  refine C.nil (tn ?_)
  refine C.seq ?_
  refine C.region ?_
  refine hE.op (X.fieldAddr hE rfl) H fun x4 w a H hE => ?_
  refine hE.op (X.load hE rfl) H fun x5 w a H hE => ?_
  refine hE.op (X.load hE rfl) H fun x6 w a H hE => ?_
  refine hE.pur (X.geI hE rfl rfl) fun a hE => ?_
  refine hE.pur (X.assign hE rfl) fun a hE => ?_
  refine C.nil (tn ?_)
  exact C.ret (C.ret1 hE rfl rfl ⟨_, rfl, H⟩)
/-! ### slices.Clone[[]lading api.Version,lading api.Version]: function 30 -/
def V_slices_Clone_api_Version_api_Version (x0 : Sl) (w : World) (Ret : Sl → World → Prop) : Prop :=
  opE Try.prog Value.bool (do eqGuard .eql 22 (.tmp 3) (.const (Sl.v Sl.none)) (Sl.v x0) (Sl.v Sl.none); binOp .eql 22 (Sl.v x0) (Sl.v Sl.none)) w (fun x4 w => (x4 = true → (Ret Sl.none w)) ∧ (x4 = false → (opE Try.prog Sl.v (Instr.buildSlice 22 0 [].toArray) w (fun x5 w => opE Try.prog Sl.v (Builtin.append_ #[22, 22] 22 [(Sl.v x5), (Sl.v x0)].toArray) w (fun x7 w => Ret x7 w)))))
set_option maxRecDepth 100000 in
theorem L1_slices_Clone_api_Version_api_Version (x0 : Sl) (w : World) (Ret : Sl → World → Prop) (H : V_slices_Clone_api_Version_api_Version x0 w Ret) : Cl Try.prog 30 [(Sl.v x0)].toArray w (fun e w' => ∃ (r0 : Sl), e = .returned (Sl.v r0) ∧ Ret r0 w') := by
  unfold V_slices_Clone_api_Version_api_Version at H
  refine C.enter 8 (zipE 0 [(Sl.v x0)]) Try.func30 rfl rfl (by rfl) rfl ?_
  intro a hE
  replace hE : Sat [] 8 [(0, (Sl.v x0))] a := hE
  refine C.seq ?_
  refine C.region ?_
  refine hE.pur (X.assign hE rfl) fun a hE => ?_
  refine C.nil (tn ?_)
  refine C.seq ?_
  refine C.seq ?_
  refine C.region ?_
  refine hE.pur (X.move hE rfl) fun a hE => ?_
  refine hE.op (X.bin hE rfl rfl) H fun x4 w a H hE => ?_
  refine C.nil (tn ?_)
  refine C.condB hE rfl (fun hc => ?_) (fun hc => ?_)
  · replace H := H.1 hc
    refine C.seq ?_
    refine C.region ?_
    refine hE.pur (X.assign hE rfl) fun a hE => ?_
    refine C.nil (tn ?_)
    exact C.ret (tr (C.ret1 hE rfl rfl ⟨_, rfl, H⟩))
  · replace H := H.2 hc
    refine C.skip (tn ?_)
    refine C.seq ?_
    refine C.region ?_
    refine hE.op (X.buildSlice hE rfl) H fun x5 w a H hE => ?_
    refine hE.pur (X.move hE rfl) fun a hE => ?_
    refine hE.op (X.append hE rfl) H fun x7 w a H hE => ?_
    refine hE.pur (X.assign hE rfl) fun a hE => ?_
    refine C.nil (tn ?_)
    exact C.ret (C.ret1 hE rfl rfl ⟨_, rfl, H⟩)
/-! ### lading mvcc.order: function 32 -/
def V_mvcc_order (x0 : T_api_Version) (x1 : T_api_Version) (w : World) (Ret : Int → World → Prop) : Prop :=
  opE Try.prog Value.pointer (Instr.box 37 (T_api_Version.v x0)) w (fun x2 w => opE Try.prog Value.pointer (Instr.box 37 (T_api_Version.v x1)) w (fun x3 w => regC w (fun C1 w => opC C1 Try.prog Value.pointer (Instr.fieldAt 37 (.pointer x2) 0) (fun x5 => opC C1 Try.prog Value.pointer (Instr.fieldAt 37 (.pointer x3) 0) (fun x7 => opC C1 Try.prog Value.pointer (Instr.fieldAt 37 (.pointer x2) 1) (fun x10 => opC C1 Try.prog Value.pointer (Instr.fieldAt 37 (.pointer x3) 1) (fun x12 => opC C1 Try.prog Value.string (Instr.loadAt 9 (.pointer x5)) (fun x6 => opC C1 Try.prog Value.string (Instr.loadAt 9 (.pointer x7)) (fun x8 => opC C1 Try.prog (Value.int .u64) (Instr.loadAt 23 (.pointer x10)) (fun x11 => opC C1 Try.prog (Value.int .u64) (Instr.loadAt 23 (.pointer x12)) (fun x13 => Cl Try.prog 46 [(.string x6), (.string x8)].toArray w (fun e w => ∃ (r : Int), e = .returned (.int .i64 r) ∧ (C1 w ∧ (Cl Try.prog 47 [(.int .u64 x11), (.int .u64 x13)].toArray w (fun e w => ∃ (r_1 : Int), e = .returned (.int .i64 r_1) ∧ (C1 w ∧ (opE Try.prog Sl.v (Instr.buildSlice 98 2 [(0, (.int .i64 r)), (1, (.int .i64 r_1))].toArray) w (fun x15 w => C1 w ∧ (Cl Try.prog 45 [(Sl.v x15)].toArray w (fun e w => ∃ (r_2 : Int), e = .returned (.int .i64 r_2) ∧ (C1 w ∧ (Ret r_2 w))))))))))))))))))))))
set_option maxRecDepth 100000 in
theorem L1_mvcc_order (x0 : T_api_Version) (x1 : T_api_Version) (w : World) (Ret : Int → World → Prop) (H : V_mvcc_order x0 x1 w Ret) : Cl Try.prog 32 [(T_api_Version.v x0), (T_api_Version.v x1)].toArray w (fun e w' => ∃ (r0 : Int), e = .returned (.int .i64 r0) ∧ Ret r0 w') := by
  unfold V_mvcc_order at H
  refine C.enter 17 (zipE 0 [(T_api_Version.v x0), (T_api_Version.v x1)]) Try.func32 rfl rfl (by rfl) rfl ?_
  intro a hE
  replace hE : Sat [] 17 [(0, (T_api_Version.v x0)), (1, (T_api_Version.v x1))] a := hE
  refine C.seq ?_
  refine C.region ?_
  refine hE.op (X.box hE rfl) H fun x2 w a H hE => ?_
  refine hE.op (X.box hE rfl) H fun x3 w a H hE => ?_
  refine hE.pur (X.assign hE rfl) fun a hE => ?_
  refine C.nil (tn ?_)
  refine C.seq ?_
  refine C.cls H 13 #[false, false, false, false, false, false, false, false, false, false, false, false, false] (by kernel_rfl) (fun C1 w hC0 H => ?_)
  refine hE.kop (i := 0) (fun _ _ _ _ _ h => h) (by kernel_rfl) rfl (by kernel_rfl) (by kernel_rfl) (by rfl) (l2 := #[true, false, false, false, false, false, false, false, false, false, false, false, false]) hC0 (X.fieldAddr hE rfl) H fun x5 a H hE => ?_
  refine hE.kop (i := 2) (fun _ _ _ _ _ h => h) (by kernel_rfl) rfl (by kernel_rfl) (by kernel_rfl) (by rfl) (l2 := #[true, false, true, false, false, false, false, false, false, false, false, false, false]) hC0 (X.fieldAddr hE rfl) H fun x7 a H hE => ?_
  refine hE.kop (i := 5) (fun _ _ _ _ _ h => h) (by kernel_rfl) rfl (by kernel_rfl) (by kernel_rfl) (by rfl) (l2 := #[true, false, true, false, false, true, false, false, false, false, false, false, false]) hC0 (X.fieldAddr hE rfl) H fun x10 a H hE => ?_
  refine hE.kop (i := 7) (fun _ _ _ _ _ h => h) (by kernel_rfl) rfl (by kernel_rfl) (by kernel_rfl) (by rfl) (l2 := #[true, false, true, false, false, true, false, true, false, false, false, false, false]) hC0 (X.fieldAddr hE rfl) H fun x12 a H hE => ?_
  refine hE.kop (i := 1) (fun _ _ _ _ _ h => h) (by kernel_rfl) rfl (by kernel_rfl) (by kernel_rfl) (by rfl) (l2 := #[true, true, true, false, false, true, false, true, false, false, false, false, false]) hC0 (X.load hE rfl) H fun x6 a H hE => ?_
  refine hE.kop (i := 3) (fun _ _ _ _ _ h => h) (by kernel_rfl) rfl (by kernel_rfl) (by kernel_rfl) (by rfl) (l2 := #[true, true, true, true, false, true, false, true, false, false, false, false, false]) hC0 (X.load hE rfl) H fun x8 a H hE => ?_
  refine hE.kop (i := 6) (fun _ _ _ _ _ h => h) (by kernel_rfl) rfl (by kernel_rfl) (by kernel_rfl) (by rfl) (l2 := #[true, true, true, true, false, true, true, true, false, false, false, false, false]) hC0 (X.load hE rfl) H fun x11 a H hE => ?_
  refine hE.kop (i := 8) (fun _ _ _ _ _ h => h) (by kernel_rfl) rfl (by kernel_rfl) (by kernel_rfl) (by rfl) (l2 := #[true, true, true, true, false, true, true, true, true, false, false, false, false]) hC0 (X.load hE rfl) H fun x13 a H hE => ?_
  refine WK.one (i := 4) (l2 := #[true, true, true, true, true, true, true, true, true, false, false, false, false]) rfl (by kernel_rfl) (by rfl) ?_
  intro K hK
  refine hE.wcall (X.callF hE ent46 rfl rfl) H fun e w H => ?_
  obtain ⟨r, rfl, H⟩ := H
  refine ⟨_, rfl, fun a hE => ?_⟩
  refine hK _ _ ⟨H.1, ?_⟩
  have hC1 := H.1
  replace H := H.2
  refine WK.one (i := 9) (l2 := #[true, true, true, true, true, true, true, true, true, true, false, false, false]) rfl (by kernel_rfl) (by rfl) ?_
  intro K hK
  refine hE.wcall (X.callF hE ent47 rfl rfl) H fun e w H => ?_
  obtain ⟨r_1, rfl, H⟩ := H
  refine ⟨_, rfl, fun a hE => ?_⟩
  refine hK _ _ ⟨H.1, ?_⟩
  have hC2 := H.1
  replace H := H.2
  refine WK.one (i := 10) (l2 := #[true, true, true, true, true, true, true, true, true, true, true, false, false]) rfl (by kernel_rfl) (by rfl) ?_
  intro K hK
  refine hE.wop (X.buildSlice hE rfl) H fun x15 w a H hE => ?_
  refine hK _ _ ⟨H.1, ?_⟩
  have hC3 := H.1
  replace H := H.2
  refine WK.one (i := 11) (l2 := #[true, true, true, true, true, true, true, true, true, true, true, true, false]) rfl (by kernel_rfl) (by rfl) ?_
  intro K hK
  refine hE.wcall (X.callF hE ent45 rfl rfl) H fun e w H => ?_
  obtain ⟨r_2, rfl, H⟩ := H
  refine ⟨_, rfl, fun a hE => ?_⟩
  refine hK _ _ ⟨H.1, ?_⟩
  have hC4 := H.1
  replace H := H.2
  refine hE.kpur (i := 12) (fun _ _ _ _ _ h => h) (by kernel_rfl) rfl (by kernel_rfl) (by kernel_rfl) (by rfl) (l2 := #[true, true, true, true, true, true, true, true, true, true, true, true, true]) hC4 (pn_run (X.assign hE rfl)) fun a hE => ?_
  refine WK.nil (by kernel_rfl) ?_
  refine (tn ?_)
  exact C.ret (C.ret1 hE rfl rfl ⟨_, rfl, H⟩)
/-! ### lading mvcc.last: function 36 -/
def V_mvcc_last_r2 (x0 : Sl) (Ret : T_api_Version → Bool → World → Prop) (x6 : Option Addr) (x8 : Int) (x32 : Bool) (w : World) : Prop :=
  (x32 = true → (opE Try.prog T_api_Version.v (Instr.build 37 [].toArray) w (fun x33 w => opU Try.prog (Instr.storeAt 37 (.pointer x6) (T_api_Version.v x33)) w (fun w => opR Try.prog T_api_Version.v 37 x6 w (fun q => Ret q false w))))) ∧ (x32 = false → (opE Try.prog Value.pointer (Instr.indexAt 22 (Sl.v x0) (.int .i64 x8)) w (fun x36 w => opE Try.prog T_api_Version.v (Instr.loadAt 37 (.pointer x36)) w (fun x37 w => opU Try.prog (Instr.storeAt 37 (.pointer x6) (T_api_Version.v x37)) w (fun w => opR Try.prog T_api_Version.v 37 x6 w (fun q_1 => Ret q_1 true w))))))
def V_mvcc_last_j1 (x0 : Sl) (x1 : ByteArray) (Ret : T_api_Version → Bool → World → Prop) (x6 : Option Addr) (x8 : Int) (w : World) : Prop :=
  ((x8 < 0) → (V_mvcc_last_r2 x0 Ret x6 x8 true w)) ∧ (¬ (x8 < 0) → (opE Try.prog Value.pointer (Instr.indexAt 22 (Sl.v x0) (.int .i64 x8)) w (fun x27 w => opE Try.prog Value.pointer (Instr.fieldAt 37 (.pointer x27) 0) w (fun x28 w => opE Try.prog Value.string (Instr.loadAt 9 (.pointer x28)) w (fun x29 w => V_mvcc_last_r2 x0 Ret x6 x8 (decide (x29 ≠ x1)) w)))))
def V_mvcc_last (x0 : Sl) (x1 : ByteArray) (x2 : Int) (w : World) (Ret : T_api_Version → Bool → World → Prop) : Prop :=
  opE Try.prog Value.pointer (Instr.alloc 37 true (.tuple #[])) w (fun x6 w => opE Try.prog T_api_Version.v (Instr.build 37 [(0, (.string x1)), (1, (.int .u64 x2))].toArray) w (fun x14 w => Cl Try.prog 49 [(Sl.v x0), (T_api_Version.v x14), (.func (.func 32) #[] #[])].toArray w (fun e w => ∃ (r : Int) (r_1 : Bool), e = .returned (.tuple [(.int .i64 r), (.bool r_1)].toArray) ∧ (((!r_1) = true → (V_mvcc_last_j1 x0 x1 Ret x6 (IntKind.wrap .i64 (r - 1)) w)) ∧ ((!r_1) = false → (V_mvcc_last_j1 x0 x1 Ret x6 r w))))))
set_option maxRecDepth 100000 in
theorem L1_mvcc_last (x0 : Sl) (x1 : ByteArray) (x2 : Int) (w : World) (Ret : T_api_Version → Bool → World → Prop) (H : V_mvcc_last x0 x1 x2 w Ret) : Cl Try.prog 36 [(Sl.v x0), (.string x1), (.int .u64 x2)].toArray w (fun e w' => ∃ (r0 : T_api_Version) (r1 : Bool), e = .returned (.tuple [(T_api_Version.v r0), (.bool r1)].toArray) ∧ Ret r0 r1 w') := by
  unfold V_mvcc_last at H
  refine C.enter 38 (zipE 0 [(Sl.v x0), (.string x1), (.int .u64 x2)]) Try.func36 rfl rfl (by rfl) rfl ?_
  intro a hE
  replace hE : Sat [] 38 [(0, (Sl.v x0)), (1, (.string x1)), (2, (.int .u64 x2))] a := hE
  refine C.seq ?_
  refine C.region ?_
  refine hE.op (X.alloc) H fun x6 w a H hE => ?_
  refine hE.pur (X.assign hE rfl) fun a hE => ?_
  refine C.nil (tn ?_)
  refine C.seq ?_
  refine C.region ?_
  refine hE.pur (X.move hE rfl) fun a hE => ?_
  refine hE.pur (X.move hE rfl) fun a hE => ?_
  refine hE.pur (X.move hE rfl) fun a hE => ?_
  refine hE.op (X.build hE rfl) H fun x14 w a H hE => ?_
  refine hE.call (X.callF hE ent49 rfl rfl) H fun e w H => ?_
  obtain ⟨r, r_1, rfl, H⟩ := H
  refine ⟨_, rfl, fun a hE => ?_⟩
  refine hE.pur (X.move hE rfl) fun a hE => ?_
  refine hE.pur (X.extract hE rfl rfl) fun a hE => ?_
  refine hE.pur (X.extract hE rfl rfl) fun a hE => ?_
  refine hE.pur (X.assign hE rfl) fun a hE => ?_
  refine hE.pur (X.assign hE rfl) fun a hE => ?_
  refine C.nil (tn ?_)
  refine C.join (ds := []) (N := 38) (σ := Int) (fun s => [(8, (.int .i64 s)), (0, (Sl.v x0)), (1, (.string x1)), (6, (.pointer x6))]) (fun s w => V_mvcc_last_j1 x0 x1 Ret x6 s w) ?_ (fun hj1 => ?_)
  · intro x8 w a H hE
    try dsimp only at H hE
    unfold V_mvcc_last_j1 at H
    refine C.seq ?_
    refine C.seq ?_
    refine C.region ?_
    refine hE.pur (X.move hE rfl) fun a hE => ?_
    refine hE.pur (X.ltI hE rfl rfl) fun a hE => ?_
    refine hE.pur (X.move hE rfl) fun a hE => ?_
    refine WL.join (ds := []) (N := 38) (σ := Bool) (fun s => [(32, (.bool s)), (0, (Sl.v x0)), (6, (.pointer x6)), (8, (.int .i64 x8))]) (fun s w => V_mvcc_last_r2 x0 Ret x6 x8 s w) 8 ?_ (fun hr2 => ?_)
    · intro x32 w a H hE
      try dsimp only at H hE
      unfold V_mvcc_last_r2 at H
      refine C.nil (tn ?_)
      refine C.condB hE rfl (fun hc => ?_) (fun hc => ?_)
      · replace H := H.1 hc
        refine C.seq ?_
        refine C.region ?_
        refine hE.op (X.build hE rfl) H fun x33 w a H hE => ?_
        refine hE.opu (X.store hE rfl rfl) H fun w a H hE => ?_
        refine hE.pur (X.assign hE rfl) fun a hE => ?_
        refine C.nil (tn ?_)
        obtain ⟨q, ad, hp, hl, H⟩ := H
        exact C.ret (tr (C.retC hE (rs := [.cell 6 37, .tmp 7]) (vs := [(T_api_Version.v q), (.bool false)]) rfl ⟨⟨ad, by rw [← hp]; rfl, hl⟩, rfl, trivial⟩ ⟨_, _, rfl, H⟩))
      · replace H := H.2 hc
        refine C.skip (tn ?_)
        refine C.seq ?_
        refine C.region ?_
        refine hE.pur (X.move hE rfl) fun a hE => ?_
        refine hE.pur (X.move hE rfl) fun a hE => ?_
        refine hE.op (X.indexAddr hE rfl rfl) H fun x36 w a H hE => ?_
        refine hE.op (X.load hE rfl) H fun x37 w a H hE => ?_
        refine hE.opu (X.store hE rfl rfl) H fun w a H hE => ?_
        refine hE.pur (X.assign hE rfl) fun a hE => ?_
        refine C.nil (tn ?_)
        obtain ⟨q_1, ad_1, hp_1, hl_1, H⟩ := H
        exact C.ret (C.retC hE (rs := [.cell 6 37, .tmp 7]) (vs := [(T_api_Version.v q_1), (.bool true)]) rfl ⟨⟨ad_1, by rw [← hp_1]; rfl, hl_1⟩, rfl, trivial⟩ ⟨_, _, rfl, H⟩)
    · rcases Classical.em ((x8 < 0)) with hbr2 | hbr2
      · replace H := H.1 hbr2
        replace hE := hE.bool (b := true) (t := 24) rfl (decide_eq_true hbr2)
        refine hE.off (by rfl) (by rfl) (by decide) (fun a hE => ?_)
        refine hE.off (by rfl) (by rfl) (by decide) (fun a hE => ?_)
        refine hE.off (by rfl) (by rfl) (by decide) (fun a hE => ?_)
        refine hE.off (by rfl) (by rfl) (by decide) (fun a hE => ?_)
        refine hE.off (by rfl) (by rfl) (by decide) (fun a hE => ?_)
        refine hE.off (by rfl) (by rfl) (by decide) (fun a hE => ?_)
        refine hE.off (by rfl) (by rfl) (by decide) (fun a hE => ?_)
        refine hE.pur (X.pickT hE rfl rfl) fun a hE => ?_
        exact hr2 true _ _ H (hE.weak ⟨rfl, rfl, rfl, rfl, trivial⟩)
      · replace H := H.2 hbr2
        replace hE := hE.bool (b := false) (t := 24) rfl (decide_eq_false hbr2)
        refine hE.on (by rfl) (by rfl) ?_
        refine hE.pur (X.move hE rfl) fun a hE => ?_
        refine hE.on (by rfl) (by rfl) ?_
        refine hE.pur (X.move hE rfl) fun a hE => ?_
        refine hE.on (by rfl) (by rfl) ?_
        refine hE.op (X.indexAddr hE rfl rfl) H fun x27 w a H hE => ?_
        refine hE.on (by rfl) (by rfl) ?_
        refine hE.op (X.fieldAddr hE rfl) H fun x28 w a H hE => ?_
        refine hE.on (by rfl) (by rfl) ?_
        refine hE.op (X.load hE rfl) H fun x29 w a H hE => ?_
        refine hE.on (by rfl) (by rfl) ?_
        refine hE.pur (X.move hE rfl) fun a hE => ?_
        refine hE.on (by rfl) (by rfl) ?_
        refine hE.pur (X.neS hE rfl rfl) fun a hE => ?_
        refine hE.pur (X.pickF hE rfl rfl) fun a hE => ?_
        exact hr2 (decide (x29 ≠ x1)) _ _ H (hE.weak ⟨rfl, rfl, rfl, rfl, trivial⟩)
  · refine C.seq ?_
    refine C.region ?_
    refine hE.pur (X.move hE rfl) fun a hE => ?_
    refine hE.pur (X.not hE rfl) fun a hE => ?_
    refine C.nil (tn ?_)
    refine C.condB hE rfl (fun hc => ?_) (fun hc => ?_)
    · replace H := H.1 hc
      refine C.region ?_
      refine hE.pur (X.move hE rfl) fun a hE => ?_
      refine hE.pur (X.sub hE rfl rfl) fun a hE => ?_
      refine hE.pur (X.assign hE rfl) fun a hE => ?_
      exact C.nil (tn (hj1 (IntKind.wrap .i64 (r - 1)) _ _ H (hE.weak ⟨rfl, rfl, rfl, rfl, trivial⟩)))
    · replace H := H.2 hc
      exact C.skip (tn (hj1 r _ _ H (hE.weak ⟨rfl, rfl, rfl, rfl, trivial⟩)))
/-! ### lading mvcc.asked: function 37 -/
def V_mvcc_asked_r1 (Ret : Int → World → Prop) (r : Int) (x15 : Bool) (w : World) : Prop :=
  (x15 = true → (Ret 9 w)) ∧ (x15 = false → (Ret r w))
def V_mvcc_asked (x0 : T_api_Versions) (x1 : Int) (w : World) (Ret : Int → World → Prop) : Prop :=
  opE Try.prog Value.pointer (Instr.box 25 (T_api_Versions.v x0)) w (fun x2 w => opE Try.prog T_api_Versions.v (Instr.loadAt 25 (.pointer x2)) w (fun x6 w => Cl Try.prog 17 [(T_api_Versions.v x6)].toArray w (fun e w => ∃ (r : Int), e = .returned (.int .i64 r) ∧ (((r = 0) → (opE Try.prog Value.pointer (Instr.fieldAt 25 (.pointer x2) 1) w (fun x12 w => opE Try.prog (Value.int .u64) (Instr.loadAt 23 (.pointer x12)) w (fun x13 w => V_mvcc_asked_r1 Ret r (decide (x1 < x13)) w)))) ∧ (¬ (r = 0) → (V_mvcc_asked_r1 Ret r false w))))))
set_option maxRecDepth 100000 in
theorem L1_mvcc_asked (x0 : T_api_Versions) (x1 : Int) (w : World) (Ret : Int → World → Prop) (H : V_mvcc_asked x0 x1 w Ret) : Cl Try.prog 37 [(T_api_Versions.v x0), (.int .u64 x1)].toArray w (fun e w' => ∃ (r0 : Int), e = .returned (.int .i64 r0) ∧ Ret r0 w') := by
  unfold V_mvcc_asked at H
  refine C.enter 17 (zipE 0 [(T_api_Versions.v x0), (.int .u64 x1)]) Try.func37 rfl rfl (by rfl) rfl ?_
  intro a hE
  replace hE : Sat [] 17 [(0, (T_api_Versions.v x0)), (1, (.int .u64 x1))] a := hE
  refine C.seq ?_
  refine C.region ?_
  refine hE.op (X.box hE rfl) H fun x2 w a H hE => ?_
  refine hE.pur (X.assign hE rfl) fun a hE => ?_
  refine C.nil (tn ?_)
  refine C.seq ?_
  refine C.region ?_
  refine hE.op (X.load hE rfl) H fun x6 w a H hE => ?_
  refine hE.call (X.callF hE ent17 rfl rfl) H fun e w H => ?_
  obtain ⟨r, rfl, H⟩ := H
  refine ⟨_, rfl, fun a hE => ?_⟩
  refine hE.pur (X.assign hE rfl) fun a hE => ?_
  refine C.nil (tn ?_)
  refine C.seq ?_
  refine C.seq ?_
  refine C.region ?_
  refine hE.pur (X.move hE rfl) fun a hE => ?_
  refine hE.pur (X.eqI hE rfl rfl) fun a hE => ?_
  refine hE.pur (X.move hE rfl) fun a hE => ?_
  refine WL.join (ds := []) (N := 17) (σ := Bool) (fun s => [(15, (.bool s)), (5, (.int .i64 r))]) (fun s w => V_mvcc_asked_r1 Ret r s w) 5 ?_ (fun hr1 => ?_)
  · intro x15 w a H hE
    try dsimp only at H hE
    unfold V_mvcc_asked_r1 at H
    refine C.nil (tn ?_)
    refine C.condB hE rfl (fun hc => ?_) (fun hc => ?_)
    · replace H := H.1 hc
      refine C.seq ?_
      refine C.region ?_
      refine hE.pur (X.assign hE rfl) fun a hE => ?_
      refine C.nil (tn ?_)
      exact C.ret (tr (C.ret1 hE rfl rfl ⟨_, rfl, H⟩))
    · replace H := H.2 hc
      refine C.skip (tn ?_)
      refine C.seq ?_
      refine C.region ?_
      refine hE.pur (X.move hE rfl) fun a hE => ?_
      refine hE.pur (X.assign hE rfl) fun a hE => ?_
      refine C.nil (tn ?_)
      exact C.ret (C.ret1 hE rfl rfl ⟨_, rfl, H⟩)
  · rcases Classical.em ((r = 0)) with hbr1 | hbr1
    · replace H := H.1 hbr1
      replace hE := hE.bool (b := true) (t := 10) rfl (decide_eq_true hbr1)
      refine hE.on (by rfl) (by rfl) ?_
      refine hE.pur (X.move hE rfl) fun a hE => ?_
      refine hE.on (by rfl) (by rfl) ?_
      refine hE.op (X.fieldAddr hE rfl) H fun x12 w a H hE => ?_
      refine hE.on (by rfl) (by rfl) ?_
      refine hE.op (X.load hE rfl) H fun x13 w a H hE => ?_
      refine hE.on (by rfl) (by rfl) ?_
      refine hE.pur (X.ltI hE rfl rfl) fun a hE => ?_
      refine hE.pur (X.pickT hE rfl rfl) fun a hE => ?_
      exact hr1 (decide (x1 < x13)) _ _ H (hE.weak ⟨rfl, rfl, trivial⟩)
    · replace H := H.2 hbr1
      replace hE := hE.bool (b := false) (t := 10) rfl (decide_eq_false hbr1)
      refine hE.off (by rfl) (by rfl) (by decide) (fun a hE => ?_)
      refine hE.off (by rfl) (by rfl) (by decide) (fun a hE => ?_)
      refine hE.off (by rfl) (by rfl) (by decide) (fun a hE => ?_)
      refine hE.off (by rfl) (by rfl) (by decide) (fun a hE => ?_)
      refine hE.pur (X.pickF hE rfl rfl) fun a hE => ?_
      exact hr1 false _ _ H (hE.weak ⟨rfl, rfl, trivial⟩)
/-! ### slices.ContainsFunc[[]lading api.Write,lading api.Write]: function 40 -/
def V_slices_ContainsFunc_api_Write_api_Write (x0 : Sl) (x1 : Value) (w : World) (Ret : Bool → World → Prop) : Prop :=
  Cl Try.prog 50 [(Sl.v x0), x1].toArray w (fun e w => ∃ (r : Int), e = .returned (.int .i64 r) ∧ (Ret (decide (0 ≤ r)) w))
set_option maxRecDepth 100000 in
theorem L1_slices_ContainsFunc_api_Write_api_Write (x0 : Sl) (x1 : Value) (w : World) (Ret : Bool → World → Prop) (H : V_slices_ContainsFunc_api_Write_api_Write x0 x1 w Ret) : Cl Try.prog 40 [(Sl.v x0), x1].toArray w (fun e w' => ∃ (r0 : Bool), e = .returned (.bool r0) ∧ Ret r0 w') := by
  unfold V_slices_ContainsFunc_api_Write_api_Write at H
  refine C.enter 9 (zipE 0 [(Sl.v x0), x1]) Try.func40 rfl rfl (by rfl) rfl ?_
  intro a hE
  replace hE : Sat [] 9 [(0, (Sl.v x0)), (1, x1)] a := hE
  refine C.seq ?_
  refine C.region ?_
  refine hE.pur (X.assign hE rfl) fun a hE => ?_
  refine C.nil (tn ?_)
  refine C.seq ?_
  refine C.region ?_
  refine hE.pur (X.move hE rfl) fun a hE => ?_
  refine hE.pur (X.move hE rfl) fun a hE => ?_
  refine hE.call (X.callF hE ent50 rfl rfl) H fun e w H => ?_
  obtain ⟨r, rfl, H⟩ := H
  refine ⟨_, rfl, fun a hE => ?_⟩
  refine hE.pur (X.geI hE rfl rfl) fun a hE => ?_
  refine hE.pur (X.assign hE rfl) fun a hE => ?_
  refine C.nil (tn ?_)
  exact C.ret (C.ret1 hE rfl rfl ⟨_, rfl, H⟩)
/-! ### lading mvcc.wrong$1: function 41 -/
def V_mvcc_wrong_1_r1 (Ret : Bool → World → Prop) (x12 : Bool) (w : World) : Prop :=
  Ret x12 w
def V_mvcc_wrong_1 (x0 : T_api_Write) (w : World) (Ret : Bool → World → Prop) : Prop :=
  opE Try.prog Value.pointer (Instr.box 52 (T_api_Write.v x0)) w (fun x1 w => opE Try.prog Value.pointer (Instr.fieldAt 52 (.pointer x1) 0) w (fun x3 w => opE Try.prog Value.string (Instr.loadAt 9 (.pointer x3)) w (fun x4 w => ((256 < (x4.size : Int)) → (V_mvcc_wrong_1_r1 Ret true w)) ∧ (¬ (256 < (x4.size : Int)) → (opE Try.prog Value.pointer (Instr.fieldAt 52 (.pointer x1) 1) w (fun x8 w => opE Try.prog Value.string (Instr.loadAt 9 (.pointer x8)) w (fun x9 w => V_mvcc_wrong_1_r1 Ret (decide (512 < (x9.size : Int))) w)))))))
set_option maxRecDepth 100000 in
theorem L1_mvcc_wrong_1 (x0 : T_api_Write) (w : World) (Ret : Bool → World → Prop) (H : V_mvcc_wrong_1 x0 w Ret) : Cl Try.prog 41 [(T_api_Write.v x0)].toArray w (fun e w' => ∃ (r0 : Bool), e = .returned (.bool r0) ∧ Ret r0 w') := by
  unfold V_mvcc_wrong_1 at H
  refine C.enter 13 (zipE 0 [(T_api_Write.v x0)]) Try.func41 rfl rfl (by rfl) rfl ?_
  intro a hE
  replace hE : Sat [] 13 [(0, (T_api_Write.v x0))] a := hE
  refine C.seq ?_
  refine C.region ?_
  refine hE.op (X.box hE rfl) H fun x1 w a H hE => ?_
  refine hE.pur (X.assign hE rfl) fun a hE => ?_
  refine C.nil (tn ?_)
  refine C.seq ?_
  refine C.region ?_
  refine hE.op (X.fieldAddr hE rfl) H fun x3 w a H hE => ?_
  refine hE.op (X.load hE rfl) H fun x4 w a H hE => ?_
  refine hE.purR (fun w => X.lenS hE Try.underlying9 rfl) fun a hE => ?_
  refine hE.pur (X.gtI hE rfl rfl) fun a hE => ?_
  refine hE.pur (X.move hE rfl) fun a hE => ?_
  refine WL.join (ds := []) (N := 13) (σ := Bool) (fun s => [(12, (.bool s))]) (fun s w => V_mvcc_wrong_1_r1 Ret s w) 5 ?_ (fun hr1 => ?_)
  · intro x12 w a H hE
    try dsimp only at H hE
    unfold V_mvcc_wrong_1_r1 at H
    refine hE.pur (X.assign hE rfl) fun a hE => ?_
    refine C.nil (tn ?_)
    exact C.ret (C.ret1 hE rfl rfl ⟨_, rfl, H⟩)
  · rcases Classical.em ((256 < (x4.size : Int))) with hbr1 | hbr1
    · replace H := H.1 hbr1
      replace hE := hE.bool (b := true) (t := 7) rfl (decide_eq_true hbr1)
      refine hE.off (by rfl) (by rfl) (by decide) (fun a hE => ?_)
      refine hE.off (by rfl) (by rfl) (by decide) (fun a hE => ?_)
      refine hE.off (by rfl) (by rfl) (by decide) (fun a hE => ?_)
      refine hE.off (by rfl) (by rfl) (by decide) (fun a hE => ?_)
      refine hE.pur (X.pickT hE rfl rfl) fun a hE => ?_
      exact hr1 true _ _ H (hE.weak ⟨rfl, trivial⟩)
    · replace H := H.2 hbr1
      replace hE := hE.bool (b := false) (t := 7) rfl (decide_eq_false hbr1)
      refine hE.on (by rfl) (by rfl) ?_
      refine hE.op (X.fieldAddr hE rfl) H fun x8 w a H hE => ?_
      refine hE.on (by rfl) (by rfl) ?_
      refine hE.op (X.load hE rfl) H fun x9 w a H hE => ?_
      refine hE.on (by rfl) (by rfl) ?_
      refine hE.purR (fun w => X.lenS hE Try.underlying9 rfl) fun a hE => ?_
      refine hE.on (by rfl) (by rfl) ?_
      refine hE.pur (X.gtI hE rfl rfl) fun a hE => ?_
      refine hE.pur (X.pickF hE rfl rfl) fun a hE => ?_
      exact hr1 (decide (512 < (x9.size : Int))) _ _ H (hE.weak ⟨rfl, trivial⟩)
/-! ### slices.IndexFunc[[]lading api.Version,lading api.Version]: function 42 -/
def V_slices_IndexFunc_api_Version_api_Version_l1b (x0 : Sl) (x1 : Value) (Ret : Int → World → Prop) (x8 : Int) (w : World) (Kl1 : Int → World → Prop) : Prop :=
  ((x8 < (x0.len : Int)) → (opE Try.prog Value.pointer (Instr.indexAt 22 (Sl.v x0) (.int .i64 x8)) w (fun x14 w => opE Try.prog T_api_Version.v (Instr.loadAt 37 (.pointer x14)) w (fun x15 w => CallV Try.prog x1 [(T_api_Version.v x15)] w (fun e w => ∃ (r : Bool), e = .returned (.bool r) ∧ ((r = true → (Ret x8 w)) ∧ (r = false → (Kl1 (IntKind.wrap .i64 (x8 + 1)) w)))))))) ∧ (¬ (x8 < (x0.len : Int)) → (Ret (-1) w))
def V_slices_IndexFunc_api_Version_api_Version (x0 : Sl) (x1 : Value) (w : World) (Ret : Int → World → Prop) : Prop :=
  ∃ (I : Int → World → Prop) (μ : Int → World → Nat), I 0 w ∧ ∀ (x8 : Int) w, I x8 w → V_slices_IndexFunc_api_Version_api_Version_l1b x0 x1 Ret x8 w (fun x8' w' => I x8' w' ∧ μ x8' w' < μ x8 w)
set_option maxRecDepth 100000 in
theorem L1_slices_IndexFunc_api_Version_api_Version (x0 : Sl) (x1 : Value) (w : World) (Ret : Int → World → Prop) (H : V_slices_IndexFunc_api_Version_api_Version x0 x1 w Ret) : Cl Try.prog 42 [(Sl.v x0), x1].toArray w (fun e w' => ∃ (r0 : Int), e = .returned (.int .i64 r0) ∧ Ret r0 w') := by
  unfold V_slices_IndexFunc_api_Version_api_Version at H
  refine C.enter 19 (zipE 0 [(Sl.v x0), x1]) Try.func42 rfl rfl (by rfl) rfl ?_
  intro a hE
  replace hE : Sat [] 19 [(0, (Sl.v x0)), (1, x1)] a := hE
  refine C.seq ?_
  refine C.region ?_
  refine hE.pur (X.assign hE rfl) fun a hE => ?_
  refine C.nil (tn ?_)
  refine C.seq ?_
  refine C.seq ?_
  refine C.region ?_
  refine hE.pur (X.move hE rfl) fun a hE => ?_
  refine hE.purR (fun w => X.lenL hE Try.underlying22 rfl) fun a hE => ?_
  refine hE.pur (X.move hE rfl) fun a hE => ?_
  refine C.nil (tn ?_)
  refine C.block ?_
  obtain ⟨I_l1, μ_l1, h0, hb⟩ := H
  refine C.loop (ds := []) (N := 19) (σ := Int) (fun s => [(8, (.int .i64 s)), (0, (Sl.v x0)), (1, x1), (7, (.int .i64 (x0.len : Int)))]) (fun s w => I_l1 s w) (fun s w => μ_l1 s w) 0 h0 (hE.weak ⟨rfl, rfl, rfl, rfl, trivial⟩) ?_
  intro x8 w a hI hE
  try dsimp only at hI hE
  obtain ⟨Kl1, hK_l1⟩ : ∃ K : Int → World → Prop, K = (fun x8' w' => I_l1 x8' w' ∧ μ_l1 x8' w' < μ_l1 x8 w) := ⟨_, rfl⟩
  have H : V_slices_IndexFunc_api_Version_api_Version_l1b x0 x1 Ret x8 w Kl1 := by rw [hK_l1]; exact hb x8 w hI
  clear hb h0 hI
  unfold V_slices_IndexFunc_api_Version_api_Version_l1b at H
  refine C.seq ?_
  refine C.region ?_
  refine hE.pur (X.ltI hE rfl rfl) fun a hE => ?_
  refine C.nil (tn ?_)
  refine C.seq ?_
  refine C.condP hE rfl (fun hc => ?_) (fun hc => ?_)
  · replace H := H.1 hc
    refine C.skip (tn ?_)
    refine C.seq ?_
    refine C.block ?_
    refine C.seq ?_
    refine C.region ?_
    refine hE.pur (X.move hE rfl) fun a hE => ?_
    refine hE.pur (X.assign hE rfl) fun a hE => ?_
    refine C.nil (tn ?_)
    refine C.seq ?_
    refine C.region ?_
    refine hE.pur (X.move hE rfl) fun a hE => ?_
    refine hE.pur (X.move hE rfl) fun a hE => ?_
    refine hE.pur (X.move hE rfl) fun a hE => ?_
    refine hE.op (X.indexAddr hE rfl rfl) H fun x14 w a H hE => ?_
    refine hE.op (X.load hE rfl) H fun x15 w a H hE => ?_
    refine hE.callV rfl rfl H fun e w H => ?_
    obtain ⟨r, rfl, H⟩ := H
    refine ⟨_, rfl, fun a hE => ?_⟩
    refine C.nil (tn ?_)
    refine C.condB hE rfl (fun hc => ?_) (fun hc => ?_)
    · replace H := H.1 hc
      refine C.seq ?_
      refine C.region ?_
      refine hE.pur (X.move hE rfl) fun a hE => ?_
      refine hE.pur (X.assign hE rfl) fun a hE => ?_
      refine C.nil (tn ?_)
      exact C.ret (br (tr (tr (br (tr (C.ret1 hE rfl rfl ⟨_, rfl, H⟩))))))
    · replace H := H.2 hc
      refine C.skip (bn (tn ?_))
      refine C.region ?_
      refine hE.pur (X.add hE rfl rfl) fun a hE => ?_
      refine hE.pur (X.move hE rfl) fun a hE => ?_
      rw [hK_l1] at H
      exact C.nil (tn ⟨(IntKind.wrap .i64 (x8 + 1)), hE.weak ⟨rfl, rfl, rfl, rfl, trivial⟩, H⟩)
  · replace H := H.2 hc
    refine C.exit (te (te (be (tn ?_))))
    refine C.seq ?_
    refine C.region ?_
    refine hE.pur (X.assign hE rfl) fun a hE => ?_
    refine C.nil (tn ?_)
    exact C.ret (C.ret1 hE rfl rfl ⟨_, rfl, H⟩)
/-! ### cmp.Or[int]: function 45 -/
def V_cmp_Or_int_l1b (x0 : Sl) (Ret : Int → World → Prop) (x8 : Int) (w : World) (Kl1 : Int → World → Prop) : Prop :=
  ((x8 < (x0.len : Int)) → (opE Try.prog Value.pointer (Instr.indexAt 98 (Sl.v x0) (.int .i64 x8)) w (fun x10 w => opE Try.prog (Value.int .i64) (Instr.loadAt 3 (.pointer x10)) w (fun x11 w => ((x11 ≠ 0) → (Ret x11 w)) ∧ (¬ (x11 ≠ 0) → (Kl1 (IntKind.wrap .i64 (x8 + 1)) w)))))) ∧ (¬ (x8 < (x0.len : Int)) → (Ret 0 w))
def V_cmp_Or_int (x0 : Sl) (w : World) (Ret : Int → World → Prop) : Prop :=
  ∃ (I : Int → World → Prop) (μ : Int → World → Nat), I 0 w ∧ ∀ (x8 : Int) w, I x8 w → V_cmp_Or_int_l1b x0 Ret x8 w (fun x8' w' => I x8' w' ∧ μ x8' w' < μ x8 w)
set_option maxRecDepth 100000 in
theorem L1_cmp_Or_int (x0 : Sl) (w : World) (Ret : Int → World → Prop) (H : V_cmp_Or_int x0 w Ret) : Cl Try.prog 45 [(Sl.v x0)].toArray w (fun e w' => ∃ (r0 : Int), e = .returned (.int .i64 r0) ∧ Ret r0 w') := by
  unfold V_cmp_Or_int at H
  refine C.enter 18 (zipE 0 [(Sl.v x0)]) Try.func45 rfl rfl (by rfl) rfl ?_
  intro a hE
  replace hE : Sat [] 18 [(0, (Sl.v x0))] a := hE
  refine C.seq ?_
  refine C.region ?_
  refine hE.pur (X.assign hE rfl) fun a hE => ?_
  refine C.nil (tn ?_)
  refine C.seq ?_
  refine C.region ?_
  refine hE.pur (X.assign hE rfl) fun a hE => ?_
  refine C.nil (tn ?_)
  refine C.seq ?_
  refine C.seq ?_
  refine C.region ?_
  refine hE.pur (X.move hE rfl) fun a hE => ?_
  refine hE.purR (fun w => X.lenL hE Try.underlying98 rfl) fun a hE => ?_
  refine hE.pur (X.move hE rfl) fun a hE => ?_
  refine C.nil (tn ?_)
  refine C.block ?_
  obtain ⟨I_l1, μ_l1, h0, hb⟩ := H
  refine C.loop (ds := []) (N := 18) (σ := Int) (fun s => [(8, (.int .i64 s)), (3, (.int .i64 0)), (6, (Sl.v x0)), (7, (.int .i64 (x0.len : Int)))]) (fun s w => I_l1 s w) (fun s w => μ_l1 s w) 0 h0 (hE.weak ⟨rfl, rfl, rfl, rfl, trivial⟩) ?_
  intro x8 w a hI hE
  try dsimp only at hI hE
  obtain ⟨Kl1, hK_l1⟩ : ∃ K : Int → World → Prop, K = (fun x8' w' => I_l1 x8' w' ∧ μ_l1 x8' w' < μ_l1 x8 w) := ⟨_, rfl⟩
  have H : V_cmp_Or_int_l1b x0 Ret x8 w Kl1 := by rw [hK_l1]; exact hb x8 w hI
  clear hb h0 hI
  unfold V_cmp_Or_int_l1b at H
  refine C.seq ?_
  refine C.region ?_
  refine hE.pur (X.ltI hE rfl rfl) fun a hE => ?_
  refine C.nil (tn ?_)
  refine C.seq ?_
  refine C.condP hE rfl (fun hc => ?_) (fun hc => ?_)
  · replace H := H.1 hc
    refine C.skip (tn ?_)
    refine C.seq ?_
    refine C.block ?_
    refine C.seq ?_
    refine C.region ?_
    refine hE.op (X.indexAddr hE rfl rfl) H fun x10 w a H hE => ?_
    refine hE.op (X.load hE rfl) H fun x11 w a H hE => ?_
    refine hE.pur (X.assign hE rfl) fun a hE => ?_
    refine C.nil (tn ?_)
    refine C.seq ?_
    refine C.region ?_
    refine hE.pur (X.move hE rfl) fun a hE => ?_
    refine hE.pur (X.move hE rfl) fun a hE => ?_
    refine hE.pur (X.neI hE rfl rfl) fun a hE => ?_
    refine C.nil (tn ?_)
    refine C.condP hE rfl (fun hc => ?_) (fun hc => ?_)
    · replace H := H.1 hc
      refine C.seq ?_
      refine C.region ?_
      refine hE.pur (X.move hE rfl) fun a hE => ?_
      refine hE.pur (X.assign hE rfl) fun a hE => ?_
      refine C.nil (tn ?_)
      exact C.ret (br (tr (tr (br (tr (C.ret1 hE rfl rfl ⟨_, rfl, H⟩))))))
    · replace H := H.2 hc
      refine C.skip (bn (tn ?_))
      refine C.region ?_
      refine hE.pur (X.add hE rfl rfl) fun a hE => ?_
      refine hE.pur (X.move hE rfl) fun a hE => ?_
      rw [hK_l1] at H
      exact C.nil (tn ⟨(IntKind.wrap .i64 (x8 + 1)), hE.weak ⟨rfl, rfl, rfl, rfl, trivial⟩, H⟩)
  · replace H := H.2 hc
    refine C.exit (te (te (be (tn ?_))))
    refine C.seq ?_
    refine C.region ?_
    refine hE.pur (X.move hE rfl) fun a hE => ?_
    refine hE.pur (X.assign hE rfl) fun a hE => ?_
    refine C.nil (tn ?_)
    exact C.ret (C.ret1 hE rfl rfl ⟨_, rfl, H⟩)
/-! ### cmp.Compare[string]: function 46 -/
def V_cmp_Compare_string (x0 : ByteArray) (x1 : ByteArray) (w : World) (Ret : Int → World → Prop) : Prop :=
  Cl Try.prog 61 [(.string x0)].toArray w (fun e w => ∃ (r : Bool), e = .returned (.bool r) ∧ (Cl Try.prog 61 [(.string x1)].toArray w (fun e w => ∃ (r_1 : Bool), e = .returned (.bool r_1) ∧ ((r = true → ((r_1 = true → (Ret 0 w)) ∧ (r_1 = false → (Ret (-1) w)))) ∧ (r = false → ((r_1 = true → (Ret 1 w)) ∧ (r_1 = false → (((sLt x0 x1) = true → (Ret (-1) w)) ∧ ((sLt x0 x1) = false → (((!(sLt x0 x1 || decide (x0 = x1))) = true → (Ret 1 w)) ∧ ((!(sLt x0 x1 || decide (x0 = x1))) = false → (Ret 0 w))))))))))))
set_option maxRecDepth 100000 in
theorem L1_cmp_Compare_string (x0 : ByteArray) (x1 : ByteArray) (w : World) (Ret : Int → World → Prop) (H : V_cmp_Compare_string x0 x1 w Ret) : Cl Try.prog 46 [(.string x0), (.string x1)].toArray w (fun e w' => ∃ (r0 : Int), e = .returned (.int .i64 r0) ∧ Ret r0 w') := by
  unfold V_cmp_Compare_string at H
  refine C.enter 20 (zipE 0 [(.string x0), (.string x1)]) Try.func46 rfl rfl (by rfl) rfl ?_
  intro a hE
  replace hE : Sat [] 20 [(0, (.string x0)), (1, (.string x1))] a := hE
  refine C.seq ?_
  refine C.region ?_
  refine hE.pur (X.assign hE rfl) fun a hE => ?_
  refine C.nil (tn ?_)
  refine C.seq ?_
  refine C.region ?_
  refine hE.pur (X.move hE rfl) fun a hE => ?_
  refine hE.call (X.callF hE ent61 rfl rfl) H fun e w H => ?_
  obtain ⟨r, rfl, H⟩ := H
  refine ⟨_, rfl, fun a hE => ?_⟩
  refine hE.pur (X.assign hE rfl) fun a hE => ?_
  refine C.nil (tn ?_)
  refine C.seq ?_
  refine C.region ?_
  refine hE.pur (X.move hE rfl) fun a hE => ?_
  refine hE.call (X.callF hE ent61 rfl rfl) H fun e w H => ?_
  obtain ⟨r_1, rfl, H⟩ := H
  refine ⟨_, rfl, fun a hE => ?_⟩
  refine hE.pur (X.assign hE rfl) fun a hE => ?_
  refine C.nil (tn ?_)
  refine C.seq ?_
  refine C.seq ?_
  refine C.region ?_
  refine hE.pur (X.move hE rfl) fun a hE => ?_
  refine C.nil (tn ?_)
  refine C.condB hE rfl (fun hc => ?_) (fun hc => ?_)
  · replace H := H.1 hc
    refine C.seq ?_
    refine C.seq ?_
    refine C.region ?_
    refine hE.pur (X.move hE rfl) fun a hE => ?_
    refine C.nil (tn ?_)
    refine C.condB hE rfl (fun hc => ?_) (fun hc => ?_)
    · replace H := H.1 hc
      refine C.seq ?_
      refine C.region ?_
      refine hE.pur (X.assign hE rfl) fun a hE => ?_
      refine C.nil (tn ?_)
      exact C.ret (tr (tr (C.ret1 hE rfl rfl ⟨_, rfl, H⟩)))
    · replace H := H.2 hc
      refine C.skip (tn ?_)
      refine C.seq ?_
      refine C.region ?_
      refine hE.pur (X.assign hE rfl) fun a hE => ?_
      refine C.nil (tn ?_)
      exact C.ret (tr (C.ret1 hE rfl rfl ⟨_, rfl, H⟩))
  · replace H := H.2 hc
    refine C.skip (tn ?_)
    refine C.seq ?_
    refine C.seq ?_
    refine C.region ?_
    refine hE.pur (X.move hE rfl) fun a hE => ?_
    refine C.nil (tn ?_)
    refine C.condB hE rfl (fun hc => ?_) (fun hc => ?_)
    · replace H := H.1 hc
      refine C.seq ?_
      refine C.region ?_
      refine hE.pur (X.assign hE rfl) fun a hE => ?_
      refine C.nil (tn ?_)
      exact C.ret (tr (C.ret1 hE rfl rfl ⟨_, rfl, H⟩))
    · replace H := H.2 hc
      refine C.skip (tn ?_)
      refine C.seq ?_
      refine C.seq ?_
      refine C.region ?_
      refine hE.pur (X.move hE rfl) fun a hE => ?_
      refine hE.pur (X.move hE rfl) fun a hE => ?_
      refine hE.pur (X.ltS hE rfl rfl) fun a hE => ?_
      refine C.nil (tn ?_)
      refine C.condB hE rfl (fun hc => ?_) (fun hc => ?_)
      · replace H := H.1 hc
        refine C.seq ?_
        refine C.region ?_
        refine hE.pur (X.assign hE rfl) fun a hE => ?_
        refine C.nil (tn ?_)
        exact C.ret (tr (C.ret1 hE rfl rfl ⟨_, rfl, H⟩))
      · replace H := H.2 hc
        refine C.skip (tn ?_)
        refine C.seq ?_
        refine C.seq ?_
        refine C.region ?_
        refine hE.pur (X.move hE rfl) fun a hE => ?_
        refine hE.pur (X.move hE rfl) fun a hE => ?_
        refine hE.pur (X.gtS hE rfl rfl) fun a hE => ?_
        refine C.nil (tn ?_)
        refine C.condB hE rfl (fun hc => ?_) (fun hc => ?_)
        · replace H := H.1 hc
          refine C.seq ?_
          refine C.region ?_
          refine hE.pur (X.assign hE rfl) fun a hE => ?_
          refine C.nil (tn ?_)
          exact C.ret (tr (C.ret1 hE rfl rfl ⟨_, rfl, H⟩))
        · replace H := H.2 hc
          refine C.skip (tn ?_)
          refine C.seq ?_
          refine C.region ?_
          refine hE.pur (X.assign hE rfl) fun a hE => ?_
          refine C.nil (tn ?_)
          exact C.ret (C.ret1 hE rfl rfl ⟨_, rfl, H⟩)
/-! ### cmp.Compare[uint64]: function 47 -/
def V_cmp_Compare_uint64 (x0 : Int) (x1 : Int) (w : World) (Ret : Int → World → Prop) : Prop :=
  Cl Try.prog 62 [(.int .u64 x0)].toArray w (fun e w => ∃ (r : Bool), e = .returned (.bool r) ∧ (Cl Try.prog 62 [(.int .u64 x1)].toArray w (fun e w => ∃ (r_1 : Bool), e = .returned (.bool r_1) ∧ ((r = true → ((r_1 = true → (Ret 0 w)) ∧ (r_1 = false → (Ret (-1) w)))) ∧ (r = false → ((r_1 = true → (Ret 1 w)) ∧ (r_1 = false → (((x0 < x1) → (Ret (-1) w)) ∧ (¬ (x0 < x1) → (((x1 < x0) → (Ret 1 w)) ∧ (¬ (x1 < x0) → (Ret 0 w))))))))))))
set_option maxRecDepth 100000 in
theorem L1_cmp_Compare_uint64 (x0 : Int) (x1 : Int) (w : World) (Ret : Int → World → Prop) (H : V_cmp_Compare_uint64 x0 x1 w Ret) : Cl Try.prog 47 [(.int .u64 x0), (.int .u64 x1)].toArray w (fun e w' => ∃ (r0 : Int), e = .returned (.int .i64 r0) ∧ Ret r0 w') := by
  unfold V_cmp_Compare_uint64 at H
  refine C.enter 20 (zipE 0 [(.int .u64 x0), (.int .u64 x1)]) Try.func47 rfl rfl (by rfl) rfl ?_
  intro a hE
  replace hE : Sat [] 20 [(0, (.int .u64 x0)), (1, (.int .u64 x1))] a := hE
  refine C.seq ?_
  refine C.region ?_
  refine hE.pur (X.assign hE rfl) fun a hE => ?_
  refine C.nil (tn ?_)
  refine C.seq ?_
  refine C.region ?_
  refine hE.pur (X.move hE rfl) fun a hE => ?_
  refine hE.call (X.callF hE ent62 rfl rfl) H fun e w H => ?_
  obtain ⟨r, rfl, H⟩ := H
  refine ⟨_, rfl, fun a hE => ?_⟩
  refine hE.pur (X.assign hE rfl) fun a hE => ?_
  refine C.nil (tn ?_)
  refine C.seq ?_
  refine C.region ?_
  refine hE.pur (X.move hE rfl) fun a hE => ?_
  refine hE.call (X.callF hE ent62 rfl rfl) H fun e w H => ?_
  obtain ⟨r_1, rfl, H⟩ := H
  refine ⟨_, rfl, fun a hE => ?_⟩
  refine hE.pur (X.assign hE rfl) fun a hE => ?_
  refine C.nil (tn ?_)
  refine C.seq ?_
  refine C.seq ?_
  refine C.region ?_
  refine hE.pur (X.move hE rfl) fun a hE => ?_
  refine C.nil (tn ?_)
  refine C.condB hE rfl (fun hc => ?_) (fun hc => ?_)
  · replace H := H.1 hc
    refine C.seq ?_
    refine C.seq ?_
    refine C.region ?_
    refine hE.pur (X.move hE rfl) fun a hE => ?_
    refine C.nil (tn ?_)
    refine C.condB hE rfl (fun hc => ?_) (fun hc => ?_)
    · replace H := H.1 hc
      refine C.seq ?_
      refine C.region ?_
      refine hE.pur (X.assign hE rfl) fun a hE => ?_
      refine C.nil (tn ?_)
      exact C.ret (tr (tr (C.ret1 hE rfl rfl ⟨_, rfl, H⟩)))
    · replace H := H.2 hc
      refine C.skip (tn ?_)
      refine C.seq ?_
      refine C.region ?_
      refine hE.pur (X.assign hE rfl) fun a hE => ?_
      refine C.nil (tn ?_)
      exact C.ret (tr (C.ret1 hE rfl rfl ⟨_, rfl, H⟩))
  · replace H := H.2 hc
    refine C.skip (tn ?_)
    refine C.seq ?_
    refine C.seq ?_
    refine C.region ?_
    refine hE.pur (X.move hE rfl) fun a hE => ?_
    refine C.nil (tn ?_)
    refine C.condB hE rfl (fun hc => ?_) (fun hc => ?_)
    · replace H := H.1 hc
      refine C.seq ?_
      refine C.region ?_
      refine hE.pur (X.assign hE rfl) fun a hE => ?_
      refine C.nil (tn ?_)
      exact C.ret (tr (C.ret1 hE rfl rfl ⟨_, rfl, H⟩))
    · replace H := H.2 hc
      refine C.skip (tn ?_)
      refine C.seq ?_
      refine C.seq ?_
      refine C.region ?_
      refine hE.pur (X.move hE rfl) fun a hE => ?_
      refine hE.pur (X.move hE rfl) fun a hE => ?_
      refine hE.pur (X.ltI hE rfl rfl) fun a hE => ?_
      refine C.nil (tn ?_)
      refine C.condP hE rfl (fun hc => ?_) (fun hc => ?_)
      · replace H := H.1 hc
        refine C.seq ?_
        refine C.region ?_
        refine hE.pur (X.assign hE rfl) fun a hE => ?_
        refine C.nil (tn ?_)
        exact C.ret (tr (C.ret1 hE rfl rfl ⟨_, rfl, H⟩))
      · replace H := H.2 hc
        refine C.skip (tn ?_)
        refine C.seq ?_
        refine C.seq ?_
        refine C.region ?_
        refine hE.pur (X.move hE rfl) fun a hE => ?_
        refine hE.pur (X.move hE rfl) fun a hE => ?_
        refine hE.pur (X.gtI hE rfl rfl) fun a hE => ?_
        refine C.nil (tn ?_)
        refine C.condP hE rfl (fun hc => ?_) (fun hc => ?_)
        · replace H := H.1 hc
          refine C.seq ?_
          refine C.region ?_
          refine hE.pur (X.assign hE rfl) fun a hE => ?_
          refine C.nil (tn ?_)
          exact C.ret (tr (C.ret1 hE rfl rfl ⟨_, rfl, H⟩))
        · replace H := H.2 hc
          refine C.skip (tn ?_)
          refine C.seq ?_
          refine C.region ?_
          refine hE.pur (X.assign hE rfl) fun a hE => ?_
          refine C.nil (tn ?_)
          exact C.ret (C.ret1 hE rfl rfl ⟨_, rfl, H⟩)
/-! ### slices.BinarySearchFunc[[]lading api.Version,lading api.Version,lading api.Version]: function 49 -/
def V_slices_BinarySearchFunc_api_Version_api_Version_api_Version_r2 (Ret : Int → Bool → World → Prop) (x9 : Int) (x48 : Bool) (w : World) : Prop :=
  nextB w (fun w => Ret x9 x48 w)
def V_slices_BinarySearchFunc_api_Version_api_Version_api_Version_l1b (x0 : Sl) (x2 : Value) (Ret : Int → Bool → World → Prop) (x4 : Option Addr) (x9 : Int) (x10 : Int) (w : World) (Kl1 : Int → Int → World → Prop) : Prop :=
  ((x9 < x10) → (opE Try.prog (Value.int .u64) (Go.convert 3 80 (.int .i64 (IntKind.wrap .i64 (x9 + x10)))) w (fun x21 w => opE Try.prog (Value.int .u64) (binOp .shr 80 (.int .u64 x21) (.int .u64 1)) w (fun x22 w => opE Try.prog (Value.int .i64) (Go.convert 80 3 (.int .u64 x22)) w (fun x23 w => opB Try.prog Value.pointer (Instr.indexAt 22 (Sl.v x0) (.int .i64 x23)) w (fun x27 => opB Try.prog T_api_Version.v (Instr.loadAt 37 (.pointer x27)) w (fun x28 => opB Try.prog T_api_Version.v (Instr.loadAt 37 (.pointer x4)) w (fun x29 => ∃ (r : Int), CallQ Try.prog x2 [(T_api_Version.v x28), (T_api_Version.v x29)] w (.int .i64 r) ∧ (nextB w (fun w => ((r < 0) → (Kl1 (IntKind.wrap .i64 (x23 + 1)) x10 w)) ∧ (¬ (r < 0) → (Kl1 x9 x23 w)))))))))))) ∧ (¬ (x9 < x10) → (((x9 < (x0.len : Int)) → (opB Try.prog Value.pointer (Instr.indexAt 22 (Sl.v x0) (.int .i64 x9)) w (fun x43 => opB Try.prog T_api_Version.v (Instr.loadAt 37 (.pointer x43)) w (fun x44 => opB Try.prog T_api_Version.v (Instr.loadAt 37 (.pointer x4)) w (fun x45 => ∃ (r_1 : Int), CallQ Try.prog x2 [(T_api_Version.v x44), (T_api_Version.v x45)] w (.int .i64 r_1) ∧ (V_slices_BinarySearchFunc_api_Version_api_Version_api_Version_r2 Ret x9 (decide (r_1 = 0)) w)))))) ∧ (¬ (x9 < (x0.len : Int)) → (V_slices_BinarySearchFunc_api_Version_api_Version_api_Version_r2 Ret x9 false w))))
def V_slices_BinarySearchFunc_api_Version_api_Version_api_Version (x0 : Sl) (x1 : T_api_Version) (x2 : Value) (w : World) (Ret : Int → Bool → World → Prop) : Prop :=
  opE Try.prog Value.pointer (Instr.box 37 (T_api_Version.v x1)) w (fun x4 w => ∃ (I : Int → Int → World → Prop) (μ : Int → Int → World → Nat), I 0 (x0.len : Int) w ∧ ∀ (x9 : Int) (x10 : Int) w, I x9 x10 w → V_slices_BinarySearchFunc_api_Version_api_Version_api_Version_l1b x0 x2 Ret x4 x9 x10 w (fun x9' x10' w' => I x9' x10' w' ∧ μ x9' x10' w' < μ x9 x10 w))
set_option maxRecDepth 100000 in
theorem L1_slices_BinarySearchFunc_api_Version_api_Version_api_Version (x0 : Sl) (x1 : T_api_Version) (x2 : Value) (w : World) (Ret : Int → Bool → World → Prop) (H : V_slices_BinarySearchFunc_api_Version_api_Version_api_Version x0 x1 x2 w Ret) : Cl Try.prog 49 [(Sl.v x0), (T_api_Version.v x1), x2].toArray w (fun e w' => ∃ (r0 : Int) (r1 : Bool), e = .returned (.tuple [(.int .i64 r0), (.bool r1)].toArray) ∧ Ret r0 r1 w') := by
  unfold V_slices_BinarySearchFunc_api_Version_api_Version_api_Version at H
  refine C.enter 49 (zipE 0 [(Sl.v x0), (T_api_Version.v x1), x2]) Try.func49 rfl rfl (by rfl) rfl ?_
  intro a hE
  replace hE : Sat [] 49 [(0, (Sl.v x0)), (1, (T_api_Version.v x1)), (2, x2)] a := hE
  refine C.seq ?_
  refine C.region ?_
  refine hE.op (X.box hE rfl) H fun x4 w a H hE => ?_
  refine hE.pur (X.assign hE rfl) fun a hE => ?_
  refine hE.pur (X.assign hE rfl) fun a hE => ?_
  refine C.nil (tn ?_)
  refine C.seq ?_
  refine C.region ?_
  refine hE.pur (X.move hE rfl) fun a hE => ?_
  refine hE.purR (fun w => X.lenL hE Try.underlying22 rfl) fun a hE => ?_
  refine hE.pur (X.assign hE rfl) fun a hE => ?_
  refine C.nil (tn ?_)
  refine C.seq ?_
  refine C.region ?_
  refine hE.pur (X.move hE rfl) fun a hE => ?_
  refine hE.pur (X.assign hE rfl) fun a hE => ?_
  refine hE.pur (X.assign hE rfl) fun a hE => ?_
  refine C.nil (tn ?_)
  refine C.seq ?_
  refine C.block ?_
  obtain ⟨I_l1, μ_l1, h0, hb⟩ := H
  refine C.loop (ds := []) (N := 49) (σ := Int × Int) (fun s => [(9, (.int .i64 s.1)), (10, (.int .i64 s.2)), (0, (Sl.v x0)), (2, x2), (4, (.pointer x4)), (8, (.int .i64 (x0.len : Int)))]) (fun s w => I_l1 s.1 s.2 w) (fun s w => μ_l1 s.1 s.2 w) (0, (x0.len : Int)) h0 (hE.weak ⟨rfl, rfl, rfl, rfl, rfl, rfl, trivial⟩) ?_
  rintro ⟨x9, x10⟩ w a hI hE
  try dsimp only at hI hE
  obtain ⟨Kl1, hK_l1⟩ : ∃ K : Int → Int → World → Prop, K = (fun x9' x10' w' => I_l1 x9' x10' w' ∧ μ_l1 x9' x10' w' < μ_l1 x9 x10 w) := ⟨_, rfl⟩
  have H : V_slices_BinarySearchFunc_api_Version_api_Version_api_Version_l1b x0 x2 Ret x4 x9 x10 w Kl1 := by rw [hK_l1]; exact hb x9 x10 w hI
  clear hb h0 hI
  unfold V_slices_BinarySearchFunc_api_Version_api_Version_api_Version_l1b at H
  refine C.seq ?_
  refine C.seq ?_
  refine C.region ?_
  refine hE.pur (X.move hE rfl) fun a hE => ?_
  refine hE.pur (X.move hE rfl) fun a hE => ?_
  refine hE.pur (X.ltI hE rfl rfl) fun a hE => ?_
  refine C.nil (tn ?_)
  refine C.condP hE rfl (fun hc => ?_) (fun hc => ?_)
  · replace H := H.1 hc
    refine C.skip (tn ?_)
    refine C.block ?_
    refine C.seq ?_
    refine C.region ?_
    refine hE.pur (X.move hE rfl) fun a hE => ?_
    refine hE.pur (X.move hE rfl) fun a hE => ?_
    refine hE.pur (X.add hE rfl rfl) fun a hE => ?_
    refine hE.op (X.convert hE rfl) H fun x21 w a H hE => ?_
    refine hE.op (X.binG hE rfl rfl) H fun x22 w a H hE => ?_
    refine hE.op (X.convert hE rfl) H fun x23 w a H hE => ?_
    refine hE.pur (X.assign hE rfl) fun a hE => ?_
    refine C.nil (tn ?_)
    refine C.seq ?_
    refine C.draw (by kernel_rfl) (by kernel_rfl) ?_
    refine hE.qpur (X.move hE rfl) fun a hE => ?_
    refine hE.qpur (X.move hE rfl) fun a hE => ?_
    refine hE.qpur (X.move hE rfl) fun a hE => ?_
    refine hE.qop (X.indexAddr hE rfl rfl) H fun x27 a H hE => ?_
    refine hE.qop (X.load hE rfl) H fun x28 a H hE => ?_
    refine hE.qop (X.load hE rfl) H fun x29 a H hE => ?_
    obtain ⟨r, hc, H⟩ := H
    refine hE.qcallV rfl rfl hc fun a hE => ?_
    refine hE.qpur (X.ltI hE rfl rfl) fun a hE => ?_
    refine C.qnil (fun w hB => ?_)
    replace H := H w hB
    refine (tn ?_)
    refine C.condP hE rfl (fun hc => ?_) (fun hc => ?_)
    · replace H := H.1 hc
      refine C.region ?_
      refine hE.pur (X.move hE rfl) fun a hE => ?_
      refine hE.pur (X.add hE rfl rfl) fun a hE => ?_
      refine hE.pur (X.assign hE rfl) fun a hE => ?_
      rw [hK_l1] at H
      exact C.nil (bn (tn ⟨((IntKind.wrap .i64 (x23 + 1)), x10), hE.weak ⟨rfl, rfl, rfl, rfl, rfl, rfl, trivial⟩, H⟩))
    · replace H := H.2 hc
      refine C.region ?_
      refine hE.pur (X.move hE rfl) fun a hE => ?_
      refine hE.pur (X.assign hE rfl) fun a hE => ?_
      rw [hK_l1] at H
      exact C.nil (bn (tn ⟨(x9, x23), hE.weak ⟨rfl, rfl, rfl, rfl, rfl, rfl, trivial⟩, H⟩))
  · replace H := H.2 hc
    refine C.exit (te (te (be (tn ?_))))
    refine C.seq ?_
    refine C.draw (by kernel_rfl) (by kernel_rfl) ?_
    refine hE.qpur (X.move hE rfl) fun a hE => ?_
    refine hE.qpur (X.move hE rfl) fun a hE => ?_
    refine hE.qpur (X.move hE rfl) fun a hE => ?_
    refine hE.qpur (X.ltI hE rfl rfl) fun a hE => ?_
    refine hE.qpur (X.move hE rfl) fun a hE => ?_
    refine WQ.join (ds := []) (N := 49) (σ := Bool) (fun s => [(48, (.bool s)), (35, (.int .i64 x9))]) (fun s => V_slices_BinarySearchFunc_api_Version_api_Version_api_Version_r2 Ret x9 s w) 9 ?_ (fun hr2 => ?_)
    · intro x48 a H hE
      try dsimp only at H hE
      unfold V_slices_BinarySearchFunc_api_Version_api_Version_api_Version_r2 at H
      refine hE.qpur (X.assign hE rfl) fun a hE => ?_
      refine hE.qpur (X.assign hE rfl) fun a hE => ?_
      refine C.qnil (fun w hB => ?_)
      replace H := H w hB
      refine (tn ?_)
      exact C.ret (C.ret2 hE rfl rfl rfl ⟨_, _, rfl, H⟩)
    · rcases Classical.em ((x9 < (x0.len : Int))) with hbr2 | hbr2
      · replace H := H.1 hbr2
        replace hE := hE.bool (b := true) (t := 39) rfl (decide_eq_true hbr2)
        refine hE.qon (by rfl) (by rfl) ?_
        refine hE.qpur (X.move hE rfl) fun a hE => ?_
        refine hE.qon (by rfl) (by rfl) ?_
        refine hE.qpur (X.move hE rfl) fun a hE => ?_
        refine hE.qon (by rfl) (by rfl) ?_
        refine hE.qpur (X.move hE rfl) fun a hE => ?_
        refine hE.qon (by rfl) (by rfl) ?_
        refine hE.qop (X.indexAddr hE rfl rfl) H fun x43 a H hE => ?_
        refine hE.qon (by rfl) (by rfl) ?_
        refine hE.qop (X.load hE rfl) H fun x44 a H hE => ?_
        refine hE.qon (by rfl) (by rfl) ?_
        refine hE.qop (X.load hE rfl) H fun x45 a H hE => ?_
        refine hE.qon (by rfl) (by rfl) ?_
        obtain ⟨r_1, hc, H⟩ := H
        refine hE.qcallV rfl rfl hc fun a hE => ?_
        refine hE.qon (by rfl) (by rfl) ?_
        refine hE.qpur (X.eqI hE rfl rfl) fun a hE => ?_
        refine hE.qpur (X.pickT hE rfl rfl) fun a hE => ?_
        exact hr2 (decide (r_1 = 0)) _ H (hE.weak ⟨rfl, rfl, trivial⟩)
      · replace H := H.2 hbr2
        replace hE := hE.bool (b := false) (t := 39) rfl (decide_eq_false hbr2)
        refine hE.qoff (by rfl) (by rfl) (by decide) (fun a hE => ?_)
        refine hE.qoff (by rfl) (by rfl) (by decide) (fun a hE => ?_)
        refine hE.qoff (by rfl) (by rfl) (by decide) (fun a hE => ?_)
        refine hE.qoff (by rfl) (by rfl) (by decide) (fun a hE => ?_)
        refine hE.qoff (by rfl) (by rfl) (by decide) (fun a hE => ?_)
        refine hE.qoff (by rfl) (by rfl) (by decide) (fun a hE => ?_)
        refine hE.qoff (by rfl) (by rfl) (by decide) (fun a hE => ?_)
        refine hE.qoff (by rfl) (by rfl) (by decide) (fun a hE => ?_)
        refine hE.qpur (X.pickF hE rfl rfl) fun a hE => ?_
        exact hr2 false _ H (hE.weak ⟨rfl, rfl, trivial⟩)
/-! ### slices.IndexFunc[[]lading api.Write,lading api.Write]: function 50 -/
def V_slices_IndexFunc_api_Write_api_Write_l1b (x0 : Sl) (x1 : Value) (Ret : Int → World → Prop) (x8 : Int) (w : World) (Kl1 : Int → World → Prop) : Prop :=
  ((x8 < (x0.len : Int)) → (opE Try.prog Value.pointer (Instr.indexAt 26 (Sl.v x0) (.int .i64 x8)) w (fun x14 w => opE Try.prog T_api_Write.v (Instr.loadAt 52 (.pointer x14)) w (fun x15 w => CallV Try.prog x1 [(T_api_Write.v x15)] w (fun e w => ∃ (r : Bool), e = .returned (.bool r) ∧ ((r = true → (Ret x8 w)) ∧ (r = false → (Kl1 (IntKind.wrap .i64 (x8 + 1)) w)))))))) ∧ (¬ (x8 < (x0.len : Int)) → (Ret (-1) w))
def V_slices_IndexFunc_api_Write_api_Write (x0 : Sl) (x1 : Value) (w : World) (Ret : Int → World → Prop) : Prop :=
  ∃ (I : Int → World → Prop) (μ : Int → World → Nat), I 0 w ∧ ∀ (x8 : Int) w, I x8 w → V_slices_IndexFunc_api_Write_api_Write_l1b x0 x1 Ret x8 w (fun x8' w' => I x8' w' ∧ μ x8' w' < μ x8 w)
set_option maxRecDepth 100000 in
theorem L1_slices_IndexFunc_api_Write_api_Write (x0 : Sl) (x1 : Value) (w : World) (Ret : Int → World → Prop) (H : V_slices_IndexFunc_api_Write_api_Write x0 x1 w Ret) : Cl Try.prog 50 [(Sl.v x0), x1].toArray w (fun e w' => ∃ (r0 : Int), e = .returned (.int .i64 r0) ∧ Ret r0 w') := by
  unfold V_slices_IndexFunc_api_Write_api_Write at H
  refine C.enter 19 (zipE 0 [(Sl.v x0), x1]) Try.func50 rfl rfl (by rfl) rfl ?_
  intro a hE
  replace hE : Sat [] 19 [(0, (Sl.v x0)), (1, x1)] a := hE
  refine C.seq ?_
  refine C.region ?_
  refine hE.pur (X.assign hE rfl) fun a hE => ?_
  refine C.nil (tn ?_)
  refine C.seq ?_
  refine C.seq ?_
  refine C.region ?_
  refine hE.pur (X.move hE rfl) fun a hE => ?_
  refine hE.purR (fun w => X.lenL hE Try.underlying26 rfl) fun a hE => ?_
  refine hE.pur (X.move hE rfl) fun a hE => ?_
  refine C.nil (tn ?_)
  refine C.block ?_
  obtain ⟨I_l1, μ_l1, h0, hb⟩ := H
  refine C.loop (ds := []) (N := 19) (σ := Int) (fun s => [(8, (.int .i64 s)), (0, (Sl.v x0)), (1, x1), (7, (.int .i64 (x0.len : Int)))]) (fun s w => I_l1 s w) (fun s w => μ_l1 s w) 0 h0 (hE.weak ⟨rfl, rfl, rfl, rfl, trivial⟩) ?_
  intro x8 w a hI hE
  try dsimp only at hI hE
  obtain ⟨Kl1, hK_l1⟩ : ∃ K : Int → World → Prop, K = (fun x8' w' => I_l1 x8' w' ∧ μ_l1 x8' w' < μ_l1 x8 w) := ⟨_, rfl⟩
  have H : V_slices_IndexFunc_api_Write_api_Write_l1b x0 x1 Ret x8 w Kl1 := by rw [hK_l1]; exact hb x8 w hI
  clear hb h0 hI
  unfold V_slices_IndexFunc_api_Write_api_Write_l1b at H
  refine C.seq ?_
  refine C.region ?_
  refine hE.pur (X.ltI hE rfl rfl) fun a hE => ?_
  refine C.nil (tn ?_)
  refine C.seq ?_
  refine C.condP hE rfl (fun hc => ?_) (fun hc => ?_)
  · replace H := H.1 hc
    refine C.skip (tn ?_)
    refine C.seq ?_
    refine C.block ?_
    refine C.seq ?_
    refine C.region ?_
    refine hE.pur (X.move hE rfl) fun a hE => ?_
    refine hE.pur (X.assign hE rfl) fun a hE => ?_
    refine C.nil (tn ?_)
    refine C.seq ?_
    refine C.region ?_
    refine hE.pur (X.move hE rfl) fun a hE => ?_
    refine hE.pur (X.move hE rfl) fun a hE => ?_
    refine hE.pur (X.move hE rfl) fun a hE => ?_
    refine hE.op (X.indexAddr hE rfl rfl) H fun x14 w a H hE => ?_
    refine hE.op (X.load hE rfl) H fun x15 w a H hE => ?_
    refine hE.callV rfl rfl H fun e w H => ?_
    obtain ⟨r, rfl, H⟩ := H
    refine ⟨_, rfl, fun a hE => ?_⟩
    refine C.nil (tn ?_)
    refine C.condB hE rfl (fun hc => ?_) (fun hc => ?_)
    · replace H := H.1 hc
      refine C.seq ?_
      refine C.region ?_
      refine hE.pur (X.move hE rfl) fun a hE => ?_
      refine hE.pur (X.assign hE rfl) fun a hE => ?_
      refine C.nil (tn ?_)
      exact C.ret (br (tr (tr (br (tr (C.ret1 hE rfl rfl ⟨_, rfl, H⟩))))))
    · replace H := H.2 hc
      refine C.skip (bn (tn ?_))
      refine C.region ?_
      refine hE.pur (X.add hE rfl rfl) fun a hE => ?_
      refine hE.pur (X.move hE rfl) fun a hE => ?_
      rw [hK_l1] at H
      exact C.nil (tn ⟨(IntKind.wrap .i64 (x8 + 1)), hE.weak ⟨rfl, rfl, rfl, rfl, trivial⟩, H⟩)
  · replace H := H.2 hc
    refine C.exit (te (te (be (tn ?_))))
    refine C.seq ?_
    refine C.region ?_
    refine hE.pur (X.assign hE rfl) fun a hE => ?_
    refine C.nil (tn ?_)
    exact C.ret (C.ret1 hE rfl rfl ⟨_, rfl, H⟩)
/-! ### cmp.isNaN[string]: function 61 -/
def V_cmp_isNaN_string (x0 : ByteArray) (w : World) (Ret : Bool → World → Prop) : Prop :=
  Ret (decide (x0 ≠ x0)) w
set_option maxRecDepth 100000 in
theorem L1_cmp_isNaN_string (x0 : ByteArray) (w : World) (Ret : Bool → World → Prop) (H : V_cmp_isNaN_string x0 w Ret) : Cl Try.prog 61 [(.string x0)].toArray w (fun e w' => ∃ (r0 : Bool), e = .returned (.bool r0) ∧ Ret r0 w') := by
  unfold V_cmp_isNaN_string at H
  refine C.enter 6 (zipE 0 [(.string x0)]) Try.func61 rfl rfl (by rfl) rfl ?_
  intro a hE
  replace hE : Sat [] 6 [(0, (.string x0))] a := hE
  refine C.seq ?_
  refine C.region ?_
  refine hE.pur (X.assign hE rfl) fun a hE => ?_
  refine C.nil (tn ?_)
  refine C.seq ?_
  refine C.region ?_
  refine hE.pur (X.move hE rfl) fun a hE => ?_
  refine hE.pur (X.move hE rfl) fun a hE => ?_
  refine hE.pur (X.neS hE rfl rfl) fun a hE => ?_
  refine hE.pur (X.assign hE rfl) fun a hE => ?_
  refine C.nil (tn ?_)
  exact C.ret (C.ret1 hE rfl rfl ⟨_, rfl, H⟩)
/-! ### cmp.isNaN[uint64]: function 62 -/
def V_cmp_isNaN_uint64 (x0 : Int) (w : World) (Ret : Bool → World → Prop) : Prop :=
  Ret (decide (x0 ≠ x0)) w
set_option maxRecDepth 100000 in
theorem L1_cmp_isNaN_uint64 (x0 : Int) (w : World) (Ret : Bool → World → Prop) (H : V_cmp_isNaN_uint64 x0 w Ret) : Cl Try.prog 62 [(.int .u64 x0)].toArray w (fun e w' => ∃ (r0 : Bool), e = .returned (.bool r0) ∧ Ret r0 w') := by
  unfold V_cmp_isNaN_uint64 at H
  refine C.enter 6 (zipE 0 [(.int .u64 x0)]) Try.func62 rfl rfl (by rfl) rfl ?_
  intro a hE
  replace hE : Sat [] 6 [(0, (.int .u64 x0))] a := hE
  refine C.seq ?_
  refine C.region ?_
  refine hE.pur (X.assign hE rfl) fun a hE => ?_
  refine C.nil (tn ?_)
  refine C.seq ?_
  refine C.region ?_
  refine hE.pur (X.move hE rfl) fun a hE => ?_
  refine hE.pur (X.move hE rfl) fun a hE => ?_
  refine hE.pur (X.neI hE rfl rfl) fun a hE => ?_
  refine hE.pur (X.assign hE rfl) fun a hE => ?_
  refine C.nil (tn ?_)
  exact C.ret (C.ret1 hE rfl rfl ⟨_, rfl, H⟩)
end Go.Proofs.Ytealcoghiaeiiaa.VG
