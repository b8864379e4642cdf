/- Verification conditions, by program (gen.py), of functions of the loaded program, each with the proof that it gives the call; no condition. -/
import Derived.Test.YtealcoghiaeiiaaVS
set_option linter.unusedVariables false
set_option linter.unusedSimpArgs false
namespace Go.Proofs.Ytealcoghiaeiiaa.VG
open Go.VB Go.Proofs

/-! ### math bits.Len: function 44 -/
def V_bits_Len (x0 : Int) (w : World) (Ret : Int → World → Prop) : Prop :=
  Cl Try.prog 60 [(.int .u64 x0)].toArray w (fun e w => ∃ (r : Int), e = .returned (.int .i64 r) ∧ (Ret r w))
set_option maxRecDepth 100000 in
theorem L1_bits_Len (x0 : Int) (w : World) (Ret : Int → World → Prop) (H : V_bits_Len x0 w Ret) : Cl Try.prog 44 [(.int .u64 x0)].toArray w (fun e w' => ∃ (r0 : Int), e = .returned (.int .i64 r0) ∧ Ret r0 w') := by
  unfold V_bits_Len at H
  refine C.enter 8 (zipE 0 [(.int .u64 x0)]) Try.func44 rfl rfl (by rfl) rfl ?_
  intro a hE
  replace hE : Sat [] 8 [(0, (.int .u64 x0))] a := hE
  refine C.seq ?_
  refine C.region ?_
  refine hE.pur (X.assign hE rfl) fun a hE => ?_
  refine C.nil (tn ?_)
  refine C.seq ?_
  refine C.condB hE rfl (fun h => nomatch h) (fun _ => ?_)
  refine C.skip (tn ?_)
  refine C.seq ?_
  refine C.region ?_
  refine hE.pur (X.move hE rfl) fun a hE => ?_
  refine hE.call (X.callF hE ent60 rfl rfl) H fun e w H => ?_
  obtain ⟨r, rfl, H⟩ := H
  refine ⟨_, rfl, fun a hE => ?_⟩
  refine hE.pur (X.assign hE rfl) fun a hE => ?_
  refine C.nil (tn ?_)
  exact C.ret (C.ret1 hE rfl rfl ⟨_, rfl, H⟩)
/-! ### math bits.Len32: function 59 -/
def V_bits_Len32_j2 (Ret : Int → World → Prop) (x0_2 : Int) (x2_1 : Int) (w : World) : Prop :=
  opE Try.prog (Value.int .u8) (Go.convert 96 5 (.int .u32 x0_2)) w (fun x15 w => opE Try.prog (Value.int .u8) (Instr.index 9 (.string (ByteArray.mk #[0, 1, 2, 2, 3, 3, 3, 3, 4, 4, 4, 4, 4, 4, 4, 4, 5, 5, 5, 5, 5, 5, 5, 5, 5, 5, 5, 5, 5, 5, 5, 5, 6, 6, 6, 6, 6, 6, 6, 6, 6, 6, 6, 6, 6, 6, 6, 6, 6, 6, 6, 6, 6, 6, 6, 6, 6, 6, 6, 6, 6, 6, 6, 6, 7, 7, 7, 7, 7, 7, 7, 7, 7, 7, 7, 7, 7, 7, 7, 7, 7, 7, 7, 7, 7, 7, 7, 7, 7, 7, 7, 7, 7, 7, 7, 7, 7, 7, 7, 7, 7, 7, 7, 7, 7, 7, 7, 7, 7, 7, 7, 7, 7, 7, 7, 7, 7, 7, 7, 7, 7, 7, 7, 7, 7, 7, 7, 7, 8, 8, 8, 8, 8, 8, 8, 8, 8, 8, 8, 8, 8, 8, 8, 8, 8, 8, 8, 8, 8, 8, 8, 8, 8, 8, 8, 8, 8, 8, 8, 8, 8, 8, 8, 8, 8, 8, 8, 8, 8, 8, 8, 8, 8, 8, 8, 8, 8, 8, 8, 8, 8, 8, 8, 8, 8, 8, 8, 8, 8, 8, 8, 8, 8, 8, 8, 8, 8, 8, 8, 8, 8, 8, 8, 8, 8, 8, 8, 8, 8, 8, 8, 8, 8, 8, 8, 8, 8, 8, 8, 8, 8, 8, 8, 8, 8, 8, 8, 8, 8, 8, 8, 8, 8, 8, 8, 8, 8, 8, 8, 8, 8, 8, 8, 8, 8, 8, 8, 8, 8, 8, 8, 8, 8, 8, 8, 8])) (.int .u8 x15)) w (fun x16 w => opE Try.prog (Value.int .i64) (Go.convert 5 3 (.int .u8 x16)) w (fun x17 w => Ret (IntKind.wrap .i64 (x2_1 + x17)) w)))
def V_bits_Len32_j1 (Ret : Int → World → Prop) (x0_1 : Int) (x2 : Int) (w : World) : Prop :=
  ((256 ≤ x0_1) → (opE Try.prog (Value.int .u32) (binOp .shr 96 (.int .u32 x0_1) (.int .u64 8)) w (fun x10 w => V_bits_Len32_j2 Ret x10 (IntKind.wrap .i64 (x2 + 8)) w))) ∧ (¬ (256 ≤ x0_1) → (V_bits_Len32_j2 Ret x0_1 x2 w))
def V_bits_Len32 (x0 : Int) (w : World) (Ret : Int → World → Prop) : Prop :=
  ((65536 ≤ x0) → (opE Try.prog (Value.int .u32) (binOp .shr 96 (.int .u32 x0) (.int .u64 16)) w (fun x6 w => V_bits_Len32_j1 Ret x6 16 w))) ∧ (¬ (65536 ≤ x0) → (V_bits_Len32_j1 Ret x0 0 w))
set_option maxRecDepth 100000 in
theorem L1_bits_Len32 (x0 : Int) (w : World) (Ret : Int → World → Prop) (H : V_bits_Len32 x0 w Ret) : Cl Try.prog 59 [(.int .u32 x0)].toArray w (fun e w' => ∃ (r0 : Int), e = .returned (.int .i64 r0) ∧ Ret r0 w') := by
  unfold V_bits_Len32 at H
  refine C.enter 19 (zipE 0 [(.int .u32 x0)]) Try.func59 rfl rfl (by rfl) rfl ?_
  intro a hE
  replace hE : Sat [] 19 [(0, (.int .u32 x0))] a := hE
  refine C.seq ?_
  refine C.region ?_
  refine hE.pur (X.assign hE rfl) fun a hE => ?_
  refine C.nil (tn ?_)
  refine C.join (ds := []) (N := 19) (σ := Int × Int) (fun s => [(0, (.int .u32 s.1)), (2, (.int .i64 s.2))]) (fun s w => V_bits_Len32_j1 Ret s.1 s.2 w) ?_ (fun hj1 => ?_)
  · rintro ⟨x0_1, x2⟩ w a H hE
    try dsimp only at H hE
    unfold V_bits_Len32_j1 at H
    refine C.join (ds := []) (N := 19) (σ := Int × Int) (fun s => [(0, (.int .u32 s.1)), (2, (.int .i64 s.2))]) (fun s w => V_bits_Len32_j2 Ret s.1 s.2 w) ?_ (fun hj2 => ?_)
    · rintro ⟨x0_2, x2_1⟩ w a H hE
      try dsimp only at H hE
      unfold V_bits_Len32_j2 at H
      refine C.seq ?_
      refine C.region ?_
      refine hE.pur (X.move hE rfl) fun a hE => ?_
      refine hE.pur (X.move hE rfl) fun a hE => ?_
      refine hE.op (X.convert hE rfl) H fun x15 w a H hE => ?_
      refine hE.op (X.index hE rfl rfl) H fun x16 w a H hE => ?_
      refine hE.op (X.convert hE rfl) H fun x17 w a H hE => ?_
      refine hE.pur (X.add hE rfl rfl) fun a hE => ?_
      refine hE.pur (X.assign hE rfl) fun a hE => ?_
      refine C.nil (tn ?_)
      exact C.ret (C.ret1 hE rfl rfl ⟨_, rfl, H⟩)
    · refine C.seq ?_
      refine C.region ?_
      refine hE.pur (X.move hE rfl) fun a hE => ?_
      refine hE.pur (X.geI hE rfl rfl) fun a hE => ?_
      refine C.nil (tn ?_)
      refine C.condP hE rfl (fun hc => ?_) (fun hc => ?_)
      · replace H := H.1 hc
        refine C.seq ?_
        refine C.region ?_
        refine hE.pur (X.move hE rfl) fun a hE => ?_
        refine hE.op (X.binG hE rfl rfl) H fun x10 w a H hE => ?_
        refine hE.pur (X.assign hE rfl) fun a hE => ?_
        refine C.nil (tn ?_)
        refine C.region ?_
        refine hE.pur (X.move hE rfl) fun a hE => ?_
        refine hE.pur (X.add hE rfl rfl) fun a hE => ?_
        refine hE.pur (X.assign hE rfl) fun a hE => ?_
        exact C.nil (tn (hj2 (x10, (IntKind.wrap .i64 (x2 + 8))) _ _ H (hE.weak ⟨rfl, rfl, trivial⟩)))
      · replace H := H.2 hc
        exact C.skip (tn (hj2 (x0_1, x2) _ _ H (hE.weak ⟨rfl, rfl, trivial⟩)))
  · refine C.seq ?_
    refine C.region ?_
    refine hE.pur (X.move hE rfl) fun a hE => ?_
    refine hE.pur (X.geI hE rfl rfl) fun a hE => ?_
    refine C.nil (tn ?_)
    refine C.condP hE rfl (fun hc => ?_) (fun hc => ?_)
    · replace H := H.1 hc
      refine C.seq ?_
      refine C.region ?_
      refine hE.pur (X.move hE rfl) fun a hE => ?_
      refine hE.op (X.binG hE rfl rfl) H fun x6 w a H hE => ?_
      refine hE.pur (X.assign hE rfl) fun a hE => ?_
      refine C.nil (tn ?_)
      refine C.region ?_
      refine hE.pur (X.assign hE rfl) fun a hE => ?_
      exact C.nil (tn (hj1 (x6, 16) _ _ H (hE.weak ⟨rfl, rfl, trivial⟩)))
    · replace H := H.2 hc
      exact C.skip (tn (hj1 (x0, 0) _ _ H (hE.weak ⟨rfl, rfl, trivial⟩)))
/-! ### math bits.Len64: function 60 -/
def V_bits_Len64_j3 (Ret : Int → World → Prop) (x0_3 : Int) (x2_2 : Int) (w : World) : Prop :=
  opE Try.prog (Value.int .u8) (Go.convert 23 5 (.int .u64 x0_3)) w (fun x21 w => opE Try.prog (Value.int .u8) (Instr.index 9 (.string (ByteArray.mk #[0, 1, 2, 2, 3, 3, 3, 3, 4, 4, 4, 4, 4, 4, 4, 4, 5, 5, 5, 5, 5, 5, 5, 5, 5, 5, 5, 5, 5, 5, 5, 5, 6, 6, 6, 6, 6, 6, 6, 6, 6, 6, 6, 6, 6, 6, 6, 6, 6, 6, 6, 6, 6, 6, 6, 6, 6, 6, 6, 6, 6, 6, 6, 6, 7, 7, 7, 7, 7, 7, 7, 7, 7, 7, 7, 7, 7, 7, 7, 7, 7, 7, 7, 7, 7, 7, 7, 7, 7, 7, 7, 7, 7, 7, 7, 7, 7, 7, 7, 7, 7, 7, 7, 7, 7, 7, 7, 7, 7, 7, 7, 7, 7, 7, 7, 7, 7, 7, 7, 7, 7, 7, 7, 7, 7, 7, 7, 7, 8, 8, 8, 8, 8, 8, 8, 8, 8, 8, 8, 8, 8, 8, 8, 8, 8, 8, 8, 8, 8, 8, 8, 8, 8, 8, 8, 8, 8, 8, 8, 8, 8, 8, 8, 8, 8, 8, 8, 8, 8, 8, 8, 8, 8, 8, 8, 8, 8, 8, 8, 8, 8, 8, 8, 8, 8, 8, 8, 8, 8, 8, 8, 8, 8, 8, 8, 8, 8, 8, 8, 8, 8, 8, 8, 8, 8, 8, 8, 8, 8, 8, 8, 8, 8, 8, 8, 8, 8, 8, 8, 8, 8, 8, 8, 8, 8, 8, 8, 8, 8, 8, 8, 8, 8, 8, 8, 8, 8, 8, 8, 8, 8, 8, 8, 8, 8, 8, 8, 8, 8, 8, 8, 8, 8, 8, 8, 8])) (.int .u8 x21)) w (fun x22 w => opE Try.prog (Value.int .i64) (Go.convert 5 3 (.int .u8 x22)) w (fun x23 w => Ret (IntKind.wrap .i64 (x2_2 + x23)) w)))
def V_bits_Len64_j2 (Ret : Int → World → Prop) (x0_2 : Int) (x2_1 : Int) (w : World) : Prop :=
  ((256 ≤ x0_2) → (opE Try.prog (Value.int .u64) (binOp .shr 23 (.int .u64 x0_2) (.int .u64 8)) w (fun x16 w => V_bits_Len64_j3 Ret x16 (IntKind.wrap .i64 (x2_1 + 8)) w))) ∧ (¬ (256 ≤ x0_2) → (V_bits_Len64_j3 Ret x0_2 x2_1 w))
def V_bits_Len64_j1 (Ret : Int → World → Prop) (x0_1 : Int) (x2 : Int) (w : World) : Prop :=
  ((65536 ≤ x0_1) → (opE Try.prog (Value.int .u64) (binOp .shr 23 (.int .u64 x0_1) (.int .u64 16)) w (fun x10 w => V_bits_Len64_j2 Ret x10 (IntKind.wrap .i64 (x2 + 16)) w))) ∧ (¬ (65536 ≤ x0_1) → (V_bits_Len64_j2 Ret x0_1 x2 w))
def V_bits_Len64 (x0 : Int) (w : World) (Ret : Int → World → Prop) : Prop :=
  ((4294967296 ≤ x0) → (opE Try.prog (Value.int .u64) (binOp .shr 23 (.int .u64 x0) (.int .u64 32)) w (fun x6 w => V_bits_Len64_j1 Ret x6 32 w))) ∧ (¬ (4294967296 ≤ x0) → (V_bits_Len64_j1 Ret x0 0 w))
set_option maxRecDepth 100000 in
theorem L1_bits_Len64 (x0 : Int) (w : World) (Ret : Int → World → Prop) (H : V_bits_Len64 x0 w Ret) : Cl Try.prog 60 [(.int .u64 x0)].toArray w (fun e w' => ∃ (r0 : Int), e = .returned (.int .i64 r0) ∧ Ret r0 w') := by
  unfold V_bits_Len64 at H
  refine C.enter 25 (zipE 0 [(.int .u64 x0)]) Try.func60 rfl rfl (by rfl) rfl ?_
  intro a hE
  replace hE : Sat [] 25 [(0, (.int .u64 x0))] a := hE
  refine C.seq ?_
  refine C.region ?_
  refine hE.pur (X.assign hE rfl) fun a hE => ?_
  refine C.nil (tn ?_)
  refine C.join (ds := []) (N := 25) (σ := Int × Int) (fun s => [(0, (.int .u64 s.1)), (2, (.int .i64 s.2))]) (fun s w => V_bits_Len64_j1 Ret s.1 s.2 w) ?_ (fun hj1 => ?_)
  · rintro ⟨x0_1, x2⟩ w a H hE
    try dsimp only at H hE
    unfold V_bits_Len64_j1 at H
    refine C.join (ds := []) (N := 25) (σ := Int × Int) (fun s => [(0, (.int .u64 s.1)), (2, (.int .i64 s.2))]) (fun s w => V_bits_Len64_j2 Ret s.1 s.2 w) ?_ (fun hj2 => ?_)
    · rintro ⟨x0_2, x2_1⟩ w a H hE
      try dsimp only at H hE
      unfold V_bits_Len64_j2 at H
      refine C.join (ds := []) (N := 25) (σ := Int × Int) (fun s => [(0, (.int .u64 s.1)), (2, (.int .i64 s.2))]) (fun s w => V_bits_Len64_j3 Ret s.1 s.2 w) ?_ (fun hj3 => ?_)
      · rintro ⟨x0_3, x2_2⟩ w a H hE
        try dsimp only at H hE
        unfold V_bits_Len64_j3 at H
        refine C.seq ?_
        refine C.region ?_
        refine hE.pur (X.move hE rfl) fun a hE => ?_
        refine hE.pur (X.move hE rfl) fun a hE => ?_
        refine hE.op (X.convert hE rfl) H fun x21 w a H hE => ?_
        refine hE.op (X.index hE rfl rfl) H fun x22 w a H hE => ?_
        refine hE.op (X.convert hE rfl) H fun x23 w a H hE => ?_
        refine hE.pur (X.add hE rfl rfl) fun a hE => ?_
        refine hE.pur (X.assign hE rfl) fun a hE => ?_
        refine C.nil (tn ?_)
        exact C.ret (C.ret1 hE rfl rfl ⟨_, rfl, H⟩)
      · refine C.seq ?_
        refine C.region ?_
        refine hE.pur (X.move hE rfl) fun a hE => ?_
        refine hE.pur (X.geI hE rfl rfl) fun a hE => ?_
        refine C.nil (tn ?_)
        refine C.condP hE rfl (fun hc => ?_) (fun hc => ?_)
        · replace H := H.1 hc
          refine C.seq ?_
          refine C.region ?_
          refine hE.pur (X.move hE rfl) fun a hE => ?_
          refine hE.op (X.binG hE rfl rfl) H fun x16 w a H hE => ?_
          refine hE.pur (X.assign hE rfl) fun a hE => ?_
          refine C.nil (tn ?_)
          refine C.region ?_
          refine hE.pur (X.move hE rfl) fun a hE => ?_
          refine hE.pur (X.add hE rfl rfl) fun a hE => ?_
          refine hE.pur (X.assign hE rfl) fun a hE => ?_
          exact C.nil (tn (hj3 (x16, (IntKind.wrap .i64 (x2_1 + 8))) _ _ H (hE.weak ⟨rfl, rfl, trivial⟩)))
        · replace H := H.2 hc
          exact C.skip (tn (hj3 (x0_2, x2_1) _ _ H (hE.weak ⟨rfl, rfl, trivial⟩)))
    · refine C.seq ?_
      refine C.region ?_
      refine hE.pur (X.move hE rfl) fun a hE => ?_
      refine hE.pur (X.geI hE rfl rfl) fun a hE => ?_
      refine C.nil (tn ?_)
      refine C.condP hE rfl (fun hc => ?_) (fun hc => ?_)
      · replace H := H.1 hc
        refine C.seq ?_
        refine C.region ?_
        refine hE.pur (X.move hE rfl) fun a hE => ?_
        refine hE.op (X.binG hE rfl rfl) H fun x10 w a H hE => ?_
        refine hE.pur (X.assign hE rfl) fun a hE => ?_
        refine C.nil (tn ?_)
        refine C.region ?_
        refine hE.pur (X.move hE rfl) fun a hE => ?_
        refine hE.pur (X.add hE rfl rfl) fun a hE => ?_
        refine hE.pur (X.assign hE rfl) fun a hE => ?_
        exact C.nil (tn (hj2 (x10, (IntKind.wrap .i64 (x2 + 16))) _ _ H (hE.weak ⟨rfl, rfl, trivial⟩)))
      · replace H := H.2 hc
        exact C.skip (tn (hj2 (x0_1, x2) _ _ H (hE.weak ⟨rfl, rfl, trivial⟩)))
  · refine C.seq ?_
    refine C.region ?_
    refine hE.pur (X.move hE rfl) fun a hE => ?_
    refine hE.pur (X.geI hE rfl rfl) fun a hE => ?_
    refine C.nil (tn ?_)
    refine C.condP hE rfl (fun hc => ?_) (fun hc => ?_)
    · replace H := H.1 hc
      refine C.seq ?_
      refine C.region ?_
      refine hE.pur (X.move hE rfl) fun a hE => ?_
      refine hE.op (X.binG hE rfl rfl) H fun x6 w a H hE => ?_
      refine hE.pur (X.assign hE rfl) fun a hE => ?_
      refine C.nil (tn ?_)
      refine C.region ?_
      refine hE.pur (X.assign hE rfl) fun a hE => ?_
      exact C.nil (tn (hj1 (x6, 32) _ _ H (hE.weak ⟨rfl, rfl, trivial⟩)))
    · replace H := H.2 hc
      exact C.skip (tn (hj1 (x0, 0) _ _ H (hE.weak ⟨rfl, rfl, trivial⟩)))
/-! ### slices.nextPowerOfTwo: function 64 -/
def V_slices_nextPowerOfTwo (x0 : Int) (w : World) (Ret : Int → World → Prop) : Prop :=
  opE Try.prog (Value.int .u64) (Go.convert 3 80 (.int .i64 x0)) w (fun x4 w => Cl Try.prog 44 [(.int .u64 x4)].toArray w (fun e w => ∃ (r : Int), e = .returned (.int .i64 r) ∧ (opE Try.prog (Value.int .u64) (binOp .shl 80 (.int .u64 1) (.int .i64 r)) w (fun x6 w => Ret x6 w))))
set_option maxRecDepth 100000 in
theorem L1_slices_nextPowerOfTwo (x0 : Int) (w : World) (Ret : Int → World → Prop) (H : V_slices_nextPowerOfTwo x0 w Ret) : Cl Try.prog 64 [(.int .i64 x0)].toArray w (fun e w' => ∃ (r0 : Int), e = .returned (.int .u64 r0) ∧ Ret r0 w') := by
  unfold V_slices_nextPowerOfTwo at H
  refine C.enter 7 (zipE 0 [(.int .i64 x0)]) Try.func64 rfl rfl (by rfl) rfl ?_
  intro a hE
  replace hE : Sat [] 7 [(0, (.int .i64 x0))] a := hE
  refine C.seq ?_
  refine C.region ?_
  refine hE.pur (X.assign hE rfl) fun a hE => ?_
  refine C.nil (tn ?_)
  refine C.seq ?_
  refine C.region ?_
  refine hE.pur (X.move hE rfl) fun a hE => ?_
  refine hE.op (X.convert hE rfl) H fun x4 w a H hE => ?_
  refine hE.call (X.callF hE ent44 rfl rfl) H fun e w H => ?_
  obtain ⟨r, rfl, H⟩ := H
  refine ⟨_, rfl, fun a hE => ?_⟩
  refine hE.op (X.binG hE rfl rfl) H fun x6 w a H hE => ?_
  refine hE.pur (X.assign hE rfl) fun a hE => ?_
  refine C.nil (tn ?_)
  exact C.ret (C.ret1 hE rfl rfl ⟨_, rfl, H⟩)
/-! ### (*slices.xorshift).Next: function 65 -/
def V_slices_xorshift_Next_j3 (x0 : Option Addr) (Ret : Int → World → Prop) (w : World) : Prop :=
  nilOk (.pointer x0) ∧ (opE Try.prog (Value.int .u64) (Instr.loadAt 101 (.pointer x0)) w (fun x32 w => Ret x32 w))
def V_slices_xorshift_Next_j2 (x0 : Option Addr) (Ret : Int → World → Prop) (w : World) : Prop :=
  nextB w (fun w => nilOk (.pointer x0) ∧ (nilOk (.pointer x0) ∧ ((opE Try.prog (Value.int .u64) (Instr.loadAt 101 (.pointer x0)) w (fun x23 w => opE Try.prog (Value.int .u64) (Instr.loadAt 101 (.pointer x0)) w (fun x26 w => opP Try.prog (Value.int .u64) (binOp .shl 101 (.int .u64 x26) (.int .u64 17)) (fun x27 => opP Try.prog (Value.int .u64) (binOp .xor 101 (.int .u64 x23) (.int .u64 x27)) (fun x28 => nilOk (.pointer x0) ∧ (opU Try.prog (Instr.storeAt 101 (.pointer x0) (.int .u64 x28)) w (fun w => V_slices_xorshift_Next_j3 x0 Ret w))))))) ∧ (opE Try.prog (Value.int .u64) (Instr.loadAt 101 (.pointer x0)) w (fun x26_1 w => opP Try.prog (Value.int .u64) (binOp .shl 101 (.int .u64 x26_1) (.int .u64 17)) (fun x27_1 => opE Try.prog (Value.int .u64) (Instr.loadAt 101 (.pointer x0)) w (fun x23_1 w => opP Try.prog (Value.int .u64) (binOp .xor 101 (.int .u64 x23_1) (.int .u64 x27_1)) (fun x28_1 => nilOk (.pointer x0) ∧ (opU Try.prog (Instr.storeAt 101 (.pointer x0) (.int .u64 x28_1)) w (fun w => V_slices_xorshift_Next_j3 x0 Ret w))))))))))
def V_slices_xorshift_Next_j1 (x0 : Option Addr) (Ret : Int → World → Prop) (w : World) : Prop :=
  nextB w (fun w => nilOk (.pointer x0) ∧ (nilOk (.pointer x0) ∧ ((opE Try.prog (Value.int .u64) (Instr.loadAt 101 (.pointer x0)) w (fun x14 w => opE Try.prog (Value.int .u64) (Instr.loadAt 101 (.pointer x0)) w (fun x17 w => opP Try.prog (Value.int .u64) (binOp .shr 101 (.int .u64 x17) (.int .u64 7)) (fun x18 => opP Try.prog (Value.int .u64) (binOp .xor 101 (.int .u64 x14) (.int .u64 x18)) (fun x19 => nilOk (.pointer x0) ∧ (opU Try.prog (Instr.storeAt 101 (.pointer x0) (.int .u64 x19)) w (fun w => V_slices_xorshift_Next_j2 x0 Ret w))))))) ∧ (opE Try.prog (Value.int .u64) (Instr.loadAt 101 (.pointer x0)) w (fun x17_1 w => opP Try.prog (Value.int .u64) (binOp .shr 101 (.int .u64 x17_1) (.int .u64 7)) (fun x18_1 => opE Try.prog (Value.int .u64) (Instr.loadAt 101 (.pointer x0)) w (fun x14_1 w => opP Try.prog (Value.int .u64) (binOp .xor 101 (.int .u64 x14_1) (.int .u64 x18_1)) (fun x19_1 => nilOk (.pointer x0) ∧ (opU Try.prog (Instr.storeAt 101 (.pointer x0) (.int .u64 x19_1)) w (fun w => V_slices_xorshift_Next_j2 x0 Ret w))))))))))
def V_slices_xorshift_Next (x0 : Option Addr) (w : World) (Ret : Int → World → Prop) : Prop :=
  nextB w (fun w => nilOk (.pointer x0) ∧ (nilOk (.pointer x0) ∧ ((opE Try.prog (Value.int .u64) (Instr.loadAt 101 (.pointer x0)) w (fun x5 w => opE Try.prog (Value.int .u64) (Instr.loadAt 101 (.pointer x0)) w (fun x8 w => opP Try.prog (Value.int .u64) (binOp .shl 101 (.int .u64 x8) (.int .u64 13)) (fun x9 => opP Try.prog (Value.int .u64) (binOp .xor 101 (.int .u64 x5) (.int .u64 x9)) (fun x10 => nilOk (.pointer x0) ∧ (opU Try.prog (Instr.storeAt 101 (.pointer x0) (.int .u64 x10)) w (fun w => V_slices_xorshift_Next_j1 x0 Ret w))))))) ∧ (opE Try.prog (Value.int .u64) (Instr.loadAt 101 (.pointer x0)) w (fun x8_1 w => opP Try.prog (Value.int .u64) (binOp .shl 101 (.int .u64 x8_1) (.int .u64 13)) (fun x9_1 => opE Try.prog (Value.int .u64) (Instr.loadAt 101 (.pointer x0)) w (fun x5_1 w => opP Try.prog (Value.int .u64) (binOp .xor 101 (.int .u64 x5_1) (.int .u64 x9_1)) (fun x10_1 => nilOk (.pointer x0) ∧ (opU Try.prog (Instr.storeAt 101 (.pointer x0) (.int .u64 x10_1)) w (fun w => V_slices_xorshift_Next_j1 x0 Ret w))))))))))
set_option maxRecDepth 100000 in
theorem L1_slices_xorshift_Next (x0 : Option Addr) (w : World) (Ret : Int → World → Prop) (H : V_slices_xorshift_Next x0 w Ret) : Cl Try.prog 65 [(.pointer x0)].toArray w (fun e w' => ∃ (r0 : Int), e = .returned (.int .u64 r0) ∧ Ret r0 w') := by
  unfold V_slices_xorshift_Next at H
  refine C.enter 33 (zipE 0 [(.pointer x0)]) Try.func65 rfl rfl (by rfl) rfl ?_
  intro a hE
  replace hE : Sat [] 33 [(0, (.pointer x0))] a := hE
  refine C.seq ?_
  refine C.region ?_
  refine hE.pur (X.assign hE rfl) fun a hE => ?_
  refine C.nil (tn ?_)
  refine C.join (ds := []) (N := 33) (σ := Unit) (fun s => [(0, (.pointer x0))]) (fun s w => V_slices_xorshift_Next_j1 x0 Ret  w) ?_ (fun hj1 => ?_)
  · rintro ⟨⟩ w a H hE
    try dsimp only at H hE
    unfold V_slices_xorshift_Next_j1 at H
    refine C.join (ds := []) (N := 33) (σ := Unit) (fun s => [(0, (.pointer x0))]) (fun s w => V_slices_xorshift_Next_j2 x0 Ret  w) ?_ (fun hj2 => ?_)
    · rintro ⟨⟩ w a H hE
      try dsimp only at H hE
      unfold V_slices_xorshift_Next_j2 at H
      refine C.join (ds := []) (N := 33) (σ := Unit) (fun s => [(0, (.pointer x0))]) (fun s w => V_slices_xorshift_Next_j3 x0 Ret  w) ?_ (fun hj3 => ?_)
      · rintro ⟨⟩ w a H hE
        try dsimp only at H hE
        unfold V_slices_xorshift_Next_j3 at H
        refine C.seq ?_
        refine C.region ?_
        refine hE.pur (X.move hE rfl) fun a hE => ?_
        refine hE.pur (X.nilCheck hE rfl H.1) fun a hE => ?_
        replace H := H.2
        refine hE.op (X.load hE rfl) H fun x32 w a H hE => ?_
        refine hE.pur (X.assign hE rfl) fun a hE => ?_
        refine C.nil (tn ?_)
        exact C.ret (C.ret1 hE rfl rfl ⟨_, rfl, H⟩)
      · refine C.any 10 #[false, false, false, false, false, false, false, false, false, false] (by kernel_rfl) (fun w hB => ?_)
        replace H := H w hB
        refine hE.apur (i := 0) (fun _ _ _ _ _ h => h) (by kernel_rfl) rfl (by kernel_rfl) (by kernel_rfl) (by rfl) (l2 := #[true, false, false, false, false, false, false, false, false, false]) (pn_run (X.move hE rfl)) fun a hE => ?_
        refine hE.apur (i := 1) (fun _ _ _ _ _ h => h) (by kernel_rfl) rfl (by kernel_rfl) (by kernel_rfl) (by rfl) (l2 := #[true, true, false, false, false, false, false, false, false, false]) (pn_run (X.nilCheck hE rfl H.1)) fun a hE => ?_
        replace H := H.2
        refine hE.apur (i := 3) (fun _ _ _ _ _ h => h) (by kernel_rfl) rfl (by kernel_rfl) (by kernel_rfl) (by rfl) (l2 := #[true, true, false, true, false, false, false, false, false, false]) (pn_run (X.move hE rfl)) fun a hE => ?_
        refine hE.apur (i := 4) (fun _ _ _ _ _ h => h) (by kernel_rfl) rfl (by kernel_rfl) (by kernel_rfl) (by rfl) (l2 := #[true, true, false, true, true, false, false, false, false, false]) (pn_run (X.nilCheck hE rfl H.1)) fun a hE => ?_
        replace H := H.2
        refine WA.two (i := 2) (j := 5) (l2 := #[true, true, true, true, true, false, false, false, false, false]) (l3 := #[true, true, false, true, true, true, false, false, false, false]) rfl rfl (by kernel_rfl) (by rfl) (by rfl) ?_ ?_
        · replace H := H.1
          intro K hK
          refine hE.wop (X.load hE rfl) H fun x23 w a H hE => ?_
          refine hK _ _ ?_
          refine WA.one (i := 5) (l2 := #[true, true, true, true, true, true, false, false, false, false]) rfl (by kernel_rfl) (by rfl) ?_
          intro K hK
          refine hE.wop (X.load hE rfl) H fun x26 w a H hE => ?_
          refine hK _ _ ?_
          refine hE.aop (i := 6) (fun _ _ _ _ _ h => h) (by kernel_rfl) rfl (by kernel_rfl) (by kernel_rfl) (by rfl) (l2 := #[true, true, true, true, true, true, true, false, false, false]) (X.binG hE rfl rfl) H fun x27 a H hE => ?_
          refine hE.aop (i := 7) (fun _ _ _ _ _ h => h) (by kernel_rfl) rfl (by kernel_rfl) (by kernel_rfl) (by rfl) (l2 := #[true, true, true, true, true, true, true, true, false, false]) (X.binG hE rfl rfl) H fun x28 a H hE => ?_
          refine hE.apur (i := 8) (fun _ _ _ _ _ h => h) (by kernel_rfl) rfl (by kernel_rfl) (by kernel_rfl) (by rfl) (l2 := #[true, true, true, true, true, true, true, true, true, false]) (pn_run (X.nilCheck hE rfl H.1)) fun a hE => ?_
          replace H := H.2
          refine WA.one (i := 9) (l2 := #[true, true, true, true, true, true, true, true, true, true]) rfl (by kernel_rfl) (by rfl) ?_
          intro K hK
          refine hE.wopu (X.store hE rfl rfl) H fun w a H hE => ?_
          refine hK _ _ ?_
          refine WA.nil (by kernel_rfl) ?_
          exact (tn (hj3 () _ _ H (hE.weak ⟨rfl, trivial⟩)))
        · replace H := H.2
          intro K hK
          refine hE.wop (X.load hE rfl) H fun x26_1 w a H hE => ?_
          refine hK _ _ ?_
          refine hE.aop (i := 6) (fun _ _ _ _ _ h => h) (by kernel_rfl) rfl (by kernel_rfl) (by kernel_rfl) (by rfl) (l2 := #[true, true, false, true, true, true, true, false, false, false]) (X.binG hE rfl rfl) H fun x27_1 a H hE => ?_
          refine WA.one (i := 2) (l2 := #[true, true, true, true, true, true, true, false, false, false]) rfl (by kernel_rfl) (by rfl) ?_
          intro K hK
          refine hE.wop (X.load hE rfl) H fun x23_1 w a H hE => ?_
          refine hK _ _ ?_
          refine hE.aop (i := 7) (fun _ _ _ _ _ h => h) (by kernel_rfl) rfl (by kernel_rfl) (by kernel_rfl) (by rfl) (l2 := #[true, true, true, true, true, true, true, true, false, false]) (X.binG hE rfl rfl) H fun x28_1 a H hE => ?_
          refine hE.apur (i := 8) (fun _ _ _ _ _ h => h) (by kernel_rfl) rfl (by kernel_rfl) (by kernel_rfl) (by rfl) (l2 := #[true, true, true, true, true, true, true, true, true, false]) (pn_run (X.nilCheck hE rfl H.1)) fun a hE => ?_
          replace H := H.2
          refine WA.one (i := 9) (l2 := #[true, true, true, true, true, true, true, true, true, true]) rfl (by kernel_rfl) (by rfl) ?_
          intro K hK
          refine hE.wopu (X.store hE rfl rfl) H fun w a H hE => ?_
          refine hK _ _ ?_
          refine WA.nil (by kernel_rfl) ?_
          exact (tn (hj3 () _ _ H (hE.weak ⟨rfl, trivial⟩)))
    · refine C.any 10 #[false, false, false, false, false, false, false, false, false, false] (by kernel_rfl) (fun w hB => ?_)
      replace H := H w hB
      refine hE.apur (i := 0) (fun _ _ _ _ _ h => h) (by kernel_rfl) rfl (by kernel_rfl) (by kernel_rfl) (by rfl) (l2 := #[true, false, false, false, false, false, false, false, false, false]) (pn_run (X.move hE rfl)) fun a hE => ?_
      refine hE.apur (i := 1) (fun _ _ _ _ _ h => h) (by kernel_rfl) rfl (by kernel_rfl) (by kernel_rfl) (by rfl) (l2 := #[true, true, false, false, false, false, false, false, false, false]) (pn_run (X.nilCheck hE rfl H.1)) fun a hE => ?_
      replace H := H.2
      refine hE.apur (i := 3) (fun _ _ _ _ _ h => h) (by kernel_rfl) rfl (by kernel_rfl) (by kernel_rfl) (by rfl) (l2 := #[true, true, false, true, false, false, false, false, false, false]) (pn_run (X.move hE rfl)) fun a hE => ?_
      refine hE.apur (i := 4) (fun _ _ _ _ _ h => h) (by kernel_rfl) rfl (by kernel_rfl) (by kernel_rfl) (by rfl) (l2 := #[true, true, false, true, true, false, false, false, false, false]) (pn_run (X.nilCheck hE rfl H.1)) fun a hE => ?_
      replace H := H.2
      refine WA.two (i := 2) (j := 5) (l2 := #[true, true, true, true, true, false, false, false, false, false]) (l3 := #[true, true, false, true, true, true, false, false, false, false]) rfl rfl (by kernel_rfl) (by rfl) (by rfl) ?_ ?_
      · replace H := H.1
        intro K hK
        refine hE.wop (X.load hE rfl) H fun x14 w a H hE => ?_
        refine hK _ _ ?_
        refine WA.one (i := 5) (l2 := #[true, true, true, true, true, true, false, false, false, false]) rfl (by kernel_rfl) (by rfl) ?_
        intro K hK
        refine hE.wop (X.load hE rfl) H fun x17 w a H hE => ?_
        refine hK _ _ ?_
        refine hE.aop (i := 6) (fun _ _ _ _ _ h => h) (by kernel_rfl) rfl (by kernel_rfl) (by kernel_rfl) (by rfl) (l2 := #[true, true, true, true, true, true, true, false, false, false]) (X.binG hE rfl rfl) H fun x18 a H hE => ?_
        refine hE.aop (i := 7) (fun _ _ _ _ _ h => h) (by kernel_rfl) rfl (by kernel_rfl) (by kernel_rfl) (by rfl) (l2 := #[true, true, true, true, true, true, true, true, false, false]) (X.binG hE rfl rfl) H fun x19 a H hE => ?_
        refine hE.apur (i := 8) (fun _ _ _ _ _ h => h) (by kernel_rfl) rfl (by kernel_rfl) (by kernel_rfl) (by rfl) (l2 := #[true, true, true, true, true, true, true, true, true, false]) (pn_run (X.nilCheck hE rfl H.1)) fun a hE => ?_
        replace H := H.2
        refine WA.one (i := 9) (l2 := #[true, true, true, true, true, true, true, true, true, true]) rfl (by kernel_rfl) (by rfl) ?_
        intro K hK
        refine hE.wopu (X.store hE rfl rfl) H fun w a H hE => ?_
        refine hK _ _ ?_
        refine WA.nil (by kernel_rfl) ?_
        exact (tn (hj2 () _ _ H (hE.weak ⟨rfl, trivial⟩)))
      · replace H := H.2
        intro K hK
        refine hE.wop (X.load hE rfl) H fun x17_1 w a H hE => ?_
        refine hK _ _ ?_
        refine hE.aop (i := 6) (fun _ _ _ _ _ h => h) (by kernel_rfl) rfl (by kernel_rfl) (by kernel_rfl) (by rfl) (l2 := #[true, true, false, true, true, true, true, false, false, false]) (X.binG hE rfl rfl) H fun x18_1 a H hE => ?_
        refine WA.one (i := 2) (l2 := #[true, true, true, true, true, true, true, false, false, false]) rfl (by kernel_rfl) (by rfl) ?_
        intro K hK
        refine hE.wop (X.load hE rfl) H fun x14_1 w a H hE => ?_
        refine hK _ _ ?_
        refine hE.aop (i := 7) (fun _ _ _ _ _ h => h) (by kernel_rfl) rfl (by kernel_rfl) (by kernel_rfl) (by rfl) (l2 := #[true, true, true, true, true, true, true, true, false, false]) (X.binG hE rfl rfl) H fun x19_1 a H hE => ?_
        refine hE.apur (i := 8) (fun _ _ _ _ _ h => h) (by kernel_rfl) rfl (by kernel_rfl) (by kernel_rfl) (by rfl) (l2 := #[true, true, true, true, true, true, true, true, true, false]) (pn_run (X.nilCheck hE rfl H.1)) fun a hE => ?_
        replace H := H.2
        refine WA.one (i := 9) (l2 := #[true, true, true, true, true, true, true, true, true, true]) rfl (by kernel_rfl) (by rfl) ?_
        intro K hK
        refine hE.wopu (X.store hE rfl rfl) H fun w a H hE => ?_
        refine hK _ _ ?_
        refine WA.nil (by kernel_rfl) ?_
        exact (tn (hj2 () _ _ H (hE.weak ⟨rfl, trivial⟩)))
  · refine C.any 10 #[false, false, false, false, false, false, false, false, false, false] (by kernel_rfl) (fun w hB => ?_)
    replace H := H w hB
    refine hE.apur (i := 0) (fun _ _ _ _ _ h => h) (by kernel_rfl) rfl (by kernel_rfl) (by kernel_rfl) (by rfl) (l2 := #[true, false, false, false, false, false, false, false, false, false]) (pn_run (X.move hE rfl)) fun a hE => ?_
    refine hE.apur (i := 1) (fun _ _ _ _ _ h => h) (by kernel_rfl) rfl (by kernel_rfl) (by kernel_rfl) (by rfl) (l2 := #[true, true, false, false, false, false, false, false, false, false]) (pn_run (X.nilCheck hE rfl H.1)) fun a hE => ?_
    replace H := H.2
    refine hE.apur (i := 3) (fun _ _ _ _ _ h => h) (by kernel_rfl) rfl (by kernel_rfl) (by kernel_rfl) (by rfl) (l2 := #[true, true, false, true, false, false, false, false, false, false]) (pn_run (X.move hE rfl)) fun a hE => ?_
    refine hE.apur (i := 4) (fun _ _ _ _ _ h => h) (by kernel_rfl) rfl (by kernel_rfl) (by kernel_rfl) (by rfl) (l2 := #[true, true, false, true, true, false, false, false, false, false]) (pn_run (X.nilCheck hE rfl H.1)) fun a hE => ?_
    replace H := H.2
    refine WA.two (i := 2) (j := 5) (l2 := #[true, true, true, true, true, false, false, false, false, false]) (l3 := #[true, true, false, true, true, true, false, false, false, false]) rfl rfl (by kernel_rfl) (by rfl) (by rfl) ?_ ?_
    · replace H := H.1
      intro K hK
      refine hE.wop (X.load hE rfl) H fun x5 w a H hE => ?_
      refine hK _ _ ?_
      refine WA.one (i := 5) (l2 := #[true, true, true, true, true, true, false, false, false, false]) rfl (by kernel_rfl) (by rfl) ?_
      intro K hK
      refine hE.wop (X.load hE rfl) H fun x8 w a H hE => ?_
      refine hK _ _ ?_
      refine hE.aop (i := 6) (fun _ _ _ _ _ h => h) (by kernel_rfl) rfl (by kernel_rfl) (by kernel_rfl) (by rfl) (l2 := #[true, true, true, true, true, true, true, false, false, false]) (X.binG hE rfl rfl) H fun x9 a H hE => ?_
      refine hE.aop (i := 7) (fun _ _ _ _ _ h => h) (by kernel_rfl) rfl (by kernel_rfl) (by kernel_rfl) (by rfl) (l2 := #[true, true, true, true, true, true, true, true, false, false]) (X.binG hE rfl rfl) H fun x10 a H hE => ?_
      refine hE.apur (i := 8) (fun _ _ _ _ _ h => h) (by kernel_rfl) rfl (by kernel_rfl) (by kernel_rfl) (by rfl) (l2 := #[true, true, true, true, true, true, true, true, true, false]) (pn_run (X.nilCheck hE rfl H.1)) fun a hE => ?_
      replace H := H.2
      refine WA.one (i := 9) (l2 := #[true, true, true, true, true, true, true, true, true, true]) rfl (by kernel_rfl) (by rfl) ?_
      intro K hK
      refine hE.wopu (X.store hE rfl rfl) H fun w a H hE => ?_
      refine hK _ _ ?_
      refine WA.nil (by kernel_rfl) ?_
      exact (tn (hj1 () _ _ H (hE.weak ⟨rfl, trivial⟩)))
    · replace H := H.2
      intro K hK
      refine hE.wop (X.load hE rfl) H fun x8_1 w a H hE => ?_
      refine hK _ _ ?_
      refine hE.aop (i := 6) (fun _ _ _ _ _ h => h) (by kernel_rfl) rfl (by kernel_rfl) (by kernel_rfl) (by rfl) (l2 := #[true, true, false, true, true, true, true, false, false, false]) (X.binG hE rfl rfl) H fun x9_1 a H hE => ?_
      refine WA.one (i := 2) (l2 := #[true, true, true, true, true, true, true, false, false, false]) rfl (by kernel_rfl) (by rfl) ?_
      intro K hK
      refine hE.wop (X.load hE rfl) H fun x5_1 w a H hE => ?_
      refine hK _ _ ?_
      refine hE.aop (i := 7) (fun _ _ _ _ _ h => h) (by kernel_rfl) rfl (by kernel_rfl) (by kernel_rfl) (by rfl) (l2 := #[true, true, true, true, true, true, true, true, false, false]) (X.binG hE rfl rfl) H fun x10_1 a H hE => ?_
      refine hE.apur (i := 8) (fun _ _ _ _ _ h => h) (by kernel_rfl) rfl (by kernel_rfl) (by kernel_rfl) (by rfl) (l2 := #[true, true, true, true, true, true, true, true, true, false]) (pn_run (X.nilCheck hE rfl H.1)) fun a hE => ?_
      replace H := H.2
      refine WA.one (i := 9) (l2 := #[true, true, true, true, true, true, true, true, true, true]) rfl (by kernel_rfl) (by rfl) ?_
      intro K hK
      refine hE.wopu (X.store hE rfl rfl) H fun w a H hE => ?_
      refine hK _ _ ?_
      refine WA.nil (by kernel_rfl) ?_
      exact (tn (hj1 () _ _ H (hE.weak ⟨rfl, trivial⟩)))
end Go.Proofs.Ytealcoghiaeiiaa.VG
