/- Verification conditions, by program (gen.py), of functions of the loaded program, each with the proof that it gives the call; no condition. -/
import Derived.Test.YtealcoghiaeiiaaVS
import Derived.Test.YtealcoghiaeiiaaVOrd
set_option linter.unusedVariables false
set_option linter.unusedSimpArgs false
namespace Go.Proofs.Ytealcoghiaeiiaa.VG
open Go.VB Go.Proofs

/-! ### lading ladingref09.Copy: function 10 -/
def V_ladingref09_Copy (x0 : T_api_Versions) (w : World) (Ret : T_api_Versions → World → Prop) : Prop :=
  opE Try.prog Value.pointer (Instr.box 25 (T_api_Versions.v x0)) w (fun x1 w => opE Try.prog Value.pointer (Instr.alloc 25 true (.tuple #[])) w (fun x2 w => regC w (fun C1 w => opC C1 Try.prog Value.pointer (Instr.fieldAt 25 (.pointer x1) 0) (fun x4 => opC C1 Try.prog Value.pointer (Instr.fieldAt 25 (.pointer x1) 1) (fun x7 => opC C1 Try.prog Sl.v (Instr.loadAt 22 (.pointer x4)) (fun x5 => opC C1 Try.prog (Value.int .u64) (Instr.loadAt 23 (.pointer x7)) (fun x8 => opE Try.prog Sl.v (Instr.buildSlice 22 0 [].toArray) w (fun x3 w => C1 w ∧ (opE Try.prog Sl.v (Builtin.append_ #[22, 22] 22 [(Sl.v x3), (Sl.v x5)].toArray) w (fun x6 w => C1 w ∧ (opC C1 Try.prog T_api_Versions.v (Instr.build 25 [(0, (Sl.v x6)), (1, (.int .u64 x8))].toArray) (fun x9 => opU Try.prog (Instr.storeAt 25 (.pointer x2) (T_api_Versions.v x9)) w (fun w => C1 w ∧ (opR Try.prog T_api_Versions.v 25 x2 w (fun q => Ret q w)))))))))))))))
set_option maxRecDepth 100000 in
theorem L1_ladingref09_Copy (x0 : T_api_Versions) (w : World) (Ret : T_api_Versions → World → Prop) (H : V_ladingref09_Copy x0 w Ret) : Cl Try.prog 10 [(T_api_Versions.v x0)].toArray w (fun e w' => ∃ (r0 : T_api_Versions), e = .returned (T_api_Versions.v r0) ∧ Ret r0 w') := by
  unfold V_ladingref09_Copy at H
  refine C.enter 10 (zipE 0 [(T_api_Versions.v x0)]) Try.func10 rfl rfl (by rfl) rfl ?_
  intro a hE
  replace hE : Sat [] 10 [(0, (T_api_Versions.v x0))] a := hE
  refine C.seq ?_
  refine C.region ?_
  refine hE.op (X.box hE rfl) H fun x1 w a H hE => ?_
  refine hE.op (X.alloc) H fun x2 w a H hE => ?_
  refine C.nil (tn ?_)
  refine C.seq ?_
  refine C.cls H 8 #[false, false, false, false, false, false, false, false] (by kernel_rfl) (fun C1 w hC0 H => ?_)
  refine hE.kop (i := 1) (fun _ _ _ _ _ h => h) (by kernel_rfl) rfl (by kernel_rfl) (by kernel_rfl) (by rfl) (l2 := #[false, true, false, false, false, false, false, false]) hC0 (X.fieldAddr hE rfl) H fun x4 a H hE => ?_
  refine hE.kop (i := 4) (fun _ _ _ _ _ h => h) (by kernel_rfl) rfl (by kernel_rfl) (by kernel_rfl) (by rfl) (l2 := #[false, true, false, false, true, false, false, false]) hC0 (X.fieldAddr hE rfl) H fun x7 a H hE => ?_
  refine hE.kop (i := 2) (fun _ _ _ _ _ h => h) (by kernel_rfl) rfl (by kernel_rfl) (by kernel_rfl) (by rfl) (l2 := #[false, true, true, false, true, false, false, false]) hC0 (X.load hE rfl) H fun x5 a H hE => ?_
  refine hE.kop (i := 5) (fun _ _ _ _ _ h => h) (by kernel_rfl) rfl (by kernel_rfl) (by kernel_rfl) (by rfl) (l2 := #[false, true, true, false, true, true, false, false]) hC0 (X.load hE rfl) H fun x8 a H hE => ?_
  refine WK.one (i := 0) (l2 := #[true, true, true, false, true, true, false, false]) rfl (by kernel_rfl) (by rfl) ?_
  intro K hK
  refine hE.wop (X.buildSlice hE rfl) H fun x3 w a H hE => ?_
  refine hK _ _ ⟨H.1, ?_⟩
  have hC1 := H.1
  replace H := H.2
  refine WK.one (i := 3) (l2 := #[true, true, true, true, true, true, false, false]) rfl (by kernel_rfl) (by rfl) ?_
  intro K hK
  refine hE.wop (X.append hE rfl) H fun x6 w a H hE => ?_
  refine hK _ _ ⟨H.1, ?_⟩
  have hC2 := H.1
  replace H := H.2
  refine hE.kop (i := 6) (fun _ _ _ _ _ h => h) (by kernel_rfl) rfl (by kernel_rfl) (by kernel_rfl) (by rfl) (l2 := #[true, true, true, true, true, true, true, false]) hC2 (X.build hE rfl) H fun x9 a H hE => ?_
  refine WK.one (i := 7) (l2 := #[true, true, true, true, true, true, true, true]) rfl (by kernel_rfl) (by rfl) ?_
  intro K hK
  refine hE.wopu (X.store hE rfl rfl) H fun w a H hE => ?_
  refine hK _ _ ⟨H.1, ?_⟩
  have hC3 := H.1
  replace H := H.2
  refine WK.nil (by kernel_rfl) ?_
  refine (tn ?_)
  obtain ⟨q, ad, hp, hl, H⟩ := H
  exact C.ret (C.retC hE (rs := [.cell 2 25]) (vs := [(T_api_Versions.v q)]) rfl ⟨⟨ad, by rw [← hp]; rfl, hl⟩, trivial⟩ ⟨_, rfl, H⟩)
/-! ### lading ladingref09.Put: function 12 -/
def V_ladingref09_Put_j4 (x34 : Int) (Kl3 : Int → Int → World → Prop) (x8_3 : Int) (w : World) : Prop :=
  Kl3 x8_3 (IntKind.wrap .i64 (x34 + 1)) w
def V_ladingref09_Put_r5 (x8_2 : Int) (x34 : Int) (Kl3 : Int → Int → World → Prop) (x45 : Bool) (w : World) : Prop :=
  (x45 = true → (V_ladingref09_Put_j4 x34 Kl3 9 w)) ∧ (x45 = false → (V_ladingref09_Put_j4 x34 Kl3 x8_2 w))
def V_ladingref09_Put_j9 (x11 : Option Addr) (x74 : Int) (Kl8 : Int → World → Prop) (x14 : Option Addr) (w : World) : Prop :=
  opE Try.prog Value.pointer (Instr.fieldAt 25 (.pointer x11) 0) w (fun x89 w => opE Try.prog Sl.v (Instr.loadAt 22 (.pointer x89)) w (fun x90 w => opE Try.prog T_api_Version.v (Instr.loadAt 37 (.pointer x14)) w (fun x91 w => Cl Try.prog 34 [(Sl.v x90), (T_api_Version.v x91)].toArray w (fun e w => ∃ (r_2 : Sl), e = .returned (Sl.v r_2) ∧ (opE Try.prog Value.pointer (Instr.fieldAt 25 (.pointer x11) 0) w (fun x93 w => opU Try.prog (Instr.storeAt 22 (.pointer x93) (Sl.v r_2)) w (fun w => Kl8 (IntKind.wrap .i64 (x74 + 1)) w)))))))
def V_ladingref09_Put_l8b (x1 : Sl) (x2 : Int) (Ret : T_api_Versions → Int → World → Prop) (x6 : Option Addr) (x11 : Option Addr) (x74 : Int) (w : World) (Kl8 : Int → World → Prop) : Prop :=
  ((x74 < (x1.len : Int)) → (opE Try.prog Value.pointer (Instr.indexAt 26 (Sl.v x1) (.int .i64 x74)) w (fun x76 w => opE Try.prog T_api_Write.v (Instr.loadAt 52 (.pointer x76)) w (fun x77 w => opE Try.prog Value.pointer (Instr.alloc 52 true (.tuple #[])) w (fun x13 w => opU Try.prog (Instr.storeAt 52 (.pointer x13) (T_api_Write.v x77)) w (fun w => opE Try.prog Value.pointer (Instr.fieldAt 52 (.pointer x13) 0) w (fun x78 w => opE Try.prog Value.string (Instr.loadAt 9 (.pointer x78)) w (fun x79 w => opE Try.prog Value.pointer (Instr.fieldAt 52 (.pointer x13) 1) w (fun x81 w => opE Try.prog Value.string (Instr.loadAt 9 (.pointer x81)) w (fun x82 w => opE Try.prog Value.pointer (Instr.fieldAt 52 (.pointer x13) 2) w (fun x83 w => opE Try.prog Value.bool (Instr.loadAt 4 (.pointer x83)) w (fun x84 w => opE Try.prog T_api_Version.v (Instr.build 37 [(0, (.string x79)), (1, (.int .u64 x2)), (2, (.string x82)), (3, (.bool x84))].toArray) w (fun x85 w => opE Try.prog Value.pointer (Instr.alloc 37 true (.tuple #[])) w (fun x14 w => opU Try.prog (Instr.storeAt 37 (.pointer x14) (T_api_Version.v x85)) w (fun w => opE Try.prog Value.pointer (Instr.fieldAt 52 (.pointer x13) 2) w (fun x86 w => opE Try.prog Value.bool (Instr.loadAt 4 (.pointer x86)) w (fun x87 w => (x87 = true → (opE Try.prog Value.pointer (Instr.fieldAt 37 (.pointer x14) 2) w (fun x88 w => opU Try.prog (Instr.storeAt 9 (.pointer x88) (.string (ByteArray.mk #[]))) w (fun w => V_ladingref09_Put_j9 x11 x74 Kl8 x14 w)))) ∧ (x87 = false → (V_ladingref09_Put_j9 x11 x74 Kl8 x14 w))))))))))))))))))) ∧ (¬ (x74 < (x1.len : Int)) → (opE Try.prog T_api_Versions.v (Instr.loadAt 25 (.pointer x11)) w (fun x95 w => opU Try.prog (Instr.storeAt 25 (.pointer x6) (T_api_Versions.v x95)) w (fun w => opR Try.prog T_api_Versions.v 25 x6 w (fun q_1 => Ret q_1 0 w)))))
def V_ladingref09_Put_j7 (x1 : Sl) (x2 : Int) (Ret : T_api_Versions → Int → World → Prop) (x3 : Option Addr) (x6 : Option Addr) (x8_5 : Int) (w : World) : Prop :=
  ((x8_5 ≠ 0) → (opE Try.prog T_api_Versions.v (Instr.build 25 [].toArray) w (fun x68 w => opU Try.prog (Instr.storeAt 25 (.pointer x6) (T_api_Versions.v x68)) w (fun w => opR Try.prog T_api_Versions.v 25 x6 w (fun q => Ret q x8_5 w))))) ∧ (¬ (x8_5 ≠ 0) → (opE Try.prog T_api_Versions.v (Instr.loadAt 25 (.pointer x3)) w (fun x70 w => Cl Try.prog 10 [(T_api_Versions.v x70)].toArray w (fun e w => ∃ (r_1 : T_api_Versions), e = .returned (T_api_Versions.v r_1) ∧ (opE Try.prog Value.pointer (Instr.alloc 25 true (.tuple #[])) w (fun x11 w => opU Try.prog (Instr.storeAt 25 (.pointer x11) (T_api_Versions.v r_1)) w (fun w => ∃ (I : Int → World → Prop) (μ : Int → World → Nat), I 0 w ∧ ∀ (x74 : Int) w, I x74 w → V_ladingref09_Put_l8b x1 x2 Ret x6 x11 x74 w (fun x74' w' => I x74' w' ∧ μ x74' w' < μ x74 w))))))))
def V_ladingref09_Put_r10 (x1 : Sl) (x2 : Int) (Ret : T_api_Versions → Int → World → Prop) (x3 : Option Addr) (x6 : Option Addr) (x8_4 : Int) (x65 : Bool) (w : World) : Prop :=
  (x65 = true → (V_ladingref09_Put_j7 x1 x2 Ret x3 x6 3 w)) ∧ (x65 = false → (V_ladingref09_Put_j7 x1 x2 Ret x3 x6 x8_4 w))
def V_ladingref09_Put_j6 (x1 : Sl) (x2 : Int) (Ret : T_api_Versions → Int → World → Prop) (x3 : Option Addr) (x6 : Option Addr) (x8_4 : Int) (w : World) : Prop :=
  ((x8_4 = 0) → (opE Try.prog Value.pointer (Instr.fieldAt 25 (.pointer x3) 0) w (fun x58 w => opE Try.prog Sl.v (Instr.loadAt 22 (.pointer x58)) w (fun x59 w => V_ladingref09_Put_r10 x1 x2 Ret x3 x6 x8_4 (decide (4096 < (IntKind.wrap .i64 ((x59.len : Int) + (x1.len : Int))))) w)))) ∧ (¬ (x8_4 = 0) → (V_ladingref09_Put_r10 x1 x2 Ret x3 x6 x8_4 false w))
def V_ladingref09_Put_r11 (x1 : Sl) (x2 : Int) (Ret : T_api_Versions → Int → World → Prop) (x3 : Option Addr) (x6 : Option Addr) (x8_2 : Int) (x54 : Bool) (w : World) : Prop :=
  (x54 = true → (V_ladingref09_Put_j6 x1 x2 Ret x3 x6 9 w)) ∧ (x54 = false → (V_ladingref09_Put_j6 x1 x2 Ret x3 x6 x8_2 w))
def V_ladingref09_Put_l3b (x1 : Sl) (x2 : Int) (Ret : T_api_Versions → Int → World → Prop) (x3 : Option Addr) (x6 : Option Addr) (x32 : Sl) (x8_2 : Int) (x34 : Int) (w : World) (Kl3 : Int → Int → World → Prop) : Prop :=
  ((x34 < (x32.len : Int)) → (opE Try.prog Value.pointer (Instr.indexAt 22 (Sl.v x32) (.int .i64 x34)) w (fun x36 w => opE Try.prog T_api_Version.v (Instr.loadAt 37 (.pointer x36)) w (fun x37 w => opE Try.prog Value.pointer (Instr.alloc 37 true (.tuple #[])) w (fun x10 w => opU Try.prog (Instr.storeAt 37 (.pointer x10) (T_api_Version.v x37)) w (fun w => ((x8_2 = 0) → (opE Try.prog Value.pointer (Instr.fieldAt 37 (.pointer x10) 1) w (fun x41 w => opE Try.prog (Value.int .u64) (Instr.loadAt 23 (.pointer x41)) w (fun x42 w => V_ladingref09_Put_r5 x8_2 x34 Kl3 (decide (x2 ≤ x42)) w)))) ∧ (¬ (x8_2 = 0) → (V_ladingref09_Put_r5 x8_2 x34 Kl3 false w)))))))) ∧ (¬ (x34 < (x32.len : Int)) → (((x8_2 = 0) → (opE Try.prog Value.pointer (Instr.fieldAt 25 (.pointer x3) 1) w (fun x51 w => opE Try.prog (Value.int .u64) (Instr.loadAt 23 (.pointer x51)) w (fun x52 w => V_ladingref09_Put_r11 x1 x2 Ret x3 x6 x8_2 (decide (x2 < x52)) w)))) ∧ (¬ (x8_2 = 0) → (V_ladingref09_Put_r11 x1 x2 Ret x3 x6 x8_2 false w))))
def V_ladingref09_Put_j2 (x1 : Sl) (x2 : Int) (Ret : T_api_Versions → Int → World → Prop) (x3 : Option Addr) (x6 : Option Addr) (x8_1 : Int) (w : World) : Prop :=
  opE Try.prog Value.pointer (Instr.fieldAt 25 (.pointer x3) 0) w (fun x31 w => opE Try.prog Sl.v (Instr.loadAt 22 (.pointer x31)) w (fun x32 w => ∃ (I : Int → Int → World → Prop) (μ : Int → Int → World → Nat), I x8_1 0 w ∧ ∀ (x8_2 : Int) (x34 : Int) w, I x8_2 x34 w → V_ladingref09_Put_l3b x1 x2 Ret x3 x6 x32 x8_2 x34 w (fun x8_2' x34' w' => I x8_2' x34' w' ∧ μ x8_2' x34' w' < μ x8_2 x34 w)))
def V_ladingref09_Put_r12 (x1 : Sl) (x2 : Int) (Ret : T_api_Versions → Int → World → Prop) (x3 : Option Addr) (x6 : Option Addr) (x8 : Int) (x30 : Bool) (w : World) : Prop :=
  (x30 = true → (V_ladingref09_Put_j2 x1 x2 Ret x3 x6 2 w)) ∧ (x30 = false → (V_ladingref09_Put_j2 x1 x2 Ret x3 x6 x8 w))
def V_ladingref09_Put_r13 (x1 : Sl) (x2 : Int) (Ret : T_api_Versions → Int → World → Prop) (x3 : Option Addr) (x6 : Option Addr) (x8 : Int) (x29 : Bool) (w : World) : Prop :=
  V_ladingref09_Put_r12 x1 x2 Ret x3 x6 x8 x29 w
def V_ladingref09_Put_j1 (x1 : Sl) (x2 : Int) (Ret : T_api_Versions → Int → World → Prop) (x3 : Option Addr) (x6 : Option Addr) (x8 : Int) (w : World) : Prop :=
  ((x8 = 0) → (((x2 < 1) → (V_ladingref09_Put_r13 x1 x2 Ret x3 x6 x8 true w)) ∧ (¬ (x2 < 1) → (V_ladingref09_Put_r13 x1 x2 Ret x3 x6 x8 (decide (2305843009213693952 < x2)) w)))) ∧ (¬ (x8 = 0) → (V_ladingref09_Put_r12 x1 x2 Ret x3 x6 x8 false w))
def V_ladingref09_Put (x0 : T_api_Versions) (x1 : Sl) (x2 : Int) (w : World) (Ret : T_api_Versions → Int → World → Prop) : Prop :=
  opE Try.prog Value.pointer (Instr.box 25 (T_api_Versions.v x0)) w (fun x3 w => opE Try.prog Value.pointer (Instr.alloc 25 true (.tuple #[])) w (fun x6 w => opE Try.prog T_api_Versions.v (Instr.loadAt 25 (.pointer x3)) w (fun x15 w => Cl Try.prog 24 [(T_api_Versions.v x15)].toArray w (fun e w => ∃ (r : Int), e = .returned (.int .i64 r) ∧ (((r = 0) → (Cl Try.prog 33 [(Sl.v x1)].toArray w (fun e w => ∃ (r_3 : Int), e = .returned (.int .i64 r_3) ∧ (V_ladingref09_Put_j1 x1 x2 Ret x3 x6 r_3 w)))) ∧ (¬ (r = 0) → (V_ladingref09_Put_j1 x1 x2 Ret x3 x6 r w)))))))
set_option maxRecDepth 100000 in
theorem L1_ladingref09_Put (x0 : T_api_Versions) (x1 : Sl) (x2 : Int) (w : World) (Ret : T_api_Versions → Int → World → Prop) (H : V_ladingref09_Put x0 x1 x2 w Ret) : Cl Try.prog 12 [(T_api_Versions.v x0), (Sl.v x1), (.int .u64 x2)].toArray w (fun e w' => ∃ (r0 : T_api_Versions) (r1 : Int), e = .returned (.tuple [(T_api_Versions.v r0), (.int .i64 r1)].toArray) ∧ Ret r0 r1 w') := by
  unfold V_ladingref09_Put at H
  refine C.enter 96 (zipE 0 [(T_api_Versions.v x0), (Sl.v x1), (.int .u64 x2)]) Try.func12 rfl rfl (by rfl) rfl ?_
  intro a hE
  replace hE : Sat [] 96 [(0, (T_api_Versions.v x0)), (1, (Sl.v x1)), (2, (.int .u64 x2))] a := hE
  refine C.seq ?_
  refine C.region ?_
  refine hE.op (X.box hE rfl) H fun x3 w a H hE => ?_
  refine hE.op (X.alloc) H fun x6 w a H hE => ?_
  refine hE.pur (X.assign hE rfl) fun a hE => ?_
  refine C.nil (tn ?_)
  refine C.seq ?_
  refine C.region ?_
  refine hE.op (X.load hE rfl) H fun x15 w a H hE => ?_
  refine hE.call (X.callF hE ent24 rfl rfl) H fun e w H => ?_
  obtain ⟨r, rfl, H⟩ := H
  refine ⟨_, rfl, fun a hE => ?_⟩
  refine hE.pur (X.assign hE rfl) fun a hE => ?_
  refine C.nil (tn ?_)
  refine C.join (ds := []) (N := 96) (σ := Int) (fun s => [(8, (.int .i64 s)), (1, (Sl.v x1)), (2, (.int .u64 x2)), (3, (.pointer x3)), (6, (.pointer x6))]) (fun s w => V_ladingref09_Put_j1 x1 x2 Ret x3 x6 s w) ?_ (fun hj1 => ?_)
  · intro x8 w a H hE
    try dsimp only at H hE
    unfold V_ladingref09_Put_j1 at H
    refine C.join (ds := []) (N := 96) (σ := Int) (fun s => [(8, (.int .i64 s)), (1, (Sl.v x1)), (2, (.int .u64 x2)), (3, (.pointer x3)), (6, (.pointer x6))]) (fun s w => V_ladingref09_Put_j2 x1 x2 Ret x3 x6 s w) ?_ (fun hj2 => ?_)
    · intro x8_1 w a H hE
      try dsimp only at H hE
      unfold V_ladingref09_Put_j2 at H
      refine C.seq ?_
      refine C.seq ?_
      refine C.region ?_
      refine hE.op (X.fieldAddr hE rfl) H fun x31 w a H hE => ?_
      refine hE.op (X.load hE rfl) H fun x32 w a H hE => ?_
      refine hE.purR (fun w => X.lenL hE Try.underlying22 rfl) fun a hE => ?_
      refine hE.pur (X.move hE rfl) fun a hE => ?_
      refine C.nil (tn ?_)
      refine C.block ?_
      obtain ⟨I_l3, μ_l3, h0, hb⟩ := H
      refine C.loop (ds := []) (N := 96) (σ := Int × Int) (fun s => [(8, (.int .i64 s.1)), (34, (.int .i64 s.2)), (1, (Sl.v x1)), (2, (.int .u64 x2)), (3, (.pointer x3)), (6, (.pointer x6)), (32, (Sl.v x32)), (33, (.int .i64 (x32.len : Int)))]) (fun s w => I_l3 s.1 s.2 w) (fun s w => μ_l3 s.1 s.2 w) (x8_1, 0) h0 (hE.weak ⟨rfl, rfl, rfl, rfl, rfl, rfl, rfl, rfl, trivial⟩) ?_
      rintro ⟨x8_2, x34⟩ w a hI hE
      try dsimp only at hI hE
      obtain ⟨Kl3, hK_l3⟩ : ∃ K : Int → Int → World → Prop, K = (fun x8_2' x34' w' => I_l3 x8_2' x34' w' ∧ μ_l3 x8_2' x34' w' < μ_l3 x8_2 x34 w) := ⟨_, rfl⟩
      have H : V_ladingref09_Put_l3b x1 x2 Ret x3 x6 x32 x8_2 x34 w Kl3 := by rw [hK_l3]; exact hb x8_2 x34 w hI
      clear hb h0 hI
      unfold V_ladingref09_Put_l3b at H
      refine C.seq ?_
      refine C.region ?_
      refine hE.pur (X.ltI hE rfl rfl) fun a hE => ?_
      refine C.nil (tn ?_)
      refine C.seq ?_
      refine C.condP hE rfl (fun hc => ?_) (fun hc => ?_)
      · replace H := H.1 hc
        refine C.skip (tn ?_)
        refine C.join (ds := []) (N := 96) (σ := Int) (fun s => [(8, (.int .i64 s)), (1, (Sl.v x1)), (2, (.int .u64 x2)), (3, (.pointer x3)), (6, (.pointer x6)), (32, (Sl.v x32)), (33, (.int .i64 (x32.len : Int))), (34, (.int .i64 x34))]) (fun s w => V_ladingref09_Put_j4 x34 Kl3 s w) ?_ (fun hj4 => ?_)
        · intro x8_3 w a H hE
          try dsimp only at H hE
          unfold V_ladingref09_Put_j4 at H
          refine C.region ?_
          refine hE.pur (X.add hE rfl rfl) fun a hE => ?_
          refine hE.pur (X.move hE rfl) fun a hE => ?_
          rw [hK_l3] at H
          exact C.nil (tn ⟨(x8_3, (IntKind.wrap .i64 (x34 + 1))), hE.weak ⟨rfl, rfl, rfl, rfl, rfl, rfl, rfl, rfl, trivial⟩, H⟩)
        · refine C.block ?_
          refine C.seq ?_
          refine C.region ?_
          refine hE.op (X.indexAddr hE rfl rfl) H fun x36 w a H hE => ?_
          refine hE.op (X.load hE rfl) H fun x37 w a H hE => ?_
          refine hE.op (X.alloc) H fun x10 w a H hE => ?_
          refine hE.opu (X.store hE rfl rfl) H fun w a H hE => ?_
          refine C.nil (tn ?_)
          refine C.seq ?_
          refine C.region ?_
          refine hE.pur (X.move hE rfl) fun a hE => ?_
          refine hE.pur (X.eqI hE rfl rfl) fun a hE => ?_
          refine hE.pur (X.move hE rfl) fun a hE => ?_
          refine WL.join (ds := []) (N := 96) (σ := Bool) (fun s => [(45, (.bool s)), (1, (Sl.v x1)), (2, (.int .u64 x2)), (3, (.pointer x3)), (6, (.pointer x6)), (8, (.int .i64 x8_2)), (32, (Sl.v x32)), (33, (.int .i64 (x32.len : Int))), (34, (.int .i64 x34))]) (fun s w => V_ladingref09_Put_r5 x8_2 x34 Kl3 s w) 5 ?_ (fun hr5 => ?_)
          · intro x45 w a H hE
            try dsimp only at H hE
            unfold V_ladingref09_Put_r5 at H
            refine C.nil (tn ?_)
            refine C.condB hE rfl (fun hc => ?_) (fun hc => ?_)
            · replace H := H.1 hc
              refine C.region ?_
              refine hE.pur (X.assign hE rfl) fun a hE => ?_
              exact C.nil (bn (tn (hj4 9 _ _ H (hE.weak ⟨rfl, rfl, rfl, rfl, rfl, rfl, rfl, rfl, trivial⟩))))
            · replace H := H.2 hc
              exact C.skip (bn (tn (hj4 x8_2 _ _ H (hE.weak ⟨rfl, rfl, rfl, rfl, rfl, rfl, rfl, rfl, trivial⟩))))
          · rcases Classical.em ((x8_2 = 0)) with hbr5 | hbr5
            · replace H := H.1 hbr5
              replace hE := hE.bool (b := true) (t := 40) rfl (decide_eq_true hbr5)
              refine hE.on (by rfl) (by rfl) ?_
              refine hE.op (X.fieldAddr hE rfl) H fun x41 w a H hE => ?_
              refine hE.on (by rfl) (by rfl) ?_
              refine hE.op (X.load hE rfl) H fun x42 w a H hE => ?_
              refine hE.on (by rfl) (by rfl) ?_
              refine hE.pur (X.move hE rfl) fun a hE => ?_
              refine hE.on (by rfl) (by rfl) ?_
              refine hE.pur (X.geI hE rfl rfl) fun a hE => ?_
              refine hE.pur (X.pickT hE rfl rfl) fun a hE => ?_
              exact hr5 (decide (x2 ≤ x42)) _ _ H (hE.weak ⟨rfl, rfl, rfl, rfl, rfl, rfl, rfl, rfl, rfl, trivial⟩)
            · replace H := H.2 hbr5
              replace hE := hE.bool (b := false) (t := 40) rfl (decide_eq_false hbr5)
              refine hE.off (by rfl) (by rfl) (by decide) (fun a hE => ?_)
              refine hE.off (by rfl) (by rfl) (by decide) (fun a hE => ?_)
              refine hE.off (by rfl) (by rfl) (by decide) (fun a hE => ?_)
              refine hE.off (by rfl) (by rfl) (by decide) (fun a hE => ?_)
              refine hE.pur (X.pickF hE rfl rfl) fun a hE => ?_
              exact hr5 false _ _ H (hE.weak ⟨rfl, rfl, rfl, rfl, rfl, rfl, rfl, rfl, rfl, trivial⟩)
      · replace H := H.2 hc
        refine C.exit (te (te (be (tn ?_))))
        refine C.join (ds := []) (N := 96) (σ := Int) (fun s => [(8, (.int .i64 s)), (1, (Sl.v x1)), (2, (.int .u64 x2)), (3, (.pointer x3)), (6, (.pointer x6))]) (fun s w => V_ladingref09_Put_j6 x1 x2 Ret x3 x6 s w) ?_ (fun hj6 => ?_)
        · intro x8_4 w a H hE
          try dsimp only at H hE
          unfold V_ladingref09_Put_j6 at H
          refine C.join (ds := []) (N := 96) (σ := Int) (fun s => [(8, (.int .i64 s)), (1, (Sl.v x1)), (2, (.int .u64 x2)), (3, (.pointer x3)), (6, (.pointer x6))]) (fun s w => V_ladingref09_Put_j7 x1 x2 Ret x3 x6 s w) ?_ (fun hj7 => ?_)
          · intro x8_5 w a H hE
            try dsimp only at H hE
            unfold V_ladingref09_Put_j7 at H
            refine C.seq ?_
            refine C.seq ?_
            refine C.region ?_
            refine hE.pur (X.move hE rfl) fun a hE => ?_
            refine hE.pur (X.neI hE rfl rfl) fun a hE => ?_
            refine C.nil (tn ?_)
            refine C.condP hE rfl (fun hc => ?_) (fun hc => ?_)
            · replace H := H.1 hc
              refine C.seq ?_
              refine C.region ?_
              refine hE.op (X.build hE rfl) H fun x68 w a H hE => ?_
              refine hE.pur (X.move hE rfl) fun a hE => ?_
              refine hE.opu (X.store hE rfl rfl) H fun w a H hE => ?_
              refine hE.pur (X.assign hE rfl) fun a hE => ?_
              refine C.nil (tn ?_)
              obtain ⟨q, ad, hp, hl, H⟩ := H
              exact C.ret (tr (C.retC hE (rs := [.cell 6 25, .tmp 7]) (vs := [(T_api_Versions.v q), (.int .i64 x8_5)]) rfl ⟨⟨ad, by rw [← hp]; rfl, hl⟩, rfl, trivial⟩ ⟨_, _, rfl, H⟩))
            · replace H := H.2 hc
              refine C.skip (tn ?_)
              refine C.seq ?_
              refine C.region ?_
              refine hE.op (X.load hE rfl) H fun x70 w a H hE => ?_
              refine hE.call (X.callF hE ent10 rfl rfl) H fun e w H => ?_
              obtain ⟨r_1, rfl, H⟩ := H
              refine ⟨_, rfl, fun a hE => ?_⟩
              refine hE.op (X.alloc) H fun x11 w a H hE => ?_
              refine hE.opu (X.store hE rfl rfl) H fun w a H hE => ?_
              refine C.nil (tn ?_)
              refine C.seq ?_
              refine C.seq ?_
              refine C.region ?_
              refine hE.pur (X.move hE rfl) fun a hE => ?_
              refine hE.purR (fun w => X.lenL hE Try.underlying26 rfl) fun a hE => ?_
              refine hE.pur (X.move hE rfl) fun a hE => ?_
              refine C.nil (tn ?_)
              refine C.block ?_
              obtain ⟨I_l8, μ_l8, h0, hb⟩ := H
              refine C.loop (ds := []) (N := 96) (σ := Int) (fun s => [(74, (.int .i64 s)), (2, (.int .u64 x2)), (6, (.pointer x6)), (11, (.pointer x11)), (72, (Sl.v x1)), (73, (.int .i64 (x1.len : Int)))]) (fun s w => I_l8 s w) (fun s w => μ_l8 s w) 0 h0 (hE.weak ⟨rfl, rfl, rfl, rfl, rfl, rfl, trivial⟩) ?_
              intro x74 w a hI hE
              try dsimp only at hI hE
              obtain ⟨Kl8, hK_l8⟩ : ∃ K : Int → World → Prop, K = (fun x74' w' => I_l8 x74' w' ∧ μ_l8 x74' w' < μ_l8 x74 w) := ⟨_, rfl⟩
              have H : V_ladingref09_Put_l8b x1 x2 Ret x6 x11 x74 w Kl8 := by rw [hK_l8]; exact hb x74 w hI
              clear hb h0 hI
              unfold V_ladingref09_Put_l8b at H
              refine C.seq ?_
              refine C.region ?_
              refine hE.pur (X.ltI hE rfl rfl) fun a hE => ?_
              refine C.nil (tn ?_)
              refine C.seq ?_
              refine C.condP hE rfl (fun hc => ?_) (fun hc => ?_)
              · replace H := H.1 hc
                refine C.skip (tn ?_)
                refine C.seq ?_
                refine C.block ?_
                refine C.seq ?_
                refine C.region ?_
                refine hE.op (X.indexAddr hE rfl rfl) H fun x76 w a H hE => ?_
                refine hE.op (X.load hE rfl) H fun x77 w a H hE => ?_
                refine hE.op (X.alloc) H fun x13 w a H hE => ?_
                refine hE.opu (X.store hE rfl rfl) H fun w a H hE => ?_
                refine C.nil (tn ?_)
                refine C.seq ?_
                refine C.region ?_
                refine hE.op (X.fieldAddr hE rfl) H fun x78 w a H hE => ?_
                refine hE.op (X.load hE rfl) H fun x79 w a H hE => ?_
                refine hE.pur (X.move hE rfl) fun a hE => ?_
                refine hE.op (X.fieldAddr hE rfl) H fun x81 w a H hE => ?_
                refine hE.op (X.load hE rfl) H fun x82 w a H hE => ?_
                refine hE.op (X.fieldAddr hE rfl) H fun x83 w a H hE => ?_
                refine hE.op (X.load hE rfl) H fun x84 w a H hE => ?_
                refine hE.op (X.build hE rfl) H fun x85 w a H hE => ?_
                refine hE.op (X.alloc) H fun x14 w a H hE => ?_
                refine hE.opu (X.store hE rfl rfl) H fun w a H hE => ?_
                refine C.nil (tn ?_)
                refine C.join (ds := []) (N := 96) (σ := Unit) (fun s => [(2, (.int .u64 x2)), (6, (.pointer x6)), (11, (.pointer x11)), (14, (.pointer x14)), (72, (Sl.v x1)), (73, (.int .i64 (x1.len : Int))), (74, (.int .i64 x74))]) (fun s w => V_ladingref09_Put_j9 x11 x74 Kl8 x14  w) ?_ (fun hj9 => ?_)
                · rintro ⟨⟩ w a H hE
                  try dsimp only at H hE
                  unfold V_ladingref09_Put_j9 at H
                  refine C.region ?_
                  refine hE.op (X.fieldAddr hE rfl) H fun x89 w a H hE => ?_
                  refine hE.op (X.load hE rfl) H fun x90 w a H hE => ?_
                  refine hE.op (X.load hE rfl) H fun x91 w a H hE => ?_
                  refine hE.call (X.callF hE ent34 rfl rfl) H fun e w H => ?_
                  obtain ⟨r_2, rfl, H⟩ := H
                  refine ⟨_, rfl, fun a hE => ?_⟩
                  refine hE.op (X.fieldAddr hE rfl) H fun x93 w a H hE => ?_
                  refine hE.opu (X.store hE rfl rfl) H fun w a H hE => ?_
                  refine C.nil (bn (tn ?_))
                  refine C.region ?_
                  refine hE.pur (X.add hE rfl rfl) fun a hE => ?_
                  refine hE.pur (X.move hE rfl) fun a hE => ?_
                  rw [hK_l8] at H
                  exact C.nil (tn ⟨(IntKind.wrap .i64 (x74 + 1)), hE.weak ⟨rfl, rfl, rfl, rfl, rfl, rfl, trivial⟩, H⟩)
                · refine C.seq ?_
                  refine C.region ?_
                  refine hE.op (X.fieldAddr hE rfl) H fun x86 w a H hE => ?_
                  refine hE.op (X.load hE rfl) H fun x87 w a H hE => ?_
                  refine C.nil (tn ?_)
                  refine C.condB hE rfl (fun hc => ?_) (fun hc => ?_)
                  · replace H := H.1 hc
                    refine C.region ?_
                    refine hE.op (X.fieldAddr hE rfl) H fun x88 w a H hE => ?_
                    refine hE.opu (X.store hE rfl rfl) H fun w a H hE => ?_
                    exact C.nil (tn (hj9 () _ _ H (hE.weak ⟨rfl, rfl, rfl, rfl, rfl, rfl, rfl, trivial⟩)))
                  · replace H := H.2 hc
                    exact C.skip (tn (hj9 () _ _ H (hE.weak ⟨rfl, rfl, rfl, rfl, rfl, rfl, rfl, trivial⟩)))
              · replace H := H.2 hc
                refine C.exit (te (te (be (tn ?_))))
                refine C.seq ?_
                refine C.region ?_
                refine hE.op (X.load hE rfl) H fun x95 w a H hE => ?_
                refine hE.opu (X.store hE rfl rfl) H fun w a H hE => ?_
                refine hE.pur (X.assign hE rfl) fun a hE => ?_
                refine C.nil (tn ?_)
                obtain ⟨q_1, ad_1, hp_1, hl_1, H⟩ := H
                exact C.ret (C.retC hE (rs := [.cell 6 25, .tmp 7]) (vs := [(T_api_Versions.v q_1), (.int .i64 0)]) rfl ⟨⟨ad_1, by rw [← hp_1]; rfl, hl_1⟩, rfl, trivial⟩ ⟨_, _, rfl, H⟩)
          · refine C.seq ?_
            refine C.region ?_
            refine hE.pur (X.move hE rfl) fun a hE => ?_
            refine hE.pur (X.eqI hE rfl rfl) fun a hE => ?_
            refine hE.pur (X.move hE rfl) fun a hE => ?_
            refine WL.join (ds := []) (N := 96) (σ := Bool) (fun s => [(65, (.bool s)), (1, (Sl.v x1)), (2, (.int .u64 x2)), (3, (.pointer x3)), (6, (.pointer x6)), (8, (.int .i64 x8_4))]) (fun s w => V_ladingref09_Put_r10 x1 x2 Ret x3 x6 x8_4 s w) 8 ?_ (fun hr10 => ?_)
            · intro x65 w a H hE
              try dsimp only at H hE
              unfold V_ladingref09_Put_r10 at H
              refine C.nil (tn ?_)
              refine C.condB hE rfl (fun hc => ?_) (fun hc => ?_)
              · replace H := H.1 hc
                refine C.region ?_
                refine hE.pur (X.assign hE rfl) fun a hE => ?_
                exact C.nil (tn (hj7 3 _ _ H (hE.weak ⟨rfl, rfl, rfl, rfl, rfl, trivial⟩)))
              · replace H := H.2 hc
                exact C.skip (tn (hj7 x8_4 _ _ H (hE.weak ⟨rfl, rfl, rfl, rfl, rfl, trivial⟩)))
            · rcases Classical.em ((x8_4 = 0)) with hbr10 | hbr10
              · replace H := H.1 hbr10
                replace hE := hE.bool (b := true) (t := 57) rfl (decide_eq_true hbr10)
                refine hE.on (by rfl) (by rfl) ?_
                refine hE.op (X.fieldAddr hE rfl) H fun x58 w a H hE => ?_
                refine hE.on (by rfl) (by rfl) ?_
                refine hE.op (X.load hE rfl) H fun x59 w a H hE => ?_
                refine hE.on (by rfl) (by rfl) ?_
                refine hE.purR (fun w => X.lenL hE Try.underlying22 rfl) fun a hE => ?_
                refine hE.on (by rfl) (by rfl) ?_
                refine hE.pur (X.move hE rfl) fun a hE => ?_
                refine hE.on (by rfl) (by rfl) ?_
                refine hE.purR (fun w => X.lenL hE Try.underlying26 rfl) fun a hE => ?_
                refine hE.on (by rfl) (by rfl) ?_
                refine hE.pur (X.add hE rfl rfl) fun a hE => ?_
                refine hE.on (by rfl) (by rfl) ?_
                refine hE.pur (X.gtI hE rfl rfl) fun a hE => ?_
                refine hE.pur (X.pickT hE rfl rfl) fun a hE => ?_
                exact hr10 (decide (4096 < (IntKind.wrap .i64 ((x59.len : Int) + (x1.len : Int))))) _ _ H (hE.weak ⟨rfl, rfl, rfl, rfl, rfl, rfl, trivial⟩)
              · replace H := H.2 hbr10
                replace hE := hE.bool (b := false) (t := 57) rfl (decide_eq_false hbr10)
                refine hE.off (by rfl) (by rfl) (by decide) (fun a hE => ?_)
                refine hE.off (by rfl) (by rfl) (by decide) (fun a hE => ?_)
                refine hE.off (by rfl) (by rfl) (by decide) (fun a hE => ?_)
                refine hE.off (by rfl) (by rfl) (by decide) (fun a hE => ?_)
                refine hE.off (by rfl) (by rfl) (by decide) (fun a hE => ?_)
                refine hE.off (by rfl) (by rfl) (by decide) (fun a hE => ?_)
                refine hE.off (by rfl) (by rfl) (by decide) (fun a hE => ?_)
                refine hE.pur (X.pickF hE rfl rfl) fun a hE => ?_
                exact hr10 false _ _ H (hE.weak ⟨rfl, rfl, rfl, rfl, rfl, rfl, trivial⟩)
        · refine C.seq ?_
          refine C.region ?_
          refine hE.pur (X.move hE rfl) fun a hE => ?_
          refine hE.pur (X.eqI hE rfl rfl) fun a hE => ?_
          refine hE.pur (X.move hE rfl) fun a hE => ?_
          refine WL.join (ds := []) (N := 96) (σ := Bool) (fun s => [(54, (.bool s)), (1, (Sl.v x1)), (2, (.int .u64 x2)), (3, (.pointer x3)), (6, (.pointer x6)), (8, (.int .i64 x8_2))]) (fun s w => V_ladingref09_Put_r11 x1 x2 Ret x3 x6 x8_2 s w) 5 ?_ (fun hr11 => ?_)
          · intro x54 w a H hE
            try dsimp only at H hE
            unfold V_ladingref09_Put_r11 at H
            refine C.nil (tn ?_)
            refine C.condB hE rfl (fun hc => ?_) (fun hc => ?_)
            · replace H := H.1 hc
              refine C.region ?_
              refine hE.pur (X.assign hE rfl) fun a hE => ?_
              exact C.nil (tn (hj6 9 _ _ H (hE.weak ⟨rfl, rfl, rfl, rfl, rfl, trivial⟩)))
            · replace H := H.2 hc
              exact C.skip (tn (hj6 x8_2 _ _ H (hE.weak ⟨rfl, rfl, rfl, rfl, rfl, trivial⟩)))
          · rcases Classical.em ((x8_2 = 0)) with hbr11 | hbr11
            · replace H := H.1 hbr11
              replace hE := hE.bool (b := true) (t := 49) rfl (decide_eq_true hbr11)
              refine hE.on (by rfl) (by rfl) ?_
              refine hE.pur (X.move hE rfl) fun a hE => ?_
              refine hE.on (by rfl) (by rfl) ?_
              refine hE.op (X.fieldAddr hE rfl) H fun x51 w a H hE => ?_
              refine hE.on (by rfl) (by rfl) ?_
              refine hE.op (X.load hE rfl) H fun x52 w a H hE => ?_
              refine hE.on (by rfl) (by rfl) ?_
              refine hE.pur (X.ltI hE rfl rfl) fun a hE => ?_
              refine hE.pur (X.pickT hE rfl rfl) fun a hE => ?_
              exact hr11 (decide (x2 < x52)) _ _ H (hE.weak ⟨rfl, rfl, rfl, rfl, rfl, rfl, trivial⟩)
            · replace H := H.2 hbr11
              replace hE := hE.bool (b := false) (t := 49) rfl (decide_eq_false hbr11)
              refine hE.off (by rfl) (by rfl) (by decide) (fun a hE => ?_)
              refine hE.off (by rfl) (by rfl) (by decide) (fun a hE => ?_)
              refine hE.off (by rfl) (by rfl) (by decide) (fun a hE => ?_)
              refine hE.off (by rfl) (by rfl) (by decide) (fun a hE => ?_)
              refine hE.pur (X.pickF hE rfl rfl) fun a hE => ?_
              exact hr11 false _ _ H (hE.weak ⟨rfl, rfl, rfl, rfl, rfl, rfl, trivial⟩)
    · refine C.seq ?_
      refine C.region ?_
      refine hE.pur (X.move hE rfl) fun a hE => ?_
      refine hE.pur (X.eqI hE rfl rfl) fun a hE => ?_
      refine hE.pur (X.move hE rfl) fun a hE => ?_
      refine WL.join (ds := []) (N := 96) (σ := Bool) (fun s => [(30, (.bool s)), (1, (Sl.v x1)), (2, (.int .u64 x2)), (3, (.pointer x3)), (6, (.pointer x6)), (8, (.int .i64 x8))]) (fun s w => V_ladingref09_Put_r12 x1 x2 Ret x3 x6 x8 s w) 7 ?_ (fun hr12 => ?_)
      · intro x30 w a H hE
        try dsimp only at H hE
        unfold V_ladingref09_Put_r12 at H
        refine C.nil (tn ?_)
        refine C.condB hE rfl (fun hc => ?_) (fun hc => ?_)
        · replace H := H.1 hc
          refine C.region ?_
          refine hE.pur (X.assign hE rfl) fun a hE => ?_
          exact C.nil (tn (hj2 2 _ _ H (hE.weak ⟨rfl, rfl, rfl, rfl, rfl, trivial⟩)))
        · replace H := H.2 hc
          exact C.skip (tn (hj2 x8 _ _ H (hE.weak ⟨rfl, rfl, rfl, rfl, rfl, trivial⟩)))
      · rcases Classical.em ((x8 = 0)) with hbr12 | hbr12
        · replace H := H.1 hbr12
          replace hE := hE.bool (b := true) (t := 23) rfl (decide_eq_true hbr12)
          refine hE.on (by rfl) (by rfl) ?_
          refine hE.pur (X.move hE rfl) fun a hE => ?_
          refine hE.on (by rfl) (by rfl) ?_
          refine hE.pur (X.ltI hE rfl rfl) fun a hE => ?_
          refine hE.on (by rfl) (by rfl) ?_
          refine hE.pur (X.move hE rfl) fun a hE => ?_
          refine WL.join (ds := []) (N := 96) (σ := Bool) (fun s => [(29, (.bool s)), (1, (Sl.v x1)), (2, (.int .u64 x2)), (3, (.pointer x3)), (6, (.pointer x6)), (8, (.int .i64 x8)), (23, (.bool true))]) (fun s w => V_ladingref09_Put_r13 x1 x2 Ret x3 x6 x8 s w) 3 ?_ (fun hr13 => ?_)
          · intro x29 w a H hE
            try dsimp only at H hE
            unfold V_ladingref09_Put_r13 at H
            refine hE.pur (X.pickT hE rfl rfl) fun a hE => ?_
            exact hr12 x29 _ _ H (hE.weak ⟨rfl, rfl, rfl, rfl, rfl, rfl, trivial⟩)
          · rcases Classical.em ((x2 < 1)) with hbr13 | hbr13
            · replace H := H.1 hbr13
              replace hE := hE.bool (b := true) (t := 26) rfl (decide_eq_true hbr13)
              refine hE.off (by rfl) (by rfl) (by decide) (fun a hE => ?_)
              refine hE.off (by rfl) (by rfl) (by decide) (fun a hE => ?_)
              refine hE.on (by rfl) (by rfl) ?_
              refine hE.pur (X.pickT hE rfl rfl) fun a hE => ?_
              exact hr13 true _ _ H (hE.weak ⟨rfl, rfl, rfl, rfl, rfl, rfl, rfl, trivial⟩)
            · replace H := H.2 hbr13
              replace hE := hE.bool (b := false) (t := 26) rfl (decide_eq_false hbr13)
              refine hE.on (by rfl) (by rfl) ?_
              refine hE.pur (X.move hE rfl) fun a hE => ?_
              refine hE.on (by rfl) (by rfl) ?_
              refine hE.pur (X.gtI hE rfl rfl) fun a hE => ?_
              refine hE.on (by rfl) (by rfl) ?_
              refine hE.pur (X.pickF hE rfl rfl) fun a hE => ?_
              exact hr13 (decide (2305843009213693952 < x2)) _ _ H (hE.weak ⟨rfl, rfl, rfl, rfl, rfl, rfl, rfl, trivial⟩)
        · replace H := H.2 hbr12
          replace hE := hE.bool (b := false) (t := 23) rfl (decide_eq_false hbr12)
          refine hE.off (by rfl) (by rfl) (by decide) (fun a hE => ?_)
          refine hE.off (by rfl) (by rfl) (by decide) (fun a hE => ?_)
          refine hE.off (by rfl) (by rfl) (by decide) (fun a hE => ?_)
          refine hE.offU (by rfl) (by rfl) (fun a hE => ?_)
          refine hE.offU (by rfl) (by rfl) (fun a hE => ?_)
          refine hE.off (by rfl) (by rfl) (by decide) (fun a hE => ?_)
          refine hE.pur (X.pickF hE rfl rfl) fun a hE => ?_
          exact hr12 false _ _ H (hE.weak ⟨rfl, rfl, rfl, rfl, rfl, rfl, trivial⟩)
  · refine C.seq ?_
    refine C.region ?_
    refine hE.pur (X.move hE rfl) fun a hE => ?_
    refine hE.pur (X.eqI hE rfl rfl) fun a hE => ?_
    refine C.nil (tn ?_)
    refine C.condP hE rfl (fun hc => ?_) (fun hc => ?_)
    · replace H := H.1 hc
      refine C.region ?_
      refine hE.pur (X.move hE rfl) fun a hE => ?_
      refine hE.call (X.callF hE ent33 rfl rfl) H fun e w H => ?_
      obtain ⟨r_3, rfl, H⟩ := H
      refine ⟨_, rfl, fun a hE => ?_⟩
      refine hE.pur (X.assign hE rfl) fun a hE => ?_
      exact C.nil (tn (hj1 r_3 _ _ H (hE.weak ⟨rfl, rfl, rfl, rfl, rfl, trivial⟩)))
    · replace H := H.2 hc
      exact C.skip (tn (hj1 r _ _ H (hE.weak ⟨rfl, rfl, rfl, rfl, rfl, trivial⟩)))
/-! ### lading ladingref09.Sweep: function 14 -/
def V_ladingref09_Sweep_j2 (x33 : Int) (Kl1 : Int → World → Prop) (w : World) : Prop :=
  Kl1 (IntKind.wrap .i64 (x33 + 1)) w
def V_ladingref09_Sweep_r5 (x7 : Option Addr) (x33 : Int) (Kl1 : Int → World → Prop) (x9 : Option Addr) (x79 : Bool) (w : World) : Prop :=
  (x79 = true → (opE Try.prog Value.pointer (Instr.fieldAt 25 (.pointer x7) 0) w (fun x80 w => opE Try.prog Sl.v (Instr.loadAt 22 (.pointer x80)) w (fun x81 w => opE Try.prog T_api_Version.v (Instr.loadAt 37 (.pointer x9)) w (fun x82 w => opE Try.prog Sl.v (Instr.buildSlice 22 1 [(0, (T_api_Version.v x82))].toArray) w (fun x83 w => opE Try.prog Sl.v (Builtin.append_ #[22, 22] 22 [(Sl.v x81), (Sl.v x83)].toArray) w (fun x84 w => opE Try.prog Value.pointer (Instr.fieldAt 25 (.pointer x7) 0) w (fun x85 w => opU Try.prog (Instr.storeAt 22 (.pointer x85) (Sl.v x84)) w (fun w => V_ladingref09_Sweep_j2 x33 Kl1 w))))))))) ∧ (x79 = false → (V_ladingref09_Sweep_j2 x33 Kl1 w))
def V_ladingref09_Sweep_r6 (x7 : Option Addr) (x33 : Int) (Kl1 : Int → World → Prop) (x9 : Option Addr) (x78 : Bool) (w : World) : Prop :=
  V_ladingref09_Sweep_r5 x7 x33 Kl1 x9 x78 w
def V_ladingref09_Sweep_r4 (x1 : Int) (x7 : Option Addr) (x33 : Int) (Kl1 : Int → World → Prop) (x9 : Option Addr) (x66 : Bool) (w : World) : Prop :=
  nextB w (fun w => ((!x66) = true → (opE Try.prog Value.pointer (Instr.fieldAt 37 (.pointer x9) 3) w (fun x70 w => opE Try.prog Value.bool (Instr.loadAt 4 (.pointer x70)) w (fun x71 w => ((!x71) = true → (V_ladingref09_Sweep_r6 x7 x33 Kl1 x9 true w)) ∧ ((!x71) = false → (opE Try.prog Value.pointer (Instr.fieldAt 37 (.pointer x9) 1) w (fun x74 w => opE Try.prog (Value.int .u64) (Instr.loadAt 23 (.pointer x74)) w (fun x75 w => V_ladingref09_Sweep_r6 x7 x33 Kl1 x9 (decide (x1 < x75)) w)))))))) ∧ ((!x66) = false → (V_ladingref09_Sweep_r5 x7 x33 Kl1 x9 false w)))
def V_ladingref09_Sweep_r3 (x1 : Int) (x2 : Option Addr) (x7 : Option Addr) (x33 : Int) (Kl1 : Int → World → Prop) (x9 : Option Addr) (x55 : Bool) (w : World) : Prop :=
  (x55 = true → (opB Try.prog Value.pointer (Instr.fieldAt 25 (.pointer x2) 0) w (fun x57 => opB Try.prog Sl.v (Instr.loadAt 22 (.pointer x57)) w (fun x58 => opB Try.prog Value.pointer (Instr.indexAt 22 (Sl.v x58) (.int .i64 (IntKind.wrap .i64 (x33 + 1)))) w (fun x61 => opB Try.prog Value.pointer (Instr.fieldAt 37 (.pointer x61) 1) w (fun x62 => opB Try.prog (Value.int .u64) (Instr.loadAt 23 (.pointer x62)) w (fun x63 => V_ladingref09_Sweep_r4 x1 x7 x33 Kl1 x9 (decide (x63 ≤ x1)) w))))))) ∧ (x55 = false → (V_ladingref09_Sweep_r4 x1 x7 x33 Kl1 x9 false w))
def V_ladingref09_Sweep_l1b (x1 : Int) (Ret : T_api_Versions → Int → World → Prop) (x2 : Option Addr) (x4 : Option Addr) (x7 : Option Addr) (x31 : Sl) (x33 : Int) (w : World) (Kl1 : Int → World → Prop) : Prop :=
  ((x33 < (x31.len : Int)) → (opE Try.prog Value.pointer (Instr.indexAt 22 (Sl.v x31) (.int .i64 x33)) w (fun x36 w => opE Try.prog T_api_Version.v (Instr.loadAt 37 (.pointer x36)) w (fun x37 w => opE Try.prog Value.pointer (Instr.alloc 37 true (.tuple #[])) w (fun x9 w => opU Try.prog (Instr.storeAt 37 (.pointer x9) (T_api_Version.v x37)) w (fun w => opB Try.prog Value.pointer (Instr.fieldAt 25 (.pointer x2) 0) w (fun x40 => opB Try.prog Sl.v (Instr.loadAt 22 (.pointer x40)) w (fun x41 => (((IntKind.wrap .i64 (x33 + 1)) < (x41.len : Int)) → (opB Try.prog Value.pointer (Instr.fieldAt 25 (.pointer x2) 0) w (fun x45 => opB Try.prog Sl.v (Instr.loadAt 22 (.pointer x45)) w (fun x46 => opB Try.prog Value.pointer (Instr.indexAt 22 (Sl.v x46) (.int .i64 (IntKind.wrap .i64 (x33 + 1)))) w (fun x49 => opB Try.prog Value.pointer (Instr.fieldAt 37 (.pointer x49) 0) w (fun x50 => opB Try.prog Value.string (Instr.loadAt 9 (.pointer x50)) w (fun x51 => opB Try.prog Value.pointer (Instr.fieldAt 37 (.pointer x9) 0) w (fun x52 => opB Try.prog Value.string (Instr.loadAt 9 (.pointer x52)) w (fun x53 => V_ladingref09_Sweep_r3 x1 x2 x7 x33 Kl1 x9 (decide (x51 = x53)) w))))))))) ∧ (¬ ((IntKind.wrap .i64 (x33 + 1)) < (x41.len : Int)) → (V_ladingref09_Sweep_r3 x1 x2 x7 x33 Kl1 x9 false w)))))))))) ∧ (¬ (x33 < (x31.len : Int)) → (opE Try.prog T_api_Versions.v (Instr.loadAt 25 (.pointer x7)) w (fun x87 w => opU Try.prog (Instr.storeAt 25 (.pointer x4) (T_api_Versions.v x87)) w (fun w => opR Try.prog T_api_Versions.v 25 x4 w (fun q_3 => Ret q_3 0 w)))))
def V_ladingref09_Sweep (x0 : T_api_Versions) (x1 : Int) (w : World) (Ret : T_api_Versions → Int → World → Prop) : Prop :=
  opE Try.prog Value.pointer (Instr.box 25 (T_api_Versions.v x0)) w (fun x2 w => opE Try.prog Value.pointer (Instr.alloc 25 true (.tuple #[])) w (fun x4 w => opE Try.prog T_api_Versions.v (Instr.loadAt 25 (.pointer x2)) w (fun x11 w => Cl Try.prog 24 [(T_api_Versions.v x11)].toArray w (fun e w => ∃ (r : Int), e = .returned (.int .i64 r) ∧ (((r ≠ 0) → (opE Try.prog T_api_Versions.v (Instr.build 25 [].toArray) w (fun x16 w => opU Try.prog (Instr.storeAt 25 (.pointer x4) (T_api_Versions.v x16)) w (fun w => opR Try.prog T_api_Versions.v 25 x4 w (fun q => Ret q r w))))) ∧ (¬ (r ≠ 0) → (opE Try.prog Value.pointer (Instr.fieldAt 25 (.pointer x2) 1) w (fun x20 w => opE Try.prog (Value.int .u64) (Instr.loadAt 23 (.pointer x20)) w (fun x21 w => ((x1 < x21) → (opE Try.prog T_api_Versions.v (Instr.build 25 [].toArray) w (fun x23 w => opU Try.prog (Instr.storeAt 25 (.pointer x4) (T_api_Versions.v x23)) w (fun w => opR Try.prog T_api_Versions.v 25 x4 w (fun q_1 => Ret q_1 9 w))))) ∧ (¬ (x1 < x21) → (((2305843009213693952 < x1) → (opE Try.prog T_api_Versions.v (Instr.build 25 [].toArray) w (fun x27 w => opU Try.prog (Instr.storeAt 25 (.pointer x4) (T_api_Versions.v x27)) w (fun w => opR Try.prog T_api_Versions.v 25 x4 w (fun q_2 => Ret q_2 2 w))))) ∧ (¬ (2305843009213693952 < x1) → (opE Try.prog T_api_Versions.v (Instr.build 25 [(1, (.int .u64 x1))].toArray) w (fun x29 w => opE Try.prog Value.pointer (Instr.alloc 25 true (.tuple #[])) w (fun x7 w => opU Try.prog (Instr.storeAt 25 (.pointer x7) (T_api_Versions.v x29)) w (fun w => opE Try.prog Value.pointer (Instr.fieldAt 25 (.pointer x2) 0) w (fun x30 w => opE Try.prog Sl.v (Instr.loadAt 22 (.pointer x30)) w (fun x31 w => ∃ (I : Int → World → Prop) (μ : Int → World → Nat), I 0 w ∧ ∀ (x33 : Int) w, I x33 w → V_ladingref09_Sweep_l1b x1 Ret x2 x4 x7 x31 x33 w (fun x33' w' => I x33' w' ∧ μ x33' w' < μ x33 w)))))))))))))))))))
set_option maxRecDepth 100000 in
theorem L1_ladingref09_Sweep (x0 : T_api_Versions) (x1 : Int) (w : World) (Ret : T_api_Versions → Int → World → Prop) (H : V_ladingref09_Sweep x0 x1 w Ret) : Cl Try.prog 14 [(T_api_Versions.v x0), (.int .u64 x1)].toArray w (fun e w' => ∃ (r0 : T_api_Versions) (r1 : Int), e = .returned (.tuple [(T_api_Versions.v r0), (.int .i64 r1)].toArray) ∧ Ret r0 r1 w') := by
  unfold V_ladingref09_Sweep at H
  refine C.enter 88 (zipE 0 [(T_api_Versions.v x0), (.int .u64 x1)]) Try.func14 rfl rfl (by rfl) rfl ?_
  intro a hE
  replace hE : Sat [] 88 [(0, (T_api_Versions.v x0)), (1, (.int .u64 x1))] a := hE
  refine C.seq ?_
  refine C.region ?_
  refine hE.op (X.box hE rfl) H fun x2 w a H hE => ?_
  refine hE.op (X.alloc) H fun x4 w a H hE => ?_
  refine hE.pur (X.assign hE rfl) fun a hE => ?_
  refine C.nil (tn ?_)
  refine C.seq ?_
  refine C.region ?_
  refine hE.op (X.load hE rfl) H fun x11 w a H hE => ?_
  refine hE.call (X.callF hE ent24 rfl rfl) H fun e w H => ?_
  obtain ⟨r, rfl, H⟩ := H
  refine ⟨_, rfl, fun a hE => ?_⟩
  refine hE.pur (X.assign hE rfl) fun a hE => ?_
  refine C.nil (tn ?_)
  refine C.seq ?_
  refine C.block ?_
  refine C.seq ?_
  refine C.region ?_
  refine hE.pur (X.move hE rfl) fun a hE => ?_
  refine hE.pur (X.neI hE rfl rfl) fun a hE => ?_
  refine hE.pur (X.assign hE rfl) fun a hE => ?_
  refine C.nil (tn ?_)
  refine C.condP hE rfl (fun hc => ?_) (fun hc => ?_)
  · replace H := H.1 hc
    refine C.seq ?_
    refine C.region ?_
    refine hE.op (X.build hE rfl) H fun x16 w a H hE => ?_
    refine hE.pur (X.move hE rfl) fun a hE => ?_
    refine hE.opu (X.store hE rfl rfl) H fun w a H hE => ?_
    refine hE.pur (X.assign hE rfl) fun a hE => ?_
    refine C.nil (tn ?_)
    obtain ⟨q, ad, hp, hl, H⟩ := H
    exact C.ret (br (tr (C.retC hE (rs := [.cell 4 25, .tmp 5]) (vs := [(T_api_Versions.v q), (.int .i64 r)]) rfl ⟨⟨ad, by rw [← hp]; rfl, hl⟩, rfl, trivial⟩ ⟨_, _, rfl, H⟩)))
  · replace H := H.2 hc
    refine C.seq ?_
    refine C.region ?_
    refine hE.pur (X.move hE rfl) fun a hE => ?_
    refine hE.op (X.fieldAddr hE rfl) H fun x20 w a H hE => ?_
    refine hE.op (X.load hE rfl) H fun x21 w a H hE => ?_
    refine hE.pur (X.ltI hE rfl rfl) fun a hE => ?_
    refine hE.pur (X.assign hE rfl) fun a hE => ?_
    refine C.nil (tn ?_)
    refine C.condP hE rfl (fun hc => ?_) (fun hc => ?_)
    · replace H := H.1 hc
      refine C.seq ?_
      refine C.region ?_
      refine hE.op (X.build hE rfl) H fun x23 w a H hE => ?_
      refine hE.opu (X.store hE rfl rfl) H fun w a H hE => ?_
      refine hE.pur (X.assign hE rfl) fun a hE => ?_
      refine C.nil (tn ?_)
      obtain ⟨q_1, ad_1, hp_1, hl_1, H⟩ := H
      exact C.ret (br (tr (C.retC hE (rs := [.cell 4 25, .tmp 5]) (vs := [(T_api_Versions.v q_1), (.int .i64 9)]) rfl ⟨⟨ad_1, by rw [← hp_1]; rfl, hl_1⟩, rfl, trivial⟩ ⟨_, _, rfl, H⟩)))
    · replace H := H.2 hc
      refine C.seq ?_
      refine C.region ?_
      refine hE.pur (X.move hE rfl) fun a hE => ?_
      refine hE.pur (X.gtI hE rfl rfl) fun a hE => ?_
      refine hE.pur (X.assign hE rfl) fun a hE => ?_
      refine C.nil (tn ?_)
      refine C.condP hE rfl (fun hc => ?_) (fun hc => ?_)
      · replace H := H.1 hc
        refine C.seq ?_
        refine C.region ?_
        refine hE.op (X.build hE rfl) H fun x27 w a H hE => ?_
        refine hE.opu (X.store hE rfl rfl) H fun w a H hE => ?_
        refine hE.pur (X.assign hE rfl) fun a hE => ?_
        refine C.nil (tn ?_)
        obtain ⟨q_2, ad_2, hp_2, hl_2, H⟩ := H
        exact C.ret (br (tr (C.retC hE (rs := [.cell 4 25, .tmp 5]) (vs := [(T_api_Versions.v q_2), (.int .i64 2)]) rfl ⟨⟨ad_2, by rw [← hp_2]; rfl, hl_2⟩, rfl, trivial⟩ ⟨_, _, rfl, H⟩)))
      · replace H := H.2 hc
        refine C.skip (bn (tn ?_))
        refine C.seq ?_
        refine C.region ?_
        refine hE.pur (X.move hE rfl) fun a hE => ?_
        refine hE.op (X.build hE rfl) H fun x29 w a H hE => ?_
        refine hE.op (X.alloc) H fun x7 w a H hE => ?_
        refine hE.opu (X.store hE rfl rfl) H fun w a H hE => ?_
        refine C.nil (tn ?_)
        refine C.seq ?_
        refine C.seq ?_
        refine C.region ?_
        refine hE.op (X.fieldAddr hE rfl) H fun x30 w a H hE => ?_
        refine hE.op (X.load hE rfl) H fun x31 w a H hE => ?_
        refine hE.purR (fun w => X.lenL hE Try.underlying22 rfl) fun a hE => ?_
        refine hE.pur (X.move hE rfl) fun a hE => ?_
        refine C.nil (tn ?_)
        refine C.block ?_
        obtain ⟨I_l1, μ_l1, h0, hb⟩ := H
        refine C.loop (ds := []) (N := 88) (σ := Int) (fun s => [(33, (.int .i64 s)), (1, (.int .u64 x1)), (2, (.pointer x2)), (4, (.pointer x4)), (7, (.pointer x7)), (31, (Sl.v x31)), (32, (.int .i64 (x31.len : Int)))]) (fun s w => I_l1 s w) (fun s w => μ_l1 s w) 0 h0 (hE.weak ⟨rfl, rfl, rfl, rfl, rfl, rfl, rfl, trivial⟩) ?_
        intro x33 w a hI hE
        try dsimp only at hI hE
        obtain ⟨Kl1, hK_l1⟩ : ∃ K : Int → World → Prop, K = (fun x33' w' => I_l1 x33' w' ∧ μ_l1 x33' w' < μ_l1 x33 w) := ⟨_, rfl⟩
        have H : V_ladingref09_Sweep_l1b x1 Ret x2 x4 x7 x31 x33 w Kl1 := by rw [hK_l1]; exact hb x33 w hI
        clear hb h0 hI
        unfold V_ladingref09_Sweep_l1b at H
        refine C.seq ?_
        refine C.region ?_
        refine hE.pur (X.ltI hE rfl rfl) fun a hE => ?_
        refine C.nil (tn ?_)
        refine C.seq ?_
        refine C.condP hE rfl (fun hc => ?_) (fun hc => ?_)
        · replace H := H.1 hc
          refine C.skip (tn ?_)
          refine C.join (ds := []) (N := 88) (σ := Unit) (fun s => [(1, (.int .u64 x1)), (2, (.pointer x2)), (4, (.pointer x4)), (7, (.pointer x7)), (31, (Sl.v x31)), (32, (.int .i64 (x31.len : Int))), (33, (.int .i64 x33))]) (fun s w => V_ladingref09_Sweep_j2 x33 Kl1  w) ?_ (fun hj2 => ?_)
          · rintro ⟨⟩ w a H hE
            try dsimp only at H hE
            unfold V_ladingref09_Sweep_j2 at H
            refine C.region ?_
            refine hE.pur (X.add hE rfl rfl) fun a hE => ?_
            refine hE.pur (X.move hE rfl) fun a hE => ?_
            rw [hK_l1] at H
            exact C.nil (tn ⟨(IntKind.wrap .i64 (x33 + 1)), hE.weak ⟨rfl, rfl, rfl, rfl, rfl, rfl, rfl, trivial⟩, H⟩)
          · refine C.block ?_
            refine C.seq ?_
            refine C.region ?_
            refine hE.pur (X.move hE rfl) fun a hE => ?_
            refine hE.op (X.indexAddr hE rfl rfl) H fun x36 w a H hE => ?_
            refine hE.op (X.load hE rfl) H fun x37 w a H hE => ?_
            refine hE.op (X.alloc) H fun x9 w a H hE => ?_
            refine hE.pur (X.assign hE rfl) fun a hE => ?_
            refine hE.opu (X.store hE rfl rfl) H fun w a H hE => ?_
            refine C.nil (tn ?_)
            refine C.seq ?_
            refine C.draw (by kernel_rfl) (by kernel_rfl) ?_
            refine hE.qpur (X.move hE rfl) fun a hE => ?_
            refine hE.qpur (X.add hE rfl rfl) fun a hE => ?_
            refine hE.qop (X.fieldAddr hE rfl) H fun x40 a H hE => ?_
            refine hE.qop (X.load hE rfl) H fun x41 a H hE => ?_
            refine hE.qpurR (fun w => X.lenL hE Try.underlying22 rfl) fun a hE => ?_
            refine hE.qpur (X.ltI hE rfl rfl) fun a hE => ?_
            refine hE.qpur (X.move hE rfl) fun a hE => ?_
            refine WQ.join (ds := []) (N := 88) (σ := Bool) (fun s => [(55, (.bool s)), (1, (.int .u64 x1)), (2, (.pointer x2)), (4, (.pointer x4)), (7, (.pointer x7)), (8, (.int .i64 x33)), (9, (.pointer x9)), (31, (Sl.v x31)), (32, (.int .i64 (x31.len : Int))), (33, (.int .i64 x33))]) (fun s => V_ladingref09_Sweep_r3 x1 x2 x7 x33 Kl1 x9 s w) 11 ?_ (fun hr3 => ?_)
            · intro x55 a H hE
              try dsimp only at H hE
              unfold V_ladingref09_Sweep_r3 at H
              refine hE.qpur (X.move hE rfl) fun a hE => ?_
              refine WQ.join (ds := []) (N := 88) (σ := Bool) (fun s => [(66, (.bool s)), (1, (.int .u64 x1)), (2, (.pointer x2)), (4, (.pointer x4)), (7, (.pointer x7)), (9, (.pointer x9)), (31, (Sl.v x31)), (32, (.int .i64 (x31.len : Int))), (33, (.int .i64 x33))]) (fun s => V_ladingref09_Sweep_r4 x1 x7 x33 Kl1 x9 s w) 10 ?_ (fun hr4 => ?_)
              · intro x66 a H hE
                try dsimp only at H hE
                unfold V_ladingref09_Sweep_r4 at H
                refine hE.qpur (X.assign hE rfl) fun a hE => ?_
                refine C.qnil (fun w hB => ?_)
                replace H := H w hB
                refine (tn ?_)
                refine C.seq ?_
                refine C.region ?_
                refine hE.pur (X.move hE rfl) fun a hE => ?_
                refine hE.pur (X.not hE rfl) fun a hE => ?_
                refine hE.pur (X.move hE rfl) fun a hE => ?_
                refine WL.join (ds := []) (N := 88) (σ := Bool) (fun s => [(79, (.bool s)), (1, (.int .u64 x1)), (2, (.pointer x2)), (4, (.pointer x4)), (7, (.pointer x7)), (9, (.pointer x9)), (31, (Sl.v x31)), (32, (.int .i64 (x31.len : Int))), (33, (.int .i64 x33))]) (fun s w => V_ladingref09_Sweep_r5 x7 x33 Kl1 x9 s w) 10 ?_ (fun hr5 => ?_)
                · intro x79 w a H hE
                  try dsimp only at H hE
                  unfold V_ladingref09_Sweep_r5 at H
                  refine C.nil (tn ?_)
                  refine C.condB hE rfl (fun hc => ?_) (fun hc => ?_)
                  · replace H := H.1 hc
                    refine C.region ?_
                    refine hE.op (X.fieldAddr hE rfl) H fun x80 w a H hE => ?_
                    refine hE.op (X.load hE rfl) H fun x81 w a H hE => ?_
                    refine hE.op (X.load hE rfl) H fun x82 w a H hE => ?_
                    refine hE.op (X.buildSlice hE rfl) H fun x83 w a H hE => ?_
                    refine hE.op (X.append hE rfl) H fun x84 w a H hE => ?_
                    refine hE.op (X.fieldAddr hE rfl) H fun x85 w a H hE => ?_
                    refine hE.opu (X.store hE rfl rfl) H fun w a H hE => ?_
                    exact C.nil (bn (tn (hj2 () _ _ H (hE.weak ⟨rfl, rfl, rfl, rfl, rfl, rfl, rfl, trivial⟩))))
                  · replace H := H.2 hc
                    exact C.skip (bn (tn (hj2 () _ _ H (hE.weak ⟨rfl, rfl, rfl, rfl, rfl, rfl, rfl, trivial⟩))))
                · rcases Bool.eq_false_or_eq_true ((!x66)) with hbr5 | hbr5
                  · replace H := H.1 hbr5
                    replace hE := hE.bool (b := true) (t := 69) rfl (hbr5)
                    refine hE.on (by rfl) (by rfl) ?_
                    refine hE.op (X.fieldAddr hE rfl) H fun x70 w a H hE => ?_
                    refine hE.on (by rfl) (by rfl) ?_
                    refine hE.op (X.load hE rfl) H fun x71 w a H hE => ?_
                    refine hE.on (by rfl) (by rfl) ?_
                    refine hE.pur (X.not hE rfl) fun a hE => ?_
                    refine hE.on (by rfl) (by rfl) ?_
                    refine hE.pur (X.move hE rfl) fun a hE => ?_
                    refine WL.join (ds := []) (N := 88) (σ := Bool) (fun s => [(78, (.bool s)), (1, (.int .u64 x1)), (2, (.pointer x2)), (4, (.pointer x4)), (7, (.pointer x7)), (9, (.pointer x9)), (31, (Sl.v x31)), (32, (.int .i64 (x31.len : Int))), (33, (.int .i64 x33)), (69, (.bool true))]) (fun s w => V_ladingref09_Sweep_r6 x7 x33 Kl1 x9 s w) 5 ?_ (fun hr6 => ?_)
                    · intro x78 w a H hE
                      try dsimp only at H hE
                      unfold V_ladingref09_Sweep_r6 at H
                      refine hE.pur (X.pickT hE rfl rfl) fun a hE => ?_
                      exact hr5 x78 _ _ H (hE.weak ⟨rfl, rfl, rfl, rfl, rfl, rfl, rfl, rfl, rfl, trivial⟩)
                    · rcases Bool.eq_false_or_eq_true ((!x71)) with hbr6 | hbr6
                      · replace H := H.1 hbr6
                        replace hE := hE.bool (b := true) (t := 73) rfl (hbr6)
                        refine hE.off (by rfl) (by rfl) (by decide) (fun a hE => ?_)
                        refine hE.off (by rfl) (by rfl) (by decide) (fun a hE => ?_)
                        refine hE.off (by rfl) (by rfl) (by decide) (fun a hE => ?_)
                        refine hE.off (by rfl) (by rfl) (by decide) (fun a hE => ?_)
                        refine hE.on (by rfl) (by rfl) ?_
                        refine hE.pur (X.pickT hE rfl rfl) fun a hE => ?_
                        exact hr6 true _ _ H (hE.weak ⟨rfl, rfl, rfl, rfl, rfl, rfl, rfl, rfl, rfl, rfl, trivial⟩)
                      · replace H := H.2 hbr6
                        replace hE := hE.bool (b := false) (t := 73) rfl (hbr6)
                        refine hE.on (by rfl) (by rfl) ?_
                        refine hE.op (X.fieldAddr hE rfl) H fun x74 w a H hE => ?_
                        refine hE.on (by rfl) (by rfl) ?_
                        refine hE.op (X.load hE rfl) H fun x75 w a H hE => ?_
                        refine hE.on (by rfl) (by rfl) ?_
                        refine hE.pur (X.move hE rfl) fun a hE => ?_
                        refine hE.on (by rfl) (by rfl) ?_
                        refine hE.pur (X.gtI hE rfl rfl) fun a hE => ?_
                        refine hE.on (by rfl) (by rfl) ?_
                        refine hE.pur (X.pickF hE rfl rfl) fun a hE => ?_
                        exact hr6 (decide (x1 < x75)) _ _ H (hE.weak ⟨rfl, rfl, rfl, rfl, rfl, rfl, rfl, rfl, rfl, rfl, trivial⟩)
                  · replace H := H.2 hbr5
                    replace hE := hE.bool (b := false) (t := 69) rfl (hbr5)
                    refine hE.off (by rfl) (by rfl) (by decide) (fun a hE => ?_)
                    refine hE.off (by rfl) (by rfl) (by decide) (fun a hE => ?_)
                    refine hE.off (by rfl) (by rfl) (by decide) (fun a hE => ?_)
                    refine hE.off (by rfl) (by rfl) (by decide) (fun a hE => ?_)
                    refine hE.offU (by rfl) (by rfl) (fun a hE => ?_)
                    refine hE.offU (by rfl) (by rfl) (fun a hE => ?_)
                    refine hE.offU (by rfl) (by rfl) (fun a hE => ?_)
                    refine hE.offU (by rfl) (by rfl) (fun a hE => ?_)
                    refine hE.off (by rfl) (by rfl) (by decide) (fun a hE => ?_)
                    refine hE.pur (X.pickF hE rfl rfl) fun a hE => ?_
                    exact hr5 false _ _ H (hE.weak ⟨rfl, rfl, rfl, rfl, rfl, rfl, rfl, rfl, rfl, trivial⟩)
              · rcases Bool.eq_false_or_eq_true (x55) with hbr4 | hbr4
                · replace H := H.1 hbr4
                  replace hE := hE.bool (b := true) (t := 56) rfl (hbr4)
                  refine hE.qon (by rfl) (by rfl) ?_
                  refine hE.qop (X.fieldAddr hE rfl) H fun x57 a H hE => ?_
                  refine hE.qon (by rfl) (by rfl) ?_
                  refine hE.qop (X.load hE rfl) H fun x58 a H hE => ?_
                  refine hE.qon (by rfl) (by rfl) ?_
                  refine hE.qpur (X.move hE rfl) fun a hE => ?_
                  refine hE.qon (by rfl) (by rfl) ?_
                  refine hE.qpur (X.add hE rfl rfl) fun a hE => ?_
                  refine hE.qon (by rfl) (by rfl) ?_
                  refine hE.qop (X.indexAddr hE rfl rfl) H fun x61 a H hE => ?_
                  refine hE.qon (by rfl) (by rfl) ?_
                  refine hE.qop (X.fieldAddr hE rfl) H fun x62 a H hE => ?_
                  refine hE.qon (by rfl) (by rfl) ?_
                  refine hE.qop (X.load hE rfl) H fun x63 a H hE => ?_
                  refine hE.qon (by rfl) (by rfl) ?_
                  refine hE.qpur (X.move hE rfl) fun a hE => ?_
                  refine hE.qon (by rfl) (by rfl) ?_
                  refine hE.qpur (X.leI hE rfl rfl) fun a hE => ?_
                  refine hE.qpur (X.pickT hE rfl rfl) fun a hE => ?_
                  exact hr4 (decide (x63 ≤ x1)) _ H (hE.weak ⟨rfl, rfl, rfl, rfl, rfl, rfl, rfl, rfl, rfl, trivial⟩)
                · replace H := H.2 hbr4
                  replace hE := hE.bool (b := false) (t := 56) rfl (hbr4)
                  refine hE.qoff (by rfl) (by rfl) (by decide) (fun a hE => ?_)
                  refine hE.qoff (by rfl) (by rfl) (by decide) (fun a hE => ?_)
                  refine hE.qoff (by rfl) (by rfl) (by decide) (fun a hE => ?_)
                  refine hE.qoff (by rfl) (by rfl) (by decide) (fun a hE => ?_)
                  refine hE.qoff (by rfl) (by rfl) (by decide) (fun a hE => ?_)
                  refine hE.qoff (by rfl) (by rfl) (by decide) (fun a hE => ?_)
                  refine hE.qoff (by rfl) (by rfl) (by decide) (fun a hE => ?_)
                  refine hE.qoff (by rfl) (by rfl) (by decide) (fun a hE => ?_)
                  refine hE.qoff (by rfl) (by rfl) (by decide) (fun a hE => ?_)
                  refine hE.qpur (X.pickF hE rfl rfl) fun a hE => ?_
                  exact hr4 false _ H (hE.weak ⟨rfl, rfl, rfl, rfl, rfl, rfl, rfl, rfl, rfl, trivial⟩)
            · rcases Classical.em (((IntKind.wrap .i64 (x33 + 1)) < (x41.len : Int))) with hbr3 | hbr3
              · replace H := H.1 hbr3
                replace hE := hE.bool (b := true) (t := 44) rfl (decide_eq_true hbr3)
                refine hE.qon (by rfl) (by rfl) ?_
                refine hE.qop (X.fieldAddr hE rfl) H fun x45 a H hE => ?_
                refine hE.qon (by rfl) (by rfl) ?_
                refine hE.qop (X.load hE rfl) H fun x46 a H hE => ?_
                refine hE.qon (by rfl) (by rfl) ?_
                refine hE.qpur (X.move hE rfl) fun a hE => ?_
                refine hE.qon (by rfl) (by rfl) ?_
                refine hE.qpur (X.add hE rfl rfl) fun a hE => ?_
                refine hE.qon (by rfl) (by rfl) ?_
                refine hE.qop (X.indexAddr hE rfl rfl) H fun x49 a H hE => ?_
                refine hE.qon (by rfl) (by rfl) ?_
                refine hE.qop (X.fieldAddr hE rfl) H fun x50 a H hE => ?_
                refine hE.qon (by rfl) (by rfl) ?_
                refine hE.qop (X.load hE rfl) H fun x51 a H hE => ?_
                refine hE.qon (by rfl) (by rfl) ?_
                refine hE.qop (X.fieldAddr hE rfl) H fun x52 a H hE => ?_
                refine hE.qon (by rfl) (by rfl) ?_
                refine hE.qop (X.load hE rfl) H fun x53 a H hE => ?_
                refine hE.qon (by rfl) (by rfl) ?_
                refine hE.qpur (X.eqS hE rfl rfl) fun a hE => ?_
                refine hE.qpur (X.pickT hE rfl rfl) fun a hE => ?_
                exact hr3 (decide (x51 = x53)) _ H (hE.weak ⟨rfl, rfl, rfl, rfl, rfl, rfl, rfl, rfl, rfl, rfl, trivial⟩)
              · replace H := H.2 hbr3
                replace hE := hE.bool (b := false) (t := 44) rfl (decide_eq_false hbr3)
                refine hE.qoff (by rfl) (by rfl) (by decide) (fun a hE => ?_)
                refine hE.qoff (by rfl) (by rfl) (by decide) (fun a hE => ?_)
                refine hE.qoff (by rfl) (by rfl) (by decide) (fun a hE => ?_)
                refine hE.qoff (by rfl) (by rfl) (by decide) (fun a hE => ?_)
                refine hE.qoff (by rfl) (by rfl) (by decide) (fun a hE => ?_)
                refine hE.qoff (by rfl) (by rfl) (by decide) (fun a hE => ?_)
                refine hE.qoff (by rfl) (by rfl) (by decide) (fun a hE => ?_)
                refine hE.qoff (by rfl) (by rfl) (by decide) (fun a hE => ?_)
                refine hE.qoff (by rfl) (by rfl) (by decide) (fun a hE => ?_)
                refine hE.qoff (by rfl) (by rfl) (by decide) (fun a hE => ?_)
                refine hE.qpur (X.pickF hE rfl rfl) fun a hE => ?_
                exact hr3 false _ H (hE.weak ⟨rfl, rfl, rfl, rfl, rfl, rfl, rfl, rfl, rfl, rfl, trivial⟩)
        · replace H := H.2 hc
          refine C.exit (te (te (be (tn ?_))))
          refine C.seq ?_
          refine C.region ?_
          refine hE.op (X.load hE rfl) H fun x87 w a H hE => ?_
          refine hE.opu (X.store hE rfl rfl) H fun w a H hE => ?_
          refine hE.pur (X.assign hE rfl) fun a hE => ?_
          refine C.nil (tn ?_)
          obtain ⟨q_3, ad_3, hp_3, hl_3, H⟩ := H
          exact C.ret (C.retC hE (rs := [.cell 4 25, .tmp 5]) (vs := [(T_api_Versions.v q_3), (.int .i64 0)]) rfl ⟨⟨ad_3, by rw [← hp_3]; rfl, hl_3⟩, rfl, trivial⟩ ⟨_, _, rfl, H⟩)
/-! ### lading ladingref09.Same: function 16 -/
def V_ladingref09_Same_l2b (Ret : Bool → World → Prop) (x2 : Option Addr) (x3 : Option Addr) (x21 : Sl) (x23 : Int) (w : World) (Kl2 : Int → World → Prop) : Prop :=
  ((x23 < (x21.len : Int)) → (opB Try.prog Value.pointer (Instr.fieldAt 25 (.pointer x2) 0) w (fun x26 => opB Try.prog Sl.v (Instr.loadAt 22 (.pointer x26)) w (fun x27 => opB Try.prog Value.pointer (Instr.indexAt 22 (Sl.v x27) (.int .i64 x23)) w (fun x29 => opB Try.prog T_api_Version.v (Instr.loadAt 37 (.pointer x29)) w (fun x30 => opB Try.prog Value.pointer (Instr.fieldAt 25 (.pointer x3) 0) w (fun x31 => opB Try.prog Sl.v (Instr.loadAt 22 (.pointer x31)) w (fun x32 => opB Try.prog Value.pointer (Instr.indexAt 22 (Sl.v x32) (.int .i64 x23)) w (fun x34 => opB Try.prog T_api_Version.v (Instr.loadAt 37 (.pointer x34)) w (fun x35 => opB Try.prog Value.bool (do eqGuard .neq 37 (.tmp 30) (.tmp 35) (T_api_Version.v x30) (T_api_Version.v x35); binOp .neq 37 (T_api_Version.v x30) (T_api_Version.v x35)) w (fun x36 => nextB w (fun w => (x36 = true → (Ret false w)) ∧ (x36 = false → (Kl2 (IntKind.wrap .i64 (x23 + 1)) w)))))))))))))) ∧ (¬ (x23 < (x21.len : Int)) → (Ret true w))
def V_ladingref09_Same_r1 (Ret : Bool → World → Prop) (x2 : Option Addr) (x3 : Option Addr) (x19 : Bool) (w : World) : Prop :=
  (x19 = true → (Ret false w)) ∧ (x19 = false → (opE Try.prog Value.pointer (Instr.fieldAt 25 (.pointer x2) 0) w (fun x20 w => opE Try.prog Sl.v (Instr.loadAt 22 (.pointer x20)) w (fun x21 w => ∃ (I : Int → World → Prop) (μ : Int → World → Nat), I 0 w ∧ ∀ (x23 : Int) w, I x23 w → V_ladingref09_Same_l2b Ret x2 x3 x21 x23 w (fun x23' w' => I x23' w' ∧ μ x23' w' < μ x23 w)))))
def V_ladingref09_Same (x0 : T_api_Versions) (x1 : T_api_Versions) (w : World) (Ret : Bool → World → Prop) : Prop :=
  opE Try.prog Value.pointer (Instr.box 25 (T_api_Versions.v x0)) w (fun x2 w => opE Try.prog Value.pointer (Instr.box 25 (T_api_Versions.v x1)) w (fun x3 w => opE Try.prog Value.pointer (Instr.fieldAt 25 (.pointer x2) 1) w (fun x6 w => opE Try.prog (Value.int .u64) (Instr.loadAt 23 (.pointer x6)) w (fun x7 w => opE Try.prog Value.pointer (Instr.fieldAt 25 (.pointer x3) 1) w (fun x8 w => opE Try.prog (Value.int .u64) (Instr.loadAt 23 (.pointer x8)) w (fun x9 w => ((x7 ≠ x9) → (V_ladingref09_Same_r1 Ret x2 x3 true w)) ∧ (¬ (x7 ≠ x9) → (opE Try.prog Value.pointer (Instr.fieldAt 25 (.pointer x2) 0) w (fun x12 w => opE Try.prog Sl.v (Instr.loadAt 22 (.pointer x12)) w (fun x13 w => opE Try.prog Value.pointer (Instr.fieldAt 25 (.pointer x3) 0) w (fun x15 w => opE Try.prog Sl.v (Instr.loadAt 22 (.pointer x15)) w (fun x16 w => V_ladingref09_Same_r1 Ret x2 x3 (decide ((x13.len : Int) ≠ (x16.len : Int))) w))))))))))))
set_option maxRecDepth 100000 in
theorem L1_ladingref09_Same (x0 : T_api_Versions) (x1 : T_api_Versions) (w : World) (Ret : Bool → World → Prop) (H : V_ladingref09_Same x0 x1 w Ret) : Cl Try.prog 16 [(T_api_Versions.v x0), (T_api_Versions.v x1)].toArray w (fun e w' => ∃ (r0 : Bool), e = .returned (.bool r0) ∧ Ret r0 w') := by
  unfold V_ladingref09_Same at H
  refine C.enter 38 (zipE 0 [(T_api_Versions.v x0), (T_api_Versions.v x1)]) Try.func16 rfl rfl (by rfl) rfl ?_
  intro a hE
  replace hE : Sat [] 38 [(0, (T_api_Versions.v x0)), (1, (T_api_Versions.v x1))] a := hE
  refine C.seq ?_
  refine C.region ?_
  refine hE.op (X.box hE rfl) H fun x2 w a H hE => ?_
  refine hE.op (X.box hE rfl) H fun x3 w a H hE => ?_
  refine hE.pur (X.assign hE rfl) fun a hE => ?_
  refine C.nil (tn ?_)
  refine C.seq ?_
  refine C.seq ?_
  refine C.region ?_
  refine hE.op (X.fieldAddr hE rfl) H fun x6 w a H hE => ?_
  refine hE.op (X.load hE rfl) H fun x7 w a H hE => ?_
  refine hE.op (X.fieldAddr hE rfl) H fun x8 w a H hE => ?_
  refine hE.op (X.load hE rfl) H fun x9 w a H hE => ?_
  refine hE.pur (X.neI hE rfl rfl) fun a hE => ?_
  refine hE.pur (X.move hE rfl) fun a hE => ?_
  refine WL.join (ds := []) (N := 38) (σ := Bool) (fun s => [(19, (.bool s)), (2, (.pointer x2)), (3, (.pointer x3))]) (fun s w => V_ladingref09_Same_r1 Ret x2 x3 s w) 8 ?_ (fun hr1 => ?_)
  · intro x19 w a H hE
    try dsimp only at H hE
    unfold V_ladingref09_Same_r1 at H
    refine C.nil (tn ?_)
    refine C.condB hE rfl (fun hc => ?_) (fun hc => ?_)
    · replace H := H.1 hc
      refine C.seq ?_
      refine C.region ?_
      refine hE.pur (X.assign hE rfl) fun a hE => ?_
      refine C.nil (tn ?_)
      exact C.ret (tr (C.ret1 hE rfl rfl ⟨_, rfl, H⟩))
    · replace H := H.2 hc
      refine C.skip (tn ?_)
      refine C.seq ?_
      refine C.seq ?_
      refine C.region ?_
      refine hE.op (X.fieldAddr hE rfl) H fun x20 w a H hE => ?_
      refine hE.op (X.load hE rfl) H fun x21 w a H hE => ?_
      refine hE.purR (fun w => X.lenL hE Try.underlying22 rfl) fun a hE => ?_
      refine hE.pur (X.move hE rfl) fun a hE => ?_
      refine C.nil (tn ?_)
      refine C.block ?_
      obtain ⟨I_l2, μ_l2, h0, hb⟩ := H
      refine C.loop (ds := []) (N := 38) (σ := Int) (fun s => [(23, (.int .i64 s)), (2, (.pointer x2)), (3, (.pointer x3)), (22, (.int .i64 (x21.len : Int)))]) (fun s w => I_l2 s w) (fun s w => μ_l2 s w) 0 h0 (hE.weak ⟨rfl, rfl, rfl, rfl, trivial⟩) ?_
      intro x23 w a hI hE
      try dsimp only at hI hE
      obtain ⟨Kl2, hK_l2⟩ : ∃ K : Int → World → Prop, K = (fun x23' w' => I_l2 x23' w' ∧ μ_l2 x23' w' < μ_l2 x23 w) := ⟨_, rfl⟩
      have H : V_ladingref09_Same_l2b Ret x2 x3 x21 x23 w Kl2 := by rw [hK_l2]; exact hb x23 w hI
      clear hb h0 hI
      unfold V_ladingref09_Same_l2b at H
      refine C.seq ?_
      refine C.region ?_
      refine hE.pur (X.ltI hE rfl rfl) fun a hE => ?_
      refine C.nil (tn ?_)
      refine C.seq ?_
      refine C.condP hE rfl (fun hc => ?_) (fun hc => ?_)
      · replace H := H.1 hc
        refine C.skip (tn ?_)
        refine C.seq ?_
        refine C.block ?_
        refine C.seq ?_
        refine C.region ?_
        refine hE.pur (X.move hE rfl) fun a hE => ?_
        refine hE.pur (X.assign hE rfl) fun a hE => ?_
        refine C.nil (tn ?_)
        refine C.seq ?_
        refine C.draw (by kernel_rfl) (by kernel_rfl) ?_
        refine hE.qop (X.fieldAddr hE rfl) H fun x26 a H hE => ?_
        refine hE.qop (X.load hE rfl) H fun x27 a H hE => ?_
        refine hE.qpur (X.move hE rfl) fun a hE => ?_
        refine hE.qop (X.indexAddr hE rfl rfl) H fun x29 a H hE => ?_
        refine hE.qop (X.load hE rfl) H fun x30 a H hE => ?_
        refine hE.qop (X.fieldAddr hE rfl) H fun x31 a H hE => ?_
        refine hE.qop (X.load hE rfl) H fun x32 a H hE => ?_
        refine hE.qpur (X.move hE rfl) fun a hE => ?_
        refine hE.qop (X.indexAddr hE rfl rfl) H fun x34 a H hE => ?_
        refine hE.qop (X.load hE rfl) H fun x35 a H hE => ?_
        refine hE.qop (X.bin hE rfl rfl) H fun x36 a H hE => ?_
        refine C.qnil (fun w hB => ?_)
        replace H := H w hB
        refine (tn ?_)
        refine C.condB hE rfl (fun hc => ?_) (fun hc => ?_)
        · replace H := H.1 hc
          refine C.seq ?_
          refine C.region ?_
          refine hE.pur (X.assign hE rfl) fun a hE => ?_
          refine C.nil (tn ?_)
          exact C.ret (br (tr (tr (br (tr (C.ret1 hE rfl rfl ⟨_, rfl, H⟩))))))
        · replace H := H.2 hc
          refine C.skip (bn (tn ?_))
          refine C.region ?_
          refine hE.pur (X.add hE rfl rfl) fun a hE => ?_
          refine hE.pur (X.move hE rfl) fun a hE => ?_
          rw [hK_l2] at H
          exact C.nil (tn ⟨(IntKind.wrap .i64 (x23 + 1)), hE.weak ⟨rfl, rfl, rfl, rfl, trivial⟩, H⟩)
      · replace H := H.2 hc
        refine C.exit (te (te (be (tn ?_))))
        refine C.seq ?_
        refine C.region ?_
        refine hE.pur (X.assign hE rfl) fun a hE => ?_
        refine C.nil (tn ?_)
        exact C.ret (C.ret1 hE rfl rfl ⟨_, rfl, H⟩)
  · rcases Classical.em ((x7 ≠ x9)) with hbr1 | hbr1
    · replace H := H.1 hbr1
      replace hE := hE.bool (b := true) (t := 11) rfl (decide_eq_true hbr1)
      refine hE.off (by rfl) (by rfl) (by decide) (fun a hE => ?_)
      refine hE.off (by rfl) (by rfl) (by decide) (fun a hE => ?_)
      refine hE.off (by rfl) (by rfl) (by decide) (fun a hE => ?_)
      refine hE.off (by rfl) (by rfl) (by decide) (fun a hE => ?_)
      refine hE.off (by rfl) (by rfl) (by decide) (fun a hE => ?_)
      refine hE.off (by rfl) (by rfl) (by decide) (fun a hE => ?_)
      refine hE.off (by rfl) (by rfl) (by decide) (fun a hE => ?_)
      refine hE.pur (X.pickT hE rfl rfl) fun a hE => ?_
      exact hr1 true _ _ H (hE.weak ⟨rfl, rfl, rfl, trivial⟩)
    · replace H := H.2 hbr1
      replace hE := hE.bool (b := false) (t := 11) rfl (decide_eq_false hbr1)
      refine hE.on (by rfl) (by rfl) ?_
      refine hE.op (X.fieldAddr hE rfl) H fun x12 w a H hE => ?_
      refine hE.on (by rfl) (by rfl) ?_
      refine hE.op (X.load hE rfl) H fun x13 w a H hE => ?_
      refine hE.on (by rfl) (by rfl) ?_
      refine hE.purR (fun w => X.lenL hE Try.underlying22 rfl) fun a hE => ?_
      refine hE.on (by rfl) (by rfl) ?_
      refine hE.op (X.fieldAddr hE rfl) H fun x15 w a H hE => ?_
      refine hE.on (by rfl) (by rfl) ?_
      refine hE.op (X.load hE rfl) H fun x16 w a H hE => ?_
      refine hE.on (by rfl) (by rfl) ?_
      refine hE.purR (fun w => X.lenL hE Try.underlying22 rfl) fun a hE => ?_
      refine hE.on (by rfl) (by rfl) ?_
      refine hE.pur (X.neI hE rfl rfl) fun a hE => ?_
      refine hE.pur (X.pickF hE rfl rfl) fun a hE => ?_
      exact hr1 (decide ((x13.len : Int) ≠ (x16.len : Int))) _ _ H (hE.weak ⟨rfl, rfl, rfl, trivial⟩)
/-! ### lading ladingref09.Get: function 20 -/
def V_ladingref09_Get (x0 : T_api_Versions) (x1 : ByteArray) (x2 : Int) (w : World) (Ret : ByteArray → Bool → Int → World → Prop) : Prop :=
  opE Try.prog Value.pointer (Instr.box 25 (T_api_Versions.v x0)) w (fun x3 w => opE Try.prog T_api_Versions.v (Instr.loadAt 25 (.pointer x3)) w (fun x12 w => Cl Try.prog 38 [(T_api_Versions.v x12), (.int .u64 x2)].toArray w (fun e w => ∃ (r : Int), e = .returned (.int .i64 r) ∧ (((r ≠ 0) → (Ret (ByteArray.mk #[]) false r w)) ∧ (¬ (r ≠ 0) → (opE Try.prog T_api_Versions.v (Instr.loadAt 25 (.pointer x3)) w (fun x19 w => Cl Try.prog 39 [(T_api_Versions.v x19), (.string x1), (.int .u64 x2)].toArray w (fun e w => ∃ (r_1 : ByteArray) (r_2 : Bool), e = .returned (.tuple [(.string r_1), (.bool r_2)].toArray) ∧ (Ret r_1 r_2 0 w)))))))))
set_option maxRecDepth 100000 in
theorem L1_ladingref09_Get (x0 : T_api_Versions) (x1 : ByteArray) (x2 : Int) (w : World) (Ret : ByteArray → Bool → Int → World → Prop) (H : V_ladingref09_Get x0 x1 x2 w Ret) : Cl Try.prog 20 [(T_api_Versions.v x0), (.string x1), (.int .u64 x2)].toArray w (fun e w' => ∃ (r0 : ByteArray) (r1 : Bool) (r2 : Int), e = .returned (.tuple [(.string r0), (.bool r1), (.int .i64 r2)].toArray) ∧ Ret r0 r1 r2 w') := by
  unfold V_ladingref09_Get at H
  refine C.enter 27 (zipE 0 [(T_api_Versions.v x0), (.string x1), (.int .u64 x2)]) Try.func20 rfl rfl (by rfl) rfl ?_
  intro a hE
  replace hE : Sat [] 27 [(0, (T_api_Versions.v x0)), (1, (.string x1)), (2, (.int .u64 x2))] a := hE
  refine C.seq ?_
  refine C.region ?_
  refine hE.op (X.box hE rfl) H fun x3 w a H hE => ?_
  refine hE.pur (X.assign hE rfl) fun a hE => ?_
  refine hE.pur (X.assign hE rfl) fun a hE => ?_
  refine hE.pur (X.assign hE rfl) fun a hE => ?_
  refine C.nil (tn ?_)
  refine C.seq ?_
  refine C.region ?_
  refine hE.op (X.load hE rfl) H fun x12 w a H hE => ?_
  refine hE.pur (X.move hE rfl) fun a hE => ?_
  refine hE.call (X.callF hE ent38 rfl rfl) H fun e w H => ?_
  obtain ⟨r, rfl, H⟩ := H
  refine ⟨_, rfl, fun a hE => ?_⟩
  refine hE.pur (X.assign hE rfl) fun a hE => ?_
  refine C.nil (tn ?_)
  refine C.seq ?_
  refine C.seq ?_
  refine C.region ?_
  refine hE.pur (X.move hE rfl) fun a hE => ?_
  refine hE.pur (X.neI hE rfl rfl) fun a hE => ?_
  refine C.nil (tn ?_)
  refine C.condP hE rfl (fun hc => ?_) (fun hc => ?_)
  · replace H := H.1 hc
    refine C.seq ?_
    refine C.region ?_
    refine hE.pur (X.move hE rfl) fun a hE => ?_
    refine hE.pur (X.assign hE rfl) fun a hE => ?_
    refine hE.pur (X.assign hE rfl) fun a hE => ?_
    refine hE.pur (X.assign hE rfl) fun a hE => ?_
    refine C.nil (tn ?_)
    exact C.ret (tr (C.ret3 hE rfl rfl rfl rfl ⟨_, _, _, rfl, H⟩))
  · replace H := H.2 hc
    refine C.skip (tn ?_)
    refine C.seq ?_
    refine C.region ?_
    refine hE.op (X.load hE rfl) H fun x19 w a H hE => ?_
    refine hE.pur (X.move hE rfl) fun a hE => ?_
    refine hE.pur (X.move hE rfl) fun a hE => ?_
    refine hE.call (X.callF hE ent39 rfl rfl) H fun e w H => ?_
    obtain ⟨r_1, r_2, rfl, H⟩ := H
    refine ⟨_, rfl, fun a hE => ?_⟩
    refine hE.pur (X.move hE rfl) fun a hE => ?_
    refine hE.pur (X.extract hE rfl rfl) fun a hE => ?_
    refine hE.pur (X.extract hE rfl rfl) fun a hE => ?_
    refine hE.pur (X.assign hE rfl) fun a hE => ?_
    refine hE.pur (X.assign hE rfl) fun a hE => ?_
    refine C.nil (tn ?_)
    refine C.seq ?_
    refine C.region ?_
    refine hE.pur (X.move hE rfl) fun a hE => ?_
    refine hE.pur (X.move hE rfl) fun a hE => ?_
    refine hE.pur (X.assign hE rfl) fun a hE => ?_
    refine hE.pur (X.assign hE rfl) fun a hE => ?_
    refine hE.pur (X.assign hE rfl) fun a hE => ?_
    refine C.nil (tn ?_)
    exact C.ret (C.ret3 hE rfl rfl rfl rfl ⟨_, _, _, rfl, H⟩)
/-! ### lading ladingref09.Scan: function 21 -/
def V_ladingref09_Scan_j2 (x25 : Int) (Kl1 : Sl → Int → World → Prop) (x11_1 : Sl) (w : World) : Prop :=
  Kl1 x11_1 (IntKind.wrap .i64 (x25 + 1)) w
def V_ladingref09_Scan_r5 (x3 : Int) (x4 : Option Addr) (x11 : Sl) (x25 : Int) (Kl1 : Sl → Int → World → Prop) (x13 : Option Addr) (x59 : Bool) (w : World) : Prop :=
  nextB w (fun w => (x59 = true → (V_ladingref09_Scan_j2 x25 Kl1 x11 w)) ∧ (x59 = false → (opE Try.prog T_api_Versions.v (Instr.loadAt 25 (.pointer x4)) w (fun x61 w => opE Try.prog Value.pointer (Instr.fieldAt 37 (.pointer x13) 0) w (fun x62 w => opE Try.prog Value.string (Instr.loadAt 9 (.pointer x62)) w (fun x63 w => Cl Try.prog 39 [(T_api_Versions.v x61), (.string x63), (.int .u64 x3)].toArray w (fun e w => ∃ (r_1 : ByteArray) (r_2 : Bool), e = .returned (.tuple [(.string r_1), (.bool r_2)].toArray) ∧ ((r_2 = true → (opE Try.prog Value.pointer (Instr.fieldAt 37 (.pointer x13) 0) w (fun x70 w => opE Try.prog Value.string (Instr.loadAt 9 (.pointer x70)) w (fun x71 w => opE Try.prog T_api_Pair.v (Instr.build 45 [(0, (.string x71)), (1, (.string r_1))].toArray) w (fun x73 w => opE Try.prog Sl.v (Instr.buildSlice 41 1 [(0, (T_api_Pair.v x73))].toArray) w (fun x74 w => opE Try.prog Sl.v (Builtin.append_ #[41, 41] 41 [(Sl.v x11), (Sl.v x74)].toArray) w (fun x75 w => V_ladingref09_Scan_j2 x25 Kl1 x75 w))))))) ∧ (r_2 = false → (V_ladingref09_Scan_j2 x25 Kl1 x11 w))))))))))
def V_ladingref09_Scan_r6 (x3 : Int) (x4 : Option Addr) (x11 : Sl) (x25 : Int) (Kl1 : Sl → Int → World → Prop) (x13 : Option Addr) (x58 : Bool) (w : World) : Prop :=
  V_ladingref09_Scan_r5 x3 x4 x11 x25 Kl1 x13 x58 w
def V_ladingref09_Scan_r4 (x2 : ByteArray) (x3 : Int) (x4 : Option Addr) (x11 : Sl) (x25 : Int) (Kl1 : Sl → Int → World → Prop) (x13 : Option Addr) (x49 : Bool) (w : World) : Prop :=
  (x49 = true → (V_ladingref09_Scan_r5 x3 x4 x11 x25 Kl1 x13 true w)) ∧ (x49 = false → (((x2 ≠ (ByteArray.mk #[])) → (opB Try.prog Value.pointer (Instr.fieldAt 37 (.pointer x13) 0) w (fun x54 => opB Try.prog Value.string (Instr.loadAt 9 (.pointer x54)) w (fun x55 => V_ladingref09_Scan_r6 x3 x4 x11 x25 Kl1 x13 (!sLt x55 x2) w)))) ∧ (¬ (x2 ≠ (ByteArray.mk #[])) → (V_ladingref09_Scan_r6 x3 x4 x11 x25 Kl1 x13 false w))))
def V_ladingref09_Scan_r3 (x1 : ByteArray) (x2 : ByteArray) (x3 : Int) (x4 : Option Addr) (x11 : Sl) (x25 : Int) (Kl1 : Sl → Int → World → Prop) (x13 : Option Addr) (x43 : Bool) (w : World) : Prop :=
  (x43 = true → (V_ladingref09_Scan_r4 x2 x3 x4 x11 x25 Kl1 x13 true w)) ∧ (x43 = false → (opB Try.prog Value.pointer (Instr.fieldAt 37 (.pointer x13) 0) w (fun x45 => opB Try.prog Value.string (Instr.loadAt 9 (.pointer x45)) w (fun x46 => V_ladingref09_Scan_r4 x2 x3 x4 x11 x25 Kl1 x13 (sLt x46 x1) w))))
def V_ladingref09_Scan_l1b (x1 : ByteArray) (x2 : ByteArray) (x3 : Int) (Ret : Sl → Int → World → Prop) (x4 : Option Addr) (x23 : Sl) (x11 : Sl) (x25 : Int) (w : World) (Kl1 : Sl → Int → World → Prop) : Prop :=
  ((x25 < (x23.len : Int)) → (opE Try.prog Value.pointer (Instr.indexAt 22 (Sl.v x23) (.int .i64 x25)) w (fun x28 w => opE Try.prog T_api_Version.v (Instr.loadAt 37 (.pointer x28)) w (fun x29 w => opE Try.prog Value.pointer (Instr.alloc 37 true (.tuple #[])) w (fun x13 w => opU Try.prog (Instr.storeAt 37 (.pointer x13) (T_api_Version.v x29)) w (fun w => ((0 < x25) → (opB Try.prog Value.pointer (Instr.fieldAt 25 (.pointer x4) 0) w (fun x33 => opB Try.prog Sl.v (Instr.loadAt 22 (.pointer x33)) w (fun x34 => opB Try.prog Value.pointer (Instr.indexAt 22 (Sl.v x34) (.int .i64 (IntKind.wrap .i64 (x25 - 1)))) w (fun x37 => opB Try.prog Value.pointer (Instr.fieldAt 37 (.pointer x37) 0) w (fun x38 => opB Try.prog Value.string (Instr.loadAt 9 (.pointer x38)) w (fun x39 => opB Try.prog Value.pointer (Instr.fieldAt 37 (.pointer x13) 0) w (fun x40 => opB Try.prog Value.string (Instr.loadAt 9 (.pointer x40)) w (fun x41 => V_ladingref09_Scan_r3 x1 x2 x3 x4 x11 x25 Kl1 x13 (decide (x39 = x41)) w))))))))) ∧ (¬ (0 < x25) → (V_ladingref09_Scan_r3 x1 x2 x3 x4 x11 x25 Kl1 x13 false w)))))))) ∧ (¬ (x25 < (x23.len : Int)) → (Ret x11 0 w))
def V_ladingref09_Scan (x0 : T_api_Versions) (x1 : ByteArray) (x2 : ByteArray) (x3 : Int) (w : World) (Ret : Sl → Int → World → Prop) : Prop :=
  opE Try.prog Value.pointer (Instr.box 25 (T_api_Versions.v x0)) w (fun x4 w => opE Try.prog T_api_Versions.v (Instr.loadAt 25 (.pointer x4)) w (fun x16 w => Cl Try.prog 38 [(T_api_Versions.v x16), (.int .u64 x3)].toArray w (fun e w => ∃ (r : Int), e = .returned (.int .i64 r) ∧ (((r ≠ 0) → (Ret Sl.none r w)) ∧ (¬ (r ≠ 0) → (opE Try.prog Value.pointer (Instr.fieldAt 25 (.pointer x4) 0) w (fun x22 w => opE Try.prog Sl.v (Instr.loadAt 22 (.pointer x22)) w (fun x23 w => ∃ (I : Sl → Int → World → Prop) (μ : Sl → Int → World → Nat), I Sl.none 0 w ∧ ∀ (x11 : Sl) (x25 : Int) w, I x11 x25 w → V_ladingref09_Scan_l1b x1 x2 x3 Ret x4 x23 x11 x25 w (fun x11' x25' w' => I x11' x25' w' ∧ μ x11' x25' w' < μ x11 x25 w)))))))))
set_option maxRecDepth 100000 in
theorem L1_ladingref09_Scan (x0 : T_api_Versions) (x1 : ByteArray) (x2 : ByteArray) (x3 : Int) (w : World) (Ret : Sl → Int → World → Prop) (H : V_ladingref09_Scan x0 x1 x2 x3 w Ret) : Cl Try.prog 21 [(T_api_Versions.v x0), (.string x1), (.string x2), (.int .u64 x3)].toArray w (fun e w' => ∃ (r0 : Sl) (r1 : Int), e = .returned (.tuple [(Sl.v r0), (.int .i64 r1)].toArray) ∧ Ret r0 r1 w') := by
  unfold V_ladingref09_Scan at H
  refine C.enter 78 (zipE 0 [(T_api_Versions.v x0), (.string x1), (.string x2), (.int .u64 x3)]) Try.func21 rfl rfl (by rfl) rfl ?_
  intro a hE
  replace hE : Sat [] 78 [(0, (T_api_Versions.v x0)), (1, (.string x1)), (2, (.string x2)), (3, (.int .u64 x3))] a := hE
  refine C.seq ?_
  refine C.region ?_
  refine hE.op (X.box hE rfl) H fun x4 w a H hE => ?_
  refine hE.pur (X.assign hE rfl) fun a hE => ?_
  refine hE.pur (X.assign hE rfl) fun a hE => ?_
  refine C.nil (tn ?_)
  refine C.seq ?_
  refine C.region ?_
  refine hE.op (X.load hE rfl) H fun x16 w a H hE => ?_
  refine hE.pur (X.move hE rfl) fun a hE => ?_
  refine hE.call (X.callF hE ent38 rfl rfl) H fun e w H => ?_
  obtain ⟨r, rfl, H⟩ := H
  refine ⟨_, rfl, fun a hE => ?_⟩
  refine hE.pur (X.assign hE rfl) fun a hE => ?_
  refine C.nil (tn ?_)
  refine C.seq ?_
  refine C.seq ?_
  refine C.region ?_
  refine hE.pur (X.move hE rfl) fun a hE => ?_
  refine hE.pur (X.neI hE rfl rfl) fun a hE => ?_
  refine C.nil (tn ?_)
  refine C.condP hE rfl (fun hc => ?_) (fun hc => ?_)
  · replace H := H.1 hc
    refine C.seq ?_
    refine C.region ?_
    refine hE.pur (X.move hE rfl) fun a hE => ?_
    refine hE.pur (X.assign hE rfl) fun a hE => ?_
    refine hE.pur (X.assign hE rfl) fun a hE => ?_
    refine C.nil (tn ?_)
    exact C.ret (tr (C.ret2 hE rfl rfl rfl ⟨_, _, rfl, H⟩))
  · replace H := H.2 hc
    refine C.skip (tn ?_)
    refine C.seq ?_
    refine C.region ?_
    refine hE.pur (X.assign hE rfl) fun a hE => ?_
    refine C.nil (tn ?_)
    refine C.seq ?_
    refine C.seq ?_
    refine C.region ?_
    refine hE.op (X.fieldAddr hE rfl) H fun x22 w a H hE => ?_
    refine hE.op (X.load hE rfl) H fun x23 w a H hE => ?_
    refine hE.purR (fun w => X.lenL hE Try.underlying22 rfl) fun a hE => ?_
    refine hE.pur (X.move hE rfl) fun a hE => ?_
    refine C.nil (tn ?_)
    refine C.block ?_
    obtain ⟨I_l1, μ_l1, h0, hb⟩ := H
    refine C.loop (ds := []) (N := 78) (σ := Sl × Int) (fun s => [(11, (Sl.v s.1)), (25, (.int .i64 s.2)), (1, (.string x1)), (2, (.string x2)), (3, (.int .u64 x3)), (4, (.pointer x4)), (23, (Sl.v x23)), (24, (.int .i64 (x23.len : Int)))]) (fun s w => I_l1 s.1 s.2 w) (fun s w => μ_l1 s.1 s.2 w) (Sl.none, 0) h0 (hE.weak ⟨rfl, rfl, rfl, rfl, rfl, rfl, rfl, rfl, trivial⟩) ?_
    rintro ⟨x11, x25⟩ w a hI hE
    try dsimp only at hI hE
    obtain ⟨Kl1, hK_l1⟩ : ∃ K : Sl → Int → World → Prop, K = (fun x11' x25' w' => I_l1 x11' x25' w' ∧ μ_l1 x11' x25' w' < μ_l1 x11 x25 w) := ⟨_, rfl⟩
    have H : V_ladingref09_Scan_l1b x1 x2 x3 Ret x4 x23 x11 x25 w Kl1 := by rw [hK_l1]; exact hb x11 x25 w hI
    clear hb h0 hI
    unfold V_ladingref09_Scan_l1b at H
    refine C.seq ?_
    refine C.region ?_
    refine hE.pur (X.ltI hE rfl rfl) fun a hE => ?_
    refine C.nil (tn ?_)
    refine C.seq ?_
    refine C.condP hE rfl (fun hc => ?_) (fun hc => ?_)
    · replace H := H.1 hc
      refine C.skip (tn ?_)
      refine C.join (ds := []) (N := 78) (σ := Sl) (fun s => [(11, (Sl.v s)), (1, (.string x1)), (2, (.string x2)), (3, (.int .u64 x3)), (4, (.pointer x4)), (23, (Sl.v x23)), (24, (.int .i64 (x23.len : Int))), (25, (.int .i64 x25))]) (fun s w => V_ladingref09_Scan_j2 x25 Kl1 s w) ?_ (fun hj2 => ?_)
      · intro x11_1 w a H hE
        try dsimp only at H hE
        unfold V_ladingref09_Scan_j2 at H
        refine C.region ?_
        refine hE.pur (X.add hE rfl rfl) fun a hE => ?_
        refine hE.pur (X.move hE rfl) fun a hE => ?_
        rw [hK_l1] at H
        exact C.nil (tn ⟨(x11_1, (IntKind.wrap .i64 (x25 + 1))), hE.weak ⟨rfl, rfl, rfl, rfl, rfl, rfl, rfl, rfl, trivial⟩, H⟩)
      · refine C.block ?_
        refine C.seq ?_
        refine C.region ?_
        refine hE.pur (X.move hE rfl) fun a hE => ?_
        refine hE.op (X.indexAddr hE rfl rfl) H fun x28 w a H hE => ?_
        refine hE.op (X.load hE rfl) H fun x29 w a H hE => ?_
        refine hE.op (X.alloc) H fun x13 w a H hE => ?_
        refine hE.pur (X.assign hE rfl) fun a hE => ?_
        refine hE.opu (X.store hE rfl rfl) H fun w a H hE => ?_
        refine C.nil (tn ?_)
        refine C.seq ?_
        refine C.seq ?_
        refine C.draw (by kernel_rfl) (by kernel_rfl) ?_
        refine hE.qpur (X.move hE rfl) fun a hE => ?_
        refine hE.qpur (X.gtI hE rfl rfl) fun a hE => ?_
        refine hE.qpur (X.move hE rfl) fun a hE => ?_
        refine WQ.join (ds := []) (N := 78) (σ := Bool) (fun s => [(43, (.bool s)), (1, (.string x1)), (2, (.string x2)), (3, (.int .u64 x3)), (4, (.pointer x4)), (11, (Sl.v x11)), (13, (.pointer x13)), (23, (Sl.v x23)), (24, (.int .i64 (x23.len : Int))), (25, (.int .i64 x25))]) (fun s => V_ladingref09_Scan_r3 x1 x2 x3 x4 x11 x25 Kl1 x13 s w) 11 ?_ (fun hr3 => ?_)
        · intro x43 a H hE
          try dsimp only at H hE
          unfold V_ladingref09_Scan_r3 at H
          refine hE.qpur (X.move hE rfl) fun a hE => ?_
          refine WQ.join (ds := []) (N := 78) (σ := Bool) (fun s => [(49, (.bool s)), (1, (.string x1)), (2, (.string x2)), (3, (.int .u64 x3)), (4, (.pointer x4)), (11, (Sl.v x11)), (13, (.pointer x13)), (23, (Sl.v x23)), (24, (.int .i64 (x23.len : Int))), (25, (.int .i64 x25))]) (fun s => V_ladingref09_Scan_r4 x2 x3 x4 x11 x25 Kl1 x13 s w) 5 ?_ (fun hr4 => ?_)
          · intro x49 a H hE
            try dsimp only at H hE
            unfold V_ladingref09_Scan_r4 at H
            refine hE.qpur (X.move hE rfl) fun a hE => ?_
            refine WQ.join (ds := []) (N := 78) (σ := Bool) (fun s => [(59, (.bool s)), (1, (.string x1)), (2, (.string x2)), (3, (.int .u64 x3)), (4, (.pointer x4)), (11, (Sl.v x11)), (13, (.pointer x13)), (23, (Sl.v x23)), (24, (.int .i64 (x23.len : Int))), (25, (.int .i64 x25))]) (fun s => V_ladingref09_Scan_r5 x3 x4 x11 x25 Kl1 x13 s w) 9 ?_ (fun hr5 => ?_)
            · intro x59 a H hE
              try dsimp only at H hE
              unfold V_ladingref09_Scan_r5 at H
              refine C.qnil (fun w hB => ?_)
              replace H := H w hB
              refine (tn ?_)
              refine C.condB hE rfl (fun hc => ?_) (fun hc => ?_)
              · replace H := H.1 hc
                exact C.exit (te (be (tn (hj2 x11 _ _ H (hE.weak ⟨rfl, rfl, rfl, rfl, rfl, rfl, rfl, rfl, trivial⟩)))))
              · replace H := H.2 hc
                refine C.skip (tn ?_)
                refine C.seq ?_
                refine C.region ?_
                refine hE.op (X.load hE rfl) H fun x61 w a H hE => ?_
                refine hE.op (X.fieldAddr hE rfl) H fun x62 w a H hE => ?_
                refine hE.op (X.load hE rfl) H fun x63 w a H hE => ?_
                refine hE.pur (X.move hE rfl) fun a hE => ?_
                refine hE.call (X.callF hE ent39 rfl rfl) H fun e w H => ?_
                obtain ⟨r_1, r_2, rfl, H⟩ := H
                refine ⟨_, rfl, fun a hE => ?_⟩
                refine hE.pur (X.move hE rfl) fun a hE => ?_
                refine hE.pur (X.extract hE rfl rfl) fun a hE => ?_
                refine hE.pur (X.extract hE rfl rfl) fun a hE => ?_
                refine hE.pur (X.assign hE rfl) fun a hE => ?_
                refine hE.pur (X.assign hE rfl) fun a hE => ?_
                refine C.nil (tn ?_)
                refine C.seq ?_
                refine C.region ?_
                refine hE.pur (X.move hE rfl) fun a hE => ?_
                refine C.nil (tn ?_)
                refine C.condB hE rfl (fun hc => ?_) (fun hc => ?_)
                · replace H := H.1 hc
                  refine C.region ?_
                  refine hE.pur (X.move hE rfl) fun a hE => ?_
                  refine hE.op (X.fieldAddr hE rfl) H fun x70 w a H hE => ?_
                  refine hE.op (X.load hE rfl) H fun x71 w a H hE => ?_
                  refine hE.pur (X.move hE rfl) fun a hE => ?_
                  refine hE.op (X.build hE rfl) H fun x73 w a H hE => ?_
                  refine hE.op (X.buildSlice hE rfl) H fun x74 w a H hE => ?_
                  refine hE.op (X.append hE rfl) H fun x75 w a H hE => ?_
                  refine hE.pur (X.assign hE rfl) fun a hE => ?_
                  exact C.nil (bn (tn (hj2 x75 _ _ H (hE.weak ⟨rfl, rfl, rfl, rfl, rfl, rfl, rfl, rfl, trivial⟩))))
                · replace H := H.2 hc
                  exact C.skip (bn (tn (hj2 x11 _ _ H (hE.weak ⟨rfl, rfl, rfl, rfl, rfl, rfl, rfl, rfl, trivial⟩))))
            · rcases Bool.eq_false_or_eq_true (x49) with hbr5 | hbr5
              · replace H := H.1 hbr5
                replace hE := hE.bool (b := true) (t := 50) rfl (hbr5)
                refine hE.qoff (by rfl) (by rfl) (by decide) (fun a hE => ?_)
                refine hE.qoff (by rfl) (by rfl) (by decide) (fun a hE => ?_)
                refine hE.qoff (by rfl) (by rfl) (by decide) (fun a hE => ?_)
                refine hE.qoffU (by rfl) (by rfl) (fun a hE => ?_)
                refine hE.qoffU (by rfl) (by rfl) (fun a hE => ?_)
                refine hE.qoffU (by rfl) (by rfl) (fun a hE => ?_)
                refine hE.qoffU (by rfl) (by rfl) (fun a hE => ?_)
                refine hE.qoff (by rfl) (by rfl) (by decide) (fun a hE => ?_)
                refine hE.qpur (X.pickT hE rfl rfl) fun a hE => ?_
                exact hr5 true _ H (hE.weak ⟨rfl, rfl, rfl, rfl, rfl, rfl, rfl, rfl, rfl, rfl, trivial⟩)
              · replace H := H.2 hbr5
                replace hE := hE.bool (b := false) (t := 50) rfl (hbr5)
                refine hE.qon (by rfl) (by rfl) ?_
                refine hE.qpur (X.move hE rfl) fun a hE => ?_
                refine hE.qon (by rfl) (by rfl) ?_
                refine hE.qpur (X.neS hE rfl rfl) fun a hE => ?_
                refine hE.qon (by rfl) (by rfl) ?_
                refine hE.qpur (X.move hE rfl) fun a hE => ?_
                refine WQ.join (ds := []) (N := 78) (σ := Bool) (fun s => [(58, (.bool s)), (1, (.string x1)), (2, (.string x2)), (3, (.int .u64 x3)), (4, (.pointer x4)), (11, (Sl.v x11)), (13, (.pointer x13)), (23, (Sl.v x23)), (24, (.int .i64 (x23.len : Int))), (25, (.int .i64 x25)), (50, (.bool false))]) (fun s => V_ladingref09_Scan_r6 x3 x4 x11 x25 Kl1 x13 s w) 5 ?_ (fun hr6 => ?_)
                · intro x58 a H hE
                  try dsimp only at H hE
                  unfold V_ladingref09_Scan_r6 at H
                  refine hE.qpur (X.pickF hE rfl rfl) fun a hE => ?_
                  exact hr5 x58 _ H (hE.weak ⟨rfl, rfl, rfl, rfl, rfl, rfl, rfl, rfl, rfl, rfl, trivial⟩)
                · rcases Classical.em ((x2 ≠ (ByteArray.mk #[]))) with hbr6 | hbr6
                  · replace H := H.1 hbr6
                    replace hE := hE.bool (b := true) (t := 53) rfl (decide_eq_true hbr6)
                    refine hE.qon (by rfl) (by rfl) ?_
                    refine hE.qop (X.fieldAddr hE rfl) H fun x54 a H hE => ?_
                    refine hE.qon (by rfl) (by rfl) ?_
                    refine hE.qop (X.load hE rfl) H fun x55 a H hE => ?_
                    refine hE.qon (by rfl) (by rfl) ?_
                    refine hE.qpur (X.move hE rfl) fun a hE => ?_
                    refine hE.qon (by rfl) (by rfl) ?_
                    refine hE.qpur (X.geS hE rfl rfl) fun a hE => ?_
                    refine hE.qon (by rfl) (by rfl) ?_
                    refine hE.qpur (X.pickT hE rfl rfl) fun a hE => ?_
                    exact hr6 (!sLt x55 x2) _ H (hE.weak ⟨rfl, rfl, rfl, rfl, rfl, rfl, rfl, rfl, rfl, rfl, rfl, trivial⟩)
                  · replace H := H.2 hbr6
                    replace hE := hE.bool (b := false) (t := 53) rfl (decide_eq_false hbr6)
                    refine hE.qoff (by rfl) (by rfl) (by decide) (fun a hE => ?_)
                    refine hE.qoff (by rfl) (by rfl) (by decide) (fun a hE => ?_)
                    refine hE.qoff (by rfl) (by rfl) (by decide) (fun a hE => ?_)
                    refine hE.qoff (by rfl) (by rfl) (by decide) (fun a hE => ?_)
                    refine hE.qon (by rfl) (by rfl) ?_
                    refine hE.qpur (X.pickF hE rfl rfl) fun a hE => ?_
                    exact hr6 false _ H (hE.weak ⟨rfl, rfl, rfl, rfl, rfl, rfl, rfl, rfl, rfl, rfl, rfl, trivial⟩)
          · rcases Bool.eq_false_or_eq_true (x43) with hbr4 | hbr4
            · replace H := H.1 hbr4
              replace hE := hE.bool (b := true) (t := 44) rfl (hbr4)
              refine hE.qoff (by rfl) (by rfl) (by decide) (fun a hE => ?_)
              refine hE.qoff (by rfl) (by rfl) (by decide) (fun a hE => ?_)
              refine hE.qoff (by rfl) (by rfl) (by decide) (fun a hE => ?_)
              refine hE.qoff (by rfl) (by rfl) (by decide) (fun a hE => ?_)
              refine hE.qpur (X.pickT hE rfl rfl) fun a hE => ?_
              exact hr4 true _ H (hE.weak ⟨rfl, rfl, rfl, rfl, rfl, rfl, rfl, rfl, rfl, rfl, trivial⟩)
            · replace H := H.2 hbr4
              replace hE := hE.bool (b := false) (t := 44) rfl (hbr4)
              refine hE.qon (by rfl) (by rfl) ?_
              refine hE.qop (X.fieldAddr hE rfl) H fun x45 a H hE => ?_
              refine hE.qon (by rfl) (by rfl) ?_
              refine hE.qop (X.load hE rfl) H fun x46 a H hE => ?_
              refine hE.qon (by rfl) (by rfl) ?_
              refine hE.qpur (X.move hE rfl) fun a hE => ?_
              refine hE.qon (by rfl) (by rfl) ?_
              refine hE.qpur (X.ltS hE rfl rfl) fun a hE => ?_
              refine hE.qpur (X.pickF hE rfl rfl) fun a hE => ?_
              exact hr4 (sLt x46 x1) _ H (hE.weak ⟨rfl, rfl, rfl, rfl, rfl, rfl, rfl, rfl, rfl, rfl, trivial⟩)
        · rcases Classical.em ((0 < x25)) with hbr3 | hbr3
          · replace H := H.1 hbr3
            replace hE := hE.bool (b := true) (t := 32) rfl (decide_eq_true hbr3)
            refine hE.qon (by rfl) (by rfl) ?_
            refine hE.qop (X.fieldAddr hE rfl) H fun x33 a H hE => ?_
            refine hE.qon (by rfl) (by rfl) ?_
            refine hE.qop (X.load hE rfl) H fun x34 a H hE => ?_
            refine hE.qon (by rfl) (by rfl) ?_
            refine hE.qpur (X.move hE rfl) fun a hE => ?_
            refine hE.qon (by rfl) (by rfl) ?_
            refine hE.qpur (X.sub hE rfl rfl) fun a hE => ?_
            refine hE.qon (by rfl) (by rfl) ?_
            refine hE.qop (X.indexAddr hE rfl rfl) H fun x37 a H hE => ?_
            refine hE.qon (by rfl) (by rfl) ?_
            refine hE.qop (X.fieldAddr hE rfl) H fun x38 a H hE => ?_
            refine hE.qon (by rfl) (by rfl) ?_
            refine hE.qop (X.load hE rfl) H fun x39 a H hE => ?_
            refine hE.qon (by rfl) (by rfl) ?_
            refine hE.qop (X.fieldAddr hE rfl) H fun x40 a H hE => ?_
            refine hE.qon (by rfl) (by rfl) ?_
            refine hE.qop (X.load hE rfl) H fun x41 a H hE => ?_
            refine hE.qon (by rfl) (by rfl) ?_
            refine hE.qpur (X.eqS hE rfl rfl) fun a hE => ?_
            refine hE.qpur (X.pickT hE rfl rfl) fun a hE => ?_
            exact hr3 (decide (x39 = x41)) _ H (hE.weak ⟨rfl, rfl, rfl, rfl, rfl, rfl, rfl, rfl, rfl, rfl, trivial⟩)
          · replace H := H.2 hbr3
            replace hE := hE.bool (b := false) (t := 32) rfl (decide_eq_false hbr3)
            refine hE.qoff (by rfl) (by rfl) (by decide) (fun a hE => ?_)
            refine hE.qoff (by rfl) (by rfl) (by decide) (fun a hE => ?_)
            refine hE.qoff (by rfl) (by rfl) (by decide) (fun a hE => ?_)
            refine hE.qoff (by rfl) (by rfl) (by decide) (fun a hE => ?_)
            refine hE.qoff (by rfl) (by rfl) (by decide) (fun a hE => ?_)
            refine hE.qoff (by rfl) (by rfl) (by decide) (fun a hE => ?_)
            refine hE.qoff (by rfl) (by rfl) (by decide) (fun a hE => ?_)
            refine hE.qoff (by rfl) (by rfl) (by decide) (fun a hE => ?_)
            refine hE.qoff (by rfl) (by rfl) (by decide) (fun a hE => ?_)
            refine hE.qoff (by rfl) (by rfl) (by decide) (fun a hE => ?_)
            refine hE.qpur (X.pickF hE rfl rfl) fun a hE => ?_
            exact hr3 false _ H (hE.weak ⟨rfl, rfl, rfl, rfl, rfl, rfl, rfl, rfl, rfl, rfl, trivial⟩)
    · replace H := H.2 hc
      refine C.exit (te (te (be (tn ?_))))
      refine C.seq ?_
      refine C.region ?_
      refine hE.pur (X.move hE rfl) fun a hE => ?_
      refine hE.pur (X.assign hE rfl) fun a hE => ?_
      refine hE.pur (X.assign hE rfl) fun a hE => ?_
      refine C.nil (tn ?_)
      exact C.ret (C.ret2 hE rfl rfl rfl ⟨_, _, rfl, H⟩)
/-! ### lading ladingref09.Last: function 23 -/
def V_ladingref09_Last_j2 (x18 : Int) (Kl1 : Int → Int → World → Prop) (x7_1 : Int) (w : World) : Prop :=
  Kl1 x7_1 (IntKind.wrap .i64 (x18 + 1)) w
def V_ladingref09_Last_l1b (x1 : ByteArray) (Ret : Int → Int → World → Prop) (x16 : Sl) (x7 : Int) (x18 : Int) (w : World) (Kl1 : Int → Int → World → Prop) : Prop :=
  ((x18 < (x16.len : Int)) → (opE Try.prog Value.pointer (Instr.indexAt 22 (Sl.v x16) (.int .i64 x18)) w (fun x20 w => opE Try.prog T_api_Version.v (Instr.loadAt 37 (.pointer x20)) w (fun x21 w => opE Try.prog Value.pointer (Instr.alloc 37 true (.tuple #[])) w (fun x9 w => opU Try.prog (Instr.storeAt 37 (.pointer x9) (T_api_Version.v x21)) w (fun w => opE Try.prog Value.pointer (Instr.fieldAt 37 (.pointer x9) 0) w (fun x22 w => opE Try.prog Value.string (Instr.loadAt 9 (.pointer x22)) w (fun x23 w => ((x23 = x1) → (opE Try.prog Value.pointer (Instr.fieldAt 37 (.pointer x9) 1) w (fun x26 w => opE Try.prog (Value.int .u64) (Instr.loadAt 23 (.pointer x26)) w (fun x27 w => V_ladingref09_Last_j2 x18 Kl1 x27 w)))) ∧ (¬ (x23 = x1) → (V_ladingref09_Last_j2 x18 Kl1 x7 w)))))))))) ∧ (¬ (x18 < (x16.len : Int)) → (Ret x7 0 w))
def V_ladingref09_Last (x0 : T_api_Versions) (x1 : ByteArray) (w : World) (Ret : Int → Int → World → Prop) : Prop :=
  opE Try.prog Value.pointer (Instr.box 25 (T_api_Versions.v x0)) w (fun x2 w => opE Try.prog T_api_Versions.v (Instr.loadAt 25 (.pointer x2)) w (fun x10 w => Cl Try.prog 24 [(T_api_Versions.v x10)].toArray w (fun e w => ∃ (r : Int), e = .returned (.int .i64 r) ∧ (((r ≠ 0) → (Ret 0 r w)) ∧ (¬ (r ≠ 0) → (opE Try.prog Value.pointer (Instr.fieldAt 25 (.pointer x2) 0) w (fun x15 w => opE Try.prog Sl.v (Instr.loadAt 22 (.pointer x15)) w (fun x16 w => ∃ (I : Int → Int → World → Prop) (μ : Int → Int → World → Nat), I 0 0 w ∧ ∀ (x7 : Int) (x18 : Int) w, I x7 x18 w → V_ladingref09_Last_l1b x1 Ret x16 x7 x18 w (fun x7' x18' w' => I x7' x18' w' ∧ μ x7' x18' w' < μ x7 x18 w)))))))))
set_option maxRecDepth 100000 in
theorem L1_ladingref09_Last (x0 : T_api_Versions) (x1 : ByteArray) (w : World) (Ret : Int → Int → World → Prop) (H : V_ladingref09_Last x0 x1 w Ret) : Cl Try.prog 23 [(T_api_Versions.v x0), (.string x1)].toArray w (fun e w' => ∃ (r0 : Int) (r1 : Int), e = .returned (.tuple [(.int .u64 r0), (.int .i64 r1)].toArray) ∧ Ret r0 r1 w') := by
  unfold V_ladingref09_Last at H
  refine C.enter 30 (zipE 0 [(T_api_Versions.v x0), (.string x1)]) Try.func23 rfl rfl (by rfl) rfl ?_
  intro a hE
  replace hE : Sat [] 30 [(0, (T_api_Versions.v x0)), (1, (.string x1))] a := hE
  refine C.seq ?_
  refine C.region ?_
  refine hE.op (X.box hE rfl) H fun x2 w a H hE => ?_
  refine hE.pur (X.assign hE rfl) fun a hE => ?_
  refine hE.pur (X.assign hE rfl) fun a hE => ?_
  refine C.nil (tn ?_)
  refine C.seq ?_
  refine C.region ?_
  refine hE.op (X.load hE rfl) H fun x10 w a H hE => ?_
  refine hE.call (X.callF hE ent24 rfl rfl) H fun e w H => ?_
  obtain ⟨r, rfl, H⟩ := H
  refine ⟨_, rfl, fun a hE => ?_⟩
  refine hE.pur (X.assign hE rfl) fun a hE => ?_
  refine C.nil (tn ?_)
  refine C.seq ?_
  refine C.seq ?_
  refine C.region ?_
  refine hE.pur (X.move hE rfl) fun a hE => ?_
  refine hE.pur (X.neI hE rfl rfl) fun a hE => ?_
  refine C.nil (tn ?_)
  refine C.condP hE rfl (fun hc => ?_) (fun hc => ?_)
  · replace H := H.1 hc
    refine C.seq ?_
    refine C.region ?_
    refine hE.pur (X.move hE rfl) fun a hE => ?_
    refine hE.pur (X.assign hE rfl) fun a hE => ?_
    refine hE.pur (X.assign hE rfl) fun a hE => ?_
    refine C.nil (tn ?_)
    exact C.ret (tr (C.ret2 hE rfl rfl rfl ⟨_, _, rfl, H⟩))
  · replace H := H.2 hc
    refine C.skip (tn ?_)
    refine C.seq ?_
    refine C.region ?_
    refine hE.pur (X.assign hE rfl) fun a hE => ?_
    refine C.nil (tn ?_)
    refine C.seq ?_
    refine C.seq ?_
    refine C.region ?_
    refine hE.op (X.fieldAddr hE rfl) H fun x15 w a H hE => ?_
    refine hE.op (X.load hE rfl) H fun x16 w a H hE => ?_
    refine hE.purR (fun w => X.lenL hE Try.underlying22 rfl) fun a hE => ?_
    refine hE.pur (X.move hE rfl) fun a hE => ?_
    refine C.nil (tn ?_)
    refine C.block ?_
    obtain ⟨I_l1, μ_l1, h0, hb⟩ := H
    refine C.loop (ds := []) (N := 30) (σ := Int × Int) (fun s => [(7, (.int .u64 s.1)), (18, (.int .i64 s.2)), (1, (.string x1)), (16, (Sl.v x16)), (17, (.int .i64 (x16.len : Int)))]) (fun s w => I_l1 s.1 s.2 w) (fun s w => μ_l1 s.1 s.2 w) (0, 0) h0 (hE.weak ⟨rfl, rfl, rfl, rfl, rfl, trivial⟩) ?_
    rintro ⟨x7, x18⟩ w a hI hE
    try dsimp only at hI hE
    obtain ⟨Kl1, hK_l1⟩ : ∃ K : Int → Int → World → Prop, K = (fun x7' x18' w' => I_l1 x7' x18' w' ∧ μ_l1 x7' x18' w' < μ_l1 x7 x18 w) := ⟨_, rfl⟩
    have H : V_ladingref09_Last_l1b x1 Ret x16 x7 x18 w Kl1 := by rw [hK_l1]; exact hb x7 x18 w hI
    clear hb h0 hI
    unfold V_ladingref09_Last_l1b at H
    refine C.seq ?_
    refine C.region ?_
    refine hE.pur (X.ltI hE rfl rfl) fun a hE => ?_
    refine C.nil (tn ?_)
    refine C.seq ?_
    refine C.condP hE rfl (fun hc => ?_) (fun hc => ?_)
    · replace H := H.1 hc
      refine C.skip (tn ?_)
      refine C.join (ds := []) (N := 30) (σ := Int) (fun s => [(7, (.int .u64 s)), (1, (.string x1)), (16, (Sl.v x16)), (17, (.int .i64 (x16.len : Int))), (18, (.int .i64 x18))]) (fun s w => V_ladingref09_Last_j2 x18 Kl1 s w) ?_ (fun hj2 => ?_)
      · intro x7_1 w a H hE
        try dsimp only at H hE
        unfold V_ladingref09_Last_j2 at H
        refine C.region ?_
        refine hE.pur (X.add hE rfl rfl) fun a hE => ?_
        refine hE.pur (X.move hE rfl) fun a hE => ?_
        rw [hK_l1] at H
        exact C.nil (tn ⟨(x7_1, (IntKind.wrap .i64 (x18 + 1))), hE.weak ⟨rfl, rfl, rfl, rfl, rfl, trivial⟩, H⟩)
      · refine C.block ?_
        refine C.seq ?_
        refine C.region ?_
        refine hE.op (X.indexAddr hE rfl rfl) H fun x20 w a H hE => ?_
        refine hE.op (X.load hE rfl) H fun x21 w a H hE => ?_
        refine hE.op (X.alloc) H fun x9 w a H hE => ?_
        refine hE.opu (X.store hE rfl rfl) H fun w a H hE => ?_
        refine C.nil (tn ?_)
        refine C.seq ?_
        refine C.region ?_
        refine hE.op (X.fieldAddr hE rfl) H fun x22 w a H hE => ?_
        refine hE.op (X.load hE rfl) H fun x23 w a H hE => ?_
        refine hE.pur (X.move hE rfl) fun a hE => ?_
        refine hE.pur (X.eqS hE rfl rfl) fun a hE => ?_
        refine C.nil (tn ?_)
        refine C.condP hE rfl (fun hc => ?_) (fun hc => ?_)
        · replace H := H.1 hc
          refine C.region ?_
          refine hE.op (X.fieldAddr hE rfl) H fun x26 w a H hE => ?_
          refine hE.op (X.load hE rfl) H fun x27 w a H hE => ?_
          refine hE.pur (X.assign hE rfl) fun a hE => ?_
          exact C.nil (bn (tn (hj2 x27 _ _ H (hE.weak ⟨rfl, rfl, rfl, rfl, rfl, trivial⟩))))
        · replace H := H.2 hc
          exact C.skip (bn (tn (hj2 x7 _ _ H (hE.weak ⟨rfl, rfl, rfl, rfl, rfl, trivial⟩))))
    · replace H := H.2 hc
      refine C.exit (te (te (be (tn ?_))))
      refine C.seq ?_
      refine C.region ?_
      refine hE.pur (X.move hE rfl) fun a hE => ?_
      refine hE.pur (X.assign hE rfl) fun a hE => ?_
      refine hE.pur (X.assign hE rfl) fun a hE => ?_
      refine C.nil (tn ?_)
      exact C.ret (C.ret2 hE rfl rfl rfl ⟨_, _, rfl, H⟩)
/-! ### lading ladingref09.Check: function 24 -/
def V_ladingref09_Check_r7 (Ret : Int → World → Prop) (x17 : Int) (Kl2 : Int → World → Prop) (x88 : Bool) (w : World) : Prop :=
  nextB w (fun w => (x88 = true → (Ret 2 w)) ∧ (x88 = false → (Kl2 (IntKind.wrap .i64 (x17 + 1)) w)))
def V_ladingref09_Check_r8 (Ret : Int → World → Prop) (x17 : Int) (Kl2 : Int → World → Prop) (x87 : Bool) (w : World) : Prop :=
  V_ladingref09_Check_r7 Ret x17 Kl2 x87 w
def V_ladingref09_Check_r9 (Ret : Int → World → Prop) (x17 : Int) (Kl2 : Int → World → Prop) (x86 : Bool) (w : World) : Prop :=
  V_ladingref09_Check_r8 Ret x17 Kl2 x86 w
def V_ladingref09_Check_r6 (Ret : Int → World → Prop) (x1 : Option Addr) (x17 : Int) (Kl2 : Int → World → Prop) (x4 : Option Addr) (x50 : Bool) (w : World) : Prop :=
  (x50 = true → (Ret 2 w)) ∧ (x50 = false → (((0 < x17) → (opB Try.prog Value.pointer (Instr.fieldAt 25 (.pointer x1) 0) w (fun x54 => opB Try.prog Sl.v (Instr.loadAt 22 (.pointer x54)) w (fun x55 => opB Try.prog Value.pointer (Instr.indexAt 22 (Sl.v x55) (.int .i64 (IntKind.wrap .i64 (x17 - 1)))) w (fun x58 => opB Try.prog Value.pointer (Instr.fieldAt 37 (.pointer x58) 0) w (fun x59 => opB Try.prog Value.string (Instr.loadAt 9 (.pointer x59)) w (fun x60 => opB Try.prog Value.pointer (Instr.fieldAt 37 (.pointer x4) 0) w (fun x61 => opB Try.prog Value.string (Instr.loadAt 9 (.pointer x61)) w (fun x62 => ((!(sLt x60 x62 || decide (x60 = x62))) = true → (V_ladingref09_Check_r8 Ret x17 Kl2 true w)) ∧ ((!(sLt x60 x62 || decide (x60 = x62))) = false → (opB Try.prog Value.pointer (Instr.fieldAt 25 (.pointer x1) 0) w (fun x65 => opB Try.prog Sl.v (Instr.loadAt 22 (.pointer x65)) w (fun x66 => opB Try.prog Value.pointer (Instr.indexAt 22 (Sl.v x66) (.int .i64 (IntKind.wrap .i64 (x17 - 1)))) w (fun x69 => opB Try.prog Value.pointer (Instr.fieldAt 37 (.pointer x69) 0) w (fun x70 => opB Try.prog Value.string (Instr.loadAt 9 (.pointer x70)) w (fun x71 => opB Try.prog Value.pointer (Instr.fieldAt 37 (.pointer x4) 0) w (fun x72 => opB Try.prog Value.string (Instr.loadAt 9 (.pointer x72)) w (fun x73 => ((x71 = x73) → (opB Try.prog Value.pointer (Instr.fieldAt 25 (.pointer x1) 0) w (fun x76 => opB Try.prog Sl.v (Instr.loadAt 22 (.pointer x76)) w (fun x77 => opB Try.prog Value.pointer (Instr.indexAt 22 (Sl.v x77) (.int .i64 (IntKind.wrap .i64 (x17 - 1)))) w (fun x80 => opB Try.prog Value.pointer (Instr.fieldAt 37 (.pointer x80) 1) w (fun x81 => opB Try.prog (Value.int .u64) (Instr.loadAt 23 (.pointer x81)) w (fun x82 => opB Try.prog Value.pointer (Instr.fieldAt 37 (.pointer x4) 1) w (fun x83 => opB Try.prog (Value.int .u64) (Instr.loadAt 23 (.pointer x83)) w (fun x84 => V_ladingref09_Check_r9 Ret x17 Kl2 (decide (x84 ≤ x82)) w))))))))) ∧ (¬ (x71 = x73) → (V_ladingref09_Check_r9 Ret x17 Kl2 false w)))))))))))))))))))) ∧ (¬ (0 < x17) → (V_ladingref09_Check_r7 Ret x17 Kl2 false w))))
def V_ladingref09_Check_r5 (Ret : Int → World → Prop) (x1 : Option Addr) (x17 : Int) (Kl2 : Int → World → Prop) (x4 : Option Addr) (x44 : Bool) (w : World) : Prop :=
  (x44 = true → (V_ladingref09_Check_r6 Ret x1 x17 Kl2 x4 true w)) ∧ (x44 = false → (opE Try.prog Value.pointer (Instr.fieldAt 37 (.pointer x4) 2) w (fun x46 w => opE Try.prog Value.string (Instr.loadAt 9 (.pointer x46)) w (fun x47 w => V_ladingref09_Check_r6 Ret x1 x17 Kl2 x4 (decide (512 < (x47.size : Int))) w))))
def V_ladingref09_Check_r4 (Ret : Int → World → Prop) (x1 : Option Addr) (x17 : Int) (Kl2 : Int → World → Prop) (x4 : Option Addr) (x38 : Bool) (w : World) : Prop :=
  (x38 = true → (V_ladingref09_Check_r5 Ret x1 x17 Kl2 x4 true w)) ∧ (x38 = false → (opE Try.prog Value.pointer (Instr.fieldAt 37 (.pointer x4) 0) w (fun x40 w => opE Try.prog Value.string (Instr.loadAt 9 (.pointer x40)) w (fun x41 w => V_ladingref09_Check_r5 Ret x1 x17 Kl2 x4 (decide (256 < (x41.size : Int))) w))))
def V_ladingref09_Check_r10 (Ret : Int → World → Prop) (x1 : Option Addr) (x17 : Int) (Kl2 : Int → World → Prop) (x4 : Option Addr) (x37 : Bool) (w : World) : Prop :=
  V_ladingref09_Check_r4 Ret x1 x17 Kl2 x4 x37 w
def V_ladingref09_Check_r3 (Ret : Int → World → Prop) (x1 : Option Addr) (x17 : Int) (Kl2 : Int → World → Prop) (x4 : Option Addr) (x29 : Bool) (w : World) : Prop :=
  (x29 = true → (V_ladingref09_Check_r4 Ret x1 x17 Kl2 x4 true w)) ∧ (x29 = false → (opE Try.prog Value.pointer (Instr.fieldAt 37 (.pointer x4) 3) w (fun x31 w => opE Try.prog Value.bool (Instr.loadAt 4 (.pointer x31)) w (fun x32 w => (x32 = true → (opE Try.prog Value.pointer (Instr.fieldAt 37 (.pointer x4) 2) w (fun x34 w => opE Try.prog Value.string (Instr.loadAt 9 (.pointer x34)) w (fun x35 w => V_ladingref09_Check_r10 Ret x1 x17 Kl2 x4 (decide (x35 ≠ (ByteArray.mk #[]))) w)))) ∧ (x32 = false → (V_ladingref09_Check_r10 Ret x1 x17 Kl2 x4 false w))))))
def V_ladingref09_Check_l2b (Ret : Int → World → Prop) (x1 : Option Addr) (x15 : Sl) (x17 : Int) (w : World) (Kl2 : Int → World → Prop) : Prop :=
  ((x17 < (x15.len : Int)) → (opE Try.prog Value.pointer (Instr.indexAt 22 (Sl.v x15) (.int .i64 x17)) w (fun x20 w => opE Try.prog T_api_Version.v (Instr.loadAt 37 (.pointer x20)) w (fun x21 w => opE Try.prog Value.pointer (Instr.alloc 37 true (.tuple #[])) w (fun x4 w => opU Try.prog (Instr.storeAt 37 (.pointer x4) (T_api_Version.v x21)) w (fun w => opE Try.prog Value.pointer (Instr.fieldAt 37 (.pointer x4) 1) w (fun x22 w => opE Try.prog (Value.int .u64) (Instr.loadAt 23 (.pointer x22)) w (fun x23 w => ((x23 < 1) → (V_ladingref09_Check_r3 Ret x1 x17 Kl2 x4 true w)) ∧ (¬ (x23 < 1) → (opE Try.prog Value.pointer (Instr.fieldAt 37 (.pointer x4) 1) w (fun x26 w => opE Try.prog (Value.int .u64) (Instr.loadAt 23 (.pointer x26)) w (fun x27 w => V_ladingref09_Check_r3 Ret x1 x17 Kl2 x4 (decide (2305843009213693952 < x27)) w)))))))))))) ∧ (¬ (x17 < (x15.len : Int)) → (Ret 0 w))
def V_ladingref09_Check_r1 (Ret : Int → World → Prop) (x1 : Option Addr) (x13 : Bool) (w : World) : Prop :=
  (x13 = true → (Ret 2 w)) ∧ (x13 = false → (opE Try.prog Value.pointer (Instr.fieldAt 25 (.pointer x1) 0) w (fun x14 w => opE Try.prog Sl.v (Instr.loadAt 22 (.pointer x14)) w (fun x15 w => ∃ (I : Int → World → Prop) (μ : Int → World → Nat), I 0 w ∧ ∀ (x17 : Int) w, I x17 w → V_ladingref09_Check_l2b Ret x1 x15 x17 w (fun x17' w' => I x17' w' ∧ μ x17' w' < μ x17 w)))))
def V_ladingref09_Check (x0 : T_api_Versions) (w : World) (Ret : Int → World → Prop) : Prop :=
  opE Try.prog Value.pointer (Instr.box 25 (T_api_Versions.v x0)) w (fun x1 w => opE Try.prog Value.pointer (Instr.fieldAt 25 (.pointer x1) 0) w (fun x5 w => opE Try.prog Sl.v (Instr.loadAt 22 (.pointer x5)) w (fun x6 w => ((4096 < (x6.len : Int)) → (V_ladingref09_Check_r1 Ret x1 true w)) ∧ (¬ (4096 < (x6.len : Int)) → (opE Try.prog Value.pointer (Instr.fieldAt 25 (.pointer x1) 1) w (fun x10 w => opE Try.prog (Value.int .u64) (Instr.loadAt 23 (.pointer x10)) w (fun x11 w => V_ladingref09_Check_r1 Ret x1 (decide (2305843009213693952 < x11)) w)))))))
set_option maxRecDepth 100000 in
theorem L1_ladingref09_Check (x0 : T_api_Versions) (w : World) (Ret : Int → World → Prop) (H : V_ladingref09_Check x0 w Ret) : Cl Try.prog 24 [(T_api_Versions.v x0)].toArray w (fun e w' => ∃ (r0 : Int), e = .returned (.int .i64 r0) ∧ Ret r0 w') := by
  unfold V_ladingref09_Check at H
  refine C.enter 90 (zipE 0 [(T_api_Versions.v x0)]) Try.func24 rfl rfl (by rfl) rfl ?_
  intro a hE
  replace hE : Sat [] 90 [(0, (T_api_Versions.v x0))] a := hE
  refine C.seq ?_
  refine C.region ?_
  refine hE.op (X.box hE rfl) H fun x1 w a H hE => ?_
  refine hE.pur (X.assign hE rfl) fun a hE => ?_
  refine C.nil (tn ?_)
  refine C.seq ?_
  refine C.seq ?_
  refine C.region ?_
  refine hE.op (X.fieldAddr hE rfl) H fun x5 w a H hE => ?_
  refine hE.op (X.load hE rfl) H fun x6 w a H hE => ?_
  refine hE.purR (fun w => X.lenL hE Try.underlying22 rfl) fun a hE => ?_
  refine hE.pur (X.gtI hE rfl rfl) fun a hE => ?_
  refine hE.pur (X.move hE rfl) fun a hE => ?_
  refine WL.join (ds := []) (N := 90) (σ := Bool) (fun s => [(13, (.bool s)), (1, (.pointer x1))]) (fun s w => V_ladingref09_Check_r1 Ret x1 s w) 4 ?_ (fun hr1 => ?_)
  · intro x13 w a H hE
    try dsimp only at H hE
    unfold V_ladingref09_Check_r1 at H
    refine C.nil (tn ?_)
    refine C.condB hE rfl (fun hc => ?_) (fun hc => ?_)
    · replace H := H.1 hc
      refine C.seq ?_
      refine C.region ?_
      refine hE.pur (X.assign hE rfl) fun a hE => ?_
      refine C.nil (tn ?_)
      exact C.ret (tr (C.ret1 hE rfl rfl ⟨_, rfl, H⟩))
    · replace H := H.2 hc
      refine C.skip (tn ?_)
      refine C.seq ?_
      refine C.seq ?_
      refine C.region ?_
      refine hE.op (X.fieldAddr hE rfl) H fun x14 w a H hE => ?_
      refine hE.op (X.load hE rfl) H fun x15 w a H hE => ?_
      refine hE.purR (fun w => X.lenL hE Try.underlying22 rfl) fun a hE => ?_
      refine hE.pur (X.move hE rfl) fun a hE => ?_
      refine C.nil (tn ?_)
      refine C.block ?_
      obtain ⟨I_l2, μ_l2, h0, hb⟩ := H
      refine C.loop (ds := []) (N := 90) (σ := Int) (fun s => [(17, (.int .i64 s)), (1, (.pointer x1)), (15, (Sl.v x15)), (16, (.int .i64 (x15.len : Int)))]) (fun s w => I_l2 s w) (fun s w => μ_l2 s w) 0 h0 (hE.weak ⟨rfl, rfl, rfl, rfl, trivial⟩) ?_
      intro x17 w a hI hE
      try dsimp only at hI hE
      obtain ⟨Kl2, hK_l2⟩ : ∃ K : Int → World → Prop, K = (fun x17' w' => I_l2 x17' w' ∧ μ_l2 x17' w' < μ_l2 x17 w) := ⟨_, rfl⟩
      have H : V_ladingref09_Check_l2b Ret x1 x15 x17 w Kl2 := by rw [hK_l2]; exact hb x17 w hI
      clear hb h0 hI
      unfold V_ladingref09_Check_l2b at H
      refine C.seq ?_
      refine C.region ?_
      refine hE.pur (X.ltI hE rfl rfl) fun a hE => ?_
      refine C.nil (tn ?_)
      refine C.seq ?_
      refine C.condP hE rfl (fun hc => ?_) (fun hc => ?_)
      · replace H := H.1 hc
        refine C.skip (tn ?_)
        refine C.seq ?_
        refine C.block ?_
        refine C.seq ?_
        refine C.region ?_
        refine hE.pur (X.move hE rfl) fun a hE => ?_
        refine hE.op (X.indexAddr hE rfl rfl) H fun x20 w a H hE => ?_
        refine hE.op (X.load hE rfl) H fun x21 w a H hE => ?_
        refine hE.op (X.alloc) H fun x4 w a H hE => ?_
        refine hE.pur (X.assign hE rfl) fun a hE => ?_
        refine hE.opu (X.store hE rfl rfl) H fun w a H hE => ?_
        refine C.nil (tn ?_)
        refine C.seq ?_
        refine C.seq ?_
        refine C.region ?_
        refine hE.op (X.fieldAddr hE rfl) H fun x22 w a H hE => ?_
        refine hE.op (X.load hE rfl) H fun x23 w a H hE => ?_
        refine hE.pur (X.ltI hE rfl rfl) fun a hE => ?_
        refine hE.pur (X.move hE rfl) fun a hE => ?_
        refine WL.join (ds := []) (N := 90) (σ := Bool) (fun s => [(29, (.bool s)), (1, (.pointer x1)), (3, (.int .i64 x17)), (4, (.pointer x4)), (15, (Sl.v x15)), (16, (.int .i64 (x15.len : Int))), (17, (.int .i64 x17))]) (fun s w => V_ladingref09_Check_r3 Ret x1 x17 Kl2 x4 s w) 4 ?_ (fun hr3 => ?_)
        · intro x29 w a H hE
          try dsimp only at H hE
          unfold V_ladingref09_Check_r3 at H
          refine hE.pur (X.move hE rfl) fun a hE => ?_
          refine WL.join (ds := []) (N := 90) (σ := Bool) (fun s => [(38, (.bool s)), (1, (.pointer x1)), (3, (.int .i64 x17)), (4, (.pointer x4)), (15, (Sl.v x15)), (16, (.int .i64 (x15.len : Int))), (17, (.int .i64 x17))]) (fun s w => V_ladingref09_Check_r4 Ret x1 x17 Kl2 x4 s w) 8 ?_ (fun hr4 => ?_)
          · intro x38 w a H hE
            try dsimp only at H hE
            unfold V_ladingref09_Check_r4 at H
            refine hE.pur (X.move hE rfl) fun a hE => ?_
            refine WL.join (ds := []) (N := 90) (σ := Bool) (fun s => [(44, (.bool s)), (1, (.pointer x1)), (3, (.int .i64 x17)), (4, (.pointer x4)), (15, (Sl.v x15)), (16, (.int .i64 (x15.len : Int))), (17, (.int .i64 x17))]) (fun s w => V_ladingref09_Check_r5 Ret x1 x17 Kl2 x4 s w) 5 ?_ (fun hr5 => ?_)
            · intro x44 w a H hE
              try dsimp only at H hE
              unfold V_ladingref09_Check_r5 at H
              refine hE.pur (X.move hE rfl) fun a hE => ?_
              refine WL.join (ds := []) (N := 90) (σ := Bool) (fun s => [(50, (.bool s)), (1, (.pointer x1)), (3, (.int .i64 x17)), (4, (.pointer x4)), (15, (Sl.v x15)), (16, (.int .i64 (x15.len : Int))), (17, (.int .i64 x17))]) (fun s w => V_ladingref09_Check_r6 Ret x1 x17 Kl2 x4 s w) 5 ?_ (fun hr6 => ?_)
              · intro x50 w a H hE
                try dsimp only at H hE
                unfold V_ladingref09_Check_r6 at H
                refine C.nil (tn ?_)
                refine C.condB hE rfl (fun hc => ?_) (fun hc => ?_)
                · replace H := H.1 hc
                  refine C.seq ?_
                  refine C.region ?_
                  refine hE.pur (X.assign hE rfl) fun a hE => ?_
                  refine C.nil (tn ?_)
                  exact C.ret (tr (br (tr (tr (br (tr (C.ret1 hE rfl rfl ⟨_, rfl, H⟩)))))))
                · replace H := H.2 hc
                  refine C.skip (tn ?_)
                  refine C.seq ?_
                  refine C.draw (by kernel_rfl) (by kernel_rfl) ?_
                  refine hE.qpur (X.move hE rfl) fun a hE => ?_
                  refine hE.qpur (X.gtI hE rfl rfl) fun a hE => ?_
                  refine hE.qpur (X.move hE rfl) fun a hE => ?_
                  refine WQ.join (ds := []) (N := 90) (σ := Bool) (fun s => [(88, (.bool s)), (1, (.pointer x1)), (15, (Sl.v x15)), (16, (.int .i64 (x15.len : Int))), (17, (.int .i64 x17))]) (fun s => V_ladingref09_Check_r7 Ret x17 Kl2 s w) 35 ?_ (fun hr7 => ?_)
                  · intro x88 a H hE
                    try dsimp only at H hE
                    unfold V_ladingref09_Check_r7 at H
                    refine C.qnil (fun w hB => ?_)
                    replace H := H w hB
                    refine (tn ?_)
                    refine C.condB hE rfl (fun hc => ?_) (fun hc => ?_)
                    · replace H := H.1 hc
                      refine C.seq ?_
                      refine C.region ?_
                      refine hE.pur (X.assign hE rfl) fun a hE => ?_
                      refine C.nil (tn ?_)
                      exact C.ret (br (tr (tr (br (tr (C.ret1 hE rfl rfl ⟨_, rfl, H⟩))))))
                    · replace H := H.2 hc
                      refine C.skip (bn (tn ?_))
                      refine C.region ?_
                      refine hE.pur (X.add hE rfl rfl) fun a hE => ?_
                      refine hE.pur (X.move hE rfl) fun a hE => ?_
                      rw [hK_l2] at H
                      exact C.nil (tn ⟨(IntKind.wrap .i64 (x17 + 1)), hE.weak ⟨rfl, rfl, rfl, rfl, trivial⟩, H⟩)
                  · rcases Classical.em ((0 < x17)) with hbr7 | hbr7
                    · replace H := H.1 hbr7
                      replace hE := hE.bool (b := true) (t := 53) rfl (decide_eq_true hbr7)
                      refine hE.qon (by rfl) (by rfl) ?_
                      refine hE.qop (X.fieldAddr hE rfl) H fun x54 a H hE => ?_
                      refine hE.qon (by rfl) (by rfl) ?_
                      refine hE.qop (X.load hE rfl) H fun x55 a H hE => ?_
                      refine hE.qon (by rfl) (by rfl) ?_
                      refine hE.qpur (X.move hE rfl) fun a hE => ?_
                      refine hE.qon (by rfl) (by rfl) ?_
                      refine hE.qpur (X.sub hE rfl rfl) fun a hE => ?_
                      refine hE.qon (by rfl) (by rfl) ?_
                      refine hE.qop (X.indexAddr hE rfl rfl) H fun x58 a H hE => ?_
                      refine hE.qon (by rfl) (by rfl) ?_
                      refine hE.qop (X.fieldAddr hE rfl) H fun x59 a H hE => ?_
                      refine hE.qon (by rfl) (by rfl) ?_
                      refine hE.qop (X.load hE rfl) H fun x60 a H hE => ?_
                      refine hE.qon (by rfl) (by rfl) ?_
                      refine hE.qop (X.fieldAddr hE rfl) H fun x61 a H hE => ?_
                      refine hE.qon (by rfl) (by rfl) ?_
                      refine hE.qop (X.load hE rfl) H fun x62 a H hE => ?_
                      refine hE.qon (by rfl) (by rfl) ?_
                      refine hE.qpur (X.gtS hE rfl rfl) fun a hE => ?_
                      refine hE.qon (by rfl) (by rfl) ?_
                      refine hE.qpur (X.move hE rfl) fun a hE => ?_
                      refine WQ.join (ds := []) (N := 90) (σ := Bool) (fun s => [(87, (.bool s)), (1, (.pointer x1)), (15, (Sl.v x15)), (16, (.int .i64 (x15.len : Int))), (17, (.int .i64 x17)), (53, (.bool true))]) (fun s => V_ladingref09_Check_r8 Ret x17 Kl2 s w) 23 ?_ (fun hr8 => ?_)
                      · intro x87 a H hE
                        try dsimp only at H hE
                        unfold V_ladingref09_Check_r8 at H
                        refine hE.qpur (X.pickT hE rfl rfl) fun a hE => ?_
                        exact hr7 x87 _ H (hE.weak ⟨rfl, rfl, rfl, rfl, rfl, trivial⟩)
                      · rcases Bool.eq_false_or_eq_true ((!(sLt x60 x62 || decide (x60 = x62)))) with hbr8 | hbr8
                        · replace H := H.1 hbr8
                          replace hE := hE.bool (b := true) (t := 64) rfl (hbr8)
                          refine hE.qoff (by rfl) (by rfl) (by decide) (fun a hE => ?_)
                          refine hE.qoff (by rfl) (by rfl) (by decide) (fun a hE => ?_)
                          refine hE.qoff (by rfl) (by rfl) (by decide) (fun a hE => ?_)
                          refine hE.qoff (by rfl) (by rfl) (by decide) (fun a hE => ?_)
                          refine hE.qoff (by rfl) (by rfl) (by decide) (fun a hE => ?_)
                          refine hE.qoff (by rfl) (by rfl) (by decide) (fun a hE => ?_)
                          refine hE.qoff (by rfl) (by rfl) (by decide) (fun a hE => ?_)
                          refine hE.qoff (by rfl) (by rfl) (by decide) (fun a hE => ?_)
                          refine hE.qoff (by rfl) (by rfl) (by decide) (fun a hE => ?_)
                          refine hE.qoff (by rfl) (by rfl) (by decide) (fun a hE => ?_)
                          refine hE.qoff (by rfl) (by rfl) (by decide) (fun a hE => ?_)
                          refine hE.qoffU (by rfl) (by rfl) (fun a hE => ?_)
                          refine hE.qoffU (by rfl) (by rfl) (fun a hE => ?_)
                          refine hE.qoffU (by rfl) (by rfl) (fun a hE => ?_)
                          refine hE.qoffU (by rfl) (by rfl) (fun a hE => ?_)
                          refine hE.qoffU (by rfl) (by rfl) (fun a hE => ?_)
                          refine hE.qoffU (by rfl) (by rfl) (fun a hE => ?_)
                          refine hE.qoffU (by rfl) (by rfl) (fun a hE => ?_)
                          refine hE.qoffU (by rfl) (by rfl) (fun a hE => ?_)
                          refine hE.qoffU (by rfl) (by rfl) (fun a hE => ?_)
                          refine hE.qoffU (by rfl) (by rfl) (fun a hE => ?_)
                          refine hE.qoff (by rfl) (by rfl) (by decide) (fun a hE => ?_)
                          refine hE.qon (by rfl) (by rfl) ?_
                          refine hE.qpur (X.pickT hE rfl rfl) fun a hE => ?_
                          exact hr8 true _ H (hE.weak ⟨rfl, rfl, rfl, rfl, rfl, rfl, trivial⟩)
                        · replace H := H.2 hbr8
                          replace hE := hE.bool (b := false) (t := 64) rfl (hbr8)
                          refine hE.qon (by rfl) (by rfl) ?_
                          refine hE.qop (X.fieldAddr hE rfl) H fun x65 a H hE => ?_
                          refine hE.qon (by rfl) (by rfl) ?_
                          refine hE.qop (X.load hE rfl) H fun x66 a H hE => ?_
                          refine hE.qon (by rfl) (by rfl) ?_
                          refine hE.qpur (X.move hE rfl) fun a hE => ?_
                          refine hE.qon (by rfl) (by rfl) ?_
                          refine hE.qpur (X.sub hE rfl rfl) fun a hE => ?_
                          refine hE.qon (by rfl) (by rfl) ?_
                          refine hE.qop (X.indexAddr hE rfl rfl) H fun x69 a H hE => ?_
                          refine hE.qon (by rfl) (by rfl) ?_
                          refine hE.qop (X.fieldAddr hE rfl) H fun x70 a H hE => ?_
                          refine hE.qon (by rfl) (by rfl) ?_
                          refine hE.qop (X.load hE rfl) H fun x71 a H hE => ?_
                          refine hE.qon (by rfl) (by rfl) ?_
                          refine hE.qop (X.fieldAddr hE rfl) H fun x72 a H hE => ?_
                          refine hE.qon (by rfl) (by rfl) ?_
                          refine hE.qop (X.load hE rfl) H fun x73 a H hE => ?_
                          refine hE.qon (by rfl) (by rfl) ?_
                          refine hE.qpur (X.eqS hE rfl rfl) fun a hE => ?_
                          refine hE.qon (by rfl) (by rfl) ?_
                          refine hE.qpur (X.move hE rfl) fun a hE => ?_
                          refine WQ.join (ds := []) (N := 90) (σ := Bool) (fun s => [(86, (.bool s)), (1, (.pointer x1)), (15, (Sl.v x15)), (16, (.int .i64 (x15.len : Int))), (17, (.int .i64 x17)), (53, (.bool true)), (64, (.bool false))]) (fun s => V_ladingref09_Check_r9 Ret x17 Kl2 s w) 11 ?_ (fun hr9 => ?_)
                          · intro x86 a H hE
                            try dsimp only at H hE
                            unfold V_ladingref09_Check_r9 at H
                            refine hE.qon (by rfl) (by rfl) ?_
                            refine hE.qpur (X.pickF hE rfl rfl) fun a hE => ?_
                            exact hr8 x86 _ H (hE.weak ⟨rfl, rfl, rfl, rfl, rfl, rfl, trivial⟩)
                          · rcases Classical.em ((x71 = x73)) with hbr9 | hbr9
                            · replace H := H.1 hbr9
                              replace hE := hE.bool (b := true) (t := 75) rfl (decide_eq_true hbr9)
                              refine hE.qon (by rfl) (by rfl) ?_
                              refine hE.qop (X.fieldAddr hE rfl) H fun x76 a H hE => ?_
                              refine hE.qon (by rfl) (by rfl) ?_
                              refine hE.qop (X.load hE rfl) H fun x77 a H hE => ?_
                              refine hE.qon (by rfl) (by rfl) ?_
                              refine hE.qpur (X.move hE rfl) fun a hE => ?_
                              refine hE.qon (by rfl) (by rfl) ?_
                              refine hE.qpur (X.sub hE rfl rfl) fun a hE => ?_
                              refine hE.qon (by rfl) (by rfl) ?_
                              refine hE.qop (X.indexAddr hE rfl rfl) H fun x80 a H hE => ?_
                              refine hE.qon (by rfl) (by rfl) ?_
                              refine hE.qop (X.fieldAddr hE rfl) H fun x81 a H hE => ?_
                              refine hE.qon (by rfl) (by rfl) ?_
                              refine hE.qop (X.load hE rfl) H fun x82 a H hE => ?_
                              refine hE.qon (by rfl) (by rfl) ?_
                              refine hE.qop (X.fieldAddr hE rfl) H fun x83 a H hE => ?_
                              refine hE.qon (by rfl) (by rfl) ?_
                              refine hE.qop (X.load hE rfl) H fun x84 a H hE => ?_
                              refine hE.qon (by rfl) (by rfl) ?_
                              refine hE.qpur (X.geI hE rfl rfl) fun a hE => ?_
                              refine hE.qon (by rfl) (by rfl) ?_
                              refine hE.qpur (X.pickT hE rfl rfl) fun a hE => ?_
                              exact hr9 (decide (x84 ≤ x82)) _ H (hE.weak ⟨rfl, rfl, rfl, rfl, rfl, rfl, rfl, trivial⟩)
                            · replace H := H.2 hbr9
                              replace hE := hE.bool (b := false) (t := 75) rfl (decide_eq_false hbr9)
                              refine hE.qoff (by rfl) (by rfl) (by decide) (fun a hE => ?_)
                              refine hE.qoff (by rfl) (by rfl) (by decide) (fun a hE => ?_)
                              refine hE.qoff (by rfl) (by rfl) (by decide) (fun a hE => ?_)
                              refine hE.qoff (by rfl) (by rfl) (by decide) (fun a hE => ?_)
                              refine hE.qoff (by rfl) (by rfl) (by decide) (fun a hE => ?_)
                              refine hE.qoff (by rfl) (by rfl) (by decide) (fun a hE => ?_)
                              refine hE.qoff (by rfl) (by rfl) (by decide) (fun a hE => ?_)
                              refine hE.qoff (by rfl) (by rfl) (by decide) (fun a hE => ?_)
                              refine hE.qoff (by rfl) (by rfl) (by decide) (fun a hE => ?_)
                              refine hE.qoff (by rfl) (by rfl) (by decide) (fun a hE => ?_)
                              refine hE.qon (by rfl) (by rfl) ?_
                              refine hE.qpur (X.pickF hE rfl rfl) fun a hE => ?_
                              exact hr9 false _ H (hE.weak ⟨rfl, rfl, rfl, rfl, rfl, rfl, rfl, trivial⟩)
                    · replace H := H.2 hbr7
                      replace hE := hE.bool (b := false) (t := 53) rfl (decide_eq_false hbr7)
                      refine hE.qoff (by rfl) (by rfl) (by decide) (fun a hE => ?_)
                      refine hE.qoff (by rfl) (by rfl) (by decide) (fun a hE => ?_)
                      refine hE.qoff (by rfl) (by rfl) (by decide) (fun a hE => ?_)
                      refine hE.qoff (by rfl) (by rfl) (by decide) (fun a hE => ?_)
                      refine hE.qoff (by rfl) (by rfl) (by decide) (fun a hE => ?_)
                      refine hE.qoff (by rfl) (by rfl) (by decide) (fun a hE => ?_)
                      refine hE.qoff (by rfl) (by rfl) (by decide) (fun a hE => ?_)
                      refine hE.qoff (by rfl) (by rfl) (by decide) (fun a hE => ?_)
                      refine hE.qoff (by rfl) (by rfl) (by decide) (fun a hE => ?_)
                      refine hE.qoff (by rfl) (by rfl) (by decide) (fun a hE => ?_)
                      refine hE.qoff (by rfl) (by rfl) (by decide) (fun a hE => ?_)
                      refine hE.qoffU (by rfl) (by rfl) (fun a hE => ?_)
                      refine hE.qoffU (by rfl) (by rfl) (fun a hE => ?_)
                      refine hE.qoffU (by rfl) (by rfl) (fun a hE => ?_)
                      refine hE.qoffU (by rfl) (by rfl) (fun a hE => ?_)
                      refine hE.qoffU (by rfl) (by rfl) (fun a hE => ?_)
                      refine hE.qoffU (by rfl) (by rfl) (fun a hE => ?_)
                      refine hE.qoffU (by rfl) (by rfl) (fun a hE => ?_)
                      refine hE.qoffU (by rfl) (by rfl) (fun a hE => ?_)
                      refine hE.qoffU (by rfl) (by rfl) (fun a hE => ?_)
                      refine hE.qoffU (by rfl) (by rfl) (fun a hE => ?_)
                      refine hE.qoffU (by rfl) (by rfl) (fun a hE => ?_)
                      refine hE.qoffU (by rfl) (by rfl) (fun a hE => ?_)
                      refine hE.qoffU (by rfl) (by rfl) (fun a hE => ?_)
                      refine hE.qoffU (by rfl) (by rfl) (fun a hE => ?_)
                      refine hE.qoffU (by rfl) (by rfl) (fun a hE => ?_)
                      refine hE.qoffU (by rfl) (by rfl) (fun a hE => ?_)
                      refine hE.qoffU (by rfl) (by rfl) (fun a hE => ?_)
                      refine hE.qoffU (by rfl) (by rfl) (fun a hE => ?_)
                      refine hE.qoffU (by rfl) (by rfl) (fun a hE => ?_)
                      refine hE.qoffU (by rfl) (by rfl) (fun a hE => ?_)
                      refine hE.qoffU (by rfl) (by rfl) (fun a hE => ?_)
                      refine hE.qoffU (by rfl) (by rfl) (fun a hE => ?_)
                      refine hE.qoff (by rfl) (by rfl) (by decide) (fun a hE => ?_)
                      refine hE.qpur (X.pickF hE rfl rfl) fun a hE => ?_
                      exact hr7 false _ H (hE.weak ⟨rfl, rfl, rfl, rfl, rfl, trivial⟩)
              · rcases Bool.eq_false_or_eq_true (x44) with hbr6 | hbr6
                · replace H := H.1 hbr6
                  replace hE := hE.bool (b := true) (t := 45) rfl (hbr6)
                  refine hE.off (by rfl) (by rfl) (by decide) (fun a hE => ?_)
                  refine hE.off (by rfl) (by rfl) (by decide) (fun a hE => ?_)
                  refine hE.off (by rfl) (by rfl) (by decide) (fun a hE => ?_)
                  refine hE.off (by rfl) (by rfl) (by decide) (fun a hE => ?_)
                  refine hE.pur (X.pickT hE rfl rfl) fun a hE => ?_
                  exact hr6 true _ _ H (hE.weak ⟨rfl, rfl, rfl, rfl, rfl, rfl, rfl, trivial⟩)
                · replace H := H.2 hbr6
                  replace hE := hE.bool (b := false) (t := 45) rfl (hbr6)
                  refine hE.on (by rfl) (by rfl) ?_
                  refine hE.op (X.fieldAddr hE rfl) H fun x46 w a H hE => ?_
                  refine hE.on (by rfl) (by rfl) ?_
                  refine hE.op (X.load hE rfl) H fun x47 w a H hE => ?_
                  refine hE.on (by rfl) (by rfl) ?_
                  refine hE.purR (fun w => X.lenS hE Try.underlying9 rfl) fun a hE => ?_
                  refine hE.on (by rfl) (by rfl) ?_
                  refine hE.pur (X.gtI hE rfl rfl) fun a hE => ?_
                  refine hE.pur (X.pickF hE rfl rfl) fun a hE => ?_
                  exact hr6 (decide (512 < (x47.size : Int))) _ _ H (hE.weak ⟨rfl, rfl, rfl, rfl, rfl, rfl, rfl, trivial⟩)
            · rcases Bool.eq_false_or_eq_true (x38) with hbr5 | hbr5
              · replace H := H.1 hbr5
                replace hE := hE.bool (b := true) (t := 39) rfl (hbr5)
                refine hE.off (by rfl) (by rfl) (by decide) (fun a hE => ?_)
                refine hE.off (by rfl) (by rfl) (by decide) (fun a hE => ?_)
                refine hE.off (by rfl) (by rfl) (by decide) (fun a hE => ?_)
                refine hE.off (by rfl) (by rfl) (by decide) (fun a hE => ?_)
                refine hE.pur (X.pickT hE rfl rfl) fun a hE => ?_
                exact hr5 true _ _ H (hE.weak ⟨rfl, rfl, rfl, rfl, rfl, rfl, rfl, trivial⟩)
              · replace H := H.2 hbr5
                replace hE := hE.bool (b := false) (t := 39) rfl (hbr5)
                refine hE.on (by rfl) (by rfl) ?_
                refine hE.op (X.fieldAddr hE rfl) H fun x40 w a H hE => ?_
                refine hE.on (by rfl) (by rfl) ?_
                refine hE.op (X.load hE rfl) H fun x41 w a H hE => ?_
                refine hE.on (by rfl) (by rfl) ?_
                refine hE.purR (fun w => X.lenS hE Try.underlying9 rfl) fun a hE => ?_
                refine hE.on (by rfl) (by rfl) ?_
                refine hE.pur (X.gtI hE rfl rfl) fun a hE => ?_
                refine hE.pur (X.pickF hE rfl rfl) fun a hE => ?_
                exact hr5 (decide (256 < (x41.size : Int))) _ _ H (hE.weak ⟨rfl, rfl, rfl, rfl, rfl, rfl, rfl, trivial⟩)
          · rcases Bool.eq_false_or_eq_true (x29) with hbr4 | hbr4
            · replace H := H.1 hbr4
              replace hE := hE.bool (b := true) (t := 30) rfl (hbr4)
              refine hE.off (by rfl) (by rfl) (by decide) (fun a hE => ?_)
              refine hE.off (by rfl) (by rfl) (by decide) (fun a hE => ?_)
              refine hE.off (by rfl) (by rfl) (by decide) (fun a hE => ?_)
              refine hE.offU (by rfl) (by rfl) (fun a hE => ?_)
              refine hE.offU (by rfl) (by rfl) (fun a hE => ?_)
              refine hE.offU (by rfl) (by rfl) (fun a hE => ?_)
              refine hE.off (by rfl) (by rfl) (by decide) (fun a hE => ?_)
              refine hE.pur (X.pickT hE rfl rfl) fun a hE => ?_
              exact hr4 true _ _ H (hE.weak ⟨rfl, rfl, rfl, rfl, rfl, rfl, rfl, trivial⟩)
            · replace H := H.2 hbr4
              replace hE := hE.bool (b := false) (t := 30) rfl (hbr4)
              refine hE.on (by rfl) (by rfl) ?_
              refine hE.op (X.fieldAddr hE rfl) H fun x31 w a H hE => ?_
              refine hE.on (by rfl) (by rfl) ?_
              refine hE.op (X.load hE rfl) H fun x32 w a H hE => ?_
              refine hE.on (by rfl) (by rfl) ?_
              refine hE.pur (X.move hE rfl) fun a hE => ?_
              refine WL.join (ds := []) (N := 90) (σ := Bool) (fun s => [(37, (.bool s)), (1, (.pointer x1)), (3, (.int .i64 x17)), (4, (.pointer x4)), (15, (Sl.v x15)), (16, (.int .i64 (x15.len : Int))), (17, (.int .i64 x17)), (30, (.bool false))]) (fun s w => V_ladingref09_Check_r10 Ret x1 x17 Kl2 x4 s w) 4 ?_ (fun hr10 => ?_)
              · intro x37 w a H hE
                try dsimp only at H hE
                unfold V_ladingref09_Check_r10 at H
                refine hE.pur (X.pickF hE rfl rfl) fun a hE => ?_
                exact hr4 x37 _ _ H (hE.weak ⟨rfl, rfl, rfl, rfl, rfl, rfl, rfl, trivial⟩)
              · rcases Bool.eq_false_or_eq_true (x32) with hbr10 | hbr10
                · replace H := H.1 hbr10
                  replace hE := hE.bool (b := true) (t := 33) rfl (hbr10)
                  refine hE.on (by rfl) (by rfl) ?_
                  refine hE.op (X.fieldAddr hE rfl) H fun x34 w a H hE => ?_
                  refine hE.on (by rfl) (by rfl) ?_
                  refine hE.op (X.load hE rfl) H fun x35 w a H hE => ?_
                  refine hE.on (by rfl) (by rfl) ?_
                  refine hE.pur (X.neS hE rfl rfl) fun a hE => ?_
                  refine hE.on (by rfl) (by rfl) ?_
                  refine hE.pur (X.pickT hE rfl rfl) fun a hE => ?_
                  exact hr10 (decide (x35 ≠ (ByteArray.mk #[]))) _ _ H (hE.weak ⟨rfl, rfl, rfl, rfl, rfl, rfl, rfl, rfl, trivial⟩)
                · replace H := H.2 hbr10
                  replace hE := hE.bool (b := false) (t := 33) rfl (hbr10)
                  refine hE.off (by rfl) (by rfl) (by decide) (fun a hE => ?_)
                  refine hE.off (by rfl) (by rfl) (by decide) (fun a hE => ?_)
                  refine hE.off (by rfl) (by rfl) (by decide) (fun a hE => ?_)
                  refine hE.on (by rfl) (by rfl) ?_
                  refine hE.pur (X.pickF hE rfl rfl) fun a hE => ?_
                  exact hr10 false _ _ H (hE.weak ⟨rfl, rfl, rfl, rfl, rfl, rfl, rfl, rfl, trivial⟩)
        · rcases Classical.em ((x23 < 1)) with hbr3 | hbr3
          · replace H := H.1 hbr3
            replace hE := hE.bool (b := true) (t := 25) rfl (decide_eq_true hbr3)
            refine hE.off (by rfl) (by rfl) (by decide) (fun a hE => ?_)
            refine hE.off (by rfl) (by rfl) (by decide) (fun a hE => ?_)
            refine hE.off (by rfl) (by rfl) (by decide) (fun a hE => ?_)
            refine hE.pur (X.pickT hE rfl rfl) fun a hE => ?_
            exact hr3 true _ _ H (hE.weak ⟨rfl, rfl, rfl, rfl, rfl, rfl, rfl, trivial⟩)
          · replace H := H.2 hbr3
            replace hE := hE.bool (b := false) (t := 25) rfl (decide_eq_false hbr3)
            refine hE.on (by rfl) (by rfl) ?_
            refine hE.op (X.fieldAddr hE rfl) H fun x26 w a H hE => ?_
            refine hE.on (by rfl) (by rfl) ?_
            refine hE.op (X.load hE rfl) H fun x27 w a H hE => ?_
            refine hE.on (by rfl) (by rfl) ?_
            refine hE.pur (X.gtI hE rfl rfl) fun a hE => ?_
            refine hE.pur (X.pickF hE rfl rfl) fun a hE => ?_
            exact hr3 (decide (2305843009213693952 < x27)) _ _ H (hE.weak ⟨rfl, rfl, rfl, rfl, rfl, rfl, rfl, trivial⟩)
      · replace H := H.2 hc
        refine C.exit (te (te (be (tn ?_))))
        refine C.seq ?_
        refine C.region ?_
        refine hE.pur (X.assign hE rfl) fun a hE => ?_
        refine C.nil (tn ?_)
        exact C.ret (C.ret1 hE rfl rfl ⟨_, rfl, H⟩)
  · rcases Classical.em ((4096 < (x6.len : Int))) with hbr1 | hbr1
    · replace H := H.1 hbr1
      replace hE := hE.bool (b := true) (t := 9) rfl (decide_eq_true hbr1)
      refine hE.off (by rfl) (by rfl) (by decide) (fun a hE => ?_)
      refine hE.off (by rfl) (by rfl) (by decide) (fun a hE => ?_)
      refine hE.off (by rfl) (by rfl) (by decide) (fun a hE => ?_)
      refine hE.pur (X.pickT hE rfl rfl) fun a hE => ?_
      exact hr1 true _ _ H (hE.weak ⟨rfl, rfl, trivial⟩)
    · replace H := H.2 hbr1
      replace hE := hE.bool (b := false) (t := 9) rfl (decide_eq_false hbr1)
      refine hE.on (by rfl) (by rfl) ?_
      refine hE.op (X.fieldAddr hE rfl) H fun x10 w a H hE => ?_
      refine hE.on (by rfl) (by rfl) ?_
      refine hE.op (X.load hE rfl) H fun x11 w a H hE => ?_
      refine hE.on (by rfl) (by rfl) ?_
      refine hE.pur (X.gtI hE rfl rfl) fun a hE => ?_
      refine hE.pur (X.pickF hE rfl rfl) fun a hE => ?_
      exact hr1 (decide (2305843009213693952 < x11)) _ _ H (hE.weak ⟨rfl, rfl, trivial⟩)
/-! ### lading ladingref08.Same: function 25 -/
def V_ladingref08_Same_l1b (x0 : Sl) (x1 : Sl) (Ret : Bool → World → Prop) (x13 : Int) (w : World) (Kl1 : Int → World → Prop) : Prop :=
  ((x13 < (x0.len : Int)) → (opB Try.prog Value.pointer (Instr.indexAt 41 (Sl.v x0) (.int .i64 x13)) w (fun x18 => opB Try.prog T_api_Pair.v (Instr.loadAt 45 (.pointer x18)) w (fun x19 => opB Try.prog Value.pointer (Instr.indexAt 41 (Sl.v x1) (.int .i64 x13)) w (fun x22 => opB Try.prog T_api_Pair.v (Instr.loadAt 45 (.pointer x22)) w (fun x23 => opB Try.prog Value.bool (do eqGuard .neq 45 (.tmp 19) (.tmp 23) (T_api_Pair.v x19) (T_api_Pair.v x23); binOp .neq 45 (T_api_Pair.v x19) (T_api_Pair.v x23)) w (fun x24 => nextB w (fun w => (x24 = true → (Ret false w)) ∧ (x24 = false → (Kl1 (IntKind.wrap .i64 (x13 + 1)) w)))))))))) ∧ (¬ (x13 < (x0.len : Int)) → (Ret true w))
def V_ladingref08_Same (x0 : Sl) (x1 : Sl) (w : World) (Ret : Bool → World → Prop) : Prop :=
  (((x0.len : Int) ≠ (x1.len : Int)) → (Ret false w)) ∧ (¬ ((x0.len : Int) ≠ (x1.len : Int)) → (∃ (I : Int → World → Prop) (μ : Int → World → Nat), I 0 w ∧ ∀ (x13 : Int) w, I x13 w → V_ladingref08_Same_l1b x0 x1 Ret x13 w (fun x13' w' => I x13' w' ∧ μ x13' w' < μ x13 w)))
set_option maxRecDepth 100000 in
theorem L1_ladingref08_Same (x0 : Sl) (x1 : Sl) (w : World) (Ret : Bool → World → Prop) (H : V_ladingref08_Same x0 x1 w Ret) : Cl Try.prog 25 [(Sl.v x0), (Sl.v x1)].toArray w (fun e w' => ∃ (r0 : Bool), e = .returned (.bool r0) ∧ Ret r0 w') := by
  unfold V_ladingref08_Same at H
  refine C.enter 26 (zipE 0 [(Sl.v x0), (Sl.v x1)]) Try.func25 rfl rfl (by rfl) rfl ?_
  intro a hE
  replace hE : Sat [] 26 [(0, (Sl.v x0)), (1, (Sl.v x1))] a := hE
  refine C.seq ?_
  refine C.region ?_
  refine hE.pur (X.assign hE rfl) fun a hE => ?_
  refine C.nil (tn ?_)
  refine C.seq ?_
  refine C.seq ?_
  refine C.region ?_
  refine hE.pur (X.move hE rfl) fun a hE => ?_
  refine hE.purR (fun w => X.lenL hE Try.underlying41 rfl) fun a hE => ?_
  refine hE.pur (X.move hE rfl) fun a hE => ?_
  refine hE.purR (fun w => X.lenL hE Try.underlying41 rfl) fun a hE => ?_
  refine hE.pur (X.neI hE rfl rfl) fun a hE => ?_
  refine C.nil (tn ?_)
  refine C.condP hE rfl (fun hc => ?_) (fun hc => ?_)
  · replace H := H.1 hc
    refine C.seq ?_
    refine C.region ?_
    refine hE.pur (X.assign hE rfl) fun a hE => ?_
    refine C.nil (tn ?_)
    exact C.ret (tr (C.ret1 hE rfl rfl ⟨_, rfl, H⟩))
  · replace H := H.2 hc
    refine C.skip (tn ?_)
    refine C.seq ?_
    refine C.seq ?_
    refine C.region ?_
    refine hE.pur (X.move hE rfl) fun a hE => ?_
    refine hE.purR (fun w => X.lenL hE Try.underlying41 rfl) fun a hE => ?_
    refine hE.pur (X.move hE rfl) fun a hE => ?_
    refine C.nil (tn ?_)
    refine C.block ?_
    obtain ⟨I_l1, μ_l1, h0, hb⟩ := H
    refine C.loop (ds := []) (N := 26) (σ := Int) (fun s => [(13, (.int .i64 s)), (0, (Sl.v x0)), (1, (Sl.v x1)), (12, (.int .i64 (x0.len : Int)))]) (fun s w => I_l1 s w) (fun s w => μ_l1 s w) 0 h0 (hE.weak ⟨rfl, rfl, rfl, rfl, trivial⟩) ?_
    intro x13 w a hI hE
    try dsimp only at hI hE
    obtain ⟨Kl1, hK_l1⟩ : ∃ K : Int → World → Prop, K = (fun x13' w' => I_l1 x13' w' ∧ μ_l1 x13' w' < μ_l1 x13 w) := ⟨_, rfl⟩
    have H : V_ladingref08_Same_l1b x0 x1 Ret x13 w Kl1 := by rw [hK_l1]; exact hb x13 w hI
    clear hb h0 hI
    unfold V_ladingref08_Same_l1b at H
    refine C.seq ?_
    refine C.region ?_
    refine hE.pur (X.ltI hE rfl rfl) fun a hE => ?_
    refine C.nil (tn ?_)
    refine C.seq ?_
    refine C.condP hE rfl (fun hc => ?_) (fun hc => ?_)
    · replace H := H.1 hc
      refine C.skip (tn ?_)
      refine C.seq ?_
      refine C.block ?_
      refine C.seq ?_
      refine C.region ?_
      refine hE.pur (X.move hE rfl) fun a hE => ?_
      refine hE.pur (X.assign hE rfl) fun a hE => ?_
      refine C.nil (tn ?_)
      refine C.seq ?_
      refine C.draw (by kernel_rfl) (by kernel_rfl) ?_
      refine hE.qpur (X.move hE rfl) fun a hE => ?_
      refine hE.qpur (X.move hE rfl) fun a hE => ?_
      refine hE.qop (X.indexAddr hE rfl rfl) H fun x18 a H hE => ?_
      refine hE.qop (X.load hE rfl) H fun x19 a H hE => ?_
      refine hE.qpur (X.move hE rfl) fun a hE => ?_
      refine hE.qpur (X.move hE rfl) fun a hE => ?_
      refine hE.qop (X.indexAddr hE rfl rfl) H fun x22 a H hE => ?_
      refine hE.qop (X.load hE rfl) H fun x23 a H hE => ?_
      refine hE.qop (X.bin hE rfl rfl) H fun x24 a H hE => ?_
      refine C.qnil (fun w hB => ?_)
      replace H := H w hB
      refine (tn ?_)
      refine C.condB hE rfl (fun hc => ?_) (fun hc => ?_)
      · replace H := H.1 hc
        refine C.seq ?_
        refine C.region ?_
        refine hE.pur (X.assign hE rfl) fun a hE => ?_
        refine C.nil (tn ?_)
        exact C.ret (br (tr (tr (br (tr (C.ret1 hE rfl rfl ⟨_, rfl, H⟩))))))
      · replace H := H.2 hc
        refine C.skip (bn (tn ?_))
        refine C.region ?_
        refine hE.pur (X.add hE rfl rfl) fun a hE => ?_
        refine hE.pur (X.move hE rfl) fun a hE => ?_
        rw [hK_l1] at H
        exact C.nil (tn ⟨(IntKind.wrap .i64 (x13 + 1)), hE.weak ⟨rfl, rfl, rfl, rfl, trivial⟩, H⟩)
    · replace H := H.2 hc
      refine C.exit (te (te (be (tn ?_))))
      refine C.seq ?_
      refine C.region ?_
      refine hE.pur (X.assign hE rfl) fun a hE => ?_
      refine C.nil (tn ?_)
      exact C.ret (C.ret1 hE rfl rfl ⟨_, rfl, H⟩)
/-! ### lading ladingref08.Wrong: function 33 -/
def V_ladingref08_Wrong_r2 (Ret : Int → World → Prop) (x14 : Int) (Kl1 : Int → World → Prop) (x27 : Bool) (w : World) : Prop :=
  (x27 = true → (Ret 4 w)) ∧ (x27 = false → (Kl1 (IntKind.wrap .i64 (x14 + 1)) w))
def V_ladingref08_Wrong_l4b (Ret : Int → World → Prop) (x31 : Int) (Kl3 : Int → World → Prop) (x6 : Option Addr) (x38 : Sl) (x40 : Int) (w : World) (Kl4 : Int → World → Prop) : Prop :=
  ((x40 < (x38.len : Int)) → (opE Try.prog Value.pointer (Instr.indexAt 26 (Sl.v x38) (.int .i64 x40)) w (fun x42 w => opE Try.prog T_api_Write.v (Instr.loadAt 52 (.pointer x42)) w (fun x43 w => opE Try.prog Value.pointer (Instr.alloc 52 true (.tuple #[])) w (fun x8 w => opU Try.prog (Instr.storeAt 52 (.pointer x8) (T_api_Write.v x43)) w (fun w => opE Try.prog Value.pointer (Instr.fieldAt 52 (.pointer x8) 0) w (fun x44 w => opE Try.prog Value.string (Instr.loadAt 9 (.pointer x44)) w (fun x45 w => opE Try.prog Value.pointer (Instr.fieldAt 52 (.pointer x6) 0) w (fun x46 w => opE Try.prog Value.string (Instr.loadAt 9 (.pointer x46)) w (fun x47 w => ((x45 = x47) → (Ret 12 w)) ∧ (¬ (x45 = x47) → (Kl4 (IntKind.wrap .i64 (x40 + 1)) w)))))))))))) ∧ (¬ (x40 < (x38.len : Int)) → (Kl3 (IntKind.wrap .i64 (x31 + 1)) w))
def V_ladingref08_Wrong_l3b (x0 : Sl) (Ret : Int → World → Prop) (x31 : Int) (w : World) (Kl3 : Int → World → Prop) : Prop :=
  ((x31 < (x0.len : Int)) → (opE Try.prog Value.pointer (Instr.indexAt 26 (Sl.v x0) (.int .i64 x31)) w (fun x34 w => opE Try.prog T_api_Write.v (Instr.loadAt 52 (.pointer x34)) w (fun x35 w => opE Try.prog Value.pointer (Instr.alloc 52 true (.tuple #[])) w (fun x6 w => opU Try.prog (Instr.storeAt 52 (.pointer x6) (T_api_Write.v x35)) w (fun w => opE Try.prog Sl.v (Instr.sliceAt 26 (Sl.v x0) none (some (.int .i64 x31)) none) w (fun x38 w => ∃ (I : Int → World → Prop) (μ : Int → World → Nat), I 0 w ∧ ∀ (x40 : Int) w, I x40 w → V_ladingref08_Wrong_l4b Ret x31 Kl3 x6 x38 x40 w (fun x40' w' => I x40' w' ∧ μ x40' w' < μ x40 w)))))))) ∧ (¬ (x31 < (x0.len : Int)) → (Ret 0 w))
def V_ladingref08_Wrong_l1b (x0 : Sl) (Ret : Int → World → Prop) (x14 : Int) (w : World) (Kl1 : Int → World → Prop) : Prop :=
  ((x14 < (x0.len : Int)) → (opE Try.prog Value.pointer (Instr.indexAt 26 (Sl.v x0) (.int .i64 x14)) w (fun x16 w => opE Try.prog T_api_Write.v (Instr.loadAt 52 (.pointer x16)) w (fun x17 w => opE Try.prog Value.pointer (Instr.alloc 52 true (.tuple #[])) w (fun x4 w => opU Try.prog (Instr.storeAt 52 (.pointer x4) (T_api_Write.v x17)) w (fun w => opE Try.prog Value.pointer (Instr.fieldAt 52 (.pointer x4) 0) w (fun x18 w => opE Try.prog Value.string (Instr.loadAt 9 (.pointer x18)) w (fun x19 w => ((256 < (x19.size : Int)) → (V_ladingref08_Wrong_r2 Ret x14 Kl1 true w)) ∧ (¬ (256 < (x19.size : Int)) → (opE Try.prog Value.pointer (Instr.fieldAt 52 (.pointer x4) 1) w (fun x23 w => opE Try.prog Value.string (Instr.loadAt 9 (.pointer x23)) w (fun x24 w => V_ladingref08_Wrong_r2 Ret x14 Kl1 (decide (512 < (x24.size : Int))) w)))))))))))) ∧ (¬ (x14 < (x0.len : Int)) → (∃ (I : Int → World → Prop) (μ : Int → World → Nat), I 0 w ∧ ∀ (x31 : Int) w, I x31 w → V_ladingref08_Wrong_l3b x0 Ret x31 w (fun x31' w' => I x31' w' ∧ μ x31' w' < μ x31 w)))
def V_ladingref08_Wrong (x0 : Sl) (w : World) (Ret : Int → World → Prop) : Prop :=
  ((4096 < (x0.len : Int)) → (Ret 3 w)) ∧ (¬ (4096 < (x0.len : Int)) → (∃ (I : Int → World → Prop) (μ : Int → World → Nat), I 0 w ∧ ∀ (x14 : Int) w, I x14 w → V_ladingref08_Wrong_l1b x0 Ret x14 w (fun x14' w' => I x14' w' ∧ μ x14' w' < μ x14 w)))
set_option maxRecDepth 100000 in
theorem L1_ladingref08_Wrong (x0 : Sl) (w : World) (Ret : Int → World → Prop) (H : V_ladingref08_Wrong x0 w Ret) : Cl Try.prog 33 [(Sl.v x0)].toArray w (fun e w' => ∃ (r0 : Int), e = .returned (.int .i64 r0) ∧ Ret r0 w') := by
  unfold V_ladingref08_Wrong at H
  refine C.enter 51 (zipE 0 [(Sl.v x0)]) Try.func33 rfl rfl (by rfl) rfl ?_
  intro a hE
  replace hE : Sat [] 51 [(0, (Sl.v x0))] a := hE
  refine C.seq ?_
  refine C.region ?_
  refine hE.pur (X.assign hE rfl) fun a hE => ?_
  refine C.nil (tn ?_)
  refine C.seq ?_
  refine C.seq ?_
  refine C.region ?_
  refine hE.pur (X.move hE rfl) fun a hE => ?_
  refine hE.purR (fun w => X.lenL hE Try.underlying26 rfl) fun a hE => ?_
  refine hE.pur (X.gtI hE rfl rfl) fun a hE => ?_
  refine C.nil (tn ?_)
  refine C.condP hE rfl (fun hc => ?_) (fun hc => ?_)
  · replace H := H.1 hc
    refine C.seq ?_
    refine C.region ?_
    refine hE.pur (X.assign hE rfl) fun a hE => ?_
    refine C.nil (tn ?_)
    exact C.ret (tr (C.ret1 hE rfl rfl ⟨_, rfl, H⟩))
  · replace H := H.2 hc
    refine C.skip (tn ?_)
    refine C.seq ?_
    refine C.seq ?_
    refine C.region ?_
    refine hE.pur (X.move hE rfl) fun a hE => ?_
    refine hE.purR (fun w => X.lenL hE Try.underlying26 rfl) fun a hE => ?_
    refine hE.pur (X.move hE rfl) fun a hE => ?_
    refine C.nil (tn ?_)
    refine C.block ?_
    obtain ⟨I_l1, μ_l1, h0, hb⟩ := H
    refine C.loop (ds := []) (N := 51) (σ := Int) (fun s => [(14, (.int .i64 s)), (0, (Sl.v x0)), (12, (Sl.v x0)), (13, (.int .i64 (x0.len : Int)))]) (fun s w => I_l1 s w) (fun s w => μ_l1 s w) 0 h0 (hE.weak ⟨rfl, rfl, rfl, rfl, trivial⟩) ?_
    intro x14 w a hI hE
    try dsimp only at hI hE
    obtain ⟨Kl1, hK_l1⟩ : ∃ K : Int → World → Prop, K = (fun x14' w' => I_l1 x14' w' ∧ μ_l1 x14' w' < μ_l1 x14 w) := ⟨_, rfl⟩
    have H : V_ladingref08_Wrong_l1b x0 Ret x14 w Kl1 := by rw [hK_l1]; exact hb x14 w hI
    clear hb h0 hI
    unfold V_ladingref08_Wrong_l1b at H
    refine C.seq ?_
    refine C.region ?_
    refine hE.pur (X.ltI hE rfl rfl) fun a hE => ?_
    refine C.nil (tn ?_)
    refine C.seq ?_
    refine C.condP hE rfl (fun hc => ?_) (fun hc => ?_)
    · replace H := H.1 hc
      refine C.skip (tn ?_)
      refine C.seq ?_
      refine C.block ?_
      refine C.seq ?_
      refine C.region ?_
      refine hE.op (X.indexAddr hE rfl rfl) H fun x16 w a H hE => ?_
      refine hE.op (X.load hE rfl) H fun x17 w a H hE => ?_
      refine hE.op (X.alloc) H fun x4 w a H hE => ?_
      refine hE.opu (X.store hE rfl rfl) H fun w a H hE => ?_
      refine C.nil (tn ?_)
      refine C.seq ?_
      refine C.region ?_
      refine hE.op (X.fieldAddr hE rfl) H fun x18 w a H hE => ?_
      refine hE.op (X.load hE rfl) H fun x19 w a H hE => ?_
      refine hE.purR (fun w => X.lenS hE Try.underlying9 rfl) fun a hE => ?_
      refine hE.pur (X.gtI hE rfl rfl) fun a hE => ?_
      refine hE.pur (X.move hE rfl) fun a hE => ?_
      refine WL.join (ds := []) (N := 51) (σ := Bool) (fun s => [(27, (.bool s)), (0, (Sl.v x0)), (12, (Sl.v x0)), (13, (.int .i64 (x0.len : Int))), (14, (.int .i64 x14))]) (fun s w => V_ladingref08_Wrong_r2 Ret x14 Kl1 s w) 5 ?_ (fun hr2 => ?_)
      · intro x27 w a H hE
        try dsimp only at H hE
        unfold V_ladingref08_Wrong_r2 at H
        refine C.nil (tn ?_)
        refine C.condB hE rfl (fun hc => ?_) (fun hc => ?_)
        · replace H := H.1 hc
          refine C.seq ?_
          refine C.region ?_
          refine hE.pur (X.assign hE rfl) fun a hE => ?_
          refine C.nil (tn ?_)
          exact C.ret (br (tr (tr (br (tr (C.ret1 hE rfl rfl ⟨_, rfl, H⟩))))))
        · replace H := H.2 hc
          refine C.skip (bn (tn ?_))
          refine C.region ?_
          refine hE.pur (X.add hE rfl rfl) fun a hE => ?_
          refine hE.pur (X.move hE rfl) fun a hE => ?_
          rw [hK_l1] at H
          exact C.nil (tn ⟨(IntKind.wrap .i64 (x14 + 1)), hE.weak ⟨rfl, rfl, rfl, rfl, trivial⟩, H⟩)
      · rcases Classical.em ((256 < (x19.size : Int))) with hbr2 | hbr2
        · replace H := H.1 hbr2
          replace hE := hE.bool (b := true) (t := 22) rfl (decide_eq_true hbr2)
          refine hE.off (by rfl) (by rfl) (by decide) (fun a hE => ?_)
          refine hE.off (by rfl) (by rfl) (by decide) (fun a hE => ?_)
          refine hE.off (by rfl) (by rfl) (by decide) (fun a hE => ?_)
          refine hE.off (by rfl) (by rfl) (by decide) (fun a hE => ?_)
          refine hE.pur (X.pickT hE rfl rfl) fun a hE => ?_
          exact hr2 true _ _ H (hE.weak ⟨rfl, rfl, rfl, rfl, rfl, trivial⟩)
        · replace H := H.2 hbr2
          replace hE := hE.bool (b := false) (t := 22) rfl (decide_eq_false hbr2)
          refine hE.on (by rfl) (by rfl) ?_
          refine hE.op (X.fieldAddr hE rfl) H fun x23 w a H hE => ?_
          refine hE.on (by rfl) (by rfl) ?_
          refine hE.op (X.load hE rfl) H fun x24 w a H hE => ?_
          refine hE.on (by rfl) (by rfl) ?_
          refine hE.purR (fun w => X.lenS hE Try.underlying9 rfl) fun a hE => ?_
          refine hE.on (by rfl) (by rfl) ?_
          refine hE.pur (X.gtI hE rfl rfl) fun a hE => ?_
          refine hE.pur (X.pickF hE rfl rfl) fun a hE => ?_
          exact hr2 (decide (512 < (x24.size : Int))) _ _ H (hE.weak ⟨rfl, rfl, rfl, rfl, rfl, trivial⟩)
    · replace H := H.2 hc
      refine C.exit (te (te (be (tn ?_))))
      refine C.seq ?_
      refine C.seq ?_
      refine C.region ?_
      refine hE.pur (X.move hE rfl) fun a hE => ?_
      refine hE.purR (fun w => X.lenL hE Try.underlying26 rfl) fun a hE => ?_
      refine hE.pur (X.move hE rfl) fun a hE => ?_
      refine C.nil (tn ?_)
      refine C.block ?_
      obtain ⟨I_l3, μ_l3, h0, hb⟩ := H
      refine C.loop (ds := []) (N := 51) (σ := Int) (fun s => [(31, (.int .i64 s)), (0, (Sl.v x0)), (29, (Sl.v x0)), (30, (.int .i64 (x0.len : Int)))]) (fun s w => I_l3 s w) (fun s w => μ_l3 s w) 0 h0 (hE.weak ⟨rfl, rfl, rfl, rfl, trivial⟩) ?_
      intro x31 w a hI hE
      try dsimp only at hI hE
      obtain ⟨Kl3, hK_l3⟩ : ∃ K : Int → World → Prop, K = (fun x31' w' => I_l3 x31' w' ∧ μ_l3 x31' w' < μ_l3 x31 w) := ⟨_, rfl⟩
      have H : V_ladingref08_Wrong_l3b x0 Ret x31 w Kl3 := by rw [hK_l3]; exact hb x31 w hI
      clear hb h0 hI
      unfold V_ladingref08_Wrong_l3b at H
      refine C.seq ?_
      refine C.region ?_
      refine hE.pur (X.ltI hE rfl rfl) fun a hE => ?_
      refine C.nil (tn ?_)
      refine C.seq ?_
      refine C.condP hE rfl (fun hc => ?_) (fun hc => ?_)
      · replace H := H.1 hc
        refine C.skip (tn ?_)
        refine C.seq ?_
        refine C.block ?_
        refine C.seq ?_
        refine C.region ?_
        refine hE.pur (X.move hE rfl) fun a hE => ?_
        refine hE.op (X.indexAddr hE rfl rfl) H fun x34 w a H hE => ?_
        refine hE.op (X.load hE rfl) H fun x35 w a H hE => ?_
        refine hE.op (X.alloc) H fun x6 w a H hE => ?_
        refine hE.pur (X.assign hE rfl) fun a hE => ?_
        refine hE.opu (X.store hE rfl rfl) H fun w a H hE => ?_
        refine C.nil (tn ?_)
        refine C.seq ?_
        refine C.region ?_
        refine hE.pur (X.move hE rfl) fun a hE => ?_
        refine hE.pur (X.move hE rfl) fun a hE => ?_
        refine hE.op (X.slice hE rfl rfl rfl rfl) H fun x38 w a H hE => ?_
        refine hE.purR (fun w => X.lenL hE Try.underlying26 rfl) fun a hE => ?_
        refine hE.pur (X.move hE rfl) fun a hE => ?_
        refine C.nil (tn ?_)
        refine C.block ?_
        obtain ⟨I_l4, μ_l4, h0, hb⟩ := H
        refine C.loop (ds := []) (N := 51) (σ := Int) (fun s => [(40, (.int .i64 s)), (0, (Sl.v x0)), (6, (.pointer x6)), (29, (Sl.v x0)), (30, (.int .i64 (x0.len : Int))), (31, (.int .i64 x31)), (38, (Sl.v x38)), (39, (.int .i64 (x38.len : Int)))]) (fun s w => I_l4 s w) (fun s w => μ_l4 s w) 0 h0 (hE.weak ⟨rfl, rfl, rfl, rfl, rfl, rfl, rfl, rfl, trivial⟩) ?_
        intro x40 w a hI hE
        try dsimp only at hI hE
        obtain ⟨Kl4, hK_l4⟩ : ∃ K : Int → World → Prop, K = (fun x40' w' => I_l4 x40' w' ∧ μ_l4 x40' w' < μ_l4 x40 w) := ⟨_, rfl⟩
        have H : V_ladingref08_Wrong_l4b Ret x31 Kl3 x6 x38 x40 w Kl4 := by rw [hK_l4]; exact hb x40 w hI
        clear hb h0 hI
        unfold V_ladingref08_Wrong_l4b at H
        refine C.seq ?_
        refine C.region ?_
        refine hE.pur (X.ltI hE rfl rfl) fun a hE => ?_
        refine C.nil (tn ?_)
        refine C.seq ?_
        refine C.condP hE rfl (fun hc => ?_) (fun hc => ?_)
        · replace H := H.1 hc
          refine C.skip (tn ?_)
          refine C.seq ?_
          refine C.block ?_
          refine C.seq ?_
          refine C.region ?_
          refine hE.op (X.indexAddr hE rfl rfl) H fun x42 w a H hE => ?_
          refine hE.op (X.load hE rfl) H fun x43 w a H hE => ?_
          refine hE.op (X.alloc) H fun x8 w a H hE => ?_
          refine hE.opu (X.store hE rfl rfl) H fun w a H hE => ?_
          refine C.nil (tn ?_)
          refine C.seq ?_
          refine C.region ?_
          refine hE.op (X.fieldAddr hE rfl) H fun x44 w a H hE => ?_
          refine hE.op (X.load hE rfl) H fun x45 w a H hE => ?_
          refine hE.op (X.fieldAddr hE rfl) H fun x46 w a H hE => ?_
          refine hE.op (X.load hE rfl) H fun x47 w a H hE => ?_
          refine hE.pur (X.eqS hE rfl rfl) fun a hE => ?_
          refine C.nil (tn ?_)
          refine C.condP hE rfl (fun hc => ?_) (fun hc => ?_)
          · replace H := H.1 hc
            refine C.seq ?_
            refine C.region ?_
            refine hE.pur (X.assign hE rfl) fun a hE => ?_
            refine C.nil (tn ?_)
            exact C.ret (br (tr (tr (br (br (tr (tr (br (tr (C.ret1 hE rfl rfl ⟨_, rfl, H⟩))))))))))
          · replace H := H.2 hc
            refine C.skip (bn (tn ?_))
            refine C.region ?_
            refine hE.pur (X.add hE rfl rfl) fun a hE => ?_
            refine hE.pur (X.move hE rfl) fun a hE => ?_
            rw [hK_l4] at H
            exact C.nil (tn ⟨(IntKind.wrap .i64 (x40 + 1)), hE.weak ⟨rfl, rfl, rfl, rfl, rfl, rfl, rfl, rfl, trivial⟩, H⟩)
        · replace H := H.2 hc
          refine C.exit (te (te (be (bn (tn ?_)))))
          refine C.region ?_
          refine hE.pur (X.add hE rfl rfl) fun a hE => ?_
          refine hE.pur (X.move hE rfl) fun a hE => ?_
          rw [hK_l3] at H
          exact C.nil (tn ⟨(IntKind.wrap .i64 (x31 + 1)), hE.weak ⟨rfl, rfl, rfl, rfl, trivial⟩, H⟩)
      · replace H := H.2 hc
        refine C.exit (te (te (be (tn ?_))))
        refine C.seq ?_
        refine C.region ?_
        refine hE.pur (X.assign hE rfl) fun a hE => ?_
        refine C.nil (tn ?_)
        exact C.ret (C.ret1 hE rfl rfl ⟨_, rfl, H⟩)
/-! ### lading ladingref09.with: function 34 -/
def V_ladingref09_with_r2 (x0 : Sl) (Ret : Sl → World → Prop) (x3 : Option Addr) (x5 : Int) (Kl1 : Int → World → Prop) (x20 : Bool) (w : World) : Prop :=
  nextB w (fun w => (x20 = true → (Kl1 (IntKind.wrap .i64 (x5 + 1)) w)) ∧ (x20 = false → (opE Try.prog Sl.v (Instr.buildSlice 22 0 [].toArray) w (fun x23 w => opE Try.prog Sl.v (Instr.sliceAt 22 (Sl.v x0) none (some (.int .i64 x5)) none) w (fun x26 w => opE Try.prog Sl.v (Builtin.append_ #[22, 22] 22 [(Sl.v x23), (Sl.v x26)].toArray) w (fun x27 w => nextB w (fun w => opP Try.prog Sl.v (Instr.sliceAt 22 (Sl.v x0) (some (.int .i64 x5)) none none) (fun x34 => opE Try.prog T_api_Version.v (Instr.loadAt 37 (.pointer x3)) w (fun x29 w => opE Try.prog Sl.v (Instr.buildSlice 22 1 [(0, (T_api_Version.v x29))].toArray) w (fun x30 w => opE Try.prog Sl.v (Builtin.append_ #[22, 22] 22 [(Sl.v x27), (Sl.v x30)].toArray) w (fun x31 w => opE Try.prog Sl.v (Builtin.append_ #[22, 22] 22 [(Sl.v x31), (Sl.v x34)].toArray) w (fun x35 w => Ret x35 w))))))))))))
def V_ladingref09_with_l1b (x0 : Sl) (Ret : Sl → World → Prop) (x3 : Option Addr) (x5 : Int) (w : World) (Kl1 : Int → World → Prop) : Prop :=
  ((x5 < (x0.len : Int)) → (opB Try.prog Value.pointer (Instr.indexAt 22 (Sl.v x0) (.int .i64 x5)) w (fun x14 => opB Try.prog Value.pointer (Instr.fieldAt 37 (.pointer x14) 0) w (fun x15 => opB Try.prog Value.string (Instr.loadAt 9 (.pointer x15)) w (fun x16 => opB Try.prog Value.pointer (Instr.fieldAt 37 (.pointer x3) 0) w (fun x17 => opB Try.prog Value.string (Instr.loadAt 9 (.pointer x17)) w (fun x18 => V_ladingref09_with_r2 x0 Ret x3 x5 Kl1 (sLt x16 x18 || decide (x16 = x18)) w))))))) ∧ (¬ (x5 < (x0.len : Int)) → (V_ladingref09_with_r2 x0 Ret x3 x5 Kl1 false w))
def V_ladingref09_with (x0 : Sl) (x1 : T_api_Version) (w : World) (Ret : Sl → World → Prop) : Prop :=
  opE Try.prog Value.pointer (Instr.box 37 (T_api_Version.v x1)) w (fun x3 w => ∃ (I : Int → World → Prop) (μ : Int → World → Nat), I 0 w ∧ ∀ (x5 : Int) w, I x5 w → V_ladingref09_with_l1b x0 Ret x3 x5 w (fun x5' w' => I x5' w' ∧ μ x5' w' < μ x5 w))
set_option maxRecDepth 100000 in
theorem L1_ladingref09_with (x0 : Sl) (x1 : T_api_Version) (w : World) (Ret : Sl → World → Prop) (H : V_ladingref09_with x0 x1 w Ret) : Cl Try.prog 34 [(Sl.v x0), (T_api_Version.v x1)].toArray w (fun e w' => ∃ (r0 : Sl), e = .returned (Sl.v r0) ∧ Ret r0 w') := by
  unfold V_ladingref09_with at H
  refine C.enter 36 (zipE 0 [(Sl.v x0), (T_api_Version.v x1)]) Try.func34 rfl rfl (by rfl) rfl ?_
  intro a hE
  replace hE : Sat [] 36 [(0, (Sl.v x0)), (1, (T_api_Version.v x1))] a := hE
  refine C.seq ?_
  refine C.region ?_
  refine hE.op (X.box hE rfl) H fun x3 w a H hE => ?_
  refine hE.pur (X.assign hE rfl) fun a hE => ?_
  refine C.nil (tn ?_)
  refine C.seq ?_
  refine C.region ?_
  refine hE.pur (X.assign hE rfl) fun a hE => ?_
  refine C.nil (tn ?_)
  refine C.seq ?_
  refine C.block ?_
  obtain ⟨I_l1, μ_l1, h0, hb⟩ := H
  refine C.loop (ds := []) (N := 36) (σ := Int) (fun s => [(5, (.int .i64 s)), (0, (Sl.v x0)), (3, (.pointer x3))]) (fun s w => I_l1 s w) (fun s w => μ_l1 s w) 0 h0 (hE.weak ⟨rfl, rfl, rfl, trivial⟩) ?_
  intro x5 w a hI hE
  try dsimp only at hI hE
  obtain ⟨Kl1, hK_l1⟩ : ∃ K : Int → World → Prop, K = (fun x5' w' => I_l1 x5' w' ∧ μ_l1 x5' w' < μ_l1 x5 w) := ⟨_, rfl⟩
  have H : V_ladingref09_with_l1b x0 Ret x3 x5 w Kl1 := by rw [hK_l1]; exact hb x5 w hI
  clear hb h0 hI
  unfold V_ladingref09_with_l1b at H
  refine C.seq ?_
  refine C.seq ?_
  refine C.draw (by kernel_rfl) (by kernel_rfl) ?_
  refine hE.qpur (X.move hE rfl) fun a hE => ?_
  refine hE.qpur (X.move hE rfl) fun a hE => ?_
  refine hE.qpurR (fun w => X.lenL hE Try.underlying22 rfl) fun a hE => ?_
  refine hE.qpur (X.ltI hE rfl rfl) fun a hE => ?_
  refine hE.qpur (X.move hE rfl) fun a hE => ?_
  refine WQ.join (ds := []) (N := 36) (σ := Bool) (fun s => [(20, (.bool s)), (0, (Sl.v x0)), (3, (.pointer x3)), (5, (.int .i64 x5))]) (fun s => V_ladingref09_with_r2 x0 Ret x3 x5 Kl1 s w) 9 ?_ (fun hr2 => ?_)
  · intro x20 a H hE
    try dsimp only at H hE
    unfold V_ladingref09_with_r2 at H
    refine C.qnil (fun w hB => ?_)
    replace H := H w hB
    refine (tn ?_)
    refine C.condB hE rfl (fun hc => ?_) (fun hc => ?_)
    · replace H := H.1 hc
      refine C.skip (tn ?_)
      refine C.block ?_
      refine C.region ?_
      refine hE.pur (X.move hE rfl) fun a hE => ?_
      refine hE.pur (X.add hE rfl rfl) fun a hE => ?_
      refine hE.pur (X.assign hE rfl) fun a hE => ?_
      rw [hK_l1] at H
      exact C.nil (bn (tn ⟨(IntKind.wrap .i64 (x5 + 1)), hE.weak ⟨rfl, rfl, rfl, trivial⟩, H⟩))
    · replace H := H.2 hc
      refine C.exit (te (te (be (tn ?_))))
      refine C.seq ?_
      refine C.region ?_
      refine hE.op (X.buildSlice hE rfl) H fun x23 w a H hE => ?_
      refine hE.pur (X.move hE rfl) fun a hE => ?_
      refine hE.pur (X.move hE rfl) fun a hE => ?_
      refine hE.op (X.slice hE rfl rfl rfl rfl) H fun x26 w a H hE => ?_
      refine hE.op (X.append hE rfl) H fun x27 w a H hE => ?_
      refine hE.pur (X.assign hE rfl) fun a hE => ?_
      refine C.nil (tn ?_)
      refine C.seq ?_
      refine C.any 9 #[false, false, false, false, false, false, false, false, false] (by kernel_rfl) (fun w hB => ?_)
      replace H := H w hB
      refine hE.apur (i := 0) (fun _ _ _ _ _ h => h) (by kernel_rfl) rfl (by kernel_rfl) (by kernel_rfl) (by rfl) (l2 := #[true, false, false, false, false, false, false, false, false]) (pn_run (X.move hE rfl)) fun a hE => ?_
      refine hE.apur (i := 4) (fun _ _ _ _ _ h => h) (by kernel_rfl) rfl (by kernel_rfl) (by kernel_rfl) (by rfl) (l2 := #[true, false, false, false, true, false, false, false, false]) (pn_run (X.move hE rfl)) fun a hE => ?_
      refine hE.apur (i := 5) (fun _ _ _ _ _ h => h) (by kernel_rfl) rfl (by kernel_rfl) (by kernel_rfl) (by rfl) (l2 := #[true, false, false, false, true, true, false, false, false]) (pn_run (X.move hE rfl)) fun a hE => ?_
      refine hE.aop (i := 6) (fun _ _ _ _ _ h => h) (by kernel_rfl) rfl (by kernel_rfl) (by kernel_rfl) (by rfl) (l2 := #[true, false, false, false, true, true, true, false, false]) (X.slice hE rfl rfl rfl rfl) H fun x34 a H hE => ?_
      refine WA.one (i := 1) (l2 := #[true, true, false, false, true, true, true, false, false]) rfl (by kernel_rfl) (by rfl) ?_
      intro K hK
      refine hE.wop (X.load hE rfl) H fun x29 w a H hE => ?_
      refine hK _ _ ?_
      refine WA.one (i := 2) (l2 := #[true, true, true, false, true, true, true, false, false]) rfl (by kernel_rfl) (by rfl) ?_
      intro K hK
      refine hE.wop (X.buildSlice hE rfl) H fun x30 w a H hE => ?_
      refine hK _ _ ?_
      refine WA.one (i := 3) (l2 := #[true, true, true, true, true, true, true, false, false]) rfl (by kernel_rfl) (by rfl) ?_
      intro K hK
      refine hE.wop (X.append hE rfl) H fun x31 w a H hE => ?_
      refine hK _ _ ?_
      refine WA.one (i := 7) (l2 := #[true, true, true, true, true, true, true, true, false]) rfl (by kernel_rfl) (by rfl) ?_
      intro K hK
      refine hE.wop (X.append hE rfl) H fun x35 w a H hE => ?_
      refine hK _ _ ?_
      refine hE.apur (i := 8) (fun _ _ _ _ _ h => h) (by kernel_rfl) rfl (by kernel_rfl) (by kernel_rfl) (by rfl) (l2 := #[true, true, true, true, true, true, true, true, true]) (pn_run (X.assign hE rfl)) fun a hE => ?_
      refine WA.nil (by kernel_rfl) ?_
      refine (tn ?_)
      exact C.ret (C.ret1 hE rfl rfl ⟨_, rfl, H⟩)
  · rcases Classical.em ((x5 < (x0.len : Int))) with hbr2 | hbr2
    · replace H := H.1 hbr2
      replace hE := hE.bool (b := true) (t := 11) rfl (decide_eq_true hbr2)
      refine hE.qon (by rfl) (by rfl) ?_
      refine hE.qpur (X.move hE rfl) fun a hE => ?_
      refine hE.qon (by rfl) (by rfl) ?_
      refine hE.qpur (X.move hE rfl) fun a hE => ?_
      refine hE.qon (by rfl) (by rfl) ?_
      refine hE.qop (X.indexAddr hE rfl rfl) H fun x14 a H hE => ?_
      refine hE.qon (by rfl) (by rfl) ?_
      refine hE.qop (X.fieldAddr hE rfl) H fun x15 a H hE => ?_
      refine hE.qon (by rfl) (by rfl) ?_
      refine hE.qop (X.load hE rfl) H fun x16 a H hE => ?_
      refine hE.qon (by rfl) (by rfl) ?_
      refine hE.qop (X.fieldAddr hE rfl) H fun x17 a H hE => ?_
      refine hE.qon (by rfl) (by rfl) ?_
      refine hE.qop (X.load hE rfl) H fun x18 a H hE => ?_
      refine hE.qon (by rfl) (by rfl) ?_
      refine hE.qpur (X.leS hE rfl rfl) fun a hE => ?_
      refine hE.qpur (X.pickT hE rfl rfl) fun a hE => ?_
      exact hr2 (sLt x16 x18 || decide (x16 = x18)) _ H (hE.weak ⟨rfl, rfl, rfl, rfl, trivial⟩)
    · replace H := H.2 hbr2
      replace hE := hE.bool (b := false) (t := 11) rfl (decide_eq_false hbr2)
      refine hE.qoff (by rfl) (by rfl) (by decide) (fun a hE => ?_)
      refine hE.qoff (by rfl) (by rfl) (by decide) (fun a hE => ?_)
      refine hE.qoff (by rfl) (by rfl) (by decide) (fun a hE => ?_)
      refine hE.qoff (by rfl) (by rfl) (by decide) (fun a hE => ?_)
      refine hE.qoff (by rfl) (by rfl) (by decide) (fun a hE => ?_)
      refine hE.qoff (by rfl) (by rfl) (by decide) (fun a hE => ?_)
      refine hE.qoff (by rfl) (by rfl) (by decide) (fun a hE => ?_)
      refine hE.qoff (by rfl) (by rfl) (by decide) (fun a hE => ?_)
      refine hE.qpur (X.pickF hE rfl rfl) fun a hE => ?_
      exact hr2 false _ H (hE.weak ⟨rfl, rfl, rfl, rfl, trivial⟩)
/-! ### lading ladingref09.asked: function 38 -/
def V_ladingref09_asked_j1 (Ret : Int → World → Prop) (x5 : Int) (w : World) : Prop :=
  Ret x5 w
def V_ladingref09_asked_r2 (Ret : Int → World → Prop) (r : Int) (x15 : Bool) (w : World) : Prop :=
  (x15 = true → (V_ladingref09_asked_j1 Ret 9 w)) ∧ (x15 = false → (V_ladingref09_asked_j1 Ret r w))
def V_ladingref09_asked (x0 : T_api_Versions) (x1 : Int) (w : World) (Ret : Int → World → Prop) : Prop :=
  opE Try.prog Value.pointer (Instr.box 25 (T_api_Versions.v x0)) w (fun x2 w => opE Try.prog T_api_Versions.v (Instr.loadAt 25 (.pointer x2)) w (fun x6 w => Cl Try.prog 24 [(T_api_Versions.v x6)].toArray w (fun e w => ∃ (r : Int), e = .returned (.int .i64 r) ∧ (((r = 0) → (opE Try.prog Value.pointer (Instr.fieldAt 25 (.pointer x2) 1) w (fun x12 w => opE Try.prog (Value.int .u64) (Instr.loadAt 23 (.pointer x12)) w (fun x13 w => V_ladingref09_asked_r2 Ret r (decide (x1 < x13)) w)))) ∧ (¬ (r = 0) → (V_ladingref09_asked_r2 Ret r false w))))))
set_option maxRecDepth 100000 in
theorem L1_ladingref09_asked (x0 : T_api_Versions) (x1 : Int) (w : World) (Ret : Int → World → Prop) (H : V_ladingref09_asked x0 x1 w Ret) : Cl Try.prog 38 [(T_api_Versions.v x0), (.int .u64 x1)].toArray w (fun e w' => ∃ (r0 : Int), e = .returned (.int .i64 r0) ∧ Ret r0 w') := by
  unfold V_ladingref09_asked at H
  refine C.enter 17 (zipE 0 [(T_api_Versions.v x0), (.int .u64 x1)]) Try.func38 rfl rfl (by rfl) rfl ?_
  intro a hE
  replace hE : Sat [] 17 [(0, (T_api_Versions.v x0)), (1, (.int .u64 x1))] a := hE
  refine C.seq ?_
  refine C.region ?_
  refine hE.op (X.box hE rfl) H fun x2 w a H hE => ?_
  refine hE.pur (X.assign hE rfl) fun a hE => ?_
  refine C.nil (tn ?_)
  refine C.seq ?_
  refine C.region ?_
  refine hE.op (X.load hE rfl) H fun x6 w a H hE => ?_
  refine hE.call (X.callF hE ent24 rfl rfl) H fun e w H => ?_
  obtain ⟨r, rfl, H⟩ := H
  refine ⟨_, rfl, fun a hE => ?_⟩
  refine hE.pur (X.assign hE rfl) fun a hE => ?_
  refine C.nil (tn ?_)
  refine C.join (ds := []) (N := 17) (σ := Int) (fun s => [(5, (.int .i64 s))]) (fun s w => V_ladingref09_asked_j1 Ret s w) ?_ (fun hj1 => ?_)
  · intro x5 w a H hE
    try dsimp only at H hE
    unfold V_ladingref09_asked_j1 at H
    refine C.seq ?_
    refine C.region ?_
    refine hE.pur (X.move hE rfl) fun a hE => ?_
    refine hE.pur (X.assign hE rfl) fun a hE => ?_
    refine C.nil (tn ?_)
    exact C.ret (C.ret1 hE rfl rfl ⟨_, rfl, H⟩)
  · refine C.seq ?_
    refine C.region ?_
    refine hE.pur (X.move hE rfl) fun a hE => ?_
    refine hE.pur (X.eqI hE rfl rfl) fun a hE => ?_
    refine hE.pur (X.move hE rfl) fun a hE => ?_
    refine WL.join (ds := []) (N := 17) (σ := Bool) (fun s => [(15, (.bool s)), (5, (.int .i64 r))]) (fun s w => V_ladingref09_asked_r2 Ret r s w) 5 ?_ (fun hr2 => ?_)
    · intro x15 w a H hE
      try dsimp only at H hE
      unfold V_ladingref09_asked_r2 at H
      refine C.nil (tn ?_)
      refine C.condB hE rfl (fun hc => ?_) (fun hc => ?_)
      · replace H := H.1 hc
        refine C.region ?_
        refine hE.pur (X.assign hE rfl) fun a hE => ?_
        exact C.nil (tn (hj1 9 _ _ H (hE.weak ⟨rfl, trivial⟩)))
      · replace H := H.2 hc
        exact C.skip (tn (hj1 r _ _ H (hE.weak ⟨rfl, trivial⟩)))
    · rcases Classical.em ((r = 0)) with hbr2 | hbr2
      · replace H := H.1 hbr2
        replace hE := hE.bool (b := true) (t := 10) rfl (decide_eq_true hbr2)
        refine hE.on (by rfl) (by rfl) ?_
        refine hE.pur (X.move hE rfl) fun a hE => ?_
        refine hE.on (by rfl) (by rfl) ?_
        refine hE.op (X.fieldAddr hE rfl) H fun x12 w a H hE => ?_
        refine hE.on (by rfl) (by rfl) ?_
        refine hE.op (X.load hE rfl) H fun x13 w a H hE => ?_
        refine hE.on (by rfl) (by rfl) ?_
        refine hE.pur (X.ltI hE rfl rfl) fun a hE => ?_
        refine hE.pur (X.pickT hE rfl rfl) fun a hE => ?_
        exact hr2 (decide (x1 < x13)) _ _ H (hE.weak ⟨rfl, rfl, trivial⟩)
      · replace H := H.2 hbr2
        replace hE := hE.bool (b := false) (t := 10) rfl (decide_eq_false hbr2)
        refine hE.off (by rfl) (by rfl) (by decide) (fun a hE => ?_)
        refine hE.off (by rfl) (by rfl) (by decide) (fun a hE => ?_)
        refine hE.off (by rfl) (by rfl) (by decide) (fun a hE => ?_)
        refine hE.off (by rfl) (by rfl) (by decide) (fun a hE => ?_)
        refine hE.pur (X.pickF hE rfl rfl) fun a hE => ?_
        exact hr2 false _ _ H (hE.weak ⟨rfl, rfl, trivial⟩)
/-! ### lading ladingref09.seen: function 39 -/
def V_ladingref09_seen_j2 (x15 : Int) (Kl1 : ByteArray → Bool → Int → World → Prop) (x8_1 : ByteArray) (x9_1 : Bool) (w : World) : Prop :=
  Kl1 x8_1 x9_1 (IntKind.wrap .i64 (x15 + 1)) w
def V_ladingref09_seen_r3 (x8 : ByteArray) (x9 : Bool) (x15 : Int) (Kl1 : ByteArray → Bool → Int → World → Prop) (x11 : Option Addr) (x28 : Bool) (w : World) : Prop :=
  (x28 = true → (opB Try.prog Value.pointer (Instr.fieldAt 37 (.pointer x11) 2) w (fun x29 => opB Try.prog Value.string (Instr.loadAt 9 (.pointer x29)) w (fun x30 => opB Try.prog Value.pointer (Instr.fieldAt 37 (.pointer x11) 3) w (fun x31 => opB Try.prog Value.bool (Instr.loadAt 4 (.pointer x31)) w (fun x32 => nextB w (fun w => V_ladingref09_seen_j2 x15 Kl1 x30 (!x32) w))))))) ∧ (x28 = false → (V_ladingref09_seen_j2 x15 Kl1 x8 x9 w))
def V_ladingref09_seen_l1b (x1 : ByteArray) (x2 : Int) (Ret : ByteArray → Bool → World → Prop) (x13 : Sl) (x8 : ByteArray) (x9 : Bool) (x15 : Int) (w : World) (Kl1 : ByteArray → Bool → Int → World → Prop) : Prop :=
  ((x15 < (x13.len : Int)) → (opE Try.prog Value.pointer (Instr.indexAt 22 (Sl.v x13) (.int .i64 x15)) w (fun x17 w => opE Try.prog T_api_Version.v (Instr.loadAt 37 (.pointer x17)) w (fun x18 w => opE Try.prog Value.pointer (Instr.alloc 37 true (.tuple #[])) w (fun x11 w => opU Try.prog (Instr.storeAt 37 (.pointer x11) (T_api_Version.v x18)) w (fun w => opE Try.prog Value.pointer (Instr.fieldAt 37 (.pointer x11) 0) w (fun x19 w => opE Try.prog Value.string (Instr.loadAt 9 (.pointer x19)) w (fun x20 w => ((x20 = x1) → (opE Try.prog Value.pointer (Instr.fieldAt 37 (.pointer x11) 1) w (fun x24 w => opE Try.prog (Value.int .u64) (Instr.loadAt 23 (.pointer x24)) w (fun x25 w => V_ladingref09_seen_r3 x8 x9 x15 Kl1 x11 (decide (x25 ≤ x2)) w)))) ∧ (¬ (x20 = x1) → (V_ladingref09_seen_r3 x8 x9 x15 Kl1 x11 false w)))))))))) ∧ (¬ (x15 < (x13.len : Int)) → (Ret x8 x9 w))
def V_ladingref09_seen (x0 : T_api_Versions) (x1 : ByteArray) (x2 : Int) (w : World) (Ret : ByteArray → Bool → World → Prop) : Prop :=
  opE Try.prog Value.pointer (Instr.box 25 (T_api_Versions.v x0)) w (fun x3 w => opE Try.prog Value.pointer (Instr.fieldAt 25 (.pointer x3) 0) w (fun x12 w => opE Try.prog Sl.v (Instr.loadAt 22 (.pointer x12)) w (fun x13 w => ∃ (I : ByteArray → Bool → Int → World → Prop) (μ : ByteArray → Bool → Int → World → Nat), I (ByteArray.mk #[]) false 0 w ∧ ∀ (x8 : ByteArray) (x9 : Bool) (x15 : Int) w, I x8 x9 x15 w → V_ladingref09_seen_l1b x1 x2 Ret x13 x8 x9 x15 w (fun x8' x9' x15' w' => I x8' x9' x15' w' ∧ μ x8' x9' x15' w' < μ x8 x9 x15 w))))
set_option maxRecDepth 100000 in
theorem L1_ladingref09_seen (x0 : T_api_Versions) (x1 : ByteArray) (x2 : Int) (w : World) (Ret : ByteArray → Bool → World → Prop) (H : V_ladingref09_seen x0 x1 x2 w Ret) : Cl Try.prog 39 [(T_api_Versions.v x0), (.string x1), (.int .u64 x2)].toArray w (fun e w' => ∃ (r0 : ByteArray) (r1 : Bool), e = .returned (.tuple [(.string r0), (.bool r1)].toArray) ∧ Ret r0 r1 w') := by
  unfold V_ladingref09_seen at H
  refine C.enter 37 (zipE 0 [(T_api_Versions.v x0), (.string x1), (.int .u64 x2)]) Try.func39 rfl rfl (by rfl) rfl ?_
  intro a hE
  replace hE : Sat [] 37 [(0, (T_api_Versions.v x0)), (1, (.string x1)), (2, (.int .u64 x2))] a := hE
  refine C.seq ?_
  refine C.region ?_
  refine hE.op (X.box hE rfl) H fun x3 w a H hE => ?_
  refine hE.pur (X.assign hE rfl) fun a hE => ?_
  refine hE.pur (X.assign hE rfl) fun a hE => ?_
  refine C.nil (tn ?_)
  refine C.seq ?_
  refine C.region ?_
  refine hE.pur (X.assign hE rfl) fun a hE => ?_
  refine hE.pur (X.assign hE rfl) fun a hE => ?_
  refine C.nil (tn ?_)
  refine C.seq ?_
  refine C.seq ?_
  refine C.region ?_
  refine hE.op (X.fieldAddr hE rfl) H fun x12 w a H hE => ?_
  refine hE.op (X.load hE rfl) H fun x13 w a H hE => ?_
  refine hE.purR (fun w => X.lenL hE Try.underlying22 rfl) fun a hE => ?_
  refine hE.pur (X.move hE rfl) fun a hE => ?_
  refine C.nil (tn ?_)
  refine C.block ?_
  obtain ⟨I_l1, μ_l1, h0, hb⟩ := H
  refine C.loop (ds := []) (N := 37) (σ := ByteArray × Bool × Int) (fun s => [(8, (.string s.1)), (9, (.bool s.2.1)), (15, (.int .i64 s.2.2)), (1, (.string x1)), (2, (.int .u64 x2)), (13, (Sl.v x13)), (14, (.int .i64 (x13.len : Int)))]) (fun s w => I_l1 s.1 s.2.1 s.2.2 w) (fun s w => μ_l1 s.1 s.2.1 s.2.2 w) ((ByteArray.mk #[]), false, 0) h0 (hE.weak ⟨rfl, rfl, rfl, rfl, rfl, rfl, rfl, trivial⟩) ?_
  rintro ⟨x8, x9, x15⟩ w a hI hE
  try dsimp only at hI hE
  obtain ⟨Kl1, hK_l1⟩ : ∃ K : ByteArray → Bool → Int → World → Prop, K = (fun x8' x9' x15' w' => I_l1 x8' x9' x15' w' ∧ μ_l1 x8' x9' x15' w' < μ_l1 x8 x9 x15 w) := ⟨_, rfl⟩
  have H : V_ladingref09_seen_l1b x1 x2 Ret x13 x8 x9 x15 w Kl1 := by rw [hK_l1]; exact hb x8 x9 x15 w hI
  clear hb h0 hI
  unfold V_ladingref09_seen_l1b at H
  refine C.seq ?_
  refine C.region ?_
  refine hE.pur (X.ltI hE rfl rfl) fun a hE => ?_
  refine C.nil (tn ?_)
  refine C.seq ?_
  refine C.condP hE rfl (fun hc => ?_) (fun hc => ?_)
  · replace H := H.1 hc
    refine C.skip (tn ?_)
    refine C.join (ds := []) (N := 37) (σ := ByteArray × Bool) (fun s => [(8, (.string s.1)), (9, (.bool s.2)), (1, (.string x1)), (2, (.int .u64 x2)), (13, (Sl.v x13)), (14, (.int .i64 (x13.len : Int))), (15, (.int .i64 x15))]) (fun s w => V_ladingref09_seen_j2 x15 Kl1 s.1 s.2 w) ?_ (fun hj2 => ?_)
    · rintro ⟨x8_1, x9_1⟩ w a H hE
      try dsimp only at H hE
      unfold V_ladingref09_seen_j2 at H
      refine C.region ?_
      refine hE.pur (X.add hE rfl rfl) fun a hE => ?_
      refine hE.pur (X.move hE rfl) fun a hE => ?_
      rw [hK_l1] at H
      exact C.nil (tn ⟨(x8_1, x9_1, (IntKind.wrap .i64 (x15 + 1))), hE.weak ⟨rfl, rfl, rfl, rfl, rfl, rfl, rfl, trivial⟩, H⟩)
    · refine C.block ?_
      refine C.seq ?_
      refine C.region ?_
      refine hE.op (X.indexAddr hE rfl rfl) H fun x17 w a H hE => ?_
      refine hE.op (X.load hE rfl) H fun x18 w a H hE => ?_
      refine hE.op (X.alloc) H fun x11 w a H hE => ?_
      refine hE.opu (X.store hE rfl rfl) H fun w a H hE => ?_
      refine C.nil (tn ?_)
      refine C.seq ?_
      refine C.region ?_
      refine hE.op (X.fieldAddr hE rfl) H fun x19 w a H hE => ?_
      refine hE.op (X.load hE rfl) H fun x20 w a H hE => ?_
      refine hE.pur (X.move hE rfl) fun a hE => ?_
      refine hE.pur (X.eqS hE rfl rfl) fun a hE => ?_
      refine hE.pur (X.move hE rfl) fun a hE => ?_
      refine WL.join (ds := []) (N := 37) (σ := Bool) (fun s => [(28, (.bool s)), (1, (.string x1)), (2, (.int .u64 x2)), (8, (.string x8)), (9, (.bool x9)), (11, (.pointer x11)), (13, (Sl.v x13)), (14, (.int .i64 (x13.len : Int))), (15, (.int .i64 x15))]) (fun s w => V_ladingref09_seen_r3 x8 x9 x15 Kl1 x11 s w) 5 ?_ (fun hr3 => ?_)
      · intro x28 w a H hE
        try dsimp only at H hE
        unfold V_ladingref09_seen_r3 at H
        refine C.nil (tn ?_)
        refine C.condB hE rfl (fun hc => ?_) (fun hc => ?_)
        · replace H := H.1 hc
          refine C.draw (by kernel_rfl) (by kernel_rfl) ?_
          refine hE.qop (X.fieldAddr hE rfl) H fun x29 a H hE => ?_
          refine hE.qop (X.load hE rfl) H fun x30 a H hE => ?_
          refine hE.qop (X.fieldAddr hE rfl) H fun x31 a H hE => ?_
          refine hE.qop (X.load hE rfl) H fun x32 a H hE => ?_
          refine hE.qpur (X.not hE rfl) fun a hE => ?_
          refine hE.qpur (X.assign hE rfl) fun a hE => ?_
          refine hE.qpur (X.assign hE rfl) fun a hE => ?_
          refine C.qnil (fun w hB => ?_)
          replace H := H w hB
          exact (bn (tn (hj2 (x30, (!x32)) _ _ H (hE.weak ⟨rfl, rfl, rfl, rfl, rfl, rfl, rfl, trivial⟩))))
        · replace H := H.2 hc
          exact C.skip (bn (tn (hj2 (x8, x9) _ _ H (hE.weak ⟨rfl, rfl, rfl, rfl, rfl, rfl, rfl, trivial⟩))))
      · rcases Classical.em ((x20 = x1)) with hbr3 | hbr3
        · replace H := H.1 hbr3
          replace hE := hE.bool (b := true) (t := 23) rfl (decide_eq_true hbr3)
          refine hE.on (by rfl) (by rfl) ?_
          refine hE.op (X.fieldAddr hE rfl) H fun x24 w a H hE => ?_
          refine hE.on (by rfl) (by rfl) ?_
          refine hE.op (X.load hE rfl) H fun x25 w a H hE => ?_
          refine hE.on (by rfl) (by rfl) ?_
          refine hE.pur (X.move hE rfl) fun a hE => ?_
          refine hE.on (by rfl) (by rfl) ?_
          refine hE.pur (X.leI hE rfl rfl) fun a hE => ?_
          refine hE.pur (X.pickT hE rfl rfl) fun a hE => ?_
          exact hr3 (decide (x25 ≤ x2)) _ _ H (hE.weak ⟨rfl, rfl, rfl, rfl, rfl, rfl, rfl, rfl, rfl, trivial⟩)
        · replace H := H.2 hbr3
          replace hE := hE.bool (b := false) (t := 23) rfl (decide_eq_false hbr3)
          refine hE.off (by rfl) (by rfl) (by decide) (fun a hE => ?_)
          refine hE.off (by rfl) (by rfl) (by decide) (fun a hE => ?_)
          refine hE.off (by rfl) (by rfl) (by decide) (fun a hE => ?_)
          refine hE.off (by rfl) (by rfl) (by decide) (fun a hE => ?_)
          refine hE.pur (X.pickF hE rfl rfl) fun a hE => ?_
          exact hr3 false _ _ H (hE.weak ⟨rfl, rfl, rfl, rfl, rfl, rfl, rfl, rfl, rfl, trivial⟩)
  · replace H := H.2 hc
    refine C.exit (te (te (be (tn ?_))))
    refine C.seq ?_
    refine C.region ?_
    refine hE.pur (X.move hE rfl) fun a hE => ?_
    refine hE.pur (X.move hE rfl) fun a hE => ?_
    refine hE.pur (X.assign hE rfl) fun a hE => ?_
    refine hE.pur (X.assign hE rfl) fun a hE => ?_
    refine C.nil (tn ?_)
    exact C.ret (C.ret2 hE rfl rfl rfl ⟨_, _, rfl, H⟩)
end Go.Proofs.Ytealcoghiaeiiaa.VG
