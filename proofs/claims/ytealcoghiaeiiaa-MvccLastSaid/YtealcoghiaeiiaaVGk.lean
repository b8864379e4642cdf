/- Verification conditions, by program (gen.py), of functions of the loaded program, each with the proof that it gives the call; no condition. -/
import Derived.Test.YtealcoghiaeiiaaVS
import Derived.Test.YtealcoghiaeiiaaVOrd
set_option linter.unusedVariables false
set_option linter.unusedSimpArgs false
namespace Go.Proofs.Ytealcoghiaeiiaa.VG
open Go.VB Go.Proofs

/-! ### lading mvcc.keys: function 35 -/
def V_mvcc_keys (x0 : Sl) (w : World) (Ret : Value → World → Prop) : Prop :=
  opE Try.prog Value.pointer (Instr.box 22 (Sl.v x0)) w (fun x1 w => Ret (.func (.func 48) [].toArray [(.pointer x1)].toArray) w)
set_option maxRecDepth 100000 in
theorem L1_mvcc_keys (x0 : Sl) (w : World) (Ret : Value → World → Prop) (H : V_mvcc_keys x0 w Ret) : Cl Try.prog 35 [(Sl.v x0)].toArray w (fun e w' => ∃ (r0 : Value), e = .returned r0 ∧ Ret r0 w') := by
  unfold V_mvcc_keys at H
  refine C.enter 4 (zipE 0 [(Sl.v x0)]) Try.func35 rfl rfl (by rfl) rfl ?_
  intro a hE
  replace hE : Sat [] 4 [(0, (Sl.v x0))] a := hE
  refine C.seq ?_
  refine C.region ?_
  refine hE.op (X.box hE rfl) H fun x1 w a H hE => ?_
  refine hE.pur (X.assign hE rfl) fun a hE => ?_
  refine C.nil (tn ?_)
  refine C.seq ?_
  refine C.region ?_
  refine hE.pur (X.makeFunc hE rfl rfl) fun a hE => ?_
  refine hE.pur (X.assign hE rfl) fun a hE => ?_
  refine C.nil (tn ?_)
  exact C.ret (C.ret1 hE rfl rfl ⟨_, rfl, H⟩)
/-! ### lading mvcc.keys$1: function 48 -/
def V_mvcc_keys_1_r3 (x0 : Value) (x1 : Option Addr) (Ret : World → Prop) (x3 : Int) (Kl1 : Int → World → Prop) (x4 : Int) (Kl2 : Int → World → Prop) (x27 : Bool) (w : World) : Prop :=
  nextB w (fun w => (x27 = true → (Kl2 (IntKind.wrap .i64 (x4 + 1)) w)) ∧ (x27 = false → (nextB w (fun w => (opE Try.prog Sl.v (Instr.loadAt 22 (.pointer x1)) w (fun x31 w => opP Try.prog Value.pointer (Instr.indexAt 22 (Sl.v x31) (.int .i64 x3)) (fun x33 => opP Try.prog Value.pointer (Instr.fieldAt 37 (.pointer x33) 0) (fun x34 => (opE Try.prog Value.string (Instr.loadAt 9 (.pointer x34)) w (fun x35 w => opE Try.prog Sl.v (Instr.loadAt 22 (.pointer x1)) w (fun x36 w => opP Try.prog Sl.v (Instr.sliceAt 22 (Sl.v x36) (some (.int .i64 x3)) (some (.int .i64 x4)) none) (fun x39 => CallV Try.prog x0 [(.string x35), (Sl.v x39)] w (fun e w => ∃ (r : Bool), e = .returned (.bool r) ∧ (((!r) = true → (Ret  w)) ∧ ((!r) = false → (Kl1 x4 w)))))))) ∧ (opE Try.prog Sl.v (Instr.loadAt 22 (.pointer x1)) w (fun x36_1 w => opP Try.prog Sl.v (Instr.sliceAt 22 (Sl.v x36_1) (some (.int .i64 x3)) (some (.int .i64 x4)) none) (fun x39_1 => opE Try.prog Value.string (Instr.loadAt 9 (.pointer x34)) w (fun x35_1 w => CallV Try.prog x0 [(.string x35_1), (Sl.v x39_1)] w (fun e w => ∃ (r_1 : Bool), e = .returned (.bool r_1) ∧ (((!r_1) = true → (Ret  w)) ∧ ((!r_1) = false → (Kl1 x4 w)))))))))))) ∧ (opE Try.prog Sl.v (Instr.loadAt 22 (.pointer x1)) w (fun x36_2 w => opP Try.prog Sl.v (Instr.sliceAt 22 (Sl.v x36_2) (some (.int .i64 x3)) (some (.int .i64 x4)) none) (fun x39_2 => opE Try.prog Sl.v (Instr.loadAt 22 (.pointer x1)) w (fun x31_1 w => opP Try.prog Value.pointer (Instr.indexAt 22 (Sl.v x31_1) (.int .i64 x3)) (fun x33_1 => opP Try.prog Value.pointer (Instr.fieldAt 37 (.pointer x33_1) 0) (fun x34_1 => opE Try.prog Value.string (Instr.loadAt 9 (.pointer x34_1)) w (fun x35_2 w => CallV Try.prog x0 [(.string x35_2), (Sl.v x39_2)] w (fun e w => ∃ (r_2 : Bool), e = .returned (.bool r_2) ∧ (((!r_2) = true → (Ret  w)) ∧ ((!r_2) = false → (Kl1 x4 w)))))))))))))))
def V_mvcc_keys_1_l2b (x0 : Value) (x1 : Option Addr) (Ret : World → Prop) (x3 : Int) (Kl1 : Int → World → Prop) (x4 : Int) (w : World) (Kl2 : Int → World → Prop) : Prop :=
  opB Try.prog Sl.v (Instr.loadAt 22 (.pointer x1)) w (fun x12 => ((x4 < (x12.len : Int)) → (opB Try.prog Sl.v (Instr.loadAt 22 (.pointer x1)) w (fun x16 => opB Try.prog Value.pointer (Instr.indexAt 22 (Sl.v x16) (.int .i64 x4)) w (fun x18 => opB Try.prog Value.pointer (Instr.fieldAt 37 (.pointer x18) 0) w (fun x19 => opB Try.prog Value.string (Instr.loadAt 9 (.pointer x19)) w (fun x20 => opB Try.prog Sl.v (Instr.loadAt 22 (.pointer x1)) w (fun x21 => opB Try.prog Value.pointer (Instr.indexAt 22 (Sl.v x21) (.int .i64 x3)) w (fun x23 => opB Try.prog Value.pointer (Instr.fieldAt 37 (.pointer x23) 0) w (fun x24 => opB Try.prog Value.string (Instr.loadAt 9 (.pointer x24)) w (fun x25 => V_mvcc_keys_1_r3 x0 x1 Ret x3 Kl1 x4 Kl2 (decide (x20 = x25)) w)))))))))) ∧ (¬ (x4 < (x12.len : Int)) → (V_mvcc_keys_1_r3 x0 x1 Ret x3 Kl1 x4 Kl2 false w)))
def V_mvcc_keys_1_l1b (x0 : Value) (x1 : Option Addr) (Ret : World → Prop) (x3 : Int) (w : World) (Kl1 : Int → World → Prop) : Prop :=
  opE Try.prog Sl.v (Instr.loadAt 22 (.pointer x1)) w (fun x6 w => ((x3 < (x6.len : Int)) → (∃ (I : Int → World → Prop) (μ : Int → World → Nat), I (IntKind.wrap .i64 (x3 + 1)) w ∧ ∀ (x4 : Int) w, I x4 w → V_mvcc_keys_1_l2b x0 x1 Ret x3 Kl1 x4 w (fun x4' w' => I x4' w' ∧ μ x4' w' < μ x4 w))) ∧ (¬ (x3 < (x6.len : Int)) → (Ret  w)))
def V_mvcc_keys_1 (x0 : Value) (x1 : Option Addr) (w : World) (Ret : World → Prop) : Prop :=
  ∃ (I : Int → World → Prop) (μ : Int → World → Nat), I 0 w ∧ ∀ (x3 : Int) w, I x3 w → V_mvcc_keys_1_l1b x0 x1 Ret x3 w (fun x3' w' => I x3' w' ∧ μ x3' w' < μ x3 w)
set_option maxRecDepth 100000 in
theorem L1_mvcc_keys_1 (x0 : Value) (x1 : Option Addr) (w : World) (Ret : World → Prop) (H : V_mvcc_keys_1 x0 x1 w Ret) : Cl Try.prog 48 [x0, (.pointer x1)].toArray w (fun e w' => e = .returned (.tuple [].toArray) ∧ Ret  w') := by
  unfold V_mvcc_keys_1 at H
  refine C.enter 43 (zipE 0 [x0, (.pointer x1)]) Try.func48 rfl rfl (by rfl) rfl ?_
  intro a hE
  replace hE : Sat [] 43 [(0, x0), (1, (.pointer x1))] a := hE
  refine C.seq ?_
  refine C.region ?_
  refine hE.pur (X.assign hE rfl) fun a hE => ?_
  refine C.nil (tn ?_)
  refine C.block ?_
  obtain ⟨I_l1, μ_l1, h0, hb⟩ := H
  refine C.loop (ds := []) (N := 43) (σ := Int) (fun s => [(3, (.int .i64 s)), (0, x0), (1, (.pointer x1))]) (fun s w => I_l1 s w) (fun s w => μ_l1 s w) 0 h0 (hE.weak ⟨rfl, rfl, rfl, trivial⟩) ?_
  intro x3 w a hI hE
  try dsimp only at hI hE
  obtain ⟨Kl1, hK_l1⟩ : ∃ K : Int → World → Prop, K = (fun x3' w' => I_l1 x3' w' ∧ μ_l1 x3' w' < μ_l1 x3 w) := ⟨_, rfl⟩
  have H : V_mvcc_keys_1_l1b x0 x1 Ret x3 w Kl1 := by rw [hK_l1]; exact hb x3 w hI
  clear hb h0 hI
  unfold V_mvcc_keys_1_l1b at H
  refine C.seq ?_
  refine C.seq ?_
  refine C.region ?_
  refine hE.pur (X.move hE rfl) fun a hE => ?_
  refine hE.op (X.load hE rfl) H fun x6 w a H hE => ?_
  refine hE.purR (fun w => X.lenL hE Try.underlying22 rfl) fun a hE => ?_
  refine hE.pur (X.ltI hE rfl rfl) fun a hE => ?_
  refine C.nil (tn ?_)
  refine C.condP hE rfl (fun hc => ?_) (fun hc => ?_)
  · replace H := H.1 hc
    refine C.skip (tn ?_)
    refine C.block ?_
    refine C.seq ?_
    refine C.region ?_
    refine hE.pur (X.move hE rfl) fun a hE => ?_
    refine hE.pur (X.add hE rfl rfl) fun a hE => ?_
    refine hE.pur (X.assign hE rfl) fun a hE => ?_
    refine C.nil (tn ?_)
    refine C.seq ?_
    refine C.block ?_
    obtain ⟨I_l2, μ_l2, h0, hb⟩ := H
    refine C.loop (ds := []) (N := 43) (σ := Int) (fun s => [(4, (.int .i64 s)), (0, x0), (1, (.pointer x1)), (3, (.int .i64 x3))]) (fun s w => I_l2 s w) (fun s w => μ_l2 s w) (IntKind.wrap .i64 (x3 + 1)) h0 (hE.weak ⟨rfl, rfl, rfl, rfl, trivial⟩) ?_
    intro x4 w a hI hE
    try dsimp only at hI hE
    obtain ⟨Kl2, hK_l2⟩ : ∃ K : Int → World → Prop, K = (fun x4' w' => I_l2 x4' w' ∧ μ_l2 x4' w' < μ_l2 x4 w) := ⟨_, rfl⟩
    have H : V_mvcc_keys_1_l2b x0 x1 Ret x3 Kl1 x4 w Kl2 := by rw [hK_l2]; exact hb x4 w hI
    clear hb h0 hI
    unfold V_mvcc_keys_1_l2b at H
    refine C.seq ?_
    refine C.seq ?_
    refine C.draw (by kernel_rfl) (by kernel_rfl) ?_
    refine hE.qpur (X.move hE rfl) fun a hE => ?_
    refine hE.qop (X.load hE rfl) H fun x12 a H hE => ?_
    refine hE.qpurR (fun w => X.lenL hE Try.underlying22 rfl) fun a hE => ?_
    refine hE.qpur (X.ltI hE rfl rfl) fun a hE => ?_
    refine hE.qpur (X.move hE rfl) fun a hE => ?_
    refine WQ.join (ds := []) (N := 43) (σ := Bool) (fun s => [(27, (.bool s)), (0, x0), (1, (.pointer x1)), (3, (.int .i64 x3)), (4, (.int .i64 x4))]) (fun s => V_mvcc_keys_1_r3 x0 x1 Ret x3 Kl1 x4 Kl2 s w) 12 ?_ (fun hr3 => ?_)
    · intro x27 a H hE
      try dsimp only at H hE
      unfold V_mvcc_keys_1_r3 at H
      refine C.qnil (fun w hB => ?_)
      replace H := H w hB
      refine (tn ?_)
      refine C.condB hE rfl (fun hc => ?_) (fun hc => ?_)
      · replace H := H.1 hc
        refine C.skip (tn ?_)
        refine C.block ?_
        refine C.region ?_
        refine hE.pur (X.move hE rfl) fun a hE => ?_
        refine hE.pur (X.add hE rfl rfl) fun a hE => ?_
        refine hE.pur (X.assign hE rfl) fun a hE => ?_
        rw [hK_l2] at H
        exact C.nil (bn (tn ⟨(IntKind.wrap .i64 (x4 + 1)), hE.weak ⟨rfl, rfl, rfl, rfl, trivial⟩, H⟩))
      · replace H := H.2 hc
        refine C.exit (te (te (be (tn ?_))))
        refine C.seq ?_
        refine C.seq ?_
        refine C.any 12 #[false, false, false, false, false, false, false, false, false, false, false, false] (by kernel_rfl) (fun w hB => ?_)
        replace H := H w hB
        refine hE.apur (i := 0) (fun _ _ _ _ _ h => h) (by kernel_rfl) rfl (by kernel_rfl) (by kernel_rfl) (by rfl) (l2 := #[true, false, false, false, false, false, false, false, false, false, false, false]) (pn_run (X.move hE rfl)) fun a hE => ?_
        refine hE.apur (i := 2) (fun _ _ _ _ _ h => h) (by kernel_rfl) rfl (by kernel_rfl) (by kernel_rfl) (by rfl) (l2 := #[true, false, true, false, false, false, false, false, false, false, false, false]) (pn_run (X.move hE rfl)) fun a hE => ?_
        refine hE.apur (i := 7) (fun _ _ _ _ _ h => h) (by kernel_rfl) rfl (by kernel_rfl) (by kernel_rfl) (by rfl) (l2 := #[true, false, true, false, false, false, false, true, false, false, false, false]) (pn_run (X.move hE rfl)) fun a hE => ?_
        refine hE.apur (i := 8) (fun _ _ _ _ _ h => h) (by kernel_rfl) rfl (by kernel_rfl) (by kernel_rfl) (by rfl) (l2 := #[true, false, true, false, false, false, false, true, true, false, false, false]) (pn_run (X.move hE rfl)) fun a hE => ?_
        refine WA.two (i := 1) (j := 6) (l2 := #[true, true, true, false, false, false, false, true, true, false, false, false]) (l3 := #[true, false, true, false, false, false, true, true, true, false, false, false]) rfl rfl (by kernel_rfl) (by rfl) (by rfl) ?_ ?_
        · replace H := H.1
          intro K hK
          refine hE.wop (X.load hE rfl) H fun x31 w a H hE => ?_
          refine hK _ _ ?_
          refine hE.aop (i := 3) (fun _ _ _ _ _ h => h) (by kernel_rfl) rfl (by kernel_rfl) (by kernel_rfl) (by rfl) (l2 := #[true, true, true, true, false, false, false, true, true, false, false, false]) (X.indexAddr hE rfl rfl) H fun x33 a H hE => ?_
          refine hE.aop (i := 4) (fun _ _ _ _ _ h => h) (by kernel_rfl) rfl (by kernel_rfl) (by kernel_rfl) (by rfl) (l2 := #[true, true, true, true, true, false, false, true, true, false, false, false]) (X.fieldAddr hE rfl) H fun x34 a H hE => ?_
          refine WA.two (i := 5) (j := 6) (l2 := #[true, true, true, true, true, true, false, true, true, false, false, false]) (l3 := #[true, true, true, true, true, false, true, true, true, false, false, false]) rfl rfl (by kernel_rfl) (by rfl) (by rfl) ?_ ?_
          · replace H := H.1
            intro K hK
            refine hE.wop (X.load hE rfl) H fun x35 w a H hE => ?_
            refine hK _ _ ?_
            refine WA.one (i := 6) (l2 := #[true, true, true, true, true, true, true, true, true, false, false, false]) rfl (by kernel_rfl) (by rfl) ?_
            intro K hK
            refine hE.wop (X.load hE rfl) H fun x36 w a H hE => ?_
            refine hK _ _ ?_
            refine hE.aop (i := 9) (fun _ _ _ _ _ h => h) (by kernel_rfl) rfl (by kernel_rfl) (by kernel_rfl) (by rfl) (l2 := #[true, true, true, true, true, true, true, true, true, true, false, false]) (X.slice hE rfl rfl rfl rfl) H fun x39 a H hE => ?_
            refine WA.one (i := 10) (l2 := #[true, true, true, true, true, true, true, true, true, true, true, false]) rfl (by kernel_rfl) (by rfl) ?_
            intro K hK
            refine hE.wcallV rfl rfl H fun e w H => ?_
            obtain ⟨r, rfl, H⟩ := H
            refine ⟨_, rfl, fun a hE => ?_⟩
            refine hK _ _ ?_
            refine hE.apur (i := 11) (fun _ _ _ _ _ h => h) (by kernel_rfl) rfl (by kernel_rfl) (by kernel_rfl) (by rfl) (l2 := #[true, true, true, true, true, true, true, true, true, true, true, true]) (pn_run (X.not hE rfl)) fun a hE => ?_
            refine WA.nil (by kernel_rfl) ?_
            refine (tn ?_)
            refine C.condB hE rfl (fun hc => ?_) (fun hc => ?_)
            · replace H := H.1 hc
              exact C.ret (tr (br (tr (br (C.ret0 hE rfl ⟨rfl, H⟩)))))
            · replace H := H.2 hc
              refine C.skip (tn ?_)
              refine C.region ?_
              refine hE.pur (X.move hE rfl) fun a hE => ?_
              refine hE.pur (X.assign hE rfl) fun a hE => ?_
              rw [hK_l1] at H
              exact C.nil (bn (tn ⟨x4, hE.weak ⟨rfl, rfl, rfl, trivial⟩, H⟩))
          · replace H := H.2
            intro K hK
            refine hE.wop (X.load hE rfl) H fun x36_1 w a H hE => ?_
            refine hK _ _ ?_
            refine hE.aop (i := 9) (fun _ _ _ _ _ h => h) (by kernel_rfl) rfl (by kernel_rfl) (by kernel_rfl) (by rfl) (l2 := #[true, true, true, true, true, false, true, true, true, true, false, false]) (X.slice hE rfl rfl rfl rfl) H fun x39_1 a H hE => ?_
            refine WA.one (i := 5) (l2 := #[true, true, true, true, true, true, true, true, true, true, false, false]) rfl (by kernel_rfl) (by rfl) ?_
            intro K hK
            refine hE.wop (X.load hE rfl) H fun x35_1 w a H hE => ?_
            refine hK _ _ ?_
            refine WA.one (i := 10) (l2 := #[true, true, true, true, true, true, true, true, true, true, true, false]) rfl (by kernel_rfl) (by rfl) ?_
            intro K hK
            refine hE.wcallV rfl rfl H fun e w H => ?_
            obtain ⟨r_1, rfl, H⟩ := H
            refine ⟨_, rfl, fun a hE => ?_⟩
            refine hK _ _ ?_
            refine hE.apur (i := 11) (fun _ _ _ _ _ h => h) (by kernel_rfl) rfl (by kernel_rfl) (by kernel_rfl) (by rfl) (l2 := #[true, true, true, true, true, true, true, true, true, true, true, true]) (pn_run (X.not hE rfl)) fun a hE => ?_
            refine WA.nil (by kernel_rfl) ?_
            refine (tn ?_)
            refine C.condB hE rfl (fun hc => ?_) (fun hc => ?_)
            · replace H := H.1 hc
              exact C.ret (tr (br (tr (br (C.ret0 hE rfl ⟨rfl, H⟩)))))
            · replace H := H.2 hc
              refine C.skip (tn ?_)
              refine C.region ?_
              refine hE.pur (X.move hE rfl) fun a hE => ?_
              refine hE.pur (X.assign hE rfl) fun a hE => ?_
              rw [hK_l1] at H
              exact C.nil (bn (tn ⟨x4, hE.weak ⟨rfl, rfl, rfl, trivial⟩, H⟩))
        · replace H := H.2
          intro K hK
          refine hE.wop (X.load hE rfl) H fun x36_2 w a H hE => ?_
          refine hK _ _ ?_
          refine hE.aop (i := 9) (fun _ _ _ _ _ h => h) (by kernel_rfl) rfl (by kernel_rfl) (by kernel_rfl) (by rfl) (l2 := #[true, false, true, false, false, false, true, true, true, true, false, false]) (X.slice hE rfl rfl rfl rfl) H fun x39_2 a H hE => ?_
          refine WA.one (i := 1) (l2 := #[true, true, true, false, false, false, true, true, true, true, false, false]) rfl (by kernel_rfl) (by rfl) ?_
          intro K hK
          refine hE.wop (X.load hE rfl) H fun x31_1 w a H hE => ?_
          refine hK _ _ ?_
          refine hE.aop (i := 3) (fun _ _ _ _ _ h => h) (by kernel_rfl) rfl (by kernel_rfl) (by kernel_rfl) (by rfl) (l2 := #[true, true, true, true, false, false, true, true, true, true, false, false]) (X.indexAddr hE rfl rfl) H fun x33_1 a H hE => ?_
          refine hE.aop (i := 4) (fun _ _ _ _ _ h => h) (by kernel_rfl) rfl (by kernel_rfl) (by kernel_rfl) (by rfl) (l2 := #[true, true, true, true, true, false, true, true, true, true, false, false]) (X.fieldAddr hE rfl) H fun x34_1 a H hE => ?_
          refine WA.one (i := 5) (l2 := #[true, true, true, true, true, true, true, true, true, true, false, false]) rfl (by kernel_rfl) (by rfl) ?_
          intro K hK
          refine hE.wop (X.load hE rfl) H fun x35_2 w a H hE => ?_
          refine hK _ _ ?_
          refine WA.one (i := 10) (l2 := #[true, true, true, true, true, true, true, true, true, true, true, false]) rfl (by kernel_rfl) (by rfl) ?_
          intro K hK
          refine hE.wcallV rfl rfl H fun e w H => ?_
          obtain ⟨r_2, rfl, H⟩ := H
          refine ⟨_, rfl, fun a hE => ?_⟩
          refine hK _ _ ?_
          refine hE.apur (i := 11) (fun _ _ _ _ _ h => h) (by kernel_rfl) rfl (by kernel_rfl) (by kernel_rfl) (by rfl) (l2 := #[true, true, true, true, true, true, true, true, true, true, true, true]) (pn_run (X.not hE rfl)) fun a hE => ?_
          refine WA.nil (by kernel_rfl) ?_
          refine (tn ?_)
          refine C.condB hE rfl (fun hc => ?_) (fun hc => ?_)
          · replace H := H.1 hc
            exact C.ret (tr (br (tr (br (C.ret0 hE rfl ⟨rfl, H⟩)))))
          · replace H := H.2 hc
            refine C.skip (tn ?_)
            refine C.region ?_
            refine hE.pur (X.move hE rfl) fun a hE => ?_
            refine hE.pur (X.assign hE rfl) fun a hE => ?_
            rw [hK_l1] at H
            exact C.nil (bn (tn ⟨x4, hE.weak ⟨rfl, rfl, rfl, trivial⟩, H⟩))
    · rcases Classical.em ((x4 < (x12.len : Int))) with hbr3 | hbr3
      · replace H := H.1 hbr3
        replace hE := hE.bool (b := true) (t := 15) rfl (decide_eq_true hbr3)
        refine hE.qon (by rfl) (by rfl) ?_
        refine hE.qop (X.load hE rfl) H fun x16 a H hE => ?_
        refine hE.qon (by rfl) (by rfl) ?_
        refine hE.qpur (X.move hE rfl) fun a hE => ?_
        refine hE.qon (by rfl) (by rfl) ?_
        refine hE.qop (X.indexAddr hE rfl rfl) H fun x18 a H hE => ?_
        refine hE.qon (by rfl) (by rfl) ?_
        refine hE.qop (X.fieldAddr hE rfl) H fun x19 a H hE => ?_
        refine hE.qon (by rfl) (by rfl) ?_
        refine hE.qop (X.load hE rfl) H fun x20 a H hE => ?_
        refine hE.qon (by rfl) (by rfl) ?_
        refine hE.qop (X.load hE rfl) H fun x21 a H hE => ?_
        refine hE.qon (by rfl) (by rfl) ?_
        refine hE.qpur (X.move hE rfl) fun a hE => ?_
        refine hE.qon (by rfl) (by rfl) ?_
        refine hE.qop (X.indexAddr hE rfl rfl) H fun x23 a H hE => ?_
        refine hE.qon (by rfl) (by rfl) ?_
        refine hE.qop (X.fieldAddr hE rfl) H fun x24 a H hE => ?_
        refine hE.qon (by rfl) (by rfl) ?_
        refine hE.qop (X.load hE rfl) H fun x25 a H hE => ?_
        refine hE.qon (by rfl) (by rfl) ?_
        refine hE.qpur (X.eqS hE rfl rfl) fun a hE => ?_
        refine hE.qpur (X.pickT hE rfl rfl) fun a hE => ?_
        exact hr3 (decide (x20 = x25)) _ H (hE.weak ⟨rfl, rfl, rfl, rfl, rfl, trivial⟩)
      · replace H := H.2 hbr3
        replace hE := hE.bool (b := false) (t := 15) rfl (decide_eq_false hbr3)
        refine hE.qoff (by rfl) (by rfl) (by decide) (fun a hE => ?_)
        refine hE.qoff (by rfl) (by rfl) (by decide) (fun a hE => ?_)
        refine hE.qoff (by rfl) (by rfl) (by decide) (fun a hE => ?_)
        refine hE.qoff (by rfl) (by rfl) (by decide) (fun a hE => ?_)
        refine hE.qoff (by rfl) (by rfl) (by decide) (fun a hE => ?_)
        refine hE.qoff (by rfl) (by rfl) (by decide) (fun a hE => ?_)
        refine hE.qoff (by rfl) (by rfl) (by decide) (fun a hE => ?_)
        refine hE.qoff (by rfl) (by rfl) (by decide) (fun a hE => ?_)
        refine hE.qoff (by rfl) (by rfl) (by decide) (fun a hE => ?_)
        refine hE.qoff (by rfl) (by rfl) (by decide) (fun a hE => ?_)
        refine hE.qoff (by rfl) (by rfl) (by decide) (fun a hE => ?_)
        refine hE.qpur (X.pickF hE rfl rfl) fun a hE => ?_
        exact hr3 false _ H (hE.weak ⟨rfl, rfl, rfl, rfl, rfl, trivial⟩)
  · replace H := H.2 hc
    exact C.exit (te (te (be (C.end0 hE rfl ⟨rfl, H⟩))))
end Go.Proofs.Ytealcoghiaeiiaa.VG
