/- Verification conditions, by program (gen.py), of functions of the loaded program, each with the proof that it gives the call; no condition. -/
import Derived.Test.YtealcoghiaeiiaaVS
set_option linter.unusedVariables false
set_option linter.unusedSimpArgs false
namespace Go.Proofs.Ytealcoghiaeiiaa.VG
open Go.VB Go.Proofs

/-! ### slices.insertionSortCmpFunc[lading api.Version]: function 51 -/
def V_slices_insertionSortCmpFunc_api_Version_j4 (x9 : Int) (Kl2 : Int → World → Prop) (w : World) : Prop :=
  Kl2 (IntKind.wrap .i64 (x9 - 1)) w
def V_slices_insertionSortCmpFunc_api_Version_r3 (x0 : Sl) (x8 : Int) (Kl1 : Int → World → Prop) (x9 : Int) (Kl2 : Int → World → Prop) (x34 : Bool) (w : World) : Prop :=
  nextB w (fun w => (x34 = true → (nextB w (fun w => opP Try.prog Value.pointer (Instr.indexAt 22 (Sl.v x0) (.int .i64 (IntKind.wrap .i64 (x9 - 1)))) (fun x45 => opP Try.prog Value.pointer (Instr.indexAt 22 (Sl.v x0) (.int .i64 x9)) (fun x49 => (opE Try.prog T_api_Version.v (Instr.loadAt 37 (.pointer x45)) w (fun x46 w => opE Try.prog T_api_Version.v (Instr.loadAt 37 (.pointer x49)) w (fun x50 w => opP Try.prog Value.pointer (Instr.indexAt 22 (Sl.v x0) (.int .i64 x9)) (fun x51 => opU Try.prog (Instr.storeAt 37 (.pointer x51) (T_api_Version.v x46)) w (fun w => opP Try.prog Value.pointer (Instr.indexAt 22 (Sl.v x0) (.int .i64 (IntKind.wrap .i64 (x9 - 1)))) (fun x52 => opU Try.prog (Instr.storeAt 37 (.pointer x52) (T_api_Version.v x50)) w (fun w => V_slices_insertionSortCmpFunc_api_Version_j4 x9 Kl2 w))))))) ∧ (opE Try.prog T_api_Version.v (Instr.loadAt 37 (.pointer x49)) w (fun x50_1 w => opE Try.prog T_api_Version.v (Instr.loadAt 37 (.pointer x45)) w (fun x46_1 w => opP Try.prog Value.pointer (Instr.indexAt 22 (Sl.v x0) (.int .i64 x9)) (fun x51_1 => opU Try.prog (Instr.storeAt 37 (.pointer x51_1) (T_api_Version.v x46_1)) w (fun w => opP Try.prog Value.pointer (Instr.indexAt 22 (Sl.v x0) (.int .i64 (IntKind.wrap .i64 (x9 - 1)))) (fun x52_1 => opU Try.prog (Instr.storeAt 37 (.pointer x52_1) (T_api_Version.v x50_1)) w (fun w => V_slices_insertionSortCmpFunc_api_Version_j4 x9 Kl2 w)))))))))))) ∧ (x34 = false → (Kl1 (IntKind.wrap .i64 (x8 + 1)) w)))
def V_slices_insertionSortCmpFunc_api_Version_l2b (x0 : Sl) (x1 : Int) (x3 : Value) (x8 : Int) (Kl1 : Int → World → Prop) (x9 : Int) (w : World) (Kl2 : Int → World → Prop) : Prop :=
  ((x1 < x9) → (opB Try.prog Value.pointer (Instr.indexAt 22 (Sl.v x0) (.int .i64 x9)) w (fun x25 => opB Try.prog T_api_Version.v (Instr.loadAt 37 (.pointer x25)) w (fun x26 => opB Try.prog Value.pointer (Instr.indexAt 22 (Sl.v x0) (.int .i64 (IntKind.wrap .i64 (x9 - 1)))) w (fun x30 => opB Try.prog T_api_Version.v (Instr.loadAt 37 (.pointer x30)) w (fun x31 => ∃ (r : Int), CallQ Try.prog x3 [(T_api_Version.v x26), (T_api_Version.v x31)] w (.int .i64 r) ∧ (V_slices_insertionSortCmpFunc_api_Version_r3 x0 x8 Kl1 x9 Kl2 (decide (r < 0)) w))))))) ∧ (¬ (x1 < x9) → (V_slices_insertionSortCmpFunc_api_Version_r3 x0 x8 Kl1 x9 Kl2 false w))
def V_slices_insertionSortCmpFunc_api_Version_l1b (x0 : Sl) (x1 : Int) (x2 : Int) (x3 : Value) (Ret : World → Prop) (x8 : Int) (w : World) (Kl1 : Int → World → Prop) : Prop :=
  ((x8 < x2) → (∃ (I : Int → World → Prop) (μ : Int → World → Nat), I x8 w ∧ ∀ (x9 : Int) w, I x9 w → V_slices_insertionSortCmpFunc_api_Version_l2b x0 x1 x3 x8 Kl1 x9 w (fun x9' w' => I x9' w' ∧ μ x9' w' < μ x9 w))) ∧ (¬ (x8 < x2) → (Ret  w))
def V_slices_insertionSortCmpFunc_api_Version (x0 : Sl) (x1 : Int) (x2 : Int) (x3 : Value) (w : World) (Ret : World → Prop) : Prop :=
  ∃ (I : Int → World → Prop) (μ : Int → World → Nat), I (IntKind.wrap .i64 (x1 + 1)) w ∧ ∀ (x8 : Int) w, I x8 w → V_slices_insertionSortCmpFunc_api_Version_l1b x0 x1 x2 x3 Ret x8 w (fun x8' w' => I x8' w' ∧ μ x8' w' < μ x8 w)
set_option maxRecDepth 100000 in
theorem L1_slices_insertionSortCmpFunc_api_Version (x0 : Sl) (x1 : Int) (x2 : Int) (x3 : Value) (w : World) (Ret : World → Prop) (H : V_slices_insertionSortCmpFunc_api_Version x0 x1 x2 x3 w Ret) : Cl Try.prog 51 [(Sl.v x0), (.int .i64 x1), (.int .i64 x2), x3].toArray w (fun e w' => e = .returned (.tuple [].toArray) ∧ Ret  w') := by
  unfold V_slices_insertionSortCmpFunc_api_Version at H
  refine C.enter 53 (zipE 0 [(Sl.v x0), (.int .i64 x1), (.int .i64 x2), x3]) Try.func51 rfl rfl (by rfl) rfl ?_
  intro a hE
  replace hE : Sat [] 53 [(0, (Sl.v x0)), (1, (.int .i64 x1)), (2, (.int .i64 x2)), (3, x3)] a := hE
  refine C.seq ?_
  refine C.region ?_
  refine hE.pur (X.move hE rfl) fun a hE => ?_
  refine hE.pur (X.add hE rfl rfl) fun a hE => ?_
  refine hE.pur (X.assign hE rfl) fun a hE => ?_
  refine C.nil (tn ?_)
  refine C.block ?_
  obtain ⟨I_l1, μ_l1, h0, hb⟩ := H
  refine C.loop (ds := []) (N := 53) (σ := Int) (fun s => [(8, (.int .i64 s)), (0, (Sl.v x0)), (1, (.int .i64 x1)), (2, (.int .i64 x2)), (3, x3)]) (fun s w => I_l1 s w) (fun s w => μ_l1 s w) (IntKind.wrap .i64 (x1 + 1)) h0 (hE.weak ⟨rfl, rfl, rfl, rfl, rfl, trivial⟩) ?_
  intro x8 w a hI hE
  try dsimp only at hI hE
  obtain ⟨Kl1, hK_l1⟩ : ∃ K : Int → World → Prop, K = (fun x8' w' => I_l1 x8' w' ∧ μ_l1 x8' w' < μ_l1 x8 w) := ⟨_, rfl⟩
  have H : V_slices_insertionSortCmpFunc_api_Version_l1b x0 x1 x2 x3 Ret x8 w Kl1 := by rw [hK_l1]; exact hb x8 w hI
  clear hb h0 hI
  unfold V_slices_insertionSortCmpFunc_api_Version_l1b at H
  refine C.seq ?_
  refine C.seq ?_
  refine C.region ?_
  refine hE.pur (X.move hE rfl) fun a hE => ?_
  refine hE.pur (X.move hE rfl) fun a hE => ?_
  refine hE.pur (X.ltI hE rfl rfl) fun a hE => ?_
  refine C.nil (tn ?_)
  refine C.condP hE rfl (fun hc => ?_) (fun hc => ?_)
  · replace H := H.1 hc
    refine C.skip (tn ?_)
    refine C.seq ?_
    refine C.block ?_
    refine C.seq ?_
    refine C.region ?_
    refine hE.pur (X.move hE rfl) fun a hE => ?_
    refine hE.pur (X.assign hE rfl) fun a hE => ?_
    refine C.nil (tn ?_)
    refine C.block ?_
    obtain ⟨I_l2, μ_l2, h0, hb⟩ := H
    refine C.loop (ds := []) (N := 53) (σ := Int) (fun s => [(9, (.int .i64 s)), (0, (Sl.v x0)), (1, (.int .i64 x1)), (2, (.int .i64 x2)), (3, x3), (8, (.int .i64 x8))]) (fun s w => I_l2 s w) (fun s w => μ_l2 s w) x8 h0 (hE.weak ⟨rfl, rfl, rfl, rfl, rfl, rfl, trivial⟩) ?_
    intro x9 w a hI hE
    try dsimp only at hI hE
    obtain ⟨Kl2, hK_l2⟩ : ∃ K : Int → World → Prop, K = (fun x9' w' => I_l2 x9' w' ∧ μ_l2 x9' w' < μ_l2 x9 w) := ⟨_, rfl⟩
    have H : V_slices_insertionSortCmpFunc_api_Version_l2b x0 x1 x3 x8 Kl1 x9 w Kl2 := by rw [hK_l2]; exact hb x9 w hI
    clear hb h0 hI
    unfold V_slices_insertionSortCmpFunc_api_Version_l2b at H
    refine C.seq ?_
    refine C.seq ?_
    refine C.draw (by kernel_rfl) (by kernel_rfl) ?_
    refine hE.qpur (X.move hE rfl) fun a hE => ?_
    refine hE.qpur (X.move hE rfl) fun a hE => ?_
    refine hE.qpur (X.gtI hE rfl rfl) fun a hE => ?_
    refine hE.qpur (X.move hE rfl) fun a hE => ?_
    refine WQ.join (ds := []) (N := 53) (σ := Bool) (fun s => [(34, (.bool s)), (0, (Sl.v x0)), (1, (.int .i64 x1)), (2, (.int .i64 x2)), (3, x3), (8, (.int .i64 x8)), (9, (.int .i64 x9))]) (fun s => V_slices_insertionSortCmpFunc_api_Version_r3 x0 x8 Kl1 x9 Kl2 s w) 13 ?_ (fun hr3 => ?_)
    · intro x34 a H hE
      try dsimp only at H hE
      unfold V_slices_insertionSortCmpFunc_api_Version_r3 at H
      refine C.qnil (fun w hB => ?_)
      replace H := H w hB
      refine (tn ?_)
      refine C.condB hE rfl (fun hc => ?_) (fun hc => ?_)
      · replace H := H.1 hc
        refine C.skip (tn ?_)
        refine C.join (ds := []) (N := 53) (σ := Unit) (fun s => [(0, (Sl.v x0)), (1, (.int .i64 x1)), (2, (.int .i64 x2)), (3, x3), (8, (.int .i64 x8)), (9, (.int .i64 x9))]) (fun s w => V_slices_insertionSortCmpFunc_api_Version_j4 x9 Kl2  w) ?_ (fun hj4 => ?_)
        · rintro ⟨⟩ w a H hE
          try dsimp only at H hE
          unfold V_slices_insertionSortCmpFunc_api_Version_j4 at H
          refine C.region ?_
          refine hE.pur (X.move hE rfl) fun a hE => ?_
          refine hE.pur (X.sub hE rfl rfl) fun a hE => ?_
          refine hE.pur (X.assign hE rfl) fun a hE => ?_
          rw [hK_l2] at H
          exact C.nil (tn ⟨(IntKind.wrap .i64 (x9 - 1)), hE.weak ⟨rfl, rfl, rfl, rfl, rfl, rfl, trivial⟩, H⟩)
        · refine C.block ?_
          refine C.any 18 #[false, false, false, false, false, false, false, false, false, false, false, false, false, false, false, false, false, false] (by kernel_rfl) (fun w hB => ?_)
          replace H := H w hB
          refine hE.apur (i := 0) (fun _ _ _ _ _ h => h) (by kernel_rfl) rfl (by kernel_rfl) (by kernel_rfl) (by rfl) (l2 := #[true, false, false, false, false, false, false, false, false, false, false, false, false, false, false, false, false, false]) (pn_run (X.move hE rfl)) fun a hE => ?_
          refine hE.apur (i := 1) (fun _ _ _ _ _ h => h) (by kernel_rfl) rfl (by kernel_rfl) (by kernel_rfl) (by rfl) (l2 := #[true, true, false, false, false, false, false, false, false, false, false, false, false, false, false, false, false, false]) (pn_run (X.move hE rfl)) fun a hE => ?_
          refine hE.apur (i := 2) (fun _ _ _ _ _ h => h) (by kernel_rfl) rfl (by kernel_rfl) (by kernel_rfl) (by rfl) (l2 := #[true, true, true, false, false, false, false, false, false, false, false, false, false, false, false, false, false, false]) (pn_run (X.move hE rfl)) fun a hE => ?_
          refine hE.apur (i := 3) (fun _ _ _ _ _ h => h) (by kernel_rfl) rfl (by kernel_rfl) (by kernel_rfl) (by rfl) (l2 := #[true, true, true, true, false, false, false, false, false, false, false, false, false, false, false, false, false, false]) (pn_run (X.move hE rfl)) fun a hE => ?_
          refine hE.apur (i := 4) (fun _ _ _ _ _ h => h) (by kernel_rfl) rfl (by kernel_rfl) (by kernel_rfl) (by rfl) (l2 := #[true, true, true, true, true, false, false, false, false, false, false, false, false, false, false, false, false, false]) (pn_run (X.sub hE rfl rfl)) fun a hE => ?_
          refine hE.apur (i := 5) (fun _ _ _ _ _ h => h) (by kernel_rfl) rfl (by kernel_rfl) (by kernel_rfl) (by rfl) (l2 := #[true, true, true, true, true, true, false, false, false, false, false, false, false, false, false, false, false, false]) (pn_run (X.move hE rfl)) fun a hE => ?_
          refine hE.apur (i := 6) (fun _ _ _ _ _ h => h) (by kernel_rfl) rfl (by kernel_rfl) (by kernel_rfl) (by rfl) (l2 := #[true, true, true, true, true, true, true, false, false, false, false, false, false, false, false, false, false, false]) (pn_run (X.move hE rfl)) fun a hE => ?_
          refine hE.apur (i := 7) (fun _ _ _ _ _ h => h) (by kernel_rfl) rfl (by kernel_rfl) (by kernel_rfl) (by rfl) (l2 := #[true, true, true, true, true, true, true, true, false, false, false, false, false, false, false, false, false, false]) (pn_run (X.sub hE rfl rfl)) fun a hE => ?_
          refine hE.aop (i := 8) (fun _ _ _ _ _ h => h) (by kernel_rfl) rfl (by kernel_rfl) (by kernel_rfl) (by rfl) (l2 := #[true, true, true, true, true, true, true, true, true, false, false, false, false, false, false, false, false, false]) (X.indexAddr hE rfl rfl) H fun x45 a H hE => ?_
          refine hE.apur (i := 10) (fun _ _ _ _ _ h => h) (by kernel_rfl) rfl (by kernel_rfl) (by kernel_rfl) (by rfl) (l2 := #[true, true, true, true, true, true, true, true, true, false, true, false, false, false, false, false, false, false]) (pn_run (X.move hE rfl)) fun a hE => ?_
          refine hE.apur (i := 11) (fun _ _ _ _ _ h => h) (by kernel_rfl) rfl (by kernel_rfl) (by kernel_rfl) (by rfl) (l2 := #[true, true, true, true, true, true, true, true, true, false, true, true, false, false, false, false, false, false]) (pn_run (X.move hE rfl)) fun a hE => ?_
          refine hE.aop (i := 12) (fun _ _ _ _ _ h => h) (by kernel_rfl) rfl (by kernel_rfl) (by kernel_rfl) (by rfl) (l2 := #[true, true, true, true, true, true, true, true, true, false, true, true, true, false, false, false, false, false]) (X.indexAddr hE rfl rfl) H fun x49 a H hE => ?_
          refine WA.two (i := 9) (j := 13) (l2 := #[true, true, true, true, true, true, true, true, true, true, true, true, true, false, false, false, false, false]) (l3 := #[true, true, true, true, true, true, true, true, true, false, true, true, true, true, false, false, false, false]) rfl rfl (by kernel_rfl) (by rfl) (by rfl) ?_ ?_
          · replace H := H.1
            intro K hK
            refine hE.wop (X.load hE rfl) H fun x46 w a H hE => ?_
            refine hK _ _ ?_
            refine WA.one (i := 13) (l2 := #[true, true, true, true, true, true, true, true, true, true, true, true, true, true, false, false, false, false]) rfl (by kernel_rfl) (by rfl) ?_
            intro K hK
            refine hE.wop (X.load hE rfl) H fun x50 w a H hE => ?_
            refine hK _ _ ?_
            refine hE.aop (i := 14) (fun _ _ _ _ _ h => h) (by kernel_rfl) rfl (by kernel_rfl) (by kernel_rfl) (by rfl) (l2 := #[true, true, true, true, true, true, true, true, true, true, true, true, true, true, true, false, false, false]) (X.indexAddr hE rfl rfl) H fun x51 a H hE => ?_
            refine WA.one (i := 15) (l2 := #[true, true, true, true, true, true, true, true, true, true, true, true, true, true, true, true, false, false]) rfl (by kernel_rfl) (by rfl) ?_
            intro K hK
            refine hE.wopu (X.store hE rfl rfl) H fun w a H hE => ?_
            refine hK _ _ ?_
            refine hE.aop (i := 16) (fun _ _ _ _ _ h => h) (by kernel_rfl) rfl (by kernel_rfl) (by kernel_rfl) (by rfl) (l2 := #[true, true, true, true, true, true, true, true, true, true, true, true, true, true, true, true, true, false]) (X.indexAddr hE rfl rfl) H fun x52 a H hE => ?_
            refine WA.one (i := 17) (l2 := #[true, true, true, true, true, true, true, true, true, true, true, true, true, true, true, true, true, true]) rfl (by kernel_rfl) (by rfl) ?_
            intro K hK
            refine hE.wopu (X.store hE rfl rfl) H fun w a H hE => ?_
            refine hK _ _ ?_
            refine WA.nil (by kernel_rfl) ?_
            exact (bn (tn (hj4 () _ _ H (hE.weak ⟨rfl, rfl, rfl, rfl, rfl, rfl, trivial⟩))))
          · replace H := H.2
            intro K hK
            refine hE.wop (X.load hE rfl) H fun x50_1 w a H hE => ?_
            refine hK _ _ ?_
            refine WA.one (i := 9) (l2 := #[true, true, true, true, true, true, true, true, true, true, true, true, true, true, false, false, false, false]) rfl (by kernel_rfl) (by rfl) ?_
            intro K hK
            refine hE.wop (X.load hE rfl) H fun x46_1 w a H hE => ?_
            refine hK _ _ ?_
            refine hE.aop (i := 14) (fun _ _ _ _ _ h => h) (by kernel_rfl) rfl (by kernel_rfl) (by kernel_rfl) (by rfl) (l2 := #[true, true, true, true, true, true, true, true, true, true, true, true, true, true, true, false, false, false]) (X.indexAddr hE rfl rfl) H fun x51_1 a H hE => ?_
            refine WA.one (i := 15) (l2 := #[true, true, true, true, true, true, true, true, true, true, true, true, true, true, true, true, false, false]) rfl (by kernel_rfl) (by rfl) ?_
            intro K hK
            refine hE.wopu (X.store hE rfl rfl) H fun w a H hE => ?_
            refine hK _ _ ?_
            refine hE.aop (i := 16) (fun _ _ _ _ _ h => h) (by kernel_rfl) rfl (by kernel_rfl) (by kernel_rfl) (by rfl) (l2 := #[true, true, true, true, true, true, true, true, true, true, true, true, true, true, true, true, true, false]) (X.indexAddr hE rfl rfl) H fun x52_1 a H hE => ?_
            refine WA.one (i := 17) (l2 := #[true, true, true, true, true, true, true, true, true, true, true, true, true, true, true, true, true, true]) rfl (by kernel_rfl) (by rfl) ?_
            intro K hK
            refine hE.wopu (X.store hE rfl rfl) H fun w a H hE => ?_
            refine hK _ _ ?_
            refine WA.nil (by kernel_rfl) ?_
            exact (bn (tn (hj4 () _ _ H (hE.weak ⟨rfl, rfl, rfl, rfl, rfl, rfl, trivial⟩))))
      · replace H := H.2 hc
        refine C.exit (te (te (be (bn (tn ?_)))))
        refine C.region ?_
        refine hE.pur (X.move hE rfl) fun a hE => ?_
        refine hE.pur (X.add hE rfl rfl) fun a hE => ?_
        refine hE.pur (X.assign hE rfl) fun a hE => ?_
        rw [hK_l1] at H
        exact C.nil (tn ⟨(IntKind.wrap .i64 (x8 + 1)), hE.weak ⟨rfl, rfl, rfl, rfl, rfl, trivial⟩, H⟩)
    · rcases Classical.em ((x1 < x9)) with hbr3 | hbr3
      · replace H := H.1 hbr3
        replace hE := hE.bool (b := true) (t := 21) rfl (decide_eq_true hbr3)
        refine hE.qon (by rfl) (by rfl) ?_
        refine hE.qpur (X.move hE rfl) fun a hE => ?_
        refine hE.qon (by rfl) (by rfl) ?_
        refine hE.qpur (X.move hE rfl) fun a hE => ?_
        refine hE.qon (by rfl) (by rfl) ?_
        refine hE.qpur (X.move hE rfl) fun a hE => ?_
        refine hE.qon (by rfl) (by rfl) ?_
        refine hE.qop (X.indexAddr hE rfl rfl) H fun x25 a H hE => ?_
        refine hE.qon (by rfl) (by rfl) ?_
        refine hE.qop (X.load hE rfl) H fun x26 a H hE => ?_
        refine hE.qon (by rfl) (by rfl) ?_
        refine hE.qpur (X.move hE rfl) fun a hE => ?_
        refine hE.qon (by rfl) (by rfl) ?_
        refine hE.qpur (X.move hE rfl) fun a hE => ?_
        refine hE.qon (by rfl) (by rfl) ?_
        refine hE.qpur (X.sub hE rfl rfl) fun a hE => ?_
        refine hE.qon (by rfl) (by rfl) ?_
        refine hE.qop (X.indexAddr hE rfl rfl) H fun x30 a H hE => ?_
        refine hE.qon (by rfl) (by rfl) ?_
        refine hE.qop (X.load hE rfl) H fun x31 a H hE => ?_
        refine hE.qon (by rfl) (by rfl) ?_
        obtain ⟨r, hc, H⟩ := H
        refine hE.qcallV rfl rfl hc fun a hE => ?_
        refine hE.qon (by rfl) (by rfl) ?_
        refine hE.qpur (X.ltI hE rfl rfl) fun a hE => ?_
        refine hE.qpur (X.pickT hE rfl rfl) fun a hE => ?_
        exact hr3 (decide (r < 0)) _ H (hE.weak ⟨rfl, rfl, rfl, rfl, rfl, rfl, rfl, trivial⟩)
      · replace H := H.2 hbr3
        replace hE := hE.bool (b := false) (t := 21) rfl (decide_eq_false hbr3)
        refine hE.qoff (by rfl) (by rfl) (by decide) (fun a hE => ?_)
        refine hE.qoff (by rfl) (by rfl) (by decide) (fun a hE => ?_)
        refine hE.qoff (by rfl) (by rfl) (by decide) (fun a hE => ?_)
        refine hE.qoff (by rfl) (by rfl) (by decide) (fun a hE => ?_)
        refine hE.qoff (by rfl) (by rfl) (by decide) (fun a hE => ?_)
        refine hE.qoff (by rfl) (by rfl) (by decide) (fun a hE => ?_)
        refine hE.qoff (by rfl) (by rfl) (by decide) (fun a hE => ?_)
        refine hE.qoff (by rfl) (by rfl) (by decide) (fun a hE => ?_)
        refine hE.qoff (by rfl) (by rfl) (by decide) (fun a hE => ?_)
        refine hE.qoff (by rfl) (by rfl) (by decide) (fun a hE => ?_)
        refine hE.qoff (by rfl) (by rfl) (by decide) (fun a hE => ?_)
        refine hE.qoff (by rfl) (by rfl) (by decide) (fun a hE => ?_)
        refine hE.qpur (X.pickF hE rfl rfl) fun a hE => ?_
        exact hr3 false _ H (hE.weak ⟨rfl, rfl, rfl, rfl, rfl, rfl, rfl, trivial⟩)
  · replace H := H.2 hc
    exact C.exit (te (te (be (C.end0 hE rfl ⟨rfl, H⟩))))
/-! ### slices.heapSortCmpFunc[lading api.Version]: function 52 -/
def V_slices_heapSortCmpFunc_api_Version_j3 (x0 : Sl) (x1 : Int) (x3 : Value) (x12 : Int) (Kl2 : Int → World → Prop) (w : World) : Prop :=
  Cl Try.prog 63 [(Sl.v x0), (.int .i64 0), (.int .i64 x12), (.int .i64 x1), x3].toArray w (fun e w => e = .returned (.tuple [].toArray) ∧ (Kl2 (IntKind.wrap .i64 (x12 - 1)) w))
def V_slices_heapSortCmpFunc_api_Version_l2b (x0 : Sl) (x1 : Int) (x3 : Value) (Ret : World → Prop) (x12 : Int) (w : World) (Kl2 : Int → World → Prop) : Prop :=
  ((0 ≤ x12) → (nextB w (fun w => opP Try.prog Value.pointer (Instr.indexAt 22 (Sl.v x0) (.int .i64 (IntKind.wrap .i64 (x1 + x12)))) (fun x46 => opP Try.prog Value.pointer (Instr.indexAt 22 (Sl.v x0) (.int .i64 x1)) (fun x50 => (opE Try.prog T_api_Version.v (Instr.loadAt 37 (.pointer x46)) w (fun x47 w => opE Try.prog T_api_Version.v (Instr.loadAt 37 (.pointer x50)) w (fun x51 w => opP Try.prog Value.pointer (Instr.indexAt 22 (Sl.v x0) (.int .i64 x1)) (fun x52 => opU Try.prog (Instr.storeAt 37 (.pointer x52) (T_api_Version.v x47)) w (fun w => opP Try.prog Value.pointer (Instr.indexAt 22 (Sl.v x0) (.int .i64 (IntKind.wrap .i64 (x1 + x12)))) (fun x53 => opU Try.prog (Instr.storeAt 37 (.pointer x53) (T_api_Version.v x51)) w (fun w => V_slices_heapSortCmpFunc_api_Version_j3 x0 x1 x3 x12 Kl2 w))))))) ∧ (opE Try.prog T_api_Version.v (Instr.loadAt 37 (.pointer x50)) w (fun x51_1 w => opE Try.prog T_api_Version.v (Instr.loadAt 37 (.pointer x46)) w (fun x47_1 w => opP Try.prog Value.pointer (Instr.indexAt 22 (Sl.v x0) (.int .i64 x1)) (fun x52_1 => opU Try.prog (Instr.storeAt 37 (.pointer x52_1) (T_api_Version.v x47_1)) w (fun w => opP Try.prog Value.pointer (Instr.indexAt 22 (Sl.v x0) (.int .i64 (IntKind.wrap .i64 (x1 + x12)))) (fun x53_1 => opU Try.prog (Instr.storeAt 37 (.pointer x53_1) (T_api_Version.v x51_1)) w (fun w => V_slices_heapSortCmpFunc_api_Version_j3 x0 x1 x3 x12 Kl2 w)))))))))))) ∧ (¬ (0 ≤ x12) → (Ret  w))
def V_slices_heapSortCmpFunc_api_Version_l1b (x0 : Sl) (x1 : Int) (x2 : Int) (x3 : Value) (Ret : World → Prop) (x11 : Int) (w : World) (Kl1 : Int → World → Prop) : Prop :=
  ((0 ≤ x11) → (Cl Try.prog 63 [(Sl.v x0), (.int .i64 x11), (.int .i64 (IntKind.wrap .i64 (x2 - x1))), (.int .i64 x1), x3].toArray w (fun e w => e = .returned (.tuple [].toArray) ∧ (Kl1 (IntKind.wrap .i64 (x11 - 1)) w)))) ∧ (¬ (0 ≤ x11) → (∃ (I : Int → World → Prop) (μ : Int → World → Nat), I (IntKind.wrap .i64 ((IntKind.wrap .i64 (x2 - x1)) - 1)) w ∧ ∀ (x12 : Int) w, I x12 w → V_slices_heapSortCmpFunc_api_Version_l2b x0 x1 x3 Ret x12 w (fun x12' w' => I x12' w' ∧ μ x12' w' < μ x12 w)))
def V_slices_heapSortCmpFunc_api_Version (x0 : Sl) (x1 : Int) (x2 : Int) (x3 : Value) (w : World) (Ret : World → Prop) : Prop :=
  opE Try.prog (Value.int .i64) (binOp .quo 3 (.int .i64 (IntKind.wrap .i64 ((IntKind.wrap .i64 (x2 - x1)) - 1))) (.int .i64 2)) w (fun x19 w => ∃ (I : Int → World → Prop) (μ : Int → World → Nat), I x19 w ∧ ∀ (x11 : Int) w, I x11 w → V_slices_heapSortCmpFunc_api_Version_l1b x0 x1 x2 x3 Ret x11 w (fun x11' w' => I x11' w' ∧ μ x11' w' < μ x11 w))
set_option maxRecDepth 100000 in
theorem L1_slices_heapSortCmpFunc_api_Version (x0 : Sl) (x1 : Int) (x2 : Int) (x3 : Value) (w : World) (Ret : World → Prop) (H : V_slices_heapSortCmpFunc_api_Version x0 x1 x2 x3 w Ret) : Cl Try.prog 52 [(Sl.v x0), (.int .i64 x1), (.int .i64 x2), x3].toArray w (fun e w' => e = .returned (.tuple [].toArray) ∧ Ret  w') := by
  unfold V_slices_heapSortCmpFunc_api_Version at H
  refine C.enter 60 (zipE 0 [(Sl.v x0), (.int .i64 x1), (.int .i64 x2), x3]) Try.func52 rfl rfl (by rfl) rfl ?_
  intro a hE
  replace hE : Sat [] 60 [(0, (Sl.v x0)), (1, (.int .i64 x1)), (2, (.int .i64 x2)), (3, x3)] a := hE
  refine C.seq ?_
  refine C.region ?_
  refine hE.pur (X.move hE rfl) fun a hE => ?_
  refine hE.pur (X.assign hE rfl) fun a hE => ?_
  refine C.nil (tn ?_)
  refine C.seq ?_
  refine C.region ?_
  refine hE.pur (X.assign hE rfl) fun a hE => ?_
  refine C.nil (tn ?_)
  refine C.seq ?_
  refine C.region ?_
  refine hE.pur (X.move hE rfl) fun a hE => ?_
  refine hE.pur (X.move hE rfl) fun a hE => ?_
  refine hE.pur (X.sub hE rfl rfl) fun a hE => ?_
  refine hE.pur (X.assign hE rfl) fun a hE => ?_
  refine C.nil (tn ?_)
  refine C.seq ?_
  refine C.seq ?_
  refine C.region ?_
  refine hE.pur (X.move hE rfl) fun a hE => ?_
  refine hE.pur (X.sub hE rfl rfl) fun a hE => ?_
  refine hE.op (X.binG hE rfl rfl) H fun x19 w a H hE => ?_
  refine hE.pur (X.assign hE rfl) fun a hE => ?_
  refine C.nil (tn ?_)
  refine C.block ?_
  obtain ⟨I_l1, μ_l1, h0, hb⟩ := H
  refine C.loop (ds := []) (N := 60) (σ := Int) (fun s => [(11, (.int .i64 s)), (0, (Sl.v x0)), (3, x3), (8, (.int .i64 x1)), (9, (.int .i64 0)), (10, (.int .i64 (IntKind.wrap .i64 (x2 - x1))))]) (fun s w => I_l1 s w) (fun s w => μ_l1 s w) x19 h0 (hE.weak ⟨rfl, rfl, rfl, rfl, rfl, rfl, trivial⟩) ?_
  intro x11 w a hI hE
  try dsimp only at hI hE
  obtain ⟨Kl1, hK_l1⟩ : ∃ K : Int → World → Prop, K = (fun x11' w' => I_l1 x11' w' ∧ μ_l1 x11' w' < μ_l1 x11 w) := ⟨_, rfl⟩
  have H : V_slices_heapSortCmpFunc_api_Version_l1b x0 x1 x2 x3 Ret x11 w Kl1 := by rw [hK_l1]; exact hb x11 w hI
  clear hb h0 hI
  unfold V_slices_heapSortCmpFunc_api_Version_l1b at H
  refine C.seq ?_
  refine C.seq ?_
  refine C.region ?_
  refine hE.pur (X.move hE rfl) fun a hE => ?_
  refine hE.pur (X.geI hE rfl rfl) fun a hE => ?_
  refine C.nil (tn ?_)
  refine C.condP hE rfl (fun hc => ?_) (fun hc => ?_)
  · replace H := H.1 hc
    refine C.skip (tn ?_)
    refine C.seq ?_
    refine C.block ?_
    refine C.region ?_
    refine hE.pur (X.move hE rfl) fun a hE => ?_
    refine hE.pur (X.move hE rfl) fun a hE => ?_
    refine hE.pur (X.move hE rfl) fun a hE => ?_
    refine hE.pur (X.move hE rfl) fun a hE => ?_
    refine hE.pur (X.move hE rfl) fun a hE => ?_
    refine hE.call (X.callF hE ent63 rfl rfl) H fun e w H => ?_
    obtain ⟨rfl, H⟩ := H
    refine ⟨_, rfl, fun a hE => ?_⟩
    refine C.nil (bn (tn ?_))
    refine C.region ?_
    refine hE.pur (X.move hE rfl) fun a hE => ?_
    refine hE.pur (X.sub hE rfl rfl) fun a hE => ?_
    refine hE.pur (X.assign hE rfl) fun a hE => ?_
    rw [hK_l1] at H
    exact C.nil (tn ⟨(IntKind.wrap .i64 (x11 - 1)), hE.weak ⟨rfl, rfl, rfl, rfl, rfl, rfl, trivial⟩, H⟩)
  · replace H := H.2 hc
    refine C.exit (te (te (be (tn ?_))))
    refine C.seq ?_
    refine C.region ?_
    refine hE.pur (X.move hE rfl) fun a hE => ?_
    refine hE.pur (X.sub hE rfl rfl) fun a hE => ?_
    refine hE.pur (X.assign hE rfl) fun a hE => ?_
    refine C.nil (tn ?_)
    refine C.block ?_
    obtain ⟨I_l2, μ_l2, h0, hb⟩ := H
    refine C.loop (ds := []) (N := 60) (σ := Int) (fun s => [(12, (.int .i64 s)), (0, (Sl.v x0)), (3, x3), (8, (.int .i64 x1)), (9, (.int .i64 0))]) (fun s w => I_l2 s w) (fun s w => μ_l2 s w) (IntKind.wrap .i64 ((IntKind.wrap .i64 (x2 - x1)) - 1)) h0 (hE.weak ⟨rfl, rfl, rfl, rfl, rfl, trivial⟩) ?_
    intro x12 w a hI hE
    try dsimp only at hI hE
    obtain ⟨Kl2, hK_l2⟩ : ∃ K : Int → World → Prop, K = (fun x12' w' => I_l2 x12' w' ∧ μ_l2 x12' w' < μ_l2 x12 w) := ⟨_, rfl⟩
    have H : V_slices_heapSortCmpFunc_api_Version_l2b x0 x1 x3 Ret x12 w Kl2 := by rw [hK_l2]; exact hb x12 w hI
    clear hb h0 hI
    unfold V_slices_heapSortCmpFunc_api_Version_l2b at H
    refine C.seq ?_
    refine C.seq ?_
    refine C.region ?_
    refine hE.pur (X.move hE rfl) fun a hE => ?_
    refine hE.pur (X.geI hE rfl rfl) fun a hE => ?_
    refine C.nil (tn ?_)
    refine C.condP hE rfl (fun hc => ?_) (fun hc => ?_)
    · replace H := H.1 hc
      refine C.skip (tn ?_)
      refine C.seq ?_
      refine C.block ?_
      refine C.join (ds := []) (N := 60) (σ := Unit) (fun s => [(0, (Sl.v x0)), (3, x3), (8, (.int .i64 x1)), (9, (.int .i64 0)), (12, (.int .i64 x12))]) (fun s w => V_slices_heapSortCmpFunc_api_Version_j3 x0 x1 x3 x12 Kl2  w) ?_ (fun hj3 => ?_)
      · rintro ⟨⟩ w a H hE
        try dsimp only at H hE
        unfold V_slices_heapSortCmpFunc_api_Version_j3 at H
        refine C.region ?_
        refine hE.pur (X.move hE rfl) fun a hE => ?_
        refine hE.pur (X.move hE rfl) fun a hE => ?_
        refine hE.pur (X.move hE rfl) fun a hE => ?_
        refine hE.pur (X.move hE rfl) fun a hE => ?_
        refine hE.pur (X.move hE rfl) fun a hE => ?_
        refine hE.call (X.callF hE ent63 rfl rfl) H fun e w H => ?_
        obtain ⟨rfl, H⟩ := H
        refine ⟨_, rfl, fun a hE => ?_⟩
        refine C.nil (bn (tn ?_))
        refine C.region ?_
        refine hE.pur (X.move hE rfl) fun a hE => ?_
        refine hE.pur (X.sub hE rfl rfl) fun a hE => ?_
        refine hE.pur (X.assign hE rfl) fun a hE => ?_
        rw [hK_l2] at H
        exact C.nil (tn ⟨(IntKind.wrap .i64 (x12 - 1)), hE.weak ⟨rfl, rfl, rfl, rfl, rfl, trivial⟩, H⟩)
      · refine C.any 20 #[false, false, false, false, false, false, false, false, false, false, false, false, false, false, false, false, false, false, false, false] (by kernel_rfl) (fun w hB => ?_)
        replace H := H w hB
        refine hE.apur (i := 0) (fun _ _ _ _ _ h => h) (by kernel_rfl) rfl (by kernel_rfl) (by kernel_rfl) (by rfl) (l2 := #[true, false, false, false, false, false, false, false, false, false, false, false, false, false, false, false, false, false, false, false]) (pn_run (X.move hE rfl)) fun a hE => ?_
        refine hE.apur (i := 1) (fun _ _ _ _ _ h => h) (by kernel_rfl) rfl (by kernel_rfl) (by kernel_rfl) (by rfl) (l2 := #[true, true, false, false, false, false, false, false, false, false, false, false, false, false, false, false, false, false, false, false]) (pn_run (X.move hE rfl)) fun a hE => ?_
        refine hE.apur (i := 2) (fun _ _ _ _ _ h => h) (by kernel_rfl) rfl (by kernel_rfl) (by kernel_rfl) (by rfl) (l2 := #[true, true, true, false, false, false, false, false, false, false, false, false, false, false, false, false, false, false, false, false]) (pn_run (X.move hE rfl)) fun a hE => ?_
        refine hE.apur (i := 3) (fun _ _ _ _ _ h => h) (by kernel_rfl) rfl (by kernel_rfl) (by kernel_rfl) (by rfl) (l2 := #[true, true, true, true, false, false, false, false, false, false, false, false, false, false, false, false, false, false, false, false]) (pn_run (X.move hE rfl)) fun a hE => ?_
        refine hE.apur (i := 4) (fun _ _ _ _ _ h => h) (by kernel_rfl) rfl (by kernel_rfl) (by kernel_rfl) (by rfl) (l2 := #[true, true, true, true, true, false, false, false, false, false, false, false, false, false, false, false, false, false, false, false]) (pn_run (X.move hE rfl)) fun a hE => ?_
        refine hE.apur (i := 5) (fun _ _ _ _ _ h => h) (by kernel_rfl) rfl (by kernel_rfl) (by kernel_rfl) (by rfl) (l2 := #[true, true, true, true, true, true, false, false, false, false, false, false, false, false, false, false, false, false, false, false]) (pn_run (X.add hE rfl rfl)) fun a hE => ?_
        refine hE.apur (i := 6) (fun _ _ _ _ _ h => h) (by kernel_rfl) rfl (by kernel_rfl) (by kernel_rfl) (by rfl) (l2 := #[true, true, true, true, true, true, true, false, false, false, false, false, false, false, false, false, false, false, false, false]) (pn_run (X.move hE rfl)) fun a hE => ?_
        refine hE.apur (i := 7) (fun _ _ _ _ _ h => h) (by kernel_rfl) rfl (by kernel_rfl) (by kernel_rfl) (by rfl) (l2 := #[true, true, true, true, true, true, true, true, false, false, false, false, false, false, false, false, false, false, false, false]) (pn_run (X.move hE rfl)) fun a hE => ?_
        refine hE.apur (i := 8) (fun _ _ _ _ _ h => h) (by kernel_rfl) rfl (by kernel_rfl) (by kernel_rfl) (by rfl) (l2 := #[true, true, true, true, true, true, true, true, true, false, false, false, false, false, false, false, false, false, false, false]) (pn_run (X.move hE rfl)) fun a hE => ?_
        refine hE.apur (i := 9) (fun _ _ _ _ _ h => h) (by kernel_rfl) rfl (by kernel_rfl) (by kernel_rfl) (by rfl) (l2 := #[true, true, true, true, true, true, true, true, true, true, false, false, false, false, false, false, false, false, false, false]) (pn_run (X.add hE rfl rfl)) fun a hE => ?_
        refine hE.aop (i := 10) (fun _ _ _ _ _ h => h) (by kernel_rfl) rfl (by kernel_rfl) (by kernel_rfl) (by rfl) (l2 := #[true, true, true, true, true, true, true, true, true, true, true, false, false, false, false, false, false, false, false, false]) (X.indexAddr hE rfl rfl) H fun x46 a H hE => ?_
        refine hE.apur (i := 12) (fun _ _ _ _ _ h => h) (by kernel_rfl) rfl (by kernel_rfl) (by kernel_rfl) (by rfl) (l2 := #[true, true, true, true, true, true, true, true, true, true, true, false, true, false, false, false, false, false, false, false]) (pn_run (X.move hE rfl)) fun a hE => ?_
        refine hE.apur (i := 13) (fun _ _ _ _ _ h => h) (by kernel_rfl) rfl (by kernel_rfl) (by kernel_rfl) (by rfl) (l2 := #[true, true, true, true, true, true, true, true, true, true, true, false, true, true, false, false, false, false, false, false]) (pn_run (X.move hE rfl)) fun a hE => ?_
        refine hE.aop (i := 14) (fun _ _ _ _ _ h => h) (by kernel_rfl) rfl (by kernel_rfl) (by kernel_rfl) (by rfl) (l2 := #[true, true, true, true, true, true, true, true, true, true, true, false, true, true, true, false, false, false, false, false]) (X.indexAddr hE rfl rfl) H fun x50 a H hE => ?_
        refine WA.two (i := 11) (j := 15) (l2 := #[true, true, true, true, true, true, true, true, true, true, true, true, true, true, true, false, false, false, false, false]) (l3 := #[true, true, true, true, true, true, true, true, true, true, true, false, true, true, true, true, false, false, false, false]) rfl rfl (by kernel_rfl) (by rfl) (by rfl) ?_ ?_
        · replace H := H.1
          intro K hK
          refine hE.wop (X.load hE rfl) H fun x47 w a H hE => ?_
          refine hK _ _ ?_
          refine WA.one (i := 15) (l2 := #[true, true, true, true, true, true, true, true, true, true, true, true, true, true, true, true, false, false, false, false]) rfl (by kernel_rfl) (by rfl) ?_
          intro K hK
          refine hE.wop (X.load hE rfl) H fun x51 w a H hE => ?_
          refine hK _ _ ?_
          refine hE.aop (i := 16) (fun _ _ _ _ _ h => h) (by kernel_rfl) rfl (by kernel_rfl) (by kernel_rfl) (by rfl) (l2 := #[true, true, true, true, true, true, true, true, true, true, true, true, true, true, true, true, true, false, false, false]) (X.indexAddr hE rfl rfl) H fun x52 a H hE => ?_
          refine WA.one (i := 17) (l2 := #[true, true, true, true, true, true, true, true, true, true, true, true, true, true, true, true, true, true, false, false]) rfl (by kernel_rfl) (by rfl) ?_
          intro K hK
          refine hE.wopu (X.store hE rfl rfl) H fun w a H hE => ?_
          refine hK _ _ ?_
          refine hE.aop (i := 18) (fun _ _ _ _ _ h => h) (by kernel_rfl) rfl (by kernel_rfl) (by kernel_rfl) (by rfl) (l2 := #[true, true, true, true, true, true, true, true, true, true, true, true, true, true, true, true, true, true, true, false]) (X.indexAddr hE rfl rfl) H fun x53 a H hE => ?_
          refine WA.one (i := 19) (l2 := #[true, true, true, true, true, true, true, true, true, true, true, true, true, true, true, true, true, true, true, true]) rfl (by kernel_rfl) (by rfl) ?_
          intro K hK
          refine hE.wopu (X.store hE rfl rfl) H fun w a H hE => ?_
          refine hK _ _ ?_
          refine WA.nil (by kernel_rfl) ?_
          exact (tn (hj3 () _ _ H (hE.weak ⟨rfl, rfl, rfl, rfl, rfl, trivial⟩)))
        · replace H := H.2
          intro K hK
          refine hE.wop (X.load hE rfl) H fun x51_1 w a H hE => ?_
          refine hK _ _ ?_
          refine WA.one (i := 11) (l2 := #[true, true, true, true, true, true, true, true, true, true, true, true, true, true, true, true, false, false, false, false]) rfl (by kernel_rfl) (by rfl) ?_
          intro K hK
          refine hE.wop (X.load hE rfl) H fun x47_1 w a H hE => ?_
          refine hK _ _ ?_
          refine hE.aop (i := 16) (fun _ _ _ _ _ h => h) (by kernel_rfl) rfl (by kernel_rfl) (by kernel_rfl) (by rfl) (l2 := #[true, true, true, true, true, true, true, true, true, true, true, true, true, true, true, true, true, false, false, false]) (X.indexAddr hE rfl rfl) H fun x52_1 a H hE => ?_
          refine WA.one (i := 17) (l2 := #[true, true, true, true, true, true, true, true, true, true, true, true, true, true, true, true, true, true, false, false]) rfl (by kernel_rfl) (by rfl) ?_
          intro K hK
          refine hE.wopu (X.store hE rfl rfl) H fun w a H hE => ?_
          refine hK _ _ ?_
          refine hE.aop (i := 18) (fun _ _ _ _ _ h => h) (by kernel_rfl) rfl (by kernel_rfl) (by kernel_rfl) (by rfl) (l2 := #[true, true, true, true, true, true, true, true, true, true, true, true, true, true, true, true, true, true, true, false]) (X.indexAddr hE rfl rfl) H fun x53_1 a H hE => ?_
          refine WA.one (i := 19) (l2 := #[true, true, true, true, true, true, true, true, true, true, true, true, true, true, true, true, true, true, true, true]) rfl (by kernel_rfl) (by rfl) ?_
          intro K hK
          refine hE.wopu (X.store hE rfl rfl) H fun w a H hE => ?_
          refine hK _ _ ?_
          refine WA.nil (by kernel_rfl) ?_
          exact (tn (hj3 () _ _ H (hE.weak ⟨rfl, rfl, rfl, rfl, rfl, trivial⟩)))
    · replace H := H.2 hc
      exact C.exit (te (te (be (C.end0 hE rfl ⟨rfl, H⟩))))
/-! ### slices.choosePivotCmpFunc[lading api.Version]: function 54 -/
def V_slices_choosePivotCmpFunc_api_Version_j1 (Ret : Int → Int → World → Prop) (x11 : Option Addr) (x13 : Int) (w : World) : Prop :=
  opE Try.prog (Value.int .i64) (Instr.loadAt 3 (.pointer x11)) w (fun x55 w => ((x55 = 0) → (Ret x13 1 w)) ∧ (¬ (x55 = 0) → (((x55 = 12) → (Ret x13 2 w)) ∧ (¬ (x55 = 12) → (Ret x13 0 w)))))
def V_slices_choosePivotCmpFunc_api_Version_j2 (x0 : Sl) (x3 : Value) (Ret : Int → Int → World → Prop) (x11 : Option Addr) (x12 : Int) (x13_1 : Int) (x14 : Int) (w : World) : Prop :=
  Cl Try.prog 67 [(Sl.v x0), (.int .i64 x12), (.int .i64 x13_1), (.int .i64 x14), (.pointer x11), x3].toArray w (fun e w => ∃ (r : Int), e = .returned (.int .i64 r) ∧ (V_slices_choosePivotCmpFunc_api_Version_j1 Ret x11 r w))
def V_slices_choosePivotCmpFunc_api_Version (x0 : Sl) (x1 : Int) (x2 : Int) (x3 : Value) (w : World) (Ret : Int → Int → World → Prop) : Prop :=
  opE Try.prog Value.pointer (Instr.alloc 3 true (.tuple #[])) w (fun x11 w => opE Try.prog (Value.int .i64) (binOp .quo 3 (.int .i64 (IntKind.wrap .i64 (x2 - x1))) (.int .i64 4)) w (fun x20 w => opE Try.prog (Value.int .i64) (binOp .quo 3 (.int .i64 (IntKind.wrap .i64 (x2 - x1))) (.int .i64 4)) w (fun x25 w => opE Try.prog (Value.int .i64) (binOp .quo 3 (.int .i64 (IntKind.wrap .i64 (x2 - x1))) (.int .i64 4)) w (fun x30 w => ((8 ≤ (IntKind.wrap .i64 (x2 - x1))) → (((50 ≤ (IntKind.wrap .i64 (x2 - x1))) → (Cl Try.prog 66 [(Sl.v x0), (.int .i64 (IntKind.wrap .i64 (x1 + (IntKind.wrap .i64 (x20 * 1))))), (.pointer x11), x3].toArray w (fun e w => ∃ (r_1 : Int), e = .returned (.int .i64 r_1) ∧ (Cl Try.prog 66 [(Sl.v x0), (.int .i64 (IntKind.wrap .i64 (x1 + (IntKind.wrap .i64 (x25 * 2))))), (.pointer x11), x3].toArray w (fun e w => ∃ (r_2 : Int), e = .returned (.int .i64 r_2) ∧ (Cl Try.prog 66 [(Sl.v x0), (.int .i64 (IntKind.wrap .i64 (x1 + (IntKind.wrap .i64 (x30 * 3))))), (.pointer x11), x3].toArray w (fun e w => ∃ (r_3 : Int), e = .returned (.int .i64 r_3) ∧ (V_slices_choosePivotCmpFunc_api_Version_j2 x0 x3 Ret x11 r_1 r_2 r_3 w)))))))) ∧ (¬ (50 ≤ (IntKind.wrap .i64 (x2 - x1))) → (V_slices_choosePivotCmpFunc_api_Version_j2 x0 x3 Ret x11 (IntKind.wrap .i64 (x1 + (IntKind.wrap .i64 (x20 * 1)))) (IntKind.wrap .i64 (x1 + (IntKind.wrap .i64 (x25 * 2)))) (IntKind.wrap .i64 (x1 + (IntKind.wrap .i64 (x30 * 3)))) w)))) ∧ (¬ (8 ≤ (IntKind.wrap .i64 (x2 - x1))) → (V_slices_choosePivotCmpFunc_api_Version_j1 Ret x11 (IntKind.wrap .i64 (x1 + (IntKind.wrap .i64 (x25 * 2)))) w))))))
set_option maxRecDepth 100000 in
theorem L1_slices_choosePivotCmpFunc_api_Version (x0 : Sl) (x1 : Int) (x2 : Int) (x3 : Value) (w : World) (Ret : Int → Int → World → Prop) (H : V_slices_choosePivotCmpFunc_api_Version x0 x1 x2 x3 w Ret) : Cl Try.prog 54 [(Sl.v x0), (.int .i64 x1), (.int .i64 x2), x3].toArray w (fun e w' => ∃ (r0 : Int) (r1 : Int), e = .returned (.tuple [(.int .i64 r0), (.int .i64 r1)].toArray) ∧ Ret r0 r1 w') := by
  unfold V_slices_choosePivotCmpFunc_api_Version at H
  refine C.enter 63 (zipE 0 [(Sl.v x0), (.int .i64 x1), (.int .i64 x2), x3]) Try.func54 rfl rfl (by rfl) rfl ?_
  intro a hE
  replace hE : Sat [] 63 [(0, (Sl.v x0)), (1, (.int .i64 x1)), (2, (.int .i64 x2)), (3, x3)] a := hE
  refine C.seq ?_
  refine C.region ?_
  refine hE.pur (X.assign hE rfl) fun a hE => ?_
  refine hE.pur (X.assign hE rfl) fun a hE => ?_
  refine C.nil (tn ?_)
  refine C.seq ?_
  refine C.region ?_
  refine hE.pur (X.move hE rfl) fun a hE => ?_
  refine hE.pur (X.move hE rfl) fun a hE => ?_
  refine hE.pur (X.sub hE rfl rfl) fun a hE => ?_
  refine hE.pur (X.assign hE rfl) fun a hE => ?_
  refine C.nil (tn ?_)
  refine C.seq ?_
  refine C.region ?_
  refine hE.op (X.alloc) H fun x11 w a H hE => ?_
  refine C.nil (tn ?_)
  refine C.seq ?_
  refine C.region ?_
  refine hE.pur (X.move hE rfl) fun a hE => ?_
  refine hE.pur (X.move hE rfl) fun a hE => ?_
  refine hE.op (X.binG hE rfl rfl) H fun x20 w a H hE => ?_
  refine hE.pur (X.mul hE rfl rfl) fun a hE => ?_
  refine hE.pur (X.add hE rfl rfl) fun a hE => ?_
  refine hE.pur (X.assign hE rfl) fun a hE => ?_
  refine C.nil (tn ?_)
  refine C.seq ?_
  refine C.region ?_
  refine hE.pur (X.move hE rfl) fun a hE => ?_
  refine hE.pur (X.move hE rfl) fun a hE => ?_
  refine hE.op (X.binG hE rfl rfl) H fun x25 w a H hE => ?_
  refine hE.pur (X.mul hE rfl rfl) fun a hE => ?_
  refine hE.pur (X.add hE rfl rfl) fun a hE => ?_
  refine hE.pur (X.assign hE rfl) fun a hE => ?_
  refine C.nil (tn ?_)
  refine C.seq ?_
  refine C.region ?_
  refine hE.pur (X.move hE rfl) fun a hE => ?_
  refine hE.pur (X.move hE rfl) fun a hE => ?_
  refine hE.op (X.binG hE rfl rfl) H fun x30 w a H hE => ?_
  refine hE.pur (X.mul hE rfl rfl) fun a hE => ?_
  refine hE.pur (X.add hE rfl rfl) fun a hE => ?_
  refine hE.pur (X.assign hE rfl) fun a hE => ?_
  refine C.nil (tn ?_)
  refine C.join (ds := []) (N := 63) (σ := Int) (fun s => [(13, (.int .i64 s)), (11, (.pointer x11))]) (fun s w => V_slices_choosePivotCmpFunc_api_Version_j1 Ret x11 s w) ?_ (fun hj1 => ?_)
  · intro x13 w a H hE
    try dsimp only at H hE
    unfold V_slices_choosePivotCmpFunc_api_Version_j1 at H
    refine C.seq ?_
    refine C.region ?_
    refine hE.op (X.load hE rfl) H fun x55 w a H hE => ?_
    refine C.nil (tn ?_)
    refine C.block ?_
    refine C.seq ?_
    refine C.region ?_
    refine hE.pur (X.eqI hE rfl rfl) fun a hE => ?_
    refine hE.pur (X.assign hE rfl) fun a hE => ?_
    refine C.nil (tn ?_)
    refine C.condP hE rfl (fun hc => ?_) (fun hc => ?_)
    · replace H := H.1 hc
      refine C.seq ?_
      refine C.region ?_
      refine hE.pur (X.move hE rfl) fun a hE => ?_
      refine hE.pur (X.assign hE rfl) fun a hE => ?_
      refine hE.pur (X.assign hE rfl) fun a hE => ?_
      refine C.nil (tn ?_)
      exact C.ret (br (C.ret2 hE rfl rfl rfl ⟨_, _, rfl, H⟩))
    · replace H := H.2 hc
      refine C.seq ?_
      refine C.region ?_
      refine hE.pur (X.eqI hE rfl rfl) fun a hE => ?_
      refine hE.pur (X.assign hE rfl) fun a hE => ?_
      refine C.nil (tn ?_)
      refine C.condP hE rfl (fun hc => ?_) (fun hc => ?_)
      · replace H := H.1 hc
        refine C.seq ?_
        refine C.region ?_
        refine hE.pur (X.move hE rfl) fun a hE => ?_
        refine hE.pur (X.assign hE rfl) fun a hE => ?_
        refine hE.pur (X.assign hE rfl) fun a hE => ?_
        refine C.nil (tn ?_)
        exact C.ret (br (C.ret2 hE rfl rfl rfl ⟨_, _, rfl, H⟩))
      · replace H := H.2 hc
        refine C.seq ?_
        refine C.region ?_
        refine hE.pur (X.move hE rfl) fun a hE => ?_
        refine hE.pur (X.assign hE rfl) fun a hE => ?_
        refine hE.pur (X.assign hE rfl) fun a hE => ?_
        refine C.nil (tn ?_)
        exact C.ret (br (C.ret2 hE rfl rfl rfl ⟨_, _, rfl, H⟩))
  · refine C.seq ?_
    refine C.region ?_
    refine hE.pur (X.move hE rfl) fun a hE => ?_
    refine hE.pur (X.geI hE rfl rfl) fun a hE => ?_
    refine C.nil (tn ?_)
    refine C.condP hE rfl (fun hc => ?_) (fun hc => ?_)
    · replace H := H.1 hc
      refine C.join (ds := []) (N := 63) (σ := Int × Int × Int) (fun s => [(12, (.int .i64 s.1)), (13, (.int .i64 s.2.1)), (14, (.int .i64 s.2.2)), (0, (Sl.v x0)), (3, x3), (11, (.pointer x11))]) (fun s w => V_slices_choosePivotCmpFunc_api_Version_j2 x0 x3 Ret x11 s.1 s.2.1 s.2.2 w) ?_ (fun hj2 => ?_)
      · rintro ⟨x12, x13_1, x14⟩ w a H hE
        try dsimp only at H hE
        unfold V_slices_choosePivotCmpFunc_api_Version_j2 at H
        refine C.region ?_
        refine hE.pur (X.move hE rfl) fun a hE => ?_
        refine hE.pur (X.move hE rfl) fun a hE => ?_
        refine hE.pur (X.move hE rfl) fun a hE => ?_
        refine hE.pur (X.move hE rfl) fun a hE => ?_
        refine hE.pur (X.move hE rfl) fun a hE => ?_
        refine hE.call (X.callF hE ent67 rfl rfl) H fun e w H => ?_
        obtain ⟨r, rfl, H⟩ := H
        refine ⟨_, rfl, fun a hE => ?_⟩
        refine hE.pur (X.assign hE rfl) fun a hE => ?_
        exact C.nil (tn (hj1 r _ _ H (hE.weak ⟨rfl, rfl, trivial⟩)))
      · refine C.seq ?_
        refine C.region ?_
        refine hE.pur (X.move hE rfl) fun a hE => ?_
        refine hE.pur (X.geI hE rfl rfl) fun a hE => ?_
        refine C.nil (tn ?_)
        refine C.condP hE rfl (fun hc => ?_) (fun hc => ?_)
        · replace H := H.1 hc
          refine C.seq ?_
          refine C.region ?_
          refine hE.pur (X.move hE rfl) fun a hE => ?_
          refine hE.pur (X.move hE rfl) fun a hE => ?_
          refine hE.pur (X.move hE rfl) fun a hE => ?_
          refine hE.call (X.callF hE ent66 rfl rfl) H fun e w H => ?_
          obtain ⟨r_1, rfl, H⟩ := H
          refine ⟨_, rfl, fun a hE => ?_⟩
          refine hE.pur (X.assign hE rfl) fun a hE => ?_
          refine C.nil (tn ?_)
          refine C.seq ?_
          refine C.region ?_
          refine hE.pur (X.move hE rfl) fun a hE => ?_
          refine hE.pur (X.move hE rfl) fun a hE => ?_
          refine hE.pur (X.move hE rfl) fun a hE => ?_
          refine hE.call (X.callF hE ent66 rfl rfl) H fun e w H => ?_
          obtain ⟨r_2, rfl, H⟩ := H
          refine ⟨_, rfl, fun a hE => ?_⟩
          refine hE.pur (X.assign hE rfl) fun a hE => ?_
          refine C.nil (tn ?_)
          refine C.region ?_
          refine hE.pur (X.move hE rfl) fun a hE => ?_
          refine hE.pur (X.move hE rfl) fun a hE => ?_
          refine hE.pur (X.move hE rfl) fun a hE => ?_
          refine hE.call (X.callF hE ent66 rfl rfl) H fun e w H => ?_
          obtain ⟨r_3, rfl, H⟩ := H
          refine ⟨_, rfl, fun a hE => ?_⟩
          refine hE.pur (X.assign hE rfl) fun a hE => ?_
          exact C.nil (tn (hj2 (r_1, r_2, r_3) _ _ H (hE.weak ⟨rfl, rfl, rfl, rfl, rfl, rfl, trivial⟩)))
        · replace H := H.2 hc
          exact C.skip (tn (hj2 ((IntKind.wrap .i64 (x1 + (IntKind.wrap .i64 (x20 * 1)))), (IntKind.wrap .i64 (x1 + (IntKind.wrap .i64 (x25 * 2)))), (IntKind.wrap .i64 (x1 + (IntKind.wrap .i64 (x30 * 3))))) _ _ H (hE.weak ⟨rfl, rfl, rfl, rfl, rfl, rfl, trivial⟩)))
    · replace H := H.2 hc
      exact C.skip (tn (hj1 (IntKind.wrap .i64 (x1 + (IntKind.wrap .i64 (x25 * 2)))) _ _ H (hE.weak ⟨rfl, rfl, trivial⟩)))
/-! ### slices.reverseRangeCmpFunc[lading api.Version]: function 55 -/
def V_slices_reverseRangeCmpFunc_api_Version_j2 (x8 : Int) (x9 : Int) (Kl1 : Int → Int → World → Prop) (w : World) : Prop :=
  Kl1 (IntKind.wrap .i64 (x8 + 1)) (IntKind.wrap .i64 (x9 - 1)) w
def V_slices_reverseRangeCmpFunc_api_Version_l1b (x0 : Sl) (Ret : World → Prop) (x8 : Int) (x9 : Int) (w : World) (Kl1 : Int → Int → World → Prop) : Prop :=
  ((x8 < x9) → (nextB w (fun w => opP Try.prog Value.pointer (Instr.indexAt 22 (Sl.v x0) (.int .i64 x9)) (fun x22 => opP Try.prog Value.pointer (Instr.indexAt 22 (Sl.v x0) (.int .i64 x8)) (fun x26 => (opE Try.prog T_api_Version.v (Instr.loadAt 37 (.pointer x22)) w (fun x23 w => opE Try.prog T_api_Version.v (Instr.loadAt 37 (.pointer x26)) w (fun x27 w => opP Try.prog Value.pointer (Instr.indexAt 22 (Sl.v x0) (.int .i64 x8)) (fun x28 => opU Try.prog (Instr.storeAt 37 (.pointer x28) (T_api_Version.v x23)) w (fun w => opP Try.prog Value.pointer (Instr.indexAt 22 (Sl.v x0) (.int .i64 x9)) (fun x29 => opU Try.prog (Instr.storeAt 37 (.pointer x29) (T_api_Version.v x27)) w (fun w => V_slices_reverseRangeCmpFunc_api_Version_j2 x8 x9 Kl1 w))))))) ∧ (opE Try.prog T_api_Version.v (Instr.loadAt 37 (.pointer x26)) w (fun x27_1 w => opE Try.prog T_api_Version.v (Instr.loadAt 37 (.pointer x22)) w (fun x23_1 w => opP Try.prog Value.pointer (Instr.indexAt 22 (Sl.v x0) (.int .i64 x8)) (fun x28_1 => opU Try.prog (Instr.storeAt 37 (.pointer x28_1) (T_api_Version.v x23_1)) w (fun w => opP Try.prog Value.pointer (Instr.indexAt 22 (Sl.v x0) (.int .i64 x9)) (fun x29_1 => opU Try.prog (Instr.storeAt 37 (.pointer x29_1) (T_api_Version.v x27_1)) w (fun w => V_slices_reverseRangeCmpFunc_api_Version_j2 x8 x9 Kl1 w)))))))))))) ∧ (¬ (x8 < x9) → (Ret  w))
def V_slices_reverseRangeCmpFunc_api_Version (x0 : Sl) (x1 : Int) (x2 : Int) (x3 : Value) (w : World) (Ret : World → Prop) : Prop :=
  ∃ (I : Int → Int → World → Prop) (μ : Int → Int → World → Nat), I x1 (IntKind.wrap .i64 (x2 - 1)) w ∧ ∀ (x8 : Int) (x9 : Int) w, I x8 x9 w → V_slices_reverseRangeCmpFunc_api_Version_l1b x0 Ret x8 x9 w (fun x8' x9' w' => I x8' x9' w' ∧ μ x8' x9' w' < μ x8 x9 w)
set_option maxRecDepth 100000 in
theorem L1_slices_reverseRangeCmpFunc_api_Version (x0 : Sl) (x1 : Int) (x2 : Int) (x3 : Value) (w : World) (Ret : World → Prop) (H : V_slices_reverseRangeCmpFunc_api_Version x0 x1 x2 x3 w Ret) : Cl Try.prog 55 [(Sl.v x0), (.int .i64 x1), (.int .i64 x2), x3].toArray w (fun e w' => e = .returned (.tuple [].toArray) ∧ Ret  w') := by
  unfold V_slices_reverseRangeCmpFunc_api_Version at H
  refine C.enter 34 (zipE 0 [(Sl.v x0), (.int .i64 x1), (.int .i64 x2), x3]) Try.func55 rfl rfl (by rfl) rfl ?_
  intro a hE
  replace hE : Sat [] 34 [(0, (Sl.v x0)), (1, (.int .i64 x1)), (2, (.int .i64 x2)), (3, x3)] a := hE
  refine C.seq ?_
  refine C.region ?_
  refine hE.pur (X.move hE rfl) fun a hE => ?_
  refine hE.pur (X.assign hE rfl) fun a hE => ?_
  refine C.nil (tn ?_)
  refine C.seq ?_
  refine C.region ?_
  refine hE.pur (X.move hE rfl) fun a hE => ?_
  refine hE.pur (X.sub hE rfl rfl) fun a hE => ?_
  refine hE.pur (X.assign hE rfl) fun a hE => ?_
  refine C.nil (tn ?_)
  refine C.block ?_
  obtain ⟨I_l1, μ_l1, h0, hb⟩ := H
  refine C.loop (ds := []) (N := 34) (σ := Int × Int) (fun s => [(8, (.int .i64 s.1)), (9, (.int .i64 s.2)), (0, (Sl.v x0))]) (fun s w => I_l1 s.1 s.2 w) (fun s w => μ_l1 s.1 s.2 w) (x1, (IntKind.wrap .i64 (x2 - 1))) h0 (hE.weak ⟨rfl, rfl, rfl, trivial⟩) ?_
  rintro ⟨x8, x9⟩ w a hI hE
  try dsimp only at hI hE
  obtain ⟨Kl1, hK_l1⟩ : ∃ K : Int → Int → World → Prop, K = (fun x8' x9' w' => I_l1 x8' x9' w' ∧ μ_l1 x8' x9' w' < μ_l1 x8 x9 w) := ⟨_, rfl⟩
  have H : V_slices_reverseRangeCmpFunc_api_Version_l1b x0 Ret x8 x9 w Kl1 := by rw [hK_l1]; exact hb x8 x9 w hI
  clear hb h0 hI
  unfold V_slices_reverseRangeCmpFunc_api_Version_l1b at H
  refine C.seq ?_
  refine C.seq ?_
  refine C.region ?_
  refine hE.pur (X.move hE rfl) fun a hE => ?_
  refine hE.pur (X.move hE rfl) fun a hE => ?_
  refine hE.pur (X.ltI hE rfl rfl) fun a hE => ?_
  refine C.nil (tn ?_)
  refine C.condP hE rfl (fun hc => ?_) (fun hc => ?_)
  · replace H := H.1 hc
    refine C.skip (tn ?_)
    refine C.block ?_
    refine C.join (ds := []) (N := 34) (σ := Unit) (fun s => [(0, (Sl.v x0)), (8, (.int .i64 x8)), (9, (.int .i64 x9))]) (fun s w => V_slices_reverseRangeCmpFunc_api_Version_j2 x8 x9 Kl1  w) ?_ (fun hj2 => ?_)
    · rintro ⟨⟩ w a H hE
      try dsimp only at H hE
      unfold V_slices_reverseRangeCmpFunc_api_Version_j2 at H
      refine C.seq ?_
      refine C.region ?_
      refine hE.pur (X.move hE rfl) fun a hE => ?_
      refine hE.pur (X.add hE rfl rfl) fun a hE => ?_
      refine hE.pur (X.assign hE rfl) fun a hE => ?_
      refine C.nil (tn ?_)
      refine C.region ?_
      refine hE.pur (X.move hE rfl) fun a hE => ?_
      refine hE.pur (X.sub hE rfl rfl) fun a hE => ?_
      refine hE.pur (X.assign hE rfl) fun a hE => ?_
      rw [hK_l1] at H
      exact C.nil (bn (tn ⟨((IntKind.wrap .i64 (x8 + 1)), (IntKind.wrap .i64 (x9 - 1))), hE.weak ⟨rfl, rfl, rfl, trivial⟩, H⟩))
    · refine C.any 16 #[false, false, false, false, false, false, false, false, false, false, false, false, false, false, false, false] (by kernel_rfl) (fun w hB => ?_)
      replace H := H w hB
      refine hE.apur (i := 0) (fun _ _ _ _ _ h => h) (by kernel_rfl) rfl (by kernel_rfl) (by kernel_rfl) (by rfl) (l2 := #[true, false, false, false, false, false, false, false, false, false, false, false, false, false, false, false]) (pn_run (X.move hE rfl)) fun a hE => ?_
      refine hE.apur (i := 1) (fun _ _ _ _ _ h => h) (by kernel_rfl) rfl (by kernel_rfl) (by kernel_rfl) (by rfl) (l2 := #[true, true, false, false, false, false, false, false, false, false, false, false, false, false, false, false]) (pn_run (X.move hE rfl)) fun a hE => ?_
      refine hE.apur (i := 2) (fun _ _ _ _ _ h => h) (by kernel_rfl) rfl (by kernel_rfl) (by kernel_rfl) (by rfl) (l2 := #[true, true, true, false, false, false, false, false, false, false, false, false, false, false, false, false]) (pn_run (X.move hE rfl)) fun a hE => ?_
      refine hE.apur (i := 3) (fun _ _ _ _ _ h => h) (by kernel_rfl) rfl (by kernel_rfl) (by kernel_rfl) (by rfl) (l2 := #[true, true, true, true, false, false, false, false, false, false, false, false, false, false, false, false]) (pn_run (X.move hE rfl)) fun a hE => ?_
      refine hE.apur (i := 4) (fun _ _ _ _ _ h => h) (by kernel_rfl) rfl (by kernel_rfl) (by kernel_rfl) (by rfl) (l2 := #[true, true, true, true, true, false, false, false, false, false, false, false, false, false, false, false]) (pn_run (X.move hE rfl)) fun a hE => ?_
      refine hE.apur (i := 5) (fun _ _ _ _ _ h => h) (by kernel_rfl) rfl (by kernel_rfl) (by kernel_rfl) (by rfl) (l2 := #[true, true, true, true, true, true, false, false, false, false, false, false, false, false, false, false]) (pn_run (X.move hE rfl)) fun a hE => ?_
      refine hE.aop (i := 6) (fun _ _ _ _ _ h => h) (by kernel_rfl) rfl (by kernel_rfl) (by kernel_rfl) (by rfl) (l2 := #[true, true, true, true, true, true, true, false, false, false, false, false, false, false, false, false]) (X.indexAddr hE rfl rfl) H fun x22 a H hE => ?_
      refine hE.apur (i := 8) (fun _ _ _ _ _ h => h) (by kernel_rfl) rfl (by kernel_rfl) (by kernel_rfl) (by rfl) (l2 := #[true, true, true, true, true, true, true, false, true, false, false, false, false, false, false, false]) (pn_run (X.move hE rfl)) fun a hE => ?_
      refine hE.apur (i := 9) (fun _ _ _ _ _ h => h) (by kernel_rfl) rfl (by kernel_rfl) (by kernel_rfl) (by rfl) (l2 := #[true, true, true, true, true, true, true, false, true, true, false, false, false, false, false, false]) (pn_run (X.move hE rfl)) fun a hE => ?_
      refine hE.aop (i := 10) (fun _ _ _ _ _ h => h) (by kernel_rfl) rfl (by kernel_rfl) (by kernel_rfl) (by rfl) (l2 := #[true, true, true, true, true, true, true, false, true, true, true, false, false, false, false, false]) (X.indexAddr hE rfl rfl) H fun x26 a H hE => ?_
      refine WA.two (i := 7) (j := 11) (l2 := #[true, true, true, true, true, true, true, true, true, true, true, false, false, false, false, false]) (l3 := #[true, true, true, true, true, true, true, false, true, true, true, true, false, false, false, false]) rfl rfl (by kernel_rfl) (by rfl) (by rfl) ?_ ?_
      · replace H := H.1
        intro K hK
        refine hE.wop (X.load hE rfl) H fun x23 w a H hE => ?_
        refine hK _ _ ?_
        refine WA.one (i := 11) (l2 := #[true, true, true, true, true, true, true, true, true, true, true, true, false, false, false, false]) rfl (by kernel_rfl) (by rfl) ?_
        intro K hK
        refine hE.wop (X.load hE rfl) H fun x27 w a H hE => ?_
        refine hK _ _ ?_
        refine hE.aop (i := 12) (fun _ _ _ _ _ h => h) (by kernel_rfl) rfl (by kernel_rfl) (by kernel_rfl) (by rfl) (l2 := #[true, true, true, true, true, true, true, true, true, true, true, true, true, false, false, false]) (X.indexAddr hE rfl rfl) H fun x28 a H hE => ?_
        refine WA.one (i := 13) (l2 := #[true, true, true, true, true, true, true, true, true, true, true, true, true, true, false, false]) rfl (by kernel_rfl) (by rfl) ?_
        intro K hK
        refine hE.wopu (X.store hE rfl rfl) H fun w a H hE => ?_
        refine hK _ _ ?_
        refine hE.aop (i := 14) (fun _ _ _ _ _ h => h) (by kernel_rfl) rfl (by kernel_rfl) (by kernel_rfl) (by rfl) (l2 := #[true, true, true, true, true, true, true, true, true, true, true, true, true, true, true, false]) (X.indexAddr hE rfl rfl) H fun x29 a H hE => ?_
        refine WA.one (i := 15) (l2 := #[true, true, true, true, true, true, true, true, true, true, true, true, true, true, true, true]) rfl (by kernel_rfl) (by rfl) ?_
        intro K hK
        refine hE.wopu (X.store hE rfl rfl) H fun w a H hE => ?_
        refine hK _ _ ?_
        refine WA.nil (by kernel_rfl) ?_
        exact (tn (hj2 () _ _ H (hE.weak ⟨rfl, rfl, rfl, trivial⟩)))
      · replace H := H.2
        intro K hK
        refine hE.wop (X.load hE rfl) H fun x27_1 w a H hE => ?_
        refine hK _ _ ?_
        refine WA.one (i := 7) (l2 := #[true, true, true, true, true, true, true, true, true, true, true, true, false, false, false, false]) rfl (by kernel_rfl) (by rfl) ?_
        intro K hK
        refine hE.wop (X.load hE rfl) H fun x23_1 w a H hE => ?_
        refine hK _ _ ?_
        refine hE.aop (i := 12) (fun _ _ _ _ _ h => h) (by kernel_rfl) rfl (by kernel_rfl) (by kernel_rfl) (by rfl) (l2 := #[true, true, true, true, true, true, true, true, true, true, true, true, true, false, false, false]) (X.indexAddr hE rfl rfl) H fun x28_1 a H hE => ?_
        refine WA.one (i := 13) (l2 := #[true, true, true, true, true, true, true, true, true, true, true, true, true, true, false, false]) rfl (by kernel_rfl) (by rfl) ?_
        intro K hK
        refine hE.wopu (X.store hE rfl rfl) H fun w a H hE => ?_
        refine hK _ _ ?_
        refine hE.aop (i := 14) (fun _ _ _ _ _ h => h) (by kernel_rfl) rfl (by kernel_rfl) (by kernel_rfl) (by rfl) (l2 := #[true, true, true, true, true, true, true, true, true, true, true, true, true, true, true, false]) (X.indexAddr hE rfl rfl) H fun x29_1 a H hE => ?_
        refine WA.one (i := 15) (l2 := #[true, true, true, true, true, true, true, true, true, true, true, true, true, true, true, true]) rfl (by kernel_rfl) (by rfl) ?_
        intro K hK
        refine hE.wopu (X.store hE rfl rfl) H fun w a H hE => ?_
        refine hK _ _ ?_
        refine WA.nil (by kernel_rfl) ?_
        exact (tn (hj2 () _ _ H (hE.weak ⟨rfl, rfl, rfl, trivial⟩)))
  · replace H := H.2 hc
    exact C.exit (te (te (be (C.end0 hE rfl ⟨rfl, H⟩))))
/-! ### slices.partialInsertionSortCmpFunc[lading api.Version]: function 56 -/
def V_slices_partialInsertionSortCmpFunc_api_Version_j2 (x10 : Int) (Kl1 : Int → Int → World → Prop) (x9_1 : Int) (w : World) : Prop :=
  Kl1 x9_1 (IntKind.wrap .i64 (x10 + 1)) w
def V_slices_partialInsertionSortCmpFunc_api_Version_j8 (x12 : Int) (Kl7 : Int → World → Prop) (w : World) : Prop :=
  Kl7 (IntKind.wrap .i64 (x12 + 1)) w
def V_slices_partialInsertionSortCmpFunc_api_Version_l7b (x0 : Sl) (x2 : Int) (x3 : Value) (x10 : Int) (Kl1 : Int → Int → World → Prop) (x9_2 : Int) (x12 : Int) (w : World) (Kl7 : Int → World → Prop) : Prop :=
  ((x12 < x2) → (opB Try.prog Value.pointer (Instr.indexAt 22 (Sl.v x0) (.int .i64 x12)) w (fun x115 => opB Try.prog T_api_Version.v (Instr.loadAt 37 (.pointer x115)) w (fun x116 => opB Try.prog Value.pointer (Instr.indexAt 22 (Sl.v x0) (.int .i64 (IntKind.wrap .i64 (x12 - 1)))) w (fun x120 => opB Try.prog T_api_Version.v (Instr.loadAt 37 (.pointer x120)) w (fun x121 => ∃ (r : Int), CallQ Try.prog x3 [(T_api_Version.v x116), (T_api_Version.v x121)] w (.int .i64 r) ∧ (nextB w (fun w => ((!(decide (r < 0))) = true → (V_slices_partialInsertionSortCmpFunc_api_Version_j2 x10 Kl1 x9_2 w)) ∧ ((!(decide (r < 0))) = false → (nextB w (fun w => opP Try.prog Value.pointer (Instr.indexAt 22 (Sl.v x0) (.int .i64 (IntKind.wrap .i64 (x12 - 1)))) (fun x133 => opP Try.prog Value.pointer (Instr.indexAt 22 (Sl.v x0) (.int .i64 x12)) (fun x137 => (opE Try.prog T_api_Version.v (Instr.loadAt 37 (.pointer x133)) w (fun x134 w => opE Try.prog T_api_Version.v (Instr.loadAt 37 (.pointer x137)) w (fun x138 w => opP Try.prog Value.pointer (Instr.indexAt 22 (Sl.v x0) (.int .i64 x12)) (fun x139 => opU Try.prog (Instr.storeAt 37 (.pointer x139) (T_api_Version.v x134)) w (fun w => opP Try.prog Value.pointer (Instr.indexAt 22 (Sl.v x0) (.int .i64 (IntKind.wrap .i64 (x12 - 1)))) (fun x140 => opU Try.prog (Instr.storeAt 37 (.pointer x140) (T_api_Version.v x138)) w (fun w => V_slices_partialInsertionSortCmpFunc_api_Version_j8 x12 Kl7 w))))))) ∧ (opE Try.prog T_api_Version.v (Instr.loadAt 37 (.pointer x137)) w (fun x138_1 w => opE Try.prog T_api_Version.v (Instr.loadAt 37 (.pointer x133)) w (fun x134_1 w => opP Try.prog Value.pointer (Instr.indexAt 22 (Sl.v x0) (.int .i64 x12)) (fun x139_1 => opU Try.prog (Instr.storeAt 37 (.pointer x139_1) (T_api_Version.v x134_1)) w (fun w => opP Try.prog Value.pointer (Instr.indexAt 22 (Sl.v x0) (.int .i64 (IntKind.wrap .i64 (x12 - 1)))) (fun x140_1 => opU Try.prog (Instr.storeAt 37 (.pointer x140_1) (T_api_Version.v x138_1)) w (fun w => V_slices_partialInsertionSortCmpFunc_api_Version_j8 x12 Kl7 w)))))))))))))))))))) ∧ (¬ (x12 < x2) → (V_slices_partialInsertionSortCmpFunc_api_Version_j2 x10 Kl1 x9_2 w))
def V_slices_partialInsertionSortCmpFunc_api_Version_j6 (x0 : Sl) (x2 : Int) (x3 : Value) (x10 : Int) (Kl1 : Int → Int → World → Prop) (x9_2 : Int) (w : World) : Prop :=
  ((2 ≤ (IntKind.wrap .i64 (x2 - x9_2))) → (∃ (I : Int → World → Prop) (μ : Int → World → Nat), I (IntKind.wrap .i64 (x9_2 + 1)) w ∧ ∀ (x12 : Int) w, I x12 w → V_slices_partialInsertionSortCmpFunc_api_Version_l7b x0 x2 x3 x10 Kl1 x9_2 x12 w (fun x12' w' => I x12' w' ∧ μ x12' w' < μ x12 w))) ∧ (¬ (2 ≤ (IntKind.wrap .i64 (x2 - x9_2))) → (V_slices_partialInsertionSortCmpFunc_api_Version_j2 x10 Kl1 x9_2 w))
def V_slices_partialInsertionSortCmpFunc_api_Version_j10 (x11 : Int) (Kl9 : Int → World → Prop) (w : World) : Prop :=
  Kl9 (IntKind.wrap .i64 (x11 - 1)) w
def V_slices_partialInsertionSortCmpFunc_api_Version_l9b (x0 : Sl) (x2 : Int) (x3 : Value) (x10 : Int) (Kl1 : Int → Int → World → Prop) (x9_2 : Int) (x11 : Int) (w : World) (Kl9 : Int → World → Prop) : Prop :=
  ((1 ≤ x11) → (opB Try.prog Value.pointer (Instr.indexAt 22 (Sl.v x0) (.int .i64 x11)) w (fun x75 => opB Try.prog T_api_Version.v (Instr.loadAt 37 (.pointer x75)) w (fun x76 => opB Try.prog Value.pointer (Instr.indexAt 22 (Sl.v x0) (.int .i64 (IntKind.wrap .i64 (x11 - 1)))) w (fun x80 => opB Try.prog T_api_Version.v (Instr.loadAt 37 (.pointer x80)) w (fun x81 => ∃ (r_1 : Int), CallQ Try.prog x3 [(T_api_Version.v x76), (T_api_Version.v x81)] w (.int .i64 r_1) ∧ (nextB w (fun w => ((!(decide (r_1 < 0))) = true → (V_slices_partialInsertionSortCmpFunc_api_Version_j6 x0 x2 x3 x10 Kl1 x9_2 w)) ∧ ((!(decide (r_1 < 0))) = false → (nextB w (fun w => opP Try.prog Value.pointer (Instr.indexAt 22 (Sl.v x0) (.int .i64 (IntKind.wrap .i64 (x11 - 1)))) (fun x93 => opP Try.prog Value.pointer (Instr.indexAt 22 (Sl.v x0) (.int .i64 x11)) (fun x97 => (opE Try.prog T_api_Version.v (Instr.loadAt 37 (.pointer x93)) w (fun x94 w => opE Try.prog T_api_Version.v (Instr.loadAt 37 (.pointer x97)) w (fun x98 w => opP Try.prog Value.pointer (Instr.indexAt 22 (Sl.v x0) (.int .i64 x11)) (fun x99 => opU Try.prog (Instr.storeAt 37 (.pointer x99) (T_api_Version.v x94)) w (fun w => opP Try.prog Value.pointer (Instr.indexAt 22 (Sl.v x0) (.int .i64 (IntKind.wrap .i64 (x11 - 1)))) (fun x100 => opU Try.prog (Instr.storeAt 37 (.pointer x100) (T_api_Version.v x98)) w (fun w => V_slices_partialInsertionSortCmpFunc_api_Version_j10 x11 Kl9 w))))))) ∧ (opE Try.prog T_api_Version.v (Instr.loadAt 37 (.pointer x97)) w (fun x98_1 w => opE Try.prog T_api_Version.v (Instr.loadAt 37 (.pointer x93)) w (fun x94_1 w => opP Try.prog Value.pointer (Instr.indexAt 22 (Sl.v x0) (.int .i64 x11)) (fun x99_1 => opU Try.prog (Instr.storeAt 37 (.pointer x99_1) (T_api_Version.v x94_1)) w (fun w => opP Try.prog Value.pointer (Instr.indexAt 22 (Sl.v x0) (.int .i64 (IntKind.wrap .i64 (x11 - 1)))) (fun x100_1 => opU Try.prog (Instr.storeAt 37 (.pointer x100_1) (T_api_Version.v x98_1)) w (fun w => V_slices_partialInsertionSortCmpFunc_api_Version_j10 x11 Kl9 w)))))))))))))))))))) ∧ (¬ (1 ≤ x11) → (V_slices_partialInsertionSortCmpFunc_api_Version_j6 x0 x2 x3 x10 Kl1 x9_2 w))
def V_slices_partialInsertionSortCmpFunc_api_Version_j5 (x0 : Sl) (x1 : Int) (x2 : Int) (x3 : Value) (x10 : Int) (Kl1 : Int → Int → World → Prop) (x9_2 : Int) (w : World) : Prop :=
  ((2 ≤ (IntKind.wrap .i64 (x9_2 - x1))) → (∃ (I : Int → World → Prop) (μ : Int → World → Nat), I (IntKind.wrap .i64 (x9_2 - 1)) w ∧ ∀ (x11 : Int) w, I x11 w → V_slices_partialInsertionSortCmpFunc_api_Version_l9b x0 x2 x3 x10 Kl1 x9_2 x11 w (fun x11' w' => I x11' w' ∧ μ x11' w' < μ x11 w))) ∧ (¬ (2 ≤ (IntKind.wrap .i64 (x9_2 - x1))) → (V_slices_partialInsertionSortCmpFunc_api_Version_j6 x0 x2 x3 x10 Kl1 x9_2 w))
def V_slices_partialInsertionSortCmpFunc_api_Version_r4 (x0 : Sl) (x1 : Int) (x2 : Int) (x3 : Value) (Ret : Bool → World → Prop) (x10 : Int) (Kl1 : Int → Int → World → Prop) (x9_2 : Int) (Kl3 : Int → World → Prop) (x36 : Bool) (w : World) : Prop :=
  nextB w (fun w => (x36 = true → (Kl3 (IntKind.wrap .i64 (x9_2 + 1)) w)) ∧ (x36 = false → (((x9_2 = x2) → (Ret true w)) ∧ (¬ (x9_2 = x2) → ((((IntKind.wrap .i64 (x2 - x1)) < 50) → (Ret false w)) ∧ (¬ ((IntKind.wrap .i64 (x2 - x1)) < 50) → (nextB w (fun w => opP Try.prog Value.pointer (Instr.indexAt 22 (Sl.v x0) (.int .i64 (IntKind.wrap .i64 (x9_2 - 1)))) (fun x54 => opP Try.prog Value.pointer (Instr.indexAt 22 (Sl.v x0) (.int .i64 x9_2)) (fun x58 => (opE Try.prog T_api_Version.v (Instr.loadAt 37 (.pointer x54)) w (fun x55 w => opE Try.prog T_api_Version.v (Instr.loadAt 37 (.pointer x58)) w (fun x59 w => opP Try.prog Value.pointer (Instr.indexAt 22 (Sl.v x0) (.int .i64 x9_2)) (fun x60 => opU Try.prog (Instr.storeAt 37 (.pointer x60) (T_api_Version.v x55)) w (fun w => opP Try.prog Value.pointer (Instr.indexAt 22 (Sl.v x0) (.int .i64 (IntKind.wrap .i64 (x9_2 - 1)))) (fun x61 => opU Try.prog (Instr.storeAt 37 (.pointer x61) (T_api_Version.v x59)) w (fun w => V_slices_partialInsertionSortCmpFunc_api_Version_j5 x0 x1 x2 x3 x10 Kl1 x9_2 w))))))) ∧ (opE Try.prog T_api_Version.v (Instr.loadAt 37 (.pointer x58)) w (fun x59_1 w => opE Try.prog T_api_Version.v (Instr.loadAt 37 (.pointer x54)) w (fun x55_1 w => opP Try.prog Value.pointer (Instr.indexAt 22 (Sl.v x0) (.int .i64 x9_2)) (fun x60_1 => opU Try.prog (Instr.storeAt 37 (.pointer x60_1) (T_api_Version.v x55_1)) w (fun w => opP Try.prog Value.pointer (Instr.indexAt 22 (Sl.v x0) (.int .i64 (IntKind.wrap .i64 (x9_2 - 1)))) (fun x61_1 => opU Try.prog (Instr.storeAt 37 (.pointer x61_1) (T_api_Version.v x59_1)) w (fun w => V_slices_partialInsertionSortCmpFunc_api_Version_j5 x0 x1 x2 x3 x10 Kl1 x9_2 w)))))))))))))))))
def V_slices_partialInsertionSortCmpFunc_api_Version_l3b (x0 : Sl) (x1 : Int) (x2 : Int) (x3 : Value) (Ret : Bool → World → Prop) (x10 : Int) (Kl1 : Int → Int → World → Prop) (x9_2 : Int) (w : World) (Kl3 : Int → World → Prop) : Prop :=
  ((x9_2 < x2) → (opB Try.prog Value.pointer (Instr.indexAt 22 (Sl.v x0) (.int .i64 x9_2)) w (fun x26 => opB Try.prog T_api_Version.v (Instr.loadAt 37 (.pointer x26)) w (fun x27 => opB Try.prog Value.pointer (Instr.indexAt 22 (Sl.v x0) (.int .i64 (IntKind.wrap .i64 (x9_2 - 1)))) w (fun x31 => opB Try.prog T_api_Version.v (Instr.loadAt 37 (.pointer x31)) w (fun x32 => ∃ (r_2 : Int), CallQ Try.prog x3 [(T_api_Version.v x27), (T_api_Version.v x32)] w (.int .i64 r_2) ∧ (V_slices_partialInsertionSortCmpFunc_api_Version_r4 x0 x1 x2 x3 Ret x10 Kl1 x9_2 Kl3 (!(decide (r_2 < 0))) w))))))) ∧ (¬ (x9_2 < x2) → (V_slices_partialInsertionSortCmpFunc_api_Version_r4 x0 x1 x2 x3 Ret x10 Kl1 x9_2 Kl3 false w))
def V_slices_partialInsertionSortCmpFunc_api_Version_l1b (x0 : Sl) (x1 : Int) (x2 : Int) (x3 : Value) (Ret : Bool → World → Prop) (x9 : Int) (x10 : Int) (w : World) (Kl1 : Int → Int → World → Prop) : Prop :=
  ((x10 < 5) → (∃ (I : Int → World → Prop) (μ : Int → World → Nat), I x9 w ∧ ∀ (x9_2 : Int) w, I x9_2 w → V_slices_partialInsertionSortCmpFunc_api_Version_l3b x0 x1 x2 x3 Ret x10 Kl1 x9_2 w (fun x9_2' w' => I x9_2' w' ∧ μ x9_2' w' < μ x9_2 w))) ∧ (¬ (x10 < 5) → (Ret false w))
def V_slices_partialInsertionSortCmpFunc_api_Version (x0 : Sl) (x1 : Int) (x2 : Int) (x3 : Value) (w : World) (Ret : Bool → World → Prop) : Prop :=
  ∃ (I : Int → Int → World → Prop) (μ : Int → Int → World → Nat), I (IntKind.wrap .i64 (x1 + 1)) 0 w ∧ ∀ (x9 : Int) (x10 : Int) w, I x9 x10 w → V_slices_partialInsertionSortCmpFunc_api_Version_l1b x0 x1 x2 x3 Ret x9 x10 w (fun x9' x10' w' => I x9' x10' w' ∧ μ x9' x10' w' < μ x9 x10 w)
set_option maxRecDepth 100000 in
theorem L1_slices_partialInsertionSortCmpFunc_api_Version (x0 : Sl) (x1 : Int) (x2 : Int) (x3 : Value) (w : World) (Ret : Bool → World → Prop) (H : V_slices_partialInsertionSortCmpFunc_api_Version x0 x1 x2 x3 w Ret) : Cl Try.prog 56 [(Sl.v x0), (.int .i64 x1), (.int .i64 x2), x3].toArray w (fun e w' => ∃ (r0 : Bool), e = .returned (.bool r0) ∧ Ret r0 w') := by
  unfold V_slices_partialInsertionSortCmpFunc_api_Version at H
  refine C.enter 141 (zipE 0 [(Sl.v x0), (.int .i64 x1), (.int .i64 x2), x3]) Try.func56 rfl rfl (by rfl) rfl ?_
  intro a hE
  replace hE : Sat [] 141 [(0, (Sl.v x0)), (1, (.int .i64 x1)), (2, (.int .i64 x2)), (3, x3)] a := hE
  refine C.seq ?_
  refine C.region ?_
  refine hE.pur (X.assign hE rfl) fun a hE => ?_
  refine C.nil (tn ?_)
  refine C.seq ?_
  refine C.region ?_
  refine hE.pur (X.move hE rfl) fun a hE => ?_
  refine hE.pur (X.add hE rfl rfl) fun a hE => ?_
  refine hE.pur (X.assign hE rfl) fun a hE => ?_
  refine C.nil (tn ?_)
  refine C.seq ?_
  refine C.seq ?_
  refine C.region ?_
  refine hE.pur (X.assign hE rfl) fun a hE => ?_
  refine C.nil (tn ?_)
  refine C.block ?_
  obtain ⟨I_l1, μ_l1, h0, hb⟩ := H
  refine C.loop (ds := []) (N := 141) (σ := Int × Int) (fun s => [(9, (.int .i64 s.1)), (10, (.int .i64 s.2)), (0, (Sl.v x0)), (1, (.int .i64 x1)), (2, (.int .i64 x2)), (3, x3)]) (fun s w => I_l1 s.1 s.2 w) (fun s w => μ_l1 s.1 s.2 w) ((IntKind.wrap .i64 (x1 + 1)), 0) h0 (hE.weak ⟨rfl, rfl, rfl, rfl, rfl, rfl, trivial⟩) ?_
  rintro ⟨x9, x10⟩ w a hI hE
  try dsimp only at hI hE
  obtain ⟨Kl1, hK_l1⟩ : ∃ K : Int → Int → World → Prop, K = (fun x9' x10' w' => I_l1 x9' x10' w' ∧ μ_l1 x9' x10' w' < μ_l1 x9 x10 w) := ⟨_, rfl⟩
  have H : V_slices_partialInsertionSortCmpFunc_api_Version_l1b x0 x1 x2 x3 Ret x9 x10 w Kl1 := by rw [hK_l1]; exact hb x9 x10 w hI
  clear hb h0 hI
  unfold V_slices_partialInsertionSortCmpFunc_api_Version_l1b at H
  refine C.seq ?_
  refine C.seq ?_
  refine C.region ?_
  refine hE.pur (X.move hE rfl) fun a hE => ?_
  refine hE.pur (X.ltI hE rfl rfl) fun a hE => ?_
  refine C.nil (tn ?_)
  refine C.condP hE rfl (fun hc => ?_) (fun hc => ?_)
  · replace H := H.1 hc
    refine C.skip (tn ?_)
    refine C.join (ds := []) (N := 141) (σ := Int) (fun s => [(9, (.int .i64 s)), (0, (Sl.v x0)), (1, (.int .i64 x1)), (2, (.int .i64 x2)), (3, x3), (10, (.int .i64 x10))]) (fun s w => V_slices_partialInsertionSortCmpFunc_api_Version_j2 x10 Kl1 s w) ?_ (fun hj2 => ?_)
    · intro x9_1 w a H hE
      try dsimp only at H hE
      unfold V_slices_partialInsertionSortCmpFunc_api_Version_j2 at H
      refine C.region ?_
      refine hE.pur (X.move hE rfl) fun a hE => ?_
      refine hE.pur (X.add hE rfl rfl) fun a hE => ?_
      refine hE.pur (X.assign hE rfl) fun a hE => ?_
      rw [hK_l1] at H
      exact C.nil (tn ⟨(x9_1, (IntKind.wrap .i64 (x10 + 1))), hE.weak ⟨rfl, rfl, rfl, rfl, rfl, rfl, trivial⟩, H⟩)
    · refine C.block ?_
      refine C.seq ?_
      refine C.block ?_
      obtain ⟨I_l3, μ_l3, h0, hb⟩ := H
      refine C.loop (ds := []) (N := 141) (σ := Int) (fun s => [(9, (.int .i64 s)), (0, (Sl.v x0)), (1, (.int .i64 x1)), (2, (.int .i64 x2)), (3, x3), (10, (.int .i64 x10))]) (fun s w => I_l3 s w) (fun s w => μ_l3 s w) x9 h0 (hE.weak ⟨rfl, rfl, rfl, rfl, rfl, rfl, trivial⟩) ?_
      intro x9_2 w a hI hE
      try dsimp only at hI hE
      obtain ⟨Kl3, hK_l3⟩ : ∃ K : Int → World → Prop, K = (fun x9_2' w' => I_l3 x9_2' w' ∧ μ_l3 x9_2' w' < μ_l3 x9_2 w) := ⟨_, rfl⟩
      have H : V_slices_partialInsertionSortCmpFunc_api_Version_l3b x0 x1 x2 x3 Ret x10 Kl1 x9_2 w Kl3 := by rw [hK_l3]; exact hb x9_2 w hI
      clear hb h0 hI
      unfold V_slices_partialInsertionSortCmpFunc_api_Version_l3b at H
      refine C.seq ?_
      refine C.seq ?_
      refine C.draw (by kernel_rfl) (by kernel_rfl) ?_
      refine hE.qpur (X.move hE rfl) fun a hE => ?_
      refine hE.qpur (X.move hE rfl) fun a hE => ?_
      refine hE.qpur (X.ltI hE rfl rfl) fun a hE => ?_
      refine hE.qpur (X.move hE rfl) fun a hE => ?_
      refine WQ.join (ds := []) (N := 141) (σ := Bool) (fun s => [(36, (.bool s)), (0, (Sl.v x0)), (1, (.int .i64 x1)), (2, (.int .i64 x2)), (3, x3), (9, (.int .i64 x9_2)), (10, (.int .i64 x10))]) (fun s => V_slices_partialInsertionSortCmpFunc_api_Version_r4 x0 x1 x2 x3 Ret x10 Kl1 x9_2 Kl3 s w) 14 ?_ (fun hr4 => ?_)
      · intro x36 a H hE
        try dsimp only at H hE
        unfold V_slices_partialInsertionSortCmpFunc_api_Version_r4 at H
        refine C.qnil (fun w hB => ?_)
        replace H := H w hB
        refine (tn ?_)
        refine C.condB hE rfl (fun hc => ?_) (fun hc => ?_)
        · replace H := H.1 hc
          refine C.skip (tn ?_)
          refine C.block ?_
          refine C.region ?_
          refine hE.pur (X.move hE rfl) fun a hE => ?_
          refine hE.pur (X.add hE rfl rfl) fun a hE => ?_
          refine hE.pur (X.assign hE rfl) fun a hE => ?_
          rw [hK_l3] at H
          exact C.nil (bn (tn ⟨(IntKind.wrap .i64 (x9_2 + 1)), hE.weak ⟨rfl, rfl, rfl, rfl, rfl, rfl, trivial⟩, H⟩))
        · replace H := H.2 hc
          refine C.exit (te (te (be (tn ?_))))
          refine C.seq ?_
          refine C.seq ?_
          refine C.region ?_
          refine hE.pur (X.move hE rfl) fun a hE => ?_
          refine hE.pur (X.move hE rfl) fun a hE => ?_
          refine hE.pur (X.eqI hE rfl rfl) fun a hE => ?_
          refine C.nil (tn ?_)
          refine C.condP hE rfl (fun hc => ?_) (fun hc => ?_)
          · replace H := H.1 hc
            refine C.seq ?_
            refine C.region ?_
            refine hE.pur (X.assign hE rfl) fun a hE => ?_
            refine C.nil (tn ?_)
            exact C.ret (tr (br (tr (tr (br (tr (C.ret1 hE rfl rfl ⟨_, rfl, H⟩)))))))
          · replace H := H.2 hc
            refine C.skip (tn ?_)
            refine C.seq ?_
            refine C.seq ?_
            refine C.region ?_
            refine hE.pur (X.move hE rfl) fun a hE => ?_
            refine hE.pur (X.move hE rfl) fun a hE => ?_
            refine hE.pur (X.sub hE rfl rfl) fun a hE => ?_
            refine hE.pur (X.ltI hE rfl rfl) fun a hE => ?_
            refine C.nil (tn ?_)
            refine C.condP hE rfl (fun hc => ?_) (fun hc => ?_)
            · replace H := H.1 hc
              refine C.seq ?_
              refine C.region ?_
              refine hE.pur (X.assign hE rfl) fun a hE => ?_
              refine C.nil (tn ?_)
              exact C.ret (tr (br (tr (tr (br (tr (C.ret1 hE rfl rfl ⟨_, rfl, H⟩)))))))
            · replace H := H.2 hc
              refine C.skip (tn ?_)
              refine C.join (ds := []) (N := 141) (σ := Unit) (fun s => [(0, (Sl.v x0)), (1, (.int .i64 x1)), (2, (.int .i64 x2)), (3, x3), (9, (.int .i64 x9_2)), (10, (.int .i64 x10))]) (fun s w => V_slices_partialInsertionSortCmpFunc_api_Version_j5 x0 x1 x2 x3 x10 Kl1 x9_2  w) ?_ (fun hj5 => ?_)
              · rintro ⟨⟩ w a H hE
                try dsimp only at H hE
                unfold V_slices_partialInsertionSortCmpFunc_api_Version_j5 at H
                refine C.join (ds := []) (N := 141) (σ := Unit) (fun s => [(0, (Sl.v x0)), (1, (.int .i64 x1)), (2, (.int .i64 x2)), (3, x3), (9, (.int .i64 x9_2)), (10, (.int .i64 x10))]) (fun s w => V_slices_partialInsertionSortCmpFunc_api_Version_j6 x0 x2 x3 x10 Kl1 x9_2  w) ?_ (fun hj6 => ?_)
                · rintro ⟨⟩ w a H hE
                  try dsimp only at H hE
                  unfold V_slices_partialInsertionSortCmpFunc_api_Version_j6 at H
                  refine C.seq ?_
                  refine C.region ?_
                  refine hE.pur (X.move hE rfl) fun a hE => ?_
                  refine hE.pur (X.move hE rfl) fun a hE => ?_
                  refine hE.pur (X.sub hE rfl rfl) fun a hE => ?_
                  refine hE.pur (X.geI hE rfl rfl) fun a hE => ?_
                  refine C.nil (tn ?_)
                  refine C.condP hE rfl (fun hc => ?_) (fun hc => ?_)
                  · replace H := H.1 hc
                    refine C.seq ?_
                    refine C.region ?_
                    refine hE.pur (X.move hE rfl) fun a hE => ?_
                    refine hE.pur (X.add hE rfl rfl) fun a hE => ?_
                    refine hE.pur (X.assign hE rfl) fun a hE => ?_
                    refine C.nil (tn ?_)
                    refine C.block ?_
                    obtain ⟨I_l7, μ_l7, h0, hb⟩ := H
                    refine C.loop (ds := []) (N := 141) (σ := Int) (fun s => [(12, (.int .i64 s)), (0, (Sl.v x0)), (1, (.int .i64 x1)), (2, (.int .i64 x2)), (3, x3), (9, (.int .i64 x9_2)), (10, (.int .i64 x10))]) (fun s w => I_l7 s w) (fun s w => μ_l7 s w) (IntKind.wrap .i64 (x9_2 + 1)) h0 (hE.weak ⟨rfl, rfl, rfl, rfl, rfl, rfl, rfl, trivial⟩) ?_
                    intro x12 w a hI hE
                    try dsimp only at hI hE
                    obtain ⟨Kl7, hK_l7⟩ : ∃ K : Int → World → Prop, K = (fun x12' w' => I_l7 x12' w' ∧ μ_l7 x12' w' < μ_l7 x12 w) := ⟨_, rfl⟩
                    have H : V_slices_partialInsertionSortCmpFunc_api_Version_l7b x0 x2 x3 x10 Kl1 x9_2 x12 w Kl7 := by rw [hK_l7]; exact hb x12 w hI
                    clear hb h0 hI
                    unfold V_slices_partialInsertionSortCmpFunc_api_Version_l7b at H
                    refine C.seq ?_
                    refine C.seq ?_
                    refine C.region ?_
                    refine hE.pur (X.move hE rfl) fun a hE => ?_
                    refine hE.pur (X.move hE rfl) fun a hE => ?_
                    refine hE.pur (X.ltI hE rfl rfl) fun a hE => ?_
                    refine C.nil (tn ?_)
                    refine C.condP hE rfl (fun hc => ?_) (fun hc => ?_)
                    · replace H := H.1 hc
                      refine C.skip (tn ?_)
                      refine C.join (ds := []) (N := 141) (σ := Unit) (fun s => [(0, (Sl.v x0)), (1, (.int .i64 x1)), (2, (.int .i64 x2)), (3, x3), (9, (.int .i64 x9_2)), (10, (.int .i64 x10)), (12, (.int .i64 x12))]) (fun s w => V_slices_partialInsertionSortCmpFunc_api_Version_j8 x12 Kl7  w) ?_ (fun hj8 => ?_)
                      · rintro ⟨⟩ w a H hE
                        try dsimp only at H hE
                        unfold V_slices_partialInsertionSortCmpFunc_api_Version_j8 at H
                        refine C.region ?_
                        refine hE.pur (X.move hE rfl) fun a hE => ?_
                        refine hE.pur (X.add hE rfl rfl) fun a hE => ?_
                        refine hE.pur (X.assign hE rfl) fun a hE => ?_
                        rw [hK_l7] at H
                        exact C.nil (tn ⟨(IntKind.wrap .i64 (x12 + 1)), hE.weak ⟨rfl, rfl, rfl, rfl, rfl, rfl, rfl, trivial⟩, H⟩)
                      · refine C.block ?_
                        refine C.seq ?_
                        refine C.seq ?_
                        refine C.draw (by kernel_rfl) (by kernel_rfl) ?_
                        refine hE.qpur (X.move hE rfl) fun a hE => ?_
                        refine hE.qpur (X.move hE rfl) fun a hE => ?_
                        refine hE.qpur (X.move hE rfl) fun a hE => ?_
                        refine hE.qop (X.indexAddr hE rfl rfl) H fun x115 a H hE => ?_
                        refine hE.qop (X.load hE rfl) H fun x116 a H hE => ?_
                        refine hE.qpur (X.move hE rfl) fun a hE => ?_
                        refine hE.qpur (X.move hE rfl) fun a hE => ?_
                        refine hE.qpur (X.sub hE rfl rfl) fun a hE => ?_
                        refine hE.qop (X.indexAddr hE rfl rfl) H fun x120 a H hE => ?_
                        refine hE.qop (X.load hE rfl) H fun x121 a H hE => ?_
                        obtain ⟨r, hc, H⟩ := H
                        refine hE.qcallV rfl rfl hc fun a hE => ?_
                        refine hE.qpur (X.ltI hE rfl rfl) fun a hE => ?_
                        refine hE.qpur (X.not hE rfl) fun a hE => ?_
                        refine C.qnil (fun w hB => ?_)
                        replace H := H w hB
                        refine (tn ?_)
                        refine C.condB hE rfl (fun hc => ?_) (fun hc => ?_)
                        · replace H := H.1 hc
                          exact C.exit (te (bo (te (te (be (bn (tn (hj2 x9_2 _ _ H (hE.weak ⟨rfl, rfl, rfl, rfl, rfl, rfl, trivial⟩)))))))))
                        · replace H := H.2 hc
                          refine C.skip (tn ?_)
                          refine C.any 18 #[false, false, false, false, false, false, false, false, false, false, false, false, false, false, false, false, false, false] (by kernel_rfl) (fun w hB => ?_)
                          replace H := H w hB
                          refine hE.apur (i := 0) (fun _ _ _ _ _ h => h) (by kernel_rfl) rfl (by kernel_rfl) (by kernel_rfl) (by rfl) (l2 := #[true, false, false, false, false, false, false, false, false, false, false, false, false, false, false, false, false, false]) (pn_run (X.move hE rfl)) fun a hE => ?_
                          refine hE.apur (i := 1) (fun _ _ _ _ _ h => h) (by kernel_rfl) rfl (by kernel_rfl) (by kernel_rfl) (by rfl) (l2 := #[true, true, false, false, false, false, false, false, false, false, false, false, false, false, false, false, false, false]) (pn_run (X.move hE rfl)) fun a hE => ?_
                          refine hE.apur (i := 2) (fun _ _ _ _ _ h => h) (by kernel_rfl) rfl (by kernel_rfl) (by kernel_rfl) (by rfl) (l2 := #[true, true, true, false, false, false, false, false, false, false, false, false, false, false, false, false, false, false]) (pn_run (X.move hE rfl)) fun a hE => ?_
                          refine hE.apur (i := 3) (fun _ _ _ _ _ h => h) (by kernel_rfl) rfl (by kernel_rfl) (by kernel_rfl) (by rfl) (l2 := #[true, true, true, true, false, false, false, false, false, false, false, false, false, false, false, false, false, false]) (pn_run (X.move hE rfl)) fun a hE => ?_
                          refine hE.apur (i := 4) (fun _ _ _ _ _ h => h) (by kernel_rfl) rfl (by kernel_rfl) (by kernel_rfl) (by rfl) (l2 := #[true, true, true, true, true, false, false, false, false, false, false, false, false, false, false, false, false, false]) (pn_run (X.sub hE rfl rfl)) fun a hE => ?_
                          refine hE.apur (i := 5) (fun _ _ _ _ _ h => h) (by kernel_rfl) rfl (by kernel_rfl) (by kernel_rfl) (by rfl) (l2 := #[true, true, true, true, true, true, false, false, false, false, false, false, false, false, false, false, false, false]) (pn_run (X.move hE rfl)) fun a hE => ?_
                          refine hE.apur (i := 6) (fun _ _ _ _ _ h => h) (by kernel_rfl) rfl (by kernel_rfl) (by kernel_rfl) (by rfl) (l2 := #[true, true, true, true, true, true, true, false, false, false, false, false, false, false, false, false, false, false]) (pn_run (X.move hE rfl)) fun a hE => ?_
                          refine hE.apur (i := 7) (fun _ _ _ _ _ h => h) (by kernel_rfl) rfl (by kernel_rfl) (by kernel_rfl) (by rfl) (l2 := #[true, true, true, true, true, true, true, true, false, false, false, false, false, false, false, false, false, false]) (pn_run (X.sub hE rfl rfl)) fun a hE => ?_
                          refine hE.aop (i := 8) (fun _ _ _ _ _ h => h) (by kernel_rfl) rfl (by kernel_rfl) (by kernel_rfl) (by rfl) (l2 := #[true, true, true, true, true, true, true, true, true, false, false, false, false, false, false, false, false, false]) (X.indexAddr hE rfl rfl) H fun x133 a H hE => ?_
                          refine hE.apur (i := 10) (fun _ _ _ _ _ h => h) (by kernel_rfl) rfl (by kernel_rfl) (by kernel_rfl) (by rfl) (l2 := #[true, true, true, true, true, true, true, true, true, false, true, false, false, false, false, false, false, false]) (pn_run (X.move hE rfl)) fun a hE => ?_
                          refine hE.apur (i := 11) (fun _ _ _ _ _ h => h) (by kernel_rfl) rfl (by kernel_rfl) (by kernel_rfl) (by rfl) (l2 := #[true, true, true, true, true, true, true, true, true, false, true, true, false, false, false, false, false, false]) (pn_run (X.move hE rfl)) fun a hE => ?_
                          refine hE.aop (i := 12) (fun _ _ _ _ _ h => h) (by kernel_rfl) rfl (by kernel_rfl) (by kernel_rfl) (by rfl) (l2 := #[true, true, true, true, true, true, true, true, true, false, true, true, true, false, false, false, false, false]) (X.indexAddr hE rfl rfl) H fun x137 a H hE => ?_
                          refine WA.two (i := 9) (j := 13) (l2 := #[true, true, true, true, true, true, true, true, true, true, true, true, true, false, false, false, false, false]) (l3 := #[true, true, true, true, true, true, true, true, true, false, true, true, true, true, false, false, false, false]) rfl rfl (by kernel_rfl) (by rfl) (by rfl) ?_ ?_
                          · replace H := H.1
                            intro K hK
                            refine hE.wop (X.load hE rfl) H fun x134 w a H hE => ?_
                            refine hK _ _ ?_
                            refine WA.one (i := 13) (l2 := #[true, true, true, true, true, true, true, true, true, true, true, true, true, true, false, false, false, false]) rfl (by kernel_rfl) (by rfl) ?_
                            intro K hK
                            refine hE.wop (X.load hE rfl) H fun x138 w a H hE => ?_
                            refine hK _ _ ?_
                            refine hE.aop (i := 14) (fun _ _ _ _ _ h => h) (by kernel_rfl) rfl (by kernel_rfl) (by kernel_rfl) (by rfl) (l2 := #[true, true, true, true, true, true, true, true, true, true, true, true, true, true, true, false, false, false]) (X.indexAddr hE rfl rfl) H fun x139 a H hE => ?_
                            refine WA.one (i := 15) (l2 := #[true, true, true, true, true, true, true, true, true, true, true, true, true, true, true, true, false, false]) rfl (by kernel_rfl) (by rfl) ?_
                            intro K hK
                            refine hE.wopu (X.store hE rfl rfl) H fun w a H hE => ?_
                            refine hK _ _ ?_
                            refine hE.aop (i := 16) (fun _ _ _ _ _ h => h) (by kernel_rfl) rfl (by kernel_rfl) (by kernel_rfl) (by rfl) (l2 := #[true, true, true, true, true, true, true, true, true, true, true, true, true, true, true, true, true, false]) (X.indexAddr hE rfl rfl) H fun x140 a H hE => ?_
                            refine WA.one (i := 17) (l2 := #[true, true, true, true, true, true, true, true, true, true, true, true, true, true, true, true, true, true]) rfl (by kernel_rfl) (by rfl) ?_
                            intro K hK
                            refine hE.wopu (X.store hE rfl rfl) H fun w a H hE => ?_
                            refine hK _ _ ?_
                            refine WA.nil (by kernel_rfl) ?_
                            exact (bn (tn (hj8 () _ _ H (hE.weak ⟨rfl, rfl, rfl, rfl, rfl, rfl, rfl, trivial⟩))))
                          · replace H := H.2
                            intro K hK
                            refine hE.wop (X.load hE rfl) H fun x138_1 w a H hE => ?_
                            refine hK _ _ ?_
                            refine WA.one (i := 9) (l2 := #[true, true, true, true, true, true, true, true, true, true, true, true, true, true, false, false, false, false]) rfl (by kernel_rfl) (by rfl) ?_
                            intro K hK
                            refine hE.wop (X.load hE rfl) H fun x134_1 w a H hE => ?_
                            refine hK _ _ ?_
                            refine hE.aop (i := 14) (fun _ _ _ _ _ h => h) (by kernel_rfl) rfl (by kernel_rfl) (by kernel_rfl) (by rfl) (l2 := #[true, true, true, true, true, true, true, true, true, true, true, true, true, true, true, false, false, false]) (X.indexAddr hE rfl rfl) H fun x139_1 a H hE => ?_
                            refine WA.one (i := 15) (l2 := #[true, true, true, true, true, true, true, true, true, true, true, true, true, true, true, true, false, false]) rfl (by kernel_rfl) (by rfl) ?_
                            intro K hK
                            refine hE.wopu (X.store hE rfl rfl) H fun w a H hE => ?_
                            refine hK _ _ ?_
                            refine hE.aop (i := 16) (fun _ _ _ _ _ h => h) (by kernel_rfl) rfl (by kernel_rfl) (by kernel_rfl) (by rfl) (l2 := #[true, true, true, true, true, true, true, true, true, true, true, true, true, true, true, true, true, false]) (X.indexAddr hE rfl rfl) H fun x140_1 a H hE => ?_
                            refine WA.one (i := 17) (l2 := #[true, true, true, true, true, true, true, true, true, true, true, true, true, true, true, true, true, true]) rfl (by kernel_rfl) (by rfl) ?_
                            intro K hK
                            refine hE.wopu (X.store hE rfl rfl) H fun w a H hE => ?_
                            refine hK _ _ ?_
                            refine WA.nil (by kernel_rfl) ?_
                            exact (bn (tn (hj8 () _ _ H (hE.weak ⟨rfl, rfl, rfl, rfl, rfl, rfl, rfl, trivial⟩))))
                    · replace H := H.2 hc
                      exact C.exit (te (te (be (bn (tn (hj2 x9_2 _ _ H (hE.weak ⟨rfl, rfl, rfl, rfl, rfl, rfl, trivial⟩)))))))
                  · replace H := H.2 hc
                    exact C.skip (bn (tn (hj2 x9_2 _ _ H (hE.weak ⟨rfl, rfl, rfl, rfl, rfl, rfl, trivial⟩))))
                · refine C.seq ?_
                  refine C.region ?_
                  refine hE.pur (X.move hE rfl) fun a hE => ?_
                  refine hE.pur (X.move hE rfl) fun a hE => ?_
                  refine hE.pur (X.sub hE rfl rfl) fun a hE => ?_
                  refine hE.pur (X.geI hE rfl rfl) fun a hE => ?_
                  refine C.nil (tn ?_)
                  refine C.condP hE rfl (fun hc => ?_) (fun hc => ?_)
                  · replace H := H.1 hc
                    refine C.seq ?_
                    refine C.region ?_
                    refine hE.pur (X.move hE rfl) fun a hE => ?_
                    refine hE.pur (X.sub hE rfl rfl) fun a hE => ?_
                    refine hE.pur (X.assign hE rfl) fun a hE => ?_
                    refine C.nil (tn ?_)
                    refine C.block ?_
                    obtain ⟨I_l9, μ_l9, h0, hb⟩ := H
                    refine C.loop (ds := []) (N := 141) (σ := Int) (fun s => [(11, (.int .i64 s)), (0, (Sl.v x0)), (1, (.int .i64 x1)), (2, (.int .i64 x2)), (3, x3), (9, (.int .i64 x9_2)), (10, (.int .i64 x10))]) (fun s w => I_l9 s w) (fun s w => μ_l9 s w) (IntKind.wrap .i64 (x9_2 - 1)) h0 (hE.weak ⟨rfl, rfl, rfl, rfl, rfl, rfl, rfl, trivial⟩) ?_
                    intro x11 w a hI hE
                    try dsimp only at hI hE
                    obtain ⟨Kl9, hK_l9⟩ : ∃ K : Int → World → Prop, K = (fun x11' w' => I_l9 x11' w' ∧ μ_l9 x11' w' < μ_l9 x11 w) := ⟨_, rfl⟩
                    have H : V_slices_partialInsertionSortCmpFunc_api_Version_l9b x0 x2 x3 x10 Kl1 x9_2 x11 w Kl9 := by rw [hK_l9]; exact hb x11 w hI
                    clear hb h0 hI
                    unfold V_slices_partialInsertionSortCmpFunc_api_Version_l9b at H
                    refine C.seq ?_
                    refine C.seq ?_
                    refine C.region ?_
                    refine hE.pur (X.move hE rfl) fun a hE => ?_
                    refine hE.pur (X.geI hE rfl rfl) fun a hE => ?_
                    refine C.nil (tn ?_)
                    refine C.condP hE rfl (fun hc => ?_) (fun hc => ?_)
                    · replace H := H.1 hc
                      refine C.skip (tn ?_)
                      refine C.join (ds := []) (N := 141) (σ := Unit) (fun s => [(0, (Sl.v x0)), (1, (.int .i64 x1)), (2, (.int .i64 x2)), (3, x3), (9, (.int .i64 x9_2)), (10, (.int .i64 x10)), (11, (.int .i64 x11))]) (fun s w => V_slices_partialInsertionSortCmpFunc_api_Version_j10 x11 Kl9  w) ?_ (fun hj10 => ?_)
                      · rintro ⟨⟩ w a H hE
                        try dsimp only at H hE
                        unfold V_slices_partialInsertionSortCmpFunc_api_Version_j10 at H
                        refine C.region ?_
                        refine hE.pur (X.move hE rfl) fun a hE => ?_
                        refine hE.pur (X.sub hE rfl rfl) fun a hE => ?_
                        refine hE.pur (X.assign hE rfl) fun a hE => ?_
                        rw [hK_l9] at H
                        exact C.nil (tn ⟨(IntKind.wrap .i64 (x11 - 1)), hE.weak ⟨rfl, rfl, rfl, rfl, rfl, rfl, rfl, trivial⟩, H⟩)
                      · refine C.block ?_
                        refine C.seq ?_
                        refine C.seq ?_
                        refine C.draw (by kernel_rfl) (by kernel_rfl) ?_
                        refine hE.qpur (X.move hE rfl) fun a hE => ?_
                        refine hE.qpur (X.move hE rfl) fun a hE => ?_
                        refine hE.qpur (X.move hE rfl) fun a hE => ?_
                        refine hE.qop (X.indexAddr hE rfl rfl) H fun x75 a H hE => ?_
                        refine hE.qop (X.load hE rfl) H fun x76 a H hE => ?_
                        refine hE.qpur (X.move hE rfl) fun a hE => ?_
                        refine hE.qpur (X.move hE rfl) fun a hE => ?_
                        refine hE.qpur (X.sub hE rfl rfl) fun a hE => ?_
                        refine hE.qop (X.indexAddr hE rfl rfl) H fun x80 a H hE => ?_
                        refine hE.qop (X.load hE rfl) H fun x81 a H hE => ?_
                        obtain ⟨r_1, hc, H⟩ := H
                        refine hE.qcallV rfl rfl hc fun a hE => ?_
                        refine hE.qpur (X.ltI hE rfl rfl) fun a hE => ?_
                        refine hE.qpur (X.not hE rfl) fun a hE => ?_
                        refine C.qnil (fun w hB => ?_)
                        replace H := H w hB
                        refine (tn ?_)
                        refine C.condB hE rfl (fun hc => ?_) (fun hc => ?_)
                        · replace H := H.1 hc
                          exact C.exit (te (bo (te (te (be (tn (hj6 () _ _ H (hE.weak ⟨rfl, rfl, rfl, rfl, rfl, rfl, trivial⟩))))))))
                        · replace H := H.2 hc
                          refine C.skip (tn ?_)
                          refine C.any 18 #[false, false, false, false, false, false, false, false, false, false, false, false, false, false, false, false, false, false] (by kernel_rfl) (fun w hB => ?_)
                          replace H := H w hB
                          refine hE.apur (i := 0) (fun _ _ _ _ _ h => h) (by kernel_rfl) rfl (by kernel_rfl) (by kernel_rfl) (by rfl) (l2 := #[true, false, false, false, false, false, false, false, false, false, false, false, false, false, false, false, false, false]) (pn_run (X.move hE rfl)) fun a hE => ?_
                          refine hE.apur (i := 1) (fun _ _ _ _ _ h => h) (by kernel_rfl) rfl (by kernel_rfl) (by kernel_rfl) (by rfl) (l2 := #[true, true, false, false, false, false, false, false, false, false, false, false, false, false, false, false, false, false]) (pn_run (X.move hE rfl)) fun a hE => ?_
                          refine hE.apur (i := 2) (fun _ _ _ _ _ h => h) (by kernel_rfl) rfl (by kernel_rfl) (by kernel_rfl) (by rfl) (l2 := #[true, true, true, false, false, false, false, false, false, false, false, false, false, false, false, false, false, false]) (pn_run (X.move hE rfl)) fun a hE => ?_
                          refine hE.apur (i := 3) (fun _ _ _ _ _ h => h) (by kernel_rfl) rfl (by kernel_rfl) (by kernel_rfl) (by rfl) (l2 := #[true, true, true, true, false, false, false, false, false, false, false, false, false, false, false, false, false, false]) (pn_run (X.move hE rfl)) fun a hE => ?_
                          refine hE.apur (i := 4) (fun _ _ _ _ _ h => h) (by kernel_rfl) rfl (by kernel_rfl) (by kernel_rfl) (by rfl) (l2 := #[true, true, true, true, true, false, false, false, false, false, false, false, false, false, false, false, false, false]) (pn_run (X.sub hE rfl rfl)) fun a hE => ?_
                          refine hE.apur (i := 5) (fun _ _ _ _ _ h => h) (by kernel_rfl) rfl (by kernel_rfl) (by kernel_rfl) (by rfl) (l2 := #[true, true, true, true, true, true, false, false, false, false, false, false, false, false, false, false, false, false]) (pn_run (X.move hE rfl)) fun a hE => ?_
                          refine hE.apur (i := 6) (fun _ _ _ _ _ h => h) (by kernel_rfl) rfl (by kernel_rfl) (by kernel_rfl) (by rfl) (l2 := #[true, true, true, true, true, true, true, false, false, false, false, false, false, false, false, false, false, false]) (pn_run (X.move hE rfl)) fun a hE => ?_
                          refine hE.apur (i := 7) (fun _ _ _ _ _ h => h) (by kernel_rfl) rfl (by kernel_rfl) (by kernel_rfl) (by rfl) (l2 := #[true, true, true, true, true, true, true, true, false, false, false, false, false, false, false, false, false, false]) (pn_run (X.sub hE rfl rfl)) fun a hE => ?_
                          refine hE.aop (i := 8) (fun _ _ _ _ _ h => h) (by kernel_rfl) rfl (by kernel_rfl) (by kernel_rfl) (by rfl) (l2 := #[true, true, true, true, true, true, true, true, true, false, false, false, false, false, false, false, false, false]) (X.indexAddr hE rfl rfl) H fun x93 a H hE => ?_
                          refine hE.apur (i := 10) (fun _ _ _ _ _ h => h) (by kernel_rfl) rfl (by kernel_rfl) (by kernel_rfl) (by rfl) (l2 := #[true, true, true, true, true, true, true, true, true, false, true, false, false, false, false, false, false, false]) (pn_run (X.move hE rfl)) fun a hE => ?_
                          refine hE.apur (i := 11) (fun _ _ _ _ _ h => h) (by kernel_rfl) rfl (by kernel_rfl) (by kernel_rfl) (by rfl) (l2 := #[true, true, true, true, true, true, true, true, true, false, true, true, false, false, false, false, false, false]) (pn_run (X.move hE rfl)) fun a hE => ?_
                          refine hE.aop (i := 12) (fun _ _ _ _ _ h => h) (by kernel_rfl) rfl (by kernel_rfl) (by kernel_rfl) (by rfl) (l2 := #[true, true, true, true, true, true, true, true, true, false, true, true, true, false, false, false, false, false]) (X.indexAddr hE rfl rfl) H fun x97 a H hE => ?_
                          refine WA.two (i := 9) (j := 13) (l2 := #[true, true, true, true, true, true, true, true, true, true, true, true, true, false, false, false, false, false]) (l3 := #[true, true, true, true, true, true, true, true, true, false, true, true, true, true, false, false, false, false]) rfl rfl (by kernel_rfl) (by rfl) (by rfl) ?_ ?_
                          · replace H := H.1
                            intro K hK
                            refine hE.wop (X.load hE rfl) H fun x94 w a H hE => ?_
                            refine hK _ _ ?_
                            refine WA.one (i := 13) (l2 := #[true, true, true, true, true, true, true, true, true, true, true, true, true, true, false, false, false, false]) rfl (by kernel_rfl) (by rfl) ?_
                            intro K hK
                            refine hE.wop (X.load hE rfl) H fun x98 w a H hE => ?_
                            refine hK _ _ ?_
                            refine hE.aop (i := 14) (fun _ _ _ _ _ h => h) (by kernel_rfl) rfl (by kernel_rfl) (by kernel_rfl) (by rfl) (l2 := #[true, true, true, true, true, true, true, true, true, true, true, true, true, true, true, false, false, false]) (X.indexAddr hE rfl rfl) H fun x99 a H hE => ?_
                            refine WA.one (i := 15) (l2 := #[true, true, true, true, true, true, true, true, true, true, true, true, true, true, true, true, false, false]) rfl (by kernel_rfl) (by rfl) ?_
                            intro K hK
                            refine hE.wopu (X.store hE rfl rfl) H fun w a H hE => ?_
                            refine hK _ _ ?_
                            refine hE.aop (i := 16) (fun _ _ _ _ _ h => h) (by kernel_rfl) rfl (by kernel_rfl) (by kernel_rfl) (by rfl) (l2 := #[true, true, true, true, true, true, true, true, true, true, true, true, true, true, true, true, true, false]) (X.indexAddr hE rfl rfl) H fun x100 a H hE => ?_
                            refine WA.one (i := 17) (l2 := #[true, true, true, true, true, true, true, true, true, true, true, true, true, true, true, true, true, true]) rfl (by kernel_rfl) (by rfl) ?_
                            intro K hK
                            refine hE.wopu (X.store hE rfl rfl) H fun w a H hE => ?_
                            refine hK _ _ ?_
                            refine WA.nil (by kernel_rfl) ?_
                            exact (bn (tn (hj10 () _ _ H (hE.weak ⟨rfl, rfl, rfl, rfl, rfl, rfl, rfl, trivial⟩))))
                          · replace H := H.2
                            intro K hK
                            refine hE.wop (X.load hE rfl) H fun x98_1 w a H hE => ?_
                            refine hK _ _ ?_
                            refine WA.one (i := 9) (l2 := #[true, true, true, true, true, true, true, true, true, true, true, true, true, true, false, false, false, false]) rfl (by kernel_rfl) (by rfl) ?_
                            intro K hK
                            refine hE.wop (X.load hE rfl) H fun x94_1 w a H hE => ?_
                            refine hK _ _ ?_
                            refine hE.aop (i := 14) (fun _ _ _ _ _ h => h) (by kernel_rfl) rfl (by kernel_rfl) (by kernel_rfl) (by rfl) (l2 := #[true, true, true, true, true, true, true, true, true, true, true, true, true, true, true, false, false, false]) (X.indexAddr hE rfl rfl) H fun x99_1 a H hE => ?_
                            refine WA.one (i := 15) (l2 := #[true, true, true, true, true, true, true, true, true, true, true, true, true, true, true, true, false, false]) rfl (by kernel_rfl) (by rfl) ?_
                            intro K hK
                            refine hE.wopu (X.store hE rfl rfl) H fun w a H hE => ?_
                            refine hK _ _ ?_
                            refine hE.aop (i := 16) (fun _ _ _ _ _ h => h) (by kernel_rfl) rfl (by kernel_rfl) (by kernel_rfl) (by rfl) (l2 := #[true, true, true, true, true, true, true, true, true, true, true, true, true, true, true, true, true, false]) (X.indexAddr hE rfl rfl) H fun x100_1 a H hE => ?_
                            refine WA.one (i := 17) (l2 := #[true, true, true, true, true, true, true, true, true, true, true, true, true, true, true, true, true, true]) rfl (by kernel_rfl) (by rfl) ?_
                            intro K hK
                            refine hE.wopu (X.store hE rfl rfl) H fun w a H hE => ?_
                            refine hK _ _ ?_
                            refine WA.nil (by kernel_rfl) ?_
                            exact (bn (tn (hj10 () _ _ H (hE.weak ⟨rfl, rfl, rfl, rfl, rfl, rfl, rfl, trivial⟩))))
                    · replace H := H.2 hc
                      exact C.exit (te (te (be (tn (hj6 () _ _ H (hE.weak ⟨rfl, rfl, rfl, rfl, rfl, rfl, trivial⟩))))))
                  · replace H := H.2 hc
                    exact C.skip (tn (hj6 () _ _ H (hE.weak ⟨rfl, rfl, rfl, rfl, rfl, rfl, trivial⟩)))
              · refine C.any 18 #[false, false, false, false, false, false, false, false, false, false, false, false, false, false, false, false, false, false] (by kernel_rfl) (fun w hB => ?_)
                replace H := H w hB
                refine hE.apur (i := 0) (fun _ _ _ _ _ h => h) (by kernel_rfl) rfl (by kernel_rfl) (by kernel_rfl) (by rfl) (l2 := #[true, false, false, false, false, false, false, false, false, false, false, false, false, false, false, false, false, false]) (pn_run (X.move hE rfl)) fun a hE => ?_
                refine hE.apur (i := 1) (fun _ _ _ _ _ h => h) (by kernel_rfl) rfl (by kernel_rfl) (by kernel_rfl) (by rfl) (l2 := #[true, true, false, false, false, false, false, false, false, false, false, false, false, false, false, false, false, false]) (pn_run (X.move hE rfl)) fun a hE => ?_
                refine hE.apur (i := 2) (fun _ _ _ _ _ h => h) (by kernel_rfl) rfl (by kernel_rfl) (by kernel_rfl) (by rfl) (l2 := #[true, true, true, false, false, false, false, false, false, false, false, false, false, false, false, false, false, false]) (pn_run (X.move hE rfl)) fun a hE => ?_
                refine hE.apur (i := 3) (fun _ _ _ _ _ h => h) (by kernel_rfl) rfl (by kernel_rfl) (by kernel_rfl) (by rfl) (l2 := #[true, true, true, true, false, false, false, false, false, false, false, false, false, false, false, false, false, false]) (pn_run (X.move hE rfl)) fun a hE => ?_
                refine hE.apur (i := 4) (fun _ _ _ _ _ h => h) (by kernel_rfl) rfl (by kernel_rfl) (by kernel_rfl) (by rfl) (l2 := #[true, true, true, true, true, false, false, false, false, false, false, false, false, false, false, false, false, false]) (pn_run (X.sub hE rfl rfl)) fun a hE => ?_
                refine hE.apur (i := 5) (fun _ _ _ _ _ h => h) (by kernel_rfl) rfl (by kernel_rfl) (by kernel_rfl) (by rfl) (l2 := #[true, true, true, true, true, true, false, false, false, false, false, false, false, false, false, false, false, false]) (pn_run (X.move hE rfl)) fun a hE => ?_
                refine hE.apur (i := 6) (fun _ _ _ _ _ h => h) (by kernel_rfl) rfl (by kernel_rfl) (by kernel_rfl) (by rfl) (l2 := #[true, true, true, true, true, true, true, false, false, false, false, false, false, false, false, false, false, false]) (pn_run (X.move hE rfl)) fun a hE => ?_
                refine hE.apur (i := 7) (fun _ _ _ _ _ h => h) (by kernel_rfl) rfl (by kernel_rfl) (by kernel_rfl) (by rfl) (l2 := #[true, true, true, true, true, true, true, true, false, false, false, false, false, false, false, false, false, false]) (pn_run (X.sub hE rfl rfl)) fun a hE => ?_
                refine hE.aop (i := 8) (fun _ _ _ _ _ h => h) (by kernel_rfl) rfl (by kernel_rfl) (by kernel_rfl) (by rfl) (l2 := #[true, true, true, true, true, true, true, true, true, false, false, false, false, false, false, false, false, false]) (X.indexAddr hE rfl rfl) H fun x54 a H hE => ?_
                refine hE.apur (i := 10) (fun _ _ _ _ _ h => h) (by kernel_rfl) rfl (by kernel_rfl) (by kernel_rfl) (by rfl) (l2 := #[true, true, true, true, true, true, true, true, true, false, true, false, false, false, false, false, false, false]) (pn_run (X.move hE rfl)) fun a hE => ?_
                refine hE.apur (i := 11) (fun _ _ _ _ _ h => h) (by kernel_rfl) rfl (by kernel_rfl) (by kernel_rfl) (by rfl) (l2 := #[true, true, true, true, true, true, true, true, true, false, true, true, false, false, false, false, false, false]) (pn_run (X.move hE rfl)) fun a hE => ?_
                refine hE.aop (i := 12) (fun _ _ _ _ _ h => h) (by kernel_rfl) rfl (by kernel_rfl) (by kernel_rfl) (by rfl) (l2 := #[true, true, true, true, true, true, true, true, true, false, true, true, true, false, false, false, false, false]) (X.indexAddr hE rfl rfl) H fun x58 a H hE => ?_
                refine WA.two (i := 9) (j := 13) (l2 := #[true, true, true, true, true, true, true, true, true, true, true, true, true, false, false, false, false, false]) (l3 := #[true, true, true, true, true, true, true, true, true, false, true, true, true, true, false, false, false, false]) rfl rfl (by kernel_rfl) (by rfl) (by rfl) ?_ ?_
                · replace H := H.1
                  intro K hK
                  refine hE.wop (X.load hE rfl) H fun x55 w a H hE => ?_
                  refine hK _ _ ?_
                  refine WA.one (i := 13) (l2 := #[true, true, true, true, true, true, true, true, true, true, true, true, true, true, false, false, false, false]) rfl (by kernel_rfl) (by rfl) ?_
                  intro K hK
                  refine hE.wop (X.load hE rfl) H fun x59 w a H hE => ?_
                  refine hK _ _ ?_
                  refine hE.aop (i := 14) (fun _ _ _ _ _ h => h) (by kernel_rfl) rfl (by kernel_rfl) (by kernel_rfl) (by rfl) (l2 := #[true, true, true, true, true, true, true, true, true, true, true, true, true, true, true, false, false, false]) (X.indexAddr hE rfl rfl) H fun x60 a H hE => ?_
                  refine WA.one (i := 15) (l2 := #[true, true, true, true, true, true, true, true, true, true, true, true, true, true, true, true, false, false]) rfl (by kernel_rfl) (by rfl) ?_
                  intro K hK
                  refine hE.wopu (X.store hE rfl rfl) H fun w a H hE => ?_
                  refine hK _ _ ?_
                  refine hE.aop (i := 16) (fun _ _ _ _ _ h => h) (by kernel_rfl) rfl (by kernel_rfl) (by kernel_rfl) (by rfl) (l2 := #[true, true, true, true, true, true, true, true, true, true, true, true, true, true, true, true, true, false]) (X.indexAddr hE rfl rfl) H fun x61 a H hE => ?_
                  refine WA.one (i := 17) (l2 := #[true, true, true, true, true, true, true, true, true, true, true, true, true, true, true, true, true, true]) rfl (by kernel_rfl) (by rfl) ?_
                  intro K hK
                  refine hE.wopu (X.store hE rfl rfl) H fun w a H hE => ?_
                  refine hK _ _ ?_
                  refine WA.nil (by kernel_rfl) ?_
                  exact (tn (hj5 () _ _ H (hE.weak ⟨rfl, rfl, rfl, rfl, rfl, rfl, trivial⟩)))
                · replace H := H.2
                  intro K hK
                  refine hE.wop (X.load hE rfl) H fun x59_1 w a H hE => ?_
                  refine hK _ _ ?_
                  refine WA.one (i := 9) (l2 := #[true, true, true, true, true, true, true, true, true, true, true, true, true, true, false, false, false, false]) rfl (by kernel_rfl) (by rfl) ?_
                  intro K hK
                  refine hE.wop (X.load hE rfl) H fun x55_1 w a H hE => ?_
                  refine hK _ _ ?_
                  refine hE.aop (i := 14) (fun _ _ _ _ _ h => h) (by kernel_rfl) rfl (by kernel_rfl) (by kernel_rfl) (by rfl) (l2 := #[true, true, true, true, true, true, true, true, true, true, true, true, true, true, true, false, false, false]) (X.indexAddr hE rfl rfl) H fun x60_1 a H hE => ?_
                  refine WA.one (i := 15) (l2 := #[true, true, true, true, true, true, true, true, true, true, true, true, true, true, true, true, false, false]) rfl (by kernel_rfl) (by rfl) ?_
                  intro K hK
                  refine hE.wopu (X.store hE rfl rfl) H fun w a H hE => ?_
                  refine hK _ _ ?_
                  refine hE.aop (i := 16) (fun _ _ _ _ _ h => h) (by kernel_rfl) rfl (by kernel_rfl) (by kernel_rfl) (by rfl) (l2 := #[true, true, true, true, true, true, true, true, true, true, true, true, true, true, true, true, true, false]) (X.indexAddr hE rfl rfl) H fun x61_1 a H hE => ?_
                  refine WA.one (i := 17) (l2 := #[true, true, true, true, true, true, true, true, true, true, true, true, true, true, true, true, true, true]) rfl (by kernel_rfl) (by rfl) ?_
                  intro K hK
                  refine hE.wopu (X.store hE rfl rfl) H fun w a H hE => ?_
                  refine hK _ _ ?_
                  refine WA.nil (by kernel_rfl) ?_
                  exact (tn (hj5 () _ _ H (hE.weak ⟨rfl, rfl, rfl, rfl, rfl, rfl, trivial⟩)))
      · rcases Classical.em ((x9_2 < x2)) with hbr4 | hbr4
        · replace H := H.1 hbr4
          replace hE := hE.bool (b := true) (t := 22) rfl (decide_eq_true hbr4)
          refine hE.qon (by rfl) (by rfl) ?_
          refine hE.qpur (X.move hE rfl) fun a hE => ?_
          refine hE.qon (by rfl) (by rfl) ?_
          refine hE.qpur (X.move hE rfl) fun a hE => ?_
          refine hE.qon (by rfl) (by rfl) ?_
          refine hE.qpur (X.move hE rfl) fun a hE => ?_
          refine hE.qon (by rfl) (by rfl) ?_
          refine hE.qop (X.indexAddr hE rfl rfl) H fun x26 a H hE => ?_
          refine hE.qon (by rfl) (by rfl) ?_
          refine hE.qop (X.load hE rfl) H fun x27 a H hE => ?_
          refine hE.qon (by rfl) (by rfl) ?_
          refine hE.qpur (X.move hE rfl) fun a hE => ?_
          refine hE.qon (by rfl) (by rfl) ?_
          refine hE.qpur (X.move hE rfl) fun a hE => ?_
          refine hE.qon (by rfl) (by rfl) ?_
          refine hE.qpur (X.sub hE rfl rfl) fun a hE => ?_
          refine hE.qon (by rfl) (by rfl) ?_
          refine hE.qop (X.indexAddr hE rfl rfl) H fun x31 a H hE => ?_
          refine hE.qon (by rfl) (by rfl) ?_
          refine hE.qop (X.load hE rfl) H fun x32 a H hE => ?_
          refine hE.qon (by rfl) (by rfl) ?_
          obtain ⟨r_2, hc, H⟩ := H
          refine hE.qcallV rfl rfl hc fun a hE => ?_
          refine hE.qon (by rfl) (by rfl) ?_
          refine hE.qpur (X.ltI hE rfl rfl) fun a hE => ?_
          refine hE.qon (by rfl) (by rfl) ?_
          refine hE.qpur (X.not hE rfl) fun a hE => ?_
          refine hE.qpur (X.pickT hE rfl rfl) fun a hE => ?_
          exact hr4 (!(decide (r_2 < 0))) _ H (hE.weak ⟨rfl, rfl, rfl, rfl, rfl, rfl, rfl, trivial⟩)
        · replace H := H.2 hbr4
          replace hE := hE.bool (b := false) (t := 22) rfl (decide_eq_false hbr4)
          refine hE.qoff (by rfl) (by rfl) (by decide) (fun a hE => ?_)
          refine hE.qoff (by rfl) (by rfl) (by decide) (fun a hE => ?_)
          refine hE.qoff (by rfl) (by rfl) (by decide) (fun a hE => ?_)
          refine hE.qoff (by rfl) (by rfl) (by decide) (fun a hE => ?_)
          refine hE.qoff (by rfl) (by rfl) (by decide) (fun a hE => ?_)
          refine hE.qoff (by rfl) (by rfl) (by decide) (fun a hE => ?_)
          refine hE.qoff (by rfl) (by rfl) (by decide) (fun a hE => ?_)
          refine hE.qoff (by rfl) (by rfl) (by decide) (fun a hE => ?_)
          refine hE.qoff (by rfl) (by rfl) (by decide) (fun a hE => ?_)
          refine hE.qoff (by rfl) (by rfl) (by decide) (fun a hE => ?_)
          refine hE.qoff (by rfl) (by rfl) (by decide) (fun a hE => ?_)
          refine hE.qoff (by rfl) (by rfl) (by decide) (fun a hE => ?_)
          refine hE.qoff (by rfl) (by rfl) (by decide) (fun a hE => ?_)
          refine hE.qpur (X.pickF hE rfl rfl) fun a hE => ?_
          exact hr4 false _ H (hE.weak ⟨rfl, rfl, rfl, rfl, rfl, rfl, rfl, trivial⟩)
  · replace H := H.2 hc
    refine C.exit (te (te (be (tn ?_))))
    refine C.seq ?_
    refine C.region ?_
    refine hE.pur (X.assign hE rfl) fun a hE => ?_
    refine C.nil (tn ?_)
    exact C.ret (C.ret1 hE rfl rfl ⟨_, rfl, H⟩)
/-! ### slices.partitionEqualCmpFunc[lading api.Version]: function 57 -/
def V_slices_partitionEqualCmpFunc_api_Version_j7 (Kl2 : Int → Int → World → Prop) (x11_1 : Int) (x12_1 : Int) (w : World) : Prop :=
  Kl2 (IntKind.wrap .i64 (x11_1 + 1)) (IntKind.wrap .i64 (x12_1 - 1)) w
def V_slices_partitionEqualCmpFunc_api_Version_r6 (x0 : Sl) (Ret : Int → World → Prop) (Kl2 : Int → Int → World → Prop) (x11_1 : Int) (x12_1 : Int) (Kl5 : Int → World → Prop) (x65 : Bool) (w : World) : Prop :=
  nextB w (fun w => (x65 = true → (Kl5 (IntKind.wrap .i64 (x12_1 - 1)) w)) ∧ (x65 = false → (((x12_1 < x11_1) → (Ret x11_1 w)) ∧ (¬ (x12_1 < x11_1) → (nextB w (fun w => opP Try.prog Value.pointer (Instr.indexAt 22 (Sl.v x0) (.int .i64 x12_1)) (fun x77 => opP Try.prog Value.pointer (Instr.indexAt 22 (Sl.v x0) (.int .i64 x11_1)) (fun x81 => (opE Try.prog T_api_Version.v (Instr.loadAt 37 (.pointer x77)) w (fun x78 w => opE Try.prog T_api_Version.v (Instr.loadAt 37 (.pointer x81)) w (fun x82 w => opP Try.prog Value.pointer (Instr.indexAt 22 (Sl.v x0) (.int .i64 x11_1)) (fun x83 => opU Try.prog (Instr.storeAt 37 (.pointer x83) (T_api_Version.v x78)) w (fun w => opP Try.prog Value.pointer (Instr.indexAt 22 (Sl.v x0) (.int .i64 x12_1)) (fun x84 => opU Try.prog (Instr.storeAt 37 (.pointer x84) (T_api_Version.v x82)) w (fun w => V_slices_partitionEqualCmpFunc_api_Version_j7 Kl2 x11_1 x12_1 w))))))) ∧ (opE Try.prog T_api_Version.v (Instr.loadAt 37 (.pointer x81)) w (fun x82_1 w => opE Try.prog T_api_Version.v (Instr.loadAt 37 (.pointer x77)) w (fun x78_1 w => opP Try.prog Value.pointer (Instr.indexAt 22 (Sl.v x0) (.int .i64 x11_1)) (fun x83_1 => opU Try.prog (Instr.storeAt 37 (.pointer x83_1) (T_api_Version.v x78_1)) w (fun w => opP Try.prog Value.pointer (Instr.indexAt 22 (Sl.v x0) (.int .i64 x12_1)) (fun x84_1 => opU Try.prog (Instr.storeAt 37 (.pointer x84_1) (T_api_Version.v x82_1)) w (fun w => V_slices_partitionEqualCmpFunc_api_Version_j7 Kl2 x11_1 x12_1 w)))))))))))))))
def V_slices_partitionEqualCmpFunc_api_Version_l5b (x0 : Sl) (x1 : Int) (x4 : Value) (Ret : Int → World → Prop) (Kl2 : Int → Int → World → Prop) (x11_1 : Int) (x12_1 : Int) (w : World) (Kl5 : Int → World → Prop) : Prop :=
  ((x11_1 ≤ x12_1) → (opB Try.prog Value.pointer (Instr.indexAt 22 (Sl.v x0) (.int .i64 x1)) w (fun x57 => opB Try.prog T_api_Version.v (Instr.loadAt 37 (.pointer x57)) w (fun x58 => opB Try.prog Value.pointer (Instr.indexAt 22 (Sl.v x0) (.int .i64 x12_1)) w (fun x61 => opB Try.prog T_api_Version.v (Instr.loadAt 37 (.pointer x61)) w (fun x62 => ∃ (r : Int), CallQ Try.prog x4 [(T_api_Version.v x58), (T_api_Version.v x62)] w (.int .i64 r) ∧ (V_slices_partitionEqualCmpFunc_api_Version_r6 x0 Ret Kl2 x11_1 x12_1 Kl5 (decide (r < 0)) w))))))) ∧ (¬ (x11_1 ≤ x12_1) → (V_slices_partitionEqualCmpFunc_api_Version_r6 x0 Ret Kl2 x11_1 x12_1 Kl5 false w))
def V_slices_partitionEqualCmpFunc_api_Version_r4 (x0 : Sl) (x1 : Int) (x4 : Value) (Ret : Int → World → Prop) (x12 : Int) (Kl2 : Int → Int → World → Prop) (x11_1 : Int) (Kl3 : Int → World → Prop) (x47 : Bool) (w : World) : Prop :=
  nextB w (fun w => (x47 = true → (Kl3 (IntKind.wrap .i64 (x11_1 + 1)) w)) ∧ (x47 = false → (∃ (I : Int → World → Prop) (μ : Int → World → Nat), I x12 w ∧ ∀ (x12_1 : Int) w, I x12_1 w → V_slices_partitionEqualCmpFunc_api_Version_l5b x0 x1 x4 Ret Kl2 x11_1 x12_1 w (fun x12_1' w' => I x12_1' w' ∧ μ x12_1' w' < μ x12_1 w))))
def V_slices_partitionEqualCmpFunc_api_Version_l3b (x0 : Sl) (x1 : Int) (x4 : Value) (Ret : Int → World → Prop) (x12 : Int) (Kl2 : Int → Int → World → Prop) (x11_1 : Int) (w : World) (Kl3 : Int → World → Prop) : Prop :=
  ((x11_1 ≤ x12) → (opB Try.prog Value.pointer (Instr.indexAt 22 (Sl.v x0) (.int .i64 x1)) w (fun x38 => opB Try.prog T_api_Version.v (Instr.loadAt 37 (.pointer x38)) w (fun x39 => opB Try.prog Value.pointer (Instr.indexAt 22 (Sl.v x0) (.int .i64 x11_1)) w (fun x42 => opB Try.prog T_api_Version.v (Instr.loadAt 37 (.pointer x42)) w (fun x43 => ∃ (r_1 : Int), CallQ Try.prog x4 [(T_api_Version.v x39), (T_api_Version.v x43)] w (.int .i64 r_1) ∧ (V_slices_partitionEqualCmpFunc_api_Version_r4 x0 x1 x4 Ret x12 Kl2 x11_1 Kl3 (!(decide (r_1 < 0))) w))))))) ∧ (¬ (x11_1 ≤ x12) → (V_slices_partitionEqualCmpFunc_api_Version_r4 x0 x1 x4 Ret x12 Kl2 x11_1 Kl3 false w))
def V_slices_partitionEqualCmpFunc_api_Version_l2b (x0 : Sl) (x1 : Int) (x4 : Value) (Ret : Int → World → Prop) (x11 : Int) (x12 : Int) (w : World) (Kl2 : Int → Int → World → Prop) : Prop :=
  ∃ (I : Int → World → Prop) (μ : Int → World → Nat), I x11 w ∧ ∀ (x11_1 : Int) w, I x11_1 w → V_slices_partitionEqualCmpFunc_api_Version_l3b x0 x1 x4 Ret x12 Kl2 x11_1 w (fun x11_1' w' => I x11_1' w' ∧ μ x11_1' w' < μ x11_1 w)
def V_slices_partitionEqualCmpFunc_api_Version_j1 (x0 : Sl) (x1 : Int) (x2 : Int) (x4 : Value) (Ret : Int → World → Prop) (w : World) : Prop :=
  ∃ (I : Int → Int → World → Prop) (μ : Int → Int → World → Nat), I (IntKind.wrap .i64 (x1 + 1)) (IntKind.wrap .i64 (x2 - 1)) w ∧ ∀ (x11 : Int) (x12 : Int) w, I x11 x12 w → V_slices_partitionEqualCmpFunc_api_Version_l2b x0 x1 x4 Ret x11 x12 w (fun x11' x12' w' => I x11' x12' w' ∧ μ x11' x12' w' < μ x11 x12 w)
def V_slices_partitionEqualCmpFunc_api_Version (x0 : Sl) (x1 : Int) (x2 : Int) (x3 : Int) (x4 : Value) (w : World) (Ret : Int → World → Prop) : Prop :=
  nextB w (fun w => opP Try.prog Value.pointer (Instr.indexAt 22 (Sl.v x0) (.int .i64 x3)) (fun x19 => opP Try.prog Value.pointer (Instr.indexAt 22 (Sl.v x0) (.int .i64 x1)) (fun x23 => (opE Try.prog T_api_Version.v (Instr.loadAt 37 (.pointer x19)) w (fun x20 w => opE Try.prog T_api_Version.v (Instr.loadAt 37 (.pointer x23)) w (fun x24 w => opP Try.prog Value.pointer (Instr.indexAt 22 (Sl.v x0) (.int .i64 x1)) (fun x25 => opU Try.prog (Instr.storeAt 37 (.pointer x25) (T_api_Version.v x20)) w (fun w => opP Try.prog Value.pointer (Instr.indexAt 22 (Sl.v x0) (.int .i64 x3)) (fun x26 => opU Try.prog (Instr.storeAt 37 (.pointer x26) (T_api_Version.v x24)) w (fun w => V_slices_partitionEqualCmpFunc_api_Version_j1 x0 x1 x2 x4 Ret w))))))) ∧ (opE Try.prog T_api_Version.v (Instr.loadAt 37 (.pointer x23)) w (fun x24_1 w => opE Try.prog T_api_Version.v (Instr.loadAt 37 (.pointer x19)) w (fun x20_1 w => opP Try.prog Value.pointer (Instr.indexAt 22 (Sl.v x0) (.int .i64 x1)) (fun x25_1 => opU Try.prog (Instr.storeAt 37 (.pointer x25_1) (T_api_Version.v x20_1)) w (fun w => opP Try.prog Value.pointer (Instr.indexAt 22 (Sl.v x0) (.int .i64 x3)) (fun x26_1 => opU Try.prog (Instr.storeAt 37 (.pointer x26_1) (T_api_Version.v x24_1)) w (fun w => V_slices_partitionEqualCmpFunc_api_Version_j1 x0 x1 x2 x4 Ret w))))))))))
set_option maxRecDepth 100000 in
theorem L1_slices_partitionEqualCmpFunc_api_Version (x0 : Sl) (x1 : Int) (x2 : Int) (x3 : Int) (x4 : Value) (w : World) (Ret : Int → World → Prop) (H : V_slices_partitionEqualCmpFunc_api_Version x0 x1 x2 x3 x4 w Ret) : Cl Try.prog 57 [(Sl.v x0), (.int .i64 x1), (.int .i64 x2), (.int .i64 x3), x4].toArray w (fun e w' => ∃ (r0 : Int), e = .returned (.int .i64 r0) ∧ Ret r0 w') := by
  unfold V_slices_partitionEqualCmpFunc_api_Version at H
  refine C.enter 90 (zipE 0 [(Sl.v x0), (.int .i64 x1), (.int .i64 x2), (.int .i64 x3), x4]) Try.func57 rfl rfl (by rfl) rfl ?_
  intro a hE
  replace hE : Sat [] 90 [(0, (Sl.v x0)), (1, (.int .i64 x1)), (2, (.int .i64 x2)), (3, (.int .i64 x3)), (4, x4)] a := hE
  refine C.seq ?_
  refine C.region ?_
  refine hE.pur (X.assign hE rfl) fun a hE => ?_
  refine C.nil (tn ?_)
  refine C.join (ds := []) (N := 90) (σ := Unit) (fun s => [(0, (Sl.v x0)), (1, (.int .i64 x1)), (2, (.int .i64 x2)), (4, x4)]) (fun s w => V_slices_partitionEqualCmpFunc_api_Version_j1 x0 x1 x2 x4 Ret  w) ?_ (fun hj1 => ?_)
  · rintro ⟨⟩ w a H hE
    try dsimp only at H hE
    unfold V_slices_partitionEqualCmpFunc_api_Version_j1 at H
    refine C.seq ?_
    refine C.region ?_
    refine hE.pur (X.move hE rfl) fun a hE => ?_
    refine hE.pur (X.add hE rfl rfl) fun a hE => ?_
    refine hE.pur (X.move hE rfl) fun a hE => ?_
    refine hE.pur (X.sub hE rfl rfl) fun a hE => ?_
    refine hE.pur (X.assign hE rfl) fun a hE => ?_
    refine hE.pur (X.assign hE rfl) fun a hE => ?_
    refine C.nil (tn ?_)
    refine C.seq ?_
    refine C.block ?_
    obtain ⟨I_l2, μ_l2, h0, hb⟩ := H
    refine C.loop (ds := []) (N := 90) (σ := Int × Int) (fun s => [(11, (.int .i64 s.1)), (12, (.int .i64 s.2)), (0, (Sl.v x0)), (1, (.int .i64 x1)), (4, x4)]) (fun s w => I_l2 s.1 s.2 w) (fun s w => μ_l2 s.1 s.2 w) ((IntKind.wrap .i64 (x1 + 1)), (IntKind.wrap .i64 (x2 - 1))) h0 (hE.weak ⟨rfl, rfl, rfl, rfl, rfl, trivial⟩) ?_
    rintro ⟨x11, x12⟩ w a hI hE
    try dsimp only at hI hE
    obtain ⟨Kl2, hK_l2⟩ : ∃ K : Int → Int → World → Prop, K = (fun x11' x12' w' => I_l2 x11' x12' w' ∧ μ_l2 x11' x12' w' < μ_l2 x11 x12 w) := ⟨_, rfl⟩
    have H : V_slices_partitionEqualCmpFunc_api_Version_l2b x0 x1 x4 Ret x11 x12 w Kl2 := by rw [hK_l2]; exact hb x11 x12 w hI
    clear hb h0 hI
    unfold V_slices_partitionEqualCmpFunc_api_Version_l2b at H
    refine C.block ?_
    refine C.seq ?_
    refine C.block ?_
    obtain ⟨I_l3, μ_l3, h0, hb⟩ := H
    refine C.loop (ds := []) (N := 90) (σ := Int) (fun s => [(11, (.int .i64 s)), (0, (Sl.v x0)), (1, (.int .i64 x1)), (4, x4), (12, (.int .i64 x12))]) (fun s w => I_l3 s w) (fun s w => μ_l3 s w) x11 h0 (hE.weak ⟨rfl, rfl, rfl, rfl, rfl, trivial⟩) ?_
    intro x11_1 w a hI hE
    try dsimp only at hI hE
    obtain ⟨Kl3, hK_l3⟩ : ∃ K : Int → World → Prop, K = (fun x11_1' w' => I_l3 x11_1' w' ∧ μ_l3 x11_1' w' < μ_l3 x11_1 w) := ⟨_, rfl⟩
    have H : V_slices_partitionEqualCmpFunc_api_Version_l3b x0 x1 x4 Ret x12 Kl2 x11_1 w Kl3 := by rw [hK_l3]; exact hb x11_1 w hI
    clear hb h0 hI
    unfold V_slices_partitionEqualCmpFunc_api_Version_l3b at H
    refine C.seq ?_
    refine C.seq ?_
    refine C.draw (by kernel_rfl) (by kernel_rfl) ?_
    refine hE.qpur (X.move hE rfl) fun a hE => ?_
    refine hE.qpur (X.move hE rfl) fun a hE => ?_
    refine hE.qpur (X.leI hE rfl rfl) fun a hE => ?_
    refine hE.qpur (X.move hE rfl) fun a hE => ?_
    refine WQ.join (ds := []) (N := 90) (σ := Bool) (fun s => [(47, (.bool s)), (0, (Sl.v x0)), (1, (.int .i64 x1)), (4, x4), (11, (.int .i64 x11_1)), (12, (.int .i64 x12))]) (fun s => V_slices_partitionEqualCmpFunc_api_Version_r4 x0 x1 x4 Ret x12 Kl2 x11_1 Kl3 s w) 13 ?_ (fun hr4 => ?_)
    · intro x47 a H hE
      try dsimp only at H hE
      unfold V_slices_partitionEqualCmpFunc_api_Version_r4 at H
      refine C.qnil (fun w hB => ?_)
      replace H := H w hB
      refine (tn ?_)
      refine C.condB hE rfl (fun hc => ?_) (fun hc => ?_)
      · replace H := H.1 hc
        refine C.skip (tn ?_)
        refine C.block ?_
        refine C.region ?_
        refine hE.pur (X.move hE rfl) fun a hE => ?_
        refine hE.pur (X.add hE rfl rfl) fun a hE => ?_
        refine hE.pur (X.assign hE rfl) fun a hE => ?_
        rw [hK_l3] at H
        exact C.nil (bn (tn ⟨(IntKind.wrap .i64 (x11_1 + 1)), hE.weak ⟨rfl, rfl, rfl, rfl, rfl, trivial⟩, H⟩))
      · replace H := H.2 hc
        refine C.exit (te (te (be (tn ?_))))
        refine C.seq ?_
        refine C.block ?_
        obtain ⟨I_l5, μ_l5, h0, hb⟩ := H
        refine C.loop (ds := []) (N := 90) (σ := Int) (fun s => [(12, (.int .i64 s)), (0, (Sl.v x0)), (1, (.int .i64 x1)), (4, x4), (11, (.int .i64 x11_1))]) (fun s w => I_l5 s w) (fun s w => μ_l5 s w) x12 h0 (hE.weak ⟨rfl, rfl, rfl, rfl, rfl, trivial⟩) ?_
        intro x12_1 w a hI hE
        try dsimp only at hI hE
        obtain ⟨Kl5, hK_l5⟩ : ∃ K : Int → World → Prop, K = (fun x12_1' w' => I_l5 x12_1' w' ∧ μ_l5 x12_1' w' < μ_l5 x12_1 w) := ⟨_, rfl⟩
        have H : V_slices_partitionEqualCmpFunc_api_Version_l5b x0 x1 x4 Ret Kl2 x11_1 x12_1 w Kl5 := by rw [hK_l5]; exact hb x12_1 w hI
        clear hb h0 hI
        unfold V_slices_partitionEqualCmpFunc_api_Version_l5b at H
        refine C.seq ?_
        refine C.seq ?_
        refine C.draw (by kernel_rfl) (by kernel_rfl) ?_
        refine hE.qpur (X.move hE rfl) fun a hE => ?_
        refine hE.qpur (X.move hE rfl) fun a hE => ?_
        refine hE.qpur (X.leI hE rfl rfl) fun a hE => ?_
        refine hE.qpur (X.move hE rfl) fun a hE => ?_
        refine WQ.join (ds := []) (N := 90) (σ := Bool) (fun s => [(65, (.bool s)), (0, (Sl.v x0)), (1, (.int .i64 x1)), (4, x4), (11, (.int .i64 x11_1)), (12, (.int .i64 x12_1))]) (fun s => V_slices_partitionEqualCmpFunc_api_Version_r6 x0 Ret Kl2 x11_1 x12_1 Kl5 s w) 12 ?_ (fun hr6 => ?_)
        · intro x65 a H hE
          try dsimp only at H hE
          unfold V_slices_partitionEqualCmpFunc_api_Version_r6 at H
          refine C.qnil (fun w hB => ?_)
          replace H := H w hB
          refine (tn ?_)
          refine C.condB hE rfl (fun hc => ?_) (fun hc => ?_)
          · replace H := H.1 hc
            refine C.skip (tn ?_)
            refine C.block ?_
            refine C.region ?_
            refine hE.pur (X.move hE rfl) fun a hE => ?_
            refine hE.pur (X.sub hE rfl rfl) fun a hE => ?_
            refine hE.pur (X.assign hE rfl) fun a hE => ?_
            rw [hK_l5] at H
            exact C.nil (bn (tn ⟨(IntKind.wrap .i64 (x12_1 - 1)), hE.weak ⟨rfl, rfl, rfl, rfl, rfl, trivial⟩, H⟩))
          · replace H := H.2 hc
            refine C.exit (te (te (be (tn ?_))))
            refine C.seq ?_
            refine C.seq ?_
            refine C.region ?_
            refine hE.pur (X.move hE rfl) fun a hE => ?_
            refine hE.pur (X.move hE rfl) fun a hE => ?_
            refine hE.pur (X.gtI hE rfl rfl) fun a hE => ?_
            refine C.nil (tn ?_)
            refine C.condP hE rfl (fun hc => ?_) (fun hc => ?_)
            · replace H := H.1 hc
              refine C.exit (te (bo (te (be (tn ?_)))))
              refine C.seq ?_
              refine C.region ?_
              refine hE.pur (X.move hE rfl) fun a hE => ?_
              refine hE.pur (X.assign hE rfl) fun a hE => ?_
              refine C.nil (tn ?_)
              exact C.ret (C.ret1 hE rfl rfl ⟨_, rfl, H⟩)
            · replace H := H.2 hc
              refine C.skip (tn ?_)
              refine C.join (ds := []) (N := 90) (σ := Unit) (fun s => [(0, (Sl.v x0)), (1, (.int .i64 x1)), (4, x4), (11, (.int .i64 x11_1)), (12, (.int .i64 x12_1))]) (fun s w => V_slices_partitionEqualCmpFunc_api_Version_j7 Kl2 x11_1 x12_1  w) ?_ (fun hj7 => ?_)
              · rintro ⟨⟩ w a H hE
                try dsimp only at H hE
                unfold V_slices_partitionEqualCmpFunc_api_Version_j7 at H
                refine C.seq ?_
                refine C.region ?_
                refine hE.pur (X.move hE rfl) fun a hE => ?_
                refine hE.pur (X.add hE rfl rfl) fun a hE => ?_
                refine hE.pur (X.assign hE rfl) fun a hE => ?_
                refine C.nil (tn ?_)
                refine C.region ?_
                refine hE.pur (X.move hE rfl) fun a hE => ?_
                refine hE.pur (X.sub hE rfl rfl) fun a hE => ?_
                refine hE.pur (X.assign hE rfl) fun a hE => ?_
                rw [hK_l2] at H
                exact C.nil (bn (tn ⟨((IntKind.wrap .i64 (x11_1 + 1)), (IntKind.wrap .i64 (x12_1 - 1))), hE.weak ⟨rfl, rfl, rfl, rfl, rfl, trivial⟩, H⟩))
              · refine C.any 16 #[false, false, false, false, false, false, false, false, false, false, false, false, false, false, false, false] (by kernel_rfl) (fun w hB => ?_)
                replace H := H w hB
                refine hE.apur (i := 0) (fun _ _ _ _ _ h => h) (by kernel_rfl) rfl (by kernel_rfl) (by kernel_rfl) (by rfl) (l2 := #[true, false, false, false, false, false, false, false, false, false, false, false, false, false, false, false]) (pn_run (X.move hE rfl)) fun a hE => ?_
                refine hE.apur (i := 1) (fun _ _ _ _ _ h => h) (by kernel_rfl) rfl (by kernel_rfl) (by kernel_rfl) (by rfl) (l2 := #[true, true, false, false, false, false, false, false, false, false, false, false, false, false, false, false]) (pn_run (X.move hE rfl)) fun a hE => ?_
                refine hE.apur (i := 2) (fun _ _ _ _ _ h => h) (by kernel_rfl) rfl (by kernel_rfl) (by kernel_rfl) (by rfl) (l2 := #[true, true, true, false, false, false, false, false, false, false, false, false, false, false, false, false]) (pn_run (X.move hE rfl)) fun a hE => ?_
                refine hE.apur (i := 3) (fun _ _ _ _ _ h => h) (by kernel_rfl) rfl (by kernel_rfl) (by kernel_rfl) (by rfl) (l2 := #[true, true, true, true, false, false, false, false, false, false, false, false, false, false, false, false]) (pn_run (X.move hE rfl)) fun a hE => ?_
                refine hE.apur (i := 4) (fun _ _ _ _ _ h => h) (by kernel_rfl) rfl (by kernel_rfl) (by kernel_rfl) (by rfl) (l2 := #[true, true, true, true, true, false, false, false, false, false, false, false, false, false, false, false]) (pn_run (X.move hE rfl)) fun a hE => ?_
                refine hE.apur (i := 5) (fun _ _ _ _ _ h => h) (by kernel_rfl) rfl (by kernel_rfl) (by kernel_rfl) (by rfl) (l2 := #[true, true, true, true, true, true, false, false, false, false, false, false, false, false, false, false]) (pn_run (X.move hE rfl)) fun a hE => ?_
                refine hE.aop (i := 6) (fun _ _ _ _ _ h => h) (by kernel_rfl) rfl (by kernel_rfl) (by kernel_rfl) (by rfl) (l2 := #[true, true, true, true, true, true, true, false, false, false, false, false, false, false, false, false]) (X.indexAddr hE rfl rfl) H fun x77 a H hE => ?_
                refine hE.apur (i := 8) (fun _ _ _ _ _ h => h) (by kernel_rfl) rfl (by kernel_rfl) (by kernel_rfl) (by rfl) (l2 := #[true, true, true, true, true, true, true, false, true, false, false, false, false, false, false, false]) (pn_run (X.move hE rfl)) fun a hE => ?_
                refine hE.apur (i := 9) (fun _ _ _ _ _ h => h) (by kernel_rfl) rfl (by kernel_rfl) (by kernel_rfl) (by rfl) (l2 := #[true, true, true, true, true, true, true, false, true, true, false, false, false, false, false, false]) (pn_run (X.move hE rfl)) fun a hE => ?_
                refine hE.aop (i := 10) (fun _ _ _ _ _ h => h) (by kernel_rfl) rfl (by kernel_rfl) (by kernel_rfl) (by rfl) (l2 := #[true, true, true, true, true, true, true, false, true, true, true, false, false, false, false, false]) (X.indexAddr hE rfl rfl) H fun x81 a H hE => ?_
                refine WA.two (i := 7) (j := 11) (l2 := #[true, true, true, true, true, true, true, true, true, true, true, false, false, false, false, false]) (l3 := #[true, true, true, true, true, true, true, false, true, true, true, true, false, false, false, false]) rfl rfl (by kernel_rfl) (by rfl) (by rfl) ?_ ?_
                · replace H := H.1
                  intro K hK
                  refine hE.wop (X.load hE rfl) H fun x78 w a H hE => ?_
                  refine hK _ _ ?_
                  refine WA.one (i := 11) (l2 := #[true, true, true, true, true, true, true, true, true, true, true, true, false, false, false, false]) rfl (by kernel_rfl) (by rfl) ?_
                  intro K hK
                  refine hE.wop (X.load hE rfl) H fun x82 w a H hE => ?_
                  refine hK _ _ ?_
                  refine hE.aop (i := 12) (fun _ _ _ _ _ h => h) (by kernel_rfl) rfl (by kernel_rfl) (by kernel_rfl) (by rfl) (l2 := #[true, true, true, true, true, true, true, true, true, true, true, true, true, false, false, false]) (X.indexAddr hE rfl rfl) H fun x83 a H hE => ?_
                  refine WA.one (i := 13) (l2 := #[true, true, true, true, true, true, true, true, true, true, true, true, true, true, false, false]) rfl (by kernel_rfl) (by rfl) ?_
                  intro K hK
                  refine hE.wopu (X.store hE rfl rfl) H fun w a H hE => ?_
                  refine hK _ _ ?_
                  refine hE.aop (i := 14) (fun _ _ _ _ _ h => h) (by kernel_rfl) rfl (by kernel_rfl) (by kernel_rfl) (by rfl) (l2 := #[true, true, true, true, true, true, true, true, true, true, true, true, true, true, true, false]) (X.indexAddr hE rfl rfl) H fun x84 a H hE => ?_
                  refine WA.one (i := 15) (l2 := #[true, true, true, true, true, true, true, true, true, true, true, true, true, true, true, true]) rfl (by kernel_rfl) (by rfl) ?_
                  intro K hK
                  refine hE.wopu (X.store hE rfl rfl) H fun w a H hE => ?_
                  refine hK _ _ ?_
                  refine WA.nil (by kernel_rfl) ?_
                  exact (tn (hj7 () _ _ H (hE.weak ⟨rfl, rfl, rfl, rfl, rfl, trivial⟩)))
                · replace H := H.2
                  intro K hK
                  refine hE.wop (X.load hE rfl) H fun x82_1 w a H hE => ?_
                  refine hK _ _ ?_
                  refine WA.one (i := 7) (l2 := #[true, true, true, true, true, true, true, true, true, true, true, true, false, false, false, false]) rfl (by kernel_rfl) (by rfl) ?_
                  intro K hK
                  refine hE.wop (X.load hE rfl) H fun x78_1 w a H hE => ?_
                  refine hK _ _ ?_
                  refine hE.aop (i := 12) (fun _ _ _ _ _ h => h) (by kernel_rfl) rfl (by kernel_rfl) (by kernel_rfl) (by rfl) (l2 := #[true, true, true, true, true, true, true, true, true, true, true, true, true, false, false, false]) (X.indexAddr hE rfl rfl) H fun x83_1 a H hE => ?_
                  refine WA.one (i := 13) (l2 := #[true, true, true, true, true, true, true, true, true, true, true, true, true, true, false, false]) rfl (by kernel_rfl) (by rfl) ?_
                  intro K hK
                  refine hE.wopu (X.store hE rfl rfl) H fun w a H hE => ?_
                  refine hK _ _ ?_
                  refine hE.aop (i := 14) (fun _ _ _ _ _ h => h) (by kernel_rfl) rfl (by kernel_rfl) (by kernel_rfl) (by rfl) (l2 := #[true, true, true, true, true, true, true, true, true, true, true, true, true, true, true, false]) (X.indexAddr hE rfl rfl) H fun x84_1 a H hE => ?_
                  refine WA.one (i := 15) (l2 := #[true, true, true, true, true, true, true, true, true, true, true, true, true, true, true, true]) rfl (by kernel_rfl) (by rfl) ?_
                  intro K hK
                  refine hE.wopu (X.store hE rfl rfl) H fun w a H hE => ?_
                  refine hK _ _ ?_
                  refine WA.nil (by kernel_rfl) ?_
                  exact (tn (hj7 () _ _ H (hE.weak ⟨rfl, rfl, rfl, rfl, rfl, trivial⟩)))
        · rcases Classical.em ((x11_1 ≤ x12_1)) with hbr6 | hbr6
          · replace H := H.1 hbr6
            replace hE := hE.bool (b := true) (t := 53) rfl (decide_eq_true hbr6)
            refine hE.qon (by rfl) (by rfl) ?_
            refine hE.qpur (X.move hE rfl) fun a hE => ?_
            refine hE.qon (by rfl) (by rfl) ?_
            refine hE.qpur (X.move hE rfl) fun a hE => ?_
            refine hE.qon (by rfl) (by rfl) ?_
            refine hE.qpur (X.move hE rfl) fun a hE => ?_
            refine hE.qon (by rfl) (by rfl) ?_
            refine hE.qop (X.indexAddr hE rfl rfl) H fun x57 a H hE => ?_
            refine hE.qon (by rfl) (by rfl) ?_
            refine hE.qop (X.load hE rfl) H fun x58 a H hE => ?_
            refine hE.qon (by rfl) (by rfl) ?_
            refine hE.qpur (X.move hE rfl) fun a hE => ?_
            refine hE.qon (by rfl) (by rfl) ?_
            refine hE.qpur (X.move hE rfl) fun a hE => ?_
            refine hE.qon (by rfl) (by rfl) ?_
            refine hE.qop (X.indexAddr hE rfl rfl) H fun x61 a H hE => ?_
            refine hE.qon (by rfl) (by rfl) ?_
            refine hE.qop (X.load hE rfl) H fun x62 a H hE => ?_
            refine hE.qon (by rfl) (by rfl) ?_
            obtain ⟨r, hc, H⟩ := H
            refine hE.qcallV rfl rfl hc fun a hE => ?_
            refine hE.qon (by rfl) (by rfl) ?_
            refine hE.qpur (X.ltI hE rfl rfl) fun a hE => ?_
            refine hE.qpur (X.pickT hE rfl rfl) fun a hE => ?_
            exact hr6 (decide (r < 0)) _ H (hE.weak ⟨rfl, rfl, rfl, rfl, rfl, rfl, trivial⟩)
          · replace H := H.2 hbr6
            replace hE := hE.bool (b := false) (t := 53) rfl (decide_eq_false hbr6)
            refine hE.qoff (by rfl) (by rfl) (by decide) (fun a hE => ?_)
            refine hE.qoff (by rfl) (by rfl) (by decide) (fun a hE => ?_)
            refine hE.qoff (by rfl) (by rfl) (by decide) (fun a hE => ?_)
            refine hE.qoff (by rfl) (by rfl) (by decide) (fun a hE => ?_)
            refine hE.qoff (by rfl) (by rfl) (by decide) (fun a hE => ?_)
            refine hE.qoff (by rfl) (by rfl) (by decide) (fun a hE => ?_)
            refine hE.qoff (by rfl) (by rfl) (by decide) (fun a hE => ?_)
            refine hE.qoff (by rfl) (by rfl) (by decide) (fun a hE => ?_)
            refine hE.qoff (by rfl) (by rfl) (by decide) (fun a hE => ?_)
            refine hE.qoff (by rfl) (by rfl) (by decide) (fun a hE => ?_)
            refine hE.qoff (by rfl) (by rfl) (by decide) (fun a hE => ?_)
            refine hE.qpur (X.pickF hE rfl rfl) fun a hE => ?_
            exact hr6 false _ H (hE.weak ⟨rfl, rfl, rfl, rfl, rfl, rfl, trivial⟩)
    · rcases Classical.em ((x11_1 ≤ x12)) with hbr4 | hbr4
      · replace H := H.1 hbr4
        replace hE := hE.bool (b := true) (t := 34) rfl (decide_eq_true hbr4)
        refine hE.qon (by rfl) (by rfl) ?_
        refine hE.qpur (X.move hE rfl) fun a hE => ?_
        refine hE.qon (by rfl) (by rfl) ?_
        refine hE.qpur (X.move hE rfl) fun a hE => ?_
        refine hE.qon (by rfl) (by rfl) ?_
        refine hE.qpur (X.move hE rfl) fun a hE => ?_
        refine hE.qon (by rfl) (by rfl) ?_
        refine hE.qop (X.indexAddr hE rfl rfl) H fun x38 a H hE => ?_
        refine hE.qon (by rfl) (by rfl) ?_
        refine hE.qop (X.load hE rfl) H fun x39 a H hE => ?_
        refine hE.qon (by rfl) (by rfl) ?_
        refine hE.qpur (X.move hE rfl) fun a hE => ?_
        refine hE.qon (by rfl) (by rfl) ?_
        refine hE.qpur (X.move hE rfl) fun a hE => ?_
        refine hE.qon (by rfl) (by rfl) ?_
        refine hE.qop (X.indexAddr hE rfl rfl) H fun x42 a H hE => ?_
        refine hE.qon (by rfl) (by rfl) ?_
        refine hE.qop (X.load hE rfl) H fun x43 a H hE => ?_
        refine hE.qon (by rfl) (by rfl) ?_
        obtain ⟨r_1, hc, H⟩ := H
        refine hE.qcallV rfl rfl hc fun a hE => ?_
        refine hE.qon (by rfl) (by rfl) ?_
        refine hE.qpur (X.ltI hE rfl rfl) fun a hE => ?_
        refine hE.qon (by rfl) (by rfl) ?_
        refine hE.qpur (X.not hE rfl) fun a hE => ?_
        refine hE.qpur (X.pickT hE rfl rfl) fun a hE => ?_
        exact hr4 (!(decide (r_1 < 0))) _ H (hE.weak ⟨rfl, rfl, rfl, rfl, rfl, rfl, trivial⟩)
      · replace H := H.2 hbr4
        replace hE := hE.bool (b := false) (t := 34) rfl (decide_eq_false hbr4)
        refine hE.qoff (by rfl) (by rfl) (by decide) (fun a hE => ?_)
        refine hE.qoff (by rfl) (by rfl) (by decide) (fun a hE => ?_)
        refine hE.qoff (by rfl) (by rfl) (by decide) (fun a hE => ?_)
        refine hE.qoff (by rfl) (by rfl) (by decide) (fun a hE => ?_)
        refine hE.qoff (by rfl) (by rfl) (by decide) (fun a hE => ?_)
        refine hE.qoff (by rfl) (by rfl) (by decide) (fun a hE => ?_)
        refine hE.qoff (by rfl) (by rfl) (by decide) (fun a hE => ?_)
        refine hE.qoff (by rfl) (by rfl) (by decide) (fun a hE => ?_)
        refine hE.qoff (by rfl) (by rfl) (by decide) (fun a hE => ?_)
        refine hE.qoff (by rfl) (by rfl) (by decide) (fun a hE => ?_)
        refine hE.qoff (by rfl) (by rfl) (by decide) (fun a hE => ?_)
        refine hE.qoff (by rfl) (by rfl) (by decide) (fun a hE => ?_)
        refine hE.qpur (X.pickF hE rfl rfl) fun a hE => ?_
        exact hr4 false _ H (hE.weak ⟨rfl, rfl, rfl, rfl, rfl, rfl, trivial⟩)
  · refine C.any 16 #[false, false, false, false, false, false, false, false, false, false, false, false, false, false, false, false] (by kernel_rfl) (fun w hB => ?_)
    replace H := H w hB
    refine hE.apur (i := 0) (fun _ _ _ _ _ h => h) (by kernel_rfl) rfl (by kernel_rfl) (by kernel_rfl) (by rfl) (l2 := #[true, false, false, false, false, false, false, false, false, false, false, false, false, false, false, false]) (pn_run (X.move hE rfl)) fun a hE => ?_
    refine hE.apur (i := 1) (fun _ _ _ _ _ h => h) (by kernel_rfl) rfl (by kernel_rfl) (by kernel_rfl) (by rfl) (l2 := #[true, true, false, false, false, false, false, false, false, false, false, false, false, false, false, false]) (pn_run (X.move hE rfl)) fun a hE => ?_
    refine hE.apur (i := 2) (fun _ _ _ _ _ h => h) (by kernel_rfl) rfl (by kernel_rfl) (by kernel_rfl) (by rfl) (l2 := #[true, true, true, false, false, false, false, false, false, false, false, false, false, false, false, false]) (pn_run (X.move hE rfl)) fun a hE => ?_
    refine hE.apur (i := 3) (fun _ _ _ _ _ h => h) (by kernel_rfl) rfl (by kernel_rfl) (by kernel_rfl) (by rfl) (l2 := #[true, true, true, true, false, false, false, false, false, false, false, false, false, false, false, false]) (pn_run (X.move hE rfl)) fun a hE => ?_
    refine hE.apur (i := 4) (fun _ _ _ _ _ h => h) (by kernel_rfl) rfl (by kernel_rfl) (by kernel_rfl) (by rfl) (l2 := #[true, true, true, true, true, false, false, false, false, false, false, false, false, false, false, false]) (pn_run (X.move hE rfl)) fun a hE => ?_
    refine hE.apur (i := 5) (fun _ _ _ _ _ h => h) (by kernel_rfl) rfl (by kernel_rfl) (by kernel_rfl) (by rfl) (l2 := #[true, true, true, true, true, true, false, false, false, false, false, false, false, false, false, false]) (pn_run (X.move hE rfl)) fun a hE => ?_
    refine hE.aop (i := 6) (fun _ _ _ _ _ h => h) (by kernel_rfl) rfl (by kernel_rfl) (by kernel_rfl) (by rfl) (l2 := #[true, true, true, true, true, true, true, false, false, false, false, false, false, false, false, false]) (X.indexAddr hE rfl rfl) H fun x19 a H hE => ?_
    refine hE.apur (i := 8) (fun _ _ _ _ _ h => h) (by kernel_rfl) rfl (by kernel_rfl) (by kernel_rfl) (by rfl) (l2 := #[true, true, true, true, true, true, true, false, true, false, false, false, false, false, false, false]) (pn_run (X.move hE rfl)) fun a hE => ?_
    refine hE.apur (i := 9) (fun _ _ _ _ _ h => h) (by kernel_rfl) rfl (by kernel_rfl) (by kernel_rfl) (by rfl) (l2 := #[true, true, true, true, true, true, true, false, true, true, false, false, false, false, false, false]) (pn_run (X.move hE rfl)) fun a hE => ?_
    refine hE.aop (i := 10) (fun _ _ _ _ _ h => h) (by kernel_rfl) rfl (by kernel_rfl) (by kernel_rfl) (by rfl) (l2 := #[true, true, true, true, true, true, true, false, true, true, true, false, false, false, false, false]) (X.indexAddr hE rfl rfl) H fun x23 a H hE => ?_
    refine WA.two (i := 7) (j := 11) (l2 := #[true, true, true, true, true, true, true, true, true, true, true, false, false, false, false, false]) (l3 := #[true, true, true, true, true, true, true, false, true, true, true, true, false, false, false, false]) rfl rfl (by kernel_rfl) (by rfl) (by rfl) ?_ ?_
    · replace H := H.1
      intro K hK
      refine hE.wop (X.load hE rfl) H fun x20 w a H hE => ?_
      refine hK _ _ ?_
      refine WA.one (i := 11) (l2 := #[true, true, true, true, true, true, true, true, true, true, true, true, false, false, false, false]) rfl (by kernel_rfl) (by rfl) ?_
      intro K hK
      refine hE.wop (X.load hE rfl) H fun x24 w a H hE => ?_
      refine hK _ _ ?_
      refine hE.aop (i := 12) (fun _ _ _ _ _ h => h) (by kernel_rfl) rfl (by kernel_rfl) (by kernel_rfl) (by rfl) (l2 := #[true, true, true, true, true, true, true, true, true, true, true, true, true, false, false, false]) (X.indexAddr hE rfl rfl) H fun x25 a H hE => ?_
      refine WA.one (i := 13) (l2 := #[true, true, true, true, true, true, true, true, true, true, true, true, true, true, false, false]) rfl (by kernel_rfl) (by rfl) ?_
      intro K hK
      refine hE.wopu (X.store hE rfl rfl) H fun w a H hE => ?_
      refine hK _ _ ?_
      refine hE.aop (i := 14) (fun _ _ _ _ _ h => h) (by kernel_rfl) rfl (by kernel_rfl) (by kernel_rfl) (by rfl) (l2 := #[true, true, true, true, true, true, true, true, true, true, true, true, true, true, true, false]) (X.indexAddr hE rfl rfl) H fun x26 a H hE => ?_
      refine WA.one (i := 15) (l2 := #[true, true, true, true, true, true, true, true, true, true, true, true, true, true, true, true]) rfl (by kernel_rfl) (by rfl) ?_
      intro K hK
      refine hE.wopu (X.store hE rfl rfl) H fun w a H hE => ?_
      refine hK _ _ ?_
      refine WA.nil (by kernel_rfl) ?_
      exact (tn (hj1 () _ _ H (hE.weak ⟨rfl, rfl, rfl, rfl, trivial⟩)))
    · replace H := H.2
      intro K hK
      refine hE.wop (X.load hE rfl) H fun x24_1 w a H hE => ?_
      refine hK _ _ ?_
      refine WA.one (i := 7) (l2 := #[true, true, true, true, true, true, true, true, true, true, true, true, false, false, false, false]) rfl (by kernel_rfl) (by rfl) ?_
      intro K hK
      refine hE.wop (X.load hE rfl) H fun x20_1 w a H hE => ?_
      refine hK _ _ ?_
      refine hE.aop (i := 12) (fun _ _ _ _ _ h => h) (by kernel_rfl) rfl (by kernel_rfl) (by kernel_rfl) (by rfl) (l2 := #[true, true, true, true, true, true, true, true, true, true, true, true, true, false, false, false]) (X.indexAddr hE rfl rfl) H fun x25_1 a H hE => ?_
      refine WA.one (i := 13) (l2 := #[true, true, true, true, true, true, true, true, true, true, true, true, true, true, false, false]) rfl (by kernel_rfl) (by rfl) ?_
      intro K hK
      refine hE.wopu (X.store hE rfl rfl) H fun w a H hE => ?_
      refine hK _ _ ?_
      refine hE.aop (i := 14) (fun _ _ _ _ _ h => h) (by kernel_rfl) rfl (by kernel_rfl) (by kernel_rfl) (by rfl) (l2 := #[true, true, true, true, true, true, true, true, true, true, true, true, true, true, true, false]) (X.indexAddr hE rfl rfl) H fun x26_1 a H hE => ?_
      refine WA.one (i := 15) (l2 := #[true, true, true, true, true, true, true, true, true, true, true, true, true, true, true, true]) rfl (by kernel_rfl) (by rfl) ?_
      intro K hK
      refine hE.wopu (X.store hE rfl rfl) H fun w a H hE => ?_
      refine hK _ _ ?_
      refine WA.nil (by kernel_rfl) ?_
      exact (tn (hj1 () _ _ H (hE.weak ⟨rfl, rfl, rfl, rfl, trivial⟩)))
/-! ### slices.partitionCmpFunc[lading api.Version]: function 58 -/
def V_slices_partitionCmpFunc_api_Version_j6 (Ret : Int → Bool → World → Prop) (x13 : Int) (w : World) : Prop :=
  Ret x13 true w
def V_slices_partitionCmpFunc_api_Version_j13 (Ret : Int → Bool → World → Prop) (x13_2 : Int) (w : World) : Prop :=
  Ret x13_2 false w
def V_slices_partitionCmpFunc_api_Version_j14 (Kl8 : Int → Int → World → Prop) (x12_2 : Int) (x13_2 : Int) (w : World) : Prop :=
  Kl8 (IntKind.wrap .i64 (x12_2 + 1)) (IntKind.wrap .i64 (x13_2 - 1)) w
def V_slices_partitionCmpFunc_api_Version_r12 (x0 : Sl) (x1 : Int) (Ret : Int → Bool → World → Prop) (Kl8 : Int → Int → World → Prop) (x12_2 : Int) (x13_2 : Int) (Kl11 : Int → World → Prop) (x139 : Bool) (w : World) : Prop :=
  nextB w (fun w => (x139 = true → (Kl11 (IntKind.wrap .i64 (x13_2 - 1)) w)) ∧ (x139 = false → (((x13_2 < x12_2) → (nextB w (fun w => opP Try.prog Value.pointer (Instr.indexAt 22 (Sl.v x0) (.int .i64 x1)) (fun x169 => opP Try.prog Value.pointer (Instr.indexAt 22 (Sl.v x0) (.int .i64 x13_2)) (fun x173 => (opE Try.prog T_api_Version.v (Instr.loadAt 37 (.pointer x169)) w (fun x170 w => opE Try.prog T_api_Version.v (Instr.loadAt 37 (.pointer x173)) w (fun x174 w => opP Try.prog Value.pointer (Instr.indexAt 22 (Sl.v x0) (.int .i64 x13_2)) (fun x175 => opU Try.prog (Instr.storeAt 37 (.pointer x175) (T_api_Version.v x170)) w (fun w => opP Try.prog Value.pointer (Instr.indexAt 22 (Sl.v x0) (.int .i64 x1)) (fun x176 => opU Try.prog (Instr.storeAt 37 (.pointer x176) (T_api_Version.v x174)) w (fun w => V_slices_partitionCmpFunc_api_Version_j13 Ret x13_2 w))))))) ∧ (opE Try.prog T_api_Version.v (Instr.loadAt 37 (.pointer x173)) w (fun x174_1 w => opE Try.prog T_api_Version.v (Instr.loadAt 37 (.pointer x169)) w (fun x170_1 w => opP Try.prog Value.pointer (Instr.indexAt 22 (Sl.v x0) (.int .i64 x13_2)) (fun x175_1 => opU Try.prog (Instr.storeAt 37 (.pointer x175_1) (T_api_Version.v x170_1)) w (fun w => opP Try.prog Value.pointer (Instr.indexAt 22 (Sl.v x0) (.int .i64 x1)) (fun x176_1 => opU Try.prog (Instr.storeAt 37 (.pointer x176_1) (T_api_Version.v x174_1)) w (fun w => V_slices_partitionCmpFunc_api_Version_j13 Ret x13_2 w)))))))))))) ∧ (¬ (x13_2 < x12_2) → (nextB w (fun w => opP Try.prog Value.pointer (Instr.indexAt 22 (Sl.v x0) (.int .i64 x13_2)) (fun x151 => opP Try.prog Value.pointer (Instr.indexAt 22 (Sl.v x0) (.int .i64 x12_2)) (fun x155 => (opE Try.prog T_api_Version.v (Instr.loadAt 37 (.pointer x151)) w (fun x152 w => opE Try.prog T_api_Version.v (Instr.loadAt 37 (.pointer x155)) w (fun x156 w => opP Try.prog Value.pointer (Instr.indexAt 22 (Sl.v x0) (.int .i64 x12_2)) (fun x157 => opU Try.prog (Instr.storeAt 37 (.pointer x157) (T_api_Version.v x152)) w (fun w => opP Try.prog Value.pointer (Instr.indexAt 22 (Sl.v x0) (.int .i64 x13_2)) (fun x158 => opU Try.prog (Instr.storeAt 37 (.pointer x158) (T_api_Version.v x156)) w (fun w => V_slices_partitionCmpFunc_api_Version_j14 Kl8 x12_2 x13_2 w))))))) ∧ (opE Try.prog T_api_Version.v (Instr.loadAt 37 (.pointer x155)) w (fun x156_1 w => opE Try.prog T_api_Version.v (Instr.loadAt 37 (.pointer x151)) w (fun x152_1 w => opP Try.prog Value.pointer (Instr.indexAt 22 (Sl.v x0) (.int .i64 x12_2)) (fun x157_1 => opU Try.prog (Instr.storeAt 37 (.pointer x157_1) (T_api_Version.v x152_1)) w (fun w => opP Try.prog Value.pointer (Instr.indexAt 22 (Sl.v x0) (.int .i64 x13_2)) (fun x158_1 => opU Try.prog (Instr.storeAt 37 (.pointer x158_1) (T_api_Version.v x156_1)) w (fun w => V_slices_partitionCmpFunc_api_Version_j14 Kl8 x12_2 x13_2 w)))))))))))))))
def V_slices_partitionCmpFunc_api_Version_l11b (x0 : Sl) (x1 : Int) (x4 : Value) (Ret : Int → Bool → World → Prop) (Kl8 : Int → Int → World → Prop) (x12_2 : Int) (x13_2 : Int) (w : World) (Kl11 : Int → World → Prop) : Prop :=
  ((x12_2 ≤ x13_2) → (opB Try.prog Value.pointer (Instr.indexAt 22 (Sl.v x0) (.int .i64 x13_2)) w (fun x130 => opB Try.prog T_api_Version.v (Instr.loadAt 37 (.pointer x130)) w (fun x131 => opB Try.prog Value.pointer (Instr.indexAt 22 (Sl.v x0) (.int .i64 x1)) w (fun x134 => opB Try.prog T_api_Version.v (Instr.loadAt 37 (.pointer x134)) w (fun x135 => ∃ (r : Int), CallQ Try.prog x4 [(T_api_Version.v x131), (T_api_Version.v x135)] w (.int .i64 r) ∧ (V_slices_partitionCmpFunc_api_Version_r12 x0 x1 Ret Kl8 x12_2 x13_2 Kl11 (!(decide (r < 0))) w))))))) ∧ (¬ (x12_2 ≤ x13_2) → (V_slices_partitionCmpFunc_api_Version_r12 x0 x1 Ret Kl8 x12_2 x13_2 Kl11 false w))
def V_slices_partitionCmpFunc_api_Version_r10 (x0 : Sl) (x1 : Int) (x4 : Value) (Ret : Int → Bool → World → Prop) (x13_1 : Int) (Kl8 : Int → Int → World → Prop) (x12_2 : Int) (Kl9 : Int → World → Prop) (x120 : Bool) (w : World) : Prop :=
  nextB w (fun w => (x120 = true → (Kl9 (IntKind.wrap .i64 (x12_2 + 1)) w)) ∧ (x120 = false → (∃ (I : Int → World → Prop) (μ : Int → World → Nat), I x13_1 w ∧ ∀ (x13_2 : Int) w, I x13_2 w → V_slices_partitionCmpFunc_api_Version_l11b x0 x1 x4 Ret Kl8 x12_2 x13_2 w (fun x13_2' w' => I x13_2' w' ∧ μ x13_2' w' < μ x13_2 w))))
def V_slices_partitionCmpFunc_api_Version_l9b (x0 : Sl) (x1 : Int) (x4 : Value) (Ret : Int → Bool → World → Prop) (x13_1 : Int) (Kl8 : Int → Int → World → Prop) (x12_2 : Int) (w : World) (Kl9 : Int → World → Prop) : Prop :=
  ((x12_2 ≤ x13_1) → (opB Try.prog Value.pointer (Instr.indexAt 22 (Sl.v x0) (.int .i64 x12_2)) w (fun x112 => opB Try.prog T_api_Version.v (Instr.loadAt 37 (.pointer x112)) w (fun x113 => opB Try.prog Value.pointer (Instr.indexAt 22 (Sl.v x0) (.int .i64 x1)) w (fun x116 => opB Try.prog T_api_Version.v (Instr.loadAt 37 (.pointer x116)) w (fun x117 => ∃ (r_1 : Int), CallQ Try.prog x4 [(T_api_Version.v x113), (T_api_Version.v x117)] w (.int .i64 r_1) ∧ (V_slices_partitionCmpFunc_api_Version_r10 x0 x1 x4 Ret x13_1 Kl8 x12_2 Kl9 (decide (r_1 < 0)) w))))))) ∧ (¬ (x12_2 ≤ x13_1) → (V_slices_partitionCmpFunc_api_Version_r10 x0 x1 x4 Ret x13_1 Kl8 x12_2 Kl9 false w))
def V_slices_partitionCmpFunc_api_Version_l8b (x0 : Sl) (x1 : Int) (x4 : Value) (Ret : Int → Bool → World → Prop) (x12_1 : Int) (x13_1 : Int) (w : World) (Kl8 : Int → Int → World → Prop) : Prop :=
  ∃ (I : Int → World → Prop) (μ : Int → World → Nat), I x12_1 w ∧ ∀ (x12_2 : Int) w, I x12_2 w → V_slices_partitionCmpFunc_api_Version_l9b x0 x1 x4 Ret x13_1 Kl8 x12_2 w (fun x12_2' w' => I x12_2' w' ∧ μ x12_2' w' < μ x12_2 w)
def V_slices_partitionCmpFunc_api_Version_j7 (x0 : Sl) (x1 : Int) (x4 : Value) (Ret : Int → Bool → World → Prop) (x12 : Int) (x13 : Int) (w : World) : Prop :=
  ∃ (I : Int → Int → World → Prop) (μ : Int → Int → World → Nat), I (IntKind.wrap .i64 (x12 + 1)) (IntKind.wrap .i64 (x13 - 1)) w ∧ ∀ (x12_1 : Int) (x13_1 : Int) w, I x12_1 x13_1 w → V_slices_partitionCmpFunc_api_Version_l8b x0 x1 x4 Ret x12_1 x13_1 w (fun x12_1' x13_1' w' => I x12_1' x13_1' w' ∧ μ x12_1' x13_1' w' < μ x12_1 x13_1 w)
def V_slices_partitionCmpFunc_api_Version_r5 (x0 : Sl) (x1 : Int) (x4 : Value) (Ret : Int → Bool → World → Prop) (x12 : Int) (x13 : Int) (Kl4 : Int → World → Prop) (x66 : Bool) (w : World) : Prop :=
  nextB w (fun w => (x66 = true → (Kl4 (IntKind.wrap .i64 (x13 - 1)) w)) ∧ (x66 = false → (((x13 < x12) → (nextB w (fun w => opP Try.prog Value.pointer (Instr.indexAt 22 (Sl.v x0) (.int .i64 x1)) (fun x78 => opP Try.prog Value.pointer (Instr.indexAt 22 (Sl.v x0) (.int .i64 x13)) (fun x82 => (opE Try.prog T_api_Version.v (Instr.loadAt 37 (.pointer x78)) w (fun x79 w => opE Try.prog T_api_Version.v (Instr.loadAt 37 (.pointer x82)) w (fun x83 w => opP Try.prog Value.pointer (Instr.indexAt 22 (Sl.v x0) (.int .i64 x13)) (fun x84 => opU Try.prog (Instr.storeAt 37 (.pointer x84) (T_api_Version.v x79)) w (fun w => opP Try.prog Value.pointer (Instr.indexAt 22 (Sl.v x0) (.int .i64 x1)) (fun x85 => opU Try.prog (Instr.storeAt 37 (.pointer x85) (T_api_Version.v x83)) w (fun w => V_slices_partitionCmpFunc_api_Version_j6 Ret x13 w))))))) ∧ (opE Try.prog T_api_Version.v (Instr.loadAt 37 (.pointer x82)) w (fun x83_1 w => opE Try.prog T_api_Version.v (Instr.loadAt 37 (.pointer x78)) w (fun x79_1 w => opP Try.prog Value.pointer (Instr.indexAt 22 (Sl.v x0) (.int .i64 x13)) (fun x84_1 => opU Try.prog (Instr.storeAt 37 (.pointer x84_1) (T_api_Version.v x79_1)) w (fun w => opP Try.prog Value.pointer (Instr.indexAt 22 (Sl.v x0) (.int .i64 x1)) (fun x85_1 => opU Try.prog (Instr.storeAt 37 (.pointer x85_1) (T_api_Version.v x83_1)) w (fun w => V_slices_partitionCmpFunc_api_Version_j6 Ret x13 w)))))))))))) ∧ (¬ (x13 < x12) → (nextB w (fun w => opP Try.prog Value.pointer (Instr.indexAt 22 (Sl.v x0) (.int .i64 x13)) (fun x93 => opP Try.prog Value.pointer (Instr.indexAt 22 (Sl.v x0) (.int .i64 x12)) (fun x97 => (opE Try.prog T_api_Version.v (Instr.loadAt 37 (.pointer x93)) w (fun x94 w => opE Try.prog T_api_Version.v (Instr.loadAt 37 (.pointer x97)) w (fun x98 w => opP Try.prog Value.pointer (Instr.indexAt 22 (Sl.v x0) (.int .i64 x12)) (fun x99 => opU Try.prog (Instr.storeAt 37 (.pointer x99) (T_api_Version.v x94)) w (fun w => opP Try.prog Value.pointer (Instr.indexAt 22 (Sl.v x0) (.int .i64 x13)) (fun x100 => opU Try.prog (Instr.storeAt 37 (.pointer x100) (T_api_Version.v x98)) w (fun w => V_slices_partitionCmpFunc_api_Version_j7 x0 x1 x4 Ret x12 x13 w))))))) ∧ (opE Try.prog T_api_Version.v (Instr.loadAt 37 (.pointer x97)) w (fun x98_1 w => opE Try.prog T_api_Version.v (Instr.loadAt 37 (.pointer x93)) w (fun x94_1 w => opP Try.prog Value.pointer (Instr.indexAt 22 (Sl.v x0) (.int .i64 x12)) (fun x99_1 => opU Try.prog (Instr.storeAt 37 (.pointer x99_1) (T_api_Version.v x94_1)) w (fun w => opP Try.prog Value.pointer (Instr.indexAt 22 (Sl.v x0) (.int .i64 x13)) (fun x100_1 => opU Try.prog (Instr.storeAt 37 (.pointer x100_1) (T_api_Version.v x98_1)) w (fun w => V_slices_partitionCmpFunc_api_Version_j7 x0 x1 x4 Ret x12 x13 w)))))))))))))))
def V_slices_partitionCmpFunc_api_Version_l4b (x0 : Sl) (x1 : Int) (x4 : Value) (Ret : Int → Bool → World → Prop) (x12 : Int) (x13 : Int) (w : World) (Kl4 : Int → World → Prop) : Prop :=
  ((x12 ≤ x13) → (opB Try.prog Value.pointer (Instr.indexAt 22 (Sl.v x0) (.int .i64 x13)) w (fun x57 => opB Try.prog T_api_Version.v (Instr.loadAt 37 (.pointer x57)) w (fun x58 => opB Try.prog Value.pointer (Instr.indexAt 22 (Sl.v x0) (.int .i64 x1)) w (fun x61 => opB Try.prog T_api_Version.v (Instr.loadAt 37 (.pointer x61)) w (fun x62 => ∃ (r_2 : Int), CallQ Try.prog x4 [(T_api_Version.v x58), (T_api_Version.v x62)] w (.int .i64 r_2) ∧ (V_slices_partitionCmpFunc_api_Version_r5 x0 x1 x4 Ret x12 x13 Kl4 (!(decide (r_2 < 0))) w))))))) ∧ (¬ (x12 ≤ x13) → (V_slices_partitionCmpFunc_api_Version_r5 x0 x1 x4 Ret x12 x13 Kl4 false w))
def V_slices_partitionCmpFunc_api_Version_r3 (x0 : Sl) (x1 : Int) (x2 : Int) (x4 : Value) (Ret : Int → Bool → World → Prop) (x12 : Int) (Kl2 : Int → World → Prop) (x47 : Bool) (w : World) : Prop :=
  nextB w (fun w => (x47 = true → (Kl2 (IntKind.wrap .i64 (x12 + 1)) w)) ∧ (x47 = false → (∃ (I : Int → World → Prop) (μ : Int → World → Nat), I (IntKind.wrap .i64 (x2 - 1)) w ∧ ∀ (x13 : Int) w, I x13 w → V_slices_partitionCmpFunc_api_Version_l4b x0 x1 x4 Ret x12 x13 w (fun x13' w' => I x13' w' ∧ μ x13' w' < μ x13 w))))
def V_slices_partitionCmpFunc_api_Version_l2b (x0 : Sl) (x1 : Int) (x2 : Int) (x4 : Value) (Ret : Int → Bool → World → Prop) (x12 : Int) (w : World) (Kl2 : Int → World → Prop) : Prop :=
  ((x12 ≤ (IntKind.wrap .i64 (x2 - 1))) → (opB Try.prog Value.pointer (Instr.indexAt 22 (Sl.v x0) (.int .i64 x12)) w (fun x39 => opB Try.prog T_api_Version.v (Instr.loadAt 37 (.pointer x39)) w (fun x40 => opB Try.prog Value.pointer (Instr.indexAt 22 (Sl.v x0) (.int .i64 x1)) w (fun x43 => opB Try.prog T_api_Version.v (Instr.loadAt 37 (.pointer x43)) w (fun x44 => ∃ (r_3 : Int), CallQ Try.prog x4 [(T_api_Version.v x40), (T_api_Version.v x44)] w (.int .i64 r_3) ∧ (V_slices_partitionCmpFunc_api_Version_r3 x0 x1 x2 x4 Ret x12 Kl2 (decide (r_3 < 0)) w))))))) ∧ (¬ (x12 ≤ (IntKind.wrap .i64 (x2 - 1))) → (V_slices_partitionCmpFunc_api_Version_r3 x0 x1 x2 x4 Ret x12 Kl2 false w))
def V_slices_partitionCmpFunc_api_Version_j1 (x0 : Sl) (x1 : Int) (x2 : Int) (x4 : Value) (Ret : Int → Bool → World → Prop) (w : World) : Prop :=
  ∃ (I : Int → World → Prop) (μ : Int → World → Nat), I (IntKind.wrap .i64 (x1 + 1)) w ∧ ∀ (x12 : Int) w, I x12 w → V_slices_partitionCmpFunc_api_Version_l2b x0 x1 x2 x4 Ret x12 w (fun x12' w' => I x12' w' ∧ μ x12' w' < μ x12 w)
def V_slices_partitionCmpFunc_api_Version (x0 : Sl) (x1 : Int) (x2 : Int) (x3 : Int) (x4 : Value) (w : World) (Ret : Int → Bool → World → Prop) : Prop :=
  nextB w (fun w => opP Try.prog Value.pointer (Instr.indexAt 22 (Sl.v x0) (.int .i64 x3)) (fun x20 => opP Try.prog Value.pointer (Instr.indexAt 22 (Sl.v x0) (.int .i64 x1)) (fun x24 => (opE Try.prog T_api_Version.v (Instr.loadAt 37 (.pointer x20)) w (fun x21 w => opE Try.prog T_api_Version.v (Instr.loadAt 37 (.pointer x24)) w (fun x25 w => opP Try.prog Value.pointer (Instr.indexAt 22 (Sl.v x0) (.int .i64 x1)) (fun x26 => opU Try.prog (Instr.storeAt 37 (.pointer x26) (T_api_Version.v x21)) w (fun w => opP Try.prog Value.pointer (Instr.indexAt 22 (Sl.v x0) (.int .i64 x3)) (fun x27 => opU Try.prog (Instr.storeAt 37 (.pointer x27) (T_api_Version.v x25)) w (fun w => V_slices_partitionCmpFunc_api_Version_j1 x0 x1 x2 x4 Ret w))))))) ∧ (opE Try.prog T_api_Version.v (Instr.loadAt 37 (.pointer x24)) w (fun x25_1 w => opE Try.prog T_api_Version.v (Instr.loadAt 37 (.pointer x20)) w (fun x21_1 w => opP Try.prog Value.pointer (Instr.indexAt 22 (Sl.v x0) (.int .i64 x1)) (fun x26_1 => opU Try.prog (Instr.storeAt 37 (.pointer x26_1) (T_api_Version.v x21_1)) w (fun w => opP Try.prog Value.pointer (Instr.indexAt 22 (Sl.v x0) (.int .i64 x3)) (fun x27_1 => opU Try.prog (Instr.storeAt 37 (.pointer x27_1) (T_api_Version.v x25_1)) w (fun w => V_slices_partitionCmpFunc_api_Version_j1 x0 x1 x2 x4 Ret w))))))))))
set_option maxRecDepth 100000 in
theorem L1_slices_partitionCmpFunc_api_Version (x0 : Sl) (x1 : Int) (x2 : Int) (x3 : Int) (x4 : Value) (w : World) (Ret : Int → Bool → World → Prop) (H : V_slices_partitionCmpFunc_api_Version x0 x1 x2 x3 x4 w Ret) : Cl Try.prog 58 [(Sl.v x0), (.int .i64 x1), (.int .i64 x2), (.int .i64 x3), x4].toArray w (fun e w' => ∃ (r0 : Int) (r1 : Bool), e = .returned (.tuple [(.int .i64 r0), (.bool r1)].toArray) ∧ Ret r0 r1 w') := by
  unfold V_slices_partitionCmpFunc_api_Version at H
  refine C.enter 178 (zipE 0 [(Sl.v x0), (.int .i64 x1), (.int .i64 x2), (.int .i64 x3), x4]) Try.func58 rfl rfl (by rfl) rfl ?_
  intro a hE
  replace hE : Sat [] 178 [(0, (Sl.v x0)), (1, (.int .i64 x1)), (2, (.int .i64 x2)), (3, (.int .i64 x3)), (4, x4)] a := hE
  refine C.seq ?_
  refine C.region ?_
  refine hE.pur (X.assign hE rfl) fun a hE => ?_
  refine hE.pur (X.assign hE rfl) fun a hE => ?_
  refine C.nil (tn ?_)
  refine C.join (ds := []) (N := 178) (σ := Unit) (fun s => [(0, (Sl.v x0)), (1, (.int .i64 x1)), (2, (.int .i64 x2)), (4, x4)]) (fun s w => V_slices_partitionCmpFunc_api_Version_j1 x0 x1 x2 x4 Ret  w) ?_ (fun hj1 => ?_)
  · rintro ⟨⟩ w a H hE
    try dsimp only at H hE
    unfold V_slices_partitionCmpFunc_api_Version_j1 at H
    refine C.seq ?_
    refine C.region ?_
    refine hE.pur (X.move hE rfl) fun a hE => ?_
    refine hE.pur (X.add hE rfl rfl) fun a hE => ?_
    refine hE.pur (X.move hE rfl) fun a hE => ?_
    refine hE.pur (X.sub hE rfl rfl) fun a hE => ?_
    refine hE.pur (X.assign hE rfl) fun a hE => ?_
    refine hE.pur (X.assign hE rfl) fun a hE => ?_
    refine C.nil (tn ?_)
    refine C.seq ?_
    refine C.block ?_
    obtain ⟨I_l2, μ_l2, h0, hb⟩ := H
    refine C.loop (ds := []) (N := 178) (σ := Int) (fun s => [(12, (.int .i64 s)), (0, (Sl.v x0)), (1, (.int .i64 x1)), (4, x4), (13, (.int .i64 (IntKind.wrap .i64 (x2 - 1))))]) (fun s w => I_l2 s w) (fun s w => μ_l2 s w) (IntKind.wrap .i64 (x1 + 1)) h0 (hE.weak ⟨rfl, rfl, rfl, rfl, rfl, trivial⟩) ?_
    intro x12 w a hI hE
    try dsimp only at hI hE
    obtain ⟨Kl2, hK_l2⟩ : ∃ K : Int → World → Prop, K = (fun x12' w' => I_l2 x12' w' ∧ μ_l2 x12' w' < μ_l2 x12 w) := ⟨_, rfl⟩
    have H : V_slices_partitionCmpFunc_api_Version_l2b x0 x1 x2 x4 Ret x12 w Kl2 := by rw [hK_l2]; exact hb x12 w hI
    clear hb h0 hI
    unfold V_slices_partitionCmpFunc_api_Version_l2b at H
    refine C.seq ?_
    refine C.seq ?_
    refine C.draw (by kernel_rfl) (by kernel_rfl) ?_
    refine hE.qpur (X.move hE rfl) fun a hE => ?_
    refine hE.qpur (X.move hE rfl) fun a hE => ?_
    refine hE.qpur (X.leI hE rfl rfl) fun a hE => ?_
    refine hE.qpur (X.move hE rfl) fun a hE => ?_
    refine WQ.join (ds := []) (N := 178) (σ := Bool) (fun s => [(47, (.bool s)), (0, (Sl.v x0)), (1, (.int .i64 x1)), (4, x4), (12, (.int .i64 x12)), (13, (.int .i64 (IntKind.wrap .i64 (x2 - 1))))]) (fun s => V_slices_partitionCmpFunc_api_Version_r3 x0 x1 x2 x4 Ret x12 Kl2 s w) 12 ?_ (fun hr3 => ?_)
    · intro x47 a H hE
      try dsimp only at H hE
      unfold V_slices_partitionCmpFunc_api_Version_r3 at H
      refine C.qnil (fun w hB => ?_)
      replace H := H w hB
      refine (tn ?_)
      refine C.condB hE rfl (fun hc => ?_) (fun hc => ?_)
      · replace H := H.1 hc
        refine C.skip (tn ?_)
        refine C.block ?_
        refine C.region ?_
        refine hE.pur (X.move hE rfl) fun a hE => ?_
        refine hE.pur (X.add hE rfl rfl) fun a hE => ?_
        refine hE.pur (X.assign hE rfl) fun a hE => ?_
        rw [hK_l2] at H
        exact C.nil (bn (tn ⟨(IntKind.wrap .i64 (x12 + 1)), hE.weak ⟨rfl, rfl, rfl, rfl, rfl, trivial⟩, H⟩))
      · replace H := H.2 hc
        refine C.exit (te (te (be (tn ?_))))
        refine C.seq ?_
        refine C.block ?_
        obtain ⟨I_l4, μ_l4, h0, hb⟩ := H
        refine C.loop (ds := []) (N := 178) (σ := Int) (fun s => [(13, (.int .i64 s)), (0, (Sl.v x0)), (1, (.int .i64 x1)), (4, x4), (12, (.int .i64 x12))]) (fun s w => I_l4 s w) (fun s w => μ_l4 s w) (IntKind.wrap .i64 (x2 - 1)) h0 (hE.weak ⟨rfl, rfl, rfl, rfl, rfl, trivial⟩) ?_
        intro x13 w a hI hE
        try dsimp only at hI hE
        obtain ⟨Kl4, hK_l4⟩ : ∃ K : Int → World → Prop, K = (fun x13' w' => I_l4 x13' w' ∧ μ_l4 x13' w' < μ_l4 x13 w) := ⟨_, rfl⟩
        have H : V_slices_partitionCmpFunc_api_Version_l4b x0 x1 x4 Ret x12 x13 w Kl4 := by rw [hK_l4]; exact hb x13 w hI
        clear hb h0 hI
        unfold V_slices_partitionCmpFunc_api_Version_l4b at H
        refine C.seq ?_
        refine C.seq ?_
        refine C.draw (by kernel_rfl) (by kernel_rfl) ?_
        refine hE.qpur (X.move hE rfl) fun a hE => ?_
        refine hE.qpur (X.move hE rfl) fun a hE => ?_
        refine hE.qpur (X.leI hE rfl rfl) fun a hE => ?_
        refine hE.qpur (X.move hE rfl) fun a hE => ?_
        refine WQ.join (ds := []) (N := 178) (σ := Bool) (fun s => [(66, (.bool s)), (0, (Sl.v x0)), (1, (.int .i64 x1)), (4, x4), (12, (.int .i64 x12)), (13, (.int .i64 x13))]) (fun s => V_slices_partitionCmpFunc_api_Version_r5 x0 x1 x4 Ret x12 x13 Kl4 s w) 13 ?_ (fun hr5 => ?_)
        · intro x66 a H hE
          try dsimp only at H hE
          unfold V_slices_partitionCmpFunc_api_Version_r5 at H
          refine C.qnil (fun w hB => ?_)
          replace H := H w hB
          refine (tn ?_)
          refine C.condB hE rfl (fun hc => ?_) (fun hc => ?_)
          · replace H := H.1 hc
            refine C.skip (tn ?_)
            refine C.block ?_
            refine C.region ?_
            refine hE.pur (X.move hE rfl) fun a hE => ?_
            refine hE.pur (X.sub hE rfl rfl) fun a hE => ?_
            refine hE.pur (X.assign hE rfl) fun a hE => ?_
            rw [hK_l4] at H
            exact C.nil (bn (tn ⟨(IntKind.wrap .i64 (x13 - 1)), hE.weak ⟨rfl, rfl, rfl, rfl, rfl, trivial⟩, H⟩))
          · replace H := H.2 hc
            refine C.exit (te (te (be (tn ?_))))
            refine C.seq ?_
            refine C.seq ?_
            refine C.region ?_
            refine hE.pur (X.move hE rfl) fun a hE => ?_
            refine hE.pur (X.move hE rfl) fun a hE => ?_
            refine hE.pur (X.gtI hE rfl rfl) fun a hE => ?_
            refine C.nil (tn ?_)
            refine C.condP hE rfl (fun hc => ?_) (fun hc => ?_)
            · replace H := H.1 hc
              refine C.join (ds := []) (N := 178) (σ := Unit) (fun s => [(13, (.int .i64 x13))]) (fun s w => V_slices_partitionCmpFunc_api_Version_j6 Ret x13  w) ?_ (fun hj6 => ?_)
              · rintro ⟨⟩ w a H hE
                try dsimp only at H hE
                unfold V_slices_partitionCmpFunc_api_Version_j6 at H
                refine C.seq ?_
                refine C.region ?_
                refine hE.pur (X.move hE rfl) fun a hE => ?_
                refine hE.pur (X.assign hE rfl) fun a hE => ?_
                refine hE.pur (X.assign hE rfl) fun a hE => ?_
                refine C.nil (tn ?_)
                exact C.ret (tr (C.ret2 hE rfl rfl rfl ⟨_, _, rfl, H⟩))
              · refine C.any 16 #[false, false, false, false, false, false, false, false, false, false, false, false, false, false, false, false] (by kernel_rfl) (fun w hB => ?_)
                replace H := H w hB
                refine hE.apur (i := 0) (fun _ _ _ _ _ h => h) (by kernel_rfl) rfl (by kernel_rfl) (by kernel_rfl) (by rfl) (l2 := #[true, false, false, false, false, false, false, false, false, false, false, false, false, false, false, false]) (pn_run (X.move hE rfl)) fun a hE => ?_
                refine hE.apur (i := 1) (fun _ _ _ _ _ h => h) (by kernel_rfl) rfl (by kernel_rfl) (by kernel_rfl) (by rfl) (l2 := #[true, true, false, false, false, false, false, false, false, false, false, false, false, false, false, false]) (pn_run (X.move hE rfl)) fun a hE => ?_
                refine hE.apur (i := 2) (fun _ _ _ _ _ h => h) (by kernel_rfl) rfl (by kernel_rfl) (by kernel_rfl) (by rfl) (l2 := #[true, true, true, false, false, false, false, false, false, false, false, false, false, false, false, false]) (pn_run (X.move hE rfl)) fun a hE => ?_
                refine hE.apur (i := 3) (fun _ _ _ _ _ h => h) (by kernel_rfl) rfl (by kernel_rfl) (by kernel_rfl) (by rfl) (l2 := #[true, true, true, true, false, false, false, false, false, false, false, false, false, false, false, false]) (pn_run (X.move hE rfl)) fun a hE => ?_
                refine hE.apur (i := 4) (fun _ _ _ _ _ h => h) (by kernel_rfl) rfl (by kernel_rfl) (by kernel_rfl) (by rfl) (l2 := #[true, true, true, true, true, false, false, false, false, false, false, false, false, false, false, false]) (pn_run (X.move hE rfl)) fun a hE => ?_
                refine hE.apur (i := 5) (fun _ _ _ _ _ h => h) (by kernel_rfl) rfl (by kernel_rfl) (by kernel_rfl) (by rfl) (l2 := #[true, true, true, true, true, true, false, false, false, false, false, false, false, false, false, false]) (pn_run (X.move hE rfl)) fun a hE => ?_
                refine hE.aop (i := 6) (fun _ _ _ _ _ h => h) (by kernel_rfl) rfl (by kernel_rfl) (by kernel_rfl) (by rfl) (l2 := #[true, true, true, true, true, true, true, false, false, false, false, false, false, false, false, false]) (X.indexAddr hE rfl rfl) H fun x78 a H hE => ?_
                refine hE.apur (i := 8) (fun _ _ _ _ _ h => h) (by kernel_rfl) rfl (by kernel_rfl) (by kernel_rfl) (by rfl) (l2 := #[true, true, true, true, true, true, true, false, true, false, false, false, false, false, false, false]) (pn_run (X.move hE rfl)) fun a hE => ?_
                refine hE.apur (i := 9) (fun _ _ _ _ _ h => h) (by kernel_rfl) rfl (by kernel_rfl) (by kernel_rfl) (by rfl) (l2 := #[true, true, true, true, true, true, true, false, true, true, false, false, false, false, false, false]) (pn_run (X.move hE rfl)) fun a hE => ?_
                refine hE.aop (i := 10) (fun _ _ _ _ _ h => h) (by kernel_rfl) rfl (by kernel_rfl) (by kernel_rfl) (by rfl) (l2 := #[true, true, true, true, true, true, true, false, true, true, true, false, false, false, false, false]) (X.indexAddr hE rfl rfl) H fun x82 a H hE => ?_
                refine WA.two (i := 7) (j := 11) (l2 := #[true, true, true, true, true, true, true, true, true, true, true, false, false, false, false, false]) (l3 := #[true, true, true, true, true, true, true, false, true, true, true, true, false, false, false, false]) rfl rfl (by kernel_rfl) (by rfl) (by rfl) ?_ ?_
                · replace H := H.1
                  intro K hK
                  refine hE.wop (X.load hE rfl) H fun x79 w a H hE => ?_
                  refine hK _ _ ?_
                  refine WA.one (i := 11) (l2 := #[true, true, true, true, true, true, true, true, true, true, true, true, false, false, false, false]) rfl (by kernel_rfl) (by rfl) ?_
                  intro K hK
                  refine hE.wop (X.load hE rfl) H fun x83 w a H hE => ?_
                  refine hK _ _ ?_
                  refine hE.aop (i := 12) (fun _ _ _ _ _ h => h) (by kernel_rfl) rfl (by kernel_rfl) (by kernel_rfl) (by rfl) (l2 := #[true, true, true, true, true, true, true, true, true, true, true, true, true, false, false, false]) (X.indexAddr hE rfl rfl) H fun x84 a H hE => ?_
                  refine WA.one (i := 13) (l2 := #[true, true, true, true, true, true, true, true, true, true, true, true, true, true, false, false]) rfl (by kernel_rfl) (by rfl) ?_
                  intro K hK
                  refine hE.wopu (X.store hE rfl rfl) H fun w a H hE => ?_
                  refine hK _ _ ?_
                  refine hE.aop (i := 14) (fun _ _ _ _ _ h => h) (by kernel_rfl) rfl (by kernel_rfl) (by kernel_rfl) (by rfl) (l2 := #[true, true, true, true, true, true, true, true, true, true, true, true, true, true, true, false]) (X.indexAddr hE rfl rfl) H fun x85 a H hE => ?_
                  refine WA.one (i := 15) (l2 := #[true, true, true, true, true, true, true, true, true, true, true, true, true, true, true, true]) rfl (by kernel_rfl) (by rfl) ?_
                  intro K hK
                  refine hE.wopu (X.store hE rfl rfl) H fun w a H hE => ?_
                  refine hK _ _ ?_
                  refine WA.nil (by kernel_rfl) ?_
                  exact (tn (hj6 () _ _ H (hE.weak ⟨rfl, trivial⟩)))
                · replace H := H.2
                  intro K hK
                  refine hE.wop (X.load hE rfl) H fun x83_1 w a H hE => ?_
                  refine hK _ _ ?_
                  refine WA.one (i := 7) (l2 := #[true, true, true, true, true, true, true, true, true, true, true, true, false, false, false, false]) rfl (by kernel_rfl) (by rfl) ?_
                  intro K hK
                  refine hE.wop (X.load hE rfl) H fun x79_1 w a H hE => ?_
                  refine hK _ _ ?_
                  refine hE.aop (i := 12) (fun _ _ _ _ _ h => h) (by kernel_rfl) rfl (by kernel_rfl) (by kernel_rfl) (by rfl) (l2 := #[true, true, true, true, true, true, true, true, true, true, true, true, true, false, false, false]) (X.indexAddr hE rfl rfl) H fun x84_1 a H hE => ?_
                  refine WA.one (i := 13) (l2 := #[true, true, true, true, true, true, true, true, true, true, true, true, true, true, false, false]) rfl (by kernel_rfl) (by rfl) ?_
                  intro K hK
                  refine hE.wopu (X.store hE rfl rfl) H fun w a H hE => ?_
                  refine hK _ _ ?_
                  refine hE.aop (i := 14) (fun _ _ _ _ _ h => h) (by kernel_rfl) rfl (by kernel_rfl) (by kernel_rfl) (by rfl) (l2 := #[true, true, true, true, true, true, true, true, true, true, true, true, true, true, true, false]) (X.indexAddr hE rfl rfl) H fun x85_1 a H hE => ?_
                  refine WA.one (i := 15) (l2 := #[true, true, true, true, true, true, true, true, true, true, true, true, true, true, true, true]) rfl (by kernel_rfl) (by rfl) ?_
                  intro K hK
                  refine hE.wopu (X.store hE rfl rfl) H fun w a H hE => ?_
                  refine hK _ _ ?_
                  refine WA.nil (by kernel_rfl) ?_
                  exact (tn (hj6 () _ _ H (hE.weak ⟨rfl, trivial⟩)))
            · replace H := H.2 hc
              refine C.skip (tn ?_)
              refine C.join (ds := []) (N := 178) (σ := Unit) (fun s => [(0, (Sl.v x0)), (1, (.int .i64 x1)), (4, x4), (12, (.int .i64 x12)), (13, (.int .i64 x13))]) (fun s w => V_slices_partitionCmpFunc_api_Version_j7 x0 x1 x4 Ret x12 x13  w) ?_ (fun hj7 => ?_)
              · rintro ⟨⟩ w a H hE
                try dsimp only at H hE
                unfold V_slices_partitionCmpFunc_api_Version_j7 at H
                refine C.seq ?_
                refine C.region ?_
                refine hE.pur (X.move hE rfl) fun a hE => ?_
                refine hE.pur (X.add hE rfl rfl) fun a hE => ?_
                refine hE.pur (X.assign hE rfl) fun a hE => ?_
                refine C.nil (tn ?_)
                refine C.seq ?_
                refine C.region ?_
                refine hE.pur (X.move hE rfl) fun a hE => ?_
                refine hE.pur (X.sub hE rfl rfl) fun a hE => ?_
                refine hE.pur (X.assign hE rfl) fun a hE => ?_
                refine C.nil (tn ?_)
                refine C.seq ?_
                refine C.block ?_
                obtain ⟨I_l8, μ_l8, h0, hb⟩ := H
                refine C.loop (ds := []) (N := 178) (σ := Int × Int) (fun s => [(12, (.int .i64 s.1)), (13, (.int .i64 s.2)), (0, (Sl.v x0)), (1, (.int .i64 x1)), (4, x4)]) (fun s w => I_l8 s.1 s.2 w) (fun s w => μ_l8 s.1 s.2 w) ((IntKind.wrap .i64 (x12 + 1)), (IntKind.wrap .i64 (x13 - 1))) h0 (hE.weak ⟨rfl, rfl, rfl, rfl, rfl, trivial⟩) ?_
                rintro ⟨x12_1, x13_1⟩ w a hI hE
                try dsimp only at hI hE
                obtain ⟨Kl8, hK_l8⟩ : ∃ K : Int → Int → World → Prop, K = (fun x12_1' x13_1' w' => I_l8 x12_1' x13_1' w' ∧ μ_l8 x12_1' x13_1' w' < μ_l8 x12_1 x13_1 w) := ⟨_, rfl⟩
                have H : V_slices_partitionCmpFunc_api_Version_l8b x0 x1 x4 Ret x12_1 x13_1 w Kl8 := by rw [hK_l8]; exact hb x12_1 x13_1 w hI
                clear hb h0 hI
                unfold V_slices_partitionCmpFunc_api_Version_l8b at H
                refine C.block ?_
                refine C.seq ?_
                refine C.block ?_
                obtain ⟨I_l9, μ_l9, h0, hb⟩ := H
                refine C.loop (ds := []) (N := 178) (σ := Int) (fun s => [(12, (.int .i64 s)), (0, (Sl.v x0)), (1, (.int .i64 x1)), (4, x4), (13, (.int .i64 x13_1))]) (fun s w => I_l9 s w) (fun s w => μ_l9 s w) x12_1 h0 (hE.weak ⟨rfl, rfl, rfl, rfl, rfl, trivial⟩) ?_
                intro x12_2 w a hI hE
                try dsimp only at hI hE
                obtain ⟨Kl9, hK_l9⟩ : ∃ K : Int → World → Prop, K = (fun x12_2' w' => I_l9 x12_2' w' ∧ μ_l9 x12_2' w' < μ_l9 x12_2 w) := ⟨_, rfl⟩
                have H : V_slices_partitionCmpFunc_api_Version_l9b x0 x1 x4 Ret x13_1 Kl8 x12_2 w Kl9 := by rw [hK_l9]; exact hb x12_2 w hI
                clear hb h0 hI
                unfold V_slices_partitionCmpFunc_api_Version_l9b at H
                refine C.seq ?_
                refine C.seq ?_
                refine C.draw (by kernel_rfl) (by kernel_rfl) ?_
                refine hE.qpur (X.move hE rfl) fun a hE => ?_
                refine hE.qpur (X.move hE rfl) fun a hE => ?_
                refine hE.qpur (X.leI hE rfl rfl) fun a hE => ?_
                refine hE.qpur (X.move hE rfl) fun a hE => ?_
                refine WQ.join (ds := []) (N := 178) (σ := Bool) (fun s => [(120, (.bool s)), (0, (Sl.v x0)), (1, (.int .i64 x1)), (4, x4), (12, (.int .i64 x12_2)), (13, (.int .i64 x13_1))]) (fun s => V_slices_partitionCmpFunc_api_Version_r10 x0 x1 x4 Ret x13_1 Kl8 x12_2 Kl9 s w) 12 ?_ (fun hr10 => ?_)
                · intro x120 a H hE
                  try dsimp only at H hE
                  unfold V_slices_partitionCmpFunc_api_Version_r10 at H
                  refine C.qnil (fun w hB => ?_)
                  replace H := H w hB
                  refine (tn ?_)
                  refine C.condB hE rfl (fun hc => ?_) (fun hc => ?_)
                  · replace H := H.1 hc
                    refine C.skip (tn ?_)
                    refine C.block ?_
                    refine C.region ?_
                    refine hE.pur (X.move hE rfl) fun a hE => ?_
                    refine hE.pur (X.add hE rfl rfl) fun a hE => ?_
                    refine hE.pur (X.assign hE rfl) fun a hE => ?_
                    rw [hK_l9] at H
                    exact C.nil (bn (tn ⟨(IntKind.wrap .i64 (x12_2 + 1)), hE.weak ⟨rfl, rfl, rfl, rfl, rfl, trivial⟩, H⟩))
                  · replace H := H.2 hc
                    refine C.exit (te (te (be (tn ?_))))
                    refine C.seq ?_
                    refine C.block ?_
                    obtain ⟨I_l11, μ_l11, h0, hb⟩ := H
                    refine C.loop (ds := []) (N := 178) (σ := Int) (fun s => [(13, (.int .i64 s)), (0, (Sl.v x0)), (1, (.int .i64 x1)), (4, x4), (12, (.int .i64 x12_2))]) (fun s w => I_l11 s w) (fun s w => μ_l11 s w) x13_1 h0 (hE.weak ⟨rfl, rfl, rfl, rfl, rfl, trivial⟩) ?_
                    intro x13_2 w a hI hE
                    try dsimp only at hI hE
                    obtain ⟨Kl11, hK_l11⟩ : ∃ K : Int → World → Prop, K = (fun x13_2' w' => I_l11 x13_2' w' ∧ μ_l11 x13_2' w' < μ_l11 x13_2 w) := ⟨_, rfl⟩
                    have H : V_slices_partitionCmpFunc_api_Version_l11b x0 x1 x4 Ret Kl8 x12_2 x13_2 w Kl11 := by rw [hK_l11]; exact hb x13_2 w hI
                    clear hb h0 hI
                    unfold V_slices_partitionCmpFunc_api_Version_l11b at H
                    refine C.seq ?_
                    refine C.seq ?_
                    refine C.draw (by kernel_rfl) (by kernel_rfl) ?_
                    refine hE.qpur (X.move hE rfl) fun a hE => ?_
                    refine hE.qpur (X.move hE rfl) fun a hE => ?_
                    refine hE.qpur (X.leI hE rfl rfl) fun a hE => ?_
                    refine hE.qpur (X.move hE rfl) fun a hE => ?_
                    refine WQ.join (ds := []) (N := 178) (σ := Bool) (fun s => [(139, (.bool s)), (0, (Sl.v x0)), (1, (.int .i64 x1)), (4, x4), (12, (.int .i64 x12_2)), (13, (.int .i64 x13_2))]) (fun s => V_slices_partitionCmpFunc_api_Version_r12 x0 x1 Ret Kl8 x12_2 x13_2 Kl11 s w) 13 ?_ (fun hr12 => ?_)
                    · intro x139 a H hE
                      try dsimp only at H hE
                      unfold V_slices_partitionCmpFunc_api_Version_r12 at H
                      refine C.qnil (fun w hB => ?_)
                      replace H := H w hB
                      refine (tn ?_)
                      refine C.condB hE rfl (fun hc => ?_) (fun hc => ?_)
                      · replace H := H.1 hc
                        refine C.skip (tn ?_)
                        refine C.block ?_
                        refine C.region ?_
                        refine hE.pur (X.move hE rfl) fun a hE => ?_
                        refine hE.pur (X.sub hE rfl rfl) fun a hE => ?_
                        refine hE.pur (X.assign hE rfl) fun a hE => ?_
                        rw [hK_l11] at H
                        exact C.nil (bn (tn ⟨(IntKind.wrap .i64 (x13_2 - 1)), hE.weak ⟨rfl, rfl, rfl, rfl, rfl, trivial⟩, H⟩))
                      · replace H := H.2 hc
                        refine C.exit (te (te (be (tn ?_))))
                        refine C.seq ?_
                        refine C.seq ?_
                        refine C.region ?_
                        refine hE.pur (X.move hE rfl) fun a hE => ?_
                        refine hE.pur (X.move hE rfl) fun a hE => ?_
                        refine hE.pur (X.gtI hE rfl rfl) fun a hE => ?_
                        refine C.nil (tn ?_)
                        refine C.condP hE rfl (fun hc => ?_) (fun hc => ?_)
                        · replace H := H.1 hc
                          refine C.exit (te (bo (te (be (tn ?_)))))
                          refine C.join (ds := []) (N := 178) (σ := Unit) (fun s => [(13, (.int .i64 x13_2))]) (fun s w => V_slices_partitionCmpFunc_api_Version_j13 Ret x13_2  w) ?_ (fun hj13 => ?_)
                          · rintro ⟨⟩ w a H hE
                            try dsimp only at H hE
                            unfold V_slices_partitionCmpFunc_api_Version_j13 at H
                            refine C.seq ?_
                            refine C.region ?_
                            refine hE.pur (X.move hE rfl) fun a hE => ?_
                            refine hE.pur (X.assign hE rfl) fun a hE => ?_
                            refine hE.pur (X.assign hE rfl) fun a hE => ?_
                            refine C.nil (tn ?_)
                            exact C.ret (C.ret2 hE rfl rfl rfl ⟨_, _, rfl, H⟩)
                          · refine C.any 16 #[false, false, false, false, false, false, false, false, false, false, false, false, false, false, false, false] (by kernel_rfl) (fun w hB => ?_)
                            replace H := H w hB
                            refine hE.apur (i := 0) (fun _ _ _ _ _ h => h) (by kernel_rfl) rfl (by kernel_rfl) (by kernel_rfl) (by rfl) (l2 := #[true, false, false, false, false, false, false, false, false, false, false, false, false, false, false, false]) (pn_run (X.move hE rfl)) fun a hE => ?_
                            refine hE.apur (i := 1) (fun _ _ _ _ _ h => h) (by kernel_rfl) rfl (by kernel_rfl) (by kernel_rfl) (by rfl) (l2 := #[true, true, false, false, false, false, false, false, false, false, false, false, false, false, false, false]) (pn_run (X.move hE rfl)) fun a hE => ?_
                            refine hE.apur (i := 2) (fun _ _ _ _ _ h => h) (by kernel_rfl) rfl (by kernel_rfl) (by kernel_rfl) (by rfl) (l2 := #[true, true, true, false, false, false, false, false, false, false, false, false, false, false, false, false]) (pn_run (X.move hE rfl)) fun a hE => ?_
                            refine hE.apur (i := 3) (fun _ _ _ _ _ h => h) (by kernel_rfl) rfl (by kernel_rfl) (by kernel_rfl) (by rfl) (l2 := #[true, true, true, true, false, false, false, false, false, false, false, false, false, false, false, false]) (pn_run (X.move hE rfl)) fun a hE => ?_
                            refine hE.apur (i := 4) (fun _ _ _ _ _ h => h) (by kernel_rfl) rfl (by kernel_rfl) (by kernel_rfl) (by rfl) (l2 := #[true, true, true, true, true, false, false, false, false, false, false, false, false, false, false, false]) (pn_run (X.move hE rfl)) fun a hE => ?_
                            refine hE.apur (i := 5) (fun _ _ _ _ _ h => h) (by kernel_rfl) rfl (by kernel_rfl) (by kernel_rfl) (by rfl) (l2 := #[true, true, true, true, true, true, false, false, false, false, false, false, false, false, false, false]) (pn_run (X.move hE rfl)) fun a hE => ?_
                            refine hE.aop (i := 6) (fun _ _ _ _ _ h => h) (by kernel_rfl) rfl (by kernel_rfl) (by kernel_rfl) (by rfl) (l2 := #[true, true, true, true, true, true, true, false, false, false, false, false, false, false, false, false]) (X.indexAddr hE rfl rfl) H fun x169 a H hE => ?_
                            refine hE.apur (i := 8) (fun _ _ _ _ _ h => h) (by kernel_rfl) rfl (by kernel_rfl) (by kernel_rfl) (by rfl) (l2 := #[true, true, true, true, true, true, true, false, true, false, false, false, false, false, false, false]) (pn_run (X.move hE rfl)) fun a hE => ?_
                            refine hE.apur (i := 9) (fun _ _ _ _ _ h => h) (by kernel_rfl) rfl (by kernel_rfl) (by kernel_rfl) (by rfl) (l2 := #[true, true, true, true, true, true, true, false, true, true, false, false, false, false, false, false]) (pn_run (X.move hE rfl)) fun a hE => ?_
                            refine hE.aop (i := 10) (fun _ _ _ _ _ h => h) (by kernel_rfl) rfl (by kernel_rfl) (by kernel_rfl) (by rfl) (l2 := #[true, true, true, true, true, true, true, false, true, true, true, false, false, false, false, false]) (X.indexAddr hE rfl rfl) H fun x173 a H hE => ?_
                            refine WA.two (i := 7) (j := 11) (l2 := #[true, true, true, true, true, true, true, true, true, true, true, false, false, false, false, false]) (l3 := #[true, true, true, true, true, true, true, false, true, true, true, true, false, false, false, false]) rfl rfl (by kernel_rfl) (by rfl) (by rfl) ?_ ?_
                            · replace H := H.1
                              intro K hK
                              refine hE.wop (X.load hE rfl) H fun x170 w a H hE => ?_
                              refine hK _ _ ?_
                              refine WA.one (i := 11) (l2 := #[true, true, true, true, true, true, true, true, true, true, true, true, false, false, false, false]) rfl (by kernel_rfl) (by rfl) ?_
                              intro K hK
                              refine hE.wop (X.load hE rfl) H fun x174 w a H hE => ?_
                              refine hK _ _ ?_
                              refine hE.aop (i := 12) (fun _ _ _ _ _ h => h) (by kernel_rfl) rfl (by kernel_rfl) (by kernel_rfl) (by rfl) (l2 := #[true, true, true, true, true, true, true, true, true, true, true, true, true, false, false, false]) (X.indexAddr hE rfl rfl) H fun x175 a H hE => ?_
                              refine WA.one (i := 13) (l2 := #[true, true, true, true, true, true, true, true, true, true, true, true, true, true, false, false]) rfl (by kernel_rfl) (by rfl) ?_
                              intro K hK
                              refine hE.wopu (X.store hE rfl rfl) H fun w a H hE => ?_
                              refine hK _ _ ?_
                              refine hE.aop (i := 14) (fun _ _ _ _ _ h => h) (by kernel_rfl) rfl (by kernel_rfl) (by kernel_rfl) (by rfl) (l2 := #[true, true, true, true, true, true, true, true, true, true, true, true, true, true, true, false]) (X.indexAddr hE rfl rfl) H fun x176 a H hE => ?_
                              refine WA.one (i := 15) (l2 := #[true, true, true, true, true, true, true, true, true, true, true, true, true, true, true, true]) rfl (by kernel_rfl) (by rfl) ?_
                              intro K hK
                              refine hE.wopu (X.store hE rfl rfl) H fun w a H hE => ?_
                              refine hK _ _ ?_
                              refine WA.nil (by kernel_rfl) ?_
                              exact (tn (hj13 () _ _ H (hE.weak ⟨rfl, trivial⟩)))
                            · replace H := H.2
                              intro K hK
                              refine hE.wop (X.load hE rfl) H fun x174_1 w a H hE => ?_
                              refine hK _ _ ?_
                              refine WA.one (i := 7) (l2 := #[true, true, true, true, true, true, true, true, true, true, true, true, false, false, false, false]) rfl (by kernel_rfl) (by rfl) ?_
                              intro K hK
                              refine hE.wop (X.load hE rfl) H fun x170_1 w a H hE => ?_
                              refine hK _ _ ?_
                              refine hE.aop (i := 12) (fun _ _ _ _ _ h => h) (by kernel_rfl) rfl (by kernel_rfl) (by kernel_rfl) (by rfl) (l2 := #[true, true, true, true, true, true, true, true, true, true, true, true, true, false, false, false]) (X.indexAddr hE rfl rfl) H fun x175_1 a H hE => ?_
                              refine WA.one (i := 13) (l2 := #[true, true, true, true, true, true, true, true, true, true, true, true, true, true, false, false]) rfl (by kernel_rfl) (by rfl) ?_
                              intro K hK
                              refine hE.wopu (X.store hE rfl rfl) H fun w a H hE => ?_
                              refine hK _ _ ?_
                              refine hE.aop (i := 14) (fun _ _ _ _ _ h => h) (by kernel_rfl) rfl (by kernel_rfl) (by kernel_rfl) (by rfl) (l2 := #[true, true, true, true, true, true, true, true, true, true, true, true, true, true, true, false]) (X.indexAddr hE rfl rfl) H fun x176_1 a H hE => ?_
                              refine WA.one (i := 15) (l2 := #[true, true, true, true, true, true, true, true, true, true, true, true, true, true, true, true]) rfl (by kernel_rfl) (by rfl) ?_
                              intro K hK
                              refine hE.wopu (X.store hE rfl rfl) H fun w a H hE => ?_
                              refine hK _ _ ?_
                              refine WA.nil (by kernel_rfl) ?_
                              exact (tn (hj13 () _ _ H (hE.weak ⟨rfl, trivial⟩)))
                        · replace H := H.2 hc
                          refine C.skip (tn ?_)
                          refine C.join (ds := []) (N := 178) (σ := Unit) (fun s => [(0, (Sl.v x0)), (1, (.int .i64 x1)), (4, x4), (12, (.int .i64 x12_2)), (13, (.int .i64 x13_2))]) (fun s w => V_slices_partitionCmpFunc_api_Version_j14 Kl8 x12_2 x13_2  w) ?_ (fun hj14 => ?_)
                          · rintro ⟨⟩ w a H hE
                            try dsimp only at H hE
                            unfold V_slices_partitionCmpFunc_api_Version_j14 at H
                            refine C.seq ?_
                            refine C.region ?_
                            refine hE.pur (X.move hE rfl) fun a hE => ?_
                            refine hE.pur (X.add hE rfl rfl) fun a hE => ?_
                            refine hE.pur (X.assign hE rfl) fun a hE => ?_
                            refine C.nil (tn ?_)
                            refine C.region ?_
                            refine hE.pur (X.move hE rfl) fun a hE => ?_
                            refine hE.pur (X.sub hE rfl rfl) fun a hE => ?_
                            refine hE.pur (X.assign hE rfl) fun a hE => ?_
                            rw [hK_l8] at H
                            exact C.nil (bn (tn ⟨((IntKind.wrap .i64 (x12_2 + 1)), (IntKind.wrap .i64 (x13_2 - 1))), hE.weak ⟨rfl, rfl, rfl, rfl, rfl, trivial⟩, H⟩))
                          · refine C.any 16 #[false, false, false, false, false, false, false, false, false, false, false, false, false, false, false, false] (by kernel_rfl) (fun w hB => ?_)
                            replace H := H w hB
                            refine hE.apur (i := 0) (fun _ _ _ _ _ h => h) (by kernel_rfl) rfl (by kernel_rfl) (by kernel_rfl) (by rfl) (l2 := #[true, false, false, false, false, false, false, false, false, false, false, false, false, false, false, false]) (pn_run (X.move hE rfl)) fun a hE => ?_
                            refine hE.apur (i := 1) (fun _ _ _ _ _ h => h) (by kernel_rfl) rfl (by kernel_rfl) (by kernel_rfl) (by rfl) (l2 := #[true, true, false, false, false, false, false, false, false, false, false, false, false, false, false, false]) (pn_run (X.move hE rfl)) fun a hE => ?_
                            refine hE.apur (i := 2) (fun _ _ _ _ _ h => h) (by kernel_rfl) rfl (by kernel_rfl) (by kernel_rfl) (by rfl) (l2 := #[true, true, true, false, false, false, false, false, false, false, false, false, false, false, false, false]) (pn_run (X.move hE rfl)) fun a hE => ?_
                            refine hE.apur (i := 3) (fun _ _ _ _ _ h => h) (by kernel_rfl) rfl (by kernel_rfl) (by kernel_rfl) (by rfl) (l2 := #[true, true, true, true, false, false, false, false, false, false, false, false, false, false, false, false]) (pn_run (X.move hE rfl)) fun a hE => ?_
                            refine hE.apur (i := 4) (fun _ _ _ _ _ h => h) (by kernel_rfl) rfl (by kernel_rfl) (by kernel_rfl) (by rfl) (l2 := #[true, true, true, true, true, false, false, false, false, false, false, false, false, false, false, false]) (pn_run (X.move hE rfl)) fun a hE => ?_
                            refine hE.apur (i := 5) (fun _ _ _ _ _ h => h) (by kernel_rfl) rfl (by kernel_rfl) (by kernel_rfl) (by rfl) (l2 := #[true, true, true, true, true, true, false, false, false, false, false, false, false, false, false, false]) (pn_run (X.move hE rfl)) fun a hE => ?_
                            refine hE.aop (i := 6) (fun _ _ _ _ _ h => h) (by kernel_rfl) rfl (by kernel_rfl) (by kernel_rfl) (by rfl) (l2 := #[true, true, true, true, true, true, true, false, false, false, false, false, false, false, false, false]) (X.indexAddr hE rfl rfl) H fun x151 a H hE => ?_
                            refine hE.apur (i := 8) (fun _ _ _ _ _ h => h) (by kernel_rfl) rfl (by kernel_rfl) (by kernel_rfl) (by rfl) (l2 := #[true, true, true, true, true, true, true, false, true, false, false, false, false, false, false, false]) (pn_run (X.move hE rfl)) fun a hE => ?_
                            refine hE.apur (i := 9) (fun _ _ _ _ _ h => h) (by kernel_rfl) rfl (by kernel_rfl) (by kernel_rfl) (by rfl) (l2 := #[true, true, true, true, true, true, true, false, true, true, false, false, false, false, false, false]) (pn_run (X.move hE rfl)) fun a hE => ?_
                            refine hE.aop (i := 10) (fun _ _ _ _ _ h => h) (by kernel_rfl) rfl (by kernel_rfl) (by kernel_rfl) (by rfl) (l2 := #[true, true, true, true, true, true, true, false, true, true, true, false, false, false, false, false]) (X.indexAddr hE rfl rfl) H fun x155 a H hE => ?_
                            refine WA.two (i := 7) (j := 11) (l2 := #[true, true, true, true, true, true, true, true, true, true, true, false, false, false, false, false]) (l3 := #[true, true, true, true, true, true, true, false, true, true, true, true, false, false, false, false]) rfl rfl (by kernel_rfl) (by rfl) (by rfl) ?_ ?_
                            · replace H := H.1
                              intro K hK
                              refine hE.wop (X.load hE rfl) H fun x152 w a H hE => ?_
                              refine hK _ _ ?_
                              refine WA.one (i := 11) (l2 := #[true, true, true, true, true, true, true, true, true, true, true, true, false, false, false, false]) rfl (by kernel_rfl) (by rfl) ?_
                              intro K hK
                              refine hE.wop (X.load hE rfl) H fun x156 w a H hE => ?_
                              refine hK _ _ ?_
                              refine hE.aop (i := 12) (fun _ _ _ _ _ h => h) (by kernel_rfl) rfl (by kernel_rfl) (by kernel_rfl) (by rfl) (l2 := #[true, true, true, true, true, true, true, true, true, true, true, true, true, false, false, false]) (X.indexAddr hE rfl rfl) H fun x157 a H hE => ?_
                              refine WA.one (i := 13) (l2 := #[true, true, true, true, true, true, true, true, true, true, true, true, true, true, false, false]) rfl (by kernel_rfl) (by rfl) ?_
                              intro K hK
                              refine hE.wopu (X.store hE rfl rfl) H fun w a H hE => ?_
                              refine hK _ _ ?_
                              refine hE.aop (i := 14) (fun _ _ _ _ _ h => h) (by kernel_rfl) rfl (by kernel_rfl) (by kernel_rfl) (by rfl) (l2 := #[true, true, true, true, true, true, true, true, true, true, true, true, true, true, true, false]) (X.indexAddr hE rfl rfl) H fun x158 a H hE => ?_
                              refine WA.one (i := 15) (l2 := #[true, true, true, true, true, true, true, true, true, true, true, true, true, true, true, true]) rfl (by kernel_rfl) (by rfl) ?_
                              intro K hK
                              refine hE.wopu (X.store hE rfl rfl) H fun w a H hE => ?_
                              refine hK _ _ ?_
                              refine WA.nil (by kernel_rfl) ?_
                              exact (tn (hj14 () _ _ H (hE.weak ⟨rfl, rfl, rfl, rfl, rfl, trivial⟩)))
                            · replace H := H.2
                              intro K hK
                              refine hE.wop (X.load hE rfl) H fun x156_1 w a H hE => ?_
                              refine hK _ _ ?_
                              refine WA.one (i := 7) (l2 := #[true, true, true, true, true, true, true, true, true, true, true, true, false, false, false, false]) rfl (by kernel_rfl) (by rfl) ?_
                              intro K hK
                              refine hE.wop (X.load hE rfl) H fun x152_1 w a H hE => ?_
                              refine hK _ _ ?_
                              refine hE.aop (i := 12) (fun _ _ _ _ _ h => h) (by kernel_rfl) rfl (by kernel_rfl) (by kernel_rfl) (by rfl) (l2 := #[true, true, true, true, true, true, true, true, true, true, true, true, true, false, false, false]) (X.indexAddr hE rfl rfl) H fun x157_1 a H hE => ?_
                              refine WA.one (i := 13) (l2 := #[true, true, true, true, true, true, true, true, true, true, true, true, true, true, false, false]) rfl (by kernel_rfl) (by rfl) ?_
                              intro K hK
                              refine hE.wopu (X.store hE rfl rfl) H fun w a H hE => ?_
                              refine hK _ _ ?_
                              refine hE.aop (i := 14) (fun _ _ _ _ _ h => h) (by kernel_rfl) rfl (by kernel_rfl) (by kernel_rfl) (by rfl) (l2 := #[true, true, true, true, true, true, true, true, true, true, true, true, true, true, true, false]) (X.indexAddr hE rfl rfl) H fun x158_1 a H hE => ?_
                              refine WA.one (i := 15) (l2 := #[true, true, true, true, true, true, true, true, true, true, true, true, true, true, true, true]) rfl (by kernel_rfl) (by rfl) ?_
                              intro K hK
                              refine hE.wopu (X.store hE rfl rfl) H fun w a H hE => ?_
                              refine hK _ _ ?_
                              refine WA.nil (by kernel_rfl) ?_
                              exact (tn (hj14 () _ _ H (hE.weak ⟨rfl, rfl, rfl, rfl, rfl, trivial⟩)))
                    · rcases Classical.em ((x12_2 ≤ x13_2)) with hbr12 | hbr12
                      · replace H := H.1 hbr12
                        replace hE := hE.bool (b := true) (t := 126) rfl (decide_eq_true hbr12)
                        refine hE.qon (by rfl) (by rfl) ?_
                        refine hE.qpur (X.move hE rfl) fun a hE => ?_
                        refine hE.qon (by rfl) (by rfl) ?_
                        refine hE.qpur (X.move hE rfl) fun a hE => ?_
                        refine hE.qon (by rfl) (by rfl) ?_
                        refine hE.qpur (X.move hE rfl) fun a hE => ?_
                        refine hE.qon (by rfl) (by rfl) ?_
                        refine hE.qop (X.indexAddr hE rfl rfl) H fun x130 a H hE => ?_
                        refine hE.qon (by rfl) (by rfl) ?_
                        refine hE.qop (X.load hE rfl) H fun x131 a H hE => ?_
                        refine hE.qon (by rfl) (by rfl) ?_
                        refine hE.qpur (X.move hE rfl) fun a hE => ?_
                        refine hE.qon (by rfl) (by rfl) ?_
                        refine hE.qpur (X.move hE rfl) fun a hE => ?_
                        refine hE.qon (by rfl) (by rfl) ?_
                        refine hE.qop (X.indexAddr hE rfl rfl) H fun x134 a H hE => ?_
                        refine hE.qon (by rfl) (by rfl) ?_
                        refine hE.qop (X.load hE rfl) H fun x135 a H hE => ?_
                        refine hE.qon (by rfl) (by rfl) ?_
                        obtain ⟨r, hc, H⟩ := H
                        refine hE.qcallV rfl rfl hc fun a hE => ?_
                        refine hE.qon (by rfl) (by rfl) ?_
                        refine hE.qpur (X.ltI hE rfl rfl) fun a hE => ?_
                        refine hE.qon (by rfl) (by rfl) ?_
                        refine hE.qpur (X.not hE rfl) fun a hE => ?_
                        refine hE.qpur (X.pickT hE rfl rfl) fun a hE => ?_
                        exact hr12 (!(decide (r < 0))) _ H (hE.weak ⟨rfl, rfl, rfl, rfl, rfl, rfl, trivial⟩)
                      · replace H := H.2 hbr12
                        replace hE := hE.bool (b := false) (t := 126) rfl (decide_eq_false hbr12)
                        refine hE.qoff (by rfl) (by rfl) (by decide) (fun a hE => ?_)
                        refine hE.qoff (by rfl) (by rfl) (by decide) (fun a hE => ?_)
                        refine hE.qoff (by rfl) (by rfl) (by decide) (fun a hE => ?_)
                        refine hE.qoff (by rfl) (by rfl) (by decide) (fun a hE => ?_)
                        refine hE.qoff (by rfl) (by rfl) (by decide) (fun a hE => ?_)
                        refine hE.qoff (by rfl) (by rfl) (by decide) (fun a hE => ?_)
                        refine hE.qoff (by rfl) (by rfl) (by decide) (fun a hE => ?_)
                        refine hE.qoff (by rfl) (by rfl) (by decide) (fun a hE => ?_)
                        refine hE.qoff (by rfl) (by rfl) (by decide) (fun a hE => ?_)
                        refine hE.qoff (by rfl) (by rfl) (by decide) (fun a hE => ?_)
                        refine hE.qoff (by rfl) (by rfl) (by decide) (fun a hE => ?_)
                        refine hE.qoff (by rfl) (by rfl) (by decide) (fun a hE => ?_)
                        refine hE.qpur (X.pickF hE rfl rfl) fun a hE => ?_
                        exact hr12 false _ H (hE.weak ⟨rfl, rfl, rfl, rfl, rfl, rfl, trivial⟩)
                · rcases Classical.em ((x12_2 ≤ x13_1)) with hbr10 | hbr10
                  · replace H := H.1 hbr10
                    replace hE := hE.bool (b := true) (t := 108) rfl (decide_eq_true hbr10)
                    refine hE.qon (by rfl) (by rfl) ?_
                    refine hE.qpur (X.move hE rfl) fun a hE => ?_
                    refine hE.qon (by rfl) (by rfl) ?_
                    refine hE.qpur (X.move hE rfl) fun a hE => ?_
                    refine hE.qon (by rfl) (by rfl) ?_
                    refine hE.qpur (X.move hE rfl) fun a hE => ?_
                    refine hE.qon (by rfl) (by rfl) ?_
                    refine hE.qop (X.indexAddr hE rfl rfl) H fun x112 a H hE => ?_
                    refine hE.qon (by rfl) (by rfl) ?_
                    refine hE.qop (X.load hE rfl) H fun x113 a H hE => ?_
                    refine hE.qon (by rfl) (by rfl) ?_
                    refine hE.qpur (X.move hE rfl) fun a hE => ?_
                    refine hE.qon (by rfl) (by rfl) ?_
                    refine hE.qpur (X.move hE rfl) fun a hE => ?_
                    refine hE.qon (by rfl) (by rfl) ?_
                    refine hE.qop (X.indexAddr hE rfl rfl) H fun x116 a H hE => ?_
                    refine hE.qon (by rfl) (by rfl) ?_
                    refine hE.qop (X.load hE rfl) H fun x117 a H hE => ?_
                    refine hE.qon (by rfl) (by rfl) ?_
                    obtain ⟨r_1, hc, H⟩ := H
                    refine hE.qcallV rfl rfl hc fun a hE => ?_
                    refine hE.qon (by rfl) (by rfl) ?_
                    refine hE.qpur (X.ltI hE rfl rfl) fun a hE => ?_
                    refine hE.qpur (X.pickT hE rfl rfl) fun a hE => ?_
                    exact hr10 (decide (r_1 < 0)) _ H (hE.weak ⟨rfl, rfl, rfl, rfl, rfl, rfl, trivial⟩)
                  · replace H := H.2 hbr10
                    replace hE := hE.bool (b := false) (t := 108) rfl (decide_eq_false hbr10)
                    refine hE.qoff (by rfl) (by rfl) (by decide) (fun a hE => ?_)
                    refine hE.qoff (by rfl) (by rfl) (by decide) (fun a hE => ?_)
                    refine hE.qoff (by rfl) (by rfl) (by decide) (fun a hE => ?_)
                    refine hE.qoff (by rfl) (by rfl) (by decide) (fun a hE => ?_)
                    refine hE.qoff (by rfl) (by rfl) (by decide) (fun a hE => ?_)
                    refine hE.qoff (by rfl) (by rfl) (by decide) (fun a hE => ?_)
                    refine hE.qoff (by rfl) (by rfl) (by decide) (fun a hE => ?_)
                    refine hE.qoff (by rfl) (by rfl) (by decide) (fun a hE => ?_)
                    refine hE.qoff (by rfl) (by rfl) (by decide) (fun a hE => ?_)
                    refine hE.qoff (by rfl) (by rfl) (by decide) (fun a hE => ?_)
                    refine hE.qoff (by rfl) (by rfl) (by decide) (fun a hE => ?_)
                    refine hE.qpur (X.pickF hE rfl rfl) fun a hE => ?_
                    exact hr10 false _ H (hE.weak ⟨rfl, rfl, rfl, rfl, rfl, rfl, trivial⟩)
              · refine C.any 16 #[false, false, false, false, false, false, false, false, false, false, false, false, false, false, false, false] (by kernel_rfl) (fun w hB => ?_)
                replace H := H w hB
                refine hE.apur (i := 0) (fun _ _ _ _ _ h => h) (by kernel_rfl) rfl (by kernel_rfl) (by kernel_rfl) (by rfl) (l2 := #[true, false, false, false, false, false, false, false, false, false, false, false, false, false, false, false]) (pn_run (X.move hE rfl)) fun a hE => ?_
                refine hE.apur (i := 1) (fun _ _ _ _ _ h => h) (by kernel_rfl) rfl (by kernel_rfl) (by kernel_rfl) (by rfl) (l2 := #[true, true, false, false, false, false, false, false, false, false, false, false, false, false, false, false]) (pn_run (X.move hE rfl)) fun a hE => ?_
                refine hE.apur (i := 2) (fun _ _ _ _ _ h => h) (by kernel_rfl) rfl (by kernel_rfl) (by kernel_rfl) (by rfl) (l2 := #[true, true, true, false, false, false, false, false, false, false, false, false, false, false, false, false]) (pn_run (X.move hE rfl)) fun a hE => ?_
                refine hE.apur (i := 3) (fun _ _ _ _ _ h => h) (by kernel_rfl) rfl (by kernel_rfl) (by kernel_rfl) (by rfl) (l2 := #[true, true, true, true, false, false, false, false, false, false, false, false, false, false, false, false]) (pn_run (X.move hE rfl)) fun a hE => ?_
                refine hE.apur (i := 4) (fun _ _ _ _ _ h => h) (by kernel_rfl) rfl (by kernel_rfl) (by kernel_rfl) (by rfl) (l2 := #[true, true, true, true, true, false, false, false, false, false, false, false, false, false, false, false]) (pn_run (X.move hE rfl)) fun a hE => ?_
                refine hE.apur (i := 5) (fun _ _ _ _ _ h => h) (by kernel_rfl) rfl (by kernel_rfl) (by kernel_rfl) (by rfl) (l2 := #[true, true, true, true, true, true, false, false, false, false, false, false, false, false, false, false]) (pn_run (X.move hE rfl)) fun a hE => ?_
                refine hE.aop (i := 6) (fun _ _ _ _ _ h => h) (by kernel_rfl) rfl (by kernel_rfl) (by kernel_rfl) (by rfl) (l2 := #[true, true, true, true, true, true, true, false, false, false, false, false, false, false, false, false]) (X.indexAddr hE rfl rfl) H fun x93 a H hE => ?_
                refine hE.apur (i := 8) (fun _ _ _ _ _ h => h) (by kernel_rfl) rfl (by kernel_rfl) (by kernel_rfl) (by rfl) (l2 := #[true, true, true, true, true, true, true, false, true, false, false, false, false, false, false, false]) (pn_run (X.move hE rfl)) fun a hE => ?_
                refine hE.apur (i := 9) (fun _ _ _ _ _ h => h) (by kernel_rfl) rfl (by kernel_rfl) (by kernel_rfl) (by rfl) (l2 := #[true, true, true, true, true, true, true, false, true, true, false, false, false, false, false, false]) (pn_run (X.move hE rfl)) fun a hE => ?_
                refine hE.aop (i := 10) (fun _ _ _ _ _ h => h) (by kernel_rfl) rfl (by kernel_rfl) (by kernel_rfl) (by rfl) (l2 := #[true, true, true, true, true, true, true, false, true, true, true, false, false, false, false, false]) (X.indexAddr hE rfl rfl) H fun x97 a H hE => ?_
                refine WA.two (i := 7) (j := 11) (l2 := #[true, true, true, true, true, true, true, true, true, true, true, false, false, false, false, false]) (l3 := #[true, true, true, true, true, true, true, false, true, true, true, true, false, false, false, false]) rfl rfl (by kernel_rfl) (by rfl) (by rfl) ?_ ?_
                · replace H := H.1
                  intro K hK
                  refine hE.wop (X.load hE rfl) H fun x94 w a H hE => ?_
                  refine hK _ _ ?_
                  refine WA.one (i := 11) (l2 := #[true, true, true, true, true, true, true, true, true, true, true, true, false, false, false, false]) rfl (by kernel_rfl) (by rfl) ?_
                  intro K hK
                  refine hE.wop (X.load hE rfl) H fun x98 w a H hE => ?_
                  refine hK _ _ ?_
                  refine hE.aop (i := 12) (fun _ _ _ _ _ h => h) (by kernel_rfl) rfl (by kernel_rfl) (by kernel_rfl) (by rfl) (l2 := #[true, true, true, true, true, true, true, true, true, true, true, true, true, false, false, false]) (X.indexAddr hE rfl rfl) H fun x99 a H hE => ?_
                  refine WA.one (i := 13) (l2 := #[true, true, true, true, true, true, true, true, true, true, true, true, true, true, false, false]) rfl (by kernel_rfl) (by rfl) ?_
                  intro K hK
                  refine hE.wopu (X.store hE rfl rfl) H fun w a H hE => ?_
                  refine hK _ _ ?_
                  refine hE.aop (i := 14) (fun _ _ _ _ _ h => h) (by kernel_rfl) rfl (by kernel_rfl) (by kernel_rfl) (by rfl) (l2 := #[true, true, true, true, true, true, true, true, true, true, true, true, true, true, true, false]) (X.indexAddr hE rfl rfl) H fun x100 a H hE => ?_
                  refine WA.one (i := 15) (l2 := #[true, true, true, true, true, true, true, true, true, true, true, true, true, true, true, true]) rfl (by kernel_rfl) (by rfl) ?_
                  intro K hK
                  refine hE.wopu (X.store hE rfl rfl) H fun w a H hE => ?_
                  refine hK _ _ ?_
                  refine WA.nil (by kernel_rfl) ?_
                  exact (tn (hj7 () _ _ H (hE.weak ⟨rfl, rfl, rfl, rfl, rfl, trivial⟩)))
                · replace H := H.2
                  intro K hK
                  refine hE.wop (X.load hE rfl) H fun x98_1 w a H hE => ?_
                  refine hK _ _ ?_
                  refine WA.one (i := 7) (l2 := #[true, true, true, true, true, true, true, true, true, true, true, true, false, false, false, false]) rfl (by kernel_rfl) (by rfl) ?_
                  intro K hK
                  refine hE.wop (X.load hE rfl) H fun x94_1 w a H hE => ?_
                  refine hK _ _ ?_
                  refine hE.aop (i := 12) (fun _ _ _ _ _ h => h) (by kernel_rfl) rfl (by kernel_rfl) (by kernel_rfl) (by rfl) (l2 := #[true, true, true, true, true, true, true, true, true, true, true, true, true, false, false, false]) (X.indexAddr hE rfl rfl) H fun x99_1 a H hE => ?_
                  refine WA.one (i := 13) (l2 := #[true, true, true, true, true, true, true, true, true, true, true, true, true, true, false, false]) rfl (by kernel_rfl) (by rfl) ?_
                  intro K hK
                  refine hE.wopu (X.store hE rfl rfl) H fun w a H hE => ?_
                  refine hK _ _ ?_
                  refine hE.aop (i := 14) (fun _ _ _ _ _ h => h) (by kernel_rfl) rfl (by kernel_rfl) (by kernel_rfl) (by rfl) (l2 := #[true, true, true, true, true, true, true, true, true, true, true, true, true, true, true, false]) (X.indexAddr hE rfl rfl) H fun x100_1 a H hE => ?_
                  refine WA.one (i := 15) (l2 := #[true, true, true, true, true, true, true, true, true, true, true, true, true, true, true, true]) rfl (by kernel_rfl) (by rfl) ?_
                  intro K hK
                  refine hE.wopu (X.store hE rfl rfl) H fun w a H hE => ?_
                  refine hK _ _ ?_
                  refine WA.nil (by kernel_rfl) ?_
                  exact (tn (hj7 () _ _ H (hE.weak ⟨rfl, rfl, rfl, rfl, rfl, trivial⟩)))
        · rcases Classical.em ((x12 ≤ x13)) with hbr5 | hbr5
          · replace H := H.1 hbr5
            replace hE := hE.bool (b := true) (t := 53) rfl (decide_eq_true hbr5)
            refine hE.qon (by rfl) (by rfl) ?_
            refine hE.qpur (X.move hE rfl) fun a hE => ?_
            refine hE.qon (by rfl) (by rfl) ?_
            refine hE.qpur (X.move hE rfl) fun a hE => ?_
            refine hE.qon (by rfl) (by rfl) ?_
            refine hE.qpur (X.move hE rfl) fun a hE => ?_
            refine hE.qon (by rfl) (by rfl) ?_
            refine hE.qop (X.indexAddr hE rfl rfl) H fun x57 a H hE => ?_
            refine hE.qon (by rfl) (by rfl) ?_
            refine hE.qop (X.load hE rfl) H fun x58 a H hE => ?_
            refine hE.qon (by rfl) (by rfl) ?_
            refine hE.qpur (X.move hE rfl) fun a hE => ?_
            refine hE.qon (by rfl) (by rfl) ?_
            refine hE.qpur (X.move hE rfl) fun a hE => ?_
            refine hE.qon (by rfl) (by rfl) ?_
            refine hE.qop (X.indexAddr hE rfl rfl) H fun x61 a H hE => ?_
            refine hE.qon (by rfl) (by rfl) ?_
            refine hE.qop (X.load hE rfl) H fun x62 a H hE => ?_
            refine hE.qon (by rfl) (by rfl) ?_
            obtain ⟨r_2, hc, H⟩ := H
            refine hE.qcallV rfl rfl hc fun a hE => ?_
            refine hE.qon (by rfl) (by rfl) ?_
            refine hE.qpur (X.ltI hE rfl rfl) fun a hE => ?_
            refine hE.qon (by rfl) (by rfl) ?_
            refine hE.qpur (X.not hE rfl) fun a hE => ?_
            refine hE.qpur (X.pickT hE rfl rfl) fun a hE => ?_
            exact hr5 (!(decide (r_2 < 0))) _ H (hE.weak ⟨rfl, rfl, rfl, rfl, rfl, rfl, trivial⟩)
          · replace H := H.2 hbr5
            replace hE := hE.bool (b := false) (t := 53) rfl (decide_eq_false hbr5)
            refine hE.qoff (by rfl) (by rfl) (by decide) (fun a hE => ?_)
            refine hE.qoff (by rfl) (by rfl) (by decide) (fun a hE => ?_)
            refine hE.qoff (by rfl) (by rfl) (by decide) (fun a hE => ?_)
            refine hE.qoff (by rfl) (by rfl) (by decide) (fun a hE => ?_)
            refine hE.qoff (by rfl) (by rfl) (by decide) (fun a hE => ?_)
            refine hE.qoff (by rfl) (by rfl) (by decide) (fun a hE => ?_)
            refine hE.qoff (by rfl) (by rfl) (by decide) (fun a hE => ?_)
            refine hE.qoff (by rfl) (by rfl) (by decide) (fun a hE => ?_)
            refine hE.qoff (by rfl) (by rfl) (by decide) (fun a hE => ?_)
            refine hE.qoff (by rfl) (by rfl) (by decide) (fun a hE => ?_)
            refine hE.qoff (by rfl) (by rfl) (by decide) (fun a hE => ?_)
            refine hE.qoff (by rfl) (by rfl) (by decide) (fun a hE => ?_)
            refine hE.qpur (X.pickF hE rfl rfl) fun a hE => ?_
            exact hr5 false _ H (hE.weak ⟨rfl, rfl, rfl, rfl, rfl, rfl, trivial⟩)
    · rcases Classical.em ((x12 ≤ (IntKind.wrap .i64 (x2 - 1)))) with hbr3 | hbr3
      · replace H := H.1 hbr3
        replace hE := hE.bool (b := true) (t := 35) rfl (decide_eq_true hbr3)
        refine hE.qon (by rfl) (by rfl) ?_
        refine hE.qpur (X.move hE rfl) fun a hE => ?_
        refine hE.qon (by rfl) (by rfl) ?_
        refine hE.qpur (X.move hE rfl) fun a hE => ?_
        refine hE.qon (by rfl) (by rfl) ?_
        refine hE.qpur (X.move hE rfl) fun a hE => ?_
        refine hE.qon (by rfl) (by rfl) ?_
        refine hE.qop (X.indexAddr hE rfl rfl) H fun x39 a H hE => ?_
        refine hE.qon (by rfl) (by rfl) ?_
        refine hE.qop (X.load hE rfl) H fun x40 a H hE => ?_
        refine hE.qon (by rfl) (by rfl) ?_
        refine hE.qpur (X.move hE rfl) fun a hE => ?_
        refine hE.qon (by rfl) (by rfl) ?_
        refine hE.qpur (X.move hE rfl) fun a hE => ?_
        refine hE.qon (by rfl) (by rfl) ?_
        refine hE.qop (X.indexAddr hE rfl rfl) H fun x43 a H hE => ?_
        refine hE.qon (by rfl) (by rfl) ?_
        refine hE.qop (X.load hE rfl) H fun x44 a H hE => ?_
        refine hE.qon (by rfl) (by rfl) ?_
        obtain ⟨r_3, hc, H⟩ := H
        refine hE.qcallV rfl rfl hc fun a hE => ?_
        refine hE.qon (by rfl) (by rfl) ?_
        refine hE.qpur (X.ltI hE rfl rfl) fun a hE => ?_
        refine hE.qpur (X.pickT hE rfl rfl) fun a hE => ?_
        exact hr3 (decide (r_3 < 0)) _ H (hE.weak ⟨rfl, rfl, rfl, rfl, rfl, rfl, trivial⟩)
      · replace H := H.2 hbr3
        replace hE := hE.bool (b := false) (t := 35) rfl (decide_eq_false hbr3)
        refine hE.qoff (by rfl) (by rfl) (by decide) (fun a hE => ?_)
        refine hE.qoff (by rfl) (by rfl) (by decide) (fun a hE => ?_)
        refine hE.qoff (by rfl) (by rfl) (by decide) (fun a hE => ?_)
        refine hE.qoff (by rfl) (by rfl) (by decide) (fun a hE => ?_)
        refine hE.qoff (by rfl) (by rfl) (by decide) (fun a hE => ?_)
        refine hE.qoff (by rfl) (by rfl) (by decide) (fun a hE => ?_)
        refine hE.qoff (by rfl) (by rfl) (by decide) (fun a hE => ?_)
        refine hE.qoff (by rfl) (by rfl) (by decide) (fun a hE => ?_)
        refine hE.qoff (by rfl) (by rfl) (by decide) (fun a hE => ?_)
        refine hE.qoff (by rfl) (by rfl) (by decide) (fun a hE => ?_)
        refine hE.qoff (by rfl) (by rfl) (by decide) (fun a hE => ?_)
        refine hE.qpur (X.pickF hE rfl rfl) fun a hE => ?_
        exact hr3 false _ H (hE.weak ⟨rfl, rfl, rfl, rfl, rfl, rfl, trivial⟩)
  · refine C.any 16 #[false, false, false, false, false, false, false, false, false, false, false, false, false, false, false, false] (by kernel_rfl) (fun w hB => ?_)
    replace H := H w hB
    refine hE.apur (i := 0) (fun _ _ _ _ _ h => h) (by kernel_rfl) rfl (by kernel_rfl) (by kernel_rfl) (by rfl) (l2 := #[true, false, false, false, false, false, false, false, false, false, false, false, false, false, false, false]) (pn_run (X.move hE rfl)) fun a hE => ?_
    refine hE.apur (i := 1) (fun _ _ _ _ _ h => h) (by kernel_rfl) rfl (by kernel_rfl) (by kernel_rfl) (by rfl) (l2 := #[true, true, false, false, false, false, false, false, false, false, false, false, false, false, false, false]) (pn_run (X.move hE rfl)) fun a hE => ?_
    refine hE.apur (i := 2) (fun _ _ _ _ _ h => h) (by kernel_rfl) rfl (by kernel_rfl) (by kernel_rfl) (by rfl) (l2 := #[true, true, true, false, false, false, false, false, false, false, false, false, false, false, false, false]) (pn_run (X.move hE rfl)) fun a hE => ?_
    refine hE.apur (i := 3) (fun _ _ _ _ _ h => h) (by kernel_rfl) rfl (by kernel_rfl) (by kernel_rfl) (by rfl) (l2 := #[true, true, true, true, false, false, false, false, false, false, false, false, false, false, false, false]) (pn_run (X.move hE rfl)) fun a hE => ?_
    refine hE.apur (i := 4) (fun _ _ _ _ _ h => h) (by kernel_rfl) rfl (by kernel_rfl) (by kernel_rfl) (by rfl) (l2 := #[true, true, true, true, true, false, false, false, false, false, false, false, false, false, false, false]) (pn_run (X.move hE rfl)) fun a hE => ?_
    refine hE.apur (i := 5) (fun _ _ _ _ _ h => h) (by kernel_rfl) rfl (by kernel_rfl) (by kernel_rfl) (by rfl) (l2 := #[true, true, true, true, true, true, false, false, false, false, false, false, false, false, false, false]) (pn_run (X.move hE rfl)) fun a hE => ?_
    refine hE.aop (i := 6) (fun _ _ _ _ _ h => h) (by kernel_rfl) rfl (by kernel_rfl) (by kernel_rfl) (by rfl) (l2 := #[true, true, true, true, true, true, true, false, false, false, false, false, false, false, false, false]) (X.indexAddr hE rfl rfl) H fun x20 a H hE => ?_
    refine hE.apur (i := 8) (fun _ _ _ _ _ h => h) (by kernel_rfl) rfl (by kernel_rfl) (by kernel_rfl) (by rfl) (l2 := #[true, true, true, true, true, true, true, false, true, false, false, false, false, false, false, false]) (pn_run (X.move hE rfl)) fun a hE => ?_
    refine hE.apur (i := 9) (fun _ _ _ _ _ h => h) (by kernel_rfl) rfl (by kernel_rfl) (by kernel_rfl) (by rfl) (l2 := #[true, true, true, true, true, true, true, false, true, true, false, false, false, false, false, false]) (pn_run (X.move hE rfl)) fun a hE => ?_
    refine hE.aop (i := 10) (fun _ _ _ _ _ h => h) (by kernel_rfl) rfl (by kernel_rfl) (by kernel_rfl) (by rfl) (l2 := #[true, true, true, true, true, true, true, false, true, true, true, false, false, false, false, false]) (X.indexAddr hE rfl rfl) H fun x24 a H hE => ?_
    refine WA.two (i := 7) (j := 11) (l2 := #[true, true, true, true, true, true, true, true, true, true, true, false, false, false, false, false]) (l3 := #[true, true, true, true, true, true, true, false, true, true, true, true, false, false, false, false]) rfl rfl (by kernel_rfl) (by rfl) (by rfl) ?_ ?_
    · replace H := H.1
      intro K hK
      refine hE.wop (X.load hE rfl) H fun x21 w a H hE => ?_
      refine hK _ _ ?_
      refine WA.one (i := 11) (l2 := #[true, true, true, true, true, true, true, true, true, true, true, true, false, false, false, false]) rfl (by kernel_rfl) (by rfl) ?_
      intro K hK
      refine hE.wop (X.load hE rfl) H fun x25 w a H hE => ?_
      refine hK _ _ ?_
      refine hE.aop (i := 12) (fun _ _ _ _ _ h => h) (by kernel_rfl) rfl (by kernel_rfl) (by kernel_rfl) (by rfl) (l2 := #[true, true, true, true, true, true, true, true, true, true, true, true, true, false, false, false]) (X.indexAddr hE rfl rfl) H fun x26 a H hE => ?_
      refine WA.one (i := 13) (l2 := #[true, true, true, true, true, true, true, true, true, true, true, true, true, true, false, false]) rfl (by kernel_rfl) (by rfl) ?_
      intro K hK
      refine hE.wopu (X.store hE rfl rfl) H fun w a H hE => ?_
      refine hK _ _ ?_
      refine hE.aop (i := 14) (fun _ _ _ _ _ h => h) (by kernel_rfl) rfl (by kernel_rfl) (by kernel_rfl) (by rfl) (l2 := #[true, true, true, true, true, true, true, true, true, true, true, true, true, true, true, false]) (X.indexAddr hE rfl rfl) H fun x27 a H hE => ?_
      refine WA.one (i := 15) (l2 := #[true, true, true, true, true, true, true, true, true, true, true, true, true, true, true, true]) rfl (by kernel_rfl) (by rfl) ?_
      intro K hK
      refine hE.wopu (X.store hE rfl rfl) H fun w a H hE => ?_
      refine hK _ _ ?_
      refine WA.nil (by kernel_rfl) ?_
      exact (tn (hj1 () _ _ H (hE.weak ⟨rfl, rfl, rfl, rfl, trivial⟩)))
    · replace H := H.2
      intro K hK
      refine hE.wop (X.load hE rfl) H fun x25_1 w a H hE => ?_
      refine hK _ _ ?_
      refine WA.one (i := 7) (l2 := #[true, true, true, true, true, true, true, true, true, true, true, true, false, false, false, false]) rfl (by kernel_rfl) (by rfl) ?_
      intro K hK
      refine hE.wop (X.load hE rfl) H fun x21_1 w a H hE => ?_
      refine hK _ _ ?_
      refine hE.aop (i := 12) (fun _ _ _ _ _ h => h) (by kernel_rfl) rfl (by kernel_rfl) (by kernel_rfl) (by rfl) (l2 := #[true, true, true, true, true, true, true, true, true, true, true, true, true, false, false, false]) (X.indexAddr hE rfl rfl) H fun x26_1 a H hE => ?_
      refine WA.one (i := 13) (l2 := #[true, true, true, true, true, true, true, true, true, true, true, true, true, true, false, false]) rfl (by kernel_rfl) (by rfl) ?_
      intro K hK
      refine hE.wopu (X.store hE rfl rfl) H fun w a H hE => ?_
      refine hK _ _ ?_
      refine hE.aop (i := 14) (fun _ _ _ _ _ h => h) (by kernel_rfl) rfl (by kernel_rfl) (by kernel_rfl) (by rfl) (l2 := #[true, true, true, true, true, true, true, true, true, true, true, true, true, true, true, false]) (X.indexAddr hE rfl rfl) H fun x27_1 a H hE => ?_
      refine WA.one (i := 15) (l2 := #[true, true, true, true, true, true, true, true, true, true, true, true, true, true, true, true]) rfl (by kernel_rfl) (by rfl) ?_
      intro K hK
      refine hE.wopu (X.store hE rfl rfl) H fun w a H hE => ?_
      refine hK _ _ ?_
      refine WA.nil (by kernel_rfl) ?_
      exact (tn (hj1 () _ _ H (hE.weak ⟨rfl, rfl, rfl, rfl, trivial⟩)))
/-! ### slices.siftDownCmpFunc[lading api.Version]: function 63 -/
def V_slices_siftDownCmpFunc_api_Version_j3 (Kl1 : Int → World → Prop) (x11 : Int) (w : World) : Prop :=
  Kl1 x11 w
def V_slices_siftDownCmpFunc_api_Version_j2 (x0 : Sl) (x3 : Int) (x4 : Value) (Ret : World → Prop) (x10 : Int) (Kl1 : Int → World → Prop) (x11 : Int) (w : World) : Prop :=
  opB Try.prog Value.pointer (Instr.indexAt 22 (Sl.v x0) (.int .i64 (IntKind.wrap .i64 (x3 + x10)))) w (fun x48 => opB Try.prog T_api_Version.v (Instr.loadAt 37 (.pointer x48)) w (fun x49 => opB Try.prog Value.pointer (Instr.indexAt 22 (Sl.v x0) (.int .i64 (IntKind.wrap .i64 (x3 + x11)))) w (fun x54 => opB Try.prog T_api_Version.v (Instr.loadAt 37 (.pointer x54)) w (fun x55 => ∃ (r : Int), CallQ Try.prog x4 [(T_api_Version.v x49), (T_api_Version.v x55)] w (.int .i64 r) ∧ (nextB w (fun w => ((!(decide (r < 0))) = true → (Ret  w)) ∧ ((!(decide (r < 0))) = false → (nextB w (fun w => opP Try.prog Value.pointer (Instr.indexAt 22 (Sl.v x0) (.int .i64 (IntKind.wrap .i64 (x3 + x11)))) (fun x71 => opP Try.prog Value.pointer (Instr.indexAt 22 (Sl.v x0) (.int .i64 (IntKind.wrap .i64 (x3 + x10)))) (fun x77 => (opE Try.prog T_api_Version.v (Instr.loadAt 37 (.pointer x71)) w (fun x72 w => opE Try.prog T_api_Version.v (Instr.loadAt 37 (.pointer x77)) w (fun x78 w => opP Try.prog Value.pointer (Instr.indexAt 22 (Sl.v x0) (.int .i64 (IntKind.wrap .i64 (x3 + x10)))) (fun x79 => opU Try.prog (Instr.storeAt 37 (.pointer x79) (T_api_Version.v x72)) w (fun w => opP Try.prog Value.pointer (Instr.indexAt 22 (Sl.v x0) (.int .i64 (IntKind.wrap .i64 (x3 + x11)))) (fun x80 => opU Try.prog (Instr.storeAt 37 (.pointer x80) (T_api_Version.v x78)) w (fun w => V_slices_siftDownCmpFunc_api_Version_j3 Kl1 x11 w))))))) ∧ (opE Try.prog T_api_Version.v (Instr.loadAt 37 (.pointer x77)) w (fun x78_1 w => opE Try.prog T_api_Version.v (Instr.loadAt 37 (.pointer x71)) w (fun x72_1 w => opP Try.prog Value.pointer (Instr.indexAt 22 (Sl.v x0) (.int .i64 (IntKind.wrap .i64 (x3 + x10)))) (fun x79_1 => opU Try.prog (Instr.storeAt 37 (.pointer x79_1) (T_api_Version.v x72_1)) w (fun w => opP Try.prog Value.pointer (Instr.indexAt 22 (Sl.v x0) (.int .i64 (IntKind.wrap .i64 (x3 + x11)))) (fun x80_1 => opU Try.prog (Instr.storeAt 37 (.pointer x80_1) (T_api_Version.v x78_1)) w (fun w => V_slices_siftDownCmpFunc_api_Version_j3 Kl1 x11 w))))))))))))))))))
def V_slices_siftDownCmpFunc_api_Version_r4 (x0 : Sl) (x3 : Int) (x4 : Value) (Ret : World → Prop) (x10 : Int) (Kl1 : Int → World → Prop) (x40 : Bool) (w : World) : Prop :=
  nextB w (fun w => (x40 = true → (V_slices_siftDownCmpFunc_api_Version_j2 x0 x3 x4 Ret x10 Kl1 (IntKind.wrap .i64 ((IntKind.wrap .i64 ((IntKind.wrap .i64 (2 * x10)) + 1)) + 1)) w)) ∧ (x40 = false → (V_slices_siftDownCmpFunc_api_Version_j2 x0 x3 x4 Ret x10 Kl1 (IntKind.wrap .i64 ((IntKind.wrap .i64 (2 * x10)) + 1)) w)))
def V_slices_siftDownCmpFunc_api_Version_l1b (x0 : Sl) (x2 : Int) (x3 : Int) (x4 : Value) (Ret : World → Prop) (x10 : Int) (w : World) (Kl1 : Int → World → Prop) : Prop :=
  ((x2 ≤ (IntKind.wrap .i64 ((IntKind.wrap .i64 (2 * x10)) + 1))) → (Ret  w)) ∧ (¬ (x2 ≤ (IntKind.wrap .i64 ((IntKind.wrap .i64 (2 * x10)) + 1))) → ((((IntKind.wrap .i64 ((IntKind.wrap .i64 ((IntKind.wrap .i64 (2 * x10)) + 1)) + 1)) < x2) → (opB Try.prog Value.pointer (Instr.indexAt 22 (Sl.v x0) (.int .i64 (IntKind.wrap .i64 (x3 + (IntKind.wrap .i64 ((IntKind.wrap .i64 (2 * x10)) + 1)))))) w (fun x29 => opB Try.prog T_api_Version.v (Instr.loadAt 37 (.pointer x29)) w (fun x30 => opB Try.prog Value.pointer (Instr.indexAt 22 (Sl.v x0) (.int .i64 (IntKind.wrap .i64 ((IntKind.wrap .i64 (x3 + (IntKind.wrap .i64 ((IntKind.wrap .i64 (2 * x10)) + 1)))) + 1)))) w (fun x36 => opB Try.prog T_api_Version.v (Instr.loadAt 37 (.pointer x36)) w (fun x37 => ∃ (r_1 : Int), CallQ Try.prog x4 [(T_api_Version.v x30), (T_api_Version.v x37)] w (.int .i64 r_1) ∧ (V_slices_siftDownCmpFunc_api_Version_r4 x0 x3 x4 Ret x10 Kl1 (decide (r_1 < 0)) w))))))) ∧ (¬ ((IntKind.wrap .i64 ((IntKind.wrap .i64 ((IntKind.wrap .i64 (2 * x10)) + 1)) + 1)) < x2) → (V_slices_siftDownCmpFunc_api_Version_r4 x0 x3 x4 Ret x10 Kl1 false w))))
def V_slices_siftDownCmpFunc_api_Version (x0 : Sl) (x1 : Int) (x2 : Int) (x3 : Int) (x4 : Value) (w : World) (Ret : World → Prop) : Prop :=
  ∃ (I : Int → World → Prop) (μ : Int → World → Nat), I x1 w ∧ ∀ (x10 : Int) w, I x10 w → V_slices_siftDownCmpFunc_api_Version_l1b x0 x2 x3 x4 Ret x10 w (fun x10' w' => I x10' w' ∧ μ x10' w' < μ x10 w)
set_option maxRecDepth 100000 in
theorem L1_slices_siftDownCmpFunc_api_Version (x0 : Sl) (x1 : Int) (x2 : Int) (x3 : Int) (x4 : Value) (w : World) (Ret : World → Prop) (H : V_slices_siftDownCmpFunc_api_Version x0 x1 x2 x3 x4 w Ret) : Cl Try.prog 63 [(Sl.v x0), (.int .i64 x1), (.int .i64 x2), (.int .i64 x3), x4].toArray w (fun e w' => e = .returned (.tuple [].toArray) ∧ Ret  w') := by
  unfold V_slices_siftDownCmpFunc_api_Version at H
  refine C.enter 82 (zipE 0 [(Sl.v x0), (.int .i64 x1), (.int .i64 x2), (.int .i64 x3), x4]) Try.func63 rfl rfl (by rfl) rfl ?_
  intro a hE
  replace hE : Sat [] 82 [(0, (Sl.v x0)), (1, (.int .i64 x1)), (2, (.int .i64 x2)), (3, (.int .i64 x3)), (4, x4)] a := hE
  refine C.seq ?_
  refine C.region ?_
  refine hE.pur (X.move hE rfl) fun a hE => ?_
  refine hE.pur (X.assign hE rfl) fun a hE => ?_
  refine C.nil (tn ?_)
  refine C.block ?_
  obtain ⟨I_l1, μ_l1, h0, hb⟩ := H
  refine C.loop (ds := []) (N := 82) (σ := Int) (fun s => [(10, (.int .i64 s)), (0, (Sl.v x0)), (2, (.int .i64 x2)), (3, (.int .i64 x3)), (4, x4)]) (fun s w => I_l1 s w) (fun s w => μ_l1 s w) x1 h0 (hE.weak ⟨rfl, rfl, rfl, rfl, rfl, trivial⟩) ?_
  intro x10 w a hI hE
  try dsimp only at hI hE
  obtain ⟨Kl1, hK_l1⟩ : ∃ K : Int → World → Prop, K = (fun x10' w' => I_l1 x10' w' ∧ μ_l1 x10' w' < μ_l1 x10 w) := ⟨_, rfl⟩
  have H : V_slices_siftDownCmpFunc_api_Version_l1b x0 x2 x3 x4 Ret x10 w Kl1 := by rw [hK_l1]; exact hb x10 w hI
  clear hb h0 hI
  unfold V_slices_siftDownCmpFunc_api_Version_l1b at H
  refine C.block ?_
  refine C.seq ?_
  refine C.region ?_
  refine hE.pur (X.move hE rfl) fun a hE => ?_
  refine hE.pur (X.mul hE rfl rfl) fun a hE => ?_
  refine hE.pur (X.add hE rfl rfl) fun a hE => ?_
  refine hE.pur (X.assign hE rfl) fun a hE => ?_
  refine C.nil (tn ?_)
  refine C.seq ?_
  refine C.seq ?_
  refine C.region ?_
  refine hE.pur (X.move hE rfl) fun a hE => ?_
  refine hE.pur (X.move hE rfl) fun a hE => ?_
  refine hE.pur (X.geI hE rfl rfl) fun a hE => ?_
  refine C.nil (tn ?_)
  refine C.condP hE rfl (fun hc => ?_) (fun hc => ?_)
  · replace H := H.1 hc
    exact C.exit (te (bo (te (be (C.end0 hE rfl ⟨rfl, H⟩)))))
  · replace H := H.2 hc
    refine C.skip (tn ?_)
    refine C.join (ds := []) (N := 82) (σ := Int) (fun s => [(11, (.int .i64 s)), (0, (Sl.v x0)), (2, (.int .i64 x2)), (3, (.int .i64 x3)), (4, x4), (10, (.int .i64 x10))]) (fun s w => V_slices_siftDownCmpFunc_api_Version_j2 x0 x3 x4 Ret x10 Kl1 s w) ?_ (fun hj2 => ?_)
    · intro x11 w a H hE
      try dsimp only at H hE
      unfold V_slices_siftDownCmpFunc_api_Version_j2 at H
      refine C.seq ?_
      refine C.seq ?_
      refine C.draw (by kernel_rfl) (by kernel_rfl) ?_
      refine hE.qpur (X.move hE rfl) fun a hE => ?_
      refine hE.qpur (X.move hE rfl) fun a hE => ?_
      refine hE.qpur (X.move hE rfl) fun a hE => ?_
      refine hE.qpur (X.move hE rfl) fun a hE => ?_
      refine hE.qpur (X.add hE rfl rfl) fun a hE => ?_
      refine hE.qop (X.indexAddr hE rfl rfl) H fun x48 a H hE => ?_
      refine hE.qop (X.load hE rfl) H fun x49 a H hE => ?_
      refine hE.qpur (X.move hE rfl) fun a hE => ?_
      refine hE.qpur (X.move hE rfl) fun a hE => ?_
      refine hE.qpur (X.move hE rfl) fun a hE => ?_
      refine hE.qpur (X.add hE rfl rfl) fun a hE => ?_
      refine hE.qop (X.indexAddr hE rfl rfl) H fun x54 a H hE => ?_
      refine hE.qop (X.load hE rfl) H fun x55 a H hE => ?_
      obtain ⟨r, hc, H⟩ := H
      refine hE.qcallV rfl rfl hc fun a hE => ?_
      refine hE.qpur (X.ltI hE rfl rfl) fun a hE => ?_
      refine hE.qpur (X.not hE rfl) fun a hE => ?_
      refine C.qnil (fun w hB => ?_)
      replace H := H w hB
      refine (tn ?_)
      refine C.condB hE rfl (fun hc => ?_) (fun hc => ?_)
      · replace H := H.1 hc
        exact C.ret (tr (br (tr (br (C.ret0 hE rfl ⟨rfl, H⟩)))))
      · replace H := H.2 hc
        refine C.skip (tn ?_)
        refine C.join (ds := []) (N := 82) (σ := Unit) (fun s => [(0, (Sl.v x0)), (2, (.int .i64 x2)), (3, (.int .i64 x3)), (4, x4), (11, (.int .i64 x11))]) (fun s w => V_slices_siftDownCmpFunc_api_Version_j3 Kl1 x11  w) ?_ (fun hj3 => ?_)
        · rintro ⟨⟩ w a H hE
          try dsimp only at H hE
          unfold V_slices_siftDownCmpFunc_api_Version_j3 at H
          refine C.region ?_
          refine hE.pur (X.move hE rfl) fun a hE => ?_
          refine hE.pur (X.assign hE rfl) fun a hE => ?_
          rw [hK_l1] at H
          exact C.nil (bn (tn ⟨x11, hE.weak ⟨rfl, rfl, rfl, rfl, rfl, trivial⟩, H⟩))
        · refine C.any 24 #[false, false, false, false, false, false, false, false, false, false, false, false, false, false, false, false, false, false, false, false, false, false, false, false] (by kernel_rfl) (fun w hB => ?_)
          replace H := H w hB
          refine hE.apur (i := 0) (fun _ _ _ _ _ h => h) (by kernel_rfl) rfl (by kernel_rfl) (by kernel_rfl) (by rfl) (l2 := #[true, false, false, false, false, false, false, false, false, false, false, false, false, false, false, false, false, false, false, false, false, false, false, false]) (pn_run (X.move hE rfl)) fun a hE => ?_
          refine hE.apur (i := 1) (fun _ _ _ _ _ h => h) (by kernel_rfl) rfl (by kernel_rfl) (by kernel_rfl) (by rfl) (l2 := #[true, true, false, false, false, false, false, false, false, false, false, false, false, false, false, false, false, false, false, false, false, false, false, false]) (pn_run (X.move hE rfl)) fun a hE => ?_
          refine hE.apur (i := 2) (fun _ _ _ _ _ h => h) (by kernel_rfl) rfl (by kernel_rfl) (by kernel_rfl) (by rfl) (l2 := #[true, true, true, false, false, false, false, false, false, false, false, false, false, false, false, false, false, false, false, false, false, false, false, false]) (pn_run (X.move hE rfl)) fun a hE => ?_
          refine hE.apur (i := 3) (fun _ _ _ _ _ h => h) (by kernel_rfl) rfl (by kernel_rfl) (by kernel_rfl) (by rfl) (l2 := #[true, true, true, true, false, false, false, false, false, false, false, false, false, false, false, false, false, false, false, false, false, false, false, false]) (pn_run (X.add hE rfl rfl)) fun a hE => ?_
          refine hE.apur (i := 4) (fun _ _ _ _ _ h => h) (by kernel_rfl) rfl (by kernel_rfl) (by kernel_rfl) (by rfl) (l2 := #[true, true, true, true, true, false, false, false, false, false, false, false, false, false, false, false, false, false, false, false, false, false, false, false]) (pn_run (X.move hE rfl)) fun a hE => ?_
          refine hE.apur (i := 5) (fun _ _ _ _ _ h => h) (by kernel_rfl) rfl (by kernel_rfl) (by kernel_rfl) (by rfl) (l2 := #[true, true, true, true, true, true, false, false, false, false, false, false, false, false, false, false, false, false, false, false, false, false, false, false]) (pn_run (X.move hE rfl)) fun a hE => ?_
          refine hE.apur (i := 6) (fun _ _ _ _ _ h => h) (by kernel_rfl) rfl (by kernel_rfl) (by kernel_rfl) (by rfl) (l2 := #[true, true, true, true, true, true, true, false, false, false, false, false, false, false, false, false, false, false, false, false, false, false, false, false]) (pn_run (X.move hE rfl)) fun a hE => ?_
          refine hE.apur (i := 7) (fun _ _ _ _ _ h => h) (by kernel_rfl) rfl (by kernel_rfl) (by kernel_rfl) (by rfl) (l2 := #[true, true, true, true, true, true, true, true, false, false, false, false, false, false, false, false, false, false, false, false, false, false, false, false]) (pn_run (X.add hE rfl rfl)) fun a hE => ?_
          refine hE.apur (i := 8) (fun _ _ _ _ _ h => h) (by kernel_rfl) rfl (by kernel_rfl) (by kernel_rfl) (by rfl) (l2 := #[true, true, true, true, true, true, true, true, true, false, false, false, false, false, false, false, false, false, false, false, false, false, false, false]) (pn_run (X.move hE rfl)) fun a hE => ?_
          refine hE.apur (i := 9) (fun _ _ _ _ _ h => h) (by kernel_rfl) rfl (by kernel_rfl) (by kernel_rfl) (by rfl) (l2 := #[true, true, true, true, true, true, true, true, true, true, false, false, false, false, false, false, false, false, false, false, false, false, false, false]) (pn_run (X.move hE rfl)) fun a hE => ?_
          refine hE.apur (i := 10) (fun _ _ _ _ _ h => h) (by kernel_rfl) rfl (by kernel_rfl) (by kernel_rfl) (by rfl) (l2 := #[true, true, true, true, true, true, true, true, true, true, true, false, false, false, false, false, false, false, false, false, false, false, false, false]) (pn_run (X.move hE rfl)) fun a hE => ?_
          refine hE.apur (i := 11) (fun _ _ _ _ _ h => h) (by kernel_rfl) rfl (by kernel_rfl) (by kernel_rfl) (by rfl) (l2 := #[true, true, true, true, true, true, true, true, true, true, true, true, false, false, false, false, false, false, false, false, false, false, false, false]) (pn_run (X.add hE rfl rfl)) fun a hE => ?_
          refine hE.aop (i := 12) (fun _ _ _ _ _ h => h) (by kernel_rfl) rfl (by kernel_rfl) (by kernel_rfl) (by rfl) (l2 := #[true, true, true, true, true, true, true, true, true, true, true, true, true, false, false, false, false, false, false, false, false, false, false, false]) (X.indexAddr hE rfl rfl) H fun x71 a H hE => ?_
          refine hE.apur (i := 14) (fun _ _ _ _ _ h => h) (by kernel_rfl) rfl (by kernel_rfl) (by kernel_rfl) (by rfl) (l2 := #[true, true, true, true, true, true, true, true, true, true, true, true, true, false, true, false, false, false, false, false, false, false, false, false]) (pn_run (X.move hE rfl)) fun a hE => ?_
          refine hE.apur (i := 15) (fun _ _ _ _ _ h => h) (by kernel_rfl) rfl (by kernel_rfl) (by kernel_rfl) (by rfl) (l2 := #[true, true, true, true, true, true, true, true, true, true, true, true, true, false, true, true, false, false, false, false, false, false, false, false]) (pn_run (X.move hE rfl)) fun a hE => ?_
          refine hE.apur (i := 16) (fun _ _ _ _ _ h => h) (by kernel_rfl) rfl (by kernel_rfl) (by kernel_rfl) (by rfl) (l2 := #[true, true, true, true, true, true, true, true, true, true, true, true, true, false, true, true, true, false, false, false, false, false, false, false]) (pn_run (X.move hE rfl)) fun a hE => ?_
          refine hE.apur (i := 17) (fun _ _ _ _ _ h => h) (by kernel_rfl) rfl (by kernel_rfl) (by kernel_rfl) (by rfl) (l2 := #[true, true, true, true, true, true, true, true, true, true, true, true, true, false, true, true, true, true, false, false, false, false, false, false]) (pn_run (X.add hE rfl rfl)) fun a hE => ?_
          refine hE.aop (i := 18) (fun _ _ _ _ _ h => h) (by kernel_rfl) rfl (by kernel_rfl) (by kernel_rfl) (by rfl) (l2 := #[true, true, true, true, true, true, true, true, true, true, true, true, true, false, true, true, true, true, true, false, false, false, false, false]) (X.indexAddr hE rfl rfl) H fun x77 a H hE => ?_
          refine WA.two (i := 13) (j := 19) (l2 := #[true, true, true, true, true, true, true, true, true, true, true, true, true, true, true, true, true, true, true, false, false, false, false, false]) (l3 := #[true, true, true, true, true, true, true, true, true, true, true, true, true, false, true, true, true, true, true, true, false, false, false, false]) rfl rfl (by kernel_rfl) (by rfl) (by rfl) ?_ ?_
          · replace H := H.1
            intro K hK
            refine hE.wop (X.load hE rfl) H fun x72 w a H hE => ?_
            refine hK _ _ ?_
            refine WA.one (i := 19) (l2 := #[true, true, true, true, true, true, true, true, true, true, true, true, true, true, true, true, true, true, true, true, false, false, false, false]) rfl (by kernel_rfl) (by rfl) ?_
            intro K hK
            refine hE.wop (X.load hE rfl) H fun x78 w a H hE => ?_
            refine hK _ _ ?_
            refine hE.aop (i := 20) (fun _ _ _ _ _ h => h) (by kernel_rfl) rfl (by kernel_rfl) (by kernel_rfl) (by rfl) (l2 := #[true, true, true, true, true, true, true, true, true, true, true, true, true, true, true, true, true, true, true, true, true, false, false, false]) (X.indexAddr hE rfl rfl) H fun x79 a H hE => ?_
            refine WA.one (i := 21) (l2 := #[true, true, true, true, true, true, true, true, true, true, true, true, true, true, true, true, true, true, true, true, true, true, false, false]) rfl (by kernel_rfl) (by rfl) ?_
            intro K hK
            refine hE.wopu (X.store hE rfl rfl) H fun w a H hE => ?_
            refine hK _ _ ?_
            refine hE.aop (i := 22) (fun _ _ _ _ _ h => h) (by kernel_rfl) rfl (by kernel_rfl) (by kernel_rfl) (by rfl) (l2 := #[true, true, true, true, true, true, true, true, true, true, true, true, true, true, true, true, true, true, true, true, true, true, true, false]) (X.indexAddr hE rfl rfl) H fun x80 a H hE => ?_
            refine WA.one (i := 23) (l2 := #[true, true, true, true, true, true, true, true, true, true, true, true, true, true, true, true, true, true, true, true, true, true, true, true]) rfl (by kernel_rfl) (by rfl) ?_
            intro K hK
            refine hE.wopu (X.store hE rfl rfl) H fun w a H hE => ?_
            refine hK _ _ ?_
            refine WA.nil (by kernel_rfl) ?_
            exact (tn (hj3 () _ _ H (hE.weak ⟨rfl, rfl, rfl, rfl, rfl, trivial⟩)))
          · replace H := H.2
            intro K hK
            refine hE.wop (X.load hE rfl) H fun x78_1 w a H hE => ?_
            refine hK _ _ ?_
            refine WA.one (i := 13) (l2 := #[true, true, true, true, true, true, true, true, true, true, true, true, true, true, true, true, true, true, true, true, false, false, false, false]) rfl (by kernel_rfl) (by rfl) ?_
            intro K hK
            refine hE.wop (X.load hE rfl) H fun x72_1 w a H hE => ?_
            refine hK _ _ ?_
            refine hE.aop (i := 20) (fun _ _ _ _ _ h => h) (by kernel_rfl) rfl (by kernel_rfl) (by kernel_rfl) (by rfl) (l2 := #[true, true, true, true, true, true, true, true, true, true, true, true, true, true, true, true, true, true, true, true, true, false, false, false]) (X.indexAddr hE rfl rfl) H fun x79_1 a H hE => ?_
            refine WA.one (i := 21) (l2 := #[true, true, true, true, true, true, true, true, true, true, true, true, true, true, true, true, true, true, true, true, true, true, false, false]) rfl (by kernel_rfl) (by rfl) ?_
            intro K hK
            refine hE.wopu (X.store hE rfl rfl) H fun w a H hE => ?_
            refine hK _ _ ?_
            refine hE.aop (i := 22) (fun _ _ _ _ _ h => h) (by kernel_rfl) rfl (by kernel_rfl) (by kernel_rfl) (by rfl) (l2 := #[true, true, true, true, true, true, true, true, true, true, true, true, true, true, true, true, true, true, true, true, true, true, true, false]) (X.indexAddr hE rfl rfl) H fun x80_1 a H hE => ?_
            refine WA.one (i := 23) (l2 := #[true, true, true, true, true, true, true, true, true, true, true, true, true, true, true, true, true, true, true, true, true, true, true, true]) rfl (by kernel_rfl) (by rfl) ?_
            intro K hK
            refine hE.wopu (X.store hE rfl rfl) H fun w a H hE => ?_
            refine hK _ _ ?_
            refine WA.nil (by kernel_rfl) ?_
            exact (tn (hj3 () _ _ H (hE.weak ⟨rfl, rfl, rfl, rfl, rfl, trivial⟩)))
    · refine C.seq ?_
      refine C.draw (by kernel_rfl) (by kernel_rfl) ?_
      refine hE.qpur (X.move hE rfl) fun a hE => ?_
      refine hE.qpur (X.add hE rfl rfl) fun a hE => ?_
      refine hE.qpur (X.move hE rfl) fun a hE => ?_
      refine hE.qpur (X.ltI hE rfl rfl) fun a hE => ?_
      refine hE.qpur (X.move hE rfl) fun a hE => ?_
      refine WQ.join (ds := []) (N := 82) (σ := Bool) (fun s => [(40, (.bool s)), (0, (Sl.v x0)), (2, (.int .i64 x2)), (3, (.int .i64 x3)), (4, x4), (10, (.int .i64 x10)), (11, (.int .i64 (IntKind.wrap .i64 ((IntKind.wrap .i64 (2 * x10)) + 1))))]) (fun s => V_slices_siftDownCmpFunc_api_Version_r4 x0 x3 x4 Ret x10 Kl1 s w) 17 ?_ (fun hr4 => ?_)
      · intro x40 a H hE
        try dsimp only at H hE
        unfold V_slices_siftDownCmpFunc_api_Version_r4 at H
        refine C.qnil (fun w hB => ?_)
        replace H := H w hB
        refine (tn ?_)
        refine C.condB hE rfl (fun hc => ?_) (fun hc => ?_)
        · replace H := H.1 hc
          refine C.region ?_
          refine hE.pur (X.move hE rfl) fun a hE => ?_
          refine hE.pur (X.add hE rfl rfl) fun a hE => ?_
          refine hE.pur (X.assign hE rfl) fun a hE => ?_
          exact C.nil (tn (hj2 (IntKind.wrap .i64 ((IntKind.wrap .i64 ((IntKind.wrap .i64 (2 * x10)) + 1)) + 1)) _ _ H (hE.weak ⟨rfl, rfl, rfl, rfl, rfl, rfl, trivial⟩)))
        · replace H := H.2 hc
          exact C.skip (tn (hj2 (IntKind.wrap .i64 ((IntKind.wrap .i64 (2 * x10)) + 1)) _ _ H (hE.weak ⟨rfl, rfl, rfl, rfl, rfl, rfl, trivial⟩)))
      · rcases Classical.em (((IntKind.wrap .i64 ((IntKind.wrap .i64 ((IntKind.wrap .i64 (2 * x10)) + 1)) + 1)) < x2)) with hbr4 | hbr4
        · replace H := H.1 hbr4
          replace hE := hE.bool (b := true) (t := 23) rfl (decide_eq_true hbr4)
          refine hE.qon (by rfl) (by rfl) ?_
          refine hE.qpur (X.move hE rfl) fun a hE => ?_
          refine hE.qon (by rfl) (by rfl) ?_
          refine hE.qpur (X.move hE rfl) fun a hE => ?_
          refine hE.qon (by rfl) (by rfl) ?_
          refine hE.qpur (X.move hE rfl) fun a hE => ?_
          refine hE.qon (by rfl) (by rfl) ?_
          refine hE.qpur (X.move hE rfl) fun a hE => ?_
          refine hE.qon (by rfl) (by rfl) ?_
          refine hE.qpur (X.add hE rfl rfl) fun a hE => ?_
          refine hE.qon (by rfl) (by rfl) ?_
          refine hE.qop (X.indexAddr hE rfl rfl) H fun x29 a H hE => ?_
          refine hE.qon (by rfl) (by rfl) ?_
          refine hE.qop (X.load hE rfl) H fun x30 a H hE => ?_
          refine hE.qon (by rfl) (by rfl) ?_
          refine hE.qpur (X.move hE rfl) fun a hE => ?_
          refine hE.qon (by rfl) (by rfl) ?_
          refine hE.qpur (X.move hE rfl) fun a hE => ?_
          refine hE.qon (by rfl) (by rfl) ?_
          refine hE.qpur (X.move hE rfl) fun a hE => ?_
          refine hE.qon (by rfl) (by rfl) ?_
          refine hE.qpur (X.add hE rfl rfl) fun a hE => ?_
          refine hE.qon (by rfl) (by rfl) ?_
          refine hE.qpur (X.add hE rfl rfl) fun a hE => ?_
          refine hE.qon (by rfl) (by rfl) ?_
          refine hE.qop (X.indexAddr hE rfl rfl) H fun x36 a H hE => ?_
          refine hE.qon (by rfl) (by rfl) ?_
          refine hE.qop (X.load hE rfl) H fun x37 a H hE => ?_
          refine hE.qon (by rfl) (by rfl) ?_
          obtain ⟨r_1, hc, H⟩ := H
          refine hE.qcallV rfl rfl hc fun a hE => ?_
          refine hE.qon (by rfl) (by rfl) ?_
          refine hE.qpur (X.ltI hE rfl rfl) fun a hE => ?_
          refine hE.qpur (X.pickT hE rfl rfl) fun a hE => ?_
          exact hr4 (decide (r_1 < 0)) _ H (hE.weak ⟨rfl, rfl, rfl, rfl, rfl, rfl, rfl, trivial⟩)
        · replace H := H.2 hbr4
          replace hE := hE.bool (b := false) (t := 23) rfl (decide_eq_false hbr4)
          refine hE.qoff (by rfl) (by rfl) (by decide) (fun a hE => ?_)
          refine hE.qoff (by rfl) (by rfl) (by decide) (fun a hE => ?_)
          refine hE.qoff (by rfl) (by rfl) (by decide) (fun a hE => ?_)
          refine hE.qoff (by rfl) (by rfl) (by decide) (fun a hE => ?_)
          refine hE.qoff (by rfl) (by rfl) (by decide) (fun a hE => ?_)
          refine hE.qoff (by rfl) (by rfl) (by decide) (fun a hE => ?_)
          refine hE.qoff (by rfl) (by rfl) (by decide) (fun a hE => ?_)
          refine hE.qoff (by rfl) (by rfl) (by decide) (fun a hE => ?_)
          refine hE.qoff (by rfl) (by rfl) (by decide) (fun a hE => ?_)
          refine hE.qoff (by rfl) (by rfl) (by decide) (fun a hE => ?_)
          refine hE.qoff (by rfl) (by rfl) (by decide) (fun a hE => ?_)
          refine hE.qoff (by rfl) (by rfl) (by decide) (fun a hE => ?_)
          refine hE.qoff (by rfl) (by rfl) (by decide) (fun a hE => ?_)
          refine hE.qoff (by rfl) (by rfl) (by decide) (fun a hE => ?_)
          refine hE.qoff (by rfl) (by rfl) (by decide) (fun a hE => ?_)
          refine hE.qoff (by rfl) (by rfl) (by decide) (fun a hE => ?_)
          refine hE.qpur (X.pickF hE rfl rfl) fun a hE => ?_
          exact hr4 false _ H (hE.weak ⟨rfl, rfl, rfl, rfl, rfl, rfl, rfl, trivial⟩)
/-! ### slices.medianAdjacentCmpFunc[lading api.Version]: function 66 -/
def V_slices_medianAdjacentCmpFunc_api_Version (x0 : Sl) (x1 : Int) (x2 : Option Addr) (x3 : Value) (w : World) (Ret : Int → World → Prop) : Prop :=
  Cl Try.prog 67 [(Sl.v x0), (.int .i64 (IntKind.wrap .i64 (x1 - 1))), (.int .i64 x1), (.int .i64 (IntKind.wrap .i64 (x1 + 1))), (.pointer x2), x3].toArray w (fun e w => ∃ (r : Int), e = .returned (.int .i64 r) ∧ (Ret r w))
set_option maxRecDepth 100000 in
theorem L1_slices_medianAdjacentCmpFunc_api_Version (x0 : Sl) (x1 : Int) (x2 : Option Addr) (x3 : Value) (w : World) (Ret : Int → World → Prop) (H : V_slices_medianAdjacentCmpFunc_api_Version x0 x1 x2 x3 w Ret) : Cl Try.prog 66 [(Sl.v x0), (.int .i64 x1), (.pointer x2), x3].toArray w (fun e w' => ∃ (r0 : Int), e = .returned (.int .i64 r0) ∧ Ret r0 w') := by
  unfold V_slices_medianAdjacentCmpFunc_api_Version at H
  refine C.enter 18 (zipE 0 [(Sl.v x0), (.int .i64 x1), (.pointer x2), x3]) Try.func66 rfl rfl (by rfl) rfl ?_
  intro a hE
  replace hE : Sat [] 18 [(0, (Sl.v x0)), (1, (.int .i64 x1)), (2, (.pointer x2)), (3, x3)] a := hE
  refine C.seq ?_
  refine C.region ?_
  refine hE.pur (X.assign hE rfl) fun a hE => ?_
  refine C.nil (tn ?_)
  refine C.seq ?_
  refine C.region ?_
  refine hE.pur (X.move hE rfl) fun a hE => ?_
  refine hE.pur (X.move hE rfl) fun a hE => ?_
  refine hE.pur (X.sub hE rfl rfl) fun a hE => ?_
  refine hE.pur (X.move hE rfl) fun a hE => ?_
  refine hE.pur (X.move hE rfl) fun a hE => ?_
  refine hE.pur (X.add hE rfl rfl) fun a hE => ?_
  refine hE.pur (X.move hE rfl) fun a hE => ?_
  refine hE.pur (X.move hE rfl) fun a hE => ?_
  refine hE.call (X.callF hE ent67 rfl rfl) H fun e w H => ?_
  obtain ⟨r, rfl, H⟩ := H
  refine ⟨_, rfl, fun a hE => ?_⟩
  refine hE.pur (X.assign hE rfl) fun a hE => ?_
  refine C.nil (tn ?_)
  exact C.ret (C.ret1 hE rfl rfl ⟨_, rfl, H⟩)
/-! ### slices.medianCmpFunc[lading api.Version]: function 67 -/
def V_slices_medianCmpFunc_api_Version (x0 : Sl) (x1 : Int) (x2 : Int) (x3 : Int) (x4 : Option Addr) (x5 : Value) (w : World) (Ret : Int → World → Prop) : Prop :=
  Cl Try.prog 68 [(Sl.v x0), (.int .i64 x1), (.int .i64 x2), (.pointer x4), x5].toArray w (fun e w => ∃ (r : Int) (r_1 : Int), e = .returned (.tuple [(.int .i64 r), (.int .i64 r_1)].toArray) ∧ (Cl Try.prog 68 [(Sl.v x0), (.int .i64 r_1), (.int .i64 x3), (.pointer x4), x5].toArray w (fun e w => ∃ (r_2 : Int) (r_3 : Int), e = .returned (.tuple [(.int .i64 r_2), (.int .i64 r_3)].toArray) ∧ (Cl Try.prog 68 [(Sl.v x0), (.int .i64 r), (.int .i64 r_2), (.pointer x4), x5].toArray w (fun e w => ∃ (r_4 : Int) (r_5 : Int), e = .returned (.tuple [(.int .i64 r_4), (.int .i64 r_5)].toArray) ∧ (Ret r_5 w))))))
set_option maxRecDepth 100000 in
theorem L1_slices_medianCmpFunc_api_Version (x0 : Sl) (x1 : Int) (x2 : Int) (x3 : Int) (x4 : Option Addr) (x5 : Value) (w : World) (Ret : Int → World → Prop) (H : V_slices_medianCmpFunc_api_Version x0 x1 x2 x3 x4 x5 w Ret) : Cl Try.prog 67 [(Sl.v x0), (.int .i64 x1), (.int .i64 x2), (.int .i64 x3), (.pointer x4), x5].toArray w (fun e w' => ∃ (r0 : Int), e = .returned (.int .i64 r0) ∧ Ret r0 w') := by
  unfold V_slices_medianCmpFunc_api_Version at H
  refine C.enter 41 (zipE 0 [(Sl.v x0), (.int .i64 x1), (.int .i64 x2), (.int .i64 x3), (.pointer x4), x5]) Try.func67 rfl rfl (by rfl) rfl ?_
  intro a hE
  replace hE : Sat [] 41 [(0, (Sl.v x0)), (1, (.int .i64 x1)), (2, (.int .i64 x2)), (3, (.int .i64 x3)), (4, (.pointer x4)), (5, x5)] a := hE
  refine C.seq ?_
  refine C.region ?_
  refine hE.pur (X.assign hE rfl) fun a hE => ?_
  refine C.nil (tn ?_)
  refine C.seq ?_
  refine C.region ?_
  refine hE.pur (X.move hE rfl) fun a hE => ?_
  refine hE.pur (X.move hE rfl) fun a hE => ?_
  refine hE.pur (X.move hE rfl) fun a hE => ?_
  refine hE.pur (X.move hE rfl) fun a hE => ?_
  refine hE.pur (X.move hE rfl) fun a hE => ?_
  refine hE.call (X.callF hE ent68 rfl rfl) H fun e w H => ?_
  obtain ⟨r, r_1, rfl, H⟩ := H
  refine ⟨_, rfl, fun a hE => ?_⟩
  refine hE.pur (X.move hE rfl) fun a hE => ?_
  refine hE.pur (X.extract hE rfl rfl) fun a hE => ?_
  refine hE.pur (X.extract hE rfl rfl) fun a hE => ?_
  refine hE.pur (X.assign hE rfl) fun a hE => ?_
  refine hE.pur (X.assign hE rfl) fun a hE => ?_
  refine C.nil (tn ?_)
  refine C.seq ?_
  refine C.region ?_
  refine hE.pur (X.move hE rfl) fun a hE => ?_
  refine hE.pur (X.move hE rfl) fun a hE => ?_
  refine hE.pur (X.move hE rfl) fun a hE => ?_
  refine hE.pur (X.move hE rfl) fun a hE => ?_
  refine hE.pur (X.move hE rfl) fun a hE => ?_
  refine hE.call (X.callF hE ent68 rfl rfl) H fun e w H => ?_
  obtain ⟨r_2, r_3, rfl, H⟩ := H
  refine ⟨_, rfl, fun a hE => ?_⟩
  refine hE.pur (X.move hE rfl) fun a hE => ?_
  refine hE.pur (X.extract hE rfl rfl) fun a hE => ?_
  refine hE.pur (X.extract hE rfl rfl) fun a hE => ?_
  refine hE.pur (X.assign hE rfl) fun a hE => ?_
  refine hE.pur (X.assign hE rfl) fun a hE => ?_
  refine C.nil (tn ?_)
  refine C.seq ?_
  refine C.region ?_
  refine hE.pur (X.move hE rfl) fun a hE => ?_
  refine hE.pur (X.move hE rfl) fun a hE => ?_
  refine hE.pur (X.move hE rfl) fun a hE => ?_
  refine hE.pur (X.move hE rfl) fun a hE => ?_
  refine hE.pur (X.move hE rfl) fun a hE => ?_
  refine hE.call (X.callF hE ent68 rfl rfl) H fun e w H => ?_
  obtain ⟨r_4, r_5, rfl, H⟩ := H
  refine ⟨_, rfl, fun a hE => ?_⟩
  refine hE.pur (X.move hE rfl) fun a hE => ?_
  refine hE.pur (X.extract hE rfl rfl) fun a hE => ?_
  refine hE.pur (X.extract hE rfl rfl) fun a hE => ?_
  refine hE.pur (X.assign hE rfl) fun a hE => ?_
  refine hE.pur (X.assign hE rfl) fun a hE => ?_
  refine C.nil (tn ?_)
  refine C.seq ?_
  refine C.region ?_
  refine hE.pur (X.move hE rfl) fun a hE => ?_
  refine hE.pur (X.assign hE rfl) fun a hE => ?_
  refine C.nil (tn ?_)
  exact C.ret (C.ret1 hE rfl rfl ⟨_, rfl, H⟩)
/-! ### slices.order2CmpFunc[lading api.Version]: function 68 -/
def V_slices_order2CmpFunc_api_Version (x0 : Sl) (x1 : Int) (x2 : Int) (x3 : Option Addr) (x4 : Value) (w : World) (Ret : Int → Int → World → Prop) : Prop :=
  opB Try.prog Value.pointer (Instr.indexAt 22 (Sl.v x0) (.int .i64 x2)) w (fun x15 => opB Try.prog T_api_Version.v (Instr.loadAt 37 (.pointer x15)) w (fun x16 => opB Try.prog Value.pointer (Instr.indexAt 22 (Sl.v x0) (.int .i64 x1)) w (fun x19 => opB Try.prog T_api_Version.v (Instr.loadAt 37 (.pointer x19)) w (fun x20 => ∃ (r : Int), CallQ Try.prog x4 [(T_api_Version.v x16), (T_api_Version.v x20)] w (.int .i64 r) ∧ (nextB w (fun w => ((r < 0) → (nilOk (.pointer x3) ∧ (opE Try.prog (Value.int .i64) (Instr.loadAt 3 (.pointer x3)) w (fun x25 w => nilOk (.pointer x3) ∧ (opU Try.prog (Instr.storeAt 3 (.pointer x3) (.int .i64 (IntKind.wrap .i64 (x25 + 1)))) w (fun w => Ret x2 x1 w)))))) ∧ (¬ (r < 0) → (Ret x1 x2 w))))))))
set_option maxRecDepth 100000 in
theorem L1_slices_order2CmpFunc_api_Version (x0 : Sl) (x1 : Int) (x2 : Int) (x3 : Option Addr) (x4 : Value) (w : World) (Ret : Int → Int → World → Prop) (H : V_slices_order2CmpFunc_api_Version x0 x1 x2 x3 x4 w Ret) : Cl Try.prog 68 [(Sl.v x0), (.int .i64 x1), (.int .i64 x2), (.pointer x3), x4].toArray w (fun e w' => ∃ (r0 : Int) (r1 : Int), e = .returned (.tuple [(.int .i64 r0), (.int .i64 r1)].toArray) ∧ Ret r0 r1 w') := by
  unfold V_slices_order2CmpFunc_api_Version at H
  refine C.enter 32 (zipE 0 [(Sl.v x0), (.int .i64 x1), (.int .i64 x2), (.pointer x3), x4]) Try.func68 rfl rfl (by rfl) rfl ?_
  intro a hE
  replace hE : Sat [] 32 [(0, (Sl.v x0)), (1, (.int .i64 x1)), (2, (.int .i64 x2)), (3, (.pointer x3)), (4, x4)] a := hE
  refine C.seq ?_
  refine C.region ?_
  refine hE.pur (X.assign hE rfl) fun a hE => ?_
  refine hE.pur (X.assign hE rfl) fun a hE => ?_
  refine C.nil (tn ?_)
  refine C.seq ?_
  refine C.seq ?_
  refine C.draw (by kernel_rfl) (by kernel_rfl) ?_
  refine hE.qpur (X.move hE rfl) fun a hE => ?_
  refine hE.qpur (X.move hE rfl) fun a hE => ?_
  refine hE.qpur (X.move hE rfl) fun a hE => ?_
  refine hE.qop (X.indexAddr hE rfl rfl) H fun x15 a H hE => ?_
  refine hE.qop (X.load hE rfl) H fun x16 a H hE => ?_
  refine hE.qpur (X.move hE rfl) fun a hE => ?_
  refine hE.qpur (X.move hE rfl) fun a hE => ?_
  refine hE.qop (X.indexAddr hE rfl rfl) H fun x19 a H hE => ?_
  refine hE.qop (X.load hE rfl) H fun x20 a H hE => ?_
  obtain ⟨r, hc, H⟩ := H
  refine hE.qcallV rfl rfl hc fun a hE => ?_
  refine hE.qpur (X.ltI hE rfl rfl) fun a hE => ?_
  refine C.qnil (fun w hB => ?_)
  replace H := H w hB
  refine (tn ?_)
  refine C.condP hE rfl (fun hc => ?_) (fun hc => ?_)
  · replace H := H.1 hc
    refine C.seq ?_
    refine C.region ?_
    refine hE.pur (X.move hE rfl) fun a hE => ?_
    refine hE.pur (X.nilCheck hE rfl H.1) fun a hE => ?_
    replace H := H.2
    refine hE.op (X.load hE rfl) H fun x25 w a H hE => ?_
    refine hE.pur (X.add hE rfl rfl) fun a hE => ?_
    refine hE.pur (X.nilCheck hE rfl H.1) fun a hE => ?_
    replace H := H.2
    refine hE.opu (X.store hE rfl rfl) H fun w a H hE => ?_
    refine C.nil (tn ?_)
    refine C.seq ?_
    refine C.region ?_
    refine hE.pur (X.move hE rfl) fun a hE => ?_
    refine hE.pur (X.move hE rfl) fun a hE => ?_
    refine hE.pur (X.assign hE rfl) fun a hE => ?_
    refine hE.pur (X.assign hE rfl) fun a hE => ?_
    refine C.nil (tn ?_)
    exact C.ret (tr (C.ret2 hE rfl rfl rfl ⟨_, _, rfl, H⟩))
  · replace H := H.2 hc
    refine C.skip (tn ?_)
    refine C.seq ?_
    refine C.region ?_
    refine hE.pur (X.move hE rfl) fun a hE => ?_
    refine hE.pur (X.move hE rfl) fun a hE => ?_
    refine hE.pur (X.assign hE rfl) fun a hE => ?_
    refine hE.pur (X.assign hE rfl) fun a hE => ?_
    refine C.nil (tn ?_)
    exact C.ret (C.ret2 hE rfl rfl rfl ⟨_, _, rfl, H⟩)
end Go.Proofs.Ytealcoghiaeiiaa.VG
