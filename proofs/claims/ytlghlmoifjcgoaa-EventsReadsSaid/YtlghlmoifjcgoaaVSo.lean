/- Verification conditions, by program (gen.py), of functions of the loaded program, each with the proof that it gives the call; no condition. -/
import Derived.Test.YtlghlmoifjcgoaaVS
set_option linter.unusedVariables false
set_option linter.unusedSimpArgs false
namespace Go.Proofs.Ytlghlmoifjcgoaa.VG
open Go.VB Go.Proofs

/-! ### slices.insertionSortOrdered[string]: function 46 -/
def V_slices_insertionSortOrdered_string_j4 (x7 : Int) (Kl2 : Int → World → Prop) (w : World) : Prop :=
  Kl2 (IntKind.wrap .i64 (x7 - 1)) w
def V_slices_insertionSortOrdered_string_r3 (x0 : Sl) (x6 : Int) (Kl1 : Int → World → Prop) (x7 : Int) (Kl2 : Int → World → Prop) (x30 : Bool) (w : World) : Prop :=
  nextB w (fun w => (x30 = true → (nextB w (fun w => opP Try.prog Value.pointer (Instr.indexAt 23 (Sl.v x0) (.int .i64 (IntKind.wrap .i64 (x7 - 1)))) (fun x41 => opP Try.prog Value.pointer (Instr.indexAt 23 (Sl.v x0) (.int .i64 x7)) (fun x45 => (opE Try.prog Value.string (Instr.loadAt 9 (.pointer x41)) w (fun x42 w => opE Try.prog Value.string (Instr.loadAt 9 (.pointer x45)) w (fun x46 w => opP Try.prog Value.pointer (Instr.indexAt 23 (Sl.v x0) (.int .i64 x7)) (fun x47 => opU Try.prog (Instr.storeAt 9 (.pointer x47) (.string x42)) w (fun w => opP Try.prog Value.pointer (Instr.indexAt 23 (Sl.v x0) (.int .i64 (IntKind.wrap .i64 (x7 - 1)))) (fun x48 => opU Try.prog (Instr.storeAt 9 (.pointer x48) (.string x46)) w (fun w => V_slices_insertionSortOrdered_string_j4 x7 Kl2 w))))))) ∧ (opE Try.prog Value.string (Instr.loadAt 9 (.pointer x45)) w (fun x46_1 w => opE Try.prog Value.string (Instr.loadAt 9 (.pointer x41)) w (fun x42_1 w => opP Try.prog Value.pointer (Instr.indexAt 23 (Sl.v x0) (.int .i64 x7)) (fun x47_1 => opU Try.prog (Instr.storeAt 9 (.pointer x47_1) (.string x42_1)) w (fun w => opP Try.prog Value.pointer (Instr.indexAt 23 (Sl.v x0) (.int .i64 (IntKind.wrap .i64 (x7 - 1)))) (fun x48_1 => opU Try.prog (Instr.storeAt 9 (.pointer x48_1) (.string x46_1)) w (fun w => V_slices_insertionSortOrdered_string_j4 x7 Kl2 w)))))))))))) ∧ (x30 = false → (Kl1 (IntKind.wrap .i64 (x6 + 1)) w)))
def V_slices_insertionSortOrdered_string_l2b (x0 : Sl) (x1 : Int) (x6 : Int) (Kl1 : Int → World → Prop) (x7 : Int) (w : World) (Kl2 : Int → World → Prop) : Prop :=
  ((x1 < x7) → (opB Try.prog Value.pointer (Instr.indexAt 23 (Sl.v x0) (.int .i64 x7)) w (fun x22 => opB Try.prog Value.string (Instr.loadAt 9 (.pointer x22)) w (fun x23 => opB Try.prog Value.pointer (Instr.indexAt 23 (Sl.v x0) (.int .i64 (IntKind.wrap .i64 (x7 - 1)))) w (fun x27 => opB Try.prog Value.string (Instr.loadAt 9 (.pointer x27)) w (fun x28 => ∃ (r : Bool), (∀ w', Bel w w' → Cl Try.prog 52 [(.string x23), (.string x28)].toArray w' (fun e w'' => e = .returned (.bool r) ∧ Bel w' w'')) ∧ (V_slices_insertionSortOrdered_string_r3 x0 x6 Kl1 x7 Kl2 r w))))))) ∧ (¬ (x1 < x7) → (V_slices_insertionSortOrdered_string_r3 x0 x6 Kl1 x7 Kl2 false w))
def V_slices_insertionSortOrdered_string_l1b (x0 : Sl) (x1 : Int) (x2 : Int) (Ret : World → Prop) (x6 : Int) (w : World) (Kl1 : Int → World → Prop) : Prop :=
  ((x6 < x2) → (∃ (I : Int → World → Prop) (μ : Int → World → Nat), I x6 w ∧ ∀ (x7 : Int) w, I x7 w → V_slices_insertionSortOrdered_string_l2b x0 x1 x6 Kl1 x7 w (fun x7' w' => I x7' w' ∧ μ x7' w' < μ x7 w))) ∧ (¬ (x6 < x2) → (Ret  w))
def V_slices_insertionSortOrdered_string (x0 : Sl) (x1 : Int) (x2 : Int) (w : World) (Ret : World → Prop) : Prop :=
  ∃ (I : Int → World → Prop) (μ : Int → World → Nat), I (IntKind.wrap .i64 (x1 + 1)) w ∧ ∀ (x6 : Int) w, I x6 w → V_slices_insertionSortOrdered_string_l1b x0 x1 x2 Ret x6 w (fun x6' w' => I x6' w' ∧ μ x6' w' < μ x6 w)
set_option maxRecDepth 100000 in
theorem L1_slices_insertionSortOrdered_string (x0 : Sl) (x1 : Int) (x2 : Int) (w : World) (Ret : World → Prop) (H : V_slices_insertionSortOrdered_string x0 x1 x2 w Ret) : Cl Try.prog 46 [(Sl.v x0), (.int .i64 x1), (.int .i64 x2)].toArray w (fun e w' => e = .returned (.tuple [].toArray) ∧ Ret  w') := by
  unfold V_slices_insertionSortOrdered_string at H
  refine C.enter 49 (zipE 0 [(Sl.v x0), (.int .i64 x1), (.int .i64 x2)]) Try.func46 rfl rfl (by rfl) rfl ?_
  intro a hE
  replace hE : Sat [] 49 [(0, (Sl.v x0)), (1, (.int .i64 x1)), (2, (.int .i64 x2))] a := hE
  refine C.seq ?_
  refine C.region ?_
  refine hE.pur (X.move hE rfl) fun a hE => ?_
  refine hE.pur (X.add hE rfl rfl) fun a hE => ?_
  refine hE.pur (X.assign hE rfl) fun a hE => ?_
  refine C.nil (tn ?_)
  refine C.block ?_
  obtain ⟨I_l1, μ_l1, h0, hb⟩ := H
  refine C.loop (ds := []) (N := 49) (σ := Int) (fun s => [(6, (.int .i64 s)), (0, (Sl.v x0)), (1, (.int .i64 x1)), (2, (.int .i64 x2))]) (fun s w => I_l1 s w) (fun s w => μ_l1 s w) (IntKind.wrap .i64 (x1 + 1)) h0 (hE.weak ⟨rfl, rfl, rfl, rfl, trivial⟩) ?_
  intro x6 w a hI hE
  try dsimp only at hI hE
  obtain ⟨Kl1, hK_l1⟩ : ∃ K : Int → World → Prop, K = (fun x6' w' => I_l1 x6' w' ∧ μ_l1 x6' w' < μ_l1 x6 w) := ⟨_, rfl⟩
  have H : V_slices_insertionSortOrdered_string_l1b x0 x1 x2 Ret x6 w Kl1 := by rw [hK_l1]; exact hb x6 w hI
  clear hb h0 hI
  unfold V_slices_insertionSortOrdered_string_l1b at H
  refine C.seq ?_
  refine C.seq ?_
  refine C.region ?_
  refine hE.pur (X.move hE rfl) fun a hE => ?_
  refine hE.pur (X.move hE rfl) fun a hE => ?_
  refine hE.pur (X.ltI hE rfl rfl) fun a hE => ?_
  refine C.nil (tn ?_)
  refine C.condP hE rfl (fun hc => ?_) (fun hc => ?_)
  · replace H := H.1 hc
    refine C.skip (tn ?_)
    refine C.seq ?_
    refine C.block ?_
    refine C.seq ?_
    refine C.region ?_
    refine hE.pur (X.move hE rfl) fun a hE => ?_
    refine hE.pur (X.assign hE rfl) fun a hE => ?_
    refine C.nil (tn ?_)
    refine C.block ?_
    obtain ⟨I_l2, μ_l2, h0, hb⟩ := H
    refine C.loop (ds := []) (N := 49) (σ := Int) (fun s => [(7, (.int .i64 s)), (0, (Sl.v x0)), (1, (.int .i64 x1)), (2, (.int .i64 x2)), (6, (.int .i64 x6))]) (fun s w => I_l2 s w) (fun s w => μ_l2 s w) x6 h0 (hE.weak ⟨rfl, rfl, rfl, rfl, rfl, trivial⟩) ?_
    intro x7 w a hI hE
    try dsimp only at hI hE
    obtain ⟨Kl2, hK_l2⟩ : ∃ K : Int → World → Prop, K = (fun x7' w' => I_l2 x7' w' ∧ μ_l2 x7' w' < μ_l2 x7 w) := ⟨_, rfl⟩
    have H : V_slices_insertionSortOrdered_string_l2b x0 x1 x6 Kl1 x7 w Kl2 := by rw [hK_l2]; exact hb x7 w hI
    clear hb h0 hI
    unfold V_slices_insertionSortOrdered_string_l2b at H
    refine C.seq ?_
    refine C.seq ?_
    refine C.draw (by kernel_rfl) (by kernel_rfl) ?_
    refine hE.qpur (X.move hE rfl) fun a hE => ?_
    refine hE.qpur (X.move hE rfl) fun a hE => ?_
    refine hE.qpur (X.gtI hE rfl rfl) fun a hE => ?_
    refine hE.qpur (X.move hE rfl) fun a hE => ?_
    refine WQ.join (ds := []) (N := 49) (σ := Bool) (fun s => [(30, (.bool s)), (0, (Sl.v x0)), (1, (.int .i64 x1)), (2, (.int .i64 x2)), (6, (.int .i64 x6)), (7, (.int .i64 x7))]) (fun s => V_slices_insertionSortOrdered_string_r3 x0 x6 Kl1 x7 Kl2 s w) 11 ?_ (fun hr3 => ?_)
    · intro x30 a H hE
      try dsimp only at H hE
      unfold V_slices_insertionSortOrdered_string_r3 at H
      refine C.qnil (fun w hB => ?_)
      replace H := H w hB
      refine (tn ?_)
      refine C.condB hE rfl (fun hc => ?_) (fun hc => ?_)
      · replace H := H.1 hc
        refine C.skip (tn ?_)
        refine C.join (ds := []) (N := 49) (σ := Unit) (fun s => [(0, (Sl.v x0)), (1, (.int .i64 x1)), (2, (.int .i64 x2)), (6, (.int .i64 x6)), (7, (.int .i64 x7))]) (fun s w => V_slices_insertionSortOrdered_string_j4 x7 Kl2  w) ?_ (fun hj4 => ?_)
        · rintro ⟨⟩ w a H hE
          try dsimp only at H hE
          unfold V_slices_insertionSortOrdered_string_j4 at H
          refine C.region ?_
          refine hE.pur (X.move hE rfl) fun a hE => ?_
          refine hE.pur (X.sub hE rfl rfl) fun a hE => ?_
          refine hE.pur (X.assign hE rfl) fun a hE => ?_
          rw [hK_l2] at H
          exact C.nil (tn ⟨(IntKind.wrap .i64 (x7 - 1)), hE.weak ⟨rfl, rfl, rfl, rfl, rfl, trivial⟩, H⟩)
        · refine C.block ?_
          refine C.any 18 #[false, false, false, false, false, false, false, false, false, false, false, false, false, false, false, false, false, false] (by kernel_rfl) (fun w hB => ?_)
          replace H := H w hB
          refine hE.apur (i := 0) (fun _ _ _ _ _ h => h) (by kernel_rfl) rfl (by kernel_rfl) (by kernel_rfl) (by rfl) (l2 := #[true, false, false, false, false, false, false, false, false, false, false, false, false, false, false, false, false, false]) (pn_run (X.move hE rfl)) fun a hE => ?_
          refine hE.apur (i := 1) (fun _ _ _ _ _ h => h) (by kernel_rfl) rfl (by kernel_rfl) (by kernel_rfl) (by rfl) (l2 := #[true, true, false, false, false, false, false, false, false, false, false, false, false, false, false, false, false, false]) (pn_run (X.move hE rfl)) fun a hE => ?_
          refine hE.apur (i := 2) (fun _ _ _ _ _ h => h) (by kernel_rfl) rfl (by kernel_rfl) (by kernel_rfl) (by rfl) (l2 := #[true, true, true, false, false, false, false, false, false, false, false, false, false, false, false, false, false, false]) (pn_run (X.move hE rfl)) fun a hE => ?_
          refine hE.apur (i := 3) (fun _ _ _ _ _ h => h) (by kernel_rfl) rfl (by kernel_rfl) (by kernel_rfl) (by rfl) (l2 := #[true, true, true, true, false, false, false, false, false, false, false, false, false, false, false, false, false, false]) (pn_run (X.move hE rfl)) fun a hE => ?_
          refine hE.apur (i := 4) (fun _ _ _ _ _ h => h) (by kernel_rfl) rfl (by kernel_rfl) (by kernel_rfl) (by rfl) (l2 := #[true, true, true, true, true, false, false, false, false, false, false, false, false, false, false, false, false, false]) (pn_run (X.sub hE rfl rfl)) fun a hE => ?_
          refine hE.apur (i := 5) (fun _ _ _ _ _ h => h) (by kernel_rfl) rfl (by kernel_rfl) (by kernel_rfl) (by rfl) (l2 := #[true, true, true, true, true, true, false, false, false, false, false, false, false, false, false, false, false, false]) (pn_run (X.move hE rfl)) fun a hE => ?_
          refine hE.apur (i := 6) (fun _ _ _ _ _ h => h) (by kernel_rfl) rfl (by kernel_rfl) (by kernel_rfl) (by rfl) (l2 := #[true, true, true, true, true, true, true, false, false, false, false, false, false, false, false, false, false, false]) (pn_run (X.move hE rfl)) fun a hE => ?_
          refine hE.apur (i := 7) (fun _ _ _ _ _ h => h) (by kernel_rfl) rfl (by kernel_rfl) (by kernel_rfl) (by rfl) (l2 := #[true, true, true, true, true, true, true, true, false, false, false, false, false, false, false, false, false, false]) (pn_run (X.sub hE rfl rfl)) fun a hE => ?_
          refine hE.aop (i := 8) (fun _ _ _ _ _ h => h) (by kernel_rfl) rfl (by kernel_rfl) (by kernel_rfl) (by rfl) (l2 := #[true, true, true, true, true, true, true, true, true, false, false, false, false, false, false, false, false, false]) (X.indexAddr hE rfl rfl) H fun x41 a H hE => ?_
          refine hE.apur (i := 10) (fun _ _ _ _ _ h => h) (by kernel_rfl) rfl (by kernel_rfl) (by kernel_rfl) (by rfl) (l2 := #[true, true, true, true, true, true, true, true, true, false, true, false, false, false, false, false, false, false]) (pn_run (X.move hE rfl)) fun a hE => ?_
          refine hE.apur (i := 11) (fun _ _ _ _ _ h => h) (by kernel_rfl) rfl (by kernel_rfl) (by kernel_rfl) (by rfl) (l2 := #[true, true, true, true, true, true, true, true, true, false, true, true, false, false, false, false, false, false]) (pn_run (X.move hE rfl)) fun a hE => ?_
          refine hE.aop (i := 12) (fun _ _ _ _ _ h => h) (by kernel_rfl) rfl (by kernel_rfl) (by kernel_rfl) (by rfl) (l2 := #[true, true, true, true, true, true, true, true, true, false, true, true, true, false, false, false, false, false]) (X.indexAddr hE rfl rfl) H fun x45 a H hE => ?_
          refine WA.two (i := 9) (j := 13) (l2 := #[true, true, true, true, true, true, true, true, true, true, true, true, true, false, false, false, false, false]) (l3 := #[true, true, true, true, true, true, true, true, true, false, true, true, true, true, false, false, false, false]) rfl rfl (by kernel_rfl) (by rfl) (by rfl) ?_ ?_
          · replace H := H.1
            intro K hK
            refine hE.wop (X.load hE rfl) H fun x42 w a H hE => ?_
            refine hK _ _ ?_
            refine WA.one (i := 13) (l2 := #[true, true, true, true, true, true, true, true, true, true, true, true, true, true, false, false, false, false]) rfl (by kernel_rfl) (by rfl) ?_
            intro K hK
            refine hE.wop (X.load hE rfl) H fun x46 w a H hE => ?_
            refine hK _ _ ?_
            refine hE.aop (i := 14) (fun _ _ _ _ _ h => h) (by kernel_rfl) rfl (by kernel_rfl) (by kernel_rfl) (by rfl) (l2 := #[true, true, true, true, true, true, true, true, true, true, true, true, true, true, true, false, false, false]) (X.indexAddr hE rfl rfl) H fun x47 a H hE => ?_
            refine WA.one (i := 15) (l2 := #[true, true, true, true, true, true, true, true, true, true, true, true, true, true, true, true, false, false]) rfl (by kernel_rfl) (by rfl) ?_
            intro K hK
            refine hE.wopu (X.store hE rfl rfl) H fun w a H hE => ?_
            refine hK _ _ ?_
            refine hE.aop (i := 16) (fun _ _ _ _ _ h => h) (by kernel_rfl) rfl (by kernel_rfl) (by kernel_rfl) (by rfl) (l2 := #[true, true, true, true, true, true, true, true, true, true, true, true, true, true, true, true, true, false]) (X.indexAddr hE rfl rfl) H fun x48 a H hE => ?_
            refine WA.one (i := 17) (l2 := #[true, true, true, true, true, true, true, true, true, true, true, true, true, true, true, true, true, true]) rfl (by kernel_rfl) (by rfl) ?_
            intro K hK
            refine hE.wopu (X.store hE rfl rfl) H fun w a H hE => ?_
            refine hK _ _ ?_
            refine WA.nil (by kernel_rfl) ?_
            exact (bn (tn (hj4 () _ _ H (hE.weak ⟨rfl, rfl, rfl, rfl, rfl, trivial⟩))))
          · replace H := H.2
            intro K hK
            refine hE.wop (X.load hE rfl) H fun x46_1 w a H hE => ?_
            refine hK _ _ ?_
            refine WA.one (i := 9) (l2 := #[true, true, true, true, true, true, true, true, true, true, true, true, true, true, false, false, false, false]) rfl (by kernel_rfl) (by rfl) ?_
            intro K hK
            refine hE.wop (X.load hE rfl) H fun x42_1 w a H hE => ?_
            refine hK _ _ ?_
            refine hE.aop (i := 14) (fun _ _ _ _ _ h => h) (by kernel_rfl) rfl (by kernel_rfl) (by kernel_rfl) (by rfl) (l2 := #[true, true, true, true, true, true, true, true, true, true, true, true, true, true, true, false, false, false]) (X.indexAddr hE rfl rfl) H fun x47_1 a H hE => ?_
            refine WA.one (i := 15) (l2 := #[true, true, true, true, true, true, true, true, true, true, true, true, true, true, true, true, false, false]) rfl (by kernel_rfl) (by rfl) ?_
            intro K hK
            refine hE.wopu (X.store hE rfl rfl) H fun w a H hE => ?_
            refine hK _ _ ?_
            refine hE.aop (i := 16) (fun _ _ _ _ _ h => h) (by kernel_rfl) rfl (by kernel_rfl) (by kernel_rfl) (by rfl) (l2 := #[true, true, true, true, true, true, true, true, true, true, true, true, true, true, true, true, true, false]) (X.indexAddr hE rfl rfl) H fun x48_1 a H hE => ?_
            refine WA.one (i := 17) (l2 := #[true, true, true, true, true, true, true, true, true, true, true, true, true, true, true, true, true, true]) rfl (by kernel_rfl) (by rfl) ?_
            intro K hK
            refine hE.wopu (X.store hE rfl rfl) H fun w a H hE => ?_
            refine hK _ _ ?_
            refine WA.nil (by kernel_rfl) ?_
            exact (bn (tn (hj4 () _ _ H (hE.weak ⟨rfl, rfl, rfl, rfl, rfl, trivial⟩))))
      · replace H := H.2 hc
        refine C.exit (te (te (be (bn (tn ?_)))))
        refine C.region ?_
        refine hE.pur (X.move hE rfl) fun a hE => ?_
        refine hE.pur (X.add hE rfl rfl) fun a hE => ?_
        refine hE.pur (X.assign hE rfl) fun a hE => ?_
        rw [hK_l1] at H
        exact C.nil (tn ⟨(IntKind.wrap .i64 (x6 + 1)), hE.weak ⟨rfl, rfl, rfl, rfl, trivial⟩, H⟩)
    · rcases Classical.em ((x1 < x7)) with hbr3 | hbr3
      · replace H := H.1 hbr3
        replace hE := hE.bool (b := true) (t := 19) rfl (decide_eq_true hbr3)
        refine hE.qon (by rfl) (by rfl) ?_
        refine hE.qpur (X.move hE rfl) fun a hE => ?_
        refine hE.qon (by rfl) (by rfl) ?_
        refine hE.qpur (X.move hE rfl) fun a hE => ?_
        refine hE.qon (by rfl) (by rfl) ?_
        refine hE.qop (X.indexAddr hE rfl rfl) H fun x22 a H hE => ?_
        refine hE.qon (by rfl) (by rfl) ?_
        refine hE.qop (X.load hE rfl) H fun x23 a H hE => ?_
        refine hE.qon (by rfl) (by rfl) ?_
        refine hE.qpur (X.move hE rfl) fun a hE => ?_
        refine hE.qon (by rfl) (by rfl) ?_
        refine hE.qpur (X.move hE rfl) fun a hE => ?_
        refine hE.qon (by rfl) (by rfl) ?_
        refine hE.qpur (X.sub hE rfl rfl) fun a hE => ?_
        refine hE.qon (by rfl) (by rfl) ?_
        refine hE.qop (X.indexAddr hE rfl rfl) H fun x27 a H hE => ?_
        refine hE.qon (by rfl) (by rfl) ?_
        refine hE.qop (X.load hE rfl) H fun x28 a H hE => ?_
        refine hE.qon (by rfl) (by rfl) ?_
        obtain ⟨r, hc, H⟩ := H
        refine hE.qcall (fun w' => X.callF hE ent52 rfl rfl) hc fun a hE => ?_
        refine hE.qpur (X.pickT hE rfl rfl) fun a hE => ?_
        exact hr3 r _ H (hE.weak ⟨rfl, rfl, rfl, rfl, rfl, rfl, trivial⟩)
      · replace H := H.2 hbr3
        replace hE := hE.bool (b := false) (t := 19) rfl (decide_eq_false hbr3)
        refine hE.qoff (by rfl) (by rfl) (by decide) (fun a hE => ?_)
        refine hE.qoff (by rfl) (by rfl) (by decide) (fun a hE => ?_)
        refine hE.qoff (by rfl) (by rfl) (by decide) (fun a hE => ?_)
        refine hE.qoff (by rfl) (by rfl) (by decide) (fun a hE => ?_)
        refine hE.qoff (by rfl) (by rfl) (by decide) (fun a hE => ?_)
        refine hE.qoff (by rfl) (by rfl) (by decide) (fun a hE => ?_)
        refine hE.qoff (by rfl) (by rfl) (by decide) (fun a hE => ?_)
        refine hE.qoff (by rfl) (by rfl) (by decide) (fun a hE => ?_)
        refine hE.qoff (by rfl) (by rfl) (by decide) (fun a hE => ?_)
        refine hE.qoff (by rfl) (by rfl) (by decide) (fun a hE => ?_)
        refine hE.qpur (X.pickF hE rfl rfl) fun a hE => ?_
        exact hr3 false _ H (hE.weak ⟨rfl, rfl, rfl, rfl, rfl, rfl, trivial⟩)
  · replace H := H.2 hc
    exact C.exit (te (te (be (C.end0 hE rfl ⟨rfl, H⟩))))
/-! ### slices.heapSortOrdered[string]: function 47 -/
def V_slices_heapSortOrdered_string_j3 (x0 : Sl) (x1 : Int) (x10 : Int) (Kl2 : Int → World → Prop) (w : World) : Prop :=
  Cl Try.prog 57 [(Sl.v x0), (.int .i64 0), (.int .i64 x10), (.int .i64 x1)].toArray w (fun e w => e = .returned (.tuple [].toArray) ∧ (Kl2 (IntKind.wrap .i64 (x10 - 1)) w))
def V_slices_heapSortOrdered_string_l2b (x0 : Sl) (x1 : Int) (Ret : World → Prop) (x10 : Int) (w : World) (Kl2 : Int → World → Prop) : Prop :=
  ((0 ≤ x10) → (nextB w (fun w => opP Try.prog Value.pointer (Instr.indexAt 23 (Sl.v x0) (.int .i64 (IntKind.wrap .i64 (x1 + x10)))) (fun x43 => opP Try.prog Value.pointer (Instr.indexAt 23 (Sl.v x0) (.int .i64 x1)) (fun x47 => (opE Try.prog Value.string (Instr.loadAt 9 (.pointer x43)) w (fun x44 w => opE Try.prog Value.string (Instr.loadAt 9 (.pointer x47)) w (fun x48 w => opP Try.prog Value.pointer (Instr.indexAt 23 (Sl.v x0) (.int .i64 x1)) (fun x49 => opU Try.prog (Instr.storeAt 9 (.pointer x49) (.string x44)) w (fun w => opP Try.prog Value.pointer (Instr.indexAt 23 (Sl.v x0) (.int .i64 (IntKind.wrap .i64 (x1 + x10)))) (fun x50 => opU Try.prog (Instr.storeAt 9 (.pointer x50) (.string x48)) w (fun w => V_slices_heapSortOrdered_string_j3 x0 x1 x10 Kl2 w))))))) ∧ (opE Try.prog Value.string (Instr.loadAt 9 (.pointer x47)) w (fun x48_1 w => opE Try.prog Value.string (Instr.loadAt 9 (.pointer x43)) w (fun x44_1 w => opP Try.prog Value.pointer (Instr.indexAt 23 (Sl.v x0) (.int .i64 x1)) (fun x49_1 => opU Try.prog (Instr.storeAt 9 (.pointer x49_1) (.string x44_1)) w (fun w => opP Try.prog Value.pointer (Instr.indexAt 23 (Sl.v x0) (.int .i64 (IntKind.wrap .i64 (x1 + x10)))) (fun x50_1 => opU Try.prog (Instr.storeAt 9 (.pointer x50_1) (.string x48_1)) w (fun w => V_slices_heapSortOrdered_string_j3 x0 x1 x10 Kl2 w)))))))))))) ∧ (¬ (0 ≤ x10) → (Ret  w))
def V_slices_heapSortOrdered_string_l1b (x0 : Sl) (x1 : Int) (x2 : Int) (Ret : World → Prop) (x9 : Int) (w : World) (Kl1 : Int → World → Prop) : Prop :=
  ((0 ≤ x9) → (Cl Try.prog 57 [(Sl.v x0), (.int .i64 x9), (.int .i64 (IntKind.wrap .i64 (x2 - x1))), (.int .i64 x1)].toArray w (fun e w => e = .returned (.tuple [].toArray) ∧ (Kl1 (IntKind.wrap .i64 (x9 - 1)) w)))) ∧ (¬ (0 ≤ x9) → (∃ (I : Int → World → Prop) (μ : Int → World → Nat), I (IntKind.wrap .i64 ((IntKind.wrap .i64 (x2 - x1)) - 1)) w ∧ ∀ (x10 : Int) w, I x10 w → V_slices_heapSortOrdered_string_l2b x0 x1 Ret x10 w (fun x10' w' => I x10' w' ∧ μ x10' w' < μ x10 w)))
def V_slices_heapSortOrdered_string (x0 : Sl) (x1 : Int) (x2 : Int) (w : World) (Ret : World → Prop) : Prop :=
  opE Try.prog (Value.int .i64) (binOp .quo 3 (.int .i64 (IntKind.wrap .i64 ((IntKind.wrap .i64 (x2 - x1)) - 1))) (.int .i64 2)) w (fun x17 w => ∃ (I : Int → World → Prop) (μ : Int → World → Nat), I x17 w ∧ ∀ (x9 : Int) w, I x9 w → V_slices_heapSortOrdered_string_l1b x0 x1 x2 Ret x9 w (fun x9' w' => I x9' w' ∧ μ x9' w' < μ x9 w))
set_option maxRecDepth 100000 in
theorem L1_slices_heapSortOrdered_string (x0 : Sl) (x1 : Int) (x2 : Int) (w : World) (Ret : World → Prop) (H : V_slices_heapSortOrdered_string x0 x1 x2 w Ret) : Cl Try.prog 47 [(Sl.v x0), (.int .i64 x1), (.int .i64 x2)].toArray w (fun e w' => e = .returned (.tuple [].toArray) ∧ Ret  w') := by
  unfold V_slices_heapSortOrdered_string at H
  refine C.enter 56 (zipE 0 [(Sl.v x0), (.int .i64 x1), (.int .i64 x2)]) Try.func47 rfl rfl (by rfl) rfl ?_
  intro a hE
  replace hE : Sat [] 56 [(0, (Sl.v x0)), (1, (.int .i64 x1)), (2, (.int .i64 x2))] a := hE
  refine C.seq ?_
  refine C.region ?_
  refine hE.pur (X.move hE rfl) fun a hE => ?_
  refine hE.pur (X.assign hE rfl) fun a hE => ?_
  refine C.nil (tn ?_)
  refine C.seq ?_
  refine C.region ?_
  refine hE.pur (X.assign hE rfl) fun a hE => ?_
  refine C.nil (tn ?_)
  refine C.seq ?_
  refine C.region ?_
  refine hE.pur (X.move hE rfl) fun a hE => ?_
  refine hE.pur (X.move hE rfl) fun a hE => ?_
  refine hE.pur (X.sub hE rfl rfl) fun a hE => ?_
  refine hE.pur (X.assign hE rfl) fun a hE => ?_
  refine C.nil (tn ?_)
  refine C.seq ?_
  refine C.seq ?_
  refine C.region ?_
  refine hE.pur (X.move hE rfl) fun a hE => ?_
  refine hE.pur (X.sub hE rfl rfl) fun a hE => ?_
  refine hE.op (X.binG hE rfl rfl) H fun x17 w a H hE => ?_
  refine hE.pur (X.assign hE rfl) fun a hE => ?_
  refine C.nil (tn ?_)
  refine C.block ?_
  obtain ⟨I_l1, μ_l1, h0, hb⟩ := H
  refine C.loop (ds := []) (N := 56) (σ := Int) (fun s => [(9, (.int .i64 s)), (0, (Sl.v x0)), (6, (.int .i64 x1)), (7, (.int .i64 0)), (8, (.int .i64 (IntKind.wrap .i64 (x2 - x1))))]) (fun s w => I_l1 s w) (fun s w => μ_l1 s w) x17 h0 (hE.weak ⟨rfl, rfl, rfl, rfl, rfl, trivial⟩) ?_
  intro x9 w a hI hE
  try dsimp only at hI hE
  obtain ⟨Kl1, hK_l1⟩ : ∃ K : Int → World → Prop, K = (fun x9' w' => I_l1 x9' w' ∧ μ_l1 x9' w' < μ_l1 x9 w) := ⟨_, rfl⟩
  have H : V_slices_heapSortOrdered_string_l1b x0 x1 x2 Ret x9 w Kl1 := by rw [hK_l1]; exact hb x9 w hI
  clear hb h0 hI
  unfold V_slices_heapSortOrdered_string_l1b at H
  refine C.seq ?_
  refine C.seq ?_
  refine C.region ?_
  refine hE.pur (X.move hE rfl) fun a hE => ?_
  refine hE.pur (X.geI hE rfl rfl) fun a hE => ?_
  refine C.nil (tn ?_)
  refine C.condP hE rfl (fun hc => ?_) (fun hc => ?_)
  · replace H := H.1 hc
    refine C.skip (tn ?_)
    refine C.seq ?_
    refine C.block ?_
    refine C.region ?_
    refine hE.pur (X.move hE rfl) fun a hE => ?_
    refine hE.pur (X.move hE rfl) fun a hE => ?_
    refine hE.pur (X.move hE rfl) fun a hE => ?_
    refine hE.pur (X.move hE rfl) fun a hE => ?_
    refine hE.call (X.callF hE ent57 rfl rfl) H fun e w H => ?_
    obtain ⟨rfl, H⟩ := H
    refine ⟨_, rfl, fun a hE => ?_⟩
    refine C.nil (bn (tn ?_))
    refine C.region ?_
    refine hE.pur (X.move hE rfl) fun a hE => ?_
    refine hE.pur (X.sub hE rfl rfl) fun a hE => ?_
    refine hE.pur (X.assign hE rfl) fun a hE => ?_
    rw [hK_l1] at H
    exact C.nil (tn ⟨(IntKind.wrap .i64 (x9 - 1)), hE.weak ⟨rfl, rfl, rfl, rfl, rfl, trivial⟩, H⟩)
  · replace H := H.2 hc
    refine C.exit (te (te (be (tn ?_))))
    refine C.seq ?_
    refine C.region ?_
    refine hE.pur (X.move hE rfl) fun a hE => ?_
    refine hE.pur (X.sub hE rfl rfl) fun a hE => ?_
    refine hE.pur (X.assign hE rfl) fun a hE => ?_
    refine C.nil (tn ?_)
    refine C.block ?_
    obtain ⟨I_l2, μ_l2, h0, hb⟩ := H
    refine C.loop (ds := []) (N := 56) (σ := Int) (fun s => [(10, (.int .i64 s)), (0, (Sl.v x0)), (6, (.int .i64 x1)), (7, (.int .i64 0))]) (fun s w => I_l2 s w) (fun s w => μ_l2 s w) (IntKind.wrap .i64 ((IntKind.wrap .i64 (x2 - x1)) - 1)) h0 (hE.weak ⟨rfl, rfl, rfl, rfl, trivial⟩) ?_
    intro x10 w a hI hE
    try dsimp only at hI hE
    obtain ⟨Kl2, hK_l2⟩ : ∃ K : Int → World → Prop, K = (fun x10' w' => I_l2 x10' w' ∧ μ_l2 x10' w' < μ_l2 x10 w) := ⟨_, rfl⟩
    have H : V_slices_heapSortOrdered_string_l2b x0 x1 Ret x10 w Kl2 := by rw [hK_l2]; exact hb x10 w hI
    clear hb h0 hI
    unfold V_slices_heapSortOrdered_string_l2b at H
    refine C.seq ?_
    refine C.seq ?_
    refine C.region ?_
    refine hE.pur (X.move hE rfl) fun a hE => ?_
    refine hE.pur (X.geI hE rfl rfl) fun a hE => ?_
    refine C.nil (tn ?_)
    refine C.condP hE rfl (fun hc => ?_) (fun hc => ?_)
    · replace H := H.1 hc
      refine C.skip (tn ?_)
      refine C.seq ?_
      refine C.block ?_
      refine C.join (ds := []) (N := 56) (σ := Unit) (fun s => [(0, (Sl.v x0)), (6, (.int .i64 x1)), (7, (.int .i64 0)), (10, (.int .i64 x10))]) (fun s w => V_slices_heapSortOrdered_string_j3 x0 x1 x10 Kl2  w) ?_ (fun hj3 => ?_)
      · rintro ⟨⟩ w a H hE
        try dsimp only at H hE
        unfold V_slices_heapSortOrdered_string_j3 at H
        refine C.region ?_
        refine hE.pur (X.move hE rfl) fun a hE => ?_
        refine hE.pur (X.move hE rfl) fun a hE => ?_
        refine hE.pur (X.move hE rfl) fun a hE => ?_
        refine hE.pur (X.move hE rfl) fun a hE => ?_
        refine hE.call (X.callF hE ent57 rfl rfl) H fun e w H => ?_
        obtain ⟨rfl, H⟩ := H
        refine ⟨_, rfl, fun a hE => ?_⟩
        refine C.nil (bn (tn ?_))
        refine C.region ?_
        refine hE.pur (X.move hE rfl) fun a hE => ?_
        refine hE.pur (X.sub hE rfl rfl) fun a hE => ?_
        refine hE.pur (X.assign hE rfl) fun a hE => ?_
        rw [hK_l2] at H
        exact C.nil (tn ⟨(IntKind.wrap .i64 (x10 - 1)), hE.weak ⟨rfl, rfl, rfl, rfl, trivial⟩, H⟩)
      · refine C.any 20 #[false, false, false, false, false, false, false, false, false, false, false, false, false, false, false, false, false, false, false, false] (by kernel_rfl) (fun w hB => ?_)
        replace H := H w hB
        refine hE.apur (i := 0) (fun _ _ _ _ _ h => h) (by kernel_rfl) rfl (by kernel_rfl) (by kernel_rfl) (by rfl) (l2 := #[true, false, false, false, false, false, false, false, false, false, false, false, false, false, false, false, false, false, false, false]) (pn_run (X.move hE rfl)) fun a hE => ?_
        refine hE.apur (i := 1) (fun _ _ _ _ _ h => h) (by kernel_rfl) rfl (by kernel_rfl) (by kernel_rfl) (by rfl) (l2 := #[true, true, false, false, false, false, false, false, false, false, false, false, false, false, false, false, false, false, false, false]) (pn_run (X.move hE rfl)) fun a hE => ?_
        refine hE.apur (i := 2) (fun _ _ _ _ _ h => h) (by kernel_rfl) rfl (by kernel_rfl) (by kernel_rfl) (by rfl) (l2 := #[true, true, true, false, false, false, false, false, false, false, false, false, false, false, false, false, false, false, false, false]) (pn_run (X.move hE rfl)) fun a hE => ?_
        refine hE.apur (i := 3) (fun _ _ _ _ _ h => h) (by kernel_rfl) rfl (by kernel_rfl) (by kernel_rfl) (by rfl) (l2 := #[true, true, true, true, false, false, false, false, false, false, false, false, false, false, false, false, false, false, false, false]) (pn_run (X.move hE rfl)) fun a hE => ?_
        refine hE.apur (i := 4) (fun _ _ _ _ _ h => h) (by kernel_rfl) rfl (by kernel_rfl) (by kernel_rfl) (by rfl) (l2 := #[true, true, true, true, true, false, false, false, false, false, false, false, false, false, false, false, false, false, false, false]) (pn_run (X.move hE rfl)) fun a hE => ?_
        refine hE.apur (i := 5) (fun _ _ _ _ _ h => h) (by kernel_rfl) rfl (by kernel_rfl) (by kernel_rfl) (by rfl) (l2 := #[true, true, true, true, true, true, false, false, false, false, false, false, false, false, false, false, false, false, false, false]) (pn_run (X.add hE rfl rfl)) fun a hE => ?_
        refine hE.apur (i := 6) (fun _ _ _ _ _ h => h) (by kernel_rfl) rfl (by kernel_rfl) (by kernel_rfl) (by rfl) (l2 := #[true, true, true, true, true, true, true, false, false, false, false, false, false, false, false, false, false, false, false, false]) (pn_run (X.move hE rfl)) fun a hE => ?_
        refine hE.apur (i := 7) (fun _ _ _ _ _ h => h) (by kernel_rfl) rfl (by kernel_rfl) (by kernel_rfl) (by rfl) (l2 := #[true, true, true, true, true, true, true, true, false, false, false, false, false, false, false, false, false, false, false, false]) (pn_run (X.move hE rfl)) fun a hE => ?_
        refine hE.apur (i := 8) (fun _ _ _ _ _ h => h) (by kernel_rfl) rfl (by kernel_rfl) (by kernel_rfl) (by rfl) (l2 := #[true, true, true, true, true, true, true, true, true, false, false, false, false, false, false, false, false, false, false, false]) (pn_run (X.move hE rfl)) fun a hE => ?_
        refine hE.apur (i := 9) (fun _ _ _ _ _ h => h) (by kernel_rfl) rfl (by kernel_rfl) (by kernel_rfl) (by rfl) (l2 := #[true, true, true, true, true, true, true, true, true, true, false, false, false, false, false, false, false, false, false, false]) (pn_run (X.add hE rfl rfl)) fun a hE => ?_
        refine hE.aop (i := 10) (fun _ _ _ _ _ h => h) (by kernel_rfl) rfl (by kernel_rfl) (by kernel_rfl) (by rfl) (l2 := #[true, true, true, true, true, true, true, true, true, true, true, false, false, false, false, false, false, false, false, false]) (X.indexAddr hE rfl rfl) H fun x43 a H hE => ?_
        refine hE.apur (i := 12) (fun _ _ _ _ _ h => h) (by kernel_rfl) rfl (by kernel_rfl) (by kernel_rfl) (by rfl) (l2 := #[true, true, true, true, true, true, true, true, true, true, true, false, true, false, false, false, false, false, false, false]) (pn_run (X.move hE rfl)) fun a hE => ?_
        refine hE.apur (i := 13) (fun _ _ _ _ _ h => h) (by kernel_rfl) rfl (by kernel_rfl) (by kernel_rfl) (by rfl) (l2 := #[true, true, true, true, true, true, true, true, true, true, true, false, true, true, false, false, false, false, false, false]) (pn_run (X.move hE rfl)) fun a hE => ?_
        refine hE.aop (i := 14) (fun _ _ _ _ _ h => h) (by kernel_rfl) rfl (by kernel_rfl) (by kernel_rfl) (by rfl) (l2 := #[true, true, true, true, true, true, true, true, true, true, true, false, true, true, true, false, false, false, false, false]) (X.indexAddr hE rfl rfl) H fun x47 a H hE => ?_
        refine WA.two (i := 11) (j := 15) (l2 := #[true, true, true, true, true, true, true, true, true, true, true, true, true, true, true, false, false, false, false, false]) (l3 := #[true, true, true, true, true, true, true, true, true, true, true, false, true, true, true, true, false, false, false, false]) rfl rfl (by kernel_rfl) (by rfl) (by rfl) ?_ ?_
        · replace H := H.1
          intro K hK
          refine hE.wop (X.load hE rfl) H fun x44 w a H hE => ?_
          refine hK _ _ ?_
          refine WA.one (i := 15) (l2 := #[true, true, true, true, true, true, true, true, true, true, true, true, true, true, true, true, false, false, false, false]) rfl (by kernel_rfl) (by rfl) ?_
          intro K hK
          refine hE.wop (X.load hE rfl) H fun x48 w a H hE => ?_
          refine hK _ _ ?_
          refine hE.aop (i := 16) (fun _ _ _ _ _ h => h) (by kernel_rfl) rfl (by kernel_rfl) (by kernel_rfl) (by rfl) (l2 := #[true, true, true, true, true, true, true, true, true, true, true, true, true, true, true, true, true, false, false, false]) (X.indexAddr hE rfl rfl) H fun x49 a H hE => ?_
          refine WA.one (i := 17) (l2 := #[true, true, true, true, true, true, true, true, true, true, true, true, true, true, true, true, true, true, false, false]) rfl (by kernel_rfl) (by rfl) ?_
          intro K hK
          refine hE.wopu (X.store hE rfl rfl) H fun w a H hE => ?_
          refine hK _ _ ?_
          refine hE.aop (i := 18) (fun _ _ _ _ _ h => h) (by kernel_rfl) rfl (by kernel_rfl) (by kernel_rfl) (by rfl) (l2 := #[true, true, true, true, true, true, true, true, true, true, true, true, true, true, true, true, true, true, true, false]) (X.indexAddr hE rfl rfl) H fun x50 a H hE => ?_
          refine WA.one (i := 19) (l2 := #[true, true, true, true, true, true, true, true, true, true, true, true, true, true, true, true, true, true, true, true]) rfl (by kernel_rfl) (by rfl) ?_
          intro K hK
          refine hE.wopu (X.store hE rfl rfl) H fun w a H hE => ?_
          refine hK _ _ ?_
          refine WA.nil (by kernel_rfl) ?_
          exact (tn (hj3 () _ _ H (hE.weak ⟨rfl, rfl, rfl, rfl, trivial⟩)))
        · replace H := H.2
          intro K hK
          refine hE.wop (X.load hE rfl) H fun x48_1 w a H hE => ?_
          refine hK _ _ ?_
          refine WA.one (i := 11) (l2 := #[true, true, true, true, true, true, true, true, true, true, true, true, true, true, true, true, false, false, false, false]) rfl (by kernel_rfl) (by rfl) ?_
          intro K hK
          refine hE.wop (X.load hE rfl) H fun x44_1 w a H hE => ?_
          refine hK _ _ ?_
          refine hE.aop (i := 16) (fun _ _ _ _ _ h => h) (by kernel_rfl) rfl (by kernel_rfl) (by kernel_rfl) (by rfl) (l2 := #[true, true, true, true, true, true, true, true, true, true, true, true, true, true, true, true, true, false, false, false]) (X.indexAddr hE rfl rfl) H fun x49_1 a H hE => ?_
          refine WA.one (i := 17) (l2 := #[true, true, true, true, true, true, true, true, true, true, true, true, true, true, true, true, true, true, false, false]) rfl (by kernel_rfl) (by rfl) ?_
          intro K hK
          refine hE.wopu (X.store hE rfl rfl) H fun w a H hE => ?_
          refine hK _ _ ?_
          refine hE.aop (i := 18) (fun _ _ _ _ _ h => h) (by kernel_rfl) rfl (by kernel_rfl) (by kernel_rfl) (by rfl) (l2 := #[true, true, true, true, true, true, true, true, true, true, true, true, true, true, true, true, true, true, true, false]) (X.indexAddr hE rfl rfl) H fun x50_1 a H hE => ?_
          refine WA.one (i := 19) (l2 := #[true, true, true, true, true, true, true, true, true, true, true, true, true, true, true, true, true, true, true, true]) rfl (by kernel_rfl) (by rfl) ?_
          intro K hK
          refine hE.wopu (X.store hE rfl rfl) H fun w a H hE => ?_
          refine hK _ _ ?_
          refine WA.nil (by kernel_rfl) ?_
          exact (tn (hj3 () _ _ H (hE.weak ⟨rfl, rfl, rfl, rfl, trivial⟩)))
    · replace H := H.2 hc
      exact C.exit (te (te (be (C.end0 hE rfl ⟨rfl, H⟩))))
/-! ### slices.choosePivotOrdered[string]: function 49 -/
def V_slices_choosePivotOrdered_string_j1 (Ret : Int → Int → World → Prop) (x9 : Option Addr) (x11 : Int) (w : World) : Prop :=
  opE Try.prog (Value.int .i64) (Instr.loadAt 3 (.pointer x9)) w (fun x49 w => ((x49 = 0) → (Ret x11 1 w)) ∧ (¬ (x49 = 0) → (((x49 = 12) → (Ret x11 2 w)) ∧ (¬ (x49 = 12) → (Ret x11 0 w)))))
def V_slices_choosePivotOrdered_string_j2 (x0 : Sl) (Ret : Int → Int → World → Prop) (x9 : Option Addr) (x10 : Int) (x11_1 : Int) (x12 : Int) (w : World) : Prop :=
  Cl Try.prog 61 [(Sl.v x0), (.int .i64 x10), (.int .i64 x11_1), (.int .i64 x12), (.pointer x9)].toArray w (fun e w => ∃ (r : Int), e = .returned (.int .i64 r) ∧ (V_slices_choosePivotOrdered_string_j1 Ret x9 r w))
def V_slices_choosePivotOrdered_string (x0 : Sl) (x1 : Int) (x2 : Int) (w : World) (Ret : Int → Int → World → Prop) : Prop :=
  opE Try.prog Value.pointer (Instr.alloc 3 true (.tuple #[])) w (fun x9 w => opE Try.prog (Value.int .i64) (binOp .quo 3 (.int .i64 (IntKind.wrap .i64 (x2 - x1))) (.int .i64 4)) w (fun x18 w => opE Try.prog (Value.int .i64) (binOp .quo 3 (.int .i64 (IntKind.wrap .i64 (x2 - x1))) (.int .i64 4)) w (fun x23 w => opE Try.prog (Value.int .i64) (binOp .quo 3 (.int .i64 (IntKind.wrap .i64 (x2 - x1))) (.int .i64 4)) w (fun x28 w => ((8 ≤ (IntKind.wrap .i64 (x2 - x1))) → (((50 ≤ (IntKind.wrap .i64 (x2 - x1))) → (Cl Try.prog 60 [(Sl.v x0), (.int .i64 (IntKind.wrap .i64 (x1 + (IntKind.wrap .i64 (x18 * 1))))), (.pointer x9)].toArray w (fun e w => ∃ (r_1 : Int), e = .returned (.int .i64 r_1) ∧ (Cl Try.prog 60 [(Sl.v x0), (.int .i64 (IntKind.wrap .i64 (x1 + (IntKind.wrap .i64 (x23 * 2))))), (.pointer x9)].toArray w (fun e w => ∃ (r_2 : Int), e = .returned (.int .i64 r_2) ∧ (Cl Try.prog 60 [(Sl.v x0), (.int .i64 (IntKind.wrap .i64 (x1 + (IntKind.wrap .i64 (x28 * 3))))), (.pointer x9)].toArray w (fun e w => ∃ (r_3 : Int), e = .returned (.int .i64 r_3) ∧ (V_slices_choosePivotOrdered_string_j2 x0 Ret x9 r_1 r_2 r_3 w)))))))) ∧ (¬ (50 ≤ (IntKind.wrap .i64 (x2 - x1))) → (V_slices_choosePivotOrdered_string_j2 x0 Ret x9 (IntKind.wrap .i64 (x1 + (IntKind.wrap .i64 (x18 * 1)))) (IntKind.wrap .i64 (x1 + (IntKind.wrap .i64 (x23 * 2)))) (IntKind.wrap .i64 (x1 + (IntKind.wrap .i64 (x28 * 3)))) w)))) ∧ (¬ (8 ≤ (IntKind.wrap .i64 (x2 - x1))) → (V_slices_choosePivotOrdered_string_j1 Ret x9 (IntKind.wrap .i64 (x1 + (IntKind.wrap .i64 (x23 * 2)))) w))))))
set_option maxRecDepth 100000 in
theorem L1_slices_choosePivotOrdered_string (x0 : Sl) (x1 : Int) (x2 : Int) (w : World) (Ret : Int → Int → World → Prop) (H : V_slices_choosePivotOrdered_string x0 x1 x2 w Ret) : Cl Try.prog 49 [(Sl.v x0), (.int .i64 x1), (.int .i64 x2)].toArray w (fun e w' => ∃ (r0 : Int) (r1 : Int), e = .returned (.tuple [(.int .i64 r0), (.int .i64 r1)].toArray) ∧ Ret r0 r1 w') := by
  unfold V_slices_choosePivotOrdered_string at H
  refine C.enter 57 (zipE 0 [(Sl.v x0), (.int .i64 x1), (.int .i64 x2)]) Try.func49 rfl rfl (by rfl) rfl ?_
  intro a hE
  replace hE : Sat [] 57 [(0, (Sl.v x0)), (1, (.int .i64 x1)), (2, (.int .i64 x2))] a := hE
  refine C.seq ?_
  refine C.region ?_
  refine hE.pur (X.assign hE rfl) fun a hE => ?_
  refine hE.pur (X.assign hE rfl) fun a hE => ?_
  refine C.nil (tn ?_)
  refine C.seq ?_
  refine C.region ?_
  refine hE.pur (X.move hE rfl) fun a hE => ?_
  refine hE.pur (X.move hE rfl) fun a hE => ?_
  refine hE.pur (X.sub hE rfl rfl) fun a hE => ?_
  refine hE.pur (X.assign hE rfl) fun a hE => ?_
  refine C.nil (tn ?_)
  refine C.seq ?_
  refine C.region ?_
  refine hE.op (X.alloc) H fun x9 w a H hE => ?_
  refine C.nil (tn ?_)
  refine C.seq ?_
  refine C.region ?_
  refine hE.pur (X.move hE rfl) fun a hE => ?_
  refine hE.pur (X.move hE rfl) fun a hE => ?_
  refine hE.op (X.binG hE rfl rfl) H fun x18 w a H hE => ?_
  refine hE.pur (X.mul hE rfl rfl) fun a hE => ?_
  refine hE.pur (X.add hE rfl rfl) fun a hE => ?_
  refine hE.pur (X.assign hE rfl) fun a hE => ?_
  refine C.nil (tn ?_)
  refine C.seq ?_
  refine C.region ?_
  refine hE.pur (X.move hE rfl) fun a hE => ?_
  refine hE.pur (X.move hE rfl) fun a hE => ?_
  refine hE.op (X.binG hE rfl rfl) H fun x23 w a H hE => ?_
  refine hE.pur (X.mul hE rfl rfl) fun a hE => ?_
  refine hE.pur (X.add hE rfl rfl) fun a hE => ?_
  refine hE.pur (X.assign hE rfl) fun a hE => ?_
  refine C.nil (tn ?_)
  refine C.seq ?_
  refine C.region ?_
  refine hE.pur (X.move hE rfl) fun a hE => ?_
  refine hE.pur (X.move hE rfl) fun a hE => ?_
  refine hE.op (X.binG hE rfl rfl) H fun x28 w a H hE => ?_
  refine hE.pur (X.mul hE rfl rfl) fun a hE => ?_
  refine hE.pur (X.add hE rfl rfl) fun a hE => ?_
  refine hE.pur (X.assign hE rfl) fun a hE => ?_
  refine C.nil (tn ?_)
  refine C.join (ds := []) (N := 57) (σ := Int) (fun s => [(11, (.int .i64 s)), (9, (.pointer x9))]) (fun s w => V_slices_choosePivotOrdered_string_j1 Ret x9 s w) ?_ (fun hj1 => ?_)
  · intro x11 w a H hE
    try dsimp only at H hE
    unfold V_slices_choosePivotOrdered_string_j1 at H
    refine C.seq ?_
    refine C.region ?_
    refine hE.op (X.load hE rfl) H fun x49 w a H hE => ?_
    refine C.nil (tn ?_)
    refine C.block ?_
    refine C.seq ?_
    refine C.region ?_
    refine hE.pur (X.eqI hE rfl rfl) fun a hE => ?_
    refine hE.pur (X.assign hE rfl) fun a hE => ?_
    refine C.nil (tn ?_)
    refine C.condP hE rfl (fun hc => ?_) (fun hc => ?_)
    · replace H := H.1 hc
      refine C.seq ?_
      refine C.region ?_
      refine hE.pur (X.move hE rfl) fun a hE => ?_
      refine hE.pur (X.assign hE rfl) fun a hE => ?_
      refine hE.pur (X.assign hE rfl) fun a hE => ?_
      refine C.nil (tn ?_)
      exact C.ret (br (C.ret2 hE rfl rfl rfl ⟨_, _, rfl, H⟩))
    · replace H := H.2 hc
      refine C.seq ?_
      refine C.region ?_
      refine hE.pur (X.eqI hE rfl rfl) fun a hE => ?_
      refine hE.pur (X.assign hE rfl) fun a hE => ?_
      refine C.nil (tn ?_)
      refine C.condP hE rfl (fun hc => ?_) (fun hc => ?_)
      · replace H := H.1 hc
        refine C.seq ?_
        refine C.region ?_
        refine hE.pur (X.move hE rfl) fun a hE => ?_
        refine hE.pur (X.assign hE rfl) fun a hE => ?_
        refine hE.pur (X.assign hE rfl) fun a hE => ?_
        refine C.nil (tn ?_)
        exact C.ret (br (C.ret2 hE rfl rfl rfl ⟨_, _, rfl, H⟩))
      · replace H := H.2 hc
        refine C.seq ?_
        refine C.region ?_
        refine hE.pur (X.move hE rfl) fun a hE => ?_
        refine hE.pur (X.assign hE rfl) fun a hE => ?_
        refine hE.pur (X.assign hE rfl) fun a hE => ?_
        refine C.nil (tn ?_)
        exact C.ret (br (C.ret2 hE rfl rfl rfl ⟨_, _, rfl, H⟩))
  · refine C.seq ?_
    refine C.region ?_
    refine hE.pur (X.move hE rfl) fun a hE => ?_
    refine hE.pur (X.geI hE rfl rfl) fun a hE => ?_
    refine C.nil (tn ?_)
    refine C.condP hE rfl (fun hc => ?_) (fun hc => ?_)
    · replace H := H.1 hc
      refine C.join (ds := []) (N := 57) (σ := Int × Int × Int) (fun s => [(10, (.int .i64 s.1)), (11, (.int .i64 s.2.1)), (12, (.int .i64 s.2.2)), (0, (Sl.v x0)), (9, (.pointer x9))]) (fun s w => V_slices_choosePivotOrdered_string_j2 x0 Ret x9 s.1 s.2.1 s.2.2 w) ?_ (fun hj2 => ?_)
      · rintro ⟨x10, x11_1, x12⟩ w a H hE
        try dsimp only at H hE
        unfold V_slices_choosePivotOrdered_string_j2 at H
        refine C.region ?_
        refine hE.pur (X.move hE rfl) fun a hE => ?_
        refine hE.pur (X.move hE rfl) fun a hE => ?_
        refine hE.pur (X.move hE rfl) fun a hE => ?_
        refine hE.pur (X.move hE rfl) fun a hE => ?_
        refine hE.call (X.callF hE ent61 rfl rfl) H fun e w H => ?_
        obtain ⟨r, rfl, H⟩ := H
        refine ⟨_, rfl, fun a hE => ?_⟩
        refine hE.pur (X.assign hE rfl) fun a hE => ?_
        exact C.nil (tn (hj1 r _ _ H (hE.weak ⟨rfl, rfl, trivial⟩)))
      · refine C.seq ?_
        refine C.region ?_
        refine hE.pur (X.move hE rfl) fun a hE => ?_
        refine hE.pur (X.geI hE rfl rfl) fun a hE => ?_
        refine C.nil (tn ?_)
        refine C.condP hE rfl (fun hc => ?_) (fun hc => ?_)
        · replace H := H.1 hc
          refine C.seq ?_
          refine C.region ?_
          refine hE.pur (X.move hE rfl) fun a hE => ?_
          refine hE.pur (X.move hE rfl) fun a hE => ?_
          refine hE.call (X.callF hE ent60 rfl rfl) H fun e w H => ?_
          obtain ⟨r_1, rfl, H⟩ := H
          refine ⟨_, rfl, fun a hE => ?_⟩
          refine hE.pur (X.assign hE rfl) fun a hE => ?_
          refine C.nil (tn ?_)
          refine C.seq ?_
          refine C.region ?_
          refine hE.pur (X.move hE rfl) fun a hE => ?_
          refine hE.pur (X.move hE rfl) fun a hE => ?_
          refine hE.call (X.callF hE ent60 rfl rfl) H fun e w H => ?_
          obtain ⟨r_2, rfl, H⟩ := H
          refine ⟨_, rfl, fun a hE => ?_⟩
          refine hE.pur (X.assign hE rfl) fun a hE => ?_
          refine C.nil (tn ?_)
          refine C.region ?_
          refine hE.pur (X.move hE rfl) fun a hE => ?_
          refine hE.pur (X.move hE rfl) fun a hE => ?_
          refine hE.call (X.callF hE ent60 rfl rfl) H fun e w H => ?_
          obtain ⟨r_3, rfl, H⟩ := H
          refine ⟨_, rfl, fun a hE => ?_⟩
          refine hE.pur (X.assign hE rfl) fun a hE => ?_
          exact C.nil (tn (hj2 (r_1, r_2, r_3) _ _ H (hE.weak ⟨rfl, rfl, rfl, rfl, rfl, trivial⟩)))
        · replace H := H.2 hc
          exact C.skip (tn (hj2 ((IntKind.wrap .i64 (x1 + (IntKind.wrap .i64 (x18 * 1)))), (IntKind.wrap .i64 (x1 + (IntKind.wrap .i64 (x23 * 2)))), (IntKind.wrap .i64 (x1 + (IntKind.wrap .i64 (x28 * 3))))) _ _ H (hE.weak ⟨rfl, rfl, rfl, rfl, rfl, trivial⟩)))
    · replace H := H.2 hc
      exact C.skip (tn (hj1 (IntKind.wrap .i64 (x1 + (IntKind.wrap .i64 (x23 * 2)))) _ _ H (hE.weak ⟨rfl, rfl, trivial⟩)))
/-! ### slices.reverseRangeOrdered[string]: function 50 -/
def V_slices_reverseRangeOrdered_string_j2 (x6 : Int) (x7 : Int) (Kl1 : Int → Int → World → Prop) (w : World) : Prop :=
  Kl1 (IntKind.wrap .i64 (x6 + 1)) (IntKind.wrap .i64 (x7 - 1)) w
def V_slices_reverseRangeOrdered_string_l1b (x0 : Sl) (Ret : World → Prop) (x6 : Int) (x7 : Int) (w : World) (Kl1 : Int → Int → World → Prop) : Prop :=
  ((x6 < x7) → (nextB w (fun w => opP Try.prog Value.pointer (Instr.indexAt 23 (Sl.v x0) (.int .i64 x7)) (fun x20 => opP Try.prog Value.pointer (Instr.indexAt 23 (Sl.v x0) (.int .i64 x6)) (fun x24 => (opE Try.prog Value.string (Instr.loadAt 9 (.pointer x20)) w (fun x21 w => opE Try.prog Value.string (Instr.loadAt 9 (.pointer x24)) w (fun x25 w => opP Try.prog Value.pointer (Instr.indexAt 23 (Sl.v x0) (.int .i64 x6)) (fun x26 => opU Try.prog (Instr.storeAt 9 (.pointer x26) (.string x21)) w (fun w => opP Try.prog Value.pointer (Instr.indexAt 23 (Sl.v x0) (.int .i64 x7)) (fun x27 => opU Try.prog (Instr.storeAt 9 (.pointer x27) (.string x25)) w (fun w => V_slices_reverseRangeOrdered_string_j2 x6 x7 Kl1 w))))))) ∧ (opE Try.prog Value.string (Instr.loadAt 9 (.pointer x24)) w (fun x25_1 w => opE Try.prog Value.string (Instr.loadAt 9 (.pointer x20)) w (fun x21_1 w => opP Try.prog Value.pointer (Instr.indexAt 23 (Sl.v x0) (.int .i64 x6)) (fun x26_1 => opU Try.prog (Instr.storeAt 9 (.pointer x26_1) (.string x21_1)) w (fun w => opP Try.prog Value.pointer (Instr.indexAt 23 (Sl.v x0) (.int .i64 x7)) (fun x27_1 => opU Try.prog (Instr.storeAt 9 (.pointer x27_1) (.string x25_1)) w (fun w => V_slices_reverseRangeOrdered_string_j2 x6 x7 Kl1 w)))))))))))) ∧ (¬ (x6 < x7) → (Ret  w))
def V_slices_reverseRangeOrdered_string (x0 : Sl) (x1 : Int) (x2 : Int) (w : World) (Ret : World → Prop) : Prop :=
  ∃ (I : Int → Int → World → Prop) (μ : Int → Int → World → Nat), I x1 (IntKind.wrap .i64 (x2 - 1)) w ∧ ∀ (x6 : Int) (x7 : Int) w, I x6 x7 w → V_slices_reverseRangeOrdered_string_l1b x0 Ret x6 x7 w (fun x6' x7' w' => I x6' x7' w' ∧ μ x6' x7' w' < μ x6 x7 w)
set_option maxRecDepth 100000 in
theorem L1_slices_reverseRangeOrdered_string (x0 : Sl) (x1 : Int) (x2 : Int) (w : World) (Ret : World → Prop) (H : V_slices_reverseRangeOrdered_string x0 x1 x2 w Ret) : Cl Try.prog 50 [(Sl.v x0), (.int .i64 x1), (.int .i64 x2)].toArray w (fun e w' => e = .returned (.tuple [].toArray) ∧ Ret  w') := by
  unfold V_slices_reverseRangeOrdered_string at H
  refine C.enter 32 (zipE 0 [(Sl.v x0), (.int .i64 x1), (.int .i64 x2)]) Try.func50 rfl rfl (by rfl) rfl ?_
  intro a hE
  replace hE : Sat [] 32 [(0, (Sl.v x0)), (1, (.int .i64 x1)), (2, (.int .i64 x2))] a := hE
  refine C.seq ?_
  refine C.region ?_
  refine hE.pur (X.move hE rfl) fun a hE => ?_
  refine hE.pur (X.assign hE rfl) fun a hE => ?_
  refine C.nil (tn ?_)
  refine C.seq ?_
  refine C.region ?_
  refine hE.pur (X.move hE rfl) fun a hE => ?_
  refine hE.pur (X.sub hE rfl rfl) fun a hE => ?_
  refine hE.pur (X.assign hE rfl) fun a hE => ?_
  refine C.nil (tn ?_)
  refine C.block ?_
  obtain ⟨I_l1, μ_l1, h0, hb⟩ := H
  refine C.loop (ds := []) (N := 32) (σ := Int × Int) (fun s => [(6, (.int .i64 s.1)), (7, (.int .i64 s.2)), (0, (Sl.v x0))]) (fun s w => I_l1 s.1 s.2 w) (fun s w => μ_l1 s.1 s.2 w) (x1, (IntKind.wrap .i64 (x2 - 1))) h0 (hE.weak ⟨rfl, rfl, rfl, trivial⟩) ?_
  rintro ⟨x6, x7⟩ w a hI hE
  try dsimp only at hI hE
  obtain ⟨Kl1, hK_l1⟩ : ∃ K : Int → Int → World → Prop, K = (fun x6' x7' w' => I_l1 x6' x7' w' ∧ μ_l1 x6' x7' w' < μ_l1 x6 x7 w) := ⟨_, rfl⟩
  have H : V_slices_reverseRangeOrdered_string_l1b x0 Ret x6 x7 w Kl1 := by rw [hK_l1]; exact hb x6 x7 w hI
  clear hb h0 hI
  unfold V_slices_reverseRangeOrdered_string_l1b at H
  refine C.seq ?_
  refine C.seq ?_
  refine C.region ?_
  refine hE.pur (X.move hE rfl) fun a hE => ?_
  refine hE.pur (X.move hE rfl) fun a hE => ?_
  refine hE.pur (X.ltI hE rfl rfl) fun a hE => ?_
  refine C.nil (tn ?_)
  refine C.condP hE rfl (fun hc => ?_) (fun hc => ?_)
  · replace H := H.1 hc
    refine C.skip (tn ?_)
    refine C.block ?_
    refine C.join (ds := []) (N := 32) (σ := Unit) (fun s => [(0, (Sl.v x0)), (6, (.int .i64 x6)), (7, (.int .i64 x7))]) (fun s w => V_slices_reverseRangeOrdered_string_j2 x6 x7 Kl1  w) ?_ (fun hj2 => ?_)
    · rintro ⟨⟩ w a H hE
      try dsimp only at H hE
      unfold V_slices_reverseRangeOrdered_string_j2 at H
      refine C.seq ?_
      refine C.region ?_
      refine hE.pur (X.move hE rfl) fun a hE => ?_
      refine hE.pur (X.add hE rfl rfl) fun a hE => ?_
      refine hE.pur (X.assign hE rfl) fun a hE => ?_
      refine C.nil (tn ?_)
      refine C.region ?_
      refine hE.pur (X.move hE rfl) fun a hE => ?_
      refine hE.pur (X.sub hE rfl rfl) fun a hE => ?_
      refine hE.pur (X.assign hE rfl) fun a hE => ?_
      rw [hK_l1] at H
      exact C.nil (bn (tn ⟨((IntKind.wrap .i64 (x6 + 1)), (IntKind.wrap .i64 (x7 - 1))), hE.weak ⟨rfl, rfl, rfl, trivial⟩, H⟩))
    · refine C.any 16 #[false, false, false, false, false, false, false, false, false, false, false, false, false, false, false, false] (by kernel_rfl) (fun w hB => ?_)
      replace H := H w hB
      refine hE.apur (i := 0) (fun _ _ _ _ _ h => h) (by kernel_rfl) rfl (by kernel_rfl) (by kernel_rfl) (by rfl) (l2 := #[true, false, false, false, false, false, false, false, false, false, false, false, false, false, false, false]) (pn_run (X.move hE rfl)) fun a hE => ?_
      refine hE.apur (i := 1) (fun _ _ _ _ _ h => h) (by kernel_rfl) rfl (by kernel_rfl) (by kernel_rfl) (by rfl) (l2 := #[true, true, false, false, false, false, false, false, false, false, false, false, false, false, false, false]) (pn_run (X.move hE rfl)) fun a hE => ?_
      refine hE.apur (i := 2) (fun _ _ _ _ _ h => h) (by kernel_rfl) rfl (by kernel_rfl) (by kernel_rfl) (by rfl) (l2 := #[true, true, true, false, false, false, false, false, false, false, false, false, false, false, false, false]) (pn_run (X.move hE rfl)) fun a hE => ?_
      refine hE.apur (i := 3) (fun _ _ _ _ _ h => h) (by kernel_rfl) rfl (by kernel_rfl) (by kernel_rfl) (by rfl) (l2 := #[true, true, true, true, false, false, false, false, false, false, false, false, false, false, false, false]) (pn_run (X.move hE rfl)) fun a hE => ?_
      refine hE.apur (i := 4) (fun _ _ _ _ _ h => h) (by kernel_rfl) rfl (by kernel_rfl) (by kernel_rfl) (by rfl) (l2 := #[true, true, true, true, true, false, false, false, false, false, false, false, false, false, false, false]) (pn_run (X.move hE rfl)) fun a hE => ?_
      refine hE.apur (i := 5) (fun _ _ _ _ _ h => h) (by kernel_rfl) rfl (by kernel_rfl) (by kernel_rfl) (by rfl) (l2 := #[true, true, true, true, true, true, false, false, false, false, false, false, false, false, false, false]) (pn_run (X.move hE rfl)) fun a hE => ?_
      refine hE.aop (i := 6) (fun _ _ _ _ _ h => h) (by kernel_rfl) rfl (by kernel_rfl) (by kernel_rfl) (by rfl) (l2 := #[true, true, true, true, true, true, true, false, false, false, false, false, false, false, false, false]) (X.indexAddr hE rfl rfl) H fun x20 a H hE => ?_
      refine hE.apur (i := 8) (fun _ _ _ _ _ h => h) (by kernel_rfl) rfl (by kernel_rfl) (by kernel_rfl) (by rfl) (l2 := #[true, true, true, true, true, true, true, false, true, false, false, false, false, false, false, false]) (pn_run (X.move hE rfl)) fun a hE => ?_
      refine hE.apur (i := 9) (fun _ _ _ _ _ h => h) (by kernel_rfl) rfl (by kernel_rfl) (by kernel_rfl) (by rfl) (l2 := #[true, true, true, true, true, true, true, false, true, true, false, false, false, false, false, false]) (pn_run (X.move hE rfl)) fun a hE => ?_
      refine hE.aop (i := 10) (fun _ _ _ _ _ h => h) (by kernel_rfl) rfl (by kernel_rfl) (by kernel_rfl) (by rfl) (l2 := #[true, true, true, true, true, true, true, false, true, true, true, false, false, false, false, false]) (X.indexAddr hE rfl rfl) H fun x24 a H hE => ?_
      refine WA.two (i := 7) (j := 11) (l2 := #[true, true, true, true, true, true, true, true, true, true, true, false, false, false, false, false]) (l3 := #[true, true, true, true, true, true, true, false, true, true, true, true, false, false, false, false]) rfl rfl (by kernel_rfl) (by rfl) (by rfl) ?_ ?_
      · replace H := H.1
        intro K hK
        refine hE.wop (X.load hE rfl) H fun x21 w a H hE => ?_
        refine hK _ _ ?_
        refine WA.one (i := 11) (l2 := #[true, true, true, true, true, true, true, true, true, true, true, true, false, false, false, false]) rfl (by kernel_rfl) (by rfl) ?_
        intro K hK
        refine hE.wop (X.load hE rfl) H fun x25 w a H hE => ?_
        refine hK _ _ ?_
        refine hE.aop (i := 12) (fun _ _ _ _ _ h => h) (by kernel_rfl) rfl (by kernel_rfl) (by kernel_rfl) (by rfl) (l2 := #[true, true, true, true, true, true, true, true, true, true, true, true, true, false, false, false]) (X.indexAddr hE rfl rfl) H fun x26 a H hE => ?_
        refine WA.one (i := 13) (l2 := #[true, true, true, true, true, true, true, true, true, true, true, true, true, true, false, false]) rfl (by kernel_rfl) (by rfl) ?_
        intro K hK
        refine hE.wopu (X.store hE rfl rfl) H fun w a H hE => ?_
        refine hK _ _ ?_
        refine hE.aop (i := 14) (fun _ _ _ _ _ h => h) (by kernel_rfl) rfl (by kernel_rfl) (by kernel_rfl) (by rfl) (l2 := #[true, true, true, true, true, true, true, true, true, true, true, true, true, true, true, false]) (X.indexAddr hE rfl rfl) H fun x27 a H hE => ?_
        refine WA.one (i := 15) (l2 := #[true, true, true, true, true, true, true, true, true, true, true, true, true, true, true, true]) rfl (by kernel_rfl) (by rfl) ?_
        intro K hK
        refine hE.wopu (X.store hE rfl rfl) H fun w a H hE => ?_
        refine hK _ _ ?_
        refine WA.nil (by kernel_rfl) ?_
        exact (tn (hj2 () _ _ H (hE.weak ⟨rfl, rfl, rfl, trivial⟩)))
      · replace H := H.2
        intro K hK
        refine hE.wop (X.load hE rfl) H fun x25_1 w a H hE => ?_
        refine hK _ _ ?_
        refine WA.one (i := 7) (l2 := #[true, true, true, true, true, true, true, true, true, true, true, true, false, false, false, false]) rfl (by kernel_rfl) (by rfl) ?_
        intro K hK
        refine hE.wop (X.load hE rfl) H fun x21_1 w a H hE => ?_
        refine hK _ _ ?_
        refine hE.aop (i := 12) (fun _ _ _ _ _ h => h) (by kernel_rfl) rfl (by kernel_rfl) (by kernel_rfl) (by rfl) (l2 := #[true, true, true, true, true, true, true, true, true, true, true, true, true, false, false, false]) (X.indexAddr hE rfl rfl) H fun x26_1 a H hE => ?_
        refine WA.one (i := 13) (l2 := #[true, true, true, true, true, true, true, true, true, true, true, true, true, true, false, false]) rfl (by kernel_rfl) (by rfl) ?_
        intro K hK
        refine hE.wopu (X.store hE rfl rfl) H fun w a H hE => ?_
        refine hK _ _ ?_
        refine hE.aop (i := 14) (fun _ _ _ _ _ h => h) (by kernel_rfl) rfl (by kernel_rfl) (by kernel_rfl) (by rfl) (l2 := #[true, true, true, true, true, true, true, true, true, true, true, true, true, true, true, false]) (X.indexAddr hE rfl rfl) H fun x27_1 a H hE => ?_
        refine WA.one (i := 15) (l2 := #[true, true, true, true, true, true, true, true, true, true, true, true, true, true, true, true]) rfl (by kernel_rfl) (by rfl) ?_
        intro K hK
        refine hE.wopu (X.store hE rfl rfl) H fun w a H hE => ?_
        refine hK _ _ ?_
        refine WA.nil (by kernel_rfl) ?_
        exact (tn (hj2 () _ _ H (hE.weak ⟨rfl, rfl, rfl, trivial⟩)))
  · replace H := H.2 hc
    exact C.exit (te (te (be (C.end0 hE rfl ⟨rfl, H⟩))))
/-! ### slices.partialInsertionSortOrdered[string]: function 51 -/
def V_slices_partialInsertionSortOrdered_string_j2 (x8 : Int) (Kl1 : Int → Int → World → Prop) (x7_1 : Int) (w : World) : Prop :=
  Kl1 x7_1 (IntKind.wrap .i64 (x8 + 1)) w
def V_slices_partialInsertionSortOrdered_string_j8 (x10 : Int) (Kl7 : Int → World → Prop) (w : World) : Prop :=
  Kl7 (IntKind.wrap .i64 (x10 + 1)) w
def V_slices_partialInsertionSortOrdered_string_l7b (x0 : Sl) (x2 : Int) (x8 : Int) (Kl1 : Int → Int → World → Prop) (x7_2 : Int) (x10 : Int) (w : World) (Kl7 : Int → World → Prop) : Prop :=
  ((x10 < x2) → (opB Try.prog Value.pointer (Instr.indexAt 23 (Sl.v x0) (.int .i64 x10)) w (fun x108 => opB Try.prog Value.string (Instr.loadAt 9 (.pointer x108)) w (fun x109 => opB Try.prog Value.pointer (Instr.indexAt 23 (Sl.v x0) (.int .i64 (IntKind.wrap .i64 (x10 - 1)))) w (fun x113 => opB Try.prog Value.string (Instr.loadAt 9 (.pointer x113)) w (fun x114 => ∃ (r : Bool), (∀ w', Bel w w' → Cl Try.prog 52 [(.string x109), (.string x114)].toArray w' (fun e w'' => e = .returned (.bool r) ∧ Bel w' w'')) ∧ (nextB w (fun w => ((!r) = true → (V_slices_partialInsertionSortOrdered_string_j2 x8 Kl1 x7_2 w)) ∧ ((!r) = false → (nextB w (fun w => opP Try.prog Value.pointer (Instr.indexAt 23 (Sl.v x0) (.int .i64 (IntKind.wrap .i64 (x10 - 1)))) (fun x125 => opP Try.prog Value.pointer (Instr.indexAt 23 (Sl.v x0) (.int .i64 x10)) (fun x129 => (opE Try.prog Value.string (Instr.loadAt 9 (.pointer x125)) w (fun x126 w => opE Try.prog Value.string (Instr.loadAt 9 (.pointer x129)) w (fun x130 w => opP Try.prog Value.pointer (Instr.indexAt 23 (Sl.v x0) (.int .i64 x10)) (fun x131 => opU Try.prog (Instr.storeAt 9 (.pointer x131) (.string x126)) w (fun w => opP Try.prog Value.pointer (Instr.indexAt 23 (Sl.v x0) (.int .i64 (IntKind.wrap .i64 (x10 - 1)))) (fun x132 => opU Try.prog (Instr.storeAt 9 (.pointer x132) (.string x130)) w (fun w => V_slices_partialInsertionSortOrdered_string_j8 x10 Kl7 w))))))) ∧ (opE Try.prog Value.string (Instr.loadAt 9 (.pointer x129)) w (fun x130_1 w => opE Try.prog Value.string (Instr.loadAt 9 (.pointer x125)) w (fun x126_1 w => opP Try.prog Value.pointer (Instr.indexAt 23 (Sl.v x0) (.int .i64 x10)) (fun x131_1 => opU Try.prog (Instr.storeAt 9 (.pointer x131_1) (.string x126_1)) w (fun w => opP Try.prog Value.pointer (Instr.indexAt 23 (Sl.v x0) (.int .i64 (IntKind.wrap .i64 (x10 - 1)))) (fun x132_1 => opU Try.prog (Instr.storeAt 9 (.pointer x132_1) (.string x130_1)) w (fun w => V_slices_partialInsertionSortOrdered_string_j8 x10 Kl7 w)))))))))))))))))))) ∧ (¬ (x10 < x2) → (V_slices_partialInsertionSortOrdered_string_j2 x8 Kl1 x7_2 w))
def V_slices_partialInsertionSortOrdered_string_j6 (x0 : Sl) (x2 : Int) (x8 : Int) (Kl1 : Int → Int → World → Prop) (x7_2 : Int) (w : World) : Prop :=
  ((2 ≤ (IntKind.wrap .i64 (x2 - x7_2))) → (∃ (I : Int → World → Prop) (μ : Int → World → Nat), I (IntKind.wrap .i64 (x7_2 + 1)) w ∧ ∀ (x10 : Int) w, I x10 w → V_slices_partialInsertionSortOrdered_string_l7b x0 x2 x8 Kl1 x7_2 x10 w (fun x10' w' => I x10' w' ∧ μ x10' w' < μ x10 w))) ∧ (¬ (2 ≤ (IntKind.wrap .i64 (x2 - x7_2))) → (V_slices_partialInsertionSortOrdered_string_j2 x8 Kl1 x7_2 w))
def V_slices_partialInsertionSortOrdered_string_j10 (x9 : Int) (Kl9 : Int → World → Prop) (w : World) : Prop :=
  Kl9 (IntKind.wrap .i64 (x9 - 1)) w
def V_slices_partialInsertionSortOrdered_string_l9b (x0 : Sl) (x2 : Int) (x8 : Int) (Kl1 : Int → Int → World → Prop) (x7_2 : Int) (x9 : Int) (w : World) (Kl9 : Int → World → Prop) : Prop :=
  ((1 ≤ x9) → (opB Try.prog Value.pointer (Instr.indexAt 23 (Sl.v x0) (.int .i64 x9)) w (fun x70 => opB Try.prog Value.string (Instr.loadAt 9 (.pointer x70)) w (fun x71 => opB Try.prog Value.pointer (Instr.indexAt 23 (Sl.v x0) (.int .i64 (IntKind.wrap .i64 (x9 - 1)))) w (fun x75 => opB Try.prog Value.string (Instr.loadAt 9 (.pointer x75)) w (fun x76 => ∃ (r_1 : Bool), (∀ w', Bel w w' → Cl Try.prog 52 [(.string x71), (.string x76)].toArray w' (fun e w'' => e = .returned (.bool r_1) ∧ Bel w' w'')) ∧ (nextB w (fun w => ((!r_1) = true → (V_slices_partialInsertionSortOrdered_string_j6 x0 x2 x8 Kl1 x7_2 w)) ∧ ((!r_1) = false → (nextB w (fun w => opP Try.prog Value.pointer (Instr.indexAt 23 (Sl.v x0) (.int .i64 (IntKind.wrap .i64 (x9 - 1)))) (fun x87 => opP Try.prog Value.pointer (Instr.indexAt 23 (Sl.v x0) (.int .i64 x9)) (fun x91 => (opE Try.prog Value.string (Instr.loadAt 9 (.pointer x87)) w (fun x88 w => opE Try.prog Value.string (Instr.loadAt 9 (.pointer x91)) w (fun x92 w => opP Try.prog Value.pointer (Instr.indexAt 23 (Sl.v x0) (.int .i64 x9)) (fun x93 => opU Try.prog (Instr.storeAt 9 (.pointer x93) (.string x88)) w (fun w => opP Try.prog Value.pointer (Instr.indexAt 23 (Sl.v x0) (.int .i64 (IntKind.wrap .i64 (x9 - 1)))) (fun x94 => opU Try.prog (Instr.storeAt 9 (.pointer x94) (.string x92)) w (fun w => V_slices_partialInsertionSortOrdered_string_j10 x9 Kl9 w))))))) ∧ (opE Try.prog Value.string (Instr.loadAt 9 (.pointer x91)) w (fun x92_1 w => opE Try.prog Value.string (Instr.loadAt 9 (.pointer x87)) w (fun x88_1 w => opP Try.prog Value.pointer (Instr.indexAt 23 (Sl.v x0) (.int .i64 x9)) (fun x93_1 => opU Try.prog (Instr.storeAt 9 (.pointer x93_1) (.string x88_1)) w (fun w => opP Try.prog Value.pointer (Instr.indexAt 23 (Sl.v x0) (.int .i64 (IntKind.wrap .i64 (x9 - 1)))) (fun x94_1 => opU Try.prog (Instr.storeAt 9 (.pointer x94_1) (.string x92_1)) w (fun w => V_slices_partialInsertionSortOrdered_string_j10 x9 Kl9 w)))))))))))))))))))) ∧ (¬ (1 ≤ x9) → (V_slices_partialInsertionSortOrdered_string_j6 x0 x2 x8 Kl1 x7_2 w))
def V_slices_partialInsertionSortOrdered_string_j5 (x0 : Sl) (x1 : Int) (x2 : Int) (x8 : Int) (Kl1 : Int → Int → World → Prop) (x7_2 : Int) (w : World) : Prop :=
  ((2 ≤ (IntKind.wrap .i64 (x7_2 - x1))) → (∃ (I : Int → World → Prop) (μ : Int → World → Nat), I (IntKind.wrap .i64 (x7_2 - 1)) w ∧ ∀ (x9 : Int) w, I x9 w → V_slices_partialInsertionSortOrdered_string_l9b x0 x2 x8 Kl1 x7_2 x9 w (fun x9' w' => I x9' w' ∧ μ x9' w' < μ x9 w))) ∧ (¬ (2 ≤ (IntKind.wrap .i64 (x7_2 - x1))) → (V_slices_partialInsertionSortOrdered_string_j6 x0 x2 x8 Kl1 x7_2 w))
def V_slices_partialInsertionSortOrdered_string_r4 (x0 : Sl) (x1 : Int) (x2 : Int) (Ret : Bool → World → Prop) (x8 : Int) (Kl1 : Int → Int → World → Prop) (x7_2 : Int) (Kl3 : Int → World → Prop) (x32 : Bool) (w : World) : Prop :=
  nextB w (fun w => (x32 = true → (Kl3 (IntKind.wrap .i64 (x7_2 + 1)) w)) ∧ (x32 = false → (((x7_2 = x2) → (Ret true w)) ∧ (¬ (x7_2 = x2) → ((((IntKind.wrap .i64 (x2 - x1)) < 50) → (Ret false w)) ∧ (¬ ((IntKind.wrap .i64 (x2 - x1)) < 50) → (nextB w (fun w => opP Try.prog Value.pointer (Instr.indexAt 23 (Sl.v x0) (.int .i64 (IntKind.wrap .i64 (x7_2 - 1)))) (fun x50 => opP Try.prog Value.pointer (Instr.indexAt 23 (Sl.v x0) (.int .i64 x7_2)) (fun x54 => (opE Try.prog Value.string (Instr.loadAt 9 (.pointer x50)) w (fun x51 w => opE Try.prog Value.string (Instr.loadAt 9 (.pointer x54)) w (fun x55 w => opP Try.prog Value.pointer (Instr.indexAt 23 (Sl.v x0) (.int .i64 x7_2)) (fun x56 => opU Try.prog (Instr.storeAt 9 (.pointer x56) (.string x51)) w (fun w => opP Try.prog Value.pointer (Instr.indexAt 23 (Sl.v x0) (.int .i64 (IntKind.wrap .i64 (x7_2 - 1)))) (fun x57 => opU Try.prog (Instr.storeAt 9 (.pointer x57) (.string x55)) w (fun w => V_slices_partialInsertionSortOrdered_string_j5 x0 x1 x2 x8 Kl1 x7_2 w))))))) ∧ (opE Try.prog Value.string (Instr.loadAt 9 (.pointer x54)) w (fun x55_1 w => opE Try.prog Value.string (Instr.loadAt 9 (.pointer x50)) w (fun x51_1 w => opP Try.prog Value.pointer (Instr.indexAt 23 (Sl.v x0) (.int .i64 x7_2)) (fun x56_1 => opU Try.prog (Instr.storeAt 9 (.pointer x56_1) (.string x51_1)) w (fun w => opP Try.prog Value.pointer (Instr.indexAt 23 (Sl.v x0) (.int .i64 (IntKind.wrap .i64 (x7_2 - 1)))) (fun x57_1 => opU Try.prog (Instr.storeAt 9 (.pointer x57_1) (.string x55_1)) w (fun w => V_slices_partialInsertionSortOrdered_string_j5 x0 x1 x2 x8 Kl1 x7_2 w)))))))))))))))))
def V_slices_partialInsertionSortOrdered_string_l3b (x0 : Sl) (x1 : Int) (x2 : Int) (Ret : Bool → World → Prop) (x8 : Int) (Kl1 : Int → Int → World → Prop) (x7_2 : Int) (w : World) (Kl3 : Int → World → Prop) : Prop :=
  ((x7_2 < x2) → (opB Try.prog Value.pointer (Instr.indexAt 23 (Sl.v x0) (.int .i64 x7_2)) w (fun x23 => opB Try.prog Value.string (Instr.loadAt 9 (.pointer x23)) w (fun x24 => opB Try.prog Value.pointer (Instr.indexAt 23 (Sl.v x0) (.int .i64 (IntKind.wrap .i64 (x7_2 - 1)))) w (fun x28 => opB Try.prog Value.string (Instr.loadAt 9 (.pointer x28)) w (fun x29 => ∃ (r_2 : Bool), (∀ w', Bel w w' → Cl Try.prog 52 [(.string x24), (.string x29)].toArray w' (fun e w'' => e = .returned (.bool r_2) ∧ Bel w' w'')) ∧ (V_slices_partialInsertionSortOrdered_string_r4 x0 x1 x2 Ret x8 Kl1 x7_2 Kl3 (!r_2) w))))))) ∧ (¬ (x7_2 < x2) → (V_slices_partialInsertionSortOrdered_string_r4 x0 x1 x2 Ret x8 Kl1 x7_2 Kl3 false w))
def V_slices_partialInsertionSortOrdered_string_l1b (x0 : Sl) (x1 : Int) (x2 : Int) (Ret : Bool → World → Prop) (x7 : Int) (x8 : Int) (w : World) (Kl1 : Int → Int → World → Prop) : Prop :=
  ((x8 < 5) → (∃ (I : Int → World → Prop) (μ : Int → World → Nat), I x7 w ∧ ∀ (x7_2 : Int) w, I x7_2 w → V_slices_partialInsertionSortOrdered_string_l3b x0 x1 x2 Ret x8 Kl1 x7_2 w (fun x7_2' w' => I x7_2' w' ∧ μ x7_2' w' < μ x7_2 w))) ∧ (¬ (x8 < 5) → (Ret false w))
def V_slices_partialInsertionSortOrdered_string (x0 : Sl) (x1 : Int) (x2 : Int) (w : World) (Ret : Bool → World → Prop) : Prop :=
  ∃ (I : Int → Int → World → Prop) (μ : Int → Int → World → Nat), I (IntKind.wrap .i64 (x1 + 1)) 0 w ∧ ∀ (x7 : Int) (x8 : Int) w, I x7 x8 w → V_slices_partialInsertionSortOrdered_string_l1b x0 x1 x2 Ret x7 x8 w (fun x7' x8' w' => I x7' x8' w' ∧ μ x7' x8' w' < μ x7 x8 w)
set_option maxRecDepth 100000 in
theorem L1_slices_partialInsertionSortOrdered_string (x0 : Sl) (x1 : Int) (x2 : Int) (w : World) (Ret : Bool → World → Prop) (H : V_slices_partialInsertionSortOrdered_string x0 x1 x2 w Ret) : Cl Try.prog 51 [(Sl.v x0), (.int .i64 x1), (.int .i64 x2)].toArray w (fun e w' => ∃ (r0 : Bool), e = .returned (.bool r0) ∧ Ret r0 w') := by
  unfold V_slices_partialInsertionSortOrdered_string at H
  refine C.enter 133 (zipE 0 [(Sl.v x0), (.int .i64 x1), (.int .i64 x2)]) Try.func51 rfl rfl (by rfl) rfl ?_
  intro a hE
  replace hE : Sat [] 133 [(0, (Sl.v x0)), (1, (.int .i64 x1)), (2, (.int .i64 x2))] a := hE
  refine C.seq ?_
  refine C.region ?_
  refine hE.pur (X.assign hE rfl) fun a hE => ?_
  refine C.nil (tn ?_)
  refine C.seq ?_
  refine C.region ?_
  refine hE.pur (X.move hE rfl) fun a hE => ?_
  refine hE.pur (X.add hE rfl rfl) fun a hE => ?_
  refine hE.pur (X.assign hE rfl) fun a hE => ?_
  refine C.nil (tn ?_)
  refine C.seq ?_
  refine C.seq ?_
  refine C.region ?_
  refine hE.pur (X.assign hE rfl) fun a hE => ?_
  refine C.nil (tn ?_)
  refine C.block ?_
  obtain ⟨I_l1, μ_l1, h0, hb⟩ := H
  refine C.loop (ds := []) (N := 133) (σ := Int × Int) (fun s => [(7, (.int .i64 s.1)), (8, (.int .i64 s.2)), (0, (Sl.v x0)), (1, (.int .i64 x1)), (2, (.int .i64 x2))]) (fun s w => I_l1 s.1 s.2 w) (fun s w => μ_l1 s.1 s.2 w) ((IntKind.wrap .i64 (x1 + 1)), 0) h0 (hE.weak ⟨rfl, rfl, rfl, rfl, rfl, trivial⟩) ?_
  rintro ⟨x7, x8⟩ w a hI hE
  try dsimp only at hI hE
  obtain ⟨Kl1, hK_l1⟩ : ∃ K : Int → Int → World → Prop, K = (fun x7' x8' w' => I_l1 x7' x8' w' ∧ μ_l1 x7' x8' w' < μ_l1 x7 x8 w) := ⟨_, rfl⟩
  have H : V_slices_partialInsertionSortOrdered_string_l1b x0 x1 x2 Ret x7 x8 w Kl1 := by rw [hK_l1]; exact hb x7 x8 w hI
  clear hb h0 hI
  unfold V_slices_partialInsertionSortOrdered_string_l1b at H
  refine C.seq ?_
  refine C.seq ?_
  refine C.region ?_
  refine hE.pur (X.move hE rfl) fun a hE => ?_
  refine hE.pur (X.ltI hE rfl rfl) fun a hE => ?_
  refine C.nil (tn ?_)
  refine C.condP hE rfl (fun hc => ?_) (fun hc => ?_)
  · replace H := H.1 hc
    refine C.skip (tn ?_)
    refine C.join (ds := []) (N := 133) (σ := Int) (fun s => [(7, (.int .i64 s)), (0, (Sl.v x0)), (1, (.int .i64 x1)), (2, (.int .i64 x2)), (8, (.int .i64 x8))]) (fun s w => V_slices_partialInsertionSortOrdered_string_j2 x8 Kl1 s w) ?_ (fun hj2 => ?_)
    · intro x7_1 w a H hE
      try dsimp only at H hE
      unfold V_slices_partialInsertionSortOrdered_string_j2 at H
      refine C.region ?_
      refine hE.pur (X.move hE rfl) fun a hE => ?_
      refine hE.pur (X.add hE rfl rfl) fun a hE => ?_
      refine hE.pur (X.assign hE rfl) fun a hE => ?_
      rw [hK_l1] at H
      exact C.nil (tn ⟨(x7_1, (IntKind.wrap .i64 (x8 + 1))), hE.weak ⟨rfl, rfl, rfl, rfl, rfl, trivial⟩, H⟩)
    · refine C.block ?_
      refine C.seq ?_
      refine C.block ?_
      obtain ⟨I_l3, μ_l3, h0, hb⟩ := H
      refine C.loop (ds := []) (N := 133) (σ := Int) (fun s => [(7, (.int .i64 s)), (0, (Sl.v x0)), (1, (.int .i64 x1)), (2, (.int .i64 x2)), (8, (.int .i64 x8))]) (fun s w => I_l3 s w) (fun s w => μ_l3 s w) x7 h0 (hE.weak ⟨rfl, rfl, rfl, rfl, rfl, trivial⟩) ?_
      intro x7_2 w a hI hE
      try dsimp only at hI hE
      obtain ⟨Kl3, hK_l3⟩ : ∃ K : Int → World → Prop, K = (fun x7_2' w' => I_l3 x7_2' w' ∧ μ_l3 x7_2' w' < μ_l3 x7_2 w) := ⟨_, rfl⟩
      have H : V_slices_partialInsertionSortOrdered_string_l3b x0 x1 x2 Ret x8 Kl1 x7_2 w Kl3 := by rw [hK_l3]; exact hb x7_2 w hI
      clear hb h0 hI
      unfold V_slices_partialInsertionSortOrdered_string_l3b at H
      refine C.seq ?_
      refine C.seq ?_
      refine C.draw (by kernel_rfl) (by kernel_rfl) ?_
      refine hE.qpur (X.move hE rfl) fun a hE => ?_
      refine hE.qpur (X.move hE rfl) fun a hE => ?_
      refine hE.qpur (X.ltI hE rfl rfl) fun a hE => ?_
      refine hE.qpur (X.move hE rfl) fun a hE => ?_
      refine WQ.join (ds := []) (N := 133) (σ := Bool) (fun s => [(32, (.bool s)), (0, (Sl.v x0)), (1, (.int .i64 x1)), (2, (.int .i64 x2)), (7, (.int .i64 x7_2)), (8, (.int .i64 x8))]) (fun s => V_slices_partialInsertionSortOrdered_string_r4 x0 x1 x2 Ret x8 Kl1 x7_2 Kl3 s w) 12 ?_ (fun hr4 => ?_)
      · intro x32 a H hE
        try dsimp only at H hE
        unfold V_slices_partialInsertionSortOrdered_string_r4 at H
        refine C.qnil (fun w hB => ?_)
        replace H := H w hB
        refine (tn ?_)
        refine C.condB hE rfl (fun hc => ?_) (fun hc => ?_)
        · replace H := H.1 hc
          refine C.skip (tn ?_)
          refine C.block ?_
          refine C.region ?_
          refine hE.pur (X.move hE rfl) fun a hE => ?_
          refine hE.pur (X.add hE rfl rfl) fun a hE => ?_
          refine hE.pur (X.assign hE rfl) fun a hE => ?_
          rw [hK_l3] at H
          exact C.nil (bn (tn ⟨(IntKind.wrap .i64 (x7_2 + 1)), hE.weak ⟨rfl, rfl, rfl, rfl, rfl, trivial⟩, H⟩))
        · replace H := H.2 hc
          refine C.exit (te (te (be (tn ?_))))
          refine C.seq ?_
          refine C.seq ?_
          refine C.region ?_
          refine hE.pur (X.move hE rfl) fun a hE => ?_
          refine hE.pur (X.move hE rfl) fun a hE => ?_
          refine hE.pur (X.eqI hE rfl rfl) fun a hE => ?_
          refine C.nil (tn ?_)
          refine C.condP hE rfl (fun hc => ?_) (fun hc => ?_)
          · replace H := H.1 hc
            refine C.seq ?_
            refine C.region ?_
            refine hE.pur (X.assign hE rfl) fun a hE => ?_
            refine C.nil (tn ?_)
            exact C.ret (tr (br (tr (tr (br (tr (C.ret1 hE rfl rfl ⟨_, rfl, H⟩)))))))
          · replace H := H.2 hc
            refine C.skip (tn ?_)
            refine C.seq ?_
            refine C.seq ?_
            refine C.region ?_
            refine hE.pur (X.move hE rfl) fun a hE => ?_
            refine hE.pur (X.move hE rfl) fun a hE => ?_
            refine hE.pur (X.sub hE rfl rfl) fun a hE => ?_
            refine hE.pur (X.ltI hE rfl rfl) fun a hE => ?_
            refine C.nil (tn ?_)
            refine C.condP hE rfl (fun hc => ?_) (fun hc => ?_)
            · replace H := H.1 hc
              refine C.seq ?_
              refine C.region ?_
              refine hE.pur (X.assign hE rfl) fun a hE => ?_
              refine C.nil (tn ?_)
              exact C.ret (tr (br (tr (tr (br (tr (C.ret1 hE rfl rfl ⟨_, rfl, H⟩)))))))
            · replace H := H.2 hc
              refine C.skip (tn ?_)
              refine C.join (ds := []) (N := 133) (σ := Unit) (fun s => [(0, (Sl.v x0)), (1, (.int .i64 x1)), (2, (.int .i64 x2)), (7, (.int .i64 x7_2)), (8, (.int .i64 x8))]) (fun s w => V_slices_partialInsertionSortOrdered_string_j5 x0 x1 x2 x8 Kl1 x7_2  w) ?_ (fun hj5 => ?_)
              · rintro ⟨⟩ w a H hE
                try dsimp only at H hE
                unfold V_slices_partialInsertionSortOrdered_string_j5 at H
                refine C.join (ds := []) (N := 133) (σ := Unit) (fun s => [(0, (Sl.v x0)), (1, (.int .i64 x1)), (2, (.int .i64 x2)), (7, (.int .i64 x7_2)), (8, (.int .i64 x8))]) (fun s w => V_slices_partialInsertionSortOrdered_string_j6 x0 x2 x8 Kl1 x7_2  w) ?_ (fun hj6 => ?_)
                · rintro ⟨⟩ w a H hE
                  try dsimp only at H hE
                  unfold V_slices_partialInsertionSortOrdered_string_j6 at H
                  refine C.seq ?_
                  refine C.region ?_
                  refine hE.pur (X.move hE rfl) fun a hE => ?_
                  refine hE.pur (X.move hE rfl) fun a hE => ?_
                  refine hE.pur (X.sub hE rfl rfl) fun a hE => ?_
                  refine hE.pur (X.geI hE rfl rfl) fun a hE => ?_
                  refine C.nil (tn ?_)
                  refine C.condP hE rfl (fun hc => ?_) (fun hc => ?_)
                  · replace H := H.1 hc
                    refine C.seq ?_
                    refine C.region ?_
                    refine hE.pur (X.move hE rfl) fun a hE => ?_
                    refine hE.pur (X.add hE rfl rfl) fun a hE => ?_
                    refine hE.pur (X.assign hE rfl) fun a hE => ?_
                    refine C.nil (tn ?_)
                    refine C.block ?_
                    obtain ⟨I_l7, μ_l7, h0, hb⟩ := H
                    refine C.loop (ds := []) (N := 133) (σ := Int) (fun s => [(10, (.int .i64 s)), (0, (Sl.v x0)), (1, (.int .i64 x1)), (2, (.int .i64 x2)), (7, (.int .i64 x7_2)), (8, (.int .i64 x8))]) (fun s w => I_l7 s w) (fun s w => μ_l7 s w) (IntKind.wrap .i64 (x7_2 + 1)) h0 (hE.weak ⟨rfl, rfl, rfl, rfl, rfl, rfl, trivial⟩) ?_
                    intro x10 w a hI hE
                    try dsimp only at hI hE
                    obtain ⟨Kl7, hK_l7⟩ : ∃ K : Int → World → Prop, K = (fun x10' w' => I_l7 x10' w' ∧ μ_l7 x10' w' < μ_l7 x10 w) := ⟨_, rfl⟩
                    have H : V_slices_partialInsertionSortOrdered_string_l7b x0 x2 x8 Kl1 x7_2 x10 w Kl7 := by rw [hK_l7]; exact hb x10 w hI
                    clear hb h0 hI
                    unfold V_slices_partialInsertionSortOrdered_string_l7b at H
                    refine C.seq ?_
                    refine C.seq ?_
                    refine C.region ?_
                    refine hE.pur (X.move hE rfl) fun a hE => ?_
                    refine hE.pur (X.move hE rfl) fun a hE => ?_
                    refine hE.pur (X.ltI hE rfl rfl) fun a hE => ?_
                    refine C.nil (tn ?_)
                    refine C.condP hE rfl (fun hc => ?_) (fun hc => ?_)
                    · replace H := H.1 hc
                      refine C.skip (tn ?_)
                      refine C.join (ds := []) (N := 133) (σ := Unit) (fun s => [(0, (Sl.v x0)), (1, (.int .i64 x1)), (2, (.int .i64 x2)), (7, (.int .i64 x7_2)), (8, (.int .i64 x8)), (10, (.int .i64 x10))]) (fun s w => V_slices_partialInsertionSortOrdered_string_j8 x10 Kl7  w) ?_ (fun hj8 => ?_)
                      · rintro ⟨⟩ w a H hE
                        try dsimp only at H hE
                        unfold V_slices_partialInsertionSortOrdered_string_j8 at H
                        refine C.region ?_
                        refine hE.pur (X.move hE rfl) fun a hE => ?_
                        refine hE.pur (X.add hE rfl rfl) fun a hE => ?_
                        refine hE.pur (X.assign hE rfl) fun a hE => ?_
                        rw [hK_l7] at H
                        exact C.nil (tn ⟨(IntKind.wrap .i64 (x10 + 1)), hE.weak ⟨rfl, rfl, rfl, rfl, rfl, rfl, trivial⟩, H⟩)
                      · refine C.block ?_
                        refine C.seq ?_
                        refine C.seq ?_
                        refine C.draw (by kernel_rfl) (by kernel_rfl) ?_
                        refine hE.qpur (X.move hE rfl) fun a hE => ?_
                        refine hE.qpur (X.move hE rfl) fun a hE => ?_
                        refine hE.qop (X.indexAddr hE rfl rfl) H fun x108 a H hE => ?_
                        refine hE.qop (X.load hE rfl) H fun x109 a H hE => ?_
                        refine hE.qpur (X.move hE rfl) fun a hE => ?_
                        refine hE.qpur (X.move hE rfl) fun a hE => ?_
                        refine hE.qpur (X.sub hE rfl rfl) fun a hE => ?_
                        refine hE.qop (X.indexAddr hE rfl rfl) H fun x113 a H hE => ?_
                        refine hE.qop (X.load hE rfl) H fun x114 a H hE => ?_
                        obtain ⟨r, hc, H⟩ := H
                        refine hE.qcall (fun w' => X.callF hE ent52 rfl rfl) hc fun a hE => ?_
                        refine hE.qpur (X.not hE rfl) fun a hE => ?_
                        refine C.qnil (fun w hB => ?_)
                        replace H := H w hB
                        refine (tn ?_)
                        refine C.condB hE rfl (fun hc => ?_) (fun hc => ?_)
                        · replace H := H.1 hc
                          exact C.exit (te (bo (te (te (be (bn (tn (hj2 x7_2 _ _ H (hE.weak ⟨rfl, rfl, rfl, rfl, rfl, trivial⟩)))))))))
                        · replace H := H.2 hc
                          refine C.skip (tn ?_)
                          refine C.any 18 #[false, false, false, false, false, false, false, false, false, false, false, false, false, false, false, false, false, false] (by kernel_rfl) (fun w hB => ?_)
                          replace H := H w hB
                          refine hE.apur (i := 0) (fun _ _ _ _ _ h => h) (by kernel_rfl) rfl (by kernel_rfl) (by kernel_rfl) (by rfl) (l2 := #[true, false, false, false, false, false, false, false, false, false, false, false, false, false, false, false, false, false]) (pn_run (X.move hE rfl)) fun a hE => ?_
                          refine hE.apur (i := 1) (fun _ _ _ _ _ h => h) (by kernel_rfl) rfl (by kernel_rfl) (by kernel_rfl) (by rfl) (l2 := #[true, true, false, false, false, false, false, false, false, false, false, false, false, false, false, false, false, false]) (pn_run (X.move hE rfl)) fun a hE => ?_
                          refine hE.apur (i := 2) (fun _ _ _ _ _ h => h) (by kernel_rfl) rfl (by kernel_rfl) (by kernel_rfl) (by rfl) (l2 := #[true, true, true, false, false, false, false, false, false, false, false, false, false, false, false, false, false, false]) (pn_run (X.move hE rfl)) fun a hE => ?_
                          refine hE.apur (i := 3) (fun _ _ _ _ _ h => h) (by kernel_rfl) rfl (by kernel_rfl) (by kernel_rfl) (by rfl) (l2 := #[true, true, true, true, false, false, false, false, false, false, false, false, false, false, false, false, false, false]) (pn_run (X.move hE rfl)) fun a hE => ?_
                          refine hE.apur (i := 4) (fun _ _ _ _ _ h => h) (by kernel_rfl) rfl (by kernel_rfl) (by kernel_rfl) (by rfl) (l2 := #[true, true, true, true, true, false, false, false, false, false, false, false, false, false, false, false, false, false]) (pn_run (X.sub hE rfl rfl)) fun a hE => ?_
                          refine hE.apur (i := 5) (fun _ _ _ _ _ h => h) (by kernel_rfl) rfl (by kernel_rfl) (by kernel_rfl) (by rfl) (l2 := #[true, true, true, true, true, true, false, false, false, false, false, false, false, false, false, false, false, false]) (pn_run (X.move hE rfl)) fun a hE => ?_
                          refine hE.apur (i := 6) (fun _ _ _ _ _ h => h) (by kernel_rfl) rfl (by kernel_rfl) (by kernel_rfl) (by rfl) (l2 := #[true, true, true, true, true, true, true, false, false, false, false, false, false, false, false, false, false, false]) (pn_run (X.move hE rfl)) fun a hE => ?_
                          refine hE.apur (i := 7) (fun _ _ _ _ _ h => h) (by kernel_rfl) rfl (by kernel_rfl) (by kernel_rfl) (by rfl) (l2 := #[true, true, true, true, true, true, true, true, false, false, false, false, false, false, false, false, false, false]) (pn_run (X.sub hE rfl rfl)) fun a hE => ?_
                          refine hE.aop (i := 8) (fun _ _ _ _ _ h => h) (by kernel_rfl) rfl (by kernel_rfl) (by kernel_rfl) (by rfl) (l2 := #[true, true, true, true, true, true, true, true, true, false, false, false, false, false, false, false, false, false]) (X.indexAddr hE rfl rfl) H fun x125 a H hE => ?_
                          refine hE.apur (i := 10) (fun _ _ _ _ _ h => h) (by kernel_rfl) rfl (by kernel_rfl) (by kernel_rfl) (by rfl) (l2 := #[true, true, true, true, true, true, true, true, true, false, true, false, false, false, false, false, false, false]) (pn_run (X.move hE rfl)) fun a hE => ?_
                          refine hE.apur (i := 11) (fun _ _ _ _ _ h => h) (by kernel_rfl) rfl (by kernel_rfl) (by kernel_rfl) (by rfl) (l2 := #[true, true, true, true, true, true, true, true, true, false, true, true, false, false, false, false, false, false]) (pn_run (X.move hE rfl)) fun a hE => ?_
                          refine hE.aop (i := 12) (fun _ _ _ _ _ h => h) (by kernel_rfl) rfl (by kernel_rfl) (by kernel_rfl) (by rfl) (l2 := #[true, true, true, true, true, true, true, true, true, false, true, true, true, false, false, false, false, false]) (X.indexAddr hE rfl rfl) H fun x129 a H hE => ?_
                          refine WA.two (i := 9) (j := 13) (l2 := #[true, true, true, true, true, true, true, true, true, true, true, true, true, false, false, false, false, false]) (l3 := #[true, true, true, true, true, true, true, true, true, false, true, true, true, true, false, false, false, false]) rfl rfl (by kernel_rfl) (by rfl) (by rfl) ?_ ?_
                          · replace H := H.1
                            intro K hK
                            refine hE.wop (X.load hE rfl) H fun x126 w a H hE => ?_
                            refine hK _ _ ?_
                            refine WA.one (i := 13) (l2 := #[true, true, true, true, true, true, true, true, true, true, true, true, true, true, false, false, false, false]) rfl (by kernel_rfl) (by rfl) ?_
                            intro K hK
                            refine hE.wop (X.load hE rfl) H fun x130 w a H hE => ?_
                            refine hK _ _ ?_
                            refine hE.aop (i := 14) (fun _ _ _ _ _ h => h) (by kernel_rfl) rfl (by kernel_rfl) (by kernel_rfl) (by rfl) (l2 := #[true, true, true, true, true, true, true, true, true, true, true, true, true, true, true, false, false, false]) (X.indexAddr hE rfl rfl) H fun x131 a H hE => ?_
                            refine WA.one (i := 15) (l2 := #[true, true, true, true, true, true, true, true, true, true, true, true, true, true, true, true, false, false]) rfl (by kernel_rfl) (by rfl) ?_
                            intro K hK
                            refine hE.wopu (X.store hE rfl rfl) H fun w a H hE => ?_
                            refine hK _ _ ?_
                            refine hE.aop (i := 16) (fun _ _ _ _ _ h => h) (by kernel_rfl) rfl (by kernel_rfl) (by kernel_rfl) (by rfl) (l2 := #[true, true, true, true, true, true, true, true, true, true, true, true, true, true, true, true, true, false]) (X.indexAddr hE rfl rfl) H fun x132 a H hE => ?_
                            refine WA.one (i := 17) (l2 := #[true, true, true, true, true, true, true, true, true, true, true, true, true, true, true, true, true, true]) rfl (by kernel_rfl) (by rfl) ?_
                            intro K hK
                            refine hE.wopu (X.store hE rfl rfl) H fun w a H hE => ?_
                            refine hK _ _ ?_
                            refine WA.nil (by kernel_rfl) ?_
                            exact (bn (tn (hj8 () _ _ H (hE.weak ⟨rfl, rfl, rfl, rfl, rfl, rfl, trivial⟩))))
                          · replace H := H.2
                            intro K hK
                            refine hE.wop (X.load hE rfl) H fun x130_1 w a H hE => ?_
                            refine hK _ _ ?_
                            refine WA.one (i := 9) (l2 := #[true, true, true, true, true, true, true, true, true, true, true, true, true, true, false, false, false, false]) rfl (by kernel_rfl) (by rfl) ?_
                            intro K hK
                            refine hE.wop (X.load hE rfl) H fun x126_1 w a H hE => ?_
                            refine hK _ _ ?_
                            refine hE.aop (i := 14) (fun _ _ _ _ _ h => h) (by kernel_rfl) rfl (by kernel_rfl) (by kernel_rfl) (by rfl) (l2 := #[true, true, true, true, true, true, true, true, true, true, true, true, true, true, true, false, false, false]) (X.indexAddr hE rfl rfl) H fun x131_1 a H hE => ?_
                            refine WA.one (i := 15) (l2 := #[true, true, true, true, true, true, true, true, true, true, true, true, true, true, true, true, false, false]) rfl (by kernel_rfl) (by rfl) ?_
                            intro K hK
                            refine hE.wopu (X.store hE rfl rfl) H fun w a H hE => ?_
                            refine hK _ _ ?_
                            refine hE.aop (i := 16) (fun _ _ _ _ _ h => h) (by kernel_rfl) rfl (by kernel_rfl) (by kernel_rfl) (by rfl) (l2 := #[true, true, true, true, true, true, true, true, true, true, true, true, true, true, true, true, true, false]) (X.indexAddr hE rfl rfl) H fun x132_1 a H hE => ?_
                            refine WA.one (i := 17) (l2 := #[true, true, true, true, true, true, true, true, true, true, true, true, true, true, true, true, true, true]) rfl (by kernel_rfl) (by rfl) ?_
                            intro K hK
                            refine hE.wopu (X.store hE rfl rfl) H fun w a H hE => ?_
                            refine hK _ _ ?_
                            refine WA.nil (by kernel_rfl) ?_
                            exact (bn (tn (hj8 () _ _ H (hE.weak ⟨rfl, rfl, rfl, rfl, rfl, rfl, trivial⟩))))
                    · replace H := H.2 hc
                      exact C.exit (te (te (be (bn (tn (hj2 x7_2 _ _ H (hE.weak ⟨rfl, rfl, rfl, rfl, rfl, trivial⟩)))))))
                  · replace H := H.2 hc
                    exact C.skip (bn (tn (hj2 x7_2 _ _ H (hE.weak ⟨rfl, rfl, rfl, rfl, rfl, trivial⟩))))
                · refine C.seq ?_
                  refine C.region ?_
                  refine hE.pur (X.move hE rfl) fun a hE => ?_
                  refine hE.pur (X.move hE rfl) fun a hE => ?_
                  refine hE.pur (X.sub hE rfl rfl) fun a hE => ?_
                  refine hE.pur (X.geI hE rfl rfl) fun a hE => ?_
                  refine C.nil (tn ?_)
                  refine C.condP hE rfl (fun hc => ?_) (fun hc => ?_)
                  · replace H := H.1 hc
                    refine C.seq ?_
                    refine C.region ?_
                    refine hE.pur (X.move hE rfl) fun a hE => ?_
                    refine hE.pur (X.sub hE rfl rfl) fun a hE => ?_
                    refine hE.pur (X.assign hE rfl) fun a hE => ?_
                    refine C.nil (tn ?_)
                    refine C.block ?_
                    obtain ⟨I_l9, μ_l9, h0, hb⟩ := H
                    refine C.loop (ds := []) (N := 133) (σ := Int) (fun s => [(9, (.int .i64 s)), (0, (Sl.v x0)), (1, (.int .i64 x1)), (2, (.int .i64 x2)), (7, (.int .i64 x7_2)), (8, (.int .i64 x8))]) (fun s w => I_l9 s w) (fun s w => μ_l9 s w) (IntKind.wrap .i64 (x7_2 - 1)) h0 (hE.weak ⟨rfl, rfl, rfl, rfl, rfl, rfl, trivial⟩) ?_
                    intro x9 w a hI hE
                    try dsimp only at hI hE
                    obtain ⟨Kl9, hK_l9⟩ : ∃ K : Int → World → Prop, K = (fun x9' w' => I_l9 x9' w' ∧ μ_l9 x9' w' < μ_l9 x9 w) := ⟨_, rfl⟩
                    have H : V_slices_partialInsertionSortOrdered_string_l9b x0 x2 x8 Kl1 x7_2 x9 w Kl9 := by rw [hK_l9]; exact hb x9 w hI
                    clear hb h0 hI
                    unfold V_slices_partialInsertionSortOrdered_string_l9b at H
                    refine C.seq ?_
                    refine C.seq ?_
                    refine C.region ?_
                    refine hE.pur (X.move hE rfl) fun a hE => ?_
                    refine hE.pur (X.geI hE rfl rfl) fun a hE => ?_
                    refine C.nil (tn ?_)
                    refine C.condP hE rfl (fun hc => ?_) (fun hc => ?_)
                    · replace H := H.1 hc
                      refine C.skip (tn ?_)
                      refine C.join (ds := []) (N := 133) (σ := Unit) (fun s => [(0, (Sl.v x0)), (1, (.int .i64 x1)), (2, (.int .i64 x2)), (7, (.int .i64 x7_2)), (8, (.int .i64 x8)), (9, (.int .i64 x9))]) (fun s w => V_slices_partialInsertionSortOrdered_string_j10 x9 Kl9  w) ?_ (fun hj10 => ?_)
                      · rintro ⟨⟩ w a H hE
                        try dsimp only at H hE
                        unfold V_slices_partialInsertionSortOrdered_string_j10 at H
                        refine C.region ?_
                        refine hE.pur (X.move hE rfl) fun a hE => ?_
                        refine hE.pur (X.sub hE rfl rfl) fun a hE => ?_
                        refine hE.pur (X.assign hE rfl) fun a hE => ?_
                        rw [hK_l9] at H
                        exact C.nil (tn ⟨(IntKind.wrap .i64 (x9 - 1)), hE.weak ⟨rfl, rfl, rfl, rfl, rfl, rfl, trivial⟩, H⟩)
                      · refine C.block ?_
                        refine C.seq ?_
                        refine C.seq ?_
                        refine C.draw (by kernel_rfl) (by kernel_rfl) ?_
                        refine hE.qpur (X.move hE rfl) fun a hE => ?_
                        refine hE.qpur (X.move hE rfl) fun a hE => ?_
                        refine hE.qop (X.indexAddr hE rfl rfl) H fun x70 a H hE => ?_
                        refine hE.qop (X.load hE rfl) H fun x71 a H hE => ?_
                        refine hE.qpur (X.move hE rfl) fun a hE => ?_
                        refine hE.qpur (X.move hE rfl) fun a hE => ?_
                        refine hE.qpur (X.sub hE rfl rfl) fun a hE => ?_
                        refine hE.qop (X.indexAddr hE rfl rfl) H fun x75 a H hE => ?_
                        refine hE.qop (X.load hE rfl) H fun x76 a H hE => ?_
                        obtain ⟨r_1, hc, H⟩ := H
                        refine hE.qcall (fun w' => X.callF hE ent52 rfl rfl) hc fun a hE => ?_
                        refine hE.qpur (X.not hE rfl) fun a hE => ?_
                        refine C.qnil (fun w hB => ?_)
                        replace H := H w hB
                        refine (tn ?_)
                        refine C.condB hE rfl (fun hc => ?_) (fun hc => ?_)
                        · replace H := H.1 hc
                          exact C.exit (te (bo (te (te (be (tn (hj6 () _ _ H (hE.weak ⟨rfl, rfl, rfl, rfl, rfl, trivial⟩))))))))
                        · replace H := H.2 hc
                          refine C.skip (tn ?_)
                          refine C.any 18 #[false, false, false, false, false, false, false, false, false, false, false, false, false, false, false, false, false, false] (by kernel_rfl) (fun w hB => ?_)
                          replace H := H w hB
                          refine hE.apur (i := 0) (fun _ _ _ _ _ h => h) (by kernel_rfl) rfl (by kernel_rfl) (by kernel_rfl) (by rfl) (l2 := #[true, false, false, false, false, false, false, false, false, false, false, false, false, false, false, false, false, false]) (pn_run (X.move hE rfl)) fun a hE => ?_
                          refine hE.apur (i := 1) (fun _ _ _ _ _ h => h) (by kernel_rfl) rfl (by kernel_rfl) (by kernel_rfl) (by rfl) (l2 := #[true, true, false, false, false, false, false, false, false, false, false, false, false, false, false, false, false, false]) (pn_run (X.move hE rfl)) fun a hE => ?_
                          refine hE.apur (i := 2) (fun _ _ _ _ _ h => h) (by kernel_rfl) rfl (by kernel_rfl) (by kernel_rfl) (by rfl) (l2 := #[true, true, true, false, false, false, false, false, false, false, false, false, false, false, false, false, false, false]) (pn_run (X.move hE rfl)) fun a hE => ?_
                          refine hE.apur (i := 3) (fun _ _ _ _ _ h => h) (by kernel_rfl) rfl (by kernel_rfl) (by kernel_rfl) (by rfl) (l2 := #[true, true, true, true, false, false, false, false, false, false, false, false, false, false, false, false, false, false]) (pn_run (X.move hE rfl)) fun a hE => ?_
                          refine hE.apur (i := 4) (fun _ _ _ _ _ h => h) (by kernel_rfl) rfl (by kernel_rfl) (by kernel_rfl) (by rfl) (l2 := #[true, true, true, true, true, false, false, false, false, false, false, false, false, false, false, false, false, false]) (pn_run (X.sub hE rfl rfl)) fun a hE => ?_
                          refine hE.apur (i := 5) (fun _ _ _ _ _ h => h) (by kernel_rfl) rfl (by kernel_rfl) (by kernel_rfl) (by rfl) (l2 := #[true, true, true, true, true, true, false, false, false, false, false, false, false, false, false, false, false, false]) (pn_run (X.move hE rfl)) fun a hE => ?_
                          refine hE.apur (i := 6) (fun _ _ _ _ _ h => h) (by kernel_rfl) rfl (by kernel_rfl) (by kernel_rfl) (by rfl) (l2 := #[true, true, true, true, true, true, true, false, false, false, false, false, false, false, false, false, false, false]) (pn_run (X.move hE rfl)) fun a hE => ?_
                          refine hE.apur (i := 7) (fun _ _ _ _ _ h => h) (by kernel_rfl) rfl (by kernel_rfl) (by kernel_rfl) (by rfl) (l2 := #[true, true, true, true, true, true, true, true, false, false, false, false, false, false, false, false, false, false]) (pn_run (X.sub hE rfl rfl)) fun a hE => ?_
                          refine hE.aop (i := 8) (fun _ _ _ _ _ h => h) (by kernel_rfl) rfl (by kernel_rfl) (by kernel_rfl) (by rfl) (l2 := #[true, true, true, true, true, true, true, true, true, false, false, false, false, false, false, false, false, false]) (X.indexAddr hE rfl rfl) H fun x87 a H hE => ?_
                          refine hE.apur (i := 10) (fun _ _ _ _ _ h => h) (by kernel_rfl) rfl (by kernel_rfl) (by kernel_rfl) (by rfl) (l2 := #[true, true, true, true, true, true, true, true, true, false, true, false, false, false, false, false, false, false]) (pn_run (X.move hE rfl)) fun a hE => ?_
                          refine hE.apur (i := 11) (fun _ _ _ _ _ h => h) (by kernel_rfl) rfl (by kernel_rfl) (by kernel_rfl) (by rfl) (l2 := #[true, true, true, true, true, true, true, true, true, false, true, true, false, false, false, false, false, false]) (pn_run (X.move hE rfl)) fun a hE => ?_
                          refine hE.aop (i := 12) (fun _ _ _ _ _ h => h) (by kernel_rfl) rfl (by kernel_rfl) (by kernel_rfl) (by rfl) (l2 := #[true, true, true, true, true, true, true, true, true, false, true, true, true, false, false, false, false, false]) (X.indexAddr hE rfl rfl) H fun x91 a H hE => ?_
                          refine WA.two (i := 9) (j := 13) (l2 := #[true, true, true, true, true, true, true, true, true, true, true, true, true, false, false, false, false, false]) (l3 := #[true, true, true, true, true, true, true, true, true, false, true, true, true, true, false, false, false, false]) rfl rfl (by kernel_rfl) (by rfl) (by rfl) ?_ ?_
                          · replace H := H.1
                            intro K hK
                            refine hE.wop (X.load hE rfl) H fun x88 w a H hE => ?_
                            refine hK _ _ ?_
                            refine WA.one (i := 13) (l2 := #[true, true, true, true, true, true, true, true, true, true, true, true, true, true, false, false, false, false]) rfl (by kernel_rfl) (by rfl) ?_
                            intro K hK
                            refine hE.wop (X.load hE rfl) H fun x92 w a H hE => ?_
                            refine hK _ _ ?_
                            refine hE.aop (i := 14) (fun _ _ _ _ _ h => h) (by kernel_rfl) rfl (by kernel_rfl) (by kernel_rfl) (by rfl) (l2 := #[true, true, true, true, true, true, true, true, true, true, true, true, true, true, true, false, false, false]) (X.indexAddr hE rfl rfl) H fun x93 a H hE => ?_
                            refine WA.one (i := 15) (l2 := #[true, true, true, true, true, true, true, true, true, true, true, true, true, true, true, true, false, false]) rfl (by kernel_rfl) (by rfl) ?_
                            intro K hK
                            refine hE.wopu (X.store hE rfl rfl) H fun w a H hE => ?_
                            refine hK _ _ ?_
                            refine hE.aop (i := 16) (fun _ _ _ _ _ h => h) (by kernel_rfl) rfl (by kernel_rfl) (by kernel_rfl) (by rfl) (l2 := #[true, true, true, true, true, true, true, true, true, true, true, true, true, true, true, true, true, false]) (X.indexAddr hE rfl rfl) H fun x94 a H hE => ?_
                            refine WA.one (i := 17) (l2 := #[true, true, true, true, true, true, true, true, true, true, true, true, true, true, true, true, true, true]) rfl (by kernel_rfl) (by rfl) ?_
                            intro K hK
                            refine hE.wopu (X.store hE rfl rfl) H fun w a H hE => ?_
                            refine hK _ _ ?_
                            refine WA.nil (by kernel_rfl) ?_
                            exact (bn (tn (hj10 () _ _ H (hE.weak ⟨rfl, rfl, rfl, rfl, rfl, rfl, trivial⟩))))
                          · replace H := H.2
                            intro K hK
                            refine hE.wop (X.load hE rfl) H fun x92_1 w a H hE => ?_
                            refine hK _ _ ?_
                            refine WA.one (i := 9) (l2 := #[true, true, true, true, true, true, true, true, true, true, true, true, true, true, false, false, false, false]) rfl (by kernel_rfl) (by rfl) ?_
                            intro K hK
                            refine hE.wop (X.load hE rfl) H fun x88_1 w a H hE => ?_
                            refine hK _ _ ?_
                            refine hE.aop (i := 14) (fun _ _ _ _ _ h => h) (by kernel_rfl) rfl (by kernel_rfl) (by kernel_rfl) (by rfl) (l2 := #[true, true, true, true, true, true, true, true, true, true, true, true, true, true, true, false, false, false]) (X.indexAddr hE rfl rfl) H fun x93_1 a H hE => ?_
                            refine WA.one (i := 15) (l2 := #[true, true, true, true, true, true, true, true, true, true, true, true, true, true, true, true, false, false]) rfl (by kernel_rfl) (by rfl) ?_
                            intro K hK
                            refine hE.wopu (X.store hE rfl rfl) H fun w a H hE => ?_
                            refine hK _ _ ?_
                            refine hE.aop (i := 16) (fun _ _ _ _ _ h => h) (by kernel_rfl) rfl (by kernel_rfl) (by kernel_rfl) (by rfl) (l2 := #[true, true, true, true, true, true, true, true, true, true, true, true, true, true, true, true, true, false]) (X.indexAddr hE rfl rfl) H fun x94_1 a H hE => ?_
                            refine WA.one (i := 17) (l2 := #[true, true, true, true, true, true, true, true, true, true, true, true, true, true, true, true, true, true]) rfl (by kernel_rfl) (by rfl) ?_
                            intro K hK
                            refine hE.wopu (X.store hE rfl rfl) H fun w a H hE => ?_
                            refine hK _ _ ?_
                            refine WA.nil (by kernel_rfl) ?_
                            exact (bn (tn (hj10 () _ _ H (hE.weak ⟨rfl, rfl, rfl, rfl, rfl, rfl, trivial⟩))))
                    · replace H := H.2 hc
                      exact C.exit (te (te (be (tn (hj6 () _ _ H (hE.weak ⟨rfl, rfl, rfl, rfl, rfl, trivial⟩))))))
                  · replace H := H.2 hc
                    exact C.skip (tn (hj6 () _ _ H (hE.weak ⟨rfl, rfl, rfl, rfl, rfl, trivial⟩)))
              · refine C.any 18 #[false, false, false, false, false, false, false, false, false, false, false, false, false, false, false, false, false, false] (by kernel_rfl) (fun w hB => ?_)
                replace H := H w hB
                refine hE.apur (i := 0) (fun _ _ _ _ _ h => h) (by kernel_rfl) rfl (by kernel_rfl) (by kernel_rfl) (by rfl) (l2 := #[true, false, false, false, false, false, false, false, false, false, false, false, false, false, false, false, false, false]) (pn_run (X.move hE rfl)) fun a hE => ?_
                refine hE.apur (i := 1) (fun _ _ _ _ _ h => h) (by kernel_rfl) rfl (by kernel_rfl) (by kernel_rfl) (by rfl) (l2 := #[true, true, false, false, false, false, false, false, false, false, false, false, false, false, false, false, false, false]) (pn_run (X.move hE rfl)) fun a hE => ?_
                refine hE.apur (i := 2) (fun _ _ _ _ _ h => h) (by kernel_rfl) rfl (by kernel_rfl) (by kernel_rfl) (by rfl) (l2 := #[true, true, true, false, false, false, false, false, false, false, false, false, false, false, false, false, false, false]) (pn_run (X.move hE rfl)) fun a hE => ?_
                refine hE.apur (i := 3) (fun _ _ _ _ _ h => h) (by kernel_rfl) rfl (by kernel_rfl) (by kernel_rfl) (by rfl) (l2 := #[true, true, true, true, false, false, false, false, false, false, false, false, false, false, false, false, false, false]) (pn_run (X.move hE rfl)) fun a hE => ?_
                refine hE.apur (i := 4) (fun _ _ _ _ _ h => h) (by kernel_rfl) rfl (by kernel_rfl) (by kernel_rfl) (by rfl) (l2 := #[true, true, true, true, true, false, false, false, false, false, false, false, false, false, false, false, false, false]) (pn_run (X.sub hE rfl rfl)) fun a hE => ?_
                refine hE.apur (i := 5) (fun _ _ _ _ _ h => h) (by kernel_rfl) rfl (by kernel_rfl) (by kernel_rfl) (by rfl) (l2 := #[true, true, true, true, true, true, false, false, false, false, false, false, false, false, false, false, false, false]) (pn_run (X.move hE rfl)) fun a hE => ?_
                refine hE.apur (i := 6) (fun _ _ _ _ _ h => h) (by kernel_rfl) rfl (by kernel_rfl) (by kernel_rfl) (by rfl) (l2 := #[true, true, true, true, true, true, true, false, false, false, false, false, false, false, false, false, false, false]) (pn_run (X.move hE rfl)) fun a hE => ?_
                refine hE.apur (i := 7) (fun _ _ _ _ _ h => h) (by kernel_rfl) rfl (by kernel_rfl) (by kernel_rfl) (by rfl) (l2 := #[true, true, true, true, true, true, true, true, false, false, false, false, false, false, false, false, false, false]) (pn_run (X.sub hE rfl rfl)) fun a hE => ?_
                refine hE.aop (i := 8) (fun _ _ _ _ _ h => h) (by kernel_rfl) rfl (by kernel_rfl) (by kernel_rfl) (by rfl) (l2 := #[true, true, true, true, true, true, true, true, true, false, false, false, false, false, false, false, false, false]) (X.indexAddr hE rfl rfl) H fun x50 a H hE => ?_
                refine hE.apur (i := 10) (fun _ _ _ _ _ h => h) (by kernel_rfl) rfl (by kernel_rfl) (by kernel_rfl) (by rfl) (l2 := #[true, true, true, true, true, true, true, true, true, false, true, false, false, false, false, false, false, false]) (pn_run (X.move hE rfl)) fun a hE => ?_
                refine hE.apur (i := 11) (fun _ _ _ _ _ h => h) (by kernel_rfl) rfl (by kernel_rfl) (by kernel_rfl) (by rfl) (l2 := #[true, true, true, true, true, true, true, true, true, false, true, true, false, false, false, false, false, false]) (pn_run (X.move hE rfl)) fun a hE => ?_
                refine hE.aop (i := 12) (fun _ _ _ _ _ h => h) (by kernel_rfl) rfl (by kernel_rfl) (by kernel_rfl) (by rfl) (l2 := #[true, true, true, true, true, true, true, true, true, false, true, true, true, false, false, false, false, false]) (X.indexAddr hE rfl rfl) H fun x54 a H hE => ?_
                refine WA.two (i := 9) (j := 13) (l2 := #[true, true, true, true, true, true, true, true, true, true, true, true, true, false, false, false, false, false]) (l3 := #[true, true, true, true, true, true, true, true, true, false, true, true, true, true, false, false, false, false]) rfl rfl (by kernel_rfl) (by rfl) (by rfl) ?_ ?_
                · replace H := H.1
                  intro K hK
                  refine hE.wop (X.load hE rfl) H fun x51 w a H hE => ?_
                  refine hK _ _ ?_
                  refine WA.one (i := 13) (l2 := #[true, true, true, true, true, true, true, true, true, true, true, true, true, true, false, false, false, false]) rfl (by kernel_rfl) (by rfl) ?_
                  intro K hK
                  refine hE.wop (X.load hE rfl) H fun x55 w a H hE => ?_
                  refine hK _ _ ?_
                  refine hE.aop (i := 14) (fun _ _ _ _ _ h => h) (by kernel_rfl) rfl (by kernel_rfl) (by kernel_rfl) (by rfl) (l2 := #[true, true, true, true, true, true, true, true, true, true, true, true, true, true, true, false, false, false]) (X.indexAddr hE rfl rfl) H fun x56 a H hE => ?_
                  refine WA.one (i := 15) (l2 := #[true, true, true, true, true, true, true, true, true, true, true, true, true, true, true, true, false, false]) rfl (by kernel_rfl) (by rfl) ?_
                  intro K hK
                  refine hE.wopu (X.store hE rfl rfl) H fun w a H hE => ?_
                  refine hK _ _ ?_
                  refine hE.aop (i := 16) (fun _ _ _ _ _ h => h) (by kernel_rfl) rfl (by kernel_rfl) (by kernel_rfl) (by rfl) (l2 := #[true, true, true, true, true, true, true, true, true, true, true, true, true, true, true, true, true, false]) (X.indexAddr hE rfl rfl) H fun x57 a H hE => ?_
                  refine WA.one (i := 17) (l2 := #[true, true, true, true, true, true, true, true, true, true, true, true, true, true, true, true, true, true]) rfl (by kernel_rfl) (by rfl) ?_
                  intro K hK
                  refine hE.wopu (X.store hE rfl rfl) H fun w a H hE => ?_
                  refine hK _ _ ?_
                  refine WA.nil (by kernel_rfl) ?_
                  exact (tn (hj5 () _ _ H (hE.weak ⟨rfl, rfl, rfl, rfl, rfl, trivial⟩)))
                · replace H := H.2
                  intro K hK
                  refine hE.wop (X.load hE rfl) H fun x55_1 w a H hE => ?_
                  refine hK _ _ ?_
                  refine WA.one (i := 9) (l2 := #[true, true, true, true, true, true, true, true, true, true, true, true, true, true, false, false, false, false]) rfl (by kernel_rfl) (by rfl) ?_
                  intro K hK
                  refine hE.wop (X.load hE rfl) H fun x51_1 w a H hE => ?_
                  refine hK _ _ ?_
                  refine hE.aop (i := 14) (fun _ _ _ _ _ h => h) (by kernel_rfl) rfl (by kernel_rfl) (by kernel_rfl) (by rfl) (l2 := #[true, true, true, true, true, true, true, true, true, true, true, true, true, true, true, false, false, false]) (X.indexAddr hE rfl rfl) H fun x56_1 a H hE => ?_
                  refine WA.one (i := 15) (l2 := #[true, true, true, true, true, true, true, true, true, true, true, true, true, true, true, true, false, false]) rfl (by kernel_rfl) (by rfl) ?_
                  intro K hK
                  refine hE.wopu (X.store hE rfl rfl) H fun w a H hE => ?_
                  refine hK _ _ ?_
                  refine hE.aop (i := 16) (fun _ _ _ _ _ h => h) (by kernel_rfl) rfl (by kernel_rfl) (by kernel_rfl) (by rfl) (l2 := #[true, true, true, true, true, true, true, true, true, true, true, true, true, true, true, true, true, false]) (X.indexAddr hE rfl rfl) H fun x57_1 a H hE => ?_
                  refine WA.one (i := 17) (l2 := #[true, true, true, true, true, true, true, true, true, true, true, true, true, true, true, true, true, true]) rfl (by kernel_rfl) (by rfl) ?_
                  intro K hK
                  refine hE.wopu (X.store hE rfl rfl) H fun w a H hE => ?_
                  refine hK _ _ ?_
                  refine WA.nil (by kernel_rfl) ?_
                  exact (tn (hj5 () _ _ H (hE.weak ⟨rfl, rfl, rfl, rfl, rfl, trivial⟩)))
      · rcases Classical.em ((x7_2 < x2)) with hbr4 | hbr4
        · replace H := H.1 hbr4
          replace hE := hE.bool (b := true) (t := 20) rfl (decide_eq_true hbr4)
          refine hE.qon (by rfl) (by rfl) ?_
          refine hE.qpur (X.move hE rfl) fun a hE => ?_
          refine hE.qon (by rfl) (by rfl) ?_
          refine hE.qpur (X.move hE rfl) fun a hE => ?_
          refine hE.qon (by rfl) (by rfl) ?_
          refine hE.qop (X.indexAddr hE rfl rfl) H fun x23 a H hE => ?_
          refine hE.qon (by rfl) (by rfl) ?_
          refine hE.qop (X.load hE rfl) H fun x24 a H hE => ?_
          refine hE.qon (by rfl) (by rfl) ?_
          refine hE.qpur (X.move hE rfl) fun a hE => ?_
          refine hE.qon (by rfl) (by rfl) ?_
          refine hE.qpur (X.move hE rfl) fun a hE => ?_
          refine hE.qon (by rfl) (by rfl) ?_
          refine hE.qpur (X.sub hE rfl rfl) fun a hE => ?_
          refine hE.qon (by rfl) (by rfl) ?_
          refine hE.qop (X.indexAddr hE rfl rfl) H fun x28 a H hE => ?_
          refine hE.qon (by rfl) (by rfl) ?_
          refine hE.qop (X.load hE rfl) H fun x29 a H hE => ?_
          refine hE.qon (by rfl) (by rfl) ?_
          obtain ⟨r_2, hc, H⟩ := H
          refine hE.qcall (fun w' => X.callF hE ent52 rfl rfl) hc fun a hE => ?_
          refine hE.qon (by rfl) (by rfl) ?_
          refine hE.qpur (X.not hE rfl) fun a hE => ?_
          refine hE.qpur (X.pickT hE rfl rfl) fun a hE => ?_
          exact hr4 (!r_2) _ H (hE.weak ⟨rfl, rfl, rfl, rfl, rfl, rfl, trivial⟩)
        · replace H := H.2 hbr4
          replace hE := hE.bool (b := false) (t := 20) rfl (decide_eq_false hbr4)
          refine hE.qoff (by rfl) (by rfl) (by decide) (fun a hE => ?_)
          refine hE.qoff (by rfl) (by rfl) (by decide) (fun a hE => ?_)
          refine hE.qoff (by rfl) (by rfl) (by decide) (fun a hE => ?_)
          refine hE.qoff (by rfl) (by rfl) (by decide) (fun a hE => ?_)
          refine hE.qoff (by rfl) (by rfl) (by decide) (fun a hE => ?_)
          refine hE.qoff (by rfl) (by rfl) (by decide) (fun a hE => ?_)
          refine hE.qoff (by rfl) (by rfl) (by decide) (fun a hE => ?_)
          refine hE.qoff (by rfl) (by rfl) (by decide) (fun a hE => ?_)
          refine hE.qoff (by rfl) (by rfl) (by decide) (fun a hE => ?_)
          refine hE.qoff (by rfl) (by rfl) (by decide) (fun a hE => ?_)
          refine hE.qoff (by rfl) (by rfl) (by decide) (fun a hE => ?_)
          refine hE.qpur (X.pickF hE rfl rfl) fun a hE => ?_
          exact hr4 false _ H (hE.weak ⟨rfl, rfl, rfl, rfl, rfl, rfl, trivial⟩)
  · replace H := H.2 hc
    refine C.exit (te (te (be (tn ?_))))
    refine C.seq ?_
    refine C.region ?_
    refine hE.pur (X.assign hE rfl) fun a hE => ?_
    refine C.nil (tn ?_)
    exact C.ret (C.ret1 hE rfl rfl ⟨_, rfl, H⟩)
/-! ### cmp.Less[string]: function 52 -/
def V_cmp_Less_string_r2 (Ret : Bool → World → Prop) (x16 : Bool) (w : World) : Prop :=
  Ret x16 w
def V_cmp_Less_string_r1 (x0 : ByteArray) (x1 : ByteArray) (Ret : Bool → World → Prop) (x11 : Bool) (w : World) : Prop :=
  (x11 = true → (V_cmp_Less_string_r2 Ret true w)) ∧ (x11 = false → (V_cmp_Less_string_r2 Ret (sLt x0 x1) w))
def V_cmp_Less_string (x0 : ByteArray) (x1 : ByteArray) (w : World) (Ret : Bool → World → Prop) : Prop :=
  Cl Try.prog 62 [(.string x0)].toArray w (fun e w => ∃ (r : Bool), e = .returned (.bool r) ∧ ((r = true → (Cl Try.prog 62 [(.string x1)].toArray w (fun e w => ∃ (r_1 : Bool), e = .returned (.bool r_1) ∧ (V_cmp_Less_string_r1 x0 x1 Ret (!r_1) w)))) ∧ (r = false → (V_cmp_Less_string_r1 x0 x1 Ret false w))))
set_option maxRecDepth 100000 in
theorem L1_cmp_Less_string (x0 : ByteArray) (x1 : ByteArray) (w : World) (Ret : Bool → World → Prop) (H : V_cmp_Less_string x0 x1 w Ret) : Cl Try.prog 52 [(.string x0), (.string x1)].toArray w (fun e w' => ∃ (r0 : Bool), e = .returned (.bool r0) ∧ Ret r0 w') := by
  unfold V_cmp_Less_string at H
  refine C.enter 17 (zipE 0 [(.string x0), (.string x1)]) Try.func52 rfl rfl (by rfl) rfl ?_
  intro a hE
  replace hE : Sat [] 17 [(0, (.string x0)), (1, (.string x1))] a := hE
  refine C.seq ?_
  refine C.region ?_
  refine hE.pur (X.assign hE rfl) fun a hE => ?_
  refine C.nil (tn ?_)
  refine C.seq ?_
  refine C.region ?_
  refine hE.pur (X.move hE rfl) fun a hE => ?_
  refine hE.call (X.callF hE ent62 rfl rfl) H fun e w H => ?_
  obtain ⟨r, rfl, H⟩ := H
  refine ⟨_, rfl, fun a hE => ?_⟩
  refine hE.pur (X.move hE rfl) fun a hE => ?_
  refine WL.join (ds := []) (N := 17) (σ := Bool) (fun s => [(11, (.bool s)), (0, (.string x0)), (1, (.string x1))]) (fun s w => V_cmp_Less_string_r1 x0 x1 Ret s w) 4 ?_ (fun hr1 => ?_)
  · intro x11 w a H hE
    try dsimp only at H hE
    unfold V_cmp_Less_string_r1 at H
    refine hE.pur (X.move hE rfl) fun a hE => ?_
    refine WL.join (ds := []) (N := 17) (σ := Bool) (fun s => [(16, (.bool s))]) (fun s w => V_cmp_Less_string_r2 Ret s w) 4 ?_ (fun hr2 => ?_)
    · intro x16 w a H hE
      try dsimp only at H hE
      unfold V_cmp_Less_string_r2 at H
      refine hE.pur (X.assign hE rfl) fun a hE => ?_
      refine C.nil (tn ?_)
      exact C.ret (C.ret1 hE rfl rfl ⟨_, rfl, H⟩)
    · rcases Bool.eq_false_or_eq_true (x11) with hbr2 | hbr2
      · replace H := H.1 hbr2
        replace hE := hE.bool (b := true) (t := 12) rfl (hbr2)
        refine hE.off (by rfl) (by rfl) (by decide) (fun a hE => ?_)
        refine hE.off (by rfl) (by rfl) (by decide) (fun a hE => ?_)
        refine hE.off (by rfl) (by rfl) (by decide) (fun a hE => ?_)
        refine hE.pur (X.pickT hE rfl rfl) fun a hE => ?_
        exact hr2 true _ _ H (hE.weak ⟨rfl, trivial⟩)
      · replace H := H.2 hbr2
        replace hE := hE.bool (b := false) (t := 12) rfl (hbr2)
        refine hE.on (by rfl) (by rfl) ?_
        refine hE.pur (X.move hE rfl) fun a hE => ?_
        refine hE.on (by rfl) (by rfl) ?_
        refine hE.pur (X.move hE rfl) fun a hE => ?_
        refine hE.on (by rfl) (by rfl) ?_
        refine hE.pur (X.ltS hE rfl rfl) fun a hE => ?_
        refine hE.pur (X.pickF hE rfl rfl) fun a hE => ?_
        exact hr2 (sLt x0 x1) _ _ H (hE.weak ⟨rfl, trivial⟩)
  · rcases Bool.eq_false_or_eq_true (r) with hbr1 | hbr1
    · replace H := H.1 hbr1
      replace hE := hE.bool (b := true) (t := 7) rfl (hbr1)
      refine hE.on (by rfl) (by rfl) ?_
      refine hE.pur (X.move hE rfl) fun a hE => ?_
      refine hE.on (by rfl) (by rfl) ?_
      refine hE.call (X.callF hE ent62 rfl rfl) H fun e w H => ?_
      obtain ⟨r_1, rfl, H⟩ := H
      refine ⟨_, rfl, fun a hE => ?_⟩
      refine hE.on (by rfl) (by rfl) ?_
      refine hE.pur (X.not hE rfl) fun a hE => ?_
      refine hE.pur (X.pickT hE rfl rfl) fun a hE => ?_
      exact hr1 (!r_1) _ _ H (hE.weak ⟨rfl, rfl, rfl, trivial⟩)
    · replace H := H.2 hbr1
      replace hE := hE.bool (b := false) (t := 7) rfl (hbr1)
      refine hE.off (by rfl) (by rfl) (by decide) (fun a hE => ?_)
      refine hE.off (by rfl) (by rfl) (by decide) (fun a hE => ?_)
      refine hE.off (by rfl) (by rfl) (by decide) (fun a hE => ?_)
      refine hE.pur (X.pickF hE rfl rfl) fun a hE => ?_
      exact hr1 false _ _ H (hE.weak ⟨rfl, rfl, rfl, trivial⟩)
/-! ### slices.partitionEqualOrdered[string]: function 53 -/
def V_slices_partitionEqualOrdered_string_j7 (Kl2 : Int → Int → World → Prop) (x9_1 : Int) (x10_1 : Int) (w : World) : Prop :=
  Kl2 (IntKind.wrap .i64 (x9_1 + 1)) (IntKind.wrap .i64 (x10_1 - 1)) w
def V_slices_partitionEqualOrdered_string_r6 (x0 : Sl) (Ret : Int → World → Prop) (Kl2 : Int → Int → World → Prop) (x9_1 : Int) (x10_1 : Int) (Kl5 : Int → World → Prop) (x59 : Bool) (w : World) : Prop :=
  nextB w (fun w => (x59 = true → (Kl5 (IntKind.wrap .i64 (x10_1 - 1)) w)) ∧ (x59 = false → (((x10_1 < x9_1) → (Ret x9_1 w)) ∧ (¬ (x10_1 < x9_1) → (nextB w (fun w => opP Try.prog Value.pointer (Instr.indexAt 23 (Sl.v x0) (.int .i64 x10_1)) (fun x71 => opP Try.prog Value.pointer (Instr.indexAt 23 (Sl.v x0) (.int .i64 x9_1)) (fun x75 => (opE Try.prog Value.string (Instr.loadAt 9 (.pointer x71)) w (fun x72 w => opE Try.prog Value.string (Instr.loadAt 9 (.pointer x75)) w (fun x76 w => opP Try.prog Value.pointer (Instr.indexAt 23 (Sl.v x0) (.int .i64 x9_1)) (fun x77 => opU Try.prog (Instr.storeAt 9 (.pointer x77) (.string x72)) w (fun w => opP Try.prog Value.pointer (Instr.indexAt 23 (Sl.v x0) (.int .i64 x10_1)) (fun x78 => opU Try.prog (Instr.storeAt 9 (.pointer x78) (.string x76)) w (fun w => V_slices_partitionEqualOrdered_string_j7 Kl2 x9_1 x10_1 w))))))) ∧ (opE Try.prog Value.string (Instr.loadAt 9 (.pointer x75)) w (fun x76_1 w => opE Try.prog Value.string (Instr.loadAt 9 (.pointer x71)) w (fun x72_1 w => opP Try.prog Value.pointer (Instr.indexAt 23 (Sl.v x0) (.int .i64 x9_1)) (fun x77_1 => opU Try.prog (Instr.storeAt 9 (.pointer x77_1) (.string x72_1)) w (fun w => opP Try.prog Value.pointer (Instr.indexAt 23 (Sl.v x0) (.int .i64 x10_1)) (fun x78_1 => opU Try.prog (Instr.storeAt 9 (.pointer x78_1) (.string x76_1)) w (fun w => V_slices_partitionEqualOrdered_string_j7 Kl2 x9_1 x10_1 w)))))))))))))))
def V_slices_partitionEqualOrdered_string_l5b (x0 : Sl) (x1 : Int) (Ret : Int → World → Prop) (Kl2 : Int → Int → World → Prop) (x9_1 : Int) (x10_1 : Int) (w : World) (Kl5 : Int → World → Prop) : Prop :=
  ((x9_1 ≤ x10_1) → (opB Try.prog Value.pointer (Instr.indexAt 23 (Sl.v x0) (.int .i64 x1)) w (fun x52 => opB Try.prog Value.string (Instr.loadAt 9 (.pointer x52)) w (fun x53 => opB Try.prog Value.pointer (Instr.indexAt 23 (Sl.v x0) (.int .i64 x10_1)) w (fun x56 => opB Try.prog Value.string (Instr.loadAt 9 (.pointer x56)) w (fun x57 => ∃ (r : Bool), (∀ w', Bel w w' → Cl Try.prog 52 [(.string x53), (.string x57)].toArray w' (fun e w'' => e = .returned (.bool r) ∧ Bel w' w'')) ∧ (V_slices_partitionEqualOrdered_string_r6 x0 Ret Kl2 x9_1 x10_1 Kl5 r w))))))) ∧ (¬ (x9_1 ≤ x10_1) → (V_slices_partitionEqualOrdered_string_r6 x0 Ret Kl2 x9_1 x10_1 Kl5 false w))
def V_slices_partitionEqualOrdered_string_r4 (x0 : Sl) (x1 : Int) (Ret : Int → World → Prop) (x10 : Int) (Kl2 : Int → Int → World → Prop) (x9_1 : Int) (Kl3 : Int → World → Prop) (x43 : Bool) (w : World) : Prop :=
  nextB w (fun w => (x43 = true → (Kl3 (IntKind.wrap .i64 (x9_1 + 1)) w)) ∧ (x43 = false → (∃ (I : Int → World → Prop) (μ : Int → World → Nat), I x10 w ∧ ∀ (x10_1 : Int) w, I x10_1 w → V_slices_partitionEqualOrdered_string_l5b x0 x1 Ret Kl2 x9_1 x10_1 w (fun x10_1' w' => I x10_1' w' ∧ μ x10_1' w' < μ x10_1 w))))
def V_slices_partitionEqualOrdered_string_l3b (x0 : Sl) (x1 : Int) (Ret : Int → World → Prop) (x10 : Int) (Kl2 : Int → Int → World → Prop) (x9_1 : Int) (w : World) (Kl3 : Int → World → Prop) : Prop :=
  ((x9_1 ≤ x10) → (opB Try.prog Value.pointer (Instr.indexAt 23 (Sl.v x0) (.int .i64 x1)) w (fun x35 => opB Try.prog Value.string (Instr.loadAt 9 (.pointer x35)) w (fun x36 => opB Try.prog Value.pointer (Instr.indexAt 23 (Sl.v x0) (.int .i64 x9_1)) w (fun x39 => opB Try.prog Value.string (Instr.loadAt 9 (.pointer x39)) w (fun x40 => ∃ (r_1 : Bool), (∀ w', Bel w w' → Cl Try.prog 52 [(.string x36), (.string x40)].toArray w' (fun e w'' => e = .returned (.bool r_1) ∧ Bel w' w'')) ∧ (V_slices_partitionEqualOrdered_string_r4 x0 x1 Ret x10 Kl2 x9_1 Kl3 (!r_1) w))))))) ∧ (¬ (x9_1 ≤ x10) → (V_slices_partitionEqualOrdered_string_r4 x0 x1 Ret x10 Kl2 x9_1 Kl3 false w))
def V_slices_partitionEqualOrdered_string_l2b (x0 : Sl) (x1 : Int) (Ret : Int → World → Prop) (x9 : Int) (x10 : Int) (w : World) (Kl2 : Int → Int → World → Prop) : Prop :=
  ∃ (I : Int → World → Prop) (μ : Int → World → Nat), I x9 w ∧ ∀ (x9_1 : Int) w, I x9_1 w → V_slices_partitionEqualOrdered_string_l3b x0 x1 Ret x10 Kl2 x9_1 w (fun x9_1' w' => I x9_1' w' ∧ μ x9_1' w' < μ x9_1 w)
def V_slices_partitionEqualOrdered_string_j1 (x0 : Sl) (x1 : Int) (x2 : Int) (Ret : Int → World → Prop) (w : World) : Prop :=
  ∃ (I : Int → Int → World → Prop) (μ : Int → Int → World → Nat), I (IntKind.wrap .i64 (x1 + 1)) (IntKind.wrap .i64 (x2 - 1)) w ∧ ∀ (x9 : Int) (x10 : Int) w, I x9 x10 w → V_slices_partitionEqualOrdered_string_l2b x0 x1 Ret x9 x10 w (fun x9' x10' w' => I x9' x10' w' ∧ μ x9' x10' w' < μ x9 x10 w)
def V_slices_partitionEqualOrdered_string (x0 : Sl) (x1 : Int) (x2 : Int) (x3 : Int) (w : World) (Ret : Int → World → Prop) : Prop :=
  nextB w (fun w => opP Try.prog Value.pointer (Instr.indexAt 23 (Sl.v x0) (.int .i64 x3)) (fun x17 => opP Try.prog Value.pointer (Instr.indexAt 23 (Sl.v x0) (.int .i64 x1)) (fun x21 => (opE Try.prog Value.string (Instr.loadAt 9 (.pointer x17)) w (fun x18 w => opE Try.prog Value.string (Instr.loadAt 9 (.pointer x21)) w (fun x22 w => opP Try.prog Value.pointer (Instr.indexAt 23 (Sl.v x0) (.int .i64 x1)) (fun x23 => opU Try.prog (Instr.storeAt 9 (.pointer x23) (.string x18)) w (fun w => opP Try.prog Value.pointer (Instr.indexAt 23 (Sl.v x0) (.int .i64 x3)) (fun x24 => opU Try.prog (Instr.storeAt 9 (.pointer x24) (.string x22)) w (fun w => V_slices_partitionEqualOrdered_string_j1 x0 x1 x2 Ret w))))))) ∧ (opE Try.prog Value.string (Instr.loadAt 9 (.pointer x21)) w (fun x22_1 w => opE Try.prog Value.string (Instr.loadAt 9 (.pointer x17)) w (fun x18_1 w => opP Try.prog Value.pointer (Instr.indexAt 23 (Sl.v x0) (.int .i64 x1)) (fun x23_1 => opU Try.prog (Instr.storeAt 9 (.pointer x23_1) (.string x18_1)) w (fun w => opP Try.prog Value.pointer (Instr.indexAt 23 (Sl.v x0) (.int .i64 x3)) (fun x24_1 => opU Try.prog (Instr.storeAt 9 (.pointer x24_1) (.string x22_1)) w (fun w => V_slices_partitionEqualOrdered_string_j1 x0 x1 x2 Ret w))))))))))
set_option maxRecDepth 100000 in
theorem L1_slices_partitionEqualOrdered_string (x0 : Sl) (x1 : Int) (x2 : Int) (x3 : Int) (w : World) (Ret : Int → World → Prop) (H : V_slices_partitionEqualOrdered_string x0 x1 x2 x3 w Ret) : Cl Try.prog 53 [(Sl.v x0), (.int .i64 x1), (.int .i64 x2), (.int .i64 x3)].toArray w (fun e w' => ∃ (r0 : Int), e = .returned (.int .i64 r0) ∧ Ret r0 w') := by
  unfold V_slices_partitionEqualOrdered_string at H
  refine C.enter 84 (zipE 0 [(Sl.v x0), (.int .i64 x1), (.int .i64 x2), (.int .i64 x3)]) Try.func53 rfl rfl (by rfl) rfl ?_
  intro a hE
  replace hE : Sat [] 84 [(0, (Sl.v x0)), (1, (.int .i64 x1)), (2, (.int .i64 x2)), (3, (.int .i64 x3))] a := hE
  refine C.seq ?_
  refine C.region ?_
  refine hE.pur (X.assign hE rfl) fun a hE => ?_
  refine C.nil (tn ?_)
  refine C.join (ds := []) (N := 84) (σ := Unit) (fun s => [(0, (Sl.v x0)), (1, (.int .i64 x1)), (2, (.int .i64 x2))]) (fun s w => V_slices_partitionEqualOrdered_string_j1 x0 x1 x2 Ret  w) ?_ (fun hj1 => ?_)
  · rintro ⟨⟩ w a H hE
    try dsimp only at H hE
    unfold V_slices_partitionEqualOrdered_string_j1 at H
    refine C.seq ?_
    refine C.region ?_
    refine hE.pur (X.move hE rfl) fun a hE => ?_
    refine hE.pur (X.add hE rfl rfl) fun a hE => ?_
    refine hE.pur (X.move hE rfl) fun a hE => ?_
    refine hE.pur (X.sub hE rfl rfl) fun a hE => ?_
    refine hE.pur (X.assign hE rfl) fun a hE => ?_
    refine hE.pur (X.assign hE rfl) fun a hE => ?_
    refine C.nil (tn ?_)
    refine C.seq ?_
    refine C.block ?_
    obtain ⟨I_l2, μ_l2, h0, hb⟩ := H
    refine C.loop (ds := []) (N := 84) (σ := Int × Int) (fun s => [(9, (.int .i64 s.1)), (10, (.int .i64 s.2)), (0, (Sl.v x0)), (1, (.int .i64 x1))]) (fun s w => I_l2 s.1 s.2 w) (fun s w => μ_l2 s.1 s.2 w) ((IntKind.wrap .i64 (x1 + 1)), (IntKind.wrap .i64 (x2 - 1))) h0 (hE.weak ⟨rfl, rfl, rfl, rfl, trivial⟩) ?_
    rintro ⟨x9, x10⟩ w a hI hE
    try dsimp only at hI hE
    obtain ⟨Kl2, hK_l2⟩ : ∃ K : Int → Int → World → Prop, K = (fun x9' x10' w' => I_l2 x9' x10' w' ∧ μ_l2 x9' x10' w' < μ_l2 x9 x10 w) := ⟨_, rfl⟩
    have H : V_slices_partitionEqualOrdered_string_l2b x0 x1 Ret x9 x10 w Kl2 := by rw [hK_l2]; exact hb x9 x10 w hI
    clear hb h0 hI
    unfold V_slices_partitionEqualOrdered_string_l2b at H
    refine C.block ?_
    refine C.seq ?_
    refine C.block ?_
    obtain ⟨I_l3, μ_l3, h0, hb⟩ := H
    refine C.loop (ds := []) (N := 84) (σ := Int) (fun s => [(9, (.int .i64 s)), (0, (Sl.v x0)), (1, (.int .i64 x1)), (10, (.int .i64 x10))]) (fun s w => I_l3 s w) (fun s w => μ_l3 s w) x9 h0 (hE.weak ⟨rfl, rfl, rfl, rfl, trivial⟩) ?_
    intro x9_1 w a hI hE
    try dsimp only at hI hE
    obtain ⟨Kl3, hK_l3⟩ : ∃ K : Int → World → Prop, K = (fun x9_1' w' => I_l3 x9_1' w' ∧ μ_l3 x9_1' w' < μ_l3 x9_1 w) := ⟨_, rfl⟩
    have H : V_slices_partitionEqualOrdered_string_l3b x0 x1 Ret x10 Kl2 x9_1 w Kl3 := by rw [hK_l3]; exact hb x9_1 w hI
    clear hb h0 hI
    unfold V_slices_partitionEqualOrdered_string_l3b at H
    refine C.seq ?_
    refine C.seq ?_
    refine C.draw (by kernel_rfl) (by kernel_rfl) ?_
    refine hE.qpur (X.move hE rfl) fun a hE => ?_
    refine hE.qpur (X.move hE rfl) fun a hE => ?_
    refine hE.qpur (X.leI hE rfl rfl) fun a hE => ?_
    refine hE.qpur (X.move hE rfl) fun a hE => ?_
    refine WQ.join (ds := []) (N := 84) (σ := Bool) (fun s => [(43, (.bool s)), (0, (Sl.v x0)), (1, (.int .i64 x1)), (9, (.int .i64 x9_1)), (10, (.int .i64 x10))]) (fun s => V_slices_partitionEqualOrdered_string_r4 x0 x1 Ret x10 Kl2 x9_1 Kl3 s w) 11 ?_ (fun hr4 => ?_)
    · intro x43 a H hE
      try dsimp only at H hE
      unfold V_slices_partitionEqualOrdered_string_r4 at H
      refine C.qnil (fun w hB => ?_)
      replace H := H w hB
      refine (tn ?_)
      refine C.condB hE rfl (fun hc => ?_) (fun hc => ?_)
      · replace H := H.1 hc
        refine C.skip (tn ?_)
        refine C.block ?_
        refine C.region ?_
        refine hE.pur (X.move hE rfl) fun a hE => ?_
        refine hE.pur (X.add hE rfl rfl) fun a hE => ?_
        refine hE.pur (X.assign hE rfl) fun a hE => ?_
        rw [hK_l3] at H
        exact C.nil (bn (tn ⟨(IntKind.wrap .i64 (x9_1 + 1)), hE.weak ⟨rfl, rfl, rfl, rfl, trivial⟩, H⟩))
      · replace H := H.2 hc
        refine C.exit (te (te (be (tn ?_))))
        refine C.seq ?_
        refine C.block ?_
        obtain ⟨I_l5, μ_l5, h0, hb⟩ := H
        refine C.loop (ds := []) (N := 84) (σ := Int) (fun s => [(10, (.int .i64 s)), (0, (Sl.v x0)), (1, (.int .i64 x1)), (9, (.int .i64 x9_1))]) (fun s w => I_l5 s w) (fun s w => μ_l5 s w) x10 h0 (hE.weak ⟨rfl, rfl, rfl, rfl, trivial⟩) ?_
        intro x10_1 w a hI hE
        try dsimp only at hI hE
        obtain ⟨Kl5, hK_l5⟩ : ∃ K : Int → World → Prop, K = (fun x10_1' w' => I_l5 x10_1' w' ∧ μ_l5 x10_1' w' < μ_l5 x10_1 w) := ⟨_, rfl⟩
        have H : V_slices_partitionEqualOrdered_string_l5b x0 x1 Ret Kl2 x9_1 x10_1 w Kl5 := by rw [hK_l5]; exact hb x10_1 w hI
        clear hb h0 hI
        unfold V_slices_partitionEqualOrdered_string_l5b at H
        refine C.seq ?_
        refine C.seq ?_
        refine C.draw (by kernel_rfl) (by kernel_rfl) ?_
        refine hE.qpur (X.move hE rfl) fun a hE => ?_
        refine hE.qpur (X.move hE rfl) fun a hE => ?_
        refine hE.qpur (X.leI hE rfl rfl) fun a hE => ?_
        refine hE.qpur (X.move hE rfl) fun a hE => ?_
        refine WQ.join (ds := []) (N := 84) (σ := Bool) (fun s => [(59, (.bool s)), (0, (Sl.v x0)), (1, (.int .i64 x1)), (9, (.int .i64 x9_1)), (10, (.int .i64 x10_1))]) (fun s => V_slices_partitionEqualOrdered_string_r6 x0 Ret Kl2 x9_1 x10_1 Kl5 s w) 10 ?_ (fun hr6 => ?_)
        · intro x59 a H hE
          try dsimp only at H hE
          unfold V_slices_partitionEqualOrdered_string_r6 at H
          refine C.qnil (fun w hB => ?_)
          replace H := H w hB
          refine (tn ?_)
          refine C.condB hE rfl (fun hc => ?_) (fun hc => ?_)
          · replace H := H.1 hc
            refine C.skip (tn ?_)
            refine C.block ?_
            refine C.region ?_
            refine hE.pur (X.move hE rfl) fun a hE => ?_
            refine hE.pur (X.sub hE rfl rfl) fun a hE => ?_
            refine hE.pur (X.assign hE rfl) fun a hE => ?_
            rw [hK_l5] at H
            exact C.nil (bn (tn ⟨(IntKind.wrap .i64 (x10_1 - 1)), hE.weak ⟨rfl, rfl, rfl, rfl, trivial⟩, H⟩))
          · replace H := H.2 hc
            refine C.exit (te (te (be (tn ?_))))
            refine C.seq ?_
            refine C.seq ?_
            refine C.region ?_
            refine hE.pur (X.move hE rfl) fun a hE => ?_
            refine hE.pur (X.move hE rfl) fun a hE => ?_
            refine hE.pur (X.gtI hE rfl rfl) fun a hE => ?_
            refine C.nil (tn ?_)
            refine C.condP hE rfl (fun hc => ?_) (fun hc => ?_)
            · replace H := H.1 hc
              refine C.exit (te (bo (te (be (tn ?_)))))
              refine C.seq ?_
              refine C.region ?_
              refine hE.pur (X.move hE rfl) fun a hE => ?_
              refine hE.pur (X.assign hE rfl) fun a hE => ?_
              refine C.nil (tn ?_)
              exact C.ret (C.ret1 hE rfl rfl ⟨_, rfl, H⟩)
            · replace H := H.2 hc
              refine C.skip (tn ?_)
              refine C.join (ds := []) (N := 84) (σ := Unit) (fun s => [(0, (Sl.v x0)), (1, (.int .i64 x1)), (9, (.int .i64 x9_1)), (10, (.int .i64 x10_1))]) (fun s w => V_slices_partitionEqualOrdered_string_j7 Kl2 x9_1 x10_1  w) ?_ (fun hj7 => ?_)
              · rintro ⟨⟩ w a H hE
                try dsimp only at H hE
                unfold V_slices_partitionEqualOrdered_string_j7 at H
                refine C.seq ?_
                refine C.region ?_
                refine hE.pur (X.move hE rfl) fun a hE => ?_
                refine hE.pur (X.add hE rfl rfl) fun a hE => ?_
                refine hE.pur (X.assign hE rfl) fun a hE => ?_
                refine C.nil (tn ?_)
                refine C.region ?_
                refine hE.pur (X.move hE rfl) fun a hE => ?_
                refine hE.pur (X.sub hE rfl rfl) fun a hE => ?_
                refine hE.pur (X.assign hE rfl) fun a hE => ?_
                rw [hK_l2] at H
                exact C.nil (bn (tn ⟨((IntKind.wrap .i64 (x9_1 + 1)), (IntKind.wrap .i64 (x10_1 - 1))), hE.weak ⟨rfl, rfl, rfl, rfl, trivial⟩, H⟩))
              · refine C.any 16 #[false, false, false, false, false, false, false, false, false, false, false, false, false, false, false, false] (by kernel_rfl) (fun w hB => ?_)
                replace H := H w hB
                refine hE.apur (i := 0) (fun _ _ _ _ _ h => h) (by kernel_rfl) rfl (by kernel_rfl) (by kernel_rfl) (by rfl) (l2 := #[true, false, false, false, false, false, false, false, false, false, false, false, false, false, false, false]) (pn_run (X.move hE rfl)) fun a hE => ?_
                refine hE.apur (i := 1) (fun _ _ _ _ _ h => h) (by kernel_rfl) rfl (by kernel_rfl) (by kernel_rfl) (by rfl) (l2 := #[true, true, false, false, false, false, false, false, false, false, false, false, false, false, false, false]) (pn_run (X.move hE rfl)) fun a hE => ?_
                refine hE.apur (i := 2) (fun _ _ _ _ _ h => h) (by kernel_rfl) rfl (by kernel_rfl) (by kernel_rfl) (by rfl) (l2 := #[true, true, true, false, false, false, false, false, false, false, false, false, false, false, false, false]) (pn_run (X.move hE rfl)) fun a hE => ?_
                refine hE.apur (i := 3) (fun _ _ _ _ _ h => h) (by kernel_rfl) rfl (by kernel_rfl) (by kernel_rfl) (by rfl) (l2 := #[true, true, true, true, false, false, false, false, false, false, false, false, false, false, false, false]) (pn_run (X.move hE rfl)) fun a hE => ?_
                refine hE.apur (i := 4) (fun _ _ _ _ _ h => h) (by kernel_rfl) rfl (by kernel_rfl) (by kernel_rfl) (by rfl) (l2 := #[true, true, true, true, true, false, false, false, false, false, false, false, false, false, false, false]) (pn_run (X.move hE rfl)) fun a hE => ?_
                refine hE.apur (i := 5) (fun _ _ _ _ _ h => h) (by kernel_rfl) rfl (by kernel_rfl) (by kernel_rfl) (by rfl) (l2 := #[true, true, true, true, true, true, false, false, false, false, false, false, false, false, false, false]) (pn_run (X.move hE rfl)) fun a hE => ?_
                refine hE.aop (i := 6) (fun _ _ _ _ _ h => h) (by kernel_rfl) rfl (by kernel_rfl) (by kernel_rfl) (by rfl) (l2 := #[true, true, true, true, true, true, true, false, false, false, false, false, false, false, false, false]) (X.indexAddr hE rfl rfl) H fun x71 a H hE => ?_
                refine hE.apur (i := 8) (fun _ _ _ _ _ h => h) (by kernel_rfl) rfl (by kernel_rfl) (by kernel_rfl) (by rfl) (l2 := #[true, true, true, true, true, true, true, false, true, false, false, false, false, false, false, false]) (pn_run (X.move hE rfl)) fun a hE => ?_
                refine hE.apur (i := 9) (fun _ _ _ _ _ h => h) (by kernel_rfl) rfl (by kernel_rfl) (by kernel_rfl) (by rfl) (l2 := #[true, true, true, true, true, true, true, false, true, true, false, false, false, false, false, false]) (pn_run (X.move hE rfl)) fun a hE => ?_
                refine hE.aop (i := 10) (fun _ _ _ _ _ h => h) (by kernel_rfl) rfl (by kernel_rfl) (by kernel_rfl) (by rfl) (l2 := #[true, true, true, true, true, true, true, false, true, true, true, false, false, false, false, false]) (X.indexAddr hE rfl rfl) H fun x75 a H hE => ?_
                refine WA.two (i := 7) (j := 11) (l2 := #[true, true, true, true, true, true, true, true, true, true, true, false, false, false, false, false]) (l3 := #[true, true, true, true, true, true, true, false, true, true, true, true, false, false, false, false]) rfl rfl (by kernel_rfl) (by rfl) (by rfl) ?_ ?_
                · replace H := H.1
                  intro K hK
                  refine hE.wop (X.load hE rfl) H fun x72 w a H hE => ?_
                  refine hK _ _ ?_
                  refine WA.one (i := 11) (l2 := #[true, true, true, true, true, true, true, true, true, true, true, true, false, false, false, false]) rfl (by kernel_rfl) (by rfl) ?_
                  intro K hK
                  refine hE.wop (X.load hE rfl) H fun x76 w a H hE => ?_
                  refine hK _ _ ?_
                  refine hE.aop (i := 12) (fun _ _ _ _ _ h => h) (by kernel_rfl) rfl (by kernel_rfl) (by kernel_rfl) (by rfl) (l2 := #[true, true, true, true, true, true, true, true, true, true, true, true, true, false, false, false]) (X.indexAddr hE rfl rfl) H fun x77 a H hE => ?_
                  refine WA.one (i := 13) (l2 := #[true, true, true, true, true, true, true, true, true, true, true, true, true, true, false, false]) rfl (by kernel_rfl) (by rfl) ?_
                  intro K hK
                  refine hE.wopu (X.store hE rfl rfl) H fun w a H hE => ?_
                  refine hK _ _ ?_
                  refine hE.aop (i := 14) (fun _ _ _ _ _ h => h) (by kernel_rfl) rfl (by kernel_rfl) (by kernel_rfl) (by rfl) (l2 := #[true, true, true, true, true, true, true, true, true, true, true, true, true, true, true, false]) (X.indexAddr hE rfl rfl) H fun x78 a H hE => ?_
                  refine WA.one (i := 15) (l2 := #[true, true, true, true, true, true, true, true, true, true, true, true, true, true, true, true]) rfl (by kernel_rfl) (by rfl) ?_
                  intro K hK
                  refine hE.wopu (X.store hE rfl rfl) H fun w a H hE => ?_
                  refine hK _ _ ?_
                  refine WA.nil (by kernel_rfl) ?_
                  exact (tn (hj7 () _ _ H (hE.weak ⟨rfl, rfl, rfl, rfl, trivial⟩)))
                · replace H := H.2
                  intro K hK
                  refine hE.wop (X.load hE rfl) H fun x76_1 w a H hE => ?_
                  refine hK _ _ ?_
                  refine WA.one (i := 7) (l2 := #[true, true, true, true, true, true, true, true, true, true, true, true, false, false, false, false]) rfl (by kernel_rfl) (by rfl) ?_
                  intro K hK
                  refine hE.wop (X.load hE rfl) H fun x72_1 w a H hE => ?_
                  refine hK _ _ ?_
                  refine hE.aop (i := 12) (fun _ _ _ _ _ h => h) (by kernel_rfl) rfl (by kernel_rfl) (by kernel_rfl) (by rfl) (l2 := #[true, true, true, true, true, true, true, true, true, true, true, true, true, false, false, false]) (X.indexAddr hE rfl rfl) H fun x77_1 a H hE => ?_
                  refine WA.one (i := 13) (l2 := #[true, true, true, true, true, true, true, true, true, true, true, true, true, true, false, false]) rfl (by kernel_rfl) (by rfl) ?_
                  intro K hK
                  refine hE.wopu (X.store hE rfl rfl) H fun w a H hE => ?_
                  refine hK _ _ ?_
                  refine hE.aop (i := 14) (fun _ _ _ _ _ h => h) (by kernel_rfl) rfl (by kernel_rfl) (by kernel_rfl) (by rfl) (l2 := #[true, true, true, true, true, true, true, true, true, true, true, true, true, true, true, false]) (X.indexAddr hE rfl rfl) H fun x78_1 a H hE => ?_
                  refine WA.one (i := 15) (l2 := #[true, true, true, true, true, true, true, true, true, true, true, true, true, true, true, true]) rfl (by kernel_rfl) (by rfl) ?_
                  intro K hK
                  refine hE.wopu (X.store hE rfl rfl) H fun w a H hE => ?_
                  refine hK _ _ ?_
                  refine WA.nil (by kernel_rfl) ?_
                  exact (tn (hj7 () _ _ H (hE.weak ⟨rfl, rfl, rfl, rfl, trivial⟩)))
        · rcases Classical.em ((x9_1 ≤ x10_1)) with hbr6 | hbr6
          · replace H := H.1 hbr6
            replace hE := hE.bool (b := true) (t := 49) rfl (decide_eq_true hbr6)
            refine hE.qon (by rfl) (by rfl) ?_
            refine hE.qpur (X.move hE rfl) fun a hE => ?_
            refine hE.qon (by rfl) (by rfl) ?_
            refine hE.qpur (X.move hE rfl) fun a hE => ?_
            refine hE.qon (by rfl) (by rfl) ?_
            refine hE.qop (X.indexAddr hE rfl rfl) H fun x52 a H hE => ?_
            refine hE.qon (by rfl) (by rfl) ?_
            refine hE.qop (X.load hE rfl) H fun x53 a H hE => ?_
            refine hE.qon (by rfl) (by rfl) ?_
            refine hE.qpur (X.move hE rfl) fun a hE => ?_
            refine hE.qon (by rfl) (by rfl) ?_
            refine hE.qpur (X.move hE rfl) fun a hE => ?_
            refine hE.qon (by rfl) (by rfl) ?_
            refine hE.qop (X.indexAddr hE rfl rfl) H fun x56 a H hE => ?_
            refine hE.qon (by rfl) (by rfl) ?_
            refine hE.qop (X.load hE rfl) H fun x57 a H hE => ?_
            refine hE.qon (by rfl) (by rfl) ?_
            obtain ⟨r, hc, H⟩ := H
            refine hE.qcall (fun w' => X.callF hE ent52 rfl rfl) hc fun a hE => ?_
            refine hE.qpur (X.pickT hE rfl rfl) fun a hE => ?_
            exact hr6 r _ H (hE.weak ⟨rfl, rfl, rfl, rfl, rfl, trivial⟩)
          · replace H := H.2 hbr6
            replace hE := hE.bool (b := false) (t := 49) rfl (decide_eq_false hbr6)
            refine hE.qoff (by rfl) (by rfl) (by decide) (fun a hE => ?_)
            refine hE.qoff (by rfl) (by rfl) (by decide) (fun a hE => ?_)
            refine hE.qoff (by rfl) (by rfl) (by decide) (fun a hE => ?_)
            refine hE.qoff (by rfl) (by rfl) (by decide) (fun a hE => ?_)
            refine hE.qoff (by rfl) (by rfl) (by decide) (fun a hE => ?_)
            refine hE.qoff (by rfl) (by rfl) (by decide) (fun a hE => ?_)
            refine hE.qoff (by rfl) (by rfl) (by decide) (fun a hE => ?_)
            refine hE.qoff (by rfl) (by rfl) (by decide) (fun a hE => ?_)
            refine hE.qoff (by rfl) (by rfl) (by decide) (fun a hE => ?_)
            refine hE.qpur (X.pickF hE rfl rfl) fun a hE => ?_
            exact hr6 false _ H (hE.weak ⟨rfl, rfl, rfl, rfl, rfl, trivial⟩)
    · rcases Classical.em ((x9_1 ≤ x10)) with hbr4 | hbr4
      · replace H := H.1 hbr4
        replace hE := hE.bool (b := true) (t := 32) rfl (decide_eq_true hbr4)
        refine hE.qon (by rfl) (by rfl) ?_
        refine hE.qpur (X.move hE rfl) fun a hE => ?_
        refine hE.qon (by rfl) (by rfl) ?_
        refine hE.qpur (X.move hE rfl) fun a hE => ?_
        refine hE.qon (by rfl) (by rfl) ?_
        refine hE.qop (X.indexAddr hE rfl rfl) H fun x35 a H hE => ?_
        refine hE.qon (by rfl) (by rfl) ?_
        refine hE.qop (X.load hE rfl) H fun x36 a H hE => ?_
        refine hE.qon (by rfl) (by rfl) ?_
        refine hE.qpur (X.move hE rfl) fun a hE => ?_
        refine hE.qon (by rfl) (by rfl) ?_
        refine hE.qpur (X.move hE rfl) fun a hE => ?_
        refine hE.qon (by rfl) (by rfl) ?_
        refine hE.qop (X.indexAddr hE rfl rfl) H fun x39 a H hE => ?_
        refine hE.qon (by rfl) (by rfl) ?_
        refine hE.qop (X.load hE rfl) H fun x40 a H hE => ?_
        refine hE.qon (by rfl) (by rfl) ?_
        obtain ⟨r_1, hc, H⟩ := H
        refine hE.qcall (fun w' => X.callF hE ent52 rfl rfl) hc fun a hE => ?_
        refine hE.qon (by rfl) (by rfl) ?_
        refine hE.qpur (X.not hE rfl) fun a hE => ?_
        refine hE.qpur (X.pickT hE rfl rfl) fun a hE => ?_
        exact hr4 (!r_1) _ H (hE.weak ⟨rfl, rfl, rfl, rfl, rfl, trivial⟩)
      · replace H := H.2 hbr4
        replace hE := hE.bool (b := false) (t := 32) rfl (decide_eq_false hbr4)
        refine hE.qoff (by rfl) (by rfl) (by decide) (fun a hE => ?_)
        refine hE.qoff (by rfl) (by rfl) (by decide) (fun a hE => ?_)
        refine hE.qoff (by rfl) (by rfl) (by decide) (fun a hE => ?_)
        refine hE.qoff (by rfl) (by rfl) (by decide) (fun a hE => ?_)
        refine hE.qoff (by rfl) (by rfl) (by decide) (fun a hE => ?_)
        refine hE.qoff (by rfl) (by rfl) (by decide) (fun a hE => ?_)
        refine hE.qoff (by rfl) (by rfl) (by decide) (fun a hE => ?_)
        refine hE.qoff (by rfl) (by rfl) (by decide) (fun a hE => ?_)
        refine hE.qoff (by rfl) (by rfl) (by decide) (fun a hE => ?_)
        refine hE.qoff (by rfl) (by rfl) (by decide) (fun a hE => ?_)
        refine hE.qpur (X.pickF hE rfl rfl) fun a hE => ?_
        exact hr4 false _ H (hE.weak ⟨rfl, rfl, rfl, rfl, rfl, trivial⟩)
  · refine C.any 16 #[false, false, false, false, false, false, false, false, false, false, false, false, false, false, false, false] (by kernel_rfl) (fun w hB => ?_)
    replace H := H w hB
    refine hE.apur (i := 0) (fun _ _ _ _ _ h => h) (by kernel_rfl) rfl (by kernel_rfl) (by kernel_rfl) (by rfl) (l2 := #[true, false, false, false, false, false, false, false, false, false, false, false, false, false, false, false]) (pn_run (X.move hE rfl)) fun a hE => ?_
    refine hE.apur (i := 1) (fun _ _ _ _ _ h => h) (by kernel_rfl) rfl (by kernel_rfl) (by kernel_rfl) (by rfl) (l2 := #[true, true, false, false, false, false, false, false, false, false, false, false, false, false, false, false]) (pn_run (X.move hE rfl)) fun a hE => ?_
    refine hE.apur (i := 2) (fun _ _ _ _ _ h => h) (by kernel_rfl) rfl (by kernel_rfl) (by kernel_rfl) (by rfl) (l2 := #[true, true, true, false, false, false, false, false, false, false, false, false, false, false, false, false]) (pn_run (X.move hE rfl)) fun a hE => ?_
    refine hE.apur (i := 3) (fun _ _ _ _ _ h => h) (by kernel_rfl) rfl (by kernel_rfl) (by kernel_rfl) (by rfl) (l2 := #[true, true, true, true, false, false, false, false, false, false, false, false, false, false, false, false]) (pn_run (X.move hE rfl)) fun a hE => ?_
    refine hE.apur (i := 4) (fun _ _ _ _ _ h => h) (by kernel_rfl) rfl (by kernel_rfl) (by kernel_rfl) (by rfl) (l2 := #[true, true, true, true, true, false, false, false, false, false, false, false, false, false, false, false]) (pn_run (X.move hE rfl)) fun a hE => ?_
    refine hE.apur (i := 5) (fun _ _ _ _ _ h => h) (by kernel_rfl) rfl (by kernel_rfl) (by kernel_rfl) (by rfl) (l2 := #[true, true, true, true, true, true, false, false, false, false, false, false, false, false, false, false]) (pn_run (X.move hE rfl)) fun a hE => ?_
    refine hE.aop (i := 6) (fun _ _ _ _ _ h => h) (by kernel_rfl) rfl (by kernel_rfl) (by kernel_rfl) (by rfl) (l2 := #[true, true, true, true, true, true, true, false, false, false, false, false, false, false, false, false]) (X.indexAddr hE rfl rfl) H fun x17 a H hE => ?_
    refine hE.apur (i := 8) (fun _ _ _ _ _ h => h) (by kernel_rfl) rfl (by kernel_rfl) (by kernel_rfl) (by rfl) (l2 := #[true, true, true, true, true, true, true, false, true, false, false, false, false, false, false, false]) (pn_run (X.move hE rfl)) fun a hE => ?_
    refine hE.apur (i := 9) (fun _ _ _ _ _ h => h) (by kernel_rfl) rfl (by kernel_rfl) (by kernel_rfl) (by rfl) (l2 := #[true, true, true, true, true, true, true, false, true, true, false, false, false, false, false, false]) (pn_run (X.move hE rfl)) fun a hE => ?_
    refine hE.aop (i := 10) (fun _ _ _ _ _ h => h) (by kernel_rfl) rfl (by kernel_rfl) (by kernel_rfl) (by rfl) (l2 := #[true, true, true, true, true, true, true, false, true, true, true, false, false, false, false, false]) (X.indexAddr hE rfl rfl) H fun x21 a H hE => ?_
    refine WA.two (i := 7) (j := 11) (l2 := #[true, true, true, true, true, true, true, true, true, true, true, false, false, false, false, false]) (l3 := #[true, true, true, true, true, true, true, false, true, true, true, true, false, false, false, false]) rfl rfl (by kernel_rfl) (by rfl) (by rfl) ?_ ?_
    · replace H := H.1
      intro K hK
      refine hE.wop (X.load hE rfl) H fun x18 w a H hE => ?_
      refine hK _ _ ?_
      refine WA.one (i := 11) (l2 := #[true, true, true, true, true, true, true, true, true, true, true, true, false, false, false, false]) rfl (by kernel_rfl) (by rfl) ?_
      intro K hK
      refine hE.wop (X.load hE rfl) H fun x22 w a H hE => ?_
      refine hK _ _ ?_
      refine hE.aop (i := 12) (fun _ _ _ _ _ h => h) (by kernel_rfl) rfl (by kernel_rfl) (by kernel_rfl) (by rfl) (l2 := #[true, true, true, true, true, true, true, true, true, true, true, true, true, false, false, false]) (X.indexAddr hE rfl rfl) H fun x23 a H hE => ?_
      refine WA.one (i := 13) (l2 := #[true, true, true, true, true, true, true, true, true, true, true, true, true, true, false, false]) rfl (by kernel_rfl) (by rfl) ?_
      intro K hK
      refine hE.wopu (X.store hE rfl rfl) H fun w a H hE => ?_
      refine hK _ _ ?_
      refine hE.aop (i := 14) (fun _ _ _ _ _ h => h) (by kernel_rfl) rfl (by kernel_rfl) (by kernel_rfl) (by rfl) (l2 := #[true, true, true, true, true, true, true, true, true, true, true, true, true, true, true, false]) (X.indexAddr hE rfl rfl) H fun x24 a H hE => ?_
      refine WA.one (i := 15) (l2 := #[true, true, true, true, true, true, true, true, true, true, true, true, true, true, true, true]) rfl (by kernel_rfl) (by rfl) ?_
      intro K hK
      refine hE.wopu (X.store hE rfl rfl) H fun w a H hE => ?_
      refine hK _ _ ?_
      refine WA.nil (by kernel_rfl) ?_
      exact (tn (hj1 () _ _ H (hE.weak ⟨rfl, rfl, rfl, trivial⟩)))
    · replace H := H.2
      intro K hK
      refine hE.wop (X.load hE rfl) H fun x22_1 w a H hE => ?_
      refine hK _ _ ?_
      refine WA.one (i := 7) (l2 := #[true, true, true, true, true, true, true, true, true, true, true, true, false, false, false, false]) rfl (by kernel_rfl) (by rfl) ?_
      intro K hK
      refine hE.wop (X.load hE rfl) H fun x18_1 w a H hE => ?_
      refine hK _ _ ?_
      refine hE.aop (i := 12) (fun _ _ _ _ _ h => h) (by kernel_rfl) rfl (by kernel_rfl) (by kernel_rfl) (by rfl) (l2 := #[true, true, true, true, true, true, true, true, true, true, true, true, true, false, false, false]) (X.indexAddr hE rfl rfl) H fun x23_1 a H hE => ?_
      refine WA.one (i := 13) (l2 := #[true, true, true, true, true, true, true, true, true, true, true, true, true, true, false, false]) rfl (by kernel_rfl) (by rfl) ?_
      intro K hK
      refine hE.wopu (X.store hE rfl rfl) H fun w a H hE => ?_
      refine hK _ _ ?_
      refine hE.aop (i := 14) (fun _ _ _ _ _ h => h) (by kernel_rfl) rfl (by kernel_rfl) (by kernel_rfl) (by rfl) (l2 := #[true, true, true, true, true, true, true, true, true, true, true, true, true, true, true, false]) (X.indexAddr hE rfl rfl) H fun x24_1 a H hE => ?_
      refine WA.one (i := 15) (l2 := #[true, true, true, true, true, true, true, true, true, true, true, true, true, true, true, true]) rfl (by kernel_rfl) (by rfl) ?_
      intro K hK
      refine hE.wopu (X.store hE rfl rfl) H fun w a H hE => ?_
      refine hK _ _ ?_
      refine WA.nil (by kernel_rfl) ?_
      exact (tn (hj1 () _ _ H (hE.weak ⟨rfl, rfl, rfl, trivial⟩)))
/-! ### slices.partitionOrdered[string]: function 54 -/
def V_slices_partitionOrdered_string_j6 (Ret : Int → Bool → World → Prop) (x11 : Int) (w : World) : Prop :=
  Ret x11 true w
def V_slices_partitionOrdered_string_j13 (Ret : Int → Bool → World → Prop) (x11_2 : Int) (w : World) : Prop :=
  Ret x11_2 false w
def V_slices_partitionOrdered_string_j14 (Kl8 : Int → Int → World → Prop) (x10_2 : Int) (x11_2 : Int) (w : World) : Prop :=
  Kl8 (IntKind.wrap .i64 (x10_2 + 1)) (IntKind.wrap .i64 (x11_2 - 1)) w
def V_slices_partitionOrdered_string_r12 (x0 : Sl) (x1 : Int) (Ret : Int → Bool → World → Prop) (Kl8 : Int → Int → World → Prop) (x10_2 : Int) (x11_2 : Int) (Kl11 : Int → World → Prop) (x129 : Bool) (w : World) : Prop :=
  nextB w (fun w => (x129 = true → (Kl11 (IntKind.wrap .i64 (x11_2 - 1)) w)) ∧ (x129 = false → (((x11_2 < x10_2) → (nextB w (fun w => opP Try.prog Value.pointer (Instr.indexAt 23 (Sl.v x0) (.int .i64 x1)) (fun x159 => opP Try.prog Value.pointer (Instr.indexAt 23 (Sl.v x0) (.int .i64 x11_2)) (fun x163 => (opE Try.prog Value.string (Instr.loadAt 9 (.pointer x159)) w (fun x160 w => opE Try.prog Value.string (Instr.loadAt 9 (.pointer x163)) w (fun x164 w => opP Try.prog Value.pointer (Instr.indexAt 23 (Sl.v x0) (.int .i64 x11_2)) (fun x165 => opU Try.prog (Instr.storeAt 9 (.pointer x165) (.string x160)) w (fun w => opP Try.prog Value.pointer (Instr.indexAt 23 (Sl.v x0) (.int .i64 x1)) (fun x166 => opU Try.prog (Instr.storeAt 9 (.pointer x166) (.string x164)) w (fun w => V_slices_partitionOrdered_string_j13 Ret x11_2 w))))))) ∧ (opE Try.prog Value.string (Instr.loadAt 9 (.pointer x163)) w (fun x164_1 w => opE Try.prog Value.string (Instr.loadAt 9 (.pointer x159)) w (fun x160_1 w => opP Try.prog Value.pointer (Instr.indexAt 23 (Sl.v x0) (.int .i64 x11_2)) (fun x165_1 => opU Try.prog (Instr.storeAt 9 (.pointer x165_1) (.string x160_1)) w (fun w => opP Try.prog Value.pointer (Instr.indexAt 23 (Sl.v x0) (.int .i64 x1)) (fun x166_1 => opU Try.prog (Instr.storeAt 9 (.pointer x166_1) (.string x164_1)) w (fun w => V_slices_partitionOrdered_string_j13 Ret x11_2 w)))))))))))) ∧ (¬ (x11_2 < x10_2) → (nextB w (fun w => opP Try.prog Value.pointer (Instr.indexAt 23 (Sl.v x0) (.int .i64 x11_2)) (fun x141 => opP Try.prog Value.pointer (Instr.indexAt 23 (Sl.v x0) (.int .i64 x10_2)) (fun x145 => (opE Try.prog Value.string (Instr.loadAt 9 (.pointer x141)) w (fun x142 w => opE Try.prog Value.string (Instr.loadAt 9 (.pointer x145)) w (fun x146 w => opP Try.prog Value.pointer (Instr.indexAt 23 (Sl.v x0) (.int .i64 x10_2)) (fun x147 => opU Try.prog (Instr.storeAt 9 (.pointer x147) (.string x142)) w (fun w => opP Try.prog Value.pointer (Instr.indexAt 23 (Sl.v x0) (.int .i64 x11_2)) (fun x148 => opU Try.prog (Instr.storeAt 9 (.pointer x148) (.string x146)) w (fun w => V_slices_partitionOrdered_string_j14 Kl8 x10_2 x11_2 w))))))) ∧ (opE Try.prog Value.string (Instr.loadAt 9 (.pointer x145)) w (fun x146_1 w => opE Try.prog Value.string (Instr.loadAt 9 (.pointer x141)) w (fun x142_1 w => opP Try.prog Value.pointer (Instr.indexAt 23 (Sl.v x0) (.int .i64 x10_2)) (fun x147_1 => opU Try.prog (Instr.storeAt 9 (.pointer x147_1) (.string x142_1)) w (fun w => opP Try.prog Value.pointer (Instr.indexAt 23 (Sl.v x0) (.int .i64 x11_2)) (fun x148_1 => opU Try.prog (Instr.storeAt 9 (.pointer x148_1) (.string x146_1)) w (fun w => V_slices_partitionOrdered_string_j14 Kl8 x10_2 x11_2 w)))))))))))))))
def V_slices_partitionOrdered_string_l11b (x0 : Sl) (x1 : Int) (Ret : Int → Bool → World → Prop) (Kl8 : Int → Int → World → Prop) (x10_2 : Int) (x11_2 : Int) (w : World) (Kl11 : Int → World → Prop) : Prop :=
  ((x10_2 ≤ x11_2) → (opB Try.prog Value.pointer (Instr.indexAt 23 (Sl.v x0) (.int .i64 x11_2)) w (fun x121 => opB Try.prog Value.string (Instr.loadAt 9 (.pointer x121)) w (fun x122 => opB Try.prog Value.pointer (Instr.indexAt 23 (Sl.v x0) (.int .i64 x1)) w (fun x125 => opB Try.prog Value.string (Instr.loadAt 9 (.pointer x125)) w (fun x126 => ∃ (r : Bool), (∀ w', Bel w w' → Cl Try.prog 52 [(.string x122), (.string x126)].toArray w' (fun e w'' => e = .returned (.bool r) ∧ Bel w' w'')) ∧ (V_slices_partitionOrdered_string_r12 x0 x1 Ret Kl8 x10_2 x11_2 Kl11 (!r) w))))))) ∧ (¬ (x10_2 ≤ x11_2) → (V_slices_partitionOrdered_string_r12 x0 x1 Ret Kl8 x10_2 x11_2 Kl11 false w))
def V_slices_partitionOrdered_string_r10 (x0 : Sl) (x1 : Int) (Ret : Int → Bool → World → Prop) (x11_1 : Int) (Kl8 : Int → Int → World → Prop) (x10_2 : Int) (Kl9 : Int → World → Prop) (x112 : Bool) (w : World) : Prop :=
  nextB w (fun w => (x112 = true → (Kl9 (IntKind.wrap .i64 (x10_2 + 1)) w)) ∧ (x112 = false → (∃ (I : Int → World → Prop) (μ : Int → World → Nat), I x11_1 w ∧ ∀ (x11_2 : Int) w, I x11_2 w → V_slices_partitionOrdered_string_l11b x0 x1 Ret Kl8 x10_2 x11_2 w (fun x11_2' w' => I x11_2' w' ∧ μ x11_2' w' < μ x11_2 w))))
def V_slices_partitionOrdered_string_l9b (x0 : Sl) (x1 : Int) (Ret : Int → Bool → World → Prop) (x11_1 : Int) (Kl8 : Int → Int → World → Prop) (x10_2 : Int) (w : World) (Kl9 : Int → World → Prop) : Prop :=
  ((x10_2 ≤ x11_1) → (opB Try.prog Value.pointer (Instr.indexAt 23 (Sl.v x0) (.int .i64 x10_2)) w (fun x105 => opB Try.prog Value.string (Instr.loadAt 9 (.pointer x105)) w (fun x106 => opB Try.prog Value.pointer (Instr.indexAt 23 (Sl.v x0) (.int .i64 x1)) w (fun x109 => opB Try.prog Value.string (Instr.loadAt 9 (.pointer x109)) w (fun x110 => ∃ (r_1 : Bool), (∀ w', Bel w w' → Cl Try.prog 52 [(.string x106), (.string x110)].toArray w' (fun e w'' => e = .returned (.bool r_1) ∧ Bel w' w'')) ∧ (V_slices_partitionOrdered_string_r10 x0 x1 Ret x11_1 Kl8 x10_2 Kl9 r_1 w))))))) ∧ (¬ (x10_2 ≤ x11_1) → (V_slices_partitionOrdered_string_r10 x0 x1 Ret x11_1 Kl8 x10_2 Kl9 false w))
def V_slices_partitionOrdered_string_l8b (x0 : Sl) (x1 : Int) (Ret : Int → Bool → World → Prop) (x10_1 : Int) (x11_1 : Int) (w : World) (Kl8 : Int → Int → World → Prop) : Prop :=
  ∃ (I : Int → World → Prop) (μ : Int → World → Nat), I x10_1 w ∧ ∀ (x10_2 : Int) w, I x10_2 w → V_slices_partitionOrdered_string_l9b x0 x1 Ret x11_1 Kl8 x10_2 w (fun x10_2' w' => I x10_2' w' ∧ μ x10_2' w' < μ x10_2 w)
def V_slices_partitionOrdered_string_j7 (x0 : Sl) (x1 : Int) (Ret : Int → Bool → World → Prop) (x10 : Int) (x11 : Int) (w : World) : Prop :=
  ∃ (I : Int → Int → World → Prop) (μ : Int → Int → World → Nat), I (IntKind.wrap .i64 (x10 + 1)) (IntKind.wrap .i64 (x11 - 1)) w ∧ ∀ (x10_1 : Int) (x11_1 : Int) w, I x10_1 x11_1 w → V_slices_partitionOrdered_string_l8b x0 x1 Ret x10_1 x11_1 w (fun x10_1' x11_1' w' => I x10_1' x11_1' w' ∧ μ x10_1' x11_1' w' < μ x10_1 x11_1 w)
def V_slices_partitionOrdered_string_r5 (x0 : Sl) (x1 : Int) (Ret : Int → Bool → World → Prop) (x10 : Int) (x11 : Int) (Kl4 : Int → World → Prop) (x60 : Bool) (w : World) : Prop :=
  nextB w (fun w => (x60 = true → (Kl4 (IntKind.wrap .i64 (x11 - 1)) w)) ∧ (x60 = false → (((x11 < x10) → (nextB w (fun w => opP Try.prog Value.pointer (Instr.indexAt 23 (Sl.v x0) (.int .i64 x1)) (fun x72 => opP Try.prog Value.pointer (Instr.indexAt 23 (Sl.v x0) (.int .i64 x11)) (fun x76 => (opE Try.prog Value.string (Instr.loadAt 9 (.pointer x72)) w (fun x73 w => opE Try.prog Value.string (Instr.loadAt 9 (.pointer x76)) w (fun x77 w => opP Try.prog Value.pointer (Instr.indexAt 23 (Sl.v x0) (.int .i64 x11)) (fun x78 => opU Try.prog (Instr.storeAt 9 (.pointer x78) (.string x73)) w (fun w => opP Try.prog Value.pointer (Instr.indexAt 23 (Sl.v x0) (.int .i64 x1)) (fun x79 => opU Try.prog (Instr.storeAt 9 (.pointer x79) (.string x77)) w (fun w => V_slices_partitionOrdered_string_j6 Ret x11 w))))))) ∧ (opE Try.prog Value.string (Instr.loadAt 9 (.pointer x76)) w (fun x77_1 w => opE Try.prog Value.string (Instr.loadAt 9 (.pointer x72)) w (fun x73_1 w => opP Try.prog Value.pointer (Instr.indexAt 23 (Sl.v x0) (.int .i64 x11)) (fun x78_1 => opU Try.prog (Instr.storeAt 9 (.pointer x78_1) (.string x73_1)) w (fun w => opP Try.prog Value.pointer (Instr.indexAt 23 (Sl.v x0) (.int .i64 x1)) (fun x79_1 => opU Try.prog (Instr.storeAt 9 (.pointer x79_1) (.string x77_1)) w (fun w => V_slices_partitionOrdered_string_j6 Ret x11 w)))))))))))) ∧ (¬ (x11 < x10) → (nextB w (fun w => opP Try.prog Value.pointer (Instr.indexAt 23 (Sl.v x0) (.int .i64 x11)) (fun x87 => opP Try.prog Value.pointer (Instr.indexAt 23 (Sl.v x0) (.int .i64 x10)) (fun x91 => (opE Try.prog Value.string (Instr.loadAt 9 (.pointer x87)) w (fun x88 w => opE Try.prog Value.string (Instr.loadAt 9 (.pointer x91)) w (fun x92 w => opP Try.prog Value.pointer (Instr.indexAt 23 (Sl.v x0) (.int .i64 x10)) (fun x93 => opU Try.prog (Instr.storeAt 9 (.pointer x93) (.string x88)) w (fun w => opP Try.prog Value.pointer (Instr.indexAt 23 (Sl.v x0) (.int .i64 x11)) (fun x94 => opU Try.prog (Instr.storeAt 9 (.pointer x94) (.string x92)) w (fun w => V_slices_partitionOrdered_string_j7 x0 x1 Ret x10 x11 w))))))) ∧ (opE Try.prog Value.string (Instr.loadAt 9 (.pointer x91)) w (fun x92_1 w => opE Try.prog Value.string (Instr.loadAt 9 (.pointer x87)) w (fun x88_1 w => opP Try.prog Value.pointer (Instr.indexAt 23 (Sl.v x0) (.int .i64 x10)) (fun x93_1 => opU Try.prog (Instr.storeAt 9 (.pointer x93_1) (.string x88_1)) w (fun w => opP Try.prog Value.pointer (Instr.indexAt 23 (Sl.v x0) (.int .i64 x11)) (fun x94_1 => opU Try.prog (Instr.storeAt 9 (.pointer x94_1) (.string x92_1)) w (fun w => V_slices_partitionOrdered_string_j7 x0 x1 Ret x10 x11 w)))))))))))))))
def V_slices_partitionOrdered_string_l4b (x0 : Sl) (x1 : Int) (Ret : Int → Bool → World → Prop) (x10 : Int) (x11 : Int) (w : World) (Kl4 : Int → World → Prop) : Prop :=
  ((x10 ≤ x11) → (opB Try.prog Value.pointer (Instr.indexAt 23 (Sl.v x0) (.int .i64 x11)) w (fun x52 => opB Try.prog Value.string (Instr.loadAt 9 (.pointer x52)) w (fun x53 => opB Try.prog Value.pointer (Instr.indexAt 23 (Sl.v x0) (.int .i64 x1)) w (fun x56 => opB Try.prog Value.string (Instr.loadAt 9 (.pointer x56)) w (fun x57 => ∃ (r_2 : Bool), (∀ w', Bel w w' → Cl Try.prog 52 [(.string x53), (.string x57)].toArray w' (fun e w'' => e = .returned (.bool r_2) ∧ Bel w' w'')) ∧ (V_slices_partitionOrdered_string_r5 x0 x1 Ret x10 x11 Kl4 (!r_2) w))))))) ∧ (¬ (x10 ≤ x11) → (V_slices_partitionOrdered_string_r5 x0 x1 Ret x10 x11 Kl4 false w))
def V_slices_partitionOrdered_string_r3 (x0 : Sl) (x1 : Int) (x2 : Int) (Ret : Int → Bool → World → Prop) (x10 : Int) (Kl2 : Int → World → Prop) (x43 : Bool) (w : World) : Prop :=
  nextB w (fun w => (x43 = true → (Kl2 (IntKind.wrap .i64 (x10 + 1)) w)) ∧ (x43 = false → (∃ (I : Int → World → Prop) (μ : Int → World → Nat), I (IntKind.wrap .i64 (x2 - 1)) w ∧ ∀ (x11 : Int) w, I x11 w → V_slices_partitionOrdered_string_l4b x0 x1 Ret x10 x11 w (fun x11' w' => I x11' w' ∧ μ x11' w' < μ x11 w))))
def V_slices_partitionOrdered_string_l2b (x0 : Sl) (x1 : Int) (x2 : Int) (Ret : Int → Bool → World → Prop) (x10 : Int) (w : World) (Kl2 : Int → World → Prop) : Prop :=
  ((x10 ≤ (IntKind.wrap .i64 (x2 - 1))) → (opB Try.prog Value.pointer (Instr.indexAt 23 (Sl.v x0) (.int .i64 x10)) w (fun x36 => opB Try.prog Value.string (Instr.loadAt 9 (.pointer x36)) w (fun x37 => opB Try.prog Value.pointer (Instr.indexAt 23 (Sl.v x0) (.int .i64 x1)) w (fun x40 => opB Try.prog Value.string (Instr.loadAt 9 (.pointer x40)) w (fun x41 => ∃ (r_3 : Bool), (∀ w', Bel w w' → Cl Try.prog 52 [(.string x37), (.string x41)].toArray w' (fun e w'' => e = .returned (.bool r_3) ∧ Bel w' w'')) ∧ (V_slices_partitionOrdered_string_r3 x0 x1 x2 Ret x10 Kl2 r_3 w))))))) ∧ (¬ (x10 ≤ (IntKind.wrap .i64 (x2 - 1))) → (V_slices_partitionOrdered_string_r3 x0 x1 x2 Ret x10 Kl2 false w))
def V_slices_partitionOrdered_string_j1 (x0 : Sl) (x1 : Int) (x2 : Int) (Ret : Int → Bool → World → Prop) (w : World) : Prop :=
  ∃ (I : Int → World → Prop) (μ : Int → World → Nat), I (IntKind.wrap .i64 (x1 + 1)) w ∧ ∀ (x10 : Int) w, I x10 w → V_slices_partitionOrdered_string_l2b x0 x1 x2 Ret x10 w (fun x10' w' => I x10' w' ∧ μ x10' w' < μ x10 w)
def V_slices_partitionOrdered_string (x0 : Sl) (x1 : Int) (x2 : Int) (x3 : Int) (w : World) (Ret : Int → Bool → World → Prop) : Prop :=
  nextB w (fun w => opP Try.prog Value.pointer (Instr.indexAt 23 (Sl.v x0) (.int .i64 x3)) (fun x18 => opP Try.prog Value.pointer (Instr.indexAt 23 (Sl.v x0) (.int .i64 x1)) (fun x22 => (opE Try.prog Value.string (Instr.loadAt 9 (.pointer x18)) w (fun x19 w => opE Try.prog Value.string (Instr.loadAt 9 (.pointer x22)) w (fun x23 w => opP Try.prog Value.pointer (Instr.indexAt 23 (Sl.v x0) (.int .i64 x1)) (fun x24 => opU Try.prog (Instr.storeAt 9 (.pointer x24) (.string x19)) w (fun w => opP Try.prog Value.pointer (Instr.indexAt 23 (Sl.v x0) (.int .i64 x3)) (fun x25 => opU Try.prog (Instr.storeAt 9 (.pointer x25) (.string x23)) w (fun w => V_slices_partitionOrdered_string_j1 x0 x1 x2 Ret w))))))) ∧ (opE Try.prog Value.string (Instr.loadAt 9 (.pointer x22)) w (fun x23_1 w => opE Try.prog Value.string (Instr.loadAt 9 (.pointer x18)) w (fun x19_1 w => opP Try.prog Value.pointer (Instr.indexAt 23 (Sl.v x0) (.int .i64 x1)) (fun x24_1 => opU Try.prog (Instr.storeAt 9 (.pointer x24_1) (.string x19_1)) w (fun w => opP Try.prog Value.pointer (Instr.indexAt 23 (Sl.v x0) (.int .i64 x3)) (fun x25_1 => opU Try.prog (Instr.storeAt 9 (.pointer x25_1) (.string x23_1)) w (fun w => V_slices_partitionOrdered_string_j1 x0 x1 x2 Ret w))))))))))
set_option maxRecDepth 100000 in
theorem L1_slices_partitionOrdered_string (x0 : Sl) (x1 : Int) (x2 : Int) (x3 : Int) (w : World) (Ret : Int → Bool → World → Prop) (H : V_slices_partitionOrdered_string x0 x1 x2 x3 w Ret) : Cl Try.prog 54 [(Sl.v x0), (.int .i64 x1), (.int .i64 x2), (.int .i64 x3)].toArray w (fun e w' => ∃ (r0 : Int) (r1 : Bool), e = .returned (.tuple [(.int .i64 r0), (.bool r1)].toArray) ∧ Ret r0 r1 w') := by
  unfold V_slices_partitionOrdered_string at H
  refine C.enter 168 (zipE 0 [(Sl.v x0), (.int .i64 x1), (.int .i64 x2), (.int .i64 x3)]) Try.func54 rfl rfl (by rfl) rfl ?_
  intro a hE
  replace hE : Sat [] 168 [(0, (Sl.v x0)), (1, (.int .i64 x1)), (2, (.int .i64 x2)), (3, (.int .i64 x3))] a := hE
  refine C.seq ?_
  refine C.region ?_
  refine hE.pur (X.assign hE rfl) fun a hE => ?_
  refine hE.pur (X.assign hE rfl) fun a hE => ?_
  refine C.nil (tn ?_)
  refine C.join (ds := []) (N := 168) (σ := Unit) (fun s => [(0, (Sl.v x0)), (1, (.int .i64 x1)), (2, (.int .i64 x2))]) (fun s w => V_slices_partitionOrdered_string_j1 x0 x1 x2 Ret  w) ?_ (fun hj1 => ?_)
  · rintro ⟨⟩ w a H hE
    try dsimp only at H hE
    unfold V_slices_partitionOrdered_string_j1 at H
    refine C.seq ?_
    refine C.region ?_
    refine hE.pur (X.move hE rfl) fun a hE => ?_
    refine hE.pur (X.add hE rfl rfl) fun a hE => ?_
    refine hE.pur (X.move hE rfl) fun a hE => ?_
    refine hE.pur (X.sub hE rfl rfl) fun a hE => ?_
    refine hE.pur (X.assign hE rfl) fun a hE => ?_
    refine hE.pur (X.assign hE rfl) fun a hE => ?_
    refine C.nil (tn ?_)
    refine C.seq ?_
    refine C.block ?_
    obtain ⟨I_l2, μ_l2, h0, hb⟩ := H
    refine C.loop (ds := []) (N := 168) (σ := Int) (fun s => [(10, (.int .i64 s)), (0, (Sl.v x0)), (1, (.int .i64 x1)), (11, (.int .i64 (IntKind.wrap .i64 (x2 - 1))))]) (fun s w => I_l2 s w) (fun s w => μ_l2 s w) (IntKind.wrap .i64 (x1 + 1)) h0 (hE.weak ⟨rfl, rfl, rfl, rfl, trivial⟩) ?_
    intro x10 w a hI hE
    try dsimp only at hI hE
    obtain ⟨Kl2, hK_l2⟩ : ∃ K : Int → World → Prop, K = (fun x10' w' => I_l2 x10' w' ∧ μ_l2 x10' w' < μ_l2 x10 w) := ⟨_, rfl⟩
    have H : V_slices_partitionOrdered_string_l2b x0 x1 x2 Ret x10 w Kl2 := by rw [hK_l2]; exact hb x10 w hI
    clear hb h0 hI
    unfold V_slices_partitionOrdered_string_l2b at H
    refine C.seq ?_
    refine C.seq ?_
    refine C.draw (by kernel_rfl) (by kernel_rfl) ?_
    refine hE.qpur (X.move hE rfl) fun a hE => ?_
    refine hE.qpur (X.move hE rfl) fun a hE => ?_
    refine hE.qpur (X.leI hE rfl rfl) fun a hE => ?_
    refine hE.qpur (X.move hE rfl) fun a hE => ?_
    refine WQ.join (ds := []) (N := 168) (σ := Bool) (fun s => [(43, (.bool s)), (0, (Sl.v x0)), (1, (.int .i64 x1)), (10, (.int .i64 x10)), (11, (.int .i64 (IntKind.wrap .i64 (x2 - 1))))]) (fun s => V_slices_partitionOrdered_string_r3 x0 x1 x2 Ret x10 Kl2 s w) 10 ?_ (fun hr3 => ?_)
    · intro x43 a H hE
      try dsimp only at H hE
      unfold V_slices_partitionOrdered_string_r3 at H
      refine C.qnil (fun w hB => ?_)
      replace H := H w hB
      refine (tn ?_)
      refine C.condB hE rfl (fun hc => ?_) (fun hc => ?_)
      · replace H := H.1 hc
        refine C.skip (tn ?_)
        refine C.block ?_
        refine C.region ?_
        refine hE.pur (X.move hE rfl) fun a hE => ?_
        refine hE.pur (X.add hE rfl rfl) fun a hE => ?_
        refine hE.pur (X.assign hE rfl) fun a hE => ?_
        rw [hK_l2] at H
        exact C.nil (bn (tn ⟨(IntKind.wrap .i64 (x10 + 1)), hE.weak ⟨rfl, rfl, rfl, rfl, trivial⟩, H⟩))
      · replace H := H.2 hc
        refine C.exit (te (te (be (tn ?_))))
        refine C.seq ?_
        refine C.block ?_
        obtain ⟨I_l4, μ_l4, h0, hb⟩ := H
        refine C.loop (ds := []) (N := 168) (σ := Int) (fun s => [(11, (.int .i64 s)), (0, (Sl.v x0)), (1, (.int .i64 x1)), (10, (.int .i64 x10))]) (fun s w => I_l4 s w) (fun s w => μ_l4 s w) (IntKind.wrap .i64 (x2 - 1)) h0 (hE.weak ⟨rfl, rfl, rfl, rfl, trivial⟩) ?_
        intro x11 w a hI hE
        try dsimp only at hI hE
        obtain ⟨Kl4, hK_l4⟩ : ∃ K : Int → World → Prop, K = (fun x11' w' => I_l4 x11' w' ∧ μ_l4 x11' w' < μ_l4 x11 w) := ⟨_, rfl⟩
        have H : V_slices_partitionOrdered_string_l4b x0 x1 Ret x10 x11 w Kl4 := by rw [hK_l4]; exact hb x11 w hI
        clear hb h0 hI
        unfold V_slices_partitionOrdered_string_l4b at H
        refine C.seq ?_
        refine C.seq ?_
        refine C.draw (by kernel_rfl) (by kernel_rfl) ?_
        refine hE.qpur (X.move hE rfl) fun a hE => ?_
        refine hE.qpur (X.move hE rfl) fun a hE => ?_
        refine hE.qpur (X.leI hE rfl rfl) fun a hE => ?_
        refine hE.qpur (X.move hE rfl) fun a hE => ?_
        refine WQ.join (ds := []) (N := 168) (σ := Bool) (fun s => [(60, (.bool s)), (0, (Sl.v x0)), (1, (.int .i64 x1)), (10, (.int .i64 x10)), (11, (.int .i64 x11))]) (fun s => V_slices_partitionOrdered_string_r5 x0 x1 Ret x10 x11 Kl4 s w) 11 ?_ (fun hr5 => ?_)
        · intro x60 a H hE
          try dsimp only at H hE
          unfold V_slices_partitionOrdered_string_r5 at H
          refine C.qnil (fun w hB => ?_)
          replace H := H w hB
          refine (tn ?_)
          refine C.condB hE rfl (fun hc => ?_) (fun hc => ?_)
          · replace H := H.1 hc
            refine C.skip (tn ?_)
            refine C.block ?_
            refine C.region ?_
            refine hE.pur (X.move hE rfl) fun a hE => ?_
            refine hE.pur (X.sub hE rfl rfl) fun a hE => ?_
            refine hE.pur (X.assign hE rfl) fun a hE => ?_
            rw [hK_l4] at H
            exact C.nil (bn (tn ⟨(IntKind.wrap .i64 (x11 - 1)), hE.weak ⟨rfl, rfl, rfl, rfl, trivial⟩, H⟩))
          · replace H := H.2 hc
            refine C.exit (te (te (be (tn ?_))))
            refine C.seq ?_
            refine C.seq ?_
            refine C.region ?_
            refine hE.pur (X.move hE rfl) fun a hE => ?_
            refine hE.pur (X.move hE rfl) fun a hE => ?_
            refine hE.pur (X.gtI hE rfl rfl) fun a hE => ?_
            refine C.nil (tn ?_)
            refine C.condP hE rfl (fun hc => ?_) (fun hc => ?_)
            · replace H := H.1 hc
              refine C.join (ds := []) (N := 168) (σ := Unit) (fun s => [(11, (.int .i64 x11))]) (fun s w => V_slices_partitionOrdered_string_j6 Ret x11  w) ?_ (fun hj6 => ?_)
              · rintro ⟨⟩ w a H hE
                try dsimp only at H hE
                unfold V_slices_partitionOrdered_string_j6 at H
                refine C.seq ?_
                refine C.region ?_
                refine hE.pur (X.move hE rfl) fun a hE => ?_
                refine hE.pur (X.assign hE rfl) fun a hE => ?_
                refine hE.pur (X.assign hE rfl) fun a hE => ?_
                refine C.nil (tn ?_)
                exact C.ret (tr (C.ret2 hE rfl rfl rfl ⟨_, _, rfl, H⟩))
              · refine C.any 16 #[false, false, false, false, false, false, false, false, false, false, false, false, false, false, false, false] (by kernel_rfl) (fun w hB => ?_)
                replace H := H w hB
                refine hE.apur (i := 0) (fun _ _ _ _ _ h => h) (by kernel_rfl) rfl (by kernel_rfl) (by kernel_rfl) (by rfl) (l2 := #[true, false, false, false, false, false, false, false, false, false, false, false, false, false, false, false]) (pn_run (X.move hE rfl)) fun a hE => ?_
                refine hE.apur (i := 1) (fun _ _ _ _ _ h => h) (by kernel_rfl) rfl (by kernel_rfl) (by kernel_rfl) (by rfl) (l2 := #[true, true, false, false, false, false, false, false, false, false, false, false, false, false, false, false]) (pn_run (X.move hE rfl)) fun a hE => ?_
                refine hE.apur (i := 2) (fun _ _ _ _ _ h => h) (by kernel_rfl) rfl (by kernel_rfl) (by kernel_rfl) (by rfl) (l2 := #[true, true, true, false, false, false, false, false, false, false, false, false, false, false, false, false]) (pn_run (X.move hE rfl)) fun a hE => ?_
                refine hE.apur (i := 3) (fun _ _ _ _ _ h => h) (by kernel_rfl) rfl (by kernel_rfl) (by kernel_rfl) (by rfl) (l2 := #[true, true, true, true, false, false, false, false, false, false, false, false, false, false, false, false]) (pn_run (X.move hE rfl)) fun a hE => ?_
                refine hE.apur (i := 4) (fun _ _ _ _ _ h => h) (by kernel_rfl) rfl (by kernel_rfl) (by kernel_rfl) (by rfl) (l2 := #[true, true, true, true, true, false, false, false, false, false, false, false, false, false, false, false]) (pn_run (X.move hE rfl)) fun a hE => ?_
                refine hE.apur (i := 5) (fun _ _ _ _ _ h => h) (by kernel_rfl) rfl (by kernel_rfl) (by kernel_rfl) (by rfl) (l2 := #[true, true, true, true, true, true, false, false, false, false, false, false, false, false, false, false]) (pn_run (X.move hE rfl)) fun a hE => ?_
                refine hE.aop (i := 6) (fun _ _ _ _ _ h => h) (by kernel_rfl) rfl (by kernel_rfl) (by kernel_rfl) (by rfl) (l2 := #[true, true, true, true, true, true, true, false, false, false, false, false, false, false, false, false]) (X.indexAddr hE rfl rfl) H fun x72 a H hE => ?_
                refine hE.apur (i := 8) (fun _ _ _ _ _ h => h) (by kernel_rfl) rfl (by kernel_rfl) (by kernel_rfl) (by rfl) (l2 := #[true, true, true, true, true, true, true, false, true, false, false, false, false, false, false, false]) (pn_run (X.move hE rfl)) fun a hE => ?_
                refine hE.apur (i := 9) (fun _ _ _ _ _ h => h) (by kernel_rfl) rfl (by kernel_rfl) (by kernel_rfl) (by rfl) (l2 := #[true, true, true, true, true, true, true, false, true, true, false, false, false, false, false, false]) (pn_run (X.move hE rfl)) fun a hE => ?_
                refine hE.aop (i := 10) (fun _ _ _ _ _ h => h) (by kernel_rfl) rfl (by kernel_rfl) (by kernel_rfl) (by rfl) (l2 := #[true, true, true, true, true, true, true, false, true, true, true, false, false, false, false, false]) (X.indexAddr hE rfl rfl) H fun x76 a H hE => ?_
                refine WA.two (i := 7) (j := 11) (l2 := #[true, true, true, true, true, true, true, true, true, true, true, false, false, false, false, false]) (l3 := #[true, true, true, true, true, true, true, false, true, true, true, true, false, false, false, false]) rfl rfl (by kernel_rfl) (by rfl) (by rfl) ?_ ?_
                · replace H := H.1
                  intro K hK
                  refine hE.wop (X.load hE rfl) H fun x73 w a H hE => ?_
                  refine hK _ _ ?_
                  refine WA.one (i := 11) (l2 := #[true, true, true, true, true, true, true, true, true, true, true, true, false, false, false, false]) rfl (by kernel_rfl) (by rfl) ?_
                  intro K hK
                  refine hE.wop (X.load hE rfl) H fun x77 w a H hE => ?_
                  refine hK _ _ ?_
                  refine hE.aop (i := 12) (fun _ _ _ _ _ h => h) (by kernel_rfl) rfl (by kernel_rfl) (by kernel_rfl) (by rfl) (l2 := #[true, true, true, true, true, true, true, true, true, true, true, true, true, false, false, false]) (X.indexAddr hE rfl rfl) H fun x78 a H hE => ?_
                  refine WA.one (i := 13) (l2 := #[true, true, true, true, true, true, true, true, true, true, true, true, true, true, false, false]) rfl (by kernel_rfl) (by rfl) ?_
                  intro K hK
                  refine hE.wopu (X.store hE rfl rfl) H fun w a H hE => ?_
                  refine hK _ _ ?_
                  refine hE.aop (i := 14) (fun _ _ _ _ _ h => h) (by kernel_rfl) rfl (by kernel_rfl) (by kernel_rfl) (by rfl) (l2 := #[true, true, true, true, true, true, true, true, true, true, true, true, true, true, true, false]) (X.indexAddr hE rfl rfl) H fun x79 a H hE => ?_
                  refine WA.one (i := 15) (l2 := #[true, true, true, true, true, true, true, true, true, true, true, true, true, true, true, true]) rfl (by kernel_rfl) (by rfl) ?_
                  intro K hK
                  refine hE.wopu (X.store hE rfl rfl) H fun w a H hE => ?_
                  refine hK _ _ ?_
                  refine WA.nil (by kernel_rfl) ?_
                  exact (tn (hj6 () _ _ H (hE.weak ⟨rfl, trivial⟩)))
                · replace H := H.2
                  intro K hK
                  refine hE.wop (X.load hE rfl) H fun x77_1 w a H hE => ?_
                  refine hK _ _ ?_
                  refine WA.one (i := 7) (l2 := #[true, true, true, true, true, true, true, true, true, true, true, true, false, false, false, false]) rfl (by kernel_rfl) (by rfl) ?_
                  intro K hK
                  refine hE.wop (X.load hE rfl) H fun x73_1 w a H hE => ?_
                  refine hK _ _ ?_
                  refine hE.aop (i := 12) (fun _ _ _ _ _ h => h) (by kernel_rfl) rfl (by kernel_rfl) (by kernel_rfl) (by rfl) (l2 := #[true, true, true, true, true, true, true, true, true, true, true, true, true, false, false, false]) (X.indexAddr hE rfl rfl) H fun x78_1 a H hE => ?_
                  refine WA.one (i := 13) (l2 := #[true, true, true, true, true, true, true, true, true, true, true, true, true, true, false, false]) rfl (by kernel_rfl) (by rfl) ?_
                  intro K hK
                  refine hE.wopu (X.store hE rfl rfl) H fun w a H hE => ?_
                  refine hK _ _ ?_
                  refine hE.aop (i := 14) (fun _ _ _ _ _ h => h) (by kernel_rfl) rfl (by kernel_rfl) (by kernel_rfl) (by rfl) (l2 := #[true, true, true, true, true, true, true, true, true, true, true, true, true, true, true, false]) (X.indexAddr hE rfl rfl) H fun x79_1 a H hE => ?_
                  refine WA.one (i := 15) (l2 := #[true, true, true, true, true, true, true, true, true, true, true, true, true, true, true, true]) rfl (by kernel_rfl) (by rfl) ?_
                  intro K hK
                  refine hE.wopu (X.store hE rfl rfl) H fun w a H hE => ?_
                  refine hK _ _ ?_
                  refine WA.nil (by kernel_rfl) ?_
                  exact (tn (hj6 () _ _ H (hE.weak ⟨rfl, trivial⟩)))
            · replace H := H.2 hc
              refine C.skip (tn ?_)
              refine C.join (ds := []) (N := 168) (σ := Unit) (fun s => [(0, (Sl.v x0)), (1, (.int .i64 x1)), (10, (.int .i64 x10)), (11, (.int .i64 x11))]) (fun s w => V_slices_partitionOrdered_string_j7 x0 x1 Ret x10 x11  w) ?_ (fun hj7 => ?_)
              · rintro ⟨⟩ w a H hE
                try dsimp only at H hE
                unfold V_slices_partitionOrdered_string_j7 at H
                refine C.seq ?_
                refine C.region ?_
                refine hE.pur (X.move hE rfl) fun a hE => ?_
                refine hE.pur (X.add hE rfl rfl) fun a hE => ?_
                refine hE.pur (X.assign hE rfl) fun a hE => ?_
                refine C.nil (tn ?_)
                refine C.seq ?_
                refine C.region ?_
                refine hE.pur (X.move hE rfl) fun a hE => ?_
                refine hE.pur (X.sub hE rfl rfl) fun a hE => ?_
                refine hE.pur (X.assign hE rfl) fun a hE => ?_
                refine C.nil (tn ?_)
                refine C.seq ?_
                refine C.block ?_
                obtain ⟨I_l8, μ_l8, h0, hb⟩ := H
                refine C.loop (ds := []) (N := 168) (σ := Int × Int) (fun s => [(10, (.int .i64 s.1)), (11, (.int .i64 s.2)), (0, (Sl.v x0)), (1, (.int .i64 x1))]) (fun s w => I_l8 s.1 s.2 w) (fun s w => μ_l8 s.1 s.2 w) ((IntKind.wrap .i64 (x10 + 1)), (IntKind.wrap .i64 (x11 - 1))) h0 (hE.weak ⟨rfl, rfl, rfl, rfl, trivial⟩) ?_
                rintro ⟨x10_1, x11_1⟩ w a hI hE
                try dsimp only at hI hE
                obtain ⟨Kl8, hK_l8⟩ : ∃ K : Int → Int → World → Prop, K = (fun x10_1' x11_1' w' => I_l8 x10_1' x11_1' w' ∧ μ_l8 x10_1' x11_1' w' < μ_l8 x10_1 x11_1 w) := ⟨_, rfl⟩
                have H : V_slices_partitionOrdered_string_l8b x0 x1 Ret x10_1 x11_1 w Kl8 := by rw [hK_l8]; exact hb x10_1 x11_1 w hI
                clear hb h0 hI
                unfold V_slices_partitionOrdered_string_l8b at H
                refine C.block ?_
                refine C.seq ?_
                refine C.block ?_
                obtain ⟨I_l9, μ_l9, h0, hb⟩ := H
                refine C.loop (ds := []) (N := 168) (σ := Int) (fun s => [(10, (.int .i64 s)), (0, (Sl.v x0)), (1, (.int .i64 x1)), (11, (.int .i64 x11_1))]) (fun s w => I_l9 s w) (fun s w => μ_l9 s w) x10_1 h0 (hE.weak ⟨rfl, rfl, rfl, rfl, trivial⟩) ?_
                intro x10_2 w a hI hE
                try dsimp only at hI hE
                obtain ⟨Kl9, hK_l9⟩ : ∃ K : Int → World → Prop, K = (fun x10_2' w' => I_l9 x10_2' w' ∧ μ_l9 x10_2' w' < μ_l9 x10_2 w) := ⟨_, rfl⟩
                have H : V_slices_partitionOrdered_string_l9b x0 x1 Ret x11_1 Kl8 x10_2 w Kl9 := by rw [hK_l9]; exact hb x10_2 w hI
                clear hb h0 hI
                unfold V_slices_partitionOrdered_string_l9b at H
                refine C.seq ?_
                refine C.seq ?_
                refine C.draw (by kernel_rfl) (by kernel_rfl) ?_
                refine hE.qpur (X.move hE rfl) fun a hE => ?_
                refine hE.qpur (X.move hE rfl) fun a hE => ?_
                refine hE.qpur (X.leI hE rfl rfl) fun a hE => ?_
                refine hE.qpur (X.move hE rfl) fun a hE => ?_
                refine WQ.join (ds := []) (N := 168) (σ := Bool) (fun s => [(112, (.bool s)), (0, (Sl.v x0)), (1, (.int .i64 x1)), (10, (.int .i64 x10_2)), (11, (.int .i64 x11_1))]) (fun s => V_slices_partitionOrdered_string_r10 x0 x1 Ret x11_1 Kl8 x10_2 Kl9 s w) 10 ?_ (fun hr10 => ?_)
                · intro x112 a H hE
                  try dsimp only at H hE
                  unfold V_slices_partitionOrdered_string_r10 at H
                  refine C.qnil (fun w hB => ?_)
                  replace H := H w hB
                  refine (tn ?_)
                  refine C.condB hE rfl (fun hc => ?_) (fun hc => ?_)
                  · replace H := H.1 hc
                    refine C.skip (tn ?_)
                    refine C.block ?_
                    refine C.region ?_
                    refine hE.pur (X.move hE rfl) fun a hE => ?_
                    refine hE.pur (X.add hE rfl rfl) fun a hE => ?_
                    refine hE.pur (X.assign hE rfl) fun a hE => ?_
                    rw [hK_l9] at H
                    exact C.nil (bn (tn ⟨(IntKind.wrap .i64 (x10_2 + 1)), hE.weak ⟨rfl, rfl, rfl, rfl, trivial⟩, H⟩))
                  · replace H := H.2 hc
                    refine C.exit (te (te (be (tn ?_))))
                    refine C.seq ?_
                    refine C.block ?_
                    obtain ⟨I_l11, μ_l11, h0, hb⟩ := H
                    refine C.loop (ds := []) (N := 168) (σ := Int) (fun s => [(11, (.int .i64 s)), (0, (Sl.v x0)), (1, (.int .i64 x1)), (10, (.int .i64 x10_2))]) (fun s w => I_l11 s w) (fun s w => μ_l11 s w) x11_1 h0 (hE.weak ⟨rfl, rfl, rfl, rfl, trivial⟩) ?_
                    intro x11_2 w a hI hE
                    try dsimp only at hI hE
                    obtain ⟨Kl11, hK_l11⟩ : ∃ K : Int → World → Prop, K = (fun x11_2' w' => I_l11 x11_2' w' ∧ μ_l11 x11_2' w' < μ_l11 x11_2 w) := ⟨_, rfl⟩
                    have H : V_slices_partitionOrdered_string_l11b x0 x1 Ret Kl8 x10_2 x11_2 w Kl11 := by rw [hK_l11]; exact hb x11_2 w hI
                    clear hb h0 hI
                    unfold V_slices_partitionOrdered_string_l11b at H
                    refine C.seq ?_
                    refine C.seq ?_
                    refine C.draw (by kernel_rfl) (by kernel_rfl) ?_
                    refine hE.qpur (X.move hE rfl) fun a hE => ?_
                    refine hE.qpur (X.move hE rfl) fun a hE => ?_
                    refine hE.qpur (X.leI hE rfl rfl) fun a hE => ?_
                    refine hE.qpur (X.move hE rfl) fun a hE => ?_
                    refine WQ.join (ds := []) (N := 168) (σ := Bool) (fun s => [(129, (.bool s)), (0, (Sl.v x0)), (1, (.int .i64 x1)), (10, (.int .i64 x10_2)), (11, (.int .i64 x11_2))]) (fun s => V_slices_partitionOrdered_string_r12 x0 x1 Ret Kl8 x10_2 x11_2 Kl11 s w) 11 ?_ (fun hr12 => ?_)
                    · intro x129 a H hE
                      try dsimp only at H hE
                      unfold V_slices_partitionOrdered_string_r12 at H
                      refine C.qnil (fun w hB => ?_)
                      replace H := H w hB
                      refine (tn ?_)
                      refine C.condB hE rfl (fun hc => ?_) (fun hc => ?_)
                      · replace H := H.1 hc
                        refine C.skip (tn ?_)
                        refine C.block ?_
                        refine C.region ?_
                        refine hE.pur (X.move hE rfl) fun a hE => ?_
                        refine hE.pur (X.sub hE rfl rfl) fun a hE => ?_
                        refine hE.pur (X.assign hE rfl) fun a hE => ?_
                        rw [hK_l11] at H
                        exact C.nil (bn (tn ⟨(IntKind.wrap .i64 (x11_2 - 1)), hE.weak ⟨rfl, rfl, rfl, rfl, trivial⟩, H⟩))
                      · replace H := H.2 hc
                        refine C.exit (te (te (be (tn ?_))))
                        refine C.seq ?_
                        refine C.seq ?_
                        refine C.region ?_
                        refine hE.pur (X.move hE rfl) fun a hE => ?_
                        refine hE.pur (X.move hE rfl) fun a hE => ?_
                        refine hE.pur (X.gtI hE rfl rfl) fun a hE => ?_
                        refine C.nil (tn ?_)
                        refine C.condP hE rfl (fun hc => ?_) (fun hc => ?_)
                        · replace H := H.1 hc
                          refine C.exit (te (bo (te (be (tn ?_)))))
                          refine C.join (ds := []) (N := 168) (σ := Unit) (fun s => [(11, (.int .i64 x11_2))]) (fun s w => V_slices_partitionOrdered_string_j13 Ret x11_2  w) ?_ (fun hj13 => ?_)
                          · rintro ⟨⟩ w a H hE
                            try dsimp only at H hE
                            unfold V_slices_partitionOrdered_string_j13 at H
                            refine C.seq ?_
                            refine C.region ?_
                            refine hE.pur (X.move hE rfl) fun a hE => ?_
                            refine hE.pur (X.assign hE rfl) fun a hE => ?_
                            refine hE.pur (X.assign hE rfl) fun a hE => ?_
                            refine C.nil (tn ?_)
                            exact C.ret (C.ret2 hE rfl rfl rfl ⟨_, _, rfl, H⟩)
                          · refine C.any 16 #[false, false, false, false, false, false, false, false, false, false, false, false, false, false, false, false] (by kernel_rfl) (fun w hB => ?_)
                            replace H := H w hB
                            refine hE.apur (i := 0) (fun _ _ _ _ _ h => h) (by kernel_rfl) rfl (by kernel_rfl) (by kernel_rfl) (by rfl) (l2 := #[true, false, false, false, false, false, false, false, false, false, false, false, false, false, false, false]) (pn_run (X.move hE rfl)) fun a hE => ?_
                            refine hE.apur (i := 1) (fun _ _ _ _ _ h => h) (by kernel_rfl) rfl (by kernel_rfl) (by kernel_rfl) (by rfl) (l2 := #[true, true, false, false, false, false, false, false, false, false, false, false, false, false, false, false]) (pn_run (X.move hE rfl)) fun a hE => ?_
                            refine hE.apur (i := 2) (fun _ _ _ _ _ h => h) (by kernel_rfl) rfl (by kernel_rfl) (by kernel_rfl) (by rfl) (l2 := #[true, true, true, false, false, false, false, false, false, false, false, false, false, false, false, false]) (pn_run (X.move hE rfl)) fun a hE => ?_
                            refine hE.apur (i := 3) (fun _ _ _ _ _ h => h) (by kernel_rfl) rfl (by kernel_rfl) (by kernel_rfl) (by rfl) (l2 := #[true, true, true, true, false, false, false, false, false, false, false, false, false, false, false, false]) (pn_run (X.move hE rfl)) fun a hE => ?_
                            refine hE.apur (i := 4) (fun _ _ _ _ _ h => h) (by kernel_rfl) rfl (by kernel_rfl) (by kernel_rfl) (by rfl) (l2 := #[true, true, true, true, true, false, false, false, false, false, false, false, false, false, false, false]) (pn_run (X.move hE rfl)) fun a hE => ?_
                            refine hE.apur (i := 5) (fun _ _ _ _ _ h => h) (by kernel_rfl) rfl (by kernel_rfl) (by kernel_rfl) (by rfl) (l2 := #[true, true, true, true, true, true, false, false, false, false, false, false, false, false, false, false]) (pn_run (X.move hE rfl)) fun a hE => ?_
                            refine hE.aop (i := 6) (fun _ _ _ _ _ h => h) (by kernel_rfl) rfl (by kernel_rfl) (by kernel_rfl) (by rfl) (l2 := #[true, true, true, true, true, true, true, false, false, false, false, false, false, false, false, false]) (X.indexAddr hE rfl rfl) H fun x159 a H hE => ?_
                            refine hE.apur (i := 8) (fun _ _ _ _ _ h => h) (by kernel_rfl) rfl (by kernel_rfl) (by kernel_rfl) (by rfl) (l2 := #[true, true, true, true, true, true, true, false, true, false, false, false, false, false, false, false]) (pn_run (X.move hE rfl)) fun a hE => ?_
                            refine hE.apur (i := 9) (fun _ _ _ _ _ h => h) (by kernel_rfl) rfl (by kernel_rfl) (by kernel_rfl) (by rfl) (l2 := #[true, true, true, true, true, true, true, false, true, true, false, false, false, false, false, false]) (pn_run (X.move hE rfl)) fun a hE => ?_
                            refine hE.aop (i := 10) (fun _ _ _ _ _ h => h) (by kernel_rfl) rfl (by kernel_rfl) (by kernel_rfl) (by rfl) (l2 := #[true, true, true, true, true, true, true, false, true, true, true, false, false, false, false, false]) (X.indexAddr hE rfl rfl) H fun x163 a H hE => ?_
                            refine WA.two (i := 7) (j := 11) (l2 := #[true, true, true, true, true, true, true, true, true, true, true, false, false, false, false, false]) (l3 := #[true, true, true, true, true, true, true, false, true, true, true, true, false, false, false, false]) rfl rfl (by kernel_rfl) (by rfl) (by rfl) ?_ ?_
                            · replace H := H.1
                              intro K hK
                              refine hE.wop (X.load hE rfl) H fun x160 w a H hE => ?_
                              refine hK _ _ ?_
                              refine WA.one (i := 11) (l2 := #[true, true, true, true, true, true, true, true, true, true, true, true, false, false, false, false]) rfl (by kernel_rfl) (by rfl) ?_
                              intro K hK
                              refine hE.wop (X.load hE rfl) H fun x164 w a H hE => ?_
                              refine hK _ _ ?_
                              refine hE.aop (i := 12) (fun _ _ _ _ _ h => h) (by kernel_rfl) rfl (by kernel_rfl) (by kernel_rfl) (by rfl) (l2 := #[true, true, true, true, true, true, true, true, true, true, true, true, true, false, false, false]) (X.indexAddr hE rfl rfl) H fun x165 a H hE => ?_
                              refine WA.one (i := 13) (l2 := #[true, true, true, true, true, true, true, true, true, true, true, true, true, true, false, false]) rfl (by kernel_rfl) (by rfl) ?_
                              intro K hK
                              refine hE.wopu (X.store hE rfl rfl) H fun w a H hE => ?_
                              refine hK _ _ ?_
                              refine hE.aop (i := 14) (fun _ _ _ _ _ h => h) (by kernel_rfl) rfl (by kernel_rfl) (by kernel_rfl) (by rfl) (l2 := #[true, true, true, true, true, true, true, true, true, true, true, true, true, true, true, false]) (X.indexAddr hE rfl rfl) H fun x166 a H hE => ?_
                              refine WA.one (i := 15) (l2 := #[true, true, true, true, true, true, true, true, true, true, true, true, true, true, true, true]) rfl (by kernel_rfl) (by rfl) ?_
                              intro K hK
                              refine hE.wopu (X.store hE rfl rfl) H fun w a H hE => ?_
                              refine hK _ _ ?_
                              refine WA.nil (by kernel_rfl) ?_
                              exact (tn (hj13 () _ _ H (hE.weak ⟨rfl, trivial⟩)))
                            · replace H := H.2
                              intro K hK
                              refine hE.wop (X.load hE rfl) H fun x164_1 w a H hE => ?_
                              refine hK _ _ ?_
                              refine WA.one (i := 7) (l2 := #[true, true, true, true, true, true, true, true, true, true, true, true, false, false, false, false]) rfl (by kernel_rfl) (by rfl) ?_
                              intro K hK
                              refine hE.wop (X.load hE rfl) H fun x160_1 w a H hE => ?_
                              refine hK _ _ ?_
                              refine hE.aop (i := 12) (fun _ _ _ _ _ h => h) (by kernel_rfl) rfl (by kernel_rfl) (by kernel_rfl) (by rfl) (l2 := #[true, true, true, true, true, true, true, true, true, true, true, true, true, false, false, false]) (X.indexAddr hE rfl rfl) H fun x165_1 a H hE => ?_
                              refine WA.one (i := 13) (l2 := #[true, true, true, true, true, true, true, true, true, true, true, true, true, true, false, false]) rfl (by kernel_rfl) (by rfl) ?_
                              intro K hK
                              refine hE.wopu (X.store hE rfl rfl) H fun w a H hE => ?_
                              refine hK _ _ ?_
                              refine hE.aop (i := 14) (fun _ _ _ _ _ h => h) (by kernel_rfl) rfl (by kernel_rfl) (by kernel_rfl) (by rfl) (l2 := #[true, true, true, true, true, true, true, true, true, true, true, true, true, true, true, false]) (X.indexAddr hE rfl rfl) H fun x166_1 a H hE => ?_
                              refine WA.one (i := 15) (l2 := #[true, true, true, true, true, true, true, true, true, true, true, true, true, true, true, true]) rfl (by kernel_rfl) (by rfl) ?_
                              intro K hK
                              refine hE.wopu (X.store hE rfl rfl) H fun w a H hE => ?_
                              refine hK _ _ ?_
                              refine WA.nil (by kernel_rfl) ?_
                              exact (tn (hj13 () _ _ H (hE.weak ⟨rfl, trivial⟩)))
                        · replace H := H.2 hc
                          refine C.skip (tn ?_)
                          refine C.join (ds := []) (N := 168) (σ := Unit) (fun s => [(0, (Sl.v x0)), (1, (.int .i64 x1)), (10, (.int .i64 x10_2)), (11, (.int .i64 x11_2))]) (fun s w => V_slices_partitionOrdered_string_j14 Kl8 x10_2 x11_2  w) ?_ (fun hj14 => ?_)
                          · rintro ⟨⟩ w a H hE
                            try dsimp only at H hE
                            unfold V_slices_partitionOrdered_string_j14 at H
                            refine C.seq ?_
                            refine C.region ?_
                            refine hE.pur (X.move hE rfl) fun a hE => ?_
                            refine hE.pur (X.add hE rfl rfl) fun a hE => ?_
                            refine hE.pur (X.assign hE rfl) fun a hE => ?_
                            refine C.nil (tn ?_)
                            refine C.region ?_
                            refine hE.pur (X.move hE rfl) fun a hE => ?_
                            refine hE.pur (X.sub hE rfl rfl) fun a hE => ?_
                            refine hE.pur (X.assign hE rfl) fun a hE => ?_
                            rw [hK_l8] at H
                            exact C.nil (bn (tn ⟨((IntKind.wrap .i64 (x10_2 + 1)), (IntKind.wrap .i64 (x11_2 - 1))), hE.weak ⟨rfl, rfl, rfl, rfl, trivial⟩, H⟩))
                          · refine C.any 16 #[false, false, false, false, false, false, false, false, false, false, false, false, false, false, false, false] (by kernel_rfl) (fun w hB => ?_)
                            replace H := H w hB
                            refine hE.apur (i := 0) (fun _ _ _ _ _ h => h) (by kernel_rfl) rfl (by kernel_rfl) (by kernel_rfl) (by rfl) (l2 := #[true, false, false, false, false, false, false, false, false, false, false, false, false, false, false, false]) (pn_run (X.move hE rfl)) fun a hE => ?_
                            refine hE.apur (i := 1) (fun _ _ _ _ _ h => h) (by kernel_rfl) rfl (by kernel_rfl) (by kernel_rfl) (by rfl) (l2 := #[true, true, false, false, false, false, false, false, false, false, false, false, false, false, false, false]) (pn_run (X.move hE rfl)) fun a hE => ?_
                            refine hE.apur (i := 2) (fun _ _ _ _ _ h => h) (by kernel_rfl) rfl (by kernel_rfl) (by kernel_rfl) (by rfl) (l2 := #[true, true, true, false, false, false, false, false, false, false, false, false, false, false, false, false]) (pn_run (X.move hE rfl)) fun a hE => ?_
                            refine hE.apur (i := 3) (fun _ _ _ _ _ h => h) (by kernel_rfl) rfl (by kernel_rfl) (by kernel_rfl) (by rfl) (l2 := #[true, true, true, true, false, false, false, false, false, false, false, false, false, false, false, false]) (pn_run (X.move hE rfl)) fun a hE => ?_
                            refine hE.apur (i := 4) (fun _ _ _ _ _ h => h) (by kernel_rfl) rfl (by kernel_rfl) (by kernel_rfl) (by rfl) (l2 := #[true, true, true, true, true, false, false, false, false, false, false, false, false, false, false, false]) (pn_run (X.move hE rfl)) fun a hE => ?_
                            refine hE.apur (i := 5) (fun _ _ _ _ _ h => h) (by kernel_rfl) rfl (by kernel_rfl) (by kernel_rfl) (by rfl) (l2 := #[true, true, true, true, true, true, false, false, false, false, false, false, false, false, false, false]) (pn_run (X.move hE rfl)) fun a hE => ?_
                            refine hE.aop (i := 6) (fun _ _ _ _ _ h => h) (by kernel_rfl) rfl (by kernel_rfl) (by kernel_rfl) (by rfl) (l2 := #[true, true, true, true, true, true, true, false, false, false, false, false, false, false, false, false]) (X.indexAddr hE rfl rfl) H fun x141 a H hE => ?_
                            refine hE.apur (i := 8) (fun _ _ _ _ _ h => h) (by kernel_rfl) rfl (by kernel_rfl) (by kernel_rfl) (by rfl) (l2 := #[true, true, true, true, true, true, true, false, true, false, false, false, false, false, false, false]) (pn_run (X.move hE rfl)) fun a hE => ?_
                            refine hE.apur (i := 9) (fun _ _ _ _ _ h => h) (by kernel_rfl) rfl (by kernel_rfl) (by kernel_rfl) (by rfl) (l2 := #[true, true, true, true, true, true, true, false, true, true, false, false, false, false, false, false]) (pn_run (X.move hE rfl)) fun a hE => ?_
                            refine hE.aop (i := 10) (fun _ _ _ _ _ h => h) (by kernel_rfl) rfl (by kernel_rfl) (by kernel_rfl) (by rfl) (l2 := #[true, true, true, true, true, true, true, false, true, true, true, false, false, false, false, false]) (X.indexAddr hE rfl rfl) H fun x145 a H hE => ?_
                            refine WA.two (i := 7) (j := 11) (l2 := #[true, true, true, true, true, true, true, true, true, true, true, false, false, false, false, false]) (l3 := #[true, true, true, true, true, true, true, false, true, true, true, true, false, false, false, false]) rfl rfl (by kernel_rfl) (by rfl) (by rfl) ?_ ?_
                            · replace H := H.1
                              intro K hK
                              refine hE.wop (X.load hE rfl) H fun x142 w a H hE => ?_
                              refine hK _ _ ?_
                              refine WA.one (i := 11) (l2 := #[true, true, true, true, true, true, true, true, true, true, true, true, false, false, false, false]) rfl (by kernel_rfl) (by rfl) ?_
                              intro K hK
                              refine hE.wop (X.load hE rfl) H fun x146 w a H hE => ?_
                              refine hK _ _ ?_
                              refine hE.aop (i := 12) (fun _ _ _ _ _ h => h) (by kernel_rfl) rfl (by kernel_rfl) (by kernel_rfl) (by rfl) (l2 := #[true, true, true, true, true, true, true, true, true, true, true, true, true, false, false, false]) (X.indexAddr hE rfl rfl) H fun x147 a H hE => ?_
                              refine WA.one (i := 13) (l2 := #[true, true, true, true, true, true, true, true, true, true, true, true, true, true, false, false]) rfl (by kernel_rfl) (by rfl) ?_
                              intro K hK
                              refine hE.wopu (X.store hE rfl rfl) H fun w a H hE => ?_
                              refine hK _ _ ?_
                              refine hE.aop (i := 14) (fun _ _ _ _ _ h => h) (by kernel_rfl) rfl (by kernel_rfl) (by kernel_rfl) (by rfl) (l2 := #[true, true, true, true, true, true, true, true, true, true, true, true, true, true, true, false]) (X.indexAddr hE rfl rfl) H fun x148 a H hE => ?_
                              refine WA.one (i := 15) (l2 := #[true, true, true, true, true, true, true, true, true, true, true, true, true, true, true, true]) rfl (by kernel_rfl) (by rfl) ?_
                              intro K hK
                              refine hE.wopu (X.store hE rfl rfl) H fun w a H hE => ?_
                              refine hK _ _ ?_
                              refine WA.nil (by kernel_rfl) ?_
                              exact (tn (hj14 () _ _ H (hE.weak ⟨rfl, rfl, rfl, rfl, trivial⟩)))
                            · replace H := H.2
                              intro K hK
                              refine hE.wop (X.load hE rfl) H fun x146_1 w a H hE => ?_
                              refine hK _ _ ?_
                              refine WA.one (i := 7) (l2 := #[true, true, true, true, true, true, true, true, true, true, true, true, false, false, false, false]) rfl (by kernel_rfl) (by rfl) ?_
                              intro K hK
                              refine hE.wop (X.load hE rfl) H fun x142_1 w a H hE => ?_
                              refine hK _ _ ?_
                              refine hE.aop (i := 12) (fun _ _ _ _ _ h => h) (by kernel_rfl) rfl (by kernel_rfl) (by kernel_rfl) (by rfl) (l2 := #[true, true, true, true, true, true, true, true, true, true, true, true, true, false, false, false]) (X.indexAddr hE rfl rfl) H fun x147_1 a H hE => ?_
                              refine WA.one (i := 13) (l2 := #[true, true, true, true, true, true, true, true, true, true, true, true, true, true, false, false]) rfl (by kernel_rfl) (by rfl) ?_
                              intro K hK
                              refine hE.wopu (X.store hE rfl rfl) H fun w a H hE => ?_
                              refine hK _ _ ?_
                              refine hE.aop (i := 14) (fun _ _ _ _ _ h => h) (by kernel_rfl) rfl (by kernel_rfl) (by kernel_rfl) (by rfl) (l2 := #[true, true, true, true, true, true, true, true, true, true, true, true, true, true, true, false]) (X.indexAddr hE rfl rfl) H fun x148_1 a H hE => ?_
                              refine WA.one (i := 15) (l2 := #[true, true, true, true, true, true, true, true, true, true, true, true, true, true, true, true]) rfl (by kernel_rfl) (by rfl) ?_
                              intro K hK
                              refine hE.wopu (X.store hE rfl rfl) H fun w a H hE => ?_
                              refine hK _ _ ?_
                              refine WA.nil (by kernel_rfl) ?_
                              exact (tn (hj14 () _ _ H (hE.weak ⟨rfl, rfl, rfl, rfl, trivial⟩)))
                    · rcases Classical.em ((x10_2 ≤ x11_2)) with hbr12 | hbr12
                      · replace H := H.1 hbr12
                        replace hE := hE.bool (b := true) (t := 118) rfl (decide_eq_true hbr12)
                        refine hE.qon (by rfl) (by rfl) ?_
                        refine hE.qpur (X.move hE rfl) fun a hE => ?_
                        refine hE.qon (by rfl) (by rfl) ?_
                        refine hE.qpur (X.move hE rfl) fun a hE => ?_
                        refine hE.qon (by rfl) (by rfl) ?_
                        refine hE.qop (X.indexAddr hE rfl rfl) H fun x121 a H hE => ?_
                        refine hE.qon (by rfl) (by rfl) ?_
                        refine hE.qop (X.load hE rfl) H fun x122 a H hE => ?_
                        refine hE.qon (by rfl) (by rfl) ?_
                        refine hE.qpur (X.move hE rfl) fun a hE => ?_
                        refine hE.qon (by rfl) (by rfl) ?_
                        refine hE.qpur (X.move hE rfl) fun a hE => ?_
                        refine hE.qon (by rfl) (by rfl) ?_
                        refine hE.qop (X.indexAddr hE rfl rfl) H fun x125 a H hE => ?_
                        refine hE.qon (by rfl) (by rfl) ?_
                        refine hE.qop (X.load hE rfl) H fun x126 a H hE => ?_
                        refine hE.qon (by rfl) (by rfl) ?_
                        obtain ⟨r, hc, H⟩ := H
                        refine hE.qcall (fun w' => X.callF hE ent52 rfl rfl) hc fun a hE => ?_
                        refine hE.qon (by rfl) (by rfl) ?_
                        refine hE.qpur (X.not hE rfl) fun a hE => ?_
                        refine hE.qpur (X.pickT hE rfl rfl) fun a hE => ?_
                        exact hr12 (!r) _ H (hE.weak ⟨rfl, rfl, rfl, rfl, rfl, trivial⟩)
                      · replace H := H.2 hbr12
                        replace hE := hE.bool (b := false) (t := 118) rfl (decide_eq_false hbr12)
                        refine hE.qoff (by rfl) (by rfl) (by decide) (fun a hE => ?_)
                        refine hE.qoff (by rfl) (by rfl) (by decide) (fun a hE => ?_)
                        refine hE.qoff (by rfl) (by rfl) (by decide) (fun a hE => ?_)
                        refine hE.qoff (by rfl) (by rfl) (by decide) (fun a hE => ?_)
                        refine hE.qoff (by rfl) (by rfl) (by decide) (fun a hE => ?_)
                        refine hE.qoff (by rfl) (by rfl) (by decide) (fun a hE => ?_)
                        refine hE.qoff (by rfl) (by rfl) (by decide) (fun a hE => ?_)
                        refine hE.qoff (by rfl) (by rfl) (by decide) (fun a hE => ?_)
                        refine hE.qoff (by rfl) (by rfl) (by decide) (fun a hE => ?_)
                        refine hE.qoff (by rfl) (by rfl) (by decide) (fun a hE => ?_)
                        refine hE.qpur (X.pickF hE rfl rfl) fun a hE => ?_
                        exact hr12 false _ H (hE.weak ⟨rfl, rfl, rfl, rfl, rfl, trivial⟩)
                · rcases Classical.em ((x10_2 ≤ x11_1)) with hbr10 | hbr10
                  · replace H := H.1 hbr10
                    replace hE := hE.bool (b := true) (t := 102) rfl (decide_eq_true hbr10)
                    refine hE.qon (by rfl) (by rfl) ?_
                    refine hE.qpur (X.move hE rfl) fun a hE => ?_
                    refine hE.qon (by rfl) (by rfl) ?_
                    refine hE.qpur (X.move hE rfl) fun a hE => ?_
                    refine hE.qon (by rfl) (by rfl) ?_
                    refine hE.qop (X.indexAddr hE rfl rfl) H fun x105 a H hE => ?_
                    refine hE.qon (by rfl) (by rfl) ?_
                    refine hE.qop (X.load hE rfl) H fun x106 a H hE => ?_
                    refine hE.qon (by rfl) (by rfl) ?_
                    refine hE.qpur (X.move hE rfl) fun a hE => ?_
                    refine hE.qon (by rfl) (by rfl) ?_
                    refine hE.qpur (X.move hE rfl) fun a hE => ?_
                    refine hE.qon (by rfl) (by rfl) ?_
                    refine hE.qop (X.indexAddr hE rfl rfl) H fun x109 a H hE => ?_
                    refine hE.qon (by rfl) (by rfl) ?_
                    refine hE.qop (X.load hE rfl) H fun x110 a H hE => ?_
                    refine hE.qon (by rfl) (by rfl) ?_
                    obtain ⟨r_1, hc, H⟩ := H
                    refine hE.qcall (fun w' => X.callF hE ent52 rfl rfl) hc fun a hE => ?_
                    refine hE.qpur (X.pickT hE rfl rfl) fun a hE => ?_
                    exact hr10 r_1 _ H (hE.weak ⟨rfl, rfl, rfl, rfl, rfl, trivial⟩)
                  · replace H := H.2 hbr10
                    replace hE := hE.bool (b := false) (t := 102) rfl (decide_eq_false hbr10)
                    refine hE.qoff (by rfl) (by rfl) (by decide) (fun a hE => ?_)
                    refine hE.qoff (by rfl) (by rfl) (by decide) (fun a hE => ?_)
                    refine hE.qoff (by rfl) (by rfl) (by decide) (fun a hE => ?_)
                    refine hE.qoff (by rfl) (by rfl) (by decide) (fun a hE => ?_)
                    refine hE.qoff (by rfl) (by rfl) (by decide) (fun a hE => ?_)
                    refine hE.qoff (by rfl) (by rfl) (by decide) (fun a hE => ?_)
                    refine hE.qoff (by rfl) (by rfl) (by decide) (fun a hE => ?_)
                    refine hE.qoff (by rfl) (by rfl) (by decide) (fun a hE => ?_)
                    refine hE.qoff (by rfl) (by rfl) (by decide) (fun a hE => ?_)
                    refine hE.qpur (X.pickF hE rfl rfl) fun a hE => ?_
                    exact hr10 false _ H (hE.weak ⟨rfl, rfl, rfl, rfl, rfl, trivial⟩)
              · refine C.any 16 #[false, false, false, false, false, false, false, false, false, false, false, false, false, false, false, false] (by kernel_rfl) (fun w hB => ?_)
                replace H := H w hB
                refine hE.apur (i := 0) (fun _ _ _ _ _ h => h) (by kernel_rfl) rfl (by kernel_rfl) (by kernel_rfl) (by rfl) (l2 := #[true, false, false, false, false, false, false, false, false, false, false, false, false, false, false, false]) (pn_run (X.move hE rfl)) fun a hE => ?_
                refine hE.apur (i := 1) (fun _ _ _ _ _ h => h) (by kernel_rfl) rfl (by kernel_rfl) (by kernel_rfl) (by rfl) (l2 := #[true, true, false, false, false, false, false, false, false, false, false, false, false, false, false, false]) (pn_run (X.move hE rfl)) fun a hE => ?_
                refine hE.apur (i := 2) (fun _ _ _ _ _ h => h) (by kernel_rfl) rfl (by kernel_rfl) (by kernel_rfl) (by rfl) (l2 := #[true, true, true, false, false, false, false, false, false, false, false, false, false, false, false, false]) (pn_run (X.move hE rfl)) fun a hE => ?_
                refine hE.apur (i := 3) (fun _ _ _ _ _ h => h) (by kernel_rfl) rfl (by kernel_rfl) (by kernel_rfl) (by rfl) (l2 := #[true, true, true, true, false, false, false, false, false, false, false, false, false, false, false, false]) (pn_run (X.move hE rfl)) fun a hE => ?_
                refine hE.apur (i := 4) (fun _ _ _ _ _ h => h) (by kernel_rfl) rfl (by kernel_rfl) (by kernel_rfl) (by rfl) (l2 := #[true, true, true, true, true, false, false, false, false, false, false, false, false, false, false, false]) (pn_run (X.move hE rfl)) fun a hE => ?_
                refine hE.apur (i := 5) (fun _ _ _ _ _ h => h) (by kernel_rfl) rfl (by kernel_rfl) (by kernel_rfl) (by rfl) (l2 := #[true, true, true, true, true, true, false, false, false, false, false, false, false, false, false, false]) (pn_run (X.move hE rfl)) fun a hE => ?_
                refine hE.aop (i := 6) (fun _ _ _ _ _ h => h) (by kernel_rfl) rfl (by kernel_rfl) (by kernel_rfl) (by rfl) (l2 := #[true, true, true, true, true, true, true, false, false, false, false, false, false, false, false, false]) (X.indexAddr hE rfl rfl) H fun x87 a H hE => ?_
                refine hE.apur (i := 8) (fun _ _ _ _ _ h => h) (by kernel_rfl) rfl (by kernel_rfl) (by kernel_rfl) (by rfl) (l2 := #[true, true, true, true, true, true, true, false, true, false, false, false, false, false, false, false]) (pn_run (X.move hE rfl)) fun a hE => ?_
                refine hE.apur (i := 9) (fun _ _ _ _ _ h => h) (by kernel_rfl) rfl (by kernel_rfl) (by kernel_rfl) (by rfl) (l2 := #[true, true, true, true, true, true, true, false, true, true, false, false, false, false, false, false]) (pn_run (X.move hE rfl)) fun a hE => ?_
                refine hE.aop (i := 10) (fun _ _ _ _ _ h => h) (by kernel_rfl) rfl (by kernel_rfl) (by kernel_rfl) (by rfl) (l2 := #[true, true, true, true, true, true, true, false, true, true, true, false, false, false, false, false]) (X.indexAddr hE rfl rfl) H fun x91 a H hE => ?_
                refine WA.two (i := 7) (j := 11) (l2 := #[true, true, true, true, true, true, true, true, true, true, true, false, false, false, false, false]) (l3 := #[true, true, true, true, true, true, true, false, true, true, true, true, false, false, false, false]) rfl rfl (by kernel_rfl) (by rfl) (by rfl) ?_ ?_
                · replace H := H.1
                  intro K hK
                  refine hE.wop (X.load hE rfl) H fun x88 w a H hE => ?_
                  refine hK _ _ ?_
                  refine WA.one (i := 11) (l2 := #[true, true, true, true, true, true, true, true, true, true, true, true, false, false, false, false]) rfl (by kernel_rfl) (by rfl) ?_
                  intro K hK
                  refine hE.wop (X.load hE rfl) H fun x92 w a H hE => ?_
                  refine hK _ _ ?_
                  refine hE.aop (i := 12) (fun _ _ _ _ _ h => h) (by kernel_rfl) rfl (by kernel_rfl) (by kernel_rfl) (by rfl) (l2 := #[true, true, true, true, true, true, true, true, true, true, true, true, true, false, false, false]) (X.indexAddr hE rfl rfl) H fun x93 a H hE => ?_
                  refine WA.one (i := 13) (l2 := #[true, true, true, true, true, true, true, true, true, true, true, true, true, true, false, false]) rfl (by kernel_rfl) (by rfl) ?_
                  intro K hK
                  refine hE.wopu (X.store hE rfl rfl) H fun w a H hE => ?_
                  refine hK _ _ ?_
                  refine hE.aop (i := 14) (fun _ _ _ _ _ h => h) (by kernel_rfl) rfl (by kernel_rfl) (by kernel_rfl) (by rfl) (l2 := #[true, true, true, true, true, true, true, true, true, true, true, true, true, true, true, false]) (X.indexAddr hE rfl rfl) H fun x94 a H hE => ?_
                  refine WA.one (i := 15) (l2 := #[true, true, true, true, true, true, true, true, true, true, true, true, true, true, true, true]) rfl (by kernel_rfl) (by rfl) ?_
                  intro K hK
                  refine hE.wopu (X.store hE rfl rfl) H fun w a H hE => ?_
                  refine hK _ _ ?_
                  refine WA.nil (by kernel_rfl) ?_
                  exact (tn (hj7 () _ _ H (hE.weak ⟨rfl, rfl, rfl, rfl, trivial⟩)))
                · replace H := H.2
                  intro K hK
                  refine hE.wop (X.load hE rfl) H fun x92_1 w a H hE => ?_
                  refine hK _ _ ?_
                  refine WA.one (i := 7) (l2 := #[true, true, true, true, true, true, true, true, true, true, true, true, false, false, false, false]) rfl (by kernel_rfl) (by rfl) ?_
                  intro K hK
                  refine hE.wop (X.load hE rfl) H fun x88_1 w a H hE => ?_
                  refine hK _ _ ?_
                  refine hE.aop (i := 12) (fun _ _ _ _ _ h => h) (by kernel_rfl) rfl (by kernel_rfl) (by kernel_rfl) (by rfl) (l2 := #[true, true, true, true, true, true, true, true, true, true, true, true, true, false, false, false]) (X.indexAddr hE rfl rfl) H fun x93_1 a H hE => ?_
                  refine WA.one (i := 13) (l2 := #[true, true, true, true, true, true, true, true, true, true, true, true, true, true, false, false]) rfl (by kernel_rfl) (by rfl) ?_
                  intro K hK
                  refine hE.wopu (X.store hE rfl rfl) H fun w a H hE => ?_
                  refine hK _ _ ?_
                  refine hE.aop (i := 14) (fun _ _ _ _ _ h => h) (by kernel_rfl) rfl (by kernel_rfl) (by kernel_rfl) (by rfl) (l2 := #[true, true, true, true, true, true, true, true, true, true, true, true, true, true, true, false]) (X.indexAddr hE rfl rfl) H fun x94_1 a H hE => ?_
                  refine WA.one (i := 15) (l2 := #[true, true, true, true, true, true, true, true, true, true, true, true, true, true, true, true]) rfl (by kernel_rfl) (by rfl) ?_
                  intro K hK
                  refine hE.wopu (X.store hE rfl rfl) H fun w a H hE => ?_
                  refine hK _ _ ?_
                  refine WA.nil (by kernel_rfl) ?_
                  exact (tn (hj7 () _ _ H (hE.weak ⟨rfl, rfl, rfl, rfl, trivial⟩)))
        · rcases Classical.em ((x10 ≤ x11)) with hbr5 | hbr5
          · replace H := H.1 hbr5
            replace hE := hE.bool (b := true) (t := 49) rfl (decide_eq_true hbr5)
            refine hE.qon (by rfl) (by rfl) ?_
            refine hE.qpur (X.move hE rfl) fun a hE => ?_
            refine hE.qon (by rfl) (by rfl) ?_
            refine hE.qpur (X.move hE rfl) fun a hE => ?_
            refine hE.qon (by rfl) (by rfl) ?_
            refine hE.qop (X.indexAddr hE rfl rfl) H fun x52 a H hE => ?_
            refine hE.qon (by rfl) (by rfl) ?_
            refine hE.qop (X.load hE rfl) H fun x53 a H hE => ?_
            refine hE.qon (by rfl) (by rfl) ?_
            refine hE.qpur (X.move hE rfl) fun a hE => ?_
            refine hE.qon (by rfl) (by rfl) ?_
            refine hE.qpur (X.move hE rfl) fun a hE => ?_
            refine hE.qon (by rfl) (by rfl) ?_
            refine hE.qop (X.indexAddr hE rfl rfl) H fun x56 a H hE => ?_
            refine hE.qon (by rfl) (by rfl) ?_
            refine hE.qop (X.load hE rfl) H fun x57 a H hE => ?_
            refine hE.qon (by rfl) (by rfl) ?_
            obtain ⟨r_2, hc, H⟩ := H
            refine hE.qcall (fun w' => X.callF hE ent52 rfl rfl) hc fun a hE => ?_
            refine hE.qon (by rfl) (by rfl) ?_
            refine hE.qpur (X.not hE rfl) fun a hE => ?_
            refine hE.qpur (X.pickT hE rfl rfl) fun a hE => ?_
            exact hr5 (!r_2) _ H (hE.weak ⟨rfl, rfl, rfl, rfl, rfl, trivial⟩)
          · replace H := H.2 hbr5
            replace hE := hE.bool (b := false) (t := 49) rfl (decide_eq_false hbr5)
            refine hE.qoff (by rfl) (by rfl) (by decide) (fun a hE => ?_)
            refine hE.qoff (by rfl) (by rfl) (by decide) (fun a hE => ?_)
            refine hE.qoff (by rfl) (by rfl) (by decide) (fun a hE => ?_)
            refine hE.qoff (by rfl) (by rfl) (by decide) (fun a hE => ?_)
            refine hE.qoff (by rfl) (by rfl) (by decide) (fun a hE => ?_)
            refine hE.qoff (by rfl) (by rfl) (by decide) (fun a hE => ?_)
            refine hE.qoff (by rfl) (by rfl) (by decide) (fun a hE => ?_)
            refine hE.qoff (by rfl) (by rfl) (by decide) (fun a hE => ?_)
            refine hE.qoff (by rfl) (by rfl) (by decide) (fun a hE => ?_)
            refine hE.qoff (by rfl) (by rfl) (by decide) (fun a hE => ?_)
            refine hE.qpur (X.pickF hE rfl rfl) fun a hE => ?_
            exact hr5 false _ H (hE.weak ⟨rfl, rfl, rfl, rfl, rfl, trivial⟩)
    · rcases Classical.em ((x10 ≤ (IntKind.wrap .i64 (x2 - 1)))) with hbr3 | hbr3
      · replace H := H.1 hbr3
        replace hE := hE.bool (b := true) (t := 33) rfl (decide_eq_true hbr3)
        refine hE.qon (by rfl) (by rfl) ?_
        refine hE.qpur (X.move hE rfl) fun a hE => ?_
        refine hE.qon (by rfl) (by rfl) ?_
        refine hE.qpur (X.move hE rfl) fun a hE => ?_
        refine hE.qon (by rfl) (by rfl) ?_
        refine hE.qop (X.indexAddr hE rfl rfl) H fun x36 a H hE => ?_
        refine hE.qon (by rfl) (by rfl) ?_
        refine hE.qop (X.load hE rfl) H fun x37 a H hE => ?_
        refine hE.qon (by rfl) (by rfl) ?_
        refine hE.qpur (X.move hE rfl) fun a hE => ?_
        refine hE.qon (by rfl) (by rfl) ?_
        refine hE.qpur (X.move hE rfl) fun a hE => ?_
        refine hE.qon (by rfl) (by rfl) ?_
        refine hE.qop (X.indexAddr hE rfl rfl) H fun x40 a H hE => ?_
        refine hE.qon (by rfl) (by rfl) ?_
        refine hE.qop (X.load hE rfl) H fun x41 a H hE => ?_
        refine hE.qon (by rfl) (by rfl) ?_
        obtain ⟨r_3, hc, H⟩ := H
        refine hE.qcall (fun w' => X.callF hE ent52 rfl rfl) hc fun a hE => ?_
        refine hE.qpur (X.pickT hE rfl rfl) fun a hE => ?_
        exact hr3 r_3 _ H (hE.weak ⟨rfl, rfl, rfl, rfl, rfl, trivial⟩)
      · replace H := H.2 hbr3
        replace hE := hE.bool (b := false) (t := 33) rfl (decide_eq_false hbr3)
        refine hE.qoff (by rfl) (by rfl) (by decide) (fun a hE => ?_)
        refine hE.qoff (by rfl) (by rfl) (by decide) (fun a hE => ?_)
        refine hE.qoff (by rfl) (by rfl) (by decide) (fun a hE => ?_)
        refine hE.qoff (by rfl) (by rfl) (by decide) (fun a hE => ?_)
        refine hE.qoff (by rfl) (by rfl) (by decide) (fun a hE => ?_)
        refine hE.qoff (by rfl) (by rfl) (by decide) (fun a hE => ?_)
        refine hE.qoff (by rfl) (by rfl) (by decide) (fun a hE => ?_)
        refine hE.qoff (by rfl) (by rfl) (by decide) (fun a hE => ?_)
        refine hE.qoff (by rfl) (by rfl) (by decide) (fun a hE => ?_)
        refine hE.qpur (X.pickF hE rfl rfl) fun a hE => ?_
        exact hr3 false _ H (hE.weak ⟨rfl, rfl, rfl, rfl, rfl, trivial⟩)
  · refine C.any 16 #[false, false, false, false, false, false, false, false, false, false, false, false, false, false, false, false] (by kernel_rfl) (fun w hB => ?_)
    replace H := H w hB
    refine hE.apur (i := 0) (fun _ _ _ _ _ h => h) (by kernel_rfl) rfl (by kernel_rfl) (by kernel_rfl) (by rfl) (l2 := #[true, false, false, false, false, false, false, false, false, false, false, false, false, false, false, false]) (pn_run (X.move hE rfl)) fun a hE => ?_
    refine hE.apur (i := 1) (fun _ _ _ _ _ h => h) (by kernel_rfl) rfl (by kernel_rfl) (by kernel_rfl) (by rfl) (l2 := #[true, true, false, false, false, false, false, false, false, false, false, false, false, false, false, false]) (pn_run (X.move hE rfl)) fun a hE => ?_
    refine hE.apur (i := 2) (fun _ _ _ _ _ h => h) (by kernel_rfl) rfl (by kernel_rfl) (by kernel_rfl) (by rfl) (l2 := #[true, true, true, false, false, false, false, false, false, false, false, false, false, false, false, false]) (pn_run (X.move hE rfl)) fun a hE => ?_
    refine hE.apur (i := 3) (fun _ _ _ _ _ h => h) (by kernel_rfl) rfl (by kernel_rfl) (by kernel_rfl) (by rfl) (l2 := #[true, true, true, true, false, false, false, false, false, false, false, false, false, false, false, false]) (pn_run (X.move hE rfl)) fun a hE => ?_
    refine hE.apur (i := 4) (fun _ _ _ _ _ h => h) (by kernel_rfl) rfl (by kernel_rfl) (by kernel_rfl) (by rfl) (l2 := #[true, true, true, true, true, false, false, false, false, false, false, false, false, false, false, false]) (pn_run (X.move hE rfl)) fun a hE => ?_
    refine hE.apur (i := 5) (fun _ _ _ _ _ h => h) (by kernel_rfl) rfl (by kernel_rfl) (by kernel_rfl) (by rfl) (l2 := #[true, true, true, true, true, true, false, false, false, false, false, false, false, false, false, false]) (pn_run (X.move hE rfl)) fun a hE => ?_
    refine hE.aop (i := 6) (fun _ _ _ _ _ h => h) (by kernel_rfl) rfl (by kernel_rfl) (by kernel_rfl) (by rfl) (l2 := #[true, true, true, true, true, true, true, false, false, false, false, false, false, false, false, false]) (X.indexAddr hE rfl rfl) H fun x18 a H hE => ?_
    refine hE.apur (i := 8) (fun _ _ _ _ _ h => h) (by kernel_rfl) rfl (by kernel_rfl) (by kernel_rfl) (by rfl) (l2 := #[true, true, true, true, true, true, true, false, true, false, false, false, false, false, false, false]) (pn_run (X.move hE rfl)) fun a hE => ?_
    refine hE.apur (i := 9) (fun _ _ _ _ _ h => h) (by kernel_rfl) rfl (by kernel_rfl) (by kernel_rfl) (by rfl) (l2 := #[true, true, true, true, true, true, true, false, true, true, false, false, false, false, false, false]) (pn_run (X.move hE rfl)) fun a hE => ?_
    refine hE.aop (i := 10) (fun _ _ _ _ _ h => h) (by kernel_rfl) rfl (by kernel_rfl) (by kernel_rfl) (by rfl) (l2 := #[true, true, true, true, true, true, true, false, true, true, true, false, false, false, false, false]) (X.indexAddr hE rfl rfl) H fun x22 a H hE => ?_
    refine WA.two (i := 7) (j := 11) (l2 := #[true, true, true, true, true, true, true, true, true, true, true, false, false, false, false, false]) (l3 := #[true, true, true, true, true, true, true, false, true, true, true, true, false, false, false, false]) rfl rfl (by kernel_rfl) (by rfl) (by rfl) ?_ ?_
    · replace H := H.1
      intro K hK
      refine hE.wop (X.load hE rfl) H fun x19 w a H hE => ?_
      refine hK _ _ ?_
      refine WA.one (i := 11) (l2 := #[true, true, true, true, true, true, true, true, true, true, true, true, false, false, false, false]) rfl (by kernel_rfl) (by rfl) ?_
      intro K hK
      refine hE.wop (X.load hE rfl) H fun x23 w a H hE => ?_
      refine hK _ _ ?_
      refine hE.aop (i := 12) (fun _ _ _ _ _ h => h) (by kernel_rfl) rfl (by kernel_rfl) (by kernel_rfl) (by rfl) (l2 := #[true, true, true, true, true, true, true, true, true, true, true, true, true, false, false, false]) (X.indexAddr hE rfl rfl) H fun x24 a H hE => ?_
      refine WA.one (i := 13) (l2 := #[true, true, true, true, true, true, true, true, true, true, true, true, true, true, false, false]) rfl (by kernel_rfl) (by rfl) ?_
      intro K hK
      refine hE.wopu (X.store hE rfl rfl) H fun w a H hE => ?_
      refine hK _ _ ?_
      refine hE.aop (i := 14) (fun _ _ _ _ _ h => h) (by kernel_rfl) rfl (by kernel_rfl) (by kernel_rfl) (by rfl) (l2 := #[true, true, true, true, true, true, true, true, true, true, true, true, true, true, true, false]) (X.indexAddr hE rfl rfl) H fun x25 a H hE => ?_
      refine WA.one (i := 15) (l2 := #[true, true, true, true, true, true, true, true, true, true, true, true, true, true, true, true]) rfl (by kernel_rfl) (by rfl) ?_
      intro K hK
      refine hE.wopu (X.store hE rfl rfl) H fun w a H hE => ?_
      refine hK _ _ ?_
      refine WA.nil (by kernel_rfl) ?_
      exact (tn (hj1 () _ _ H (hE.weak ⟨rfl, rfl, rfl, trivial⟩)))
    · replace H := H.2
      intro K hK
      refine hE.wop (X.load hE rfl) H fun x23_1 w a H hE => ?_
      refine hK _ _ ?_
      refine WA.one (i := 7) (l2 := #[true, true, true, true, true, true, true, true, true, true, true, true, false, false, false, false]) rfl (by kernel_rfl) (by rfl) ?_
      intro K hK
      refine hE.wop (X.load hE rfl) H fun x19_1 w a H hE => ?_
      refine hK _ _ ?_
      refine hE.aop (i := 12) (fun _ _ _ _ _ h => h) (by kernel_rfl) rfl (by kernel_rfl) (by kernel_rfl) (by rfl) (l2 := #[true, true, true, true, true, true, true, true, true, true, true, true, true, false, false, false]) (X.indexAddr hE rfl rfl) H fun x24_1 a H hE => ?_
      refine WA.one (i := 13) (l2 := #[true, true, true, true, true, true, true, true, true, true, true, true, true, true, false, false]) rfl (by kernel_rfl) (by rfl) ?_
      intro K hK
      refine hE.wopu (X.store hE rfl rfl) H fun w a H hE => ?_
      refine hK _ _ ?_
      refine hE.aop (i := 14) (fun _ _ _ _ _ h => h) (by kernel_rfl) rfl (by kernel_rfl) (by kernel_rfl) (by rfl) (l2 := #[true, true, true, true, true, true, true, true, true, true, true, true, true, true, true, false]) (X.indexAddr hE rfl rfl) H fun x25_1 a H hE => ?_
      refine WA.one (i := 15) (l2 := #[true, true, true, true, true, true, true, true, true, true, true, true, true, true, true, true]) rfl (by kernel_rfl) (by rfl) ?_
      intro K hK
      refine hE.wopu (X.store hE rfl rfl) H fun w a H hE => ?_
      refine hK _ _ ?_
      refine WA.nil (by kernel_rfl) ?_
      exact (tn (hj1 () _ _ H (hE.weak ⟨rfl, rfl, rfl, trivial⟩)))
/-! ### slices.siftDownOrdered[string]: function 57 -/
def V_slices_siftDownOrdered_string_j3 (Kl1 : Int → World → Prop) (x9 : Int) (w : World) : Prop :=
  Kl1 x9 w
def V_slices_siftDownOrdered_string_j2 (x0 : Sl) (x3 : Int) (Ret : World → Prop) (x8 : Int) (Kl1 : Int → World → Prop) (x9 : Int) (w : World) : Prop :=
  opB Try.prog Value.pointer (Instr.indexAt 23 (Sl.v x0) (.int .i64 (IntKind.wrap .i64 (x3 + x8)))) w (fun x43 => opB Try.prog Value.string (Instr.loadAt 9 (.pointer x43)) w (fun x44 => opB Try.prog Value.pointer (Instr.indexAt 23 (Sl.v x0) (.int .i64 (IntKind.wrap .i64 (x3 + x9)))) w (fun x49 => opB Try.prog Value.string (Instr.loadAt 9 (.pointer x49)) w (fun x50 => ∃ (r : Bool), (∀ w', Bel w w' → Cl Try.prog 52 [(.string x44), (.string x50)].toArray w' (fun e w'' => e = .returned (.bool r) ∧ Bel w' w'')) ∧ (nextB w (fun w => ((!r) = true → (Ret  w)) ∧ ((!r) = false → (nextB w (fun w => opP Try.prog Value.pointer (Instr.indexAt 23 (Sl.v x0) (.int .i64 (IntKind.wrap .i64 (x3 + x9)))) (fun x65 => opP Try.prog Value.pointer (Instr.indexAt 23 (Sl.v x0) (.int .i64 (IntKind.wrap .i64 (x3 + x8)))) (fun x71 => (opE Try.prog Value.string (Instr.loadAt 9 (.pointer x65)) w (fun x66 w => opE Try.prog Value.string (Instr.loadAt 9 (.pointer x71)) w (fun x72 w => opP Try.prog Value.pointer (Instr.indexAt 23 (Sl.v x0) (.int .i64 (IntKind.wrap .i64 (x3 + x8)))) (fun x73 => opU Try.prog (Instr.storeAt 9 (.pointer x73) (.string x66)) w (fun w => opP Try.prog Value.pointer (Instr.indexAt 23 (Sl.v x0) (.int .i64 (IntKind.wrap .i64 (x3 + x9)))) (fun x74 => opU Try.prog (Instr.storeAt 9 (.pointer x74) (.string x72)) w (fun w => V_slices_siftDownOrdered_string_j3 Kl1 x9 w))))))) ∧ (opE Try.prog Value.string (Instr.loadAt 9 (.pointer x71)) w (fun x72_1 w => opE Try.prog Value.string (Instr.loadAt 9 (.pointer x65)) w (fun x66_1 w => opP Try.prog Value.pointer (Instr.indexAt 23 (Sl.v x0) (.int .i64 (IntKind.wrap .i64 (x3 + x8)))) (fun x73_1 => opU Try.prog (Instr.storeAt 9 (.pointer x73_1) (.string x66_1)) w (fun w => opP Try.prog Value.pointer (Instr.indexAt 23 (Sl.v x0) (.int .i64 (IntKind.wrap .i64 (x3 + x9)))) (fun x74_1 => opU Try.prog (Instr.storeAt 9 (.pointer x74_1) (.string x72_1)) w (fun w => V_slices_siftDownOrdered_string_j3 Kl1 x9 w))))))))))))))))))
def V_slices_siftDownOrdered_string_r4 (x0 : Sl) (x3 : Int) (Ret : World → Prop) (x8 : Int) (Kl1 : Int → World → Prop) (x36 : Bool) (w : World) : Prop :=
  nextB w (fun w => (x36 = true → (V_slices_siftDownOrdered_string_j2 x0 x3 Ret x8 Kl1 (IntKind.wrap .i64 ((IntKind.wrap .i64 ((IntKind.wrap .i64 (2 * x8)) + 1)) + 1)) w)) ∧ (x36 = false → (V_slices_siftDownOrdered_string_j2 x0 x3 Ret x8 Kl1 (IntKind.wrap .i64 ((IntKind.wrap .i64 (2 * x8)) + 1)) w)))
def V_slices_siftDownOrdered_string_l1b (x0 : Sl) (x2 : Int) (x3 : Int) (Ret : World → Prop) (x8 : Int) (w : World) (Kl1 : Int → World → Prop) : Prop :=
  ((x2 ≤ (IntKind.wrap .i64 ((IntKind.wrap .i64 (2 * x8)) + 1))) → (Ret  w)) ∧ (¬ (x2 ≤ (IntKind.wrap .i64 ((IntKind.wrap .i64 (2 * x8)) + 1))) → ((((IntKind.wrap .i64 ((IntKind.wrap .i64 ((IntKind.wrap .i64 (2 * x8)) + 1)) + 1)) < x2) → (opB Try.prog Value.pointer (Instr.indexAt 23 (Sl.v x0) (.int .i64 (IntKind.wrap .i64 (x3 + (IntKind.wrap .i64 ((IntKind.wrap .i64 (2 * x8)) + 1)))))) w (fun x26 => opB Try.prog Value.string (Instr.loadAt 9 (.pointer x26)) w (fun x27 => opB Try.prog Value.pointer (Instr.indexAt 23 (Sl.v x0) (.int .i64 (IntKind.wrap .i64 ((IntKind.wrap .i64 (x3 + (IntKind.wrap .i64 ((IntKind.wrap .i64 (2 * x8)) + 1)))) + 1)))) w (fun x33 => opB Try.prog Value.string (Instr.loadAt 9 (.pointer x33)) w (fun x34 => ∃ (r_1 : Bool), (∀ w', Bel w w' → Cl Try.prog 52 [(.string x27), (.string x34)].toArray w' (fun e w'' => e = .returned (.bool r_1) ∧ Bel w' w'')) ∧ (V_slices_siftDownOrdered_string_r4 x0 x3 Ret x8 Kl1 r_1 w))))))) ∧ (¬ ((IntKind.wrap .i64 ((IntKind.wrap .i64 ((IntKind.wrap .i64 (2 * x8)) + 1)) + 1)) < x2) → (V_slices_siftDownOrdered_string_r4 x0 x3 Ret x8 Kl1 false w))))
def V_slices_siftDownOrdered_string (x0 : Sl) (x1 : Int) (x2 : Int) (x3 : Int) (w : World) (Ret : World → Prop) : Prop :=
  ∃ (I : Int → World → Prop) (μ : Int → World → Nat), I x1 w ∧ ∀ (x8 : Int) w, I x8 w → V_slices_siftDownOrdered_string_l1b x0 x2 x3 Ret x8 w (fun x8' w' => I x8' w' ∧ μ x8' w' < μ x8 w)
set_option maxRecDepth 100000 in
theorem L1_slices_siftDownOrdered_string (x0 : Sl) (x1 : Int) (x2 : Int) (x3 : Int) (w : World) (Ret : World → Prop) (H : V_slices_siftDownOrdered_string x0 x1 x2 x3 w Ret) : Cl Try.prog 57 [(Sl.v x0), (.int .i64 x1), (.int .i64 x2), (.int .i64 x3)].toArray w (fun e w' => e = .returned (.tuple [].toArray) ∧ Ret  w') := by
  unfold V_slices_siftDownOrdered_string at H
  refine C.enter 76 (zipE 0 [(Sl.v x0), (.int .i64 x1), (.int .i64 x2), (.int .i64 x3)]) Try.func57 rfl rfl (by rfl) rfl ?_
  intro a hE
  replace hE : Sat [] 76 [(0, (Sl.v x0)), (1, (.int .i64 x1)), (2, (.int .i64 x2)), (3, (.int .i64 x3))] a := hE
  refine C.seq ?_
  refine C.region ?_
  refine hE.pur (X.move hE rfl) fun a hE => ?_
  refine hE.pur (X.assign hE rfl) fun a hE => ?_
  refine C.nil (tn ?_)
  refine C.block ?_
  obtain ⟨I_l1, μ_l1, h0, hb⟩ := H
  refine C.loop (ds := []) (N := 76) (σ := Int) (fun s => [(8, (.int .i64 s)), (0, (Sl.v x0)), (2, (.int .i64 x2)), (3, (.int .i64 x3))]) (fun s w => I_l1 s w) (fun s w => μ_l1 s w) x1 h0 (hE.weak ⟨rfl, rfl, rfl, rfl, trivial⟩) ?_
  intro x8 w a hI hE
  try dsimp only at hI hE
  obtain ⟨Kl1, hK_l1⟩ : ∃ K : Int → World → Prop, K = (fun x8' w' => I_l1 x8' w' ∧ μ_l1 x8' w' < μ_l1 x8 w) := ⟨_, rfl⟩
  have H : V_slices_siftDownOrdered_string_l1b x0 x2 x3 Ret x8 w Kl1 := by rw [hK_l1]; exact hb x8 w hI
  clear hb h0 hI
  unfold V_slices_siftDownOrdered_string_l1b at H
  refine C.block ?_
  refine C.seq ?_
  refine C.region ?_
  refine hE.pur (X.move hE rfl) fun a hE => ?_
  refine hE.pur (X.mul hE rfl rfl) fun a hE => ?_
  refine hE.pur (X.add hE rfl rfl) fun a hE => ?_
  refine hE.pur (X.assign hE rfl) fun a hE => ?_
  refine C.nil (tn ?_)
  refine C.seq ?_
  refine C.seq ?_
  refine C.region ?_
  refine hE.pur (X.move hE rfl) fun a hE => ?_
  refine hE.pur (X.move hE rfl) fun a hE => ?_
  refine hE.pur (X.geI hE rfl rfl) fun a hE => ?_
  refine C.nil (tn ?_)
  refine C.condP hE rfl (fun hc => ?_) (fun hc => ?_)
  · replace H := H.1 hc
    exact C.exit (te (bo (te (be (C.end0 hE rfl ⟨rfl, H⟩)))))
  · replace H := H.2 hc
    refine C.skip (tn ?_)
    refine C.join (ds := []) (N := 76) (σ := Int) (fun s => [(9, (.int .i64 s)), (0, (Sl.v x0)), (2, (.int .i64 x2)), (3, (.int .i64 x3)), (8, (.int .i64 x8))]) (fun s w => V_slices_siftDownOrdered_string_j2 x0 x3 Ret x8 Kl1 s w) ?_ (fun hj2 => ?_)
    · intro x9 w a H hE
      try dsimp only at H hE
      unfold V_slices_siftDownOrdered_string_j2 at H
      refine C.seq ?_
      refine C.seq ?_
      refine C.draw (by kernel_rfl) (by kernel_rfl) ?_
      refine hE.qpur (X.move hE rfl) fun a hE => ?_
      refine hE.qpur (X.move hE rfl) fun a hE => ?_
      refine hE.qpur (X.move hE rfl) fun a hE => ?_
      refine hE.qpur (X.add hE rfl rfl) fun a hE => ?_
      refine hE.qop (X.indexAddr hE rfl rfl) H fun x43 a H hE => ?_
      refine hE.qop (X.load hE rfl) H fun x44 a H hE => ?_
      refine hE.qpur (X.move hE rfl) fun a hE => ?_
      refine hE.qpur (X.move hE rfl) fun a hE => ?_
      refine hE.qpur (X.move hE rfl) fun a hE => ?_
      refine hE.qpur (X.add hE rfl rfl) fun a hE => ?_
      refine hE.qop (X.indexAddr hE rfl rfl) H fun x49 a H hE => ?_
      refine hE.qop (X.load hE rfl) H fun x50 a H hE => ?_
      obtain ⟨r, hc, H⟩ := H
      refine hE.qcall (fun w' => X.callF hE ent52 rfl rfl) hc fun a hE => ?_
      refine hE.qpur (X.not hE rfl) fun a hE => ?_
      refine C.qnil (fun w hB => ?_)
      replace H := H w hB
      refine (tn ?_)
      refine C.condB hE rfl (fun hc => ?_) (fun hc => ?_)
      · replace H := H.1 hc
        exact C.ret (tr (br (tr (br (C.ret0 hE rfl ⟨rfl, H⟩)))))
      · replace H := H.2 hc
        refine C.skip (tn ?_)
        refine C.join (ds := []) (N := 76) (σ := Unit) (fun s => [(0, (Sl.v x0)), (2, (.int .i64 x2)), (3, (.int .i64 x3)), (9, (.int .i64 x9))]) (fun s w => V_slices_siftDownOrdered_string_j3 Kl1 x9  w) ?_ (fun hj3 => ?_)
        · rintro ⟨⟩ w a H hE
          try dsimp only at H hE
          unfold V_slices_siftDownOrdered_string_j3 at H
          refine C.region ?_
          refine hE.pur (X.move hE rfl) fun a hE => ?_
          refine hE.pur (X.assign hE rfl) fun a hE => ?_
          rw [hK_l1] at H
          exact C.nil (bn (tn ⟨x9, hE.weak ⟨rfl, rfl, rfl, rfl, trivial⟩, H⟩))
        · refine C.any 24 #[false, false, false, false, false, false, false, false, false, false, false, false, false, false, false, false, false, false, false, false, false, false, false, false] (by kernel_rfl) (fun w hB => ?_)
          replace H := H w hB
          refine hE.apur (i := 0) (fun _ _ _ _ _ h => h) (by kernel_rfl) rfl (by kernel_rfl) (by kernel_rfl) (by rfl) (l2 := #[true, false, false, false, false, false, false, false, false, false, false, false, false, false, false, false, false, false, false, false, false, false, false, false]) (pn_run (X.move hE rfl)) fun a hE => ?_
          refine hE.apur (i := 1) (fun _ _ _ _ _ h => h) (by kernel_rfl) rfl (by kernel_rfl) (by kernel_rfl) (by rfl) (l2 := #[true, true, false, false, false, false, false, false, false, false, false, false, false, false, false, false, false, false, false, false, false, false, false, false]) (pn_run (X.move hE rfl)) fun a hE => ?_
          refine hE.apur (i := 2) (fun _ _ _ _ _ h => h) (by kernel_rfl) rfl (by kernel_rfl) (by kernel_rfl) (by rfl) (l2 := #[true, true, true, false, false, false, false, false, false, false, false, false, false, false, false, false, false, false, false, false, false, false, false, false]) (pn_run (X.move hE rfl)) fun a hE => ?_
          refine hE.apur (i := 3) (fun _ _ _ _ _ h => h) (by kernel_rfl) rfl (by kernel_rfl) (by kernel_rfl) (by rfl) (l2 := #[true, true, true, true, false, false, false, false, false, false, false, false, false, false, false, false, false, false, false, false, false, false, false, false]) (pn_run (X.add hE rfl rfl)) fun a hE => ?_
          refine hE.apur (i := 4) (fun _ _ _ _ _ h => h) (by kernel_rfl) rfl (by kernel_rfl) (by kernel_rfl) (by rfl) (l2 := #[true, true, true, true, true, false, false, false, false, false, false, false, false, false, false, false, false, false, false, false, false, false, false, false]) (pn_run (X.move hE rfl)) fun a hE => ?_
          refine hE.apur (i := 5) (fun _ _ _ _ _ h => h) (by kernel_rfl) rfl (by kernel_rfl) (by kernel_rfl) (by rfl) (l2 := #[true, true, true, true, true, true, false, false, false, false, false, false, false, false, false, false, false, false, false, false, false, false, false, false]) (pn_run (X.move hE rfl)) fun a hE => ?_
          refine hE.apur (i := 6) (fun _ _ _ _ _ h => h) (by kernel_rfl) rfl (by kernel_rfl) (by kernel_rfl) (by rfl) (l2 := #[true, true, true, true, true, true, true, false, false, false, false, false, false, false, false, false, false, false, false, false, false, false, false, false]) (pn_run (X.move hE rfl)) fun a hE => ?_
          refine hE.apur (i := 7) (fun _ _ _ _ _ h => h) (by kernel_rfl) rfl (by kernel_rfl) (by kernel_rfl) (by rfl) (l2 := #[true, true, true, true, true, true, true, true, false, false, false, false, false, false, false, false, false, false, false, false, false, false, false, false]) (pn_run (X.add hE rfl rfl)) fun a hE => ?_
          refine hE.apur (i := 8) (fun _ _ _ _ _ h => h) (by kernel_rfl) rfl (by kernel_rfl) (by kernel_rfl) (by rfl) (l2 := #[true, true, true, true, true, true, true, true, true, false, false, false, false, false, false, false, false, false, false, false, false, false, false, false]) (pn_run (X.move hE rfl)) fun a hE => ?_
          refine hE.apur (i := 9) (fun _ _ _ _ _ h => h) (by kernel_rfl) rfl (by kernel_rfl) (by kernel_rfl) (by rfl) (l2 := #[true, true, true, true, true, true, true, true, true, true, false, false, false, false, false, false, false, false, false, false, false, false, false, false]) (pn_run (X.move hE rfl)) fun a hE => ?_
          refine hE.apur (i := 10) (fun _ _ _ _ _ h => h) (by kernel_rfl) rfl (by kernel_rfl) (by kernel_rfl) (by rfl) (l2 := #[true, true, true, true, true, true, true, true, true, true, true, false, false, false, false, false, false, false, false, false, false, false, false, false]) (pn_run (X.move hE rfl)) fun a hE => ?_
          refine hE.apur (i := 11) (fun _ _ _ _ _ h => h) (by kernel_rfl) rfl (by kernel_rfl) (by kernel_rfl) (by rfl) (l2 := #[true, true, true, true, true, true, true, true, true, true, true, true, false, false, false, false, false, false, false, false, false, false, false, false]) (pn_run (X.add hE rfl rfl)) fun a hE => ?_
          refine hE.aop (i := 12) (fun _ _ _ _ _ h => h) (by kernel_rfl) rfl (by kernel_rfl) (by kernel_rfl) (by rfl) (l2 := #[true, true, true, true, true, true, true, true, true, true, true, true, true, false, false, false, false, false, false, false, false, false, false, false]) (X.indexAddr hE rfl rfl) H fun x65 a H hE => ?_
          refine hE.apur (i := 14) (fun _ _ _ _ _ h => h) (by kernel_rfl) rfl (by kernel_rfl) (by kernel_rfl) (by rfl) (l2 := #[true, true, true, true, true, true, true, true, true, true, true, true, true, false, true, false, false, false, false, false, false, false, false, false]) (pn_run (X.move hE rfl)) fun a hE => ?_
          refine hE.apur (i := 15) (fun _ _ _ _ _ h => h) (by kernel_rfl) rfl (by kernel_rfl) (by kernel_rfl) (by rfl) (l2 := #[true, true, true, true, true, true, true, true, true, true, true, true, true, false, true, true, false, false, false, false, false, false, false, false]) (pn_run (X.move hE rfl)) fun a hE => ?_
          refine hE.apur (i := 16) (fun _ _ _ _ _ h => h) (by kernel_rfl) rfl (by kernel_rfl) (by kernel_rfl) (by rfl) (l2 := #[true, true, true, true, true, true, true, true, true, true, true, true, true, false, true, true, true, false, false, false, false, false, false, false]) (pn_run (X.move hE rfl)) fun a hE => ?_
          refine hE.apur (i := 17) (fun _ _ _ _ _ h => h) (by kernel_rfl) rfl (by kernel_rfl) (by kernel_rfl) (by rfl) (l2 := #[true, true, true, true, true, true, true, true, true, true, true, true, true, false, true, true, true, true, false, false, false, false, false, false]) (pn_run (X.add hE rfl rfl)) fun a hE => ?_
          refine hE.aop (i := 18) (fun _ _ _ _ _ h => h) (by kernel_rfl) rfl (by kernel_rfl) (by kernel_rfl) (by rfl) (l2 := #[true, true, true, true, true, true, true, true, true, true, true, true, true, false, true, true, true, true, true, false, false, false, false, false]) (X.indexAddr hE rfl rfl) H fun x71 a H hE => ?_
          refine WA.two (i := 13) (j := 19) (l2 := #[true, true, true, true, true, true, true, true, true, true, true, true, true, true, true, true, true, true, true, false, false, false, false, false]) (l3 := #[true, true, true, true, true, true, true, true, true, true, true, true, true, false, true, true, true, true, true, true, false, false, false, false]) rfl rfl (by kernel_rfl) (by rfl) (by rfl) ?_ ?_
          · replace H := H.1
            intro K hK
            refine hE.wop (X.load hE rfl) H fun x66 w a H hE => ?_
            refine hK _ _ ?_
            refine WA.one (i := 19) (l2 := #[true, true, true, true, true, true, true, true, true, true, true, true, true, true, true, true, true, true, true, true, false, false, false, false]) rfl (by kernel_rfl) (by rfl) ?_
            intro K hK
            refine hE.wop (X.load hE rfl) H fun x72 w a H hE => ?_
            refine hK _ _ ?_
            refine hE.aop (i := 20) (fun _ _ _ _ _ h => h) (by kernel_rfl) rfl (by kernel_rfl) (by kernel_rfl) (by rfl) (l2 := #[true, true, true, true, true, true, true, true, true, true, true, true, true, true, true, true, true, true, true, true, true, false, false, false]) (X.indexAddr hE rfl rfl) H fun x73 a H hE => ?_
            refine WA.one (i := 21) (l2 := #[true, true, true, true, true, true, true, true, true, true, true, true, true, true, true, true, true, true, true, true, true, true, false, false]) rfl (by kernel_rfl) (by rfl) ?_
            intro K hK
            refine hE.wopu (X.store hE rfl rfl) H fun w a H hE => ?_
            refine hK _ _ ?_
            refine hE.aop (i := 22) (fun _ _ _ _ _ h => h) (by kernel_rfl) rfl (by kernel_rfl) (by kernel_rfl) (by rfl) (l2 := #[true, true, true, true, true, true, true, true, true, true, true, true, true, true, true, true, true, true, true, true, true, true, true, false]) (X.indexAddr hE rfl rfl) H fun x74 a H hE => ?_
            refine WA.one (i := 23) (l2 := #[true, true, true, true, true, true, true, true, true, true, true, true, true, true, true, true, true, true, true, true, true, true, true, true]) rfl (by kernel_rfl) (by rfl) ?_
            intro K hK
            refine hE.wopu (X.store hE rfl rfl) H fun w a H hE => ?_
            refine hK _ _ ?_
            refine WA.nil (by kernel_rfl) ?_
            exact (tn (hj3 () _ _ H (hE.weak ⟨rfl, rfl, rfl, rfl, trivial⟩)))
          · replace H := H.2
            intro K hK
            refine hE.wop (X.load hE rfl) H fun x72_1 w a H hE => ?_
            refine hK _ _ ?_
            refine WA.one (i := 13) (l2 := #[true, true, true, true, true, true, true, true, true, true, true, true, true, true, true, true, true, true, true, true, false, false, false, false]) rfl (by kernel_rfl) (by rfl) ?_
            intro K hK
            refine hE.wop (X.load hE rfl) H fun x66_1 w a H hE => ?_
            refine hK _ _ ?_
            refine hE.aop (i := 20) (fun _ _ _ _ _ h => h) (by kernel_rfl) rfl (by kernel_rfl) (by kernel_rfl) (by rfl) (l2 := #[true, true, true, true, true, true, true, true, true, true, true, true, true, true, true, true, true, true, true, true, true, false, false, false]) (X.indexAddr hE rfl rfl) H fun x73_1 a H hE => ?_
            refine WA.one (i := 21) (l2 := #[true, true, true, true, true, true, true, true, true, true, true, true, true, true, true, true, true, true, true, true, true, true, false, false]) rfl (by kernel_rfl) (by rfl) ?_
            intro K hK
            refine hE.wopu (X.store hE rfl rfl) H fun w a H hE => ?_
            refine hK _ _ ?_
            refine hE.aop (i := 22) (fun _ _ _ _ _ h => h) (by kernel_rfl) rfl (by kernel_rfl) (by kernel_rfl) (by rfl) (l2 := #[true, true, true, true, true, true, true, true, true, true, true, true, true, true, true, true, true, true, true, true, true, true, true, false]) (X.indexAddr hE rfl rfl) H fun x74_1 a H hE => ?_
            refine WA.one (i := 23) (l2 := #[true, true, true, true, true, true, true, true, true, true, true, true, true, true, true, true, true, true, true, true, true, true, true, true]) rfl (by kernel_rfl) (by rfl) ?_
            intro K hK
            refine hE.wopu (X.store hE rfl rfl) H fun w a H hE => ?_
            refine hK _ _ ?_
            refine WA.nil (by kernel_rfl) ?_
            exact (tn (hj3 () _ _ H (hE.weak ⟨rfl, rfl, rfl, rfl, trivial⟩)))
    · refine C.seq ?_
      refine C.draw (by kernel_rfl) (by kernel_rfl) ?_
      refine hE.qpur (X.move hE rfl) fun a hE => ?_
      refine hE.qpur (X.add hE rfl rfl) fun a hE => ?_
      refine hE.qpur (X.move hE rfl) fun a hE => ?_
      refine hE.qpur (X.ltI hE rfl rfl) fun a hE => ?_
      refine hE.qpur (X.move hE rfl) fun a hE => ?_
      refine WQ.join (ds := []) (N := 76) (σ := Bool) (fun s => [(36, (.bool s)), (0, (Sl.v x0)), (2, (.int .i64 x2)), (3, (.int .i64 x3)), (8, (.int .i64 x8)), (9, (.int .i64 (IntKind.wrap .i64 ((IntKind.wrap .i64 (2 * x8)) + 1))))]) (fun s => V_slices_siftDownOrdered_string_r4 x0 x3 Ret x8 Kl1 s w) 15 ?_ (fun hr4 => ?_)
      · intro x36 a H hE
        try dsimp only at H hE
        unfold V_slices_siftDownOrdered_string_r4 at H
        refine C.qnil (fun w hB => ?_)
        replace H := H w hB
        refine (tn ?_)
        refine C.condB hE rfl (fun hc => ?_) (fun hc => ?_)
        · replace H := H.1 hc
          refine C.region ?_
          refine hE.pur (X.move hE rfl) fun a hE => ?_
          refine hE.pur (X.add hE rfl rfl) fun a hE => ?_
          refine hE.pur (X.assign hE rfl) fun a hE => ?_
          exact C.nil (tn (hj2 (IntKind.wrap .i64 ((IntKind.wrap .i64 ((IntKind.wrap .i64 (2 * x8)) + 1)) + 1)) _ _ H (hE.weak ⟨rfl, rfl, rfl, rfl, rfl, trivial⟩)))
        · replace H := H.2 hc
          exact C.skip (tn (hj2 (IntKind.wrap .i64 ((IntKind.wrap .i64 (2 * x8)) + 1)) _ _ H (hE.weak ⟨rfl, rfl, rfl, rfl, rfl, trivial⟩)))
      · rcases Classical.em (((IntKind.wrap .i64 ((IntKind.wrap .i64 ((IntKind.wrap .i64 (2 * x8)) + 1)) + 1)) < x2)) with hbr4 | hbr4
        · replace H := H.1 hbr4
          replace hE := hE.bool (b := true) (t := 21) rfl (decide_eq_true hbr4)
          refine hE.qon (by rfl) (by rfl) ?_
          refine hE.qpur (X.move hE rfl) fun a hE => ?_
          refine hE.qon (by rfl) (by rfl) ?_
          refine hE.qpur (X.move hE rfl) fun a hE => ?_
          refine hE.qon (by rfl) (by rfl) ?_
          refine hE.qpur (X.move hE rfl) fun a hE => ?_
          refine hE.qon (by rfl) (by rfl) ?_
          refine hE.qpur (X.add hE rfl rfl) fun a hE => ?_
          refine hE.qon (by rfl) (by rfl) ?_
          refine hE.qop (X.indexAddr hE rfl rfl) H fun x26 a H hE => ?_
          refine hE.qon (by rfl) (by rfl) ?_
          refine hE.qop (X.load hE rfl) H fun x27 a H hE => ?_
          refine hE.qon (by rfl) (by rfl) ?_
          refine hE.qpur (X.move hE rfl) fun a hE => ?_
          refine hE.qon (by rfl) (by rfl) ?_
          refine hE.qpur (X.move hE rfl) fun a hE => ?_
          refine hE.qon (by rfl) (by rfl) ?_
          refine hE.qpur (X.move hE rfl) fun a hE => ?_
          refine hE.qon (by rfl) (by rfl) ?_
          refine hE.qpur (X.add hE rfl rfl) fun a hE => ?_
          refine hE.qon (by rfl) (by rfl) ?_
          refine hE.qpur (X.add hE rfl rfl) fun a hE => ?_
          refine hE.qon (by rfl) (by rfl) ?_
          refine hE.qop (X.indexAddr hE rfl rfl) H fun x33 a H hE => ?_
          refine hE.qon (by rfl) (by rfl) ?_
          refine hE.qop (X.load hE rfl) H fun x34 a H hE => ?_
          refine hE.qon (by rfl) (by rfl) ?_
          obtain ⟨r_1, hc, H⟩ := H
          refine hE.qcall (fun w' => X.callF hE ent52 rfl rfl) hc fun a hE => ?_
          refine hE.qpur (X.pickT hE rfl rfl) fun a hE => ?_
          exact hr4 r_1 _ H (hE.weak ⟨rfl, rfl, rfl, rfl, rfl, rfl, trivial⟩)
        · replace H := H.2 hbr4
          replace hE := hE.bool (b := false) (t := 21) rfl (decide_eq_false hbr4)
          refine hE.qoff (by rfl) (by rfl) (by decide) (fun a hE => ?_)
          refine hE.qoff (by rfl) (by rfl) (by decide) (fun a hE => ?_)
          refine hE.qoff (by rfl) (by rfl) (by decide) (fun a hE => ?_)
          refine hE.qoff (by rfl) (by rfl) (by decide) (fun a hE => ?_)
          refine hE.qoff (by rfl) (by rfl) (by decide) (fun a hE => ?_)
          refine hE.qoff (by rfl) (by rfl) (by decide) (fun a hE => ?_)
          refine hE.qoff (by rfl) (by rfl) (by decide) (fun a hE => ?_)
          refine hE.qoff (by rfl) (by rfl) (by decide) (fun a hE => ?_)
          refine hE.qoff (by rfl) (by rfl) (by decide) (fun a hE => ?_)
          refine hE.qoff (by rfl) (by rfl) (by decide) (fun a hE => ?_)
          refine hE.qoff (by rfl) (by rfl) (by decide) (fun a hE => ?_)
          refine hE.qoff (by rfl) (by rfl) (by decide) (fun a hE => ?_)
          refine hE.qoff (by rfl) (by rfl) (by decide) (fun a hE => ?_)
          refine hE.qoff (by rfl) (by rfl) (by decide) (fun a hE => ?_)
          refine hE.qpur (X.pickF hE rfl rfl) fun a hE => ?_
          exact hr4 false _ H (hE.weak ⟨rfl, rfl, rfl, rfl, rfl, rfl, trivial⟩)
/-! ### slices.medianAdjacentOrdered[string]: function 60 -/
def V_slices_medianAdjacentOrdered_string (x0 : Sl) (x1 : Int) (x2 : Option Addr) (w : World) (Ret : Int → World → Prop) : Prop :=
  Cl Try.prog 61 [(Sl.v x0), (.int .i64 (IntKind.wrap .i64 (x1 - 1))), (.int .i64 x1), (.int .i64 (IntKind.wrap .i64 (x1 + 1))), (.pointer x2)].toArray w (fun e w => ∃ (r : Int), e = .returned (.int .i64 r) ∧ (Ret r w))
set_option maxRecDepth 100000 in
theorem L1_slices_medianAdjacentOrdered_string (x0 : Sl) (x1 : Int) (x2 : Option Addr) (w : World) (Ret : Int → World → Prop) (H : V_slices_medianAdjacentOrdered_string x0 x1 x2 w Ret) : Cl Try.prog 60 [(Sl.v x0), (.int .i64 x1), (.pointer x2)].toArray w (fun e w' => ∃ (r0 : Int), e = .returned (.int .i64 r0) ∧ Ret r0 w') := by
  unfold V_slices_medianAdjacentOrdered_string at H
  refine C.enter 15 (zipE 0 [(Sl.v x0), (.int .i64 x1), (.pointer x2)]) Try.func60 rfl rfl (by rfl) rfl ?_
  intro a hE
  replace hE : Sat [] 15 [(0, (Sl.v x0)), (1, (.int .i64 x1)), (2, (.pointer x2))] a := hE
  refine C.seq ?_
  refine C.region ?_
  refine hE.pur (X.assign hE rfl) fun a hE => ?_
  refine C.nil (tn ?_)
  refine C.seq ?_
  refine C.region ?_
  refine hE.pur (X.move hE rfl) fun a hE => ?_
  refine hE.pur (X.move hE rfl) fun a hE => ?_
  refine hE.pur (X.sub hE rfl rfl) fun a hE => ?_
  refine hE.pur (X.move hE rfl) fun a hE => ?_
  refine hE.pur (X.move hE rfl) fun a hE => ?_
  refine hE.pur (X.add hE rfl rfl) fun a hE => ?_
  refine hE.pur (X.move hE rfl) fun a hE => ?_
  refine hE.call (X.callF hE ent61 rfl rfl) H fun e w H => ?_
  obtain ⟨r, rfl, H⟩ := H
  refine ⟨_, rfl, fun a hE => ?_⟩
  refine hE.pur (X.assign hE rfl) fun a hE => ?_
  refine C.nil (tn ?_)
  exact C.ret (C.ret1 hE rfl rfl ⟨_, rfl, H⟩)
/-! ### slices.medianOrdered[string]: function 61 -/
def V_slices_medianOrdered_string (x0 : Sl) (x1 : Int) (x2 : Int) (x3 : Int) (x4 : Option Addr) (w : World) (Ret : Int → World → Prop) : Prop :=
  Cl Try.prog 63 [(Sl.v x0), (.int .i64 x1), (.int .i64 x2), (.pointer x4)].toArray w (fun e w => ∃ (r : Int) (r_1 : Int), e = .returned (.tuple [(.int .i64 r), (.int .i64 r_1)].toArray) ∧ (Cl Try.prog 63 [(Sl.v x0), (.int .i64 r_1), (.int .i64 x3), (.pointer x4)].toArray w (fun e w => ∃ (r_2 : Int) (r_3 : Int), e = .returned (.tuple [(.int .i64 r_2), (.int .i64 r_3)].toArray) ∧ (Cl Try.prog 63 [(Sl.v x0), (.int .i64 r), (.int .i64 r_2), (.pointer x4)].toArray w (fun e w => ∃ (r_4 : Int) (r_5 : Int), e = .returned (.tuple [(.int .i64 r_4), (.int .i64 r_5)].toArray) ∧ (Ret r_5 w))))))
set_option maxRecDepth 100000 in
theorem L1_slices_medianOrdered_string (x0 : Sl) (x1 : Int) (x2 : Int) (x3 : Int) (x4 : Option Addr) (w : World) (Ret : Int → World → Prop) (H : V_slices_medianOrdered_string x0 x1 x2 x3 x4 w Ret) : Cl Try.prog 61 [(Sl.v x0), (.int .i64 x1), (.int .i64 x2), (.int .i64 x3), (.pointer x4)].toArray w (fun e w' => ∃ (r0 : Int), e = .returned (.int .i64 r0) ∧ Ret r0 w') := by
  unfold V_slices_medianOrdered_string at H
  refine C.enter 36 (zipE 0 [(Sl.v x0), (.int .i64 x1), (.int .i64 x2), (.int .i64 x3), (.pointer x4)]) Try.func61 rfl rfl (by rfl) rfl ?_
  intro a hE
  replace hE : Sat [] 36 [(0, (Sl.v x0)), (1, (.int .i64 x1)), (2, (.int .i64 x2)), (3, (.int .i64 x3)), (4, (.pointer x4))] a := hE
  refine C.seq ?_
  refine C.region ?_
  refine hE.pur (X.assign hE rfl) fun a hE => ?_
  refine C.nil (tn ?_)
  refine C.seq ?_
  refine C.region ?_
  refine hE.pur (X.move hE rfl) fun a hE => ?_
  refine hE.pur (X.move hE rfl) fun a hE => ?_
  refine hE.pur (X.move hE rfl) fun a hE => ?_
  refine hE.pur (X.move hE rfl) fun a hE => ?_
  refine hE.call (X.callF hE ent63 rfl rfl) H fun e w H => ?_
  obtain ⟨r, r_1, rfl, H⟩ := H
  refine ⟨_, rfl, fun a hE => ?_⟩
  refine hE.pur (X.move hE rfl) fun a hE => ?_
  refine hE.pur (X.extract hE rfl rfl) fun a hE => ?_
  refine hE.pur (X.extract hE rfl rfl) fun a hE => ?_
  refine hE.pur (X.assign hE rfl) fun a hE => ?_
  refine hE.pur (X.assign hE rfl) fun a hE => ?_
  refine C.nil (tn ?_)
  refine C.seq ?_
  refine C.region ?_
  refine hE.pur (X.move hE rfl) fun a hE => ?_
  refine hE.pur (X.move hE rfl) fun a hE => ?_
  refine hE.pur (X.move hE rfl) fun a hE => ?_
  refine hE.pur (X.move hE rfl) fun a hE => ?_
  refine hE.call (X.callF hE ent63 rfl rfl) H fun e w H => ?_
  obtain ⟨r_2, r_3, rfl, H⟩ := H
  refine ⟨_, rfl, fun a hE => ?_⟩
  refine hE.pur (X.move hE rfl) fun a hE => ?_
  refine hE.pur (X.extract hE rfl rfl) fun a hE => ?_
  refine hE.pur (X.extract hE rfl rfl) fun a hE => ?_
  refine hE.pur (X.assign hE rfl) fun a hE => ?_
  refine hE.pur (X.assign hE rfl) fun a hE => ?_
  refine C.nil (tn ?_)
  refine C.seq ?_
  refine C.region ?_
  refine hE.pur (X.move hE rfl) fun a hE => ?_
  refine hE.pur (X.move hE rfl) fun a hE => ?_
  refine hE.pur (X.move hE rfl) fun a hE => ?_
  refine hE.pur (X.move hE rfl) fun a hE => ?_
  refine hE.call (X.callF hE ent63 rfl rfl) H fun e w H => ?_
  obtain ⟨r_4, r_5, rfl, H⟩ := H
  refine ⟨_, rfl, fun a hE => ?_⟩
  refine hE.pur (X.move hE rfl) fun a hE => ?_
  refine hE.pur (X.extract hE rfl rfl) fun a hE => ?_
  refine hE.pur (X.extract hE rfl rfl) fun a hE => ?_
  refine hE.pur (X.assign hE rfl) fun a hE => ?_
  refine hE.pur (X.assign hE rfl) fun a hE => ?_
  refine C.nil (tn ?_)
  refine C.seq ?_
  refine C.region ?_
  refine hE.pur (X.move hE rfl) fun a hE => ?_
  refine hE.pur (X.assign hE rfl) fun a hE => ?_
  refine C.nil (tn ?_)
  exact C.ret (C.ret1 hE rfl rfl ⟨_, rfl, H⟩)
/-! ### cmp.isNaN[string]: function 62 -/
def V_cmp_isNaN_string (x0 : ByteArray) (w : World) (Ret : Bool → World → Prop) : Prop :=
  Ret (decide (x0 ≠ x0)) w
set_option maxRecDepth 100000 in
theorem L1_cmp_isNaN_string (x0 : ByteArray) (w : World) (Ret : Bool → World → Prop) (H : V_cmp_isNaN_string x0 w Ret) : Cl Try.prog 62 [(.string x0)].toArray w (fun e w' => ∃ (r0 : Bool), e = .returned (.bool r0) ∧ Ret r0 w') := by
  unfold V_cmp_isNaN_string at H
  refine C.enter 6 (zipE 0 [(.string x0)]) Try.func62 rfl rfl (by rfl) rfl ?_
  intro a hE
  replace hE : Sat [] 6 [(0, (.string x0))] a := hE
  refine C.seq ?_
  refine C.region ?_
  refine hE.pur (X.assign hE rfl) fun a hE => ?_
  refine C.nil (tn ?_)
  refine C.seq ?_
  refine C.region ?_
  refine hE.pur (X.move hE rfl) fun a hE => ?_
  refine hE.pur (X.move hE rfl) fun a hE => ?_
  refine hE.pur (X.neS hE rfl rfl) fun a hE => ?_
  refine hE.pur (X.assign hE rfl) fun a hE => ?_
  refine C.nil (tn ?_)
  exact C.ret (C.ret1 hE rfl rfl ⟨_, rfl, H⟩)
/-! ### slices.order2Ordered[string]: function 63 -/
def V_slices_order2Ordered_string (x0 : Sl) (x1 : Int) (x2 : Int) (x3 : Option Addr) (w : World) (Ret : Int → Int → World → Prop) : Prop :=
  opB Try.prog Value.pointer (Instr.indexAt 23 (Sl.v x0) (.int .i64 x2)) w (fun x12 => opB Try.prog Value.string (Instr.loadAt 9 (.pointer x12)) w (fun x13 => opB Try.prog Value.pointer (Instr.indexAt 23 (Sl.v x0) (.int .i64 x1)) w (fun x16 => opB Try.prog Value.string (Instr.loadAt 9 (.pointer x16)) w (fun x17 => ∃ (r : Bool), (∀ w', Bel w w' → Cl Try.prog 52 [(.string x13), (.string x17)].toArray w' (fun e w'' => e = .returned (.bool r) ∧ Bel w' w'')) ∧ (nextB w (fun w => (r = true → (nilOk (.pointer x3) ∧ (opE Try.prog (Value.int .i64) (Instr.loadAt 3 (.pointer x3)) w (fun x21 w => nilOk (.pointer x3) ∧ (opU Try.prog (Instr.storeAt 3 (.pointer x3) (.int .i64 (IntKind.wrap .i64 (x21 + 1)))) w (fun w => Ret x2 x1 w)))))) ∧ (r = false → (Ret x1 x2 w))))))))
set_option maxRecDepth 100000 in
theorem L1_slices_order2Ordered_string (x0 : Sl) (x1 : Int) (x2 : Int) (x3 : Option Addr) (w : World) (Ret : Int → Int → World → Prop) (H : V_slices_order2Ordered_string x0 x1 x2 x3 w Ret) : Cl Try.prog 63 [(Sl.v x0), (.int .i64 x1), (.int .i64 x2), (.pointer x3)].toArray w (fun e w' => ∃ (r0 : Int) (r1 : Int), e = .returned (.tuple [(.int .i64 r0), (.int .i64 r1)].toArray) ∧ Ret r0 r1 w') := by
  unfold V_slices_order2Ordered_string at H
  refine C.enter 28 (zipE 0 [(Sl.v x0), (.int .i64 x1), (.int .i64 x2), (.pointer x3)]) Try.func63 rfl rfl (by rfl) rfl ?_
  intro a hE
  replace hE : Sat [] 28 [(0, (Sl.v x0)), (1, (.int .i64 x1)), (2, (.int .i64 x2)), (3, (.pointer x3))] a := hE
  refine C.seq ?_
  refine C.region ?_
  refine hE.pur (X.assign hE rfl) fun a hE => ?_
  refine hE.pur (X.assign hE rfl) fun a hE => ?_
  refine C.nil (tn ?_)
  refine C.seq ?_
  refine C.seq ?_
  refine C.draw (by kernel_rfl) (by kernel_rfl) ?_
  refine hE.qpur (X.move hE rfl) fun a hE => ?_
  refine hE.qpur (X.move hE rfl) fun a hE => ?_
  refine hE.qop (X.indexAddr hE rfl rfl) H fun x12 a H hE => ?_
  refine hE.qop (X.load hE rfl) H fun x13 a H hE => ?_
  refine hE.qpur (X.move hE rfl) fun a hE => ?_
  refine hE.qpur (X.move hE rfl) fun a hE => ?_
  refine hE.qop (X.indexAddr hE rfl rfl) H fun x16 a H hE => ?_
  refine hE.qop (X.load hE rfl) H fun x17 a H hE => ?_
  obtain ⟨r, hc, H⟩ := H
  refine hE.qcall (fun w' => X.callF hE ent52 rfl rfl) hc fun a hE => ?_
  refine C.qnil (fun w hB => ?_)
  replace H := H w hB
  refine (tn ?_)
  refine C.condB hE rfl (fun hc => ?_) (fun hc => ?_)
  · replace H := H.1 hc
    refine C.seq ?_
    refine C.region ?_
    refine hE.pur (X.move hE rfl) fun a hE => ?_
    refine hE.pur (X.nilCheck hE rfl H.1) fun a hE => ?_
    replace H := H.2
    refine hE.op (X.load hE rfl) H fun x21 w a H hE => ?_
    refine hE.pur (X.add hE rfl rfl) fun a hE => ?_
    refine hE.pur (X.nilCheck hE rfl H.1) fun a hE => ?_
    replace H := H.2
    refine hE.opu (X.store hE rfl rfl) H fun w a H hE => ?_
    refine C.nil (tn ?_)
    refine C.seq ?_
    refine C.region ?_
    refine hE.pur (X.move hE rfl) fun a hE => ?_
    refine hE.pur (X.move hE rfl) fun a hE => ?_
    refine hE.pur (X.assign hE rfl) fun a hE => ?_
    refine hE.pur (X.assign hE rfl) fun a hE => ?_
    refine C.nil (tn ?_)
    exact C.ret (tr (C.ret2 hE rfl rfl rfl ⟨_, _, rfl, H⟩))
  · replace H := H.2 hc
    refine C.skip (tn ?_)
    refine C.seq ?_
    refine C.region ?_
    refine hE.pur (X.move hE rfl) fun a hE => ?_
    refine hE.pur (X.move hE rfl) fun a hE => ?_
    refine hE.pur (X.assign hE rfl) fun a hE => ?_
    refine hE.pur (X.assign hE rfl) fun a hE => ?_
    refine C.nil (tn ?_)
    exact C.ret (C.ret2 hE rfl rfl rfl ⟨_, _, rfl, H⟩)
end Go.Proofs.Ytlghlmoifjcgoaa.VG
