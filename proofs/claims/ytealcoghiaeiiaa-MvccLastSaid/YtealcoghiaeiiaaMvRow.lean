/- Versions and writes as a row's arguments; no condition. -/
import Derived.Test.YtealcoghiaeiiaaVRow
import Derived.Test.YtealcoghiaeiiaaMvPut
import Derived.ChangeSame
set_option linter.unusedVariables false
namespace Go.VB
open Go.RowKit Go.ChangeShapes Go.WideShapes
/-- A slice's cell that is read, wherever it lies. -/
theorem open_sl {H α : Type} {enc : TypeId × Value → H} {P : Program} {W : World} {t e n B fuel : Nat} {c : α → List Value} {cs : List Value} {d : DataW H} {ps : List MemPlace}
    (hw : ∀ x ∈ d.weights P t, x ≤ reachBytes) (hu : P.underlying t = some (.slice e)) (hn : P.cellsOf e = n) (hB : P.bytesOf e = B) (hB1 : 1 ≤ B)
    (hel : ∀ m cs x, DataW.trod enc P W 0 (fun _ => true) true m e cs = some x → ∃ y : α, cs = c y)
    (hf : DataW.trod enc P W 0 (fun _ => true) true fuel t cs = some (d, ps)) : ∃ (s : Sl) (l : List α), cs = [Sl.v s] ∧ Rd c n W s l ∧ l.length * B ≤ 140737488351232 := by
  rcases Go.Deep.open_slice hu hf with ⟨rfl, _⟩ | ⟨x, len, cap, m, q, D, Pl, rfl, _, hl, hm, hmm, hx, hall⟩
  · exact ⟨Sl.none, [], rfl, Rd.nil c n W, by simp⟩
  · simp at hmm; subst hmm
    obtain ⟨hx, _⟩ := Prod.mk.inj hx
    subst hx
    have z := hw ((((List.range len).map D).length + ((List.range (m - len)).map fun j => D (len + j)).length) * P.bytesOf e) (by simp [DataW.weights, hu])
    rw [hB] at z
    simp [reachBytes] at z
    obtain ⟨L, hL, hp⟩ := choose_lt' (α := α) (n := len) (p := fun i y => At W (x.add (i * n)) (c y)) fun i hi => by
      obtain ⟨cs', h1, h2⟩ := hall i (by omega)
      obtain ⟨y, rfl⟩ := hel _ _ _ h2
      rw [hn] at h1
      exact ⟨y, At.of_cells? h1⟩
    have z2 : len * B ≤ 140737488351232 := by
      have : len * B ≤ (len + (m - len)) * B := Nat.mul_le_mul_right _ (by omega)
      exact Nat.le_trans this z
    have z3 : len ≤ len * B := Nat.le_mul_of_pos_right _ hB1
    exact ⟨⟨some x, len, m⟩, L, rfl, ⟨hL, hl, by simpa [maxLen] using hm, by show len ≤ _; omega, fun h => by simp at h, fun i y hi => ⟨x, rfl, hp i y hi⟩⟩, by rw [hL]; exact z2⟩
end Go.VB
namespace Go.Proofs.Ytealcoghiaeiiaa.VG
open Go.VB Go.Proofs Go.RowKit Go.WideShapes
set_option maxRecDepth 100000 in
theorem el_version {H : Type} {enc : TypeId × Value → H} {W : World} : ∀ m cs x, DataW.trod enc Try.prog W 0 (fun _ => true) true m ty_api_Version cs = some x → ∃ y : Ver, cs = T_api_Version.cells y := fun m cs x h => by
  obtain ⟨xs, n, _, _, hl, hlen, hf⟩ := DataW.trod_struct Try.underlying37 h
  have hc : cs.length = 4 := hl.trans (by kernel_rfl)
  have h0 := hf 0 _ rfl; have h1 := hf 1 _ rfl; have h2 := hf 2 _ rfl; have h3 := hf 3 _ rfl
  have g : ∀ i, i < 4 → ∃ y, xs[i]? = some y := fun i hi => ⟨xs[i]'(by rw [hlen]; exact hi), by simp⟩
  obtain ⟨y0, e0⟩ := g 0 (by omega); obtain ⟨y1, e1⟩ := g 1 (by omega); obtain ⟨y2, e2⟩ := g 2 (by omega); obtain ⟨y3, e3⟩ := g 3 (by omega)
  rw [e0] at h0; rw [e1] at h1; rw [e2] at h2; rw [e3] at h3
  obtain ⟨s0, z0, _⟩ := DataW.trod_string Try.underlying9 h0
  obtain ⟨s1, z1, _⟩ := DataW.trod_int Try.underlying23 h1
  obtain ⟨s2, z2, _⟩ := DataW.trod_string Try.underlying9 h2
  obtain ⟨s3, z3, _⟩ := DataW.trod_bool Try.underlying4 h3
  have k0 := cell_at z0 (by kernel_rfl); have k1 := cell_at z1 (by kernel_rfl); have k2 := cell_at z2 (by kernel_rfl); have k3 := cell_at z3 (by kernel_rfl)
  refine ⟨⟨s0, s1, s2, s3⟩, ?_⟩
  match cs, hc with
  | [a, b, c, d], _ =>
    simp at k0 k1 k2 k3
    subst k0; subst k1; subst k2; subst k3
    rfl
set_option maxRecDepth 100000 in
theorem el_write {H : Type} {enc : TypeId × Value → H} {W : World} : ∀ m cs x, DataW.trod enc Try.prog W 0 (fun _ => true) true m ty_api_Write cs = some x → ∃ y : Wri, cs = T_api_Write.cells y := fun m cs x h => by
  obtain ⟨xs, n, _, _, hl, hlen, hf⟩ := DataW.trod_struct Try.underlying52 h
  have hc : cs.length = 3 := hl.trans (by kernel_rfl)
  have h0 := hf 0 _ rfl; have h1 := hf 1 _ rfl; have h2 := hf 2 _ rfl
  have g : ∀ i, i < 3 → ∃ y, xs[i]? = some y := fun i hi => ⟨xs[i]'(by rw [hlen]; exact hi), by simp⟩
  obtain ⟨y0, e0⟩ := g 0 (by omega); obtain ⟨y1, e1⟩ := g 1 (by omega); obtain ⟨y2, e2⟩ := g 2 (by omega)
  rw [e0] at h0; rw [e1] at h1; rw [e2] at h2
  obtain ⟨s0, z0, _⟩ := DataW.trod_string Try.underlying9 h0
  obtain ⟨s1, z1, _⟩ := DataW.trod_string Try.underlying9 h1
  obtain ⟨s2, z2, _⟩ := DataW.trod_bool Try.underlying4 h2
  have k0 := cell_at z0 (by kernel_rfl); have k1 := cell_at z1 (by kernel_rfl); have k2 := cell_at z2 (by kernel_rfl)
  refine ⟨⟨s0, s1, s2⟩, ?_⟩
  match cs, hc with
  | [a, b, c], _ =>
    simp at k0 k1 k2
    subst k0; subst k1; subst k2
    rfl
set_option maxRecDepth 100000 in
/-- Versions among a row's arguments. -/
theorem open_vs {H : Type} {enc : TypeId × Value → H} {W : World} {v : Value} {d : DataW H} {ps : List MemPlace} {ts : List TypeId} {ds : List (DataW H)} {j base : Nat} {r : Reach}
    (hsz : (DataW.weightsEach Try.prog ts ds).all (· ≤ reachBytes) = true) (ht : ts[j]? = some ty_api_Versions) (hd : ds[j]? = some d) (hval : Value.okWide Try.prog W r base ty_api_Versions v)
    (h : DataW.Trod enc Try.prog W 0 (fun _ => true) true ty_api_Versions v d ps) : ∃ (x : T_api_Versions) (l : List Ver), v = T_api_Versions.v x ∧ VerRd W x.List l ∧ l.length ≤ 2932031007402 := by
  obtain ⟨cs, rfl, hcs⟩ := okWide_struct Try.underlying25 hval
  obtain ⟨fuel, hf⟩ := h
  obtain ⟨y0, y1, n, hx, hl, h0, h1⟩ := Go.ChangeShapes.trod_struct2 Try.underlying25 hf
  have hc : cs.size = 2 := hcs.trans (by kernel_rfl)
  have hd' : d = .agg [y0.1, y1.1] := (Prod.mk.inj hx).1
  have hw : ∀ x ∈ y0.1.weights Try.prog ty_L_api_Version, x ≤ reachBytes := fun x hx => by
    have := List.all_eq_true.1 hsz x (DataW.weights_mem_each ht hd x (by
      rw [hd']
      unfold DataW.weights
      rw [show Try.prog.underlying ty_api_Versions = _ from Try.underlying25]
      exact List.mem_append_left _ hx))
    simpa using this
  have h0' : DataW.trod enc Try.prog W 0 (fun _ => true) true n ty_L_api_Version (((Value.agg cs).cells.toList.drop 0).take 1) = some y0 := h0
  obtain ⟨s, l, e0, hR, hb⟩ := open_sl (n := 4) (B := 48) (c := T_api_Version.cells) hw und_L_api_Version (by kernel_rfl) (by kernel_rfl) (by decide) el_version h0'
  have h1' : DataW.trod enc Try.prog W 0 (fun _ => true) true n ty_uint64 (((Value.agg cs).cells.toList.drop 1).take 1) = some y1 := h1
  obtain ⟨q, e1, _⟩ := DataW.trod_int Try.underlying23 h1'
  have hcl : (Value.agg cs).cells.toList = cs.toList := rfl
  rw [hcl] at e0 e1
  refine ⟨⟨s, q⟩, l, ?_, hR, by omega⟩
  have hlen : cs.toList.length = 2 := by simpa using hc
  match hcs' : cs.toList, hlen with
  | [a, b], _ =>
    rw [hcs'] at e0 e1
    simp at e0 e1
    subst e0; subst e1
    have : cs = #[Sl.v s, .int .u64 q] := by
      apply Array.toList_inj.1; rw [hcs']
    rw [this]
end Go.Proofs.Ytealcoghiaeiiaa.VG
