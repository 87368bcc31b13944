-- Of this session's own program wip/gen/gen.py (it drives the kit's print): contracts of the functions that the law reaches.
import Derived.Test.YtjpfbkkikcpmhaaRows
import Derived.Test.YtjpfbkkikcpmhaaRowBase
import Derived.Test.YtjpfbkkikcpmhaaPFnExactMendAllx9
namespace Go.Proofs.Ytjpfbkkikcpmhaa.fnExactMendAll
open Go.ChangeShapes Go.WideShapes Go.ChangeAt Go.RowKit Go.Proofs.Ytjpfbkkikcpmhaa.PFnExactMendAll Go.Proofs.Ytjpfbkkikcpmhaa.RowBase Go.Proofs.Ytjpfbkkikcpmhaa.Base Go.Proofs.YtjpfbkkikcpmhaaW.PrintWords
set_option linter.unusedVariables false
/-- What is left of the law: a statement over numbers and lists. -/
def Pure : Prop := ∀ (a0_0 : Int) (l0_1 : List (S64)) (l1 : List Int), ((Lit.int .i64 a0_0).wf = true) → (l0_1.length ≤ maxLen ∧ ∀ x_ ∈ l0_1, (Lit.int .i64 x_.f0).wf = true ∧ (Lit.int .i64 x_.f1).wf = true) → (l1.length ≤ maxLen ∧ ∀ x_ ∈ l1, (Lit.int .i64 x_).wf = true) → ∃ k, laws_FnExactMendAll.f k a0_0 l0_1 l1 = some true
theorem own : ownKnob Try.prog.godebug = none := by kernel_rfl
theorem laidOut : laidOutB Try.prog = true := by kernel_rfl
set_option maxHeartbeats 2000000 in
set_option maxRecDepth 100000 in
theorem lifted (PURE : Pure) (os : Os) (started : os.Started) (H : Type) (enc : TypeId × Value → H) :
    ReturnsInHanded {} Try.checked os 5 .any (Rows.fnExactMendAllSpec.pre6 enc Try.prog Try.f5 Rows.fnExactMendAllRow.domain false) (Rows.fnExactMendAllSpec.post enc Try.prog Try.f5 false true false false) := by
  refine returnsInHanded_of_change_sized (C := Try.checked) own started (by kernel_rfl) Try.func5
    (ChangeSpec.witness6 (enc := enc) (C := Try.checked) false ⟨#[], #[.agg #[.int .i64 0, .slice none 0 0], .slice none 0 0], []⟩ 8 (by kernel_rfl) (by kernel_rfl) (by kernel_rfl) (by kernel_rfl)) ?_
  intro W base args ds gs before hval0 hW hcnd hsz0 _
  have hval : ∀ (j : Nat) t v, Try.f5.params[j]? = some t → args[j]? = some v → Value.okWide Try.prog W .any base t v := hval0
  have hW' := hW
  obtain ⟨p, q, hA0, hV, rfl, hfz, hnd⟩ := hW
  have hA : DataW.TrodAll enc Try.prog W 0 (fun _ => true) true Try.f5.params.toList args.toList ds p := hA0
  rw [Try.params5] at hA hval
  obtain ⟨v0, vs0, d0, ds0, p0, q0, hargs, rfl, rfl, h0, r0⟩ := trodAll_cons hA
  obtain ⟨v1, vs1, d1, ds1, p1, q1, rfl, rfl, rfl, h1, r1⟩ := trodAll_cons r0
  obtain ⟨rfl, rfl, rfl⟩ := trodAll_nil r1
  obtain rfl : args = #[v0, v1] := by cases args; simp_all
  obtain ⟨rfl, rfl⟩ := trodVars_none hV
  have k0 := h0
  have lt0 : ∀ x ∈ p0, x.block < W.heap.size := by obtain ⟨m, hm⟩ := k0; exact DataW.trod_lt m _ _ _ hm
  obtain ⟨cs0, rfl, _⟩ := okWide_struct Try.underlying24 (hval 0 24 v0 rfl rfl)
  obtain ⟨fuel0, hf0⟩ := h0
  obtain ⟨x0, ⟨_, _, e0, rfl, ⟨A0_1, c0_1, rfl, hc0_1, hC0_1⟩⟩, hw0⟩ := (opens_struct2 Try.underlying24 (opens_int Try.underlying3 (by kernel_rfl)) (opens_slice Try.underlying22 (opens_iso (fun x : S64 => (x.f0, x.f1)) (fun p => ⟨p.1, p.2⟩) (fun _ => rfl) (opens_struct2 Try.underlying64 (opens_int Try.underlying3 (by kernel_rfl)) (opens_int Try.underlying3 (by kernel_rfl)) rfl rfl (by kernel_rfl))) (by kernel_rfl)) rfl rfl (by kernel_rfl)).opens hf0
  have e0 := Value.agg.inj (agg_of e0)
  simp only [List.cons_append, List.nil_append] at e0
  subst e0
  have k1 := h1
  have lt1 : ∀ x ∈ p1, x.block < W.heap.size := by obtain ⟨m, hm⟩ := k1; exact DataW.trod_lt m _ _ _ hm
  obtain ⟨a_1, len_1, cap_1, rfl⟩ := okWide_slice Try.underlying25 (hval 1 25 v1 rfl rfl)
  obtain ⟨fuel1, hf1⟩ := h1
  obtain ⟨x1, ⟨A1, c1, e1, hc1, hC1⟩, hw1⟩ := (opens_slice Try.underlying25 (opens_int Try.underlying3 (by kernel_rfl)) (by kernel_rfl)).opens hf1
  obtain ⟨rfl, rfl, rfl⟩ : A1 = a_1 ∧ len_1 = x1.length ∧ c1 = cap_1 := by (have e_ : a_1 = A1 ∧ len_1 = x1.length ∧ cap_1 = c1 := by simpa [Value.cells] using e1); exact ⟨e_.1.symm, e_.2.1, e_.2.2.symm⟩
  clear hA0 hval0 hsz0
  obtain ⟨k, h⟩ := PURE x0.1 x0.2 x1 hw0.1 hw0.2 hw1
  refine (laws_FnExactMendAll.calls k x0.1 A0_1 c0_1 x0.2 A1 c1 x1 true W hC0_1 hc0_1 hC1 hc1 h).mono fun e W' ⟨he, bel0⟩ => ?_
  have bel := bel0
  subst he
  exact ⟨_, rfl, _, _, _, [], _, [], hW', trodAll_mk1 (shut_bool Try.underlying4 _), (trodAll_cons_mk (Below.trod laidOut (by kernel_rfl) (of_decide_eq_true (by kernel_rfl)) k0 bel lt0) (trodAll_cons_mk (Below.trod laidOut (by kernel_rfl) (of_decide_eq_true (by kernel_rfl)) k1 bel lt1) trodAll_mk0)), rfl, bel.frame _, fun h => by cases h⟩
theorem over (PURE : Pure) : Rows.fnExactMendAllRow.holds Try.pinned (OpenSpec.ofChange Rows.fnExactMendAllSpec) :=
  OpenClaim.holds_of_wide 5 Try.f5 rfl rfl rfl rfl rfl rfl rfl ⟨rfl, rfl, rfl, rfl, rfl⟩ rfl rfl rfl rfl rfl (by kernel_rfl) Try.func5 (by kernel_rfl)
    (of_decide_eq_true (by kernel_rfl)) (by unfold Func.isWrapper; first | (rw [if_pos (by decide +kernel)]; kernel_rfl) | (rw [if_neg (by decide +kernel)]; exact ⟨rfl, rfl⟩))
    (fun os started H enc _ => lifted PURE os started H enc)
theorem proved (PURE : Pure) : Rows.FnExactMendAllSaid := over PURE
end Go.Proofs.Ytjpfbkkikcpmhaa.fnExactMendAll
