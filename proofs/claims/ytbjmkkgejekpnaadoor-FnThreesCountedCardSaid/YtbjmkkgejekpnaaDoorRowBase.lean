/- What an argument that can be read holds, kind by kind: plain lemmas of this session, of no program. -/
import Derived.Test.YtbjmkkgejekpnaaDoorBase
import Derived.WalkKit
import Derived.ProofKit
import Derived.OpenShut
import Derived.ShutString
import Derived.ChangeOld
import Derived.Below
import Derived.SizedLaws
import Derived.Deep.Slices
import Derived.Carry
namespace Go.Proofs.YtbjmkkgejekpnaaDoor.RowBase
open Go.ChangeShapes Go.WideShapes Go.ChangeAt Go.RowKit Go.Deep Go.Proofs.YtbjmkkgejekpnaaDoorW.PrintWords
structure Opens (P : Program) {α : Type} (d : Kd α) (t : TypeId) (wf : α → Prop) : Prop where
  sz : P.cellsOf t = d.sz
  opens : ∀ {H : Type} {enc : TypeId × Value → H} {w : World} {base : Nat} {spare : Nat → Bool} {held : Bool} {fuel : Nat} {cs : List Value} {x : DataW H × List MemPlace}, DataW.trod enc P w base spare held fuel t cs = some x → ∃ a : α, d.K w a cs ∧ wf a
variable {P : Program} {α β γ : Type}
theorem opens_int {t : TypeId} {k : IntKind} (ht : P.underlying t = some (.int k)) (hs : P.cellsOf t = 1) : Opens P (Kd.int k) t (fun n => (Lit.int k n).wf = true) :=
  ⟨hs, fun h => by
    obtain ⟨n, rfl, _, hw⟩ := DataW.trod_int ht h
    exact ⟨n, rfl, hw⟩⟩
theorem opens_slice {t e : TypeId} {d : Kd α} {wf : α → Prop} (ht : P.underlying t = some (.slice e)) (h : Opens P d e wf) (hs : P.cellsOf t = 1) : Opens P (Kd.slice e d) t (fun xs => xs.length ≤ maxLen ∧ ∀ x ∈ xs, wf x) :=
  ⟨hs, fun {_ _ w _ _ _ _ cs _} hx => by
    rcases open_slice ht hx with ⟨rfl, _⟩ | ⟨a, len, cap, m, n, D, Pl, rfl, hb, hl, hm, hmm, _, hi⟩
    · exact ⟨[], ⟨none, 0, rfl, Nat.le_refl _, rfl, by simp, fun h => absurd h (by simp)⟩, by simp, by simp⟩
    · have hle : len ≤ m := by rw [hmm]; split <;> omega
      have key : ∀ i, i < len → ∃ x : α, wf x ∧ ∃ c, c.length = d.sz ∧ d.K w x c ∧ ∀ j u, c[j]? = some u → w.cell? (a.add (i * d.sz + j)) = some u := by
        intro i hil
        obtain ⟨cs', hc, htr⟩ := hi i (by omega)
        obtain ⟨x, hk, hw⟩ := h.opens htr
        obtain ⟨_, hcl, hat⟩ := World.cells?_some hc
        rw [h.sz] at hcl hat
        refine ⟨x, hw, cs', hcl, hk, fun j u hu => ?_⟩
        have hj : j < cs'.length := (List.getElem?_eq_some_iff.1 hu).1
        have e := hat j (by omega)
        rw [← Go.Deep.add_add, e, hu]
      have build : ∀ k, k ≤ len → ∃ xs : List α, xs.length = k ∧ (∀ x ∈ xs, wf x) ∧ ∀ j p, xs[j]? = some p → ∃ c, c.length = d.sz ∧ d.K w p c ∧ ∀ i u, c[i]? = some u → w.cell? (a.add (j * d.sz + i)) = some u := by
        intro k
        induction k with
        | zero => exact fun _ => ⟨[], rfl, by simp, by simp⟩
        | succ k ih =>
          intro hk
          obtain ⟨xs, hxl, hw, hc⟩ := ih (by omega)
          obtain ⟨x, hwx, hx⟩ := key k (by omega)
          refine ⟨xs ++ [x], by simp [hxl], fun y hy => ?_, fun j p hj => ?_⟩
          · rcases List.mem_append.1 hy with hy | hy
            · exact hw y hy
            · rw [List.mem_singleton.1 hy]; exact hwx
          · rcases Nat.lt_or_ge j xs.length with hj' | hj'
            · rw [List.getElem?_append_left hj'] at hj
              exact hc j p hj
            · have : j = xs.length := by
                have := (List.getElem?_eq_some_iff.1 hj).1
                simp at this; omega
              subst this
              simp at hj
              subst hj
              rw [hxl]; exact hx
      obtain ⟨xs, hxl, hw, hc⟩ := build len (Nat.le_refl _)
      subst hxl
      refine ⟨xs, ⟨some a, cap, rfl, hl, rfl, ?_, fun _ => ⟨a, rfl, hc⟩⟩, by omega, hw⟩
      unfold maxLen at hm; omega⟩
end Go.Proofs.YtbjmkkgejekpnaaDoor.RowBase
