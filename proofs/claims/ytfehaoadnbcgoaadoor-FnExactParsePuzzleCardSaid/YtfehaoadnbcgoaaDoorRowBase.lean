/- What an argument that can be read holds, kind by kind: plain lemmas of this session, of no program. -/
import Derived.Test.YtfehaoadnbcgoaaDoorBase
import Derived.WalkKit
import Derived.ProofKit
import Derived.OpenShut
import Derived.ShutString
import Derived.ChangeOld
import Derived.Below
import Derived.SizedLaws
import Derived.Deep.Slices
import Derived.Carry
namespace Go.Proofs.YtfehaoadnbcgoaaDoor.RowBase
open Go.ChangeShapes Go.WideShapes Go.ChangeAt Go.RowKit Go.Deep Go.Proofs.YtfehaoadnbcgoaaDoorW.PrintWords
/-- Whatever is read at type t is of the kind d. -/
structure Opens (P : Program) {α : Type} (d : Kd α) (t : TypeId) (wf : α → Prop) : Prop where
  sz : P.cellsOf t = d.sz
  opens : ∀ {H : Type} {enc : TypeId × Value → H} {w : World} {base : Nat} {spare : Nat → Bool} {held : Bool} {fuel : Nat} {cs : List Value} {x : DataW H × List MemPlace}, DataW.trod enc P w base spare held fuel t cs = some x → ∃ a : α, d.K w a cs ∧ wf a
variable {P : Program} {α β γ : Type}
theorem opens_int {t : TypeId} {k : IntKind} (ht : P.underlying t = some (.int k)) (hs : P.cellsOf t = 1) : Opens P (Kd.int k) t (fun n => (Lit.int k n).wf = true) :=
  ⟨hs, fun h => by
    obtain ⟨n, rfl, _, hw⟩ := DataW.trod_int ht h
    exact ⟨n, rfl, hw⟩⟩
theorem opens_bool {t : TypeId} (ht : P.underlying t = some .bool) (hs : P.cellsOf t = 1) : Opens P Kd.bool t (fun _ => True) :=
  ⟨hs, fun h => by
    obtain ⟨n, rfl, _⟩ := DataW.trod_bool ht h
    exact ⟨n, rfl, trivial⟩⟩
theorem opens_string {t : TypeId} (ht : P.underlying t = some .string) (hs : P.cellsOf t = 1) : Opens P Kd.string t (fun s => s.size ≤ maxLen) :=
  ⟨hs, fun h => by
    obtain ⟨n, rfl, _, hw⟩ := DataW.trod_string ht h
    exact ⟨n, rfl, hw⟩⟩
theorem opens_iso {d : Kd α} {t : TypeId} {wf : α → Prop} (f : β → α) (g : α → β) (hfg : ∀ x, f (g x) = x) (h : Opens P d t wf) : Opens P (Kd.iso d f) t (fun y => wf (f y)) :=
  ⟨h.sz, fun hx => by
    obtain ⟨a, hk, hw⟩ := h.opens hx
    refine ⟨g a, ?_, by rw [hfg]; exact hw⟩
    show d.K _ (f (g a)) _
    rw [hfg]; exact hk⟩
theorem opens_struct2 {t : TypeId} {f0 f1 : Field} {d0 : Kd α} {d1 : Kd β} {w0 : α → Prop} {w1 : β → Prop} (ht : P.underlying t = some (.struct #[f0, f1])) (h0 : Opens P d0 f0.type w0) (h1 : Opens P d1 f1.type w1)
    (ho0 : f0.offset = 0) (ho1 : f1.offset = d0.sz) (hs : P.cellsOf t = d0.sz + d1.sz) : Opens P (Kd.pair d0 d1) t (fun p => w0 p.1 ∧ w1 p.2) :=
  ⟨hs, fun {_ _ _ _ _ _ _ cs _} h => by
    obtain ⟨xs, n, _, _, hl, hlen, hf⟩ := DataW.trod_struct ht h
    have e0 := hf 0 f0 rfl
    have e1 := hf 1 f1 rfl
    have hx : xs.length = 2 := hlen
    rw [List.getElem?_eq_getElem (by omega)] at e0 e1
    obtain ⟨a, ha, hwa⟩ := h0.opens e0
    obtain ⟨b, hb, hwb⟩ := h1.opens e1
    rw [ho0, h0.sz] at ha
    rw [ho1, h1.sz] at hb
    refine ⟨(a, b), ⟨_, _, ?_, ha, hb⟩, hwa, hwb⟩
    rw [List.drop_zero, List.take_of_length_le (l := cs.drop d0.sz) (by rw [List.length_drop]; omega), List.take_append_drop]⟩
theorem opens_struct3 {t : TypeId} {f0 f1 f2 : Field} {d0 : Kd α} {d1 : Kd β} {d2 : Kd γ} {w0 : α → Prop} {w1 : β → Prop} {w2 : γ → Prop} (ht : P.underlying t = some (.struct #[f0, f1, f2])) (h0 : Opens P d0 f0.type w0) (h1 : Opens P d1 f1.type w1) (h2 : Opens P d2 f2.type w2)
    (ho0 : f0.offset = 0) (ho1 : f1.offset = d0.sz) (ho2 : f2.offset = d0.sz + d1.sz) (hs : P.cellsOf t = d0.sz + d1.sz + d2.sz) : Opens P (Kd.pair d0 (Kd.pair d1 d2)) t (fun p => w0 p.1 ∧ w1 p.2.1 ∧ w2 p.2.2) :=
  ⟨by rw [hs]; exact Nat.add_assoc _ _ _, fun {_ _ _ _ _ _ _ cs _} h => by
    obtain ⟨xs, n, _, _, hl, hlen, hf⟩ := DataW.trod_struct ht h
    have e0 := hf 0 f0 rfl
    have e1 := hf 1 f1 rfl
    have e2 := hf 2 f2 rfl
    have hx : xs.length = 3 := hlen
    rw [List.getElem?_eq_getElem (by omega)] at e0 e1 e2
    obtain ⟨a, ha, hwa⟩ := h0.opens e0
    obtain ⟨b, hb, hwb⟩ := h1.opens e1
    obtain ⟨c, hc, hwc⟩ := h2.opens e2
    rw [ho0, h0.sz] at ha
    rw [ho1, h1.sz] at hb
    rw [ho2, h2.sz] at hc
    refine ⟨(a, b, c), ⟨_, _, ?_, ha, _, _, rfl, hb, hc⟩, hwa, hwb, hwc⟩
    rw [List.drop_zero, List.take_of_length_le (l := cs.drop (d0.sz + d1.sz)) (by rw [List.length_drop]; omega), ← List.drop_drop, List.take_append_drop, List.take_append_drop]⟩
theorem opens_slice {t e : TypeId} {d : Kd α} {wf : α → Prop} (ht : P.underlying t = some (.slice e)) (h : Opens P d e wf) (hs : P.cellsOf t = 1) : Opens P (Kd.slice e d) t (fun xs => xs.length ≤ maxLen ∧ ∀ x ∈ xs, wf x) :=
  ⟨hs, fun {_ _ w _ _ _ _ cs _} hx => by
    rcases open_slice ht hx with ⟨rfl, _⟩ | ⟨a, len, cap, m, n, D, Pl, rfl, hb, hl, hm, hmm, _, hi⟩
    · exact ⟨[], ⟨none, 0, rfl, Nat.le_refl _, rfl, by simp, fun h => absurd h (by simp)⟩, by simp, by simp⟩
    · have hle : len ≤ m := by rw [hmm]; split <;> omega
      have key : ∀ i, i < len → ∃ x : α, wf x ∧ ∃ c, c.length = d.sz ∧ d.K w x c ∧ ∀ j u, c[j]? = some u → w.cell? (a.add (i * d.sz + j)) = some u := by
        intro i hil
        obtain ⟨cs', hc, htr⟩ := hi i (by omega)
        obtain ⟨x, hk, hw⟩ := h.opens htr
        obtain ⟨_, hcl, hat⟩ := World.cells?_some hc
        rw [h.sz] at hcl hat
        refine ⟨x, hw, cs', hcl, hk, fun j u hu => ?_⟩
        have hj : j < cs'.length := (List.getElem?_eq_some_iff.1 hu).1
        have e := hat j (by omega)
        rw [← Go.Deep.add_add, e, hu]
      have build : ∀ k, k ≤ len → ∃ xs : List α, xs.length = k ∧ (∀ x ∈ xs, wf x) ∧ ∀ j p, xs[j]? = some p → ∃ c, c.length = d.sz ∧ d.K w p c ∧ ∀ i u, c[i]? = some u → w.cell? (a.add (j * d.sz + i)) = some u := by
        intro k
        induction k with
        | zero => exact fun _ => ⟨[], rfl, by simp, by simp⟩
        | succ k ih =>
          intro hk
          obtain ⟨xs, hxl, hw, hc⟩ := ih (by omega)
          obtain ⟨x, hwx, hx⟩ := key k (by omega)
          refine ⟨xs ++ [x], by simp [hxl], fun y hy => ?_, fun j p hj => ?_⟩
          · rcases List.mem_append.1 hy with hy | hy
            · exact hw y hy
            · rw [List.mem_singleton.1 hy]; exact hwx
          · rcases Nat.lt_or_ge j xs.length with hj' | hj'
            · rw [List.getElem?_append_left hj'] at hj
              exact hc j p hj
            · have : j = xs.length := by
                have := (List.getElem?_eq_some_iff.1 hj).1
                simp at this; omega
              subst this
              simp at hj
              subst hj
              rw [hxl]; exact hx
      obtain ⟨xs, hxl, hw, hc⟩ := build len (Nat.le_refl _)
      subst hxl
      refine ⟨xs, ⟨some a, cap, rfl, hl, rfl, ?_, fun _ => ⟨a, rfl, hc⟩⟩, by omega, hw⟩
      unfold maxLen at hm; omega⟩
theorem agg_of {cs : Array Value} {l : List Value} (h : (Value.agg cs).cells.toList = l) : Value.agg cs = .agg l.toArray := by
  subst h; simp [Value.cells]
end Go.Proofs.YtfehaoadnbcgoaaDoor.RowBase
