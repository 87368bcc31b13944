/- The print's fixed phrases, each as the preset proof of a rule's hypothesis. -/
import Derived.Test.YtbjmkkgejekpnaaDoorWWords
import Derived.Test.YtbjmkkgejekpnaaDoorWMore
import Derived.Test.YtbjmkkgejekpnaaDoorWLast
import Derived.Test.YtbjmkkgejekpnaaDoorWN
namespace Go.Proofs.YtbjmkkgejekpnaaDoor.Base
open Go Go.RowKit Go.Proofs.YtbjmkkgejekpnaaDoorW.PrintWords Go.Proofs.YtbjmkkgejekpnaaDoorW.PrintMore Go.Proofs.YtbjmkkgejekpnaaDoorW.PrintLast
/-- What the world has kept below: by the latest fact. -/
theorem hB {n : Nat} {w w' : World} (h : Below n w w' := by repeat (first | (with_reducible first | exact Aside0.out (by assumption) | apply below_alloc | apply pw_below_drewN | apply below_drew1 | refine below_set ?_ (Aside0.out (by assumption))) | exact Aside0.out (by assumption))) : Below n w w' := h
/-- A block stands as it stood. -/
theorem bK {w : World} {g : Nat} {o : Option Obj} (h : w.heap[g]? = o := by (with_reducible repeat (first | refine blk_drewN ?_ _ | refine blk_drew ?_ | refine blk_alloc ?_ _)); first | (with_reducible exact Aside0.out (by assumption)) | exact Aside0.out (by assumption)) : w.heap[g]? = o := h
theorem bS {w w1 w2 : World} {g : Nat} {o : Obj} (_ : Aside0 (w.heap[g]? = some o)) (hb : Below w1.heap.size w1 w2) (h : w1.heap[g]? = some o := by (with_reducible repeat (first | refine blk_drewN ?_ _ | refine blk_drew ?_ | refine blk_alloc ?_ _)); first | (with_reducible exact Aside0.out (by assumption)) | exact Aside0.out (by assumption)) : Aside0 (w2.heap[g]? = some o) := ⟨blk_below h hb⟩
theorem hS {w w0 w1 w2 : World} (_ : Aside0 (Below w.heap.size w w0)) (hb : Below w1.heap.size w1 w2) (h : Below w.heap.size w w1 := by repeat (first | (with_reducible first | exact Aside0.out (by assumption) | apply below_alloc | apply pw_below_drewN | apply below_drew1 | refine below_set ?_ (Aside0.out (by assumption))) | exact Aside0.out (by assumption))) : Aside0 (Below w.heap.size w w2) := ⟨below_step h hb⟩
theorem nL {w w1 : World} {g g' : Nat} {o : Obj} (_ : Aside0 (w.heap[g]? = some o)) (hg : g' = w1.heap.size) (h : w1.heap[g]? = some o := by (with_reducible repeat (first | refine blk_drewN ?_ _ | refine blk_drew ?_ | refine blk_alloc ?_ _)); first | (with_reducible exact Aside0.out (by assumption)) | exact Aside0.out (by assumption)) : Aside0 (g ≠ g') := ⟨by rw [hg]; exact Nat.ne_of_lt (blk_lt h)⟩
theorem nG {w w1 : World} {g g' : Nat} {o : Obj} (_ : Aside0 (w.heap[g]? = some o)) (hg : g' = w1.heap.size) (h : w1.heap[g]? = some o := by (with_reducible repeat (first | refine blk_drewN ?_ _ | refine blk_drew ?_ | refine blk_alloc ?_ _)); first | (with_reducible exact Aside0.out (by assumption)) | exact Aside0.out (by assumption)) : Aside0 (g' ≠ g) := ⟨by rw [hg]; exact Nat.ne_of_gt (blk_lt h)⟩
theorem gS {w w0 w1 : World} {g : Nat} (_ : Aside0 (Below w.heap.size w w0)) (hg : g = w1.heap.size) (h : Below w.heap.size w w1 := by repeat (first | (with_reducible first | exact Aside0.out (by assumption) | apply below_alloc | apply pw_below_drewN | apply below_drew1 | refine below_set ?_ (Aside0.out (by assumption))) | exact Aside0.out (by assumption))) : Aside0 (w.heap.size ≤ g) := ⟨by rw [hg]; exact below_size h⟩
/-- The arguments of a call, written out. -/
theorem mapT {p : Prop} (h : p := by (try simp only [List.map_toArray, List.map_cons, List.map_nil]); first | done | rfl | (simp only [List.length_drop, List.length_take]; rfl)) : p := h
/-- A cell of a block that is known. -/
theorem cz {w : World} {g t : Nat} {cs : Array Value} (h : Aside0 (w.heap[g]? = some (.cells cs t (0, 0)))) (i : Nat) {v : Value} (hv : cs[i]? = some v := by rfl) : w.cell? ⟨g, i, none⟩ = some v := (blk_cell h.out i).trans hv
theorem fz {w : World} {g t : Nat} {cs : Array Value} (h : Aside0 (w.heap[g]? = some (.cells cs t (0, 0)))) (i : Nat) : w.frozen? ⟨g, i, none⟩ = false := blk_frozen h.out i
section
variable {α : Type} {d : Kd α} {e base : Nat} {ok ok' : Nat → Prop} {v u : Value} {xs : List α} {w w0 w1 w2 : World} {A : Option Addr} {n : Nat}
/-- A row stands behind what has been laid. -/
theorem rU (h0 : Aside0 (d.R e w0 base ok v xs)) (h : d.R e w0 base ok v xs → d.R e w base ok v xs := by (intro h; (with_reducible repeat (first | apply Kd.R_alloc | apply Kd.R_drewN | apply Kd.R_drew)); exact h)) : d.R e w base ok v xs := h h0.out
theorem nU (h0 : Aside0 (Kd.N d e w0 base ok v xs)) (h : Kd.N d e w0 base ok v xs → Kd.N d e w base ok v xs := by (intro h; (with_reducible repeat (first | apply Kd.N_alloc | apply Kd.N_drewN | apply Kd.N_drew)); exact h)) : Kd.N d e w base ok v xs := h h0.out
theorem rB {w3 : World} (h0 : Aside0 (d.R e w0 base ok v xs)) (hb : Below w2.heap.size w2 w3) (h : d.R e w0 base ok v xs → d.R e w2 base ok v xs := by (intro h; (with_reducible repeat (first | apply Kd.R_alloc | apply Kd.R_drewN | apply Kd.R_drew)); exact h)) : Aside0 (d.R e w3 base ok v xs) := ⟨Kd.R_below (h h0.out) hb⟩
theorem nB {w3 : World} (h0 : Aside0 (Kd.N d e w0 base ok v xs)) (hb : Below w2.heap.size w2 w3) (h : Kd.N d e w0 base ok v xs → Kd.N d e w2 base ok v xs := by (intro h; (with_reducible repeat (first | apply Kd.N_alloc | apply Kd.N_drewN | apply Kd.N_drew)); exact h)) : Aside0 (Kd.N d e w3 base ok v xs) := ⟨Kd.N_below (h h0.out) hb⟩
theorem sU (h0 : Aside0 (Kd.S d e w0 base ok v xs)) (h : Kd.S d e w0 base ok v xs → Kd.S d e w base ok v xs := by (intro h; (with_reducible repeat (first | apply Kd.S_alloc | apply Kd.S_drewN | apply Kd.S_drew)); exact h)) : Kd.S d e w base ok v xs := h h0.out
theorem cS (x : d.C w0 A n xs) (h : d.C w0 A n xs → d.C w A n xs := by (intro h; repeat (first | exact h | (with_reducible refine Kd.C_alloc ?_ _) | (with_reducible refine Kd.C_drewN ?_ _) | (with_reducible refine Kd.C_drew ?_)))) : d.C w A n xs := h x
end
section
variable {P : Program} {ops : Array Oper} {o : Oper} {rest : List Oper} {a : Act} {W : World} {Q : Exit → Act → World → Prop}
/-- A box that is laid, as an arm of the walk. -/
theorem bxE (N : Tmp) (cs : Array Value) (t : TypeId) (hd : o.dst = some N)
    (h : ∀ g, g = W.heap.size → ∀ w1, w1.heap[g]? = some (.cells cs t (0, 0)) → Below W.heap.size W w1 → wpList P ops Q rest (a.put o.dst (.pointer (some ⟨g, 0, none⟩))) w1)
    (hgd : o.guard = none := by rfl) (hrun : (execOp a.eval o).run P W = .ok (.value (.pointer (some ⟨W.heap.size, 0, none⟩))) (W.alloc (.cells cs t (0, 0))) := by first | (go_simp; done) | (go_simp; rfl)) : wpList P ops Q (o :: rest) a W :=
  box_event hgd hd hrun h
/-- A call of a Go function, as an arm of the walk. -/
theorem goC {N : Option Tmp} {f : FuncId} {fn : Func} {os_ : Array Operand} {ts : Array TypeId} (hf : P.funcs[f]? = some fn) (args : Array Value) (hop : o.op = .call { callee := .value (.func f), args := os_, argTypes := ts })
    (h : Calls P f args W fun e w' => ∃ v, e = .returned v ∧ wpList P ops Q rest (a.put N v) w') (hd : o.dst = N := by rfl) (hg : o.guard = none := by rfl) (hname : (fn.name == "runtime.NumGoroutine") = false := by kernel_rfl) (hb : fn.body.isSome = true := by rfl)
    (hargs : os_.map a.eval = args := by (try simp only [List.map_toArray, List.map_cons, List.map_nil]); first | done | rfl | (simp only [List.length_drop, List.length_take]; rfl)) : wpList P ops Q (o :: rest) a W :=
  goesL_ N hd hg hf hname hb args hop hargs h
end
/-- What is part of what is known. -/
theorem pj {p q : Prop} (h : p) (g : p → q := by (intro h; repeat' (first | exact trivial | refine ⟨?_, ?_⟩ | (first | exact h | exact h.1 | exact h.2 | exact h.1.1 | exact h.1.2 | exact h.2.1 | exact h.2.2 | exact h.1.1.1 | exact h.1.1.2 | exact h.1.2.1 | exact h.1.2.2 | exact h.2.1.1 | exact h.2.1.2 | exact h.2.2.1 | exact h.2.2.2 | exact h.1.1.1.1 | exact h.1.1.1.2 | exact h.1.1.2.1 | exact h.1.1.2.2 | exact h.1.2.1.1 | exact h.1.2.1.2 | exact h.1.2.2.1 | exact h.1.2.2.2 | exact h.2.1.1.1 | exact h.2.1.1.2 | exact h.2.1.2.1 | exact h.2.1.2.2 | exact h.2.2.1.1 | exact h.2.2.1.2 | exact h.2.2.2.1 | exact h.2.2.2.2 | exact h.1.1.1.1.1 | exact h.1.1.1.1.2 | exact h.1.1.1.2.1 | exact h.1.1.1.2.2 | exact h.1.1.2.1.1 | exact h.1.1.2.1.2 | exact h.1.1.2.2.1 | exact h.1.1.2.2.2 | exact h.1.2.1.1.1 | exact h.1.2.1.1.2 | exact h.1.2.1.2.1 | exact h.1.2.1.2.2 | exact h.1.2.2.1.1 | exact h.1.2.2.1.2 | exact h.1.2.2.2.1 | exact h.1.2.2.2.2 | exact h.2.1.1.1.1 | exact h.2.1.1.1.2 | exact h.2.1.1.2.1 | exact h.2.1.1.2.2 | exact h.2.1.2.1.1 | exact h.2.1.2.1.2 | exact h.2.1.2.2.1 | exact h.2.1.2.2.2 | exact h.2.2.1.1.1 | exact h.2.2.1.1.2 | exact h.2.2.1.2.1 | exact h.2.2.1.2.2 | exact h.2.2.2.1.1 | exact h.2.2.2.1.2 | exact h.2.2.2.2.1 | exact h.2.2.2.2.2 | (revert h; simp only [and_imp]; intros; assumption))))) : q := g h
theorem pjn {p q : Prop} (h : p) (hq : q) (g : p → ¬ q := by (intro h; (first | exact h | exact h.1 | exact h.2 | exact h.1.1 | exact h.1.2 | exact h.2.1 | exact h.2.2 | exact h.1.1.1 | exact h.1.1.2 | exact h.1.2.1 | exact h.1.2.2 | exact h.2.1.1 | exact h.2.1.2 | exact h.2.2.1 | exact h.2.2.2 | exact h.1.1.1.1 | exact h.1.1.1.2 | exact h.1.1.2.1 | exact h.1.1.2.2 | exact h.1.2.1.1 | exact h.1.2.1.2 | exact h.1.2.2.1 | exact h.1.2.2.2 | exact h.2.1.1.1 | exact h.2.1.1.2 | exact h.2.1.2.1 | exact h.2.1.2.2 | exact h.2.2.1.1 | exact h.2.2.1.2 | exact h.2.2.2.1 | exact h.2.2.2.2 | exact h.1.1.1.1.1 | exact h.1.1.1.1.2 | exact h.1.1.1.2.1 | exact h.1.1.1.2.2 | exact h.1.1.2.1.1 | exact h.1.1.2.1.2 | exact h.1.1.2.2.1 | exact h.1.1.2.2.2 | exact h.1.2.1.1.1 | exact h.1.2.1.1.2 | exact h.1.2.1.2.1 | exact h.1.2.1.2.2 | exact h.1.2.2.1.1 | exact h.1.2.2.1.2 | exact h.1.2.2.2.1 | exact h.1.2.2.2.2 | exact h.2.1.1.1.1 | exact h.2.1.1.1.2 | exact h.2.1.1.2.1 | exact h.2.1.1.2.2 | exact h.2.1.2.1.1 | exact h.2.1.2.1.2 | exact h.2.1.2.2.1 | exact h.2.1.2.2.2 | exact h.2.2.1.1.1 | exact h.2.2.1.1.2 | exact h.2.2.1.2.1 | exact h.2.2.1.2.2 | exact h.2.2.2.1.1 | exact h.2.2.2.1.2 | exact h.2.2.2.2.1 | exact h.2.2.2.2.2 | (revert h; simp only [and_imp]; intros; assumption)))) : False := g h hq
-- What has been told, taken apart: a branch that is empty, a bind.
section
variable {α β : Type} {r : β}
theorem ifP {c : Prop} [Decidable c] {x : Option β} (h : (if c then x else none) = some r) : c ∧ x = some r := by
  by_cases hc : c
  · rw [if_pos hc] at h; exact ⟨hc, h⟩
  · rw [if_neg hc] at h; cases h
theorem ifN {c : Prop} [Decidable c] {x : Option β} (h : (if c then none else x) = some r) : ¬ c ∧ x = some r := by
  by_cases hc : c
  · rw [if_pos hc] at h; cases h
  · rw [if_neg hc] at h; exact ⟨hc, h⟩
theorem ifF {b : Bool} {x : Option β} (h : (if b = true then none else x) = some r) : b = false ∧ x = some r := ⟨Bool.eq_false_iff.mpr (ifN h).1, (ifN h).2⟩
theorem ifD {c : Prop} [Decidable c] {x : Option β} (h : (if c then x else none) = some r) : decide c = true ∧ x = some r := ⟨decide_eq_true (ifP h).1, (ifP h).2⟩
theorem ifDN {c : Prop} [Decidable c] {x : Option β} (h : (if c then none else x) = some r) : decide c = false ∧ x = some r := ⟨decide_eq_false (ifN h).1, (ifN h).2⟩
theorem ifE [DecidableEq α] {a b : α} {x : Option β} (h : (if a = b then x else none) = some r) : ((a == b) = true ∧ (a != b) = false) ∧ x = some r := ⟨⟨beq_iff_eq.mpr (ifP h).1, bne_eq_false_iff_eq.mpr (ifP h).1⟩, (ifP h).2⟩
theorem ifEN [DecidableEq α] {a b : α} {x : Option β} (h : (if a = b then none else x) = some r) : (¬ a = b ∧ (a == b) = false ∧ (a != b) = true) ∧ x = some r := ⟨⟨(ifN h).1, beq_eq_false_iff_ne.mpr (ifN h).1, bne_iff_ne.mpr (ifN h).1⟩, (ifN h).2⟩
theorem ifB {a b : Bool} {x : Option β} (h : (if (a != b) = true then none else x) = some r) : ((a != b) = false ∧ decide (a = b) = true ∧ (a == b) = true) ∧ x = some r := by
  obtain ⟨h1, h2⟩ := ifN h
  refine ⟨?_, h2⟩
  cases a <;> cases b <;> simp at h1 ⊢
theorem ifBe {a b : Bool} {x : Option β} (h : (if (a == b) = true then x else none) = some r) : ((a == b) = true ∧ decide (a = b) = true ∧ (a == b) = true) ∧ x = some r := by
  obtain ⟨h1, h2⟩ := ifP h
  refine ⟨?_, h2⟩
  cases a <;> cases b <;> simp at h1 ⊢
theorem oB {o : Option α} {f : α → Option β} (h : o.bind f = some r) : ∃ a, Aside0 (o = some a) ∧ f a = some r := by
  obtain ⟨a, h1, h2⟩ := Option.bind_eq_some_iff.mp h
  exact ⟨a, ⟨h1⟩, h2⟩
end
/-- Both cells of a block of two. -/
theorem cf2 {w : World} {g t : Nat} {a b : Value} (h : Aside0 (w.heap[g]? = some (.cells #[a, b] t (0, 0)))) : w.cell? ⟨g, 0, none⟩ = some a ∧ w.cell? ⟨g, 1, none⟩ = some b ∧ w.frozen? ⟨g, 0, none⟩ = false ∧ w.frozen? ⟨g, 1, none⟩ = false := ⟨cz h 0, cz h 1, fz h 0, fz h 1⟩
/-- What is told again, at the end of a walk. -/
theorem eW {p : Prop} (h : p := by first | rfl | (simp [errW_none, errW_some] <;> rfl) | (simp [*, errW_none, errW_some] <;> rfl)) : p := h
theorem sR {p : Prop} (h : p := by first | rfl | (simp; done) | (simp [*]; done)) : p := h
/-- A text of one byte. -/
theorem bsz1 (x : UInt8) : (⟨#[x]⟩ : ByteArray).size = 1 := rfl
end Go.Proofs.YtbjmkkgejekpnaaDoor.Base
