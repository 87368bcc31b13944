/- The print's fixed phrases, each as the preset proof of a rule's hypothesis. -/
import Derived.Test.YtdnkipagpagfiaaDoorWWords
import Derived.Test.YtdnkipagpagfiaaDoorWMore
namespace Go.Proofs.YtdnkipagpagfiaaDoor.Base
open Go Go.RowKit Go.Proofs.YtdnkipagpagfiaaDoorW.PrintWords Go.Proofs.YtdnkipagpagfiaaDoorW.PrintMore
/-- What the world has kept below: by the latest fact. -/
theorem hB {n : Nat} {w w' : World} (h : Below n w w' := by repeat (first | (with_reducible first | exact Aside0.out (by assumption) | apply below_alloc | apply pw_below_drewN | apply below_drew1 | refine below_set ?_ (Aside0.out (by assumption))) | exact Aside0.out (by assumption))) : Below n w w' := h
/-- A block stands as it stood. -/
theorem bK {w : World} {g : Nat} {o : Option Obj} (h : w.heap[g]? = o := by (with_reducible repeat (first | refine blk_drewN ?_ _ | refine blk_drew ?_ | refine blk_alloc ?_ _)); exact Aside0.out (by assumption)) : w.heap[g]? = o := h
theorem bS {w w1 w2 : World} {g : Nat} {o : Obj} (_ : Aside0 (w.heap[g]? = some o)) (hb : Below w1.heap.size w1 w2) (h : w1.heap[g]? = some o := by (with_reducible repeat (first | refine blk_drewN ?_ _ | refine blk_drew ?_ | refine blk_alloc ?_ _)); exact Aside0.out (by assumption)) : Aside0 (w2.heap[g]? = some o) := ⟨blk_below h hb⟩
theorem hS {w w0 w1 w2 : World} (_ : Aside0 (Below w.heap.size w w0)) (hb : Below w1.heap.size w1 w2) (h : Below w.heap.size w w1 := by repeat (first | (with_reducible first | exact Aside0.out (by assumption) | apply below_alloc | apply pw_below_drewN | apply below_drew1 | refine below_set ?_ (Aside0.out (by assumption))) | exact Aside0.out (by assumption))) : Aside0 (Below w.heap.size w w2) := ⟨below_step h hb⟩
theorem nL {w w1 : World} {g g' : Nat} {o : Obj} (_ : Aside0 (w.heap[g]? = some o)) (hg : g' = w1.heap.size) (h : w1.heap[g]? = some o := by (with_reducible repeat (first | refine blk_drewN ?_ _ | refine blk_drew ?_ | refine blk_alloc ?_ _)); exact Aside0.out (by assumption)) : Aside0 (g ≠ g') := ⟨by rw [hg]; exact Nat.ne_of_lt (blk_lt h)⟩
theorem nG {w w1 : World} {g g' : Nat} {o : Obj} (_ : Aside0 (w.heap[g]? = some o)) (hg : g' = w1.heap.size) (h : w1.heap[g]? = some o := by (with_reducible repeat (first | refine blk_drewN ?_ _ | refine blk_drew ?_ | refine blk_alloc ?_ _)); exact Aside0.out (by assumption)) : Aside0 (g' ≠ g) := ⟨by rw [hg]; exact Nat.ne_of_gt (blk_lt h)⟩
theorem gS {w w0 w1 : World} {g : Nat} (_ : Aside0 (Below w.heap.size w w0)) (hg : g = w1.heap.size) (h : Below w.heap.size w w1 := by repeat (first | (with_reducible first | exact Aside0.out (by assumption) | apply below_alloc | apply pw_below_drewN | apply below_drew1 | refine below_set ?_ (Aside0.out (by assumption))) | exact Aside0.out (by assumption))) : Aside0 (w.heap.size ≤ g) := ⟨by rw [hg]; exact below_size h⟩
/-- The arguments of a call, written out. -/
theorem mapT {p : Prop} (h : p := by (try simp only [List.map_toArray, List.map_cons, List.map_nil]); first | done | rfl | (simp only [List.length_drop, List.length_take]; rfl)) : p := h
end Go.Proofs.YtdnkipagpagfiaaDoor.Base
