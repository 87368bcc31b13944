/- A stretch of operations of a region of open order, each shown by one and the same tactic: the list says which ones, and how. -/
import Derived.Test.YtbjmkkgejekpnaaDoorWTab
import Derived.Test.YtbjmkkgejekpnaaDoorWLast
namespace Go.Proofs.YtbjmkkgejekpnaaDoor.Base
open Go Go.Proofs.YtbjmkkgejekpnaaDoorW.PrintLast Go.Proofs.YtbjmkkgejekpnaaDoorW.PrintWords
def bl : Nat → Nat → List Bool
  | 0, _ => []
  | n + 1, m => Nat.beq (Nat.mod m 2) 1 :: bl n (Nat.div m 2)
/-- What has come up, as the bits of a number. -/
def bz (n m : Nat) : Array Bool := ⟨bl n m⟩
structure Run (P : Program) (md : Region.Mode) (ops : Array Oper) (Q : Exit → Act → World → Prop) (S : World → Prop) (ds : List Nat) (is : List (Nat × Nat × Nat × Option Tmp)) (fuel : Nat) (l : Array Bool) (a : Act) (w : World) : Prop where
  out : wpAnyLast P md ops Q S ds fuel l a w
/-- The same, its next step told apart. -/
structure Run0 (P : Program) (md : Region.Mode) (ops : Array Oper) (Q : Exit → Act → World → Prop) (S : World → Prop) (ds : List Nat) (k i m' : Nat) (N : Option Tmp) (is : List (Nat × Nat × Nat × Option Tmp)) (fuel : Nat) (l : Array Bool) (a : Act) (w : World) : Prop where
  out : wpAnyLast P md ops Q S ds fuel l a w
section
variable {P : Program} {md : Region.Mode} {ops : Array Oper} {Q : Exit → Act → World → Prop} {S : World → Prop} {ds : List Nat} {is : List (Nat × Nat × Nat × Option Tmp)} {fuel n m m' i : Nat} {l : Array Bool} {a a' : Act} {w : World} {oi : Oper} {N : Option Tmp} {v : Value}
theorem run_ (is : List (Nat × Nat × Nat × Option Tmp)) (h : Run P md ops Q S ds is fuel l a w) : wpAnyLast P md ops Q S ds fuel l a w := h.out
theorem run_nil (h : wpAnyLast P md ops Q S ds fuel l a w) : Run P md ops Q S ds [] fuel l a w := ⟨h⟩
theorem tag0 (h : Run0 P md ops Q S ds 0 i m' N is fuel l a w) : Run P md ops Q S ds ((0, i, m', N) :: is) fuel l a w := ⟨h.out⟩
theorem tag1 (h : Run0 P md ops Q S ds 1 i m' N is fuel l a w) : Run P md ops Q S ds ((1, i, m', N) :: is) fuel l a w := ⟨h.out⟩
theorem tag2 (h : Run0 P md ops Q S ds 2 i m' N is fuel l a w) : Run P md ops Q S ds ((2, i, m', N) :: is) fuel l a w := ⟨h.out⟩
theorem run_p (hi : ops[i]? = some oi) (hN : oi.dst = N) (hc : anyB md ops (bz n m) (bz n m') i = true)
    (hQ : ∀ c a w, Q (.panic c) (a.put oi.dst v) w → Q (.panic c) a w) (hw : Region.wanted oi (yielded ops a.tmps) = true) (hy : ∀ w, (execOp a.eval oi).run P w = .ok (.value v) w) (ha : a.put N v = a')
    (h : Run P md ops Q S ds is fuel (bz n m') a' w) : Run0 P md ops Q S ds 0 i m' N is (fuel + 1) (bz n m) a w :=
  ⟨pure_ _ hi hN hc hQ (Or.inl ⟨hw, hy⟩) ha h.out⟩
theorem run_o (hi : ops[i]? = some oi) (hN : oi.dst = N) (hc : anyB md ops (bz n m) (bz n m') i = true)
    (hQ : ∀ c a w, Q (.panic c) (a.put oi.dst undef) w → Q (.panic c) a w) (hw : Region.wanted oi (yielded ops a.tmps) = false) (ha : a.put N undef = a')
    (h : Run P md ops Q S ds is fuel (bz n m') a' w) : Run0 P md ops Q S ds 2 i m' N is (fuel + 1) (bz n m) a w :=
  ⟨pure_ _ hi hN hc hQ (Or.inr ⟨hw, rfl⟩) ha h.out⟩
theorem run_t (hi : ops[i]? = some oi) (hN : oi.dst = N) (hc : takeB md ops ds (bz n m) (bz n m') i = true)
    (hQ : ∀ c a w, Q (.panic c) (a.put oi.dst v) w → Q (.panic c) a w) (hw : Region.wanted oi (yielded ops a.tmps) = true) (hy : ∀ w, S w → (execOp a.eval oi).run P w = .ok (.value v) w) (hS : S w) (ha : a.put N v = a')
    (h : Run P md ops Q S ds is fuel (bz n m') a' w) : Run0 P md ops Q S ds 1 i m' N is (fuel + 1) (bz n m) a w :=
  ⟨take_ _ hi hN hc hQ (Or.inl ⟨hw, hy⟩) hS ha h.out⟩
end
/-- More is held to from here on: what a call has made is read behind it. -/
theorem more_ {P : Program} {md : Region.Mode} {ops : Array Oper} {Q : Exit → Act → World → Prop} {S : World → Prop} (S' : World → Prop) (hS : ∀ w, S' w → S w) : ∀ (fuel : Nat) (l : Array Bool) (a : Act) (w : World), S' w → wpAnyLast P md ops Q S' [] fuel l a w → wpAnyLast P md ops Q S [] fuel l a w
  | 0, _, _, _, _, h => h
  | fuel + 1, _, _, _, hw, h => ⟨h.1, fun i hi => wpOp_mono (fun a' w' h' => ⟨fun _ _ => hS _ (h'.1 (by simp) hw), more_ S' hS fuel _ a' w' (h'.1 (by simp) hw) h'.2⟩) (h.2 i hi)⟩
/-- The rules by which a frame is written out. -/
theorem Z : (∀ (a : Act) (n : Tmp) (v : Value), a.put (some n) v = { a with tmps := a.tmps.setIfInBounds n v }) ∧ (∀ (l : List Value) (i : Nat) (v : Value), l.toArray.setIfInBounds i v = (l.set i v).toArray) ∧ (∀ (x : Value) (l : List Value) (v : Value), (x :: l).set 0 v = v :: l) ∧ (∀ (x : Value) (l : List Value) (i : Nat) (v : Value), (x :: l).set (i + 1) v = x :: l.set i v) :=
  ⟨fun _ _ _ => rfl, fun l i v => List.setIfInBounds_toArray l i v, fun _ _ _ => rfl, fun _ _ _ _ => rfl⟩
end Go.Proofs.YtbjmkkgejekpnaaDoor.Base
