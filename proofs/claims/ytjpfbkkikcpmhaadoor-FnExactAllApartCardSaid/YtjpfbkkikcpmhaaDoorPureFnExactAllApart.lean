/- FnExactAllApart: whatever the party, the program lists the full groups of the other party as the reference does, leaves the party as it was, and returns memory of its own. Condition: the table of math/bits lies as its initialiser lays it (the card's own). -/
import Derived.Test.YtjpfbkkikcpmhaaDoorLawFnExactAllApart
import Derived.Test.YtjpfbkkikcpmhaaDoorPBase
import Derived.Test.YtjpfbkkikcpmhaaDoorGraph
namespace Go.Proofs.YtjpfbkkikcpmhaaDoor.PFnExactAllApart
set_option linter.unusedVariables false
set_option linter.unusedSimpArgs false
open Go.RowKit Go.Proofs.YtjpfbkkikcpmhaaDoor.Base Go.Proofs.YtjpfbkkikcpmhaaDoor.PFnExactAllApart Go.Proofs.YtjpfbkkikcpmhaaDoorW.PrintWords Go.Proofs.YtjpfbkkikcpmhaaDoorW.PrintLast Go.Proofs.YtjpfbkkikcpmhaaDoorW.PrintMore
theorem laws_szPairS.ok (l : List S118) (n : Int) (h0 : 0 ≤ n) (h1 : n ≤ 1048576) (hl : l.length ≤ maxLen) : laws_szPairS.f l n = some (if n - l.length < 0 then -1 else n - l.length) := by
  unfold maxLen at hl
  unfold laws_szPairS.f
  rw [wrap_id (by omega) (by omega)]
  split <;> rfl

theorem laws_szParty.ok (p : Int) (l : List S118) (n : Int) (h0 : 0 ≤ n) (h1 : n ≤ 1048576) (hl : l.length ≤ maxLen) : laws_szParty.f p l n = some (if n - l.length < 0 then -1 else n - l.length) := by
  unfold laws_szParty.f
  rw [laws_szPairS.ok l n h0 h1 hl]
  simp only [Option.bind_some]
  by_cases h : n - (l.length : Int) < 0
  · simp [h]
  · simp [h]

theorem rd_T118_nat (l : List S118) (i : Nat) (h : i < l.length) : rd_T118 l (i : Int) = l[i] := by simp [rd_T118, List.getD, h]
def prs (l : List S118) : List S105 := l.map fun x => ⟨x.f0, x.f1⟩
theorem prs_length (l : List S118) : (prs l).length = l.length := by simp [prs]
theorem laws_toPairS.ok (l : List S118) (hl : l.length ≤ 1048576) (k : Nat) (hk : l.length < k) : laws_toPairS.f k l = some (prs l) := by
  unfold laws_toPairS.f
  rw [if_pos (by omega), if_pos (by omega)]
  refine fill_loop (fun k acc i => laws_toPairS.l0 k l acc i) _ l _ (by omega) 0 ?_ ?_ k hk
  · intro k acc i h _ ha
    simp only [laws_toPairS.l0, laws_toPair.f, Option.bind_some]
    rw [if_pos (by omega), if_pos (by omega), if_pos (by omega), rd_T118_nat l i h]
    rfl
  · intro k acc ha
    simp only [laws_toPairS.l0]
    rw [if_neg (by omega)]

theorem laws_toParty.ok (n : Int) (l : List S118) (hl : l.length ≤ 1048576) (k : Nat) (hk : l.length < k) : laws_toParty.f k n l = some (n, prs l) := by
  unfold laws_toParty.f
  rw [laws_toPairS.ok l hl k hk]; rfl

theorem laws_eqPairS.refl (l : List S105) (hl : l.length ≤ 1048576) (k : Nat) (hk : l.length < k) : laws_eqPairS.f k l l = some true := by
  unfold laws_eqPairS.f
  rw [if_pos rfl]
  rw [all_loop (fun k i => laws_eqPairS.l0 k l l i) l.length (fun _ => true) (by omega) 0 ?_ ?_ k hk]
  · simp
  · intro k i h _
    simp only [laws_eqPairS.l0, laws_eqPair.f]
    rw [if_pos (by omega), if_pos (by omega), if_pos (by omega)]
    simp
  · intro k
    simp only [laws_eqPairS.l0]
    rw [if_neg (by omega)]

theorem laws_eqParty.refl (n : Int) (l : List S105) (hl : l.length ≤ 1048576) (k : Nat) (hk : l.length < k) : laws_eqParty.f k n l n l = some true := by
  unfold laws_eqParty.f
  rw [if_pos rfl, laws_eqPairS.refl l hl k hk]; rfl

theorem rd_T105_nat (l : List S105) (i : Nat) (h : i < l.length) : rd_T105 l (i : Int) = l[i] := by simp [rd_T105, List.getD, h]
/-- Pairs marked from a number on. -/
def mkp : Nat → Nat → List S105
  | _, 0 => []
  | m, n + 1 => ⟨(m : Int), ((m + 1 : Nat) : Int)⟩ :: mkp (m + 2) n
theorem set_mid {α : Type} (pre : List α) (x y : α) (post : List α) : (pre ++ x :: post).set pre.length y = pre ++ y :: post := by
  rw [List.set_append_right _ _ (Nat.le_refl _), Nat.sub_self, List.set_cons_zero]
theorem getD_mid {α : Type} (pre : List α) (x z : α) (post : List α) : (pre ++ x :: post).getD pre.length z = x := by
  rw [List.getD_eq_getElem?_getD, List.getElem?_append_right (Nat.le_refl _), Nat.sub_self]
  rfl
theorem snoc_mid {α : Type} (pre : List α) (x : α) (post : List α) : pre ++ x :: post = (pre ++ [x]) ++ post := by simp
-- mkp
theorem laws_markPairS.go : ∀ (l pre : List S105) (m : Nat), m + 2 * l.length ≤ 1000000000 → pre.length + l.length ≤ 1000000000 → Ev (fun k => laws_markPairS.l0 k (pre ++ l) (m : Int) (pre.length : Int)) (((m + 2 * l.length : Nat) : Int), pre ++ mkp m l.length)
  | [], pre, m, hm, hp => by
    refine Ev.step (f := fun _ => some (((m + 2 * ([] : List S105).length : Nat) : Int), pre ++ mkp m ([] : List S105).length)) (fun k => ?_) (Ev.now _)
    rw [laws_markPairS.l0, if_neg (by simp)]
    simp [mkp]
  | x :: l, pre, m, hm, hp => by
    simp only [List.length_cons] at hm hp
    have h := laws_markPairS.go l (pre ++ [⟨(m : Int), ((m + 1 : Nat) : Int)⟩]) (m + 2) (by omega) (by simp; omega)
    rw [List.length_append, List.length_singleton] at h
    refine Ev.step (fun k => ?_) (by
      rw [show (pre ++ [(⟨(m : Int), ((m + 1 : Nat) : Int)⟩ : S105)]) ++ mkp (m + 2) l.length = pre ++ mkp m (x :: l).length from by rw [List.length_cons, mkp]; simp, show m + 2 + 2 * l.length = m + 2 * (x :: l).length from by rw [List.length_cons]; omega] at h
      exact h)
    have e2 : wrap64 ((wrap64 ((m : Int) + 1)) + 1) = ((m + 2 : Nat) : Int) := by rw [wrap_id (x := (m : Int) + 1) (by omega) (by omega), wrap_id (by omega) (by omega)]; omega
    have e1 : wrap64 ((m : Int) + 1) = ((m + 1 : Nat) : Int) := by rw [wrap_id (by omega) (by omega)]; omega
    rw [laws_markPairS.l0, if_pos (by simp; omega), if_pos (by omega), Int.toNat_natCast, set_mid, Option.bind_some, set_mid, e2, e1, nat_succ pre.length (by omega), ← snoc_mid]
    rw [show rd_T105 (pre ++ (⟨(m : Int), (rd_T105 (pre ++ x :: l) (pre.length : Int)).f1⟩ : S105) :: l) (pre.length : Int) = ⟨(m : Int), (rd_T105 (pre ++ x :: l) (pre.length : Int)).f1⟩ from getD_mid _ _ _ _]
theorem laws_markPairS.any (l : List S105) (m : Nat) (hm : m + 2 * l.length ≤ 1000000000) : Ev (fun k => laws_markPairS.f k l (m : Int)) (((m + 2 * l.length : Nat) : Int), mkp m l.length) := laws_markPairS.go l [] m hm (by simp; omega)
-- pairnat
def mkPair (i : Nat) : S105 := ⟨1 + 2 * i, 2 + 2 * i⟩
theorem laws_markPairS.ok (l : List S105) (hl : l.length ≤ 1048576) (k : Nat) (hk : l.length < k) : laws_markPairS.f k l 1 = some (1 + 2 * (l.length : Int), (List.range l.length).map mkPair) := by
  unfold laws_markPairS.f
  refine mark_loop (fun k acc m i => laws_markPairS.l0 k acc m i) mkPair 2 l.length ?_ ?_ k l rfl hk
  · intro k acc i h ha
    have e1 : wrap64 (1 + ((2 : Nat) : Int) * i + 1) = 2 + 2 * i := by rw [wrap_id (by omega) (by omega)]; omega
    have e3 : wrap64 (2 + 2 * (i : Int) + 1) = 1 + ((2 : Nat) : Int) * ((i + 1 : Nat) : Int) := by rw [wrap_id (by omega) (by omega)]; omega
    have e4 : wrap64 ((i : Int) + 1) = ((i + 1 : Nat) : Int) := by rw [wrap_id (by omega) (by omega)]; omega
    have hr : ∀ (q : List S105) (x : S105), q.length = l.length → rd_T105 (q.set i x) (i : Int) = x := by
      intro q x hq
      rw [rd_T105_nat _ i (by simp; omega)]; simp
    simp only [laws_markPairS.l0, e1, e3, e4, Int.toNat_natCast, Option.bind_some]
    rw [if_pos (by omega), if_pos (by omega), hr acc _ ha]
    simp only [List.set_set]
    simp only [mkPair]
    rfl
  · intro k acc m ha
    simp only [laws_markPairS.l0]
    rw [if_neg (by omega)]

theorem laws_markParty.ok (n : Int) (l : List S105) (hl : l.length ≤ 1048576) (k : Nat) (hk : l.length < k) : laws_markParty.f k n l 1 = some (1 + 2 * (l.length : Int), (List.range l.length).map mkPair) := by
  unfold laws_markParty.f
  rw [laws_markPairS.ok l hl k hk]; rfl

theorem rd_nat (l : List Int) (i : Nat) (h : i < l.length) : rd l (i : Int) = l[i] := by simp [rd, List.getD, h]
theorem laws_eqIntS.refl (l : List Int) (hl : l.length ≤ 1048576) (k : Nat) (hk : l.length < k) : laws_eqIntS.f k l l = some true := by
  unfold laws_eqIntS.f
  rw [if_pos rfl]
  rw [all_loop (fun k i => laws_eqIntS.l0 k l l i) l.length (fun _ => true) (by omega) 0 ?_ ?_ k hk]
  · simp
  · intro k i h _
    simp only [laws_eqIntS.l0]
    rw [if_pos (by omega), if_pos (by omega), if_pos (by omega)]
    first | done | simp
  · intro k
    simp only [laws_eqIntS.l0]
    rw [if_neg (by omega)]

theorem laws_eqIntSS.refl (L : List (List Int)) (hL : L.length ≤ 1048576) (h : ∀ p ∈ L, p.length ≤ 12) (k : Nat) (hk : L.length + 20 < k) : laws_eqIntSS.f k L L = some true := by
  unfold laws_eqIntSS.f
  rw [if_pos rfl]
  rw [all_loop_fin (fun k i => laws_eqIntSS.l0 k L L i) L.length (fun _ => true) true (by omega) 14 ?_ ?_ k (by omega)]
  · simp
  · intro k i hi hk
    have hp := h L[i] (List.getElem_mem hi)
    have er : rd_L3 L (i : Int) = L[i] := by simp [rd_L3, List.getD, hi]
    simp only [laws_eqIntSS.l0]
    rw [if_pos (by omega), if_pos (by omega), if_pos (by omega), er, laws_eqIntS.refl _ (by omega) _ (by omega)]
    rfl
  · intro k _
    simp only [laws_eqIntSS.l0]
    rw [if_neg (by omega)]

def mkInt (i : Nat) : Int := 1 + ((1 : Nat) : Int) * i
theorem laws_markIntS.ok (l : List Int) (hl : l.length ≤ 1048576) (k : Nat) (hk : l.length < k) : laws_markIntS.f k l 1 = some (1 + ((1 : Nat) : Int) * (l.length : Int), (List.range l.length).map mkInt) := by
  unfold laws_markIntS.f
  refine mark_loop (fun k acc m i => laws_markIntS.l0 k acc m i) mkInt 1 l.length ?_ ?_ k l rfl hk
  · intro k acc i h ha
    have e1 : wrap64 (1 + ((1 : Nat) : Int) * i + 1) = 1 + ((1 : Nat) : Int) * ((i + 1 : Nat) : Int) := by rw [wrap_id (by omega) (by omega)]; omega
    have e4 : wrap64 ((i : Int) + 1) = ((i + 1 : Nat) : Int) := by rw [wrap_id (by omega) (by omega)]; omega
    simp only [laws_markIntS.l0, e1, e4, Int.toNat_natCast]
    rw [if_pos (by omega), if_pos (by omega)]
    rfl
  · intro k acc m ha
    simp only [laws_markIntS.l0]
    rw [if_neg (by omega)]

/-- Numbers from one on. -/
def mkI : Nat → Nat → List Int
  | _, 0 => []
  | m, n + 1 => (m : Int) :: mkI (m + 1) n
theorem mkI_length : ∀ n m, (mkI m n).length = n
  | 0, _ => rfl
  | n + 1, m => by rw [mkI, List.length_cons, mkI_length n]
theorem setI_mid {α : Type} (pre : List α) (x y : α) (post : List α) : (pre ++ x :: post).set pre.length y = pre ++ y :: post := by
  rw [List.set_append_right _ _ (Nat.le_refl _), Nat.sub_self, List.set_cons_zero]
theorem getDI_mid {α : Type} (pre : List α) (x z : α) (post : List α) : (pre ++ x :: post).getD pre.length z = x := by
  rw [List.getD_eq_getElem?_getD, List.getElem?_append_right (Nat.le_refl _), Nat.sub_self]
  rfl
theorem snocI_mid {α : Type} (pre : List α) (x : α) (post : List α) : pre ++ x :: post = (pre ++ [x]) ++ post := by simp
def mkII : Nat → List (List Int) → List (List Int)
  | _, [] => []
  | m, l :: L => mkI m l.length :: mkII (m + l.length) L
def nxII : Nat → List (List Int) → Nat
  | m, [] => m
  | m, l :: L => nxII (m + l.length) L
-- mkI
theorem laws_markIntS.go : ∀ (l pre : List Int) (m : Nat), m + l.length ≤ 1000000000 → pre.length + l.length ≤ 1000000000 → Ev (fun k => laws_markIntS.l0 k (pre ++ l) (m : Int) (pre.length : Int)) (((m + l.length : Nat) : Int), pre ++ mkI m l.length)
  | [], pre, m, hm, hp => by
    refine Ev.step (f := fun _ => some (((m + ([] : List Int).length : Nat) : Int), pre ++ mkI m ([] : List Int).length)) (fun k => ?_) (Ev.now _)
    rw [laws_markIntS.l0, if_neg (by simp)]
    simp [mkI]
  | x :: l, pre, m, hm, hp => by
    simp only [List.length_cons] at hm hp
    have h := laws_markIntS.go l (pre ++ [(m : Int)]) (m + 1) (by omega) (by simp; omega)
    rw [List.length_append, List.length_singleton] at h
    refine Ev.step (fun k => ?_) (by
      rw [show (pre ++ [(m : Int)]) ++ mkI (m + 1) l.length = pre ++ mkI m (x :: l).length from by rw [List.length_cons, mkI]; simp, show m + 1 + l.length = m + (x :: l).length from by rw [List.length_cons]; omega] at h
      exact h)
    rw [laws_markIntS.l0, if_pos (by simp; omega), if_pos (by omega), Int.toNat_natCast, setI_mid, nat_succ m (by omega), nat_succ pre.length (by omega), ← snocI_mid]
theorem laws_markIntSS.go : ∀ (L pre : List (List Int)) (m : Nat), (∀ l ∈ L, l.length ≤ 12) → m + 12 * L.length ≤ 1000000 → pre.length + L.length ≤ 1000000 → Ev (fun k => laws_markIntSS.l0 k (pre ++ L) (m : Int) (pre.length : Int)) (((nxII m L : Nat) : Int), pre ++ mkII m L)
  | [], pre, m, _, hm, hp => by
    refine Ev.step (f := fun _ => some (((nxII m [] : Nat) : Int), pre ++ mkII m [])) (fun k => ?_) (Ev.now _)
    rw [laws_markIntSS.l0, if_neg (by simp)]
    simp [mkII, nxII]
  | l :: L, pre, m, h12, hm, hp => by
    simp only [List.length_cons] at hm hp
    have hl := h12 l List.mem_cons_self
    have h := laws_markIntSS.go L (pre ++ [mkI m l.length]) (m + l.length) (fun x hx => h12 x (List.mem_cons_of_mem _ hx)) (by omega) (by simp; omega)
    rw [List.length_append, List.length_singleton, ← snocI_mid, ← snocI_mid] at h
    have h1 := laws_markIntS.go l [] m (by omega) (by simp; omega)
    rw [List.nil_append, List.nil_append] at h1
    refine Ev.step (fun k => ?_) (Ev.bind h1 (f := fun k q => laws_markIntSS.l0 k ((pre ++ l :: L).set pre.length q.2) q.1 ((pre.length + 1 : Nat) : Int)) ?_)
    · rw [laws_markIntSS.l0, if_pos (by simp; omega), if_pos (by omega), Int.toNat_natCast, getDI_mid, nat_succ pre.length (by omega)]
      rfl
    · simp only [setI_mid]
      exact h

theorem laws_heldIntS.ok (n : Nat) (hl : n ≤ 1048576) (k : Nat) (hk : n < k) : laws_heldIntS.f k ((List.range n).map mkInt) 1 = some (1 + ((1 : Nat) : Int) * (n : Int)) := by
  unfold laws_heldIntS.f
  refine held_loop (fun k m i => laws_heldIntS.l0 k ((List.range n).map mkInt) m i) 1 n ?_ ?_ k hk
  · intro k i h
    have e1 : wrap64 (1 + ((1 : Nat) : Int) * i + 1) = 1 + ((1 : Nat) : Int) * ((i + 1 : Nat) : Int) := by rw [wrap_id (by omega) (by omega)]; omega
    have e4 : wrap64 ((i : Int) + 1) = ((i + 1 : Nat) : Int) := by rw [wrap_id (by omega) (by omega)]; omega
    simp only [laws_heldIntS.l0, e1, e4]
    rw [if_pos (by simp; omega), if_pos (by omega), rd_nat _ i (by simp; omega)]
    simp [mkInt]
  · intro k m
    simp only [laws_heldIntS.l0]
    rw [if_neg (by simp)]

-- mkI
theorem laws_heldIntS.go : ∀ (n : Nat) (pre : List Int) (m : Nat), m + n ≤ 1000000000 → pre.length + n ≤ 1000000000 → Ev (fun k => laws_heldIntS.l0 k (pre ++ mkI m n) (m : Int) (pre.length : Int)) ((m + n : Nat) : Int)
  | 0, pre, m, hm, hp => by
    refine Ev.step (f := fun _ => some ((m + 0 : Nat) : Int)) (fun k => ?_) (Ev.now _)
    rw [laws_heldIntS.l0, if_neg (by simp [mkI])]
    simp
  | n + 1, pre, m, hm, hp => by
    have h := laws_heldIntS.go n (pre ++ [(m : Int)]) (m + 1) (by omega) (by simp; omega)
    rw [List.length_append, List.length_singleton, ← snocI_mid] at h
    refine Ev.step (fun k => ?_) (by
      rw [show m + 1 + n = m + (n + 1) from by omega] at h
      exact h)
    have er : rd (pre ++ (m : Int) :: mkI (m + 1) n) (pre.length : Int) = (m : Int) := getDI_mid _ _ _ _
    rw [mkI, laws_heldIntS.l0, if_pos (by simp; omega), if_pos (by omega), er, if_pos rfl, nat_succ m (by omega), nat_succ pre.length (by omega)]
theorem laws_heldIntSS.go : ∀ (L pre : List (List Int)) (m : Nat), (∀ l ∈ L, l.length ≤ 12) → m + 12 * L.length ≤ 1000000 → pre.length + L.length ≤ 1000000 → Ev (fun k => laws_heldIntSS.l0 k (pre ++ mkII m L) (m : Int) (pre.length : Int)) ((nxII m L : Nat) : Int)
  | [], pre, m, _, hm, hp => by
    refine Ev.step (f := fun _ => some ((nxII m [] : Nat) : Int)) (fun k => ?_) (Ev.now _)
    rw [laws_heldIntSS.l0, if_neg (by simp [mkII])]
    rfl
  | l :: L, pre, m, h12, hm, hp => by
    simp only [List.length_cons] at hm hp
    have hl := h12 l List.mem_cons_self
    have h := laws_heldIntSS.go L (pre ++ [mkI m l.length]) (m + l.length) (fun x hx => h12 x (List.mem_cons_of_mem _ hx)) (by omega) (by simp; omega)
    rw [List.length_append, List.length_singleton, ← snocI_mid] at h
    have h1 := laws_heldIntS.go l.length [] m (by omega) (by simp; omega)
    rw [List.nil_append] at h1
    have er : rd_L3 (pre ++ mkI m l.length :: mkII (m + l.length) L) (pre.length : Int) = mkI m l.length := getDI_mid _ _ _ _
    refine Ev.step (fun k => ?_) (Ev.bind h1 (f := fun k t => if t < 0 then some (-1) else laws_heldIntSS.l0 k (pre ++ mkI m l.length :: mkII (m + l.length) L) t ((pre.length + 1 : Nat) : Int)) ?_)
    · rw [mkII, laws_heldIntSS.l0, if_pos (by simp; omega), if_pos (by omega), er, nat_succ pre.length (by omega)]
      rfl
    · exact Ev.ite_neg (by omega) h

theorem spec_l1In.ok (n lo hi : Int) : spec_l1In.f n lo hi = some (decide (lo ≤ n ∧ n ≤ hi)) := by
  unfold spec_l1In.f
  by_cases h : lo ≤ n <;> simp [h]

theorem spec_paPeople.ok (n : Int) : spec_paPeople.f n = some (crowd n) := by unfold spec_paPeople.f crowd; simp [spec_l1In.ok]

def lessB (x y : S105) : Bool := decide (x.f0 < y.f0 ∨ x.f0 = y.f0 ∧ x.f1 < y.f1)
theorem spec_paLess.ok (a b c d : Int) : spec_paLess.f a b c d = some (lessB ⟨a, b⟩ ⟨c, d⟩) := by
  unfold spec_paLess.f lessB
  by_cases h : a < c
  · simp [h]
  · by_cases h2 : a = c
    · subst h2; simp
    · simp [h, h2]

-- pairnat
/-- What is asked of pair number i of a party of n people. -/
def stepB (n : Int) (l : List S105) (i : Nat) : Bool := decide (0 ≤ (l.getD i z105).f0 ∧ (l.getD i z105).f0 < (l.getD i z105).f1 ∧ (l.getD i z105).f1 < n) && (i == 0 || lessB (l.getD (i - 1) z105) (l.getD i z105))
/-- n and l are a party. -/
def goodB (n : Int) (l : List S105) : Bool := crowd n && (List.range l.length).all (stepB n l)
theorem goodB_people {n : Int} {l : List S105} (h : goodB n l = true) : 0 ≤ n ∧ n ≤ 12 := by
  unfold goodB crowd at h
  simp only [Bool.and_eq_true, decide_eq_true_eq] at h
  exact h.1
theorem goodB_step {n : Int} {l : List S105} (h : goodB n l = true) (i : Nat) (hi : i < l.length) : (0 ≤ l[i].f0 ∧ l[i].f0 < l[i].f1 ∧ l[i].f1 < n) ∧ (∀ h0 : 0 < i, l[i - 1].f0 < l[i].f0 ∨ l[i - 1].f0 = l[i].f0 ∧ l[i - 1].f1 < l[i].f1) := by
  unfold goodB at h
  simp only [Bool.and_eq_true, List.all_eq_true] at h
  have := h.2 i (List.mem_range.2 hi)
  unfold stepB lessB at this
  simp only [List.getD, List.getElem?_eq_getElem hi, List.getElem?_eq_getElem (show i - 1 < l.length by omega), Option.getD_some, Bool.and_eq_true, Bool.or_eq_true, decide_eq_true_eq, beq_iff_eq] at this
  refine ⟨this.1, fun h0 => ?_⟩
  rcases this.2 with h | h
  · omega
  · exact h
theorem goodB_len {n : Int} {l : List S105} (h : goodB n l = true) : 2 * (l.length : Int) ≤ n * (n - 1) := by
  refine pairs_bound n l.length (fun i => (l.getD i z105).f0) (fun i => (l.getD i z105).f1) ?_ ?_ (goodB_people h).1
  · intro i hi
    simp only [List.getD, List.getElem?_eq_getElem hi, Option.getD_some]
    exact (goodB_step h i hi).1
  · intro i hi
    simp only [List.getD, List.getElem?_eq_getElem hi, List.getElem?_eq_getElem (show i < l.length by omega), Option.getD_some]
    exact (goodB_step h (i + 1) hi).2 (by omega)
theorem goodB_len66 {n : Int} {l : List S105} (h : goodB n l = true) : l.length ≤ 66 := by
  have h1 := goodB_len h
  have h2 := goodB_people h
  obtain ⟨m, rfl⟩ := Int.eq_ofNat_of_zero_le h2.1
  obtain rfl | rfl | rfl | rfl | rfl | rfl | rfl | rfl | rfl | rfl | rfl | rfl | rfl : m = 0 ∨ m = 1 ∨ m = 2 ∨ m = 3 ∨ m = 4 ∨ m = 5 ∨ m = 6 ∨ m = 7 ∨ m = 8 ∨ m = 9 ∨ m = 10 ∨ m = 11 ∨ m = 12 := by omega
  all_goals omega
-- pairnat
theorem stepB_eq (n : Int) (l : List S105) (i : Nat) (hi : i < l.length) : stepB n l i = (decide (0 ≤ l[i].f0 ∧ l[i].f0 < l[i].f1 ∧ l[i].f1 < n) && (i == 0 || lessB l[i - 1] l[i])) := by
  unfold stepB
  simp only [List.getD, List.getElem?_eq_getElem hi, List.getElem?_eq_getElem (show i - 1 < l.length by omega), Option.getD_some]
theorem half (n : Int) (h0 : 0 ≤ n) (h1 : n ≤ 12) : wrap64 (Int.tdiv (wrap64 (n * (wrap64 (n - 1)))) 2) = n * (n - 1) / 2 := by
  obtain ⟨m, rfl⟩ := Int.eq_ofNat_of_zero_le h0
  have : m ≤ 12 := by omega
  obtain rfl | rfl | rfl | rfl | rfl | rfl | rfl | rfl | rfl | rfl | rfl | rfl | rfl : m = 0 ∨ m = 1 ∨ m = 2 ∨ m = 3 ∨ m = 4 ∨ m = 5 ∨ m = 6 ∨ m = 7 ∨ m = 8 ∨ m = 9 ∨ m = 10 ∨ m = 11 ∨ m = 12 := by omega
  all_goals (unfold wrap64; decide)
theorem spec_paGood.ok (n : Int) (l : List S105) (k : Nat) (hk : 70 ≤ k) : spec_paGood.f k n l = some (goodB n l) := by
  obtain ⟨k, rfl⟩ : ∃ m, k = m + 1 := ⟨k - 1, by omega⟩
  unfold spec_paGood.f
  rw [spec_paPeople.ok]
  simp only [Option.bind_some]
  by_cases hn : crowd n = true
  · have hc : 0 ≤ n ∧ n ≤ 12 := by simpa [crowd] using hn
    rw [if_pos hn, half n hc.1 hc.2]
    simp only [spec_paGood.j0]
    by_cases hl : (l.length : Int) > n * (n - 1) / 2
    · rw [if_pos (by simpa using hl)]
      congr 1
      symm
      rw [Bool.eq_false_iff]
      intro h
      have := goodB_len h
      omega
    · rw [if_neg (by simpa using hl)]
      have h66 : l.length ≤ 66 := by
        obtain ⟨m, rfl⟩ := Int.eq_ofNat_of_zero_le hc.1
        have : m ≤ 12 := by omega
        obtain rfl | rfl | rfl | rfl | rfl | rfl | rfl | rfl | rfl | rfl | rfl | rfl | rfl : m = 0 ∨ m = 1 ∨ m = 2 ∨ m = 3 ∨ m = 4 ∨ m = 5 ∨ m = 6 ∨ m = 7 ∨ m = 8 ∨ m = 9 ∨ m = 10 ∨ m = 11 ∨ m = 12 := by omega
        all_goals omega
      rw [all_loop (fun k i => spec_paGood.l0 k l (l.length : Int) i n l) l.length (stepB n l) (by omega) 0 ?_ ?_ k (by omega)]
      · unfold goodB; rw [hn]; rfl
      · intro k i h _
        have e1 : wrap64 (n - 1) = n - 1 := wrap_id (by omega) (by omega)
        simp only [spec_paGood.l0]
        rw [if_pos (by omega), if_pos (by omega), if_pos (by omega), rd_T105_nat l i h, spec_l1In.ok]
        simp only [Option.bind_some, e1]
        rw [stepB_eq n l i h]
        by_cases hA : 0 ≤ l[i].f0 ∧ l[i].f0 ≤ n - 1
        · have e2 : wrap64 (l[i].f0 + 1) = l[i].f0 + 1 := wrap_id (by omega) (by omega)
          rw [if_pos (by simpa using hA), spec_l1In.ok, e2]
          simp only [Option.bind_some]
          by_cases hB : l[i].f0 + 1 ≤ l[i].f1 ∧ l[i].f1 ≤ n - 1
          · rw [if_pos (by simpa using hB), decide_eq_true (show 0 ≤ l[i].f0 ∧ l[i].f0 < l[i].f1 ∧ l[i].f1 < n from ⟨by omega, by omega, by omega⟩)]
            simp only [Bool.true_and]
            rcases Nat.eq_zero_or_pos i with rfl | hi
            · rw [if_neg (by simp)]; simp
            · have e3 : wrap64 ((i : Int) - 1) = ((i - 1 : Nat) : Int) := by rw [wrap_id (by omega) (by omega)]; omega
              rw [if_pos (by omega), e3, if_pos (by omega), if_pos (by omega), rd_T105_nat l (i - 1) (by omega), spec_paLess.ok]
              simp only [Option.bind_some]
              rw [show (i == 0) = false from by simp; omega, Bool.false_or]
          · rw [if_neg (by simpa using hB), decide_eq_false (show ¬ (0 ≤ l[i].f0 ∧ l[i].f0 < l[i].f1 ∧ l[i].f1 < n) from by omega)]; simp
        · rw [if_neg (by simpa using hA), decide_eq_false (show ¬ (0 ≤ l[i].f0 ∧ l[i].f0 < l[i].f1 ∧ l[i].f1 < n) from by omega)]; simp
      · intro k
        simp only [spec_paGood.l0]
        rw [if_neg (by omega)]
  · have hn : crowd n = false := by simpa using hn
    rw [hn, if_neg (by simp)]
    simp [spec_paGood.j0, goodB, hn]

theorem rdL_tabB (n : Nat) (F : Nat → Nat → Bool) (a : Nat) (h : a < n) : rd_L6 (tabB n F) (a : Int) = (List.range n).map (F a) := by
  simp only [rd_L6, Int.toNat_natCast]
  exact tabB_getD n F a h
/-- Two people are friends. -/
def adj (l : List S105) (a b : Nat) : Bool := l.any fun x => decide (x.f0.toNat = a ∧ x.f1.toNat = b ∨ x.f1.toNat = a ∧ x.f0.toNat = b)
theorem adj_symm (l : List S105) (a b : Nat) : adj l a b = adj l b a := by
  unfold adj
  congr 1
  funext x
  rw [decide_eq_decide]
  constructor <;> intro h <;> omega
/-- All pairs are of people below n. -/
def pin (n : Nat) (l : List S105) : Prop := ∀ x ∈ l, 0 ≤ x.f0 ∧ x.f0 < n ∧ 0 ≤ x.f1 ∧ x.f1 < n
-- pairnat
theorem adj_take (l : List S105) (i : Nat) (hi : i < l.length) : adj (l.take (i + 1)) = upd (upd (adj (l.take i)) l[i].f0.toNat l[i].f1.toNat true) l[i].f1.toNat l[i].f0.toNat true := by
  funext x y
  unfold adj upd
  rw [List.take_succ_eq_append_getElem hi, List.any_append]
  simp only [List.any_cons, List.any_nil, Bool.or_false]
  by_cases h1 : x = l[i].f1.toNat ∧ y = l[i].f0.toNat
  · rw [if_pos h1, decide_eq_true (by omega), Bool.or_true]
  · by_cases h2 : x = l[i].f0.toNat ∧ y = l[i].f1.toNat
    · rw [if_neg h1, if_pos h2, decide_eq_true (by omega), Bool.or_true]
    · rw [if_neg h1, if_neg h2, decide_eq_false (by omega), Bool.or_false]
theorem tabB_none (n : Nat) : List.replicate n (List.replicate n false) = tabB n (adj []) := by
  apply List.ext_getElem (by simp [tabB])
  intro i h1 h2
  simp only [List.getElem_replicate, tabB, List.getElem_map]
  apply List.ext_getElem (by simp)
  intro j g1 g2
  simp [adj]
theorem spec_paTable.ok (n : Nat) (hn : n ≤ 12) (l : List S105) (hl : l.length ≤ 1048576) (hp : pin n l) : Ev (fun k => spec_paTable.f k (n : Int) l) (tabB n (adj l)) := by
  have h1 : Ev (fun k => spec_paTable.l1 k (tabB n (adj (l.take 0))) l (l.length : Int) ((0 : Nat) : Int)) (tabB n (adj l)) := by
    refine up_loop (P := fun i => Ev (fun k => spec_paTable.l1 k (tabB n (adj (l.take i))) l (l.length : Int) (i : Int)) (tabB n (adj l))) (n := l.length) ?_ ?_ 0 (Nat.zero_le _)
    · refine Ev.step (f := fun _ => some (tabB n (adj l))) (fun k => ?_) (Ev.now _)
      simp only [spec_paTable.l1]
      rw [if_neg (by omega), List.take_length]
    · intro i hi h
      refine Ev.step (fun k => ?_) h
      obtain ⟨q0, q1, q2, q3⟩ := hp l[i] (List.getElem_mem hi)
      obtain ⟨a, ea⟩ := Int.eq_ofNat_of_zero_le q0
      obtain ⟨b, eb⟩ := Int.eq_ofNat_of_zero_le q2
      have ha : a < n := by omega
      have hb : b < n := by omega
      simp only [spec_paTable.l1, Option.bind_some]
      rw [if_pos (by omega), if_pos (by omega), if_pos (by omega), rd_T105_nat l i hi, ea, eb, rdL_tabB n _ a ha, if_pos (by omega), if_pos (by rw [tabB_length]; omega), if_pos (by omega), if_pos (by simp; omega), if_pos (by rw [tabB_length]; omega)]
      simp only [Int.toNat_natCast]
      rw [tabB_set n _ a b true ha, rdL_tabB n _ b hb, if_pos (by simp; omega), tabB_set n _ b a true hb, nat_succ i (by omega), adj_take l i hi, ea, eb]
      simp only [Int.toNat_natCast]
  unfold spec_paTable.f
  have h0 := up_loop (P := fun i => Ev (fun k => spec_paTable.l0 k (List.replicate i (List.replicate n false)) (i : Int) (n : Int) l) (tabB n (adj l))) (n := n) (by
      refine Ev.step (fun k => ?_) h1
      simp only [spec_paTable.l0]
      rw [if_neg (by omega), tabB_none]
      rfl) (by
      intro i hi h
      refine Ev.step (fun k => ?_) h
      simp only [spec_paTable.l0]
      rw [if_pos (by omega), if_pos (by omega), if_pos (by omega), if_pos (by simp; omega), nat_succ i (by omega), List.replicate_succ']
      rfl) 0 (Nat.zero_le _)
  exact h0

theorem spec_l1Own.ok (l : List Int) (h : l.length < 17592186044416) : spec_l1Own.f l = some l := by
  unfold spec_l1Own.f
  simp only [Option.bind_some, List.nil_append]
  rw [if_pos (by simpa using h)]

def ints (bs : List Nat) : List Int := bs.map fun (b : Nat) => (b : Int)
theorem ints_length (bs : List Nat) : (ints bs).length = bs.length := by simp [ints]
theorem rd_ints (bs : List Nat) (i : Nat) (h : i < bs.length) : rd (ints bs) (i : Int) = ((bs[i] : Nat) : Int) := by simp [rd, ints, List.getD, h]
/-- x is a friend of all of some people. -/
def know (F : Nat → Nat → Bool) (bs : List Nat) (x : Nat) : Bool := bs.all (F x)
theorem spec_grJoins.ok (n : Nat) (_hn : n ≤ 12) (F : Nat → Nat → Bool) (bs : List Nat) (a : Nat) (ha : a < n) (hb : ∀ b ∈ bs, b < n) (hl : bs.length ≤ 1048576) : Ev (fun k => spec_grJoins.f k (tabB n F) (ints bs) (a : Int)) (know F bs a) := by
  unfold spec_grJoins.f know
  rw [ints_length]
  refine up_loop (P := fun i => Ev (fun k => spec_grJoins.l0 k (tabB n F) (a : Int) (ints bs) (bs.length : Int) (i : Int)) ((bs.drop i).all (F a))) (n := bs.length) ?_ ?_ 0 (Nat.zero_le _)
  · refine Ev.step (f := fun _ => some true) (fun k => ?_) (by rw [List.drop_length]; exact Ev.now _)
    simp only [spec_grJoins.l0]
    rw [if_neg (by omega)]
  · intro i hi h
    have e : (bs.drop i).all (F a) = (F a bs[i] && (bs.drop (i + 1)).all (F a)) := by rw [List.drop_eq_getElem_cons hi]; rfl
    have hbi := hb bs[i] (List.getElem_mem hi)
    rw [e]
    cases hF : F a bs[i] with
    | false =>
      rw [Bool.false_and]
      refine Ev.step (f := fun _ => some false) (fun k => ?_) (Ev.now _)
      simp only [spec_grJoins.l0]
      rw [if_pos (by omega), if_pos (by omega), if_pos (by rw [ints_length]; omega), if_pos (by omega), if_pos (by rw [tabB_length]; omega), rd_ints bs i hi, if_pos (by omega), rdL_tabB n F a ha, if_pos (by simp; omega), row_get n _ _ hbi, hF, if_neg (by simp)]
    | true =>
      rw [Bool.true_and]
      refine Ev.step (fun k => ?_) h
      simp only [spec_grJoins.l0]
      rw [if_pos (by omega), if_pos (by omega), if_pos (by rw [ints_length]; omega), if_pos (by omega), if_pos (by rw [tabB_length]; omega), rd_ints bs i hi, if_pos (by omega), rdL_tabB n F a ha, if_pos (by simp; omega), row_get n _ _ hbi, hF, if_pos rfl, nat_succ i (by omega)]

/-- The groups that go on with one, of the people left, by depth. -/
def grpL (F : Nat → Nat → Bool) : List Nat → List Nat → List (List Nat)
  | _, [] => []
  | bs, x :: c => (bs ++ [x]) :: (grpL F (bs ++ [x]) (c.filter (F x)) ++ grpL F bs c)
termination_by _ c => c.length
decreasing_by
  · simp only [List.length_cons, List.length_unattach]
    refine Nat.lt_succ_of_le (Nat.le_trans (List.length_filter_le _ _) ?_)
    rw [List.length_attach]
    exact Nat.le_refl _
  · simp
theorem grpL_nil (F : Nat → Nat → Bool) (bs : List Nat) : grpL F bs [] = [] := by rw [grpL]
theorem grpL_cons (F : Nat → Nat → Bool) (bs : List Nat) (x : Nat) (c : List Nat) : grpL F bs (x :: c) = (bs ++ [x]) :: (grpL F (bs ++ [x]) (c.filter (F x)) ++ grpL F bs c) := by rw [grpL]
theorem grpL_len (F : Nat → Nat → Bool) : ∀ (m : Nat) (bs c : List Nat), c.length ≤ m → (grpL F bs c).length + 1 ≤ 2 ^ c.length := by
  intro m
  induction m with
  | zero =>
    intro bs c h
    obtain rfl := List.length_eq_zero_iff.1 (Nat.le_zero.1 h)
    rw [grpL_nil]; simp
  | succ m ih =>
    intro bs c h
    cases c with
    | nil => rw [grpL_nil]; simp
    | cons x c =>
      simp only [List.length_cons] at h
      have hf := List.length_filter_le (F x) c
      have h1 := ih (bs ++ [x]) (c.filter (F x)) (by omega)
      have h2 := ih bs c (by omega)
      have h3 : 2 ^ (c.filter (F x)).length ≤ 2 ^ c.length := Nat.pow_le_pow_right (by omega) hf
      rw [grpL_cons]
      simp only [List.length_cons, List.length_append, Nat.pow_succ]
      omega
theorem grpL_mem (F : Nat → Nat → Bool) : ∀ (m : Nat) (bs c : List Nat), c.length ≤ m → ∀ p ∈ grpL F bs c, p.length ≤ bs.length + c.length ∧ ∀ b ∈ p, b ∈ bs ∨ b ∈ c := by
  intro m
  induction m with
  | zero =>
    intro bs c h p hp
    obtain rfl := List.length_eq_zero_iff.1 (Nat.le_zero.1 h)
    rw [grpL_nil] at hp; cases hp
  | succ m ih =>
    intro bs c h p hp
    cases c with
    | nil => rw [grpL_nil] at hp; cases hp
    | cons x c =>
      simp only [List.length_cons] at h
      have hf := List.length_filter_le (F x) c
      rw [grpL_cons] at hp
      rcases List.mem_cons.1 hp with rfl | hp
      · refine ⟨by simp, fun b hb => ?_⟩
        rcases List.mem_append.1 hb with hb | hb
        · exact .inl hb
        · obtain rfl := List.mem_singleton.1 hb
          exact .inr List.mem_cons_self
      · rcases List.mem_append.1 hp with hp | hp
        · obtain ⟨h1, h2⟩ := ih (bs ++ [x]) (c.filter (F x)) (by omega) p hp
          refine ⟨by simp at h1 ⊢; omega, fun b hb => ?_⟩
          rcases h2 b hb with h3 | h3
          · rcases List.mem_append.1 h3 with h4 | h4
            · exact .inl h4
            · obtain rfl := List.mem_singleton.1 h4
              exact .inr List.mem_cons_self
          · exact .inr (List.mem_cons_of_mem _ (List.mem_filter.1 h3).1)
        · obtain ⟨h1, h2⟩ := ih bs c (by omega) p hp
          refine ⟨by simp; omega, fun b hb => ?_⟩
          rcases h2 b hb with h3 | h3
          · exact .inl h3
          · exact .inr (List.mem_cons_of_mem _ h3)
/-- Nobody is a friend of all of a group. -/
def grpF (n : Nat) (F : Nat → Nat → Bool) (bs : List Nat) : Bool := (List.range n).all fun a => !know F bs a
/-- The full groups. -/
def grpA (n : Nat) (F : Nat → Nat → Bool) : List (List Nat) := ([] :: grpL F [] (List.range n)).filter (grpF n F)
theorem grpA_len (n : Nat) (hn : n ≤ 12) (F : Nat → Nat → Bool) : (grpA n F).length ≤ 4096 := by
  have h := grpL_len F n [] (List.range n) (by simp)
  have h1 := List.length_filter_le (grpF n F) ([] :: grpL F [] (List.range n))
  have h2 : 2 ^ (List.range n).length ≤ 2 ^ 12 := Nat.pow_le_pow_right (by omega) (by simpa using hn)
  unfold grpA
  simp only [List.length_cons] at h1
  omega
theorem grpA_mem (n : Nat) (F : Nat → Nat → Bool) (p : List Nat) (hp : p ∈ grpA n F) : p.length ≤ n := by
  rcases List.mem_cons.1 (List.mem_filter.1 hp).1 with rfl | h
  · simp
  · have := (grpL_mem F n [] (List.range n) (by simp) p h).1
    simpa using this
-- grpL
theorem spec_grLook.list (n : Nat) (hn : n ≤ 12) (F : Nat → Nat → Bool) (hF : ∀ a b, F a b = F b a) : ∀ (m : Nat) (bs : List Nat) (fr : Nat) (xs : List (List Int)), n - fr = m → fr ≤ n → bs.length ≤ fr → (∀ b ∈ bs, b < n) → xs.length + 2 ^ (n - fr) ≤ 4096 →
    Ev (fun k => spec_grLook.f k (tabB n F) (ints bs) (fr : Int) xs) (xs ++ (bs :: grpL F bs ((List.range' fr (n - fr)).filter (know F bs))).map ints) := by
  intro m
  induction m using Nat.strongRecOn with
  | ind m ih =>
    intro bs fr xs hm hfn hbl hb hx
    have loop := up_loop (P := fun i => fr ≤ i → ∀ acc : List (List Int), acc.length + 2 ^ (n - i) ≤ 4097 → Ev (fun k => spec_grLook.l0 k (tabB n F) (ints bs) (i : Int) acc) (acc ++ (grpL F bs ((List.range' i (n - i)).filter (know F bs))).map ints)) (n := n) (by
        intro _ acc _
        rw [Nat.sub_self, List.range'_zero, List.filter_nil, grpL_nil, List.map_nil, List.append_nil]
        refine Ev.step (f := fun _ => some acc) (fun k => ?_) (Ev.now _)
        rw [spec_grLook.l0, if_neg (by rw [tabB_length]; omega)]) (by
        intro i hi h hfi acc hacc
        have hk := spec_grJoins.ok n hn F bs i hi hb (by omega)
        have h2 : 2 ^ (n - i) = 2 * 2 ^ (n - (i + 1)) := by rw [show n - i = (n - (i + 1)) + 1 from by omega, Nat.pow_succ, Nat.mul_comm]
        have hpos := Nat.two_pow_pos (n - (i + 1))
        rw [range'_cons i n hi]
        have hl0 : ∀ k, spec_grLook.l0 (k + 1) (tabB n F) (ints bs) (i : Int) acc = (spec_grJoins.f k (tabB n F) (ints bs) (i : Int)).bind fun j => if j = true then ((spec_l1Own.f (ints bs)).bind fun q => if q.length < 17592186044416 then ((spec_grLook.f k (tabB n F) (q ++ [(i : Int)]) (wrap64 ((i : Int) + 1)) acc).bind fun ys => spec_grLook.l0 k (tabB n F) (ints bs) (wrap64 ((i : Int) + 1)) ys) else none) else spec_grLook.l0 k (tabB n F) (ints bs) (wrap64 ((i : Int) + 1)) acc := by
          intro k
          rw [spec_grLook.l0, if_pos (by rw [tabB_length]; omega)]
        cases hki : know F bs i with
        | false =>
          rw [List.filter_cons_of_neg (by simp [hki])]
          refine Ev.step hl0 (Ev.bind hk ?_)
          rw [hki]
          refine Ev.ite_neg (by simp) ?_
          rw [nat_succ i (by omega)]
          exact h (by omega) acc (by omega)
        | true =>
          have a1 := ih (n - (i + 1)) (by omega) (bs ++ [i]) (i + 1) acc rfl (by omega) (by simp; omega) (by
            intro b hbm
            rcases List.mem_append.1 hbm with h | h
            · exact hb b h
            · obtain rfl := List.mem_singleton.1 h
              exact hi) (by omega)
          have e : (List.range' (i + 1) (n - (i + 1))).filter (know F (bs ++ [i])) = ((List.range' (i + 1) (n - (i + 1))).filter (know F bs)).filter (F i) := by
            rw [List.filter_filter]
            apply List.filter_congr
            intro x _
            simp only [know, List.all_append, List.all_cons, List.all_nil, Bool.and_true]
            rw [hF x i, Bool.and_comm]
          rw [e] at a1
          generalize hc : (List.range' (i + 1) (n - (i + 1))).filter (know F bs) = c at a1 h
          have hcl : c.length ≤ n - (i + 1) := by
            rw [← hc]
            exact Nat.le_trans (List.length_filter_le _ _) (by simp)
          have hfl := List.length_filter_le (F i) c
          have hgl := grpL_len F n (bs ++ [i]) (c.filter (F i)) (by omega)
          have hgp : 2 ^ (c.filter (F i)).length ≤ 2 ^ (n - (i + 1)) := Nat.pow_le_pow_right (by omega) (by omega)
          rw [List.filter_cons_of_pos hki, hc, grpL_cons]
          have o1 := h (by omega) (acc ++ ((bs ++ [i]) :: grpL F (bs ++ [i]) (c.filter (F i))).map ints) (by
            simp only [List.length_append, List.length_map, List.length_cons]; omega)
          refine Ev.step hl0 (Ev.bind hk ?_)
          rw [hki, spec_l1Own.ok _ (by rw [ints_length]; omega)]
          refine Ev.ite_pos rfl ?_
          simp only [Option.bind_some]
          refine Ev.ite_pos (by rw [ints_length]; omega) ?_
          have e : ints bs ++ [(i : Int)] = ints (bs ++ [i]) := by simp [ints]
          rw [e, nat_succ i (by omega)]
          refine Ev.bind a1 ?_
          rw [show acc ++ ((bs ++ [i]) :: (grpL F (bs ++ [i]) (c.filter (F i)) ++ grpL F bs c)).map ints = (acc ++ ((bs ++ [i]) :: grpL F (bs ++ [i]) (c.filter (F i))).map ints) ++ (grpL F bs c).map ints from by simp]
          exact o1)
    have h2 := loop fr hfn (Nat.le_refl _) (xs ++ [ints bs]) (by rw [List.length_append, List.length_singleton]; omega)
    rw [List.map_cons, show xs ++ ints bs :: (grpL F bs ((List.range' fr (n - fr)).filter (know F bs))).map ints = (xs ++ [ints bs]) ++ (grpL F bs ((List.range' fr (n - fr)).filter (know F bs))).map ints from by simp]
    refine Ev.step (fun k => ?_) h2
    rw [spec_grLook.f, spec_l1Own.ok _ (by rw [ints_length]; omega), Option.bind_some, if_pos (by have := Nat.two_pow_pos (n - fr); omega)]
theorem spec_grGroups.list (n : Nat) (hn : n ≤ 12) (F : Nat → Nat → Bool) (hF : ∀ a b, F a b = F b a) : Ev (fun k => spec_grGroups.f k (tabB n F)) (([] :: grpL F [] (List.range n)).map ints) := by
  have hp : 2 ^ (n - 0) ≤ 2 ^ 12 := Nat.pow_le_pow_right (by omega) (by omega)
  have h := spec_grLook.list n hn F hF (n - 0) [] 0 [] rfl (by omega) (by simp) (by simp) (by simp only [List.length_nil]; omega)
  have e : (List.range' 0 (n - 0)).filter (know F []) = List.range n := by
    rw [Nat.sub_zero, List.range_eq_range', List.filter_eq_self]
    intro a _; rfl
  rw [e, List.nil_append] at h
  exact h
theorem two_pow_step (n i : Nat) (h : i < n) : 2 ^ (n - i) = 2 * 2 ^ (n - (i + 1)) := by
  rw [show n - i = (n - (i + 1)) + 1 from by omega, Nat.pow_succ, Nat.mul_comm]
theorem spec_grLook.ok (n : Nat) (hn : n ≤ 12) (F : Nat → Nat → Bool) (hF : ∀ a b, F a b = F b a) : ∀ (m : Nat) (bs : List Nat) (fr : Nat) (xs : List (List Int)), n - fr = m → fr ≤ n → bs.length ≤ fr → (∀ b ∈ bs, b < n) → xs.length + 2 ^ (n - fr) ≤ 4096 →
    ∃ out, Ev (fun k => spec_grLook.f k (tabB n F) (ints bs) (fr : Int) xs) (xs ++ out) ∧ out.length ≤ 2 ^ (n - fr) ∧ (∀ p ∈ out, bs.length ≤ p.length) ∧ ∀ d, (∃ p ∈ out, p.length = bs.length + d) ↔ cl F d ((List.range' fr (n - fr)).filter (know F bs)) = true := by
  intro m
  induction m using Nat.strongRecOn with
  | ind m ih =>
    intro bs fr xs hm hfn hbl hb hx
    have loop := up_loop (P := fun i => fr ≤ i → ∀ acc : List (List Int), acc.length + 2 ^ (n - i) ≤ 4097 → ∃ out, Ev (fun k => spec_grLook.l0 k (tabB n F) (ints bs) (i : Int) acc) (acc ++ out) ∧ out.length + 1 ≤ 2 ^ (n - i) ∧ (∀ p ∈ out, bs.length + 1 ≤ p.length) ∧ ∀ d, (∃ p ∈ out, p.length = bs.length + (d + 1)) ↔ clGo F (cl F d) ((List.range' i (n - i)).filter (know F bs)) = true) (n := n) (by
        intro _ acc _
        refine ⟨[], ?_, by simp, by simp, by simp [clGo]⟩
        rw [List.append_nil]
        refine Ev.step (f := fun _ => some acc) (fun k => ?_) (Ev.now _)
        rw [spec_grLook.l0, if_neg (by rw [tabB_length]; omega)]) (by
        intro i hi h hfi acc hacc
        have hk := spec_grJoins.ok n hn F bs i hi hb (by omega)
        have h2 := two_pow_step n i hi
        have hpos := Nat.two_pow_pos (n - (i + 1))
        rw [range'_cons i n hi]
        have hl0 : ∀ k, spec_grLook.l0 (k + 1) (tabB n F) (ints bs) (i : Int) acc = (spec_grJoins.f k (tabB n F) (ints bs) (i : Int)).bind fun j => if j = true then ((spec_l1Own.f (ints bs)).bind fun q => if q.length < 17592186044416 then ((spec_grLook.f k (tabB n F) (q ++ [(i : Int)]) (wrap64 ((i : Int) + 1)) acc).bind fun ys => spec_grLook.l0 k (tabB n F) (ints bs) (wrap64 ((i : Int) + 1)) ys) else none) else spec_grLook.l0 k (tabB n F) (ints bs) (wrap64 ((i : Int) + 1)) acc := by
          intro k
          rw [spec_grLook.l0, if_pos (by rw [tabB_length]; omega)]
        cases hki : know F bs i with
        | false =>
          obtain ⟨out, o1, o2, o3, o4⟩ := h (by omega) acc (by omega)
          refine ⟨out, ?_, by omega, o3, ?_⟩
          · refine Ev.step hl0 (Ev.bind hk ?_)
            rw [hki]
            refine Ev.ite_neg (by simp) ?_
            rw [nat_succ i (by omega)]
            exact o1
          · rw [List.filter_cons_of_neg (by simp [hki])]
            exact o4
        | true =>
          obtain ⟨oa, a1, a2, a4, a3⟩ := ih (n - (i + 1)) (by omega) (bs ++ [i]) (i + 1) acc rfl (by omega) (by simp; omega) (by
            intro b hbm
            rcases List.mem_append.1 hbm with h | h
            · exact hb b h
            · obtain rfl := List.mem_singleton.1 h
              exact hi) (by omega)
          obtain ⟨out, o1, o2, o3, o4⟩ := h (by omega) (acc ++ oa) (by rw [List.length_append]; omega)
          have hlen : (bs ++ [i]).length = bs.length + 1 := by simp
          have e : (List.range' (i + 1) (n - (i + 1))).filter (know F (bs ++ [i])) = ((List.range' (i + 1) (n - (i + 1))).filter (know F bs)).filter (F i) := by
            rw [List.filter_filter]
            apply List.filter_congr
            intro x _
            simp only [know, List.all_append, List.all_cons, List.all_nil, Bool.and_true]
            rw [hF x i, Bool.and_comm]
          rw [hlen] at a4
          rw [hlen, e] at a3
          refine ⟨oa ++ out, ?_, by rw [List.length_append]; omega, ?_, ?_⟩
          · refine Ev.step hl0 (Ev.bind hk ?_)
            rw [hki, spec_l1Own.ok _ (by rw [ints_length]; omega)]
            refine Ev.ite_pos rfl ?_
            simp only [Option.bind_some]
            refine Ev.ite_pos (by rw [ints_length]; omega) ?_
            have e : ints bs ++ [(i : Int)] = ints (bs ++ [i]) := by simp [ints]
            rw [e, nat_succ i (by omega)]
            refine Ev.bind a1 ?_
            rw [← List.append_assoc]
            exact o1
          · intro p hp
            rcases List.mem_append.1 hp with hp | hp
            · exact a4 p hp
            · exact o3 p hp
          · intro d
            rw [List.filter_cons_of_pos hki]
            simp only [clGo, Bool.or_eq_true]
            rw [← o4 d, ← a3 d]
            constructor
            · rintro ⟨p, hp, hl⟩
              rcases List.mem_append.1 hp with hp | hp
              · exact .inl ⟨p, hp, by omega⟩
              · exact .inr ⟨p, hp, hl⟩
            · rintro (⟨p, hp, hl⟩ | ⟨p, hp, hl⟩)
              · exact ⟨p, List.mem_append_left _ hp, by omega⟩
              · exact ⟨p, List.mem_append_right _ hp, hl⟩)
    obtain ⟨out, o1, o2, o3, o4⟩ := loop fr hfn (Nat.le_refl _) (xs ++ [ints bs]) (by rw [List.length_append, List.length_singleton]; omega)
    refine ⟨[ints bs] ++ out, ?_, by rw [List.length_append, List.length_singleton]; omega, ?_, ?_⟩
    · rw [← List.append_assoc]
      refine Ev.step (fun k => ?_) o1
      rw [spec_grLook.f, spec_l1Own.ok _ (by rw [ints_length]; omega), Option.bind_some, if_pos (by omega)]
    · intro p hp
      rcases List.mem_append.1 hp with hp | hp
      · rw [List.mem_singleton.1 hp, ints_length]; omega
      · have := o3 p hp
        omega
    · intro d
      cases d with
      | zero =>
        refine ⟨fun _ => rfl, fun _ => ⟨ints bs, by simp, by rw [ints_length]; rfl⟩⟩
      | succ d =>
        rw [show cl F (d + 1) ((List.range' fr (n - fr)).filter (know F bs)) = clGo F (cl F d) ((List.range' fr (n - fr)).filter (know F bs)) from rfl, ← o4 d]
        constructor
        · rintro ⟨p, hp, hl⟩
          rcases List.mem_append.1 hp with hp | hp
          · rw [List.mem_singleton.1 hp, ints_length] at hl; omega
          · exact ⟨p, hp, hl⟩
        · rintro ⟨p, hp, hl⟩
          exact ⟨p, List.mem_append_right _ hp, hl⟩
theorem spec_grGroups.ok (n : Nat) (hn : n ≤ 12) (F : Nat → Nat → Bool) (hF : ∀ a b, F a b = F b a) : ∃ out, Ev (fun k => spec_grGroups.f k (tabB n F)) out ∧ out.length ≤ 4096 ∧ ∀ d, (∃ p ∈ out, p.length = d) ↔ cl F d (List.range n) = true := by
  have hp : 2 ^ (n - 0) ≤ 2 ^ 12 := Nat.pow_le_pow_right (by omega) (by omega)
  obtain ⟨out, h1, h2, _, h3⟩ := spec_grLook.ok n hn F hF (n - 0) [] 0 [] rfl (by omega) (by simp) (by simp) (by simpa using hp)
  refine ⟨out, ?_, Nat.le_trans h2 hp, fun d => ?_⟩
  · rw [List.nil_append] at h1
    exact h1
  · have := h3 d
    have e : (List.range' 0 (n - 0)).filter (know F []) = List.range n := by
      rw [Nat.sub_zero, List.range_eq_range', List.filter_eq_self]
      intro a _; rfl
    rw [e] at this
    simpa using this

theorem spec_l1Has.ok (bs : List Nat) (a : Nat) (hl : bs.length ≤ 1000) : Ev (fun k => spec_l1Has.f k (ints bs) (a : Int)) (bs.any fun b => b == a) := by
  unfold spec_l1Has.f
  rw [ints_length]
  refine up_loop (P := fun i => Ev (fun k => spec_l1Has.l0 k (a : Int) (ints bs) (bs.length : Int) (i : Int)) ((bs.drop i).any fun b => b == a)) (n := bs.length) ?_ ?_ 0 (Nat.zero_le _)
  · refine Ev.step (f := fun _ => some false) (fun k => ?_) (by rw [List.drop_length]; exact Ev.now _)
    simp only [spec_l1Has.l0]
    rw [if_neg (by omega)]
  · intro i hi h
    rw [List.drop_eq_getElem_cons hi, List.any_cons]
    by_cases e : bs[i] = a
    · rw [show (bs[i] == a) = true from by simpa using e, Bool.true_or]
      refine Ev.step (f := fun _ => some true) (fun k => ?_) (Ev.now _)
      simp only [spec_l1Has.l0]
      rw [if_pos (by omega), if_pos (by omega), if_pos (by rw [ints_length]; omega), rd_ints bs i hi, if_pos (by omega)]
    · rw [show (bs[i] == a) = false from by simpa using e, Bool.false_or]
      refine Ev.step (fun k => ?_) h
      simp only [spec_l1Has.l0]
      rw [if_pos (by omega), if_pos (by omega), if_pos (by rw [ints_length]; omega), rd_ints bs i hi, if_neg (by omega), nat_succ i (by omega)]

-- grpL
theorem spec_grFull.ok (n : Nat) (hn : n ≤ 12) (F : Nat → Nat → Bool) (hI : ∀ a, F a a = false) (bs : List Nat) (hb : ∀ b ∈ bs, b < n) (hl : bs.length ≤ 1000) : Ev (fun k => spec_grFull.f k (tabB n F) (ints bs)) (grpF n F bs) := by
  unfold spec_grFull.f grpF
  rw [tabB_length, List.range_eq_range']
  refine up_loop (P := fun i => Ev (fun k => spec_grFull.l0 k (tabB n F) (ints bs) (n : Int) (i : Int)) ((List.range' i (n - i)).all fun a => !know F bs a)) (n := n) ?_ ?_ 0 (Nat.zero_le _)
  · refine Ev.step (f := fun _ => some true) (fun k => ?_) (by rw [Nat.sub_self]; exact Ev.now _)
    simp only [spec_grFull.l0]
    rw [if_neg (by omega)]
  · intro i hi h
    rw [range'_cons i n hi, List.all_cons]
    have hs : ∀ k, spec_grFull.l0 (k + 1) (tabB n F) (ints bs) (n : Int) (i : Int) = ((spec_l1Has.f k (ints bs) (i : Int)).bind fun t => if t = true then spec_grFull.l0 k (tabB n F) (ints bs) (n : Int) ((i + 1 : Nat) : Int) else ((spec_grJoins.f k (tabB n F) (ints bs) (i : Int)).bind fun u => if u = true then some false else spec_grFull.l0 k (tabB n F) (ints bs) (n : Int) ((i + 1 : Nat) : Int))) := by
      intro k
      rw [spec_grFull.l0, if_pos (by omega), nat_succ i (by omega)]
    refine Ev.step hs (Ev.bind (spec_l1Has.ok bs i hl) ?_)
    cases hh : bs.any fun b => b == i with
    | true =>
      refine Ev.ite_pos rfl ?_
      have : know F bs i = false := by
        obtain ⟨b, hb1, hb2⟩ := List.any_eq_true.1 hh
        have hbi : b = i := by simpa using hb2
        subst hbi
        unfold know
        rw [List.all_eq_false]
        exact ⟨b, hb1, by rw [hI]; simp⟩
      rw [this]
      exact h
    | false =>
      refine Ev.ite_neg (by simp) (Ev.bind (spec_grJoins.ok n hn F bs i hi hb (by omega)) ?_)
      cases know F bs i with
      | true => exact Ev.ite_pos rfl (Ev.now _)
      | false => exact Ev.ite_neg (by simp) h

-- grpL
theorem spec_grFulls.ok (n : Nat) (hn : n ≤ 12) (F : Nat → Nat → Bool) (hF : ∀ a b, F a b = F b a) (hI : ∀ a, F a a = false) (l : List S105) (ht : Ev (fun k => spec_paTable.f k (n : Int) l) (tabB n F)) : Ev (fun k => spec_grFulls.f k (n : Int) l) ((grpA n F).map ints) := by
  unfold spec_grFulls.f
  refine Ev.bind ht (Ev.bind (spec_grGroups.list n hn F hF) ?_)
  have hgl := grpL_len F n [] (List.range n) (by simp)
  have hgp : 2 ^ (List.range n).length ≤ 2 ^ 12 := Nat.pow_le_pow_right (by omega) (by simpa using hn)
  have hm : ∀ p ∈ ([] :: grpL F [] (List.range n)), p.length ≤ n ∧ ∀ b ∈ p, b < n := by
    intro p hp
    rcases List.mem_cons.1 hp with rfl | hp
    · simp
    · obtain ⟨h1, h2⟩ := grpL_mem F n [] (List.range n) (by simp) p hp
      refine ⟨by simpa using h1, fun b hb => ?_⟩
      rcases h2 b hb with h3 | h3
      · cases h3
      · exact List.mem_range.1 h3
  have hlen : ([] :: grpL F [] (List.range n)).length ≤ 4096 := by simp only [List.length_cons]; omega
  unfold grpA
  generalize ([] :: grpL F [] (List.range n)) = gs at hm hlen
  rw [List.length_map]
  have loop := up_loop (P := fun i => ∀ acc : List (List Int), acc.length + (gs.length - i) ≤ 5000 → Ev (fun k => spec_grFulls.l0 k (tabB n F) acc (gs.map ints) (gs.length : Int) (i : Int)) (acc ++ ((gs.drop i).filter (grpF n F)).map ints)) (n := gs.length) (by
      intro acc _
      rw [List.drop_length, List.filter_nil, List.map_nil, List.append_nil]
      refine Ev.step (f := fun _ => some acc) (fun k => ?_) (Ev.now _)
      rw [spec_grFulls.l0, if_neg (by omega)]) (by
      intro i hi h acc hacc
      have hr : rd_L3 (gs.map ints) (i : Int) = ints gs[i] := by simp [rd_L3, List.getD, hi]
      have hp := hm gs[i] (List.getElem_mem hi)
      have h1 := spec_grFull.ok n hn F hI gs[i] hp.2 (by omega)
      rw [List.drop_eq_getElem_cons hi]
      refine Ev.step (fun k => ?_) (Ev.bind h1 (f := fun k t => if t = true then (if acc.length < 5864062014805 then spec_grFulls.l0 k (tabB n F) (acc ++ [ints gs[i]]) (gs.map ints) (gs.length : Int) ((i + 1 : Nat) : Int) else none) else spec_grFulls.l0 k (tabB n F) acc (gs.map ints) (gs.length : Int) ((i + 1 : Nat) : Int)) ?_)
      · rw [spec_grFulls.l0, if_pos (by omega), if_pos (by omega), if_pos (by rw [List.length_map]; omega), hr, nat_succ i (by omega)]
      · cases hf : grpF n F gs[i] with
        | true =>
          refine Ev.ite_pos rfl (Ev.ite_pos (by omega) ?_)
          rw [List.filter_cons_of_pos hf, List.map_cons, show acc ++ ints gs[i] :: ((gs.drop (i + 1)).filter (grpF n F)).map ints = (acc ++ [ints gs[i]]) ++ ((gs.drop (i + 1)).filter (grpF n F)).map ints from by simp]
          exact h _ (by rw [List.length_append, List.length_singleton]; omega)
        | false =>
          refine Ev.ite_neg (by simp) ?_
          rw [List.filter_cons_of_neg (by simp [hf])]
          exact h _ (by omega))
  have := loop 0 (Nat.zero_le _) [] (by simp only [List.length_nil]; omega)
  rw [List.drop_zero, List.nil_append] at this
  exact this

/-- The pairs of person a with those from i on. -/
def inn (n : Nat) (F : Nat → Nat → Bool) (a i : Nat) : List S105 := ((List.range' i (n - i)).filter (F a)).map fun (b : Nat) => ⟨(a : Int), (b : Int)⟩
def outr (n : Nat) (F : Nat → Nat → Bool) (a : Nat) : List S105 := (List.range' a (n - a)).flatMap fun x => inn n F x (x + 1)
theorem spec_paOf.ok (n : Nat) (hn : n ≤ 12) (F : Nat → Nat → Bool) : Ev (fun k => spec_paOf.f k (tabB n F)) ((n : Int), outr n F 0) := by
  have key := up_loop (P := fun a => ∀ acc : List S105, acc.length ≤ 12 * a → Ev (fun k => spec_paOf.l0 k (tabB n F) (n : Int) (a : Int) (n : Int) acc) ((n : Int), acc ++ outr n F a)) (n := n) (by
      intro acc _
      refine Ev.step (f := fun _ => some ((n : Int), acc)) (fun k => ?_) (by simpa [outr] using Ev.now ((n : Int), acc))
      simp only [spec_paOf.l0]
      rw [if_neg (by omega)]) (by
      intro a ha h acc hacc
      have inner := up_loop (P := fun i => a < i → ∀ acc : List S105, acc.length ≤ 12 * a + i → Ev (fun k => spec_paOf.l1 k (tabB n F) (a : Int) (i : Int) (n : Int) (a : Int) (n : Int) acc) ((n : Int), acc ++ (inn n F a i ++ outr n F (a + 1)))) (n := n) (by
          intro _ acc hacc
          have h9 := h acc (by omega)
          have e9 : inn n F a n = [] := by simp [inn]
          rw [e9, List.nil_append]
          refine Ev.step (fun k => ?_) h9
          simp only [spec_paOf.l1]
          rw [if_neg (by rw [tabB_length]; omega), nat_succ a (by omega)]) (by
          intro i hi h hai acc hacc
          have e0 : inn n F a i = (if F a i = true then [(⟨(a : Int), (i : Int)⟩ : S105)] else []) ++ inn n F a (i + 1) := by
            unfold inn
            rw [range'_cons i n hi]
            cases hF : F a i with
            | true => rw [List.filter_cons_of_pos hF]; simp
            | false => rw [List.filter_cons_of_neg (by simp [hF])]; simp
          rw [e0]
          cases hF : F a i with
          | true =>
            have h2 := h (by omega) (acc ++ [(⟨(a : Int), (i : Int)⟩ : S105)]) (by simp; omega)
            refine Ev.step (fun k => ?_) (by simpa using h2)
            simp only [spec_paOf.l1]
            rw [if_pos (by rw [tabB_length]; omega), if_pos (by omega), if_pos (by rw [tabB_length]; omega), if_pos (by omega), rdL_tabB n F a ha, if_pos (by simp; omega), row_get n _ i hi, hF, if_pos rfl, if_pos (by omega), nat_succ i (by omega)]
            rfl
          | false =>
            have h2 := h (by omega) acc (by omega)
            refine Ev.step (fun k => ?_) (by simpa using h2)
            simp only [spec_paOf.l1]
            rw [if_pos (by rw [tabB_length]; omega), if_pos (by omega), if_pos (by rw [tabB_length]; omega), if_pos (by omega), rdL_tabB n F a ha, if_pos (by simp; omega), row_get n _ i hi, hF, if_neg (by simp), nat_succ i (by omega)]
            rfl)
      have h3 := inner (a + 1) (by omega) (by omega) acc (by omega)
      have e1 : outr n F a = inn n F a (a + 1) ++ outr n F (a + 1) := by
        unfold outr
        rw [range'_cons a n ha, List.flatMap_cons]
      rw [e1]
      refine Ev.step (fun k => ?_) h3
      simp only [spec_paOf.l0]
      rw [if_pos (by omega), nat_succ a (by omega)])
  have h0 := key 0 (Nat.zero_le _) [] (by simp)
  rw [List.nil_append] at h0
  unfold spec_paOf.f
  rw [tabB_length]
  exact h0
theorem outr_mem (n : Nat) (F : Nat → Nat → Bool) (x : S105) : x ∈ outr n F 0 ↔ ∃ a b : Nat, x = ⟨(a : Int), (b : Int)⟩ ∧ a < b ∧ b < n ∧ F a b = true := by
  unfold outr inn
  simp only [List.mem_flatMap, List.mem_range'_1, List.mem_map, List.mem_filter]
  constructor
  · rintro ⟨a, ⟨_, h1⟩, b, ⟨⟨h2, h3⟩, h4⟩, rfl⟩
    exact ⟨a, b, rfl, by omega, by omega, h4⟩
  · rintro ⟨a, b, rfl, h1, h2, h3⟩
    exact ⟨a, ⟨by omega, by omega⟩, b, ⟨⟨by omega, by omega⟩, h3⟩, rfl⟩
theorem outr_pin (n : Nat) (F : Nat → Nat → Bool) : pin n (outr n F 0) := by
  intro x hx
  obtain ⟨a, b, rfl, h1, h2, _⟩ := (outr_mem n F x).1 hx
  simp only
  omega
theorem outr_adj (n : Nat) (F : Nat → Nat → Bool) (a b : Nat) (h : a < b) (hb : b < n) : adj (outr n F 0) a b = F a b := by
  unfold adj
  rw [Bool.eq_iff_iff, List.any_eq_true]
  constructor
  · rintro ⟨x, hx, hd⟩
    obtain ⟨u, v, rfl, h1, h2, h3⟩ := (outr_mem n F x).1 hx
    simp only [Int.toNat_natCast, decide_eq_true_eq] at hd
    rcases hd with ⟨rfl, rfl⟩ | ⟨rfl, rfl⟩
    · exact h3
    · omega
  · intro hF
    exact ⟨⟨(a : Int), (b : Int)⟩, (outr_mem n F _).2 ⟨a, b, rfl, h, hb, hF⟩, by simp⟩
theorem outr_len (n : Nat) (hn : n ≤ 12) (F : Nat → Nat → Bool) : (outr n F 0).length ≤ 144 := by
  unfold outr
  rw [List.length_flatMap]
  have h1 : ∀ x, (inn n F x (x + 1)).length ≤ 12 := by
    intro x
    unfold inn
    rw [List.length_map]
    refine Nat.le_trans (List.length_filter_le _ _) ?_
    rw [List.length_range']
    omega
  have h2 : ∀ l : List Nat, (l.map fun x => (inn n F x (x + 1)).length).sum ≤ 12 * l.length := by
    intro l
    induction l with
    | nil => simp
    | cons a l ih =>
      simp only [List.map_cons, List.sum_cons, List.length_cons]
      have := h1 a
      omega
  have := h2 (List.range' 0 (n - 0))
  rw [List.length_range'] at this
  omega

theorem tabB_congr (n : Nat) (F G : Nat → Nat → Bool) (h : ∀ x y, x < n → y < n → F x y = G x y) : tabB n F = tabB n G := by
  unfold tabB
  apply List.map_congr_left
  intro a ha
  apply List.map_congr_left
  intro b hb
  exact h a b (List.mem_range.1 ha) (List.mem_range.1 hb)
/-- The entries ahead of a place are turned. -/
def tog (F : Nat → Nat → Bool) (a i : Nat) : Nat → Nat → Bool := fun x y => if x < a ∨ x = a ∧ y < i then !F x y else F x y
def neg (F : Nat → Nat → Bool) : Nat → Nat → Bool := fun x y => !F x y
theorem tog_upd (F : Nat → Nat → Bool) (a i : Nat) : upd (tog F a i) a i (!F a i) = tog F a (i + 1) := by
  funext x y
  unfold upd tog
  by_cases h : x = a ∧ y = i
  · rw [if_pos h, if_pos (by omega), h.1, h.2]
  · rw [if_neg h]
    by_cases h2 : x < a ∨ x = a ∧ y < i
    · rw [if_pos h2, if_pos (by omega)]
    · rw [if_neg h2, if_neg (by omega)]
theorem spec_paOther.ok (n : Nat) (hn : n ≤ 12) (l : List S105) (hl : l.length ≤ 1048576) (hp : pin n l) : Ev (fun k => spec_paOther.f k (n : Int) l) ((n : Int), outr n (neg (adj l)) 0) := by
  unfold spec_paOther.f
  refine Ev.bind (spec_paTable.ok n hn l hl hp) ?_
  generalize adj l = F
  rw [tabB_length]
  have key := up_loop (P := fun a => Ev (fun k => spec_paOther.l0 k (tabB n (tog F a 0)) (n : Int) (a : Int)) ((n : Int), outr n (neg F) 0)) (n := n) (by
      have e : tabB n (tog F n 0) = tabB n (neg F) := tabB_congr n _ _ fun x y hx _ => by
        unfold tog neg
        rw [if_pos (.inl hx)]
      rw [e]
      refine Ev.step (fun k => ?_) (Ev.bind (spec_paOf.ok n hn (neg F)) (f := fun _ bt174 => some (bt174.1, bt174.2)) (Ev.now _))
      simp only [spec_paOther.l0]
      rw [if_neg (by omega)]) (by
      intro a ha h
      have inner := up_loop (P := fun i => Ev (fun k => spec_paOther.l1 k (tabB n (tog F a i)) (a : Int) (n : Int) (a : Int) (n : Int) (i : Int)) ((n : Int), outr n (neg F) 0)) (n := n) (by
          have e : tabB n (tog F a n) = tabB n (tog F (a + 1) 0) := tabB_congr n _ _ fun x y _ hy => by
            unfold tog
            by_cases h1 : x < a ∨ x = a ∧ y < n
            · rw [if_pos h1, if_pos (by omega)]
            · rw [if_neg h1, if_neg (by omega)]
          rw [e]
          refine Ev.step (fun k => ?_) h
          simp only [spec_paOther.l1]
          rw [if_neg (by omega), nat_succ a (by omega)]) (by
          intro i hi h
          refine Ev.step (fun k => ?_) h
          have e2 : tog F a i a i = F a i := by
            unfold tog
            rw [if_neg (by omega)]
          simp only [spec_paOther.l1]
          rw [if_pos (by omega), if_pos (by omega), if_pos (by rw [tabB_length]; omega), if_pos (by omega), rdL_tabB n _ a ha, if_pos (by simp; omega), row_get n _ i hi, e2]
          simp only [Int.toNat_natCast]
          rw [tabB_set n _ a i _ ha, tog_upd, nat_succ i (by omega)]) 0 (Nat.zero_le _)
      refine Ev.step (fun k => ?_) inner
      simp only [spec_paOther.l0]
      rw [if_pos (by omega), tabB_length]
      rfl) 0 (Nat.zero_le _)
  have e : tabB n F = tabB n (tog F 0 0) := tabB_congr n _ _ fun x y _ _ => by
    unfold tog
    rw [if_neg (by omega)]
  rw [e]
  exact key

/-- What AllApart tells. -/
def grpO (n : Int) (l : List S105) : List (List Int) × Bool := if goodB n l = true then ((grpA n.toNat (oth (adj l))).map ints, true) else ([], false)
theorem grpO_facts (n : Int) (l : List S105) : (grpO n l).1.length ≤ 4096 ∧ ∀ x ∈ (grpO n l).1, x.length ≤ 12 := by
  unfold grpO
  by_cases hg : goodB n l = true
  · have hp := goodB_people hg
    rw [if_pos hg]
    refine ⟨by simpa using grpA_len n.toNat (by omega) (oth (adj l)), fun x hx => ?_⟩
    obtain ⟨p, hp1, rfl⟩ := List.mem_map.1 hx
    have := grpA_mem n.toNat (oth (adj l)) p hp1
    rw [ints_length]; omega
  · rw [if_neg hg]; simp
theorem grpO_symm (l : List S105) (a b : Nat) : oth (adj l) a b = oth (adj l) b a := by
  unfold oth
  rw [adj_symm l a b, bne_comm]
theorem grpO_irr (l : List S105) (a : Nat) : oth (adj l) a a = false := by simp [oth]
theorem goodB_pin {n : Int} {l : List S105} (h : goodB n l = true) : pin n.toNat l := by
  intro x hx
  obtain ⟨i, hi, rfl⟩ := List.getElem_of_mem hx
  have := (goodB_step h i hi).1
  have := goodB_people h
  omega
-- grpO
theorem grpO_tab (n : Nat) (l : List S105) : tabB n (adj (outr n (neg (adj l)) 0)) = tabB n (oth (adj l)) := by
  have key : ∀ x y, x < y → y < n → adj (outr n (neg (adj l)) 0) x y = oth (adj l) x y := by
    intro x y h hy
    rw [outr_adj n _ x y h hy]
    have : (y != x) = true := by simp; omega
    simp [neg, oth, this]
  refine tabB_congr n _ _ (fun x y hx hy => ?_)
  rcases Nat.lt_trichotomy x y with h | h | h
  · exact key x y h hy
  · subst h
    rw [grpO_irr]
    unfold adj
    rw [List.any_eq_false]
    intro q hq
    obtain ⟨a, b, rfl, hab, _, _⟩ := (outr_mem n _ q).1 hq
    simp only [Int.toNat_natCast, decide_eq_true_eq]
    omega
  · rw [adj_symm, grpO_symm]
    exact key y x h hx
theorem spec_AllApart.ok (n : Int) (l : List S105) : Ev (fun k => spec_AllApart.f k n l) (grpO n l) := by
  unfold spec_AllApart.f grpO
  refine Ev.bind (ev_of 70 fun k hk => spec_paGood.ok n l k hk) ?_
  by_cases hg : goodB n l = true
  · rw [if_pos hg]
    refine Ev.ite_pos hg ?_
    have hp := goodB_people hg
    have h66 := goodB_len66 hg
    have h0 := spec_paOther.ok n.toNat (by omega) l (by omega) (goodB_pin hg)
    have hl2 := outr_len n.toNat (by omega) (neg (adj l))
    have ht := spec_paTable.ok n.toNat (by omega) (outr n.toNat (neg (adj l)) 0) (by omega) (outr_pin n.toNat (neg (adj l)))
    rw [grpO_tab] at ht
    have h1 := spec_grFulls.ok n.toNat (by omega) (oth (adj l)) (grpO_symm l) (grpO_irr l) _ ht
    rw [Int.toNat_of_nonneg hp.1] at h0 h1
    exact Ev.bind h0 (Ev.bind h1 (Ev.now _))
  · rw [if_neg hg]
    exact Ev.ite_neg hg (Ev.now _)

theorem tabI_none (n : Nat) : List.replicate n (0 : Int) = tabI n (adj []) := by
  apply List.ext_getElem (by simp [tabI])
  intro i h1 h2
  have : msk (adj [] i) n = 0 := by
    apply Nat.eq_of_testBit_eq
    intro j
    rw [msk_testBit]
    simp [adj]
  simp [tabI, this]
-- pairnat
theorem impl_Party_table.ok (n : Nat) (hn : n ≤ 12) (l : List S105) (hl : l.length ≤ 1048576) (hp : pin n l) : Ev (fun k => impl_Party_table.f k (n : Int) l) (tabI n (adj l)) := by
  have h1 : Ev (fun k => impl_Party_table.l0 k (tabI n (adj (l.take 0))) l (l.length : Int) ((0 : Nat) : Int)) (tabI n (adj l)) := by
    refine up_loop (P := fun i => Ev (fun k => impl_Party_table.l0 k (tabI n (adj (l.take i))) l (l.length : Int) (i : Int)) (tabI n (adj l))) (n := l.length) ?_ ?_ 0 (Nat.zero_le _)
    · refine Ev.step (f := fun _ => some (tabI n (adj l))) (fun k => ?_) (Ev.now _)
      simp only [impl_Party_table.l0]
      rw [if_neg (by omega), List.take_length]
    · intro i hi h
      refine Ev.step (fun k => ?_) h
      obtain ⟨q0, q1, q2, q3⟩ := hp l[i] (List.getElem_mem hi)
      obtain ⟨a, ea⟩ := Int.eq_ofNat_of_zero_le q0
      obtain ⟨b, eb⟩ := Int.eq_ofNat_of_zero_le q2
      have ha : a < n := by omega
      have hb : b < n := by omega
      simp only [impl_Party_table.l0, Option.bind_some]
      rw [if_pos (by omega), if_pos (by omega), if_pos (by omega), rd_T105_nat l i hi, ea, eb, tabI_rd n _ a ha, if_pos (by omega), if_pos (by rw [tabI_length]; omega), if_pos (by omega), if_pos (by rw [tabI_length]; omega)]
      simp only [Int.toNat_natCast]
      rw [tabI_set n _ a b (by omega) ha hb, tabI_rd n _ b hb, tabI_set n _ b a (by omega) hb ha, nat_succ i (by omega), adj_take l i hi, ea, eb]
      simp only [Int.toNat_natCast]
  unfold impl_Party_table.f
  refine Ev.congr (fun k => ?_) h1
  rw [if_pos (by omega), if_pos (by omega)]
  simp only [Int.toNat_natCast, tabI_none, List.take_zero]
  rfl

theorem cmp_Compare_int.ok (a b : Int) : cmp_Compare_int.f a b = some (if a < b then -1 else if a > b then 1 else 0) := by
  unfold cmp_Compare_int.f cmp_isNaN_int.f
  simp only [Option.bind_some, bne_self_eq_false]
  rw [if_neg (by simp), if_neg (by simp)]
  split <;> (try split) <;> rfl
def cmpI (a b c d : Int) : Int := if a < c then -1 else if a > c then 1 else if b < d then -1 else if b > d then 1 else 0
theorem cmp_Or_int.two (k : Nat) (x y : Int) : cmp_Or_int.f (k + 3) [x, y] = some (if x = 0 then y else x) := by
  unfold cmp_Or_int.f
  simp only [cmp_Or_int.l0, List.length_cons, List.length_nil, rd]
  by_cases hx : x = 0
  · by_cases hy : y = 0
    · simp [hx, hy, wrap_one, wrap_two]
    · simp [hx, hy, wrap_one]
  · simp [hx]
theorem impl_comparePairs.ok (k : Nat) (hk : 3 ≤ k) (a b c d : Int) : impl_comparePairs.f k a b c d = some (cmpI a b c d) := by
  obtain ⟨k, rfl⟩ : ∃ m, k = m + 3 := ⟨k - 3, by omega⟩
  unfold impl_comparePairs.f cmpI
  simp only [cmp_Compare_int.ok, Option.bind_some, cmp_Or_int.two]
  split
  · simp
  · split <;> simp
theorem cmpI_neg (x y : S105) : (cmpI x.f0 x.f1 y.f0 y.f1 ≥ 0) = (lessB x y = false) := by
  unfold cmpI lessB
  rw [eq_iff_iff, decide_eq_false_iff_not]
  split
  · constructor <;> intro h <;> omega
  · split
    · constructor <;> intro h <;> omega
    · split
      · constructor <;> intro h <;> omega
      · split <;> constructor <;> intro h <;> omega

theorem impl_areCrowd.ok (n : Int) : impl_areCrowd.f n = some (crowd n) := by unfold impl_areCrowd.f crowd; simp [impl_within.ok]

theorem impl_IsParty.ok (n : Int) (l : List S105) (hl : l.length ≤ 1048576) (k : Nat) (hk : l.length + 4 < k) : impl_IsParty.f k n l = some (goodB n l) := by
  unfold impl_IsParty.f
  rw [all_loop_fin (fun k i => impl_IsParty.l0 k l (l.length : Int) i n l) l.length (stepB n l) (crowd n) (by omega) 3 ?_ ?_ k (by omega)]
  · unfold goodB; rw [Bool.and_comm]
  · intro k i h hk3
    simp only [impl_IsParty.l0]
    rw [if_pos (by omega), if_pos (by omega), if_pos (by omega), rd_T105_nat l i h, stepB_eq n l i h]
    by_cases h1 : 0 ≤ l[i].f0 ∧ l[i].f0 < l[i].f1 ∧ l[i].f1 < n
    · rw [if_neg (by omega), if_neg (by omega), if_neg (by omega), decide_eq_true h1, Bool.true_and]
      rcases Nat.eq_zero_or_pos i with rfl | hi
      · rw [if_neg (by simp)]; simp
      · have e3 : wrap64 ((i : Int) - 1) = ((i - 1 : Nat) : Int) := by rw [wrap_id (by omega) (by omega)]; omega
        rw [if_pos (by omega), e3, if_pos (by omega), if_pos (by omega), rd_T105_nat l (i - 1) (by omega), impl_comparePairs.ok _ hk3]
        simp only [Option.bind_some, cmpI_neg]
        rw [show (i == 0) = false from by simp; omega, Bool.false_or]
        cases lessB l[i - 1] l[i] <;> rfl
    · rw [decide_eq_false h1, Bool.false_and]
      simp only [Bool.false_eq_true, if_false]
      by_cases a1 : l[i].f0 < 0
      · rw [if_pos a1]
      · rw [if_neg a1]
        by_cases a2 : l[i].f0 ≥ l[i].f1
        · rw [if_pos a2]
        · rw [if_neg a2, if_pos (by omega)]
  · intro k hk3
    simp only [impl_IsParty.l0]
    rw [if_neg (by omega), impl_areCrowd.ok]; rfl

theorem impl_table_all.ok (n : Nat) (hn : n ≤ 12) (F : Nat → Nat → Bool) : impl_table_all.f (tabI n F) = some ((msk (fun _ => true) n : Nat) : Int) := by
  unfold impl_table_all.f
  rw [tabI_length, all_bits n hn]

-- ints
theorem impl_listed.go : ∀ (m s : Nat) (acc : List Int), (bof s).length = m → s < 65536 → acc.length + m ≤ 1000 → Ev (fun k => impl_listed.l0 k (s : Int) acc) (acc ++ ints (bof s)) := by
  intro m
  induction m with
  | zero =>
    intro s acc hm hs _
    have e := bof_nil s hs (List.length_eq_zero_iff.1 hm)
    rw [List.length_eq_zero_iff.1 hm]
    subst e
    refine Ev.step (f := fun _ => some acc) (fun k => ?_) (by rw [show acc ++ ints [] = acc from by simp [ints]]; exact Ev.now _)
    rw [impl_listed.l0, if_neg (by simp)]
  | succ m ih =>
    intro s acc hm hs ha
    have h0 : s ≠ 0 := by rintro rfl; rw [bof_zero] at hm; simp at hm
    have es := bof_step s h0 hs
    rw [es] at hm ⊢
    have h1 := ih (s &&& (s - 1)) (acc ++ [((Go.Lib.ctz 16 s : Nat) : Int)]) (by simpa using hm) (Nat.lt_of_le_of_lt Nat.and_le_left hs) (by simp; omega)
    have ec : ctz16 (s : Int) = ((Go.Lib.ctz 16 s : Nat) : Int) := by simp [ctz16]
    refine Ev.step (fun k => ?_) (by rw [show acc ++ ints (Go.Lib.ctz 16 s :: bof (s &&& (s - 1))) = (acc ++ [((Go.Lib.ctz 16 s : Nat) : Int)]) ++ ints (bof (s &&& (s - 1))) from by simp [ints]]; exact h1)
    rw [impl_listed.l0, if_pos (by omega), bits_TrailingZeros16.f, if_pos (by omega), Option.bind_some, if_pos (by omega), low_bits s hs h0, ec]
theorem impl_listed.ok (s : Nat) (hs : s < 65536) : Ev (fun k => impl_listed.f k (s : Int)) (ints (bof s)) := by
  have h := impl_listed.go _ s [] rfl hs (by
    have : (bof s).length ≤ 16 := by unfold bof; exact Nat.le_trans (List.length_filter_le _ _) (by simp)
    simp; omega)
  rw [List.nil_append] at h
  exact h
theorem impl_listed.msk (p : Nat → Bool) (n : Nat) (h : n ≤ 16) : Ev (fun k => impl_listed.f k ((msk p n : Nat) : Int)) (ints ((List.range n).filter p)) := by
  have := impl_listed.ok (Base.msk p n) (msk_lt16 p n h)
  rwa [bof_msk p n h] at this

-- grpL
theorem grp_and (p q : Nat → Bool) (n : Nat) (h : n ≤ 16) : Go.bits .and .u16 ((msk p n : Nat) : Int) ((msk q n : Nat) : Int) = ((msk (fun y => p y && q y) n : Nat) : Int) := by
  rw [u16_and_nat _ _ (msk_lt16 p n h) (msk_lt16 q n h)]
  congr 1
  apply Nat.eq_of_testBit_eq
  intro i
  rw [Nat.testBit_and, msk_testBit, msk_testBit, msk_testBit]
  cases decide (i < n) <;> simp
theorem grp_full (n : Nat) (F : Nat → Nat → Bool) (bs : List Nat) : ((msk (know F bs) n : Nat) : Int) = 0 ↔ grpF n F bs = true := by
  unfold grpF
  rw [List.all_eq_true]
  constructor
  · intro h a ha
    have h0 : msk (know F bs) n = 0 := by omega
    have := msk_testBit (know F bs) n a
    rw [h0, Nat.zero_testBit, decide_eq_true (List.mem_range.1 ha), Bool.true_and] at this
    rw [← this]; rfl
  · intro h
    have : msk (know F bs) n = 0 := by
      apply Nat.eq_of_testBit_eq
      intro i
      rw [msk_testBit, Nat.zero_testBit]
      by_cases hi : i < n
      · have := h i (List.mem_range.2 hi)
        simp only [Bool.not_eq_true'] at this
        rw [this, Bool.and_false]
      · rw [decide_eq_false hi, Bool.false_and]
    omega
theorem impl_table_full_1.ok (n : Nat) (hn : n ≤ 12) (F : Nat → Nat → Bool) (hF : ∀ a b, F a b = F b a) (bs : List Nat) (hb : ∀ b ∈ bs, b < n) (hl : bs.length ≤ 1000) (xs : List (List Int)) (hx : xs.length ≤ 5000) : Ev (fun k => impl_table_full_1.f k (tabI n F) (ints bs) xs) (xs ++ (([bs] : List (List Nat)).filter (grpF n F)).map ints) := by
  have loop := up_loop (P := fun i => Ev (fun k => impl_table_full_1.lc k (tabI n F) (ints bs) (i : Int) ((msk (know F (bs.take i)) n : Nat) : Int)) ((msk (know F bs) n : Nat) : Int)) (n := bs.length) (by
      refine Ev.step (f := fun _ => some ((msk (know F bs) n : Nat) : Int)) (fun k => ?_) (Ev.now _)
      rw [impl_table_full_1.lc, if_neg (by rw [ints_length]; omega), List.take_length]) (by
      intro i hi h
      have hbi := hb bs[i] (List.getElem_mem hi)
      have e : know F (bs.take (i + 1)) = fun y => know F (bs.take i) y && F bs[i] y := by
        funext y
        rw [List.take_succ_eq_append_getElem hi]
        simp only [know, List.all_append, List.all_cons, List.all_nil, Bool.and_true]
        rw [hF y bs[i]]
      refine Ev.step (fun k => ?_) h
      rw [impl_table_full_1.lc, if_pos (by rw [ints_length]; omega), if_pos (by omega), rd_ints bs i hi, if_pos (by omega), if_pos (by rw [tabI_length]; omega), tabI_rd n F _ hbi, grp_and _ _ n (by omega), nat_succ i (by omega), e])
  have h0 := loop 0 (Nat.zero_le _)
  unfold impl_table_full_1.f
  simp only [impl_table_all.ok n hn, Option.bind_some]
  refine Ev.bind h0 ?_
  by_cases hf : grpF n F bs = true
  · refine Ev.ite_pos ((grp_full n F bs).2 hf) (Ev.ite_pos (by omega) ?_)
    rw [List.filter_cons_of_pos hf]
    exact Ev.now _
  · refine Ev.ite_neg (fun h => hf ((grp_full n F bs).1 h)) ?_
    rw [List.filter_cons_of_neg hf]
    simpa using Ev.now xs
theorem grp_behind (p : Nat → Bool) (n a : Nat) (pre rest : List Nat) (h : (List.range n).filter p = pre ++ a :: rest) : (List.range n).filter (fun y => decide (a < y) && p y) = rest := by
  have hs : ((List.range n).filter p).Pairwise (· < ·) := List.Pairwise.filter _ List.pairwise_lt_range
  rw [← List.filter_filter, h]
  rw [h, List.pairwise_append] at hs
  obtain ⟨_, h2, h3⟩ := hs
  rw [List.pairwise_cons] at h2
  rw [List.filter_append, List.filter_cons_of_neg (by simp), List.filter_eq_nil_iff.2 (fun y hy => by have := h3 y hy a List.mem_cons_self; simp; omega), List.nil_append, List.filter_eq_self]
  intro y hy
  have := h2.1 y hy
  simpa using this
theorem grp_left (p q : Nat → Bool) (n a : Nat) (h : n ≤ 16) (ha : a < n) : Go.bits .andNot .u16 (Go.bits .and .u16 ((msk p n : Nat) : Int) ((msk q n : Nat) : Int)) (IntKind.u16.wrap (shl .u16 1 (a : Int) - 1)) = ((msk (fun y => (p y && q y) && decide (a ≤ y)) n : Nat) : Int) := by
  have hA := pow_lt16 a (by omega)
  have hpos := Nat.two_pow_pos a
  have e1 : IntKind.u16.wrap (((2 ^ a : Nat) : Int) - 1) = ((2 ^ a - 1 : Nat) : Int) := by rw [IntKind.wrap_u16]; omega
  rw [grp_and p q n h, shl_one a (by omega), e1, u16_andNot_nat _ _ (msk_lt16 _ n h) (by omega)]
  congr 1
  apply Nat.eq_of_testBit_eq
  intro i
  have := Nat.testBit_two_pow_sub_succ (n := 16) (x := 2 ^ a - 1) (by omega) i
  rw [Nat.testBit_and, show 65535 - (2 ^ a - 1) = 2 ^ 16 - ((2 ^ a - 1) + 1) from by omega, this, msk_testBit, msk_testBit, Nat.testBit_two_pow_sub_one]
  by_cases hi : i < n
  · have h16 : i < 16 := by omega
    by_cases e : i < a
    · have : ¬ a ≤ i := by omega
      simp [e, this]
    · have : a ≤ i := by omega
      simp [hi, h16, e, this]
  · simp [hi]
theorem impl_table_groups_1.ok (n : Nat) (hn : n ≤ 12) (F : Nat → Nat → Bool) (hF : ∀ a b, F a b = F b a) (hI : ∀ a, F a a = false) : ∀ (m : Nat) (p : Nat → Bool) (bs : List Nat) (xs : List (List Int)), ((List.range n).filter p).length = m → bs.length + m ≤ 1000 → (∀ b ∈ bs, b < n) → xs.length + 2 ^ m ≤ 4096 →
    Ev (fun k => impl_table_groups_1.f k (tabI n F) (ints bs) ((msk p n : Nat) : Int) xs) (xs ++ ((bs :: grpL F bs ((List.range n).filter p)).filter (grpF n F)).map ints) := by
  intro m
  induction m using Nat.strongRecOn with
  | ind m ih =>
    intro p bs xs hm hbl hb hx
    have hpm := Nat.two_pow_pos m
    have h1 := impl_table_full_1.ok n hn F hF bs hb (by omega) xs (by omega)
    have h2 := impl_listed.msk p n (by omega)
    have hmem : ∀ a ∈ (List.range n).filter p, a < n := fun a ha => List.mem_range.1 (List.mem_filter.1 ha).1
    have hbeh := grp_behind p n
    have hxl : (xs ++ (([bs] : List (List Nat)).filter (grpF n F)).map ints).length ≤ xs.length + 1 := by
      rw [List.length_append, List.length_map]
      have := List.length_filter_le (grpF n F) [bs]
      simp only [List.length_singleton] at this
      omega
    have efin : xs ++ ((bs :: grpL F bs ((List.range n).filter p)).filter (grpF n F)).map ints = (xs ++ (([bs] : List (List Nat)).filter (grpF n F)).map ints) ++ ((grpL F bs ((List.range n).filter p)).filter (grpF n F)).map ints := by
      rw [show bs :: grpL F bs ((List.range n).filter p) = [bs] ++ grpL F bs ((List.range n).filter p) from rfl, List.filter_append, List.map_append, List.append_assoc]
    rw [efin]
    generalize hL : (List.range n).filter p = L at h2 hm hmem hbeh ⊢
    have loop := up_loop (P := fun i => ∀ acc : List (List Int), acc.length + 2 ^ (L.length - i) ≤ 4097 → Ev (fun k => impl_table_groups_1.l0 k (tabI n F) (ints bs) ((msk p n : Nat) : Int) (ints L) (i : Int) acc) (acc ++ ((grpL F bs (L.drop i)).filter (grpF n F)).map ints)) (n := L.length) (by
        intro acc _
        rw [List.drop_length, grpL_nil, List.filter_nil, List.map_nil, List.append_nil]
        refine Ev.step (f := fun _ => some acc) (fun k => ?_) (Ev.now _)
        rw [impl_table_groups_1.l0, if_neg (by rw [ints_length]; omega)]) (by
        intro i hi h acc hacc
        have ha := hmem L[i] (List.getElem_mem hi)
        have hd : L = L.take i ++ L[i] :: L.drop (i + 1) := by rw [← List.drop_eq_getElem_cons hi, List.take_append_drop]
        have hr := hbeh L[i] (L.take i) (L.drop (i + 1)) hd
        rw [List.drop_eq_getElem_cons hi, grpL_cons]
        generalize hae : L[i] = a at ha hr ⊢
        have e : (List.range n).filter (fun y => (p y && F a y) && decide (a ≤ y)) = (L.drop (i + 1)).filter (F a) := by
          rw [← hr, List.filter_filter]
          apply List.filter_congr
          intro y _
          by_cases ey : y = a
          · subst ey; rw [hI]; simp
          · by_cases hy : a < y
            · have : a ≤ y := by omega
              simp [hy, this, Bool.and_comm]
            · have : ¬ a ≤ y := by omega
              simp [hy, this]
        have hfl := List.length_filter_le (F a) (L.drop (i + 1))
        have hdl : (L.drop (i + 1)).length = L.length - (i + 1) := List.length_drop
        have h2p : 2 ^ (L.length - i) = 2 * 2 ^ (L.length - (i + 1)) := by rw [show L.length - i = (L.length - (i + 1)) + 1 from by omega, Nat.pow_succ, Nat.mul_comm]
        have hgp : 2 ^ ((L.drop (i + 1)).filter (F a)).length ≤ 2 ^ (L.length - (i + 1)) := Nat.pow_le_pow_right (by omega) (by omega)
        have hpos := Nat.two_pow_pos (L.length - (i + 1))
        have a1 := ih ((L.drop (i + 1)).filter (F a)).length (by omega) (fun y => (p y && F a y) && decide (a ≤ y)) (bs ++ [a]) acc (by rw [e]) (by simp only [List.length_append, List.length_singleton]; omega) (by
            intro b hbm
            rcases List.mem_append.1 hbm with h | h
            · exact hb b h
            · obtain rfl := List.mem_singleton.1 h
              exact ha) (by omega)
        rw [e] at a1
        have hgl := grpL_len F _ (bs ++ [a]) ((L.drop (i + 1)).filter (F a)) (Nat.le_refl _)
        have hfl2 := List.length_filter_le (grpF n F) ((bs ++ [a]) :: grpL F (bs ++ [a]) ((L.drop (i + 1)).filter (F a)))
        simp only [List.length_cons] at hfl2
        have o1 := h (acc ++ (((bs ++ [a]) :: grpL F (bs ++ [a]) ((L.drop (i + 1)).filter (F a))).filter (grpF n F)).map ints) (by
          simp only [List.length_append, List.length_map]; omega)
        have e2 : ints bs ++ [(a : Int)] = ints (bs ++ [a]) := by simp [ints]
        refine Ev.step (fun k => ?_) (Ev.bind a1 (f := fun k ys => impl_table_groups_1.l0 k (tabI n F) (ints bs) ((msk p n : Nat) : Int) (ints L) ((i + 1 : Nat) : Int) ys) ?_)
        · rw [impl_table_groups_1.l0, if_pos (by rw [ints_length]; omega), if_pos (by omega), rd_ints L i hi, hae, if_pos (by omega), if_pos (by rw [tabI_length]; omega), show slices_Clone_int_int.f (ints bs) = some (ints bs) from by (unfold slices_Clone_int_int.f; rw [if_pos (by rw [ints_length]; omega)]), Option.bind_some, if_pos (by rw [ints_length]; omega), e2, tabI_rd n F a ha, grp_left p (F a) n a (by omega) ha, nat_succ i (by omega)]
        · rw [show acc ++ (((bs ++ [a]) :: (grpL F (bs ++ [a]) ((L.drop (i + 1)).filter (F a)) ++ grpL F bs (L.drop (i + 1)))).filter (grpF n F)).map ints = (acc ++ (((bs ++ [a]) :: grpL F (bs ++ [a]) ((L.drop (i + 1)).filter (F a))).filter (grpF n F)).map ints) ++ ((grpL F bs (L.drop (i + 1))).filter (grpF n F)).map ints from by
            rw [show (bs ++ [a]) :: (grpL F (bs ++ [a]) ((L.drop (i + 1)).filter (F a)) ++ grpL F bs (L.drop (i + 1))) = ((bs ++ [a]) :: grpL F (bs ++ [a]) ((L.drop (i + 1)).filter (F a))) ++ grpL F bs (L.drop (i + 1)) from rfl, List.filter_append, List.map_append, List.append_assoc]]
          exact o1)
    have h3 := loop 0 (Nat.zero_le _) (xs ++ (([bs] : List (List Nat)).filter (grpF n F)).map ints) (by rw [Nat.sub_zero, hm]; omega)
    rw [List.drop_zero] at h3
    refine Ev.step (fun k => ?_) (Ev.bind h1 (f := fun k ys => (impl_listed.f k ((msk p n : Nat) : Int)).bind fun q => impl_table_groups_1.l0 k (tabI n F) (ints bs) ((msk p n : Nat) : Int) q 0 ys) (Ev.bind h2 h3))
    rw [impl_table_groups_1.f]
theorem impl_table_full.ok (n : Nat) (hn : n ≤ 12) (F : Nat → Nat → Bool) (hF : ∀ a b, F a b = F b a) (hI : ∀ a, F a a = false) : Ev (fun k => impl_table_full.f k (tabI n F)) ((grpA n F).map ints) := by
  have ef : (List.range n).filter (fun _ => true) = List.range n := List.filter_eq_self.2 (fun _ _ => rfl)
  have hp : 2 ^ n ≤ 2 ^ 12 := Nat.pow_le_pow_right (by omega) hn
  have h := impl_table_groups_1.ok n hn F hF hI n (fun _ => true) [] [] (by rw [ef, List.length_range]) (by simp only [List.length_nil]; omega) (by simp) (by simp only [List.length_nil]; omega)
  rw [ef, List.nil_append] at h
  unfold impl_table_full.f impl_table_groups.f
  rw [tabI_length, all_bits n hn]
  exact h

theorem impl_table_others.ok (n : Nat) (hn : n ≤ 12) (F : Nat → Nat → Bool) : Ev (fun k => impl_table_others.f k (tabI n F)) (tabI n (oth F)) := by
  have key := up_loop (P := fun i => Ev (fun k => impl_table_others.l0 k (tabI n F) ((List.range n).map fun a => if a < i then ((msk (oth F a) n : Nat) : Int) else 0) (n : Int) (i : Int)) (tabI n (oth F))) (n := n) (by
      refine Ev.step (f := fun _ => some (tabI n (oth F))) (fun k => ?_) (Ev.now _)
      simp only [impl_table_others.l0]
      rw [if_neg (by omega)]
      congr 1
      unfold tabI
      apply List.map_congr_left
      intro a ha
      rw [if_pos (List.mem_range.1 ha)]) (by
      intro i hi h
      refine Ev.step (fun k => ?_) h
      simp only [impl_table_others.l0, tabI_length]
      rw [if_pos (by omega), if_pos (by omega), if_pos (by omega), if_pos (by simp; omega), tabI_rd n F i hi, other_bits (F i) n i hn hi, nat_succ i (by omega), Int.toNat_natCast]
      congr 1
      apply List.ext_getElem (by simp)
      intro j g1 g2
      have hj : j < n := by simpa using g2
      by_cases e : i = j
      · subst e
        simp only [List.getElem_set_self, List.getElem_map, List.getElem_range]
        rw [if_pos (by omega)]
        rfl
      · rw [List.getElem_set_ne e]
        simp only [List.getElem_map, List.getElem_range]
        by_cases h2 : j < i
        · rw [if_pos h2, if_pos (by omega)]
        · rw [if_neg h2, if_neg (by omega)]) 0 (Nat.zero_le _)
  unfold impl_table_others.f
  refine Ev.congr (fun k => ?_) key
  rw [tabI_length, if_pos (by omega), if_pos (by omega)]
  congr 1
  apply List.ext_getElem (by simp)
  intro i h1 h2
  simp

-- grpO
theorem impl_AllApart.ok (n : Int) (l : List S105) (hl : l.length ≤ 1048576) : Ev (fun k => impl_AllApart.f k n l) (grpO n l) := by
  unfold impl_AllApart.f grpO
  refine Ev.bind (ev_of (l.length + 5) fun k hk => impl_IsParty.ok n l hl k (by omega)) ?_
  by_cases hg : goodB n l = true
  · rw [if_pos hg]
    refine Ev.ite_pos hg ?_
    have hp := goodB_people hg
    have h66 := goodB_len66 hg
    have h1 := impl_Party_table.ok n.toNat (by omega) l (by omega) (goodB_pin hg)
    rw [Int.toNat_of_nonneg hp.1] at h1
    exact Ev.bind h1 (Ev.bind (impl_table_others.ok n.toNat (by omega) (adj l)) (Ev.bind (impl_table_full.ok n.toNat (by omega) (oth (adj l)) (grpO_symm l) (grpO_irr l)) (Ev.now _)))
  · rw [if_neg hg]
    exact Ev.ite_neg hg (Ev.now _)

end Go.Proofs.YtjpfbkkikcpmhaaDoor.PFnExactAllApart
namespace Go.Proofs.YtjpfbkkikcpmhaaDoor
open Go.RowKit Go.Proofs.YtjpfbkkikcpmhaaDoor.Base Go.Proofs.YtjpfbkkikcpmhaaDoor.PFnExactAllApart Go.Proofs.YtjpfbkkikcpmhaaDoorW.PrintWords Go.Proofs.YtjpfbkkikcpmhaaDoorW.PrintLast Go.Proofs.YtjpfbkkikcpmhaaDoorW.PrintMore
theorem fnExactAllApart_pure : fnExactAllApart.Pure := by
  intro n l hn hl
  have hm := hl.1
  refine Ev.rounds (g := fun k => laws_FnExactAllApart.f k n l) ?_
  unfold laws_FnExactAllApart.f
  rw [laws_szParty.ok n l _ (by omega) (by omega) hl.1]
  simp only [Option.bind_some]
  by_cases h0 : (1048576 : Int) - l.length < 0
  · rw [if_pos h0]
    exact Ev.ite_pos (by omega) (Ev.now _)
  · rw [if_neg h0]
    refine Ev.ite_neg (by omega) ?_
    have hlen : l.length ≤ 1048576 := by omega
    have hcl : (prs l).length ≤ 1048576 := by rw [prs_length]; exact hlen
    have ht : Ev (fun k => laws_toParty.f k n l) (n, prs l) := ev_of (l.length + 1) fun k hk => laws_toParty.ok n l hlen k (by omega)
    have hep : Ev (fun k => laws_eqParty.f k n (prs l) n (prs l)) true := ev_of ((prs l).length + 1) fun k hk => laws_eqParty.refl n (prs l) hcl k (by omega)
    have hmp : Ev (fun k => laws_markParty.f k n (prs l) 1) (1 + 2 * ((prs l).length : Int), (List.range (prs l).length).map mkPair) := ev_of ((prs l).length + 1) fun k hk => laws_markParty.ok n (prs l) hcl k (by omega)
    have hs := spec_AllApart.ok n (prs l)
    have hi := impl_AllApart.ok n (prs l) hcl
    obtain ⟨f1, f2⟩ := grpO_facts n (prs l)
    generalize grpO n (prs l) = x at hs hi f1 f2
    obtain ⟨L, b⟩ := x
    simp only at f1 f2 hs hi
    have he : Ev (fun k => laws_eqIntSS.f k L L) true := ev_of 5000 fun k hk => laws_eqIntSS.refl _ (by omega) f2 k (by omega)
    have hmk := laws_markIntSS.go L [] 1 f2 (by omega) (by simp; omega)
    have hhd := laws_heldIntSS.go L [] 1 f2 (by omega) (by simp; omega)
    refine Ev.bind ht (Ev.bind hs (Ev.bind hi (Ev.bind he (Ev.ite_pos rfl (Ev.ite_pos rfl (Ev.bind hep (Ev.ite_pos rfl (Ev.bind hmp (Ev.ite_neg ?_ ?_)))))))))
    · simp only; omega
    refine Ev.bind hmk (Ev.bind hhd (Ev.ite_neg (by omega) (Ev.ite_pos rfl (Ev.now _))))
theorem fnExactAllApart_holds : Rows.FnExactAllApartCardSaid := fnExactAllApart.proved fnExactAllApart_pure
end Go.Proofs.YtjpfbkkikcpmhaaDoor
