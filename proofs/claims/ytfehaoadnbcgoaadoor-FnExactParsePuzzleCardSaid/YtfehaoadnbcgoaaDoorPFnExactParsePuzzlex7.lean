-- Of this session's own program wip/gen/gen.py (it drives the kit's print): contracts of the functions that the law reaches.
import Derived.LoopIn
import Derived.LoopNIn
import Derived.OwnWalkIn
import Derived.RangeFuncBox
import Derived.RangeFuncCalls
import Derived.RangeFuncLeaves
import Derived.RangeFuncWrites
import Derived.Shelf.RegionOpen
import Derived.Shelf.Strings.OnBuilder
import Derived.TacticsInMore
import Derived.Test.YtfehaoadnbcgoaaDoorPFnExactParsePuzzlex0
import Derived.Test.YtfehaoadnbcgoaaDoorPFnExactParsePuzzlex6
namespace Go.Proofs.YtfehaoadnbcgoaaDoor.PFnExactParsePuzzle
open Go.RowKit Go.Proofs.YtfehaoadnbcgoaaDoorW.PrintWords Go.Proofs.YtfehaoadnbcgoaaDoorW.PrintLast Go.Proofs.YtfehaoadnbcgoaaDoorW.PrintMore Go.Proofs.YtfehaoadnbcgoaaDoor.Base
attribute [local go_sem] max2_int min2_int max_two min_two max_three min_three max_four min_four   -- for this text's walks alone
set_option linter.unusedVariables false
set_option linter.unusedSimpArgs false

/-! ### strings_Join: function 97 (a text of this session's own) -/
-- WANTS Derived.Shelf.Strings.OnBuilder

/-- Texts joined. -/
def strings_Join.f (l0 : List ByteArray) (a1 : ByteArray) : Option ByteArray := if l0.length ≤ 1000000 then (if (Lib.join (l0.map (·.data.toList)) a1.data.toList).length ≤ 1000000 then some ⟨(Lib.join (l0.map (·.data.toList)) a1.data.toList).toArray⟩ else none) else none
section
open Go.Shelf
def strings_Join.jn_ren : Go.Shelf.Ren := ⟨fun | 156 => 97 | 165 => 115 | 166 => 116 | 169 => 117 | 240 => 127 | 241 => 128 | 276 => 139 | 277 => 140 | n => n, fun | 31 => 111 | 9 => 9 | 3 => 3 | 4 => 4 | 0 => 0 | 20 => 20 | 72 => 147 | 76 => 142 | 70 => 145 | 37 => 22 | 75 => 141 | 127 => 158 | 164 => 170 | 5 => 5 | 80 => 149 | n => n, fun | n => n⟩
theorem strings_Join.jn : Go.Proofs.Lays.n156 Tryd.prog strings_Join.jn_ren := {
  mixed := by kernel_rfl
  f156 := Tryd.func97.trans (congrArg some (by kernel_rfl))
  f165 := Tryd.func115.trans (congrArg some (by kernel_rfl))
  f166 := Tryd.func116.trans (congrArg some (by kernel_rfl))
  f169 := Tryd.func117.trans (congrArg some (by kernel_rfl))
  f240 := Tryd.func127.trans (congrArg some (by kernel_rfl))
  f241 := Tryd.func128.trans (congrArg some (by kernel_rfl))
  f276 := Tryd.func139.trans (congrArg some (by kernel_rfl))
  f277 := Tryd.func140.trans (congrArg some (by kernel_rfl))
  t0 := Tryd.underlying0
  a0 := Tryd.isAgg0
  z0 := Tryd.sizeOf0
  v0 := Tryd.zeroValue0
  t3 := Tryd.underlying3
  a3 := Tryd.isAgg3
  z3 := Tryd.sizeOf3
  v3 := Tryd.zeroValue3
  t4 := Tryd.underlying4
  a4 := Tryd.isAgg4
  z4 := Tryd.sizeOf4
  v4 := Tryd.zeroValue4
  t9 := Tryd.underlying9
  a9 := Tryd.isAgg9
  z9 := Tryd.sizeOf9
  v9 := Tryd.zeroValue9
  t20 := Tryd.underlying20
  a20 := Tryd.isAgg20
  z20 := Tryd.sizeOf20
  v20 := Tryd.zeroValue20
  t31 := Tryd.underlying111
  a31 := Tryd.isAgg111
  z31 := Tryd.sizeOf111
  v31 := Tryd.zeroValue111
  t37 := Tryd.underlying22
  a37 := Tryd.isAgg22
  z37 := Tryd.sizeOf22
  v37 := Tryd.zeroValue22
  t70 := Tryd.underlying145
  a70 := Tryd.isAgg145
  z70 := Tryd.sizeOf145
  v70 := Tryd.zeroValue145
  t72 := Tryd.underlying147
  a72 := Tryd.isAgg147
  z72 := Tryd.sizeOf147
  v72 := Tryd.zeroValue147
  t75 := Tryd.underlying141
  a75 := Tryd.isAgg141
  z75 := Tryd.sizeOf141
  v75 := Tryd.zeroValue141
  t76 := Tryd.underlying142
  a76 := Tryd.isAgg142
  z76 := Tryd.sizeOf142
  v76 := Tryd.zeroValue142
  t127 := Tryd.underlying158
  a127 := Tryd.isAgg158
  z127 := Tryd.sizeOf158
  v127 := Tryd.zeroValue158
  t164 := Tryd.underlying170
  a164 := Tryd.isAgg170
  z164 := Tryd.sizeOf170
  v164 := Tryd.zeroValue170 }
theorem strings_Join.jx : Builder.Extra Tryd.prog strings_Join.jn_ren := {
  sizeBuilder := by kernel_rfl
  liesBuilder := by kernel_rfl
  t5 := Tryd.underlying5
  a5 := Tryd.isAgg5
  z5 := Tryd.sizeOf5
  v5 := Tryd.zeroValue5
  infoByte := by kernel_rfl
  cellsByte := by kernel_rfl
  sizeByte := by kernel_rfl
  neB5 := by decide }
end
theorem strings_Join.calls (A0 : Option Addr) (c0 : Nat) (l0 : List ByteArray) (a1 : ByteArray) (r : ByteArray) (w : World) (hr0 : Kd.C Kd.string w A0 l0.length l0) (hc0 : l0.length ≤ c0) (h : strings_Join.f l0 a1 = some r) :
    Calls Tryd.prog 97 #[.slice A0 l0.length c0, .string a1] w fun e w' => e = .returned (.string r) ∧ Below w.heap.size w w' := by
  unfold strings_Join.f at h
  by_cases h0 : l0.length ≤ 1000000
  · rw [if_pos h0] at h
    by_cases h1 : (Lib.join (l0.map (·.data.toList)) a1.data.toList).length ≤ 1000000
    · rw [if_pos h1] at h
      obtain rfl := Option.some.inj h
      clear h
      cases l0 with
      | nil =>
        refine (Any.strings_Join_none strings_Join.jn strings_Join.jx A0 c0 a1 w).mono ?_
        rintro e w' ⟨rfl, rfl⟩
        refine ⟨?_, Below.refl _ _⟩
        simp [Lib.join]
      | cons x l =>
        have hcell : ∃ b o, A0 = some ⟨b, o, none⟩ ∧ b < w.heap.size ∧ ∀ (j : Nat) y, (x :: l)[j]? = some y → w.cell? ⟨b, o + j, none⟩ = some (.string y) := by
          obtain ⟨ad, rfl, hc⟩ := hr0.2.2 (by simp)
          have hj : ∀ (j : Nat) y, (x :: l)[j]? = some y → w.cell? (ad.add j) = some (.string y) := by
            intro j y hy
            obtain ⟨c, _, hk, hcc⟩ := hc j y hy
            have hk2 : c = [.string y] := hk
            subst hk2
            have h3 := hcc 0 _ rfl
            have h4 : Kd.string.sz = 1 := rfl
            rw [h4, Nat.mul_one, Nat.add_zero] at h3
            exact h3
          clear hc
          obtain ⟨b, o, t⟩ := ad
          have hc0 : w.cell? ⟨b, o, t⟩ = some (.string x) := hj 0 x rfl
          have ht : t = none := by
            cases t with
            | none => rfl
            | some t =>
              simp [World.cell?] at hc0
              split at hc0 <;> cases hc0
          subst ht
          refine ⟨b, o, rfl, ?_, fun j y hy => (by
            have h5 := hj j y hy
            by_cases e : j = 0
            · subst e
              simpa [Addr.add] using h5
            · simpa [Addr.add, e] using h5)⟩
          refine Nat.lt_of_not_le (fun hh => ?_)
          have : w.heap[b]? = none := Array.getElem?_eq_none hh
          simp [World.cell?, this] at hc0
        obtain ⟨b, o, rfl, hb, hcells⟩ := hcell
        exact Any.strings_Join strings_Join.jn strings_Join.jx b o c0 (x :: l) a1 w hcells hb (by omega) hc0 (by omega)
    · rw [if_neg h1] at h; cases h
  · rw [if_neg h0] at h; cases h

/-! ### impl_puzzleText: function 59 -/
def impl_puzzleText.l0 : Nat → List ByteArray → List (S89) → Int → Int → Int → List (S89) → Option (ByteArray)
 | 0, _, _, _, _, _, _ => none
 | k + 1, x3, x8, x9, x10, x188000, x188001 => if x10 < x9 then (if 0 ≤ x10 then (if x10 < (x8.length : Int) then ((strconv_Itoa.f ((rd_T89 x8 x10).f0)).bind fun t193 => (if t193.size + 1 ≤ 9223372036854775807 then ((strconv_Itoa.f ((rd_T89 x8 x10).f1)).bind fun t194 => (if (t193 ++ (⟨#[46]⟩ : ByteArray)).size + t194.size ≤ 9223372036854775807 then (if ((t193 ++ (⟨#[46]⟩ : ByteArray)) ++ t194).size + 1 ≤ 9223372036854775807 then ((strconv_Itoa.f ((rd_T89 x8 x10).f2)).bind fun t195 => (if (((t193 ++ (⟨#[46]⟩ : ByteArray)) ++ t194) ++ (⟨#[46]⟩ : ByteArray)).size + t195.size ≤ 9223372036854775807 then (if x3.length < 8796093022208 then (impl_puzzleText.l0 k (x3 ++ [(((t193 ++ (⟨#[46]⟩ : ByteArray)) ++ t194) ++ (⟨#[46]⟩ : ByteArray)) ++ t195]) x8 x9 (wrap64 (x10 + 1)) x188000 x188001) else (none)) else (none))) else (none)) else (none))) else (none))) else (none)) else (none)) else ((strconv_Itoa.f x188000).bind fun t199 => (if t199.size + 1 ≤ 9223372036854775807 then ((strings_Join.f x3 (⟨#[44]⟩ : ByteArray)).bind fun t200 => (if (t199 ++ (⟨#[58]⟩ : ByteArray)).size + t200.size ≤ 9223372036854775807 then (some ((t199 ++ (⟨#[58]⟩ : ByteArray)) ++ t200)) else (none))) else (none)))
def impl_puzzleText.f (k : Nat) (a0_0 : Int) (l0_1 : List (S89)) : Option (ByteArray) := impl_puzzleText.l0 k (([] : List ByteArray)) l0_1 (l0_1.length : Int) 0 a0_0 l0_1
theorem impl_puzzleText.mono_l : ∀ k, (∀ y0 y1 y2 y3 y4 y5, LeO (impl_puzzleText.l0 k y0 y1 y2 y3 y4 y5) (impl_puzzleText.l0 (k + 1) y0 y1 y2 y3 y4 y5))
 | 0 => fun _ _ _ _ _ _ r h => by simp [impl_puzzleText.l0] at h
 | k + 1 => by
  have ih0 := impl_puzzleText.mono_l k
  ·intro y0 y1 y2 y3 y4 y5
   unfold impl_puzzleText.l0
   repeat' first
   | (with_reducible exact ih0 _ _ _ _ _ _)
   | (with_reducible exact LeO.refl _)
   | (with_reducible exact LeO.none _)
   | (with_reducible refine LeO.ite ?_ ?_)
   | (with_reducible refine LeO.bind ?_ (fun _ => ?_))
   | exact ih0 _ _ _ _ _ _
   | exact LeO.none _
   | refine LeO.ite ?_ ?_
   | refine LeO.bind ?_ (fun _ => ?_)
theorem impl_puzzleText.mono : ∀ a0 a1 k, LeO (impl_puzzleText.f k a0 a1) (impl_puzzleText.f (k + 1) a0 a1) := by
 intro a0 a1 k
 have ih0 := impl_puzzleText.mono_l k
 unfold impl_puzzleText.f
 repeat' first
   | (with_reducible exact ih0 _ _ _ _ _ _)
   | (with_reducible exact LeO.refl _)
   | (with_reducible exact LeO.none _)
   | (with_reducible refine LeO.ite ?_ ?_)
   | (with_reducible refine LeO.bind ?_ (fun _ => ?_))
   | exact ih0 _ _ _ _ _ _
   | exact LeO.none _
   | refine LeO.ite ?_ ?_
   | refine LeO.bind ?_ (fun _ => ?_)
def impl_puzzleText.T5 : Bool × List (List Nat × List Nat) := (true, [([], []), ([], []), ([1], [1]), ([2], [2]), ([3], [3]), ([], []), ([5], [5]), ([6, 3], [6]), ([4, 7], [4, 7]), ([8], [8]), ([], []), ([10], [10]), ([11, 7], [11]), ([9, 12], [9, 12]), ([13], [13]), ([0, 14, 12], [0, 14]), ([15, 15, 0, 1, 2, 3, 4, 5, 6, 7, 8, 9, 10, 11, 12, 13, 14, 15], [0, 15])])
def impl_puzzleText.B5 : List Nat := [0, 0, 2, 6, 14, 0, 32, 110, 254, 510, 0, 1024, 3310, 8190, 16382, 32767, 65535]
theorem impl_puzzleText.tab5 : rtab .any (opsOf Tryd.f59 5) = impl_puzzleText.T5 := by kernel_rfl
theorem impl_puzzleText.bits5 : waitsOk impl_puzzleText.T5.2 impl_puzzleText.B5 = true := by kernel_rfl
set_option maxHeartbeats 8000000 in
set_option maxRecDepth 100000 in
theorem impl_puzzleText.calls (k : Nat) (a0_0 : Int) (A0_1 : Option Addr) (c0_1 : Nat) (l0_1 : List (S89)) (r : ByteArray) (w : World) (hr0_1 : Kd.C k89 w A0_1 l0_1.length l0_1) (hc0_1 : l0_1.length ≤ c0_1) (h : impl_puzzleText.f k a0_0 l0_1 = some r) :
  Calls Tryd.prog 59 #[.agg #[.int .i64 a0_0, .slice A0_1 l0_1.length c0_1]] w fun e w' => e = .returned (.string r) ∧ Below w.heap.size w w' := by
 have hu53 := Tryd.underlying53
 have hu89 := Tryd.underlying89
 have HR0_1 := Aside0.mk hr0_1
 have HC0_1 := Aside0.mk hc0_1
 clear hr0_1 hc0_1
 have HB := Aside0.mk (Below.refl w.heap.size w)
 have H : (impl_puzzleText.l0 k (([] : List ByteArray)) l0_1 (l0_1.length : Int) 0 a0_0 l0_1) = some r := h
 clear h
 obtain ⟨y188, hy188⟩ : ∃ y_ : List ByteArray, y_ = (([] : List ByteArray)) := ⟨_, rfl⟩
 replace H : (impl_puzzleText.l0 k y188 l0_1 (l0_1.length : Int) 0 a0_0 l0_1) = some r := by first | (rw [hy188]; with_reducible exact H) | (have H2_ := (Option.bind_some _ _).symm.trans H; rw [hy188]; with_reducible exact H2_) | (have H2_ := (Option.bind_some _ _).symm.trans H; with_reducible exact H2_) | with_reducible exact H | (rw [hy188]; exact H) | exact H
 have Ny188 := Aside0.mk hy188
 clear hy188
 have H' := Aside0.mk H
 clear H
 go_enter Tryd.func59, Tryd.ntmps59
 go_wp2_with (first | ((with_reducible refine gate_dst (N := 1) rfl ?_); refine bxE 1 #[.int .i64 a0_0, .slice A0_1 l0_1.length c0_1] 53 rfl ?_; intro gb187 hg w2 hbox hb; have BK187 := Aside0.mk (hbox); have GW187 := gS HB hg; have GE187 := gS HB hg; replace HB := hS HB hb; clear hb hbox hg) | ((with_reducible refine gate_dst (N := 6) rfl ?_); refine Kd.R_lit Kd.string _ 9 ?hg (N := 6) ?hd (xs := ([] : List ByteArray)) (inner := []) (ok := fun _ => True) (okp := fun _ => True) ?hr ?hp (fun _ hk => hk) trivial (Below.refl _ _) (Nat.le_refl _) (by simp) ?_; (case hd => rfl); (case hg => rfl); (case hr => first | (go_simp; done) | (go_simp; rfl)); (case hp => exact (Reps.none _ _)); intro v189 w3 ho4 hb hg_ hnew_; clear hg_ hnew_; (first | rw [← Ny188.out] at ho4 | (simp only [Int.reduceToNat] at ho4; rw [← Ny188.out] at ho4)); have HO190 := Aside0.mk (Kd.R_lower ho4 (below_size hB)); replace BK187 := bS BK187 hb; replace HB := hS HB hb; clear hb ho4; have hcz5_0 := cz BK187 0; have hcz5_1 := cz BK187 1; have hfz5_0 := fz BK187 0; have hfz5_1 := fz BK187 1))
 go_loopg [3, 10] k (fun kq v3 v10 w' => ∃ (x3_1 : List ByteArray) (x10_1 : Int), v10 = .int .i64 x10_1 ∧ Aside0 (impl_puzzleText.l0 kq x3_1 l0_1 (l0_1.length : Int) x10_1 a0_0 l0_1 = some r) ∧ Aside0 (kq ≤ k) ∧ Aside0 (Kd.R Kd.string 9 w' w.heap.size (fun _ => True) v3 x3_1) ∧ Aside0 (w'.heap[gb187]? = some (.cells #[.int .i64 a0_0, (.slice A0_1 l0_1.length c0_1)] 53 (0, 0))) ∧ Aside0 (Below w.heap.size w w'))
 case atStart => exact ⟨(y188), (0), (by first | rfl | (simp; done) | (simp [*]; done)), H', ⟨Nat.le_refl _⟩, ⟨rU HO190⟩, ⟨bK⟩, ⟨hB⟩⟩
 case round =>
  clear H'
  try clear p2
  try clear c5
  try clear hcz5_0
  try clear hcz5_1
  try clear hfz5_0
  try clear hfz5_1
  obtain ⟨x3_1, x10_1, rfl, HA, HK1, HO_3, BK187, HB⟩ := hrel
  cases gk with
  | zero => exact absurd HA.out (by simp [impl_puzzleText.l0])
  | succ k1 =>
   have H := HA.out
   clear HA
   simp only [impl_puzzleText.l0] at H
   by_cases c6 : x10_1 < (l0_1.length : Int)
   ·rw [if_pos c6] at H
    have c6b0 : decide (x10_1 < (l0_1.length : Int)) = true := decide_eq_true c6
    clear c6
    by_cases c7 : 0 ≤ x10_1
    ·rw [if_pos c7] at H
     have c7b0 : decide (0 ≤ x10_1) = true := decide_eq_true c7
     clear c7
     by_cases c8 : x10_1 < (l0_1.length : Int)
     ·rw [if_pos c8] at H
      have c8b0 : decide (x10_1 < (l0_1.length : Int)) = true := decide_eq_true c8
      clear c8
      replace H := Option.bind_eq_some_iff.mp H
      obtain ⟨t193, A90, H⟩ := H
      try dsimp only at H
      have A9 := Aside0.mk A90
      clear A90
      by_cases c10 : t193.size + 1 ≤ 9223372036854775807
      ·rw [if_pos c10] at H
       have c10b0 := eq_true c10
       have c10b1 : decide (t193.size + 1 ≤ 9223372036854775807) = true := decide_eq_true c10
       try have c10b2 : (9223372036854775807 < t193.size + 1) = False := eq_false (Nat.not_lt.2 c10)
       replace H := Option.bind_eq_some_iff.mp H
       obtain ⟨t194, A110, H⟩ := H
       try dsimp only at H
       have A11 := Aside0.mk A110
       clear A110
       by_cases c12 : (t193 ++ (⟨#[46]⟩ : ByteArray)).size + t194.size ≤ 9223372036854775807
       ·rw [if_pos c12] at H
        have c12b0 := eq_true c12
        have c12b1 : decide ((t193 ++ (⟨#[46]⟩ : ByteArray)).size + t194.size ≤ 9223372036854775807) = true := decide_eq_true c12
        try have c12b2 : (9223372036854775807 < (t193 ++ (⟨#[46]⟩ : ByteArray)).size + t194.size) = False := eq_false (Nat.not_lt.2 c12)
        have c12m : ¬ (9223372036854775807 < (t193 ++ (⟨#[46]⟩ : ByteArray)).size + t194.size) := Nat.not_lt.2 c12
        simp only [ByteArray.size_append, bsz1] at c12m
        replace c12m := eq_false c12m
        by_cases c13 : ((t193 ++ (⟨#[46]⟩ : ByteArray)) ++ t194).size + 1 ≤ 9223372036854775807
        ·rw [if_pos c13] at H
         have c13b0 := eq_true c13
         have c13b1 : decide (((t193 ++ (⟨#[46]⟩ : ByteArray)) ++ t194).size + 1 ≤ 9223372036854775807) = true := decide_eq_true c13
         try have c13b2 : (9223372036854775807 < ((t193 ++ (⟨#[46]⟩ : ByteArray)) ++ t194).size + 1) = False := eq_false (Nat.not_lt.2 c13)
         have c13m : ¬ (9223372036854775807 < ((t193 ++ (⟨#[46]⟩ : ByteArray)) ++ t194).size + 1) := Nat.not_lt.2 c13
         simp only [ByteArray.size_append, bsz1] at c13m
         replace c13m := eq_false c13m
         replace H := Option.bind_eq_some_iff.mp H
         obtain ⟨t195, A140, H⟩ := H
         try dsimp only at H
         have A14 := Aside0.mk A140
         clear A140
         by_cases c15 : (((t193 ++ (⟨#[46]⟩ : ByteArray)) ++ t194) ++ (⟨#[46]⟩ : ByteArray)).size + t195.size ≤ 9223372036854775807
         ·rw [if_pos c15] at H
          have c15b0 := eq_true c15
          have c15b1 : decide ((((t193 ++ (⟨#[46]⟩ : ByteArray)) ++ t194) ++ (⟨#[46]⟩ : ByteArray)).size + t195.size ≤ 9223372036854775807) = true := decide_eq_true c15
          try have c15b2 : (9223372036854775807 < (((t193 ++ (⟨#[46]⟩ : ByteArray)) ++ t194) ++ (⟨#[46]⟩ : ByteArray)).size + t195.size) = False := eq_false (Nat.not_lt.2 c15)
          have c15m : ¬ (9223372036854775807 < (((t193 ++ (⟨#[46]⟩ : ByteArray)) ++ t194) ++ (⟨#[46]⟩ : ByteArray)).size + t195.size) := Nat.not_lt.2 c15
          simp only [ByteArray.size_append, bsz1] at c15m
          replace c15m := eq_false c15m
          by_cases c16 : x3_1.length < 8796093022208
          ·rw [if_pos c16] at H
           have LMc16 := Aside0.mk c16
           clear c16
           obtain ⟨y196, hy196⟩ : ∃ y_ : List ByteArray, y_ = (x3_1 ++ [(((t193 ++ (⟨#[46]⟩ : ByteArray)) ++ t194) ++ (⟨#[46]⟩ : ByteArray)) ++ t195]) := ⟨_, rfl⟩
           replace H : (impl_puzzleText.l0 k1 y196 l0_1 (l0_1.length : Int) (wrap64 (x10_1 + 1)) a0_0 l0_1) = some r := by first | (rw [hy196]; with_reducible exact H) | (have H2_ := (Option.bind_some _ _).symm.trans H; rw [hy196]; with_reducible exact H2_) | (have H2_ := (Option.bind_some _ _).symm.trans H; with_reducible exact H2_) | with_reducible exact H | (rw [hy196]; exact H) | exact H
           have Ny196 := Aside0.mk hy196
           clear hy196
           have H' := Aside0.mk H
           clear H
           have p191 : 0 ≤ (x10_1 : Int) := of_decide_eq_true (by first | (with_reducible assumption) | assumption)
           have q191 : x10_1 < (l0_1.length : Int) := of_decide_eq_true (by first | (with_reducible assumption) | assumption)
           obtain ⟨ad191, e191, hx191_0, hx191_1, hx191_2⟩ := at_T89 HR0_1.out x10_1 p191 q191
           cases e191
           replace hx191_0 := (HB.out.cell (World.block_lt_of_cell? w _ hx191_0)).trans hx191_0
           replace hx191_1 := (HB.out.cell (World.block_lt_of_cell? w _ hx191_1)).trans hx191_1
           replace hx191_2 := (HB.out.cell (World.block_lt_of_cell? w _ hx191_2)).trans hx191_2
           replace p191 := eq_true p191
           replace q191 := eq_true q191
           try go_wp2_with (first | ((with_reducible refine gate_dst (N := 5) rfl ?_); refine bxE 5 #[.int .i64 0, .int .i64 0, .int .i64 0] 89 rfl ?_; intro gb192 hg w17 hbox hb; have BK192 := Aside0.mk (hbox); have GW192 := gS HB hg; have GE192 := gS HB hg; have NB187_192 := nL BK187 hg; have NB192_187 := nG BK187 hg; replace HO_3 := Aside0.mk (Kd.R_below (rU HO_3) hb); replace BK187 := bS BK187 hb; replace HB := hS HB hb; clear hb hbox hg; have hnb18 := NB192_187.out; have hnc18 := NB187_192.out; have hcz19_0 := cz BK192 0; have hcz19_1 := cz BK192 1; have hcz19_2 := cz BK192 2; have hfz19_0 := fz BK192 0; have hfz19_1 := fz BK192 1; have hfz19_2 := fz BK192 2))
           have n0_ : Aside0 (Kd.R Kd.string 9 (((w17.setCell ⟨gb192, 0, none⟩ (.int .i64 ((rd_T89 l0_1 x10_1).f0))).setCell ⟨gb192, 1, none⟩ (.int .i64 ((rd_T89 l0_1 x10_1).f1))).setCell ⟨gb192, 2, none⟩ (.int .i64 ((rd_T89 l0_1 x10_1).f2))) w.heap.size (fun _ => True) u3 x3_1) := ⟨by (with_reducible repeat (first | apply Kd.R_alloc | apply Kd.R_drewN | apply Kd.R_drew)); exact Kd.R_mono (Kd.R_far (p := ⟨gb192, 2, none⟩) (Kd.R_far (p := ⟨gb192, 1, none⟩) (Kd.R_far (p := ⟨gb192, 0, none⟩) (Kd.R_types HO_3.out BK192.out (by decide)) (fun _ hk => hk.2) (.int .i64 ((rd_T89 l0_1 x10_1).f0))) (fun _ hk => hk.2) (.int .i64 ((rd_T89 l0_1 x10_1).f1))) (fun _ hk => hk.2) (.int .i64 ((rd_T89 l0_1 x10_1).f2))) (fun _ hk => trivial)⟩
           have n1_ : Aside0 ((((w17.setCell ⟨gb192, 0, none⟩ (.int .i64 ((rd_T89 l0_1 x10_1).f0))).setCell ⟨gb192, 1, none⟩ (.int .i64 ((rd_T89 l0_1 x10_1).f1))).setCell ⟨gb192, 2, none⟩ (.int .i64 ((rd_T89 l0_1 x10_1).f2))).heap[gb187]? = some (.cells #[.int .i64 a0_0, .slice (some ad191) l0_1.length c0_1] 53 (0, 0))) := ⟨by (with_reducible repeat (first | refine blk_drewN ?_ _ | refine blk_drew ?_ | refine blk_alloc ?_ _)); refine blk_far ?_ NB187_192.out _; (with_reducible repeat (first | refine blk_drewN ?_ _ | refine blk_drew ?_ | refine blk_alloc ?_ _)); refine blk_far ?_ NB187_192.out _; (with_reducible repeat (first | refine blk_drewN ?_ _ | refine blk_drew ?_ | refine blk_alloc ?_ _)); refine blk_far ?_ NB187_192.out _; (with_reducible repeat (first | refine blk_drewN ?_ _ | refine blk_drew ?_ | refine blk_alloc ?_ _)); exact BK187.out⟩
           have n2_ : Aside0 ((((w17.setCell ⟨gb192, 0, none⟩ (.int .i64 ((rd_T89 l0_1 x10_1).f0))).setCell ⟨gb192, 1, none⟩ (.int .i64 ((rd_T89 l0_1 x10_1).f1))).setCell ⟨gb192, 2, none⟩ (.int .i64 ((rd_T89 l0_1 x10_1).f2))).heap[gb192]? = some (.cells #[.int .i64 ((rd_T89 l0_1 x10_1).f0), .int .i64 ((rd_T89 l0_1 x10_1).f1), .int .i64 ((rd_T89 l0_1 x10_1).f2)] 89 (0, 0))) := ⟨by (with_reducible repeat (first | refine blk_drewN ?_ _ | refine blk_drew ?_ | refine blk_alloc ?_ _)); refine blk_put (cs := #[.int .i64 ((rd_T89 l0_1 x10_1).f0), .int .i64 ((rd_T89 l0_1 x10_1).f1), .int .i64 0]) ?_ 2 _ rfl; (with_reducible repeat (first | refine blk_drewN ?_ _ | refine blk_drew ?_ | refine blk_alloc ?_ _)); refine blk_put (cs := #[.int .i64 ((rd_T89 l0_1 x10_1).f0), .int .i64 0, .int .i64 0]) ?_ 1 _ rfl; (with_reducible repeat (first | refine blk_drewN ?_ _ | refine blk_drew ?_ | refine blk_alloc ?_ _)); refine blk_put (cs := #[.int .i64 0, .int .i64 0, .int .i64 0]) ?_ 0 _ rfl; (with_reducible repeat (first | refine blk_drewN ?_ _ | refine blk_drew ?_ | refine blk_alloc ?_ _)); exact BK192.out⟩
           have n3_ : Aside0 (Below w.heap.size w (((w17.setCell ⟨gb192, 0, none⟩ (.int .i64 ((rd_T89 l0_1 x10_1).f0))).setCell ⟨gb192, 1, none⟩ (.int .i64 ((rd_T89 l0_1 x10_1).f1))).setCell ⟨gb192, 2, none⟩ (.int .i64 ((rd_T89 l0_1 x10_1).f2)))) := ⟨hB⟩
           (try clear HO_3)
           (try clear BK187)
           (try clear BK192)
           (try clear HB)
           generalize (((w17.setCell ⟨gb192, 0, none⟩ (.int .i64 ((rd_T89 l0_1 x10_1).f0))).setCell ⟨gb192, 1, none⟩ (.int .i64 ((rd_T89 l0_1 x10_1).f1))).setCell ⟨gb192, 2, none⟩ (.int .i64 ((rd_T89 l0_1 x10_1).f2))) = w20 at n0_ n1_ n2_ n3_ ⊢
           have HO_3 := n0_
           have BK187 := n1_
           have BK192 := n2_
           have HB := n3_
           clear n0_ n1_ n2_ n3_
           replace HO_3 := Aside0.mk (Kd.R_drew HO_3.out)
           replace BK187 := Aside0.mk (blk_drew BK187.out)
           replace BK192 := Aside0.mk (blk_drew BK192.out)
           replace HB := Aside0.mk (below_drew1 HB.out)
           refine start_ (n := 17) (S := fun w' => w'.cell? ⟨gb192, 0, none⟩ = some (.int .i64 ((rd_T89 l0_1 x10_1).f0)) ∧ w'.cell? ⟨gb192, 1, none⟩ = some (.int .i64 ((rd_T89 l0_1 x10_1).f1)) ∧ w'.cell? ⟨gb192, 2, none⟩ = some (.int .i64 ((rd_T89 l0_1 x10_1).f2))) (ds := []) (bz 17 0) (by kernel_rfl) rfl rfl ⟨(blk_cell BK192.out 0).trans rfl, (blk_cell BK192.out 1).trans rfl, (blk_cell BK192.out 2).trans rfl⟩ (fun hHeld => ?_); refine with_tabW impl_puzzleText.tab5 impl_puzzleText.bits5 (fun HT_ HW_ => ?_)
           generalize w20.drew = w21 at HO_3 BK187 BK192 HB hHeld ⊢
           refine run_ [(0, 0, 1, some 14), (0, 1, 3, some 15), (0, 5, 35, some 19), (0, 10, 1059, some 24), (1, 2, 1063, some 16), (1, 6, 1127, some 20), (1, 11, 3175, some 25)] ?_
           repeat (first | (apply tag0; refine run_p (v := ?_) (a' := ?_) rfl rfl (any_of HT_.out (by kernel_rfl)) (fun _ _ _ h => h) (by rfl) ?_ ?_ ?_; rotate_left 2; (intro w'; go_simp; with_reducible rfl); (first | (simp only [Act.put, List.setIfInBounds_toArray, List.set_cons_zero, List.set_cons_succ, i64_w, i32_w]; rfl) | rfl)) | (apply tag1; refine run_t (v := ?_) (a' := ?_) rfl rfl (take_ofW HT_.out HW_.out (by kernel_rfl)) (fun _ _ _ h => h) (by rfl) ?_ hHeld ?_ ?_; rotate_left 2; (rintro w' ⟨s0, s1, s2⟩; go_simp; with_reducible rfl); (first | (simp only [Act.put, List.setIfInBounds_toArray, List.set_cons_zero, List.set_cons_succ, i64_w, i32_w]; rfl) | rfl)))
           refine run_nil ?_
           refine one_ (i := 3) (N := some 17) (bz 17 3183) rfl rfl (one_of HT_.out (by kernel_rfl)) (by decide) (fun K hK => ?_)
           refine goes_ Tryd.func96 (by kernel_rfl) rfl #[.int .i64 ((rd_T89 l0_1 x10_1).f0)] (by rfl) rfl rfl mapT ?_
           with_reducible refine (strconv_Itoa.calls ((rd_T89 l0_1 x10_1).f0) t193 _ A9.out).mono ?_
           rintro e w22 ⟨rfl, hb⟩
           refine ⟨_, rfl, ?_⟩
           replace HO_3 := Aside0.mk (Kd.R_below (rU HO_3) hb)
           replace BK187 := bS BK187 hb
           replace BK192 := bS BK192 hb
           replace HB := hS HB hb
           (try clear hb)
           (try clear hb2)
           (try clear hk)
           (try clear hi)
           refine hK.out _ _ ⟨(blk_cell BK192.out 0).trans rfl, (blk_cell BK192.out 1).trans rfl, (blk_cell BK192.out 2).trans rfl⟩ (fun hHeld => ?_)
           clear hK K
           refine norm_ (a' := ?_) ?_ ?_
           rotate_left
           ·show Act.put _ (some 17) _ = _
            simp only [Act.put, List.setIfInBounds_toArray, List.set_cons_zero, List.set_cons_succ, i64_w, i32_w]
            rfl
           refine run_ [(0, 4, 3199, some 18)] ?_
           repeat ((apply tag0; refine run_p (v := ?_) (a' := ?_) rfl rfl (any_of HT_.out (by kernel_rfl)) (fun _ _ _ h => h) (by rfl) ?_ ?_ ?_; rotate_left 2; (intro w'; go_simp; with_reducible rfl); (first | (simp only [Act.put, List.setIfInBounds_toArray, List.set_cons_zero, List.set_cons_succ, i64_w, i32_w]; rfl) | rfl)))
           refine run_nil ?_
           refine one_ (i := 7) (N := some 21) (bz 17 3327) rfl rfl (one_of HT_.out (by kernel_rfl)) (by decide) (fun K hK => ?_)
           refine goes_ Tryd.func96 (by kernel_rfl) rfl #[.int .i64 ((rd_T89 l0_1 x10_1).f1)] (by rfl) rfl rfl mapT ?_
           with_reducible refine (strconv_Itoa.calls ((rd_T89 l0_1 x10_1).f1) t194 _ A11.out).mono ?_
           rintro e w23 ⟨rfl, hb⟩
           refine ⟨_, rfl, ?_⟩
           replace HO_3 := Aside0.mk (Kd.R_below (rU HO_3) hb)
           replace BK187 := bS BK187 hb
           replace BK192 := bS BK192 hb
           replace HB := hS HB hb
           (try clear hb)
           (try clear hb2)
           (try clear hk)
           (try clear hi)
           refine hK.out _ _ ⟨(blk_cell BK192.out 0).trans rfl, (blk_cell BK192.out 1).trans rfl, (blk_cell BK192.out 2).trans rfl⟩ (fun hHeld => ?_)
           clear hK K
           refine norm_ (a' := ?_) ?_ ?_
           rotate_left
           ·show Act.put _ (some 21) _ = _
            simp only [Act.put, List.setIfInBounds_toArray, List.set_cons_zero, List.set_cons_succ, i64_w, i32_w]
            rfl
           refine run_ [(0, 8, 3583, some 22), (0, 9, 4095, some 23)] ?_
           repeat ((apply tag0; refine run_p (v := ?_) (a' := ?_) rfl rfl (any_of HT_.out (by kernel_rfl)) (fun _ _ _ h => h) (by rfl) ?_ ?_ ?_; rotate_left 2; (intro w'; go_simp; with_reducible rfl); (first | (simp only [Act.put, List.setIfInBounds_toArray, List.set_cons_zero, List.set_cons_succ, i64_w, i32_w]; rfl) | rfl)))
           refine run_nil ?_
           refine one_ (i := 12) (N := some 26) (bz 17 8191) rfl rfl (one_of HT_.out (by kernel_rfl)) (by decide) (fun K hK => ?_)
           refine goes_ Tryd.func96 (by kernel_rfl) rfl #[.int .i64 ((rd_T89 l0_1 x10_1).f2)] (by rfl) rfl rfl mapT ?_
           with_reducible refine (strconv_Itoa.calls ((rd_T89 l0_1 x10_1).f2) t195 _ A14.out).mono ?_
           rintro e w24 ⟨rfl, hb⟩
           refine ⟨_, rfl, ?_⟩
           replace HO_3 := Aside0.mk (Kd.R_below (rU HO_3) hb)
           replace BK187 := bS BK187 hb
           replace BK192 := bS BK192 hb
           replace HB := hS HB hb
           (try clear hb)
           (try clear hb2)
           (try clear hk)
           (try clear hi)
           refine hK.out _ _ ⟨(blk_cell BK192.out 0).trans rfl, (blk_cell BK192.out 1).trans rfl, (blk_cell BK192.out 2).trans rfl⟩ (fun hHeld => ?_)
           clear hK K
           refine norm_ (a' := ?_) ?_ ?_
           rotate_left
           ·show Act.put _ (some 26) _ = _
            simp only [Act.put, List.setIfInBounds_toArray, List.set_cons_zero, List.set_cons_succ, i64_w, i32_w]
            rfl
           refine run_ [(0, 13, 16383, some 27)] ?_
           repeat ((apply tag0; refine run_p (v := ?_) (a' := ?_) rfl rfl (any_of HT_.out (by kernel_rfl)) (fun _ _ _ h => h) (by rfl) ?_ ?_ ?_; rotate_left 2; (intro w'; go_simp; with_reducible rfl); (first | (simp only [Act.put, List.setIfInBounds_toArray, List.set_cons_zero, List.set_cons_succ, i64_w, i32_w]; rfl) | rfl)))
           refine run_nil ?_
           refine one_ (i := 14) (N := some 28) (bz 17 32767) rfl rfl (one_of HT_.out (by kernel_rfl)) (by decide) (fun K hK => ?_)
           refine value_ (w1 := ?_) (v := ?_) (by rfl) rfl ?_ ?_
           rotate_left 2
           ·go_simp
            constructor
            ·rfl
            ·rfl
           refine hK.out _ _ ⟨(blk_cell (blk_alloc BK192.out _) 0).trans rfl, (blk_cell (blk_alloc BK192.out _) 1).trans rfl, (blk_cell (blk_alloc BK192.out _) 2).trans rfl⟩ (fun hHeld => ?_)
           clear hK K
           refine norm_ (a' := ?_) ?_ ?_
           rotate_left
           ·show Act.put _ (some 28) _ = _
            simp only [Act.put, List.setIfInBounds_toArray, List.set_cons_zero, List.set_cons_succ, i64_w, i32_w]
            rfl
           refine one_ (i := 15) (N := some 29) (bz 17 65535) rfl rfl (one_of HT_.out (by kernel_rfl)) (by decide) (fun K hK => ?_)
           refine Kd.R_append_step Kd.string (w0 := w) w.heap.size (by rfl) (.tmp 14) (.tmp 28) 111 9 (.string ⟨#[]⟩) 16 rfl Tryd.underlying111 info9 rfl (by decide) (by omega) u3 x3_1 ((((t193 ++ (⟨#[46]⟩ : ByteArray)) ++ t194) ++ (⟨#[46]⟩ : ByteArray)) ++ t195) [.string ((((t193 ++ (⟨#[46]⟩ : ByteArray)) ++ t194) ++ (⟨#[46]⟩ : ByteArray)) ++ t195)] (fun _ => True) (fun _ => False) rfl rfl ?aP (fun _ hk => hk.elim) ?aF ?aO ?aB ?aS ?aL ?_
           (case aP => exact rfl)
           (case aB => exact hB)
           (case aF => exact (fun _ _ => trivial))
           (case aO => exact (rU HO_3))
           (case aS => exact (below_size hB))
           (case aL => have := LMc16.out; omega)
           intro v197 w25 ho hb hg hat
           rw [← Ny196.out] at ho
           have n0_ := Aside0.mk (blk_grown (g := gb187) (o := .cells #[.int .i64 a0_0, .slice (some ad191) l0_1.length c0_1] 53 (0, 0)) bK hg (Kd.R_ne HO_3.out BK187.out (by decide)))
           have n1_ := Aside0.mk (blk_grown (g := gb192) (o := .cells #[.int .i64 ((rd_T89 l0_1 x10_1).f0), .int .i64 ((rd_T89 l0_1 x10_1).f1), .int .i64 ((rd_T89 l0_1 x10_1).f2)] 89 (0, 0)) bK hg (Kd.R_ne HO_3.out BK192.out (by decide)))
           have n2_ := Aside0.mk (hb)
           have n3_ := Aside0.mk (ho)
           clear BK187
           clear BK192
           clear HB
           clear HO_3
           have BK187 := n0_
           have BK192 := n1_
           have HB := n2_
           have HO198 := n3_
           clear n0_ n1_ n2_ n3_
           clear ho hb hg hat
           refine hK.out _ _ ⟨(blk_cell BK192.out 0).trans rfl, (blk_cell BK192.out 1).trans rfl, (blk_cell BK192.out 2).trans rfl⟩ (fun hHeld => ?_)
           clear hK K
           refine norm_ (a' := ?_) ?_ ?_
           rotate_left
           ·show Act.put _ (some 29) _ = _
            simp only [Act.put, List.setIfInBounds_toArray, List.set_cons_zero, List.set_cons_succ, i64_w, i32_w]
            rfl
           refine run_ [(0, 16, 131071, some 3)] ?_
           repeat ((apply tag0; refine run_p (v := ?_) (a' := ?_) rfl rfl (any_of HT_.out (by kernel_rfl)) (fun _ _ _ h => h) (by rfl) ?_ ?_ ?_; rotate_left 2; (intro w'; go_simp; with_reducible rfl); (first | (simp only [Act.put, List.setIfInBounds_toArray, List.set_cons_zero, List.set_cons_succ, i64_w, i32_w]; rfl) | rfl)))
           refine run_nil ?_
           refine done_ (done_of HT_.out (by kernel_rfl)) ?_
           try go_wp2
           go_roundg k1
           case measure => have := HK1.out; omega
           case rel => exact ⟨(y196), (wrap64 (x10_1 + 1)), (by first | rfl | (simp; done) | (simp [*]; done)), H', ⟨by have := HK1.out; omega⟩, ⟨rU HO198⟩, ⟨bK⟩, ⟨hB⟩⟩
          ·rw [if_neg c16] at H
           exact absurd H (by simp)
         ·rw [if_neg c15] at H
          exact absurd H (by simp)
        ·rw [if_neg c13] at H
         exact absurd H (by simp)
       ·rw [if_neg c12] at H
        exact absurd H (by simp)
      ·rw [if_neg c10] at H
       exact absurd H (by simp)
     ·rw [if_neg c8] at H
      exact absurd H (by simp)
    ·rw [if_neg c7] at H
     exact absurd H (by simp)
   ·rw [if_neg c6] at H
    have c6b0 : decide (x10_1 < (l0_1.length : Int)) = false := decide_eq_false c6
    clear c6
    replace H := Option.bind_eq_some_iff.mp H
    obtain ⟨t199, A260, H⟩ := H
    try dsimp only at H
    have A26 := Aside0.mk A260
    clear A260
    by_cases c27 : t199.size + 1 ≤ 9223372036854775807
    ·rw [if_pos c27] at H
     have c27b0 := eq_true c27
     have c27b1 : decide (t199.size + 1 ≤ 9223372036854775807) = true := decide_eq_true c27
     try have c27b2 : (9223372036854775807 < t199.size + 1) = False := eq_false (Nat.not_lt.2 c27)
     replace H := Option.bind_eq_some_iff.mp H
     obtain ⟨t200, A280, H⟩ := H
     try dsimp only at H
     have A28 := Aside0.mk A280
     clear A280
     by_cases c29 : (t199 ++ (⟨#[58]⟩ : ByteArray)).size + t200.size ≤ 9223372036854775807
     ·rw [if_pos c29] at H
      have c29b0 := eq_true c29
      have c29b1 : decide ((t199 ++ (⟨#[58]⟩ : ByteArray)).size + t200.size ≤ 9223372036854775807) = true := decide_eq_true c29
      try have c29b2 : (9223372036854775807 < (t199 ++ (⟨#[58]⟩ : ByteArray)).size + t200.size) = False := eq_false (Nat.not_lt.2 c29)
      have c29m : ¬ (9223372036854775807 < (t199 ++ (⟨#[58]⟩ : ByteArray)).size + t200.size) := Nat.not_lt.2 c29
      simp only [ByteArray.size_append, bsz1] at c29m
      replace c29m := eq_false c29m
      obtain rfl := Option.some.inj H
      have hcz30_0 := cz BK187 0
      have hcz30_1 := cz BK187 1
      have hfz30_0 := fz BK187 0
      have hfz30_1 := fz BK187 1
      go_wp2_with (first | ((with_reducible refine gate_callee (f := 96) rfl ?_); refine goC (N := some 33) Tryd.func96 #[.int .i64 a0_0] rfl ?_; (with_reducible refine (strconv_Itoa.calls a0_0 t199 _ A26.out).mono ?_); rintro e w31 ⟨rfl, hb⟩; refine ⟨_, rfl, ?_⟩; replace HO_3 := Aside0.mk (Kd.R_below (rU HO_3) hb); replace BK187 := bS BK187 hb; replace HB := hS HB hb; (try clear hb); (try clear hb2); (try clear hk); (try clear hi); obtain ⟨Ao32, co32, eo32⟩ := Kd.R_slice HO_3.out; subst eo32) | ((with_reducible refine gate_callee (f := 97) rfl ?_); refine goC (N := some 36) Tryd.func97 #[.slice Ao32 x3_1.length co32, .string (⟨#[44]⟩ : ByteArray)] rfl ?_; (with_reducible refine (strings_Join.calls _ _ x3_1 (⟨#[44]⟩ : ByteArray) t200 _ ?side1 ?side2 A28.out).mono ?_); (case side1 => exact cS (Kd.R_reads' HO_3.out).2.2); (case side2 => exact (Kd.R_reads' HO_3.out).2.1); rintro e w33 ⟨rfl, hb⟩; refine ⟨_, rfl, ?_⟩; replace HO_3 := Aside0.mk (Kd.R_below (rU HO_3) hb); replace BK187 := bS BK187 hb; replace HB := hS HB hb; (try clear hb); (try clear hb2); (try clear hk); (try clear hi)))
      go_ret
      exact ⟨by first | rfl | (simp [errW_none, errW_some] <;> rfl) | (simp [*, errW_none, errW_some] <;> rfl), hB⟩
     ·rw [if_neg c29] at H
      exact absurd H (by simp)
    ·rw [if_neg c27] at H
     exact absurd H (by simp)

/-! ### slices_Chunk_int_int_1: function 91 (a text of this session's own) -/
-- WANTS Derived.RangeFuncBox
-- WANTS Derived.RangeFuncLeaves
-- WANTS Derived.RangeFuncCalls
-- WANTS Derived.RangeFuncWrites
-- WANTS Derived.Shelf.RegionOpen
-- WANTS Derived.OwnWalkIn
-- WANTS Derived.TacticsInMore
-- WANTS Derived.LoopNIn
-- WANTS Derived.LoopIn
attribute [local go_sem] Oper.semAt_some
/-- The two boxes of the chunks' maker lie as they lay. -/
def slices_Chunk_int_int_1.Kp (Bs Bn : Nat) (W W' : World) : Prop := W'.heap[Bs]? = W.heap[Bs]? ∧ W'.heap[Bn]? = W.heap[Bn]?
theorem slices_Chunk_int_int_1.Kp.cell {Bs Bn : Nat} {W W' : World} (h : slices_Chunk_int_int_1.Kp Bs Bn W W') : W'.cell? ⟨Bs, 0, none⟩ = W.cell? ⟨Bs, 0, none⟩ ∧ W'.cell? ⟨Bn, 0, none⟩ = W.cell? ⟨Bn, 0, none⟩ := by
  constructor
  · unfold World.cell?; rw [show W'.heap[(⟨Bs, 0, none⟩ : Addr).block]? = W.heap[(⟨Bs, 0, none⟩ : Addr).block]? from h.1]
  · unfold World.cell?; rw [show W'.heap[(⟨Bn, 0, none⟩ : Addr).block]? = W.heap[(⟨Bn, 0, none⟩ : Addr).block]? from h.2]
set_option maxHeartbeats 4000000 in
set_option maxRecDepth 100000 in
theorem slices_Chunk_int_int_1.stops (n : Nat) (hn : 1 ≤ n) (Bs Bn A off m c cap : Nat) (hc : 1 ≤ c) (hm : c * m ≤ 2000000) (hcap : c * m ≤ cap) (w : World) (hs : w.cell? ⟨Bs, 0, none⟩ = some (.slice (some ⟨A, off, none⟩) (c * m) cap)) (hv : w.cell? ⟨Bn, 0, none⟩ = some (.int .i64 (c : Int))) :
    SeqStopsK Fence.wide n Tryd.prog 91 #[.pointer (some ⟨Bs, 0, none⟩), .pointer (some ⟨Bn, 0, none⟩)] (fun x : Nat => #[Value.slice (some ⟨A, off + c * (x % m), none⟩) c c]) (slices_Chunk_int_int_1.Kp Bs Bn) (fun ys => ys = List.range m) (fun _ => True) m w := fun l J Jx W hW hJa _ hY h0 => by
  have hs' := (hW.cell (p := ⟨Bs, 0, none⟩) (World.block_lt_of_cell? w _ hs)).trans hs
  have hv' := (hW.cell (p := ⟨Bn, 0, none⟩) (World.block_lt_of_cell? w _ hv)).trans hv
  have hmx : Tryd.prog.follows .mixedOrders = true := by kernel_rfl
  refine callsIn_of_wp Tryd.func91 rfl trivial ?_ rfl
  simp only [Tryd.ntmps91, List.size_toArray, List.length_cons, List.length_nil, Nat.reduceAdd, Nat.reduceSub, Array.replicate_succ, Array.replicate_zero, List.push_toArray, List.append_toArray, List.nil_append, List.cons_append]
  gi_wp2
  gi_loopw [4] (fun i wr => ∃ k : Nat, k ≤ m ∧ i = .int .i64 ((c * k : Nat) : Int) ∧ J (List.range k) wr ∧ slices_Chunk_int_int_1.Kp Bs Bn W wr)
    (fun i _ => c * m - (intOf i).toNat)
  case atStart => exact ⟨0, Nat.zero_le _, rfl, h0, rfl, rfl⟩
  case round =>
    obtain ⟨k, hk, rfl, hJs, hKp⟩ := hrel
    have hs2 := hKp.cell.1.trans hs'
    have hv2 := hKp.cell.2.trans hv'
    by_cases hlt : k < m
    · have hck : c * k + c ≤ c * m := by rw [← Nat.mul_succ]; exact Nat.mul_le_mul (Nat.le_refl c) hlt
      obtain ⟨fn, tmps, assign, body, hy, hR⟩ := hY _ k wr.drew (hJa _ _ _ none hJs ⟨rfl, rfl, rfl, Nat.le_refl _, fun _ _ _ => rfl⟩ (fun r e => by cases e)) (by rw [List.length_range]; exact hlt)
      rw [Nat.mod_eq_of_lt hlt] at hy
      have hnext : c * (k + 1) = c * k + c := Nat.mul_succ c k
      obtain ⟨a, ha⟩ : ∃ a_, a_ = c * k := ⟨_, rfl⟩
      obtain ⟨L, hL⟩ : ∃ L_, L_ = c * m := ⟨_, rfl⟩
      rw [← ha] at hck hy hnext ⊢
      rw [← hL] at hck hm hcap hs2
      have d1 : decide ((a : Int) < (L : Int)) = true := decide_eq_true (by omega)
      have HA := Aside0.mk ha
      have HL := Aside0.mk hL
      clear ha hL
      gi_wp2
      gi_region_o
      gi_wp2
      refine hR.mono ?_
      rintro e W3 (⟨rfl, hJ3, hk3⟩ | ⟨rfl, hx3⟩)
      · have hK3 : slices_Chunk_int_int_1.Kp Bs Bn W W3 := ⟨hk3.1.trans hKp.1, hk3.2.trans hKp.2⟩
        have hv3 := hK3.cell.2.trans hv'
        have hw : wrap64 ((a : Int) + (c : Int)) = (((a + c : Nat)) : Int) := by rw [wrap_id (by omega) (by omega)]; omega
        gi_wp2
        go_roundw
        case rel => exact ⟨k + 1, hlt, by first | (rw [hnext]; rfl) | (rw [hnext]; simp; done), by rw [List.range_succ]; exact hJ3, hK3⟩
        case measure =>
          rw [← HL.out]
          simp [intOf]
          omega
      · gi_wp2
        refine bodyPost_ret (results_none rfl _ _ _) rfl ?_
        exact ⟨⟨_, rfl⟩, .inr ⟨_, trivial, hx3⟩⟩
    · obtain rfl : k = m := by omega
      have d1 : decide (((c * k : Nat) : Int) < ((c * k : Nat) : Int)) = false := decide_eq_false (by omega)
      gi_wp2
      go_end0
      exact ⟨⟨_, rfl⟩, .inl ⟨_, rfl, hJs⟩⟩

end Go.Proofs.YtfehaoadnbcgoaaDoor.PFnExactParsePuzzle
