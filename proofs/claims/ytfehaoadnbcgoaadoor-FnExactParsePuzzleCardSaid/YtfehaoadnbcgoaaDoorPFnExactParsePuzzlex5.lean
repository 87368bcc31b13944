-- Of this session's own program wip/gen/gen.py (it drives the kit's print): contracts of the functions that the law reaches.
import Derived.Laws.Runes
import Derived.Shelf.Strconv.AtoiAll
import Derived.Shelf.Strconv.Itoa3
import Derived.Shelf.Strings.FieldsFuncGrows
import Derived.WalkMore
import Derived.Test.YtfehaoadnbcgoaaDoorPFnExactParsePuzzlex0
namespace Go.Proofs.YtfehaoadnbcgoaaDoor.PFnExactParsePuzzle
open Go.RowKit Go.Proofs.YtfehaoadnbcgoaaDoorW.PrintWords Go.Proofs.YtfehaoadnbcgoaaDoorW.PrintLast Go.Proofs.YtfehaoadnbcgoaaDoorW.PrintMore Go.Proofs.YtfehaoadnbcgoaaDoor.Base
attribute [local go_sem] max2_int min2_int max_two min_two max_three min_three max_four min_four   -- for this text's walks alone
set_option linter.unusedVariables false
set_option linter.unusedSimpArgs false

/-! ### strings_IndexRune: function 110 (a text of this session's own) -/
-- WANTS Derived.Shelf.Strings.FieldsFuncGrows
-- WANTS Derived.Laws.Runes
-- WANTS Derived.WalkMore

def strings_IndexRune.T6 : Bool × List (List Nat × List Nat) := (true, [([], []), ([], []), ([0, 1], [0, 1]), ([], []), ([], []), ([3, 4], [3, 4]), ([2, 5], [2, 5])])
def strings_IndexRune.B6 : List Nat := [0, 0, 3, 0, 0, 24, 63]
theorem strings_IndexRune.tab6 : rtab .any (opsOf Tryd.f110 6) = strings_IndexRune.T6 := by kernel_rfl
theorem strings_IndexRune.bits6 : waitsOk strings_IndexRune.T6.2 strings_IndexRune.B6 = true := by kernel_rfl
def strings_IndexRune.T7 : Bool × List (List Nat × List Nat) := (true, [([], []), ([], []), ([1], [1]), ([0, 2], [0, 2]), ([], []), ([], []), ([4, 5], [4, 5]), ([3, 6], [3, 6]), ([7, 7, 0, 1, 2, 3, 4, 5, 6, 7], [7])])
def strings_IndexRune.B7 : List Nat := [0, 0, 2, 7, 0, 0, 48, 127, 255]
theorem strings_IndexRune.tab7 : rtab .any (opsOf Tryd.f110 7) = strings_IndexRune.T7 := by kernel_rfl
theorem strings_IndexRune.bits7 : waitsOk strings_IndexRune.T7.2 strings_IndexRune.B7 = true := by kernel_rfl
set_option maxHeartbeats 4000000 in
set_option maxRecDepth 100000 in
theorem strings_IndexRune.ib (s : ByteArray) (c : Int) (w : World) : Calls Tryd.prog 120 #[.string s, .int .u8 c] w fun e w' => e = .returned (.int .i64 (firstIdx s (UInt8.ofNat c.toNat))) ∧ w' = w := by
  go_enter Tryd.func120, Tryd.ntmps120
  go_wp2
  rw [run_callFunc_extern Tryd.func141 (by kernel_rfl) (by kernel_rfl) (by kernel_rfl) (e := Extern.BytealgIndexByte.indexByte) (by kernel_rfl), run_indexByte_string]
  go_wp2
  go_ret
  exact ⟨rfl, rfl⟩
set_option maxHeartbeats 4000000 in
set_option maxRecDepth 100000 in
theorem strings_IndexRune.near (s : ByteArray) (r : Int) (h0 : 0 ≤ r) (h1 : r < 128) (w : World) :
    Calls Tryd.prog 110 #[.string s, .int .i32 r] w fun e w' => e = .returned (.int .i64 (firstIdx s (UInt8.ofNat r.toNat))) ∧ Below w.heap.size w w' := by
  have c0 : decide (0 ≤ r) = true := decide_eq_true h0
  have c1 : decide (r < 128) = true := decide_eq_true h1
  have hw : IntKind.u8.wrap r = r := by simp [IntKind.wrap, IntKind.bits, IntKind.signed]; omega
  go_enter Tryd.func110, Tryd.ntmps110
  go_wp2_with (go_at_call 120; refine (strings_IndexRune.ib _ _ _).mono ?_; rintro e w5 ⟨rfl, hw5⟩)
  go_ret
  exact ⟨rfl, by first | exact Below.refl _ _ | (rw [hw5]; exact Below.refl _ _)⟩
set_option maxHeartbeats 4000000 in
set_option maxRecDepth 100000 in
theorem strings_IndexRune.badP (w : World) :
    Calls Tryd.prog 110 #[.string ⟨#[58, 46, 44]⟩, .int .i32 65533] w fun e w' => e = .returned (.int .i64 (-1)) ∧ Below w.heap.size w w' := by
  have hall : ∀ pos (h : pos < ({ data := #[58, 46, 44] } : ByteArray).size), (({ data := #[58, 46, 44] } : ByteArray)[pos]'h).toNat < 128 := by decide
  obtain ⟨S, hS⟩ : ∃ S_ : ByteArray, S_ = ({ data := #[58, 46, 44] } : ByteArray) := ⟨_, rfl⟩
  rw [← hS] at hall ⊢
  have hsz : S.size = 3 := by rw [hS]; rfl
  clear hS
  go_enter Tryd.func110, Tryd.ntmps110
  go_wp2
  go_loopg [5] 3 (fun kq v5 W => ∃ pos : Nat, pos + kq = 3 ∧ W.heap[w.heap.size]? = some (.stringIter S pos) ∧ Below w.heap.size w W)
  case atStart => exact ⟨0, rfl, World.iter_heap w S 0, below_alloc (Below.refl _ _) _⟩
  case round =>
    obtain ⟨pos, hp, hit, hb⟩ := hrel
    by_cases hlt : pos < S.size
    · have hc := hall pos hlt
      have hnx := fun ty => Lib.run_next_ascii_at (P := Tryd.prog) wr w.heap.size S pos ty hit hlt hc
      have hne : (((S[pos].toNat : Nat) : Int) == 65533) = false := beq_eq_false_iff_ne.mpr (by omega)
      have hit2 := Lib.iterAt_heap wr w.heap.size S pos (pos + 1) hit
      have hb2 := Lib.below_iterAt hb (k := w.heap.size) (Nat.le_refl _) S (pos + 1)
      go_wp2
      go_roundg (gk - 1)
      case measure => omega
      case rel => exact ⟨pos + 1, by omega, hit2, hb2⟩
    · have hnx := fun ty => Lib.run_next_end_at (P := Tryd.prog) wr w.heap.size S pos ty hit hlt
      go_wp2
      go_ret
      exact ⟨rfl, by first | exact hb | exact pw_below_drewN hb _⟩
set_option maxHeartbeats 4000000 in
set_option maxRecDepth 100000 in
theorem strings_IndexRune.farP (r : Int) (h0 : 128 ≤ r) (h1 : r ≤ 1114111) (hne : r ≠ 65533) (w : World) :
    Calls Tryd.prog 110 #[.string ⟨#[58, 46, 44]⟩, .int .i32 r] w fun e w' => e = .returned (.int .i64 (-1)) ∧ Below w.heap.size w w' := by
  have c0 : decide (0 ≤ r) = true := decide_eq_true (by omega)
  have c1 : decide (r < 128) = false := decide_eq_false (by omega)
  have c2 : (r == 65533) = false := beq_eq_false_iff_ne.mpr hne
  have c5 : decide (r ≤ 1114111) = true := decide_eq_true h1
  by_cases hv : r < 55296 ∨ 57343 < r
  · have hV : Utf8.valid r = true := by rw [validRune_eq]; exact decide_eq_true (by omega)
    obtain ⟨hE2, hE4, hEl⟩ := encode_facts r hV h0
    obtain ⟨E, hE⟩ : ∃ E_, E_ = Utf8.encode r := ⟨_, rfl⟩
    rw [← hE] at hE2 hE4 hEl
    have hEl2 := hEl (by omega)
    rcases hv with hv | hv
    · have c3 : decide (r < 55296) = true := decide_eq_true hv
      go_enter Tryd.func110, Tryd.ntmps110
      go_wp2
      go_step3
      go_wp2
      rw [← hE]
      clear hE hV hv hEl c3
      have hn : E.size = 2 ∨ E.size = 3 ∨ E.size = 4 := by omega
      rcases hn with hn | hn | hn
      · have hi : wrap64 ((E.size : Int) - 1) = 1 := by rw [hn, wrap_id (by omega) (by omega)]; rfl
        have hj : 1 < E.size := by omega
        have h2 : 128 ≤ E[1].toNat := by simpa [hn] using hEl2
        have hne1 : (((({ data := #[58, 46, 44] } : ByteArray)[1].toNat : Nat) : Int) != ((E[1].toNat : Nat) : Int)) = true := by
          have h3 : ∀ h : 1 < ({ data := #[58, 46, 44] } : ByteArray).size, (({ data := #[58, 46, 44] } : ByteArray)[1]'h).toNat < 128 := by decide
          have h3 := h3 (by decide)
          exact bne_iff_ne.mpr (by omega)
        have hw2 : wrap64 2 = 2 := wrap_id (by omega) (by omega)
        have hfi : firstIdx (({ data := #[58, 46, 44] } : ByteArray).extract 2 3) (UInt8.ofNat (((E[1].toNat : Nat) : Int)).toNat) = -1 := firstIdx_ascii ({ data := #[58, 46, 44] } : ByteArray) 2 3 _ (by decide) (by rw [Int.toNat_natCast, UInt8.ofNat_toNat]; exact h2)
        rw [hi]
        go_loopg [9, 10] 1 (fun kq v9 v10 W => v9 = .int .i64 1 ∧ v10 = .int .i64 0 ∧ W = w)
        case atStart => exact ⟨rfl, rfl, rfl⟩
        case round =>
          obtain ⟨rfl, rfl, rfl⟩ := hrel
          go_wp2
          go_step3
          go_wp2
          refine start_ (n := 7) (S := fun _ => True) (ds := []) (bz 7 0) (by kernel_rfl) rfl rfl trivial (fun hHeld => ?_)
          refine with_tabW strings_IndexRune.tab6 strings_IndexRune.bits6 (fun HT_ HW_ => ?_)
          refine run_ [(0, 0, 1, some 27), (0, 1, 3, some 28), (0, 2, 7, some 29), (0, 3, 15, some 30), (0, 4, 31, some 31), (0, 5, 63, some 32), (0, 6, 127, some 33)] ?_
          repeat (first | (apply tag0; refine run_p (v := ?_) (a' := ?_) rfl rfl (any_of HT_.out (by kernel_rfl)) (fun _ _ _ h => h) (by rfl) ?_ ?_ ?_; rotate_left 2; (intro w'; go_simp; with_reducible rfl); (first | (simp only [Act.put, List.setIfInBounds_toArray, List.set_cons_zero, List.set_cons_succ, i64_w, i32_w]; rfl) | rfl)))
          refine run_nil ?_
          refine done_ (done_of HT_.out (by kernel_rfl)) ?_
          clear HT_ HW_ hHeld
          go_wp2
          refine start_ (n := 9) (S := fun _ => True) (ds := []) (bz 9 0) (by kernel_rfl) rfl rfl trivial (fun hHeld => ?_)
          refine with_tabW strings_IndexRune.tab7 strings_IndexRune.bits7 (fun HT_ HW_ => ?_)
          refine run_ [(0, 0, 1, some 34), (0, 1, 3, some 35), (0, 2, 7, some 36), (0, 3, 15, some 37), (0, 4, 31, some 38), (0, 5, 63, some 39), (0, 6, 127, some 40)] ?_
          repeat (first | (apply tag0; refine run_p (v := ?_) (a' := ?_) rfl rfl (any_of HT_.out (by kernel_rfl)) (fun _ _ _ h => h) (by rfl) ?_ ?_ ?_; rotate_left 2; (intro w'; go_simp; with_reducible rfl); (first | (simp only [Act.put, List.setIfInBounds_toArray, List.set_cons_zero, List.set_cons_succ, i64_w, i32_w]; rfl) | rfl)))
          refine run_nil ?_
          refine one_ (i := 7) (N := some 41) (bz 9 255) rfl rfl (one_of HT_.out (by kernel_rfl)) (by decide) (fun K hK => ?_)
          refine goes_ Tryd.func120 (by kernel_rfl) rfl #[.string (({ data := #[58, 46, 44] } : ByteArray).extract 2 3), .int .u8 ((E[1].toNat : Nat) : Int)] (by rfl) rfl rfl (by first | rfl | exact mapT) ?_
          refine (strings_IndexRune.ib _ _ _).mono ?_
          rintro e w5 ⟨he, hw5⟩
          rw [hfi] at he
          subst he
          refine ⟨_, rfl, ?_⟩
          have HB5 := Aside0.mk (show Below wr.heap.size wr w5 from by rw [hw5]; repeat (first | exact Below.refl _ _ | apply below_drew1 | apply pw_below_drewN))
          clear hw5
          refine hK.out _ _ trivial (fun hHeld2 => ?_)
          clear hK K
          refine norm_ (a' := ?_) ?_ ?_
          rotate_left
          · show Act.put _ (some 41) _ = _
            simp only [Act.put, List.setIfInBounds_toArray, List.set_cons_zero, List.set_cons_succ, i64_w, i32_w]
            rfl
          refine run_ [(0, 8, 511, some 11)] ?_
          repeat (first | (apply tag0; refine run_p (v := ?_) (a' := ?_) rfl rfl (any_of HT_.out (by kernel_rfl)) (fun _ _ _ h => h) (by rfl) ?_ ?_ ?_; rotate_left 2; (intro w'; go_simp; with_reducible rfl); (first | (simp only [Act.put, List.setIfInBounds_toArray, List.set_cons_zero, List.set_cons_succ, i64_w, i32_w]; rfl) | rfl)))
          refine run_nil ?_
          refine done_ (done_of HT_.out (by kernel_rfl)) ?_
          clear HT_ HW_ hHeld hHeld2
          go_wp2
          (try simp only [Exit.noGoto_ret, Exit.inBlock, Exit.then])
          go_ret
          exact ⟨rfl, by first | exact HB5.out | exact pw_below_drewN HB5.out _⟩
      · have hi : wrap64 ((E.size : Int) - 1) = 2 := by rw [hn, wrap_id (by omega) (by omega)]; rfl
        have hj : 2 < E.size := by omega
        have h2 : 128 ≤ E[2].toNat := by simpa [hn] using hEl2
        have hne1 : (((({ data := #[58, 46, 44] } : ByteArray)[2].toNat : Nat) : Int) != ((E[2].toNat : Nat) : Int)) = true := by
          have h3 : ∀ h : 2 < ({ data := #[58, 46, 44] } : ByteArray).size, (({ data := #[58, 46, 44] } : ByteArray)[2]'h).toNat < 128 := by decide
          have h3 := h3 (by decide)
          exact bne_iff_ne.mpr (by omega)
        have hw2 : wrap64 3 = 3 := wrap_id (by omega) (by omega)
        have hfi : firstIdx (({ data := #[58, 46, 44] } : ByteArray).extract 3 3) (UInt8.ofNat (((E[2].toNat : Nat) : Int)).toNat) = -1 := firstIdx_ascii ({ data := #[58, 46, 44] } : ByteArray) 3 3 _ (by decide) (by rw [Int.toNat_natCast, UInt8.ofNat_toNat]; exact h2)
        rw [hi]
        go_loopg [9, 10] 1 (fun kq v9 v10 W => v9 = .int .i64 2 ∧ v10 = .int .i64 0 ∧ W = w)
        case atStart => exact ⟨rfl, rfl, rfl⟩
        case round =>
          obtain ⟨rfl, rfl, rfl⟩ := hrel
          go_wp2
          go_step3
          go_wp2
          refine start_ (n := 7) (S := fun _ => True) (ds := []) (bz 7 0) (by kernel_rfl) rfl rfl trivial (fun hHeld => ?_)
          refine with_tabW strings_IndexRune.tab6 strings_IndexRune.bits6 (fun HT_ HW_ => ?_)
          refine run_ [(0, 0, 1, some 27), (0, 1, 3, some 28), (0, 2, 7, some 29), (0, 3, 15, some 30), (0, 4, 31, some 31), (0, 5, 63, some 32), (0, 6, 127, some 33)] ?_
          repeat (first | (apply tag0; refine run_p (v := ?_) (a' := ?_) rfl rfl (any_of HT_.out (by kernel_rfl)) (fun _ _ _ h => h) (by rfl) ?_ ?_ ?_; rotate_left 2; (intro w'; go_simp; with_reducible rfl); (first | (simp only [Act.put, List.setIfInBounds_toArray, List.set_cons_zero, List.set_cons_succ, i64_w, i32_w]; rfl) | rfl)))
          refine run_nil ?_
          refine done_ (done_of HT_.out (by kernel_rfl)) ?_
          clear HT_ HW_ hHeld
          go_wp2
          refine start_ (n := 9) (S := fun _ => True) (ds := []) (bz 9 0) (by kernel_rfl) rfl rfl trivial (fun hHeld => ?_)
          refine with_tabW strings_IndexRune.tab7 strings_IndexRune.bits7 (fun HT_ HW_ => ?_)
          refine run_ [(0, 0, 1, some 34), (0, 1, 3, some 35), (0, 2, 7, some 36), (0, 3, 15, some 37), (0, 4, 31, some 38), (0, 5, 63, some 39), (0, 6, 127, some 40)] ?_
          repeat (first | (apply tag0; refine run_p (v := ?_) (a' := ?_) rfl rfl (any_of HT_.out (by kernel_rfl)) (fun _ _ _ h => h) (by rfl) ?_ ?_ ?_; rotate_left 2; (intro w'; go_simp; with_reducible rfl); (first | (simp only [Act.put, List.setIfInBounds_toArray, List.set_cons_zero, List.set_cons_succ, i64_w, i32_w]; rfl) | rfl)))
          refine run_nil ?_
          refine one_ (i := 7) (N := some 41) (bz 9 255) rfl rfl (one_of HT_.out (by kernel_rfl)) (by decide) (fun K hK => ?_)
          refine goes_ Tryd.func120 (by kernel_rfl) rfl #[.string (({ data := #[58, 46, 44] } : ByteArray).extract 3 3), .int .u8 ((E[2].toNat : Nat) : Int)] (by rfl) rfl rfl (by first | rfl | exact mapT) ?_
          refine (strings_IndexRune.ib _ _ _).mono ?_
          rintro e w5 ⟨he, hw5⟩
          rw [hfi] at he
          subst he
          refine ⟨_, rfl, ?_⟩
          have HB5 := Aside0.mk (show Below wr.heap.size wr w5 from by rw [hw5]; repeat (first | exact Below.refl _ _ | apply below_drew1 | apply pw_below_drewN))
          clear hw5
          refine hK.out _ _ trivial (fun hHeld2 => ?_)
          clear hK K
          refine norm_ (a' := ?_) ?_ ?_
          rotate_left
          · show Act.put _ (some 41) _ = _
            simp only [Act.put, List.setIfInBounds_toArray, List.set_cons_zero, List.set_cons_succ, i64_w, i32_w]
            rfl
          refine run_ [(0, 8, 511, some 11)] ?_
          repeat (first | (apply tag0; refine run_p (v := ?_) (a' := ?_) rfl rfl (any_of HT_.out (by kernel_rfl)) (fun _ _ _ h => h) (by rfl) ?_ ?_ ?_; rotate_left 2; (intro w'; go_simp; with_reducible rfl); (first | (simp only [Act.put, List.setIfInBounds_toArray, List.set_cons_zero, List.set_cons_succ, i64_w, i32_w]; rfl) | rfl)))
          refine run_nil ?_
          refine done_ (done_of HT_.out (by kernel_rfl)) ?_
          clear HT_ HW_ hHeld hHeld2
          go_wp2
          (try simp only [Exit.noGoto_ret, Exit.inBlock, Exit.then])
          go_ret
          exact ⟨rfl, by first | exact HB5.out | exact pw_below_drewN HB5.out _⟩
      · have hi : wrap64 ((E.size : Int) - 1) = 3 := by rw [hn, wrap_id (by omega) (by omega)]; rfl
        rw [hi]
        go_loopg [9, 10] 1 (fun kq v9 v10 W => v9 = .int .i64 3 ∧ v10 = .int .i64 0 ∧ W = w)
        case atStart => exact ⟨rfl, rfl, rfl⟩
        case round =>
          obtain ⟨rfl, rfl, rfl⟩ := hrel
          go_wp2
          (try simp only [Exit.noGoto_ret, Exit.inBlock, Exit.then])
          go_ret
          exact ⟨rfl, by first | exact Below.refl _ _ | exact pw_below_drewN (Below.refl _ _) _⟩
    · have c3 : decide (r < 55296) = false := decide_eq_false (by omega)
      have c4 : decide (57343 < r) = true := decide_eq_true hv
      go_enter Tryd.func110, Tryd.ntmps110
      go_wp2
      go_step3
      go_wp2
      rw [← hE]
      clear hE hV hv hEl c3
      have hn : E.size = 2 ∨ E.size = 3 ∨ E.size = 4 := by omega
      rcases hn with hn | hn | hn
      · have hi : wrap64 ((E.size : Int) - 1) = 1 := by rw [hn, wrap_id (by omega) (by omega)]; rfl
        have hj : 1 < E.size := by omega
        have h2 : 128 ≤ E[1].toNat := by simpa [hn] using hEl2
        have hne1 : (((({ data := #[58, 46, 44] } : ByteArray)[1].toNat : Nat) : Int) != ((E[1].toNat : Nat) : Int)) = true := by
          have h3 : ∀ h : 1 < ({ data := #[58, 46, 44] } : ByteArray).size, (({ data := #[58, 46, 44] } : ByteArray)[1]'h).toNat < 128 := by decide
          have h3 := h3 (by decide)
          exact bne_iff_ne.mpr (by omega)
        have hw2 : wrap64 2 = 2 := wrap_id (by omega) (by omega)
        have hfi : firstIdx (({ data := #[58, 46, 44] } : ByteArray).extract 2 3) (UInt8.ofNat (((E[1].toNat : Nat) : Int)).toNat) = -1 := firstIdx_ascii ({ data := #[58, 46, 44] } : ByteArray) 2 3 _ (by decide) (by rw [Int.toNat_natCast, UInt8.ofNat_toNat]; exact h2)
        rw [hi]
        go_loopg [9, 10] 1 (fun kq v9 v10 W => v9 = .int .i64 1 ∧ v10 = .int .i64 0 ∧ W = w)
        case atStart => exact ⟨rfl, rfl, rfl⟩
        case round =>
          obtain ⟨rfl, rfl, rfl⟩ := hrel
          go_wp2
          go_step3
          go_wp2
          refine start_ (n := 7) (S := fun _ => True) (ds := []) (bz 7 0) (by kernel_rfl) rfl rfl trivial (fun hHeld => ?_)
          refine with_tabW strings_IndexRune.tab6 strings_IndexRune.bits6 (fun HT_ HW_ => ?_)
          refine run_ [(0, 0, 1, some 27), (0, 1, 3, some 28), (0, 2, 7, some 29), (0, 3, 15, some 30), (0, 4, 31, some 31), (0, 5, 63, some 32), (0, 6, 127, some 33)] ?_
          repeat (first | (apply tag0; refine run_p (v := ?_) (a' := ?_) rfl rfl (any_of HT_.out (by kernel_rfl)) (fun _ _ _ h => h) (by rfl) ?_ ?_ ?_; rotate_left 2; (intro w'; go_simp; with_reducible rfl); (first | (simp only [Act.put, List.setIfInBounds_toArray, List.set_cons_zero, List.set_cons_succ, i64_w, i32_w]; rfl) | rfl)))
          refine run_nil ?_
          refine done_ (done_of HT_.out (by kernel_rfl)) ?_
          clear HT_ HW_ hHeld
          go_wp2
          refine start_ (n := 9) (S := fun _ => True) (ds := []) (bz 9 0) (by kernel_rfl) rfl rfl trivial (fun hHeld => ?_)
          refine with_tabW strings_IndexRune.tab7 strings_IndexRune.bits7 (fun HT_ HW_ => ?_)
          refine run_ [(0, 0, 1, some 34), (0, 1, 3, some 35), (0, 2, 7, some 36), (0, 3, 15, some 37), (0, 4, 31, some 38), (0, 5, 63, some 39), (0, 6, 127, some 40)] ?_
          repeat (first | (apply tag0; refine run_p (v := ?_) (a' := ?_) rfl rfl (any_of HT_.out (by kernel_rfl)) (fun _ _ _ h => h) (by rfl) ?_ ?_ ?_; rotate_left 2; (intro w'; go_simp; with_reducible rfl); (first | (simp only [Act.put, List.setIfInBounds_toArray, List.set_cons_zero, List.set_cons_succ, i64_w, i32_w]; rfl) | rfl)))
          refine run_nil ?_
          refine one_ (i := 7) (N := some 41) (bz 9 255) rfl rfl (one_of HT_.out (by kernel_rfl)) (by decide) (fun K hK => ?_)
          refine goes_ Tryd.func120 (by kernel_rfl) rfl #[.string (({ data := #[58, 46, 44] } : ByteArray).extract 2 3), .int .u8 ((E[1].toNat : Nat) : Int)] (by rfl) rfl rfl (by first | rfl | exact mapT) ?_
          refine (strings_IndexRune.ib _ _ _).mono ?_
          rintro e w5 ⟨he, hw5⟩
          rw [hfi] at he
          subst he
          refine ⟨_, rfl, ?_⟩
          have HB5 := Aside0.mk (show Below wr.heap.size wr w5 from by rw [hw5]; repeat (first | exact Below.refl _ _ | apply below_drew1 | apply pw_below_drewN))
          clear hw5
          refine hK.out _ _ trivial (fun hHeld2 => ?_)
          clear hK K
          refine norm_ (a' := ?_) ?_ ?_
          rotate_left
          · show Act.put _ (some 41) _ = _
            simp only [Act.put, List.setIfInBounds_toArray, List.set_cons_zero, List.set_cons_succ, i64_w, i32_w]
            rfl
          refine run_ [(0, 8, 511, some 11)] ?_
          repeat (first | (apply tag0; refine run_p (v := ?_) (a' := ?_) rfl rfl (any_of HT_.out (by kernel_rfl)) (fun _ _ _ h => h) (by rfl) ?_ ?_ ?_; rotate_left 2; (intro w'; go_simp; with_reducible rfl); (first | (simp only [Act.put, List.setIfInBounds_toArray, List.set_cons_zero, List.set_cons_succ, i64_w, i32_w]; rfl) | rfl)))
          refine run_nil ?_
          refine done_ (done_of HT_.out (by kernel_rfl)) ?_
          clear HT_ HW_ hHeld hHeld2
          go_wp2
          (try simp only [Exit.noGoto_ret, Exit.inBlock, Exit.then])
          go_ret
          exact ⟨rfl, by first | exact HB5.out | exact pw_below_drewN HB5.out _⟩
      · have hi : wrap64 ((E.size : Int) - 1) = 2 := by rw [hn, wrap_id (by omega) (by omega)]; rfl
        have hj : 2 < E.size := by omega
        have h2 : 128 ≤ E[2].toNat := by simpa [hn] using hEl2
        have hne1 : (((({ data := #[58, 46, 44] } : ByteArray)[2].toNat : Nat) : Int) != ((E[2].toNat : Nat) : Int)) = true := by
          have h3 : ∀ h : 2 < ({ data := #[58, 46, 44] } : ByteArray).size, (({ data := #[58, 46, 44] } : ByteArray)[2]'h).toNat < 128 := by decide
          have h3 := h3 (by decide)
          exact bne_iff_ne.mpr (by omega)
        have hw2 : wrap64 3 = 3 := wrap_id (by omega) (by omega)
        have hfi : firstIdx (({ data := #[58, 46, 44] } : ByteArray).extract 3 3) (UInt8.ofNat (((E[2].toNat : Nat) : Int)).toNat) = -1 := firstIdx_ascii ({ data := #[58, 46, 44] } : ByteArray) 3 3 _ (by decide) (by rw [Int.toNat_natCast, UInt8.ofNat_toNat]; exact h2)
        rw [hi]
        go_loopg [9, 10] 1 (fun kq v9 v10 W => v9 = .int .i64 2 ∧ v10 = .int .i64 0 ∧ W = w)
        case atStart => exact ⟨rfl, rfl, rfl⟩
        case round =>
          obtain ⟨rfl, rfl, rfl⟩ := hrel
          go_wp2
          go_step3
          go_wp2
          refine start_ (n := 7) (S := fun _ => True) (ds := []) (bz 7 0) (by kernel_rfl) rfl rfl trivial (fun hHeld => ?_)
          refine with_tabW strings_IndexRune.tab6 strings_IndexRune.bits6 (fun HT_ HW_ => ?_)
          refine run_ [(0, 0, 1, some 27), (0, 1, 3, some 28), (0, 2, 7, some 29), (0, 3, 15, some 30), (0, 4, 31, some 31), (0, 5, 63, some 32), (0, 6, 127, some 33)] ?_
          repeat (first | (apply tag0; refine run_p (v := ?_) (a' := ?_) rfl rfl (any_of HT_.out (by kernel_rfl)) (fun _ _ _ h => h) (by rfl) ?_ ?_ ?_; rotate_left 2; (intro w'; go_simp; with_reducible rfl); (first | (simp only [Act.put, List.setIfInBounds_toArray, List.set_cons_zero, List.set_cons_succ, i64_w, i32_w]; rfl) | rfl)))
          refine run_nil ?_
          refine done_ (done_of HT_.out (by kernel_rfl)) ?_
          clear HT_ HW_ hHeld
          go_wp2
          refine start_ (n := 9) (S := fun _ => True) (ds := []) (bz 9 0) (by kernel_rfl) rfl rfl trivial (fun hHeld => ?_)
          refine with_tabW strings_IndexRune.tab7 strings_IndexRune.bits7 (fun HT_ HW_ => ?_)
          refine run_ [(0, 0, 1, some 34), (0, 1, 3, some 35), (0, 2, 7, some 36), (0, 3, 15, some 37), (0, 4, 31, some 38), (0, 5, 63, some 39), (0, 6, 127, some 40)] ?_
          repeat (first | (apply tag0; refine run_p (v := ?_) (a' := ?_) rfl rfl (any_of HT_.out (by kernel_rfl)) (fun _ _ _ h => h) (by rfl) ?_ ?_ ?_; rotate_left 2; (intro w'; go_simp; with_reducible rfl); (first | (simp only [Act.put, List.setIfInBounds_toArray, List.set_cons_zero, List.set_cons_succ, i64_w, i32_w]; rfl) | rfl)))
          refine run_nil ?_
          refine one_ (i := 7) (N := some 41) (bz 9 255) rfl rfl (one_of HT_.out (by kernel_rfl)) (by decide) (fun K hK => ?_)
          refine goes_ Tryd.func120 (by kernel_rfl) rfl #[.string (({ data := #[58, 46, 44] } : ByteArray).extract 3 3), .int .u8 ((E[2].toNat : Nat) : Int)] (by rfl) rfl rfl (by first | rfl | exact mapT) ?_
          refine (strings_IndexRune.ib _ _ _).mono ?_
          rintro e w5 ⟨he, hw5⟩
          rw [hfi] at he
          subst he
          refine ⟨_, rfl, ?_⟩
          have HB5 := Aside0.mk (show Below wr.heap.size wr w5 from by rw [hw5]; repeat (first | exact Below.refl _ _ | apply below_drew1 | apply pw_below_drewN))
          clear hw5
          refine hK.out _ _ trivial (fun hHeld2 => ?_)
          clear hK K
          refine norm_ (a' := ?_) ?_ ?_
          rotate_left
          · show Act.put _ (some 41) _ = _
            simp only [Act.put, List.setIfInBounds_toArray, List.set_cons_zero, List.set_cons_succ, i64_w, i32_w]
            rfl
          refine run_ [(0, 8, 511, some 11)] ?_
          repeat (first | (apply tag0; refine run_p (v := ?_) (a' := ?_) rfl rfl (any_of HT_.out (by kernel_rfl)) (fun _ _ _ h => h) (by rfl) ?_ ?_ ?_; rotate_left 2; (intro w'; go_simp; with_reducible rfl); (first | (simp only [Act.put, List.setIfInBounds_toArray, List.set_cons_zero, List.set_cons_succ, i64_w, i32_w]; rfl) | rfl)))
          refine run_nil ?_
          refine done_ (done_of HT_.out (by kernel_rfl)) ?_
          clear HT_ HW_ hHeld hHeld2
          go_wp2
          (try simp only [Exit.noGoto_ret, Exit.inBlock, Exit.then])
          go_ret
          exact ⟨rfl, by first | exact HB5.out | exact pw_below_drewN HB5.out _⟩
      · have hi : wrap64 ((E.size : Int) - 1) = 3 := by rw [hn, wrap_id (by omega) (by omega)]; rfl
        rw [hi]
        go_loopg [9, 10] 1 (fun kq v9 v10 W => v9 = .int .i64 3 ∧ v10 = .int .i64 0 ∧ W = w)
        case atStart => exact ⟨rfl, rfl, rfl⟩
        case round =>
          obtain ⟨rfl, rfl, rfl⟩ := hrel
          go_wp2
          (try simp only [Exit.noGoto_ret, Exit.inBlock, Exit.then])
          go_ret
          exact ⟨rfl, by first | exact Below.refl _ _ | exact pw_below_drewN (Below.refl _ _) _⟩
  · have c3 : decide (r < 55296) = false := decide_eq_false (by omega)
    have c4 : decide (57343 < r) = false := decide_eq_false (by omega)
    go_enter Tryd.func110, Tryd.ntmps110
    go_wp2
    go_ret
    exact ⟨rfl, by first | exact Below.refl _ _ | exact pw_below_drewN (Below.refl _ _) _⟩

/-- Which runes are signs. -/
def strings_IndexRune.sg (s : ByteArray) (x : Nat) : Bool := decide (x < 128) && s.data.toList.any (· == UInt8.ofNat x)
set_option maxHeartbeats 4000000 in
set_option maxRecDepth 100000 in
theorem strings_IndexRune.hasP (x : Nat) (hx : x ≤ 1114111) (w : World) :
    Calls Tryd.prog 89 #[.string ⟨#[58, 46, 44]⟩, .int .i32 (x : Int)] w fun e w' => e = .returned (.bool (strings_IndexRune.sg ⟨#[58, 46, 44]⟩ x)) ∧ Below w.heap.size w w' := by
  by_cases h1 : x < 128
  · have e : decide (0 ≤ firstIdx (⟨#[58, 46, 44]⟩ : ByteArray) (UInt8.ofNat x)) = strings_IndexRune.sg ⟨#[58, 46, 44]⟩ x := by
      rw [firstIdx_nonneg]
      unfold strings_IndexRune.sg
      rw [decide_eq_true h1, Bool.true_and]
    have E := Aside0.mk e
    clear e
    go_enter Tryd.func89, Tryd.ntmps89
    go_wp2_with (go_at_call 110; refine (strings_IndexRune.near _ _ (by omega) (by omega) _).mono ?_; rintro e w5 ⟨rfl, hw5⟩; have HW5 := Aside0.mk hw5; clear hw5)
    go_ret
    exact ⟨by first | (rw [E.out]; rfl) | (show Ending.returned (.bool (decide (0 ≤ firstIdx _ (UInt8.ofNat x)))) = _; rw [E.out]), by first | exact HW5.out | exact pw_below_drewN HW5.out _⟩
  · have e : strings_IndexRune.sg ⟨#[58, 46, 44]⟩ x = false := by
      unfold strings_IndexRune.sg
      rw [decide_eq_false h1, Bool.false_and]
    rw [e]
    clear e
    by_cases h2 : x = 65533
    · subst h2
      go_enter Tryd.func89, Tryd.ntmps89
      go_wp2_with (go_at_call 110; refine (strings_IndexRune.badP _).mono ?_; rintro e w5 ⟨rfl, hw5⟩; have HW5 := Aside0.mk hw5; clear hw5)
      go_ret
      exact ⟨by first | rfl | (simp; done), by first | exact HW5.out | exact pw_below_drewN HW5.out _⟩
    · go_enter Tryd.func89, Tryd.ntmps89
      go_wp2_with (go_at_call 110; refine (strings_IndexRune.farP _ (by omega) (by omega) (by omega) _).mono ?_; rintro e w5 ⟨rfl, hw5⟩; have HW5 := Aside0.mk hw5; clear hw5)
      go_ret
      exact ⟨by first | rfl | (simp; done), by first | exact HW5.out | exact pw_below_drewN HW5.out _⟩

/-! ### impl_numbersIn_1: function 88 (a text of this session's own) -/
set_option maxHeartbeats 4000000 in
set_option maxRecDepth 100000 in
theorem impl_numbersIn_1.calls (gs x : Nat) (hx : x ≤ 1114111) (w : World) (hc : w.cell? ⟨gs, 0, none⟩ = some (.string ⟨#[58, 46, 44]⟩)) :
    Calls Tryd.prog 88 #[.int .i32 (x : Int), .pointer (some ⟨gs, 0, none⟩)] w fun e w' => e = .returned (.bool (strings_IndexRune.sg ⟨#[58, 46, 44]⟩ x)) ∧ Below w.heap.size w w' := by
  go_enter Tryd.func88, Tryd.ntmps88
  go_wp2_with (go_at_call 89; refine (strings_IndexRune.hasP x hx _).mono ?_; rintro e w5 ⟨rfl, hb⟩; have HB5 := Aside0.mk hb; clear hb)
  go_ret
  exact ⟨rfl, by first | exact HB5.out | exact pw_below_drewN HB5.out _⟩

/-! ### impl_within: function 34 -/
def impl_within.f (a0 : Int) (a1 : Int) (a2 : Int) : Option (Bool) := if a1 ≤ a0 then (some (decide (a0 ≤ a2))) else (some false)
set_option maxHeartbeats 8000000 in
set_option maxRecDepth 100000 in
theorem impl_within.calls (a0 : Int) (a1 : Int) (a2 : Int) (r : Bool) (w : World) (h : impl_within.f a0 a1 a2 = some r) :
  Calls Tryd.prog 34 #[.int .i64 a0, .int .i64 a1, .int .i64 a2] w fun e w' => e = .returned (.bool r) ∧ Drawn0 w w' := by
 have H : (if a1 ≤ a0 then (some (decide (a0 ≤ a2))) else (some false)) = some r := h
 clear h
 by_cases c4 : a1 ≤ a0
 ·rw [if_pos c4] at H
  have c4b0 : decide (a1 ≤ a0) = true := decide_eq_true c4
  clear c4
  obtain rfl := Option.some.inj H
  go_enter Tryd.func34, Tryd.ntmps34
  go_wp2
  go_ret
  exact ⟨by first | rfl | (simp; done) | (simp [*]; done), by repeat (first | exact Drawn0.refl _ | apply Drawn0.step)⟩
 ·rw [if_neg c4] at H
  have c4b0 : decide (a1 ≤ a0) = false := decide_eq_false c4
  clear c4
  obtain rfl := Option.some.inj H
  go_enter Tryd.func34, Tryd.ntmps34
  go_wp2
  go_ret
  exact ⟨by first | rfl | (simp; done) | (simp [*]; done), by repeat (first | exact Drawn0.refl _ | apply Drawn0.step)⟩
theorem impl_within.ok (n lo hi : Int) : impl_within.f n lo hi = some (decide (lo ≤ n ∧ n ≤ hi)) := by
  unfold impl_within.f
  by_cases h : lo ≤ n <;> simp [h]

/-! ### impl_number: function 90 (a text of this session's own) -/
-- WANTS Derived.Shelf.Strconv.AtoiAll
-- WANTS Derived.Shelf.Strconv.Itoa3
section
open Go.Shelf
def impl_number.ff_ren : Go.Shelf.Ren := ⟨fun | 229 => 87 | n => n, fun | 9 => 9 | 40 => 116 | 31 => 111 | 152 => 136 | 3 => 3 | 0 => 0 | 4 => 4 | 21 => 21 | 154 => 138 | n => n, fun | n => n⟩
theorem impl_number.ff : Go.Proofs.Lays.n229 Tryd.prog impl_number.ff_ren := {
  mixed := by kernel_rfl
  f229 := Tryd.func87.trans (congrArg some (by kernel_rfl))
  t0 := Tryd.underlying0
  a0 := Tryd.isAgg0
  z0 := Tryd.sizeOf0
  v0 := Tryd.zeroValue0
  t3 := Tryd.underlying3
  a3 := Tryd.isAgg3
  z3 := Tryd.sizeOf3
  v3 := Tryd.zeroValue3
  t4 := Tryd.underlying4
  a4 := Tryd.isAgg4
  z4 := Tryd.sizeOf4
  v4 := Tryd.zeroValue4
  t9 := Tryd.underlying9
  a9 := Tryd.isAgg9
  z9 := Tryd.sizeOf9
  v9 := Tryd.zeroValue9
  t21 := Tryd.underlying21
  a21 := Tryd.isAgg21
  z21 := Tryd.sizeOf21
  v21 := Tryd.zeroValue21
  t31 := Tryd.underlying111
  a31 := Tryd.isAgg111
  z31 := Tryd.sizeOf111
  v31 := Tryd.zeroValue111
  t40 := Tryd.underlying116
  a40 := Tryd.isAgg116
  z40 := Tryd.sizeOf116
  v40 := Tryd.zeroValue116
  t152 := Tryd.underlying136
  a152 := Tryd.isAgg136
  z152 := Tryd.sizeOf136
  v152 := Tryd.zeroValue136
  t154 := Tryd.underlying138
  a154 := Tryd.isAgg138
  z154 := Tryd.sizeOf138
  v154 := Tryd.zeroValue138 }
def impl_number.at_ren : Go.Shelf.Ren := ⟨fun | 172 => 111 | 244 => 124 | 245 => 125 | 247 => 130 | 279 => 131 | 280 => 132 | 281 => 133 | 282 => 134 | 287 => 142 | 316 => 143 | 171 => 96 | 205 => 144 | 321 => 150 | 322 => 151 | 243 => 114 | 246 => 126 | 283 => 135 | 284 => 136 | 285 => 137 | 286 => 138 | 129 => 146 | 317 => 145 | 318 => 147 | 319 => 148 | 320 => 149 | 337 => 152 | 338 => 153 | n => n, fun | 9 => 9 | 3 => 3 | 75 => 141 | 76 => 142 | 4 => 4 | 5 => 5 | 167 => 159 | 37 => 22 | 0 => 0 | 85 => 160 | 2 => 2 | 168 => 162 | 53 => 60 | 175 => 173 | 46 => 125 | 210 => 177 | 127 => 158 | 145 => 185 | 143 => 183 | 21 => 21 | 171 => 165 | 173 => 168 | 212 => 179 | 51 => 134 | 20 => 20 | 213 => 180 | 232 => 133 | 233 => 187 | 80 => 149 | n => n, fun | 15 => 2 | 16 => 3 | 17 => 4 | 18 => 0 | 19 => 5 | n => n⟩
theorem impl_number.at : Go.Proofs.LaysC.n172 Tryd.prog impl_number.at_ren := {
  mixed := by kernel_rfl
  f129 := Tryd.func146.trans (congrArg some (by kernel_rfl))
  f171 := Tryd.func96.trans (congrArg some (by kernel_rfl))
  f172 := Tryd.func111.trans (congrArg some (by kernel_rfl))
  f205 := Tryd.func144.trans (congrArg some (by kernel_rfl))
  f243 := Tryd.func114.trans (congrArg some (by kernel_rfl))
  f244 := Tryd.func124.trans (congrArg some (by kernel_rfl))
  f245 := Tryd.func125.trans (congrArg some (by kernel_rfl))
  f246 := Tryd.func126.trans (congrArg some (by kernel_rfl))
  f247 := Tryd.func130.trans (congrArg some (by kernel_rfl))
  f279 := Tryd.func131.trans (congrArg some (by kernel_rfl))
  f280 := Tryd.func132.trans (congrArg some (by kernel_rfl))
  f281 := Tryd.func133.trans (congrArg some (by kernel_rfl))
  f282 := Tryd.func134.trans (congrArg some (by kernel_rfl))
  f283 := Tryd.func135.trans (congrArg some (by kernel_rfl))
  f284 := Tryd.func136.trans (congrArg some (by kernel_rfl))
  f285 := Tryd.func137.trans (congrArg some (by kernel_rfl))
  f286 := Tryd.func138.trans (congrArg some (by kernel_rfl))
  f287 := Tryd.func142.trans (congrArg some (by kernel_rfl))
  f316 := Tryd.func143.trans (congrArg some (by kernel_rfl))
  f317 := Tryd.func145.trans (congrArg some (by kernel_rfl))
  f318 := Tryd.func147.trans (congrArg some (by kernel_rfl))
  f319 := Tryd.func148.trans (congrArg some (by kernel_rfl))
  f320 := Tryd.func149.trans (congrArg some (by kernel_rfl))
  f321 := Tryd.func150.trans (congrArg some (by kernel_rfl))
  f322 := Tryd.func151.trans (congrArg some (by kernel_rfl))
  f337 := Tryd.func152.trans (congrArg some (by kernel_rfl))
  f338 := Tryd.func153.trans (congrArg some (by kernel_rfl))
  t0 := Tryd.underlying0
  a0 := Tryd.isAgg0
  z0 := Tryd.sizeOf0
  v0 := Tryd.zeroValue0
  t2 := Tryd.underlying2
  a2 := Tryd.isAgg2
  z2 := Tryd.sizeOf2
  v2 := Tryd.zeroValue2
  t3 := Tryd.underlying3
  a3 := Tryd.isAgg3
  z3 := Tryd.sizeOf3
  v3 := Tryd.zeroValue3
  t4 := Tryd.underlying4
  a4 := Tryd.isAgg4
  z4 := Tryd.sizeOf4
  v4 := Tryd.zeroValue4
  t5 := Tryd.underlying5
  a5 := Tryd.isAgg5
  z5 := Tryd.sizeOf5
  v5 := Tryd.zeroValue5
  t9 := Tryd.underlying9
  a9 := Tryd.isAgg9
  z9 := Tryd.sizeOf9
  v9 := Tryd.zeroValue9
  t20 := Tryd.underlying20
  a20 := Tryd.isAgg20
  z20 := Tryd.sizeOf20
  v20 := Tryd.zeroValue20
  t21 := Tryd.underlying21
  a21 := Tryd.isAgg21
  z21 := Tryd.sizeOf21
  v21 := Tryd.zeroValue21
  t37 := Tryd.underlying22
  a37 := Tryd.isAgg22
  z37 := Tryd.sizeOf22
  v37 := Tryd.zeroValue22
  t46 := Tryd.underlying125
  a46 := Tryd.isAgg125
  z46 := Tryd.sizeOf125
  v46 := Tryd.zeroValue125
  t51 := Tryd.underlying134
  a51 := Tryd.isAgg134
  z51 := Tryd.sizeOf134
  v51 := Tryd.zeroValue134
  t53 := Tryd.underlying60
  a53 := Tryd.isAgg60
  z53 := Tryd.sizeOf60
  v53 := Tryd.zeroValue60
  t75 := Tryd.underlying141
  a75 := Tryd.isAgg141
  z75 := Tryd.sizeOf141
  v75 := Tryd.zeroValue141
  t76 := Tryd.underlying142
  a76 := Tryd.isAgg142
  z76 := Tryd.sizeOf142
  v76 := Tryd.zeroValue142
  t85 := Tryd.underlying160
  a85 := Tryd.isAgg160
  z85 := Tryd.sizeOf160
  v85 := Tryd.zeroValue160
  t127 := Tryd.underlying158
  a127 := Tryd.isAgg158
  z127 := Tryd.sizeOf158
  v127 := Tryd.zeroValue158
  t143 := Tryd.underlying183
  a143 := Tryd.isAgg183
  z143 := Tryd.sizeOf183
  v143 := Tryd.zeroValue183
  t145 := Tryd.underlying185
  a145 := Tryd.isAgg185
  z145 := Tryd.sizeOf185
  v145 := Tryd.zeroValue185
  t167 := Tryd.underlying159
  a167 := Tryd.isAgg159
  z167 := Tryd.sizeOf159
  v167 := Tryd.zeroValue159
  t168 := Tryd.underlying162
  a168 := Tryd.isAgg162
  z168 := Tryd.sizeOf162
  v168 := Tryd.zeroValue162
  t171 := Tryd.underlying165
  a171 := Tryd.isAgg165
  z171 := Tryd.sizeOf165
  v171 := Tryd.zeroValue165
  t173 := Tryd.underlying168
  a173 := Tryd.isAgg168
  z173 := Tryd.sizeOf168
  v173 := Tryd.zeroValue168
  t175 := Tryd.underlying173
  a175 := Tryd.isAgg173
  z175 := Tryd.sizeOf173
  v175 := Tryd.zeroValue173
  t210 := Tryd.underlying177
  a210 := Tryd.isAgg177
  z210 := Tryd.sizeOf177
  v210 := Tryd.zeroValue177
  t212 := Tryd.underlying179
  a212 := Tryd.isAgg179
  z212 := Tryd.sizeOf179
  v212 := Tryd.zeroValue179
  t213 := Tryd.underlying180
  a213 := Tryd.isAgg180
  z213 := Tryd.sizeOf180
  t232 := Tryd.underlying133
  a232 := Tryd.isAgg133
  z232 := Tryd.sizeOf133
  v232 := Tryd.zeroValue133
  t233 := Tryd.underlying187
  a233 := Tryd.isAgg187
  z233 := Tryd.sizeOf187
  v233 := Tryd.zeroValue187
  g15 := by kernel_rfl
  g16 := by kernel_rfl
  g17 := by kernel_rfl
  g18 := by kernel_rfl
  g19 := by kernel_rfl
  t80 := Tryd.underlying149
  a80 := Tryd.isAgg149
  z80 := Tryd.sizeOf149
  v80 := Tryd.zeroValue149
  i0 := by kernel_rfl
  i2 := by kernel_rfl
  i3 := by kernel_rfl
  i4 := by kernel_rfl
  i5 := by kernel_rfl
  i9 := by kernel_rfl
  i20 := by kernel_rfl
  i21 := by kernel_rfl
  i37 := by kernel_rfl
  i46 := by kernel_rfl
  i51 := by kernel_rfl
  i53 := by kernel_rfl
  i75 := by kernel_rfl
  i76 := by kernel_rfl
  i80 := by kernel_rfl
  i85 := by kernel_rfl
  i127 := by kernel_rfl
  i143 := by kernel_rfl
  i145 := by kernel_rfl
  i167 := by kernel_rfl
  i168 := by kernel_rfl
  i171 := by kernel_rfl
  i173 := by kernel_rfl
  i175 := by kernel_rfl
  i210 := by kernel_rfl
  i212 := by kernel_rfl
  i232 := by kernel_rfl
  i233 := by kernel_rfl
  m15 := by kernel_rfl
  m16 := by kernel_rfl
  m17 := by kernel_rfl
  m18 := by kernel_rfl
  m19 := by kernel_rfl
  c0 := by kernel_rfl
  c2 := by kernel_rfl
  c3 := by kernel_rfl
  c4 := by kernel_rfl
  c5 := by kernel_rfl
  c9 := by kernel_rfl
  c20 := by kernel_rfl
  c21 := by kernel_rfl
  c37 := by kernel_rfl
  c46 := by kernel_rfl
  c51 := by kernel_rfl
  c53 := by kernel_rfl
  c75 := by kernel_rfl
  c76 := by kernel_rfl
  c80 := by kernel_rfl
  c85 := by kernel_rfl
  c127 := by kernel_rfl
  c143 := by kernel_rfl
  c145 := by kernel_rfl
  c167 := by kernel_rfl
  c168 := by kernel_rfl
  c171 := by kernel_rfl
  c173 := by kernel_rfl
  c175 := by kernel_rfl
  c210 := by kernel_rfl
  c212 := by kernel_rfl
  c213 := by kernel_rfl
  c232 := by kernel_rfl
  c233 := by kernel_rfl }
def impl_number.it_ren : Go.Shelf.Ren := ⟨fun | 171 => 96 | 243 => 114 | 246 => 126 | 283 => 135 | 284 => 136 | 285 => 137 | 286 => 138 | 129 => 146 | 317 => 145 | 318 => 147 | 319 => 148 | 320 => 149 | 337 => 152 | 338 => 153 | n => n, fun | 3 => 3 | 9 => 9 | 2 => 2 | 4 => 4 | 171 => 165 | 0 => 0 | 53 => 60 | 37 => 22 | 5 => 5 | 173 => 168 | 212 => 179 | 51 => 134 | 20 => 20 | 213 => 180 | 46 => 125 | 232 => 133 | 233 => 187 | n => n, fun | 17 => 4 | 18 => 0 | 19 => 5 | n => n⟩
theorem impl_number.it : Go.Proofs.LaysM.n171 Tryd.prog impl_number.it_ren := {
  mixed := by kernel_rfl
  f129 := Tryd.func146.trans (congrArg some (by kernel_rfl))
  f171 := Tryd.func96.trans (congrArg some (by kernel_rfl))
  f243 := Tryd.func114.trans (congrArg some (by kernel_rfl))
  f246 := Tryd.func126.trans (congrArg some (by kernel_rfl))
  f283 := Tryd.func135.trans (congrArg some (by kernel_rfl))
  f284 := Tryd.func136.trans (congrArg some (by kernel_rfl))
  f285 := Tryd.func137.trans (congrArg some (by kernel_rfl))
  f286 := Tryd.func138.trans (congrArg some (by kernel_rfl))
  f317 := Tryd.func145.trans (congrArg some (by kernel_rfl))
  f318 := Tryd.func147.trans (congrArg some (by kernel_rfl))
  f319 := Tryd.func148.trans (congrArg some (by kernel_rfl))
  f320 := Tryd.func149.trans (congrArg some (by kernel_rfl))
  f337 := Tryd.func152.trans (congrArg some (by kernel_rfl))
  f338 := Tryd.func153.trans (congrArg some (by kernel_rfl))
  t0 := Tryd.underlying0
  a0 := Tryd.isAgg0
  z0 := Tryd.sizeOf0
  v0 := Tryd.zeroValue0
  t2 := Tryd.underlying2
  a2 := Tryd.isAgg2
  z2 := Tryd.sizeOf2
  v2 := Tryd.zeroValue2
  t3 := Tryd.underlying3
  a3 := Tryd.isAgg3
  z3 := Tryd.sizeOf3
  v3 := Tryd.zeroValue3
  t4 := Tryd.underlying4
  a4 := Tryd.isAgg4
  z4 := Tryd.sizeOf4
  v4 := Tryd.zeroValue4
  t5 := Tryd.underlying5
  a5 := Tryd.isAgg5
  z5 := Tryd.sizeOf5
  v5 := Tryd.zeroValue5
  t9 := Tryd.underlying9
  a9 := Tryd.isAgg9
  z9 := Tryd.sizeOf9
  v9 := Tryd.zeroValue9
  t20 := Tryd.underlying20
  a20 := Tryd.isAgg20
  z20 := Tryd.sizeOf20
  v20 := Tryd.zeroValue20
  t37 := Tryd.underlying22
  a37 := Tryd.isAgg22
  z37 := Tryd.sizeOf22
  v37 := Tryd.zeroValue22
  t46 := Tryd.underlying125
  a46 := Tryd.isAgg125
  z46 := Tryd.sizeOf125
  v46 := Tryd.zeroValue125
  t51 := Tryd.underlying134
  a51 := Tryd.isAgg134
  z51 := Tryd.sizeOf134
  v51 := Tryd.zeroValue134
  t53 := Tryd.underlying60
  a53 := Tryd.isAgg60
  z53 := Tryd.sizeOf60
  v53 := Tryd.zeroValue60
  t171 := Tryd.underlying165
  a171 := Tryd.isAgg165
  z171 := Tryd.sizeOf165
  v171 := Tryd.zeroValue165
  t173 := Tryd.underlying168
  a173 := Tryd.isAgg168
  z173 := Tryd.sizeOf168
  v173 := Tryd.zeroValue168
  t212 := Tryd.underlying179
  a212 := Tryd.isAgg179
  z212 := Tryd.sizeOf179
  v212 := Tryd.zeroValue179
  t213 := Tryd.underlying180
  a213 := Tryd.isAgg180
  z213 := Tryd.sizeOf180
  t232 := Tryd.underlying133
  a232 := Tryd.isAgg133
  z232 := Tryd.sizeOf133
  v232 := Tryd.zeroValue133
  t233 := Tryd.underlying187
  a233 := Tryd.isAgg187
  z233 := Tryd.sizeOf187
  v233 := Tryd.zeroValue187
  g17 := by kernel_rfl
  g18 := by kernel_rfl
  g19 := by kernel_rfl
  i0 := by kernel_rfl
  i2 := by kernel_rfl
  i3 := by kernel_rfl
  i4 := by kernel_rfl
  i5 := by kernel_rfl
  i9 := by kernel_rfl
  i20 := by kernel_rfl
  i37 := by kernel_rfl
  i46 := by kernel_rfl
  i51 := by kernel_rfl
  i53 := by kernel_rfl
  i171 := by kernel_rfl
  i173 := by kernel_rfl
  i212 := by kernel_rfl
  i232 := by kernel_rfl
  i233 := by kernel_rfl
  m17 := by kernel_rfl
  m18 := by kernel_rfl
  m19 := by kernel_rfl }
end
/-- What reading a number reads of the library's variables: the table of powers, the two errors. -/
def GTab (_g : Nat) (w : World) : Prop := Lib.TabIs Tryd.prog w "internal/strconv.uint64pow10" .u64 Lib.pow10Tab ∧ (∃ ev, w.cell? ⟨2, 0, none⟩ = some ev ∧ (ev = .nilIface ∨ ∃ te pe, ev = .iface te pe)) ∧ (∃ ev, w.cell? ⟨3, 0, none⟩ = some ev ∧ (ev = .nilIface ∨ ∃ te pe, ev = .iface te pe))
theorem GTab.up {g : Nat} {w w' : World} (h : GTab g w) (hb : Below w.heap.size w w') : GTab g w' := by
  obtain ⟨h1, ⟨e2, h2, k2⟩, ⟨e3, h3, k3⟩⟩ := h
  refine ⟨?_, ⟨e2, pw_cell_below hb h2, k2⟩, ⟨e3, pw_cell_below hb h3, k3⟩⟩
  have hg : Tryd.prog.globalNamed "internal/strconv.uint64pow10" = some 4 := by kernel_rfl
  unfold Lib.TabIs World.var? at h1 ⊢
  simp only [hg, Option.bind_some] at h1 ⊢
  cases hh : w.heap[4]? with
  | none => rw [hh] at h1; cases h1
  | some o =>
    rw [blk_below hh hb]
    rw [hh] at h1
    exact h1
theorem impl_number.grown (w : World) (q : Nat) (os : Array Obj) : Below w.heap.size w (Go.Sort.grow (w.drewN q) os) :=
  ⟨rfl, rfl, rfl, by simp [Go.Sort.grow], fun i hi => by
    show ((w.drewN q).heap ++ os)[i]? = _
    rw [Array.getElem?_append_left (by show i < w.heap.size; omega)]
    rfl⟩
theorem impl_number.ne_list {T s : ByteArray} (h : ¬ T = s) : (T.toList == s.toList) = false := by
  rw [beq_eq_false_iff_ne, ByteArray.toList_eq, ByteArray.toList_eq]
  intro e
  apply h
  cases T
  cases s
  congr 1
  exact Array.toList_inj.mp e
/-- The number that a text says, up to a bound. -/
def impl_number.num (most : Int) (s : ByteArray) : Option Int :=
  match Lib.atoiAll s.data.toList with
  | .ok v => if Lib.itoa v = s.data.toList then (if 0 ≤ v then (if v ≤ most then some v else none) else none) else none
  | _ => none
set_option maxHeartbeats 4000000 in
set_option maxRecDepth 100000 in
theorem impl_number.calls (s : ByteArray) (hs : s.size ≤ 1048576) (most : Int) (w : World) (hG : GTab 0 w) :
    Calls Tryd.prog 90 #[.string s, .int .i64 most] w fun e w' => e = .returned (.tuple #[.int .i64 ((impl_number.num most s).getD 0), .bool (impl_number.num most s).isSome]) ∧ Below w.heap.size w w' := by
  have HG := Aside0.mk (p := GTab _ _) hG
  clear hG
  have HB := Aside0.mk (Below.refl w.heap.size w)
  have HSZ := Aside0.mk hs
  rcases hA : Lib.atoiAll s.data.toList with v | _ | _
  ·
    have hvb := Lib.atoiAll_bounds hA
    have HV := Aside0.mk hvb
    have HA := Aside0.mk hA
    by_cases hi : Lib.itoa v = s.data.toList
    · have hT : (⟨(Lib.itoa v).toArray⟩ : ByteArray) = s := by rw [hi]
      have HT := Aside0.mk hT
      obtain ⟨b, hb⟩ : ∃ b_, b_ = decide (0 ≤ v ∧ v ≤ most) := ⟨_, rfl⟩
      have hn : impl_number.num most s = if b = true then some v else none := by
        unfold impl_number.num
        rw [hA, hb]
        simp only [hi, if_true]
        by_cases h0 : 0 ≤ v <;> by_cases h1 : v ≤ most <;> simp [h0, h1]
      have hw : impl_within.f v 0 most = some b := by
        unfold impl_within.f
        rw [hb]
        by_cases h0 : 0 ≤ v <;> simp [h0]
      have HW := Aside0.mk hw
      have HN := Aside0.mk hn
      clear hA hvb hi hT hb hn hw hs
      cases b
      all_goals
        rw [HN.out]
        simp only [if_true, Bool.false_eq_true, if_false, Option.getD_some, Option.getD_none, Option.isSome_some, Option.isSome_none]
        go_enter Tryd.func90, Tryd.ntmps90
        go_wp2_with (first
          | (go_at_call 111; refine (Any.strconv_Atoi_ok impl_number.at s (by have := HSZ.out; omega) v HA.out _).mono ?_; rintro e w3 ⟨rfl, hw3⟩; have HB3 := Aside0.mk (show Below w.heap.size w w3 from by (rcases hw3 with hw3 | ⟨t3, hw3⟩; (rw [hw3]; exact Below.refl _ _); (rw [hw3]; exact bytes_below (Below.refl _ _) (Nat.le_refl _) _ _))); clear hw3)
          | (go_at_call 96; refine (Any.strconv_Itoa impl_number.it v HV.out.1 HV.out.2 _ (GTab.up HG.out HB3.out).1).mono ?_; rintro e w4 ⟨rfl, k4, os4, hw4⟩; rw [HT.out]; have HB4 := Aside0.mk (show Below w.heap.size w w4 from by rw [hw4]; exact below_step HB3.out (impl_number.grown _ _ _)); clear hw4)
          | (go_at_call 34; refine (impl_within.calls v 0 most _ _ HW.out).mono ?_; rintro e w5 ⟨rfl, ⟨m_, rfl⟩⟩))
        go_ret2
        exact ⟨rfl, by first | exact HB4.out | exact pw_below_drewN HB4.out _⟩
    · have hT : ¬ (⟨(Lib.itoa v).toArray⟩ : ByteArray) = s := by
        intro e
        apply hi
        rw [← e]
      obtain ⟨T, hTT⟩ : ∃ T_ : ByteArray, T_ = ⟨(Lib.itoa v).toArray⟩ := ⟨_, rfl⟩
      rw [← hTT] at hT
      have HT := Aside0.mk hTT
      have hT1 : (T.toList == s.toList) = false := impl_number.ne_list hT
      have hn : impl_number.num most s = none := by unfold impl_number.num; rw [hA]; simp only [if_neg hi]
      have HN := Aside0.mk hn
      clear hA hvb hi hTT hn hs hT
      rw [HN.out]
      simp only [Option.getD_none, Option.isSome_none]
      go_enter Tryd.func90, Tryd.ntmps90
      go_wp2_with (first
        | (go_at_call 111; refine (Any.strconv_Atoi_ok impl_number.at s (by have := HSZ.out; omega) v HA.out _).mono ?_; rintro e w3 ⟨rfl, hw3⟩; have HB3 := Aside0.mk (show Below w.heap.size w w3 from by (rcases hw3 with hw3 | ⟨t3, hw3⟩; (rw [hw3]; exact Below.refl _ _); (rw [hw3]; exact bytes_below (Below.refl _ _) (Nat.le_refl _) _ _))); clear hw3)
        | (go_at_call 96; refine (Any.strconv_Itoa impl_number.it v HV.out.1 HV.out.2 _ (GTab.up HG.out HB3.out).1).mono ?_; rintro e w4 ⟨rfl, k4, os4, hw4⟩; rw [← HT.out]; have HB4 := Aside0.mk (show Below w.heap.size w w4 from by rw [hw4]; exact below_step HB3.out (impl_number.grown _ _ _)); clear hw4))
      go_ret2
      exact ⟨rfl, by first | exact HB4.out | exact pw_below_drewN HB4.out _⟩
  ·
    have hn : impl_number.num most s = none := by unfold impl_number.num; rw [hA]
    have HN := Aside0.mk hn
    have HA := Aside0.mk hA
    obtain ⟨ev, h1, h2⟩ := HG.out.2.1
    have HE := Aside0.mk (And.intro h1 h2)
    clear hA hn h1 h2 hs
    rw [HN.out]
    simp only [Option.getD_none, Option.isSome_none]
    go_enter Tryd.func90, Tryd.ntmps90
    go_wp2_with (go_at_call 111; refine (Any.strconv_Atoi_syntax impl_number.at s (by have := HSZ.out; omega) HA.out ev _ HE.out.1 HE.out.2).mono ?_; rintro e w3 ⟨N3, rfl, _, _, hb3⟩; have HB3 := Aside0.mk hb3; clear hb3)
    go_ret2
    exact ⟨rfl, by first | exact HB3.out | exact pw_below_drewN HB3.out _⟩
  ·
    have hn : impl_number.num most s = none := by unfold impl_number.num; rw [hA]
    have HN := Aside0.mk hn
    have HA := Aside0.mk hA
    obtain ⟨ev, h1, h2⟩ := HG.out.2.2
    have HE := Aside0.mk (And.intro h1 h2)
    clear hA hn h1 h2 hs
    rw [HN.out]
    simp only [Option.getD_none, Option.isSome_none]
    go_enter Tryd.func90, Tryd.ntmps90
    go_wp2_with (go_at_call 111; refine (Any.strconv_Atoi_range impl_number.at s (by have := HSZ.out; omega) HA.out ev _ HE.out.1 HE.out.2).mono ?_; rintro e w3 ⟨N3, rfl, _, _, hb3⟩; have HB3 := Aside0.mk hb3; clear hb3)
    go_ret2
    exact ⟨rfl, by first | exact HB3.out | exact pw_below_drewN HB3.out _⟩

end Go.Proofs.YtfehaoadnbcgoaaDoor.PFnExactParsePuzzle
