-- Of this session's own program wip/gen/gen.py (it drives the kit's print): contracts of the functions that the law reaches.
import Derived.Laws.Runes
import Derived.Shelf.Strconv.Atoi
import Derived.Shelf.Strings.FieldsFuncGrows
import Derived.Shelf.Strings.OnBuilder
import Derived.WalkMore
import Derived.Test.YtfehaoadnbcgoaaDoorPFnExactFirstDeskx0
import Derived.Test.YtfehaoadnbcgoaaDoorPFnExactFirstDeskx1
namespace Go.Proofs.YtfehaoadnbcgoaaDoor.PFnExactFirstDesk
open Go.RowKit Go.Proofs.YtfehaoadnbcgoaaDoorW.PrintWords Go.Proofs.YtfehaoadnbcgoaaDoorW.PrintLast Go.Proofs.YtfehaoadnbcgoaaDoorW.PrintMore Go.Proofs.YtfehaoadnbcgoaaDoor.Base
attribute [local go_sem] max2_int min2_int max_two min_two max_three min_three max_four min_four   -- for this text's walks alone
set_option linter.unusedVariables false
set_option linter.unusedSimpArgs false

/-! ### strings_IndexRune: function 110 (a text of this session's own) -/
-- WANTS Derived.Shelf.Strings.FieldsFuncGrows
-- WANTS Derived.Laws.Runes
-- WANTS Derived.WalkMore

def strings_IndexRune.T6 : Bool × List (List Nat × List Nat) := (true, [([], []), ([], []), ([0, 1], [0, 1]), ([], []), ([], []), ([3, 4], [3, 4]), ([2, 5], [2, 5])])
def strings_IndexRune.B6 : List Nat := [0, 0, 3, 0, 0, 24, 63]
theorem strings_IndexRune.tab6 : rtab .any (opsOf Tryd.f110 6) = strings_IndexRune.T6 := by kernel_rfl
theorem strings_IndexRune.bits6 : waitsOk strings_IndexRune.T6.2 strings_IndexRune.B6 = true := by kernel_rfl
def strings_IndexRune.T7 : Bool × List (List Nat × List Nat) := (true, [([], []), ([], []), ([1], [1]), ([0, 2], [0, 2]), ([], []), ([], []), ([4, 5], [4, 5]), ([3, 6], [3, 6]), ([7, 7, 0, 1, 2, 3, 4, 5, 6, 7], [7])])
def strings_IndexRune.B7 : List Nat := [0, 0, 2, 7, 0, 0, 48, 127, 255]
theorem strings_IndexRune.tab7 : rtab .any (opsOf Tryd.f110 7) = strings_IndexRune.T7 := by kernel_rfl
theorem strings_IndexRune.bits7 : waitsOk strings_IndexRune.T7.2 strings_IndexRune.B7 = true := by kernel_rfl
set_option maxHeartbeats 4000000 in
set_option maxRecDepth 100000 in
theorem strings_IndexRune.ib (s : ByteArray) (c : Int) (w : World) : Calls Tryd.prog 120 #[.string s, .int .u8 c] w fun e w' => e = .returned (.int .i64 (firstIdx s (UInt8.ofNat c.toNat))) ∧ w' = w := by
  go_enter Tryd.func120, Tryd.ntmps120
  go_wp2
  rw [run_callFunc_extern Tryd.func141 (by kernel_rfl) (by kernel_rfl) (by kernel_rfl) (e := Extern.BytealgIndexByte.indexByte) (by kernel_rfl), run_indexByte_string]
  go_wp2
  go_ret
  exact ⟨rfl, rfl⟩
set_option maxHeartbeats 4000000 in
set_option maxRecDepth 100000 in
theorem strings_IndexRune.near (s : ByteArray) (r : Int) (h0 : 0 ≤ r) (h1 : r < 128) (w : World) :
    Calls Tryd.prog 110 #[.string s, .int .i32 r] w fun e w' => e = .returned (.int .i64 (firstIdx s (UInt8.ofNat r.toNat))) ∧ Below w.heap.size w w' := by
  have c0 : decide (0 ≤ r) = true := decide_eq_true h0
  have c1 : decide (r < 128) = true := decide_eq_true h1
  have hw : IntKind.u8.wrap r = r := by simp [IntKind.wrap, IntKind.bits, IntKind.signed]; omega
  go_enter Tryd.func110, Tryd.ntmps110
  go_wp2_with (go_at_call 120; refine (strings_IndexRune.ib _ _ _).mono ?_; rintro e w5 ⟨rfl, hw5⟩)
  go_ret
  exact ⟨rfl, by first | exact Below.refl _ _ | (rw [hw5]; exact Below.refl _ _)⟩
set_option maxHeartbeats 4000000 in
set_option maxRecDepth 100000 in
theorem strings_IndexRune.badP (w : World) :
    Calls Tryd.prog 110 #[.string ⟨#[58, 45, 44]⟩, .int .i32 65533] w fun e w' => e = .returned (.int .i64 (-1)) ∧ Below w.heap.size w w' := by
  have hall : ∀ pos (h : pos < ({ data := #[58, 45, 44] } : ByteArray).size), (({ data := #[58, 45, 44] } : ByteArray)[pos]'h).toNat < 128 := by decide
  obtain ⟨S, hS⟩ : ∃ S_ : ByteArray, S_ = ({ data := #[58, 45, 44] } : ByteArray) := ⟨_, rfl⟩
  rw [← hS] at hall ⊢
  have hsz : S.size = 3 := by rw [hS]; rfl
  clear hS
  go_enter Tryd.func110, Tryd.ntmps110
  go_wp2
  go_loopg [5] 3 (fun kq v5 W => ∃ pos : Nat, pos + kq = 3 ∧ W.heap[w.heap.size]? = some (.stringIter S pos) ∧ Below w.heap.size w W)
  case atStart => exact ⟨0, rfl, World.iter_heap w S 0, below_alloc (Below.refl _ _) _⟩
  case round =>
    obtain ⟨pos, hp, hit, hb⟩ := hrel
    by_cases hlt : pos < S.size
    · have hc := hall pos hlt
      have hnx := fun ty => Lib.run_next_ascii_at (P := Tryd.prog) wr w.heap.size S pos ty hit hlt hc
      have hne : (((S[pos].toNat : Nat) : Int) == 65533) = false := beq_eq_false_iff_ne.mpr (by omega)
      have hit2 := Lib.iterAt_heap wr w.heap.size S pos (pos + 1) hit
      have hb2 := Lib.below_iterAt hb (k := w.heap.size) (Nat.le_refl _) S (pos + 1)
      go_wp2
      go_roundg (gk - 1)
      case measure => omega
      case rel => exact ⟨pos + 1, by omega, hit2, hb2⟩
    · have hnx := fun ty => Lib.run_next_end_at (P := Tryd.prog) wr w.heap.size S pos ty hit hlt
      go_wp2
      go_ret
      exact ⟨rfl, by first | exact hb | exact pw_below_drewN hb _⟩
set_option maxHeartbeats 4000000 in
set_option maxRecDepth 100000 in
theorem strings_IndexRune.farP (r : Int) (h0 : 128 ≤ r) (h1 : r ≤ 1114111) (hne : r ≠ 65533) (w : World) :
    Calls Tryd.prog 110 #[.string ⟨#[58, 45, 44]⟩, .int .i32 r] w fun e w' => e = .returned (.int .i64 (-1)) ∧ Below w.heap.size w w' := by
  have c0 : decide (0 ≤ r) = true := decide_eq_true (by omega)
  have c1 : decide (r < 128) = false := decide_eq_false (by omega)
  have c2 : (r == 65533) = false := beq_eq_false_iff_ne.mpr hne
  have c5 : decide (r ≤ 1114111) = true := decide_eq_true h1
  by_cases hv : r < 55296 ∨ 57343 < r
  · have hV : Utf8.valid r = true := by rw [validRune_eq]; exact decide_eq_true (by omega)
    obtain ⟨hE2, hE4, hEl⟩ := encode_facts r hV h0
    obtain ⟨E, hE⟩ : ∃ E_, E_ = Utf8.encode r := ⟨_, rfl⟩
    rw [← hE] at hE2 hE4 hEl
    have hEl2 := hEl (by omega)
    rcases hv with hv | hv
    · have c3 : decide (r < 55296) = true := decide_eq_true hv
      go_enter Tryd.func110, Tryd.ntmps110
      go_wp2
      go_step3
      go_wp2
      rw [← hE]
      clear hE hV hv hEl c3
      have hn : E.size = 2 ∨ E.size = 3 ∨ E.size = 4 := by omega
      rcases hn with hn | hn | hn
      · have hi : wrap64 ((E.size : Int) - 1) = 1 := by rw [hn, wrap_id (by omega) (by omega)]; rfl
        have hj : 1 < E.size := by omega
        have h2 : 128 ≤ E[1].toNat := by simpa [hn] using hEl2
        have hne1 : (((({ data := #[58, 45, 44] } : ByteArray)[1].toNat : Nat) : Int) != ((E[1].toNat : Nat) : Int)) = true := by
          have h3 : ∀ h : 1 < ({ data := #[58, 45, 44] } : ByteArray).size, (({ data := #[58, 45, 44] } : ByteArray)[1]'h).toNat < 128 := by decide
          have h3 := h3 (by decide)
          exact bne_iff_ne.mpr (by omega)
        have hw2 : wrap64 2 = 2 := wrap_id (by omega) (by omega)
        have hfi : firstIdx (({ data := #[58, 45, 44] } : ByteArray).extract 2 3) (UInt8.ofNat (((E[1].toNat : Nat) : Int)).toNat) = -1 := firstIdx_ascii ({ data := #[58, 45, 44] } : ByteArray) 2 3 _ (by decide) (by rw [Int.toNat_natCast, UInt8.ofNat_toNat]; exact h2)
        rw [hi]
        go_loopg [9, 10] 1 (fun kq v9 v10 W => v9 = .int .i64 1 ∧ v10 = .int .i64 0 ∧ W = w)
        case atStart => exact ⟨rfl, rfl, rfl⟩
        case round =>
          obtain ⟨rfl, rfl, rfl⟩ := hrel
          go_wp2
          go_step3
          go_wp2
          refine start_ (n := 7) (S := fun _ => True) (ds := []) (bz 7 0) (by kernel_rfl) rfl rfl trivial (fun hHeld => ?_)
          refine with_tabW strings_IndexRune.tab6 strings_IndexRune.bits6 (fun HT_ HW_ => ?_)
          refine run_ [(0, 0, 1, some 27), (0, 1, 3, some 28), (0, 2, 7, some 29), (0, 3, 15, some 30), (0, 4, 31, some 31), (0, 5, 63, some 32), (0, 6, 127, some 33)] ?_
          repeat (first | (apply tag0; refine run_p (v := ?_) (a' := ?_) rfl rfl (any_of HT_.out (by kernel_rfl)) (fun _ _ _ h => h) (by rfl) ?_ ?_ ?_; rotate_left 2; (intro w'; go_simp; with_reducible rfl); (first | (simp only [Act.put, List.setIfInBounds_toArray, List.set_cons_zero, List.set_cons_succ, i64_w, i32_w]; rfl) | rfl)))
          refine run_nil ?_
          refine done_ (done_of HT_.out (by kernel_rfl)) ?_
          clear HT_ HW_ hHeld
          go_wp2
          refine start_ (n := 9) (S := fun _ => True) (ds := []) (bz 9 0) (by kernel_rfl) rfl rfl trivial (fun hHeld => ?_)
          refine with_tabW strings_IndexRune.tab7 strings_IndexRune.bits7 (fun HT_ HW_ => ?_)
          refine run_ [(0, 0, 1, some 34), (0, 1, 3, some 35), (0, 2, 7, some 36), (0, 3, 15, some 37), (0, 4, 31, some 38), (0, 5, 63, some 39), (0, 6, 127, some 40)] ?_
          repeat (first | (apply tag0; refine run_p (v := ?_) (a' := ?_) rfl rfl (any_of HT_.out (by kernel_rfl)) (fun _ _ _ h => h) (by rfl) ?_ ?_ ?_; rotate_left 2; (intro w'; go_simp; with_reducible rfl); (first | (simp only [Act.put, List.setIfInBounds_toArray, List.set_cons_zero, List.set_cons_succ, i64_w, i32_w]; rfl) | rfl)))
          refine run_nil ?_
          refine one_ (i := 7) (N := some 41) (bz 9 255) rfl rfl (one_of HT_.out (by kernel_rfl)) (by decide) (fun K hK => ?_)
          refine goes_ Tryd.func120 (by kernel_rfl) rfl #[.string (({ data := #[58, 45, 44] } : ByteArray).extract 2 3), .int .u8 ((E[1].toNat : Nat) : Int)] (by rfl) rfl rfl (by first | rfl | exact mapT) ?_
          refine (strings_IndexRune.ib _ _ _).mono ?_
          rintro e w5 ⟨he, hw5⟩
          rw [hfi] at he
          subst he
          refine ⟨_, rfl, ?_⟩
          have HB5 := Aside0.mk (show Below wr.heap.size wr w5 from by rw [hw5]; repeat (first | exact Below.refl _ _ | apply below_drew1 | apply pw_below_drewN))
          clear hw5
          refine hK.out _ _ trivial (fun hHeld2 => ?_)
          clear hK K
          refine norm_ (a' := ?_) ?_ ?_
          rotate_left
          · show Act.put _ (some 41) _ = _
            simp only [Act.put, List.setIfInBounds_toArray, List.set_cons_zero, List.set_cons_succ, i64_w, i32_w]
            rfl
          refine run_ [(0, 8, 511, some 11)] ?_
          repeat (first | (apply tag0; refine run_p (v := ?_) (a' := ?_) rfl rfl (any_of HT_.out (by kernel_rfl)) (fun _ _ _ h => h) (by rfl) ?_ ?_ ?_; rotate_left 2; (intro w'; go_simp; with_reducible rfl); (first | (simp only [Act.put, List.setIfInBounds_toArray, List.set_cons_zero, List.set_cons_succ, i64_w, i32_w]; rfl) | rfl)))
          refine run_nil ?_
          refine done_ (done_of HT_.out (by kernel_rfl)) ?_
          clear HT_ HW_ hHeld hHeld2
          go_wp2
          (try simp only [Exit.noGoto_ret, Exit.inBlock, Exit.then])
          go_ret
          exact ⟨rfl, by first | exact HB5.out | exact pw_below_drewN HB5.out _⟩
      · have hi : wrap64 ((E.size : Int) - 1) = 2 := by rw [hn, wrap_id (by omega) (by omega)]; rfl
        have hj : 2 < E.size := by omega
        have h2 : 128 ≤ E[2].toNat := by simpa [hn] using hEl2
        have hne1 : (((({ data := #[58, 45, 44] } : ByteArray)[2].toNat : Nat) : Int) != ((E[2].toNat : Nat) : Int)) = true := by
          have h3 : ∀ h : 2 < ({ data := #[58, 45, 44] } : ByteArray).size, (({ data := #[58, 45, 44] } : ByteArray)[2]'h).toNat < 128 := by decide
          have h3 := h3 (by decide)
          exact bne_iff_ne.mpr (by omega)
        have hw2 : wrap64 3 = 3 := wrap_id (by omega) (by omega)
        have hfi : firstIdx (({ data := #[58, 45, 44] } : ByteArray).extract 3 3) (UInt8.ofNat (((E[2].toNat : Nat) : Int)).toNat) = -1 := firstIdx_ascii ({ data := #[58, 45, 44] } : ByteArray) 3 3 _ (by decide) (by rw [Int.toNat_natCast, UInt8.ofNat_toNat]; exact h2)
        rw [hi]
        go_loopg [9, 10] 1 (fun kq v9 v10 W => v9 = .int .i64 2 ∧ v10 = .int .i64 0 ∧ W = w)
        case atStart => exact ⟨rfl, rfl, rfl⟩
        case round =>
          obtain ⟨rfl, rfl, rfl⟩ := hrel
          go_wp2
          go_step3
          go_wp2
          refine start_ (n := 7) (S := fun _ => True) (ds := []) (bz 7 0) (by kernel_rfl) rfl rfl trivial (fun hHeld => ?_)
          refine with_tabW strings_IndexRune.tab6 strings_IndexRune.bits6 (fun HT_ HW_ => ?_)
          refine run_ [(0, 0, 1, some 27), (0, 1, 3, some 28), (0, 2, 7, some 29), (0, 3, 15, some 30), (0, 4, 31, some 31), (0, 5, 63, some 32), (0, 6, 127, some 33)] ?_
          repeat (first | (apply tag0; refine run_p (v := ?_) (a' := ?_) rfl rfl (any_of HT_.out (by kernel_rfl)) (fun _ _ _ h => h) (by rfl) ?_ ?_ ?_; rotate_left 2; (intro w'; go_simp; with_reducible rfl); (first | (simp only [Act.put, List.setIfInBounds_toArray, List.set_cons_zero, List.set_cons_succ, i64_w, i32_w]; rfl) | rfl)))
          refine run_nil ?_
          refine done_ (done_of HT_.out (by kernel_rfl)) ?_
          clear HT_ HW_ hHeld
          go_wp2
          refine start_ (n := 9) (S := fun _ => True) (ds := []) (bz 9 0) (by kernel_rfl) rfl rfl trivial (fun hHeld => ?_)
          refine with_tabW strings_IndexRune.tab7 strings_IndexRune.bits7 (fun HT_ HW_ => ?_)
          refine run_ [(0, 0, 1, some 34), (0, 1, 3, some 35), (0, 2, 7, some 36), (0, 3, 15, some 37), (0, 4, 31, some 38), (0, 5, 63, some 39), (0, 6, 127, some 40)] ?_
          repeat (first | (apply tag0; refine run_p (v := ?_) (a' := ?_) rfl rfl (any_of HT_.out (by kernel_rfl)) (fun _ _ _ h => h) (by rfl) ?_ ?_ ?_; rotate_left 2; (intro w'; go_simp; with_reducible rfl); (first | (simp only [Act.put, List.setIfInBounds_toArray, List.set_cons_zero, List.set_cons_succ, i64_w, i32_w]; rfl) | rfl)))
          refine run_nil ?_
          refine one_ (i := 7) (N := some 41) (bz 9 255) rfl rfl (one_of HT_.out (by kernel_rfl)) (by decide) (fun K hK => ?_)
          refine goes_ Tryd.func120 (by kernel_rfl) rfl #[.string (({ data := #[58, 45, 44] } : ByteArray).extract 3 3), .int .u8 ((E[2].toNat : Nat) : Int)] (by rfl) rfl rfl (by first | rfl | exact mapT) ?_
          refine (strings_IndexRune.ib _ _ _).mono ?_
          rintro e w5 ⟨he, hw5⟩
          rw [hfi] at he
          subst he
          refine ⟨_, rfl, ?_⟩
          have HB5 := Aside0.mk (show Below wr.heap.size wr w5 from by rw [hw5]; repeat (first | exact Below.refl _ _ | apply below_drew1 | apply pw_below_drewN))
          clear hw5
          refine hK.out _ _ trivial (fun hHeld2 => ?_)
          clear hK K
          refine norm_ (a' := ?_) ?_ ?_
          rotate_left
          · show Act.put _ (some 41) _ = _
            simp only [Act.put, List.setIfInBounds_toArray, List.set_cons_zero, List.set_cons_succ, i64_w, i32_w]
            rfl
          refine run_ [(0, 8, 511, some 11)] ?_
          repeat (first | (apply tag0; refine run_p (v := ?_) (a' := ?_) rfl rfl (any_of HT_.out (by kernel_rfl)) (fun _ _ _ h => h) (by rfl) ?_ ?_ ?_; rotate_left 2; (intro w'; go_simp; with_reducible rfl); (first | (simp only [Act.put, List.setIfInBounds_toArray, List.set_cons_zero, List.set_cons_succ, i64_w, i32_w]; rfl) | rfl)))
          refine run_nil ?_
          refine done_ (done_of HT_.out (by kernel_rfl)) ?_
          clear HT_ HW_ hHeld hHeld2
          go_wp2
          (try simp only [Exit.noGoto_ret, Exit.inBlock, Exit.then])
          go_ret
          exact ⟨rfl, by first | exact HB5.out | exact pw_below_drewN HB5.out _⟩
      · have hi : wrap64 ((E.size : Int) - 1) = 3 := by rw [hn, wrap_id (by omega) (by omega)]; rfl
        rw [hi]
        go_loopg [9, 10] 1 (fun kq v9 v10 W => v9 = .int .i64 3 ∧ v10 = .int .i64 0 ∧ W = w)
        case atStart => exact ⟨rfl, rfl, rfl⟩
        case round =>
          obtain ⟨rfl, rfl, rfl⟩ := hrel
          go_wp2
          (try simp only [Exit.noGoto_ret, Exit.inBlock, Exit.then])
          go_ret
          exact ⟨rfl, by first | exact Below.refl _ _ | exact pw_below_drewN (Below.refl _ _) _⟩
    · have c3 : decide (r < 55296) = false := decide_eq_false (by omega)
      have c4 : decide (57343 < r) = true := decide_eq_true hv
      go_enter Tryd.func110, Tryd.ntmps110
      go_wp2
      go_step3
      go_wp2
      rw [← hE]
      clear hE hV hv hEl c3
      have hn : E.size = 2 ∨ E.size = 3 ∨ E.size = 4 := by omega
      rcases hn with hn | hn | hn
      · have hi : wrap64 ((E.size : Int) - 1) = 1 := by rw [hn, wrap_id (by omega) (by omega)]; rfl
        have hj : 1 < E.size := by omega
        have h2 : 128 ≤ E[1].toNat := by simpa [hn] using hEl2
        have hne1 : (((({ data := #[58, 45, 44] } : ByteArray)[1].toNat : Nat) : Int) != ((E[1].toNat : Nat) : Int)) = true := by
          have h3 : ∀ h : 1 < ({ data := #[58, 45, 44] } : ByteArray).size, (({ data := #[58, 45, 44] } : ByteArray)[1]'h).toNat < 128 := by decide
          have h3 := h3 (by decide)
          exact bne_iff_ne.mpr (by omega)
        have hw2 : wrap64 2 = 2 := wrap_id (by omega) (by omega)
        have hfi : firstIdx (({ data := #[58, 45, 44] } : ByteArray).extract 2 3) (UInt8.ofNat (((E[1].toNat : Nat) : Int)).toNat) = -1 := firstIdx_ascii ({ data := #[58, 45, 44] } : ByteArray) 2 3 _ (by decide) (by rw [Int.toNat_natCast, UInt8.ofNat_toNat]; exact h2)
        rw [hi]
        go_loopg [9, 10] 1 (fun kq v9 v10 W => v9 = .int .i64 1 ∧ v10 = .int .i64 0 ∧ W = w)
        case atStart => exact ⟨rfl, rfl, rfl⟩
        case round =>
          obtain ⟨rfl, rfl, rfl⟩ := hrel
          go_wp2
          go_step3
          go_wp2
          refine start_ (n := 7) (S := fun _ => True) (ds := []) (bz 7 0) (by kernel_rfl) rfl rfl trivial (fun hHeld => ?_)
          refine with_tabW strings_IndexRune.tab6 strings_IndexRune.bits6 (fun HT_ HW_ => ?_)
          refine run_ [(0, 0, 1, some 27), (0, 1, 3, some 28), (0, 2, 7, some 29), (0, 3, 15, some 30), (0, 4, 31, some 31), (0, 5, 63, some 32), (0, 6, 127, some 33)] ?_
          repeat (first | (apply tag0; refine run_p (v := ?_) (a' := ?_) rfl rfl (any_of HT_.out (by kernel_rfl)) (fun _ _ _ h => h) (by rfl) ?_ ?_ ?_; rotate_left 2; (intro w'; go_simp; with_reducible rfl); (first | (simp only [Act.put, List.setIfInBounds_toArray, List.set_cons_zero, List.set_cons_succ, i64_w, i32_w]; rfl) | rfl)))
          refine run_nil ?_
          refine done_ (done_of HT_.out (by kernel_rfl)) ?_
          clear HT_ HW_ hHeld
          go_wp2
          refine start_ (n := 9) (S := fun _ => True) (ds := []) (bz 9 0) (by kernel_rfl) rfl rfl trivial (fun hHeld => ?_)
          refine with_tabW strings_IndexRune.tab7 strings_IndexRune.bits7 (fun HT_ HW_ => ?_)
          refine run_ [(0, 0, 1, some 34), (0, 1, 3, some 35), (0, 2, 7, some 36), (0, 3, 15, some 37), (0, 4, 31, some 38), (0, 5, 63, some 39), (0, 6, 127, some 40)] ?_
          repeat (first | (apply tag0; refine run_p (v := ?_) (a' := ?_) rfl rfl (any_of HT_.out (by kernel_rfl)) (fun _ _ _ h => h) (by rfl) ?_ ?_ ?_; rotate_left 2; (intro w'; go_simp; with_reducible rfl); (first | (simp only [Act.put, List.setIfInBounds_toArray, List.set_cons_zero, List.set_cons_succ, i64_w, i32_w]; rfl) | rfl)))
          refine run_nil ?_
          refine one_ (i := 7) (N := some 41) (bz 9 255) rfl rfl (one_of HT_.out (by kernel_rfl)) (by decide) (fun K hK => ?_)
          refine goes_ Tryd.func120 (by kernel_rfl) rfl #[.string (({ data := #[58, 45, 44] } : ByteArray).extract 2 3), .int .u8 ((E[1].toNat : Nat) : Int)] (by rfl) rfl rfl (by first | rfl | exact mapT) ?_
          refine (strings_IndexRune.ib _ _ _).mono ?_
          rintro e w5 ⟨he, hw5⟩
          rw [hfi] at he
          subst he
          refine ⟨_, rfl, ?_⟩
          have HB5 := Aside0.mk (show Below wr.heap.size wr w5 from by rw [hw5]; repeat (first | exact Below.refl _ _ | apply below_drew1 | apply pw_below_drewN))
          clear hw5
          refine hK.out _ _ trivial (fun hHeld2 => ?_)
          clear hK K
          refine norm_ (a' := ?_) ?_ ?_
          rotate_left
          · show Act.put _ (some 41) _ = _
            simp only [Act.put, List.setIfInBounds_toArray, List.set_cons_zero, List.set_cons_succ, i64_w, i32_w]
            rfl
          refine run_ [(0, 8, 511, some 11)] ?_
          repeat (first | (apply tag0; refine run_p (v := ?_) (a' := ?_) rfl rfl (any_of HT_.out (by kernel_rfl)) (fun _ _ _ h => h) (by rfl) ?_ ?_ ?_; rotate_left 2; (intro w'; go_simp; with_reducible rfl); (first | (simp only [Act.put, List.setIfInBounds_toArray, List.set_cons_zero, List.set_cons_succ, i64_w, i32_w]; rfl) | rfl)))
          refine run_nil ?_
          refine done_ (done_of HT_.out (by kernel_rfl)) ?_
          clear HT_ HW_ hHeld hHeld2
          go_wp2
          (try simp only [Exit.noGoto_ret, Exit.inBlock, Exit.then])
          go_ret
          exact ⟨rfl, by first | exact HB5.out | exact pw_below_drewN HB5.out _⟩
      · have hi : wrap64 ((E.size : Int) - 1) = 2 := by rw [hn, wrap_id (by omega) (by omega)]; rfl
        have hj : 2 < E.size := by omega
        have h2 : 128 ≤ E[2].toNat := by simpa [hn] using hEl2
        have hne1 : (((({ data := #[58, 45, 44] } : ByteArray)[2].toNat : Nat) : Int) != ((E[2].toNat : Nat) : Int)) = true := by
          have h3 : ∀ h : 2 < ({ data := #[58, 45, 44] } : ByteArray).size, (({ data := #[58, 45, 44] } : ByteArray)[2]'h).toNat < 128 := by decide
          have h3 := h3 (by decide)
          exact bne_iff_ne.mpr (by omega)
        have hw2 : wrap64 3 = 3 := wrap_id (by omega) (by omega)
        have hfi : firstIdx (({ data := #[58, 45, 44] } : ByteArray).extract 3 3) (UInt8.ofNat (((E[2].toNat : Nat) : Int)).toNat) = -1 := firstIdx_ascii ({ data := #[58, 45, 44] } : ByteArray) 3 3 _ (by decide) (by rw [Int.toNat_natCast, UInt8.ofNat_toNat]; exact h2)
        rw [hi]
        go_loopg [9, 10] 1 (fun kq v9 v10 W => v9 = .int .i64 2 ∧ v10 = .int .i64 0 ∧ W = w)
        case atStart => exact ⟨rfl, rfl, rfl⟩
        case round =>
          obtain ⟨rfl, rfl, rfl⟩ := hrel
          go_wp2
          go_step3
          go_wp2
          refine start_ (n := 7) (S := fun _ => True) (ds := []) (bz 7 0) (by kernel_rfl) rfl rfl trivial (fun hHeld => ?_)
          refine with_tabW strings_IndexRune.tab6 strings_IndexRune.bits6 (fun HT_ HW_ => ?_)
          refine run_ [(0, 0, 1, some 27), (0, 1, 3, some 28), (0, 2, 7, some 29), (0, 3, 15, some 30), (0, 4, 31, some 31), (0, 5, 63, some 32), (0, 6, 127, some 33)] ?_
          repeat (first | (apply tag0; refine run_p (v := ?_) (a' := ?_) rfl rfl (any_of HT_.out (by kernel_rfl)) (fun _ _ _ h => h) (by rfl) ?_ ?_ ?_; rotate_left 2; (intro w'; go_simp; with_reducible rfl); (first | (simp only [Act.put, List.setIfInBounds_toArray, List.set_cons_zero, List.set_cons_succ, i64_w, i32_w]; rfl) | rfl)))
          refine run_nil ?_
          refine done_ (done_of HT_.out (by kernel_rfl)) ?_
          clear HT_ HW_ hHeld
          go_wp2
          refine start_ (n := 9) (S := fun _ => True) (ds := []) (bz 9 0) (by kernel_rfl) rfl rfl trivial (fun hHeld => ?_)
          refine with_tabW strings_IndexRune.tab7 strings_IndexRune.bits7 (fun HT_ HW_ => ?_)
          refine run_ [(0, 0, 1, some 34), (0, 1, 3, some 35), (0, 2, 7, some 36), (0, 3, 15, some 37), (0, 4, 31, some 38), (0, 5, 63, some 39), (0, 6, 127, some 40)] ?_
          repeat (first | (apply tag0; refine run_p (v := ?_) (a' := ?_) rfl rfl (any_of HT_.out (by kernel_rfl)) (fun _ _ _ h => h) (by rfl) ?_ ?_ ?_; rotate_left 2; (intro w'; go_simp; with_reducible rfl); (first | (simp only [Act.put, List.setIfInBounds_toArray, List.set_cons_zero, List.set_cons_succ, i64_w, i32_w]; rfl) | rfl)))
          refine run_nil ?_
          refine one_ (i := 7) (N := some 41) (bz 9 255) rfl rfl (one_of HT_.out (by kernel_rfl)) (by decide) (fun K hK => ?_)
          refine goes_ Tryd.func120 (by kernel_rfl) rfl #[.string (({ data := #[58, 45, 44] } : ByteArray).extract 3 3), .int .u8 ((E[2].toNat : Nat) : Int)] (by rfl) rfl rfl (by first | rfl | exact mapT) ?_
          refine (strings_IndexRune.ib _ _ _).mono ?_
          rintro e w5 ⟨he, hw5⟩
          rw [hfi] at he
          subst he
          refine ⟨_, rfl, ?_⟩
          have HB5 := Aside0.mk (show Below wr.heap.size wr w5 from by rw [hw5]; repeat (first | exact Below.refl _ _ | apply below_drew1 | apply pw_below_drewN))
          clear hw5
          refine hK.out _ _ trivial (fun hHeld2 => ?_)
          clear hK K
          refine norm_ (a' := ?_) ?_ ?_
          rotate_left
          · show Act.put _ (some 41) _ = _
            simp only [Act.put, List.setIfInBounds_toArray, List.set_cons_zero, List.set_cons_succ, i64_w, i32_w]
            rfl
          refine run_ [(0, 8, 511, some 11)] ?_
          repeat (first | (apply tag0; refine run_p (v := ?_) (a' := ?_) rfl rfl (any_of HT_.out (by kernel_rfl)) (fun _ _ _ h => h) (by rfl) ?_ ?_ ?_; rotate_left 2; (intro w'; go_simp; with_reducible rfl); (first | (simp only [Act.put, List.setIfInBounds_toArray, List.set_cons_zero, List.set_cons_succ, i64_w, i32_w]; rfl) | rfl)))
          refine run_nil ?_
          refine done_ (done_of HT_.out (by kernel_rfl)) ?_
          clear HT_ HW_ hHeld hHeld2
          go_wp2
          (try simp only [Exit.noGoto_ret, Exit.inBlock, Exit.then])
          go_ret
          exact ⟨rfl, by first | exact HB5.out | exact pw_below_drewN HB5.out _⟩
      · have hi : wrap64 ((E.size : Int) - 1) = 3 := by rw [hn, wrap_id (by omega) (by omega)]; rfl
        rw [hi]
        go_loopg [9, 10] 1 (fun kq v9 v10 W => v9 = .int .i64 3 ∧ v10 = .int .i64 0 ∧ W = w)
        case atStart => exact ⟨rfl, rfl, rfl⟩
        case round =>
          obtain ⟨rfl, rfl, rfl⟩ := hrel
          go_wp2
          (try simp only [Exit.noGoto_ret, Exit.inBlock, Exit.then])
          go_ret
          exact ⟨rfl, by first | exact Below.refl _ _ | exact pw_below_drewN (Below.refl _ _) _⟩
  · have c3 : decide (r < 55296) = false := decide_eq_false (by omega)
    have c4 : decide (57343 < r) = false := decide_eq_false (by omega)
    go_enter Tryd.func110, Tryd.ntmps110
    go_wp2
    go_ret
    exact ⟨rfl, by first | exact Below.refl _ _ | exact pw_below_drewN (Below.refl _ _) _⟩

/-- Which runes are signs. -/
def strings_IndexRune.sg (s : ByteArray) (x : Nat) : Bool := decide (x < 128) && s.data.toList.any (· == UInt8.ofNat x)
set_option maxHeartbeats 4000000 in
set_option maxRecDepth 100000 in
theorem strings_IndexRune.hasP (x : Nat) (hx : x ≤ 1114111) (w : World) :
    Calls Tryd.prog 89 #[.string ⟨#[58, 45, 44]⟩, .int .i32 (x : Int)] w fun e w' => e = .returned (.bool (strings_IndexRune.sg ⟨#[58, 45, 44]⟩ x)) ∧ Below w.heap.size w w' := by
  by_cases h1 : x < 128
  · have e : decide (0 ≤ firstIdx (⟨#[58, 45, 44]⟩ : ByteArray) (UInt8.ofNat x)) = strings_IndexRune.sg ⟨#[58, 45, 44]⟩ x := by
      rw [firstIdx_nonneg]
      unfold strings_IndexRune.sg
      rw [decide_eq_true h1, Bool.true_and]
    have E := Aside0.mk e
    clear e
    go_enter Tryd.func89, Tryd.ntmps89
    go_wp2_with (go_at_call 110; refine (strings_IndexRune.near _ _ (by omega) (by omega) _).mono ?_; rintro e w5 ⟨rfl, hw5⟩; have HW5 := Aside0.mk hw5; clear hw5)
    go_ret
    exact ⟨by first | (rw [E.out]; rfl) | (show Ending.returned (.bool (decide (0 ≤ firstIdx _ (UInt8.ofNat x)))) = _; rw [E.out]), by first | exact HW5.out | exact pw_below_drewN HW5.out _⟩
  · have e : strings_IndexRune.sg ⟨#[58, 45, 44]⟩ x = false := by
      unfold strings_IndexRune.sg
      rw [decide_eq_false h1, Bool.false_and]
    rw [e]
    clear e
    by_cases h2 : x = 65533
    · subst h2
      go_enter Tryd.func89, Tryd.ntmps89
      go_wp2_with (go_at_call 110; refine (strings_IndexRune.badP _).mono ?_; rintro e w5 ⟨rfl, hw5⟩; have HW5 := Aside0.mk hw5; clear hw5)
      go_ret
      exact ⟨by first | rfl | (simp; done), by first | exact HW5.out | exact pw_below_drewN HW5.out _⟩
    · go_enter Tryd.func89, Tryd.ntmps89
      go_wp2_with (go_at_call 110; refine (strings_IndexRune.farP _ (by omega) (by omega) (by omega) _).mono ?_; rintro e w5 ⟨rfl, hw5⟩; have HW5 := Aside0.mk hw5; clear hw5)
      go_ret
      exact ⟨by first | rfl | (simp; done), by first | exact HW5.out | exact pw_below_drewN HW5.out _⟩

/-! ### impl_numbersIn_1: function 88 (a text of this session's own) -/
set_option maxHeartbeats 4000000 in
set_option maxRecDepth 100000 in
theorem impl_numbersIn_1.calls (gs x : Nat) (hx : x ≤ 1114111) (w : World) (hc : w.cell? ⟨gs, 0, none⟩ = some (.string ⟨#[58, 45, 44]⟩)) :
    Calls Tryd.prog 88 #[.int .i32 (x : Int), .pointer (some ⟨gs, 0, none⟩)] w fun e w' => e = .returned (.bool (strings_IndexRune.sg ⟨#[58, 45, 44]⟩ x)) ∧ Below w.heap.size w w' := by
  go_enter Tryd.func88, Tryd.ntmps88
  go_wp2_with (go_at_call 89; refine (strings_IndexRune.hasP x hx _).mono ?_; rintro e w5 ⟨rfl, hb⟩; have HB5 := Aside0.mk hb; clear hb)
  go_ret
  exact ⟨rfl, by first | exact HB5.out | exact pw_below_drewN HB5.out _⟩

/-! ### strconv_Itoa: function 96 (a text of this session's own) -/
/-- A number up to ten, told. -/
def strconv_Itoa.dg (a0 : Int) : ByteArray := if a0 < 10 then strOfNums [48 + a0] else strOfNums [49, 48]
def strconv_Itoa.f (a0 : Int) : Option ByteArray := if 0 ≤ a0 then (if a0 < 11 then some (strconv_Itoa.dg a0) else none) else none
set_option maxHeartbeats 4000000 in
set_option maxRecDepth 100000 in
theorem strconv_Itoa.small (a0 : Int) (h0 : 0 ≤ a0) (h1 : a0 < 11) (w : World) : Calls Tryd.prog 135 #[.int .i64 a0] w fun e w' => e = .returned (.string (strconv_Itoa.dg a0)) ∧ w' = w := by
  obtain rfl | rfl | rfl | rfl | rfl | rfl | rfl | rfl | rfl | rfl | rfl : a0 = 0 ∨ a0 = 1 ∨ a0 = 2 ∨ a0 = 3 ∨ a0 = 4 ∨ a0 = 5 ∨ a0 = 6 ∨ a0 = 7 ∨ a0 = 8 ∨ a0 = 9 ∨ a0 = 10 := by omega
  all_goals
    go_enter Tryd.func135, Tryd.ntmps135
    go_wp2
    go_ret
    exact ⟨by kernel_rfl, rfl⟩
set_option maxHeartbeats 4000000 in
set_option maxRecDepth 100000 in
theorem strconv_Itoa.format (a0 : Int) (h0 : 0 ≤ a0) (h1 : a0 < 11) (w : World) : Calls Tryd.prog 126 #[.int .i64 a0, .int .i64 10] w fun e w' => e = .returned (.string (strconv_Itoa.dg a0)) ∧ w' = w := by
  have H0 := Aside0.mk h0
  have H1 := Aside0.mk h1
  have c0 : decide (0 ≤ a0) = true := decide_eq_true h0
  have c1 : decide (a0 < 100) = true := decide_eq_true (by omega)
  clear h0 h1
  go_enter Tryd.func126, Tryd.ntmps126
  go_wp2_with ((with_reducible refine gate_callee (f := 135) rfl ?_); refine goC (N := some 19) Tryd.func135 #[.int .i64 a0] rfl ?_; refine (strconv_Itoa.small a0 H0.out H1.out _).mono ?_; rintro e w' ⟨rfl, rfl⟩; refine ⟨_, rfl, ?_⟩)
  go_ret
  exact ⟨rfl, rfl⟩
set_option maxHeartbeats 4000000 in
set_option maxRecDepth 100000 in
theorem strconv_Itoa.inner (a0 : Int) (h0 : 0 ≤ a0) (h1 : a0 < 11) (w : World) : Calls Tryd.prog 114 #[.int .i64 a0] w fun e w' => e = .returned (.string (strconv_Itoa.dg a0)) ∧ w' = w := by
  have H0 := Aside0.mk h0
  have H1 := Aside0.mk h1
  clear h0 h1
  go_enter Tryd.func114, Tryd.ntmps114
  go_wp2_with ((with_reducible refine gate_callee (f := 126) rfl ?_); refine goC (N := some 4) Tryd.func126 #[.int .i64 a0, .int .i64 10] rfl ?_; refine (strconv_Itoa.format a0 H0.out H1.out _).mono ?_; rintro e w' ⟨rfl, rfl⟩; refine ⟨_, rfl, ?_⟩)
  go_ret
  exact ⟨rfl, rfl⟩
set_option maxHeartbeats 4000000 in
set_option maxRecDepth 100000 in
theorem strconv_Itoa.calls (a0 : Int) (r : ByteArray) (w : World) (h : strconv_Itoa.f a0 = some r) : Calls Tryd.prog 96 #[.int .i64 a0] w fun e w' => e = .returned (.string r) ∧ Below w.heap.size w w' := by
  unfold strconv_Itoa.f at h
  by_cases h0 : 0 ≤ a0
  · rw [if_pos h0] at h
    by_cases h1 : a0 < 11
    · rw [if_pos h1] at h
      obtain rfl := Option.some.inj h
      have H0 := Aside0.mk h0
      have H1 := Aside0.mk h1
      clear h0 h1 h
      go_enter Tryd.func96, Tryd.ntmps96
      go_wp2_with ((with_reducible refine gate_callee (f := 114) rfl ?_); refine goC (N := some 4) Tryd.func114 #[.int .i64 a0] rfl ?_; refine (strconv_Itoa.inner a0 H0.out H1.out _).mono ?_; rintro e w' ⟨rfl, rfl⟩; refine ⟨_, rfl, ?_⟩)
      go_ret
      exact ⟨rfl, Below.refl _ _⟩
    · rw [if_neg h1] at h; cases h
  · rw [if_neg h0] at h; cases h

/-! ### impl_number: function 90 (a text of this session's own) -/
-- WANTS Derived.Shelf.Strconv.Atoi
section
open Go.Shelf
def impl_number.ff_ren : Go.Shelf.Ren := ⟨fun | 229 => 87 | n => n, fun | 9 => 9 | 40 => 116 | 31 => 111 | 152 => 136 | 3 => 3 | 0 => 0 | 4 => 4 | 21 => 21 | 154 => 138 | n => n, fun | n => n⟩
theorem impl_number.ff : Go.Proofs.Lays.n229 Tryd.prog impl_number.ff_ren := {
  mixed := by kernel_rfl
  f229 := Tryd.func87.trans (congrArg some (by kernel_rfl))
  t0 := Tryd.underlying0
  a0 := Tryd.isAgg0
  z0 := Tryd.sizeOf0
  v0 := Tryd.zeroValue0
  t3 := Tryd.underlying3
  a3 := Tryd.isAgg3
  z3 := Tryd.sizeOf3
  v3 := Tryd.zeroValue3
  t4 := Tryd.underlying4
  a4 := Tryd.isAgg4
  z4 := Tryd.sizeOf4
  v4 := Tryd.zeroValue4
  t9 := Tryd.underlying9
  a9 := Tryd.isAgg9
  z9 := Tryd.sizeOf9
  v9 := Tryd.zeroValue9
  t21 := Tryd.underlying21
  a21 := Tryd.isAgg21
  z21 := Tryd.sizeOf21
  v21 := Tryd.zeroValue21
  t31 := Tryd.underlying111
  a31 := Tryd.isAgg111
  z31 := Tryd.sizeOf111
  v31 := Tryd.zeroValue111
  t40 := Tryd.underlying116
  a40 := Tryd.isAgg116
  z40 := Tryd.sizeOf116
  v40 := Tryd.zeroValue116
  t152 := Tryd.underlying136
  a152 := Tryd.isAgg136
  z152 := Tryd.sizeOf136
  v152 := Tryd.zeroValue136
  t154 := Tryd.underlying138
  a154 := Tryd.isAgg138
  z154 := Tryd.sizeOf138
  v154 := Tryd.zeroValue138 }
def impl_number.at_ren : Go.Shelf.Ren := ⟨fun | 172 => 111 | 244 => 124 | 245 => 125 | 247 => 130 | 279 => 131 | 280 => 132 | 281 => 133 | 282 => 134 | 287 => 142 | 316 => 143 | 171 => 96 | 205 => 144 | 321 => 150 | 322 => 151 | 243 => 114 | 246 => 126 | 283 => 135 | 284 => 136 | 285 => 137 | 286 => 138 | 129 => 146 | 317 => 145 | 318 => 147 | 319 => 148 | 320 => 149 | 337 => 152 | 338 => 153 | n => n, fun | 9 => 9 | 3 => 3 | 75 => 141 | 76 => 142 | 4 => 4 | 5 => 5 | 167 => 159 | 37 => 22 | 0 => 0 | 85 => 160 | 2 => 2 | 168 => 162 | 53 => 60 | 175 => 173 | 46 => 125 | 210 => 177 | 127 => 158 | 145 => 185 | 143 => 183 | 21 => 21 | 171 => 165 | 173 => 168 | 212 => 179 | 51 => 134 | 20 => 20 | 213 => 180 | 232 => 133 | 233 => 187 | 80 => 149 | n => n, fun | 15 => 2 | 16 => 3 | 17 => 4 | 18 => 0 | 19 => 5 | n => n⟩
theorem impl_number.at : Go.Proofs.Lays.n172 Tryd.prog impl_number.at_ren := {
  mixed := by kernel_rfl
  f129 := Tryd.func146.trans (congrArg some (by kernel_rfl))
  f171 := Tryd.func96.trans (congrArg some (by kernel_rfl))
  f172 := Tryd.func111.trans (congrArg some (by kernel_rfl))
  f205 := Tryd.func144.trans (congrArg some (by kernel_rfl))
  f243 := Tryd.func114.trans (congrArg some (by kernel_rfl))
  f244 := Tryd.func124.trans (congrArg some (by kernel_rfl))
  f245 := Tryd.func125.trans (congrArg some (by kernel_rfl))
  f246 := Tryd.func126.trans (congrArg some (by kernel_rfl))
  f247 := Tryd.func130.trans (congrArg some (by kernel_rfl))
  f279 := Tryd.func131.trans (congrArg some (by kernel_rfl))
  f280 := Tryd.func132.trans (congrArg some (by kernel_rfl))
  f281 := Tryd.func133.trans (congrArg some (by kernel_rfl))
  f282 := Tryd.func134.trans (congrArg some (by kernel_rfl))
  f283 := Tryd.func135.trans (congrArg some (by kernel_rfl))
  f284 := Tryd.func136.trans (congrArg some (by kernel_rfl))
  f285 := Tryd.func137.trans (congrArg some (by kernel_rfl))
  f286 := Tryd.func138.trans (congrArg some (by kernel_rfl))
  f287 := Tryd.func142.trans (congrArg some (by kernel_rfl))
  f316 := Tryd.func143.trans (congrArg some (by kernel_rfl))
  f317 := Tryd.func145.trans (congrArg some (by kernel_rfl))
  f318 := Tryd.func147.trans (congrArg some (by kernel_rfl))
  f319 := Tryd.func148.trans (congrArg some (by kernel_rfl))
  f320 := Tryd.func149.trans (congrArg some (by kernel_rfl))
  f321 := Tryd.func150.trans (congrArg some (by kernel_rfl))
  f322 := Tryd.func151.trans (congrArg some (by kernel_rfl))
  f337 := Tryd.func152.trans (congrArg some (by kernel_rfl))
  f338 := Tryd.func153.trans (congrArg some (by kernel_rfl))
  t0 := Tryd.underlying0
  a0 := Tryd.isAgg0
  z0 := Tryd.sizeOf0
  v0 := Tryd.zeroValue0
  t2 := Tryd.underlying2
  a2 := Tryd.isAgg2
  z2 := Tryd.sizeOf2
  v2 := Tryd.zeroValue2
  t3 := Tryd.underlying3
  a3 := Tryd.isAgg3
  z3 := Tryd.sizeOf3
  v3 := Tryd.zeroValue3
  t4 := Tryd.underlying4
  a4 := Tryd.isAgg4
  z4 := Tryd.sizeOf4
  v4 := Tryd.zeroValue4
  t5 := Tryd.underlying5
  a5 := Tryd.isAgg5
  z5 := Tryd.sizeOf5
  v5 := Tryd.zeroValue5
  t9 := Tryd.underlying9
  a9 := Tryd.isAgg9
  z9 := Tryd.sizeOf9
  v9 := Tryd.zeroValue9
  t20 := Tryd.underlying20
  a20 := Tryd.isAgg20
  z20 := Tryd.sizeOf20
  v20 := Tryd.zeroValue20
  t21 := Tryd.underlying21
  a21 := Tryd.isAgg21
  z21 := Tryd.sizeOf21
  v21 := Tryd.zeroValue21
  t37 := Tryd.underlying22
  a37 := Tryd.isAgg22
  z37 := Tryd.sizeOf22
  v37 := Tryd.zeroValue22
  t46 := Tryd.underlying125
  a46 := Tryd.isAgg125
  z46 := Tryd.sizeOf125
  v46 := Tryd.zeroValue125
  t51 := Tryd.underlying134
  a51 := Tryd.isAgg134
  z51 := Tryd.sizeOf134
  v51 := Tryd.zeroValue134
  t53 := Tryd.underlying60
  a53 := Tryd.isAgg60
  z53 := Tryd.sizeOf60
  v53 := Tryd.zeroValue60
  t75 := Tryd.underlying141
  a75 := Tryd.isAgg141
  z75 := Tryd.sizeOf141
  v75 := Tryd.zeroValue141
  t76 := Tryd.underlying142
  a76 := Tryd.isAgg142
  z76 := Tryd.sizeOf142
  v76 := Tryd.zeroValue142
  t85 := Tryd.underlying160
  a85 := Tryd.isAgg160
  z85 := Tryd.sizeOf160
  v85 := Tryd.zeroValue160
  t127 := Tryd.underlying158
  a127 := Tryd.isAgg158
  z127 := Tryd.sizeOf158
  v127 := Tryd.zeroValue158
  t143 := Tryd.underlying183
  a143 := Tryd.isAgg183
  z143 := Tryd.sizeOf183
  v143 := Tryd.zeroValue183
  t145 := Tryd.underlying185
  a145 := Tryd.isAgg185
  z145 := Tryd.sizeOf185
  v145 := Tryd.zeroValue185
  t167 := Tryd.underlying159
  a167 := Tryd.isAgg159
  z167 := Tryd.sizeOf159
  v167 := Tryd.zeroValue159
  t168 := Tryd.underlying162
  a168 := Tryd.isAgg162
  z168 := Tryd.sizeOf162
  v168 := Tryd.zeroValue162
  t171 := Tryd.underlying165
  a171 := Tryd.isAgg165
  z171 := Tryd.sizeOf165
  v171 := Tryd.zeroValue165
  t173 := Tryd.underlying168
  a173 := Tryd.isAgg168
  z173 := Tryd.sizeOf168
  v173 := Tryd.zeroValue168
  t175 := Tryd.underlying173
  a175 := Tryd.isAgg173
  z175 := Tryd.sizeOf173
  v175 := Tryd.zeroValue173
  t210 := Tryd.underlying177
  a210 := Tryd.isAgg177
  z210 := Tryd.sizeOf177
  v210 := Tryd.zeroValue177
  t212 := Tryd.underlying179
  a212 := Tryd.isAgg179
  z212 := Tryd.sizeOf179
  v212 := Tryd.zeroValue179
  t213 := Tryd.underlying180
  a213 := Tryd.isAgg180
  z213 := Tryd.sizeOf180
  t232 := Tryd.underlying133
  a232 := Tryd.isAgg133
  z232 := Tryd.sizeOf133
  v232 := Tryd.zeroValue133
  t233 := Tryd.underlying187
  a233 := Tryd.isAgg187
  z233 := Tryd.sizeOf187
  v233 := Tryd.zeroValue187
  g15 := by kernel_rfl
  g16 := by kernel_rfl
  g17 := by kernel_rfl
  g18 := by kernel_rfl
  g19 := by kernel_rfl }
end
/-- The text of a digit. -/
def impl_number.tx (d : Nat) : ByteArray := ⟨#[UInt8.ofNat (48 + d)]⟩
set_option maxHeartbeats 4000000 in
set_option maxRecDepth 100000 in
theorem impl_number.one (d : Nat) (hd : d ≤ 9) (most : Int) (hm : 9 ≤ most) (w : World) : Calls Tryd.prog 90 #[.string (impl_number.tx d), .int .i64 most] w fun e w' => e = .returned (.tuple #[.int .i64 (d : Int), .bool true]) ∧ Below w.heap.size w w' := by
  have hat : Lib.atoi (impl_number.tx d).data.toList = some (d : Int) := by
    obtain rfl | rfl | rfl | rfl | rfl | rfl | rfl | rfl | rfl | rfl : d = 0 ∨ d = 1 ∨ d = 2 ∨ d = 3 ∨ d = 4 ∨ d = 5 ∨ d = 6 ∨ d = 7 ∨ d = 8 ∨ d = 9 := by omega
    all_goals rfl
  have hit : strconv_Itoa.f (d : Int) = some (impl_number.tx d) := by
    obtain rfl | rfl | rfl | rfl | rfl | rfl | rfl | rfl | rfl | rfl : d = 0 ∨ d = 1 ∨ d = 2 ∨ d = 3 ∨ d = 4 ∨ d = 5 ∨ d = 6 ∨ d = 7 ∨ d = 8 ∨ d = 9 := by omega
    all_goals rfl
  have hsz : (impl_number.tx d).size ≤ 18 := by show 1 ≤ 18; omega
  have hwi : impl_within.f (d : Int) 0 most = some true := by
    unfold impl_within.f
    rw [if_pos (by omega), decide_eq_true (by omega)]
  obtain ⟨T, hT⟩ : ∃ T_, T_ = impl_number.tx d := ⟨_, rfl⟩
  rw [← hT] at hat hit hsz ⊢
  have HAT := Aside0.mk hat
  have HIT := Aside0.mk hit
  have HSZ := Aside0.mk hsz
  have HWI := Aside0.mk hwi
  have HB := Aside0.mk (Below.refl w.heap.size w)
  clear hat hit hsz hwi hT
  go_enter Tryd.func90, Tryd.ntmps90
  go_wp2_with (first
    | ((with_reducible refine gate_dst (N := 10) rfl ?_); refine goC (N := some 10) Tryd.func111 #[.string T] rfl ?_; refine (Any.strconv_Atoi impl_number.at T (d : Int) HSZ.out HAT.out _).mono ?_; rintro e w3 ⟨rfl, t3, hw3⟩; refine ⟨_, rfl, ?_⟩; have HB3 := Aside0.mk (show Below w.heap.size w w3 from by rw [hw3]; exact bytes_below (Below.refl _ _) (Nat.le_refl _) _ _); clear hw3)
    | (go_at_call 96; refine (strconv_Itoa.calls (d : Int) T _ HIT.out).mono ?_; rintro e w4 ⟨rfl, hb⟩; have HB4 := Aside0.mk (below_step HB3.out hb); clear hb)
    | (go_at_call 34; refine (impl_within.calls (d : Int) 0 most true _ HWI.out).mono ?_; rintro e w5 ⟨rfl, ⟨m_, rfl⟩⟩))
  go_ret2
  exact ⟨rfl, by first | exact HB4.out | exact pw_below_drewN HB4.out _⟩

/-! ### impl_numbersIn: function 56 (a text of this session's own) -/
set_option maxHeartbeats 4000000 in
set_option maxRecDepth 100000 in
theorem impl_numbersIn.ff (gs : Nat) (s : ByteArray) (w : World) (hs : s.size ≤ 1000000) (hc : w.cell? ⟨gs, 0, none⟩ = some (.string ⟨#[58, 45, 44]⟩)) (ps : List ByteArray) (hp : Lib.goFieldsP (strings_IndexRune.sg ⟨#[58, 45, 44]⟩) s = ps) :
    Calls Tryd.prog 87 #[.string s, .func (.func 88) #[] #[.pointer (some ⟨gs, 0, none⟩)]] w fun e w' => ∃ u, e = .returned u ∧ Kd.R Kd.string 9 w' w.heap.size (fun _ => True) u ps ∧ Below w.heap.size w w' := by
  refine (Any.strings_FieldsFunc_grows impl_number.ff 88 #[.pointer (some ⟨gs, 0, none⟩)] (enters_ Tryd.func88 (by kernel_rfl) rfl) (strings_IndexRune.sg ⟨#[58, 45, 44]⟩) s w (by omega) (fun W x hx hb => ?_) (by kernel_rfl) (by kernel_rfl)).mono ?_
  · exact impl_numbersIn_1.calls gs x hx W ((hb.cell (World.block_lt_of_cell? w _ hc)).trans hc)
  · rintro e w' ⟨A, rfl, hA, ho, hb⟩
    rw [hp] at ho ⊢
    refine ⟨_, rfl, ⟨fun _ _ => trivial, _, ho, ?_⟩, hb⟩
    clear hp ho
    induction ps with
    | nil => exact Reps.none _ _
    | cons p ps ih => exact Reps.one (show Kd.M Kd.string _ _ _ p [.string p] from rfl) ih
set_option maxHeartbeats 4000000 in
set_option maxRecDepth 100000 in
theorem impl_numbersIn.calls (s : ByteArray) (hs : s.size ≤ 1000000) (ds : List Nat) (hd : ∀ d ∈ ds, d ≤ 9) (hp : Lib.goFieldsP (strings_IndexRune.sg ⟨#[58, 45, 44]⟩) s = ds.map impl_number.tx) (hl : ds.length ≤ 1000000) (most : Int) (hm : 9 ≤ most) (w : World) :
    Calls Tryd.prog 56 #[.string s, .string ⟨#[58, 45, 44]⟩, .int .i64 most] w fun e w' => ∃ v1_ : Value, e = .returned (.tuple #[v1_, .bool true]) ∧ Kd.R (Kd.int .i64) 3 w' w.heap.size (fun _ => True) v1_ (ds.map fun d : Nat => (d : Int)) ∧ Below w.heap.size w w' := by
  obtain ⟨ps, hps⟩ : ∃ ps_, ps_ = ds.map impl_number.tx := ⟨_, rfl⟩
  rw [← hps] at hp
  have hlen : ps.length = ds.length := by rw [hps, List.length_map]
  have HP := Aside0.mk hp
  have HPS := Aside0.mk hps
  have HB := Aside0.mk (Below.refl w.heap.size w)
  clear hp hps
  go_enter Tryd.func56, Tryd.ntmps56
  go_wp2_with (first
    | ((with_reducible refine gate_dst (N := 4) rfl ?_); refine bxE 4 #[.string ⟨#[58, 45, 44]⟩] 9 rfl ?_; intro gs hg w2 hbox hb; have BKs := Aside0.mk hbox; replace HB := hS HB hb; have hs0 := cz BKs 0; clear hg hbox hb)
    | ((with_reducible refine gate_dst (N := 13) rfl ?_); refine Kd.R_lit (Kd.int .i64) _ 3 ?hg (N := 13) ?hd (xs := ([] : List Int)) (inner := []) (ok := fun _ => True) (okp := fun _ => True) ?hr ?hp (fun _ hk => hk) trivial (Below.refl _ _) (Nat.le_refl _) (by simp) ?_; (case hd => rfl); (case hg => rfl); (case hr => first | (go_simp; done) | (go_simp; rfl)); (case hp => exact (Reps.none _ _)); intro v3 w3 ho hb hg_ hnew_; clear hg_ hnew_; have HO3 := Aside0.mk (Kd.R_lower ho (below_size hB)); replace BKs := bS BKs hb; replace HB := hS HB hb; clear hb ho hs0; have hs0 := cz BKs 0)
    | (go_at_call 87; refine (impl_numbersIn.ff gs s _ hs (cz BKs 0) ps HP.out).mono ?_; rintro e w4 ⟨u, rfl, ho, hb⟩; have HO4 := Aside0.mk (Kd.R_lower ho (below_size hB)); replace HO3 := Aside0.mk (Kd.R_below HO3.out hb); replace HB := hS HB hb; clear hb ho hs0; obtain ⟨Au, cu, eu⟩ := Kd.R_slice HO4.out; subst eu))
  have HL := Aside0.mk hlen
  clear hlen
  go_loopg [8, 18] ds.length (fun kq v8 v18 W => ∃ i : Nat, v18 = .int .i64 (i : Int) ∧ i + kq = ds.length ∧ Aside0 (Kd.R (Kd.int .i64) 3 W w.heap.size (fun _ => True) v8 ((ds.take i).map fun d : Nat => (d : Int))) ∧ Aside0 (Kd.R Kd.string 9 W w.heap.size (fun _ => True) (.slice Au ps.length cu) ps) ∧ Aside0 (Below w.heap.size w W))
  case atStart => exact ⟨0, rfl, by omega, HO3, HO4, HB⟩
  case round =>
    clear HO3 HO4 HB
    obtain ⟨i, rfl, hi, HO3, HO4, HB⟩ := hrel
    by_cases c : i < ds.length
    · have c1 : decide ((i : Int) < (ds.length : Int)) = true := decide_eq_true (by omega)
      obtain ⟨d, hdd⟩ : ∃ d_, d_ = ds[i] := ⟨_, rfl⟩
      have hd9 : d ≤ 9 := hd d (hdd ▸ List.getElem_mem c)
      have e1 : rdOf ByteArray.empty ps (i : Int) = impl_number.tx d := by
        rw [HPS.out]
        unfold rdOf
        rw [Int.toNat_natCast, List.getD_eq_getElem?_getD, List.getElem?_map, List.getElem?_eq_getElem c, hdd]
        rfl
      have e2 : (ds.take (i + 1)).map (fun d : Nat => (d : Int)) = (ds.take i).map (fun d : Nat => (d : Int)) ++ [(d : Int)] := by
        rw [List.take_add_one, List.getElem?_eq_getElem c, List.map_append, hdd]
        rfl
      have hlt : ((ds.take i).map (fun d : Nat => (d : Int))).length < 17592186044416 := by rw [List.length_map, List.length_take]; omega
      have hx := Kd.at_string (Kd.R_reads' HO4.out).2.2 (i : Int) (by omega) (by have := HL.out; omega)
      obtain ⟨ad, e3, hx⟩ := hx
      rw [e1, Int.toNat_natCast] at hx
      cases e3
      have p1 : (0 : Int) ≤ (i : Int) := by omega
      have p2 : (i : Int) < (ps.length : Int) := by have := HL.out; omega
      have hlen := HL.out
      have hw1 : wrap64 ((i : Int) + 1) = ((i + 1 : Nat) : Int) := by rw [wrap_id (by omega) (by omega)]; omega
      have LM := Aside0.mk hlt
      have E2 := Aside0.mk e2
      clear hlt e2 e1 hdd
      go_wp2_with (first
        | (go_at_call 90; refine (impl_number.one d hd9 most hm _).mono ?_; rintro e w5 ⟨rfl, hb⟩; replace HO3 := Aside0.mk (Kd.R_below HO3.out hb); replace HO4 := Aside0.mk (Kd.R_below HO4.out hb); replace HB := hS HB hb; clear hb)
        | ((with_reducible refine gate_builtin (b := .append) (xs := #[.tmp 30, .tmp 32]) rfl ?_); at_builtin; refine Kd.R_append (Kd.int .i64) (w0 := w) w.heap.size rfl (.tmp 30) (.tmp 32) 24 3 (.int .i64 0) 8 rfl Tryd.underlying24 info3 rfl (by decide) (by omega) _ ((ds.take i).map fun d : Nat => (d : Int)) (d : Int) [.int .i64 (d : Int)] (fun _ => True) (fun _ => False) rfl rfl ?aP (fun _ hk => hk.elim) ?aF ?aO ?aB ?aS ?aL ?_; (case aP => exact rfl); (case aB => exact HB.out); (case aF => exact (fun _ _ => trivial)); (case aO => exact HO3.out); (case aS => exact below_size HB.out); (case aL => have := LM.out; omega); intro v6 w6 ho hb hg hat; rw [← E2.out] at ho; have HO6 := Aside0.mk ho; have HO7 := Aside0.mk (Kd.R_mono (Kd.R_grown (Kd.R_bound HO4.out) hg (fun k_ hk => by (obtain ⟨_, _, _, q, hq, cells, hc⟩ := hk; exact Kd.R_ne HO3.out hc (by (rcases List.mem_cons.mp hq with h9 | h9; exact h9 ▸ (by decide); cases h9))))) (fun _ _ => trivial)); have HB6 := Aside0.mk hb; clear ho hb hg hat HO3 HO4 HB))
      go_roundg (gk - 1)
      case measure => omega
      case rel => exact ⟨i + 1, by first | rfl | (simp; done), by omega, HO6, HO7, HB6⟩
    · have c1 : decide ((i : Int) < (ds.length : Int)) = false := decide_eq_false (by omega)
      have hlen := HL.out
      have e2 : ds.take i = ds := List.take_of_length_le (by omega)
      rw [e2] at HO3
      go_wp2
      go_ret2
      exact ⟨_, rfl, by first | exact HO3.out | exact Kd.R_drewN HO3.out, by first | exact HB.out | exact pw_below_drewN HB.out _⟩

/-! ### slices_Chunk_int_int: function 57 (a text of this session's own) -/
set_option maxHeartbeats 4000000 in
set_option maxRecDepth 100000 in
theorem slices_Chunk_int_int.calls (A0 : Option Addr) (len cap c : Nat) (hc : 1 ≤ c) (w : World) :
    Calls Tryd.prog 57 #[.slice A0 len cap, .int .i64 (c : Int)] w fun e w' => ∃ Bs Bn, e = .returned (.func (.func 91) #[] #[.pointer (some ⟨Bs, 0, none⟩), .pointer (some ⟨Bn, 0, none⟩)]) ∧ w'.heap[Bs]? = some (.cells #[.slice A0 len cap] 24 (0, 0)) ∧ w'.heap[Bn]? = some (.cells #[.int .i64 (c : Int)] 3 (0, 0)) ∧ w.heap.size ≤ Bs ∧ w.heap.size ≤ Bn ∧ Below w.heap.size w w' := by
  have d1 : decide ((c : Int) < 1) = false := decide_eq_false (by omega)
  have HB := Aside0.mk (Below.refl w.heap.size w)
  go_enter Tryd.func57, Tryd.ntmps57
  go_wp2_with (first
    | ((with_reducible refine gate_dst (N := 2) rfl ?_); refine bxE 2 #[.slice A0 len cap] 24 rfl ?_; intro gs hg w2 hbox hb; have BKs := Aside0.mk hbox; have GEs := gS HB hg; replace HB := hS HB hb; clear hg hbox hb)
    | ((with_reducible refine gate_dst (N := 3) rfl ?_); refine bxE 3 #[.int .i64 (c : Int)] 3 rfl ?_; intro gn hg w3 hbox hb; have BKn := Aside0.mk hbox; have GEn := gS HB hg; replace BKs := bS BKs hb; replace HB := hS HB hb; have hn0 := cz BKn 0; have hs0 := cz BKs 0; clear hg hbox hb))
  go_ret
  exact ⟨gs, gn, rfl, bK, bK, GEs.out, GEn.out, by first | exact HB.out | exact pw_below_drewN HB.out _⟩

/-! ### strings_Join: function 97 (a text of this session's own) -/
-- WANTS Derived.Shelf.Strings.OnBuilder

/-- Texts joined. -/
def strings_Join.f (l0 : List ByteArray) (a1 : ByteArray) : Option ByteArray := if l0.length ≤ 1000000 then (if (Lib.join (l0.map (·.data.toList)) a1.data.toList).length ≤ 1000000 then some ⟨(Lib.join (l0.map (·.data.toList)) a1.data.toList).toArray⟩ else none) else none
section
open Go.Shelf
def strings_Join.jn_ren : Go.Shelf.Ren := ⟨fun | 156 => 97 | 165 => 115 | 166 => 116 | 169 => 117 | 240 => 127 | 241 => 128 | 276 => 139 | 277 => 140 | n => n, fun | 31 => 111 | 9 => 9 | 3 => 3 | 4 => 4 | 0 => 0 | 20 => 20 | 72 => 147 | 76 => 142 | 70 => 145 | 37 => 22 | 75 => 141 | 127 => 158 | 164 => 170 | 5 => 5 | 80 => 149 | n => n, fun | n => n⟩
theorem strings_Join.jn : Go.Proofs.Lays.n156 Tryd.prog strings_Join.jn_ren := {
  mixed := by kernel_rfl
  f156 := Tryd.func97.trans (congrArg some (by kernel_rfl))
  f165 := Tryd.func115.trans (congrArg some (by kernel_rfl))
  f166 := Tryd.func116.trans (congrArg some (by kernel_rfl))
  f169 := Tryd.func117.trans (congrArg some (by kernel_rfl))
  f240 := Tryd.func127.trans (congrArg some (by kernel_rfl))
  f241 := Tryd.func128.trans (congrArg some (by kernel_rfl))
  f276 := Tryd.func139.trans (congrArg some (by kernel_rfl))
  f277 := Tryd.func140.trans (congrArg some (by kernel_rfl))
  t0 := Tryd.underlying0
  a0 := Tryd.isAgg0
  z0 := Tryd.sizeOf0
  v0 := Tryd.zeroValue0
  t3 := Tryd.underlying3
  a3 := Tryd.isAgg3
  z3 := Tryd.sizeOf3
  v3 := Tryd.zeroValue3
  t4 := Tryd.underlying4
  a4 := Tryd.isAgg4
  z4 := Tryd.sizeOf4
  v4 := Tryd.zeroValue4
  t9 := Tryd.underlying9
  a9 := Tryd.isAgg9
  z9 := Tryd.sizeOf9
  v9 := Tryd.zeroValue9
  t20 := Tryd.underlying20
  a20 := Tryd.isAgg20
  z20 := Tryd.sizeOf20
  v20 := Tryd.zeroValue20
  t31 := Tryd.underlying111
  a31 := Tryd.isAgg111
  z31 := Tryd.sizeOf111
  v31 := Tryd.zeroValue111
  t37 := Tryd.underlying22
  a37 := Tryd.isAgg22
  z37 := Tryd.sizeOf22
  v37 := Tryd.zeroValue22
  t70 := Tryd.underlying145
  a70 := Tryd.isAgg145
  z70 := Tryd.sizeOf145
  v70 := Tryd.zeroValue145
  t72 := Tryd.underlying147
  a72 := Tryd.isAgg147
  z72 := Tryd.sizeOf147
  v72 := Tryd.zeroValue147
  t75 := Tryd.underlying141
  a75 := Tryd.isAgg141
  z75 := Tryd.sizeOf141
  v75 := Tryd.zeroValue141
  t76 := Tryd.underlying142
  a76 := Tryd.isAgg142
  z76 := Tryd.sizeOf142
  v76 := Tryd.zeroValue142
  t127 := Tryd.underlying158
  a127 := Tryd.isAgg158
  z127 := Tryd.sizeOf158
  v127 := Tryd.zeroValue158
  t164 := Tryd.underlying170
  a164 := Tryd.isAgg170
  z164 := Tryd.sizeOf170
  v164 := Tryd.zeroValue170 }
theorem strings_Join.jx : Builder.Extra Tryd.prog strings_Join.jn_ren := {
  sizeBuilder := by kernel_rfl
  liesBuilder := by kernel_rfl
  t5 := Tryd.underlying5
  a5 := Tryd.isAgg5
  z5 := Tryd.sizeOf5
  v5 := Tryd.zeroValue5
  infoByte := by kernel_rfl
  cellsByte := by kernel_rfl
  sizeByte := by kernel_rfl
  neB5 := by decide }
end
theorem strings_Join.calls (A0 : Option Addr) (c0 : Nat) (l0 : List ByteArray) (a1 : ByteArray) (r : ByteArray) (w : World) (hr0 : Kd.C Kd.string w A0 l0.length l0) (hc0 : l0.length ≤ c0) (h : strings_Join.f l0 a1 = some r) :
    Calls Tryd.prog 97 #[.slice A0 l0.length c0, .string a1] w fun e w' => e = .returned (.string r) ∧ Below w.heap.size w w' := by
  unfold strings_Join.f at h
  by_cases h0 : l0.length ≤ 1000000
  · rw [if_pos h0] at h
    by_cases h1 : (Lib.join (l0.map (·.data.toList)) a1.data.toList).length ≤ 1000000
    · rw [if_pos h1] at h
      obtain rfl := Option.some.inj h
      clear h
      cases l0 with
      | nil =>
        refine (Any.strings_Join_none strings_Join.jn strings_Join.jx A0 c0 a1 w).mono ?_
        rintro e w' ⟨rfl, rfl⟩
        refine ⟨?_, Below.refl _ _⟩
        simp [Lib.join]
      | cons x l =>
        have hcell : ∃ b o, A0 = some ⟨b, o, none⟩ ∧ b < w.heap.size ∧ ∀ (j : Nat) y, (x :: l)[j]? = some y → w.cell? ⟨b, o + j, none⟩ = some (.string y) := by
          obtain ⟨ad, rfl, hc⟩ := hr0.2.2 (by simp)
          have hj : ∀ (j : Nat) y, (x :: l)[j]? = some y → w.cell? (ad.add j) = some (.string y) := by
            intro j y hy
            obtain ⟨c, _, hk, hcc⟩ := hc j y hy
            have hk2 : c = [.string y] := hk
            subst hk2
            have h3 := hcc 0 _ rfl
            have h4 : Kd.string.sz = 1 := rfl
            rw [h4, Nat.mul_one, Nat.add_zero] at h3
            exact h3
          clear hc
          obtain ⟨b, o, t⟩ := ad
          have hc0 : w.cell? ⟨b, o, t⟩ = some (.string x) := hj 0 x rfl
          have ht : t = none := by
            cases t with
            | none => rfl
            | some t =>
              simp [World.cell?] at hc0
              split at hc0 <;> cases hc0
          subst ht
          refine ⟨b, o, rfl, ?_, fun j y hy => (by
            have h5 := hj j y hy
            by_cases e : j = 0
            · subst e
              simpa [Addr.add] using h5
            · simpa [Addr.add, e] using h5)⟩
          refine Nat.lt_of_not_le (fun hh => ?_)
          have : w.heap[b]? = none := Array.getElem?_eq_none hh
          simp [World.cell?, this] at hc0
        obtain ⟨b, o, rfl, hb, hcells⟩ := hcell
        exact Any.strings_Join strings_Join.jn strings_Join.jx b o c0 (x :: l) a1 w hcells hb (by omega) hc0 (by omega)
    · rw [if_neg h1] at h; cases h
  · rw [if_neg h0] at h; cases h

end Go.Proofs.YtfehaoadnbcgoaaDoor.PFnExactFirstDesk
