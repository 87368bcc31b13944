-- Of this session's own program wip/gen/gen.py (it drives the kit's print): contracts of the functions that the law reaches.
import Derived.Test.YtdnkipagpagfiaaDoorPSolx0
import Derived.Test.YtdnkipagpagfiaaDoorPSolx3
import Derived.Test.YtdnkipagpagfiaaDoorPSolx4
import Derived.Test.YtdnkipagpagfiaaDoorPSolx5
namespace Go.Proofs.YtdnkipagpagfiaaDoor.PSol
open Go.RowKit Go.Proofs.YtdnkipagpagfiaaDoorW.PrintWords Go.Proofs.YtdnkipagpagfiaaDoorW.PrintLast Go.Proofs.YtdnkipagpagfiaaDoorW.PrintMore Go.Proofs.YtdnkipagpagfiaaDoor.Base
attribute [local go_sem] max2_int min2_int max_two min_two max_three min_three max_four min_four   -- for this text's walks alone
set_option linter.unusedVariables false
set_option linter.unusedSimpArgs false

/-! ### spec_pzFits: function 60 -/
def spec_pzFits.f (k : Nat) (a0_0 : Int) (a0_1 : Int) (a0_2 : Int) (a1_0 : Int) (l1_1 : List (S110)) : Option (Bool) := if a0_0 = 0 then ((spec_paTable.f k a1_0 l1_1).bind fun t247 => (if 0 ≤ a0_1 then (if a0_1 < (t247.length : Int) then (if 0 ≤ a0_2 then (if a0_2 < ((rd_L5 t247 a0_1).length : Int) then (some (rdOf false (rd_L5 t247 a0_1) a0_2)) else (none)) else (none)) else (none)) else (none))) else (if a0_0 = 1 then ((spec_paTable.f k a1_0 l1_1).bind fun t252 => (if 0 ≤ a0_1 then (if a0_1 < (t252.length : Int) then (if 0 ≤ a0_2 then (if a0_2 < ((rd_L5 t252 a0_1).length : Int) then (some (!(rdOf false (rd_L5 t252 a0_1) a0_2))) else (none)) else (none)) else (none)) else (none))) else (if a0_0 = 2 then ((spec_paNumbers.f k a1_0 l1_1).bind fun t257 => (if 0 ≤ a0_1 then (if a0_1 < (t257.length : Int) then (some ((rd t257 a0_1) == a0_2)) else (none)) else (none))) else (if a0_0 = 3 then (some ((l1_1.length : Int) == a0_1)) else (if a0_0 = 4 then ((spec_pzThrees.f k a1_0 l1_1).bind fun t261 => (some (t261 == a0_1))) else ((spec_paParts.f k a1_0 l1_1).bind fun t262 => (some ((t262.length : Int) == a0_1)))))))
theorem spec_pzFits.mono : ∀ a0 a1 a2 a3 a4 k, LeO (spec_pzFits.f k a0 a1 a2 a3 a4) (spec_pzFits.f (k + 1) a0 a1 a2 a3 a4) := by
 intro a0 a1 a2 a3 a4 k
 unfold spec_pzFits.f
 repeat' first
   | (with_reducible exact spec_paNumbers.mono _ _ _)
   | (with_reducible exact spec_paParts.mono _ _ _)
   | (with_reducible exact spec_paTable.mono _ _ _)
   | (with_reducible exact spec_pzThrees.mono _ _ _)
   | (with_reducible exact LeO.refl _)
   | (with_reducible exact LeO.none _)
   | (with_reducible refine LeO.ite ?_ ?_)
   | (with_reducible refine LeO.bind ?_ (fun _ => ?_))
   | exact spec_paNumbers.mono _ _ _
   | exact spec_paParts.mono _ _ _
   | exact spec_paTable.mono _ _ _
   | exact spec_pzThrees.mono _ _ _
   | exact LeO.none _
   | refine LeO.ite ?_ ?_
   | refine LeO.bind ?_ (fun _ => ?_)
def spec_pzFits.T3 : Bool × List (List Nat × List Nat) := (true, [([], []), ([0], [0]), ([], []), ([2], [2]), ([1, 3], [1, 3]), ([4], [4]), ([], []), ([6], [6]), ([5, 7], [5, 7]), ([8], [8]), ([9, 1, 0, 1, 2, 3, 4, 5, 6, 7, 8, 9], [9])])
def spec_pzFits.B3 : List Nat := [0, 1, 0, 4, 15, 31, 0, 64, 255, 511, 1023]
theorem spec_pzFits.tab3 : rtab .any (opsOf Tryd.f60 3) = spec_pzFits.T3 := by kernel_rfl
theorem spec_pzFits.bits3 : waitsOk spec_pzFits.T3.2 spec_pzFits.B3 = true := by kernel_rfl
def spec_pzFits.T5 : Bool × List (List Nat × List Nat) := (true, [([], []), ([0], [0]), ([], []), ([2], [2]), ([1, 3], [1, 3]), ([4], [4]), ([], []), ([6], [6]), ([5, 7], [5, 7]), ([8], [8]), ([9], [9]), ([10, 1, 0, 1, 2, 3, 4, 5, 6, 7, 8, 9, 10], [10])])
def spec_pzFits.B5 : List Nat := [0, 1, 0, 4, 15, 31, 0, 64, 255, 511, 1023, 2047]
theorem spec_pzFits.tab5 : rtab .any (opsOf Tryd.f60 5) = spec_pzFits.T5 := by kernel_rfl
theorem spec_pzFits.bits5 : waitsOk spec_pzFits.T5.2 spec_pzFits.B5 = true := by kernel_rfl
def spec_pzFits.T7 : Bool × List (List Nat × List Nat) := (true, [([], []), ([0], [0]), ([], []), ([2], [2]), ([1, 3], [1, 3]), ([4], [4]), ([], []), ([6], [6]), ([5, 7], [5, 7]), ([8, 1, 0, 1, 2, 3, 4, 5, 6, 7, 8], [8])])
def spec_pzFits.B7 : List Nat := [0, 1, 0, 4, 15, 31, 0, 64, 255, 511]
theorem spec_pzFits.tab7 : rtab .any (opsOf Tryd.f60 7) = spec_pzFits.T7 := by kernel_rfl
theorem spec_pzFits.bits7 : waitsOk spec_pzFits.T7.2 spec_pzFits.B7 = true := by kernel_rfl
set_option maxHeartbeats 8000000 in
set_option maxRecDepth 100000 in
theorem spec_pzFits.calls (k : Nat) (a0_0 : Int) (a0_1 : Int) (a0_2 : Int) (a1_0 : Int) (A1_1 : Option Addr) (c1_1 : Nat) (l1_1 : List (S110)) (r : Bool) (w : World) (hr1_1 : Kd.C k110 w A1_1 l1_1.length l1_1) (hc1_1 : l1_1.length ≤ c1_1) (h : spec_pzFits.f k a0_0 a0_1 a0_2 a1_0 l1_1 = some r) :
  Calls Tryd.prog 60 #[.agg #[.int .i64 a0_0, .int .i64 a0_1, .int .i64 a0_2], .agg #[.int .i64 a1_0, .slice A1_1 l1_1.length c1_1]] w fun e w' => e = .returned (.bool r) ∧ Below w.heap.size w w' := by
 have hu30 := Tryd.underlying30
 have hu34 := Tryd.underlying34
 have HR1_1 := Aside0.mk hr1_1
 have HC1_1 := Aside0.mk hc1_1
 clear hr1_1 hc1_1
 have HB := Aside0.mk (Below.refl w.heap.size w)
 have H : (if a0_0 = 0 then ((spec_paTable.f k a1_0 l1_1).bind fun t247 => (if 0 ≤ a0_1 then (if a0_1 < (t247.length : Int) then (if 0 ≤ a0_2 then (if a0_2 < ((rd_L5 t247 a0_1).length : Int) then (some (rdOf false (rd_L5 t247 a0_1) a0_2)) else (none)) else (none)) else (none)) else (none))) else (if a0_0 = 1 then ((spec_paTable.f k a1_0 l1_1).bind fun t252 => (if 0 ≤ a0_1 then (if a0_1 < (t252.length : Int) then (if 0 ≤ a0_2 then (if a0_2 < ((rd_L5 t252 a0_1).length : Int) then (some (!(rdOf false (rd_L5 t252 a0_1) a0_2))) else (none)) else (none)) else (none)) else (none))) else (if a0_0 = 2 then ((spec_paNumbers.f k a1_0 l1_1).bind fun t257 => (if 0 ≤ a0_1 then (if a0_1 < (t257.length : Int) then (some ((rd t257 a0_1) == a0_2)) else (none)) else (none))) else (if a0_0 = 3 then (some ((l1_1.length : Int) == a0_1)) else (if a0_0 = 4 then ((spec_pzThrees.f k a1_0 l1_1).bind fun t261 => (some (t261 == a0_1))) else ((spec_paParts.f k a1_0 l1_1).bind fun t262 => (some ((t262.length : Int) == a0_1)))))))) = some r := h
 clear h
 by_cases c3 : a0_0 = 0
 ·rw [if_pos c3] at H
  have c3b0 : (a0_0 == 0) = true := beq_iff_eq.mpr c3
  have c3b1 : (a0_0 != 0) = false := bne_eq_false_iff_eq.mpr c3
  clear c3
  replace H := Option.bind_eq_some_iff.mp H
  obtain ⟨t247, A40, H⟩ := H
  replace H : (if 0 ≤ a0_1 then (if a0_1 < (t247.length : Int) then (if 0 ≤ a0_2 then (if a0_2 < ((rd_L5 t247 a0_1).length : Int) then (some (rdOf false (rd_L5 t247 a0_1) a0_2)) else (none)) else (none)) else (none)) else (none)) = some r := H
  have A4 := Aside0.mk A40
  clear A40
  by_cases c5 : 0 ≤ a0_1
  ·rw [if_pos c5] at H
   have c5b0 : decide (0 ≤ a0_1) = true := decide_eq_true c5
   clear c5
   by_cases c6 : a0_1 < (t247.length : Int)
   ·rw [if_pos c6] at H
    have c6b0 : decide (a0_1 < (t247.length : Int)) = true := decide_eq_true c6
    clear c6
    by_cases c7 : 0 ≤ a0_2
    ·rw [if_pos c7] at H
     have c7b0 : decide (0 ≤ a0_2) = true := decide_eq_true c7
     clear c7
     by_cases c8 : a0_2 < ((rd_L5 t247 a0_1).length : Int)
     ·rw [if_pos c8] at H
      have c8b0 : decide (a0_2 < ((rd_L5 t247 a0_1).length : Int)) = true := decide_eq_true c8
      clear c8
      obtain rfl := Option.some.inj H
      go_enter Tryd.func60, Tryd.ntmps60
      try go_wp2_with (first | ((with_reducible refine gate_dst (N := 2) rfl ?_); refine box_event ?hg (N := 2) ?hd (cs := #[.int .i64 a0_0, .int .i64 a0_1, .int .i64 a0_2]) (t := 30) ?hr ?_; (case hd => rfl); (case hg => rfl); (case hr => first | (go_simp; done) | (go_simp; rfl)); intro gb245 hg w9 hbox hb; have n0_ := hS HB hb; have n1_ := Aside0.mk (hbox); have n2_ := gS HB hg; have n3_ := gS HB hg; clear HB; have HB := n0_; have BK245 := n1_; have GW245 := n2_; have GE245 := n3_; clear n0_ n1_ n2_ n3_; clear hb hbox hg) | ((with_reducible refine gate_dst (N := 3) rfl ?_); refine box_event ?hg (N := 3) ?hd (cs := #[.int .i64 a1_0, .slice A1_1 l1_1.length c1_1]) (t := 34) ?hr ?_; (case hd => rfl); (case hg => rfl); (case hr => first | (go_simp; done) | (go_simp; rfl)); intro gb246 hg w10 hbox hb; have n0_ := bS BK245 hb; have n1_ := hS HB hb; have n2_ := Aside0.mk (hbox); have n3_ := gS HB hg; have n4_ := gS HB hg; have n5_ := nL BK245 hg; have n6_ := nG BK245 hg; clear BK245; clear HB; have BK245 := n0_; have HB := n1_; have BK246 := n2_; have GW246 := n3_; have GE246 := n4_; have NB245_246 := n5_; have NB246_245 := n6_; clear n0_ n1_ n2_ n3_ n4_ n5_ n6_; clear hb hbox hg; have hnb11 := NB245_246.out; have hnc11 := NB246_245.out; have hcz12_0 : w10.cell? ⟨gb245, 0, none⟩ = some (.int .i64 a0_0) := (blk_cell BK245.out 0).trans rfl; have hcz12_1 : w10.cell? ⟨gb245, 1, none⟩ = some (.int .i64 a0_1) := (blk_cell BK245.out 1).trans rfl; have hcz12_2 : w10.cell? ⟨gb245, 2, none⟩ = some (.int .i64 a0_2) := (blk_cell BK245.out 2).trans rfl; have hfz12_0 := blk_frozen BK245.out 0; have hfz12_1 := blk_frozen BK245.out 1; have hfz12_2 := blk_frozen BK245.out 2))
      have n0_ := Aside0.mk (blk_drew BK245.out)
      have n1_ := Aside0.mk (blk_drew BK246.out)
      have n2_ := Aside0.mk (below_drew1 HB.out)
      clear BK245
      clear BK246
      clear HB
      have BK245 := n0_
      have BK246 := n1_
      have HB := n2_
      clear n0_ n1_ n2_
      refine start_ (n := 11) (S := fun w' => w'.cell? ⟨gb246, 0, none⟩ = some (.int .i64 a1_0) ∧ w'.cell? ⟨gb246, 1, none⟩ = some (.slice A1_1 l1_1.length c1_1) ∧ w'.cell? ⟨gb245, 0, none⟩ = some (.int .i64 a0_0) ∧ w'.cell? ⟨gb245, 1, none⟩ = some (.int .i64 a0_1) ∧ w'.cell? ⟨gb245, 2, none⟩ = some (.int .i64 a0_2)) (ds := []) (bz 11 0) (by kernel_rfl) rfl rfl ⟨(blk_cell BK246.out 0).trans rfl, (blk_cell BK246.out 1).trans rfl, (blk_cell BK245.out 0).trans rfl, (blk_cell BK245.out 1).trans rfl, (blk_cell BK245.out 2).trans rfl⟩ (fun hHeld => ?_); refine with_tabW spec_pzFits.tab3 spec_pzFits.bits3 (fun HT_ HW_ => ?_)
      generalize w10.drew = w13 at BK245 BK246 HB hHeld ⊢
      refine run_ [(0, 2, 4, some 11), (0, 6, 68, some 15), (1, 0, 69, some 9), (1, 3, 77, some 12), (1, 7, 205, some 16)] ?_
      repeat (first | (apply tag0; refine run_p (v := ?_) (a' := ?_) rfl rfl (any_of HT_.out (by kernel_rfl)) (fun _ _ _ h => h) (by rfl) ?_ ?_ ?_; rotate_left 2; (intro w'; go_simp; with_reducible rfl); (first | (simp only [Act.put, List.setIfInBounds_toArray, List.set_cons_zero, List.set_cons_succ, i64_w, i32_w]; rfl) | rfl)) | (apply tag1; refine run_t (v := ?_) (a' := ?_) rfl rfl (take_ofW HT_.out HW_.out (by kernel_rfl)) (fun _ _ _ h => h) (by rfl) ?_ hHeld ?_ ?_; rotate_left 2; (rintro w' ⟨s0, s1, s2, s3, s4⟩; go_simp; with_reducible rfl); (first | (simp only [Act.put, List.setIfInBounds_toArray, List.set_cons_zero, List.set_cons_succ, i64_w, i32_w]; rfl) | rfl)))
      refine run_nil ?_
      refine one_ (i := 1) (N := some 10) (bz 11 207) rfl rfl (one_of HT_.out (by kernel_rfl)) (by decide) (fun K hK => ?_)
      refine goes_ Tryd.func70 (by kernel_rfl) rfl #[.agg #[.int .i64 a1_0, .slice A1_1 l1_1.length c1_1]] (by rfl) rfl rfl mapT ?_
      with_reducible refine (spec_paTable.calls k a1_0 _ _ l1_1 t247 _ ?side1 ?side2 A4.out).mono ?_
      (case side1 => repeat (first | exact (Kd.C_below HR1_1.out HB.out) | (with_reducible refine Kd.C_alloc ?_ _) | (with_reducible refine Kd.C_drewN ?_ _) | (with_reducible refine Kd.C_drew ?_)))
      (case side2 => exact HC1_1.out)
      rintro e w14 ⟨v248, rfl, ho0, hb⟩
      refine ⟨_, rfl, ?_⟩
      have n0_ := Aside0.mk (Kd.S_lower ho0 (below_size hB))
      have n1_ := bS BK245 hb
      have n2_ := bS BK246 hb
      have n3_ := hS HB hb
      clear BK245
      clear BK246
      clear HB
      have HO249 := n0_
      have BK245 := n1_
      have BK246 := n2_
      have HB := n3_
      clear n0_ n1_ n2_ n3_
      (try clear hb)
      (try clear hb2)
      (try clear hk)
      (try clear hi)
      (try clear ho0)
      obtain ⟨Ao15, co15, eo15⟩ := Kd.S_slice HO249.out
      (first | subst eo15 | (injection eo15 with f1_ f2_ f3_; have f4_ := f1_.symm; have f5_ := f3_.symm; clear f1_ f2_ f3_; subst f4_; subst f5_))
      have p250 : 0 ≤ (a0_1 : Int) := of_decide_eq_true (by first | (with_reducible assumption) | assumption)
      have q250 : a0_1 < (t247.length : Int) := of_decide_eq_true (by first | (with_reducible assumption) | assumption)
      obtain ⟨ad250, A250_0, c250_0, e250, hx250_0, hl250_0, hi250_0⟩ := at_L5 (Kd.S_reads' HO249.out).2.2 a0_1 p250 q250
      cases e250
      obtain ⟨ce250, hce250, hMe250, hcc250⟩ := Kd.S_get HO249.out [] a0_1 p250 (by first | exact q250 | exact of_decide_eq_true (by first | (with_reducible assumption) | assumption) | (have e_ := (Kd.S_reads' HO249.out).1; omega))
      obtain ⟨ve250_0, rfl, ge250_0⟩ := hMe250
      have hv250_0 := hcc250 0 _ rfl
      rw [Nat.add_zero, show ((Kd.slice 4 Kd.bool)).sz = 1 from rfl, Nat.mul_one] at hv250_0
      replace hv250_0 := Option.some.inj (hv250_0.symm.trans hx250_0)
      rw [hv250_0] at ge250_0
      have HL250_0 := Aside0.mk (show Kd.R Kd.bool 4 _ _ _ _ (rd_L5 t247 a0_1) from ge250_0)
      clear hv250_0 ge250_0
      clear hcc250 hce250
      have HR250_0 := Aside0.mk hi250_0
      have HC250_0 := Aside0.mk hl250_0
      clear hi250_0 hl250_0
      replace p250 := eq_true p250
      replace q250 := eq_true q250
      have p251 : 0 ≤ (a0_2 : Int) := of_decide_eq_true (by first | (with_reducible assumption) | assumption)
      have q251 : a0_2 < ((rd_L5 t247 a0_1).length : Int) := of_decide_eq_true (by first | (with_reducible assumption) | assumption)
      obtain ⟨ad251, e251, hx251_0⟩ := Kd.at_bool (by repeat (first | (with_reducible exact HR250_0.out) | (with_reducible refine Kd.C_alloc ?_ _) | (with_reducible refine Kd.C_drewN ?_ _) | (with_reducible refine Kd.C_drew ?_) | exact HR250_0.out)) a0_2 p251 q251
      cases e251
      replace p251 := eq_true p251
      replace q251 := eq_true q251
      refine hK.out _ _ ⟨(blk_cell BK246.out 0).trans rfl, (blk_cell BK246.out 1).trans rfl, (blk_cell BK245.out 0).trans rfl, (blk_cell BK245.out 1).trans rfl, (blk_cell BK245.out 2).trans rfl⟩ (fun hHeld => ?_)
      have hHeld2 : (fun w' : World => w'.cell? ⟨gb246, 0, none⟩ = some (.int .i64 a1_0) ∧ w'.cell? ⟨gb246, 1, none⟩ = some (.slice A1_1 l1_1.length c1_1) ∧ w'.cell? ⟨gb245, 0, none⟩ = some (.int .i64 a0_0) ∧ w'.cell? ⟨gb245, 1, none⟩ = some (.int .i64 a0_1) ∧ w'.cell? ⟨gb245, 2, none⟩ = some (.int .i64 a0_2) ∧ w'.cell? (ad250.add (a0_1).toNat) = some (.slice (some ad251) (rd_L5 t247 a0_1).length c250_0) ∧ w'.cell? (ad251.add (a0_2).toNat) = some (.bool (rdOf false (rd_L5 t247 a0_1) a0_2))) _ := ⟨(blk_cell BK246.out 0).trans rfl, (blk_cell BK246.out 1).trans rfl, (blk_cell BK245.out 0).trans rfl, (blk_cell BK245.out 1).trans rfl, (blk_cell BK245.out 2).trans rfl, hx250_0, hx251_0⟩
      refine more_ (fun w' : World => w'.cell? ⟨gb246, 0, none⟩ = some (.int .i64 a1_0) ∧ w'.cell? ⟨gb246, 1, none⟩ = some (.slice A1_1 l1_1.length c1_1) ∧ w'.cell? ⟨gb245, 0, none⟩ = some (.int .i64 a0_0) ∧ w'.cell? ⟨gb245, 1, none⟩ = some (.int .i64 a0_1) ∧ w'.cell? ⟨gb245, 2, none⟩ = some (.int .i64 a0_2) ∧ w'.cell? (ad250.add (a0_1).toNat) = some (.slice (some ad251) (rd_L5 t247 a0_1).length c250_0) ∧ w'.cell? (ad251.add (a0_2).toNat) = some (.bool (rdOf false (rd_L5 t247 a0_1) a0_2))) (fun _ ⟨s0, s1, s2, s3, s4, s5, s6⟩ => ⟨s0, s1, s2, s3, s4⟩) _ _ _ _ hHeld2 ?_
      clear hHeld
      have hHeld := hHeld2
      clear hHeld2
      clear hK K
      refine norm_ (a' := ?_) ?_ ?_
      rotate_left
      ·show Act.put _ (some 10) _ = _
       simp only [Act.put, List.setIfInBounds_toArray, List.set_cons_zero, List.set_cons_succ, i64_w, i32_w]
       rfl
      refine run_ [(0, 4, 223, some 13), (1, 5, 255, some 14), (0, 8, 511, some 17), (1, 9, 1023, some 18), (0, 10, 2047, some 4)] ?_
      repeat (first | (apply tag0; refine run_p (v := ?_) (a' := ?_) rfl rfl (any_of HT_.out (by kernel_rfl)) (fun _ _ _ h => h) (by rfl) ?_ ?_ ?_; rotate_left 2; (intro w'; go_simp; with_reducible rfl); (first | (simp only [Act.put, List.setIfInBounds_toArray, List.set_cons_zero, List.set_cons_succ, i64_w, i32_w]; rfl) | rfl)) | (apply tag1; refine run_t (v := ?_) (a' := ?_) rfl rfl (take_ofW HT_.out HW_.out (by kernel_rfl)) (fun _ _ _ h => h) (by rfl) ?_ hHeld ?_ ?_; rotate_left 2; (rintro w' ⟨s0, s1, s2, s3, s4, s5, s6⟩; go_simp; with_reducible rfl); (first | (simp only [Act.put, List.setIfInBounds_toArray, List.set_cons_zero, List.set_cons_succ, i64_w, i32_w]; rfl) | rfl)))
      refine run_nil ?_
      refine done_ (done_of HT_.out (by kernel_rfl)) ?_
      try go_wp2
      go_ret
      exact ⟨by first | rfl | (simp [errW_none, errW_some] <;> rfl) | (simp [*, errW_none, errW_some] <;> rfl), hB⟩
     ·rw [if_neg c8] at H
      exact absurd H (by simp)
    ·rw [if_neg c7] at H
     exact absurd H (by simp)
   ·rw [if_neg c6] at H
    exact absurd H (by simp)
  ·rw [if_neg c5] at H
   exact absurd H (by simp)
 ·rw [if_neg c3] at H
  have c3b0 : (a0_0 == 0) = false := beq_eq_false_iff_ne.mpr c3
  have c3b1 : (a0_0 != 0) = true := bne_iff_ne.mpr c3
  by_cases c16 : a0_0 = 1
  ·rw [if_pos c16] at H
   have c16b0 : (a0_0 == 1) = true := beq_iff_eq.mpr c16
   have c16b1 : (a0_0 != 1) = false := bne_eq_false_iff_eq.mpr c16
   clear c16
   replace H := Option.bind_eq_some_iff.mp H
   obtain ⟨t252, A170, H⟩ := H
   replace H : (if 0 ≤ a0_1 then (if a0_1 < (t252.length : Int) then (if 0 ≤ a0_2 then (if a0_2 < ((rd_L5 t252 a0_1).length : Int) then (some (!(rdOf false (rd_L5 t252 a0_1) a0_2))) else (none)) else (none)) else (none)) else (none)) = some r := H
   have A17 := Aside0.mk A170
   clear A170
   by_cases c18 : 0 ≤ a0_1
   ·rw [if_pos c18] at H
    have c18b0 : decide (0 ≤ a0_1) = true := decide_eq_true c18
    clear c18
    by_cases c19 : a0_1 < (t252.length : Int)
    ·rw [if_pos c19] at H
     have c19b0 : decide (a0_1 < (t252.length : Int)) = true := decide_eq_true c19
     clear c19
     by_cases c20 : 0 ≤ a0_2
     ·rw [if_pos c20] at H
      have c20b0 : decide (0 ≤ a0_2) = true := decide_eq_true c20
      clear c20
      by_cases c21 : a0_2 < ((rd_L5 t252 a0_1).length : Int)
      ·rw [if_pos c21] at H
       have c21b0 : decide (a0_2 < ((rd_L5 t252 a0_1).length : Int)) = true := decide_eq_true c21
       clear c21
       obtain rfl := Option.some.inj H
       go_enter Tryd.func60, Tryd.ntmps60
       try go_wp2_with (first | ((with_reducible refine gate_dst (N := 2) rfl ?_); refine box_event ?hg (N := 2) ?hd (cs := #[.int .i64 a0_0, .int .i64 a0_1, .int .i64 a0_2]) (t := 30) ?hr ?_; (case hd => rfl); (case hg => rfl); (case hr => first | (go_simp; done) | (go_simp; rfl)); intro gb245 hg w22 hbox hb; have n0_ := hS HB hb; have n1_ := Aside0.mk (hbox); have n2_ := gS HB hg; have n3_ := gS HB hg; clear HB; have HB := n0_; have BK245 := n1_; have GW245 := n2_; have GE245 := n3_; clear n0_ n1_ n2_ n3_; clear hb hbox hg) | ((with_reducible refine gate_dst (N := 3) rfl ?_); refine box_event ?hg (N := 3) ?hd (cs := #[.int .i64 a1_0, .slice A1_1 l1_1.length c1_1]) (t := 34) ?hr ?_; (case hd => rfl); (case hg => rfl); (case hr => first | (go_simp; done) | (go_simp; rfl)); intro gb246 hg w23 hbox hb; have n0_ := bS BK245 hb; have n1_ := hS HB hb; have n2_ := Aside0.mk (hbox); have n3_ := gS HB hg; have n4_ := gS HB hg; have n5_ := nL BK245 hg; have n6_ := nG BK245 hg; clear BK245; clear HB; have BK245 := n0_; have HB := n1_; have BK246 := n2_; have GW246 := n3_; have GE246 := n4_; have NB245_246 := n5_; have NB246_245 := n6_; clear n0_ n1_ n2_ n3_ n4_ n5_ n6_; clear hb hbox hg; have hnb24 := NB245_246.out; have hnc24 := NB246_245.out; have hcz25_0 : w23.cell? ⟨gb245, 0, none⟩ = some (.int .i64 a0_0) := (blk_cell BK245.out 0).trans rfl; have hcz25_1 : w23.cell? ⟨gb245, 1, none⟩ = some (.int .i64 a0_1) := (blk_cell BK245.out 1).trans rfl; have hcz25_2 : w23.cell? ⟨gb245, 2, none⟩ = some (.int .i64 a0_2) := (blk_cell BK245.out 2).trans rfl; have hfz25_0 := blk_frozen BK245.out 0; have hfz25_1 := blk_frozen BK245.out 1; have hfz25_2 := blk_frozen BK245.out 2))
       have n0_ := Aside0.mk (blk_drew BK245.out)
       have n1_ := Aside0.mk (blk_drew BK246.out)
       have n2_ := Aside0.mk (below_drew1 HB.out)
       clear BK245
       clear BK246
       clear HB
       have BK245 := n0_
       have BK246 := n1_
       have HB := n2_
       clear n0_ n1_ n2_
       refine start_ (n := 12) (S := fun w' => w'.cell? ⟨gb246, 0, none⟩ = some (.int .i64 a1_0) ∧ w'.cell? ⟨gb246, 1, none⟩ = some (.slice A1_1 l1_1.length c1_1) ∧ w'.cell? ⟨gb245, 0, none⟩ = some (.int .i64 a0_0) ∧ w'.cell? ⟨gb245, 1, none⟩ = some (.int .i64 a0_1) ∧ w'.cell? ⟨gb245, 2, none⟩ = some (.int .i64 a0_2)) (ds := []) (bz 12 0) (by kernel_rfl) rfl rfl ⟨(blk_cell BK246.out 0).trans rfl, (blk_cell BK246.out 1).trans rfl, (blk_cell BK245.out 0).trans rfl, (blk_cell BK245.out 1).trans rfl, (blk_cell BK245.out 2).trans rfl⟩ (fun hHeld => ?_); refine with_tabW spec_pzFits.tab5 spec_pzFits.bits5 (fun HT_ HW_ => ?_)
       generalize w23.drew = w26 at BK245 BK246 HB hHeld ⊢
       refine run_ [(0, 2, 4, some 23), (0, 6, 68, some 27), (1, 0, 69, some 21), (1, 3, 77, some 24), (1, 7, 205, some 28)] ?_
       repeat (first | (apply tag0; refine run_p (v := ?_) (a' := ?_) rfl rfl (any_of HT_.out (by kernel_rfl)) (fun _ _ _ h => h) (by rfl) ?_ ?_ ?_; rotate_left 2; (intro w'; go_simp; with_reducible rfl); (first | (simp only [Act.put, List.setIfInBounds_toArray, List.set_cons_zero, List.set_cons_succ, i64_w, i32_w]; rfl) | rfl)) | (apply tag1; refine run_t (v := ?_) (a' := ?_) rfl rfl (take_ofW HT_.out HW_.out (by kernel_rfl)) (fun _ _ _ h => h) (by rfl) ?_ hHeld ?_ ?_; rotate_left 2; (rintro w' ⟨s0, s1, s2, s3, s4⟩; go_simp; with_reducible rfl); (first | (simp only [Act.put, List.setIfInBounds_toArray, List.set_cons_zero, List.set_cons_succ, i64_w, i32_w]; rfl) | rfl)))
       refine run_nil ?_
       refine one_ (i := 1) (N := some 22) (bz 12 207) rfl rfl (one_of HT_.out (by kernel_rfl)) (by decide) (fun K hK => ?_)
       refine goes_ Tryd.func70 (by kernel_rfl) rfl #[.agg #[.int .i64 a1_0, .slice A1_1 l1_1.length c1_1]] (by rfl) rfl rfl mapT ?_
       with_reducible refine (spec_paTable.calls k a1_0 _ _ l1_1 t252 _ ?side1 ?side2 A17.out).mono ?_
       (case side1 => repeat (first | exact (Kd.C_below HR1_1.out HB.out) | (with_reducible refine Kd.C_alloc ?_ _) | (with_reducible refine Kd.C_drewN ?_ _) | (with_reducible refine Kd.C_drew ?_)))
       (case side2 => exact HC1_1.out)
       rintro e w27 ⟨v253, rfl, ho0, hb⟩
       refine ⟨_, rfl, ?_⟩
       have n0_ := Aside0.mk (Kd.S_lower ho0 (below_size hB))
       have n1_ := bS BK245 hb
       have n2_ := bS BK246 hb
       have n3_ := hS HB hb
       clear BK245
       clear BK246
       clear HB
       have HO254 := n0_
       have BK245 := n1_
       have BK246 := n2_
       have HB := n3_
       clear n0_ n1_ n2_ n3_
       (try clear hb)
       (try clear hb2)
       (try clear hk)
       (try clear hi)
       (try clear ho0)
       obtain ⟨Ao28, co28, eo28⟩ := Kd.S_slice HO254.out
       (first | subst eo28 | (injection eo28 with f1_ f2_ f3_; have f4_ := f1_.symm; have f5_ := f3_.symm; clear f1_ f2_ f3_; subst f4_; subst f5_))
       have p255 : 0 ≤ (a0_1 : Int) := of_decide_eq_true (by first | (with_reducible assumption) | assumption)
       have q255 : a0_1 < (t252.length : Int) := of_decide_eq_true (by first | (with_reducible assumption) | assumption)
       obtain ⟨ad255, A255_0, c255_0, e255, hx255_0, hl255_0, hi255_0⟩ := at_L5 (Kd.S_reads' HO254.out).2.2 a0_1 p255 q255
       cases e255
       obtain ⟨ce255, hce255, hMe255, hcc255⟩ := Kd.S_get HO254.out [] a0_1 p255 (by first | exact q255 | exact of_decide_eq_true (by first | (with_reducible assumption) | assumption) | (have e_ := (Kd.S_reads' HO254.out).1; omega))
       obtain ⟨ve255_0, rfl, ge255_0⟩ := hMe255
       have hv255_0 := hcc255 0 _ rfl
       rw [Nat.add_zero, show ((Kd.slice 4 Kd.bool)).sz = 1 from rfl, Nat.mul_one] at hv255_0
       replace hv255_0 := Option.some.inj (hv255_0.symm.trans hx255_0)
       rw [hv255_0] at ge255_0
       have HL255_0 := Aside0.mk (show Kd.R Kd.bool 4 _ _ _ _ (rd_L5 t252 a0_1) from ge255_0)
       clear hv255_0 ge255_0
       clear hcc255 hce255
       have HR255_0 := Aside0.mk hi255_0
       have HC255_0 := Aside0.mk hl255_0
       clear hi255_0 hl255_0
       replace p255 := eq_true p255
       replace q255 := eq_true q255
       have p256 : 0 ≤ (a0_2 : Int) := of_decide_eq_true (by first | (with_reducible assumption) | assumption)
       have q256 : a0_2 < ((rd_L5 t252 a0_1).length : Int) := of_decide_eq_true (by first | (with_reducible assumption) | assumption)
       obtain ⟨ad256, e256, hx256_0⟩ := Kd.at_bool (by repeat (first | (with_reducible exact HR255_0.out) | (with_reducible refine Kd.C_alloc ?_ _) | (with_reducible refine Kd.C_drewN ?_ _) | (with_reducible refine Kd.C_drew ?_) | exact HR255_0.out)) a0_2 p256 q256
       cases e256
       replace p256 := eq_true p256
       replace q256 := eq_true q256
       refine hK.out _ _ ⟨(blk_cell BK246.out 0).trans rfl, (blk_cell BK246.out 1).trans rfl, (blk_cell BK245.out 0).trans rfl, (blk_cell BK245.out 1).trans rfl, (blk_cell BK245.out 2).trans rfl⟩ (fun hHeld => ?_)
       have hHeld2 : (fun w' : World => w'.cell? ⟨gb246, 0, none⟩ = some (.int .i64 a1_0) ∧ w'.cell? ⟨gb246, 1, none⟩ = some (.slice A1_1 l1_1.length c1_1) ∧ w'.cell? ⟨gb245, 0, none⟩ = some (.int .i64 a0_0) ∧ w'.cell? ⟨gb245, 1, none⟩ = some (.int .i64 a0_1) ∧ w'.cell? ⟨gb245, 2, none⟩ = some (.int .i64 a0_2) ∧ w'.cell? (ad255.add (a0_1).toNat) = some (.slice (some ad256) (rd_L5 t252 a0_1).length c255_0) ∧ w'.cell? (ad256.add (a0_2).toNat) = some (.bool (rdOf false (rd_L5 t252 a0_1) a0_2))) _ := ⟨(blk_cell BK246.out 0).trans rfl, (blk_cell BK246.out 1).trans rfl, (blk_cell BK245.out 0).trans rfl, (blk_cell BK245.out 1).trans rfl, (blk_cell BK245.out 2).trans rfl, hx255_0, hx256_0⟩
       refine more_ (fun w' : World => w'.cell? ⟨gb246, 0, none⟩ = some (.int .i64 a1_0) ∧ w'.cell? ⟨gb246, 1, none⟩ = some (.slice A1_1 l1_1.length c1_1) ∧ w'.cell? ⟨gb245, 0, none⟩ = some (.int .i64 a0_0) ∧ w'.cell? ⟨gb245, 1, none⟩ = some (.int .i64 a0_1) ∧ w'.cell? ⟨gb245, 2, none⟩ = some (.int .i64 a0_2) ∧ w'.cell? (ad255.add (a0_1).toNat) = some (.slice (some ad256) (rd_L5 t252 a0_1).length c255_0) ∧ w'.cell? (ad256.add (a0_2).toNat) = some (.bool (rdOf false (rd_L5 t252 a0_1) a0_2))) (fun _ ⟨s0, s1, s2, s3, s4, s5, s6⟩ => ⟨s0, s1, s2, s3, s4⟩) _ _ _ _ hHeld2 ?_
       clear hHeld
       have hHeld := hHeld2
       clear hHeld2
       clear hK K
       refine norm_ (a' := ?_) ?_ ?_
       rotate_left
       ·show Act.put _ (some 22) _ = _
        simp only [Act.put, List.setIfInBounds_toArray, List.set_cons_zero, List.set_cons_succ, i64_w, i32_w]
        rfl
       refine run_ [(0, 4, 223, some 25), (1, 5, 255, some 26), (0, 8, 511, some 29), (1, 9, 1023, some 30), (0, 10, 2047, some 31), (0, 11, 4095, some 4)] ?_
       repeat (first | (apply tag0; refine run_p (v := ?_) (a' := ?_) rfl rfl (any_of HT_.out (by kernel_rfl)) (fun _ _ _ h => h) (by rfl) ?_ ?_ ?_; rotate_left 2; (intro w'; go_simp; with_reducible rfl); (first | (simp only [Act.put, List.setIfInBounds_toArray, List.set_cons_zero, List.set_cons_succ, i64_w, i32_w]; rfl) | rfl)) | (apply tag1; refine run_t (v := ?_) (a' := ?_) rfl rfl (take_ofW HT_.out HW_.out (by kernel_rfl)) (fun _ _ _ h => h) (by rfl) ?_ hHeld ?_ ?_; rotate_left 2; (rintro w' ⟨s0, s1, s2, s3, s4, s5, s6⟩; go_simp; with_reducible rfl); (first | (simp only [Act.put, List.setIfInBounds_toArray, List.set_cons_zero, List.set_cons_succ, i64_w, i32_w]; rfl) | rfl)))
       refine run_nil ?_
       refine done_ (done_of HT_.out (by kernel_rfl)) ?_
       try go_wp2
       go_ret
       exact ⟨by first | rfl | (simp [errW_none, errW_some] <;> rfl) | (simp [*, errW_none, errW_some] <;> rfl), hB⟩
      ·rw [if_neg c21] at H
       exact absurd H (by simp)
     ·rw [if_neg c20] at H
      exact absurd H (by simp)
    ·rw [if_neg c19] at H
     exact absurd H (by simp)
   ·rw [if_neg c18] at H
    exact absurd H (by simp)
  ·rw [if_neg c16] at H
   have c16b0 : (a0_0 == 1) = false := beq_eq_false_iff_ne.mpr c16
   have c16b1 : (a0_0 != 1) = true := bne_iff_ne.mpr c16
   by_cases c29 : a0_0 = 2
   ·rw [if_pos c29] at H
    have c29b0 : (a0_0 == 2) = true := beq_iff_eq.mpr c29
    have c29b1 : (a0_0 != 2) = false := bne_eq_false_iff_eq.mpr c29
    clear c29
    replace H := Option.bind_eq_some_iff.mp H
    obtain ⟨t257, A300, H⟩ := H
    replace H : (if 0 ≤ a0_1 then (if a0_1 < (t257.length : Int) then (some ((rd t257 a0_1) == a0_2)) else (none)) else (none)) = some r := H
    have A30 := Aside0.mk A300
    clear A300
    by_cases c31 : 0 ≤ a0_1
    ·rw [if_pos c31] at H
     have c31b0 : decide (0 ≤ a0_1) = true := decide_eq_true c31
     clear c31
     by_cases c32 : a0_1 < (t257.length : Int)
     ·rw [if_pos c32] at H
      have c32b0 : decide (a0_1 < (t257.length : Int)) = true := decide_eq_true c32
      clear c32
      obtain rfl := Option.some.inj H
      go_enter Tryd.func60, Tryd.ntmps60
      try go_wp2_with (first | ((with_reducible refine gate_dst (N := 2) rfl ?_); refine box_event ?hg (N := 2) ?hd (cs := #[.int .i64 a0_0, .int .i64 a0_1, .int .i64 a0_2]) (t := 30) ?hr ?_; (case hd => rfl); (case hg => rfl); (case hr => first | (go_simp; done) | (go_simp; rfl)); intro gb245 hg w33 hbox hb; have n0_ := hS HB hb; have n1_ := Aside0.mk (hbox); have n2_ := gS HB hg; have n3_ := gS HB hg; clear HB; have HB := n0_; have BK245 := n1_; have GW245 := n2_; have GE245 := n3_; clear n0_ n1_ n2_ n3_; clear hb hbox hg) | ((with_reducible refine gate_dst (N := 3) rfl ?_); refine box_event ?hg (N := 3) ?hd (cs := #[.int .i64 a1_0, .slice A1_1 l1_1.length c1_1]) (t := 34) ?hr ?_; (case hd => rfl); (case hg => rfl); (case hr => first | (go_simp; done) | (go_simp; rfl)); intro gb246 hg w34 hbox hb; have n0_ := bS BK245 hb; have n1_ := hS HB hb; have n2_ := Aside0.mk (hbox); have n3_ := gS HB hg; have n4_ := gS HB hg; have n5_ := nL BK245 hg; have n6_ := nG BK245 hg; clear BK245; clear HB; have BK245 := n0_; have HB := n1_; have BK246 := n2_; have GW246 := n3_; have GE246 := n4_; have NB245_246 := n5_; have NB246_245 := n6_; clear n0_ n1_ n2_ n3_ n4_ n5_ n6_; clear hb hbox hg; have hnb35 := NB245_246.out; have hnc35 := NB246_245.out; have hcz36_0 : w34.cell? ⟨gb245, 0, none⟩ = some (.int .i64 a0_0) := (blk_cell BK245.out 0).trans rfl; have hcz36_1 : w34.cell? ⟨gb245, 1, none⟩ = some (.int .i64 a0_1) := (blk_cell BK245.out 1).trans rfl; have hcz36_2 : w34.cell? ⟨gb245, 2, none⟩ = some (.int .i64 a0_2) := (blk_cell BK245.out 2).trans rfl; have hfz36_0 := blk_frozen BK245.out 0; have hfz36_1 := blk_frozen BK245.out 1; have hfz36_2 := blk_frozen BK245.out 2))
      have n0_ := Aside0.mk (blk_drew BK245.out)
      have n1_ := Aside0.mk (blk_drew BK246.out)
      have n2_ := Aside0.mk (below_drew1 HB.out)
      clear BK245
      clear BK246
      clear HB
      have BK245 := n0_
      have BK246 := n1_
      have HB := n2_
      clear n0_ n1_ n2_
      refine start_ (n := 10) (S := fun w' => w'.cell? ⟨gb246, 0, none⟩ = some (.int .i64 a1_0) ∧ w'.cell? ⟨gb246, 1, none⟩ = some (.slice A1_1 l1_1.length c1_1) ∧ w'.cell? ⟨gb245, 0, none⟩ = some (.int .i64 a0_0) ∧ w'.cell? ⟨gb245, 1, none⟩ = some (.int .i64 a0_1) ∧ w'.cell? ⟨gb245, 2, none⟩ = some (.int .i64 a0_2)) (ds := []) (bz 10 0) (by kernel_rfl) rfl rfl ⟨(blk_cell BK246.out 0).trans rfl, (blk_cell BK246.out 1).trans rfl, (blk_cell BK245.out 0).trans rfl, (blk_cell BK245.out 1).trans rfl, (blk_cell BK245.out 2).trans rfl⟩ (fun hHeld => ?_); refine with_tabW spec_pzFits.tab7 spec_pzFits.bits7 (fun HT_ HW_ => ?_)
      generalize w34.drew = w37 at BK245 BK246 HB hHeld ⊢
      refine run_ [(0, 2, 4, some 36), (0, 6, 68, some 40), (1, 0, 69, some 34), (1, 3, 77, some 37), (1, 7, 205, some 41)] ?_
      repeat (first | (apply tag0; refine run_p (v := ?_) (a' := ?_) rfl rfl (any_of HT_.out (by kernel_rfl)) (fun _ _ _ h => h) (by rfl) ?_ ?_ ?_; rotate_left 2; (intro w'; go_simp; with_reducible rfl); (first | (simp only [Act.put, List.setIfInBounds_toArray, List.set_cons_zero, List.set_cons_succ, i64_w, i32_w]; rfl) | rfl)) | (apply tag1; refine run_t (v := ?_) (a' := ?_) rfl rfl (take_ofW HT_.out HW_.out (by kernel_rfl)) (fun _ _ _ h => h) (by rfl) ?_ hHeld ?_ ?_; rotate_left 2; (rintro w' ⟨s0, s1, s2, s3, s4⟩; go_simp; with_reducible rfl); (first | (simp only [Act.put, List.setIfInBounds_toArray, List.set_cons_zero, List.set_cons_succ, i64_w, i32_w]; rfl) | rfl)))
      refine run_nil ?_
      refine one_ (i := 1) (N := some 35) (bz 10 207) rfl rfl (one_of HT_.out (by kernel_rfl)) (by decide) (fun K hK => ?_)
      refine goes_ Tryd.func71 (by kernel_rfl) rfl #[.agg #[.int .i64 a1_0, .slice A1_1 l1_1.length c1_1]] (by rfl) rfl rfl mapT ?_
      with_reducible refine (spec_paNumbers.calls k a1_0 _ _ l1_1 t257 _ ?side1 ?side2 A30.out).mono ?_
      (case side1 => repeat (first | exact (Kd.C_below HR1_1.out HB.out) | (with_reducible refine Kd.C_alloc ?_ _) | (with_reducible refine Kd.C_drewN ?_ _) | (with_reducible refine Kd.C_drew ?_)))
      (case side2 => exact HC1_1.out)
      rintro e w38 ⟨v258, rfl, ho0, hb⟩
      refine ⟨_, rfl, ?_⟩
      have n0_ := Aside0.mk (Kd.R_lower ho0 (below_size hB))
      have n1_ := bS BK245 hb
      have n2_ := bS BK246 hb
      have n3_ := hS HB hb
      clear BK245
      clear BK246
      clear HB
      have HO259 := n0_
      have BK245 := n1_
      have BK246 := n2_
      have HB := n3_
      clear n0_ n1_ n2_ n3_
      (try clear hb)
      (try clear hb2)
      (try clear hk)
      (try clear hi)
      (try clear ho0)
      obtain ⟨Ao39, co39, eo39⟩ := Kd.R_slice HO259.out
      (first | subst eo39 | (injection eo39 with f1_ f2_ f3_; have f4_ := f1_.symm; have f5_ := f3_.symm; clear f1_ f2_ f3_; subst f4_; subst f5_))
      have p260 : 0 ≤ (a0_1 : Int) := of_decide_eq_true (by first | (with_reducible assumption) | assumption)
      have q260 : a0_1 < (t257.length : Int) := of_decide_eq_true (by first | (with_reducible assumption) | assumption)
      obtain ⟨ad260, e260, hx260_0⟩ := Kd.at_int (Kd.R_reads' HO259.out).2.2 a0_1 p260 q260
      cases e260
      replace p260 := eq_true p260
      replace q260 := eq_true q260
      refine hK.out _ _ ⟨(blk_cell BK246.out 0).trans rfl, (blk_cell BK246.out 1).trans rfl, (blk_cell BK245.out 0).trans rfl, (blk_cell BK245.out 1).trans rfl, (blk_cell BK245.out 2).trans rfl⟩ (fun hHeld => ?_)
      have hHeld2 : (fun w' : World => w'.cell? ⟨gb246, 0, none⟩ = some (.int .i64 a1_0) ∧ w'.cell? ⟨gb246, 1, none⟩ = some (.slice A1_1 l1_1.length c1_1) ∧ w'.cell? ⟨gb245, 0, none⟩ = some (.int .i64 a0_0) ∧ w'.cell? ⟨gb245, 1, none⟩ = some (.int .i64 a0_1) ∧ w'.cell? ⟨gb245, 2, none⟩ = some (.int .i64 a0_2) ∧ w'.cell? (ad260.add (a0_1).toNat) = some (.int .i64 (rd t257 a0_1))) _ := ⟨(blk_cell BK246.out 0).trans rfl, (blk_cell BK246.out 1).trans rfl, (blk_cell BK245.out 0).trans rfl, (blk_cell BK245.out 1).trans rfl, (blk_cell BK245.out 2).trans rfl, hx260_0⟩
      refine more_ (fun w' : World => w'.cell? ⟨gb246, 0, none⟩ = some (.int .i64 a1_0) ∧ w'.cell? ⟨gb246, 1, none⟩ = some (.slice A1_1 l1_1.length c1_1) ∧ w'.cell? ⟨gb245, 0, none⟩ = some (.int .i64 a0_0) ∧ w'.cell? ⟨gb245, 1, none⟩ = some (.int .i64 a0_1) ∧ w'.cell? ⟨gb245, 2, none⟩ = some (.int .i64 a0_2) ∧ w'.cell? (ad260.add (a0_1).toNat) = some (.int .i64 (rd t257 a0_1))) (fun _ ⟨s0, s1, s2, s3, s4, s5⟩ => ⟨s0, s1, s2, s3, s4⟩) _ _ _ _ hHeld2 ?_
      clear hHeld
      have hHeld := hHeld2
      clear hHeld2
      clear hK K
      refine norm_ (a' := ?_) ?_ ?_
      rotate_left
      ·show Act.put _ (some 35) _ = _
       simp only [Act.put, List.setIfInBounds_toArray, List.set_cons_zero, List.set_cons_succ, i64_w, i32_w]
       rfl
      refine run_ [(0, 4, 223, some 38), (1, 5, 255, some 39), (0, 8, 511, some 42), (0, 9, 1023, some 4)] ?_
      repeat (first | (apply tag0; refine run_p (v := ?_) (a' := ?_) rfl rfl (any_of HT_.out (by kernel_rfl)) (fun _ _ _ h => h) (by rfl) ?_ ?_ ?_; rotate_left 2; (intro w'; go_simp; with_reducible rfl); (first | (simp only [Act.put, List.setIfInBounds_toArray, List.set_cons_zero, List.set_cons_succ, i64_w, i32_w]; rfl) | rfl)) | (apply tag1; refine run_t (v := ?_) (a' := ?_) rfl rfl (take_ofW HT_.out HW_.out (by kernel_rfl)) (fun _ _ _ h => h) (by rfl) ?_ hHeld ?_ ?_; rotate_left 2; (rintro w' ⟨s0, s1, s2, s3, s4, s5⟩; go_simp; with_reducible rfl); (first | (simp only [Act.put, List.setIfInBounds_toArray, List.set_cons_zero, List.set_cons_succ, i64_w, i32_w]; rfl) | rfl)))
      refine run_nil ?_
      refine done_ (done_of HT_.out (by kernel_rfl)) ?_
      try go_wp2
      go_ret
      exact ⟨by first | rfl | (simp [errW_none, errW_some] <;> rfl) | (simp [*, errW_none, errW_some] <;> rfl), hB⟩
     ·rw [if_neg c32] at H
      exact absurd H (by simp)
    ·rw [if_neg c31] at H
     exact absurd H (by simp)
   ·rw [if_neg c29] at H
    have c29b0 : (a0_0 == 2) = false := beq_eq_false_iff_ne.mpr c29
    have c29b1 : (a0_0 != 2) = true := bne_iff_ne.mpr c29
    by_cases c40 : a0_0 = 3
    ·rw [if_pos c40] at H
     have c40b0 : (a0_0 == 3) = true := beq_iff_eq.mpr c40
     have c40b1 : (a0_0 != 3) = false := bne_eq_false_iff_eq.mpr c40
     clear c40
     obtain rfl := Option.some.inj H
     go_enter Tryd.func60, Tryd.ntmps60
     go_wp2_with (first | ((with_reducible refine gate_dst (N := 2) rfl ?_); refine box_event ?hg (N := 2) ?hd (cs := #[.int .i64 a0_0, .int .i64 a0_1, .int .i64 a0_2]) (t := 30) ?hr ?_; (case hd => rfl); (case hg => rfl); (case hr => first | (go_simp; done) | (go_simp; rfl)); intro gb245 hg w41 hbox hb; have n0_ := hS HB hb; have n1_ := Aside0.mk (hbox); have n2_ := gS HB hg; have n3_ := gS HB hg; clear HB; have HB := n0_; have BK245 := n1_; have GW245 := n2_; have GE245 := n3_; clear n0_ n1_ n2_ n3_; clear hb hbox hg) | ((with_reducible refine gate_dst (N := 3) rfl ?_); refine box_event ?hg (N := 3) ?hd (cs := #[.int .i64 a1_0, .slice A1_1 l1_1.length c1_1]) (t := 34) ?hr ?_; (case hd => rfl); (case hg => rfl); (case hr => first | (go_simp; done) | (go_simp; rfl)); intro gb246 hg w42 hbox hb; have n0_ := bS BK245 hb; have n1_ := hS HB hb; have n2_ := Aside0.mk (hbox); have n3_ := gS HB hg; have n4_ := gS HB hg; have n5_ := nL BK245 hg; have n6_ := nG BK245 hg; clear BK245; clear HB; have BK245 := n0_; have HB := n1_; have BK246 := n2_; have GW246 := n3_; have GE246 := n4_; have NB245_246 := n5_; have NB246_245 := n6_; clear n0_ n1_ n2_ n3_ n4_ n5_ n6_; clear hb hbox hg; have hnb43 := NB245_246.out; have hnc43 := NB246_245.out; have hcz44_0 : w42.cell? ⟨gb245, 0, none⟩ = some (.int .i64 a0_0) := (blk_cell BK245.out 0).trans rfl; have hcz44_1 : w42.cell? ⟨gb245, 1, none⟩ = some (.int .i64 a0_1) := (blk_cell BK245.out 1).trans rfl; have hcz44_2 : w42.cell? ⟨gb245, 2, none⟩ = some (.int .i64 a0_2) := (blk_cell BK245.out 2).trans rfl; have hfz44_0 := blk_frozen BK245.out 0; have hfz44_1 := blk_frozen BK245.out 1; have hfz44_2 := blk_frozen BK245.out 2; have hcz45_0 : w42.cell? ⟨gb246, 0, none⟩ = some (.int .i64 a1_0) := (blk_cell BK246.out 0).trans rfl; have hcz45_1 : w42.cell? ⟨gb246, 1, none⟩ = some (.slice A1_1 l1_1.length c1_1) := (blk_cell BK246.out 1).trans rfl; have hfz45_0 := blk_frozen BK246.out 0; have hfz45_1 := blk_frozen BK246.out 1))
     go_ret
     exact ⟨by first | rfl | (simp [errW_none, errW_some] <;> rfl) | (simp [*, errW_none, errW_some] <;> rfl), hB⟩
    ·rw [if_neg c40] at H
     have c40b0 : (a0_0 == 3) = false := beq_eq_false_iff_ne.mpr c40
     have c40b1 : (a0_0 != 3) = true := bne_iff_ne.mpr c40
     by_cases c46 : a0_0 = 4
     ·rw [if_pos c46] at H
      have c46b0 : (a0_0 == 4) = true := beq_iff_eq.mpr c46
      have c46b1 : (a0_0 != 4) = false := bne_eq_false_iff_eq.mpr c46
      clear c46
      replace H := Option.bind_eq_some_iff.mp H
      obtain ⟨t261, A470, H⟩ := H
      replace H : (some (t261 == a0_1)) = some r := H
      have A47 := Aside0.mk A470
      clear A470
      obtain rfl := Option.some.inj H
      go_enter Tryd.func60, Tryd.ntmps60
      try go_wp2_with (first | ((with_reducible refine gate_dst (N := 2) rfl ?_); refine box_event ?hg (N := 2) ?hd (cs := #[.int .i64 a0_0, .int .i64 a0_1, .int .i64 a0_2]) (t := 30) ?hr ?_; (case hd => rfl); (case hg => rfl); (case hr => first | (go_simp; done) | (go_simp; rfl)); intro gb245 hg w48 hbox hb; have n0_ := hS HB hb; have n1_ := Aside0.mk (hbox); have n2_ := gS HB hg; have n3_ := gS HB hg; clear HB; have HB := n0_; have BK245 := n1_; have GW245 := n2_; have GE245 := n3_; clear n0_ n1_ n2_ n3_; clear hb hbox hg) | ((with_reducible refine gate_dst (N := 3) rfl ?_); refine box_event ?hg (N := 3) ?hd (cs := #[.int .i64 a1_0, .slice A1_1 l1_1.length c1_1]) (t := 34) ?hr ?_; (case hd => rfl); (case hg => rfl); (case hr => first | (go_simp; done) | (go_simp; rfl)); intro gb246 hg w49 hbox hb; have n0_ := bS BK245 hb; have n1_ := hS HB hb; have n2_ := Aside0.mk (hbox); have n3_ := gS HB hg; have n4_ := gS HB hg; have n5_ := nL BK245 hg; have n6_ := nG BK245 hg; clear BK245; clear HB; have BK245 := n0_; have HB := n1_; have BK246 := n2_; have GW246 := n3_; have GE246 := n4_; have NB245_246 := n5_; have NB246_245 := n6_; clear n0_ n1_ n2_ n3_ n4_ n5_ n6_; clear hb hbox hg; have hnb50 := NB245_246.out; have hnc50 := NB246_245.out; have hcz51_0 : w49.cell? ⟨gb245, 0, none⟩ = some (.int .i64 a0_0) := (blk_cell BK245.out 0).trans rfl; have hcz51_1 : w49.cell? ⟨gb245, 1, none⟩ = some (.int .i64 a0_1) := (blk_cell BK245.out 1).trans rfl; have hcz51_2 : w49.cell? ⟨gb245, 2, none⟩ = some (.int .i64 a0_2) := (blk_cell BK245.out 2).trans rfl; have hfz51_0 := blk_frozen BK245.out 0; have hfz51_1 := blk_frozen BK245.out 1; have hfz51_2 := blk_frozen BK245.out 2))
      have n0_ := Aside0.mk (blk_drew BK245.out)
      have n1_ := Aside0.mk (blk_drew BK246.out)
      have n2_ := Aside0.mk (below_drew1 HB.out)
      clear BK245
      clear BK246
      clear HB
      have BK245 := n0_
      have BK246 := n1_
      have HB := n2_
      clear n0_ n1_ n2_
      refine start_ (n := 6) (S := fun w' => w'.cell? ⟨gb246, 0, none⟩ = some (.int .i64 a1_0) ∧ w'.cell? ⟨gb246, 1, none⟩ = some (.slice A1_1 l1_1.length c1_1) ∧ w'.cell? ⟨gb245, 0, none⟩ = some (.int .i64 a0_0) ∧ w'.cell? ⟨gb245, 1, none⟩ = some (.int .i64 a0_1) ∧ w'.cell? ⟨gb245, 2, none⟩ = some (.int .i64 a0_2)) (ds := []) (bz 6 0) (by kernel_rfl) rfl rfl ⟨(blk_cell BK246.out 0).trans rfl, (blk_cell BK246.out 1).trans rfl, (blk_cell BK245.out 0).trans rfl, (blk_cell BK245.out 1).trans rfl, (blk_cell BK245.out 2).trans rfl⟩ (fun hHeld => ?_)
      generalize w49.drew = w52 at BK245 BK246 HB hHeld ⊢
      refine run_ [(0, 2, 4, some 55), (1, 0, 5, some 53), (1, 3, 13, some 56)] ?_
      repeat (first | (apply tag0; refine run_p (v := ?_) (a' := ?_) rfl rfl (by kernel_rfl) (fun _ _ _ h => h) (by rfl) ?_ ?_ ?_; rotate_left 2; (intro w'; go_simp; with_reducible rfl); (first | (simp only [Act.put, List.setIfInBounds_toArray, List.set_cons_zero, List.set_cons_succ, i64_w, i32_w]; rfl) | rfl)) | (apply tag1; refine run_t (v := ?_) (a' := ?_) rfl rfl (by kernel_rfl) (fun _ _ _ h => h) (by rfl) ?_ hHeld ?_ ?_; rotate_left 2; (rintro w' ⟨s0, s1, s2, s3, s4⟩; go_simp; with_reducible rfl); (first | (simp only [Act.put, List.setIfInBounds_toArray, List.set_cons_zero, List.set_cons_succ, i64_w, i32_w]; rfl) | rfl)))
      refine run_nil ?_
      refine one_ (i := 1) (N := some 54) (bz 6 15) rfl rfl (by kernel_rfl) (by decide) (fun K hK => ?_)
      refine goes_ Tryd.func72 (by kernel_rfl) rfl #[.agg #[.int .i64 a1_0, .slice A1_1 l1_1.length c1_1]] (by rfl) rfl rfl mapT ?_
      with_reducible refine (spec_pzThrees.calls k a1_0 _ _ l1_1 t261 _ ?side1 ?side2 A47.out).mono ?_
      (case side1 => repeat (first | exact (Kd.C_below HR1_1.out HB.out) | (with_reducible refine Kd.C_alloc ?_ _) | (with_reducible refine Kd.C_drewN ?_ _) | (with_reducible refine Kd.C_drew ?_)))
      (case side2 => exact HC1_1.out)
      rintro e w53 ⟨rfl, hb⟩
      refine ⟨_, rfl, ?_⟩
      have n0_ := bS BK245 hb
      have n1_ := bS BK246 hb
      have n2_ := hS HB hb
      clear BK245
      clear BK246
      clear HB
      have BK245 := n0_
      have BK246 := n1_
      have HB := n2_
      clear n0_ n1_ n2_
      (try clear hb)
      (try clear hb2)
      (try clear hk)
      (try clear hi)
      refine hK.out _ _ ⟨(blk_cell BK246.out 0).trans rfl, (blk_cell BK246.out 1).trans rfl, (blk_cell BK245.out 0).trans rfl, (blk_cell BK245.out 1).trans rfl, (blk_cell BK245.out 2).trans rfl⟩ (fun hHeld => ?_)
      clear hK K
      refine norm_ (a' := ?_) ?_ ?_
      rotate_left
      ·show Act.put _ (some 54) _ = _
       simp only [Act.put, List.setIfInBounds_toArray, List.set_cons_zero, List.set_cons_succ, i64_w, i32_w]
       rfl
      refine run_ [(0, 4, 31, some 57), (0, 5, 63, some 4)] ?_
      repeat ((apply tag0; refine run_p (v := ?_) (a' := ?_) rfl rfl (by kernel_rfl) (fun _ _ _ h => h) (by rfl) ?_ ?_ ?_; rotate_left 2; (intro w'; go_simp; with_reducible rfl); (first | (simp only [Act.put, List.setIfInBounds_toArray, List.set_cons_zero, List.set_cons_succ, i64_w, i32_w]; rfl) | rfl)))
      refine run_nil ?_
      refine done_ (by kernel_rfl) ?_
      try go_wp2
      go_ret
      exact ⟨by first | rfl | (simp [errW_none, errW_some] <;> rfl) | (simp [*, errW_none, errW_some] <;> rfl), hB⟩
     ·rw [if_neg c46] at H
      have c46b0 : (a0_0 == 4) = false := beq_eq_false_iff_ne.mpr c46
      have c46b1 : (a0_0 != 4) = true := bne_iff_ne.mpr c46
      replace H := Option.bind_eq_some_iff.mp H
      obtain ⟨t262, A540, H⟩ := H
      replace H : (some ((t262.length : Int) == a0_1)) = some r := H
      have A54 := Aside0.mk A540
      clear A540
      obtain rfl := Option.some.inj H
      go_enter Tryd.func60, Tryd.ntmps60
      try go_wp2_with (first | ((with_reducible refine gate_dst (N := 2) rfl ?_); refine box_event ?hg (N := 2) ?hd (cs := #[.int .i64 a0_0, .int .i64 a0_1, .int .i64 a0_2]) (t := 30) ?hr ?_; (case hd => rfl); (case hg => rfl); (case hr => first | (go_simp; done) | (go_simp; rfl)); intro gb245 hg w55 hbox hb; have n0_ := hS HB hb; have n1_ := Aside0.mk (hbox); have n2_ := gS HB hg; have n3_ := gS HB hg; clear HB; have HB := n0_; have BK245 := n1_; have GW245 := n2_; have GE245 := n3_; clear n0_ n1_ n2_ n3_; clear hb hbox hg) | ((with_reducible refine gate_dst (N := 3) rfl ?_); refine box_event ?hg (N := 3) ?hd (cs := #[.int .i64 a1_0, .slice A1_1 l1_1.length c1_1]) (t := 34) ?hr ?_; (case hd => rfl); (case hg => rfl); (case hr => first | (go_simp; done) | (go_simp; rfl)); intro gb246 hg w56 hbox hb; have n0_ := bS BK245 hb; have n1_ := hS HB hb; have n2_ := Aside0.mk (hbox); have n3_ := gS HB hg; have n4_ := gS HB hg; have n5_ := nL BK245 hg; have n6_ := nG BK245 hg; clear BK245; clear HB; have BK245 := n0_; have HB := n1_; have BK246 := n2_; have GW246 := n3_; have GE246 := n4_; have NB245_246 := n5_; have NB246_245 := n6_; clear n0_ n1_ n2_ n3_ n4_ n5_ n6_; clear hb hbox hg; have hnb57 := NB245_246.out; have hnc57 := NB246_245.out; have hcz58_0 : w56.cell? ⟨gb245, 0, none⟩ = some (.int .i64 a0_0) := (blk_cell BK245.out 0).trans rfl; have hcz58_1 : w56.cell? ⟨gb245, 1, none⟩ = some (.int .i64 a0_1) := (blk_cell BK245.out 1).trans rfl; have hcz58_2 : w56.cell? ⟨gb245, 2, none⟩ = some (.int .i64 a0_2) := (blk_cell BK245.out 2).trans rfl; have hfz58_0 := blk_frozen BK245.out 0; have hfz58_1 := blk_frozen BK245.out 1; have hfz58_2 := blk_frozen BK245.out 2))
      have n0_ := Aside0.mk (blk_drew BK245.out)
      have n1_ := Aside0.mk (blk_drew BK246.out)
      have n2_ := Aside0.mk (below_drew1 HB.out)
      clear BK245
      clear BK246
      clear HB
      have BK245 := n0_
      have BK246 := n1_
      have HB := n2_
      clear n0_ n1_ n2_
      refine start_ (n := 7) (S := fun w' => w'.cell? ⟨gb246, 0, none⟩ = some (.int .i64 a1_0) ∧ w'.cell? ⟨gb246, 1, none⟩ = some (.slice A1_1 l1_1.length c1_1) ∧ w'.cell? ⟨gb245, 0, none⟩ = some (.int .i64 a0_0) ∧ w'.cell? ⟨gb245, 1, none⟩ = some (.int .i64 a0_1) ∧ w'.cell? ⟨gb245, 2, none⟩ = some (.int .i64 a0_2)) (ds := []) (bz 7 0) (by kernel_rfl) rfl rfl ⟨(blk_cell BK246.out 0).trans rfl, (blk_cell BK246.out 1).trans rfl, (blk_cell BK245.out 0).trans rfl, (blk_cell BK245.out 1).trans rfl, (blk_cell BK245.out 2).trans rfl⟩ (fun hHeld => ?_)
      generalize w56.drew = w59 at BK245 BK246 HB hHeld ⊢
      refine run_ [(0, 3, 8, some 61), (1, 0, 9, some 58), (1, 4, 25, some 62)] ?_
      repeat (first | (apply tag0; refine run_p (v := ?_) (a' := ?_) rfl rfl (by kernel_rfl) (fun _ _ _ h => h) (by rfl) ?_ ?_ ?_; rotate_left 2; (intro w'; go_simp; with_reducible rfl); (first | (simp only [Act.put, List.setIfInBounds_toArray, List.set_cons_zero, List.set_cons_succ, i64_w, i32_w]; rfl) | rfl)) | (apply tag1; refine run_t (v := ?_) (a' := ?_) rfl rfl (by kernel_rfl) (fun _ _ _ h => h) (by rfl) ?_ hHeld ?_ ?_; rotate_left 2; (rintro w' ⟨s0, s1, s2, s3, s4⟩; go_simp; with_reducible rfl); (first | (simp only [Act.put, List.setIfInBounds_toArray, List.set_cons_zero, List.set_cons_succ, i64_w, i32_w]; rfl) | rfl)))
      refine run_nil ?_
      refine one_ (i := 1) (N := some 59) (bz 7 27) rfl rfl (by kernel_rfl) (by decide) (fun K hK => ?_)
      refine goes_ Tryd.func73 (by kernel_rfl) rfl #[.agg #[.int .i64 a1_0, .slice A1_1 l1_1.length c1_1]] (by rfl) rfl rfl mapT ?_
      with_reducible refine (spec_paParts.calls k a1_0 _ _ l1_1 t262 _ ?side1 ?side2 A54.out).mono ?_
      (case side1 => repeat (first | exact (Kd.C_below HR1_1.out HB.out) | (with_reducible refine Kd.C_alloc ?_ _) | (with_reducible refine Kd.C_drewN ?_ _) | (with_reducible refine Kd.C_drew ?_)))
      (case side2 => exact HC1_1.out)
      rintro e w60 ⟨v263, rfl, ho0, hb⟩
      refine ⟨_, rfl, ?_⟩
      have n0_ := Aside0.mk (Kd.S_lower ho0 (below_size hB))
      have n1_ := bS BK245 hb
      have n2_ := bS BK246 hb
      have n3_ := hS HB hb
      clear BK245
      clear BK246
      clear HB
      have HO264 := n0_
      have BK245 := n1_
      have BK246 := n2_
      have HB := n3_
      clear n0_ n1_ n2_ n3_
      (try clear hb)
      (try clear hb2)
      (try clear hk)
      (try clear hi)
      (try clear ho0)
      obtain ⟨Ao61, co61, eo61⟩ := Kd.S_slice HO264.out
      (first | subst eo61 | (injection eo61 with f1_ f2_ f3_; have f4_ := f1_.symm; have f5_ := f3_.symm; clear f1_ f2_ f3_; subst f4_; subst f5_))
      refine hK.out _ _ ⟨(blk_cell BK246.out 0).trans rfl, (blk_cell BK246.out 1).trans rfl, (blk_cell BK245.out 0).trans rfl, (blk_cell BK245.out 1).trans rfl, (blk_cell BK245.out 2).trans rfl⟩ (fun hHeld => ?_)
      clear hK K
      refine norm_ (a' := ?_) ?_ ?_
      rotate_left
      ·show Act.put _ (some 59) _ = _
       simp only [Act.put, List.setIfInBounds_toArray, List.set_cons_zero, List.set_cons_succ, i64_w, i32_w]
       rfl
      refine run_ [(0, 2, 31, some 60), (0, 5, 63, some 63), (0, 6, 127, some 4)] ?_
      repeat ((apply tag0; refine run_p (v := ?_) (a' := ?_) rfl rfl (by kernel_rfl) (fun _ _ _ h => h) (by rfl) ?_ ?_ ?_; rotate_left 2; (intro w'; go_simp; with_reducible rfl); (first | (simp only [Act.put, List.setIfInBounds_toArray, List.set_cons_zero, List.set_cons_succ, i64_w, i32_w]; rfl) | rfl)))
      refine run_nil ?_
      refine done_ (by kernel_rfl) ?_
      try go_wp2
      go_ret
      exact ⟨by first | rfl | (simp [errW_none, errW_some] <;> rfl) | (simp [*, errW_none, errW_some] <;> rfl), hB⟩

/-! ### spec_l1Least: function 68 -/
def spec_l1Least.f (a0 : Int) (a1 : Int) : Option (Int) := if a0 < a1 then (some a0) else (some a1)
set_option maxHeartbeats 8000000 in
set_option maxRecDepth 100000 in
theorem spec_l1Least.calls (a0 : Int) (a1 : Int) (r : Int) (w : World) (h : spec_l1Least.f a0 a1 = some r) :
  Calls Tryd.prog 68 #[.int .i64 a0, .int .i64 a1] w fun e w' => e = .returned (.int .i64 r) ∧ Drawn0 w w' := by
 have H : (if a0 < a1 then (some a0) else (some a1)) = some r := h
 clear h
 by_cases c3 : a0 < a1
 ·rw [if_pos c3] at H
  have c3b0 : decide (a0 < a1) = true := decide_eq_true c3
  clear c3
  obtain rfl := Option.some.inj H
  go_enter Tryd.func68, Tryd.ntmps68
  go_wp2
  go_ret
  exact ⟨by first | rfl | (simp; done) | (simp [*]; done), by repeat (first | exact Drawn0.refl _ | apply Drawn0.step)⟩
 ·rw [if_neg c3] at H
  have c3b0 : decide (a0 < a1) = false := decide_eq_false c3
  clear c3
  obtain rfl := Option.some.inj H
  go_enter Tryd.func68, Tryd.ntmps68
  go_wp2
  go_ret
  exact ⟨by first | rfl | (simp; done) | (simp [*]; done), by repeat (first | exact Drawn0.refl _ | apply Drawn0.step)⟩

/-! ### spec_paLess: function 97 -/
def spec_paLess.f (a0_0 : Int) (a0_1 : Int) (a1_0 : Int) (a1_1 : Int) : Option (Bool) := if a0_0 < a1_0 then (some true) else (if a0_0 = a1_0 then (some (decide (a0_1 < a1_1))) else (some false))
set_option maxHeartbeats 8000000 in
set_option maxRecDepth 100000 in
theorem spec_paLess.calls (a0_0 : Int) (a0_1 : Int) (a1_0 : Int) (a1_1 : Int) (r : Bool) (w : World) (h : spec_paLess.f a0_0 a0_1 a1_0 a1_1 = some r) :
  Calls Tryd.prog 97 #[.agg #[.int .i64 a0_0, .int .i64 a0_1], .agg #[.int .i64 a1_0, .int .i64 a1_1]] w fun e w' => e = .returned (.bool r) ∧ Below w.heap.size w w' := by
 have hu110 := Tryd.underlying110
 have HB := Aside0.mk (Below.refl w.heap.size w)
 have H : (if a0_0 < a1_0 then (some true) else (if a0_0 = a1_0 then (some (decide (a0_1 < a1_1))) else (some false))) = some r := h
 clear h
 by_cases c3 : a0_0 < a1_0
 ·rw [if_pos c3] at H
  have c3b0 : decide (a0_0 < a1_0) = true := decide_eq_true c3
  clear c3
  obtain rfl := Option.some.inj H
  go_enter Tryd.func97, Tryd.ntmps97
  go_wp2_with (first | ((with_reducible refine gate_dst (N := 2) rfl ?_); refine box_event ?hg (N := 2) ?hd (cs := #[.int .i64 a0_0, .int .i64 a0_1]) (t := 110) ?hr ?_; (case hd => rfl); (case hg => rfl); (case hr => first | (go_simp; done) | (go_simp; rfl)); intro gb265 hg w4 hbox hb; have n0_ := hS HB hb; have n1_ := Aside0.mk (hbox); have n2_ := gS HB hg; have n3_ := gS HB hg; clear HB; have HB := n0_; have BK265 := n1_; have GW265 := n2_; have GE265 := n3_; clear n0_ n1_ n2_ n3_; clear hb hbox hg) | ((with_reducible refine gate_dst (N := 3) rfl ?_); refine box_event ?hg (N := 3) ?hd (cs := #[.int .i64 a1_0, .int .i64 a1_1]) (t := 110) ?hr ?_; (case hd => rfl); (case hg => rfl); (case hr => first | (go_simp; done) | (go_simp; rfl)); intro gb266 hg w5 hbox hb; have n0_ := bS BK265 hb; have n1_ := hS HB hb; have n2_ := Aside0.mk (hbox); have n3_ := gS HB hg; have n4_ := gS HB hg; have n5_ := nL BK265 hg; have n6_ := nG BK265 hg; clear BK265; clear HB; have BK265 := n0_; have HB := n1_; have BK266 := n2_; have GW266 := n3_; have GE266 := n4_; have NB265_266 := n5_; have NB266_265 := n6_; clear n0_ n1_ n2_ n3_ n4_ n5_ n6_; clear hb hbox hg; have hnb6 := NB265_266.out; have hnc6 := NB266_265.out; have hcz7_0 : w5.cell? ⟨gb265, 0, none⟩ = some (.int .i64 a0_0) := (blk_cell BK265.out 0).trans rfl; have hcz7_1 : w5.cell? ⟨gb265, 1, none⟩ = some (.int .i64 a0_1) := (blk_cell BK265.out 1).trans rfl; have hfz7_0 := blk_frozen BK265.out 0; have hfz7_1 := blk_frozen BK265.out 1; have hcz8_0 : w5.cell? ⟨gb266, 0, none⟩ = some (.int .i64 a1_0) := (blk_cell BK266.out 0).trans rfl; have hcz8_1 : w5.cell? ⟨gb266, 1, none⟩ = some (.int .i64 a1_1) := (blk_cell BK266.out 1).trans rfl; have hfz8_0 := blk_frozen BK266.out 0; have hfz8_1 := blk_frozen BK266.out 1))
  go_ret
  exact ⟨by first | rfl | (simp [errW_none, errW_some] <;> rfl) | (simp [*, errW_none, errW_some] <;> rfl), hB⟩
 ·rw [if_neg c3] at H
  have c3b0 : decide (a0_0 < a1_0) = false := decide_eq_false c3
  clear c3
  by_cases c9 : a0_0 = a1_0
  ·rw [if_pos c9] at H
   have c9b0 : (a0_0 == a1_0) = true := beq_iff_eq.mpr c9
   have c9b1 : (a0_0 != a1_0) = false := bne_eq_false_iff_eq.mpr c9
   clear c9
   obtain rfl := Option.some.inj H
   go_enter Tryd.func97, Tryd.ntmps97
   go_wp2_with (first | ((with_reducible refine gate_dst (N := 2) rfl ?_); refine box_event ?hg (N := 2) ?hd (cs := #[.int .i64 a0_0, .int .i64 a0_1]) (t := 110) ?hr ?_; (case hd => rfl); (case hg => rfl); (case hr => first | (go_simp; done) | (go_simp; rfl)); intro gb265 hg w10 hbox hb; have n0_ := hS HB hb; have n1_ := Aside0.mk (hbox); have n2_ := gS HB hg; have n3_ := gS HB hg; clear HB; have HB := n0_; have BK265 := n1_; have GW265 := n2_; have GE265 := n3_; clear n0_ n1_ n2_ n3_; clear hb hbox hg) | ((with_reducible refine gate_dst (N := 3) rfl ?_); refine box_event ?hg (N := 3) ?hd (cs := #[.int .i64 a1_0, .int .i64 a1_1]) (t := 110) ?hr ?_; (case hd => rfl); (case hg => rfl); (case hr => first | (go_simp; done) | (go_simp; rfl)); intro gb266 hg w11 hbox hb; have n0_ := bS BK265 hb; have n1_ := hS HB hb; have n2_ := Aside0.mk (hbox); have n3_ := gS HB hg; have n4_ := gS HB hg; have n5_ := nL BK265 hg; have n6_ := nG BK265 hg; clear BK265; clear HB; have BK265 := n0_; have HB := n1_; have BK266 := n2_; have GW266 := n3_; have GE266 := n4_; have NB265_266 := n5_; have NB266_265 := n6_; clear n0_ n1_ n2_ n3_ n4_ n5_ n6_; clear hb hbox hg; have hnb12 := NB265_266.out; have hnc12 := NB266_265.out; have hcz13_0 : w11.cell? ⟨gb265, 0, none⟩ = some (.int .i64 a0_0) := (blk_cell BK265.out 0).trans rfl; have hcz13_1 : w11.cell? ⟨gb265, 1, none⟩ = some (.int .i64 a0_1) := (blk_cell BK265.out 1).trans rfl; have hfz13_0 := blk_frozen BK265.out 0; have hfz13_1 := blk_frozen BK265.out 1; have hcz14_0 : w11.cell? ⟨gb266, 0, none⟩ = some (.int .i64 a1_0) := (blk_cell BK266.out 0).trans rfl; have hcz14_1 : w11.cell? ⟨gb266, 1, none⟩ = some (.int .i64 a1_1) := (blk_cell BK266.out 1).trans rfl; have hfz14_0 := blk_frozen BK266.out 0; have hfz14_1 := blk_frozen BK266.out 1))
   go_ret
   exact ⟨by first | rfl | (simp [errW_none, errW_some] <;> rfl) | (simp [*, errW_none, errW_some] <;> rfl), hB⟩
  ·rw [if_neg c9] at H
   have c9b0 : (a0_0 == a1_0) = false := beq_eq_false_iff_ne.mpr c9
   have c9b1 : (a0_0 != a1_0) = true := bne_iff_ne.mpr c9
   obtain rfl := Option.some.inj H
   go_enter Tryd.func97, Tryd.ntmps97
   go_wp2_with (first | ((with_reducible refine gate_dst (N := 2) rfl ?_); refine box_event ?hg (N := 2) ?hd (cs := #[.int .i64 a0_0, .int .i64 a0_1]) (t := 110) ?hr ?_; (case hd => rfl); (case hg => rfl); (case hr => first | (go_simp; done) | (go_simp; rfl)); intro gb265 hg w15 hbox hb; have n0_ := hS HB hb; have n1_ := Aside0.mk (hbox); have n2_ := gS HB hg; have n3_ := gS HB hg; clear HB; have HB := n0_; have BK265 := n1_; have GW265 := n2_; have GE265 := n3_; clear n0_ n1_ n2_ n3_; clear hb hbox hg) | ((with_reducible refine gate_dst (N := 3) rfl ?_); refine box_event ?hg (N := 3) ?hd (cs := #[.int .i64 a1_0, .int .i64 a1_1]) (t := 110) ?hr ?_; (case hd => rfl); (case hg => rfl); (case hr => first | (go_simp; done) | (go_simp; rfl)); intro gb266 hg w16 hbox hb; have n0_ := bS BK265 hb; have n1_ := hS HB hb; have n2_ := Aside0.mk (hbox); have n3_ := gS HB hg; have n4_ := gS HB hg; have n5_ := nL BK265 hg; have n6_ := nG BK265 hg; clear BK265; clear HB; have BK265 := n0_; have HB := n1_; have BK266 := n2_; have GW266 := n3_; have GE266 := n4_; have NB265_266 := n5_; have NB266_265 := n6_; clear n0_ n1_ n2_ n3_ n4_ n5_ n6_; clear hb hbox hg; have hnb17 := NB265_266.out; have hnc17 := NB266_265.out; have hcz18_0 : w16.cell? ⟨gb265, 0, none⟩ = some (.int .i64 a0_0) := (blk_cell BK265.out 0).trans rfl; have hcz18_1 : w16.cell? ⟨gb265, 1, none⟩ = some (.int .i64 a0_1) := (blk_cell BK265.out 1).trans rfl; have hfz18_0 := blk_frozen BK265.out 0; have hfz18_1 := blk_frozen BK265.out 1; have hcz19_0 : w16.cell? ⟨gb266, 0, none⟩ = some (.int .i64 a1_0) := (blk_cell BK266.out 0).trans rfl; have hcz19_1 : w16.cell? ⟨gb266, 1, none⟩ = some (.int .i64 a1_1) := (blk_cell BK266.out 1).trans rfl; have hfz19_0 := blk_frozen BK266.out 0; have hfz19_1 := blk_frozen BK266.out 1))
   go_ret
   exact ⟨by first | rfl | (simp [errW_none, errW_some] <;> rfl) | (simp [*, errW_none, errW_some] <;> rfl), hB⟩

end Go.Proofs.YtdnkipagpagfiaaDoor.PSol
