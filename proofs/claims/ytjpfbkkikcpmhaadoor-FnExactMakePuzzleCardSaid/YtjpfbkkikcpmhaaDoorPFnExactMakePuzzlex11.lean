-- Of this session's own program wip/gen/gen.py (it drives the kit's print): contracts of the functions that the law reaches.
import Derived.Test.YtjpfbkkikcpmhaaDoorPFnExactMakePuzzlex0
import Derived.Test.YtjpfbkkikcpmhaaDoorPFnExactMakePuzzlex1
import Derived.Test.YtjpfbkkikcpmhaaDoorPFnExactMakePuzzlex5
import Derived.Test.YtjpfbkkikcpmhaaDoorPFnExactMakePuzzlex6
import Derived.Test.YtjpfbkkikcpmhaaDoorPFnExactMakePuzzlex9
import Derived.Test.YtjpfbkkikcpmhaaDoorPFnExactMakePuzzlex10
namespace Go.Proofs.YtjpfbkkikcpmhaaDoor.PFnExactMakePuzzle
open Go.RowKit Go.Proofs.YtjpfbkkikcpmhaaDoorW.PrintWords Go.Proofs.YtjpfbkkikcpmhaaDoorW.PrintLast Go.Proofs.YtjpfbkkikcpmhaaDoorW.PrintMore Go.Proofs.YtjpfbkkikcpmhaaDoor.Base
attribute [local go_sem] max2_int min2_int max_two min_two max_three min_three max_four min_four   -- for this text's walks alone
set_option linter.unusedVariables false
set_option linter.unusedSimpArgs false

/-! ### laws_markClueS: function 67 -/
def laws_markClueS.l0 : Nat → List (S70) → Int → Int → Option (Int × (List (S70)))
 | 0, _, _, _ => none
 | k + 1, x0, x1, x5 => if x5 < (x0.length : Int) then (if 0 ≤ x5 then ((some (x0.set (x5 : Int).toNat (⟨x1, (rd_T70 x0 x5).f1, (rd_T70 x0 x5).f2⟩ : S70) : List (S70))).bind fun y403 => ((some (y403.set (x5 : Int).toNat (⟨(rd_T70 y403 x5).f0, wrap64 (x1 + 1), (rd_T70 y403 x5).f2⟩ : S70) : List (S70))).bind fun y404 => (laws_markClueS.l0 k (y404.set (x5 : Int).toNat (⟨(rd_T70 y404 x5).f0, (rd_T70 y404 x5).f1, wrap64 ((wrap64 (x1 + 1)) + 1)⟩ : S70)) (wrap64 ((wrap64 ((wrap64 (x1 + 1)) + 1)) + 1)) (wrap64 (x5 + 1))))) else (none)) else (some (x1, x0))
def laws_markClueS.f (k : Nat) (l0 : List (S70)) (a1 : Int) : Option (Int × (List (S70))) := laws_markClueS.l0 k l0 a1 0
theorem laws_markClueS.mono_l : ∀ k, (∀ y0 y1 y2, LeO (laws_markClueS.l0 k y0 y1 y2) (laws_markClueS.l0 (k + 1) y0 y1 y2))
 | 0 => fun _ _ _ r h => by simp [laws_markClueS.l0] at h
 | k + 1 => by
  have ih0 := laws_markClueS.mono_l k
  ·intro y0 y1 y2
   unfold laws_markClueS.l0
   repeat' first
   | (with_reducible exact ih0 _ _ _)
   | (with_reducible exact LeO.refl _)
   | (with_reducible exact LeO.none _)
   | (with_reducible refine LeO.ite ?_ ?_)
   | (with_reducible refine LeO.bind ?_ (fun _ => ?_))
   | exact ih0 _ _ _
   | exact LeO.none _
   | refine LeO.ite ?_ ?_
   | refine LeO.bind ?_ (fun _ => ?_)
theorem laws_markClueS.mono : ∀ a0 a1 k, LeO (laws_markClueS.f k a0 a1) (laws_markClueS.f (k + 1) a0 a1) := by
 intro a0 a1 k
 have ih0 := laws_markClueS.mono_l k
 unfold laws_markClueS.f
 repeat' first
   | (with_reducible exact ih0 _ _ _)
   | (with_reducible exact LeO.refl _)
   | (with_reducible exact LeO.none _)
   | (with_reducible refine LeO.ite ?_ ?_)
   | (with_reducible refine LeO.bind ?_ (fun _ => ?_))
   | exact ih0 _ _ _
   | exact LeO.none _
   | refine LeO.ite ?_ ?_
   | refine LeO.bind ?_ (fun _ => ?_)
set_option maxHeartbeats 8000000 in
set_option maxRecDepth 100000 in
theorem laws_markClueS.calls (k : Nat) (P0_ : Nat → Prop) (u9000_ : Value) (l0 : List (S70)) (a1 : Int) (r1 : Int) (r2 : List (S70)) (w0 w : World) (hB : Below w0.heap.size w0 w) (ho0 : Kd.R k70 70 w w0.heap.size P0_ u9000_ l0) (h : laws_markClueS.f k l0 a1 = some (r1, r2)) :
  Calls Tryd.prog 67 #[u9000_, .int .i64 a1] w fun e w' => e = .returned (.int .i64 r1) ∧ Kd.R k70 70 w' w0.heap.size (fun k_ => (P0_ k_ ∨ w.heap.size ≤ k_)) u9000_ r2 ∧ Below w0.heap.size w0 w' ∧ Kept w w' (fun k_ => P0_ k_) := by
 have HO0 := Aside0.mk (show Kd.R k70 70 w w0.heap.size (fun k_ => (P0_ k_ ∨ w.heap.size ≤ k_)) u9000_ l0 from Kd.R_mono ho0 (fun k_ hk => (.inl hk)))
 have HK := Aside0.mk (Kept.refl w (fun k_ => P0_ k_))
 have HW0 := Aside0.mk hB.size
 have HB := Aside0.mk hB
 clear hB
 have H : (laws_markClueS.l0 k l0 a1 0) = some (r1, r2) := h
 clear h
 have H' := Aside0.mk H
 clear H
 go_enter Tryd.func67, Tryd.ntmps67
 go_wp2
 go_loopg [1, 5] k (fun kq v1 v5 w' => ∃ (x0_1 : List (S70)) (x1_1 : Int) (x5_1 : Int), v1 = .int .i64 x1_1 ∧ v5 = .int .i64 x5_1 ∧ Aside0 (laws_markClueS.l0 kq x0_1 x1_1 x5_1 = some (r1, r2)) ∧ Aside0 (kq ≤ k) ∧ Aside0 (Kd.R k70 70 w' w0.heap.size (fun k_ => (P0_ k_ ∨ w.heap.size ≤ k_)) u9000_ x0_1) ∧ Aside0 (Kept w w' (fun k_ => P0_ k_)) ∧ Aside0 (Below w0.heap.size w0 w'))
 case atStart => exact ⟨(l0), (a1), (0), (by first | rfl | (simp; done) | (simp [*]; done)), (by first | rfl | (simp; done) | (simp [*]; done)), H', ⟨Nat.le_refl _⟩, ⟨rU HO0⟩, ⟨by repeat (first | (with_reducible first | exact HK.out | apply Kept.alloc | apply Kept.drewN | apply Kept.drew) | exact HK.out)⟩, ⟨hB⟩⟩
 case round =>
  clear H'
  try clear p2
  obtain ⟨x0_1, x1_1, x5_1, rfl, rfl, HA, HK1, HO_0, HK, HB⟩ := hrel
  cases gk with
  | zero => exact absurd HA.out (by simp [laws_markClueS.l0])
  | succ k1 =>
   have H := HA.out
   clear HA
   simp only [laws_markClueS.l0] at H
   by_cases c3 : x5_1 < (x0_1.length : Int)
   ·rw [if_pos c3] at H
    have c3b0 : decide (x5_1 < (x0_1.length : Int)) = true := decide_eq_true c3
    clear c3
    by_cases c4 : 0 ≤ x5_1
    ·rw [if_pos c4] at H
     have c4b0 : decide (0 ≤ x5_1) = true := decide_eq_true c4
     clear c4
     obtain ⟨y403, hy403⟩ : ∃ y_ : List (S70), y_ = (x0_1.set (x5_1 : Int).toNat (⟨x1_1, (rd_T70 x0_1 x5_1).f1, (rd_T70 x0_1 x5_1).f2⟩ : S70)) := ⟨_, rfl⟩
     replace H : ((some (y403.set (x5_1 : Int).toNat (⟨(rd_T70 y403 x5_1).f0, wrap64 (x1_1 + 1), (rd_T70 y403 x5_1).f2⟩ : S70) : List (S70))).bind fun y404 => (laws_markClueS.l0 k1 (y404.set (x5_1 : Int).toNat (⟨(rd_T70 y404 x5_1).f0, (rd_T70 y404 x5_1).f1, wrap64 ((wrap64 (x1_1 + 1)) + 1)⟩ : S70)) (wrap64 ((wrap64 ((wrap64 (x1_1 + 1)) + 1)) + 1)) (wrap64 (x5_1 + 1)))) = some (r1, r2) := by first | (rw [hy403]; with_reducible exact H) | (have H2_ := (Option.bind_some _ _).symm.trans H; rw [hy403]; with_reducible exact H2_) | (have H2_ := (Option.bind_some _ _).symm.trans H; with_reducible exact H2_) | with_reducible exact H | (rw [hy403]; exact H) | exact H
     have Ny403 := Aside0.mk hy403
     clear hy403
     obtain ⟨y404, hy404⟩ : ∃ y_ : List (S70), y_ = (y403.set (x5_1 : Int).toNat (⟨(rd_T70 y403 x5_1).f0, wrap64 (x1_1 + 1), (rd_T70 y403 x5_1).f2⟩ : S70)) := ⟨_, rfl⟩
     replace H : (laws_markClueS.l0 k1 (y404.set (x5_1 : Int).toNat (⟨(rd_T70 y404 x5_1).f0, (rd_T70 y404 x5_1).f1, wrap64 ((wrap64 (x1_1 + 1)) + 1)⟩ : S70)) (wrap64 ((wrap64 ((wrap64 (x1_1 + 1)) + 1)) + 1)) (wrap64 (x5_1 + 1))) = some (r1, r2) := by first | (rw [hy404]; with_reducible exact H) | (have H2_ := (Option.bind_some _ _).symm.trans H; rw [hy404]; with_reducible exact H2_) | (have H2_ := (Option.bind_some _ _).symm.trans H; with_reducible exact H2_) | with_reducible exact H | (rw [hy404]; exact H) | exact H
     have Ny404 := Aside0.mk hy404
     clear hy404
     obtain ⟨y405, hy405⟩ : ∃ y_ : List (S70), y_ = (y404.set (x5_1 : Int).toNat (⟨(rd_T70 y404 x5_1).f0, (rd_T70 y404 x5_1).f1, wrap64 ((wrap64 (x1_1 + 1)) + 1)⟩ : S70)) := ⟨_, rfl⟩
     replace H : (laws_markClueS.l0 k1 y405 (wrap64 ((wrap64 ((wrap64 (x1_1 + 1)) + 1)) + 1)) (wrap64 (x5_1 + 1))) = some (r1, r2) := by first | (rw [hy405]; with_reducible exact H) | (have H2_ := (Option.bind_some _ _).symm.trans H; rw [hy405]; with_reducible exact H2_) | (have H2_ := (Option.bind_some _ _).symm.trans H; with_reducible exact H2_) | with_reducible exact H | (rw [hy405]; exact H) | exact H
     have Ny405 := Aside0.mk hy405
     clear hy405
     have H' := Aside0.mk H
     clear H
     obtain ⟨Ao8, co8, eo8⟩ := Kd.R_slice HO_0.out
     subst eo8
     have p5 : 0 ≤ (x5_1 : Int) := of_decide_eq_true (by first | (with_reducible assumption) | assumption)
     have q5 : (x5_1 : Int) < ((x0_1.length : Int) : Int) := of_decide_eq_true (by first | (with_reducible assumption) | assumption)
     obtain ⟨go5, co5, eo5, gb5, gl5, cl5, HG5⟩ := Kd.R_form HO_0.out (by omega)
     (first | cases eo5 | (injection eo5 with ea_ en_ ec_; (first | subst ea_ | (injection ea_ with ea_; subst ea_)); subst ec_; clear en_))
     have GB5 := Aside0.mk gb5
     have GG5 := Aside0.mk HG5
     clear gb5 gl5 HG5
     have HMgo5 := Aside0.mk (show (P0_ go5 ∨ w.heap.size ≤ go5) from (HO_0.out.1 _ rfl))
     obtain ⟨ce5, hcl5, hM5, hcc5, hfr5⟩ := Kd.R_elem HO_0.out z70 (x5_1 : Int) p5 q5
     obtain rfl := k70_openM hM5
     have hx5_0 : wr.cell? ⟨go5, (x5_1 : Int).toNat * 3, none⟩ = some (.int .i64 ((rd_T70 x0_1 x5_1).f0)) := hcc5 0 _ rfl
     have hx5_1 : wr.cell? ⟨go5, (x5_1 : Int).toNat * 3 + 1, none⟩ = some (.int .i64 ((rd_T70 x0_1 x5_1).f1)) := hcc5 1 _ rfl
     have hx5_2 : wr.cell? ⟨go5, (x5_1 : Int).toNat * 3 + 2, none⟩ = some (.int .i64 ((rd_T70 x0_1 x5_1).f2)) := hcc5 2 _ rfl
     have hf5_0 : wr.frozen? ⟨go5, (x5_1 : Int).toNat * 3, none⟩ = false := hfr5 0
     have hf5_1 : wr.frozen? ⟨go5, (x5_1 : Int).toNat * 3 + 1, none⟩ = false := hfr5 1
     have hf5_2 : wr.frozen? ⟨go5, (x5_1 : Int).toNat * 3 + 2, none⟩ = false := hfr5 2
     clear hcl5 hcc5 hfr5 hM5
     replace p5 := eq_true p5
     replace q5 := eq_true q5
     have HX9 := Aside0.mk (show Kd.R k70 70 wr w0.heap.size (fun k_ => (P0_ k_ ∨ w.heap.size ≤ k_)) (.slice (some ⟨go5, 0, none⟩) x0_1.length co8) x0_1 from (rU HO_0))
     obtain ⟨ce9, hcl9, hM9, hcc9, hfr9⟩ := Kd.R_elem HX9.out z70 (x5_1 : Int) (of_decide_eq_true (by first | (with_reducible assumption) | assumption)) (by have h_ : (x5_1 : Int) < ((x0_1.length : Int) : Int) := of_decide_eq_true (by first | (with_reducible assumption) | assumption); first | exact h_ | (have e_ := (Kd.R_reads' HO_0.out).1; omega) | simpa using h_)
     obtain rfl := k70_openM hM9
     have HP9 := Kd.R_seg HX9.out (x5_1 : Int) (of_decide_eq_true (by first | (with_reducible assumption) | assumption)) (by have h_ : (x5_1 : Int) < ((x0_1.length : Int) : Int) := of_decide_eq_true (by first | (with_reducible assumption) | assumption); first | exact h_ | (have e_ := (Kd.R_reads' HO_0.out).1; omega) | simpa using h_) (seg := [.int .i64 x1_1]) (j := 0) hcl9 hcc9 (show 1 ≤ 3 from by decide) (x' := (⟨x1_1, (rd_T70 x0_1 x5_1).f1, (rd_T70 x0_1 x5_1).f2⟩ : S70)) (k70_mkM _ _ _ (⟨x1_1, (rd_T70 x0_1 x5_1).f1, (rd_T70 x0_1 x5_1).f2⟩ : S70) ) (fun _ hk => hk)
     have hx9_0 := hcc9 0 _ rfl
     (try simp only [show (k70).sz = 3 from rfl, Nat.mul_one, Nat.add_zero] at hx9_0)
     have hf9_0 := hfr9 0
     (try simp only [show (k70).sz = 3 from rfl, Nat.mul_one, Nat.add_zero] at hf9_0)
     clear hcl9 hcc9 hfr9 hM9
     go_wp2_with (first | ((with_reducible refine gate_store (t := 3) (p := 16) rfl ?_); refine store_event (t := 3) (p := 16) (v := ?vo_w10) (w1 := (wr.setCell ⟨go5, (x5_1 : Int).toNat * 3, none⟩ (.int .i64 x1_1))) ?hg ?ho ?hn ?hr ?_; (case ho => rfl); (case hg => rfl); (case hn => rfl); (case hr => first | (go_simp; done) | (go_simp; rfl)); intro w10 hw; have hg : wr.grownBy w10 (some go5) := (by rw [hw]; exact HP9.2); have hp_ : Kd.R k70 70 w10 w0.heap.size (fun k_ => (P0_ k_ ∨ w.heap.size ≤ k_)) (.slice (some ⟨go5, 0, none⟩) x0_1.length co8) y403 := (by rw [hw, Ny403.out]; exact HP9.1); clear HP9; replace HK := Aside0.mk (Kept.of_grown (S := (fun k_ => P0_ k_)) hg (by repeat (first | (with_reducible first | exact HK.out | apply Kept.alloc | apply Kept.drewN | apply Kept.drew) | exact HK.out)) (fun k_ e_ => (HO_0.out.1 k_ e_))); replace HO_0 := Aside0.mk (hp_); replace HB := Aside0.mk ((by rw [hw]; exact below_set (HB.out) GB5.out : Below w0.heap.size w0 w10)); clear hg hw hp_; have p6 : 0 ≤ (x5_1 : Int) := of_decide_eq_true (by first | (with_reducible assumption) | assumption); have q6 : (x5_1 : Int) < ((x0_1.length : Int) : Int) := of_decide_eq_true (by first | (with_reducible assumption) | assumption); obtain ⟨ce6, hcl6, hM6, hcc6, hfr6⟩ := Kd.R_elem HO_0.out z70 (x5_1 : Int) p6 q6; obtain rfl := k70_openM hM6; have hx6_0 : w10.cell? ⟨go5, (x5_1 : Int).toNat * 3, none⟩ = some (.int .i64 ((rd_T70 y403 x5_1).f0)) := hcc6 0 _ rfl; have hx6_1 : w10.cell? ⟨go5, (x5_1 : Int).toNat * 3 + 1, none⟩ = some (.int .i64 ((rd_T70 y403 x5_1).f1)) := hcc6 1 _ rfl; have hx6_2 : w10.cell? ⟨go5, (x5_1 : Int).toNat * 3 + 2, none⟩ = some (.int .i64 ((rd_T70 y403 x5_1).f2)) := hcc6 2 _ rfl; have hf6_0 : w10.frozen? ⟨go5, (x5_1 : Int).toNat * 3, none⟩ = false := hfr6 0; have hf6_1 : w10.frozen? ⟨go5, (x5_1 : Int).toNat * 3 + 1, none⟩ = false := hfr6 1; have hf6_2 : w10.frozen? ⟨go5, (x5_1 : Int).toNat * 3 + 2, none⟩ = false := hfr6 2; clear hcl6 hcc6 hfr6 hM6; replace p6 := eq_true p6; replace q6 := eq_true q6; have HX11 := Aside0.mk (show Kd.R k70 70 w10 w0.heap.size (fun k_ => (P0_ k_ ∨ w.heap.size ≤ k_)) (.slice (some ⟨go5, 0, none⟩) x0_1.length co8) y403 from (rU HO_0)); obtain ⟨ce11, hcl11, hM11, hcc11, hfr11⟩ := Kd.R_elem HX11.out z70 (x5_1 : Int) (of_decide_eq_true (by first | (with_reducible assumption) | assumption)) (by have h_ : (x5_1 : Int) < ((x0_1.length : Int) : Int) := of_decide_eq_true (by first | (with_reducible assumption) | assumption); first | exact h_ | (have e_ := (Kd.R_reads' HO_0.out).1; omega) | simpa using h_); obtain rfl := k70_openM hM11; have HP11 := Kd.R_seg HX11.out (x5_1 : Int) (of_decide_eq_true (by first | (with_reducible assumption) | assumption)) (by have h_ : (x5_1 : Int) < ((x0_1.length : Int) : Int) := of_decide_eq_true (by first | (with_reducible assumption) | assumption); first | exact h_ | (have e_ := (Kd.R_reads' HO_0.out).1; omega) | simpa using h_) (seg := [.int .i64 (wrap64 (x1_1 + 1))]) (j := 1) hcl11 hcc11 (show 2 ≤ 3 from by decide) (x' := (⟨(rd_T70 y403 x5_1).f0, wrap64 (x1_1 + 1), (rd_T70 y403 x5_1).f2⟩ : S70)) (k70_mkM _ _ _ (⟨(rd_T70 y403 x5_1).f0, wrap64 (x1_1 + 1), (rd_T70 y403 x5_1).f2⟩ : S70) ) (fun _ hk => hk); have hx11_1 := hcc11 1 _ rfl; (try simp only [show (k70).sz = 3 from rfl, Nat.mul_one, Nat.add_zero] at hx11_1); have hf11_1 := hfr11 1; (try simp only [show (k70).sz = 3 from rfl, Nat.mul_one, Nat.add_zero] at hf11_1); clear hcl11 hcc11 hfr11 hM11) | ((with_reducible refine gate_store (t := 3) (p := 23) rfl ?_); refine store_event (t := 3) (p := 23) (v := ?vo_w12) (w1 := (w10.setCell ⟨go5, (x5_1 : Int).toNat * 3 + 1, none⟩ (.int .i64 (wrap64 (x1_1 + 1))))) ?hg ?ho ?hn ?hr ?_; (case ho => rfl); (case hg => rfl); (case hn => rfl); (case hr => first | (go_simp; done) | (go_simp; rfl)); intro w12 hw; have hg : w10.grownBy w12 (some go5) := (by rw [hw]; exact HP11.2); have hp_ : Kd.R k70 70 w12 w0.heap.size (fun k_ => (P0_ k_ ∨ w.heap.size ≤ k_)) (.slice (some ⟨go5, 0, none⟩) x0_1.length co8) y404 := (by rw [hw, Ny404.out]; exact HP11.1); clear HP11; replace HK := Aside0.mk (Kept.of_grown (S := (fun k_ => P0_ k_)) hg (by repeat (first | (with_reducible first | exact HK.out | apply Kept.alloc | apply Kept.drewN | apply Kept.drew) | exact HK.out)) (fun k_ e_ => (HO_0.out.1 k_ e_))); replace HO_0 := Aside0.mk (hp_); replace HB := Aside0.mk ((by rw [hw]; exact below_set (HB.out) GB5.out : Below w0.heap.size w0 w12)); clear hg hw hp_; have p7 : 0 ≤ (x5_1 : Int) := of_decide_eq_true (by first | (with_reducible assumption) | assumption); have q7 : (x5_1 : Int) < ((x0_1.length : Int) : Int) := of_decide_eq_true (by first | (with_reducible assumption) | assumption); obtain ⟨ce7, hcl7, hM7, hcc7, hfr7⟩ := Kd.R_elem HO_0.out z70 (x5_1 : Int) p7 q7; obtain rfl := k70_openM hM7; have hx7_0 : w12.cell? ⟨go5, (x5_1 : Int).toNat * 3, none⟩ = some (.int .i64 ((rd_T70 y404 x5_1).f0)) := hcc7 0 _ rfl; have hx7_1 : w12.cell? ⟨go5, (x5_1 : Int).toNat * 3 + 1, none⟩ = some (.int .i64 ((rd_T70 y404 x5_1).f1)) := hcc7 1 _ rfl; have hx7_2 : w12.cell? ⟨go5, (x5_1 : Int).toNat * 3 + 2, none⟩ = some (.int .i64 ((rd_T70 y404 x5_1).f2)) := hcc7 2 _ rfl; have hf7_0 : w12.frozen? ⟨go5, (x5_1 : Int).toNat * 3, none⟩ = false := hfr7 0; have hf7_1 : w12.frozen? ⟨go5, (x5_1 : Int).toNat * 3 + 1, none⟩ = false := hfr7 1; have hf7_2 : w12.frozen? ⟨go5, (x5_1 : Int).toNat * 3 + 2, none⟩ = false := hfr7 2; clear hcl7 hcc7 hfr7 hM7; replace p7 := eq_true p7; replace q7 := eq_true q7; have HX13 := Aside0.mk (show Kd.R k70 70 w12 w0.heap.size (fun k_ => (P0_ k_ ∨ w.heap.size ≤ k_)) (.slice (some ⟨go5, 0, none⟩) x0_1.length co8) y404 from (rU HO_0)); obtain ⟨ce13, hcl13, hM13, hcc13, hfr13⟩ := Kd.R_elem HX13.out z70 (x5_1 : Int) (of_decide_eq_true (by first | (with_reducible assumption) | assumption)) (by have h_ : (x5_1 : Int) < ((x0_1.length : Int) : Int) := of_decide_eq_true (by first | (with_reducible assumption) | assumption); first | exact h_ | (have e_ := (Kd.R_reads' HO_0.out).1; omega) | simpa using h_); obtain rfl := k70_openM hM13; have HP13 := Kd.R_seg HX13.out (x5_1 : Int) (of_decide_eq_true (by first | (with_reducible assumption) | assumption)) (by have h_ : (x5_1 : Int) < ((x0_1.length : Int) : Int) := of_decide_eq_true (by first | (with_reducible assumption) | assumption); first | exact h_ | (have e_ := (Kd.R_reads' HO_0.out).1; omega) | simpa using h_) (seg := [.int .i64 (wrap64 ((wrap64 (x1_1 + 1)) + 1))]) (j := 2) hcl13 hcc13 (show 3 ≤ 3 from by decide) (x' := (⟨(rd_T70 y404 x5_1).f0, (rd_T70 y404 x5_1).f1, wrap64 ((wrap64 (x1_1 + 1)) + 1)⟩ : S70)) (k70_mkM _ _ _ (⟨(rd_T70 y404 x5_1).f0, (rd_T70 y404 x5_1).f1, wrap64 ((wrap64 (x1_1 + 1)) + 1)⟩ : S70) ) (fun _ hk => hk); have hx13_2 := hcc13 2 _ rfl; (try simp only [show (k70).sz = 3 from rfl, Nat.mul_one, Nat.add_zero] at hx13_2); have hf13_2 := hfr13 2; (try simp only [show (k70).sz = 3 from rfl, Nat.mul_one, Nat.add_zero] at hf13_2); clear hcl13 hcc13 hfr13 hM13) | ((with_reducible refine gate_store (t := 3) (p := 30) rfl ?_); refine store_event (t := 3) (p := 30) (v := ?vo_w14) (w1 := (w12.setCell ⟨go5, (x5_1 : Int).toNat * 3 + 2, none⟩ (.int .i64 (wrap64 ((wrap64 (x1_1 + 1)) + 1))))) ?hg ?ho ?hn ?hr ?_; (case ho => rfl); (case hg => rfl); (case hn => rfl); (case hr => first | (go_simp; done) | (go_simp; rfl)); intro w14 hw; have hg : w12.grownBy w14 (some go5) := (by rw [hw]; exact HP13.2); have hp_ : Kd.R k70 70 w14 w0.heap.size (fun k_ => (P0_ k_ ∨ w.heap.size ≤ k_)) (.slice (some ⟨go5, 0, none⟩) x0_1.length co8) y405 := (by rw [hw, Ny405.out]; exact HP13.1); clear HP13; replace HK := Aside0.mk (Kept.of_grown (S := (fun k_ => P0_ k_)) hg (by repeat (first | (with_reducible first | exact HK.out | apply Kept.alloc | apply Kept.drewN | apply Kept.drew) | exact HK.out)) (fun k_ e_ => (HO_0.out.1 k_ e_))); replace HO_0 := Aside0.mk (hp_); replace HB := Aside0.mk ((by rw [hw]; exact below_set (HB.out) GB5.out : Below w0.heap.size w0 w14)); clear hg hw hp_))
     go_roundg k1
     case measure => have := HK1.out; omega
     case rel => exact ⟨(y405), (wrap64 ((wrap64 ((wrap64 (x1_1 + 1)) + 1)) + 1)), (wrap64 (x5_1 + 1)), (by first | rfl | (simp; done) | (simp [*]; done)), (by first | rfl | (simp; done) | (simp [*]; done)), H', ⟨by have := HK1.out; omega⟩, ⟨rU HO_0⟩, ⟨by repeat (first | (with_reducible first | exact HK.out | apply Kept.alloc | apply Kept.drewN | apply Kept.drew) | exact HK.out)⟩, ⟨hB⟩⟩
    ·rw [if_neg c4] at H
     exact absurd H (by simp)
   ·rw [if_neg c3] at H
    have c3b0 : decide (x5_1 < (x0_1.length : Int)) = false := decide_eq_false c3
    clear c3
    simp only [Option.some.injEq, Prod.mk.injEq] at H
    obtain ⟨rfl, rfl⟩ := H
    obtain ⟨Ao15, co15, eo15⟩ := Kd.R_slice HO_0.out
    subst eo15
    go_wp2
    go_ret
    exact ⟨by first | rfl | (simp [errW_none, errW_some] <;> rfl) | (simp [*, errW_none, errW_some] <;> rfl), rU HO_0, hB, by repeat (first | (with_reducible first | exact HK.out | apply Kept.alloc | apply Kept.drewN | apply Kept.drew) | exact HK.out)⟩

/-! ### laws_markPuzzle: function 19 -/
def laws_markPuzzle.f (k : Nat) (a0_0 : Int) (l0_1 : List (S70)) (a1 : Int) : Option (Int × (List (S70))) := (laws_markClueS.f k l0_1 a1).bind fun bt407 => (some (bt407.1, bt407.2))
theorem laws_markPuzzle.mono : ∀ a0 a1 a2 k, LeO (laws_markPuzzle.f k a0 a1 a2) (laws_markPuzzle.f (k + 1) a0 a1 a2) := by
 intro a0 a1 a2 k
 unfold laws_markPuzzle.f
 repeat' first
   | (with_reducible exact laws_markClueS.mono _ _ _)
   | (with_reducible exact LeO.refl _)
   | (with_reducible exact LeO.none _)
   | (with_reducible refine LeO.ite ?_ ?_)
   | (with_reducible refine LeO.bind ?_ (fun _ => ?_))
   | exact laws_markClueS.mono _ _ _
   | exact LeO.none _
   | refine LeO.ite ?_ ?_
   | refine LeO.bind ?_ (fun _ => ?_)
set_option maxHeartbeats 8000000 in
set_option maxRecDepth 100000 in
theorem laws_markPuzzle.calls (k : Nat) (a0_0 : Int) (P0_1_ : Nat → Prop) (u9000_ : Value) (l0_1 : List (S70)) (a1 : Int) (r1 : Int) (r2 : List (S70)) (w0 w : World) (hB : Below w0.heap.size w0 w) (ho0_1 : Kd.R k70 70 w w0.heap.size P0_1_ u9000_ l0_1) (h : laws_markPuzzle.f k a0_0 l0_1 a1 = some (r1, r2)) :
  Calls Tryd.prog 19 #[.agg #[.int .i64 a0_0, u9000_], .int .i64 a1] w fun e w' => e = .returned (.int .i64 r1) ∧ Kd.R k70 70 w' w0.heap.size (fun k_ => (P0_1_ k_ ∨ w.heap.size ≤ k_)) u9000_ r2 ∧ Below w0.heap.size w0 w' ∧ Kept w w' (fun k_ => P0_1_ k_) := by
 have hu28 := Tryd.underlying28
 have HO0_1 := Aside0.mk (show Kd.R k70 70 w w0.heap.size (fun k_ => (P0_1_ k_ ∨ w.heap.size ≤ k_)) u9000_ l0_1 from Kd.R_mono ho0_1 (fun k_ hk => (.inl hk)))
 have HK := Aside0.mk (Kept.refl w (fun k_ => P0_1_ k_))
 have HW0 := Aside0.mk hB.size
 have HB := Aside0.mk hB
 clear hB
 have H : ((laws_markClueS.f k l0_1 a1).bind fun bt407 => (some (bt407.1, bt407.2))) = some (r1, r2) := h
 clear h
 replace H := Option.bind_eq_some_iff.mp H
 obtain ⟨⟨t407, t408⟩, A30, H⟩ := H
 replace H : (some (t407, t408)) = some (r1, r2) := H
 have A3 := Aside0.mk A30
 clear A30
 simp only [Option.some.injEq, Prod.mk.injEq] at H
 obtain ⟨rfl, rfl⟩ := H
 obtain ⟨Ao4, co4, eo4⟩ := Kd.R_slice HO0_1.out
 subst eo4
 go_enter Tryd.func19, Tryd.ntmps19
 go_wp2_with (first | ((with_reducible refine gate_dst (N := 2) rfl ?_); refine bxE 2 #[.int .i64 a0_0, .slice Ao4 l0_1.length co4] 28 rfl ?_; intro gb406 hg w5 hbox hb; have BK406 := Aside0.mk (hbox); have GW406 := Aside0.mk ((by rw [hg]; exact (by first | exact HK.out.1 | exact (show Kept w _ (fun k_ => P0_1_ k_) from by repeat (first | (with_reducible first | exact HK.out | apply Kept.alloc | apply Kept.drewN | apply Kept.drew) | exact HK.out)).1) : w.heap.size ≤ gb406)); have GE406 := Aside0.mk ((by rw [hg]; exact (below_size hB) : w0.heap.size ≤ gb406)); replace HO0_1 := Aside0.mk (Kd.R_below (by (with_reducible repeat (first | apply Kd.R_alloc | apply Kd.R_drewN | apply Kd.R_drew)); exact HO0_1.out) hb); replace HK := Aside0.mk (Kept.below (S := (fun k_ => P0_1_ k_)) (by repeat (first | (with_reducible first | exact HK.out | apply Kept.alloc | apply Kept.drewN | apply Kept.drew) | exact HK.out)) hb); replace HB := hS HB hb; clear hb hbox hg; have hcz6_0 := cz BK406 0; have hcz6_1 := cz BK406 1; have hfz6_0 := fz BK406 0; have hfz6_1 := fz BK406 1) | ((with_reducible refine gate_callee (f := 67) rfl ?_); refine goC (N := some 8) Tryd.func67 #[.slice Ao4 l0_1.length co4, .int .i64 a1] rfl ?_; (with_reducible refine (laws_markClueS.calls k (fun k_ => some k_ = (.slice Ao4 l0_1.length co4 : Value).ownBlock) (.slice Ao4 l0_1.length co4) l0_1 a1 t407 t408 w0 _ ?side1 ?side2 A3.out).mono ?_); (case side1 => repeat (first | (with_reducible first | exact HB.out | apply below_alloc | apply pw_below_drewN | apply below_drew1 | refine below_set ?_ GE406.out) | exact HB.out)); (case side2 => exact Kd.R_tight rfl HO0_1.out); rintro e w7 ⟨rfl, hy0, hb, hkp⟩; refine ⟨_, rfl, ?_⟩; replace BK406 := Aside0.mk (blk_kept bK hkp (fun hs_ => (fun e_ => (Kd.R_ne HO0_1.out BK406.out (by decide)) e_) hs_)); replace HK := Aside0.mk (Kept.then_ (S := (fun k_ => P0_1_ k_)) (by repeat (first | (with_reducible first | exact HK.out | apply Kept.alloc | apply Kept.drewN | apply Kept.drew | refine Kept.setCell ?_ (.inr GW406.out) _) | exact HK.out)) hkp (fun k_ hs_ => (fun e_ => (HO0_1.out.1 k_ e_.symm)) hs_)); replace HO0_1 := Aside0.mk (Kd.R_reok rfl hy0 (fun k_ e_ => HO0_1.out.1 k_ e_)); replace HB := Aside0.mk (hb); (try clear hb); (try clear hkp); (try clear hy0)))
 go_ret
 exact ⟨by first | rfl | (simp [errW_none, errW_some] <;> rfl) | (simp [*, errW_none, errW_some] <;> rfl), by (with_reducible repeat (first | apply Kd.R_alloc | apply Kd.R_drewN | apply Kd.R_drew)); exact HO0_1.out, hB, by repeat (first | (with_reducible first | exact HK.out | apply Kept.alloc | apply Kept.drewN | apply Kept.drew | refine Kept.setCell ?_ (.inr GW406.out) _) | exact HK.out)⟩

/-! ### laws_heldClueS: function 68 -/
def laws_heldClueS.l0 : Nat → List (S70) → Int → Int → Option (Int)
 | 0, _, _, _ => none
 | k + 1, x0, x1, x5 => if x5 < (x0.length : Int) then (if 0 ≤ x5 then (if ((rd_T70 x0 x5).f0) = x1 then (if ((rd_T70 x0 x5).f1) = (wrap64 (x1 + 1)) then (if ((rd_T70 x0 x5).f2) = (wrap64 ((wrap64 (x1 + 1)) + 1)) then (laws_heldClueS.l0 k x0 (wrap64 ((wrap64 ((wrap64 (x1 + 1)) + 1)) + 1)) (wrap64 (x5 + 1))) else (some (-1))) else (some (-1))) else (some (-1))) else (none)) else (some x1)
def laws_heldClueS.f (k : Nat) (l0 : List (S70)) (a1 : Int) : Option (Int) := laws_heldClueS.l0 k l0 a1 0
theorem laws_heldClueS.mono_l : ∀ k, (∀ y0 y1 y2, LeO (laws_heldClueS.l0 k y0 y1 y2) (laws_heldClueS.l0 (k + 1) y0 y1 y2))
 | 0 => fun _ _ _ r h => by simp [laws_heldClueS.l0] at h
 | k + 1 => by
  have ih0 := laws_heldClueS.mono_l k
  ·intro y0 y1 y2
   unfold laws_heldClueS.l0
   repeat' first
   | (with_reducible exact ih0 _ _ _)
   | (with_reducible exact LeO.refl _)
   | (with_reducible exact LeO.none _)
   | (with_reducible refine LeO.ite ?_ ?_)
   | (with_reducible refine LeO.bind ?_ (fun _ => ?_))
   | exact ih0 _ _ _
   | exact LeO.none _
   | refine LeO.ite ?_ ?_
   | refine LeO.bind ?_ (fun _ => ?_)
theorem laws_heldClueS.mono : ∀ a0 a1 k, LeO (laws_heldClueS.f k a0 a1) (laws_heldClueS.f (k + 1) a0 a1) := by
 intro a0 a1 k
 have ih0 := laws_heldClueS.mono_l k
 unfold laws_heldClueS.f
 repeat' first
   | (with_reducible exact ih0 _ _ _)
   | (with_reducible exact LeO.refl _)
   | (with_reducible exact LeO.none _)
   | (with_reducible refine LeO.ite ?_ ?_)
   | (with_reducible refine LeO.bind ?_ (fun _ => ?_))
   | exact ih0 _ _ _
   | exact LeO.none _
   | refine LeO.ite ?_ ?_
   | refine LeO.bind ?_ (fun _ => ?_)
set_option maxHeartbeats 8000000 in
set_option maxRecDepth 100000 in
theorem laws_heldClueS.calls (k : Nat) (A0 : Option Addr) (c0 : Nat) (l0 : List (S70)) (a1 : Int) (r : Int) (w : World) (hr0 : Kd.C k70 w A0 l0.length l0) (hc0 : l0.length ≤ c0) (h : laws_heldClueS.f k l0 a1 = some r) :
  Calls Tryd.prog 68 #[.slice A0 l0.length c0, .int .i64 a1] w fun e w' => e = .returned (.int .i64 r) ∧ Drawn0 w w' := by
 have HR0 := Aside0.mk hr0
 have HC0 := Aside0.mk hc0
 clear hr0 hc0
 have H : (laws_heldClueS.l0 k l0 a1 0) = some r := h
 clear h
 have H' := Aside0.mk H
 clear H
 go_enter Tryd.func68, Tryd.ntmps68
 go_wp2
 go_loopg [1, 5] k (fun kq v1 v5 w' => ∃ (x1_1 : Int) (x5_1 : Int), v1 = .int .i64 x1_1 ∧ v5 = .int .i64 x5_1 ∧ Aside0 (laws_heldClueS.l0 kq l0 x1_1 x5_1 = some r) ∧ Aside0 (kq ≤ k) ∧ Drawn0 w w')
 case atStart => exact ⟨(a1), (0), (by first | rfl | (simp; done) | (simp [*]; done)), (by first | rfl | (simp; done) | (simp [*]; done)), H', ⟨Nat.le_refl _⟩, by repeat (first | exact Drawn0.refl _ | apply Drawn0.step)⟩
 case round =>
  clear H'
  try clear p2
  obtain ⟨x1_1, x5_1, rfl, rfl, HA, HK1, ⟨m1, rfl⟩⟩ := hrel
  cases gk with
  | zero => exact absurd HA.out (by simp [laws_heldClueS.l0])
  | succ k1 =>
   have H := HA.out
   clear HA
   simp only [laws_heldClueS.l0] at H
   by_cases c3 : x5_1 < (l0.length : Int)
   ·rw [if_pos c3] at H
    have c3b0 : decide (x5_1 < (l0.length : Int)) = true := decide_eq_true c3
    clear c3
    by_cases c4 : 0 ≤ x5_1
    ·rw [if_pos c4] at H
     have c4b0 : decide (0 ≤ x5_1) = true := decide_eq_true c4
     clear c4
     by_cases c5 : ((rd_T70 l0 x5_1).f0) = x1_1
     ·rw [if_pos c5] at H
      have c5b0 : (((rd_T70 l0 x5_1).f0) == x1_1) = true := beq_iff_eq.mpr c5
      have c5b1 : (((rd_T70 l0 x5_1).f0) != x1_1) = false := bne_eq_false_iff_eq.mpr c5
      clear c5
      by_cases c6 : ((rd_T70 l0 x5_1).f1) = (wrap64 (x1_1 + 1))
      ·rw [if_pos c6] at H
       have c6b0 : (((rd_T70 l0 x5_1).f1) == (wrap64 (x1_1 + 1))) = true := beq_iff_eq.mpr c6
       have c6b1 : (((rd_T70 l0 x5_1).f1) != (wrap64 (x1_1 + 1))) = false := bne_eq_false_iff_eq.mpr c6
       clear c6
       by_cases c7 : ((rd_T70 l0 x5_1).f2) = (wrap64 ((wrap64 (x1_1 + 1)) + 1))
       ·rw [if_pos c7] at H
        have c7b0 : (((rd_T70 l0 x5_1).f2) == (wrap64 ((wrap64 (x1_1 + 1)) + 1))) = true := beq_iff_eq.mpr c7
        have c7b1 : (((rd_T70 l0 x5_1).f2) != (wrap64 ((wrap64 (x1_1 + 1)) + 1))) = false := bne_eq_false_iff_eq.mpr c7
        clear c7
        have H' := Aside0.mk H
        clear H
        have p409 : 0 ≤ (x5_1 : Int) := of_decide_eq_true (by first | (with_reducible assumption) | assumption)
        have q409 : x5_1 < (l0.length : Int) := of_decide_eq_true (by first | (with_reducible assumption) | assumption)
        obtain ⟨ad409, e409, hx409_0, hx409_1, hx409_2⟩ := at_T70 HR0.out x5_1 p409 q409
        cases e409
        replace p409 := eq_true p409
        replace q409 := eq_true q409
        have p410 : 0 ≤ (x5_1 : Int) := of_decide_eq_true (by first | (with_reducible assumption) | assumption)
        have q410 : x5_1 < (l0.length : Int) := of_decide_eq_true (by first | (with_reducible assumption) | assumption)
        obtain ⟨ad410, e410, hx410_0, hx410_1, hx410_2⟩ := at_T70 HR0.out x5_1 p410 q410
        obtain rfl : ad409 = ad410 := (by injection e410)
        replace p410 := eq_true p410
        replace q410 := eq_true q410
        have p411 : 0 ≤ (x5_1 : Int) := of_decide_eq_true (by first | (with_reducible assumption) | assumption)
        have q411 : x5_1 < (l0.length : Int) := of_decide_eq_true (by first | (with_reducible assumption) | assumption)
        obtain ⟨ad411, e411, hx411_0, hx411_1, hx411_2⟩ := at_T70 HR0.out x5_1 p411 q411
        obtain rfl : ad409 = ad411 := (by injection e411)
        replace p411 := eq_true p411
        replace q411 := eq_true q411
        go_wp2
        go_roundg k1
        case measure => have := HK1.out; omega
        case rel => exact ⟨(wrap64 ((wrap64 ((wrap64 (x1_1 + 1)) + 1)) + 1)), (wrap64 (x5_1 + 1)), (by first | rfl | (simp; done) | (simp [*]; done)), (by first | rfl | (simp; done) | (simp [*]; done)), H', ⟨by have := HK1.out; omega⟩, by repeat (first | exact Drawn0.refl _ | apply Drawn0.step)⟩
       ·rw [if_neg c7] at H
        have c7b0 : (((rd_T70 l0 x5_1).f2) == (wrap64 ((wrap64 (x1_1 + 1)) + 1))) = false := beq_eq_false_iff_ne.mpr c7
        have c7b1 : (((rd_T70 l0 x5_1).f2) != (wrap64 ((wrap64 (x1_1 + 1)) + 1))) = true := bne_iff_ne.mpr c7
        obtain rfl := Option.some.inj H
        have p409 : 0 ≤ (x5_1 : Int) := of_decide_eq_true (by first | (with_reducible assumption) | assumption)
        have q409 : x5_1 < (l0.length : Int) := of_decide_eq_true (by first | (with_reducible assumption) | assumption)
        obtain ⟨ad409, e409, hx409_0, hx409_1, hx409_2⟩ := at_T70 HR0.out x5_1 p409 q409
        cases e409
        replace p409 := eq_true p409
        replace q409 := eq_true q409
        have p410 : 0 ≤ (x5_1 : Int) := of_decide_eq_true (by first | (with_reducible assumption) | assumption)
        have q410 : x5_1 < (l0.length : Int) := of_decide_eq_true (by first | (with_reducible assumption) | assumption)
        obtain ⟨ad410, e410, hx410_0, hx410_1, hx410_2⟩ := at_T70 HR0.out x5_1 p410 q410
        obtain rfl : ad409 = ad410 := (by injection e410)
        replace p410 := eq_true p410
        replace q410 := eq_true q410
        have p411 : 0 ≤ (x5_1 : Int) := of_decide_eq_true (by first | (with_reducible assumption) | assumption)
        have q411 : x5_1 < (l0.length : Int) := of_decide_eq_true (by first | (with_reducible assumption) | assumption)
        obtain ⟨ad411, e411, hx411_0, hx411_1, hx411_2⟩ := at_T70 HR0.out x5_1 p411 q411
        obtain rfl : ad409 = ad411 := (by injection e411)
        replace p411 := eq_true p411
        replace q411 := eq_true q411
        go_wp2
        go_ret
        exact ⟨by first | rfl | (simp; done) | (simp [*]; done), by repeat (first | exact Drawn0.refl _ | apply Drawn0.step)⟩
      ·rw [if_neg c6] at H
       have c6b0 : (((rd_T70 l0 x5_1).f1) == (wrap64 (x1_1 + 1))) = false := beq_eq_false_iff_ne.mpr c6
       have c6b1 : (((rd_T70 l0 x5_1).f1) != (wrap64 (x1_1 + 1))) = true := bne_iff_ne.mpr c6
       obtain rfl := Option.some.inj H
       have p409 : 0 ≤ (x5_1 : Int) := of_decide_eq_true (by first | (with_reducible assumption) | assumption)
       have q409 : x5_1 < (l0.length : Int) := of_decide_eq_true (by first | (with_reducible assumption) | assumption)
       obtain ⟨ad409, e409, hx409_0, hx409_1, hx409_2⟩ := at_T70 HR0.out x5_1 p409 q409
       cases e409
       replace p409 := eq_true p409
       replace q409 := eq_true q409
       have p410 : 0 ≤ (x5_1 : Int) := of_decide_eq_true (by first | (with_reducible assumption) | assumption)
       have q410 : x5_1 < (l0.length : Int) := of_decide_eq_true (by first | (with_reducible assumption) | assumption)
       obtain ⟨ad410, e410, hx410_0, hx410_1, hx410_2⟩ := at_T70 HR0.out x5_1 p410 q410
       obtain rfl : ad409 = ad410 := (by injection e410)
       replace p410 := eq_true p410
       replace q410 := eq_true q410
       go_wp2
       go_ret
       exact ⟨by first | rfl | (simp; done) | (simp [*]; done), by repeat (first | exact Drawn0.refl _ | apply Drawn0.step)⟩
     ·rw [if_neg c5] at H
      have c5b0 : (((rd_T70 l0 x5_1).f0) == x1_1) = false := beq_eq_false_iff_ne.mpr c5
      have c5b1 : (((rd_T70 l0 x5_1).f0) != x1_1) = true := bne_iff_ne.mpr c5
      obtain rfl := Option.some.inj H
      have p409 : 0 ≤ (x5_1 : Int) := of_decide_eq_true (by first | (with_reducible assumption) | assumption)
      have q409 : x5_1 < (l0.length : Int) := of_decide_eq_true (by first | (with_reducible assumption) | assumption)
      obtain ⟨ad409, e409, hx409_0, hx409_1, hx409_2⟩ := at_T70 HR0.out x5_1 p409 q409
      cases e409
      replace p409 := eq_true p409
      replace q409 := eq_true q409
      go_wp2
      go_ret
      exact ⟨by first | rfl | (simp; done) | (simp [*]; done), by repeat (first | exact Drawn0.refl _ | apply Drawn0.step)⟩
    ·rw [if_neg c4] at H
     exact absurd H (by simp)
   ·rw [if_neg c3] at H
    have c3b0 : decide (x5_1 < (l0.length : Int)) = false := decide_eq_false c3
    clear c3
    obtain rfl := Option.some.inj H
    go_wp2
    go_ret
    exact ⟨by first | rfl | (simp; done) | (simp [*]; done), by repeat (first | exact Drawn0.refl _ | apply Drawn0.step)⟩

/-! ### laws_heldPuzzle: function 20 -/
def laws_heldPuzzle.f (k : Nat) (a0_0 : Int) (l0_1 : List (S70)) (a1 : Int) : Option (Int) := (laws_heldClueS.f k l0_1 a1).bind fun t413 => (if t413 < 0 then (some (-1)) else (some t413))
theorem laws_heldPuzzle.mono : ∀ a0 a1 a2 k, LeO (laws_heldPuzzle.f k a0 a1 a2) (laws_heldPuzzle.f (k + 1) a0 a1 a2) := by
 intro a0 a1 a2 k
 unfold laws_heldPuzzle.f
 repeat' first
   | (with_reducible exact laws_heldClueS.mono _ _ _)
   | (with_reducible exact LeO.refl _)
   | (with_reducible exact LeO.none _)
   | (with_reducible refine LeO.ite ?_ ?_)
   | (with_reducible refine LeO.bind ?_ (fun _ => ?_))
   | exact laws_heldClueS.mono _ _ _
   | exact LeO.none _
   | refine LeO.ite ?_ ?_
   | refine LeO.bind ?_ (fun _ => ?_)
set_option maxHeartbeats 8000000 in
set_option maxRecDepth 100000 in
theorem laws_heldPuzzle.calls (k : Nat) (a0_0 : Int) (A0_1 : Option Addr) (c0_1 : Nat) (l0_1 : List (S70)) (a1 : Int) (r : Int) (w : World) (hr0_1 : Kd.C k70 w A0_1 l0_1.length l0_1) (hc0_1 : l0_1.length ≤ c0_1) (h : laws_heldPuzzle.f k a0_0 l0_1 a1 = some r) :
  Calls Tryd.prog 20 #[.agg #[.int .i64 a0_0, .slice A0_1 l0_1.length c0_1], .int .i64 a1] w fun e w' => e = .returned (.int .i64 r) ∧ Below w.heap.size w w' := by
 have hu28 := Tryd.underlying28
 have HR0_1 := Aside0.mk hr0_1
 have HC0_1 := Aside0.mk hc0_1
 clear hr0_1 hc0_1
 have HB := Aside0.mk (Below.refl w.heap.size w)
 have H : ((laws_heldClueS.f k l0_1 a1).bind fun t413 => (if t413 < 0 then (some (-1)) else (some t413))) = some r := h
 clear h
 replace H := Option.bind_eq_some_iff.mp H
 obtain ⟨t413, A30, H⟩ := H
 try dsimp only at H
 have A3 := Aside0.mk A30
 clear A30
 by_cases c4 : t413 < 0
 ·rw [if_pos c4] at H
  have c4b0 : decide (t413 < 0) = true := decide_eq_true c4
  clear c4
  obtain rfl := Option.some.inj H
  go_enter Tryd.func20, Tryd.ntmps20
  go_wp2_with (first | ((with_reducible refine gate_dst (N := 2) rfl ?_); refine bxE 2 #[.int .i64 a0_0, .slice A0_1 l0_1.length c0_1] 28 rfl ?_; intro gb412 hg w5 hbox hb; have BK412 := Aside0.mk (hbox); have GW412 := gS HB hg; have GE412 := gS HB hg; replace HB := hS HB hb; clear hb hbox hg; have hcz6_0 := cz BK412 0; have hcz6_1 := cz BK412 1; have hfz6_0 := fz BK412 0; have hfz6_1 := fz BK412 1) | ((with_reducible refine gate_callee (f := 68) rfl ?_); refine goC (N := some 8) Tryd.func68 #[.slice A0_1 l0_1.length c0_1, .int .i64 a1] rfl ?_; (with_reducible refine (laws_heldClueS.calls k _ _ l0_1 a1 t413 _ ?side1 ?side2 A3.out).mono ?_); (case side1 => exact cS (Kd.C_below HR0_1.out HB.out)); (case side2 => exact HC0_1.out); rintro e w' ⟨rfl, ⟨nd, rfl⟩⟩; refine ⟨_, rfl, ?_⟩))
  go_ret
  exact ⟨by first | rfl | (simp [errW_none, errW_some] <;> rfl) | (simp [*, errW_none, errW_some] <;> rfl), hB⟩
 ·rw [if_neg c4] at H
  have c4b0 : decide (t413 < 0) = false := decide_eq_false c4
  clear c4
  obtain rfl := Option.some.inj H
  go_enter Tryd.func20, Tryd.ntmps20
  go_wp2_with (first | ((with_reducible refine gate_dst (N := 2) rfl ?_); refine bxE 2 #[.int .i64 a0_0, .slice A0_1 l0_1.length c0_1] 28 rfl ?_; intro gb412 hg w7 hbox hb; have BK412 := Aside0.mk (hbox); have GW412 := gS HB hg; have GE412 := gS HB hg; replace HB := hS HB hb; clear hb hbox hg; have hcz8_0 := cz BK412 0; have hcz8_1 := cz BK412 1; have hfz8_0 := fz BK412 0; have hfz8_1 := fz BK412 1) | ((with_reducible refine gate_callee (f := 68) rfl ?_); refine goC (N := some 8) Tryd.func68 #[.slice A0_1 l0_1.length c0_1, .int .i64 a1] rfl ?_; (with_reducible refine (laws_heldClueS.calls k _ _ l0_1 a1 t413 _ ?side1 ?side2 A3.out).mono ?_); (case side1 => exact cS (Kd.C_below HR0_1.out HB.out)); (case side2 => exact HC0_1.out); rintro e w' ⟨rfl, ⟨nd, rfl⟩⟩; refine ⟨_, rfl, ?_⟩))
  go_ret
  exact ⟨by first | rfl | (simp [errW_none, errW_some] <;> rfl) | (simp [*, errW_none, errW_some] <;> rfl), hB⟩

/-! ### laws_FnExactMakePuzzle: function 3 -/
def laws_FnExactMakePuzzle.f (k : Nat) (a0_0 : Int) (l0_1 : List (S118)) (a1 : Int) (a2 : Int) : Option (Bool) := (laws_szParty.f a0_0 l0_1 1048576).bind fun t415 => (if t415 < 0 then (some true) else ((laws_toParty.f k a0_0 l0_1).bind fun bt416 => ((spec_MakePuzzle.f k bt416.1 bt416.2 a1 a2).bind fun bt420 => ((laws_toParty.f k a0_0 l0_1).bind fun bt426 => ((impl_MakePuzzle.f k bt426.1 bt426.2 a1 a2).bind fun bt431 => ((laws_eqPuzzle.f k bt431.1 bt431.2.1 bt420.1 bt420.2.1).bind fun t437 => (if t437 = true then (if (bt431.2.2 != bt420.2.2) = true then (none) else ((laws_toParty.f k a0_0 l0_1).bind fun bt438 => ((laws_eqParty.f k bt426.1 bt426.2 bt438.1 bt438.2).bind fun t442 => (if t442 = true then ((laws_markParty.f k bt426.1 bt426.2 1).bind fun bt443 => (if bt443.1 < 0 then (none) else ((laws_eqPuzzle.f k bt431.1 bt431.2.1 bt420.1 bt420.2.1).bind fun t445 => (if t445 = true then ((laws_markPuzzle.f k bt431.1 bt431.2.1 1).bind fun bt446 => ((laws_heldPuzzle.f k bt431.1 bt446.2 1).bind fun t448 => (if t448 < 0 then (none) else (if t448 = bt446.1 then ((laws_toParty.f k a0_0 l0_1).bind fun bt449 => ((impl_MakePuzzle.f k bt449.1 bt449.2 a1 a2).bind fun bt453 => ((laws_eqPuzzle.f k bt453.1 bt453.2.1 bt420.1 bt420.2.1).bind fun t459 => (if t459 = true then (if (bt453.2.2 != bt420.2.2) = true then (none) else ((laws_heldPuzzle.f k bt431.1 bt446.2 1).bind fun t460 => (if t460 < 0 then (none) else (if t460 = bt446.1 then (some true) else (none))))) else (none))))) else (none))))) else (none))))) else (none))))) else (none))))))))
theorem laws_FnExactMakePuzzle.mono : ∀ a0 a1 a2 a3 k, LeO (laws_FnExactMakePuzzle.f k a0 a1 a2 a3) (laws_FnExactMakePuzzle.f (k + 1) a0 a1 a2 a3) := by
 intro a0 a1 a2 a3 k
 unfold laws_FnExactMakePuzzle.f
 repeat' first
   | (with_reducible exact impl_MakePuzzle.mono _ _ _ _ _)
   | (with_reducible exact laws_eqParty.mono _ _ _ _ _)
   | (with_reducible exact laws_eqPuzzle.mono _ _ _ _ _)
   | (with_reducible exact laws_heldPuzzle.mono _ _ _ _)
   | (with_reducible exact laws_markParty.mono _ _ _ _)
   | (with_reducible exact laws_markPuzzle.mono _ _ _ _)
   | (with_reducible exact laws_toParty.mono _ _ _)
   | (with_reducible exact spec_MakePuzzle.mono _ _ _ _ _)
   | (with_reducible exact LeO.refl _)
   | (with_reducible exact LeO.none _)
   | (with_reducible refine LeO.ite ?_ ?_)
   | (with_reducible refine LeO.bind ?_ (fun _ => ?_))
   | exact impl_MakePuzzle.mono _ _ _ _ _
   | exact laws_eqParty.mono _ _ _ _ _
   | exact laws_eqPuzzle.mono _ _ _ _ _
   | exact laws_heldPuzzle.mono _ _ _ _
   | exact laws_markParty.mono _ _ _ _
   | exact laws_markPuzzle.mono _ _ _ _
   | exact laws_toParty.mono _ _ _
   | exact spec_MakePuzzle.mono _ _ _ _ _
   | exact LeO.none _
   | refine LeO.ite ?_ ?_
   | refine LeO.bind ?_ (fun _ => ?_)
set_option maxHeartbeats 8000000 in
set_option maxRecDepth 100000 in
theorem laws_FnExactMakePuzzle.calls (k : Nat) (a0_0 : Int) (A0_1 : Option Addr) (c0_1 : Nat) (l0_1 : List (S118)) (a1 : Int) (a2 : Int) (r : Bool) (w : World) (hr0_1 : Kd.C k118 w A0_1 l0_1.length l0_1) (hc0_1 : l0_1.length ≤ c0_1) (h : laws_FnExactMakePuzzle.f k a0_0 l0_1 a1 a2 = some r) (hG : GTab 0 w := by first | exact Aside0.out ‹Aside0 (GTab _ _)› | exact GTab.up (Aside0.out ‹Aside0 (GTab _ _)›) (by repeat (first | (with_reducible first | exact Below.refl _ _ | exact Aside0.out ‹Aside0 (Below _ _ _)› | apply below_alloc | apply pw_below_drewN | apply below_drew1 | refine below_set ?_ (Aside0.out (by assumption))) | exact Aside0.out ‹Aside0 (Below _ _ _)›))) :
  Calls Tryd.prog 3 #[.agg #[.int .i64 a0_0, .slice A0_1 l0_1.length c0_1], .int .i64 a1, .int .i64 a2] w fun e w' => e = .returned (.bool r) ∧ Below w.heap.size w w' := by
 have hu24 := Tryd.underlying24
 have hu28 := Tryd.underlying28
 have hu33 := Tryd.underlying33
 have HG := Aside0.mk (p := GTab _ _) hG
 clear hG
 have HR0_1 := Aside0.mk hr0_1
 have HC0_1 := Aside0.mk hc0_1
 clear hr0_1 hc0_1
 have HB := Aside0.mk (Below.refl w.heap.size w)
 have H : ((laws_szParty.f a0_0 l0_1 1048576).bind fun t415 => (if t415 < 0 then (some true) else ((laws_toParty.f k a0_0 l0_1).bind fun bt416 => ((spec_MakePuzzle.f k bt416.1 bt416.2 a1 a2).bind fun bt420 => ((laws_toParty.f k a0_0 l0_1).bind fun bt426 => ((impl_MakePuzzle.f k bt426.1 bt426.2 a1 a2).bind fun bt431 => ((laws_eqPuzzle.f k bt431.1 bt431.2.1 bt420.1 bt420.2.1).bind fun t437 => (if t437 = true then (if (bt431.2.2 != bt420.2.2) = true then (none) else ((laws_toParty.f k a0_0 l0_1).bind fun bt438 => ((laws_eqParty.f k bt426.1 bt426.2 bt438.1 bt438.2).bind fun t442 => (if t442 = true then ((laws_markParty.f k bt426.1 bt426.2 1).bind fun bt443 => (if bt443.1 < 0 then (none) else ((laws_eqPuzzle.f k bt431.1 bt431.2.1 bt420.1 bt420.2.1).bind fun t445 => (if t445 = true then ((laws_markPuzzle.f k bt431.1 bt431.2.1 1).bind fun bt446 => ((laws_heldPuzzle.f k bt431.1 bt446.2 1).bind fun t448 => (if t448 < 0 then (none) else (if t448 = bt446.1 then ((laws_toParty.f k a0_0 l0_1).bind fun bt449 => ((impl_MakePuzzle.f k bt449.1 bt449.2 a1 a2).bind fun bt453 => ((laws_eqPuzzle.f k bt453.1 bt453.2.1 bt420.1 bt420.2.1).bind fun t459 => (if t459 = true then (if (bt453.2.2 != bt420.2.2) = true then (none) else ((laws_heldPuzzle.f k bt431.1 bt446.2 1).bind fun t460 => (if t460 < 0 then (none) else (if t460 = bt446.1 then (some true) else (none))))) else (none))))) else (none))))) else (none))))) else (none))))) else (none))))))))) = some r := h
 clear h
 replace H := Option.bind_eq_some_iff.mp H
 obtain ⟨t415, A40, H⟩ := H
 try dsimp only at H
 have A4 := Aside0.mk A40
 clear A40
 by_cases c5 : t415 < 0
 ·rw [if_pos c5] at H
  have c5b0 : decide (t415 < 0) = true := decide_eq_true c5
  clear c5
  obtain rfl := Option.some.inj H
  go_enter Tryd.func3, Tryd.ntmps3
  go_wp2_with (first | ((with_reducible refine gate_dst (N := 3) rfl ?_); refine bxE 3 #[.int .i64 a0_0, .slice A0_1 l0_1.length c0_1] 24 rfl ?_; intro gb414 hg w6 hbox hb; have BK414 := Aside0.mk (hbox); have GW414 := gS HB hg; have GE414 := gS HB hg; replace HB := hS HB hb; clear hb hbox hg; have hcz7_0 := cz BK414 0; have hcz7_1 := cz BK414 1; have hfz7_0 := fz BK414 0; have hfz7_1 := fz BK414 1) | ((with_reducible refine gate_callee (f := 12) rfl ?_); refine goC (N := some 20) Tryd.func12 #[.agg #[.int .i64 a0_0, .slice A0_1 l0_1.length c0_1], .int .i64 1048576] rfl ?_; (with_reducible refine (laws_szParty.calls a0_0 _ _ l0_1 1048576 t415 _ ?side1 ?side2 A4.out).mono ?_); (case side1 => exact cS (Kd.C_below HR0_1.out HB.out)); (case side2 => exact HC0_1.out); rintro e w8 ⟨rfl, hb⟩; refine ⟨_, rfl, ?_⟩; replace BK414 := bS BK414 hb; replace HB := hS HB hb; (try clear hb); (try clear hb2); (try clear hk); (try clear hi)))
  go_ret
  exact ⟨by first | rfl | (simp [errW_none, errW_some] <;> rfl) | (simp [*, errW_none, errW_some] <;> rfl), hB⟩
 ·rw [if_neg c5] at H
  have c5b0 : decide (t415 < 0) = false := decide_eq_false c5
  clear c5
  replace H := Option.bind_eq_some_iff.mp H
  obtain ⟨⟨t416, t417⟩, A90, H⟩ := H
  try dsimp only at H
  have A9 := Aside0.mk A90
  clear A90
  replace H := Option.bind_eq_some_iff.mp H
  obtain ⟨⟨t420, t421, t424⟩, A100, H⟩ := H
  try dsimp only at H
  have A10 := Aside0.mk A100
  clear A100
  replace H := Option.bind_eq_some_iff.mp H
  obtain ⟨⟨t426, t427⟩, A110, H⟩ := H
  try dsimp only at H
  have A11 := Aside0.mk A110
  clear A110
  replace H := Option.bind_eq_some_iff.mp H
  obtain ⟨⟨t431, t432, t435⟩, A120, H⟩ := H
  try dsimp only at H
  have A12 := Aside0.mk A120
  clear A120
  replace H := Option.bind_eq_some_iff.mp H
  obtain ⟨t437, A130, H⟩ := H
  try dsimp only at H
  have A13 := Aside0.mk A130
  clear A130
  by_cases c14 : t437 = true
  ·subst c14
   rw [if_pos rfl] at H
   by_cases c15 : (t435 != t424) = true
   ·rw [if_pos c15] at H
    exact absurd H (by simp)
   ·rw [if_neg c15] at H
    have c15b0 : (t435 != t424) = false := by simpa using c15
    (try (have c15b1 : decide (t435 = t424) = true := by simpa using c15))
    (try (have c15b2 : (t435 == t424) = true := by simpa using c15))
    clear c15
    replace H := Option.bind_eq_some_iff.mp H
    obtain ⟨⟨t438, t439⟩, A160, H⟩ := H
    try dsimp only at H
    have A16 := Aside0.mk A160
    clear A160
    replace H := Option.bind_eq_some_iff.mp H
    obtain ⟨t442, A170, H⟩ := H
    try dsimp only at H
    have A17 := Aside0.mk A170
    clear A170
    by_cases c18 : t442 = true
    ·subst c18
     rw [if_pos rfl] at H
     replace H := Option.bind_eq_some_iff.mp H
     obtain ⟨⟨t443, t444⟩, A190, H⟩ := H
     try dsimp only at H
     have A19 := Aside0.mk A190
     clear A190
     by_cases c20 : t443 < 0
     ·rw [if_pos c20] at H
      exact absurd H (by simp)
     ·rw [if_neg c20] at H
      have c20b0 : decide (t443 < 0) = false := decide_eq_false c20
      clear c20
      replace H := Option.bind_eq_some_iff.mp H
      obtain ⟨t445, A210, H⟩ := H
      try dsimp only at H
      have A21 := Aside0.mk A210
      clear A210
      by_cases c22 : t445 = true
      ·subst c22
       rw [if_pos rfl] at H
       replace H := Option.bind_eq_some_iff.mp H
       obtain ⟨⟨t446, t447⟩, A230, H⟩ := H
       try dsimp only at H
       have A23 := Aside0.mk A230
       clear A230
       replace H := Option.bind_eq_some_iff.mp H
       obtain ⟨t448, A240, H⟩ := H
       try dsimp only at H
       have A24 := Aside0.mk A240
       clear A240
       by_cases c25 : t448 < 0
       ·rw [if_pos c25] at H
        exact absurd H (by simp)
       ·rw [if_neg c25] at H
        have c25b0 : decide (t448 < 0) = false := decide_eq_false c25
        clear c25
        by_cases c26 : t448 = t446
        ·rw [if_pos c26] at H
         have c26b0 : (t448 == t446) = true := beq_iff_eq.mpr c26
         have c26b1 : (t448 != t446) = false := bne_eq_false_iff_eq.mpr c26
         clear c26
         replace H := Option.bind_eq_some_iff.mp H
         obtain ⟨⟨t449, t450⟩, A270, H⟩ := H
         try dsimp only at H
         have A27 := Aside0.mk A270
         clear A270
         replace H := Option.bind_eq_some_iff.mp H
         obtain ⟨⟨t453, t454, t457⟩, A280, H⟩ := H
         try dsimp only at H
         have A28 := Aside0.mk A280
         clear A280
         replace H := Option.bind_eq_some_iff.mp H
         obtain ⟨t459, A290, H⟩ := H
         try dsimp only at H
         have A29 := Aside0.mk A290
         clear A290
         by_cases c30 : t459 = true
         ·subst c30
          rw [if_pos rfl] at H
          by_cases c31 : (t457 != t424) = true
          ·rw [if_pos c31] at H
           exact absurd H (by simp)
          ·rw [if_neg c31] at H
           have c31b0 : (t457 != t424) = false := by simpa using c31
           (try (have c31b1 : decide (t457 = t424) = true := by simpa using c31))
           (try (have c31b2 : (t457 == t424) = true := by simpa using c31))
           clear c31
           replace H := Option.bind_eq_some_iff.mp H
           obtain ⟨t460, A320, H⟩ := H
           try dsimp only at H
           have A32 := Aside0.mk A320
           clear A320
           by_cases c33 : t460 < 0
           ·rw [if_pos c33] at H
            exact absurd H (by simp)
           ·rw [if_neg c33] at H
            have c33b0 : decide (t460 < 0) = false := decide_eq_false c33
            clear c33
            by_cases c34 : t460 = t446
            ·rw [if_pos c34] at H
             have c34b0 : (t460 == t446) = true := beq_iff_eq.mpr c34
             have c34b1 : (t460 != t446) = false := bne_eq_false_iff_eq.mpr c34
             clear c34
             obtain rfl := Option.some.inj H
             go_enter Tryd.func3, Tryd.ntmps3
             try go_wp2_with (first | ((with_reducible refine gate_dst (N := 3) rfl ?_); refine bxE 3 #[.int .i64 a0_0, .slice A0_1 l0_1.length c0_1] 24 rfl ?_; intro gb414 hg w35 hbox hb; have BK414 := Aside0.mk (hbox); have GW414 := gS HB hg; have GE414 := gS HB hg; replace HB := hS HB hb; clear hb hbox hg; have hcz36_0 := cz BK414 0; have hcz36_1 := cz BK414 1; have hfz36_0 := fz BK414 0; have hfz36_1 := fz BK414 1) | ((with_reducible refine gate_callee (f := 12) rfl ?_); refine goC (N := some 20) Tryd.func12 #[.agg #[.int .i64 a0_0, .slice A0_1 l0_1.length c0_1], .int .i64 1048576] rfl ?_; (with_reducible refine (laws_szParty.calls a0_0 _ _ l0_1 1048576 t415 _ ?side1 ?side2 A4.out).mono ?_); (case side1 => exact cS (Kd.C_below HR0_1.out HB.out)); (case side2 => exact HC0_1.out); rintro e w37 ⟨rfl, hb⟩; refine ⟨_, rfl, ?_⟩; replace BK414 := bS BK414 hb; replace HB := hS HB hb; (try clear hb); (try clear hb2); (try clear hk); (try clear hi); have hcz38_0 := cz BK414 0; have hcz38_1 := cz BK414 1; have hfz38_0 := fz BK414 0; have hfz38_1 := fz BK414 1) | ((with_reducible refine gate_callee (f := 14) rfl ?_); refine goC (N := some 25) Tryd.func14 #[.agg #[.int .i64 a0_0, .slice A0_1 l0_1.length c0_1]] rfl ?_; (with_reducible refine (laws_toParty.calls k a0_0 _ _ l0_1 t416 t417 _ ?side1 ?side2 A9.out).mono ?_); (case side1 => exact cS (Kd.C_below HR0_1.out HB.out)); (case side2 => exact HC0_1.out); rintro e w39 ⟨v418, rfl, ho0, hb⟩; refine ⟨_, rfl, ?_⟩; have HO419 := Aside0.mk (Kd.R_lower ho0 (below_size hB)); replace BK414 := bS BK414 hb; replace HB := hS HB hb; (try clear hb); (try clear hb2); (try clear hk); (try clear hi); (try clear ho0); obtain ⟨Ao40, co40, eo40⟩ := Kd.R_slice HO419.out; subst eo40) | ((with_reducible refine gate_callee (f := 13) rfl ?_); refine goC (N := some 28) Tryd.func13 #[.agg #[.int .i64 t416, .slice Ao40 t417.length co40], .int .i64 a1, .int .i64 a2] rfl ?_; (with_reducible refine (spec_MakePuzzle.calls k t416 _ _ t417 a1 a2 t420 t421 t424 _ ?side1 ?side2 A10.out).mono ?_); (case side1 => exact cS (Kd.R_reads' HO419.out).2.2); (case side2 => exact (Kd.R_reads' HO419.out).2.1); rintro e w41 ⟨v422, rfl, ho0, hb⟩; refine ⟨_, rfl, ?_⟩; have HO423 := Aside0.mk (Kd.R_lower ho0 (below_size hB)); replace HO419 := Aside0.mk (Kd.R_below (rU HO419) hb); replace BK414 := bS BK414 hb; replace HB := hS HB hb; (try clear hb); (try clear hb2); (try clear hk); (try clear hi); (try clear ho0)) | ((with_reducible refine gate_dst (N := 8) rfl ?_); refine bxE 8 #[.int .i64 0, .slice none 0 0] 28 rfl ?_; intro gb425 hg w42 hbox hb; have BK425 := Aside0.mk (hbox); have GW425 := gS HB hg; have GE425 := gS HB hg; have NB414_425 := nL BK414 hg; have NB425_414 := nG BK414 hg; replace HO419 := Aside0.mk (Kd.R_below (rU HO419) hb); replace HO423 := Aside0.mk (Kd.R_below (rU HO423) hb); replace BK414 := bS BK414 hb; replace HB := hS HB hb; clear hb hbox hg; have hnb43 := NB425_414.out; have hnc43 := NB414_425.out; have hcz44_0 := cz BK425 0; have hcz44_1 := cz BK425 1; have hfz44_0 := fz BK425 0; have hfz44_1 := fz BK425 1; obtain ⟨Ao45, co45, eo45⟩ := Kd.R_slice HO423.out; subst eo45; have hcz46_0 := cz BK414 0; have hcz46_1 := cz BK414 1; have hfz46_0 := fz BK414 0; have hfz46_1 := fz BK414 1) | ((with_reducible refine gate_callee (f := 14) rfl ?_); refine goC (N := some 32) Tryd.func14 #[.agg #[.int .i64 a0_0, .slice A0_1 l0_1.length c0_1]] rfl ?_; (with_reducible refine (laws_toParty.calls k a0_0 _ _ l0_1 t426 t427 _ ?side1 ?side2 A11.out).mono ?_); (case side1 => exact Kd.C_below HR0_1.out hB); (case side2 => exact HC0_1.out); rintro e w47 ⟨v428, rfl, ho0, hb⟩; refine ⟨_, rfl, ?_⟩; have HO429 := Aside0.mk (Kd.R_lower (Kd.R_new' ho0 (Kd.R_lt (by (with_reducible repeat (first | apply Kd.R_alloc | apply Kd.R_drewN | apply Kd.R_drew)); exact (Kd.R_mono (Kd.R_far (p := ⟨gb425, 1, none⟩) (Kd.R_far (p := ⟨gb425, 0, none⟩) (Kd.R_types HO419.out BK425.out (by decide)) (fun _ hk => hk.2) (.int .i64 t420)) (fun _ hk => hk.2) (.slice Ao45 t421.length co45)) (fun _ h_ => h_.1))))) (below_size hB)); replace HO419 := Aside0.mk (Kd.R_elder' (by (with_reducible repeat (first | apply Kd.R_alloc | apply Kd.R_drewN | apply Kd.R_drew)); exact (Kd.R_mono (Kd.R_far (p := ⟨gb425, 1, none⟩) (Kd.R_far (p := ⟨gb425, 0, none⟩) (Kd.R_types HO419.out BK425.out (by decide)) (fun _ hk => hk.2) (.int .i64 t420)) (fun _ hk => hk.2) (.slice Ao45 t421.length co45)) (fun _ h_ => h_.1))) (Kd.R_base ho0) hb); replace HO423 := Aside0.mk (Kd.R_below (by (with_reducible repeat (first | apply Kd.R_alloc | apply Kd.R_drewN | apply Kd.R_drew)); exact (Kd.R_mono (Kd.R_far (p := ⟨gb425, 1, none⟩) (Kd.R_far (p := ⟨gb425, 0, none⟩) (Kd.R_types HO423.out BK425.out (by decide)) (fun _ hk => hk.2) (.int .i64 t420)) (fun _ hk => hk.2) (.slice Ao45 t421.length co45)) (fun _ h_ => h_.1))) hb); replace BK414 := Aside0.mk (blk_below (g := gb414) (o := .cells #[.int .i64 a0_0, .slice A0_1 l0_1.length c0_1] 24 (0, 0)) (by (with_reducible repeat (first | refine blk_drewN ?_ _ | refine blk_drew ?_ | refine blk_alloc ?_ _)); refine blk_far ?_ NB414_425.out _; (with_reducible repeat (first | refine blk_drewN ?_ _ | refine blk_drew ?_ | refine blk_alloc ?_ _)); refine blk_far ?_ NB414_425.out _; (with_reducible repeat (first | refine blk_drewN ?_ _ | refine blk_drew ?_ | refine blk_alloc ?_ _)); exact BK414.out) hb); replace BK425 := Aside0.mk (blk_below (g := gb425) (o := .cells #[.int .i64 t420, .slice Ao45 t421.length co45] 28 (0, 0)) (by (with_reducible repeat (first | refine blk_drewN ?_ _ | refine blk_drew ?_ | refine blk_alloc ?_ _)); refine blk_put (cs := #[.int .i64 t420, .slice none 0 0]) ?_ 1 _ rfl; (with_reducible repeat (first | refine blk_drewN ?_ _ | refine blk_drew ?_ | refine blk_alloc ?_ _)); refine blk_put (cs := #[.int .i64 0, .slice none 0 0]) ?_ 0 _ rfl; (with_reducible repeat (first | refine blk_drewN ?_ _ | refine blk_drew ?_ | refine blk_alloc ?_ _)); exact BK425.out) hb); replace HB := hS HB hb; (try clear hb); (try clear hb2); (try clear hk); (try clear hi); (try clear ho0)) | ((with_reducible refine gate_dst (N := 10) rfl ?_); refine bxE 10 #[.int .i64 0, .slice none 0 0] 33 rfl ?_; intro gb430 hg w48 hbox hb; have BK430 := Aside0.mk (hbox); have GW430 := gS HB hg; have GE430 := gS HB hg; have NB414_430 := nL BK414 hg; have NB430_414 := nG BK414 hg; have NB425_430 := nL BK425 hg; have NB430_425 := nG BK425 hg; replace HO419 := Aside0.mk (Kd.R_below (rU HO419) hb); replace HO423 := Aside0.mk (Kd.R_below (rU HO423) hb); replace HO429 := Aside0.mk (Kd.R_below (rU HO429) hb); replace BK414 := bS BK414 hb; replace BK425 := bS BK425 hb; replace HB := hS HB hb; clear hb hbox hg; have hnb49 := NB430_414.out; have hnc49 := NB414_430.out; have hnb50 := NB430_425.out; have hnc50 := NB425_430.out; have hcz51_0 := cz BK430 0; have hcz51_1 := cz BK430 1; have hfz51_0 := fz BK430 0; have hfz51_1 := fz BK430 1; obtain ⟨Ao52, co52, eo52⟩ := Kd.R_slice HO429.out; subst eo52) | ((with_reducible refine gate_callee (f := 15) rfl ?_); refine goC (N := some 37) Tryd.func15 #[.agg #[.int .i64 t426, .slice Ao52 t427.length co52], .int .i64 a1, .int .i64 a2] rfl ?_; (with_reducible refine (impl_MakePuzzle.calls k t426 _ _ t427 a1 a2 t431 t432 t435 _ ?side1 ?side2 A12.out).mono ?_); (case side1 => refine (Kd.R_reads' (e := 105) (base := w.heap.size) (ok := fun k_ => (True ∧ some k_ ≠ (.slice Ao40 t417.length co40 : Value).ownBlock)) (n := t427.length) (c := co52) ?_).2.2; exact (by (with_reducible repeat (first | apply Kd.R_alloc | apply Kd.R_drewN | apply Kd.R_drew)); exact (Kd.R_mono (Kd.R_far (p := ⟨gb430, 1, none⟩) (Kd.R_far (p := ⟨gb430, 0, none⟩) (Kd.R_types HO429.out BK430.out (by decide)) (fun _ hk => hk.2) (.int .i64 t426)) (fun _ hk => hk.2) (.slice Ao52 t427.length co52)) (fun _ h_ => h_.1)))); (case side2 => exact (Kd.R_reads' HO429.out).2.1); rintro e w53 ⟨v433, rfl, ho0, hb⟩; refine ⟨_, rfl, ?_⟩; have HO434 := Aside0.mk (Kd.R_lower (Kd.R_new' ho0 (Kd.R_lt (by (with_reducible repeat (first | apply Kd.R_alloc | apply Kd.R_drewN | apply Kd.R_drew)); exact (Kd.R_mono (Kd.R_far (p := ⟨gb430, 1, none⟩) (Kd.R_far (p := ⟨gb430, 0, none⟩) (Kd.R_types HO423.out BK430.out (by decide)) (fun _ hk => hk.2) (.int .i64 t426)) (fun _ hk => hk.2) (.slice Ao52 t427.length co52)) (fun _ h_ => h_.1))))) (below_size hB)); replace HO419 := Aside0.mk (Kd.R_below (by (with_reducible repeat (first | apply Kd.R_alloc | apply Kd.R_drewN | apply Kd.R_drew)); exact (Kd.R_mono (Kd.R_far (p := ⟨gb430, 1, none⟩) (Kd.R_far (p := ⟨gb430, 0, none⟩) (Kd.R_types HO419.out BK430.out (by decide)) (fun _ hk => hk.2) (.int .i64 t426)) (fun _ hk => hk.2) (.slice Ao52 t427.length co52)) (fun _ h_ => h_.1))) hb); replace HO423 := Aside0.mk (Kd.R_elder' (by (with_reducible repeat (first | apply Kd.R_alloc | apply Kd.R_drewN | apply Kd.R_drew)); exact (Kd.R_mono (Kd.R_far (p := ⟨gb430, 1, none⟩) (Kd.R_far (p := ⟨gb430, 0, none⟩) (Kd.R_types HO423.out BK430.out (by decide)) (fun _ hk => hk.2) (.int .i64 t426)) (fun _ hk => hk.2) (.slice Ao52 t427.length co52)) (fun _ h_ => h_.1))) (Kd.R_base ho0) hb); replace HO429 := Aside0.mk (Kd.R_below (by (with_reducible repeat (first | apply Kd.R_alloc | apply Kd.R_drewN | apply Kd.R_drew)); exact (Kd.R_mono (Kd.R_far (p := ⟨gb430, 1, none⟩) (Kd.R_far (p := ⟨gb430, 0, none⟩) (Kd.R_types HO429.out BK430.out (by decide)) (fun _ hk => hk.2) (.int .i64 t426)) (fun _ hk => hk.2) (.slice Ao52 t427.length co52)) (fun _ h_ => h_.1))) hb); replace BK414 := Aside0.mk (blk_below (g := gb414) (o := .cells #[.int .i64 a0_0, .slice A0_1 l0_1.length c0_1] 24 (0, 0)) (by (with_reducible repeat (first | refine blk_drewN ?_ _ | refine blk_drew ?_ | refine blk_alloc ?_ _)); refine blk_far ?_ NB414_430.out _; (with_reducible repeat (first | refine blk_drewN ?_ _ | refine blk_drew ?_ | refine blk_alloc ?_ _)); refine blk_far ?_ NB414_430.out _; (with_reducible repeat (first | refine blk_drewN ?_ _ | refine blk_drew ?_ | refine blk_alloc ?_ _)); exact BK414.out) hb); replace BK425 := Aside0.mk (blk_below (g := gb425) (o := .cells #[.int .i64 t420, .slice Ao45 t421.length co45] 28 (0, 0)) (by (with_reducible repeat (first | refine blk_drewN ?_ _ | refine blk_drew ?_ | refine blk_alloc ?_ _)); refine blk_far ?_ NB425_430.out _; (with_reducible repeat (first | refine blk_drewN ?_ _ | refine blk_drew ?_ | refine blk_alloc ?_ _)); refine blk_far ?_ NB425_430.out _; (with_reducible repeat (first | refine blk_drewN ?_ _ | refine blk_drew ?_ | refine blk_alloc ?_ _)); exact BK425.out) hb); replace BK430 := Aside0.mk (blk_below (g := gb430) (o := .cells #[.int .i64 t426, .slice Ao52 t427.length co52] 33 (0, 0)) (by (with_reducible repeat (first | refine blk_drewN ?_ _ | refine blk_drew ?_ | refine blk_alloc ?_ _)); refine blk_put (cs := #[.int .i64 t426, .slice none 0 0]) ?_ 1 _ rfl; (with_reducible repeat (first | refine blk_drewN ?_ _ | refine blk_drew ?_ | refine blk_alloc ?_ _)); refine blk_put (cs := #[.int .i64 0, .slice none 0 0]) ?_ 0 _ rfl; (with_reducible repeat (first | refine blk_drewN ?_ _ | refine blk_drew ?_ | refine blk_alloc ?_ _)); exact BK430.out) hb); replace HB := hS HB hb; (try clear hb); (try clear hb2); (try clear hk); (try clear hi); (try clear ho0)) | ((with_reducible refine gate_dst (N := 11) rfl ?_); refine bxE 11 #[.int .i64 0, .slice none 0 0] 28 rfl ?_; intro gb436 hg w54 hbox hb; have BK436 := Aside0.mk (hbox); have GW436 := gS HB hg; have GE436 := gS HB hg; have NB414_436 := nL BK414 hg; have NB436_414 := nG BK414 hg; have NB425_436 := nL BK425 hg; have NB436_425 := nG BK425 hg; have NB430_436 := nL BK430 hg; have NB436_430 := nG BK430 hg; replace HO419 := Aside0.mk (Kd.R_below (rU HO419) hb); replace HO423 := Aside0.mk (Kd.R_below (rU HO423) hb); replace HO429 := Aside0.mk (Kd.R_below (rU HO429) hb); replace HO434 := Aside0.mk (Kd.R_below (rU HO434) hb); replace BK414 := bS BK414 hb; replace BK425 := bS BK425 hb; replace BK430 := bS BK430 hb; replace HB := hS HB hb; clear hb hbox hg; have hnb55 := NB436_414.out; have hnc55 := NB414_436.out; have hnb56 := NB436_425.out; have hnc56 := NB425_436.out; have hnb57 := NB436_430.out; have hnc57 := NB430_436.out; have hcz58_0 := cz BK436 0; have hcz58_1 := cz BK436 1; have hfz58_0 := fz BK436 0; have hfz58_1 := fz BK436 1; obtain ⟨Ao59, co59, eo59⟩ := Kd.R_slice HO434.out; subst eo59; have hcz60_0 := cz BK425 0; have hcz60_1 := cz BK425 1; have hfz60_0 := fz BK425 0; have hfz60_1 := fz BK425 1) | ((with_reducible refine gate_callee (f := 16) rfl ?_); refine goC (N := some 42) Tryd.func16 #[.agg #[.int .i64 t431, .slice Ao59 t432.length co59], .agg #[.int .i64 t420, .slice Ao45 t421.length co45]] rfl ?_; (with_reducible refine (laws_eqPuzzle.calls k t431 _ _ t432 t420 _ _ t421 true _ ?side1 ?side2 ?side3 ?side4 A13.out).mono ?_); (case side1 => refine (Kd.R_reads' (e := 70) (base := w.heap.size) (ok := fun k_ => (True ∧ some k_ ≠ (.slice Ao45 t421.length co45 : Value).ownBlock)) (n := t432.length) (c := co59) ?_).2.2; exact (by (with_reducible repeat (first | apply Kd.R_alloc | apply Kd.R_drewN | apply Kd.R_drew)); exact (Kd.R_mono (Kd.R_far (p := ⟨gb436, 1, none⟩) (Kd.R_far (p := ⟨gb436, 0, none⟩) (Kd.R_types HO434.out BK436.out (by decide)) (fun _ hk => hk.2) (.int .i64 t431)) (fun _ hk => hk.2) (.slice Ao59 t432.length co59)) (fun _ h_ => h_.1)))); (case side2 => exact (Kd.R_reads' HO434.out).2.1); (case side3 => refine (Kd.R_reads' (e := 70) (base := w.heap.size) (ok := fun k_ => (True ∧ some k_ ≠ (.slice Ao59 t432.length co59 : Value).ownBlock)) (n := t421.length) (c := co45) ?_).2.2; exact (by (with_reducible repeat (first | apply Kd.R_alloc | apply Kd.R_drewN | apply Kd.R_drew)); exact (Kd.R_mono (Kd.R_far (p := ⟨gb436, 1, none⟩) (Kd.R_far (p := ⟨gb436, 0, none⟩) (Kd.R_types HO423.out BK436.out (by decide)) (fun _ hk => hk.2) (.int .i64 t431)) (fun _ hk => hk.2) (.slice Ao59 t432.length co59)) (fun _ h_ => h_.1)))); (case side4 => exact (Kd.R_reads' HO423.out).2.1); rintro e w61 ⟨rfl, hb⟩; refine ⟨_, rfl, ?_⟩; replace HO419 := Aside0.mk (Kd.R_below (by (with_reducible repeat (first | apply Kd.R_alloc | apply Kd.R_drewN | apply Kd.R_drew)); exact (Kd.R_mono (Kd.R_far (p := ⟨gb436, 1, none⟩) (Kd.R_far (p := ⟨gb436, 0, none⟩) (Kd.R_types HO419.out BK436.out (by decide)) (fun _ hk => hk.2) (.int .i64 t431)) (fun _ hk => hk.2) (.slice Ao59 t432.length co59)) (fun _ h_ => h_.1))) hb); replace HO423 := Aside0.mk (Kd.R_below (by (with_reducible repeat (first | apply Kd.R_alloc | apply Kd.R_drewN | apply Kd.R_drew)); exact (Kd.R_mono (Kd.R_far (p := ⟨gb436, 1, none⟩) (Kd.R_far (p := ⟨gb436, 0, none⟩) (Kd.R_types HO423.out BK436.out (by decide)) (fun _ hk => hk.2) (.int .i64 t431)) (fun _ hk => hk.2) (.slice Ao59 t432.length co59)) (fun _ h_ => h_.1))) hb); replace HO429 := Aside0.mk (Kd.R_below (by (with_reducible repeat (first | apply Kd.R_alloc | apply Kd.R_drewN | apply Kd.R_drew)); exact (Kd.R_mono (Kd.R_far (p := ⟨gb436, 1, none⟩) (Kd.R_far (p := ⟨gb436, 0, none⟩) (Kd.R_types HO429.out BK436.out (by decide)) (fun _ hk => hk.2) (.int .i64 t431)) (fun _ hk => hk.2) (.slice Ao59 t432.length co59)) (fun _ h_ => h_.1))) hb); replace HO434 := Aside0.mk (Kd.R_below (by (with_reducible repeat (first | apply Kd.R_alloc | apply Kd.R_drewN | apply Kd.R_drew)); exact (Kd.R_mono (Kd.R_far (p := ⟨gb436, 1, none⟩) (Kd.R_far (p := ⟨gb436, 0, none⟩) (Kd.R_types HO434.out BK436.out (by decide)) (fun _ hk => hk.2) (.int .i64 t431)) (fun _ hk => hk.2) (.slice Ao59 t432.length co59)) (fun _ h_ => h_.1))) hb); replace BK414 := Aside0.mk (blk_below (g := gb414) (o := .cells #[.int .i64 a0_0, .slice A0_1 l0_1.length c0_1] 24 (0, 0)) (by (with_reducible repeat (first | refine blk_drewN ?_ _ | refine blk_drew ?_ | refine blk_alloc ?_ _)); refine blk_far ?_ NB414_436.out _; (with_reducible repeat (first | refine blk_drewN ?_ _ | refine blk_drew ?_ | refine blk_alloc ?_ _)); refine blk_far ?_ NB414_436.out _; (with_reducible repeat (first | refine blk_drewN ?_ _ | refine blk_drew ?_ | refine blk_alloc ?_ _)); exact BK414.out) hb); replace BK425 := Aside0.mk (blk_below (g := gb425) (o := .cells #[.int .i64 t420, .slice Ao45 t421.length co45] 28 (0, 0)) (by (with_reducible repeat (first | refine blk_drewN ?_ _ | refine blk_drew ?_ | refine blk_alloc ?_ _)); refine blk_far ?_ NB425_436.out _; (with_reducible repeat (first | refine blk_drewN ?_ _ | refine blk_drew ?_ | refine blk_alloc ?_ _)); refine blk_far ?_ NB425_436.out _; (with_reducible repeat (first | refine blk_drewN ?_ _ | refine blk_drew ?_ | refine blk_alloc ?_ _)); exact BK425.out) hb); replace BK430 := Aside0.mk (blk_below (g := gb430) (o := .cells #[.int .i64 t426, .slice Ao52 t427.length co52] 33 (0, 0)) (by (with_reducible repeat (first | refine blk_drewN ?_ _ | refine blk_drew ?_ | refine blk_alloc ?_ _)); refine blk_far ?_ NB430_436.out _; (with_reducible repeat (first | refine blk_drewN ?_ _ | refine blk_drew ?_ | refine blk_alloc ?_ _)); refine blk_far ?_ NB430_436.out _; (with_reducible repeat (first | refine blk_drewN ?_ _ | refine blk_drew ?_ | refine blk_alloc ?_ _)); exact BK430.out) hb); replace BK436 := Aside0.mk (blk_below (g := gb436) (o := .cells #[.int .i64 t431, .slice Ao59 t432.length co59] 28 (0, 0)) (by (with_reducible repeat (first | refine blk_drewN ?_ _ | refine blk_drew ?_ | refine blk_alloc ?_ _)); refine blk_put (cs := #[.int .i64 t431, .slice none 0 0]) ?_ 1 _ rfl; (with_reducible repeat (first | refine blk_drewN ?_ _ | refine blk_drew ?_ | refine blk_alloc ?_ _)); refine blk_put (cs := #[.int .i64 0, .slice none 0 0]) ?_ 0 _ rfl; (with_reducible repeat (first | refine blk_drewN ?_ _ | refine blk_drew ?_ | refine blk_alloc ?_ _)); exact BK436.out) hb); replace HB := hS HB hb; (try clear hb); (try clear hb2); (try clear hk); (try clear hi)))
             replace HO419 := Aside0.mk (Kd.R_drew HO419.out)
             replace HO423 := Aside0.mk (Kd.R_drew HO423.out)
             replace HO429 := Aside0.mk (Kd.R_drew HO429.out)
             replace HO434 := Aside0.mk (Kd.R_drew HO434.out)
             replace BK414 := Aside0.mk (blk_drew BK414.out)
             replace BK425 := Aside0.mk (blk_drew BK425.out)
             replace BK430 := Aside0.mk (blk_drew BK430.out)
             replace BK436 := Aside0.mk (blk_drew BK436.out)
             replace HB := Aside0.mk (below_drew1 HB.out)
             refine start_ (n := 5) (S := fun w' => w'.cell? ⟨gb430, 0, none⟩ = some (.int .i64 t426) ∧ w'.cell? ⟨gb430, 1, none⟩ = some (.slice Ao52 t427.length co52) ∧ w'.cell? ⟨gb414, 0, none⟩ = some (.int .i64 a0_0) ∧ w'.cell? ⟨gb414, 1, none⟩ = some (.slice A0_1 l0_1.length c0_1)) (ds := []) (bz 5 0) (by kernel_rfl) rfl rfl ⟨(blk_cell BK430.out 0).trans rfl, (blk_cell BK430.out 1).trans rfl, (blk_cell BK414.out 0).trans rfl, (blk_cell BK414.out 1).trans rfl⟩ (fun hHeld => ?_)
             generalize w61.drew = w62 at HO419 HO423 HO429 HO434 BK414 BK425 BK430 BK436 HB hHeld ⊢
             refine run_ [(1, 0, 1, some 49), (1, 1, 3, some 50)] ?_
             repeat ((apply tag1; refine run_t (v := ?_) (a' := ?_) rfl rfl (by kernel_rfl) (fun _ _ _ h => h) (by rfl) ?_ hHeld ?_ ?_; rotate_left 2; (rintro w' ⟨s0, s1, s2, s3⟩; go_simp; with_reducible rfl); (first | (simp only [Act.put, List.setIfInBounds_toArray, List.set_cons_zero, List.set_cons_succ, i64_w, i32_w]; rfl) | rfl)))
             refine run_nil ?_
             refine one_ (i := 2) (N := some 51) (bz 5 7) rfl rfl (by kernel_rfl) (by decide) (fun K hK => ?_)
             refine goes_ Tryd.func14 (by kernel_rfl) rfl #[.agg #[.int .i64 a0_0, .slice A0_1 l0_1.length c0_1]] (by rfl) rfl rfl mapT ?_
             with_reducible refine (laws_toParty.calls k a0_0 _ _ l0_1 t438 t439 _ ?side1 ?side2 A16.out).mono ?_
             (case side1 => exact cS (Kd.C_below HR0_1.out HB.out))
             (case side2 => exact HC0_1.out)
             rintro e w63 ⟨v440, rfl, ho0, hb⟩
             refine ⟨_, rfl, ?_⟩
             have HO441 := Aside0.mk (Kd.R_lower (Kd.R_new' (Kd.R_new' ho0 (Kd.R_lt (rU HO419))) (Kd.R_lt (rU HO429))) (below_size hB))
             replace HO419 := Aside0.mk (Kd.R_elder' (rU HO419) (Kd.R_base ho0) hb)
             replace HO423 := Aside0.mk (Kd.R_below (rU HO423) hb)
             replace HO429 := Aside0.mk (Kd.R_elder' (rU HO429) (Kd.R_base ho0) hb)
             replace HO434 := Aside0.mk (Kd.R_below (rU HO434) hb)
             replace BK414 := bS BK414 hb
             replace BK425 := bS BK425 hb
             replace BK430 := bS BK430 hb
             replace BK436 := bS BK436 hb
             replace HB := hS HB hb
             (try clear hb)
             (try clear hb2)
             (try clear hk)
             (try clear hi)
             (try clear ho0)
             obtain ⟨Ao64, co64, eo64⟩ := Kd.R_slice HO441.out
             (first | subst eo64 | (injection eo64 with f1_ f2_ f3_; have f4_ := f1_.symm; have f5_ := f3_.symm; clear f1_ f2_ f3_; subst f4_; subst f5_))
             refine hK.out _ _ ⟨(blk_cell BK430.out 0).trans rfl, (blk_cell BK430.out 1).trans rfl, (blk_cell BK414.out 0).trans rfl, (blk_cell BK414.out 1).trans rfl⟩ (fun hHeld => ?_)
             clear hK K
             refine norm_ (a' := ?_) ?_ ?_
             rotate_left
             ·show Act.put _ (some 51) _ = _
              simp only [Act.put, List.setIfInBounds_toArray, List.set_cons_zero, List.set_cons_succ, i64_w, i32_w]
              rfl
             refine one_ (i := 3) (N := some 52) (bz 5 15) rfl rfl (by kernel_rfl) (by decide) (fun K hK => ?_)
             refine goes_ Tryd.func17 (by kernel_rfl) rfl #[.agg #[.int .i64 t426, .slice Ao52 t427.length co52], .agg #[.int .i64 t438, .slice Ao64 t439.length co64]] (by rfl) rfl rfl mapT ?_
             with_reducible refine (laws_eqParty.calls k t426 _ _ t427 t438 _ _ t439 true _ ?side1 ?side2 ?side3 ?side4 A17.out).mono ?_
             (case side1 => exact cS (Kd.R_reads' HO429.out).2.2)
             (case side2 => exact (Kd.R_reads' HO429.out).2.1)
             (case side3 => exact cS (Kd.R_reads' HO441.out).2.2)
             (case side4 => exact (Kd.R_reads' HO441.out).2.1)
             rintro e w65 ⟨rfl, hb⟩
             refine ⟨_, rfl, ?_⟩
             replace HO419 := Aside0.mk (Kd.R_below (rU HO419) hb)
             replace HO423 := Aside0.mk (Kd.R_below (rU HO423) hb)
             replace HO429 := Aside0.mk (Kd.R_below (rU HO429) hb)
             replace HO434 := Aside0.mk (Kd.R_below (rU HO434) hb)
             replace HO441 := Aside0.mk (Kd.R_below (rU HO441) hb)
             replace BK414 := bS BK414 hb
             replace BK425 := bS BK425 hb
             replace BK430 := bS BK430 hb
             replace BK436 := bS BK436 hb
             replace HB := hS HB hb
             (try clear hb)
             (try clear hb2)
             (try clear hk)
             (try clear hi)
             refine hK.out _ _ ⟨(blk_cell BK430.out 0).trans rfl, (blk_cell BK430.out 1).trans rfl, (blk_cell BK414.out 0).trans rfl, (blk_cell BK414.out 1).trans rfl⟩ (fun hHeld => ?_)
             clear hK K
             refine norm_ (a' := ?_) ?_ ?_
             rotate_left
             ·show Act.put _ (some 52) _ = _
              simp only [Act.put, List.setIfInBounds_toArray, List.set_cons_zero, List.set_cons_succ, i64_w, i32_w]
              rfl
             refine run_ [(0, 4, 31, some 53)] ?_
             repeat ((apply tag0; refine run_p (v := ?_) (a' := ?_) rfl rfl (by kernel_rfl) (fun _ _ _ h => h) (by rfl) ?_ ?_ ?_; rotate_left 2; (intro w'; go_simp; with_reducible rfl); (first | (simp only [Act.put, List.setIfInBounds_toArray, List.set_cons_zero, List.set_cons_succ, i64_w, i32_w]; rfl) | rfl)))
             refine run_nil ?_
             refine done_ (by kernel_rfl) ?_
             have hcz66_0 := cz BK430 0
             have hcz66_1 := cz BK430 1
             have hfz66_0 := fz BK430 0
             have hfz66_1 := fz BK430 1
             try go_wp2_with (first | ((with_reducible refine gate_callee (f := 18) rfl ?_); refine goC (N := some 56) Tryd.func18 #[.agg #[.int .i64 t426, .slice Ao52 t427.length co52], .int .i64 1] rfl ?_; (with_reducible refine (laws_markParty.calls k t426 (fun k_ => some k_ = (.slice Ao52 t427.length co52 : Value).ownBlock) (.slice Ao52 t427.length co52) t427 1 t443 t444 w _ ?side1 ?side2 A19.out).mono ?_); (case side1 => repeat (first | (with_reducible first | exact HB.out | apply below_alloc | apply pw_below_drewN | apply below_drew1 | refine below_set ?_ GE414.out | refine below_set ?_ GE425.out | refine below_set ?_ GE430.out | refine below_set ?_ GE436.out) | exact HB.out)); (case side2 => exact Kd.R_tight rfl (rU HO429)); rintro e w67 ⟨rfl, hy0, hb, hkp⟩; refine ⟨_, rfl, ?_⟩; have n0_ := Aside0.mk (blk_kept bK hkp (fun hs_ => (fun e_ => (Kd.R_ne HO429.out BK414.out (by decide)) e_) hs_)); have n1_ := Aside0.mk (Kd.R_mono (ok' := fun k_ => some k_ ≠ (.slice Ao52 t427.length co52 : Value).ownBlock ∧ some k_ ≠ (.slice Ao64 t439.length co64 : Value).ownBlock) (Kd.R_keptB (rU HO419) hkp (fun k_ hk_ hs_ => pjn hk_ hs_)) (fun k_ hk_ => pj hk_)); have n2_ := Aside0.mk (Kd.R_mono (ok' := fun k_ => some k_ ≠ (.slice Ao59 t432.length co59 : Value).ownBlock) (Kd.R_keptB ((Kd.R_apart' (rU HO423) (Kd.R_typed (rU HO429)) (by decide))) hkp (fun k_ hk_ hs_ => pjn hk_ hs_)) (fun k_ hk_ => pj hk_)); have n3_ := Aside0.mk (blk_kept bK hkp (fun hs_ => (fun e_ => (Kd.R_ne HO429.out BK425.out (by decide)) e_) hs_)); have n4_ := Aside0.mk (Kd.R_reok rfl hy0 (fun k_ e_ => HO429.out.1 k_ e_)); have n5_ := Aside0.mk (blk_kept bK hkp (fun hs_ => (fun e_ => (Kd.R_ne HO429.out BK430.out (by decide)) e_) hs_)); have n6_ := Aside0.mk (Kd.R_mono (ok' := fun k_ => some k_ ≠ (.slice Ao45 t421.length co45 : Value).ownBlock) (Kd.R_keptB ((Kd.R_apart' (rU HO434) (Kd.R_typed (rU HO429)) (by decide))) hkp (fun k_ hk_ hs_ => pjn hk_ hs_)) (fun k_ hk_ => pj hk_)); have n7_ := Aside0.mk (blk_kept bK hkp (fun hs_ => (fun e_ => (Kd.R_ne HO429.out BK436.out (by decide)) e_) hs_)); have n8_ := Aside0.mk (Kd.R_mono (ok' := fun k_ => some k_ ≠ (.slice Ao40 t417.length co40 : Value).ownBlock ∧ some k_ ≠ (.slice Ao52 t427.length co52 : Value).ownBlock) (Kd.R_keptB (rU HO441) hkp (fun k_ hk_ hs_ => pjn hk_ hs_)) (fun k_ hk_ => pj hk_)); have n9_ := Aside0.mk (hb); clear BK414; clear HO419; clear HO423; clear BK425; clear HO429; clear BK430; clear HO434; clear BK436; clear HO441; clear HB; have BK414 := n0_; have HO419 := n1_; have HO423 := n2_; have BK425 := n3_; have HO429 := n4_; have BK430 := n5_; have HO434 := n6_; have BK436 := n7_; have HO441 := n8_; have HB := n9_; clear n0_ n1_ n2_ n3_ n4_ n5_ n6_ n7_ n8_ n9_; (try clear hb); (try clear hkp); (try clear hy0); have hcz68_0 := cz BK436 0; have hcz68_1 := cz BK436 1; have hfz68_0 := fz BK436 0; have hfz68_1 := fz BK436 1; have hcz69_0 := cz BK425 0; have hcz69_1 := cz BK425 1; have hfz69_0 := fz BK425 0; have hfz69_1 := fz BK425 1) | (go_at_call 16; (with_reducible refine (laws_eqPuzzle.calls k t431 _ _ t432 t420 _ _ t421 true _ ?side1 ?side2 ?side3 ?side4 A21.out).mono ?_); (case side1 => exact cS (Kd.R_reads' HO434.out).2.2); (case side2 => exact (Kd.R_reads' HO434.out).2.1); (case side3 => exact cS (Kd.R_reads' HO423.out).2.2); (case side4 => exact (Kd.R_reads' HO423.out).2.1); rintro e w70 ⟨rfl, hb⟩; replace HO419 := Aside0.mk (Kd.R_below (rU HO419) hb); replace HO423 := Aside0.mk (Kd.R_below (rU HO423) hb); replace HO429 := Aside0.mk (Kd.R_below (rU HO429) hb); replace HO434 := Aside0.mk (Kd.R_below (rU HO434) hb); replace HO441 := Aside0.mk (Kd.R_below (rU HO441) hb); replace BK414 := bS BK414 hb; replace BK425 := bS BK425 hb; replace BK430 := bS BK430 hb; replace BK436 := bS BK436 hb; replace HB := hS HB hb; (try clear hb); (try clear hb2); (try clear hk); (try clear hi); have hcz71_0 := cz BK436 0; have hcz71_1 := cz BK436 1; have hfz71_0 := fz BK436 0; have hfz71_1 := fz BK436 1) | ((with_reducible refine gate_callee (f := 19) rfl ?_); refine goC (N := some 72) Tryd.func19 #[.agg #[.int .i64 t431, .slice Ao59 t432.length co59], .int .i64 1] rfl ?_; (with_reducible refine (laws_markPuzzle.calls k t431 (fun k_ => some k_ = (.slice Ao59 t432.length co59 : Value).ownBlock) (.slice Ao59 t432.length co59) t432 1 t446 t447 w _ ?side1 ?side2 A23.out).mono ?_); (case side1 => repeat (first | (with_reducible first | exact HB.out | apply below_alloc | apply pw_below_drewN | apply below_drew1 | refine below_set ?_ GE414.out | refine below_set ?_ GE425.out | refine below_set ?_ GE430.out | refine below_set ?_ GE436.out) | exact HB.out)); (case side2 => exact Kd.R_tight rfl (rU HO434)); rintro e w72 ⟨rfl, hy0, hb, hkp⟩; refine ⟨_, rfl, ?_⟩; have n0_ := Aside0.mk (blk_kept bK hkp (fun hs_ => (fun e_ => (Kd.R_ne HO434.out BK414.out (by decide)) e_) hs_)); have n1_ := Aside0.mk (Kd.R_mono (ok' := fun k_ => some k_ ≠ (.slice Ao52 t427.length co52 : Value).ownBlock ∧ some k_ ≠ (.slice Ao64 t439.length co64 : Value).ownBlock) (Kd.R_keptB ((Kd.R_apart' (rU HO419) (Kd.R_typed (rU HO434)) (by decide))) hkp (fun k_ hk_ hs_ => pjn hk_ hs_)) (fun k_ hk_ => pj hk_)); have n2_ := Aside0.mk (Kd.R_mono (ok' := fun k_ => some k_ ≠ (.slice Ao59 t432.length co59 : Value).ownBlock) (Kd.R_keptB (rU HO423) hkp (fun k_ hk_ hs_ => pjn hk_ hs_)) (fun k_ hk_ => pj hk_)); have n3_ := Aside0.mk (blk_kept bK hkp (fun hs_ => (fun e_ => (Kd.R_ne HO434.out BK425.out (by decide)) e_) hs_)); have n4_ := Aside0.mk (Kd.R_mono (ok' := fun k_ => some k_ ≠ (.slice Ao40 t417.length co40 : Value).ownBlock ∧ some k_ ≠ (.slice Ao64 t439.length co64 : Value).ownBlock) (Kd.R_keptB ((Kd.R_apart' (rU HO429) (Kd.R_typed (rU HO434)) (by decide))) hkp (fun k_ hk_ hs_ => pjn hk_ hs_)) (fun k_ hk_ => pj hk_)); have n5_ := Aside0.mk (blk_kept bK hkp (fun hs_ => (fun e_ => (Kd.R_ne HO434.out BK430.out (by decide)) e_) hs_)); have n6_ := Aside0.mk (Kd.R_reok rfl hy0 (fun k_ e_ => HO434.out.1 k_ e_)); have n7_ := Aside0.mk (blk_kept bK hkp (fun hs_ => (fun e_ => (Kd.R_ne HO434.out BK436.out (by decide)) e_) hs_)); have n8_ := Aside0.mk (Kd.R_mono (ok' := fun k_ => some k_ ≠ (.slice Ao40 t417.length co40 : Value).ownBlock ∧ some k_ ≠ (.slice Ao52 t427.length co52 : Value).ownBlock) (Kd.R_keptB ((Kd.R_apart' (rU HO441) (Kd.R_typed (rU HO434)) (by decide))) hkp (fun k_ hk_ hs_ => pjn hk_ hs_)) (fun k_ hk_ => pj hk_)); have n9_ := Aside0.mk (hb); clear BK414; clear HO419; clear HO423; clear BK425; clear HO429; clear BK430; clear HO434; clear BK436; clear HO441; clear HB; have BK414 := n0_; have HO419 := n1_; have HO423 := n2_; have BK425 := n3_; have HO429 := n4_; have BK430 := n5_; have HO434 := n6_; have BK436 := n7_; have HO441 := n8_; have HB := n9_; clear n0_ n1_ n2_ n3_ n4_ n5_ n6_ n7_ n8_ n9_; (try clear hb); (try clear hkp); (try clear hy0); have hcz73_0 := cz BK436 0; have hcz73_1 := cz BK436 1; have hfz73_0 := fz BK436 0; have hfz73_1 := fz BK436 1) | ((with_reducible refine gate_callee (f := 20) rfl ?_); refine goesL_ (some 75) rfl rfl Tryd.func20 (by kernel_rfl) rfl #[.agg #[.int .i64 t431, .slice Ao59 t447.length co59], .int .i64 1] rfl (by (try simp only [List.map_toArray, List.map_cons, List.map_nil]); first | done | (rw [show t447.length = t432.length from (Kd.R_reads' HO434.out).1.symm] <;> rfl) | rfl | (simp only [List.length_drop, List.length_take]; rfl)) ?_; (with_reducible refine (laws_heldPuzzle.calls k t431 _ _ t447 1 t448 _ ?side1 ?side2 A24.out).mono ?_); (case side1 => exact cS (Kd.R_reads' HO434.out).2.2); (case side2 => rw [show t447.length = t432.length from (Kd.R_reads' HO434.out).1.symm]; exact (Kd.R_reads' HO434.out).2.1); rintro e w74 ⟨rfl, hb⟩; refine ⟨_, rfl, ?_⟩; replace HO419 := Aside0.mk (Kd.R_below (rU HO419) hb); replace HO423 := Aside0.mk (Kd.R_below (rU HO423) hb); replace HO429 := Aside0.mk (Kd.R_below (rU HO429) hb); replace HO434 := Aside0.mk (Kd.R_below (rU HO434) hb); replace HO441 := Aside0.mk (Kd.R_below (rU HO441) hb); replace BK414 := bS BK414 hb; replace BK425 := bS BK425 hb; replace BK430 := bS BK430 hb; replace BK436 := bS BK436 hb; replace HB := hS HB hb; (try clear hb); (try clear hb2); (try clear hk); (try clear hi); have hcz75_0 := cz BK414 0; have hcz75_1 := cz BK414 1; have hfz75_0 := fz BK414 0; have hfz75_1 := fz BK414 1) | ((with_reducible refine gate_callee (f := 14) rfl ?_); refine goC (N := some 83) Tryd.func14 #[.agg #[.int .i64 a0_0, .slice A0_1 l0_1.length c0_1]] rfl ?_; (with_reducible refine (laws_toParty.calls k a0_0 _ _ l0_1 t449 t450 _ ?side1 ?side2 A27.out).mono ?_); (case side1 => exact cS (Kd.C_below HR0_1.out HB.out)); (case side2 => exact HC0_1.out); rintro e w76 ⟨v451, rfl, ho0, hb⟩; refine ⟨_, rfl, ?_⟩; have HO452 := Aside0.mk (Kd.R_lower (Kd.R_new' (Kd.R_new' (Kd.R_new' ho0 (Kd.R_lt (rU HO419))) (Kd.R_lt (rU HO429))) (Kd.R_lt (rU HO441))) (below_size hB)); replace HO419 := Aside0.mk (Kd.R_elder' (rU HO419) (Kd.R_base ho0) hb); replace HO423 := Aside0.mk (Kd.R_below (rU HO423) hb); replace HO429 := Aside0.mk (Kd.R_elder' (rU HO429) (Kd.R_base ho0) hb); replace HO434 := Aside0.mk (Kd.R_below (rU HO434) hb); replace HO441 := Aside0.mk (Kd.R_elder' (rU HO441) (Kd.R_base ho0) hb); replace BK414 := bS BK414 hb; replace BK425 := bS BK425 hb; replace BK430 := bS BK430 hb; replace BK436 := bS BK436 hb; replace HB := hS HB hb; (try clear hb); (try clear hb2); (try clear hk); (try clear hi); (try clear ho0); obtain ⟨Ao77, co77, eo77⟩ := Kd.R_slice HO452.out; subst eo77) | ((with_reducible refine gate_callee (f := 15) rfl ?_); refine goC (N := some 86) Tryd.func15 #[.agg #[.int .i64 t449, .slice Ao77 t450.length co77], .int .i64 a1, .int .i64 a2] rfl ?_; (with_reducible refine (impl_MakePuzzle.calls k t449 _ _ t450 a1 a2 t453 t454 t457 _ ?side1 ?side2 A28.out).mono ?_); (case side1 => exact cS (Kd.R_reads' HO452.out).2.2); (case side2 => exact (Kd.R_reads' HO452.out).2.1); rintro e w78 ⟨v455, rfl, ho0, hb⟩; refine ⟨_, rfl, ?_⟩; have HO456 := Aside0.mk (Kd.R_lower (Kd.R_new' (Kd.R_new' ho0 (Kd.R_lt (rU HO423))) (Kd.R_lt (rU HO434))) (below_size hB)); replace HO419 := Aside0.mk (Kd.R_below (rU HO419) hb); replace HO423 := Aside0.mk (Kd.R_elder' (rU HO423) (Kd.R_base ho0) hb); replace HO429 := Aside0.mk (Kd.R_below (rU HO429) hb); replace HO434 := Aside0.mk (Kd.R_elder' (rU HO434) (Kd.R_base ho0) hb); replace HO441 := Aside0.mk (Kd.R_below (rU HO441) hb); replace HO452 := Aside0.mk (Kd.R_below (rU HO452) hb); replace BK414 := bS BK414 hb; replace BK425 := bS BK425 hb; replace BK430 := bS BK430 hb; replace BK436 := bS BK436 hb; replace HB := hS HB hb; (try clear hb); (try clear hb2); (try clear hk); (try clear hi); (try clear ho0)) | ((with_reducible refine gate_dst (N := 16) rfl ?_); refine bxE 16 #[.int .i64 0, .slice none 0 0] 28 rfl ?_; intro gb458 hg w79 hbox hb; have BK458 := Aside0.mk (hbox); have GW458 := gS HB hg; have GE458 := gS HB hg; have NB414_458 := nL BK414 hg; have NB458_414 := nG BK414 hg; have NB425_458 := nL BK425 hg; have NB458_425 := nG BK425 hg; have NB430_458 := nL BK430 hg; have NB458_430 := nG BK430 hg; have NB436_458 := nL BK436 hg; have NB458_436 := nG BK436 hg; replace HO419 := Aside0.mk (Kd.R_below (rU HO419) hb); replace HO423 := Aside0.mk (Kd.R_below (rU HO423) hb); replace HO429 := Aside0.mk (Kd.R_below (rU HO429) hb); replace HO434 := Aside0.mk (Kd.R_below (rU HO434) hb); replace HO441 := Aside0.mk (Kd.R_below (rU HO441) hb); replace HO452 := Aside0.mk (Kd.R_below (rU HO452) hb); replace HO456 := Aside0.mk (Kd.R_below (rU HO456) hb); replace BK414 := bS BK414 hb; replace BK425 := bS BK425 hb; replace BK430 := bS BK430 hb; replace BK436 := bS BK436 hb; replace HB := hS HB hb; clear hb hbox hg; have hnb80 := NB458_414.out; have hnc80 := NB414_458.out; have hnb81 := NB458_425.out; have hnc81 := NB425_458.out; have hnb82 := NB458_430.out; have hnc82 := NB430_458.out; have hnb83 := NB458_436.out; have hnc83 := NB436_458.out; have hcz84_0 := cz BK458 0; have hcz84_1 := cz BK458 1; have hfz84_0 := fz BK458 0; have hfz84_1 := fz BK458 1; obtain ⟨Ao85, co85, eo85⟩ := Kd.R_slice HO456.out; subst eo85; have hcz86_0 := cz BK425 0; have hcz86_1 := cz BK425 1; have hfz86_0 := fz BK425 0; have hfz86_1 := fz BK425 1) | ((with_reducible refine gate_callee (f := 16) rfl ?_); refine goC (N := some 91) Tryd.func16 #[.agg #[.int .i64 t453, .slice Ao85 t454.length co85], .agg #[.int .i64 t420, .slice Ao45 t421.length co45]] rfl ?_; (with_reducible refine (laws_eqPuzzle.calls k t453 _ _ t454 t420 _ _ t421 true _ ?side1 ?side2 ?side3 ?side4 A29.out).mono ?_); (case side1 => refine (Kd.R_reads' (e := 70) (base := w.heap.size) (ok := fun k_ => ((True ∧ some k_ ≠ (.slice Ao45 t421.length co45 : Value).ownBlock) ∧ some k_ ≠ (.slice Ao59 t432.length co59 : Value).ownBlock)) (n := t454.length) (c := co85) ?_).2.2; exact (by (with_reducible repeat (first | apply Kd.R_alloc | apply Kd.R_drewN | apply Kd.R_drew)); exact (Kd.R_mono (Kd.R_far (p := ⟨gb458, 1, none⟩) (Kd.R_far (p := ⟨gb458, 0, none⟩) (Kd.R_types HO456.out BK458.out (by decide)) (fun _ hk => hk.2) (.int .i64 t453)) (fun _ hk => hk.2) (.slice Ao85 t454.length co85)) (fun _ h_ => h_.1)))); (case side2 => exact (Kd.R_reads' HO456.out).2.1); (case side3 => refine (Kd.R_reads' (e := 70) (base := w.heap.size) (ok := fun k_ => (some k_ ≠ (.slice Ao59 t432.length co59 : Value).ownBlock ∧ some k_ ≠ (.slice Ao85 t454.length co85 : Value).ownBlock)) (n := t421.length) (c := co45) ?_).2.2; exact (by (with_reducible repeat (first | apply Kd.R_alloc | apply Kd.R_drewN | apply Kd.R_drew)); exact (Kd.R_mono (Kd.R_far (p := ⟨gb458, 1, none⟩) (Kd.R_far (p := ⟨gb458, 0, none⟩) (Kd.R_types HO423.out BK458.out (by decide)) (fun _ hk => hk.2) (.int .i64 t453)) (fun _ hk => hk.2) (.slice Ao85 t454.length co85)) (fun _ h_ => h_.1)))); (case side4 => exact (Kd.R_reads' HO423.out).2.1); rintro e w87 ⟨rfl, hb⟩; refine ⟨_, rfl, ?_⟩; replace HO419 := Aside0.mk (Kd.R_below (by (with_reducible repeat (first | apply Kd.R_alloc | apply Kd.R_drewN | apply Kd.R_drew)); exact (Kd.R_mono (Kd.R_far (p := ⟨gb458, 1, none⟩) (Kd.R_far (p := ⟨gb458, 0, none⟩) (Kd.R_types HO419.out BK458.out (by decide)) (fun _ hk => hk.2) (.int .i64 t453)) (fun _ hk => hk.2) (.slice Ao85 t454.length co85)) (fun _ h_ => h_.1))) hb); replace HO423 := Aside0.mk (Kd.R_below (by (with_reducible repeat (first | apply Kd.R_alloc | apply Kd.R_drewN | apply Kd.R_drew)); exact (Kd.R_mono (Kd.R_far (p := ⟨gb458, 1, none⟩) (Kd.R_far (p := ⟨gb458, 0, none⟩) (Kd.R_types HO423.out BK458.out (by decide)) (fun _ hk => hk.2) (.int .i64 t453)) (fun _ hk => hk.2) (.slice Ao85 t454.length co85)) (fun _ h_ => h_.1))) hb); replace HO429 := Aside0.mk (Kd.R_below (by (with_reducible repeat (first | apply Kd.R_alloc | apply Kd.R_drewN | apply Kd.R_drew)); exact (Kd.R_mono (Kd.R_far (p := ⟨gb458, 1, none⟩) (Kd.R_far (p := ⟨gb458, 0, none⟩) (Kd.R_types HO429.out BK458.out (by decide)) (fun _ hk => hk.2) (.int .i64 t453)) (fun _ hk => hk.2) (.slice Ao85 t454.length co85)) (fun _ h_ => h_.1))) hb); replace HO434 := Aside0.mk (Kd.R_below (by (with_reducible repeat (first | apply Kd.R_alloc | apply Kd.R_drewN | apply Kd.R_drew)); exact (Kd.R_mono (Kd.R_far (p := ⟨gb458, 1, none⟩) (Kd.R_far (p := ⟨gb458, 0, none⟩) (Kd.R_types HO434.out BK458.out (by decide)) (fun _ hk => hk.2) (.int .i64 t453)) (fun _ hk => hk.2) (.slice Ao85 t454.length co85)) (fun _ h_ => h_.1))) hb); replace HO441 := Aside0.mk (Kd.R_below (by (with_reducible repeat (first | apply Kd.R_alloc | apply Kd.R_drewN | apply Kd.R_drew)); exact (Kd.R_mono (Kd.R_far (p := ⟨gb458, 1, none⟩) (Kd.R_far (p := ⟨gb458, 0, none⟩) (Kd.R_types HO441.out BK458.out (by decide)) (fun _ hk => hk.2) (.int .i64 t453)) (fun _ hk => hk.2) (.slice Ao85 t454.length co85)) (fun _ h_ => h_.1))) hb); replace HO452 := Aside0.mk (Kd.R_below (by (with_reducible repeat (first | apply Kd.R_alloc | apply Kd.R_drewN | apply Kd.R_drew)); exact (Kd.R_mono (Kd.R_far (p := ⟨gb458, 1, none⟩) (Kd.R_far (p := ⟨gb458, 0, none⟩) (Kd.R_types HO452.out BK458.out (by decide)) (fun _ hk => hk.2) (.int .i64 t453)) (fun _ hk => hk.2) (.slice Ao85 t454.length co85)) (fun _ h_ => h_.1))) hb); replace HO456 := Aside0.mk (Kd.R_below (by (with_reducible repeat (first | apply Kd.R_alloc | apply Kd.R_drewN | apply Kd.R_drew)); exact (Kd.R_mono (Kd.R_far (p := ⟨gb458, 1, none⟩) (Kd.R_far (p := ⟨gb458, 0, none⟩) (Kd.R_types HO456.out BK458.out (by decide)) (fun _ hk => hk.2) (.int .i64 t453)) (fun _ hk => hk.2) (.slice Ao85 t454.length co85)) (fun _ h_ => h_.1))) hb); replace BK414 := Aside0.mk (blk_below (g := gb414) (o := .cells #[.int .i64 a0_0, .slice A0_1 l0_1.length c0_1] 24 (0, 0)) (by (with_reducible repeat (first | refine blk_drewN ?_ _ | refine blk_drew ?_ | refine blk_alloc ?_ _)); refine blk_far ?_ NB414_458.out _; (with_reducible repeat (first | refine blk_drewN ?_ _ | refine blk_drew ?_ | refine blk_alloc ?_ _)); refine blk_far ?_ NB414_458.out _; (with_reducible repeat (first | refine blk_drewN ?_ _ | refine blk_drew ?_ | refine blk_alloc ?_ _)); exact BK414.out) hb); replace BK425 := Aside0.mk (blk_below (g := gb425) (o := .cells #[.int .i64 t420, .slice Ao45 t421.length co45] 28 (0, 0)) (by (with_reducible repeat (first | refine blk_drewN ?_ _ | refine blk_drew ?_ | refine blk_alloc ?_ _)); refine blk_far ?_ NB425_458.out _; (with_reducible repeat (first | refine blk_drewN ?_ _ | refine blk_drew ?_ | refine blk_alloc ?_ _)); refine blk_far ?_ NB425_458.out _; (with_reducible repeat (first | refine blk_drewN ?_ _ | refine blk_drew ?_ | refine blk_alloc ?_ _)); exact BK425.out) hb); replace BK430 := Aside0.mk (blk_below (g := gb430) (o := .cells #[.int .i64 t426, .slice Ao52 t427.length co52] 33 (0, 0)) (by (with_reducible repeat (first | refine blk_drewN ?_ _ | refine blk_drew ?_ | refine blk_alloc ?_ _)); refine blk_far ?_ NB430_458.out _; (with_reducible repeat (first | refine blk_drewN ?_ _ | refine blk_drew ?_ | refine blk_alloc ?_ _)); refine blk_far ?_ NB430_458.out _; (with_reducible repeat (first | refine blk_drewN ?_ _ | refine blk_drew ?_ | refine blk_alloc ?_ _)); exact BK430.out) hb); replace BK436 := Aside0.mk (blk_below (g := gb436) (o := .cells #[.int .i64 t431, .slice Ao59 t432.length co59] 28 (0, 0)) (by (with_reducible repeat (first | refine blk_drewN ?_ _ | refine blk_drew ?_ | refine blk_alloc ?_ _)); refine blk_far ?_ NB436_458.out _; (with_reducible repeat (first | refine blk_drewN ?_ _ | refine blk_drew ?_ | refine blk_alloc ?_ _)); refine blk_far ?_ NB436_458.out _; (with_reducible repeat (first | refine blk_drewN ?_ _ | refine blk_drew ?_ | refine blk_alloc ?_ _)); exact BK436.out) hb); replace BK458 := Aside0.mk (blk_below (g := gb458) (o := .cells #[.int .i64 t453, .slice Ao85 t454.length co85] 28 (0, 0)) (by (with_reducible repeat (first | refine blk_drewN ?_ _ | refine blk_drew ?_ | refine blk_alloc ?_ _)); refine blk_put (cs := #[.int .i64 t453, .slice none 0 0]) ?_ 1 _ rfl; (with_reducible repeat (first | refine blk_drewN ?_ _ | refine blk_drew ?_ | refine blk_alloc ?_ _)); refine blk_put (cs := #[.int .i64 0, .slice none 0 0]) ?_ 0 _ rfl; (with_reducible repeat (first | refine blk_drewN ?_ _ | refine blk_drew ?_ | refine blk_alloc ?_ _)); exact BK458.out) hb); replace HB := hS HB hb; (try clear hb); (try clear hb2); (try clear hk); (try clear hi); have hcz88_0 := cz BK436 0; have hcz88_1 := cz BK436 1; have hfz88_0 := fz BK436 0; have hfz88_1 := fz BK436 1) | ((with_reducible refine gate_callee (f := 20) rfl ?_); refine goesL_ (some 100) rfl rfl Tryd.func20 (by kernel_rfl) rfl #[.agg #[.int .i64 t431, .slice Ao59 t447.length co59], .int .i64 1] rfl (by (try simp only [List.map_toArray, List.map_cons, List.map_nil]); first | done | (rw [show t447.length = t432.length from (Kd.R_reads' HO434.out).1.symm] <;> rfl) | rfl | (simp only [List.length_drop, List.length_take]; rfl)) ?_; (with_reducible refine (laws_heldPuzzle.calls k t431 _ _ t447 1 t460 _ ?side1 ?side2 A32.out).mono ?_); (case side1 => exact cS (Kd.R_reads' HO434.out).2.2); (case side2 => rw [show t447.length = t432.length from (Kd.R_reads' HO434.out).1.symm]; exact (Kd.R_reads' HO434.out).2.1); rintro e w89 ⟨rfl, hb⟩; refine ⟨_, rfl, ?_⟩; replace HO419 := Aside0.mk (Kd.R_below (rU HO419) hb); replace HO423 := Aside0.mk (Kd.R_below (rU HO423) hb); replace HO429 := Aside0.mk (Kd.R_below (rU HO429) hb); replace HO434 := Aside0.mk (Kd.R_below (rU HO434) hb); replace HO441 := Aside0.mk (Kd.R_below (rU HO441) hb); replace HO452 := Aside0.mk (Kd.R_below (rU HO452) hb); replace HO456 := Aside0.mk (Kd.R_below (rU HO456) hb); replace BK414 := bS BK414 hb; replace BK425 := bS BK425 hb; replace BK430 := bS BK430 hb; replace BK436 := bS BK436 hb; replace BK458 := bS BK458 hb; replace HB := hS HB hb; (try clear hb); (try clear hb2); (try clear hk); (try clear hi)))
             go_ret
             exact ⟨by first | rfl | (simp [errW_none, errW_some] <;> rfl) | (simp [*, errW_none, errW_some] <;> rfl), hB⟩
            ·rw [if_neg c34] at H
             exact absurd H (by simp)
         ·replace c30 := Bool.eq_false_iff.mpr c30
          subst c30
          have H1 : (none) = some r := by rw [if_neg (show ¬ (false = true) by decide)] at H; exact H
          clear H
          have H := H1
          clear H1
          exact absurd H (by simp)
        ·rw [if_neg c26] at H
         exact absurd H (by simp)
      ·replace c22 := Bool.eq_false_iff.mpr c22
       subst c22
       have H1 : (none) = some r := by rw [if_neg (show ¬ (false = true) by decide)] at H; exact H
       clear H
       have H := H1
       clear H1
       exact absurd H (by simp)
    ·replace c18 := Bool.eq_false_iff.mpr c18
     subst c18
     have H1 : (none) = some r := by rw [if_neg (show ¬ (false = true) by decide)] at H; exact H
     clear H
     have H := H1
     clear H1
     exact absurd H (by simp)
  ·replace c14 := Bool.eq_false_iff.mpr c14
   subst c14
   have H1 : (none) = some r := by rw [if_neg (show ¬ (false = true) by decide)] at H; exact H
   clear H
   have H := H1
   clear H1
   exact absurd H (by simp)

end Go.Proofs.YtjpfbkkikcpmhaaDoor.PFnExactMakePuzzle
