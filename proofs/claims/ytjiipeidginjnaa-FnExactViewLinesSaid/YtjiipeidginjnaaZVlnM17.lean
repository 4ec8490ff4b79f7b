/- Several texts in one: what the claim needs of them. Conditions: each declaration's own. -/
import Derived.Test.YtjiipeidginjnaaZVlnM10
import Derived.Test.YtjiipeidginjnaaZVlnM11
import Derived.Test.YtjiipeidginjnaaZVlnM15
import Derived.Test.YtjiipeidginjnaaZVlnM16
namespace Go.Proofs.Ytjiipeidginjnaa.P
open Go.RowKit Go.Proofs.YtjiipeidginjnaaW.PrintWords Go.Proofs.YtjiipeidginjnaaW.PrintLast Go.Proofs.YtjiipeidginjnaaW.PrintMore
attribute [local go_sem] max2_int min2_int max_two min_two max_three min_three max_four min_four   -- for this text's walks alone
set_option linter.unusedVariables false
set_option linter.unusedSimpArgs false

mutual
def impl_FormatQuery.j0 : Nat → Bool → List Int → List (S153) → Option (ByteArray)
  | 0, _, _, _ => none
  | k + 1, x27, x718000, x718001 => if x27 = true then (some (⟨#[]⟩ : ByteArray)) else (impl_FormatQuery.l0 k (([] : List ByteArray)) (([] : List ByteArray)) x718000 (x718000.length : Int) 0 x718000 x718001)
def impl_FormatQuery.l0 : Nat → List ByteArray → List ByteArray → List Int → Int → Int → List Int → List (S153) → Option (ByteArray)
  | 0, _, _, _, _, _, _, _ => none
  | k + 1, x3, x4, x31, x32, x33, x718000, x718001 => if x33 < x32 then (if 0 ≤ x33 then (if x33 < (x31.length : Int) then ((impl_FormatTerm.f k (rd x31 x33)).bind fun t727 => (if x3.length < 8796093022208 then (impl_FormatQuery.l0 k (x3 ++ [t727]) x4 x31 x32 (wrap64 (x33 + 1)) x718000 x718001) else (none))) else (none)) else (none)) else (impl_FormatQuery.l1 k x3 x4 x718001 (x718001.length : Int) 0)
def impl_FormatQuery.l1 : Nat → List ByteArray → List ByteArray → List (S153) → Int → Int → Option (ByteArray)
  | 0, _, _, _, _, _ => none
  | k + 1, x3, x4, x44, x45, x46 => if x46 < x45 then (if 0 ≤ x46 then (if x46 < (x44.length : Int) then ((impl_FormatAtom.f k ((rd_T153 x44 x46).f0) ((rd_T153 x44 x46).f1)).bind fun t733 => (if t733.toList = ([] : List UInt8) then (some (⟨#[]⟩ : ByteArray)) else (if x4.length < 8796093022208 then (impl_FormatQuery.l1 k x3 (x4 ++ [t733]) x44 x45 (wrap64 (x46 + 1))) else (none)))) else (none)) else (none)) else ((impl_glued.f k x3 (⟨#[44]⟩ : ByteArray)).bind fun t737 => (if (x3.length : Int) = 0 then (if 3 + 4 ≤ 9223372036854775807 then ((impl_glued.f k x4 (⟨#[59, 32]⟩ : ByteArray)).bind fun t738 => (if 7 + t738.size ≤ 9223372036854775807 then (some (((⟨#[121, 101, 115]⟩ : ByteArray) ++ (⟨#[32, 58, 45, 32]⟩ : ByteArray)) ++ t738)) else (none))) else (none)) else (if t737.size + 4 ≤ 9223372036854775807 then ((impl_glued.f k x4 (⟨#[59, 32]⟩ : ByteArray)).bind fun t739 => (if (t737 ++ (⟨#[32, 58, 45, 32]⟩ : ByteArray)).size + t739.size ≤ 9223372036854775807 then (some ((t737 ++ (⟨#[32, 58, 45, 32]⟩ : ByteArray)) ++ t739)) else (none))) else (none))))
end
def impl_FormatQuery.f (k : Nat) (l0_0 : List Int) (l0_1 : List (S153)) : Option (ByteArray) := if (l0_0.length : Int) > 3 then (impl_FormatQuery.j0 k true l0_0 l0_1) else ((impl_areTerms.f k l0_0).bind fun t718 => (if t718 = true then ((impl_within.f (l0_1.length : Int) 1 8).bind fun t719 => (impl_FormatQuery.j0 k (!t719) l0_0 l0_1)) else (impl_FormatQuery.j0 k true l0_0 l0_1)))
set_option maxHeartbeats 8000000 in
set_option maxRecDepth 100000 in
theorem impl_FormatQuery.calls (k : Nat) (A0_0 : Option Addr) (c0_0 : Nat) (l0_0 : List Int) (A0_1 : Option Addr) (c0_1 : Nat) (l0_1 : List (S153)) (r : ByteArray) (w : World) (hr0_0 : Kd.C (Kd.int .i64) w A0_0 l0_0.length l0_0) (hc0_0 : l0_0.length ≤ c0_0) (hr0_1 : Kd.C k153 w A0_1 l0_1.length l0_1) (hc0_1 : l0_1.length ≤ c0_1) (h : impl_FormatQuery.f k l0_0 l0_1 = some r) :
    Calls Try.prog 106 #[.agg #[.slice A0_0 l0_0.length c0_0, .slice A0_1 l0_1.length c0_1]] w fun e w' => e = .returned (.string r) ∧ Below w.heap.size w w' := by
  have hu72 := Try.underlying72
  have hu153 := Try.underlying153
  have HR0_0 := Aside0.mk hr0_0
  have HC0_0 := Aside0.mk hc0_0
  clear hr0_0 hc0_0
  have HR0_1 := Aside0.mk hr0_1
  have HC0_1 := Aside0.mk hc0_1
  clear hr0_1 hc0_1
  have HB := Aside0.mk (Below.refl w.heap.size w)
  have H : (if (l0_0.length : Int) > 3 then (impl_FormatQuery.j0 k true l0_0 l0_1) else ((impl_areTerms.f k l0_0).bind fun t718 => (if t718 = true then ((impl_within.f (l0_1.length : Int) 1 8).bind fun t719 => (impl_FormatQuery.j0 k (!t719) l0_0 l0_1)) else (impl_FormatQuery.j0 k true l0_0 l0_1)))) = some r := h
  clear h
  have HC2 := Aside0.mk H
  clear H
  go_enter Try.func106, Try.ntmps106
  go_upto_region 1 with (first | ((with_reducible refine gate_dst (N := 1) rfl ?_); (try (refine gate_guard (by rfl) ?_; dsimp only)); refine box_event ?hg (N := 1) ?hd (cs := #[.slice A0_0 l0_0.length c0_0, .slice A0_1 l0_1.length c0_1]) (t := 72) ?hr ?_; (case hd => rfl); (case hg => rfl); (case hr => first | (go_simp; done) | (go_simp; rfl)); intro gb717 hg w3 hbox hb; have n0_ := Aside0.mk (below_step (by repeat (first | (with_reducible first | exact HB.out | apply below_alloc | apply pw_below_drewN | apply below_drew1) | exact HB.out)) hb); have n1_ := Aside0.mk (hbox); have n2_ := Aside0.mk ((by rw [hg]; exact (below_size (by repeat (first | (with_reducible first | exact HB.out | apply below_alloc | apply pw_below_drewN | apply below_drew1) | exact HB.out))) : w.heap.size ≤ gb717)); have n3_ := Aside0.mk ((by rw [hg]; exact (below_size (by repeat (first | (with_reducible first | exact HB.out | apply below_alloc | apply pw_below_drewN | apply below_drew1) | exact HB.out))) : w.heap.size ≤ gb717)); clear HB; have HB := n0_; have BK717 := n1_; have GW717 := n2_; have GE717 := n3_; clear n0_ n1_ n2_ n3_; clear hb hbox hg))
  (try simp only [Act.put, List.setIfInBounds_toArray, List.set_cons_zero, List.set_cons_succ])
  go_cut [27] (fun v27 wc => ∃ (kq : Nat) (x27_1 : Bool), v27 = .bool x27_1 ∧ Aside0 (impl_FormatQuery.j0 kq x27_1 l0_0 l0_1 = some r) ∧ Aside0 (kq ≤ k) ∧ Aside0 (wc.heap[gb717]? = some (.cells #[(.slice A0_0 l0_0.length c0_0), (.slice A0_1 l0_1.length c0_1)] 72 (0, 0))) ∧ Aside0 (Below w.heap.size w wc))
  case first =>
    have H := HC2.out
    clear HC2
    by_cases c4 : (l0_0.length : Int) > 3
    · rw [if_pos c4] at H
      have c4b0 : decide (3 < (l0_0.length : Int)) = true := decide_eq_true c4
      have c4b1 : decide (3 < l0_0.length) = true := decide_eq_true (by omega)
      clear c4
      (first | rw [c4b0] | (simp only [i64_w, i32_w]; rw [c4b0]) | skip)
      have H' := Aside0.mk H
      clear H
      have hcz5_0 : w3.cell? ⟨gb717, 0, none⟩ = some (.slice A0_0 l0_0.length c0_0) := (blk_cell BK717.out 0).trans rfl
      have hcz5_1 : w3.cell? ⟨gb717, 1, none⟩ = some (.slice A0_1 l0_1.length c0_1) := (blk_cell BK717.out 1).trans rfl
      have hfz5_0 := blk_frozen BK717.out 0
      have hfz5_1 := blk_frozen BK717.out 1
      go_wp2
      go_meet
      case rel => exact ⟨_, (true), (by first | rfl | (simp; done) | (simp [*]; done)), H', ⟨by first | omega | exact Nat.le_refl _⟩, ⟨by (with_reducible repeat (first | refine blk_drewN ?_ _ | refine blk_drew ?_ | refine blk_alloc ?_ _)); exact BK717.out⟩, ⟨by repeat (first | (with_reducible first | exact HB.out | apply below_alloc | apply pw_below_drewN | apply below_drew1 | refine below_set ?_ GE717.out) | exact HB.out)⟩⟩
    · rw [if_neg c4] at H
      have c4b0 : decide (3 < (l0_0.length : Int)) = false := decide_eq_false c4
      have c4b1 : decide (3 < l0_0.length) = false := decide_eq_false (by omega)
      clear c4
      (first | rw [c4b0] | (simp only [i64_w, i32_w]; rw [c4b0]) | skip)
      replace H := Option.bind_eq_some_iff.mp H
      obtain ⟨t718, A60, H⟩ := H
      replace H : (if t718 = true then ((impl_within.f (l0_1.length : Int) 1 8).bind fun t719 => (impl_FormatQuery.j0 k (!t719) l0_0 l0_1)) else (impl_FormatQuery.j0 k true l0_0 l0_1)) = some r := H
      have A6 := Aside0.mk A60
      clear A60
      by_cases c7 : t718 = true
      · subst c7
        have H1 : ((impl_within.f (l0_1.length : Int) 1 8).bind fun t719 => (impl_FormatQuery.j0 k (!t719) l0_0 l0_1)) = some r := by rw [if_pos rfl] at H; exact H
        clear H
        have H := H1
        clear H1
        replace H := Option.bind_eq_some_iff.mp H
        obtain ⟨t719, A80, H⟩ := H
        replace H : (impl_FormatQuery.j0 k (!t719) l0_0 l0_1) = some r := H
        have A8 := Aside0.mk A80
        clear A80
        have H' := Aside0.mk H
        clear H
        have hcz9_0 : w3.cell? ⟨gb717, 0, none⟩ = some (.slice A0_0 l0_0.length c0_0) := (blk_cell BK717.out 0).trans rfl
        have hcz9_1 : w3.cell? ⟨gb717, 1, none⟩ = some (.slice A0_1 l0_1.length c0_1) := (blk_cell BK717.out 1).trans rfl
        have hfz9_0 := blk_frozen BK717.out 0
        have hfz9_1 := blk_frozen BK717.out 1
        go_wp2_with (first | (go_at_call 149; (with_reducible refine (impl_areTerms.calls k _ _ l0_0 true _ ?side1 ?side2 A6.out).mono ?_); (case side1 => repeat (first | exact (Kd.C_below HR0_0.out HB.out) | (with_reducible refine Kd.C_alloc ?_ _) | (with_reducible refine Kd.C_drewN ?_ _) | (with_reducible refine Kd.C_drew ?_))); (case side2 => exact HC0_0.out); rintro e w' ⟨rfl, ⟨nd, rfl⟩⟩) | (go_at_call 80; (with_reducible refine (impl_within.calls (l0_1.length : Int) 1 8 t719 _ A8.out).mono ?_); rintro e w' ⟨rfl, ⟨nd, rfl⟩⟩))
        go_meet
        case rel => exact ⟨_, (!t719), (by first | rfl | (simp; done) | (simp [*]; done)), H', ⟨by first | omega | exact Nat.le_refl _⟩, ⟨by (with_reducible repeat (first | refine blk_drewN ?_ _ | refine blk_drew ?_ | refine blk_alloc ?_ _)); exact BK717.out⟩, ⟨by repeat (first | (with_reducible first | exact HB.out | apply below_alloc | apply pw_below_drewN | apply below_drew1 | refine below_set ?_ GE717.out) | exact HB.out)⟩⟩
      · replace c7 := Bool.eq_false_iff.mpr c7
        subst c7
        have H1 : (impl_FormatQuery.j0 k true l0_0 l0_1) = some r := by rw [if_neg (show ¬ (false = true) by decide)] at H; exact H
        clear H
        have H := H1
        clear H1
        have H' := Aside0.mk H
        clear H
        have hcz10_0 : w3.cell? ⟨gb717, 0, none⟩ = some (.slice A0_0 l0_0.length c0_0) := (blk_cell BK717.out 0).trans rfl
        have hcz10_1 : w3.cell? ⟨gb717, 1, none⟩ = some (.slice A0_1 l0_1.length c0_1) := (blk_cell BK717.out 1).trans rfl
        have hfz10_0 := blk_frozen BK717.out 0
        have hfz10_1 := blk_frozen BK717.out 1
        go_wp2_with (first | (go_at_call 149; (with_reducible refine (impl_areTerms.calls k _ _ l0_0 false _ ?side1 ?side2 A6.out).mono ?_); (case side1 => repeat (first | exact (Kd.C_below HR0_0.out HB.out) | (with_reducible refine Kd.C_alloc ?_ _) | (with_reducible refine Kd.C_drewN ?_ _) | (with_reducible refine Kd.C_drew ?_))); (case side2 => exact HC0_0.out); rintro e w' ⟨rfl, ⟨nd, rfl⟩⟩))
        go_meet
        case rel => exact ⟨_, (true), (by first | rfl | (simp; done) | (simp [*]; done)), H', ⟨by first | omega | exact Nat.le_refl _⟩, ⟨by (with_reducible repeat (first | refine blk_drewN ?_ _ | refine blk_drew ?_ | refine blk_alloc ?_ _)); exact BK717.out⟩, ⟨by repeat (first | (with_reducible first | exact HB.out | apply below_alloc | apply pw_below_drewN | apply below_drew1 | refine below_set ?_ GE717.out) | exact HB.out)⟩⟩
  case rest =>
    clear HC2
    try clear c1
    try clear p2
    try clear c4
    try clear c4b0
    try clear c4b1
    try clear c7
    try clear c10
    try clear hcz10_0
    try clear hcz10_1
    try clear hcz5_0
    try clear hcz5_1
    try clear hcz9_0
    try clear hcz9_1
    try clear hfz10_0
    try clear hfz10_1
    try clear hfz5_0
    try clear hfz5_1
    try clear hfz9_0
    try clear hfz9_1
    obtain ⟨kq, x27_1, rfl, HA, HJ1, BK717, HB⟩ := hcut
    cases kq with
    | zero => exact absurd HA.out (by simp [impl_FormatQuery.j0])
    | succ kj1 =>
      have H := HA.out
      clear HA
      simp only [impl_FormatQuery.j0] at H
      by_cases c11 : x27_1 = true
      · subst c11
        have H1 : (some (⟨#[]⟩ : ByteArray)) = some r := by rw [if_pos rfl] at H; exact H
        clear H
        have H := H1
        clear H1
        obtain rfl := Option.some.inj H
        go_wp2
        go_ret
        exact ⟨by first | rfl | (simp [errW_none, errW_some] <;> rfl) | (simp [*, errW_none, errW_some] <;> rfl), by repeat (first | (with_reducible first | exact HB.out | apply below_alloc | apply pw_below_drewN | apply below_drew1 | refine below_set ?_ GE717.out) | exact HB.out)⟩
      · replace c11 := Bool.eq_false_iff.mpr c11
        subst c11
        have H1 : (impl_FormatQuery.l0 kj1 (([] : List ByteArray)) (([] : List ByteArray)) l0_0 (l0_0.length : Int) 0 l0_0 l0_1) = some r := by rw [if_neg (show ¬ (false = true) by decide)] at H; exact H
        clear H
        have H := H1
        clear H1
        obtain ⟨y720, hy720⟩ : ∃ y_ : List ByteArray, y_ = (([] : List ByteArray)) := ⟨_, rfl⟩
        replace H : (impl_FormatQuery.l0 kj1 y720 (([] : List ByteArray)) l0_0 (l0_0.length : Int) 0 l0_0 l0_1) = some r := by first | (rw [hy720]; with_reducible exact H) | (have H2_ := (Option.bind_some _ _).symm.trans H; rw [hy720]; with_reducible exact H2_) | (have H2_ := (Option.bind_some _ _).symm.trans H; with_reducible exact H2_) | with_reducible exact H | (rw [hy720]; exact H) | exact H
        have Ny720 := Aside0.mk hy720
        clear hy720
        obtain ⟨y723, hy723⟩ : ∃ y_ : List ByteArray, y_ = (([] : List ByteArray)) := ⟨_, rfl⟩
        replace H : (impl_FormatQuery.l0 kj1 y720 y723 l0_0 (l0_0.length : Int) 0 l0_0 l0_1) = some r := by first | (rw [hy723]; with_reducible exact H) | (have H2_ := (Option.bind_some _ _).symm.trans H; rw [hy723]; with_reducible exact H2_) | (have H2_ := (Option.bind_some _ _).symm.trans H; with_reducible exact H2_) | with_reducible exact H | (rw [hy723]; exact H) | exact H
        have Ny723 := Aside0.mk hy723
        clear hy723
        have H' := Aside0.mk H
        clear H
        go_wp2_with (first | ((with_reducible refine gate_dst (N := 28) rfl ?_); (try (refine gate_guard (by rfl) ?_; dsimp only)); refine Kd.R_lit Kd.string _ 9 ?hg (N := 28) ?hd (xs := ([] : List ByteArray)) (inner := []) (ok := fun _ => True) (okp := fun _ => True) ?hr ?hp (fun _ hk => hk) trivial (Below.refl _ _) (Nat.le_refl _) (by simp) ?_; (case hd => rfl); (case hg => rfl); (case hr => first | (go_simp; done) | (go_simp; rfl)); (case hp => exact (Reps.none _ _)); intro v721 w12 ho13 hb hg_ hnew_; clear hg_ hnew_; (first | rw [← Ny720.out] at ho13 | (simp only [Int.reduceToNat] at ho13; rw [← Ny720.out] at ho13)); have n0_ := Aside0.mk (Kd.R_lower ho13 (below_size (by repeat (first | (with_reducible first | exact HB.out | apply below_alloc | apply pw_below_drewN | apply below_drew1 | refine below_set ?_ GE717.out) | exact HB.out)))); have n1_ := Aside0.mk (blk_below (g := gb717) (o := .cells #[.slice A0_0 l0_0.length c0_0, .slice A0_1 l0_1.length c0_1] 72 (0, 0)) (by (with_reducible repeat (first | refine blk_drewN ?_ _ | refine blk_drew ?_ | refine blk_alloc ?_ _)); exact BK717.out) hb); have n2_ := Aside0.mk (below_step (by repeat (first | (with_reducible first | exact HB.out | apply below_alloc | apply pw_below_drewN | apply below_drew1 | refine below_set ?_ GE717.out) | exact HB.out)) hb); clear BK717; clear HB; have HO722 := n0_; have BK717 := n1_; have HB := n2_; clear n0_ n1_ n2_; clear hb ho13) | ((with_reducible refine gate_dst (N := 29) rfl ?_); (try (refine gate_guard (by rfl) ?_; dsimp only)); refine Kd.R_lit Kd.string _ 9 ?hg (N := 29) ?hd (xs := ([] : List ByteArray)) (inner := []) (ok := fun _ => True) (okp := fun _ => True) ?hr ?hp (fun _ hk => hk) trivial (Below.refl _ _) (Nat.le_refl _) (by simp) ?_; (case hd => rfl); (case hg => rfl); (case hr => first | (go_simp; done) | (go_simp; rfl)); (case hp => exact (Reps.none _ _)); intro v724 w14 ho15 hb hg_ hnew_; clear hg_ hnew_; (first | rw [← Ny723.out] at ho15 | (simp only [Int.reduceToNat] at ho15; rw [← Ny723.out] at ho15)); have n0_ := Aside0.mk (Kd.R_elder' (by (with_reducible repeat (first | apply Kd.R_alloc | apply Kd.R_drewN | apply Kd.R_drew)); exact HO722.out) (Kd.R_base ho15) hb); have n1_ := Aside0.mk (Kd.R_lower (Kd.R_new' ho15 (Kd.R_lt (by (with_reducible repeat (first | apply Kd.R_alloc | apply Kd.R_drewN | apply Kd.R_drew)); exact HO722.out))) (below_size (by repeat (first | (with_reducible first | exact HB.out | apply below_alloc | apply pw_below_drewN | apply below_drew1 | refine below_set ?_ GE717.out) | exact HB.out)))); have n2_ := Aside0.mk (blk_below (g := gb717) (o := .cells #[.slice A0_0 l0_0.length c0_0, .slice A0_1 l0_1.length c0_1] 72 (0, 0)) (by (with_reducible repeat (first | refine blk_drewN ?_ _ | refine blk_drew ?_ | refine blk_alloc ?_ _)); exact BK717.out) hb); have n3_ := Aside0.mk (below_step (by repeat (first | (with_reducible first | exact HB.out | apply below_alloc | apply pw_below_drewN | apply below_drew1 | refine below_set ?_ GE717.out) | exact HB.out)) hb); clear HO722; clear BK717; clear HB; have HO722 := n0_; have HO725 := n1_; have BK717 := n2_; have HB := n3_; clear n0_ n1_ n2_ n3_; clear hb ho15; have hcz16_0 : w14.cell? ⟨gb717, 0, none⟩ = some (.slice A0_0 l0_0.length c0_0) := (blk_cell BK717.out 0).trans rfl; have hcz16_1 : w14.cell? ⟨gb717, 1, none⟩ = some (.slice A0_1 l0_1.length c0_1) := (blk_cell BK717.out 1).trans rfl; have hfz16_0 := blk_frozen BK717.out 0; have hfz16_1 := blk_frozen BK717.out 1))
        go_loopg [3, 33] kj1 (fun kq v3 v33 w' => ∃ (x3_2 : List ByteArray) (x33_2 : Int), v33 = .int .i64 x33_2 ∧ Aside0 (impl_FormatQuery.l0 kq x3_2 y723 l0_0 (l0_0.length : Int) x33_2 l0_0 l0_1 = some r) ∧ Aside0 (kq ≤ kj1) ∧ Aside0 (Kd.R Kd.string 9 w' w.heap.size (fun k_ => some k_ ≠ (v724 : Value).ownBlock) v3 x3_2) ∧ Aside0 (Kd.R Kd.string 9 w' w.heap.size (fun k_ => some k_ ≠ (v3 : Value).ownBlock) v724 y723) ∧ Aside0 (w'.heap[gb717]? = some (.cells #[(.slice A0_0 l0_0.length c0_0), (.slice A0_1 l0_1.length c0_1)] 72 (0, 0))) ∧ Aside0 (Below w.heap.size w w'))
        case atStart => exact ⟨(y720), (0), (by first | rfl | (simp; done) | (simp [*]; done)), H', ⟨Nat.le_refl _⟩, ⟨by (with_reducible repeat (first | apply Kd.R_alloc | apply Kd.R_drewN | apply Kd.R_drew)); exact Kd.R_mono HO722.out (fun _ hk => hk.2)⟩, ⟨by (with_reducible repeat (first | apply Kd.R_alloc | apply Kd.R_drewN | apply Kd.R_drew)); exact Kd.R_mono HO725.out (fun _ hk => hk.2)⟩, ⟨by (with_reducible repeat (first | refine blk_drewN ?_ _ | refine blk_drew ?_ | refine blk_alloc ?_ _)); exact BK717.out⟩, ⟨by repeat (first | (with_reducible first | exact HB.out | apply below_alloc | apply pw_below_drewN | apply below_drew1 | refine below_set ?_ GE717.out) | exact HB.out)⟩⟩
        case round =>
          clear H'
          try clear c1
          try clear p2
          try clear c4
          try clear c4b0
          try clear c4b1
          try clear c7
          try clear c10
          try clear c11
          try clear hcz10_0
          try clear hcz10_1
          try clear hcz16_0
          try clear hcz16_1
          try clear hcz5_0
          try clear hcz5_1
          try clear hcz9_0
          try clear hcz9_1
          try clear hfz10_0
          try clear hfz10_1
          try clear hfz16_0
          try clear hfz16_1
          try clear hfz5_0
          try clear hfz5_1
          try clear hfz9_0
          try clear hfz9_1
          try clear p2
          obtain ⟨x3_2, x33_2, rfl, HA, HK2, HO_3, HO_4, BK717, HB⟩ := hrel
          cases gk with
          | zero => exact absurd HA.out (by simp [impl_FormatQuery.l0])
          | succ k2 =>
            have H := HA.out
            clear HA
            simp only [impl_FormatQuery.l0] at H
            by_cases c17 : x33_2 < (l0_0.length : Int)
            · rw [if_pos c17] at H
              have c17b0 : decide (x33_2 < (l0_0.length : Int)) = true := decide_eq_true c17
              clear c17
              by_cases c18 : 0 ≤ x33_2
              · rw [if_pos c18] at H
                have c18b0 : decide (0 ≤ x33_2) = true := decide_eq_true c18
                clear c18
                by_cases c19 : x33_2 < (l0_0.length : Int)
                · rw [if_pos c19] at H
                  have c19b0 : decide (x33_2 < (l0_0.length : Int)) = true := decide_eq_true c19
                  clear c19
                  replace H := Option.bind_eq_some_iff.mp H
                  obtain ⟨t727, A200, H⟩ := H
                  replace H : (if x3_2.length < 8796093022208 then (impl_FormatQuery.l0 k2 (x3_2 ++ [t727]) y723 l0_0 (l0_0.length : Int) (wrap64 (x33_2 + 1)) l0_0 l0_1) else (none)) = some r := H
                  have A20 := Aside0.mk A200
                  clear A200
                  by_cases c21 : x3_2.length < 8796093022208
                  · rw [if_pos c21] at H
                    have LMc21 := Aside0.mk c21
                    clear c21
                    obtain ⟨y728, hy728⟩ : ∃ y_ : List ByteArray, y_ = (x3_2 ++ [t727]) := ⟨_, rfl⟩
                    replace H : (impl_FormatQuery.l0 k2 y728 y723 l0_0 (l0_0.length : Int) (wrap64 (x33_2 + 1)) l0_0 l0_1) = some r := by first | (rw [hy728]; with_reducible exact H) | (have H2_ := (Option.bind_some _ _).symm.trans H; rw [hy728]; with_reducible exact H2_) | (have H2_ := (Option.bind_some _ _).symm.trans H; with_reducible exact H2_) | with_reducible exact H | (rw [hy728]; exact H) | exact H
                    have Ny728 := Aside0.mk hy728
                    clear hy728
                    have H' := Aside0.mk H
                    clear H
                    have p726 : 0 ≤ (x33_2 : Int) := of_decide_eq_true (by first | (with_reducible assumption) | assumption)
                    have q726 : x33_2 < (l0_0.length : Int) := of_decide_eq_true (by first | (with_reducible assumption) | assumption)
                    obtain ⟨ad726, e726, hx726_0⟩ := Kd.at_int HR0_0.out x33_2 p726 q726
                    cases e726
                    replace hx726_0 := (HB.out.cell (World.block_lt_of_cell? w _ hx726_0)).trans hx726_0
                    replace p726 := eq_true p726
                    replace q726 := eq_true q726
                    go_wp2_with (first | ((with_reducible refine gate_callee (f := 150) rfl ?_); refine goesL_ (some 39) rfl rfl Try.func150 (by kernel_rfl) rfl #[.int .i64 (rd l0_0 x33_2)] rfl (by (try simp only [List.map_toArray, List.map_cons, List.map_nil]); first | done | rfl | (simp only [List.length_drop, List.length_take]; rfl)) ?_; (with_reducible refine (impl_FormatTerm.calls k2 (rd l0_0 x33_2) t727 _ A20.out).mono ?_); rintro e w22 ⟨rfl, hb⟩; refine ⟨_, rfl, ?_⟩; have n0_ := Aside0.mk (Kd.R_below (by (with_reducible repeat (first | apply Kd.R_alloc | apply Kd.R_drewN | apply Kd.R_drew)); exact HO_3.out) hb); have n1_ := Aside0.mk (Kd.R_below (by (with_reducible repeat (first | apply Kd.R_alloc | apply Kd.R_drewN | apply Kd.R_drew)); exact HO_4.out) hb); have n2_ := Aside0.mk (blk_below (g := gb717) (o := .cells #[.slice (some ad726) l0_0.length c0_0, .slice A0_1 l0_1.length c0_1] 72 (0, 0)) (by (with_reducible repeat (first | refine blk_drewN ?_ _ | refine blk_drew ?_ | refine blk_alloc ?_ _)); exact BK717.out) hb); have n3_ := Aside0.mk (below_step (by repeat (first | (with_reducible first | exact HB.out | apply below_alloc | apply pw_below_drewN | apply below_drew1 | refine below_set ?_ GE717.out) | exact HB.out)) hb); clear HO_3; clear HO_4; clear BK717; clear HB; have HO_3 := n0_; have HO_4 := n1_; have BK717 := n2_; have HB := n3_; clear n0_ n1_ n2_ n3_; (try clear hb); (try clear hb2); (try clear hk); (try clear hi)) | ((with_reducible refine gate_builtin (b := .append) (xs := #[.tmp 37, .tmp 40]) rfl ?_); (try (refine gate_guard (by rfl) ?_; dsimp only)); at_builtin; refine Kd.R_append Kd.string (w0 := w) w.heap.size rfl (.tmp 37) (.tmp 40) 24 9 (.string ⟨#[]⟩) 16 rfl Try.underlying24 info9 rfl (by decide) (by omega) u3 x3_2 t727 [.string t727] (fun k_ => some k_ ≠ (v724 : Value).ownBlock) (fun _ => False) rfl rfl ?aP (fun _ hk => hk.elim) ?aF ?aO ?aB ?aS ?aL ?_; (case aP => exact rfl); (case aB => exact (by repeat (first | (with_reducible first | exact HB.out | apply below_alloc | apply pw_below_drewN | apply below_drew1 | refine below_set ?_ GE717.out) | exact HB.out))); (case aF => exact (fun k_ hk => Kd.fresh' (Kd.R_lt (by (with_reducible repeat (first | apply Kd.R_alloc | apply Kd.R_drewN | apply Kd.R_drew)); exact HO_4.out)) k_ hk)); (case aO => exact (by (with_reducible repeat (first | apply Kd.R_alloc | apply Kd.R_drewN | apply Kd.R_drew)); exact HO_3.out)); (case aS => exact (below_size (by repeat (first | (with_reducible first | exact HB.out | apply below_alloc | apply pw_below_drewN | apply below_drew1 | refine below_set ?_ GE717.out) | exact HB.out)))); (case aL => have := LMc21.out; omega); intro v729 w23 ho hb hg hat; rw [← Ny728.out] at ho; have n0_ := Aside0.mk (Kd.R_after (ok := (fun _ => True)) (by (with_reducible repeat (first | apply Kd.R_alloc | apply Kd.R_drewN | apply Kd.R_drew)); exact Kd.R_mono HO_4.out (fun _ hk => ⟨trivial, hk⟩)) hg hat); have n1_ := Aside0.mk (blk_grown (g := gb717) (o := .cells #[.slice (some ad726) l0_0.length c0_0, .slice A0_1 l0_1.length c0_1] 72 (0, 0)) (by (with_reducible repeat (first | refine blk_drewN ?_ _ | refine blk_drew ?_ | refine blk_alloc ?_ _)); exact BK717.out) hg (Kd.R_ne HO_3.out BK717.out (by decide))); have n2_ := Aside0.mk (hb); have n3_ := Aside0.mk (ho); clear HO_4; clear BK717; clear HB; clear HO_3; have HO_4 := n0_; have BK717 := n1_; have HB := n2_; have HO730 := n3_; clear n0_ n1_ n2_ n3_; clear ho hb hg hat))
                    go_roundg k2
                    case measure => have := HJ1.out; have := HK2.out; omega
                    case rel => exact ⟨(y728), (wrap64 (x33_2 + 1)), (by first | rfl | (simp; done) | (simp [*]; done)), H', ⟨by have := HJ1.out; have := HK2.out; omega⟩, ⟨by (with_reducible repeat (first | apply Kd.R_alloc | apply Kd.R_drewN | apply Kd.R_drew)); exact HO730.out⟩, ⟨by (with_reducible repeat (first | apply Kd.R_alloc | apply Kd.R_drewN | apply Kd.R_drew)); exact Kd.R_mono HO_4.out (fun _ hk => hk.2)⟩, ⟨by (with_reducible repeat (first | refine blk_drewN ?_ _ | refine blk_drew ?_ | refine blk_alloc ?_ _)); exact BK717.out⟩, ⟨by repeat (first | (with_reducible first | exact HB.out | apply below_alloc | apply pw_below_drewN | apply below_drew1 | refine below_set ?_ GE717.out) | exact HB.out)⟩⟩
                  · rw [if_neg c21] at H
                    exact absurd H (by simp)
                · rw [if_neg c19] at H
                  exact absurd H (by simp)
              · rw [if_neg c18] at H
                exact absurd H (by simp)
            · rw [if_neg c17] at H
              have c17b0 : decide (x33_2 < (l0_0.length : Int)) = false := decide_eq_false c17
              clear c17
              have H' := Aside0.mk H
              clear H
              have hcz24_0 : wr.cell? ⟨gb717, 0, none⟩ = some (.slice A0_0 l0_0.length c0_0) := (blk_cell BK717.out 0).trans rfl
              have hcz24_1 : wr.cell? ⟨gb717, 1, none⟩ = some (.slice A0_1 l0_1.length c0_1) := (blk_cell BK717.out 1).trans rfl
              have hfz24_0 := blk_frozen BK717.out 0
              have hfz24_1 := blk_frozen BK717.out 1
              go_wp2
              go_loopg [4, 46] k2 (fun kq v4 v46 w' => ∃ (x4_3 : List ByteArray) (x46_3 : Int), v46 = .int .i64 x46_3 ∧ Aside0 (impl_FormatQuery.l1 kq x3_2 x4_3 l0_1 (l0_1.length : Int) x46_3 = some r) ∧ Aside0 (kq ≤ k2) ∧ Aside0 (Kd.R Kd.string 9 w' w.heap.size (fun k_ => some k_ ≠ (v4 : Value).ownBlock) u3 x3_2) ∧ Aside0 (Kd.R Kd.string 9 w' w.heap.size (fun k_ => some k_ ≠ (u3 : Value).ownBlock) v4 x4_3) ∧ Aside0 (w'.heap[gb717]? = some (.cells #[(.slice A0_0 l0_0.length c0_0), (.slice A0_1 l0_1.length c0_1)] 72 (0, 0))) ∧ Aside0 (Below w.heap.size w w'))
              case atStart => exact ⟨(y723), (0), (by first | rfl | (simp; done) | (simp [*]; done)), H', ⟨Nat.le_refl _⟩, ⟨by (with_reducible repeat (first | apply Kd.R_alloc | apply Kd.R_drewN | apply Kd.R_drew)); exact HO_3.out⟩, ⟨by (with_reducible repeat (first | apply Kd.R_alloc | apply Kd.R_drewN | apply Kd.R_drew)); exact HO_4.out⟩, ⟨by (with_reducible repeat (first | refine blk_drewN ?_ _ | refine blk_drew ?_ | refine blk_alloc ?_ _)); exact BK717.out⟩, ⟨by repeat (first | (with_reducible first | exact HB.out | apply below_alloc | apply pw_below_drewN | apply below_drew1 | refine below_set ?_ GE717.out) | exact HB.out)⟩⟩
              case round =>
                clear H'
                try clear c1
                try clear c2
                try clear p2
                try clear c4
                try clear c4b0
                try clear c4b1
                try clear p6
                try clear c7
                try clear p7
                try clear q7
                try clear hx7
                try clear c10
                try clear c11
                try clear c15
                try clear c17
                try clear c17b0
                try clear c18
                try clear c18b0
                try clear c19
                try clear c19b0
                try clear c21
                try clear hcz10_0
                try clear hcz10_1
                try clear hcz16_0
                try clear hcz16_1
                try clear hcz24_0
                try clear hcz24_1
                try clear hcz5_0
                try clear hcz5_1
                try clear hcz9_0
                try clear hcz9_1
                try clear hfz10_0
                try clear hfz10_1
                try clear hfz16_0
                try clear hfz16_1
                try clear hfz24_0
                try clear hfz24_1
                try clear hfz5_0
                try clear hfz5_1
                try clear hfz9_0
                try clear hfz9_1
                try clear hx726_0
                try clear p2
                try clear p726
                try clear q726
                obtain ⟨x4_3, x46_3, rfl, HA, HK3, HO_3, HO_4, BK717, HB⟩ := hrel
                cases gk with
                | zero => exact absurd HA.out (by simp [impl_FormatQuery.l1])
                | succ k3 =>
                  have H := HA.out
                  clear HA
                  simp only [impl_FormatQuery.l1] at H
                  by_cases c25 : x46_3 < (l0_1.length : Int)
                  · rw [if_pos c25] at H
                    have c25b0 : decide (x46_3 < (l0_1.length : Int)) = true := decide_eq_true c25
                    clear c25
                    by_cases c26 : 0 ≤ x46_3
                    · rw [if_pos c26] at H
                      have c26b0 : decide (0 ≤ x46_3) = true := decide_eq_true c26
                      clear c26
                      by_cases c27 : x46_3 < (l0_1.length : Int)
                      · rw [if_pos c27] at H
                        have c27b0 : decide (x46_3 < (l0_1.length : Int)) = true := decide_eq_true c27
                        clear c27
                        replace H := Option.bind_eq_some_iff.mp H
                        obtain ⟨t733, A280, H⟩ := H
                        replace H : (if t733.toList = ([] : List UInt8) then (some (⟨#[]⟩ : ByteArray)) else (if x4_3.length < 8796093022208 then (impl_FormatQuery.l1 k3 x3_2 (x4_3 ++ [t733]) l0_1 (l0_1.length : Int) (wrap64 (x46_3 + 1))) else (none))) = some r := H
                        have A28 := Aside0.mk A280
                        clear A280
                        by_cases c29 : t733.toList = ([] : List UInt8)
                        · rw [if_pos c29] at H
                          have c29b0 : (t733.toList == ([] : List UInt8)) = true := beq_iff_eq.mpr c29
                          have c29b1 : (t733.toList != ([] : List UInt8)) = false := bne_eq_false_iff_eq.mpr c29
                          clear c29
                          obtain rfl := Option.some.inj H
                          have p731 : 0 ≤ (x46_3 : Int) := of_decide_eq_true (by first | (with_reducible assumption) | assumption)
                          have q731 : x46_3 < (l0_1.length : Int) := of_decide_eq_true (by first | (with_reducible assumption) | assumption)
                          obtain ⟨ad731, A731_1, c731_1, e731, hx731_0, hx731_1, hl731_1, hi731_1⟩ := at_T153 HR0_1.out x46_3 p731 q731
                          cases e731
                          replace hx731_0 := (HB.out.cell (World.block_lt_of_cell? w _ hx731_0)).trans hx731_0
                          replace hx731_1 := (HB.out.cell (World.block_lt_of_cell? w _ hx731_1)).trans hx731_1
                          have HR731_1 := Aside0.mk hi731_1
                          have HC731_1 := Aside0.mk hl731_1
                          clear hi731_1 hl731_1
                          replace p731 := eq_true p731
                          replace q731 := eq_true q731
                          go_wp2_with (first | ((with_reducible refine gate_dst (N := 8) rfl ?_); (try (refine gate_guard (by rfl) ?_; dsimp only)); refine box_event ?hg (N := 8) ?hd (cs := #[.int .i64 0, .slice none 0 0]) (t := 153) ?hr ?_; (case hd => rfl); (case hg => rfl); (case hr => first | (go_simp; done) | (go_simp; rfl)); intro gb732 hg w30 hbox hb; have n0_ := Aside0.mk (Kd.R_below (by (with_reducible repeat (first | apply Kd.R_alloc | apply Kd.R_drewN | apply Kd.R_drew)); exact HO_3.out) hb); have n1_ := Aside0.mk (Kd.R_below (by (with_reducible repeat (first | apply Kd.R_alloc | apply Kd.R_drewN | apply Kd.R_drew)); exact HO_4.out) hb); have n2_ := Aside0.mk (blk_below (g := gb717) (o := .cells #[.slice A0_0 l0_0.length c0_0, .slice (some ad731) l0_1.length c0_1] 72 (0, 0)) (by (with_reducible repeat (first | refine blk_drewN ?_ _ | refine blk_drew ?_ | refine blk_alloc ?_ _)); exact BK717.out) hb); have n3_ := Aside0.mk (below_step (by repeat (first | (with_reducible first | exact HB.out | apply below_alloc | apply pw_below_drewN | apply below_drew1 | refine below_set ?_ GE717.out) | exact HB.out)) hb); have n4_ := Aside0.mk (hbox); have n5_ := Aside0.mk ((by rw [hg]; exact (below_size (by repeat (first | (with_reducible first | exact HB.out | apply below_alloc | apply pw_below_drewN | apply below_drew1 | refine below_set ?_ GE717.out) | exact HB.out))) : w.heap.size ≤ gb732)); have n6_ := Aside0.mk ((by rw [hg]; exact (below_size (by repeat (first | (with_reducible first | exact HB.out | apply below_alloc | apply pw_below_drewN | apply below_drew1 | refine below_set ?_ GE717.out) | exact HB.out))) : w.heap.size ≤ gb732)); have n7_ := Aside0.mk ((by rw [hg]; exact Nat.ne_of_lt (blk_lt (g := gb717) (o := .cells #[.slice A0_0 l0_0.length c0_0, .slice (some ad731) l0_1.length c0_1] 72 (0, 0)) (by (with_reducible repeat (first | refine blk_drewN ?_ _ | refine blk_drew ?_ | refine blk_alloc ?_ _)); exact BK717.out)) : gb717 ≠ gb732)); have n8_ := Aside0.mk ((by rw [hg]; exact Nat.ne_of_gt (blk_lt (g := gb717) (o := .cells #[.slice A0_0 l0_0.length c0_0, .slice (some ad731) l0_1.length c0_1] 72 (0, 0)) (by (with_reducible repeat (first | refine blk_drewN ?_ _ | refine blk_drew ?_ | refine blk_alloc ?_ _)); exact BK717.out)) : gb732 ≠ gb717)); clear HO_3; clear HO_4; clear BK717; clear HB; have HO_3 := n0_; have HO_4 := n1_; have BK717 := n2_; have HB := n3_; have BK732 := n4_; have GW732 := n5_; have GE732 := n6_; have NB717_732 := n7_; have NB732_717 := n8_; clear n0_ n1_ n2_ n3_ n4_ n5_ n6_ n7_ n8_; clear hb hbox hg; have hnb31 := NB732_717.out; have hnc31 := NB717_732.out; have hcz32_0 : w30.cell? ⟨gb732, 0, none⟩ = some (.int .i64 0) := (blk_cell BK732.out 0).trans rfl; have hcz32_1 : w30.cell? ⟨gb732, 1, none⟩ = some (.slice none 0 0) := (blk_cell BK732.out 1).trans rfl; have hfz32_0 := blk_frozen BK732.out 0; have hfz32_1 := blk_frozen BK732.out 1) | ((with_reducible refine gate_callee (f := 151) rfl ?_); refine goesL_ (some 51) rfl rfl Try.func151 (by kernel_rfl) rfl #[.agg #[.int .i64 ((rd_T153 l0_1 x46_3).f0), .slice A731_1 ((rd_T153 l0_1 x46_3).f1).length c731_1]] rfl (by (try simp only [List.map_toArray, List.map_cons, List.map_nil]); first | done | rfl | (simp only [List.length_drop, List.length_take]; rfl)) ?_; (with_reducible refine (impl_FormatAtom.calls k3 ((rd_T153 l0_1 x46_3).f0) _ _ ((rd_T153 l0_1 x46_3).f1) t733 _ ?side1 ?side2 A28.out).mono ?_); (case side1 => exact Kd.C_below HR731_1.out (by repeat (first | (with_reducible first | exact HB.out | apply below_alloc | apply pw_below_drewN | apply below_drew1 | refine below_set ?_ GE717.out | refine below_set ?_ GE732.out) | exact HB.out))); (case side2 => exact HC731_1.out); rintro e w33 ⟨rfl, hb⟩; refine ⟨_, rfl, ?_⟩; have n0_ := Aside0.mk (Kd.R_below (by (with_reducible repeat (first | apply Kd.R_alloc | apply Kd.R_drewN | apply Kd.R_drew)); exact (Kd.R_mono (Kd.R_far (p := ⟨gb732, 1, none⟩) (Kd.R_far (p := ⟨gb732, 0, none⟩) (Kd.R_types HO_3.out BK732.out (by decide)) (fun _ hk => hk.2) (.int .i64 ((rd_T153 l0_1 x46_3).f0))) (fun _ hk => hk.2) (.slice A731_1 ((rd_T153 l0_1 x46_3).f1).length c731_1)) (fun _ h_ => h_.1))) hb); have n1_ := Aside0.mk (Kd.R_below (by (with_reducible repeat (first | apply Kd.R_alloc | apply Kd.R_drewN | apply Kd.R_drew)); exact (Kd.R_mono (Kd.R_far (p := ⟨gb732, 1, none⟩) (Kd.R_far (p := ⟨gb732, 0, none⟩) (Kd.R_types HO_4.out BK732.out (by decide)) (fun _ hk => hk.2) (.int .i64 ((rd_T153 l0_1 x46_3).f0))) (fun _ hk => hk.2) (.slice A731_1 ((rd_T153 l0_1 x46_3).f1).length c731_1)) (fun _ h_ => h_.1))) hb); have n2_ := Aside0.mk (blk_below (g := gb717) (o := .cells #[.slice A0_0 l0_0.length c0_0, .slice (some ad731) l0_1.length c0_1] 72 (0, 0)) (by (with_reducible repeat (first | refine blk_drewN ?_ _ | refine blk_drew ?_ | refine blk_alloc ?_ _)); refine blk_far ?_ NB717_732.out _; (with_reducible repeat (first | refine blk_drewN ?_ _ | refine blk_drew ?_ | refine blk_alloc ?_ _)); refine blk_far ?_ NB717_732.out _; (with_reducible repeat (first | refine blk_drewN ?_ _ | refine blk_drew ?_ | refine blk_alloc ?_ _)); exact BK717.out) hb); have n3_ := Aside0.mk (blk_below (g := gb732) (o := .cells #[.int .i64 ((rd_T153 l0_1 x46_3).f0), .slice A731_1 ((rd_T153 l0_1 x46_3).f1).length c731_1] 153 (0, 0)) (by (with_reducible repeat (first | refine blk_drewN ?_ _ | refine blk_drew ?_ | refine blk_alloc ?_ _)); refine blk_put (cs := #[.int .i64 ((rd_T153 l0_1 x46_3).f0), .slice none 0 0]) ?_ 1 _ rfl; (with_reducible repeat (first | refine blk_drewN ?_ _ | refine blk_drew ?_ | refine blk_alloc ?_ _)); refine blk_put (cs := #[.int .i64 0, .slice none 0 0]) ?_ 0 _ rfl; (with_reducible repeat (first | refine blk_drewN ?_ _ | refine blk_drew ?_ | refine blk_alloc ?_ _)); exact BK732.out) hb); have n4_ := Aside0.mk (below_step (by repeat (first | (with_reducible first | exact HB.out | apply below_alloc | apply pw_below_drewN | apply below_drew1 | refine below_set ?_ GE717.out | refine below_set ?_ GE732.out) | exact HB.out)) hb); clear HO_3; clear HO_4; clear BK717; clear BK732; clear HB; have HO_3 := n0_; have HO_4 := n1_; have BK717 := n2_; have BK732 := n3_; have HB := n4_; clear n0_ n1_ n2_ n3_ n4_; (try clear hb); (try clear hb2); (try clear hk); (try clear hi)))
                          go_ret
                          exact ⟨by first | rfl | (simp [errW_none, errW_some] <;> rfl) | (simp [*, errW_none, errW_some] <;> rfl), by repeat (first | (with_reducible first | exact HB.out | apply below_alloc | apply pw_below_drewN | apply below_drew1 | refine below_set ?_ GE717.out | refine below_set ?_ GE732.out) | exact HB.out)⟩
                        · rw [if_neg c29] at H
                          have c29b0 : (t733.toList == ([] : List UInt8)) = false := beq_eq_false_iff_ne.mpr c29
                          have c29b1 : (t733.toList != ([] : List UInt8)) = true := bne_iff_ne.mpr c29
                          by_cases c34 : x4_3.length < 8796093022208
                          · rw [if_pos c34] at H
                            have LMc34 := Aside0.mk c34
                            clear c34
                            obtain ⟨y734, hy734⟩ : ∃ y_ : List ByteArray, y_ = (x4_3 ++ [t733]) := ⟨_, rfl⟩
                            replace H : (impl_FormatQuery.l1 k3 x3_2 y734 l0_1 (l0_1.length : Int) (wrap64 (x46_3 + 1))) = some r := by first | (rw [hy734]; with_reducible exact H) | (have H2_ := (Option.bind_some _ _).symm.trans H; rw [hy734]; with_reducible exact H2_) | (have H2_ := (Option.bind_some _ _).symm.trans H; with_reducible exact H2_) | with_reducible exact H | (rw [hy734]; exact H) | exact H
                            have Ny734 := Aside0.mk hy734
                            clear hy734
                            have H' := Aside0.mk H
                            clear H
                            have p731 : 0 ≤ (x46_3 : Int) := of_decide_eq_true (by first | (with_reducible assumption) | assumption)
                            have q731 : x46_3 < (l0_1.length : Int) := of_decide_eq_true (by first | (with_reducible assumption) | assumption)
                            obtain ⟨ad731, A731_1, c731_1, e731, hx731_0, hx731_1, hl731_1, hi731_1⟩ := at_T153 HR0_1.out x46_3 p731 q731
                            cases e731
                            replace hx731_0 := (HB.out.cell (World.block_lt_of_cell? w _ hx731_0)).trans hx731_0
                            replace hx731_1 := (HB.out.cell (World.block_lt_of_cell? w _ hx731_1)).trans hx731_1
                            have HR731_1 := Aside0.mk hi731_1
                            have HC731_1 := Aside0.mk hl731_1
                            clear hi731_1 hl731_1
                            replace p731 := eq_true p731
                            replace q731 := eq_true q731
                            go_wp2_with (first | ((with_reducible refine gate_dst (N := 8) rfl ?_); (try (refine gate_guard (by rfl) ?_; dsimp only)); refine box_event ?hg (N := 8) ?hd (cs := #[.int .i64 0, .slice none 0 0]) (t := 153) ?hr ?_; (case hd => rfl); (case hg => rfl); (case hr => first | (go_simp; done) | (go_simp; rfl)); intro gb732 hg w35 hbox hb; have n0_ := Aside0.mk (Kd.R_below (by (with_reducible repeat (first | apply Kd.R_alloc | apply Kd.R_drewN | apply Kd.R_drew)); exact HO_3.out) hb); have n1_ := Aside0.mk (Kd.R_below (by (with_reducible repeat (first | apply Kd.R_alloc | apply Kd.R_drewN | apply Kd.R_drew)); exact HO_4.out) hb); have n2_ := Aside0.mk (blk_below (g := gb717) (o := .cells #[.slice A0_0 l0_0.length c0_0, .slice (some ad731) l0_1.length c0_1] 72 (0, 0)) (by (with_reducible repeat (first | refine blk_drewN ?_ _ | refine blk_drew ?_ | refine blk_alloc ?_ _)); exact BK717.out) hb); have n3_ := Aside0.mk (below_step (by repeat (first | (with_reducible first | exact HB.out | apply below_alloc | apply pw_below_drewN | apply below_drew1 | refine below_set ?_ GE717.out) | exact HB.out)) hb); have n4_ := Aside0.mk (hbox); have n5_ := Aside0.mk ((by rw [hg]; exact (below_size (by repeat (first | (with_reducible first | exact HB.out | apply below_alloc | apply pw_below_drewN | apply below_drew1 | refine below_set ?_ GE717.out) | exact HB.out))) : w.heap.size ≤ gb732)); have n6_ := Aside0.mk ((by rw [hg]; exact (below_size (by repeat (first | (with_reducible first | exact HB.out | apply below_alloc | apply pw_below_drewN | apply below_drew1 | refine below_set ?_ GE717.out) | exact HB.out))) : w.heap.size ≤ gb732)); have n7_ := Aside0.mk ((by rw [hg]; exact Nat.ne_of_lt (blk_lt (g := gb717) (o := .cells #[.slice A0_0 l0_0.length c0_0, .slice (some ad731) l0_1.length c0_1] 72 (0, 0)) (by (with_reducible repeat (first | refine blk_drewN ?_ _ | refine blk_drew ?_ | refine blk_alloc ?_ _)); exact BK717.out)) : gb717 ≠ gb732)); have n8_ := Aside0.mk ((by rw [hg]; exact Nat.ne_of_gt (blk_lt (g := gb717) (o := .cells #[.slice A0_0 l0_0.length c0_0, .slice (some ad731) l0_1.length c0_1] 72 (0, 0)) (by (with_reducible repeat (first | refine blk_drewN ?_ _ | refine blk_drew ?_ | refine blk_alloc ?_ _)); exact BK717.out)) : gb732 ≠ gb717)); clear HO_3; clear HO_4; clear BK717; clear HB; have HO_3 := n0_; have HO_4 := n1_; have BK717 := n2_; have HB := n3_; have BK732 := n4_; have GW732 := n5_; have GE732 := n6_; have NB717_732 := n7_; have NB732_717 := n8_; clear n0_ n1_ n2_ n3_ n4_ n5_ n6_ n7_ n8_; clear hb hbox hg; have hnb36 := NB732_717.out; have hnc36 := NB717_732.out; have hcz37_0 : w35.cell? ⟨gb732, 0, none⟩ = some (.int .i64 0) := (blk_cell BK732.out 0).trans rfl; have hcz37_1 : w35.cell? ⟨gb732, 1, none⟩ = some (.slice none 0 0) := (blk_cell BK732.out 1).trans rfl; have hfz37_0 := blk_frozen BK732.out 0; have hfz37_1 := blk_frozen BK732.out 1) | ((with_reducible refine gate_callee (f := 151) rfl ?_); refine goesL_ (some 51) rfl rfl Try.func151 (by kernel_rfl) rfl #[.agg #[.int .i64 ((rd_T153 l0_1 x46_3).f0), .slice A731_1 ((rd_T153 l0_1 x46_3).f1).length c731_1]] rfl (by (try simp only [List.map_toArray, List.map_cons, List.map_nil]); first | done | rfl | (simp only [List.length_drop, List.length_take]; rfl)) ?_; (with_reducible refine (impl_FormatAtom.calls k3 ((rd_T153 l0_1 x46_3).f0) _ _ ((rd_T153 l0_1 x46_3).f1) t733 _ ?side1 ?side2 A28.out).mono ?_); (case side1 => exact Kd.C_below HR731_1.out (by repeat (first | (with_reducible first | exact HB.out | apply below_alloc | apply pw_below_drewN | apply below_drew1 | refine below_set ?_ GE717.out | refine below_set ?_ GE732.out) | exact HB.out))); (case side2 => exact HC731_1.out); rintro e w38 ⟨rfl, hb⟩; refine ⟨_, rfl, ?_⟩; have n0_ := Aside0.mk (Kd.R_below (by (with_reducible repeat (first | apply Kd.R_alloc | apply Kd.R_drewN | apply Kd.R_drew)); exact (Kd.R_mono (Kd.R_far (p := ⟨gb732, 1, none⟩) (Kd.R_far (p := ⟨gb732, 0, none⟩) (Kd.R_types HO_3.out BK732.out (by decide)) (fun _ hk => hk.2) (.int .i64 ((rd_T153 l0_1 x46_3).f0))) (fun _ hk => hk.2) (.slice A731_1 ((rd_T153 l0_1 x46_3).f1).length c731_1)) (fun _ h_ => h_.1))) hb); have n1_ := Aside0.mk (Kd.R_below (by (with_reducible repeat (first | apply Kd.R_alloc | apply Kd.R_drewN | apply Kd.R_drew)); exact (Kd.R_mono (Kd.R_far (p := ⟨gb732, 1, none⟩) (Kd.R_far (p := ⟨gb732, 0, none⟩) (Kd.R_types HO_4.out BK732.out (by decide)) (fun _ hk => hk.2) (.int .i64 ((rd_T153 l0_1 x46_3).f0))) (fun _ hk => hk.2) (.slice A731_1 ((rd_T153 l0_1 x46_3).f1).length c731_1)) (fun _ h_ => h_.1))) hb); have n2_ := Aside0.mk (blk_below (g := gb717) (o := .cells #[.slice A0_0 l0_0.length c0_0, .slice (some ad731) l0_1.length c0_1] 72 (0, 0)) (by (with_reducible repeat (first | refine blk_drewN ?_ _ | refine blk_drew ?_ | refine blk_alloc ?_ _)); refine blk_far ?_ NB717_732.out _; (with_reducible repeat (first | refine blk_drewN ?_ _ | refine blk_drew ?_ | refine blk_alloc ?_ _)); refine blk_far ?_ NB717_732.out _; (with_reducible repeat (first | refine blk_drewN ?_ _ | refine blk_drew ?_ | refine blk_alloc ?_ _)); exact BK717.out) hb); have n3_ := Aside0.mk (blk_below (g := gb732) (o := .cells #[.int .i64 ((rd_T153 l0_1 x46_3).f0), .slice A731_1 ((rd_T153 l0_1 x46_3).f1).length c731_1] 153 (0, 0)) (by (with_reducible repeat (first | refine blk_drewN ?_ _ | refine blk_drew ?_ | refine blk_alloc ?_ _)); refine blk_put (cs := #[.int .i64 ((rd_T153 l0_1 x46_3).f0), .slice none 0 0]) ?_ 1 _ rfl; (with_reducible repeat (first | refine blk_drewN ?_ _ | refine blk_drew ?_ | refine blk_alloc ?_ _)); refine blk_put (cs := #[.int .i64 0, .slice none 0 0]) ?_ 0 _ rfl; (with_reducible repeat (first | refine blk_drewN ?_ _ | refine blk_drew ?_ | refine blk_alloc ?_ _)); exact BK732.out) hb); have n4_ := Aside0.mk (below_step (by repeat (first | (with_reducible first | exact HB.out | apply below_alloc | apply pw_below_drewN | apply below_drew1 | refine below_set ?_ GE717.out | refine below_set ?_ GE732.out) | exact HB.out)) hb); clear HO_3; clear HO_4; clear BK717; clear BK732; clear HB; have HO_3 := n0_; have HO_4 := n1_; have BK717 := n2_; have BK732 := n3_; have HB := n4_; clear n0_ n1_ n2_ n3_ n4_; (try clear hb); (try clear hb2); (try clear hk); (try clear hi)) | ((with_reducible refine gate_builtin (b := .append) (xs := #[.tmp 54, .tmp 56]) rfl ?_); (try (refine gate_guard (by rfl) ?_; dsimp only)); at_builtin; refine Kd.R_append Kd.string (w0 := w) w.heap.size rfl (.tmp 54) (.tmp 56) 24 9 (.string ⟨#[]⟩) 16 rfl Try.underlying24 info9 rfl (by decide) (by omega) u4 x4_3 t733 [.string t733] (fun k_ => some k_ ≠ (u3 : Value).ownBlock) (fun _ => False) rfl rfl ?aP (fun _ hk => hk.elim) ?aF ?aO ?aB ?aS ?aL ?_; (case aP => exact rfl); (case aB => exact (by repeat (first | (with_reducible first | exact HB.out | apply below_alloc | apply pw_below_drewN | apply below_drew1 | refine below_set ?_ GE717.out | refine below_set ?_ GE732.out) | exact HB.out))); (case aF => exact (fun k_ hk => Kd.fresh' (Kd.R_lt (by (with_reducible repeat (first | apply Kd.R_alloc | apply Kd.R_drewN | apply Kd.R_drew)); exact HO_3.out)) k_ hk)); (case aO => exact (by (with_reducible repeat (first | apply Kd.R_alloc | apply Kd.R_drewN | apply Kd.R_drew)); exact HO_4.out)); (case aS => exact (below_size (by repeat (first | (with_reducible first | exact HB.out | apply below_alloc | apply pw_below_drewN | apply below_drew1 | refine below_set ?_ GE717.out | refine below_set ?_ GE732.out) | exact HB.out)))); (case aL => have := LMc34.out; omega); intro v735 w39 ho hb hg hat; rw [← Ny734.out] at ho; have n0_ := Aside0.mk (Kd.R_after (ok := (fun _ => True)) (by (with_reducible repeat (first | apply Kd.R_alloc | apply Kd.R_drewN | apply Kd.R_drew)); exact Kd.R_mono HO_3.out (fun _ hk => ⟨trivial, hk⟩)) hg hat); have n1_ := Aside0.mk (blk_grown (g := gb717) (o := .cells #[.slice A0_0 l0_0.length c0_0, .slice (some ad731) l0_1.length c0_1] 72 (0, 0)) (by (with_reducible repeat (first | refine blk_drewN ?_ _ | refine blk_drew ?_ | refine blk_alloc ?_ _)); exact BK717.out) hg (Kd.R_ne HO_4.out BK717.out (by decide))); have n2_ := Aside0.mk (blk_grown (g := gb732) (o := .cells #[.int .i64 ((rd_T153 l0_1 x46_3).f0), .slice A731_1 ((rd_T153 l0_1 x46_3).f1).length c731_1] 153 (0, 0)) (by (with_reducible repeat (first | refine blk_drewN ?_ _ | refine blk_drew ?_ | refine blk_alloc ?_ _)); exact BK732.out) hg (Kd.R_ne HO_4.out BK732.out (by decide))); have n3_ := Aside0.mk (hb); have n4_ := Aside0.mk (ho); clear HO_3; clear BK717; clear BK732; clear HB; clear HO_4; have HO_3 := n0_; have BK717 := n1_; have BK732 := n2_; have HB := n3_; have HO736 := n4_; clear n0_ n1_ n2_ n3_ n4_; clear ho hb hg hat))
                            go_roundg k3
                            case measure => have := HJ1.out; have := HK2.out; have := HK3.out; omega
                            case rel => exact ⟨(y734), (wrap64 (x46_3 + 1)), (by first | rfl | (simp; done) | (simp [*]; done)), H', ⟨by have := HJ1.out; have := HK2.out; have := HK3.out; omega⟩, ⟨by (with_reducible repeat (first | apply Kd.R_alloc | apply Kd.R_drewN | apply Kd.R_drew)); exact Kd.R_mono HO_3.out (fun _ hk => hk.2)⟩, ⟨by (with_reducible repeat (first | apply Kd.R_alloc | apply Kd.R_drewN | apply Kd.R_drew)); exact HO736.out⟩, ⟨by (with_reducible repeat (first | refine blk_drewN ?_ _ | refine blk_drew ?_ | refine blk_alloc ?_ _)); exact BK717.out⟩, ⟨by repeat (first | (with_reducible first | exact HB.out | apply below_alloc | apply pw_below_drewN | apply below_drew1 | refine below_set ?_ GE717.out | refine below_set ?_ GE732.out) | exact HB.out)⟩⟩
                          · rw [if_neg c34] at H
                            exact absurd H (by simp)
                      · rw [if_neg c27] at H
                        exact absurd H (by simp)
                    · rw [if_neg c26] at H
                      exact absurd H (by simp)
                  · rw [if_neg c25] at H
                    have c25b0 : decide (x46_3 < (l0_1.length : Int)) = false := decide_eq_false c25
                    clear c25
                    replace H := Option.bind_eq_some_iff.mp H
                    obtain ⟨t737, A400, H⟩ := H
                    replace H : (if (x3_2.length : Int) = 0 then (if 3 + 4 ≤ 9223372036854775807 then ((impl_glued.f k3 x4_3 (⟨#[59, 32]⟩ : ByteArray)).bind fun t738 => (if 7 + t738.size ≤ 9223372036854775807 then (some (((⟨#[121, 101, 115]⟩ : ByteArray) ++ (⟨#[32, 58, 45, 32]⟩ : ByteArray)) ++ t738)) else (none))) else (none)) else (if t737.size + 4 ≤ 9223372036854775807 then ((impl_glued.f k3 x4_3 (⟨#[59, 32]⟩ : ByteArray)).bind fun t739 => (if (t737 ++ (⟨#[32, 58, 45, 32]⟩ : ByteArray)).size + t739.size ≤ 9223372036854775807 then (some ((t737 ++ (⟨#[32, 58, 45, 32]⟩ : ByteArray)) ++ t739)) else (none))) else (none))) = some r := H
                    have A40 := Aside0.mk A400
                    clear A400
                    by_cases c41 : (x3_2.length : Int) = 0
                    · rw [if_pos c41] at H
                      have c41b0 : ((x3_2.length : Int) == 0) = true := beq_iff_eq.mpr c41
                      have c41b1 : ((x3_2.length : Int) != 0) = false := bne_eq_false_iff_eq.mpr c41
                      clear c41
                      by_cases c42 : 3 + 4 ≤ 9223372036854775807
                      · rw [if_pos c42] at H
                        have c42b0 := eq_true c42
                        have c42b1 : decide (3 + 4 ≤ 9223372036854775807) = true := decide_eq_true c42
                        try have c42b2 : (9223372036854775807 < 3 + 4) = False := eq_false (Nat.not_lt.2 c42)
                        replace H := Option.bind_eq_some_iff.mp H
                        obtain ⟨t738, A430, H⟩ := H
                        replace H : (if 7 + t738.size ≤ 9223372036854775807 then (some (((⟨#[121, 101, 115]⟩ : ByteArray) ++ (⟨#[32, 58, 45, 32]⟩ : ByteArray)) ++ t738)) else (none)) = some r := H
                        have A43 := Aside0.mk A430
                        clear A430
                        by_cases c44 : 7 + t738.size ≤ 9223372036854775807
                        · rw [if_pos c44] at H
                          have c44b0 := eq_true c44
                          have c44b1 : decide (7 + t738.size ≤ 9223372036854775807) = true := decide_eq_true c44
                          try have c44b2 : (9223372036854775807 < 7 + t738.size) = False := eq_false (Nat.not_lt.2 c44)
                          obtain rfl := Option.some.inj H
                          obtain ⟨Ao45, co45, eo45⟩ := Kd.R_slice HO_3.out
                          subst eo45
                          go_wp2_with (first | ((with_reducible refine gate_callee (f := 152) rfl ?_); refine goesL_ (some 60) rfl rfl Try.func152 (by kernel_rfl) rfl #[.slice Ao45 x3_2.length co45, .string (⟨#[44]⟩ : ByteArray)] rfl (by (try simp only [List.map_toArray, List.map_cons, List.map_nil]); first | done | rfl | (simp only [List.length_drop, List.length_take]; rfl)) ?_; (with_reducible refine (impl_glued.calls k3 _ _ x3_2 (⟨#[44]⟩ : ByteArray) t737 _ ?side1 ?side2 A40.out).mono ?_); (case side1 => repeat (first | exact (Kd.R_reads' HO_3.out).2.2 | (with_reducible refine Kd.C_alloc ?_ _) | (with_reducible refine Kd.C_drewN ?_ _) | (with_reducible refine Kd.C_drew ?_))); (case side2 => exact (Kd.R_reads' HO_3.out).2.1); rintro e w' ⟨rfl, ⟨nd, rfl⟩⟩; refine ⟨_, rfl, ?_⟩; obtain ⟨Ao46, co46, eo46⟩ := Kd.R_slice HO_4.out; subst eo46) | ((with_reducible refine gate_callee (f := 152) rfl ?_); refine goesL_ (some 67) rfl rfl Try.func152 (by kernel_rfl) rfl #[.slice Ao46 x4_3.length co46, .string (⟨#[59, 32]⟩ : ByteArray)] rfl (by (try simp only [List.map_toArray, List.map_cons, List.map_nil]); first | done | rfl | (simp only [List.length_drop, List.length_take]; rfl)) ?_; (with_reducible refine (impl_glued.calls k3 _ _ x4_3 (⟨#[59, 32]⟩ : ByteArray) t738 _ ?side1 ?side2 A43.out).mono ?_); (case side1 => repeat (first | exact (Kd.R_reads' HO_4.out).2.2 | (with_reducible refine Kd.C_alloc ?_ _) | (with_reducible refine Kd.C_drewN ?_ _) | (with_reducible refine Kd.C_drew ?_))); (case side2 => exact (Kd.R_reads' HO_4.out).2.1); rintro e w' ⟨rfl, ⟨nd, rfl⟩⟩; refine ⟨_, rfl, ?_⟩))
                          go_ret
                          exact ⟨by first | rfl | (simp [errW_none, errW_some] <;> rfl) | (simp [*, errW_none, errW_some] <;> rfl), by repeat (first | (with_reducible first | exact HB.out | apply below_alloc | apply pw_below_drewN | apply below_drew1 | refine below_set ?_ GE717.out) | exact HB.out)⟩
                        · rw [if_neg c44] at H
                          exact absurd H (by simp)
                      · rw [if_neg c42] at H
                        exact absurd H (by simp)
                    · rw [if_neg c41] at H
                      have c41b0 : ((x3_2.length : Int) == 0) = false := beq_eq_false_iff_ne.mpr c41
                      have c41b1 : ((x3_2.length : Int) != 0) = true := bne_iff_ne.mpr c41
                      have c41b2 : ¬ (x3_2 = []) := fun h_ => c41 (by rw [h_]; rfl)
                      by_cases c47 : t737.size + 4 ≤ 9223372036854775807
                      · rw [if_pos c47] at H
                        have c47b0 := eq_true c47
                        have c47b1 : decide (t737.size + 4 ≤ 9223372036854775807) = true := decide_eq_true c47
                        try have c47b2 : (9223372036854775807 < t737.size + 4) = False := eq_false (Nat.not_lt.2 c47)
                        replace H := Option.bind_eq_some_iff.mp H
                        obtain ⟨t739, A480, H⟩ := H
                        replace H : (if (t737 ++ (⟨#[32, 58, 45, 32]⟩ : ByteArray)).size + t739.size ≤ 9223372036854775807 then (some ((t737 ++ (⟨#[32, 58, 45, 32]⟩ : ByteArray)) ++ t739)) else (none)) = some r := H
                        have A48 := Aside0.mk A480
                        clear A480
                        by_cases c49 : (t737 ++ (⟨#[32, 58, 45, 32]⟩ : ByteArray)).size + t739.size ≤ 9223372036854775807
                        · rw [if_pos c49] at H
                          have c49b0 := eq_true c49
                          have c49b1 : decide ((t737 ++ (⟨#[32, 58, 45, 32]⟩ : ByteArray)).size + t739.size ≤ 9223372036854775807) = true := decide_eq_true c49
                          try have c49b2 : (9223372036854775807 < (t737 ++ (⟨#[32, 58, 45, 32]⟩ : ByteArray)).size + t739.size) = False := eq_false (Nat.not_lt.2 c49)
                          have c49b3 : (9223372036854775807 < t737.size + 4 + t739.size) = False := eq_false (Nat.not_lt.2 (by have z := c49; simp only [ByteArray.size_append] at z; exact z))
                          obtain rfl := Option.some.inj H
                          obtain ⟨Ao50, co50, eo50⟩ := Kd.R_slice HO_3.out
                          subst eo50
                          go_wp2_with (first | ((with_reducible refine gate_callee (f := 152) rfl ?_); refine goesL_ (some 60) rfl rfl Try.func152 (by kernel_rfl) rfl #[.slice Ao50 x3_2.length co50, .string (⟨#[44]⟩ : ByteArray)] rfl (by (try simp only [List.map_toArray, List.map_cons, List.map_nil]); first | done | rfl | (simp only [List.length_drop, List.length_take]; rfl)) ?_; (with_reducible refine (impl_glued.calls k3 _ _ x3_2 (⟨#[44]⟩ : ByteArray) t737 _ ?side1 ?side2 A40.out).mono ?_); (case side1 => repeat (first | exact (Kd.R_reads' HO_3.out).2.2 | (with_reducible refine Kd.C_alloc ?_ _) | (with_reducible refine Kd.C_drewN ?_ _) | (with_reducible refine Kd.C_drew ?_))); (case side2 => exact (Kd.R_reads' HO_3.out).2.1); rintro e w' ⟨rfl, ⟨nd, rfl⟩⟩; refine ⟨_, rfl, ?_⟩; obtain ⟨Ao51, co51, eo51⟩ := Kd.R_slice HO_4.out; subst eo51) | ((with_reducible refine gate_callee (f := 152) rfl ?_); refine goesL_ (some 67) rfl rfl Try.func152 (by kernel_rfl) rfl #[.slice Ao51 x4_3.length co51, .string (⟨#[59, 32]⟩ : ByteArray)] rfl (by (try simp only [List.map_toArray, List.map_cons, List.map_nil]); first | done | rfl | (simp only [List.length_drop, List.length_take]; rfl)) ?_; (with_reducible refine (impl_glued.calls k3 _ _ x4_3 (⟨#[59, 32]⟩ : ByteArray) t739 _ ?side1 ?side2 A48.out).mono ?_); (case side1 => repeat (first | exact (Kd.R_reads' HO_4.out).2.2 | (with_reducible refine Kd.C_alloc ?_ _) | (with_reducible refine Kd.C_drewN ?_ _) | (with_reducible refine Kd.C_drew ?_))); (case side2 => exact (Kd.R_reads' HO_4.out).2.1); rintro e w' ⟨rfl, ⟨nd, rfl⟩⟩; refine ⟨_, rfl, ?_⟩))
                          go_ret
                          exact ⟨by first | rfl | (simp [errW_none, errW_some] <;> rfl) | (simp [*, errW_none, errW_some] <;> rfl), by repeat (first | (with_reducible first | exact HB.out | apply below_alloc | apply pw_below_drewN | apply below_drew1 | refine below_set ?_ GE717.out) | exact HB.out)⟩
                        · rw [if_neg c49] at H
                          exact absurd H (by simp)
                      · rw [if_neg c47] at H
                        exact absurd H (by simp)

end Go.Proofs.Ytjiipeidginjnaa.P

namespace Go.Proofs.Ytjiipeidginjnaa.P
open Go.RowKit Go.Proofs.YtjiipeidginjnaaW.PrintWords Go.Proofs.YtjiipeidginjnaaW.PrintLast Go.Proofs.YtjiipeidginjnaaW.PrintMore
attribute [local go_sem] max2_int min2_int max_two min_two max_three min_three max_four min_four   -- for this text's walks alone
set_option linter.unusedVariables false
set_option linter.unusedSimpArgs false

def impl_ViewLines.l0 : Nat → List ByteArray → List (S72) → Int → Int → List (S72) → List (List (List Int)) → Int → Option (List ByteArray)
  | 0, _, _, _, _, _, _, _ => none
  | k + 1, x3, x8, x9, x10, x1102000, x1102001, x1102002 => if x10 < x9 then (if 0 ≤ x10 then (if x10 < (x8.length : Int) then (if x10 < (x1102001.length : Int) then ((impl_FormatInt.f k x10).bind fun t1107 => (if t1107.size + 1 ≤ 9223372036854775807 then ((impl_FormatQuery.f k ((rd_T72 x8 x10).f0) ((rd_T72 x8 x10).f1)).bind fun t1108 => (if (t1107 ++ (⟨#[32]⟩ : ByteArray)).size + t1108.size ≤ 9223372036854775807 then (if ((t1107 ++ (⟨#[32]⟩ : ByteArray)) ++ t1108).size + 6 ≤ 9223372036854775807 then ((impl_FormatInt.f k ((rd_L14 x1102001 x10).length : Int)).bind fun t1110 => (if (((t1107 ++ (⟨#[32]⟩ : ByteArray)) ++ t1108) ++ (⟨#[32, 115, 105, 122, 101, 32]⟩ : ByteArray)).size + t1110.size ≤ 9223372036854775807 then (if x3.length < 8796093022208 then (impl_ViewLines.l0 k (x3 ++ [(((t1107 ++ (⟨#[32]⟩ : ByteArray)) ++ t1108) ++ (⟨#[32, 115, 105, 122, 101, 32]⟩ : ByteArray)) ++ t1110]) x8 x9 (wrap64 (x10 + 1)) x1102000 x1102001 x1102002) else (none)) else (none))) else (none)) else (none))) else (none))) else (impl_ViewLines.l0 k x3 x8 x9 (wrap64 (x10 + 1)) x1102000 x1102001 x1102002)) else (none)) else (none)) else (some x3)
def impl_ViewLines.f (k : Nat) (l0_0 : List (S72)) (l0_1 : List (List (List Int))) (a0_2 : Int) : Option (List ByteArray) := impl_ViewLines.l0 k (([] : List ByteArray)) l0_0 (l0_0.length : Int) 0 l0_0 l0_1 a0_2
def impl_ViewLines.T6 : Bool × List (List Nat × List Nat) := (true, [([], []), ([], []), ([1], [1]), ([2], [2]), ([], []), ([4, 2], [4]), ([3, 5], [3, 5]), ([6], [6]), ([], []), ([8], [8]), ([], []), ([9, 10], [9, 10]), ([11], [11]), ([12], [12]), ([13, 5], [13]), ([7, 14], [7, 14]), ([15], [15]), ([0, 16, 14], [0, 16]), ([17, 17, 0, 1, 2, 3, 4, 5, 6, 7, 8, 9, 10, 11, 12, 13, 14, 15, 16, 17], [0, 17])])
def impl_ViewLines.B6 : List Nat := [0, 0, 2, 6, 0, 22, 62, 126, 0, 256, 0, 1792, 3840, 7936, 16182, 32766, 65534, 131071, 262143]
theorem impl_ViewLines.tab6 : rtab .any (opsOf Try.f67 6) = impl_ViewLines.T6 := by kernel_rfl
theorem impl_ViewLines.bits6 : waitsOk impl_ViewLines.T6.2 impl_ViewLines.B6 = true := by kernel_rfl
set_option maxHeartbeats 8000000 in
set_option maxRecDepth 100000 in
theorem impl_ViewLines.calls (k : Nat) (A0_0 : Option Addr) (c0_0 : Nat) (l0_0 : List (S72)) (A0_1 : Option Addr) (c0_1 : Nat) (l0_1 : List (List (List Int))) (a0_2 : Int) (r : List ByteArray) (w : World) (hr0_0 : Kd.C k72 w A0_0 l0_0.length l0_0) (hc0_0 : l0_0.length ≤ c0_0) (hr0_1 : Kd.C (Kd.slice 34 (Kd.slice 3 (Kd.int .i64))) w A0_1 l0_1.length l0_1) (hc0_1 : l0_1.length ≤ c0_1) (h : impl_ViewLines.f k l0_0 l0_1 a0_2 = some r) :
    Calls Try.prog 67 #[.agg #[.slice A0_0 l0_0.length c0_0, .slice A0_1 l0_1.length c0_1, .int .i64 a0_2]] w fun e w' => ∃ v0_ : Value, e = .returned (v0_) ∧ Kd.R Kd.string 9 w' w.heap.size (fun _ => True) v0_ r ∧ Below w.heap.size w w' := by
  have hu60 := Try.underlying60
  have hu72 := Try.underlying72
  have HR0_0 := Aside0.mk hr0_0
  have HC0_0 := Aside0.mk hc0_0
  clear hr0_0 hc0_0
  have HR0_1 := Aside0.mk hr0_1
  have HC0_1 := Aside0.mk hc0_1
  clear hr0_1 hc0_1
  have HB := Aside0.mk (Below.refl w.heap.size w)
  have H : (impl_ViewLines.l0 k (([] : List ByteArray)) l0_0 (l0_0.length : Int) 0 l0_0 l0_1 a0_2) = some r := h
  clear h
  obtain ⟨y1102, hy1102⟩ : ∃ y_ : List ByteArray, y_ = (([] : List ByteArray)) := ⟨_, rfl⟩
  replace H : (impl_ViewLines.l0 k y1102 l0_0 (l0_0.length : Int) 0 l0_0 l0_1 a0_2) = some r := by first | (rw [hy1102]; with_reducible exact H) | (have H2_ := (Option.bind_some _ _).symm.trans H; rw [hy1102]; with_reducible exact H2_) | (have H2_ := (Option.bind_some _ _).symm.trans H; with_reducible exact H2_) | with_reducible exact H | (rw [hy1102]; exact H) | exact H
  have Ny1102 := Aside0.mk hy1102
  clear hy1102
  have H' := Aside0.mk H
  clear H
  go_enter Try.func67, Try.ntmps67
  go_wp2_with (first | ((with_reducible refine gate_dst (N := 1) rfl ?_); refine box_event ?hg (N := 1) ?hd (cs := #[.slice A0_0 l0_0.length c0_0, .slice A0_1 l0_1.length c0_1, .int .i64 a0_2]) (t := 60) ?hr ?_; (case hd => rfl); (case hg => rfl); (case hr => first | (go_simp; done) | (go_simp; rfl)); intro gb1101 hg w2 hbox hb; have n0_ := Aside0.mk (below_step (by repeat (first | (with_reducible first | exact HB.out | apply below_alloc | apply pw_below_drewN | apply below_drew1) | exact HB.out)) hb); have n1_ := Aside0.mk (hbox); have n2_ := Aside0.mk ((by rw [hg]; exact (below_size (by repeat (first | (with_reducible first | exact HB.out | apply below_alloc | apply pw_below_drewN | apply below_drew1) | exact HB.out))) : w.heap.size ≤ gb1101)); have n3_ := Aside0.mk ((by rw [hg]; exact (below_size (by repeat (first | (with_reducible first | exact HB.out | apply below_alloc | apply pw_below_drewN | apply below_drew1) | exact HB.out))) : w.heap.size ≤ gb1101)); clear HB; have HB := n0_; have BK1101 := n1_; have GW1101 := n2_; have GE1101 := n3_; clear n0_ n1_ n2_ n3_; clear hb hbox hg) | ((with_reducible refine gate_dst (N := 6) rfl ?_); refine Kd.R_lit Kd.string _ 9 ?hg (N := 6) ?hd (xs := ([] : List ByteArray)) (inner := []) (ok := fun _ => True) (okp := fun _ => True) ?hr ?hp (fun _ hk => hk) trivial (Below.refl _ _) (Nat.le_refl _) (by simp) ?_; (case hd => rfl); (case hg => rfl); (case hr => first | (go_simp; done) | (go_simp; rfl)); (case hp => exact (Reps.none _ _)); intro v1103 w3 ho4 hb hg_ hnew_; clear hg_ hnew_; (first | rw [← Ny1102.out] at ho4 | (simp only [Int.reduceToNat] at ho4; rw [← Ny1102.out] at ho4)); have n0_ := Aside0.mk (Kd.R_lower ho4 (below_size (by repeat (first | (with_reducible first | exact HB.out | apply below_alloc | apply pw_below_drewN | apply below_drew1 | refine below_set ?_ GE1101.out) | exact HB.out)))); have n1_ := Aside0.mk (blk_below (g := gb1101) (o := .cells #[.slice A0_0 l0_0.length c0_0, .slice A0_1 l0_1.length c0_1, .int .i64 a0_2] 60 (0, 0)) (by (with_reducible repeat (first | refine blk_drewN ?_ _ | refine blk_drew ?_ | refine blk_alloc ?_ _)); exact BK1101.out) hb); have n2_ := Aside0.mk (below_step (by repeat (first | (with_reducible first | exact HB.out | apply below_alloc | apply pw_below_drewN | apply below_drew1 | refine below_set ?_ GE1101.out) | exact HB.out)) hb); clear BK1101; clear HB; have HO1104 := n0_; have BK1101 := n1_; have HB := n2_; clear n0_ n1_ n2_; clear hb ho4; have hcz5_0 : w3.cell? ⟨gb1101, 0, none⟩ = some (.slice A0_0 l0_0.length c0_0) := (blk_cell BK1101.out 0).trans rfl; have hcz5_1 : w3.cell? ⟨gb1101, 1, none⟩ = some (.slice A0_1 l0_1.length c0_1) := (blk_cell BK1101.out 1).trans rfl; have hcz5_2 : w3.cell? ⟨gb1101, 2, none⟩ = some (.int .i64 a0_2) := (blk_cell BK1101.out 2).trans rfl; have hfz5_0 := blk_frozen BK1101.out 0; have hfz5_1 := blk_frozen BK1101.out 1; have hfz5_2 := blk_frozen BK1101.out 2))
  go_loopg [3, 10] k (fun kq v3 v10 w' => ∃ (x3_1 : List ByteArray) (x10_1 : Int), v10 = .int .i64 x10_1 ∧ Aside0 (impl_ViewLines.l0 kq x3_1 l0_0 (l0_0.length : Int) x10_1 l0_0 l0_1 a0_2 = some r) ∧ Aside0 (kq ≤ k) ∧ Aside0 (Kd.R Kd.string 9 w' w.heap.size (fun _ => True) v3 x3_1) ∧ Aside0 (w'.heap[gb1101]? = some (.cells #[(.slice A0_0 l0_0.length c0_0), (.slice A0_1 l0_1.length c0_1), .int .i64 a0_2] 60 (0, 0))) ∧ Aside0 (Below w.heap.size w w'))
  case atStart => exact ⟨(y1102), (0), (by first | rfl | (simp; done) | (simp [*]; done)), H', ⟨Nat.le_refl _⟩, ⟨by (with_reducible repeat (first | apply Kd.R_alloc | apply Kd.R_drewN | apply Kd.R_drew)); exact HO1104.out⟩, ⟨by (with_reducible repeat (first | refine blk_drewN ?_ _ | refine blk_drew ?_ | refine blk_alloc ?_ _)); exact BK1101.out⟩, ⟨by repeat (first | (with_reducible first | exact HB.out | apply below_alloc | apply pw_below_drewN | apply below_drew1 | refine below_set ?_ GE1101.out) | exact HB.out)⟩⟩
  case round =>
    clear H'
    try clear p2
    try clear hcz5_0
    try clear hcz5_1
    try clear hcz5_2
    try clear hfz5_0
    try clear hfz5_1
    try clear hfz5_2
    obtain ⟨x3_1, x10_1, rfl, HA, HK1, HO_3, BK1101, HB⟩ := hrel
    cases gk with
    | zero => exact absurd HA.out (by simp [impl_ViewLines.l0])
    | succ k1 =>
      have H := HA.out
      clear HA
      simp only [impl_ViewLines.l0] at H
      by_cases c6 : x10_1 < (l0_0.length : Int)
      · rw [if_pos c6] at H
        have c6b0 : decide (x10_1 < (l0_0.length : Int)) = true := decide_eq_true c6
        clear c6
        by_cases c7 : 0 ≤ x10_1
        · rw [if_pos c7] at H
          have c7b0 : decide (0 ≤ x10_1) = true := decide_eq_true c7
          clear c7
          by_cases c8 : x10_1 < (l0_0.length : Int)
          · rw [if_pos c8] at H
            have c8b0 : decide (x10_1 < (l0_0.length : Int)) = true := decide_eq_true c8
            clear c8
            by_cases c9 : x10_1 < (l0_1.length : Int)
            · rw [if_pos c9] at H
              have c9b0 : decide (x10_1 < (l0_1.length : Int)) = true := decide_eq_true c9
              clear c9
              replace H := Option.bind_eq_some_iff.mp H
              obtain ⟨t1107, A100, H⟩ := H
              replace H : (if t1107.size + 1 ≤ 9223372036854775807 then ((impl_FormatQuery.f k1 ((rd_T72 l0_0 x10_1).f0) ((rd_T72 l0_0 x10_1).f1)).bind fun t1108 => (if (t1107 ++ (⟨#[32]⟩ : ByteArray)).size + t1108.size ≤ 9223372036854775807 then (if ((t1107 ++ (⟨#[32]⟩ : ByteArray)) ++ t1108).size + 6 ≤ 9223372036854775807 then ((impl_FormatInt.f k1 ((rd_L14 l0_1 x10_1).length : Int)).bind fun t1110 => (if (((t1107 ++ (⟨#[32]⟩ : ByteArray)) ++ t1108) ++ (⟨#[32, 115, 105, 122, 101, 32]⟩ : ByteArray)).size + t1110.size ≤ 9223372036854775807 then (if x3_1.length < 8796093022208 then (impl_ViewLines.l0 k1 (x3_1 ++ [(((t1107 ++ (⟨#[32]⟩ : ByteArray)) ++ t1108) ++ (⟨#[32, 115, 105, 122, 101, 32]⟩ : ByteArray)) ++ t1110]) l0_0 (l0_0.length : Int) (wrap64 (x10_1 + 1)) l0_0 l0_1 a0_2) else (none)) else (none))) else (none)) else (none))) else (none)) = some r := H
              have A10 := Aside0.mk A100
              clear A100
              by_cases c11 : t1107.size + 1 ≤ 9223372036854775807
              · rw [if_pos c11] at H
                have c11b0 := eq_true c11
                have c11b1 : decide (t1107.size + 1 ≤ 9223372036854775807) = true := decide_eq_true c11
                try have c11b2 : (9223372036854775807 < t1107.size + 1) = False := eq_false (Nat.not_lt.2 c11)
                replace H := Option.bind_eq_some_iff.mp H
                obtain ⟨t1108, A120, H⟩ := H
                replace H : (if (t1107 ++ (⟨#[32]⟩ : ByteArray)).size + t1108.size ≤ 9223372036854775807 then (if ((t1107 ++ (⟨#[32]⟩ : ByteArray)) ++ t1108).size + 6 ≤ 9223372036854775807 then ((impl_FormatInt.f k1 ((rd_L14 l0_1 x10_1).length : Int)).bind fun t1110 => (if (((t1107 ++ (⟨#[32]⟩ : ByteArray)) ++ t1108) ++ (⟨#[32, 115, 105, 122, 101, 32]⟩ : ByteArray)).size + t1110.size ≤ 9223372036854775807 then (if x3_1.length < 8796093022208 then (impl_ViewLines.l0 k1 (x3_1 ++ [(((t1107 ++ (⟨#[32]⟩ : ByteArray)) ++ t1108) ++ (⟨#[32, 115, 105, 122, 101, 32]⟩ : ByteArray)) ++ t1110]) l0_0 (l0_0.length : Int) (wrap64 (x10_1 + 1)) l0_0 l0_1 a0_2) else (none)) else (none))) else (none)) else (none)) = some r := H
                have A12 := Aside0.mk A120
                clear A120
                by_cases c13 : (t1107 ++ (⟨#[32]⟩ : ByteArray)).size + t1108.size ≤ 9223372036854775807
                · rw [if_pos c13] at H
                  have c13b0 := eq_true c13
                  have c13b1 : decide ((t1107 ++ (⟨#[32]⟩ : ByteArray)).size + t1108.size ≤ 9223372036854775807) = true := decide_eq_true c13
                  try have c13b2 : (9223372036854775807 < (t1107 ++ (⟨#[32]⟩ : ByteArray)).size + t1108.size) = False := eq_false (Nat.not_lt.2 c13)
                  have c13b3 : (9223372036854775807 < t1107.size + 1 + t1108.size) = False := eq_false (Nat.not_lt.2 (by have z := c13; simp only [ByteArray.size_append] at z; exact z))
                  by_cases c14 : ((t1107 ++ (⟨#[32]⟩ : ByteArray)) ++ t1108).size + 6 ≤ 9223372036854775807
                  · rw [if_pos c14] at H
                    have c14b0 := eq_true c14
                    have c14b1 : decide (((t1107 ++ (⟨#[32]⟩ : ByteArray)) ++ t1108).size + 6 ≤ 9223372036854775807) = true := decide_eq_true c14
                    try have c14b2 : (9223372036854775807 < ((t1107 ++ (⟨#[32]⟩ : ByteArray)) ++ t1108).size + 6) = False := eq_false (Nat.not_lt.2 c14)
                    have c14b3 : (9223372036854775807 < t1107.size + 1 + t1108.size + 6) = False := eq_false (Nat.not_lt.2 (by have z := c14; simp only [ByteArray.size_append] at z; exact z))
                    replace H := Option.bind_eq_some_iff.mp H
                    obtain ⟨t1110, A150, H⟩ := H
                    replace H : (if (((t1107 ++ (⟨#[32]⟩ : ByteArray)) ++ t1108) ++ (⟨#[32, 115, 105, 122, 101, 32]⟩ : ByteArray)).size + t1110.size ≤ 9223372036854775807 then (if x3_1.length < 8796093022208 then (impl_ViewLines.l0 k1 (x3_1 ++ [(((t1107 ++ (⟨#[32]⟩ : ByteArray)) ++ t1108) ++ (⟨#[32, 115, 105, 122, 101, 32]⟩ : ByteArray)) ++ t1110]) l0_0 (l0_0.length : Int) (wrap64 (x10_1 + 1)) l0_0 l0_1 a0_2) else (none)) else (none)) = some r := H
                    have A15 := Aside0.mk A150
                    clear A150
                    by_cases c16 : (((t1107 ++ (⟨#[32]⟩ : ByteArray)) ++ t1108) ++ (⟨#[32, 115, 105, 122, 101, 32]⟩ : ByteArray)).size + t1110.size ≤ 9223372036854775807
                    · rw [if_pos c16] at H
                      have c16b0 := eq_true c16
                      have c16b1 : decide ((((t1107 ++ (⟨#[32]⟩ : ByteArray)) ++ t1108) ++ (⟨#[32, 115, 105, 122, 101, 32]⟩ : ByteArray)).size + t1110.size ≤ 9223372036854775807) = true := decide_eq_true c16
                      try have c16b2 : (9223372036854775807 < (((t1107 ++ (⟨#[32]⟩ : ByteArray)) ++ t1108) ++ (⟨#[32, 115, 105, 122, 101, 32]⟩ : ByteArray)).size + t1110.size) = False := eq_false (Nat.not_lt.2 c16)
                      have c16b3 : (9223372036854775807 < t1107.size + 1 + t1108.size + 6 + t1110.size) = False := eq_false (Nat.not_lt.2 (by have z := c16; simp only [ByteArray.size_append] at z; exact z))
                      by_cases c17 : x3_1.length < 8796093022208
                      · rw [if_pos c17] at H
                        have LMc17 := Aside0.mk c17
                        clear c17
                        obtain ⟨y1111, hy1111⟩ : ∃ y_ : List ByteArray, y_ = (x3_1 ++ [(((t1107 ++ (⟨#[32]⟩ : ByteArray)) ++ t1108) ++ (⟨#[32, 115, 105, 122, 101, 32]⟩ : ByteArray)) ++ t1110]) := ⟨_, rfl⟩
                        replace H : (impl_ViewLines.l0 k1 y1111 l0_0 (l0_0.length : Int) (wrap64 (x10_1 + 1)) l0_0 l0_1 a0_2) = some r := by first | (rw [hy1111]; with_reducible exact H) | (have H2_ := (Option.bind_some _ _).symm.trans H; rw [hy1111]; with_reducible exact H2_) | (have H2_ := (Option.bind_some _ _).symm.trans H; with_reducible exact H2_) | with_reducible exact H | (rw [hy1111]; exact H) | exact H
                        have Ny1111 := Aside0.mk hy1111
                        clear hy1111
                        have H' := Aside0.mk H
                        clear H
                        have p1105 : 0 ≤ (x10_1 : Int) := of_decide_eq_true (by first | (with_reducible assumption) | assumption)
                        have q1105 : x10_1 < (l0_0.length : Int) := of_decide_eq_true (by first | (with_reducible assumption) | assumption)
                        obtain ⟨ad1105, A1105_0, c1105_0, A1105_1, c1105_1, e1105, hx1105_0, hx1105_1, hl1105_0, hi1105_0, hl1105_1, hi1105_1⟩ := at_T72 HR0_0.out x10_1 p1105 q1105
                        cases e1105
                        replace hx1105_0 := (HB.out.cell (World.block_lt_of_cell? w _ hx1105_0)).trans hx1105_0
                        replace hx1105_1 := (HB.out.cell (World.block_lt_of_cell? w _ hx1105_1)).trans hx1105_1
                        have HR1105_0 := Aside0.mk hi1105_0
                        have HC1105_0 := Aside0.mk hl1105_0
                        clear hi1105_0 hl1105_0
                        have HR1105_1 := Aside0.mk hi1105_1
                        have HC1105_1 := Aside0.mk hl1105_1
                        clear hi1105_1 hl1105_1
                        replace p1105 := eq_true p1105
                        replace q1105 := eq_true q1105
                        try go_wp2_with (first | ((with_reducible refine gate_dst (N := 5) rfl ?_); refine box_event ?hg (N := 5) ?hd (cs := #[.slice none 0 0, .slice none 0 0]) (t := 72) ?hr ?_; (case hd => rfl); (case hg => rfl); (case hr => first | (go_simp; done) | (go_simp; rfl)); intro gb1106 hg w18 hbox hb; have n0_ := Aside0.mk (Kd.R_below (by (with_reducible repeat (first | apply Kd.R_alloc | apply Kd.R_drewN | apply Kd.R_drew)); exact HO_3.out) hb); have n1_ := Aside0.mk (blk_below (g := gb1101) (o := .cells #[.slice (some ad1105) l0_0.length c0_0, .slice A0_1 l0_1.length c0_1, .int .i64 a0_2] 60 (0, 0)) (by (with_reducible repeat (first | refine blk_drewN ?_ _ | refine blk_drew ?_ | refine blk_alloc ?_ _)); exact BK1101.out) hb); have n2_ := Aside0.mk (below_step (by repeat (first | (with_reducible first | exact HB.out | apply below_alloc | apply pw_below_drewN | apply below_drew1 | refine below_set ?_ GE1101.out) | exact HB.out)) hb); have n3_ := Aside0.mk (hbox); have n4_ := Aside0.mk ((by rw [hg]; exact (below_size (by repeat (first | (with_reducible first | exact HB.out | apply below_alloc | apply pw_below_drewN | apply below_drew1 | refine below_set ?_ GE1101.out) | exact HB.out))) : w.heap.size ≤ gb1106)); have n5_ := Aside0.mk ((by rw [hg]; exact (below_size (by repeat (first | (with_reducible first | exact HB.out | apply below_alloc | apply pw_below_drewN | apply below_drew1 | refine below_set ?_ GE1101.out) | exact HB.out))) : w.heap.size ≤ gb1106)); have n6_ := Aside0.mk ((by rw [hg]; exact Nat.ne_of_lt (blk_lt (g := gb1101) (o := .cells #[.slice (some ad1105) l0_0.length c0_0, .slice A0_1 l0_1.length c0_1, .int .i64 a0_2] 60 (0, 0)) (by (with_reducible repeat (first | refine blk_drewN ?_ _ | refine blk_drew ?_ | refine blk_alloc ?_ _)); exact BK1101.out)) : gb1101 ≠ gb1106)); have n7_ := Aside0.mk ((by rw [hg]; exact Nat.ne_of_gt (blk_lt (g := gb1101) (o := .cells #[.slice (some ad1105) l0_0.length c0_0, .slice A0_1 l0_1.length c0_1, .int .i64 a0_2] 60 (0, 0)) (by (with_reducible repeat (first | refine blk_drewN ?_ _ | refine blk_drew ?_ | refine blk_alloc ?_ _)); exact BK1101.out)) : gb1106 ≠ gb1101)); clear HO_3; clear BK1101; clear HB; have HO_3 := n0_; have BK1101 := n1_; have HB := n2_; have BK1106 := n3_; have GW1106 := n4_; have GE1106 := n5_; have NB1101_1106 := n6_; have NB1106_1101 := n7_; clear n0_ n1_ n2_ n3_ n4_ n5_ n6_ n7_; clear hb hbox hg; have hnb19 := NB1106_1101.out; have hnc19 := NB1101_1106.out; have hcz20_0 : w18.cell? ⟨gb1106, 0, none⟩ = some (.slice none 0 0) := (blk_cell BK1106.out 0).trans rfl; have hcz20_1 : w18.cell? ⟨gb1106, 1, none⟩ = some (.slice none 0 0) := (blk_cell BK1106.out 1).trans rfl; have hfz20_0 := blk_frozen BK1106.out 0; have hfz20_1 := blk_frozen BK1106.out 1; have hcz21_0 : w18.cell? ⟨gb1101, 0, none⟩ = some (.slice (some ad1105) l0_0.length c0_0) := (blk_cell BK1101.out 0).trans rfl; have hcz21_1 : w18.cell? ⟨gb1101, 1, none⟩ = some (.slice A0_1 l0_1.length c0_1) := (blk_cell BK1101.out 1).trans rfl; have hcz21_2 : w18.cell? ⟨gb1101, 2, none⟩ = some (.int .i64 a0_2) := (blk_cell BK1101.out 2).trans rfl; have hfz21_0 := blk_frozen BK1101.out 0; have hfz21_1 := blk_frozen BK1101.out 1; have hfz21_2 := blk_frozen BK1101.out 2))
                        have n0_ : Aside0 (Kd.R Kd.string 9 ((w18.setCell ⟨gb1106, 0, none⟩ (.slice A1105_0 ((rd_T72 l0_0 x10_1).f0).length c1105_0)).setCell ⟨gb1106, 1, none⟩ (.slice A1105_1 ((rd_T72 l0_0 x10_1).f1).length c1105_1)) w.heap.size (fun _ => True) u3 x3_1) := ⟨by (with_reducible repeat (first | apply Kd.R_alloc | apply Kd.R_drewN | apply Kd.R_drew)); exact Kd.R_mono (Kd.R_far (p := ⟨gb1106, 1, none⟩) (Kd.R_far (p := ⟨gb1106, 0, none⟩) (Kd.R_types HO_3.out BK1106.out (by decide)) (fun _ hk => hk.2) (.slice A1105_0 ((rd_T72 l0_0 x10_1).f0).length c1105_0)) (fun _ hk => hk.2) (.slice A1105_1 ((rd_T72 l0_0 x10_1).f1).length c1105_1)) (fun _ hk => trivial)⟩
                        have n1_ : Aside0 (((w18.setCell ⟨gb1106, 0, none⟩ (.slice A1105_0 ((rd_T72 l0_0 x10_1).f0).length c1105_0)).setCell ⟨gb1106, 1, none⟩ (.slice A1105_1 ((rd_T72 l0_0 x10_1).f1).length c1105_1)).heap[gb1101]? = some (.cells #[.slice (some ad1105) l0_0.length c0_0, .slice A0_1 l0_1.length c0_1, .int .i64 a0_2] 60 (0, 0))) := ⟨by (with_reducible repeat (first | refine blk_drewN ?_ _ | refine blk_drew ?_ | refine blk_alloc ?_ _)); refine blk_far ?_ NB1101_1106.out _; (with_reducible repeat (first | refine blk_drewN ?_ _ | refine blk_drew ?_ | refine blk_alloc ?_ _)); refine blk_far ?_ NB1101_1106.out _; (with_reducible repeat (first | refine blk_drewN ?_ _ | refine blk_drew ?_ | refine blk_alloc ?_ _)); exact BK1101.out⟩
                        have n2_ : Aside0 (((w18.setCell ⟨gb1106, 0, none⟩ (.slice A1105_0 ((rd_T72 l0_0 x10_1).f0).length c1105_0)).setCell ⟨gb1106, 1, none⟩ (.slice A1105_1 ((rd_T72 l0_0 x10_1).f1).length c1105_1)).heap[gb1106]? = some (.cells #[.slice A1105_0 ((rd_T72 l0_0 x10_1).f0).length c1105_0, .slice A1105_1 ((rd_T72 l0_0 x10_1).f1).length c1105_1] 72 (0, 0))) := ⟨by (with_reducible repeat (first | refine blk_drewN ?_ _ | refine blk_drew ?_ | refine blk_alloc ?_ _)); refine blk_put (cs := #[.slice A1105_0 ((rd_T72 l0_0 x10_1).f0).length c1105_0, .slice none 0 0]) ?_ 1 _ rfl; (with_reducible repeat (first | refine blk_drewN ?_ _ | refine blk_drew ?_ | refine blk_alloc ?_ _)); refine blk_put (cs := #[.slice none 0 0, .slice none 0 0]) ?_ 0 _ rfl; (with_reducible repeat (first | refine blk_drewN ?_ _ | refine blk_drew ?_ | refine blk_alloc ?_ _)); exact BK1106.out⟩
                        have n3_ : Aside0 (Below w.heap.size w ((w18.setCell ⟨gb1106, 0, none⟩ (.slice A1105_0 ((rd_T72 l0_0 x10_1).f0).length c1105_0)).setCell ⟨gb1106, 1, none⟩ (.slice A1105_1 ((rd_T72 l0_0 x10_1).f1).length c1105_1))) := ⟨by repeat (first | (with_reducible first | exact HB.out | apply below_alloc | apply pw_below_drewN | apply below_drew1 | refine below_set ?_ GE1101.out | refine below_set ?_ GE1106.out) | exact HB.out)⟩
                        (try clear HO_3)
                        (try clear BK1101)
                        (try clear BK1106)
                        (try clear HB)
                        generalize ((w18.setCell ⟨gb1106, 0, none⟩ (.slice A1105_0 ((rd_T72 l0_0 x10_1).f0).length c1105_0)).setCell ⟨gb1106, 1, none⟩ (.slice A1105_1 ((rd_T72 l0_0 x10_1).f1).length c1105_1)) = w22 at n0_ n1_ n2_ n3_ ⊢
                        have HO_3 := n0_
                        have BK1101 := n1_
                        have BK1106 := n2_
                        have HB := n3_
                        clear n0_ n1_ n2_ n3_
                        have n0_ := Aside0.mk (Kd.R_drew HO_3.out)
                        have n1_ := Aside0.mk (blk_drew BK1101.out)
                        have n2_ := Aside0.mk (blk_drew BK1106.out)
                        have n3_ := Aside0.mk (below_drew1 HB.out)
                        clear HO_3
                        clear BK1101
                        clear BK1106
                        clear HB
                        have HO_3 := n0_
                        have BK1101 := n1_
                        have BK1106 := n2_
                        have HB := n3_
                        clear n0_ n1_ n2_ n3_
                        have p1109 : 0 ≤ (x10_1 : Int) := of_decide_eq_true (by first | (with_reducible assumption) | assumption)
                        have q1109 : x10_1 < (l0_1.length : Int) := of_decide_eq_true (by first | (with_reducible assumption) | assumption)
                        obtain ⟨ad1109, A1109_0, c1109_0, e1109, hx1109_0, hl1109_0, hi1109_0⟩ := at_L14 HR0_1.out x10_1 p1109 q1109
                        have hw1109_0 := hx1109_0
                        cases e1109
                        replace hx1109_0 := (HB.out.cell (World.block_lt_of_cell? w _ hx1109_0)).trans hx1109_0
                        have HR1109_0 := Aside0.mk hi1109_0
                        have HC1109_0 := Aside0.mk hl1109_0
                        clear hi1109_0 hl1109_0
                        replace p1109 := eq_true p1109
                        replace q1109 := eq_true q1109
                        refine start_ (n := 19) (S := fun w' => w'.cell? ⟨gb1106, 0, none⟩ = some (.slice A1105_0 ((rd_T72 l0_0 x10_1).f0).length c1105_0) ∧ w'.cell? ⟨gb1106, 1, none⟩ = some (.slice A1105_1 ((rd_T72 l0_0 x10_1).f1).length c1105_1) ∧ w'.cell? ⟨gb1101, 0, none⟩ = some (.slice (some ad1105) l0_0.length c0_0) ∧ w'.cell? ⟨gb1101, 1, none⟩ = some (.slice (some ad1109) l0_1.length c0_1) ∧ w'.cell? ⟨gb1101, 2, none⟩ = some (.int .i64 a0_2) ∧ w'.cell? (ad1109.add (x10_1).toNat) = some (.slice A1109_0 (rd_L14 l0_1 x10_1).length c1109_0)) (ds := []) #[false, false, false, false, false, false, false, false, false, false, false, false, false, false, false, false, false, false, false] (by kernel_rfl) rfl rfl ⟨(blk_cell BK1106.out 0).trans rfl, (blk_cell BK1106.out 1).trans rfl, (blk_cell BK1101.out 0).trans rfl, (blk_cell BK1101.out 1).trans rfl, (blk_cell BK1101.out 2).trans rfl, ((HB.out.cell (World.block_lt_of_cell? w _ hw1109_0)).trans hw1109_0)⟩ (fun hHeld => ?_); refine with_tabW impl_ViewLines.tab6 impl_ViewLines.bits6 (fun HT_ HW_ => ?_)
                        generalize w22.drew = w23 at HO_3 BK1101 BK1106 HB HR1109_0 hx1109_0 hHeld ⊢
                        refine pure_ (i := 0) (N := some 20) (v := ?_) (a' := ?_) #[true, false, false, false, false, false, false, false, false, false, false, false, false, false, false, false, false, false, false] rfl rfl (any_of HT_.out (by kernel_rfl)) (fun _ _ _ h => h) (Or.inl ⟨by rfl, ?_⟩) ?_ ?_
                        rotate_left
                        · intro w'
                          go_simp
                          with_reducible rfl
                        rotate_left
                        · simp only [Act.put, List.setIfInBounds_toArray, List.set_cons_zero, List.set_cons_succ, i64_w, i32_w]
                          rfl
                        refine pure_ (i := 1) (N := some 21) (v := ?_) (a' := ?_) #[true, true, false, false, false, false, false, false, false, false, false, false, false, false, false, false, false, false, false] rfl rfl (any_of HT_.out (by kernel_rfl)) (fun _ _ _ h => h) (Or.inl ⟨by rfl, ?_⟩) ?_ ?_
                        rotate_left
                        · intro w'
                          go_simp
                          with_reducible rfl
                        rotate_left
                        · simp only [Act.put, List.setIfInBounds_toArray, List.set_cons_zero, List.set_cons_succ, i64_w, i32_w]
                          rfl
                        refine pure_ (i := 8) (N := some 28) (v := ?_) (a' := ?_) #[true, true, false, false, false, false, false, false, true, false, false, false, false, false, false, false, false, false, false] rfl rfl (any_of HT_.out (by kernel_rfl)) (fun _ _ _ h => h) (Or.inl ⟨by rfl, ?_⟩) ?_ ?_
                        rotate_left
                        · intro w'
                          go_simp
                          with_reducible rfl
                        rotate_left
                        · simp only [Act.put, List.setIfInBounds_toArray, List.set_cons_zero, List.set_cons_succ, i64_w, i32_w]
                          rfl
                        refine pure_ (i := 10) (N := some 30) (v := ?_) (a' := ?_) #[true, true, false, false, false, false, false, false, true, false, true, false, false, false, false, false, false, false, false] rfl rfl (any_of HT_.out (by kernel_rfl)) (fun _ _ _ h => h) (Or.inl ⟨by rfl, ?_⟩) ?_ ?_
                        rotate_left
                        · intro w'
                          go_simp
                          with_reducible rfl
                        rotate_left
                        · simp only [Act.put, List.setIfInBounds_toArray, List.set_cons_zero, List.set_cons_succ, i64_w, i32_w]
                          rfl
                        refine take_ (i := 4) (N := some 24) (v := ?_) (a' := ?_) #[true, true, false, false, true, false, false, false, true, false, true, false, false, false, false, false, false, false, false] rfl rfl (take_ofW HT_.out HW_.out (by kernel_rfl)) (fun _ _ _ h => h) (Or.inl ⟨by rfl, ?_⟩) hHeld ?_ ?_
                        rotate_left
                        · rintro w' ⟨s0, s1, s2, s3, s4, s5⟩
                          go_simp
                          with_reducible rfl
                        rotate_left
                        · simp only [Act.put, List.setIfInBounds_toArray, List.set_cons_zero, List.set_cons_succ, i64_w, i32_w]
                          rfl
                        refine take_ (i := 9) (N := some 29) (v := ?_) (a' := ?_) #[true, true, false, false, true, false, false, false, true, true, true, false, false, false, false, false, false, false, false] rfl rfl (take_ofW HT_.out HW_.out (by kernel_rfl)) (fun _ _ _ h => h) (Or.inl ⟨by rfl, ?_⟩) hHeld ?_ ?_
                        rotate_left
                        · rintro w' ⟨s0, s1, s2, s3, s4, s5⟩
                          go_simp
                          with_reducible rfl
                        rotate_left
                        · simp only [Act.put, List.setIfInBounds_toArray, List.set_cons_zero, List.set_cons_succ, i64_w, i32_w]
                          rfl
                        refine pure_ (i := 11) (N := some 31) (v := ?_) (a' := ?_) #[true, true, false, false, true, false, false, false, true, true, true, true, false, false, false, false, false, false, false] rfl rfl (any_of HT_.out (by kernel_rfl)) (fun _ _ _ h => h) (Or.inl ⟨by rfl, ?_⟩) ?_ ?_
                        rotate_left
                        · intro w'
                          go_simp
                          with_reducible rfl
                        rotate_left
                        · simp only [Act.put, List.setIfInBounds_toArray, List.set_cons_zero, List.set_cons_succ, i64_w, i32_w]
                          rfl
                        refine take_ (i := 12) (N := some 32) (v := ?_) (a' := ?_) #[true, true, false, false, true, false, false, false, true, true, true, true, true, false, false, false, false, false, false] rfl rfl (take_ofW HT_.out HW_.out (by kernel_rfl)) (fun _ _ _ h => h) (Or.inl ⟨by rfl, ?_⟩) hHeld ?_ ?_
                        rotate_left
                        · rintro w' ⟨s0, s1, s2, s3, s4, s5⟩
                          go_simp
                          with_reducible rfl
                        rotate_left
                        · simp only [Act.put, List.setIfInBounds_toArray, List.set_cons_zero, List.set_cons_succ, i64_w, i32_w]
                          rfl
                        refine pure_ (i := 13) (N := some 33) (v := ?_) (a' := ?_) #[true, true, false, false, true, false, false, false, true, true, true, true, true, true, false, false, false, false, false] rfl rfl (any_of HT_.out (by kernel_rfl)) (fun _ _ _ h => h) (Or.inl ⟨by rfl, ?_⟩) ?_ ?_
                        rotate_left
                        · intro w'
                          go_simp
                          with_reducible rfl
                        rotate_left
                        · simp only [Act.put, List.setIfInBounds_toArray, List.set_cons_zero, List.set_cons_succ, i64_w, i32_w]
                          rfl
                        refine one_ (i := 2) (N := some 22) #[true, true, true, false, true, false, false, false, true, true, true, true, true, true, false, false, false, false, false] rfl rfl (one_of HT_.out (by kernel_rfl)) (by decide) (fun K hK => ?_)
                        refine goes_ Try.func116 (by kernel_rfl) rfl #[.int .i64 x10_1] (by rfl) rfl rfl (by (try simp only [List.map_toArray, List.map_cons, List.map_nil]); first | done | rfl | (simp only [List.length_drop, List.length_take]; rfl)) ?_
                        with_reducible refine (impl_FormatInt.calls k1 x10_1 t1107 _ A10.out).mono ?_
                        rintro e w24 ⟨rfl, hb⟩
                        refine ⟨_, rfl, ?_⟩
                        have n0_ := Aside0.mk (Kd.R_below (by (with_reducible repeat (first | apply Kd.R_alloc | apply Kd.R_drewN | apply Kd.R_drew)); exact HO_3.out) hb)
                        have n1_ := Aside0.mk (blk_below (g := gb1101) (o := .cells #[.slice (some ad1105) l0_0.length c0_0, .slice (some ad1109) l0_1.length c0_1, .int .i64 a0_2] 60 (0, 0)) (by (with_reducible repeat (first | refine blk_drewN ?_ _ | refine blk_drew ?_ | refine blk_alloc ?_ _)); exact BK1101.out) hb)
                        have n2_ := Aside0.mk (blk_below (g := gb1106) (o := .cells #[.slice A1105_0 ((rd_T72 l0_0 x10_1).f0).length c1105_0, .slice A1105_1 ((rd_T72 l0_0 x10_1).f1).length c1105_1] 72 (0, 0)) (by (with_reducible repeat (first | refine blk_drewN ?_ _ | refine blk_drew ?_ | refine blk_alloc ?_ _)); exact BK1106.out) hb)
                        have n3_ := Aside0.mk (below_step (by repeat (first | (with_reducible first | exact HB.out | apply below_alloc | apply pw_below_drewN | apply below_drew1 | refine below_set ?_ GE1101.out | refine below_set ?_ GE1106.out) | exact HB.out)) hb)
                        clear HO_3
                        clear BK1101
                        clear BK1106
                        clear HB
                        have HO_3 := n0_
                        have BK1101 := n1_
                        have BK1106 := n2_
                        have HB := n3_
                        clear n0_ n1_ n2_ n3_
                        (try clear hb)
                        (try clear hb2)
                        (try clear hk)
                        (try clear hi)
                        refine hK.out _ _ ⟨(blk_cell BK1106.out 0).trans rfl, (blk_cell BK1106.out 1).trans rfl, (blk_cell BK1101.out 0).trans rfl, (blk_cell BK1101.out 1).trans rfl, (blk_cell BK1101.out 2).trans rfl, ((HB.out.cell (World.block_lt_of_cell? w _ hw1109_0)).trans hw1109_0)⟩ (fun hHeld => ?_)
                        clear hK K
                        refine norm_ (a' := ?_) ?_ ?_
                        rotate_left
                        · show Act.put _ (some 22) _ = _
                          simp only [Act.put, List.setIfInBounds_toArray, List.set_cons_zero, List.set_cons_succ, i64_w, i32_w]
                          rfl
                        refine pure_ (i := 3) (N := some 23) (v := ?_) (a' := ?_) #[true, true, true, true, true, false, false, false, true, true, true, true, true, true, false, false, false, false, false] rfl rfl (any_of HT_.out (by kernel_rfl)) (fun _ _ _ h => h) (Or.inl ⟨by rfl, ?_⟩) ?_ ?_
                        rotate_left
                        · intro w'
                          go_simp
                          with_reducible rfl
                        rotate_left
                        · simp only [Act.put, List.setIfInBounds_toArray, List.set_cons_zero, List.set_cons_succ, i64_w, i32_w]
                          rfl
                        refine one_ (i := 5) (N := some 25) #[true, true, true, true, true, true, false, false, true, true, true, true, true, true, false, false, false, false, false] rfl rfl (one_of HT_.out (by kernel_rfl)) (by decide) (fun K hK => ?_)
                        refine goes_ Try.func106 (by kernel_rfl) rfl #[.agg #[.slice A1105_0 ((rd_T72 l0_0 x10_1).f0).length c1105_0, .slice A1105_1 ((rd_T72 l0_0 x10_1).f1).length c1105_1]] (by rfl) rfl rfl (by (try simp only [List.map_toArray, List.map_cons, List.map_nil]); first | done | rfl | (simp only [List.length_drop, List.length_take]; rfl)) ?_
                        with_reducible refine (impl_FormatQuery.calls k1 _ _ ((rd_T72 l0_0 x10_1).f0) _ _ ((rd_T72 l0_0 x10_1).f1) t1108 _ ?side1 ?side2 ?side3 ?side4 A12.out).mono ?_
                        (case side1 => repeat (first | exact (Kd.C_below HR1105_0.out HB.out) | (with_reducible refine Kd.C_alloc ?_ _) | (with_reducible refine Kd.C_drewN ?_ _) | (with_reducible refine Kd.C_drew ?_)))
                        (case side2 => exact HC1105_0.out)
                        (case side3 => repeat (first | exact (Kd.C_below HR1105_1.out HB.out) | (with_reducible refine Kd.C_alloc ?_ _) | (with_reducible refine Kd.C_drewN ?_ _) | (with_reducible refine Kd.C_drew ?_)))
                        (case side4 => exact HC1105_1.out)
                        rintro e w25 ⟨rfl, hb⟩
                        refine ⟨_, rfl, ?_⟩
                        have n0_ := Aside0.mk (Kd.R_below (by (with_reducible repeat (first | apply Kd.R_alloc | apply Kd.R_drewN | apply Kd.R_drew)); exact HO_3.out) hb)
                        have n1_ := Aside0.mk (blk_below (g := gb1101) (o := .cells #[.slice (some ad1105) l0_0.length c0_0, .slice (some ad1109) l0_1.length c0_1, .int .i64 a0_2] 60 (0, 0)) (by (with_reducible repeat (first | refine blk_drewN ?_ _ | refine blk_drew ?_ | refine blk_alloc ?_ _)); exact BK1101.out) hb)
                        have n2_ := Aside0.mk (blk_below (g := gb1106) (o := .cells #[.slice A1105_0 ((rd_T72 l0_0 x10_1).f0).length c1105_0, .slice A1105_1 ((rd_T72 l0_0 x10_1).f1).length c1105_1] 72 (0, 0)) (by (with_reducible repeat (first | refine blk_drewN ?_ _ | refine blk_drew ?_ | refine blk_alloc ?_ _)); exact BK1106.out) hb)
                        have n3_ := Aside0.mk (below_step (by repeat (first | (with_reducible first | exact HB.out | apply below_alloc | apply pw_below_drewN | apply below_drew1 | refine below_set ?_ GE1101.out | refine below_set ?_ GE1106.out) | exact HB.out)) hb)
                        clear HO_3
                        clear BK1101
                        clear BK1106
                        clear HB
                        have HO_3 := n0_
                        have BK1101 := n1_
                        have BK1106 := n2_
                        have HB := n3_
                        clear n0_ n1_ n2_ n3_
                        (try clear hb)
                        (try clear hb2)
                        (try clear hk)
                        (try clear hi)
                        refine hK.out _ _ ⟨(blk_cell BK1106.out 0).trans rfl, (blk_cell BK1106.out 1).trans rfl, (blk_cell BK1101.out 0).trans rfl, (blk_cell BK1101.out 1).trans rfl, (blk_cell BK1101.out 2).trans rfl, ((HB.out.cell (World.block_lt_of_cell? w _ hw1109_0)).trans hw1109_0)⟩ (fun hHeld => ?_)
                        clear hK K
                        refine norm_ (a' := ?_) ?_ ?_
                        rotate_left
                        · show Act.put _ (some 25) _ = _
                          simp only [Act.put, List.setIfInBounds_toArray, List.set_cons_zero, List.set_cons_succ, i64_w, i32_w]
                          rfl
                        refine pure_ (i := 6) (N := some 26) (v := ?_) (a' := ?_) #[true, true, true, true, true, true, true, false, true, true, true, true, true, true, false, false, false, false, false] rfl rfl (any_of HT_.out (by kernel_rfl)) (fun _ _ _ h => h) (Or.inl ⟨by rfl, ?_⟩) ?_ ?_
                        rotate_left
                        · intro w'
                          go_simp
                          with_reducible rfl
                        rotate_left
                        · simp only [Act.put, List.setIfInBounds_toArray, List.set_cons_zero, List.set_cons_succ, i64_w, i32_w]
                          rfl
                        refine pure_ (i := 7) (N := some 27) (v := ?_) (a' := ?_) #[true, true, true, true, true, true, true, true, true, true, true, true, true, true, false, false, false, false, false] rfl rfl (any_of HT_.out (by kernel_rfl)) (fun _ _ _ h => h) (Or.inl ⟨by rfl, ?_⟩) ?_ ?_
                        rotate_left
                        · intro w'
                          go_simp
                          with_reducible rfl
                        rotate_left
                        · simp only [Act.put, List.setIfInBounds_toArray, List.set_cons_zero, List.set_cons_succ, i64_w, i32_w]
                          rfl
                        refine one_ (i := 14) (N := some 34) #[true, true, true, true, true, true, true, true, true, true, true, true, true, true, true, false, false, false, false] rfl rfl (one_of HT_.out (by kernel_rfl)) (by decide) (fun K hK => ?_)
                        refine goes_ Try.func116 (by kernel_rfl) rfl #[.int .i64 ((rd_L14 l0_1 x10_1).length : Int)] (by rfl) rfl rfl (by (try simp only [List.map_toArray, List.map_cons, List.map_nil]); first | done | rfl | (simp only [List.length_drop, List.length_take]; rfl)) ?_
                        with_reducible refine (impl_FormatInt.calls k1 ((rd_L14 l0_1 x10_1).length : Int) t1110 _ A15.out).mono ?_
                        rintro e w26 ⟨rfl, hb⟩
                        refine ⟨_, rfl, ?_⟩
                        have n0_ := Aside0.mk (Kd.R_below (by (with_reducible repeat (first | apply Kd.R_alloc | apply Kd.R_drewN | apply Kd.R_drew)); exact HO_3.out) hb)
                        have n1_ := Aside0.mk (blk_below (g := gb1101) (o := .cells #[.slice (some ad1105) l0_0.length c0_0, .slice (some ad1109) l0_1.length c0_1, .int .i64 a0_2] 60 (0, 0)) (by (with_reducible repeat (first | refine blk_drewN ?_ _ | refine blk_drew ?_ | refine blk_alloc ?_ _)); exact BK1101.out) hb)
                        have n2_ := Aside0.mk (blk_below (g := gb1106) (o := .cells #[.slice A1105_0 ((rd_T72 l0_0 x10_1).f0).length c1105_0, .slice A1105_1 ((rd_T72 l0_0 x10_1).f1).length c1105_1] 72 (0, 0)) (by (with_reducible repeat (first | refine blk_drewN ?_ _ | refine blk_drew ?_ | refine blk_alloc ?_ _)); exact BK1106.out) hb)
                        have n3_ := Aside0.mk (below_step (by repeat (first | (with_reducible first | exact HB.out | apply below_alloc | apply pw_below_drewN | apply below_drew1 | refine below_set ?_ GE1101.out | refine below_set ?_ GE1106.out) | exact HB.out)) hb)
                        clear HO_3
                        clear BK1101
                        clear BK1106
                        clear HB
                        have HO_3 := n0_
                        have BK1101 := n1_
                        have BK1106 := n2_
                        have HB := n3_
                        clear n0_ n1_ n2_ n3_
                        (try clear hb)
                        (try clear hb2)
                        (try clear hk)
                        (try clear hi)
                        refine hK.out _ _ ⟨(blk_cell BK1106.out 0).trans rfl, (blk_cell BK1106.out 1).trans rfl, (blk_cell BK1101.out 0).trans rfl, (blk_cell BK1101.out 1).trans rfl, (blk_cell BK1101.out 2).trans rfl, ((HB.out.cell (World.block_lt_of_cell? w _ hw1109_0)).trans hw1109_0)⟩ (fun hHeld => ?_)
                        clear hK K
                        refine norm_ (a' := ?_) ?_ ?_
                        rotate_left
                        · show Act.put _ (some 34) _ = _
                          simp only [Act.put, List.setIfInBounds_toArray, List.set_cons_zero, List.set_cons_succ, i64_w, i32_w]
                          rfl
                        refine pure_ (i := 15) (N := some 35) (v := ?_) (a' := ?_) #[true, true, true, true, true, true, true, true, true, true, true, true, true, true, true, true, false, false, false] rfl rfl (any_of HT_.out (by kernel_rfl)) (fun _ _ _ h => h) (Or.inl ⟨by rfl, ?_⟩) ?_ ?_
                        rotate_left
                        · intro w'
                          go_simp
                          with_reducible rfl
                        rotate_left
                        · simp only [Act.put, List.setIfInBounds_toArray, List.set_cons_zero, List.set_cons_succ, i64_w, i32_w]
                          rfl
                        refine one_ (i := 16) (N := some 36) #[true, true, true, true, true, true, true, true, true, true, true, true, true, true, true, true, true, false, false] rfl rfl (one_of HT_.out (by kernel_rfl)) (by decide) (fun K hK => ?_)
                        refine value_ (w1 := ?_) (v := ?_) (by rfl) rfl ?_ ?_
                        rotate_left 2
                        · go_simp
                          constructor
                          · rfl
                          · rfl
                        refine hK.out _ _ ⟨(blk_cell (blk_alloc BK1106.out _) 0).trans rfl, (blk_cell (blk_alloc BK1106.out _) 1).trans rfl, (blk_cell (blk_alloc BK1101.out _) 0).trans rfl, (blk_cell (blk_alloc BK1101.out _) 1).trans rfl, (blk_cell (blk_alloc BK1101.out _) 2).trans rfl, (World.cell?_alloc_lt _ _ _ (World.block_lt_of_cell? _ _ (((HB.out.cell (World.block_lt_of_cell? w _ hw1109_0)).trans hw1109_0)))).trans (((HB.out.cell (World.block_lt_of_cell? w _ hw1109_0)).trans hw1109_0))⟩ (fun hHeld => ?_)
                        clear hK K
                        refine norm_ (a' := ?_) ?_ ?_
                        rotate_left
                        · show Act.put _ (some 36) _ = _
                          simp only [Act.put, List.setIfInBounds_toArray, List.set_cons_zero, List.set_cons_succ, i64_w, i32_w]
                          rfl
                        refine one_ (i := 17) (N := some 37) #[true, true, true, true, true, true, true, true, true, true, true, true, true, true, true, true, true, true, false] rfl rfl (one_of HT_.out (by kernel_rfl)) (by decide) (fun K hK => ?_)
                        refine Kd.R_append_step Kd.string (w0 := w) w.heap.size (by rfl) (.tmp 20) (.tmp 36) 24 9 (.string ⟨#[]⟩) 16 rfl Try.underlying24 info9 rfl (by decide) (by omega) u3 x3_1 ((((t1107 ++ (⟨#[32]⟩ : ByteArray)) ++ t1108) ++ (⟨#[32, 115, 105, 122, 101, 32]⟩ : ByteArray)) ++ t1110) [.string ((((t1107 ++ (⟨#[32]⟩ : ByteArray)) ++ t1108) ++ (⟨#[32, 115, 105, 122, 101, 32]⟩ : ByteArray)) ++ t1110)] (fun _ => True) (fun _ => False) rfl rfl ?aP (fun _ hk => hk.elim) ?aF ?aO ?aB ?aS ?aL ?_
                        (case aP => exact rfl)
                        (case aB => exact (by repeat (first | (with_reducible first | exact HB.out | apply below_alloc | apply pw_below_drewN | apply below_drew1 | refine below_set ?_ GE1101.out | refine below_set ?_ GE1106.out) | exact HB.out)))
                        (case aF => exact (fun _ _ => trivial))
                        (case aO => exact (by (with_reducible repeat (first | apply Kd.R_alloc | apply Kd.R_drewN | apply Kd.R_drew)); exact HO_3.out))
                        (case aS => exact (below_size (by repeat (first | (with_reducible first | exact HB.out | apply below_alloc | apply pw_below_drewN | apply below_drew1 | refine below_set ?_ GE1101.out | refine below_set ?_ GE1106.out) | exact HB.out))))
                        (case aL => have := LMc17.out; omega)
                        intro v1112 w27 ho hb hg hat
                        rw [← Ny1111.out] at ho
                        have n0_ := Aside0.mk (blk_grown (g := gb1101) (o := .cells #[.slice (some ad1105) l0_0.length c0_0, .slice (some ad1109) l0_1.length c0_1, .int .i64 a0_2] 60 (0, 0)) (by (with_reducible repeat (first | refine blk_drewN ?_ _ | refine blk_drew ?_ | refine blk_alloc ?_ _)); exact BK1101.out) hg (Kd.R_ne HO_3.out BK1101.out (by decide)))
                        have n1_ := Aside0.mk (blk_grown (g := gb1106) (o := .cells #[.slice A1105_0 ((rd_T72 l0_0 x10_1).f0).length c1105_0, .slice A1105_1 ((rd_T72 l0_0 x10_1).f1).length c1105_1] 72 (0, 0)) (by (with_reducible repeat (first | refine blk_drewN ?_ _ | refine blk_drew ?_ | refine blk_alloc ?_ _)); exact BK1106.out) hg (Kd.R_ne HO_3.out BK1106.out (by decide)))
                        have n2_ := Aside0.mk (hb)
                        have n3_ := Aside0.mk (ho)
                        clear BK1101
                        clear BK1106
                        clear HB
                        clear HO_3
                        have BK1101 := n0_
                        have BK1106 := n1_
                        have HB := n2_
                        have HO1113 := n3_
                        clear n0_ n1_ n2_ n3_
                        clear ho hb hg hat
                        refine hK.out _ _ ⟨(blk_cell BK1106.out 0).trans rfl, (blk_cell BK1106.out 1).trans rfl, (blk_cell BK1101.out 0).trans rfl, (blk_cell BK1101.out 1).trans rfl, (blk_cell BK1101.out 2).trans rfl, ((HB.out.cell (World.block_lt_of_cell? w _ hw1109_0)).trans hw1109_0)⟩ (fun hHeld => ?_)
                        clear hK K
                        refine norm_ (a' := ?_) ?_ ?_
                        rotate_left
                        · show Act.put _ (some 37) _ = _
                          simp only [Act.put, List.setIfInBounds_toArray, List.set_cons_zero, List.set_cons_succ, i64_w, i32_w]
                          rfl
                        refine pure_ (i := 18) (N := some 3) (v := ?_) (a' := ?_) #[true, true, true, true, true, true, true, true, true, true, true, true, true, true, true, true, true, true, true] rfl rfl (any_of HT_.out (by kernel_rfl)) (fun _ _ _ h => h) (Or.inl ⟨by rfl, ?_⟩) ?_ ?_
                        rotate_left
                        · intro w'
                          go_simp
                          with_reducible rfl
                        rotate_left
                        · simp only [Act.put, List.setIfInBounds_toArray, List.set_cons_zero, List.set_cons_succ, i64_w, i32_w]
                          rfl
                        refine done_ (done_of HT_.out (by kernel_rfl)) ?_
                        try go_wp2
                        go_roundg k1
                        case measure => have := HK1.out; omega
                        case rel => exact ⟨(y1111), (wrap64 (x10_1 + 1)), (by first | rfl | (simp; done) | (simp [*]; done)), H', ⟨by have := HK1.out; omega⟩, ⟨by (with_reducible repeat (first | apply Kd.R_alloc | apply Kd.R_drewN | apply Kd.R_drew)); exact HO1113.out⟩, ⟨by (with_reducible repeat (first | refine blk_drewN ?_ _ | refine blk_drew ?_ | refine blk_alloc ?_ _)); exact BK1101.out⟩, ⟨by repeat (first | (with_reducible first | exact HB.out | apply below_alloc | apply pw_below_drewN | apply below_drew1 | refine below_set ?_ GE1101.out | refine below_set ?_ GE1106.out) | exact HB.out)⟩⟩
                      · rw [if_neg c17] at H
                        exact absurd H (by simp)
                    · rw [if_neg c16] at H
                      exact absurd H (by simp)
                  · rw [if_neg c14] at H
                    exact absurd H (by simp)
                · rw [if_neg c13] at H
                  exact absurd H (by simp)
              · rw [if_neg c11] at H
                exact absurd H (by simp)
            · rw [if_neg c9] at H
              have c9b0 : decide (x10_1 < (l0_1.length : Int)) = false := decide_eq_false c9
              clear c9
              have H' := Aside0.mk H
              clear H
              have p1105 : 0 ≤ (x10_1 : Int) := of_decide_eq_true (by first | (with_reducible assumption) | assumption)
              have q1105 : x10_1 < (l0_0.length : Int) := of_decide_eq_true (by first | (with_reducible assumption) | assumption)
              obtain ⟨ad1105, A1105_0, c1105_0, A1105_1, c1105_1, e1105, hx1105_0, hx1105_1, hl1105_0, hi1105_0, hl1105_1, hi1105_1⟩ := at_T72 HR0_0.out x10_1 p1105 q1105
              cases e1105
              replace hx1105_0 := (HB.out.cell (World.block_lt_of_cell? w _ hx1105_0)).trans hx1105_0
              replace hx1105_1 := (HB.out.cell (World.block_lt_of_cell? w _ hx1105_1)).trans hx1105_1
              have HR1105_0 := Aside0.mk hi1105_0
              have HC1105_0 := Aside0.mk hl1105_0
              clear hi1105_0 hl1105_0
              have HR1105_1 := Aside0.mk hi1105_1
              have HC1105_1 := Aside0.mk hl1105_1
              clear hi1105_1 hl1105_1
              replace p1105 := eq_true p1105
              replace q1105 := eq_true q1105
              go_wp2_with (first | ((with_reducible refine gate_dst (N := 5) rfl ?_); refine box_event ?hg (N := 5) ?hd (cs := #[.slice none 0 0, .slice none 0 0]) (t := 72) ?hr ?_; (case hd => rfl); (case hg => rfl); (case hr => first | (go_simp; done) | (go_simp; rfl)); intro gb1106 hg w28 hbox hb; have n0_ := Aside0.mk (Kd.R_below (by (with_reducible repeat (first | apply Kd.R_alloc | apply Kd.R_drewN | apply Kd.R_drew)); exact HO_3.out) hb); have n1_ := Aside0.mk (blk_below (g := gb1101) (o := .cells #[.slice (some ad1105) l0_0.length c0_0, .slice A0_1 l0_1.length c0_1, .int .i64 a0_2] 60 (0, 0)) (by (with_reducible repeat (first | refine blk_drewN ?_ _ | refine blk_drew ?_ | refine blk_alloc ?_ _)); exact BK1101.out) hb); have n2_ := Aside0.mk (below_step (by repeat (first | (with_reducible first | exact HB.out | apply below_alloc | apply pw_below_drewN | apply below_drew1 | refine below_set ?_ GE1101.out) | exact HB.out)) hb); have n3_ := Aside0.mk (hbox); have n4_ := Aside0.mk ((by rw [hg]; exact (below_size (by repeat (first | (with_reducible first | exact HB.out | apply below_alloc | apply pw_below_drewN | apply below_drew1 | refine below_set ?_ GE1101.out) | exact HB.out))) : w.heap.size ≤ gb1106)); have n5_ := Aside0.mk ((by rw [hg]; exact (below_size (by repeat (first | (with_reducible first | exact HB.out | apply below_alloc | apply pw_below_drewN | apply below_drew1 | refine below_set ?_ GE1101.out) | exact HB.out))) : w.heap.size ≤ gb1106)); have n6_ := Aside0.mk ((by rw [hg]; exact Nat.ne_of_lt (blk_lt (g := gb1101) (o := .cells #[.slice (some ad1105) l0_0.length c0_0, .slice A0_1 l0_1.length c0_1, .int .i64 a0_2] 60 (0, 0)) (by (with_reducible repeat (first | refine blk_drewN ?_ _ | refine blk_drew ?_ | refine blk_alloc ?_ _)); exact BK1101.out)) : gb1101 ≠ gb1106)); have n7_ := Aside0.mk ((by rw [hg]; exact Nat.ne_of_gt (blk_lt (g := gb1101) (o := .cells #[.slice (some ad1105) l0_0.length c0_0, .slice A0_1 l0_1.length c0_1, .int .i64 a0_2] 60 (0, 0)) (by (with_reducible repeat (first | refine blk_drewN ?_ _ | refine blk_drew ?_ | refine blk_alloc ?_ _)); exact BK1101.out)) : gb1106 ≠ gb1101)); clear HO_3; clear BK1101; clear HB; have HO_3 := n0_; have BK1101 := n1_; have HB := n2_; have BK1106 := n3_; have GW1106 := n4_; have GE1106 := n5_; have NB1101_1106 := n6_; have NB1106_1101 := n7_; clear n0_ n1_ n2_ n3_ n4_ n5_ n6_ n7_; clear hb hbox hg; have hnb29 := NB1106_1101.out; have hnc29 := NB1101_1106.out; have hcz30_0 : w28.cell? ⟨gb1106, 0, none⟩ = some (.slice none 0 0) := (blk_cell BK1106.out 0).trans rfl; have hcz30_1 : w28.cell? ⟨gb1106, 1, none⟩ = some (.slice none 0 0) := (blk_cell BK1106.out 1).trans rfl; have hfz30_0 := blk_frozen BK1106.out 0; have hfz30_1 := blk_frozen BK1106.out 1; have hcz31_0 : w28.cell? ⟨gb1101, 0, none⟩ = some (.slice (some ad1105) l0_0.length c0_0) := (blk_cell BK1101.out 0).trans rfl; have hcz31_1 : w28.cell? ⟨gb1101, 1, none⟩ = some (.slice A0_1 l0_1.length c0_1) := (blk_cell BK1101.out 1).trans rfl; have hcz31_2 : w28.cell? ⟨gb1101, 2, none⟩ = some (.int .i64 a0_2) := (blk_cell BK1101.out 2).trans rfl; have hfz31_0 := blk_frozen BK1101.out 0; have hfz31_1 := blk_frozen BK1101.out 1; have hfz31_2 := blk_frozen BK1101.out 2))
              go_roundg k1
              case measure => have := HK1.out; omega
              case rel => exact ⟨(x3_1), (wrap64 (x10_1 + 1)), (by first | rfl | (simp; done) | (simp [*]; done)), H', ⟨by have := HK1.out; omega⟩, ⟨by (with_reducible repeat (first | apply Kd.R_alloc | apply Kd.R_drewN | apply Kd.R_drew)); exact Kd.R_mono (Kd.R_far (p := ⟨gb1106, 1, none⟩) (Kd.R_far (p := ⟨gb1106, 0, none⟩) (Kd.R_types HO_3.out BK1106.out (by decide)) (fun _ hk => hk.2) (.slice A1105_0 ((rd_T72 l0_0 x10_1).f0).length c1105_0)) (fun _ hk => hk.2) (.slice A1105_1 ((rd_T72 l0_0 x10_1).f1).length c1105_1)) (fun _ hk => trivial)⟩, ⟨by (with_reducible repeat (first | refine blk_drewN ?_ _ | refine blk_drew ?_ | refine blk_alloc ?_ _)); refine blk_far ?_ NB1101_1106.out _; (with_reducible repeat (first | refine blk_drewN ?_ _ | refine blk_drew ?_ | refine blk_alloc ?_ _)); refine blk_far ?_ NB1101_1106.out _; (with_reducible repeat (first | refine blk_drewN ?_ _ | refine blk_drew ?_ | refine blk_alloc ?_ _)); exact BK1101.out⟩, ⟨by repeat (first | (with_reducible first | exact HB.out | apply below_alloc | apply pw_below_drewN | apply below_drew1 | refine below_set ?_ GE1101.out | refine below_set ?_ GE1106.out) | exact HB.out)⟩⟩
          · rw [if_neg c8] at H
            exact absurd H (by simp)
        · rw [if_neg c7] at H
          exact absurd H (by simp)
      · rw [if_neg c6] at H
        have c6b0 : decide (x10_1 < (l0_0.length : Int)) = false := decide_eq_false c6
        clear c6
        obtain rfl := Option.some.inj H
        go_wp2
        go_ret
        exact ⟨_, by first | rfl | (simp [errW_none, errW_some] <;> rfl) | (simp [*, errW_none, errW_some] <;> rfl), by (with_reducible repeat (first | apply Kd.R_alloc | apply Kd.R_drewN | apply Kd.R_drew)); exact HO_3.out, by repeat (first | (with_reducible first | exact HB.out | apply below_alloc | apply pw_below_drewN | apply below_drew1 | refine below_set ?_ GE1101.out) | exact HB.out)⟩

end Go.Proofs.Ytjiipeidginjnaa.P

