/- Out of YtjiipeidginjnaaPx36: what the claim needs of it. Conditions: each declaration's own. -/
import Derived.Test.YtjiipeidginjnaaZAvwM10
import Derived.Test.YtjiipeidginjnaaZAvwM16
namespace Go.Proofs.Ytjiipeidginjnaa.P
open Go.RowKit Go.Proofs.YtjiipeidginjnaaW.PrintWords Go.Proofs.YtjiipeidginjnaaW.PrintLast Go.Proofs.YtjiipeidginjnaaW.PrintMore
attribute [local go_sem] max2_int min2_int max_two min_two max_three min_three max_four min_four   -- for this text's walks alone
set_option linter.unusedVariables false
set_option linter.unusedSimpArgs false

mutual
def impl_canBe.j0 : Nat → Bool → Int → List Int → Int → List Int → Option (Bool)
  | 0, _, _, _, _, _ => none
  | k + 1, x22, x1012000, x1012001, x1013000, x1013001 => if x22 = true then (some false) else (impl_canBe.l0 k x1012001 (x1012001.length : Int) 0 x1012000 x1012001 x1013000 x1013001)
def impl_canBe.l0 : Nat → List Int → Int → Int → Int → List Int → Int → List Int → Option (Bool)
  | 0, _, _, _, _, _, _, _ => none
  | k + 1, x24, x25, x26, x1012000, x1012001, x1013000, x1013001 => if x26 < x25 then (if 0 ≤ x26 then (if x26 < (x24.length : Int) then ((impl_IsVar.f (rd x24 x26)).bind fun t1014 => (if t1014 = true then (impl_canBe.j2 k x26 (rd x24 x26) x24 x25 x26 false x1012000 x1012001 x1013000 x1013001) else ((impl_ConstOf.f (rd x24 x26)).bind fun t1015 => (if t1015 < 0 then (impl_canBe.j2 k x26 (rd x24 x26) x24 x25 x26 true x1012000 x1012001 x1013000 x1013001) else ((impl_ConstOf.f (rd x24 x26)).bind fun t1016 => (if x26 < (x1013001.length : Int) then (impl_canBe.j2 k x26 (rd x24 x26) x24 x25 x26 (t1016 != (rd x1013001 x26)) x1012000 x1012001 x1013000 x1013001) else (none))))))) else (none)) else (none)) else (some true)
def impl_canBe.j2 : Nat → Int → Int → List Int → Int → Int → Bool → Int → List Int → Int → List Int → Option (Bool)
  | 0, _, _, _, _, _, _, _, _, _, _ => none
  | k + 1, x5, x6, x24, x25, x26, x48, x1012000, x1012001, x1013000, x1013001 => if x48 = true then (some false) else (if 0 ≤ x5 then (if x5 ≤ (x1012001.length : Int) then (impl_canBe.l1 k x5 x6 x24 x25 x26 (x1012001.take (x5 : Int).toNat) ((x1012001.take (x5 : Int).toNat).length : Int) 0 x1012000 x1012001 x1013000 x1013001) else (none)) else (none))
def impl_canBe.l1 : Nat → Int → Int → List Int → Int → Int → List Int → Int → Int → Int → List Int → Int → List Int → Option (Bool)
  | 0, _, _, _, _, _, _, _, _, _, _, _, _ => none
  | k + 1, x5, x6, x24, x25, x26, x52, x53, x54, x1012000, x1012001, x1013000, x1013001 => if x54 < x53 then (if 0 ≤ x54 then (if x54 < (x52.length : Int) then (if x6 = (rd x52 x54) then (if 0 ≤ x5 then (if x5 < (x1013001.length : Int) then (if x54 < (x1013001.length : Int) then (if (rd x1013001 x5) = (rd x1013001 x54) then (impl_canBe.l1 k x5 x6 x24 x25 x26 x52 x53 (wrap64 (x54 + 1)) x1012000 x1012001 x1013000 x1013001) else (some false)) else (none)) else (none)) else (none)) else (impl_canBe.l1 k x5 x6 x24 x25 x26 x52 x53 (wrap64 (x54 + 1)) x1012000 x1012001 x1013000 x1013001)) else (none)) else (none)) else (impl_canBe.l0 k x24 x25 (wrap64 (x26 + 1)) x1012000 x1012001 x1013000 x1013001)
end
def impl_canBe.f (k : Nat) (a0_0 : Int) (l0_1 : List Int) (a1_0 : Int) (l1_1 : List Int) : Option (Bool) := if a0_0 = a1_0 then (impl_canBe.j0 k ((l0_1.length : Int) != (l1_1.length : Int)) a0_0 l0_1 a1_0 l1_1) else (impl_canBe.j0 k true a0_0 l0_1 a1_0 l1_1)
set_option maxHeartbeats 8000000 in
set_option maxRecDepth 100000 in
theorem impl_canBe.calls (k : Nat) (a0_0 : Int) (A0_1 : Option Addr) (c0_1 : Nat) (l0_1 : List Int) (a1_0 : Int) (A1_1 : Option Addr) (c1_1 : Nat) (l1_1 : List Int) (r : Bool) (w : World) (hr0_1 : Kd.C (Kd.int .i64) w A0_1 l0_1.length l0_1) (hc0_1 : l0_1.length ≤ c0_1) (hr1_1 : Kd.C (Kd.int .i64) w A1_1 l1_1.length l1_1) (hc1_1 : l1_1.length ≤ c1_1) (h : impl_canBe.f k a0_0 l0_1 a1_0 l1_1 = some r) :
    Calls Try.prog 162 #[.agg #[.int .i64 a0_0, .slice A0_1 l0_1.length c0_1], .agg #[.int .i64 a1_0, .slice A1_1 l1_1.length c1_1]] w fun e w' => e = .returned (.bool r) ∧ Below w.heap.size w w' := by
  have hu153 := Try.underlying153
  have hu82 := Try.underlying82
  have HR0_1 := Aside0.mk hr0_1
  have HC0_1 := Aside0.mk hc0_1
  clear hr0_1 hc0_1
  have HR1_1 := Aside0.mk hr1_1
  have HC1_1 := Aside0.mk hc1_1
  clear hr1_1 hc1_1
  have HB := Aside0.mk (Below.refl w.heap.size w)
  have H : (if a0_0 = a1_0 then (impl_canBe.j0 k ((l0_1.length : Int) != (l1_1.length : Int)) a0_0 l0_1 a1_0 l1_1) else (impl_canBe.j0 k true a0_0 l0_1 a1_0 l1_1)) = some r := h
  clear h
  have HC3 := Aside0.mk H
  clear H
  go_enter Try.func162, Try.ntmps162
  go_upto_region 1 with (first | ((with_reducible refine gate_dst (N := 2) rfl ?_); (try (refine gate_guard (by rfl) ?_; dsimp only)); refine box_event ?hg (N := 2) ?hd (cs := #[.int .i64 a0_0, .slice A0_1 l0_1.length c0_1]) (t := 153) ?hr ?_; (case hd => rfl); (case hg => rfl); (case hr => first | (go_simp; done) | (go_simp; rfl)); intro gb1011 hg w4 hbox hb; have n0_ := Aside0.mk (below_step (by repeat (first | (with_reducible first | exact HB.out | apply below_alloc | apply pw_below_drewN | apply below_drew1) | exact HB.out)) hb); have n1_ := Aside0.mk (hbox); have n2_ := Aside0.mk ((by rw [hg]; exact (below_size (by repeat (first | (with_reducible first | exact HB.out | apply below_alloc | apply pw_below_drewN | apply below_drew1) | exact HB.out))) : w.heap.size ≤ gb1011)); have n3_ := Aside0.mk ((by rw [hg]; exact (below_size (by repeat (first | (with_reducible first | exact HB.out | apply below_alloc | apply pw_below_drewN | apply below_drew1) | exact HB.out))) : w.heap.size ≤ gb1011)); clear HB; have HB := n0_; have BK1011 := n1_; have GW1011 := n2_; have GE1011 := n3_; clear n0_ n1_ n2_ n3_; clear hb hbox hg) | ((with_reducible refine gate_dst (N := 3) rfl ?_); (try (refine gate_guard (by rfl) ?_; dsimp only)); refine box_event ?hg (N := 3) ?hd (cs := #[.int .i64 a1_0, .slice A1_1 l1_1.length c1_1]) (t := 82) ?hr ?_; (case hd => rfl); (case hg => rfl); (case hr => first | (go_simp; done) | (go_simp; rfl)); intro gb1012 hg w5 hbox hb; have n0_ := Aside0.mk (blk_below (g := gb1011) (o := .cells #[.int .i64 a0_0, .slice A0_1 l0_1.length c0_1] 153 (0, 0)) (by (with_reducible repeat (first | refine blk_drewN ?_ _ | refine blk_drew ?_ | refine blk_alloc ?_ _)); exact BK1011.out) hb); have n1_ := Aside0.mk (below_step (by repeat (first | (with_reducible first | exact HB.out | apply below_alloc | apply pw_below_drewN | apply below_drew1 | refine below_set ?_ GE1011.out) | exact HB.out)) hb); have n2_ := Aside0.mk (hbox); have n3_ := Aside0.mk ((by rw [hg]; exact (below_size (by repeat (first | (with_reducible first | exact HB.out | apply below_alloc | apply pw_below_drewN | apply below_drew1 | refine below_set ?_ GE1011.out) | exact HB.out))) : w.heap.size ≤ gb1012)); have n4_ := Aside0.mk ((by rw [hg]; exact (below_size (by repeat (first | (with_reducible first | exact HB.out | apply below_alloc | apply pw_below_drewN | apply below_drew1 | refine below_set ?_ GE1011.out) | exact HB.out))) : w.heap.size ≤ gb1012)); have n5_ := Aside0.mk ((by rw [hg]; exact Nat.ne_of_lt (blk_lt (g := gb1011) (o := .cells #[.int .i64 a0_0, .slice A0_1 l0_1.length c0_1] 153 (0, 0)) (by (with_reducible repeat (first | refine blk_drewN ?_ _ | refine blk_drew ?_ | refine blk_alloc ?_ _)); exact BK1011.out)) : gb1011 ≠ gb1012)); have n6_ := Aside0.mk ((by rw [hg]; exact Nat.ne_of_gt (blk_lt (g := gb1011) (o := .cells #[.int .i64 a0_0, .slice A0_1 l0_1.length c0_1] 153 (0, 0)) (by (with_reducible repeat (first | refine blk_drewN ?_ _ | refine blk_drew ?_ | refine blk_alloc ?_ _)); exact BK1011.out)) : gb1012 ≠ gb1011)); clear BK1011; clear HB; have BK1011 := n0_; have HB := n1_; have BK1012 := n2_; have GW1012 := n3_; have GE1012 := n4_; have NB1011_1012 := n5_; have NB1012_1011 := n6_; clear n0_ n1_ n2_ n3_ n4_ n5_ n6_; clear hb hbox hg))
  repeat (go_quiet (first | ((with_reducible refine gate_dst (N := 2) rfl ?_); (try (refine gate_guard (by rfl) ?_; dsimp only)); refine box_event ?hg (N := 2) ?hd (cs := #[.int .i64 a0_0, .slice A0_1 l0_1.length c0_1]) (t := 153) ?hr ?_; (case hd => rfl); (case hg => rfl); (case hr => first | (go_simp; done) | (go_simp; rfl)); intro gb1011 hg w4 hbox hb; have n0_ := Aside0.mk (below_step (by repeat (first | (with_reducible first | exact HB.out | apply below_alloc | apply pw_below_drewN | apply below_drew1) | exact HB.out)) hb); have n1_ := Aside0.mk (hbox); have n2_ := Aside0.mk ((by rw [hg]; exact (below_size (by repeat (first | (with_reducible first | exact HB.out | apply below_alloc | apply pw_below_drewN | apply below_drew1) | exact HB.out))) : w.heap.size ≤ gb1011)); have n3_ := Aside0.mk ((by rw [hg]; exact (below_size (by repeat (first | (with_reducible first | exact HB.out | apply below_alloc | apply pw_below_drewN | apply below_drew1) | exact HB.out))) : w.heap.size ≤ gb1011)); clear HB; have HB := n0_; have BK1011 := n1_; have GW1011 := n2_; have GE1011 := n3_; clear n0_ n1_ n2_ n3_; clear hb hbox hg) | ((with_reducible refine gate_dst (N := 3) rfl ?_); (try (refine gate_guard (by rfl) ?_; dsimp only)); refine box_event ?hg (N := 3) ?hd (cs := #[.int .i64 a1_0, .slice A1_1 l1_1.length c1_1]) (t := 82) ?hr ?_; (case hd => rfl); (case hg => rfl); (case hr => first | (go_simp; done) | (go_simp; rfl)); intro gb1012 hg w5 hbox hb; have n0_ := Aside0.mk (blk_below (g := gb1011) (o := .cells #[.int .i64 a0_0, .slice A0_1 l0_1.length c0_1] 153 (0, 0)) (by (with_reducible repeat (first | refine blk_drewN ?_ _ | refine blk_drew ?_ | refine blk_alloc ?_ _)); exact BK1011.out) hb); have n1_ := Aside0.mk (below_step (by repeat (first | (with_reducible first | exact HB.out | apply below_alloc | apply pw_below_drewN | apply below_drew1 | refine below_set ?_ GE1011.out) | exact HB.out)) hb); have n2_ := Aside0.mk (hbox); have n3_ := Aside0.mk ((by rw [hg]; exact (below_size (by repeat (first | (with_reducible first | exact HB.out | apply below_alloc | apply pw_below_drewN | apply below_drew1 | refine below_set ?_ GE1011.out) | exact HB.out))) : w.heap.size ≤ gb1012)); have n4_ := Aside0.mk ((by rw [hg]; exact (below_size (by repeat (first | (with_reducible first | exact HB.out | apply below_alloc | apply pw_below_drewN | apply below_drew1 | refine below_set ?_ GE1011.out) | exact HB.out))) : w.heap.size ≤ gb1012)); have n5_ := Aside0.mk ((by rw [hg]; exact Nat.ne_of_lt (blk_lt (g := gb1011) (o := .cells #[.int .i64 a0_0, .slice A0_1 l0_1.length c0_1] 153 (0, 0)) (by (with_reducible repeat (first | refine blk_drewN ?_ _ | refine blk_drew ?_ | refine blk_alloc ?_ _)); exact BK1011.out)) : gb1011 ≠ gb1012)); have n6_ := Aside0.mk ((by rw [hg]; exact Nat.ne_of_gt (blk_lt (g := gb1011) (o := .cells #[.int .i64 a0_0, .slice A0_1 l0_1.length c0_1] 153 (0, 0)) (by (with_reducible repeat (first | refine blk_drewN ?_ _ | refine blk_drew ?_ | refine blk_alloc ?_ _)); exact BK1011.out)) : gb1012 ≠ gb1011)); clear BK1011; clear HB; have BK1011 := n0_; have HB := n1_; have BK1012 := n2_; have GW1012 := n3_; have GE1012 := n4_; have NB1011_1012 := n5_; have NB1012_1011 := n6_; clear n0_ n1_ n2_ n3_ n4_ n5_ n6_; clear hb hbox hg)); go_upto_region 1 with (first | ((with_reducible refine gate_dst (N := 2) rfl ?_); (try (refine gate_guard (by rfl) ?_; dsimp only)); refine box_event ?hg (N := 2) ?hd (cs := #[.int .i64 a0_0, .slice A0_1 l0_1.length c0_1]) (t := 153) ?hr ?_; (case hd => rfl); (case hg => rfl); (case hr => first | (go_simp; done) | (go_simp; rfl)); intro gb1011 hg w4 hbox hb; have n0_ := Aside0.mk (below_step (by repeat (first | (with_reducible first | exact HB.out | apply below_alloc | apply pw_below_drewN | apply below_drew1) | exact HB.out)) hb); have n1_ := Aside0.mk (hbox); have n2_ := Aside0.mk ((by rw [hg]; exact (below_size (by repeat (first | (with_reducible first | exact HB.out | apply below_alloc | apply pw_below_drewN | apply below_drew1) | exact HB.out))) : w.heap.size ≤ gb1011)); have n3_ := Aside0.mk ((by rw [hg]; exact (below_size (by repeat (first | (with_reducible first | exact HB.out | apply below_alloc | apply pw_below_drewN | apply below_drew1) | exact HB.out))) : w.heap.size ≤ gb1011)); clear HB; have HB := n0_; have BK1011 := n1_; have GW1011 := n2_; have GE1011 := n3_; clear n0_ n1_ n2_ n3_; clear hb hbox hg) | ((with_reducible refine gate_dst (N := 3) rfl ?_); (try (refine gate_guard (by rfl) ?_; dsimp only)); refine box_event ?hg (N := 3) ?hd (cs := #[.int .i64 a1_0, .slice A1_1 l1_1.length c1_1]) (t := 82) ?hr ?_; (case hd => rfl); (case hg => rfl); (case hr => first | (go_simp; done) | (go_simp; rfl)); intro gb1012 hg w5 hbox hb; have n0_ := Aside0.mk (blk_below (g := gb1011) (o := .cells #[.int .i64 a0_0, .slice A0_1 l0_1.length c0_1] 153 (0, 0)) (by (with_reducible repeat (first | refine blk_drewN ?_ _ | refine blk_drew ?_ | refine blk_alloc ?_ _)); exact BK1011.out) hb); have n1_ := Aside0.mk (below_step (by repeat (first | (with_reducible first | exact HB.out | apply below_alloc | apply pw_below_drewN | apply below_drew1 | refine below_set ?_ GE1011.out) | exact HB.out)) hb); have n2_ := Aside0.mk (hbox); have n3_ := Aside0.mk ((by rw [hg]; exact (below_size (by repeat (first | (with_reducible first | exact HB.out | apply below_alloc | apply pw_below_drewN | apply below_drew1 | refine below_set ?_ GE1011.out) | exact HB.out))) : w.heap.size ≤ gb1012)); have n4_ := Aside0.mk ((by rw [hg]; exact (below_size (by repeat (first | (with_reducible first | exact HB.out | apply below_alloc | apply pw_below_drewN | apply below_drew1 | refine below_set ?_ GE1011.out) | exact HB.out))) : w.heap.size ≤ gb1012)); have n5_ := Aside0.mk ((by rw [hg]; exact Nat.ne_of_lt (blk_lt (g := gb1011) (o := .cells #[.int .i64 a0_0, .slice A0_1 l0_1.length c0_1] 153 (0, 0)) (by (with_reducible repeat (first | refine blk_drewN ?_ _ | refine blk_drew ?_ | refine blk_alloc ?_ _)); exact BK1011.out)) : gb1011 ≠ gb1012)); have n6_ := Aside0.mk ((by rw [hg]; exact Nat.ne_of_gt (blk_lt (g := gb1011) (o := .cells #[.int .i64 a0_0, .slice A0_1 l0_1.length c0_1] 153 (0, 0)) (by (with_reducible repeat (first | refine blk_drewN ?_ _ | refine blk_drew ?_ | refine blk_alloc ?_ _)); exact BK1011.out)) : gb1012 ≠ gb1011)); clear BK1011; clear HB; have BK1011 := n0_; have HB := n1_; have BK1012 := n2_; have GW1012 := n3_; have GE1012 := n4_; have NB1011_1012 := n5_; have NB1012_1011 := n6_; clear n0_ n1_ n2_ n3_ n4_ n5_ n6_; clear hb hbox hg)))
  (try simp only [Act.put, List.setIfInBounds_toArray, List.set_cons_zero, List.set_cons_succ])
  go_cut [22] (fun v22 wc => ∃ (kq : Nat) (x22_2 : Bool), v22 = .bool x22_2 ∧ Aside0 (impl_canBe.j0 kq x22_2 a0_0 l0_1 a1_0 l1_1 = some r) ∧ Aside0 (kq ≤ k) ∧ Aside0 (wc.heap[gb1011]? = some (.cells #[.int .i64 a0_0, (.slice A0_1 l0_1.length c0_1)] 153 (0, 0))) ∧ Aside0 (wc.heap[gb1012]? = some (.cells #[.int .i64 a1_0, (.slice A1_1 l1_1.length c1_1)] 82 (0, 0))) ∧ Aside0 (Below w.heap.size w wc))
  case first =>
    have H := HC3.out
    clear HC3
    by_cases c6 : a0_0 = a1_0
    · rw [if_pos c6] at H
      have c6b0 : (a0_0 == a1_0) = true := beq_iff_eq.mpr c6
      have c6b1 : (a0_0 != a1_0) = false := bne_eq_false_iff_eq.mpr c6
      clear c6
      (first | rw [c6b0] | (simp only [i64_w, i32_w]; rw [c6b0]) | skip)
      have H' := Aside0.mk H
      clear H
      have hnb7 := NB1011_1012.out
      have hnc7 := NB1012_1011.out
      have hcz8_0 : w5.cell? ⟨gb1011, 0, none⟩ = some (.int .i64 a0_0) := (blk_cell BK1011.out 0).trans rfl
      have hcz8_1 : w5.cell? ⟨gb1011, 1, none⟩ = some (.slice A0_1 l0_1.length c0_1) := (blk_cell BK1011.out 1).trans rfl
      have hfz8_0 := blk_frozen BK1011.out 0
      have hfz8_1 := blk_frozen BK1011.out 1
      have hcz9_0 : w5.cell? ⟨gb1012, 0, none⟩ = some (.int .i64 a1_0) := (blk_cell BK1012.out 0).trans rfl
      have hcz9_1 : w5.cell? ⟨gb1012, 1, none⟩ = some (.slice A1_1 l1_1.length c1_1) := (blk_cell BK1012.out 1).trans rfl
      have hfz9_0 := blk_frozen BK1012.out 0
      have hfz9_1 := blk_frozen BK1012.out 1
      go_wp2
      repeat (go_quiet (fail); try go_wp2)
      go_meet
      case rel => exact ⟨_, (((l0_1.length : Int) != (l1_1.length : Int))), (by first | rfl | (simp; done) | (simp [*]; done)), H', ⟨by first | omega | exact Nat.le_refl _⟩, ⟨by (with_reducible repeat (first | refine blk_drewN ?_ _ | refine blk_drew ?_ | refine blk_alloc ?_ _)); exact BK1011.out⟩, ⟨by (with_reducible repeat (first | refine blk_drewN ?_ _ | refine blk_drew ?_ | refine blk_alloc ?_ _)); exact BK1012.out⟩, ⟨by repeat (first | (with_reducible first | exact HB.out | apply below_alloc | apply pw_below_drewN | apply below_drew1 | refine below_set ?_ GE1011.out | refine below_set ?_ GE1012.out) | exact HB.out)⟩⟩
    · rw [if_neg c6] at H
      have c6b0 : (a0_0 == a1_0) = false := beq_eq_false_iff_ne.mpr c6
      have c6b1 : (a0_0 != a1_0) = true := bne_iff_ne.mpr c6
      (first | rw [c6b0] | (simp only [i64_w, i32_w]; rw [c6b0]) | skip)
      have H' := Aside0.mk H
      clear H
      have hnb10 := NB1011_1012.out
      have hnc10 := NB1012_1011.out
      have hcz11_0 : w5.cell? ⟨gb1011, 0, none⟩ = some (.int .i64 a0_0) := (blk_cell BK1011.out 0).trans rfl
      have hcz11_1 : w5.cell? ⟨gb1011, 1, none⟩ = some (.slice A0_1 l0_1.length c0_1) := (blk_cell BK1011.out 1).trans rfl
      have hfz11_0 := blk_frozen BK1011.out 0
      have hfz11_1 := blk_frozen BK1011.out 1
      have hcz12_0 : w5.cell? ⟨gb1012, 0, none⟩ = some (.int .i64 a1_0) := (blk_cell BK1012.out 0).trans rfl
      have hcz12_1 : w5.cell? ⟨gb1012, 1, none⟩ = some (.slice A1_1 l1_1.length c1_1) := (blk_cell BK1012.out 1).trans rfl
      have hfz12_0 := blk_frozen BK1012.out 0
      have hfz12_1 := blk_frozen BK1012.out 1
      go_wp2
      repeat (go_quiet (fail); try go_wp2)
      go_meet
      case rel => exact ⟨_, (true), (by first | rfl | (simp; done) | (simp [*]; done)), H', ⟨by first | omega | exact Nat.le_refl _⟩, ⟨by (with_reducible repeat (first | refine blk_drewN ?_ _ | refine blk_drew ?_ | refine blk_alloc ?_ _)); exact BK1011.out⟩, ⟨by (with_reducible repeat (first | refine blk_drewN ?_ _ | refine blk_drew ?_ | refine blk_alloc ?_ _)); exact BK1012.out⟩, ⟨by repeat (first | (with_reducible first | exact HB.out | apply below_alloc | apply pw_below_drewN | apply below_drew1 | refine below_set ?_ GE1011.out | refine below_set ?_ GE1012.out) | exact HB.out)⟩⟩
  case rest =>
    clear HC3
    try clear c1
    try clear p2
    try clear c6
    try clear c6b0
    try clear c6b1
    try clear c7
    try clear c10
    try clear hcz11_0
    try clear hcz11_1
    try clear hcz12_0
    try clear hcz12_1
    try clear hcz8_0
    try clear hcz8_1
    try clear hcz9_0
    try clear hcz9_1
    try clear hfz11_0
    try clear hfz11_1
    try clear hfz12_0
    try clear hfz12_1
    try clear hfz8_0
    try clear hfz8_1
    try clear hfz9_0
    try clear hfz9_1
    obtain ⟨kq, x22_2, rfl, HA, HJ2, BK1011, BK1012, HB⟩ := hcut
    cases kq with
    | zero => exact absurd HA.out (by simp [impl_canBe.j0])
    | succ kj2 =>
      have H := HA.out
      clear HA
      simp only [impl_canBe.j0] at H
      by_cases c13 : x22_2 = true
      · subst c13
        have H1 : (some false) = some r := by rw [if_pos rfl] at H; exact H
        clear H
        have H := H1
        clear H1
        obtain rfl := Option.some.inj H
        go_wp2
        repeat (go_quiet (fail); try go_wp2)
        go_ret
        exact ⟨by first | rfl | (simp [errW_none, errW_some] <;> rfl) | (simp [*, errW_none, errW_some] <;> rfl), by repeat (first | (with_reducible first | exact HB.out | apply below_alloc | apply pw_below_drewN | apply below_drew1 | refine below_set ?_ GE1011.out | refine below_set ?_ GE1012.out) | exact HB.out)⟩
      · replace c13 := Bool.eq_false_iff.mpr c13
        subst c13
        have H1 : (impl_canBe.l0 kj2 l0_1 (l0_1.length : Int) 0 a0_0 l0_1 a1_0 l1_1) = some r := by rw [if_neg (show ¬ (false = true) by decide)] at H; exact H
        clear H
        have H := H1
        clear H1
        have H' := Aside0.mk H
        clear H
        have hnb14 := NB1011_1012.out
        have hnc14 := NB1012_1011.out
        have hcz15_0 : wc.cell? ⟨gb1011, 0, none⟩ = some (.int .i64 a0_0) := (blk_cell BK1011.out 0).trans rfl
        have hcz15_1 : wc.cell? ⟨gb1011, 1, none⟩ = some (.slice A0_1 l0_1.length c0_1) := (blk_cell BK1011.out 1).trans rfl
        have hfz15_0 := blk_frozen BK1011.out 0
        have hfz15_1 := blk_frozen BK1011.out 1
        go_wp2
        repeat (go_quiet (fail); try go_wp2)
        go_loopg [26] kj2 (fun kq v26 w' => ∃ (x26_2 : Int), v26 = .int .i64 x26_2 ∧ Aside0 (impl_canBe.l0 kq l0_1 (l0_1.length : Int) x26_2 a0_0 l0_1 a1_0 l1_1 = some r) ∧ Aside0 (kq ≤ kj2) ∧ Aside0 (w'.heap[gb1011]? = some (.cells #[.int .i64 a0_0, (.slice A0_1 l0_1.length c0_1)] 153 (0, 0))) ∧ Aside0 (w'.heap[gb1012]? = some (.cells #[.int .i64 a1_0, (.slice A1_1 l1_1.length c1_1)] 82 (0, 0))) ∧ Aside0 (Below w.heap.size w w'))
        case atStart => exact ⟨(0), (by first | rfl | (simp; done) | (simp [*]; done)), H', ⟨Nat.le_refl _⟩, ⟨by (with_reducible repeat (first | refine blk_drewN ?_ _ | refine blk_drew ?_ | refine blk_alloc ?_ _)); exact BK1011.out⟩, ⟨by (with_reducible repeat (first | refine blk_drewN ?_ _ | refine blk_drew ?_ | refine blk_alloc ?_ _)); exact BK1012.out⟩, ⟨by repeat (first | (with_reducible first | exact HB.out | apply below_alloc | apply pw_below_drewN | apply below_drew1 | refine below_set ?_ GE1011.out | refine below_set ?_ GE1012.out) | exact HB.out)⟩⟩
        case round =>
          clear H'
          try clear c1
          try clear p2
          try clear c6
          try clear c6b0
          try clear c6b1
          try clear c7
          try clear c10
          try clear c13
          try clear c14
          try clear hcz11_0
          try clear hcz11_1
          try clear hcz12_0
          try clear hcz12_1
          try clear hcz15_0
          try clear hcz15_1
          try clear hcz8_0
          try clear hcz8_1
          try clear hcz9_0
          try clear hcz9_1
          try clear hfz11_0
          try clear hfz11_1
          try clear hfz12_0
          try clear hfz12_1
          try clear hfz15_0
          try clear hfz15_1
          try clear hfz8_0
          try clear hfz8_1
          try clear hfz9_0
          try clear hfz9_1
          try clear p2
          obtain ⟨x26_2, rfl, HA, HK2, BK1011, BK1012, HB⟩ := hrel
          cases gk with
          | zero => exact absurd HA.out (by simp [impl_canBe.l0])
          | succ k2 =>
            have H := HA.out
            clear HA
            simp only [impl_canBe.l0] at H
            by_cases c16 : x26_2 < (l0_1.length : Int)
            · rw [if_pos c16] at H
              have c16b0 : decide (x26_2 < (l0_1.length : Int)) = true := decide_eq_true c16
              clear c16
              by_cases c17 : 0 ≤ x26_2
              · rw [if_pos c17] at H
                have c17b0 : decide (0 ≤ x26_2) = true := decide_eq_true c17
                clear c17
                by_cases c18 : x26_2 < (l0_1.length : Int)
                · rw [if_pos c18] at H
                  have c18b0 : decide (x26_2 < (l0_1.length : Int)) = true := decide_eq_true c18
                  clear c18
                  have HC19 := Aside0.mk H
                  clear H
                  have p1013 : 0 ≤ (x26_2 : Int) := of_decide_eq_true (by first | (with_reducible assumption) | assumption)
                  have q1013 : x26_2 < (l0_1.length : Int) := of_decide_eq_true (by first | (with_reducible assumption) | assumption)
                  obtain ⟨ad1013, e1013, hx1013_0⟩ := Kd.at_int HR0_1.out x26_2 p1013 q1013
                  cases e1013
                  replace hx1013_0 := (HB.out.cell (World.block_lt_of_cell? w _ hx1013_0)).trans hx1013_0
                  replace p1013 := eq_true p1013
                  replace q1013 := eq_true q1013
                  go_upto_region 6 with (fail)
                  repeat (go_quiet (fail); go_upto_region 6 with (fail))
                  go_cut [48] (fun v48 wc => ∃ (kq : Nat) (x48_18 : Bool), v48 = .bool x48_18 ∧ Aside0 (impl_canBe.j2 kq x26_2 (rd l0_1 x26_2) l0_1 (l0_1.length : Int) x26_2 x48_18 a0_0 l0_1 a1_0 l1_1 = some r) ∧ Aside0 (kq ≤ k2) ∧ Aside0 (wc.heap[gb1011]? = some (.cells #[.int .i64 a0_0, (.slice (some ad1013) l0_1.length c0_1)] 153 (0, 0))) ∧ Aside0 (wc.heap[gb1012]? = some (.cells #[.int .i64 a1_0, (.slice A1_1 l1_1.length c1_1)] 82 (0, 0))) ∧ Aside0 (Below w.heap.size w wc))
                  case first =>
                    have H := HC19.out
                    clear HC19
                    replace H := Option.bind_eq_some_iff.mp H
                    obtain ⟨t1014, A200, H⟩ := H
                    replace H : (if t1014 = true then (impl_canBe.j2 k2 x26_2 (rd l0_1 x26_2) l0_1 (l0_1.length : Int) x26_2 false a0_0 l0_1 a1_0 l1_1) else ((impl_ConstOf.f (rd l0_1 x26_2)).bind fun t1015 => (if t1015 < 0 then (impl_canBe.j2 k2 x26_2 (rd l0_1 x26_2) l0_1 (l0_1.length : Int) x26_2 true a0_0 l0_1 a1_0 l1_1) else ((impl_ConstOf.f (rd l0_1 x26_2)).bind fun t1016 => (if x26_2 < (l1_1.length : Int) then (impl_canBe.j2 k2 x26_2 (rd l0_1 x26_2) l0_1 (l0_1.length : Int) x26_2 (t1016 != (rd l1_1 x26_2)) a0_0 l0_1 a1_0 l1_1) else (none)))))) = some r := H
                    have A20 := Aside0.mk A200
                    clear A200
                    by_cases c21 : t1014 = true
                    · subst c21
                      have H1 : (impl_canBe.j2 k2 x26_2 (rd l0_1 x26_2) l0_1 (l0_1.length : Int) x26_2 false a0_0 l0_1 a1_0 l1_1) = some r := by rw [if_pos rfl] at H; exact H
                      clear H
                      have H := H1
                      clear H1
                      have H' := Aside0.mk H
                      clear H
                      go_wp2_with (first | (go_at_call 153; (with_reducible refine (impl_IsVar.calls (rd l0_1 x26_2) true _ A20.out).mono ?_); rintro e w' ⟨rfl, ⟨nd, rfl⟩⟩; (try first | exact ⟨rfl, _, World.drewN_drewN _ _ _⟩ | exact ⟨rfl, _, Eq.trans (World.drewN_drewN _ _ _) (congrArg (World.drewN _) (Nat.add_assoc _ _ _))⟩)))
                      repeat (go_quiet (first | (go_at_call 153; (with_reducible refine (impl_IsVar.calls (rd l0_1 x26_2) true _ A20.out).mono ?_); rintro e w' ⟨rfl, ⟨nd, rfl⟩⟩; (try first | exact ⟨rfl, _, World.drewN_drewN _ _ _⟩ | exact ⟨rfl, _, Eq.trans (World.drewN_drewN _ _ _) (congrArg (World.drewN _) (Nat.add_assoc _ _ _))⟩))); try go_wp2_with (first | (go_at_call 153; (with_reducible refine (impl_IsVar.calls (rd l0_1 x26_2) true _ A20.out).mono ?_); rintro e w' ⟨rfl, ⟨nd, rfl⟩⟩; (try first | exact ⟨rfl, _, World.drewN_drewN _ _ _⟩ | exact ⟨rfl, _, Eq.trans (World.drewN_drewN _ _ _) (congrArg (World.drewN _) (Nat.add_assoc _ _ _))⟩))))
                      go_meet
                      case rel => exact ⟨_, (false), (by first | rfl | (simp; done) | (simp [*]; done)), H', ⟨by have := HJ2.out; have := HK2.out; first | omega | exact Nat.le_refl _⟩, ⟨by (with_reducible repeat (first | refine blk_drewN ?_ _ | refine blk_drew ?_ | refine blk_alloc ?_ _)); exact BK1011.out⟩, ⟨by (with_reducible repeat (first | refine blk_drewN ?_ _ | refine blk_drew ?_ | refine blk_alloc ?_ _)); exact BK1012.out⟩, ⟨by repeat (first | (with_reducible first | exact HB.out | apply below_alloc | apply pw_below_drewN | apply below_drew1 | refine below_set ?_ GE1011.out | refine below_set ?_ GE1012.out) | exact HB.out)⟩⟩
                    · replace c21 := Bool.eq_false_iff.mpr c21
                      subst c21
                      have H1 : ((impl_ConstOf.f (rd l0_1 x26_2)).bind fun t1015 => (if t1015 < 0 then (impl_canBe.j2 k2 x26_2 (rd l0_1 x26_2) l0_1 (l0_1.length : Int) x26_2 true a0_0 l0_1 a1_0 l1_1) else ((impl_ConstOf.f (rd l0_1 x26_2)).bind fun t1016 => (if x26_2 < (l1_1.length : Int) then (impl_canBe.j2 k2 x26_2 (rd l0_1 x26_2) l0_1 (l0_1.length : Int) x26_2 (t1016 != (rd l1_1 x26_2)) a0_0 l0_1 a1_0 l1_1) else (none))))) = some r := by rw [if_neg (show ¬ (false = true) by decide)] at H; exact H
                      clear H
                      have H := H1
                      clear H1
                      replace H := Option.bind_eq_some_iff.mp H
                      obtain ⟨t1015, A220, H⟩ := H
                      replace H : (if t1015 < 0 then (impl_canBe.j2 k2 x26_2 (rd l0_1 x26_2) l0_1 (l0_1.length : Int) x26_2 true a0_0 l0_1 a1_0 l1_1) else ((impl_ConstOf.f (rd l0_1 x26_2)).bind fun t1016 => (if x26_2 < (l1_1.length : Int) then (impl_canBe.j2 k2 x26_2 (rd l0_1 x26_2) l0_1 (l0_1.length : Int) x26_2 (t1016 != (rd l1_1 x26_2)) a0_0 l0_1 a1_0 l1_1) else (none)))) = some r := H
                      have A22 := Aside0.mk A220
                      clear A220
                      by_cases c23 : t1015 < 0
                      · rw [if_pos c23] at H
                        have c23b0 : decide (t1015 < 0) = true := decide_eq_true c23
                        clear c23
                        (first | rw [c23b0] | (simp only [i64_w, i32_w]; rw [c23b0]) | skip)
                        have H' := Aside0.mk H
                        clear H
                        go_wp2_with (first | (go_at_call 153; (with_reducible refine (impl_IsVar.calls (rd l0_1 x26_2) false _ A20.out).mono ?_); rintro e w' ⟨rfl, ⟨nd, rfl⟩⟩; (try first | exact ⟨rfl, _, World.drewN_drewN _ _ _⟩ | exact ⟨rfl, _, Eq.trans (World.drewN_drewN _ _ _) (congrArg (World.drewN _) (Nat.add_assoc _ _ _))⟩)) | (go_at_call 191; (with_reducible refine (impl_ConstOf.calls (rd l0_1 x26_2) t1015 _ A22.out).mono ?_); rintro e w' ⟨rfl, ⟨nd, rfl⟩⟩; (try first | exact ⟨rfl, _, World.drewN_drewN _ _ _⟩ | exact ⟨rfl, _, Eq.trans (World.drewN_drewN _ _ _) (congrArg (World.drewN _) (Nat.add_assoc _ _ _))⟩)))
                        repeat (go_quiet (first | (go_at_call 153; (with_reducible refine (impl_IsVar.calls (rd l0_1 x26_2) false _ A20.out).mono ?_); rintro e w' ⟨rfl, ⟨nd, rfl⟩⟩; (try first | exact ⟨rfl, _, World.drewN_drewN _ _ _⟩ | exact ⟨rfl, _, Eq.trans (World.drewN_drewN _ _ _) (congrArg (World.drewN _) (Nat.add_assoc _ _ _))⟩)) | (go_at_call 191; (with_reducible refine (impl_ConstOf.calls (rd l0_1 x26_2) t1015 _ A22.out).mono ?_); rintro e w' ⟨rfl, ⟨nd, rfl⟩⟩; (try first | exact ⟨rfl, _, World.drewN_drewN _ _ _⟩ | exact ⟨rfl, _, Eq.trans (World.drewN_drewN _ _ _) (congrArg (World.drewN _) (Nat.add_assoc _ _ _))⟩))); try go_wp2_with (first | (go_at_call 153; (with_reducible refine (impl_IsVar.calls (rd l0_1 x26_2) false _ A20.out).mono ?_); rintro e w' ⟨rfl, ⟨nd, rfl⟩⟩; (try first | exact ⟨rfl, _, World.drewN_drewN _ _ _⟩ | exact ⟨rfl, _, Eq.trans (World.drewN_drewN _ _ _) (congrArg (World.drewN _) (Nat.add_assoc _ _ _))⟩)) | (go_at_call 191; (with_reducible refine (impl_ConstOf.calls (rd l0_1 x26_2) t1015 _ A22.out).mono ?_); rintro e w' ⟨rfl, ⟨nd, rfl⟩⟩; (try first | exact ⟨rfl, _, World.drewN_drewN _ _ _⟩ | exact ⟨rfl, _, Eq.trans (World.drewN_drewN _ _ _) (congrArg (World.drewN _) (Nat.add_assoc _ _ _))⟩))))
                        go_meet
                        case rel => exact ⟨_, (true), (by first | rfl | (simp; done) | (simp [*]; done)), H', ⟨by have := HJ2.out; have := HK2.out; first | omega | exact Nat.le_refl _⟩, ⟨by (with_reducible repeat (first | refine blk_drewN ?_ _ | refine blk_drew ?_ | refine blk_alloc ?_ _)); exact BK1011.out⟩, ⟨by (with_reducible repeat (first | refine blk_drewN ?_ _ | refine blk_drew ?_ | refine blk_alloc ?_ _)); exact BK1012.out⟩, ⟨by repeat (first | (with_reducible first | exact HB.out | apply below_alloc | apply pw_below_drewN | apply below_drew1 | refine below_set ?_ GE1011.out | refine below_set ?_ GE1012.out) | exact HB.out)⟩⟩
                      · rw [if_neg c23] at H
                        have c23b0 : decide (t1015 < 0) = false := decide_eq_false c23
                        clear c23
                        (first | rw [c23b0] | (simp only [i64_w, i32_w]; rw [c23b0]) | skip)
                        replace H := Option.bind_eq_some_iff.mp H
                        obtain ⟨t1016, A240, H⟩ := H
                        replace H : (if x26_2 < (l1_1.length : Int) then (impl_canBe.j2 k2 x26_2 (rd l0_1 x26_2) l0_1 (l0_1.length : Int) x26_2 (t1016 != (rd l1_1 x26_2)) a0_0 l0_1 a1_0 l1_1) else (none)) = some r := H
                        have A24 := Aside0.mk A240
                        clear A240
                        by_cases c25 : x26_2 < (l1_1.length : Int)
                        · rw [if_pos c25] at H
                          have c25b0 : decide (x26_2 < (l1_1.length : Int)) = true := decide_eq_true c25
                          clear c25
                          have H' := Aside0.mk H
                          clear H
                          have hnb26 := NB1012_1011.out
                          have hnc26 := NB1011_1012.out
                          have hcz27_0 : wr.cell? ⟨gb1012, 0, none⟩ = some (.int .i64 a1_0) := (blk_cell BK1012.out 0).trans rfl
                          have hcz27_1 : wr.cell? ⟨gb1012, 1, none⟩ = some (.slice A1_1 l1_1.length c1_1) := (blk_cell BK1012.out 1).trans rfl
                          have hfz27_0 := blk_frozen BK1012.out 0
                          have hfz27_1 := blk_frozen BK1012.out 1
                          have p1017 : 0 ≤ (x26_2 : Int) := of_decide_eq_true (by first | (with_reducible assumption) | assumption)
                          have q1017 : x26_2 < (l1_1.length : Int) := of_decide_eq_true (by first | (with_reducible assumption) | assumption)
                          obtain ⟨ad1017, e1017, hx1017_0⟩ := Kd.at_int HR1_1.out x26_2 p1017 q1017
                          cases e1017
                          replace hx1017_0 := (HB.out.cell (World.block_lt_of_cell? w _ hx1017_0)).trans hx1017_0
                          replace p1017 := eq_true p1017
                          replace q1017 := eq_true q1017
                          have eqt1015_t1016 : t1016 = t1015 := Option.some.inj (A24.out.symm.trans A22.out)
                          subst eqt1015_t1016
                          go_wp2_with (first | (go_at_call 153; (with_reducible refine (impl_IsVar.calls (rd l0_1 x26_2) false _ A20.out).mono ?_); rintro e w' ⟨rfl, ⟨nd, rfl⟩⟩; (try first | exact ⟨rfl, _, World.drewN_drewN _ _ _⟩ | exact ⟨rfl, _, Eq.trans (World.drewN_drewN _ _ _) (congrArg (World.drewN _) (Nat.add_assoc _ _ _))⟩)) | (go_at_call 191; (with_reducible refine (impl_ConstOf.calls (rd l0_1 x26_2) t1015 _ A22.out).mono ?_); rintro e w' ⟨rfl, ⟨nd, rfl⟩⟩; (try first | exact ⟨rfl, _, World.drewN_drewN _ _ _⟩ | exact ⟨rfl, _, Eq.trans (World.drewN_drewN _ _ _) (congrArg (World.drewN _) (Nat.add_assoc _ _ _))⟩)) | (go_at_call 191; (with_reducible refine (impl_ConstOf.calls (rd l0_1 x26_2) t1016 _ A24.out).mono ?_); rintro e w' ⟨rfl, ⟨nd, rfl⟩⟩; (try first | exact ⟨rfl, _, World.drewN_drewN _ _ _⟩ | exact ⟨rfl, _, Eq.trans (World.drewN_drewN _ _ _) (congrArg (World.drewN _) (Nat.add_assoc _ _ _))⟩); have hnb26 := NB1012_1011.out; have hnc26 := NB1011_1012.out; have hcz27_0 : wr.cell? ⟨gb1012, 0, none⟩ = some (.int .i64 a1_0) := (blk_cell BK1012.out 0).trans rfl; have hcz27_1 : wr.cell? ⟨gb1012, 1, none⟩ = some (.slice (some ad1017) l1_1.length c1_1) := (blk_cell BK1012.out 1).trans rfl; have hfz27_0 := blk_frozen BK1012.out 0; have hfz27_1 := blk_frozen BK1012.out 1; have p1017 : 0 ≤ (x26_2 : Int) := of_decide_eq_true (by first | (with_reducible assumption) | assumption); have q1017 : x26_2 < (l1_1.length : Int) := of_decide_eq_true (by first | (with_reducible assumption) | assumption); obtain ⟨ad1017, e1017, hx1017_0⟩ := Kd.at_int HR1_1.out x26_2 p1017 q1017; cases e1017; replace hx1017_0 := (HB.out.cell (World.block_lt_of_cell? w _ hx1017_0)).trans hx1017_0; replace p1017 := eq_true p1017; replace q1017 := eq_true q1017))
                          repeat (go_quiet (first | (go_at_call 153; (with_reducible refine (impl_IsVar.calls (rd l0_1 x26_2) false _ A20.out).mono ?_); rintro e w' ⟨rfl, ⟨nd, rfl⟩⟩; (try first | exact ⟨rfl, _, World.drewN_drewN _ _ _⟩ | exact ⟨rfl, _, Eq.trans (World.drewN_drewN _ _ _) (congrArg (World.drewN _) (Nat.add_assoc _ _ _))⟩)) | (go_at_call 191; (with_reducible refine (impl_ConstOf.calls (rd l0_1 x26_2) t1015 _ A22.out).mono ?_); rintro e w' ⟨rfl, ⟨nd, rfl⟩⟩; (try first | exact ⟨rfl, _, World.drewN_drewN _ _ _⟩ | exact ⟨rfl, _, Eq.trans (World.drewN_drewN _ _ _) (congrArg (World.drewN _) (Nat.add_assoc _ _ _))⟩)) | (go_at_call 191; (with_reducible refine (impl_ConstOf.calls (rd l0_1 x26_2) t1016 _ A24.out).mono ?_); rintro e w' ⟨rfl, ⟨nd, rfl⟩⟩; (try first | exact ⟨rfl, _, World.drewN_drewN _ _ _⟩ | exact ⟨rfl, _, Eq.trans (World.drewN_drewN _ _ _) (congrArg (World.drewN _) (Nat.add_assoc _ _ _))⟩))); try go_wp2_with (first | (go_at_call 153; (with_reducible refine (impl_IsVar.calls (rd l0_1 x26_2) false _ A20.out).mono ?_); rintro e w' ⟨rfl, ⟨nd, rfl⟩⟩; (try first | exact ⟨rfl, _, World.drewN_drewN _ _ _⟩ | exact ⟨rfl, _, Eq.trans (World.drewN_drewN _ _ _) (congrArg (World.drewN _) (Nat.add_assoc _ _ _))⟩)) | (go_at_call 191; (with_reducible refine (impl_ConstOf.calls (rd l0_1 x26_2) t1015 _ A22.out).mono ?_); rintro e w' ⟨rfl, ⟨nd, rfl⟩⟩; (try first | exact ⟨rfl, _, World.drewN_drewN _ _ _⟩ | exact ⟨rfl, _, Eq.trans (World.drewN_drewN _ _ _) (congrArg (World.drewN _) (Nat.add_assoc _ _ _))⟩)) | (go_at_call 191; (with_reducible refine (impl_ConstOf.calls (rd l0_1 x26_2) t1016 _ A24.out).mono ?_); rintro e w' ⟨rfl, ⟨nd, rfl⟩⟩; (try first | exact ⟨rfl, _, World.drewN_drewN _ _ _⟩ | exact ⟨rfl, _, Eq.trans (World.drewN_drewN _ _ _) (congrArg (World.drewN _) (Nat.add_assoc _ _ _))⟩); have hnb26 := NB1012_1011.out; have hnc26 := NB1011_1012.out; have hcz27_0 : wr.cell? ⟨gb1012, 0, none⟩ = some (.int .i64 a1_0) := (blk_cell BK1012.out 0).trans rfl; have hcz27_1 : wr.cell? ⟨gb1012, 1, none⟩ = some (.slice (some ad1017) l1_1.length c1_1) := (blk_cell BK1012.out 1).trans rfl; have hfz27_0 := blk_frozen BK1012.out 0; have hfz27_1 := blk_frozen BK1012.out 1; have p1017 : 0 ≤ (x26_2 : Int) := of_decide_eq_true (by first | (with_reducible assumption) | assumption); have q1017 : x26_2 < (l1_1.length : Int) := of_decide_eq_true (by first | (with_reducible assumption) | assumption); obtain ⟨ad1017, e1017, hx1017_0⟩ := Kd.at_int HR1_1.out x26_2 p1017 q1017; cases e1017; replace hx1017_0 := (HB.out.cell (World.block_lt_of_cell? w _ hx1017_0)).trans hx1017_0; replace p1017 := eq_true p1017; replace q1017 := eq_true q1017)))
                          go_meet
                          case rel => exact ⟨_, ((t1016 != (rd l1_1 x26_2))), (by first | rfl | (simp; done) | (simp [*]; done)), H', ⟨by have := HJ2.out; have := HK2.out; first | omega | exact Nat.le_refl _⟩, ⟨by (with_reducible repeat (first | refine blk_drewN ?_ _ | refine blk_drew ?_ | refine blk_alloc ?_ _)); exact BK1011.out⟩, ⟨by (with_reducible repeat (first | refine blk_drewN ?_ _ | refine blk_drew ?_ | refine blk_alloc ?_ _)); exact BK1012.out⟩, ⟨by repeat (first | (with_reducible first | exact HB.out | apply below_alloc | apply pw_below_drewN | apply below_drew1 | refine below_set ?_ GE1011.out | refine below_set ?_ GE1012.out) | exact HB.out)⟩⟩
                        · rw [if_neg c25] at H
                          exact absurd H (by simp)
                  case rest =>
                    clear HC19
                    try clear c1
                    try clear p1
                    try clear q1
                    try clear hx1
                    try clear c2
                    try clear p2
                    try clear c6
                    try clear c6b0
                    try clear c6b1
                    try clear c7
                    try clear c10
                    try clear p10
                    try clear q10
                    try clear hx10
                    try clear c13
                    try clear c14
                    try clear c16
                    try clear c16b0
                    try clear c17
                    try clear c17b0
                    try clear c18
                    try clear c18b0
                    try clear c21
                    try clear c23
                    try clear c23b0
                    try clear c25
                    try clear c25b0
                    try clear c26
                    try clear hcz11_0
                    try clear hcz11_1
                    try clear hcz12_0
                    try clear hcz12_1
                    try clear hcz15_0
                    try clear hcz15_1
                    try clear hcz27_0
                    try clear hcz27_1
                    try clear hcz8_0
                    try clear hcz8_1
                    try clear hcz9_0
                    try clear hcz9_1
                    try clear hfz11_0
                    try clear hfz11_1
                    try clear hfz12_0
                    try clear hfz12_1
                    try clear hfz15_0
                    try clear hfz15_1
                    try clear hfz27_0
                    try clear hfz27_1
                    try clear hfz8_0
                    try clear hfz8_1
                    try clear hfz9_0
                    try clear hfz9_1
                    try clear hx1013_0
                    try clear hx1017_0
                    try clear p1013
                    try clear p1017
                    try clear p2
                    try clear q1013
                    try clear q1017
                    obtain ⟨kq, x48_18, rfl, HA, HJ18, BK1011, BK1012, HB⟩ := hcut
                    cases kq with
                    | zero => exact absurd HA.out (by simp [impl_canBe.j2])
                    | succ kj18 =>
                      have H := HA.out
                      clear HA
                      simp only [impl_canBe.j2] at H
                      by_cases c28 : x48_18 = true
                      · subst c28
                        have H1 : (some false) = some r := by rw [if_pos rfl] at H; exact H
                        clear H
                        have H := H1
                        clear H1
                        obtain rfl := Option.some.inj H
                        go_wp2
                        repeat (go_quiet (fail); try go_wp2)
                        go_ret
                        exact ⟨by first | rfl | (simp [errW_none, errW_some] <;> rfl) | (simp [*, errW_none, errW_some] <;> rfl), by repeat (first | (with_reducible first | exact HB.out | apply below_alloc | apply pw_below_drewN | apply below_drew1 | refine below_set ?_ GE1011.out | refine below_set ?_ GE1012.out) | exact HB.out)⟩
                      · replace c28 := Bool.eq_false_iff.mpr c28
                        subst c28
                        have H1 : (if 0 ≤ x26_2 then (if x26_2 ≤ (l0_1.length : Int) then (impl_canBe.l1 kj18 x26_2 (rd l0_1 x26_2) l0_1 (l0_1.length : Int) x26_2 (l0_1.take (x26_2 : Int).toNat) ((l0_1.take (x26_2 : Int).toNat).length : Int) 0 a0_0 l0_1 a1_0 l1_1) else (none)) else (none)) = some r := by rw [if_neg (show ¬ (false = true) by decide)] at H; exact H
                        clear H
                        have H := H1
                        clear H1
                        by_cases c29 : 0 ≤ x26_2
                        · rw [if_pos c29] at H
                          have c29b0 := eq_true c29
                          have c29b1 : decide (0 ≤ x26_2) = true := decide_eq_true c29
                          clear c29
                          by_cases c30 : x26_2 ≤ (l0_1.length : Int)
                          · rw [if_pos c30] at H
                            have c30b0 := eq_true c30
                            have c30b1 : decide (x26_2 ≤ (l0_1.length : Int)) = true := decide_eq_true c30
                            have KPc30 := Aside0.mk c30
                            clear c30
                            have H' := Aside0.mk H
                            clear H
                            have hnb31 := NB1011_1012.out
                            have hnc31 := NB1012_1011.out
                            have hcz32_0 : wc.cell? ⟨gb1011, 0, none⟩ = some (.int .i64 a0_0) := (blk_cell BK1011.out 0).trans rfl
                            have hcz32_1 : wc.cell? ⟨gb1011, 1, none⟩ = some (.slice (some ad1013) l0_1.length c0_1) := (blk_cell BK1011.out 1).trans rfl
                            have hfz32_0 := blk_frozen BK1011.out 0
                            have hfz32_1 := blk_frozen BK1011.out 1
                            obtain ⟨i033, hi033, _, hsz33, _⟩ := info_parts info3
                            obtain ⟨hcut33, hA33, hC33⟩ := print_take_of (P := Try.prog) (Value.int .i64) 0 34 3 .i64 Try.underlying34 hi033 hsz33 (some ad1013) c0_1 l0_1 x26_2 (of_decide_eq_true (by first | (with_reducible assumption) | assumption)) (of_decide_eq_true (by first | (with_reducible assumption) | assumption)) HC0_1.out
                            have HR1018 := Aside0.mk (Kd.C_of_reads (h1 := fun _ => rfl) (hA33 _ (Kd.reads_of_C HR0_1.out)))
                            have HC1018 := Aside0.mk hC33
                            clear hA33 hC33 hi033 hsz33
                            go_wp2
                            repeat (go_quiet (fail); try go_wp2)
                            go_loopg [54] kj18 (fun kq v54 w' => ∃ (x54_4 : Int), v54 = .int .i64 x54_4 ∧ Aside0 (impl_canBe.l1 kq x26_2 (rd l0_1 x26_2) l0_1 (l0_1.length : Int) x26_2 (l0_1.take (x26_2 : Int).toNat) ((l0_1.take (x26_2 : Int).toNat).length : Int) x54_4 a0_0 l0_1 a1_0 l1_1 = some r) ∧ Aside0 (kq ≤ kj18) ∧ Aside0 (w'.heap[gb1011]? = some (.cells #[.int .i64 a0_0, (.slice (some ad1013) l0_1.length c0_1)] 153 (0, 0))) ∧ Aside0 (w'.heap[gb1012]? = some (.cells #[.int .i64 a1_0, (.slice A1_1 l1_1.length c1_1)] 82 (0, 0))) ∧ Aside0 (Below w.heap.size w w'))
                            case atStart => exact ⟨(0), (by first | rfl | (simp; done) | (simp [*]; done)), H', ⟨Nat.le_refl _⟩, ⟨by (with_reducible repeat (first | refine blk_drewN ?_ _ | refine blk_drew ?_ | refine blk_alloc ?_ _)); exact BK1011.out⟩, ⟨by (with_reducible repeat (first | refine blk_drewN ?_ _ | refine blk_drew ?_ | refine blk_alloc ?_ _)); exact BK1012.out⟩, ⟨by repeat (first | (with_reducible first | exact HB.out | apply below_alloc | apply pw_below_drewN | apply below_drew1 | refine below_set ?_ GE1011.out | refine below_set ?_ GE1012.out) | exact HB.out)⟩⟩
                            case round =>
                              clear H'
                              try clear c1
                              try clear p1
                              try clear q1
                              try clear hx1
                              try clear c2
                              try clear p2
                              try clear c3
                              try clear c6
                              try clear c6b0
                              try clear c6b1
                              try clear c7
                              try clear c10
                              try clear p10
                              try clear q10
                              try clear hx10
                              try clear c13
                              try clear c14
                              try clear c16
                              try clear c16b0
                              try clear c17
                              try clear c17b0
                              try clear c18
                              try clear c18b0
                              try clear c21
                              try clear c23
                              try clear c23b0
                              try clear c25
                              try clear c25b0
                              try clear c26
                              try clear c28
                              try clear c29
                              try clear c29b0
                              try clear c29b1
                              try clear c30
                              try clear c30b0
                              try clear c30b1
                              try clear c31
                              try clear hcz11_0
                              try clear hcz11_1
                              try clear hcz12_0
                              try clear hcz12_1
                              try clear hcz15_0
                              try clear hcz15_1
                              try clear hcz27_0
                              try clear hcz27_1
                              try clear hcz32_0
                              try clear hcz32_1
                              try clear hcz8_0
                              try clear hcz8_1
                              try clear hcz9_0
                              try clear hcz9_1
                              try clear hfz11_0
                              try clear hfz11_1
                              try clear hfz12_0
                              try clear hfz12_1
                              try clear hfz15_0
                              try clear hfz15_1
                              try clear hfz27_0
                              try clear hfz27_1
                              try clear hfz32_0
                              try clear hfz32_1
                              try clear hfz8_0
                              try clear hfz8_1
                              try clear hfz9_0
                              try clear hfz9_1
                              try clear hx1013_0
                              try clear hx1017_0
                              try clear p1
                              try clear p10
                              try clear p1013
                              try clear p1017
                              try clear p2
                              try clear q1
                              try clear q10
                              try clear q1013
                              try clear q1017
                              obtain ⟨x54_4, rfl, HA, HK4, BK1011, BK1012, HB⟩ := hrel
                              cases gk with
                              | zero => exact absurd HA.out (by simp [impl_canBe.l1])
                              | succ k4 =>
                                have H := HA.out
                                clear HA
                                simp only [impl_canBe.l1] at H
                                by_cases c34 : x54_4 < ((l0_1.take (x26_2 : Int).toNat).length : Int)
                                · rw [if_pos c34] at H
                                  have c34b0 : decide (x54_4 < ((l0_1.take (x26_2 : Int).toNat).length : Int)) = true := decide_eq_true c34
                                  try have c34b8 : x54_4 < max x26_2 0 := by have z := c34; simp only [List.length_take] at z; omega
                                  try have c34b9 : decide (x54_4 < max x26_2 0) = true := decide_eq_true c34b8
                                  clear c34
                                  by_cases c35 : 0 ≤ x54_4
                                  · rw [if_pos c35] at H
                                    have c35b0 : decide (0 ≤ x54_4) = true := decide_eq_true c35
                                    clear c35
                                    by_cases c36 : x54_4 < ((l0_1.take (x26_2 : Int).toNat).length : Int)
                                    · rw [if_pos c36] at H
                                      have c36b0 : decide (x54_4 < ((l0_1.take (x26_2 : Int).toNat).length : Int)) = true := decide_eq_true c36
                                      try have c36b8 : x54_4 < max x26_2 0 := by have z := c36; simp only [List.length_take] at z; omega
                                      try have c36b9 : decide (x54_4 < max x26_2 0) = true := decide_eq_true c36b8
                                      clear c36
                                      by_cases c37 : (rd l0_1 x26_2) = (rd (l0_1.take (x26_2 : Int).toNat) x54_4)
                                      · rw [if_pos c37] at H
                                        have c37b0 : ((rd l0_1 x26_2) == (rd (l0_1.take (x26_2 : Int).toNat) x54_4)) = true := beq_iff_eq.mpr c37
                                        have c37b1 : ((rd l0_1 x26_2) != (rd (l0_1.take (x26_2 : Int).toNat) x54_4)) = false := bne_eq_false_iff_eq.mpr c37
                                        clear c37
                                        by_cases c38 : 0 ≤ x26_2
                                        · rw [if_pos c38] at H
                                          have c38b0 : decide (0 ≤ x26_2) = true := decide_eq_true c38
                                          clear c38
                                          by_cases c39 : x26_2 < (l1_1.length : Int)
                                          · rw [if_pos c39] at H
                                            have c39b0 : decide (x26_2 < (l1_1.length : Int)) = true := decide_eq_true c39
                                            clear c39
                                            by_cases c40 : x54_4 < (l1_1.length : Int)
                                            · rw [if_pos c40] at H
                                              have c40b0 : decide (x54_4 < (l1_1.length : Int)) = true := decide_eq_true c40
                                              clear c40
                                              by_cases c41 : (rd l1_1 x26_2) = (rd l1_1 x54_4)
                                              · rw [if_pos c41] at H
                                                have c41b0 : ((rd l1_1 x26_2) == (rd l1_1 x54_4)) = true := beq_iff_eq.mpr c41
                                                have c41b1 : ((rd l1_1 x26_2) != (rd l1_1 x54_4)) = false := bne_eq_false_iff_eq.mpr c41
                                                clear c41
                                                have H' := Aside0.mk H
                                                clear H
                                                have p1019 : 0 ≤ (x54_4 : Int) := of_decide_eq_true (by first | (with_reducible assumption) | assumption)
                                                have q1019 : x54_4 < ((l0_1.take (x26_2 : Int).toNat).length : Int) := of_decide_eq_true (by first | (with_reducible assumption) | assumption)
                                                obtain ⟨ad1019, e1019, hx1019_0⟩ := Kd.at_int HR1018.out x54_4 p1019 q1019
                                                obtain rfl : ad1013 = ad1019 := (by injection e1019)
                                                replace hx1019_0 := (HB.out.cell (World.block_lt_of_cell? w _ hx1019_0)).trans hx1019_0
                                                replace p1019 := eq_true p1019
                                                replace q1019 := eq_true q1019
                                                have hnb42 := NB1012_1011.out
                                                have hnc42 := NB1011_1012.out
                                                have hcz43_0 : wr.cell? ⟨gb1012, 0, none⟩ = some (.int .i64 a1_0) := (blk_cell BK1012.out 0).trans rfl
                                                have hcz43_1 : wr.cell? ⟨gb1012, 1, none⟩ = some (.slice A1_1 l1_1.length c1_1) := (blk_cell BK1012.out 1).trans rfl
                                                have hfz43_0 := blk_frozen BK1012.out 0
                                                have hfz43_1 := blk_frozen BK1012.out 1
                                                have p1020 : 0 ≤ (x26_2 : Int) := of_decide_eq_true (by first | (with_reducible assumption) | assumption)
                                                have q1020 : x26_2 < (l1_1.length : Int) := of_decide_eq_true (by first | (with_reducible assumption) | assumption)
                                                obtain ⟨ad1020, e1020, hx1020_0⟩ := Kd.at_int HR1_1.out x26_2 p1020 q1020
                                                cases e1020
                                                replace hx1020_0 := (HB.out.cell (World.block_lt_of_cell? w _ hx1020_0)).trans hx1020_0
                                                replace p1020 := eq_true p1020
                                                replace q1020 := eq_true q1020
                                                have p1021 : 0 ≤ (x54_4 : Int) := of_decide_eq_true (by first | (with_reducible assumption) | assumption)
                                                have q1021 : x54_4 < (l1_1.length : Int) := of_decide_eq_true (by first | (with_reducible assumption) | assumption)
                                                obtain ⟨ad1021, e1021, hx1021_0⟩ := Kd.at_int HR1_1.out x54_4 p1021 q1021
                                                obtain rfl : ad1020 = ad1021 := (by injection e1021)
                                                replace hx1021_0 := (HB.out.cell (World.block_lt_of_cell? w _ hx1021_0)).trans hx1021_0
                                                replace p1021 := eq_true p1021
                                                replace q1021 := eq_true q1021
                                                go_wp2
                                                repeat (go_quiet (fail); try go_wp2)
                                                go_roundg k4
                                                case measure => have := HJ2.out; have := HK2.out; have := HJ18.out; have := HK4.out; omega
                                                case rel => exact ⟨(wrap64 (x54_4 + 1)), (by first | rfl | (simp; done) | (simp [*]; done)), H', ⟨by have := HJ2.out; have := HK2.out; have := HJ18.out; have := HK4.out; omega⟩, ⟨by (with_reducible repeat (first | refine blk_drewN ?_ _ | refine blk_drew ?_ | refine blk_alloc ?_ _)); exact BK1011.out⟩, ⟨by (with_reducible repeat (first | refine blk_drewN ?_ _ | refine blk_drew ?_ | refine blk_alloc ?_ _)); exact BK1012.out⟩, ⟨by repeat (first | (with_reducible first | exact HB.out | apply below_alloc | apply pw_below_drewN | apply below_drew1 | refine below_set ?_ GE1011.out | refine below_set ?_ GE1012.out) | exact HB.out)⟩⟩
                                              · rw [if_neg c41] at H
                                                have c41b0 : ((rd l1_1 x26_2) == (rd l1_1 x54_4)) = false := beq_eq_false_iff_ne.mpr c41
                                                have c41b1 : ((rd l1_1 x26_2) != (rd l1_1 x54_4)) = true := bne_iff_ne.mpr c41
                                                obtain rfl := Option.some.inj H
                                                have p1019 : 0 ≤ (x54_4 : Int) := of_decide_eq_true (by first | (with_reducible assumption) | assumption)
                                                have q1019 : x54_4 < ((l0_1.take (x26_2 : Int).toNat).length : Int) := of_decide_eq_true (by first | (with_reducible assumption) | assumption)
                                                obtain ⟨ad1019, e1019, hx1019_0⟩ := Kd.at_int HR1018.out x54_4 p1019 q1019
                                                obtain rfl : ad1013 = ad1019 := (by injection e1019)
                                                replace hx1019_0 := (HB.out.cell (World.block_lt_of_cell? w _ hx1019_0)).trans hx1019_0
                                                replace p1019 := eq_true p1019
                                                replace q1019 := eq_true q1019
                                                have hnb44 := NB1012_1011.out
                                                have hnc44 := NB1011_1012.out
                                                have hcz45_0 : wr.cell? ⟨gb1012, 0, none⟩ = some (.int .i64 a1_0) := (blk_cell BK1012.out 0).trans rfl
                                                have hcz45_1 : wr.cell? ⟨gb1012, 1, none⟩ = some (.slice A1_1 l1_1.length c1_1) := (blk_cell BK1012.out 1).trans rfl
                                                have hfz45_0 := blk_frozen BK1012.out 0
                                                have hfz45_1 := blk_frozen BK1012.out 1
                                                have p1020 : 0 ≤ (x26_2 : Int) := of_decide_eq_true (by first | (with_reducible assumption) | assumption)
                                                have q1020 : x26_2 < (l1_1.length : Int) := of_decide_eq_true (by first | (with_reducible assumption) | assumption)
                                                obtain ⟨ad1020, e1020, hx1020_0⟩ := Kd.at_int HR1_1.out x26_2 p1020 q1020
                                                cases e1020
                                                replace hx1020_0 := (HB.out.cell (World.block_lt_of_cell? w _ hx1020_0)).trans hx1020_0
                                                replace p1020 := eq_true p1020
                                                replace q1020 := eq_true q1020
                                                have p1021 : 0 ≤ (x54_4 : Int) := of_decide_eq_true (by first | (with_reducible assumption) | assumption)
                                                have q1021 : x54_4 < (l1_1.length : Int) := of_decide_eq_true (by first | (with_reducible assumption) | assumption)
                                                obtain ⟨ad1021, e1021, hx1021_0⟩ := Kd.at_int HR1_1.out x54_4 p1021 q1021
                                                obtain rfl : ad1020 = ad1021 := (by injection e1021)
                                                replace hx1021_0 := (HB.out.cell (World.block_lt_of_cell? w _ hx1021_0)).trans hx1021_0
                                                replace p1021 := eq_true p1021
                                                replace q1021 := eq_true q1021
                                                go_wp2
                                                repeat (go_quiet (fail); try go_wp2)
                                                go_ret
                                                exact ⟨by first | rfl | (simp [errW_none, errW_some] <;> rfl) | (simp [*, errW_none, errW_some] <;> rfl), by repeat (first | (with_reducible first | exact HB.out | apply below_alloc | apply pw_below_drewN | apply below_drew1 | refine below_set ?_ GE1011.out | refine below_set ?_ GE1012.out) | exact HB.out)⟩
                                            · rw [if_neg c40] at H
                                              exact absurd H (by simp)
                                          · rw [if_neg c39] at H
                                            exact absurd H (by simp)
                                        · rw [if_neg c38] at H
                                          exact absurd H (by simp)
                                      · rw [if_neg c37] at H
                                        have c37b0 : ((rd l0_1 x26_2) == (rd (l0_1.take (x26_2 : Int).toNat) x54_4)) = false := beq_eq_false_iff_ne.mpr c37
                                        have c37b1 : ((rd l0_1 x26_2) != (rd (l0_1.take (x26_2 : Int).toNat) x54_4)) = true := bne_iff_ne.mpr c37
                                        have H' := Aside0.mk H
                                        clear H
                                        have p1019 : 0 ≤ (x54_4 : Int) := of_decide_eq_true (by first | (with_reducible assumption) | assumption)
                                        have q1019 : x54_4 < ((l0_1.take (x26_2 : Int).toNat).length : Int) := of_decide_eq_true (by first | (with_reducible assumption) | assumption)
                                        obtain ⟨ad1019, e1019, hx1019_0⟩ := Kd.at_int HR1018.out x54_4 p1019 q1019
                                        obtain rfl : ad1013 = ad1019 := (by injection e1019)
                                        replace hx1019_0 := (HB.out.cell (World.block_lt_of_cell? w _ hx1019_0)).trans hx1019_0
                                        replace p1019 := eq_true p1019
                                        replace q1019 := eq_true q1019
                                        go_wp2
                                        repeat (go_quiet (fail); try go_wp2)
                                        go_roundg k4
                                        case measure => have := HJ2.out; have := HK2.out; have := HJ18.out; have := HK4.out; omega
                                        case rel => exact ⟨(wrap64 (x54_4 + 1)), (by first | rfl | (simp; done) | (simp [*]; done)), H', ⟨by have := HJ2.out; have := HK2.out; have := HJ18.out; have := HK4.out; omega⟩, ⟨by (with_reducible repeat (first | refine blk_drewN ?_ _ | refine blk_drew ?_ | refine blk_alloc ?_ _)); exact BK1011.out⟩, ⟨by (with_reducible repeat (first | refine blk_drewN ?_ _ | refine blk_drew ?_ | refine blk_alloc ?_ _)); exact BK1012.out⟩, ⟨by repeat (first | (with_reducible first | exact HB.out | apply below_alloc | apply pw_below_drewN | apply below_drew1 | refine below_set ?_ GE1011.out | refine below_set ?_ GE1012.out) | exact HB.out)⟩⟩
                                    · rw [if_neg c36] at H
                                      exact absurd H (by simp)
                                  · rw [if_neg c35] at H
                                    exact absurd H (by simp)
                                · rw [if_neg c34] at H
                                  have c34b0 : decide (x54_4 < ((l0_1.take (x26_2 : Int).toNat).length : Int)) = false := decide_eq_false c34
                                  try have c34b8 : max x26_2 0 ≤ x54_4 := by have z := c34; have z2 : x26_2 ≤ (l0_1.length : Int) := (by first | exact of_decide_eq_true (by assumption) | exact Aside0.out (by assumption)); simp only [List.length_take] at z; omega
                                  try have c34b9 : decide (x54_4 < max x26_2 0) = false := decide_eq_false (Int.not_lt.2 c34b8)
                                  clear c34
                                  have H' := Aside0.mk H
                                  clear H
                                  go_wp2
                                  repeat (go_quiet (fail); try go_wp2)
                                  go_roundg k4
                                  case measure => have := HJ2.out; have := HK2.out; have := HJ18.out; have := HK4.out; omega
                                  case rel => exact ⟨(wrap64 (x26_2 + 1)), (by first | rfl | (simp; done) | (simp [*]; done)), H', ⟨by have := HJ2.out; have := HK2.out; have := HJ18.out; have := HK4.out; omega⟩, ⟨by (with_reducible repeat (first | refine blk_drewN ?_ _ | refine blk_drew ?_ | refine blk_alloc ?_ _)); exact BK1011.out⟩, ⟨by (with_reducible repeat (first | refine blk_drewN ?_ _ | refine blk_drew ?_ | refine blk_alloc ?_ _)); exact BK1012.out⟩, ⟨by repeat (first | (with_reducible first | exact HB.out | apply below_alloc | apply pw_below_drewN | apply below_drew1 | refine below_set ?_ GE1011.out | refine below_set ?_ GE1012.out) | exact HB.out)⟩⟩
                          · rw [if_neg c30] at H
                            exact absurd H (by simp)
                        · rw [if_neg c29] at H
                          exact absurd H (by simp)
                · rw [if_neg c18] at H
                  exact absurd H (by simp)
              · rw [if_neg c17] at H
                exact absurd H (by simp)
            · rw [if_neg c16] at H
              have c16b0 : decide (x26_2 < (l0_1.length : Int)) = false := decide_eq_false c16
              clear c16
              obtain rfl := Option.some.inj H
              go_wp2
              repeat (go_quiet (fail); try go_wp2)
              go_ret
              exact ⟨by first | rfl | (simp [errW_none, errW_some] <;> rfl) | (simp [*, errW_none, errW_some] <;> rfl), by repeat (first | (with_reducible first | exact HB.out | apply below_alloc | apply pw_below_drewN | apply below_drew1 | refine below_set ?_ GE1011.out | refine below_set ?_ GE1012.out) | exact HB.out)⟩

def impl_MayAffect.l0 : Nat → List (S153) → Int → Int → Int → List Int → Option (Bool)
  | 0, _, _, _, _, _ => none
  | k + 1, x8, x9, x10, x1024000, x1024001 => if x10 < x9 then (if 0 ≤ x10 then (if x10 < (x8.length : Int) then ((impl_canBe.f k ((rd_T153 x8 x10).f0) ((rd_T153 x8 x10).f1) x1024000 x1024001).bind fun t1026 => (if t1026 = true then (some true) else (impl_MayAffect.l0 k x8 x9 (wrap64 (x10 + 1)) x1024000 x1024001))) else (none)) else (none)) else (some false)
def impl_MayAffect.f (k : Nat) (l0_0 : List Int) (l0_1 : List (S153)) (a1_0 : Int) (l1_1 : List Int) : Option (Bool) := impl_MayAffect.l0 k l0_1 (l0_1.length : Int) 0 a1_0 l1_1
set_option maxHeartbeats 8000000 in
set_option maxRecDepth 100000 in
theorem impl_MayAffect.calls (k : Nat) (A0_0 : Option Addr) (c0_0 : Nat) (l0_0 : List Int) (A0_1 : Option Addr) (c0_1 : Nat) (l0_1 : List (S153)) (a1_0 : Int) (A1_1 : Option Addr) (c1_1 : Nat) (l1_1 : List Int) (r : Bool) (w : World) (hr0_0 : Kd.C (Kd.int .i64) w A0_0 l0_0.length l0_0) (hc0_0 : l0_0.length ≤ c0_0) (hr0_1 : Kd.C k153 w A0_1 l0_1.length l0_1) (hc0_1 : l0_1.length ≤ c0_1) (hr1_1 : Kd.C (Kd.int .i64) w A1_1 l1_1.length l1_1) (hc1_1 : l1_1.length ≤ c1_1) (h : impl_MayAffect.f k l0_0 l0_1 a1_0 l1_1 = some r) :
    Calls Try.prog 113 #[.agg #[.slice A0_0 l0_0.length c0_0, .slice A0_1 l0_1.length c0_1], .agg #[.int .i64 a1_0, .slice A1_1 l1_1.length c1_1]] w fun e w' => e = .returned (.bool r) ∧ Below w.heap.size w w' := by
  have hu72 := Try.underlying72
  have hu82 := Try.underlying82
  have hu153 := Try.underlying153
  have HR0_0 := Aside0.mk hr0_0
  have HC0_0 := Aside0.mk hc0_0
  clear hr0_0 hc0_0
  have HR0_1 := Aside0.mk hr0_1
  have HC0_1 := Aside0.mk hc0_1
  clear hr0_1 hc0_1
  have HR1_1 := Aside0.mk hr1_1
  have HC1_1 := Aside0.mk hc1_1
  clear hr1_1 hc1_1
  have HB := Aside0.mk (Below.refl w.heap.size w)
  have H : (impl_MayAffect.l0 k l0_1 (l0_1.length : Int) 0 a1_0 l1_1) = some r := h
  clear h
  have H' := Aside0.mk H
  clear H
  go_enter Try.func113, Try.ntmps113
  go_wp2_with (first | ((with_reducible refine gate_dst (N := 2) rfl ?_); refine box_event ?hg (N := 2) ?hd (cs := #[.slice A0_0 l0_0.length c0_0, .slice A0_1 l0_1.length c0_1]) (t := 72) ?hr ?_; (case hd => rfl); (case hg => rfl); (case hr => first | (go_simp; done) | (go_simp; rfl)); intro gb1022 hg w3 hbox hb; have n0_ := Aside0.mk (below_step (by repeat (first | (with_reducible first | exact HB.out | apply below_alloc | apply pw_below_drewN | apply below_drew1) | exact HB.out)) hb); have n1_ := Aside0.mk (hbox); have n2_ := Aside0.mk ((by rw [hg]; exact (below_size (by repeat (first | (with_reducible first | exact HB.out | apply below_alloc | apply pw_below_drewN | apply below_drew1) | exact HB.out))) : w.heap.size ≤ gb1022)); have n3_ := Aside0.mk ((by rw [hg]; exact (below_size (by repeat (first | (with_reducible first | exact HB.out | apply below_alloc | apply pw_below_drewN | apply below_drew1) | exact HB.out))) : w.heap.size ≤ gb1022)); clear HB; have HB := n0_; have BK1022 := n1_; have GW1022 := n2_; have GE1022 := n3_; clear n0_ n1_ n2_ n3_; clear hb hbox hg) | ((with_reducible refine gate_dst (N := 3) rfl ?_); refine box_event ?hg (N := 3) ?hd (cs := #[.int .i64 a1_0, .slice A1_1 l1_1.length c1_1]) (t := 82) ?hr ?_; (case hd => rfl); (case hg => rfl); (case hr => first | (go_simp; done) | (go_simp; rfl)); intro gb1023 hg w4 hbox hb; have n0_ := Aside0.mk (blk_below (g := gb1022) (o := .cells #[.slice A0_0 l0_0.length c0_0, .slice A0_1 l0_1.length c0_1] 72 (0, 0)) (by (with_reducible repeat (first | refine blk_drewN ?_ _ | refine blk_drew ?_ | refine blk_alloc ?_ _)); exact BK1022.out) hb); have n1_ := Aside0.mk (below_step (by repeat (first | (with_reducible first | exact HB.out | apply below_alloc | apply pw_below_drewN | apply below_drew1 | refine below_set ?_ GE1022.out) | exact HB.out)) hb); have n2_ := Aside0.mk (hbox); have n3_ := Aside0.mk ((by rw [hg]; exact (below_size (by repeat (first | (with_reducible first | exact HB.out | apply below_alloc | apply pw_below_drewN | apply below_drew1 | refine below_set ?_ GE1022.out) | exact HB.out))) : w.heap.size ≤ gb1023)); have n4_ := Aside0.mk ((by rw [hg]; exact (below_size (by repeat (first | (with_reducible first | exact HB.out | apply below_alloc | apply pw_below_drewN | apply below_drew1 | refine below_set ?_ GE1022.out) | exact HB.out))) : w.heap.size ≤ gb1023)); have n5_ := Aside0.mk ((by rw [hg]; exact Nat.ne_of_lt (blk_lt (g := gb1022) (o := .cells #[.slice A0_0 l0_0.length c0_0, .slice A0_1 l0_1.length c0_1] 72 (0, 0)) (by (with_reducible repeat (first | refine blk_drewN ?_ _ | refine blk_drew ?_ | refine blk_alloc ?_ _)); exact BK1022.out)) : gb1022 ≠ gb1023)); have n6_ := Aside0.mk ((by rw [hg]; exact Nat.ne_of_gt (blk_lt (g := gb1022) (o := .cells #[.slice A0_0 l0_0.length c0_0, .slice A0_1 l0_1.length c0_1] 72 (0, 0)) (by (with_reducible repeat (first | refine blk_drewN ?_ _ | refine blk_drew ?_ | refine blk_alloc ?_ _)); exact BK1022.out)) : gb1023 ≠ gb1022)); clear BK1022; clear HB; have BK1022 := n0_; have HB := n1_; have BK1023 := n2_; have GW1023 := n3_; have GE1023 := n4_; have NB1022_1023 := n5_; have NB1023_1022 := n6_; clear n0_ n1_ n2_ n3_ n4_ n5_ n6_; clear hb hbox hg; have hnb5 := NB1022_1023.out; have hnc5 := NB1023_1022.out; have hcz6_0 : w4.cell? ⟨gb1022, 0, none⟩ = some (.slice A0_0 l0_0.length c0_0) := (blk_cell BK1022.out 0).trans rfl; have hcz6_1 : w4.cell? ⟨gb1022, 1, none⟩ = some (.slice A0_1 l0_1.length c0_1) := (blk_cell BK1022.out 1).trans rfl; have hfz6_0 := blk_frozen BK1022.out 0; have hfz6_1 := blk_frozen BK1022.out 1))
  go_loopg [10] k (fun kq v10 w' => ∃ (x10_1 : Int), v10 = .int .i64 x10_1 ∧ Aside0 (impl_MayAffect.l0 kq l0_1 (l0_1.length : Int) x10_1 a1_0 l1_1 = some r) ∧ Aside0 (kq ≤ k) ∧ Aside0 (w'.heap[gb1022]? = some (.cells #[(.slice A0_0 l0_0.length c0_0), (.slice A0_1 l0_1.length c0_1)] 72 (0, 0))) ∧ Aside0 (w'.heap[gb1023]? = some (.cells #[.int .i64 a1_0, (.slice A1_1 l1_1.length c1_1)] 82 (0, 0))) ∧ Aside0 (Below w.heap.size w w'))
  case atStart => exact ⟨(0), (by first | rfl | (simp; done) | (simp [*]; done)), H', ⟨Nat.le_refl _⟩, ⟨by (with_reducible repeat (first | refine blk_drewN ?_ _ | refine blk_drew ?_ | refine blk_alloc ?_ _)); exact BK1022.out⟩, ⟨by (with_reducible repeat (first | refine blk_drewN ?_ _ | refine blk_drew ?_ | refine blk_alloc ?_ _)); exact BK1023.out⟩, ⟨by repeat (first | (with_reducible first | exact HB.out | apply below_alloc | apply pw_below_drewN | apply below_drew1 | refine below_set ?_ GE1022.out | refine below_set ?_ GE1023.out) | exact HB.out)⟩⟩
  case round =>
    clear H'
    try clear c1
    try clear p2
    try clear c5
    try clear hcz6_0
    try clear hcz6_1
    try clear hfz6_0
    try clear hfz6_1
    obtain ⟨x10_1, rfl, HA, HK1, BK1022, BK1023, HB⟩ := hrel
    cases gk with
    | zero => exact absurd HA.out (by simp [impl_MayAffect.l0])
    | succ k1 =>
      have H := HA.out
      clear HA
      simp only [impl_MayAffect.l0] at H
      by_cases c7 : x10_1 < (l0_1.length : Int)
      · rw [if_pos c7] at H
        have c7b0 : decide (x10_1 < (l0_1.length : Int)) = true := decide_eq_true c7
        clear c7
        by_cases c8 : 0 ≤ x10_1
        · rw [if_pos c8] at H
          have c8b0 : decide (0 ≤ x10_1) = true := decide_eq_true c8
          clear c8
          by_cases c9 : x10_1 < (l0_1.length : Int)
          · rw [if_pos c9] at H
            have c9b0 : decide (x10_1 < (l0_1.length : Int)) = true := decide_eq_true c9
            clear c9
            replace H := Option.bind_eq_some_iff.mp H
            obtain ⟨t1026, A100, H⟩ := H
            replace H : (if t1026 = true then (some true) else (impl_MayAffect.l0 k1 l0_1 (l0_1.length : Int) (wrap64 (x10_1 + 1)) a1_0 l1_1)) = some r := H
            have A10 := Aside0.mk A100
            clear A100
            by_cases c11 : t1026 = true
            · subst c11
              have H1 : (some true) = some r := by rw [if_pos rfl] at H; exact H
              clear H
              have H := H1
              clear H1
              obtain rfl := Option.some.inj H
              have p1024 : 0 ≤ (x10_1 : Int) := of_decide_eq_true (by first | (with_reducible assumption) | assumption)
              have q1024 : x10_1 < (l0_1.length : Int) := of_decide_eq_true (by first | (with_reducible assumption) | assumption)
              obtain ⟨ad1024, A1024_1, c1024_1, e1024, hx1024_0, hx1024_1, hl1024_1, hi1024_1⟩ := at_T153 HR0_1.out x10_1 p1024 q1024
              cases e1024
              replace hx1024_0 := (HB.out.cell (World.block_lt_of_cell? w _ hx1024_0)).trans hx1024_0
              replace hx1024_1 := (HB.out.cell (World.block_lt_of_cell? w _ hx1024_1)).trans hx1024_1
              have HR1024_1 := Aside0.mk hi1024_1
              have HC1024_1 := Aside0.mk hl1024_1
              clear hi1024_1 hl1024_1
              replace p1024 := eq_true p1024
              replace q1024 := eq_true q1024
              go_wp2_with (first | ((with_reducible refine gate_dst (N := 6) rfl ?_); refine box_event ?hg (N := 6) ?hd (cs := #[.int .i64 0, .slice none 0 0]) (t := 153) ?hr ?_; (case hd => rfl); (case hg => rfl); (case hr => first | (go_simp; done) | (go_simp; rfl)); intro gb1025 hg w12 hbox hb; have n0_ := Aside0.mk (blk_below (g := gb1022) (o := .cells #[.slice A0_0 l0_0.length c0_0, .slice (some ad1024) l0_1.length c0_1] 72 (0, 0)) (by (with_reducible repeat (first | refine blk_drewN ?_ _ | refine blk_drew ?_ | refine blk_alloc ?_ _)); exact BK1022.out) hb); have n1_ := Aside0.mk (blk_below (g := gb1023) (o := .cells #[.int .i64 a1_0, .slice A1_1 l1_1.length c1_1] 82 (0, 0)) (by (with_reducible repeat (first | refine blk_drewN ?_ _ | refine blk_drew ?_ | refine blk_alloc ?_ _)); exact BK1023.out) hb); have n2_ := Aside0.mk (below_step (by repeat (first | (with_reducible first | exact HB.out | apply below_alloc | apply pw_below_drewN | apply below_drew1 | refine below_set ?_ GE1022.out | refine below_set ?_ GE1023.out) | exact HB.out)) hb); have n3_ := Aside0.mk (hbox); have n4_ := Aside0.mk ((by rw [hg]; exact (below_size (by repeat (first | (with_reducible first | exact HB.out | apply below_alloc | apply pw_below_drewN | apply below_drew1 | refine below_set ?_ GE1022.out | refine below_set ?_ GE1023.out) | exact HB.out))) : w.heap.size ≤ gb1025)); have n5_ := Aside0.mk ((by rw [hg]; exact (below_size (by repeat (first | (with_reducible first | exact HB.out | apply below_alloc | apply pw_below_drewN | apply below_drew1 | refine below_set ?_ GE1022.out | refine below_set ?_ GE1023.out) | exact HB.out))) : w.heap.size ≤ gb1025)); have n6_ := Aside0.mk ((by rw [hg]; exact Nat.ne_of_lt (blk_lt (g := gb1022) (o := .cells #[.slice A0_0 l0_0.length c0_0, .slice (some ad1024) l0_1.length c0_1] 72 (0, 0)) (by (with_reducible repeat (first | refine blk_drewN ?_ _ | refine blk_drew ?_ | refine blk_alloc ?_ _)); exact BK1022.out)) : gb1022 ≠ gb1025)); have n7_ := Aside0.mk ((by rw [hg]; exact Nat.ne_of_gt (blk_lt (g := gb1022) (o := .cells #[.slice A0_0 l0_0.length c0_0, .slice (some ad1024) l0_1.length c0_1] 72 (0, 0)) (by (with_reducible repeat (first | refine blk_drewN ?_ _ | refine blk_drew ?_ | refine blk_alloc ?_ _)); exact BK1022.out)) : gb1025 ≠ gb1022)); have n8_ := Aside0.mk ((by rw [hg]; exact Nat.ne_of_lt (blk_lt (g := gb1023) (o := .cells #[.int .i64 a1_0, .slice A1_1 l1_1.length c1_1] 82 (0, 0)) (by (with_reducible repeat (first | refine blk_drewN ?_ _ | refine blk_drew ?_ | refine blk_alloc ?_ _)); exact BK1023.out)) : gb1023 ≠ gb1025)); have n9_ := Aside0.mk ((by rw [hg]; exact Nat.ne_of_gt (blk_lt (g := gb1023) (o := .cells #[.int .i64 a1_0, .slice A1_1 l1_1.length c1_1] 82 (0, 0)) (by (with_reducible repeat (first | refine blk_drewN ?_ _ | refine blk_drew ?_ | refine blk_alloc ?_ _)); exact BK1023.out)) : gb1025 ≠ gb1023)); clear BK1022; clear BK1023; clear HB; have BK1022 := n0_; have BK1023 := n1_; have HB := n2_; have BK1025 := n3_; have GW1025 := n4_; have GE1025 := n5_; have NB1022_1025 := n6_; have NB1025_1022 := n7_; have NB1023_1025 := n8_; have NB1025_1023 := n9_; clear n0_ n1_ n2_ n3_ n4_ n5_ n6_ n7_ n8_ n9_; clear hb hbox hg; have hnb13 := NB1025_1022.out; have hnc13 := NB1022_1025.out; have hnb14 := NB1025_1023.out; have hnc14 := NB1023_1025.out; have hcz15_0 : w12.cell? ⟨gb1025, 0, none⟩ = some (.int .i64 0) := (blk_cell BK1025.out 0).trans rfl; have hcz15_1 : w12.cell? ⟨gb1025, 1, none⟩ = some (.slice none 0 0) := (blk_cell BK1025.out 1).trans rfl; have hfz15_0 := blk_frozen BK1025.out 0; have hfz15_1 := blk_frozen BK1025.out 1; have hnb16 := NB1023_1022.out; have hnc16 := NB1022_1023.out; have hcz17_0 : w12.cell? ⟨gb1023, 0, none⟩ = some (.int .i64 a1_0) := (blk_cell BK1023.out 0).trans rfl; have hcz17_1 : w12.cell? ⟨gb1023, 1, none⟩ = some (.slice A1_1 l1_1.length c1_1) := (blk_cell BK1023.out 1).trans rfl; have hfz17_0 := blk_frozen BK1023.out 0; have hfz17_1 := blk_frozen BK1023.out 1) | ((with_reducible refine gate_callee (f := 162) rfl ?_); refine goesL_ (some 16) rfl rfl Try.func162 (by kernel_rfl) rfl #[.agg #[.int .i64 ((rd_T153 l0_1 x10_1).f0), .slice A1024_1 ((rd_T153 l0_1 x10_1).f1).length c1024_1], .agg #[.int .i64 a1_0, .slice A1_1 l1_1.length c1_1]] rfl (by (try simp only [List.map_toArray, List.map_cons, List.map_nil]); first | done | rfl | (simp only [List.length_drop, List.length_take]; rfl)) ?_; (with_reducible refine (impl_canBe.calls k1 ((rd_T153 l0_1 x10_1).f0) _ _ ((rd_T153 l0_1 x10_1).f1) a1_0 _ _ l1_1 true _ ?side1 ?side2 ?side3 ?side4 A10.out).mono ?_); (case side1 => exact Kd.C_below HR1024_1.out (by repeat (first | (with_reducible first | exact HB.out | apply below_alloc | apply pw_below_drewN | apply below_drew1 | refine below_set ?_ GE1022.out | refine below_set ?_ GE1023.out | refine below_set ?_ GE1025.out) | exact HB.out))); (case side2 => exact HC1024_1.out); (case side3 => exact Kd.C_below HR1_1.out (by repeat (first | (with_reducible first | exact HB.out | apply below_alloc | apply pw_below_drewN | apply below_drew1 | refine below_set ?_ GE1022.out | refine below_set ?_ GE1023.out | refine below_set ?_ GE1025.out) | exact HB.out))); (case side4 => exact HC1_1.out); rintro e w18 ⟨rfl, hb⟩; refine ⟨_, rfl, ?_⟩; have n0_ := Aside0.mk (blk_below (g := gb1022) (o := .cells #[.slice A0_0 l0_0.length c0_0, .slice (some ad1024) l0_1.length c0_1] 72 (0, 0)) (by (with_reducible repeat (first | refine blk_drewN ?_ _ | refine blk_drew ?_ | refine blk_alloc ?_ _)); refine blk_far ?_ NB1022_1025.out _; (with_reducible repeat (first | refine blk_drewN ?_ _ | refine blk_drew ?_ | refine blk_alloc ?_ _)); refine blk_far ?_ NB1022_1025.out _; (with_reducible repeat (first | refine blk_drewN ?_ _ | refine blk_drew ?_ | refine blk_alloc ?_ _)); exact BK1022.out) hb); have n1_ := Aside0.mk (blk_below (g := gb1023) (o := .cells #[.int .i64 a1_0, .slice A1_1 l1_1.length c1_1] 82 (0, 0)) (by (with_reducible repeat (first | refine blk_drewN ?_ _ | refine blk_drew ?_ | refine blk_alloc ?_ _)); refine blk_far ?_ NB1023_1025.out _; (with_reducible repeat (first | refine blk_drewN ?_ _ | refine blk_drew ?_ | refine blk_alloc ?_ _)); refine blk_far ?_ NB1023_1025.out _; (with_reducible repeat (first | refine blk_drewN ?_ _ | refine blk_drew ?_ | refine blk_alloc ?_ _)); exact BK1023.out) hb); have n2_ := Aside0.mk (blk_below (g := gb1025) (o := .cells #[.int .i64 ((rd_T153 l0_1 x10_1).f0), .slice A1024_1 ((rd_T153 l0_1 x10_1).f1).length c1024_1] 153 (0, 0)) (by (with_reducible repeat (first | refine blk_drewN ?_ _ | refine blk_drew ?_ | refine blk_alloc ?_ _)); refine blk_put (cs := #[.int .i64 ((rd_T153 l0_1 x10_1).f0), .slice none 0 0]) ?_ 1 _ rfl; (with_reducible repeat (first | refine blk_drewN ?_ _ | refine blk_drew ?_ | refine blk_alloc ?_ _)); refine blk_put (cs := #[.int .i64 0, .slice none 0 0]) ?_ 0 _ rfl; (with_reducible repeat (first | refine blk_drewN ?_ _ | refine blk_drew ?_ | refine blk_alloc ?_ _)); exact BK1025.out) hb); have n3_ := Aside0.mk (below_step (by repeat (first | (with_reducible first | exact HB.out | apply below_alloc | apply pw_below_drewN | apply below_drew1 | refine below_set ?_ GE1022.out | refine below_set ?_ GE1023.out | refine below_set ?_ GE1025.out) | exact HB.out)) hb); clear BK1022; clear BK1023; clear BK1025; clear HB; have BK1022 := n0_; have BK1023 := n1_; have BK1025 := n2_; have HB := n3_; clear n0_ n1_ n2_ n3_; (try clear hb); (try clear hb2); (try clear hk); (try clear hi)))
              go_ret
              exact ⟨by first | rfl | (simp [errW_none, errW_some] <;> rfl) | (simp [*, errW_none, errW_some] <;> rfl), by repeat (first | (with_reducible first | exact HB.out | apply below_alloc | apply pw_below_drewN | apply below_drew1 | refine below_set ?_ GE1022.out | refine below_set ?_ GE1023.out | refine below_set ?_ GE1025.out) | exact HB.out)⟩
            · replace c11 := Bool.eq_false_iff.mpr c11
              subst c11
              have H1 : (impl_MayAffect.l0 k1 l0_1 (l0_1.length : Int) (wrap64 (x10_1 + 1)) a1_0 l1_1) = some r := by rw [if_neg (show ¬ (false = true) by decide)] at H; exact H
              clear H
              have H := H1
              clear H1
              have H' := Aside0.mk H
              clear H
              have p1024 : 0 ≤ (x10_1 : Int) := of_decide_eq_true (by first | (with_reducible assumption) | assumption)
              have q1024 : x10_1 < (l0_1.length : Int) := of_decide_eq_true (by first | (with_reducible assumption) | assumption)
              obtain ⟨ad1024, A1024_1, c1024_1, e1024, hx1024_0, hx1024_1, hl1024_1, hi1024_1⟩ := at_T153 HR0_1.out x10_1 p1024 q1024
              cases e1024
              replace hx1024_0 := (HB.out.cell (World.block_lt_of_cell? w _ hx1024_0)).trans hx1024_0
              replace hx1024_1 := (HB.out.cell (World.block_lt_of_cell? w _ hx1024_1)).trans hx1024_1
              have HR1024_1 := Aside0.mk hi1024_1
              have HC1024_1 := Aside0.mk hl1024_1
              clear hi1024_1 hl1024_1
              replace p1024 := eq_true p1024
              replace q1024 := eq_true q1024
              go_wp2_with (first | ((with_reducible refine gate_dst (N := 6) rfl ?_); refine box_event ?hg (N := 6) ?hd (cs := #[.int .i64 0, .slice none 0 0]) (t := 153) ?hr ?_; (case hd => rfl); (case hg => rfl); (case hr => first | (go_simp; done) | (go_simp; rfl)); intro gb1025 hg w19 hbox hb; have n0_ := Aside0.mk (blk_below (g := gb1022) (o := .cells #[.slice A0_0 l0_0.length c0_0, .slice (some ad1024) l0_1.length c0_1] 72 (0, 0)) (by (with_reducible repeat (first | refine blk_drewN ?_ _ | refine blk_drew ?_ | refine blk_alloc ?_ _)); exact BK1022.out) hb); have n1_ := Aside0.mk (blk_below (g := gb1023) (o := .cells #[.int .i64 a1_0, .slice A1_1 l1_1.length c1_1] 82 (0, 0)) (by (with_reducible repeat (first | refine blk_drewN ?_ _ | refine blk_drew ?_ | refine blk_alloc ?_ _)); exact BK1023.out) hb); have n2_ := Aside0.mk (below_step (by repeat (first | (with_reducible first | exact HB.out | apply below_alloc | apply pw_below_drewN | apply below_drew1 | refine below_set ?_ GE1022.out | refine below_set ?_ GE1023.out) | exact HB.out)) hb); have n3_ := Aside0.mk (hbox); have n4_ := Aside0.mk ((by rw [hg]; exact (below_size (by repeat (first | (with_reducible first | exact HB.out | apply below_alloc | apply pw_below_drewN | apply below_drew1 | refine below_set ?_ GE1022.out | refine below_set ?_ GE1023.out) | exact HB.out))) : w.heap.size ≤ gb1025)); have n5_ := Aside0.mk ((by rw [hg]; exact (below_size (by repeat (first | (with_reducible first | exact HB.out | apply below_alloc | apply pw_below_drewN | apply below_drew1 | refine below_set ?_ GE1022.out | refine below_set ?_ GE1023.out) | exact HB.out))) : w.heap.size ≤ gb1025)); have n6_ := Aside0.mk ((by rw [hg]; exact Nat.ne_of_lt (blk_lt (g := gb1022) (o := .cells #[.slice A0_0 l0_0.length c0_0, .slice (some ad1024) l0_1.length c0_1] 72 (0, 0)) (by (with_reducible repeat (first | refine blk_drewN ?_ _ | refine blk_drew ?_ | refine blk_alloc ?_ _)); exact BK1022.out)) : gb1022 ≠ gb1025)); have n7_ := Aside0.mk ((by rw [hg]; exact Nat.ne_of_gt (blk_lt (g := gb1022) (o := .cells #[.slice A0_0 l0_0.length c0_0, .slice (some ad1024) l0_1.length c0_1] 72 (0, 0)) (by (with_reducible repeat (first | refine blk_drewN ?_ _ | refine blk_drew ?_ | refine blk_alloc ?_ _)); exact BK1022.out)) : gb1025 ≠ gb1022)); have n8_ := Aside0.mk ((by rw [hg]; exact Nat.ne_of_lt (blk_lt (g := gb1023) (o := .cells #[.int .i64 a1_0, .slice A1_1 l1_1.length c1_1] 82 (0, 0)) (by (with_reducible repeat (first | refine blk_drewN ?_ _ | refine blk_drew ?_ | refine blk_alloc ?_ _)); exact BK1023.out)) : gb1023 ≠ gb1025)); have n9_ := Aside0.mk ((by rw [hg]; exact Nat.ne_of_gt (blk_lt (g := gb1023) (o := .cells #[.int .i64 a1_0, .slice A1_1 l1_1.length c1_1] 82 (0, 0)) (by (with_reducible repeat (first | refine blk_drewN ?_ _ | refine blk_drew ?_ | refine blk_alloc ?_ _)); exact BK1023.out)) : gb1025 ≠ gb1023)); clear BK1022; clear BK1023; clear HB; have BK1022 := n0_; have BK1023 := n1_; have HB := n2_; have BK1025 := n3_; have GW1025 := n4_; have GE1025 := n5_; have NB1022_1025 := n6_; have NB1025_1022 := n7_; have NB1023_1025 := n8_; have NB1025_1023 := n9_; clear n0_ n1_ n2_ n3_ n4_ n5_ n6_ n7_ n8_ n9_; clear hb hbox hg; have hnb20 := NB1025_1022.out; have hnc20 := NB1022_1025.out; have hnb21 := NB1025_1023.out; have hnc21 := NB1023_1025.out; have hcz22_0 : w19.cell? ⟨gb1025, 0, none⟩ = some (.int .i64 0) := (blk_cell BK1025.out 0).trans rfl; have hcz22_1 : w19.cell? ⟨gb1025, 1, none⟩ = some (.slice none 0 0) := (blk_cell BK1025.out 1).trans rfl; have hfz22_0 := blk_frozen BK1025.out 0; have hfz22_1 := blk_frozen BK1025.out 1; have hnb23 := NB1023_1022.out; have hnc23 := NB1022_1023.out; have hcz24_0 : w19.cell? ⟨gb1023, 0, none⟩ = some (.int .i64 a1_0) := (blk_cell BK1023.out 0).trans rfl; have hcz24_1 : w19.cell? ⟨gb1023, 1, none⟩ = some (.slice A1_1 l1_1.length c1_1) := (blk_cell BK1023.out 1).trans rfl; have hfz24_0 := blk_frozen BK1023.out 0; have hfz24_1 := blk_frozen BK1023.out 1) | ((with_reducible refine gate_callee (f := 162) rfl ?_); refine goesL_ (some 16) rfl rfl Try.func162 (by kernel_rfl) rfl #[.agg #[.int .i64 ((rd_T153 l0_1 x10_1).f0), .slice A1024_1 ((rd_T153 l0_1 x10_1).f1).length c1024_1], .agg #[.int .i64 a1_0, .slice A1_1 l1_1.length c1_1]] rfl (by (try simp only [List.map_toArray, List.map_cons, List.map_nil]); first | done | rfl | (simp only [List.length_drop, List.length_take]; rfl)) ?_; (with_reducible refine (impl_canBe.calls k1 ((rd_T153 l0_1 x10_1).f0) _ _ ((rd_T153 l0_1 x10_1).f1) a1_0 _ _ l1_1 false _ ?side1 ?side2 ?side3 ?side4 A10.out).mono ?_); (case side1 => exact Kd.C_below HR1024_1.out (by repeat (first | (with_reducible first | exact HB.out | apply below_alloc | apply pw_below_drewN | apply below_drew1 | refine below_set ?_ GE1022.out | refine below_set ?_ GE1023.out | refine below_set ?_ GE1025.out) | exact HB.out))); (case side2 => exact HC1024_1.out); (case side3 => exact Kd.C_below HR1_1.out (by repeat (first | (with_reducible first | exact HB.out | apply below_alloc | apply pw_below_drewN | apply below_drew1 | refine below_set ?_ GE1022.out | refine below_set ?_ GE1023.out | refine below_set ?_ GE1025.out) | exact HB.out))); (case side4 => exact HC1_1.out); rintro e w25 ⟨rfl, hb⟩; refine ⟨_, rfl, ?_⟩; have n0_ := Aside0.mk (blk_below (g := gb1022) (o := .cells #[.slice A0_0 l0_0.length c0_0, .slice (some ad1024) l0_1.length c0_1] 72 (0, 0)) (by (with_reducible repeat (first | refine blk_drewN ?_ _ | refine blk_drew ?_ | refine blk_alloc ?_ _)); refine blk_far ?_ NB1022_1025.out _; (with_reducible repeat (first | refine blk_drewN ?_ _ | refine blk_drew ?_ | refine blk_alloc ?_ _)); refine blk_far ?_ NB1022_1025.out _; (with_reducible repeat (first | refine blk_drewN ?_ _ | refine blk_drew ?_ | refine blk_alloc ?_ _)); exact BK1022.out) hb); have n1_ := Aside0.mk (blk_below (g := gb1023) (o := .cells #[.int .i64 a1_0, .slice A1_1 l1_1.length c1_1] 82 (0, 0)) (by (with_reducible repeat (first | refine blk_drewN ?_ _ | refine blk_drew ?_ | refine blk_alloc ?_ _)); refine blk_far ?_ NB1023_1025.out _; (with_reducible repeat (first | refine blk_drewN ?_ _ | refine blk_drew ?_ | refine blk_alloc ?_ _)); refine blk_far ?_ NB1023_1025.out _; (with_reducible repeat (first | refine blk_drewN ?_ _ | refine blk_drew ?_ | refine blk_alloc ?_ _)); exact BK1023.out) hb); have n2_ := Aside0.mk (blk_below (g := gb1025) (o := .cells #[.int .i64 ((rd_T153 l0_1 x10_1).f0), .slice A1024_1 ((rd_T153 l0_1 x10_1).f1).length c1024_1] 153 (0, 0)) (by (with_reducible repeat (first | refine blk_drewN ?_ _ | refine blk_drew ?_ | refine blk_alloc ?_ _)); refine blk_put (cs := #[.int .i64 ((rd_T153 l0_1 x10_1).f0), .slice none 0 0]) ?_ 1 _ rfl; (with_reducible repeat (first | refine blk_drewN ?_ _ | refine blk_drew ?_ | refine blk_alloc ?_ _)); refine blk_put (cs := #[.int .i64 0, .slice none 0 0]) ?_ 0 _ rfl; (with_reducible repeat (first | refine blk_drewN ?_ _ | refine blk_drew ?_ | refine blk_alloc ?_ _)); exact BK1025.out) hb); have n3_ := Aside0.mk (below_step (by repeat (first | (with_reducible first | exact HB.out | apply below_alloc | apply pw_below_drewN | apply below_drew1 | refine below_set ?_ GE1022.out | refine below_set ?_ GE1023.out | refine below_set ?_ GE1025.out) | exact HB.out)) hb); clear BK1022; clear BK1023; clear BK1025; clear HB; have BK1022 := n0_; have BK1023 := n1_; have BK1025 := n2_; have HB := n3_; clear n0_ n1_ n2_ n3_; (try clear hb); (try clear hb2); (try clear hk); (try clear hi)))
              go_roundg k1
              case measure => have := HK1.out; omega
              case rel => exact ⟨(wrap64 (x10_1 + 1)), (by first | rfl | (simp; done) | (simp [*]; done)), H', ⟨by have := HK1.out; omega⟩, ⟨by (with_reducible repeat (first | refine blk_drewN ?_ _ | refine blk_drew ?_ | refine blk_alloc ?_ _)); exact BK1022.out⟩, ⟨by (with_reducible repeat (first | refine blk_drewN ?_ _ | refine blk_drew ?_ | refine blk_alloc ?_ _)); exact BK1023.out⟩, ⟨by repeat (first | (with_reducible first | exact HB.out | apply below_alloc | apply pw_below_drewN | apply below_drew1 | refine below_set ?_ GE1022.out | refine below_set ?_ GE1023.out | refine below_set ?_ GE1025.out) | exact HB.out)⟩⟩
          · rw [if_neg c9] at H
            exact absurd H (by simp)
        · rw [if_neg c8] at H
          exact absurd H (by simp)
      · rw [if_neg c7] at H
        have c7b0 : decide (x10_1 < (l0_1.length : Int)) = false := decide_eq_false c7
        clear c7
        obtain rfl := Option.some.inj H
        go_wp2
        go_ret
        exact ⟨by first | rfl | (simp [errW_none, errW_some] <;> rfl) | (simp [*, errW_none, errW_some] <;> rfl), by repeat (first | (with_reducible first | exact HB.out | apply below_alloc | apply pw_below_drewN | apply below_drew1 | refine below_set ?_ GE1022.out | refine below_set ?_ GE1023.out) | exact HB.out)⟩

end Go.Proofs.Ytjiipeidginjnaa.P

