/- Several texts in one: what the claim needs of them. Conditions: each declaration's own. -/
import Derived.Test.YthebbgobncbooaaZCchM10
import Derived.Test.YthebbgobncbooaaZCchM11
import Derived.Test.YthebbgobncbooaaZCchM19
namespace Go.Proofs.Ythebbgobncbooaa.P
open Go.RowKit Go.Proofs.YthebbgobncbooaaW.PrintWords Go.Proofs.YthebbgobncbooaaW.PrintLast Go.Proofs.YthebbgobncbooaaW.PrintMore
attribute [local go_sem] max2_int min2_int max_two min_two max_three min_three max_four min_four   -- for this text's walks alone
set_option linter.unusedVariables false
set_option linter.unusedSimpArgs false

def impl_AreViews.l0 : Nat → List (S96) → List (S96) → Int → Int → List Int → Option (Bool)
 | 0, _, _, _, _, _ => none
 | k + 1, x1, x7, x8, x9, x1338000 => if x9 < x8 then (if 0 ≤ x9 then (if x9 < (x7.length : Int) then ((impl_IsQuery.f k x1338000 ((rd_T96 x7 x9).f0) ((rd_T96 x7 x9).f1)).bind fun t1340 => (if t1340 = true then (if (((rd_T96 x7 x9).f0).length : Int) = 0 then (some false) else (impl_AreViews.l0 k x1 x7 x8 (wrap64 (x9 + 1)) x1338000)) else (some false))) else (none)) else (none)) else ((impl_IsSchema.f k x1338000).bind fun t1341 => (if t1341 = true then ((impl_within.f (x1.length : Int) 1 4).bind fun t1342 => (some t1342)) else (some false)))
def impl_AreViews.f (k : Nat) (l0_0 : List Int) (l1 : List (S96)) : Option (Bool) := impl_AreViews.l0 k l1 l1 (l1.length : Int) 0 l0_0
set_option maxHeartbeats 8000000 in
set_option maxRecDepth 100000 in
theorem impl_AreViews.calls (k : Nat) (A0_0 : Option Addr) (c0_0 : Nat) (l0_0 : List Int) (A1 : Option Addr) (c1 : Nat) (l1 : List (S96)) (r : Bool) (w : World) (hr0_0 : Kd.C (Kd.int .i64) w A0_0 l0_0.length l0_0) (hc0_0 : l0_0.length ≤ c0_0) (hr1 : Kd.C k96 w A1 l1.length l1) (hc1 : l1.length ≤ c1) (h : impl_AreViews.f k l0_0 l1 = some r) :
  Calls Try.prog 138 #[.agg #[.slice A0_0 l0_0.length c0_0], .slice A1 l1.length c1] w fun e w' => e = .returned (.bool r) ∧ Below w.heap.size w w' := by
 have hu41 := Try.underlying41
 have hu96 := Try.underlying96
 have HR0_0 := Aside0.mk hr0_0
 have HC0_0 := Aside0.mk hc0_0
 clear hr0_0 hc0_0
 have HR1 := Aside0.mk hr1
 have HC1 := Aside0.mk hc1
 clear hr1 hc1
 have HB := Aside0.mk (Below.refl w.heap.size w)
 have H : (impl_AreViews.l0 k l1 l1 (l1.length : Int) 0 l0_0) = some r := h
 clear h
 have H' := Aside0.mk H
 clear H
 go_enter Try.func138, Try.ntmps138
 go_wp2_with (first | ((with_reducible refine gate_dst (N := 2) rfl ?_); (try (refine gate_guard (by rfl) ?_; dsimp only)); refine box_event ?hg (N := 2) ?hd (cs := #[.slice A0_0 l0_0.length c0_0]) (t := 41) ?hr ?_; (case hd => rfl); (case hg => rfl); (case hr => first | (go_simp; done) | (go_simp; rfl)); intro gb1337 hg w3 hbox hb; have n0_ := Aside0.mk (below_step (by repeat (first | (with_reducible first | exact HB.out | apply below_alloc | apply pw_below_drewN | apply below_drew1) | exact HB.out)) hb); have n1_ := Aside0.mk (hbox); have n2_ := Aside0.mk ((by rw [hg]; exact (below_size (by repeat (first | (with_reducible first | exact HB.out | apply below_alloc | apply pw_below_drewN | apply below_drew1) | exact HB.out))) : w.heap.size ≤ gb1337)); have n3_ := Aside0.mk ((by rw [hg]; exact (below_size (by repeat (first | (with_reducible first | exact HB.out | apply below_alloc | apply pw_below_drewN | apply below_drew1) | exact HB.out))) : w.heap.size ≤ gb1337)); clear HB; have HB := n0_; have BK1337 := n1_; have GW1337 := n2_; have GE1337 := n3_; clear n0_ n1_ n2_ n3_; clear hb hbox hg))
 go_loopg [9] k (fun kq v9 w' => ∃ (x9_1 : Int), v9 = .int .i64 x9_1 ∧ Aside0 (impl_AreViews.l0 kq l1 l1 (l1.length : Int) x9_1 l0_0 = some r) ∧ Aside0 (kq ≤ k) ∧ Aside0 (w'.heap[gb1337]? = some (.cells #[(.slice A0_0 l0_0.length c0_0)] 41 (0, 0))) ∧ Aside0 (Below w.heap.size w w'))
 case atStart => exact ⟨(0), (by first | rfl | (simp; done) | (simp [*]; done)), H', ⟨Nat.le_refl _⟩, ⟨by (with_reducible repeat (first | refine blk_drewN ?_ _ | refine blk_drew ?_ | refine blk_alloc ?_ _)); exact BK1337.out⟩, ⟨by repeat (first | (with_reducible first | exact HB.out | apply below_alloc | apply pw_below_drewN | apply below_drew1 | refine below_set ?_ GE1337.out) | exact HB.out)⟩⟩
 case round =>
  clear H'
  try clear c1
  try clear p2
  obtain ⟨x9_1, rfl, HA, HK1, BK1337, HB⟩ := hrel
  cases gk with
  | zero => exact absurd HA.out (by simp [impl_AreViews.l0])
  | succ k1 =>
   have H := HA.out
   clear HA
   simp only [impl_AreViews.l0] at H
   by_cases c4 : x9_1 < (l1.length : Int)
   ·rw [if_pos c4] at H
    have c4b0 : decide (x9_1 < (l1.length : Int)) = true := decide_eq_true c4
    clear c4
    by_cases c5 : 0 ≤ x9_1
    ·rw [if_pos c5] at H
     have c5b0 : decide (0 ≤ x9_1) = true := decide_eq_true c5
     clear c5
     by_cases c6 : x9_1 < (l1.length : Int)
     ·rw [if_pos c6] at H
      have c6b0 : decide (x9_1 < (l1.length : Int)) = true := decide_eq_true c6
      clear c6
      replace H := Option.bind_eq_some_iff.mp H
      obtain ⟨t1340, A70, H⟩ := H
      replace H : (if t1340 = true then (if (((rd_T96 l1 x9_1).f0).length : Int) = 0 then (some false) else (impl_AreViews.l0 k1 l1 l1 (l1.length : Int) (wrap64 (x9_1 + 1)) l0_0)) else (some false)) = some r := H
      have A7 := Aside0.mk A70
      clear A70
      by_cases c8 : t1340 = true
      ·subst c8
       have H1 : (if (((rd_T96 l1 x9_1).f0).length : Int) = 0 then (some false) else (impl_AreViews.l0 k1 l1 l1 (l1.length : Int) (wrap64 (x9_1 + 1)) l0_0)) = some r := by rw [if_pos rfl] at H; exact H
       clear H
       have H := H1
       clear H1
       by_cases c9 : (((rd_T96 l1 x9_1).f0).length : Int) = 0
       ·rw [if_pos c9] at H
        have c9b0 : ((((rd_T96 l1 x9_1).f0).length : Int) == 0) = true := beq_iff_eq.mpr c9
        have c9b1 : ((((rd_T96 l1 x9_1).f0).length : Int) != 0) = false := bne_eq_false_iff_eq.mpr c9
        clear c9
        obtain rfl := Option.some.inj H
        have p1338 : 0 ≤ (x9_1 : Int) := of_decide_eq_true (by first | (with_reducible assumption) | assumption)
        have q1338 : x9_1 < (l1.length : Int) := of_decide_eq_true (by first | (with_reducible assumption) | assumption)
        obtain ⟨ad1338, A1338_0, c1338_0, A1338_1, c1338_1, e1338, hx1338_0, hx1338_1, hl1338_0, hi1338_0, hl1338_1, hi1338_1⟩ := at_T96 HR1.out x9_1 p1338 q1338
        cases e1338
        replace hx1338_0 := (HB.out.cell (World.block_lt_of_cell? w _ hx1338_0)).trans hx1338_0
        replace hx1338_1 := (HB.out.cell (World.block_lt_of_cell? w _ hx1338_1)).trans hx1338_1
        have HR1338_0 := Aside0.mk hi1338_0
        have HC1338_0 := Aside0.mk hl1338_0
        clear hi1338_0 hl1338_0
        have HR1338_1 := Aside0.mk hi1338_1
        have HC1338_1 := Aside0.mk hl1338_1
        clear hi1338_1 hl1338_1
        replace p1338 := eq_true p1338
        replace q1338 := eq_true q1338
        go_wp2_with (first | ((with_reducible refine gate_dst (N := 6) rfl ?_); (try (refine gate_guard (by rfl) ?_; dsimp only)); refine box_event ?hg (N := 6) ?hd (cs := #[.slice none 0 0, .slice none 0 0]) (t := 96) ?hr ?_; (case hd => rfl); (case hg => rfl); (case hr => first | (go_simp; done) | (go_simp; rfl)); intro gb1339 hg w10 hbox hb; have n0_ := Aside0.mk (blk_below (g := gb1337) (o := .cells #[.slice A0_0 l0_0.length c0_0] 41 (0, 0)) (by (with_reducible repeat (first | refine blk_drewN ?_ _ | refine blk_drew ?_ | refine blk_alloc ?_ _)); exact BK1337.out) hb); have n1_ := Aside0.mk (below_step (by repeat (first | (with_reducible first | exact HB.out | apply below_alloc | apply pw_below_drewN | apply below_drew1 | refine below_set ?_ GE1337.out) | exact HB.out)) hb); have n2_ := Aside0.mk (hbox); have n3_ := Aside0.mk ((by rw [hg]; exact (below_size (by repeat (first | (with_reducible first | exact HB.out | apply below_alloc | apply pw_below_drewN | apply below_drew1 | refine below_set ?_ GE1337.out) | exact HB.out))) : w.heap.size ≤ gb1339)); have n4_ := Aside0.mk ((by rw [hg]; exact (below_size (by repeat (first | (with_reducible first | exact HB.out | apply below_alloc | apply pw_below_drewN | apply below_drew1 | refine below_set ?_ GE1337.out) | exact HB.out))) : w.heap.size ≤ gb1339)); have n5_ := Aside0.mk ((by rw [hg]; exact Nat.ne_of_lt (blk_lt (g := gb1337) (o := .cells #[.slice A0_0 l0_0.length c0_0] 41 (0, 0)) (by (with_reducible repeat (first | refine blk_drewN ?_ _ | refine blk_drew ?_ | refine blk_alloc ?_ _)); exact BK1337.out)) : gb1337 ≠ gb1339)); have n6_ := Aside0.mk ((by rw [hg]; exact Nat.ne_of_gt (blk_lt (g := gb1337) (o := .cells #[.slice A0_0 l0_0.length c0_0] 41 (0, 0)) (by (with_reducible repeat (first | refine blk_drewN ?_ _ | refine blk_drew ?_ | refine blk_alloc ?_ _)); exact BK1337.out)) : gb1339 ≠ gb1337)); clear BK1337; clear HB; have BK1337 := n0_; have HB := n1_; have BK1339 := n2_; have GW1339 := n3_; have GE1339 := n4_; have NB1337_1339 := n5_; have NB1339_1337 := n6_; clear n0_ n1_ n2_ n3_ n4_ n5_ n6_; clear hb hbox hg; have hnb11 := NB1339_1337.out; have hnc11 := NB1337_1339.out; have hcz12_0 : w10.cell? ⟨gb1339, 0, none⟩ = some (.slice none 0 0) := (blk_cell BK1339.out 0).trans rfl; have hcz12_1 : w10.cell? ⟨gb1339, 1, none⟩ = some (.slice none 0 0) := (blk_cell BK1339.out 1).trans rfl; have hfz12_0 := blk_frozen BK1339.out 0; have hfz12_1 := blk_frozen BK1339.out 1; have hcz13_0 : w10.cell? ⟨gb1337, 0, none⟩ = some (.slice A0_0 l0_0.length c0_0) := (blk_cell BK1337.out 0).trans rfl; have hfz13_0 := blk_frozen BK1337.out 0) | ((with_reducible refine gate_callee (f := 122) rfl ?_); refine goesL_ (some 15) rfl rfl Try.func122 (by kernel_rfl) rfl #[.agg #[.slice A0_0 l0_0.length c0_0], .agg #[.slice A1338_0 ((rd_T96 l1 x9_1).f0).length c1338_0, .slice A1338_1 ((rd_T96 l1 x9_1).f1).length c1338_1]] rfl (by (try simp only [List.map_toArray, List.map_cons, List.map_nil]); first | done | rfl | (simp only [List.length_drop, List.length_take]; rfl)) ?_; (with_reducible refine (impl_IsQuery.calls k1 _ _ l0_0 _ _ ((rd_T96 l1 x9_1).f0) _ _ ((rd_T96 l1 x9_1).f1) true _ ?side1 ?side2 ?side3 ?side4 ?side5 ?side6 A7.out).mono ?_); (case side1 => exact Kd.C_below HR0_0.out (by repeat (first | (with_reducible first | exact HB.out | apply below_alloc | apply pw_below_drewN | apply below_drew1 | refine below_set ?_ GE1337.out | refine below_set ?_ GE1339.out) | exact HB.out))); (case side2 => exact HC0_0.out); (case side3 => exact Kd.C_below HR1338_0.out (by repeat (first | (with_reducible first | exact HB.out | apply below_alloc | apply pw_below_drewN | apply below_drew1 | refine below_set ?_ GE1337.out | refine below_set ?_ GE1339.out) | exact HB.out))); (case side4 => exact HC1338_0.out); (case side5 => exact Kd.C_below HR1338_1.out (by repeat (first | (with_reducible first | exact HB.out | apply below_alloc | apply pw_below_drewN | apply below_drew1 | refine below_set ?_ GE1337.out | refine below_set ?_ GE1339.out) | exact HB.out))); (case side6 => exact HC1338_1.out); rintro e w14 ⟨rfl, hb⟩; refine ⟨_, rfl, ?_⟩; have n0_ := Aside0.mk (blk_below (g := gb1337) (o := .cells #[.slice A0_0 l0_0.length c0_0] 41 (0, 0)) (by (with_reducible repeat (first | refine blk_drewN ?_ _ | refine blk_drew ?_ | refine blk_alloc ?_ _)); refine blk_far ?_ NB1337_1339.out _; (with_reducible repeat (first | refine blk_drewN ?_ _ | refine blk_drew ?_ | refine blk_alloc ?_ _)); refine blk_far ?_ NB1337_1339.out _; (with_reducible repeat (first | refine blk_drewN ?_ _ | refine blk_drew ?_ | refine blk_alloc ?_ _)); exact BK1337.out) hb); have n1_ := Aside0.mk (blk_below (g := gb1339) (o := .cells #[.slice A1338_0 ((rd_T96 l1 x9_1).f0).length c1338_0, .slice A1338_1 ((rd_T96 l1 x9_1).f1).length c1338_1] 96 (0, 0)) (by (with_reducible repeat (first | refine blk_drewN ?_ _ | refine blk_drew ?_ | refine blk_alloc ?_ _)); refine blk_put (cs := #[.slice A1338_0 ((rd_T96 l1 x9_1).f0).length c1338_0, .slice none 0 0]) ?_ 1 _ rfl; (with_reducible repeat (first | refine blk_drewN ?_ _ | refine blk_drew ?_ | refine blk_alloc ?_ _)); refine blk_put (cs := #[.slice none 0 0, .slice none 0 0]) ?_ 0 _ rfl; (with_reducible repeat (first | refine blk_drewN ?_ _ | refine blk_drew ?_ | refine blk_alloc ?_ _)); exact BK1339.out) hb); have n2_ := Aside0.mk (below_step (by repeat (first | (with_reducible first | exact HB.out | apply below_alloc | apply pw_below_drewN | apply below_drew1 | refine below_set ?_ GE1337.out | refine below_set ?_ GE1339.out) | exact HB.out)) hb); clear BK1337; clear BK1339; clear HB; have BK1337 := n0_; have BK1339 := n1_; have HB := n2_; clear n0_ n1_ n2_; (try clear hb); (try clear hb2); (try clear hk); (try clear hi); have hcz15_0 : w14.cell? ⟨gb1339, 0, none⟩ = some (.slice A1338_0 ((rd_T96 l1 x9_1).f0).length c1338_0) := (blk_cell BK1339.out 0).trans rfl; have hcz15_1 : w14.cell? ⟨gb1339, 1, none⟩ = some (.slice A1338_1 ((rd_T96 l1 x9_1).f1).length c1338_1) := (blk_cell BK1339.out 1).trans rfl; have hfz15_0 := blk_frozen BK1339.out 0; have hfz15_1 := blk_frozen BK1339.out 1))
        go_ret
        exact ⟨by first | rfl | (simp [errW_none, errW_some] <;> rfl) | (simp [*, errW_none, errW_some] <;> rfl), by repeat (first | (with_reducible first | exact HB.out | apply below_alloc | apply pw_below_drewN | apply below_drew1 | refine below_set ?_ GE1337.out | refine below_set ?_ GE1339.out) | exact HB.out)⟩
       ·rw [if_neg c9] at H
        have c9b0 : ((((rd_T96 l1 x9_1).f0).length : Int) == 0) = false := beq_eq_false_iff_ne.mpr c9
        have c9b1 : ((((rd_T96 l1 x9_1).f0).length : Int) != 0) = true := bne_iff_ne.mpr c9
        have c9b2 : ¬ (((rd_T96 l1 x9_1).f0) = []) := fun h_ => c9 (by rw [h_]; rfl)
        have H' := Aside0.mk H
        clear H
        have p1338 : 0 ≤ (x9_1 : Int) := of_decide_eq_true (by first | (with_reducible assumption) | assumption)
        have q1338 : x9_1 < (l1.length : Int) := of_decide_eq_true (by first | (with_reducible assumption) | assumption)
        obtain ⟨ad1338, A1338_0, c1338_0, A1338_1, c1338_1, e1338, hx1338_0, hx1338_1, hl1338_0, hi1338_0, hl1338_1, hi1338_1⟩ := at_T96 HR1.out x9_1 p1338 q1338
        cases e1338
        replace hx1338_0 := (HB.out.cell (World.block_lt_of_cell? w _ hx1338_0)).trans hx1338_0
        replace hx1338_1 := (HB.out.cell (World.block_lt_of_cell? w _ hx1338_1)).trans hx1338_1
        have HR1338_0 := Aside0.mk hi1338_0
        have HC1338_0 := Aside0.mk hl1338_0
        clear hi1338_0 hl1338_0
        have HR1338_1 := Aside0.mk hi1338_1
        have HC1338_1 := Aside0.mk hl1338_1
        clear hi1338_1 hl1338_1
        replace p1338 := eq_true p1338
        replace q1338 := eq_true q1338
        go_wp2_with (first | ((with_reducible refine gate_dst (N := 6) rfl ?_); (try (refine gate_guard (by rfl) ?_; dsimp only)); refine box_event ?hg (N := 6) ?hd (cs := #[.slice none 0 0, .slice none 0 0]) (t := 96) ?hr ?_; (case hd => rfl); (case hg => rfl); (case hr => first | (go_simp; done) | (go_simp; rfl)); intro gb1339 hg w16 hbox hb; have n0_ := Aside0.mk (blk_below (g := gb1337) (o := .cells #[.slice A0_0 l0_0.length c0_0] 41 (0, 0)) (by (with_reducible repeat (first | refine blk_drewN ?_ _ | refine blk_drew ?_ | refine blk_alloc ?_ _)); exact BK1337.out) hb); have n1_ := Aside0.mk (below_step (by repeat (first | (with_reducible first | exact HB.out | apply below_alloc | apply pw_below_drewN | apply below_drew1 | refine below_set ?_ GE1337.out) | exact HB.out)) hb); have n2_ := Aside0.mk (hbox); have n3_ := Aside0.mk ((by rw [hg]; exact (below_size (by repeat (first | (with_reducible first | exact HB.out | apply below_alloc | apply pw_below_drewN | apply below_drew1 | refine below_set ?_ GE1337.out) | exact HB.out))) : w.heap.size ≤ gb1339)); have n4_ := Aside0.mk ((by rw [hg]; exact (below_size (by repeat (first | (with_reducible first | exact HB.out | apply below_alloc | apply pw_below_drewN | apply below_drew1 | refine below_set ?_ GE1337.out) | exact HB.out))) : w.heap.size ≤ gb1339)); have n5_ := Aside0.mk ((by rw [hg]; exact Nat.ne_of_lt (blk_lt (g := gb1337) (o := .cells #[.slice A0_0 l0_0.length c0_0] 41 (0, 0)) (by (with_reducible repeat (first | refine blk_drewN ?_ _ | refine blk_drew ?_ | refine blk_alloc ?_ _)); exact BK1337.out)) : gb1337 ≠ gb1339)); have n6_ := Aside0.mk ((by rw [hg]; exact Nat.ne_of_gt (blk_lt (g := gb1337) (o := .cells #[.slice A0_0 l0_0.length c0_0] 41 (0, 0)) (by (with_reducible repeat (first | refine blk_drewN ?_ _ | refine blk_drew ?_ | refine blk_alloc ?_ _)); exact BK1337.out)) : gb1339 ≠ gb1337)); clear BK1337; clear HB; have BK1337 := n0_; have HB := n1_; have BK1339 := n2_; have GW1339 := n3_; have GE1339 := n4_; have NB1337_1339 := n5_; have NB1339_1337 := n6_; clear n0_ n1_ n2_ n3_ n4_ n5_ n6_; clear hb hbox hg; have hnb17 := NB1339_1337.out; have hnc17 := NB1337_1339.out; have hcz18_0 : w16.cell? ⟨gb1339, 0, none⟩ = some (.slice none 0 0) := (blk_cell BK1339.out 0).trans rfl; have hcz18_1 : w16.cell? ⟨gb1339, 1, none⟩ = some (.slice none 0 0) := (blk_cell BK1339.out 1).trans rfl; have hfz18_0 := blk_frozen BK1339.out 0; have hfz18_1 := blk_frozen BK1339.out 1; have hcz19_0 : w16.cell? ⟨gb1337, 0, none⟩ = some (.slice A0_0 l0_0.length c0_0) := (blk_cell BK1337.out 0).trans rfl; have hfz19_0 := blk_frozen BK1337.out 0) | ((with_reducible refine gate_callee (f := 122) rfl ?_); refine goesL_ (some 15) rfl rfl Try.func122 (by kernel_rfl) rfl #[.agg #[.slice A0_0 l0_0.length c0_0], .agg #[.slice A1338_0 ((rd_T96 l1 x9_1).f0).length c1338_0, .slice A1338_1 ((rd_T96 l1 x9_1).f1).length c1338_1]] rfl (by (try simp only [List.map_toArray, List.map_cons, List.map_nil]); first | done | rfl | (simp only [List.length_drop, List.length_take]; rfl)) ?_; (with_reducible refine (impl_IsQuery.calls k1 _ _ l0_0 _ _ ((rd_T96 l1 x9_1).f0) _ _ ((rd_T96 l1 x9_1).f1) true _ ?side1 ?side2 ?side3 ?side4 ?side5 ?side6 A7.out).mono ?_); (case side1 => exact Kd.C_below HR0_0.out (by repeat (first | (with_reducible first | exact HB.out | apply below_alloc | apply pw_below_drewN | apply below_drew1 | refine below_set ?_ GE1337.out | refine below_set ?_ GE1339.out) | exact HB.out))); (case side2 => exact HC0_0.out); (case side3 => exact Kd.C_below HR1338_0.out (by repeat (first | (with_reducible first | exact HB.out | apply below_alloc | apply pw_below_drewN | apply below_drew1 | refine below_set ?_ GE1337.out | refine below_set ?_ GE1339.out) | exact HB.out))); (case side4 => exact HC1338_0.out); (case side5 => exact Kd.C_below HR1338_1.out (by repeat (first | (with_reducible first | exact HB.out | apply below_alloc | apply pw_below_drewN | apply below_drew1 | refine below_set ?_ GE1337.out | refine below_set ?_ GE1339.out) | exact HB.out))); (case side6 => exact HC1338_1.out); rintro e w20 ⟨rfl, hb⟩; refine ⟨_, rfl, ?_⟩; have n0_ := Aside0.mk (blk_below (g := gb1337) (o := .cells #[.slice A0_0 l0_0.length c0_0] 41 (0, 0)) (by (with_reducible repeat (first | refine blk_drewN ?_ _ | refine blk_drew ?_ | refine blk_alloc ?_ _)); refine blk_far ?_ NB1337_1339.out _; (with_reducible repeat (first | refine blk_drewN ?_ _ | refine blk_drew ?_ | refine blk_alloc ?_ _)); refine blk_far ?_ NB1337_1339.out _; (with_reducible repeat (first | refine blk_drewN ?_ _ | refine blk_drew ?_ | refine blk_alloc ?_ _)); exact BK1337.out) hb); have n1_ := Aside0.mk (blk_below (g := gb1339) (o := .cells #[.slice A1338_0 ((rd_T96 l1 x9_1).f0).length c1338_0, .slice A1338_1 ((rd_T96 l1 x9_1).f1).length c1338_1] 96 (0, 0)) (by (with_reducible repeat (first | refine blk_drewN ?_ _ | refine blk_drew ?_ | refine blk_alloc ?_ _)); refine blk_put (cs := #[.slice A1338_0 ((rd_T96 l1 x9_1).f0).length c1338_0, .slice none 0 0]) ?_ 1 _ rfl; (with_reducible repeat (first | refine blk_drewN ?_ _ | refine blk_drew ?_ | refine blk_alloc ?_ _)); refine blk_put (cs := #[.slice none 0 0, .slice none 0 0]) ?_ 0 _ rfl; (with_reducible repeat (first | refine blk_drewN ?_ _ | refine blk_drew ?_ | refine blk_alloc ?_ _)); exact BK1339.out) hb); have n2_ := Aside0.mk (below_step (by repeat (first | (with_reducible first | exact HB.out | apply below_alloc | apply pw_below_drewN | apply below_drew1 | refine below_set ?_ GE1337.out | refine below_set ?_ GE1339.out) | exact HB.out)) hb); clear BK1337; clear BK1339; clear HB; have BK1337 := n0_; have BK1339 := n1_; have HB := n2_; clear n0_ n1_ n2_; (try clear hb); (try clear hb2); (try clear hk); (try clear hi); have hcz21_0 : w20.cell? ⟨gb1339, 0, none⟩ = some (.slice A1338_0 ((rd_T96 l1 x9_1).f0).length c1338_0) := (blk_cell BK1339.out 0).trans rfl; have hcz21_1 : w20.cell? ⟨gb1339, 1, none⟩ = some (.slice A1338_1 ((rd_T96 l1 x9_1).f1).length c1338_1) := (blk_cell BK1339.out 1).trans rfl; have hfz21_0 := blk_frozen BK1339.out 0; have hfz21_1 := blk_frozen BK1339.out 1))
        go_roundg k1
        case measure => have := HK1.out; omega
        case rel => exact ⟨(wrap64 (x9_1 + 1)), (by first | rfl | (simp; done) | (simp [*]; done)), H', ⟨by have := HK1.out; omega⟩, ⟨by (with_reducible repeat (first | refine blk_drewN ?_ _ | refine blk_drew ?_ | refine blk_alloc ?_ _)); exact BK1337.out⟩, ⟨by repeat (first | (with_reducible first | exact HB.out | apply below_alloc | apply pw_below_drewN | apply below_drew1 | refine below_set ?_ GE1337.out | refine below_set ?_ GE1339.out) | exact HB.out)⟩⟩
      ·replace c8 := Bool.eq_false_iff.mpr c8
       subst c8
       have H1 : (some false) = some r := by rw [if_neg (show ¬ (false = true) by decide)] at H; exact H
       clear H
       have H := H1
       clear H1
       obtain rfl := Option.some.inj H
       have p1338 : 0 ≤ (x9_1 : Int) := of_decide_eq_true (by first | (with_reducible assumption) | assumption)
       have q1338 : x9_1 < (l1.length : Int) := of_decide_eq_true (by first | (with_reducible assumption) | assumption)
       obtain ⟨ad1338, A1338_0, c1338_0, A1338_1, c1338_1, e1338, hx1338_0, hx1338_1, hl1338_0, hi1338_0, hl1338_1, hi1338_1⟩ := at_T96 HR1.out x9_1 p1338 q1338
       cases e1338
       replace hx1338_0 := (HB.out.cell (World.block_lt_of_cell? w _ hx1338_0)).trans hx1338_0
       replace hx1338_1 := (HB.out.cell (World.block_lt_of_cell? w _ hx1338_1)).trans hx1338_1
       have HR1338_0 := Aside0.mk hi1338_0
       have HC1338_0 := Aside0.mk hl1338_0
       clear hi1338_0 hl1338_0
       have HR1338_1 := Aside0.mk hi1338_1
       have HC1338_1 := Aside0.mk hl1338_1
       clear hi1338_1 hl1338_1
       replace p1338 := eq_true p1338
       replace q1338 := eq_true q1338
       go_wp2_with (first | ((with_reducible refine gate_dst (N := 6) rfl ?_); (try (refine gate_guard (by rfl) ?_; dsimp only)); refine box_event ?hg (N := 6) ?hd (cs := #[.slice none 0 0, .slice none 0 0]) (t := 96) ?hr ?_; (case hd => rfl); (case hg => rfl); (case hr => first | (go_simp; done) | (go_simp; rfl)); intro gb1339 hg w22 hbox hb; have n0_ := Aside0.mk (blk_below (g := gb1337) (o := .cells #[.slice A0_0 l0_0.length c0_0] 41 (0, 0)) (by (with_reducible repeat (first | refine blk_drewN ?_ _ | refine blk_drew ?_ | refine blk_alloc ?_ _)); exact BK1337.out) hb); have n1_ := Aside0.mk (below_step (by repeat (first | (with_reducible first | exact HB.out | apply below_alloc | apply pw_below_drewN | apply below_drew1 | refine below_set ?_ GE1337.out) | exact HB.out)) hb); have n2_ := Aside0.mk (hbox); have n3_ := Aside0.mk ((by rw [hg]; exact (below_size (by repeat (first | (with_reducible first | exact HB.out | apply below_alloc | apply pw_below_drewN | apply below_drew1 | refine below_set ?_ GE1337.out) | exact HB.out))) : w.heap.size ≤ gb1339)); have n4_ := Aside0.mk ((by rw [hg]; exact (below_size (by repeat (first | (with_reducible first | exact HB.out | apply below_alloc | apply pw_below_drewN | apply below_drew1 | refine below_set ?_ GE1337.out) | exact HB.out))) : w.heap.size ≤ gb1339)); have n5_ := Aside0.mk ((by rw [hg]; exact Nat.ne_of_lt (blk_lt (g := gb1337) (o := .cells #[.slice A0_0 l0_0.length c0_0] 41 (0, 0)) (by (with_reducible repeat (first | refine blk_drewN ?_ _ | refine blk_drew ?_ | refine blk_alloc ?_ _)); exact BK1337.out)) : gb1337 ≠ gb1339)); have n6_ := Aside0.mk ((by rw [hg]; exact Nat.ne_of_gt (blk_lt (g := gb1337) (o := .cells #[.slice A0_0 l0_0.length c0_0] 41 (0, 0)) (by (with_reducible repeat (first | refine blk_drewN ?_ _ | refine blk_drew ?_ | refine blk_alloc ?_ _)); exact BK1337.out)) : gb1339 ≠ gb1337)); clear BK1337; clear HB; have BK1337 := n0_; have HB := n1_; have BK1339 := n2_; have GW1339 := n3_; have GE1339 := n4_; have NB1337_1339 := n5_; have NB1339_1337 := n6_; clear n0_ n1_ n2_ n3_ n4_ n5_ n6_; clear hb hbox hg; have hnb23 := NB1339_1337.out; have hnc23 := NB1337_1339.out; have hcz24_0 : w22.cell? ⟨gb1339, 0, none⟩ = some (.slice none 0 0) := (blk_cell BK1339.out 0).trans rfl; have hcz24_1 : w22.cell? ⟨gb1339, 1, none⟩ = some (.slice none 0 0) := (blk_cell BK1339.out 1).trans rfl; have hfz24_0 := blk_frozen BK1339.out 0; have hfz24_1 := blk_frozen BK1339.out 1; have hcz25_0 : w22.cell? ⟨gb1337, 0, none⟩ = some (.slice A0_0 l0_0.length c0_0) := (blk_cell BK1337.out 0).trans rfl; have hfz25_0 := blk_frozen BK1337.out 0) | ((with_reducible refine gate_callee (f := 122) rfl ?_); refine goesL_ (some 15) rfl rfl Try.func122 (by kernel_rfl) rfl #[.agg #[.slice A0_0 l0_0.length c0_0], .agg #[.slice A1338_0 ((rd_T96 l1 x9_1).f0).length c1338_0, .slice A1338_1 ((rd_T96 l1 x9_1).f1).length c1338_1]] rfl (by (try simp only [List.map_toArray, List.map_cons, List.map_nil]); first | done | rfl | (simp only [List.length_drop, List.length_take]; rfl)) ?_; (with_reducible refine (impl_IsQuery.calls k1 _ _ l0_0 _ _ ((rd_T96 l1 x9_1).f0) _ _ ((rd_T96 l1 x9_1).f1) false _ ?side1 ?side2 ?side3 ?side4 ?side5 ?side6 A7.out).mono ?_); (case side1 => exact Kd.C_below HR0_0.out (by repeat (first | (with_reducible first | exact HB.out | apply below_alloc | apply pw_below_drewN | apply below_drew1 | refine below_set ?_ GE1337.out | refine below_set ?_ GE1339.out) | exact HB.out))); (case side2 => exact HC0_0.out); (case side3 => exact Kd.C_below HR1338_0.out (by repeat (first | (with_reducible first | exact HB.out | apply below_alloc | apply pw_below_drewN | apply below_drew1 | refine below_set ?_ GE1337.out | refine below_set ?_ GE1339.out) | exact HB.out))); (case side4 => exact HC1338_0.out); (case side5 => exact Kd.C_below HR1338_1.out (by repeat (first | (with_reducible first | exact HB.out | apply below_alloc | apply pw_below_drewN | apply below_drew1 | refine below_set ?_ GE1337.out | refine below_set ?_ GE1339.out) | exact HB.out))); (case side6 => exact HC1338_1.out); rintro e w26 ⟨rfl, hb⟩; refine ⟨_, rfl, ?_⟩; have n0_ := Aside0.mk (blk_below (g := gb1337) (o := .cells #[.slice A0_0 l0_0.length c0_0] 41 (0, 0)) (by (with_reducible repeat (first | refine blk_drewN ?_ _ | refine blk_drew ?_ | refine blk_alloc ?_ _)); refine blk_far ?_ NB1337_1339.out _; (with_reducible repeat (first | refine blk_drewN ?_ _ | refine blk_drew ?_ | refine blk_alloc ?_ _)); refine blk_far ?_ NB1337_1339.out _; (with_reducible repeat (first | refine blk_drewN ?_ _ | refine blk_drew ?_ | refine blk_alloc ?_ _)); exact BK1337.out) hb); have n1_ := Aside0.mk (blk_below (g := gb1339) (o := .cells #[.slice A1338_0 ((rd_T96 l1 x9_1).f0).length c1338_0, .slice A1338_1 ((rd_T96 l1 x9_1).f1).length c1338_1] 96 (0, 0)) (by (with_reducible repeat (first | refine blk_drewN ?_ _ | refine blk_drew ?_ | refine blk_alloc ?_ _)); refine blk_put (cs := #[.slice A1338_0 ((rd_T96 l1 x9_1).f0).length c1338_0, .slice none 0 0]) ?_ 1 _ rfl; (with_reducible repeat (first | refine blk_drewN ?_ _ | refine blk_drew ?_ | refine blk_alloc ?_ _)); refine blk_put (cs := #[.slice none 0 0, .slice none 0 0]) ?_ 0 _ rfl; (with_reducible repeat (first | refine blk_drewN ?_ _ | refine blk_drew ?_ | refine blk_alloc ?_ _)); exact BK1339.out) hb); have n2_ := Aside0.mk (below_step (by repeat (first | (with_reducible first | exact HB.out | apply below_alloc | apply pw_below_drewN | apply below_drew1 | refine below_set ?_ GE1337.out | refine below_set ?_ GE1339.out) | exact HB.out)) hb); clear BK1337; clear BK1339; clear HB; have BK1337 := n0_; have BK1339 := n1_; have HB := n2_; clear n0_ n1_ n2_; (try clear hb); (try clear hb2); (try clear hk); (try clear hi)))
       go_ret
       exact ⟨by first | rfl | (simp [errW_none, errW_some] <;> rfl) | (simp [*, errW_none, errW_some] <;> rfl), by repeat (first | (with_reducible first | exact HB.out | apply below_alloc | apply pw_below_drewN | apply below_drew1 | refine below_set ?_ GE1337.out | refine below_set ?_ GE1339.out) | exact HB.out)⟩
     ·rw [if_neg c6] at H
      exact absurd H (by simp)
    ·rw [if_neg c5] at H
     exact absurd H (by simp)
   ·rw [if_neg c4] at H
    have c4b0 : decide (x9_1 < (l1.length : Int)) = false := decide_eq_false c4
    clear c4
    replace H := Option.bind_eq_some_iff.mp H
    obtain ⟨t1341, A270, H⟩ := H
    replace H : (if t1341 = true then ((impl_within.f (l1.length : Int) 1 4).bind fun t1342 => (some t1342)) else (some false)) = some r := H
    have A27 := Aside0.mk A270
    clear A270
    by_cases c28 : t1341 = true
    ·subst c28
     have H1 : ((impl_within.f (l1.length : Int) 1 4).bind fun t1342 => (some t1342)) = some r := by rw [if_pos rfl] at H; exact H
     clear H
     have H := H1
     clear H1
     replace H := Option.bind_eq_some_iff.mp H
     obtain ⟨t1342, A290, H⟩ := H
     replace H : (some t1342) = some r := H
     have A29 := Aside0.mk A290
     clear A290
     obtain rfl := Option.some.inj H
     have hcz30_0 : wr.cell? ⟨gb1337, 0, none⟩ = some (.slice A0_0 l0_0.length c0_0) := (blk_cell BK1337.out 0).trans rfl
     have hfz30_0 := blk_frozen BK1337.out 0
     go_wp2_with (first | ((with_reducible refine gate_callee (f := 123) rfl ?_); refine goesL_ (some 25) rfl rfl Try.func123 (by kernel_rfl) rfl #[.agg #[.slice A0_0 l0_0.length c0_0]] rfl (by (try simp only [List.map_toArray, List.map_cons, List.map_nil]); first | done | rfl | (simp only [List.length_drop, List.length_take]; rfl)) ?_; (with_reducible refine (impl_IsSchema.calls k1 _ _ l0_0 true _ ?side1 ?side2 A27.out).mono ?_); (case side1 => repeat (first | exact (Kd.C_below HR0_0.out HB.out) | (with_reducible refine Kd.C_alloc ?_ _) | (with_reducible refine Kd.C_drewN ?_ _) | (with_reducible refine Kd.C_drew ?_))); (case side2 => exact HC0_0.out); rintro e w31 ⟨rfl, hb⟩; refine ⟨_, rfl, ?_⟩; have n0_ := Aside0.mk (blk_below (g := gb1337) (o := .cells #[.slice A0_0 l0_0.length c0_0] 41 (0, 0)) (by (with_reducible repeat (first | refine blk_drewN ?_ _ | refine blk_drew ?_ | refine blk_alloc ?_ _)); exact BK1337.out) hb); have n1_ := Aside0.mk (below_step (by repeat (first | (with_reducible first | exact HB.out | apply below_alloc | apply pw_below_drewN | apply below_drew1 | refine below_set ?_ GE1337.out) | exact HB.out)) hb); clear BK1337; clear HB; have BK1337 := n0_; have HB := n1_; clear n0_ n1_; (try clear hb); (try clear hb2); (try clear hk); (try clear hi)) | (go_at_call 91; (with_reducible refine (impl_within.calls (l1.length : Int) 1 4 t1342 _ A29.out).mono ?_); rintro e w' ⟨rfl, ⟨nd, rfl⟩⟩))
     go_ret
     exact ⟨by first | rfl | (simp [errW_none, errW_some] <;> rfl) | (simp [*, errW_none, errW_some] <;> rfl), by repeat (first | (with_reducible first | exact HB.out | apply below_alloc | apply pw_below_drewN | apply below_drew1 | refine below_set ?_ GE1337.out) | exact HB.out)⟩
    ·replace c28 := Bool.eq_false_iff.mpr c28
     subst c28
     have H1 : (some false) = some r := by rw [if_neg (show ¬ (false = true) by decide)] at H; exact H
     clear H
     have H := H1
     clear H1
     obtain rfl := Option.some.inj H
     have hcz32_0 : wr.cell? ⟨gb1337, 0, none⟩ = some (.slice A0_0 l0_0.length c0_0) := (blk_cell BK1337.out 0).trans rfl
     have hfz32_0 := blk_frozen BK1337.out 0
     go_wp2_with (first | ((with_reducible refine gate_callee (f := 123) rfl ?_); refine goesL_ (some 25) rfl rfl Try.func123 (by kernel_rfl) rfl #[.agg #[.slice A0_0 l0_0.length c0_0]] rfl (by (try simp only [List.map_toArray, List.map_cons, List.map_nil]); first | done | rfl | (simp only [List.length_drop, List.length_take]; rfl)) ?_; (with_reducible refine (impl_IsSchema.calls k1 _ _ l0_0 false _ ?side1 ?side2 A27.out).mono ?_); (case side1 => repeat (first | exact (Kd.C_below HR0_0.out HB.out) | (with_reducible refine Kd.C_alloc ?_ _) | (with_reducible refine Kd.C_drewN ?_ _) | (with_reducible refine Kd.C_drew ?_))); (case side2 => exact HC0_0.out); rintro e w33 ⟨rfl, hb⟩; refine ⟨_, rfl, ?_⟩; have n0_ := Aside0.mk (blk_below (g := gb1337) (o := .cells #[.slice A0_0 l0_0.length c0_0] 41 (0, 0)) (by (with_reducible repeat (first | refine blk_drewN ?_ _ | refine blk_drew ?_ | refine blk_alloc ?_ _)); exact BK1337.out) hb); have n1_ := Aside0.mk (below_step (by repeat (first | (with_reducible first | exact HB.out | apply below_alloc | apply pw_below_drewN | apply below_drew1 | refine below_set ?_ GE1337.out) | exact HB.out)) hb); clear BK1337; clear HB; have BK1337 := n0_; have HB := n1_; clear n0_ n1_; (try clear hb); (try clear hb2); (try clear hk); (try clear hi)))
     go_ret
     exact ⟨by first | rfl | (simp [errW_none, errW_some] <;> rfl) | (simp [*, errW_none, errW_some] <;> rfl), by repeat (first | (with_reducible first | exact HB.out | apply below_alloc | apply pw_below_drewN | apply below_drew1 | refine below_set ?_ GE1337.out) | exact HB.out)⟩

end Go.Proofs.Ythebbgobncbooaa.P

namespace Go.Proofs.Ythebbgobncbooaa.P
open Go.RowKit Go.Proofs.YthebbgobncbooaaW.PrintWords Go.Proofs.YthebbgobncbooaaW.PrintLast Go.Proofs.YthebbgobncbooaaW.PrintMore
attribute [local go_sem] max2_int min2_int max_two min_two max_three min_three max_four min_four   -- for this text's walks alone
set_option linter.unusedVariables false
set_option linter.unusedSimpArgs false

mutual
def impl_IsCache.j0 : Nat → Bool → List (S96) → List (List (List Int)) → Int → Option (Bool)
 | 0, _, _, _, _ => none
 | k + 1, x28, x1345000, x1345001, x1345002 => if x28 = true then (some false) else (impl_IsCache.l0 k x1345001 (x1345001.length : Int) 0 x1345000 x1345001 x1345002)
def impl_IsCache.l0 : Nat → List (List (List Int)) → Int → Int → List (S96) → List (List (List Int)) → Int → Option (Bool)
 | 0, _, _, _, _, _, _ => none
 | k + 1, x30, x31, x32, x1345000, x1345001, x1345002 => if x32 < x31 then (if 0 ≤ x32 then (if x32 < (x30.length : Int) then (if ((rd_L9 x30 x32).length : Int) > 90 then (some false) else (impl_IsCache.l1 k x32 (rd_L9 x30 x32) x30 x31 x32 (rd_L9 x30 x32) ((rd_L9 x30 x32).length : Int) 0 x1345000 x1345001 x1345002)) else (none)) else (none)) else (some true)
def impl_IsCache.l1 : Nat → Int → List (List Int) → List (List (List Int)) → Int → Int → List (List Int) → Int → Int → List (S96) → List (List (List Int)) → Int → Option (Bool)
 | 0, _, _, _, _, _, _, _, _, _, _, _ => none
 | k + 1, x5, x6, x30, x31, x32, x40, x41, x42, x1345000, x1345001, x1345002 => if x42 < x41 then (if 0 ≤ x42 then (if x42 < (x40.length : Int) then (if 0 ≤ x5 then (if x5 < (x1345000.length : Int) then (if ((rd_L1 x40 x42).length : Int) = (((rd_T96 x1345000 x5).f0).length : Int) then ((impl_areValues.f k (rd_L1 x40 x42)).bind fun t1350 => (if t1350 = true then (if x42 > 0 then (if 0 ≤ (wrap64 (x42 - 1)) then (if (wrap64 (x42 - 1)) < (x6.length : Int) then ((slices_Compare_int_int.f k (rd_L1 x6 (wrap64 (x42 - 1))) (rd_L1 x40 x42)).bind fun t1352 => (if t1352 ≥ 0 then (some false) else (impl_IsCache.l1 k x5 x6 x30 x31 x32 x40 x41 (wrap64 (x42 + 1)) x1345000 x1345001 x1345002))) else (none)) else (none)) else (impl_IsCache.l1 k x5 x6 x30 x31 x32 x40 x41 (wrap64 (x42 + 1)) x1345000 x1345001 x1345002)) else (some false))) else (some false)) else (none)) else (none)) else (none)) else (none)) else (impl_IsCache.l0 k x30 x31 (wrap64 (x32 + 1)) x1345000 x1345001 x1345002)
end
def impl_IsCache.f (k : Nat) (l0_0 : List Int) (l1_0 : List (S96)) (l1_1 : List (List (List Int))) (a1_2 : Int) : Option (Bool) := (impl_AreViews.f k l0_0 l1_0).bind fun t1345 => (if t1345 = true then (if (l1_1.length : Int) = (l1_0.length : Int) then ((impl_within.f a1_2 0 1000).bind fun t1346 => (impl_IsCache.j0 k (!t1346) l1_0 l1_1 a1_2)) else (impl_IsCache.j0 k true l1_0 l1_1 a1_2)) else (impl_IsCache.j0 k true l1_0 l1_1 a1_2))
set_option maxHeartbeats 8000000 in
set_option maxRecDepth 100000 in
theorem impl_IsCache.calls (k : Nat) (A0_0 : Option Addr) (c0_0 : Nat) (l0_0 : List Int) (A1_0 : Option Addr) (c1_0 : Nat) (l1_0 : List (S96)) (A1_1 : Option Addr) (c1_1 : Nat) (l1_1 : List (List (List Int))) (a1_2 : Int) (r : Bool) (w : World) (hr0_0 : Kd.C (Kd.int .i64) w A0_0 l0_0.length l0_0) (hc0_0 : l0_0.length ≤ c0_0) (hr1_0 : Kd.C k96 w A1_0 l1_0.length l1_0) (hc1_0 : l1_0.length ≤ c1_0) (hr1_1 : Kd.C (Kd.slice 33 (Kd.slice 3 (Kd.int .i64))) w A1_1 l1_1.length l1_1) (hc1_1 : l1_1.length ≤ c1_1) (h : impl_IsCache.f k l0_0 l1_0 l1_1 a1_2 = some r) :
  Calls Try.prog 81 #[.agg #[.slice A0_0 l0_0.length c0_0], .agg #[.slice A1_0 l1_0.length c1_0, .slice A1_1 l1_1.length c1_1, .int .i64 a1_2]] w fun e w' => e = .returned (.bool r) ∧ Below w.heap.size w w' := by
 have hu41 := Try.underlying41
 have hu57 := Try.underlying57
 have HR0_0 := Aside0.mk hr0_0
 have HC0_0 := Aside0.mk hc0_0
 clear hr0_0 hc0_0
 have HR1_0 := Aside0.mk hr1_0
 have HC1_0 := Aside0.mk hc1_0
 clear hr1_0 hc1_0
 have HR1_1 := Aside0.mk hr1_1
 have HC1_1 := Aside0.mk hc1_1
 clear hr1_1 hc1_1
 have HB := Aside0.mk (Below.refl w.heap.size w)
 have H : ((impl_AreViews.f k l0_0 l1_0).bind fun t1345 => (if t1345 = true then (if (l1_1.length : Int) = (l1_0.length : Int) then ((impl_within.f a1_2 0 1000).bind fun t1346 => (impl_IsCache.j0 k (!t1346) l1_0 l1_1 a1_2)) else (impl_IsCache.j0 k true l1_0 l1_1 a1_2)) else (impl_IsCache.j0 k true l1_0 l1_1 a1_2))) = some r := h
 clear h
 have HC3 := Aside0.mk H
 clear H
 go_enter Try.func81, Try.ntmps81
 go_upto_region 1 with (first | ((with_reducible refine gate_dst (N := 2) rfl ?_); (try (refine gate_guard (by rfl) ?_; dsimp only)); refine box_event ?hg (N := 2) ?hd (cs := #[.slice A0_0 l0_0.length c0_0]) (t := 41) ?hr ?_; (case hd => rfl); (case hg => rfl); (case hr => first | (go_simp; done) | (go_simp; rfl)); intro gb1343 hg w4 hbox hb; have n0_ := Aside0.mk (below_step (by repeat (first | (with_reducible first | exact HB.out | apply below_alloc | apply pw_below_drewN | apply below_drew1) | exact HB.out)) hb); have n1_ := Aside0.mk (hbox); have n2_ := Aside0.mk ((by rw [hg]; exact (below_size (by repeat (first | (with_reducible first | exact HB.out | apply below_alloc | apply pw_below_drewN | apply below_drew1) | exact HB.out))) : w.heap.size ≤ gb1343)); have n3_ := Aside0.mk ((by rw [hg]; exact (below_size (by repeat (first | (with_reducible first | exact HB.out | apply below_alloc | apply pw_below_drewN | apply below_drew1) | exact HB.out))) : w.heap.size ≤ gb1343)); clear HB; have HB := n0_; have BK1343 := n1_; have GW1343 := n2_; have GE1343 := n3_; clear n0_ n1_ n2_ n3_; clear hb hbox hg) | ((with_reducible refine gate_dst (N := 3) rfl ?_); (try (refine gate_guard (by rfl) ?_; dsimp only)); refine box_event ?hg (N := 3) ?hd (cs := #[.slice A1_0 l1_0.length c1_0, .slice A1_1 l1_1.length c1_1, .int .i64 a1_2]) (t := 57) ?hr ?_; (case hd => rfl); (case hg => rfl); (case hr => first | (go_simp; done) | (go_simp; rfl)); intro gb1344 hg w5 hbox hb; have n0_ := Aside0.mk (blk_below (g := gb1343) (o := .cells #[.slice A0_0 l0_0.length c0_0] 41 (0, 0)) (by (with_reducible repeat (first | refine blk_drewN ?_ _ | refine blk_drew ?_ | refine blk_alloc ?_ _)); exact BK1343.out) hb); have n1_ := Aside0.mk (below_step (by repeat (first | (with_reducible first | exact HB.out | apply below_alloc | apply pw_below_drewN | apply below_drew1 | refine below_set ?_ GE1343.out) | exact HB.out)) hb); have n2_ := Aside0.mk (hbox); have n3_ := Aside0.mk ((by rw [hg]; exact (below_size (by repeat (first | (with_reducible first | exact HB.out | apply below_alloc | apply pw_below_drewN | apply below_drew1 | refine below_set ?_ GE1343.out) | exact HB.out))) : w.heap.size ≤ gb1344)); have n4_ := Aside0.mk ((by rw [hg]; exact (below_size (by repeat (first | (with_reducible first | exact HB.out | apply below_alloc | apply pw_below_drewN | apply below_drew1 | refine below_set ?_ GE1343.out) | exact HB.out))) : w.heap.size ≤ gb1344)); have n5_ := Aside0.mk ((by rw [hg]; exact Nat.ne_of_lt (blk_lt (g := gb1343) (o := .cells #[.slice A0_0 l0_0.length c0_0] 41 (0, 0)) (by (with_reducible repeat (first | refine blk_drewN ?_ _ | refine blk_drew ?_ | refine blk_alloc ?_ _)); exact BK1343.out)) : gb1343 ≠ gb1344)); have n6_ := Aside0.mk ((by rw [hg]; exact Nat.ne_of_gt (blk_lt (g := gb1343) (o := .cells #[.slice A0_0 l0_0.length c0_0] 41 (0, 0)) (by (with_reducible repeat (first | refine blk_drewN ?_ _ | refine blk_drew ?_ | refine blk_alloc ?_ _)); exact BK1343.out)) : gb1344 ≠ gb1343)); clear BK1343; clear HB; have BK1343 := n0_; have HB := n1_; have BK1344 := n2_; have GW1344 := n3_; have GE1344 := n4_; have NB1343_1344 := n5_; have NB1344_1343 := n6_; clear n0_ n1_ n2_ n3_ n4_ n5_ n6_; clear hb hbox hg))
 (try simp only [Act.put, List.setIfInBounds_toArray, List.set_cons_zero, List.set_cons_succ])
 go_cut [28] (fun v28 wc => ∃ (kq : Nat) (x28_2 : Bool), v28 = .bool x28_2 ∧ Aside0 (impl_IsCache.j0 kq x28_2 l1_0 l1_1 a1_2 = some r) ∧ Aside0 (kq ≤ k) ∧ Aside0 (wc.heap[gb1343]? = some (.cells #[(.slice A0_0 l0_0.length c0_0)] 41 (0, 0))) ∧ Aside0 (wc.heap[gb1344]? = some (.cells #[(.slice A1_0 l1_0.length c1_0), (.slice A1_1 l1_1.length c1_1), .int .i64 a1_2] 57 (0, 0))) ∧ Aside0 (Below w.heap.size w wc))
 case first =>
  have H := HC3.out
  clear HC3
  replace H := Option.bind_eq_some_iff.mp H
  obtain ⟨t1345, A60, H⟩ := H
  replace H : (if t1345 = true then (if (l1_1.length : Int) = (l1_0.length : Int) then ((impl_within.f a1_2 0 1000).bind fun t1346 => (impl_IsCache.j0 k (!t1346) l1_0 l1_1 a1_2)) else (impl_IsCache.j0 k true l1_0 l1_1 a1_2)) else (impl_IsCache.j0 k true l1_0 l1_1 a1_2)) = some r := H
  have A6 := Aside0.mk A60
  clear A60
  by_cases c7 : t1345 = true
  ·subst c7
   have H1 : (if (l1_1.length : Int) = (l1_0.length : Int) then ((impl_within.f a1_2 0 1000).bind fun t1346 => (impl_IsCache.j0 k (!t1346) l1_0 l1_1 a1_2)) else (impl_IsCache.j0 k true l1_0 l1_1 a1_2)) = some r := by rw [if_pos rfl] at H; exact H
   clear H
   have H := H1
   clear H1
   by_cases c8 : (l1_1.length : Int) = (l1_0.length : Int)
   ·rw [if_pos c8] at H
    have c8b0 : ((l1_1.length : Int) == (l1_0.length : Int)) = true := beq_iff_eq.mpr c8
    have c8b1 : ((l1_1.length : Int) != (l1_0.length : Int)) = false := bne_eq_false_iff_eq.mpr c8
    have c8b2 : (l1_1.length == l1_0.length) = true := by first | simpa using c8 | (simp at c8 ⊢; omega)
    clear c8
    (first | rw [c8b0] | (simp only [i64_w, i32_w]; rw [c8b0]) | skip)
    replace H := Option.bind_eq_some_iff.mp H
    obtain ⟨t1346, A90, H⟩ := H
    replace H : (impl_IsCache.j0 k (!t1346) l1_0 l1_1 a1_2) = some r := H
    have A9 := Aside0.mk A90
    clear A90
    have H' := Aside0.mk H
    clear H
    have hnb10 := NB1343_1344.out
    have hnc10 := NB1344_1343.out
    have hcz11_0 : w5.cell? ⟨gb1343, 0, none⟩ = some (.slice A0_0 l0_0.length c0_0) := (blk_cell BK1343.out 0).trans rfl
    have hfz11_0 := blk_frozen BK1343.out 0
    have hcz12_0 : w5.cell? ⟨gb1344, 0, none⟩ = some (.slice A1_0 l1_0.length c1_0) := (blk_cell BK1344.out 0).trans rfl
    have hcz12_1 : w5.cell? ⟨gb1344, 1, none⟩ = some (.slice A1_1 l1_1.length c1_1) := (blk_cell BK1344.out 1).trans rfl
    have hcz12_2 : w5.cell? ⟨gb1344, 2, none⟩ = some (.int .i64 a1_2) := (blk_cell BK1344.out 2).trans rfl
    have hfz12_0 := blk_frozen BK1344.out 0
    have hfz12_1 := blk_frozen BK1344.out 1
    have hfz12_2 := blk_frozen BK1344.out 2
    go_wp2_with (first | ((with_reducible refine gate_callee (f := 138) rfl ?_); refine goesL_ (some 12) rfl rfl Try.func138 (by kernel_rfl) rfl #[.agg #[.slice A0_0 l0_0.length c0_0], .slice A1_0 l1_0.length c1_0] rfl (by (try simp only [List.map_toArray, List.map_cons, List.map_nil]); first | done | rfl | (simp only [List.length_drop, List.length_take]; rfl)) ?_; (with_reducible refine (impl_AreViews.calls k _ _ l0_0 _ _ l1_0 true _ ?side1 ?side2 ?side3 ?side4 A6.out).mono ?_); (case side1 => repeat (first | exact (Kd.C_below HR0_0.out HB.out) | (with_reducible refine Kd.C_alloc ?_ _) | (with_reducible refine Kd.C_drewN ?_ _) | (with_reducible refine Kd.C_drew ?_))); (case side2 => exact HC0_0.out); (case side3 => repeat (first | exact (Kd.C_below HR1_0.out HB.out) | (with_reducible refine Kd.C_alloc ?_ _) | (with_reducible refine Kd.C_drewN ?_ _) | (with_reducible refine Kd.C_drew ?_))); (case side4 => exact HC1_0.out); rintro e w13 ⟨rfl, hb⟩; refine ⟨_, rfl, ?_⟩; have n0_ := Aside0.mk (blk_below (g := gb1343) (o := .cells #[.slice A0_0 l0_0.length c0_0] 41 (0, 0)) (by (with_reducible repeat (first | refine blk_drewN ?_ _ | refine blk_drew ?_ | refine blk_alloc ?_ _)); exact BK1343.out) hb); have n1_ := Aside0.mk (blk_below (g := gb1344) (o := .cells #[.slice A1_0 l1_0.length c1_0, .slice A1_1 l1_1.length c1_1, .int .i64 a1_2] 57 (0, 0)) (by (with_reducible repeat (first | refine blk_drewN ?_ _ | refine blk_drew ?_ | refine blk_alloc ?_ _)); exact BK1344.out) hb); have n2_ := Aside0.mk (below_step (by repeat (first | (with_reducible first | exact HB.out | apply below_alloc | apply pw_below_drewN | apply below_drew1 | refine below_set ?_ GE1343.out | refine below_set ?_ GE1344.out) | exact HB.out)) hb); clear BK1343; clear BK1344; clear HB; have BK1343 := n0_; have BK1344 := n1_; have HB := n2_; clear n0_ n1_ n2_; (try clear hb); (try clear hb2); (try clear hk); (try clear hi); have hcz14_0 : w13.cell? ⟨gb1344, 0, none⟩ = some (.slice A1_0 l1_0.length c1_0) := (blk_cell BK1344.out 0).trans rfl; have hcz14_1 : w13.cell? ⟨gb1344, 1, none⟩ = some (.slice A1_1 l1_1.length c1_1) := (blk_cell BK1344.out 1).trans rfl; have hcz14_2 : w13.cell? ⟨gb1344, 2, none⟩ = some (.int .i64 a1_2) := (blk_cell BK1344.out 2).trans rfl; have hfz14_0 := blk_frozen BK1344.out 0; have hfz14_1 := blk_frozen BK1344.out 1; have hfz14_2 := blk_frozen BK1344.out 2) | (go_at_call 91; (with_reducible refine (impl_within.calls a1_2 0 1000 t1346 _ A9.out).mono ?_); rintro e w' ⟨rfl, ⟨nd, rfl⟩⟩))
    go_meet
    case rel => exact ⟨_, (!t1346), (by first | rfl | (simp; done) | (simp [*]; done)), H', ⟨by first | omega | exact Nat.le_refl _⟩, ⟨by (with_reducible repeat (first | refine blk_drewN ?_ _ | refine blk_drew ?_ | refine blk_alloc ?_ _)); exact BK1343.out⟩, ⟨by (with_reducible repeat (first | refine blk_drewN ?_ _ | refine blk_drew ?_ | refine blk_alloc ?_ _)); exact BK1344.out⟩, ⟨by repeat (first | (with_reducible first | exact HB.out | apply below_alloc | apply pw_below_drewN | apply below_drew1 | refine below_set ?_ GE1343.out | refine below_set ?_ GE1344.out) | exact HB.out)⟩⟩
   ·rw [if_neg c8] at H
    have c8b0 : ((l1_1.length : Int) == (l1_0.length : Int)) = false := beq_eq_false_iff_ne.mpr c8
    have c8b1 : ((l1_1.length : Int) != (l1_0.length : Int)) = true := bne_iff_ne.mpr c8
    have c8b2 : (l1_1.length == l1_0.length) = false := by first | simpa using c8 | (simp at c8 ⊢; omega)
    (first | rw [c8b0] | (simp only [i64_w, i32_w]; rw [c8b0]) | skip)
    have H' := Aside0.mk H
    clear H
    have hnb15 := NB1343_1344.out
    have hnc15 := NB1344_1343.out
    have hcz16_0 : w5.cell? ⟨gb1343, 0, none⟩ = some (.slice A0_0 l0_0.length c0_0) := (blk_cell BK1343.out 0).trans rfl
    have hfz16_0 := blk_frozen BK1343.out 0
    have hcz17_0 : w5.cell? ⟨gb1344, 0, none⟩ = some (.slice A1_0 l1_0.length c1_0) := (blk_cell BK1344.out 0).trans rfl
    have hcz17_1 : w5.cell? ⟨gb1344, 1, none⟩ = some (.slice A1_1 l1_1.length c1_1) := (blk_cell BK1344.out 1).trans rfl
    have hcz17_2 : w5.cell? ⟨gb1344, 2, none⟩ = some (.int .i64 a1_2) := (blk_cell BK1344.out 2).trans rfl
    have hfz17_0 := blk_frozen BK1344.out 0
    have hfz17_1 := blk_frozen BK1344.out 1
    have hfz17_2 := blk_frozen BK1344.out 2
    go_wp2_with (first | ((with_reducible refine gate_callee (f := 138) rfl ?_); refine goesL_ (some 12) rfl rfl Try.func138 (by kernel_rfl) rfl #[.agg #[.slice A0_0 l0_0.length c0_0], .slice A1_0 l1_0.length c1_0] rfl (by (try simp only [List.map_toArray, List.map_cons, List.map_nil]); first | done | rfl | (simp only [List.length_drop, List.length_take]; rfl)) ?_; (with_reducible refine (impl_AreViews.calls k _ _ l0_0 _ _ l1_0 true _ ?side1 ?side2 ?side3 ?side4 A6.out).mono ?_); (case side1 => repeat (first | exact (Kd.C_below HR0_0.out HB.out) | (with_reducible refine Kd.C_alloc ?_ _) | (with_reducible refine Kd.C_drewN ?_ _) | (with_reducible refine Kd.C_drew ?_))); (case side2 => exact HC0_0.out); (case side3 => repeat (first | exact (Kd.C_below HR1_0.out HB.out) | (with_reducible refine Kd.C_alloc ?_ _) | (with_reducible refine Kd.C_drewN ?_ _) | (with_reducible refine Kd.C_drew ?_))); (case side4 => exact HC1_0.out); rintro e w18 ⟨rfl, hb⟩; refine ⟨_, rfl, ?_⟩; have n0_ := Aside0.mk (blk_below (g := gb1343) (o := .cells #[.slice A0_0 l0_0.length c0_0] 41 (0, 0)) (by (with_reducible repeat (first | refine blk_drewN ?_ _ | refine blk_drew ?_ | refine blk_alloc ?_ _)); exact BK1343.out) hb); have n1_ := Aside0.mk (blk_below (g := gb1344) (o := .cells #[.slice A1_0 l1_0.length c1_0, .slice A1_1 l1_1.length c1_1, .int .i64 a1_2] 57 (0, 0)) (by (with_reducible repeat (first | refine blk_drewN ?_ _ | refine blk_drew ?_ | refine blk_alloc ?_ _)); exact BK1344.out) hb); have n2_ := Aside0.mk (below_step (by repeat (first | (with_reducible first | exact HB.out | apply below_alloc | apply pw_below_drewN | apply below_drew1 | refine below_set ?_ GE1343.out | refine below_set ?_ GE1344.out) | exact HB.out)) hb); clear BK1343; clear BK1344; clear HB; have BK1343 := n0_; have BK1344 := n1_; have HB := n2_; clear n0_ n1_ n2_; (try clear hb); (try clear hb2); (try clear hk); (try clear hi); have hcz19_0 : w18.cell? ⟨gb1344, 0, none⟩ = some (.slice A1_0 l1_0.length c1_0) := (blk_cell BK1344.out 0).trans rfl; have hcz19_1 : w18.cell? ⟨gb1344, 1, none⟩ = some (.slice A1_1 l1_1.length c1_1) := (blk_cell BK1344.out 1).trans rfl; have hcz19_2 : w18.cell? ⟨gb1344, 2, none⟩ = some (.int .i64 a1_2) := (blk_cell BK1344.out 2).trans rfl; have hfz19_0 := blk_frozen BK1344.out 0; have hfz19_1 := blk_frozen BK1344.out 1; have hfz19_2 := blk_frozen BK1344.out 2))
    go_meet
    case rel => exact ⟨_, (true), (by first | rfl | (simp; done) | (simp [*]; done)), H', ⟨by first | omega | exact Nat.le_refl _⟩, ⟨by (with_reducible repeat (first | refine blk_drewN ?_ _ | refine blk_drew ?_ | refine blk_alloc ?_ _)); exact BK1343.out⟩, ⟨by (with_reducible repeat (first | refine blk_drewN ?_ _ | refine blk_drew ?_ | refine blk_alloc ?_ _)); exact BK1344.out⟩, ⟨by repeat (first | (with_reducible first | exact HB.out | apply below_alloc | apply pw_below_drewN | apply below_drew1 | refine below_set ?_ GE1343.out | refine below_set ?_ GE1344.out) | exact HB.out)⟩⟩
  ·replace c7 := Bool.eq_false_iff.mpr c7
   subst c7
   have H1 : (impl_IsCache.j0 k true l1_0 l1_1 a1_2) = some r := by rw [if_neg (show ¬ (false = true) by decide)] at H; exact H
   clear H
   have H := H1
   clear H1
   have H' := Aside0.mk H
   clear H
   have hnb20 := NB1343_1344.out
   have hnc20 := NB1344_1343.out
   have hcz21_0 : w5.cell? ⟨gb1343, 0, none⟩ = some (.slice A0_0 l0_0.length c0_0) := (blk_cell BK1343.out 0).trans rfl
   have hfz21_0 := blk_frozen BK1343.out 0
   have hcz22_0 : w5.cell? ⟨gb1344, 0, none⟩ = some (.slice A1_0 l1_0.length c1_0) := (blk_cell BK1344.out 0).trans rfl
   have hcz22_1 : w5.cell? ⟨gb1344, 1, none⟩ = some (.slice A1_1 l1_1.length c1_1) := (blk_cell BK1344.out 1).trans rfl
   have hcz22_2 : w5.cell? ⟨gb1344, 2, none⟩ = some (.int .i64 a1_2) := (blk_cell BK1344.out 2).trans rfl
   have hfz22_0 := blk_frozen BK1344.out 0
   have hfz22_1 := blk_frozen BK1344.out 1
   have hfz22_2 := blk_frozen BK1344.out 2
   go_wp2_with (first | ((with_reducible refine gate_callee (f := 138) rfl ?_); refine goesL_ (some 12) rfl rfl Try.func138 (by kernel_rfl) rfl #[.agg #[.slice A0_0 l0_0.length c0_0], .slice A1_0 l1_0.length c1_0] rfl (by (try simp only [List.map_toArray, List.map_cons, List.map_nil]); first | done | rfl | (simp only [List.length_drop, List.length_take]; rfl)) ?_; (with_reducible refine (impl_AreViews.calls k _ _ l0_0 _ _ l1_0 false _ ?side1 ?side2 ?side3 ?side4 A6.out).mono ?_); (case side1 => repeat (first | exact (Kd.C_below HR0_0.out HB.out) | (with_reducible refine Kd.C_alloc ?_ _) | (with_reducible refine Kd.C_drewN ?_ _) | (with_reducible refine Kd.C_drew ?_))); (case side2 => exact HC0_0.out); (case side3 => repeat (first | exact (Kd.C_below HR1_0.out HB.out) | (with_reducible refine Kd.C_alloc ?_ _) | (with_reducible refine Kd.C_drewN ?_ _) | (with_reducible refine Kd.C_drew ?_))); (case side4 => exact HC1_0.out); rintro e w23 ⟨rfl, hb⟩; refine ⟨_, rfl, ?_⟩; have n0_ := Aside0.mk (blk_below (g := gb1343) (o := .cells #[.slice A0_0 l0_0.length c0_0] 41 (0, 0)) (by (with_reducible repeat (first | refine blk_drewN ?_ _ | refine blk_drew ?_ | refine blk_alloc ?_ _)); exact BK1343.out) hb); have n1_ := Aside0.mk (blk_below (g := gb1344) (o := .cells #[.slice A1_0 l1_0.length c1_0, .slice A1_1 l1_1.length c1_1, .int .i64 a1_2] 57 (0, 0)) (by (with_reducible repeat (first | refine blk_drewN ?_ _ | refine blk_drew ?_ | refine blk_alloc ?_ _)); exact BK1344.out) hb); have n2_ := Aside0.mk (below_step (by repeat (first | (with_reducible first | exact HB.out | apply below_alloc | apply pw_below_drewN | apply below_drew1 | refine below_set ?_ GE1343.out | refine below_set ?_ GE1344.out) | exact HB.out)) hb); clear BK1343; clear BK1344; clear HB; have BK1343 := n0_; have BK1344 := n1_; have HB := n2_; clear n0_ n1_ n2_; (try clear hb); (try clear hb2); (try clear hk); (try clear hi)))
   go_meet
   case rel => exact ⟨_, (true), (by first | rfl | (simp; done) | (simp [*]; done)), H', ⟨by first | omega | exact Nat.le_refl _⟩, ⟨by (with_reducible repeat (first | refine blk_drewN ?_ _ | refine blk_drew ?_ | refine blk_alloc ?_ _)); exact BK1343.out⟩, ⟨by (with_reducible repeat (first | refine blk_drewN ?_ _ | refine blk_drew ?_ | refine blk_alloc ?_ _)); exact BK1344.out⟩, ⟨by repeat (first | (with_reducible first | exact HB.out | apply below_alloc | apply pw_below_drewN | apply below_drew1 | refine below_set ?_ GE1343.out | refine below_set ?_ GE1344.out) | exact HB.out)⟩⟩
 case rest =>
  clear HC3
  try clear c1
  try clear c2
  try clear p2
  try clear c7
  try clear c8
  try clear c8b0
  try clear c8b1
  try clear c8b2
  try clear c10
  try clear c13
  try clear c15
  try clear c20
  try clear hcz11_0
  try clear hcz12_0
  try clear hcz12_1
  try clear hcz12_2
  try clear hcz14_0
  try clear hcz14_1
  try clear hcz14_2
  try clear hcz16_0
  try clear hcz17_0
  try clear hcz17_1
  try clear hcz17_2
  try clear hcz19_0
  try clear hcz19_1
  try clear hcz19_2
  try clear hcz21_0
  try clear hcz22_0
  try clear hcz22_1
  try clear hcz22_2
  try clear hfz11_0
  try clear hfz12_0
  try clear hfz12_1
  try clear hfz12_2
  try clear hfz14_0
  try clear hfz14_1
  try clear hfz14_2
  try clear hfz16_0
  try clear hfz17_0
  try clear hfz17_1
  try clear hfz17_2
  try clear hfz19_0
  try clear hfz19_1
  try clear hfz19_2
  try clear hfz21_0
  try clear hfz22_0
  try clear hfz22_1
  try clear hfz22_2
  obtain ⟨kq, x28_2, rfl, HA, HJ2, BK1343, BK1344, HB⟩ := hcut
  cases kq with
  | zero => exact absurd HA.out (by simp [impl_IsCache.j0])
  | succ kj2 =>
   have H := HA.out
   clear HA
   simp only [impl_IsCache.j0] at H
   by_cases c24 : x28_2 = true
   ·subst c24
    have H1 : (some false) = some r := by rw [if_pos rfl] at H; exact H
    clear H
    have H := H1
    clear H1
    obtain rfl := Option.some.inj H
    go_wp2
    go_ret
    exact ⟨by first | rfl | (simp [errW_none, errW_some] <;> rfl) | (simp [*, errW_none, errW_some] <;> rfl), by repeat (first | (with_reducible first | exact HB.out | apply below_alloc | apply pw_below_drewN | apply below_drew1 | refine below_set ?_ GE1343.out | refine below_set ?_ GE1344.out) | exact HB.out)⟩
   ·replace c24 := Bool.eq_false_iff.mpr c24
    subst c24
    have H1 : (impl_IsCache.l0 kj2 l1_1 (l1_1.length : Int) 0 l1_0 l1_1 a1_2) = some r := by rw [if_neg (show ¬ (false = true) by decide)] at H; exact H
    clear H
    have H := H1
    clear H1
    have H' := Aside0.mk H
    clear H
    have hnb25 := NB1344_1343.out
    have hnc25 := NB1343_1344.out
    have hcz26_0 : wc.cell? ⟨gb1344, 0, none⟩ = some (.slice A1_0 l1_0.length c1_0) := (blk_cell BK1344.out 0).trans rfl
    have hcz26_1 : wc.cell? ⟨gb1344, 1, none⟩ = some (.slice A1_1 l1_1.length c1_1) := (blk_cell BK1344.out 1).trans rfl
    have hcz26_2 : wc.cell? ⟨gb1344, 2, none⟩ = some (.int .i64 a1_2) := (blk_cell BK1344.out 2).trans rfl
    have hfz26_0 := blk_frozen BK1344.out 0
    have hfz26_1 := blk_frozen BK1344.out 1
    have hfz26_2 := blk_frozen BK1344.out 2
    go_wp2
    go_loopg [32] kj2 (fun kq v32 w' => ∃ (x32_2 : Int), v32 = .int .i64 x32_2 ∧ Aside0 (impl_IsCache.l0 kq l1_1 (l1_1.length : Int) x32_2 l1_0 l1_1 a1_2 = some r) ∧ Aside0 (kq ≤ kj2) ∧ Aside0 (w'.heap[gb1343]? = some (.cells #[(.slice A0_0 l0_0.length c0_0)] 41 (0, 0))) ∧ Aside0 (w'.heap[gb1344]? = some (.cells #[(.slice A1_0 l1_0.length c1_0), (.slice A1_1 l1_1.length c1_1), .int .i64 a1_2] 57 (0, 0))) ∧ Aside0 (Below w.heap.size w w'))
    case atStart => exact ⟨(0), (by first | rfl | (simp; done) | (simp [*]; done)), H', ⟨Nat.le_refl _⟩, ⟨by (with_reducible repeat (first | refine blk_drewN ?_ _ | refine blk_drew ?_ | refine blk_alloc ?_ _)); exact BK1343.out⟩, ⟨by (with_reducible repeat (first | refine blk_drewN ?_ _ | refine blk_drew ?_ | refine blk_alloc ?_ _)); exact BK1344.out⟩, ⟨by repeat (first | (with_reducible first | exact HB.out | apply below_alloc | apply pw_below_drewN | apply below_drew1 | refine below_set ?_ GE1343.out | refine below_set ?_ GE1344.out) | exact HB.out)⟩⟩
    case round =>
     clear H'
     try clear c1
     try clear c2
     try clear p2
     try clear c7
     try clear c8
     try clear c8b0
     try clear c8b1
     try clear c8b2
     try clear c10
     try clear c13
     try clear c15
     try clear c20
     try clear c24
     try clear c25
     try clear hcz11_0
     try clear hcz12_0
     try clear hcz12_1
     try clear hcz12_2
     try clear hcz14_0
     try clear hcz14_1
     try clear hcz14_2
     try clear hcz16_0
     try clear hcz17_0
     try clear hcz17_1
     try clear hcz17_2
     try clear hcz19_0
     try clear hcz19_1
     try clear hcz19_2
     try clear hcz21_0
     try clear hcz22_0
     try clear hcz22_1
     try clear hcz22_2
     try clear hcz26_0
     try clear hcz26_1
     try clear hcz26_2
     try clear hfz11_0
     try clear hfz12_0
     try clear hfz12_1
     try clear hfz12_2
     try clear hfz14_0
     try clear hfz14_1
     try clear hfz14_2
     try clear hfz16_0
     try clear hfz17_0
     try clear hfz17_1
     try clear hfz17_2
     try clear hfz19_0
     try clear hfz19_1
     try clear hfz19_2
     try clear hfz21_0
     try clear hfz22_0
     try clear hfz22_1
     try clear hfz22_2
     try clear hfz26_0
     try clear hfz26_1
     try clear hfz26_2
     try clear p2
     obtain ⟨x32_2, rfl, HA, HK2, BK1343, BK1344, HB⟩ := hrel
     cases gk with
     | zero => exact absurd HA.out (by simp [impl_IsCache.l0])
     | succ k2 =>
      have H := HA.out
      clear HA
      simp only [impl_IsCache.l0] at H
      by_cases c27 : x32_2 < (l1_1.length : Int)
      ·rw [if_pos c27] at H
       have c27b0 : decide (x32_2 < (l1_1.length : Int)) = true := decide_eq_true c27
       clear c27
       by_cases c28 : 0 ≤ x32_2
       ·rw [if_pos c28] at H
        have c28b0 : decide (0 ≤ x32_2) = true := decide_eq_true c28
        clear c28
        by_cases c29 : x32_2 < (l1_1.length : Int)
        ·rw [if_pos c29] at H
         have c29b0 : decide (x32_2 < (l1_1.length : Int)) = true := decide_eq_true c29
         clear c29
         by_cases c30 : ((rd_L9 l1_1 x32_2).length : Int) > 90
         ·rw [if_pos c30] at H
          have c30b0 : decide (90 < ((rd_L9 l1_1 x32_2).length : Int)) = true := decide_eq_true c30
          have c30b1 : decide (90 < (rd_L9 l1_1 x32_2).length) = true := decide_eq_true (by omega)
          clear c30
          obtain rfl := Option.some.inj H
          have p1347 : 0 ≤ (x32_2 : Int) := of_decide_eq_true (by first | (with_reducible assumption) | assumption)
          have q1347 : x32_2 < (l1_1.length : Int) := of_decide_eq_true (by first | (with_reducible assumption) | assumption)
          obtain ⟨ad1347, A1347_0, c1347_0, e1347, hx1347_0, hl1347_0, hi1347_0⟩ := at_L9 HR1_1.out x32_2 p1347 q1347
          cases e1347
          replace hx1347_0 := (HB.out.cell (World.block_lt_of_cell? w _ hx1347_0)).trans hx1347_0
          have HR1347_0 := Aside0.mk hi1347_0
          have HC1347_0 := Aside0.mk hl1347_0
          clear hi1347_0 hl1347_0
          replace p1347 := eq_true p1347
          replace q1347 := eq_true q1347
          go_wp2
          go_ret
          exact ⟨by first | rfl | (simp [errW_none, errW_some] <;> rfl) | (simp [*, errW_none, errW_some] <;> rfl), by repeat (first | (with_reducible first | exact HB.out | apply below_alloc | apply pw_below_drewN | apply below_drew1 | refine below_set ?_ GE1343.out | refine below_set ?_ GE1344.out) | exact HB.out)⟩
         ·rw [if_neg c30] at H
          have c30b0 : decide (90 < ((rd_L9 l1_1 x32_2).length : Int)) = false := decide_eq_false c30
          have c30b1 : decide (90 < (rd_L9 l1_1 x32_2).length) = false := decide_eq_false (by omega)
          clear c30
          have H' := Aside0.mk H
          clear H
          have p1347 : 0 ≤ (x32_2 : Int) := of_decide_eq_true (by first | (with_reducible assumption) | assumption)
          have q1347 : x32_2 < (l1_1.length : Int) := of_decide_eq_true (by first | (with_reducible assumption) | assumption)
          obtain ⟨ad1347, A1347_0, c1347_0, e1347, hx1347_0, hl1347_0, hi1347_0⟩ := at_L9 HR1_1.out x32_2 p1347 q1347
          cases e1347
          replace hx1347_0 := (HB.out.cell (World.block_lt_of_cell? w _ hx1347_0)).trans hx1347_0
          have HR1347_0 := Aside0.mk hi1347_0
          have HC1347_0 := Aside0.mk hl1347_0
          clear hi1347_0 hl1347_0
          replace p1347 := eq_true p1347
          replace q1347 := eq_true q1347
          go_wp2
          go_loopg [42] k2 (fun kq v42 w' => ∃ (x42_3 : Int), v42 = .int .i64 x42_3 ∧ Aside0 (impl_IsCache.l1 kq x32_2 (rd_L9 l1_1 x32_2) l1_1 (l1_1.length : Int) x32_2 (rd_L9 l1_1 x32_2) ((rd_L9 l1_1 x32_2).length : Int) x42_3 l1_0 l1_1 a1_2 = some r) ∧ Aside0 (kq ≤ k2) ∧ Aside0 (w'.heap[gb1343]? = some (.cells #[(.slice A0_0 l0_0.length c0_0)] 41 (0, 0))) ∧ Aside0 (w'.heap[gb1344]? = some (.cells #[(.slice A1_0 l1_0.length c1_0), (.slice (some ad1347) l1_1.length c1_1), .int .i64 a1_2] 57 (0, 0))) ∧ Aside0 (Below w.heap.size w w'))
          case atStart => exact ⟨(0), (by first | rfl | (simp; done) | (simp [*]; done)), H', ⟨Nat.le_refl _⟩, ⟨by (with_reducible repeat (first | refine blk_drewN ?_ _ | refine blk_drew ?_ | refine blk_alloc ?_ _)); exact BK1343.out⟩, ⟨by (with_reducible repeat (first | refine blk_drewN ?_ _ | refine blk_drew ?_ | refine blk_alloc ?_ _)); exact BK1344.out⟩, ⟨by repeat (first | (with_reducible first | exact HB.out | apply below_alloc | apply pw_below_drewN | apply below_drew1 | refine below_set ?_ GE1343.out | refine below_set ?_ GE1344.out) | exact HB.out)⟩⟩
          case round =>
           clear H'
           try clear c1
           try clear p1
           try clear q1
           try clear hx1
           try clear c2
           try clear p2
           try clear c3
           try clear c7
           try clear c8
           try clear c8b0
           try clear c8b1
           try clear c8b2
           try clear c10
           try clear c13
           try clear p13
           try clear q13
           try clear hx13
           try clear c15
           try clear c20
           try clear c24
           try clear c25
           try clear c27
           try clear c27b0
           try clear c28
           try clear c28b0
           try clear c29
           try clear c29b0
           try clear c30
           try clear c30b0
           try clear c30b1
           try clear hcz11_0
           try clear hcz12_0
           try clear hcz12_1
           try clear hcz12_2
           try clear hcz14_0
           try clear hcz14_1
           try clear hcz14_2
           try clear hcz16_0
           try clear hcz17_0
           try clear hcz17_1
           try clear hcz17_2
           try clear hcz19_0
           try clear hcz19_1
           try clear hcz19_2
           try clear hcz21_0
           try clear hcz22_0
           try clear hcz22_1
           try clear hcz22_2
           try clear hcz26_0
           try clear hcz26_1
           try clear hcz26_2
           try clear hfz11_0
           try clear hfz12_0
           try clear hfz12_1
           try clear hfz12_2
           try clear hfz14_0
           try clear hfz14_1
           try clear hfz14_2
           try clear hfz16_0
           try clear hfz17_0
           try clear hfz17_1
           try clear hfz17_2
           try clear hfz19_0
           try clear hfz19_1
           try clear hfz19_2
           try clear hfz21_0
           try clear hfz22_0
           try clear hfz22_1
           try clear hfz22_2
           try clear hfz26_0
           try clear hfz26_1
           try clear hfz26_2
           try clear hx1347_0
           try clear p1347
           try clear p2
           try clear q1347
           obtain ⟨x42_3, rfl, HA, HK3, BK1343, BK1344, HB⟩ := hrel
           cases gk with
           | zero => exact absurd HA.out (by simp [impl_IsCache.l1])
           | succ k3 =>
            have H := HA.out
            clear HA
            simp only [impl_IsCache.l1] at H
            by_cases c31 : x42_3 < ((rd_L9 l1_1 x32_2).length : Int)
            ·rw [if_pos c31] at H
             have c31b0 : decide (x42_3 < ((rd_L9 l1_1 x32_2).length : Int)) = true := decide_eq_true c31
             clear c31
             by_cases c32 : 0 ≤ x42_3
             ·rw [if_pos c32] at H
              have c32b0 : decide (0 ≤ x42_3) = true := decide_eq_true c32
              clear c32
              by_cases c33 : x42_3 < ((rd_L9 l1_1 x32_2).length : Int)
              ·rw [if_pos c33] at H
               have c33b0 : decide (x42_3 < ((rd_L9 l1_1 x32_2).length : Int)) = true := decide_eq_true c33
               clear c33
               by_cases c34 : 0 ≤ x32_2
               ·rw [if_pos c34] at H
                have c34b0 : decide (0 ≤ x32_2) = true := decide_eq_true c34
                clear c34
                by_cases c35 : x32_2 < (l1_0.length : Int)
                ·rw [if_pos c35] at H
                 have c35b0 : decide (x32_2 < (l1_0.length : Int)) = true := decide_eq_true c35
                 clear c35
                 by_cases c36 : ((rd_L1 (rd_L9 l1_1 x32_2) x42_3).length : Int) = (((rd_T96 l1_0 x32_2).f0).length : Int)
                 ·rw [if_pos c36] at H
                  have c36b0 : (((rd_L1 (rd_L9 l1_1 x32_2) x42_3).length : Int) == (((rd_T96 l1_0 x32_2).f0).length : Int)) = true := beq_iff_eq.mpr c36
                  have c36b1 : (((rd_L1 (rd_L9 l1_1 x32_2) x42_3).length : Int) != (((rd_T96 l1_0 x32_2).f0).length : Int)) = false := bne_eq_false_iff_eq.mpr c36
                  have c36b2 : ((rd_L1 (rd_L9 l1_1 x32_2) x42_3).length == ((rd_T96 l1_0 x32_2).f0).length) = true := by first | simpa using c36 | (simp at c36 ⊢; omega)
                  clear c36
                  replace H := Option.bind_eq_some_iff.mp H
                  obtain ⟨t1350, A370, H⟩ := H
                  replace H : (if t1350 = true then (if x42_3 > 0 then (if 0 ≤ (wrap64 (x42_3 - 1)) then (if (wrap64 (x42_3 - 1)) < ((rd_L9 l1_1 x32_2).length : Int) then ((slices_Compare_int_int.f k3 (rd_L1 (rd_L9 l1_1 x32_2) (wrap64 (x42_3 - 1))) (rd_L1 (rd_L9 l1_1 x32_2) x42_3)).bind fun t1352 => (if t1352 ≥ 0 then (some false) else (impl_IsCache.l1 k3 x32_2 (rd_L9 l1_1 x32_2) l1_1 (l1_1.length : Int) x32_2 (rd_L9 l1_1 x32_2) ((rd_L9 l1_1 x32_2).length : Int) (wrap64 (x42_3 + 1)) l1_0 l1_1 a1_2))) else (none)) else (none)) else (impl_IsCache.l1 k3 x32_2 (rd_L9 l1_1 x32_2) l1_1 (l1_1.length : Int) x32_2 (rd_L9 l1_1 x32_2) ((rd_L9 l1_1 x32_2).length : Int) (wrap64 (x42_3 + 1)) l1_0 l1_1 a1_2)) else (some false)) = some r := H
                  have A37 := Aside0.mk A370
                  clear A370
                  by_cases c38 : t1350 = true
                  ·subst c38
                   have H1 : (if x42_3 > 0 then (if 0 ≤ (wrap64 (x42_3 - 1)) then (if (wrap64 (x42_3 - 1)) < ((rd_L9 l1_1 x32_2).length : Int) then ((slices_Compare_int_int.f k3 (rd_L1 (rd_L9 l1_1 x32_2) (wrap64 (x42_3 - 1))) (rd_L1 (rd_L9 l1_1 x32_2) x42_3)).bind fun t1352 => (if t1352 ≥ 0 then (some false) else (impl_IsCache.l1 k3 x32_2 (rd_L9 l1_1 x32_2) l1_1 (l1_1.length : Int) x32_2 (rd_L9 l1_1 x32_2) ((rd_L9 l1_1 x32_2).length : Int) (wrap64 (x42_3 + 1)) l1_0 l1_1 a1_2))) else (none)) else (none)) else (impl_IsCache.l1 k3 x32_2 (rd_L9 l1_1 x32_2) l1_1 (l1_1.length : Int) x32_2 (rd_L9 l1_1 x32_2) ((rd_L9 l1_1 x32_2).length : Int) (wrap64 (x42_3 + 1)) l1_0 l1_1 a1_2)) = some r := by rw [if_pos rfl] at H; exact H
                   clear H
                   have H := H1
                   clear H1
                   by_cases c39 : x42_3 > 0
                   ·rw [if_pos c39] at H
                    have c39b0 : decide (0 < x42_3) = true := decide_eq_true c39
                    clear c39
                    obtain ⟨ji40, hji40⟩ : ∃ j_ : Int, (wrap64 (x42_3 - 1)) = j_ := ⟨_, rfl⟩
                    replace H : (if 0 ≤ (ji40) then (if (ji40) < ((rd_L9 l1_1 x32_2).length : Int) then ((slices_Compare_int_int.f k3 (rd_L1 (rd_L9 l1_1 x32_2) (ji40)) (rd_L1 (rd_L9 l1_1 x32_2) x42_3)).bind fun t1352 => (if t1352 ≥ 0 then (some false) else (impl_IsCache.l1 k3 x32_2 (rd_L9 l1_1 x32_2) l1_1 (l1_1.length : Int) x32_2 (rd_L9 l1_1 x32_2) ((rd_L9 l1_1 x32_2).length : Int) (wrap64 (x42_3 + 1)) l1_0 l1_1 a1_2))) else (none)) else (none)) = some r := by first | (rw [hji40] at H; exact H) | (simp only [hji40] at H ⊢; exact H)
                    (try rw [hji40] at A37)
                    have hji40w : (IntKind.i64.wrap (x42_3 - 1)) = ji40 := (i64_w _).trans hji40
                    by_cases c41 : 0 ≤ (ji40)
                    ·rw [if_pos c41] at H
                     have c41b0 : decide (0 ≤ (ji40)) = true := decide_eq_true c41
                     clear c41
                     by_cases c42 : (ji40) < ((rd_L9 l1_1 x32_2).length : Int)
                     ·rw [if_pos c42] at H
                      have c42b0 : decide ((ji40) < ((rd_L9 l1_1 x32_2).length : Int)) = true := decide_eq_true c42
                      clear c42
                      replace H := Option.bind_eq_some_iff.mp H
                      obtain ⟨t1352, A430, H⟩ := H
                      replace H : (if t1352 ≥ 0 then (some false) else (impl_IsCache.l1 k3 x32_2 (rd_L9 l1_1 x32_2) l1_1 (l1_1.length : Int) x32_2 (rd_L9 l1_1 x32_2) ((rd_L9 l1_1 x32_2).length : Int) (wrap64 (x42_3 + 1)) l1_0 l1_1 a1_2)) = some r := H
                      have A43 := Aside0.mk A430
                      clear A430
                      by_cases c44 : t1352 ≥ 0
                      ·rw [if_pos c44] at H
                       have c44b0 : decide (0 ≤ t1352) = true := decide_eq_true c44
                       clear c44
                       obtain rfl := Option.some.inj H
                       have p1348 : 0 ≤ (x42_3 : Int) := of_decide_eq_true (by first | (with_reducible assumption) | assumption)
                       have q1348 : x42_3 < ((rd_L9 l1_1 x32_2).length : Int) := of_decide_eq_true (by first | (with_reducible assumption) | assumption)
                       obtain ⟨ad1348, A1348_0, c1348_0, e1348, hx1348_0, hl1348_0, hi1348_0⟩ := at_L1 HR1347_0.out x42_3 p1348 q1348
                       cases e1348
                       replace hx1348_0 := (HB.out.cell (World.block_lt_of_cell? w _ hx1348_0)).trans hx1348_0
                       have HR1348_0 := Aside0.mk hi1348_0
                       have HC1348_0 := Aside0.mk hl1348_0
                       clear hi1348_0 hl1348_0
                       replace p1348 := eq_true p1348
                       replace q1348 := eq_true q1348
                       have hnb45 := NB1344_1343.out
                       have hnc45 := NB1343_1344.out
                       have hcz46_0 : wr.cell? ⟨gb1344, 0, none⟩ = some (.slice A1_0 l1_0.length c1_0) := (blk_cell BK1344.out 0).trans rfl
                       have hcz46_1 : wr.cell? ⟨gb1344, 1, none⟩ = some (.slice (some ad1347) l1_1.length c1_1) := (blk_cell BK1344.out 1).trans rfl
                       have hcz46_2 : wr.cell? ⟨gb1344, 2, none⟩ = some (.int .i64 a1_2) := (blk_cell BK1344.out 2).trans rfl
                       have hfz46_0 := blk_frozen BK1344.out 0
                       have hfz46_1 := blk_frozen BK1344.out 1
                       have hfz46_2 := blk_frozen BK1344.out 2
                       have p1349 : 0 ≤ (x32_2 : Int) := of_decide_eq_true (by first | (with_reducible assumption) | assumption)
                       have q1349 : x32_2 < (l1_0.length : Int) := of_decide_eq_true (by first | (with_reducible assumption) | assumption)
                       obtain ⟨ad1349, A1349_0, c1349_0, A1349_1, c1349_1, e1349, hx1349_0, hx1349_1, hl1349_0, hi1349_0, hl1349_1, hi1349_1⟩ := at_T96 HR1_0.out x32_2 p1349 q1349
                       cases e1349
                       replace hx1349_0 := (HB.out.cell (World.block_lt_of_cell? w _ hx1349_0)).trans hx1349_0
                       replace hx1349_1 := (HB.out.cell (World.block_lt_of_cell? w _ hx1349_1)).trans hx1349_1
                       have HR1349_0 := Aside0.mk hi1349_0
                       have HC1349_0 := Aside0.mk hl1349_0
                       clear hi1349_0 hl1349_0
                       have HR1349_1 := Aside0.mk hi1349_1
                       have HC1349_1 := Aside0.mk hl1349_1
                       clear hi1349_1 hl1349_1
                       replace p1349 := eq_true p1349
                       replace q1349 := eq_true q1349
                       go_wp2_with (first | (go_at_call 139; (with_reducible refine (impl_areValues.calls k3 _ _ (rd_L1 (rd_L9 l1_1 x32_2) x42_3) true _ ?side1 ?side2 A37.out).mono ?_); (case side1 => repeat (first | exact (Kd.C_below HR1348_0.out HB.out) | (with_reducible refine Kd.C_alloc ?_ _) | (with_reducible refine Kd.C_drewN ?_ _) | (with_reducible refine Kd.C_drew ?_))); (case side2 => exact HC1348_0.out); rintro e w' ⟨rfl, ⟨nd, rfl⟩⟩; have p1351 : 0 ≤ ((ji40) : Int) := of_decide_eq_true (by first | (with_reducible assumption) | assumption); have q1351 : (ji40) < ((rd_L9 l1_1 x32_2).length : Int) := of_decide_eq_true (by first | (with_reducible assumption) | assumption); obtain ⟨ad1351, A1351_0, c1351_0, e1351, hx1351_0, hl1351_0, hi1351_0⟩ := at_L1 HR1347_0.out (ji40) p1351 q1351; obtain rfl : ad1348 = ad1351 := (by injection e1351); replace hx1351_0 := (HB.out.cell (World.block_lt_of_cell? w _ hx1351_0)).trans hx1351_0; have HR1351_0 := Aside0.mk hi1351_0; have HC1351_0 := Aside0.mk hl1351_0; clear hi1351_0 hl1351_0; replace p1351 := eq_true p1351; replace q1351 := eq_true q1351) | (go_at_call 140; (with_reducible refine (slices_Compare_int_int.calls k3 _ _ (rd_L1 (rd_L9 l1_1 x32_2) (ji40)) _ _ (rd_L1 (rd_L9 l1_1 x32_2) x42_3) t1352 _ ?side1 ?side2 ?side3 ?side4 A43.out).mono ?_); (case side1 => repeat (first | exact (Kd.C_below HR1351_0.out (by repeat (first | (with_reducible first | exact HB.out | apply below_alloc | apply pw_below_drewN | apply below_drew1 | refine below_set ?_ GE1343.out | refine below_set ?_ GE1344.out) | exact HB.out))) | (with_reducible refine Kd.C_alloc ?_ _) | (with_reducible refine Kd.C_drewN ?_ _) | (with_reducible refine Kd.C_drew ?_))); (case side2 => exact HC1351_0.out); (case side3 => repeat (first | exact (Kd.C_below HR1348_0.out (by repeat (first | (with_reducible first | exact HB.out | apply below_alloc | apply pw_below_drewN | apply below_drew1 | refine below_set ?_ GE1343.out | refine below_set ?_ GE1344.out) | exact HB.out))) | (with_reducible refine Kd.C_alloc ?_ _) | (with_reducible refine Kd.C_drewN ?_ _) | (with_reducible refine Kd.C_drew ?_))); (case side4 => exact HC1348_0.out); rintro e w' ⟨rfl, ⟨nd, rfl⟩⟩))
                       go_ret
                       exact ⟨by first | rfl | (simp [errW_none, errW_some] <;> rfl) | (simp only [← hji40]; first | rfl | (simp [errW_none, errW_some] <;> rfl)) | (simp [*, errW_none, errW_some] <;> rfl), by repeat (first | (with_reducible first | exact HB.out | apply below_alloc | apply pw_below_drewN | apply below_drew1 | refine below_set ?_ GE1343.out | refine below_set ?_ GE1344.out) | exact HB.out)⟩
                      ·rw [if_neg c44] at H
                       have c44b0 : decide (0 ≤ t1352) = false := decide_eq_false c44
                       clear c44
                       have H' := Aside0.mk H
                       clear H
                       have p1348 : 0 ≤ (x42_3 : Int) := of_decide_eq_true (by first | (with_reducible assumption) | assumption)
                       have q1348 : x42_3 < ((rd_L9 l1_1 x32_2).length : Int) := of_decide_eq_true (by first | (with_reducible assumption) | assumption)
                       obtain ⟨ad1348, A1348_0, c1348_0, e1348, hx1348_0, hl1348_0, hi1348_0⟩ := at_L1 HR1347_0.out x42_3 p1348 q1348
                       cases e1348
                       replace hx1348_0 := (HB.out.cell (World.block_lt_of_cell? w _ hx1348_0)).trans hx1348_0
                       have HR1348_0 := Aside0.mk hi1348_0
                       have HC1348_0 := Aside0.mk hl1348_0
                       clear hi1348_0 hl1348_0
                       replace p1348 := eq_true p1348
                       replace q1348 := eq_true q1348
                       have hnb47 := NB1344_1343.out
                       have hnc47 := NB1343_1344.out
                       have hcz48_0 : wr.cell? ⟨gb1344, 0, none⟩ = some (.slice A1_0 l1_0.length c1_0) := (blk_cell BK1344.out 0).trans rfl
                       have hcz48_1 : wr.cell? ⟨gb1344, 1, none⟩ = some (.slice (some ad1347) l1_1.length c1_1) := (blk_cell BK1344.out 1).trans rfl
                       have hcz48_2 : wr.cell? ⟨gb1344, 2, none⟩ = some (.int .i64 a1_2) := (blk_cell BK1344.out 2).trans rfl
                       have hfz48_0 := blk_frozen BK1344.out 0
                       have hfz48_1 := blk_frozen BK1344.out 1
                       have hfz48_2 := blk_frozen BK1344.out 2
                       have p1349 : 0 ≤ (x32_2 : Int) := of_decide_eq_true (by first | (with_reducible assumption) | assumption)
                       have q1349 : x32_2 < (l1_0.length : Int) := of_decide_eq_true (by first | (with_reducible assumption) | assumption)
                       obtain ⟨ad1349, A1349_0, c1349_0, A1349_1, c1349_1, e1349, hx1349_0, hx1349_1, hl1349_0, hi1349_0, hl1349_1, hi1349_1⟩ := at_T96 HR1_0.out x32_2 p1349 q1349
                       cases e1349
                       replace hx1349_0 := (HB.out.cell (World.block_lt_of_cell? w _ hx1349_0)).trans hx1349_0
                       replace hx1349_1 := (HB.out.cell (World.block_lt_of_cell? w _ hx1349_1)).trans hx1349_1
                       have HR1349_0 := Aside0.mk hi1349_0
                       have HC1349_0 := Aside0.mk hl1349_0
                       clear hi1349_0 hl1349_0
                       have HR1349_1 := Aside0.mk hi1349_1
                       have HC1349_1 := Aside0.mk hl1349_1
                       clear hi1349_1 hl1349_1
                       replace p1349 := eq_true p1349
                       replace q1349 := eq_true q1349
                       go_wp2_with (first | (go_at_call 139; (with_reducible refine (impl_areValues.calls k3 _ _ (rd_L1 (rd_L9 l1_1 x32_2) x42_3) true _ ?side1 ?side2 A37.out).mono ?_); (case side1 => repeat (first | exact (Kd.C_below HR1348_0.out HB.out) | (with_reducible refine Kd.C_alloc ?_ _) | (with_reducible refine Kd.C_drewN ?_ _) | (with_reducible refine Kd.C_drew ?_))); (case side2 => exact HC1348_0.out); rintro e w' ⟨rfl, ⟨nd, rfl⟩⟩; have p1351 : 0 ≤ ((ji40) : Int) := of_decide_eq_true (by first | (with_reducible assumption) | assumption); have q1351 : (ji40) < ((rd_L9 l1_1 x32_2).length : Int) := of_decide_eq_true (by first | (with_reducible assumption) | assumption); obtain ⟨ad1351, A1351_0, c1351_0, e1351, hx1351_0, hl1351_0, hi1351_0⟩ := at_L1 HR1347_0.out (ji40) p1351 q1351; obtain rfl : ad1348 = ad1351 := (by injection e1351); replace hx1351_0 := (HB.out.cell (World.block_lt_of_cell? w _ hx1351_0)).trans hx1351_0; have HR1351_0 := Aside0.mk hi1351_0; have HC1351_0 := Aside0.mk hl1351_0; clear hi1351_0 hl1351_0; replace p1351 := eq_true p1351; replace q1351 := eq_true q1351) | (go_at_call 140; (with_reducible refine (slices_Compare_int_int.calls k3 _ _ (rd_L1 (rd_L9 l1_1 x32_2) (ji40)) _ _ (rd_L1 (rd_L9 l1_1 x32_2) x42_3) t1352 _ ?side1 ?side2 ?side3 ?side4 A43.out).mono ?_); (case side1 => repeat (first | exact (Kd.C_below HR1351_0.out (by repeat (first | (with_reducible first | exact HB.out | apply below_alloc | apply pw_below_drewN | apply below_drew1 | refine below_set ?_ GE1343.out | refine below_set ?_ GE1344.out) | exact HB.out))) | (with_reducible refine Kd.C_alloc ?_ _) | (with_reducible refine Kd.C_drewN ?_ _) | (with_reducible refine Kd.C_drew ?_))); (case side2 => exact HC1351_0.out); (case side3 => repeat (first | exact (Kd.C_below HR1348_0.out (by repeat (first | (with_reducible first | exact HB.out | apply below_alloc | apply pw_below_drewN | apply below_drew1 | refine below_set ?_ GE1343.out | refine below_set ?_ GE1344.out) | exact HB.out))) | (with_reducible refine Kd.C_alloc ?_ _) | (with_reducible refine Kd.C_drewN ?_ _) | (with_reducible refine Kd.C_drew ?_))); (case side4 => exact HC1348_0.out); rintro e w' ⟨rfl, ⟨nd, rfl⟩⟩))
                       go_roundg k3
                       case measure => have := HJ2.out; have := HK2.out; have := HK3.out; omega
                       case rel => exact ⟨(wrap64 (x42_3 + 1)), (by first | rfl | (simp; done) | (simp [*]; done)), H', ⟨by have := HJ2.out; have := HK2.out; have := HK3.out; omega⟩, ⟨by (with_reducible repeat (first | refine blk_drewN ?_ _ | refine blk_drew ?_ | refine blk_alloc ?_ _)); exact BK1343.out⟩, ⟨by (with_reducible repeat (first | refine blk_drewN ?_ _ | refine blk_drew ?_ | refine blk_alloc ?_ _)); exact BK1344.out⟩, ⟨by repeat (first | (with_reducible first | exact HB.out | apply below_alloc | apply pw_below_drewN | apply below_drew1 | refine below_set ?_ GE1343.out | refine below_set ?_ GE1344.out) | exact HB.out)⟩⟩
                     ·rw [if_neg c42] at H
                      exact absurd H (by simp)
                    ·rw [if_neg c41] at H
                     exact absurd H (by simp)
                   ·rw [if_neg c39] at H
                    have c39b0 : decide (0 < x42_3) = false := decide_eq_false c39
                    clear c39
                    have H' := Aside0.mk H
                    clear H
                    have p1348 : 0 ≤ (x42_3 : Int) := of_decide_eq_true (by first | (with_reducible assumption) | assumption)
                    have q1348 : x42_3 < ((rd_L9 l1_1 x32_2).length : Int) := of_decide_eq_true (by first | (with_reducible assumption) | assumption)
                    obtain ⟨ad1348, A1348_0, c1348_0, e1348, hx1348_0, hl1348_0, hi1348_0⟩ := at_L1 HR1347_0.out x42_3 p1348 q1348
                    cases e1348
                    replace hx1348_0 := (HB.out.cell (World.block_lt_of_cell? w _ hx1348_0)).trans hx1348_0
                    have HR1348_0 := Aside0.mk hi1348_0
                    have HC1348_0 := Aside0.mk hl1348_0
                    clear hi1348_0 hl1348_0
                    replace p1348 := eq_true p1348
                    replace q1348 := eq_true q1348
                    have hnb49 := NB1344_1343.out
                    have hnc49 := NB1343_1344.out
                    have hcz50_0 : wr.cell? ⟨gb1344, 0, none⟩ = some (.slice A1_0 l1_0.length c1_0) := (blk_cell BK1344.out 0).trans rfl
                    have hcz50_1 : wr.cell? ⟨gb1344, 1, none⟩ = some (.slice (some ad1347) l1_1.length c1_1) := (blk_cell BK1344.out 1).trans rfl
                    have hcz50_2 : wr.cell? ⟨gb1344, 2, none⟩ = some (.int .i64 a1_2) := (blk_cell BK1344.out 2).trans rfl
                    have hfz50_0 := blk_frozen BK1344.out 0
                    have hfz50_1 := blk_frozen BK1344.out 1
                    have hfz50_2 := blk_frozen BK1344.out 2
                    have p1349 : 0 ≤ (x32_2 : Int) := of_decide_eq_true (by first | (with_reducible assumption) | assumption)
                    have q1349 : x32_2 < (l1_0.length : Int) := of_decide_eq_true (by first | (with_reducible assumption) | assumption)
                    obtain ⟨ad1349, A1349_0, c1349_0, A1349_1, c1349_1, e1349, hx1349_0, hx1349_1, hl1349_0, hi1349_0, hl1349_1, hi1349_1⟩ := at_T96 HR1_0.out x32_2 p1349 q1349
                    cases e1349
                    replace hx1349_0 := (HB.out.cell (World.block_lt_of_cell? w _ hx1349_0)).trans hx1349_0
                    replace hx1349_1 := (HB.out.cell (World.block_lt_of_cell? w _ hx1349_1)).trans hx1349_1
                    have HR1349_0 := Aside0.mk hi1349_0
                    have HC1349_0 := Aside0.mk hl1349_0
                    clear hi1349_0 hl1349_0
                    have HR1349_1 := Aside0.mk hi1349_1
                    have HC1349_1 := Aside0.mk hl1349_1
                    clear hi1349_1 hl1349_1
                    replace p1349 := eq_true p1349
                    replace q1349 := eq_true q1349
                    go_wp2_with (first | (go_at_call 139; (with_reducible refine (impl_areValues.calls k3 _ _ (rd_L1 (rd_L9 l1_1 x32_2) x42_3) true _ ?side1 ?side2 A37.out).mono ?_); (case side1 => repeat (first | exact (Kd.C_below HR1348_0.out HB.out) | (with_reducible refine Kd.C_alloc ?_ _) | (with_reducible refine Kd.C_drewN ?_ _) | (with_reducible refine Kd.C_drew ?_))); (case side2 => exact HC1348_0.out); rintro e w' ⟨rfl, ⟨nd, rfl⟩⟩))
                    go_roundg k3
                    case measure => have := HJ2.out; have := HK2.out; have := HK3.out; omega
                    case rel => exact ⟨(wrap64 (x42_3 + 1)), (by first | rfl | (simp; done) | (simp [*]; done)), H', ⟨by have := HJ2.out; have := HK2.out; have := HK3.out; omega⟩, ⟨by (with_reducible repeat (first | refine blk_drewN ?_ _ | refine blk_drew ?_ | refine blk_alloc ?_ _)); exact BK1343.out⟩, ⟨by (with_reducible repeat (first | refine blk_drewN ?_ _ | refine blk_drew ?_ | refine blk_alloc ?_ _)); exact BK1344.out⟩, ⟨by repeat (first | (with_reducible first | exact HB.out | apply below_alloc | apply pw_below_drewN | apply below_drew1 | refine below_set ?_ GE1343.out | refine below_set ?_ GE1344.out) | exact HB.out)⟩⟩
                  ·replace c38 := Bool.eq_false_iff.mpr c38
                   subst c38
                   have H1 : (some false) = some r := by rw [if_neg (show ¬ (false = true) by decide)] at H; exact H
                   clear H
                   have H := H1
                   clear H1
                   obtain rfl := Option.some.inj H
                   have p1348 : 0 ≤ (x42_3 : Int) := of_decide_eq_true (by first | (with_reducible assumption) | assumption)
                   have q1348 : x42_3 < ((rd_L9 l1_1 x32_2).length : Int) := of_decide_eq_true (by first | (with_reducible assumption) | assumption)
                   obtain ⟨ad1348, A1348_0, c1348_0, e1348, hx1348_0, hl1348_0, hi1348_0⟩ := at_L1 HR1347_0.out x42_3 p1348 q1348
                   cases e1348
                   replace hx1348_0 := (HB.out.cell (World.block_lt_of_cell? w _ hx1348_0)).trans hx1348_0
                   have HR1348_0 := Aside0.mk hi1348_0
                   have HC1348_0 := Aside0.mk hl1348_0
                   clear hi1348_0 hl1348_0
                   replace p1348 := eq_true p1348
                   replace q1348 := eq_true q1348
                   have hnb51 := NB1344_1343.out
                   have hnc51 := NB1343_1344.out
                   have hcz52_0 : wr.cell? ⟨gb1344, 0, none⟩ = some (.slice A1_0 l1_0.length c1_0) := (blk_cell BK1344.out 0).trans rfl
                   have hcz52_1 : wr.cell? ⟨gb1344, 1, none⟩ = some (.slice (some ad1347) l1_1.length c1_1) := (blk_cell BK1344.out 1).trans rfl
                   have hcz52_2 : wr.cell? ⟨gb1344, 2, none⟩ = some (.int .i64 a1_2) := (blk_cell BK1344.out 2).trans rfl
                   have hfz52_0 := blk_frozen BK1344.out 0
                   have hfz52_1 := blk_frozen BK1344.out 1
                   have hfz52_2 := blk_frozen BK1344.out 2
                   have p1349 : 0 ≤ (x32_2 : Int) := of_decide_eq_true (by first | (with_reducible assumption) | assumption)
                   have q1349 : x32_2 < (l1_0.length : Int) := of_decide_eq_true (by first | (with_reducible assumption) | assumption)
                   obtain ⟨ad1349, A1349_0, c1349_0, A1349_1, c1349_1, e1349, hx1349_0, hx1349_1, hl1349_0, hi1349_0, hl1349_1, hi1349_1⟩ := at_T96 HR1_0.out x32_2 p1349 q1349
                   cases e1349
                   replace hx1349_0 := (HB.out.cell (World.block_lt_of_cell? w _ hx1349_0)).trans hx1349_0
                   replace hx1349_1 := (HB.out.cell (World.block_lt_of_cell? w _ hx1349_1)).trans hx1349_1
                   have HR1349_0 := Aside0.mk hi1349_0
                   have HC1349_0 := Aside0.mk hl1349_0
                   clear hi1349_0 hl1349_0
                   have HR1349_1 := Aside0.mk hi1349_1
                   have HC1349_1 := Aside0.mk hl1349_1
                   clear hi1349_1 hl1349_1
                   replace p1349 := eq_true p1349
                   replace q1349 := eq_true q1349
                   go_wp2_with (first | (go_at_call 139; (with_reducible refine (impl_areValues.calls k3 _ _ (rd_L1 (rd_L9 l1_1 x32_2) x42_3) false _ ?side1 ?side2 A37.out).mono ?_); (case side1 => repeat (first | exact (Kd.C_below HR1348_0.out HB.out) | (with_reducible refine Kd.C_alloc ?_ _) | (with_reducible refine Kd.C_drewN ?_ _) | (with_reducible refine Kd.C_drew ?_))); (case side2 => exact HC1348_0.out); rintro e w' ⟨rfl, ⟨nd, rfl⟩⟩))
                   go_ret
                   exact ⟨by first | rfl | (simp [errW_none, errW_some] <;> rfl) | (simp [*, errW_none, errW_some] <;> rfl), by repeat (first | (with_reducible first | exact HB.out | apply below_alloc | apply pw_below_drewN | apply below_drew1 | refine below_set ?_ GE1343.out | refine below_set ?_ GE1344.out) | exact HB.out)⟩
                 ·rw [if_neg c36] at H
                  have c36b0 : (((rd_L1 (rd_L9 l1_1 x32_2) x42_3).length : Int) == (((rd_T96 l1_0 x32_2).f0).length : Int)) = false := beq_eq_false_iff_ne.mpr c36
                  have c36b1 : (((rd_L1 (rd_L9 l1_1 x32_2) x42_3).length : Int) != (((rd_T96 l1_0 x32_2).f0).length : Int)) = true := bne_iff_ne.mpr c36
                  have c36b2 : ((rd_L1 (rd_L9 l1_1 x32_2) x42_3).length == ((rd_T96 l1_0 x32_2).f0).length) = false := by first | simpa using c36 | (simp at c36 ⊢; omega)
                  obtain rfl := Option.some.inj H
                  have p1348 : 0 ≤ (x42_3 : Int) := of_decide_eq_true (by first | (with_reducible assumption) | assumption)
                  have q1348 : x42_3 < ((rd_L9 l1_1 x32_2).length : Int) := of_decide_eq_true (by first | (with_reducible assumption) | assumption)
                  obtain ⟨ad1348, A1348_0, c1348_0, e1348, hx1348_0, hl1348_0, hi1348_0⟩ := at_L1 HR1347_0.out x42_3 p1348 q1348
                  cases e1348
                  replace hx1348_0 := (HB.out.cell (World.block_lt_of_cell? w _ hx1348_0)).trans hx1348_0
                  have HR1348_0 := Aside0.mk hi1348_0
                  have HC1348_0 := Aside0.mk hl1348_0
                  clear hi1348_0 hl1348_0
                  replace p1348 := eq_true p1348
                  replace q1348 := eq_true q1348
                  have hnb53 := NB1344_1343.out
                  have hnc53 := NB1343_1344.out
                  have hcz54_0 : wr.cell? ⟨gb1344, 0, none⟩ = some (.slice A1_0 l1_0.length c1_0) := (blk_cell BK1344.out 0).trans rfl
                  have hcz54_1 : wr.cell? ⟨gb1344, 1, none⟩ = some (.slice (some ad1347) l1_1.length c1_1) := (blk_cell BK1344.out 1).trans rfl
                  have hcz54_2 : wr.cell? ⟨gb1344, 2, none⟩ = some (.int .i64 a1_2) := (blk_cell BK1344.out 2).trans rfl
                  have hfz54_0 := blk_frozen BK1344.out 0
                  have hfz54_1 := blk_frozen BK1344.out 1
                  have hfz54_2 := blk_frozen BK1344.out 2
                  have p1349 : 0 ≤ (x32_2 : Int) := of_decide_eq_true (by first | (with_reducible assumption) | assumption)
                  have q1349 : x32_2 < (l1_0.length : Int) := of_decide_eq_true (by first | (with_reducible assumption) | assumption)
                  obtain ⟨ad1349, A1349_0, c1349_0, A1349_1, c1349_1, e1349, hx1349_0, hx1349_1, hl1349_0, hi1349_0, hl1349_1, hi1349_1⟩ := at_T96 HR1_0.out x32_2 p1349 q1349
                  cases e1349
                  replace hx1349_0 := (HB.out.cell (World.block_lt_of_cell? w _ hx1349_0)).trans hx1349_0
                  replace hx1349_1 := (HB.out.cell (World.block_lt_of_cell? w _ hx1349_1)).trans hx1349_1
                  have HR1349_0 := Aside0.mk hi1349_0
                  have HC1349_0 := Aside0.mk hl1349_0
                  clear hi1349_0 hl1349_0
                  have HR1349_1 := Aside0.mk hi1349_1
                  have HC1349_1 := Aside0.mk hl1349_1
                  clear hi1349_1 hl1349_1
                  replace p1349 := eq_true p1349
                  replace q1349 := eq_true q1349
                  go_wp2
                  go_ret
                  exact ⟨by first | rfl | (simp [errW_none, errW_some] <;> rfl) | (simp [*, errW_none, errW_some] <;> rfl), by repeat (first | (with_reducible first | exact HB.out | apply below_alloc | apply pw_below_drewN | apply below_drew1 | refine below_set ?_ GE1343.out | refine below_set ?_ GE1344.out) | exact HB.out)⟩
                ·rw [if_neg c35] at H
                 exact absurd H (by simp)
               ·rw [if_neg c34] at H
                exact absurd H (by simp)
              ·rw [if_neg c33] at H
               exact absurd H (by simp)
             ·rw [if_neg c32] at H
              exact absurd H (by simp)
            ·rw [if_neg c31] at H
             have c31b0 : decide (x42_3 < ((rd_L9 l1_1 x32_2).length : Int)) = false := decide_eq_false c31
             clear c31
             have H' := Aside0.mk H
             clear H
             go_wp2
             go_roundg k3
             case measure => have := HJ2.out; have := HK2.out; have := HK3.out; omega
             case rel => exact ⟨(wrap64 (x32_2 + 1)), (by first | rfl | (simp; done) | (simp [*]; done)), H', ⟨by have := HJ2.out; have := HK2.out; have := HK3.out; omega⟩, ⟨by (with_reducible repeat (first | refine blk_drewN ?_ _ | refine blk_drew ?_ | refine blk_alloc ?_ _)); exact BK1343.out⟩, ⟨by (with_reducible repeat (first | refine blk_drewN ?_ _ | refine blk_drew ?_ | refine blk_alloc ?_ _)); exact BK1344.out⟩, ⟨by repeat (first | (with_reducible first | exact HB.out | apply below_alloc | apply pw_below_drewN | apply below_drew1 | refine below_set ?_ GE1343.out | refine below_set ?_ GE1344.out) | exact HB.out)⟩⟩
        ·rw [if_neg c29] at H
         exact absurd H (by simp)
       ·rw [if_neg c28] at H
        exact absurd H (by simp)
      ·rw [if_neg c27] at H
       have c27b0 : decide (x32_2 < (l1_1.length : Int)) = false := decide_eq_false c27
       clear c27
       obtain rfl := Option.some.inj H
       go_wp2
       go_ret
       exact ⟨by first | rfl | (simp [errW_none, errW_some] <;> rfl) | (simp [*, errW_none, errW_some] <;> rfl), by repeat (first | (with_reducible first | exact HB.out | apply below_alloc | apply pw_below_drewN | apply below_drew1 | refine below_set ?_ GE1343.out | refine below_set ?_ GE1344.out) | exact HB.out)⟩

end Go.Proofs.Ythebbgobncbooaa.P

