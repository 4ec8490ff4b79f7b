/- Out of YthebbgobncbooaaPx59: what the claim needs of it. Conditions: each declaration's own. -/
import Derived.Test.YthebbgobncbooaaZCchM10
import Derived.Test.YthebbgobncbooaaZCchM11
import Derived.Test.YthebbgobncbooaaZCchPx14
import Derived.Test.YthebbgobncbooaaZCchPx15
import Derived.Test.YthebbgobncbooaaZCchM15
import Derived.Test.YthebbgobncbooaaZCchPx56
import Derived.Test.YthebbgobncbooaaZCchM22
namespace Go.Proofs.Ythebbgobncbooaa.P
open Go.RowKit Go.Proofs.YthebbgobncbooaaW.PrintWords Go.Proofs.YthebbgobncbooaaW.PrintLast Go.Proofs.YthebbgobncbooaaW.PrintMore
attribute [local go_sem] max2_int min2_int max_two min_two max_three min_three max_four min_four   -- for this text's walks alone
set_option linter.unusedVariables false
set_option linter.unusedSimpArgs false

def laws_FnExactIsCache.f (k : Nat) (l0_0 : List Int) (l1_0 : List (S89)) (l1_1 : List (List (List Int))) (a1_2 : Int) : Option (Bool) := (laws_szSchema.f l0_0 1048576).bind fun t1355 => (if t1355 < 0 then (some true) else ((laws_szCache.f k l1_0 l1_1 a1_2 t1355).bind fun t1356 => (if t1356 < 0 then (some true) else ((laws_toSchema.f k l0_0).bind fun t1357 => ((laws_toCache.f k l1_0 l1_1 a1_2).bind fun bt1360 => ((spec_IsCache.f k t1357 bt1360.1 bt1360.2.1 bt1360.2.2).bind fun t1367 => ((laws_toSchema.f k l0_0).bind fun t1368 => ((laws_toCache.f k l1_0 l1_1 a1_2).bind fun bt1372 => ((impl_IsCache.f k t1368 bt1372.1 bt1372.2.1 bt1372.2.2).bind fun t1380 => (if (t1380 != t1367) = true then (some false) else ((laws_toSchema.f k l0_0).bind fun t1381 => ((laws_eqSchema.f k t1368 t1381).bind fun t1384 => (if t1384 = true then ((laws_toCache.f k l1_0 l1_1 a1_2).bind fun bt1385 => ((laws_eqCache.f k bt1372.1 bt1372.2.1 bt1372.2.2 bt1385.1 bt1385.2.1 bt1385.2.2).bind fun t1392 => (if t1392 = true then (some true) else (some false)))) else (some false))))))))))))))
set_option maxHeartbeats 8000000 in
set_option maxRecDepth 100000 in
theorem laws_FnExactIsCache.calls (k : Nat) (A0_0 : Option Addr) (c0_0 : Nat) (l0_0 : List Int) (A1_0 : Option Addr) (c1_0 : Nat) (l1_0 : List (S89)) (A1_1 : Option Addr) (c1_1 : Nat) (l1_1 : List (List (List Int))) (a1_2 : Int) (w : World) (hr0_0 : Kd.C (Kd.int .i64) w A0_0 l0_0.length l0_0) (hc0_0 : l0_0.length ≤ c0_0) (hr1_0 : Kd.C k89 w A1_0 l1_0.length l1_0) (hc1_0 : l1_0.length ≤ c1_0) (hr1_1 : Kd.C (Kd.slice 33 (Kd.slice 3 (Kd.int .i64))) w A1_1 l1_1.length l1_1) (hc1_1 : l1_1.length ≤ c1_1) (h : laws_FnExactIsCache.f k l0_0 l1_0 l1_1 a1_2 = some true) :
  Calls Try.prog 13 #[.agg #[.slice A0_0 l0_0.length c0_0], .agg #[.slice A1_0 l1_0.length c1_0, .slice A1_1 l1_1.length c1_1, .int .i64 a1_2]] w fun e w' => e = .returned (.bool true) ∧ Below w.heap.size w w' := by
 have hu35 := Try.underlying35
 have hu52 := Try.underlying52
 have hu41 := Try.underlying41
 have hu57 := Try.underlying57
 have HR0_0 := Aside0.mk hr0_0
 have HC0_0 := Aside0.mk hc0_0
 clear hr0_0 hc0_0
 have HR1_0 := Aside0.mk hr1_0
 have HC1_0 := Aside0.mk hc1_0
 clear hr1_0 hc1_0
 have HR1_1 := Aside0.mk hr1_1
 have HC1_1 := Aside0.mk hc1_1
 clear hr1_1 hc1_1
 have HB := Aside0.mk (Below.refl w.heap.size w)
 have H : ((laws_szSchema.f l0_0 1048576).bind fun t1355 => (if t1355 < 0 then (some true) else ((laws_szCache.f k l1_0 l1_1 a1_2 t1355).bind fun t1356 => (if t1356 < 0 then (some true) else ((laws_toSchema.f k l0_0).bind fun t1357 => ((laws_toCache.f k l1_0 l1_1 a1_2).bind fun bt1360 => ((spec_IsCache.f k t1357 bt1360.1 bt1360.2.1 bt1360.2.2).bind fun t1367 => ((laws_toSchema.f k l0_0).bind fun t1368 => ((laws_toCache.f k l1_0 l1_1 a1_2).bind fun bt1372 => ((impl_IsCache.f k t1368 bt1372.1 bt1372.2.1 bt1372.2.2).bind fun t1380 => (if (t1380 != t1367) = true then (some false) else ((laws_toSchema.f k l0_0).bind fun t1381 => ((laws_eqSchema.f k t1368 t1381).bind fun t1384 => (if t1384 = true then ((laws_toCache.f k l1_0 l1_1 a1_2).bind fun bt1385 => ((laws_eqCache.f k bt1372.1 bt1372.2.1 bt1372.2.2 bt1385.1 bt1385.2.1 bt1385.2.2).bind fun t1392 => (if t1392 = true then (some true) else (some false)))) else (some false))))))))))))))) = some true := h
 clear h
 replace H := Option.bind_eq_some_iff.mp H
 obtain ⟨t1355, A30, H⟩ := H
 replace H : (if t1355 < 0 then (some true) else ((laws_szCache.f k l1_0 l1_1 a1_2 t1355).bind fun t1356 => (if t1356 < 0 then (some true) else ((laws_toSchema.f k l0_0).bind fun t1357 => ((laws_toCache.f k l1_0 l1_1 a1_2).bind fun bt1360 => ((spec_IsCache.f k t1357 bt1360.1 bt1360.2.1 bt1360.2.2).bind fun t1367 => ((laws_toSchema.f k l0_0).bind fun t1368 => ((laws_toCache.f k l1_0 l1_1 a1_2).bind fun bt1372 => ((impl_IsCache.f k t1368 bt1372.1 bt1372.2.1 bt1372.2.2).bind fun t1380 => (if (t1380 != t1367) = true then (some false) else ((laws_toSchema.f k l0_0).bind fun t1381 => ((laws_eqSchema.f k t1368 t1381).bind fun t1384 => (if t1384 = true then ((laws_toCache.f k l1_0 l1_1 a1_2).bind fun bt1385 => ((laws_eqCache.f k bt1372.1 bt1372.2.1 bt1372.2.2 bt1385.1 bt1385.2.1 bt1385.2.2).bind fun t1392 => (if t1392 = true then (some true) else (some false)))) else (some false)))))))))))))) = some true := H
 have A3 := Aside0.mk A30
 clear A30
 by_cases c4 : t1355 < 0
 ·rw [if_pos c4] at H
  have c4b0 : decide (t1355 < 0) = true := decide_eq_true c4
  clear c4
  clear H
  go_enter Try.func13, Try.ntmps13
  go_wp2_with (first | ((with_reducible refine gate_dst (N := 2) rfl ?_); refine box_event ?hg (N := 2) ?hd (cs := #[.slice A0_0 l0_0.length c0_0]) (t := 35) ?hr ?_; (case hd => rfl); (case hg => rfl); (case hr => first | (go_simp; done) | (go_simp; rfl)); intro gb1353 hg w5 hbox hb; have n0_ := Aside0.mk (below_step (by repeat (first | (with_reducible first | exact HB.out | apply below_alloc | apply pw_below_drewN | apply below_drew1) | exact HB.out)) hb); have n1_ := Aside0.mk (hbox); have n2_ := Aside0.mk ((by rw [hg]; exact (below_size (by repeat (first | (with_reducible first | exact HB.out | apply below_alloc | apply pw_below_drewN | apply below_drew1) | exact HB.out))) : w.heap.size ≤ gb1353)); have n3_ := Aside0.mk ((by rw [hg]; exact (below_size (by repeat (first | (with_reducible first | exact HB.out | apply below_alloc | apply pw_below_drewN | apply below_drew1) | exact HB.out))) : w.heap.size ≤ gb1353)); clear HB; have HB := n0_; have BK1353 := n1_; have GW1353 := n2_; have GE1353 := n3_; clear n0_ n1_ n2_ n3_; clear hb hbox hg) | ((with_reducible refine gate_dst (N := 3) rfl ?_); refine box_event ?hg (N := 3) ?hd (cs := #[.slice A1_0 l1_0.length c1_0, .slice A1_1 l1_1.length c1_1, .int .i64 a1_2]) (t := 52) ?hr ?_; (case hd => rfl); (case hg => rfl); (case hr => first | (go_simp; done) | (go_simp; rfl)); intro gb1354 hg w6 hbox hb; have n0_ := Aside0.mk (blk_below (g := gb1353) (o := .cells #[.slice A0_0 l0_0.length c0_0] 35 (0, 0)) (by (with_reducible repeat (first | refine blk_drewN ?_ _ | refine blk_drew ?_ | refine blk_alloc ?_ _)); exact BK1353.out) hb); have n1_ := Aside0.mk (below_step (by repeat (first | (with_reducible first | exact HB.out | apply below_alloc | apply pw_below_drewN | apply below_drew1 | refine below_set ?_ GE1353.out) | exact HB.out)) hb); have n2_ := Aside0.mk (hbox); have n3_ := Aside0.mk ((by rw [hg]; exact (below_size (by repeat (first | (with_reducible first | exact HB.out | apply below_alloc | apply pw_below_drewN | apply below_drew1 | refine below_set ?_ GE1353.out) | exact HB.out))) : w.heap.size ≤ gb1354)); have n4_ := Aside0.mk ((by rw [hg]; exact (below_size (by repeat (first | (with_reducible first | exact HB.out | apply below_alloc | apply pw_below_drewN | apply below_drew1 | refine below_set ?_ GE1353.out) | exact HB.out))) : w.heap.size ≤ gb1354)); have n5_ := Aside0.mk ((by rw [hg]; exact Nat.ne_of_lt (blk_lt (g := gb1353) (o := .cells #[.slice A0_0 l0_0.length c0_0] 35 (0, 0)) (by (with_reducible repeat (first | refine blk_drewN ?_ _ | refine blk_drew ?_ | refine blk_alloc ?_ _)); exact BK1353.out)) : gb1353 ≠ gb1354)); have n6_ := Aside0.mk ((by rw [hg]; exact Nat.ne_of_gt (blk_lt (g := gb1353) (o := .cells #[.slice A0_0 l0_0.length c0_0] 35 (0, 0)) (by (with_reducible repeat (first | refine blk_drewN ?_ _ | refine blk_drew ?_ | refine blk_alloc ?_ _)); exact BK1353.out)) : gb1354 ≠ gb1353)); clear BK1353; clear HB; have BK1353 := n0_; have HB := n1_; have BK1354 := n2_; have GW1354 := n3_; have GE1354 := n4_; have NB1353_1354 := n5_; have NB1354_1353 := n6_; clear n0_ n1_ n2_ n3_ n4_ n5_ n6_; clear hb hbox hg; have hnb7 := NB1353_1354.out; have hnc7 := NB1354_1353.out; have hcz8_0 : w6.cell? ⟨gb1353, 0, none⟩ = some (.slice A0_0 l0_0.length c0_0) := (blk_cell BK1353.out 0).trans rfl; have hfz8_0 := blk_frozen BK1353.out 0) | ((with_reducible refine gate_callee (f := 24) rfl ?_); refine goesL_ (some 12) rfl rfl Try.func24 (by kernel_rfl) rfl #[.agg #[.slice A0_0 l0_0.length c0_0], .int .i64 1048576] rfl (by (try simp only [List.map_toArray, List.map_cons, List.map_nil]); first | done | rfl | (simp only [List.length_drop, List.length_take]; rfl)) ?_; (with_reducible refine (laws_szSchema.calls _ _ l0_0 1048576 t1355 _ ?side1 ?side2 A3.out).mono ?_); (case side1 => repeat (first | exact (Kd.C_below HR0_0.out HB.out) | (with_reducible refine Kd.C_alloc ?_ _) | (with_reducible refine Kd.C_drewN ?_ _) | (with_reducible refine Kd.C_drew ?_))); (case side2 => exact HC0_0.out); rintro e w9 ⟨rfl, hb⟩; refine ⟨_, rfl, ?_⟩; have n0_ := Aside0.mk (blk_below (g := gb1353) (o := .cells #[.slice A0_0 l0_0.length c0_0] 35 (0, 0)) (by (with_reducible repeat (first | refine blk_drewN ?_ _ | refine blk_drew ?_ | refine blk_alloc ?_ _)); exact BK1353.out) hb); have n1_ := Aside0.mk (blk_below (g := gb1354) (o := .cells #[.slice A1_0 l1_0.length c1_0, .slice A1_1 l1_1.length c1_1, .int .i64 a1_2] 52 (0, 0)) (by (with_reducible repeat (first | refine blk_drewN ?_ _ | refine blk_drew ?_ | refine blk_alloc ?_ _)); exact BK1354.out) hb); have n2_ := Aside0.mk (below_step (by repeat (first | (with_reducible first | exact HB.out | apply below_alloc | apply pw_below_drewN | apply below_drew1 | refine below_set ?_ GE1353.out | refine below_set ?_ GE1354.out) | exact HB.out)) hb); clear BK1353; clear BK1354; clear HB; have BK1353 := n0_; have BK1354 := n1_; have HB := n2_; clear n0_ n1_ n2_; (try clear hb); (try clear hb2); (try clear hk); (try clear hi)))
  go_ret
  exact ⟨by first | rfl | (simp [errW_none, errW_some] <;> rfl) | (simp [*, errW_none, errW_some] <;> rfl), by repeat (first | (with_reducible first | exact HB.out | apply below_alloc | apply pw_below_drewN | apply below_drew1 | refine below_set ?_ GE1353.out | refine below_set ?_ GE1354.out) | exact HB.out)⟩
 ·rw [if_neg c4] at H
  have c4b0 : decide (t1355 < 0) = false := decide_eq_false c4
  clear c4
  replace H := Option.bind_eq_some_iff.mp H
  obtain ⟨t1356, A100, H⟩ := H
  replace H : (if t1356 < 0 then (some true) else ((laws_toSchema.f k l0_0).bind fun t1357 => ((laws_toCache.f k l1_0 l1_1 a1_2).bind fun bt1360 => ((spec_IsCache.f k t1357 bt1360.1 bt1360.2.1 bt1360.2.2).bind fun t1367 => ((laws_toSchema.f k l0_0).bind fun t1368 => ((laws_toCache.f k l1_0 l1_1 a1_2).bind fun bt1372 => ((impl_IsCache.f k t1368 bt1372.1 bt1372.2.1 bt1372.2.2).bind fun t1380 => (if (t1380 != t1367) = true then (some false) else ((laws_toSchema.f k l0_0).bind fun t1381 => ((laws_eqSchema.f k t1368 t1381).bind fun t1384 => (if t1384 = true then ((laws_toCache.f k l1_0 l1_1 a1_2).bind fun bt1385 => ((laws_eqCache.f k bt1372.1 bt1372.2.1 bt1372.2.2 bt1385.1 bt1385.2.1 bt1385.2.2).bind fun t1392 => (if t1392 = true then (some true) else (some false)))) else (some false)))))))))))) = some true := H
  have A10 := Aside0.mk A100
  clear A100
  by_cases c11 : t1356 < 0
  ·rw [if_pos c11] at H
   have c11b0 : decide (t1356 < 0) = true := decide_eq_true c11
   clear c11
   clear H
   go_enter Try.func13, Try.ntmps13
   go_wp2_with (first | ((with_reducible refine gate_dst (N := 2) rfl ?_); refine box_event ?hg (N := 2) ?hd (cs := #[.slice A0_0 l0_0.length c0_0]) (t := 35) ?hr ?_; (case hd => rfl); (case hg => rfl); (case hr => first | (go_simp; done) | (go_simp; rfl)); intro gb1353 hg w12 hbox hb; have n0_ := Aside0.mk (below_step (by repeat (first | (with_reducible first | exact HB.out | apply below_alloc | apply pw_below_drewN | apply below_drew1) | exact HB.out)) hb); have n1_ := Aside0.mk (hbox); have n2_ := Aside0.mk ((by rw [hg]; exact (below_size (by repeat (first | (with_reducible first | exact HB.out | apply below_alloc | apply pw_below_drewN | apply below_drew1) | exact HB.out))) : w.heap.size ≤ gb1353)); have n3_ := Aside0.mk ((by rw [hg]; exact (below_size (by repeat (first | (with_reducible first | exact HB.out | apply below_alloc | apply pw_below_drewN | apply below_drew1) | exact HB.out))) : w.heap.size ≤ gb1353)); clear HB; have HB := n0_; have BK1353 := n1_; have GW1353 := n2_; have GE1353 := n3_; clear n0_ n1_ n2_ n3_; clear hb hbox hg) | ((with_reducible refine gate_dst (N := 3) rfl ?_); refine box_event ?hg (N := 3) ?hd (cs := #[.slice A1_0 l1_0.length c1_0, .slice A1_1 l1_1.length c1_1, .int .i64 a1_2]) (t := 52) ?hr ?_; (case hd => rfl); (case hg => rfl); (case hr => first | (go_simp; done) | (go_simp; rfl)); intro gb1354 hg w13 hbox hb; have n0_ := Aside0.mk (blk_below (g := gb1353) (o := .cells #[.slice A0_0 l0_0.length c0_0] 35 (0, 0)) (by (with_reducible repeat (first | refine blk_drewN ?_ _ | refine blk_drew ?_ | refine blk_alloc ?_ _)); exact BK1353.out) hb); have n1_ := Aside0.mk (below_step (by repeat (first | (with_reducible first | exact HB.out | apply below_alloc | apply pw_below_drewN | apply below_drew1 | refine below_set ?_ GE1353.out) | exact HB.out)) hb); have n2_ := Aside0.mk (hbox); have n3_ := Aside0.mk ((by rw [hg]; exact (below_size (by repeat (first | (with_reducible first | exact HB.out | apply below_alloc | apply pw_below_drewN | apply below_drew1 | refine below_set ?_ GE1353.out) | exact HB.out))) : w.heap.size ≤ gb1354)); have n4_ := Aside0.mk ((by rw [hg]; exact (below_size (by repeat (first | (with_reducible first | exact HB.out | apply below_alloc | apply pw_below_drewN | apply below_drew1 | refine below_set ?_ GE1353.out) | exact HB.out))) : w.heap.size ≤ gb1354)); have n5_ := Aside0.mk ((by rw [hg]; exact Nat.ne_of_lt (blk_lt (g := gb1353) (o := .cells #[.slice A0_0 l0_0.length c0_0] 35 (0, 0)) (by (with_reducible repeat (first | refine blk_drewN ?_ _ | refine blk_drew ?_ | refine blk_alloc ?_ _)); exact BK1353.out)) : gb1353 ≠ gb1354)); have n6_ := Aside0.mk ((by rw [hg]; exact Nat.ne_of_gt (blk_lt (g := gb1353) (o := .cells #[.slice A0_0 l0_0.length c0_0] 35 (0, 0)) (by (with_reducible repeat (first | refine blk_drewN ?_ _ | refine blk_drew ?_ | refine blk_alloc ?_ _)); exact BK1353.out)) : gb1354 ≠ gb1353)); clear BK1353; clear HB; have BK1353 := n0_; have HB := n1_; have BK1354 := n2_; have GW1354 := n3_; have GE1354 := n4_; have NB1353_1354 := n5_; have NB1354_1353 := n6_; clear n0_ n1_ n2_ n3_ n4_ n5_ n6_; clear hb hbox hg; have hnb14 := NB1353_1354.out; have hnc14 := NB1354_1353.out; have hcz15_0 : w13.cell? ⟨gb1353, 0, none⟩ = some (.slice A0_0 l0_0.length c0_0) := (blk_cell BK1353.out 0).trans rfl; have hfz15_0 := blk_frozen BK1353.out 0) | ((with_reducible refine gate_callee (f := 24) rfl ?_); refine goesL_ (some 12) rfl rfl Try.func24 (by kernel_rfl) rfl #[.agg #[.slice A0_0 l0_0.length c0_0], .int .i64 1048576] rfl (by (try simp only [List.map_toArray, List.map_cons, List.map_nil]); first | done | rfl | (simp only [List.length_drop, List.length_take]; rfl)) ?_; (with_reducible refine (laws_szSchema.calls _ _ l0_0 1048576 t1355 _ ?side1 ?side2 A3.out).mono ?_); (case side1 => repeat (first | exact (Kd.C_below HR0_0.out HB.out) | (with_reducible refine Kd.C_alloc ?_ _) | (with_reducible refine Kd.C_drewN ?_ _) | (with_reducible refine Kd.C_drew ?_))); (case side2 => exact HC0_0.out); rintro e w16 ⟨rfl, hb⟩; refine ⟨_, rfl, ?_⟩; have n0_ := Aside0.mk (blk_below (g := gb1353) (o := .cells #[.slice A0_0 l0_0.length c0_0] 35 (0, 0)) (by (with_reducible repeat (first | refine blk_drewN ?_ _ | refine blk_drew ?_ | refine blk_alloc ?_ _)); exact BK1353.out) hb); have n1_ := Aside0.mk (blk_below (g := gb1354) (o := .cells #[.slice A1_0 l1_0.length c1_0, .slice A1_1 l1_1.length c1_1, .int .i64 a1_2] 52 (0, 0)) (by (with_reducible repeat (first | refine blk_drewN ?_ _ | refine blk_drew ?_ | refine blk_alloc ?_ _)); exact BK1354.out) hb); have n2_ := Aside0.mk (below_step (by repeat (first | (with_reducible first | exact HB.out | apply below_alloc | apply pw_below_drewN | apply below_drew1 | refine below_set ?_ GE1353.out | refine below_set ?_ GE1354.out) | exact HB.out)) hb); clear BK1353; clear BK1354; clear HB; have BK1353 := n0_; have BK1354 := n1_; have HB := n2_; clear n0_ n1_ n2_; (try clear hb); (try clear hb2); (try clear hk); (try clear hi); have hcz17_0 : w16.cell? ⟨gb1354, 0, none⟩ = some (.slice A1_0 l1_0.length c1_0) := (blk_cell BK1354.out 0).trans rfl; have hcz17_1 : w16.cell? ⟨gb1354, 1, none⟩ = some (.slice A1_1 l1_1.length c1_1) := (blk_cell BK1354.out 1).trans rfl; have hcz17_2 : w16.cell? ⟨gb1354, 2, none⟩ = some (.int .i64 a1_2) := (blk_cell BK1354.out 2).trans rfl; have hfz17_0 := blk_frozen BK1354.out 0; have hfz17_1 := blk_frozen BK1354.out 1; have hfz17_2 := blk_frozen BK1354.out 2) | ((with_reducible refine gate_callee (f := 32) rfl ?_); refine goesL_ (some 17) rfl rfl Try.func32 (by kernel_rfl) rfl #[.agg #[.slice A1_0 l1_0.length c1_0, .slice A1_1 l1_1.length c1_1, .int .i64 a1_2], .int .i64 t1355] rfl (by (try simp only [List.map_toArray, List.map_cons, List.map_nil]); first | done | rfl | (simp only [List.length_drop, List.length_take]; rfl)) ?_; (with_reducible refine (laws_szCache.calls k _ _ l1_0 _ _ l1_1 a1_2 t1355 t1356 _ ?side1 ?side2 ?side3 ?side4 A10.out).mono ?_); (case side1 => repeat (first | exact (Kd.C_below HR1_0.out HB.out) | (with_reducible refine Kd.C_alloc ?_ _) | (with_reducible refine Kd.C_drewN ?_ _) | (with_reducible refine Kd.C_drew ?_))); (case side2 => exact HC1_0.out); (case side3 => repeat (first | exact (Kd.C_below HR1_1.out HB.out) | (with_reducible refine Kd.C_alloc ?_ _) | (with_reducible refine Kd.C_drewN ?_ _) | (with_reducible refine Kd.C_drew ?_))); (case side4 => exact HC1_1.out); rintro e w18 ⟨rfl, hb⟩; refine ⟨_, rfl, ?_⟩; have n0_ := Aside0.mk (blk_below (g := gb1353) (o := .cells #[.slice A0_0 l0_0.length c0_0] 35 (0, 0)) (by (with_reducible repeat (first | refine blk_drewN ?_ _ | refine blk_drew ?_ | refine blk_alloc ?_ _)); exact BK1353.out) hb); have n1_ := Aside0.mk (blk_below (g := gb1354) (o := .cells #[.slice A1_0 l1_0.length c1_0, .slice A1_1 l1_1.length c1_1, .int .i64 a1_2] 52 (0, 0)) (by (with_reducible repeat (first | refine blk_drewN ?_ _ | refine blk_drew ?_ | refine blk_alloc ?_ _)); exact BK1354.out) hb); have n2_ := Aside0.mk (below_step (by repeat (first | (with_reducible first | exact HB.out | apply below_alloc | apply pw_below_drewN | apply below_drew1 | refine below_set ?_ GE1353.out | refine below_set ?_ GE1354.out) | exact HB.out)) hb); clear BK1353; clear BK1354; clear HB; have BK1353 := n0_; have BK1354 := n1_; have HB := n2_; clear n0_ n1_ n2_; (try clear hb); (try clear hb2); (try clear hk); (try clear hi)))
   go_ret
   exact ⟨by first | rfl | (simp [errW_none, errW_some] <;> rfl) | (simp [*, errW_none, errW_some] <;> rfl), by repeat (first | (with_reducible first | exact HB.out | apply below_alloc | apply pw_below_drewN | apply below_drew1 | refine below_set ?_ GE1353.out | refine below_set ?_ GE1354.out) | exact HB.out)⟩
  ·rw [if_neg c11] at H
   have c11b0 : decide (t1356 < 0) = false := decide_eq_false c11
   clear c11
   replace H := Option.bind_eq_some_iff.mp H
   obtain ⟨t1357, A190, H⟩ := H
   replace H : ((laws_toCache.f k l1_0 l1_1 a1_2).bind fun bt1360 => ((spec_IsCache.f k t1357 bt1360.1 bt1360.2.1 bt1360.2.2).bind fun t1367 => ((laws_toSchema.f k l0_0).bind fun t1368 => ((laws_toCache.f k l1_0 l1_1 a1_2).bind fun bt1372 => ((impl_IsCache.f k t1368 bt1372.1 bt1372.2.1 bt1372.2.2).bind fun t1380 => (if (t1380 != t1367) = true then (some false) else ((laws_toSchema.f k l0_0).bind fun t1381 => ((laws_eqSchema.f k t1368 t1381).bind fun t1384 => (if t1384 = true then ((laws_toCache.f k l1_0 l1_1 a1_2).bind fun bt1385 => ((laws_eqCache.f k bt1372.1 bt1372.2.1 bt1372.2.2 bt1385.1 bt1385.2.1 bt1385.2.2).bind fun t1392 => (if t1392 = true then (some true) else (some false)))) else (some false)))))))))) = some true := H
   have A19 := Aside0.mk A190
   clear A190
   replace H := Option.bind_eq_some_iff.mp H
   obtain ⟨⟨t1360, t1363, t1366⟩, A200, H⟩ := H
   replace H : ((spec_IsCache.f k t1357 t1360 t1363 t1366).bind fun t1367 => ((laws_toSchema.f k l0_0).bind fun t1368 => ((laws_toCache.f k l1_0 l1_1 a1_2).bind fun bt1372 => ((impl_IsCache.f k t1368 bt1372.1 bt1372.2.1 bt1372.2.2).bind fun t1380 => (if (t1380 != t1367) = true then (some false) else ((laws_toSchema.f k l0_0).bind fun t1381 => ((laws_eqSchema.f k t1368 t1381).bind fun t1384 => (if t1384 = true then ((laws_toCache.f k l1_0 l1_1 a1_2).bind fun bt1385 => ((laws_eqCache.f k bt1372.1 bt1372.2.1 bt1372.2.2 bt1385.1 bt1385.2.1 bt1385.2.2).bind fun t1392 => (if t1392 = true then (some true) else (some false)))) else (some false))))))))) = some true := H
   have A20 := Aside0.mk A200
   clear A200
   replace H := Option.bind_eq_some_iff.mp H
   obtain ⟨t1367, A210, H⟩ := H
   replace H : ((laws_toSchema.f k l0_0).bind fun t1368 => ((laws_toCache.f k l1_0 l1_1 a1_2).bind fun bt1372 => ((impl_IsCache.f k t1368 bt1372.1 bt1372.2.1 bt1372.2.2).bind fun t1380 => (if (t1380 != t1367) = true then (some false) else ((laws_toSchema.f k l0_0).bind fun t1381 => ((laws_eqSchema.f k t1368 t1381).bind fun t1384 => (if t1384 = true then ((laws_toCache.f k l1_0 l1_1 a1_2).bind fun bt1385 => ((laws_eqCache.f k bt1372.1 bt1372.2.1 bt1372.2.2 bt1385.1 bt1385.2.1 bt1385.2.2).bind fun t1392 => (if t1392 = true then (some true) else (some false)))) else (some false)))))))) = some true := H
   have A21 := Aside0.mk A210
   clear A210
   replace H := Option.bind_eq_some_iff.mp H
   obtain ⟨t1368, A220, H⟩ := H
   replace H : ((laws_toCache.f k l1_0 l1_1 a1_2).bind fun bt1372 => ((impl_IsCache.f k t1368 bt1372.1 bt1372.2.1 bt1372.2.2).bind fun t1380 => (if (t1380 != t1367) = true then (some false) else ((laws_toSchema.f k l0_0).bind fun t1381 => ((laws_eqSchema.f k t1368 t1381).bind fun t1384 => (if t1384 = true then ((laws_toCache.f k l1_0 l1_1 a1_2).bind fun bt1385 => ((laws_eqCache.f k bt1372.1 bt1372.2.1 bt1372.2.2 bt1385.1 bt1385.2.1 bt1385.2.2).bind fun t1392 => (if t1392 = true then (some true) else (some false)))) else (some false))))))) = some true := H
   have A22 := Aside0.mk A220
   clear A220
   replace H := Option.bind_eq_some_iff.mp H
   obtain ⟨⟨t1372, t1375, t1378⟩, A230, H⟩ := H
   replace H : ((impl_IsCache.f k t1368 t1372 t1375 t1378).bind fun t1380 => (if (t1380 != t1367) = true then (some false) else ((laws_toSchema.f k l0_0).bind fun t1381 => ((laws_eqSchema.f k t1368 t1381).bind fun t1384 => (if t1384 = true then ((laws_toCache.f k l1_0 l1_1 a1_2).bind fun bt1385 => ((laws_eqCache.f k t1372 t1375 t1378 bt1385.1 bt1385.2.1 bt1385.2.2).bind fun t1392 => (if t1392 = true then (some true) else (some false)))) else (some false)))))) = some true := H
   have A23 := Aside0.mk A230
   clear A230
   replace H := Option.bind_eq_some_iff.mp H
   obtain ⟨t1380, A240, H⟩ := H
   replace H : (if (t1380 != t1367) = true then (some false) else ((laws_toSchema.f k l0_0).bind fun t1381 => ((laws_eqSchema.f k t1368 t1381).bind fun t1384 => (if t1384 = true then ((laws_toCache.f k l1_0 l1_1 a1_2).bind fun bt1385 => ((laws_eqCache.f k t1372 t1375 t1378 bt1385.1 bt1385.2.1 bt1385.2.2).bind fun t1392 => (if t1392 = true then (some true) else (some false)))) else (some false))))) = some true := H
   have A24 := Aside0.mk A240
   clear A240
   by_cases c25 : (t1380 != t1367) = true
   ·rw [if_pos c25] at H
    have c25b0 : (t1380 != t1367) = true := c25
    (try (have c25b1 : decide (t1380 = t1367) = false := by simpa using c25))
    (try (have c25b2 : (t1380 == t1367) = false := by simpa using c25))
    (try (have c25b3 : ¬ (t1380 = t1367) := by simpa using c25))
    clear c25
    exact absurd (Option.some.inj H) (by decide)
   ·rw [if_neg c25] at H
    have c25b0 : (t1380 != t1367) = false := by simpa using c25
    (try (have c25b1 : decide (t1380 = t1367) = true := by simpa using c25))
    (try (have c25b2 : (t1380 == t1367) = true := by simpa using c25))
    clear c25
    replace H := Option.bind_eq_some_iff.mp H
    obtain ⟨t1381, A580, H⟩ := H
    replace H : ((laws_eqSchema.f k t1368 t1381).bind fun t1384 => (if t1384 = true then ((laws_toCache.f k l1_0 l1_1 a1_2).bind fun bt1385 => ((laws_eqCache.f k t1372 t1375 t1378 bt1385.1 bt1385.2.1 bt1385.2.2).bind fun t1392 => (if t1392 = true then (some true) else (some false)))) else (some false))) = some true := H
    have A58 := Aside0.mk A580
    clear A580
    replace H := Option.bind_eq_some_iff.mp H
    obtain ⟨t1384, A590, H⟩ := H
    replace H : (if t1384 = true then ((laws_toCache.f k l1_0 l1_1 a1_2).bind fun bt1385 => ((laws_eqCache.f k t1372 t1375 t1378 bt1385.1 bt1385.2.1 bt1385.2.2).bind fun t1392 => (if t1392 = true then (some true) else (some false)))) else (some false)) = some true := H
    have A59 := Aside0.mk A590
    clear A590
    by_cases c60 : t1384 = true
    ·subst c60
     have H1 : ((laws_toCache.f k l1_0 l1_1 a1_2).bind fun bt1385 => ((laws_eqCache.f k t1372 t1375 t1378 bt1385.1 bt1385.2.1 bt1385.2.2).bind fun t1392 => (if t1392 = true then (some true) else (some false)))) = some true := by rw [if_pos rfl] at H; exact H
     clear H
     have H := H1
     clear H1
     replace H := Option.bind_eq_some_iff.mp H
     obtain ⟨⟨t1385, t1388, t1391⟩, A610, H⟩ := H
     replace H : ((laws_eqCache.f k t1372 t1375 t1378 t1385 t1388 t1391).bind fun t1392 => (if t1392 = true then (some true) else (some false))) = some true := H
     have A61 := Aside0.mk A610
     clear A610
     replace H := Option.bind_eq_some_iff.mp H
     obtain ⟨t1392, A620, H⟩ := H
     replace H : (if t1392 = true then (some true) else (some false)) = some true := H
     have A62 := Aside0.mk A620
     clear A620
     by_cases c63 : t1392 = true
     ·subst c63
      have H1 : (some true) = some true := rfl
      clear H
      have H := H1
      clear H1
      clear H
      go_enter Try.func13, Try.ntmps13
      try go_wp2_with (first | ((with_reducible refine gate_dst (N := 2) rfl ?_); refine box_event ?hg (N := 2) ?hd (cs := #[.slice A0_0 l0_0.length c0_0]) (t := 35) ?hr ?_; (case hd => rfl); (case hg => rfl); (case hr => first | (go_simp; done) | (go_simp; rfl)); intro gb1353 hg w64 hbox hb; have n0_ := Aside0.mk (below_step (by repeat (first | (with_reducible first | exact HB.out | apply below_alloc | apply pw_below_drewN | apply below_drew1) | exact HB.out)) hb); have n1_ := Aside0.mk (hbox); have n2_ := Aside0.mk ((by rw [hg]; exact (below_size (by repeat (first | (with_reducible first | exact HB.out | apply below_alloc | apply pw_below_drewN | apply below_drew1) | exact HB.out))) : w.heap.size ≤ gb1353)); have n3_ := Aside0.mk ((by rw [hg]; exact (below_size (by repeat (first | (with_reducible first | exact HB.out | apply below_alloc | apply pw_below_drewN | apply below_drew1) | exact HB.out))) : w.heap.size ≤ gb1353)); clear HB; have HB := n0_; have BK1353 := n1_; have GW1353 := n2_; have GE1353 := n3_; clear n0_ n1_ n2_ n3_; clear hb hbox hg) | ((with_reducible refine gate_dst (N := 3) rfl ?_); refine box_event ?hg (N := 3) ?hd (cs := #[.slice A1_0 l1_0.length c1_0, .slice A1_1 l1_1.length c1_1, .int .i64 a1_2]) (t := 52) ?hr ?_; (case hd => rfl); (case hg => rfl); (case hr => first | (go_simp; done) | (go_simp; rfl)); intro gb1354 hg w65 hbox hb; have n0_ := Aside0.mk (blk_below (g := gb1353) (o := .cells #[.slice A0_0 l0_0.length c0_0] 35 (0, 0)) (by (with_reducible repeat (first | refine blk_drewN ?_ _ | refine blk_drew ?_ | refine blk_alloc ?_ _)); exact BK1353.out) hb); have n1_ := Aside0.mk (below_step (by repeat (first | (with_reducible first | exact HB.out | apply below_alloc | apply pw_below_drewN | apply below_drew1 | refine below_set ?_ GE1353.out) | exact HB.out)) hb); have n2_ := Aside0.mk (hbox); have n3_ := Aside0.mk ((by rw [hg]; exact (below_size (by repeat (first | (with_reducible first | exact HB.out | apply below_alloc | apply pw_below_drewN | apply below_drew1 | refine below_set ?_ GE1353.out) | exact HB.out))) : w.heap.size ≤ gb1354)); have n4_ := Aside0.mk ((by rw [hg]; exact (below_size (by repeat (first | (with_reducible first | exact HB.out | apply below_alloc | apply pw_below_drewN | apply below_drew1 | refine below_set ?_ GE1353.out) | exact HB.out))) : w.heap.size ≤ gb1354)); have n5_ := Aside0.mk ((by rw [hg]; exact Nat.ne_of_lt (blk_lt (g := gb1353) (o := .cells #[.slice A0_0 l0_0.length c0_0] 35 (0, 0)) (by (with_reducible repeat (first | refine blk_drewN ?_ _ | refine blk_drew ?_ | refine blk_alloc ?_ _)); exact BK1353.out)) : gb1353 ≠ gb1354)); have n6_ := Aside0.mk ((by rw [hg]; exact Nat.ne_of_gt (blk_lt (g := gb1353) (o := .cells #[.slice A0_0 l0_0.length c0_0] 35 (0, 0)) (by (with_reducible repeat (first | refine blk_drewN ?_ _ | refine blk_drew ?_ | refine blk_alloc ?_ _)); exact BK1353.out)) : gb1354 ≠ gb1353)); clear BK1353; clear HB; have BK1353 := n0_; have HB := n1_; have BK1354 := n2_; have GW1354 := n3_; have GE1354 := n4_; have NB1353_1354 := n5_; have NB1354_1353 := n6_; clear n0_ n1_ n2_ n3_ n4_ n5_ n6_; clear hb hbox hg; have hnb66 := NB1353_1354.out; have hnc66 := NB1354_1353.out; have hcz67_0 : w65.cell? ⟨gb1353, 0, none⟩ = some (.slice A0_0 l0_0.length c0_0) := (blk_cell BK1353.out 0).trans rfl; have hfz67_0 := blk_frozen BK1353.out 0) | ((with_reducible refine gate_callee (f := 24) rfl ?_); refine goesL_ (some 12) rfl rfl Try.func24 (by kernel_rfl) rfl #[.agg #[.slice A0_0 l0_0.length c0_0], .int .i64 1048576] rfl (by (try simp only [List.map_toArray, List.map_cons, List.map_nil]); first | done | rfl | (simp only [List.length_drop, List.length_take]; rfl)) ?_; (with_reducible refine (laws_szSchema.calls _ _ l0_0 1048576 t1355 _ ?side1 ?side2 A3.out).mono ?_); (case side1 => repeat (first | exact (Kd.C_below HR0_0.out HB.out) | (with_reducible refine Kd.C_alloc ?_ _) | (with_reducible refine Kd.C_drewN ?_ _) | (with_reducible refine Kd.C_drew ?_))); (case side2 => exact HC0_0.out); rintro e w68 ⟨rfl, hb⟩; refine ⟨_, rfl, ?_⟩; have n0_ := Aside0.mk (blk_below (g := gb1353) (o := .cells #[.slice A0_0 l0_0.length c0_0] 35 (0, 0)) (by (with_reducible repeat (first | refine blk_drewN ?_ _ | refine blk_drew ?_ | refine blk_alloc ?_ _)); exact BK1353.out) hb); have n1_ := Aside0.mk (blk_below (g := gb1354) (o := .cells #[.slice A1_0 l1_0.length c1_0, .slice A1_1 l1_1.length c1_1, .int .i64 a1_2] 52 (0, 0)) (by (with_reducible repeat (first | refine blk_drewN ?_ _ | refine blk_drew ?_ | refine blk_alloc ?_ _)); exact BK1354.out) hb); have n2_ := Aside0.mk (below_step (by repeat (first | (with_reducible first | exact HB.out | apply below_alloc | apply pw_below_drewN | apply below_drew1 | refine below_set ?_ GE1353.out | refine below_set ?_ GE1354.out) | exact HB.out)) hb); clear BK1353; clear BK1354; clear HB; have BK1353 := n0_; have BK1354 := n1_; have HB := n2_; clear n0_ n1_ n2_; (try clear hb); (try clear hb2); (try clear hk); (try clear hi); have hcz69_0 : w68.cell? ⟨gb1354, 0, none⟩ = some (.slice A1_0 l1_0.length c1_0) := (blk_cell BK1354.out 0).trans rfl; have hcz69_1 : w68.cell? ⟨gb1354, 1, none⟩ = some (.slice A1_1 l1_1.length c1_1) := (blk_cell BK1354.out 1).trans rfl; have hcz69_2 : w68.cell? ⟨gb1354, 2, none⟩ = some (.int .i64 a1_2) := (blk_cell BK1354.out 2).trans rfl; have hfz69_0 := blk_frozen BK1354.out 0; have hfz69_1 := blk_frozen BK1354.out 1; have hfz69_2 := blk_frozen BK1354.out 2) | ((with_reducible refine gate_callee (f := 32) rfl ?_); refine goesL_ (some 17) rfl rfl Try.func32 (by kernel_rfl) rfl #[.agg #[.slice A1_0 l1_0.length c1_0, .slice A1_1 l1_1.length c1_1, .int .i64 a1_2], .int .i64 t1355] rfl (by (try simp only [List.map_toArray, List.map_cons, List.map_nil]); first | done | rfl | (simp only [List.length_drop, List.length_take]; rfl)) ?_; (with_reducible refine (laws_szCache.calls k _ _ l1_0 _ _ l1_1 a1_2 t1355 t1356 _ ?side1 ?side2 ?side3 ?side4 A10.out).mono ?_); (case side1 => repeat (first | exact (Kd.C_below HR1_0.out HB.out) | (with_reducible refine Kd.C_alloc ?_ _) | (with_reducible refine Kd.C_drewN ?_ _) | (with_reducible refine Kd.C_drew ?_))); (case side2 => exact HC1_0.out); (case side3 => repeat (first | exact (Kd.C_below HR1_1.out HB.out) | (with_reducible refine Kd.C_alloc ?_ _) | (with_reducible refine Kd.C_drewN ?_ _) | (with_reducible refine Kd.C_drew ?_))); (case side4 => exact HC1_1.out); rintro e w70 ⟨rfl, hb⟩; refine ⟨_, rfl, ?_⟩; have n0_ := Aside0.mk (blk_below (g := gb1353) (o := .cells #[.slice A0_0 l0_0.length c0_0] 35 (0, 0)) (by (with_reducible repeat (first | refine blk_drewN ?_ _ | refine blk_drew ?_ | refine blk_alloc ?_ _)); exact BK1353.out) hb); have n1_ := Aside0.mk (blk_below (g := gb1354) (o := .cells #[.slice A1_0 l1_0.length c1_0, .slice A1_1 l1_1.length c1_1, .int .i64 a1_2] 52 (0, 0)) (by (with_reducible repeat (first | refine blk_drewN ?_ _ | refine blk_drew ?_ | refine blk_alloc ?_ _)); exact BK1354.out) hb); have n2_ := Aside0.mk (below_step (by repeat (first | (with_reducible first | exact HB.out | apply below_alloc | apply pw_below_drewN | apply below_drew1 | refine below_set ?_ GE1353.out | refine below_set ?_ GE1354.out) | exact HB.out)) hb); clear BK1353; clear BK1354; clear HB; have BK1353 := n0_; have BK1354 := n1_; have HB := n2_; clear n0_ n1_ n2_; (try clear hb); (try clear hb2); (try clear hk); (try clear hi)))
      have n0_ := Aside0.mk (blk_drew BK1353.out)
      have n1_ := Aside0.mk (blk_drew BK1354.out)
      have n2_ := Aside0.mk (below_drew1 HB.out)
      clear BK1353
      clear BK1354
      clear HB
      have BK1353 := n0_
      have BK1354 := n1_
      have HB := n2_
      clear n0_ n1_ n2_
      refine start_ (n := 6) (S := fun w' => w'.cell? ⟨gb1353, 0, none⟩ = some (.slice A0_0 l0_0.length c0_0) ∧ w'.cell? ⟨gb1354, 0, none⟩ = some (.slice A1_0 l1_0.length c1_0) ∧ w'.cell? ⟨gb1354, 1, none⟩ = some (.slice A1_1 l1_1.length c1_1) ∧ w'.cell? ⟨gb1354, 2, none⟩ = some (.int .i64 a1_2)) (ds := []) #[false, false, false, false, false, false] (by kernel_rfl) rfl rfl ⟨(blk_cell BK1353.out 0).trans rfl, (blk_cell BK1354.out 0).trans rfl, (blk_cell BK1354.out 1).trans rfl, (blk_cell BK1354.out 2).trans rfl⟩ (fun hHeld => ?_)
      generalize w70.drew = w71 at BK1353 BK1354 HB hHeld ⊢
      refine take_ (i := 0) (N := some 20) (v := ?_) (a' := ?_) #[true, false, false, false, false, false] rfl rfl (by kernel_rfl) (fun _ _ _ h => h) (Or.inl ⟨by rfl, ?_⟩) hHeld ?_ ?_
      rotate_left
      ·rintro w' ⟨s0, s1, s2, s3⟩
       go_simp
       with_reducible rfl
      rotate_left
      ·simp only [Act.put, List.setIfInBounds_toArray, List.set_cons_zero, List.set_cons_succ, i64_w, i32_w]
       rfl
      refine take_ (i := 2) (N := some 22) (v := ?_) (a' := ?_) #[true, false, true, false, false, false] rfl rfl (by kernel_rfl) (fun _ _ _ h => h) (Or.inl ⟨by rfl, ?_⟩) hHeld ?_ ?_
      rotate_left
      ·rintro w' ⟨s0, s1, s2, s3⟩
       go_simp
       with_reducible rfl
      rotate_left
      ·simp only [Act.put, List.setIfInBounds_toArray, List.set_cons_zero, List.set_cons_succ, i64_w, i32_w]
       rfl
      refine one_ (i := 1) (N := some 21) #[true, true, true, false, false, false] rfl rfl (by kernel_rfl) (by decide) (fun K hK => ?_)
      refine goes_ Try.func27 (by kernel_rfl) rfl #[.agg #[.slice A0_0 l0_0.length c0_0]] (by rfl) rfl rfl (by (try simp only [List.map_toArray, List.map_cons, List.map_nil]); first | done | rfl | (simp only [List.length_drop, List.length_take]; rfl)) ?_
      with_reducible refine (laws_toSchema.calls k _ _ l0_0 t1357 _ ?side1 ?side2 A19.out).mono ?_
      (case side1 => repeat (first | exact (Kd.C_below HR0_0.out HB.out) | (with_reducible refine Kd.C_alloc ?_ _) | (with_reducible refine Kd.C_drewN ?_ _) | (with_reducible refine Kd.C_drew ?_)))
      (case side2 => exact HC0_0.out)
      rintro e w72 ⟨v1358, rfl, ho0, hb⟩
      refine ⟨_, rfl, ?_⟩
      have n0_ := Aside0.mk (Kd.R_lower ho0 (below_size (by repeat (first | (with_reducible first | exact HB.out | apply below_alloc | apply pw_below_drewN | apply below_drew1 | refine below_set ?_ GE1353.out | refine below_set ?_ GE1354.out) | exact HB.out))))
      have n1_ := Aside0.mk (blk_below (g := gb1353) (o := .cells #[.slice A0_0 l0_0.length c0_0] 35 (0, 0)) (by (with_reducible repeat (first | refine blk_drewN ?_ _ | refine blk_drew ?_ | refine blk_alloc ?_ _)); exact BK1353.out) hb)
      have n2_ := Aside0.mk (blk_below (g := gb1354) (o := .cells #[.slice A1_0 l1_0.length c1_0, .slice A1_1 l1_1.length c1_1, .int .i64 a1_2] 52 (0, 0)) (by (with_reducible repeat (first | refine blk_drewN ?_ _ | refine blk_drew ?_ | refine blk_alloc ?_ _)); exact BK1354.out) hb)
      have n3_ := Aside0.mk (below_step (by repeat (first | (with_reducible first | exact HB.out | apply below_alloc | apply pw_below_drewN | apply below_drew1 | refine below_set ?_ GE1353.out | refine below_set ?_ GE1354.out) | exact HB.out)) hb)
      clear BK1353
      clear BK1354
      clear HB
      have HO1359 := n0_
      have BK1353 := n1_
      have BK1354 := n2_
      have HB := n3_
      clear n0_ n1_ n2_ n3_
      (try clear hb)
      (try clear hb2)
      (try clear hk)
      (try clear hi)
      (try clear ho0)
      refine hK.out _ _ ⟨(blk_cell BK1353.out 0).trans rfl, (blk_cell BK1354.out 0).trans rfl, (blk_cell BK1354.out 1).trans rfl, (blk_cell BK1354.out 2).trans rfl⟩ (fun hHeld => ?_)
      clear hK K
      refine norm_ (a' := ?_) ?_ ?_
      rotate_left
      ·show Act.put _ (some 21) _ = _
       simp only [Act.put, List.setIfInBounds_toArray, List.set_cons_zero, List.set_cons_succ, i64_w, i32_w]
       rfl
      refine one_ (i := 3) (N := some 23) #[true, true, true, true, false, false] rfl rfl (by kernel_rfl) (by decide) (fun K hK => ?_)
      refine goes_ Try.func34 (by kernel_rfl) rfl #[.agg #[.slice A1_0 l1_0.length c1_0, .slice A1_1 l1_1.length c1_1, .int .i64 a1_2]] (by rfl) rfl rfl (by (try simp only [List.map_toArray, List.map_cons, List.map_nil]); first | done | rfl | (simp only [List.length_drop, List.length_take]; rfl)) ?_
      with_reducible refine (laws_toCache.calls k _ _ l1_0 _ _ l1_1 a1_2 t1360 t1363 t1366 _ ?side1 ?side2 ?side3 ?side4 A20.out).mono ?_
      (case side1 => repeat (first | exact (Kd.C_below HR1_0.out HB.out) | (with_reducible refine Kd.C_alloc ?_ _) | (with_reducible refine Kd.C_drewN ?_ _) | (with_reducible refine Kd.C_drew ?_)))
      (case side2 => exact HC1_0.out)
      (case side3 => repeat (first | exact (Kd.C_below HR1_1.out HB.out) | (with_reducible refine Kd.C_alloc ?_ _) | (with_reducible refine Kd.C_drewN ?_ _) | (with_reducible refine Kd.C_drew ?_)))
      (case side4 => exact HC1_1.out)
      rintro e w73 ⟨v1361, v1364, rfl, ho0, ho1, hb⟩
      refine ⟨_, rfl, ?_⟩
      have n0_ := Aside0.mk (Kd.R_below (by (with_reducible repeat (first | apply Kd.R_alloc | apply Kd.R_drewN | apply Kd.R_drew)); exact HO1359.out) hb)
      have n1_ := Aside0.mk (Kd.R_lower (Kd.R_new' ho0 (Kd.R_lt (by (with_reducible repeat (first | apply Kd.R_alloc | apply Kd.R_drewN | apply Kd.R_drew)); exact HO1359.out))) (below_size (by repeat (first | (with_reducible first | exact HB.out | apply below_alloc | apply pw_below_drewN | apply below_drew1 | refine below_set ?_ GE1353.out | refine below_set ?_ GE1354.out) | exact HB.out))))
      have n2_ := Aside0.mk (Kd.R_lower (Kd.R_new' ho1 (Kd.R_lt (by (with_reducible repeat (first | apply Kd.R_alloc | apply Kd.R_drewN | apply Kd.R_drew)); exact HO1359.out))) (below_size (by repeat (first | (with_reducible first | exact HB.out | apply below_alloc | apply pw_below_drewN | apply below_drew1 | refine below_set ?_ GE1353.out | refine below_set ?_ GE1354.out) | exact HB.out))))
      have n3_ := Aside0.mk (blk_below (g := gb1353) (o := .cells #[.slice A0_0 l0_0.length c0_0] 35 (0, 0)) (by (with_reducible repeat (first | refine blk_drewN ?_ _ | refine blk_drew ?_ | refine blk_alloc ?_ _)); exact BK1353.out) hb)
      have n4_ := Aside0.mk (blk_below (g := gb1354) (o := .cells #[.slice A1_0 l1_0.length c1_0, .slice A1_1 l1_1.length c1_1, .int .i64 a1_2] 52 (0, 0)) (by (with_reducible repeat (first | refine blk_drewN ?_ _ | refine blk_drew ?_ | refine blk_alloc ?_ _)); exact BK1354.out) hb)
      have n5_ := Aside0.mk (below_step (by repeat (first | (with_reducible first | exact HB.out | apply below_alloc | apply pw_below_drewN | apply below_drew1 | refine below_set ?_ GE1353.out | refine below_set ?_ GE1354.out) | exact HB.out)) hb)
      clear HO1359
      clear BK1353
      clear BK1354
      clear HB
      have HO1359 := n0_
      have HO1362 := n1_
      have HO1365 := n2_
      have BK1353 := n3_
      have BK1354 := n4_
      have HB := n5_
      clear n0_ n1_ n2_ n3_ n4_ n5_
      (try clear hb)
      (try clear hb2)
      (try clear hk)
      (try clear hi)
      (try clear ho0)
      (try clear ho1)
      obtain ⟨Ao74, co74, eo74⟩ := Kd.R_slice HO1359.out
      (first | subst eo74 | (injection eo74 with f1_ f2_ f3_; have f4_ := f1_.symm; have f5_ := f3_.symm; clear f1_ f2_ f3_; subst f4_; subst f5_))
      obtain ⟨Ao75, co75, eo75⟩ := Kd.R_slice HO1362.out
      (first | subst eo75 | (injection eo75 with f1_ f2_ f3_; have f4_ := f1_.symm; have f5_ := f3_.symm; clear f1_ f2_ f3_; subst f4_; subst f5_))
      obtain ⟨Ao76, co76, eo76⟩ := Kd.R_slice HO1365.out
      (first | subst eo76 | (injection eo76 with f1_ f2_ f3_; have f4_ := f1_.symm; have f5_ := f3_.symm; clear f1_ f2_ f3_; subst f4_; subst f5_))
      refine hK.out _ _ ⟨(blk_cell BK1353.out 0).trans rfl, (blk_cell BK1354.out 0).trans rfl, (blk_cell BK1354.out 1).trans rfl, (blk_cell BK1354.out 2).trans rfl⟩ (fun hHeld => ?_)
      clear hK K
      refine norm_ (a' := ?_) ?_ ?_
      rotate_left
      ·show Act.put _ (some 23) _ = _
       simp only [Act.put, List.setIfInBounds_toArray, List.set_cons_zero, List.set_cons_succ, i64_w, i32_w]
       rfl
      refine one_ (i := 4) (N := some 24) #[true, true, true, true, true, false] rfl rfl (by kernel_rfl) (by decide) (fun K hK => ?_)
      refine goes_ Try.func80 (by kernel_rfl) rfl #[.agg #[.slice Ao74 t1357.length co74], .agg #[.slice Ao75 t1360.length co75, .slice Ao76 t1363.length co76, .int .i64 t1366]] (by rfl) rfl rfl (by (try simp only [List.map_toArray, List.map_cons, List.map_nil]); first | done | rfl | (simp only [List.length_drop, List.length_take]; rfl)) ?_
      with_reducible refine (spec_IsCache.calls k _ _ t1357 _ _ t1360 _ _ t1363 t1366 t1367 _ ?side1 ?side2 ?side3 ?side4 ?side5 ?side6 A21.out).mono ?_
      (case side1 => repeat (first | exact (Kd.R_reads' HO1359.out).2.2 | (with_reducible refine Kd.C_alloc ?_ _) | (with_reducible refine Kd.C_drewN ?_ _) | (with_reducible refine Kd.C_drew ?_)))
      (case side2 => exact (Kd.R_reads' HO1359.out).2.1)
      (case side3 => repeat (first | exact (Kd.R_reads' HO1362.out).2.2 | (with_reducible refine Kd.C_alloc ?_ _) | (with_reducible refine Kd.C_drewN ?_ _) | (with_reducible refine Kd.C_drew ?_)))
      (case side4 => exact (Kd.R_reads' HO1362.out).2.1)
      (case side5 => repeat (first | exact (Kd.R_reads' HO1365.out).2.2 | (with_reducible refine Kd.C_alloc ?_ _) | (with_reducible refine Kd.C_drewN ?_ _) | (with_reducible refine Kd.C_drew ?_)))
      (case side6 => exact (Kd.R_reads' HO1365.out).2.1)
      rintro e w77 ⟨rfl, hb⟩
      refine ⟨_, rfl, ?_⟩
      have n0_ := Aside0.mk (Kd.R_below (by (with_reducible repeat (first | apply Kd.R_alloc | apply Kd.R_drewN | apply Kd.R_drew)); exact HO1359.out) hb)
      have n1_ := Aside0.mk (Kd.R_below (by (with_reducible repeat (first | apply Kd.R_alloc | apply Kd.R_drewN | apply Kd.R_drew)); exact HO1362.out) hb)
      have n2_ := Aside0.mk (Kd.R_below (by (with_reducible repeat (first | apply Kd.R_alloc | apply Kd.R_drewN | apply Kd.R_drew)); exact HO1365.out) hb)
      have n3_ := Aside0.mk (blk_below (g := gb1353) (o := .cells #[.slice A0_0 l0_0.length c0_0] 35 (0, 0)) (by (with_reducible repeat (first | refine blk_drewN ?_ _ | refine blk_drew ?_ | refine blk_alloc ?_ _)); exact BK1353.out) hb)
      have n4_ := Aside0.mk (blk_below (g := gb1354) (o := .cells #[.slice A1_0 l1_0.length c1_0, .slice A1_1 l1_1.length c1_1, .int .i64 a1_2] 52 (0, 0)) (by (with_reducible repeat (first | refine blk_drewN ?_ _ | refine blk_drew ?_ | refine blk_alloc ?_ _)); exact BK1354.out) hb)
      have n5_ := Aside0.mk (below_step (by repeat (first | (with_reducible first | exact HB.out | apply below_alloc | apply pw_below_drewN | apply below_drew1 | refine below_set ?_ GE1353.out | refine below_set ?_ GE1354.out) | exact HB.out)) hb)
      clear HO1359
      clear HO1362
      clear HO1365
      clear BK1353
      clear BK1354
      clear HB
      have HO1359 := n0_
      have HO1362 := n1_
      have HO1365 := n2_
      have BK1353 := n3_
      have BK1354 := n4_
      have HB := n5_
      clear n0_ n1_ n2_ n3_ n4_ n5_
      (try clear hb)
      (try clear hb2)
      (try clear hk)
      (try clear hi)
      refine hK.out _ _ ⟨(blk_cell BK1353.out 0).trans rfl, (blk_cell BK1354.out 0).trans rfl, (blk_cell BK1354.out 1).trans rfl, (blk_cell BK1354.out 2).trans rfl⟩ (fun hHeld => ?_)
      clear hK K
      refine norm_ (a' := ?_) ?_ ?_
      rotate_left
      ·show Act.put _ (some 24) _ = _
       simp only [Act.put, List.setIfInBounds_toArray, List.set_cons_zero, List.set_cons_succ, i64_w, i32_w]
       rfl
      refine pure_ (i := 5) (N := some 6) (v := ?_) (a' := ?_) #[true, true, true, true, true, true] rfl rfl (by kernel_rfl) (fun _ _ _ h => h) (Or.inl ⟨by rfl, ?_⟩) ?_ ?_
      rotate_left
      ·intro w'
       go_simp
       with_reducible rfl
      rotate_left
      ·simp only [Act.put, List.setIfInBounds_toArray, List.set_cons_zero, List.set_cons_succ, i64_w, i32_w]
       rfl
      refine done_ (by kernel_rfl) ?_
      have hcz78_0 : w77.cell? ⟨gb1353, 0, none⟩ = some (.slice A0_0 l0_0.length c0_0) := (blk_cell BK1353.out 0).trans rfl
      have hfz78_0 := blk_frozen BK1353.out 0
      try go_wp2_with (first | ((with_reducible refine gate_callee (f := 27) rfl ?_); refine goesL_ (some 26) rfl rfl Try.func27 (by kernel_rfl) rfl #[.agg #[.slice A0_0 l0_0.length c0_0]] rfl (by (try simp only [List.map_toArray, List.map_cons, List.map_nil]); first | done | rfl | (simp only [List.length_drop, List.length_take]; rfl)) ?_; (with_reducible refine (laws_toSchema.calls k _ _ l0_0 t1368 _ ?side1 ?side2 A22.out).mono ?_); (case side1 => repeat (first | exact (Kd.C_below HR0_0.out HB.out) | (with_reducible refine Kd.C_alloc ?_ _) | (with_reducible refine Kd.C_drewN ?_ _) | (with_reducible refine Kd.C_drew ?_))); (case side2 => exact HC0_0.out); rintro e w79 ⟨v1369, rfl, ho0, hb⟩; refine ⟨_, rfl, ?_⟩; have n0_ := Aside0.mk (Kd.R_elder' (by (with_reducible repeat (first | apply Kd.R_alloc | apply Kd.R_drewN | apply Kd.R_drew)); exact HO1359.out) (Kd.R_base ho0) hb); have n1_ := Aside0.mk (Kd.R_elder' (by (with_reducible repeat (first | apply Kd.R_alloc | apply Kd.R_drewN | apply Kd.R_drew)); exact HO1362.out) (Kd.R_base ho0) hb); have n2_ := Aside0.mk (Kd.R_elder' (by (with_reducible repeat (first | apply Kd.R_alloc | apply Kd.R_drewN | apply Kd.R_drew)); exact HO1365.out) (Kd.R_base ho0) hb); have n3_ := Aside0.mk (Kd.R_lower (Kd.R_new' ho0 (Kd.R_lt (by (with_reducible repeat (first | apply Kd.R_alloc | apply Kd.R_drewN | apply Kd.R_drew)); exact HO1359.out))) (below_size (by repeat (first | (with_reducible first | exact HB.out | apply below_alloc | apply pw_below_drewN | apply below_drew1 | refine below_set ?_ GE1353.out | refine below_set ?_ GE1354.out) | exact HB.out)))); have n4_ := Aside0.mk (blk_below (g := gb1353) (o := .cells #[.slice A0_0 l0_0.length c0_0] 35 (0, 0)) (by (with_reducible repeat (first | refine blk_drewN ?_ _ | refine blk_drew ?_ | refine blk_alloc ?_ _)); exact BK1353.out) hb); have n5_ := Aside0.mk (blk_below (g := gb1354) (o := .cells #[.slice A1_0 l1_0.length c1_0, .slice A1_1 l1_1.length c1_1, .int .i64 a1_2] 52 (0, 0)) (by (with_reducible repeat (first | refine blk_drewN ?_ _ | refine blk_drew ?_ | refine blk_alloc ?_ _)); exact BK1354.out) hb); have n6_ := Aside0.mk (below_step (by repeat (first | (with_reducible first | exact HB.out | apply below_alloc | apply pw_below_drewN | apply below_drew1 | refine below_set ?_ GE1353.out | refine below_set ?_ GE1354.out) | exact HB.out)) hb); clear HO1359; clear HO1362; clear HO1365; clear BK1353; clear BK1354; clear HB; have HO1359 := n0_; have HO1362 := n1_; have HO1365 := n2_; have HO1370 := n3_; have BK1353 := n4_; have BK1354 := n5_; have HB := n6_; clear n0_ n1_ n2_ n3_ n4_ n5_ n6_; (try clear hb); (try clear hb2); (try clear hk); (try clear hi); (try clear ho0)) | ((with_reducible refine gate_dst (N := 7) rfl ?_); refine box_event ?hg (N := 7) ?hd (cs := #[.slice none 0 0]) (t := 41) ?hr ?_; (case hd => rfl); (case hg => rfl); (case hr => first | (go_simp; done) | (go_simp; rfl)); intro gb1371 hg w80 hbox hb; have n0_ := Aside0.mk (Kd.R_below (by (with_reducible repeat (first | apply Kd.R_alloc | apply Kd.R_drewN | apply Kd.R_drew)); exact HO1359.out) hb); have n1_ := Aside0.mk (Kd.R_below (by (with_reducible repeat (first | apply Kd.R_alloc | apply Kd.R_drewN | apply Kd.R_drew)); exact HO1362.out) hb); have n2_ := Aside0.mk (Kd.R_below (by (with_reducible repeat (first | apply Kd.R_alloc | apply Kd.R_drewN | apply Kd.R_drew)); exact HO1365.out) hb); have n3_ := Aside0.mk (Kd.R_below (by (with_reducible repeat (first | apply Kd.R_alloc | apply Kd.R_drewN | apply Kd.R_drew)); exact HO1370.out) hb); have n4_ := Aside0.mk (blk_below (g := gb1353) (o := .cells #[.slice A0_0 l0_0.length c0_0] 35 (0, 0)) (by (with_reducible repeat (first | refine blk_drewN ?_ _ | refine blk_drew ?_ | refine blk_alloc ?_ _)); exact BK1353.out) hb); have n5_ := Aside0.mk (blk_below (g := gb1354) (o := .cells #[.slice A1_0 l1_0.length c1_0, .slice A1_1 l1_1.length c1_1, .int .i64 a1_2] 52 (0, 0)) (by (with_reducible repeat (first | refine blk_drewN ?_ _ | refine blk_drew ?_ | refine blk_alloc ?_ _)); exact BK1354.out) hb); have n6_ := Aside0.mk (below_step (by repeat (first | (with_reducible first | exact HB.out | apply below_alloc | apply pw_below_drewN | apply below_drew1 | refine below_set ?_ GE1353.out | refine below_set ?_ GE1354.out) | exact HB.out)) hb); have n7_ := Aside0.mk (hbox); have n8_ := Aside0.mk ((by rw [hg]; exact (below_size (by repeat (first | (with_reducible first | exact HB.out | apply below_alloc | apply pw_below_drewN | apply below_drew1 | refine below_set ?_ GE1353.out | refine below_set ?_ GE1354.out) | exact HB.out))) : w.heap.size ≤ gb1371)); have n9_ := Aside0.mk ((by rw [hg]; exact (below_size (by repeat (first | (with_reducible first | exact HB.out | apply below_alloc | apply pw_below_drewN | apply below_drew1 | refine below_set ?_ GE1353.out | refine below_set ?_ GE1354.out) | exact HB.out))) : w.heap.size ≤ gb1371)); have n10_ := Aside0.mk ((by rw [hg]; exact Nat.ne_of_lt (blk_lt (g := gb1353) (o := .cells #[.slice A0_0 l0_0.length c0_0] 35 (0, 0)) (by (with_reducible repeat (first | refine blk_drewN ?_ _ | refine blk_drew ?_ | refine blk_alloc ?_ _)); exact BK1353.out)) : gb1353 ≠ gb1371)); have n11_ := Aside0.mk ((by rw [hg]; exact Nat.ne_of_gt (blk_lt (g := gb1353) (o := .cells #[.slice A0_0 l0_0.length c0_0] 35 (0, 0)) (by (with_reducible repeat (first | refine blk_drewN ?_ _ | refine blk_drew ?_ | refine blk_alloc ?_ _)); exact BK1353.out)) : gb1371 ≠ gb1353)); have n12_ := Aside0.mk ((by rw [hg]; exact Nat.ne_of_lt (blk_lt (g := gb1354) (o := .cells #[.slice A1_0 l1_0.length c1_0, .slice A1_1 l1_1.length c1_1, .int .i64 a1_2] 52 (0, 0)) (by (with_reducible repeat (first | refine blk_drewN ?_ _ | refine blk_drew ?_ | refine blk_alloc ?_ _)); exact BK1354.out)) : gb1354 ≠ gb1371)); have n13_ := Aside0.mk ((by rw [hg]; exact Nat.ne_of_gt (blk_lt (g := gb1354) (o := .cells #[.slice A1_0 l1_0.length c1_0, .slice A1_1 l1_1.length c1_1, .int .i64 a1_2] 52 (0, 0)) (by (with_reducible repeat (first | refine blk_drewN ?_ _ | refine blk_drew ?_ | refine blk_alloc ?_ _)); exact BK1354.out)) : gb1371 ≠ gb1354)); clear HO1359; clear HO1362; clear HO1365; clear HO1370; clear BK1353; clear BK1354; clear HB; have HO1359 := n0_; have HO1362 := n1_; have HO1365 := n2_; have HO1370 := n3_; have BK1353 := n4_; have BK1354 := n5_; have HB := n6_; have BK1371 := n7_; have GW1371 := n8_; have GE1371 := n9_; have NB1353_1371 := n10_; have NB1371_1353 := n11_; have NB1354_1371 := n12_; have NB1371_1354 := n13_; clear n0_ n1_ n2_ n3_ n4_ n5_ n6_ n7_ n8_ n9_ n10_ n11_ n12_ n13_; clear hb hbox hg; obtain ⟨Ao81, co81, eo81⟩ := Kd.R_slice HO1370.out; subst eo81; have hnb82 := NB1371_1353.out; have hnc82 := NB1353_1371.out; have hnb83 := NB1371_1354.out; have hnc83 := NB1354_1371.out; have hcz84_0 : w80.cell? ⟨gb1371, 0, none⟩ = some (.slice none 0 0) := (blk_cell BK1371.out 0).trans rfl; have hfz84_0 := blk_frozen BK1371.out 0; have hcz85_0 : w80.cell? ⟨gb1354, 0, none⟩ = some (.slice A1_0 l1_0.length c1_0) := (blk_cell BK1354.out 0).trans rfl; have hcz85_1 : w80.cell? ⟨gb1354, 1, none⟩ = some (.slice A1_1 l1_1.length c1_1) := (blk_cell BK1354.out 1).trans rfl; have hcz85_2 : w80.cell? ⟨gb1354, 2, none⟩ = some (.int .i64 a1_2) := (blk_cell BK1354.out 2).trans rfl; have hfz85_0 := blk_frozen BK1354.out 0; have hfz85_1 := blk_frozen BK1354.out 1; have hfz85_2 := blk_frozen BK1354.out 2) | ((with_reducible refine gate_callee (f := 34) rfl ?_); refine goesL_ (some 28) rfl rfl Try.func34 (by kernel_rfl) rfl #[.agg #[.slice A1_0 l1_0.length c1_0, .slice A1_1 l1_1.length c1_1, .int .i64 a1_2]] rfl (by (try simp only [List.map_toArray, List.map_cons, List.map_nil]); first | done | rfl | (simp only [List.length_drop, List.length_take]; rfl)) ?_; (with_reducible refine (laws_toCache.calls k _ _ l1_0 _ _ l1_1 a1_2 t1372 t1375 t1378 _ ?side1 ?side2 ?side3 ?side4 A23.out).mono ?_); (case side1 => exact Kd.C_below HR1_0.out (by repeat (first | (with_reducible first | exact HB.out | apply below_alloc | apply pw_below_drewN | apply below_drew1 | refine below_set ?_ GE1353.out | refine below_set ?_ GE1354.out | refine below_set ?_ GE1371.out) | exact HB.out))); (case side2 => exact HC1_0.out); (case side3 => exact Kd.C_below HR1_1.out (by repeat (first | (with_reducible first | exact HB.out | apply below_alloc | apply pw_below_drewN | apply below_drew1 | refine below_set ?_ GE1353.out | refine below_set ?_ GE1354.out | refine below_set ?_ GE1371.out) | exact HB.out))); (case side4 => exact HC1_1.out); rintro e w86 ⟨v1373, v1376, rfl, ho0, ho1, hb⟩; refine ⟨_, rfl, ?_⟩; have n0_ := Aside0.mk (Kd.R_below (by (with_reducible repeat (first | apply Kd.R_alloc | apply Kd.R_drewN | apply Kd.R_drew)); exact (Kd.R_mono (Kd.R_far (p := ⟨gb1371, 0, none⟩) (Kd.R_types HO1359.out BK1371.out (by decide)) (fun _ hk => hk.2) (.slice Ao81 t1368.length co81)) (fun _ h_ => h_.1))) hb); have n1_ := Aside0.mk (Kd.R_elder' (by (with_reducible repeat (first | apply Kd.R_alloc | apply Kd.R_drewN | apply Kd.R_drew)); exact (Kd.R_mono (Kd.R_far (p := ⟨gb1371, 0, none⟩) (Kd.R_types HO1362.out BK1371.out (by decide)) (fun _ hk => hk.2) (.slice Ao81 t1368.length co81)) (fun _ h_ => h_.1))) (Kd.R_base ho0) hb); have n2_ := Aside0.mk (Kd.R_elder' (by (with_reducible repeat (first | apply Kd.R_alloc | apply Kd.R_drewN | apply Kd.R_drew)); exact (Kd.R_mono (Kd.R_far (p := ⟨gb1371, 0, none⟩) (Kd.R_types HO1365.out BK1371.out (by decide)) (fun _ hk => hk.2) (.slice Ao81 t1368.length co81)) (fun _ h_ => h_.1))) (Kd.R_base ho1) hb); have n3_ := Aside0.mk (Kd.R_below (by (with_reducible repeat (first | apply Kd.R_alloc | apply Kd.R_drewN | apply Kd.R_drew)); exact (Kd.R_mono (Kd.R_far (p := ⟨gb1371, 0, none⟩) (Kd.R_types HO1370.out BK1371.out (by decide)) (fun _ hk => hk.2) (.slice Ao81 t1368.length co81)) (fun _ h_ => h_.1))) hb); have n4_ := Aside0.mk (Kd.R_lower (Kd.R_new' (Kd.R_new' (Kd.R_new' ho0 (Kd.R_lt (by (with_reducible repeat (first | apply Kd.R_alloc | apply Kd.R_drewN | apply Kd.R_drew)); exact (Kd.R_mono (Kd.R_far (p := ⟨gb1371, 0, none⟩) (Kd.R_types HO1359.out BK1371.out (by decide)) (fun _ hk => hk.2) (.slice Ao81 t1368.length co81)) (fun _ h_ => h_.1))))) (Kd.R_lt (by (with_reducible repeat (first | apply Kd.R_alloc | apply Kd.R_drewN | apply Kd.R_drew)); exact (Kd.R_mono (Kd.R_far (p := ⟨gb1371, 0, none⟩) (Kd.R_types HO1362.out BK1371.out (by decide)) (fun _ hk => hk.2) (.slice Ao81 t1368.length co81)) (fun _ h_ => h_.1))))) (Kd.R_lt (by (with_reducible repeat (first | apply Kd.R_alloc | apply Kd.R_drewN | apply Kd.R_drew)); exact (Kd.R_mono (Kd.R_far (p := ⟨gb1371, 0, none⟩) (Kd.R_types HO1370.out BK1371.out (by decide)) (fun _ hk => hk.2) (.slice Ao81 t1368.length co81)) (fun _ h_ => h_.1))))) (below_size (by repeat (first | (with_reducible first | exact HB.out | apply below_alloc | apply pw_below_drewN | apply below_drew1 | refine below_set ?_ GE1353.out | refine below_set ?_ GE1354.out | refine below_set ?_ GE1371.out) | exact HB.out)))); have n5_ := Aside0.mk (Kd.R_lower (Kd.R_new' (Kd.R_new' (Kd.R_new' ho1 (Kd.R_lt (by (with_reducible repeat (first | apply Kd.R_alloc | apply Kd.R_drewN | apply Kd.R_drew)); exact (Kd.R_mono (Kd.R_far (p := ⟨gb1371, 0, none⟩) (Kd.R_types HO1359.out BK1371.out (by decide)) (fun _ hk => hk.2) (.slice Ao81 t1368.length co81)) (fun _ h_ => h_.1))))) (Kd.R_lt (by (with_reducible repeat (first | apply Kd.R_alloc | apply Kd.R_drewN | apply Kd.R_drew)); exact (Kd.R_mono (Kd.R_far (p := ⟨gb1371, 0, none⟩) (Kd.R_types HO1365.out BK1371.out (by decide)) (fun _ hk => hk.2) (.slice Ao81 t1368.length co81)) (fun _ h_ => h_.1))))) (Kd.R_lt (by (with_reducible repeat (first | apply Kd.R_alloc | apply Kd.R_drewN | apply Kd.R_drew)); exact (Kd.R_mono (Kd.R_far (p := ⟨gb1371, 0, none⟩) (Kd.R_types HO1370.out BK1371.out (by decide)) (fun _ hk => hk.2) (.slice Ao81 t1368.length co81)) (fun _ h_ => h_.1))))) (below_size (by repeat (first | (with_reducible first | exact HB.out | apply below_alloc | apply pw_below_drewN | apply below_drew1 | refine below_set ?_ GE1353.out | refine below_set ?_ GE1354.out | refine below_set ?_ GE1371.out) | exact HB.out)))); have n6_ := Aside0.mk (blk_below (g := gb1353) (o := .cells #[.slice A0_0 l0_0.length c0_0] 35 (0, 0)) (by (with_reducible repeat (first | refine blk_drewN ?_ _ | refine blk_drew ?_ | refine blk_alloc ?_ _)); refine blk_far ?_ NB1353_1371.out _; (with_reducible repeat (first | refine blk_drewN ?_ _ | refine blk_drew ?_ | refine blk_alloc ?_ _)); exact BK1353.out) hb); have n7_ := Aside0.mk (blk_below (g := gb1354) (o := .cells #[.slice A1_0 l1_0.length c1_0, .slice A1_1 l1_1.length c1_1, .int .i64 a1_2] 52 (0, 0)) (by (with_reducible repeat (first | refine blk_drewN ?_ _ | refine blk_drew ?_ | refine blk_alloc ?_ _)); refine blk_far ?_ NB1354_1371.out _; (with_reducible repeat (first | refine blk_drewN ?_ _ | refine blk_drew ?_ | refine blk_alloc ?_ _)); exact BK1354.out) hb); have n8_ := Aside0.mk (blk_below (g := gb1371) (o := .cells #[.slice Ao81 t1368.length co81] 41 (0, 0)) (by (with_reducible repeat (first | refine blk_drewN ?_ _ | refine blk_drew ?_ | refine blk_alloc ?_ _)); refine blk_put (cs := #[.slice none 0 0]) ?_ 0 _ rfl; (with_reducible repeat (first | refine blk_drewN ?_ _ | refine blk_drew ?_ | refine blk_alloc ?_ _)); exact BK1371.out) hb); have n9_ := Aside0.mk (below_step (by repeat (first | (with_reducible first | exact HB.out | apply below_alloc | apply pw_below_drewN | apply below_drew1 | refine below_set ?_ GE1353.out | refine below_set ?_ GE1354.out | refine below_set ?_ GE1371.out) | exact HB.out)) hb); clear HO1359; clear HO1362; clear HO1365; clear HO1370; clear BK1353; clear BK1354; clear BK1371; clear HB; have HO1359 := n0_; have HO1362 := n1_; have HO1365 := n2_; have HO1370 := n3_; have HO1374 := n4_; have HO1377 := n5_; have BK1353 := n6_; have BK1354 := n7_; have BK1371 := n8_; have HB := n9_; clear n0_ n1_ n2_ n3_ n4_ n5_ n6_ n7_ n8_ n9_; (try clear hb); (try clear hb2); (try clear hk); (try clear hi); (try clear ho0); (try clear ho1)) | ((with_reducible refine gate_dst (N := 8) rfl ?_); refine box_event ?hg (N := 8) ?hd (cs := #[.slice none 0 0, .slice none 0 0, .int .i64 0]) (t := 57) ?hr ?_; (case hd => rfl); (case hg => rfl); (case hr => first | (go_simp; done) | (go_simp; rfl)); intro gb1379 hg w87 hbox hb; have n0_ := Aside0.mk (Kd.R_below (by (with_reducible repeat (first | apply Kd.R_alloc | apply Kd.R_drewN | apply Kd.R_drew)); exact HO1359.out) hb); have n1_ := Aside0.mk (Kd.R_below (by (with_reducible repeat (first | apply Kd.R_alloc | apply Kd.R_drewN | apply Kd.R_drew)); exact HO1362.out) hb); have n2_ := Aside0.mk (Kd.R_below (by (with_reducible repeat (first | apply Kd.R_alloc | apply Kd.R_drewN | apply Kd.R_drew)); exact HO1365.out) hb); have n3_ := Aside0.mk (Kd.R_below (by (with_reducible repeat (first | apply Kd.R_alloc | apply Kd.R_drewN | apply Kd.R_drew)); exact HO1370.out) hb); have n4_ := Aside0.mk (Kd.R_below (by (with_reducible repeat (first | apply Kd.R_alloc | apply Kd.R_drewN | apply Kd.R_drew)); exact HO1374.out) hb); have n5_ := Aside0.mk (Kd.R_below (by (with_reducible repeat (first | apply Kd.R_alloc | apply Kd.R_drewN | apply Kd.R_drew)); exact HO1377.out) hb); have n6_ := Aside0.mk (blk_below (g := gb1353) (o := .cells #[.slice A0_0 l0_0.length c0_0] 35 (0, 0)) (by (with_reducible repeat (first | refine blk_drewN ?_ _ | refine blk_drew ?_ | refine blk_alloc ?_ _)); exact BK1353.out) hb); have n7_ := Aside0.mk (blk_below (g := gb1354) (o := .cells #[.slice A1_0 l1_0.length c1_0, .slice A1_1 l1_1.length c1_1, .int .i64 a1_2] 52 (0, 0)) (by (with_reducible repeat (first | refine blk_drewN ?_ _ | refine blk_drew ?_ | refine blk_alloc ?_ _)); exact BK1354.out) hb); have n8_ := Aside0.mk (blk_below (g := gb1371) (o := .cells #[.slice Ao81 t1368.length co81] 41 (0, 0)) (by (with_reducible repeat (first | refine blk_drewN ?_ _ | refine blk_drew ?_ | refine blk_alloc ?_ _)); exact BK1371.out) hb); have n9_ := Aside0.mk (below_step (by repeat (first | (with_reducible first | exact HB.out | apply below_alloc | apply pw_below_drewN | apply below_drew1 | refine below_set ?_ GE1353.out | refine below_set ?_ GE1354.out | refine below_set ?_ GE1371.out) | exact HB.out)) hb); have n10_ := Aside0.mk (hbox); have n11_ := Aside0.mk ((by rw [hg]; exact (below_size (by repeat (first | (with_reducible first | exact HB.out | apply below_alloc | apply pw_below_drewN | apply below_drew1 | refine below_set ?_ GE1353.out | refine below_set ?_ GE1354.out | refine below_set ?_ GE1371.out) | exact HB.out))) : w.heap.size ≤ gb1379)); have n12_ := Aside0.mk ((by rw [hg]; exact (below_size (by repeat (first | (with_reducible first | exact HB.out | apply below_alloc | apply pw_below_drewN | apply below_drew1 | refine below_set ?_ GE1353.out | refine below_set ?_ GE1354.out | refine below_set ?_ GE1371.out) | exact HB.out))) : w.heap.size ≤ gb1379)); have n13_ := Aside0.mk ((by rw [hg]; exact Nat.ne_of_lt (blk_lt (g := gb1353) (o := .cells #[.slice A0_0 l0_0.length c0_0] 35 (0, 0)) (by (with_reducible repeat (first | refine blk_drewN ?_ _ | refine blk_drew ?_ | refine blk_alloc ?_ _)); exact BK1353.out)) : gb1353 ≠ gb1379)); have n14_ := Aside0.mk ((by rw [hg]; exact Nat.ne_of_gt (blk_lt (g := gb1353) (o := .cells #[.slice A0_0 l0_0.length c0_0] 35 (0, 0)) (by (with_reducible repeat (first | refine blk_drewN ?_ _ | refine blk_drew ?_ | refine blk_alloc ?_ _)); exact BK1353.out)) : gb1379 ≠ gb1353)); have n15_ := Aside0.mk ((by rw [hg]; exact Nat.ne_of_lt (blk_lt (g := gb1354) (o := .cells #[.slice A1_0 l1_0.length c1_0, .slice A1_1 l1_1.length c1_1, .int .i64 a1_2] 52 (0, 0)) (by (with_reducible repeat (first | refine blk_drewN ?_ _ | refine blk_drew ?_ | refine blk_alloc ?_ _)); exact BK1354.out)) : gb1354 ≠ gb1379)); have n16_ := Aside0.mk ((by rw [hg]; exact Nat.ne_of_gt (blk_lt (g := gb1354) (o := .cells #[.slice A1_0 l1_0.length c1_0, .slice A1_1 l1_1.length c1_1, .int .i64 a1_2] 52 (0, 0)) (by (with_reducible repeat (first | refine blk_drewN ?_ _ | refine blk_drew ?_ | refine blk_alloc ?_ _)); exact BK1354.out)) : gb1379 ≠ gb1354)); have n17_ := Aside0.mk ((by rw [hg]; exact Nat.ne_of_lt (blk_lt (g := gb1371) (o := .cells #[.slice Ao81 t1368.length co81] 41 (0, 0)) (by (with_reducible repeat (first | refine blk_drewN ?_ _ | refine blk_drew ?_ | refine blk_alloc ?_ _)); exact BK1371.out)) : gb1371 ≠ gb1379)); have n18_ := Aside0.mk ((by rw [hg]; exact Nat.ne_of_gt (blk_lt (g := gb1371) (o := .cells #[.slice Ao81 t1368.length co81] 41 (0, 0)) (by (with_reducible repeat (first | refine blk_drewN ?_ _ | refine blk_drew ?_ | refine blk_alloc ?_ _)); exact BK1371.out)) : gb1379 ≠ gb1371)); clear HO1359; clear HO1362; clear HO1365; clear HO1370; clear HO1374; clear HO1377; clear BK1353; clear BK1354; clear BK1371; clear HB; have HO1359 := n0_; have HO1362 := n1_; have HO1365 := n2_; have HO1370 := n3_; have HO1374 := n4_; have HO1377 := n5_; have BK1353 := n6_; have BK1354 := n7_; have BK1371 := n8_; have HB := n9_; have BK1379 := n10_; have GW1379 := n11_; have GE1379 := n12_; have NB1353_1379 := n13_; have NB1379_1353 := n14_; have NB1354_1379 := n15_; have NB1379_1354 := n16_; have NB1371_1379 := n17_; have NB1379_1371 := n18_; clear n0_ n1_ n2_ n3_ n4_ n5_ n6_ n7_ n8_ n9_ n10_ n11_ n12_ n13_ n14_ n15_ n16_ n17_ n18_; clear hb hbox hg; obtain ⟨Ao88, co88, eo88⟩ := Kd.R_slice HO1374.out; subst eo88; have hnb89 := NB1379_1353.out; have hnc89 := NB1353_1379.out; have hnb90 := NB1379_1354.out; have hnc90 := NB1354_1379.out; have hnb91 := NB1379_1371.out; have hnc91 := NB1371_1379.out; have hcz92_0 : w87.cell? ⟨gb1379, 0, none⟩ = some (.slice none 0 0) := (blk_cell BK1379.out 0).trans rfl; have hcz92_1 : w87.cell? ⟨gb1379, 1, none⟩ = some (.slice none 0 0) := (blk_cell BK1379.out 1).trans rfl; have hcz92_2 : w87.cell? ⟨gb1379, 2, none⟩ = some (.int .i64 0) := (blk_cell BK1379.out 2).trans rfl; have hfz92_0 := blk_frozen BK1379.out 0; have hfz92_1 := blk_frozen BK1379.out 1; have hfz92_2 := blk_frozen BK1379.out 2; obtain ⟨Ao93, co93, eo93⟩ := Kd.R_slice HO1377.out; subst eo93; have hcz94_0 : w87.cell? ⟨gb1371, 0, none⟩ = some (.slice Ao81 t1368.length co81) := (blk_cell BK1371.out 0).trans rfl; have hfz94_0 := blk_frozen BK1371.out 0) | ((with_reducible refine gate_callee (f := 81) rfl ?_); refine goesL_ (some 31) rfl rfl Try.func81 (by kernel_rfl) rfl #[.agg #[.slice Ao81 t1368.length co81], .agg #[.slice Ao88 t1372.length co88, .slice Ao93 t1375.length co93, .int .i64 t1378]] rfl (by (try simp only [List.map_toArray, List.map_cons, List.map_nil]); first | done | rfl | (simp only [List.length_drop, List.length_take]; rfl)) ?_; (with_reducible refine (impl_IsCache.calls k _ _ t1368 _ _ t1372 _ _ t1375 t1378 t1380 _ ?side1 ?side2 ?side3 ?side4 ?side5 ?side6 A24.out).mono ?_); (case side1 => refine (Kd.R_reads' (e := 3) (base := w.heap.size) (ok := fun k_ => (True ∧ some k_ ≠ (.slice Ao74 t1357.length co74 : Value).ownBlock)) (n := t1368.length) (c := co81) ?_).2.2; exact (by (with_reducible repeat (first | apply Kd.R_alloc | apply Kd.R_drewN | apply Kd.R_drew)); exact (Kd.R_mono (Kd.R_far (p := ⟨gb1379, 2, none⟩) (Kd.R_far (p := ⟨gb1379, 1, none⟩) (Kd.R_far (p := ⟨gb1379, 0, none⟩) (Kd.R_types HO1370.out BK1379.out (by decide)) (fun _ hk => hk.2) (.slice Ao88 t1372.length co88)) (fun _ hk => hk.2) (.slice Ao93 t1375.length co93)) (fun _ hk => hk.2) (.int .i64 t1378)) (fun _ h_ => h_.1)))); (case side2 => exact (Kd.R_reads' HO1370.out).2.1); (case side3 => refine (Kd.R_reads' (e := 96) (base := w.heap.size) (ok := fun k_ => (((True ∧ some k_ ≠ (.slice Ao74 t1357.length co74 : Value).ownBlock) ∧ some k_ ≠ (.slice Ao75 t1360.length co75 : Value).ownBlock) ∧ some k_ ≠ (.slice Ao81 t1368.length co81 : Value).ownBlock)) (n := t1372.length) (c := co88) ?_).2.2; exact (by (with_reducible repeat (first | apply Kd.R_alloc | apply Kd.R_drewN | apply Kd.R_drew)); exact (Kd.R_mono (Kd.R_far (p := ⟨gb1379, 2, none⟩) (Kd.R_far (p := ⟨gb1379, 1, none⟩) (Kd.R_far (p := ⟨gb1379, 0, none⟩) (Kd.R_types HO1374.out BK1379.out (by decide)) (fun _ hk => hk.2) (.slice Ao88 t1372.length co88)) (fun _ hk => hk.2) (.slice Ao93 t1375.length co93)) (fun _ hk => hk.2) (.int .i64 t1378)) (fun _ h_ => h_.1)))); (case side4 => exact (Kd.R_reads' HO1374.out).2.1); (case side5 => refine (Kd.R_reads' (e := 128) (base := w.heap.size) (ok := fun k_ => (((True ∧ some k_ ≠ (.slice Ao74 t1357.length co74 : Value).ownBlock) ∧ some k_ ≠ (.slice Ao76 t1363.length co76 : Value).ownBlock) ∧ some k_ ≠ (.slice Ao81 t1368.length co81 : Value).ownBlock)) (n := t1375.length) (c := co93) ?_).2.2; exact (by (with_reducible repeat (first | apply Kd.R_alloc | apply Kd.R_drewN | apply Kd.R_drew)); exact (Kd.R_mono (Kd.R_far (p := ⟨gb1379, 2, none⟩) (Kd.R_far (p := ⟨gb1379, 1, none⟩) (Kd.R_far (p := ⟨gb1379, 0, none⟩) (Kd.R_types HO1377.out BK1379.out (by decide)) (fun _ hk => hk.2) (.slice Ao88 t1372.length co88)) (fun _ hk => hk.2) (.slice Ao93 t1375.length co93)) (fun _ hk => hk.2) (.int .i64 t1378)) (fun _ h_ => h_.1)))); (case side6 => exact (Kd.R_reads' HO1377.out).2.1); rintro e w95 ⟨rfl, hb⟩; refine ⟨_, rfl, ?_⟩; have n0_ := Aside0.mk (Kd.R_below (by (with_reducible repeat (first | apply Kd.R_alloc | apply Kd.R_drewN | apply Kd.R_drew)); exact (Kd.R_mono (Kd.R_far (p := ⟨gb1379, 2, none⟩) (Kd.R_far (p := ⟨gb1379, 1, none⟩) (Kd.R_far (p := ⟨gb1379, 0, none⟩) (Kd.R_types HO1359.out BK1379.out (by decide)) (fun _ hk => hk.2) (.slice Ao88 t1372.length co88)) (fun _ hk => hk.2) (.slice Ao93 t1375.length co93)) (fun _ hk => hk.2) (.int .i64 t1378)) (fun _ h_ => h_.1))) hb); have n1_ := Aside0.mk (Kd.R_below (by (with_reducible repeat (first | apply Kd.R_alloc | apply Kd.R_drewN | apply Kd.R_drew)); exact (Kd.R_mono (Kd.R_far (p := ⟨gb1379, 2, none⟩) (Kd.R_far (p := ⟨gb1379, 1, none⟩) (Kd.R_far (p := ⟨gb1379, 0, none⟩) (Kd.R_types HO1362.out BK1379.out (by decide)) (fun _ hk => hk.2) (.slice Ao88 t1372.length co88)) (fun _ hk => hk.2) (.slice Ao93 t1375.length co93)) (fun _ hk => hk.2) (.int .i64 t1378)) (fun _ h_ => h_.1))) hb); have n2_ := Aside0.mk (Kd.R_below (by (with_reducible repeat (first | apply Kd.R_alloc | apply Kd.R_drewN | apply Kd.R_drew)); exact (Kd.R_mono (Kd.R_far (p := ⟨gb1379, 2, none⟩) (Kd.R_far (p := ⟨gb1379, 1, none⟩) (Kd.R_far (p := ⟨gb1379, 0, none⟩) (Kd.R_types HO1365.out BK1379.out (by decide)) (fun _ hk => hk.2) (.slice Ao88 t1372.length co88)) (fun _ hk => hk.2) (.slice Ao93 t1375.length co93)) (fun _ hk => hk.2) (.int .i64 t1378)) (fun _ h_ => h_.1))) hb); have n3_ := Aside0.mk (Kd.R_below (by (with_reducible repeat (first | apply Kd.R_alloc | apply Kd.R_drewN | apply Kd.R_drew)); exact (Kd.R_mono (Kd.R_far (p := ⟨gb1379, 2, none⟩) (Kd.R_far (p := ⟨gb1379, 1, none⟩) (Kd.R_far (p := ⟨gb1379, 0, none⟩) (Kd.R_types HO1370.out BK1379.out (by decide)) (fun _ hk => hk.2) (.slice Ao88 t1372.length co88)) (fun _ hk => hk.2) (.slice Ao93 t1375.length co93)) (fun _ hk => hk.2) (.int .i64 t1378)) (fun _ h_ => h_.1))) hb); have n4_ := Aside0.mk (Kd.R_below (by (with_reducible repeat (first | apply Kd.R_alloc | apply Kd.R_drewN | apply Kd.R_drew)); exact (Kd.R_mono (Kd.R_far (p := ⟨gb1379, 2, none⟩) (Kd.R_far (p := ⟨gb1379, 1, none⟩) (Kd.R_far (p := ⟨gb1379, 0, none⟩) (Kd.R_types HO1374.out BK1379.out (by decide)) (fun _ hk => hk.2) (.slice Ao88 t1372.length co88)) (fun _ hk => hk.2) (.slice Ao93 t1375.length co93)) (fun _ hk => hk.2) (.int .i64 t1378)) (fun _ h_ => h_.1))) hb); have n5_ := Aside0.mk (Kd.R_below (by (with_reducible repeat (first | apply Kd.R_alloc | apply Kd.R_drewN | apply Kd.R_drew)); exact (Kd.R_mono (Kd.R_far (p := ⟨gb1379, 2, none⟩) (Kd.R_far (p := ⟨gb1379, 1, none⟩) (Kd.R_far (p := ⟨gb1379, 0, none⟩) (Kd.R_types HO1377.out BK1379.out (by decide)) (fun _ hk => hk.2) (.slice Ao88 t1372.length co88)) (fun _ hk => hk.2) (.slice Ao93 t1375.length co93)) (fun _ hk => hk.2) (.int .i64 t1378)) (fun _ h_ => h_.1))) hb); have n6_ := Aside0.mk (blk_below (g := gb1353) (o := .cells #[.slice A0_0 l0_0.length c0_0] 35 (0, 0)) (by (with_reducible repeat (first | refine blk_drewN ?_ _ | refine blk_drew ?_ | refine blk_alloc ?_ _)); refine blk_far ?_ NB1353_1379.out _; (with_reducible repeat (first | refine blk_drewN ?_ _ | refine blk_drew ?_ | refine blk_alloc ?_ _)); refine blk_far ?_ NB1353_1379.out _; (with_reducible repeat (first | refine blk_drewN ?_ _ | refine blk_drew ?_ | refine blk_alloc ?_ _)); refine blk_far ?_ NB1353_1379.out _; (with_reducible repeat (first | refine blk_drewN ?_ _ | refine blk_drew ?_ | refine blk_alloc ?_ _)); exact BK1353.out) hb); have n7_ := Aside0.mk (blk_below (g := gb1354) (o := .cells #[.slice A1_0 l1_0.length c1_0, .slice A1_1 l1_1.length c1_1, .int .i64 a1_2] 52 (0, 0)) (by (with_reducible repeat (first | refine blk_drewN ?_ _ | refine blk_drew ?_ | refine blk_alloc ?_ _)); refine blk_far ?_ NB1354_1379.out _; (with_reducible repeat (first | refine blk_drewN ?_ _ | refine blk_drew ?_ | refine blk_alloc ?_ _)); refine blk_far ?_ NB1354_1379.out _; (with_reducible repeat (first | refine blk_drewN ?_ _ | refine blk_drew ?_ | refine blk_alloc ?_ _)); refine blk_far ?_ NB1354_1379.out _; (with_reducible repeat (first | refine blk_drewN ?_ _ | refine blk_drew ?_ | refine blk_alloc ?_ _)); exact BK1354.out) hb); have n8_ := Aside0.mk (blk_below (g := gb1371) (o := .cells #[.slice Ao81 t1368.length co81] 41 (0, 0)) (by (with_reducible repeat (first | refine blk_drewN ?_ _ | refine blk_drew ?_ | refine blk_alloc ?_ _)); refine blk_far ?_ NB1371_1379.out _; (with_reducible repeat (first | refine blk_drewN ?_ _ | refine blk_drew ?_ | refine blk_alloc ?_ _)); refine blk_far ?_ NB1371_1379.out _; (with_reducible repeat (first | refine blk_drewN ?_ _ | refine blk_drew ?_ | refine blk_alloc ?_ _)); refine blk_far ?_ NB1371_1379.out _; (with_reducible repeat (first | refine blk_drewN ?_ _ | refine blk_drew ?_ | refine blk_alloc ?_ _)); exact BK1371.out) hb); have n9_ := Aside0.mk (blk_below (g := gb1379) (o := .cells #[.slice Ao88 t1372.length co88, .slice Ao93 t1375.length co93, .int .i64 t1378] 57 (0, 0)) (by (with_reducible repeat (first | refine blk_drewN ?_ _ | refine blk_drew ?_ | refine blk_alloc ?_ _)); refine blk_put (cs := #[.slice Ao88 t1372.length co88, .slice Ao93 t1375.length co93, .int .i64 0]) ?_ 2 _ rfl; (with_reducible repeat (first | refine blk_drewN ?_ _ | refine blk_drew ?_ | refine blk_alloc ?_ _)); refine blk_put (cs := #[.slice Ao88 t1372.length co88, .slice none 0 0, .int .i64 0]) ?_ 1 _ rfl; (with_reducible repeat (first | refine blk_drewN ?_ _ | refine blk_drew ?_ | refine blk_alloc ?_ _)); refine blk_put (cs := #[.slice none 0 0, .slice none 0 0, .int .i64 0]) ?_ 0 _ rfl; (with_reducible repeat (first | refine blk_drewN ?_ _ | refine blk_drew ?_ | refine blk_alloc ?_ _)); exact BK1379.out) hb); have n10_ := Aside0.mk (below_step (by repeat (first | (with_reducible first | exact HB.out | apply below_alloc | apply pw_below_drewN | apply below_drew1 | refine below_set ?_ GE1353.out | refine below_set ?_ GE1354.out | refine below_set ?_ GE1371.out | refine below_set ?_ GE1379.out) | exact HB.out)) hb); clear HO1359; clear HO1362; clear HO1365; clear HO1370; clear HO1374; clear HO1377; clear BK1353; clear BK1354; clear BK1371; clear BK1379; clear HB; have HO1359 := n0_; have HO1362 := n1_; have HO1365 := n2_; have HO1370 := n3_; have HO1374 := n4_; have HO1377 := n5_; have BK1353 := n6_; have BK1354 := n7_; have BK1371 := n8_; have BK1379 := n9_; have HB := n10_; clear n0_ n1_ n2_ n3_ n4_ n5_ n6_ n7_ n8_ n9_ n10_; (try clear hb); (try clear hb2); (try clear hk); (try clear hi)))
      have n0_ := Aside0.mk (Kd.R_drew HO1359.out)
      have n1_ := Aside0.mk (Kd.R_drew HO1362.out)
      have n2_ := Aside0.mk (Kd.R_drew HO1365.out)
      have n3_ := Aside0.mk (Kd.R_drew HO1370.out)
      have n4_ := Aside0.mk (Kd.R_drew HO1374.out)
      have n5_ := Aside0.mk (Kd.R_drew HO1377.out)
      have n6_ := Aside0.mk (blk_drew BK1353.out)
      have n7_ := Aside0.mk (blk_drew BK1354.out)
      have n8_ := Aside0.mk (blk_drew BK1371.out)
      have n9_ := Aside0.mk (blk_drew BK1379.out)
      have n10_ := Aside0.mk (below_drew1 HB.out)
      clear HO1359
      clear HO1362
      clear HO1365
      clear HO1370
      clear HO1374
      clear HO1377
      clear BK1353
      clear BK1354
      clear BK1371
      clear BK1379
      clear HB
      have HO1359 := n0_
      have HO1362 := n1_
      have HO1365 := n2_
      have HO1370 := n3_
      have HO1374 := n4_
      have HO1377 := n5_
      have BK1353 := n6_
      have BK1354 := n7_
      have BK1371 := n8_
      have BK1379 := n9_
      have HB := n10_
      clear n0_ n1_ n2_ n3_ n4_ n5_ n6_ n7_ n8_ n9_ n10_
      refine start_ (n := 5) (S := fun w' => w'.cell? ⟨gb1371, 0, none⟩ = some (.slice Ao81 t1368.length co81) ∧ w'.cell? ⟨gb1353, 0, none⟩ = some (.slice A0_0 l0_0.length c0_0)) (ds := []) #[false, false, false, false, false] (by kernel_rfl) rfl rfl ⟨(blk_cell BK1371.out 0).trans rfl, (blk_cell BK1353.out 0).trans rfl⟩ (fun hHeld => ?_)
      generalize w95.drew = w96 at HO1359 HO1362 HO1365 HO1370 HO1374 HO1377 BK1353 BK1354 BK1371 BK1379 HB hHeld ⊢
      refine take_ (i := 0) (N := some 35) (v := ?_) (a' := ?_) #[true, false, false, false, false] rfl rfl (by kernel_rfl) (fun _ _ _ h => h) (Or.inl ⟨by rfl, ?_⟩) hHeld ?_ ?_
      rotate_left
      ·rintro w' ⟨s0, s1⟩
       go_simp
       with_reducible rfl
      rotate_left
      ·simp only [Act.put, List.setIfInBounds_toArray, List.set_cons_zero, List.set_cons_succ, i64_w, i32_w]
       rfl
      refine take_ (i := 1) (N := some 36) (v := ?_) (a' := ?_) #[true, true, false, false, false] rfl rfl (by kernel_rfl) (fun _ _ _ h => h) (Or.inl ⟨by rfl, ?_⟩) hHeld ?_ ?_
      rotate_left
      ·rintro w' ⟨s0, s1⟩
       go_simp
       with_reducible rfl
      rotate_left
      ·simp only [Act.put, List.setIfInBounds_toArray, List.set_cons_zero, List.set_cons_succ, i64_w, i32_w]
       rfl
      refine one_ (i := 2) (N := some 37) #[true, true, true, false, false] rfl rfl (by kernel_rfl) (by decide) (fun K hK => ?_)
      refine goes_ Try.func27 (by kernel_rfl) rfl #[.agg #[.slice A0_0 l0_0.length c0_0]] (by rfl) rfl rfl (by (try simp only [List.map_toArray, List.map_cons, List.map_nil]); first | done | rfl | (simp only [List.length_drop, List.length_take]; rfl)) ?_
      with_reducible refine (laws_toSchema.calls k _ _ l0_0 t1381 _ ?side1 ?side2 A58.out).mono ?_
      (case side1 => repeat (first | exact (Kd.C_below HR0_0.out HB.out) | (with_reducible refine Kd.C_alloc ?_ _) | (with_reducible refine Kd.C_drewN ?_ _) | (with_reducible refine Kd.C_drew ?_)))
      (case side2 => exact HC0_0.out)
      rintro e w97 ⟨v1382, rfl, ho0, hb⟩
      refine ⟨_, rfl, ?_⟩
      have n0_ := Aside0.mk (Kd.R_elder' (by (with_reducible repeat (first | apply Kd.R_alloc | apply Kd.R_drewN | apply Kd.R_drew)); exact HO1359.out) (Kd.R_base ho0) hb)
      have n1_ := Aside0.mk (Kd.R_elder' (by (with_reducible repeat (first | apply Kd.R_alloc | apply Kd.R_drewN | apply Kd.R_drew)); exact HO1362.out) (Kd.R_base ho0) hb)
      have n2_ := Aside0.mk (Kd.R_elder' (by (with_reducible repeat (first | apply Kd.R_alloc | apply Kd.R_drewN | apply Kd.R_drew)); exact HO1365.out) (Kd.R_base ho0) hb)
      have n3_ := Aside0.mk (Kd.R_elder' (by (with_reducible repeat (first | apply Kd.R_alloc | apply Kd.R_drewN | apply Kd.R_drew)); exact HO1370.out) (Kd.R_base ho0) hb)
      have n4_ := Aside0.mk (Kd.R_elder' (by (with_reducible repeat (first | apply Kd.R_alloc | apply Kd.R_drewN | apply Kd.R_drew)); exact HO1374.out) (Kd.R_base ho0) hb)
      have n5_ := Aside0.mk (Kd.R_elder' (by (with_reducible repeat (first | apply Kd.R_alloc | apply Kd.R_drewN | apply Kd.R_drew)); exact HO1377.out) (Kd.R_base ho0) hb)
      have n6_ := Aside0.mk (Kd.R_lower (Kd.R_new' (Kd.R_new' ho0 (Kd.R_lt (by (with_reducible repeat (first | apply Kd.R_alloc | apply Kd.R_drewN | apply Kd.R_drew)); exact HO1359.out))) (Kd.R_lt (by (with_reducible repeat (first | apply Kd.R_alloc | apply Kd.R_drewN | apply Kd.R_drew)); exact HO1370.out))) (below_size (by repeat (first | (with_reducible first | exact HB.out | apply below_alloc | apply pw_below_drewN | apply below_drew1 | refine below_set ?_ GE1353.out | refine below_set ?_ GE1354.out | refine below_set ?_ GE1371.out | refine below_set ?_ GE1379.out) | exact HB.out))))
      have n7_ := Aside0.mk (blk_below (g := gb1353) (o := .cells #[.slice A0_0 l0_0.length c0_0] 35 (0, 0)) (by (with_reducible repeat (first | refine blk_drewN ?_ _ | refine blk_drew ?_ | refine blk_alloc ?_ _)); exact BK1353.out) hb)
      have n8_ := Aside0.mk (blk_below (g := gb1354) (o := .cells #[.slice A1_0 l1_0.length c1_0, .slice A1_1 l1_1.length c1_1, .int .i64 a1_2] 52 (0, 0)) (by (with_reducible repeat (first | refine blk_drewN ?_ _ | refine blk_drew ?_ | refine blk_alloc ?_ _)); exact BK1354.out) hb)
      have n9_ := Aside0.mk (blk_below (g := gb1371) (o := .cells #[.slice Ao81 t1368.length co81] 41 (0, 0)) (by (with_reducible repeat (first | refine blk_drewN ?_ _ | refine blk_drew ?_ | refine blk_alloc ?_ _)); exact BK1371.out) hb)
      have n10_ := Aside0.mk (blk_below (g := gb1379) (o := .cells #[.slice Ao88 t1372.length co88, .slice Ao93 t1375.length co93, .int .i64 t1378] 57 (0, 0)) (by (with_reducible repeat (first | refine blk_drewN ?_ _ | refine blk_drew ?_ | refine blk_alloc ?_ _)); exact BK1379.out) hb)
      have n11_ := Aside0.mk (below_step (by repeat (first | (with_reducible first | exact HB.out | apply below_alloc | apply pw_below_drewN | apply below_drew1 | refine below_set ?_ GE1353.out | refine below_set ?_ GE1354.out | refine below_set ?_ GE1371.out | refine below_set ?_ GE1379.out) | exact HB.out)) hb)
      clear HO1359
      clear HO1362
      clear HO1365
      clear HO1370
      clear HO1374
      clear HO1377
      clear BK1353
      clear BK1354
      clear BK1371
      clear BK1379
      clear HB
      have HO1359 := n0_
      have HO1362 := n1_
      have HO1365 := n2_
      have HO1370 := n3_
      have HO1374 := n4_
      have HO1377 := n5_
      have HO1383 := n6_
      have BK1353 := n7_
      have BK1354 := n8_
      have BK1371 := n9_
      have BK1379 := n10_
      have HB := n11_
      clear n0_ n1_ n2_ n3_ n4_ n5_ n6_ n7_ n8_ n9_ n10_ n11_
      (try clear hb)
      (try clear hb2)
      (try clear hk)
      (try clear hi)
      (try clear ho0)
      obtain ⟨Ao98, co98, eo98⟩ := Kd.R_slice HO1383.out
      (first | subst eo98 | (injection eo98 with f1_ f2_ f3_; have f4_ := f1_.symm; have f5_ := f3_.symm; clear f1_ f2_ f3_; subst f4_; subst f5_))
      refine hK.out _ _ ⟨(blk_cell BK1371.out 0).trans rfl, (blk_cell BK1353.out 0).trans rfl⟩ (fun hHeld => ?_)
      clear hK K
      refine norm_ (a' := ?_) ?_ ?_
      rotate_left
      ·show Act.put _ (some 37) _ = _
       simp only [Act.put, List.setIfInBounds_toArray, List.set_cons_zero, List.set_cons_succ, i64_w, i32_w]
       rfl
      refine one_ (i := 3) (N := some 38) #[true, true, true, true, false] rfl rfl (by kernel_rfl) (by decide) (fun K hK => ?_)
      refine goes_ Try.func30 (by kernel_rfl) rfl #[.agg #[.slice Ao81 t1368.length co81], .agg #[.slice Ao98 t1381.length co98]] (by rfl) rfl rfl (by (try simp only [List.map_toArray, List.map_cons, List.map_nil]); first | done | rfl | (simp only [List.length_drop, List.length_take]; rfl)) ?_
      with_reducible refine (laws_eqSchema.calls k _ _ t1368 _ _ t1381 true _ ?side1 ?side2 ?side3 ?side4 A59.out).mono ?_
      (case side1 => repeat (first | exact (Kd.R_reads' HO1370.out).2.2 | (with_reducible refine Kd.C_alloc ?_ _) | (with_reducible refine Kd.C_drewN ?_ _) | (with_reducible refine Kd.C_drew ?_)))
      (case side2 => exact (Kd.R_reads' HO1370.out).2.1)
      (case side3 => repeat (first | exact (Kd.R_reads' HO1383.out).2.2 | (with_reducible refine Kd.C_alloc ?_ _) | (with_reducible refine Kd.C_drewN ?_ _) | (with_reducible refine Kd.C_drew ?_)))
      (case side4 => exact (Kd.R_reads' HO1383.out).2.1)
      rintro e w99 ⟨rfl, hb⟩
      refine ⟨_, rfl, ?_⟩
      have n0_ := Aside0.mk (Kd.R_below (by (with_reducible repeat (first | apply Kd.R_alloc | apply Kd.R_drewN | apply Kd.R_drew)); exact HO1359.out) hb)
      have n1_ := Aside0.mk (Kd.R_below (by (with_reducible repeat (first | apply Kd.R_alloc | apply Kd.R_drewN | apply Kd.R_drew)); exact HO1362.out) hb)
      have n2_ := Aside0.mk (Kd.R_below (by (with_reducible repeat (first | apply Kd.R_alloc | apply Kd.R_drewN | apply Kd.R_drew)); exact HO1365.out) hb)
      have n3_ := Aside0.mk (Kd.R_below (by (with_reducible repeat (first | apply Kd.R_alloc | apply Kd.R_drewN | apply Kd.R_drew)); exact HO1370.out) hb)
      have n4_ := Aside0.mk (Kd.R_below (by (with_reducible repeat (first | apply Kd.R_alloc | apply Kd.R_drewN | apply Kd.R_drew)); exact HO1374.out) hb)
      have n5_ := Aside0.mk (Kd.R_below (by (with_reducible repeat (first | apply Kd.R_alloc | apply Kd.R_drewN | apply Kd.R_drew)); exact HO1377.out) hb)
      have n6_ := Aside0.mk (Kd.R_below (by (with_reducible repeat (first | apply Kd.R_alloc | apply Kd.R_drewN | apply Kd.R_drew)); exact HO1383.out) hb)
      have n7_ := Aside0.mk (blk_below (g := gb1353) (o := .cells #[.slice A0_0 l0_0.length c0_0] 35 (0, 0)) (by (with_reducible repeat (first | refine blk_drewN ?_ _ | refine blk_drew ?_ | refine blk_alloc ?_ _)); exact BK1353.out) hb)
      have n8_ := Aside0.mk (blk_below (g := gb1354) (o := .cells #[.slice A1_0 l1_0.length c1_0, .slice A1_1 l1_1.length c1_1, .int .i64 a1_2] 52 (0, 0)) (by (with_reducible repeat (first | refine blk_drewN ?_ _ | refine blk_drew ?_ | refine blk_alloc ?_ _)); exact BK1354.out) hb)
      have n9_ := Aside0.mk (blk_below (g := gb1371) (o := .cells #[.slice Ao81 t1368.length co81] 41 (0, 0)) (by (with_reducible repeat (first | refine blk_drewN ?_ _ | refine blk_drew ?_ | refine blk_alloc ?_ _)); exact BK1371.out) hb)
      have n10_ := Aside0.mk (blk_below (g := gb1379) (o := .cells #[.slice Ao88 t1372.length co88, .slice Ao93 t1375.length co93, .int .i64 t1378] 57 (0, 0)) (by (with_reducible repeat (first | refine blk_drewN ?_ _ | refine blk_drew ?_ | refine blk_alloc ?_ _)); exact BK1379.out) hb)
      have n11_ := Aside0.mk (below_step (by repeat (first | (with_reducible first | exact HB.out | apply below_alloc | apply pw_below_drewN | apply below_drew1 | refine below_set ?_ GE1353.out | refine below_set ?_ GE1354.out | refine below_set ?_ GE1371.out | refine below_set ?_ GE1379.out) | exact HB.out)) hb)
      clear HO1359
      clear HO1362
      clear HO1365
      clear HO1370
      clear HO1374
      clear HO1377
      clear HO1383
      clear BK1353
      clear BK1354
      clear BK1371
      clear BK1379
      clear HB
      have HO1359 := n0_
      have HO1362 := n1_
      have HO1365 := n2_
      have HO1370 := n3_
      have HO1374 := n4_
      have HO1377 := n5_
      have HO1383 := n6_
      have BK1353 := n7_
      have BK1354 := n8_
      have BK1371 := n9_
      have BK1379 := n10_
      have HB := n11_
      clear n0_ n1_ n2_ n3_ n4_ n5_ n6_ n7_ n8_ n9_ n10_ n11_
      (try clear hb)
      (try clear hb2)
      (try clear hk)
      (try clear hi)
      refine hK.out _ _ ⟨(blk_cell BK1371.out 0).trans rfl, (blk_cell BK1353.out 0).trans rfl⟩ (fun hHeld => ?_)
      clear hK K
      refine norm_ (a' := ?_) ?_ ?_
      rotate_left
      ·show Act.put _ (some 38) _ = _
       simp only [Act.put, List.setIfInBounds_toArray, List.set_cons_zero, List.set_cons_succ, i64_w, i32_w]
       rfl
      refine pure_ (i := 4) (N := some 39) (v := ?_) (a' := ?_) #[true, true, true, true, true] rfl rfl (by kernel_rfl) (fun _ _ _ h => h) (Or.inl ⟨by rfl, ?_⟩) ?_ ?_
      rotate_left
      ·intro w'
       go_simp
       with_reducible rfl
      rotate_left
      ·simp only [Act.put, List.setIfInBounds_toArray, List.set_cons_zero, List.set_cons_succ, i64_w, i32_w]
       rfl
      refine done_ (by kernel_rfl) ?_
      try go_wp2
      have n0_ := Aside0.mk (Kd.R_drew HO1359.out)
      have n1_ := Aside0.mk (Kd.R_drew HO1362.out)
      have n2_ := Aside0.mk (Kd.R_drew HO1365.out)
      have n3_ := Aside0.mk (Kd.R_drew HO1370.out)
      have n4_ := Aside0.mk (Kd.R_drew HO1374.out)
      have n5_ := Aside0.mk (Kd.R_drew HO1377.out)
      have n6_ := Aside0.mk (Kd.R_drew HO1383.out)
      have n7_ := Aside0.mk (blk_drew BK1353.out)
      have n8_ := Aside0.mk (blk_drew BK1354.out)
      have n9_ := Aside0.mk (blk_drew BK1371.out)
      have n10_ := Aside0.mk (blk_drew BK1379.out)
      have n11_ := Aside0.mk (below_drew1 HB.out)
      clear HO1359
      clear HO1362
      clear HO1365
      clear HO1370
      clear HO1374
      clear HO1377
      clear HO1383
      clear BK1353
      clear BK1354
      clear BK1371
      clear BK1379
      clear HB
      have HO1359 := n0_
      have HO1362 := n1_
      have HO1365 := n2_
      have HO1370 := n3_
      have HO1374 := n4_
      have HO1377 := n5_
      have HO1383 := n6_
      have BK1353 := n7_
      have BK1354 := n8_
      have BK1371 := n9_
      have BK1379 := n10_
      have HB := n11_
      clear n0_ n1_ n2_ n3_ n4_ n5_ n6_ n7_ n8_ n9_ n10_ n11_
      refine start_ (n := 5) (S := fun w' => w'.cell? ⟨gb1379, 0, none⟩ = some (.slice Ao88 t1372.length co88) ∧ w'.cell? ⟨gb1379, 1, none⟩ = some (.slice Ao93 t1375.length co93) ∧ w'.cell? ⟨gb1379, 2, none⟩ = some (.int .i64 t1378) ∧ w'.cell? ⟨gb1354, 0, none⟩ = some (.slice A1_0 l1_0.length c1_0) ∧ w'.cell? ⟨gb1354, 1, none⟩ = some (.slice A1_1 l1_1.length c1_1) ∧ w'.cell? ⟨gb1354, 2, none⟩ = some (.int .i64 a1_2)) (ds := []) #[false, false, false, false, false] (by kernel_rfl) rfl rfl ⟨(blk_cell BK1379.out 0).trans rfl, (blk_cell BK1379.out 1).trans rfl, (blk_cell BK1379.out 2).trans rfl, (blk_cell BK1354.out 0).trans rfl, (blk_cell BK1354.out 1).trans rfl, (blk_cell BK1354.out 2).trans rfl⟩ (fun hHeld => ?_)
      generalize w99.drew = w100 at HO1359 HO1362 HO1365 HO1370 HO1374 HO1377 HO1383 BK1353 BK1354 BK1371 BK1379 HB hHeld ⊢
      refine take_ (i := 0) (N := some 40) (v := ?_) (a' := ?_) #[true, false, false, false, false] rfl rfl (by kernel_rfl) (fun _ _ _ h => h) (Or.inl ⟨by rfl, ?_⟩) hHeld ?_ ?_
      rotate_left
      ·rintro w' ⟨s0, s1, s2, s3, s4, s5⟩
       go_simp
       with_reducible rfl
      rotate_left
      ·simp only [Act.put, List.setIfInBounds_toArray, List.set_cons_zero, List.set_cons_succ, i64_w, i32_w]
       rfl
      refine take_ (i := 1) (N := some 41) (v := ?_) (a' := ?_) #[true, true, false, false, false] rfl rfl (by kernel_rfl) (fun _ _ _ h => h) (Or.inl ⟨by rfl, ?_⟩) hHeld ?_ ?_
      rotate_left
      ·rintro w' ⟨s0, s1, s2, s3, s4, s5⟩
       go_simp
       with_reducible rfl
      rotate_left
      ·simp only [Act.put, List.setIfInBounds_toArray, List.set_cons_zero, List.set_cons_succ, i64_w, i32_w]
       rfl
      refine one_ (i := 2) (N := some 42) #[true, true, true, false, false] rfl rfl (by kernel_rfl) (by decide) (fun K hK => ?_)
      refine goes_ Try.func34 (by kernel_rfl) rfl #[.agg #[.slice A1_0 l1_0.length c1_0, .slice A1_1 l1_1.length c1_1, .int .i64 a1_2]] (by rfl) rfl rfl (by (try simp only [List.map_toArray, List.map_cons, List.map_nil]); first | done | rfl | (simp only [List.length_drop, List.length_take]; rfl)) ?_
      with_reducible refine (laws_toCache.calls k _ _ l1_0 _ _ l1_1 a1_2 t1385 t1388 t1391 _ ?side1 ?side2 ?side3 ?side4 A61.out).mono ?_
      (case side1 => repeat (first | exact (Kd.C_below HR1_0.out HB.out) | (with_reducible refine Kd.C_alloc ?_ _) | (with_reducible refine Kd.C_drewN ?_ _) | (with_reducible refine Kd.C_drew ?_)))
      (case side2 => exact HC1_0.out)
      (case side3 => repeat (first | exact (Kd.C_below HR1_1.out HB.out) | (with_reducible refine Kd.C_alloc ?_ _) | (with_reducible refine Kd.C_drewN ?_ _) | (with_reducible refine Kd.C_drew ?_)))
      (case side4 => exact HC1_1.out)
      rintro e w101 ⟨v1386, v1389, rfl, ho0, ho1, hb⟩
      refine ⟨_, rfl, ?_⟩
      have n0_ := Aside0.mk (Kd.R_below (by (with_reducible repeat (first | apply Kd.R_alloc | apply Kd.R_drewN | apply Kd.R_drew)); exact HO1359.out) hb)
      have n1_ := Aside0.mk (Kd.R_elder' (by (with_reducible repeat (first | apply Kd.R_alloc | apply Kd.R_drewN | apply Kd.R_drew)); exact HO1362.out) (Kd.R_base ho0) hb)
      have n2_ := Aside0.mk (Kd.R_elder' (by (with_reducible repeat (first | apply Kd.R_alloc | apply Kd.R_drewN | apply Kd.R_drew)); exact HO1365.out) (Kd.R_base ho1) hb)
      have n3_ := Aside0.mk (Kd.R_below (by (with_reducible repeat (first | apply Kd.R_alloc | apply Kd.R_drewN | apply Kd.R_drew)); exact HO1370.out) hb)
      have n4_ := Aside0.mk (Kd.R_elder' (by (with_reducible repeat (first | apply Kd.R_alloc | apply Kd.R_drewN | apply Kd.R_drew)); exact HO1374.out) (Kd.R_base ho0) hb)
      have n5_ := Aside0.mk (Kd.R_elder' (by (with_reducible repeat (first | apply Kd.R_alloc | apply Kd.R_drewN | apply Kd.R_drew)); exact HO1377.out) (Kd.R_base ho1) hb)
      have n6_ := Aside0.mk (Kd.R_below (by (with_reducible repeat (first | apply Kd.R_alloc | apply Kd.R_drewN | apply Kd.R_drew)); exact HO1383.out) hb)
      have n7_ := Aside0.mk (Kd.R_lower (Kd.R_new' (Kd.R_new' (Kd.R_new' (Kd.R_new' (Kd.R_new' ho0 (Kd.R_lt (by (with_reducible repeat (first | apply Kd.R_alloc | apply Kd.R_drewN | apply Kd.R_drew)); exact HO1359.out))) (Kd.R_lt (by (with_reducible repeat (first | apply Kd.R_alloc | apply Kd.R_drewN | apply Kd.R_drew)); exact HO1362.out))) (Kd.R_lt (by (with_reducible repeat (first | apply Kd.R_alloc | apply Kd.R_drewN | apply Kd.R_drew)); exact HO1370.out))) (Kd.R_lt (by (with_reducible repeat (first | apply Kd.R_alloc | apply Kd.R_drewN | apply Kd.R_drew)); exact HO1374.out))) (Kd.R_lt (by (with_reducible repeat (first | apply Kd.R_alloc | apply Kd.R_drewN | apply Kd.R_drew)); exact HO1383.out))) (below_size (by repeat (first | (with_reducible first | exact HB.out | apply below_alloc | apply pw_below_drewN | apply below_drew1 | refine below_set ?_ GE1353.out | refine below_set ?_ GE1354.out | refine below_set ?_ GE1371.out | refine below_set ?_ GE1379.out) | exact HB.out))))
      have n8_ := Aside0.mk (Kd.R_lower (Kd.R_new' (Kd.R_new' (Kd.R_new' (Kd.R_new' (Kd.R_new' ho1 (Kd.R_lt (by (with_reducible repeat (first | apply Kd.R_alloc | apply Kd.R_drewN | apply Kd.R_drew)); exact HO1359.out))) (Kd.R_lt (by (with_reducible repeat (first | apply Kd.R_alloc | apply Kd.R_drewN | apply Kd.R_drew)); exact HO1365.out))) (Kd.R_lt (by (with_reducible repeat (first | apply Kd.R_alloc | apply Kd.R_drewN | apply Kd.R_drew)); exact HO1370.out))) (Kd.R_lt (by (with_reducible repeat (first | apply Kd.R_alloc | apply Kd.R_drewN | apply Kd.R_drew)); exact HO1377.out))) (Kd.R_lt (by (with_reducible repeat (first | apply Kd.R_alloc | apply Kd.R_drewN | apply Kd.R_drew)); exact HO1383.out))) (below_size (by repeat (first | (with_reducible first | exact HB.out | apply below_alloc | apply pw_below_drewN | apply below_drew1 | refine below_set ?_ GE1353.out | refine below_set ?_ GE1354.out | refine below_set ?_ GE1371.out | refine below_set ?_ GE1379.out) | exact HB.out))))
      have n9_ := Aside0.mk (blk_below (g := gb1353) (o := .cells #[.slice A0_0 l0_0.length c0_0] 35 (0, 0)) (by (with_reducible repeat (first | refine blk_drewN ?_ _ | refine blk_drew ?_ | refine blk_alloc ?_ _)); exact BK1353.out) hb)
      have n10_ := Aside0.mk (blk_below (g := gb1354) (o := .cells #[.slice A1_0 l1_0.length c1_0, .slice A1_1 l1_1.length c1_1, .int .i64 a1_2] 52 (0, 0)) (by (with_reducible repeat (first | refine blk_drewN ?_ _ | refine blk_drew ?_ | refine blk_alloc ?_ _)); exact BK1354.out) hb)
      have n11_ := Aside0.mk (blk_below (g := gb1371) (o := .cells #[.slice Ao81 t1368.length co81] 41 (0, 0)) (by (with_reducible repeat (first | refine blk_drewN ?_ _ | refine blk_drew ?_ | refine blk_alloc ?_ _)); exact BK1371.out) hb)
      have n12_ := Aside0.mk (blk_below (g := gb1379) (o := .cells #[.slice Ao88 t1372.length co88, .slice Ao93 t1375.length co93, .int .i64 t1378] 57 (0, 0)) (by (with_reducible repeat (first | refine blk_drewN ?_ _ | refine blk_drew ?_ | refine blk_alloc ?_ _)); exact BK1379.out) hb)
      have n13_ := Aside0.mk (below_step (by repeat (first | (with_reducible first | exact HB.out | apply below_alloc | apply pw_below_drewN | apply below_drew1 | refine below_set ?_ GE1353.out | refine below_set ?_ GE1354.out | refine below_set ?_ GE1371.out | refine below_set ?_ GE1379.out) | exact HB.out)) hb)
      clear HO1359
      clear HO1362
      clear HO1365
      clear HO1370
      clear HO1374
      clear HO1377
      clear HO1383
      clear BK1353
      clear BK1354
      clear BK1371
      clear BK1379
      clear HB
      have HO1359 := n0_
      have HO1362 := n1_
      have HO1365 := n2_
      have HO1370 := n3_
      have HO1374 := n4_
      have HO1377 := n5_
      have HO1383 := n6_
      have HO1387 := n7_
      have HO1390 := n8_
      have BK1353 := n9_
      have BK1354 := n10_
      have BK1371 := n11_
      have BK1379 := n12_
      have HB := n13_
      clear n0_ n1_ n2_ n3_ n4_ n5_ n6_ n7_ n8_ n9_ n10_ n11_ n12_ n13_
      (try clear hb)
      (try clear hb2)
      (try clear hk)
      (try clear hi)
      (try clear ho0)
      (try clear ho1)
      obtain ⟨Ao102, co102, eo102⟩ := Kd.R_slice HO1387.out
      (first | subst eo102 | (injection eo102 with f1_ f2_ f3_; have f4_ := f1_.symm; have f5_ := f3_.symm; clear f1_ f2_ f3_; subst f4_; subst f5_))
      obtain ⟨Ao103, co103, eo103⟩ := Kd.R_slice HO1390.out
      (first | subst eo103 | (injection eo103 with f1_ f2_ f3_; have f4_ := f1_.symm; have f5_ := f3_.symm; clear f1_ f2_ f3_; subst f4_; subst f5_))
      refine hK.out _ _ ⟨(blk_cell BK1379.out 0).trans rfl, (blk_cell BK1379.out 1).trans rfl, (blk_cell BK1379.out 2).trans rfl, (blk_cell BK1354.out 0).trans rfl, (blk_cell BK1354.out 1).trans rfl, (blk_cell BK1354.out 2).trans rfl⟩ (fun hHeld => ?_)
      clear hK K
      refine norm_ (a' := ?_) ?_ ?_
      rotate_left
      ·show Act.put _ (some 42) _ = _
       simp only [Act.put, List.setIfInBounds_toArray, List.set_cons_zero, List.set_cons_succ, i64_w, i32_w]
       rfl
      refine one_ (i := 3) (N := some 43) #[true, true, true, true, false] rfl rfl (by kernel_rfl) (by decide) (fun K hK => ?_)
      refine goes_ Try.func36 (by kernel_rfl) rfl #[.agg #[.slice Ao88 t1372.length co88, .slice Ao93 t1375.length co93, .int .i64 t1378], .agg #[.slice Ao102 t1385.length co102, .slice Ao103 t1388.length co103, .int .i64 t1391]] (by rfl) rfl rfl (by (try simp only [List.map_toArray, List.map_cons, List.map_nil]); first | done | rfl | (simp only [List.length_drop, List.length_take]; rfl)) ?_
      with_reducible refine (laws_eqCache.calls k _ _ t1372 _ _ t1375 t1378 _ _ t1385 _ _ t1388 t1391 true _ ?side1 ?side2 ?side3 ?side4 ?side5 ?side6 ?side7 ?side8 A62.out).mono ?_
      (case side1 => repeat (first | exact (Kd.R_reads' HO1374.out).2.2 | (with_reducible refine Kd.C_alloc ?_ _) | (with_reducible refine Kd.C_drewN ?_ _) | (with_reducible refine Kd.C_drew ?_)))
      (case side2 => exact (Kd.R_reads' HO1374.out).2.1)
      (case side3 => repeat (first | exact (Kd.R_reads' HO1377.out).2.2 | (with_reducible refine Kd.C_alloc ?_ _) | (with_reducible refine Kd.C_drewN ?_ _) | (with_reducible refine Kd.C_drew ?_)))
      (case side4 => exact (Kd.R_reads' HO1377.out).2.1)
      (case side5 => repeat (first | exact (Kd.R_reads' HO1387.out).2.2 | (with_reducible refine Kd.C_alloc ?_ _) | (with_reducible refine Kd.C_drewN ?_ _) | (with_reducible refine Kd.C_drew ?_)))
      (case side6 => exact (Kd.R_reads' HO1387.out).2.1)
      (case side7 => repeat (first | exact (Kd.R_reads' HO1390.out).2.2 | (with_reducible refine Kd.C_alloc ?_ _) | (with_reducible refine Kd.C_drewN ?_ _) | (with_reducible refine Kd.C_drew ?_)))
      (case side8 => exact (Kd.R_reads' HO1390.out).2.1)
      rintro e w104 ⟨rfl, hb⟩
      refine ⟨_, rfl, ?_⟩
      have n0_ := Aside0.mk (Kd.R_below (by (with_reducible repeat (first | apply Kd.R_alloc | apply Kd.R_drewN | apply Kd.R_drew)); exact HO1359.out) hb)
      have n1_ := Aside0.mk (Kd.R_below (by (with_reducible repeat (first | apply Kd.R_alloc | apply Kd.R_drewN | apply Kd.R_drew)); exact HO1362.out) hb)
      have n2_ := Aside0.mk (Kd.R_below (by (with_reducible repeat (first | apply Kd.R_alloc | apply Kd.R_drewN | apply Kd.R_drew)); exact HO1365.out) hb)
      have n3_ := Aside0.mk (Kd.R_below (by (with_reducible repeat (first | apply Kd.R_alloc | apply Kd.R_drewN | apply Kd.R_drew)); exact HO1370.out) hb)
      have n4_ := Aside0.mk (Kd.R_below (by (with_reducible repeat (first | apply Kd.R_alloc | apply Kd.R_drewN | apply Kd.R_drew)); exact HO1374.out) hb)
      have n5_ := Aside0.mk (Kd.R_below (by (with_reducible repeat (first | apply Kd.R_alloc | apply Kd.R_drewN | apply Kd.R_drew)); exact HO1377.out) hb)
      have n6_ := Aside0.mk (Kd.R_below (by (with_reducible repeat (first | apply Kd.R_alloc | apply Kd.R_drewN | apply Kd.R_drew)); exact HO1383.out) hb)
      have n7_ := Aside0.mk (Kd.R_below (by (with_reducible repeat (first | apply Kd.R_alloc | apply Kd.R_drewN | apply Kd.R_drew)); exact HO1387.out) hb)
      have n8_ := Aside0.mk (Kd.R_below (by (with_reducible repeat (first | apply Kd.R_alloc | apply Kd.R_drewN | apply Kd.R_drew)); exact HO1390.out) hb)
      have n9_ := Aside0.mk (blk_below (g := gb1353) (o := .cells #[.slice A0_0 l0_0.length c0_0] 35 (0, 0)) (by (with_reducible repeat (first | refine blk_drewN ?_ _ | refine blk_drew ?_ | refine blk_alloc ?_ _)); exact BK1353.out) hb)
      have n10_ := Aside0.mk (blk_below (g := gb1354) (o := .cells #[.slice A1_0 l1_0.length c1_0, .slice A1_1 l1_1.length c1_1, .int .i64 a1_2] 52 (0, 0)) (by (with_reducible repeat (first | refine blk_drewN ?_ _ | refine blk_drew ?_ | refine blk_alloc ?_ _)); exact BK1354.out) hb)
      have n11_ := Aside0.mk (blk_below (g := gb1371) (o := .cells #[.slice Ao81 t1368.length co81] 41 (0, 0)) (by (with_reducible repeat (first | refine blk_drewN ?_ _ | refine blk_drew ?_ | refine blk_alloc ?_ _)); exact BK1371.out) hb)
      have n12_ := Aside0.mk (blk_below (g := gb1379) (o := .cells #[.slice Ao88 t1372.length co88, .slice Ao93 t1375.length co93, .int .i64 t1378] 57 (0, 0)) (by (with_reducible repeat (first | refine blk_drewN ?_ _ | refine blk_drew ?_ | refine blk_alloc ?_ _)); exact BK1379.out) hb)
      have n13_ := Aside0.mk (below_step (by repeat (first | (with_reducible first | exact HB.out | apply below_alloc | apply pw_below_drewN | apply below_drew1 | refine below_set ?_ GE1353.out | refine below_set ?_ GE1354.out | refine below_set ?_ GE1371.out | refine below_set ?_ GE1379.out) | exact HB.out)) hb)
      clear HO1359
      clear HO1362
      clear HO1365
      clear HO1370
      clear HO1374
      clear HO1377
      clear HO1383
      clear HO1387
      clear HO1390
      clear BK1353
      clear BK1354
      clear BK1371
      clear BK1379
      clear HB
      have HO1359 := n0_
      have HO1362 := n1_
      have HO1365 := n2_
      have HO1370 := n3_
      have HO1374 := n4_
      have HO1377 := n5_
      have HO1383 := n6_
      have HO1387 := n7_
      have HO1390 := n8_
      have BK1353 := n9_
      have BK1354 := n10_
      have BK1371 := n11_
      have BK1379 := n12_
      have HB := n13_
      clear n0_ n1_ n2_ n3_ n4_ n5_ n6_ n7_ n8_ n9_ n10_ n11_ n12_ n13_
      (try clear hb)
      (try clear hb2)
      (try clear hk)
      (try clear hi)
      refine hK.out _ _ ⟨(blk_cell BK1379.out 0).trans rfl, (blk_cell BK1379.out 1).trans rfl, (blk_cell BK1379.out 2).trans rfl, (blk_cell BK1354.out 0).trans rfl, (blk_cell BK1354.out 1).trans rfl, (blk_cell BK1354.out 2).trans rfl⟩ (fun hHeld => ?_)
      clear hK K
      refine norm_ (a' := ?_) ?_ ?_
      rotate_left
      ·show Act.put _ (some 43) _ = _
       simp only [Act.put, List.setIfInBounds_toArray, List.set_cons_zero, List.set_cons_succ, i64_w, i32_w]
       rfl
      refine pure_ (i := 4) (N := some 44) (v := ?_) (a' := ?_) #[true, true, true, true, true] rfl rfl (by kernel_rfl) (fun _ _ _ h => h) (Or.inl ⟨by rfl, ?_⟩) ?_ ?_
      rotate_left
      ·intro w'
       go_simp
       with_reducible rfl
      rotate_left
      ·simp only [Act.put, List.setIfInBounds_toArray, List.set_cons_zero, List.set_cons_succ, i64_w, i32_w]
       rfl
      refine done_ (by kernel_rfl) ?_
      try go_wp2
      go_ret
      exact ⟨by first | rfl | (simp [errW_none, errW_some] <;> rfl) | (simp [*, errW_none, errW_some] <;> rfl), by repeat (first | (with_reducible first | exact HB.out | apply below_alloc | apply pw_below_drewN | apply below_drew1 | refine below_set ?_ GE1353.out | refine below_set ?_ GE1354.out | refine below_set ?_ GE1371.out | refine below_set ?_ GE1379.out) | exact HB.out)⟩
     ·replace c63 := Bool.eq_false_iff.mpr c63
      subst c63
      have H1 : (some false) = some true := by rw [if_neg (show ¬ (false = true) by decide)] at H; exact H
      clear H
      have H := H1
      clear H1
      exact absurd (Option.some.inj H) (by decide)
    ·replace c60 := Bool.eq_false_iff.mpr c60
     subst c60
     have H1 : (some false) = some true := by rw [if_neg (show ¬ (false = true) by decide)] at H; exact H
     clear H
     have H := H1
     clear H1
     exact absurd (Option.some.inj H) (by decide)
end Go.Proofs.Ythebbgobncbooaa.P

