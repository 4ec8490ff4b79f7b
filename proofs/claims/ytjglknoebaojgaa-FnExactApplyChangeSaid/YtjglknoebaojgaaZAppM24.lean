/- Several texts in one: what the claim needs of them. Conditions: each declaration's own. -/
import Derived.Test.YtjglknoebaojgaaZAppM12
import Derived.Test.YtjglknoebaojgaaZAppM18
import Derived.Test.YtjglknoebaojgaaZAppPx18
import Derived.Test.YtjglknoebaojgaaZAppPx19
import Derived.Test.YtjglknoebaojgaaZAppM23
namespace Go.Proofs.Ytjglknoebaojgaa.P
open Go.Proofs.Ytjglknoebaojgaa Go.RowKit Go.Proofs.YtjglknoebaojgaaW.PrintWords Go.Proofs.YtjglknoebaojgaaW.PrintLast Go.Proofs.YtjglknoebaojgaaW.PrintMore
attribute [local go_sem] max2_int min2_int max_two min_two max_three min_three max_four min_four   -- for this text's walks alone
set_option linter.unusedVariables false
set_option linter.unusedSimpArgs false

def impl_AddFact.f (k : Nat) (l0_0 : List Int) (l1 : List (S53)) (a2_0 : Int) (l2_1 : List Int) : Option ((List (S53)) × Bool) := (impl_copyFacts.f k l1).bind fun t408 => ((impl_IsDatabase.f k l0_0 l1).bind fun t411 => (if t411 = true then ((impl_IsFact.f k l0_0 a2_0 l2_1).bind fun t412 => (if t412 = true then ((impl_HasFact.f k l1 a2_0 l2_1).bind fun t413 => (if t413 = true then (some (t408, false)) else (if (l1.length : Int) = 24 then (some (t408, false)) else ((impl_copyFact.f a2_0 l2_1).bind fun bt414 => (if t408.length < 4398046511104 then (if ((t408 ++ [(⟨bt414.1, bt414.2⟩ : S53)]).all fun x => decide (x.f1.length ≤ 1048576)) = true then (some ((PCmp.srt PCmp.cmpF (t408 ++ [(⟨bt414.1, bt414.2⟩ : S53)])), true)) else (none)) else (none)))))) else (some (t408, false)))) else (some (t408, false))))
set_option maxHeartbeats 8000000 in
set_option maxRecDepth 100000 in
theorem impl_AddFact.calls (k : Nat) (A0_0 : Option Addr) (c0_0 : Nat) (l0_0 : List Int) (A1 : Option Addr) (c1 : Nat) (l1 : List (S53)) (a2_0 : Int) (A2_1 : Option Addr) (c2_1 : Nat) (l2_1 : List Int) (r1 : List (S53)) (r2 : Bool) (w : World) (hr0_0 : Kd.C (Kd.int .i64) w A0_0 l0_0.length l0_0) (hc0_0 : l0_0.length ≤ c0_0) (hr1 : Kd.C k53 w A1 l1.length l1) (hc1 : l1.length ≤ c1) (hr2_1 : Kd.C (Kd.int .i64) w A2_1 l2_1.length l2_1) (hc2_1 : l2_1.length ≤ c2_1) (h : impl_AddFact.f k l0_0 l1 a2_0 l2_1 = some (r1, r2)) :
  Calls Try.prog 69 #[.agg #[.slice A0_0 l0_0.length c0_0], .slice A1 l1.length c1, .agg #[.int .i64 a2_0, .slice A2_1 l2_1.length c2_1]] w fun e w' => ∃ v0_ : Value, e = .returned (.tuple #[v0_, .bool r2]) ∧ Kd.S k53 53 w' w.heap.size (fun _ => True) v0_ r1 ∧ Below w.heap.size w w' := by
 have hu50 := Try.underlying50
 have hu53 := Try.underlying53
 have HR0_0 := Aside0.mk hr0_0
 have HC0_0 := Aside0.mk hc0_0
 clear hr0_0 hc0_0
 have HR1 := Aside0.mk hr1
 have HC1 := Aside0.mk hc1
 clear hr1 hc1
 have HR2_1 := Aside0.mk hr2_1
 have HC2_1 := Aside0.mk hc2_1
 clear hr2_1 hc2_1
 have HB := Aside0.mk (Below.refl w.heap.size w)
 have H : ((impl_copyFacts.f k l1).bind fun t408 => ((impl_IsDatabase.f k l0_0 l1).bind fun t411 => (if t411 = true then ((impl_IsFact.f k l0_0 a2_0 l2_1).bind fun t412 => (if t412 = true then ((impl_HasFact.f k l1 a2_0 l2_1).bind fun t413 => (if t413 = true then (some (t408, false)) else (if (l1.length : Int) = 24 then (some (t408, false)) else ((impl_copyFact.f a2_0 l2_1).bind fun bt414 => (if t408.length < 4398046511104 then (if ((t408 ++ [(⟨bt414.1, bt414.2⟩ : S53)]).all fun x => decide (x.f1.length ≤ 1048576)) = true then (some ((PCmp.srt PCmp.cmpF (t408 ++ [(⟨bt414.1, bt414.2⟩ : S53)])), true)) else (none)) else (none)))))) else (some (t408, false)))) else (some (t408, false))))) = some (r1, r2) := h
 clear h
 replace H := Option.bind_eq_some_iff.mp H
 obtain ⟨t408, A40, H⟩ := H
 replace H : ((impl_IsDatabase.f k l0_0 l1).bind fun t411 => (if t411 = true then ((impl_IsFact.f k l0_0 a2_0 l2_1).bind fun t412 => (if t412 = true then ((impl_HasFact.f k l1 a2_0 l2_1).bind fun t413 => (if t413 = true then (some (t408, false)) else (if (l1.length : Int) = 24 then (some (t408, false)) else ((impl_copyFact.f a2_0 l2_1).bind fun bt414 => (if t408.length < 4398046511104 then (if ((t408 ++ [(⟨bt414.1, bt414.2⟩ : S53)]).all fun x => decide (x.f1.length ≤ 1048576)) = true then (some ((PCmp.srt PCmp.cmpF (t408 ++ [(⟨bt414.1, bt414.2⟩ : S53)])), true)) else (none)) else (none)))))) else (some (t408, false)))) else (some (t408, false)))) = some (r1, r2) := H
 have A4 := Aside0.mk A40
 clear A40
 replace H := Option.bind_eq_some_iff.mp H
 obtain ⟨t411, A50, H⟩ := H
 replace H : (if t411 = true then ((impl_IsFact.f k l0_0 a2_0 l2_1).bind fun t412 => (if t412 = true then ((impl_HasFact.f k l1 a2_0 l2_1).bind fun t413 => (if t413 = true then (some (t408, false)) else (if (l1.length : Int) = 24 then (some (t408, false)) else ((impl_copyFact.f a2_0 l2_1).bind fun bt414 => (if t408.length < 4398046511104 then (if ((t408 ++ [(⟨bt414.1, bt414.2⟩ : S53)]).all fun x => decide (x.f1.length ≤ 1048576)) = true then (some ((PCmp.srt PCmp.cmpF (t408 ++ [(⟨bt414.1, bt414.2⟩ : S53)])), true)) else (none)) else (none)))))) else (some (t408, false)))) else (some (t408, false))) = some (r1, r2) := H
 have A5 := Aside0.mk A50
 clear A50
 by_cases c6 : t411 = true
 ·subst c6
  have H1 : ((impl_IsFact.f k l0_0 a2_0 l2_1).bind fun t412 => (if t412 = true then ((impl_HasFact.f k l1 a2_0 l2_1).bind fun t413 => (if t413 = true then (some (t408, false)) else (if (l1.length : Int) = 24 then (some (t408, false)) else ((impl_copyFact.f a2_0 l2_1).bind fun bt414 => (if t408.length < 4398046511104 then (if ((t408 ++ [(⟨bt414.1, bt414.2⟩ : S53)]).all fun x => decide (x.f1.length ≤ 1048576)) = true then (some ((PCmp.srt PCmp.cmpF (t408 ++ [(⟨bt414.1, bt414.2⟩ : S53)])), true)) else (none)) else (none)))))) else (some (t408, false)))) = some (r1, r2) := by rw [if_pos rfl] at H; exact H
  clear H
  have H := H1
  clear H1
  replace H := Option.bind_eq_some_iff.mp H
  obtain ⟨t412, A70, H⟩ := H
  replace H : (if t412 = true then ((impl_HasFact.f k l1 a2_0 l2_1).bind fun t413 => (if t413 = true then (some (t408, false)) else (if (l1.length : Int) = 24 then (some (t408, false)) else ((impl_copyFact.f a2_0 l2_1).bind fun bt414 => (if t408.length < 4398046511104 then (if ((t408 ++ [(⟨bt414.1, bt414.2⟩ : S53)]).all fun x => decide (x.f1.length ≤ 1048576)) = true then (some ((PCmp.srt PCmp.cmpF (t408 ++ [(⟨bt414.1, bt414.2⟩ : S53)])), true)) else (none)) else (none)))))) else (some (t408, false))) = some (r1, r2) := H
  have A7 := Aside0.mk A70
  clear A70
  by_cases c8 : t412 = true
  ·subst c8
   have H1 : ((impl_HasFact.f k l1 a2_0 l2_1).bind fun t413 => (if t413 = true then (some (t408, false)) else (if (l1.length : Int) = 24 then (some (t408, false)) else ((impl_copyFact.f a2_0 l2_1).bind fun bt414 => (if t408.length < 4398046511104 then (if ((t408 ++ [(⟨bt414.1, bt414.2⟩ : S53)]).all fun x => decide (x.f1.length ≤ 1048576)) = true then (some ((PCmp.srt PCmp.cmpF (t408 ++ [(⟨bt414.1, bt414.2⟩ : S53)])), true)) else (none)) else (none)))))) = some (r1, r2) := by rw [if_pos rfl] at H; exact H
   clear H
   have H := H1
   clear H1
   replace H := Option.bind_eq_some_iff.mp H
   obtain ⟨t413, A90, H⟩ := H
   replace H : (if t413 = true then (some (t408, false)) else (if (l1.length : Int) = 24 then (some (t408, false)) else ((impl_copyFact.f a2_0 l2_1).bind fun bt414 => (if t408.length < 4398046511104 then (if ((t408 ++ [(⟨bt414.1, bt414.2⟩ : S53)]).all fun x => decide (x.f1.length ≤ 1048576)) = true then (some ((PCmp.srt PCmp.cmpF (t408 ++ [(⟨bt414.1, bt414.2⟩ : S53)])), true)) else (none)) else (none))))) = some (r1, r2) := H
   have A9 := Aside0.mk A90
   clear A90
   by_cases c10 : t413 = true
   ·subst c10
    have H1 : (some (t408, false)) = some (r1, r2) := by rw [if_pos rfl] at H; exact H
    clear H
    have H := H1
    clear H1
    simp only [Option.some.injEq, Prod.mk.injEq] at H
    obtain ⟨rfl, rfl⟩ := H
    go_enter Try.func69, Try.ntmps69
    go_wp2_with (first | ((with_reducible refine gate_dst (N := 3) rfl ?_); (try (refine gate_guard (by rfl) ?_; dsimp only)); refine box_event ?hg (N := 3) ?hd (cs := #[.slice A0_0 l0_0.length c0_0]) (t := 50) ?hr ?_; (case hd => rfl); (case hg => rfl); (case hr => first | (go_simp; done) | (go_simp; rfl)); intro gb406 hg w11 hbox hb; have n0_ := Aside0.mk (below_step (by repeat (first | (with_reducible first | exact HB.out | apply below_alloc | apply pw_below_drewN | apply below_drew1) | exact HB.out)) hb); have n1_ := Aside0.mk (hbox); have n2_ := Aside0.mk ((by rw [hg]; exact (below_size (by repeat (first | (with_reducible first | exact HB.out | apply below_alloc | apply pw_below_drewN | apply below_drew1) | exact HB.out))) : w.heap.size ≤ gb406)); have n3_ := Aside0.mk ((by rw [hg]; exact (below_size (by repeat (first | (with_reducible first | exact HB.out | apply below_alloc | apply pw_below_drewN | apply below_drew1) | exact HB.out))) : w.heap.size ≤ gb406)); clear HB; have HB := n0_; have BK406 := n1_; have GW406 := n2_; have GE406 := n3_; clear n0_ n1_ n2_ n3_; clear hb hbox hg) | ((with_reducible refine gate_dst (N := 5) rfl ?_); (try (refine gate_guard (by rfl) ?_; dsimp only)); refine box_event ?hg (N := 5) ?hd (cs := #[.int .i64 a2_0, .slice A2_1 l2_1.length c2_1]) (t := 53) ?hr ?_; (case hd => rfl); (case hg => rfl); (case hr => first | (go_simp; done) | (go_simp; rfl)); intro gb407 hg w12 hbox hb; have n0_ := Aside0.mk (blk_below (g := gb406) (o := .cells #[.slice A0_0 l0_0.length c0_0] 50 (0, 0)) (by (with_reducible repeat (first | refine blk_drewN ?_ _ | refine blk_drew ?_ | refine blk_alloc ?_ _)); exact BK406.out) hb); have n1_ := Aside0.mk (below_step (by repeat (first | (with_reducible first | exact HB.out | apply below_alloc | apply pw_below_drewN | apply below_drew1 | refine below_set ?_ GE406.out) | exact HB.out)) hb); have n2_ := Aside0.mk (hbox); have n3_ := Aside0.mk ((by rw [hg]; exact (below_size (by repeat (first | (with_reducible first | exact HB.out | apply below_alloc | apply pw_below_drewN | apply below_drew1 | refine below_set ?_ GE406.out) | exact HB.out))) : w.heap.size ≤ gb407)); have n4_ := Aside0.mk ((by rw [hg]; exact (below_size (by repeat (first | (with_reducible first | exact HB.out | apply below_alloc | apply pw_below_drewN | apply below_drew1 | refine below_set ?_ GE406.out) | exact HB.out))) : w.heap.size ≤ gb407)); have n5_ := Aside0.mk ((by rw [hg]; exact Nat.ne_of_lt (blk_lt (g := gb406) (o := .cells #[.slice A0_0 l0_0.length c0_0] 50 (0, 0)) (by (with_reducible repeat (first | refine blk_drewN ?_ _ | refine blk_drew ?_ | refine blk_alloc ?_ _)); exact BK406.out)) : gb406 ≠ gb407)); have n6_ := Aside0.mk ((by rw [hg]; exact Nat.ne_of_gt (blk_lt (g := gb406) (o := .cells #[.slice A0_0 l0_0.length c0_0] 50 (0, 0)) (by (with_reducible repeat (first | refine blk_drewN ?_ _ | refine blk_drew ?_ | refine blk_alloc ?_ _)); exact BK406.out)) : gb407 ≠ gb406)); clear BK406; clear HB; have BK406 := n0_; have HB := n1_; have BK407 := n2_; have GW407 := n3_; have GE407 := n4_; have NB406_407 := n5_; have NB407_406 := n6_; clear n0_ n1_ n2_ n3_ n4_ n5_ n6_; clear hb hbox hg) | ((with_reducible refine gate_callee (f := 101) rfl ?_); refine goesL_ (some 10) rfl rfl Try.func101 (by kernel_rfl) rfl #[.slice A1 l1.length c1] rfl (by (try simp only [List.map_toArray, List.map_cons, List.map_nil]); first | done | rfl | (simp only [List.length_drop, List.length_take]; rfl)) ?_; (with_reducible refine (impl_copyFacts.calls k _ _ l1 t408 _ ?side1 ?side2 A4.out).mono ?_); (case side1 => repeat (first | exact (Kd.C_below HR1.out HB.out) | (with_reducible refine Kd.C_alloc ?_ _) | (with_reducible refine Kd.C_drewN ?_ _) | (with_reducible refine Kd.C_drew ?_))); (case side2 => exact HC1.out); rintro e w13 ⟨v409, rfl, ho0, hb⟩; refine ⟨_, rfl, ?_⟩; have n0_ := Aside0.mk (Kd.S_lower (Kd.S_newB ho0 (g := gb407) (o := .cells #[.int .i64 a2_0, .slice A2_1 l2_1.length c2_1] 53 (0, 0)) (by (with_reducible repeat (first | refine blk_drewN ?_ _ | refine blk_drew ?_ | refine blk_alloc ?_ _)); exact BK407.out)) (below_size (by repeat (first | (with_reducible first | exact HB.out | apply below_alloc | apply pw_below_drewN | apply below_drew1 | refine below_set ?_ GE406.out | refine below_set ?_ GE407.out) | exact HB.out)))); have n1_ := Aside0.mk (blk_below (g := gb406) (o := .cells #[.slice A0_0 l0_0.length c0_0] 50 (0, 0)) (by (with_reducible repeat (first | refine blk_drewN ?_ _ | refine blk_drew ?_ | refine blk_alloc ?_ _)); exact BK406.out) hb); have n2_ := Aside0.mk (blk_below (g := gb407) (o := .cells #[.int .i64 a2_0, .slice A2_1 l2_1.length c2_1] 53 (0, 0)) (by (with_reducible repeat (first | refine blk_drewN ?_ _ | refine blk_drew ?_ | refine blk_alloc ?_ _)); exact BK407.out) hb); have n3_ := Aside0.mk (below_step (by repeat (first | (with_reducible first | exact HB.out | apply below_alloc | apply pw_below_drewN | apply below_drew1 | refine below_set ?_ GE406.out | refine below_set ?_ GE407.out) | exact HB.out)) hb); clear BK406; clear BK407; clear HB; have HO410 := n0_; have BK406 := n1_; have BK407 := n2_; have HB := n3_; clear n0_ n1_ n2_ n3_; (try clear hb); (try clear hb2); (try clear hk); (try clear hi); (try clear ho0); have hnb14 := NB406_407.out; have hnc14 := NB407_406.out; have hcz15_0 : w13.cell? ⟨gb406, 0, none⟩ = some (.slice A0_0 l0_0.length c0_0) := (blk_cell BK406.out 0).trans rfl; have hfz15_0 := blk_frozen BK406.out 0) | ((with_reducible refine gate_callee (f := 99) rfl ?_); refine goesL_ (some 13) rfl rfl Try.func99 (by kernel_rfl) rfl #[.agg #[.slice A0_0 l0_0.length c0_0], .slice A1 l1.length c1] rfl (by (try simp only [List.map_toArray, List.map_cons, List.map_nil]); first | done | rfl | (simp only [List.length_drop, List.length_take]; rfl)) ?_; (with_reducible refine (impl_IsDatabase.calls k _ _ l0_0 _ _ l1 true _ ?side1 ?side2 ?side3 ?side4 A5.out).mono ?_); (case side1 => repeat (first | exact (Kd.C_below HR0_0.out HB.out) | (with_reducible refine Kd.C_alloc ?_ _) | (with_reducible refine Kd.C_drewN ?_ _) | (with_reducible refine Kd.C_drew ?_))); (case side2 => exact HC0_0.out); (case side3 => repeat (first | exact (Kd.C_below HR1.out HB.out) | (with_reducible refine Kd.C_alloc ?_ _) | (with_reducible refine Kd.C_drewN ?_ _) | (with_reducible refine Kd.C_drew ?_))); (case side4 => exact HC1.out); rintro e w16 ⟨rfl, hb⟩; refine ⟨_, rfl, ?_⟩; have n0_ := Aside0.mk (Kd.S_below (by (with_reducible repeat (first | apply Kd.S_alloc | apply Kd.S_drewN | apply Kd.S_drew)); exact HO410.out) hb); have n1_ := Aside0.mk (blk_below (g := gb406) (o := .cells #[.slice A0_0 l0_0.length c0_0] 50 (0, 0)) (by (with_reducible repeat (first | refine blk_drewN ?_ _ | refine blk_drew ?_ | refine blk_alloc ?_ _)); exact BK406.out) hb); have n2_ := Aside0.mk (blk_below (g := gb407) (o := .cells #[.int .i64 a2_0, .slice A2_1 l2_1.length c2_1] 53 (0, 0)) (by (with_reducible repeat (first | refine blk_drewN ?_ _ | refine blk_drew ?_ | refine blk_alloc ?_ _)); exact BK407.out) hb); have n3_ := Aside0.mk (below_step (by repeat (first | (with_reducible first | exact HB.out | apply below_alloc | apply pw_below_drewN | apply below_drew1 | refine below_set ?_ GE406.out | refine below_set ?_ GE407.out) | exact HB.out)) hb); clear HO410; clear BK406; clear BK407; clear HB; have HO410 := n0_; have BK406 := n1_; have BK407 := n2_; have HB := n3_; clear n0_ n1_ n2_ n3_; (try clear hb); (try clear hb2); (try clear hk); (try clear hi); have hcz17_0 : w16.cell? ⟨gb406, 0, none⟩ = some (.slice A0_0 l0_0.length c0_0) := (blk_cell BK406.out 0).trans rfl; have hfz17_0 := blk_frozen BK406.out 0; have hcz18_0 : w16.cell? ⟨gb407, 0, none⟩ = some (.int .i64 a2_0) := (blk_cell BK407.out 0).trans rfl; have hcz18_1 : w16.cell? ⟨gb407, 1, none⟩ = some (.slice A2_1 l2_1.length c2_1) := (blk_cell BK407.out 1).trans rfl; have hfz18_0 := blk_frozen BK407.out 0; have hfz18_1 := blk_frozen BK407.out 1) | (go_at_call 105; (with_reducible refine (impl_IsFact.calls k _ _ l0_0 a2_0 _ _ l2_1 true _ ?side1 ?side2 ?side3 ?side4 A7.out).mono ?_); (case side1 => repeat (first | exact (Kd.C_below HR0_0.out HB.out) | (with_reducible refine Kd.C_alloc ?_ _) | (with_reducible refine Kd.C_drewN ?_ _) | (with_reducible refine Kd.C_drew ?_))); (case side2 => exact HC0_0.out); (case side3 => repeat (first | exact (Kd.C_below HR2_1.out HB.out) | (with_reducible refine Kd.C_alloc ?_ _) | (with_reducible refine Kd.C_drewN ?_ _) | (with_reducible refine Kd.C_drew ?_))); (case side4 => exact HC2_1.out); rintro e w19 ⟨rfl, hb⟩; have n0_ := Aside0.mk (Kd.S_below (by (with_reducible repeat (first | apply Kd.S_alloc | apply Kd.S_drewN | apply Kd.S_drew)); exact HO410.out) hb); have n1_ := Aside0.mk (blk_below (g := gb406) (o := .cells #[.slice A0_0 l0_0.length c0_0] 50 (0, 0)) (by (with_reducible repeat (first | refine blk_drewN ?_ _ | refine blk_drew ?_ | refine blk_alloc ?_ _)); exact BK406.out) hb); have n2_ := Aside0.mk (blk_below (g := gb407) (o := .cells #[.int .i64 a2_0, .slice A2_1 l2_1.length c2_1] 53 (0, 0)) (by (with_reducible repeat (first | refine blk_drewN ?_ _ | refine blk_drew ?_ | refine blk_alloc ?_ _)); exact BK407.out) hb); have n3_ := Aside0.mk (below_step (by repeat (first | (with_reducible first | exact HB.out | apply below_alloc | apply pw_below_drewN | apply below_drew1 | refine below_set ?_ GE406.out | refine below_set ?_ GE407.out) | exact HB.out)) hb); clear HO410; clear BK406; clear BK407; clear HB; have HO410 := n0_; have BK406 := n1_; have BK407 := n2_; have HB := n3_; clear n0_ n1_ n2_ n3_; (try clear hb); (try clear hb2); (try clear hk); (try clear hi); have hcz20_0 : w19.cell? ⟨gb407, 0, none⟩ = some (.int .i64 a2_0) := (blk_cell BK407.out 0).trans rfl; have hcz20_1 : w19.cell? ⟨gb407, 1, none⟩ = some (.slice A2_1 l2_1.length c2_1) := (blk_cell BK407.out 1).trans rfl; have hfz20_0 := blk_frozen BK407.out 0; have hfz20_1 := blk_frozen BK407.out 1) | (go_at_call 102; (with_reducible refine (impl_HasFact.calls k _ _ l1 a2_0 _ _ l2_1 true _ ?side1 ?side2 ?side3 ?side4 A9.out).mono ?_); (case side1 => repeat (first | exact (Kd.C_below HR1.out HB.out) | (with_reducible refine Kd.C_alloc ?_ _) | (with_reducible refine Kd.C_drewN ?_ _) | (with_reducible refine Kd.C_drew ?_))); (case side2 => exact HC1.out); (case side3 => repeat (first | exact (Kd.C_below HR2_1.out HB.out) | (with_reducible refine Kd.C_alloc ?_ _) | (with_reducible refine Kd.C_drewN ?_ _) | (with_reducible refine Kd.C_drew ?_))); (case side4 => exact HC2_1.out); rintro e w21 ⟨rfl, hb⟩; have n0_ := Aside0.mk (Kd.S_below (by (with_reducible repeat (first | apply Kd.S_alloc | apply Kd.S_drewN | apply Kd.S_drew)); exact HO410.out) hb); have n1_ := Aside0.mk (blk_below (g := gb406) (o := .cells #[.slice A0_0 l0_0.length c0_0] 50 (0, 0)) (by (with_reducible repeat (first | refine blk_drewN ?_ _ | refine blk_drew ?_ | refine blk_alloc ?_ _)); exact BK406.out) hb); have n2_ := Aside0.mk (blk_below (g := gb407) (o := .cells #[.int .i64 a2_0, .slice A2_1 l2_1.length c2_1] 53 (0, 0)) (by (with_reducible repeat (first | refine blk_drewN ?_ _ | refine blk_drew ?_ | refine blk_alloc ?_ _)); exact BK407.out) hb); have n3_ := Aside0.mk (below_step (by repeat (first | (with_reducible first | exact HB.out | apply below_alloc | apply pw_below_drewN | apply below_drew1 | refine below_set ?_ GE406.out | refine below_set ?_ GE407.out) | exact HB.out)) hb); clear HO410; clear BK406; clear BK407; clear HB; have HO410 := n0_; have BK406 := n1_; have BK407 := n2_; have HB := n3_; clear n0_ n1_ n2_ n3_; (try clear hb); (try clear hb2); (try clear hk); (try clear hi)))
    go_ret2
    exact ⟨_, by first | rfl | (simp [errW_none, errW_some] <;> rfl) | (simp [*, errW_none, errW_some] <;> rfl), by (with_reducible repeat (first | apply Kd.S_alloc | apply Kd.S_drewN | apply Kd.S_drew)); exact Kd.S_mono HO410.out (fun _ hk => trivial), by repeat (first | (with_reducible first | exact HB.out | apply below_alloc | apply pw_below_drewN | apply below_drew1 | refine below_set ?_ GE406.out | refine below_set ?_ GE407.out) | exact HB.out)⟩
   ·replace c10 := Bool.eq_false_iff.mpr c10
    subst c10
    have H1 : (if (l1.length : Int) = 24 then (some (t408, false)) else ((impl_copyFact.f a2_0 l2_1).bind fun bt414 => (if t408.length < 4398046511104 then (if ((t408 ++ [(⟨bt414.1, bt414.2⟩ : S53)]).all fun x => decide (x.f1.length ≤ 1048576)) = true then (some ((PCmp.srt PCmp.cmpF (t408 ++ [(⟨bt414.1, bt414.2⟩ : S53)])), true)) else (none)) else (none)))) = some (r1, r2) := by rw [if_neg (show ¬ (false = true) by decide)] at H; exact H
    clear H
    have H := H1
    clear H1
    by_cases c22 : (l1.length : Int) = 24
    ·rw [if_pos c22] at H
     have c22b0 : ((l1.length : Int) == 24) = true := beq_iff_eq.mpr c22
     have c22b1 : ((l1.length : Int) != 24) = false := bne_eq_false_iff_eq.mpr c22
     clear c22
     simp only [Option.some.injEq, Prod.mk.injEq] at H
     obtain ⟨rfl, rfl⟩ := H
     go_enter Try.func69, Try.ntmps69
     go_wp2_with (first | ((with_reducible refine gate_dst (N := 3) rfl ?_); (try (refine gate_guard (by rfl) ?_; dsimp only)); refine box_event ?hg (N := 3) ?hd (cs := #[.slice A0_0 l0_0.length c0_0]) (t := 50) ?hr ?_; (case hd => rfl); (case hg => rfl); (case hr => first | (go_simp; done) | (go_simp; rfl)); intro gb406 hg w23 hbox hb; have n0_ := Aside0.mk (below_step (by repeat (first | (with_reducible first | exact HB.out | apply below_alloc | apply pw_below_drewN | apply below_drew1) | exact HB.out)) hb); have n1_ := Aside0.mk (hbox); have n2_ := Aside0.mk ((by rw [hg]; exact (below_size (by repeat (first | (with_reducible first | exact HB.out | apply below_alloc | apply pw_below_drewN | apply below_drew1) | exact HB.out))) : w.heap.size ≤ gb406)); have n3_ := Aside0.mk ((by rw [hg]; exact (below_size (by repeat (first | (with_reducible first | exact HB.out | apply below_alloc | apply pw_below_drewN | apply below_drew1) | exact HB.out))) : w.heap.size ≤ gb406)); clear HB; have HB := n0_; have BK406 := n1_; have GW406 := n2_; have GE406 := n3_; clear n0_ n1_ n2_ n3_; clear hb hbox hg) | ((with_reducible refine gate_dst (N := 5) rfl ?_); (try (refine gate_guard (by rfl) ?_; dsimp only)); refine box_event ?hg (N := 5) ?hd (cs := #[.int .i64 a2_0, .slice A2_1 l2_1.length c2_1]) (t := 53) ?hr ?_; (case hd => rfl); (case hg => rfl); (case hr => first | (go_simp; done) | (go_simp; rfl)); intro gb407 hg w24 hbox hb; have n0_ := Aside0.mk (blk_below (g := gb406) (o := .cells #[.slice A0_0 l0_0.length c0_0] 50 (0, 0)) (by (with_reducible repeat (first | refine blk_drewN ?_ _ | refine blk_drew ?_ | refine blk_alloc ?_ _)); exact BK406.out) hb); have n1_ := Aside0.mk (below_step (by repeat (first | (with_reducible first | exact HB.out | apply below_alloc | apply pw_below_drewN | apply below_drew1 | refine below_set ?_ GE406.out) | exact HB.out)) hb); have n2_ := Aside0.mk (hbox); have n3_ := Aside0.mk ((by rw [hg]; exact (below_size (by repeat (first | (with_reducible first | exact HB.out | apply below_alloc | apply pw_below_drewN | apply below_drew1 | refine below_set ?_ GE406.out) | exact HB.out))) : w.heap.size ≤ gb407)); have n4_ := Aside0.mk ((by rw [hg]; exact (below_size (by repeat (first | (with_reducible first | exact HB.out | apply below_alloc | apply pw_below_drewN | apply below_drew1 | refine below_set ?_ GE406.out) | exact HB.out))) : w.heap.size ≤ gb407)); have n5_ := Aside0.mk ((by rw [hg]; exact Nat.ne_of_lt (blk_lt (g := gb406) (o := .cells #[.slice A0_0 l0_0.length c0_0] 50 (0, 0)) (by (with_reducible repeat (first | refine blk_drewN ?_ _ | refine blk_drew ?_ | refine blk_alloc ?_ _)); exact BK406.out)) : gb406 ≠ gb407)); have n6_ := Aside0.mk ((by rw [hg]; exact Nat.ne_of_gt (blk_lt (g := gb406) (o := .cells #[.slice A0_0 l0_0.length c0_0] 50 (0, 0)) (by (with_reducible repeat (first | refine blk_drewN ?_ _ | refine blk_drew ?_ | refine blk_alloc ?_ _)); exact BK406.out)) : gb407 ≠ gb406)); clear BK406; clear HB; have BK406 := n0_; have HB := n1_; have BK407 := n2_; have GW407 := n3_; have GE407 := n4_; have NB406_407 := n5_; have NB407_406 := n6_; clear n0_ n1_ n2_ n3_ n4_ n5_ n6_; clear hb hbox hg) | ((with_reducible refine gate_callee (f := 101) rfl ?_); refine goesL_ (some 10) rfl rfl Try.func101 (by kernel_rfl) rfl #[.slice A1 l1.length c1] rfl (by (try simp only [List.map_toArray, List.map_cons, List.map_nil]); first | done | rfl | (simp only [List.length_drop, List.length_take]; rfl)) ?_; (with_reducible refine (impl_copyFacts.calls k _ _ l1 t408 _ ?side1 ?side2 A4.out).mono ?_); (case side1 => repeat (first | exact (Kd.C_below HR1.out HB.out) | (with_reducible refine Kd.C_alloc ?_ _) | (with_reducible refine Kd.C_drewN ?_ _) | (with_reducible refine Kd.C_drew ?_))); (case side2 => exact HC1.out); rintro e w25 ⟨v409, rfl, ho0, hb⟩; refine ⟨_, rfl, ?_⟩; have n0_ := Aside0.mk (Kd.S_lower (Kd.S_newB ho0 (g := gb407) (o := .cells #[.int .i64 a2_0, .slice A2_1 l2_1.length c2_1] 53 (0, 0)) (by (with_reducible repeat (first | refine blk_drewN ?_ _ | refine blk_drew ?_ | refine blk_alloc ?_ _)); exact BK407.out)) (below_size (by repeat (first | (with_reducible first | exact HB.out | apply below_alloc | apply pw_below_drewN | apply below_drew1 | refine below_set ?_ GE406.out | refine below_set ?_ GE407.out) | exact HB.out)))); have n1_ := Aside0.mk (blk_below (g := gb406) (o := .cells #[.slice A0_0 l0_0.length c0_0] 50 (0, 0)) (by (with_reducible repeat (first | refine blk_drewN ?_ _ | refine blk_drew ?_ | refine blk_alloc ?_ _)); exact BK406.out) hb); have n2_ := Aside0.mk (blk_below (g := gb407) (o := .cells #[.int .i64 a2_0, .slice A2_1 l2_1.length c2_1] 53 (0, 0)) (by (with_reducible repeat (first | refine blk_drewN ?_ _ | refine blk_drew ?_ | refine blk_alloc ?_ _)); exact BK407.out) hb); have n3_ := Aside0.mk (below_step (by repeat (first | (with_reducible first | exact HB.out | apply below_alloc | apply pw_below_drewN | apply below_drew1 | refine below_set ?_ GE406.out | refine below_set ?_ GE407.out) | exact HB.out)) hb); clear BK406; clear BK407; clear HB; have HO410 := n0_; have BK406 := n1_; have BK407 := n2_; have HB := n3_; clear n0_ n1_ n2_ n3_; (try clear hb); (try clear hb2); (try clear hk); (try clear hi); (try clear ho0); have hnb26 := NB406_407.out; have hnc26 := NB407_406.out; have hcz27_0 : w25.cell? ⟨gb406, 0, none⟩ = some (.slice A0_0 l0_0.length c0_0) := (blk_cell BK406.out 0).trans rfl; have hfz27_0 := blk_frozen BK406.out 0) | ((with_reducible refine gate_callee (f := 99) rfl ?_); refine goesL_ (some 13) rfl rfl Try.func99 (by kernel_rfl) rfl #[.agg #[.slice A0_0 l0_0.length c0_0], .slice A1 l1.length c1] rfl (by (try simp only [List.map_toArray, List.map_cons, List.map_nil]); first | done | rfl | (simp only [List.length_drop, List.length_take]; rfl)) ?_; (with_reducible refine (impl_IsDatabase.calls k _ _ l0_0 _ _ l1 true _ ?side1 ?side2 ?side3 ?side4 A5.out).mono ?_); (case side1 => repeat (first | exact (Kd.C_below HR0_0.out HB.out) | (with_reducible refine Kd.C_alloc ?_ _) | (with_reducible refine Kd.C_drewN ?_ _) | (with_reducible refine Kd.C_drew ?_))); (case side2 => exact HC0_0.out); (case side3 => repeat (first | exact (Kd.C_below HR1.out HB.out) | (with_reducible refine Kd.C_alloc ?_ _) | (with_reducible refine Kd.C_drewN ?_ _) | (with_reducible refine Kd.C_drew ?_))); (case side4 => exact HC1.out); rintro e w28 ⟨rfl, hb⟩; refine ⟨_, rfl, ?_⟩; have n0_ := Aside0.mk (Kd.S_below (by (with_reducible repeat (first | apply Kd.S_alloc | apply Kd.S_drewN | apply Kd.S_drew)); exact HO410.out) hb); have n1_ := Aside0.mk (blk_below (g := gb406) (o := .cells #[.slice A0_0 l0_0.length c0_0] 50 (0, 0)) (by (with_reducible repeat (first | refine blk_drewN ?_ _ | refine blk_drew ?_ | refine blk_alloc ?_ _)); exact BK406.out) hb); have n2_ := Aside0.mk (blk_below (g := gb407) (o := .cells #[.int .i64 a2_0, .slice A2_1 l2_1.length c2_1] 53 (0, 0)) (by (with_reducible repeat (first | refine blk_drewN ?_ _ | refine blk_drew ?_ | refine blk_alloc ?_ _)); exact BK407.out) hb); have n3_ := Aside0.mk (below_step (by repeat (first | (with_reducible first | exact HB.out | apply below_alloc | apply pw_below_drewN | apply below_drew1 | refine below_set ?_ GE406.out | refine below_set ?_ GE407.out) | exact HB.out)) hb); clear HO410; clear BK406; clear BK407; clear HB; have HO410 := n0_; have BK406 := n1_; have BK407 := n2_; have HB := n3_; clear n0_ n1_ n2_ n3_; (try clear hb); (try clear hb2); (try clear hk); (try clear hi); have hcz29_0 : w28.cell? ⟨gb406, 0, none⟩ = some (.slice A0_0 l0_0.length c0_0) := (blk_cell BK406.out 0).trans rfl; have hfz29_0 := blk_frozen BK406.out 0; have hcz30_0 : w28.cell? ⟨gb407, 0, none⟩ = some (.int .i64 a2_0) := (blk_cell BK407.out 0).trans rfl; have hcz30_1 : w28.cell? ⟨gb407, 1, none⟩ = some (.slice A2_1 l2_1.length c2_1) := (blk_cell BK407.out 1).trans rfl; have hfz30_0 := blk_frozen BK407.out 0; have hfz30_1 := blk_frozen BK407.out 1) | (go_at_call 105; (with_reducible refine (impl_IsFact.calls k _ _ l0_0 a2_0 _ _ l2_1 true _ ?side1 ?side2 ?side3 ?side4 A7.out).mono ?_); (case side1 => repeat (first | exact (Kd.C_below HR0_0.out HB.out) | (with_reducible refine Kd.C_alloc ?_ _) | (with_reducible refine Kd.C_drewN ?_ _) | (with_reducible refine Kd.C_drew ?_))); (case side2 => exact HC0_0.out); (case side3 => repeat (first | exact (Kd.C_below HR2_1.out HB.out) | (with_reducible refine Kd.C_alloc ?_ _) | (with_reducible refine Kd.C_drewN ?_ _) | (with_reducible refine Kd.C_drew ?_))); (case side4 => exact HC2_1.out); rintro e w31 ⟨rfl, hb⟩; have n0_ := Aside0.mk (Kd.S_below (by (with_reducible repeat (first | apply Kd.S_alloc | apply Kd.S_drewN | apply Kd.S_drew)); exact HO410.out) hb); have n1_ := Aside0.mk (blk_below (g := gb406) (o := .cells #[.slice A0_0 l0_0.length c0_0] 50 (0, 0)) (by (with_reducible repeat (first | refine blk_drewN ?_ _ | refine blk_drew ?_ | refine blk_alloc ?_ _)); exact BK406.out) hb); have n2_ := Aside0.mk (blk_below (g := gb407) (o := .cells #[.int .i64 a2_0, .slice A2_1 l2_1.length c2_1] 53 (0, 0)) (by (with_reducible repeat (first | refine blk_drewN ?_ _ | refine blk_drew ?_ | refine blk_alloc ?_ _)); exact BK407.out) hb); have n3_ := Aside0.mk (below_step (by repeat (first | (with_reducible first | exact HB.out | apply below_alloc | apply pw_below_drewN | apply below_drew1 | refine below_set ?_ GE406.out | refine below_set ?_ GE407.out) | exact HB.out)) hb); clear HO410; clear BK406; clear BK407; clear HB; have HO410 := n0_; have BK406 := n1_; have BK407 := n2_; have HB := n3_; clear n0_ n1_ n2_ n3_; (try clear hb); (try clear hb2); (try clear hk); (try clear hi); have hcz32_0 : w31.cell? ⟨gb407, 0, none⟩ = some (.int .i64 a2_0) := (blk_cell BK407.out 0).trans rfl; have hcz32_1 : w31.cell? ⟨gb407, 1, none⟩ = some (.slice A2_1 l2_1.length c2_1) := (blk_cell BK407.out 1).trans rfl; have hfz32_0 := blk_frozen BK407.out 0; have hfz32_1 := blk_frozen BK407.out 1) | (go_at_call 102; (with_reducible refine (impl_HasFact.calls k _ _ l1 a2_0 _ _ l2_1 false _ ?side1 ?side2 ?side3 ?side4 A9.out).mono ?_); (case side1 => repeat (first | exact (Kd.C_below HR1.out HB.out) | (with_reducible refine Kd.C_alloc ?_ _) | (with_reducible refine Kd.C_drewN ?_ _) | (with_reducible refine Kd.C_drew ?_))); (case side2 => exact HC1.out); (case side3 => repeat (first | exact (Kd.C_below HR2_1.out HB.out) | (with_reducible refine Kd.C_alloc ?_ _) | (with_reducible refine Kd.C_drewN ?_ _) | (with_reducible refine Kd.C_drew ?_))); (case side4 => exact HC2_1.out); rintro e w33 ⟨rfl, hb⟩; have n0_ := Aside0.mk (Kd.S_below (by (with_reducible repeat (first | apply Kd.S_alloc | apply Kd.S_drewN | apply Kd.S_drew)); exact HO410.out) hb); have n1_ := Aside0.mk (blk_below (g := gb406) (o := .cells #[.slice A0_0 l0_0.length c0_0] 50 (0, 0)) (by (with_reducible repeat (first | refine blk_drewN ?_ _ | refine blk_drew ?_ | refine blk_alloc ?_ _)); exact BK406.out) hb); have n2_ := Aside0.mk (blk_below (g := gb407) (o := .cells #[.int .i64 a2_0, .slice A2_1 l2_1.length c2_1] 53 (0, 0)) (by (with_reducible repeat (first | refine blk_drewN ?_ _ | refine blk_drew ?_ | refine blk_alloc ?_ _)); exact BK407.out) hb); have n3_ := Aside0.mk (below_step (by repeat (first | (with_reducible first | exact HB.out | apply below_alloc | apply pw_below_drewN | apply below_drew1 | refine below_set ?_ GE406.out | refine below_set ?_ GE407.out) | exact HB.out)) hb); clear HO410; clear BK406; clear BK407; clear HB; have HO410 := n0_; have BK406 := n1_; have BK407 := n2_; have HB := n3_; clear n0_ n1_ n2_ n3_; (try clear hb); (try clear hb2); (try clear hk); (try clear hi)))
     go_ret2
     exact ⟨_, by first | rfl | (simp [errW_none, errW_some] <;> rfl) | (simp [*, errW_none, errW_some] <;> rfl), by (with_reducible repeat (first | apply Kd.S_alloc | apply Kd.S_drewN | apply Kd.S_drew)); exact Kd.S_mono HO410.out (fun _ hk => trivial), by repeat (first | (with_reducible first | exact HB.out | apply below_alloc | apply pw_below_drewN | apply below_drew1 | refine below_set ?_ GE406.out | refine below_set ?_ GE407.out) | exact HB.out)⟩
    ·rw [if_neg c22] at H
     have c22b0 : ((l1.length : Int) == 24) = false := beq_eq_false_iff_ne.mpr c22
     have c22b1 : ((l1.length : Int) != 24) = true := bne_iff_ne.mpr c22
     replace H := Option.bind_eq_some_iff.mp H
     obtain ⟨⟨t414, t415⟩, A340, H⟩ := H
     replace H : (if t408.length < 4398046511104 then (if ((t408 ++ [(⟨t414, t415⟩ : S53)]).all fun x => decide (x.f1.length ≤ 1048576)) = true then (some ((PCmp.srt PCmp.cmpF (t408 ++ [(⟨t414, t415⟩ : S53)])), true)) else (none)) else (none)) = some (r1, r2) := H
     have A34 := Aside0.mk A340
     clear A340
     by_cases c35 : t408.length < 4398046511104
     ·rw [if_pos c35] at H
      have LMc35 := Aside0.mk c35
      clear c35
      by_cases cAll : ((t408 ++ [(⟨t414, t415⟩ : S53)]).all fun x => decide (x.f1.length ≤ 1048576)) = true
      rotate_left
      ·rw [if_neg cAll] at H; exact absurd H (by simp)
      rw [if_pos cAll] at H
      have LB_ := Aside0.mk (show ∀ x ∈ (t408 ++ [(⟨t414, t415⟩ : S53)]), _ from fun x hx => of_decide_eq_true (List.all_eq_true.1 cAll x hx))
      clear cAll
      obtain ⟨y418, hy418⟩ : ∃ y_ : List (S53), y_ = (t408 ++ [(⟨t414, t415⟩ : S53)]) := ⟨_, rfl⟩
      replace H : (some ((PCmp.srt PCmp.cmpF y418), true)) = some (r1, r2) := by first | (rw [hy418]; with_reducible exact H) | (have H2_ := (Option.bind_some _ _).symm.trans H; rw [hy418]; with_reducible exact H2_) | (have H2_ := (Option.bind_some _ _).symm.trans H; with_reducible exact H2_) | with_reducible exact H | (rw [hy418]; exact H) | exact H
      have Ny418 := Aside0.mk hy418
      clear hy418
      simp only [Option.some.injEq, Prod.mk.injEq] at H
      obtain ⟨rfl, rfl⟩ := H
      go_enter Try.func69, Try.ntmps69
      go_wp2_with (first | ((with_reducible refine gate_dst (N := 3) rfl ?_); (try (refine gate_guard (by rfl) ?_; dsimp only)); refine box_event ?hg (N := 3) ?hd (cs := #[.slice A0_0 l0_0.length c0_0]) (t := 50) ?hr ?_; (case hd => rfl); (case hg => rfl); (case hr => first | (go_simp; done) | (go_simp; rfl)); intro gb406 hg w36 hbox hb; have n0_ := Aside0.mk (below_step (by repeat (first | (with_reducible first | exact HB.out | apply below_alloc | apply pw_below_drewN | apply below_drew1) | exact HB.out)) hb); have n1_ := Aside0.mk (hbox); have n2_ := Aside0.mk ((by rw [hg]; exact (below_size (by repeat (first | (with_reducible first | exact HB.out | apply below_alloc | apply pw_below_drewN | apply below_drew1) | exact HB.out))) : w.heap.size ≤ gb406)); have n3_ := Aside0.mk ((by rw [hg]; exact (below_size (by repeat (first | (with_reducible first | exact HB.out | apply below_alloc | apply pw_below_drewN | apply below_drew1) | exact HB.out))) : w.heap.size ≤ gb406)); clear HB; have HB := n0_; have BK406 := n1_; have GW406 := n2_; have GE406 := n3_; clear n0_ n1_ n2_ n3_; clear hb hbox hg) | ((with_reducible refine gate_dst (N := 5) rfl ?_); (try (refine gate_guard (by rfl) ?_; dsimp only)); refine box_event ?hg (N := 5) ?hd (cs := #[.int .i64 a2_0, .slice A2_1 l2_1.length c2_1]) (t := 53) ?hr ?_; (case hd => rfl); (case hg => rfl); (case hr => first | (go_simp; done) | (go_simp; rfl)); intro gb407 hg w37 hbox hb; have n0_ := Aside0.mk (blk_below (g := gb406) (o := .cells #[.slice A0_0 l0_0.length c0_0] 50 (0, 0)) (by (with_reducible repeat (first | refine blk_drewN ?_ _ | refine blk_drew ?_ | refine blk_alloc ?_ _)); exact BK406.out) hb); have n1_ := Aside0.mk (below_step (by repeat (first | (with_reducible first | exact HB.out | apply below_alloc | apply pw_below_drewN | apply below_drew1 | refine below_set ?_ GE406.out) | exact HB.out)) hb); have n2_ := Aside0.mk (hbox); have n3_ := Aside0.mk ((by rw [hg]; exact (below_size (by repeat (first | (with_reducible first | exact HB.out | apply below_alloc | apply pw_below_drewN | apply below_drew1 | refine below_set ?_ GE406.out) | exact HB.out))) : w.heap.size ≤ gb407)); have n4_ := Aside0.mk ((by rw [hg]; exact (below_size (by repeat (first | (with_reducible first | exact HB.out | apply below_alloc | apply pw_below_drewN | apply below_drew1 | refine below_set ?_ GE406.out) | exact HB.out))) : w.heap.size ≤ gb407)); have n5_ := Aside0.mk ((by rw [hg]; exact Nat.ne_of_lt (blk_lt (g := gb406) (o := .cells #[.slice A0_0 l0_0.length c0_0] 50 (0, 0)) (by (with_reducible repeat (first | refine blk_drewN ?_ _ | refine blk_drew ?_ | refine blk_alloc ?_ _)); exact BK406.out)) : gb406 ≠ gb407)); have n6_ := Aside0.mk ((by rw [hg]; exact Nat.ne_of_gt (blk_lt (g := gb406) (o := .cells #[.slice A0_0 l0_0.length c0_0] 50 (0, 0)) (by (with_reducible repeat (first | refine blk_drewN ?_ _ | refine blk_drew ?_ | refine blk_alloc ?_ _)); exact BK406.out)) : gb407 ≠ gb406)); clear BK406; clear HB; have BK406 := n0_; have HB := n1_; have BK407 := n2_; have GW407 := n3_; have GE407 := n4_; have NB406_407 := n5_; have NB407_406 := n6_; clear n0_ n1_ n2_ n3_ n4_ n5_ n6_; clear hb hbox hg) | ((with_reducible refine gate_callee (f := 101) rfl ?_); refine goesL_ (some 10) rfl rfl Try.func101 (by kernel_rfl) rfl #[.slice A1 l1.length c1] rfl (by (try simp only [List.map_toArray, List.map_cons, List.map_nil]); first | done | rfl | (simp only [List.length_drop, List.length_take]; rfl)) ?_; (with_reducible refine (impl_copyFacts.calls k _ _ l1 t408 _ ?side1 ?side2 A4.out).mono ?_); (case side1 => repeat (first | exact (Kd.C_below HR1.out HB.out) | (with_reducible refine Kd.C_alloc ?_ _) | (with_reducible refine Kd.C_drewN ?_ _) | (with_reducible refine Kd.C_drew ?_))); (case side2 => exact HC1.out); rintro e w38 ⟨v409, rfl, ho0, hb⟩; refine ⟨_, rfl, ?_⟩; have n0_ := Aside0.mk (Kd.S_lower (Kd.S_newB ho0 (g := gb407) (o := .cells #[.int .i64 a2_0, .slice A2_1 l2_1.length c2_1] 53 (0, 0)) (by (with_reducible repeat (first | refine blk_drewN ?_ _ | refine blk_drew ?_ | refine blk_alloc ?_ _)); exact BK407.out)) (below_size (by repeat (first | (with_reducible first | exact HB.out | apply below_alloc | apply pw_below_drewN | apply below_drew1 | refine below_set ?_ GE406.out | refine below_set ?_ GE407.out) | exact HB.out)))); have n1_ := Aside0.mk (blk_below (g := gb406) (o := .cells #[.slice A0_0 l0_0.length c0_0] 50 (0, 0)) (by (with_reducible repeat (first | refine blk_drewN ?_ _ | refine blk_drew ?_ | refine blk_alloc ?_ _)); exact BK406.out) hb); have n2_ := Aside0.mk (blk_below (g := gb407) (o := .cells #[.int .i64 a2_0, .slice A2_1 l2_1.length c2_1] 53 (0, 0)) (by (with_reducible repeat (first | refine blk_drewN ?_ _ | refine blk_drew ?_ | refine blk_alloc ?_ _)); exact BK407.out) hb); have n3_ := Aside0.mk (below_step (by repeat (first | (with_reducible first | exact HB.out | apply below_alloc | apply pw_below_drewN | apply below_drew1 | refine below_set ?_ GE406.out | refine below_set ?_ GE407.out) | exact HB.out)) hb); clear BK406; clear BK407; clear HB; have HO410 := n0_; have BK406 := n1_; have BK407 := n2_; have HB := n3_; clear n0_ n1_ n2_ n3_; (try clear hb); (try clear hb2); (try clear hk); (try clear hi); (try clear ho0); have hnb39 := NB406_407.out; have hnc39 := NB407_406.out; have hcz40_0 : w38.cell? ⟨gb406, 0, none⟩ = some (.slice A0_0 l0_0.length c0_0) := (blk_cell BK406.out 0).trans rfl; have hfz40_0 := blk_frozen BK406.out 0) | ((with_reducible refine gate_callee (f := 99) rfl ?_); refine goesL_ (some 13) rfl rfl Try.func99 (by kernel_rfl) rfl #[.agg #[.slice A0_0 l0_0.length c0_0], .slice A1 l1.length c1] rfl (by (try simp only [List.map_toArray, List.map_cons, List.map_nil]); first | done | rfl | (simp only [List.length_drop, List.length_take]; rfl)) ?_; (with_reducible refine (impl_IsDatabase.calls k _ _ l0_0 _ _ l1 true _ ?side1 ?side2 ?side3 ?side4 A5.out).mono ?_); (case side1 => repeat (first | exact (Kd.C_below HR0_0.out HB.out) | (with_reducible refine Kd.C_alloc ?_ _) | (with_reducible refine Kd.C_drewN ?_ _) | (with_reducible refine Kd.C_drew ?_))); (case side2 => exact HC0_0.out); (case side3 => repeat (first | exact (Kd.C_below HR1.out HB.out) | (with_reducible refine Kd.C_alloc ?_ _) | (with_reducible refine Kd.C_drewN ?_ _) | (with_reducible refine Kd.C_drew ?_))); (case side4 => exact HC1.out); rintro e w41 ⟨rfl, hb⟩; refine ⟨_, rfl, ?_⟩; have n0_ := Aside0.mk (Kd.S_below (by (with_reducible repeat (first | apply Kd.S_alloc | apply Kd.S_drewN | apply Kd.S_drew)); exact HO410.out) hb); have n1_ := Aside0.mk (blk_below (g := gb406) (o := .cells #[.slice A0_0 l0_0.length c0_0] 50 (0, 0)) (by (with_reducible repeat (first | refine blk_drewN ?_ _ | refine blk_drew ?_ | refine blk_alloc ?_ _)); exact BK406.out) hb); have n2_ := Aside0.mk (blk_below (g := gb407) (o := .cells #[.int .i64 a2_0, .slice A2_1 l2_1.length c2_1] 53 (0, 0)) (by (with_reducible repeat (first | refine blk_drewN ?_ _ | refine blk_drew ?_ | refine blk_alloc ?_ _)); exact BK407.out) hb); have n3_ := Aside0.mk (below_step (by repeat (first | (with_reducible first | exact HB.out | apply below_alloc | apply pw_below_drewN | apply below_drew1 | refine below_set ?_ GE406.out | refine below_set ?_ GE407.out) | exact HB.out)) hb); clear HO410; clear BK406; clear BK407; clear HB; have HO410 := n0_; have BK406 := n1_; have BK407 := n2_; have HB := n3_; clear n0_ n1_ n2_ n3_; (try clear hb); (try clear hb2); (try clear hk); (try clear hi); have hcz42_0 : w41.cell? ⟨gb406, 0, none⟩ = some (.slice A0_0 l0_0.length c0_0) := (blk_cell BK406.out 0).trans rfl; have hfz42_0 := blk_frozen BK406.out 0; have hcz43_0 : w41.cell? ⟨gb407, 0, none⟩ = some (.int .i64 a2_0) := (blk_cell BK407.out 0).trans rfl; have hcz43_1 : w41.cell? ⟨gb407, 1, none⟩ = some (.slice A2_1 l2_1.length c2_1) := (blk_cell BK407.out 1).trans rfl; have hfz43_0 := blk_frozen BK407.out 0; have hfz43_1 := blk_frozen BK407.out 1) | (go_at_call 105; (with_reducible refine (impl_IsFact.calls k _ _ l0_0 a2_0 _ _ l2_1 true _ ?side1 ?side2 ?side3 ?side4 A7.out).mono ?_); (case side1 => repeat (first | exact (Kd.C_below HR0_0.out HB.out) | (with_reducible refine Kd.C_alloc ?_ _) | (with_reducible refine Kd.C_drewN ?_ _) | (with_reducible refine Kd.C_drew ?_))); (case side2 => exact HC0_0.out); (case side3 => repeat (first | exact (Kd.C_below HR2_1.out HB.out) | (with_reducible refine Kd.C_alloc ?_ _) | (with_reducible refine Kd.C_drewN ?_ _) | (with_reducible refine Kd.C_drew ?_))); (case side4 => exact HC2_1.out); rintro e w44 ⟨rfl, hb⟩; have n0_ := Aside0.mk (Kd.S_below (by (with_reducible repeat (first | apply Kd.S_alloc | apply Kd.S_drewN | apply Kd.S_drew)); exact HO410.out) hb); have n1_ := Aside0.mk (blk_below (g := gb406) (o := .cells #[.slice A0_0 l0_0.length c0_0] 50 (0, 0)) (by (with_reducible repeat (first | refine blk_drewN ?_ _ | refine blk_drew ?_ | refine blk_alloc ?_ _)); exact BK406.out) hb); have n2_ := Aside0.mk (blk_below (g := gb407) (o := .cells #[.int .i64 a2_0, .slice A2_1 l2_1.length c2_1] 53 (0, 0)) (by (with_reducible repeat (first | refine blk_drewN ?_ _ | refine blk_drew ?_ | refine blk_alloc ?_ _)); exact BK407.out) hb); have n3_ := Aside0.mk (below_step (by repeat (first | (with_reducible first | exact HB.out | apply below_alloc | apply pw_below_drewN | apply below_drew1 | refine below_set ?_ GE406.out | refine below_set ?_ GE407.out) | exact HB.out)) hb); clear HO410; clear BK406; clear BK407; clear HB; have HO410 := n0_; have BK406 := n1_; have BK407 := n2_; have HB := n3_; clear n0_ n1_ n2_ n3_; (try clear hb); (try clear hb2); (try clear hk); (try clear hi); have hcz45_0 : w44.cell? ⟨gb407, 0, none⟩ = some (.int .i64 a2_0) := (blk_cell BK407.out 0).trans rfl; have hcz45_1 : w44.cell? ⟨gb407, 1, none⟩ = some (.slice A2_1 l2_1.length c2_1) := (blk_cell BK407.out 1).trans rfl; have hfz45_0 := blk_frozen BK407.out 0; have hfz45_1 := blk_frozen BK407.out 1) | (go_at_call 102; (with_reducible refine (impl_HasFact.calls k _ _ l1 a2_0 _ _ l2_1 false _ ?side1 ?side2 ?side3 ?side4 A9.out).mono ?_); (case side1 => repeat (first | exact (Kd.C_below HR1.out HB.out) | (with_reducible refine Kd.C_alloc ?_ _) | (with_reducible refine Kd.C_drewN ?_ _) | (with_reducible refine Kd.C_drew ?_))); (case side2 => exact HC1.out); (case side3 => repeat (first | exact (Kd.C_below HR2_1.out HB.out) | (with_reducible refine Kd.C_alloc ?_ _) | (with_reducible refine Kd.C_drewN ?_ _) | (with_reducible refine Kd.C_drew ?_))); (case side4 => exact HC2_1.out); rintro e w46 ⟨rfl, hb⟩; have n0_ := Aside0.mk (Kd.S_below (by (with_reducible repeat (first | apply Kd.S_alloc | apply Kd.S_drewN | apply Kd.S_drew)); exact HO410.out) hb); have n1_ := Aside0.mk (blk_below (g := gb406) (o := .cells #[.slice A0_0 l0_0.length c0_0] 50 (0, 0)) (by (with_reducible repeat (first | refine blk_drewN ?_ _ | refine blk_drew ?_ | refine blk_alloc ?_ _)); exact BK406.out) hb); have n2_ := Aside0.mk (blk_below (g := gb407) (o := .cells #[.int .i64 a2_0, .slice A2_1 l2_1.length c2_1] 53 (0, 0)) (by (with_reducible repeat (first | refine blk_drewN ?_ _ | refine blk_drew ?_ | refine blk_alloc ?_ _)); exact BK407.out) hb); have n3_ := Aside0.mk (below_step (by repeat (first | (with_reducible first | exact HB.out | apply below_alloc | apply pw_below_drewN | apply below_drew1 | refine below_set ?_ GE406.out | refine below_set ?_ GE407.out) | exact HB.out)) hb); clear HO410; clear BK406; clear BK407; clear HB; have HO410 := n0_; have BK406 := n1_; have BK407 := n2_; have HB := n3_; clear n0_ n1_ n2_ n3_; (try clear hb); (try clear hb2); (try clear hk); (try clear hi); have hcz47_0 : w46.cell? ⟨gb407, 0, none⟩ = some (.int .i64 a2_0) := (blk_cell BK407.out 0).trans rfl; have hcz47_1 : w46.cell? ⟨gb407, 1, none⟩ = some (.slice A2_1 l2_1.length c2_1) := (blk_cell BK407.out 1).trans rfl; have hfz47_0 := blk_frozen BK407.out 0; have hfz47_1 := blk_frozen BK407.out 1) | ((with_reducible refine gate_callee (f := 104) rfl ?_); refine goesL_ (some 34) rfl rfl Try.func104 (by kernel_rfl) rfl #[.agg #[.int .i64 a2_0, .slice A2_1 l2_1.length c2_1]] rfl (by (try simp only [List.map_toArray, List.map_cons, List.map_nil]); first | done | rfl | (simp only [List.length_drop, List.length_take]; rfl)) ?_; (with_reducible refine (impl_copyFact.calls a2_0 _ _ l2_1 t414 t415 _ ?side1 ?side2 A34.out).mono ?_); (case side1 => repeat (first | exact (Kd.C_below HR2_1.out HB.out) | (with_reducible refine Kd.C_alloc ?_ _) | (with_reducible refine Kd.C_drewN ?_ _) | (with_reducible refine Kd.C_drew ?_))); (case side2 => exact HC2_1.out); rintro e w48 ⟨v416, rfl, ho0, hb⟩; refine ⟨_, rfl, ?_⟩; have n0_ := Aside0.mk (Kd.S_elder' (by (with_reducible repeat (first | apply Kd.S_alloc | apply Kd.S_drewN | apply Kd.S_drew)); exact HO410.out) (Kd.R_base ho0) hb); have n1_ := Aside0.mk (Kd.R_lower ho0 (below_size (by repeat (first | (with_reducible first | exact HB.out | apply below_alloc | apply pw_below_drewN | apply below_drew1 | refine below_set ?_ GE406.out | refine below_set ?_ GE407.out) | exact HB.out)))); have n2_ := Aside0.mk (blk_below (g := gb406) (o := .cells #[.slice A0_0 l0_0.length c0_0] 50 (0, 0)) (by (with_reducible repeat (first | refine blk_drewN ?_ _ | refine blk_drew ?_ | refine blk_alloc ?_ _)); exact BK406.out) hb); have n3_ := Aside0.mk (blk_below (g := gb407) (o := .cells #[.int .i64 a2_0, .slice A2_1 l2_1.length c2_1] 53 (0, 0)) (by (with_reducible repeat (first | refine blk_drewN ?_ _ | refine blk_drew ?_ | refine blk_alloc ?_ _)); exact BK407.out) hb); have n4_ := Aside0.mk (below_step (by repeat (first | (with_reducible first | exact HB.out | apply below_alloc | apply pw_below_drewN | apply below_drew1 | refine below_set ?_ GE406.out | refine below_set ?_ GE407.out) | exact HB.out)) hb); clear HO410; clear BK406; clear BK407; clear HB; have HO410 := n0_; have HO417 := n1_; have BK406 := n2_; have BK407 := n3_; have HB := n4_; clear n0_ n1_ n2_ n3_ n4_; (try clear hb); (try clear hb2); (try clear hk); (try clear hi); (try clear ho0); obtain ⟨Ao50, co50, eo50⟩ := Kd.R_slice HO417.out; subst eo50) | ((with_reducible refine gate_builtin (b := .append) (xs := #[.tmp 32, .tmp 35]) rfl ?_); (try (refine gate_guard (by rfl) ?_; dsimp only)); at_builtin; refine Kd.S_append k53 (w0 := w) w.heap.size rfl (.tmp 32) (.tmp 35) 45 53 (.agg #[(.int .i64 0), (.slice none 0 0)]) 32 rfl Try.underlying45 info53 rfl (by decide) (by omega) v409 t408 (⟨t414, t415⟩ : S53) [.int .i64 t414, .slice Ao50 t415.length co50] (fun k_ => k_ ≠ gb407) (fun k_ => some k_ = (.slice Ao50 t415.length co50 : Value).ownBlock) rfl rfl ?aP (fun k_ hk_ => ((Kd.R_mono (ok' := fun k_ => ((fun k_ => k_ ≠ gb407)) k_ ∧ some k_ ≠ (v409 : Value).ownBlock) (Kd.R_types (Kd.R_apart' (HO417.out) (Kd.S_typed HO410.out) (by decide)) BK407.out (by decide)) (fun k_ hk => ⟨hk.2, hk.1.2⟩))).1 k_ hk_.symm) ?aF ?aO ?aB ?aS ?aL ?_; (case aP => exact k53_mkM _ _ _ (⟨t414, t415⟩ : S53) (Kd.R_mono (Kd.R_tight rfl (Kd.R_mono (ok' := fun k_ => ((fun k_ => k_ ≠ gb407)) k_ ∧ some k_ ≠ (v409 : Value).ownBlock) (Kd.R_types (Kd.R_apart' (HO417.out) (Kd.S_typed HO410.out) (by decide)) BK407.out (by decide)) (fun k_ hk => ⟨hk.2, hk.1.2⟩))) (fun _ h_ => h_))); (case aB => exact (by repeat (first | (with_reducible first | exact HB.out | apply below_alloc | apply pw_below_drewN | apply below_drew1 | refine below_set ?_ GE406.out | refine below_set ?_ GE407.out) | exact HB.out))); (case aF => exact (fun k_ hk => Kd.freshB (g := gb407) (o := .cells #[.int .i64 a2_0, .slice A2_1 l2_1.length c2_1] 53 (0, 0)) (by (with_reducible repeat (first | refine blk_drewN ?_ _ | refine blk_drew ?_ | refine blk_alloc ?_ _)); exact BK407.out) k_ hk)); (case aO => exact (by (with_reducible repeat (first | apply Kd.S_alloc | apply Kd.S_drewN | apply Kd.S_drew)); exact Kd.S_mono HO410.out (fun k_ hk => ⟨hk.1.2, fun e_ => hk.2 e_⟩))); (case aS => exact (below_size (by repeat (first | (with_reducible first | exact HB.out | apply below_alloc | apply pw_below_drewN | apply below_drew1 | refine below_set ?_ GE406.out | refine below_set ?_ GE407.out) | exact HB.out)))); (case aL => have := LMc35.out; omega); intro v419 w49 ho hb hg hat; rw [← Ny418.out] at ho; have n0_ := Aside0.mk (blk_grown (g := gb406) (o := .cells #[.slice A0_0 l0_0.length c0_0] 50 (0, 0)) (by (with_reducible repeat (first | refine blk_drewN ?_ _ | refine blk_drew ?_ | refine blk_alloc ?_ _)); exact BK406.out) hg (Kd.S_ne HO410.out BK406.out (by decide))); have n1_ := Aside0.mk (blk_grown (g := gb407) (o := .cells #[.int .i64 a2_0, .slice A2_1 l2_1.length c2_1] 53 (0, 0)) (by (with_reducible repeat (first | refine blk_drewN ?_ _ | refine blk_drew ?_ | refine blk_alloc ?_ _)); exact BK407.out) hg (Kd.S_away HO410.out (fun _ hk => hk.1.2))); have n2_ := Aside0.mk (hb); have n3_ := Aside0.mk (ho); clear BK406; clear BK407; clear HB; clear HO410; clear HO417; have BK406 := n0_; have BK407 := n1_; have HB := n2_; have HO420 := n3_; clear n0_ n1_ n2_ n3_; clear ho hb hg hat) | ((with_reducible refine gate_callee (f := 106) rfl ?_); refine goesL_ (some 38) rfl rfl Try.func106 (by kernel_rfl) rfl #[v419, .func (.func 107) #[] #[]] rfl (by (try simp only [List.map_toArray, List.map_cons, List.map_nil]); first | done | rfl) ?_; (with_reducible refine (sortF_calls (by (with_reducible repeat (first | apply Kd.S_alloc | apply Kd.S_drewN | apply Kd.S_drew)); exact HO420.out) ?sL ?sB).mono ?_); (case sL => (have h_ := LMc35.out; rw [Ny418.out]; simp; omega)); (case sB => (rw [Ny418.out]; exact LB_.out)); rintro e wS ⟨rfl, hS_, hg_⟩; refine ⟨_, rfl, ?_⟩; have nB_ := Aside0.mk (pw_below_grown (by repeat (first | (with_reducible first | exact HB.out | apply below_alloc | apply pw_below_drewN | apply below_drew1 | refine below_set ?_ GE406.out | refine below_set ?_ GE407.out) | exact HB.out)) _ (below_size (by repeat (first | (with_reducible first | exact HB.out | apply below_alloc | apply pw_below_drewN | apply below_drew1 | refine below_set ?_ GE406.out | refine below_set ?_ GE407.out) | exact HB.out))) hg_ (Kd.S_base HO420.out)); clear HO420 HB; have HO420 := Aside0.mk hS_; have HB := nB_; clear nB_ hS_ hg_))
      go_ret2
      exact ⟨_, by first | rfl | (simp [errW_none, errW_some] <;> rfl) | (simp [*, errW_none, errW_some] <;> rfl), by (with_reducible repeat (first | apply Kd.S_alloc | apply Kd.S_drewN | apply Kd.S_drew)); exact Kd.S_mono HO420.out (fun _ hk => trivial), by repeat (first | (with_reducible first | exact HB.out | apply below_alloc | apply pw_below_drewN | apply below_drew1 | refine below_set ?_ GE406.out | refine below_set ?_ GE407.out) | exact HB.out)⟩
     ·rw [if_neg c35] at H
      exact absurd H (by simp)
  ·replace c8 := Bool.eq_false_iff.mpr c8
   subst c8
   have H1 : (some (t408, false)) = some (r1, r2) := by rw [if_neg (show ¬ (false = true) by decide)] at H; exact H
   clear H
   have H := H1
   clear H1
   simp only [Option.some.injEq, Prod.mk.injEq] at H
   obtain ⟨rfl, rfl⟩ := H
   go_enter Try.func69, Try.ntmps69
   go_wp2_with (first | ((with_reducible refine gate_dst (N := 3) rfl ?_); (try (refine gate_guard (by rfl) ?_; dsimp only)); refine box_event ?hg (N := 3) ?hd (cs := #[.slice A0_0 l0_0.length c0_0]) (t := 50) ?hr ?_; (case hd => rfl); (case hg => rfl); (case hr => first | (go_simp; done) | (go_simp; rfl)); intro gb406 hg w51 hbox hb; have n0_ := Aside0.mk (below_step (by repeat (first | (with_reducible first | exact HB.out | apply below_alloc | apply pw_below_drewN | apply below_drew1) | exact HB.out)) hb); have n1_ := Aside0.mk (hbox); have n2_ := Aside0.mk ((by rw [hg]; exact (below_size (by repeat (first | (with_reducible first | exact HB.out | apply below_alloc | apply pw_below_drewN | apply below_drew1) | exact HB.out))) : w.heap.size ≤ gb406)); have n3_ := Aside0.mk ((by rw [hg]; exact (below_size (by repeat (first | (with_reducible first | exact HB.out | apply below_alloc | apply pw_below_drewN | apply below_drew1) | exact HB.out))) : w.heap.size ≤ gb406)); clear HB; have HB := n0_; have BK406 := n1_; have GW406 := n2_; have GE406 := n3_; clear n0_ n1_ n2_ n3_; clear hb hbox hg) | ((with_reducible refine gate_dst (N := 5) rfl ?_); (try (refine gate_guard (by rfl) ?_; dsimp only)); refine box_event ?hg (N := 5) ?hd (cs := #[.int .i64 a2_0, .slice A2_1 l2_1.length c2_1]) (t := 53) ?hr ?_; (case hd => rfl); (case hg => rfl); (case hr => first | (go_simp; done) | (go_simp; rfl)); intro gb407 hg w52 hbox hb; have n0_ := Aside0.mk (blk_below (g := gb406) (o := .cells #[.slice A0_0 l0_0.length c0_0] 50 (0, 0)) (by (with_reducible repeat (first | refine blk_drewN ?_ _ | refine blk_drew ?_ | refine blk_alloc ?_ _)); exact BK406.out) hb); have n1_ := Aside0.mk (below_step (by repeat (first | (with_reducible first | exact HB.out | apply below_alloc | apply pw_below_drewN | apply below_drew1 | refine below_set ?_ GE406.out) | exact HB.out)) hb); have n2_ := Aside0.mk (hbox); have n3_ := Aside0.mk ((by rw [hg]; exact (below_size (by repeat (first | (with_reducible first | exact HB.out | apply below_alloc | apply pw_below_drewN | apply below_drew1 | refine below_set ?_ GE406.out) | exact HB.out))) : w.heap.size ≤ gb407)); have n4_ := Aside0.mk ((by rw [hg]; exact (below_size (by repeat (first | (with_reducible first | exact HB.out | apply below_alloc | apply pw_below_drewN | apply below_drew1 | refine below_set ?_ GE406.out) | exact HB.out))) : w.heap.size ≤ gb407)); have n5_ := Aside0.mk ((by rw [hg]; exact Nat.ne_of_lt (blk_lt (g := gb406) (o := .cells #[.slice A0_0 l0_0.length c0_0] 50 (0, 0)) (by (with_reducible repeat (first | refine blk_drewN ?_ _ | refine blk_drew ?_ | refine blk_alloc ?_ _)); exact BK406.out)) : gb406 ≠ gb407)); have n6_ := Aside0.mk ((by rw [hg]; exact Nat.ne_of_gt (blk_lt (g := gb406) (o := .cells #[.slice A0_0 l0_0.length c0_0] 50 (0, 0)) (by (with_reducible repeat (first | refine blk_drewN ?_ _ | refine blk_drew ?_ | refine blk_alloc ?_ _)); exact BK406.out)) : gb407 ≠ gb406)); clear BK406; clear HB; have BK406 := n0_; have HB := n1_; have BK407 := n2_; have GW407 := n3_; have GE407 := n4_; have NB406_407 := n5_; have NB407_406 := n6_; clear n0_ n1_ n2_ n3_ n4_ n5_ n6_; clear hb hbox hg) | ((with_reducible refine gate_callee (f := 101) rfl ?_); refine goesL_ (some 10) rfl rfl Try.func101 (by kernel_rfl) rfl #[.slice A1 l1.length c1] rfl (by (try simp only [List.map_toArray, List.map_cons, List.map_nil]); first | done | rfl | (simp only [List.length_drop, List.length_take]; rfl)) ?_; (with_reducible refine (impl_copyFacts.calls k _ _ l1 t408 _ ?side1 ?side2 A4.out).mono ?_); (case side1 => repeat (first | exact (Kd.C_below HR1.out HB.out) | (with_reducible refine Kd.C_alloc ?_ _) | (with_reducible refine Kd.C_drewN ?_ _) | (with_reducible refine Kd.C_drew ?_))); (case side2 => exact HC1.out); rintro e w53 ⟨v409, rfl, ho0, hb⟩; refine ⟨_, rfl, ?_⟩; have n0_ := Aside0.mk (Kd.S_lower (Kd.S_newB ho0 (g := gb407) (o := .cells #[.int .i64 a2_0, .slice A2_1 l2_1.length c2_1] 53 (0, 0)) (by (with_reducible repeat (first | refine blk_drewN ?_ _ | refine blk_drew ?_ | refine blk_alloc ?_ _)); exact BK407.out)) (below_size (by repeat (first | (with_reducible first | exact HB.out | apply below_alloc | apply pw_below_drewN | apply below_drew1 | refine below_set ?_ GE406.out | refine below_set ?_ GE407.out) | exact HB.out)))); have n1_ := Aside0.mk (blk_below (g := gb406) (o := .cells #[.slice A0_0 l0_0.length c0_0] 50 (0, 0)) (by (with_reducible repeat (first | refine blk_drewN ?_ _ | refine blk_drew ?_ | refine blk_alloc ?_ _)); exact BK406.out) hb); have n2_ := Aside0.mk (blk_below (g := gb407) (o := .cells #[.int .i64 a2_0, .slice A2_1 l2_1.length c2_1] 53 (0, 0)) (by (with_reducible repeat (first | refine blk_drewN ?_ _ | refine blk_drew ?_ | refine blk_alloc ?_ _)); exact BK407.out) hb); have n3_ := Aside0.mk (below_step (by repeat (first | (with_reducible first | exact HB.out | apply below_alloc | apply pw_below_drewN | apply below_drew1 | refine below_set ?_ GE406.out | refine below_set ?_ GE407.out) | exact HB.out)) hb); clear BK406; clear BK407; clear HB; have HO410 := n0_; have BK406 := n1_; have BK407 := n2_; have HB := n3_; clear n0_ n1_ n2_ n3_; (try clear hb); (try clear hb2); (try clear hk); (try clear hi); (try clear ho0); have hnb54 := NB406_407.out; have hnc54 := NB407_406.out; have hcz55_0 : w53.cell? ⟨gb406, 0, none⟩ = some (.slice A0_0 l0_0.length c0_0) := (blk_cell BK406.out 0).trans rfl; have hfz55_0 := blk_frozen BK406.out 0) | ((with_reducible refine gate_callee (f := 99) rfl ?_); refine goesL_ (some 13) rfl rfl Try.func99 (by kernel_rfl) rfl #[.agg #[.slice A0_0 l0_0.length c0_0], .slice A1 l1.length c1] rfl (by (try simp only [List.map_toArray, List.map_cons, List.map_nil]); first | done | rfl | (simp only [List.length_drop, List.length_take]; rfl)) ?_; (with_reducible refine (impl_IsDatabase.calls k _ _ l0_0 _ _ l1 true _ ?side1 ?side2 ?side3 ?side4 A5.out).mono ?_); (case side1 => repeat (first | exact (Kd.C_below HR0_0.out HB.out) | (with_reducible refine Kd.C_alloc ?_ _) | (with_reducible refine Kd.C_drewN ?_ _) | (with_reducible refine Kd.C_drew ?_))); (case side2 => exact HC0_0.out); (case side3 => repeat (first | exact (Kd.C_below HR1.out HB.out) | (with_reducible refine Kd.C_alloc ?_ _) | (with_reducible refine Kd.C_drewN ?_ _) | (with_reducible refine Kd.C_drew ?_))); (case side4 => exact HC1.out); rintro e w56 ⟨rfl, hb⟩; refine ⟨_, rfl, ?_⟩; have n0_ := Aside0.mk (Kd.S_below (by (with_reducible repeat (first | apply Kd.S_alloc | apply Kd.S_drewN | apply Kd.S_drew)); exact HO410.out) hb); have n1_ := Aside0.mk (blk_below (g := gb406) (o := .cells #[.slice A0_0 l0_0.length c0_0] 50 (0, 0)) (by (with_reducible repeat (first | refine blk_drewN ?_ _ | refine blk_drew ?_ | refine blk_alloc ?_ _)); exact BK406.out) hb); have n2_ := Aside0.mk (blk_below (g := gb407) (o := .cells #[.int .i64 a2_0, .slice A2_1 l2_1.length c2_1] 53 (0, 0)) (by (with_reducible repeat (first | refine blk_drewN ?_ _ | refine blk_drew ?_ | refine blk_alloc ?_ _)); exact BK407.out) hb); have n3_ := Aside0.mk (below_step (by repeat (first | (with_reducible first | exact HB.out | apply below_alloc | apply pw_below_drewN | apply below_drew1 | refine below_set ?_ GE406.out | refine below_set ?_ GE407.out) | exact HB.out)) hb); clear HO410; clear BK406; clear BK407; clear HB; have HO410 := n0_; have BK406 := n1_; have BK407 := n2_; have HB := n3_; clear n0_ n1_ n2_ n3_; (try clear hb); (try clear hb2); (try clear hk); (try clear hi); have hcz57_0 : w56.cell? ⟨gb406, 0, none⟩ = some (.slice A0_0 l0_0.length c0_0) := (blk_cell BK406.out 0).trans rfl; have hfz57_0 := blk_frozen BK406.out 0; have hcz58_0 : w56.cell? ⟨gb407, 0, none⟩ = some (.int .i64 a2_0) := (blk_cell BK407.out 0).trans rfl; have hcz58_1 : w56.cell? ⟨gb407, 1, none⟩ = some (.slice A2_1 l2_1.length c2_1) := (blk_cell BK407.out 1).trans rfl; have hfz58_0 := blk_frozen BK407.out 0; have hfz58_1 := blk_frozen BK407.out 1) | (go_at_call 105; (with_reducible refine (impl_IsFact.calls k _ _ l0_0 a2_0 _ _ l2_1 false _ ?side1 ?side2 ?side3 ?side4 A7.out).mono ?_); (case side1 => repeat (first | exact (Kd.C_below HR0_0.out HB.out) | (with_reducible refine Kd.C_alloc ?_ _) | (with_reducible refine Kd.C_drewN ?_ _) | (with_reducible refine Kd.C_drew ?_))); (case side2 => exact HC0_0.out); (case side3 => repeat (first | exact (Kd.C_below HR2_1.out HB.out) | (with_reducible refine Kd.C_alloc ?_ _) | (with_reducible refine Kd.C_drewN ?_ _) | (with_reducible refine Kd.C_drew ?_))); (case side4 => exact HC2_1.out); rintro e w59 ⟨rfl, hb⟩; have n0_ := Aside0.mk (Kd.S_below (by (with_reducible repeat (first | apply Kd.S_alloc | apply Kd.S_drewN | apply Kd.S_drew)); exact HO410.out) hb); have n1_ := Aside0.mk (blk_below (g := gb406) (o := .cells #[.slice A0_0 l0_0.length c0_0] 50 (0, 0)) (by (with_reducible repeat (first | refine blk_drewN ?_ _ | refine blk_drew ?_ | refine blk_alloc ?_ _)); exact BK406.out) hb); have n2_ := Aside0.mk (blk_below (g := gb407) (o := .cells #[.int .i64 a2_0, .slice A2_1 l2_1.length c2_1] 53 (0, 0)) (by (with_reducible repeat (first | refine blk_drewN ?_ _ | refine blk_drew ?_ | refine blk_alloc ?_ _)); exact BK407.out) hb); have n3_ := Aside0.mk (below_step (by repeat (first | (with_reducible first | exact HB.out | apply below_alloc | apply pw_below_drewN | apply below_drew1 | refine below_set ?_ GE406.out | refine below_set ?_ GE407.out) | exact HB.out)) hb); clear HO410; clear BK406; clear BK407; clear HB; have HO410 := n0_; have BK406 := n1_; have BK407 := n2_; have HB := n3_; clear n0_ n1_ n2_ n3_; (try clear hb); (try clear hb2); (try clear hk); (try clear hi)))
   go_ret2
   exact ⟨_, by first | rfl | (simp [errW_none, errW_some] <;> rfl) | (simp [*, errW_none, errW_some] <;> rfl), by (with_reducible repeat (first | apply Kd.S_alloc | apply Kd.S_drewN | apply Kd.S_drew)); exact Kd.S_mono HO410.out (fun _ hk => trivial), by repeat (first | (with_reducible first | exact HB.out | apply below_alloc | apply pw_below_drewN | apply below_drew1 | refine below_set ?_ GE406.out | refine below_set ?_ GE407.out) | exact HB.out)⟩
 ·replace c6 := Bool.eq_false_iff.mpr c6
  subst c6
  have H1 : (some (t408, false)) = some (r1, r2) := by rw [if_neg (show ¬ (false = true) by decide)] at H; exact H
  clear H
  have H := H1
  clear H1
  simp only [Option.some.injEq, Prod.mk.injEq] at H
  obtain ⟨rfl, rfl⟩ := H
  go_enter Try.func69, Try.ntmps69
  go_wp2_with (first | ((with_reducible refine gate_dst (N := 3) rfl ?_); (try (refine gate_guard (by rfl) ?_; dsimp only)); refine box_event ?hg (N := 3) ?hd (cs := #[.slice A0_0 l0_0.length c0_0]) (t := 50) ?hr ?_; (case hd => rfl); (case hg => rfl); (case hr => first | (go_simp; done) | (go_simp; rfl)); intro gb406 hg w60 hbox hb; have n0_ := Aside0.mk (below_step (by repeat (first | (with_reducible first | exact HB.out | apply below_alloc | apply pw_below_drewN | apply below_drew1) | exact HB.out)) hb); have n1_ := Aside0.mk (hbox); have n2_ := Aside0.mk ((by rw [hg]; exact (below_size (by repeat (first | (with_reducible first | exact HB.out | apply below_alloc | apply pw_below_drewN | apply below_drew1) | exact HB.out))) : w.heap.size ≤ gb406)); have n3_ := Aside0.mk ((by rw [hg]; exact (below_size (by repeat (first | (with_reducible first | exact HB.out | apply below_alloc | apply pw_below_drewN | apply below_drew1) | exact HB.out))) : w.heap.size ≤ gb406)); clear HB; have HB := n0_; have BK406 := n1_; have GW406 := n2_; have GE406 := n3_; clear n0_ n1_ n2_ n3_; clear hb hbox hg) | ((with_reducible refine gate_dst (N := 5) rfl ?_); (try (refine gate_guard (by rfl) ?_; dsimp only)); refine box_event ?hg (N := 5) ?hd (cs := #[.int .i64 a2_0, .slice A2_1 l2_1.length c2_1]) (t := 53) ?hr ?_; (case hd => rfl); (case hg => rfl); (case hr => first | (go_simp; done) | (go_simp; rfl)); intro gb407 hg w61 hbox hb; have n0_ := Aside0.mk (blk_below (g := gb406) (o := .cells #[.slice A0_0 l0_0.length c0_0] 50 (0, 0)) (by (with_reducible repeat (first | refine blk_drewN ?_ _ | refine blk_drew ?_ | refine blk_alloc ?_ _)); exact BK406.out) hb); have n1_ := Aside0.mk (below_step (by repeat (first | (with_reducible first | exact HB.out | apply below_alloc | apply pw_below_drewN | apply below_drew1 | refine below_set ?_ GE406.out) | exact HB.out)) hb); have n2_ := Aside0.mk (hbox); have n3_ := Aside0.mk ((by rw [hg]; exact (below_size (by repeat (first | (with_reducible first | exact HB.out | apply below_alloc | apply pw_below_drewN | apply below_drew1 | refine below_set ?_ GE406.out) | exact HB.out))) : w.heap.size ≤ gb407)); have n4_ := Aside0.mk ((by rw [hg]; exact (below_size (by repeat (first | (with_reducible first | exact HB.out | apply below_alloc | apply pw_below_drewN | apply below_drew1 | refine below_set ?_ GE406.out) | exact HB.out))) : w.heap.size ≤ gb407)); have n5_ := Aside0.mk ((by rw [hg]; exact Nat.ne_of_lt (blk_lt (g := gb406) (o := .cells #[.slice A0_0 l0_0.length c0_0] 50 (0, 0)) (by (with_reducible repeat (first | refine blk_drewN ?_ _ | refine blk_drew ?_ | refine blk_alloc ?_ _)); exact BK406.out)) : gb406 ≠ gb407)); have n6_ := Aside0.mk ((by rw [hg]; exact Nat.ne_of_gt (blk_lt (g := gb406) (o := .cells #[.slice A0_0 l0_0.length c0_0] 50 (0, 0)) (by (with_reducible repeat (first | refine blk_drewN ?_ _ | refine blk_drew ?_ | refine blk_alloc ?_ _)); exact BK406.out)) : gb407 ≠ gb406)); clear BK406; clear HB; have BK406 := n0_; have HB := n1_; have BK407 := n2_; have GW407 := n3_; have GE407 := n4_; have NB406_407 := n5_; have NB407_406 := n6_; clear n0_ n1_ n2_ n3_ n4_ n5_ n6_; clear hb hbox hg) | ((with_reducible refine gate_callee (f := 101) rfl ?_); refine goesL_ (some 10) rfl rfl Try.func101 (by kernel_rfl) rfl #[.slice A1 l1.length c1] rfl (by (try simp only [List.map_toArray, List.map_cons, List.map_nil]); first | done | rfl | (simp only [List.length_drop, List.length_take]; rfl)) ?_; (with_reducible refine (impl_copyFacts.calls k _ _ l1 t408 _ ?side1 ?side2 A4.out).mono ?_); (case side1 => repeat (first | exact (Kd.C_below HR1.out HB.out) | (with_reducible refine Kd.C_alloc ?_ _) | (with_reducible refine Kd.C_drewN ?_ _) | (with_reducible refine Kd.C_drew ?_))); (case side2 => exact HC1.out); rintro e w62 ⟨v409, rfl, ho0, hb⟩; refine ⟨_, rfl, ?_⟩; have n0_ := Aside0.mk (Kd.S_lower (Kd.S_newB ho0 (g := gb407) (o := .cells #[.int .i64 a2_0, .slice A2_1 l2_1.length c2_1] 53 (0, 0)) (by (with_reducible repeat (first | refine blk_drewN ?_ _ | refine blk_drew ?_ | refine blk_alloc ?_ _)); exact BK407.out)) (below_size (by repeat (first | (with_reducible first | exact HB.out | apply below_alloc | apply pw_below_drewN | apply below_drew1 | refine below_set ?_ GE406.out | refine below_set ?_ GE407.out) | exact HB.out)))); have n1_ := Aside0.mk (blk_below (g := gb406) (o := .cells #[.slice A0_0 l0_0.length c0_0] 50 (0, 0)) (by (with_reducible repeat (first | refine blk_drewN ?_ _ | refine blk_drew ?_ | refine blk_alloc ?_ _)); exact BK406.out) hb); have n2_ := Aside0.mk (blk_below (g := gb407) (o := .cells #[.int .i64 a2_0, .slice A2_1 l2_1.length c2_1] 53 (0, 0)) (by (with_reducible repeat (first | refine blk_drewN ?_ _ | refine blk_drew ?_ | refine blk_alloc ?_ _)); exact BK407.out) hb); have n3_ := Aside0.mk (below_step (by repeat (first | (with_reducible first | exact HB.out | apply below_alloc | apply pw_below_drewN | apply below_drew1 | refine below_set ?_ GE406.out | refine below_set ?_ GE407.out) | exact HB.out)) hb); clear BK406; clear BK407; clear HB; have HO410 := n0_; have BK406 := n1_; have BK407 := n2_; have HB := n3_; clear n0_ n1_ n2_ n3_; (try clear hb); (try clear hb2); (try clear hk); (try clear hi); (try clear ho0); have hnb63 := NB406_407.out; have hnc63 := NB407_406.out; have hcz64_0 : w62.cell? ⟨gb406, 0, none⟩ = some (.slice A0_0 l0_0.length c0_0) := (blk_cell BK406.out 0).trans rfl; have hfz64_0 := blk_frozen BK406.out 0) | ((with_reducible refine gate_callee (f := 99) rfl ?_); refine goesL_ (some 13) rfl rfl Try.func99 (by kernel_rfl) rfl #[.agg #[.slice A0_0 l0_0.length c0_0], .slice A1 l1.length c1] rfl (by (try simp only [List.map_toArray, List.map_cons, List.map_nil]); first | done | rfl | (simp only [List.length_drop, List.length_take]; rfl)) ?_; (with_reducible refine (impl_IsDatabase.calls k _ _ l0_0 _ _ l1 false _ ?side1 ?side2 ?side3 ?side4 A5.out).mono ?_); (case side1 => repeat (first | exact (Kd.C_below HR0_0.out HB.out) | (with_reducible refine Kd.C_alloc ?_ _) | (with_reducible refine Kd.C_drewN ?_ _) | (with_reducible refine Kd.C_drew ?_))); (case side2 => exact HC0_0.out); (case side3 => repeat (first | exact (Kd.C_below HR1.out HB.out) | (with_reducible refine Kd.C_alloc ?_ _) | (with_reducible refine Kd.C_drewN ?_ _) | (with_reducible refine Kd.C_drew ?_))); (case side4 => exact HC1.out); rintro e w65 ⟨rfl, hb⟩; refine ⟨_, rfl, ?_⟩; have n0_ := Aside0.mk (Kd.S_below (by (with_reducible repeat (first | apply Kd.S_alloc | apply Kd.S_drewN | apply Kd.S_drew)); exact HO410.out) hb); have n1_ := Aside0.mk (blk_below (g := gb406) (o := .cells #[.slice A0_0 l0_0.length c0_0] 50 (0, 0)) (by (with_reducible repeat (first | refine blk_drewN ?_ _ | refine blk_drew ?_ | refine blk_alloc ?_ _)); exact BK406.out) hb); have n2_ := Aside0.mk (blk_below (g := gb407) (o := .cells #[.int .i64 a2_0, .slice A2_1 l2_1.length c2_1] 53 (0, 0)) (by (with_reducible repeat (first | refine blk_drewN ?_ _ | refine blk_drew ?_ | refine blk_alloc ?_ _)); exact BK407.out) hb); have n3_ := Aside0.mk (below_step (by repeat (first | (with_reducible first | exact HB.out | apply below_alloc | apply pw_below_drewN | apply below_drew1 | refine below_set ?_ GE406.out | refine below_set ?_ GE407.out) | exact HB.out)) hb); clear HO410; clear BK406; clear BK407; clear HB; have HO410 := n0_; have BK406 := n1_; have BK407 := n2_; have HB := n3_; clear n0_ n1_ n2_ n3_; (try clear hb); (try clear hb2); (try clear hk); (try clear hi)))
  go_ret2
  exact ⟨_, by first | rfl | (simp [errW_none, errW_some] <;> rfl) | (simp [*, errW_none, errW_some] <;> rfl), by (with_reducible repeat (first | apply Kd.S_alloc | apply Kd.S_drewN | apply Kd.S_drew)); exact Kd.S_mono HO410.out (fun _ hk => trivial), by repeat (first | (with_reducible first | exact HB.out | apply below_alloc | apply pw_below_drewN | apply below_drew1 | refine below_set ?_ GE406.out | refine below_set ?_ GE407.out) | exact HB.out)⟩

end Go.Proofs.Ytjglknoebaojgaa.P

namespace Go.Proofs.Ytjglknoebaojgaa.Deep
open Go.RowKit Go.Proofs.YtjglknoebaojgaaW.PrintWords Go.Proofs.Ytjglknoebaojgaa.Lay Go.Proofs.Ytjglknoebaojgaa.LawM
set_option linter.unusedVariables false
set_option linter.unusedSimpArgs false
variable {α β : Type} {d : Kd α} {d' : Kd β} {w W W1 : World} {lo hi base e : Nat} {xs : List α} {v : Value} {k : Int} {ok : Nat → Prop}
/-- As Mk, and no place is named twice; the places in the element's own block lie among its cells. -/
def MkN {α : Type} (d : Kd α) (E : El) (cnt : α → Nat) : Prop := ∀ {W : World} {base : Nat} {ok : Nat → Prop} {x : α} {cs : List Value} {g o : Nat},
 d.M W base ok x cs → ¬ ok g → (∀ i u, cs[i]? = some u → W.cell? (pa g (o + i)) = some u ∧ W.frozen? (pa g (o + i)) = false) → ∃ pls : Pl, E W g o pls ∧ pls.length = cnt x ∧ pls.Nodup ∧ ∀ p ∈ pls, (p.1 = g ∧ o ≤ p.2 ∧ p.2 < o + d.sz) ∨ ok p.1
theorem flat_nodup {Q : Nat → Nat × Nat → Prop} : ∀ (ass : List Pl) (i : Nat), (∀ j (h : j < ass.length), ass[j].Nodup ∧ ∀ p ∈ ass[j], Q (i + j) p) → (∀ i j p, Q i p → Q j p → i = j) → ass.flatten.Nodup
 | [], _, _, _ => List.nodup_nil
 | a :: r, i, h, hq => by
  rw [List.flatten_cons, List.nodup_append]
  have h0 := h 0 (by simp)
  refine ⟨h0.1, flat_nodup (Q := Q) r (i + 1) (fun j hj => ?_) hq, ?_⟩
  ·have := h (j + 1) (by simpa using hj)
   rw [show i + (j + 1) = i + 1 + j by omega] at this
   exact this
  ·intro p hp q hq' he
   subst he
   obtain ⟨b, hb, hpb⟩ := List.mem_flatten.1 hq'
   obtain ⟨j, hj, rfl⟩ := List.getElem_of_mem hb
   have h1 := (h (j + 1) (by simpa using hj)).2 p hpb
   have h2 := h0.2 p hp
   have := hq _ _ _ h2 h1
   omega
theorem mkn_int : MkN (Kd.int .i64) eInt (fun _ => 1) := by
 intro W base ok x cs g o hM hg hc
 have hcs : cs = [.int .i64 x] := (Kd.int .i64).K_of_M hM
 subst hcs
 have := hc 0 _ rfl
 refine ⟨[(g, o)], ⟨⟨this.2, x, this.1⟩, rfl⟩, rfl, by simp, fun p hp => .inl ?_⟩
 rw [List.mem_singleton.1 hp]
 exact ⟨rfl, Nat.le_refl _, Nat.lt_succ_self _⟩
/-- Of a row: f tells the element of each block. -/
theorem row_nodup {E : El} {cnt : α → Nat} (hE : MkN d E cnt) (hsz : 0 < d.sz) (f : Nat → Nat) (hm : xs.length ≤ 9223372036854775807)
  (h : (∀ k, v.ownBlock = some k → ok k) ∧ ∃ inner, W.ownsRow base e d.sz v xs.length inner ∧ inner.length = xs.length * d.sz ∧ ∀ j p, xs[j]? = some p → d.M W base (fun k => (ok k ∧ some k ≠ v.ownBlock) ∧ f k = j) p ((inner.drop (j * d.sz)).take d.sz)) :
  ∃ pls, Row d.sz E W v pls ∧ pls.length = sumOf cnt xs ∧ pls.Nodup ∧ ∀ p ∈ pls, ok p.1 := by
 obtain ⟨hok, inner, ho, hil, hr⟩ := h
 rcases ho.2 with ⟨rfl, h0⟩ | ⟨g, cap, cur, rfl, hgb, hh, hnc, _, hcs, htk⟩
 ·have hx : xs = [] := List.eq_nil_of_length_eq_zero h0
  subst hx
  exact ⟨[], ⟨none, 0, 0, rfl, Nat.zero_le _, [], rfl, rfl, fun h => absurd h (Nat.lt_irrefl 0)⟩, rfl, List.nodup_nil, fun p hp => absurd hp List.not_mem_nil⟩
 ·have hcell : ∀ j u, inner[j]? = some u → W.cell? (pa g j) = some u ∧ W.frozen? (pa g j) = false := by
   intro j u hu
   rw [← htk] at hu
   rw [List.getElem?_take] at hu
   split at hu
   ·refine ⟨?_, ?_⟩
    ·unfold World.cell?; simp only [pa, hh]; simpa using hu
    ·unfold World.frozen?; simp [pa, hh]
   ·cases hu
  have hel : ∀ j, j < xs.length → ∃ pls : Pl, E W g (j * d.sz) pls ∧ (∃ h : j < xs.length, pls.length = cnt xs[j]) ∧ pls.Nodup ∧ ∀ p ∈ pls, (p.1 = g ∧ j * d.sz ≤ p.2 ∧ p.2 < j * d.sz + d.sz) ∨ ((ok p.1 ∧ p.1 ≠ g) ∧ f p.1 = j) := by
   intro j hj
   have hM := hr j _ (List.getElem?_eq_getElem hj)
   obtain ⟨pls, ha, hlen, hnd, hp⟩ := hE hM (g := g) (o := j * d.sz) (fun hk => hk.1.2 (by simp [Value.ownBlock])) (fun i u hu => by
    rw [List.getElem?_take] at hu
    split at hu
    ·rw [List.getElem?_drop] at hu
     exact hcell _ _ hu
    ·cases hu)
   refine ⟨pls, ha, ⟨hj, hlen⟩, hnd, fun p hpp => ?_⟩
   rcases hp p hpp with h1 | h1
   ·exact .inl h1
   ·exact .inr ⟨⟨h1.1.1, fun he => h1.1.2 (by simp [Value.ownBlock, he])⟩, h1.2⟩
  obtain ⟨ass, hal, hap⟩ := pick hel
  refine ⟨ass.flatten, ⟨_, _, cap, rfl, hm, ass, hal, rfl, fun _ => ⟨g, rfl, fun j hj => (hap j hj).1⟩⟩, flat_len xs ass hal (fun j h1 h2 => (hap j h1).2.1.2), ?_, fun p hp => ?_⟩
  ·refine flat_nodup (Q := fun j p => (p.1 = g ∧ j * d.sz ≤ p.2 ∧ p.2 < j * d.sz + d.sz) ∨ (p.1 ≠ g ∧ f p.1 = j)) ass 0 (fun j hj => ⟨(hap j hj).2.2.1, fun p hp => ?_⟩) ?_
   ·rw [Nat.zero_add]
    rcases (hap j hj).2.2.2 p hp with h1 | h1
    ·exact .inl h1
    ·exact .inr ⟨h1.1.2, h1.2⟩
   ·intro i j p hi hj
    rcases hi with ⟨a1, a2, a3⟩ | ⟨a1, a2⟩ <;> rcases hj with ⟨b1, b2, b3⟩ | ⟨b1, b2⟩
    ·have e1 : i = p.2 / d.sz := by
      refine (Nat.div_eq_of_lt_le a2 ?_).symm
      rw [Nat.add_mul, Nat.one_mul]; exact a3
     have e2 : j = p.2 / d.sz := by
      refine (Nat.div_eq_of_lt_le b2 ?_).symm
      rw [Nat.add_mul, Nat.one_mul]; exact b3
     rw [e1, e2]
    ·exact absurd a1 b1
    ·exact absurd b1 a1
    ·exact a2.symm.trans b2
  ·obtain ⟨b, hm, hp⟩ := List.mem_flatten.1 hp
   obtain ⟨j, hj, rfl⟩ := List.getElem_of_mem hm
   rcases (hap j hj).2.2.2 p hp with h1 | h1
   ·rw [h1.1]; exact hok g (by simp [Value.ownBlock])
   ·exact h1.1.1
theorem rowS_nodup {E : El} {cnt : α → Nat} (hE : MkN d E cnt) (hsz : 0 < d.sz) (h : Kd.S d e W base ok v xs) : ∃ pls, Row d.sz E W v pls ∧ pls.length = sumOf cnt xs ∧ pls.Nodup ∧ ∀ p ∈ pls, ok p.1 := by
 have hm := (Kd.S_reads h).choose_spec.choose_spec.2.2.2.1
 obtain ⟨f, h0, inner, ho, hr⟩ := h
 rw [List.length_zipIdx] at ho
 refine row_nodup hE hsz f hm ⟨h0, inner, ho, by have := hr.1; rw [List.length_zipIdx] at this; exact this, fun j p hj => hr.2 j (p, j) (Kd.zip_at hj)⟩
/-- A row of numbers: nothing else is behind them. -/
theorem rowI_nodup {l : List Int} (h : (Kd.int .i64).R e W base ok v l) : ∃ pls, Row 1 eInt W v pls ∧ pls.length = sumOf (fun _ => 1) l ∧ pls.Nodup ∧ ∀ p ∈ pls, ok p.1 := by
 have hm := (Kd.R_reads h).choose_spec.choose_spec.2.2.2.1
 obtain ⟨h0, inner, ho, hr⟩ := h
 classical
 exact row_nodup (d := Kd.int .i64) (f := fun _ => 0) mkn_int Nat.one_pos hm ⟨h0, inner, ho, hr.1, fun j p hj => hr.2 j p hj⟩
theorem mkn_sliceI (e : Nat) : MkN (Kd.slice e (Kd.int .i64)) (eRow (Row 1 eInt)) (sumOf fun _ => 1) := by
 rintro W base ok l cs g o ⟨v, rfl, hR⟩ hg hc
 obtain ⟨A, c, rfl, hl, hr⟩ := Kd.R_reads hR
 obtain ⟨pls, ha, hlen, hnd, hp⟩ := rowI_nodup hR
 have := hc 0 _ rfl
 exact ⟨pls, ⟨_, this.1, this.2, fun ⟨x, hx⟩ => (by cases hx), ha⟩, hlen, hnd, fun p hp' => .inr (hp p hp')⟩
/-- The first of the pair is a number or the like: nothing is behind it. -/
theorem mkn_pair {E1 E2 : El} {c1 : α → Nat} {c2 : β → Nat} (h1 : ∀ {W : World} {base : Nat} {ok : Nat → Prop} {x : α} {cs : List Value} {g o : Nat}, d.M W base ok x cs → (∀ i u, cs[i]? = some u → W.cell? (pa g (o + i)) = some u ∧ W.frozen? (pa g (o + i)) = false) → ∃ pls : Pl, E1 W g o pls ∧ pls.length = c1 x ∧ pls.Nodup ∧ ∀ p ∈ pls, p.1 = g ∧ o ≤ p.2 ∧ p.2 < o + d.sz)
  (h2 : MkN d' E2 c2) (hs : d.sz = 1) : MkN (Kd.pair d d') (ePair E1 E2) (fun x => c1 x.1 + c2 x.2) := by
 rintro W base ok x cs g o ⟨a, b, rfl, ha, hb⟩ hg hc
 have hl : a.length = 1 := (d.K_len (d.K_of_M ha)).trans hs
 obtain ⟨p1, q1, l1, n1, m1⟩ := h1 ha (g := g) (o := o) (fun i u hu => hc i u (by
  rw [List.getElem?_append_left (List.getElem?_eq_some_iff.1 hu).1]; exact hu))
 obtain ⟨p2, q2, l2, n2, m2⟩ := h2 hb (g := g) (o := o + 1) hg (fun i u hu => by
  have := hc (1 + i) u (by rw [List.getElem?_append_right (by omega), hl, Nat.add_sub_cancel_left]; exact hu)
  rwa [← Nat.add_assoc] at this)
 have esz : (Kd.pair d d').sz = d.sz + d'.sz := rfl
 refine ⟨p1 ++ p2, ⟨p1, p2, q1, q2, rfl⟩, by rw [List.length_append, l1, l2], ?_, fun p hp => ?_⟩
 ·rw [List.nodup_append]
  refine ⟨n1, n2, fun p hp q hq he => ?_⟩
  subst he
  have a1 := m1 p hp
  rcases m2 p hq with b1 | b1
  ·omega
  ·rw [a1.1] at b1; exact hg b1
 ·rcases List.mem_append.1 hp with hp | hp
  ·have a1 := m1 p hp
   exact .inl (by rw [esz]; omega)
  ·rcases m2 p hp with a1 | a1
   ·exact .inl (by rw [esz]; omega)
   ·exact .inr a1
theorem mkn_int1 : ∀ {W : World} {base : Nat} {ok : Nat → Prop} {x : Int} {cs : List Value} {g o : Nat}, (Kd.int .i64).M W base ok x cs → (∀ i u, cs[i]? = some u → W.cell? (pa g (o + i)) = some u ∧ W.frozen? (pa g (o + i)) = false) → ∃ pls : Pl, eInt W g o pls ∧ pls.length = 1 ∧ pls.Nodup ∧ ∀ p ∈ pls, p.1 = g ∧ o ≤ p.2 ∧ p.2 < o + (Kd.int .i64).sz := by
 intro W base ok x cs g o hM hc
 have hcs : cs = [.int .i64 x] := (Kd.int .i64).K_of_M hM
 subst hcs
 have := hc 0 _ rfl
 refine ⟨[(g, o)], ⟨⟨this.2, x, this.1⟩, rfl⟩, rfl, by simp, fun p hp => ?_⟩
 rw [List.mem_singleton.1 hp]
 exact ⟨rfl, Nat.le_refl _, Nat.lt_succ_self _⟩
theorem mkn_iso {E : El} {cnt : α → Nat} (f : β → α) (h : MkN d E cnt) : MkN (Kd.iso d f) E (fun x => cnt (f x)) := fun hM hg hc => h hM hg hc
end Go.Proofs.Ytjglknoebaojgaa.Deep

namespace Go.Proofs.Ytjglknoebaojgaa.LayI
open Go.RowKit Go.Proofs.Ytjglknoebaojgaa.P Go.Proofs.YtjglknoebaojgaaW.PrintWords Go.Proofs.YtjglknoebaojgaaW.PrintLast Go.Proofs.YtjglknoebaojgaaW.PrintMore Go.Proofs.Ytjglknoebaojgaa.Lay
attribute [local go_sem] max2_int min2_int max_two min_two max_three min_three max_four min_four
set_option linter.unusedVariables false
set_option linter.unusedSimpArgs false

theorem flat_le {ass : List Pl} {i : Nat} : ((ass.take i).flatten).length ≤ ass.flatten.length := by
 conv => rhs; rw [← List.take_append_drop i ass, List.flatten_append, List.length_append]
 omega
theorem flat_lt {ass : List Pl} {i : Nat} (h : i < ass.length) : ((ass.take i).flatten).length + ass[i].length ≤ ass.flatten.length := by
 have := flat_le (ass := ass) (i := i + 1)
 rw [flat_take h, List.length_append] at this
 exact this
theorem flat_all (ass : List Pl) {n : Nat} (h : ass.length = n) : ass.take n = ass := List.take_of_length_le (by omega)
theorem flat_mem {ass : List Pl} {i : Nat} {p : Nat × Nat} (h : p ∈ (ass.take i).flatten) : p ∈ ass.flatten := by
 rw [← List.take_append_drop i ass, List.flatten_append]
 exact List.mem_append_left _ h
set_option maxHeartbeats 8000000 in
set_option maxRecDepth 100000 in
theorem markIntS (v : Value) (ps : Pl) (a : Int) (w : World) (h : Row 1 eInt w v ps) (h0 : 0 ≤ a) (h1 : a + ps.length ≤ 4611686018427387000) :
  Calls Try.prog 50 #[v, .int .i64 a] w fun e w' => e = .returned (.int .i64 (a + ps.length)) ∧ Wr w w' ps a := by
 have hin := in_row in_int _ _ _ h
 obtain ⟨A, n, c, rfl, hn, ass, hl, hpf, hr⟩ := h.open_
 have HF := Aside0.mk hpf
 have HN := Aside0.mk hn
 have HL := Aside0.mk hl
 have HR := Aside0.mk hr
 have HI := Aside0.mk hin
 have H1 := Aside0.mk h1
 have H0 := Aside0.mk h0
 clear hn hr hin h1 h0 h hl hpf
 go_enter Try.func50, Try.ntmps50
 go_wp2
 go_loopg [1, 5] (n + 1) (fun kq v1 v5 w' => ∃ (x1 : Int) (x5 : Int), v1 = .int .i64 x1 ∧ v5 = .int .i64 x5 ∧ Aside0 (∃ i : Nat, x5 = (i : Int) ∧ i + kq = n + 1 ∧ x1 = a + ((ass.take i).flatten.length : Int) ∧ Wr w w' (ass.take i).flatten a) ∧ Aside0 (1 ≤ kq))
 case atStart => exact ⟨a, 0, rfl, rfl, ⟨0, rfl, by omega, by simp, by simpa using Wr.nil w a⟩, ⟨by omega⟩⟩
 case round =>
  obtain ⟨x1, x5, rfl, rfl, HX, HQ⟩ := hrel
  cases gk with
  | zero => exact absurd HQ.out (by omega)
  | succ k1 =>
   by_cases c3 : x5 < (n : Int)
   ·obtain ⟨i, hi, hik, hx1, hw⟩ := HX.out
    have hil : i < ass.length := by have := HL.out; omega
    obtain ⟨g, rfl, hE⟩ := HR.out (by omega)
    obtain ⟨hic, hps⟩ := st_int _ _ _ _ _ hw.hd (hE i hil)
    have hsz : ((ass.take i).flatten).length + 1 ≤ ass.flatten.length := by
     have := flat_lt hil; rw [hps] at this; simpa using this
    have hb1 := H1.out
    have hpf := HF.out
    rw [hpf] at hb1
    have hb0 := H0.out
    have hn9 := HN.out
    obtain ⟨hf, y, hc⟩ := hic
    rw [Nat.mul_one] at hc hf
    have hx5 : x5.toNat = i := by omega
    have hcell : wr.cell? ⟨g, x5.toNat, none⟩ = some (.int .i64 y) := by rw [hx5]; exact hc
    have hfro : wr.frozen? ⟨g, x5.toNat, none⟩ = false := by rw [hx5]; exact hf
    have W2 : Aside0 (Wr w (wr.setCell ⟨g, x5.toNat, none⟩ (.int .i64 x1)) (ass.take (i + 1)).flatten a) := ⟨by
     rw [flat_take hil, hps, Nat.mul_one]
     refine Wr.trans hw ?_ (fun p hp => HI.out p (by rw [HF.out]; exact flat_mem hp))
     rw [← hx1, hx5]
     exact Wr.store ⟨hf, y, hc⟩ x1⟩
    have hx1' : wrap64 (x1 + 1) = a + (((ass.take (i + 1)).flatten.length : Nat) : Int) := by
     rw [flat_take hil, hps, List.length_append, List.length_singleton]
     unfold wrap64; omega
    have hx5' : wrap64 (x5 + 1) = ((i + 1 : Nat) : Int) := by unfold wrap64; omega
    have HH := Aside0.mk (show (i + 1) + k1 = n + 1 ∧ 1 ≤ k1 by omega)
    have HX1 := Aside0.mk hx1'
    have HX5 := Aside0.mk hx5'
    have c3b0 : decide (x5 < (n : Int)) = true := decide_eq_true c3
    have p5 : (0 ≤ (x5 : Int)) = True := eq_true (by omega)
    have q5 : (x5 < (n : Int)) = True := eq_true c3
    clear hpf HX HQ hx1' hx5' hsz hb1 hb0 hn9 hik hx1 hi hil hx5 hc hf hE c3 hw hps
    go_wp2_with (first | ((with_reducible refine gate_store (t := 3) (p := 15) rfl ?_); refine store_event (t := 3) (p := 15) (v := ?vo_w8) (w1 := (wr.setCell ⟨g, (x5 : Int).toNat, none⟩ (.int .i64 x1))) ?hg ?ho ?hn ?hr ?_; (case ho => rfl); (case hg => rfl); (case hn => rfl); (case hr => first | (go_simp; done) | (go_simp; rfl)); intro w8 hw; rw [← hw] at W2; clear hw))
    go_roundg k1
    case measure => exact Nat.lt_succ_self _
    case rel => exact ⟨_, _, rfl, rfl, ⟨i + 1, HX5.out, HH.out.1, HX1.out, W2.out⟩, ⟨HH.out.2⟩⟩
   ·have c3b0 : decide (x5 < (n : Int)) = false := decide_eq_false c3
    go_wp2
    go_ret
    obtain ⟨i, hi, hik, hx1, hw⟩ := HX.out
    have hq := HQ.out
    have hi' : i = n := by omega
    subst hi'
    rw [flat_all ass HL.out, ← HF.out] at hx1 hw
    exact ⟨by rw [hx1]; rfl, hw⟩
end Go.Proofs.Ytjglknoebaojgaa.LayI

namespace Go.Proofs.Ytjglknoebaojgaa.LayI
open Go.RowKit Go.Proofs.Ytjglknoebaojgaa.P Go.Proofs.YtjglknoebaojgaaW.PrintWords Go.Proofs.YtjglknoebaojgaaW.PrintLast Go.Proofs.YtjglknoebaojgaaW.PrintMore Go.Proofs.Ytjglknoebaojgaa.Lay Go.Proofs.Ytjglknoebaojgaa.LawM
attribute [local go_sem] max2_int min2_int max_two min_two max_three min_three max_four min_four
set_option linter.unusedVariables false
set_option linter.unusedSimpArgs false
set_option maxHeartbeats 8000000 in
set_option maxRecDepth 100000 in
theorem markFact (x0 : Int) (A1 : Option Addr) (n1 c1 : Nat) (p1 : Pl) (a : Int) (w : World) (h1_ : Row 1 eInt w (.slice A1 n1 c1) p1) (h0 : 0 ≤ a) (h1 : a + (p1.length : Int) ≤ 4611686018427387000) :
  Calls Try.prog 74 #[.agg #[.int .i64 x0, .slice A1 n1 c1], .int .i64 a] w fun e w' => e = .returned (.int .i64 (a + (p1.length : Int))) ∧ Wr w w' (p1) a := by
 have hu53 := Try.underlying53
 have HR1 := Aside0.mk h1_
 have HI1 := Aside0.mk (in_row in_int _ _ _ h1_)
 have H0 := Aside0.mk h0
 have H1 := Aside0.mk h1
 clear h0 h1 h1_
 go_enter Try.func74, Try.ntmps74
 go_wp2_with (first | ((with_reducible refine gate_dst (N := 2) rfl ?_); refine box_event ?hg (N := 2) ?hd (cs := #[.int .i64 x0, .slice A1 n1 c1]) (t := 53) ?hr ?_; (case hd => rfl); (case hg => rfl); (case hr => first | (go_simp; done) | (go_simp; rfl)); intro gb hg w80 hbox hb; have BK := Aside0.mk hbox; have GB := Aside0.mk hg; have HW := Aside0.mk (Wr.below hb a); have HR1_ := Aside0.mk (st_row st_int _ _ _ _ (Hd.below hb) HR1.out); clear HR1; have HR1 := HR1_; clear HR1_; have hc0 : w80.cell? ⟨gb, 0, none⟩ = some (.int .i64 x0) := (blk_cell BK.out 0).trans rfl; have hc1 : w80.cell? ⟨gb, 1, none⟩ = some (.slice A1 n1 c1) := (blk_cell BK.out 1).trans rfl; clear hbox hg hb) | ((with_reducible refine gate_callee (f := 50) rfl ?_); refine goesL_ (some 8) rfl rfl Try.func50 (by kernel_rfl) rfl #[.slice A1 n1 c1, .int .i64 a] rfl (by (try simp only [List.map_toArray, List.map_cons, List.map_nil]); first | done | rfl) ?_; (with_reducible refine (markIntS _ p1 a _ HR1.out ?k0 ?k1).mono ?_); (case k0 => have := H0.out; omega); (case k1 => (have := H1.out; omega)); rintro e w81 ⟨rfl, hw⟩; refine ⟨_, rfl, ?_⟩; have HW_ := Aside0.mk (Wr.trans HW.out (by simpa using hw) (fun p hp => absurd hp List.not_mem_nil)); clear HW; have HW := HW_; clear HW_; have BK_ := Aside0.mk (blk_wr BK.out hw (lo' := 0) (hi' := w.heap.size) (fun p hp => ⟨Nat.zero_le _, HI1.out p hp⟩) (.inr (by have := GB.out; omega))); clear BK; have BK := BK_; clear BK_; have hd0 : w81.cell? ⟨gb, 0, none⟩ = some (.int .i64 x0) := (blk_cell BK.out 0).trans rfl; clear hc0; have hc0 := hd0; clear hd0; have hd1 : w81.cell? ⟨gb, 1, none⟩ = some (.slice A1 n1 c1) := (blk_cell BK.out 1).trans rfl; clear hc1; have hc1 := hd1; clear hd1; clear hw))
 go_ret
 exact ⟨rfl, by simpa using HW.out⟩
end Go.Proofs.Ytjglknoebaojgaa.LayI

namespace Go.Proofs.Ytjglknoebaojgaa.LayI
open Go.RowKit Go.Proofs.Ytjglknoebaojgaa.P Go.Proofs.YtjglknoebaojgaaW.PrintWords Go.Proofs.YtjglknoebaojgaaW.PrintLast Go.Proofs.YtjglknoebaojgaaW.PrintMore Go.Proofs.Ytjglknoebaojgaa.Lay Go.Proofs.Ytjglknoebaojgaa.LawM
attribute [local go_sem] max2_int min2_int max_two min_two max_three min_three max_four min_four
set_option linter.unusedVariables false
set_option linter.unusedSimpArgs false
set_option maxHeartbeats 8000000 in
set_option maxRecDepth 100000 in
theorem markChange (x0 : Bool) (x1 : Int) (A2 : Option Addr) (n2 c2 : Nat) (p2 : Pl) (a : Int) (w : World) (h2_ : Row 1 eInt w (.slice A2 n2 c2) p2) (h0 : 0 ≤ a) (h1 : a + (p2.length : Int) ≤ 4611686018427387000) :
  Calls Try.prog 29 #[.agg #[.bool x0, .int .i64 x1, .slice A2 n2 c2], .int .i64 a] w fun e w' => e = .returned (.int .i64 (a + (p2.length : Int))) ∧ Wr w w' (p2) a := by
 have hu55 := Try.underlying55
 have hu53 := Try.underlying53
 have HR2 := Aside0.mk h2_
 have HI2 := Aside0.mk ((in_row in_int) _ _ _ h2_)
 have H0 := Aside0.mk h0
 have H1 := Aside0.mk h1
 clear h0 h1 h2_
 go_enter Try.func29, Try.ntmps29
 go_wp2_with (first | ((with_reducible refine gate_dst (N := 2) rfl ?_); refine box_event ?hg (N := 2) ?hd (cs := #[.bool x0, .int .i64 x1, .slice A2 n2 c2]) (t := 55) ?hr ?_; (case hd => rfl); (case hg => rfl); (case hr => first | (go_simp; done) | (go_simp; rfl)); intro gb hg w80 hbox hb; have BK := Aside0.mk hbox; have GB := Aside0.mk hg; have HW := Aside0.mk (Wr.below hb a); have HR2_ := Aside0.mk ((st_row st_int) _ _ _ _ (Hd.below hb) HR2.out); clear HR2; have HR2 := HR2_; clear HR2_; have hc0 : w80.cell? ⟨gb, 0, none⟩ = some (.bool x0) := (blk_cell BK.out 0).trans rfl; have hc1 : w80.cell? ⟨gb, 1, none⟩ = some (.int .i64 x1) := (blk_cell BK.out 1).trans rfl; have hc2 : w80.cell? ⟨gb, 2, none⟩ = some (.slice A2 n2 c2) := (blk_cell BK.out 2).trans rfl; clear hbox hg hb) | ((with_reducible refine gate_callee (f := 74) rfl ?_); refine goesL_ (some 8) rfl rfl Try.func74 (by kernel_rfl) rfl #[.agg #[.int .i64 x1, .slice A2 n2 c2], .int .i64 a] rfl (by (try simp only [List.map_toArray, List.map_cons, List.map_nil]); first | done | rfl) ?_; (with_reducible refine (markFact x1 A2 n2 c2 p2 a _ HR2.out ?k0 ?k1).mono ?_); (case k0 => have := H0.out; omega); (case k1 => (have := H1.out; omega)); rintro e w81 ⟨rfl, hw⟩; refine ⟨_, rfl, ?_⟩; have HW_ := Aside0.mk (Wr.trans HW.out (by simpa using hw) (fun p hp => absurd hp List.not_mem_nil)); clear HW; have HW := HW_; clear HW_; have BK_ := Aside0.mk (blk_wr BK.out hw (lo' := 0) (hi' := w.heap.size) (fun p hp => ⟨Nat.zero_le _, (fun p hp => HI2.out p hp) p hp⟩) (.inr (by have := GB.out; omega))); clear BK; have BK := BK_; clear BK_; have hd0 : w81.cell? ⟨gb, 0, none⟩ = some (.bool x0) := (blk_cell BK.out 0).trans rfl; clear hc0; have hc0 := hd0; clear hd0; have hd1 : w81.cell? ⟨gb, 1, none⟩ = some (.int .i64 x1) := (blk_cell BK.out 1).trans rfl; clear hc1; have hc1 := hd1; clear hd1; have hd2 : w81.cell? ⟨gb, 2, none⟩ = some (.slice A2 n2 c2) := (blk_cell BK.out 2).trans rfl; clear hc2; have hc2 := hd2; clear hd2; clear hw))
 go_ret
 exact ⟨rfl, by simpa using HW.out⟩
end Go.Proofs.Ytjglknoebaojgaa.LayI

namespace Go.Proofs.Ytjglknoebaojgaa.LayI
open Go.RowKit Go.Proofs.Ytjglknoebaojgaa.P Go.Proofs.YtjglknoebaojgaaW.PrintWords Go.Proofs.YtjglknoebaojgaaW.PrintLast Go.Proofs.YtjglknoebaojgaaW.PrintMore Go.Proofs.Ytjglknoebaojgaa.Lay Go.Proofs.Ytjglknoebaojgaa.LawM
attribute [local go_sem] max2_int min2_int max_two min_two max_three min_three max_four min_four
set_option linter.unusedVariables false
set_option linter.unusedSimpArgs false
set_option maxHeartbeats 8000000 in
set_option maxRecDepth 100000 in
theorem markSchema (A0 : Option Addr) (n0 c0 : Nat) (p0 : Pl) (a : Int) (w : World) (h0_ : Row 1 eInt w (.slice A0 n0 c0) p0) (h0 : 0 ≤ a) (h1 : a + (p0.length : Int) ≤ 4611686018427387000) :
  Calls Try.prog 27 #[.agg #[.slice A0 n0 c0], .int .i64 a] w fun e w' => e = .returned (.int .i64 (a + (p0.length : Int))) ∧ Wr w w' (p0) a := by
 have hu50 := Try.underlying50
 have HR0 := Aside0.mk h0_
 have HI0 := Aside0.mk (in_row in_int _ _ _ h0_)
 have H0 := Aside0.mk h0
 have H1 := Aside0.mk h1
 clear h0 h1 h0_
 go_enter Try.func27, Try.ntmps27
 go_wp2_with (first | ((with_reducible refine gate_dst (N := 2) rfl ?_); refine box_event ?hg (N := 2) ?hd (cs := #[.slice A0 n0 c0]) (t := 50) ?hr ?_; (case hd => rfl); (case hg => rfl); (case hr => first | (go_simp; done) | (go_simp; rfl)); intro gb hg w80 hbox hb; have BK := Aside0.mk hbox; have GB := Aside0.mk hg; have HW := Aside0.mk (Wr.below hb a); have HR0_ := Aside0.mk (st_row st_int _ _ _ _ (Hd.below hb) HR0.out); clear HR0; have HR0 := HR0_; clear HR0_; have hc0 : w80.cell? ⟨gb, 0, none⟩ = some (.slice A0 n0 c0) := (blk_cell BK.out 0).trans rfl; clear hbox hg hb) | ((with_reducible refine gate_callee (f := 50) rfl ?_); refine goesL_ (some 8) rfl rfl Try.func50 (by kernel_rfl) rfl #[.slice A0 n0 c0, .int .i64 a] rfl (by (try simp only [List.map_toArray, List.map_cons, List.map_nil]); first | done | rfl) ?_; (with_reducible refine (markIntS _ p0 a _ HR0.out ?k0 ?k1).mono ?_); (case k0 => have := H0.out; omega); (case k1 => (have := H1.out; omega)); rintro e w81 ⟨rfl, hw⟩; refine ⟨_, rfl, ?_⟩; have HW_ := Aside0.mk (Wr.trans HW.out (by simpa using hw) (fun p hp => absurd hp List.not_mem_nil)); clear HW; have HW := HW_; clear HW_; have BK_ := Aside0.mk (blk_wr BK.out hw (lo' := 0) (hi' := w.heap.size) (fun p hp => ⟨Nat.zero_le _, HI0.out p hp⟩) (.inr (by have := GB.out; omega))); clear BK; have BK := BK_; clear BK_; have hd0 : w81.cell? ⟨gb, 0, none⟩ = some (.slice A0 n0 c0) := (blk_cell BK.out 0).trans rfl; clear hc0; have hc0 := hd0; clear hd0; clear hw))
 go_ret
 exact ⟨rfl, by simpa using HW.out⟩
end Go.Proofs.Ytjglknoebaojgaa.LayI

namespace Go.Proofs.Ytjglknoebaojgaa.LayI
open Go.RowKit Go.Proofs.Ytjglknoebaojgaa.P Go.Proofs.YtjglknoebaojgaaW.PrintWords Go.Proofs.YtjglknoebaojgaaW.PrintLast Go.Proofs.YtjglknoebaojgaaW.PrintMore Go.Proofs.Ytjglknoebaojgaa.Lay
attribute [local go_sem] max2_int min2_int max_two min_two max_three min_three max_four min_four
set_option linter.unusedVariables false
set_option linter.unusedSimpArgs false
set_option maxHeartbeats 8000000 in
set_option maxRecDepth 100000 in
theorem markFactS (v : Value) (ps : Pl) (a : Int) (w : World) (h : Row 2 (ePair eInt (eRow (Row 1 eInt))) w v ps) (h0 : 0 ≤ a) (h1 : a + ps.length ≤ 4611686018427387000) :
  Calls Try.prog 73 #[v, .int .i64 a] w fun e w' => e = .returned (.int .i64 (a + ps.length)) ∧ Wr w w' ps a := by
 have hin := in_row (in_pair in_int (in_eRow (in_row in_int))) _ _ _ h
 obtain ⟨A, n, c, rfl, hn, ass, hl, hpf, hr⟩ := h.open_
 have HF := Aside0.mk hpf
 have HN := Aside0.mk hn
 have HL := Aside0.mk hl
 have HR := Aside0.mk hr
 have HI := Aside0.mk hin
 have H1 := Aside0.mk h1
 have H0 := Aside0.mk h0
 clear hn hr hin h1 h0 h hl hpf
 have hu53 := Try.underlying53
 go_enter Try.func73, Try.ntmps73
 go_wp2
 go_loopg [1, 5] (n + 1) (fun kq v1 v5 w' => ∃ (x1 : Int) (x5 : Int), v1 = .int .i64 x1 ∧ v5 = .int .i64 x5 ∧ Aside0 (∃ i : Nat, x5 = (i : Int) ∧ i + kq = n + 1 ∧ x1 = a + ((ass.take i).flatten.length : Int) ∧ Wr w w' (ass.take i).flatten a) ∧ Aside0 (1 ≤ kq))
 case atStart => exact ⟨a, 0, rfl, rfl, ⟨0, rfl, by omega, by simp, by simpa using Wr.nil w a⟩, ⟨by omega⟩⟩
 case round =>
  obtain ⟨x1, x5, rfl, rfl, HX, HQ⟩ := hrel
  cases gk with
  | zero => exact absurd HQ.out (by omega)
  | succ k1 =>
   by_cases c3 : x5 < (n : Int)
   ·obtain ⟨i, hi, hik, hx1, hw⟩ := HX.out
    have hil : i < ass.length := by have := HL.out; omega
    obtain ⟨g, rfl, hE⟩ := HR.out (by omega)
    have hEi := hE i hil
    have hb1 := H1.out
    have hpf := HF.out
    rw [hpf] at hb1
    have hsz := flat_lt hil
    have hb0 := H0.out
    have hn9 := HN.out
    have hx5 : x5.toNat = i := by omega
    have HH := Aside0.mk (show (i + 1) + k1 = n + 1 ∧ 1 ≤ k1 by omega)
    have HX5 := Aside0.mk (show wrap64 (x5 + 1) = ((i + 1 : Nat) : Int) by unfold wrap64; omega)
    have c3b0 : decide (x5 < (n : Int)) = true := decide_eq_true c3
    have p5 : (0 ≤ (x5 : Int)) = True := eq_true (by omega)
    have q5 : (x5 < (n : Int)) = True := eq_true c3
    obtain ⟨b1, b2, hA, hB, hab⟩ := (st_pair st_int (st_eRow (st_row st_int))) _ _ _ _ _ hw.hd hEi
    rw [← hx5] at hA hB
    have hlen : ass[i].length = b1.length + b2.length := by rw [hab]; exact List.length_append
    obtain ⟨⟨hf0, y0, hc0⟩, he0⟩ := hA
    have e0 := Aside0.mk he0
    have el0 : b1.length = 1 := by rw [he0]; rfl
    clear he0
    obtain ⟨u1, hc1, hf1, hi1, hrw1⟩ := hB
    obtain ⟨A1, n1, cc1, rfl, hz1⟩ := id hrw1
    clear hz1
    have ew0 : wrap64 (x1 + 1) = x1 + (b1.length : Int) := by rw [el0]; unfold wrap64; omega
    have HC1 := Aside0.mk (show 0 ≤ wrap64 (x1 + 1) ∧ wrap64 (x1 + 1) + (b2.length : Int) ≤ 4611686018427387000 by rw [ew0]; omega)
    have hfin : (wrap64 (x1 + 1) + (b2.length : Int)) = a + (((ass.take (i + 1)).flatten.length : Nat) : Int) := by rw [flat_take hil, List.length_append, hlen]; rw [ew0]; omega
    have HFIN := Aside0.mk hfin
    have HWX := Aside0.mk (And.intro hw (And.intro hab hx1))
    have EW0 := Aside0.mk ew0
    clear ew0 el0
    clear hfin hw hab hx1 hlen hEi hb1 hsz hb0 hn9 hx5 hpf HX HQ hik hi c3 hE
    go_wp2_with (first | ((with_reducible refine gate_store (t := 3) (p := 16) rfl ?_); refine store_event (t := 3) (p := 16) (v := ?vo_w8) (w1 := (wr.setCell ⟨g, x5.toNat * 2, none⟩ (.int .i64 x1))) ?hg ?ho ?hn ?hr ?_; (case ho => rfl); (case hg => rfl); (case hn => rfl); (case hr => first | (go_simp; done) | (go_simp; rfl)); intro w80 hw_; have WW0 : Wr wr w80 b1 (x1) := (by rw [hw_, e0.out]; exact Wr.store ⟨hf0, y0, hc0⟩ _); clear hw_; obtain ⟨hf1_, v1_, hc1_, ev1_⟩ := WW0.hd.cell g (x5.toNat * 2 + 1) _ hc1 hf1; (rcases ev1_ with ev1_ | ev1_); rotate_left; (exact absurd ev1_.1 hi1); subst ev1_; have hrw1_ := st_row st_int _ _ _ _ WW0.hd hrw1; clear hc1 hf1 hrw1; have hc1 := hc1_; have hf1 := hf1_; have hrw1 := hrw1_; clear hc1_ hf1_ hrw1_) | ((with_reducible refine gate_callee (f := 50) rfl ?_); refine goesL_ (some 25) rfl rfl Try.func50 (by kernel_rfl) rfl #[.slice A1 n1 cc1, .int .i64 (wrap64 (x1 + 1))] rfl (by (try simp only [List.map_toArray, List.map_cons, List.map_nil]); first | done | rfl) ?_; (with_reducible refine (markIntS _ b2 (wrap64 (x1 + 1)) _ hrw1 ?k0 ?k1).mono ?_); (case k0 => exact HC1.out.1); (case k1 => exact HC1.out.2); rintro e w81 ⟨rfl, WW1⟩; refine ⟨_, rfl, ?_⟩; skip))
    have W2 : Wr w w81 (ass.take (i + 1)).flatten a := by
     obtain ⟨hw, hab, hx1⟩ := HWX.out
     rw [flat_take hil, hab]
     refine Wr.trans hw ?_ (fun p hp => HI.out p (by rw [HF.out]; exact flat_mem hp))
     rw [← hx1]
     have WA := WW0
     have WB := WW1
     rw [EW0.out] at WB
     refine Wr.trans WA WB (fun p hp => ?_)
     have hm := HI.out p (by rw [HF.out]; exact List.mem_flatten.2 ⟨_, List.getElem_mem hil, by rw [hab]; exact List.mem_append_left _ hp⟩)
     exact Nat.lt_of_lt_of_le hm hw.hd.size
    go_roundg k1
    case measure => exact Nat.lt_succ_self _
    case rel => exact ⟨_, _, rfl, rfl, ⟨i + 1, HX5.out, HH.out.1, HFIN.out, W2⟩, ⟨HH.out.2⟩⟩
   ·have c3b0 : decide (x5 < (n : Int)) = false := decide_eq_false c3
    go_wp2
    go_ret
    obtain ⟨i, hi, hik, hx1, hw⟩ := HX.out
    have hq := HQ.out
    have hi' : i = n := by omega
    subst hi'
    rw [flat_all ass HL.out, ← HF.out] at hx1 hw
    exact ⟨by rw [hx1]; rfl, hw⟩
end Go.Proofs.Ytjglknoebaojgaa.LayI

namespace Go.Proofs.Ytjglknoebaojgaa.LayI
open Go.RowKit Go.Proofs.Ytjglknoebaojgaa.P Go.Proofs.YtjglknoebaojgaaW.PrintWords Go.Proofs.YtjglknoebaojgaaW.PrintLast Go.Proofs.YtjglknoebaojgaaW.PrintMore Go.Proofs.Ytjglknoebaojgaa.Lay Go.Proofs.Ytjglknoebaojgaa.LawM
attribute [local go_sem] max2_int min2_int max_two min_two max_three min_three max_four min_four
set_option linter.unusedVariables false
set_option linter.unusedSimpArgs false
set_option maxHeartbeats 8000000 in
set_option maxRecDepth 100000 in
theorem markSource (A0 : Option Addr) (n0 c0 : Nat) (x1 : Int) (p0 : Pl) (a : Int) (w : World) (h0_ : Row 2 (ePair eInt (eRow (Row 1 eInt))) w (.slice A0 n0 c0) p0) (h0 : 0 ≤ a) (h1 : a + (p0.length : Int) ≤ 4611686018427387000) :
  Calls Try.prog 28 #[.agg #[.slice A0 n0 c0, .int .i64 x1], .int .i64 a] w fun e w' => e = .returned (.int .i64 (a + (p0.length : Int))) ∧ Wr w w' (p0) a := by
 have hu47 := Try.underlying47
 have HR0 := Aside0.mk h0_
 have HI0 := Aside0.mk (in_row (in_pair in_int (in_eRow (in_row in_int))) _ _ _ h0_)
 have H0 := Aside0.mk h0
 have H1 := Aside0.mk h1
 clear h0 h1 h0_
 go_enter Try.func28, Try.ntmps28
 go_wp2_with (first | ((with_reducible refine gate_dst (N := 2) rfl ?_); refine box_event ?hg (N := 2) ?hd (cs := #[.slice A0 n0 c0, .int .i64 x1]) (t := 47) ?hr ?_; (case hd => rfl); (case hg => rfl); (case hr => first | (go_simp; done) | (go_simp; rfl)); intro gb hg w80 hbox hb; have BK := Aside0.mk hbox; have GB := Aside0.mk hg; have HW := Aside0.mk (Wr.below hb a); have HR0_ := Aside0.mk (st_row (st_pair st_int (st_eRow (st_row st_int))) _ _ _ _ (Hd.below hb) HR0.out); clear HR0; have HR0 := HR0_; clear HR0_; have hc0 : w80.cell? ⟨gb, 0, none⟩ = some (.slice A0 n0 c0) := (blk_cell BK.out 0).trans rfl; have hc1 : w80.cell? ⟨gb, 1, none⟩ = some (.int .i64 x1) := (blk_cell BK.out 1).trans rfl; clear hbox hg hb) | ((with_reducible refine gate_callee (f := 73) rfl ?_); refine goesL_ (some 8) rfl rfl Try.func73 (by kernel_rfl) rfl #[.slice A0 n0 c0, .int .i64 a] rfl (by (try simp only [List.map_toArray, List.map_cons, List.map_nil]); first | done | rfl) ?_; (with_reducible refine (markFactS _ p0 a _ HR0.out ?k0 ?k1).mono ?_); (case k0 => have := H0.out; omega); (case k1 => (have := H1.out; omega)); rintro e w81 ⟨rfl, hw⟩; refine ⟨_, rfl, ?_⟩; have HW_ := Aside0.mk (Wr.trans HW.out (by simpa using hw) (fun p hp => absurd hp List.not_mem_nil)); clear HW; have HW := HW_; clear HW_; have BK_ := Aside0.mk (blk_wr BK.out hw (lo' := 0) (hi' := w.heap.size) (fun p hp => ⟨Nat.zero_le _, HI0.out p hp⟩) (.inr (by have := GB.out; omega))); clear BK; have BK := BK_; clear BK_; have hd0 : w81.cell? ⟨gb, 0, none⟩ = some (.slice A0 n0 c0) := (blk_cell BK.out 0).trans rfl; clear hc0; have hc0 := hd0; clear hd0; have hd1 : w81.cell? ⟨gb, 1, none⟩ = some (.int .i64 x1) := (blk_cell BK.out 1).trans rfl; clear hc1; have hc1 := hd1; clear hd1; clear hw))
 go_ret
 exact ⟨rfl, by simpa using HW.out⟩
end Go.Proofs.Ytjglknoebaojgaa.LayI

namespace Go.Proofs.Ytjglknoebaojgaa.LayI
open Go.RowKit Go.Proofs.Ytjglknoebaojgaa.P Go.Proofs.YtjglknoebaojgaaW.PrintWords Go.Proofs.YtjglknoebaojgaaW.PrintLast Go.Proofs.YtjglknoebaojgaaW.PrintMore Go.Proofs.Ytjglknoebaojgaa.Lay Go.Proofs.Ytjglknoebaojgaa.LawM
attribute [local go_sem] max2_int min2_int max_two min_two max_three min_three max_four min_four
set_option linter.unusedVariables false
set_option linter.unusedSimpArgs false
theorem flat_val {P : Nat → Nat × Nat → Prop} {ass : List Pl} {i : Nat} (h : i < ass.length) (hv : ∀ j (hj : j < ass.flatten.length), P j ass.flatten[j]) : ∀ j (hj : j < ass[i].length), P ((ass.take i).flatten.length + j) ass[i][j] := by
 intro j hj
 have e : ass.flatten = (ass.take i).flatten ++ (ass[i] ++ (ass.drop (i + 1)).flatten) := by
  conv => lhs; rw [← List.take_append_drop i ass, List.flatten_append, List.drop_eq_getElem_cons h, List.flatten_cons]
 have hl : (ass.take i).flatten.length + j < ass.flatten.length := by rw [e, List.length_append, List.length_append]; omega
 have := hv _ hl
 have e2 : ass.flatten[(ass.take i).flatten.length + j] = ass[i][j] := by
  have e3 : ∀ (l : Pl) (q : Nat) (h1 : q < l.length) (h2 : l = (ass.take i).flatten ++ (ass[i] ++ (ass.drop (i + 1)).flatten)) (h3 : q = (ass.take i).flatten.length + j), l[q] = ass[i][j] := by
   intro l q h1 h2 h3
   subst h2; subst h3
   rw [List.getElem_append_right (Nat.le_add_right _ _)]
   simp only [Nat.add_sub_cancel_left]
   rw [List.getElem_append_left hj]
  exact e3 _ _ hl e rfl
 rw [e2] at this; exact this
/-- The places hold a, a+1, .. -/
def Vals (w : World) (ps : Pl) (a : Int) : Prop := ∀ j (h : j < ps.length), w.cell? (pa ps[j].1 ps[j].2) = some (.int .i64 (a + (j : Int)))
theorem Vals.move {w w1 : World} {ps : Pl} {a : Int} (h : Vals w ps a) (hb : Below w.heap.size w w1) : Vals w1 ps a := fun j hj => (hb.cell (World.block_lt_of_cell? w _ (h j hj))).trans (h j hj)
theorem Vals.flat {w : World} {ass : List Pl} {a : Int} (hv : Vals w ass.flatten a) {i : Nat} (h : i < ass.length) : Vals w ass[i] (a + ((ass.take i).flatten.length : Int)) := fun j hj => by
 have := flat_val (P := fun j p => w.cell? (pa p.1 p.2) = some (.int .i64 (a + (j : Int)))) h hv j hj
 rw [this]; congr 2; omega
theorem Vals.left {w : World} {b c : Pl} {a : Int} (hv : Vals w (b ++ c) a) : Vals w b a := fun j hj => by
 have := hv j (by rw [List.length_append]; omega)
 rw [List.getElem_append_left hj] at this; exact this
theorem Vals.right {w : World} {b c : Pl} {a : Int} (hv : Vals w (b ++ c) a) : Vals w c (a + (b.length : Int)) := fun j hj => by
 have := hv (b.length + j) (by rw [List.length_append]; omega)
 rw [List.getElem_append_right (Nat.le_add_right _ _)] at this
 simp only [Nat.add_sub_cancel_left] at this
 rw [this]; congr 2; omega
theorem Vals.one {w : World} {g o : Nat} {a : Int} (hv : Vals w [(g, o)] a) : w.cell? (pa g o) = some (.int .i64 a) := by
 have := hv 0 (by simp)
 simpa using this
set_option maxHeartbeats 8000000 in
set_option maxRecDepth 100000 in
theorem heldIntS (v : Value) (ps : Pl) (a : Int) (w : World) (h : Row 1 eInt w v ps) (hv : Vals w ps a) (h0 : 0 ≤ a) (h1 : a + ps.length ≤ 4611686018427387000) :
  Calls Try.prog 51 #[v, .int .i64 a] w fun e w' => e = .returned (.int .i64 (a + ps.length)) ∧ Below w.heap.size w w' := by
 obtain ⟨A, n, c, rfl, hn, ass, hl, hpf, hr⟩ := h.open_
 have HF := Aside0.mk hpf
 have HN := Aside0.mk hn
 have HL := Aside0.mk hl
 have HR := Aside0.mk hr
 have HV := Aside0.mk hv
 have H1 := Aside0.mk h1
 have H0 := Aside0.mk h0
 clear hn hr h1 h0 h hl hpf hv
 go_enter Try.func51, Try.ntmps51
 go_wp2
 go_loopg [1, 5] (n + 1) (fun kq v1 v5 w' => ∃ (x1 : Int) (x5 : Int), v1 = .int .i64 x1 ∧ v5 = .int .i64 x5 ∧ Aside0 (∃ i : Nat, x5 = (i : Int) ∧ i + kq = n + 1 ∧ x1 = a + ((ass.take i).flatten.length : Int)) ∧ Aside0 (1 ≤ kq) ∧ Aside0 (Below w.heap.size w w'))
 case atStart => exact ⟨a, 0, rfl, rfl, ⟨0, rfl, by omega, by simp⟩, ⟨by omega⟩, ⟨by repeat (first | exact Below.refl _ _ | apply below_alloc | apply pw_below_drewN | apply below_drew1)⟩⟩
 case round =>
  obtain ⟨x1, x5, rfl, rfl, HX, HQ, HB⟩ := hrel
  cases gk with
  | zero => exact absurd HQ.out (by omega)
  | succ k1 =>
   by_cases c3 : x5 < (n : Int)
   ·obtain ⟨i, hi, hik, hx1⟩ := HX.out
    have hil : i < ass.length := by have := HL.out; omega
    obtain ⟨g, rfl, hE⟩ := HR.out (by omega)
    have hEi := hE i hil
    have hvi := Vals.flat (by have := HV.out; rw [HF.out] at this; exact this) hil
    rw [← hx1] at hvi
    have hb1 := H1.out
    have hpf := HF.out
    rw [hpf] at hb1
    have hsz := flat_lt hil
    have hb0 := H0.out
    have hn9 := HN.out
    have hx5 : x5.toNat = i := by omega
    have HH := Aside0.mk (show (i + 1) + k1 = n + 1 ∧ 1 ≤ k1 by omega)
    have HX5 := Aside0.mk (show wrap64 (x5 + 1) = ((i + 1 : Nat) : Int) by unfold wrap64; omega)
    have c3b0 : decide (x5 < (n : Int)) = true := decide_eq_true c3
    have p5 : (0 ≤ (x5 : Int)) = True := eq_true (by omega)
    have q5 : (x5 < (n : Int)) = True := eq_true c3
    have hd := Hd.below HB.out
    have hA := st_int _ _ _ _ _ hd hEi
    obtain ⟨b1, hab⟩ : ∃ b1, ass[i] = b1 := ⟨_, rfl⟩
    rw [hab] at hA hvi
    rw [← hx5] at hA
    have hvw := Vals.move hvi HB.out
    have hv0 := hvw
    rw [Nat.mul_one] at hA
    have hlen : ass[i].length = b1.length := by rw [hab]
    obtain ⟨⟨hf0, y0, hcy0⟩, he0⟩ := hA
    have el0 : b1.length = 1 := by rw [he0]; rfl
    rw [he0] at hv0
    have hc0 : wr.cell? ⟨g, x5.toNat, none⟩ = some (.int .i64 (x1)) := Vals.one hv0
    clear hcy0 hf0 hv0
    have ew0 : wrap64 (x1 + 1) = x1 + (b1.length : Int) := by rw [el0]; unfold wrap64; omega
    have hne0 : ((x1) != (x1)) = false := by simp
    have hfin : wrap64 (x1 + 1) = a + (((ass.take (i + 1)).flatten.length : Nat) : Int) := by rw [flat_take hil, List.length_append, hlen]; rw [ew0]; omega
    have HFIN := Aside0.mk hfin
    clear ew0
    clear el0 he0
    clear hfin hab hx1 hlen hEi hb1 hsz hb0 hn9 hx5 hpf HX HQ hik hi c3 hE hvi hvw hd
    go_wp2
    go_roundg k1
    case measure => exact Nat.lt_succ_self _
    case rel => exact ⟨_, _, rfl, rfl, ⟨i + 1, HX5.out, HH.out.1, HFIN.out⟩, ⟨HH.out.2⟩, ⟨(by repeat (first | (with_reducible first | exact HB.out | apply below_alloc | apply pw_below_drewN | apply below_drew1) | exact HB.out))⟩⟩
   ·have c3b0 : decide (x5 < (n : Int)) = false := decide_eq_false c3
    go_wp2
    go_ret
    obtain ⟨i, hi, hik, hx1⟩ := HX.out
    have hq := HQ.out
    have hi' : i = n := by omega
    subst hi'
    rw [flat_all ass HL.out, ← HF.out] at hx1
    exact ⟨by rw [hx1]; rfl, (by repeat (first | (with_reducible first | exact HB.out | apply below_alloc | apply pw_below_drewN | apply below_drew1) | exact HB.out))⟩
end Go.Proofs.Ytjglknoebaojgaa.LayI

