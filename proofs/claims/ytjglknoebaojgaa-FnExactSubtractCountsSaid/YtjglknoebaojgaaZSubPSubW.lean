/- Out of YtjglknoebaojgaaPSubW: what the claim needs of it. Conditions: each declaration's own. -/
import Derived.Test.YtjglknoebaojgaaZSubM12
import Derived.Test.YtjglknoebaojgaaZSubM13
namespace Go.Proofs.Ytjglknoebaojgaa.G
open Go.RowKit Go.Proofs.YtjglknoebaojgaaW.PrintWords Go.Proofs.YtjglknoebaojgaaW.PrintLast Go.Proofs.YtjglknoebaojgaaW.PrintMore
attribute [local go_sem] max2_int min2_int max_two min_two max_three min_three max_four min_four
set_option linter.unusedVariables false
set_option linter.unusedSimpArgs false

set_option maxHeartbeats 8000000 in
set_option maxRecDepth 100000 in
theorem impl_SubtractCounts.calls (k : Nat) (A0 : Option Addr) (c0 : Nat) (l0 : List (S91)) (A1 : Option Addr) (c1 : Nat) (l1 : List (S91)) (r1 : List (S91)) (r2 : Bool) (w : World) (hr0 : Kd.C k91 w A0 l0.length l0) (hc0 : l0.length ≤ c0) (hr1 : Kd.C k91 w A1 l1.length l1) (hc1 : l1.length ≤ c1) (h : impl_SubtractCounts.f k l0 l1 = some (r1, r2)) :
    Calls Try.prog 10 #[.slice A0 l0.length c0, .slice A1 l1.length c1] w fun e w' => ∃ v0_ : Value, e = .returned (.tuple #[v0_, .bool r2]) ∧ Kd.S k91 91 w' w.heap.size (fun _ => True) v0_ r1 ∧ Below w.heap.size w w' := by
  have hu91 := Try.underlying91
  have HR0 := Aside0.mk hr0
  have HC0 := Aside0.mk hc0
  clear hr0 hc0
  have HR1 := Aside0.mk hr1
  have HC1 := Aside0.mk hc1
  clear hr1 hc1
  have HB := Aside0.mk (Below.refl w.heap.size w)
  have H : ((impl_areOrdered.f k l0).bind fun t188 => (if t188 = true then ((impl_areOrdered.f k l1).bind fun t189 => (impl_SubtractCounts.j0 k l0 l1 (!t189))) else (impl_SubtractCounts.j0 k l0 l1 true))) = some (r1, r2) := h
  clear h
  have HC3 := Aside0.mk H
  clear H
  go_enter Try.func10, Try.ntmps10
  go_upto_region 1 with (fail)
  go_cut [20] (fun v20 wc => ∃ (kq : Nat) (x20_2 : Bool), v20 = .bool x20_2 ∧ Aside0 (impl_SubtractCounts.j0 kq l0 l1 x20_2 = some (r1, r2)) ∧ Aside0 (kq ≤ k) ∧ Aside0 (Below w.heap.size w wc))
  case first =>
    have H := HC3.out
    clear HC3
    replace H := Option.bind_eq_some_iff.mp H
    obtain ⟨t188, A40, H⟩ := H
    replace H : (if t188 = true then ((impl_areOrdered.f k l1).bind fun t189 => (impl_SubtractCounts.j0 k l0 l1 (!t189))) else (impl_SubtractCounts.j0 k l0 l1 true)) = some (r1, r2) := H
    have A4 := Aside0.mk A40
    clear A40
    by_cases c5 : t188 = true
    · subst c5
      have H1 : ((impl_areOrdered.f k l1).bind fun t189 => (impl_SubtractCounts.j0 k l0 l1 (!t189))) = some (r1, r2) := by rw [if_pos rfl] at H; exact H
      clear H
      have H := H1
      clear H1
      replace H := Option.bind_eq_some_iff.mp H
      obtain ⟨t189, A60, H⟩ := H
      replace H : (impl_SubtractCounts.j0 k l0 l1 (!t189)) = some (r1, r2) := H
      have A6 := Aside0.mk A60
      clear A60
      have H' := Aside0.mk H
      clear H
      go_wp2_with (first | ((with_reducible refine gate_callee (f := 46) rfl ?_); refine goesL_ (some 14) rfl rfl Try.func46 (by kernel_rfl) rfl #[.slice A0 l0.length c0] rfl (by (try simp only [List.map_toArray, List.map_cons, List.map_nil]); first | done | rfl | (simp only [List.length_drop, List.length_take]; rfl)) ?_; (with_reducible refine (impl_areOrdered.calls k _ _ l0 true _ ?side1 ?side2 A4.out).mono ?_); (case side1 => repeat (first | exact (Kd.C_below HR0.out HB.out) | (with_reducible refine Kd.C_alloc ?_ _) | (with_reducible refine Kd.C_drewN ?_ _) | (with_reducible refine Kd.C_drew ?_))); (case side2 => exact HC0.out); rintro e w' ⟨rfl, ⟨nd, rfl⟩⟩; refine ⟨_, rfl, ?_⟩) | (go_at_call 46; (with_reducible refine (impl_areOrdered.calls k _ _ l1 t189 _ ?side1 ?side2 A6.out).mono ?_); (case side1 => repeat (first | exact (Kd.C_below HR1.out (by repeat (first | (with_reducible first | exact HB.out | apply below_alloc | apply pw_below_drewN | apply below_drew1) | exact HB.out))) | (with_reducible refine Kd.C_alloc ?_ _) | (with_reducible refine Kd.C_drewN ?_ _) | (with_reducible refine Kd.C_drew ?_))); (case side2 => exact HC1.out); rintro e w' ⟨rfl, ⟨nd, rfl⟩⟩))
      go_meet
      case rel => exact ⟨_, (!t189), (by first | rfl | (simp; done) | (simp [*]; done)), H', ⟨by first | omega | exact Nat.le_refl _⟩, ⟨by repeat (first | (with_reducible first | exact HB.out | apply below_alloc | apply pw_below_drewN | apply below_drew1) | exact HB.out)⟩⟩
    · replace c5 := Bool.eq_false_iff.mpr c5
      subst c5
      have H1 : (impl_SubtractCounts.j0 k l0 l1 true) = some (r1, r2) := by rw [if_neg (show ¬ (false = true) by decide)] at H; exact H
      clear H
      have H := H1
      clear H1
      have H' := Aside0.mk H
      clear H
      go_wp2_with (first | ((with_reducible refine gate_callee (f := 46) rfl ?_); refine goesL_ (some 14) rfl rfl Try.func46 (by kernel_rfl) rfl #[.slice A0 l0.length c0] rfl (by (try simp only [List.map_toArray, List.map_cons, List.map_nil]); first | done | rfl | (simp only [List.length_drop, List.length_take]; rfl)) ?_; (with_reducible refine (impl_areOrdered.calls k _ _ l0 false _ ?side1 ?side2 A4.out).mono ?_); (case side1 => repeat (first | exact (Kd.C_below HR0.out HB.out) | (with_reducible refine Kd.C_alloc ?_ _) | (with_reducible refine Kd.C_drewN ?_ _) | (with_reducible refine Kd.C_drew ?_))); (case side2 => exact HC0.out); rintro e w' ⟨rfl, ⟨nd, rfl⟩⟩; refine ⟨_, rfl, ?_⟩))
      go_meet
      case rel => exact ⟨_, (true), (by first | rfl | (simp; done) | (simp [*]; done)), H', ⟨by first | omega | exact Nat.le_refl _⟩, ⟨by repeat (first | (with_reducible first | exact HB.out | apply below_alloc | apply pw_below_drewN | apply below_drew1) | exact HB.out)⟩⟩
  case rest =>
    clear HC3
    try clear c1
    try clear p2
    try clear c4
    try clear c5
    obtain ⟨kq, x20_2, rfl, HA, HJ2, HB⟩ := hcut
    cases kq with
    | zero => exact absurd HA.out (by simp [impl_SubtractCounts.j0])
    | succ kj2 =>
      have H := HA.out
      clear HA
      simp only [impl_SubtractCounts.j0] at H
      by_cases c7 : x20_2 = true
      · subst c7
        have H1 : (some ((([] : List (S91))), false)) = some (r1, r2) := by rw [if_pos rfl] at H; exact H
        clear H
        have H := H1
        clear H1
        obtain ⟨y190, hy190⟩ : ∃ y_ : List (S91), y_ = (([] : List (S91))) := ⟨_, rfl⟩
        replace H : (some (y190, false)) = some (r1, r2) := by first | (rw [hy190]; with_reducible exact H) | (have H2_ := (Option.bind_some _ _).symm.trans H; rw [hy190]; with_reducible exact H2_) | (have H2_ := (Option.bind_some _ _).symm.trans H; with_reducible exact H2_) | with_reducible exact H | (rw [hy190]; exact H) | exact H
        have Ny190 := Aside0.mk hy190
        clear hy190
        simp only [Option.some.injEq, Prod.mk.injEq] at H
        obtain ⟨rfl, rfl⟩ := H
        go_wp2_with (first | ((with_reducible refine gate_dst (N := 21) rfl ?_); refine Kd.S_lit k91 _ 91 ?hg (N := 21) ?hd (xs := ([] : List (S91))) (inner := []) (ok := fun _ => True) (okp := fun _ => True) ?hr ?hp (fun _ hk => hk) trivial (Below.refl _ _) (Nat.le_refl _) (by simp) ?_; (case hd => rfl); (case hg => rfl); (case hr => first | (go_simp; done) | (go_simp; rfl)); (case hp => exact (Reps.none _ _)); intro v191 w8 ho9 hb hg_ hnew_; clear hg_ hnew_; (first | rw [← Ny190.out] at ho9 | (simp only [Int.reduceToNat] at ho9; rw [← Ny190.out] at ho9)); have n0_ := Aside0.mk (Kd.S_lower ho9 (below_size (by repeat (first | (with_reducible first | exact HB.out | apply below_alloc | apply pw_below_drewN | apply below_drew1) | exact HB.out)))); have n1_ := Aside0.mk (below_step (by repeat (first | (with_reducible first | exact HB.out | apply below_alloc | apply pw_below_drewN | apply below_drew1) | exact HB.out)) hb); clear HB; have HO192 := n0_; have HB := n1_; clear n0_ n1_; clear hb ho9))
        go_ret2
        exact ⟨_, by first | rfl | (simp [errW_none, errW_some] <;> rfl) | (simp [*, errW_none, errW_some] <;> rfl), by (with_reducible repeat (first | apply Kd.S_alloc | apply Kd.S_drewN | apply Kd.S_drew)); exact HO192.out, by repeat (first | (with_reducible first | exact HB.out | apply below_alloc | apply pw_below_drewN | apply below_drew1) | exact HB.out)⟩
      · replace c7 := Bool.eq_false_iff.mpr c7
        subst c7
        have H1 : ((impl_copyCounts.f kj2 l0).bind fun t193 => (impl_SubtractCounts.l0 kj2 t193 l1 (l1.length : Int) 0)) = some (r1, r2) := by rw [if_neg (show ¬ (false = true) by decide)] at H; exact H
        clear H
        have H := H1
        clear H1
        replace H := Option.bind_eq_some_iff.mp H
        obtain ⟨t193, A100, H⟩ := H
        replace H : (impl_SubtractCounts.l0 kj2 t193 l1 (l1.length : Int) 0) = some (r1, r2) := H
        have A10 := Aside0.mk A100
        clear A100
        have H' := Aside0.mk H
        clear H
        go_wp2_with (first | ((with_reducible refine gate_callee (f := 47) rfl ?_); refine goesL_ (some 23) rfl rfl Try.func47 (by kernel_rfl) rfl #[.slice A0 l0.length c0] rfl (by (try simp only [List.map_toArray, List.map_cons, List.map_nil]); first | done | rfl | (simp only [List.length_drop, List.length_take]; rfl)) ?_; (with_reducible refine (impl_copyCounts.calls kj2 _ _ l0 t193 _ ?side1 ?side2 A10.out).mono ?_); (case side1 => repeat (first | exact (Kd.C_below HR0.out HB.out) | (with_reducible refine Kd.C_alloc ?_ _) | (with_reducible refine Kd.C_drewN ?_ _) | (with_reducible refine Kd.C_drew ?_))); (case side2 => exact HC0.out); rintro e w11 ⟨v194, rfl, ho0, hb⟩; refine ⟨_, rfl, ?_⟩; have n0_ := Aside0.mk (Kd.S_lower ho0 (below_size (by repeat (first | (with_reducible first | exact HB.out | apply below_alloc | apply pw_below_drewN | apply below_drew1) | exact HB.out)))); have n1_ := Aside0.mk (below_step (by repeat (first | (with_reducible first | exact HB.out | apply below_alloc | apply pw_below_drewN | apply below_drew1) | exact HB.out)) hb); clear HB; have HO195 := n0_; have HB := n1_; clear n0_ n1_; (try clear hb); (try clear hb2); (try clear hk); (try clear hi); (try clear ho0)))
        go_loopg [26] kj2 (fun kq v26 w' => ∃ (x6_2 : List (S91)) (x26_2 : Int), v26 = .int .i64 x26_2 ∧ Aside0 (impl_SubtractCounts.l0 kq x6_2 l1 (l1.length : Int) x26_2 = some (r1, r2)) ∧ Aside0 (kq ≤ kj2) ∧ Aside0 (Kd.S k91 91 w' w.heap.size (fun _ => True) v194 x6_2) ∧ Aside0 (Below w.heap.size w w'))
        case atStart => exact ⟨(t193), (0), (by first | rfl | (simp; done) | (simp [*]; done)), H', ⟨Nat.le_refl _⟩, ⟨by (with_reducible repeat (first | apply Kd.S_alloc | apply Kd.S_drewN | apply Kd.S_drew)); exact HO195.out⟩, ⟨by repeat (first | (with_reducible first | exact HB.out | apply below_alloc | apply pw_below_drewN | apply below_drew1) | exact HB.out)⟩⟩
        case round =>
          clear H'
          try clear c1
          try clear p2
          try clear c4
          try clear c5
          try clear c7
          try clear c10
          try clear p2
          obtain ⟨x6_2, x26_2, rfl, HA, HK2, HO_6, HB⟩ := hrel
          cases gk with
          | zero => exact absurd HA.out (by simp [impl_SubtractCounts.l0])
          | succ k2 =>
            have H := HA.out
            clear HA
            simp only [impl_SubtractCounts.l0] at H
            by_cases c12 : x26_2 < (l1.length : Int)
            · rw [if_pos c12] at H
              have c12b0 : decide (x26_2 < (l1.length : Int)) = true := decide_eq_true c12
              clear c12
              by_cases c13 : 0 ≤ x26_2
              · rw [if_pos c13] at H
                have c13b0 : decide (0 ≤ x26_2) = true := decide_eq_true c13
                clear c13
                by_cases c14 : x26_2 < (l1.length : Int)
                · rw [if_pos c14] at H
                  have c14b0 : decide (x26_2 < (l1.length : Int)) = true := decide_eq_true c14
                  clear c14
                  replace H := Option.bind_eq_some_iff.mp H
                  obtain ⟨t198, A150, H⟩ := H
                  replace H : (if t198 < 0 then (some ((([] : List (S91))), false)) else (if 0 ≤ t198 then (if t198 < (x6_2.length : Int) then (impl_SubtractCounts.l0 k2 (x6_2.set (t198 : Int).toNat (⟨(rd_T91 x6_2 t198).f0, wrap64 (((rd_T91 x6_2 t198).f1) - ((rd_T91 l1 x26_2).f1))⟩ : S91)) l1 (l1.length : Int) (wrap64 (x26_2 + 1))) else (none)) else (none))) = some (r1, r2) := H
                  have A15 := Aside0.mk A150
                  clear A150
                  by_cases c16 : t198 < 0
                  · rw [if_pos c16] at H
                    have c16b0 : decide (t198 < 0) = true := decide_eq_true c16
                    clear c16
                    obtain ⟨y199, hy199⟩ : ∃ y_ : List (S91), y_ = (([] : List (S91))) := ⟨_, rfl⟩
                    replace H : (some (y199, false)) = some (r1, r2) := by first | (rw [hy199]; with_reducible exact H) | (have H2_ := (Option.bind_some _ _).symm.trans H; rw [hy199]; with_reducible exact H2_) | (have H2_ := (Option.bind_some _ _).symm.trans H; with_reducible exact H2_) | with_reducible exact H | (rw [hy199]; exact H) | exact H
                    have Ny199 := Aside0.mk hy199
                    clear hy199
                    simp only [Option.some.injEq, Prod.mk.injEq] at H
                    obtain ⟨rfl, rfl⟩ := H
                    have p196 : 0 ≤ (x26_2 : Int) := of_decide_eq_true (by first | (with_reducible assumption) | assumption)
                    have q196 : x26_2 < (l1.length : Int) := of_decide_eq_true (by first | (with_reducible assumption) | assumption)
                    obtain ⟨ad196, A196_0, c196_0, e196, hx196_0, hx196_1, hl196_0, hi196_0⟩ := at_T91 HR1.out x26_2 p196 q196
                    cases e196
                    replace hx196_0 := (HB.out.cell (World.block_lt_of_cell? w _ hx196_0)).trans hx196_0
                    replace hx196_1 := (HB.out.cell (World.block_lt_of_cell? w _ hx196_1)).trans hx196_1
                    have HR196_0 := Aside0.mk hi196_0
                    have HC196_0 := Aside0.mk hl196_0
                    clear hi196_0 hl196_0
                    replace p196 := eq_true p196
                    replace q196 := eq_true q196
                    go_wp2_with (first | ((with_reducible refine gate_dst (N := 8) rfl ?_); refine box_event ?hg (N := 8) ?hd (cs := #[.slice none 0 0, .int .i64 0]) (t := 91) ?hr ?_; (case hd => rfl); (case hg => rfl); (case hr => first | (go_simp; done) | (go_simp; rfl)); intro gb197 hg w17 hbox hb; have n0_ := Aside0.mk (Kd.S_below (Kd.S_elderB (by (with_reducible repeat (first | apply Kd.S_alloc | apply Kd.S_drewN | apply Kd.S_drew)); exact HO_6.out) gb197 (Nat.le_of_eq hg.symm)) hb); have n1_ := Aside0.mk (below_step (by repeat (first | (with_reducible first | exact HB.out | apply below_alloc | apply pw_below_drewN | apply below_drew1) | exact HB.out)) hb); have n2_ := Aside0.mk (hbox); have n3_ := Aside0.mk ((by rw [hg]; exact (below_size (by repeat (first | (with_reducible first | exact HB.out | apply below_alloc | apply pw_below_drewN | apply below_drew1) | exact HB.out))) : w.heap.size ≤ gb197)); have n4_ := Aside0.mk ((by rw [hg]; exact (below_size (by repeat (first | (with_reducible first | exact HB.out | apply below_alloc | apply pw_below_drewN | apply below_drew1) | exact HB.out))) : w.heap.size ≤ gb197)); clear HO_6; clear HB; have HO_6 := n0_; have HB := n1_; have BK197 := n2_; have GW197 := n3_; have GE197 := n4_; clear n0_ n1_ n2_ n3_ n4_; clear hb hbox hg; have hcz18_0 : w17.cell? ⟨gb197, 0, none⟩ = some (.slice none 0 0) := (blk_cell BK197.out 0).trans rfl; have hcz18_1 : w17.cell? ⟨gb197, 1, none⟩ = some (.int .i64 0) := (blk_cell BK197.out 1).trans rfl; have hfz18_0 := blk_frozen BK197.out 0; have hfz18_1 := blk_frozen BK197.out 1; obtain ⟨Ao19, co19, eo19⟩ := Kd.S_slice HO_6.out; subst eo19) | ((with_reducible refine gate_callee (f := 48) rfl ?_); refine goesL_ (some 33) rfl rfl Try.func48 (by kernel_rfl) rfl #[.slice Ao19 x6_2.length co19, .slice A196_0 ((rd_T91 l1 x26_2).f0).length c196_0] rfl (by (try simp only [List.map_toArray, List.map_cons, List.map_nil]); first | done | rfl | (simp only [List.length_drop, List.length_take]; rfl)) ?_; (with_reducible refine (impl_find.calls k2 _ _ x6_2 _ _ ((rd_T91 l1 x26_2).f0) t198 _ ?side1 ?side2 ?side3 ?side4 A15.out).mono ?_); (case side1 => refine (Kd.S_reads' (e := 91) (base := w.heap.size) (ok := fun k_ => (True ∧ k_ ≠ gb197)) (n := x6_2.length) (c := co19) ?_).2.2; exact (by (with_reducible repeat (first | apply Kd.S_alloc | apply Kd.S_drewN | apply Kd.S_drew)); exact (Kd.S_mono (Kd.S_far (p := ⟨gb197, 1, none⟩) (Kd.S_far (p := ⟨gb197, 0, none⟩) (Kd.S_mono HO_6.out (fun k_ hk => (⟨hk, hk.2⟩ : _ ∧ k_ ≠ gb197))) (fun _ hk => hk.2) (.slice A196_0 ((rd_T91 l1 x26_2).f0).length c196_0)) (fun _ hk => hk.2) (.int .i64 ((rd_T91 l1 x26_2).f1))) (fun _ h_ => h_.1)))); (case side2 => exact (Kd.S_reads' HO_6.out).2.1); (case side3 => exact Kd.C_below HR196_0.out (by repeat (first | (with_reducible first | exact HB.out | apply below_alloc | apply pw_below_drewN | apply below_drew1 | refine below_set ?_ GE197.out) | exact HB.out))); (case side4 => exact HC196_0.out); rintro e w20 ⟨rfl, hb⟩; refine ⟨_, rfl, ?_⟩; have n0_ := Aside0.mk (Kd.S_below (by (with_reducible repeat (first | apply Kd.S_alloc | apply Kd.S_drewN | apply Kd.S_drew)); exact (Kd.S_mono (Kd.S_far (p := ⟨gb197, 1, none⟩) (Kd.S_far (p := ⟨gb197, 0, none⟩) (Kd.S_mono HO_6.out (fun k_ hk => (⟨hk, hk.2⟩ : _ ∧ k_ ≠ gb197))) (fun _ hk => hk.2) (.slice A196_0 ((rd_T91 l1 x26_2).f0).length c196_0)) (fun _ hk => hk.2) (.int .i64 ((rd_T91 l1 x26_2).f1))) (fun _ h_ => h_.1))) hb); have n1_ := Aside0.mk (blk_below (g := gb197) (o := .cells #[.slice A196_0 ((rd_T91 l1 x26_2).f0).length c196_0, .int .i64 ((rd_T91 l1 x26_2).f1)] 91 (0, 0)) (by (with_reducible repeat (first | refine blk_drewN ?_ _ | refine blk_drew ?_ | refine blk_alloc ?_ _)); refine blk_put (cs := #[.slice A196_0 ((rd_T91 l1 x26_2).f0).length c196_0, .int .i64 0]) ?_ 1 _ rfl; (with_reducible repeat (first | refine blk_drewN ?_ _ | refine blk_drew ?_ | refine blk_alloc ?_ _)); refine blk_put (cs := #[.slice none 0 0, .int .i64 0]) ?_ 0 _ rfl; (with_reducible repeat (first | refine blk_drewN ?_ _ | refine blk_drew ?_ | refine blk_alloc ?_ _)); exact BK197.out) hb); have n2_ := Aside0.mk (below_step (by repeat (first | (with_reducible first | exact HB.out | apply below_alloc | apply pw_below_drewN | apply below_drew1 | refine below_set ?_ GE197.out) | exact HB.out)) hb); clear HO_6; clear BK197; clear HB; have HO_6 := n0_; have BK197 := n1_; have HB := n2_; clear n0_ n1_ n2_; (try clear hb); (try clear hb2); (try clear hk); (try clear hi)) | ((with_reducible refine gate_dst (N := 36) rfl ?_); refine Kd.S_lit k91 _ 91 ?hg (N := 36) ?hd (xs := ([] : List (S91))) (inner := []) (ok := fun _ => True) (okp := fun _ => True) ?hr ?hp (fun _ hk => hk) trivial (Below.refl _ _) (Nat.le_refl _) (by simp) ?_; (case hd => rfl); (case hg => rfl); (case hr => first | (go_simp; done) | (go_simp; rfl)); (case hp => exact (Reps.none _ _)); intro v200 w21 ho22 hb hg_ hnew_; clear hg_ hnew_; (first | rw [← Ny199.out] at ho22 | (simp only [Int.reduceToNat] at ho22; rw [← Ny199.out] at ho22)); have n0_ := Aside0.mk (Kd.S_elder' (by (with_reducible repeat (first | apply Kd.S_alloc | apply Kd.S_drewN | apply Kd.S_drew)); exact HO_6.out) (Kd.S_base ho22) hb); have n1_ := Aside0.mk (Kd.S_lower (Kd.S_newB (Kd.S_new' ho22 (Kd.S_lt (by (with_reducible repeat (first | apply Kd.S_alloc | apply Kd.S_drewN | apply Kd.S_drew)); exact HO_6.out))) (g := gb197) (o := .cells #[.slice A196_0 ((rd_T91 l1 x26_2).f0).length c196_0, .int .i64 ((rd_T91 l1 x26_2).f1)] 91 (0, 0)) (by (with_reducible repeat (first | refine blk_drewN ?_ _ | refine blk_drew ?_ | refine blk_alloc ?_ _)); exact BK197.out)) (below_size (by repeat (first | (with_reducible first | exact HB.out | apply below_alloc | apply pw_below_drewN | apply below_drew1 | refine below_set ?_ GE197.out) | exact HB.out)))); have n2_ := Aside0.mk (blk_below (g := gb197) (o := .cells #[.slice A196_0 ((rd_T91 l1 x26_2).f0).length c196_0, .int .i64 ((rd_T91 l1 x26_2).f1)] 91 (0, 0)) (by (with_reducible repeat (first | refine blk_drewN ?_ _ | refine blk_drew ?_ | refine blk_alloc ?_ _)); exact BK197.out) hb); have n3_ := Aside0.mk (below_step (by repeat (first | (with_reducible first | exact HB.out | apply below_alloc | apply pw_below_drewN | apply below_drew1 | refine below_set ?_ GE197.out) | exact HB.out)) hb); clear HO_6; clear BK197; clear HB; have HO_6 := n0_; have HO201 := n1_; have BK197 := n2_; have HB := n3_; clear n0_ n1_ n2_ n3_; clear hb ho22))
                    go_ret2
                    exact ⟨_, by first | rfl | (simp [errW_none, errW_some] <;> rfl) | (simp [*, errW_none, errW_some] <;> rfl), by (with_reducible repeat (first | apply Kd.S_alloc | apply Kd.S_drewN | apply Kd.S_drew)); exact Kd.S_mono HO201.out (fun _ hk => trivial), by repeat (first | (with_reducible first | exact HB.out | apply below_alloc | apply pw_below_drewN | apply below_drew1 | refine below_set ?_ GE197.out) | exact HB.out)⟩
                  · rw [if_neg c16] at H
                    have c16b0 : decide (t198 < 0) = false := decide_eq_false c16
                    clear c16
                    by_cases c23 : 0 ≤ t198
                    · rw [if_pos c23] at H
                      have c23b0 : decide (0 ≤ t198) = true := decide_eq_true c23
                      clear c23
                      by_cases c24 : t198 < (x6_2.length : Int)
                      · rw [if_pos c24] at H
                        have c24b0 : decide (t198 < (x6_2.length : Int)) = true := decide_eq_true c24
                        clear c24
                        obtain ⟨y203, hy203⟩ : ∃ y_ : List (S91), y_ = (x6_2.set (t198 : Int).toNat (⟨(rd_T91 x6_2 t198).f0, wrap64 (((rd_T91 x6_2 t198).f1) - ((rd_T91 l1 x26_2).f1))⟩ : S91)) := ⟨_, rfl⟩
                        replace H : (impl_SubtractCounts.l0 k2 y203 l1 (l1.length : Int) (wrap64 (x26_2 + 1))) = some (r1, r2) := by first | (rw [hy203]; with_reducible exact H) | (have H2_ := (Option.bind_some _ _).symm.trans H; rw [hy203]; with_reducible exact H2_) | (have H2_ := (Option.bind_some _ _).symm.trans H; with_reducible exact H2_) | with_reducible exact H | (rw [hy203]; exact H) | exact H
                        have Ny203 := Aside0.mk hy203
                        clear hy203
                        have H' := Aside0.mk H
                        clear H
                        have p196 : 0 ≤ (x26_2 : Int) := of_decide_eq_true (by first | (with_reducible assumption) | assumption)
                        have q196 : x26_2 < (l1.length : Int) := of_decide_eq_true (by first | (with_reducible assumption) | assumption)
                        obtain ⟨ad196, A196_0, c196_0, e196, hx196_0, hx196_1, hl196_0, hi196_0⟩ := at_T91 HR1.out x26_2 p196 q196
                        cases e196
                        replace hx196_0 := (HB.out.cell (World.block_lt_of_cell? w _ hx196_0)).trans hx196_0
                        replace hx196_1 := (HB.out.cell (World.block_lt_of_cell? w _ hx196_1)).trans hx196_1
                        have HR196_0 := Aside0.mk hi196_0
                        have HC196_0 := Aside0.mk hl196_0
                        clear hi196_0 hl196_0
                        replace p196 := eq_true p196
                        replace q196 := eq_true q196
                        try go_wp2_with (first | ((with_reducible refine gate_dst (N := 8) rfl ?_); refine box_event ?hg (N := 8) ?hd (cs := #[.slice none 0 0, .int .i64 0]) (t := 91) ?hr ?_; (case hd => rfl); (case hg => rfl); (case hr => first | (go_simp; done) | (go_simp; rfl)); intro gb197 hg w26 hbox hb; have n0_ := Aside0.mk (Kd.S_below (Kd.S_elderB (by (with_reducible repeat (first | apply Kd.S_alloc | apply Kd.S_drewN | apply Kd.S_drew)); exact HO_6.out) gb197 (Nat.le_of_eq hg.symm)) hb); have n1_ := Aside0.mk (below_step (by repeat (first | (with_reducible first | exact HB.out | apply below_alloc | apply pw_below_drewN | apply below_drew1) | exact HB.out)) hb); have n2_ := Aside0.mk (hbox); have n3_ := Aside0.mk ((by rw [hg]; exact (below_size (by repeat (first | (with_reducible first | exact HB.out | apply below_alloc | apply pw_below_drewN | apply below_drew1) | exact HB.out))) : w.heap.size ≤ gb197)); have n4_ := Aside0.mk ((by rw [hg]; exact (below_size (by repeat (first | (with_reducible first | exact HB.out | apply below_alloc | apply pw_below_drewN | apply below_drew1) | exact HB.out))) : w.heap.size ≤ gb197)); clear HO_6; clear HB; have HO_6 := n0_; have HB := n1_; have BK197 := n2_; have GW197 := n3_; have GE197 := n4_; clear n0_ n1_ n2_ n3_ n4_; clear hb hbox hg; have hcz27_0 : w26.cell? ⟨gb197, 0, none⟩ = some (.slice none 0 0) := (blk_cell BK197.out 0).trans rfl; have hcz27_1 : w26.cell? ⟨gb197, 1, none⟩ = some (.int .i64 0) := (blk_cell BK197.out 1).trans rfl; have hfz27_0 := blk_frozen BK197.out 0; have hfz27_1 := blk_frozen BK197.out 1; obtain ⟨Ao28, co28, eo28⟩ := Kd.S_slice HO_6.out; subst eo28) | ((with_reducible refine gate_callee (f := 48) rfl ?_); refine goesL_ (some 33) rfl rfl Try.func48 (by kernel_rfl) rfl #[.slice Ao28 x6_2.length co28, .slice A196_0 ((rd_T91 l1 x26_2).f0).length c196_0] rfl (by (try simp only [List.map_toArray, List.map_cons, List.map_nil]); first | done | rfl | (simp only [List.length_drop, List.length_take]; rfl)) ?_; (with_reducible refine (impl_find.calls k2 _ _ x6_2 _ _ ((rd_T91 l1 x26_2).f0) t198 _ ?side1 ?side2 ?side3 ?side4 A15.out).mono ?_); (case side1 => refine (Kd.S_reads' (e := 91) (base := w.heap.size) (ok := fun k_ => (True ∧ k_ ≠ gb197)) (n := x6_2.length) (c := co28) ?_).2.2; exact (by (with_reducible repeat (first | apply Kd.S_alloc | apply Kd.S_drewN | apply Kd.S_drew)); exact (Kd.S_mono (Kd.S_far (p := ⟨gb197, 1, none⟩) (Kd.S_far (p := ⟨gb197, 0, none⟩) (Kd.S_mono HO_6.out (fun k_ hk => (⟨hk, hk.2⟩ : _ ∧ k_ ≠ gb197))) (fun _ hk => hk.2) (.slice A196_0 ((rd_T91 l1 x26_2).f0).length c196_0)) (fun _ hk => hk.2) (.int .i64 ((rd_T91 l1 x26_2).f1))) (fun _ h_ => h_.1)))); (case side2 => exact (Kd.S_reads' HO_6.out).2.1); (case side3 => exact Kd.C_below HR196_0.out (by repeat (first | (with_reducible first | exact HB.out | apply below_alloc | apply pw_below_drewN | apply below_drew1 | refine below_set ?_ GE197.out) | exact HB.out))); (case side4 => exact HC196_0.out); rintro e w29 ⟨rfl, hb⟩; refine ⟨_, rfl, ?_⟩; have n0_ := Aside0.mk (Kd.S_below (by (with_reducible repeat (first | apply Kd.S_alloc | apply Kd.S_drewN | apply Kd.S_drew)); exact (Kd.S_mono (Kd.S_far (p := ⟨gb197, 1, none⟩) (Kd.S_far (p := ⟨gb197, 0, none⟩) (Kd.S_mono HO_6.out (fun k_ hk => (⟨hk, hk.2⟩ : _ ∧ k_ ≠ gb197))) (fun _ hk => hk.2) (.slice A196_0 ((rd_T91 l1 x26_2).f0).length c196_0)) (fun _ hk => hk.2) (.int .i64 ((rd_T91 l1 x26_2).f1))) (fun _ h_ => h_.1))) hb); have n1_ := Aside0.mk (blk_below (g := gb197) (o := .cells #[.slice A196_0 ((rd_T91 l1 x26_2).f0).length c196_0, .int .i64 ((rd_T91 l1 x26_2).f1)] 91 (0, 0)) (by (with_reducible repeat (first | refine blk_drewN ?_ _ | refine blk_drew ?_ | refine blk_alloc ?_ _)); refine blk_put (cs := #[.slice A196_0 ((rd_T91 l1 x26_2).f0).length c196_0, .int .i64 0]) ?_ 1 _ rfl; (with_reducible repeat (first | refine blk_drewN ?_ _ | refine blk_drew ?_ | refine blk_alloc ?_ _)); refine blk_put (cs := #[.slice none 0 0, .int .i64 0]) ?_ 0 _ rfl; (with_reducible repeat (first | refine blk_drewN ?_ _ | refine blk_drew ?_ | refine blk_alloc ?_ _)); exact BK197.out) hb); have n2_ := Aside0.mk (below_step (by repeat (first | (with_reducible first | exact HB.out | apply below_alloc | apply pw_below_drewN | apply below_drew1 | refine below_set ?_ GE197.out) | exact HB.out)) hb); clear HO_6; clear BK197; clear HB; have HO_6 := n0_; have BK197 := n1_; have HB := n2_; clear n0_ n1_ n2_; (try clear hb); (try clear hb2); (try clear hk); (try clear hi)))
                        have n0_ := Aside0.mk (Kd.S_drew HO_6.out)
                        have n1_ := Aside0.mk (blk_drew BK197.out)
                        have n2_ := Aside0.mk (below_drew1 HB.out)
                        clear HO_6
                        clear BK197
                        clear HB
                        have HO_6 := n0_
                        have BK197 := n1_
                        have HB := n2_
                        clear n0_ n1_ n2_
                        have p202 : 0 ≤ (t198 : Int) := of_decide_eq_true (by first | (with_reducible assumption) | assumption)
                        have q202 : t198 < (x6_2.length : Int) := of_decide_eq_true (by first | (with_reducible assumption) | assumption)
                        obtain ⟨ad202, A202_0, c202_0, e202, hx202_0, hx202_1, hl202_0, hi202_0⟩ := at_T91 (Kd.S_reads' HO_6.out).2.2 t198 p202 q202
                        cases e202
                        obtain ⟨ce202, hce202, hMe202, hcc202⟩ := Kd.S_get HO_6.out z91 t198 p202 (by first | exact q202 | exact of_decide_eq_true (by first | (with_reducible assumption) | assumption) | (have e_ := (Kd.S_reads' HO_6.out).1; omega))
                        obtain ⟨ve202_0, rfl, ge202_0⟩ := k91_openM hMe202
                        have hv202_0 := hcc202 0 _ rfl
                        rw [Nat.add_zero] at hv202_0
                        replace hv202_0 := Option.some.inj (hv202_0.symm.trans hx202_0)
                        rw [hv202_0] at ge202_0
                        have HL202_0 := Aside0.mk (show Kd.R (Kd.int .i64) 3 _ _ _ _ ((rd_T91 x6_2 t198).f0) from ge202_0)
                        clear hv202_0 ge202_0
                        clear hcc202 hce202
                        have HR202_0 := Aside0.mk hi202_0
                        have HC202_0 := Aside0.mk hl202_0
                        clear hi202_0 hl202_0
                        replace p202 := eq_true p202
                        replace q202 := eq_true q202
                        have p25 : 0 ≤ (t198 : Int) := of_decide_eq_true (by first | (with_reducible assumption) | assumption)
                        have q25 : (t198 : Int) < ((x6_2.length : Int) : Int) := of_decide_eq_true (by first | (with_reducible assumption) | assumption)
                        obtain ⟨go25, co25, eo25, gb25, gl25, cl25, HG25⟩ := Kd.S_form HO_6.out (by omega)
                        (first | cases eo25 | (injection eo25 with ea_ en_ ec_; (first | subst ea_ | (injection ea_ with ea_; subst ea_)); subst ec_; clear en_))
                        have GB25 := Aside0.mk gb25
                        have GG25 := Aside0.mk HG25
                        clear gb25 gl25 HG25
                        (first | simp only [add_plain] at hx202_0 | skip)
                        (first | simp only [add_plain] at hx202_1 | skip)
                        obtain ⟨_, ce25, hcl25, hM25, hcc25, hfr25, _, _⟩ := Kd.S_elem HO_6.out z91 (t198 : Int) p25 q25
                        obtain ⟨ve25_0, rfl, ge25_0⟩ := k91_openM hM25
                        have hx25_0 : World.cell? _ ⟨go25, (t198 : Int).toNat * 2, none⟩ = some (ve25_0) := hcc25 0 _ rfl
                        have hx25_1 : World.cell? _ ⟨go25, (t198 : Int).toNat * 2 + 1, none⟩ = some (.int .i64 ((rd_T91 x6_2 t198).f1)) := hcc25 1 _ rfl
                        have hf25_0 : World.frozen? _ ⟨go25, (t198 : Int).toNat * 2, none⟩ = false := hfr25 0
                        have hf25_1 : World.frozen? _ ⟨go25, (t198 : Int).toNat * 2 + 1, none⟩ = false := hfr25 1
                        clear hcl25 hcc25 hfr25; (try clear hM25)
                        replace p25 := eq_true p25
                        replace q25 := eq_true q25
                        have HX31 := Aside0.mk (show Kd.S k91 91 _ w.heap.size (fun k_ => ((fun k_ => k_ ≠ gb197)) k_ ∧ ¬ (fun _ => False) k_) (.slice (some ⟨go25, 0, none⟩) x6_2.length co28) x6_2 from (by first | exact Kd.S_mono HO_6.out (fun k_ hk => ⟨hk.2, fun e_ => e_⟩) | (with_reducible repeat (first | apply Kd.S_alloc | apply Kd.S_drewN | apply Kd.S_drew)); exact Kd.S_mono HO_6.out (fun k_ hk => ⟨hk.2, fun e_ => e_⟩)))
                        obtain ⟨oki31, ce31, hcl31, hM31, hcc31, hfr31, hoki31, hH31⟩ := Kd.S_elem HX31.out z91 (t198 : Int) (of_decide_eq_true (by first | (with_reducible assumption) | assumption)) (by have h_ : (t198 : Int) < ((x6_2.length : Int) : Int) := of_decide_eq_true (by first | (with_reducible assumption) | assumption); first | exact h_ | (have e_ := (Kd.S_reads' HO_6.out).1; omega) | simpa using h_)
                        obtain ⟨ve31_0, rfl, ge31_0⟩ := k91_openM hM31
                        have HP31 := (Kd.S_seg hH31 (of_decide_eq_true (by first | (with_reducible assumption) | assumption)) (by have h_ : (t198 : Int) < ((x6_2.length : Int) : Int) := of_decide_eq_true (by first | (with_reducible assumption) | assumption); first | exact h_ | (have e_ := (Kd.S_reads' HO_6.out).1; omega) | simpa using h_) (seg := [.int .i64 (wrap64 (((rd_T91 x6_2 t198).f1) - ((rd_T91 l1 x26_2).f1)))]) (j := 1) (show 2 ≤ 2 from by decide) (x' := (⟨(rd_T91 x6_2 t198).f0, wrap64 (((rd_T91 x6_2 t198).f1) - ((rd_T91 l1 x26_2).f1))⟩ : S91)) (k91_mkM _ _ _ (⟨(rd_T91 x6_2 t198).f0, wrap64 (((rd_T91 x6_2 t198).f1) - ((rd_T91 l1 x26_2).f1))⟩ : S91) ge31_0) (fun _ hk => Or.inl hk) (fun _ hk => hk.elim)).1
                        rw [← Ny203.out] at HP31
                        have HQ31 := Aside0.mk HP31
                        clear hcl31 hcc31 hfr31 HP31; (try clear hM31)
                        refine start_ (n := 13) (S := fun w' => w'.cell? ⟨gb197, 0, none⟩ = some (.slice A196_0 ((rd_T91 l1 x26_2).f0).length c196_0) ∧ w'.cell? ⟨gb197, 1, none⟩ = some (.int .i64 ((rd_T91 l1 x26_2).f1)) ∧ w'.cell? ⟨go25, ((t198).toNat * 2), none⟩ = some (.slice A202_0 ((rd_T91 x6_2 t198).f0).length c202_0) ∧ w'.cell? ⟨go25, ((t198).toNat * 2) + 1, none⟩ = some (.int .i64 ((rd_T91 x6_2 t198).f1))) (ds := [12]) #[false, false, false, false, false, false, false, false, false, false, false, false, false] (by kernel_rfl) rfl rfl ⟨(blk_cell BK197.out 0).trans rfl, (blk_cell BK197.out 1).trans rfl, hx202_0, hx202_1⟩ (fun hHeld => ?_); refine with_tabW impl_SubtractCounts.tab10 impl_SubtractCounts.bits10 (fun HT_ HW_ => ?_)
                        generalize w29.drew = w30 at HO_6 BK197 HB GG25 HL202_0 HQ31 HR202_0 hf25_0 hf25_1 hx202_0 hx202_1 hx25_0 hx25_1 hHeld ⊢
                        refine pure_ (i := 0) (N := some 37) (v := ?_) (a' := ?_) #[true, false, false, false, false, false, false, false, false, false, false, false, false] rfl rfl (any_of HT_.out (by kernel_rfl)) (fun _ _ _ h => h) (Or.inl ⟨by rfl, ?_⟩) ?_ ?_
                        rotate_left
                        · intro w'
                          go_simp
                          with_reducible rfl
                        rotate_left
                        · simp only [Act.put, List.setIfInBounds_toArray, List.set_cons_zero, List.set_cons_succ, i64_w, i32_w]
                          rfl
                        refine pure_ (i := 1) (N := some 38) (v := ?_) (a' := ?_) #[true, true, false, false, false, false, false, false, false, false, false, false, false] rfl rfl (any_of HT_.out (by kernel_rfl)) (fun _ _ _ h => h) (Or.inl ⟨by rfl, ?_⟩) ?_ ?_
                        rotate_left
                        · intro w'
                          go_simp
                          with_reducible rfl
                        rotate_left
                        · simp only [Act.put, List.setIfInBounds_toArray, List.set_cons_zero, List.set_cons_succ, i64_w, i32_w]
                          rfl
                        refine pure_ (i := 2) (N := some 39) (v := ?_) (a' := ?_) #[true, true, true, false, false, false, false, false, false, false, false, false, false] rfl rfl (any_of HT_.out (by kernel_rfl)) (fun _ _ _ h => h) (Or.inl ⟨by rfl, ?_⟩) ?_ ?_
                        rotate_left
                        · intro w'
                          go_simp
                          with_reducible rfl
                        rotate_left
                        · simp only [Act.put, List.setIfInBounds_toArray, List.set_cons_zero, List.set_cons_succ, i64_w, i32_w]
                          rfl
                        refine pure_ (i := 3) (N := some 40) (v := ?_) (a' := ?_) #[true, true, true, true, false, false, false, false, false, false, false, false, false] rfl rfl (any_of HT_.out (by kernel_rfl)) (fun _ _ _ h => h) (Or.inl ⟨by rfl, ?_⟩) ?_ ?_
                        rotate_left
                        · intro w'
                          go_simp
                          with_reducible rfl
                        rotate_left
                        · simp only [Act.put, List.setIfInBounds_toArray, List.set_cons_zero, List.set_cons_succ, i64_w, i32_w]
                          rfl
                        refine pure_ (i := 4) (N := some 41) (v := ?_) (a' := ?_) #[true, true, true, true, true, false, false, false, false, false, false, false, false] rfl rfl (any_of HT_.out (by kernel_rfl)) (fun _ _ _ h => h) (Or.inl ⟨by rfl, ?_⟩) ?_ ?_
                        rotate_left
                        · intro w'
                          go_simp
                          with_reducible rfl
                        rotate_left
                        · simp only [Act.put, List.setIfInBounds_toArray, List.set_cons_zero, List.set_cons_succ, i64_w, i32_w]
                          rfl
                        refine pure_ (i := 5) (N := some 42) (v := ?_) (a' := ?_) #[true, true, true, true, true, true, false, false, false, false, false, false, false] rfl rfl (any_of HT_.out (by kernel_rfl)) (fun _ _ _ h => h) (Or.inl ⟨by rfl, ?_⟩) ?_ ?_
                        rotate_left
                        · intro w'
                          go_simp
                          with_reducible rfl
                        rotate_left
                        · simp only [Act.put, List.setIfInBounds_toArray, List.set_cons_zero, List.set_cons_succ, i64_w, i32_w]
                          rfl
                        refine pure_ (i := 7) (N := some 44) (v := ?_) (a' := ?_) #[true, true, true, true, true, true, false, true, false, false, false, false, false] rfl rfl (any_of HT_.out (by kernel_rfl)) (fun _ _ _ h => h) (Or.inl ⟨by rfl, ?_⟩) ?_ ?_
                        rotate_left
                        · intro w'
                          go_simp
                          with_reducible rfl
                        rotate_left
                        · simp only [Act.put, List.setIfInBounds_toArray, List.set_cons_zero, List.set_cons_succ, i64_w, i32_w]
                          rfl
                        refine take_ (i := 6) (N := some 43) (v := ?_) (a' := ?_) #[true, true, true, true, true, true, true, true, false, false, false, false, false] rfl rfl (take_ofW HT_.out HW_.out (by kernel_rfl)) (fun _ _ _ h => h) (Or.inl ⟨by rfl, ?_⟩) hHeld ?_ ?_
                        rotate_left
                        · rintro w' ⟨s0, s1, s2, s3⟩
                          go_simp
                          with_reducible rfl
                        rotate_left
                        · simp only [Act.put, List.setIfInBounds_toArray, List.set_cons_zero, List.set_cons_succ, i64_w, i32_w]
                          rfl
                        refine take_ (i := 8) (N := some 45) (v := ?_) (a' := ?_) #[true, true, true, true, true, true, true, true, true, false, false, false, false] rfl rfl (take_ofW HT_.out HW_.out (by kernel_rfl)) (fun _ _ _ h => h) (Or.inl ⟨by rfl, ?_⟩) hHeld ?_ ?_
                        rotate_left
                        · rintro w' ⟨s0, s1, s2, s3⟩
                          go_simp
                          with_reducible rfl
                        rotate_left
                        · simp only [Act.put, List.setIfInBounds_toArray, List.set_cons_zero, List.set_cons_succ, i64_w, i32_w]
                          rfl
                        refine pure_ (i := 9) (N := some 46) (v := ?_) (a' := ?_) #[true, true, true, true, true, true, true, true, true, true, false, false, false] rfl rfl (any_of HT_.out (by kernel_rfl)) (fun _ _ _ h => h) (Or.inl ⟨by rfl, ?_⟩) ?_ ?_
                        rotate_left
                        · intro w'
                          go_simp
                          with_reducible rfl
                        rotate_left
                        · simp only [Act.put, List.setIfInBounds_toArray, List.set_cons_zero, List.set_cons_succ, i64_w, i32_w]
                          rfl
                        refine pure_ (i := 10) (N := some 47) (v := ?_) (a' := ?_) #[true, true, true, true, true, true, true, true, true, true, true, false, false] rfl rfl (any_of HT_.out (by kernel_rfl)) (fun _ _ _ h => h) (Or.inl ⟨by rfl, ?_⟩) ?_ ?_
                        rotate_left
                        · intro w'
                          go_simp
                          with_reducible rfl
                        rotate_left
                        · simp only [Act.put, List.setIfInBounds_toArray, List.set_cons_zero, List.set_cons_succ, i64_w, i32_w]
                          rfl
                        refine pure_ (i := 11) (N := some 48) (v := ?_) (a' := ?_) #[true, true, true, true, true, true, true, true, true, true, true, true, false] rfl rfl (any_of HT_.out (by kernel_rfl)) (fun _ _ _ h => h) (Or.inl ⟨by rfl, ?_⟩) ?_ ?_
                        rotate_left
                        · intro w'
                          go_simp
                          with_reducible rfl
                        rotate_left
                        · simp only [Act.put, List.setIfInBounds_toArray, List.set_cons_zero, List.set_cons_succ, i64_w, i32_w]
                          rfl
                        refine last_ (i := 12) (N := none) #[true, true, true, true, true, true, true, true, true, true, true, true, true] rfl rfl (one_of HT_.out (by kernel_rfl)) (by decide) (fun K hK => ?_)
                        refine skip_ (w1 := ?_) (by rfl) rfl ?_ ?_
                        rotate_left
                        · go_simp
                          rfl
                        refine hK.out _ _ ?_
                        clear hK K
                        refine done_ (done_of HT_.out (by kernel_rfl)) ?_
                        try go_wp2
                        go_roundg k2
                        case measure => have := HJ2.out; have := HK2.out; omega
                        case rel => exact ⟨(y203), (wrap64 (x26_2 + 1)), (by first | rfl | (simp; done) | (simp [*]; done)), H', ⟨by have := HJ2.out; have := HK2.out; omega⟩, ⟨by (with_reducible repeat (first | apply Kd.S_alloc | apply Kd.S_drewN | apply Kd.S_drew)); exact Kd.S_mono HQ31.out (fun _ hk => trivial)⟩, ⟨by repeat (first | (with_reducible first | exact HB.out | apply below_alloc | apply pw_below_drewN | apply below_drew1 | refine below_set ?_ GB25.out | refine below_set ?_ GE197.out) | exact HB.out)⟩⟩
                      · rw [if_neg c24] at H
                        exact absurd H (by simp)
                    · rw [if_neg c23] at H
                      exact absurd H (by simp)
                · rw [if_neg c14] at H
                  exact absurd H (by simp)
              · rw [if_neg c13] at H
                exact absurd H (by simp)
            · rw [if_neg c12] at H
              have c12b0 : decide (x26_2 < (l1.length : Int)) = false := decide_eq_false c12
              clear c12
              obtain ⟨y204, hy204⟩ : ∃ y_ : List (S91), y_ = (([] : List (S91))) := ⟨_, rfl⟩
              replace H : (impl_SubtractCounts.l1 k2 y204 x6_2 (x6_2.length : Int) 0) = some (r1, r2) := by first | (rw [hy204]; with_reducible exact H) | (have H2_ := (Option.bind_some _ _).symm.trans H; rw [hy204]; with_reducible exact H2_) | (have H2_ := (Option.bind_some _ _).symm.trans H; with_reducible exact H2_) | with_reducible exact H | (rw [hy204]; exact H) | exact H
              have Ny204 := Aside0.mk hy204
              clear hy204
              have H' := Aside0.mk H
              clear H
              go_wp2_with (first | ((with_reducible refine gate_dst (N := 50) rfl ?_); refine Kd.S_lit k91 _ 91 ?hg (N := 50) ?hd (xs := ([] : List (S91))) (inner := []) (ok := fun _ => True) (okp := fun _ => True) ?hr ?hp (fun _ hk => hk) trivial (Below.refl _ _) (Nat.le_refl _) (by simp) ?_; (case hd => rfl); (case hg => rfl); (case hr => first | (go_simp; done) | (go_simp; rfl)); (case hp => exact (Reps.none _ _)); intro v205 w32 ho33 hb hg_ hnew_; clear hg_ hnew_; (first | rw [← Ny204.out] at ho33 | (simp only [Int.reduceToNat] at ho33; rw [← Ny204.out] at ho33)); obtain ⟨nn, fo, hP_⟩ := Take.start (by (with_reducible repeat (first | apply Kd.S_alloc | apply Kd.S_drewN | apply Kd.S_drew)); exact HO_6.out) (below_size (by repeat (first | (with_reducible first | exact HB.out | apply below_alloc | apply pw_below_drewN | apply below_drew1) | exact HB.out))) hb ho33; have n0_ := Aside0.mk hP_; have n1_ := Aside0.mk (below_step (by repeat (first | (with_reducible first | exact HB.out | apply below_alloc | apply pw_below_drewN | apply below_drew1) | exact HB.out)) hb); obtain ⟨Ao34, co34, eo34⟩ := Kd.S_slice HO_6.out; subst eo34; clear HO_6; clear HB; have HO := n0_; have HB := n1_; clear n0_ n1_ hP_; clear hb ho33))
              go_loopg [10, 53] k2 (fun kq v10 v53 w' => ∃ (x10_3 : List (S91)) (x53_3 : Int), v53 = .int .i64 x53_3 ∧ Aside0 (impl_SubtractCounts.l1 kq x10_3 x6_2 (x6_2.length : Int) x53_3 = some (r1, r2)) ∧ Aside0 (kq ≤ k2) ∧ Aside0 (Take.Pk k91 91 w' w.heap.size nn fo Take.T1 x53_3.toNat (.slice Ao34 x6_2.length co34) x6_2 v10 x10_3) ∧ Aside0 (Below w.heap.size w w'))
              case atStart => exact ⟨(y204), (0), (by first | rfl | (simp; done) | (simp [*]; done)), H', ⟨Nat.le_refl _⟩, ⟨Take.Pk.to (by (with_reducible repeat (first | apply Take.Pk.alloc | apply Take.Pk.drewN | apply Take.Pk.drew)); exact HO.out) rfl⟩, ⟨(by repeat (first | (with_reducible first | exact HB.out | apply below_alloc | apply pw_below_drewN | apply below_drew1) | exact HB.out))⟩⟩
              case round =>
                clear H'
                try clear c1
                try clear p1
                try clear q1
                try clear hx1
                try clear c2
                try clear p2
                try clear q2
                try clear hx2
                try clear hf2
                try clear c3
                try clear c5
                try clear p6
                try clear c7
                try clear c8
                try clear c9
                try clear c12
                try clear c12b0
                try clear c13
                try clear c13b0
                try clear c14
                try clear c14b0
                try clear c16
                try clear c16b0
                try clear c19
                try clear p19
                try clear q19
                try clear hx19
                try clear c20
                try clear p20
                try clear q20
                try clear hx20
                try clear c23
                try clear c23b0
                try clear c24
                try clear c24b0
                try clear c25
                try clear p25
                try clear q25
                try clear hx25
                try clear hf25
                try clear c31
                try clear hcz18_0
                try clear hcz18_1
                try clear hcz27_0
                try clear hcz27_1
                try clear hfz18_0
                try clear hfz18_1
                try clear hfz27_0
                try clear hfz27_1
                try clear hx196_0
                try clear hx196_1
                try clear hx202_0
                try clear hx202_1
                try clear hx25_0
                try clear hx25_1
                try clear p196
                try clear p202
                try clear q196
                try clear q202
                obtain ⟨x10_3, x53_3, rfl, HA, HK3, HO, HB⟩ := hrel
                cases gk with
                | zero => exact absurd HA.out (by simp [impl_SubtractCounts.l1])
                | succ k3 =>
                  have H := HA.out
                  clear HA
                  simp only [impl_SubtractCounts.l1] at H
                  by_cases c35 : x53_3 < (x6_2.length : Int)
                  · rw [if_pos c35] at H
                    have c35b0 : decide (x53_3 < (x6_2.length : Int)) = true := decide_eq_true c35
                    by_cases c36 : 0 ≤ x53_3
                    · rw [if_pos c36] at H
                      have c36b0 : decide (0 ≤ x53_3) = true := decide_eq_true c36
                      have HS : Aside0 ((wrap64 (x53_3 + 1)).toNat = x53_3.toNat + 1) := ⟨Take.step_nat c35 c36 (Kd.S_reads' HO.out.whole).2.2.2.1⟩
                      clear c35
                      clear c36
                      by_cases c37 : x53_3 < (x6_2.length : Int)
                      · rw [if_pos c37] at H
                        have c37b0 : decide (x53_3 < (x6_2.length : Int)) = true := decide_eq_true c37
                        clear c37
                        by_cases c38 : ((rd_T91 x6_2 x53_3).f1) < 0
                        · rw [if_pos c38] at H
                          have c38b0 : decide (((rd_T91 x6_2 x53_3).f1) < 0) = true := decide_eq_true c38
                          clear c38
                          obtain ⟨y209, hy209⟩ : ∃ y_ : List (S91), y_ = (([] : List (S91))) := ⟨_, rfl⟩
                          replace H : (some (y209, false)) = some (r1, r2) := by first | (rw [hy209]; with_reducible exact H) | (have H2_ := (Option.bind_some _ _).symm.trans H; rw [hy209]; with_reducible exact H2_) | (have H2_ := (Option.bind_some _ _).symm.trans H; with_reducible exact H2_) | with_reducible exact H | (rw [hy209]; exact H) | exact H
                          have Ny209 := Aside0.mk hy209
                          clear hy209
                          simp only [Option.some.injEq, Prod.mk.injEq] at H
                          obtain ⟨rfl, rfl⟩ := H
                          have p207 : 0 ≤ (x53_3 : Int) := of_decide_eq_true (by first | (with_reducible assumption) | assumption)
                          have q207 : x53_3 < (x6_2.length : Int) := of_decide_eq_true (by first | (with_reducible assumption) | assumption)
                          obtain ⟨ad207, A207_0, c207_0, e207, hx207_0, hx207_1, hl207_0, hi207_0⟩ := at_T91 (Kd.S_reads' HO.out.whole).2.2 x53_3 p207 q207
                          cases e207
                          obtain ⟨ce207, hce207, hMe207, hcc207⟩ := HO.out.elem z91 x53_3 p207 q207
                          obtain ⟨ve207_0, rfl, ge207_0⟩ := k91_openM hMe207
                          have hv207_0 := hcc207 0 _ rfl
                          rw [Nat.add_zero] at hv207_0
                          replace hv207_0 := Option.some.inj (hv207_0.symm.trans hx207_0)
                          rw [hv207_0] at ge207_0
                          have HL207_0 := Aside0.mk (show Kd.R (Kd.int .i64) 3 _ w.heap.size (fun k_ => k_ < nn ∧ fo k_ = x53_3.toNat) _ ((rd_T91 x6_2 x53_3).f0) from ge207_0)
                          clear hv207_0 ge207_0
                          clear hcc207 hce207 hMe207
                          have HR207_0 := Aside0.mk hi207_0
                          have HC207_0 := Aside0.mk hl207_0
                          clear hi207_0 hl207_0
                          replace p207 := eq_true p207
                          replace q207 := eq_true q207
                          go_wp2_with (first | ((with_reducible refine gate_dst (N := 12) rfl ?_); refine box_event ?hg (N := 12) ?hd (cs := #[.slice none 0 0, .int .i64 0]) (t := 91) ?hr ?_; (case hd => rfl); (case hg => rfl); (case hr => first | (go_simp; done) | (go_simp; rfl)); intro gb208 hg w39 hbox hb; have n0_ := Aside0.mk (Take.Pk.box (by (with_reducible repeat (first | apply Take.Pk.alloc | apply Take.Pk.drewN | apply Take.Pk.drew)); exact HO.out) hg hb); have n2_ := Aside0.mk (Kd.R_below (by (with_reducible repeat (first | apply Kd.R_alloc | apply Kd.R_drewN | apply Kd.R_drew)); exact HL207_0.out) hb); have n3_ := Aside0.mk (Kd.C_below (by repeat (first | (with_reducible exact HR207_0.out) | (with_reducible refine Kd.C_alloc ?_ _) | (with_reducible refine Kd.C_drewN ?_ _) | (with_reducible refine Kd.C_drew ?_) | exact HR207_0.out)) hb); have n4_ := Aside0.mk (below_step (by repeat (first | (with_reducible first | exact HB.out | apply below_alloc | apply pw_below_drewN | apply below_drew1) | exact HB.out)) hb); have n5_ := Aside0.mk (hbox); have n6_ := Aside0.mk ((by rw [hg]; exact (below_size (by repeat (first | (with_reducible first | exact HB.out | apply below_alloc | apply pw_below_drewN | apply below_drew1) | exact HB.out)))) : w.heap.size ≤ gb208); have n7_ := Aside0.mk ((by rw [hg]; exact (Take.Pk.lt (by (with_reducible repeat (first | apply Take.Pk.alloc | apply Take.Pk.drewN | apply Take.Pk.drew)); exact HO.out))) : nn ≤ gb208); clear HO; clear HL207_0; clear HR207_0; clear HB; have HO := n0_; have HL207_0 := n2_; have HR207_0 := n3_; have HB := n4_; have BK208 := n5_; have GE208 := n6_; have GN208 := n7_; clear n0_ n2_ n3_ n4_ n5_ n6_ n7_; clear hb hbox hg; have hcz40_0 : w39.cell? ⟨gb208, 0, none⟩ = some (.slice none 0 0) := (blk_cell BK208.out 0).trans rfl; have hcz40_1 : w39.cell? ⟨gb208, 1, none⟩ = some (.int .i64 0) := (blk_cell BK208.out 1).trans rfl; have hfz40_0 := blk_frozen BK208.out 0; have hfz40_1 := blk_frozen BK208.out 1) | ((with_reducible refine gate_store (t := 91) (p := 12) rfl ?_); refine store_event (t := 91) (p := 12) (v := ?vo_w40) (w1 := ((w39.setCell ⟨gb208, 0, none⟩ (.slice A207_0 ((rd_T91 x6_2 x53_3).f0).length c207_0)).setCell ⟨gb208, 1, none⟩ (.int .i64 ((rd_T91 x6_2 x53_3).f1)))) ?hg ?ho ?hn ?hr ?_; (case ho => rfl); (case hg => rfl); (case hn => rfl); (case hr => first | (go_simp; done) | (go_simp; rfl)); intro w40 hw; have n0_ : Aside0 (Take.Pk k91 91 w40 w.heap.size nn fo (fun k_ => k_ ≠ gb208) x53_3.toNat (.slice (some ad207) x6_2.length co34) x6_2 u10 x10_3) := ⟨(by rw [hw]; exact Take.Pk.set (Take.Pk.set (by (with_reducible repeat (first | apply Take.Pk.alloc | apply Take.Pk.drewN | apply Take.Pk.drew)); exact HO.out) GN208.out 0 _) GN208.out 1 _)⟩; have n2_ : Aside0 (Kd.R (Kd.int .i64) 3 w40 w.heap.size (fun k_ => k_ < nn ∧ fo k_ = x53_3.toNat) (.slice A207_0 ((rd_T91 x6_2 x53_3).f0).length c207_0) ((rd_T91 x6_2 x53_3).f0)) := ⟨(by rw [hw]; exact Kd.R_far (p := ⟨gb208, 1, none⟩) (Kd.R_far (p := ⟨gb208, 0, none⟩) HL207_0.out (fun k_ hk => by have := GN208.out; show k_ ≠ gb208; omega) _) (fun k_ hk => by have := GN208.out; show k_ ≠ gb208; omega) _)⟩; have n3_ : Aside0 (w40.heap[gb208]? = some (.cells #[.slice A207_0 ((rd_T91 x6_2 x53_3).f0).length c207_0, .int .i64 ((rd_T91 x6_2 x53_3).f1)] 91 (0, 0))) := ⟨(by rw [hw]; exact (by (with_reducible repeat (first | refine blk_drewN ?_ _ | refine blk_drew ?_ | refine blk_alloc ?_ _)); refine blk_put (cs := #[.slice A207_0 ((rd_T91 x6_2 x53_3).f0).length c207_0, .int .i64 0]) ?_ 1 _ rfl; (with_reducible repeat (first | refine blk_drewN ?_ _ | refine blk_drew ?_ | refine blk_alloc ?_ _)); refine blk_put (cs := #[.slice none 0 0, .int .i64 0]) ?_ 0 _ rfl; (with_reducible repeat (first | refine blk_drewN ?_ _ | refine blk_drew ?_ | refine blk_alloc ?_ _)); exact BK208.out))⟩; have n4_ : Aside0 (Below w.heap.size w w40) := ⟨(by rw [hw]; exact (by repeat (first | (with_reducible first | exact HB.out | apply below_alloc | apply pw_below_drewN | apply below_drew1 | refine below_set ?_ GE208.out) | exact HB.out)))⟩; clear hw; clear HO; clear HL207_0; clear BK208; clear HB; have HO := n0_; have HL207_0 := n2_; have BK208 := n3_; have HB := n4_; clear n0_ n2_ n3_ n4_; have hcz41_0 : w40.cell? ⟨gb208, 0, none⟩ = some (.slice A207_0 ((rd_T91 x6_2 x53_3).f0).length c207_0) := (blk_cell BK208.out 0).trans rfl; have hcz41_1 : w40.cell? ⟨gb208, 1, none⟩ = some (.int .i64 ((rd_T91 x6_2 x53_3).f1)) := (blk_cell BK208.out 1).trans rfl; have hfz41_0 := blk_frozen BK208.out 0; have hfz41_1 := blk_frozen BK208.out 1) | ((with_reducible refine gate_dst (N := 60) rfl ?_); refine Kd.S_lit k91 _ 91 ?hg (N := 60) ?hd (xs := ([] : List (S91))) (inner := []) (ok := fun _ => True) (okp := fun _ => True) ?hr ?hp (fun _ hk => hk) trivial (Below.refl _ _) (Nat.le_refl _) (by simp) ?_; (case hd => rfl); (case hg => rfl); (case hr => first | (go_simp; done) | (go_simp; rfl)); (case hp => exact (Reps.none _ _)); intro v210 w41 ho42 hb hg_ hnew_; clear hg_ hnew_; (first | rw [← Ny209.out] at ho42 | (simp only [Int.reduceToNat] at ho42; rw [← Ny209.out] at ho42)); have n0_ := Aside0.mk (Kd.S_lower ho42 (below_size (by repeat (first | (with_reducible first | exact HB.out | apply below_alloc | apply pw_below_drewN | apply below_drew1 | refine below_set ?_ GE208.out) | exact HB.out)))); have n1_ := Aside0.mk (below_step (by repeat (first | (with_reducible first | exact HB.out | apply below_alloc | apply pw_below_drewN | apply below_drew1 | refine below_set ?_ GE208.out) | exact HB.out)) hb); clear HB; have HO211 := n0_; have HB := n1_; clear n0_ n1_; clear hb ho42))
                          go_ret2
                          exact ⟨_, by first | rfl | (simp [errW_none, errW_some] <;> rfl) | (simp [*, errW_none, errW_some] <;> rfl), by (with_reducible repeat (first | apply Kd.S_alloc | apply Kd.S_drewN | apply Kd.S_drew)); exact Kd.S_mono HO211.out (fun _ hk => trivial), (by repeat (first | (with_reducible first | exact HB.out | apply below_alloc | apply pw_below_drewN | apply below_drew1 | refine below_set ?_ GE208.out) | exact HB.out))⟩
                        · rw [if_neg c38] at H
                          have c38b0 : decide (((rd_T91 x6_2 x53_3).f1) < 0) = false := decide_eq_false c38
                          clear c38
                          by_cases c43 : ((rd_T91 x6_2 x53_3).f1) > 0
                          · rw [if_pos c43] at H
                            have c43b0 : decide (0 < ((rd_T91 x6_2 x53_3).f1)) = true := decide_eq_true c43
                            clear c43
                            by_cases c44 : x10_3.length < 4398046511104
                            · rw [if_pos c44] at H
                              have LMc44 := Aside0.mk c44
                              clear c44
                              obtain ⟨y212, hy212⟩ : ∃ y_ : List (S91), y_ = (x10_3 ++ [(⟨(rd_T91 x6_2 x53_3).f0, (rd_T91 x6_2 x53_3).f1⟩ : S91)]) := ⟨_, rfl⟩
                              replace H : (impl_SubtractCounts.l1 k3 y212 x6_2 (x6_2.length : Int) (wrap64 (x53_3 + 1))) = some (r1, r2) := by first | (rw [hy212]; with_reducible exact H) | (have H2_ := (Option.bind_some _ _).symm.trans H; rw [hy212]; with_reducible exact H2_) | (have H2_ := (Option.bind_some _ _).symm.trans H; with_reducible exact H2_) | with_reducible exact H | (rw [hy212]; exact H) | exact H
                              have Ny212 := Aside0.mk hy212
                              clear hy212
                              have H' := Aside0.mk H
                              clear H
                              have p207 : 0 ≤ (x53_3 : Int) := of_decide_eq_true (by first | (with_reducible assumption) | assumption)
                              have q207 : x53_3 < (x6_2.length : Int) := of_decide_eq_true (by first | (with_reducible assumption) | assumption)
                              obtain ⟨ad207, A207_0, c207_0, e207, hx207_0, hx207_1, hl207_0, hi207_0⟩ := at_T91 (Kd.S_reads' HO.out.whole).2.2 x53_3 p207 q207
                              cases e207
                              obtain ⟨ce207, hce207, hMe207, hcc207⟩ := HO.out.elem z91 x53_3 p207 q207
                              obtain ⟨ve207_0, rfl, ge207_0⟩ := k91_openM hMe207
                              have hv207_0 := hcc207 0 _ rfl
                              rw [Nat.add_zero] at hv207_0
                              replace hv207_0 := Option.some.inj (hv207_0.symm.trans hx207_0)
                              rw [hv207_0] at ge207_0
                              have HL207_0 := Aside0.mk (show Kd.R (Kd.int .i64) 3 _ w.heap.size (fun k_ => k_ < nn ∧ fo k_ = x53_3.toNat) _ ((rd_T91 x6_2 x53_3).f0) from ge207_0)
                              clear hv207_0 ge207_0
                              clear hcc207 hce207 hMe207
                              have HR207_0 := Aside0.mk hi207_0
                              have HC207_0 := Aside0.mk hl207_0
                              clear hi207_0 hl207_0
                              replace p207 := eq_true p207
                              replace q207 := eq_true q207
                              go_wp2_with (first | ((with_reducible refine gate_dst (N := 12) rfl ?_); refine box_event ?hg (N := 12) ?hd (cs := #[.slice none 0 0, .int .i64 0]) (t := 91) ?hr ?_; (case hd => rfl); (case hg => rfl); (case hr => first | (go_simp; done) | (go_simp; rfl)); intro gb208 hg w45 hbox hb; have n0_ := Aside0.mk (Take.Pk.box (by (with_reducible repeat (first | apply Take.Pk.alloc | apply Take.Pk.drewN | apply Take.Pk.drew)); exact HO.out) hg hb); have n2_ := Aside0.mk (Kd.R_below (by (with_reducible repeat (first | apply Kd.R_alloc | apply Kd.R_drewN | apply Kd.R_drew)); exact HL207_0.out) hb); have n3_ := Aside0.mk (Kd.C_below (by repeat (first | (with_reducible exact HR207_0.out) | (with_reducible refine Kd.C_alloc ?_ _) | (with_reducible refine Kd.C_drewN ?_ _) | (with_reducible refine Kd.C_drew ?_) | exact HR207_0.out)) hb); have n4_ := Aside0.mk (below_step (by repeat (first | (with_reducible first | exact HB.out | apply below_alloc | apply pw_below_drewN | apply below_drew1) | exact HB.out)) hb); have n5_ := Aside0.mk (hbox); have n6_ := Aside0.mk ((by rw [hg]; exact (below_size (by repeat (first | (with_reducible first | exact HB.out | apply below_alloc | apply pw_below_drewN | apply below_drew1) | exact HB.out)))) : w.heap.size ≤ gb208); have n7_ := Aside0.mk ((by rw [hg]; exact (Take.Pk.lt (by (with_reducible repeat (first | apply Take.Pk.alloc | apply Take.Pk.drewN | apply Take.Pk.drew)); exact HO.out))) : nn ≤ gb208); clear HO; clear HL207_0; clear HR207_0; clear HB; have HO := n0_; have HL207_0 := n2_; have HR207_0 := n3_; have HB := n4_; have BK208 := n5_; have GE208 := n6_; have GN208 := n7_; clear n0_ n2_ n3_ n4_ n5_ n6_ n7_; clear hb hbox hg; have hcz46_0 : w45.cell? ⟨gb208, 0, none⟩ = some (.slice none 0 0) := (blk_cell BK208.out 0).trans rfl; have hcz46_1 : w45.cell? ⟨gb208, 1, none⟩ = some (.int .i64 0) := (blk_cell BK208.out 1).trans rfl; have hfz46_0 := blk_frozen BK208.out 0; have hfz46_1 := blk_frozen BK208.out 1) | ((with_reducible refine gate_store (t := 91) (p := 12) rfl ?_); refine store_event (t := 91) (p := 12) (v := ?vo_w47) (w1 := ((w45.setCell ⟨gb208, 0, none⟩ (.slice A207_0 ((rd_T91 x6_2 x53_3).f0).length c207_0)).setCell ⟨gb208, 1, none⟩ (.int .i64 ((rd_T91 x6_2 x53_3).f1)))) ?hg ?ho ?hn ?hr ?_; (case ho => rfl); (case hg => rfl); (case hn => rfl); (case hr => first | (go_simp; done) | (go_simp; rfl)); intro w47 hw; have n0_ : Aside0 (Take.Pk k91 91 w47 w.heap.size nn fo (fun k_ => k_ ≠ gb208) x53_3.toNat (.slice (some ad207) x6_2.length co34) x6_2 u10 x10_3) := ⟨(by rw [hw]; exact Take.Pk.set (Take.Pk.set (by (with_reducible repeat (first | apply Take.Pk.alloc | apply Take.Pk.drewN | apply Take.Pk.drew)); exact HO.out) GN208.out 0 _) GN208.out 1 _)⟩; have n2_ : Aside0 (Kd.R (Kd.int .i64) 3 w47 w.heap.size (fun k_ => k_ < nn ∧ fo k_ = x53_3.toNat) (.slice A207_0 ((rd_T91 x6_2 x53_3).f0).length c207_0) ((rd_T91 x6_2 x53_3).f0)) := ⟨(by rw [hw]; exact Kd.R_far (p := ⟨gb208, 1, none⟩) (Kd.R_far (p := ⟨gb208, 0, none⟩) HL207_0.out (fun k_ hk => by have := GN208.out; show k_ ≠ gb208; omega) _) (fun k_ hk => by have := GN208.out; show k_ ≠ gb208; omega) _)⟩; have n3_ : Aside0 (w47.heap[gb208]? = some (.cells #[.slice A207_0 ((rd_T91 x6_2 x53_3).f0).length c207_0, .int .i64 ((rd_T91 x6_2 x53_3).f1)] 91 (0, 0))) := ⟨(by rw [hw]; exact (by (with_reducible repeat (first | refine blk_drewN ?_ _ | refine blk_drew ?_ | refine blk_alloc ?_ _)); refine blk_put (cs := #[.slice A207_0 ((rd_T91 x6_2 x53_3).f0).length c207_0, .int .i64 0]) ?_ 1 _ rfl; (with_reducible repeat (first | refine blk_drewN ?_ _ | refine blk_drew ?_ | refine blk_alloc ?_ _)); refine blk_put (cs := #[.slice none 0 0, .int .i64 0]) ?_ 0 _ rfl; (with_reducible repeat (first | refine blk_drewN ?_ _ | refine blk_drew ?_ | refine blk_alloc ?_ _)); exact BK208.out))⟩; have n4_ : Aside0 (Below w.heap.size w w47) := ⟨(by rw [hw]; exact (by repeat (first | (with_reducible first | exact HB.out | apply below_alloc | apply pw_below_drewN | apply below_drew1 | refine below_set ?_ GE208.out) | exact HB.out)))⟩; clear hw; clear HO; clear HL207_0; clear BK208; clear HB; have HO := n0_; have HL207_0 := n2_; have BK208 := n3_; have HB := n4_; clear n0_ n2_ n3_ n4_; have hcz48_0 : w47.cell? ⟨gb208, 0, none⟩ = some (.slice A207_0 ((rd_T91 x6_2 x53_3).f0).length c207_0) := (blk_cell BK208.out 0).trans rfl; have hcz48_1 : w47.cell? ⟨gb208, 1, none⟩ = some (.int .i64 ((rd_T91 x6_2 x53_3).f1)) := (blk_cell BK208.out 1).trans rfl; have hfz48_0 := blk_frozen BK208.out 0; have hfz48_1 := blk_frozen BK208.out 1) | ((with_reducible refine gate_builtin (b := .append) (xs := #[.tmp 64, .tmp 66]) rfl ?_); at_builtin; refine Kd.S_append k91 (w0 := w) w.heap.size rfl (.tmp 64) (.tmp 66) 24 91 (.agg #[(.slice none 0 0), (.int .i64 0)]) 32 rfl Try.underlying24 info91 rfl (by decide) (by omega) u10 x10_3 (⟨(rd_T91 x6_2 x53_3).f0, (rd_T91 x6_2 x53_3).f1⟩ : S91) [.slice A207_0 ((rd_T91 x6_2 x53_3).f0).length c207_0, .int .i64 ((rd_T91 x6_2 x53_3).f1)] (Take.own nn fo (x53_3.toNat + 1) (fun k_ => k_ ≠ gb208)) (fun k_ => k_ < nn ∧ fo k_ = x53_3.toNat) rfl rfl ?aP ?aK ?aF ?aO ?aB ?aS ?aL ?_; (case aP => exact k91_mkM _ _ _ (⟨(rd_T91 x6_2 x53_3).f0, (rd_T91 x6_2 x53_3).f1⟩ : S91) (by (with_reducible repeat (first | apply Kd.R_alloc | apply Kd.R_drewN | apply Kd.R_drew)); exact HL207_0.out)); (case aK => exact Take.Pk.okp HO.out GN208.out); (case aF => exact Take.Pk.fresh (by (with_reducible repeat (first | apply Take.Pk.alloc | apply Take.Pk.drewN | apply Take.Pk.drew)); exact HO.out) (blk_lt (by (with_reducible repeat (first | refine blk_drewN ?_ _ | refine blk_drew ?_ | refine blk_alloc ?_ _)); exact BK208.out))); (case aO => exact Take.Pk.ahead (by (with_reducible repeat (first | apply Take.Pk.alloc | apply Take.Pk.drewN | apply Take.Pk.drew)); exact HO.out)); (case aB => exact (by repeat (first | (with_reducible first | exact HB.out | apply below_alloc | apply pw_below_drewN | apply below_drew1 | refine below_set ?_ GE208.out) | exact HB.out))); (case aS => exact (below_size (by repeat (first | (with_reducible first | exact HB.out | apply below_alloc | apply pw_below_drewN | apply below_drew1 | refine below_set ?_ GE208.out) | exact HB.out)))); (case aL => have := LMc44.out; omega); intro v213 w49 ho hb hg hat; rw [← Ny212.out] at ho; have n0_ := Aside0.mk (Take.Pk.more' (by (with_reducible repeat (first | apply Take.Pk.alloc | apply Take.Pk.drewN | apply Take.Pk.drew)); exact HO.out) Ny212.out ho hg hat); have n2_ := Aside0.mk (blk_grown (g := gb208) (o := .cells #[.slice A207_0 ((rd_T91 x6_2 x53_3).f0).length c207_0, .int .i64 ((rd_T91 x6_2 x53_3).f1)] 91 (0, 0)) (by (with_reducible repeat (first | refine blk_drewN ?_ _ | refine blk_drew ?_ | refine blk_alloc ?_ _)); exact BK208.out) hg (Kd.S_away HO.out.out (fun _ hk => hk.2))); have n3_ := Aside0.mk (hb); clear HL207_0; clear BK208; clear HB; clear HO; have BK208 := n2_; have HB := n3_; have HO := n0_; clear n0_ n2_ n3_; clear ho hb hg hat))
                              go_roundg k3
                              case measure => have := HJ2.out; have := HK2.out; have := HK3.out; omega
                              case rel => exact ⟨(y212), (wrap64 (x53_3 + 1)), (by first | rfl | (simp; done) | (simp [*]; done)), H', ⟨by have := HJ2.out; have := HK2.out; have := HK3.out; omega⟩, ⟨Take.Pk.to (Take.Pk.drop (by (with_reducible repeat (first | apply Take.Pk.alloc | apply Take.Pk.drewN | apply Take.Pk.drew)); exact HO.out)) HS.out⟩, ⟨(by repeat (first | (with_reducible first | exact HB.out | apply below_alloc | apply pw_below_drewN | apply below_drew1 | refine below_set ?_ GE208.out) | exact HB.out))⟩⟩
                            · rw [if_neg c44] at H
                              exact absurd H (by simp)
                          · rw [if_neg c43] at H
                            have c43b0 : decide (0 < ((rd_T91 x6_2 x53_3).f1)) = false := decide_eq_false c43
                            clear c43
                            have H' := Aside0.mk H
                            clear H
                            have p207 : 0 ≤ (x53_3 : Int) := of_decide_eq_true (by first | (with_reducible assumption) | assumption)
                            have q207 : x53_3 < (x6_2.length : Int) := of_decide_eq_true (by first | (with_reducible assumption) | assumption)
                            obtain ⟨ad207, A207_0, c207_0, e207, hx207_0, hx207_1, hl207_0, hi207_0⟩ := at_T91 (Kd.S_reads' HO.out.whole).2.2 x53_3 p207 q207
                            cases e207
                            obtain ⟨ce207, hce207, hMe207, hcc207⟩ := HO.out.elem z91 x53_3 p207 q207
                            obtain ⟨ve207_0, rfl, ge207_0⟩ := k91_openM hMe207
                            have hv207_0 := hcc207 0 _ rfl
                            rw [Nat.add_zero] at hv207_0
                            replace hv207_0 := Option.some.inj (hv207_0.symm.trans hx207_0)
                            rw [hv207_0] at ge207_0
                            have HL207_0 := Aside0.mk (show Kd.R (Kd.int .i64) 3 _ w.heap.size (fun k_ => k_ < nn ∧ fo k_ = x53_3.toNat) _ ((rd_T91 x6_2 x53_3).f0) from ge207_0)
                            clear hv207_0 ge207_0
                            clear hcc207 hce207 hMe207
                            have HR207_0 := Aside0.mk hi207_0
                            have HC207_0 := Aside0.mk hl207_0
                            clear hi207_0 hl207_0
                            replace p207 := eq_true p207
                            replace q207 := eq_true q207
                            go_wp2_with (first | ((with_reducible refine gate_dst (N := 12) rfl ?_); refine box_event ?hg (N := 12) ?hd (cs := #[.slice none 0 0, .int .i64 0]) (t := 91) ?hr ?_; (case hd => rfl); (case hg => rfl); (case hr => first | (go_simp; done) | (go_simp; rfl)); intro gb208 hg w46 hbox hb; have n0_ := Aside0.mk (Take.Pk.box (by (with_reducible repeat (first | apply Take.Pk.alloc | apply Take.Pk.drewN | apply Take.Pk.drew)); exact HO.out) hg hb); have n2_ := Aside0.mk (Kd.R_below (by (with_reducible repeat (first | apply Kd.R_alloc | apply Kd.R_drewN | apply Kd.R_drew)); exact HL207_0.out) hb); have n3_ := Aside0.mk (Kd.C_below (by repeat (first | (with_reducible exact HR207_0.out) | (with_reducible refine Kd.C_alloc ?_ _) | (with_reducible refine Kd.C_drewN ?_ _) | (with_reducible refine Kd.C_drew ?_) | exact HR207_0.out)) hb); have n4_ := Aside0.mk (below_step (by repeat (first | (with_reducible first | exact HB.out | apply below_alloc | apply pw_below_drewN | apply below_drew1) | exact HB.out)) hb); have n5_ := Aside0.mk (hbox); have n6_ := Aside0.mk ((by rw [hg]; exact (below_size (by repeat (first | (with_reducible first | exact HB.out | apply below_alloc | apply pw_below_drewN | apply below_drew1) | exact HB.out)))) : w.heap.size ≤ gb208); have n7_ := Aside0.mk ((by rw [hg]; exact (Take.Pk.lt (by (with_reducible repeat (first | apply Take.Pk.alloc | apply Take.Pk.drewN | apply Take.Pk.drew)); exact HO.out))) : nn ≤ gb208); clear HO; clear HL207_0; clear HR207_0; clear HB; have HO := n0_; have HL207_0 := n2_; have HR207_0 := n3_; have HB := n4_; have BK208 := n5_; have GE208 := n6_; have GN208 := n7_; clear n0_ n2_ n3_ n4_ n5_ n6_ n7_; clear hb hbox hg; have hcz47_0 : w46.cell? ⟨gb208, 0, none⟩ = some (.slice none 0 0) := (blk_cell BK208.out 0).trans rfl; have hcz47_1 : w46.cell? ⟨gb208, 1, none⟩ = some (.int .i64 0) := (blk_cell BK208.out 1).trans rfl; have hfz47_0 := blk_frozen BK208.out 0; have hfz47_1 := blk_frozen BK208.out 1) | ((with_reducible refine gate_store (t := 91) (p := 12) rfl ?_); refine store_event (t := 91) (p := 12) (v := ?vo_w48) (w1 := ((w46.setCell ⟨gb208, 0, none⟩ (.slice A207_0 ((rd_T91 x6_2 x53_3).f0).length c207_0)).setCell ⟨gb208, 1, none⟩ (.int .i64 ((rd_T91 x6_2 x53_3).f1)))) ?hg ?ho ?hn ?hr ?_; (case ho => rfl); (case hg => rfl); (case hn => rfl); (case hr => first | (go_simp; done) | (go_simp; rfl)); intro w48 hw; have n0_ : Aside0 (Take.Pk k91 91 w48 w.heap.size nn fo (fun k_ => k_ ≠ gb208) x53_3.toNat (.slice (some ad207) x6_2.length co34) x6_2 u10 x10_3) := ⟨(by rw [hw]; exact Take.Pk.set (Take.Pk.set (by (with_reducible repeat (first | apply Take.Pk.alloc | apply Take.Pk.drewN | apply Take.Pk.drew)); exact HO.out) GN208.out 0 _) GN208.out 1 _)⟩; have n2_ : Aside0 (Kd.R (Kd.int .i64) 3 w48 w.heap.size (fun k_ => k_ < nn ∧ fo k_ = x53_3.toNat) (.slice A207_0 ((rd_T91 x6_2 x53_3).f0).length c207_0) ((rd_T91 x6_2 x53_3).f0)) := ⟨(by rw [hw]; exact Kd.R_far (p := ⟨gb208, 1, none⟩) (Kd.R_far (p := ⟨gb208, 0, none⟩) HL207_0.out (fun k_ hk => by have := GN208.out; show k_ ≠ gb208; omega) _) (fun k_ hk => by have := GN208.out; show k_ ≠ gb208; omega) _)⟩; have n3_ : Aside0 (w48.heap[gb208]? = some (.cells #[.slice A207_0 ((rd_T91 x6_2 x53_3).f0).length c207_0, .int .i64 ((rd_T91 x6_2 x53_3).f1)] 91 (0, 0))) := ⟨(by rw [hw]; exact (by (with_reducible repeat (first | refine blk_drewN ?_ _ | refine blk_drew ?_ | refine blk_alloc ?_ _)); refine blk_put (cs := #[.slice A207_0 ((rd_T91 x6_2 x53_3).f0).length c207_0, .int .i64 0]) ?_ 1 _ rfl; (with_reducible repeat (first | refine blk_drewN ?_ _ | refine blk_drew ?_ | refine blk_alloc ?_ _)); refine blk_put (cs := #[.slice none 0 0, .int .i64 0]) ?_ 0 _ rfl; (with_reducible repeat (first | refine blk_drewN ?_ _ | refine blk_drew ?_ | refine blk_alloc ?_ _)); exact BK208.out))⟩; have n4_ : Aside0 (Below w.heap.size w w48) := ⟨(by rw [hw]; exact (by repeat (first | (with_reducible first | exact HB.out | apply below_alloc | apply pw_below_drewN | apply below_drew1 | refine below_set ?_ GE208.out) | exact HB.out)))⟩; clear hw; clear HO; clear HL207_0; clear BK208; clear HB; have HO := n0_; have HL207_0 := n2_; have BK208 := n3_; have HB := n4_; clear n0_ n2_ n3_ n4_; have hcz49_0 : w48.cell? ⟨gb208, 0, none⟩ = some (.slice A207_0 ((rd_T91 x6_2 x53_3).f0).length c207_0) := (blk_cell BK208.out 0).trans rfl; have hcz49_1 : w48.cell? ⟨gb208, 1, none⟩ = some (.int .i64 ((rd_T91 x6_2 x53_3).f1)) := (blk_cell BK208.out 1).trans rfl; have hfz49_0 := blk_frozen BK208.out 0; have hfz49_1 := blk_frozen BK208.out 1))
                            go_roundg k3
                            case measure => have := HJ2.out; have := HK2.out; have := HK3.out; omega
                            case rel => exact ⟨(x10_3), (wrap64 (x53_3 + 1)), (by first | rfl | (simp; done) | (simp [*]; done)), H', ⟨by have := HJ2.out; have := HK2.out; have := HK3.out; omega⟩, ⟨Take.Pk.to (Take.Pk.next (Take.Pk.drop (by (with_reducible repeat (first | apply Take.Pk.alloc | apply Take.Pk.drewN | apply Take.Pk.drew)); exact HO.out))) HS.out⟩, ⟨(by repeat (first | (with_reducible first | exact HB.out | apply below_alloc | apply pw_below_drewN | apply below_drew1 | refine below_set ?_ GE208.out) | exact HB.out))⟩⟩
                      · rw [if_neg c37] at H
                        exact absurd H (by simp)
                    · rw [if_neg c36] at H
                      exact absurd H (by simp)
                  · rw [if_neg c35] at H
                    have c35b0 : decide (x53_3 < (x6_2.length : Int)) = false := decide_eq_false c35
                    clear c35
                    simp only [Option.some.injEq, Prod.mk.injEq] at H
                    obtain ⟨rfl, rfl⟩ := H
                    go_wp2
                    go_ret2
                    exact ⟨_, by first | rfl | (simp [errW_none, errW_some] <;> rfl) | (simp [*, errW_none, errW_some] <;> rfl), by (with_reducible repeat (first | apply Kd.S_alloc | apply Kd.S_drewN | apply Kd.S_drew)); exact Kd.S_mono HO.out.out (fun _ hk => trivial), (by repeat (first | (with_reducible first | exact HB.out | apply below_alloc | apply pw_below_drewN | apply below_drew1) | exact HB.out))⟩

end Go.Proofs.Ytjglknoebaojgaa.G

