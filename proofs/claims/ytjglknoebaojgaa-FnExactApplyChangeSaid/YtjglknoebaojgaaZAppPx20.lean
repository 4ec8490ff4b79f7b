/- Out of YtjglknoebaojgaaPx20: what the claim needs of it. Conditions: each declaration's own. -/
import Derived.Test.YtjglknoebaojgaaZAppPUp
import Derived.Test.YtjglknoebaojgaaZAppM12
import Derived.Test.YtjglknoebaojgaaZAppM18
import Derived.Test.YtjglknoebaojgaaZAppPx18
import Derived.Test.YtjglknoebaojgaaZAppPx19
import Derived.Test.YtjglknoebaojgaaZAppM24
namespace Go.Proofs.Ytjglknoebaojgaa.P
open Go.RowKit Go.Proofs.YtjglknoebaojgaaW.PrintWords Go.Proofs.YtjglknoebaojgaaW.PrintLast Go.Proofs.YtjglknoebaojgaaW.PrintMore
attribute [local go_sem] max2_int min2_int max_two min_two max_three min_three max_four min_four   -- for this text's walks alone
set_option linter.unusedVariables false
set_option linter.unusedSimpArgs false

mutual
def impl_RemoveFact.j0 : Nat → List (S53) → Bool → Int → List Int → Option ((List (S53)) × Bool)
 | 0, _, _, _, _ => none
 | k + 1, x1, x20, x618000, x618001 => if x20 = true then ((impl_copyFacts.f k x1).bind fun t620 => (some (t620, false))) else (impl_RemoveFact.l0 k (([] : List (S53))) x1 (x1.length : Int) 0 x618000 x618001)
def impl_RemoveFact.l0 : Nat → List (S53) → List (S53) → Int → Int → Int → List Int → Option ((List (S53)) × Bool)
 | 0, _, _, _, _, _, _ => none
 | k + 1, x8, x24, x25, x26, x618000, x618001 => if x26 < x25 then (if 0 ≤ x26 then (if x26 < (x24.length : Int) then ((impl_equalFact.f k ((rd_T53 x24 x26).f0) ((rd_T53 x24 x26).f1) x618000 x618001).bind fun t628 => (if t628 = true then (impl_RemoveFact.l0 k x8 x24 x25 (wrap64 (x26 + 1)) x618000 x618001) else ((impl_copyFact.f ((rd_T53 x24 x26).f0) ((rd_T53 x24 x26).f1)).bind fun bt629 => (if x8.length < 4398046511104 then (impl_RemoveFact.l0 k (x8 ++ [(⟨bt629.1, bt629.2⟩ : S53)]) x24 x25 (wrap64 (x26 + 1)) x618000 x618001) else (none))))) else (none)) else (none)) else (some (x8, true))
end
def impl_RemoveFact.f (k : Nat) (l0_0 : List Int) (l1 : List (S53)) (a2_0 : Int) (l2_1 : List Int) : Option ((List (S53)) × Bool) := (impl_IsDatabase.f k l0_0 l1).bind fun t618 => (if t618 = true then ((impl_HasFact.f k l1 a2_0 l2_1).bind fun t619 => (impl_RemoveFact.j0 k l1 (!t619) a2_0 l2_1)) else (impl_RemoveFact.j0 k l1 true a2_0 l2_1))
set_option maxHeartbeats 8000000 in
set_option maxRecDepth 100000 in
theorem impl_RemoveFact.calls (k : Nat) (A0_0 : Option Addr) (c0_0 : Nat) (l0_0 : List Int) (A1 : Option Addr) (c1 : Nat) (l1 : List (S53)) (a2_0 : Int) (A2_1 : Option Addr) (c2_1 : Nat) (l2_1 : List Int) (r1 : List (S53)) (r2 : Bool) (w : World) (hr0_0 : Kd.C (Kd.int .i64) w A0_0 l0_0.length l0_0) (hc0_0 : l0_0.length ≤ c0_0) (hr1 : Kd.C k53 w A1 l1.length l1) (hc1 : l1.length ≤ c1) (hr2_1 : Kd.C (Kd.int .i64) w A2_1 l2_1.length l2_1) (hc2_1 : l2_1.length ≤ c2_1) (h : impl_RemoveFact.f k l0_0 l1 a2_0 l2_1 = some (r1, r2)) :
  Calls Try.prog 68 #[.agg #[.slice A0_0 l0_0.length c0_0], .slice A1 l1.length c1, .agg #[.int .i64 a2_0, .slice A2_1 l2_1.length c2_1]] w fun e w' => ∃ v0_ : Value, e = .returned (.tuple #[v0_, .bool r2]) ∧ Kd.S k53 53 w' w.heap.size (fun _ => True) v0_ r1 ∧ Below w.heap.size w w' := by
 have hu50 := Try.underlying50
 have hu53 := Try.underlying53
 have HR0_0 := Aside0.mk hr0_0
 have HC0_0 := Aside0.mk hc0_0
 clear hr0_0 hc0_0
 have HR1 := Aside0.mk hr1
 have HC1 := Aside0.mk hc1
 clear hr1 hc1
 have HR2_1 := Aside0.mk hr2_1
 have HC2_1 := Aside0.mk hc2_1
 clear hr2_1 hc2_1
 have HB := Aside0.mk (Below.refl w.heap.size w)
 have H : ((impl_IsDatabase.f k l0_0 l1).bind fun t618 => (if t618 = true then ((impl_HasFact.f k l1 a2_0 l2_1).bind fun t619 => (impl_RemoveFact.j0 k l1 (!t619) a2_0 l2_1)) else (impl_RemoveFact.j0 k l1 true a2_0 l2_1))) = some (r1, r2) := h
 clear h
 have HC4 := Aside0.mk H
 clear H
 go_enter Try.func68, Try.ntmps68
 go_upto_region 1 with (first | ((with_reducible refine gate_dst (N := 3) rfl ?_); refine box_event ?hg (N := 3) ?hd (cs := #[.slice A0_0 l0_0.length c0_0]) (t := 50) ?hr ?_; (case hd => rfl); (case hg => rfl); (case hr => first | (go_simp; done) | (go_simp; rfl)); intro gb616 hg w5 hbox hb; have BK616 := Aside0.mk hbox; have GW616 := uG HB hg; have GE616 := uG HB hg; replace HB := uS HB hb; clear hb hbox hg) | ((with_reducible refine gate_dst (N := 5) rfl ?_); refine box_event ?hg (N := 5) ?hd (cs := #[.int .i64 a2_0, .slice A2_1 l2_1.length c2_1]) (t := 53) ?hr ?_; (case hd => rfl); (case hg => rfl); (case hr => first | (go_simp; done) | (go_simp; rfl)); intro gb617 hg w6 hbox hb; have BK617 := Aside0.mk hbox; have GW617 := uG HB hg; have GE617 := uG HB hg; replace HB := uS HB hb; have NB616_617 := uN BK616 hg; have NB617_616 := uM BK616 hg; replace BK616 := uK BK616 hb; clear hb hbox hg))
 (try simp only [Act.put, sA, sZ, sS])
 go_cut [20] (fun v20 wc => ∃ (kq : Nat) (x20_3 : Bool), v20 = .bool x20_3 ∧ Aside0 (impl_RemoveFact.j0 kq l1 x20_3 a2_0 l2_1 = some (r1, r2)) ∧ Aside0 (kq ≤ k) ∧ Aside0 (wc.heap[gb616]? = some (.cells #[(.slice A0_0 l0_0.length c0_0)] 50 (0, 0))) ∧ Aside0 (wc.heap[gb617]? = some (.cells #[.int .i64 a2_0, (.slice A2_1 l2_1.length c2_1)] 53 (0, 0))) ∧ Aside0 (Below w.heap.size w wc))
 case first =>
  have H := HC4.out
  clear HC4
  replace H := Option.bind_eq_some_iff.mp H
  obtain ⟨t618, A70, H⟩ := H
  replace H : (if t618 = true then ((impl_HasFact.f k l1 a2_0 l2_1).bind fun t619 => (impl_RemoveFact.j0 k l1 (!t619) a2_0 l2_1)) else (impl_RemoveFact.j0 k l1 true a2_0 l2_1)) = some (r1, r2) := H
  have A7 := Aside0.mk A70
  clear A70
  by_cases c8 : t618 = true
  ·subst c8
   have H1 : ((impl_HasFact.f k l1 a2_0 l2_1).bind fun t619 => (impl_RemoveFact.j0 k l1 (!t619) a2_0 l2_1)) = some (r1, r2) := by rw [if_pos rfl] at H; exact H
   clear H
   have H := H1
   clear H1
   replace H := Option.bind_eq_some_iff.mp H
   obtain ⟨t619, A90, H⟩ := H
   replace H : (impl_RemoveFact.j0 k l1 (!t619) a2_0 l2_1) = some (r1, r2) := H
   have A9 := Aside0.mk A90
   clear A90
   have H' := Aside0.mk H
   clear H
   have hnb10 := NB616_617.out
   have hnc10 := NB617_616.out
   have hcz11_0 : w6.cell? ⟨gb616, 0, none⟩ = some (.slice A0_0 l0_0.length c0_0) := kc BK616 rfl
   have hfz11_0 := blk_frozen BK616.out 0
   go_wp2_with (first | ((with_reducible refine gate_callee (f := 99) rfl ?_); refine goesL_ (some 13) rfl rfl Try.func99 (by kernel_rfl) rfl #[.agg #[.slice A0_0 l0_0.length c0_0], .slice A1 l1.length c1] rfl (by (try simp only [List.map_toArray, List.map_cons, List.map_nil]); first | done | rfl | (simp only [List.length_drop, List.length_take]; rfl)) ?_; (with_reducible refine (impl_IsDatabase.calls k _ _ l0_0 _ _ l1 true _ ?side1 ?side2 ?side3 ?side4 A7.out).mono ?_); (case side1 => exact uC HR0_0 HB); (case side2 => exact HC0_0.out); (case side3 => exact uC HR1 HB); (case side4 => exact HC1.out); rintro e w12 ⟨rfl, hb⟩; refine ⟨_, rfl, ?_⟩; replace BK616 := uK BK616 hb; replace BK617 := uK BK617 hb; replace HB := uS HB hb; (try clear hb); (try clear hb2); (try clear hk); (try clear hi); have hcz13_0 : w12.cell? ⟨gb617, 0, none⟩ = some (.int .i64 a2_0) := kc BK617 rfl; have hcz13_1 : w12.cell? ⟨gb617, 1, none⟩ = some (.slice A2_1 l2_1.length c2_1) := kc BK617 rfl; have hfz13_0 := blk_frozen BK617.out 0; have hfz13_1 := blk_frozen BK617.out 1) | (go_at_call 102; (with_reducible refine (impl_HasFact.calls k _ _ l1 a2_0 _ _ l2_1 t619 _ ?side1 ?side2 ?side3 ?side4 A9.out).mono ?_); (case side1 => exact uC HR1 HB); (case side2 => exact HC1.out); (case side3 => exact uC HR2_1 HB); (case side4 => exact HC2_1.out); rintro e w14 ⟨rfl, hb⟩; replace BK616 := uK BK616 hb; replace BK617 := uK BK617 hb; replace HB := uS HB hb; (try clear hb); (try clear hb2); (try clear hk); (try clear hi)))
   go_meet
   case rel => exact ⟨_, (!t619), (by first | rfl | (simp; done) | (simp [*]; done)), H', ⟨by first | omega | exact Nat.le_refl _⟩, ⟨uk BK616⟩, ⟨uk BK617⟩, ⟨uB HB⟩⟩
  ·replace c8 := Bool.eq_false_iff.mpr c8
   subst c8
   have H1 : (impl_RemoveFact.j0 k l1 true a2_0 l2_1) = some (r1, r2) := by rw [if_neg (show ¬ (false = true) by decide)] at H; exact H
   clear H
   have H := H1
   clear H1
   have H' := Aside0.mk H
   clear H
   have hnb15 := NB616_617.out
   have hnc15 := NB617_616.out
   have hcz16_0 : w6.cell? ⟨gb616, 0, none⟩ = some (.slice A0_0 l0_0.length c0_0) := kc BK616 rfl
   have hfz16_0 := blk_frozen BK616.out 0
   go_wp2_with (first | ((with_reducible refine gate_callee (f := 99) rfl ?_); refine goesL_ (some 13) rfl rfl Try.func99 (by kernel_rfl) rfl #[.agg #[.slice A0_0 l0_0.length c0_0], .slice A1 l1.length c1] rfl (by (try simp only [List.map_toArray, List.map_cons, List.map_nil]); first | done | rfl | (simp only [List.length_drop, List.length_take]; rfl)) ?_; (with_reducible refine (impl_IsDatabase.calls k _ _ l0_0 _ _ l1 false _ ?side1 ?side2 ?side3 ?side4 A7.out).mono ?_); (case side1 => exact uC HR0_0 HB); (case side2 => exact HC0_0.out); (case side3 => exact uC HR1 HB); (case side4 => exact HC1.out); rintro e w17 ⟨rfl, hb⟩; refine ⟨_, rfl, ?_⟩; replace BK616 := uK BK616 hb; replace BK617 := uK BK617 hb; replace HB := uS HB hb; (try clear hb); (try clear hb2); (try clear hk); (try clear hi)))
   go_meet
   case rel => exact ⟨_, (true), (by first | rfl | (simp; done) | (simp [*]; done)), H', ⟨by first | omega | exact Nat.le_refl _⟩, ⟨uk BK616⟩, ⟨uk BK617⟩, ⟨uB HB⟩⟩
 case rest =>
  clear HC4
  try clear c1
  try clear c2
  try clear p2
  try clear c6
  try clear c8
  try clear c9
  try clear c10
  try clear c15
  try clear hcz11_0
  try clear hcz13_0
  try clear hcz13_1
  try clear hcz16_0
  try clear hfz11_0
  try clear hfz13_0
  try clear hfz13_1
  try clear hfz16_0
  obtain ⟨kq, x20_3, rfl, HA, HJ3, BK616, BK617, HB⟩ := hcut
  cases kq with
  | zero => exact absurd HA.out (by simp [impl_RemoveFact.j0])
  | succ kj3 =>
   have H := HA.out
   clear HA
   simp only [impl_RemoveFact.j0] at H
   by_cases c18 : x20_3 = true
   ·subst c18
    have H1 : ((impl_copyFacts.f kj3 l1).bind fun t620 => (some (t620, false))) = some (r1, r2) := by rw [if_pos rfl] at H; exact H
    clear H
    have H := H1
    clear H1
    replace H := Option.bind_eq_some_iff.mp H
    obtain ⟨t620, A190, H⟩ := H
    replace H : (some (t620, false)) = some (r1, r2) := H
    have A19 := Aside0.mk A190
    clear A190
    simp only [Option.some.injEq, Prod.mk.injEq] at H
    obtain ⟨rfl, rfl⟩ := H
    go_wp2_with (first | ((with_reducible refine gate_callee (f := 101) rfl ?_); refine goesL_ (some 22) rfl rfl Try.func101 (by kernel_rfl) rfl #[.slice A1 l1.length c1] rfl (by (try simp only [List.map_toArray, List.map_cons, List.map_nil]); first | done | rfl | (simp only [List.length_drop, List.length_take]; rfl)) ?_; (with_reducible refine (impl_copyFacts.calls kj3 _ _ l1 t620 _ ?side1 ?side2 A19.out).mono ?_); (case side1 => exact uC HR1 HB); (case side2 => exact HC1.out); rintro e w20 ⟨v621, rfl, ho0, hb⟩; refine ⟨_, rfl, ?_⟩; have HO622 := Aside0.mk (Kd.S_lower (Kd.S_newB ho0 (g := gb617) (o := .cells #[.int .i64 a2_0, .slice A2_1 l2_1.length c2_1] 53 (0, 0)) (uk BK617)) (below_size (uB HB))); replace BK616 := uK BK616 hb; replace BK617 := uK BK617 hb; replace HB := uS HB hb; (try clear hb); (try clear hb2); (try clear hk); (try clear hi); (try clear ho0)))
    go_ret2
    exact ⟨_, by first | rfl | (simp [errW_none, errW_some] <;> rfl) | (simp [*, errW_none, errW_some] <;> rfl), by (with_reducible repeat (first | apply Kd.S_alloc | apply Kd.S_drewN | apply Kd.S_drew)); exact Kd.S_mono HO622.out (fun _ hk => trivial), uB HB⟩
   ·replace c18 := Bool.eq_false_iff.mpr c18
    subst c18
    have H1 : (impl_RemoveFact.l0 kj3 (([] : List (S53))) l1 (l1.length : Int) 0 a2_0 l2_1) = some (r1, r2) := by rw [if_neg (show ¬ (false = true) by decide)] at H; exact H
    clear H
    have H := H1
    clear H1
    obtain ⟨y623, hy623⟩ : ∃ y_ : List (S53), y_ = (([] : List (S53))) := ⟨_, rfl⟩
    replace H : (impl_RemoveFact.l0 kj3 y623 l1 (l1.length : Int) 0 a2_0 l2_1) = some (r1, r2) := by first | (rw [hy623]; with_reducible exact H) | (have H2_ := (Option.bind_some _ _).symm.trans H; rw [hy623]; with_reducible exact H2_) | (have H2_ := (Option.bind_some _ _).symm.trans H; with_reducible exact H2_) | with_reducible exact H | (rw [hy623]; exact H) | exact H
    have Ny623 := Aside0.mk hy623
    clear hy623
    have H' := Aside0.mk H
    clear H
    go_wp2_with (first | ((with_reducible refine gate_dst (N := 23) rfl ?_); refine Kd.S_lit k53 _ 53 ?hg (N := 23) ?hd (xs := ([] : List (S53))) (inner := []) (ok := fun _ => True) (okp := fun _ => True) ?hr ?hp (fun _ hk => hk) trivial (Below.refl _ _) (Nat.le_refl _) (by simp) ?_; (case hd => rfl); (case hg => rfl); (case hr => first | (go_simp; done) | (go_simp; rfl)); (case hp => exact (Reps.none _ _)); intro v624 w21 ho22 hb hg_ hnew_; clear hg_ hnew_; (first | rw [← Ny623.out] at ho22 | (simp only [Int.reduceToNat] at ho22; rw [← Ny623.out] at ho22)); have HO625 := Aside0.mk (Kd.S_lower (Kd.S_newB ho22 (g := gb617) (o := .cells #[.int .i64 a2_0, .slice A2_1 l2_1.length c2_1] 53 (0, 0)) (uk BK617)) (below_size (uB HB))); replace BK616 := uK BK616 hb; replace BK617 := uK BK617 hb; replace HB := uS HB hb; clear hb ho22))
    go_loopg [8, 26] kj3 (fun kq v8 v26 w' => ∃ (x8_2 : List (S53)) (x26_2 : Int), v26 = .int .i64 x26_2 ∧ Aside0 (impl_RemoveFact.l0 kq x8_2 l1 (l1.length : Int) x26_2 a2_0 l2_1 = some (r1, r2)) ∧ Aside0 (kq ≤ kj3) ∧ Aside0 (Kd.S k53 53 w' w.heap.size (fun k_ => k_ ≠ gb617) v8 x8_2) ∧ Aside0 (w'.heap[gb616]? = some (.cells #[(.slice A0_0 l0_0.length c0_0)] 50 (0, 0))) ∧ Aside0 (w'.heap[gb617]? = some (.cells #[.int .i64 a2_0, (.slice A2_1 l2_1.length c2_1)] 53 (0, 0))) ∧ Aside0 (Below w.heap.size w w'))
    case atStart => exact ⟨(y623), (0), (by first | rfl | (simp; done) | (simp [*]; done)), H', ⟨Nat.le_refl _⟩, ⟨by (with_reducible repeat (first | apply Kd.S_alloc | apply Kd.S_drewN | apply Kd.S_drew)); exact Kd.S_mono HO625.out (fun _ hk => hk.2)⟩, ⟨uk BK616⟩, ⟨uk BK617⟩, ⟨uB HB⟩⟩
    case round =>
     clear H'
     try clear c1
     try clear c2
     try clear p2
     try clear c6
     try clear c8
     try clear c9
     try clear c10
     try clear c15
     try clear c18
     try clear hcz11_0
     try clear hcz13_0
     try clear hcz13_1
     try clear hcz16_0
     try clear hfz11_0
     try clear hfz13_0
     try clear hfz13_1
     try clear hfz16_0
     try clear p2
     obtain ⟨x8_2, x26_2, rfl, HA, HK2, HO_8, BK616, BK617, HB⟩ := hrel
     cases gk with
     | zero => exact absurd HA.out (by simp [impl_RemoveFact.l0])
     | succ k2 =>
      have H := HA.out
      clear HA
      simp only [impl_RemoveFact.l0] at H
      by_cases c23 : x26_2 < (l1.length : Int)
      ·rw [if_pos c23] at H
       have c23b0 : decide (x26_2 < (l1.length : Int)) = true := decide_eq_true c23
       clear c23
       by_cases c24 : 0 ≤ x26_2
       ·rw [if_pos c24] at H
        have c24b0 : decide (0 ≤ x26_2) = true := decide_eq_true c24
        clear c24
        by_cases c25 : x26_2 < (l1.length : Int)
        ·rw [if_pos c25] at H
         have c25b0 : decide (x26_2 < (l1.length : Int)) = true := decide_eq_true c25
         clear c25
         replace H := Option.bind_eq_some_iff.mp H
         obtain ⟨t628, A260, H⟩ := H
         replace H : (if t628 = true then (impl_RemoveFact.l0 k2 x8_2 l1 (l1.length : Int) (wrap64 (x26_2 + 1)) a2_0 l2_1) else ((impl_copyFact.f ((rd_T53 l1 x26_2).f0) ((rd_T53 l1 x26_2).f1)).bind fun bt629 => (if x8_2.length < 4398046511104 then (impl_RemoveFact.l0 k2 (x8_2 ++ [(⟨bt629.1, bt629.2⟩ : S53)]) l1 (l1.length : Int) (wrap64 (x26_2 + 1)) a2_0 l2_1) else (none)))) = some (r1, r2) := H
         have A26 := Aside0.mk A260
         clear A260
         by_cases c27 : t628 = true
         ·subst c27
          have H1 : (impl_RemoveFact.l0 k2 x8_2 l1 (l1.length : Int) (wrap64 (x26_2 + 1)) a2_0 l2_1) = some (r1, r2) := by rw [if_pos rfl] at H; exact H
          clear H
          have H := H1
          clear H1
          have H' := Aside0.mk H
          clear H
          have p626 : 0 ≤ (x26_2 : Int) := of_decide_eq_true (by first | (with_reducible assumption) | assumption)
          have q626 : x26_2 < (l1.length : Int) := of_decide_eq_true (by first | (with_reducible assumption) | assumption)
          obtain ⟨ad626, A626_1, c626_1, e626, hx626_0, hx626_1, hl626_1, hi626_1⟩ := at_T53 HR1.out x26_2 p626 q626
          cases e626
          replace hx626_0 := (HB.out.cell (World.block_lt_of_cell? w _ hx626_0)).trans hx626_0
          replace hx626_1 := (HB.out.cell (World.block_lt_of_cell? w _ hx626_1)).trans hx626_1
          have HR626_1 := Aside0.mk hi626_1
          have HC626_1 := Aside0.mk hl626_1
          clear hi626_1 hl626_1
          replace p626 := eq_true p626
          replace q626 := eq_true q626
          go_wp2_with (first | ((with_reducible refine gate_dst (N := 10) rfl ?_); refine box_event ?hg (N := 10) ?hd (cs := #[.int .i64 0, .slice none 0 0]) (t := 53) ?hr ?_; (case hd => rfl); (case hg => rfl); (case hr => first | (go_simp; done) | (go_simp; rfl)); intro gb627 hg w28 hbox hb; replace HO_8 := Aside0.mk (Kd.S_below (Kd.S_elderB (by (with_reducible repeat (first | apply Kd.S_alloc | apply Kd.S_drewN | apply Kd.S_drew)); exact HO_8.out) gb627 (Nat.le_of_eq hg.symm)) hb); have BK627 := Aside0.mk hbox; have GW627 := uG HB hg; have GE627 := uG HB hg; replace HB := uS HB hb; have NB616_627 := uN BK616 hg; have NB627_616 := uM BK616 hg; replace BK616 := uK BK616 hb; have NB617_627 := uN BK617 hg; have NB627_617 := uM BK617 hg; replace BK617 := uK BK617 hb; clear hb hbox hg; have hnb29 := NB627_616.out; have hnc29 := NB616_627.out; have hnb30 := NB627_617.out; have hnc30 := NB617_627.out; have hcz31_0 : w28.cell? ⟨gb627, 0, none⟩ = some (.int .i64 0) := kc BK627 rfl; have hcz31_1 : w28.cell? ⟨gb627, 1, none⟩ = some (.slice none 0 0) := kc BK627 rfl; have hfz31_0 := blk_frozen BK627.out 0; have hfz31_1 := blk_frozen BK627.out 1; have hnb32 := NB617_616.out; have hnc32 := NB616_617.out; have hcz33_0 : w28.cell? ⟨gb617, 0, none⟩ = some (.int .i64 a2_0) := kc BK617 rfl; have hcz33_1 : w28.cell? ⟨gb617, 1, none⟩ = some (.slice A2_1 l2_1.length c2_1) := kc BK617 rfl; have hfz33_0 := blk_frozen BK617.out 0; have hfz33_1 := blk_frozen BK617.out 1) | ((with_reducible refine gate_callee (f := 103) rfl ?_); refine goesL_ (some 32) rfl rfl Try.func103 (by kernel_rfl) rfl #[.agg #[.int .i64 ((rd_T53 l1 x26_2).f0), .slice A626_1 ((rd_T53 l1 x26_2).f1).length c626_1], .agg #[.int .i64 a2_0, .slice A2_1 l2_1.length c2_1]] rfl (by (try simp only [List.map_toArray, List.map_cons, List.map_nil]); first | done | rfl | (simp only [List.length_drop, List.length_take]; rfl)) ?_; (with_reducible refine (impl_equalFact.calls k2 ((rd_T53 l1 x26_2).f0) _ _ ((rd_T53 l1 x26_2).f1) a2_0 _ _ l2_1 true _ ?side1 ?side2 ?side3 ?side4 A26.out).mono ?_); (case side1 => exact Kd.C_below HR626_1.out ((by repeat (first | exact uB HB | refine below_set ?_ (Aside0.out (by assumption)))))); (case side2 => exact HC626_1.out); (case side3 => exact Kd.C_below HR2_1.out ((by repeat (first | exact uB HB | refine below_set ?_ (Aside0.out (by assumption)))))); (case side4 => exact HC2_1.out); rintro e w34 ⟨rfl, hb⟩; refine ⟨_, rfl, ?_⟩; replace HO_8 := Aside0.mk (Kd.S_below (by (with_reducible repeat (first | apply Kd.S_alloc | apply Kd.S_drewN | apply Kd.S_drew)); exact (Kd.S_mono (Kd.S_far (p := ⟨gb627, 1, none⟩) (Kd.S_far (p := ⟨gb627, 0, none⟩) (Kd.S_mono HO_8.out (fun k_ hk => (⟨hk, hk.2⟩ : _ ∧ k_ ≠ gb627))) (fun _ hk => hk.2) (.int .i64 ((rd_T53 l1 x26_2).f0))) (fun _ hk => hk.2) (.slice A626_1 ((rd_T53 l1 x26_2).f1).length c626_1)) (fun _ h_ => h_.1))) hb); replace BK616 := Aside0.mk (blk_below (g := gb616) (o := .cells #[.slice A0_0 l0_0.length c0_0] 50 (0, 0)) (by (with_reducible repeat (first | refine blk_drewN ?_ _ | refine blk_drew ?_ | refine blk_alloc ?_ _)); refine blk_far ?_ NB616_627.out _; (with_reducible repeat (first | refine blk_drewN ?_ _ | refine blk_drew ?_ | refine blk_alloc ?_ _)); refine blk_far ?_ NB616_627.out _; (with_reducible repeat (first | refine blk_drewN ?_ _ | refine blk_drew ?_ | refine blk_alloc ?_ _)); exact BK616.out) hb); replace BK617 := Aside0.mk (blk_below (g := gb617) (o := .cells #[.int .i64 a2_0, .slice A2_1 l2_1.length c2_1] 53 (0, 0)) (by (with_reducible repeat (first | refine blk_drewN ?_ _ | refine blk_drew ?_ | refine blk_alloc ?_ _)); refine blk_far ?_ NB617_627.out _; (with_reducible repeat (first | refine blk_drewN ?_ _ | refine blk_drew ?_ | refine blk_alloc ?_ _)); refine blk_far ?_ NB617_627.out _; (with_reducible repeat (first | refine blk_drewN ?_ _ | refine blk_drew ?_ | refine blk_alloc ?_ _)); exact BK617.out) hb); replace BK627 := Aside0.mk (blk_below (g := gb627) (o := .cells #[.int .i64 ((rd_T53 l1 x26_2).f0), .slice A626_1 ((rd_T53 l1 x26_2).f1).length c626_1] 53 (0, 0)) (by (with_reducible repeat (first | refine blk_drewN ?_ _ | refine blk_drew ?_ | refine blk_alloc ?_ _)); refine blk_put (cs := #[.int .i64 ((rd_T53 l1 x26_2).f0), .slice none 0 0]) ?_ 1 _ rfl; (with_reducible repeat (first | refine blk_drewN ?_ _ | refine blk_drew ?_ | refine blk_alloc ?_ _)); refine blk_put (cs := #[.int .i64 0, .slice none 0 0]) ?_ 0 _ rfl; (with_reducible repeat (first | refine blk_drewN ?_ _ | refine blk_drew ?_ | refine blk_alloc ?_ _)); exact BK627.out) hb); replace HB := Aside0.mk (below_step (by repeat (first | exact uB HB | refine below_set ?_ (Aside0.out (by assumption)))) hb); (try clear hb); (try clear hb2); (try clear hk); (try clear hi)))
          go_roundg k2
          case measure => have := HJ3.out; have := HK2.out; omega
          case rel => exact ⟨(x8_2), (wrap64 (x26_2 + 1)), (by first | rfl | (simp; done) | (simp [*]; done)), H', ⟨by have := HJ3.out; have := HK2.out; omega⟩, ⟨by (with_reducible repeat (first | apply Kd.S_alloc | apply Kd.S_drewN | apply Kd.S_drew)); exact Kd.S_mono HO_8.out (fun _ hk => hk.1)⟩, ⟨uk BK616⟩, ⟨uk BK617⟩, ⟨uB HB⟩⟩
         ·replace c27 := Bool.eq_false_iff.mpr c27
          subst c27
          have H1 : ((impl_copyFact.f ((rd_T53 l1 x26_2).f0) ((rd_T53 l1 x26_2).f1)).bind fun bt629 => (if x8_2.length < 4398046511104 then (impl_RemoveFact.l0 k2 (x8_2 ++ [(⟨bt629.1, bt629.2⟩ : S53)]) l1 (l1.length : Int) (wrap64 (x26_2 + 1)) a2_0 l2_1) else (none))) = some (r1, r2) := by rw [if_neg (show ¬ (false = true) by decide)] at H; exact H
          clear H
          have H := H1
          clear H1
          replace H := Option.bind_eq_some_iff.mp H
          obtain ⟨⟨t629, t630⟩, A350, H⟩ := H
          replace H : (if x8_2.length < 4398046511104 then (impl_RemoveFact.l0 k2 (x8_2 ++ [(⟨t629, t630⟩ : S53)]) l1 (l1.length : Int) (wrap64 (x26_2 + 1)) a2_0 l2_1) else (none)) = some (r1, r2) := H
          have A35 := Aside0.mk A350
          clear A350
          by_cases c36 : x8_2.length < 4398046511104
          ·rw [if_pos c36] at H
           have LMc36 := Aside0.mk c36
           clear c36
           obtain ⟨y633, hy633⟩ : ∃ y_ : List (S53), y_ = (x8_2 ++ [(⟨t629, t630⟩ : S53)]) := ⟨_, rfl⟩
           replace H : (impl_RemoveFact.l0 k2 y633 l1 (l1.length : Int) (wrap64 (x26_2 + 1)) a2_0 l2_1) = some (r1, r2) := by first | (rw [hy633]; with_reducible exact H) | (have H2_ := (Option.bind_some _ _).symm.trans H; rw [hy633]; with_reducible exact H2_) | (have H2_ := (Option.bind_some _ _).symm.trans H; with_reducible exact H2_) | with_reducible exact H | (rw [hy633]; exact H) | exact H
           have Ny633 := Aside0.mk hy633
           clear hy633
           have H' := Aside0.mk H
           clear H
           have p626 : 0 ≤ (x26_2 : Int) := of_decide_eq_true (by first | (with_reducible assumption) | assumption)
           have q626 : x26_2 < (l1.length : Int) := of_decide_eq_true (by first | (with_reducible assumption) | assumption)
           obtain ⟨ad626, A626_1, c626_1, e626, hx626_0, hx626_1, hl626_1, hi626_1⟩ := at_T53 HR1.out x26_2 p626 q626
           cases e626
           replace hx626_0 := (HB.out.cell (World.block_lt_of_cell? w _ hx626_0)).trans hx626_0
           replace hx626_1 := (HB.out.cell (World.block_lt_of_cell? w _ hx626_1)).trans hx626_1
           have HR626_1 := Aside0.mk hi626_1
           have HC626_1 := Aside0.mk hl626_1
           clear hi626_1 hl626_1
           replace p626 := eq_true p626
           replace q626 := eq_true q626
           go_wp2_with (first | ((with_reducible refine gate_dst (N := 10) rfl ?_); refine box_event ?hg (N := 10) ?hd (cs := #[.int .i64 0, .slice none 0 0]) (t := 53) ?hr ?_; (case hd => rfl); (case hg => rfl); (case hr => first | (go_simp; done) | (go_simp; rfl)); intro gb627 hg w37 hbox hb; replace HO_8 := Aside0.mk (Kd.S_below (Kd.S_elderB (by (with_reducible repeat (first | apply Kd.S_alloc | apply Kd.S_drewN | apply Kd.S_drew)); exact HO_8.out) gb627 (Nat.le_of_eq hg.symm)) hb); have BK627 := Aside0.mk hbox; have GW627 := uG HB hg; have GE627 := uG HB hg; replace HB := uS HB hb; have NB616_627 := uN BK616 hg; have NB627_616 := uM BK616 hg; replace BK616 := uK BK616 hb; have NB617_627 := uN BK617 hg; have NB627_617 := uM BK617 hg; replace BK617 := uK BK617 hb; clear hb hbox hg; have hnb38 := NB627_616.out; have hnc38 := NB616_627.out; have hnb39 := NB627_617.out; have hnc39 := NB617_627.out; have hcz40_0 : w37.cell? ⟨gb627, 0, none⟩ = some (.int .i64 0) := kc BK627 rfl; have hcz40_1 : w37.cell? ⟨gb627, 1, none⟩ = some (.slice none 0 0) := kc BK627 rfl; have hfz40_0 := blk_frozen BK627.out 0; have hfz40_1 := blk_frozen BK627.out 1; have hnb41 := NB617_616.out; have hnc41 := NB616_617.out; have hcz42_0 : w37.cell? ⟨gb617, 0, none⟩ = some (.int .i64 a2_0) := kc BK617 rfl; have hcz42_1 : w37.cell? ⟨gb617, 1, none⟩ = some (.slice A2_1 l2_1.length c2_1) := kc BK617 rfl; have hfz42_0 := blk_frozen BK617.out 0; have hfz42_1 := blk_frozen BK617.out 1) | ((with_reducible refine gate_callee (f := 103) rfl ?_); refine goesL_ (some 32) rfl rfl Try.func103 (by kernel_rfl) rfl #[.agg #[.int .i64 ((rd_T53 l1 x26_2).f0), .slice A626_1 ((rd_T53 l1 x26_2).f1).length c626_1], .agg #[.int .i64 a2_0, .slice A2_1 l2_1.length c2_1]] rfl (by (try simp only [List.map_toArray, List.map_cons, List.map_nil]); first | done | rfl | (simp only [List.length_drop, List.length_take]; rfl)) ?_; (with_reducible refine (impl_equalFact.calls k2 ((rd_T53 l1 x26_2).f0) _ _ ((rd_T53 l1 x26_2).f1) a2_0 _ _ l2_1 false _ ?side1 ?side2 ?side3 ?side4 A26.out).mono ?_); (case side1 => exact Kd.C_below HR626_1.out ((by repeat (first | exact uB HB | refine below_set ?_ (Aside0.out (by assumption)))))); (case side2 => exact HC626_1.out); (case side3 => exact Kd.C_below HR2_1.out ((by repeat (first | exact uB HB | refine below_set ?_ (Aside0.out (by assumption)))))); (case side4 => exact HC2_1.out); rintro e w43 ⟨rfl, hb⟩; refine ⟨_, rfl, ?_⟩; replace HO_8 := Aside0.mk (Kd.S_below (by (with_reducible repeat (first | apply Kd.S_alloc | apply Kd.S_drewN | apply Kd.S_drew)); exact (Kd.S_mono (Kd.S_far (p := ⟨gb627, 1, none⟩) (Kd.S_far (p := ⟨gb627, 0, none⟩) (Kd.S_mono HO_8.out (fun k_ hk => (⟨hk, hk.2⟩ : _ ∧ k_ ≠ gb627))) (fun _ hk => hk.2) (.int .i64 ((rd_T53 l1 x26_2).f0))) (fun _ hk => hk.2) (.slice A626_1 ((rd_T53 l1 x26_2).f1).length c626_1)) (fun _ h_ => h_.1))) hb); replace BK616 := Aside0.mk (blk_below (g := gb616) (o := .cells #[.slice A0_0 l0_0.length c0_0] 50 (0, 0)) (by (with_reducible repeat (first | refine blk_drewN ?_ _ | refine blk_drew ?_ | refine blk_alloc ?_ _)); refine blk_far ?_ NB616_627.out _; (with_reducible repeat (first | refine blk_drewN ?_ _ | refine blk_drew ?_ | refine blk_alloc ?_ _)); refine blk_far ?_ NB616_627.out _; (with_reducible repeat (first | refine blk_drewN ?_ _ | refine blk_drew ?_ | refine blk_alloc ?_ _)); exact BK616.out) hb); replace BK617 := Aside0.mk (blk_below (g := gb617) (o := .cells #[.int .i64 a2_0, .slice A2_1 l2_1.length c2_1] 53 (0, 0)) (by (with_reducible repeat (first | refine blk_drewN ?_ _ | refine blk_drew ?_ | refine blk_alloc ?_ _)); refine blk_far ?_ NB617_627.out _; (with_reducible repeat (first | refine blk_drewN ?_ _ | refine blk_drew ?_ | refine blk_alloc ?_ _)); refine blk_far ?_ NB617_627.out _; (with_reducible repeat (first | refine blk_drewN ?_ _ | refine blk_drew ?_ | refine blk_alloc ?_ _)); exact BK617.out) hb); replace BK627 := Aside0.mk (blk_below (g := gb627) (o := .cells #[.int .i64 ((rd_T53 l1 x26_2).f0), .slice A626_1 ((rd_T53 l1 x26_2).f1).length c626_1] 53 (0, 0)) (by (with_reducible repeat (first | refine blk_drewN ?_ _ | refine blk_drew ?_ | refine blk_alloc ?_ _)); refine blk_put (cs := #[.int .i64 ((rd_T53 l1 x26_2).f0), .slice none 0 0]) ?_ 1 _ rfl; (with_reducible repeat (first | refine blk_drewN ?_ _ | refine blk_drew ?_ | refine blk_alloc ?_ _)); refine blk_put (cs := #[.int .i64 0, .slice none 0 0]) ?_ 0 _ rfl; (with_reducible repeat (first | refine blk_drewN ?_ _ | refine blk_drew ?_ | refine blk_alloc ?_ _)); exact BK627.out) hb); replace HB := Aside0.mk (below_step (by repeat (first | exact uB HB | refine below_set ?_ (Aside0.out (by assumption)))) hb); (try clear hb); (try clear hb2); (try clear hk); (try clear hi); have hcz44_0 : w43.cell? ⟨gb627, 0, none⟩ = some (.int .i64 ((rd_T53 l1 x26_2).f0)) := kc BK627 rfl; have hcz44_1 : w43.cell? ⟨gb627, 1, none⟩ = some (.slice A626_1 ((rd_T53 l1 x26_2).f1).length c626_1) := kc BK627 rfl; have hfz44_0 := blk_frozen BK627.out 0; have hfz44_1 := blk_frozen BK627.out 1) | ((with_reducible refine gate_callee (f := 104) rfl ?_); refine goesL_ (some 36) rfl rfl Try.func104 (by kernel_rfl) rfl #[.agg #[.int .i64 ((rd_T53 l1 x26_2).f0), .slice A626_1 ((rd_T53 l1 x26_2).f1).length c626_1]] rfl (by (try simp only [List.map_toArray, List.map_cons, List.map_nil]); first | done | rfl | (simp only [List.length_drop, List.length_take]; rfl)) ?_; (with_reducible refine (impl_copyFact.calls ((rd_T53 l1 x26_2).f0) _ _ ((rd_T53 l1 x26_2).f1) t629 t630 _ ?side1 ?side2 A35.out).mono ?_); (case side1 => exact uC HR626_1 HB); (case side2 => exact HC626_1.out); rintro e w45 ⟨v631, rfl, ho0, hb⟩; refine ⟨_, rfl, ?_⟩; replace HO_8 := Aside0.mk (Kd.S_elder' (by (with_reducible repeat (first | apply Kd.S_alloc | apply Kd.S_drewN | apply Kd.S_drew)); exact HO_8.out) (Kd.R_base ho0) hb); have HO632 := Aside0.mk (Kd.R_lower ho0 (below_size ((by repeat (first | exact uB HB | refine below_set ?_ (Aside0.out (by assumption))))))); replace BK616 := uK BK616 hb; replace BK617 := uK BK617 hb; replace BK627 := uK BK627 hb; replace HB := uS HB hb; (try clear hb); (try clear hb2); (try clear hk); (try clear hi); (try clear ho0); obtain ⟨Ao47, co47, eo47⟩ := Kd.R_slice HO632.out; subst eo47) | ((with_reducible refine gate_builtin (b := .append) (xs := #[.tmp 34, .tmp 37]) rfl ?_); at_builtin; refine Kd.S_append k53 (w0 := w) w.heap.size rfl (.tmp 34) (.tmp 37) 45 53 (.agg #[(.int .i64 0), (.slice none 0 0)]) 32 rfl Try.underlying45 info53 rfl (by decide) (by omega) u8 x8_2 (⟨t629, t630⟩ : S53) [.int .i64 t629, .slice Ao47 t630.length co47] (fun k_ => k_ ≠ gb617 ∧ k_ ≠ gb627) (fun k_ => some k_ = (.slice Ao47 t630.length co47 : Value).ownBlock) rfl rfl ?aP (fun k_ hk_ => ((Kd.R_mono (ok' := fun k_ => ((fun k_ => k_ ≠ gb617 ∧ k_ ≠ gb627)) k_ ∧ some k_ ≠ (u8 : Value).ownBlock) (Kd.R_types (Kd.R_types (Kd.R_apart' (HO632.out) (Kd.S_typed HO_8.out) (by decide)) BK617.out (by decide)) BK627.out (by decide)) (fun k_ hk => ⟨⟨hk.1.2, hk.2⟩, hk.1.1.2⟩))).1 k_ hk_.symm) ?aF ?aO ?aB ?aS ?aL ?_; (case aP => exact k53_mkM _ _ _ (⟨t629, t630⟩ : S53) (Kd.R_mono (Kd.R_tight rfl (Kd.R_mono (ok' := fun k_ => ((fun k_ => k_ ≠ gb617 ∧ k_ ≠ gb627)) k_ ∧ some k_ ≠ (u8 : Value).ownBlock) (Kd.R_types (Kd.R_types (Kd.R_apart' (HO632.out) (Kd.S_typed HO_8.out) (by decide)) BK617.out (by decide)) BK627.out (by decide)) (fun k_ hk => ⟨⟨hk.1.2, hk.2⟩, hk.1.1.2⟩))) (fun _ h_ => h_))); (case aB => exact ((by repeat (first | exact uB HB | refine below_set ?_ (Aside0.out (by assumption)))))); (case aF => exact (fun k_ hk => ⟨Kd.freshB (g := gb617) (o := .cells #[.int .i64 a2_0, .slice A2_1 l2_1.length c2_1] 53 (0, 0)) (uk BK617) k_ hk, Kd.freshB (g := gb627) (o := .cells #[.int .i64 ((rd_T53 l1 x26_2).f0), .slice A626_1 ((rd_T53 l1 x26_2).f1).length c626_1] 53 (0, 0)) (uk BK627) k_ hk⟩)); (case aO => exact (by (with_reducible repeat (first | apply Kd.S_alloc | apply Kd.S_drewN | apply Kd.S_drew)); exact Kd.S_mono HO_8.out (fun k_ hk => ⟨⟨hk.1.1, hk.1.2⟩, fun e_ => hk.2 e_⟩))); (case aS => exact (below_size ((by repeat (first | exact uB HB | refine below_set ?_ (Aside0.out (by assumption))))))); (case aL => have := LMc36.out; omega); intro v634 w46 ho hb hg hat; rw [← Ny633.out] at ho; replace BK616 := Aside0.mk (blk_grown (g := gb616) (o := .cells #[.slice A0_0 l0_0.length c0_0] 50 (0, 0)) (uk BK616) hg (Kd.S_ne HO_8.out BK616.out (by decide))); replace BK617 := Aside0.mk (blk_grown (g := gb617) (o := .cells #[.int .i64 a2_0, .slice A2_1 l2_1.length c2_1] 53 (0, 0)) (uk BK617) hg (Kd.S_away HO_8.out (fun _ hk => hk.1.1))); replace BK627 := Aside0.mk (blk_grown (g := gb627) (o := .cells #[.int .i64 ((rd_T53 l1 x26_2).f0), .slice A626_1 ((rd_T53 l1 x26_2).f1).length c626_1] 53 (0, 0)) (uk BK627) hg (Kd.S_away HO_8.out (fun _ hk => hk.1.2))); replace HB := Aside0.mk hb; have HO635 := Aside0.mk ho; clear HO_8 HO632; clear ho hb hg hat))
           go_roundg k2
           case measure => have := HJ3.out; have := HK2.out; omega
           case rel => exact ⟨(y633), (wrap64 (x26_2 + 1)), (by first | rfl | (simp; done) | (simp [*]; done)), H', ⟨by have := HJ3.out; have := HK2.out; omega⟩, ⟨by (with_reducible repeat (first | apply Kd.S_alloc | apply Kd.S_drewN | apply Kd.S_drew)); exact Kd.S_mono HO635.out (fun _ hk => hk.1)⟩, ⟨uk BK616⟩, ⟨uk BK617⟩, ⟨uB HB⟩⟩
          ·rw [if_neg c36] at H
           exact absurd H (by simp)
        ·rw [if_neg c25] at H
         exact absurd H (by simp)
       ·rw [if_neg c24] at H
        exact absurd H (by simp)
      ·rw [if_neg c23] at H
       have c23b0 : decide (x26_2 < (l1.length : Int)) = false := decide_eq_false c23
       clear c23
       simp only [Option.some.injEq, Prod.mk.injEq] at H
       obtain ⟨rfl, rfl⟩ := H
       go_wp2
       go_ret2
       exact ⟨_, by first | rfl | (simp [errW_none, errW_some] <;> rfl) | (simp [*, errW_none, errW_some] <;> rfl), by (with_reducible repeat (first | apply Kd.S_alloc | apply Kd.S_drewN | apply Kd.S_drew)); exact Kd.S_mono HO_8.out (fun _ hk => trivial), uB HB⟩

def impl_ApplyChange.j0 : Nat → Bool → List Int → List (S53) → Int → Bool → Int → List Int → Option ((List (S53)) × Int × Bool)
 | 0, _, _, _, _, _, _, _ => none
 | k + 1, x18, x650000, x651000, x651001, x652000, x652001, x652002 => if x18 = true then ((impl_copySource.f k x651000 x651001).bind fun bt654 => (some (bt654.1, bt654.2, false))) else ((impl_RemoveFact.f k x650000 x651000 x652001 x652002).bind fun bt658 => (if x652000 = true then ((impl_AddFact.f k x650000 x651000 x652001 x652002).bind fun bt662 => (if bt662.2 = true then (some (bt662.1, wrap64 (x651001 + 1), true)) else ((impl_copySource.f k x651000 x651001).bind fun bt666 => (some (bt666.1, bt666.2, false))))) else (if bt658.2 = true then (some (bt658.1, wrap64 (x651001 + 1), true)) else ((impl_copySource.f k x651000 x651001).bind fun bt670 => (some (bt670.1, bt670.2, false))))))
def impl_ApplyChange.f (k : Nat) (l0_0 : List Int) (l1_0 : List (S53)) (a1_1 : Int) (a2_0 : Bool) (a2_1 : Int) (l2_2 : List Int) : Option ((List (S53)) × Int × Bool) := (impl_IsSource.f k l0_0 l1_0 a1_1).bind fun t653 => (if t653 = true then (impl_ApplyChange.j0 k (a1_1 == 1000) l0_0 l1_0 a1_1 a2_0 a2_1 l2_2) else (impl_ApplyChange.j0 k true l0_0 l1_0 a1_1 a2_0 a2_1 l2_2))
set_option maxHeartbeats 8000000 in
set_option maxRecDepth 100000 in
theorem impl_ApplyChange.calls (k : Nat) (A0_0 : Option Addr) (c0_0 : Nat) (l0_0 : List Int) (A1_0 : Option Addr) (c1_0 : Nat) (l1_0 : List (S53)) (a1_1 : Int) (a2_0 : Bool) (a2_1 : Int) (A2_2 : Option Addr) (c2_2 : Nat) (l2_2 : List Int) (r1 : List (S53)) (r2 : Int) (r3 : Bool) (w : World) (hr0_0 : Kd.C (Kd.int .i64) w A0_0 l0_0.length l0_0) (hc0_0 : l0_0.length ≤ c0_0) (hr1_0 : Kd.C k53 w A1_0 l1_0.length l1_0) (hc1_0 : l1_0.length ≤ c1_0) (hr2_2 : Kd.C (Kd.int .i64) w A2_2 l2_2.length l2_2) (hc2_2 : l2_2.length ≤ c2_2) (h : impl_ApplyChange.f k l0_0 l1_0 a1_1 a2_0 a2_1 l2_2 = some (r1, r2, r3)) :
  Calls Try.prog 23 #[.agg #[.slice A0_0 l0_0.length c0_0], .agg #[.slice A1_0 l1_0.length c1_0, .int .i64 a1_1], .agg #[.bool a2_0, .int .i64 a2_1, .slice A2_2 l2_2.length c2_2]] w fun e w' => ∃ v0_ : Value, e = .returned (.tuple #[.agg #[v0_, .int .i64 r2], .bool r3]) ∧ Kd.S k53 53 w' w.heap.size (fun _ => True) v0_ r1 ∧ Below w.heap.size w w' := by
 have hu50 := Try.underlying50
 have hu47 := Try.underlying47
 have hu55 := Try.underlying55
 have hu53 := Try.underlying53
 have HR0_0 := Aside0.mk hr0_0
 have HC0_0 := Aside0.mk hc0_0
 clear hr0_0 hc0_0
 have HR1_0 := Aside0.mk hr1_0
 have HC1_0 := Aside0.mk hc1_0
 clear hr1_0 hc1_0
 have HR2_2 := Aside0.mk hr2_2
 have HC2_2 := Aside0.mk hc2_2
 clear hr2_2 hc2_2
 have HB := Aside0.mk (Below.refl w.heap.size w)
 have H : ((impl_IsSource.f k l0_0 l1_0 a1_1).bind fun t653 => (if t653 = true then (impl_ApplyChange.j0 k (a1_1 == 1000) l0_0 l1_0 a1_1 a2_0 a2_1 l2_2) else (impl_ApplyChange.j0 k true l0_0 l1_0 a1_1 a2_0 a2_1 l2_2))) = some (r1, r2, r3) := h
 clear h
 have HC4 := Aside0.mk H
 clear H
 go_enter Try.func23, Try.ntmps23
 go_upto_region 1 with (first | ((with_reducible refine gate_dst (N := 3) rfl ?_); refine box_event ?hg (N := 3) ?hd (cs := #[.slice A0_0 l0_0.length c0_0]) (t := 50) ?hr ?_; (case hd => rfl); (case hg => rfl); (case hr => first | (go_simp; done) | (go_simp; rfl)); intro gb649 hg w5 hbox hb; have BK649 := Aside0.mk hbox; have GW649 := uG HB hg; have GE649 := uG HB hg; replace HB := uS HB hb; clear hb hbox hg) | ((with_reducible refine gate_dst (N := 4) rfl ?_); refine box_event ?hg (N := 4) ?hd (cs := #[.slice A1_0 l1_0.length c1_0, .int .i64 a1_1]) (t := 47) ?hr ?_; (case hd => rfl); (case hg => rfl); (case hr => first | (go_simp; done) | (go_simp; rfl)); intro gb650 hg w6 hbox hb; have BK650 := Aside0.mk hbox; have GW650 := uG HB hg; have GE650 := uG HB hg; replace HB := uS HB hb; have NB649_650 := uN BK649 hg; have NB650_649 := uM BK649 hg; replace BK649 := uK BK649 hb; clear hb hbox hg) | ((with_reducible refine gate_dst (N := 5) rfl ?_); refine box_event ?hg (N := 5) ?hd (cs := #[.bool a2_0, .int .i64 a2_1, .slice A2_2 l2_2.length c2_2]) (t := 55) ?hr ?_; (case hd => rfl); (case hg => rfl); (case hr => first | (go_simp; done) | (go_simp; rfl)); intro gb651 hg w7 hbox hb; have BK651 := Aside0.mk hbox; have GW651 := uG HB hg; have GE651 := uG HB hg; replace HB := uS HB hb; have NB649_651 := uN BK649 hg; have NB651_649 := uM BK649 hg; replace BK649 := uK BK649 hb; have NB650_651 := uN BK650 hg; have NB651_650 := uM BK650 hg; replace BK650 := uK BK650 hb; clear hb hbox hg) | ((with_reducible refine gate_dst (N := 6) rfl ?_); refine box_event ?hg (N := 6) ?hd (cs := #[.slice none 0 0, .int .i64 0]) (t := 47) ?hr ?_; (case hd => rfl); (case hg => rfl); (case hr => first | (go_simp; done) | (go_simp; rfl)); intro gb652 hg w8 hbox hb; have BK652 := Aside0.mk hbox; have GW652 := uG HB hg; have GE652 := uG HB hg; replace HB := uS HB hb; have NB649_652 := uN BK649 hg; have NB652_649 := uM BK649 hg; replace BK649 := uK BK649 hb; have NB650_652 := uN BK650 hg; have NB652_650 := uM BK650 hg; replace BK650 := uK BK650 hb; have NB651_652 := uN BK651 hg; have NB652_651 := uM BK651 hg; replace BK651 := uK BK651 hb; clear hb hbox hg))
 (try simp only [Act.put, sA, sZ, sS])
 go_cut [18] (fun v18 wc => ∃ (kq : Nat) (x18_3 : Bool), v18 = .bool x18_3 ∧ Aside0 (impl_ApplyChange.j0 kq x18_3 l0_0 l1_0 a1_1 a2_0 a2_1 l2_2 = some (r1, r2, r3)) ∧ Aside0 (kq ≤ k) ∧ Aside0 (wc.heap[gb649]? = some (.cells #[(.slice A0_0 l0_0.length c0_0)] 50 (0, 0))) ∧ Aside0 (wc.heap[gb650]? = some (.cells #[(.slice A1_0 l1_0.length c1_0), .int .i64 a1_1] 47 (0, 0))) ∧ Aside0 (wc.heap[gb651]? = some (.cells #[.bool a2_0, .int .i64 a2_1, (.slice A2_2 l2_2.length c2_2)] 55 (0, 0))) ∧ Aside0 (wc.heap[gb652]? = some (.cells #[(.slice none 0 0), .int .i64 0] 47 (0, 0))) ∧ Aside0 (Below w.heap.size w wc))
 case first =>
  have H := HC4.out
  clear HC4
  replace H := Option.bind_eq_some_iff.mp H
  obtain ⟨t653, A90, H⟩ := H
  replace H : (if t653 = true then (impl_ApplyChange.j0 k (a1_1 == 1000) l0_0 l1_0 a1_1 a2_0 a2_1 l2_2) else (impl_ApplyChange.j0 k true l0_0 l1_0 a1_1 a2_0 a2_1 l2_2)) = some (r1, r2, r3) := H
  have A9 := Aside0.mk A90
  clear A90
  by_cases c10 : t653 = true
  ·subst c10
   have H1 : (impl_ApplyChange.j0 k (a1_1 == 1000) l0_0 l1_0 a1_1 a2_0 a2_1 l2_2) = some (r1, r2, r3) := by rw [if_pos rfl] at H; exact H
   clear H
   have H := H1
   clear H1
   have H' := Aside0.mk H
   clear H
   have hnb11 := NB649_650.out
   have hnc11 := NB650_649.out
   have hnb12 := NB649_651.out
   have hnc12 := NB651_649.out
   have hnb13 := NB649_652.out
   have hnc13 := NB652_649.out
   have hcz14_0 : w8.cell? ⟨gb649, 0, none⟩ = some (.slice A0_0 l0_0.length c0_0) := kc BK649 rfl
   have hfz14_0 := blk_frozen BK649.out 0
   have hnb15 := NB650_651.out
   have hnc15 := NB651_650.out
   have hnb16 := NB650_652.out
   have hnc16 := NB652_650.out
   have hcz17_0 : w8.cell? ⟨gb650, 0, none⟩ = some (.slice A1_0 l1_0.length c1_0) := kc BK650 rfl
   have hcz17_1 : w8.cell? ⟨gb650, 1, none⟩ = some (.int .i64 a1_1) := kc BK650 rfl
   have hfz17_0 := blk_frozen BK650.out 0
   have hfz17_1 := blk_frozen BK650.out 1
   go_wp2_with (first | ((with_reducible refine gate_callee (f := 66) rfl ?_); refine goesL_ (some 12) rfl rfl Try.func66 (by kernel_rfl) rfl #[.agg #[.slice A0_0 l0_0.length c0_0], .agg #[.slice A1_0 l1_0.length c1_0, .int .i64 a1_1]] rfl (by (try simp only [List.map_toArray, List.map_cons, List.map_nil]); first | done | rfl | (simp only [List.length_drop, List.length_take]; rfl)) ?_; (with_reducible refine (impl_IsSource.calls k _ _ l0_0 _ _ l1_0 a1_1 true _ ?side1 ?side2 ?side3 ?side4 A9.out).mono ?_); (case side1 => exact uC HR0_0 HB); (case side2 => exact HC0_0.out); (case side3 => exact uC HR1_0 HB); (case side4 => exact HC1_0.out); rintro e w18 ⟨rfl, hb⟩; refine ⟨_, rfl, ?_⟩; replace BK649 := uK BK649 hb; replace BK650 := uK BK650 hb; replace BK651 := uK BK651 hb; replace BK652 := uK BK652 hb; replace HB := uS HB hb; (try clear hb); (try clear hb2); (try clear hk); (try clear hi); have hcz19_0 : w18.cell? ⟨gb650, 0, none⟩ = some (.slice A1_0 l1_0.length c1_0) := kc BK650 rfl; have hcz19_1 : w18.cell? ⟨gb650, 1, none⟩ = some (.int .i64 a1_1) := kc BK650 rfl; have hfz19_0 := blk_frozen BK650.out 0; have hfz19_1 := blk_frozen BK650.out 1))
   go_meet
   case rel => exact ⟨_, ((a1_1 == 1000)), (by first | rfl | (simp; done) | (simp [*]; done)), H', ⟨by first | omega | exact Nat.le_refl _⟩, ⟨uk BK649⟩, ⟨uk BK650⟩, ⟨uk BK651⟩, ⟨uk BK652⟩, ⟨uB HB⟩⟩
  ·replace c10 := Bool.eq_false_iff.mpr c10
   subst c10
   have H1 : (impl_ApplyChange.j0 k true l0_0 l1_0 a1_1 a2_0 a2_1 l2_2) = some (r1, r2, r3) := by rw [if_neg (show ¬ (false = true) by decide)] at H; exact H
   clear H
   have H := H1
   clear H1
   have H' := Aside0.mk H
   clear H
   have hnb20 := NB649_650.out
   have hnc20 := NB650_649.out
   have hnb21 := NB649_651.out
   have hnc21 := NB651_649.out
   have hnb22 := NB649_652.out
   have hnc22 := NB652_649.out
   have hcz23_0 : w8.cell? ⟨gb649, 0, none⟩ = some (.slice A0_0 l0_0.length c0_0) := kc BK649 rfl
   have hfz23_0 := blk_frozen BK649.out 0
   have hnb24 := NB650_651.out
   have hnc24 := NB651_650.out
   have hnb25 := NB650_652.out
   have hnc25 := NB652_650.out
   have hcz26_0 : w8.cell? ⟨gb650, 0, none⟩ = some (.slice A1_0 l1_0.length c1_0) := kc BK650 rfl
   have hcz26_1 : w8.cell? ⟨gb650, 1, none⟩ = some (.int .i64 a1_1) := kc BK650 rfl
   have hfz26_0 := blk_frozen BK650.out 0
   have hfz26_1 := blk_frozen BK650.out 1
   go_wp2_with (first | ((with_reducible refine gate_callee (f := 66) rfl ?_); refine goesL_ (some 12) rfl rfl Try.func66 (by kernel_rfl) rfl #[.agg #[.slice A0_0 l0_0.length c0_0], .agg #[.slice A1_0 l1_0.length c1_0, .int .i64 a1_1]] rfl (by (try simp only [List.map_toArray, List.map_cons, List.map_nil]); first | done | rfl | (simp only [List.length_drop, List.length_take]; rfl)) ?_; (with_reducible refine (impl_IsSource.calls k _ _ l0_0 _ _ l1_0 a1_1 false _ ?side1 ?side2 ?side3 ?side4 A9.out).mono ?_); (case side1 => exact uC HR0_0 HB); (case side2 => exact HC0_0.out); (case side3 => exact uC HR1_0 HB); (case side4 => exact HC1_0.out); rintro e w27 ⟨rfl, hb⟩; refine ⟨_, rfl, ?_⟩; replace BK649 := uK BK649 hb; replace BK650 := uK BK650 hb; replace BK651 := uK BK651 hb; replace BK652 := uK BK652 hb; replace HB := uS HB hb; (try clear hb); (try clear hb2); (try clear hk); (try clear hi)))
   go_meet
   case rel => exact ⟨_, (true), (by first | rfl | (simp; done) | (simp [*]; done)), H', ⟨by first | omega | exact Nat.le_refl _⟩, ⟨uk BK649⟩, ⟨uk BK650⟩, ⟨uk BK651⟩, ⟨uk BK652⟩, ⟨uB HB⟩⟩
 case rest =>
  clear HC4
  try clear c1
  try clear c2
  try clear p2
  try clear c6
  try clear c10
  try clear c11
  try clear c12
  try clear c13
  try clear c15
  try clear c16
  try clear c20
  try clear c21
  try clear c22
  try clear c23
  try clear c24
  try clear c25
  try clear hcz14_0
  try clear hcz17_0
  try clear hcz17_1
  try clear hcz19_0
  try clear hcz19_1
  try clear hcz23_0
  try clear hcz26_0
  try clear hcz26_1
  try clear hfz14_0
  try clear hfz17_0
  try clear hfz17_1
  try clear hfz19_0
  try clear hfz19_1
  try clear hfz23_0
  try clear hfz26_0
  try clear hfz26_1
  obtain ⟨kq, x18_3, rfl, HA, HJ3, BK649, BK650, BK651, BK652, HB⟩ := hcut
  cases kq with
  | zero => exact absurd HA.out (by simp [impl_ApplyChange.j0])
  | succ kj3 =>
   have H := HA.out
   clear HA
   simp only [impl_ApplyChange.j0] at H
   by_cases c28 : x18_3 = true
   ·subst c28
    have H1 : ((impl_copySource.f kj3 l1_0 a1_1).bind fun bt654 => (some (bt654.1, bt654.2, false))) = some (r1, r2, r3) := by rw [if_pos rfl] at H; exact H
    clear H
    have H := H1
    clear H1
    replace H := Option.bind_eq_some_iff.mp H
    obtain ⟨⟨t654, t657⟩, A290, H⟩ := H
    replace H : (some (t654, t657, false)) = some (r1, r2, r3) := H
    have A29 := Aside0.mk A290
    clear A290
    simp only [Option.some.injEq, Prod.mk.injEq] at H
    obtain ⟨rfl, rfl, rfl⟩ := H
    have hnb30 := NB650_649.out
    have hnc30 := NB649_650.out
    have hnb31 := NB650_651.out
    have hnc31 := NB651_650.out
    have hnb32 := NB650_652.out
    have hnc32 := NB652_650.out
    have hcz33_0 : wc.cell? ⟨gb650, 0, none⟩ = some (.slice A1_0 l1_0.length c1_0) := kc BK650 rfl
    have hcz33_1 : wc.cell? ⟨gb650, 1, none⟩ = some (.int .i64 a1_1) := kc BK650 rfl
    have hfz33_0 := blk_frozen BK650.out 0
    have hfz33_1 := blk_frozen BK650.out 1
    go_wp2_with (first | ((with_reducible refine gate_callee (f := 67) rfl ?_); refine goesL_ (some 20) rfl rfl Try.func67 (by kernel_rfl) rfl #[.agg #[.slice A1_0 l1_0.length c1_0, .int .i64 a1_1]] rfl (by (try simp only [List.map_toArray, List.map_cons, List.map_nil]); first | done | rfl | (simp only [List.length_drop, List.length_take]; rfl)) ?_; (with_reducible refine (impl_copySource.calls kj3 _ _ l1_0 a1_1 t654 t657 _ ?side1 ?side2 A29.out).mono ?_); (case side1 => exact uC HR1_0 HB); (case side2 => exact HC1_0.out); rintro e w34 ⟨v655, rfl, ho0, hb⟩; refine ⟨_, rfl, ?_⟩; have HO656 := Aside0.mk (Kd.S_lower ho0 (below_size (uB HB))); replace BK649 := uK BK649 hb; replace BK650 := uK BK650 hb; replace BK651 := uK BK651 hb; replace BK652 := uK BK652 hb; replace HB := uS HB hb; (try clear hb); (try clear hb2); (try clear hk); (try clear hi); (try clear ho0); obtain ⟨Ao35, co35, eo35⟩ := Kd.S_slice HO656.out; subst eo35; have hnb36 := NB652_649.out; have hnc36 := NB649_652.out; have hnb37 := NB652_651.out; have hnc37 := NB651_652.out; have hcz38_0 : w34.cell? ⟨gb652, 0, none⟩ = some (.slice none 0 0) := kc BK652 rfl; have hcz38_1 : w34.cell? ⟨gb652, 1, none⟩ = some (.int .i64 0) := kc BK652 rfl; have hfz38_0 := blk_frozen BK652.out 0; have hfz38_1 := blk_frozen BK652.out 1))
    refine bodyPost_ret (results_ct rfl _ _ gb652 47 #[.slice Ao35 t654.length co35, .int .i64 t657] (0, 0) _ rfl (by (with_reducible repeat (first | refine blk_drewN ?_ _ | refine blk_drew ?_ | refine blk_alloc ?_ _)); refine blk_put (cs := #[.slice Ao35 t654.length co35, .int .i64 0]) ?_ 1 _ rfl; (with_reducible repeat (first | refine blk_drewN ?_ _ | refine blk_drew ?_ | refine blk_alloc ?_ _)); refine blk_put (cs := #[.slice none 0 0, .int .i64 0]) ?_ 0 _ rfl; (with_reducible repeat (first | refine blk_drewN ?_ _ | refine blk_drew ?_ | refine blk_alloc ?_ _)); exact BK652.out) Try.underlying47 rfl (by kernel_rfl)) rfl ?_
    exact ⟨_, by first | rfl | (simp [errW_none, errW_some] <;> rfl) | (simp [*, errW_none, errW_some] <;> rfl), by (with_reducible repeat (first | apply Kd.S_alloc | apply Kd.S_drewN | apply Kd.S_drew)); exact Kd.S_mono (Kd.S_far (p := ⟨gb652, 1, none⟩) (Kd.S_far (p := ⟨gb652, 0, none⟩) (Kd.S_types HO656.out BK652.out (by decide)) (fun _ hk => hk.2) (.slice Ao35 t654.length co35)) (fun _ hk => hk.2) (.int .i64 t657)) (fun _ hk => trivial), (by repeat (first | exact uB HB | refine below_set ?_ (Aside0.out (by assumption))))⟩
   ·replace c28 := Bool.eq_false_iff.mpr c28
    subst c28
    have H1 : ((impl_RemoveFact.f kj3 l0_0 l1_0 a2_1 l2_2).bind fun bt658 => (if a2_0 = true then ((impl_AddFact.f kj3 l0_0 l1_0 a2_1 l2_2).bind fun bt662 => (if bt662.2 = true then (some (bt662.1, wrap64 (a1_1 + 1), true)) else ((impl_copySource.f kj3 l1_0 a1_1).bind fun bt666 => (some (bt666.1, bt666.2, false))))) else (if bt658.2 = true then (some (bt658.1, wrap64 (a1_1 + 1), true)) else ((impl_copySource.f kj3 l1_0 a1_1).bind fun bt670 => (some (bt670.1, bt670.2, false)))))) = some (r1, r2, r3) := by rw [if_neg (show ¬ (false = true) by decide)] at H; exact H
    clear H
    have H := H1
    clear H1
    replace H := Option.bind_eq_some_iff.mp H
    obtain ⟨⟨t658, t661⟩, A390, H⟩ := H
    replace H : (if a2_0 = true then ((impl_AddFact.f kj3 l0_0 l1_0 a2_1 l2_2).bind fun bt662 => (if bt662.2 = true then (some (bt662.1, wrap64 (a1_1 + 1), true)) else ((impl_copySource.f kj3 l1_0 a1_1).bind fun bt666 => (some (bt666.1, bt666.2, false))))) else (if t661 = true then (some (t658, wrap64 (a1_1 + 1), true)) else ((impl_copySource.f kj3 l1_0 a1_1).bind fun bt670 => (some (bt670.1, bt670.2, false))))) = some (r1, r2, r3) := H
    have A39 := Aside0.mk A390
    clear A390
    by_cases c40 : a2_0 = true
    ·subst c40
     have H1 : ((impl_AddFact.f kj3 l0_0 l1_0 a2_1 l2_2).bind fun bt662 => (if bt662.2 = true then (some (bt662.1, wrap64 (a1_1 + 1), true)) else ((impl_copySource.f kj3 l1_0 a1_1).bind fun bt666 => (some (bt666.1, bt666.2, false))))) = some (r1, r2, r3) := by rw [if_pos rfl] at H; exact H
     clear H
     have H := H1
     clear H1
     replace H := Option.bind_eq_some_iff.mp H
     obtain ⟨⟨t662, t665⟩, A410, H⟩ := H
     replace H : (if t665 = true then (some (t662, wrap64 (a1_1 + 1), true)) else ((impl_copySource.f kj3 l1_0 a1_1).bind fun bt666 => (some (bt666.1, bt666.2, false)))) = some (r1, r2, r3) := H
     have A41 := Aside0.mk A410
     clear A410
     by_cases c42 : t665 = true
     ·subst c42
      have H1 : (some (t662, wrap64 (a1_1 + 1), true)) = some (r1, r2, r3) := by rw [if_pos rfl] at H; exact H
      clear H
      have H := H1
      clear H1
      simp only [Option.some.injEq, Prod.mk.injEq] at H
      obtain ⟨rfl, rfl, rfl⟩ := H
      have hnb43 := NB649_650.out
      have hnc43 := NB650_649.out
      have hnb44 := NB649_651.out
      have hnc44 := NB651_649.out
      have hnb45 := NB649_652.out
      have hnc45 := NB652_649.out
      have hcz46_0 : wc.cell? ⟨gb649, 0, none⟩ = some (.slice A0_0 l0_0.length c0_0) := kc BK649 rfl
      have hfz46_0 := blk_frozen BK649.out 0
      have hnb47 := NB650_651.out
      have hnc47 := NB651_650.out
      have hnb48 := NB650_652.out
      have hnc48 := NB652_650.out
      have hcz49_0 : wc.cell? ⟨gb650, 0, none⟩ = some (.slice A1_0 l1_0.length c1_0) := kc BK650 rfl
      have hcz49_1 : wc.cell? ⟨gb650, 1, none⟩ = some (.int .i64 a1_1) := kc BK650 rfl
      have hfz49_0 := blk_frozen BK650.out 0
      have hfz49_1 := blk_frozen BK650.out 1
      have hnb50 := NB651_652.out
      have hnc50 := NB652_651.out
      have hcz51_0 : wc.cell? ⟨gb651, 0, none⟩ = some (.bool true) := kc BK651 rfl
      have hcz51_1 : wc.cell? ⟨gb651, 1, none⟩ = some (.int .i64 a2_1) := kc BK651 rfl
      have hcz51_2 : wc.cell? ⟨gb651, 2, none⟩ = some (.slice A2_2 l2_2.length c2_2) := kc BK651 rfl
      have hfz51_0 := blk_frozen BK651.out 0
      have hfz51_1 := blk_frozen BK651.out 1
      have hfz51_2 := blk_frozen BK651.out 2
      go_wp2_with (first | ((with_reducible refine gate_callee (f := 68) rfl ?_); refine goesL_ (some 27) rfl rfl Try.func68 (by kernel_rfl) rfl #[.agg #[.slice A0_0 l0_0.length c0_0], .slice A1_0 l1_0.length c1_0, .agg #[.int .i64 a2_1, .slice A2_2 l2_2.length c2_2]] rfl (by (try simp only [List.map_toArray, List.map_cons, List.map_nil]); first | done | rfl | (simp only [List.length_drop, List.length_take]; rfl)) ?_; (with_reducible refine (impl_RemoveFact.calls kj3 _ _ l0_0 _ _ l1_0 a2_1 _ _ l2_2 t658 t661 _ ?side1 ?side2 ?side3 ?side4 ?side5 ?side6 A39.out).mono ?_); (case side1 => exact uC HR0_0 HB); (case side2 => exact HC0_0.out); (case side3 => exact uC HR1_0 HB); (case side4 => exact HC1_0.out); (case side5 => exact uC HR2_2 HB); (case side6 => exact HC2_2.out); rintro e w52 ⟨v659, rfl, ho0, hb⟩; refine ⟨_, rfl, ?_⟩; have HO660 := Aside0.mk (Kd.S_lower ho0 (below_size (uB HB))); replace BK649 := uK BK649 hb; replace BK650 := uK BK650 hb; replace BK651 := uK BK651 hb; replace BK652 := uK BK652 hb; replace HB := uS HB hb; (try clear hb); (try clear hb2); (try clear hk); (try clear hi); (try clear ho0); have hcz53_0 : w52.cell? ⟨gb651, 0, none⟩ = some (.bool true) := kc BK651 rfl; have hcz53_1 : w52.cell? ⟨gb651, 1, none⟩ = some (.int .i64 a2_1) := kc BK651 rfl; have hcz53_2 : w52.cell? ⟨gb651, 2, none⟩ = some (.slice A2_2 l2_2.length c2_2) := kc BK651 rfl; have hfz53_0 := blk_frozen BK651.out 0; have hfz53_1 := blk_frozen BK651.out 1; have hfz53_2 := blk_frozen BK651.out 2; have hcz54_0 : w52.cell? ⟨gb649, 0, none⟩ = some (.slice A0_0 l0_0.length c0_0) := kc BK649 rfl; have hfz54_0 := blk_frozen BK649.out 0; have hcz55_0 : w52.cell? ⟨gb650, 0, none⟩ = some (.slice A1_0 l1_0.length c1_0) := kc BK650 rfl; have hcz55_1 : w52.cell? ⟨gb650, 1, none⟩ = some (.int .i64 a1_1) := kc BK650 rfl; have hfz55_0 := blk_frozen BK650.out 0; have hfz55_1 := blk_frozen BK650.out 1) | ((with_reducible refine gate_callee (f := 69) rfl ?_); refine goesL_ (some 38) rfl rfl Try.func69 (by kernel_rfl) rfl #[.agg #[.slice A0_0 l0_0.length c0_0], .slice A1_0 l1_0.length c1_0, .agg #[.int .i64 a2_1, .slice A2_2 l2_2.length c2_2]] rfl (by (try simp only [List.map_toArray, List.map_cons, List.map_nil]); first | done | rfl | (simp only [List.length_drop, List.length_take]; rfl)) ?_; (with_reducible refine (impl_AddFact.calls kj3 _ _ l0_0 _ _ l1_0 a2_1 _ _ l2_2 t662 true _ ?side1 ?side2 ?side3 ?side4 ?side5 ?side6 A41.out).mono ?_); (case side1 => exact uC HR0_0 HB); (case side2 => exact HC0_0.out); (case side3 => exact uC HR1_0 HB); (case side4 => exact HC1_0.out); (case side5 => exact uC HR2_2 HB); (case side6 => exact HC2_2.out); rintro e w56 ⟨v663, rfl, ho0, hb⟩; refine ⟨_, rfl, ?_⟩; have HO664 := Aside0.mk (Kd.S_lower (Kd.S_new' ho0 (Kd.S_lt (by (with_reducible repeat (first | apply Kd.S_alloc | apply Kd.S_drewN | apply Kd.S_drew)); exact HO660.out))) (below_size (uB HB))); replace HO660 := Aside0.mk (Kd.S_elder' (by (with_reducible repeat (first | apply Kd.S_alloc | apply Kd.S_drewN | apply Kd.S_drew)); exact HO660.out) (Kd.S_base ho0) hb); replace BK649 := uK BK649 hb; replace BK650 := uK BK650 hb; replace BK651 := uK BK651 hb; replace BK652 := uK BK652 hb; replace HB := uS HB hb; (try clear hb); (try clear hb2); (try clear hk); (try clear hi); (try clear ho0); have hcz57_0 : w56.cell? ⟨gb650, 0, none⟩ = some (.slice A1_0 l1_0.length c1_0) := kc BK650 rfl; have hcz57_1 : w56.cell? ⟨gb650, 1, none⟩ = some (.int .i64 a1_1) := kc BK650 rfl; have hfz57_0 := blk_frozen BK650.out 0; have hfz57_1 := blk_frozen BK650.out 1; obtain ⟨Ao58, co58, eo58⟩ := Kd.S_slice HO664.out; subst eo58; have hcz59_0 : w56.cell? ⟨gb652, 0, none⟩ = some (.slice none 0 0) := kc BK652 rfl; have hcz59_1 : w56.cell? ⟨gb652, 1, none⟩ = some (.int .i64 0) := kc BK652 rfl; have hfz59_0 := blk_frozen BK652.out 0; have hfz59_1 := blk_frozen BK652.out 1))
      refine bodyPost_ret (results_ct rfl _ _ gb652 47 #[.slice Ao58 t662.length co58, .int .i64 (wrap64 (a1_1 + 1))] (0, 0) _ rfl (by (with_reducible repeat (first | refine blk_drewN ?_ _ | refine blk_drew ?_ | refine blk_alloc ?_ _)); refine blk_put (cs := #[.slice Ao58 t662.length co58, .int .i64 0]) ?_ 1 _ rfl; (with_reducible repeat (first | refine blk_drewN ?_ _ | refine blk_drew ?_ | refine blk_alloc ?_ _)); refine blk_put (cs := #[.slice none 0 0, .int .i64 0]) ?_ 0 _ rfl; (with_reducible repeat (first | refine blk_drewN ?_ _ | refine blk_drew ?_ | refine blk_alloc ?_ _)); exact BK652.out) Try.underlying47 rfl (by kernel_rfl)) rfl ?_
      exact ⟨_, by first | rfl | (simp [errW_none, errW_some] <;> rfl) | (simp [*, errW_none, errW_some] <;> rfl), by (with_reducible repeat (first | apply Kd.S_alloc | apply Kd.S_drewN | apply Kd.S_drew)); exact Kd.S_mono (Kd.S_far (p := ⟨gb652, 1, none⟩) (Kd.S_far (p := ⟨gb652, 0, none⟩) (Kd.S_types HO664.out BK652.out (by decide)) (fun _ hk => hk.2) (.slice Ao58 t662.length co58)) (fun _ hk => hk.2) (.int .i64 (wrap64 (a1_1 + 1)))) (fun _ hk => trivial), (by repeat (first | exact uB HB | refine below_set ?_ (Aside0.out (by assumption))))⟩
     ·replace c42 := Bool.eq_false_iff.mpr c42
      subst c42
      have H1 : ((impl_copySource.f kj3 l1_0 a1_1).bind fun bt666 => (some (bt666.1, bt666.2, false))) = some (r1, r2, r3) := by rw [if_neg (show ¬ (false = true) by decide)] at H; exact H
      clear H
      have H := H1
      clear H1
      replace H := Option.bind_eq_some_iff.mp H
      obtain ⟨⟨t666, t669⟩, A600, H⟩ := H
      replace H : (some (t666, t669, false)) = some (r1, r2, r3) := H
      have A60 := Aside0.mk A600
      clear A600
      simp only [Option.some.injEq, Prod.mk.injEq] at H
      obtain ⟨rfl, rfl, rfl⟩ := H
      have hnb61 := NB649_650.out
      have hnc61 := NB650_649.out
      have hnb62 := NB649_651.out
      have hnc62 := NB651_649.out
      have hnb63 := NB649_652.out
      have hnc63 := NB652_649.out
      have hcz64_0 : wc.cell? ⟨gb649, 0, none⟩ = some (.slice A0_0 l0_0.length c0_0) := kc BK649 rfl
      have hfz64_0 := blk_frozen BK649.out 0
      have hnb65 := NB650_651.out
      have hnc65 := NB651_650.out
      have hnb66 := NB650_652.out
      have hnc66 := NB652_650.out
      have hcz67_0 : wc.cell? ⟨gb650, 0, none⟩ = some (.slice A1_0 l1_0.length c1_0) := kc BK650 rfl
      have hcz67_1 : wc.cell? ⟨gb650, 1, none⟩ = some (.int .i64 a1_1) := kc BK650 rfl
      have hfz67_0 := blk_frozen BK650.out 0
      have hfz67_1 := blk_frozen BK650.out 1
      have hnb68 := NB651_652.out
      have hnc68 := NB652_651.out
      have hcz69_0 : wc.cell? ⟨gb651, 0, none⟩ = some (.bool true) := kc BK651 rfl
      have hcz69_1 : wc.cell? ⟨gb651, 1, none⟩ = some (.int .i64 a2_1) := kc BK651 rfl
      have hcz69_2 : wc.cell? ⟨gb651, 2, none⟩ = some (.slice A2_2 l2_2.length c2_2) := kc BK651 rfl
      have hfz69_0 := blk_frozen BK651.out 0
      have hfz69_1 := blk_frozen BK651.out 1
      have hfz69_2 := blk_frozen BK651.out 2
      go_wp2_with (first | ((with_reducible refine gate_callee (f := 68) rfl ?_); refine goesL_ (some 27) rfl rfl Try.func68 (by kernel_rfl) rfl #[.agg #[.slice A0_0 l0_0.length c0_0], .slice A1_0 l1_0.length c1_0, .agg #[.int .i64 a2_1, .slice A2_2 l2_2.length c2_2]] rfl (by (try simp only [List.map_toArray, List.map_cons, List.map_nil]); first | done | rfl | (simp only [List.length_drop, List.length_take]; rfl)) ?_; (with_reducible refine (impl_RemoveFact.calls kj3 _ _ l0_0 _ _ l1_0 a2_1 _ _ l2_2 t658 t661 _ ?side1 ?side2 ?side3 ?side4 ?side5 ?side6 A39.out).mono ?_); (case side1 => exact uC HR0_0 HB); (case side2 => exact HC0_0.out); (case side3 => exact uC HR1_0 HB); (case side4 => exact HC1_0.out); (case side5 => exact uC HR2_2 HB); (case side6 => exact HC2_2.out); rintro e w70 ⟨v659, rfl, ho0, hb⟩; refine ⟨_, rfl, ?_⟩; have HO660 := Aside0.mk (Kd.S_lower ho0 (below_size (uB HB))); replace BK649 := uK BK649 hb; replace BK650 := uK BK650 hb; replace BK651 := uK BK651 hb; replace BK652 := uK BK652 hb; replace HB := uS HB hb; (try clear hb); (try clear hb2); (try clear hk); (try clear hi); (try clear ho0); have hcz71_0 : w70.cell? ⟨gb651, 0, none⟩ = some (.bool true) := kc BK651 rfl; have hcz71_1 : w70.cell? ⟨gb651, 1, none⟩ = some (.int .i64 a2_1) := kc BK651 rfl; have hcz71_2 : w70.cell? ⟨gb651, 2, none⟩ = some (.slice A2_2 l2_2.length c2_2) := kc BK651 rfl; have hfz71_0 := blk_frozen BK651.out 0; have hfz71_1 := blk_frozen BK651.out 1; have hfz71_2 := blk_frozen BK651.out 2; have hcz72_0 : w70.cell? ⟨gb649, 0, none⟩ = some (.slice A0_0 l0_0.length c0_0) := kc BK649 rfl; have hfz72_0 := blk_frozen BK649.out 0; have hcz73_0 : w70.cell? ⟨gb650, 0, none⟩ = some (.slice A1_0 l1_0.length c1_0) := kc BK650 rfl; have hcz73_1 : w70.cell? ⟨gb650, 1, none⟩ = some (.int .i64 a1_1) := kc BK650 rfl; have hfz73_0 := blk_frozen BK650.out 0; have hfz73_1 := blk_frozen BK650.out 1) | ((with_reducible refine gate_callee (f := 69) rfl ?_); refine goesL_ (some 38) rfl rfl Try.func69 (by kernel_rfl) rfl #[.agg #[.slice A0_0 l0_0.length c0_0], .slice A1_0 l1_0.length c1_0, .agg #[.int .i64 a2_1, .slice A2_2 l2_2.length c2_2]] rfl (by (try simp only [List.map_toArray, List.map_cons, List.map_nil]); first | done | rfl | (simp only [List.length_drop, List.length_take]; rfl)) ?_; (with_reducible refine (impl_AddFact.calls kj3 _ _ l0_0 _ _ l1_0 a2_1 _ _ l2_2 t662 false _ ?side1 ?side2 ?side3 ?side4 ?side5 ?side6 A41.out).mono ?_); (case side1 => exact uC HR0_0 HB); (case side2 => exact HC0_0.out); (case side3 => exact uC HR1_0 HB); (case side4 => exact HC1_0.out); (case side5 => exact uC HR2_2 HB); (case side6 => exact HC2_2.out); rintro e w74 ⟨v663, rfl, ho0, hb⟩; refine ⟨_, rfl, ?_⟩; have HO664 := Aside0.mk (Kd.S_lower (Kd.S_new' ho0 (Kd.S_lt (by (with_reducible repeat (first | apply Kd.S_alloc | apply Kd.S_drewN | apply Kd.S_drew)); exact HO660.out))) (below_size (uB HB))); replace HO660 := Aside0.mk (Kd.S_elder' (by (with_reducible repeat (first | apply Kd.S_alloc | apply Kd.S_drewN | apply Kd.S_drew)); exact HO660.out) (Kd.S_base ho0) hb); replace BK649 := uK BK649 hb; replace BK650 := uK BK650 hb; replace BK651 := uK BK651 hb; replace BK652 := uK BK652 hb; replace HB := uS HB hb; (try clear hb); (try clear hb2); (try clear hk); (try clear hi); (try clear ho0); have hcz75_0 : w74.cell? ⟨gb650, 0, none⟩ = some (.slice A1_0 l1_0.length c1_0) := kc BK650 rfl; have hcz75_1 : w74.cell? ⟨gb650, 1, none⟩ = some (.int .i64 a1_1) := kc BK650 rfl; have hfz75_0 := blk_frozen BK650.out 0; have hfz75_1 := blk_frozen BK650.out 1) | ((with_reducible refine gate_callee (f := 67) rfl ?_); refine goesL_ (some 44) rfl rfl Try.func67 (by kernel_rfl) rfl #[.agg #[.slice A1_0 l1_0.length c1_0, .int .i64 a1_1]] rfl (by (try simp only [List.map_toArray, List.map_cons, List.map_nil]); first | done | rfl | (simp only [List.length_drop, List.length_take]; rfl)) ?_; (with_reducible refine (impl_copySource.calls kj3 _ _ l1_0 a1_1 t666 t669 _ ?side1 ?side2 A60.out).mono ?_); (case side1 => exact uC HR1_0 HB); (case side2 => exact HC1_0.out); rintro e w76 ⟨v667, rfl, ho0, hb⟩; refine ⟨_, rfl, ?_⟩; have HO668 := Aside0.mk (Kd.S_lower (Kd.S_new' (Kd.S_new' ho0 (Kd.S_lt (by (with_reducible repeat (first | apply Kd.S_alloc | apply Kd.S_drewN | apply Kd.S_drew)); exact HO660.out))) (Kd.S_lt (by (with_reducible repeat (first | apply Kd.S_alloc | apply Kd.S_drewN | apply Kd.S_drew)); exact HO664.out))) (below_size (uB HB))); replace HO660 := Aside0.mk (Kd.S_elder' (by (with_reducible repeat (first | apply Kd.S_alloc | apply Kd.S_drewN | apply Kd.S_drew)); exact HO660.out) (Kd.S_base ho0) hb); replace HO664 := Aside0.mk (Kd.S_elder' (by (with_reducible repeat (first | apply Kd.S_alloc | apply Kd.S_drewN | apply Kd.S_drew)); exact HO664.out) (Kd.S_base ho0) hb); replace BK649 := uK BK649 hb; replace BK650 := uK BK650 hb; replace BK651 := uK BK651 hb; replace BK652 := uK BK652 hb; replace HB := uS HB hb; (try clear hb); (try clear hb2); (try clear hk); (try clear hi); (try clear ho0); obtain ⟨Ao77, co77, eo77⟩ := Kd.S_slice HO668.out; subst eo77; have hcz78_0 : w76.cell? ⟨gb652, 0, none⟩ = some (.slice none 0 0) := kc BK652 rfl; have hcz78_1 : w76.cell? ⟨gb652, 1, none⟩ = some (.int .i64 0) := kc BK652 rfl; have hfz78_0 := blk_frozen BK652.out 0; have hfz78_1 := blk_frozen BK652.out 1))
      refine bodyPost_ret (results_ct rfl _ _ gb652 47 #[.slice Ao77 t666.length co77, .int .i64 t669] (0, 0) _ rfl (by (with_reducible repeat (first | refine blk_drewN ?_ _ | refine blk_drew ?_ | refine blk_alloc ?_ _)); refine blk_put (cs := #[.slice Ao77 t666.length co77, .int .i64 0]) ?_ 1 _ rfl; (with_reducible repeat (first | refine blk_drewN ?_ _ | refine blk_drew ?_ | refine blk_alloc ?_ _)); refine blk_put (cs := #[.slice none 0 0, .int .i64 0]) ?_ 0 _ rfl; (with_reducible repeat (first | refine blk_drewN ?_ _ | refine blk_drew ?_ | refine blk_alloc ?_ _)); exact BK652.out) Try.underlying47 rfl (by kernel_rfl)) rfl ?_
      exact ⟨_, by first | rfl | (simp [errW_none, errW_some] <;> rfl) | (simp [*, errW_none, errW_some] <;> rfl), by (with_reducible repeat (first | apply Kd.S_alloc | apply Kd.S_drewN | apply Kd.S_drew)); exact Kd.S_mono (Kd.S_far (p := ⟨gb652, 1, none⟩) (Kd.S_far (p := ⟨gb652, 0, none⟩) (Kd.S_types HO668.out BK652.out (by decide)) (fun _ hk => hk.2) (.slice Ao77 t666.length co77)) (fun _ hk => hk.2) (.int .i64 t669)) (fun _ hk => trivial), (by repeat (first | exact uB HB | refine below_set ?_ (Aside0.out (by assumption))))⟩
    ·replace c40 := Bool.eq_false_iff.mpr c40
     subst c40
     have H1 : (if t661 = true then (some (t658, wrap64 (a1_1 + 1), true)) else ((impl_copySource.f kj3 l1_0 a1_1).bind fun bt670 => (some (bt670.1, bt670.2, false)))) = some (r1, r2, r3) := by rw [if_neg (show ¬ (false = true) by decide)] at H; exact H
     clear H
     have H := H1
     clear H1
     by_cases c79 : t661 = true
     ·subst c79
      have H1 : (some (t658, wrap64 (a1_1 + 1), true)) = some (r1, r2, r3) := by rw [if_pos rfl] at H; exact H
      clear H
      have H := H1
      clear H1
      simp only [Option.some.injEq, Prod.mk.injEq] at H
      obtain ⟨rfl, rfl, rfl⟩ := H
      have hnb80 := NB649_650.out
      have hnc80 := NB650_649.out
      have hnb81 := NB649_651.out
      have hnc81 := NB651_649.out
      have hnb82 := NB649_652.out
      have hnc82 := NB652_649.out
      have hcz83_0 : wc.cell? ⟨gb649, 0, none⟩ = some (.slice A0_0 l0_0.length c0_0) := kc BK649 rfl
      have hfz83_0 := blk_frozen BK649.out 0
      have hnb84 := NB650_651.out
      have hnc84 := NB651_650.out
      have hnb85 := NB650_652.out
      have hnc85 := NB652_650.out
      have hcz86_0 : wc.cell? ⟨gb650, 0, none⟩ = some (.slice A1_0 l1_0.length c1_0) := kc BK650 rfl
      have hcz86_1 : wc.cell? ⟨gb650, 1, none⟩ = some (.int .i64 a1_1) := kc BK650 rfl
      have hfz86_0 := blk_frozen BK650.out 0
      have hfz86_1 := blk_frozen BK650.out 1
      have hnb87 := NB651_652.out
      have hnc87 := NB652_651.out
      have hcz88_0 : wc.cell? ⟨gb651, 0, none⟩ = some (.bool false) := kc BK651 rfl
      have hcz88_1 : wc.cell? ⟨gb651, 1, none⟩ = some (.int .i64 a2_1) := kc BK651 rfl
      have hcz88_2 : wc.cell? ⟨gb651, 2, none⟩ = some (.slice A2_2 l2_2.length c2_2) := kc BK651 rfl
      have hfz88_0 := blk_frozen BK651.out 0
      have hfz88_1 := blk_frozen BK651.out 1
      have hfz88_2 := blk_frozen BK651.out 2
      go_wp2_with (first | ((with_reducible refine gate_callee (f := 68) rfl ?_); refine goesL_ (some 27) rfl rfl Try.func68 (by kernel_rfl) rfl #[.agg #[.slice A0_0 l0_0.length c0_0], .slice A1_0 l1_0.length c1_0, .agg #[.int .i64 a2_1, .slice A2_2 l2_2.length c2_2]] rfl (by (try simp only [List.map_toArray, List.map_cons, List.map_nil]); first | done | rfl | (simp only [List.length_drop, List.length_take]; rfl)) ?_; (with_reducible refine (impl_RemoveFact.calls kj3 _ _ l0_0 _ _ l1_0 a2_1 _ _ l2_2 t658 true _ ?side1 ?side2 ?side3 ?side4 ?side5 ?side6 A39.out).mono ?_); (case side1 => exact uC HR0_0 HB); (case side2 => exact HC0_0.out); (case side3 => exact uC HR1_0 HB); (case side4 => exact HC1_0.out); (case side5 => exact uC HR2_2 HB); (case side6 => exact HC2_2.out); rintro e w89 ⟨v659, rfl, ho0, hb⟩; refine ⟨_, rfl, ?_⟩; have HO660 := Aside0.mk (Kd.S_lower ho0 (below_size (uB HB))); replace BK649 := uK BK649 hb; replace BK650 := uK BK650 hb; replace BK651 := uK BK651 hb; replace BK652 := uK BK652 hb; replace HB := uS HB hb; (try clear hb); (try clear hb2); (try clear hk); (try clear hi); (try clear ho0); have hcz90_0 : w89.cell? ⟨gb651, 0, none⟩ = some (.bool false) := kc BK651 rfl; have hcz90_1 : w89.cell? ⟨gb651, 1, none⟩ = some (.int .i64 a2_1) := kc BK651 rfl; have hcz90_2 : w89.cell? ⟨gb651, 2, none⟩ = some (.slice A2_2 l2_2.length c2_2) := kc BK651 rfl; have hfz90_0 := blk_frozen BK651.out 0; have hfz90_1 := blk_frozen BK651.out 1; have hfz90_2 := blk_frozen BK651.out 2; have hcz91_0 : w89.cell? ⟨gb650, 0, none⟩ = some (.slice A1_0 l1_0.length c1_0) := kc BK650 rfl; have hcz91_1 : w89.cell? ⟨gb650, 1, none⟩ = some (.int .i64 a1_1) := kc BK650 rfl; have hfz91_0 := blk_frozen BK650.out 0; have hfz91_1 := blk_frozen BK650.out 1; obtain ⟨Ao92, co92, eo92⟩ := Kd.S_slice HO660.out; subst eo92; have hcz93_0 : w89.cell? ⟨gb652, 0, none⟩ = some (.slice none 0 0) := kc BK652 rfl; have hcz93_1 : w89.cell? ⟨gb652, 1, none⟩ = some (.int .i64 0) := kc BK652 rfl; have hfz93_0 := blk_frozen BK652.out 0; have hfz93_1 := blk_frozen BK652.out 1))
      refine bodyPost_ret (results_ct rfl _ _ gb652 47 #[.slice Ao92 t658.length co92, .int .i64 (wrap64 (a1_1 + 1))] (0, 0) _ rfl (by (with_reducible repeat (first | refine blk_drewN ?_ _ | refine blk_drew ?_ | refine blk_alloc ?_ _)); refine blk_put (cs := #[.slice Ao92 t658.length co92, .int .i64 0]) ?_ 1 _ rfl; (with_reducible repeat (first | refine blk_drewN ?_ _ | refine blk_drew ?_ | refine blk_alloc ?_ _)); refine blk_put (cs := #[.slice none 0 0, .int .i64 0]) ?_ 0 _ rfl; (with_reducible repeat (first | refine blk_drewN ?_ _ | refine blk_drew ?_ | refine blk_alloc ?_ _)); exact BK652.out) Try.underlying47 rfl (by kernel_rfl)) rfl ?_
      exact ⟨_, by first | rfl | (simp [errW_none, errW_some] <;> rfl) | (simp [*, errW_none, errW_some] <;> rfl), by (with_reducible repeat (first | apply Kd.S_alloc | apply Kd.S_drewN | apply Kd.S_drew)); exact Kd.S_mono (Kd.S_far (p := ⟨gb652, 1, none⟩) (Kd.S_far (p := ⟨gb652, 0, none⟩) (Kd.S_types HO660.out BK652.out (by decide)) (fun _ hk => hk.2) (.slice Ao92 t658.length co92)) (fun _ hk => hk.2) (.int .i64 (wrap64 (a1_1 + 1)))) (fun _ hk => trivial), (by repeat (first | exact uB HB | refine below_set ?_ (Aside0.out (by assumption))))⟩
     ·replace c79 := Bool.eq_false_iff.mpr c79
      subst c79
      have H1 : ((impl_copySource.f kj3 l1_0 a1_1).bind fun bt670 => (some (bt670.1, bt670.2, false))) = some (r1, r2, r3) := by rw [if_neg (show ¬ (false = true) by decide)] at H; exact H
      clear H
      have H := H1
      clear H1
      replace H := Option.bind_eq_some_iff.mp H
      obtain ⟨⟨t670, t673⟩, A940, H⟩ := H
      replace H : (some (t670, t673, false)) = some (r1, r2, r3) := H
      have A94 := Aside0.mk A940
      clear A940
      simp only [Option.some.injEq, Prod.mk.injEq] at H
      obtain ⟨rfl, rfl, rfl⟩ := H
      have hnb95 := NB649_650.out
      have hnc95 := NB650_649.out
      have hnb96 := NB649_651.out
      have hnc96 := NB651_649.out
      have hnb97 := NB649_652.out
      have hnc97 := NB652_649.out
      have hcz98_0 : wc.cell? ⟨gb649, 0, none⟩ = some (.slice A0_0 l0_0.length c0_0) := kc BK649 rfl
      have hfz98_0 := blk_frozen BK649.out 0
      have hnb99 := NB650_651.out
      have hnc99 := NB651_650.out
      have hnb100 := NB650_652.out
      have hnc100 := NB652_650.out
      have hcz101_0 : wc.cell? ⟨gb650, 0, none⟩ = some (.slice A1_0 l1_0.length c1_0) := kc BK650 rfl
      have hcz101_1 : wc.cell? ⟨gb650, 1, none⟩ = some (.int .i64 a1_1) := kc BK650 rfl
      have hfz101_0 := blk_frozen BK650.out 0
      have hfz101_1 := blk_frozen BK650.out 1
      have hnb102 := NB651_652.out
      have hnc102 := NB652_651.out
      have hcz103_0 : wc.cell? ⟨gb651, 0, none⟩ = some (.bool false) := kc BK651 rfl
      have hcz103_1 : wc.cell? ⟨gb651, 1, none⟩ = some (.int .i64 a2_1) := kc BK651 rfl
      have hcz103_2 : wc.cell? ⟨gb651, 2, none⟩ = some (.slice A2_2 l2_2.length c2_2) := kc BK651 rfl
      have hfz103_0 := blk_frozen BK651.out 0
      have hfz103_1 := blk_frozen BK651.out 1
      have hfz103_2 := blk_frozen BK651.out 2
      go_wp2_with (first | ((with_reducible refine gate_callee (f := 68) rfl ?_); refine goesL_ (some 27) rfl rfl Try.func68 (by kernel_rfl) rfl #[.agg #[.slice A0_0 l0_0.length c0_0], .slice A1_0 l1_0.length c1_0, .agg #[.int .i64 a2_1, .slice A2_2 l2_2.length c2_2]] rfl (by (try simp only [List.map_toArray, List.map_cons, List.map_nil]); first | done | rfl | (simp only [List.length_drop, List.length_take]; rfl)) ?_; (with_reducible refine (impl_RemoveFact.calls kj3 _ _ l0_0 _ _ l1_0 a2_1 _ _ l2_2 t658 false _ ?side1 ?side2 ?side3 ?side4 ?side5 ?side6 A39.out).mono ?_); (case side1 => exact uC HR0_0 HB); (case side2 => exact HC0_0.out); (case side3 => exact uC HR1_0 HB); (case side4 => exact HC1_0.out); (case side5 => exact uC HR2_2 HB); (case side6 => exact HC2_2.out); rintro e w104 ⟨v659, rfl, ho0, hb⟩; refine ⟨_, rfl, ?_⟩; have HO660 := Aside0.mk (Kd.S_lower ho0 (below_size (uB HB))); replace BK649 := uK BK649 hb; replace BK650 := uK BK650 hb; replace BK651 := uK BK651 hb; replace BK652 := uK BK652 hb; replace HB := uS HB hb; (try clear hb); (try clear hb2); (try clear hk); (try clear hi); (try clear ho0); have hcz105_0 : w104.cell? ⟨gb651, 0, none⟩ = some (.bool false) := kc BK651 rfl; have hcz105_1 : w104.cell? ⟨gb651, 1, none⟩ = some (.int .i64 a2_1) := kc BK651 rfl; have hcz105_2 : w104.cell? ⟨gb651, 2, none⟩ = some (.slice A2_2 l2_2.length c2_2) := kc BK651 rfl; have hfz105_0 := blk_frozen BK651.out 0; have hfz105_1 := blk_frozen BK651.out 1; have hfz105_2 := blk_frozen BK651.out 2; have hcz106_0 : w104.cell? ⟨gb650, 0, none⟩ = some (.slice A1_0 l1_0.length c1_0) := kc BK650 rfl; have hcz106_1 : w104.cell? ⟨gb650, 1, none⟩ = some (.int .i64 a1_1) := kc BK650 rfl; have hfz106_0 := blk_frozen BK650.out 0; have hfz106_1 := blk_frozen BK650.out 1) | ((with_reducible refine gate_callee (f := 67) rfl ?_); refine goesL_ (some 44) rfl rfl Try.func67 (by kernel_rfl) rfl #[.agg #[.slice A1_0 l1_0.length c1_0, .int .i64 a1_1]] rfl (by (try simp only [List.map_toArray, List.map_cons, List.map_nil]); first | done | rfl | (simp only [List.length_drop, List.length_take]; rfl)) ?_; (with_reducible refine (impl_copySource.calls kj3 _ _ l1_0 a1_1 t670 t673 _ ?side1 ?side2 A94.out).mono ?_); (case side1 => exact uC HR1_0 HB); (case side2 => exact HC1_0.out); rintro e w107 ⟨v671, rfl, ho0, hb⟩; refine ⟨_, rfl, ?_⟩; have HO672 := Aside0.mk (Kd.S_lower (Kd.S_new' ho0 (Kd.S_lt (by (with_reducible repeat (first | apply Kd.S_alloc | apply Kd.S_drewN | apply Kd.S_drew)); exact HO660.out))) (below_size (uB HB))); replace HO660 := Aside0.mk (Kd.S_elder' (by (with_reducible repeat (first | apply Kd.S_alloc | apply Kd.S_drewN | apply Kd.S_drew)); exact HO660.out) (Kd.S_base ho0) hb); replace BK649 := uK BK649 hb; replace BK650 := uK BK650 hb; replace BK651 := uK BK651 hb; replace BK652 := uK BK652 hb; replace HB := uS HB hb; (try clear hb); (try clear hb2); (try clear hk); (try clear hi); (try clear ho0); obtain ⟨Ao108, co108, eo108⟩ := Kd.S_slice HO672.out; subst eo108; have hcz109_0 : w107.cell? ⟨gb652, 0, none⟩ = some (.slice none 0 0) := kc BK652 rfl; have hcz109_1 : w107.cell? ⟨gb652, 1, none⟩ = some (.int .i64 0) := kc BK652 rfl; have hfz109_0 := blk_frozen BK652.out 0; have hfz109_1 := blk_frozen BK652.out 1))
      refine bodyPost_ret (results_ct rfl _ _ gb652 47 #[.slice Ao108 t670.length co108, .int .i64 t673] (0, 0) _ rfl (by (with_reducible repeat (first | refine blk_drewN ?_ _ | refine blk_drew ?_ | refine blk_alloc ?_ _)); refine blk_put (cs := #[.slice Ao108 t670.length co108, .int .i64 0]) ?_ 1 _ rfl; (with_reducible repeat (first | refine blk_drewN ?_ _ | refine blk_drew ?_ | refine blk_alloc ?_ _)); refine blk_put (cs := #[.slice none 0 0, .int .i64 0]) ?_ 0 _ rfl; (with_reducible repeat (first | refine blk_drewN ?_ _ | refine blk_drew ?_ | refine blk_alloc ?_ _)); exact BK652.out) Try.underlying47 rfl (by kernel_rfl)) rfl ?_
      exact ⟨_, by first | rfl | (simp [errW_none, errW_some] <;> rfl) | (simp [*, errW_none, errW_some] <;> rfl), by (with_reducible repeat (first | apply Kd.S_alloc | apply Kd.S_drewN | apply Kd.S_drew)); exact Kd.S_mono (Kd.S_far (p := ⟨gb652, 1, none⟩) (Kd.S_far (p := ⟨gb652, 0, none⟩) (Kd.S_types HO672.out BK652.out (by decide)) (fun _ hk => hk.2) (.slice Ao108 t670.length co108)) (fun _ hk => hk.2) (.int .i64 t673)) (fun _ hk => trivial), (by repeat (first | exact uB HB | refine below_set ?_ (Aside0.out (by assumption))))⟩

def laws_eqFact.f (k : Nat) (a0_0 : Int) (l0_1 : List Int) (a1_0 : Int) (l1_1 : List Int) : Option (Bool) := if a0_0 = a1_0 then ((laws_eqIntS.f k l0_1 l1_1).bind fun t676 => (if t676 = true then (some true) else (some false))) else (some false)
set_option maxHeartbeats 8000000 in
set_option maxRecDepth 100000 in
theorem laws_eqFact.calls (k : Nat) (a0_0 : Int) (A0_1 : Option Addr) (c0_1 : Nat) (l0_1 : List Int) (a1_0 : Int) (A1_1 : Option Addr) (c1_1 : Nat) (l1_1 : List Int) (r : Bool) (w : World) (hr0_1 : Kd.C (Kd.int .i64) w A0_1 l0_1.length l0_1) (hc0_1 : l0_1.length ≤ c0_1) (hr1_1 : Kd.C (Kd.int .i64) w A1_1 l1_1.length l1_1) (hc1_1 : l1_1.length ≤ c1_1) (h : laws_eqFact.f k a0_0 l0_1 a1_0 l1_1 = some r) :
  Calls Try.prog 72 #[.agg #[.int .i64 a0_0, .slice A0_1 l0_1.length c0_1], .agg #[.int .i64 a1_0, .slice A1_1 l1_1.length c1_1]] w fun e w' => e = .returned (.bool r) ∧ Below w.heap.size w w' := by
 have hu53 := Try.underlying53
 have HR0_1 := Aside0.mk hr0_1
 have HC0_1 := Aside0.mk hc0_1
 clear hr0_1 hc0_1
 have HR1_1 := Aside0.mk hr1_1
 have HC1_1 := Aside0.mk hc1_1
 clear hr1_1 hc1_1
 have HB := Aside0.mk (Below.refl w.heap.size w)
 have H : (if a0_0 = a1_0 then ((laws_eqIntS.f k l0_1 l1_1).bind fun t676 => (if t676 = true then (some true) else (some false))) else (some false)) = some r := h
 clear h
 by_cases c3 : a0_0 = a1_0
 ·rw [if_pos c3] at H
  have c3b0 : (a0_0 == a1_0) = true := beq_iff_eq.mpr c3
  have c3b1 : (a0_0 != a1_0) = false := bne_eq_false_iff_eq.mpr c3
  clear c3
  replace H := Option.bind_eq_some_iff.mp H
  obtain ⟨t676, A40, H⟩ := H
  replace H : (if t676 = true then (some true) else (some false)) = some r := H
  have A4 := Aside0.mk A40
  clear A40
  by_cases c5 : t676 = true
  ·subst c5
   have H1 : (some true) = some r := by rw [if_pos rfl] at H; exact H
   clear H
   have H := H1
   clear H1
   obtain rfl := Option.some.inj H
   go_enter Try.func72, Try.ntmps72
   go_wp2_with (first | ((with_reducible refine gate_dst (N := 2) rfl ?_); refine box_event ?hg (N := 2) ?hd (cs := #[.int .i64 a0_0, .slice A0_1 l0_1.length c0_1]) (t := 53) ?hr ?_; (case hd => rfl); (case hg => rfl); (case hr => first | (go_simp; done) | (go_simp; rfl)); intro gb674 hg w6 hbox hb; have BK674 := Aside0.mk hbox; have GW674 := uG HB hg; have GE674 := uG HB hg; replace HB := uS HB hb; clear hb hbox hg) | ((with_reducible refine gate_dst (N := 3) rfl ?_); refine box_event ?hg (N := 3) ?hd (cs := #[.int .i64 a1_0, .slice A1_1 l1_1.length c1_1]) (t := 53) ?hr ?_; (case hd => rfl); (case hg => rfl); (case hr => first | (go_simp; done) | (go_simp; rfl)); intro gb675 hg w7 hbox hb; have BK675 := Aside0.mk hbox; have GW675 := uG HB hg; have GE675 := uG HB hg; replace HB := uS HB hb; have NB674_675 := uN BK674 hg; have NB675_674 := uM BK674 hg; replace BK674 := uK BK674 hb; clear hb hbox hg; have hnb8 := NB674_675.out; have hnc8 := NB675_674.out; have hcz9_0 : w7.cell? ⟨gb674, 0, none⟩ = some (.int .i64 a0_0) := kc BK674 rfl; have hcz9_1 : w7.cell? ⟨gb674, 1, none⟩ = some (.slice A0_1 l0_1.length c0_1) := kc BK674 rfl; have hfz9_0 := blk_frozen BK674.out 0; have hfz9_1 := blk_frozen BK674.out 1; have hcz10_0 : w7.cell? ⟨gb675, 0, none⟩ = some (.int .i64 a1_0) := kc BK675 rfl; have hcz10_1 : w7.cell? ⟨gb675, 1, none⟩ = some (.slice A1_1 l1_1.length c1_1) := kc BK675 rfl; have hfz10_0 := blk_frozen BK675.out 0; have hfz10_1 := blk_frozen BK675.out 1) | ((with_reducible refine gate_callee (f := 71) rfl ?_); refine goesL_ (some 14) rfl rfl Try.func71 (by kernel_rfl) rfl #[.slice A0_1 l0_1.length c0_1, .slice A1_1 l1_1.length c1_1] rfl (by (try simp only [List.map_toArray, List.map_cons, List.map_nil]); first | done | rfl | (simp only [List.length_drop, List.length_take]; rfl)) ?_; (with_reducible refine (laws_eqIntS.calls k _ _ l0_1 _ _ l1_1 true _ ?side1 ?side2 ?side3 ?side4 A4.out).mono ?_); (case side1 => exact uC HR0_1 HB); (case side2 => exact HC0_1.out); (case side3 => exact uC HR1_1 HB); (case side4 => exact HC1_1.out); rintro e w' ⟨rfl, ⟨nd, rfl⟩⟩; refine ⟨_, rfl, ?_⟩))
   go_ret
   exact ⟨by first | rfl | (simp [errW_none, errW_some] <;> rfl) | (simp [*, errW_none, errW_some] <;> rfl), uB HB⟩
  ·replace c5 := Bool.eq_false_iff.mpr c5
   subst c5
   have H1 : (some false) = some r := by rw [if_neg (show ¬ (false = true) by decide)] at H; exact H
   clear H
   have H := H1
   clear H1
   obtain rfl := Option.some.inj H
   go_enter Try.func72, Try.ntmps72
   go_wp2_with (first | ((with_reducible refine gate_dst (N := 2) rfl ?_); refine box_event ?hg (N := 2) ?hd (cs := #[.int .i64 a0_0, .slice A0_1 l0_1.length c0_1]) (t := 53) ?hr ?_; (case hd => rfl); (case hg => rfl); (case hr => first | (go_simp; done) | (go_simp; rfl)); intro gb674 hg w11 hbox hb; have BK674 := Aside0.mk hbox; have GW674 := uG HB hg; have GE674 := uG HB hg; replace HB := uS HB hb; clear hb hbox hg) | ((with_reducible refine gate_dst (N := 3) rfl ?_); refine box_event ?hg (N := 3) ?hd (cs := #[.int .i64 a1_0, .slice A1_1 l1_1.length c1_1]) (t := 53) ?hr ?_; (case hd => rfl); (case hg => rfl); (case hr => first | (go_simp; done) | (go_simp; rfl)); intro gb675 hg w12 hbox hb; have BK675 := Aside0.mk hbox; have GW675 := uG HB hg; have GE675 := uG HB hg; replace HB := uS HB hb; have NB674_675 := uN BK674 hg; have NB675_674 := uM BK674 hg; replace BK674 := uK BK674 hb; clear hb hbox hg; have hnb13 := NB674_675.out; have hnc13 := NB675_674.out; have hcz14_0 : w12.cell? ⟨gb674, 0, none⟩ = some (.int .i64 a0_0) := kc BK674 rfl; have hcz14_1 : w12.cell? ⟨gb674, 1, none⟩ = some (.slice A0_1 l0_1.length c0_1) := kc BK674 rfl; have hfz14_0 := blk_frozen BK674.out 0; have hfz14_1 := blk_frozen BK674.out 1; have hcz15_0 : w12.cell? ⟨gb675, 0, none⟩ = some (.int .i64 a1_0) := kc BK675 rfl; have hcz15_1 : w12.cell? ⟨gb675, 1, none⟩ = some (.slice A1_1 l1_1.length c1_1) := kc BK675 rfl; have hfz15_0 := blk_frozen BK675.out 0; have hfz15_1 := blk_frozen BK675.out 1) | ((with_reducible refine gate_callee (f := 71) rfl ?_); refine goesL_ (some 14) rfl rfl Try.func71 (by kernel_rfl) rfl #[.slice A0_1 l0_1.length c0_1, .slice A1_1 l1_1.length c1_1] rfl (by (try simp only [List.map_toArray, List.map_cons, List.map_nil]); first | done | rfl | (simp only [List.length_drop, List.length_take]; rfl)) ?_; (with_reducible refine (laws_eqIntS.calls k _ _ l0_1 _ _ l1_1 false _ ?side1 ?side2 ?side3 ?side4 A4.out).mono ?_); (case side1 => exact uC HR0_1 HB); (case side2 => exact HC0_1.out); (case side3 => exact uC HR1_1 HB); (case side4 => exact HC1_1.out); rintro e w' ⟨rfl, ⟨nd, rfl⟩⟩; refine ⟨_, rfl, ?_⟩))
   go_ret
   exact ⟨by first | rfl | (simp [errW_none, errW_some] <;> rfl) | (simp [*, errW_none, errW_some] <;> rfl), uB HB⟩
 ·rw [if_neg c3] at H
  have c3b0 : (a0_0 == a1_0) = false := beq_eq_false_iff_ne.mpr c3
  have c3b1 : (a0_0 != a1_0) = true := bne_iff_ne.mpr c3
  obtain rfl := Option.some.inj H
  go_enter Try.func72, Try.ntmps72
  go_wp2_with (first | ((with_reducible refine gate_dst (N := 2) rfl ?_); refine box_event ?hg (N := 2) ?hd (cs := #[.int .i64 a0_0, .slice A0_1 l0_1.length c0_1]) (t := 53) ?hr ?_; (case hd => rfl); (case hg => rfl); (case hr => first | (go_simp; done) | (go_simp; rfl)); intro gb674 hg w16 hbox hb; have BK674 := Aside0.mk hbox; have GW674 := uG HB hg; have GE674 := uG HB hg; replace HB := uS HB hb; clear hb hbox hg) | ((with_reducible refine gate_dst (N := 3) rfl ?_); refine box_event ?hg (N := 3) ?hd (cs := #[.int .i64 a1_0, .slice A1_1 l1_1.length c1_1]) (t := 53) ?hr ?_; (case hd => rfl); (case hg => rfl); (case hr => first | (go_simp; done) | (go_simp; rfl)); intro gb675 hg w17 hbox hb; have BK675 := Aside0.mk hbox; have GW675 := uG HB hg; have GE675 := uG HB hg; replace HB := uS HB hb; have NB674_675 := uN BK674 hg; have NB675_674 := uM BK674 hg; replace BK674 := uK BK674 hb; clear hb hbox hg; have hnb18 := NB674_675.out; have hnc18 := NB675_674.out; have hcz19_0 : w17.cell? ⟨gb674, 0, none⟩ = some (.int .i64 a0_0) := kc BK674 rfl; have hcz19_1 : w17.cell? ⟨gb674, 1, none⟩ = some (.slice A0_1 l0_1.length c0_1) := kc BK674 rfl; have hfz19_0 := blk_frozen BK674.out 0; have hfz19_1 := blk_frozen BK674.out 1; have hcz20_0 : w17.cell? ⟨gb675, 0, none⟩ = some (.int .i64 a1_0) := kc BK675 rfl; have hcz20_1 : w17.cell? ⟨gb675, 1, none⟩ = some (.slice A1_1 l1_1.length c1_1) := kc BK675 rfl; have hfz20_0 := blk_frozen BK675.out 0; have hfz20_1 := blk_frozen BK675.out 1))
  go_ret
  exact ⟨by first | rfl | (simp [errW_none, errW_some] <;> rfl) | (simp [*, errW_none, errW_some] <;> rfl), uB HB⟩

end Go.Proofs.Ytjglknoebaojgaa.P

