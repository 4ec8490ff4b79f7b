/- Out of YtjglknoebaojgaaPx14: what the claim needs of it. Conditions: each declaration's own. -/
import Derived.Test.YtjglknoebaojgaaZAppPUp
import Derived.Test.YtjglknoebaojgaaZAppM12
import Derived.Test.YtjglknoebaojgaaZAppM13
import Derived.Test.YtjglknoebaojgaaZAppM14
namespace Go.Proofs.Ytjglknoebaojgaa.P
open Go.RowKit Go.Proofs.YtjglknoebaojgaaW.PrintWords Go.Proofs.YtjglknoebaojgaaW.PrintLast Go.Proofs.YtjglknoebaojgaaW.PrintMore
attribute [local go_sem] max2_int min2_int max_two min_two max_three min_three max_four min_four   -- for this text's walks alone
set_option linter.unusedVariables false
set_option linter.unusedSimpArgs false

mutual
def spec_l5Put.l0 : Nat → List (S53) → List (S53) → Bool → Int → Int → List Int → Option ((List (S53)))
 | 0, _, _, _, _, _, _ => none
 | k + 1, x0, x5, x6, x7, x435000, x435001 => if x7 < (x0.length : Int) then (if x6 = true then (spec_l5Put.j1 k x0 x5 x6 x7 false x435000 x435001) else (if 0 ≤ x7 then ((spec_l5Less.f k ((rd_T53 x0 x7).f0) ((rd_T53 x0 x7).f1) x435000 x435001).bind fun t446 => (spec_l5Put.j1 k x0 x5 x6 x7 (!t446) x435000 x435001)) else (none))) else (if x6 = true then (some x5) else ((spec_l5Copy.f x435000 x435001).bind fun bt438 => (if x5.length < 4398046511104 then (some (x5 ++ [(⟨bt438.1, bt438.2⟩ : S53)])) else (none))))
def spec_l5Put.j1 : Nat → List (S53) → List (S53) → Bool → Int → Bool → Int → List Int → Option ((List (S53)))
 | 0, _, _, _, _, _, _, _ => none
 | k + 1, x0, x5, x6, x7, x25, x435000, x435001 => if x25 = true then (if 0 ≤ x7 then (if x7 < (x0.length : Int) then ((spec_l5Same.f k ((rd_T53 x0 x7).f0) ((rd_T53 x0 x7).f1) x435000 x435001).bind fun t448 => (if t448 = true then ((spec_l5Copy.f ((rd_T53 x0 x7).f0) ((rd_T53 x0 x7).f1)).bind fun bt450 => (if x5.length < 4398046511104 then (spec_l5Put.l0 k x0 (x5 ++ [(⟨bt450.1, bt450.2⟩ : S53)]) true (wrap64 (x7 + 1)) x435000 x435001) else (none))) else ((spec_l5Copy.f x435000 x435001).bind fun bt457 => (if x5.length < 4398046511104 then ((some (x5 ++ [(⟨bt457.1, bt457.2⟩ : S53)] : List (S53))).bind fun y461 => ((spec_l5Copy.f ((rd_T53 x0 x7).f0) ((rd_T53 x0 x7).f1)).bind fun bt465 => (if y461.length < 4398046511104 then (spec_l5Put.l0 k x0 (y461 ++ [(⟨bt465.1, bt465.2⟩ : S53)]) true (wrap64 (x7 + 1)) x435000 x435001) else (none)))) else (none))))) else (none)) else (none)) else (if 0 ≤ x7 then (if x7 < (x0.length : Int) then ((spec_l5Copy.f ((rd_T53 x0 x7).f0) ((rd_T53 x0 x7).f1)).bind fun bt473 => (if x5.length < 4398046511104 then (spec_l5Put.l0 k x0 (x5 ++ [(⟨bt473.1, bt473.2⟩ : S53)]) x6 (wrap64 (x7 + 1)) x435000 x435001) else (none))) else (none)) else (none))
end
def spec_l5Put.f (k : Nat) (l0 : List (S53)) (a1_0 : Int) (l1_1 : List Int) : Option ((List (S53))) := spec_l5Put.l0 k l0 (([] : List (S53))) false 0 a1_0 l1_1
def spec_l5Put.T6 : Bool × List (List Nat × List Nat) := (true, [([], []), ([0], [0]), ([1], [1]), ([2], [2]), ([2], [2]), ([3, 4, 2], [2, 3, 4]), ([5, 2], [2, 5]), ([2], [2]), ([6, 7, 2, 2], [2, 6, 7]), ([8, 2], [2, 8]), ([2, 9], [2, 9])])
def spec_l5Put.B6 : List Nat := [0, 1, 3, 7, 7, 31, 63, 7, 255, 511, 1023]
theorem spec_l5Put.tab6 : rtab .any (opsOf Try.f97 6) = spec_l5Put.T6 := by kernel_rfl
theorem spec_l5Put.bits6 : waitsOk spec_l5Put.T6.2 spec_l5Put.B6 = true := by kernel_rfl
set_option maxHeartbeats 8000000 in
set_option maxRecDepth 100000 in
theorem spec_l5Put.calls (k : Nat) (A0 : Option Addr) (c0 : Nat) (l0 : List (S53)) (a1_0 : Int) (A1_1 : Option Addr) (c1_1 : Nat) (l1_1 : List Int) (r : List (S53)) (w : World) (hr0 : Kd.C k53 w A0 l0.length l0) (hc0 : l0.length ≤ c0) (hr1_1 : Kd.C (Kd.int .i64) w A1_1 l1_1.length l1_1) (hc1_1 : l1_1.length ≤ c1_1) (h : spec_l5Put.f k l0 a1_0 l1_1 = some r) :
  Calls Try.prog 97 #[.slice A0 l0.length c0, .agg #[.int .i64 a1_0, .slice A1_1 l1_1.length c1_1]] w fun e w' => ∃ v0_ : Value, e = .returned (v0_) ∧ Kd.S k53 53 w' w.heap.size (fun _ => True) v0_ r ∧ Below w.heap.size w w' := by
 have hu53 := Try.underlying53
 have HR0 := Aside0.mk hr0
 have HC0 := Aside0.mk hc0
 clear hr0 hc0
 have HR1_1 := Aside0.mk hr1_1
 have HC1_1 := Aside0.mk hc1_1
 clear hr1_1 hc1_1
 have HB := Aside0.mk (Below.refl w.heap.size w)
 have H : (spec_l5Put.l0 k l0 (([] : List (S53))) false 0 a1_0 l1_1) = some r := h
 clear h
 obtain ⟨y435, hy435⟩ : ∃ y_ : List (S53), y_ = (([] : List (S53))) := ⟨_, rfl⟩
 replace H : (spec_l5Put.l0 k l0 y435 false 0 a1_0 l1_1) = some r := by first | (rw [hy435]; with_reducible exact H) | (have H2_ := (Option.bind_some _ _).symm.trans H; rw [hy435]; with_reducible exact H2_) | (have H2_ := (Option.bind_some _ _).symm.trans H; with_reducible exact H2_) | with_reducible exact H | (rw [hy435]; exact H) | exact H
 have Ny435 := Aside0.mk hy435
 clear hy435
 have H' := Aside0.mk H
 clear H
 go_enter Try.func97, Try.ntmps97
 go_wp2_with (first | ((with_reducible refine gate_dst (N := 3) rfl ?_); refine box_event ?hg (N := 3) ?hd (cs := #[.int .i64 a1_0, .slice A1_1 l1_1.length c1_1]) (t := 53) ?hr ?_; (case hd => rfl); (case hg => rfl); (case hr => first | (go_simp; done) | (go_simp; rfl)); intro gb434 hg w3 hbox hb; have BK434 := Aside0.mk hbox; have GW434 := uG HB hg; have GE434 := uG HB hg; replace HB := uS HB hb; clear hb hbox hg) | ((with_reducible refine gate_dst (N := 8) rfl ?_); refine Kd.S_lit k53 _ 53 ?hg (N := 8) ?hd (xs := ([] : List (S53))) (inner := []) (ok := fun _ => True) (okp := fun _ => True) ?hr ?hp (fun _ hk => hk) trivial (Below.refl _ _) (Nat.le_refl _) (by simp) ?_; (case hd => rfl); (case hg => rfl); (case hr => first | (go_simp; done) | (go_simp; rfl)); (case hp => exact (Reps.none _ _)); intro v436 w4 ho5 hb hg_ hnew_; clear hg_ hnew_; (first | rw [← Ny435.out] at ho5 | (simp only [Int.reduceToNat] at ho5; rw [← Ny435.out] at ho5)); have HO437 := Aside0.mk (Kd.S_lower (Kd.S_newB ho5 (g := gb434) (o := .cells #[.int .i64 a1_0, .slice A1_1 l1_1.length c1_1] 53 (0, 0)) (uk BK434)) (below_size (uB HB))); replace BK434 := uK BK434 hb; replace HB := uS HB hb; clear hb ho5))
 go_loopg [5, 6, 7] k (fun kq v5 v6 v7 w' => ∃ (x5_1 : List (S53)) (x6_1 : Bool) (x7_1 : Int), v6 = .bool x6_1 ∧ v7 = .int .i64 x7_1 ∧ Aside0 (spec_l5Put.l0 kq l0 x5_1 x6_1 x7_1 a1_0 l1_1 = some r) ∧ Aside0 (kq ≤ k) ∧ Aside0 (Kd.S k53 53 w' w.heap.size (fun k_ => k_ ≠ gb434) v5 x5_1) ∧ Aside0 (w'.heap[gb434]? = some (.cells #[.int .i64 a1_0, (.slice A1_1 l1_1.length c1_1)] 53 (0, 0))) ∧ Aside0 (Below w.heap.size w w'))
 case atStart => exact ⟨(y435), (false), (0), (by first | rfl | (simp; done) | (simp [*]; done)), (by first | rfl | (simp; done) | (simp [*]; done)), H', ⟨Nat.le_refl _⟩, ⟨by (with_reducible repeat (first | apply Kd.S_alloc | apply Kd.S_drewN | apply Kd.S_drew)); exact Kd.S_mono HO437.out (fun _ hk => hk.2)⟩, ⟨uk BK434⟩, ⟨uB HB⟩⟩
 case round =>
  clear H'
  try clear c1
  try clear p2
  obtain ⟨x5_1, x6_1, x7_1, rfl, rfl, HA, HK1, HO_5, BK434, HB⟩ := hrel
  cases gk with
  | zero => exact absurd HA.out (by simp [spec_l5Put.l0])
  | succ k1 =>
   have H := HA.out
   clear HA
   simp only [spec_l5Put.l0] at H
   by_cases c6 : x7_1 < (l0.length : Int)
   ·rw [if_pos c6] at H
    have c6b0 : decide (x7_1 < (l0.length : Int)) = true := decide_eq_true c6
    clear c6
    have HC7 := Aside0.mk H
    clear H
    go_upto_region 6 with (fail)
    go_cut [25] (fun v25 wc => ∃ (kq : Nat) (x25_6 : Bool), v25 = .bool x25_6 ∧ Aside0 (spec_l5Put.j1 kq l0 x5_1 x6_1 x7_1 x25_6 a1_0 l1_1 = some r) ∧ Aside0 (kq ≤ k1) ∧ Aside0 (Kd.S k53 53 wc w.heap.size (fun k_ => k_ ≠ gb434) u5 x5_1) ∧ Aside0 (wc.heap[gb434]? = some (.cells #[.int .i64 a1_0, (.slice A1_1 l1_1.length c1_1)] 53 (0, 0))) ∧ Aside0 (Below w.heap.size w wc))
    case first =>
     have H := HC7.out
     clear HC7
     by_cases c8 : x6_1 = true
     ·subst c8
      have H1 : (spec_l5Put.j1 k1 l0 x5_1 true x7_1 false a1_0 l1_1) = some r := by rw [if_pos rfl] at H; exact H
      clear H
      have H := H1
      clear H1
      have H' := Aside0.mk H
      clear H
      try go_wp2
      have n0_ := Aside0.mk (Kd.S_drew HO_5.out)
      have n1_ := Aside0.mk (blk_drew BK434.out)
      have n2_ := Aside0.mk (below_drew1 HB.out)
      clear HO_5
      clear BK434
      clear HB
      have HO_5 := n0_
      have BK434 := n1_
      have HB := n2_
      clear n0_ n1_ n2_
      refine start_ (n := 11) (S := fun w' => True) (ds := []) #[false, false, false, false, false, false, false, false, false, false, false] (by kernel_rfl) rfl rfl trivial (fun hHeld => ?_); refine with_tabW spec_l5Put.tab6 spec_l5Put.bits6 (fun HT_ HW_ => ?_)
      generalize wr.drew = w9 at HO_5 BK434 HB hHeld ⊢
      refine pure_ (i := 0) (N := some 15) (v := ?_) (a' := ?_) #[true, false, false, false, false, false, false, false, false, false, false] rfl rfl (any_of HT_.out (by kernel_rfl)) (fun _ _ _ h => h) (Or.inl ⟨by rfl, ?_⟩) ?_ ?_
      rotate_left
      ·intro w'
       go_simp
       with_reducible rfl
      rotate_left
      ·simp only [Act.put, sA, sZ, sS, i64_w, i32_w]
       rfl
      refine pure_ (i := 1) (N := some 16) (v := ?_) (a' := ?_) #[true, true, false, false, false, false, false, false, false, false, false] rfl rfl (any_of HT_.out (by kernel_rfl)) (fun _ _ _ h => h) (Or.inl ⟨by rfl, ?_⟩) ?_ ?_
      rotate_left
      ·intro w'
       go_simp
       with_reducible rfl
      rotate_left
      ·simp only [Act.put, sA, sZ, sS, i64_w, i32_w]
       rfl
      refine pure_ (i := 2) (N := some 17) (v := ?_) (a' := ?_) #[true, true, true, false, false, false, false, false, false, false, false] rfl rfl (any_of HT_.out (by kernel_rfl)) (fun _ _ _ h => h) (Or.inl ⟨by rfl, ?_⟩) ?_ ?_
      rotate_left
      ·intro w'
       go_simp
       with_reducible rfl
      rotate_left
      ·simp only [Act.put, sA, sZ, sS, i64_w, i32_w]
       rfl
      refine pure_ (i := 3) (N := some 18) (v := undef) (a' := ?_) #[true, true, true, true, false, false, false, false, false, false, false] rfl rfl (any_of HT_.out (by kernel_rfl)) (fun _ _ _ h => h) (Or.inr ⟨by rfl, rfl⟩) ?_ ?_
      rotate_left
      ·simp only [Act.put, sA, sZ, sS, i64_w, i32_w]
       rfl
      refine pure_ (i := 4) (N := some 19) (v := undef) (a' := ?_) #[true, true, true, true, true, false, false, false, false, false, false] rfl rfl (any_of HT_.out (by kernel_rfl)) (fun _ _ _ h => h) (Or.inr ⟨by rfl, rfl⟩) ?_ ?_
      rotate_left
      ·simp only [Act.put, sA, sZ, sS, i64_w, i32_w]
       rfl
      refine pure_ (i := 5) (N := some 20) (v := undef) (a' := ?_) #[true, true, true, true, true, true, false, false, false, false, false] rfl rfl (any_of HT_.out (by kernel_rfl)) (fun _ _ _ h => h) (Or.inr ⟨by rfl, rfl⟩) ?_ ?_
      rotate_left
      ·simp only [Act.put, sA, sZ, sS, i64_w, i32_w]
       rfl
      refine pure_ (i := 6) (N := some 21) (v := undef) (a' := ?_) #[true, true, true, true, true, true, true, false, false, false, false] rfl rfl (any_of HT_.out (by kernel_rfl)) (fun _ _ _ h => h) (Or.inr ⟨by rfl, rfl⟩) ?_ ?_
      rotate_left
      ·simp only [Act.put, sA, sZ, sS, i64_w, i32_w]
       rfl
      refine pure_ (i := 7) (N := some 22) (v := undef) (a' := ?_) #[true, true, true, true, true, true, true, true, false, false, false] rfl rfl (any_of HT_.out (by kernel_rfl)) (fun _ _ _ h => h) (Or.inr ⟨by rfl, rfl⟩) ?_ ?_
      rotate_left
      ·simp only [Act.put, sA, sZ, sS, i64_w, i32_w]
       rfl
      refine pure_ (i := 8) (N := some 23) (v := undef) (a' := ?_) #[true, true, true, true, true, true, true, true, true, false, false] rfl rfl (any_of HT_.out (by kernel_rfl)) (fun _ _ _ h => h) (Or.inr ⟨by rfl, rfl⟩) ?_ ?_
      rotate_left
      ·simp only [Act.put, sA, sZ, sS, i64_w, i32_w]
       rfl
      refine pure_ (i := 9) (N := some 24) (v := undef) (a' := ?_) #[true, true, true, true, true, true, true, true, true, true, false] rfl rfl (any_of HT_.out (by kernel_rfl)) (fun _ _ _ h => h) (Or.inr ⟨by rfl, rfl⟩) ?_ ?_
      rotate_left
      ·simp only [Act.put, sA, sZ, sS, i64_w, i32_w]
       rfl
      refine pure_ (i := 10) (N := some 25) (v := ?_) (a' := ?_) #[true, true, true, true, true, true, true, true, true, true, true] rfl rfl (any_of HT_.out (by kernel_rfl)) (fun _ _ _ h => h) (Or.inl ⟨by rfl, ?_⟩) ?_ ?_
      rotate_left
      ·intro w'
       go_simp
       with_reducible rfl
      rotate_left
      ·simp only [Act.put, sA, sZ, sS, i64_w, i32_w]
       rfl
      refine done_ (done_of HT_.out (by kernel_rfl)) ?_
      try go_wp2
      go_meet
      case rel => exact ⟨_, (false), (by first | rfl | (simp; done) | (simp [*]; done)), H', ⟨by have := HK1.out; first | omega | exact Nat.le_refl _⟩, ⟨by (with_reducible repeat (first | apply Kd.S_alloc | apply Kd.S_drewN | apply Kd.S_drew)); exact HO_5.out⟩, ⟨uk BK434⟩, ⟨uB HB⟩⟩
     ·replace c8 := Bool.eq_false_iff.mpr c8
      subst c8
      have H1 : (if 0 ≤ x7_1 then ((spec_l5Less.f k1 ((rd_T53 l0 x7_1).f0) ((rd_T53 l0 x7_1).f1) a1_0 l1_1).bind fun t446 => (spec_l5Put.j1 k1 l0 x5_1 false x7_1 (!t446) a1_0 l1_1)) else (none)) = some r := by rw [if_neg (show ¬ (false = true) by decide)] at H; exact H
      clear H
      have H := H1
      clear H1
      by_cases c10 : 0 ≤ x7_1
      ·rw [if_pos c10] at H
       have c10b0 : decide (0 ≤ x7_1) = true := decide_eq_true c10
       clear c10
       (first | rw [c10b0] | (simp only [i64_w, i32_w]; rw [c10b0]) | skip)
       replace H := Option.bind_eq_some_iff.mp H
       obtain ⟨t446, A110, H⟩ := H
       replace H : (spec_l5Put.j1 k1 l0 x5_1 false x7_1 (!t446) a1_0 l1_1) = some r := H
       have A11 := Aside0.mk A110
       clear A110
       have H' := Aside0.mk H
       clear H
       try go_wp2
       have n0_ := Aside0.mk (Kd.S_drew HO_5.out)
       have n1_ := Aside0.mk (blk_drew BK434.out)
       have n2_ := Aside0.mk (below_drew1 HB.out)
       clear HO_5
       clear BK434
       clear HB
       have HO_5 := n0_
       have BK434 := n1_
       have HB := n2_
       clear n0_ n1_ n2_
       have p445 : 0 ≤ (x7_1 : Int) := of_decide_eq_true (by first | (with_reducible assumption) | assumption)
       have q445 : x7_1 < (l0.length : Int) := of_decide_eq_true (by first | (with_reducible assumption) | assumption)
       obtain ⟨ad445, A445_1, c445_1, e445, hx445_0, hx445_1, hl445_1, hi445_1⟩ := at_T53 HR0.out x7_1 p445 q445
       have hw445_1 := hx445_1
       have hw445_0 := hx445_0
       cases e445
       replace hx445_0 := (HB.out.cell (World.block_lt_of_cell? w _ hx445_0)).trans hx445_0
       replace hx445_1 := (HB.out.cell (World.block_lt_of_cell? w _ hx445_1)).trans hx445_1
       have HR445_1 := Aside0.mk hi445_1
       have HC445_1 := Aside0.mk hl445_1
       clear hi445_1 hl445_1
       replace p445 := eq_true p445
       replace q445 := eq_true q445
       refine start_ (n := 11) (S := fun w' => w'.cell? ⟨gb434, 0, none⟩ = some (.int .i64 a1_0) ∧ w'.cell? ⟨gb434, 1, none⟩ = some (.slice A1_1 l1_1.length c1_1) ∧ w'.cell? (ad445.add ((x7_1).toNat * 2)) = some (.int .i64 ((rd_T53 l0 x7_1).f0)) ∧ w'.cell? ⟨(ad445.add ((x7_1).toNat * 2)).block, (ad445.add ((x7_1).toNat * 2)).off + 1, none⟩ = some (.slice A445_1 ((rd_T53 l0 x7_1).f1).length c445_1)) (ds := []) #[false, false, false, false, false, false, false, false, false, false, false] (by kernel_rfl) rfl rfl ⟨kc BK434 rfl, kc BK434 rfl, ((HB.out.cell (World.block_lt_of_cell? w _ hw445_0)).trans hw445_0), ((HB.out.cell (World.block_lt_of_cell? w _ hw445_1)).trans hw445_1)⟩ (fun hHeld => ?_); refine with_tabW spec_l5Put.tab6 spec_l5Put.bits6 (fun HT_ HW_ => ?_)
       generalize wr.drew = w12 at HO_5 BK434 HB HR445_1 hx445_0 hx445_1 hHeld ⊢
       refine pure_ (i := 0) (N := some 15) (v := ?_) (a' := ?_) #[true, false, false, false, false, false, false, false, false, false, false] rfl rfl (any_of HT_.out (by kernel_rfl)) (fun _ _ _ h => h) (Or.inl ⟨by rfl, ?_⟩) ?_ ?_
       rotate_left
       ·intro w'
        go_simp
        with_reducible rfl
       rotate_left
       ·simp only [Act.put, sA, sZ, sS, i64_w, i32_w]
        rfl
       refine pure_ (i := 1) (N := some 16) (v := ?_) (a' := ?_) #[true, true, false, false, false, false, false, false, false, false, false] rfl rfl (any_of HT_.out (by kernel_rfl)) (fun _ _ _ h => h) (Or.inl ⟨by rfl, ?_⟩) ?_ ?_
       rotate_left
       ·intro w'
        go_simp
        with_reducible rfl
       rotate_left
       ·simp only [Act.put, sA, sZ, sS, i64_w, i32_w]
        rfl
       refine pure_ (i := 2) (N := some 17) (v := ?_) (a' := ?_) #[true, true, true, false, false, false, false, false, false, false, false] rfl rfl (any_of HT_.out (by kernel_rfl)) (fun _ _ _ h => h) (Or.inl ⟨by rfl, ?_⟩) ?_ ?_
       rotate_left
       ·intro w'
        go_simp
        with_reducible rfl
       rotate_left
       ·simp only [Act.put, sA, sZ, sS, i64_w, i32_w]
        rfl
       refine pure_ (i := 3) (N := some 18) (v := ?_) (a' := ?_) #[true, true, true, true, false, false, false, false, false, false, false] rfl rfl (any_of HT_.out (by kernel_rfl)) (fun _ _ _ h => h) (Or.inl ⟨by rfl, ?_⟩) ?_ ?_
       rotate_left
       ·intro w'
        go_simp
        with_reducible rfl
       rotate_left
       ·simp only [Act.put, sA, sZ, sS, i64_w, i32_w]
        rfl
       refine pure_ (i := 4) (N := some 19) (v := ?_) (a' := ?_) #[true, true, true, true, true, false, false, false, false, false, false] rfl rfl (any_of HT_.out (by kernel_rfl)) (fun _ _ _ h => h) (Or.inl ⟨by rfl, ?_⟩) ?_ ?_
       rotate_left
       ·intro w'
        go_simp
        with_reducible rfl
       rotate_left
       ·simp only [Act.put, sA, sZ, sS, i64_w, i32_w]
        rfl
       refine pure_ (i := 5) (N := some 20) (v := ?_) (a' := ?_) #[true, true, true, true, true, true, false, false, false, false, false] rfl rfl (any_of HT_.out (by kernel_rfl)) (fun _ _ _ h => h) (Or.inl ⟨by rfl, ?_⟩) ?_ ?_
       rotate_left
       ·intro w'
        go_simp
        with_reducible rfl
       rotate_left
       ·simp only [Act.put, sA, sZ, sS, i64_w, i32_w]
        rfl
       refine take_ (i := 6) (N := some 21) (v := ?_) (a' := ?_) #[true, true, true, true, true, true, true, false, false, false, false] rfl rfl (take_ofW HT_.out HW_.out (by kernel_rfl)) (fun _ _ _ h => h) (Or.inl ⟨by rfl, ?_⟩) hHeld ?_ ?_
       rotate_left
       ·rintro w' ⟨s0, s1, s2, s3⟩
        go_simp
        with_reducible rfl
       rotate_left
       ·simp only [Act.put, sA, sZ, sS, i64_w, i32_w]
        rfl
       refine take_ (i := 7) (N := some 22) (v := ?_) (a' := ?_) #[true, true, true, true, true, true, true, true, false, false, false] rfl rfl (take_ofW HT_.out HW_.out (by kernel_rfl)) (fun _ _ _ h => h) (Or.inl ⟨by rfl, ?_⟩) hHeld ?_ ?_
       rotate_left
       ·rintro w' ⟨s0, s1, s2, s3⟩
        go_simp
        with_reducible rfl
       rotate_left
       ·simp only [Act.put, sA, sZ, sS, i64_w, i32_w]
        rfl
       refine one_ (i := 8) (N := some 23) #[true, true, true, true, true, true, true, true, true, false, false] rfl rfl (one_of HT_.out (by kernel_rfl)) (by decide) (fun K hK => ?_)
       refine goes_ Try.func144 (by kernel_rfl) rfl #[.agg #[.int .i64 ((rd_T53 l0 x7_1).f0), .slice A445_1 ((rd_T53 l0 x7_1).f1).length c445_1], .agg #[.int .i64 a1_0, .slice A1_1 l1_1.length c1_1]] (by rfl) rfl rfl (by (try simp only [List.map_toArray, List.map_cons, List.map_nil]); first | done | rfl | (simp only [List.length_drop, List.length_take]; rfl)) ?_
       with_reducible refine (spec_l5Less.calls k1 ((rd_T53 l0 x7_1).f0) _ _ ((rd_T53 l0 x7_1).f1) a1_0 _ _ l1_1 t446 _ ?side1 ?side2 ?side3 ?side4 A11.out).mono ?_
       (case side1 => exact uC HR445_1 HB)
       (case side2 => exact HC445_1.out)
       (case side3 => exact uC HR1_1 HB)
       (case side4 => exact HC1_1.out)
       rintro e w13 ⟨rfl, hb⟩
       refine ⟨_, rfl, ?_⟩
       have n0_ := Aside0.mk (Kd.S_below (by (with_reducible repeat (first | apply Kd.S_alloc | apply Kd.S_drewN | apply Kd.S_drew)); exact HO_5.out) hb)
       have n1_ := Aside0.mk (blk_below (g := gb434) (o := .cells #[.int .i64 a1_0, .slice A1_1 l1_1.length c1_1] 53 (0, 0)) (uk BK434) hb)
       have n2_ := Aside0.mk (below_step (uB HB) hb)
       clear HO_5
       clear BK434
       clear HB
       have HO_5 := n0_
       have BK434 := n1_
       have HB := n2_
       clear n0_ n1_ n2_
       (try clear hb)
       (try clear hb2)
       (try clear hk)
       (try clear hi)
       refine hK.out _ _ ⟨kc BK434 rfl, kc BK434 rfl, ((HB.out.cell (World.block_lt_of_cell? w _ hw445_0)).trans hw445_0), ((HB.out.cell (World.block_lt_of_cell? w _ hw445_1)).trans hw445_1)⟩ (fun hHeld => ?_)
       clear hK K
       refine norm_ (a' := ?_) ?_ ?_
       rotate_left
       ·show Act.put _ (some 23) _ = _
        simp only [Act.put, sA, sZ, sS, i64_w, i32_w]
        rfl
       refine pure_ (i := 9) (N := some 24) (v := ?_) (a' := ?_) #[true, true, true, true, true, true, true, true, true, true, false] rfl rfl (any_of HT_.out (by kernel_rfl)) (fun _ _ _ h => h) (Or.inl ⟨by rfl, ?_⟩) ?_ ?_
       rotate_left
       ·intro w'
        go_simp
        with_reducible rfl
       rotate_left
       ·simp only [Act.put, sA, sZ, sS, i64_w, i32_w]
        rfl
       refine pure_ (i := 10) (N := some 25) (v := ?_) (a' := ?_) #[true, true, true, true, true, true, true, true, true, true, true] rfl rfl (any_of HT_.out (by kernel_rfl)) (fun _ _ _ h => h) (Or.inl ⟨by rfl, ?_⟩) ?_ ?_
       rotate_left
       ·intro w'
        go_simp
        with_reducible rfl
       rotate_left
       ·simp only [Act.put, sA, sZ, sS, i64_w, i32_w]
        rfl
       refine done_ (done_of HT_.out (by kernel_rfl)) ?_
       try go_wp2
       go_meet
       case rel => exact ⟨_, (!t446), (by first | rfl | (simp; done) | (simp [*]; done)), H', ⟨by have := HK1.out; first | omega | exact Nat.le_refl _⟩, ⟨by (with_reducible repeat (first | apply Kd.S_alloc | apply Kd.S_drewN | apply Kd.S_drew)); exact HO_5.out⟩, ⟨uk BK434⟩, ⟨uB HB⟩⟩
      ·rw [if_neg c10] at H
       exact absurd H (by simp)
    case rest =>
     clear HC7
     try clear c1
     try clear p2
     try clear c4
     try clear p4
     try clear q4
     try clear hx4
     try clear c6
     try clear c6b0
     try clear c8
     try clear c9
     try clear c10
     try clear c10b0
     try clear hx445_0
     try clear hx445_1
     try clear p2
     try clear p445
     try clear q445
     obtain ⟨kq, x25_6, rfl, HA, HJ6, HO_5, BK434, HB⟩ := hcut
     cases kq with
     | zero => exact absurd HA.out (by simp [spec_l5Put.j1])
     | succ kj6 =>
      have H := HA.out
      clear HA
      simp only [spec_l5Put.j1] at H
      by_cases c14 : x25_6 = true
      ·subst c14
       have H1 : (if 0 ≤ x7_1 then (if x7_1 < (l0.length : Int) then ((spec_l5Same.f kj6 ((rd_T53 l0 x7_1).f0) ((rd_T53 l0 x7_1).f1) a1_0 l1_1).bind fun t448 => (if t448 = true then ((spec_l5Copy.f ((rd_T53 l0 x7_1).f0) ((rd_T53 l0 x7_1).f1)).bind fun bt450 => (if x5_1.length < 4398046511104 then (spec_l5Put.l0 kj6 l0 (x5_1 ++ [(⟨bt450.1, bt450.2⟩ : S53)]) true (wrap64 (x7_1 + 1)) a1_0 l1_1) else (none))) else ((spec_l5Copy.f a1_0 l1_1).bind fun bt457 => (if x5_1.length < 4398046511104 then ((some (x5_1 ++ [(⟨bt457.1, bt457.2⟩ : S53)] : List (S53))).bind fun y461 => ((spec_l5Copy.f ((rd_T53 l0 x7_1).f0) ((rd_T53 l0 x7_1).f1)).bind fun bt465 => (if y461.length < 4398046511104 then (spec_l5Put.l0 kj6 l0 (y461 ++ [(⟨bt465.1, bt465.2⟩ : S53)]) true (wrap64 (x7_1 + 1)) a1_0 l1_1) else (none)))) else (none))))) else (none)) else (none)) = some r := by rw [if_pos rfl] at H; exact H
       clear H
       have H := H1
       clear H1
       by_cases c15 : 0 ≤ x7_1
       ·rw [if_pos c15] at H
        have c15b0 : decide (0 ≤ x7_1) = true := decide_eq_true c15
        clear c15
        by_cases c16 : x7_1 < (l0.length : Int)
        ·rw [if_pos c16] at H
         have c16b0 : decide (x7_1 < (l0.length : Int)) = true := decide_eq_true c16
         clear c16
         replace H := Option.bind_eq_some_iff.mp H
         obtain ⟨t448, A170, H⟩ := H
         replace H : (if t448 = true then ((spec_l5Copy.f ((rd_T53 l0 x7_1).f0) ((rd_T53 l0 x7_1).f1)).bind fun bt450 => (if x5_1.length < 4398046511104 then (spec_l5Put.l0 kj6 l0 (x5_1 ++ [(⟨bt450.1, bt450.2⟩ : S53)]) true (wrap64 (x7_1 + 1)) a1_0 l1_1) else (none))) else ((spec_l5Copy.f a1_0 l1_1).bind fun bt457 => (if x5_1.length < 4398046511104 then ((some (x5_1 ++ [(⟨bt457.1, bt457.2⟩ : S53)] : List (S53))).bind fun y461 => ((spec_l5Copy.f ((rd_T53 l0 x7_1).f0) ((rd_T53 l0 x7_1).f1)).bind fun bt465 => (if y461.length < 4398046511104 then (spec_l5Put.l0 kj6 l0 (y461 ++ [(⟨bt465.1, bt465.2⟩ : S53)]) true (wrap64 (x7_1 + 1)) a1_0 l1_1) else (none)))) else (none)))) = some r := H
         have A17 := Aside0.mk A170
         clear A170
         by_cases c18 : t448 = true
         ·subst c18
          have H1 : ((spec_l5Copy.f ((rd_T53 l0 x7_1).f0) ((rd_T53 l0 x7_1).f1)).bind fun bt450 => (if x5_1.length < 4398046511104 then (spec_l5Put.l0 kj6 l0 (x5_1 ++ [(⟨bt450.1, bt450.2⟩ : S53)]) true (wrap64 (x7_1 + 1)) a1_0 l1_1) else (none))) = some r := by rw [if_pos rfl] at H; exact H
          clear H
          have H := H1
          clear H1
          replace H := Option.bind_eq_some_iff.mp H
          obtain ⟨⟨t450, t451⟩, A190, H⟩ := H
          replace H : (if x5_1.length < 4398046511104 then (spec_l5Put.l0 kj6 l0 (x5_1 ++ [(⟨t450, t451⟩ : S53)]) true (wrap64 (x7_1 + 1)) a1_0 l1_1) else (none)) = some r := H
          have A19 := Aside0.mk A190
          clear A190
          by_cases c20 : x5_1.length < 4398046511104
          ·rw [if_pos c20] at H
           have LMc20 := Aside0.mk c20
           clear c20
           obtain ⟨y454, hy454⟩ : ∃ y_ : List (S53), y_ = (x5_1 ++ [(⟨t450, t451⟩ : S53)]) := ⟨_, rfl⟩
           replace H : (spec_l5Put.l0 kj6 l0 y454 true (wrap64 (x7_1 + 1)) a1_0 l1_1) = some r := by first | (rw [hy454]; with_reducible exact H) | (have H2_ := (Option.bind_some _ _).symm.trans H; rw [hy454]; with_reducible exact H2_) | (have H2_ := (Option.bind_some _ _).symm.trans H; with_reducible exact H2_) | with_reducible exact H | (rw [hy454]; exact H) | exact H
           have Ny454 := Aside0.mk hy454
           clear hy454
           have H' := Aside0.mk H
           clear H
           try go_wp2
           have n0_ := Aside0.mk (Kd.S_drew HO_5.out)
           have n1_ := Aside0.mk (blk_drew BK434.out)
           have n2_ := Aside0.mk (below_drew1 HB.out)
           clear HO_5
           clear BK434
           clear HB
           have HO_5 := n0_
           have BK434 := n1_
           have HB := n2_
           clear n0_ n1_ n2_
           have p447 : 0 ≤ (x7_1 : Int) := of_decide_eq_true (by first | (with_reducible assumption) | assumption)
           have q447 : x7_1 < (l0.length : Int) := of_decide_eq_true (by first | (with_reducible assumption) | assumption)
           obtain ⟨ad447, A447_1, c447_1, e447, hx447_0, hx447_1, hl447_1, hi447_1⟩ := at_T53 HR0.out x7_1 p447 q447
           have hw447_1 := hx447_1
           have hw447_0 := hx447_0
           cases e447
           replace hx447_0 := (HB.out.cell (World.block_lt_of_cell? w _ hx447_0)).trans hx447_0
           replace hx447_1 := (HB.out.cell (World.block_lt_of_cell? w _ hx447_1)).trans hx447_1
           have HR447_1 := Aside0.mk hi447_1
           have HC447_1 := Aside0.mk hl447_1
           clear hi447_1 hl447_1
           replace p447 := eq_true p447
           replace q447 := eq_true q447
           refine start_ (n := 7) (S := fun w' => w'.cell? ⟨gb434, 0, none⟩ = some (.int .i64 a1_0) ∧ w'.cell? ⟨gb434, 1, none⟩ = some (.slice A1_1 l1_1.length c1_1) ∧ w'.cell? (ad447.add ((x7_1).toNat * 2)) = some (.int .i64 ((rd_T53 l0 x7_1).f0)) ∧ w'.cell? ⟨(ad447.add ((x7_1).toNat * 2)).block, (ad447.add ((x7_1).toNat * 2)).off + 1, none⟩ = some (.slice A447_1 ((rd_T53 l0 x7_1).f1).length c447_1)) (ds := []) #[false, false, false, false, false, false, false] (by kernel_rfl) rfl rfl ⟨kc BK434 rfl, kc BK434 rfl, ((HB.out.cell (World.block_lt_of_cell? w _ hw447_0)).trans hw447_0), ((HB.out.cell (World.block_lt_of_cell? w _ hw447_1)).trans hw447_1)⟩ (fun hHeld => ?_)
           generalize wc.drew = w21 at HO_5 BK434 HB HR447_1 hx447_0 hx447_1 hHeld ⊢
           refine pure_ (i := 0) (N := some 26) (v := ?_) (a' := ?_) #[true, false, false, false, false, false, false] rfl rfl (by kernel_rfl) (fun _ _ _ h => h) (Or.inl ⟨by rfl, ?_⟩) ?_ ?_
           rotate_left
           ·intro w'
            go_simp
            with_reducible rfl
           rotate_left
           ·simp only [Act.put, sA, sZ, sS, i64_w, i32_w]
            rfl
           refine pure_ (i := 1) (N := some 27) (v := ?_) (a' := ?_) #[true, true, false, false, false, false, false] rfl rfl (by kernel_rfl) (fun _ _ _ h => h) (Or.inl ⟨by rfl, ?_⟩) ?_ ?_
           rotate_left
           ·intro w'
            go_simp
            with_reducible rfl
           rotate_left
           ·simp only [Act.put, sA, sZ, sS, i64_w, i32_w]
            rfl
           refine pure_ (i := 2) (N := some 28) (v := ?_) (a' := ?_) #[true, true, true, false, false, false, false] rfl rfl (by kernel_rfl) (fun _ _ _ h => h) (Or.inl ⟨by rfl, ?_⟩) ?_ ?_
           rotate_left
           ·intro w'
            go_simp
            with_reducible rfl
           rotate_left
           ·simp only [Act.put, sA, sZ, sS, i64_w, i32_w]
            rfl
           refine take_ (i := 3) (N := some 29) (v := ?_) (a' := ?_) #[true, true, true, true, false, false, false] rfl rfl (by kernel_rfl) (fun _ _ _ h => h) (Or.inl ⟨by rfl, ?_⟩) hHeld ?_ ?_
           rotate_left
           ·rintro w' ⟨s0, s1, s2, s3⟩
            go_simp
            with_reducible rfl
           rotate_left
           ·simp only [Act.put, sA, sZ, sS, i64_w, i32_w]
            rfl
           refine take_ (i := 4) (N := some 30) (v := ?_) (a' := ?_) #[true, true, true, true, true, false, false] rfl rfl (by kernel_rfl) (fun _ _ _ h => h) (Or.inl ⟨by rfl, ?_⟩) hHeld ?_ ?_
           rotate_left
           ·rintro w' ⟨s0, s1, s2, s3⟩
            go_simp
            with_reducible rfl
           rotate_left
           ·simp only [Act.put, sA, sZ, sS, i64_w, i32_w]
            rfl
           refine one_ (i := 5) (N := some 31) #[true, true, true, true, true, true, false] rfl rfl (by kernel_rfl) (by decide) (fun K hK => ?_)
           refine goes_ Try.func98 (by kernel_rfl) rfl #[.agg #[.int .i64 ((rd_T53 l0 x7_1).f0), .slice A447_1 ((rd_T53 l0 x7_1).f1).length c447_1], .agg #[.int .i64 a1_0, .slice A1_1 l1_1.length c1_1]] (by rfl) rfl rfl (by (try simp only [List.map_toArray, List.map_cons, List.map_nil]); first | done | rfl | (simp only [List.length_drop, List.length_take]; rfl)) ?_
           with_reducible refine (spec_l5Same.calls kj6 ((rd_T53 l0 x7_1).f0) _ _ ((rd_T53 l0 x7_1).f1) a1_0 _ _ l1_1 true _ ?side1 ?side2 ?side3 ?side4 A17.out).mono ?_
           (case side1 => exact uC HR447_1 HB)
           (case side2 => exact HC447_1.out)
           (case side3 => exact uC HR1_1 HB)
           (case side4 => exact HC1_1.out)
           rintro e w22 ⟨rfl, hb⟩
           refine ⟨_, rfl, ?_⟩
           have n0_ := Aside0.mk (Kd.S_below (by (with_reducible repeat (first | apply Kd.S_alloc | apply Kd.S_drewN | apply Kd.S_drew)); exact HO_5.out) hb)
           have n1_ := Aside0.mk (blk_below (g := gb434) (o := .cells #[.int .i64 a1_0, .slice A1_1 l1_1.length c1_1] 53 (0, 0)) (uk BK434) hb)
           have n2_ := Aside0.mk (below_step (uB HB) hb)
           clear HO_5
           clear BK434
           clear HB
           have HO_5 := n0_
           have BK434 := n1_
           have HB := n2_
           clear n0_ n1_ n2_
           (try clear hb)
           (try clear hb2)
           (try clear hk)
           (try clear hi)
           refine hK.out _ _ ⟨kc BK434 rfl, kc BK434 rfl, ((HB.out.cell (World.block_lt_of_cell? w _ hw447_0)).trans hw447_0), ((HB.out.cell (World.block_lt_of_cell? w _ hw447_1)).trans hw447_1)⟩ (fun hHeld => ?_)
           clear hK K
           refine norm_ (a' := ?_) ?_ ?_
           rotate_left
           ·show Act.put _ (some 31) _ = _
            simp only [Act.put, sA, sZ, sS, i64_w, i32_w]
            rfl
           refine pure_ (i := 6) (N := some 32) (v := ?_) (a' := ?_) #[true, true, true, true, true, true, true] rfl rfl (by kernel_rfl) (fun _ _ _ h => h) (Or.inl ⟨by rfl, ?_⟩) ?_ ?_
           rotate_left
           ·intro w'
            go_simp
            with_reducible rfl
           rotate_left
           ·simp only [Act.put, sA, sZ, sS, i64_w, i32_w]
            rfl
           refine done_ (by kernel_rfl) ?_
           have p449 : 0 ≤ (x7_1 : Int) := of_decide_eq_true (by first | (with_reducible assumption) | assumption)
           have q449 : x7_1 < (l0.length : Int) := of_decide_eq_true (by first | (with_reducible assumption) | assumption)
           replace p449 := eq_true p449
           replace q449 := eq_true q449
           try go_wp2_with (first | ((with_reducible refine gate_callee (f := 92) rfl ?_); refine goesL_ (some 43) rfl rfl Try.func92 (by kernel_rfl) rfl #[.agg #[.int .i64 ((rd_T53 l0 x7_1).f0), .slice A447_1 ((rd_T53 l0 x7_1).f1).length c447_1]] rfl (by (try simp only [List.map_toArray, List.map_cons, List.map_nil]); first | done | rfl | (simp only [List.length_drop, List.length_take]; rfl)) ?_; (with_reducible refine (spec_l5Copy.calls ((rd_T53 l0 x7_1).f0) _ _ ((rd_T53 l0 x7_1).f1) t450 t451 _ ?side1 ?side2 A19.out).mono ?_); (case side1 => exact uC HR447_1 HB); (case side2 => exact HC447_1.out); rintro e w23 ⟨v452, rfl, ho0, hb⟩; refine ⟨_, rfl, ?_⟩; replace HO_5 := Aside0.mk (Kd.S_elder' (by (with_reducible repeat (first | apply Kd.S_alloc | apply Kd.S_drewN | apply Kd.S_drew)); exact HO_5.out) (Kd.R_base ho0) hb); have HO453 := Aside0.mk (Kd.R_lower ho0 (below_size (uB HB))); replace BK434 := uK BK434 hb; replace HB := uS HB hb; (try clear hb); (try clear hb2); (try clear hk); (try clear hi); (try clear ho0); obtain ⟨Ao25, co25, eo25⟩ := Kd.R_slice HO453.out; subst eo25) | ((with_reducible refine gate_builtin (b := .append) (xs := #[.tmp 38, .tmp 44]) rfl ?_); at_builtin; refine Kd.S_append k53 (w0 := w) w.heap.size rfl (.tmp 38) (.tmp 44) 45 53 (.agg #[(.int .i64 0), (.slice none 0 0)]) 32 rfl Try.underlying45 info53 rfl (by decide) (by omega) u5 x5_1 (⟨t450, t451⟩ : S53) [.int .i64 t450, .slice Ao25 t451.length co25] (fun k_ => k_ ≠ gb434) (fun k_ => some k_ = (.slice Ao25 t451.length co25 : Value).ownBlock) rfl rfl ?aP (fun k_ hk_ => ((Kd.R_mono (ok' := fun k_ => ((fun k_ => k_ ≠ gb434)) k_ ∧ some k_ ≠ (u5 : Value).ownBlock) (Kd.R_types (Kd.R_apart' (HO453.out) (Kd.S_typed HO_5.out) (by decide)) BK434.out (by decide)) (fun k_ hk => ⟨hk.2, hk.1.2⟩))).1 k_ hk_.symm) ?aF ?aO ?aB ?aS ?aL ?_; (case aP => exact k53_mkM _ _ _ (⟨t450, t451⟩ : S53) (Kd.R_mono (Kd.R_tight rfl (Kd.R_mono (ok' := fun k_ => ((fun k_ => k_ ≠ gb434)) k_ ∧ some k_ ≠ (u5 : Value).ownBlock) (Kd.R_types (Kd.R_apart' (HO453.out) (Kd.S_typed HO_5.out) (by decide)) BK434.out (by decide)) (fun k_ hk => ⟨hk.2, hk.1.2⟩))) (fun _ h_ => h_))); (case aB => exact (uB HB)); (case aF => exact (fun k_ hk => Kd.freshB (g := gb434) (o := .cells #[.int .i64 a1_0, .slice A1_1 l1_1.length c1_1] 53 (0, 0)) (uk BK434) k_ hk)); (case aO => exact (by (with_reducible repeat (first | apply Kd.S_alloc | apply Kd.S_drewN | apply Kd.S_drew)); exact Kd.S_mono HO_5.out (fun k_ hk => ⟨hk.1, fun e_ => hk.2 e_⟩))); (case aS => exact (below_size (uB HB))); (case aL => have := LMc20.out; omega); intro v455 w24 ho hb hg hat; rw [← Ny454.out] at ho; replace BK434 := Aside0.mk (blk_grown (g := gb434) (o := .cells #[.int .i64 a1_0, .slice A1_1 l1_1.length c1_1] 53 (0, 0)) (uk BK434) hg (Kd.S_away HO_5.out (fun _ hk => hk.1))); replace HB := Aside0.mk hb; have HO456 := Aside0.mk ho; clear HO_5 HO453; clear ho hb hg hat))
           go_roundg kj6
           case measure => have := HK1.out; have := HJ6.out; omega
           case rel => exact ⟨(y454), (true), (wrap64 (x7_1 + 1)), (by first | rfl | (simp; done) | (simp [*]; done)), (by first | rfl | (simp; done) | (simp [*]; done)), H', ⟨by have := HK1.out; have := HJ6.out; omega⟩, ⟨by (with_reducible repeat (first | apply Kd.S_alloc | apply Kd.S_drewN | apply Kd.S_drew)); exact HO456.out⟩, ⟨uk BK434⟩, ⟨uB HB⟩⟩
          ·rw [if_neg c20] at H
           exact absurd H (by simp)
         ·replace c18 := Bool.eq_false_iff.mpr c18
          subst c18
          have H1 : ((spec_l5Copy.f a1_0 l1_1).bind fun bt457 => (if x5_1.length < 4398046511104 then ((some (x5_1 ++ [(⟨bt457.1, bt457.2⟩ : S53)] : List (S53))).bind fun y461 => ((spec_l5Copy.f ((rd_T53 l0 x7_1).f0) ((rd_T53 l0 x7_1).f1)).bind fun bt465 => (if y461.length < 4398046511104 then (spec_l5Put.l0 kj6 l0 (y461 ++ [(⟨bt465.1, bt465.2⟩ : S53)]) true (wrap64 (x7_1 + 1)) a1_0 l1_1) else (none)))) else (none))) = some r := by rw [if_neg (show ¬ (false = true) by decide)] at H; exact H
          clear H
          have H := H1
          clear H1
          replace H := Option.bind_eq_some_iff.mp H
          obtain ⟨⟨t457, t458⟩, A260, H⟩ := H
          replace H : (if x5_1.length < 4398046511104 then ((some (x5_1 ++ [(⟨t457, t458⟩ : S53)] : List (S53))).bind fun y461 => ((spec_l5Copy.f ((rd_T53 l0 x7_1).f0) ((rd_T53 l0 x7_1).f1)).bind fun bt465 => (if y461.length < 4398046511104 then (spec_l5Put.l0 kj6 l0 (y461 ++ [(⟨bt465.1, bt465.2⟩ : S53)]) true (wrap64 (x7_1 + 1)) a1_0 l1_1) else (none)))) else (none)) = some r := H
          have A26 := Aside0.mk A260
          clear A260
          by_cases c27 : x5_1.length < 4398046511104
          ·rw [if_pos c27] at H
           have LMc27 := Aside0.mk c27
           clear c27
           obtain ⟨y461, hy461⟩ : ∃ y_ : List (S53), y_ = (x5_1 ++ [(⟨t457, t458⟩ : S53)]) := ⟨_, rfl⟩
           replace H : ((spec_l5Copy.f ((rd_T53 l0 x7_1).f0) ((rd_T53 l0 x7_1).f1)).bind fun bt465 => (if y461.length < 4398046511104 then (spec_l5Put.l0 kj6 l0 (y461 ++ [(⟨bt465.1, bt465.2⟩ : S53)]) true (wrap64 (x7_1 + 1)) a1_0 l1_1) else (none))) = some r := by first | (rw [hy461]; with_reducible exact H) | (have H2_ := (Option.bind_some _ _).symm.trans H; rw [hy461]; with_reducible exact H2_) | (have H2_ := (Option.bind_some _ _).symm.trans H; with_reducible exact H2_) | with_reducible exact H | (rw [hy461]; exact H) | exact H
           have Ny461 := Aside0.mk hy461
           clear hy461
           replace H := Option.bind_eq_some_iff.mp H
           obtain ⟨⟨t465, t466⟩, A280, H⟩ := H
           replace H : (if y461.length < 4398046511104 then (spec_l5Put.l0 kj6 l0 (y461 ++ [(⟨t465, t466⟩ : S53)]) true (wrap64 (x7_1 + 1)) a1_0 l1_1) else (none)) = some r := H
           have A28 := Aside0.mk A280
           clear A280
           by_cases c29 : y461.length < 4398046511104
           ·rw [if_pos c29] at H
            have LMc29 := Aside0.mk c29
            clear c29
            obtain ⟨y469, hy469⟩ : ∃ y_ : List (S53), y_ = (y461 ++ [(⟨t465, t466⟩ : S53)]) := ⟨_, rfl⟩
            replace H : (spec_l5Put.l0 kj6 l0 y469 true (wrap64 (x7_1 + 1)) a1_0 l1_1) = some r := by first | (rw [hy469]; with_reducible exact H) | (have H2_ := (Option.bind_some _ _).symm.trans H; rw [hy469]; with_reducible exact H2_) | (have H2_ := (Option.bind_some _ _).symm.trans H; with_reducible exact H2_) | with_reducible exact H | (rw [hy469]; exact H) | exact H
            have Ny469 := Aside0.mk hy469
            clear hy469
            have H' := Aside0.mk H
            clear H
            try go_wp2
            have n0_ := Aside0.mk (Kd.S_drew HO_5.out)
            have n1_ := Aside0.mk (blk_drew BK434.out)
            have n2_ := Aside0.mk (below_drew1 HB.out)
            clear HO_5
            clear BK434
            clear HB
            have HO_5 := n0_
            have BK434 := n1_
            have HB := n2_
            clear n0_ n1_ n2_
            have p447 : 0 ≤ (x7_1 : Int) := of_decide_eq_true (by first | (with_reducible assumption) | assumption)
            have q447 : x7_1 < (l0.length : Int) := of_decide_eq_true (by first | (with_reducible assumption) | assumption)
            obtain ⟨ad447, A447_1, c447_1, e447, hx447_0, hx447_1, hl447_1, hi447_1⟩ := at_T53 HR0.out x7_1 p447 q447
            have hw447_1 := hx447_1
            have hw447_0 := hx447_0
            cases e447
            replace hx447_0 := (HB.out.cell (World.block_lt_of_cell? w _ hx447_0)).trans hx447_0
            replace hx447_1 := (HB.out.cell (World.block_lt_of_cell? w _ hx447_1)).trans hx447_1
            have HR447_1 := Aside0.mk hi447_1
            have HC447_1 := Aside0.mk hl447_1
            clear hi447_1 hl447_1
            replace p447 := eq_true p447
            replace q447 := eq_true q447
            refine start_ (n := 7) (S := fun w' => w'.cell? ⟨gb434, 0, none⟩ = some (.int .i64 a1_0) ∧ w'.cell? ⟨gb434, 1, none⟩ = some (.slice A1_1 l1_1.length c1_1) ∧ w'.cell? (ad447.add ((x7_1).toNat * 2)) = some (.int .i64 ((rd_T53 l0 x7_1).f0)) ∧ w'.cell? ⟨(ad447.add ((x7_1).toNat * 2)).block, (ad447.add ((x7_1).toNat * 2)).off + 1, none⟩ = some (.slice A447_1 ((rd_T53 l0 x7_1).f1).length c447_1)) (ds := []) #[false, false, false, false, false, false, false] (by kernel_rfl) rfl rfl ⟨kc BK434 rfl, kc BK434 rfl, ((HB.out.cell (World.block_lt_of_cell? w _ hw447_0)).trans hw447_0), ((HB.out.cell (World.block_lt_of_cell? w _ hw447_1)).trans hw447_1)⟩ (fun hHeld => ?_)
            generalize wc.drew = w30 at HO_5 BK434 HB HR447_1 hx447_0 hx447_1 hHeld ⊢
            refine pure_ (i := 0) (N := some 26) (v := ?_) (a' := ?_) #[true, false, false, false, false, false, false] rfl rfl (by kernel_rfl) (fun _ _ _ h => h) (Or.inl ⟨by rfl, ?_⟩) ?_ ?_
            rotate_left
            ·intro w'
             go_simp
             with_reducible rfl
            rotate_left
            ·simp only [Act.put, sA, sZ, sS, i64_w, i32_w]
             rfl
            refine pure_ (i := 1) (N := some 27) (v := ?_) (a' := ?_) #[true, true, false, false, false, false, false] rfl rfl (by kernel_rfl) (fun _ _ _ h => h) (Or.inl ⟨by rfl, ?_⟩) ?_ ?_
            rotate_left
            ·intro w'
             go_simp
             with_reducible rfl
            rotate_left
            ·simp only [Act.put, sA, sZ, sS, i64_w, i32_w]
             rfl
            refine pure_ (i := 2) (N := some 28) (v := ?_) (a' := ?_) #[true, true, true, false, false, false, false] rfl rfl (by kernel_rfl) (fun _ _ _ h => h) (Or.inl ⟨by rfl, ?_⟩) ?_ ?_
            rotate_left
            ·intro w'
             go_simp
             with_reducible rfl
            rotate_left
            ·simp only [Act.put, sA, sZ, sS, i64_w, i32_w]
             rfl
            refine take_ (i := 3) (N := some 29) (v := ?_) (a' := ?_) #[true, true, true, true, false, false, false] rfl rfl (by kernel_rfl) (fun _ _ _ h => h) (Or.inl ⟨by rfl, ?_⟩) hHeld ?_ ?_
            rotate_left
            ·rintro w' ⟨s0, s1, s2, s3⟩
             go_simp
             with_reducible rfl
            rotate_left
            ·simp only [Act.put, sA, sZ, sS, i64_w, i32_w]
             rfl
            refine take_ (i := 4) (N := some 30) (v := ?_) (a' := ?_) #[true, true, true, true, true, false, false] rfl rfl (by kernel_rfl) (fun _ _ _ h => h) (Or.inl ⟨by rfl, ?_⟩) hHeld ?_ ?_
            rotate_left
            ·rintro w' ⟨s0, s1, s2, s3⟩
             go_simp
             with_reducible rfl
            rotate_left
            ·simp only [Act.put, sA, sZ, sS, i64_w, i32_w]
             rfl
            refine one_ (i := 5) (N := some 31) #[true, true, true, true, true, true, false] rfl rfl (by kernel_rfl) (by decide) (fun K hK => ?_)
            refine goes_ Try.func98 (by kernel_rfl) rfl #[.agg #[.int .i64 ((rd_T53 l0 x7_1).f0), .slice A447_1 ((rd_T53 l0 x7_1).f1).length c447_1], .agg #[.int .i64 a1_0, .slice A1_1 l1_1.length c1_1]] (by rfl) rfl rfl (by (try simp only [List.map_toArray, List.map_cons, List.map_nil]); first | done | rfl | (simp only [List.length_drop, List.length_take]; rfl)) ?_
            with_reducible refine (spec_l5Same.calls kj6 ((rd_T53 l0 x7_1).f0) _ _ ((rd_T53 l0 x7_1).f1) a1_0 _ _ l1_1 false _ ?side1 ?side2 ?side3 ?side4 A17.out).mono ?_
            (case side1 => exact uC HR447_1 HB)
            (case side2 => exact HC447_1.out)
            (case side3 => exact uC HR1_1 HB)
            (case side4 => exact HC1_1.out)
            rintro e w31 ⟨rfl, hb⟩
            refine ⟨_, rfl, ?_⟩
            have n0_ := Aside0.mk (Kd.S_below (by (with_reducible repeat (first | apply Kd.S_alloc | apply Kd.S_drewN | apply Kd.S_drew)); exact HO_5.out) hb)
            have n1_ := Aside0.mk (blk_below (g := gb434) (o := .cells #[.int .i64 a1_0, .slice A1_1 l1_1.length c1_1] 53 (0, 0)) (uk BK434) hb)
            have n2_ := Aside0.mk (below_step (uB HB) hb)
            clear HO_5
            clear BK434
            clear HB
            have HO_5 := n0_
            have BK434 := n1_
            have HB := n2_
            clear n0_ n1_ n2_
            (try clear hb)
            (try clear hb2)
            (try clear hk)
            (try clear hi)
            refine hK.out _ _ ⟨kc BK434 rfl, kc BK434 rfl, ((HB.out.cell (World.block_lt_of_cell? w _ hw447_0)).trans hw447_0), ((HB.out.cell (World.block_lt_of_cell? w _ hw447_1)).trans hw447_1)⟩ (fun hHeld => ?_)
            clear hK K
            refine norm_ (a' := ?_) ?_ ?_
            rotate_left
            ·show Act.put _ (some 31) _ = _
             simp only [Act.put, sA, sZ, sS, i64_w, i32_w]
             rfl
            refine pure_ (i := 6) (N := some 32) (v := ?_) (a' := ?_) #[true, true, true, true, true, true, true] rfl rfl (by kernel_rfl) (fun _ _ _ h => h) (Or.inl ⟨by rfl, ?_⟩) ?_ ?_
            rotate_left
            ·intro w'
             go_simp
             with_reducible rfl
            rotate_left
            ·simp only [Act.put, sA, sZ, sS, i64_w, i32_w]
             rfl
            refine done_ (by kernel_rfl) ?_
            have hcz32_0 : w31.cell? ⟨gb434, 0, none⟩ = some (.int .i64 a1_0) := kc BK434 rfl
            have hcz32_1 : w31.cell? ⟨gb434, 1, none⟩ = some (.slice A1_1 l1_1.length c1_1) := kc BK434 rfl
            have hfz32_0 := blk_frozen BK434.out 0
            have hfz32_1 := blk_frozen BK434.out 1
            try go_wp2_with (first | ((with_reducible refine gate_callee (f := 92) rfl ?_); refine goesL_ (some 35) rfl rfl Try.func92 (by kernel_rfl) rfl #[.agg #[.int .i64 a1_0, .slice A1_1 l1_1.length c1_1]] rfl (by (try simp only [List.map_toArray, List.map_cons, List.map_nil]); first | done | rfl | (simp only [List.length_drop, List.length_take]; rfl)) ?_; (with_reducible refine (spec_l5Copy.calls a1_0 _ _ l1_1 t457 t458 _ ?side1 ?side2 A26.out).mono ?_); (case side1 => exact uC HR1_1 HB); (case side2 => exact HC1_1.out); rintro e w33 ⟨v459, rfl, ho0, hb⟩; refine ⟨_, rfl, ?_⟩; replace HO_5 := Aside0.mk (Kd.S_elder' (by (with_reducible repeat (first | apply Kd.S_alloc | apply Kd.S_drewN | apply Kd.S_drew)); exact HO_5.out) (Kd.R_base ho0) hb); have HO460 := Aside0.mk (Kd.R_lower ho0 (below_size (uB HB))); replace BK434 := uK BK434 hb; replace HB := uS HB hb; (try clear hb); (try clear hb2); (try clear hk); (try clear hi); (try clear ho0); obtain ⟨Ao35, co35, eo35⟩ := Kd.R_slice HO460.out; subst eo35) | ((with_reducible refine gate_builtin (b := .append) (xs := #[.tmp 33, .tmp 36]) rfl ?_); at_builtin; refine Kd.S_append k53 (w0 := w) w.heap.size rfl (.tmp 33) (.tmp 36) 45 53 (.agg #[(.int .i64 0), (.slice none 0 0)]) 32 rfl Try.underlying45 info53 rfl (by decide) (by omega) u5 x5_1 (⟨t457, t458⟩ : S53) [.int .i64 t457, .slice Ao35 t458.length co35] (fun k_ => k_ ≠ gb434) (fun k_ => some k_ = (.slice Ao35 t458.length co35 : Value).ownBlock) rfl rfl ?aP (fun k_ hk_ => ((Kd.R_mono (ok' := fun k_ => ((fun k_ => k_ ≠ gb434)) k_ ∧ some k_ ≠ (u5 : Value).ownBlock) (Kd.R_types (Kd.R_apart' (HO460.out) (Kd.S_typed HO_5.out) (by decide)) BK434.out (by decide)) (fun k_ hk => ⟨hk.2, hk.1.2⟩))).1 k_ hk_.symm) ?aF ?aO ?aB ?aS ?aL ?_; (case aP => exact k53_mkM _ _ _ (⟨t457, t458⟩ : S53) (Kd.R_mono (Kd.R_tight rfl (Kd.R_mono (ok' := fun k_ => ((fun k_ => k_ ≠ gb434)) k_ ∧ some k_ ≠ (u5 : Value).ownBlock) (Kd.R_types (Kd.R_apart' (HO460.out) (Kd.S_typed HO_5.out) (by decide)) BK434.out (by decide)) (fun k_ hk => ⟨hk.2, hk.1.2⟩))) (fun _ h_ => h_))); (case aB => exact (uB HB)); (case aF => exact (fun k_ hk => Kd.freshB (g := gb434) (o := .cells #[.int .i64 a1_0, .slice A1_1 l1_1.length c1_1] 53 (0, 0)) (uk BK434) k_ hk)); (case aO => exact (by (with_reducible repeat (first | apply Kd.S_alloc | apply Kd.S_drewN | apply Kd.S_drew)); exact Kd.S_mono HO_5.out (fun k_ hk => ⟨hk.1, fun e_ => hk.2 e_⟩))); (case aS => exact (below_size (uB HB))); (case aL => have := LMc27.out; omega); intro v462 w34 ho hb hg hat; rw [← Ny461.out] at ho; replace BK434 := Aside0.mk (blk_grown (g := gb434) (o := .cells #[.int .i64 a1_0, .slice A1_1 l1_1.length c1_1] 53 (0, 0)) (uk BK434) hg (Kd.S_away HO_5.out (fun _ hk => hk.1))); replace HB := Aside0.mk hb; have HO463 := Aside0.mk ho; clear HO_5 HO460; clear ho hb hg hat; have p464 : 0 ≤ (x7_1 : Int) := of_decide_eq_true (by first | (with_reducible assumption) | assumption); have q464 : x7_1 < (l0.length : Int) := of_decide_eq_true (by first | (with_reducible assumption) | assumption); obtain ⟨ad464, A464_1, c464_1, e464, hx464_0, hx464_1, hl464_1, hi464_1⟩ := at_T53 HR0.out x7_1 p464 q464; obtain rfl : ad447 = ad464 := (by injection e464); replace hx464_0 := (HB.out.cell (World.block_lt_of_cell? w _ hx464_0)).trans hx464_0; replace hx464_1 := (HB.out.cell (World.block_lt_of_cell? w _ hx464_1)).trans hx464_1; have HR464_1 := Aside0.mk hi464_1; have HC464_1 := Aside0.mk hl464_1; clear hi464_1 hl464_1; replace p464 := eq_true p464; replace q464 := eq_true q464) | ((with_reducible refine gate_callee (f := 92) rfl ?_); refine goesL_ (some 43) rfl rfl Try.func92 (by kernel_rfl) rfl #[.agg #[.int .i64 ((rd_T53 l0 x7_1).f0), .slice A464_1 ((rd_T53 l0 x7_1).f1).length c464_1]] rfl (by (try simp only [List.map_toArray, List.map_cons, List.map_nil]); first | done | rfl | (simp only [List.length_drop, List.length_take]; rfl)) ?_; (with_reducible refine (spec_l5Copy.calls ((rd_T53 l0 x7_1).f0) _ _ ((rd_T53 l0 x7_1).f1) t465 t466 _ ?side1 ?side2 A28.out).mono ?_); (case side1 => exact uC HR464_1 HB); (case side2 => exact HC464_1.out); rintro e w36 ⟨v467, rfl, ho0, hb⟩; refine ⟨_, rfl, ?_⟩; replace HO463 := Aside0.mk (Kd.S_elder' (by (with_reducible repeat (first | apply Kd.S_alloc | apply Kd.S_drewN | apply Kd.S_drew)); exact HO463.out) (Kd.R_base ho0) hb); have HO468 := Aside0.mk (Kd.R_lower ho0 (below_size (uB HB))); replace BK434 := uK BK434 hb; replace HB := uS HB hb; (try clear hb); (try clear hb2); (try clear hk); (try clear hi); (try clear ho0); obtain ⟨Ao38, co38, eo38⟩ := Kd.R_slice HO468.out; subst eo38) | ((with_reducible refine gate_builtin (b := .append) (xs := #[.tmp 38, .tmp 44]) rfl ?_); at_builtin; refine Kd.S_append k53 (w0 := w) w.heap.size rfl (.tmp 38) (.tmp 44) 45 53 (.agg #[(.int .i64 0), (.slice none 0 0)]) 32 rfl Try.underlying45 info53 rfl (by decide) (by omega) v462 y461 (⟨t465, t466⟩ : S53) [.int .i64 t465, .slice Ao38 t466.length co38] (fun k_ => k_ ≠ gb434) (fun k_ => some k_ = (.slice Ao38 t466.length co38 : Value).ownBlock) rfl rfl ?aP (fun k_ hk_ => ((Kd.R_mono (ok' := fun k_ => ((fun k_ => k_ ≠ gb434)) k_ ∧ some k_ ≠ (v462 : Value).ownBlock) (Kd.R_types (Kd.R_apart' (HO468.out) (Kd.S_typed HO463.out) (by decide)) BK434.out (by decide)) (fun k_ hk => ⟨hk.2, hk.1.2⟩))).1 k_ hk_.symm) ?aF ?aO ?aB ?aS ?aL ?_; (case aP => exact k53_mkM _ _ _ (⟨t465, t466⟩ : S53) (Kd.R_mono (Kd.R_tight rfl (Kd.R_mono (ok' := fun k_ => ((fun k_ => k_ ≠ gb434)) k_ ∧ some k_ ≠ (v462 : Value).ownBlock) (Kd.R_types (Kd.R_apart' (HO468.out) (Kd.S_typed HO463.out) (by decide)) BK434.out (by decide)) (fun k_ hk => ⟨hk.2, hk.1.2⟩))) (fun _ h_ => h_))); (case aB => exact (uB HB)); (case aF => exact (fun k_ hk => Kd.freshB (g := gb434) (o := .cells #[.int .i64 a1_0, .slice A1_1 l1_1.length c1_1] 53 (0, 0)) (uk BK434) k_ hk)); (case aO => exact (by (with_reducible repeat (first | apply Kd.S_alloc | apply Kd.S_drewN | apply Kd.S_drew)); exact Kd.S_mono HO463.out (fun k_ hk => ⟨hk.1, fun e_ => hk.2 e_⟩))); (case aS => exact (below_size (uB HB))); (case aL => have := LMc29.out; omega); intro v470 w37 ho hb hg hat; rw [← Ny469.out] at ho; replace BK434 := Aside0.mk (blk_grown (g := gb434) (o := .cells #[.int .i64 a1_0, .slice A1_1 l1_1.length c1_1] 53 (0, 0)) (uk BK434) hg (Kd.S_away HO463.out (fun _ hk => hk.1))); replace HB := Aside0.mk hb; have HO471 := Aside0.mk ho; clear HO463 HO468; clear ho hb hg hat))
            go_roundg kj6
            case measure => have := HK1.out; have := HJ6.out; omega
            case rel => exact ⟨(y469), (true), (wrap64 (x7_1 + 1)), (by first | rfl | (simp; done) | (simp [*]; done)), (by first | rfl | (simp; done) | (simp [*]; done)), H', ⟨by have := HK1.out; have := HJ6.out; omega⟩, ⟨by (with_reducible repeat (first | apply Kd.S_alloc | apply Kd.S_drewN | apply Kd.S_drew)); exact HO471.out⟩, ⟨uk BK434⟩, ⟨uB HB⟩⟩
           ·rw [if_neg c29] at H
            exact absurd H (by simp)
          ·rw [if_neg c27] at H
           exact absurd H (by simp)
        ·rw [if_neg c16] at H
         exact absurd H (by simp)
       ·rw [if_neg c15] at H
        exact absurd H (by simp)
      ·replace c14 := Bool.eq_false_iff.mpr c14
       subst c14
       have H1 : (if 0 ≤ x7_1 then (if x7_1 < (l0.length : Int) then ((spec_l5Copy.f ((rd_T53 l0 x7_1).f0) ((rd_T53 l0 x7_1).f1)).bind fun bt473 => (if x5_1.length < 4398046511104 then (spec_l5Put.l0 kj6 l0 (x5_1 ++ [(⟨bt473.1, bt473.2⟩ : S53)]) x6_1 (wrap64 (x7_1 + 1)) a1_0 l1_1) else (none))) else (none)) else (none)) = some r := by rw [if_neg (show ¬ (false = true) by decide)] at H; exact H
       clear H
       have H := H1
       clear H1
       by_cases c39 : 0 ≤ x7_1
       ·rw [if_pos c39] at H
        have c39b0 : decide (0 ≤ x7_1) = true := decide_eq_true c39
        clear c39
        by_cases c40 : x7_1 < (l0.length : Int)
        ·rw [if_pos c40] at H
         have c40b0 : decide (x7_1 < (l0.length : Int)) = true := decide_eq_true c40
         clear c40
         replace H := Option.bind_eq_some_iff.mp H
         obtain ⟨⟨t473, t474⟩, A410, H⟩ := H
         replace H : (if x5_1.length < 4398046511104 then (spec_l5Put.l0 kj6 l0 (x5_1 ++ [(⟨t473, t474⟩ : S53)]) x6_1 (wrap64 (x7_1 + 1)) a1_0 l1_1) else (none)) = some r := H
         have A41 := Aside0.mk A410
         clear A410
         by_cases c42 : x5_1.length < 4398046511104
         ·rw [if_pos c42] at H
          have LMc42 := Aside0.mk c42
          clear c42
          obtain ⟨y477, hy477⟩ : ∃ y_ : List (S53), y_ = (x5_1 ++ [(⟨t473, t474⟩ : S53)]) := ⟨_, rfl⟩
          replace H : (spec_l5Put.l0 kj6 l0 y477 x6_1 (wrap64 (x7_1 + 1)) a1_0 l1_1) = some r := by first | (rw [hy477]; with_reducible exact H) | (have H2_ := (Option.bind_some _ _).symm.trans H; rw [hy477]; with_reducible exact H2_) | (have H2_ := (Option.bind_some _ _).symm.trans H; with_reducible exact H2_) | with_reducible exact H | (rw [hy477]; exact H) | exact H
          have Ny477 := Aside0.mk hy477
          clear hy477
          have H' := Aside0.mk H
          clear H
          have p472 : 0 ≤ (x7_1 : Int) := of_decide_eq_true (by first | (with_reducible assumption) | assumption)
          have q472 : x7_1 < (l0.length : Int) := of_decide_eq_true (by first | (with_reducible assumption) | assumption)
          obtain ⟨ad472, A472_1, c472_1, e472, hx472_0, hx472_1, hl472_1, hi472_1⟩ := at_T53 HR0.out x7_1 p472 q472
          cases e472
          replace hx472_0 := (HB.out.cell (World.block_lt_of_cell? w _ hx472_0)).trans hx472_0
          replace hx472_1 := (HB.out.cell (World.block_lt_of_cell? w _ hx472_1)).trans hx472_1
          have HR472_1 := Aside0.mk hi472_1
          have HC472_1 := Aside0.mk hl472_1
          clear hi472_1 hl472_1
          replace p472 := eq_true p472
          replace q472 := eq_true q472
          go_wp2_with (first | ((with_reducible refine gate_callee (f := 92) rfl ?_); refine goesL_ (some 43) rfl rfl Try.func92 (by kernel_rfl) rfl #[.agg #[.int .i64 ((rd_T53 l0 x7_1).f0), .slice A472_1 ((rd_T53 l0 x7_1).f1).length c472_1]] rfl (by (try simp only [List.map_toArray, List.map_cons, List.map_nil]); first | done | rfl | (simp only [List.length_drop, List.length_take]; rfl)) ?_; (with_reducible refine (spec_l5Copy.calls ((rd_T53 l0 x7_1).f0) _ _ ((rd_T53 l0 x7_1).f1) t473 t474 _ ?side1 ?side2 A41.out).mono ?_); (case side1 => exact uC HR472_1 HB); (case side2 => exact HC472_1.out); rintro e w43 ⟨v475, rfl, ho0, hb⟩; refine ⟨_, rfl, ?_⟩; replace HO_5 := Aside0.mk (Kd.S_elder' (by (with_reducible repeat (first | apply Kd.S_alloc | apply Kd.S_drewN | apply Kd.S_drew)); exact HO_5.out) (Kd.R_base ho0) hb); have HO476 := Aside0.mk (Kd.R_lower ho0 (below_size (uB HB))); replace BK434 := uK BK434 hb; replace HB := uS HB hb; (try clear hb); (try clear hb2); (try clear hk); (try clear hi); (try clear ho0); obtain ⟨Ao45, co45, eo45⟩ := Kd.R_slice HO476.out; subst eo45) | ((with_reducible refine gate_builtin (b := .append) (xs := #[.tmp 38, .tmp 44]) rfl ?_); at_builtin; refine Kd.S_append k53 (w0 := w) w.heap.size rfl (.tmp 38) (.tmp 44) 45 53 (.agg #[(.int .i64 0), (.slice none 0 0)]) 32 rfl Try.underlying45 info53 rfl (by decide) (by omega) u5 x5_1 (⟨t473, t474⟩ : S53) [.int .i64 t473, .slice Ao45 t474.length co45] (fun k_ => k_ ≠ gb434) (fun k_ => some k_ = (.slice Ao45 t474.length co45 : Value).ownBlock) rfl rfl ?aP (fun k_ hk_ => ((Kd.R_mono (ok' := fun k_ => ((fun k_ => k_ ≠ gb434)) k_ ∧ some k_ ≠ (u5 : Value).ownBlock) (Kd.R_types (Kd.R_apart' (HO476.out) (Kd.S_typed HO_5.out) (by decide)) BK434.out (by decide)) (fun k_ hk => ⟨hk.2, hk.1.2⟩))).1 k_ hk_.symm) ?aF ?aO ?aB ?aS ?aL ?_; (case aP => exact k53_mkM _ _ _ (⟨t473, t474⟩ : S53) (Kd.R_mono (Kd.R_tight rfl (Kd.R_mono (ok' := fun k_ => ((fun k_ => k_ ≠ gb434)) k_ ∧ some k_ ≠ (u5 : Value).ownBlock) (Kd.R_types (Kd.R_apart' (HO476.out) (Kd.S_typed HO_5.out) (by decide)) BK434.out (by decide)) (fun k_ hk => ⟨hk.2, hk.1.2⟩))) (fun _ h_ => h_))); (case aB => exact (uB HB)); (case aF => exact (fun k_ hk => Kd.freshB (g := gb434) (o := .cells #[.int .i64 a1_0, .slice A1_1 l1_1.length c1_1] 53 (0, 0)) (uk BK434) k_ hk)); (case aO => exact (by (with_reducible repeat (first | apply Kd.S_alloc | apply Kd.S_drewN | apply Kd.S_drew)); exact Kd.S_mono HO_5.out (fun k_ hk => ⟨hk.1, fun e_ => hk.2 e_⟩))); (case aS => exact (below_size (uB HB))); (case aL => have := LMc42.out; omega); intro v478 w44 ho hb hg hat; rw [← Ny477.out] at ho; replace BK434 := Aside0.mk (blk_grown (g := gb434) (o := .cells #[.int .i64 a1_0, .slice A1_1 l1_1.length c1_1] 53 (0, 0)) (uk BK434) hg (Kd.S_away HO_5.out (fun _ hk => hk.1))); replace HB := Aside0.mk hb; have HO479 := Aside0.mk ho; clear HO_5 HO476; clear ho hb hg hat))
          go_roundg kj6
          case measure => have := HK1.out; have := HJ6.out; omega
          case rel => exact ⟨(y477), (x6_1), (wrap64 (x7_1 + 1)), (by first | rfl | (simp; done) | (simp [*]; done)), (by first | rfl | (simp; done) | (simp [*]; done)), H', ⟨by have := HK1.out; have := HJ6.out; omega⟩, ⟨by (with_reducible repeat (first | apply Kd.S_alloc | apply Kd.S_drewN | apply Kd.S_drew)); exact HO479.out⟩, ⟨uk BK434⟩, ⟨uB HB⟩⟩
         ·rw [if_neg c42] at H
          exact absurd H (by simp)
        ·rw [if_neg c40] at H
         exact absurd H (by simp)
       ·rw [if_neg c39] at H
        exact absurd H (by simp)
   ·rw [if_neg c6] at H
    have c6b0 : decide (x7_1 < (l0.length : Int)) = false := decide_eq_false c6
    clear c6
    by_cases c46 : x6_1 = true
    ·subst c46
     have H1 : (some x5_1) = some r := by rw [if_pos rfl] at H; exact H
     clear H
     have H := H1
     clear H1
     obtain rfl := Option.some.inj H
     go_wp2
     go_ret
     exact ⟨_, by first | rfl | (simp [errW_none, errW_some] <;> rfl) | (simp [*, errW_none, errW_some] <;> rfl), by (with_reducible repeat (first | apply Kd.S_alloc | apply Kd.S_drewN | apply Kd.S_drew)); exact Kd.S_mono HO_5.out (fun _ hk => trivial), uB HB⟩
    ·replace c46 := Bool.eq_false_iff.mpr c46
     subst c46
     have H1 : ((spec_l5Copy.f a1_0 l1_1).bind fun bt438 => (if x5_1.length < 4398046511104 then (some (x5_1 ++ [(⟨bt438.1, bt438.2⟩ : S53)])) else (none))) = some r := by rw [if_neg (show ¬ (false = true) by decide)] at H; exact H
     clear H
     have H := H1
     clear H1
     replace H := Option.bind_eq_some_iff.mp H
     obtain ⟨⟨t438, t439⟩, A470, H⟩ := H
     replace H : (if x5_1.length < 4398046511104 then (some (x5_1 ++ [(⟨t438, t439⟩ : S53)])) else (none)) = some r := H
     have A47 := Aside0.mk A470
     clear A470
     by_cases c48 : x5_1.length < 4398046511104
     ·rw [if_pos c48] at H
      have LMc48 := Aside0.mk c48
      clear c48
      obtain ⟨y442, hy442⟩ : ∃ y_ : List (S53), y_ = (x5_1 ++ [(⟨t438, t439⟩ : S53)]) := ⟨_, rfl⟩
      replace H : (some y442) = some r := by first | (rw [hy442]; with_reducible exact H) | (have H2_ := (Option.bind_some _ _).symm.trans H; rw [hy442]; with_reducible exact H2_) | (have H2_ := (Option.bind_some _ _).symm.trans H; with_reducible exact H2_) | with_reducible exact H | (rw [hy442]; exact H) | exact H
      have Ny442 := Aside0.mk hy442
      clear hy442
      obtain rfl := Option.some.inj H
      have hcz49_0 : wr.cell? ⟨gb434, 0, none⟩ = some (.int .i64 a1_0) := kc BK434 rfl
      have hcz49_1 : wr.cell? ⟨gb434, 1, none⟩ = some (.slice A1_1 l1_1.length c1_1) := kc BK434 rfl
      have hfz49_0 := blk_frozen BK434.out 0
      have hfz49_1 := blk_frozen BK434.out 1
      go_wp2_with (first | ((with_reducible refine gate_callee (f := 92) rfl ?_); refine goesL_ (some 50) rfl rfl Try.func92 (by kernel_rfl) rfl #[.agg #[.int .i64 a1_0, .slice A1_1 l1_1.length c1_1]] rfl (by (try simp only [List.map_toArray, List.map_cons, List.map_nil]); first | done | rfl | (simp only [List.length_drop, List.length_take]; rfl)) ?_; (with_reducible refine (spec_l5Copy.calls a1_0 _ _ l1_1 t438 t439 _ ?side1 ?side2 A47.out).mono ?_); (case side1 => exact uC HR1_1 HB); (case side2 => exact HC1_1.out); rintro e w50 ⟨v440, rfl, ho0, hb⟩; refine ⟨_, rfl, ?_⟩; replace HO_5 := Aside0.mk (Kd.S_elder' (by (with_reducible repeat (first | apply Kd.S_alloc | apply Kd.S_drewN | apply Kd.S_drew)); exact HO_5.out) (Kd.R_base ho0) hb); have HO441 := Aside0.mk (Kd.R_lower ho0 (below_size (uB HB))); replace BK434 := uK BK434 hb; replace HB := uS HB hb; (try clear hb); (try clear hb2); (try clear hk); (try clear hi); (try clear ho0); obtain ⟨Ao52, co52, eo52⟩ := Kd.R_slice HO441.out; subst eo52) | ((with_reducible refine gate_builtin (b := .append) (xs := #[.tmp 48, .tmp 51]) rfl ?_); at_builtin; refine Kd.S_append k53 (w0 := w) w.heap.size rfl (.tmp 48) (.tmp 51) 45 53 (.agg #[(.int .i64 0), (.slice none 0 0)]) 32 rfl Try.underlying45 info53 rfl (by decide) (by omega) u5 x5_1 (⟨t438, t439⟩ : S53) [.int .i64 t438, .slice Ao52 t439.length co52] (fun k_ => k_ ≠ gb434) (fun k_ => some k_ = (.slice Ao52 t439.length co52 : Value).ownBlock) rfl rfl ?aP (fun k_ hk_ => ((Kd.R_mono (ok' := fun k_ => ((fun k_ => k_ ≠ gb434)) k_ ∧ some k_ ≠ (u5 : Value).ownBlock) (Kd.R_types (Kd.R_apart' (HO441.out) (Kd.S_typed HO_5.out) (by decide)) BK434.out (by decide)) (fun k_ hk => ⟨hk.2, hk.1.2⟩))).1 k_ hk_.symm) ?aF ?aO ?aB ?aS ?aL ?_; (case aP => exact k53_mkM _ _ _ (⟨t438, t439⟩ : S53) (Kd.R_mono (Kd.R_tight rfl (Kd.R_mono (ok' := fun k_ => ((fun k_ => k_ ≠ gb434)) k_ ∧ some k_ ≠ (u5 : Value).ownBlock) (Kd.R_types (Kd.R_apart' (HO441.out) (Kd.S_typed HO_5.out) (by decide)) BK434.out (by decide)) (fun k_ hk => ⟨hk.2, hk.1.2⟩))) (fun _ h_ => h_))); (case aB => exact (uB HB)); (case aF => exact (fun k_ hk => Kd.freshB (g := gb434) (o := .cells #[.int .i64 a1_0, .slice A1_1 l1_1.length c1_1] 53 (0, 0)) (uk BK434) k_ hk)); (case aO => exact (by (with_reducible repeat (first | apply Kd.S_alloc | apply Kd.S_drewN | apply Kd.S_drew)); exact Kd.S_mono HO_5.out (fun k_ hk => ⟨hk.1, fun e_ => hk.2 e_⟩))); (case aS => exact (below_size (uB HB))); (case aL => have := LMc48.out; omega); intro v443 w51 ho hb hg hat; rw [← Ny442.out] at ho; replace BK434 := Aside0.mk (blk_grown (g := gb434) (o := .cells #[.int .i64 a1_0, .slice A1_1 l1_1.length c1_1] 53 (0, 0)) (uk BK434) hg (Kd.S_away HO_5.out (fun _ hk => hk.1))); replace HB := Aside0.mk hb; have HO444 := Aside0.mk ho; clear HO_5 HO441; clear ho hb hg hat))
      go_ret
      exact ⟨_, by first | rfl | (simp [errW_none, errW_some] <;> rfl) | (simp [*, errW_none, errW_some] <;> rfl), by (with_reducible repeat (first | apply Kd.S_alloc | apply Kd.S_drewN | apply Kd.S_drew)); exact Kd.S_mono HO444.out (fun _ hk => trivial), uB HB⟩
     ·rw [if_neg c48] at H
      exact absurd H (by simp)

end Go.Proofs.Ytjglknoebaojgaa.P

