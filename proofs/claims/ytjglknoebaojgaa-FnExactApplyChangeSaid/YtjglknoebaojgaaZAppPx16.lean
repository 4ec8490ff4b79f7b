/- Out of YtjglknoebaojgaaPx16: what the claim needs of it. Conditions: each declaration's own. -/
import Derived.Test.YtjglknoebaojgaaZAppPUp
import Derived.Test.YtjglknoebaojgaaZAppM12
import Derived.Test.YtjglknoebaojgaaZAppM13
import Derived.Test.YtjglknoebaojgaaZAppM14
import Derived.Test.YtjglknoebaojgaaZAppPx15
namespace Go.Proofs.Ytjglknoebaojgaa.P
open Go.RowKit Go.Proofs.YtjglknoebaojgaaW.PrintWords Go.Proofs.YtjglknoebaojgaaW.PrintLast Go.Proofs.YtjglknoebaojgaaW.PrintMore
attribute [local go_sem] max2_int min2_int max_two min_two max_three min_three max_four min_four   -- for this text's walks alone
set_option linter.unusedVariables false
set_option linter.unusedSimpArgs false

def spec_ApplyChange.j0 : Nat → Bool → List Int → List (S53) → Int → Bool → Int → List Int → List (S53) → Int → Option ((List (S53)) × Int × Bool)
 | 0, _, _, _, _, _, _, _, _, _ => none
 | k + 1, x25, x512000, x513000, x513001, x514000, x514001, x514002, x519000, x519001 => if x25 = true then (some (x519000, x519001, false)) else ((spec_AddFact.f k x512000 x513000 x514001 x514002).bind fun bt520 => (if x514000 = true then (if bt520.2 = true then (some (bt520.1, wrap64 (x513001 + 1), true)) else (some (x519000, x519001, false))) else ((spec_RemoveFact.f k x512000 x513000 x514001 x514002).bind fun bt524 => (if bt524.2 = true then (some (bt524.1, wrap64 (x513001 + 1), true)) else (some (x519000, x519001, false))))))
def spec_ApplyChange.f (k : Nat) (l0_0 : List Int) (l1_0 : List (S53)) (a1_1 : Int) (a2_0 : Bool) (a2_1 : Int) (l2_2 : List Int) : Option ((List (S53)) × Int × Bool) := (spec_l5All.f k l1_0).bind fun t515 => ((spec_IsSource.f k l0_0 l1_0 a1_1).bind fun t519 => (if t519 = true then (spec_ApplyChange.j0 k (decide (a1_1 ≥ 1000)) l0_0 l1_0 a1_1 a2_0 a2_1 l2_2 t515 a1_1) else (spec_ApplyChange.j0 k true l0_0 l1_0 a1_1 a2_0 a2_1 l2_2 t515 a1_1)))
def spec_ApplyChange.T1 : Bool × List (List Nat × List Nat) := (true, [([], []), ([0], [0]), ([1], [1]), ([], []), ([3], [3]), ([2, 4], [2, 4]), ([], []), ([6, 5, 2, 0, 1, 2, 3, 4, 5, 6], [5, 6])])
def spec_ApplyChange.B1 : List Nat := [0, 1, 3, 0, 8, 31, 0, 127]
theorem spec_ApplyChange.tab1 : rtab .any (opsOf Try.f19 1) = spec_ApplyChange.T1 := by kernel_rfl
theorem spec_ApplyChange.bits1 : waitsOk spec_ApplyChange.T1.2 spec_ApplyChange.B1 = true := by kernel_rfl
set_option maxHeartbeats 8000000 in
set_option maxRecDepth 100000 in
theorem spec_ApplyChange.calls (k : Nat) (A0_0 : Option Addr) (c0_0 : Nat) (l0_0 : List Int) (A1_0 : Option Addr) (c1_0 : Nat) (l1_0 : List (S53)) (a1_1 : Int) (a2_0 : Bool) (a2_1 : Int) (A2_2 : Option Addr) (c2_2 : Nat) (l2_2 : List Int) (r1 : List (S53)) (r2 : Int) (r3 : Bool) (w : World) (hr0_0 : Kd.C (Kd.int .i64) w A0_0 l0_0.length l0_0) (hc0_0 : l0_0.length ≤ c0_0) (hr1_0 : Kd.C k53 w A1_0 l1_0.length l1_0) (hc1_0 : l1_0.length ≤ c1_0) (hr2_2 : Kd.C (Kd.int .i64) w A2_2 l2_2.length l2_2) (hc2_2 : l2_2.length ≤ c2_2) (h : spec_ApplyChange.f k l0_0 l1_0 a1_1 a2_0 a2_1 l2_2 = some (r1, r2, r3)) :
  Calls Try.prog 19 #[.agg #[.slice A0_0 l0_0.length c0_0], .agg #[.slice A1_0 l1_0.length c1_0, .int .i64 a1_1], .agg #[.bool a2_0, .int .i64 a2_1, .slice A2_2 l2_2.length c2_2]] w fun e w' => ∃ v0_ : Value, e = .returned (.tuple #[.agg #[v0_, .int .i64 r2], .bool r3]) ∧ Kd.S k53 53 w' w.heap.size (fun _ => True) v0_ r1 ∧ Below w.heap.size w w' := by
 have hu50 := Try.underlying50
 have hu47 := Try.underlying47
 have hu55 := Try.underlying55
 have hu53 := Try.underlying53
 have HR0_0 := Aside0.mk hr0_0
 have HC0_0 := Aside0.mk hc0_0
 clear hr0_0 hc0_0
 have HR1_0 := Aside0.mk hr1_0
 have HC1_0 := Aside0.mk hc1_0
 clear hr1_0 hc1_0
 have HR2_2 := Aside0.mk hr2_2
 have HC2_2 := Aside0.mk hc2_2
 clear hr2_2 hc2_2
 have HB := Aside0.mk (Below.refl w.heap.size w)
 have H : ((spec_l5All.f k l1_0).bind fun t515 => ((spec_IsSource.f k l0_0 l1_0 a1_1).bind fun t519 => (if t519 = true then (spec_ApplyChange.j0 k (decide (a1_1 ≥ 1000)) l0_0 l1_0 a1_1 a2_0 a2_1 l2_2 t515 a1_1) else (spec_ApplyChange.j0 k true l0_0 l1_0 a1_1 a2_0 a2_1 l2_2 t515 a1_1)))) = some (r1, r2, r3) := h
 clear h
 replace H := Option.bind_eq_some_iff.mp H
 obtain ⟨t515, A40, H⟩ := H
 replace H : ((spec_IsSource.f k l0_0 l1_0 a1_1).bind fun t519 => (if t519 = true then (spec_ApplyChange.j0 k (decide (a1_1 ≥ 1000)) l0_0 l1_0 a1_1 a2_0 a2_1 l2_2 t515 a1_1) else (spec_ApplyChange.j0 k true l0_0 l1_0 a1_1 a2_0 a2_1 l2_2 t515 a1_1))) = some (r1, r2, r3) := H
 have A4 := Aside0.mk A40
 clear A40
 have HC5 := Aside0.mk H
 clear H
 go_enter Try.func19, Try.ntmps19
 try go_wp2_with (first | ((with_reducible refine gate_dst (N := 3) rfl ?_); refine box_event ?hg (N := 3) ?hd (cs := #[.slice A0_0 l0_0.length c0_0]) (t := 50) ?hr ?_; (case hd => rfl); (case hg => rfl); (case hr => first | (go_simp; done) | (go_simp; rfl)); intro gb511 hg w6 hbox hb; have BK511 := Aside0.mk hbox; have GW511 := uG HB hg; have GE511 := uG HB hg; replace HB := uS HB hb; clear hb hbox hg) | ((with_reducible refine gate_dst (N := 4) rfl ?_); refine box_event ?hg (N := 4) ?hd (cs := #[.slice A1_0 l1_0.length c1_0, .int .i64 a1_1]) (t := 47) ?hr ?_; (case hd => rfl); (case hg => rfl); (case hr => first | (go_simp; done) | (go_simp; rfl)); intro gb512 hg w7 hbox hb; have BK512 := Aside0.mk hbox; have GW512 := uG HB hg; have GE512 := uG HB hg; replace HB := uS HB hb; have NB511_512 := uN BK511 hg; have NB512_511 := uM BK511 hg; replace BK511 := uK BK511 hb; clear hb hbox hg) | ((with_reducible refine gate_dst (N := 5) rfl ?_); refine box_event ?hg (N := 5) ?hd (cs := #[.bool a2_0, .int .i64 a2_1, .slice A2_2 l2_2.length c2_2]) (t := 55) ?hr ?_; (case hd => rfl); (case hg => rfl); (case hr => first | (go_simp; done) | (go_simp; rfl)); intro gb513 hg w8 hbox hb; have BK513 := Aside0.mk hbox; have GW513 := uG HB hg; have GE513 := uG HB hg; replace HB := uS HB hb; have NB511_513 := uN BK511 hg; have NB513_511 := uM BK511 hg; replace BK511 := uK BK511 hb; have NB512_513 := uN BK512 hg; have NB513_512 := uM BK512 hg; replace BK512 := uK BK512 hb; clear hb hbox hg) | ((with_reducible refine gate_dst (N := 6) rfl ?_); refine box_event ?hg (N := 6) ?hd (cs := #[.slice none 0 0, .int .i64 0]) (t := 47) ?hr ?_; (case hd => rfl); (case hg => rfl); (case hr => first | (go_simp; done) | (go_simp; rfl)); intro gb514 hg w9 hbox hb; have BK514 := Aside0.mk hbox; have GW514 := uG HB hg; have GE514 := uG HB hg; replace HB := uS HB hb; have NB511_514 := uN BK511 hg; have NB514_511 := uM BK511 hg; replace BK511 := uK BK511 hb; have NB512_514 := uN BK512 hg; have NB514_512 := uM BK512 hg; replace BK512 := uK BK512 hb; have NB513_514 := uN BK513 hg; have NB514_513 := uM BK513 hg; replace BK513 := uK BK513 hb; clear hb hbox hg))
 have n0_ := Aside0.mk (blk_drew BK511.out)
 have n1_ := Aside0.mk (blk_drew BK512.out)
 have n2_ := Aside0.mk (blk_drew BK513.out)
 have n3_ := Aside0.mk (blk_drew BK514.out)
 have n4_ := Aside0.mk (below_drew1 HB.out)
 clear BK511
 clear BK512
 clear BK513
 clear BK514
 clear HB
 have BK511 := n0_
 have BK512 := n1_
 have BK513 := n2_
 have BK514 := n3_
 have HB := n4_
 clear n0_ n1_ n2_ n3_ n4_
 refine start_ (n := 8) (S := fun w' => w'.cell? ⟨gb512, 0, none⟩ = some (.slice A1_0 l1_0.length c1_0) ∧ w'.cell? ⟨gb512, 1, none⟩ = some (.int .i64 a1_1)) (ds := []) #[false, false, false, false, false, false, false, false] (by kernel_rfl) rfl rfl ⟨kc BK512 rfl, kc BK512 rfl⟩ (fun hHeld => ?_); refine with_tabW spec_ApplyChange.tab1 spec_ApplyChange.bits1 (fun HT_ HW_ => ?_)
 generalize w9.drew = w10 at BK511 BK512 BK513 BK514 HB hHeld ⊢
 refine pure_ (i := 0) (N := some 11) (v := ?_) (a' := ?_) #[true, false, false, false, false, false, false, false] rfl rfl (any_of HT_.out (by kernel_rfl)) (fun _ _ _ h => h) (Or.inl ⟨by rfl, ?_⟩) ?_ ?_
 rotate_left
 ·intro w'
  go_simp
  with_reducible rfl
 rotate_left
 ·simp only [Act.put, sA, sZ, sS, i64_w, i32_w]
  rfl
 refine pure_ (i := 3) (N := some 14) (v := ?_) (a' := ?_) #[true, false, false, true, false, false, false, false] rfl rfl (any_of HT_.out (by kernel_rfl)) (fun _ _ _ h => h) (Or.inl ⟨by rfl, ?_⟩) ?_ ?_
 rotate_left
 ·intro w'
  go_simp
  with_reducible rfl
 rotate_left
 ·simp only [Act.put, sA, sZ, sS, i64_w, i32_w]
  rfl
 refine take_ (i := 1) (N := some 12) (v := ?_) (a' := ?_) #[true, true, false, true, false, false, false, false] rfl rfl (take_ofW HT_.out HW_.out (by kernel_rfl)) (fun _ _ _ h => h) (Or.inl ⟨by rfl, ?_⟩) hHeld ?_ ?_
 rotate_left
 ·rintro w' ⟨s0, s1⟩
  go_simp
  with_reducible rfl
 rotate_left
 ·simp only [Act.put, sA, sZ, sS, i64_w, i32_w]
  rfl
 refine take_ (i := 4) (N := some 15) (v := ?_) (a' := ?_) #[true, true, false, true, true, false, false, false] rfl rfl (take_ofW HT_.out HW_.out (by kernel_rfl)) (fun _ _ _ h => h) (Or.inl ⟨by rfl, ?_⟩) hHeld ?_ ?_
 rotate_left
 ·rintro w' ⟨s0, s1⟩
  go_simp
  with_reducible rfl
 rotate_left
 ·simp only [Act.put, sA, sZ, sS, i64_w, i32_w]
  rfl
 refine join_ (σ := Value × Nat) 1 #[true, true, true, true, true, true, true, false] (fun s_ => [(13, s_.1), (8, .pointer (some ⟨s_.2, 0, none⟩)), (16, .agg #[s_.1, .int .i64 a1_1])]) (fun s_ w' => (w'.cell? ⟨gb512, 0, none⟩ = some (.slice A1_0 l1_0.length c1_0) ∧ w'.cell? ⟨gb512, 1, none⟩ = some (.int .i64 a1_1)) ∧ (Kd.S k53 53 w' w.heap.size (fun _ => True) s_.1 t515) ∧ (w'.heap[gb511]? = some (.cells #[.slice A0_0 l0_0.length c0_0] 50 (0, 0))) ∧ (w'.heap[gb512]? = some (.cells #[.slice A1_0 l1_0.length c1_0, .int .i64 a1_1] 47 (0, 0))) ∧ (w'.heap[gb513]? = some (.cells #[.bool a2_0, .int .i64 a2_1, .slice A2_2 l2_2.length c2_2] 55 (0, 0))) ∧ (w'.heap[gb514]? = some (.cells #[.slice none 0 0, .int .i64 0] 47 (0, 0))) ∧ (w'.heap[s_.2]? = some (.cells #[.slice none 0 0, .int .i64 0] 47 (0, 0))) ∧ (w.heap.size ≤ s_.2) ∧ (w.heap.size ≤ s_.2) ∧ (gb511 ≠ s_.2) ∧ (s_.2 ≠ gb511) ∧ (gb512 ≠ s_.2) ∧ (s_.2 ≠ gb512) ∧ (gb513 ≠ s_.2) ∧ (s_.2 ≠ gb513) ∧ (gb514 ≠ s_.2) ∧ (s_.2 ≠ gb514) ∧ (Below w.heap.size w w')) ?_ ?_
 rotate_left
 ·intro hCont
  refine two_ (i := 2) (j := 6) (Ni := some 13) (Nj := some 8) #[true, true, true, true, true, false, false, false] #[true, true, false, true, true, false, true, false] rfl rfl rfl rfl (two_of HT_.out (by kernel_rfl)) (by decide) (by decide) (fun K hK => ?_) (fun K hK => ?_)
  ·skip
   refine goes_ Try.func59 (by kernel_rfl) rfl #[.slice A1_0 l1_0.length c1_0] (by rfl) rfl rfl (by (try simp only [List.map_toArray, List.map_cons, List.map_nil]); first | done | rfl | (simp only [List.length_drop, List.length_take]; rfl)) ?_
   with_reducible refine (spec_l5All.calls k _ _ l1_0 t515 _ ?side1 ?side2 A4.out).mono ?_
   (case side1 => exact uC HR1_0 HB)
   (case side2 => exact HC1_0.out)
   rintro e w11 ⟨v516, rfl, ho0, hb⟩
   refine ⟨_, rfl, ?_⟩
   have n0_ := Aside0.mk (Kd.S_lower ho0 (below_size (uB HB)))
   have n1_ := Aside0.mk (blk_below (g := gb511) (o := .cells #[.slice A0_0 l0_0.length c0_0] 50 (0, 0)) (uk BK511) hb)
   have n2_ := Aside0.mk (blk_below (g := gb512) (o := .cells #[.slice A1_0 l1_0.length c1_0, .int .i64 a1_1] 47 (0, 0)) (uk BK512) hb)
   have n3_ := Aside0.mk (blk_below (g := gb513) (o := .cells #[.bool a2_0, .int .i64 a2_1, .slice A2_2 l2_2.length c2_2] 55 (0, 0)) (uk BK513) hb)
   have n4_ := Aside0.mk (blk_below (g := gb514) (o := .cells #[.slice none 0 0, .int .i64 0] 47 (0, 0)) (uk BK514) hb)
   have n5_ := Aside0.mk (below_step (uB HB) hb)
   clear BK511
   clear BK512
   clear BK513
   clear BK514
   clear HB
   have HO517 := n0_
   have BK511 := n1_
   have BK512 := n2_
   have BK513 := n3_
   have BK514 := n4_
   have HB := n5_
   clear n0_ n1_ n2_ n3_ n4_ n5_
   (try clear hb)
   (try clear hb2)
   (try clear hk)
   (try clear hi)
   (try clear ho0)
   obtain ⟨Ao12, co12, eo12⟩ := Kd.S_slice HO517.out
   (first | subst eo12 | (injection eo12 with f1_ f2_ f3_; have f4_ := f1_.symm; have f5_ := f3_.symm; clear f1_ f2_ f3_; subst f4_; subst f5_))
   refine hK.out _ _ ⟨kc BK512 rfl, kc BK512 rfl⟩ (fun hHeld => ?_)
   clear hK K
   refine norm_ (a' := ?_) ?_ ?_
   rotate_left
   ·show Act.put _ (some 13) _ = _
    simp only [Act.put, sA, sZ, sS, i64_w, i32_w]
    rfl
   refine pure_ (i := 5) (N := some 16) (v := ?_) (a' := ?_) #[true, true, true, true, true, true, false, false] rfl rfl (any_of HT_.out (by kernel_rfl)) (fun _ _ _ h => h) (Or.inl ⟨by rfl, ?_⟩) ?_ ?_
   rotate_left
   ·intro w'
    go_simp
    with_reducible rfl
   rotate_left
   ·simp only [Act.put, sA, sZ, sS, i64_w, i32_w]
    rfl
   refine one_ (i := 6) (N := some 8) #[true, true, true, true, true, true, true, false] rfl rfl (one_of HT_.out (by kernel_rfl)) (by decide) (fun K hK => ?_)
   refine box_step ?hg (N := 8) ?hd (cs := #[.slice none 0 0, .int .i64 0]) (t := 47) ?hr ?_; (case hd => rfl); (case hg => rfl); (case hr => first | (go_simp; done) | (go_simp; rfl))
   intro gb518 hg w13 hbox hb
   have n0_ := Aside0.mk (Kd.S_below (by (with_reducible repeat (first | apply Kd.S_alloc | apply Kd.S_drewN | apply Kd.S_drew)); exact HO517.out) hb)
   have n1_ := Aside0.mk (blk_below (g := gb511) (o := .cells #[.slice A0_0 l0_0.length c0_0] 50 (0, 0)) (uk BK511) hb)
   have n2_ := Aside0.mk (blk_below (g := gb512) (o := .cells #[.slice A1_0 l1_0.length c1_0, .int .i64 a1_1] 47 (0, 0)) (uk BK512) hb)
   have n3_ := Aside0.mk (blk_below (g := gb513) (o := .cells #[.bool a2_0, .int .i64 a2_1, .slice A2_2 l2_2.length c2_2] 55 (0, 0)) (uk BK513) hb)
   have n4_ := Aside0.mk (blk_below (g := gb514) (o := .cells #[.slice none 0 0, .int .i64 0] 47 (0, 0)) (uk BK514) hb)
   have n5_ := Aside0.mk (below_step (uB HB) hb)
   have n6_ := Aside0.mk (hbox)
   have n7_ := Aside0.mk ((by rw [hg]; exact (below_size (uB HB)) : w.heap.size ≤ gb518))
   have n8_ := Aside0.mk ((by rw [hg]; exact (below_size (uB HB)) : w.heap.size ≤ gb518))
   have n9_ := Aside0.mk ((by rw [hg]; exact Nat.ne_of_lt (blk_lt (g := gb511) (o := .cells #[.slice A0_0 l0_0.length c0_0] 50 (0, 0)) (uk BK511)) : gb511 ≠ gb518))
   have n10_ := Aside0.mk ((by rw [hg]; exact Nat.ne_of_gt (blk_lt (g := gb511) (o := .cells #[.slice A0_0 l0_0.length c0_0] 50 (0, 0)) (uk BK511)) : gb518 ≠ gb511))
   have n11_ := Aside0.mk ((by rw [hg]; exact Nat.ne_of_lt (blk_lt (g := gb512) (o := .cells #[.slice A1_0 l1_0.length c1_0, .int .i64 a1_1] 47 (0, 0)) (uk BK512)) : gb512 ≠ gb518))
   have n12_ := Aside0.mk ((by rw [hg]; exact Nat.ne_of_gt (blk_lt (g := gb512) (o := .cells #[.slice A1_0 l1_0.length c1_0, .int .i64 a1_1] 47 (0, 0)) (uk BK512)) : gb518 ≠ gb512))
   have n13_ := Aside0.mk ((by rw [hg]; exact Nat.ne_of_lt (blk_lt (g := gb513) (o := .cells #[.bool a2_0, .int .i64 a2_1, .slice A2_2 l2_2.length c2_2] 55 (0, 0)) (uk BK513)) : gb513 ≠ gb518))
   have n14_ := Aside0.mk ((by rw [hg]; exact Nat.ne_of_gt (blk_lt (g := gb513) (o := .cells #[.bool a2_0, .int .i64 a2_1, .slice A2_2 l2_2.length c2_2] 55 (0, 0)) (uk BK513)) : gb518 ≠ gb513))
   have n15_ := Aside0.mk ((by rw [hg]; exact Nat.ne_of_lt (blk_lt (g := gb514) (o := .cells #[.slice none 0 0, .int .i64 0] 47 (0, 0)) (uk BK514)) : gb514 ≠ gb518))
   have n16_ := Aside0.mk ((by rw [hg]; exact Nat.ne_of_gt (blk_lt (g := gb514) (o := .cells #[.slice none 0 0, .int .i64 0] 47 (0, 0)) (uk BK514)) : gb518 ≠ gb514))
   clear HO517
   clear BK511
   clear BK512
   clear BK513
   clear BK514
   clear HB
   have HO517 := n0_
   have BK511 := n1_
   have BK512 := n2_
   have BK513 := n3_
   have BK514 := n4_
   have HB := n5_
   have BK518 := n6_
   have GW518 := n7_
   have GE518 := n8_
   have NB511_518 := n9_
   have NB518_511 := n10_
   have NB512_518 := n11_
   have NB518_512 := n12_
   have NB513_518 := n13_
   have NB518_513 := n14_
   have NB514_518 := n15_
   have NB518_514 := n16_
   clear n0_ n1_ n2_ n3_ n4_ n5_ n6_ n7_ n8_ n9_ n10_ n11_ n12_ n13_ n14_ n15_ n16_
   clear hb hbox hg
   refine hK.out _ _ ⟨kc BK512 rfl, kc BK512 rfl⟩ (fun hHeld => ?_)
   clear hK K
   refine norm_ (a' := ?_) ?_ ?_
   rotate_left
   ·show Act.put _ (some 8) _ = _
    simp only [Act.put, sA, sZ, sS, i64_w, i32_w]
    rfl
   exact norm_ (by simp only [putAll, Act.put, sA, sZ, sS]) (hCont (.slice Ao12 t515.length co12, gb518) _ ⟨hHeld, (by (with_reducible repeat (first | apply Kd.S_alloc | apply Kd.S_drewN | apply Kd.S_drew)); exact HO517.out), (uk BK511), (uk BK512), (uk BK513), (uk BK514), (uk BK518), GW518.out, GE518.out, NB511_518.out, NB518_511.out, NB512_518.out, NB518_512.out, NB513_518.out, NB518_513.out, NB514_518.out, NB518_514.out, (uB HB)⟩)
  ·skip
   refine box_step ?hg (N := 8) ?hd (cs := #[.slice none 0 0, .int .i64 0]) (t := 47) ?hr ?_; (case hd => rfl); (case hg => rfl); (case hr => first | (go_simp; done) | (go_simp; rfl))
   intro gb518 hg w11 hbox hb
   have n0_ := Aside0.mk (blk_below (g := gb511) (o := .cells #[.slice A0_0 l0_0.length c0_0] 50 (0, 0)) (uk BK511) hb)
   have n1_ := Aside0.mk (blk_below (g := gb512) (o := .cells #[.slice A1_0 l1_0.length c1_0, .int .i64 a1_1] 47 (0, 0)) (uk BK512) hb)
   have n2_ := Aside0.mk (blk_below (g := gb513) (o := .cells #[.bool a2_0, .int .i64 a2_1, .slice A2_2 l2_2.length c2_2] 55 (0, 0)) (uk BK513) hb)
   have n3_ := Aside0.mk (blk_below (g := gb514) (o := .cells #[.slice none 0 0, .int .i64 0] 47 (0, 0)) (uk BK514) hb)
   have n4_ := Aside0.mk (below_step (uB HB) hb)
   have n5_ := Aside0.mk (hbox)
   have n6_ := Aside0.mk ((by rw [hg]; exact (below_size (uB HB)) : w.heap.size ≤ gb518))
   have n7_ := Aside0.mk ((by rw [hg]; exact (below_size (uB HB)) : w.heap.size ≤ gb518))
   have n8_ := Aside0.mk ((by rw [hg]; exact Nat.ne_of_lt (blk_lt (g := gb511) (o := .cells #[.slice A0_0 l0_0.length c0_0] 50 (0, 0)) (uk BK511)) : gb511 ≠ gb518))
   have n9_ := Aside0.mk ((by rw [hg]; exact Nat.ne_of_gt (blk_lt (g := gb511) (o := .cells #[.slice A0_0 l0_0.length c0_0] 50 (0, 0)) (uk BK511)) : gb518 ≠ gb511))
   have n10_ := Aside0.mk ((by rw [hg]; exact Nat.ne_of_lt (blk_lt (g := gb512) (o := .cells #[.slice A1_0 l1_0.length c1_0, .int .i64 a1_1] 47 (0, 0)) (uk BK512)) : gb512 ≠ gb518))
   have n11_ := Aside0.mk ((by rw [hg]; exact Nat.ne_of_gt (blk_lt (g := gb512) (o := .cells #[.slice A1_0 l1_0.length c1_0, .int .i64 a1_1] 47 (0, 0)) (uk BK512)) : gb518 ≠ gb512))
   have n12_ := Aside0.mk ((by rw [hg]; exact Nat.ne_of_lt (blk_lt (g := gb513) (o := .cells #[.bool a2_0, .int .i64 a2_1, .slice A2_2 l2_2.length c2_2] 55 (0, 0)) (uk BK513)) : gb513 ≠ gb518))
   have n13_ := Aside0.mk ((by rw [hg]; exact Nat.ne_of_gt (blk_lt (g := gb513) (o := .cells #[.bool a2_0, .int .i64 a2_1, .slice A2_2 l2_2.length c2_2] 55 (0, 0)) (uk BK513)) : gb518 ≠ gb513))
   have n14_ := Aside0.mk ((by rw [hg]; exact Nat.ne_of_lt (blk_lt (g := gb514) (o := .cells #[.slice none 0 0, .int .i64 0] 47 (0, 0)) (uk BK514)) : gb514 ≠ gb518))
   have n15_ := Aside0.mk ((by rw [hg]; exact Nat.ne_of_gt (blk_lt (g := gb514) (o := .cells #[.slice none 0 0, .int .i64 0] 47 (0, 0)) (uk BK514)) : gb518 ≠ gb514))
   clear BK511
   clear BK512
   clear BK513
   clear BK514
   clear HB
   have BK511 := n0_
   have BK512 := n1_
   have BK513 := n2_
   have BK514 := n3_
   have HB := n4_
   have BK518 := n5_
   have GW518 := n6_
   have GE518 := n7_
   have NB511_518 := n8_
   have NB518_511 := n9_
   have NB512_518 := n10_
   have NB518_512 := n11_
   have NB513_518 := n12_
   have NB518_513 := n13_
   have NB514_518 := n14_
   have NB518_514 := n15_
   clear n0_ n1_ n2_ n3_ n4_ n5_ n6_ n7_ n8_ n9_ n10_ n11_ n12_ n13_ n14_ n15_
   clear hb hbox hg
   refine hK.out _ _ ⟨kc BK512 rfl, kc BK512 rfl⟩ (fun hHeld => ?_)
   clear hK K
   refine norm_ (a' := ?_) ?_ ?_
   rotate_left
   ·show Act.put _ (some 8) _ = _
    simp only [Act.put, sA, sZ, sS, i64_w, i32_w]
    rfl
   refine one_ (i := 2) (N := some 13) #[true, true, true, true, true, false, true, false] rfl rfl (one_of HT_.out (by kernel_rfl)) (by decide) (fun K hK => ?_)
   refine goes_ Try.func59 (by kernel_rfl) rfl #[.slice A1_0 l1_0.length c1_0] (by rfl) rfl rfl (by (try simp only [List.map_toArray, List.map_cons, List.map_nil]); first | done | rfl | (simp only [List.length_drop, List.length_take]; rfl)) ?_
   with_reducible refine (spec_l5All.calls k _ _ l1_0 t515 _ ?side1 ?side2 A4.out).mono ?_
   (case side1 => exact uC HR1_0 HB)
   (case side2 => exact HC1_0.out)
   rintro e w12 ⟨v516, rfl, ho0, hb⟩
   refine ⟨_, rfl, ?_⟩
   have n0_ := Aside0.mk (Kd.S_lower ho0 (below_size (uB HB)))
   have n1_ := Aside0.mk (blk_below (g := gb511) (o := .cells #[.slice A0_0 l0_0.length c0_0] 50 (0, 0)) (uk BK511) hb)
   have n2_ := Aside0.mk (blk_below (g := gb512) (o := .cells #[.slice A1_0 l1_0.length c1_0, .int .i64 a1_1] 47 (0, 0)) (uk BK512) hb)
   have n3_ := Aside0.mk (blk_below (g := gb513) (o := .cells #[.bool a2_0, .int .i64 a2_1, .slice A2_2 l2_2.length c2_2] 55 (0, 0)) (uk BK513) hb)
   have n4_ := Aside0.mk (blk_below (g := gb514) (o := .cells #[.slice none 0 0, .int .i64 0] 47 (0, 0)) (uk BK514) hb)
   have n5_ := Aside0.mk (blk_below (g := gb518) (o := .cells #[.slice none 0 0, .int .i64 0] 47 (0, 0)) (uk BK518) hb)
   have n6_ := Aside0.mk (below_step (uB HB) hb)
   clear BK511
   clear BK512
   clear BK513
   clear BK514
   clear BK518
   clear HB
   have HO517 := n0_
   have BK511 := n1_
   have BK512 := n2_
   have BK513 := n3_
   have BK514 := n4_
   have BK518 := n5_
   have HB := n6_
   clear n0_ n1_ n2_ n3_ n4_ n5_ n6_
   (try clear hb)
   (try clear hb2)
   (try clear hk)
   (try clear hi)
   (try clear ho0)
   obtain ⟨Ao13, co13, eo13⟩ := Kd.S_slice HO517.out
   (first | subst eo13 | (injection eo13 with f1_ f2_ f3_; have f4_ := f1_.symm; have f5_ := f3_.symm; clear f1_ f2_ f3_; subst f4_; subst f5_))
   refine hK.out _ _ ⟨kc BK512 rfl, kc BK512 rfl⟩ (fun hHeld => ?_)
   clear hK K
   refine norm_ (a' := ?_) ?_ ?_
   rotate_left
   ·show Act.put _ (some 13) _ = _
    simp only [Act.put, sA, sZ, sS, i64_w, i32_w]
    rfl
   refine pure_ (i := 5) (N := some 16) (v := ?_) (a' := ?_) #[true, true, true, true, true, true, true, false] rfl rfl (any_of HT_.out (by kernel_rfl)) (fun _ _ _ h => h) (Or.inl ⟨by rfl, ?_⟩) ?_ ?_
   rotate_left
   ·intro w'
    go_simp
    with_reducible rfl
   rotate_left
   ·simp only [Act.put, sA, sZ, sS, i64_w, i32_w]
    rfl
   exact norm_ (by simp only [putAll, Act.put, sA, sZ, sS]) (hCont (.slice Ao13 t515.length co13, gb518) _ ⟨hHeld, (by (with_reducible repeat (first | apply Kd.S_alloc | apply Kd.S_drewN | apply Kd.S_drew)); exact HO517.out), (uk BK511), (uk BK512), (uk BK513), (uk BK514), (uk BK518), GW518.out, GE518.out, NB511_518.out, NB518_511.out, NB512_518.out, NB518_512.out, NB513_518.out, NB518_513.out, NB514_518.out, NB518_514.out, (uB HB)⟩)
 rintro ⟨v516, gb518⟩ w14 ⟨hS_, h0_, h1_, h2_, h3_, h4_, h5_, h6_, h7_, h8_, h9_, h10_, h11_, h12_, h13_, h14_, h15_, h16_⟩
 have n0_ : Aside0 (Kd.S k53 53 w14 w.heap.size (fun _ => True) v516 t515) := ⟨h0_⟩
 have n1_ : Aside0 (w14.heap[gb511]? = some (.cells #[.slice A0_0 l0_0.length c0_0] 50 (0, 0))) := ⟨h1_⟩
 have n2_ : Aside0 (w14.heap[gb512]? = some (.cells #[.slice A1_0 l1_0.length c1_0, .int .i64 a1_1] 47 (0, 0))) := ⟨h2_⟩
 have n3_ : Aside0 (w14.heap[gb513]? = some (.cells #[.bool a2_0, .int .i64 a2_1, .slice A2_2 l2_2.length c2_2] 55 (0, 0))) := ⟨h3_⟩
 have n4_ : Aside0 (w14.heap[gb514]? = some (.cells #[.slice none 0 0, .int .i64 0] 47 (0, 0))) := ⟨h4_⟩
 have n5_ : Aside0 (w14.heap[gb518]? = some (.cells #[.slice none 0 0, .int .i64 0] 47 (0, 0))) := ⟨h5_⟩
 have n6_ : Aside0 (w.heap.size ≤ gb518) := ⟨h6_⟩
 have n7_ : Aside0 (w.heap.size ≤ gb518) := ⟨h7_⟩
 have n8_ : Aside0 (gb511 ≠ gb518) := ⟨h8_⟩
 have n9_ : Aside0 (gb518 ≠ gb511) := ⟨h9_⟩
 have n10_ : Aside0 (gb512 ≠ gb518) := ⟨h10_⟩
 have n11_ : Aside0 (gb518 ≠ gb512) := ⟨h11_⟩
 have n12_ : Aside0 (gb513 ≠ gb518) := ⟨h12_⟩
 have n13_ : Aside0 (gb518 ≠ gb513) := ⟨h13_⟩
 have n14_ : Aside0 (gb514 ≠ gb518) := ⟨h14_⟩
 have n15_ : Aside0 (gb518 ≠ gb514) := ⟨h15_⟩
 have n16_ : Aside0 (Below w.heap.size w w14) := ⟨h16_⟩
 clear BK511
 clear BK512
 clear BK513
 clear BK514
 clear HB
 clear h0_ h1_ h2_ h3_ h4_ h5_ h6_ h7_ h8_ h9_ h10_ h11_ h12_ h13_ h14_ h15_ h16_
 have HO517 := n0_
 have BK511 := n1_
 have BK512 := n2_
 have BK513 := n3_
 have BK514 := n4_
 have BK518 := n5_
 have GW518 := n6_
 have GE518 := n7_
 have NB511_518 := n8_
 have NB518_511 := n9_
 have NB512_518 := n10_
 have NB518_512 := n11_
 have NB513_518 := n12_
 have NB518_513 := n13_
 have NB514_518 := n14_
 have NB518_514 := n15_
 have HB := n16_
 clear n0_ n1_ n2_ n3_ n4_ n5_ n6_ n7_ n8_ n9_ n10_ n11_ n12_ n13_ n14_ n15_ n16_
 have hHeld : w14.cell? ⟨gb512, 0, none⟩ = some (.slice A1_0 l1_0.length c1_0) ∧ w14.cell? ⟨gb512, 1, none⟩ = some (.int .i64 a1_1) := hS_
 obtain ⟨Ao15, co15, eo15⟩ := Kd.S_slice HO517.out
 (first | subst eo15 | (injection eo15 with f1_ f2_ f3_; have f4_ := f1_.symm; have f5_ := f3_.symm; clear f1_ f2_ f3_; subst f4_; subst f5_))
 refine norm_ (a' := ?_) ?_ ?_
 rotate_left
 ·simp only [putAll, Act.put, sA, sZ, sS]
  rfl
 refine one_ (i := 7) (N := none) #[true, true, true, true, true, true, true, true] rfl rfl (one_of HT_.out (by kernel_rfl)) (by decide) (fun K hK => ?_)
 have hs16 : w14.cell? ⟨gb518, 0, none⟩ = some (.slice none 0 0) := kc BK518 rfl
 have hfs16 := blk_frozen BK518.out 0
 have hns16_0 := NB511_518.out
 have hns16_1 := NB512_518.out
 have hns16_2 := NB513_518.out
 have hns16_3 := NB514_518.out
 have hms16_0 := NB518_511.out
 have hms16_1 := NB518_512.out
 have hms16_2 := NB518_513.out
 have hms16_3 := NB518_514.out
 have hs17 : w14.cell? ⟨gb518, 1, none⟩ = some (.int .i64 0) := kc BK518 rfl
 have hfs17 := blk_frozen BK518.out 1
 have hns17_0 := NB511_518.out
 have hns17_1 := NB512_518.out
 have hns17_2 := NB513_518.out
 have hns17_3 := NB514_518.out
 have hms17_0 := NB518_511.out
 have hms17_1 := NB518_512.out
 have hms17_2 := NB518_513.out
 have hms17_3 := NB518_514.out
 refine skip_ (w1 := ?_) (by rfl) rfl ?_ ?_
 rotate_left
 ·go_simp
  rfl
 refine hK.out _ _ ⟨((cell_far (p := ⟨gb518, _, none⟩) NB512_518.out _).trans (((cell_far (p := ⟨gb518, _, none⟩) NB512_518.out _).trans (hHeld.1)))), ((cell_far (p := ⟨gb518, _, none⟩) NB512_518.out _).trans (((cell_far (p := ⟨gb518, _, none⟩) NB512_518.out _).trans (hHeld.2))))⟩ (fun hHeld => ?_)
 clear hK K
 refine done_ (done_of HT_.out (by kernel_rfl)) ?_
 go_upto_region 2 with (fail)
 go_cut [25] (fun v25 wc => ∃ (kq : Nat) (x25_4 : Bool), v25 = .bool x25_4 ∧ Aside0 (spec_ApplyChange.j0 kq x25_4 l0_0 l1_0 a1_1 a2_0 a2_1 l2_2 t515 a1_1 = some (r1, r2, r3)) ∧ Aside0 (kq ≤ k) ∧ Aside0 (Kd.S k53 53 wc w.heap.size (fun _ => True) (.slice Ao15 t515.length co15) t515) ∧ Aside0 (wc.heap[gb511]? = some (.cells #[(.slice A0_0 l0_0.length c0_0)] 50 (0, 0))) ∧ Aside0 (wc.heap[gb512]? = some (.cells #[(.slice A1_0 l1_0.length c1_0), .int .i64 a1_1] 47 (0, 0))) ∧ Aside0 (wc.heap[gb513]? = some (.cells #[.bool a2_0, .int .i64 a2_1, (.slice A2_2 l2_2.length c2_2)] 55 (0, 0))) ∧ Aside0 (wc.heap[gb514]? = some (.cells #[(.slice none 0 0), .int .i64 0] 47 (0, 0))) ∧ Aside0 (wc.heap[gb518]? = some (.cells #[(.slice Ao15 t515.length co15), .int .i64 a1_1] 47 (0, 0))) ∧ Aside0 (Below w.heap.size w wc))
 case first =>
  have H := HC5.out
  clear HC5
  replace H := Option.bind_eq_some_iff.mp H
  obtain ⟨t519, A180, H⟩ := H
  replace H : (if t519 = true then (spec_ApplyChange.j0 k (decide (a1_1 ≥ 1000)) l0_0 l1_0 a1_1 a2_0 a2_1 l2_2 t515 a1_1) else (spec_ApplyChange.j0 k true l0_0 l1_0 a1_1 a2_0 a2_1 l2_2 t515 a1_1)) = some (r1, r2, r3) := H
  have A18 := Aside0.mk A180
  clear A180
  by_cases c19 : t519 = true
  ·subst c19
   have H1 : (spec_ApplyChange.j0 k (decide (a1_1 ≥ 1000)) l0_0 l1_0 a1_1 a2_0 a2_1 l2_2 t515 a1_1) = some (r1, r2, r3) := by rw [if_pos rfl] at H; exact H
   clear H
   have H := H1
   clear H1
   have H' := Aside0.mk H
   clear H
   have hnb20 := NB511_512.out
   have hnc20 := NB512_511.out
   have hnb21 := NB511_513.out
   have hnc21 := NB513_511.out
   have hnb22 := NB511_514.out
   have hnc22 := NB514_511.out
   have hnb23 := NB511_518.out
   have hnc23 := NB518_511.out
   have hcz24_0 : w14.cell? ⟨gb511, 0, none⟩ = some (.slice A0_0 l0_0.length c0_0) := kc BK511 rfl
   have hfz24_0 := blk_frozen BK511.out 0
   have hnb25 := NB512_513.out
   have hnc25 := NB513_512.out
   have hnb26 := NB512_514.out
   have hnc26 := NB514_512.out
   have hnb27 := NB512_518.out
   have hnc27 := NB518_512.out
   have hcz28_0 : w14.cell? ⟨gb512, 0, none⟩ = some (.slice A1_0 l1_0.length c1_0) := kc BK512 rfl
   have hcz28_1 : w14.cell? ⟨gb512, 1, none⟩ = some (.int .i64 a1_1) := kc BK512 rfl
   have hfz28_0 := blk_frozen BK512.out 0
   have hfz28_1 := blk_frozen BK512.out 1
   go_wp2_with (first | ((with_reducible refine gate_callee (f := 60) rfl ?_); refine goesL_ (some 19) rfl rfl Try.func60 (by kernel_rfl) rfl #[.agg #[.slice A0_0 l0_0.length c0_0], .agg #[.slice A1_0 l1_0.length c1_0, .int .i64 a1_1]] rfl (by (try simp only [List.map_toArray, List.map_cons, List.map_nil]); first | done | rfl | (simp only [List.length_drop, List.length_take]; rfl)) ?_; (with_reducible refine (spec_IsSource.calls k _ _ l0_0 _ _ l1_0 a1_1 true _ ?side1 ?side2 ?side3 ?side4 A18.out).mono ?_); (case side1 => exact Kd.C_below HR0_0.out ((by repeat (first | exact uB HB | refine below_set ?_ (Aside0.out (by assumption)))))); (case side2 => exact HC0_0.out); (case side3 => exact Kd.C_below HR1_0.out ((by repeat (first | exact uB HB | refine below_set ?_ (Aside0.out (by assumption)))))); (case side4 => exact HC1_0.out); rintro e w29 ⟨rfl, hb⟩; refine ⟨_, rfl, ?_⟩; replace HO517 := Aside0.mk (Kd.S_below (by (with_reducible repeat (first | apply Kd.S_alloc | apply Kd.S_drewN | apply Kd.S_drew)); exact (Kd.S_mono (Kd.S_far (p := ⟨gb518, 1, none⟩) (Kd.S_far (p := ⟨gb518, 0, none⟩) (Kd.S_types HO517.out BK518.out (by decide)) (fun _ hk => hk.2) (.slice Ao15 t515.length co15)) (fun _ hk => hk.2) (.int .i64 a1_1)) (fun _ h_ => h_.1))) hb); replace BK511 := Aside0.mk (blk_below (g := gb511) (o := .cells #[.slice A0_0 l0_0.length c0_0] 50 (0, 0)) (by (with_reducible repeat (first | refine blk_drewN ?_ _ | refine blk_drew ?_ | refine blk_alloc ?_ _)); refine blk_far ?_ NB511_518.out _; (with_reducible repeat (first | refine blk_drewN ?_ _ | refine blk_drew ?_ | refine blk_alloc ?_ _)); refine blk_far ?_ NB511_518.out _; (with_reducible repeat (first | refine blk_drewN ?_ _ | refine blk_drew ?_ | refine blk_alloc ?_ _)); exact BK511.out) hb); replace BK512 := Aside0.mk (blk_below (g := gb512) (o := .cells #[.slice A1_0 l1_0.length c1_0, .int .i64 a1_1] 47 (0, 0)) (by (with_reducible repeat (first | refine blk_drewN ?_ _ | refine blk_drew ?_ | refine blk_alloc ?_ _)); refine blk_far ?_ NB512_518.out _; (with_reducible repeat (first | refine blk_drewN ?_ _ | refine blk_drew ?_ | refine blk_alloc ?_ _)); refine blk_far ?_ NB512_518.out _; (with_reducible repeat (first | refine blk_drewN ?_ _ | refine blk_drew ?_ | refine blk_alloc ?_ _)); exact BK512.out) hb); replace BK513 := Aside0.mk (blk_below (g := gb513) (o := .cells #[.bool a2_0, .int .i64 a2_1, .slice A2_2 l2_2.length c2_2] 55 (0, 0)) (by (with_reducible repeat (first | refine blk_drewN ?_ _ | refine blk_drew ?_ | refine blk_alloc ?_ _)); refine blk_far ?_ NB513_518.out _; (with_reducible repeat (first | refine blk_drewN ?_ _ | refine blk_drew ?_ | refine blk_alloc ?_ _)); refine blk_far ?_ NB513_518.out _; (with_reducible repeat (first | refine blk_drewN ?_ _ | refine blk_drew ?_ | refine blk_alloc ?_ _)); exact BK513.out) hb); replace BK514 := Aside0.mk (blk_below (g := gb514) (o := .cells #[.slice none 0 0, .int .i64 0] 47 (0, 0)) (by (with_reducible repeat (first | refine blk_drewN ?_ _ | refine blk_drew ?_ | refine blk_alloc ?_ _)); refine blk_far ?_ NB514_518.out _; (with_reducible repeat (first | refine blk_drewN ?_ _ | refine blk_drew ?_ | refine blk_alloc ?_ _)); refine blk_far ?_ NB514_518.out _; (with_reducible repeat (first | refine blk_drewN ?_ _ | refine blk_drew ?_ | refine blk_alloc ?_ _)); exact BK514.out) hb); replace BK518 := Aside0.mk (blk_below (g := gb518) (o := .cells #[.slice Ao15 t515.length co15, .int .i64 a1_1] 47 (0, 0)) (by (with_reducible repeat (first | refine blk_drewN ?_ _ | refine blk_drew ?_ | refine blk_alloc ?_ _)); refine blk_put (cs := #[.slice Ao15 t515.length co15, .int .i64 0]) ?_ 1 _ rfl; (with_reducible repeat (first | refine blk_drewN ?_ _ | refine blk_drew ?_ | refine blk_alloc ?_ _)); refine blk_put (cs := #[.slice none 0 0, .int .i64 0]) ?_ 0 _ rfl; (with_reducible repeat (first | refine blk_drewN ?_ _ | refine blk_drew ?_ | refine blk_alloc ?_ _)); exact BK518.out) hb); replace HB := Aside0.mk (below_step (by repeat (first | exact uB HB | refine below_set ?_ (Aside0.out (by assumption)))) hb); (try clear hb); (try clear hb2); (try clear hk); (try clear hi); have hcz30_0 : w29.cell? ⟨gb512, 0, none⟩ = some (.slice A1_0 l1_0.length c1_0) := kc BK512 rfl; have hcz30_1 : w29.cell? ⟨gb512, 1, none⟩ = some (.int .i64 a1_1) := kc BK512 rfl; have hfz30_0 := blk_frozen BK512.out 0; have hfz30_1 := blk_frozen BK512.out 1))
   go_meet
   case rel => exact ⟨_, (decide (a1_1 ≥ 1000)), (by first | rfl | (simp; done) | (simp [*]; done)), H', ⟨by first | omega | exact Nat.le_refl _⟩, ⟨by (with_reducible repeat (first | apply Kd.S_alloc | apply Kd.S_drewN | apply Kd.S_drew)); exact HO517.out⟩, ⟨uk BK511⟩, ⟨uk BK512⟩, ⟨uk BK513⟩, ⟨uk BK514⟩, ⟨uk BK518⟩, ⟨uB HB⟩⟩
  ·replace c19 := Bool.eq_false_iff.mpr c19
   subst c19
   have H1 : (spec_ApplyChange.j0 k true l0_0 l1_0 a1_1 a2_0 a2_1 l2_2 t515 a1_1) = some (r1, r2, r3) := by rw [if_neg (show ¬ (false = true) by decide)] at H; exact H
   clear H
   have H := H1
   clear H1
   have H' := Aside0.mk H
   clear H
   have hnb31 := NB511_512.out
   have hnc31 := NB512_511.out
   have hnb32 := NB511_513.out
   have hnc32 := NB513_511.out
   have hnb33 := NB511_514.out
   have hnc33 := NB514_511.out
   have hnb34 := NB511_518.out
   have hnc34 := NB518_511.out
   have hcz35_0 : w14.cell? ⟨gb511, 0, none⟩ = some (.slice A0_0 l0_0.length c0_0) := kc BK511 rfl
   have hfz35_0 := blk_frozen BK511.out 0
   have hnb36 := NB512_513.out
   have hnc36 := NB513_512.out
   have hnb37 := NB512_514.out
   have hnc37 := NB514_512.out
   have hnb38 := NB512_518.out
   have hnc38 := NB518_512.out
   have hcz39_0 : w14.cell? ⟨gb512, 0, none⟩ = some (.slice A1_0 l1_0.length c1_0) := kc BK512 rfl
   have hcz39_1 : w14.cell? ⟨gb512, 1, none⟩ = some (.int .i64 a1_1) := kc BK512 rfl
   have hfz39_0 := blk_frozen BK512.out 0
   have hfz39_1 := blk_frozen BK512.out 1
   go_wp2_with (first | ((with_reducible refine gate_callee (f := 60) rfl ?_); refine goesL_ (some 19) rfl rfl Try.func60 (by kernel_rfl) rfl #[.agg #[.slice A0_0 l0_0.length c0_0], .agg #[.slice A1_0 l1_0.length c1_0, .int .i64 a1_1]] rfl (by (try simp only [List.map_toArray, List.map_cons, List.map_nil]); first | done | rfl | (simp only [List.length_drop, List.length_take]; rfl)) ?_; (with_reducible refine (spec_IsSource.calls k _ _ l0_0 _ _ l1_0 a1_1 false _ ?side1 ?side2 ?side3 ?side4 A18.out).mono ?_); (case side1 => exact Kd.C_below HR0_0.out ((by repeat (first | exact uB HB | refine below_set ?_ (Aside0.out (by assumption)))))); (case side2 => exact HC0_0.out); (case side3 => exact Kd.C_below HR1_0.out ((by repeat (first | exact uB HB | refine below_set ?_ (Aside0.out (by assumption)))))); (case side4 => exact HC1_0.out); rintro e w40 ⟨rfl, hb⟩; refine ⟨_, rfl, ?_⟩; replace HO517 := Aside0.mk (Kd.S_below (by (with_reducible repeat (first | apply Kd.S_alloc | apply Kd.S_drewN | apply Kd.S_drew)); exact (Kd.S_mono (Kd.S_far (p := ⟨gb518, 1, none⟩) (Kd.S_far (p := ⟨gb518, 0, none⟩) (Kd.S_types HO517.out BK518.out (by decide)) (fun _ hk => hk.2) (.slice Ao15 t515.length co15)) (fun _ hk => hk.2) (.int .i64 a1_1)) (fun _ h_ => h_.1))) hb); replace BK511 := Aside0.mk (blk_below (g := gb511) (o := .cells #[.slice A0_0 l0_0.length c0_0] 50 (0, 0)) (by (with_reducible repeat (first | refine blk_drewN ?_ _ | refine blk_drew ?_ | refine blk_alloc ?_ _)); refine blk_far ?_ NB511_518.out _; (with_reducible repeat (first | refine blk_drewN ?_ _ | refine blk_drew ?_ | refine blk_alloc ?_ _)); refine blk_far ?_ NB511_518.out _; (with_reducible repeat (first | refine blk_drewN ?_ _ | refine blk_drew ?_ | refine blk_alloc ?_ _)); exact BK511.out) hb); replace BK512 := Aside0.mk (blk_below (g := gb512) (o := .cells #[.slice A1_0 l1_0.length c1_0, .int .i64 a1_1] 47 (0, 0)) (by (with_reducible repeat (first | refine blk_drewN ?_ _ | refine blk_drew ?_ | refine blk_alloc ?_ _)); refine blk_far ?_ NB512_518.out _; (with_reducible repeat (first | refine blk_drewN ?_ _ | refine blk_drew ?_ | refine blk_alloc ?_ _)); refine blk_far ?_ NB512_518.out _; (with_reducible repeat (first | refine blk_drewN ?_ _ | refine blk_drew ?_ | refine blk_alloc ?_ _)); exact BK512.out) hb); replace BK513 := Aside0.mk (blk_below (g := gb513) (o := .cells #[.bool a2_0, .int .i64 a2_1, .slice A2_2 l2_2.length c2_2] 55 (0, 0)) (by (with_reducible repeat (first | refine blk_drewN ?_ _ | refine blk_drew ?_ | refine blk_alloc ?_ _)); refine blk_far ?_ NB513_518.out _; (with_reducible repeat (first | refine blk_drewN ?_ _ | refine blk_drew ?_ | refine blk_alloc ?_ _)); refine blk_far ?_ NB513_518.out _; (with_reducible repeat (first | refine blk_drewN ?_ _ | refine blk_drew ?_ | refine blk_alloc ?_ _)); exact BK513.out) hb); replace BK514 := Aside0.mk (blk_below (g := gb514) (o := .cells #[.slice none 0 0, .int .i64 0] 47 (0, 0)) (by (with_reducible repeat (first | refine blk_drewN ?_ _ | refine blk_drew ?_ | refine blk_alloc ?_ _)); refine blk_far ?_ NB514_518.out _; (with_reducible repeat (first | refine blk_drewN ?_ _ | refine blk_drew ?_ | refine blk_alloc ?_ _)); refine blk_far ?_ NB514_518.out _; (with_reducible repeat (first | refine blk_drewN ?_ _ | refine blk_drew ?_ | refine blk_alloc ?_ _)); exact BK514.out) hb); replace BK518 := Aside0.mk (blk_below (g := gb518) (o := .cells #[.slice Ao15 t515.length co15, .int .i64 a1_1] 47 (0, 0)) (by (with_reducible repeat (first | refine blk_drewN ?_ _ | refine blk_drew ?_ | refine blk_alloc ?_ _)); refine blk_put (cs := #[.slice Ao15 t515.length co15, .int .i64 0]) ?_ 1 _ rfl; (with_reducible repeat (first | refine blk_drewN ?_ _ | refine blk_drew ?_ | refine blk_alloc ?_ _)); refine blk_put (cs := #[.slice none 0 0, .int .i64 0]) ?_ 0 _ rfl; (with_reducible repeat (first | refine blk_drewN ?_ _ | refine blk_drew ?_ | refine blk_alloc ?_ _)); exact BK518.out) hb); replace HB := Aside0.mk (below_step (by repeat (first | exact uB HB | refine below_set ?_ (Aside0.out (by assumption)))) hb); (try clear hb); (try clear hb2); (try clear hk); (try clear hi)))
   go_meet
   case rel => exact ⟨_, (true), (by first | rfl | (simp; done) | (simp [*]; done)), H', ⟨by first | omega | exact Nat.le_refl _⟩, ⟨by (with_reducible repeat (first | apply Kd.S_alloc | apply Kd.S_drewN | apply Kd.S_drew)); exact HO517.out⟩, ⟨uk BK511⟩, ⟨uk BK512⟩, ⟨uk BK513⟩, ⟨uk BK514⟩, ⟨uk BK518⟩, ⟨uB HB⟩⟩
 case rest =>
  clear HC5
  try clear c1
  try clear c2
  try clear p2
  try clear c3
  try clear c5
  try clear c6
  try clear c19
  try clear c20
  try clear c21
  try clear c22
  try clear c23
  try clear c25
  try clear c26
  try clear c27
  try clear c31
  try clear c32
  try clear c33
  try clear c34
  try clear c36
  try clear c37
  try clear c38
  try clear hcz24_0
  try clear hcz28_0
  try clear hcz28_1
  try clear hcz30_0
  try clear hcz30_1
  try clear hcz35_0
  try clear hcz39_0
  try clear hcz39_1
  try clear hfz24_0
  try clear hfz28_0
  try clear hfz28_1
  try clear hfz30_0
  try clear hfz30_1
  try clear hfz35_0
  try clear hfz39_0
  try clear hfz39_1
  obtain ⟨kq, x25_4, rfl, HA, HJ4, HO_519000, BK511, BK512, BK513, BK514, BK518, HB⟩ := hcut
  cases kq with
  | zero => exact absurd HA.out (by simp [spec_ApplyChange.j0])
  | succ kj4 =>
   have H := HA.out
   clear HA
   simp only [spec_ApplyChange.j0] at H
   by_cases c41 : x25_4 = true
   ·subst c41
    have H1 : (some (t515, a1_1, false)) = some (r1, r2, r3) := by rw [if_pos rfl] at H; exact H
    clear H
    have H := H1
    clear H1
    simp only [Option.some.injEq, Prod.mk.injEq] at H
    obtain ⟨rfl, rfl, rfl⟩ := H
    have hnb42 := NB518_511.out
    have hnc42 := NB511_518.out
    have hnb43 := NB518_512.out
    have hnc43 := NB512_518.out
    have hnb44 := NB518_513.out
    have hnc44 := NB513_518.out
    have hnb45 := NB518_514.out
    have hnc45 := NB514_518.out
    have hcz46_0 : wc.cell? ⟨gb518, 0, none⟩ = some (.slice Ao15 t515.length co15) := kc BK518 rfl
    have hcz46_1 : wc.cell? ⟨gb518, 1, none⟩ = some (.int .i64 a1_1) := kc BK518 rfl
    have hfz46_0 := blk_frozen BK518.out 0
    have hfz46_1 := blk_frozen BK518.out 1
    have hnb47 := NB514_511.out
    have hnc47 := NB511_514.out
    have hnb48 := NB514_512.out
    have hnc48 := NB512_514.out
    have hnb49 := NB514_513.out
    have hnc49 := NB513_514.out
    have hcz50_0 : wc.cell? ⟨gb514, 0, none⟩ = some (.slice none 0 0) := kc BK514 rfl
    have hcz50_1 : wc.cell? ⟨gb514, 1, none⟩ = some (.int .i64 0) := kc BK514 rfl
    have hfz50_0 := blk_frozen BK514.out 0
    have hfz50_1 := blk_frozen BK514.out 1
    go_wp2
    refine bodyPost_ret (results_ct rfl _ _ gb514 47 #[.slice Ao15 t515.length co15, .int .i64 a1_1] (0, 0) _ rfl (by (with_reducible repeat (first | refine blk_drewN ?_ _ | refine blk_drew ?_ | refine blk_alloc ?_ _)); refine blk_put (cs := #[.slice Ao15 t515.length co15, .int .i64 0]) ?_ 1 _ rfl; (with_reducible repeat (first | refine blk_drewN ?_ _ | refine blk_drew ?_ | refine blk_alloc ?_ _)); refine blk_put (cs := #[.slice none 0 0, .int .i64 0]) ?_ 0 _ rfl; (with_reducible repeat (first | refine blk_drewN ?_ _ | refine blk_drew ?_ | refine blk_alloc ?_ _)); exact BK514.out) Try.underlying47 rfl (by kernel_rfl)) rfl ?_
    exact ⟨_, by first | rfl | (simp [errW_none, errW_some] <;> rfl) | (simp [*, errW_none, errW_some] <;> rfl), by (with_reducible repeat (first | apply Kd.S_alloc | apply Kd.S_drewN | apply Kd.S_drew)); exact Kd.S_mono (Kd.S_far (p := ⟨gb514, 1, none⟩) (Kd.S_far (p := ⟨gb514, 0, none⟩) (Kd.S_types HO_519000.out BK514.out (by decide)) (fun _ hk => hk.2) (.slice Ao15 t515.length co15)) (fun _ hk => hk.2) (.int .i64 a1_1)) (fun _ hk => trivial), (by repeat (first | exact uB HB | refine below_set ?_ (Aside0.out (by assumption))))⟩
   ·replace c41 := Bool.eq_false_iff.mpr c41
    subst c41
    have H1 : ((spec_AddFact.f kj4 l0_0 l1_0 a2_1 l2_2).bind fun bt520 => (if a2_0 = true then (if bt520.2 = true then (some (bt520.1, wrap64 (a1_1 + 1), true)) else (some (t515, a1_1, false))) else ((spec_RemoveFact.f kj4 l0_0 l1_0 a2_1 l2_2).bind fun bt524 => (if bt524.2 = true then (some (bt524.1, wrap64 (a1_1 + 1), true)) else (some (t515, a1_1, false)))))) = some (r1, r2, r3) := by rw [if_neg (show ¬ (false = true) by decide)] at H; exact H
    clear H
    have H := H1
    clear H1
    replace H := Option.bind_eq_some_iff.mp H
    obtain ⟨⟨t520, t523⟩, A510, H⟩ := H
    replace H : (if a2_0 = true then (if t523 = true then (some (t520, wrap64 (a1_1 + 1), true)) else (some (t515, a1_1, false))) else ((spec_RemoveFact.f kj4 l0_0 l1_0 a2_1 l2_2).bind fun bt524 => (if bt524.2 = true then (some (bt524.1, wrap64 (a1_1 + 1), true)) else (some (t515, a1_1, false))))) = some (r1, r2, r3) := H
    have A51 := Aside0.mk A510
    clear A510
    by_cases c52 : a2_0 = true
    ·subst c52
     have H1 : (if t523 = true then (some (t520, wrap64 (a1_1 + 1), true)) else (some (t515, a1_1, false))) = some (r1, r2, r3) := by rw [if_pos rfl] at H; exact H
     clear H
     have H := H1
     clear H1
     by_cases c53 : t523 = true
     ·subst c53
      have H1 : (some (t520, wrap64 (a1_1 + 1), true)) = some (r1, r2, r3) := by rw [if_pos rfl] at H; exact H
      clear H
      have H := H1
      clear H1
      simp only [Option.some.injEq, Prod.mk.injEq] at H
      obtain ⟨rfl, rfl, rfl⟩ := H
      have hnb54 := NB511_512.out
      have hnc54 := NB512_511.out
      have hnb55 := NB511_513.out
      have hnc55 := NB513_511.out
      have hnb56 := NB511_514.out
      have hnc56 := NB514_511.out
      have hnb57 := NB511_518.out
      have hnc57 := NB518_511.out
      have hcz58_0 : wc.cell? ⟨gb511, 0, none⟩ = some (.slice A0_0 l0_0.length c0_0) := kc BK511 rfl
      have hfz58_0 := blk_frozen BK511.out 0
      have hnb59 := NB512_513.out
      have hnc59 := NB513_512.out
      have hnb60 := NB512_514.out
      have hnc60 := NB514_512.out
      have hnb61 := NB512_518.out
      have hnc61 := NB518_512.out
      have hcz62_0 : wc.cell? ⟨gb512, 0, none⟩ = some (.slice A1_0 l1_0.length c1_0) := kc BK512 rfl
      have hcz62_1 : wc.cell? ⟨gb512, 1, none⟩ = some (.int .i64 a1_1) := kc BK512 rfl
      have hfz62_0 := blk_frozen BK512.out 0
      have hfz62_1 := blk_frozen BK512.out 1
      have hnb63 := NB513_514.out
      have hnc63 := NB514_513.out
      have hnb64 := NB513_518.out
      have hnc64 := NB518_513.out
      have hcz65_0 : wc.cell? ⟨gb513, 0, none⟩ = some (.bool true) := kc BK513 rfl
      have hcz65_1 : wc.cell? ⟨gb513, 1, none⟩ = some (.int .i64 a2_1) := kc BK513 rfl
      have hcz65_2 : wc.cell? ⟨gb513, 2, none⟩ = some (.slice A2_2 l2_2.length c2_2) := kc BK513 rfl
      have hfz65_0 := blk_frozen BK513.out 0
      have hfz65_1 := blk_frozen BK513.out 1
      have hfz65_2 := blk_frozen BK513.out 2
      go_wp2_with (first | ((with_reducible refine gate_callee (f := 61) rfl ?_); refine goesL_ (some 33) rfl rfl Try.func61 (by kernel_rfl) rfl #[.agg #[.slice A0_0 l0_0.length c0_0], .slice A1_0 l1_0.length c1_0, .agg #[.int .i64 a2_1, .slice A2_2 l2_2.length c2_2]] rfl (by (try simp only [List.map_toArray, List.map_cons, List.map_nil]); first | done | rfl | (simp only [List.length_drop, List.length_take]; rfl)) ?_; (with_reducible refine (spec_AddFact.calls kj4 _ _ l0_0 _ _ l1_0 a2_1 _ _ l2_2 t520 true _ ?side1 ?side2 ?side3 ?side4 ?side5 ?side6 A51.out).mono ?_); (case side1 => exact uC HR0_0 HB); (case side2 => exact HC0_0.out); (case side3 => exact uC HR1_0 HB); (case side4 => exact HC1_0.out); (case side5 => exact uC HR2_2 HB); (case side6 => exact HC2_2.out); rintro e w66 ⟨v521, rfl, ho0, hb⟩; refine ⟨_, rfl, ?_⟩; have HO522 := Aside0.mk (Kd.S_lower (Kd.S_new' ho0 (Kd.S_lt (by (with_reducible repeat (first | apply Kd.S_alloc | apply Kd.S_drewN | apply Kd.S_drew)); exact HO_519000.out))) (below_size (uB HB))); replace HO_519000 := Aside0.mk (Kd.S_elder' (by (with_reducible repeat (first | apply Kd.S_alloc | apply Kd.S_drewN | apply Kd.S_drew)); exact HO_519000.out) (Kd.S_base ho0) hb); replace BK511 := uK BK511 hb; replace BK512 := uK BK512 hb; replace BK513 := uK BK513 hb; replace BK514 := uK BK514 hb; replace BK518 := uK BK518 hb; replace HB := uS HB hb; (try clear hb); (try clear hb2); (try clear hk); (try clear hi); (try clear ho0); have hcz67_0 : w66.cell? ⟨gb513, 0, none⟩ = some (.bool true) := kc BK513 rfl; have hcz67_1 : w66.cell? ⟨gb513, 1, none⟩ = some (.int .i64 a2_1) := kc BK513 rfl; have hcz67_2 : w66.cell? ⟨gb513, 2, none⟩ = some (.slice A2_2 l2_2.length c2_2) := kc BK513 rfl; have hfz67_0 := blk_frozen BK513.out 0; have hfz67_1 := blk_frozen BK513.out 1; have hfz67_2 := blk_frozen BK513.out 2; have hcz68_0 : w66.cell? ⟨gb512, 0, none⟩ = some (.slice A1_0 l1_0.length c1_0) := kc BK512 rfl; have hcz68_1 : w66.cell? ⟨gb512, 1, none⟩ = some (.int .i64 a1_1) := kc BK512 rfl; have hfz68_0 := blk_frozen BK512.out 0; have hfz68_1 := blk_frozen BK512.out 1; obtain ⟨Ao69, co69, eo69⟩ := Kd.S_slice HO522.out; subst eo69; have hnb70 := NB514_518.out; have hnc70 := NB518_514.out; have hcz71_0 : w66.cell? ⟨gb514, 0, none⟩ = some (.slice none 0 0) := kc BK514 rfl; have hcz71_1 : w66.cell? ⟨gb514, 1, none⟩ = some (.int .i64 0) := kc BK514 rfl; have hfz71_0 := blk_frozen BK514.out 0; have hfz71_1 := blk_frozen BK514.out 1))
      refine bodyPost_ret (results_ct rfl _ _ gb514 47 #[.slice Ao69 t520.length co69, .int .i64 (wrap64 (a1_1 + 1))] (0, 0) _ rfl (by (with_reducible repeat (first | refine blk_drewN ?_ _ | refine blk_drew ?_ | refine blk_alloc ?_ _)); refine blk_put (cs := #[.slice Ao69 t520.length co69, .int .i64 0]) ?_ 1 _ rfl; (with_reducible repeat (first | refine blk_drewN ?_ _ | refine blk_drew ?_ | refine blk_alloc ?_ _)); refine blk_put (cs := #[.slice none 0 0, .int .i64 0]) ?_ 0 _ rfl; (with_reducible repeat (first | refine blk_drewN ?_ _ | refine blk_drew ?_ | refine blk_alloc ?_ _)); exact BK514.out) Try.underlying47 rfl (by kernel_rfl)) rfl ?_
      exact ⟨_, by first | rfl | (simp [errW_none, errW_some] <;> rfl) | (simp [*, errW_none, errW_some] <;> rfl), by (with_reducible repeat (first | apply Kd.S_alloc | apply Kd.S_drewN | apply Kd.S_drew)); exact Kd.S_mono (Kd.S_far (p := ⟨gb514, 1, none⟩) (Kd.S_far (p := ⟨gb514, 0, none⟩) (Kd.S_types HO522.out BK514.out (by decide)) (fun _ hk => hk.2) (.slice Ao69 t520.length co69)) (fun _ hk => hk.2) (.int .i64 (wrap64 (a1_1 + 1)))) (fun _ hk => trivial), (by repeat (first | exact uB HB | refine below_set ?_ (Aside0.out (by assumption))))⟩
     ·replace c53 := Bool.eq_false_iff.mpr c53
      subst c53
      have H1 : (some (t515, a1_1, false)) = some (r1, r2, r3) := by rw [if_neg (show ¬ (false = true) by decide)] at H; exact H
      clear H
      have H := H1
      clear H1
      simp only [Option.some.injEq, Prod.mk.injEq] at H
      obtain ⟨rfl, rfl, rfl⟩ := H
      have hnb72 := NB511_512.out
      have hnc72 := NB512_511.out
      have hnb73 := NB511_513.out
      have hnc73 := NB513_511.out
      have hnb74 := NB511_514.out
      have hnc74 := NB514_511.out
      have hnb75 := NB511_518.out
      have hnc75 := NB518_511.out
      have hcz76_0 : wc.cell? ⟨gb511, 0, none⟩ = some (.slice A0_0 l0_0.length c0_0) := kc BK511 rfl
      have hfz76_0 := blk_frozen BK511.out 0
      have hnb77 := NB512_513.out
      have hnc77 := NB513_512.out
      have hnb78 := NB512_514.out
      have hnc78 := NB514_512.out
      have hnb79 := NB512_518.out
      have hnc79 := NB518_512.out
      have hcz80_0 : wc.cell? ⟨gb512, 0, none⟩ = some (.slice A1_0 l1_0.length c1_0) := kc BK512 rfl
      have hcz80_1 : wc.cell? ⟨gb512, 1, none⟩ = some (.int .i64 a1_1) := kc BK512 rfl
      have hfz80_0 := blk_frozen BK512.out 0
      have hfz80_1 := blk_frozen BK512.out 1
      have hnb81 := NB513_514.out
      have hnc81 := NB514_513.out
      have hnb82 := NB513_518.out
      have hnc82 := NB518_513.out
      have hcz83_0 : wc.cell? ⟨gb513, 0, none⟩ = some (.bool true) := kc BK513 rfl
      have hcz83_1 : wc.cell? ⟨gb513, 1, none⟩ = some (.int .i64 a2_1) := kc BK513 rfl
      have hcz83_2 : wc.cell? ⟨gb513, 2, none⟩ = some (.slice A2_2 l2_2.length c2_2) := kc BK513 rfl
      have hfz83_0 := blk_frozen BK513.out 0
      have hfz83_1 := blk_frozen BK513.out 1
      have hfz83_2 := blk_frozen BK513.out 2
      go_wp2_with (first | ((with_reducible refine gate_callee (f := 61) rfl ?_); refine goesL_ (some 33) rfl rfl Try.func61 (by kernel_rfl) rfl #[.agg #[.slice A0_0 l0_0.length c0_0], .slice A1_0 l1_0.length c1_0, .agg #[.int .i64 a2_1, .slice A2_2 l2_2.length c2_2]] rfl (by (try simp only [List.map_toArray, List.map_cons, List.map_nil]); first | done | rfl | (simp only [List.length_drop, List.length_take]; rfl)) ?_; (with_reducible refine (spec_AddFact.calls kj4 _ _ l0_0 _ _ l1_0 a2_1 _ _ l2_2 t520 false _ ?side1 ?side2 ?side3 ?side4 ?side5 ?side6 A51.out).mono ?_); (case side1 => exact uC HR0_0 HB); (case side2 => exact HC0_0.out); (case side3 => exact uC HR1_0 HB); (case side4 => exact HC1_0.out); (case side5 => exact uC HR2_2 HB); (case side6 => exact HC2_2.out); rintro e w84 ⟨v521, rfl, ho0, hb⟩; refine ⟨_, rfl, ?_⟩; have HO522 := Aside0.mk (Kd.S_lower (Kd.S_new' ho0 (Kd.S_lt (by (with_reducible repeat (first | apply Kd.S_alloc | apply Kd.S_drewN | apply Kd.S_drew)); exact HO_519000.out))) (below_size (uB HB))); replace HO_519000 := Aside0.mk (Kd.S_elder' (by (with_reducible repeat (first | apply Kd.S_alloc | apply Kd.S_drewN | apply Kd.S_drew)); exact HO_519000.out) (Kd.S_base ho0) hb); replace BK511 := uK BK511 hb; replace BK512 := uK BK512 hb; replace BK513 := uK BK513 hb; replace BK514 := uK BK514 hb; replace BK518 := uK BK518 hb; replace HB := uS HB hb; (try clear hb); (try clear hb2); (try clear hk); (try clear hi); (try clear ho0); have hcz85_0 : w84.cell? ⟨gb513, 0, none⟩ = some (.bool true) := kc BK513 rfl; have hcz85_1 : w84.cell? ⟨gb513, 1, none⟩ = some (.int .i64 a2_1) := kc BK513 rfl; have hcz85_2 : w84.cell? ⟨gb513, 2, none⟩ = some (.slice A2_2 l2_2.length c2_2) := kc BK513 rfl; have hfz85_0 := blk_frozen BK513.out 0; have hfz85_1 := blk_frozen BK513.out 1; have hfz85_2 := blk_frozen BK513.out 2; have hnb86 := NB518_514.out; have hnc86 := NB514_518.out; have hcz87_0 : w84.cell? ⟨gb518, 0, none⟩ = some (.slice Ao15 t515.length co15) := kc BK518 rfl; have hcz87_1 : w84.cell? ⟨gb518, 1, none⟩ = some (.int .i64 a1_1) := kc BK518 rfl; have hfz87_0 := blk_frozen BK518.out 0; have hfz87_1 := blk_frozen BK518.out 1; have hcz88_0 : w84.cell? ⟨gb514, 0, none⟩ = some (.slice none 0 0) := kc BK514 rfl; have hcz88_1 : w84.cell? ⟨gb514, 1, none⟩ = some (.int .i64 0) := kc BK514 rfl; have hfz88_0 := blk_frozen BK514.out 0; have hfz88_1 := blk_frozen BK514.out 1))
      refine bodyPost_ret (results_ct rfl _ _ gb514 47 #[.slice Ao15 t515.length co15, .int .i64 a1_1] (0, 0) _ rfl (by (with_reducible repeat (first | refine blk_drewN ?_ _ | refine blk_drew ?_ | refine blk_alloc ?_ _)); refine blk_put (cs := #[.slice Ao15 t515.length co15, .int .i64 0]) ?_ 1 _ rfl; (with_reducible repeat (first | refine blk_drewN ?_ _ | refine blk_drew ?_ | refine blk_alloc ?_ _)); refine blk_put (cs := #[.slice none 0 0, .int .i64 0]) ?_ 0 _ rfl; (with_reducible repeat (first | refine blk_drewN ?_ _ | refine blk_drew ?_ | refine blk_alloc ?_ _)); exact BK514.out) Try.underlying47 rfl (by kernel_rfl)) rfl ?_
      exact ⟨_, by first | rfl | (simp [errW_none, errW_some] <;> rfl) | (simp [*, errW_none, errW_some] <;> rfl), by (with_reducible repeat (first | apply Kd.S_alloc | apply Kd.S_drewN | apply Kd.S_drew)); exact Kd.S_mono (Kd.S_far (p := ⟨gb514, 1, none⟩) (Kd.S_far (p := ⟨gb514, 0, none⟩) (Kd.S_types HO_519000.out BK514.out (by decide)) (fun _ hk => hk.2) (.slice Ao15 t515.length co15)) (fun _ hk => hk.2) (.int .i64 a1_1)) (fun _ hk => trivial), (by repeat (first | exact uB HB | refine below_set ?_ (Aside0.out (by assumption))))⟩
    ·replace c52 := Bool.eq_false_iff.mpr c52
     subst c52
     have H1 : ((spec_RemoveFact.f kj4 l0_0 l1_0 a2_1 l2_2).bind fun bt524 => (if bt524.2 = true then (some (bt524.1, wrap64 (a1_1 + 1), true)) else (some (t515, a1_1, false)))) = some (r1, r2, r3) := by rw [if_neg (show ¬ (false = true) by decide)] at H; exact H
     clear H
     have H := H1
     clear H1
     replace H := Option.bind_eq_some_iff.mp H
     obtain ⟨⟨t524, t527⟩, A890, H⟩ := H
     replace H : (if t527 = true then (some (t524, wrap64 (a1_1 + 1), true)) else (some (t515, a1_1, false))) = some (r1, r2, r3) := H
     have A89 := Aside0.mk A890
     clear A890
     by_cases c90 : t527 = true
     ·subst c90
      have H1 : (some (t524, wrap64 (a1_1 + 1), true)) = some (r1, r2, r3) := by rw [if_pos rfl] at H; exact H
      clear H
      have H := H1
      clear H1
      simp only [Option.some.injEq, Prod.mk.injEq] at H
      obtain ⟨rfl, rfl, rfl⟩ := H
      have hnb91 := NB511_512.out
      have hnc91 := NB512_511.out
      have hnb92 := NB511_513.out
      have hnc92 := NB513_511.out
      have hnb93 := NB511_514.out
      have hnc93 := NB514_511.out
      have hnb94 := NB511_518.out
      have hnc94 := NB518_511.out
      have hcz95_0 : wc.cell? ⟨gb511, 0, none⟩ = some (.slice A0_0 l0_0.length c0_0) := kc BK511 rfl
      have hfz95_0 := blk_frozen BK511.out 0
      have hnb96 := NB512_513.out
      have hnc96 := NB513_512.out
      have hnb97 := NB512_514.out
      have hnc97 := NB514_512.out
      have hnb98 := NB512_518.out
      have hnc98 := NB518_512.out
      have hcz99_0 : wc.cell? ⟨gb512, 0, none⟩ = some (.slice A1_0 l1_0.length c1_0) := kc BK512 rfl
      have hcz99_1 : wc.cell? ⟨gb512, 1, none⟩ = some (.int .i64 a1_1) := kc BK512 rfl
      have hfz99_0 := blk_frozen BK512.out 0
      have hfz99_1 := blk_frozen BK512.out 1
      have hnb100 := NB513_514.out
      have hnc100 := NB514_513.out
      have hnb101 := NB513_518.out
      have hnc101 := NB518_513.out
      have hcz102_0 : wc.cell? ⟨gb513, 0, none⟩ = some (.bool false) := kc BK513 rfl
      have hcz102_1 : wc.cell? ⟨gb513, 1, none⟩ = some (.int .i64 a2_1) := kc BK513 rfl
      have hcz102_2 : wc.cell? ⟨gb513, 2, none⟩ = some (.slice A2_2 l2_2.length c2_2) := kc BK513 rfl
      have hfz102_0 := blk_frozen BK513.out 0
      have hfz102_1 := blk_frozen BK513.out 1
      have hfz102_2 := blk_frozen BK513.out 2
      go_wp2_with (first | ((with_reducible refine gate_callee (f := 61) rfl ?_); refine goesL_ (some 33) rfl rfl Try.func61 (by kernel_rfl) rfl #[.agg #[.slice A0_0 l0_0.length c0_0], .slice A1_0 l1_0.length c1_0, .agg #[.int .i64 a2_1, .slice A2_2 l2_2.length c2_2]] rfl (by (try simp only [List.map_toArray, List.map_cons, List.map_nil]); first | done | rfl | (simp only [List.length_drop, List.length_take]; rfl)) ?_; (with_reducible refine (spec_AddFact.calls kj4 _ _ l0_0 _ _ l1_0 a2_1 _ _ l2_2 t520 t523 _ ?side1 ?side2 ?side3 ?side4 ?side5 ?side6 A51.out).mono ?_); (case side1 => exact uC HR0_0 HB); (case side2 => exact HC0_0.out); (case side3 => exact uC HR1_0 HB); (case side4 => exact HC1_0.out); (case side5 => exact uC HR2_2 HB); (case side6 => exact HC2_2.out); rintro e w103 ⟨v521, rfl, ho0, hb⟩; refine ⟨_, rfl, ?_⟩; have HO522 := Aside0.mk (Kd.S_lower (Kd.S_new' ho0 (Kd.S_lt (by (with_reducible repeat (first | apply Kd.S_alloc | apply Kd.S_drewN | apply Kd.S_drew)); exact HO_519000.out))) (below_size (uB HB))); replace HO_519000 := Aside0.mk (Kd.S_elder' (by (with_reducible repeat (first | apply Kd.S_alloc | apply Kd.S_drewN | apply Kd.S_drew)); exact HO_519000.out) (Kd.S_base ho0) hb); replace BK511 := uK BK511 hb; replace BK512 := uK BK512 hb; replace BK513 := uK BK513 hb; replace BK514 := uK BK514 hb; replace BK518 := uK BK518 hb; replace HB := uS HB hb; (try clear hb); (try clear hb2); (try clear hk); (try clear hi); (try clear ho0); have hcz104_0 : w103.cell? ⟨gb513, 0, none⟩ = some (.bool false) := kc BK513 rfl; have hcz104_1 : w103.cell? ⟨gb513, 1, none⟩ = some (.int .i64 a2_1) := kc BK513 rfl; have hcz104_2 : w103.cell? ⟨gb513, 2, none⟩ = some (.slice A2_2 l2_2.length c2_2) := kc BK513 rfl; have hfz104_0 := blk_frozen BK513.out 0; have hfz104_1 := blk_frozen BK513.out 1; have hfz104_2 := blk_frozen BK513.out 2; have hcz105_0 : w103.cell? ⟨gb511, 0, none⟩ = some (.slice A0_0 l0_0.length c0_0) := kc BK511 rfl; have hfz105_0 := blk_frozen BK511.out 0; have hcz106_0 : w103.cell? ⟨gb512, 0, none⟩ = some (.slice A1_0 l1_0.length c1_0) := kc BK512 rfl; have hcz106_1 : w103.cell? ⟨gb512, 1, none⟩ = some (.int .i64 a1_1) := kc BK512 rfl; have hfz106_0 := blk_frozen BK512.out 0; have hfz106_1 := blk_frozen BK512.out 1) | ((with_reducible refine gate_callee (f := 62) rfl ?_); refine goesL_ (some 45) rfl rfl Try.func62 (by kernel_rfl) rfl #[.agg #[.slice A0_0 l0_0.length c0_0], .slice A1_0 l1_0.length c1_0, .agg #[.int .i64 a2_1, .slice A2_2 l2_2.length c2_2]] rfl (by (try simp only [List.map_toArray, List.map_cons, List.map_nil]); first | done | rfl | (simp only [List.length_drop, List.length_take]; rfl)) ?_; (with_reducible refine (spec_RemoveFact.calls kj4 _ _ l0_0 _ _ l1_0 a2_1 _ _ l2_2 t524 true _ ?side1 ?side2 ?side3 ?side4 ?side5 ?side6 A89.out).mono ?_); (case side1 => exact uC HR0_0 HB); (case side2 => exact HC0_0.out); (case side3 => exact uC HR1_0 HB); (case side4 => exact HC1_0.out); (case side5 => exact uC HR2_2 HB); (case side6 => exact HC2_2.out); rintro e w107 ⟨v525, rfl, ho0, hb⟩; refine ⟨_, rfl, ?_⟩; have HO526 := Aside0.mk (Kd.S_lower (Kd.S_new' (Kd.S_new' ho0 (Kd.S_lt (by (with_reducible repeat (first | apply Kd.S_alloc | apply Kd.S_drewN | apply Kd.S_drew)); exact HO_519000.out))) (Kd.S_lt (by (with_reducible repeat (first | apply Kd.S_alloc | apply Kd.S_drewN | apply Kd.S_drew)); exact HO522.out))) (below_size (uB HB))); replace HO_519000 := Aside0.mk (Kd.S_elder' (by (with_reducible repeat (first | apply Kd.S_alloc | apply Kd.S_drewN | apply Kd.S_drew)); exact HO_519000.out) (Kd.S_base ho0) hb); replace HO522 := Aside0.mk (Kd.S_elder' (by (with_reducible repeat (first | apply Kd.S_alloc | apply Kd.S_drewN | apply Kd.S_drew)); exact HO522.out) (Kd.S_base ho0) hb); replace BK511 := uK BK511 hb; replace BK512 := uK BK512 hb; replace BK513 := uK BK513 hb; replace BK514 := uK BK514 hb; replace BK518 := uK BK518 hb; replace HB := uS HB hb; (try clear hb); (try clear hb2); (try clear hk); (try clear hi); (try clear ho0); have hcz108_0 : w107.cell? ⟨gb512, 0, none⟩ = some (.slice A1_0 l1_0.length c1_0) := kc BK512 rfl; have hcz108_1 : w107.cell? ⟨gb512, 1, none⟩ = some (.int .i64 a1_1) := kc BK512 rfl; have hfz108_0 := blk_frozen BK512.out 0; have hfz108_1 := blk_frozen BK512.out 1; obtain ⟨Ao109, co109, eo109⟩ := Kd.S_slice HO526.out; subst eo109; have hnb110 := NB514_518.out; have hnc110 := NB518_514.out; have hcz111_0 : w107.cell? ⟨gb514, 0, none⟩ = some (.slice none 0 0) := kc BK514 rfl; have hcz111_1 : w107.cell? ⟨gb514, 1, none⟩ = some (.int .i64 0) := kc BK514 rfl; have hfz111_0 := blk_frozen BK514.out 0; have hfz111_1 := blk_frozen BK514.out 1))
      refine bodyPost_ret (results_ct rfl _ _ gb514 47 #[.slice Ao109 t524.length co109, .int .i64 (wrap64 (a1_1 + 1))] (0, 0) _ rfl (by (with_reducible repeat (first | refine blk_drewN ?_ _ | refine blk_drew ?_ | refine blk_alloc ?_ _)); refine blk_put (cs := #[.slice Ao109 t524.length co109, .int .i64 0]) ?_ 1 _ rfl; (with_reducible repeat (first | refine blk_drewN ?_ _ | refine blk_drew ?_ | refine blk_alloc ?_ _)); refine blk_put (cs := #[.slice none 0 0, .int .i64 0]) ?_ 0 _ rfl; (with_reducible repeat (first | refine blk_drewN ?_ _ | refine blk_drew ?_ | refine blk_alloc ?_ _)); exact BK514.out) Try.underlying47 rfl (by kernel_rfl)) rfl ?_
      exact ⟨_, by first | rfl | (simp [errW_none, errW_some] <;> rfl) | (simp [*, errW_none, errW_some] <;> rfl), by (with_reducible repeat (first | apply Kd.S_alloc | apply Kd.S_drewN | apply Kd.S_drew)); exact Kd.S_mono (Kd.S_far (p := ⟨gb514, 1, none⟩) (Kd.S_far (p := ⟨gb514, 0, none⟩) (Kd.S_types HO526.out BK514.out (by decide)) (fun _ hk => hk.2) (.slice Ao109 t524.length co109)) (fun _ hk => hk.2) (.int .i64 (wrap64 (a1_1 + 1)))) (fun _ hk => trivial), (by repeat (first | exact uB HB | refine below_set ?_ (Aside0.out (by assumption))))⟩
     ·replace c90 := Bool.eq_false_iff.mpr c90
      subst c90
      have H1 : (some (t515, a1_1, false)) = some (r1, r2, r3) := by rw [if_neg (show ¬ (false = true) by decide)] at H; exact H
      clear H
      have H := H1
      clear H1
      simp only [Option.some.injEq, Prod.mk.injEq] at H
      obtain ⟨rfl, rfl, rfl⟩ := H
      have hnb112 := NB511_512.out
      have hnc112 := NB512_511.out
      have hnb113 := NB511_513.out
      have hnc113 := NB513_511.out
      have hnb114 := NB511_514.out
      have hnc114 := NB514_511.out
      have hnb115 := NB511_518.out
      have hnc115 := NB518_511.out
      have hcz116_0 : wc.cell? ⟨gb511, 0, none⟩ = some (.slice A0_0 l0_0.length c0_0) := kc BK511 rfl
      have hfz116_0 := blk_frozen BK511.out 0
      have hnb117 := NB512_513.out
      have hnc117 := NB513_512.out
      have hnb118 := NB512_514.out
      have hnc118 := NB514_512.out
      have hnb119 := NB512_518.out
      have hnc119 := NB518_512.out
      have hcz120_0 : wc.cell? ⟨gb512, 0, none⟩ = some (.slice A1_0 l1_0.length c1_0) := kc BK512 rfl
      have hcz120_1 : wc.cell? ⟨gb512, 1, none⟩ = some (.int .i64 a1_1) := kc BK512 rfl
      have hfz120_0 := blk_frozen BK512.out 0
      have hfz120_1 := blk_frozen BK512.out 1
      have hnb121 := NB513_514.out
      have hnc121 := NB514_513.out
      have hnb122 := NB513_518.out
      have hnc122 := NB518_513.out
      have hcz123_0 : wc.cell? ⟨gb513, 0, none⟩ = some (.bool false) := kc BK513 rfl
      have hcz123_1 : wc.cell? ⟨gb513, 1, none⟩ = some (.int .i64 a2_1) := kc BK513 rfl
      have hcz123_2 : wc.cell? ⟨gb513, 2, none⟩ = some (.slice A2_2 l2_2.length c2_2) := kc BK513 rfl
      have hfz123_0 := blk_frozen BK513.out 0
      have hfz123_1 := blk_frozen BK513.out 1
      have hfz123_2 := blk_frozen BK513.out 2
      go_wp2_with (first | ((with_reducible refine gate_callee (f := 61) rfl ?_); refine goesL_ (some 33) rfl rfl Try.func61 (by kernel_rfl) rfl #[.agg #[.slice A0_0 l0_0.length c0_0], .slice A1_0 l1_0.length c1_0, .agg #[.int .i64 a2_1, .slice A2_2 l2_2.length c2_2]] rfl (by (try simp only [List.map_toArray, List.map_cons, List.map_nil]); first | done | rfl | (simp only [List.length_drop, List.length_take]; rfl)) ?_; (with_reducible refine (spec_AddFact.calls kj4 _ _ l0_0 _ _ l1_0 a2_1 _ _ l2_2 t520 t523 _ ?side1 ?side2 ?side3 ?side4 ?side5 ?side6 A51.out).mono ?_); (case side1 => exact uC HR0_0 HB); (case side2 => exact HC0_0.out); (case side3 => exact uC HR1_0 HB); (case side4 => exact HC1_0.out); (case side5 => exact uC HR2_2 HB); (case side6 => exact HC2_2.out); rintro e w124 ⟨v521, rfl, ho0, hb⟩; refine ⟨_, rfl, ?_⟩; have HO522 := Aside0.mk (Kd.S_lower (Kd.S_new' ho0 (Kd.S_lt (by (with_reducible repeat (first | apply Kd.S_alloc | apply Kd.S_drewN | apply Kd.S_drew)); exact HO_519000.out))) (below_size (uB HB))); replace HO_519000 := Aside0.mk (Kd.S_elder' (by (with_reducible repeat (first | apply Kd.S_alloc | apply Kd.S_drewN | apply Kd.S_drew)); exact HO_519000.out) (Kd.S_base ho0) hb); replace BK511 := uK BK511 hb; replace BK512 := uK BK512 hb; replace BK513 := uK BK513 hb; replace BK514 := uK BK514 hb; replace BK518 := uK BK518 hb; replace HB := uS HB hb; (try clear hb); (try clear hb2); (try clear hk); (try clear hi); (try clear ho0); have hcz125_0 : w124.cell? ⟨gb513, 0, none⟩ = some (.bool false) := kc BK513 rfl; have hcz125_1 : w124.cell? ⟨gb513, 1, none⟩ = some (.int .i64 a2_1) := kc BK513 rfl; have hcz125_2 : w124.cell? ⟨gb513, 2, none⟩ = some (.slice A2_2 l2_2.length c2_2) := kc BK513 rfl; have hfz125_0 := blk_frozen BK513.out 0; have hfz125_1 := blk_frozen BK513.out 1; have hfz125_2 := blk_frozen BK513.out 2; have hcz126_0 : w124.cell? ⟨gb511, 0, none⟩ = some (.slice A0_0 l0_0.length c0_0) := kc BK511 rfl; have hfz126_0 := blk_frozen BK511.out 0; have hcz127_0 : w124.cell? ⟨gb512, 0, none⟩ = some (.slice A1_0 l1_0.length c1_0) := kc BK512 rfl; have hcz127_1 : w124.cell? ⟨gb512, 1, none⟩ = some (.int .i64 a1_1) := kc BK512 rfl; have hfz127_0 := blk_frozen BK512.out 0; have hfz127_1 := blk_frozen BK512.out 1) | ((with_reducible refine gate_callee (f := 62) rfl ?_); refine goesL_ (some 45) rfl rfl Try.func62 (by kernel_rfl) rfl #[.agg #[.slice A0_0 l0_0.length c0_0], .slice A1_0 l1_0.length c1_0, .agg #[.int .i64 a2_1, .slice A2_2 l2_2.length c2_2]] rfl (by (try simp only [List.map_toArray, List.map_cons, List.map_nil]); first | done | rfl | (simp only [List.length_drop, List.length_take]; rfl)) ?_; (with_reducible refine (spec_RemoveFact.calls kj4 _ _ l0_0 _ _ l1_0 a2_1 _ _ l2_2 t524 false _ ?side1 ?side2 ?side3 ?side4 ?side5 ?side6 A89.out).mono ?_); (case side1 => exact uC HR0_0 HB); (case side2 => exact HC0_0.out); (case side3 => exact uC HR1_0 HB); (case side4 => exact HC1_0.out); (case side5 => exact uC HR2_2 HB); (case side6 => exact HC2_2.out); rintro e w128 ⟨v525, rfl, ho0, hb⟩; refine ⟨_, rfl, ?_⟩; have HO526 := Aside0.mk (Kd.S_lower (Kd.S_new' (Kd.S_new' ho0 (Kd.S_lt (by (with_reducible repeat (first | apply Kd.S_alloc | apply Kd.S_drewN | apply Kd.S_drew)); exact HO_519000.out))) (Kd.S_lt (by (with_reducible repeat (first | apply Kd.S_alloc | apply Kd.S_drewN | apply Kd.S_drew)); exact HO522.out))) (below_size (uB HB))); replace HO_519000 := Aside0.mk (Kd.S_elder' (by (with_reducible repeat (first | apply Kd.S_alloc | apply Kd.S_drewN | apply Kd.S_drew)); exact HO_519000.out) (Kd.S_base ho0) hb); replace HO522 := Aside0.mk (Kd.S_elder' (by (with_reducible repeat (first | apply Kd.S_alloc | apply Kd.S_drewN | apply Kd.S_drew)); exact HO522.out) (Kd.S_base ho0) hb); replace BK511 := uK BK511 hb; replace BK512 := uK BK512 hb; replace BK513 := uK BK513 hb; replace BK514 := uK BK514 hb; replace BK518 := uK BK518 hb; replace HB := uS HB hb; (try clear hb); (try clear hb2); (try clear hk); (try clear hi); (try clear ho0); have hnb129 := NB518_514.out; have hnc129 := NB514_518.out; have hcz130_0 : w128.cell? ⟨gb518, 0, none⟩ = some (.slice Ao15 t515.length co15) := kc BK518 rfl; have hcz130_1 : w128.cell? ⟨gb518, 1, none⟩ = some (.int .i64 a1_1) := kc BK518 rfl; have hfz130_0 := blk_frozen BK518.out 0; have hfz130_1 := blk_frozen BK518.out 1; have hcz131_0 : w128.cell? ⟨gb514, 0, none⟩ = some (.slice none 0 0) := kc BK514 rfl; have hcz131_1 : w128.cell? ⟨gb514, 1, none⟩ = some (.int .i64 0) := kc BK514 rfl; have hfz131_0 := blk_frozen BK514.out 0; have hfz131_1 := blk_frozen BK514.out 1))
      refine bodyPost_ret (results_ct rfl _ _ gb514 47 #[.slice Ao15 t515.length co15, .int .i64 a1_1] (0, 0) _ rfl (by (with_reducible repeat (first | refine blk_drewN ?_ _ | refine blk_drew ?_ | refine blk_alloc ?_ _)); refine blk_put (cs := #[.slice Ao15 t515.length co15, .int .i64 0]) ?_ 1 _ rfl; (with_reducible repeat (first | refine blk_drewN ?_ _ | refine blk_drew ?_ | refine blk_alloc ?_ _)); refine blk_put (cs := #[.slice none 0 0, .int .i64 0]) ?_ 0 _ rfl; (with_reducible repeat (first | refine blk_drewN ?_ _ | refine blk_drew ?_ | refine blk_alloc ?_ _)); exact BK514.out) Try.underlying47 rfl (by kernel_rfl)) rfl ?_
      exact ⟨_, by first | rfl | (simp [errW_none, errW_some] <;> rfl) | (simp [*, errW_none, errW_some] <;> rfl), by (with_reducible repeat (first | apply Kd.S_alloc | apply Kd.S_drewN | apply Kd.S_drew)); exact Kd.S_mono (Kd.S_far (p := ⟨gb514, 1, none⟩) (Kd.S_far (p := ⟨gb514, 0, none⟩) (Kd.S_types HO_519000.out BK514.out (by decide)) (fun _ hk => hk.2) (.slice Ao15 t515.length co15)) (fun _ hk => hk.2) (.int .i64 a1_1)) (fun _ hk => trivial), (by repeat (first | exact uB HB | refine below_set ?_ (Aside0.out (by assumption))))⟩

def laws_toSchema.f (k : Nat) (l0_0 : List Int) : Option (List Int) := (laws_toIntS.f k l0_0).bind fun t531 => (some t531)
set_option maxHeartbeats 8000000 in
set_option maxRecDepth 100000 in
theorem laws_toSchema.calls (k : Nat) (A0_0 : Option Addr) (c0_0 : Nat) (l0_0 : List Int) (r : List Int) (w : World) (hr0_0 : Kd.C (Kd.int .i64) w A0_0 l0_0.length l0_0) (hc0_0 : l0_0.length ≤ c0_0) (h : laws_toSchema.f k l0_0 = some r) :
  Calls Try.prog 20 #[.agg #[.slice A0_0 l0_0.length c0_0]] w fun e w' => ∃ v0_ : Value, e = .returned (.agg #[v0_]) ∧ Kd.R (Kd.int .i64) 3 w' w.heap.size (fun _ => True) v0_ r ∧ Below w.heap.size w w' := by
 have hu34 := Try.underlying34
 have hu50 := Try.underlying50
 have HR0_0 := Aside0.mk hr0_0
 have HC0_0 := Aside0.mk hc0_0
 clear hr0_0 hc0_0
 have HB := Aside0.mk (Below.refl w.heap.size w)
 have H : ((laws_toIntS.f k l0_0).bind fun t531 => (some t531)) = some r := h
 clear h
 replace H := Option.bind_eq_some_iff.mp H
 obtain ⟨t531, A20, H⟩ := H
 replace H : (some t531) = some r := H
 have A2 := Aside0.mk A20
 clear A20
 obtain rfl := Option.some.inj H
 go_enter Try.func20, Try.ntmps20
 go_wp2_with (first | ((with_reducible refine gate_dst (N := 1) rfl ?_); refine box_event ?hg (N := 1) ?hd (cs := #[.slice A0_0 l0_0.length c0_0]) (t := 34) ?hr ?_; (case hd => rfl); (case hg => rfl); (case hr => first | (go_simp; done) | (go_simp; rfl)); intro gb528 hg w3 hbox hb; have BK528 := Aside0.mk hbox; have GW528 := uG HB hg; have GE528 := uG HB hg; replace HB := uS HB hb; clear hb hbox hg) | ((with_reducible refine gate_dst (N := 2) rfl ?_); refine box_event ?hg (N := 2) ?hd (cs := #[.slice none 0 0]) (t := 50) ?hr ?_; (case hd => rfl); (case hg => rfl); (case hr => first | (go_simp; done) | (go_simp; rfl)); intro gb529 hg w4 hbox hb; have BK529 := Aside0.mk hbox; have GW529 := uG HB hg; have GE529 := uG HB hg; replace HB := uS HB hb; have NB528_529 := uN BK528 hg; have NB529_528 := uM BK528 hg; replace BK528 := uK BK528 hb; clear hb hbox hg) | ((with_reducible refine gate_dst (N := 3) rfl ?_); refine box_event ?hg (N := 3) ?hd (cs := #[.slice none 0 0]) (t := 50) ?hr ?_; (case hd => rfl); (case hg => rfl); (case hr => first | (go_simp; done) | (go_simp; rfl)); intro gb530 hg w5 hbox hb; have BK530 := Aside0.mk hbox; have GW530 := uG HB hg; have GE530 := uG HB hg; replace HB := uS HB hb; have NB528_530 := uN BK528 hg; have NB530_528 := uM BK528 hg; replace BK528 := uK BK528 hb; have NB529_530 := uN BK529 hg; have NB530_529 := uM BK529 hg; replace BK529 := uK BK529 hb; clear hb hbox hg; have hnb6 := NB528_529.out; have hnc6 := NB529_528.out; have hnb7 := NB528_530.out; have hnc7 := NB530_528.out; have hcz8_0 : w5.cell? ⟨gb528, 0, none⟩ = some (.slice A0_0 l0_0.length c0_0) := kc BK528 rfl; have hfz8_0 := blk_frozen BK528.out 0) | ((with_reducible refine gate_callee (f := 63) rfl ?_); refine goesL_ (some 6) rfl rfl Try.func63 (by kernel_rfl) rfl #[.slice A0_0 l0_0.length c0_0] rfl (by (try simp only [List.map_toArray, List.map_cons, List.map_nil]); first | done | rfl | (simp only [List.length_drop, List.length_take]; rfl)) ?_; (with_reducible refine (laws_toIntS.calls k _ _ l0_0 t531 _ ?side1 ?side2 A2.out).mono ?_); (case side1 => exact uC HR0_0 HB); (case side2 => exact HC0_0.out); rintro e w9 ⟨v532, rfl, ho0, hb⟩; refine ⟨_, rfl, ?_⟩; have HO533 := Aside0.mk (Kd.R_lower ho0 (below_size (uB HB))); replace BK528 := uK BK528 hb; replace BK529 := uK BK529 hb; replace BK530 := uK BK530 hb; replace HB := uS HB hb; (try clear hb); (try clear hb2); (try clear hk); (try clear hi); (try clear ho0); obtain ⟨Ao10, co10, eo10⟩ := Kd.R_slice HO533.out; subst eo10; have hnb11 := NB530_529.out; have hnc11 := NB529_530.out; have hcz12_0 : w9.cell? ⟨gb530, 0, none⟩ = some (.slice none 0 0) := kc BK530 rfl; have hfz12_0 := blk_frozen BK530.out 0; have hcz13_0 : w9.cell? ⟨gb529, 0, none⟩ = some (.slice none 0 0) := kc BK529 rfl; have hfz13_0 := blk_frozen BK529.out 0))
 refine bodyPost_ret (results_cell_row rfl _ _ gb529 50 #[.slice Ao10 t531.length co10] (0, 0) _ rfl (by (with_reducible repeat (first | refine blk_drewN ?_ _ | refine blk_drew ?_ | refine blk_alloc ?_ _)); refine blk_put (cs := #[.slice none 0 0]) ?_ 0 _ rfl; (with_reducible repeat (first | refine blk_drewN ?_ _ | refine blk_drew ?_ | refine blk_alloc ?_ _)); refine blk_far ?_ NB529_530.out _; (with_reducible repeat (first | refine blk_drewN ?_ _ | refine blk_drew ?_ | refine blk_alloc ?_ _)); exact BK529.out) Try.underlying50 rfl (by kernel_rfl)) rfl ?_
 exact ⟨_, by first | rfl | (simp [errW_none, errW_some] <;> rfl) | (simp [*, errW_none, errW_some] <;> rfl), by (with_reducible repeat (first | apply Kd.R_alloc | apply Kd.R_drewN | apply Kd.R_drew)); exact Kd.R_mono (Kd.R_far (p := ⟨gb529, 0, none⟩) (Kd.R_far (p := ⟨gb530, 0, none⟩) (Kd.R_types (Kd.R_types HO533.out BK530.out (by decide)) BK529.out (by decide)) (fun _ hk => hk.1.2) (.slice Ao10 t531.length co10)) (fun _ hk => hk.2) (.slice Ao10 t531.length co10)) (fun _ hk => trivial), (by repeat (first | exact uB HB | refine below_set ?_ (Aside0.out (by assumption))))⟩

def laws_toFact.f (k : Nat) (a0_0 : Int) (l0_1 : List Int) : Option (Int × List Int) := (laws_toIntS.f k l0_1).bind fun t537 => (some (a0_0, t537))
set_option maxHeartbeats 8000000 in
set_option maxRecDepth 100000 in
theorem laws_toFact.calls (k : Nat) (a0_0 : Int) (A0_1 : Option Addr) (c0_1 : Nat) (l0_1 : List Int) (r1 : Int) (r2 : List Int) (w : World) (hr0_1 : Kd.C (Kd.int .i64) w A0_1 l0_1.length l0_1) (hc0_1 : l0_1.length ≤ c0_1) (h : laws_toFact.f k a0_0 l0_1 = some (r1, r2)) :
  Calls Try.prog 65 #[.agg #[.int .i64 a0_0, .slice A0_1 l0_1.length c0_1]] w fun e w' => ∃ v1_ : Value, e = .returned (.agg #[.int .i64 r1, v1_]) ∧ Kd.R (Kd.int .i64) 3 w' w.heap.size (fun _ => True) v1_ r2 ∧ Below w.heap.size w w' := by
 have hu39 := Try.underlying39
 have hu53 := Try.underlying53
 have HR0_1 := Aside0.mk hr0_1
 have HC0_1 := Aside0.mk hc0_1
 clear hr0_1 hc0_1
 have HB := Aside0.mk (Below.refl w.heap.size w)
 have H : ((laws_toIntS.f k l0_1).bind fun t537 => (some (a0_0, t537))) = some (r1, r2) := h
 clear h
 replace H := Option.bind_eq_some_iff.mp H
 obtain ⟨t537, A20, H⟩ := H
 replace H : (some (a0_0, t537)) = some (r1, r2) := H
 have A2 := Aside0.mk A20
 clear A20
 simp only [Option.some.injEq, Prod.mk.injEq] at H
 obtain ⟨rfl, rfl⟩ := H
 go_enter Try.func65, Try.ntmps65
 go_wp2_with (first | ((with_reducible refine gate_dst (N := 1) rfl ?_); refine box_event ?hg (N := 1) ?hd (cs := #[.int .i64 a0_0, .slice A0_1 l0_1.length c0_1]) (t := 39) ?hr ?_; (case hd => rfl); (case hg => rfl); (case hr => first | (go_simp; done) | (go_simp; rfl)); intro gb534 hg w3 hbox hb; have BK534 := Aside0.mk hbox; have GW534 := uG HB hg; have GE534 := uG HB hg; replace HB := uS HB hb; clear hb hbox hg) | ((with_reducible refine gate_dst (N := 2) rfl ?_); refine box_event ?hg (N := 2) ?hd (cs := #[.int .i64 0, .slice none 0 0]) (t := 53) ?hr ?_; (case hd => rfl); (case hg => rfl); (case hr => first | (go_simp; done) | (go_simp; rfl)); intro gb535 hg w4 hbox hb; have BK535 := Aside0.mk hbox; have GW535 := uG HB hg; have GE535 := uG HB hg; replace HB := uS HB hb; have NB534_535 := uN BK534 hg; have NB535_534 := uM BK534 hg; replace BK534 := uK BK534 hb; clear hb hbox hg) | ((with_reducible refine gate_dst (N := 3) rfl ?_); refine box_event ?hg (N := 3) ?hd (cs := #[.int .i64 0, .slice none 0 0]) (t := 53) ?hr ?_; (case hd => rfl); (case hg => rfl); (case hr => first | (go_simp; done) | (go_simp; rfl)); intro gb536 hg w5 hbox hb; have BK536 := Aside0.mk hbox; have GW536 := uG HB hg; have GE536 := uG HB hg; replace HB := uS HB hb; have NB534_536 := uN BK534 hg; have NB536_534 := uM BK534 hg; replace BK534 := uK BK534 hb; have NB535_536 := uN BK535 hg; have NB536_535 := uM BK535 hg; replace BK535 := uK BK535 hb; clear hb hbox hg; have hnb6 := NB534_535.out; have hnc6 := NB535_534.out; have hnb7 := NB534_536.out; have hnc7 := NB536_534.out; have hcz8_0 : w5.cell? ⟨gb534, 0, none⟩ = some (.int .i64 a0_0) := kc BK534 rfl; have hcz8_1 : w5.cell? ⟨gb534, 1, none⟩ = some (.slice A0_1 l0_1.length c0_1) := kc BK534 rfl; have hfz8_0 := blk_frozen BK534.out 0; have hfz8_1 := blk_frozen BK534.out 1; have hnb9 := NB536_535.out; have hnc9 := NB535_536.out; have hcz10_0 : w5.cell? ⟨gb536, 0, none⟩ = some (.int .i64 0) := kc BK536 rfl; have hcz10_1 : w5.cell? ⟨gb536, 1, none⟩ = some (.slice none 0 0) := kc BK536 rfl; have hfz10_0 := blk_frozen BK536.out 0; have hfz10_1 := blk_frozen BK536.out 1) | ((with_reducible refine gate_callee (f := 63) rfl ?_); refine goesL_ (some 9) rfl rfl Try.func63 (by kernel_rfl) rfl #[.slice A0_1 l0_1.length c0_1] rfl (by (try simp only [List.map_toArray, List.map_cons, List.map_nil]); first | done | rfl | (simp only [List.length_drop, List.length_take]; rfl)) ?_; (with_reducible refine (laws_toIntS.calls k _ _ l0_1 t537 _ ?side1 ?side2 A2.out).mono ?_); (case side1 => exact Kd.C_below HR0_1.out ((by repeat (first | exact uB HB | refine below_set ?_ (Aside0.out (by assumption)))))); (case side2 => exact HC0_1.out); rintro e w11 ⟨v538, rfl, ho0, hb⟩; refine ⟨_, rfl, ?_⟩; have HO539 := Aside0.mk (Kd.R_lower ho0 (below_size ((by repeat (first | exact uB HB | refine below_set ?_ (Aside0.out (by assumption))))))); replace BK534 := Aside0.mk (blk_below (g := gb534) (o := .cells #[.int .i64 a0_0, .slice A0_1 l0_1.length c0_1] 39 (0, 0)) (by (with_reducible repeat (first | refine blk_drewN ?_ _ | refine blk_drew ?_ | refine blk_alloc ?_ _)); refine blk_far ?_ NB534_536.out _; (with_reducible repeat (first | refine blk_drewN ?_ _ | refine blk_drew ?_ | refine blk_alloc ?_ _)); exact BK534.out) hb); replace BK535 := Aside0.mk (blk_below (g := gb535) (o := .cells #[.int .i64 0, .slice none 0 0] 53 (0, 0)) (by (with_reducible repeat (first | refine blk_drewN ?_ _ | refine blk_drew ?_ | refine blk_alloc ?_ _)); refine blk_far ?_ NB535_536.out _; (with_reducible repeat (first | refine blk_drewN ?_ _ | refine blk_drew ?_ | refine blk_alloc ?_ _)); exact BK535.out) hb); replace BK536 := Aside0.mk (blk_below (g := gb536) (o := .cells #[.int .i64 a0_0, .slice none 0 0] 53 (0, 0)) (by (with_reducible repeat (first | refine blk_drewN ?_ _ | refine blk_drew ?_ | refine blk_alloc ?_ _)); refine blk_put (cs := #[.int .i64 0, .slice none 0 0]) ?_ 0 _ rfl; (with_reducible repeat (first | refine blk_drewN ?_ _ | refine blk_drew ?_ | refine blk_alloc ?_ _)); exact BK536.out) hb); replace HB := Aside0.mk (below_step (by repeat (first | exact uB HB | refine below_set ?_ (Aside0.out (by assumption)))) hb); (try clear hb); (try clear hb2); (try clear hk); (try clear hi); (try clear ho0); obtain ⟨Ao12, co12, eo12⟩ := Kd.R_slice HO539.out; subst eo12; have hcz13_0 : w11.cell? ⟨gb536, 0, none⟩ = some (.int .i64 a0_0) := kc BK536 rfl; have hcz13_1 : w11.cell? ⟨gb536, 1, none⟩ = some (.slice none 0 0) := kc BK536 rfl; have hfz13_0 := blk_frozen BK536.out 0; have hfz13_1 := blk_frozen BK536.out 1; have hcz14_0 : w11.cell? ⟨gb535, 0, none⟩ = some (.int .i64 0) := kc BK535 rfl; have hcz14_1 : w11.cell? ⟨gb535, 1, none⟩ = some (.slice none 0 0) := kc BK535 rfl; have hfz14_0 := blk_frozen BK535.out 0; have hfz14_1 := blk_frozen BK535.out 1))
 refine bodyPost_ret (results_cell_row rfl _ _ gb535 53 #[.int .i64 a0_0, .slice Ao12 t537.length co12] (0, 0) _ rfl (by (with_reducible repeat (first | refine blk_drewN ?_ _ | refine blk_drew ?_ | refine blk_alloc ?_ _)); refine blk_put (cs := #[.int .i64 a0_0, .slice none 0 0]) ?_ 1 _ rfl; (with_reducible repeat (first | refine blk_drewN ?_ _ | refine blk_drew ?_ | refine blk_alloc ?_ _)); refine blk_put (cs := #[.int .i64 0, .slice none 0 0]) ?_ 0 _ rfl; (with_reducible repeat (first | refine blk_drewN ?_ _ | refine blk_drew ?_ | refine blk_alloc ?_ _)); refine blk_far ?_ NB535_536.out _; (with_reducible repeat (first | refine blk_drewN ?_ _ | refine blk_drew ?_ | refine blk_alloc ?_ _)); exact BK535.out) Try.underlying53 rfl (by kernel_rfl)) rfl ?_
 exact ⟨_, by first | rfl | (simp [errW_none, errW_some] <;> rfl) | (simp [*, errW_none, errW_some] <;> rfl), by (with_reducible repeat (first | apply Kd.R_alloc | apply Kd.R_drewN | apply Kd.R_drew)); exact Kd.R_mono (Kd.R_far (p := ⟨gb535, 1, none⟩) (Kd.R_far (p := ⟨gb535, 0, none⟩) (Kd.R_far (p := ⟨gb536, 1, none⟩) (Kd.R_types (Kd.R_types HO539.out BK536.out (by decide)) BK535.out (by decide)) (fun _ hk => hk.1.2) (.slice Ao12 t537.length co12)) (fun _ hk => hk.2) (.int .i64 a0_0)) (fun _ hk => hk.2) (.slice Ao12 t537.length co12)) (fun _ hk => trivial), (by repeat (first | exact uB HB | refine below_set ?_ (Aside0.out (by assumption))))⟩

end Go.Proofs.Ytjglknoebaojgaa.P

