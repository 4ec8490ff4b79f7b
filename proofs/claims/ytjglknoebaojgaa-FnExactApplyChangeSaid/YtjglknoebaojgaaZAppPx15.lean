/- Out of YtjglknoebaojgaaPx15: what the claim needs of it. Conditions: each declaration's own. -/
import Derived.Test.YtjglknoebaojgaaZAppPUp
import Derived.Test.YtjglknoebaojgaaZAppM12
import Derived.Test.YtjglknoebaojgaaZAppM13
import Derived.Test.YtjglknoebaojgaaZAppM14
import Derived.Test.YtjglknoebaojgaaZAppPx14
namespace Go.Proofs.Ytjglknoebaojgaa.P
open Go.RowKit Go.Proofs.YtjglknoebaojgaaW.PrintWords Go.Proofs.YtjglknoebaojgaaW.PrintLast Go.Proofs.YtjglknoebaojgaaW.PrintMore
attribute [local go_sem] max2_int min2_int max_two min_two max_three min_three max_four min_four   -- for this text's walks alone
set_option linter.unusedVariables false
set_option linter.unusedSimpArgs false

def spec_AddFact.j0 : Nat → List (S53) → Bool → Int → List Int → Option ((List (S53)) × Bool)
 | 0, _, _, _, _ => none
 | k + 1, x1, x27, x482000, x482001 => if x27 = true then ((spec_l5All.f k x1).bind fun t485 => (some (t485, false))) else ((spec_l5Put.f k x1 x482000 x482001).bind fun t488 => (some (t488, true)))
def spec_AddFact.f (k : Nat) (l0_0 : List Int) (l1 : List (S53)) (a2_0 : Int) (l2_1 : List Int) : Option ((List (S53)) × Bool) := (spec_IsDatabase.f k l0_0 l1).bind fun t482 => (if t482 = true then ((spec_IsFact.f k l0_0 a2_0 l2_1).bind fun t483 => (if t483 = true then ((spec_HasFact.f k l1 a2_0 l2_1).bind fun t484 => (if t484 = true then (spec_AddFact.j0 k l1 true a2_0 l2_1) else (spec_AddFact.j0 k l1 (decide ((l1.length : Int) ≥ 24)) a2_0 l2_1))) else (spec_AddFact.j0 k l1 true a2_0 l2_1))) else (spec_AddFact.j0 k l1 true a2_0 l2_1))
set_option maxHeartbeats 8000000 in
set_option maxRecDepth 100000 in
theorem spec_AddFact.calls (k : Nat) (A0_0 : Option Addr) (c0_0 : Nat) (l0_0 : List Int) (A1 : Option Addr) (c1 : Nat) (l1 : List (S53)) (a2_0 : Int) (A2_1 : Option Addr) (c2_1 : Nat) (l2_1 : List Int) (r1 : List (S53)) (r2 : Bool) (w : World) (hr0_0 : Kd.C (Kd.int .i64) w A0_0 l0_0.length l0_0) (hc0_0 : l0_0.length ≤ c0_0) (hr1 : Kd.C k53 w A1 l1.length l1) (hc1 : l1.length ≤ c1) (hr2_1 : Kd.C (Kd.int .i64) w A2_1 l2_1.length l2_1) (hc2_1 : l2_1.length ≤ c2_1) (h : spec_AddFact.f k l0_0 l1 a2_0 l2_1 = some (r1, r2)) :
  Calls Try.prog 61 #[.agg #[.slice A0_0 l0_0.length c0_0], .slice A1 l1.length c1, .agg #[.int .i64 a2_0, .slice A2_1 l2_1.length c2_1]] w fun e w' => ∃ v0_ : Value, e = .returned (.tuple #[v0_, .bool r2]) ∧ Kd.S k53 53 w' w.heap.size (fun _ => True) v0_ r1 ∧ Below w.heap.size w w' := by
 have hu50 := Try.underlying50
 have hu53 := Try.underlying53
 have HR0_0 := Aside0.mk hr0_0
 have HC0_0 := Aside0.mk hc0_0
 clear hr0_0 hc0_0
 have HR1 := Aside0.mk hr1
 have HC1 := Aside0.mk hc1
 clear hr1 hc1
 have HR2_1 := Aside0.mk hr2_1
 have HC2_1 := Aside0.mk hc2_1
 clear hr2_1 hc2_1
 have HB := Aside0.mk (Below.refl w.heap.size w)
 have H : ((spec_IsDatabase.f k l0_0 l1).bind fun t482 => (if t482 = true then ((spec_IsFact.f k l0_0 a2_0 l2_1).bind fun t483 => (if t483 = true then ((spec_HasFact.f k l1 a2_0 l2_1).bind fun t484 => (if t484 = true then (spec_AddFact.j0 k l1 true a2_0 l2_1) else (spec_AddFact.j0 k l1 (decide ((l1.length : Int) ≥ 24)) a2_0 l2_1))) else (spec_AddFact.j0 k l1 true a2_0 l2_1))) else (spec_AddFact.j0 k l1 true a2_0 l2_1))) = some (r1, r2) := h
 clear h
 have HC4 := Aside0.mk H
 clear H
 go_enter Try.func61, Try.ntmps61
 go_upto_region 1 with (first | ((with_reducible refine gate_dst (N := 3) rfl ?_); (try (refine gate_guard (by rfl) ?_; dsimp only)); refine box_event ?hg (N := 3) ?hd (cs := #[.slice A0_0 l0_0.length c0_0]) (t := 50) ?hr ?_; (case hd => rfl); (case hg => rfl); (case hr => first | (go_simp; done) | (go_simp; rfl)); intro gb480 hg w5 hbox hb; have BK480 := Aside0.mk hbox; have GW480 := uG HB hg; have GE480 := uG HB hg; replace HB := uS HB hb; clear hb hbox hg) | ((with_reducible refine gate_dst (N := 5) rfl ?_); (try (refine gate_guard (by rfl) ?_; dsimp only)); refine box_event ?hg (N := 5) ?hd (cs := #[.int .i64 a2_0, .slice A2_1 l2_1.length c2_1]) (t := 53) ?hr ?_; (case hd => rfl); (case hg => rfl); (case hr => first | (go_simp; done) | (go_simp; rfl)); intro gb481 hg w6 hbox hb; have BK481 := Aside0.mk hbox; have GW481 := uG HB hg; have GE481 := uG HB hg; replace HB := uS HB hb; have NB480_481 := uN BK480 hg; have NB481_480 := uM BK480 hg; replace BK480 := uK BK480 hb; clear hb hbox hg))
 (try simp only [Act.put, sA, sZ, sS])
 go_cut [27] (fun v27 wc => ∃ (kq : Nat) (x27_3 : Bool), v27 = .bool x27_3 ∧ Aside0 (spec_AddFact.j0 kq l1 x27_3 a2_0 l2_1 = some (r1, r2)) ∧ Aside0 (kq ≤ k) ∧ Aside0 (wc.heap[gb480]? = some (.cells #[(.slice A0_0 l0_0.length c0_0)] 50 (0, 0))) ∧ Aside0 (wc.heap[gb481]? = some (.cells #[.int .i64 a2_0, (.slice A2_1 l2_1.length c2_1)] 53 (0, 0))) ∧ Aside0 (Below w.heap.size w wc))
 case first =>
  have H := HC4.out
  clear HC4
  replace H := Option.bind_eq_some_iff.mp H
  obtain ⟨t482, A70, H⟩ := H
  replace H : (if t482 = true then ((spec_IsFact.f k l0_0 a2_0 l2_1).bind fun t483 => (if t483 = true then ((spec_HasFact.f k l1 a2_0 l2_1).bind fun t484 => (if t484 = true then (spec_AddFact.j0 k l1 true a2_0 l2_1) else (spec_AddFact.j0 k l1 (decide ((l1.length : Int) ≥ 24)) a2_0 l2_1))) else (spec_AddFact.j0 k l1 true a2_0 l2_1))) else (spec_AddFact.j0 k l1 true a2_0 l2_1)) = some (r1, r2) := H
  have A7 := Aside0.mk A70
  clear A70
  by_cases c8 : t482 = true
  ·subst c8
   have H1 : ((spec_IsFact.f k l0_0 a2_0 l2_1).bind fun t483 => (if t483 = true then ((spec_HasFact.f k l1 a2_0 l2_1).bind fun t484 => (if t484 = true then (spec_AddFact.j0 k l1 true a2_0 l2_1) else (spec_AddFact.j0 k l1 (decide ((l1.length : Int) ≥ 24)) a2_0 l2_1))) else (spec_AddFact.j0 k l1 true a2_0 l2_1))) = some (r1, r2) := by rw [if_pos rfl] at H; exact H
   clear H
   have H := H1
   clear H1
   replace H := Option.bind_eq_some_iff.mp H
   obtain ⟨t483, A90, H⟩ := H
   replace H : (if t483 = true then ((spec_HasFact.f k l1 a2_0 l2_1).bind fun t484 => (if t484 = true then (spec_AddFact.j0 k l1 true a2_0 l2_1) else (spec_AddFact.j0 k l1 (decide ((l1.length : Int) ≥ 24)) a2_0 l2_1))) else (spec_AddFact.j0 k l1 true a2_0 l2_1)) = some (r1, r2) := H
   have A9 := Aside0.mk A90
   clear A90
   by_cases c10 : t483 = true
   ·subst c10
    have H1 : ((spec_HasFact.f k l1 a2_0 l2_1).bind fun t484 => (if t484 = true then (spec_AddFact.j0 k l1 true a2_0 l2_1) else (spec_AddFact.j0 k l1 (decide ((l1.length : Int) ≥ 24)) a2_0 l2_1))) = some (r1, r2) := by rw [if_pos rfl] at H; exact H
    clear H
    have H := H1
    clear H1
    replace H := Option.bind_eq_some_iff.mp H
    obtain ⟨t484, A110, H⟩ := H
    replace H : (if t484 = true then (spec_AddFact.j0 k l1 true a2_0 l2_1) else (spec_AddFact.j0 k l1 (decide ((l1.length : Int) ≥ 24)) a2_0 l2_1)) = some (r1, r2) := H
    have A11 := Aside0.mk A110
    clear A110
    by_cases c12 : t484 = true
    ·subst c12
     have H1 : (spec_AddFact.j0 k l1 true a2_0 l2_1) = some (r1, r2) := by rw [if_pos rfl] at H; exact H
     clear H
     have H := H1
     clear H1
     have H' := Aside0.mk H
     clear H
     have hnb13 := NB480_481.out
     have hnc13 := NB481_480.out
     have hcz14_0 : w6.cell? ⟨gb480, 0, none⟩ = some (.slice A0_0 l0_0.length c0_0) := kc BK480 rfl
     have hfz14_0 := blk_frozen BK480.out 0
     go_wp2_with (first | ((with_reducible refine gate_callee (f := 93) rfl ?_); refine goesL_ (some 10) rfl rfl Try.func93 (by kernel_rfl) rfl #[.agg #[.slice A0_0 l0_0.length c0_0], .slice A1 l1.length c1] rfl (by (try simp only [List.map_toArray, List.map_cons, List.map_nil]); first | done | rfl | (simp only [List.length_drop, List.length_take]; rfl)) ?_; (with_reducible refine (spec_IsDatabase.calls k _ _ l0_0 _ _ l1 true _ ?side1 ?side2 ?side3 ?side4 A7.out).mono ?_); (case side1 => exact uC HR0_0 HB); (case side2 => exact HC0_0.out); (case side3 => exact uC HR1 HB); (case side4 => exact HC1.out); rintro e w15 ⟨rfl, hb⟩; refine ⟨_, rfl, ?_⟩; replace BK480 := uK BK480 hb; replace BK481 := uK BK481 hb; replace HB := uS HB hb; (try clear hb); (try clear hb2); (try clear hk); (try clear hi); have hcz16_0 : w15.cell? ⟨gb480, 0, none⟩ = some (.slice A0_0 l0_0.length c0_0) := kc BK480 rfl; have hfz16_0 := blk_frozen BK480.out 0; have hcz17_0 : w15.cell? ⟨gb481, 0, none⟩ = some (.int .i64 a2_0) := kc BK481 rfl; have hcz17_1 : w15.cell? ⟨gb481, 1, none⟩ = some (.slice A2_1 l2_1.length c2_1) := kc BK481 rfl; have hfz17_0 := blk_frozen BK481.out 0; have hfz17_1 := blk_frozen BK481.out 1) | (go_at_call 95; (with_reducible refine (spec_IsFact.calls k _ _ l0_0 a2_0 _ _ l2_1 true _ ?side1 ?side2 ?side3 ?side4 A9.out).mono ?_); (case side1 => exact uC HR0_0 HB); (case side2 => exact HC0_0.out); (case side3 => exact uC HR2_1 HB); (case side4 => exact HC2_1.out); rintro e w18 ⟨rfl, hb⟩; replace BK480 := uK BK480 hb; replace BK481 := uK BK481 hb; replace HB := uS HB hb; (try clear hb); (try clear hb2); (try clear hk); (try clear hi); have hcz19_0 : w18.cell? ⟨gb481, 0, none⟩ = some (.int .i64 a2_0) := kc BK481 rfl; have hcz19_1 : w18.cell? ⟨gb481, 1, none⟩ = some (.slice A2_1 l2_1.length c2_1) := kc BK481 rfl; have hfz19_0 := blk_frozen BK481.out 0; have hfz19_1 := blk_frozen BK481.out 1) | (go_at_call 96; (with_reducible refine (spec_HasFact.calls k _ _ l1 a2_0 _ _ l2_1 true _ ?side1 ?side2 ?side3 ?side4 A11.out).mono ?_); (case side1 => exact uC HR1 HB); (case side2 => exact HC1.out); (case side3 => exact uC HR2_1 HB); (case side4 => exact HC2_1.out); rintro e w20 ⟨rfl, hb⟩; replace BK480 := uK BK480 hb; replace BK481 := uK BK481 hb; replace HB := uS HB hb; (try clear hb); (try clear hb2); (try clear hk); (try clear hi)))
     go_meet
     case rel => exact ⟨_, (true), (by first | rfl | (simp; done) | (simp [*]; done)), H', ⟨by first | omega | exact Nat.le_refl _⟩, ⟨uk BK480⟩, ⟨uk BK481⟩, ⟨uB HB⟩⟩
    ·replace c12 := Bool.eq_false_iff.mpr c12
     subst c12
     have H1 : (spec_AddFact.j0 k l1 (decide ((l1.length : Int) ≥ 24)) a2_0 l2_1) = some (r1, r2) := by rw [if_neg (show ¬ (false = true) by decide)] at H; exact H
     clear H
     have H := H1
     clear H1
     have H' := Aside0.mk H
     clear H
     have hnb21 := NB480_481.out
     have hnc21 := NB481_480.out
     have hcz22_0 : w6.cell? ⟨gb480, 0, none⟩ = some (.slice A0_0 l0_0.length c0_0) := kc BK480 rfl
     have hfz22_0 := blk_frozen BK480.out 0
     go_wp2_with (first | ((with_reducible refine gate_callee (f := 93) rfl ?_); refine goesL_ (some 10) rfl rfl Try.func93 (by kernel_rfl) rfl #[.agg #[.slice A0_0 l0_0.length c0_0], .slice A1 l1.length c1] rfl (by (try simp only [List.map_toArray, List.map_cons, List.map_nil]); first | done | rfl | (simp only [List.length_drop, List.length_take]; rfl)) ?_; (with_reducible refine (spec_IsDatabase.calls k _ _ l0_0 _ _ l1 true _ ?side1 ?side2 ?side3 ?side4 A7.out).mono ?_); (case side1 => exact uC HR0_0 HB); (case side2 => exact HC0_0.out); (case side3 => exact uC HR1 HB); (case side4 => exact HC1.out); rintro e w23 ⟨rfl, hb⟩; refine ⟨_, rfl, ?_⟩; replace BK480 := uK BK480 hb; replace BK481 := uK BK481 hb; replace HB := uS HB hb; (try clear hb); (try clear hb2); (try clear hk); (try clear hi); have hcz24_0 : w23.cell? ⟨gb480, 0, none⟩ = some (.slice A0_0 l0_0.length c0_0) := kc BK480 rfl; have hfz24_0 := blk_frozen BK480.out 0; have hcz25_0 : w23.cell? ⟨gb481, 0, none⟩ = some (.int .i64 a2_0) := kc BK481 rfl; have hcz25_1 : w23.cell? ⟨gb481, 1, none⟩ = some (.slice A2_1 l2_1.length c2_1) := kc BK481 rfl; have hfz25_0 := blk_frozen BK481.out 0; have hfz25_1 := blk_frozen BK481.out 1) | (go_at_call 95; (with_reducible refine (spec_IsFact.calls k _ _ l0_0 a2_0 _ _ l2_1 true _ ?side1 ?side2 ?side3 ?side4 A9.out).mono ?_); (case side1 => exact uC HR0_0 HB); (case side2 => exact HC0_0.out); (case side3 => exact uC HR2_1 HB); (case side4 => exact HC2_1.out); rintro e w26 ⟨rfl, hb⟩; replace BK480 := uK BK480 hb; replace BK481 := uK BK481 hb; replace HB := uS HB hb; (try clear hb); (try clear hb2); (try clear hk); (try clear hi); have hcz27_0 : w26.cell? ⟨gb481, 0, none⟩ = some (.int .i64 a2_0) := kc BK481 rfl; have hcz27_1 : w26.cell? ⟨gb481, 1, none⟩ = some (.slice A2_1 l2_1.length c2_1) := kc BK481 rfl; have hfz27_0 := blk_frozen BK481.out 0; have hfz27_1 := blk_frozen BK481.out 1) | (go_at_call 96; (with_reducible refine (spec_HasFact.calls k _ _ l1 a2_0 _ _ l2_1 false _ ?side1 ?side2 ?side3 ?side4 A11.out).mono ?_); (case side1 => exact uC HR1 HB); (case side2 => exact HC1.out); (case side3 => exact uC HR2_1 HB); (case side4 => exact HC2_1.out); rintro e w28 ⟨rfl, hb⟩; replace BK480 := uK BK480 hb; replace BK481 := uK BK481 hb; replace HB := uS HB hb; (try clear hb); (try clear hb2); (try clear hk); (try clear hi)))
     go_meet
     case rel => exact ⟨_, (decide ((l1.length : Int) ≥ 24)), (by first | rfl | (simp; done) | (simp [*]; done)), H', ⟨by first | omega | exact Nat.le_refl _⟩, ⟨uk BK480⟩, ⟨uk BK481⟩, ⟨uB HB⟩⟩
   ·replace c10 := Bool.eq_false_iff.mpr c10
    subst c10
    have H1 : (spec_AddFact.j0 k l1 true a2_0 l2_1) = some (r1, r2) := by rw [if_neg (show ¬ (false = true) by decide)] at H; exact H
    clear H
    have H := H1
    clear H1
    have H' := Aside0.mk H
    clear H
    have hnb29 := NB480_481.out
    have hnc29 := NB481_480.out
    have hcz30_0 : w6.cell? ⟨gb480, 0, none⟩ = some (.slice A0_0 l0_0.length c0_0) := kc BK480 rfl
    have hfz30_0 := blk_frozen BK480.out 0
    go_wp2_with (first | ((with_reducible refine gate_callee (f := 93) rfl ?_); refine goesL_ (some 10) rfl rfl Try.func93 (by kernel_rfl) rfl #[.agg #[.slice A0_0 l0_0.length c0_0], .slice A1 l1.length c1] rfl (by (try simp only [List.map_toArray, List.map_cons, List.map_nil]); first | done | rfl | (simp only [List.length_drop, List.length_take]; rfl)) ?_; (with_reducible refine (spec_IsDatabase.calls k _ _ l0_0 _ _ l1 true _ ?side1 ?side2 ?side3 ?side4 A7.out).mono ?_); (case side1 => exact uC HR0_0 HB); (case side2 => exact HC0_0.out); (case side3 => exact uC HR1 HB); (case side4 => exact HC1.out); rintro e w31 ⟨rfl, hb⟩; refine ⟨_, rfl, ?_⟩; replace BK480 := uK BK480 hb; replace BK481 := uK BK481 hb; replace HB := uS HB hb; (try clear hb); (try clear hb2); (try clear hk); (try clear hi); have hcz32_0 : w31.cell? ⟨gb480, 0, none⟩ = some (.slice A0_0 l0_0.length c0_0) := kc BK480 rfl; have hfz32_0 := blk_frozen BK480.out 0; have hcz33_0 : w31.cell? ⟨gb481, 0, none⟩ = some (.int .i64 a2_0) := kc BK481 rfl; have hcz33_1 : w31.cell? ⟨gb481, 1, none⟩ = some (.slice A2_1 l2_1.length c2_1) := kc BK481 rfl; have hfz33_0 := blk_frozen BK481.out 0; have hfz33_1 := blk_frozen BK481.out 1) | (go_at_call 95; (with_reducible refine (spec_IsFact.calls k _ _ l0_0 a2_0 _ _ l2_1 false _ ?side1 ?side2 ?side3 ?side4 A9.out).mono ?_); (case side1 => exact uC HR0_0 HB); (case side2 => exact HC0_0.out); (case side3 => exact uC HR2_1 HB); (case side4 => exact HC2_1.out); rintro e w34 ⟨rfl, hb⟩; replace BK480 := uK BK480 hb; replace BK481 := uK BK481 hb; replace HB := uS HB hb; (try clear hb); (try clear hb2); (try clear hk); (try clear hi)))
    go_meet
    case rel => exact ⟨_, (true), (by first | rfl | (simp; done) | (simp [*]; done)), H', ⟨by first | omega | exact Nat.le_refl _⟩, ⟨uk BK480⟩, ⟨uk BK481⟩, ⟨uB HB⟩⟩
  ·replace c8 := Bool.eq_false_iff.mpr c8
   subst c8
   have H1 : (spec_AddFact.j0 k l1 true a2_0 l2_1) = some (r1, r2) := by rw [if_neg (show ¬ (false = true) by decide)] at H; exact H
   clear H
   have H := H1
   clear H1
   have H' := Aside0.mk H
   clear H
   have hnb35 := NB480_481.out
   have hnc35 := NB481_480.out
   have hcz36_0 : w6.cell? ⟨gb480, 0, none⟩ = some (.slice A0_0 l0_0.length c0_0) := kc BK480 rfl
   have hfz36_0 := blk_frozen BK480.out 0
   go_wp2_with (first | ((with_reducible refine gate_callee (f := 93) rfl ?_); refine goesL_ (some 10) rfl rfl Try.func93 (by kernel_rfl) rfl #[.agg #[.slice A0_0 l0_0.length c0_0], .slice A1 l1.length c1] rfl (by (try simp only [List.map_toArray, List.map_cons, List.map_nil]); first | done | rfl | (simp only [List.length_drop, List.length_take]; rfl)) ?_; (with_reducible refine (spec_IsDatabase.calls k _ _ l0_0 _ _ l1 false _ ?side1 ?side2 ?side3 ?side4 A7.out).mono ?_); (case side1 => exact uC HR0_0 HB); (case side2 => exact HC0_0.out); (case side3 => exact uC HR1 HB); (case side4 => exact HC1.out); rintro e w37 ⟨rfl, hb⟩; refine ⟨_, rfl, ?_⟩; replace BK480 := uK BK480 hb; replace BK481 := uK BK481 hb; replace HB := uS HB hb; (try clear hb); (try clear hb2); (try clear hk); (try clear hi)))
   go_meet
   case rel => exact ⟨_, (true), (by first | rfl | (simp; done) | (simp [*]; done)), H', ⟨by first | omega | exact Nat.le_refl _⟩, ⟨uk BK480⟩, ⟨uk BK481⟩, ⟨uB HB⟩⟩
 case rest =>
  clear HC4
  try clear c1
  try clear c2
  try clear p2
  try clear c3
  try clear c6
  try clear c8
  try clear c9
  try clear c10
  try clear c12
  try clear c13
  try clear c21
  try clear c29
  try clear c35
  try clear hcz14_0
  try clear hcz16_0
  try clear hcz17_0
  try clear hcz17_1
  try clear hcz19_0
  try clear hcz19_1
  try clear hcz22_0
  try clear hcz24_0
  try clear hcz25_0
  try clear hcz25_1
  try clear hcz27_0
  try clear hcz27_1
  try clear hcz30_0
  try clear hcz32_0
  try clear hcz33_0
  try clear hcz33_1
  try clear hcz36_0
  try clear hfz14_0
  try clear hfz16_0
  try clear hfz17_0
  try clear hfz17_1
  try clear hfz19_0
  try clear hfz19_1
  try clear hfz22_0
  try clear hfz24_0
  try clear hfz25_0
  try clear hfz25_1
  try clear hfz27_0
  try clear hfz27_1
  try clear hfz30_0
  try clear hfz32_0
  try clear hfz33_0
  try clear hfz33_1
  try clear hfz36_0
  obtain ⟨kq, x27_3, rfl, HA, HJ3, BK480, BK481, HB⟩ := hcut
  cases kq with
  | zero => exact absurd HA.out (by simp [spec_AddFact.j0])
  | succ kj3 =>
   have H := HA.out
   clear HA
   simp only [spec_AddFact.j0] at H
   by_cases c38 : x27_3 = true
   ·subst c38
    have H1 : ((spec_l5All.f kj3 l1).bind fun t485 => (some (t485, false))) = some (r1, r2) := by rw [if_pos rfl] at H; exact H
    clear H
    have H := H1
    clear H1
    replace H := Option.bind_eq_some_iff.mp H
    obtain ⟨t485, A390, H⟩ := H
    replace H : (some (t485, false)) = some (r1, r2) := H
    have A39 := Aside0.mk A390
    clear A390
    simp only [Option.some.injEq, Prod.mk.injEq] at H
    obtain ⟨rfl, rfl⟩ := H
    go_wp2_with (first | ((with_reducible refine gate_callee (f := 59) rfl ?_); refine goesL_ (some 29) rfl rfl Try.func59 (by kernel_rfl) rfl #[.slice A1 l1.length c1] rfl (by (try simp only [List.map_toArray, List.map_cons, List.map_nil]); first | done | rfl | (simp only [List.length_drop, List.length_take]; rfl)) ?_; (with_reducible refine (spec_l5All.calls kj3 _ _ l1 t485 _ ?side1 ?side2 A39.out).mono ?_); (case side1 => exact uC HR1 HB); (case side2 => exact HC1.out); rintro e w40 ⟨v486, rfl, ho0, hb⟩; refine ⟨_, rfl, ?_⟩; have HO487 := Aside0.mk (Kd.S_lower (Kd.S_newB ho0 (g := gb481) (o := .cells #[.int .i64 a2_0, .slice A2_1 l2_1.length c2_1] 53 (0, 0)) (uk BK481)) (below_size (uB HB))); replace BK480 := uK BK480 hb; replace BK481 := uK BK481 hb; replace HB := uS HB hb; (try clear hb); (try clear hb2); (try clear hk); (try clear hi); (try clear ho0)))
    go_ret2
    exact ⟨_, by first | rfl | (simp [errW_none, errW_some] <;> rfl) | (simp [*, errW_none, errW_some] <;> rfl), by (with_reducible repeat (first | apply Kd.S_alloc | apply Kd.S_drewN | apply Kd.S_drew)); exact Kd.S_mono HO487.out (fun _ hk => trivial), uB HB⟩
   ·replace c38 := Bool.eq_false_iff.mpr c38
    subst c38
    have H1 : ((spec_l5Put.f kj3 l1 a2_0 l2_1).bind fun t488 => (some (t488, true))) = some (r1, r2) := by rw [if_neg (show ¬ (false = true) by decide)] at H; exact H
    clear H
    have H := H1
    clear H1
    replace H := Option.bind_eq_some_iff.mp H
    obtain ⟨t488, A410, H⟩ := H
    replace H : (some (t488, true)) = some (r1, r2) := H
    have A41 := Aside0.mk A410
    clear A410
    simp only [Option.some.injEq, Prod.mk.injEq] at H
    obtain ⟨rfl, rfl⟩ := H
    have hnb42 := NB481_480.out
    have hnc42 := NB480_481.out
    have hcz43_0 : wc.cell? ⟨gb481, 0, none⟩ = some (.int .i64 a2_0) := kc BK481 rfl
    have hcz43_1 : wc.cell? ⟨gb481, 1, none⟩ = some (.slice A2_1 l2_1.length c2_1) := kc BK481 rfl
    have hfz43_0 := blk_frozen BK481.out 0
    have hfz43_1 := blk_frozen BK481.out 1
    go_wp2_with (first | ((with_reducible refine gate_callee (f := 97) rfl ?_); refine goesL_ (some 32) rfl rfl Try.func97 (by kernel_rfl) rfl #[.slice A1 l1.length c1, .agg #[.int .i64 a2_0, .slice A2_1 l2_1.length c2_1]] rfl (by (try simp only [List.map_toArray, List.map_cons, List.map_nil]); first | done | rfl | (simp only [List.length_drop, List.length_take]; rfl)) ?_; (with_reducible refine (spec_l5Put.calls kj3 _ _ l1 a2_0 _ _ l2_1 t488 _ ?side1 ?side2 ?side3 ?side4 A41.out).mono ?_); (case side1 => exact uC HR1 HB); (case side2 => exact HC1.out); (case side3 => exact uC HR2_1 HB); (case side4 => exact HC2_1.out); rintro e w44 ⟨v489, rfl, ho0, hb⟩; refine ⟨_, rfl, ?_⟩; have HO490 := Aside0.mk (Kd.S_lower (Kd.S_newB ho0 (g := gb481) (o := .cells #[.int .i64 a2_0, .slice A2_1 l2_1.length c2_1] 53 (0, 0)) (uk BK481)) (below_size (uB HB))); replace BK480 := uK BK480 hb; replace BK481 := uK BK481 hb; replace HB := uS HB hb; (try clear hb); (try clear hb2); (try clear hk); (try clear hi); (try clear ho0)))
    go_ret2
    exact ⟨_, by first | rfl | (simp [errW_none, errW_some] <;> rfl) | (simp [*, errW_none, errW_some] <;> rfl), by (with_reducible repeat (first | apply Kd.S_alloc | apply Kd.S_drewN | apply Kd.S_drew)); exact Kd.S_mono HO490.out (fun _ hk => trivial), uB HB⟩

mutual
def spec_RemoveFact.j0 : Nat → List (S53) → Bool → Int → List Int → Option ((List (S53)) × Bool)
 | 0, _, _, _, _ => none
 | k + 1, x1, x19, x493000, x493001 => if x19 = true then ((spec_l5All.f k x1).bind fun t495 => (some (t495, false))) else (spec_RemoveFact.l0 k x1 (([] : List (S53))) 0 x493000 x493001)
def spec_RemoveFact.l0 : Nat → List (S53) → List (S53) → Int → Int → List Int → Option ((List (S53)) × Bool)
 | 0, _, _, _, _, _ => none
 | k + 1, x1, x8, x9, x493000, x493001 => if x9 < (x1.length : Int) then (if 0 ≤ x9 then ((spec_l5Same.f k ((rd_T53 x1 x9).f0) ((rd_T53 x1 x9).f1) x493000 x493001).bind fun t502 => (if t502 = true then (spec_RemoveFact.l0 k x1 x8 (wrap64 (x9 + 1)) x493000 x493001) else ((spec_l5Copy.f ((rd_T53 x1 x9).f0) ((rd_T53 x1 x9).f1)).bind fun bt504 => (if x8.length < 4398046511104 then (spec_RemoveFact.l0 k x1 (x8 ++ [(⟨bt504.1, bt504.2⟩ : S53)]) (wrap64 (x9 + 1)) x493000 x493001) else (none))))) else (none)) else (some (x8, true))
end
def spec_RemoveFact.f (k : Nat) (l0_0 : List Int) (l1 : List (S53)) (a2_0 : Int) (l2_1 : List Int) : Option ((List (S53)) × Bool) := (spec_IsDatabase.f k l0_0 l1).bind fun t493 => (if t493 = true then ((spec_HasFact.f k l1 a2_0 l2_1).bind fun t494 => (spec_RemoveFact.j0 k l1 (!t494) a2_0 l2_1)) else (spec_RemoveFact.j0 k l1 true a2_0 l2_1))
set_option maxHeartbeats 8000000 in
set_option maxRecDepth 100000 in
theorem spec_RemoveFact.calls (k : Nat) (A0_0 : Option Addr) (c0_0 : Nat) (l0_0 : List Int) (A1 : Option Addr) (c1 : Nat) (l1 : List (S53)) (a2_0 : Int) (A2_1 : Option Addr) (c2_1 : Nat) (l2_1 : List Int) (r1 : List (S53)) (r2 : Bool) (w : World) (hr0_0 : Kd.C (Kd.int .i64) w A0_0 l0_0.length l0_0) (hc0_0 : l0_0.length ≤ c0_0) (hr1 : Kd.C k53 w A1 l1.length l1) (hc1 : l1.length ≤ c1) (hr2_1 : Kd.C (Kd.int .i64) w A2_1 l2_1.length l2_1) (hc2_1 : l2_1.length ≤ c2_1) (h : spec_RemoveFact.f k l0_0 l1 a2_0 l2_1 = some (r1, r2)) :
  Calls Try.prog 62 #[.agg #[.slice A0_0 l0_0.length c0_0], .slice A1 l1.length c1, .agg #[.int .i64 a2_0, .slice A2_1 l2_1.length c2_1]] w fun e w' => ∃ v0_ : Value, e = .returned (.tuple #[v0_, .bool r2]) ∧ Kd.S k53 53 w' w.heap.size (fun _ => True) v0_ r1 ∧ Below w.heap.size w w' := by
 have hu50 := Try.underlying50
 have hu53 := Try.underlying53
 have HR0_0 := Aside0.mk hr0_0
 have HC0_0 := Aside0.mk hc0_0
 clear hr0_0 hc0_0
 have HR1 := Aside0.mk hr1
 have HC1 := Aside0.mk hc1
 clear hr1 hc1
 have HR2_1 := Aside0.mk hr2_1
 have HC2_1 := Aside0.mk hc2_1
 clear hr2_1 hc2_1
 have HB := Aside0.mk (Below.refl w.heap.size w)
 have H : ((spec_IsDatabase.f k l0_0 l1).bind fun t493 => (if t493 = true then ((spec_HasFact.f k l1 a2_0 l2_1).bind fun t494 => (spec_RemoveFact.j0 k l1 (!t494) a2_0 l2_1)) else (spec_RemoveFact.j0 k l1 true a2_0 l2_1))) = some (r1, r2) := h
 clear h
 have HC4 := Aside0.mk H
 clear H
 go_enter Try.func62, Try.ntmps62
 go_upto_region 1 with (first | ((with_reducible refine gate_dst (N := 3) rfl ?_); refine box_event ?hg (N := 3) ?hd (cs := #[.slice A0_0 l0_0.length c0_0]) (t := 50) ?hr ?_; (case hd => rfl); (case hg => rfl); (case hr => first | (go_simp; done) | (go_simp; rfl)); intro gb491 hg w5 hbox hb; have BK491 := Aside0.mk hbox; have GW491 := uG HB hg; have GE491 := uG HB hg; replace HB := uS HB hb; clear hb hbox hg) | ((with_reducible refine gate_dst (N := 5) rfl ?_); refine box_event ?hg (N := 5) ?hd (cs := #[.int .i64 a2_0, .slice A2_1 l2_1.length c2_1]) (t := 53) ?hr ?_; (case hd => rfl); (case hg => rfl); (case hr => first | (go_simp; done) | (go_simp; rfl)); intro gb492 hg w6 hbox hb; have BK492 := Aside0.mk hbox; have GW492 := uG HB hg; have GE492 := uG HB hg; replace HB := uS HB hb; have NB491_492 := uN BK491 hg; have NB492_491 := uM BK491 hg; replace BK491 := uK BK491 hb; clear hb hbox hg))
 (try simp only [Act.put, sA, sZ, sS])
 go_cut [19] (fun v19 wc => ∃ (kq : Nat) (x19_3 : Bool), v19 = .bool x19_3 ∧ Aside0 (spec_RemoveFact.j0 kq l1 x19_3 a2_0 l2_1 = some (r1, r2)) ∧ Aside0 (kq ≤ k) ∧ Aside0 (wc.heap[gb491]? = some (.cells #[(.slice A0_0 l0_0.length c0_0)] 50 (0, 0))) ∧ Aside0 (wc.heap[gb492]? = some (.cells #[.int .i64 a2_0, (.slice A2_1 l2_1.length c2_1)] 53 (0, 0))) ∧ Aside0 (Below w.heap.size w wc))
 case first =>
  have H := HC4.out
  clear HC4
  replace H := Option.bind_eq_some_iff.mp H
  obtain ⟨t493, A70, H⟩ := H
  replace H : (if t493 = true then ((spec_HasFact.f k l1 a2_0 l2_1).bind fun t494 => (spec_RemoveFact.j0 k l1 (!t494) a2_0 l2_1)) else (spec_RemoveFact.j0 k l1 true a2_0 l2_1)) = some (r1, r2) := H
  have A7 := Aside0.mk A70
  clear A70
  by_cases c8 : t493 = true
  ·subst c8
   have H1 : ((spec_HasFact.f k l1 a2_0 l2_1).bind fun t494 => (spec_RemoveFact.j0 k l1 (!t494) a2_0 l2_1)) = some (r1, r2) := by rw [if_pos rfl] at H; exact H
   clear H
   have H := H1
   clear H1
   replace H := Option.bind_eq_some_iff.mp H
   obtain ⟨t494, A90, H⟩ := H
   replace H : (spec_RemoveFact.j0 k l1 (!t494) a2_0 l2_1) = some (r1, r2) := H
   have A9 := Aside0.mk A90
   clear A90
   have H' := Aside0.mk H
   clear H
   have hnb10 := NB491_492.out
   have hnc10 := NB492_491.out
   have hcz11_0 : w6.cell? ⟨gb491, 0, none⟩ = some (.slice A0_0 l0_0.length c0_0) := kc BK491 rfl
   have hfz11_0 := blk_frozen BK491.out 0
   go_wp2_with (first | ((with_reducible refine gate_callee (f := 93) rfl ?_); refine goesL_ (some 12) rfl rfl Try.func93 (by kernel_rfl) rfl #[.agg #[.slice A0_0 l0_0.length c0_0], .slice A1 l1.length c1] rfl (by (try simp only [List.map_toArray, List.map_cons, List.map_nil]); first | done | rfl | (simp only [List.length_drop, List.length_take]; rfl)) ?_; (with_reducible refine (spec_IsDatabase.calls k _ _ l0_0 _ _ l1 true _ ?side1 ?side2 ?side3 ?side4 A7.out).mono ?_); (case side1 => exact uC HR0_0 HB); (case side2 => exact HC0_0.out); (case side3 => exact uC HR1 HB); (case side4 => exact HC1.out); rintro e w12 ⟨rfl, hb⟩; refine ⟨_, rfl, ?_⟩; replace BK491 := uK BK491 hb; replace BK492 := uK BK492 hb; replace HB := uS HB hb; (try clear hb); (try clear hb2); (try clear hk); (try clear hi); have hcz13_0 : w12.cell? ⟨gb492, 0, none⟩ = some (.int .i64 a2_0) := kc BK492 rfl; have hcz13_1 : w12.cell? ⟨gb492, 1, none⟩ = some (.slice A2_1 l2_1.length c2_1) := kc BK492 rfl; have hfz13_0 := blk_frozen BK492.out 0; have hfz13_1 := blk_frozen BK492.out 1) | (go_at_call 96; (with_reducible refine (spec_HasFact.calls k _ _ l1 a2_0 _ _ l2_1 t494 _ ?side1 ?side2 ?side3 ?side4 A9.out).mono ?_); (case side1 => exact uC HR1 HB); (case side2 => exact HC1.out); (case side3 => exact uC HR2_1 HB); (case side4 => exact HC2_1.out); rintro e w14 ⟨rfl, hb⟩; replace BK491 := uK BK491 hb; replace BK492 := uK BK492 hb; replace HB := uS HB hb; (try clear hb); (try clear hb2); (try clear hk); (try clear hi)))
   go_meet
   case rel => exact ⟨_, (!t494), (by first | rfl | (simp; done) | (simp [*]; done)), H', ⟨by first | omega | exact Nat.le_refl _⟩, ⟨uk BK491⟩, ⟨uk BK492⟩, ⟨uB HB⟩⟩
  ·replace c8 := Bool.eq_false_iff.mpr c8
   subst c8
   have H1 : (spec_RemoveFact.j0 k l1 true a2_0 l2_1) = some (r1, r2) := by rw [if_neg (show ¬ (false = true) by decide)] at H; exact H
   clear H
   have H := H1
   clear H1
   have H' := Aside0.mk H
   clear H
   have hnb15 := NB491_492.out
   have hnc15 := NB492_491.out
   have hcz16_0 : w6.cell? ⟨gb491, 0, none⟩ = some (.slice A0_0 l0_0.length c0_0) := kc BK491 rfl
   have hfz16_0 := blk_frozen BK491.out 0
   go_wp2_with (first | ((with_reducible refine gate_callee (f := 93) rfl ?_); refine goesL_ (some 12) rfl rfl Try.func93 (by kernel_rfl) rfl #[.agg #[.slice A0_0 l0_0.length c0_0], .slice A1 l1.length c1] rfl (by (try simp only [List.map_toArray, List.map_cons, List.map_nil]); first | done | rfl | (simp only [List.length_drop, List.length_take]; rfl)) ?_; (with_reducible refine (spec_IsDatabase.calls k _ _ l0_0 _ _ l1 false _ ?side1 ?side2 ?side3 ?side4 A7.out).mono ?_); (case side1 => exact uC HR0_0 HB); (case side2 => exact HC0_0.out); (case side3 => exact uC HR1 HB); (case side4 => exact HC1.out); rintro e w17 ⟨rfl, hb⟩; refine ⟨_, rfl, ?_⟩; replace BK491 := uK BK491 hb; replace BK492 := uK BK492 hb; replace HB := uS HB hb; (try clear hb); (try clear hb2); (try clear hk); (try clear hi)))
   go_meet
   case rel => exact ⟨_, (true), (by first | rfl | (simp; done) | (simp [*]; done)), H', ⟨by first | omega | exact Nat.le_refl _⟩, ⟨uk BK491⟩, ⟨uk BK492⟩, ⟨uB HB⟩⟩
 case rest =>
  clear HC4
  try clear c1
  try clear c2
  try clear p2
  try clear c6
  try clear c8
  try clear c9
  try clear c10
  try clear c15
  try clear hcz11_0
  try clear hcz13_0
  try clear hcz13_1
  try clear hcz16_0
  try clear hfz11_0
  try clear hfz13_0
  try clear hfz13_1
  try clear hfz16_0
  obtain ⟨kq, x19_3, rfl, HA, HJ3, BK491, BK492, HB⟩ := hcut
  cases kq with
  | zero => exact absurd HA.out (by simp [spec_RemoveFact.j0])
  | succ kj3 =>
   have H := HA.out
   clear HA
   simp only [spec_RemoveFact.j0] at H
   by_cases c18 : x19_3 = true
   ·subst c18
    have H1 : ((spec_l5All.f kj3 l1).bind fun t495 => (some (t495, false))) = some (r1, r2) := by rw [if_pos rfl] at H; exact H
    clear H
    have H := H1
    clear H1
    replace H := Option.bind_eq_some_iff.mp H
    obtain ⟨t495, A190, H⟩ := H
    replace H : (some (t495, false)) = some (r1, r2) := H
    have A19 := Aside0.mk A190
    clear A190
    simp only [Option.some.injEq, Prod.mk.injEq] at H
    obtain ⟨rfl, rfl⟩ := H
    go_wp2_with (first | ((with_reducible refine gate_callee (f := 59) rfl ?_); refine goesL_ (some 21) rfl rfl Try.func59 (by kernel_rfl) rfl #[.slice A1 l1.length c1] rfl (by (try simp only [List.map_toArray, List.map_cons, List.map_nil]); first | done | rfl | (simp only [List.length_drop, List.length_take]; rfl)) ?_; (with_reducible refine (spec_l5All.calls kj3 _ _ l1 t495 _ ?side1 ?side2 A19.out).mono ?_); (case side1 => exact uC HR1 HB); (case side2 => exact HC1.out); rintro e w20 ⟨v496, rfl, ho0, hb⟩; refine ⟨_, rfl, ?_⟩; have HO497 := Aside0.mk (Kd.S_lower (Kd.S_newB ho0 (g := gb492) (o := .cells #[.int .i64 a2_0, .slice A2_1 l2_1.length c2_1] 53 (0, 0)) (uk BK492)) (below_size (uB HB))); replace BK491 := uK BK491 hb; replace BK492 := uK BK492 hb; replace HB := uS HB hb; (try clear hb); (try clear hb2); (try clear hk); (try clear hi); (try clear ho0)))
    go_ret2
    exact ⟨_, by first | rfl | (simp [errW_none, errW_some] <;> rfl) | (simp [*, errW_none, errW_some] <;> rfl), by (with_reducible repeat (first | apply Kd.S_alloc | apply Kd.S_drewN | apply Kd.S_drew)); exact Kd.S_mono HO497.out (fun _ hk => trivial), uB HB⟩
   ·replace c18 := Bool.eq_false_iff.mpr c18
    subst c18
    have H1 : (spec_RemoveFact.l0 kj3 l1 (([] : List (S53))) 0 a2_0 l2_1) = some (r1, r2) := by rw [if_neg (show ¬ (false = true) by decide)] at H; exact H
    clear H
    have H := H1
    clear H1
    obtain ⟨y498, hy498⟩ : ∃ y_ : List (S53), y_ = (([] : List (S53))) := ⟨_, rfl⟩
    replace H : (spec_RemoveFact.l0 kj3 l1 y498 0 a2_0 l2_1) = some (r1, r2) := by first | (rw [hy498]; with_reducible exact H) | (have H2_ := (Option.bind_some _ _).symm.trans H; rw [hy498]; with_reducible exact H2_) | (have H2_ := (Option.bind_some _ _).symm.trans H; with_reducible exact H2_) | with_reducible exact H | (rw [hy498]; exact H) | exact H
    have Ny498 := Aside0.mk hy498
    clear hy498
    have H' := Aside0.mk H
    clear H
    go_wp2_with (first | ((with_reducible refine gate_dst (N := 22) rfl ?_); refine Kd.S_lit k53 _ 53 ?hg (N := 22) ?hd (xs := ([] : List (S53))) (inner := []) (ok := fun _ => True) (okp := fun _ => True) ?hr ?hp (fun _ hk => hk) trivial (Below.refl _ _) (Nat.le_refl _) (by simp) ?_; (case hd => rfl); (case hg => rfl); (case hr => first | (go_simp; done) | (go_simp; rfl)); (case hp => exact (Reps.none _ _)); intro v499 w21 ho22 hb hg_ hnew_; clear hg_ hnew_; (first | rw [← Ny498.out] at ho22 | (simp only [Int.reduceToNat] at ho22; rw [← Ny498.out] at ho22)); have HO500 := Aside0.mk (Kd.S_lower (Kd.S_newB ho22 (g := gb492) (o := .cells #[.int .i64 a2_0, .slice A2_1 l2_1.length c2_1] 53 (0, 0)) (uk BK492)) (below_size (uB HB))); replace BK491 := uK BK491 hb; replace BK492 := uK BK492 hb; replace HB := uS HB hb; clear hb ho22))
    go_loopg [8, 9] kj3 (fun kq v8 v9 w' => ∃ (x8_2 : List (S53)) (x9_2 : Int), v9 = .int .i64 x9_2 ∧ Aside0 (spec_RemoveFact.l0 kq l1 x8_2 x9_2 a2_0 l2_1 = some (r1, r2)) ∧ Aside0 (kq ≤ kj3) ∧ Aside0 (Kd.S k53 53 w' w.heap.size (fun k_ => k_ ≠ gb492) v8 x8_2) ∧ Aside0 (w'.heap[gb491]? = some (.cells #[(.slice A0_0 l0_0.length c0_0)] 50 (0, 0))) ∧ Aside0 (w'.heap[gb492]? = some (.cells #[.int .i64 a2_0, (.slice A2_1 l2_1.length c2_1)] 53 (0, 0))) ∧ Aside0 (Below w.heap.size w w'))
    case atStart => exact ⟨(y498), (0), (by first | rfl | (simp; done) | (simp [*]; done)), H', ⟨Nat.le_refl _⟩, ⟨by (with_reducible repeat (first | apply Kd.S_alloc | apply Kd.S_drewN | apply Kd.S_drew)); exact Kd.S_mono HO500.out (fun _ hk => hk.2)⟩, ⟨uk BK491⟩, ⟨uk BK492⟩, ⟨uB HB⟩⟩
    case round =>
     clear H'
     try clear c1
     try clear c2
     try clear p2
     try clear c5
     try clear c6
     try clear c8
     try clear c9
     try clear c10
     try clear c15
     try clear c18
     try clear hcz11_0
     try clear hcz13_0
     try clear hcz13_1
     try clear hcz16_0
     try clear hfz11_0
     try clear hfz13_0
     try clear hfz13_1
     try clear hfz16_0
     try clear p2
     obtain ⟨x8_2, x9_2, rfl, HA, HK2, HO_8, BK491, BK492, HB⟩ := hrel
     cases gk with
     | zero => exact absurd HA.out (by simp [spec_RemoveFact.l0])
     | succ k2 =>
      have H := HA.out
      clear HA
      simp only [spec_RemoveFact.l0] at H
      by_cases c23 : x9_2 < (l1.length : Int)
      ·rw [if_pos c23] at H
       have c23b0 : decide (x9_2 < (l1.length : Int)) = true := decide_eq_true c23
       clear c23
       by_cases c24 : 0 ≤ x9_2
       ·rw [if_pos c24] at H
        have c24b0 : decide (0 ≤ x9_2) = true := decide_eq_true c24
        clear c24
        replace H := Option.bind_eq_some_iff.mp H
        obtain ⟨t502, A250, H⟩ := H
        replace H : (if t502 = true then (spec_RemoveFact.l0 k2 l1 x8_2 (wrap64 (x9_2 + 1)) a2_0 l2_1) else ((spec_l5Copy.f ((rd_T53 l1 x9_2).f0) ((rd_T53 l1 x9_2).f1)).bind fun bt504 => (if x8_2.length < 4398046511104 then (spec_RemoveFact.l0 k2 l1 (x8_2 ++ [(⟨bt504.1, bt504.2⟩ : S53)]) (wrap64 (x9_2 + 1)) a2_0 l2_1) else (none)))) = some (r1, r2) := H
        have A25 := Aside0.mk A250
        clear A250
        by_cases c26 : t502 = true
        ·subst c26
         have H1 : (spec_RemoveFact.l0 k2 l1 x8_2 (wrap64 (x9_2 + 1)) a2_0 l2_1) = some (r1, r2) := by rw [if_pos rfl] at H; exact H
         clear H
         have H := H1
         clear H1
         have H' := Aside0.mk H
         clear H
         try go_wp2
         have n0_ := Aside0.mk (Kd.S_drew HO_8.out)
         have n1_ := Aside0.mk (blk_drew BK491.out)
         have n2_ := Aside0.mk (blk_drew BK492.out)
         have n3_ := Aside0.mk (below_drew1 HB.out)
         clear HO_8
         clear BK491
         clear BK492
         clear HB
         have HO_8 := n0_
         have BK491 := n1_
         have BK492 := n2_
         have HB := n3_
         clear n0_ n1_ n2_ n3_
         have p501 : 0 ≤ (x9_2 : Int) := of_decide_eq_true (by first | (with_reducible assumption) | assumption)
         have q501 : x9_2 < (l1.length : Int) := of_decide_eq_true (by first | (with_reducible assumption) | assumption)
         obtain ⟨ad501, A501_1, c501_1, e501, hx501_0, hx501_1, hl501_1, hi501_1⟩ := at_T53 HR1.out x9_2 p501 q501
         have hw501_1 := hx501_1
         have hw501_0 := hx501_0
         cases e501
         replace hx501_0 := (HB.out.cell (World.block_lt_of_cell? w _ hx501_0)).trans hx501_0
         replace hx501_1 := (HB.out.cell (World.block_lt_of_cell? w _ hx501_1)).trans hx501_1
         have HR501_1 := Aside0.mk hi501_1
         have HC501_1 := Aside0.mk hl501_1
         clear hi501_1 hl501_1
         replace p501 := eq_true p501
         replace q501 := eq_true q501
         refine start_ (n := 7) (S := fun w' => w'.cell? ⟨gb492, 0, none⟩ = some (.int .i64 a2_0) ∧ w'.cell? ⟨gb492, 1, none⟩ = some (.slice A2_1 l2_1.length c2_1) ∧ w'.cell? (ad501.add ((x9_2).toNat * 2)) = some (.int .i64 ((rd_T53 l1 x9_2).f0)) ∧ w'.cell? ⟨(ad501.add ((x9_2).toNat * 2)).block, (ad501.add ((x9_2).toNat * 2)).off + 1, none⟩ = some (.slice A501_1 ((rd_T53 l1 x9_2).f1).length c501_1)) (ds := []) #[false, false, false, false, false, false, false] (by kernel_rfl) rfl rfl ⟨kc BK492 rfl, kc BK492 rfl, ((HB.out.cell (World.block_lt_of_cell? w _ hw501_0)).trans hw501_0), ((HB.out.cell (World.block_lt_of_cell? w _ hw501_1)).trans hw501_1)⟩ (fun hHeld => ?_)
         generalize wr.drew = w27 at HO_8 BK491 BK492 HB HR501_1 hx501_0 hx501_1 hHeld ⊢
         refine pure_ (i := 0) (N := some 29) (v := ?_) (a' := ?_) #[true, false, false, false, false, false, false] rfl rfl (by kernel_rfl) (fun _ _ _ h => h) (Or.inl ⟨by rfl, ?_⟩) ?_ ?_
         rotate_left
         ·intro w'
          go_simp
          with_reducible rfl
         rotate_left
         ·simp only [Act.put, sA, sZ, sS, i64_w, i32_w]
          rfl
         refine pure_ (i := 1) (N := some 30) (v := ?_) (a' := ?_) #[true, true, false, false, false, false, false] rfl rfl (by kernel_rfl) (fun _ _ _ h => h) (Or.inl ⟨by rfl, ?_⟩) ?_ ?_
         rotate_left
         ·intro w'
          go_simp
          with_reducible rfl
         rotate_left
         ·simp only [Act.put, sA, sZ, sS, i64_w, i32_w]
          rfl
         refine pure_ (i := 2) (N := some 31) (v := ?_) (a' := ?_) #[true, true, true, false, false, false, false] rfl rfl (by kernel_rfl) (fun _ _ _ h => h) (Or.inl ⟨by rfl, ?_⟩) ?_ ?_
         rotate_left
         ·intro w'
          go_simp
          with_reducible rfl
         rotate_left
         ·simp only [Act.put, sA, sZ, sS, i64_w, i32_w]
          rfl
         refine take_ (i := 3) (N := some 32) (v := ?_) (a' := ?_) #[true, true, true, true, false, false, false] rfl rfl (by kernel_rfl) (fun _ _ _ h => h) (Or.inl ⟨by rfl, ?_⟩) hHeld ?_ ?_
         rotate_left
         ·rintro w' ⟨s0, s1, s2, s3⟩
          go_simp
          with_reducible rfl
         rotate_left
         ·simp only [Act.put, sA, sZ, sS, i64_w, i32_w]
          rfl
         refine take_ (i := 4) (N := some 33) (v := ?_) (a' := ?_) #[true, true, true, true, true, false, false] rfl rfl (by kernel_rfl) (fun _ _ _ h => h) (Or.inl ⟨by rfl, ?_⟩) hHeld ?_ ?_
         rotate_left
         ·rintro w' ⟨s0, s1, s2, s3⟩
          go_simp
          with_reducible rfl
         rotate_left
         ·simp only [Act.put, sA, sZ, sS, i64_w, i32_w]
          rfl
         refine one_ (i := 5) (N := some 34) #[true, true, true, true, true, true, false] rfl rfl (by kernel_rfl) (by decide) (fun K hK => ?_)
         refine goes_ Try.func98 (by kernel_rfl) rfl #[.agg #[.int .i64 ((rd_T53 l1 x9_2).f0), .slice A501_1 ((rd_T53 l1 x9_2).f1).length c501_1], .agg #[.int .i64 a2_0, .slice A2_1 l2_1.length c2_1]] (by rfl) rfl rfl (by (try simp only [List.map_toArray, List.map_cons, List.map_nil]); first | done | rfl | (simp only [List.length_drop, List.length_take]; rfl)) ?_
         with_reducible refine (spec_l5Same.calls k2 ((rd_T53 l1 x9_2).f0) _ _ ((rd_T53 l1 x9_2).f1) a2_0 _ _ l2_1 true _ ?side1 ?side2 ?side3 ?side4 A25.out).mono ?_
         (case side1 => exact uC HR501_1 HB)
         (case side2 => exact HC501_1.out)
         (case side3 => exact uC HR2_1 HB)
         (case side4 => exact HC2_1.out)
         rintro e w28 ⟨rfl, hb⟩
         refine ⟨_, rfl, ?_⟩
         have n0_ := Aside0.mk (Kd.S_below (by (with_reducible repeat (first | apply Kd.S_alloc | apply Kd.S_drewN | apply Kd.S_drew)); exact HO_8.out) hb)
         have n1_ := Aside0.mk (blk_below (g := gb491) (o := .cells #[.slice A0_0 l0_0.length c0_0] 50 (0, 0)) (uk BK491) hb)
         have n2_ := Aside0.mk (blk_below (g := gb492) (o := .cells #[.int .i64 a2_0, .slice A2_1 l2_1.length c2_1] 53 (0, 0)) (uk BK492) hb)
         have n3_ := Aside0.mk (below_step (uB HB) hb)
         clear HO_8
         clear BK491
         clear BK492
         clear HB
         have HO_8 := n0_
         have BK491 := n1_
         have BK492 := n2_
         have HB := n3_
         clear n0_ n1_ n2_ n3_
         (try clear hb)
         (try clear hb2)
         (try clear hk)
         (try clear hi)
         refine hK.out _ _ ⟨kc BK492 rfl, kc BK492 rfl, ((HB.out.cell (World.block_lt_of_cell? w _ hw501_0)).trans hw501_0), ((HB.out.cell (World.block_lt_of_cell? w _ hw501_1)).trans hw501_1)⟩ (fun hHeld => ?_)
         clear hK K
         refine norm_ (a' := ?_) ?_ ?_
         rotate_left
         ·show Act.put _ (some 34) _ = _
          simp only [Act.put, sA, sZ, sS, i64_w, i32_w]
          rfl
         refine pure_ (i := 6) (N := some 35) (v := ?_) (a' := ?_) #[true, true, true, true, true, true, true] rfl rfl (by kernel_rfl) (fun _ _ _ h => h) (Or.inl ⟨by rfl, ?_⟩) ?_ ?_
         rotate_left
         ·intro w'
          go_simp
          with_reducible rfl
         rotate_left
         ·simp only [Act.put, sA, sZ, sS, i64_w, i32_w]
          rfl
         refine done_ (by kernel_rfl) ?_
         try go_wp2
         go_roundg k2
         case measure => have := HJ3.out; have := HK2.out; omega
         case rel => exact ⟨(x8_2), (wrap64 (x9_2 + 1)), (by first | rfl | (simp; done) | (simp [*]; done)), H', ⟨by have := HJ3.out; have := HK2.out; omega⟩, ⟨by (with_reducible repeat (first | apply Kd.S_alloc | apply Kd.S_drewN | apply Kd.S_drew)); exact HO_8.out⟩, ⟨uk BK491⟩, ⟨uk BK492⟩, ⟨uB HB⟩⟩
        ·replace c26 := Bool.eq_false_iff.mpr c26
         subst c26
         have H1 : ((spec_l5Copy.f ((rd_T53 l1 x9_2).f0) ((rd_T53 l1 x9_2).f1)).bind fun bt504 => (if x8_2.length < 4398046511104 then (spec_RemoveFact.l0 k2 l1 (x8_2 ++ [(⟨bt504.1, bt504.2⟩ : S53)]) (wrap64 (x9_2 + 1)) a2_0 l2_1) else (none))) = some (r1, r2) := by rw [if_neg (show ¬ (false = true) by decide)] at H; exact H
         clear H
         have H := H1
         clear H1
         replace H := Option.bind_eq_some_iff.mp H
         obtain ⟨⟨t504, t505⟩, A290, H⟩ := H
         replace H : (if x8_2.length < 4398046511104 then (spec_RemoveFact.l0 k2 l1 (x8_2 ++ [(⟨t504, t505⟩ : S53)]) (wrap64 (x9_2 + 1)) a2_0 l2_1) else (none)) = some (r1, r2) := H
         have A29 := Aside0.mk A290
         clear A290
         by_cases c30 : x8_2.length < 4398046511104
         ·rw [if_pos c30] at H
          have LMc30 := Aside0.mk c30
          clear c30
          obtain ⟨y508, hy508⟩ : ∃ y_ : List (S53), y_ = (x8_2 ++ [(⟨t504, t505⟩ : S53)]) := ⟨_, rfl⟩
          replace H : (spec_RemoveFact.l0 k2 l1 y508 (wrap64 (x9_2 + 1)) a2_0 l2_1) = some (r1, r2) := by first | (rw [hy508]; with_reducible exact H) | (have H2_ := (Option.bind_some _ _).symm.trans H; rw [hy508]; with_reducible exact H2_) | (have H2_ := (Option.bind_some _ _).symm.trans H; with_reducible exact H2_) | with_reducible exact H | (rw [hy508]; exact H) | exact H
          have Ny508 := Aside0.mk hy508
          clear hy508
          have H' := Aside0.mk H
          clear H
          try go_wp2
          have n0_ := Aside0.mk (Kd.S_drew HO_8.out)
          have n1_ := Aside0.mk (blk_drew BK491.out)
          have n2_ := Aside0.mk (blk_drew BK492.out)
          have n3_ := Aside0.mk (below_drew1 HB.out)
          clear HO_8
          clear BK491
          clear BK492
          clear HB
          have HO_8 := n0_
          have BK491 := n1_
          have BK492 := n2_
          have HB := n3_
          clear n0_ n1_ n2_ n3_
          have p501 : 0 ≤ (x9_2 : Int) := of_decide_eq_true (by first | (with_reducible assumption) | assumption)
          have q501 : x9_2 < (l1.length : Int) := of_decide_eq_true (by first | (with_reducible assumption) | assumption)
          obtain ⟨ad501, A501_1, c501_1, e501, hx501_0, hx501_1, hl501_1, hi501_1⟩ := at_T53 HR1.out x9_2 p501 q501
          have hw501_1 := hx501_1
          have hw501_0 := hx501_0
          cases e501
          replace hx501_0 := (HB.out.cell (World.block_lt_of_cell? w _ hx501_0)).trans hx501_0
          replace hx501_1 := (HB.out.cell (World.block_lt_of_cell? w _ hx501_1)).trans hx501_1
          have HR501_1 := Aside0.mk hi501_1
          have HC501_1 := Aside0.mk hl501_1
          clear hi501_1 hl501_1
          replace p501 := eq_true p501
          replace q501 := eq_true q501
          refine start_ (n := 7) (S := fun w' => w'.cell? ⟨gb492, 0, none⟩ = some (.int .i64 a2_0) ∧ w'.cell? ⟨gb492, 1, none⟩ = some (.slice A2_1 l2_1.length c2_1) ∧ w'.cell? (ad501.add ((x9_2).toNat * 2)) = some (.int .i64 ((rd_T53 l1 x9_2).f0)) ∧ w'.cell? ⟨(ad501.add ((x9_2).toNat * 2)).block, (ad501.add ((x9_2).toNat * 2)).off + 1, none⟩ = some (.slice A501_1 ((rd_T53 l1 x9_2).f1).length c501_1)) (ds := []) #[false, false, false, false, false, false, false] (by kernel_rfl) rfl rfl ⟨kc BK492 rfl, kc BK492 rfl, ((HB.out.cell (World.block_lt_of_cell? w _ hw501_0)).trans hw501_0), ((HB.out.cell (World.block_lt_of_cell? w _ hw501_1)).trans hw501_1)⟩ (fun hHeld => ?_)
          generalize wr.drew = w31 at HO_8 BK491 BK492 HB HR501_1 hx501_0 hx501_1 hHeld ⊢
          refine pure_ (i := 0) (N := some 29) (v := ?_) (a' := ?_) #[true, false, false, false, false, false, false] rfl rfl (by kernel_rfl) (fun _ _ _ h => h) (Or.inl ⟨by rfl, ?_⟩) ?_ ?_
          rotate_left
          ·intro w'
           go_simp
           with_reducible rfl
          rotate_left
          ·simp only [Act.put, sA, sZ, sS, i64_w, i32_w]
           rfl
          refine pure_ (i := 1) (N := some 30) (v := ?_) (a' := ?_) #[true, true, false, false, false, false, false] rfl rfl (by kernel_rfl) (fun _ _ _ h => h) (Or.inl ⟨by rfl, ?_⟩) ?_ ?_
          rotate_left
          ·intro w'
           go_simp
           with_reducible rfl
          rotate_left
          ·simp only [Act.put, sA, sZ, sS, i64_w, i32_w]
           rfl
          refine pure_ (i := 2) (N := some 31) (v := ?_) (a' := ?_) #[true, true, true, false, false, false, false] rfl rfl (by kernel_rfl) (fun _ _ _ h => h) (Or.inl ⟨by rfl, ?_⟩) ?_ ?_
          rotate_left
          ·intro w'
           go_simp
           with_reducible rfl
          rotate_left
          ·simp only [Act.put, sA, sZ, sS, i64_w, i32_w]
           rfl
          refine take_ (i := 3) (N := some 32) (v := ?_) (a' := ?_) #[true, true, true, true, false, false, false] rfl rfl (by kernel_rfl) (fun _ _ _ h => h) (Or.inl ⟨by rfl, ?_⟩) hHeld ?_ ?_
          rotate_left
          ·rintro w' ⟨s0, s1, s2, s3⟩
           go_simp
           with_reducible rfl
          rotate_left
          ·simp only [Act.put, sA, sZ, sS, i64_w, i32_w]
           rfl
          refine take_ (i := 4) (N := some 33) (v := ?_) (a' := ?_) #[true, true, true, true, true, false, false] rfl rfl (by kernel_rfl) (fun _ _ _ h => h) (Or.inl ⟨by rfl, ?_⟩) hHeld ?_ ?_
          rotate_left
          ·rintro w' ⟨s0, s1, s2, s3⟩
           go_simp
           with_reducible rfl
          rotate_left
          ·simp only [Act.put, sA, sZ, sS, i64_w, i32_w]
           rfl
          refine one_ (i := 5) (N := some 34) #[true, true, true, true, true, true, false] rfl rfl (by kernel_rfl) (by decide) (fun K hK => ?_)
          refine goes_ Try.func98 (by kernel_rfl) rfl #[.agg #[.int .i64 ((rd_T53 l1 x9_2).f0), .slice A501_1 ((rd_T53 l1 x9_2).f1).length c501_1], .agg #[.int .i64 a2_0, .slice A2_1 l2_1.length c2_1]] (by rfl) rfl rfl (by (try simp only [List.map_toArray, List.map_cons, List.map_nil]); first | done | rfl | (simp only [List.length_drop, List.length_take]; rfl)) ?_
          with_reducible refine (spec_l5Same.calls k2 ((rd_T53 l1 x9_2).f0) _ _ ((rd_T53 l1 x9_2).f1) a2_0 _ _ l2_1 false _ ?side1 ?side2 ?side3 ?side4 A25.out).mono ?_
          (case side1 => exact uC HR501_1 HB)
          (case side2 => exact HC501_1.out)
          (case side3 => exact uC HR2_1 HB)
          (case side4 => exact HC2_1.out)
          rintro e w32 ⟨rfl, hb⟩
          refine ⟨_, rfl, ?_⟩
          have n0_ := Aside0.mk (Kd.S_below (by (with_reducible repeat (first | apply Kd.S_alloc | apply Kd.S_drewN | apply Kd.S_drew)); exact HO_8.out) hb)
          have n1_ := Aside0.mk (blk_below (g := gb491) (o := .cells #[.slice A0_0 l0_0.length c0_0] 50 (0, 0)) (uk BK491) hb)
          have n2_ := Aside0.mk (blk_below (g := gb492) (o := .cells #[.int .i64 a2_0, .slice A2_1 l2_1.length c2_1] 53 (0, 0)) (uk BK492) hb)
          have n3_ := Aside0.mk (below_step (uB HB) hb)
          clear HO_8
          clear BK491
          clear BK492
          clear HB
          have HO_8 := n0_
          have BK491 := n1_
          have BK492 := n2_
          have HB := n3_
          clear n0_ n1_ n2_ n3_
          (try clear hb)
          (try clear hb2)
          (try clear hk)
          (try clear hi)
          refine hK.out _ _ ⟨kc BK492 rfl, kc BK492 rfl, ((HB.out.cell (World.block_lt_of_cell? w _ hw501_0)).trans hw501_0), ((HB.out.cell (World.block_lt_of_cell? w _ hw501_1)).trans hw501_1)⟩ (fun hHeld => ?_)
          clear hK K
          refine norm_ (a' := ?_) ?_ ?_
          rotate_left
          ·show Act.put _ (some 34) _ = _
           simp only [Act.put, sA, sZ, sS, i64_w, i32_w]
           rfl
          refine pure_ (i := 6) (N := some 35) (v := ?_) (a' := ?_) #[true, true, true, true, true, true, true] rfl rfl (by kernel_rfl) (fun _ _ _ h => h) (Or.inl ⟨by rfl, ?_⟩) ?_ ?_
          rotate_left
          ·intro w'
           go_simp
           with_reducible rfl
          rotate_left
          ·simp only [Act.put, sA, sZ, sS, i64_w, i32_w]
           rfl
          refine done_ (by kernel_rfl) ?_
          have p503 : 0 ≤ (x9_2 : Int) := of_decide_eq_true (by first | (with_reducible assumption) | assumption)
          have q503 : x9_2 < (l1.length : Int) := of_decide_eq_true (by first | (with_reducible assumption) | assumption)
          replace p503 := eq_true p503
          replace q503 := eq_true q503
          try go_wp2_with (first | ((with_reducible refine gate_callee (f := 92) rfl ?_); refine goesL_ (some 41) rfl rfl Try.func92 (by kernel_rfl) rfl #[.agg #[.int .i64 ((rd_T53 l1 x9_2).f0), .slice A501_1 ((rd_T53 l1 x9_2).f1).length c501_1]] rfl (by (try simp only [List.map_toArray, List.map_cons, List.map_nil]); first | done | rfl | (simp only [List.length_drop, List.length_take]; rfl)) ?_; (with_reducible refine (spec_l5Copy.calls ((rd_T53 l1 x9_2).f0) _ _ ((rd_T53 l1 x9_2).f1) t504 t505 _ ?side1 ?side2 A29.out).mono ?_); (case side1 => exact uC HR501_1 HB); (case side2 => exact HC501_1.out); rintro e w33 ⟨v506, rfl, ho0, hb⟩; refine ⟨_, rfl, ?_⟩; replace HO_8 := Aside0.mk (Kd.S_elder' (by (with_reducible repeat (first | apply Kd.S_alloc | apply Kd.S_drewN | apply Kd.S_drew)); exact HO_8.out) (Kd.R_base ho0) hb); have HO507 := Aside0.mk (Kd.R_lower ho0 (below_size (uB HB))); replace BK491 := uK BK491 hb; replace BK492 := uK BK492 hb; replace HB := uS HB hb; (try clear hb); (try clear hb2); (try clear hk); (try clear hi); (try clear ho0); obtain ⟨Ao35, co35, eo35⟩ := Kd.R_slice HO507.out; subst eo35) | ((with_reducible refine gate_builtin (b := .append) (xs := #[.tmp 36, .tmp 42]) rfl ?_); at_builtin; refine Kd.S_append k53 (w0 := w) w.heap.size rfl (.tmp 36) (.tmp 42) 45 53 (.agg #[(.int .i64 0), (.slice none 0 0)]) 32 rfl Try.underlying45 info53 rfl (by decide) (by omega) u8 x8_2 (⟨t504, t505⟩ : S53) [.int .i64 t504, .slice Ao35 t505.length co35] (fun k_ => k_ ≠ gb492) (fun k_ => some k_ = (.slice Ao35 t505.length co35 : Value).ownBlock) rfl rfl ?aP (fun k_ hk_ => ((Kd.R_mono (ok' := fun k_ => ((fun k_ => k_ ≠ gb492)) k_ ∧ some k_ ≠ (u8 : Value).ownBlock) (Kd.R_types (Kd.R_apart' (HO507.out) (Kd.S_typed HO_8.out) (by decide)) BK492.out (by decide)) (fun k_ hk => ⟨hk.2, hk.1.2⟩))).1 k_ hk_.symm) ?aF ?aO ?aB ?aS ?aL ?_; (case aP => exact k53_mkM _ _ _ (⟨t504, t505⟩ : S53) (Kd.R_mono (Kd.R_tight rfl (Kd.R_mono (ok' := fun k_ => ((fun k_ => k_ ≠ gb492)) k_ ∧ some k_ ≠ (u8 : Value).ownBlock) (Kd.R_types (Kd.R_apart' (HO507.out) (Kd.S_typed HO_8.out) (by decide)) BK492.out (by decide)) (fun k_ hk => ⟨hk.2, hk.1.2⟩))) (fun _ h_ => h_))); (case aB => exact (uB HB)); (case aF => exact (fun k_ hk => Kd.freshB (g := gb492) (o := .cells #[.int .i64 a2_0, .slice A2_1 l2_1.length c2_1] 53 (0, 0)) (uk BK492) k_ hk)); (case aO => exact (by (with_reducible repeat (first | apply Kd.S_alloc | apply Kd.S_drewN | apply Kd.S_drew)); exact Kd.S_mono HO_8.out (fun k_ hk => ⟨hk.1, fun e_ => hk.2 e_⟩))); (case aS => exact (below_size (uB HB))); (case aL => have := LMc30.out; omega); intro v509 w34 ho hb hg hat; rw [← Ny508.out] at ho; replace BK491 := Aside0.mk (blk_grown (g := gb491) (o := .cells #[.slice A0_0 l0_0.length c0_0] 50 (0, 0)) (uk BK491) hg (Kd.S_ne HO_8.out BK491.out (by decide))); replace BK492 := Aside0.mk (blk_grown (g := gb492) (o := .cells #[.int .i64 a2_0, .slice A2_1 l2_1.length c2_1] 53 (0, 0)) (uk BK492) hg (Kd.S_away HO_8.out (fun _ hk => hk.1))); replace HB := Aside0.mk hb; have HO510 := Aside0.mk ho; clear HO_8 HO507; clear ho hb hg hat))
          go_roundg k2
          case measure => have := HJ3.out; have := HK2.out; omega
          case rel => exact ⟨(y508), (wrap64 (x9_2 + 1)), (by first | rfl | (simp; done) | (simp [*]; done)), H', ⟨by have := HJ3.out; have := HK2.out; omega⟩, ⟨by (with_reducible repeat (first | apply Kd.S_alloc | apply Kd.S_drewN | apply Kd.S_drew)); exact HO510.out⟩, ⟨uk BK491⟩, ⟨uk BK492⟩, ⟨uB HB⟩⟩
         ·rw [if_neg c30] at H
          exact absurd H (by simp)
       ·rw [if_neg c24] at H
        exact absurd H (by simp)
      ·rw [if_neg c23] at H
       have c23b0 : decide (x9_2 < (l1.length : Int)) = false := decide_eq_false c23
       clear c23
       simp only [Option.some.injEq, Prod.mk.injEq] at H
       obtain ⟨rfl, rfl⟩ := H
       go_wp2
       go_ret2
       exact ⟨_, by first | rfl | (simp [errW_none, errW_some] <;> rfl) | (simp [*, errW_none, errW_some] <;> rfl), by (with_reducible repeat (first | apply Kd.S_alloc | apply Kd.S_drewN | apply Kd.S_drew)); exact Kd.S_mono HO_8.out (fun _ hk => trivial), uB HB⟩

end Go.Proofs.Ytjglknoebaojgaa.P

