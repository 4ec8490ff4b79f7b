/- Several texts in one: what the claim needs of them. Conditions: each declaration's own. -/
import Derived.Test.YtjglknoebaojgaaZSubM10
import Derived.Test.YtjglknoebaojgaaZSubGx2
import Derived.Test.YtjglknoebaojgaaZSubM12
import Derived.Test.YtjglknoebaojgaaZSubM13
import Derived.Test.YtjglknoebaojgaaZSubPSubW
import Derived.Test.YtjglknoebaojgaaZSubWGuard
import Derived.Test.YtjglknoebaojgaaZSubWWords
namespace Go.Proofs.Ytjglknoebaojgaa.G
open Go.RowKit Go.Proofs.YtjglknoebaojgaaW.PrintWords Go.Proofs.YtjglknoebaojgaaW.PrintLast Go.Proofs.YtjglknoebaojgaaW.PrintMore Go.Proofs.Ytjglknoebaojgaa.Lay Go.Proofs.Ytjglknoebaojgaa.LawM Go.Proofs.Ytjglknoebaojgaa.Deep
attribute [local go_sem] max2_int min2_int max_two min_two max_three min_three max_four min_four
set_option linter.unusedVariables false
set_option linter.unusedSimpArgs false
def cnIntS (l : List Int) : Nat := sumOf (fun _ => 1) l
theorem mkCountedE : Mk k91 (ePair (eRow (Row 1 eInt)) eInt) (fun x : S91 => cnIntS x.f0 + 1) := mk_iso (fun x : S91 => (x.f0, x.f1)) (mk_pair (mk_slice mk_int _) mk_int rfl)
def cnCountedS (l : List S91) : Nat := sumOf (fun x : S91 => cnIntS x.f0 + 1) l
def laws_FnExactSubtractCounts.f (k : Nat) (l0 : List (S89)) (l1 : List (S89)) : Option (Bool) := ((laws_szCountedS.f k l0 1048576).bind fun t1 => (if t1 < 0 then (some true) else ((laws_szCountedS.f k l1 t1).bind fun t2 => (if t2 < 0 then (some true) else ((laws_toCountedS.f k l0).bind fun t3 => ((laws_toCountedS.f k l1).bind fun t4 => ((spec_SubtractCounts.f k t3 t4).bind fun t5 => ((impl_SubtractCounts.f k t3 t4).bind fun t6 => ((laws_eqCountedS.f k t6.1 t5.1).bind fun t7 => (if t7 = true then (if t6.2 = t5.2 then ((laws_eqCountedS.f k t3 t3).bind fun t8 => (if t8 = true then ((laws_eqCountedS.f k t4 t4).bind fun t9 => (if t9 = true then (if (1 + (cnCountedS t3 : Nat) + (cnCountedS t4 : Nat) : Int) ≤ 4611686018427387000 then (if (1 + (sumOf cnC t6.1 : Nat) : Int) ≤ 4611686018427387000 then (some true) else none) else none) else (some false))) else (some false))) else (some false)) else (some false)))))))))))
set_option maxHeartbeats 16000000 in
set_option maxRecDepth 100000 in
theorem laws_FnExactSubtractCounts.calls (k : Nat) (A0 : Option Addr) (c0 : Nat) (l0 : List (S89)) (A1 : Option Addr) (c1 : Nat) (l1 : List (S89)) (w : World) (hr0 : Kd.C k89 w A0 l0.length l0) (hc0 : l0.length ≤ c0) (hr1 : Kd.C k89 w A1 l1.length l1) (hc1 : l1.length ≤ c1) (h : laws_FnExactSubtractCounts.f k l0 l1 = some true) :
    Calls Try.prog 3 #[.slice A0 l0.length c0, .slice A1 l1.length c1] w fun e w' => e = .returned (.bool true) ∧ Below w.heap.size w w' := by
  have hu91 := Try.underlying91
  have hu89 := Try.underlying89
  have HR0 := Aside0.mk hr0
  have HC0 := Aside0.mk hc0
  clear hr0 hc0
  have HR1 := Aside0.mk hr1
  have HC1 := Aside0.mk hc1
  clear hr1 hc1
  have HB := Aside0.mk (Below.refl w.heap.size w)
  have H := h
  clear h
  unfold laws_FnExactSubtractCounts.f at H
  replace H := Option.bind_eq_some_iff.mp H
  obtain ⟨t1, As00, H⟩ := H
  have As0 := Aside0.mk As00
  clear As00
  by_cases cs0 : t1 < 0
  · rw [if_pos cs0] at H
    have cs0b := decide_eq_true cs0
    clear cs0 H
    go_enter Try.func3, Try.ntmps3
    go_wp2_with (first | ((with_reducible refine gate_callee (f := 7) rfl ?_); (try (refine gate_guard (by rfl) ?_; dsimp only)); refine goesL_ (some 19) rfl rfl Try.func7 (by kernel_rfl) rfl #[.slice A0 l0.length c0, .int .i64 1048576] rfl (by (try simp only [List.map_toArray, List.map_cons, List.map_nil]); first | done | rfl) ?_; (with_reducible refine (laws_szCountedS.calls k _ _ l0 1048576 _ _ ?side1 ?side2 As0.out).mono ?_); (case side1 => repeat (first | exact (Kd.C_below HR0.out HB.out) | (with_reducible refine Kd.C_alloc ?_ _) | (with_reducible refine Kd.C_drewN ?_ _) | (with_reducible refine Kd.C_drew ?_))); (case side2 => exact HC0.out); rintro e w101 ⟨rfl, hb⟩; refine ⟨_, rfl, ?_⟩; have SZ1 := Aside0.mk (show w.heap.size ≤ w101.heap.size from hb.size); have n_HB := Aside0.mk (below_then (by repeat (first | (with_reducible first | exact HB.out | apply below_alloc | apply pw_below_drewN | apply below_drew1) | exact HB.out)) (below_size (by repeat (first | (with_reducible first | exact HB.out | apply below_alloc | apply pw_below_drewN | apply below_drew1) | exact HB.out))) hb); clear HB; have HB := n_HB; clear n_HB; clear hb))
    go_ret
    exact ⟨rfl, (by repeat (first | (with_reducible first | exact HB.out | apply below_alloc | apply pw_below_drewN | apply below_drew1) | exact HB.out))⟩
  rw [if_neg cs0] at H
  have cs0b := decide_eq_false cs0
  clear cs0
  replace H := Option.bind_eq_some_iff.mp H
  obtain ⟨t2, As10, H⟩ := H
  have As1 := Aside0.mk As10
  clear As10
  by_cases cs1 : t2 < 0
  · rw [if_pos cs1] at H
    have cs1b := decide_eq_true cs1
    clear cs1 H
    go_enter Try.func3, Try.ntmps3
    go_wp2_with (first | ((with_reducible refine gate_callee (f := 7) rfl ?_); (try (refine gate_guard (by rfl) ?_; dsimp only)); refine goesL_ (some 19) rfl rfl Try.func7 (by kernel_rfl) rfl #[.slice A0 l0.length c0, .int .i64 1048576] rfl (by (try simp only [List.map_toArray, List.map_cons, List.map_nil]); first | done | rfl) ?_; (with_reducible refine (laws_szCountedS.calls k _ _ l0 1048576 _ _ ?side1 ?side2 As0.out).mono ?_); (case side1 => repeat (first | exact (Kd.C_below HR0.out HB.out) | (with_reducible refine Kd.C_alloc ?_ _) | (with_reducible refine Kd.C_drewN ?_ _) | (with_reducible refine Kd.C_drew ?_))); (case side2 => exact HC0.out); rintro e w101 ⟨rfl, hb⟩; refine ⟨_, rfl, ?_⟩; have SZ1 := Aside0.mk (show w.heap.size ≤ w101.heap.size from hb.size); have n_HB := Aside0.mk (below_then (by repeat (first | (with_reducible first | exact HB.out | apply below_alloc | apply pw_below_drewN | apply below_drew1) | exact HB.out)) (below_size (by repeat (first | (with_reducible first | exact HB.out | apply below_alloc | apply pw_below_drewN | apply below_drew1) | exact HB.out))) hb); clear HB; have HB := n_HB; clear n_HB; clear hb) | ((with_reducible refine gate_callee (f := 7) rfl ?_); (try (refine gate_guard (by rfl) ?_; dsimp only)); refine goesL_ (some 24) rfl rfl Try.func7 (by kernel_rfl) rfl #[.slice A1 l1.length c1, .int .i64 t1] rfl (by (try simp only [List.map_toArray, List.map_cons, List.map_nil]); first | done | rfl) ?_; (with_reducible refine (laws_szCountedS.calls k _ _ l1 t1 _ _ ?side1 ?side2 As1.out).mono ?_); (case side1 => repeat (first | exact (Kd.C_below HR1.out HB.out) | (with_reducible refine Kd.C_alloc ?_ _) | (with_reducible refine Kd.C_drewN ?_ _) | (with_reducible refine Kd.C_drew ?_))); (case side2 => exact HC1.out); rintro e w102 ⟨rfl, hb⟩; refine ⟨_, rfl, ?_⟩; have SZ2 := Aside0.mk (show w101.heap.size ≤ w102.heap.size from hb.size); have n_HB := Aside0.mk (below_then (by repeat (first | (with_reducible first | exact HB.out | apply below_alloc | apply pw_below_drewN | apply below_drew1) | exact HB.out)) (below_size (by repeat (first | (with_reducible first | exact HB.out | apply below_alloc | apply pw_below_drewN | apply below_drew1) | exact HB.out))) hb); clear HB; have HB := n_HB; clear n_HB; clear hb))
    go_ret
    exact ⟨rfl, (by repeat (first | (with_reducible first | exact HB.out | apply below_alloc | apply pw_below_drewN | apply below_drew1) | exact HB.out))⟩
  rw [if_neg cs1] at H
  have cs1b := decide_eq_false cs1
  clear cs1
  replace H := Option.bind_eq_some_iff.mp H
  obtain ⟨t3, AtaA0, H⟩ := H
  have AtaA := Aside0.mk AtaA0
  clear AtaA0
  replace H := Option.bind_eq_some_iff.mp H
  obtain ⟨t4, AtaB0, H⟩ := H
  have AtaB := Aside0.mk AtaB0
  clear AtaB0
  replace H := Option.bind_eq_some_iff.mp H
  obtain ⟨t5, Aw0, H⟩ := H
  have Aw := Aside0.mk Aw0
  clear Aw0
  replace H := Option.bind_eq_some_iff.mp H
  obtain ⟨t6, Ag0, H⟩ := H
  have Ag := Aside0.mk Ag0
  clear Ag0
  replace H := Option.bind_eq_some_iff.mp H
  obtain ⟨t7, Ae0, H⟩ := H
  have Ae := Aside0.mk Ae0
  clear Ae0
  by_cases ce_ : t7 = true
  rotate_left
  · rw [if_neg ce_] at H; cases H
  rw [if_pos ce_] at H
  subst ce_
  by_cases cx0 : t6.2 = t5.2
  rotate_left
  · rw [if_neg cx0] at H; cases H
  rw [if_pos cx0] at H
  have cx0b : (t6.2 != t5.2) = false := bne_eq_false_iff_eq.2 cx0
  have cx0d : (!(t6.2 == t5.2)) = false := cx0b
  have cx0c := Aside0.mk cx0
  clear cx0
  replace H := Option.bind_eq_some_iff.mp H
  obtain ⟨t8, Aq00, H⟩ := H
  have Aq0 := Aside0.mk Aq00
  clear Aq00
  by_cases ce_ : t8 = true
  rotate_left
  · rw [if_neg ce_] at H; cases H
  rw [if_pos ce_] at H
  subst ce_
  replace H := Option.bind_eq_some_iff.mp H
  obtain ⟨t9, Aq10, H⟩ := H
  have Aq1 := Aside0.mk Aq10
  clear Aq10
  by_cases ce_ : t9 = true
  rotate_left
  · rw [if_neg ce_] at H; cases H
  rw [if_pos ce_] at H
  subst ce_
  by_cases cb : (1 + (cnCountedS t3 : Nat) + (cnCountedS t4 : Nat) : Int) ≤ 4611686018427387000
  rotate_left
  · rw [if_neg cb] at H; cases H
  rw [if_pos cb] at H
  have CB := Aside0.mk cb
  clear cb
  by_cases cb2 : (1 + (sumOf cnC t6.1 : Nat) : Int) ≤ 4611686018427387000
  rotate_left
  · rw [if_neg cb2] at H; cases H
  rw [if_pos cb2] at H
  have CB2 := Aside0.mk cb2
  clear cb2
  have ckb : ∀ n : Nat, decide ((1 : Int) + ((n : Nat) : Int) < 0) = false := fun n => decide_eq_false (by omega)
  go_enter Try.func3, Try.ntmps3
  go_wp2_with (first | ((with_reducible refine gate_callee (f := 7) rfl ?_); (try (refine gate_guard (by rfl) ?_; dsimp only)); refine goesL_ (some 19) rfl rfl Try.func7 (by kernel_rfl) rfl #[.slice A0 l0.length c0, .int .i64 1048576] rfl (by (try simp only [List.map_toArray, List.map_cons, List.map_nil]); first | done | rfl) ?_; (with_reducible refine (laws_szCountedS.calls k _ _ l0 1048576 _ _ ?side1 ?side2 As0.out).mono ?_); (case side1 => repeat (first | exact (Kd.C_below HR0.out HB.out) | (with_reducible refine Kd.C_alloc ?_ _) | (with_reducible refine Kd.C_drewN ?_ _) | (with_reducible refine Kd.C_drew ?_))); (case side2 => exact HC0.out); rintro e w101 ⟨rfl, hb⟩; refine ⟨_, rfl, ?_⟩; have SZ1 := Aside0.mk (show w.heap.size ≤ w101.heap.size from hb.size); have n_HB := Aside0.mk (below_then (by repeat (first | (with_reducible first | exact HB.out | apply below_alloc | apply pw_below_drewN | apply below_drew1) | exact HB.out)) (below_size (by repeat (first | (with_reducible first | exact HB.out | apply below_alloc | apply pw_below_drewN | apply below_drew1) | exact HB.out))) hb); clear HB; have HB := n_HB; clear n_HB; clear hb) | ((with_reducible refine gate_callee (f := 7) rfl ?_); (try (refine gate_guard (by rfl) ?_; dsimp only)); refine goesL_ (some 24) rfl rfl Try.func7 (by kernel_rfl) rfl #[.slice A1 l1.length c1, .int .i64 t1] rfl (by (try simp only [List.map_toArray, List.map_cons, List.map_nil]); first | done | rfl) ?_; (with_reducible refine (laws_szCountedS.calls k _ _ l1 t1 _ _ ?side1 ?side2 As1.out).mono ?_); (case side1 => repeat (first | exact (Kd.C_below HR1.out HB.out) | (with_reducible refine Kd.C_alloc ?_ _) | (with_reducible refine Kd.C_drewN ?_ _) | (with_reducible refine Kd.C_drew ?_))); (case side2 => exact HC1.out); rintro e w102 ⟨rfl, hb⟩; refine ⟨_, rfl, ?_⟩; have SZ2 := Aside0.mk (show w101.heap.size ≤ w102.heap.size from hb.size); have n_HB := Aside0.mk (below_then (by repeat (first | (with_reducible first | exact HB.out | apply below_alloc | apply pw_below_drewN | apply below_drew1) | exact HB.out)) (below_size (by repeat (first | (with_reducible first | exact HB.out | apply below_alloc | apply pw_below_drewN | apply below_drew1) | exact HB.out))) hb); clear HB; have HB := n_HB; clear n_HB; clear hb) | ((with_reducible refine gate_callee (f := 9) rfl ?_); (try (refine gate_guard (by rfl) ?_; dsimp only)); refine goesL_ (some 29) rfl rfl Try.func9 (by kernel_rfl) rfl #[.slice A0 l0.length c0] rfl (by (try simp only [List.map_toArray, List.map_cons, List.map_nil]); first | done | rfl) ?_; (with_reducible refine (laws_toCountedS.calls k _ _ l0 _ _ ?side1 ?side2 AtaA.out).mono ?_); (case side1 => repeat (first | exact (Kd.C_below HR0.out HB.out) | (with_reducible refine Kd.C_alloc ?_ _) | (with_reducible refine Kd.C_drewN ?_ _) | (with_reducible refine Kd.C_drew ?_))); (case side2 => exact HC0.out); rintro e w103 ⟨v3_0, rfl, hm0, hb⟩; refine ⟨_, rfl, ?_⟩; have hb0 := Aside0.mk hb; have SZ3 := Aside0.mk (show w102.heap.size ≤ w103.heap.size from hb.size); have n_HB := Aside0.mk (below_then (by repeat (first | (with_reducible first | exact HB.out | apply below_alloc | apply pw_below_drewN | apply below_drew1) | exact HB.out)) (below_size (by repeat (first | (with_reducible first | exact HB.out | apply below_alloc | apply pw_below_drewN | apply below_drew1) | exact HB.out))) hb); clear HB; have HB := n_HB; clear n_HB; have hm0_ := Kd.S_R hm0; clear hm0; have hm0 := hm0_; clear hm0_; obtain ⟨A3_0, c3_0, rfl, hl3_0, hx3_0, hf3_0⟩ := open_R hm0; have FF3_0 := Aside0.mk hf3_0; have CC3_0 := Aside0.mk hl3_0; clear hf3_0 hl3_0 hx3_0 hm0; clear hb hb0) | ((with_reducible refine gate_callee (f := 9) rfl ?_); (try (refine gate_guard (by rfl) ?_; dsimp only)); refine goesL_ (some 31) rfl rfl Try.func9 (by kernel_rfl) rfl #[.slice A1 l1.length c1] rfl (by (try simp only [List.map_toArray, List.map_cons, List.map_nil]); first | done | rfl) ?_; (with_reducible refine (laws_toCountedS.calls k _ _ l1 _ _ ?side1 ?side2 AtaB.out).mono ?_); (case side1 => repeat (first | exact (Kd.C_below HR1.out HB.out) | (with_reducible refine Kd.C_alloc ?_ _) | (with_reducible refine Kd.C_drewN ?_ _) | (with_reducible refine Kd.C_drew ?_))); (case side2 => exact HC1.out); rintro e w104 ⟨v4_0, rfl, hm0, hb⟩; refine ⟨_, rfl, ?_⟩; have hb0 := Aside0.mk hb; have SZ4 := Aside0.mk (show w103.heap.size ≤ w104.heap.size from hb.size); have n_FF3_0 := Aside0.mk (FI.below (by repeat (first | (with_reducible exact FF3_0.out) | (with_reducible refine Kd.F_alloc ?_ _) | (with_reducible refine Kd.F_drewN ?_ _) | (with_reducible refine Kd.F_drew ?_) | exact FF3_0.out)) hb); have n_HB := Aside0.mk (below_then (by repeat (first | (with_reducible first | exact HB.out | apply below_alloc | apply pw_below_drewN | apply below_drew1) | exact HB.out)) (below_size (by repeat (first | (with_reducible first | exact HB.out | apply below_alloc | apply pw_below_drewN | apply below_drew1) | exact HB.out))) hb); clear FF3_0 HB; have FF3_0 := n_FF3_0; have HB := n_HB; clear n_FF3_0 n_HB; have hm0_ := Kd.S_R hm0; clear hm0; have hm0 := hm0_; clear hm0_; obtain ⟨A4_0, c4_0, rfl, hl4_0, hx4_0, hf4_0⟩ := open_R hm0; have FF4_0 := Aside0.mk hf4_0; have CC4_0 := Aside0.mk hl4_0; clear hf4_0 hl4_0 hx4_0 hm0; clear hb hb0) | ((with_reducible refine gate_callee (f := 8) rfl ?_); (try (refine gate_guard (by rfl) ?_; dsimp only)); refine goesL_ (some 32) rfl rfl Try.func8 (by kernel_rfl) rfl #[.slice A3_0 t3.length c3_0, .slice A4_0 t4.length c4_0] rfl (by (try simp only [List.map_toArray, List.map_cons, List.map_nil]); first | done | rfl) ?_; (with_reducible refine (spec_SubtractCounts.calls k _ _ t3 _ _ t4 _ _ _ ?side1 ?side2 ?side3 ?side4 Aw.out).mono ?_); (case side1 => repeat (first | exact (FI.now FF3_0.out) | (with_reducible refine Kd.C_alloc ?_ _) | (with_reducible refine Kd.C_drewN ?_ _) | (with_reducible refine Kd.C_drew ?_))); (case side2 => exact CC3_0.out); (case side3 => repeat (first | exact (FI.now FF4_0.out) | (with_reducible refine Kd.C_alloc ?_ _) | (with_reducible refine Kd.C_drewN ?_ _) | (with_reducible refine Kd.C_drew ?_))); (case side4 => exact CC4_0.out); rintro e w105 ⟨v5_0, rfl, hm0, hb⟩; refine ⟨_, rfl, ?_⟩; have hb0 := Aside0.mk hb; have SZ5 := Aside0.mk (show w104.heap.size ≤ w105.heap.size from hb.size); have n_FF3_0 := Aside0.mk (FI.below (by repeat (first | (with_reducible exact FF3_0.out) | (with_reducible refine Kd.F_alloc ?_ _) | (with_reducible refine Kd.F_drewN ?_ _) | (with_reducible refine Kd.F_drew ?_) | exact FF3_0.out)) hb); have n_FF4_0 := Aside0.mk (FI.below (by repeat (first | (with_reducible exact FF4_0.out) | (with_reducible refine Kd.F_alloc ?_ _) | (with_reducible refine Kd.F_drewN ?_ _) | (with_reducible refine Kd.F_drew ?_) | exact FF4_0.out)) hb); have n_HB := Aside0.mk (below_then (by repeat (first | (with_reducible first | exact HB.out | apply below_alloc | apply pw_below_drewN | apply below_drew1) | exact HB.out)) (below_size (by repeat (first | (with_reducible first | exact HB.out | apply below_alloc | apply pw_below_drewN | apply below_drew1) | exact HB.out))) hb); clear FF3_0 FF4_0 HB; have FF3_0 := n_FF3_0; have FF4_0 := n_FF4_0; have HB := n_HB; clear n_FF3_0 n_FF4_0 n_HB; have hm0_ := Kd.S_R hm0; clear hm0; have hm0 := hm0_; clear hm0_; obtain ⟨A5_0, c5_0, rfl, hl5_0, hx5_0, hf5_0⟩ := open_R hm0; have FF5_0 := Aside0.mk hf5_0; have CC5_0 := Aside0.mk hl5_0; clear hf5_0 hl5_0 hx5_0 hm0; clear hb hb0) | ((with_reducible refine gate_callee (f := 9) rfl ?_); (try (refine gate_guard (by rfl) ?_; dsimp only)); refine goesL_ (some 36) rfl rfl Try.func9 (by kernel_rfl) rfl #[.slice A0 l0.length c0] rfl (by (try simp only [List.map_toArray, List.map_cons, List.map_nil]); first | done | rfl) ?_; (with_reducible refine (laws_toCountedS.calls k _ _ l0 _ _ ?side1 ?side2 AtaA.out).mono ?_); (case side1 => repeat (first | exact (Kd.C_below HR0.out HB.out) | (with_reducible refine Kd.C_alloc ?_ _) | (with_reducible refine Kd.C_drewN ?_ _) | (with_reducible refine Kd.C_drew ?_))); (case side2 => exact HC0.out); rintro e w106 ⟨v6_0, rfl, hm0, hb⟩; refine ⟨_, rfl, ?_⟩; have hb0 := Aside0.mk hb; have SZ6 := Aside0.mk (show w105.heap.size ≤ w106.heap.size from hb.size); have n_FF3_0 := Aside0.mk (FI.below (by repeat (first | (with_reducible exact FF3_0.out) | (with_reducible refine Kd.F_alloc ?_ _) | (with_reducible refine Kd.F_drewN ?_ _) | (with_reducible refine Kd.F_drew ?_) | exact FF3_0.out)) hb); have n_FF4_0 := Aside0.mk (FI.below (by repeat (first | (with_reducible exact FF4_0.out) | (with_reducible refine Kd.F_alloc ?_ _) | (with_reducible refine Kd.F_drewN ?_ _) | (with_reducible refine Kd.F_drew ?_) | exact FF4_0.out)) hb); have n_FF5_0 := Aside0.mk (FI.below (by repeat (first | (with_reducible exact FF5_0.out) | (with_reducible refine Kd.F_alloc ?_ _) | (with_reducible refine Kd.F_drewN ?_ _) | (with_reducible refine Kd.F_drew ?_) | exact FF5_0.out)) hb); have n_HB := Aside0.mk (below_then (by repeat (first | (with_reducible first | exact HB.out | apply below_alloc | apply pw_below_drewN | apply below_drew1) | exact HB.out)) (below_size (by repeat (first | (with_reducible first | exact HB.out | apply below_alloc | apply pw_below_drewN | apply below_drew1) | exact HB.out))) hb); clear FF3_0 FF4_0 FF5_0 HB; have FF3_0 := n_FF3_0; have FF4_0 := n_FF4_0; have FF5_0 := n_FF5_0; have HB := n_HB; clear n_FF3_0 n_FF4_0 n_FF5_0 n_HB; have hm0_ := Kd.S_R hm0; clear hm0; have hm0 := hm0_; clear hm0_; have RR6_0 := Aside0.mk (span_R hm0); obtain ⟨A6_0, c6_0, rfl, hl6_0, hx6_0, hf6_0⟩ := open_R hm0; have FF6_0 := Aside0.mk hf6_0; have CC6_0 := Aside0.mk hl6_0; clear hf6_0 hl6_0 hx6_0 hm0; clear hb hb0) | ((with_reducible refine gate_callee (f := 9) rfl ?_); (try (refine gate_guard (by rfl) ?_; dsimp only)); refine goesL_ (some 38) rfl rfl Try.func9 (by kernel_rfl) rfl #[.slice A1 l1.length c1] rfl (by (try simp only [List.map_toArray, List.map_cons, List.map_nil]); first | done | rfl) ?_; (with_reducible refine (laws_toCountedS.calls k _ _ l1 _ _ ?side1 ?side2 AtaB.out).mono ?_); (case side1 => repeat (first | exact (Kd.C_below HR1.out HB.out) | (with_reducible refine Kd.C_alloc ?_ _) | (with_reducible refine Kd.C_drewN ?_ _) | (with_reducible refine Kd.C_drew ?_))); (case side2 => exact HC1.out); rintro e w107 ⟨v7_0, rfl, hm0, hb⟩; refine ⟨_, rfl, ?_⟩; have hb0 := Aside0.mk hb; have SZ7 := Aside0.mk (show w106.heap.size ≤ w107.heap.size from hb.size); have n_FF3_0 := Aside0.mk (FI.below (by repeat (first | (with_reducible exact FF3_0.out) | (with_reducible refine Kd.F_alloc ?_ _) | (with_reducible refine Kd.F_drewN ?_ _) | (with_reducible refine Kd.F_drew ?_) | exact FF3_0.out)) hb); have n_FF4_0 := Aside0.mk (FI.below (by repeat (first | (with_reducible exact FF4_0.out) | (with_reducible refine Kd.F_alloc ?_ _) | (with_reducible refine Kd.F_drewN ?_ _) | (with_reducible refine Kd.F_drew ?_) | exact FF4_0.out)) hb); have n_FF5_0 := Aside0.mk (FI.below (by repeat (first | (with_reducible exact FF5_0.out) | (with_reducible refine Kd.F_alloc ?_ _) | (with_reducible refine Kd.F_drewN ?_ _) | (with_reducible refine Kd.F_drew ?_) | exact FF5_0.out)) hb); have n_FF6_0 := Aside0.mk (FI.below (by repeat (first | (with_reducible exact FF6_0.out) | (with_reducible refine Kd.F_alloc ?_ _) | (with_reducible refine Kd.F_drewN ?_ _) | (with_reducible refine Kd.F_drew ?_) | exact FF6_0.out)) hb); have n_RR6_0 := Aside0.mk (Kd.R_below (by repeat (first | (with_reducible exact RR6_0.out) | (with_reducible apply Kd.R_alloc) | (with_reducible apply Kd.R_drewN) | (with_reducible apply Kd.R_drew) | exact RR6_0.out)) hb); have n_HB := Aside0.mk (below_then (by repeat (first | (with_reducible first | exact HB.out | apply below_alloc | apply pw_below_drewN | apply below_drew1) | exact HB.out)) (below_size (by repeat (first | (with_reducible first | exact HB.out | apply below_alloc | apply pw_below_drewN | apply below_drew1) | exact HB.out))) hb); clear FF3_0 FF4_0 FF5_0 FF6_0 RR6_0 HB; have FF3_0 := n_FF3_0; have FF4_0 := n_FF4_0; have FF5_0 := n_FF5_0; have FF6_0 := n_FF6_0; have RR6_0 := n_RR6_0; have HB := n_HB; clear n_FF3_0 n_FF4_0 n_FF5_0 n_FF6_0 n_RR6_0 n_HB; have hm0_ := Kd.S_R hm0; clear hm0; have hm0 := hm0_; clear hm0_; have RR7_0 := Aside0.mk (span_R hm0); obtain ⟨A7_0, c7_0, rfl, hl7_0, hx7_0, hf7_0⟩ := open_R hm0; have FF7_0 := Aside0.mk hf7_0; have CC7_0 := Aside0.mk hl7_0; clear hf7_0 hl7_0 hx7_0 hm0; clear hb hb0) | ((with_reducible refine gate_callee (f := 10) rfl ?_); (try (refine gate_guard (by rfl) ?_; dsimp only)); refine goesL_ (some 42) rfl rfl Try.func10 (by kernel_rfl) rfl #[.slice A6_0 t3.length c6_0, .slice A7_0 t4.length c7_0] rfl (by (try simp only [List.map_toArray, List.map_cons, List.map_nil]); first | done | rfl) ?_; (with_reducible refine (impl_SubtractCounts.calls k _ _ t3 _ _ t4 _ _ _ ?side1 ?side2 ?side3 ?side4 Ag.out).mono ?_); (case side1 => repeat (first | exact (FI.now FF6_0.out) | (with_reducible refine Kd.C_alloc ?_ _) | (with_reducible refine Kd.C_drewN ?_ _) | (with_reducible refine Kd.C_drew ?_))); (case side2 => exact CC6_0.out); (case side3 => repeat (first | exact (FI.now FF7_0.out) | (with_reducible refine Kd.C_alloc ?_ _) | (with_reducible refine Kd.C_drewN ?_ _) | (with_reducible refine Kd.C_drew ?_))); (case side4 => exact CC7_0.out); rintro e w108 ⟨v8_0, rfl, hm0, hb⟩; refine ⟨_, rfl, ?_⟩; have hb0 := Aside0.mk hb; have SZ8 := Aside0.mk (show w107.heap.size ≤ w108.heap.size from hb.size); have n_FF3_0 := Aside0.mk (FI.below (by repeat (first | (with_reducible exact FF3_0.out) | (with_reducible refine Kd.F_alloc ?_ _) | (with_reducible refine Kd.F_drewN ?_ _) | (with_reducible refine Kd.F_drew ?_) | exact FF3_0.out)) hb); have n_FF4_0 := Aside0.mk (FI.below (by repeat (first | (with_reducible exact FF4_0.out) | (with_reducible refine Kd.F_alloc ?_ _) | (with_reducible refine Kd.F_drewN ?_ _) | (with_reducible refine Kd.F_drew ?_) | exact FF4_0.out)) hb); have n_FF5_0 := Aside0.mk (FI.below (by repeat (first | (with_reducible exact FF5_0.out) | (with_reducible refine Kd.F_alloc ?_ _) | (with_reducible refine Kd.F_drewN ?_ _) | (with_reducible refine Kd.F_drew ?_) | exact FF5_0.out)) hb); have n_FF6_0 := Aside0.mk (FI.below (by repeat (first | (with_reducible exact FF6_0.out) | (with_reducible refine Kd.F_alloc ?_ _) | (with_reducible refine Kd.F_drewN ?_ _) | (with_reducible refine Kd.F_drew ?_) | exact FF6_0.out)) hb); have n_FF7_0 := Aside0.mk (FI.below (by repeat (first | (with_reducible exact FF7_0.out) | (with_reducible refine Kd.F_alloc ?_ _) | (with_reducible refine Kd.F_drewN ?_ _) | (with_reducible refine Kd.F_drew ?_) | exact FF7_0.out)) hb); have n_RR6_0 := Aside0.mk (Kd.R_below (by repeat (first | (with_reducible exact RR6_0.out) | (with_reducible apply Kd.R_alloc) | (with_reducible apply Kd.R_drewN) | (with_reducible apply Kd.R_drew) | exact RR6_0.out)) hb); have n_RR7_0 := Aside0.mk (Kd.R_below (by repeat (first | (with_reducible exact RR7_0.out) | (with_reducible apply Kd.R_alloc) | (with_reducible apply Kd.R_drewN) | (with_reducible apply Kd.R_drew) | exact RR7_0.out)) hb); have n_HB := Aside0.mk (below_then (by repeat (first | (with_reducible first | exact HB.out | apply below_alloc | apply pw_below_drewN | apply below_drew1) | exact HB.out)) (below_size (by repeat (first | (with_reducible first | exact HB.out | apply below_alloc | apply pw_below_drewN | apply below_drew1) | exact HB.out))) hb); clear FF3_0 FF4_0 FF5_0 FF6_0 FF7_0 RR6_0 RR7_0 HB; have FF3_0 := n_FF3_0; have FF4_0 := n_FF4_0; have FF5_0 := n_FF5_0; have FF6_0 := n_FF6_0; have FF7_0 := n_FF7_0; have RR6_0 := n_RR6_0; have RR7_0 := n_RR7_0; have HB := n_HB; clear n_FF3_0 n_FF4_0 n_FF5_0 n_FF6_0 n_FF7_0 n_RR6_0 n_RR7_0 n_HB; obtain ⟨plG, haG, hlG, hnG, hpG⟩ := kCd_places (Kd.S_mono (ok' := fun b => w107.heap.size ≤ b ∧ b < w108.heap.size) (Kd.S_bound hm0) (fun k_ hk => ⟨hk.2.1, hk.2.2.1⟩)); have RWG := Aside0.mk haG; have LNG := Aside0.mk hlG; have NDG := Aside0.mk hnG; have SPG := Aside0.mk hpG; clear haG hlG hnG hpG; have hm0_ := kCd_R hm0; clear hm0; have hm0 := hm0_; clear hm0_; obtain ⟨A8_0, c8_0, rfl, hl8_0, hx8_0, hf8_0⟩ := open_R hm0; have FF8_0 := Aside0.mk hf8_0; have CC8_0 := Aside0.mk hl8_0; clear hf8_0 hl8_0 hx8_0 hm0; clear hb hb0) | ((with_reducible refine gate_callee (f := 11) rfl ?_); (try (refine gate_guard (by rfl) ?_; dsimp only)); refine goesL_ (some 47) rfl rfl Try.func11 (by kernel_rfl) rfl #[.slice A8_0 t6.1.length c8_0, .slice A5_0 t5.1.length c5_0] rfl (by (try simp only [List.map_toArray, List.map_cons, List.map_nil]); first | done | rfl) ?_; (with_reducible refine (laws_eqCountedS.calls k _ _ t6.1 _ _ t5.1 _ _ ?side1 ?side2 ?side3 ?side4 Ae.out).mono ?_); (case side1 => repeat (first | exact (FI.now FF8_0.out) | (with_reducible refine Kd.C_alloc ?_ _) | (with_reducible refine Kd.C_drewN ?_ _) | (with_reducible refine Kd.C_drew ?_))); (case side2 => exact CC8_0.out); (case side3 => repeat (first | exact (FI.now FF5_0.out) | (with_reducible refine Kd.C_alloc ?_ _) | (with_reducible refine Kd.C_drewN ?_ _) | (with_reducible refine Kd.C_drew ?_))); (case side4 => exact CC5_0.out); rintro e w109 ⟨rfl, hb⟩; refine ⟨_, rfl, ?_⟩; have SZ9 := Aside0.mk (show w108.heap.size ≤ w109.heap.size from hb.size); have n_FF3_0 := Aside0.mk (FI.below (by repeat (first | (with_reducible exact FF3_0.out) | (with_reducible refine Kd.F_alloc ?_ _) | (with_reducible refine Kd.F_drewN ?_ _) | (with_reducible refine Kd.F_drew ?_) | exact FF3_0.out)) hb); have n_FF4_0 := Aside0.mk (FI.below (by repeat (first | (with_reducible exact FF4_0.out) | (with_reducible refine Kd.F_alloc ?_ _) | (with_reducible refine Kd.F_drewN ?_ _) | (with_reducible refine Kd.F_drew ?_) | exact FF4_0.out)) hb); have n_FF5_0 := Aside0.mk (FI.below (by repeat (first | (with_reducible exact FF5_0.out) | (with_reducible refine Kd.F_alloc ?_ _) | (with_reducible refine Kd.F_drewN ?_ _) | (with_reducible refine Kd.F_drew ?_) | exact FF5_0.out)) hb); have n_FF6_0 := Aside0.mk (FI.below (by repeat (first | (with_reducible exact FF6_0.out) | (with_reducible refine Kd.F_alloc ?_ _) | (with_reducible refine Kd.F_drewN ?_ _) | (with_reducible refine Kd.F_drew ?_) | exact FF6_0.out)) hb); have n_FF7_0 := Aside0.mk (FI.below (by repeat (first | (with_reducible exact FF7_0.out) | (with_reducible refine Kd.F_alloc ?_ _) | (with_reducible refine Kd.F_drewN ?_ _) | (with_reducible refine Kd.F_drew ?_) | exact FF7_0.out)) hb); have n_FF8_0 := Aside0.mk (FI.below (by repeat (first | (with_reducible exact FF8_0.out) | (with_reducible refine Kd.F_alloc ?_ _) | (with_reducible refine Kd.F_drewN ?_ _) | (with_reducible refine Kd.F_drew ?_) | exact FF8_0.out)) hb); have n_RR6_0 := Aside0.mk (Kd.R_below (by repeat (first | (with_reducible exact RR6_0.out) | (with_reducible apply Kd.R_alloc) | (with_reducible apply Kd.R_drewN) | (with_reducible apply Kd.R_drew) | exact RR6_0.out)) hb); have n_RR7_0 := Aside0.mk (Kd.R_below (by repeat (first | (with_reducible exact RR7_0.out) | (with_reducible apply Kd.R_alloc) | (with_reducible apply Kd.R_drewN) | (with_reducible apply Kd.R_drew) | exact RR7_0.out)) hb); have n_RWG := Aside0.mk (row_below (st_pair (st_eRow (st_row st_int)) st_int) RWG.out hb); have n_HB := Aside0.mk (below_then (by repeat (first | (with_reducible first | exact HB.out | apply below_alloc | apply pw_below_drewN | apply below_drew1) | exact HB.out)) (below_size (by repeat (first | (with_reducible first | exact HB.out | apply below_alloc | apply pw_below_drewN | apply below_drew1) | exact HB.out))) hb); clear FF3_0 FF4_0 FF5_0 FF6_0 FF7_0 FF8_0 RR6_0 RR7_0 RWG HB; have FF3_0 := n_FF3_0; have FF4_0 := n_FF4_0; have FF5_0 := n_FF5_0; have FF6_0 := n_FF6_0; have FF7_0 := n_FF7_0; have FF8_0 := n_FF8_0; have RR6_0 := n_RR6_0; have RR7_0 := n_RR7_0; have RWG := n_RWG; have HB := n_HB; clear n_FF3_0 n_FF4_0 n_FF5_0 n_FF6_0 n_FF7_0 n_FF8_0 n_RR6_0 n_RR7_0 n_RWG n_HB; clear hb) | ((with_reducible refine gate_callee (f := 9) rfl ?_); (try (refine gate_guard (by rfl) ?_; dsimp only)); refine goesL_ (some 56) rfl rfl Try.func9 (by kernel_rfl) rfl #[.slice A0 l0.length c0] rfl (by (try simp only [List.map_toArray, List.map_cons, List.map_nil]); first | done | rfl) ?_; (with_reducible refine (laws_toCountedS.calls k _ _ l0 _ _ ?side1 ?side2 AtaA.out).mono ?_); (case side1 => repeat (first | exact (Kd.C_below HR0.out HB.out) | (with_reducible refine Kd.C_alloc ?_ _) | (with_reducible refine Kd.C_drewN ?_ _) | (with_reducible refine Kd.C_drew ?_))); (case side2 => exact HC0.out); rintro e w110 ⟨v10_0, rfl, hm0, hb⟩; refine ⟨_, rfl, ?_⟩; have hb0 := Aside0.mk hb; have SZ10 := Aside0.mk (show w109.heap.size ≤ w110.heap.size from hb.size); have n_FF3_0 := Aside0.mk (FI.below (by repeat (first | (with_reducible exact FF3_0.out) | (with_reducible refine Kd.F_alloc ?_ _) | (with_reducible refine Kd.F_drewN ?_ _) | (with_reducible refine Kd.F_drew ?_) | exact FF3_0.out)) hb); have n_FF4_0 := Aside0.mk (FI.below (by repeat (first | (with_reducible exact FF4_0.out) | (with_reducible refine Kd.F_alloc ?_ _) | (with_reducible refine Kd.F_drewN ?_ _) | (with_reducible refine Kd.F_drew ?_) | exact FF4_0.out)) hb); have n_FF5_0 := Aside0.mk (FI.below (by repeat (first | (with_reducible exact FF5_0.out) | (with_reducible refine Kd.F_alloc ?_ _) | (with_reducible refine Kd.F_drewN ?_ _) | (with_reducible refine Kd.F_drew ?_) | exact FF5_0.out)) hb); have n_FF6_0 := Aside0.mk (FI.below (by repeat (first | (with_reducible exact FF6_0.out) | (with_reducible refine Kd.F_alloc ?_ _) | (with_reducible refine Kd.F_drewN ?_ _) | (with_reducible refine Kd.F_drew ?_) | exact FF6_0.out)) hb); have n_FF7_0 := Aside0.mk (FI.below (by repeat (first | (with_reducible exact FF7_0.out) | (with_reducible refine Kd.F_alloc ?_ _) | (with_reducible refine Kd.F_drewN ?_ _) | (with_reducible refine Kd.F_drew ?_) | exact FF7_0.out)) hb); have n_FF8_0 := Aside0.mk (FI.below (by repeat (first | (with_reducible exact FF8_0.out) | (with_reducible refine Kd.F_alloc ?_ _) | (with_reducible refine Kd.F_drewN ?_ _) | (with_reducible refine Kd.F_drew ?_) | exact FF8_0.out)) hb); have n_RR6_0 := Aside0.mk (Kd.R_below (by repeat (first | (with_reducible exact RR6_0.out) | (with_reducible apply Kd.R_alloc) | (with_reducible apply Kd.R_drewN) | (with_reducible apply Kd.R_drew) | exact RR6_0.out)) hb); have n_RR7_0 := Aside0.mk (Kd.R_below (by repeat (first | (with_reducible exact RR7_0.out) | (with_reducible apply Kd.R_alloc) | (with_reducible apply Kd.R_drewN) | (with_reducible apply Kd.R_drew) | exact RR7_0.out)) hb); have n_RWG := Aside0.mk (row_below (st_pair (st_eRow (st_row st_int)) st_int) RWG.out hb); have n_HB := Aside0.mk (below_then (by repeat (first | (with_reducible first | exact HB.out | apply below_alloc | apply pw_below_drewN | apply below_drew1) | exact HB.out)) (below_size (by repeat (first | (with_reducible first | exact HB.out | apply below_alloc | apply pw_below_drewN | apply below_drew1) | exact HB.out))) hb); clear FF3_0 FF4_0 FF5_0 FF6_0 FF7_0 FF8_0 RR6_0 RR7_0 RWG HB; have FF3_0 := n_FF3_0; have FF4_0 := n_FF4_0; have FF5_0 := n_FF5_0; have FF6_0 := n_FF6_0; have FF7_0 := n_FF7_0; have FF8_0 := n_FF8_0; have RR6_0 := n_RR6_0; have RR7_0 := n_RR7_0; have RWG := n_RWG; have HB := n_HB; clear n_FF3_0 n_FF4_0 n_FF5_0 n_FF6_0 n_FF7_0 n_FF8_0 n_RR6_0 n_RR7_0 n_RWG n_HB; have hm0_ := Kd.S_R hm0; clear hm0; have hm0 := hm0_; clear hm0_; obtain ⟨A10_0, c10_0, rfl, hl10_0, hx10_0, hf10_0⟩ := open_R hm0; have FF10_0 := Aside0.mk hf10_0; have CC10_0 := Aside0.mk hl10_0; clear hf10_0 hl10_0 hx10_0 hm0; clear hb hb0) | ((with_reducible refine gate_callee (f := 11) rfl ?_); (try (refine gate_guard (by rfl) ?_; dsimp only)); refine goesL_ (some 57) rfl rfl Try.func11 (by kernel_rfl) rfl #[.slice A6_0 t3.length c6_0, .slice A10_0 t3.length c10_0] rfl (by (try simp only [List.map_toArray, List.map_cons, List.map_nil]); first | done | rfl) ?_; (with_reducible refine (laws_eqCountedS.calls k _ _ t3 _ _ t3 _ _ ?side1 ?side2 ?side3 ?side4 Aq0.out).mono ?_); (case side1 => repeat (first | exact (FI.now FF6_0.out) | (with_reducible refine Kd.C_alloc ?_ _) | (with_reducible refine Kd.C_drewN ?_ _) | (with_reducible refine Kd.C_drew ?_))); (case side2 => exact CC6_0.out); (case side3 => repeat (first | exact (FI.now FF10_0.out) | (with_reducible refine Kd.C_alloc ?_ _) | (with_reducible refine Kd.C_drewN ?_ _) | (with_reducible refine Kd.C_drew ?_))); (case side4 => exact CC10_0.out); rintro e w111 ⟨rfl, hb⟩; refine ⟨_, rfl, ?_⟩; have SZ11 := Aside0.mk (show w110.heap.size ≤ w111.heap.size from hb.size); have n_FF3_0 := Aside0.mk (FI.below (by repeat (first | (with_reducible exact FF3_0.out) | (with_reducible refine Kd.F_alloc ?_ _) | (with_reducible refine Kd.F_drewN ?_ _) | (with_reducible refine Kd.F_drew ?_) | exact FF3_0.out)) hb); have n_FF4_0 := Aside0.mk (FI.below (by repeat (first | (with_reducible exact FF4_0.out) | (with_reducible refine Kd.F_alloc ?_ _) | (with_reducible refine Kd.F_drewN ?_ _) | (with_reducible refine Kd.F_drew ?_) | exact FF4_0.out)) hb); have n_FF5_0 := Aside0.mk (FI.below (by repeat (first | (with_reducible exact FF5_0.out) | (with_reducible refine Kd.F_alloc ?_ _) | (with_reducible refine Kd.F_drewN ?_ _) | (with_reducible refine Kd.F_drew ?_) | exact FF5_0.out)) hb); have n_FF6_0 := Aside0.mk (FI.below (by repeat (first | (with_reducible exact FF6_0.out) | (with_reducible refine Kd.F_alloc ?_ _) | (with_reducible refine Kd.F_drewN ?_ _) | (with_reducible refine Kd.F_drew ?_) | exact FF6_0.out)) hb); have n_FF7_0 := Aside0.mk (FI.below (by repeat (first | (with_reducible exact FF7_0.out) | (with_reducible refine Kd.F_alloc ?_ _) | (with_reducible refine Kd.F_drewN ?_ _) | (with_reducible refine Kd.F_drew ?_) | exact FF7_0.out)) hb); have n_FF8_0 := Aside0.mk (FI.below (by repeat (first | (with_reducible exact FF8_0.out) | (with_reducible refine Kd.F_alloc ?_ _) | (with_reducible refine Kd.F_drewN ?_ _) | (with_reducible refine Kd.F_drew ?_) | exact FF8_0.out)) hb); have n_FF10_0 := Aside0.mk (FI.below (by repeat (first | (with_reducible exact FF10_0.out) | (with_reducible refine Kd.F_alloc ?_ _) | (with_reducible refine Kd.F_drewN ?_ _) | (with_reducible refine Kd.F_drew ?_) | exact FF10_0.out)) hb); have n_RR6_0 := Aside0.mk (Kd.R_below (by repeat (first | (with_reducible exact RR6_0.out) | (with_reducible apply Kd.R_alloc) | (with_reducible apply Kd.R_drewN) | (with_reducible apply Kd.R_drew) | exact RR6_0.out)) hb); have n_RR7_0 := Aside0.mk (Kd.R_below (by repeat (first | (with_reducible exact RR7_0.out) | (with_reducible apply Kd.R_alloc) | (with_reducible apply Kd.R_drewN) | (with_reducible apply Kd.R_drew) | exact RR7_0.out)) hb); have n_RWG := Aside0.mk (row_below (st_pair (st_eRow (st_row st_int)) st_int) RWG.out hb); have n_HB := Aside0.mk (below_then (by repeat (first | (with_reducible first | exact HB.out | apply below_alloc | apply pw_below_drewN | apply below_drew1) | exact HB.out)) (below_size (by repeat (first | (with_reducible first | exact HB.out | apply below_alloc | apply pw_below_drewN | apply below_drew1) | exact HB.out))) hb); clear FF3_0 FF4_0 FF5_0 FF6_0 FF7_0 FF8_0 FF10_0 RR6_0 RR7_0 RWG HB; have FF3_0 := n_FF3_0; have FF4_0 := n_FF4_0; have FF5_0 := n_FF5_0; have FF6_0 := n_FF6_0; have FF7_0 := n_FF7_0; have FF8_0 := n_FF8_0; have FF10_0 := n_FF10_0; have RR6_0 := n_RR6_0; have RR7_0 := n_RR7_0; have RWG := n_RWG; have HB := n_HB; clear n_FF3_0 n_FF4_0 n_FF5_0 n_FF6_0 n_FF7_0 n_FF8_0 n_FF10_0 n_RR6_0 n_RR7_0 n_RWG n_HB; clear hb) | ((with_reducible refine gate_callee (f := 9) rfl ?_); (try (refine gate_guard (by rfl) ?_; dsimp only)); refine goesL_ (some 61) rfl rfl Try.func9 (by kernel_rfl) rfl #[.slice A1 l1.length c1] rfl (by (try simp only [List.map_toArray, List.map_cons, List.map_nil]); first | done | rfl) ?_; (with_reducible refine (laws_toCountedS.calls k _ _ l1 _ _ ?side1 ?side2 AtaB.out).mono ?_); (case side1 => repeat (first | exact (Kd.C_below HR1.out HB.out) | (with_reducible refine Kd.C_alloc ?_ _) | (with_reducible refine Kd.C_drewN ?_ _) | (with_reducible refine Kd.C_drew ?_))); (case side2 => exact HC1.out); rintro e w112 ⟨v12_0, rfl, hm0, hb⟩; refine ⟨_, rfl, ?_⟩; have hb0 := Aside0.mk hb; have SZ12 := Aside0.mk (show w111.heap.size ≤ w112.heap.size from hb.size); have n_FF3_0 := Aside0.mk (FI.below (by repeat (first | (with_reducible exact FF3_0.out) | (with_reducible refine Kd.F_alloc ?_ _) | (with_reducible refine Kd.F_drewN ?_ _) | (with_reducible refine Kd.F_drew ?_) | exact FF3_0.out)) hb); have n_FF4_0 := Aside0.mk (FI.below (by repeat (first | (with_reducible exact FF4_0.out) | (with_reducible refine Kd.F_alloc ?_ _) | (with_reducible refine Kd.F_drewN ?_ _) | (with_reducible refine Kd.F_drew ?_) | exact FF4_0.out)) hb); have n_FF5_0 := Aside0.mk (FI.below (by repeat (first | (with_reducible exact FF5_0.out) | (with_reducible refine Kd.F_alloc ?_ _) | (with_reducible refine Kd.F_drewN ?_ _) | (with_reducible refine Kd.F_drew ?_) | exact FF5_0.out)) hb); have n_FF6_0 := Aside0.mk (FI.below (by repeat (first | (with_reducible exact FF6_0.out) | (with_reducible refine Kd.F_alloc ?_ _) | (with_reducible refine Kd.F_drewN ?_ _) | (with_reducible refine Kd.F_drew ?_) | exact FF6_0.out)) hb); have n_FF7_0 := Aside0.mk (FI.below (by repeat (first | (with_reducible exact FF7_0.out) | (with_reducible refine Kd.F_alloc ?_ _) | (with_reducible refine Kd.F_drewN ?_ _) | (with_reducible refine Kd.F_drew ?_) | exact FF7_0.out)) hb); have n_FF8_0 := Aside0.mk (FI.below (by repeat (first | (with_reducible exact FF8_0.out) | (with_reducible refine Kd.F_alloc ?_ _) | (with_reducible refine Kd.F_drewN ?_ _) | (with_reducible refine Kd.F_drew ?_) | exact FF8_0.out)) hb); have n_FF10_0 := Aside0.mk (FI.below (by repeat (first | (with_reducible exact FF10_0.out) | (with_reducible refine Kd.F_alloc ?_ _) | (with_reducible refine Kd.F_drewN ?_ _) | (with_reducible refine Kd.F_drew ?_) | exact FF10_0.out)) hb); have n_RR6_0 := Aside0.mk (Kd.R_below (by repeat (first | (with_reducible exact RR6_0.out) | (with_reducible apply Kd.R_alloc) | (with_reducible apply Kd.R_drewN) | (with_reducible apply Kd.R_drew) | exact RR6_0.out)) hb); have n_RR7_0 := Aside0.mk (Kd.R_below (by repeat (first | (with_reducible exact RR7_0.out) | (with_reducible apply Kd.R_alloc) | (with_reducible apply Kd.R_drewN) | (with_reducible apply Kd.R_drew) | exact RR7_0.out)) hb); have n_RWG := Aside0.mk (row_below (st_pair (st_eRow (st_row st_int)) st_int) RWG.out hb); have n_HB := Aside0.mk (below_then (by repeat (first | (with_reducible first | exact HB.out | apply below_alloc | apply pw_below_drewN | apply below_drew1) | exact HB.out)) (below_size (by repeat (first | (with_reducible first | exact HB.out | apply below_alloc | apply pw_below_drewN | apply below_drew1) | exact HB.out))) hb); clear FF3_0 FF4_0 FF5_0 FF6_0 FF7_0 FF8_0 FF10_0 RR6_0 RR7_0 RWG HB; have FF3_0 := n_FF3_0; have FF4_0 := n_FF4_0; have FF5_0 := n_FF5_0; have FF6_0 := n_FF6_0; have FF7_0 := n_FF7_0; have FF8_0 := n_FF8_0; have FF10_0 := n_FF10_0; have RR6_0 := n_RR6_0; have RR7_0 := n_RR7_0; have RWG := n_RWG; have HB := n_HB; clear n_FF3_0 n_FF4_0 n_FF5_0 n_FF6_0 n_FF7_0 n_FF8_0 n_FF10_0 n_RR6_0 n_RR7_0 n_RWG n_HB; have hm0_ := Kd.S_R hm0; clear hm0; have hm0 := hm0_; clear hm0_; obtain ⟨A12_0, c12_0, rfl, hl12_0, hx12_0, hf12_0⟩ := open_R hm0; have FF12_0 := Aside0.mk hf12_0; have CC12_0 := Aside0.mk hl12_0; clear hf12_0 hl12_0 hx12_0 hm0; clear hb hb0) | ((with_reducible refine gate_callee (f := 11) rfl ?_); (try (refine gate_guard (by rfl) ?_; dsimp only)); refine goesL_ (some 62) rfl rfl Try.func11 (by kernel_rfl) rfl #[.slice A7_0 t4.length c7_0, .slice A12_0 t4.length c12_0] rfl (by (try simp only [List.map_toArray, List.map_cons, List.map_nil]); first | done | rfl) ?_; (with_reducible refine (laws_eqCountedS.calls k _ _ t4 _ _ t4 _ _ ?side1 ?side2 ?side3 ?side4 Aq1.out).mono ?_); (case side1 => repeat (first | exact (FI.now FF7_0.out) | (with_reducible refine Kd.C_alloc ?_ _) | (with_reducible refine Kd.C_drewN ?_ _) | (with_reducible refine Kd.C_drew ?_))); (case side2 => exact CC7_0.out); (case side3 => repeat (first | exact (FI.now FF12_0.out) | (with_reducible refine Kd.C_alloc ?_ _) | (with_reducible refine Kd.C_drewN ?_ _) | (with_reducible refine Kd.C_drew ?_))); (case side4 => exact CC12_0.out); rintro e w113 ⟨rfl, hb⟩; refine ⟨_, rfl, ?_⟩; have SZ13 := Aside0.mk (show w112.heap.size ≤ w113.heap.size from hb.size); have n_FF3_0 := Aside0.mk (FI.below (by repeat (first | (with_reducible exact FF3_0.out) | (with_reducible refine Kd.F_alloc ?_ _) | (with_reducible refine Kd.F_drewN ?_ _) | (with_reducible refine Kd.F_drew ?_) | exact FF3_0.out)) hb); have n_FF4_0 := Aside0.mk (FI.below (by repeat (first | (with_reducible exact FF4_0.out) | (with_reducible refine Kd.F_alloc ?_ _) | (with_reducible refine Kd.F_drewN ?_ _) | (with_reducible refine Kd.F_drew ?_) | exact FF4_0.out)) hb); have n_FF5_0 := Aside0.mk (FI.below (by repeat (first | (with_reducible exact FF5_0.out) | (with_reducible refine Kd.F_alloc ?_ _) | (with_reducible refine Kd.F_drewN ?_ _) | (with_reducible refine Kd.F_drew ?_) | exact FF5_0.out)) hb); have n_FF6_0 := Aside0.mk (FI.below (by repeat (first | (with_reducible exact FF6_0.out) | (with_reducible refine Kd.F_alloc ?_ _) | (with_reducible refine Kd.F_drewN ?_ _) | (with_reducible refine Kd.F_drew ?_) | exact FF6_0.out)) hb); have n_FF7_0 := Aside0.mk (FI.below (by repeat (first | (with_reducible exact FF7_0.out) | (with_reducible refine Kd.F_alloc ?_ _) | (with_reducible refine Kd.F_drewN ?_ _) | (with_reducible refine Kd.F_drew ?_) | exact FF7_0.out)) hb); have n_FF8_0 := Aside0.mk (FI.below (by repeat (first | (with_reducible exact FF8_0.out) | (with_reducible refine Kd.F_alloc ?_ _) | (with_reducible refine Kd.F_drewN ?_ _) | (with_reducible refine Kd.F_drew ?_) | exact FF8_0.out)) hb); have n_FF10_0 := Aside0.mk (FI.below (by repeat (first | (with_reducible exact FF10_0.out) | (with_reducible refine Kd.F_alloc ?_ _) | (with_reducible refine Kd.F_drewN ?_ _) | (with_reducible refine Kd.F_drew ?_) | exact FF10_0.out)) hb); have n_FF12_0 := Aside0.mk (FI.below (by repeat (first | (with_reducible exact FF12_0.out) | (with_reducible refine Kd.F_alloc ?_ _) | (with_reducible refine Kd.F_drewN ?_ _) | (with_reducible refine Kd.F_drew ?_) | exact FF12_0.out)) hb); have n_RR6_0 := Aside0.mk (Kd.R_below (by repeat (first | (with_reducible exact RR6_0.out) | (with_reducible apply Kd.R_alloc) | (with_reducible apply Kd.R_drewN) | (with_reducible apply Kd.R_drew) | exact RR6_0.out)) hb); have n_RR7_0 := Aside0.mk (Kd.R_below (by repeat (first | (with_reducible exact RR7_0.out) | (with_reducible apply Kd.R_alloc) | (with_reducible apply Kd.R_drewN) | (with_reducible apply Kd.R_drew) | exact RR7_0.out)) hb); have n_RWG := Aside0.mk (row_below (st_pair (st_eRow (st_row st_int)) st_int) RWG.out hb); have n_HB := Aside0.mk (below_then (by repeat (first | (with_reducible first | exact HB.out | apply below_alloc | apply pw_below_drewN | apply below_drew1) | exact HB.out)) (below_size (by repeat (first | (with_reducible first | exact HB.out | apply below_alloc | apply pw_below_drewN | apply below_drew1) | exact HB.out))) hb); clear FF3_0 FF4_0 FF5_0 FF6_0 FF7_0 FF8_0 FF10_0 FF12_0 RR6_0 RR7_0 RWG HB; have FF3_0 := n_FF3_0; have FF4_0 := n_FF4_0; have FF5_0 := n_FF5_0; have FF6_0 := n_FF6_0; have FF7_0 := n_FF7_0; have FF8_0 := n_FF8_0; have FF10_0 := n_FF10_0; have FF12_0 := n_FF12_0; have RR6_0 := n_RR6_0; have RR7_0 := n_RR7_0; have RWG := n_RWG; have HB := n_HB; clear n_FF3_0 n_FF4_0 n_FF5_0 n_FF6_0 n_FF7_0 n_FF8_0 n_FF10_0 n_FF12_0 n_RR6_0 n_RR7_0 n_RWG n_HB; clear hb) | ((with_reducible refine gate_callee (f := 12) rfl ?_); (try (refine gate_guard (by rfl) ?_; dsimp only)); refine goesL_ (some 66) rfl rfl Try.func12 (by kernel_rfl) rfl #[.slice A6_0 t3.length c6_0, .int .i64 1] rfl (by (try simp only [List.map_toArray, List.map_cons, List.map_nil]); first | done | rfl) ?_; obtain ⟨pl6_0, ha6_0, hl6_0, hp6_0⟩ := places_in (sz := 2) mkCountedE rfl (by repeat (first | (with_reducible exact RR6_0.out) | (with_reducible apply Kd.R_alloc) | (with_reducible apply Kd.R_drewN) | (with_reducible apply Kd.R_drew) | exact RR6_0.out)); have LN6_0 := Aside0.mk (show pl6_0.length = cnCountedS t3 from hl6_0); clear hl6_0; (with_reducible refine (LayI.markCountedS _ pl6_0 1 _ ha6_0 ?s0 ?s1).mono ?_); (case s0 => ((have := LN6_0.out); omega)); (case s1 => ((have := LN6_0.out); have := CB.out; omega)); rintro e w114 ⟨rfl, hw⟩; refine ⟨_, rfl, ?_⟩; have SZ14 := Aside0.mk (show w113.heap.size ≤ w114.heap.size from hw.hd.size); have n_FF3_0 := Aside0.mk (FI.wr (by repeat (first | (with_reducible exact FF3_0.out) | (with_reducible refine Kd.F_alloc ?_ _) | (with_reducible refine Kd.F_drewN ?_ _) | (with_reducible refine Kd.F_drew ?_) | exact FF3_0.out)) hw hp6_0 (by (have := SZ1.out; have := SZ2.out; have := SZ3.out; have := SZ4.out; have := SZ5.out; have := SZ6.out; have := SZ7.out; have := SZ8.out; have := SZ9.out; have := SZ10.out; have := SZ11.out; have := SZ12.out; have := SZ13.out); have hbs_ := below_size HB.out; omega)); have n_FF4_0 := Aside0.mk (FI.wr (by repeat (first | (with_reducible exact FF4_0.out) | (with_reducible refine Kd.F_alloc ?_ _) | (with_reducible refine Kd.F_drewN ?_ _) | (with_reducible refine Kd.F_drew ?_) | exact FF4_0.out)) hw hp6_0 (by (have := SZ1.out; have := SZ2.out; have := SZ3.out; have := SZ4.out; have := SZ5.out; have := SZ6.out; have := SZ7.out; have := SZ8.out; have := SZ9.out; have := SZ10.out; have := SZ11.out; have := SZ12.out; have := SZ13.out); have hbs_ := below_size HB.out; omega)); have n_FF5_0 := Aside0.mk (FI.wr (by repeat (first | (with_reducible exact FF5_0.out) | (with_reducible refine Kd.F_alloc ?_ _) | (with_reducible refine Kd.F_drewN ?_ _) | (with_reducible refine Kd.F_drew ?_) | exact FF5_0.out)) hw hp6_0 (by (have := SZ1.out; have := SZ2.out; have := SZ3.out; have := SZ4.out; have := SZ5.out; have := SZ6.out; have := SZ7.out; have := SZ8.out; have := SZ9.out; have := SZ10.out; have := SZ11.out; have := SZ12.out; have := SZ13.out); have hbs_ := below_size HB.out; omega)); have n_FF7_0 := Aside0.mk (FI.wr (by repeat (first | (with_reducible exact FF7_0.out) | (with_reducible refine Kd.F_alloc ?_ _) | (with_reducible refine Kd.F_drewN ?_ _) | (with_reducible refine Kd.F_drew ?_) | exact FF7_0.out)) hw hp6_0 (by (have := SZ1.out; have := SZ2.out; have := SZ3.out; have := SZ4.out; have := SZ5.out; have := SZ6.out; have := SZ7.out; have := SZ8.out; have := SZ9.out; have := SZ10.out; have := SZ11.out; have := SZ12.out; have := SZ13.out); have hbs_ := below_size HB.out; omega)); have n_FF8_0 := Aside0.mk (FI.wr (by repeat (first | (with_reducible exact FF8_0.out) | (with_reducible refine Kd.F_alloc ?_ _) | (with_reducible refine Kd.F_drewN ?_ _) | (with_reducible refine Kd.F_drew ?_) | exact FF8_0.out)) hw hp6_0 (by (have := SZ1.out; have := SZ2.out; have := SZ3.out; have := SZ4.out; have := SZ5.out; have := SZ6.out; have := SZ7.out; have := SZ8.out; have := SZ9.out; have := SZ10.out; have := SZ11.out; have := SZ12.out; have := SZ13.out); have hbs_ := below_size HB.out; omega)); have n_FF10_0 := Aside0.mk (FI.wr (by repeat (first | (with_reducible exact FF10_0.out) | (with_reducible refine Kd.F_alloc ?_ _) | (with_reducible refine Kd.F_drewN ?_ _) | (with_reducible refine Kd.F_drew ?_) | exact FF10_0.out)) hw hp6_0 (by (have := SZ1.out; have := SZ2.out; have := SZ3.out; have := SZ4.out; have := SZ5.out; have := SZ6.out; have := SZ7.out; have := SZ8.out; have := SZ9.out; have := SZ10.out; have := SZ11.out; have := SZ12.out; have := SZ13.out); have hbs_ := below_size HB.out; omega)); have n_FF12_0 := Aside0.mk (FI.wr (by repeat (first | (with_reducible exact FF12_0.out) | (with_reducible refine Kd.F_alloc ?_ _) | (with_reducible refine Kd.F_drewN ?_ _) | (with_reducible refine Kd.F_drew ?_) | exact FF12_0.out)) hw hp6_0 (by (have := SZ1.out; have := SZ2.out; have := SZ3.out; have := SZ4.out; have := SZ5.out; have := SZ6.out; have := SZ7.out; have := SZ8.out; have := SZ9.out; have := SZ10.out; have := SZ11.out; have := SZ12.out; have := SZ13.out); have hbs_ := below_size HB.out; omega)); have n_RR7_0 := Aside0.mk (R_wr (by repeat (first | (with_reducible exact RR7_0.out) | (with_reducible apply Kd.R_alloc) | (with_reducible apply Kd.R_drewN) | (with_reducible apply Kd.R_drew) | exact RR7_0.out)) hw hp6_0 (by (have := SZ1.out; have := SZ2.out; have := SZ3.out; have := SZ4.out; have := SZ5.out; have := SZ6.out; have := SZ7.out; have := SZ8.out; have := SZ9.out; have := SZ10.out; have := SZ11.out; have := SZ12.out; have := SZ13.out); have hbs_ := below_size HB.out; omega)); have n_RWG := Aside0.mk (row_wr (st_pair (st_eRow (st_row st_int)) st_int) RWG.out hw); have n_HB := Aside0.mk (below_wr (by repeat (first | (with_reducible first | exact HB.out | apply below_alloc | apply pw_below_drewN | apply below_drew1) | exact HB.out)) hw hp6_0 (by (have := SZ1.out; have := SZ2.out; have := SZ3.out; have := SZ4.out; have := SZ5.out; have := SZ6.out; have := SZ7.out; have := SZ8.out; have := SZ9.out; have := SZ10.out; have := SZ11.out; have := SZ12.out; have := SZ13.out); have hbs_ := below_size HB.out; omega)); clear FF6_0 RR6_0 FF3_0 FF4_0 FF5_0 FF7_0 FF8_0 FF10_0 FF12_0 RR7_0 RWG HB; have FF3_0 := n_FF3_0; have FF4_0 := n_FF4_0; have FF5_0 := n_FF5_0; have FF7_0 := n_FF7_0; have FF8_0 := n_FF8_0; have FF10_0 := n_FF10_0; have FF12_0 := n_FF12_0; have RR7_0 := n_RR7_0; have RWG := n_RWG; have HB := n_HB; clear n_FF3_0 n_FF4_0 n_FF5_0 n_FF7_0 n_FF8_0 n_FF10_0 n_FF12_0 n_RR7_0 n_RWG n_HB; clear hw ha6_0) | ((with_reducible refine gate_callee (f := 12) rfl ?_); (try (refine gate_guard (by rfl) ?_; dsimp only)); refine goesL_ (some 69) rfl rfl Try.func12 (by kernel_rfl) rfl #[.slice A7_0 t4.length c7_0, .int .i64 ((1 : Int) + ((pl6_0.length : Nat) : Int))] rfl (by (try simp only [List.map_toArray, List.map_cons, List.map_nil]); first | done | rfl) ?_; obtain ⟨pl7_0, ha7_0, hl7_0, hp7_0⟩ := places_in (sz := 2) mkCountedE rfl (by repeat (first | (with_reducible exact RR7_0.out) | (with_reducible apply Kd.R_alloc) | (with_reducible apply Kd.R_drewN) | (with_reducible apply Kd.R_drew) | exact RR7_0.out)); have LN7_0 := Aside0.mk (show pl7_0.length = cnCountedS t4 from hl7_0); clear hl7_0; (with_reducible refine (LayI.markCountedS _ pl7_0 ((1 : Int) + ((pl6_0.length : Nat) : Int)) _ ha7_0 ?s0 ?s1).mono ?_); (case s0 => ((have := LN6_0.out; have := LN7_0.out); omega)); (case s1 => ((have := LN6_0.out; have := LN7_0.out); have := CB.out; omega)); rintro e w115 ⟨rfl, hw⟩; refine ⟨_, rfl, ?_⟩; have SZ15 := Aside0.mk (show w114.heap.size ≤ w115.heap.size from hw.hd.size); have n_FF3_0 := Aside0.mk (FI.wr (by repeat (first | (with_reducible exact FF3_0.out) | (with_reducible refine Kd.F_alloc ?_ _) | (with_reducible refine Kd.F_drewN ?_ _) | (with_reducible refine Kd.F_drew ?_) | exact FF3_0.out)) hw hp7_0 (by (have := SZ1.out; have := SZ2.out; have := SZ3.out; have := SZ4.out; have := SZ5.out; have := SZ6.out; have := SZ7.out; have := SZ8.out; have := SZ9.out; have := SZ10.out; have := SZ11.out; have := SZ12.out; have := SZ13.out; have := SZ14.out); have hbs_ := below_size HB.out; omega)); have n_FF4_0 := Aside0.mk (FI.wr (by repeat (first | (with_reducible exact FF4_0.out) | (with_reducible refine Kd.F_alloc ?_ _) | (with_reducible refine Kd.F_drewN ?_ _) | (with_reducible refine Kd.F_drew ?_) | exact FF4_0.out)) hw hp7_0 (by (have := SZ1.out; have := SZ2.out; have := SZ3.out; have := SZ4.out; have := SZ5.out; have := SZ6.out; have := SZ7.out; have := SZ8.out; have := SZ9.out; have := SZ10.out; have := SZ11.out; have := SZ12.out; have := SZ13.out; have := SZ14.out); have hbs_ := below_size HB.out; omega)); have n_FF5_0 := Aside0.mk (FI.wr (by repeat (first | (with_reducible exact FF5_0.out) | (with_reducible refine Kd.F_alloc ?_ _) | (with_reducible refine Kd.F_drewN ?_ _) | (with_reducible refine Kd.F_drew ?_) | exact FF5_0.out)) hw hp7_0 (by (have := SZ1.out; have := SZ2.out; have := SZ3.out; have := SZ4.out; have := SZ5.out; have := SZ6.out; have := SZ7.out; have := SZ8.out; have := SZ9.out; have := SZ10.out; have := SZ11.out; have := SZ12.out; have := SZ13.out; have := SZ14.out); have hbs_ := below_size HB.out; omega)); have n_FF8_0 := Aside0.mk (FI.wr (by repeat (first | (with_reducible exact FF8_0.out) | (with_reducible refine Kd.F_alloc ?_ _) | (with_reducible refine Kd.F_drewN ?_ _) | (with_reducible refine Kd.F_drew ?_) | exact FF8_0.out)) hw hp7_0 (by (have := SZ1.out; have := SZ2.out; have := SZ3.out; have := SZ4.out; have := SZ5.out; have := SZ6.out; have := SZ7.out; have := SZ8.out; have := SZ9.out; have := SZ10.out; have := SZ11.out; have := SZ12.out; have := SZ13.out; have := SZ14.out); have hbs_ := below_size HB.out; omega)); have n_FF10_0 := Aside0.mk (FI.wr (by repeat (first | (with_reducible exact FF10_0.out) | (with_reducible refine Kd.F_alloc ?_ _) | (with_reducible refine Kd.F_drewN ?_ _) | (with_reducible refine Kd.F_drew ?_) | exact FF10_0.out)) hw hp7_0 (by (have := SZ1.out; have := SZ2.out; have := SZ3.out; have := SZ4.out; have := SZ5.out; have := SZ6.out; have := SZ7.out; have := SZ8.out; have := SZ9.out; have := SZ10.out; have := SZ11.out; have := SZ12.out; have := SZ13.out; have := SZ14.out); have hbs_ := below_size HB.out; omega)); have n_FF12_0 := Aside0.mk (FI.wr (by repeat (first | (with_reducible exact FF12_0.out) | (with_reducible refine Kd.F_alloc ?_ _) | (with_reducible refine Kd.F_drewN ?_ _) | (with_reducible refine Kd.F_drew ?_) | exact FF12_0.out)) hw hp7_0 (by (have := SZ1.out; have := SZ2.out; have := SZ3.out; have := SZ4.out; have := SZ5.out; have := SZ6.out; have := SZ7.out; have := SZ8.out; have := SZ9.out; have := SZ10.out; have := SZ11.out; have := SZ12.out; have := SZ13.out; have := SZ14.out); have hbs_ := below_size HB.out; omega)); have n_RWG := Aside0.mk (row_wr (st_pair (st_eRow (st_row st_int)) st_int) RWG.out hw); have n_HB := Aside0.mk (below_wr (by repeat (first | (with_reducible first | exact HB.out | apply below_alloc | apply pw_below_drewN | apply below_drew1) | exact HB.out)) hw hp7_0 (by (have := SZ1.out; have := SZ2.out; have := SZ3.out; have := SZ4.out; have := SZ5.out; have := SZ6.out; have := SZ7.out; have := SZ8.out; have := SZ9.out; have := SZ10.out; have := SZ11.out; have := SZ12.out; have := SZ13.out; have := SZ14.out); have hbs_ := below_size HB.out; omega)); clear FF7_0 RR7_0 FF3_0 FF4_0 FF5_0 FF8_0 FF10_0 FF12_0 RWG HB; have FF3_0 := n_FF3_0; have FF4_0 := n_FF4_0; have FF5_0 := n_FF5_0; have FF8_0 := n_FF8_0; have FF10_0 := n_FF10_0; have FF12_0 := n_FF12_0; have RWG := n_RWG; have HB := n_HB; clear n_FF3_0 n_FF4_0 n_FF5_0 n_FF8_0 n_FF10_0 n_FF12_0 n_RWG n_HB; clear hw ha7_0) | ((with_reducible refine gate_callee (f := 11) rfl ?_); (try (refine gate_guard (by rfl) ?_; dsimp only)); refine goesL_ (some 75) rfl rfl Try.func11 (by kernel_rfl) rfl #[.slice A8_0 t6.1.length c8_0, .slice A5_0 t5.1.length c5_0] rfl (by (try simp only [List.map_toArray, List.map_cons, List.map_nil]); first | done | rfl) ?_; (with_reducible refine (laws_eqCountedS.calls k _ _ t6.1 _ _ t5.1 _ _ ?side1 ?side2 ?side3 ?side4 Ae.out).mono ?_); (case side1 => repeat (first | exact (FI.now FF8_0.out) | (with_reducible refine Kd.C_alloc ?_ _) | (with_reducible refine Kd.C_drewN ?_ _) | (with_reducible refine Kd.C_drew ?_))); (case side2 => exact CC8_0.out); (case side3 => repeat (first | exact (FI.now FF5_0.out) | (with_reducible refine Kd.C_alloc ?_ _) | (with_reducible refine Kd.C_drewN ?_ _) | (with_reducible refine Kd.C_drew ?_))); (case side4 => exact CC5_0.out); rintro e w116 ⟨rfl, hb⟩; refine ⟨_, rfl, ?_⟩; have SZ16 := Aside0.mk (show w115.heap.size ≤ w116.heap.size from hb.size); have n_FF3_0 := Aside0.mk (FI.below (by repeat (first | (with_reducible exact FF3_0.out) | (with_reducible refine Kd.F_alloc ?_ _) | (with_reducible refine Kd.F_drewN ?_ _) | (with_reducible refine Kd.F_drew ?_) | exact FF3_0.out)) hb); have n_FF4_0 := Aside0.mk (FI.below (by repeat (first | (with_reducible exact FF4_0.out) | (with_reducible refine Kd.F_alloc ?_ _) | (with_reducible refine Kd.F_drewN ?_ _) | (with_reducible refine Kd.F_drew ?_) | exact FF4_0.out)) hb); have n_FF5_0 := Aside0.mk (FI.below (by repeat (first | (with_reducible exact FF5_0.out) | (with_reducible refine Kd.F_alloc ?_ _) | (with_reducible refine Kd.F_drewN ?_ _) | (with_reducible refine Kd.F_drew ?_) | exact FF5_0.out)) hb); have n_FF8_0 := Aside0.mk (FI.below (by repeat (first | (with_reducible exact FF8_0.out) | (with_reducible refine Kd.F_alloc ?_ _) | (with_reducible refine Kd.F_drewN ?_ _) | (with_reducible refine Kd.F_drew ?_) | exact FF8_0.out)) hb); have n_FF10_0 := Aside0.mk (FI.below (by repeat (first | (with_reducible exact FF10_0.out) | (with_reducible refine Kd.F_alloc ?_ _) | (with_reducible refine Kd.F_drewN ?_ _) | (with_reducible refine Kd.F_drew ?_) | exact FF10_0.out)) hb); have n_FF12_0 := Aside0.mk (FI.below (by repeat (first | (with_reducible exact FF12_0.out) | (with_reducible refine Kd.F_alloc ?_ _) | (with_reducible refine Kd.F_drewN ?_ _) | (with_reducible refine Kd.F_drew ?_) | exact FF12_0.out)) hb); have n_RWG := Aside0.mk (row_below (st_pair (st_eRow (st_row st_int)) st_int) RWG.out hb); have n_HB := Aside0.mk (below_then (by repeat (first | (with_reducible first | exact HB.out | apply below_alloc | apply pw_below_drewN | apply below_drew1) | exact HB.out)) (below_size (by repeat (first | (with_reducible first | exact HB.out | apply below_alloc | apply pw_below_drewN | apply below_drew1) | exact HB.out))) hb); clear FF3_0 FF4_0 FF5_0 FF8_0 FF10_0 FF12_0 RWG HB; have FF3_0 := n_FF3_0; have FF4_0 := n_FF4_0; have FF5_0 := n_FF5_0; have FF8_0 := n_FF8_0; have FF10_0 := n_FF10_0; have FF12_0 := n_FF12_0; have RWG := n_RWG; have HB := n_HB; clear n_FF3_0 n_FF4_0 n_FF5_0 n_FF8_0 n_FF10_0 n_FF12_0 n_RWG n_HB; clear hb) | ((with_reducible refine gate_callee (f := 12) rfl ?_); (try (refine gate_guard (by rfl) ?_; dsimp only)); refine goesL_ (some 85) rfl rfl Try.func12 (by kernel_rfl) rfl #[.slice A8_0 t6.1.length c8_0, .int .i64 1] rfl (by (try simp only [List.map_toArray, List.map_cons, List.map_nil]); first | done | rfl) ?_; (with_reducible refine (LayI.markCountedS _ plG 1 _ RWG.out ?s0 ?s1).mono ?_); (case s0 => omega); (case s1 => (have h1_ := CB2.out; have h2_ := LNG.out; omega)); rintro e w117 ⟨rfl, hw⟩; refine ⟨_, rfl, ?_⟩; have SZ17 := Aside0.mk (show w116.heap.size ≤ w117.heap.size from hw.hd.size); have VG := Aside0.mk (show LayI.Vals w117 plG 1 from hw.val NDG.out); have n_FF3_0 := Aside0.mk (FI.wr (by repeat (first | (with_reducible exact FF3_0.out) | (with_reducible refine Kd.F_alloc ?_ _) | (with_reducible refine Kd.F_drewN ?_ _) | (with_reducible refine Kd.F_drew ?_) | exact FF3_0.out)) hw SPG.out (by (have := SZ1.out; have := SZ2.out; have := SZ3.out; have := SZ4.out; have := SZ5.out; have := SZ6.out; have := SZ7.out; have := SZ8.out; have := SZ9.out; have := SZ10.out; have := SZ11.out; have := SZ12.out; have := SZ13.out; have := SZ14.out; have := SZ15.out; have := SZ16.out); have hbs_ := below_size HB.out; omega)); have n_FF4_0 := Aside0.mk (FI.wr (by repeat (first | (with_reducible exact FF4_0.out) | (with_reducible refine Kd.F_alloc ?_ _) | (with_reducible refine Kd.F_drewN ?_ _) | (with_reducible refine Kd.F_drew ?_) | exact FF4_0.out)) hw SPG.out (by (have := SZ1.out; have := SZ2.out; have := SZ3.out; have := SZ4.out; have := SZ5.out; have := SZ6.out; have := SZ7.out; have := SZ8.out; have := SZ9.out; have := SZ10.out; have := SZ11.out; have := SZ12.out; have := SZ13.out; have := SZ14.out; have := SZ15.out; have := SZ16.out); have hbs_ := below_size HB.out; omega)); have n_FF5_0 := Aside0.mk (FI.wr (by repeat (first | (with_reducible exact FF5_0.out) | (with_reducible refine Kd.F_alloc ?_ _) | (with_reducible refine Kd.F_drewN ?_ _) | (with_reducible refine Kd.F_drew ?_) | exact FF5_0.out)) hw SPG.out (by (have := SZ1.out; have := SZ2.out; have := SZ3.out; have := SZ4.out; have := SZ5.out; have := SZ6.out; have := SZ7.out; have := SZ8.out; have := SZ9.out; have := SZ10.out; have := SZ11.out; have := SZ12.out; have := SZ13.out; have := SZ14.out; have := SZ15.out; have := SZ16.out); have hbs_ := below_size HB.out; omega)); have n_FF10_0 := Aside0.mk (FI.wr (by repeat (first | (with_reducible exact FF10_0.out) | (with_reducible refine Kd.F_alloc ?_ _) | (with_reducible refine Kd.F_drewN ?_ _) | (with_reducible refine Kd.F_drew ?_) | exact FF10_0.out)) hw SPG.out (by (have := SZ1.out; have := SZ2.out; have := SZ3.out; have := SZ4.out; have := SZ5.out; have := SZ6.out; have := SZ7.out; have := SZ8.out; have := SZ9.out; have := SZ10.out; have := SZ11.out; have := SZ12.out; have := SZ13.out; have := SZ14.out; have := SZ15.out; have := SZ16.out); have hbs_ := below_size HB.out; omega)); have n_FF12_0 := Aside0.mk (FI.wr (by repeat (first | (with_reducible exact FF12_0.out) | (with_reducible refine Kd.F_alloc ?_ _) | (with_reducible refine Kd.F_drewN ?_ _) | (with_reducible refine Kd.F_drew ?_) | exact FF12_0.out)) hw SPG.out (by (have := SZ1.out; have := SZ2.out; have := SZ3.out; have := SZ4.out; have := SZ5.out; have := SZ6.out; have := SZ7.out; have := SZ8.out; have := SZ9.out; have := SZ10.out; have := SZ11.out; have := SZ12.out; have := SZ13.out; have := SZ14.out; have := SZ15.out; have := SZ16.out); have hbs_ := below_size HB.out; omega)); have n_RWG := Aside0.mk (row_wr (st_pair (st_eRow (st_row st_int)) st_int) RWG.out hw); have n_HB := Aside0.mk (below_wr (by repeat (first | (with_reducible first | exact HB.out | apply below_alloc | apply pw_below_drewN | apply below_drew1) | exact HB.out)) hw SPG.out (by (have := SZ1.out; have := SZ2.out; have := SZ3.out; have := SZ4.out; have := SZ5.out; have := SZ6.out; have := SZ7.out; have := SZ8.out; have := SZ9.out; have := SZ10.out; have := SZ11.out; have := SZ12.out; have := SZ13.out; have := SZ14.out; have := SZ15.out; have := SZ16.out); have hbs_ := below_size HB.out; omega)); clear FF8_0 FF3_0 FF4_0 FF5_0 FF10_0 FF12_0 RWG HB; have FF3_0 := n_FF3_0; have FF4_0 := n_FF4_0; have FF5_0 := n_FF5_0; have FF10_0 := n_FF10_0; have FF12_0 := n_FF12_0; have RWG := n_RWG; have HB := n_HB; clear n_FF3_0 n_FF4_0 n_FF5_0 n_FF10_0 n_FF12_0 n_RWG n_HB; clear hw) | ((with_reducible refine gate_callee (f := 13) rfl ?_); (try (refine gate_guard (by rfl) ?_; dsimp only)); refine goesL_ (some 88) rfl rfl Try.func13 (by kernel_rfl) rfl #[.slice A8_0 t6.1.length c8_0, .int .i64 1] rfl (by (try simp only [List.map_toArray, List.map_cons, List.map_nil]); first | done | rfl) ?_; (with_reducible refine (LayI.heldCountedS _ plG 1 _ ?r0 ?r1 ?s0 ?s1).mono ?_); (case r0 => first | (with_reducible exact RWG.out) | exact RWG.out | exact row_below (st_pair (st_eRow (st_row st_int)) st_int) RWG.out (pw_below_drewN (Below.refl _ _) _)); (case r1 => first | (with_reducible exact VG.out) | exact VG.out | exact LayI.Vals.move VG.out (pw_below_drewN (Below.refl _ _) _)); (case s0 => omega); (case s1 => (have h1_ := CB2.out; have h2_ := LNG.out; omega)); rintro e w118 ⟨rfl, hb⟩; refine ⟨_, rfl, ?_⟩; have SZ18 := Aside0.mk (show w117.heap.size ≤ w118.heap.size from hb.size); have n_FF3_0 := Aside0.mk (FI.below (by repeat (first | (with_reducible exact FF3_0.out) | (with_reducible refine Kd.F_alloc ?_ _) | (with_reducible refine Kd.F_drewN ?_ _) | (with_reducible refine Kd.F_drew ?_) | exact FF3_0.out)) hb); have n_FF4_0 := Aside0.mk (FI.below (by repeat (first | (with_reducible exact FF4_0.out) | (with_reducible refine Kd.F_alloc ?_ _) | (with_reducible refine Kd.F_drewN ?_ _) | (with_reducible refine Kd.F_drew ?_) | exact FF4_0.out)) hb); have n_FF5_0 := Aside0.mk (FI.below (by repeat (first | (with_reducible exact FF5_0.out) | (with_reducible refine Kd.F_alloc ?_ _) | (with_reducible refine Kd.F_drewN ?_ _) | (with_reducible refine Kd.F_drew ?_) | exact FF5_0.out)) hb); have n_FF10_0 := Aside0.mk (FI.below (by repeat (first | (with_reducible exact FF10_0.out) | (with_reducible refine Kd.F_alloc ?_ _) | (with_reducible refine Kd.F_drewN ?_ _) | (with_reducible refine Kd.F_drew ?_) | exact FF10_0.out)) hb); have n_FF12_0 := Aside0.mk (FI.below (by repeat (first | (with_reducible exact FF12_0.out) | (with_reducible refine Kd.F_alloc ?_ _) | (with_reducible refine Kd.F_drewN ?_ _) | (with_reducible refine Kd.F_drew ?_) | exact FF12_0.out)) hb); have n_RWG := Aside0.mk (row_below (st_pair (st_eRow (st_row st_int)) st_int) RWG.out hb); have n_VG := Aside0.mk (LayI.Vals.move VG.out hb); have n_HB := Aside0.mk (below_then (by repeat (first | (with_reducible first | exact HB.out | apply below_alloc | apply pw_below_drewN | apply below_drew1) | exact HB.out)) (below_size (by repeat (first | (with_reducible first | exact HB.out | apply below_alloc | apply pw_below_drewN | apply below_drew1) | exact HB.out))) hb); clear FF3_0 FF4_0 FF5_0 FF10_0 FF12_0 RWG VG HB; have FF3_0 := n_FF3_0; have FF4_0 := n_FF4_0; have FF5_0 := n_FF5_0; have FF10_0 := n_FF10_0; have FF12_0 := n_FF12_0; have RWG := n_RWG; have VG := n_VG; have HB := n_HB; clear n_FF3_0 n_FF4_0 n_FF5_0 n_FF10_0 n_FF12_0 n_RWG n_VG n_HB; clear hb) | ((with_reducible refine gate_callee (f := 9) rfl ?_); (try (refine gate_guard (by rfl) ?_; dsimp only)); refine goesL_ (some 96) rfl rfl Try.func9 (by kernel_rfl) rfl #[.slice A0 l0.length c0] rfl (by (try simp only [List.map_toArray, List.map_cons, List.map_nil]); first | done | rfl) ?_; (with_reducible refine (laws_toCountedS.calls k _ _ l0 _ _ ?side1 ?side2 AtaA.out).mono ?_); (case side1 => repeat (first | exact (Kd.C_below HR0.out HB.out) | (with_reducible refine Kd.C_alloc ?_ _) | (with_reducible refine Kd.C_drewN ?_ _) | (with_reducible refine Kd.C_drew ?_))); (case side2 => exact HC0.out); rintro e w119 ⟨v19_0, rfl, hm0, hb⟩; refine ⟨_, rfl, ?_⟩; have hb0 := Aside0.mk hb; have SZ19 := Aside0.mk (show w118.heap.size ≤ w119.heap.size from hb.size); have n_FF3_0 := Aside0.mk (FI.below (by repeat (first | (with_reducible exact FF3_0.out) | (with_reducible refine Kd.F_alloc ?_ _) | (with_reducible refine Kd.F_drewN ?_ _) | (with_reducible refine Kd.F_drew ?_) | exact FF3_0.out)) hb); have n_FF4_0 := Aside0.mk (FI.below (by repeat (first | (with_reducible exact FF4_0.out) | (with_reducible refine Kd.F_alloc ?_ _) | (with_reducible refine Kd.F_drewN ?_ _) | (with_reducible refine Kd.F_drew ?_) | exact FF4_0.out)) hb); have n_FF5_0 := Aside0.mk (FI.below (by repeat (first | (with_reducible exact FF5_0.out) | (with_reducible refine Kd.F_alloc ?_ _) | (with_reducible refine Kd.F_drewN ?_ _) | (with_reducible refine Kd.F_drew ?_) | exact FF5_0.out)) hb); have n_FF10_0 := Aside0.mk (FI.below (by repeat (first | (with_reducible exact FF10_0.out) | (with_reducible refine Kd.F_alloc ?_ _) | (with_reducible refine Kd.F_drewN ?_ _) | (with_reducible refine Kd.F_drew ?_) | exact FF10_0.out)) hb); have n_FF12_0 := Aside0.mk (FI.below (by repeat (first | (with_reducible exact FF12_0.out) | (with_reducible refine Kd.F_alloc ?_ _) | (with_reducible refine Kd.F_drewN ?_ _) | (with_reducible refine Kd.F_drew ?_) | exact FF12_0.out)) hb); have n_RWG := Aside0.mk (row_below (st_pair (st_eRow (st_row st_int)) st_int) RWG.out hb); have n_VG := Aside0.mk (LayI.Vals.move VG.out hb); have n_HB := Aside0.mk (below_then (by repeat (first | (with_reducible first | exact HB.out | apply below_alloc | apply pw_below_drewN | apply below_drew1) | exact HB.out)) (below_size (by repeat (first | (with_reducible first | exact HB.out | apply below_alloc | apply pw_below_drewN | apply below_drew1) | exact HB.out))) hb); clear FF3_0 FF4_0 FF5_0 FF10_0 FF12_0 RWG VG HB; have FF3_0 := n_FF3_0; have FF4_0 := n_FF4_0; have FF5_0 := n_FF5_0; have FF10_0 := n_FF10_0; have FF12_0 := n_FF12_0; have RWG := n_RWG; have VG := n_VG; have HB := n_HB; clear n_FF3_0 n_FF4_0 n_FF5_0 n_FF10_0 n_FF12_0 n_RWG n_VG n_HB; have hm0_ := Kd.S_R hm0; clear hm0; have hm0 := hm0_; clear hm0_; obtain ⟨A19_0, c19_0, rfl, hl19_0, hx19_0, hf19_0⟩ := open_R hm0; have FF19_0 := Aside0.mk hf19_0; have CC19_0 := Aside0.mk hl19_0; clear hf19_0 hl19_0 hx19_0 hm0; clear hb hb0) | ((with_reducible refine gate_callee (f := 9) rfl ?_); (try (refine gate_guard (by rfl) ?_; dsimp only)); refine goesL_ (some 98) rfl rfl Try.func9 (by kernel_rfl) rfl #[.slice A1 l1.length c1] rfl (by (try simp only [List.map_toArray, List.map_cons, List.map_nil]); first | done | rfl) ?_; (with_reducible refine (laws_toCountedS.calls k _ _ l1 _ _ ?side1 ?side2 AtaB.out).mono ?_); (case side1 => repeat (first | exact (Kd.C_below HR1.out HB.out) | (with_reducible refine Kd.C_alloc ?_ _) | (with_reducible refine Kd.C_drewN ?_ _) | (with_reducible refine Kd.C_drew ?_))); (case side2 => exact HC1.out); rintro e w120 ⟨v20_0, rfl, hm0, hb⟩; refine ⟨_, rfl, ?_⟩; have hb0 := Aside0.mk hb; have SZ20 := Aside0.mk (show w119.heap.size ≤ w120.heap.size from hb.size); have n_FF3_0 := Aside0.mk (FI.below (by repeat (first | (with_reducible exact FF3_0.out) | (with_reducible refine Kd.F_alloc ?_ _) | (with_reducible refine Kd.F_drewN ?_ _) | (with_reducible refine Kd.F_drew ?_) | exact FF3_0.out)) hb); have n_FF4_0 := Aside0.mk (FI.below (by repeat (first | (with_reducible exact FF4_0.out) | (with_reducible refine Kd.F_alloc ?_ _) | (with_reducible refine Kd.F_drewN ?_ _) | (with_reducible refine Kd.F_drew ?_) | exact FF4_0.out)) hb); have n_FF5_0 := Aside0.mk (FI.below (by repeat (first | (with_reducible exact FF5_0.out) | (with_reducible refine Kd.F_alloc ?_ _) | (with_reducible refine Kd.F_drewN ?_ _) | (with_reducible refine Kd.F_drew ?_) | exact FF5_0.out)) hb); have n_FF10_0 := Aside0.mk (FI.below (by repeat (first | (with_reducible exact FF10_0.out) | (with_reducible refine Kd.F_alloc ?_ _) | (with_reducible refine Kd.F_drewN ?_ _) | (with_reducible refine Kd.F_drew ?_) | exact FF10_0.out)) hb); have n_FF12_0 := Aside0.mk (FI.below (by repeat (first | (with_reducible exact FF12_0.out) | (with_reducible refine Kd.F_alloc ?_ _) | (with_reducible refine Kd.F_drewN ?_ _) | (with_reducible refine Kd.F_drew ?_) | exact FF12_0.out)) hb); have n_FF19_0 := Aside0.mk (FI.below (by repeat (first | (with_reducible exact FF19_0.out) | (with_reducible refine Kd.F_alloc ?_ _) | (with_reducible refine Kd.F_drewN ?_ _) | (with_reducible refine Kd.F_drew ?_) | exact FF19_0.out)) hb); have n_RWG := Aside0.mk (row_below (st_pair (st_eRow (st_row st_int)) st_int) RWG.out hb); have n_VG := Aside0.mk (LayI.Vals.move VG.out hb); have n_HB := Aside0.mk (below_then (by repeat (first | (with_reducible first | exact HB.out | apply below_alloc | apply pw_below_drewN | apply below_drew1) | exact HB.out)) (below_size (by repeat (first | (with_reducible first | exact HB.out | apply below_alloc | apply pw_below_drewN | apply below_drew1) | exact HB.out))) hb); clear FF3_0 FF4_0 FF5_0 FF10_0 FF12_0 FF19_0 RWG VG HB; have FF3_0 := n_FF3_0; have FF4_0 := n_FF4_0; have FF5_0 := n_FF5_0; have FF10_0 := n_FF10_0; have FF12_0 := n_FF12_0; have FF19_0 := n_FF19_0; have RWG := n_RWG; have VG := n_VG; have HB := n_HB; clear n_FF3_0 n_FF4_0 n_FF5_0 n_FF10_0 n_FF12_0 n_FF19_0 n_RWG n_VG n_HB; have hm0_ := Kd.S_R hm0; clear hm0; have hm0 := hm0_; clear hm0_; obtain ⟨A20_0, c20_0, rfl, hl20_0, hx20_0, hf20_0⟩ := open_R hm0; have FF20_0 := Aside0.mk hf20_0; have CC20_0 := Aside0.mk hl20_0; clear hf20_0 hl20_0 hx20_0 hm0; clear hb hb0) | ((with_reducible refine gate_callee (f := 10) rfl ?_); (try (refine gate_guard (by rfl) ?_; dsimp only)); refine goesL_ (some 99) rfl rfl Try.func10 (by kernel_rfl) rfl #[.slice A19_0 t3.length c19_0, .slice A20_0 t4.length c20_0] rfl (by (try simp only [List.map_toArray, List.map_cons, List.map_nil]); first | done | rfl) ?_; (with_reducible refine (impl_SubtractCounts.calls k _ _ t3 _ _ t4 _ _ _ ?side1 ?side2 ?side3 ?side4 Ag.out).mono ?_); (case side1 => repeat (first | exact (FI.now FF19_0.out) | (with_reducible refine Kd.C_alloc ?_ _) | (with_reducible refine Kd.C_drewN ?_ _) | (with_reducible refine Kd.C_drew ?_))); (case side2 => exact CC19_0.out); (case side3 => repeat (first | exact (FI.now FF20_0.out) | (with_reducible refine Kd.C_alloc ?_ _) | (with_reducible refine Kd.C_drewN ?_ _) | (with_reducible refine Kd.C_drew ?_))); (case side4 => exact CC20_0.out); rintro e w121 ⟨v21_0, rfl, hm0, hb⟩; refine ⟨_, rfl, ?_⟩; have hb0 := Aside0.mk hb; have SZ21 := Aside0.mk (show w120.heap.size ≤ w121.heap.size from hb.size); have n_FF3_0 := Aside0.mk (FI.below (by repeat (first | (with_reducible exact FF3_0.out) | (with_reducible refine Kd.F_alloc ?_ _) | (with_reducible refine Kd.F_drewN ?_ _) | (with_reducible refine Kd.F_drew ?_) | exact FF3_0.out)) hb); have n_FF4_0 := Aside0.mk (FI.below (by repeat (first | (with_reducible exact FF4_0.out) | (with_reducible refine Kd.F_alloc ?_ _) | (with_reducible refine Kd.F_drewN ?_ _) | (with_reducible refine Kd.F_drew ?_) | exact FF4_0.out)) hb); have n_FF5_0 := Aside0.mk (FI.below (by repeat (first | (with_reducible exact FF5_0.out) | (with_reducible refine Kd.F_alloc ?_ _) | (with_reducible refine Kd.F_drewN ?_ _) | (with_reducible refine Kd.F_drew ?_) | exact FF5_0.out)) hb); have n_FF10_0 := Aside0.mk (FI.below (by repeat (first | (with_reducible exact FF10_0.out) | (with_reducible refine Kd.F_alloc ?_ _) | (with_reducible refine Kd.F_drewN ?_ _) | (with_reducible refine Kd.F_drew ?_) | exact FF10_0.out)) hb); have n_FF12_0 := Aside0.mk (FI.below (by repeat (first | (with_reducible exact FF12_0.out) | (with_reducible refine Kd.F_alloc ?_ _) | (with_reducible refine Kd.F_drewN ?_ _) | (with_reducible refine Kd.F_drew ?_) | exact FF12_0.out)) hb); have n_FF19_0 := Aside0.mk (FI.below (by repeat (first | (with_reducible exact FF19_0.out) | (with_reducible refine Kd.F_alloc ?_ _) | (with_reducible refine Kd.F_drewN ?_ _) | (with_reducible refine Kd.F_drew ?_) | exact FF19_0.out)) hb); have n_FF20_0 := Aside0.mk (FI.below (by repeat (first | (with_reducible exact FF20_0.out) | (with_reducible refine Kd.F_alloc ?_ _) | (with_reducible refine Kd.F_drewN ?_ _) | (with_reducible refine Kd.F_drew ?_) | exact FF20_0.out)) hb); have n_RWG := Aside0.mk (row_below (st_pair (st_eRow (st_row st_int)) st_int) RWG.out hb); have n_VG := Aside0.mk (LayI.Vals.move VG.out hb); have n_HB := Aside0.mk (below_then (by repeat (first | (with_reducible first | exact HB.out | apply below_alloc | apply pw_below_drewN | apply below_drew1) | exact HB.out)) (below_size (by repeat (first | (with_reducible first | exact HB.out | apply below_alloc | apply pw_below_drewN | apply below_drew1) | exact HB.out))) hb); clear FF3_0 FF4_0 FF5_0 FF10_0 FF12_0 FF19_0 FF20_0 RWG VG HB; have FF3_0 := n_FF3_0; have FF4_0 := n_FF4_0; have FF5_0 := n_FF5_0; have FF10_0 := n_FF10_0; have FF12_0 := n_FF12_0; have FF19_0 := n_FF19_0; have FF20_0 := n_FF20_0; have RWG := n_RWG; have VG := n_VG; have HB := n_HB; clear n_FF3_0 n_FF4_0 n_FF5_0 n_FF10_0 n_FF12_0 n_FF19_0 n_FF20_0 n_RWG n_VG n_HB; have hm0_ := Kd.S_R hm0; clear hm0; have hm0 := hm0_; clear hm0_; obtain ⟨A21_0, c21_0, rfl, hl21_0, hx21_0, hf21_0⟩ := open_R hm0; have FF21_0 := Aside0.mk hf21_0; have CC21_0 := Aside0.mk hl21_0; clear hf21_0 hl21_0 hx21_0 hm0; clear hb hb0) | ((with_reducible refine gate_callee (f := 11) rfl ?_); (try (refine gate_guard (by rfl) ?_; dsimp only)); refine goesL_ (some 104) rfl rfl Try.func11 (by kernel_rfl) rfl #[.slice A21_0 t6.1.length c21_0, .slice A5_0 t5.1.length c5_0] rfl (by (try simp only [List.map_toArray, List.map_cons, List.map_nil]); first | done | rfl) ?_; (with_reducible refine (laws_eqCountedS.calls k _ _ t6.1 _ _ t5.1 _ _ ?side1 ?side2 ?side3 ?side4 Ae.out).mono ?_); (case side1 => repeat (first | exact (FI.now FF21_0.out) | (with_reducible refine Kd.C_alloc ?_ _) | (with_reducible refine Kd.C_drewN ?_ _) | (with_reducible refine Kd.C_drew ?_))); (case side2 => exact CC21_0.out); (case side3 => repeat (first | exact (FI.now FF5_0.out) | (with_reducible refine Kd.C_alloc ?_ _) | (with_reducible refine Kd.C_drewN ?_ _) | (with_reducible refine Kd.C_drew ?_))); (case side4 => exact CC5_0.out); rintro e w122 ⟨rfl, hb⟩; refine ⟨_, rfl, ?_⟩; have SZ22 := Aside0.mk (show w121.heap.size ≤ w122.heap.size from hb.size); have n_FF3_0 := Aside0.mk (FI.below (by repeat (first | (with_reducible exact FF3_0.out) | (with_reducible refine Kd.F_alloc ?_ _) | (with_reducible refine Kd.F_drewN ?_ _) | (with_reducible refine Kd.F_drew ?_) | exact FF3_0.out)) hb); have n_FF4_0 := Aside0.mk (FI.below (by repeat (first | (with_reducible exact FF4_0.out) | (with_reducible refine Kd.F_alloc ?_ _) | (with_reducible refine Kd.F_drewN ?_ _) | (with_reducible refine Kd.F_drew ?_) | exact FF4_0.out)) hb); have n_FF5_0 := Aside0.mk (FI.below (by repeat (first | (with_reducible exact FF5_0.out) | (with_reducible refine Kd.F_alloc ?_ _) | (with_reducible refine Kd.F_drewN ?_ _) | (with_reducible refine Kd.F_drew ?_) | exact FF5_0.out)) hb); have n_FF10_0 := Aside0.mk (FI.below (by repeat (first | (with_reducible exact FF10_0.out) | (with_reducible refine Kd.F_alloc ?_ _) | (with_reducible refine Kd.F_drewN ?_ _) | (with_reducible refine Kd.F_drew ?_) | exact FF10_0.out)) hb); have n_FF12_0 := Aside0.mk (FI.below (by repeat (first | (with_reducible exact FF12_0.out) | (with_reducible refine Kd.F_alloc ?_ _) | (with_reducible refine Kd.F_drewN ?_ _) | (with_reducible refine Kd.F_drew ?_) | exact FF12_0.out)) hb); have n_FF19_0 := Aside0.mk (FI.below (by repeat (first | (with_reducible exact FF19_0.out) | (with_reducible refine Kd.F_alloc ?_ _) | (with_reducible refine Kd.F_drewN ?_ _) | (with_reducible refine Kd.F_drew ?_) | exact FF19_0.out)) hb); have n_FF20_0 := Aside0.mk (FI.below (by repeat (first | (with_reducible exact FF20_0.out) | (with_reducible refine Kd.F_alloc ?_ _) | (with_reducible refine Kd.F_drewN ?_ _) | (with_reducible refine Kd.F_drew ?_) | exact FF20_0.out)) hb); have n_FF21_0 := Aside0.mk (FI.below (by repeat (first | (with_reducible exact FF21_0.out) | (with_reducible refine Kd.F_alloc ?_ _) | (with_reducible refine Kd.F_drewN ?_ _) | (with_reducible refine Kd.F_drew ?_) | exact FF21_0.out)) hb); have n_RWG := Aside0.mk (row_below (st_pair (st_eRow (st_row st_int)) st_int) RWG.out hb); have n_VG := Aside0.mk (LayI.Vals.move VG.out hb); have n_HB := Aside0.mk (below_then (by repeat (first | (with_reducible first | exact HB.out | apply below_alloc | apply pw_below_drewN | apply below_drew1) | exact HB.out)) (below_size (by repeat (first | (with_reducible first | exact HB.out | apply below_alloc | apply pw_below_drewN | apply below_drew1) | exact HB.out))) hb); clear FF3_0 FF4_0 FF5_0 FF10_0 FF12_0 FF19_0 FF20_0 FF21_0 RWG VG HB; have FF3_0 := n_FF3_0; have FF4_0 := n_FF4_0; have FF5_0 := n_FF5_0; have FF10_0 := n_FF10_0; have FF12_0 := n_FF12_0; have FF19_0 := n_FF19_0; have FF20_0 := n_FF20_0; have FF21_0 := n_FF21_0; have RWG := n_RWG; have VG := n_VG; have HB := n_HB; clear n_FF3_0 n_FF4_0 n_FF5_0 n_FF10_0 n_FF12_0 n_FF19_0 n_FF20_0 n_FF21_0 n_RWG n_VG n_HB; clear hb) | ((with_reducible refine gate_callee (f := 13) rfl ?_); (try (refine gate_guard (by rfl) ?_; dsimp only)); refine goesL_ (some 113) rfl rfl Try.func13 (by kernel_rfl) rfl #[.slice A8_0 t6.1.length c8_0, .int .i64 1] rfl (by (try simp only [List.map_toArray, List.map_cons, List.map_nil]); first | done | rfl) ?_; (with_reducible refine (LayI.heldCountedS _ plG 1 _ ?r0 ?r1 ?s0 ?s1).mono ?_); (case r0 => first | (with_reducible exact RWG.out) | exact RWG.out | exact row_below (st_pair (st_eRow (st_row st_int)) st_int) RWG.out (pw_below_drewN (Below.refl _ _) _)); (case r1 => first | (with_reducible exact VG.out) | exact VG.out | exact LayI.Vals.move VG.out (pw_below_drewN (Below.refl _ _) _)); (case s0 => omega); (case s1 => (have h1_ := CB2.out; have h2_ := LNG.out; omega)); rintro e w123 ⟨rfl, hb⟩; refine ⟨_, rfl, ?_⟩; have SZ23 := Aside0.mk (show w122.heap.size ≤ w123.heap.size from hb.size); have n_FF3_0 := Aside0.mk (FI.below (by repeat (first | (with_reducible exact FF3_0.out) | (with_reducible refine Kd.F_alloc ?_ _) | (with_reducible refine Kd.F_drewN ?_ _) | (with_reducible refine Kd.F_drew ?_) | exact FF3_0.out)) hb); have n_FF4_0 := Aside0.mk (FI.below (by repeat (first | (with_reducible exact FF4_0.out) | (with_reducible refine Kd.F_alloc ?_ _) | (with_reducible refine Kd.F_drewN ?_ _) | (with_reducible refine Kd.F_drew ?_) | exact FF4_0.out)) hb); have n_FF5_0 := Aside0.mk (FI.below (by repeat (first | (with_reducible exact FF5_0.out) | (with_reducible refine Kd.F_alloc ?_ _) | (with_reducible refine Kd.F_drewN ?_ _) | (with_reducible refine Kd.F_drew ?_) | exact FF5_0.out)) hb); have n_FF10_0 := Aside0.mk (FI.below (by repeat (first | (with_reducible exact FF10_0.out) | (with_reducible refine Kd.F_alloc ?_ _) | (with_reducible refine Kd.F_drewN ?_ _) | (with_reducible refine Kd.F_drew ?_) | exact FF10_0.out)) hb); have n_FF12_0 := Aside0.mk (FI.below (by repeat (first | (with_reducible exact FF12_0.out) | (with_reducible refine Kd.F_alloc ?_ _) | (with_reducible refine Kd.F_drewN ?_ _) | (with_reducible refine Kd.F_drew ?_) | exact FF12_0.out)) hb); have n_FF19_0 := Aside0.mk (FI.below (by repeat (first | (with_reducible exact FF19_0.out) | (with_reducible refine Kd.F_alloc ?_ _) | (with_reducible refine Kd.F_drewN ?_ _) | (with_reducible refine Kd.F_drew ?_) | exact FF19_0.out)) hb); have n_FF20_0 := Aside0.mk (FI.below (by repeat (first | (with_reducible exact FF20_0.out) | (with_reducible refine Kd.F_alloc ?_ _) | (with_reducible refine Kd.F_drewN ?_ _) | (with_reducible refine Kd.F_drew ?_) | exact FF20_0.out)) hb); have n_FF21_0 := Aside0.mk (FI.below (by repeat (first | (with_reducible exact FF21_0.out) | (with_reducible refine Kd.F_alloc ?_ _) | (with_reducible refine Kd.F_drewN ?_ _) | (with_reducible refine Kd.F_drew ?_) | exact FF21_0.out)) hb); have n_RWG := Aside0.mk (row_below (st_pair (st_eRow (st_row st_int)) st_int) RWG.out hb); have n_VG := Aside0.mk (LayI.Vals.move VG.out hb); have n_HB := Aside0.mk (below_then (by repeat (first | (with_reducible first | exact HB.out | apply below_alloc | apply pw_below_drewN | apply below_drew1) | exact HB.out)) (below_size (by repeat (first | (with_reducible first | exact HB.out | apply below_alloc | apply pw_below_drewN | apply below_drew1) | exact HB.out))) hb); clear FF3_0 FF4_0 FF5_0 FF10_0 FF12_0 FF19_0 FF20_0 FF21_0 RWG VG HB; have FF3_0 := n_FF3_0; have FF4_0 := n_FF4_0; have FF5_0 := n_FF5_0; have FF10_0 := n_FF10_0; have FF12_0 := n_FF12_0; have FF19_0 := n_FF19_0; have FF20_0 := n_FF20_0; have FF21_0 := n_FF21_0; have RWG := n_RWG; have VG := n_VG; have HB := n_HB; clear n_FF3_0 n_FF4_0 n_FF5_0 n_FF10_0 n_FF12_0 n_FF19_0 n_FF20_0 n_FF21_0 n_RWG n_VG n_HB; clear hb))
  go_ret
  exact ⟨rfl, (by repeat (first | (with_reducible first | exact HB.out | apply below_alloc | apply pw_below_drewN | apply below_drew1) | exact HB.out))⟩
end Go.Proofs.Ytjglknoebaojgaa.G

namespace Go.Proofs.Ytjglknoebaojgaa.PB
open Go.RowKit Go.Proofs.YtjglknoebaojgaaW.PrintWords
set_option linter.unusedVariables false

theorem Ev.pos {α : Type} {c : Prop} [Decidable c] {f g : Nat → Option α} {r : α} (h : c) (k : Ev f r) : Ev (fun n => if c then f n else g n) r :=
  Ev.congr (fun n => if_pos h) k
theorem Ev.neg {α : Type} {c : Prop} [Decidable c] {f g : Nat → Option α} {r : α} (h : ¬ c) (k : Ev g r) : Ev (fun n => if c then f n else g n) r :=
  Ev.congr (fun n => if_neg h) k
theorem Ev.const {α : Type} {x : Option α} {r : α} (h : x = some r) : Ev (fun _ => x) r := ⟨0, fun _ _ => h⟩
/-- A callee without rounds. -/
theorem Ev.bindc {α β : Type} {g : Option α} {f : Nat → α → Option β} {a : α} {r : β} (h : g = some a) (k : Ev (fun n => f n a) r) : Ev (fun n => g.bind (f n)) r := by
  subst h; exact k
theorem Ev.eq {α : Type} {g f : Nat → Option α} {r q : α} (h : Ev g r) (hg : g = f) (hr : r = q) : Ev f q := by subst hg; subst hr; exact h

theorem inc {i : Nat} (h : i < 4611686018427387904) : wrap64 ((i : Int) + 1) = ((i + 1 : Nat) : Int) := by
  unfold wrap64; omega
theorem w64 {n : Int} (h : -9223372036854775808 ≤ n) (h' : n ≤ 9223372036854775807) : wrap64 n = n := by
  unfold wrap64; omega
theorem rd_nat (xs : List Int) (i : Nat) (h : i < xs.length) : rd xs (i : Int) = xs[i] := by
  unfold rd; simp [List.getD_eq_getElem?_getD, h]
theorem getD_nat {α : Type} (d : α) (xs : List α) (i : Nat) (h : i < xs.length) : xs.getD (i : Int).toNat d = xs[i] := by
  simp [List.getD_eq_getElem?_getD, h]
theorem drop_cons {α : Type} {xs : List α} {i : Nat} (h : i < xs.length) : xs.drop i = xs[i] :: xs.drop (i + 1) := by
  exact List.drop_eq_getElem_cons h
theorem take_snoc {α : Type} {xs : List α} {i : Nat} (h : i < xs.length) : xs.take (i + 1) = xs.take i ++ [xs[i]] := by
  exact List.take_succ_eq_append_getElem h
theorem fill_set' {α : Type} (ys : List α) (i d : Nat) (z v : α) (h : ys.length = i) : (ys ++ List.replicate (d + 1) z).set i v = ys ++ [v] ++ List.replicate d z := by
  rw [List.set_append, if_neg (by omega), h, Nat.sub_self]
  simp [List.replicate_succ]
def tsum {α : Type} (f : α → Nat) : List α → Nat
  | [] => 0
  | x :: r => f x + tsum f r
theorem tsum_cons {α : Type} (f : α → Nat) (x : α) (r : List α) : tsum f (x :: r) = f x + tsum f r := rfl
theorem tsum_mem {α : Type} (f : α → Nat) {l : List α} {x : α} (h : x ∈ l) : f x ≤ tsum f l := by
  induction l with
  | nil => simp at h
  | cons y r ih =>
    rcases List.mem_cons.1 h with rfl | h
    · simp [tsum]
    · have := ih h; simp [tsum]; omega
end Go.Proofs.Ytjglknoebaojgaa.PB

namespace Go.Proofs.Ytjglknoebaojgaa.PLess
open Go.RowKit Go.Proofs.Ytjglknoebaojgaa.G Go.Proofs.YtjglknoebaojgaaW.PrintWords Go.Proofs.YtjglknoebaojgaaW.PrintLast Go.Proofs.Ytjglknoebaojgaa.PB
set_option linter.unusedVariables false
/-- -1, 0 or 1: by the first number that differs; a list comes before longer ones that begin with it. -/
def cmpL : List Int → List Int → Int
  | [], [] => 0
  | [], _ :: _ => -1
  | _ :: _, [] => 1
  | x :: a, y :: b => if x < y then -1 else if x > y then 1 else cmpL a b
theorem cmp_ev (x y : Int) : cmp_Compare_int.f x y = some (if x < y then -1 else if x > y then 1 else 0) := by
  unfold cmp_Compare_int.f cmp_isNaN_int.f
  simp only [Option.bind_some, bne_self_eq_false, Bool.false_eq_true, if_false]
  split
  · rfl
  · split <;> rfl
theorem compare_ev (a b : List Int) (ha : a.length ≤ 1048576) (hb : b.length ≤ 1048576) : Ev (fun k => slices_Compare_int_int.f k a b) (cmpL a b) := by
  have loop : ∀ (d i : Nat), i + d = a.length → i ≤ b.length → Ev (fun k => slices_Compare_int_int.l0 k a b a (a.length : Int) (i : Int)) (cmpL (a.drop i) (b.drop i)) := by
    intro d
    induction d with
    | zero =>
      intro i hi hj
      obtain rfl : i = a.length := by omega
      refine Ev.step (fun k => by rw [slices_Compare_int_int.l0]) (Ev.neg (by omega) ?_)
      rw [List.drop_length]
      by_cases h : a.length < b.length
      · refine Ev.pos (by omega) (Ev.const ?_)
        rw [drop_cons h]; rfl
      · refine Ev.neg (by omega) (Ev.const ?_)
        rw [List.drop_of_length_le (show b.length ≤ a.length by omega)]; rfl
    | succ d ih =>
      intro i hi hj
      have hlt : i < a.length := by omega
      refine Ev.step (fun k => by rw [slices_Compare_int_int.l0]) (Ev.pos (by omega) (Ev.pos (by omega) (Ev.pos (by omega) ?_)))
      by_cases h : i < b.length
      · refine Ev.neg (by omega) (Ev.pos (by omega) ?_)
        rw [rd_nat _ _ hlt, rd_nat _ _ h, inc (by omega), drop_cons hlt, drop_cons h, cmpL]
        refine Ev.bindc (cmp_ev _ _) ?_
        by_cases h1 : a[i] < b[i]
        · simp only [if_pos h1]; exact Ev.neg (by omega) (Ev.const rfl)
        · by_cases h2 : a[i] > b[i]
          · simp only [if_neg h1, if_pos h2]; exact Ev.neg (by omega) (Ev.const rfl)
          · simp only [if_neg h1, if_neg h2]; exact Ev.pos trivial (ih (i + 1) (by omega) (by omega))
      · refine Ev.pos (by omega) (Ev.const ?_)
        rw [drop_cons hlt, List.drop_of_length_le (show b.length ≤ i by omega)]; rfl
  exact Ev.eq (loop a.length 0 (by omega) (by omega)) (by funext k; rw [slices_Compare_int_int.f]; rfl) (by simp)
theorem less_ev (a b : List Int) (ha : a.length ≤ 1048576) (hb : b.length ≤ 1048576) : Ev (fun k => spec_l2Less.f k a b) (decide (cmpL a b < 0)) := by
  have loop : ∀ (d i : Nat), i + d = a.length → i ≤ b.length → Ev (fun k => spec_l2Less.l0 k a b (i : Int)) (decide (cmpL (a.drop i) (b.drop i) < 0)) := by
    intro d
    induction d with
    | zero =>
      intro i hi hj
      obtain rfl : i = a.length := by omega
      refine Ev.step (fun k => by rw [spec_l2Less.l0]) (Ev.neg (by omega) (Ev.step (fun k => by rw [spec_l2Less.j1]) (Ev.neg (by simp) (Ev.const ?_))))
      rw [List.drop_length]
      by_cases h : a.length < b.length
      · rw [drop_cons h, decide_eq_true (by omega)]; rfl
      · rw [List.drop_of_length_le (show b.length ≤ a.length by omega), decide_eq_false (by omega)]; rfl
    | succ d ih =>
      intro i hi hj
      have hlt : i < a.length := by omega
      refine Ev.step (fun k => by rw [spec_l2Less.l0]) (Ev.pos (by omega) (Ev.step (fun k => by rw [spec_l2Less.j1]) ?_))
      by_cases h : i < b.length
      · refine Ev.pos (decide_eq_true (by omega)) (Ev.pos (by omega) (Ev.pos (by omega) (Ev.pos (by omega) ?_)))
        rw [rd_nat _ _ hlt, rd_nat _ _ h, inc (by omega), drop_cons hlt, drop_cons h, cmpL]
        by_cases h1 : a[i] < b[i]
        · refine Ev.neg (by omega) (Ev.const ?_)
          rw [if_pos h1, decide_eq_true h1]; rfl
        · by_cases h2 : a[i] > b[i]
          · refine Ev.neg (by omega) (Ev.const ?_)
            rw [if_neg h1, if_pos h2, decide_eq_false h1]; rfl
          · simp only [if_neg h1, if_neg h2]; exact Ev.pos (by omega) (ih (i + 1) (by omega) (by omega))
      · refine Ev.neg (by simp; omega) (Ev.const ?_)
        rw [drop_cons hlt, List.drop_of_length_le (show b.length ≤ i by omega), decide_eq_false (by omega)]; rfl
  exact Ev.eq (loop a.length 0 (by omega) (by omega)) (by funext k; rw [spec_l2Less.f]; rfl) (by simp)
end Go.Proofs.Ytjglknoebaojgaa.PLess

namespace Go.Proofs.Ytjglknoebaojgaa.PSubM
open Go.RowKit Go.Proofs.Ytjglknoebaojgaa.G Go.Proofs.YtjglknoebaojgaaW.PrintWords Go.Proofs.Ytjglknoebaojgaa.PB Go.Proofs.Ytjglknoebaojgaa.PLess
set_option linter.unusedVariables false
abbrev T := S91
theorem cmp_self : ∀ a : List Int, cmpL a a = 0
  | [] => rfl
  | x :: a => by rw [cmpL, if_neg (by omega), if_neg (by omega)]; exact cmp_self a
theorem cmp_trans : ∀ a b c : List Int, cmpL a b < 0 → cmpL b c < 0 → cmpL a c < 0
  | [], [], _, h, _ => by simp [cmpL] at h
  | _, _ :: _, [], _, h => by simp [cmpL] at h
  | [], _ :: _, _ :: _, _, _ => by simp [cmpL]
  | _ :: _, [], _, h, _ => by simp [cmpL] at h
  | x :: a, y :: b, z :: c, h1, h2 => by
    rw [cmpL] at h1 h2 ⊢
    split at h1
    · split at h2
      · rw [if_pos (by omega)]; omega
      · split at h2
        · omega
        · rw [if_pos (by omega)]; omega
    · split at h1
      · omega
      · split at h2
        · rw [if_pos (by omega)]; omega
        · split at h2
          · omega
          · rw [if_neg (by omega), if_neg (by omega)]; exact cmp_trans a b c h1 h2
theorem cmp_flip : ∀ a b : List Int, ¬ cmpL a b < 0 → a ≠ b → cmpL b a < 0
  | [], [], _, h => absurd rfl h
  | [], _ :: _, h, _ => by simp [cmpL] at h
  | _ :: _, [], _, _ => by simp [cmpL]
  | x :: a, y :: b, h, hne => by
    rw [cmpL] at h ⊢
    split at h
    · omega
    · split at h
      · rw [if_pos (by omega)]; omega
      · have e : x = y := by omega
        rw [if_neg (by omega), if_neg (by omega)]
        exact cmp_flip a b h (fun h' => hne (by rw [e, h']))
/-- In strictly ascending order. -/
def srt : List T → Bool
  | [] => true
  | [_] => true
  | x :: y :: r => decide (cmpL x.f0 y.f0 < 0) && srt (y :: r)
theorem srt_tail {x : T} {r : List T} (h : srt (x :: r) = true) : srt r = true := by
  cases r with
  | nil => rfl
  | cons y r => simp only [srt, Bool.and_eq_true] at h; exact h.2
theorem srt_lt : ∀ {r : List T} {x : T}, srt (x :: r) = true → ∀ z ∈ r, cmpL x.f0 z.f0 < 0
  | [], x, _, z, hz => by simp at hz
  | y :: r, x, h, z, hz => by
    simp only [srt, Bool.and_eq_true, decide_eq_true_eq] at h
    rcases List.mem_cons.1 hz with rfl | hz
    · exact h.1
    · exact cmp_trans _ _ _ h.1 (srt_lt h.2 z hz)
def idx : List T → List Int → Option Nat
  | [], _ => none
  | x :: r, t => if x.f0 = t then some 0 else (idx r t).map (· + 1)
def dec (l : List T) (i : Nat) (n : Int) : List T := l.set i ⟨(l.getD i z91).f0, wrap64 ((l.getD i z91).f1 - n)⟩
def upd : List T → List T → Option (List T)
  | l, [] => some l
  | l, c :: b => match idx l c.f0 with
    | none => none
    | some i => upd (dec l i c.f1) b
def flt : List T → List T → List T × Bool
  | [], acc => (acc, true)
  | x :: r, acc => if x.f1 < 0 then ([], false) else if x.f1 > 0 then flt r (acc ++ [⟨x.f0, x.f1⟩]) else flt r acc
def whole (o : Option (List T)) (acc : List T) : List T × Bool := match o with
  | none => ([], false)
  | some l => flt l acc
def go (x : T) (n : Int) (k : List T → List T × Bool) (acc : List T) : List T × Bool := if n < 0 then ([], false) else if n > 0 then k (acc ++ [⟨x.f0, n⟩]) else k acc
def sub : List T → List T → List T → List T × Bool
  | [], [], acc => (acc, true)
  | [], _ :: _, _ => ([], false)
  | x :: a, [], acc => go x x.f1 (sub a []) acc
  | x :: a, y :: b, acc => if x.f0 = y.f0 then go x (wrap64 (x.f1 - y.f1)) (sub a b) acc else go x x.f1 (sub a (y :: b)) acc
theorem idx_none : ∀ (l : List T) (t : List Int), (∀ z ∈ l, z.f0 ≠ t) → idx l t = none
  | [], _, _ => rfl
  | x :: r, t, h => by rw [idx, if_neg (h x (by simp)), idx_none r t (fun z hz => h z (by simp [hz]))]; rfl
theorem upd_skip : ∀ (b : List T) (x : T) (a : List T), (∀ z ∈ b, z.f0 ≠ x.f0) → upd (x :: a) b = (upd a b).map (x :: ·)
  | [], x, a, _ => rfl
  | c :: b, x, a, h => by
    rw [upd, upd, idx, if_neg (fun e => h c (by simp) e.symm)]
    cases hi : idx a c.f0 with
    | none => rfl
    | some i =>
      have hb := upd_skip b x (dec a i c.f1) (fun z hz => h z (by simp [hz]))
      simp only [Option.map_some]
      have e : dec (x :: a) (i + 1) c.f1 = x :: dec a i c.f1 := by simp [dec]
      rw [e]; exact hb
theorem whole_cons (x : T) (o : Option (List T)) (acc : List T) (f : List T → List T × Bool) (h : ∀ acc, whole o acc = f acc) : whole (o.map (x :: ·)) acc = go x x.f1 f acc := by
  cases o with
  | none =>
    have e : ∀ acc, f acc = ([], false) := fun acc => (h acc).symm
    unfold go
    rw [e, e]
    show ([], false) = _
    split
    · rfl
    · split <;> rfl
  | some l =>
    unfold go
    rw [← h, ← h]
    rfl
theorem sub_none : ∀ (a : List T) (y : T) (b acc : List T), (∀ z ∈ a, z.f0 ≠ y.f0) → sub a (y :: b) acc = ([], false)
  | [], _, _, _, _ => rfl
  | x :: a, y, b, acc, h => by
    rw [sub, if_neg (h x (by simp))]
    have e : ∀ acc, sub a (y :: b) acc = ([], false) := fun acc => sub_none a y b acc (fun z hz => h z (by simp [hz]))
    unfold go
    rw [e, e]
    split
    · rfl
    · split <;> rfl
theorem ne_of_lt {a b : List Int} (h : cmpL a b < 0) : a ≠ b := fun e => by rw [e, cmp_self] at h; omega
theorem agree : ∀ (a b acc : List T), srt a = true → srt b = true → whole (upd a b) acc = sub a b acc
  | [], [], acc, _, _ => rfl
  | [], c :: b, acc, _, _ => rfl
  | x :: a, [], acc, ha, hb => by
    have h : ∀ acc, whole (upd a []) acc = sub a [] acc := fun acc => agree a [] acc (srt_tail ha) rfl
    exact whole_cons x (upd a []) acc _ h
  | x :: a, y :: b, acc, ha, hb => by
    by_cases he : x.f0 = y.f0
    · rw [sub, if_pos he, upd, idx, if_pos he]
      have e : dec (x :: a) 0 y.f1 = ⟨x.f0, wrap64 (x.f1 - y.f1)⟩ :: a := by simp [dec]
      simp only []
      rw [e, upd_skip b _ a (fun z hz => by
        show z.f0 ≠ x.f0
        rw [he]; exact (ne_of_lt (srt_lt hb z hz)).symm)]
      exact whole_cons ⟨x.f0, wrap64 (x.f1 - y.f1)⟩ (upd a b) acc _ (fun acc => agree a b acc (srt_tail ha) (srt_tail hb))
    · by_cases hl : cmpL x.f0 y.f0 < 0
      · rw [sub, if_neg he, upd_skip (y :: b) x a (fun z hz => by
          rcases List.mem_cons.1 hz with rfl | hz
          · exact fun e => he e.symm
          · exact (ne_of_lt (cmp_trans _ _ _ hl (srt_lt hb z hz))).symm)]
        exact whole_cons x (upd a (y :: b)) acc _ (fun acc => agree a (y :: b) acc (srt_tail ha) hb)
      · have hg := cmp_flip _ _ hl he
        have hn : ∀ z ∈ x :: a, z.f0 ≠ y.f0 := fun z hz => by
          rcases List.mem_cons.1 hz with rfl | hz
          · exact he
          · exact (ne_of_lt (cmp_trans _ _ _ hg (srt_lt ha z hz))).symm
        rw [sub_none (x :: a) y b acc hn, upd, idx_none _ _ hn]
        rfl
end Go.Proofs.Ytjglknoebaojgaa.PSubM

namespace Go.Proofs.Ytjglknoebaojgaa.PSubE
open Go.RowKit Go.Proofs.Ytjglknoebaojgaa.G Go.Proofs.YtjglknoebaojgaaW.PrintWords Go.Proofs.YtjglknoebaojgaaW.PrintLast Go.Proofs.Ytjglknoebaojgaa.PB Go.Proofs.Ytjglknoebaojgaa.PLess Go.Proofs.Ytjglknoebaojgaa.PSubM
set_option linter.unusedVariables false
theorem rdC (l : List T) (i : Nat) (h : i < l.length) : rd_T91 l (i : Int) = l[i] := by rw [rd_T91]; exact getD_nat _ _ _ h
def okC (l : List T) : Prop := l.length ≤ 1048576 ∧ ∀ x ∈ l, x.f0.length ≤ 1048576
/-- Numbers compared, both ways of it. -/
theorem eq_loop (a b : List Int) (hl : a.length = b.length) (hb : a.length ≤ 1048576) (l : Nat → Int → Option Bool)
    (step : ∀ i, (h : i < a.length) → (h' : i < b.length) → ∀ r, Ev (fun k => l k ((i + 1 : Nat) : Int)) r → Ev (fun k => l k (i : Int)) (if a[i] = b[i] then r else false))
    (fin : Ev (fun k => l k ((a.length : Nat) : Int)) true) : Ev (fun k => l k 0) (decide (a = b)) := by
  have key : ∀ (d i : Nat), i + d = a.length → Ev (fun k => l k (i : Int)) (decide (a.drop i = b.drop i)) := by
    intro d
    induction d with
    | zero =>
      intro i hi
      obtain rfl : i = a.length := by omega
      rw [List.drop_length, List.drop_of_length_le (by omega), decide_eq_true rfl]; exact fin
    | succ d ih =>
      intro i hi
      have h : i < a.length := by omega
      have h' : i < b.length := by omega
      refine Ev.eq (step i h h' _ (ih (i + 1) (by omega))) rfl ?_
      have e : decide (a.drop i = b.drop i) = (decide (a[i] = b[i]) && decide (a.drop (i + 1) = b.drop (i + 1))) := by
        conv => lhs; rw [List.drop_eq_getElem_cons h, List.drop_eq_getElem_cons h']
        rw [← Bool.decide_and]; congr 1; rw [List.cons.injEq]
      rw [e]
      by_cases he : a[i] = b[i]
      · rw [if_pos he, decide_eq_true he, Bool.true_and]
      · rw [if_neg he, decide_eq_false he, Bool.false_and]
  have := key a.length 0 (by omega)
  simpa using this
theorem s_ints (a b : List Int) (ha : a.length ≤ 1048576) : Ev (fun k => spec_l2Ints.f k a b) (decide (a = b)) := by
  unfold spec_l2Ints.f
  by_cases h : a.length = b.length
  · refine Ev.pos (by omega) (eq_loop a b h ha (fun k i => spec_l2Ints.l0 k a b i) ?_ ?_)
    · intro i hi hi' r hr
      refine Ev.step (fun k => by rw [spec_l2Ints.l0]) (Ev.pos (by omega) (Ev.pos (by omega) (Ev.pos (by omega) ?_)))
      rw [rd_nat _ _ hi, rd_nat _ _ hi', inc (by omega)]
      by_cases he : a[i] = b[i]
      · rw [if_pos he]; exact Ev.pos he hr
      · rw [if_neg he]; exact Ev.neg he (Ev.const rfl)
    · exact Ev.step (fun k => by rw [spec_l2Ints.l0]) (Ev.neg (by omega) (Ev.const rfl))
  · rw [decide_eq_false (fun e => h (by rw [e]))]; exact Ev.neg (by omega) (Ev.const rfl)
theorem i_ints (a b : List Int) (ha : a.length ≤ 1048576) : Ev (fun k => slices_Equal_int_int.f k a b) (decide (a = b)) := by
  unfold slices_Equal_int_int.f
  by_cases h : a.length = b.length
  · refine Ev.pos (by omega) (eq_loop a b h ha (fun k i => slices_Equal_int_int.l0 k a b (a.length : Int) i) ?_ ?_)
    · intro i hi hi' r hr
      refine Ev.step (fun k => by rw [slices_Equal_int_int.l0]) (Ev.pos (by omega) (Ev.pos (by omega) (Ev.pos (by omega) (Ev.pos (by omega) ?_))))
      rw [rd_nat _ _ hi, rd_nat _ _ hi', inc (by omega)]
      by_cases he : a[i] = b[i]
      · rw [if_pos he]; exact Ev.pos he hr
      · rw [if_neg he]; exact Ev.neg he (Ev.const rfl)
    · exact Ev.step (fun k => by rw [slices_Equal_int_int.l0]) (Ev.neg (by omega) (Ev.const rfl))
  · rw [decide_eq_false (fun e => h (by rw [e]))]; exact Ev.neg (by omega) (Ev.const rfl)
def idxI (l : List T) (t : List Int) : Int := match idx l t with
  | none => -1
  | some i => (i : Int)
theorem idx_lt : ∀ (l : List T) (t : List Int) (i : Nat), idx l t = some i → i < l.length
  | [], _, _, h => by simp [idx] at h
  | x :: r, t, i, h => by
    rw [idx] at h
    split at h
    · cases h; simp
    · obtain ⟨j, hj, rfl⟩ := Option.map_eq_some_iff.1 h
      have := idx_lt r t j hj
      simp only [List.length_cons]; omega
theorem find_ev (l : List T) (t : List Int) (hl : okC l) : Ev (fun k => impl_find.f k l t) (idxI l t) := by
  have hb := hl.1
  have key : ∀ (d i : Nat), i + d = l.length → Ev (fun k => impl_find.l0 k l t (i : Int)) (match idx (l.drop i) t with | none => -1 | some j => ((i + j : Nat) : Int)) := by
    intro d
    induction d with
    | zero =>
      intro i hi
      rw [List.drop_of_length_le (by omega)]
      show Ev _ (-1)
      exact Ev.step (fun k => by rw [impl_find.l0]) (Ev.neg (by omega) (Ev.const rfl))
    | succ d ih =>
      intro i hi
      have hlt : i < l.length := by omega
      have nx := ih (i + 1) (by omega)
      refine Ev.step (fun k => by rw [impl_find.l0]) (Ev.pos (by omega) (Ev.pos (by omega) ?_))
      rw [rdC _ _ hlt, inc (by omega)]
      refine Ev.bind (i_ints _ _ (hl.2 _ (List.getElem_mem hlt))) ?_
      rw [List.drop_eq_getElem_cons hlt, idx]
      by_cases he : l[i].f0 = t
      · rw [decide_eq_true he]
        simp only [if_pos he]
        exact Ev.const rfl
      · rw [decide_eq_false he]
        simp only [if_neg he]
        refine Ev.neg (by simp) (Ev.eq nx rfl ?_)
        cases idx (l.drop (i + 1)) t with
        | none => rfl
        | some j => show ((i + 1 + j : Nat) : Int) = ((i + (j + 1) : Nat) : Int); congr 1; omega
  have h0 : Ev (fun k => impl_find.l0 k l t 0) (match idx (l.drop 0) t with | none => -1 | some j => ((0 + j : Nat) : Int)) := key l.length 0 (by omega)
  unfold impl_find.f idxI
  refine Ev.eq h0 rfl ?_
  rw [List.drop_zero]
  cases idx l t with
  | none => rfl
  | some j => show ((0 + j : Nat) : Int) = (j : Int); congr 1; omega
theorem srt_drop {l : List T} {i : Nat} (h1 : 1 ≤ i) (h : i < l.length) : srt (l.drop (i - 1)) = (decide (cmpL (l[i - 1]'(by omega)).f0 l[i].f0 < 0) && srt (l.drop i)) := by
  obtain ⟨j, rfl⟩ : ∃ j, i = j + 1 := ⟨i - 1, by omega⟩
  have hj : j < l.length := by omega
  show srt (l.drop j) = _
  rw [List.drop_eq_getElem_cons hj, List.drop_eq_getElem_cons h, srt]
  rfl
theorem srt_end {l : List T} {i : Nat} (h : l.length ≤ i) : srt (l.drop (i - 1)) = true := by
  rcases Nat.lt_or_ge (i - 1) l.length with h2 | h2
  · rw [List.drop_eq_getElem_cons h2, List.drop_of_length_le (by omega)]; rfl
  · rw [List.drop_of_length_le (by omega)]; rfl
theorem i_ordered (l : List T) (hl : okC l) : Ev (fun k => impl_areOrdered.f k l) (srt l) := by
  have hb := hl.1
  have key : ∀ (d i : Nat), 1 ≤ i → i + d = l.length + 1 → Ev (fun k => impl_areOrdered.l0 k l (i : Int)) (srt (l.drop (i - 1))) := by
    intro d
    induction d with
    | zero =>
      intro i h1 hi
      rw [srt_end (by omega)]
      exact Ev.step (fun k => by rw [impl_areOrdered.l0]) (Ev.neg (by omega) (Ev.const rfl))
    | succ d ih =>
      intro i h1 hi
      by_cases hlt : i < l.length
      · have hw : wrap64 ((i : Int) - 1) = ((i - 1 : Nat) : Int) := by rw [w64 (by omega) (by omega)]; omega
        refine Ev.step (fun k => by rw [impl_areOrdered.l0]) ?_
        rw [hw]
        refine Ev.pos (by omega) (Ev.pos (by omega) (Ev.pos (by omega) (Ev.pos (by omega) ?_)))
        rw [rdC _ _ hlt, rdC _ _ (show i - 1 < l.length by omega), inc (by omega), srt_drop h1 hlt]
        refine Ev.bind (compare_ev _ _ (hl.2 _ (List.getElem_mem _)) (hl.2 _ (List.getElem_mem _))) ?_
        by_cases hc : cmpL (l[i - 1]'(by omega)).f0 l[i].f0 < 0
        · rw [decide_eq_true hc, Bool.true_and]
          exact Ev.neg (by omega) (ih (i + 1) (by omega) (by omega))
        · rw [decide_eq_false hc, Bool.false_and]
          exact Ev.pos (by omega) (Ev.const rfl)
      · rw [srt_end (by omega)]
        exact Ev.step (fun k => by rw [impl_areOrdered.l0]) (Ev.neg (by omega) (Ev.const rfl))
  have h0 : Ev (fun k => impl_areOrdered.l0 k l 1) (srt (l.drop 0)) := key l.length 1 (by omega) (by omega)
  exact h0
theorem s_sorted (l : List T) (hl : okC l) : Ev (fun k => spec_l20Sorted.f k l) (srt l) := by
  have hb := hl.1
  have key : ∀ (d i : Nat), 1 ≤ i → i + d = l.length + 1 → Ev (fun k => spec_l20Sorted.l0 k l (i : Int)) (srt (l.drop (i - 1))) := by
    intro d
    induction d with
    | zero =>
      intro i h1 hi
      rw [srt_end (by omega)]
      exact Ev.step (fun k => by rw [spec_l20Sorted.l0]) (Ev.neg (by omega) (Ev.const rfl))
    | succ d ih =>
      intro i h1 hi
      by_cases hlt : i < l.length
      · have hw : wrap64 ((i : Int) - 1) = ((i - 1 : Nat) : Int) := by rw [w64 (by omega) (by omega)]; omega
        refine Ev.step (fun k => by rw [spec_l20Sorted.l0]) ?_
        rw [hw]
        refine Ev.pos (by omega) (Ev.pos (by omega) (Ev.pos (by omega) (Ev.pos (by omega) ?_)))
        rw [rdC _ _ hlt, rdC _ _ (show i - 1 < l.length by omega), inc (by omega), srt_drop h1 hlt]
        refine Ev.bind (less_ev _ _ (hl.2 _ (List.getElem_mem _)) (hl.2 _ (List.getElem_mem _))) ?_
        by_cases hc : cmpL (l[i - 1]'(by omega)).f0 l[i].f0 < 0
        · rw [decide_eq_true hc, Bool.true_and]
          exact Ev.pos rfl (ih (i + 1) (by omega) (by omega))
        · rw [decide_eq_false hc, Bool.false_and]
          exact Ev.neg (by simp) (Ev.const rfl)
      · rw [srt_end (by omega)]
        exact Ev.step (fun k => by rw [spec_l20Sorted.l0]) (Ev.neg (by omega) (Ev.const rfl))
  have h0 : Ev (fun k => spec_l20Sorted.l0 k l 1) (srt (l.drop 0)) := key l.length 1 (by omega) (by omega)
  exact h0
theorem j3_ev (a b acc : List T) (i k : Nat) (n : Int) (ha : okC a) (hi : i < a.length) (hacc : acc.length ≤ i) (f : List T → List T × Bool)
    (nx : ∀ acc' : List T, acc'.length ≤ i + 1 → Ev (fun K => spec_SubtractCounts.l0 K a b acc' (k : Int) ((i + 1 : Nat) : Int)) (f acc')) :
    Ev (fun K => spec_SubtractCounts.j3 K a b acc (k : Int) (i : Int) n) (go a[i] n f acc) := by
  have hb := ha.1
  have ht := ha.2 _ (List.getElem_mem hi)
  unfold go
  refine Ev.step (fun k => by rw [spec_SubtractCounts.j3]) ?_
  by_cases h1 : n < 0
  · rw [if_pos h1]; exact Ev.pos h1 (Ev.const rfl)
  · rw [if_neg h1]
    refine Ev.neg h1 ?_
    by_cases h2 : n > 0
    · rw [if_pos h2]
      refine Ev.pos h2 ?_
      refine Ev.bindc rfl ?_
      refine Ev.pos (by omega) (Ev.pos (by omega) ?_)
      rw [rdC _ _ hi, inc (by omega)]
      refine Ev.pos (by simp only [List.length_nil]; omega) (Ev.pos (by omega) ?_)
      exact nx (acc ++ [⟨a[i].f0, n⟩]) (by simp; omega)
    · rw [if_neg h2]
      refine Ev.neg h2 ?_
      rw [inc (by omega)]
      exact nx acc (by omega)
theorem s_sub (a b : List T) (ha : okC a) (hb : okC b) : ∀ (d i k : Nat) (acc : List T), i + d = a.length → k ≤ b.length → acc.length ≤ i →
    Ev (fun K => spec_SubtractCounts.l0 K a b acc (k : Int) (i : Int)) (sub (a.drop i) (b.drop k) acc) := by
  have h1 := ha.1
  have h2 := hb.1
  intro d
  induction d with
  | zero =>
    intro i k acc hi hk hacc
    rw [List.drop_of_length_le (show a.length ≤ i by omega)]
    refine Ev.step (fun k => by rw [spec_SubtractCounts.l0]) (Ev.neg (by omega) ?_)
    by_cases hlt : k < b.length
    · rw [List.drop_eq_getElem_cons hlt, sub]; exact Ev.pos (by omega) (Ev.const rfl)
    · rw [List.drop_of_length_le (by omega), sub]; exact Ev.neg (by omega) (Ev.const rfl)
  | succ d ih =>
    intro i k acc hi hk hacc
    have hlt : i < a.length := by omega
    refine Ev.step (fun k => by rw [spec_SubtractCounts.l0]) (Ev.pos (by omega) (Ev.pos (by omega) ?_))
    rw [rdC _ _ hlt]
    by_cases hkb : k < b.length
    · refine Ev.pos (by omega) (Ev.pos (by omega) ?_)
      rw [rdC _ _ hkb]
      refine Ev.bind (s_ints _ _ (ha.2 _ (List.getElem_mem hlt))) ?_
      refine Ev.step (fun k => by rw [spec_SubtractCounts.j2]) ?_
      by_cases he : a[i].f0 = b[k].f0
      · have e : sub (a.drop i) (b.drop k) acc = go a[i] (wrap64 (a[i].f1 - b[k].f1)) (sub (a.drop (i + 1)) (b.drop (k + 1))) acc := by
          conv => lhs; rw [List.drop_eq_getElem_cons hlt, List.drop_eq_getElem_cons hkb, sub, if_pos he]
        rw [e, decide_eq_true he]
        refine Ev.pos rfl (Ev.pos (by omega) (Ev.pos (by omega) ?_))
        rw [rdC _ _ hkb, inc (by omega)]
        exact j3_ev a b acc i (k + 1) _ ha hlt hacc _ (fun acc' h => ih (i + 1) (k + 1) acc' (by omega) (by omega) h)
      · have e : sub (a.drop i) (b.drop k) acc = go a[i] a[i].f1 (sub (a.drop (i + 1)) (b.drop k)) acc := by
          conv => lhs; rw [List.drop_eq_getElem_cons hlt, List.drop_eq_getElem_cons hkb, sub, if_neg he]
          rw [← List.drop_eq_getElem_cons hkb]
        rw [e, decide_eq_false he]
        refine Ev.neg (by simp) ?_
        exact j3_ev a b acc i k _ ha hlt hacc _ (fun acc' h => ih (i + 1) k acc' (by omega) (by omega) h)
    · refine Ev.neg (by omega) ?_
      refine Ev.step (fun k => by rw [spec_SubtractCounts.j2]) (Ev.neg (by simp) ?_)
      have e : b.drop k = [] := List.drop_of_length_le (by omega)
      rw [List.drop_eq_getElem_cons hlt, e, sub]
      refine j3_ev a b acc i k _ ha hlt hacc _ (fun acc' h => ?_)
      have := ih (i + 1) k acc' (by omega) (by omega) h
      rwa [e] at this
def res (a b : List T) : List T × Bool := if srt a = true then (if srt b = true then sub a b [] else ([], false)) else ([], false)
theorem spec_sub (a b : List T) (ha : okC a) (hb : okC b) : Ev (fun k => spec_SubtractCounts.f k a b) (res a b) := by
  unfold spec_SubtractCounts.f res
  refine Ev.bindc rfl ?_
  have J1 : Ev (fun k => spec_SubtractCounts.j0 k a b [] 0 true) ([], false) := by
    refine Ev.step (fun k => by rw [spec_SubtractCounts.j0]) ?_
    exact Ev.pos rfl (Ev.const rfl)
  refine Ev.bind (s_sorted a ha) ?_
  cases h1 : srt a with
  | false => rw [if_neg (by simp)]; exact Ev.neg (by simp) J1
  | true =>
    rw [if_pos rfl]
    refine Ev.pos rfl (Ev.bind (s_sorted b hb) ?_)
    cases h2 : srt b with
    | false => rw [if_neg (by simp)]; exact J1
    | true =>
      rw [if_pos rfl]
      refine Ev.step (fun k => by rw [spec_SubtractCounts.j0]) (Ev.neg (by simp) ?_)
      have h0 : Ev (fun K => spec_SubtractCounts.l0 K a b [] 0 0) (sub (a.drop 0) (b.drop 0) []) := s_sub a b ha hb a.length 0 0 [] (by omega) (by omega) (by simp)
      exact h0
end Go.Proofs.Ytjglknoebaojgaa.PSubE

namespace Go.Proofs.Ytjglknoebaojgaa.PSubI
open Go.RowKit Go.Proofs.Ytjglknoebaojgaa.G Go.Proofs.YtjglknoebaojgaaW.PrintWords Go.Proofs.YtjglknoebaojgaaW.PrintLast Go.Proofs.Ytjglknoebaojgaa.PB Go.Proofs.Ytjglknoebaojgaa.PLess Go.Proofs.Ytjglknoebaojgaa.PSubM Go.Proofs.Ytjglknoebaojgaa.PSubE
set_option linter.unusedVariables false
theorem ints_copy (l : List Int) (hl : l.length ≤ 1048576) : impl_copyInts.f l = some l := by
  unfold impl_copyInts.f
  simp; omega
theorem counts_copy (l : List T) (hl : okC l) : Ev (fun k => impl_copyCounts.f k l) l := by
  have hb := hl.1
  have loop : ∀ (d i : Nat), i + d = l.length → Ev (fun k => impl_copyCounts.l0 k (l.take i) l (l.length : Int) (i : Int)) l := by
    intro d
    induction d with
    | zero =>
      intro i hi
      rw [List.take_of_length_le (by omega)]
      exact Ev.step (fun k => by rw [impl_copyCounts.l0]) (Ev.neg (by omega) (Ev.const rfl))
    | succ d ih =>
      intro i hi
      have hlt : i < l.length := by omega
      have hz : (l.take i).length ≤ 1048576 := by rw [List.length_take]; omega
      refine Ev.step (fun k => by rw [impl_copyCounts.l0]) ?_
      refine Ev.pos (by omega) (Ev.pos (by omega) (Ev.pos (by omega) ?_))
      rw [rdC _ _ hlt, inc (by omega)]
      refine Ev.bindc (ints_copy _ (hl.2 _ (List.getElem_mem hlt))) (Ev.pos (by omega) ?_)
      have e : l.take i ++ [(⟨l[i].f0, l[i].f1⟩ : T)] = l.take (i + 1) := (take_snoc hlt).symm
      rw [e]
      exact ih (i + 1) (by omega)
  have h0 : Ev (fun k => impl_copyCounts.l0 k (l.take 0) l (l.length : Int) 0) l := loop l.length 0 (by omega)
  exact h0
theorem flt_ev (l : List T) (hl : okC l) : ∀ (d i : Nat) (acc : List T), i + d = l.length → acc.length ≤ i →
    Ev (fun k => impl_SubtractCounts.l1 k acc l (l.length : Int) (i : Int)) (flt (l.drop i) acc) := by
  have hb := hl.1
  intro d
  induction d with
  | zero =>
    intro i acc hi ha
    rw [List.drop_of_length_le (by omega), flt]
    exact Ev.step (fun k => by rw [impl_SubtractCounts.l1]) (Ev.neg (by omega) (Ev.const rfl))
  | succ d ih =>
    intro i acc hi ha
    have hlt : i < l.length := by omega
    refine Ev.step (fun k => by rw [impl_SubtractCounts.l1]) ?_
    refine Ev.pos (by omega) (Ev.pos (by omega) (Ev.pos (by omega) ?_))
    rw [rdC _ _ hlt, inc (by omega)]
    have e : flt (l.drop i) acc = if l[i].f1 < 0 then ([], false) else if l[i].f1 > 0 then flt (l.drop (i + 1)) (acc ++ [⟨l[i].f0, l[i].f1⟩]) else flt (l.drop (i + 1)) acc := by
      conv => lhs; rw [List.drop_eq_getElem_cons hlt, flt]
    rw [e]
    by_cases h1 : l[i].f1 < 0
    · simp only [if_pos h1]; exact Ev.const rfl
    · simp only [if_neg h1]
      by_cases h2 : l[i].f1 > 0
      · simp only [if_pos h2]
        exact Ev.pos (by omega) (ih (i + 1) _ (by omega) (by simp; omega))
      · simp only [if_neg h2]
        exact ih (i + 1) acc (by omega) (by omega)
theorem dec_ok {l : List T} (h : okC l) {i : Nat} (hi : i < l.length) (n : Int) : okC (dec l i n) := by
  refine ⟨by unfold dec; rw [List.length_set]; exact h.1, fun x hx => ?_⟩
  unfold dec at hx
  rcases List.mem_or_eq_of_mem_set hx with hx | rfl
  · exact h.2 x hx
  · show (l.getD i _).f0.length ≤ _
    rw [List.getD_eq_getElem?_getD, List.getElem?_eq_getElem hi]
    exact h.2 _ (List.getElem_mem hi)
theorem upd_ev (b : List T) (hb : okC b) : ∀ (d j : Nat) (l : List T), j + d = b.length → okC l →
    Ev (fun k => impl_SubtractCounts.l0 k l b (b.length : Int) (j : Int)) (whole (upd l (b.drop j)) []) := by
  have h1 := hb.1
  intro d
  induction d with
  | zero =>
    intro j l hj hl
    rw [List.drop_of_length_le (by omega), upd]
    refine Ev.step (fun k => by rw [impl_SubtractCounts.l0]) (Ev.neg (by omega) ?_)
    have h0 : Ev (fun k => impl_SubtractCounts.l1 k [] l (l.length : Int) 0) (flt (l.drop 0) []) := flt_ev l hl l.length 0 [] (by omega) (by simp)
    exact h0
  | succ d ih =>
    intro j l hj hl
    have hlt : j < b.length := by omega
    refine Ev.step (fun k => by rw [impl_SubtractCounts.l0]) ?_
    refine Ev.pos (by omega) (Ev.pos (by omega) (Ev.pos (by omega) ?_))
    rw [rdC _ _ hlt, inc (by omega)]
    refine Ev.bind (find_ev l _ hl) ?_
    cases hi : idx l b[j].f0 with
    | none =>
      have e : upd l (b.drop j) = none := by rw [List.drop_eq_getElem_cons hlt, upd, hi]
      have e2 : idxI l b[j].f0 = -1 := by unfold idxI; rw [hi]
      rw [e, e2]
      exact Ev.pos (by decide) (Ev.const rfl)
    | some i =>
      have hil := idx_lt l _ i hi
      have e : upd l (b.drop j) = upd (dec l i b[j].f1) (b.drop (j + 1)) := by rw [List.drop_eq_getElem_cons hlt, upd, hi]
      have e2 : idxI l b[j].f0 = (i : Int) := by unfold idxI; rw [hi]
      rw [e, e2]
      refine Ev.neg (by omega) (Ev.pos (by omega) (Ev.pos (by omega) ?_))
      exact ih (j + 1) (dec l i b[j].f1) (by omega) (dec_ok hl hil _)
theorem impl_sub (a b : List T) (ha : okC a) (hb : okC b) : Ev (fun k => impl_SubtractCounts.f k a b) (res a b) := by
  unfold impl_SubtractCounts.f res
  have J1 : Ev (fun k => impl_SubtractCounts.j0 k a b true) ([], false) := by
    refine Ev.step (fun k => by rw [impl_SubtractCounts.j0]) ?_
    exact Ev.pos rfl (Ev.const rfl)
  refine Ev.bind (i_ordered a ha) ?_
  cases h1 : srt a with
  | false => rw [if_neg (by simp)]; exact Ev.neg (by simp) J1
  | true =>
    rw [if_pos rfl]
    refine Ev.pos rfl (Ev.bind (i_ordered b hb) ?_)
    cases h2 : srt b with
    | false => rw [if_neg (by simp)]; exact J1
    | true =>
      rw [if_pos rfl, ← agree a b [] h1 h2]
      refine Ev.step (fun k => by rw [impl_SubtractCounts.j0]) (Ev.neg (by simp) (Ev.bind (counts_copy a ha) ?_))
      have h0 : Ev (fun k => impl_SubtractCounts.l0 k a b (b.length : Int) 0) (whole (upd a (b.drop 0)) []) := upd_ev b hb b.length 0 a (by omega) ha
      exact h0
end Go.Proofs.Ytjglknoebaojgaa.PSubI

