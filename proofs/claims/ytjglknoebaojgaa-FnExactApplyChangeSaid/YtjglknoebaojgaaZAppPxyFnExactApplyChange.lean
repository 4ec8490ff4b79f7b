/- Out of YtjglknoebaojgaaPxyFnExactApplyChange: what the claim needs of it. Conditions: each declaration's own. -/
import Derived.Test.YtjglknoebaojgaaZAppPUp
import Derived.Test.YtjglknoebaojgaaZAppPx16
import Derived.Test.YtjglknoebaojgaaZAppM18
import Derived.Test.YtjglknoebaojgaaZAppPx20
import Derived.Test.YtjglknoebaojgaaZAppPx21
import Derived.Test.YtjglknoebaojgaaZAppM12
import Derived.Test.YtjglknoebaojgaaZAppM23
import Derived.Test.YtjglknoebaojgaaZAppM24
import Derived.Test.YtjglknoebaojgaaZAppM25
import Derived.Test.YtjglknoebaojgaaZAppWGuard
namespace Go.Proofs.Ytjglknoebaojgaa.P
open Go.RowKit Go.Proofs.YtjglknoebaojgaaW.PrintWords Go.Proofs.YtjglknoebaojgaaW.PrintLast Go.Proofs.YtjglknoebaojgaaW.PrintMore Go.Proofs.Ytjglknoebaojgaa Go.Proofs.Ytjglknoebaojgaa.Lay Go.Proofs.Ytjglknoebaojgaa.LawM Go.Proofs.Ytjglknoebaojgaa.Deep
attribute [local go_sem] max2_int min2_int max_two min_two max_three min_three max_four min_four
set_option linter.unusedVariables false
set_option linter.unusedSimpArgs false
def cnIntS (l : List Int) : Nat := sumOf (fun _ => 1) l
theorem mkFactE : Mk k53 (ePair eInt (eRow (Row 1 eInt))) (fun x : S53 => 1 + cnIntS x.f1) := mk_iso (fun x : S53 => (x.f0, x.f1)) (mk_pair mk_int (mk_slice mk_int _) rfl)
def cnFactS (l : List S53) : Nat := sumOf (fun x : S53 => 1 + cnIntS x.f1) l
theorem plcFactS {w : World} {base e : Nat} {ok : Nat → Prop} {v : Value} {xs : List S53} (h : Kd.S k53 e w base ok v xs) : ∃ pls, Row 2 (ePair eInt (eRow (Row 1 eInt))) w v pls ∧ pls.length = cnFactS xs ∧ pls.Nodup ∧ ∀ p ∈ pls, ok p.1 := rowS_nodup (d := k53) (mkn_iso (fun x : S53 => (x.f0, x.f1)) (mkn_pair mkn_int1 (mkn_sliceI _) rfl)) (Nat.succ_pos 1) h
def laws_FnExactApplyChange.f (k : Nat) (l0_0 : List Int) (l1_0 : List (S39)) (a1_1 : Int) (a2_0 : Bool) (a2_1 : Int) (l2_2 : List Int) : Option (Bool) := ((laws_szSchema.f l0_0 1048576).bind fun t1 => (if t1 < 0 then (some true) else ((laws_szSource.f k l1_0 a1_1 t1).bind fun t2 => (if t2 < 0 then (some true) else ((laws_szChange.f a2_0 a2_1 l2_2 t2).bind fun t3 => (if t3 < 0 then (some true) else ((laws_toSchema.f k l0_0).bind fun t4 => ((laws_toSource.f k l1_0 a1_1).bind fun t5 => ((laws_toChange.f k a2_0 a2_1 l2_2).bind fun t6 => ((spec_ApplyChange.f k t4 t5.1 t5.2 t6.1 t6.2.1 t6.2.2).bind fun t7 => ((impl_ApplyChange.f k t4 t5.1 t5.2 t6.1 t6.2.1 t6.2.2).bind fun t8 => ((laws_eqSource.f k t8.1 t8.2.1 t7.1 t7.2.1).bind fun t9 => (if t9 = true then (if t8.2.2 = t7.2.2 then ((laws_eqSchema.f k t4 t4).bind fun t10 => (if t10 = true then ((laws_eqSource.f k t5.1 t5.2 t5.1 t5.2).bind fun t11 => (if t11 = true then ((laws_eqChange.f k t6.1 t6.2.1 t6.2.2 t6.1 t6.2.1 t6.2.2).bind fun t12 => (if t12 = true then (if (1 + (cnIntS t4 : Nat) + (cnFactS t5.1 : Nat) + (cnIntS t6.2.2 : Nat) : Int) ≤ 4611686018427387000 then (if (1 + (cnFactS t8.1 : Nat) : Int) ≤ 4611686018427387000 then (some true) else none) else none) else (some false))) else (some false))) else (some false))) else (some false)) else (some false))))))))))))))
set_option maxHeartbeats 16000000 in
set_option maxRecDepth 100000 in
theorem laws_FnExactApplyChange.calls (k : Nat) (A0_0 : Option Addr) (c0_0 : Nat) (l0_0 : List Int) (A1_0 : Option Addr) (c1_0 : Nat) (l1_0 : List (S39)) (a1_1 : Int) (a2_0 : Bool) (a2_1 : Int) (A2_2 : Option Addr) (c2_2 : Nat) (l2_2 : List Int) (w : World) (hr0_0 : Kd.C (Kd.int .i64) w A0_0 l0_0.length l0_0) (hc0_0 : l0_0.length ≤ c0_0) (hr1_0 : Kd.C k39 w A1_0 l1_0.length l1_0) (hc1_0 : l1_0.length ≤ c1_0) (hr2_2 : Kd.C (Kd.int .i64) w A2_2 l2_2.length l2_2) (hc2_2 : l2_2.length ≤ c2_2) (h : laws_FnExactApplyChange.f k l0_0 l1_0 a1_1 a2_0 a2_1 l2_2 = some true) :
  Calls Try.prog 5 #[.agg #[.slice A0_0 l0_0.length c0_0], .agg #[.slice A1_0 l1_0.length c1_0, .int .i64 a1_1], .agg #[.bool a2_0, .int .i64 a2_1, .slice A2_2 l2_2.length c2_2]] w fun e w' => e = .returned (.bool true) ∧ Below w.heap.size w w' := by
 have hu39 := Try.underlying39
 have hu53 := Try.underlying53
 have hu67 := Try.underlying67
 have hu78 := Try.underlying78
 have hu89 := Try.underlying89
 have hu91 := Try.underlying91
 have hu138 := Try.underlying138
 have hu143 := Try.underlying143
 have HR0_0 := Aside0.mk hr0_0
 have HC0_0 := Aside0.mk hc0_0
 clear hr0_0 hc0_0
 have HR1_0 := Aside0.mk hr1_0
 have HC1_0 := Aside0.mk hc1_0
 clear hr1_0 hc1_0
 have HR2_2 := Aside0.mk hr2_2
 have HC2_2 := Aside0.mk hc2_2
 clear hr2_2 hc2_2
 have SZ := Aside0.mk (Nat.le_refl w.heap.size)
 have HB := Aside0.mk (Below.refl w.heap.size w)
 have H := h
 clear h
 unfold laws_FnExactApplyChange.f at H
 replace H := Option.bind_eq_some_iff.mp H
 obtain ⟨t1, As00, H⟩ := H
 have As0 := Aside0.mk As00
 clear As00
 by_cases cs0 : t1 < 0
 ·rw [if_pos cs0] at H
  have cs0b := decide_eq_true cs0
  clear cs0 H
  go_enter Try.func5, Try.ntmps5
  go_wp2_with (first | ((with_reducible refine gate_dst (N := 3) rfl ?_); refine box_event ?hg (N := 3) ?hd (cs := #[.slice A0_0 l0_0.length c0_0]) (t := 34) ?hr ?_; (case hd => rfl); (case hg => rfl); (case hr => first | (go_simp; done) | (go_simp; rfl)); intro gbp0 hg w101 hbox hb; replace SZ := qZ SZ (show gbp0 = w.heap.size ∧ gbp0 < w101.heap.size from ⟨hg, blk_lt hbox⟩); have BKp0_ := Aside0.mk hbox; replace SZ := qZ SZ (show w.heap.size ≤ w101.heap.size from hb.size); replace HB := qHb HB hb; have BKp0 := BKp0_; clear BKp0_ hg hbox hb) | ((with_reducible refine gate_dst (N := 4) rfl ?_); refine box_event ?hg (N := 4) ?hd (cs := #[.slice A1_0 l1_0.length c1_0, .int .i64 a1_1]) (t := 37) ?hr ?_; (case hd => rfl); (case hg => rfl); (case hr => first | (go_simp; done) | (go_simp; rfl)); intro gbp1 hg w102 hbox hb; replace SZ := qZ SZ (show gbp1 = w101.heap.size ∧ gbp1 < w102.heap.size from ⟨hg, blk_lt hbox⟩); have BKp1_ := Aside0.mk hbox; replace SZ := qZ SZ (show w101.heap.size ≤ w102.heap.size from hb.size); replace BKp0 := qBb BKp0 hb; replace HB := qHb HB hb; have BKp1 := BKp1_; clear BKp1_ hg hbox hb) | ((with_reducible refine gate_dst (N := 5) rfl ?_); refine box_event ?hg (N := 5) ?hd (cs := #[.bool a2_0, .int .i64 a2_1, .slice A2_2 l2_2.length c2_2]) (t := 41) ?hr ?_; (case hd => rfl); (case hg => rfl); (case hr => first | (go_simp; done) | (go_simp; rfl)); intro gbp2 hg w103 hbox hb; replace SZ := qZ SZ (show gbp2 = w102.heap.size ∧ gbp2 < w103.heap.size from ⟨hg, blk_lt hbox⟩); have BKp2_ := Aside0.mk hbox; replace SZ := qZ SZ (show w102.heap.size ≤ w103.heap.size from hb.size); replace BKp0 := qBb BKp0 hb; replace BKp1 := qBb BKp1 hb; replace HB := qHb HB hb; have hcp0_0 : w103.cell? ⟨gbp0, 0, none⟩ = some (.slice A0_0 l0_0.length c0_0) := kc BKp0 rfl; have hfp0_0 := blk_frozen BKp0.out 0; have BKp2 := BKp2_; clear BKp2_ hg hbox hb; clear hcp0_0 hfp0_0; have hcp0_0 : w103.cell? ⟨gbp0, 0, none⟩ = some (.slice A0_0 l0_0.length c0_0) := kc BKp0 rfl; have hfp0_0 := blk_frozen BKp0.out 0) | ((with_reducible refine gate_callee (f := 16) rfl ?_); (try (refine gate_guard (by rfl) ?_; dsimp only)); refine goesL_ (some 22) rfl rfl Try.func16 (by kernel_rfl) rfl #[.agg #[.slice A0_0 l0_0.length c0_0], .int .i64 1048576] rfl (by (try simp only [List.map_toArray, List.map_cons, List.map_nil]); first | done | rfl) ?_; (with_reducible refine (laws_szSchema.calls _ _ l0_0 1048576 _ _ ?side1 ?side2 As0.out).mono ?_); (case side1 => exact (Kd.C_below HR0_0.out HB.out)); (case side2 => exact HC0_0.out); rintro e w104 ⟨rfl, hb⟩; refine ⟨_, rfl, ?_⟩; clear hcp0_0 hfp0_0; replace SZ := qZ SZ (show w103.heap.size ≤ w104.heap.size from hb.size); replace BKp0 := qBb BKp0 hb; replace BKp1 := qBb BKp1 hb; replace BKp2 := qBb BKp2 hb; replace HB := qHb HB hb; have hcp1_0 : w104.cell? ⟨gbp1, 0, none⟩ = some (.slice A1_0 l1_0.length c1_0) := kc BKp1 rfl; have hfp1_0 := blk_frozen BKp1.out 0; have hcp1_1 : w104.cell? ⟨gbp1, 1, none⟩ = some (.int .i64 a1_1) := kc BKp1 rfl; have hfp1_1 := blk_frozen BKp1.out 1; clear hb))
  go_ret
  exact ⟨rfl, HB.out⟩
 rw [if_neg cs0] at H
 have cs0b := decide_eq_false cs0
 clear cs0
 replace H := Option.bind_eq_some_iff.mp H
 obtain ⟨t2, As10, H⟩ := H
 have As1 := Aside0.mk As10
 clear As10
 by_cases cs1 : t2 < 0
 ·rw [if_pos cs1] at H
  have cs1b := decide_eq_true cs1
  clear cs1 H
  go_enter Try.func5, Try.ntmps5
  go_wp2_with (first | ((with_reducible refine gate_dst (N := 3) rfl ?_); refine box_event ?hg (N := 3) ?hd (cs := #[.slice A0_0 l0_0.length c0_0]) (t := 34) ?hr ?_; (case hd => rfl); (case hg => rfl); (case hr => first | (go_simp; done) | (go_simp; rfl)); intro gbp0 hg w101 hbox hb; replace SZ := qZ SZ (show gbp0 = w.heap.size ∧ gbp0 < w101.heap.size from ⟨hg, blk_lt hbox⟩); have BKp0_ := Aside0.mk hbox; replace SZ := qZ SZ (show w.heap.size ≤ w101.heap.size from hb.size); replace HB := qHb HB hb; have BKp0 := BKp0_; clear BKp0_ hg hbox hb) | ((with_reducible refine gate_dst (N := 4) rfl ?_); refine box_event ?hg (N := 4) ?hd (cs := #[.slice A1_0 l1_0.length c1_0, .int .i64 a1_1]) (t := 37) ?hr ?_; (case hd => rfl); (case hg => rfl); (case hr => first | (go_simp; done) | (go_simp; rfl)); intro gbp1 hg w102 hbox hb; replace SZ := qZ SZ (show gbp1 = w101.heap.size ∧ gbp1 < w102.heap.size from ⟨hg, blk_lt hbox⟩); have BKp1_ := Aside0.mk hbox; replace SZ := qZ SZ (show w101.heap.size ≤ w102.heap.size from hb.size); replace BKp0 := qBb BKp0 hb; replace HB := qHb HB hb; have BKp1 := BKp1_; clear BKp1_ hg hbox hb) | ((with_reducible refine gate_dst (N := 5) rfl ?_); refine box_event ?hg (N := 5) ?hd (cs := #[.bool a2_0, .int .i64 a2_1, .slice A2_2 l2_2.length c2_2]) (t := 41) ?hr ?_; (case hd => rfl); (case hg => rfl); (case hr => first | (go_simp; done) | (go_simp; rfl)); intro gbp2 hg w103 hbox hb; replace SZ := qZ SZ (show gbp2 = w102.heap.size ∧ gbp2 < w103.heap.size from ⟨hg, blk_lt hbox⟩); have BKp2_ := Aside0.mk hbox; replace SZ := qZ SZ (show w102.heap.size ≤ w103.heap.size from hb.size); replace BKp0 := qBb BKp0 hb; replace BKp1 := qBb BKp1 hb; replace HB := qHb HB hb; have hcp0_0 : w103.cell? ⟨gbp0, 0, none⟩ = some (.slice A0_0 l0_0.length c0_0) := kc BKp0 rfl; have hfp0_0 := blk_frozen BKp0.out 0; have BKp2 := BKp2_; clear BKp2_ hg hbox hb; clear hcp0_0 hfp0_0; have hcp0_0 : w103.cell? ⟨gbp0, 0, none⟩ = some (.slice A0_0 l0_0.length c0_0) := kc BKp0 rfl; have hfp0_0 := blk_frozen BKp0.out 0) | ((with_reducible refine gate_callee (f := 16) rfl ?_); (try (refine gate_guard (by rfl) ?_; dsimp only)); refine goesL_ (some 22) rfl rfl Try.func16 (by kernel_rfl) rfl #[.agg #[.slice A0_0 l0_0.length c0_0], .int .i64 1048576] rfl (by (try simp only [List.map_toArray, List.map_cons, List.map_nil]); first | done | rfl) ?_; (with_reducible refine (laws_szSchema.calls _ _ l0_0 1048576 _ _ ?side1 ?side2 As0.out).mono ?_); (case side1 => exact (Kd.C_below HR0_0.out HB.out)); (case side2 => exact HC0_0.out); rintro e w104 ⟨rfl, hb⟩; refine ⟨_, rfl, ?_⟩; clear hcp0_0 hfp0_0; replace SZ := qZ SZ (show w103.heap.size ≤ w104.heap.size from hb.size); replace BKp0 := qBb BKp0 hb; replace BKp1 := qBb BKp1 hb; replace BKp2 := qBb BKp2 hb; replace HB := qHb HB hb; have hcp1_0 : w104.cell? ⟨gbp1, 0, none⟩ = some (.slice A1_0 l1_0.length c1_0) := kc BKp1 rfl; have hfp1_0 := blk_frozen BKp1.out 0; have hcp1_1 : w104.cell? ⟨gbp1, 1, none⟩ = some (.int .i64 a1_1) := kc BKp1 rfl; have hfp1_1 := blk_frozen BKp1.out 1; clear hb) | ((with_reducible refine gate_callee (f := 17) rfl ?_); (try (refine gate_guard (by rfl) ?_; dsimp only)); refine goesL_ (some 27) rfl rfl Try.func17 (by kernel_rfl) rfl #[.agg #[.slice A1_0 l1_0.length c1_0, .int .i64 a1_1], .int .i64 t1] rfl (by (try simp only [List.map_toArray, List.map_cons, List.map_nil]); first | done | rfl) ?_; (with_reducible refine (laws_szSource.calls k _ _ l1_0 a1_1 t1 _ _ ?side1 ?side2 As1.out).mono ?_); (case side1 => exact (Kd.C_below HR1_0.out HB.out)); (case side2 => exact HC1_0.out); rintro e w105 ⟨rfl, hb⟩; refine ⟨_, rfl, ?_⟩; clear hcp1_0 hfp1_0 hcp1_1 hfp1_1; replace SZ := qZ SZ (show w104.heap.size ≤ w105.heap.size from hb.size); replace BKp0 := qBb BKp0 hb; replace BKp1 := qBb BKp1 hb; replace BKp2 := qBb BKp2 hb; replace HB := qHb HB hb; have hcp2_0 : w105.cell? ⟨gbp2, 0, none⟩ = some (.bool a2_0) := kc BKp2 rfl; have hfp2_0 := blk_frozen BKp2.out 0; have hcp2_1 : w105.cell? ⟨gbp2, 1, none⟩ = some (.int .i64 a2_1) := kc BKp2 rfl; have hfp2_1 := blk_frozen BKp2.out 1; have hcp2_2 : w105.cell? ⟨gbp2, 2, none⟩ = some (.slice A2_2 l2_2.length c2_2) := kc BKp2 rfl; have hfp2_2 := blk_frozen BKp2.out 2; clear hb))
  go_ret
  exact ⟨rfl, HB.out⟩
 rw [if_neg cs1] at H
 have cs1b := decide_eq_false cs1
 clear cs1
 replace H := Option.bind_eq_some_iff.mp H
 obtain ⟨t3, As20, H⟩ := H
 have As2 := Aside0.mk As20
 clear As20
 by_cases cs2 : t3 < 0
 ·rw [if_pos cs2] at H
  have cs2b := decide_eq_true cs2
  clear cs2 H
  go_enter Try.func5, Try.ntmps5
  go_wp2_with (first | ((with_reducible refine gate_dst (N := 3) rfl ?_); refine box_event ?hg (N := 3) ?hd (cs := #[.slice A0_0 l0_0.length c0_0]) (t := 34) ?hr ?_; (case hd => rfl); (case hg => rfl); (case hr => first | (go_simp; done) | (go_simp; rfl)); intro gbp0 hg w101 hbox hb; replace SZ := qZ SZ (show gbp0 = w.heap.size ∧ gbp0 < w101.heap.size from ⟨hg, blk_lt hbox⟩); have BKp0_ := Aside0.mk hbox; replace SZ := qZ SZ (show w.heap.size ≤ w101.heap.size from hb.size); replace HB := qHb HB hb; have BKp0 := BKp0_; clear BKp0_ hg hbox hb) | ((with_reducible refine gate_dst (N := 4) rfl ?_); refine box_event ?hg (N := 4) ?hd (cs := #[.slice A1_0 l1_0.length c1_0, .int .i64 a1_1]) (t := 37) ?hr ?_; (case hd => rfl); (case hg => rfl); (case hr => first | (go_simp; done) | (go_simp; rfl)); intro gbp1 hg w102 hbox hb; replace SZ := qZ SZ (show gbp1 = w101.heap.size ∧ gbp1 < w102.heap.size from ⟨hg, blk_lt hbox⟩); have BKp1_ := Aside0.mk hbox; replace SZ := qZ SZ (show w101.heap.size ≤ w102.heap.size from hb.size); replace BKp0 := qBb BKp0 hb; replace HB := qHb HB hb; have BKp1 := BKp1_; clear BKp1_ hg hbox hb) | ((with_reducible refine gate_dst (N := 5) rfl ?_); refine box_event ?hg (N := 5) ?hd (cs := #[.bool a2_0, .int .i64 a2_1, .slice A2_2 l2_2.length c2_2]) (t := 41) ?hr ?_; (case hd => rfl); (case hg => rfl); (case hr => first | (go_simp; done) | (go_simp; rfl)); intro gbp2 hg w103 hbox hb; replace SZ := qZ SZ (show gbp2 = w102.heap.size ∧ gbp2 < w103.heap.size from ⟨hg, blk_lt hbox⟩); have BKp2_ := Aside0.mk hbox; replace SZ := qZ SZ (show w102.heap.size ≤ w103.heap.size from hb.size); replace BKp0 := qBb BKp0 hb; replace BKp1 := qBb BKp1 hb; replace HB := qHb HB hb; have hcp0_0 : w103.cell? ⟨gbp0, 0, none⟩ = some (.slice A0_0 l0_0.length c0_0) := kc BKp0 rfl; have hfp0_0 := blk_frozen BKp0.out 0; have BKp2 := BKp2_; clear BKp2_ hg hbox hb; clear hcp0_0 hfp0_0; have hcp0_0 : w103.cell? ⟨gbp0, 0, none⟩ = some (.slice A0_0 l0_0.length c0_0) := kc BKp0 rfl; have hfp0_0 := blk_frozen BKp0.out 0) | ((with_reducible refine gate_callee (f := 16) rfl ?_); (try (refine gate_guard (by rfl) ?_; dsimp only)); refine goesL_ (some 22) rfl rfl Try.func16 (by kernel_rfl) rfl #[.agg #[.slice A0_0 l0_0.length c0_0], .int .i64 1048576] rfl (by (try simp only [List.map_toArray, List.map_cons, List.map_nil]); first | done | rfl) ?_; (with_reducible refine (laws_szSchema.calls _ _ l0_0 1048576 _ _ ?side1 ?side2 As0.out).mono ?_); (case side1 => exact (Kd.C_below HR0_0.out HB.out)); (case side2 => exact HC0_0.out); rintro e w104 ⟨rfl, hb⟩; refine ⟨_, rfl, ?_⟩; clear hcp0_0 hfp0_0; replace SZ := qZ SZ (show w103.heap.size ≤ w104.heap.size from hb.size); replace BKp0 := qBb BKp0 hb; replace BKp1 := qBb BKp1 hb; replace BKp2 := qBb BKp2 hb; replace HB := qHb HB hb; have hcp1_0 : w104.cell? ⟨gbp1, 0, none⟩ = some (.slice A1_0 l1_0.length c1_0) := kc BKp1 rfl; have hfp1_0 := blk_frozen BKp1.out 0; have hcp1_1 : w104.cell? ⟨gbp1, 1, none⟩ = some (.int .i64 a1_1) := kc BKp1 rfl; have hfp1_1 := blk_frozen BKp1.out 1; clear hb) | ((with_reducible refine gate_callee (f := 17) rfl ?_); (try (refine gate_guard (by rfl) ?_; dsimp only)); refine goesL_ (some 27) rfl rfl Try.func17 (by kernel_rfl) rfl #[.agg #[.slice A1_0 l1_0.length c1_0, .int .i64 a1_1], .int .i64 t1] rfl (by (try simp only [List.map_toArray, List.map_cons, List.map_nil]); first | done | rfl) ?_; (with_reducible refine (laws_szSource.calls k _ _ l1_0 a1_1 t1 _ _ ?side1 ?side2 As1.out).mono ?_); (case side1 => exact (Kd.C_below HR1_0.out HB.out)); (case side2 => exact HC1_0.out); rintro e w105 ⟨rfl, hb⟩; refine ⟨_, rfl, ?_⟩; clear hcp1_0 hfp1_0 hcp1_1 hfp1_1; replace SZ := qZ SZ (show w104.heap.size ≤ w105.heap.size from hb.size); replace BKp0 := qBb BKp0 hb; replace BKp1 := qBb BKp1 hb; replace BKp2 := qBb BKp2 hb; replace HB := qHb HB hb; have hcp2_0 : w105.cell? ⟨gbp2, 0, none⟩ = some (.bool a2_0) := kc BKp2 rfl; have hfp2_0 := blk_frozen BKp2.out 0; have hcp2_1 : w105.cell? ⟨gbp2, 1, none⟩ = some (.int .i64 a2_1) := kc BKp2 rfl; have hfp2_1 := blk_frozen BKp2.out 1; have hcp2_2 : w105.cell? ⟨gbp2, 2, none⟩ = some (.slice A2_2 l2_2.length c2_2) := kc BKp2 rfl; have hfp2_2 := blk_frozen BKp2.out 2; clear hb) | ((with_reducible refine gate_callee (f := 18) rfl ?_); (try (refine gate_guard (by rfl) ?_; dsimp only)); refine goesL_ (some 32) rfl rfl Try.func18 (by kernel_rfl) rfl #[.agg #[.bool a2_0, .int .i64 a2_1, .slice A2_2 l2_2.length c2_2], .int .i64 t2] rfl (by (try simp only [List.map_toArray, List.map_cons, List.map_nil]); first | done | rfl) ?_; (with_reducible refine (laws_szChange.calls a2_0 a2_1 _ _ l2_2 t2 _ _ ?side1 ?side2 As2.out).mono ?_); (case side1 => exact (Kd.C_below HR2_2.out HB.out)); (case side2 => exact HC2_2.out); rintro e w106 ⟨rfl, hb⟩; refine ⟨_, rfl, ?_⟩; clear hcp2_0 hfp2_0 hcp2_1 hfp2_1 hcp2_2 hfp2_2; replace SZ := qZ SZ (show w105.heap.size ≤ w106.heap.size from hb.size); replace BKp0 := qBb BKp0 hb; replace BKp1 := qBb BKp1 hb; replace BKp2 := qBb BKp2 hb; replace HB := qHb HB hb; clear hb))
  go_ret
  exact ⟨rfl, HB.out⟩
 rw [if_neg cs2] at H
 have cs2b := decide_eq_false cs2
 clear cs2
 replace H := Option.bind_eq_some_iff.mp H
 obtain ⟨t4, AtaS0, H⟩ := H
 have AtaS := Aside0.mk AtaS0
 clear AtaS0
 replace H := Option.bind_eq_some_iff.mp H
 obtain ⟨t5, AtaX0, H⟩ := H
 have AtaX := Aside0.mk AtaX0
 clear AtaX0
 replace H := Option.bind_eq_some_iff.mp H
 obtain ⟨t6, AtaC0, H⟩ := H
 have AtaC := Aside0.mk AtaC0
 clear AtaC0
 replace H := Option.bind_eq_some_iff.mp H
 obtain ⟨t7, Aw0, H⟩ := H
 have Aw := Aside0.mk Aw0
 clear Aw0
 replace H := Option.bind_eq_some_iff.mp H
 obtain ⟨t8, Ag0, H⟩ := H
 have Ag := Aside0.mk Ag0
 clear Ag0
 replace H := Option.bind_eq_some_iff.mp H
 obtain ⟨t9, Ae00, H⟩ := H
 have Ae0 := Aside0.mk Ae00
 clear Ae00
 by_cases ce_ : t9 = true
 rotate_left
 ·rw [if_neg ce_] at H; cases H
 rw [if_pos ce_] at H
 subst ce_
 by_cases cx1 : t8.2.2 = t7.2.2
 rotate_left
 ·rw [if_neg cx1] at H; cases H
 rw [if_pos cx1] at H
 have cx1b : (t8.2.2 != t7.2.2) = false := bne_eq_false_iff_eq.2 cx1
 have cx1d : (!(t8.2.2 == t7.2.2)) = false := cx1b
 have cx1c := Aside0.mk cx1
 clear cx1
 replace H := Option.bind_eq_some_iff.mp H
 obtain ⟨t10, Aq00, H⟩ := H
 have Aq0 := Aside0.mk Aq00
 clear Aq00
 by_cases ce_ : t10 = true
 rotate_left
 ·rw [if_neg ce_] at H; cases H
 rw [if_pos ce_] at H
 subst ce_
 replace H := Option.bind_eq_some_iff.mp H
 obtain ⟨t11, Aq10, H⟩ := H
 have Aq1 := Aside0.mk Aq10
 clear Aq10
 by_cases ce_ : t11 = true
 rotate_left
 ·rw [if_neg ce_] at H; cases H
 rw [if_pos ce_] at H
 subst ce_
 replace H := Option.bind_eq_some_iff.mp H
 obtain ⟨t12, Aq20, H⟩ := H
 have Aq2 := Aside0.mk Aq20
 clear Aq20
 by_cases ce_ : t12 = true
 rotate_left
 ·rw [if_neg ce_] at H; cases H
 rw [if_pos ce_] at H
 subst ce_
 by_cases cb : (1 + (cnIntS t4 : Nat) + (cnFactS t5.1 : Nat) + (cnIntS t6.2.2 : Nat) : Int) ≤ 4611686018427387000
 rotate_left
 ·rw [if_neg cb] at H; cases H
 rw [if_pos cb] at H
 have CB := Aside0.mk cb
 clear cb
 by_cases cb2 : (1 + (cnFactS t8.1 : Nat) : Int) ≤ 4611686018427387000
 rotate_left
 ·rw [if_neg cb2] at H; cases H
 rw [if_pos cb2] at H
 have CB2 := Aside0.mk cb2
 clear cb2
 have ckb : ∀ n : Nat, decide ((1 : Int) + ((n : Nat) : Int) < 0) = false := fun n => decide_eq_false (by omega)
 go_enter Try.func5, Try.ntmps5
 go_wp2_with (first | ((with_reducible refine gate_dst (N := 3) rfl ?_); refine box_event ?hg (N := 3) ?hd (cs := #[.slice A0_0 l0_0.length c0_0]) (t := 34) ?hr ?_; (case hd => rfl); (case hg => rfl); (case hr => first | (go_simp; done) | (go_simp; rfl)); intro gbp0 hg w101 hbox hb; replace SZ := qZ SZ (show gbp0 = w.heap.size ∧ gbp0 < w101.heap.size from ⟨hg, blk_lt hbox⟩); have BKp0_ := Aside0.mk hbox; replace SZ := qZ SZ (show w.heap.size ≤ w101.heap.size from hb.size); replace HB := qHb HB hb; have BKp0 := BKp0_; clear BKp0_ hg hbox hb) | ((with_reducible refine gate_dst (N := 4) rfl ?_); refine box_event ?hg (N := 4) ?hd (cs := #[.slice A1_0 l1_0.length c1_0, .int .i64 a1_1]) (t := 37) ?hr ?_; (case hd => rfl); (case hg => rfl); (case hr => first | (go_simp; done) | (go_simp; rfl)); intro gbp1 hg w102 hbox hb; replace SZ := qZ SZ (show gbp1 = w101.heap.size ∧ gbp1 < w102.heap.size from ⟨hg, blk_lt hbox⟩); have BKp1_ := Aside0.mk hbox; replace SZ := qZ SZ (show w101.heap.size ≤ w102.heap.size from hb.size); replace BKp0 := qBb BKp0 hb; replace HB := qHb HB hb; have BKp1 := BKp1_; clear BKp1_ hg hbox hb) | ((with_reducible refine gate_dst (N := 5) rfl ?_); refine box_event ?hg (N := 5) ?hd (cs := #[.bool a2_0, .int .i64 a2_1, .slice A2_2 l2_2.length c2_2]) (t := 41) ?hr ?_; (case hd => rfl); (case hg => rfl); (case hr => first | (go_simp; done) | (go_simp; rfl)); intro gbp2 hg w103 hbox hb; replace SZ := qZ SZ (show gbp2 = w102.heap.size ∧ gbp2 < w103.heap.size from ⟨hg, blk_lt hbox⟩); have BKp2_ := Aside0.mk hbox; replace SZ := qZ SZ (show w102.heap.size ≤ w103.heap.size from hb.size); replace BKp0 := qBb BKp0 hb; replace BKp1 := qBb BKp1 hb; replace HB := qHb HB hb; have hcp0_0 : w103.cell? ⟨gbp0, 0, none⟩ = some (.slice A0_0 l0_0.length c0_0) := kc BKp0 rfl; have hfp0_0 := blk_frozen BKp0.out 0; have BKp2 := BKp2_; clear BKp2_ hg hbox hb; clear hcp0_0 hfp0_0; have hcp0_0 : w103.cell? ⟨gbp0, 0, none⟩ = some (.slice A0_0 l0_0.length c0_0) := kc BKp0 rfl; have hfp0_0 := blk_frozen BKp0.out 0) | ((with_reducible refine gate_callee (f := 16) rfl ?_); (try (refine gate_guard (by rfl) ?_; dsimp only)); refine goesL_ (some 22) rfl rfl Try.func16 (by kernel_rfl) rfl #[.agg #[.slice A0_0 l0_0.length c0_0], .int .i64 1048576] rfl (by (try simp only [List.map_toArray, List.map_cons, List.map_nil]); first | done | rfl) ?_; (with_reducible refine (laws_szSchema.calls _ _ l0_0 1048576 _ _ ?side1 ?side2 As0.out).mono ?_); (case side1 => exact (Kd.C_below HR0_0.out HB.out)); (case side2 => exact HC0_0.out); rintro e w104 ⟨rfl, hb⟩; refine ⟨_, rfl, ?_⟩; clear hcp0_0 hfp0_0; replace SZ := qZ SZ (show w103.heap.size ≤ w104.heap.size from hb.size); replace BKp0 := qBb BKp0 hb; replace BKp1 := qBb BKp1 hb; replace BKp2 := qBb BKp2 hb; replace HB := qHb HB hb; have hcp1_0 : w104.cell? ⟨gbp1, 0, none⟩ = some (.slice A1_0 l1_0.length c1_0) := kc BKp1 rfl; have hfp1_0 := blk_frozen BKp1.out 0; have hcp1_1 : w104.cell? ⟨gbp1, 1, none⟩ = some (.int .i64 a1_1) := kc BKp1 rfl; have hfp1_1 := blk_frozen BKp1.out 1; clear hb) | ((with_reducible refine gate_callee (f := 17) rfl ?_); (try (refine gate_guard (by rfl) ?_; dsimp only)); refine goesL_ (some 27) rfl rfl Try.func17 (by kernel_rfl) rfl #[.agg #[.slice A1_0 l1_0.length c1_0, .int .i64 a1_1], .int .i64 t1] rfl (by (try simp only [List.map_toArray, List.map_cons, List.map_nil]); first | done | rfl) ?_; (with_reducible refine (laws_szSource.calls k _ _ l1_0 a1_1 t1 _ _ ?side1 ?side2 As1.out).mono ?_); (case side1 => exact (Kd.C_below HR1_0.out HB.out)); (case side2 => exact HC1_0.out); rintro e w105 ⟨rfl, hb⟩; refine ⟨_, rfl, ?_⟩; clear hcp1_0 hfp1_0 hcp1_1 hfp1_1; replace SZ := qZ SZ (show w104.heap.size ≤ w105.heap.size from hb.size); replace BKp0 := qBb BKp0 hb; replace BKp1 := qBb BKp1 hb; replace BKp2 := qBb BKp2 hb; replace HB := qHb HB hb; have hcp2_0 : w105.cell? ⟨gbp2, 0, none⟩ = some (.bool a2_0) := kc BKp2 rfl; have hfp2_0 := blk_frozen BKp2.out 0; have hcp2_1 : w105.cell? ⟨gbp2, 1, none⟩ = some (.int .i64 a2_1) := kc BKp2 rfl; have hfp2_1 := blk_frozen BKp2.out 1; have hcp2_2 : w105.cell? ⟨gbp2, 2, none⟩ = some (.slice A2_2 l2_2.length c2_2) := kc BKp2 rfl; have hfp2_2 := blk_frozen BKp2.out 2; clear hb) | ((with_reducible refine gate_callee (f := 18) rfl ?_); (try (refine gate_guard (by rfl) ?_; dsimp only)); refine goesL_ (some 32) rfl rfl Try.func18 (by kernel_rfl) rfl #[.agg #[.bool a2_0, .int .i64 a2_1, .slice A2_2 l2_2.length c2_2], .int .i64 t2] rfl (by (try simp only [List.map_toArray, List.map_cons, List.map_nil]); first | done | rfl) ?_; (with_reducible refine (laws_szChange.calls a2_0 a2_1 _ _ l2_2 t2 _ _ ?side1 ?side2 As2.out).mono ?_); (case side1 => exact (Kd.C_below HR2_2.out HB.out)); (case side2 => exact HC2_2.out); rintro e w106 ⟨rfl, hb⟩; refine ⟨_, rfl, ?_⟩; clear hcp2_0 hfp2_0 hcp2_1 hfp2_1 hcp2_2 hfp2_2; replace SZ := qZ SZ (show w105.heap.size ≤ w106.heap.size from hb.size); replace BKp0 := qBb BKp0 hb; replace BKp1 := qBb BKp1 hb; replace BKp2 := qBb BKp2 hb; replace HB := qHb HB hb; clear hb))
 replace SZ := qZ SZ (show w106.heap.size ≤ w106.drew.heap.size from Nat.le_refl _)
 replace BKp0 := Aside0.mk (blk_drew BKp0.out)
 replace BKp1 := Aside0.mk (blk_drew BKp1.out)
 replace BKp2 := Aside0.mk (blk_drew BKp2.out)
 replace HB := Aside0.mk (below_drew1 HB.out)
 refine start_ (n := 13) (S := fun w' => w'.cell? ⟨gbp0, 0, none⟩ = some (.slice A0_0 l0_0.length c0_0) ∧ w'.cell? ⟨gbp1, 0, none⟩ = some (.slice A1_0 l1_0.length c1_0) ∧ w'.cell? ⟨gbp1, 1, none⟩ = some (.int .i64 a1_1) ∧ w'.cell? ⟨gbp2, 0, none⟩ = some (.bool a2_0) ∧ w'.cell? ⟨gbp2, 1, none⟩ = some (.int .i64 a2_1) ∧ w'.cell? ⟨gbp2, 2, none⟩ = some (.slice A2_2 l2_2.length c2_2)) (ds := []) #[false, false, false, false, false, false, false, false, false, false, false, false, false] (by kernel_rfl) rfl rfl ⟨kc BKp0 rfl, kc BKp1 rfl, kc BKp1 rfl, kc BKp2 rfl, kc BKp2 rfl, kc BKp2 rfl⟩ (fun hHeld => ?_)
 generalize w106.drew = w107 at BKp0 BKp1 BKp2 HB SZ hHeld ⊢
 refine take_ (i := 0) (N := some 36) (v := ?_) (a' := ?_) #[true, false, false, false, false, false, false, false, false, false, false, false, false] rfl rfl (by kernel_rfl) (fun _ _ _ h => h) (Or.inl ⟨by rfl, ?_⟩) hHeld ?_ ?_
 rotate_left
 ·rintro w' ⟨s0, s1, s2, s3, s4, s5⟩
  go_simp
  with_reducible rfl
 rotate_left
 ·simp only [Act.put, sA, sZ, sS, i64_w, i32_w]
  rfl
 refine take_ (i := 2) (N := some 38) (v := ?_) (a' := ?_) #[true, false, true, false, false, false, false, false, false, false, false, false, false] rfl rfl (by kernel_rfl) (fun _ _ _ h => h) (Or.inl ⟨by rfl, ?_⟩) hHeld ?_ ?_
 rotate_left
 ·rintro w' ⟨s0, s1, s2, s3, s4, s5⟩
  go_simp
  with_reducible rfl
 rotate_left
 ·simp only [Act.put, sA, sZ, sS, i64_w, i32_w]
  rfl
 refine take_ (i := 4) (N := some 40) (v := ?_) (a' := ?_) #[true, false, true, false, true, false, false, false, false, false, false, false, false] rfl rfl (by kernel_rfl) (fun _ _ _ h => h) (Or.inl ⟨by rfl, ?_⟩) hHeld ?_ ?_
 rotate_left
 ·rintro w' ⟨s0, s1, s2, s3, s4, s5⟩
  go_simp
  with_reducible rfl
 rotate_left
 ·simp only [Act.put, sA, sZ, sS, i64_w, i32_w]
  rfl
 refine join_ (σ := Option Addr × Nat × Option Addr × Nat × Option Addr × Nat × Option Addr × Nat × Nat × Nat × Nat) 2 #[true, true, true, true, true, true, true, true, true, true, true, false, false] (fun s_ => [(37, .agg #[.slice s_.1 t4.length s_.2.1]), (39, .agg #[.slice s_.2.2.1 t5.1.length s_.2.2.2.1, .int .i64 t5.2]), (41, .agg #[.bool t6.1, .int .i64 t6.2.1, .slice s_.2.2.2.2.1 t6.2.2.length s_.2.2.2.2.2.1]), (42, .tuple #[.agg #[.slice s_.2.2.2.2.2.2.1 t7.1.length s_.2.2.2.2.2.2.2.1, .int .i64 t7.2.1], .bool t7.2.2]), (8, .pointer (some ⟨s_.2.2.2.2.2.2.2.2.2.2, 0, none⟩)), (35, .tuple #[.agg #[.slice s_.2.2.2.2.2.2.1 t7.1.length s_.2.2.2.2.2.2.2.1, .int .i64 t7.2.1], .bool t7.2.2]), (43, .agg #[.slice s_.2.2.2.2.2.2.1 t7.1.length s_.2.2.2.2.2.2.2.1, .int .i64 t7.2.1]), (44, .bool t7.2.2)]) (fun s_ w' => (w'.cell? ⟨gbp0, 0, none⟩ = some (.slice A0_0 l0_0.length c0_0) ∧ w'.cell? ⟨gbp1, 0, none⟩ = some (.slice A1_0 l1_0.length c1_0) ∧ w'.cell? ⟨gbp1, 1, none⟩ = some (.int .i64 a1_1) ∧ w'.cell? ⟨gbp2, 0, none⟩ = some (.bool a2_0) ∧ w'.cell? ⟨gbp2, 1, none⟩ = some (.int .i64 a2_1) ∧ w'.cell? ⟨gbp2, 2, none⟩ = some (.slice A2_2 l2_2.length c2_2)) ∧ (Below w107.heap.size w107 w') ∧ (FI k53 w' s_.2.2.2.2.2.2.2.2.1 s_.2.2.2.2.2.2.2.2.2.1 s_.2.2.2.2.2.2.1 t7.1) ∧ (t7.1.length ≤ s_.2.2.2.2.2.2.2.1) ∧ (w107.heap.size ≤ s_.2.2.2.2.2.2.2.2.1 ∧ s_.2.2.2.2.2.2.2.2.1 ≤ s_.2.2.2.2.2.2.2.2.2.1 ∧ s_.2.2.2.2.2.2.2.2.2.1 ≤ w'.heap.size ∧ (s_.2.2.2.2.2.2.2.2.2.2 < s_.2.2.2.2.2.2.2.2.1 ∨ s_.2.2.2.2.2.2.2.2.2.1 ≤ s_.2.2.2.2.2.2.2.2.2.2)) ∧ (w'.heap[s_.2.2.2.2.2.2.2.2.2.2]? = some (.cells #[.slice none 0 0, .int .i64 0] 47 (0, 0))) ∧ (w107.heap.size ≤ s_.2.2.2.2.2.2.2.2.2.2 ∧ s_.2.2.2.2.2.2.2.2.2.2 < w'.heap.size)) ?_ ?_
 rotate_left
 ·intro hC4_10
  refine join_ (σ := Option Addr × Nat × Option Addr × Nat × Option Addr × Nat × Option Addr × Nat × Nat × Nat) 3 #[true, true, true, true, true, true, true, true, true, true, false, false, false] (fun s_ => [(37, .agg #[.slice s_.1 t4.length s_.2.1]), (39, .agg #[.slice s_.2.2.1 t5.1.length s_.2.2.2.1, .int .i64 t5.2]), (41, .agg #[.bool t6.1, .int .i64 t6.2.1, .slice s_.2.2.2.2.1 t6.2.2.length s_.2.2.2.2.2.1]), (42, .tuple #[.agg #[.slice s_.2.2.2.2.2.2.1 t7.1.length s_.2.2.2.2.2.2.2.1, .int .i64 t7.2.1], .bool t7.2.2]), (35, .tuple #[.agg #[.slice s_.2.2.2.2.2.2.1 t7.1.length s_.2.2.2.2.2.2.2.1, .int .i64 t7.2.1], .bool t7.2.2]), (43, .agg #[.slice s_.2.2.2.2.2.2.1 t7.1.length s_.2.2.2.2.2.2.2.1, .int .i64 t7.2.1]), (44, .bool t7.2.2)]) (fun s_ w' => (w'.cell? ⟨gbp0, 0, none⟩ = some (.slice A0_0 l0_0.length c0_0) ∧ w'.cell? ⟨gbp1, 0, none⟩ = some (.slice A1_0 l1_0.length c1_0) ∧ w'.cell? ⟨gbp1, 1, none⟩ = some (.int .i64 a1_1) ∧ w'.cell? ⟨gbp2, 0, none⟩ = some (.bool a2_0) ∧ w'.cell? ⟨gbp2, 1, none⟩ = some (.int .i64 a2_1) ∧ w'.cell? ⟨gbp2, 2, none⟩ = some (.slice A2_2 l2_2.length c2_2)) ∧ (Below w107.heap.size w107 w') ∧ (FI k53 w' s_.2.2.2.2.2.2.2.2.1 s_.2.2.2.2.2.2.2.2.2 s_.2.2.2.2.2.2.1 t7.1) ∧ (t7.1.length ≤ s_.2.2.2.2.2.2.2.1) ∧ (w107.heap.size ≤ s_.2.2.2.2.2.2.2.2.1 ∧ s_.2.2.2.2.2.2.2.2.1 ≤ s_.2.2.2.2.2.2.2.2.2 ∧ s_.2.2.2.2.2.2.2.2.2 ≤ w'.heap.size)) ?_ ?_
  rotate_left
  ·intro hC4
   refine join_ (σ := Option Addr × Nat × Option Addr × Nat × Option Addr × Nat × Nat) 6 #[true, true, true, true, true, true, false, false, false, false, true, false, false] (fun s_ => [(37, .agg #[.slice s_.1 t4.length s_.2.1]), (39, .agg #[.slice s_.2.2.1 t5.1.length s_.2.2.2.1, .int .i64 t5.2]), (41, .agg #[.bool t6.1, .int .i64 t6.2.1, .slice s_.2.2.2.2.1 t6.2.2.length s_.2.2.2.2.2.1]), (8, .pointer (some ⟨s_.2.2.2.2.2.2, 0, none⟩))]) (fun s_ w' => (w'.cell? ⟨gbp0, 0, none⟩ = some (.slice A0_0 l0_0.length c0_0) ∧ w'.cell? ⟨gbp1, 0, none⟩ = some (.slice A1_0 l1_0.length c1_0) ∧ w'.cell? ⟨gbp1, 1, none⟩ = some (.int .i64 a1_1) ∧ w'.cell? ⟨gbp2, 0, none⟩ = some (.bool a2_0) ∧ w'.cell? ⟨gbp2, 1, none⟩ = some (.int .i64 a2_1) ∧ w'.cell? ⟨gbp2, 2, none⟩ = some (.slice A2_2 l2_2.length c2_2)) ∧ (Below w107.heap.size w107 w') ∧ (Kd.C (Kd.int .i64) w' s_.1 t4.length t4) ∧ (t4.length ≤ s_.2.1) ∧ (Kd.C k53 w' s_.2.2.1 t5.1.length t5.1) ∧ (t5.1.length ≤ s_.2.2.2.1) ∧ (Kd.C (Kd.int .i64) w' s_.2.2.2.2.1 t6.2.2.length t6.2.2) ∧ (t6.2.2.length ≤ s_.2.2.2.2.2.1) ∧ (w'.heap[s_.2.2.2.2.2.2]? = some (.cells #[.slice none 0 0, .int .i64 0] 47 (0, 0))) ∧ (w107.heap.size ≤ s_.2.2.2.2.2.2 ∧ s_.2.2.2.2.2.2 < w'.heap.size)) ?_ ?_
   rotate_left
   ·intro hC3_10
    refine join_ (σ := Option Addr × Nat × Option Addr × Nat × Option Addr × Nat) 7 #[true, true, true, true, true, true, false, false, false, false, false, false, false] (fun s_ => [(37, .agg #[.slice s_.1 t4.length s_.2.1]), (39, .agg #[.slice s_.2.2.1 t5.1.length s_.2.2.2.1, .int .i64 t5.2]), (41, .agg #[.bool t6.1, .int .i64 t6.2.1, .slice s_.2.2.2.2.1 t6.2.2.length s_.2.2.2.2.2])]) (fun s_ w' => (w'.cell? ⟨gbp0, 0, none⟩ = some (.slice A0_0 l0_0.length c0_0) ∧ w'.cell? ⟨gbp1, 0, none⟩ = some (.slice A1_0 l1_0.length c1_0) ∧ w'.cell? ⟨gbp1, 1, none⟩ = some (.int .i64 a1_1) ∧ w'.cell? ⟨gbp2, 0, none⟩ = some (.bool a2_0) ∧ w'.cell? ⟨gbp2, 1, none⟩ = some (.int .i64 a2_1) ∧ w'.cell? ⟨gbp2, 2, none⟩ = some (.slice A2_2 l2_2.length c2_2)) ∧ (Below w107.heap.size w107 w') ∧ (Kd.C (Kd.int .i64) w' s_.1 t4.length t4) ∧ (t4.length ≤ s_.2.1) ∧ (Kd.C k53 w' s_.2.2.1 t5.1.length t5.1) ∧ (t5.1.length ≤ s_.2.2.2.1) ∧ (Kd.C (Kd.int .i64) w' s_.2.2.2.2.1 t6.2.2.length t6.2.2) ∧ (t6.2.2.length ≤ s_.2.2.2.2.2)) ?_ ?_
    rotate_left
    ·intro hC3
     refine join_ (σ := Option Addr × Nat × Option Addr × Nat × Nat) 7 #[true, true, true, true, true, false, false, false, false, false, true, false, false] (fun s_ => [(37, .agg #[.slice s_.1 t4.length s_.2.1]), (39, .agg #[.slice s_.2.2.1 t5.1.length s_.2.2.2.1, .int .i64 t5.2]), (8, .pointer (some ⟨s_.2.2.2.2, 0, none⟩))]) (fun s_ w' => (w'.cell? ⟨gbp0, 0, none⟩ = some (.slice A0_0 l0_0.length c0_0) ∧ w'.cell? ⟨gbp1, 0, none⟩ = some (.slice A1_0 l1_0.length c1_0) ∧ w'.cell? ⟨gbp1, 1, none⟩ = some (.int .i64 a1_1) ∧ w'.cell? ⟨gbp2, 0, none⟩ = some (.bool a2_0) ∧ w'.cell? ⟨gbp2, 1, none⟩ = some (.int .i64 a2_1) ∧ w'.cell? ⟨gbp2, 2, none⟩ = some (.slice A2_2 l2_2.length c2_2)) ∧ (Below w107.heap.size w107 w') ∧ (Kd.C (Kd.int .i64) w' s_.1 t4.length t4) ∧ (t4.length ≤ s_.2.1) ∧ (Kd.C k53 w' s_.2.2.1 t5.1.length t5.1) ∧ (t5.1.length ≤ s_.2.2.2.1) ∧ (w'.heap[s_.2.2.2.2]? = some (.cells #[.slice none 0 0, .int .i64 0] 47 (0, 0))) ∧ (w107.heap.size ≤ s_.2.2.2.2 ∧ s_.2.2.2.2 < w'.heap.size)) ?_ ?_
     rotate_left
     ·intro hC2_10
      refine join_ (σ := Option Addr × Nat × Option Addr × Nat) 8 #[true, true, true, true, true, false, false, false, false, false, false, false, false] (fun s_ => [(37, .agg #[.slice s_.1 t4.length s_.2.1]), (39, .agg #[.slice s_.2.2.1 t5.1.length s_.2.2.2, .int .i64 t5.2])]) (fun s_ w' => (w'.cell? ⟨gbp0, 0, none⟩ = some (.slice A0_0 l0_0.length c0_0) ∧ w'.cell? ⟨gbp1, 0, none⟩ = some (.slice A1_0 l1_0.length c1_0) ∧ w'.cell? ⟨gbp1, 1, none⟩ = some (.int .i64 a1_1) ∧ w'.cell? ⟨gbp2, 0, none⟩ = some (.bool a2_0) ∧ w'.cell? ⟨gbp2, 1, none⟩ = some (.int .i64 a2_1) ∧ w'.cell? ⟨gbp2, 2, none⟩ = some (.slice A2_2 l2_2.length c2_2)) ∧ (Below w107.heap.size w107 w') ∧ (Kd.C (Kd.int .i64) w' s_.1 t4.length t4) ∧ (t4.length ≤ s_.2.1) ∧ (Kd.C k53 w' s_.2.2.1 t5.1.length t5.1) ∧ (t5.1.length ≤ s_.2.2.2)) ?_ ?_
      rotate_left
      ·intro hC2
       refine join_ (σ := Option Addr × Nat × Nat) 8 #[true, true, true, false, true, false, false, false, false, false, true, false, false] (fun s_ => [(37, .agg #[.slice s_.1 t4.length s_.2.1]), (8, .pointer (some ⟨s_.2.2, 0, none⟩))]) (fun s_ w' => (w'.cell? ⟨gbp0, 0, none⟩ = some (.slice A0_0 l0_0.length c0_0) ∧ w'.cell? ⟨gbp1, 0, none⟩ = some (.slice A1_0 l1_0.length c1_0) ∧ w'.cell? ⟨gbp1, 1, none⟩ = some (.int .i64 a1_1) ∧ w'.cell? ⟨gbp2, 0, none⟩ = some (.bool a2_0) ∧ w'.cell? ⟨gbp2, 1, none⟩ = some (.int .i64 a2_1) ∧ w'.cell? ⟨gbp2, 2, none⟩ = some (.slice A2_2 l2_2.length c2_2)) ∧ (Below w107.heap.size w107 w') ∧ (Kd.C (Kd.int .i64) w' s_.1 t4.length t4) ∧ (t4.length ≤ s_.2.1) ∧ (w'.heap[s_.2.2]? = some (.cells #[.slice none 0 0, .int .i64 0] 47 (0, 0))) ∧ (w107.heap.size ≤ s_.2.2 ∧ s_.2.2 < w'.heap.size)) ?_ ?_
       rotate_left
       ·intro hC1_10
        refine join_ (σ := Option Addr × Nat) 9 #[true, true, true, false, true, false, false, false, false, false, false, false, false] (fun s_ => [(37, .agg #[.slice s_.1 t4.length s_.2])]) (fun s_ w' => (w'.cell? ⟨gbp0, 0, none⟩ = some (.slice A0_0 l0_0.length c0_0) ∧ w'.cell? ⟨gbp1, 0, none⟩ = some (.slice A1_0 l1_0.length c1_0) ∧ w'.cell? ⟨gbp1, 1, none⟩ = some (.int .i64 a1_1) ∧ w'.cell? ⟨gbp2, 0, none⟩ = some (.bool a2_0) ∧ w'.cell? ⟨gbp2, 1, none⟩ = some (.int .i64 a2_1) ∧ w'.cell? ⟨gbp2, 2, none⟩ = some (.slice A2_2 l2_2.length c2_2)) ∧ (Below w107.heap.size w107 w') ∧ (Kd.C (Kd.int .i64) w' s_.1 t4.length t4) ∧ (t4.length ≤ s_.2)) ?_ ?_
        rotate_left
        ·intro hC1
         refine join_ (σ := Nat) 9 #[true, false, true, false, true, false, false, false, false, false, true, false, false] (fun s_ => [(8, .pointer (some ⟨s_, 0, none⟩))]) (fun s_ w' => (w'.cell? ⟨gbp0, 0, none⟩ = some (.slice A0_0 l0_0.length c0_0) ∧ w'.cell? ⟨gbp1, 0, none⟩ = some (.slice A1_0 l1_0.length c1_0) ∧ w'.cell? ⟨gbp1, 1, none⟩ = some (.int .i64 a1_1) ∧ w'.cell? ⟨gbp2, 0, none⟩ = some (.bool a2_0) ∧ w'.cell? ⟨gbp2, 1, none⟩ = some (.int .i64 a2_1) ∧ w'.cell? ⟨gbp2, 2, none⟩ = some (.slice A2_2 l2_2.length c2_2)) ∧ (Below w107.heap.size w107 w') ∧ (w'.heap[s_]? = some (.cells #[.slice none 0 0, .int .i64 0] 47 (0, 0))) ∧ (w107.heap.size ≤ s_ ∧ s_ < w'.heap.size)) ?_ ?_
         rotate_left
         ·intro hC0_10
          have HB0 := Aside0.mk (Below.refl w107.heap.size w107)
          refine two_ (i := 1) (j := 10) (Ni := some 37) (Nj := some 8) #[true, true, true, false, true, false, false, false, false, false, false, false, false] #[true, false, true, false, true, false, false, false, false, false, true, false, false] rfl rfl rfl rfl (by kernel_rfl) (by decide) (by decide) (fun K hK => ?_) (fun K hK => ?_)
          ·refine goes_ Try.func20 (by kernel_rfl) rfl #[.agg #[.slice A0_0 l0_0.length c0_0]] (by rfl) rfl rfl (by (try simp only [List.map_toArray, List.map_cons, List.map_nil]); first | done | rfl) ?_
           with_reducible refine (laws_toSchema.calls k _ _ l0_0 _ _ ?side1 ?side2 AtaS.out).mono ?_
           (case side1 => exact Kd.C_below HR0_0.out (below_then HB.out (below_size HB.out) HB0.out))
           (case side2 => exact HC0_0.out)
           rintro e wf0 ⟨v_0, rfl, hm0, hb⟩
           refine ⟨_, rfl, ?_⟩
           obtain ⟨A_0_0, c_0_0, rfl, hl0, hx0, hf0⟩ := open_R hm0
           have hb_ := below_then HB0.out HB0.out.size hb
           refine hK.out _ _ ⟨kb BKp0 hb_ rfl, kb BKp1 hb_ rfl, kb BKp1 hb_ rfl, kb BKp2 hb_ rfl, kb BKp2 hb_ rfl, kb BKp2 hb_ rfl⟩ (fun hHeld => ?_)
           clear hK K
           refine norm_ (a' := ?_) ?_ ?_
           rotate_left
           ·show Act.put _ (some 37) _ = _
            simp only [Act.put, sA, sZ, sS, i64_w, i32_w]
            rfl
           exact norm_ (by simp only [putAll, Act.put, sA, sZ, sS, i64_w, i32_w]) (hC1 (A_0_0, c_0_0) _ ⟨hHeld, (below_then HB0.out HB0.out.size hb), (FI.now hf0), hl0⟩)
          ·refine box_step ?hg (N := 8) ?hd (cs := #[.slice none 0 0, .int .i64 0]) (t := 47) ?hr ?_; (case hd => rfl); (case hg => rfl); (case hr => first | (go_simp; done) | (go_simp; rfl))
           intro g_10 hg wf1 hbox hb
           have hb_ := below_then HB0.out HB0.out.size hb
           refine hK.out _ _ ⟨kb BKp0 hb_ rfl, kb BKp1 hb_ rfl, kb BKp1 hb_ rfl, kb BKp2 hb_ rfl, kb BKp2 hb_ rfl, kb BKp2 hb_ rfl⟩ (fun hHeld => ?_)
           clear hK K
           refine norm_ (a' := ?_) ?_ ?_
           rotate_left
           ·show Act.put _ (some 8) _ = _
            simp only [Act.put, sA, sZ, sS, i64_w, i32_w]
            rfl
           exact norm_ (by simp only [putAll, Act.put, sA, sZ, sS, i64_w, i32_w]) (hC0_10 (g_10) _ ⟨hHeld, (below_then HB0.out HB0.out.size hb), hbox, (by have h_ := blk_lt hbox; have z_ := HB0.out.size;  (try dsimp only); omega)⟩)
         rintro g_10 wn0_10 ⟨hHeld, h_HB0, h_BG10, h_GZ10⟩
         have HB0 := Aside0.mk (show Below w107.heap.size w107 wn0_10 from h_HB0)
         have BG10 := Aside0.mk (show wn0_10.heap[g_10]? = some (.cells #[.slice none 0 0, .int .i64 0] 47 (0, 0)) from h_BG10)
         have GZ10 := Aside0.mk (show w107.heap.size ≤ g_10 ∧ g_10 < wn0_10.heap.size from h_GZ10)
         clear h_HB0 h_BG10 h_GZ10
         refine norm_ (a' := ?_) ?_ ?_
         rotate_left
         ·simp only [putAll, Act.put, sA, sZ, sS, i64_w, i32_w]
          rfl
         refine one_ (i := 1) (N := some 37) #[true, true, true, false, true, false, false, false, false, false, true, false, false] rfl rfl (by kernel_rfl) (by decide) (fun K hK => ?_)
         refine goes_ Try.func20 (by kernel_rfl) rfl #[.agg #[.slice A0_0 l0_0.length c0_0]] (by rfl) rfl rfl (by (try simp only [List.map_toArray, List.map_cons, List.map_nil]); first | done | rfl) ?_
         with_reducible refine (laws_toSchema.calls k _ _ l0_0 _ _ ?side1 ?side2 AtaS.out).mono ?_
         (case side1 => exact Kd.C_below HR0_0.out (below_then HB.out (below_size HB.out) HB0.out))
         (case side2 => exact HC0_0.out)
         rintro e wf2 ⟨v_0, rfl, hm0, hb⟩
         refine ⟨_, rfl, ?_⟩
         obtain ⟨A_0_0, c_0_0, rfl, hl0, hx0, hf0⟩ := open_R hm0
         have hb_ := below_then HB0.out HB0.out.size hb
         refine hK.out _ _ ⟨kb BKp0 hb_ rfl, kb BKp1 hb_ rfl, kb BKp1 hb_ rfl, kb BKp2 hb_ rfl, kb BKp2 hb_ rfl, kb BKp2 hb_ rfl⟩ (fun hHeld => ?_)
         clear hK K
         refine norm_ (a' := ?_) ?_ ?_
         rotate_left
         ·show Act.put _ (some 37) _ = _
          simp only [Act.put, sA, sZ, sS, i64_w, i32_w]
          rfl
         exact norm_ (by simp only [putAll, Act.put, sA, sZ, sS, i64_w, i32_w]) (hC1_10 (A_0_0, c_0_0, g_10) _ ⟨hHeld, (below_then HB0.out HB0.out.size hb), (FI.now hf0), hl0, (blk_below BG10.out hb), (by have h_ := GZ10.out; have z_ := hb.size; (try dsimp only); omega)⟩)
        rintro ⟨A_0_0, c_0_0⟩ wn1 ⟨hHeld, h_HB0, h_CF0_0, h_CD0_0⟩
        have HB0 := Aside0.mk (show Below w107.heap.size w107 wn1 from h_HB0)
        have CF0_0 := Aside0.mk (show Kd.C (Kd.int .i64) wn1 A_0_0 t4.length t4 from h_CF0_0)
        have CD0_0 := Aside0.mk (show t4.length ≤ c_0_0 from h_CD0_0)
        clear h_HB0 h_CF0_0 h_CD0_0
        refine norm_ (a' := ?_) ?_ ?_
        rotate_left
        ·simp only [putAll, Act.put, sA, sZ, sS, i64_w, i32_w]
         rfl
        refine two_ (i := 3) (j := 10) (Ni := some 39) (Nj := some 8) #[true, true, true, true, true, false, false, false, false, false, false, false, false] #[true, true, true, false, true, false, false, false, false, false, true, false, false] rfl rfl rfl rfl (by kernel_rfl) (by decide) (by decide) (fun K hK => ?_) (fun K hK => ?_)
        ·refine goes_ Try.func21 (by kernel_rfl) rfl #[.agg #[.slice A1_0 l1_0.length c1_0, .int .i64 a1_1]] (by rfl) rfl rfl (by (try simp only [List.map_toArray, List.map_cons, List.map_nil]); first | done | rfl) ?_
         with_reducible refine (laws_toSource.calls k _ _ l1_0 a1_1 _ _ _ ?side1 ?side2 AtaX.out).mono ?_
         (case side1 => exact Kd.C_below HR1_0.out (below_then HB.out (below_size HB.out) HB0.out))
         (case side2 => exact HC1_0.out)
         rintro e wf3 ⟨v_0, rfl, hm0, hb⟩
         refine ⟨_, rfl, ?_⟩
         have hm0_ := Kd.S_R hm0; clear hm0; have hm0 := hm0_; clear hm0_
         obtain ⟨A_1_0, c_1_0, rfl, hl0, hx0, hf0⟩ := open_R hm0
         have hb_ := below_then HB0.out HB0.out.size hb
         refine hK.out _ _ ⟨kb BKp0 hb_ rfl, kb BKp1 hb_ rfl, kb BKp1 hb_ rfl, kb BKp2 hb_ rfl, kb BKp2 hb_ rfl, kb BKp2 hb_ rfl⟩ (fun hHeld => ?_)
         clear hK K
         refine norm_ (a' := ?_) ?_ ?_
         rotate_left
         ·show Act.put _ (some 39) _ = _
          simp only [Act.put, sA, sZ, sS, i64_w, i32_w]
          rfl
         exact norm_ (by simp only [putAll, Act.put, sA, sZ, sS, i64_w, i32_w]) (hC2 (A_0_0, c_0_0, A_1_0, c_1_0) _ ⟨hHeld, (below_then HB0.out HB0.out.size hb), (Kd.C_below CF0_0.out hb), CD0_0.out, (FI.now hf0), hl0⟩)
        ·refine box_step ?hg (N := 8) ?hd (cs := #[.slice none 0 0, .int .i64 0]) (t := 47) ?hr ?_; (case hd => rfl); (case hg => rfl); (case hr => first | (go_simp; done) | (go_simp; rfl))
         intro g_10 hg wf4 hbox hb
         have hb_ := below_then HB0.out HB0.out.size hb
         refine hK.out _ _ ⟨kb BKp0 hb_ rfl, kb BKp1 hb_ rfl, kb BKp1 hb_ rfl, kb BKp2 hb_ rfl, kb BKp2 hb_ rfl, kb BKp2 hb_ rfl⟩ (fun hHeld => ?_)
         clear hK K
         refine norm_ (a' := ?_) ?_ ?_
         rotate_left
         ·show Act.put _ (some 8) _ = _
          simp only [Act.put, sA, sZ, sS, i64_w, i32_w]
          rfl
         exact norm_ (by simp only [putAll, Act.put, sA, sZ, sS, i64_w, i32_w]) (hC1_10 (A_0_0, c_0_0, g_10) _ ⟨hHeld, (below_then HB0.out HB0.out.size hb), (Kd.C_below CF0_0.out hb), CD0_0.out, hbox, (by have h_ := blk_lt hbox; have z_ := HB0.out.size;  (try dsimp only); omega)⟩)
       rintro ⟨A_0_0, c_0_0, g_10⟩ wn1_10 ⟨hHeld, h_HB0, h_CF0_0, h_CD0_0, h_BG10, h_GZ10⟩
       have HB0 := Aside0.mk (show Below w107.heap.size w107 wn1_10 from h_HB0)
       have CF0_0 := Aside0.mk (show Kd.C (Kd.int .i64) wn1_10 A_0_0 t4.length t4 from h_CF0_0)
       have CD0_0 := Aside0.mk (show t4.length ≤ c_0_0 from h_CD0_0)
       have BG10 := Aside0.mk (show wn1_10.heap[g_10]? = some (.cells #[.slice none 0 0, .int .i64 0] 47 (0, 0)) from h_BG10)
       have GZ10 := Aside0.mk (show w107.heap.size ≤ g_10 ∧ g_10 < wn1_10.heap.size from h_GZ10)
       clear h_HB0 h_CF0_0 h_CD0_0 h_BG10 h_GZ10
       refine norm_ (a' := ?_) ?_ ?_
       rotate_left
       ·simp only [putAll, Act.put, sA, sZ, sS, i64_w, i32_w]
        rfl
       refine one_ (i := 3) (N := some 39) #[true, true, true, true, true, false, false, false, false, false, true, false, false] rfl rfl (by kernel_rfl) (by decide) (fun K hK => ?_)
       refine goes_ Try.func21 (by kernel_rfl) rfl #[.agg #[.slice A1_0 l1_0.length c1_0, .int .i64 a1_1]] (by rfl) rfl rfl (by (try simp only [List.map_toArray, List.map_cons, List.map_nil]); first | done | rfl) ?_
       with_reducible refine (laws_toSource.calls k _ _ l1_0 a1_1 _ _ _ ?side1 ?side2 AtaX.out).mono ?_
       (case side1 => exact Kd.C_below HR1_0.out (below_then HB.out (below_size HB.out) HB0.out))
       (case side2 => exact HC1_0.out)
       rintro e wf5 ⟨v_0, rfl, hm0, hb⟩
       refine ⟨_, rfl, ?_⟩
       have hm0_ := Kd.S_R hm0; clear hm0; have hm0 := hm0_; clear hm0_
       obtain ⟨A_1_0, c_1_0, rfl, hl0, hx0, hf0⟩ := open_R hm0
       have hb_ := below_then HB0.out HB0.out.size hb
       refine hK.out _ _ ⟨kb BKp0 hb_ rfl, kb BKp1 hb_ rfl, kb BKp1 hb_ rfl, kb BKp2 hb_ rfl, kb BKp2 hb_ rfl, kb BKp2 hb_ rfl⟩ (fun hHeld => ?_)
       clear hK K
       refine norm_ (a' := ?_) ?_ ?_
       rotate_left
       ·show Act.put _ (some 39) _ = _
        simp only [Act.put, sA, sZ, sS, i64_w, i32_w]
        rfl
       exact norm_ (by simp only [putAll, Act.put, sA, sZ, sS, i64_w, i32_w]) (hC2_10 (A_0_0, c_0_0, A_1_0, c_1_0, g_10) _ ⟨hHeld, (below_then HB0.out HB0.out.size hb), (Kd.C_below CF0_0.out hb), CD0_0.out, (FI.now hf0), hl0, (blk_below BG10.out hb), (by have h_ := GZ10.out; have z_ := hb.size; (try dsimp only); omega)⟩)
      rintro ⟨A_0_0, c_0_0, A_1_0, c_1_0⟩ wn2 ⟨hHeld, h_HB0, h_CF0_0, h_CD0_0, h_CF1_0, h_CD1_0⟩
      have HB0 := Aside0.mk (show Below w107.heap.size w107 wn2 from h_HB0)
      have CF0_0 := Aside0.mk (show Kd.C (Kd.int .i64) wn2 A_0_0 t4.length t4 from h_CF0_0)
      have CD0_0 := Aside0.mk (show t4.length ≤ c_0_0 from h_CD0_0)
      have CF1_0 := Aside0.mk (show Kd.C k53 wn2 A_1_0 t5.1.length t5.1 from h_CF1_0)
      have CD1_0 := Aside0.mk (show t5.1.length ≤ c_1_0 from h_CD1_0)
      clear h_HB0 h_CF0_0 h_CD0_0 h_CF1_0 h_CD1_0
      refine norm_ (a' := ?_) ?_ ?_
      rotate_left
      ·simp only [putAll, Act.put, sA, sZ, sS, i64_w, i32_w]
       rfl
      refine two_ (i := 5) (j := 10) (Ni := some 41) (Nj := some 8) #[true, true, true, true, true, true, false, false, false, false, false, false, false] #[true, true, true, true, true, false, false, false, false, false, true, false, false] rfl rfl rfl rfl (by kernel_rfl) (by decide) (by decide) (fun K hK => ?_) (fun K hK => ?_)
      ·refine goes_ Try.func22 (by kernel_rfl) rfl #[.agg #[.bool a2_0, .int .i64 a2_1, .slice A2_2 l2_2.length c2_2]] (by rfl) rfl rfl (by (try simp only [List.map_toArray, List.map_cons, List.map_nil]); first | done | rfl) ?_
       with_reducible refine (laws_toChange.calls k a2_0 a2_1 _ _ l2_2 _ _ _ _ ?side1 ?side2 AtaC.out).mono ?_
       (case side1 => exact Kd.C_below HR2_2.out (below_then HB.out (below_size HB.out) HB0.out))
       (case side2 => exact HC2_2.out)
       rintro e wf6 ⟨v_0, rfl, hm0, hb⟩
       refine ⟨_, rfl, ?_⟩
       obtain ⟨A_2_2, c_2_2, rfl, hl0, hx0, hf0⟩ := open_R hm0
       have hb_ := below_then HB0.out HB0.out.size hb
       refine hK.out _ _ ⟨kb BKp0 hb_ rfl, kb BKp1 hb_ rfl, kb BKp1 hb_ rfl, kb BKp2 hb_ rfl, kb BKp2 hb_ rfl, kb BKp2 hb_ rfl⟩ (fun hHeld => ?_)
       clear hK K
       refine norm_ (a' := ?_) ?_ ?_
       rotate_left
       ·show Act.put _ (some 41) _ = _
        simp only [Act.put, sA, sZ, sS, i64_w, i32_w]
        rfl
       exact norm_ (by simp only [putAll, Act.put, sA, sZ, sS, i64_w, i32_w]) (hC3 (A_0_0, c_0_0, A_1_0, c_1_0, A_2_2, c_2_2) _ ⟨hHeld, (below_then HB0.out HB0.out.size hb), (Kd.C_below CF0_0.out hb), CD0_0.out, (Kd.C_below CF1_0.out hb), CD1_0.out, (FI.now hf0), hl0⟩)
      ·refine box_step ?hg (N := 8) ?hd (cs := #[.slice none 0 0, .int .i64 0]) (t := 47) ?hr ?_; (case hd => rfl); (case hg => rfl); (case hr => first | (go_simp; done) | (go_simp; rfl))
       intro g_10 hg wf7 hbox hb
       have hb_ := below_then HB0.out HB0.out.size hb
       refine hK.out _ _ ⟨kb BKp0 hb_ rfl, kb BKp1 hb_ rfl, kb BKp1 hb_ rfl, kb BKp2 hb_ rfl, kb BKp2 hb_ rfl, kb BKp2 hb_ rfl⟩ (fun hHeld => ?_)
       clear hK K
       refine norm_ (a' := ?_) ?_ ?_
       rotate_left
       ·show Act.put _ (some 8) _ = _
        simp only [Act.put, sA, sZ, sS, i64_w, i32_w]
        rfl
       exact norm_ (by simp only [putAll, Act.put, sA, sZ, sS, i64_w, i32_w]) (hC2_10 (A_0_0, c_0_0, A_1_0, c_1_0, g_10) _ ⟨hHeld, (below_then HB0.out HB0.out.size hb), (Kd.C_below CF0_0.out hb), CD0_0.out, (Kd.C_below CF1_0.out hb), CD1_0.out, hbox, (by have h_ := blk_lt hbox; have z_ := HB0.out.size;  (try dsimp only); omega)⟩)
     rintro ⟨A_0_0, c_0_0, A_1_0, c_1_0, g_10⟩ wn2_10 ⟨hHeld, h_HB0, h_CF0_0, h_CD0_0, h_CF1_0, h_CD1_0, h_BG10, h_GZ10⟩
     have HB0 := Aside0.mk (show Below w107.heap.size w107 wn2_10 from h_HB0)
     have CF0_0 := Aside0.mk (show Kd.C (Kd.int .i64) wn2_10 A_0_0 t4.length t4 from h_CF0_0)
     have CD0_0 := Aside0.mk (show t4.length ≤ c_0_0 from h_CD0_0)
     have CF1_0 := Aside0.mk (show Kd.C k53 wn2_10 A_1_0 t5.1.length t5.1 from h_CF1_0)
     have CD1_0 := Aside0.mk (show t5.1.length ≤ c_1_0 from h_CD1_0)
     have BG10 := Aside0.mk (show wn2_10.heap[g_10]? = some (.cells #[.slice none 0 0, .int .i64 0] 47 (0, 0)) from h_BG10)
     have GZ10 := Aside0.mk (show w107.heap.size ≤ g_10 ∧ g_10 < wn2_10.heap.size from h_GZ10)
     clear h_HB0 h_CF0_0 h_CD0_0 h_CF1_0 h_CD1_0 h_BG10 h_GZ10
     refine norm_ (a' := ?_) ?_ ?_
     rotate_left
     ·simp only [putAll, Act.put, sA, sZ, sS, i64_w, i32_w]
      rfl
     refine one_ (i := 5) (N := some 41) #[true, true, true, true, true, true, false, false, false, false, true, false, false] rfl rfl (by kernel_rfl) (by decide) (fun K hK => ?_)
     refine goes_ Try.func22 (by kernel_rfl) rfl #[.agg #[.bool a2_0, .int .i64 a2_1, .slice A2_2 l2_2.length c2_2]] (by rfl) rfl rfl (by (try simp only [List.map_toArray, List.map_cons, List.map_nil]); first | done | rfl) ?_
     with_reducible refine (laws_toChange.calls k a2_0 a2_1 _ _ l2_2 _ _ _ _ ?side1 ?side2 AtaC.out).mono ?_
     (case side1 => exact Kd.C_below HR2_2.out (below_then HB.out (below_size HB.out) HB0.out))
     (case side2 => exact HC2_2.out)
     rintro e wf8 ⟨v_0, rfl, hm0, hb⟩
     refine ⟨_, rfl, ?_⟩
     obtain ⟨A_2_2, c_2_2, rfl, hl0, hx0, hf0⟩ := open_R hm0
     have hb_ := below_then HB0.out HB0.out.size hb
     refine hK.out _ _ ⟨kb BKp0 hb_ rfl, kb BKp1 hb_ rfl, kb BKp1 hb_ rfl, kb BKp2 hb_ rfl, kb BKp2 hb_ rfl, kb BKp2 hb_ rfl⟩ (fun hHeld => ?_)
     clear hK K
     refine norm_ (a' := ?_) ?_ ?_
     rotate_left
     ·show Act.put _ (some 41) _ = _
      simp only [Act.put, sA, sZ, sS, i64_w, i32_w]
      rfl
     exact norm_ (by simp only [putAll, Act.put, sA, sZ, sS, i64_w, i32_w]) (hC3_10 (A_0_0, c_0_0, A_1_0, c_1_0, A_2_2, c_2_2, g_10) _ ⟨hHeld, (below_then HB0.out HB0.out.size hb), (Kd.C_below CF0_0.out hb), CD0_0.out, (Kd.C_below CF1_0.out hb), CD1_0.out, (FI.now hf0), hl0, (blk_below BG10.out hb), (by have h_ := GZ10.out; have z_ := hb.size; (try dsimp only); omega)⟩)
    rintro ⟨A_0_0, c_0_0, A_1_0, c_1_0, A_2_2, c_2_2⟩ wn3 ⟨hHeld, h_HB0, h_CF0_0, h_CD0_0, h_CF1_0, h_CD1_0, h_CF2_0, h_CD2_0⟩
    have HB0 := Aside0.mk (show Below w107.heap.size w107 wn3 from h_HB0)
    have CF0_0 := Aside0.mk (show Kd.C (Kd.int .i64) wn3 A_0_0 t4.length t4 from h_CF0_0)
    have CD0_0 := Aside0.mk (show t4.length ≤ c_0_0 from h_CD0_0)
    have CF1_0 := Aside0.mk (show Kd.C k53 wn3 A_1_0 t5.1.length t5.1 from h_CF1_0)
    have CD1_0 := Aside0.mk (show t5.1.length ≤ c_1_0 from h_CD1_0)
    have CF2_0 := Aside0.mk (show Kd.C (Kd.int .i64) wn3 A_2_2 t6.2.2.length t6.2.2 from h_CF2_0)
    have CD2_0 := Aside0.mk (show t6.2.2.length ≤ c_2_2 from h_CD2_0)
    clear h_HB0 h_CF0_0 h_CD0_0 h_CF1_0 h_CD1_0 h_CF2_0 h_CD2_0
    refine norm_ (a' := ?_) ?_ ?_
    rotate_left
    ·simp only [putAll, Act.put, sA, sZ, sS, i64_w, i32_w]
     rfl
    refine two_ (i := 6) (j := 10) (Ni := some 42) (Nj := some 8) #[true, true, true, true, true, true, true, false, false, false, false, false, false] #[true, true, true, true, true, true, false, false, false, false, true, false, false] rfl rfl rfl rfl (by kernel_rfl) (by decide) (by decide) (fun K hK => ?_) (fun K hK => ?_)
    ·refine goes_ Try.func19 (by kernel_rfl) rfl #[.agg #[.slice A_0_0 t4.length c_0_0], .agg #[.slice A_1_0 t5.1.length c_1_0, .int .i64 t5.2], .agg #[.bool t6.1, .int .i64 t6.2.1, .slice A_2_2 t6.2.2.length c_2_2]] (by rfl) rfl rfl (by (try simp only [List.map_toArray, List.map_cons, List.map_nil]); first | done | rfl) ?_
     with_reducible refine (spec_ApplyChange.calls k _ _ t4 _ _ t5.1 t5.2 t6.1 t6.2.1 _ _ t6.2.2 _ _ _ _ ?side1 ?side2 ?side3 ?side4 ?side5 ?side6 Aw.out).mono ?_
     (case side1 => exact CF0_0.out)
     (case side2 => exact CD0_0.out)
     (case side3 => exact CF1_0.out)
     (case side4 => exact CD1_0.out)
     (case side5 => exact CF2_0.out)
     (case side6 => exact CD2_0.out)
     rintro e wf9 ⟨v_0, rfl, hm0, hb⟩
     refine ⟨_, rfl, ?_⟩
     have hm0_ := Kd.S_R hm0; clear hm0; have hm0 := hm0_; clear hm0_
     obtain ⟨A_3_0, c_3_0, rfl, hl0, hx0, hf0⟩ := open_R hm0
     have hb_ := below_then HB0.out HB0.out.size hb
     refine hK.out _ _ ⟨kb BKp0 hb_ rfl, kb BKp1 hb_ rfl, kb BKp1 hb_ rfl, kb BKp2 hb_ rfl, kb BKp2 hb_ rfl, kb BKp2 hb_ rfl⟩ (fun hHeld => ?_)
     clear hK K
     refine norm_ (a' := ?_) ?_ ?_
     rotate_left
     ·show Act.put _ (some 42) _ = _
      simp only [Act.put, sA, sZ, sS, i64_w, i32_w]
      rfl
     refine pure_ (i := 7) (N := some 35) (v := ?_) (a' := ?_) #[true, true, true, true, true, true, true, true, false, false, false, false, false] rfl rfl (by kernel_rfl) (fun _ _ _ h => h) (Or.inl ⟨by rfl, ?_⟩) ?_ ?_
     rotate_left
     ·intro w'
      go_simp
      with_reducible rfl
     rotate_left
     ·simp only [Act.put, sA, sZ, sS, i64_w, i32_w]
      rfl
     refine pure_ (i := 8) (N := some 43) (v := ?_) (a' := ?_) #[true, true, true, true, true, true, true, true, true, false, false, false, false] rfl rfl (by kernel_rfl) (fun _ _ _ h => h) (Or.inl ⟨by rfl, ?_⟩) ?_ ?_
     rotate_left
     ·intro w'
      go_simp
      with_reducible rfl
     rotate_left
     ·simp only [Act.put, sA, sZ, sS, i64_w, i32_w]
      rfl
     refine pure_ (i := 9) (N := some 44) (v := ?_) (a' := ?_) #[true, true, true, true, true, true, true, true, true, true, false, false, false] rfl rfl (by kernel_rfl) (fun _ _ _ h => h) (Or.inl ⟨by rfl, ?_⟩) ?_ ?_
     rotate_left
     ·intro w'
      go_simp
      with_reducible rfl
     rotate_left
     ·simp only [Act.put, sA, sZ, sS, i64_w, i32_w]
      rfl
     exact norm_ (by simp only [putAll, Act.put, sA, sZ, sS, i64_w, i32_w]) (hC4 (A_0_0, c_0_0, A_1_0, c_1_0, A_2_2, c_2_2, A_3_0, c_3_0, wn3.heap.size, wf9.heap.size) _ ⟨hHeld, (below_then HB0.out HB0.out.size hb), hf0, hl0, (by have z_ := hb.size; have y_ := HB0.out.size;  (try dsimp only); omega)⟩)
    ·refine box_step ?hg (N := 8) ?hd (cs := #[.slice none 0 0, .int .i64 0]) (t := 47) ?hr ?_; (case hd => rfl); (case hg => rfl); (case hr => first | (go_simp; done) | (go_simp; rfl))
     intro g_10 hg wf10 hbox hb
     have hb_ := below_then HB0.out HB0.out.size hb
     refine hK.out _ _ ⟨kb BKp0 hb_ rfl, kb BKp1 hb_ rfl, kb BKp1 hb_ rfl, kb BKp2 hb_ rfl, kb BKp2 hb_ rfl, kb BKp2 hb_ rfl⟩ (fun hHeld => ?_)
     clear hK K
     refine norm_ (a' := ?_) ?_ ?_
     rotate_left
     ·show Act.put _ (some 8) _ = _
      simp only [Act.put, sA, sZ, sS, i64_w, i32_w]
      rfl
     exact norm_ (by simp only [putAll, Act.put, sA, sZ, sS, i64_w, i32_w]) (hC3_10 (A_0_0, c_0_0, A_1_0, c_1_0, A_2_2, c_2_2, g_10) _ ⟨hHeld, (below_then HB0.out HB0.out.size hb), (Kd.C_below CF0_0.out hb), CD0_0.out, (Kd.C_below CF1_0.out hb), CD1_0.out, (Kd.C_below CF2_0.out hb), CD2_0.out, hbox, (by have h_ := blk_lt hbox; have z_ := HB0.out.size;  (try dsimp only); omega)⟩)
   rintro ⟨A_0_0, c_0_0, A_1_0, c_1_0, A_2_2, c_2_2, g_10⟩ wn3_10 ⟨hHeld, h_HB0, h_CF0_0, h_CD0_0, h_CF1_0, h_CD1_0, h_CF2_0, h_CD2_0, h_BG10, h_GZ10⟩
   have HB0 := Aside0.mk (show Below w107.heap.size w107 wn3_10 from h_HB0)
   have CF0_0 := Aside0.mk (show Kd.C (Kd.int .i64) wn3_10 A_0_0 t4.length t4 from h_CF0_0)
   have CD0_0 := Aside0.mk (show t4.length ≤ c_0_0 from h_CD0_0)
   have CF1_0 := Aside0.mk (show Kd.C k53 wn3_10 A_1_0 t5.1.length t5.1 from h_CF1_0)
   have CD1_0 := Aside0.mk (show t5.1.length ≤ c_1_0 from h_CD1_0)
   have CF2_0 := Aside0.mk (show Kd.C (Kd.int .i64) wn3_10 A_2_2 t6.2.2.length t6.2.2 from h_CF2_0)
   have CD2_0 := Aside0.mk (show t6.2.2.length ≤ c_2_2 from h_CD2_0)
   have BG10 := Aside0.mk (show wn3_10.heap[g_10]? = some (.cells #[.slice none 0 0, .int .i64 0] 47 (0, 0)) from h_BG10)
   have GZ10 := Aside0.mk (show w107.heap.size ≤ g_10 ∧ g_10 < wn3_10.heap.size from h_GZ10)
   clear h_HB0 h_CF0_0 h_CD0_0 h_CF1_0 h_CD1_0 h_CF2_0 h_CD2_0 h_BG10 h_GZ10
   refine norm_ (a' := ?_) ?_ ?_
   rotate_left
   ·simp only [putAll, Act.put, sA, sZ, sS, i64_w, i32_w]
    rfl
   refine one_ (i := 6) (N := some 42) #[true, true, true, true, true, true, true, false, false, false, true, false, false] rfl rfl (by kernel_rfl) (by decide) (fun K hK => ?_)
   refine goes_ Try.func19 (by kernel_rfl) rfl #[.agg #[.slice A_0_0 t4.length c_0_0], .agg #[.slice A_1_0 t5.1.length c_1_0, .int .i64 t5.2], .agg #[.bool t6.1, .int .i64 t6.2.1, .slice A_2_2 t6.2.2.length c_2_2]] (by rfl) rfl rfl (by (try simp only [List.map_toArray, List.map_cons, List.map_nil]); first | done | rfl) ?_
   with_reducible refine (spec_ApplyChange.calls k _ _ t4 _ _ t5.1 t5.2 t6.1 t6.2.1 _ _ t6.2.2 _ _ _ _ ?side1 ?side2 ?side3 ?side4 ?side5 ?side6 Aw.out).mono ?_
   (case side1 => exact CF0_0.out)
   (case side2 => exact CD0_0.out)
   (case side3 => exact CF1_0.out)
   (case side4 => exact CD1_0.out)
   (case side5 => exact CF2_0.out)
   (case side6 => exact CD2_0.out)
   rintro e wf11 ⟨v_0, rfl, hm0, hb⟩
   refine ⟨_, rfl, ?_⟩
   have hm0_ := Kd.S_R hm0; clear hm0; have hm0 := hm0_; clear hm0_
   obtain ⟨A_3_0, c_3_0, rfl, hl0, hx0, hf0⟩ := open_R hm0
   have hb_ := below_then HB0.out HB0.out.size hb
   refine hK.out _ _ ⟨kb BKp0 hb_ rfl, kb BKp1 hb_ rfl, kb BKp1 hb_ rfl, kb BKp2 hb_ rfl, kb BKp2 hb_ rfl, kb BKp2 hb_ rfl⟩ (fun hHeld => ?_)
   clear hK K
   refine norm_ (a' := ?_) ?_ ?_
   rotate_left
   ·show Act.put _ (some 42) _ = _
    simp only [Act.put, sA, sZ, sS, i64_w, i32_w]
    rfl
   refine pure_ (i := 7) (N := some 35) (v := ?_) (a' := ?_) #[true, true, true, true, true, true, true, true, false, false, true, false, false] rfl rfl (by kernel_rfl) (fun _ _ _ h => h) (Or.inl ⟨by rfl, ?_⟩) ?_ ?_
   rotate_left
   ·intro w'
    go_simp
    with_reducible rfl
   rotate_left
   ·simp only [Act.put, sA, sZ, sS, i64_w, i32_w]
    rfl
   refine pure_ (i := 8) (N := some 43) (v := ?_) (a' := ?_) #[true, true, true, true, true, true, true, true, true, false, true, false, false] rfl rfl (by kernel_rfl) (fun _ _ _ h => h) (Or.inl ⟨by rfl, ?_⟩) ?_ ?_
   rotate_left
   ·intro w'
    go_simp
    with_reducible rfl
   rotate_left
   ·simp only [Act.put, sA, sZ, sS, i64_w, i32_w]
    rfl
   refine pure_ (i := 9) (N := some 44) (v := ?_) (a' := ?_) #[true, true, true, true, true, true, true, true, true, true, true, false, false] rfl rfl (by kernel_rfl) (fun _ _ _ h => h) (Or.inl ⟨by rfl, ?_⟩) ?_ ?_
   rotate_left
   ·intro w'
    go_simp
    with_reducible rfl
   rotate_left
   ·simp only [Act.put, sA, sZ, sS, i64_w, i32_w]
    rfl
   exact norm_ (by simp only [putAll, Act.put, sA, sZ, sS, i64_w, i32_w]) (hC4_10 (A_0_0, c_0_0, A_1_0, c_1_0, A_2_2, c_2_2, A_3_0, c_3_0, wn3_10.heap.size, wf11.heap.size, g_10) _ ⟨hHeld, (below_then HB0.out HB0.out.size hb), hf0, hl0, (by have z_ := hb.size; have y_ := HB0.out.size; have h10_ := GZ10.out; (try dsimp only); omega), (blk_below BG10.out hb), (by have h_ := GZ10.out; have z_ := hb.size; (try dsimp only); omega)⟩)
  rintro ⟨A_0_0, c_0_0, A_1_0, c_1_0, A_2_2, c_2_2, A_3_0, c_3_0, lo_, hi_⟩ wn4 ⟨hHeld, h_HB0, h_RF0, h_RD0, h_RZ⟩
  have HB0 := Aside0.mk (show Below w107.heap.size w107 wn4 from h_HB0)
  have RF0 := Aside0.mk (show FI k53 wn4 lo_ hi_ A_3_0 t7.1 from h_RF0)
  have RD0 := Aside0.mk (show t7.1.length ≤ c_3_0 from h_RD0)
  have RZ := Aside0.mk (show w107.heap.size ≤ lo_ ∧ lo_ ≤ hi_ ∧ hi_ ≤ wn4.heap.size from h_RZ)
  clear h_HB0 h_RF0 h_RD0 h_RZ
  refine norm_ (a' := ?_) ?_ ?_
  rotate_left
  ·simp only [putAll, Act.put, sA, sZ, sS, i64_w, i32_w]
   rfl
  refine one_ (i := 10) (N := some 8) #[true, true, true, true, true, true, true, true, true, true, true, false, false] rfl rfl (by kernel_rfl) (by decide) (fun K hK => ?_)
  refine box_step ?hg (N := 8) ?hd (cs := #[.slice none 0 0, .int .i64 0]) (t := 47) ?hr ?_; (case hd => rfl); (case hg => rfl); (case hr => first | (go_simp; done) | (go_simp; rfl))
  intro g_10 hg wf12 hbox hb
  have hb_ := below_then HB0.out HB0.out.size hb
  refine hK.out _ _ ⟨kb BKp0 hb_ rfl, kb BKp1 hb_ rfl, kb BKp1 hb_ rfl, kb BKp2 hb_ rfl, kb BKp2 hb_ rfl, kb BKp2 hb_ rfl⟩ (fun hHeld => ?_)
  clear hK K
  refine norm_ (a' := ?_) ?_ ?_
  rotate_left
  ·show Act.put _ (some 8) _ = _
   simp only [Act.put, sA, sZ, sS, i64_w, i32_w]
   rfl
  exact norm_ (by simp only [putAll, Act.put, sA, sZ, sS, i64_w, i32_w]) (hC4_10 (A_0_0, c_0_0, A_1_0, c_1_0, A_2_2, c_2_2, A_3_0, c_3_0, lo_, hi_, g_10) _ ⟨hHeld, (below_then HB0.out HB0.out.size hb), (FI.below RF0.out hb), RD0.out, (by have h_ := RZ.out; have z_ := hb.size;  (try dsimp only); omega), hbox, (by have h_ := blk_lt hbox; have z_ := HB0.out.size;  (try dsimp only); omega)⟩)
 rintro ⟨A_0_0, c_0_0, A_1_0, c_1_0, A_2_2, c_2_2, A_3_0, c_3_0, lo_, hi_, g_10⟩ w108 ⟨hHeld, h_HB0, h_RF0, h_RD0, h_RZ, h_BG10, h_GZ10⟩
 have HB0 := Aside0.mk (show Below w107.heap.size w107 w108 from h_HB0)
 have RF0 := Aside0.mk (show FI k53 w108 lo_ hi_ A_3_0 t7.1 from h_RF0)
 have RD0 := Aside0.mk (show t7.1.length ≤ c_3_0 from h_RD0)
 have RZ := Aside0.mk (show w107.heap.size ≤ lo_ ∧ lo_ ≤ hi_ ∧ hi_ ≤ w108.heap.size ∧ (g_10 < lo_ ∨ hi_ ≤ g_10) from h_RZ)
 have BG10 := Aside0.mk (show w108.heap[g_10]? = some (.cells #[.slice none 0 0, .int .i64 0] 47 (0, 0)) from h_BG10)
 have GZ10 := Aside0.mk (show w107.heap.size ≤ g_10 ∧ g_10 < w108.heap.size from h_GZ10)
 clear h_HB0 h_RF0 h_RD0 h_RZ h_BG10 h_GZ10
 refine norm_ (a' := ?_) ?_ ?_
 rotate_left
 ·simp only [putAll, Act.put, sA, sZ, sS, i64_w, i32_w]
  rfl
 replace BKp0 := qBb BKp0 HB0.out
 replace BKp1 := qBb BKp1 HB0.out
 replace BKp2 := qBb BKp2 HB0.out
 replace HB := qHb HB HB0.out
 replace SZ := qZ SZ (show w107.heap.size ≤ w108.heap.size from HB0.out.size)
 have SZ_ := Aside0.mk (And.intro SZ.out (And.intro RZ.out (And.intro GZ10.out trivial)))
 clear SZ RZ HB0 GZ10
 have SZ := SZ_
 clear SZ_
 have FFf1_0 := RF0
 have CCf1_0 := RD0
 clear RF0 RD0
 obtain ⟨lof1, e_⟩ : ∃ x_, x_ = lo_ := ⟨_, rfl⟩
 subst e_
 obtain ⟨hif1, e_⟩ : ∃ x_, x_ = hi_ := ⟨_, rfl⟩
 subst e_
 obtain ⟨gbb1, e_⟩ : ∃ x_, x_ = g_10 := ⟨_, rfl⟩
 subst e_
 obtain ⟨Af1_0, e_⟩ : ∃ x_, x_ = A_3_0 := ⟨_, rfl⟩
 subst e_
 obtain ⟨cf1_0, e_⟩ : ∃ x_, x_ = c_3_0 := ⟨_, rfl⟩
 subst e_
 obtain ⟨A_0_0f1, e_⟩ : ∃ x_, x_ = A_0_0 := ⟨_, rfl⟩
 subst e_
 obtain ⟨c_0_0f1, e_⟩ : ∃ x_, x_ = c_0_0 := ⟨_, rfl⟩
 subst e_
 obtain ⟨A_1_0f1, e_⟩ : ∃ x_, x_ = A_1_0 := ⟨_, rfl⟩
 subst e_
 obtain ⟨c_1_0f1, e_⟩ : ∃ x_, x_ = c_1_0 := ⟨_, rfl⟩
 subst e_
 obtain ⟨A_2_2f1, e_⟩ : ∃ x_, x_ = A_2_2 := ⟨_, rfl⟩
 subst e_
 obtain ⟨c_2_2f1, e_⟩ : ∃ x_, x_ = c_2_2 := ⟨_, rfl⟩
 subst e_
 have BKb1 := BG10
 clear BG10
 refine one_ (i := 11) (N := none) #[true, true, true, true, true, true, true, true, true, true, true, true, false] rfl rfl (by kernel_rfl) (by decide) (fun K hK => ?_)
 have hcb1_0 : w108.cell? ⟨gbb1, 0, none⟩ = some (.slice none 0 0) := kc BKb1 rfl
 have hcb1_1 : w108.cell? ⟨gbb1, 1, none⟩ = some (.int .i64 0) := kc BKb1 rfl
 have hfb1_0 := blk_frozen BKb1.out 0
 have hfb1_1 := blk_frozen BKb1.out 1
 refine skip_ (w1 := ?_) (by rfl) rfl ?_ ?_
 rotate_left
 ·go_simp
  rfl
 clear hcb1_0 hfb1_0 hcb1_1 hfb1_1
 obtain ⟨w109, hw_⟩ : ∃ W_, W_ = ((w108.setCell ⟨gbb1, 0, none⟩ (.slice Af1_0 t7.1.length cf1_0)).setCell ⟨gbb1, 1, none⟩ (.int .i64 t7.2.1)) := ⟨_, rfl⟩
 rw [← hw_]
 have hg_ : w108.grownBy w109 (some gbb1) := (by rw [hw_]; exact sg (sg (sg0 _ _) 0 _) 1 _)
 replace BKb1 := Aside0.mk (show w109.heap[gbb1]? = some (.cells #[.slice Af1_0 t7.1.length cf1_0, .int .i64 t7.2.1] 47 (0, 0)) from by rw [hw_]; exact (((set_obj (set_obj BKb1.out 0 (.slice Af1_0 t7.1.length cf1_0)) 1 (.int .i64 t7.2.1))).trans (by simp [Array.setIfInBounds])))
 have s_ := SZ.out; have z_ := below_size HB.out
 replace FFf1_0 := qFs FFf1_0 hg_ (by omega)
 replace BKp0 := qBs BKp0 hg_ (by omega)
 replace BKp1 := qBs BKp1 hg_ (by omega)
 replace BKp2 := qBs BKp2 hg_ (by omega)
 replace HB := qHs HB hg_ (by omega)
 clear s_ z_
 replace SZ := qZ SZ (show w108.heap.size ≤ w109.heap.size from by rw [hw_]; simp [World.setCell])
 clear hw_ hg_
 refine hK.out _ _ ⟨kc BKp0 rfl, kc BKp1 rfl, kc BKp1 rfl, kc BKp2 rfl, kc BKp2 rfl, kc BKp2 rfl⟩ (fun hHeld => ?_)
 clear hK K
 refine pure_ (i := 12) (N := some 9) (v := ?_) (a' := ?_) #[true, true, true, true, true, true, true, true, true, true, true, true, true] rfl rfl (by kernel_rfl) (fun _ _ _ h => h) (Or.inl ⟨by rfl, ?_⟩) ?_ ?_
 rotate_left
 ·intro w'
  go_simp
  with_reducible rfl
 rotate_left
 ·simp only [Act.put, sA, sZ, sS, i64_w, i32_w]
  rfl
 refine done_ (by kernel_rfl) ?_
 have hcp0_0 : w109.cell? ⟨gbp0, 0, none⟩ = some (.slice A0_0 l0_0.length c0_0) := kc BKp0 rfl
 have hfp0_0 := blk_frozen BKp0.out 0
 go_wp2_with (first | ((with_reducible refine gate_callee (f := 20) rfl ?_); (try (refine gate_guard (by rfl) ?_; dsimp only)); refine goesL_ (some 46) rfl rfl Try.func20 (by kernel_rfl) rfl #[.agg #[.slice A0_0 l0_0.length c0_0]] rfl (by (try simp only [List.map_toArray, List.map_cons, List.map_nil]); first | done | rfl) ?_; (with_reducible refine (laws_toSchema.calls k _ _ l0_0 _ _ ?side1 ?side2 AtaS.out).mono ?_); (case side1 => exact (Kd.C_below HR0_0.out HB.out)); (case side2 => exact HC0_0.out); rintro e w110 ⟨v10_0, rfl, hm0, hb⟩; refine ⟨_, rfl, ?_⟩; have hb0 := Aside0.mk hb; clear hcp0_0 hfp0_0; replace SZ := qZ SZ (show w109.heap.size ≤ w110.heap.size from hb.size); replace FFf1_0 := qFb FFf1_0 hb; replace BKp0 := qBb BKp0 hb; replace BKp1 := qBb BKp1 hb; replace BKp2 := qBb BKp2 hb; replace BKb1 := qBb BKb1 hb; replace HB := qHb HB hb; have RR10_0 := Aside0.mk (span_R hm0); obtain ⟨A10_0, c10_0, rfl, hl10_0, hx10_0, hf10_0⟩ := open_R hm0; have FF10_0 := Aside0.mk hf10_0; have CC10_0 := Aside0.mk hl10_0; clear hf10_0 hl10_0 hx10_0 hm0; clear hb hb0) | ((with_reducible refine gate_dst (N := 10) rfl ?_); refine box_event ?hg (N := 10) ?hd (cs := #[.slice none 0 0]) (t := 50) ?hr ?_; (case hd => rfl); (case hg => rfl); (case hr => first | (go_simp; done) | (go_simp; rfl)); intro gbb2 hg w111 hbox hb; replace SZ := qZ SZ (show gbb2 = w110.heap.size ∧ gbb2 < w111.heap.size from ⟨hg, blk_lt hbox⟩); have BKb2_ := Aside0.mk hbox; replace SZ := qZ SZ (show w110.heap.size ≤ w111.heap.size from hb.size); replace FFf1_0 := qFb FFf1_0 hb; replace FF10_0 := qFb FF10_0 hb; replace RR10_0 := qRb RR10_0 hb; replace BKp0 := qBb BKp0 hb; replace BKp1 := qBb BKp1 hb; replace BKp2 := qBb BKp2 hb; replace BKb1 := qBb BKb1 hb; replace HB := qHb HB hb; have BKb2 := BKb2_; clear BKb2_ hg hbox hb; have hcb2_0 : w111.cell? ⟨gbb2, 0, none⟩ = some (.slice none 0 0) := kc BKb2 rfl; have hfb2_0 := blk_frozen BKb2.out 0) | ((with_reducible refine gate_store (t := 50) (p := 10) rfl ?_); refine store_event (t := 50) (p := 10) (v := ?vo_w112) (w1 := (w111.setCell ⟨gbb2, 0, none⟩ (.slice A10_0 t4.length c10_0))) ?hg ?ho ?hn ?hr ?_; (case ho => rfl); (case hg => rfl); (case hn => rfl); (case hr => first | (go_simp; done) | (go_simp; rfl)); intro w112 hw_; clear hcb2_0 hfb2_0; have hg_ : w111.grownBy w112 (some gbb2) := (by rw [hw_]; exact sg (sg0 _ _) 0 _); replace BKb2 := Aside0.mk (show w112.heap[gbb2]? = some (.cells #[.slice A10_0 t4.length c10_0] 50 (0, 0)) from by rw [hw_]; exact (((set_obj BKb2.out 0 (.slice A10_0 t4.length c10_0))).trans (by simp [Array.setIfInBounds]))); have s_ := SZ.out; have z_ := below_size HB.out; replace FFf1_0 := qFs FFf1_0 hg_ (by omega); replace FF10_0 := qFs FF10_0 hg_ (by omega); replace RR10_0 := qRs RR10_0 hg_ (by omega); replace BKp0 := qBs BKp0 hg_ (by omega); replace BKp1 := qBs BKp1 hg_ (by omega); replace BKp2 := qBs BKp2 hg_ (by omega); replace BKb1 := qBs BKb1 hg_ (by omega); replace HB := qHs HB hg_ (by omega); clear s_ z_; replace SZ := qZ SZ (show w111.heap.size ≤ w112.heap.size from by rw [hw_]; simp [World.setCell]); clear hw_ hg_; have hcp1_0 : w112.cell? ⟨gbp1, 0, none⟩ = some (.slice A1_0 l1_0.length c1_0) := kc BKp1 rfl; have hfp1_0 := blk_frozen BKp1.out 0; have hcp1_1 : w112.cell? ⟨gbp1, 1, none⟩ = some (.int .i64 a1_1) := kc BKp1 rfl; have hfp1_1 := blk_frozen BKp1.out 1) | ((with_reducible refine gate_callee (f := 21) rfl ?_); (try (refine gate_guard (by rfl) ?_; dsimp only)); refine goesL_ (some 48) rfl rfl Try.func21 (by kernel_rfl) rfl #[.agg #[.slice A1_0 l1_0.length c1_0, .int .i64 a1_1]] rfl (by (try simp only [List.map_toArray, List.map_cons, List.map_nil]); first | done | rfl) ?_; (with_reducible refine (laws_toSource.calls k _ _ l1_0 a1_1 _ _ _ ?side1 ?side2 AtaX.out).mono ?_); (case side1 => exact (Kd.C_below HR1_0.out HB.out)); (case side2 => exact HC1_0.out); rintro e w113 ⟨v13_0, rfl, hm0, hb⟩; refine ⟨_, rfl, ?_⟩; have hb0 := Aside0.mk hb; clear hcp1_0 hfp1_0 hcp1_1 hfp1_1; replace SZ := qZ SZ (show w112.heap.size ≤ w113.heap.size from hb.size); replace FFf1_0 := qFb FFf1_0 hb; replace FF10_0 := qFb FF10_0 hb; replace RR10_0 := qRb RR10_0 hb; replace BKp0 := qBb BKp0 hb; replace BKp1 := qBb BKp1 hb; replace BKp2 := qBb BKp2 hb; replace BKb1 := qBb BKb1 hb; replace BKb2 := qBb BKb2 hb; replace HB := qHb HB hb; have hm0_ := Kd.S_R hm0; clear hm0; have hm0 := hm0_; clear hm0_; have RR13_0 := Aside0.mk (span_R hm0); obtain ⟨A13_0, c13_0, rfl, hl13_0, hx13_0, hf13_0⟩ := open_R hm0; have FF13_0 := Aside0.mk hf13_0; have CC13_0 := Aside0.mk hl13_0; clear hf13_0 hl13_0 hx13_0 hm0; clear hb hb0) | ((with_reducible refine gate_dst (N := 11) rfl ?_); refine box_event ?hg (N := 11) ?hd (cs := #[.slice none 0 0, .int .i64 0]) (t := 47) ?hr ?_; (case hd => rfl); (case hg => rfl); (case hr => first | (go_simp; done) | (go_simp; rfl)); intro gbb3 hg w114 hbox hb; replace SZ := qZ SZ (show gbb3 = w113.heap.size ∧ gbb3 < w114.heap.size from ⟨hg, blk_lt hbox⟩); have BKb3_ := Aside0.mk hbox; replace SZ := qZ SZ (show w113.heap.size ≤ w114.heap.size from hb.size); replace FFf1_0 := qFb FFf1_0 hb; replace FF10_0 := qFb FF10_0 hb; replace FF13_0 := qFb FF13_0 hb; replace RR10_0 := qRb RR10_0 hb; replace RR13_0 := qRb RR13_0 hb; replace BKp0 := qBb BKp0 hb; replace BKp1 := qBb BKp1 hb; replace BKp2 := qBb BKp2 hb; replace BKb1 := qBb BKb1 hb; replace BKb2 := qBb BKb2 hb; replace HB := qHb HB hb; have BKb3 := BKb3_; clear BKb3_ hg hbox hb; have hcb3_0 : w114.cell? ⟨gbb3, 0, none⟩ = some (.slice none 0 0) := kc BKb3 rfl; have hfb3_0 := blk_frozen BKb3.out 0; have hcb3_1 : w114.cell? ⟨gbb3, 1, none⟩ = some (.int .i64 0) := kc BKb3 rfl; have hfb3_1 := blk_frozen BKb3.out 1) | ((with_reducible refine gate_store (t := 47) (p := 11) rfl ?_); refine store_event (t := 47) (p := 11) (v := ?vo_w115) (w1 := ((w114.setCell ⟨gbb3, 0, none⟩ (.slice A13_0 t5.1.length c13_0)).setCell ⟨gbb3, 1, none⟩ (.int .i64 t5.2))) ?hg ?ho ?hn ?hr ?_; (case ho => rfl); (case hg => rfl); (case hn => rfl); (case hr => first | (go_simp; done) | (go_simp; rfl)); intro w115 hw_; clear hcb3_0 hfb3_0 hcb3_1 hfb3_1; have hg_ : w114.grownBy w115 (some gbb3) := (by rw [hw_]; exact sg (sg (sg0 _ _) 0 _) 1 _); replace BKb3 := Aside0.mk (show w115.heap[gbb3]? = some (.cells #[.slice A13_0 t5.1.length c13_0, .int .i64 t5.2] 47 (0, 0)) from by rw [hw_]; exact (((set_obj (set_obj BKb3.out 0 (.slice A13_0 t5.1.length c13_0)) 1 (.int .i64 t5.2))).trans (by simp [Array.setIfInBounds]))); have s_ := SZ.out; have z_ := below_size HB.out; replace FFf1_0 := qFs FFf1_0 hg_ (by omega); replace FF10_0 := qFs FF10_0 hg_ (by omega); replace FF13_0 := qFs FF13_0 hg_ (by omega); replace RR10_0 := qRs RR10_0 hg_ (by omega); replace RR13_0 := qRs RR13_0 hg_ (by omega); replace BKp0 := qBs BKp0 hg_ (by omega); replace BKp1 := qBs BKp1 hg_ (by omega); replace BKp2 := qBs BKp2 hg_ (by omega); replace BKb1 := qBs BKb1 hg_ (by omega); replace BKb2 := qBs BKb2 hg_ (by omega); replace HB := qHs HB hg_ (by omega); clear s_ z_; replace SZ := qZ SZ (show w114.heap.size ≤ w115.heap.size from by rw [hw_]; simp [World.setCell]); clear hw_ hg_; have hcp2_0 : w115.cell? ⟨gbp2, 0, none⟩ = some (.bool a2_0) := kc BKp2 rfl; have hfp2_0 := blk_frozen BKp2.out 0; have hcp2_1 : w115.cell? ⟨gbp2, 1, none⟩ = some (.int .i64 a2_1) := kc BKp2 rfl; have hfp2_1 := blk_frozen BKp2.out 1; have hcp2_2 : w115.cell? ⟨gbp2, 2, none⟩ = some (.slice A2_2 l2_2.length c2_2) := kc BKp2 rfl; have hfp2_2 := blk_frozen BKp2.out 2) | ((with_reducible refine gate_callee (f := 22) rfl ?_); (try (refine gate_guard (by rfl) ?_; dsimp only)); refine goesL_ (some 50) rfl rfl Try.func22 (by kernel_rfl) rfl #[.agg #[.bool a2_0, .int .i64 a2_1, .slice A2_2 l2_2.length c2_2]] rfl (by (try simp only [List.map_toArray, List.map_cons, List.map_nil]); first | done | rfl) ?_; (with_reducible refine (laws_toChange.calls k a2_0 a2_1 _ _ l2_2 _ _ _ _ ?side1 ?side2 AtaC.out).mono ?_); (case side1 => exact (Kd.C_below HR2_2.out HB.out)); (case side2 => exact HC2_2.out); rintro e w116 ⟨v16_0, rfl, hm0, hb⟩; refine ⟨_, rfl, ?_⟩; have hb0 := Aside0.mk hb; clear hcp2_0 hfp2_0 hcp2_1 hfp2_1 hcp2_2 hfp2_2; replace SZ := qZ SZ (show w115.heap.size ≤ w116.heap.size from hb.size); replace FFf1_0 := qFb FFf1_0 hb; replace FF10_0 := qFb FF10_0 hb; replace FF13_0 := qFb FF13_0 hb; replace RR10_0 := qRb RR10_0 hb; replace RR13_0 := qRb RR13_0 hb; replace BKp0 := qBb BKp0 hb; replace BKp1 := qBb BKp1 hb; replace BKp2 := qBb BKp2 hb; replace BKb1 := qBb BKb1 hb; replace BKb2 := qBb BKb2 hb; replace BKb3 := qBb BKb3 hb; replace HB := qHb HB hb; have RR16_0 := Aside0.mk (span_R hm0); obtain ⟨A16_0, c16_0, rfl, hl16_0, hx16_0, hf16_0⟩ := open_R hm0; have FF16_0 := Aside0.mk hf16_0; have CC16_0 := Aside0.mk hl16_0; clear hf16_0 hl16_0 hx16_0 hm0; clear hb hb0) | ((with_reducible refine gate_dst (N := 12) rfl ?_); refine box_event ?hg (N := 12) ?hd (cs := #[.bool false, .int .i64 0, .slice none 0 0]) (t := 55) ?hr ?_; (case hd => rfl); (case hg => rfl); (case hr => first | (go_simp; done) | (go_simp; rfl)); intro gbb4 hg w117 hbox hb; replace SZ := qZ SZ (show gbb4 = w116.heap.size ∧ gbb4 < w117.heap.size from ⟨hg, blk_lt hbox⟩); have BKb4_ := Aside0.mk hbox; replace SZ := qZ SZ (show w116.heap.size ≤ w117.heap.size from hb.size); replace FFf1_0 := qFb FFf1_0 hb; replace FF10_0 := qFb FF10_0 hb; replace FF13_0 := qFb FF13_0 hb; replace FF16_0 := qFb FF16_0 hb; replace RR10_0 := qRb RR10_0 hb; replace RR13_0 := qRb RR13_0 hb; replace RR16_0 := qRb RR16_0 hb; replace BKp0 := qBb BKp0 hb; replace BKp1 := qBb BKp1 hb; replace BKp2 := qBb BKp2 hb; replace BKb1 := qBb BKb1 hb; replace BKb2 := qBb BKb2 hb; replace BKb3 := qBb BKb3 hb; replace HB := qHb HB hb; have BKb4 := BKb4_; clear BKb4_ hg hbox hb; have hcb4_0 : w117.cell? ⟨gbb4, 0, none⟩ = some (.bool false) := kc BKb4 rfl; have hfb4_0 := blk_frozen BKb4.out 0; have hcb4_1 : w117.cell? ⟨gbb4, 1, none⟩ = some (.int .i64 0) := kc BKb4 rfl; have hfb4_1 := blk_frozen BKb4.out 1; have hcb4_2 : w117.cell? ⟨gbb4, 2, none⟩ = some (.slice none 0 0) := kc BKb4 rfl; have hfb4_2 := blk_frozen BKb4.out 2) | ((with_reducible refine gate_store (t := 55) (p := 12) rfl ?_); refine store_event (t := 55) (p := 12) (v := ?vo_w118) (w1 := (((w117.setCell ⟨gbb4, 0, none⟩ (.bool t6.1)).setCell ⟨gbb4, 1, none⟩ (.int .i64 t6.2.1)).setCell ⟨gbb4, 2, none⟩ (.slice A16_0 t6.2.2.length c16_0))) ?hg ?ho ?hn ?hr ?_; (case ho => rfl); (case hg => rfl); (case hn => rfl); (case hr => first | (go_simp; done) | (go_simp; rfl)); intro w118 hw_; clear hcb4_0 hfb4_0 hcb4_1 hfb4_1 hcb4_2 hfb4_2; have hg_ : w117.grownBy w118 (some gbb4) := (by rw [hw_]; exact sg (sg (sg (sg0 _ _) 0 _) 1 _) 2 _); replace BKb4 := Aside0.mk (show w118.heap[gbb4]? = some (.cells #[.bool t6.1, .int .i64 t6.2.1, .slice A16_0 t6.2.2.length c16_0] 55 (0, 0)) from by rw [hw_]; exact (((set_obj (set_obj (set_obj BKb4.out 0 (.bool t6.1)) 1 (.int .i64 t6.2.1)) 2 (.slice A16_0 t6.2.2.length c16_0))).trans (by simp [Array.setIfInBounds]))); have s_ := SZ.out; have z_ := below_size HB.out; replace FFf1_0 := qFs FFf1_0 hg_ (by omega); replace FF10_0 := qFs FF10_0 hg_ (by omega); replace FF13_0 := qFs FF13_0 hg_ (by omega); replace FF16_0 := qFs FF16_0 hg_ (by omega); replace RR10_0 := qRs RR10_0 hg_ (by omega); replace RR13_0 := qRs RR13_0 hg_ (by omega); replace RR16_0 := qRs RR16_0 hg_ (by omega); replace BKp0 := qBs BKp0 hg_ (by omega); replace BKp1 := qBs BKp1 hg_ (by omega); replace BKp2 := qBs BKp2 hg_ (by omega); replace BKb1 := qBs BKb1 hg_ (by omega); replace BKb2 := qBs BKb2 hg_ (by omega); replace BKb3 := qBs BKb3 hg_ (by omega); replace HB := qHs HB hg_ (by omega); clear s_ z_; replace SZ := qZ SZ (show w117.heap.size ≤ w118.heap.size from by rw [hw_]; simp [World.setCell]); clear hw_ hg_; have hcb2_0 : w118.cell? ⟨gbb2, 0, none⟩ = some (.slice A10_0 t4.length c10_0) := kc BKb2 rfl; have hfb2_0 := blk_frozen BKb2.out 0; have hcb3_0 : w118.cell? ⟨gbb3, 0, none⟩ = some (.slice A13_0 t5.1.length c13_0) := kc BKb3 rfl; have hfb3_0 := blk_frozen BKb3.out 0; have hcb3_1 : w118.cell? ⟨gbb3, 1, none⟩ = some (.int .i64 t5.2) := kc BKb3 rfl; have hfb3_1 := blk_frozen BKb3.out 1; have hcb4_0 : w118.cell? ⟨gbb4, 0, none⟩ = some (.bool t6.1) := kc BKb4 rfl; have hfb4_0 := blk_frozen BKb4.out 0; have hcb4_1 : w118.cell? ⟨gbb4, 1, none⟩ = some (.int .i64 t6.2.1) := kc BKb4 rfl; have hfb4_1 := blk_frozen BKb4.out 1; have hcb4_2 : w118.cell? ⟨gbb4, 2, none⟩ = some (.slice A16_0 t6.2.2.length c16_0) := kc BKb4 rfl; have hfb4_2 := blk_frozen BKb4.out 2) | ((with_reducible refine gate_callee (f := 23) rfl ?_); (try (refine gate_guard (by rfl) ?_; dsimp only)); refine goesL_ (some 55) rfl rfl Try.func23 (by kernel_rfl) rfl #[.agg #[.slice A10_0 t4.length c10_0], .agg #[.slice A13_0 t5.1.length c13_0, .int .i64 t5.2], .agg #[.bool t6.1, .int .i64 t6.2.1, .slice A16_0 t6.2.2.length c16_0]] rfl (by (try simp only [List.map_toArray, List.map_cons, List.map_nil]); first | done | rfl) ?_; (with_reducible refine (impl_ApplyChange.calls k _ _ t4 _ _ t5.1 t5.2 t6.1 t6.2.1 _ _ t6.2.2 _ _ _ _ ?side1 ?side2 ?side3 ?side4 ?side5 ?side6 Ag.out).mono ?_); (case side1 => exact (FI.now FF10_0.out)); (case side2 => exact CC10_0.out); (case side3 => exact (FI.now FF13_0.out)); (case side4 => exact CC13_0.out); (case side5 => exact (FI.now FF16_0.out)); (case side6 => exact CC16_0.out); rintro e w119 ⟨v19_0, rfl, hm0, hb⟩; refine ⟨_, rfl, ?_⟩; have hb0 := Aside0.mk hb; clear hcb2_0 hfb2_0 hcb3_0 hfb3_0 hcb3_1 hfb3_1 hcb4_0 hfb4_0 hcb4_1 hfb4_1 hcb4_2 hfb4_2; replace SZ := qZ SZ (show w118.heap.size ≤ w119.heap.size from hb.size); replace FFf1_0 := qFb FFf1_0 hb; replace FF10_0 := qFb FF10_0 hb; replace FF13_0 := qFb FF13_0 hb; replace FF16_0 := qFb FF16_0 hb; replace RR10_0 := qRb RR10_0 hb; replace RR13_0 := qRb RR13_0 hb; replace RR16_0 := qRb RR16_0 hb; replace BKp0 := qBb BKp0 hb; replace BKp1 := qBb BKp1 hb; replace BKp2 := qBb BKp2 hb; replace BKb1 := qBb BKb1 hb; replace BKb2 := qBb BKb2 hb; replace BKb3 := qBb BKb3 hb; replace BKb4 := qBb BKb4 hb; replace HB := qHb HB hb; have DG0 := Aside0.mk (Kd.S_mono (ok' := fun b => w118.heap.size ≤ b ∧ b < w119.heap.size) (Kd.S_bound hm0) (fun k_ hk => ⟨hk.2.1, hk.2.2.1⟩)); have hm0_ := Kd.S_R hm0; clear hm0; have hm0 := hm0_; clear hm0_; obtain ⟨A19_0, c19_0, rfl, hl19_0, hx19_0, hf19_0⟩ := open_R hm0; have FF19_0 := Aside0.mk hf19_0; have CC19_0 := Aside0.mk hl19_0; clear hf19_0 hl19_0 hx19_0 hm0; clear hb hb0) | ((with_reducible refine gate_dst (N := 13) rfl ?_); refine box_event ?hg (N := 13) ?hd (cs := #[.slice none 0 0, .int .i64 0]) (t := 47) ?hr ?_; (case hd => rfl); (case hg => rfl); (case hr => first | (go_simp; done) | (go_simp; rfl)); intro gbb5 hg w120 hbox hb; replace SZ := qZ SZ (show gbb5 = w119.heap.size ∧ gbb5 < w120.heap.size from ⟨hg, blk_lt hbox⟩); have BKb5_ := Aside0.mk hbox; replace SZ := qZ SZ (show w119.heap.size ≤ w120.heap.size from hb.size); replace DG0 := qDb DG0 hb; replace FFf1_0 := qFb FFf1_0 hb; replace FF10_0 := qFb FF10_0 hb; replace FF13_0 := qFb FF13_0 hb; replace FF16_0 := qFb FF16_0 hb; replace FF19_0 := qFb FF19_0 hb; replace RR10_0 := qRb RR10_0 hb; replace RR13_0 := qRb RR13_0 hb; replace RR16_0 := qRb RR16_0 hb; replace BKp0 := qBb BKp0 hb; replace BKp1 := qBb BKp1 hb; replace BKp2 := qBb BKp2 hb; replace BKb1 := qBb BKb1 hb; replace BKb2 := qBb BKb2 hb; replace BKb3 := qBb BKb3 hb; replace BKb4 := qBb BKb4 hb; replace HB := qHb HB hb; have BKb5 := BKb5_; clear BKb5_ hg hbox hb; have hcb5_0 : w120.cell? ⟨gbb5, 0, none⟩ = some (.slice none 0 0) := kc BKb5 rfl; have hfb5_0 := blk_frozen BKb5.out 0; have hcb5_1 : w120.cell? ⟨gbb5, 1, none⟩ = some (.int .i64 0) := kc BKb5 rfl; have hfb5_1 := blk_frozen BKb5.out 1) | ((with_reducible refine gate_store (t := 47) (p := 13) rfl ?_); refine store_event (t := 47) (p := 13) (v := ?vo_w121) (w1 := ((w120.setCell ⟨gbb5, 0, none⟩ (.slice A19_0 t8.1.length c19_0)).setCell ⟨gbb5, 1, none⟩ (.int .i64 t8.2.1))) ?hg ?ho ?hn ?hr ?_; (case ho => rfl); (case hg => rfl); (case hn => rfl); (case hr => first | (go_simp; done) | (go_simp; rfl)); intro w121 hw_; clear hcb5_0 hfb5_0 hcb5_1 hfb5_1; have hg_ : w120.grownBy w121 (some gbb5) := (by rw [hw_]; exact sg (sg (sg0 _ _) 0 _) 1 _); replace BKb5 := Aside0.mk (show w121.heap[gbb5]? = some (.cells #[.slice A19_0 t8.1.length c19_0, .int .i64 t8.2.1] 47 (0, 0)) from by rw [hw_]; exact (((set_obj (set_obj BKb5.out 0 (.slice A19_0 t8.1.length c19_0)) 1 (.int .i64 t8.2.1))).trans (by simp [Array.setIfInBounds]))); have s_ := SZ.out; have z_ := below_size HB.out; replace FFf1_0 := qFs FFf1_0 hg_ (by omega); replace FF10_0 := qFs FF10_0 hg_ (by omega); replace FF13_0 := qFs FF13_0 hg_ (by omega); replace FF16_0 := qFs FF16_0 hg_ (by omega); replace FF19_0 := qFs FF19_0 hg_ (by omega); replace RR10_0 := qRs RR10_0 hg_ (by omega); replace RR13_0 := qRs RR13_0 hg_ (by omega); replace RR16_0 := qRs RR16_0 hg_ (by omega); replace DG0 := qDs DG0 hg_ (by omega); replace BKp0 := qBs BKp0 hg_ (by omega); replace BKp1 := qBs BKp1 hg_ (by omega); replace BKp2 := qBs BKp2 hg_ (by omega); replace BKb1 := qBs BKb1 hg_ (by omega); replace BKb2 := qBs BKb2 hg_ (by omega); replace BKb3 := qBs BKb3 hg_ (by omega); replace BKb4 := qBs BKb4 hg_ (by omega); replace HB := qHs HB hg_ (by omega); clear s_ z_; replace SZ := qZ SZ (show w120.heap.size ≤ w121.heap.size from by rw [hw_]; simp [World.setCell]); clear hw_ hg_; have hcb1_0 : w121.cell? ⟨gbb1, 0, none⟩ = some (.slice Af1_0 t7.1.length cf1_0) := kc BKb1 rfl; have hfb1_0 := blk_frozen BKb1.out 0; have hcb1_1 : w121.cell? ⟨gbb1, 1, none⟩ = some (.int .i64 t7.2.1) := kc BKb1 rfl; have hfb1_1 := blk_frozen BKb1.out 1; have hcb5_0 : w121.cell? ⟨gbb5, 0, none⟩ = some (.slice A19_0 t8.1.length c19_0) := kc BKb5 rfl; have hfb5_0 := blk_frozen BKb5.out 0; have hcb5_1 : w121.cell? ⟨gbb5, 1, none⟩ = some (.int .i64 t8.2.1) := kc BKb5 rfl; have hfb5_1 := blk_frozen BKb5.out 1) | ((with_reducible refine gate_callee (f := 24) rfl ?_); (try (refine gate_guard (by rfl) ?_; dsimp only)); refine goesL_ (some 60) rfl rfl Try.func24 (by kernel_rfl) rfl #[.agg #[.slice A19_0 t8.1.length c19_0, .int .i64 t8.2.1], .agg #[.slice Af1_0 t7.1.length cf1_0, .int .i64 t7.2.1]] rfl (by (try simp only [List.map_toArray, List.map_cons, List.map_nil]); first | done | rfl) ?_; (with_reducible refine (laws_eqSource.calls k _ _ t8.1 t8.2.1 _ _ t7.1 t7.2.1 _ _ ?side1 ?side2 ?side3 ?side4 Ae0.out).mono ?_); (case side1 => exact (FI.now FF19_0.out)); (case side2 => exact CC19_0.out); (case side3 => exact (FI.now FFf1_0.out)); (case side4 => exact CCf1_0.out); rintro e w122 ⟨rfl, hb⟩; refine ⟨_, rfl, ?_⟩; clear hcb1_0 hfb1_0 hcb1_1 hfb1_1 hcb5_0 hfb5_0 hcb5_1 hfb5_1; replace SZ := qZ SZ (show w121.heap.size ≤ w122.heap.size from hb.size); replace DG0 := qDb DG0 hb; replace FFf1_0 := qFb FFf1_0 hb; replace FF10_0 := qFb FF10_0 hb; replace FF13_0 := qFb FF13_0 hb; replace FF16_0 := qFb FF16_0 hb; replace FF19_0 := qFb FF19_0 hb; replace RR10_0 := qRb RR10_0 hb; replace RR13_0 := qRb RR13_0 hb; replace RR16_0 := qRb RR16_0 hb; replace BKp0 := qBb BKp0 hb; replace BKp1 := qBb BKp1 hb; replace BKp2 := qBb BKp2 hb; replace BKb1 := qBb BKb1 hb; replace BKb2 := qBb BKb2 hb; replace BKb3 := qBb BKb3 hb; replace BKb4 := qBb BKb4 hb; replace BKb5 := qBb BKb5 hb; replace HB := qHb HB hb; clear hb))
 replace SZ := qZ SZ (show w122.heap.size ≤ w122.drew.heap.size from Nat.le_refl _)
 replace DG0 := Aside0.mk (Kd.S_drew DG0.out)
 replace FFf1_0 := Aside0.mk (Kd.F_drew FFf1_0.out)
 replace FF10_0 := Aside0.mk (Kd.F_drew FF10_0.out)
 replace FF13_0 := Aside0.mk (Kd.F_drew FF13_0.out)
 replace FF16_0 := Aside0.mk (Kd.F_drew FF16_0.out)
 replace FF19_0 := Aside0.mk (Kd.F_drew FF19_0.out)
 replace RR10_0 := Aside0.mk (Kd.R_drew RR10_0.out)
 replace RR13_0 := Aside0.mk (Kd.R_drew RR13_0.out)
 replace RR16_0 := Aside0.mk (Kd.R_drew RR16_0.out)
 replace BKp0 := Aside0.mk (blk_drew BKp0.out)
 replace BKp1 := Aside0.mk (blk_drew BKp1.out)
 replace BKp2 := Aside0.mk (blk_drew BKp2.out)
 replace BKb1 := Aside0.mk (blk_drew BKb1.out)
 replace BKb2 := Aside0.mk (blk_drew BKb2.out)
 replace BKb3 := Aside0.mk (blk_drew BKb3.out)
 replace BKb4 := Aside0.mk (blk_drew BKb4.out)
 replace BKb5 := Aside0.mk (blk_drew BKb5.out)
 replace HB := Aside0.mk (below_drew1 HB.out)
 refine start_ (n := 5) (S := fun w' => w'.cell? ⟨gbp0, 0, none⟩ = some (.slice A0_0 l0_0.length c0_0) ∧ w'.cell? ⟨gbp1, 0, none⟩ = some (.slice A1_0 l1_0.length c1_0) ∧ w'.cell? ⟨gbp1, 1, none⟩ = some (.int .i64 a1_1) ∧ w'.cell? ⟨gbp2, 0, none⟩ = some (.bool a2_0) ∧ w'.cell? ⟨gbp2, 1, none⟩ = some (.int .i64 a2_1) ∧ w'.cell? ⟨gbp2, 2, none⟩ = some (.slice A2_2 l2_2.length c2_2) ∧ w'.cell? ⟨gbb1, 0, none⟩ = some (.slice Af1_0 t7.1.length cf1_0) ∧ w'.cell? ⟨gbb1, 1, none⟩ = some (.int .i64 t7.2.1) ∧ w'.cell? ⟨gbb2, 0, none⟩ = some (.slice A10_0 t4.length c10_0) ∧ w'.cell? ⟨gbb3, 0, none⟩ = some (.slice A13_0 t5.1.length c13_0) ∧ w'.cell? ⟨gbb3, 1, none⟩ = some (.int .i64 t5.2) ∧ w'.cell? ⟨gbb4, 0, none⟩ = some (.bool t6.1) ∧ w'.cell? ⟨gbb4, 1, none⟩ = some (.int .i64 t6.2.1) ∧ w'.cell? ⟨gbb4, 2, none⟩ = some (.slice A16_0 t6.2.2.length c16_0) ∧ w'.cell? ⟨gbb5, 0, none⟩ = some (.slice A19_0 t8.1.length c19_0) ∧ w'.cell? ⟨gbb5, 1, none⟩ = some (.int .i64 t8.2.1)) (ds := []) #[false, false, false, false, false] (by kernel_rfl) rfl rfl ⟨kc BKp0 rfl, kc BKp1 rfl, kc BKp1 rfl, kc BKp2 rfl, kc BKp2 rfl, kc BKp2 rfl, kc BKb1 rfl, kc BKb1 rfl, kc BKb2 rfl, kc BKb3 rfl, kc BKb3 rfl, kc BKb4 rfl, kc BKb4 rfl, kc BKb4 rfl, kc BKb5 rfl, kc BKb5 rfl⟩ (fun hHeld => ?_)
 generalize w122.drew = w123 at DG0 FFf1_0 FF10_0 FF13_0 FF16_0 FF19_0 RR10_0 RR13_0 RR16_0 BKp0 BKp1 BKp2 BKb1 BKb2 BKb3 BKb4 BKb5 HB SZ hHeld ⊢
 refine take_ (i := 0) (N := some 67) (v := ?_) (a' := ?_) #[true, false, false, false, false] rfl rfl (by kernel_rfl) (fun _ _ _ h => h) (Or.inl ⟨by rfl, ?_⟩) hHeld ?_ ?_
 rotate_left
 ·rintro w' ⟨s0, s1, s2, s3, s4, s5, s6, s7, s8, s9, s10, s11, s12, s13, s14, s15⟩
  go_simp
  with_reducible rfl
 rotate_left
 ·simp only [Act.put, sA, sZ, sS, i64_w, i32_w]
  rfl
 refine take_ (i := 1) (N := some 68) (v := ?_) (a' := ?_) #[true, true, false, false, false] rfl rfl (by kernel_rfl) (fun _ _ _ h => h) (Or.inl ⟨by rfl, ?_⟩) hHeld ?_ ?_
 rotate_left
 ·rintro w' ⟨s0, s1, s2, s3, s4, s5, s6, s7, s8, s9, s10, s11, s12, s13, s14, s15⟩
  go_simp
  with_reducible rfl
 rotate_left
 ·simp only [Act.put, sA, sZ, sS, i64_w, i32_w]
  rfl
 refine one_ (i := 2) (N := some 69) #[true, true, true, false, false] rfl rfl (by kernel_rfl) (by decide) (fun K hK => ?_)
 refine goes_ Try.func20 (by kernel_rfl) rfl #[.agg #[.slice A0_0 l0_0.length c0_0]] (by rfl) rfl rfl (by (try simp only [List.map_toArray, List.map_cons, List.map_nil]); first | done | rfl) ?_
 (with_reducible refine (laws_toSchema.calls k _ _ l0_0 _ _ ?side1 ?side2 AtaS.out).mono ?_)
 (case side1 => exact (Kd.C_below HR0_0.out HB.out))
 (case side2 => exact HC0_0.out)
 rintro e w124 ⟨v24_0, rfl, hm0, hb⟩
 refine ⟨_, rfl, ?_⟩
 have hb0 := Aside0.mk hb
 replace SZ := qZ SZ (show w123.heap.size ≤ w124.heap.size from hb.size)
 replace DG0 := qDb DG0 hb
 replace FFf1_0 := qFb FFf1_0 hb
 replace FF10_0 := qFb FF10_0 hb
 replace FF13_0 := qFb FF13_0 hb
 replace FF16_0 := qFb FF16_0 hb
 replace FF19_0 := qFb FF19_0 hb
 replace RR10_0 := qRb RR10_0 hb
 replace RR13_0 := qRb RR13_0 hb
 replace RR16_0 := qRb RR16_0 hb
 replace BKp0 := qBb BKp0 hb
 replace BKp1 := qBb BKp1 hb
 replace BKp2 := qBb BKp2 hb
 replace BKb1 := qBb BKb1 hb
 replace BKb2 := qBb BKb2 hb
 replace BKb3 := qBb BKb3 hb
 replace BKb4 := qBb BKb4 hb
 replace BKb5 := qBb BKb5 hb
 replace HB := qHb HB hb
 obtain ⟨A24_0, c24_0, rfl, hl24_0, hx24_0, hf24_0⟩ := open_R hm0; have FF24_0 := Aside0.mk hf24_0; have CC24_0 := Aside0.mk hl24_0; clear hf24_0 hl24_0 hx24_0 hm0
 clear hb hb0
 refine hK.out _ _ ⟨kc BKp0 rfl, kc BKp1 rfl, kc BKp1 rfl, kc BKp2 rfl, kc BKp2 rfl, kc BKp2 rfl, kc BKb1 rfl, kc BKb1 rfl, kc BKb2 rfl, kc BKb3 rfl, kc BKb3 rfl, kc BKb4 rfl, kc BKb4 rfl, kc BKb4 rfl, kc BKb5 rfl, kc BKb5 rfl⟩ (fun hHeld => ?_)
 clear hK K
 refine norm_ (a' := ?_) ?_ ?_
 rotate_left
 ·show Act.put _ (some 69) _ = _
  simp only [Act.put, sA, sZ, sS, i64_w, i32_w]
  rfl
 refine one_ (i := 3) (N := some 70) #[true, true, true, true, false] rfl rfl (by kernel_rfl) (by decide) (fun K hK => ?_)
 refine goes_ Try.func25 (by kernel_rfl) rfl #[.agg #[.slice A10_0 t4.length c10_0], .agg #[.slice A24_0 t4.length c24_0]] (by rfl) rfl rfl (by (try simp only [List.map_toArray, List.map_cons, List.map_nil]); first | done | rfl) ?_
 (with_reducible refine (laws_eqSchema.calls k _ _ t4 _ _ t4 _ _ ?side1 ?side2 ?side3 ?side4 Aq0.out).mono ?_)
 (case side1 => exact (FI.now FF10_0.out))
 (case side2 => exact CC10_0.out)
 (case side3 => exact (FI.now FF24_0.out))
 (case side4 => exact CC24_0.out)
 rintro e w125 ⟨rfl, hb⟩
 refine ⟨_, rfl, ?_⟩
 replace SZ := qZ SZ (show w124.heap.size ≤ w125.heap.size from hb.size)
 replace DG0 := qDb DG0 hb
 replace FFf1_0 := qFb FFf1_0 hb
 replace FF10_0 := qFb FF10_0 hb
 replace FF13_0 := qFb FF13_0 hb
 replace FF16_0 := qFb FF16_0 hb
 replace FF19_0 := qFb FF19_0 hb
 replace FF24_0 := qFb FF24_0 hb
 replace RR10_0 := qRb RR10_0 hb
 replace RR13_0 := qRb RR13_0 hb
 replace RR16_0 := qRb RR16_0 hb
 replace BKp0 := qBb BKp0 hb
 replace BKp1 := qBb BKp1 hb
 replace BKp2 := qBb BKp2 hb
 replace BKb1 := qBb BKb1 hb
 replace BKb2 := qBb BKb2 hb
 replace BKb3 := qBb BKb3 hb
 replace BKb4 := qBb BKb4 hb
 replace BKb5 := qBb BKb5 hb
 replace HB := qHb HB hb
 clear hb
 refine hK.out _ _ ⟨kc BKp0 rfl, kc BKp1 rfl, kc BKp1 rfl, kc BKp2 rfl, kc BKp2 rfl, kc BKp2 rfl, kc BKb1 rfl, kc BKb1 rfl, kc BKb2 rfl, kc BKb3 rfl, kc BKb3 rfl, kc BKb4 rfl, kc BKb4 rfl, kc BKb4 rfl, kc BKb5 rfl, kc BKb5 rfl⟩ (fun hHeld => ?_)
 clear hK K
 refine norm_ (a' := ?_) ?_ ?_
 rotate_left
 ·show Act.put _ (some 70) _ = _
  simp only [Act.put, sA, sZ, sS, i64_w, i32_w]
  rfl
 refine pure_ (i := 4) (N := some 71) (v := ?_) (a' := ?_) #[true, true, true, true, true] rfl rfl (by kernel_rfl) (fun _ _ _ h => h) (Or.inl ⟨by rfl, ?_⟩) ?_ ?_
 rotate_left
 ·intro w'
  go_simp
  with_reducible rfl
 rotate_left
 ·simp only [Act.put, sA, sZ, sS, i64_w, i32_w]
  rfl
 refine done_ (by kernel_rfl) ?_
 go_wp2
 replace SZ := qZ SZ (show w125.heap.size ≤ w125.drew.heap.size from Nat.le_refl _)
 replace DG0 := Aside0.mk (Kd.S_drew DG0.out)
 replace FFf1_0 := Aside0.mk (Kd.F_drew FFf1_0.out)
 replace FF10_0 := Aside0.mk (Kd.F_drew FF10_0.out)
 replace FF13_0 := Aside0.mk (Kd.F_drew FF13_0.out)
 replace FF16_0 := Aside0.mk (Kd.F_drew FF16_0.out)
 replace FF19_0 := Aside0.mk (Kd.F_drew FF19_0.out)
 replace FF24_0 := Aside0.mk (Kd.F_drew FF24_0.out)
 replace RR10_0 := Aside0.mk (Kd.R_drew RR10_0.out)
 replace RR13_0 := Aside0.mk (Kd.R_drew RR13_0.out)
 replace RR16_0 := Aside0.mk (Kd.R_drew RR16_0.out)
 replace BKp0 := Aside0.mk (blk_drew BKp0.out)
 replace BKp1 := Aside0.mk (blk_drew BKp1.out)
 replace BKp2 := Aside0.mk (blk_drew BKp2.out)
 replace BKb1 := Aside0.mk (blk_drew BKb1.out)
 replace BKb2 := Aside0.mk (blk_drew BKb2.out)
 replace BKb3 := Aside0.mk (blk_drew BKb3.out)
 replace BKb4 := Aside0.mk (blk_drew BKb4.out)
 replace BKb5 := Aside0.mk (blk_drew BKb5.out)
 replace HB := Aside0.mk (below_drew1 HB.out)
 refine start_ (n := 5) (S := fun w' => w'.cell? ⟨gbp0, 0, none⟩ = some (.slice A0_0 l0_0.length c0_0) ∧ w'.cell? ⟨gbp1, 0, none⟩ = some (.slice A1_0 l1_0.length c1_0) ∧ w'.cell? ⟨gbp1, 1, none⟩ = some (.int .i64 a1_1) ∧ w'.cell? ⟨gbp2, 0, none⟩ = some (.bool a2_0) ∧ w'.cell? ⟨gbp2, 1, none⟩ = some (.int .i64 a2_1) ∧ w'.cell? ⟨gbp2, 2, none⟩ = some (.slice A2_2 l2_2.length c2_2) ∧ w'.cell? ⟨gbb1, 0, none⟩ = some (.slice Af1_0 t7.1.length cf1_0) ∧ w'.cell? ⟨gbb1, 1, none⟩ = some (.int .i64 t7.2.1) ∧ w'.cell? ⟨gbb2, 0, none⟩ = some (.slice A10_0 t4.length c10_0) ∧ w'.cell? ⟨gbb3, 0, none⟩ = some (.slice A13_0 t5.1.length c13_0) ∧ w'.cell? ⟨gbb3, 1, none⟩ = some (.int .i64 t5.2) ∧ w'.cell? ⟨gbb4, 0, none⟩ = some (.bool t6.1) ∧ w'.cell? ⟨gbb4, 1, none⟩ = some (.int .i64 t6.2.1) ∧ w'.cell? ⟨gbb4, 2, none⟩ = some (.slice A16_0 t6.2.2.length c16_0) ∧ w'.cell? ⟨gbb5, 0, none⟩ = some (.slice A19_0 t8.1.length c19_0) ∧ w'.cell? ⟨gbb5, 1, none⟩ = some (.int .i64 t8.2.1)) (ds := []) #[false, false, false, false, false] (by kernel_rfl) rfl rfl ⟨kc BKp0 rfl, kc BKp1 rfl, kc BKp1 rfl, kc BKp2 rfl, kc BKp2 rfl, kc BKp2 rfl, kc BKb1 rfl, kc BKb1 rfl, kc BKb2 rfl, kc BKb3 rfl, kc BKb3 rfl, kc BKb4 rfl, kc BKb4 rfl, kc BKb4 rfl, kc BKb5 rfl, kc BKb5 rfl⟩ (fun hHeld => ?_)
 generalize w125.drew = w126 at DG0 FFf1_0 FF10_0 FF13_0 FF16_0 FF19_0 FF24_0 RR10_0 RR13_0 RR16_0 BKp0 BKp1 BKp2 BKb1 BKb2 BKb3 BKb4 BKb5 HB SZ hHeld ⊢
 refine take_ (i := 0) (N := some 72) (v := ?_) (a' := ?_) #[true, false, false, false, false] rfl rfl (by kernel_rfl) (fun _ _ _ h => h) (Or.inl ⟨by rfl, ?_⟩) hHeld ?_ ?_
 rotate_left
 ·rintro w' ⟨s0, s1, s2, s3, s4, s5, s6, s7, s8, s9, s10, s11, s12, s13, s14, s15⟩
  go_simp
  with_reducible rfl
 rotate_left
 ·simp only [Act.put, sA, sZ, sS, i64_w, i32_w]
  rfl
 refine take_ (i := 1) (N := some 73) (v := ?_) (a' := ?_) #[true, true, false, false, false] rfl rfl (by kernel_rfl) (fun _ _ _ h => h) (Or.inl ⟨by rfl, ?_⟩) hHeld ?_ ?_
 rotate_left
 ·rintro w' ⟨s0, s1, s2, s3, s4, s5, s6, s7, s8, s9, s10, s11, s12, s13, s14, s15⟩
  go_simp
  with_reducible rfl
 rotate_left
 ·simp only [Act.put, sA, sZ, sS, i64_w, i32_w]
  rfl
 refine one_ (i := 2) (N := some 74) #[true, true, true, false, false] rfl rfl (by kernel_rfl) (by decide) (fun K hK => ?_)
 refine goes_ Try.func21 (by kernel_rfl) rfl #[.agg #[.slice A1_0 l1_0.length c1_0, .int .i64 a1_1]] (by rfl) rfl rfl (by (try simp only [List.map_toArray, List.map_cons, List.map_nil]); first | done | rfl) ?_
 (with_reducible refine (laws_toSource.calls k _ _ l1_0 a1_1 _ _ _ ?side1 ?side2 AtaX.out).mono ?_)
 (case side1 => exact (Kd.C_below HR1_0.out HB.out))
 (case side2 => exact HC1_0.out)
 rintro e w127 ⟨v27_0, rfl, hm0, hb⟩
 refine ⟨_, rfl, ?_⟩
 have hb0 := Aside0.mk hb
 replace SZ := qZ SZ (show w126.heap.size ≤ w127.heap.size from hb.size)
 replace DG0 := qDb DG0 hb
 replace FFf1_0 := qFb FFf1_0 hb
 replace FF10_0 := qFb FF10_0 hb
 replace FF13_0 := qFb FF13_0 hb
 replace FF16_0 := qFb FF16_0 hb
 replace FF19_0 := qFb FF19_0 hb
 replace FF24_0 := qFb FF24_0 hb
 replace RR10_0 := qRb RR10_0 hb
 replace RR13_0 := qRb RR13_0 hb
 replace RR16_0 := qRb RR16_0 hb
 replace BKp0 := qBb BKp0 hb
 replace BKp1 := qBb BKp1 hb
 replace BKp2 := qBb BKp2 hb
 replace BKb1 := qBb BKb1 hb
 replace BKb2 := qBb BKb2 hb
 replace BKb3 := qBb BKb3 hb
 replace BKb4 := qBb BKb4 hb
 replace BKb5 := qBb BKb5 hb
 replace HB := qHb HB hb
 have hm0_ := Kd.S_R hm0; clear hm0; have hm0 := hm0_; clear hm0_
 obtain ⟨A27_0, c27_0, rfl, hl27_0, hx27_0, hf27_0⟩ := open_R hm0; have FF27_0 := Aside0.mk hf27_0; have CC27_0 := Aside0.mk hl27_0; clear hf27_0 hl27_0 hx27_0 hm0
 clear hb hb0
 refine hK.out _ _ ⟨kc BKp0 rfl, kc BKp1 rfl, kc BKp1 rfl, kc BKp2 rfl, kc BKp2 rfl, kc BKp2 rfl, kc BKb1 rfl, kc BKb1 rfl, kc BKb2 rfl, kc BKb3 rfl, kc BKb3 rfl, kc BKb4 rfl, kc BKb4 rfl, kc BKb4 rfl, kc BKb5 rfl, kc BKb5 rfl⟩ (fun hHeld => ?_)
 clear hK K
 refine norm_ (a' := ?_) ?_ ?_
 rotate_left
 ·show Act.put _ (some 74) _ = _
  simp only [Act.put, sA, sZ, sS, i64_w, i32_w]
  rfl
 refine one_ (i := 3) (N := some 75) #[true, true, true, true, false] rfl rfl (by kernel_rfl) (by decide) (fun K hK => ?_)
 refine goes_ Try.func24 (by kernel_rfl) rfl #[.agg #[.slice A13_0 t5.1.length c13_0, .int .i64 t5.2], .agg #[.slice A27_0 t5.1.length c27_0, .int .i64 t5.2]] (by rfl) rfl rfl (by (try simp only [List.map_toArray, List.map_cons, List.map_nil]); first | done | rfl) ?_
 (with_reducible refine (laws_eqSource.calls k _ _ t5.1 t5.2 _ _ t5.1 t5.2 _ _ ?side1 ?side2 ?side3 ?side4 Aq1.out).mono ?_)
 (case side1 => exact (FI.now FF13_0.out))
 (case side2 => exact CC13_0.out)
 (case side3 => exact (FI.now FF27_0.out))
 (case side4 => exact CC27_0.out)
 rintro e w128 ⟨rfl, hb⟩
 refine ⟨_, rfl, ?_⟩
 replace SZ := qZ SZ (show w127.heap.size ≤ w128.heap.size from hb.size)
 replace DG0 := qDb DG0 hb
 replace FFf1_0 := qFb FFf1_0 hb
 replace FF10_0 := qFb FF10_0 hb
 replace FF13_0 := qFb FF13_0 hb
 replace FF16_0 := qFb FF16_0 hb
 replace FF19_0 := qFb FF19_0 hb
 replace FF24_0 := qFb FF24_0 hb
 replace FF27_0 := qFb FF27_0 hb
 replace RR10_0 := qRb RR10_0 hb
 replace RR13_0 := qRb RR13_0 hb
 replace RR16_0 := qRb RR16_0 hb
 replace BKp0 := qBb BKp0 hb
 replace BKp1 := qBb BKp1 hb
 replace BKp2 := qBb BKp2 hb
 replace BKb1 := qBb BKb1 hb
 replace BKb2 := qBb BKb2 hb
 replace BKb3 := qBb BKb3 hb
 replace BKb4 := qBb BKb4 hb
 replace BKb5 := qBb BKb5 hb
 replace HB := qHb HB hb
 clear hb
 refine hK.out _ _ ⟨kc BKp0 rfl, kc BKp1 rfl, kc BKp1 rfl, kc BKp2 rfl, kc BKp2 rfl, kc BKp2 rfl, kc BKb1 rfl, kc BKb1 rfl, kc BKb2 rfl, kc BKb3 rfl, kc BKb3 rfl, kc BKb4 rfl, kc BKb4 rfl, kc BKb4 rfl, kc BKb5 rfl, kc BKb5 rfl⟩ (fun hHeld => ?_)
 clear hK K
 refine norm_ (a' := ?_) ?_ ?_
 rotate_left
 ·show Act.put _ (some 75) _ = _
  simp only [Act.put, sA, sZ, sS, i64_w, i32_w]
  rfl
 refine pure_ (i := 4) (N := some 76) (v := ?_) (a' := ?_) #[true, true, true, true, true] rfl rfl (by kernel_rfl) (fun _ _ _ h => h) (Or.inl ⟨by rfl, ?_⟩) ?_ ?_
 rotate_left
 ·intro w'
  go_simp
  with_reducible rfl
 rotate_left
 ·simp only [Act.put, sA, sZ, sS, i64_w, i32_w]
  rfl
 refine done_ (by kernel_rfl) ?_
 go_wp2
 replace SZ := qZ SZ (show w128.heap.size ≤ w128.drew.heap.size from Nat.le_refl _)
 replace DG0 := Aside0.mk (Kd.S_drew DG0.out)
 replace FFf1_0 := Aside0.mk (Kd.F_drew FFf1_0.out)
 replace FF10_0 := Aside0.mk (Kd.F_drew FF10_0.out)
 replace FF13_0 := Aside0.mk (Kd.F_drew FF13_0.out)
 replace FF16_0 := Aside0.mk (Kd.F_drew FF16_0.out)
 replace FF19_0 := Aside0.mk (Kd.F_drew FF19_0.out)
 replace FF24_0 := Aside0.mk (Kd.F_drew FF24_0.out)
 replace FF27_0 := Aside0.mk (Kd.F_drew FF27_0.out)
 replace RR10_0 := Aside0.mk (Kd.R_drew RR10_0.out)
 replace RR13_0 := Aside0.mk (Kd.R_drew RR13_0.out)
 replace RR16_0 := Aside0.mk (Kd.R_drew RR16_0.out)
 replace BKp0 := Aside0.mk (blk_drew BKp0.out)
 replace BKp1 := Aside0.mk (blk_drew BKp1.out)
 replace BKp2 := Aside0.mk (blk_drew BKp2.out)
 replace BKb1 := Aside0.mk (blk_drew BKb1.out)
 replace BKb2 := Aside0.mk (blk_drew BKb2.out)
 replace BKb3 := Aside0.mk (blk_drew BKb3.out)
 replace BKb4 := Aside0.mk (blk_drew BKb4.out)
 replace BKb5 := Aside0.mk (blk_drew BKb5.out)
 replace HB := Aside0.mk (below_drew1 HB.out)
 refine start_ (n := 5) (S := fun w' => w'.cell? ⟨gbp0, 0, none⟩ = some (.slice A0_0 l0_0.length c0_0) ∧ w'.cell? ⟨gbp1, 0, none⟩ = some (.slice A1_0 l1_0.length c1_0) ∧ w'.cell? ⟨gbp1, 1, none⟩ = some (.int .i64 a1_1) ∧ w'.cell? ⟨gbp2, 0, none⟩ = some (.bool a2_0) ∧ w'.cell? ⟨gbp2, 1, none⟩ = some (.int .i64 a2_1) ∧ w'.cell? ⟨gbp2, 2, none⟩ = some (.slice A2_2 l2_2.length c2_2) ∧ w'.cell? ⟨gbb1, 0, none⟩ = some (.slice Af1_0 t7.1.length cf1_0) ∧ w'.cell? ⟨gbb1, 1, none⟩ = some (.int .i64 t7.2.1) ∧ w'.cell? ⟨gbb2, 0, none⟩ = some (.slice A10_0 t4.length c10_0) ∧ w'.cell? ⟨gbb3, 0, none⟩ = some (.slice A13_0 t5.1.length c13_0) ∧ w'.cell? ⟨gbb3, 1, none⟩ = some (.int .i64 t5.2) ∧ w'.cell? ⟨gbb4, 0, none⟩ = some (.bool t6.1) ∧ w'.cell? ⟨gbb4, 1, none⟩ = some (.int .i64 t6.2.1) ∧ w'.cell? ⟨gbb4, 2, none⟩ = some (.slice A16_0 t6.2.2.length c16_0) ∧ w'.cell? ⟨gbb5, 0, none⟩ = some (.slice A19_0 t8.1.length c19_0) ∧ w'.cell? ⟨gbb5, 1, none⟩ = some (.int .i64 t8.2.1)) (ds := []) #[false, false, false, false, false] (by kernel_rfl) rfl rfl ⟨kc BKp0 rfl, kc BKp1 rfl, kc BKp1 rfl, kc BKp2 rfl, kc BKp2 rfl, kc BKp2 rfl, kc BKb1 rfl, kc BKb1 rfl, kc BKb2 rfl, kc BKb3 rfl, kc BKb3 rfl, kc BKb4 rfl, kc BKb4 rfl, kc BKb4 rfl, kc BKb5 rfl, kc BKb5 rfl⟩ (fun hHeld => ?_)
 generalize w128.drew = w129 at DG0 FFf1_0 FF10_0 FF13_0 FF16_0 FF19_0 FF24_0 FF27_0 RR10_0 RR13_0 RR16_0 BKp0 BKp1 BKp2 BKb1 BKb2 BKb3 BKb4 BKb5 HB SZ hHeld ⊢
 refine take_ (i := 0) (N := some 77) (v := ?_) (a' := ?_) #[true, false, false, false, false] rfl rfl (by kernel_rfl) (fun _ _ _ h => h) (Or.inl ⟨by rfl, ?_⟩) hHeld ?_ ?_
 rotate_left
 ·rintro w' ⟨s0, s1, s2, s3, s4, s5, s6, s7, s8, s9, s10, s11, s12, s13, s14, s15⟩
  go_simp
  with_reducible rfl
 rotate_left
 ·simp only [Act.put, sA, sZ, sS, i64_w, i32_w]
  rfl
 refine take_ (i := 1) (N := some 78) (v := ?_) (a' := ?_) #[true, true, false, false, false] rfl rfl (by kernel_rfl) (fun _ _ _ h => h) (Or.inl ⟨by rfl, ?_⟩) hHeld ?_ ?_
 rotate_left
 ·rintro w' ⟨s0, s1, s2, s3, s4, s5, s6, s7, s8, s9, s10, s11, s12, s13, s14, s15⟩
  go_simp
  with_reducible rfl
 rotate_left
 ·simp only [Act.put, sA, sZ, sS, i64_w, i32_w]
  rfl
 refine one_ (i := 2) (N := some 79) #[true, true, true, false, false] rfl rfl (by kernel_rfl) (by decide) (fun K hK => ?_)
 refine goes_ Try.func22 (by kernel_rfl) rfl #[.agg #[.bool a2_0, .int .i64 a2_1, .slice A2_2 l2_2.length c2_2]] (by rfl) rfl rfl (by (try simp only [List.map_toArray, List.map_cons, List.map_nil]); first | done | rfl) ?_
 (with_reducible refine (laws_toChange.calls k a2_0 a2_1 _ _ l2_2 _ _ _ _ ?side1 ?side2 AtaC.out).mono ?_)
 (case side1 => exact (Kd.C_below HR2_2.out HB.out))
 (case side2 => exact HC2_2.out)
 rintro e w130 ⟨v30_0, rfl, hm0, hb⟩
 refine ⟨_, rfl, ?_⟩
 have hb0 := Aside0.mk hb
 replace SZ := qZ SZ (show w129.heap.size ≤ w130.heap.size from hb.size)
 replace DG0 := qDb DG0 hb
 replace FFf1_0 := qFb FFf1_0 hb
 replace FF10_0 := qFb FF10_0 hb
 replace FF13_0 := qFb FF13_0 hb
 replace FF16_0 := qFb FF16_0 hb
 replace FF19_0 := qFb FF19_0 hb
 replace FF24_0 := qFb FF24_0 hb
 replace FF27_0 := qFb FF27_0 hb
 replace RR10_0 := qRb RR10_0 hb
 replace RR13_0 := qRb RR13_0 hb
 replace RR16_0 := qRb RR16_0 hb
 replace BKp0 := qBb BKp0 hb
 replace BKp1 := qBb BKp1 hb
 replace BKp2 := qBb BKp2 hb
 replace BKb1 := qBb BKb1 hb
 replace BKb2 := qBb BKb2 hb
 replace BKb3 := qBb BKb3 hb
 replace BKb4 := qBb BKb4 hb
 replace BKb5 := qBb BKb5 hb
 replace HB := qHb HB hb
 obtain ⟨A30_0, c30_0, rfl, hl30_0, hx30_0, hf30_0⟩ := open_R hm0; have FF30_0 := Aside0.mk hf30_0; have CC30_0 := Aside0.mk hl30_0; clear hf30_0 hl30_0 hx30_0 hm0
 clear hb hb0
 refine hK.out _ _ ⟨kc BKp0 rfl, kc BKp1 rfl, kc BKp1 rfl, kc BKp2 rfl, kc BKp2 rfl, kc BKp2 rfl, kc BKb1 rfl, kc BKb1 rfl, kc BKb2 rfl, kc BKb3 rfl, kc BKb3 rfl, kc BKb4 rfl, kc BKb4 rfl, kc BKb4 rfl, kc BKb5 rfl, kc BKb5 rfl⟩ (fun hHeld => ?_)
 clear hK K
 refine norm_ (a' := ?_) ?_ ?_
 rotate_left
 ·show Act.put _ (some 79) _ = _
  simp only [Act.put, sA, sZ, sS, i64_w, i32_w]
  rfl
 refine one_ (i := 3) (N := some 80) #[true, true, true, true, false] rfl rfl (by kernel_rfl) (by decide) (fun K hK => ?_)
 refine goes_ Try.func26 (by kernel_rfl) rfl #[.agg #[.bool t6.1, .int .i64 t6.2.1, .slice A16_0 t6.2.2.length c16_0], .agg #[.bool t6.1, .int .i64 t6.2.1, .slice A30_0 t6.2.2.length c30_0]] (by rfl) rfl rfl (by (try simp only [List.map_toArray, List.map_cons, List.map_nil]); first | done | rfl) ?_
 (with_reducible refine (laws_eqChange.calls k t6.1 t6.2.1 _ _ t6.2.2 t6.1 t6.2.1 _ _ t6.2.2 _ _ ?side1 ?side2 ?side3 ?side4 Aq2.out).mono ?_)
 (case side1 => exact (FI.now FF16_0.out))
 (case side2 => exact CC16_0.out)
 (case side3 => exact (FI.now FF30_0.out))
 (case side4 => exact CC30_0.out)
 rintro e w131 ⟨rfl, hb⟩
 refine ⟨_, rfl, ?_⟩
 replace SZ := qZ SZ (show w130.heap.size ≤ w131.heap.size from hb.size)
 replace DG0 := qDb DG0 hb
 replace FFf1_0 := qFb FFf1_0 hb
 replace FF10_0 := qFb FF10_0 hb
 replace FF13_0 := qFb FF13_0 hb
 replace FF16_0 := qFb FF16_0 hb
 replace FF19_0 := qFb FF19_0 hb
 replace FF24_0 := qFb FF24_0 hb
 replace FF27_0 := qFb FF27_0 hb
 replace FF30_0 := qFb FF30_0 hb
 replace RR10_0 := qRb RR10_0 hb
 replace RR13_0 := qRb RR13_0 hb
 replace RR16_0 := qRb RR16_0 hb
 replace BKp0 := qBb BKp0 hb
 replace BKp1 := qBb BKp1 hb
 replace BKp2 := qBb BKp2 hb
 replace BKb1 := qBb BKb1 hb
 replace BKb2 := qBb BKb2 hb
 replace BKb3 := qBb BKb3 hb
 replace BKb4 := qBb BKb4 hb
 replace BKb5 := qBb BKb5 hb
 replace HB := qHb HB hb
 clear hb
 refine hK.out _ _ ⟨kc BKp0 rfl, kc BKp1 rfl, kc BKp1 rfl, kc BKp2 rfl, kc BKp2 rfl, kc BKp2 rfl, kc BKb1 rfl, kc BKb1 rfl, kc BKb2 rfl, kc BKb3 rfl, kc BKb3 rfl, kc BKb4 rfl, kc BKb4 rfl, kc BKb4 rfl, kc BKb5 rfl, kc BKb5 rfl⟩ (fun hHeld => ?_)
 clear hK K
 refine norm_ (a' := ?_) ?_ ?_
 rotate_left
 ·show Act.put _ (some 80) _ = _
  simp only [Act.put, sA, sZ, sS, i64_w, i32_w]
  rfl
 refine pure_ (i := 4) (N := some 81) (v := ?_) (a' := ?_) #[true, true, true, true, true] rfl rfl (by kernel_rfl) (fun _ _ _ h => h) (Or.inl ⟨by rfl, ?_⟩) ?_ ?_
 rotate_left
 ·intro w'
  go_simp
  with_reducible rfl
 rotate_left
 ·simp only [Act.put, sA, sZ, sS, i64_w, i32_w]
  rfl
 refine done_ (by kernel_rfl) ?_
 have hcb2_0 : w131.cell? ⟨gbb2, 0, none⟩ = some (.slice A10_0 t4.length c10_0) := kc BKb2 rfl
 have hfb2_0 := blk_frozen BKb2.out 0
 go_wp2_with (first | ((with_reducible refine gate_callee (f := 27) rfl ?_); (try (refine gate_guard (by rfl) ?_; dsimp only)); refine goesL_ (some 84) rfl rfl Try.func27 (by kernel_rfl) rfl #[.agg #[.slice A10_0 t4.length c10_0], .int .i64 1] rfl (by (try simp only [List.map_toArray, List.map_cons, List.map_nil]); first | done | rfl) ?_; obtain ⟨pl10_0, ha10_0, hl10_0, hp10_0⟩ := places_in (sz := 1) mk_int rfl RR10_0.out; have LN10_0 := Aside0.mk (show pl10_0.length = cnIntS t4 from hl10_0); clear hl10_0; (with_reducible refine (LayI.markSchema _ _ _ pl10_0 1 _ ha10_0 ?s0 ?s1).mono ?_); (case s0 => ((have := LN10_0.out); omega)); (case s1 => ((have := LN10_0.out); have := CB.out; omega)); rintro e w132 ⟨rfl, hw⟩; refine ⟨_, rfl, ?_⟩; clear hcb2_0 hfb2_0; replace SZ := qZ SZ (show w131.heap.size ≤ w132.heap.size from hw.hd.size); have s_ := SZ.out; have z_ := below_size HB.out; clear FF10_0 RR10_0; replace DG0 := qDw DG0 hw hp10_0 (by omega); replace FFf1_0 := qFw FFf1_0 hw hp10_0 (by omega); replace FF13_0 := qFw FF13_0 hw hp10_0 (by omega); replace FF16_0 := qFw FF16_0 hw hp10_0 (by omega); replace FF19_0 := qFw FF19_0 hw hp10_0 (by omega); replace FF24_0 := qFw FF24_0 hw hp10_0 (by omega); replace FF27_0 := qFw FF27_0 hw hp10_0 (by omega); replace FF30_0 := qFw FF30_0 hw hp10_0 (by omega); replace RR13_0 := qRw RR13_0 hw hp10_0 (by omega); replace RR16_0 := qRw RR16_0 hw hp10_0 (by omega); replace BKp0 := qBw BKp0 hw hp10_0 (by omega); replace BKp1 := qBw BKp1 hw hp10_0 (by omega); replace BKp2 := qBw BKp2 hw hp10_0 (by omega); replace BKb1 := qBw BKb1 hw hp10_0 (by omega); replace BKb2 := qBw BKb2 hw hp10_0 (by omega); replace BKb3 := qBw BKb3 hw hp10_0 (by omega); replace BKb4 := qBw BKb4 hw hp10_0 (by omega); replace BKb5 := qBw BKb5 hw hp10_0 (by omega); replace HB := qHw HB hw hp10_0 (by omega); clear s_ z_; have hcb3_0 : w132.cell? ⟨gbb3, 0, none⟩ = some (.slice A13_0 t5.1.length c13_0) := kc BKb3 rfl; have hfb3_0 := blk_frozen BKb3.out 0; have hcb3_1 : w132.cell? ⟨gbb3, 1, none⟩ = some (.int .i64 t5.2) := kc BKb3 rfl; have hfb3_1 := blk_frozen BKb3.out 1; clear hw ha10_0) | ((with_reducible refine gate_callee (f := 28) rfl ?_); (try (refine gate_guard (by rfl) ?_; dsimp only)); refine goesL_ (some 87) rfl rfl Try.func28 (by kernel_rfl) rfl #[.agg #[.slice A13_0 t5.1.length c13_0, .int .i64 t5.2], .int .i64 ((1 : Int) + ((pl10_0.length : Nat) : Int))] rfl (by (try simp only [List.map_toArray, List.map_cons, List.map_nil]); first | done | rfl) ?_; obtain ⟨pl13_0, ha13_0, hl13_0, hp13_0⟩ := places_in (sz := 2) mkFactE rfl RR13_0.out; have LN13_0 := Aside0.mk (show pl13_0.length = cnFactS t5.1 from hl13_0); clear hl13_0; (with_reducible refine (LayI.markSource _ _ _ _ pl13_0 ((1 : Int) + ((pl10_0.length : Nat) : Int)) _ ha13_0 ?s0 ?s1).mono ?_); (case s0 => ((have := LN10_0.out; have := LN13_0.out); omega)); (case s1 => ((have := LN10_0.out; have := LN13_0.out); have := CB.out; omega)); rintro e w133 ⟨rfl, hw⟩; refine ⟨_, rfl, ?_⟩; clear hcb3_0 hfb3_0 hcb3_1 hfb3_1; replace SZ := qZ SZ (show w132.heap.size ≤ w133.heap.size from hw.hd.size); have s_ := SZ.out; have z_ := below_size HB.out; clear FF13_0 RR13_0; replace DG0 := qDw DG0 hw hp13_0 (by omega); replace FFf1_0 := qFw FFf1_0 hw hp13_0 (by omega); replace FF16_0 := qFw FF16_0 hw hp13_0 (by omega); replace FF19_0 := qFw FF19_0 hw hp13_0 (by omega); replace FF24_0 := qFw FF24_0 hw hp13_0 (by omega); replace FF27_0 := qFw FF27_0 hw hp13_0 (by omega); replace FF30_0 := qFw FF30_0 hw hp13_0 (by omega); replace RR16_0 := qRw RR16_0 hw hp13_0 (by omega); replace BKp0 := qBw BKp0 hw hp13_0 (by omega); replace BKp1 := qBw BKp1 hw hp13_0 (by omega); replace BKp2 := qBw BKp2 hw hp13_0 (by omega); replace BKb1 := qBw BKb1 hw hp13_0 (by omega); replace BKb2 := qBw BKb2 hw hp13_0 (by omega); replace BKb3 := qBw BKb3 hw hp13_0 (by omega); replace BKb4 := qBw BKb4 hw hp13_0 (by omega); replace BKb5 := qBw BKb5 hw hp13_0 (by omega); replace HB := qHw HB hw hp13_0 (by omega); clear s_ z_; have hcb4_0 : w133.cell? ⟨gbb4, 0, none⟩ = some (.bool t6.1) := kc BKb4 rfl; have hfb4_0 := blk_frozen BKb4.out 0; have hcb4_1 : w133.cell? ⟨gbb4, 1, none⟩ = some (.int .i64 t6.2.1) := kc BKb4 rfl; have hfb4_1 := blk_frozen BKb4.out 1; have hcb4_2 : w133.cell? ⟨gbb4, 2, none⟩ = some (.slice A16_0 t6.2.2.length c16_0) := kc BKb4 rfl; have hfb4_2 := blk_frozen BKb4.out 2; clear hw ha13_0) | ((with_reducible refine gate_callee (f := 29) rfl ?_); (try (refine gate_guard (by rfl) ?_; dsimp only)); refine goesL_ (some 90) rfl rfl Try.func29 (by kernel_rfl) rfl #[.agg #[.bool t6.1, .int .i64 t6.2.1, .slice A16_0 t6.2.2.length c16_0], .int .i64 ((1 : Int) + ((pl10_0.length : Nat) : Int) + ((pl13_0.length : Nat) : Int))] rfl (by (try simp only [List.map_toArray, List.map_cons, List.map_nil]); first | done | rfl) ?_; obtain ⟨pl16_0, ha16_0, hl16_0, hp16_0⟩ := places_in (sz := 1) mk_int rfl RR16_0.out; have LN16_0 := Aside0.mk (show pl16_0.length = cnIntS t6.2.2 from hl16_0); clear hl16_0; (with_reducible refine (LayI.markChange _ _ _ _ _ pl16_0 ((1 : Int) + ((pl10_0.length : Nat) : Int) + ((pl13_0.length : Nat) : Int)) _ ha16_0 ?s0 ?s1).mono ?_); (case s0 => ((have := LN10_0.out; have := LN13_0.out; have := LN16_0.out); omega)); (case s1 => ((have := LN10_0.out; have := LN13_0.out; have := LN16_0.out); have := CB.out; omega)); rintro e w134 ⟨rfl, hw⟩; refine ⟨_, rfl, ?_⟩; clear hcb4_0 hfb4_0 hcb4_1 hfb4_1 hcb4_2 hfb4_2; replace SZ := qZ SZ (show w133.heap.size ≤ w134.heap.size from hw.hd.size); have s_ := SZ.out; have z_ := below_size HB.out; clear FF16_0 RR16_0; replace DG0 := qDw DG0 hw hp16_0 (by omega); replace FFf1_0 := qFw FFf1_0 hw hp16_0 (by omega); replace FF19_0 := qFw FF19_0 hw hp16_0 (by omega); replace FF24_0 := qFw FF24_0 hw hp16_0 (by omega); replace FF27_0 := qFw FF27_0 hw hp16_0 (by omega); replace FF30_0 := qFw FF30_0 hw hp16_0 (by omega); replace BKp0 := qBw BKp0 hw hp16_0 (by omega); replace BKp1 := qBw BKp1 hw hp16_0 (by omega); replace BKp2 := qBw BKp2 hw hp16_0 (by omega); replace BKb1 := qBw BKb1 hw hp16_0 (by omega); replace BKb2 := qBw BKb2 hw hp16_0 (by omega); replace BKb3 := qBw BKb3 hw hp16_0 (by omega); replace BKb4 := qBw BKb4 hw hp16_0 (by omega); replace BKb5 := qBw BKb5 hw hp16_0 (by omega); replace HB := qHw HB hw hp16_0 (by omega); clear s_ z_; have hcb1_0 : w134.cell? ⟨gbb1, 0, none⟩ = some (.slice Af1_0 t7.1.length cf1_0) := kc BKb1 rfl; have hfb1_0 := blk_frozen BKb1.out 0; have hcb1_1 : w134.cell? ⟨gbb1, 1, none⟩ = some (.int .i64 t7.2.1) := kc BKb1 rfl; have hfb1_1 := blk_frozen BKb1.out 1; have hcb5_0 : w134.cell? ⟨gbb5, 0, none⟩ = some (.slice A19_0 t8.1.length c19_0) := kc BKb5 rfl; have hfb5_0 := blk_frozen BKb5.out 0; have hcb5_1 : w134.cell? ⟨gbb5, 1, none⟩ = some (.int .i64 t8.2.1) := kc BKb5 rfl; have hfb5_1 := blk_frozen BKb5.out 1; clear hw ha16_0) | ((with_reducible refine gate_callee (f := 24) rfl ?_); (try (refine gate_guard (by rfl) ?_; dsimp only)); refine goesL_ (some 96) rfl rfl Try.func24 (by kernel_rfl) rfl #[.agg #[.slice A19_0 t8.1.length c19_0, .int .i64 t8.2.1], .agg #[.slice Af1_0 t7.1.length cf1_0, .int .i64 t7.2.1]] rfl (by (try simp only [List.map_toArray, List.map_cons, List.map_nil]); first | done | rfl) ?_; (with_reducible refine (laws_eqSource.calls k _ _ t8.1 t8.2.1 _ _ t7.1 t7.2.1 _ _ ?side1 ?side2 ?side3 ?side4 Ae0.out).mono ?_); (case side1 => exact (FI.now FF19_0.out)); (case side2 => exact CC19_0.out); (case side3 => exact (FI.now FFf1_0.out)); (case side4 => exact CCf1_0.out); rintro e w135 ⟨rfl, hb⟩; refine ⟨_, rfl, ?_⟩; clear hcb1_0 hfb1_0 hcb1_1 hfb1_1 hcb5_0 hfb5_0 hcb5_1 hfb5_1; replace SZ := qZ SZ (show w134.heap.size ≤ w135.heap.size from hb.size); replace DG0 := qDb DG0 hb; replace FFf1_0 := qFb FFf1_0 hb; replace FF19_0 := qFb FF19_0 hb; replace FF24_0 := qFb FF24_0 hb; replace FF27_0 := qFb FF27_0 hb; replace FF30_0 := qFb FF30_0 hb; replace BKp0 := qBb BKp0 hb; replace BKp1 := qBb BKp1 hb; replace BKp2 := qBb BKp2 hb; replace BKb1 := qBb BKb1 hb; replace BKb2 := qBb BKb2 hb; replace BKb3 := qBb BKb3 hb; replace BKb4 := qBb BKb4 hb; replace BKb5 := qBb BKb5 hb; replace HB := qHb HB hb; have hcb5_0 : w135.cell? ⟨gbb5, 0, none⟩ = some (.slice A19_0 t8.1.length c19_0) := kc BKb5 rfl; have hfb5_0 := blk_frozen BKb5.out 0; have hcb5_1 : w135.cell? ⟨gbb5, 1, none⟩ = some (.int .i64 t8.2.1) := kc BKb5 rfl; have hfb5_1 := blk_frozen BKb5.out 1; clear hb) | ((with_reducible refine gate_callee (f := 28) rfl ?_); (try (refine gate_guard (by rfl) ?_; dsimp only)); refine goesL_ (some 106) rfl rfl Try.func28 (by kernel_rfl) rfl #[.agg #[.slice A19_0 t8.1.length c19_0, .int .i64 t8.2.1], .int .i64 1] rfl (by (try simp only [List.map_toArray, List.map_cons, List.map_nil]); first | done | rfl) ?_; obtain ⟨plG0, haG0, hlG0, hnG0, hpG0⟩ := plcFactS DG0.out; have LNG0 := Aside0.mk hlG0; have NDG0 := Aside0.mk hnG0; have SPG0 := Aside0.mk hpG0; have RWG0 := Aside0.mk haG0; clear haG0 hlG0 hnG0 hpG0 DG0; (with_reducible refine (LayI.markSource _ _ _ _ plG0 1 _ RWG0.out ?s0 ?s1).mono ?_); (case s0 => omega); (case s1 => (have h1_ := CB2.out; have := LNG0.out; omega)); rintro e w136 ⟨rfl, hw⟩; refine ⟨_, rfl, ?_⟩; clear hcb5_0 hfb5_0 hcb5_1 hfb5_1; replace SZ := qZ SZ (show w135.heap.size ≤ w136.heap.size from hw.hd.size); have VG := Aside0.mk (show LayI.Vals w136 plG0 1 from hw.val NDG0.out); have s_ := SZ.out; have z_ := below_size HB.out; clear FF19_0; replace FFf1_0 := qFw FFf1_0 hw SPG0.out (by omega); replace FF24_0 := qFw FF24_0 hw SPG0.out (by omega); replace FF27_0 := qFw FF27_0 hw SPG0.out (by omega); replace FF30_0 := qFw FF30_0 hw SPG0.out (by omega); replace BKp0 := qBw BKp0 hw SPG0.out (by omega); replace BKp1 := qBw BKp1 hw SPG0.out (by omega); replace BKp2 := qBw BKp2 hw SPG0.out (by omega); replace BKb1 := qBw BKb1 hw SPG0.out (by omega); replace BKb2 := qBw BKb2 hw SPG0.out (by omega); replace BKb3 := qBw BKb3 hw SPG0.out (by omega); replace BKb4 := qBw BKb4 hw SPG0.out (by omega); replace BKb5 := qBw BKb5 hw SPG0.out (by omega); replace RWG0 := qGw (st_pair st_int (st_eRow (st_row st_int))) RWG0 hw; replace HB := qHw HB hw SPG0.out (by omega); clear s_ z_; have hcb5_0 : w136.cell? ⟨gbb5, 0, none⟩ = some (.slice A19_0 t8.1.length c19_0) := kc BKb5 rfl; have hfb5_0 := blk_frozen BKb5.out 0; have hcb5_1 : w136.cell? ⟨gbb5, 1, none⟩ = some (.int .i64 t8.2.1) := kc BKb5 rfl; have hfb5_1 := blk_frozen BKb5.out 1; clear hw) | ((with_reducible refine gate_callee (f := 30) rfl ?_); (try (refine gate_guard (by rfl) ?_; dsimp only)); refine goesL_ (some 109) rfl rfl Try.func30 (by kernel_rfl) rfl #[.agg #[.slice A19_0 t8.1.length c19_0, .int .i64 t8.2.1], .int .i64 1] rfl (by (try simp only [List.map_toArray, List.map_cons, List.map_nil]); first | done | rfl) ?_; (with_reducible refine (LayI.heldSource _ _ _ _ plG0 1 _ ?r0 ?rv ?s0 ?s1).mono ?_); (case r0 => exact RWG0.out); (case rv => first | (with_reducible exact VG.out) | exact VG.out | exact LayI.Vals.move VG.out (pw_below_drewN (Below.refl _ _) _)); (case s0 => omega); (case s1 => (have h1_ := CB2.out; have := LNG0.out; omega)); rintro e w137 ⟨rfl, hb⟩; refine ⟨_, rfl, ?_⟩; clear hcb5_0 hfb5_0 hcb5_1 hfb5_1; replace SZ := qZ SZ (show w136.heap.size ≤ w137.heap.size from hb.size); replace FFf1_0 := qFb FFf1_0 hb; replace FF24_0 := qFb FF24_0 hb; replace FF27_0 := qFb FF27_0 hb; replace FF30_0 := qFb FF30_0 hb; replace BKp0 := qBb BKp0 hb; replace BKp1 := qBb BKp1 hb; replace BKp2 := qBb BKp2 hb; replace BKb1 := qBb BKb1 hb; replace BKb2 := qBb BKb2 hb; replace BKb3 := qBb BKb3 hb; replace BKb4 := qBb BKb4 hb; replace BKb5 := qBb BKb5 hb; replace RWG0 := qGb (st_pair st_int (st_eRow (st_row st_int))) RWG0 hb; replace VG := Aside0.mk (LayI.Vals.move VG.out hb); replace HB := qHb HB hb; clear hb))
 replace SZ := qZ SZ (show w137.heap.size ≤ w137.drew.heap.size from Nat.le_refl _)
 replace FFf1_0 := Aside0.mk (Kd.F_drew FFf1_0.out)
 replace FF24_0 := Aside0.mk (Kd.F_drew FF24_0.out)
 replace FF27_0 := Aside0.mk (Kd.F_drew FF27_0.out)
 replace FF30_0 := Aside0.mk (Kd.F_drew FF30_0.out)
 replace BKp0 := Aside0.mk (blk_drew BKp0.out)
 replace BKp1 := Aside0.mk (blk_drew BKp1.out)
 replace BKp2 := Aside0.mk (blk_drew BKp2.out)
 replace BKb1 := Aside0.mk (blk_drew BKb1.out)
 replace BKb2 := Aside0.mk (blk_drew BKb2.out)
 replace BKb3 := Aside0.mk (blk_drew BKb3.out)
 replace BKb4 := Aside0.mk (blk_drew BKb4.out)
 replace BKb5 := Aside0.mk (blk_drew BKb5.out)
 replace RWG0 := Aside0.mk (row_below (st_pair st_int (st_eRow (st_row st_int))) RWG0.out (below_drew (Below.refl _ _)))
 replace VG := Aside0.mk (LayI.Vals.move VG.out (below_drew (Below.refl _ _)))
 replace HB := Aside0.mk (below_drew1 HB.out)
 refine start_ (n := 13) (S := fun w' => w'.cell? ⟨gbp0, 0, none⟩ = some (.slice A0_0 l0_0.length c0_0) ∧ w'.cell? ⟨gbp1, 0, none⟩ = some (.slice A1_0 l1_0.length c1_0) ∧ w'.cell? ⟨gbp1, 1, none⟩ = some (.int .i64 a1_1) ∧ w'.cell? ⟨gbp2, 0, none⟩ = some (.bool a2_0) ∧ w'.cell? ⟨gbp2, 1, none⟩ = some (.int .i64 a2_1) ∧ w'.cell? ⟨gbp2, 2, none⟩ = some (.slice A2_2 l2_2.length c2_2) ∧ w'.cell? ⟨gbb1, 0, none⟩ = some (.slice Af1_0 t7.1.length cf1_0) ∧ w'.cell? ⟨gbb1, 1, none⟩ = some (.int .i64 t7.2.1) ∧ w'.cell? ⟨gbb2, 0, none⟩ = some (.slice A10_0 t4.length c10_0) ∧ w'.cell? ⟨gbb3, 0, none⟩ = some (.slice A13_0 t5.1.length c13_0) ∧ w'.cell? ⟨gbb3, 1, none⟩ = some (.int .i64 t5.2) ∧ w'.cell? ⟨gbb4, 0, none⟩ = some (.bool t6.1) ∧ w'.cell? ⟨gbb4, 1, none⟩ = some (.int .i64 t6.2.1) ∧ w'.cell? ⟨gbb4, 2, none⟩ = some (.slice A16_0 t6.2.2.length c16_0) ∧ w'.cell? ⟨gbb5, 0, none⟩ = some (.slice A19_0 t8.1.length c19_0) ∧ w'.cell? ⟨gbb5, 1, none⟩ = some (.int .i64 t8.2.1)) (ds := []) #[false, false, false, false, false, false, false, false, false, false, false, false, false] (by kernel_rfl) rfl rfl ⟨kc BKp0 rfl, kc BKp1 rfl, kc BKp1 rfl, kc BKp2 rfl, kc BKp2 rfl, kc BKp2 rfl, kc BKb1 rfl, kc BKb1 rfl, kc BKb2 rfl, kc BKb3 rfl, kc BKb3 rfl, kc BKb4 rfl, kc BKb4 rfl, kc BKb4 rfl, kc BKb5 rfl, kc BKb5 rfl⟩ (fun hHeld => ?_)
 generalize w137.drew = w138 at FFf1_0 FF24_0 FF27_0 FF30_0 BKp0 BKp1 BKp2 BKb1 BKb2 BKb3 BKb4 BKb5 RWG0 VG HB SZ hHeld ⊢
 refine take_ (i := 0) (N := some 116) (v := ?_) (a' := ?_) #[true, false, false, false, false, false, false, false, false, false, false, false, false] rfl rfl (by kernel_rfl) (fun _ _ _ h => h) (Or.inl ⟨by rfl, ?_⟩) hHeld ?_ ?_
 rotate_left
 ·rintro w' ⟨s0, s1, s2, s3, s4, s5, s6, s7, s8, s9, s10, s11, s12, s13, s14, s15⟩
  go_simp
  with_reducible rfl
 rotate_left
 ·simp only [Act.put, sA, sZ, sS, i64_w, i32_w]
  rfl
 refine take_ (i := 2) (N := some 118) (v := ?_) (a' := ?_) #[true, false, true, false, false, false, false, false, false, false, false, false, false] rfl rfl (by kernel_rfl) (fun _ _ _ h => h) (Or.inl ⟨by rfl, ?_⟩) hHeld ?_ ?_
 rotate_left
 ·rintro w' ⟨s0, s1, s2, s3, s4, s5, s6, s7, s8, s9, s10, s11, s12, s13, s14, s15⟩
  go_simp
  with_reducible rfl
 rotate_left
 ·simp only [Act.put, sA, sZ, sS, i64_w, i32_w]
  rfl
 refine take_ (i := 4) (N := some 120) (v := ?_) (a' := ?_) #[true, false, true, false, true, false, false, false, false, false, false, false, false] rfl rfl (by kernel_rfl) (fun _ _ _ h => h) (Or.inl ⟨by rfl, ?_⟩) hHeld ?_ ?_
 rotate_left
 ·rintro w' ⟨s0, s1, s2, s3, s4, s5, s6, s7, s8, s9, s10, s11, s12, s13, s14, s15⟩
  go_simp
  with_reducible rfl
 rotate_left
 ·simp only [Act.put, sA, sZ, sS, i64_w, i32_w]
  rfl
 refine join_ (σ := Option Addr × Nat × Option Addr × Nat × Option Addr × Nat × Option Addr × Nat × Nat × Nat × Nat) 2 #[true, true, true, true, true, true, true, true, true, true, true, false, false] (fun s_ => [(117, .agg #[.slice s_.1 t4.length s_.2.1]), (119, .agg #[.slice s_.2.2.1 t5.1.length s_.2.2.2.1, .int .i64 t5.2]), (121, .agg #[.bool t6.1, .int .i64 t6.2.1, .slice s_.2.2.2.2.1 t6.2.2.length s_.2.2.2.2.2.1]), (122, .tuple #[.agg #[.slice s_.2.2.2.2.2.2.1 t8.1.length s_.2.2.2.2.2.2.2.1, .int .i64 t8.2.1], .bool t8.2.2]), (18, .pointer (some ⟨s_.2.2.2.2.2.2.2.2.2.2, 0, none⟩)), (115, .tuple #[.agg #[.slice s_.2.2.2.2.2.2.1 t8.1.length s_.2.2.2.2.2.2.2.1, .int .i64 t8.2.1], .bool t8.2.2]), (123, .agg #[.slice s_.2.2.2.2.2.2.1 t8.1.length s_.2.2.2.2.2.2.2.1, .int .i64 t8.2.1]), (124, .bool t8.2.2)]) (fun s_ w' => (w'.cell? ⟨gbp0, 0, none⟩ = some (.slice A0_0 l0_0.length c0_0) ∧ w'.cell? ⟨gbp1, 0, none⟩ = some (.slice A1_0 l1_0.length c1_0) ∧ w'.cell? ⟨gbp1, 1, none⟩ = some (.int .i64 a1_1) ∧ w'.cell? ⟨gbp2, 0, none⟩ = some (.bool a2_0) ∧ w'.cell? ⟨gbp2, 1, none⟩ = some (.int .i64 a2_1) ∧ w'.cell? ⟨gbp2, 2, none⟩ = some (.slice A2_2 l2_2.length c2_2) ∧ w'.cell? ⟨gbb1, 0, none⟩ = some (.slice Af1_0 t7.1.length cf1_0) ∧ w'.cell? ⟨gbb1, 1, none⟩ = some (.int .i64 t7.2.1) ∧ w'.cell? ⟨gbb2, 0, none⟩ = some (.slice A10_0 t4.length c10_0) ∧ w'.cell? ⟨gbb3, 0, none⟩ = some (.slice A13_0 t5.1.length c13_0) ∧ w'.cell? ⟨gbb3, 1, none⟩ = some (.int .i64 t5.2) ∧ w'.cell? ⟨gbb4, 0, none⟩ = some (.bool t6.1) ∧ w'.cell? ⟨gbb4, 1, none⟩ = some (.int .i64 t6.2.1) ∧ w'.cell? ⟨gbb4, 2, none⟩ = some (.slice A16_0 t6.2.2.length c16_0) ∧ w'.cell? ⟨gbb5, 0, none⟩ = some (.slice A19_0 t8.1.length c19_0) ∧ w'.cell? ⟨gbb5, 1, none⟩ = some (.int .i64 t8.2.1)) ∧ (Below w138.heap.size w138 w') ∧ (FI k53 w' s_.2.2.2.2.2.2.2.2.1 s_.2.2.2.2.2.2.2.2.2.1 s_.2.2.2.2.2.2.1 t8.1) ∧ (t8.1.length ≤ s_.2.2.2.2.2.2.2.1) ∧ (w138.heap.size ≤ s_.2.2.2.2.2.2.2.2.1 ∧ s_.2.2.2.2.2.2.2.2.1 ≤ s_.2.2.2.2.2.2.2.2.2.1 ∧ s_.2.2.2.2.2.2.2.2.2.1 ≤ w'.heap.size ∧ (s_.2.2.2.2.2.2.2.2.2.2 < s_.2.2.2.2.2.2.2.2.1 ∨ s_.2.2.2.2.2.2.2.2.2.1 ≤ s_.2.2.2.2.2.2.2.2.2.2)) ∧ (w'.heap[s_.2.2.2.2.2.2.2.2.2.2]? = some (.cells #[.slice none 0 0, .int .i64 0] 47 (0, 0))) ∧ (w138.heap.size ≤ s_.2.2.2.2.2.2.2.2.2.2 ∧ s_.2.2.2.2.2.2.2.2.2.2 < w'.heap.size)) ?_ ?_
 rotate_left
 ·intro hC4_10
  refine join_ (σ := Option Addr × Nat × Option Addr × Nat × Option Addr × Nat × Option Addr × Nat × Nat × Nat) 3 #[true, true, true, true, true, true, true, true, true, true, false, false, false] (fun s_ => [(117, .agg #[.slice s_.1 t4.length s_.2.1]), (119, .agg #[.slice s_.2.2.1 t5.1.length s_.2.2.2.1, .int .i64 t5.2]), (121, .agg #[.bool t6.1, .int .i64 t6.2.1, .slice s_.2.2.2.2.1 t6.2.2.length s_.2.2.2.2.2.1]), (122, .tuple #[.agg #[.slice s_.2.2.2.2.2.2.1 t8.1.length s_.2.2.2.2.2.2.2.1, .int .i64 t8.2.1], .bool t8.2.2]), (115, .tuple #[.agg #[.slice s_.2.2.2.2.2.2.1 t8.1.length s_.2.2.2.2.2.2.2.1, .int .i64 t8.2.1], .bool t8.2.2]), (123, .agg #[.slice s_.2.2.2.2.2.2.1 t8.1.length s_.2.2.2.2.2.2.2.1, .int .i64 t8.2.1]), (124, .bool t8.2.2)]) (fun s_ w' => (w'.cell? ⟨gbp0, 0, none⟩ = some (.slice A0_0 l0_0.length c0_0) ∧ w'.cell? ⟨gbp1, 0, none⟩ = some (.slice A1_0 l1_0.length c1_0) ∧ w'.cell? ⟨gbp1, 1, none⟩ = some (.int .i64 a1_1) ∧ w'.cell? ⟨gbp2, 0, none⟩ = some (.bool a2_0) ∧ w'.cell? ⟨gbp2, 1, none⟩ = some (.int .i64 a2_1) ∧ w'.cell? ⟨gbp2, 2, none⟩ = some (.slice A2_2 l2_2.length c2_2) ∧ w'.cell? ⟨gbb1, 0, none⟩ = some (.slice Af1_0 t7.1.length cf1_0) ∧ w'.cell? ⟨gbb1, 1, none⟩ = some (.int .i64 t7.2.1) ∧ w'.cell? ⟨gbb2, 0, none⟩ = some (.slice A10_0 t4.length c10_0) ∧ w'.cell? ⟨gbb3, 0, none⟩ = some (.slice A13_0 t5.1.length c13_0) ∧ w'.cell? ⟨gbb3, 1, none⟩ = some (.int .i64 t5.2) ∧ w'.cell? ⟨gbb4, 0, none⟩ = some (.bool t6.1) ∧ w'.cell? ⟨gbb4, 1, none⟩ = some (.int .i64 t6.2.1) ∧ w'.cell? ⟨gbb4, 2, none⟩ = some (.slice A16_0 t6.2.2.length c16_0) ∧ w'.cell? ⟨gbb5, 0, none⟩ = some (.slice A19_0 t8.1.length c19_0) ∧ w'.cell? ⟨gbb5, 1, none⟩ = some (.int .i64 t8.2.1)) ∧ (Below w138.heap.size w138 w') ∧ (FI k53 w' s_.2.2.2.2.2.2.2.2.1 s_.2.2.2.2.2.2.2.2.2 s_.2.2.2.2.2.2.1 t8.1) ∧ (t8.1.length ≤ s_.2.2.2.2.2.2.2.1) ∧ (w138.heap.size ≤ s_.2.2.2.2.2.2.2.2.1 ∧ s_.2.2.2.2.2.2.2.2.1 ≤ s_.2.2.2.2.2.2.2.2.2 ∧ s_.2.2.2.2.2.2.2.2.2 ≤ w'.heap.size)) ?_ ?_
  rotate_left
  ·intro hC4
   refine join_ (σ := Option Addr × Nat × Option Addr × Nat × Option Addr × Nat × Nat) 6 #[true, true, true, true, true, true, false, false, false, false, true, false, false] (fun s_ => [(117, .agg #[.slice s_.1 t4.length s_.2.1]), (119, .agg #[.slice s_.2.2.1 t5.1.length s_.2.2.2.1, .int .i64 t5.2]), (121, .agg #[.bool t6.1, .int .i64 t6.2.1, .slice s_.2.2.2.2.1 t6.2.2.length s_.2.2.2.2.2.1]), (18, .pointer (some ⟨s_.2.2.2.2.2.2, 0, none⟩))]) (fun s_ w' => (w'.cell? ⟨gbp0, 0, none⟩ = some (.slice A0_0 l0_0.length c0_0) ∧ w'.cell? ⟨gbp1, 0, none⟩ = some (.slice A1_0 l1_0.length c1_0) ∧ w'.cell? ⟨gbp1, 1, none⟩ = some (.int .i64 a1_1) ∧ w'.cell? ⟨gbp2, 0, none⟩ = some (.bool a2_0) ∧ w'.cell? ⟨gbp2, 1, none⟩ = some (.int .i64 a2_1) ∧ w'.cell? ⟨gbp2, 2, none⟩ = some (.slice A2_2 l2_2.length c2_2) ∧ w'.cell? ⟨gbb1, 0, none⟩ = some (.slice Af1_0 t7.1.length cf1_0) ∧ w'.cell? ⟨gbb1, 1, none⟩ = some (.int .i64 t7.2.1) ∧ w'.cell? ⟨gbb2, 0, none⟩ = some (.slice A10_0 t4.length c10_0) ∧ w'.cell? ⟨gbb3, 0, none⟩ = some (.slice A13_0 t5.1.length c13_0) ∧ w'.cell? ⟨gbb3, 1, none⟩ = some (.int .i64 t5.2) ∧ w'.cell? ⟨gbb4, 0, none⟩ = some (.bool t6.1) ∧ w'.cell? ⟨gbb4, 1, none⟩ = some (.int .i64 t6.2.1) ∧ w'.cell? ⟨gbb4, 2, none⟩ = some (.slice A16_0 t6.2.2.length c16_0) ∧ w'.cell? ⟨gbb5, 0, none⟩ = some (.slice A19_0 t8.1.length c19_0) ∧ w'.cell? ⟨gbb5, 1, none⟩ = some (.int .i64 t8.2.1)) ∧ (Below w138.heap.size w138 w') ∧ (Kd.C (Kd.int .i64) w' s_.1 t4.length t4) ∧ (t4.length ≤ s_.2.1) ∧ (Kd.C k53 w' s_.2.2.1 t5.1.length t5.1) ∧ (t5.1.length ≤ s_.2.2.2.1) ∧ (Kd.C (Kd.int .i64) w' s_.2.2.2.2.1 t6.2.2.length t6.2.2) ∧ (t6.2.2.length ≤ s_.2.2.2.2.2.1) ∧ (w'.heap[s_.2.2.2.2.2.2]? = some (.cells #[.slice none 0 0, .int .i64 0] 47 (0, 0))) ∧ (w138.heap.size ≤ s_.2.2.2.2.2.2 ∧ s_.2.2.2.2.2.2 < w'.heap.size)) ?_ ?_
   rotate_left
   ·intro hC3_10
    refine join_ (σ := Option Addr × Nat × Option Addr × Nat × Option Addr × Nat) 7 #[true, true, true, true, true, true, false, false, false, false, false, false, false] (fun s_ => [(117, .agg #[.slice s_.1 t4.length s_.2.1]), (119, .agg #[.slice s_.2.2.1 t5.1.length s_.2.2.2.1, .int .i64 t5.2]), (121, .agg #[.bool t6.1, .int .i64 t6.2.1, .slice s_.2.2.2.2.1 t6.2.2.length s_.2.2.2.2.2])]) (fun s_ w' => (w'.cell? ⟨gbp0, 0, none⟩ = some (.slice A0_0 l0_0.length c0_0) ∧ w'.cell? ⟨gbp1, 0, none⟩ = some (.slice A1_0 l1_0.length c1_0) ∧ w'.cell? ⟨gbp1, 1, none⟩ = some (.int .i64 a1_1) ∧ w'.cell? ⟨gbp2, 0, none⟩ = some (.bool a2_0) ∧ w'.cell? ⟨gbp2, 1, none⟩ = some (.int .i64 a2_1) ∧ w'.cell? ⟨gbp2, 2, none⟩ = some (.slice A2_2 l2_2.length c2_2) ∧ w'.cell? ⟨gbb1, 0, none⟩ = some (.slice Af1_0 t7.1.length cf1_0) ∧ w'.cell? ⟨gbb1, 1, none⟩ = some (.int .i64 t7.2.1) ∧ w'.cell? ⟨gbb2, 0, none⟩ = some (.slice A10_0 t4.length c10_0) ∧ w'.cell? ⟨gbb3, 0, none⟩ = some (.slice A13_0 t5.1.length c13_0) ∧ w'.cell? ⟨gbb3, 1, none⟩ = some (.int .i64 t5.2) ∧ w'.cell? ⟨gbb4, 0, none⟩ = some (.bool t6.1) ∧ w'.cell? ⟨gbb4, 1, none⟩ = some (.int .i64 t6.2.1) ∧ w'.cell? ⟨gbb4, 2, none⟩ = some (.slice A16_0 t6.2.2.length c16_0) ∧ w'.cell? ⟨gbb5, 0, none⟩ = some (.slice A19_0 t8.1.length c19_0) ∧ w'.cell? ⟨gbb5, 1, none⟩ = some (.int .i64 t8.2.1)) ∧ (Below w138.heap.size w138 w') ∧ (Kd.C (Kd.int .i64) w' s_.1 t4.length t4) ∧ (t4.length ≤ s_.2.1) ∧ (Kd.C k53 w' s_.2.2.1 t5.1.length t5.1) ∧ (t5.1.length ≤ s_.2.2.2.1) ∧ (Kd.C (Kd.int .i64) w' s_.2.2.2.2.1 t6.2.2.length t6.2.2) ∧ (t6.2.2.length ≤ s_.2.2.2.2.2)) ?_ ?_
    rotate_left
    ·intro hC3
     refine join_ (σ := Option Addr × Nat × Option Addr × Nat × Nat) 7 #[true, true, true, true, true, false, false, false, false, false, true, false, false] (fun s_ => [(117, .agg #[.slice s_.1 t4.length s_.2.1]), (119, .agg #[.slice s_.2.2.1 t5.1.length s_.2.2.2.1, .int .i64 t5.2]), (18, .pointer (some ⟨s_.2.2.2.2, 0, none⟩))]) (fun s_ w' => (w'.cell? ⟨gbp0, 0, none⟩ = some (.slice A0_0 l0_0.length c0_0) ∧ w'.cell? ⟨gbp1, 0, none⟩ = some (.slice A1_0 l1_0.length c1_0) ∧ w'.cell? ⟨gbp1, 1, none⟩ = some (.int .i64 a1_1) ∧ w'.cell? ⟨gbp2, 0, none⟩ = some (.bool a2_0) ∧ w'.cell? ⟨gbp2, 1, none⟩ = some (.int .i64 a2_1) ∧ w'.cell? ⟨gbp2, 2, none⟩ = some (.slice A2_2 l2_2.length c2_2) ∧ w'.cell? ⟨gbb1, 0, none⟩ = some (.slice Af1_0 t7.1.length cf1_0) ∧ w'.cell? ⟨gbb1, 1, none⟩ = some (.int .i64 t7.2.1) ∧ w'.cell? ⟨gbb2, 0, none⟩ = some (.slice A10_0 t4.length c10_0) ∧ w'.cell? ⟨gbb3, 0, none⟩ = some (.slice A13_0 t5.1.length c13_0) ∧ w'.cell? ⟨gbb3, 1, none⟩ = some (.int .i64 t5.2) ∧ w'.cell? ⟨gbb4, 0, none⟩ = some (.bool t6.1) ∧ w'.cell? ⟨gbb4, 1, none⟩ = some (.int .i64 t6.2.1) ∧ w'.cell? ⟨gbb4, 2, none⟩ = some (.slice A16_0 t6.2.2.length c16_0) ∧ w'.cell? ⟨gbb5, 0, none⟩ = some (.slice A19_0 t8.1.length c19_0) ∧ w'.cell? ⟨gbb5, 1, none⟩ = some (.int .i64 t8.2.1)) ∧ (Below w138.heap.size w138 w') ∧ (Kd.C (Kd.int .i64) w' s_.1 t4.length t4) ∧ (t4.length ≤ s_.2.1) ∧ (Kd.C k53 w' s_.2.2.1 t5.1.length t5.1) ∧ (t5.1.length ≤ s_.2.2.2.1) ∧ (w'.heap[s_.2.2.2.2]? = some (.cells #[.slice none 0 0, .int .i64 0] 47 (0, 0))) ∧ (w138.heap.size ≤ s_.2.2.2.2 ∧ s_.2.2.2.2 < w'.heap.size)) ?_ ?_
     rotate_left
     ·intro hC2_10
      refine join_ (σ := Option Addr × Nat × Option Addr × Nat) 8 #[true, true, true, true, true, false, false, false, false, false, false, false, false] (fun s_ => [(117, .agg #[.slice s_.1 t4.length s_.2.1]), (119, .agg #[.slice s_.2.2.1 t5.1.length s_.2.2.2, .int .i64 t5.2])]) (fun s_ w' => (w'.cell? ⟨gbp0, 0, none⟩ = some (.slice A0_0 l0_0.length c0_0) ∧ w'.cell? ⟨gbp1, 0, none⟩ = some (.slice A1_0 l1_0.length c1_0) ∧ w'.cell? ⟨gbp1, 1, none⟩ = some (.int .i64 a1_1) ∧ w'.cell? ⟨gbp2, 0, none⟩ = some (.bool a2_0) ∧ w'.cell? ⟨gbp2, 1, none⟩ = some (.int .i64 a2_1) ∧ w'.cell? ⟨gbp2, 2, none⟩ = some (.slice A2_2 l2_2.length c2_2) ∧ w'.cell? ⟨gbb1, 0, none⟩ = some (.slice Af1_0 t7.1.length cf1_0) ∧ w'.cell? ⟨gbb1, 1, none⟩ = some (.int .i64 t7.2.1) ∧ w'.cell? ⟨gbb2, 0, none⟩ = some (.slice A10_0 t4.length c10_0) ∧ w'.cell? ⟨gbb3, 0, none⟩ = some (.slice A13_0 t5.1.length c13_0) ∧ w'.cell? ⟨gbb3, 1, none⟩ = some (.int .i64 t5.2) ∧ w'.cell? ⟨gbb4, 0, none⟩ = some (.bool t6.1) ∧ w'.cell? ⟨gbb4, 1, none⟩ = some (.int .i64 t6.2.1) ∧ w'.cell? ⟨gbb4, 2, none⟩ = some (.slice A16_0 t6.2.2.length c16_0) ∧ w'.cell? ⟨gbb5, 0, none⟩ = some (.slice A19_0 t8.1.length c19_0) ∧ w'.cell? ⟨gbb5, 1, none⟩ = some (.int .i64 t8.2.1)) ∧ (Below w138.heap.size w138 w') ∧ (Kd.C (Kd.int .i64) w' s_.1 t4.length t4) ∧ (t4.length ≤ s_.2.1) ∧ (Kd.C k53 w' s_.2.2.1 t5.1.length t5.1) ∧ (t5.1.length ≤ s_.2.2.2)) ?_ ?_
      rotate_left
      ·intro hC2
       refine join_ (σ := Option Addr × Nat × Nat) 8 #[true, true, true, false, true, false, false, false, false, false, true, false, false] (fun s_ => [(117, .agg #[.slice s_.1 t4.length s_.2.1]), (18, .pointer (some ⟨s_.2.2, 0, none⟩))]) (fun s_ w' => (w'.cell? ⟨gbp0, 0, none⟩ = some (.slice A0_0 l0_0.length c0_0) ∧ w'.cell? ⟨gbp1, 0, none⟩ = some (.slice A1_0 l1_0.length c1_0) ∧ w'.cell? ⟨gbp1, 1, none⟩ = some (.int .i64 a1_1) ∧ w'.cell? ⟨gbp2, 0, none⟩ = some (.bool a2_0) ∧ w'.cell? ⟨gbp2, 1, none⟩ = some (.int .i64 a2_1) ∧ w'.cell? ⟨gbp2, 2, none⟩ = some (.slice A2_2 l2_2.length c2_2) ∧ w'.cell? ⟨gbb1, 0, none⟩ = some (.slice Af1_0 t7.1.length cf1_0) ∧ w'.cell? ⟨gbb1, 1, none⟩ = some (.int .i64 t7.2.1) ∧ w'.cell? ⟨gbb2, 0, none⟩ = some (.slice A10_0 t4.length c10_0) ∧ w'.cell? ⟨gbb3, 0, none⟩ = some (.slice A13_0 t5.1.length c13_0) ∧ w'.cell? ⟨gbb3, 1, none⟩ = some (.int .i64 t5.2) ∧ w'.cell? ⟨gbb4, 0, none⟩ = some (.bool t6.1) ∧ w'.cell? ⟨gbb4, 1, none⟩ = some (.int .i64 t6.2.1) ∧ w'.cell? ⟨gbb4, 2, none⟩ = some (.slice A16_0 t6.2.2.length c16_0) ∧ w'.cell? ⟨gbb5, 0, none⟩ = some (.slice A19_0 t8.1.length c19_0) ∧ w'.cell? ⟨gbb5, 1, none⟩ = some (.int .i64 t8.2.1)) ∧ (Below w138.heap.size w138 w') ∧ (Kd.C (Kd.int .i64) w' s_.1 t4.length t4) ∧ (t4.length ≤ s_.2.1) ∧ (w'.heap[s_.2.2]? = some (.cells #[.slice none 0 0, .int .i64 0] 47 (0, 0))) ∧ (w138.heap.size ≤ s_.2.2 ∧ s_.2.2 < w'.heap.size)) ?_ ?_
       rotate_left
       ·intro hC1_10
        refine join_ (σ := Option Addr × Nat) 9 #[true, true, true, false, true, false, false, false, false, false, false, false, false] (fun s_ => [(117, .agg #[.slice s_.1 t4.length s_.2])]) (fun s_ w' => (w'.cell? ⟨gbp0, 0, none⟩ = some (.slice A0_0 l0_0.length c0_0) ∧ w'.cell? ⟨gbp1, 0, none⟩ = some (.slice A1_0 l1_0.length c1_0) ∧ w'.cell? ⟨gbp1, 1, none⟩ = some (.int .i64 a1_1) ∧ w'.cell? ⟨gbp2, 0, none⟩ = some (.bool a2_0) ∧ w'.cell? ⟨gbp2, 1, none⟩ = some (.int .i64 a2_1) ∧ w'.cell? ⟨gbp2, 2, none⟩ = some (.slice A2_2 l2_2.length c2_2) ∧ w'.cell? ⟨gbb1, 0, none⟩ = some (.slice Af1_0 t7.1.length cf1_0) ∧ w'.cell? ⟨gbb1, 1, none⟩ = some (.int .i64 t7.2.1) ∧ w'.cell? ⟨gbb2, 0, none⟩ = some (.slice A10_0 t4.length c10_0) ∧ w'.cell? ⟨gbb3, 0, none⟩ = some (.slice A13_0 t5.1.length c13_0) ∧ w'.cell? ⟨gbb3, 1, none⟩ = some (.int .i64 t5.2) ∧ w'.cell? ⟨gbb4, 0, none⟩ = some (.bool t6.1) ∧ w'.cell? ⟨gbb4, 1, none⟩ = some (.int .i64 t6.2.1) ∧ w'.cell? ⟨gbb4, 2, none⟩ = some (.slice A16_0 t6.2.2.length c16_0) ∧ w'.cell? ⟨gbb5, 0, none⟩ = some (.slice A19_0 t8.1.length c19_0) ∧ w'.cell? ⟨gbb5, 1, none⟩ = some (.int .i64 t8.2.1)) ∧ (Below w138.heap.size w138 w') ∧ (Kd.C (Kd.int .i64) w' s_.1 t4.length t4) ∧ (t4.length ≤ s_.2)) ?_ ?_
        rotate_left
        ·intro hC1
         refine join_ (σ := Nat) 9 #[true, false, true, false, true, false, false, false, false, false, true, false, false] (fun s_ => [(18, .pointer (some ⟨s_, 0, none⟩))]) (fun s_ w' => (w'.cell? ⟨gbp0, 0, none⟩ = some (.slice A0_0 l0_0.length c0_0) ∧ w'.cell? ⟨gbp1, 0, none⟩ = some (.slice A1_0 l1_0.length c1_0) ∧ w'.cell? ⟨gbp1, 1, none⟩ = some (.int .i64 a1_1) ∧ w'.cell? ⟨gbp2, 0, none⟩ = some (.bool a2_0) ∧ w'.cell? ⟨gbp2, 1, none⟩ = some (.int .i64 a2_1) ∧ w'.cell? ⟨gbp2, 2, none⟩ = some (.slice A2_2 l2_2.length c2_2) ∧ w'.cell? ⟨gbb1, 0, none⟩ = some (.slice Af1_0 t7.1.length cf1_0) ∧ w'.cell? ⟨gbb1, 1, none⟩ = some (.int .i64 t7.2.1) ∧ w'.cell? ⟨gbb2, 0, none⟩ = some (.slice A10_0 t4.length c10_0) ∧ w'.cell? ⟨gbb3, 0, none⟩ = some (.slice A13_0 t5.1.length c13_0) ∧ w'.cell? ⟨gbb3, 1, none⟩ = some (.int .i64 t5.2) ∧ w'.cell? ⟨gbb4, 0, none⟩ = some (.bool t6.1) ∧ w'.cell? ⟨gbb4, 1, none⟩ = some (.int .i64 t6.2.1) ∧ w'.cell? ⟨gbb4, 2, none⟩ = some (.slice A16_0 t6.2.2.length c16_0) ∧ w'.cell? ⟨gbb5, 0, none⟩ = some (.slice A19_0 t8.1.length c19_0) ∧ w'.cell? ⟨gbb5, 1, none⟩ = some (.int .i64 t8.2.1)) ∧ (Below w138.heap.size w138 w') ∧ (w'.heap[s_]? = some (.cells #[.slice none 0 0, .int .i64 0] 47 (0, 0))) ∧ (w138.heap.size ≤ s_ ∧ s_ < w'.heap.size)) ?_ ?_
         rotate_left
         ·intro hC0_10
          have HB0 := Aside0.mk (Below.refl w138.heap.size w138)
          refine two_ (i := 1) (j := 10) (Ni := some 117) (Nj := some 18) #[true, true, true, false, true, false, false, false, false, false, false, false, false] #[true, false, true, false, true, false, false, false, false, false, true, false, false] rfl rfl rfl rfl (by kernel_rfl) (by decide) (by decide) (fun K hK => ?_) (fun K hK => ?_)
          ·refine goes_ Try.func20 (by kernel_rfl) rfl #[.agg #[.slice A0_0 l0_0.length c0_0]] (by rfl) rfl rfl (by (try simp only [List.map_toArray, List.map_cons, List.map_nil]); first | done | rfl) ?_
           with_reducible refine (laws_toSchema.calls k _ _ l0_0 _ _ ?side1 ?side2 AtaS.out).mono ?_
           (case side1 => exact Kd.C_below HR0_0.out (below_then HB.out (below_size HB.out) HB0.out))
           (case side2 => exact HC0_0.out)
           rintro e wf13 ⟨v_0, rfl, hm0, hb⟩
           refine ⟨_, rfl, ?_⟩
           obtain ⟨A_0_0, c_0_0, rfl, hl0, hx0, hf0⟩ := open_R hm0
           have hb_ := below_then HB0.out HB0.out.size hb
           refine hK.out _ _ ⟨kb BKp0 hb_ rfl, kb BKp1 hb_ rfl, kb BKp1 hb_ rfl, kb BKp2 hb_ rfl, kb BKp2 hb_ rfl, kb BKp2 hb_ rfl, kb BKb1 hb_ rfl, kb BKb1 hb_ rfl, kb BKb2 hb_ rfl, kb BKb3 hb_ rfl, kb BKb3 hb_ rfl, kb BKb4 hb_ rfl, kb BKb4 hb_ rfl, kb BKb4 hb_ rfl, kb BKb5 hb_ rfl, kb BKb5 hb_ rfl⟩ (fun hHeld => ?_)
           clear hK K
           refine norm_ (a' := ?_) ?_ ?_
           rotate_left
           ·show Act.put _ (some 117) _ = _
            simp only [Act.put, sA, sZ, sS, i64_w, i32_w]
            rfl
           exact norm_ (by simp only [putAll, Act.put, sA, sZ, sS, i64_w, i32_w]) (hC1 (A_0_0, c_0_0) _ ⟨hHeld, (below_then HB0.out HB0.out.size hb), (FI.now hf0), hl0⟩)
          ·refine box_step ?hg (N := 18) ?hd (cs := #[.slice none 0 0, .int .i64 0]) (t := 47) ?hr ?_; (case hd => rfl); (case hg => rfl); (case hr => first | (go_simp; done) | (go_simp; rfl))
           intro g_10 hg wf14 hbox hb
           have hb_ := below_then HB0.out HB0.out.size hb
           refine hK.out _ _ ⟨kb BKp0 hb_ rfl, kb BKp1 hb_ rfl, kb BKp1 hb_ rfl, kb BKp2 hb_ rfl, kb BKp2 hb_ rfl, kb BKp2 hb_ rfl, kb BKb1 hb_ rfl, kb BKb1 hb_ rfl, kb BKb2 hb_ rfl, kb BKb3 hb_ rfl, kb BKb3 hb_ rfl, kb BKb4 hb_ rfl, kb BKb4 hb_ rfl, kb BKb4 hb_ rfl, kb BKb5 hb_ rfl, kb BKb5 hb_ rfl⟩ (fun hHeld => ?_)
           clear hK K
           refine norm_ (a' := ?_) ?_ ?_
           rotate_left
           ·show Act.put _ (some 18) _ = _
            simp only [Act.put, sA, sZ, sS, i64_w, i32_w]
            rfl
           exact norm_ (by simp only [putAll, Act.put, sA, sZ, sS, i64_w, i32_w]) (hC0_10 (g_10) _ ⟨hHeld, (below_then HB0.out HB0.out.size hb), hbox, (by have h_ := blk_lt hbox; have z_ := HB0.out.size;  (try dsimp only); omega)⟩)
         rintro g_10 wn0_10 ⟨hHeld, h_HB0, h_BG10, h_GZ10⟩
         have HB0 := Aside0.mk (show Below w138.heap.size w138 wn0_10 from h_HB0)
         have BG10 := Aside0.mk (show wn0_10.heap[g_10]? = some (.cells #[.slice none 0 0, .int .i64 0] 47 (0, 0)) from h_BG10)
         have GZ10 := Aside0.mk (show w138.heap.size ≤ g_10 ∧ g_10 < wn0_10.heap.size from h_GZ10)
         clear h_HB0 h_BG10 h_GZ10
         refine norm_ (a' := ?_) ?_ ?_
         rotate_left
         ·simp only [putAll, Act.put, sA, sZ, sS, i64_w, i32_w]
          rfl
         refine one_ (i := 1) (N := some 117) #[true, true, true, false, true, false, false, false, false, false, true, false, false] rfl rfl (by kernel_rfl) (by decide) (fun K hK => ?_)
         refine goes_ Try.func20 (by kernel_rfl) rfl #[.agg #[.slice A0_0 l0_0.length c0_0]] (by rfl) rfl rfl (by (try simp only [List.map_toArray, List.map_cons, List.map_nil]); first | done | rfl) ?_
         with_reducible refine (laws_toSchema.calls k _ _ l0_0 _ _ ?side1 ?side2 AtaS.out).mono ?_
         (case side1 => exact Kd.C_below HR0_0.out (below_then HB.out (below_size HB.out) HB0.out))
         (case side2 => exact HC0_0.out)
         rintro e wf15 ⟨v_0, rfl, hm0, hb⟩
         refine ⟨_, rfl, ?_⟩
         obtain ⟨A_0_0, c_0_0, rfl, hl0, hx0, hf0⟩ := open_R hm0
         have hb_ := below_then HB0.out HB0.out.size hb
         refine hK.out _ _ ⟨kb BKp0 hb_ rfl, kb BKp1 hb_ rfl, kb BKp1 hb_ rfl, kb BKp2 hb_ rfl, kb BKp2 hb_ rfl, kb BKp2 hb_ rfl, kb BKb1 hb_ rfl, kb BKb1 hb_ rfl, kb BKb2 hb_ rfl, kb BKb3 hb_ rfl, kb BKb3 hb_ rfl, kb BKb4 hb_ rfl, kb BKb4 hb_ rfl, kb BKb4 hb_ rfl, kb BKb5 hb_ rfl, kb BKb5 hb_ rfl⟩ (fun hHeld => ?_)
         clear hK K
         refine norm_ (a' := ?_) ?_ ?_
         rotate_left
         ·show Act.put _ (some 117) _ = _
          simp only [Act.put, sA, sZ, sS, i64_w, i32_w]
          rfl
         exact norm_ (by simp only [putAll, Act.put, sA, sZ, sS, i64_w, i32_w]) (hC1_10 (A_0_0, c_0_0, g_10) _ ⟨hHeld, (below_then HB0.out HB0.out.size hb), (FI.now hf0), hl0, (blk_below BG10.out hb), (by have h_ := GZ10.out; have z_ := hb.size; (try dsimp only); omega)⟩)
        rintro ⟨A_0_0, c_0_0⟩ wn1 ⟨hHeld, h_HB0, h_CF0_0, h_CD0_0⟩
        have HB0 := Aside0.mk (show Below w138.heap.size w138 wn1 from h_HB0)
        have CF0_0 := Aside0.mk (show Kd.C (Kd.int .i64) wn1 A_0_0 t4.length t4 from h_CF0_0)
        have CD0_0 := Aside0.mk (show t4.length ≤ c_0_0 from h_CD0_0)
        clear h_HB0 h_CF0_0 h_CD0_0
        refine norm_ (a' := ?_) ?_ ?_
        rotate_left
        ·simp only [putAll, Act.put, sA, sZ, sS, i64_w, i32_w]
         rfl
        refine two_ (i := 3) (j := 10) (Ni := some 119) (Nj := some 18) #[true, true, true, true, true, false, false, false, false, false, false, false, false] #[true, true, true, false, true, false, false, false, false, false, true, false, false] rfl rfl rfl rfl (by kernel_rfl) (by decide) (by decide) (fun K hK => ?_) (fun K hK => ?_)
        ·refine goes_ Try.func21 (by kernel_rfl) rfl #[.agg #[.slice A1_0 l1_0.length c1_0, .int .i64 a1_1]] (by rfl) rfl rfl (by (try simp only [List.map_toArray, List.map_cons, List.map_nil]); first | done | rfl) ?_
         with_reducible refine (laws_toSource.calls k _ _ l1_0 a1_1 _ _ _ ?side1 ?side2 AtaX.out).mono ?_
         (case side1 => exact Kd.C_below HR1_0.out (below_then HB.out (below_size HB.out) HB0.out))
         (case side2 => exact HC1_0.out)
         rintro e wf16 ⟨v_0, rfl, hm0, hb⟩
         refine ⟨_, rfl, ?_⟩
         have hm0_ := Kd.S_R hm0; clear hm0; have hm0 := hm0_; clear hm0_
         obtain ⟨A_1_0, c_1_0, rfl, hl0, hx0, hf0⟩ := open_R hm0
         have hb_ := below_then HB0.out HB0.out.size hb
         refine hK.out _ _ ⟨kb BKp0 hb_ rfl, kb BKp1 hb_ rfl, kb BKp1 hb_ rfl, kb BKp2 hb_ rfl, kb BKp2 hb_ rfl, kb BKp2 hb_ rfl, kb BKb1 hb_ rfl, kb BKb1 hb_ rfl, kb BKb2 hb_ rfl, kb BKb3 hb_ rfl, kb BKb3 hb_ rfl, kb BKb4 hb_ rfl, kb BKb4 hb_ rfl, kb BKb4 hb_ rfl, kb BKb5 hb_ rfl, kb BKb5 hb_ rfl⟩ (fun hHeld => ?_)
         clear hK K
         refine norm_ (a' := ?_) ?_ ?_
         rotate_left
         ·show Act.put _ (some 119) _ = _
          simp only [Act.put, sA, sZ, sS, i64_w, i32_w]
          rfl
         exact norm_ (by simp only [putAll, Act.put, sA, sZ, sS, i64_w, i32_w]) (hC2 (A_0_0, c_0_0, A_1_0, c_1_0) _ ⟨hHeld, (below_then HB0.out HB0.out.size hb), (Kd.C_below CF0_0.out hb), CD0_0.out, (FI.now hf0), hl0⟩)
        ·refine box_step ?hg (N := 18) ?hd (cs := #[.slice none 0 0, .int .i64 0]) (t := 47) ?hr ?_; (case hd => rfl); (case hg => rfl); (case hr => first | (go_simp; done) | (go_simp; rfl))
         intro g_10 hg wf17 hbox hb
         have hb_ := below_then HB0.out HB0.out.size hb
         refine hK.out _ _ ⟨kb BKp0 hb_ rfl, kb BKp1 hb_ rfl, kb BKp1 hb_ rfl, kb BKp2 hb_ rfl, kb BKp2 hb_ rfl, kb BKp2 hb_ rfl, kb BKb1 hb_ rfl, kb BKb1 hb_ rfl, kb BKb2 hb_ rfl, kb BKb3 hb_ rfl, kb BKb3 hb_ rfl, kb BKb4 hb_ rfl, kb BKb4 hb_ rfl, kb BKb4 hb_ rfl, kb BKb5 hb_ rfl, kb BKb5 hb_ rfl⟩ (fun hHeld => ?_)
         clear hK K
         refine norm_ (a' := ?_) ?_ ?_
         rotate_left
         ·show Act.put _ (some 18) _ = _
          simp only [Act.put, sA, sZ, sS, i64_w, i32_w]
          rfl
         exact norm_ (by simp only [putAll, Act.put, sA, sZ, sS, i64_w, i32_w]) (hC1_10 (A_0_0, c_0_0, g_10) _ ⟨hHeld, (below_then HB0.out HB0.out.size hb), (Kd.C_below CF0_0.out hb), CD0_0.out, hbox, (by have h_ := blk_lt hbox; have z_ := HB0.out.size;  (try dsimp only); omega)⟩)
       rintro ⟨A_0_0, c_0_0, g_10⟩ wn1_10 ⟨hHeld, h_HB0, h_CF0_0, h_CD0_0, h_BG10, h_GZ10⟩
       have HB0 := Aside0.mk (show Below w138.heap.size w138 wn1_10 from h_HB0)
       have CF0_0 := Aside0.mk (show Kd.C (Kd.int .i64) wn1_10 A_0_0 t4.length t4 from h_CF0_0)
       have CD0_0 := Aside0.mk (show t4.length ≤ c_0_0 from h_CD0_0)
       have BG10 := Aside0.mk (show wn1_10.heap[g_10]? = some (.cells #[.slice none 0 0, .int .i64 0] 47 (0, 0)) from h_BG10)
       have GZ10 := Aside0.mk (show w138.heap.size ≤ g_10 ∧ g_10 < wn1_10.heap.size from h_GZ10)
       clear h_HB0 h_CF0_0 h_CD0_0 h_BG10 h_GZ10
       refine norm_ (a' := ?_) ?_ ?_
       rotate_left
       ·simp only [putAll, Act.put, sA, sZ, sS, i64_w, i32_w]
        rfl
       refine one_ (i := 3) (N := some 119) #[true, true, true, true, true, false, false, false, false, false, true, false, false] rfl rfl (by kernel_rfl) (by decide) (fun K hK => ?_)
       refine goes_ Try.func21 (by kernel_rfl) rfl #[.agg #[.slice A1_0 l1_0.length c1_0, .int .i64 a1_1]] (by rfl) rfl rfl (by (try simp only [List.map_toArray, List.map_cons, List.map_nil]); first | done | rfl) ?_
       with_reducible refine (laws_toSource.calls k _ _ l1_0 a1_1 _ _ _ ?side1 ?side2 AtaX.out).mono ?_
       (case side1 => exact Kd.C_below HR1_0.out (below_then HB.out (below_size HB.out) HB0.out))
       (case side2 => exact HC1_0.out)
       rintro e wf18 ⟨v_0, rfl, hm0, hb⟩
       refine ⟨_, rfl, ?_⟩
       have hm0_ := Kd.S_R hm0; clear hm0; have hm0 := hm0_; clear hm0_
       obtain ⟨A_1_0, c_1_0, rfl, hl0, hx0, hf0⟩ := open_R hm0
       have hb_ := below_then HB0.out HB0.out.size hb
       refine hK.out _ _ ⟨kb BKp0 hb_ rfl, kb BKp1 hb_ rfl, kb BKp1 hb_ rfl, kb BKp2 hb_ rfl, kb BKp2 hb_ rfl, kb BKp2 hb_ rfl, kb BKb1 hb_ rfl, kb BKb1 hb_ rfl, kb BKb2 hb_ rfl, kb BKb3 hb_ rfl, kb BKb3 hb_ rfl, kb BKb4 hb_ rfl, kb BKb4 hb_ rfl, kb BKb4 hb_ rfl, kb BKb5 hb_ rfl, kb BKb5 hb_ rfl⟩ (fun hHeld => ?_)
       clear hK K
       refine norm_ (a' := ?_) ?_ ?_
       rotate_left
       ·show Act.put _ (some 119) _ = _
        simp only [Act.put, sA, sZ, sS, i64_w, i32_w]
        rfl
       exact norm_ (by simp only [putAll, Act.put, sA, sZ, sS, i64_w, i32_w]) (hC2_10 (A_0_0, c_0_0, A_1_0, c_1_0, g_10) _ ⟨hHeld, (below_then HB0.out HB0.out.size hb), (Kd.C_below CF0_0.out hb), CD0_0.out, (FI.now hf0), hl0, (blk_below BG10.out hb), (by have h_ := GZ10.out; have z_ := hb.size; (try dsimp only); omega)⟩)
      rintro ⟨A_0_0, c_0_0, A_1_0, c_1_0⟩ wn2 ⟨hHeld, h_HB0, h_CF0_0, h_CD0_0, h_CF1_0, h_CD1_0⟩
      have HB0 := Aside0.mk (show Below w138.heap.size w138 wn2 from h_HB0)
      have CF0_0 := Aside0.mk (show Kd.C (Kd.int .i64) wn2 A_0_0 t4.length t4 from h_CF0_0)
      have CD0_0 := Aside0.mk (show t4.length ≤ c_0_0 from h_CD0_0)
      have CF1_0 := Aside0.mk (show Kd.C k53 wn2 A_1_0 t5.1.length t5.1 from h_CF1_0)
      have CD1_0 := Aside0.mk (show t5.1.length ≤ c_1_0 from h_CD1_0)
      clear h_HB0 h_CF0_0 h_CD0_0 h_CF1_0 h_CD1_0
      refine norm_ (a' := ?_) ?_ ?_
      rotate_left
      ·simp only [putAll, Act.put, sA, sZ, sS, i64_w, i32_w]
       rfl
      refine two_ (i := 5) (j := 10) (Ni := some 121) (Nj := some 18) #[true, true, true, true, true, true, false, false, false, false, false, false, false] #[true, true, true, true, true, false, false, false, false, false, true, false, false] rfl rfl rfl rfl (by kernel_rfl) (by decide) (by decide) (fun K hK => ?_) (fun K hK => ?_)
      ·refine goes_ Try.func22 (by kernel_rfl) rfl #[.agg #[.bool a2_0, .int .i64 a2_1, .slice A2_2 l2_2.length c2_2]] (by rfl) rfl rfl (by (try simp only [List.map_toArray, List.map_cons, List.map_nil]); first | done | rfl) ?_
       with_reducible refine (laws_toChange.calls k a2_0 a2_1 _ _ l2_2 _ _ _ _ ?side1 ?side2 AtaC.out).mono ?_
       (case side1 => exact Kd.C_below HR2_2.out (below_then HB.out (below_size HB.out) HB0.out))
       (case side2 => exact HC2_2.out)
       rintro e wf19 ⟨v_0, rfl, hm0, hb⟩
       refine ⟨_, rfl, ?_⟩
       obtain ⟨A_2_2, c_2_2, rfl, hl0, hx0, hf0⟩ := open_R hm0
       have hb_ := below_then HB0.out HB0.out.size hb
       refine hK.out _ _ ⟨kb BKp0 hb_ rfl, kb BKp1 hb_ rfl, kb BKp1 hb_ rfl, kb BKp2 hb_ rfl, kb BKp2 hb_ rfl, kb BKp2 hb_ rfl, kb BKb1 hb_ rfl, kb BKb1 hb_ rfl, kb BKb2 hb_ rfl, kb BKb3 hb_ rfl, kb BKb3 hb_ rfl, kb BKb4 hb_ rfl, kb BKb4 hb_ rfl, kb BKb4 hb_ rfl, kb BKb5 hb_ rfl, kb BKb5 hb_ rfl⟩ (fun hHeld => ?_)
       clear hK K
       refine norm_ (a' := ?_) ?_ ?_
       rotate_left
       ·show Act.put _ (some 121) _ = _
        simp only [Act.put, sA, sZ, sS, i64_w, i32_w]
        rfl
       exact norm_ (by simp only [putAll, Act.put, sA, sZ, sS, i64_w, i32_w]) (hC3 (A_0_0, c_0_0, A_1_0, c_1_0, A_2_2, c_2_2) _ ⟨hHeld, (below_then HB0.out HB0.out.size hb), (Kd.C_below CF0_0.out hb), CD0_0.out, (Kd.C_below CF1_0.out hb), CD1_0.out, (FI.now hf0), hl0⟩)
      ·refine box_step ?hg (N := 18) ?hd (cs := #[.slice none 0 0, .int .i64 0]) (t := 47) ?hr ?_; (case hd => rfl); (case hg => rfl); (case hr => first | (go_simp; done) | (go_simp; rfl))
       intro g_10 hg wf20 hbox hb
       have hb_ := below_then HB0.out HB0.out.size hb
       refine hK.out _ _ ⟨kb BKp0 hb_ rfl, kb BKp1 hb_ rfl, kb BKp1 hb_ rfl, kb BKp2 hb_ rfl, kb BKp2 hb_ rfl, kb BKp2 hb_ rfl, kb BKb1 hb_ rfl, kb BKb1 hb_ rfl, kb BKb2 hb_ rfl, kb BKb3 hb_ rfl, kb BKb3 hb_ rfl, kb BKb4 hb_ rfl, kb BKb4 hb_ rfl, kb BKb4 hb_ rfl, kb BKb5 hb_ rfl, kb BKb5 hb_ rfl⟩ (fun hHeld => ?_)
       clear hK K
       refine norm_ (a' := ?_) ?_ ?_
       rotate_left
       ·show Act.put _ (some 18) _ = _
        simp only [Act.put, sA, sZ, sS, i64_w, i32_w]
        rfl
       exact norm_ (by simp only [putAll, Act.put, sA, sZ, sS, i64_w, i32_w]) (hC2_10 (A_0_0, c_0_0, A_1_0, c_1_0, g_10) _ ⟨hHeld, (below_then HB0.out HB0.out.size hb), (Kd.C_below CF0_0.out hb), CD0_0.out, (Kd.C_below CF1_0.out hb), CD1_0.out, hbox, (by have h_ := blk_lt hbox; have z_ := HB0.out.size;  (try dsimp only); omega)⟩)
     rintro ⟨A_0_0, c_0_0, A_1_0, c_1_0, g_10⟩ wn2_10 ⟨hHeld, h_HB0, h_CF0_0, h_CD0_0, h_CF1_0, h_CD1_0, h_BG10, h_GZ10⟩
     have HB0 := Aside0.mk (show Below w138.heap.size w138 wn2_10 from h_HB0)
     have CF0_0 := Aside0.mk (show Kd.C (Kd.int .i64) wn2_10 A_0_0 t4.length t4 from h_CF0_0)
     have CD0_0 := Aside0.mk (show t4.length ≤ c_0_0 from h_CD0_0)
     have CF1_0 := Aside0.mk (show Kd.C k53 wn2_10 A_1_0 t5.1.length t5.1 from h_CF1_0)
     have CD1_0 := Aside0.mk (show t5.1.length ≤ c_1_0 from h_CD1_0)
     have BG10 := Aside0.mk (show wn2_10.heap[g_10]? = some (.cells #[.slice none 0 0, .int .i64 0] 47 (0, 0)) from h_BG10)
     have GZ10 := Aside0.mk (show w138.heap.size ≤ g_10 ∧ g_10 < wn2_10.heap.size from h_GZ10)
     clear h_HB0 h_CF0_0 h_CD0_0 h_CF1_0 h_CD1_0 h_BG10 h_GZ10
     refine norm_ (a' := ?_) ?_ ?_
     rotate_left
     ·simp only [putAll, Act.put, sA, sZ, sS, i64_w, i32_w]
      rfl
     refine one_ (i := 5) (N := some 121) #[true, true, true, true, true, true, false, false, false, false, true, false, false] rfl rfl (by kernel_rfl) (by decide) (fun K hK => ?_)
     refine goes_ Try.func22 (by kernel_rfl) rfl #[.agg #[.bool a2_0, .int .i64 a2_1, .slice A2_2 l2_2.length c2_2]] (by rfl) rfl rfl (by (try simp only [List.map_toArray, List.map_cons, List.map_nil]); first | done | rfl) ?_
     with_reducible refine (laws_toChange.calls k a2_0 a2_1 _ _ l2_2 _ _ _ _ ?side1 ?side2 AtaC.out).mono ?_
     (case side1 => exact Kd.C_below HR2_2.out (below_then HB.out (below_size HB.out) HB0.out))
     (case side2 => exact HC2_2.out)
     rintro e wf21 ⟨v_0, rfl, hm0, hb⟩
     refine ⟨_, rfl, ?_⟩
     obtain ⟨A_2_2, c_2_2, rfl, hl0, hx0, hf0⟩ := open_R hm0
     have hb_ := below_then HB0.out HB0.out.size hb
     refine hK.out _ _ ⟨kb BKp0 hb_ rfl, kb BKp1 hb_ rfl, kb BKp1 hb_ rfl, kb BKp2 hb_ rfl, kb BKp2 hb_ rfl, kb BKp2 hb_ rfl, kb BKb1 hb_ rfl, kb BKb1 hb_ rfl, kb BKb2 hb_ rfl, kb BKb3 hb_ rfl, kb BKb3 hb_ rfl, kb BKb4 hb_ rfl, kb BKb4 hb_ rfl, kb BKb4 hb_ rfl, kb BKb5 hb_ rfl, kb BKb5 hb_ rfl⟩ (fun hHeld => ?_)
     clear hK K
     refine norm_ (a' := ?_) ?_ ?_
     rotate_left
     ·show Act.put _ (some 121) _ = _
      simp only [Act.put, sA, sZ, sS, i64_w, i32_w]
      rfl
     exact norm_ (by simp only [putAll, Act.put, sA, sZ, sS, i64_w, i32_w]) (hC3_10 (A_0_0, c_0_0, A_1_0, c_1_0, A_2_2, c_2_2, g_10) _ ⟨hHeld, (below_then HB0.out HB0.out.size hb), (Kd.C_below CF0_0.out hb), CD0_0.out, (Kd.C_below CF1_0.out hb), CD1_0.out, (FI.now hf0), hl0, (blk_below BG10.out hb), (by have h_ := GZ10.out; have z_ := hb.size; (try dsimp only); omega)⟩)
    rintro ⟨A_0_0, c_0_0, A_1_0, c_1_0, A_2_2, c_2_2⟩ wn3 ⟨hHeld, h_HB0, h_CF0_0, h_CD0_0, h_CF1_0, h_CD1_0, h_CF2_0, h_CD2_0⟩
    have HB0 := Aside0.mk (show Below w138.heap.size w138 wn3 from h_HB0)
    have CF0_0 := Aside0.mk (show Kd.C (Kd.int .i64) wn3 A_0_0 t4.length t4 from h_CF0_0)
    have CD0_0 := Aside0.mk (show t4.length ≤ c_0_0 from h_CD0_0)
    have CF1_0 := Aside0.mk (show Kd.C k53 wn3 A_1_0 t5.1.length t5.1 from h_CF1_0)
    have CD1_0 := Aside0.mk (show t5.1.length ≤ c_1_0 from h_CD1_0)
    have CF2_0 := Aside0.mk (show Kd.C (Kd.int .i64) wn3 A_2_2 t6.2.2.length t6.2.2 from h_CF2_0)
    have CD2_0 := Aside0.mk (show t6.2.2.length ≤ c_2_2 from h_CD2_0)
    clear h_HB0 h_CF0_0 h_CD0_0 h_CF1_0 h_CD1_0 h_CF2_0 h_CD2_0
    refine norm_ (a' := ?_) ?_ ?_
    rotate_left
    ·simp only [putAll, Act.put, sA, sZ, sS, i64_w, i32_w]
     rfl
    refine two_ (i := 6) (j := 10) (Ni := some 122) (Nj := some 18) #[true, true, true, true, true, true, true, false, false, false, false, false, false] #[true, true, true, true, true, true, false, false, false, false, true, false, false] rfl rfl rfl rfl (by kernel_rfl) (by decide) (by decide) (fun K hK => ?_) (fun K hK => ?_)
    ·refine goes_ Try.func23 (by kernel_rfl) rfl #[.agg #[.slice A_0_0 t4.length c_0_0], .agg #[.slice A_1_0 t5.1.length c_1_0, .int .i64 t5.2], .agg #[.bool t6.1, .int .i64 t6.2.1, .slice A_2_2 t6.2.2.length c_2_2]] (by rfl) rfl rfl (by (try simp only [List.map_toArray, List.map_cons, List.map_nil]); first | done | rfl) ?_
     with_reducible refine (impl_ApplyChange.calls k _ _ t4 _ _ t5.1 t5.2 t6.1 t6.2.1 _ _ t6.2.2 _ _ _ _ ?side1 ?side2 ?side3 ?side4 ?side5 ?side6 Ag.out).mono ?_
     (case side1 => exact CF0_0.out)
     (case side2 => exact CD0_0.out)
     (case side3 => exact CF1_0.out)
     (case side4 => exact CD1_0.out)
     (case side5 => exact CF2_0.out)
     (case side6 => exact CD2_0.out)
     rintro e wf22 ⟨v_0, rfl, hm0, hb⟩
     refine ⟨_, rfl, ?_⟩
     have hm0_ := Kd.S_R hm0; clear hm0; have hm0 := hm0_; clear hm0_
     obtain ⟨A_3_0, c_3_0, rfl, hl0, hx0, hf0⟩ := open_R hm0
     have hb_ := below_then HB0.out HB0.out.size hb
     refine hK.out _ _ ⟨kb BKp0 hb_ rfl, kb BKp1 hb_ rfl, kb BKp1 hb_ rfl, kb BKp2 hb_ rfl, kb BKp2 hb_ rfl, kb BKp2 hb_ rfl, kb BKb1 hb_ rfl, kb BKb1 hb_ rfl, kb BKb2 hb_ rfl, kb BKb3 hb_ rfl, kb BKb3 hb_ rfl, kb BKb4 hb_ rfl, kb BKb4 hb_ rfl, kb BKb4 hb_ rfl, kb BKb5 hb_ rfl, kb BKb5 hb_ rfl⟩ (fun hHeld => ?_)
     clear hK K
     refine norm_ (a' := ?_) ?_ ?_
     rotate_left
     ·show Act.put _ (some 122) _ = _
      simp only [Act.put, sA, sZ, sS, i64_w, i32_w]
      rfl
     refine pure_ (i := 7) (N := some 115) (v := ?_) (a' := ?_) #[true, true, true, true, true, true, true, true, false, false, false, false, false] rfl rfl (by kernel_rfl) (fun _ _ _ h => h) (Or.inl ⟨by rfl, ?_⟩) ?_ ?_
     rotate_left
     ·intro w'
      go_simp
      with_reducible rfl
     rotate_left
     ·simp only [Act.put, sA, sZ, sS, i64_w, i32_w]
      rfl
     refine pure_ (i := 8) (N := some 123) (v := ?_) (a' := ?_) #[true, true, true, true, true, true, true, true, true, false, false, false, false] rfl rfl (by kernel_rfl) (fun _ _ _ h => h) (Or.inl ⟨by rfl, ?_⟩) ?_ ?_
     rotate_left
     ·intro w'
      go_simp
      with_reducible rfl
     rotate_left
     ·simp only [Act.put, sA, sZ, sS, i64_w, i32_w]
      rfl
     refine pure_ (i := 9) (N := some 124) (v := ?_) (a' := ?_) #[true, true, true, true, true, true, true, true, true, true, false, false, false] rfl rfl (by kernel_rfl) (fun _ _ _ h => h) (Or.inl ⟨by rfl, ?_⟩) ?_ ?_
     rotate_left
     ·intro w'
      go_simp
      with_reducible rfl
     rotate_left
     ·simp only [Act.put, sA, sZ, sS, i64_w, i32_w]
      rfl
     exact norm_ (by simp only [putAll, Act.put, sA, sZ, sS, i64_w, i32_w]) (hC4 (A_0_0, c_0_0, A_1_0, c_1_0, A_2_2, c_2_2, A_3_0, c_3_0, wn3.heap.size, wf22.heap.size) _ ⟨hHeld, (below_then HB0.out HB0.out.size hb), hf0, hl0, (by have z_ := hb.size; have y_ := HB0.out.size;  (try dsimp only); omega)⟩)
    ·refine box_step ?hg (N := 18) ?hd (cs := #[.slice none 0 0, .int .i64 0]) (t := 47) ?hr ?_; (case hd => rfl); (case hg => rfl); (case hr => first | (go_simp; done) | (go_simp; rfl))
     intro g_10 hg wf23 hbox hb
     have hb_ := below_then HB0.out HB0.out.size hb
     refine hK.out _ _ ⟨kb BKp0 hb_ rfl, kb BKp1 hb_ rfl, kb BKp1 hb_ rfl, kb BKp2 hb_ rfl, kb BKp2 hb_ rfl, kb BKp2 hb_ rfl, kb BKb1 hb_ rfl, kb BKb1 hb_ rfl, kb BKb2 hb_ rfl, kb BKb3 hb_ rfl, kb BKb3 hb_ rfl, kb BKb4 hb_ rfl, kb BKb4 hb_ rfl, kb BKb4 hb_ rfl, kb BKb5 hb_ rfl, kb BKb5 hb_ rfl⟩ (fun hHeld => ?_)
     clear hK K
     refine norm_ (a' := ?_) ?_ ?_
     rotate_left
     ·show Act.put _ (some 18) _ = _
      simp only [Act.put, sA, sZ, sS, i64_w, i32_w]
      rfl
     exact norm_ (by simp only [putAll, Act.put, sA, sZ, sS, i64_w, i32_w]) (hC3_10 (A_0_0, c_0_0, A_1_0, c_1_0, A_2_2, c_2_2, g_10) _ ⟨hHeld, (below_then HB0.out HB0.out.size hb), (Kd.C_below CF0_0.out hb), CD0_0.out, (Kd.C_below CF1_0.out hb), CD1_0.out, (Kd.C_below CF2_0.out hb), CD2_0.out, hbox, (by have h_ := blk_lt hbox; have z_ := HB0.out.size;  (try dsimp only); omega)⟩)
   rintro ⟨A_0_0, c_0_0, A_1_0, c_1_0, A_2_2, c_2_2, g_10⟩ wn3_10 ⟨hHeld, h_HB0, h_CF0_0, h_CD0_0, h_CF1_0, h_CD1_0, h_CF2_0, h_CD2_0, h_BG10, h_GZ10⟩
   have HB0 := Aside0.mk (show Below w138.heap.size w138 wn3_10 from h_HB0)
   have CF0_0 := Aside0.mk (show Kd.C (Kd.int .i64) wn3_10 A_0_0 t4.length t4 from h_CF0_0)
   have CD0_0 := Aside0.mk (show t4.length ≤ c_0_0 from h_CD0_0)
   have CF1_0 := Aside0.mk (show Kd.C k53 wn3_10 A_1_0 t5.1.length t5.1 from h_CF1_0)
   have CD1_0 := Aside0.mk (show t5.1.length ≤ c_1_0 from h_CD1_0)
   have CF2_0 := Aside0.mk (show Kd.C (Kd.int .i64) wn3_10 A_2_2 t6.2.2.length t6.2.2 from h_CF2_0)
   have CD2_0 := Aside0.mk (show t6.2.2.length ≤ c_2_2 from h_CD2_0)
   have BG10 := Aside0.mk (show wn3_10.heap[g_10]? = some (.cells #[.slice none 0 0, .int .i64 0] 47 (0, 0)) from h_BG10)
   have GZ10 := Aside0.mk (show w138.heap.size ≤ g_10 ∧ g_10 < wn3_10.heap.size from h_GZ10)
   clear h_HB0 h_CF0_0 h_CD0_0 h_CF1_0 h_CD1_0 h_CF2_0 h_CD2_0 h_BG10 h_GZ10
   refine norm_ (a' := ?_) ?_ ?_
   rotate_left
   ·simp only [putAll, Act.put, sA, sZ, sS, i64_w, i32_w]
    rfl
   refine one_ (i := 6) (N := some 122) #[true, true, true, true, true, true, true, false, false, false, true, false, false] rfl rfl (by kernel_rfl) (by decide) (fun K hK => ?_)
   refine goes_ Try.func23 (by kernel_rfl) rfl #[.agg #[.slice A_0_0 t4.length c_0_0], .agg #[.slice A_1_0 t5.1.length c_1_0, .int .i64 t5.2], .agg #[.bool t6.1, .int .i64 t6.2.1, .slice A_2_2 t6.2.2.length c_2_2]] (by rfl) rfl rfl (by (try simp only [List.map_toArray, List.map_cons, List.map_nil]); first | done | rfl) ?_
   with_reducible refine (impl_ApplyChange.calls k _ _ t4 _ _ t5.1 t5.2 t6.1 t6.2.1 _ _ t6.2.2 _ _ _ _ ?side1 ?side2 ?side3 ?side4 ?side5 ?side6 Ag.out).mono ?_
   (case side1 => exact CF0_0.out)
   (case side2 => exact CD0_0.out)
   (case side3 => exact CF1_0.out)
   (case side4 => exact CD1_0.out)
   (case side5 => exact CF2_0.out)
   (case side6 => exact CD2_0.out)
   rintro e wf24 ⟨v_0, rfl, hm0, hb⟩
   refine ⟨_, rfl, ?_⟩
   have hm0_ := Kd.S_R hm0; clear hm0; have hm0 := hm0_; clear hm0_
   obtain ⟨A_3_0, c_3_0, rfl, hl0, hx0, hf0⟩ := open_R hm0
   have hb_ := below_then HB0.out HB0.out.size hb
   refine hK.out _ _ ⟨kb BKp0 hb_ rfl, kb BKp1 hb_ rfl, kb BKp1 hb_ rfl, kb BKp2 hb_ rfl, kb BKp2 hb_ rfl, kb BKp2 hb_ rfl, kb BKb1 hb_ rfl, kb BKb1 hb_ rfl, kb BKb2 hb_ rfl, kb BKb3 hb_ rfl, kb BKb3 hb_ rfl, kb BKb4 hb_ rfl, kb BKb4 hb_ rfl, kb BKb4 hb_ rfl, kb BKb5 hb_ rfl, kb BKb5 hb_ rfl⟩ (fun hHeld => ?_)
   clear hK K
   refine norm_ (a' := ?_) ?_ ?_
   rotate_left
   ·show Act.put _ (some 122) _ = _
    simp only [Act.put, sA, sZ, sS, i64_w, i32_w]
    rfl
   refine pure_ (i := 7) (N := some 115) (v := ?_) (a' := ?_) #[true, true, true, true, true, true, true, true, false, false, true, false, false] rfl rfl (by kernel_rfl) (fun _ _ _ h => h) (Or.inl ⟨by rfl, ?_⟩) ?_ ?_
   rotate_left
   ·intro w'
    go_simp
    with_reducible rfl
   rotate_left
   ·simp only [Act.put, sA, sZ, sS, i64_w, i32_w]
    rfl
   refine pure_ (i := 8) (N := some 123) (v := ?_) (a' := ?_) #[true, true, true, true, true, true, true, true, true, false, true, false, false] rfl rfl (by kernel_rfl) (fun _ _ _ h => h) (Or.inl ⟨by rfl, ?_⟩) ?_ ?_
   rotate_left
   ·intro w'
    go_simp
    with_reducible rfl
   rotate_left
   ·simp only [Act.put, sA, sZ, sS, i64_w, i32_w]
    rfl
   refine pure_ (i := 9) (N := some 124) (v := ?_) (a' := ?_) #[true, true, true, true, true, true, true, true, true, true, true, false, false] rfl rfl (by kernel_rfl) (fun _ _ _ h => h) (Or.inl ⟨by rfl, ?_⟩) ?_ ?_
   rotate_left
   ·intro w'
    go_simp
    with_reducible rfl
   rotate_left
   ·simp only [Act.put, sA, sZ, sS, i64_w, i32_w]
    rfl
   exact norm_ (by simp only [putAll, Act.put, sA, sZ, sS, i64_w, i32_w]) (hC4_10 (A_0_0, c_0_0, A_1_0, c_1_0, A_2_2, c_2_2, A_3_0, c_3_0, wn3_10.heap.size, wf24.heap.size, g_10) _ ⟨hHeld, (below_then HB0.out HB0.out.size hb), hf0, hl0, (by have z_ := hb.size; have y_ := HB0.out.size; have h10_ := GZ10.out; (try dsimp only); omega), (blk_below BG10.out hb), (by have h_ := GZ10.out; have z_ := hb.size; (try dsimp only); omega)⟩)
  rintro ⟨A_0_0, c_0_0, A_1_0, c_1_0, A_2_2, c_2_2, A_3_0, c_3_0, lo_, hi_⟩ wn4 ⟨hHeld, h_HB0, h_RF0, h_RD0, h_RZ⟩
  have HB0 := Aside0.mk (show Below w138.heap.size w138 wn4 from h_HB0)
  have RF0 := Aside0.mk (show FI k53 wn4 lo_ hi_ A_3_0 t8.1 from h_RF0)
  have RD0 := Aside0.mk (show t8.1.length ≤ c_3_0 from h_RD0)
  have RZ := Aside0.mk (show w138.heap.size ≤ lo_ ∧ lo_ ≤ hi_ ∧ hi_ ≤ wn4.heap.size from h_RZ)
  clear h_HB0 h_RF0 h_RD0 h_RZ
  refine norm_ (a' := ?_) ?_ ?_
  rotate_left
  ·simp only [putAll, Act.put, sA, sZ, sS, i64_w, i32_w]
   rfl
  refine one_ (i := 10) (N := some 18) #[true, true, true, true, true, true, true, true, true, true, true, false, false] rfl rfl (by kernel_rfl) (by decide) (fun K hK => ?_)
  refine box_step ?hg (N := 18) ?hd (cs := #[.slice none 0 0, .int .i64 0]) (t := 47) ?hr ?_; (case hd => rfl); (case hg => rfl); (case hr => first | (go_simp; done) | (go_simp; rfl))
  intro g_10 hg wf25 hbox hb
  have hb_ := below_then HB0.out HB0.out.size hb
  refine hK.out _ _ ⟨kb BKp0 hb_ rfl, kb BKp1 hb_ rfl, kb BKp1 hb_ rfl, kb BKp2 hb_ rfl, kb BKp2 hb_ rfl, kb BKp2 hb_ rfl, kb BKb1 hb_ rfl, kb BKb1 hb_ rfl, kb BKb2 hb_ rfl, kb BKb3 hb_ rfl, kb BKb3 hb_ rfl, kb BKb4 hb_ rfl, kb BKb4 hb_ rfl, kb BKb4 hb_ rfl, kb BKb5 hb_ rfl, kb BKb5 hb_ rfl⟩ (fun hHeld => ?_)
  clear hK K
  refine norm_ (a' := ?_) ?_ ?_
  rotate_left
  ·show Act.put _ (some 18) _ = _
   simp only [Act.put, sA, sZ, sS, i64_w, i32_w]
   rfl
  exact norm_ (by simp only [putAll, Act.put, sA, sZ, sS, i64_w, i32_w]) (hC4_10 (A_0_0, c_0_0, A_1_0, c_1_0, A_2_2, c_2_2, A_3_0, c_3_0, lo_, hi_, g_10) _ ⟨hHeld, (below_then HB0.out HB0.out.size hb), (FI.below RF0.out hb), RD0.out, (by have h_ := RZ.out; have z_ := hb.size;  (try dsimp only); omega), hbox, (by have h_ := blk_lt hbox; have z_ := HB0.out.size;  (try dsimp only); omega)⟩)
 rintro ⟨A_0_0, c_0_0, A_1_0, c_1_0, A_2_2, c_2_2, A_3_0, c_3_0, lo_, hi_, g_10⟩ w139 ⟨hHeld, h_HB0, h_RF0, h_RD0, h_RZ, h_BG10, h_GZ10⟩
 have HB0 := Aside0.mk (show Below w138.heap.size w138 w139 from h_HB0)
 have RF0 := Aside0.mk (show FI k53 w139 lo_ hi_ A_3_0 t8.1 from h_RF0)
 have RD0 := Aside0.mk (show t8.1.length ≤ c_3_0 from h_RD0)
 have RZ := Aside0.mk (show w138.heap.size ≤ lo_ ∧ lo_ ≤ hi_ ∧ hi_ ≤ w139.heap.size ∧ (g_10 < lo_ ∨ hi_ ≤ g_10) from h_RZ)
 have BG10 := Aside0.mk (show w139.heap[g_10]? = some (.cells #[.slice none 0 0, .int .i64 0] 47 (0, 0)) from h_BG10)
 have GZ10 := Aside0.mk (show w138.heap.size ≤ g_10 ∧ g_10 < w139.heap.size from h_GZ10)
 clear h_HB0 h_RF0 h_RD0 h_RZ h_BG10 h_GZ10
 refine norm_ (a' := ?_) ?_ ?_
 rotate_left
 ·simp only [putAll, Act.put, sA, sZ, sS, i64_w, i32_w]
  rfl
 have HBG := Aside0.mk (show Below w138.heap.size w138 w139 from HB0.out)
 replace FFf1_0 := qFb FFf1_0 HB0.out
 replace FF24_0 := qFb FF24_0 HB0.out
 replace FF27_0 := qFb FF27_0 HB0.out
 replace FF30_0 := qFb FF30_0 HB0.out
 replace BKp0 := qBb BKp0 HB0.out
 replace BKp1 := qBb BKp1 HB0.out
 replace BKp2 := qBb BKp2 HB0.out
 replace BKb1 := qBb BKb1 HB0.out
 replace BKb2 := qBb BKb2 HB0.out
 replace BKb3 := qBb BKb3 HB0.out
 replace BKb4 := qBb BKb4 HB0.out
 replace BKb5 := qBb BKb5 HB0.out
 replace HB := qHb HB HB0.out
 replace SZ := qZ SZ (show w138.heap.size ≤ w139.heap.size from HB0.out.size)
 have SZ_ := Aside0.mk (And.intro SZ.out (And.intro RZ.out (And.intro GZ10.out trivial)))
 clear SZ RZ HB0 GZ10
 have SZ := SZ_
 clear SZ_
 have FFf2_0 := RF0
 have CCf2_0 := RD0
 clear RF0 RD0
 obtain ⟨lof2, e_⟩ : ∃ x_, x_ = lo_ := ⟨_, rfl⟩
 subst e_
 obtain ⟨hif2, e_⟩ : ∃ x_, x_ = hi_ := ⟨_, rfl⟩
 subst e_
 obtain ⟨gbb6, e_⟩ : ∃ x_, x_ = g_10 := ⟨_, rfl⟩
 subst e_
 obtain ⟨Af2_0, e_⟩ : ∃ x_, x_ = A_3_0 := ⟨_, rfl⟩
 subst e_
 obtain ⟨cf2_0, e_⟩ : ∃ x_, x_ = c_3_0 := ⟨_, rfl⟩
 subst e_
 obtain ⟨A_0_0f2, e_⟩ : ∃ x_, x_ = A_0_0 := ⟨_, rfl⟩
 subst e_
 obtain ⟨c_0_0f2, e_⟩ : ∃ x_, x_ = c_0_0 := ⟨_, rfl⟩
 subst e_
 obtain ⟨A_1_0f2, e_⟩ : ∃ x_, x_ = A_1_0 := ⟨_, rfl⟩
 subst e_
 obtain ⟨c_1_0f2, e_⟩ : ∃ x_, x_ = c_1_0 := ⟨_, rfl⟩
 subst e_
 obtain ⟨A_2_2f2, e_⟩ : ∃ x_, x_ = A_2_2 := ⟨_, rfl⟩
 subst e_
 obtain ⟨c_2_2f2, e_⟩ : ∃ x_, x_ = c_2_2 := ⟨_, rfl⟩
 subst e_
 have BKb6 := BG10
 clear BG10
 refine one_ (i := 11) (N := none) #[true, true, true, true, true, true, true, true, true, true, true, true, false] rfl rfl (by kernel_rfl) (by decide) (fun K hK => ?_)
 have hcb6_0 : w139.cell? ⟨gbb6, 0, none⟩ = some (.slice none 0 0) := kc BKb6 rfl
 have hcb6_1 : w139.cell? ⟨gbb6, 1, none⟩ = some (.int .i64 0) := kc BKb6 rfl
 have hfb6_0 := blk_frozen BKb6.out 0
 have hfb6_1 := blk_frozen BKb6.out 1
 refine skip_ (w1 := ?_) (by rfl) rfl ?_ ?_
 rotate_left
 ·go_simp
  rfl
 clear hcb6_0 hfb6_0 hcb6_1 hfb6_1
 obtain ⟨w140, hw_⟩ : ∃ W_, W_ = ((w139.setCell ⟨gbb6, 0, none⟩ (.slice Af2_0 t8.1.length cf2_0)).setCell ⟨gbb6, 1, none⟩ (.int .i64 t8.2.1)) := ⟨_, rfl⟩
 rw [← hw_]
 have hg_ : w139.grownBy w140 (some gbb6) := (by rw [hw_]; exact sg (sg (sg0 _ _) 0 _) 1 _)
 replace BKb6 := Aside0.mk (show w140.heap[gbb6]? = some (.cells #[.slice Af2_0 t8.1.length cf2_0, .int .i64 t8.2.1] 47 (0, 0)) from by rw [hw_]; exact (((set_obj (set_obj BKb6.out 0 (.slice Af2_0 t8.1.length cf2_0)) 1 (.int .i64 t8.2.1))).trans (by simp [Array.setIfInBounds])))
 have s_ := SZ.out; have z_ := below_size HB.out
 replace FFf1_0 := qFs FFf1_0 hg_ (by omega)
 replace FF24_0 := qFs FF24_0 hg_ (by omega)
 replace FF27_0 := qFs FF27_0 hg_ (by omega)
 replace FF30_0 := qFs FF30_0 hg_ (by omega)
 replace FFf2_0 := qFs FFf2_0 hg_ (by omega)
 replace BKp0 := qBs BKp0 hg_ (by omega)
 replace BKp1 := qBs BKp1 hg_ (by omega)
 replace BKp2 := qBs BKp2 hg_ (by omega)
 replace BKb1 := qBs BKb1 hg_ (by omega)
 replace BKb2 := qBs BKb2 hg_ (by omega)
 replace BKb3 := qBs BKb3 hg_ (by omega)
 replace BKb4 := qBs BKb4 hg_ (by omega)
 replace BKb5 := qBs BKb5 hg_ (by omega)
 replace HB := qHs HB hg_ (by omega)
 clear s_ z_
 replace SZ := qZ SZ (show w139.heap.size ≤ w140.heap.size from by rw [hw_]; simp [World.setCell])
 have HBG_ := Aside0.mk (show Below w138.heap.size w138 w140 from by rw [hw_]; exact (below_set (below_set HBG.out (by have := SZ.out; omega)) (by have := SZ.out; omega)))
 have n_RWG0 := Aside0.mk (row_below (st_pair st_int (st_eRow (st_row st_int))) RWG0.out HBG_.out)
 clear RWG0
 have RWG0 := n_RWG0
 clear n_RWG0
 have n_VG := Aside0.mk (LayI.Vals.move VG.out HBG_.out)
 clear VG
 have VG := n_VG
 clear n_VG
 clear HBG HBG_
 clear hw_ hg_
 refine hK.out _ _ ⟨kc BKp0 rfl, kc BKp1 rfl, kc BKp1 rfl, kc BKp2 rfl, kc BKp2 rfl, kc BKp2 rfl, kc BKb1 rfl, kc BKb1 rfl, kc BKb2 rfl, kc BKb3 rfl, kc BKb3 rfl, kc BKb4 rfl, kc BKb4 rfl, kc BKb4 rfl, kc BKb5 rfl, kc BKb5 rfl⟩ (fun hHeld => ?_)
 clear hK K
 refine pure_ (i := 12) (N := some 19) (v := ?_) (a' := ?_) #[true, true, true, true, true, true, true, true, true, true, true, true, true] rfl rfl (by kernel_rfl) (fun _ _ _ h => h) (Or.inl ⟨by rfl, ?_⟩) ?_ ?_
 rotate_left
 ·intro w'
  go_simp
  with_reducible rfl
 rotate_left
 ·simp only [Act.put, sA, sZ, sS, i64_w, i32_w]
  rfl
 refine done_ (by kernel_rfl) ?_
 have hcb1_0 : w140.cell? ⟨gbb1, 0, none⟩ = some (.slice Af1_0 t7.1.length cf1_0) := kc BKb1 rfl
 have hfb1_0 := blk_frozen BKb1.out 0
 have hcb1_1 : w140.cell? ⟨gbb1, 1, none⟩ = some (.int .i64 t7.2.1) := kc BKb1 rfl
 have hfb1_1 := blk_frozen BKb1.out 1
 have hcb6_0 : w140.cell? ⟨gbb6, 0, none⟩ = some (.slice Af2_0 t8.1.length cf2_0) := kc BKb6 rfl
 have hfb6_0 := blk_frozen BKb6.out 0
 have hcb6_1 : w140.cell? ⟨gbb6, 1, none⟩ = some (.int .i64 t8.2.1) := kc BKb6 rfl
 have hfb6_1 := blk_frozen BKb6.out 1
 go_wp2_with (first | ((with_reducible refine gate_callee (f := 24) rfl ?_); (try (refine gate_guard (by rfl) ?_; dsimp only)); refine goesL_ (some 127) rfl rfl Try.func24 (by kernel_rfl) rfl #[.agg #[.slice Af2_0 t8.1.length cf2_0, .int .i64 t8.2.1], .agg #[.slice Af1_0 t7.1.length cf1_0, .int .i64 t7.2.1]] rfl (by (try simp only [List.map_toArray, List.map_cons, List.map_nil]); first | done | rfl) ?_; (with_reducible refine (laws_eqSource.calls k _ _ t8.1 t8.2.1 _ _ t7.1 t7.2.1 _ _ ?side1 ?side2 ?side3 ?side4 Ae0.out).mono ?_); (case side1 => exact (FI.now FFf2_0.out)); (case side2 => exact CCf2_0.out); (case side3 => exact (FI.now FFf1_0.out)); (case side4 => exact CCf1_0.out); rintro e w141 ⟨rfl, hb⟩; refine ⟨_, rfl, ?_⟩; clear hcb1_0 hfb1_0 hcb1_1 hfb1_1 hcb6_0 hfb6_0 hcb6_1 hfb6_1; replace SZ := qZ SZ (show w140.heap.size ≤ w141.heap.size from hb.size); replace FFf1_0 := qFb FFf1_0 hb; replace FF24_0 := qFb FF24_0 hb; replace FF27_0 := qFb FF27_0 hb; replace FF30_0 := qFb FF30_0 hb; replace FFf2_0 := qFb FFf2_0 hb; replace BKp0 := qBb BKp0 hb; replace BKp1 := qBb BKp1 hb; replace BKp2 := qBb BKp2 hb; replace BKb1 := qBb BKb1 hb; replace BKb2 := qBb BKb2 hb; replace BKb3 := qBb BKb3 hb; replace BKb4 := qBb BKb4 hb; replace BKb5 := qBb BKb5 hb; replace BKb6 := qBb BKb6 hb; replace RWG0 := qGb (st_pair st_int (st_eRow (st_row st_int))) RWG0 hb; replace VG := Aside0.mk (LayI.Vals.move VG.out hb); replace HB := qHb HB hb; have hcb5_0 : w141.cell? ⟨gbb5, 0, none⟩ = some (.slice A19_0 t8.1.length c19_0) := kc BKb5 rfl; have hfb5_0 := blk_frozen BKb5.out 0; have hcb5_1 : w141.cell? ⟨gbb5, 1, none⟩ = some (.int .i64 t8.2.1) := kc BKb5 rfl; have hfb5_1 := blk_frozen BKb5.out 1; clear hb) | ((with_reducible refine gate_callee (f := 30) rfl ?_); (try (refine gate_guard (by rfl) ?_; dsimp only)); refine goesL_ (some 136) rfl rfl Try.func30 (by kernel_rfl) rfl #[.agg #[.slice A19_0 t8.1.length c19_0, .int .i64 t8.2.1], .int .i64 1] rfl (by (try simp only [List.map_toArray, List.map_cons, List.map_nil]); first | done | rfl) ?_; (with_reducible refine (LayI.heldSource _ _ _ _ plG0 1 _ ?r0 ?rv ?s0 ?s1).mono ?_); (case r0 => exact RWG0.out); (case rv => first | (with_reducible exact VG.out) | exact VG.out | exact LayI.Vals.move VG.out (pw_below_drewN (Below.refl _ _) _)); (case s0 => omega); (case s1 => (have h1_ := CB2.out; have := LNG0.out; omega)); rintro e w142 ⟨rfl, hb⟩; refine ⟨_, rfl, ?_⟩; clear hcb5_0 hfb5_0 hcb5_1 hfb5_1; replace SZ := qZ SZ (show w141.heap.size ≤ w142.heap.size from hb.size); replace FFf1_0 := qFb FFf1_0 hb; replace FF24_0 := qFb FF24_0 hb; replace FF27_0 := qFb FF27_0 hb; replace FF30_0 := qFb FF30_0 hb; replace FFf2_0 := qFb FFf2_0 hb; replace BKp0 := qBb BKp0 hb; replace BKp1 := qBb BKp1 hb; replace BKp2 := qBb BKp2 hb; replace BKb1 := qBb BKb1 hb; replace BKb2 := qBb BKb2 hb; replace BKb3 := qBb BKb3 hb; replace BKb4 := qBb BKb4 hb; replace BKb5 := qBb BKb5 hb; replace BKb6 := qBb BKb6 hb; replace RWG0 := qGb (st_pair st_int (st_eRow (st_row st_int))) RWG0 hb; replace VG := Aside0.mk (LayI.Vals.move VG.out hb); replace HB := qHb HB hb; clear hb))
 go_ret
 exact ⟨rfl, HB.out⟩
end Go.Proofs.Ytjglknoebaojgaa.P

