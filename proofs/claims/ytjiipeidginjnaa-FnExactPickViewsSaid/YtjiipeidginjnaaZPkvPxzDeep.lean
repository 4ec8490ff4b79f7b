/- Out of YtjiipeidginjnaaPxzDeep: what the claim needs of it. Conditions: each declaration's own. -/
import Derived.Test.YtjiipeidginjnaaZPkvPx8
import Derived.Test.YtjiipeidginjnaaZPkvM15
namespace Go.Proofs.Ytjiipeidginjnaa.P
open Go.RowKit Go.Proofs.YtjiipeidginjnaaW.PrintWords Go.Proofs.YtjiipeidginjnaaW.PrintLast Go.Proofs.YtjiipeidginjnaaW.PrintMore Go.Proofs.Ytjiipeidginjnaa.Lay Go.Proofs.Ytjiipeidginjnaa.LawM Go.Proofs.Ytjiipeidginjnaa.Deep
attribute [local go_sem] max2_int min2_int max_two min_two max_three min_three max_four min_four
set_option linter.unusedVariables false
set_option linter.unusedSimpArgs false
def kQd : Kd S72 := Kd.iso (pairA (Kd.slice 3 (Kd.int .i64)) (sliceS 153 k153)) (fun x : S72 => (x.f0, x.f1))
theorem int_only {e base : Nat} {w : World} {ok : Nat → Prop} {v : Value} {l : List Int} (h : (Kd.int .i64).R e w base ok v l) : (Kd.int .i64).R e w base (fun k => v.ownBlock = some k) v l := ⟨fun k hk => hk, h.2⟩
theorem kQd_mk {w : World} {base N : Nat} {x : S72} {v0 v1 : Value} (g0 : (Kd.int .i64).R 3 w base (fun k => N ≤ k) v0 x.f0) (g1 : Kd.S k153 153 w base (fun k => some k ≠ v0.ownBlock ∧ N ≤ k) v1 x.f1) : kQd.M w base (fun k => N ≤ k) x [v0, v1] :=
  ⟨[v0], [v1], (fun k => v0.ownBlock = some k), (fun k => some k ≠ v0.ownBlock ∧ N ≤ k), rfl, fun k hk => g0.1 k hk, fun k hk => hk.2, fun k h1 h2 => h2.1 h1.symm, ⟨v0, rfl, int_only g0⟩, ⟨v1, rfl, g1⟩⟩
theorem kQd_M {w : World} {base : Nat} {ok : Nat → Prop} {x : S72} {cs : List Value} (h : kQd.M w base ok x cs) : k72.M w base ok x cs := by
  obtain ⟨c0, c1, ok0, ok1, he, h0, h1, _, ⟨u0, e0, ha⟩, ⟨u1, e1, hb⟩⟩ := h
  exact ⟨c0, c1, he, ⟨u0, e0, Kd.R_mono ha h0⟩, ⟨u1, e1, Kd.R_mono (Kd.S_R hb) h1⟩⟩
theorem kQd_R {w : World} {base : Nat} {ok : Nat → Prop} {v : Value} {xs : List S72} (h : Kd.S kQd 72 w base ok v xs) : k72.R 72 w base ok v xs := by
  have h2 := Kd.S_R h
  exact ⟨h2.1, h2.2.imp_ (fun _ _ hp => kQd_M hp)⟩
def cnQ : S72 → Nat := fun x => sumOf (fun _ => 1) x.f0 + sumOf (fun y : S153 => 1 + sumOf (fun _ => 1) y.f1) x.f1
theorem kQd_places {w : World} {base : Nat} {ok : Nat → Prop} {v : Value} {xs : List S72} (h : Kd.S kQd 72 w base ok v xs) :
    ∃ pls, Row 2 (ePair (eRow (Row 1 eInt)) (eRow (Row 2 (ePair eInt (eRow (Row 1 eInt)))))) w v pls ∧ pls.length = sumOf cnQ xs ∧ pls.Nodup ∧ ∀ p ∈ pls, ok p.1 :=
  rowS_nodup (d := kQd) (mkn_iso (fun x : S72 => (x.f0, x.f1)) (mkn_pairA (mkn_sliceI 3) (mkn_sliceS (mkn_iso (fun y : S153 => (y.f0, y.f1)) (mkn_pair mkn_int1 (mkn_sliceI 3) rfl)) (Nat.succ_pos 1) 153) rfl)) (Nat.succ_pos 1) h
set_option maxHeartbeats 8000000 in
set_option maxRecDepth 100000 in
theorem impl_PickViews.deep (k : Nat) (A0 : Option Addr) (c0 : Nat) (l0 : List (S72)) (A1 : Option Addr) (c1 : Nat) (l1 : List Int) (r : List (S72)) (w : World) (hr0 : Kd.C k72 w A0 l0.length l0) (hc0 : l0.length ≤ c0) (hr1 : Kd.C (Kd.int .i64) w A1 l1.length l1) (hc1 : l1.length ≤ c1) (h : impl_PickViews.f k l0 l1 = some r) :
    Calls Try.prog 26 #[.slice A0 l0.length c0, .slice A1 l1.length c1] w fun e w' => ∃ v0_ : Value, e = .returned (v0_) ∧ Kd.S kQd 72 w' w.heap.size (fun _ => True) v0_ r ∧ Below w.heap.size w w' := by
  have hu72 := Try.underlying72
  have HR0 := Aside0.mk hr0
  have HC0 := Aside0.mk hc0
  clear hr0 hc0
  have HR1 := Aside0.mk hr1
  have HC1 := Aside0.mk hc1
  clear hr1 hc1
  have HB := Aside0.mk (Below.refl w.heap.size w)
  have H : (impl_PickViews.l0 k l0 (([] : List (S72))) l1 (l1.length : Int) 0) = some r := h
  clear h
  obtain ⟨y348, hy348⟩ : ∃ y_ : List (S72), y_ = (([] : List (S72))) := ⟨_, rfl⟩
  replace H : (impl_PickViews.l0 k l0 y348 l1 (l1.length : Int) 0) = some r := by first | (rw [hy348]; with_reducible exact H) | (have H2_ := (Option.bind_some _ _).symm.trans H; rw [hy348]; with_reducible exact H2_) | (have H2_ := (Option.bind_some _ _).symm.trans H; with_reducible exact H2_) | with_reducible exact H | (rw [hy348]; exact H) | exact H
  have Ny348 := Aside0.mk hy348
  clear hy348
  have H' := Aside0.mk H
  clear H
  go_enter Try.func26, Try.ntmps26
  go_wp2_with (first | ((with_reducible refine gate_dst (N := 8) rfl ?_); refine Kd.S_lit kQd _ 72 ?hg (N := 8) ?hd (xs := ([] : List (S72))) (inner := []) (ok := fun _ => True) (okp := fun _ => True) ?hr ?hp (fun _ hk => hk) trivial (Below.refl _ _) (Nat.le_refl _) (by simp) ?_; (case hd => rfl); (case hg => rfl); (case hr => first | (go_simp; done) | (go_simp; rfl)); (case hp => exact (Reps.none _ _)); intro v349 w3 ho4 hb hg_ hnew_; clear hg_ hnew_; (first | rw [← Ny348.out] at ho4 | (simp only [Int.reduceToNat] at ho4; rw [← Ny348.out] at ho4)); have n0_ := Aside0.mk (Kd.S_lower ho4 (below_size (by repeat (first | (with_reducible first | exact HB.out | apply below_alloc | apply pw_below_drewN | apply below_drew1) | exact HB.out)))); have n1_ := Aside0.mk (below_step (by repeat (first | (with_reducible first | exact HB.out | apply below_alloc | apply pw_below_drewN | apply below_drew1) | exact HB.out)) hb); clear HB; have HO350 := n0_; have HB := n1_; clear n0_ n1_; clear hb ho4))
  go_loopg [5, 11] k (fun kq v5 v11 w' => ∃ (x5_1 : List (S72)) (x11_1 : Int), v11 = .int .i64 x11_1 ∧ Aside0 (impl_PickViews.l0 kq l0 x5_1 l1 (l1.length : Int) x11_1 = some r) ∧ Aside0 (kq ≤ k) ∧ Aside0 (Kd.S kQd 72 w' w.heap.size (fun _ => True) v5 x5_1) ∧ Aside0 (Below w.heap.size w w'))
  case atStart => exact ⟨(y348), (0), (by first | rfl | (simp; done) | (simp [*]; done)), H', ⟨Nat.le_refl _⟩, ⟨by (with_reducible repeat (first | apply Kd.S_alloc | apply Kd.S_drewN | apply Kd.S_drew)); exact HO350.out⟩, ⟨by repeat (first | (with_reducible first | exact HB.out | apply below_alloc | apply pw_below_drewN | apply below_drew1) | exact HB.out)⟩⟩
  case round =>
    clear H'
    try clear c1
    try clear c2
    try clear p2
    obtain ⟨x5_1, x11_1, rfl, HA, HK1, HO_5, HB⟩ := hrel
    cases gk with
    | zero => exact absurd HA.out (by simp [impl_PickViews.l0])
    | succ k1 =>
      have H := HA.out
      clear HA
      simp only [impl_PickViews.l0] at H
      by_cases c5 : x11_1 < (l1.length : Int)
      · rw [if_pos c5] at H
        have c5b0 : decide (x11_1 < (l1.length : Int)) = true := decide_eq_true c5
        clear c5
        by_cases c6 : 0 ≤ x11_1
        · rw [if_pos c6] at H
          have c6b0 : decide (0 ≤ x11_1) = true := decide_eq_true c6
          clear c6
          by_cases c7 : x11_1 < (l1.length : Int)
          · rw [if_pos c7] at H
            have c7b0 : decide (x11_1 < (l1.length : Int)) = true := decide_eq_true c7
            clear c7
            replace H := Option.bind_eq_some_iff.mp H
            obtain ⟨t352, A80, H⟩ := H
            replace H : (if t352 = true then (if 0 ≤ (rd l1 x11_1) then (if (rd l1 x11_1) < (l0.length : Int) then ((impl_copyQuery.f k1 ((rd_T72 l0 (rd l1 x11_1)).f0) ((rd_T72 l0 (rd l1 x11_1)).f1)).bind fun bt354 => (if x5_1.length < 2932031007402 then (impl_PickViews.l0 k1 l0 (x5_1 ++ [(⟨bt354.1, bt354.2⟩ : S72)]) l1 (l1.length : Int) (wrap64 (x11_1 + 1))) else (none))) else (none)) else (none)) else (impl_PickViews.l0 k1 l0 x5_1 l1 (l1.length : Int) (wrap64 (x11_1 + 1)))) = some r := H
            have A8 := Aside0.mk A80
            clear A80
            by_cases c9 : t352 = true
            · subst c9
              have H1 : (if 0 ≤ (rd l1 x11_1) then (if (rd l1 x11_1) < (l0.length : Int) then ((impl_copyQuery.f k1 ((rd_T72 l0 (rd l1 x11_1)).f0) ((rd_T72 l0 (rd l1 x11_1)).f1)).bind fun bt354 => (if x5_1.length < 2932031007402 then (impl_PickViews.l0 k1 l0 (x5_1 ++ [(⟨bt354.1, bt354.2⟩ : S72)]) l1 (l1.length : Int) (wrap64 (x11_1 + 1))) else (none))) else (none)) else (none)) = some r := by rw [if_pos rfl] at H; exact H
              clear H
              have H := H1
              clear H1
              by_cases c10 : 0 ≤ (rd l1 x11_1)
              · rw [if_pos c10] at H
                have c10b0 : decide (0 ≤ (rd l1 x11_1)) = true := decide_eq_true c10
                clear c10
                by_cases c11 : (rd l1 x11_1) < (l0.length : Int)
                · rw [if_pos c11] at H
                  have c11b0 : decide ((rd l1 x11_1) < (l0.length : Int)) = true := decide_eq_true c11
                  clear c11
                  replace H := Option.bind_eq_some_iff.mp H
                  obtain ⟨⟨t354, t357⟩, A120, H⟩ := H
                  replace H : (if x5_1.length < 2932031007402 then (impl_PickViews.l0 k1 l0 (x5_1 ++ [(⟨t354, t357⟩ : S72)]) l1 (l1.length : Int) (wrap64 (x11_1 + 1))) else (none)) = some r := H
                  have A12 := Aside0.mk A120
                  clear A120
                  by_cases c13 : x5_1.length < 2932031007402
                  · rw [if_pos c13] at H
                    have LMc13 := Aside0.mk c13
                    clear c13
                    obtain ⟨y360, hy360⟩ : ∃ y_ : List (S72), y_ = (x5_1 ++ [(⟨t354, t357⟩ : S72)]) := ⟨_, rfl⟩
                    replace H : (impl_PickViews.l0 k1 l0 y360 l1 (l1.length : Int) (wrap64 (x11_1 + 1))) = some r := by first | (rw [hy360]; with_reducible exact H) | (have H2_ := (Option.bind_some _ _).symm.trans H; rw [hy360]; with_reducible exact H2_) | (have H2_ := (Option.bind_some _ _).symm.trans H; with_reducible exact H2_) | with_reducible exact H | (rw [hy360]; exact H) | exact H
                    have Ny360 := Aside0.mk hy360
                    clear hy360
                    have H' := Aside0.mk H
                    clear H
                    have p351 : 0 ≤ (x11_1 : Int) := of_decide_eq_true (by first | (with_reducible assumption) | assumption)
                    have q351 : x11_1 < (l1.length : Int) := of_decide_eq_true (by first | (with_reducible assumption) | assumption)
                    obtain ⟨ad351, e351, hx351_0⟩ := Kd.at_int HR1.out x11_1 p351 q351
                    cases e351
                    replace hx351_0 := (HB.out.cell (World.block_lt_of_cell? w _ hx351_0)).trans hx351_0
                    replace p351 := eq_true p351
                    replace q351 := eq_true q351
                    go_wp2_with (first | ((with_reducible refine gate_callee (f := 80) rfl ?_); refine goesL_ (some 19) rfl rfl Try.func80 (by kernel_rfl) rfl #[.int .i64 (rd l1 x11_1), .int .i64 0, .int .i64 (wrap64 ((l0.length : Int) - 1))] rfl (by (try simp only [List.map_toArray, List.map_cons, List.map_nil]); first | done | rfl | (simp only [List.length_drop, List.length_take]; rfl)) ?_; (with_reducible refine (impl_within.calls (rd l1 x11_1) 0 (wrap64 ((l0.length : Int) - 1)) true _ A8.out).mono ?_); rintro e w' ⟨rfl, ⟨nd, rfl⟩⟩; refine ⟨_, rfl, ?_⟩; have p353 : 0 ≤ ((rd l1 x11_1) : Int) := of_decide_eq_true (by first | (with_reducible assumption) | assumption); have q353 : (rd l1 x11_1) < (l0.length : Int) := of_decide_eq_true (by first | (with_reducible assumption) | assumption); obtain ⟨ad353, A353_0, c353_0, A353_1, c353_1, e353, hx353_0, hx353_1, hl353_0, hi353_0, hl353_1, hi353_1⟩ := at_T72 HR0.out (rd l1 x11_1) p353 q353; cases e353; replace hx353_0 := (HB.out.cell (World.block_lt_of_cell? w _ hx353_0)).trans hx353_0; replace hx353_1 := (HB.out.cell (World.block_lt_of_cell? w _ hx353_1)).trans hx353_1; have HR353_0 := Aside0.mk hi353_0; have HC353_0 := Aside0.mk hl353_0; clear hi353_0 hl353_0; have HR353_1 := Aside0.mk hi353_1; have HC353_1 := Aside0.mk hl353_1; clear hi353_1 hl353_1; replace p353 := eq_true p353; replace q353 := eq_true q353) | ((with_reducible refine gate_callee (f := 81) rfl ?_); refine goesL_ (some 25) rfl rfl Try.func81 (by kernel_rfl) rfl #[.agg #[.slice A353_0 ((rd_T72 l0 (rd l1 x11_1)).f0).length c353_0, .slice A353_1 ((rd_T72 l0 (rd l1 x11_1)).f1).length c353_1]] rfl (by (try simp only [List.map_toArray, List.map_cons, List.map_nil]); first | done | rfl | (simp only [List.length_drop, List.length_take]; rfl)) ?_; (with_reducible refine (impl_copyQuery.calls k1 _ _ ((rd_T72 l0 (rd l1 x11_1)).f0) _ _ ((rd_T72 l0 (rd l1 x11_1)).f1) t354 t357 _ ?side1 ?side2 ?side3 ?side4 A12.out).mono ?_); (case side1 => repeat (first | exact (Kd.C_below HR353_0.out (by repeat (first | (with_reducible first | exact HB.out | apply below_alloc | apply pw_below_drewN | apply below_drew1) | exact HB.out))) | (with_reducible refine Kd.C_alloc ?_ _) | (with_reducible refine Kd.C_drewN ?_ _) | (with_reducible refine Kd.C_drew ?_))); (case side2 => exact HC353_0.out); (case side3 => repeat (first | exact (Kd.C_below HR353_1.out (by repeat (first | (with_reducible first | exact HB.out | apply below_alloc | apply pw_below_drewN | apply below_drew1) | exact HB.out))) | (with_reducible refine Kd.C_alloc ?_ _) | (with_reducible refine Kd.C_drewN ?_ _) | (with_reducible refine Kd.C_drew ?_))); (case side4 => exact HC353_1.out); rintro e w14 ⟨v355, v358, rfl, ho0, ho1, hb⟩; refine ⟨_, rfl, ?_⟩; have nE := Aside0.mk (show ∃ N : Nat, Kd.S kQd 72 w14 w.heap.size (fun k_ => True ∧ k_ < N) _ x5_1 ∧ (Kd.int .i64).R 3 w14 w.heap.size (fun k_ => N ≤ k_) v355 t354 ∧ Kd.S k153 153 w14 w.heap.size (fun k_ => some k_ ≠ (v355 : Value).ownBlock ∧ N ≤ k_) v358 t357 from ⟨_, Kd.S_old (by (with_reducible repeat (first | apply Kd.S_alloc | apply Kd.S_drewN | apply Kd.S_drew)); exact HO_5.out) hb, Kd.R_lower (Kd.R_mono (Kd.R_bound ho0) (fun k_ hk => hk.2.1)) (below_size (by repeat (first | (with_reducible first | exact HB.out | apply below_alloc | apply pw_below_drewN | apply below_drew1) | exact HB.out))), Kd.S_lower (Kd.S_mono (Kd.S_bound ho1) (fun k_ hk => ⟨hk.1, hk.2.1⟩)) (below_size (by repeat (first | (with_reducible first | exact HB.out | apply below_alloc | apply pw_below_drewN | apply below_drew1) | exact HB.out)))⟩); have n3_ := Aside0.mk (below_step (by repeat (first | (with_reducible first | exact HB.out | apply below_alloc | apply pw_below_drewN | apply below_drew1) | exact HB.out)) hb); clear HO_5; clear HB; have HB := n3_; clear n3_; clear hb ho0 ho1; obtain ⟨NN, hS5, hS0, hS1⟩ := nE.out; have HO_5 := Aside0.mk hS5; have HO356 := Aside0.mk hS0; have HO359 := Aside0.mk hS1; clear nE hS5 hS0 hS1; obtain ⟨Ao16, co16, eo16⟩ := Kd.R_slice HO356.out; subst eo16; obtain ⟨Ao17, co17, eo17⟩ := Kd.S_slice HO359.out; subst eo17) | ((with_reducible refine gate_builtin (b := .append) (xs := #[.tmp 20, .tmp 26]) rfl ?_); at_builtin; refine Kd.S_append kQd (w0 := w) w.heap.size rfl (.tmp 20) (.tmp 26) 36 72 (.agg #[(.slice none 0 0), (.slice none 0 0)]) 48 rfl Try.underlying36 info72 rfl (by decide) (by omega) u5 x5_1 (⟨t354, t357⟩ : S72) [.slice Ao16 t354.length co16, .slice Ao17 t357.length co17] (fun _ => True) (fun k_ => NN ≤ k_) rfl rfl ?aP (fun k_ hk => ⟨trivial, fun he => Nat.lt_irrefl k_ (Nat.lt_of_lt_of_le ((Kd.S_R HO_5.out).1 k_ he.symm).2 hk)⟩) ?aF ?aO ?aB ?aS ?aL ?_; (case aP => exact kQd_mk (x := (⟨t354, t357⟩ : S72)) HO356.out HO359.out); (case aB => exact (by repeat (first | (with_reducible first | exact HB.out | apply below_alloc | apply pw_below_drewN | apply below_drew1) | exact HB.out))); (case aF => exact (fun _ _ => trivial)); (case aO => exact Kd.S_mono HO_5.out (fun k_ hk => ⟨trivial, Nat.not_le.2 hk.2⟩)); (case aS => exact (below_size (by repeat (first | (with_reducible first | exact HB.out | apply below_alloc | apply pw_below_drewN | apply below_drew1) | exact HB.out)))); (case aL => have := LMc13.out; omega); intro v361 w15 ho hb hg hat; rw [← Ny360.out] at ho; have n0_ := Aside0.mk (hb); have n1_ := Aside0.mk (ho); clear HB; clear HO_5; clear HO356; clear HO359; have HB := n0_; have HO362 := n1_; clear n0_ n1_; clear ho hb hg hat))
                    go_roundg k1
                    case measure => have := HK1.out; omega
                    case rel => exact ⟨(y360), (wrap64 (x11_1 + 1)), (by first | rfl | (simp; done) | (simp [*]; done)), H', ⟨by have := HK1.out; omega⟩, ⟨by (with_reducible repeat (first | apply Kd.S_alloc | apply Kd.S_drewN | apply Kd.S_drew)); exact HO362.out⟩, ⟨by repeat (first | (with_reducible first | exact HB.out | apply below_alloc | apply pw_below_drewN | apply below_drew1) | exact HB.out)⟩⟩
                  · rw [if_neg c13] at H
                    exact absurd H (by simp)
                · rw [if_neg c11] at H
                  exact absurd H (by simp)
              · rw [if_neg c10] at H
                exact absurd H (by simp)
            · replace c9 := Bool.eq_false_iff.mpr c9
              subst c9
              have H1 : (impl_PickViews.l0 k1 l0 x5_1 l1 (l1.length : Int) (wrap64 (x11_1 + 1))) = some r := by rw [if_neg (show ¬ (false = true) by decide)] at H; exact H
              clear H
              have H := H1
              clear H1
              have H' := Aside0.mk H
              clear H
              have p351 : 0 ≤ (x11_1 : Int) := of_decide_eq_true (by first | (with_reducible assumption) | assumption)
              have q351 : x11_1 < (l1.length : Int) := of_decide_eq_true (by first | (with_reducible assumption) | assumption)
              obtain ⟨ad351, e351, hx351_0⟩ := Kd.at_int HR1.out x11_1 p351 q351
              cases e351
              replace hx351_0 := (HB.out.cell (World.block_lt_of_cell? w _ hx351_0)).trans hx351_0
              replace p351 := eq_true p351
              replace q351 := eq_true q351
              go_wp2_with (first | ((with_reducible refine gate_callee (f := 80) rfl ?_); refine goesL_ (some 19) rfl rfl Try.func80 (by kernel_rfl) rfl #[.int .i64 (rd l1 x11_1), .int .i64 0, .int .i64 (wrap64 ((l0.length : Int) - 1))] rfl (by (try simp only [List.map_toArray, List.map_cons, List.map_nil]); first | done | rfl | (simp only [List.length_drop, List.length_take]; rfl)) ?_; (with_reducible refine (impl_within.calls (rd l1 x11_1) 0 (wrap64 ((l0.length : Int) - 1)) false _ A8.out).mono ?_); rintro e w' ⟨rfl, ⟨nd, rfl⟩⟩; refine ⟨_, rfl, ?_⟩))
              go_roundg k1
              case measure => have := HK1.out; omega
              case rel => exact ⟨(x5_1), (wrap64 (x11_1 + 1)), (by first | rfl | (simp; done) | (simp [*]; done)), H', ⟨by have := HK1.out; omega⟩, ⟨by (with_reducible repeat (first | apply Kd.S_alloc | apply Kd.S_drewN | apply Kd.S_drew)); exact HO_5.out⟩, ⟨by repeat (first | (with_reducible first | exact HB.out | apply below_alloc | apply pw_below_drewN | apply below_drew1) | exact HB.out)⟩⟩
          · rw [if_neg c7] at H
            exact absurd H (by simp)
        · rw [if_neg c6] at H
          exact absurd H (by simp)
      · rw [if_neg c5] at H
        have c5b0 : decide (x11_1 < (l1.length : Int)) = false := decide_eq_false c5
        clear c5
        obtain rfl := Option.some.inj H
        go_wp2
        go_ret
        exact ⟨_, by first | rfl | (simp [errW_none, errW_some] <;> rfl) | (simp [*, errW_none, errW_some] <;> rfl), by (with_reducible repeat (first | apply Kd.S_alloc | apply Kd.S_drewN | apply Kd.S_drew)); exact HO_5.out, by repeat (first | (with_reducible first | exact HB.out | apply below_alloc | apply pw_below_drewN | apply below_drew1) | exact HB.out)⟩
end Go.Proofs.Ytjiipeidginjnaa.P

