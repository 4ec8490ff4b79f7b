/- Out of YtjiipeidginjnaaPx33: what the claim needs of it. Conditions: each declaration's own. -/
import Derived.Test.YtjiipeidginjnaaZPchM10
import Derived.Test.YtjiipeidginjnaaZPchM11
import Derived.Test.YtjiipeidginjnaaZPchPx28
import Derived.Test.YtjiipeidginjnaaZPchPx29
import Derived.Test.YtjiipeidginjnaaZPchM18
import Derived.Test.YtjiipeidginjnaaZPchPx32
namespace Go.Proofs.Ytjiipeidginjnaa.P
open Go.RowKit Go.Proofs.YtjiipeidginjnaaW.PrintWords Go.Proofs.YtjiipeidginjnaaW.PrintLast Go.Proofs.YtjiipeidginjnaaW.PrintMore
attribute [local go_sem] max2_int min2_int max_two min_two max_three min_three max_four min_four   -- for this text's walks alone
set_option linter.unusedVariables false
set_option linter.unusedSimpArgs false

mutual
def laws_FnExactParseChange.j0 : Nat → ByteArray → Bool → Bool → Bool → List Int → Bool → Int → List Int → List Int → Bool → Int → List Int → Option (Bool)
  | 0, _, _, _, _, _, _, _, _, _, _, _, _ => none
  | k + 1, x1, x7, x10, x47, x940000, x951000, x951001, x951002, x955000, x962000, x962001, x962002 => if x47 = true then (some false) else ((laws_toSchema.f k x940000).bind fun t963 => ((laws_eqSchema.f k x955000 t963).bind fun t966 => (if t966 = true then ((laws_markSchema.f k x955000 1).bind fun bt967 => (if bt967.1 < 0 then (laws_FnExactParseChange.j1 k x1 x7 true x940000 x951000 x951001 x951002 x962000 x962001 x962002) else ((laws_eqChange.f k x962000 x962001 x962002 x951000 x951001 x951002).bind fun t969 => (if t969 = true then (laws_FnExactParseChange.j1 k x1 x7 (x10 != x7) x940000 x951000 x951001 x951002 x962000 x962001 x962002) else (laws_FnExactParseChange.j1 k x1 x7 true x940000 x951000 x951001 x951002 x962000 x962001 x962002))))) else (some false))))
def laws_FnExactParseChange.j1 : Nat → ByteArray → Bool → Bool → List Int → Bool → Int → List Int → Bool → Int → List Int → Option (Bool)
  | 0, _, _, _, _, _, _, _, _, _, _ => none
  | k + 1, x1, x7, x68, x940000, x951000, x951001, x951002, x962000, x962001, x962002 => if x68 = true then (some false) else ((laws_markChange.f k x962000 x962001 x962002 1).bind fun bt970 => ((laws_heldChange.f k x962000 x962001 bt970.2 1).bind fun t972 => (if t972 < 0 then (some false) else (if t972 = bt970.1 then ((laws_toSchema.f k x940000).bind fun t973 => ((impl_ParseChange.f k t973 x1).bind fun bt976 => ((laws_eqChange.f k bt976.1 bt976.2.1 bt976.2.2.1 x951000 x951001 x951002).bind fun t983 => (if t983 = true then (laws_FnExactParseChange.j2 k bt970.1 (bt976.2.2.2 != x7) x962000 x962001 bt970.2) else (laws_FnExactParseChange.j2 k bt970.1 true x962000 x962001 bt970.2))))) else (some false)))))
def laws_FnExactParseChange.j2 : Nat → Int → Bool → Bool → Int → List Int → Option (Bool)
  | 0, _, _, _, _, _ => none
  | k + 1, x12, x95, x962000, x962001, x962002 => if x95 = true then (some false) else ((laws_heldChange.f k x962000 x962001 x962002 1).bind fun t984 => (if t984 < 0 then (some false) else (if t984 = x12 then (some true) else (some false))))
end
def laws_FnExactParseChange.f (k : Nat) (l0_0 : List Int) (a1 : ByteArray) : Option (Bool) := if (a1.size : Int) > 1048576 then (some true) else ((laws_szSchema.f l0_0 1048576).bind fun t940 => (if t940 < 0 then (some true) else ((laws_toSchema.f k l0_0).bind fun t941 => ((spec_ParseChange.f k t941 a1).bind fun bt944 => ((laws_toSchema.f k l0_0).bind fun t951 => ((impl_ParseChange.f k t951 a1).bind fun bt955 => ((laws_eqChange.f k bt955.1 bt955.2.1 bt955.2.2.1 bt944.1 bt944.2.1 bt944.2.2.1).bind fun t962 => (if t962 = true then (laws_FnExactParseChange.j0 k a1 bt944.2.2.2 bt955.2.2.2 (bt955.2.2.2 != bt944.2.2.2) l0_0 bt944.1 bt944.2.1 bt944.2.2.1 t951 bt955.1 bt955.2.1 bt955.2.2.1) else (laws_FnExactParseChange.j0 k a1 bt944.2.2.2 bt955.2.2.2 true l0_0 bt944.1 bt944.2.1 bt944.2.2.1 t951 bt955.1 bt955.2.1 bt955.2.2.1)))))))))
set_option maxHeartbeats 8000000 in
set_option maxRecDepth 100000 in
theorem laws_FnExactParseChange.calls (k : Nat) (A0_0 : Option Addr) (c0_0 : Nat) (l0_0 : List Int) (a1 : ByteArray) (w : World) (hr0_0 : Kd.C (Kd.int .i64) w A0_0 l0_0.length l0_0) (hc0_0 : l0_0.length ≤ c0_0) (h : laws_FnExactParseChange.f k l0_0 a1 = some true) :
    Calls Try.prog 8 #[.agg #[.slice A0_0 l0_0.length c0_0], .string a1] w fun e w' => e = .returned (.bool true) ∧ Below w.heap.size w w' := by
  have hu79 := Try.underlying79
  have hu84 := Try.underlying84
  have hu87 := Try.underlying87
  have HR0_0 := Aside0.mk hr0_0
  have HC0_0 := Aside0.mk hc0_0
  clear hr0_0 hc0_0
  have HB := Aside0.mk (Below.refl w.heap.size w)
  have H : (if (a1.size : Int) > 1048576 then (some true) else ((laws_szSchema.f l0_0 1048576).bind fun t940 => (if t940 < 0 then (some true) else ((laws_toSchema.f k l0_0).bind fun t941 => ((spec_ParseChange.f k t941 a1).bind fun bt944 => ((laws_toSchema.f k l0_0).bind fun t951 => ((impl_ParseChange.f k t951 a1).bind fun bt955 => ((laws_eqChange.f k bt955.1 bt955.2.1 bt955.2.2.1 bt944.1 bt944.2.1 bt944.2.2.1).bind fun t962 => (if t962 = true then (laws_FnExactParseChange.j0 k a1 bt944.2.2.2 bt955.2.2.2 (bt955.2.2.2 != bt944.2.2.2) l0_0 bt944.1 bt944.2.1 bt944.2.2.1 t951 bt955.1 bt955.2.1 bt955.2.2.1) else (laws_FnExactParseChange.j0 k a1 bt944.2.2.2 bt955.2.2.2 true l0_0 bt944.1 bt944.2.1 bt944.2.2.1 t951 bt955.1 bt955.2.1 bt955.2.2.1)))))))))) = some true := h
  clear h
  by_cases c3 : (a1.size : Int) > 1048576
  · rw [if_pos c3] at H
    have c3b0 : decide (1048576 < (a1.size : Int)) = true := decide_eq_true c3
    have c3b1 : decide (1048576 < a1.size) = true := decide_eq_true (by omega)
    clear c3
    clear H
    go_enter Try.func8, Try.ntmps8
    go_wp2_with (first | ((with_reducible refine gate_dst (N := 2) rfl ?_); refine box_event ?hg (N := 2) ?hd (cs := #[.slice A0_0 l0_0.length c0_0]) (t := 79) ?hr ?_; (case hd => rfl); (case hg => rfl); (case hr => first | (go_simp; done) | (go_simp; rfl)); intro gb939 hg w4 hbox hb; have n0_ := Aside0.mk (below_step (by repeat (first | (with_reducible first | exact HB.out | apply below_alloc | apply pw_below_drewN | apply below_drew1) | exact HB.out)) hb); have n1_ := Aside0.mk (hbox); have n2_ := Aside0.mk ((by rw [hg]; exact (below_size (by repeat (first | (with_reducible first | exact HB.out | apply below_alloc | apply pw_below_drewN | apply below_drew1) | exact HB.out))) : w.heap.size ≤ gb939)); have n3_ := Aside0.mk ((by rw [hg]; exact (below_size (by repeat (first | (with_reducible first | exact HB.out | apply below_alloc | apply pw_below_drewN | apply below_drew1) | exact HB.out))) : w.heap.size ≤ gb939)); clear HB; have HB := n0_; have BK939 := n1_; have GW939 := n2_; have GE939 := n3_; clear n0_ n1_ n2_ n3_; clear hb hbox hg))
    go_ret
    exact ⟨by first | rfl | (simp [errW_none, errW_some] <;> rfl) | (simp [*, errW_none, errW_some] <;> rfl), by repeat (first | (with_reducible first | exact HB.out | apply below_alloc | apply pw_below_drewN | apply below_drew1 | refine below_set ?_ GE939.out) | exact HB.out)⟩
  · rw [if_neg c3] at H
    have c3b0 : decide (1048576 < (a1.size : Int)) = false := decide_eq_false c3
    have c3b1 : decide (1048576 < a1.size) = false := decide_eq_false (by omega)
    clear c3
    replace H := Option.bind_eq_some_iff.mp H
    obtain ⟨t940, A50, H⟩ := H
    replace H : (if t940 < 0 then (some true) else ((laws_toSchema.f k l0_0).bind fun t941 => ((spec_ParseChange.f k t941 a1).bind fun bt944 => ((laws_toSchema.f k l0_0).bind fun t951 => ((impl_ParseChange.f k t951 a1).bind fun bt955 => ((laws_eqChange.f k bt955.1 bt955.2.1 bt955.2.2.1 bt944.1 bt944.2.1 bt944.2.2.1).bind fun t962 => (if t962 = true then (laws_FnExactParseChange.j0 k a1 bt944.2.2.2 bt955.2.2.2 (bt955.2.2.2 != bt944.2.2.2) l0_0 bt944.1 bt944.2.1 bt944.2.2.1 t951 bt955.1 bt955.2.1 bt955.2.2.1) else (laws_FnExactParseChange.j0 k a1 bt944.2.2.2 bt955.2.2.2 true l0_0 bt944.1 bt944.2.1 bt944.2.2.1 t951 bt955.1 bt955.2.1 bt955.2.2.1)))))))) = some true := H
    have A5 := Aside0.mk A50
    clear A50
    by_cases c6 : t940 < 0
    · rw [if_pos c6] at H
      have c6b0 : decide (t940 < 0) = true := decide_eq_true c6
      clear c6
      clear H
      go_enter Try.func8, Try.ntmps8
      go_wp2_with (first | ((with_reducible refine gate_dst (N := 2) rfl ?_); refine box_event ?hg (N := 2) ?hd (cs := #[.slice A0_0 l0_0.length c0_0]) (t := 79) ?hr ?_; (case hd => rfl); (case hg => rfl); (case hr => first | (go_simp; done) | (go_simp; rfl)); intro gb939 hg w7 hbox hb; have n0_ := Aside0.mk (below_step (by repeat (first | (with_reducible first | exact HB.out | apply below_alloc | apply pw_below_drewN | apply below_drew1) | exact HB.out)) hb); have n1_ := Aside0.mk (hbox); have n2_ := Aside0.mk ((by rw [hg]; exact (below_size (by repeat (first | (with_reducible first | exact HB.out | apply below_alloc | apply pw_below_drewN | apply below_drew1) | exact HB.out))) : w.heap.size ≤ gb939)); have n3_ := Aside0.mk ((by rw [hg]; exact (below_size (by repeat (first | (with_reducible first | exact HB.out | apply below_alloc | apply pw_below_drewN | apply below_drew1) | exact HB.out))) : w.heap.size ≤ gb939)); clear HB; have HB := n0_; have BK939 := n1_; have GW939 := n2_; have GE939 := n3_; clear n0_ n1_ n2_ n3_; clear hb hbox hg; have hcz8_0 : w7.cell? ⟨gb939, 0, none⟩ = some (.slice A0_0 l0_0.length c0_0) := (blk_cell BK939.out 0).trans rfl; have hfz8_0 := blk_frozen BK939.out 0) | ((with_reducible refine gate_callee (f := 49) rfl ?_); refine goesL_ (some 21) rfl rfl Try.func49 (by kernel_rfl) rfl #[.agg #[.slice A0_0 l0_0.length c0_0], .int .i64 1048576] rfl (by (try simp only [List.map_toArray, List.map_cons, List.map_nil]); first | done | rfl | (simp only [List.length_drop, List.length_take]; rfl)) ?_; (with_reducible refine (laws_szSchema.calls _ _ l0_0 1048576 t940 _ ?side1 ?side2 A5.out).mono ?_); (case side1 => repeat (first | exact (Kd.C_below HR0_0.out HB.out) | (with_reducible refine Kd.C_alloc ?_ _) | (with_reducible refine Kd.C_drewN ?_ _) | (with_reducible refine Kd.C_drew ?_))); (case side2 => exact HC0_0.out); rintro e w9 ⟨rfl, hb⟩; refine ⟨_, rfl, ?_⟩; have n0_ := Aside0.mk (blk_below (g := gb939) (o := .cells #[.slice A0_0 l0_0.length c0_0] 79 (0, 0)) (by (with_reducible repeat (first | refine blk_drewN ?_ _ | refine blk_drew ?_ | refine blk_alloc ?_ _)); exact BK939.out) hb); have n1_ := Aside0.mk (below_step (by repeat (first | (with_reducible first | exact HB.out | apply below_alloc | apply pw_below_drewN | apply below_drew1 | refine below_set ?_ GE939.out) | exact HB.out)) hb); clear BK939; clear HB; have BK939 := n0_; have HB := n1_; clear n0_ n1_; (try clear hb); (try clear hb2); (try clear hk); (try clear hi)))
      go_ret
      exact ⟨by first | rfl | (simp [errW_none, errW_some] <;> rfl) | (simp [*, errW_none, errW_some] <;> rfl), by repeat (first | (with_reducible first | exact HB.out | apply below_alloc | apply pw_below_drewN | apply below_drew1 | refine below_set ?_ GE939.out) | exact HB.out)⟩
    · rw [if_neg c6] at H
      have c6b0 : decide (t940 < 0) = false := decide_eq_false c6
      clear c6
      replace H := Option.bind_eq_some_iff.mp H
      obtain ⟨t941, A100, H⟩ := H
      replace H : ((spec_ParseChange.f k t941 a1).bind fun bt944 => ((laws_toSchema.f k l0_0).bind fun t951 => ((impl_ParseChange.f k t951 a1).bind fun bt955 => ((laws_eqChange.f k bt955.1 bt955.2.1 bt955.2.2.1 bt944.1 bt944.2.1 bt944.2.2.1).bind fun t962 => (if t962 = true then (laws_FnExactParseChange.j0 k a1 bt944.2.2.2 bt955.2.2.2 (bt955.2.2.2 != bt944.2.2.2) l0_0 bt944.1 bt944.2.1 bt944.2.2.1 t951 bt955.1 bt955.2.1 bt955.2.2.1) else (laws_FnExactParseChange.j0 k a1 bt944.2.2.2 bt955.2.2.2 true l0_0 bt944.1 bt944.2.1 bt944.2.2.1 t951 bt955.1 bt955.2.1 bt955.2.2.1)))))) = some true := H
      have A10 := Aside0.mk A100
      clear A100
      replace H := Option.bind_eq_some_iff.mp H
      obtain ⟨⟨t944, t945, t946, t949⟩, A110, H⟩ := H
      replace H : ((laws_toSchema.f k l0_0).bind fun t951 => ((impl_ParseChange.f k t951 a1).bind fun bt955 => ((laws_eqChange.f k bt955.1 bt955.2.1 bt955.2.2.1 t944 t945 t946).bind fun t962 => (if t962 = true then (laws_FnExactParseChange.j0 k a1 t949 bt955.2.2.2 (bt955.2.2.2 != t949) l0_0 t944 t945 t946 t951 bt955.1 bt955.2.1 bt955.2.2.1) else (laws_FnExactParseChange.j0 k a1 t949 bt955.2.2.2 true l0_0 t944 t945 t946 t951 bt955.1 bt955.2.1 bt955.2.2.1))))) = some true := H
      have A11 := Aside0.mk A110
      clear A110
      replace H := Option.bind_eq_some_iff.mp H
      obtain ⟨t951, A120, H⟩ := H
      replace H : ((impl_ParseChange.f k t951 a1).bind fun bt955 => ((laws_eqChange.f k bt955.1 bt955.2.1 bt955.2.2.1 t944 t945 t946).bind fun t962 => (if t962 = true then (laws_FnExactParseChange.j0 k a1 t949 bt955.2.2.2 (bt955.2.2.2 != t949) l0_0 t944 t945 t946 t951 bt955.1 bt955.2.1 bt955.2.2.1) else (laws_FnExactParseChange.j0 k a1 t949 bt955.2.2.2 true l0_0 t944 t945 t946 t951 bt955.1 bt955.2.1 bt955.2.2.1)))) = some true := H
      have A12 := Aside0.mk A120
      clear A120
      replace H := Option.bind_eq_some_iff.mp H
      obtain ⟨⟨t955, t956, t957, t960⟩, A130, H⟩ := H
      replace H : ((laws_eqChange.f k t955 t956 t957 t944 t945 t946).bind fun t962 => (if t962 = true then (laws_FnExactParseChange.j0 k a1 t949 t960 (t960 != t949) l0_0 t944 t945 t946 t951 t955 t956 t957) else (laws_FnExactParseChange.j0 k a1 t949 t960 true l0_0 t944 t945 t946 t951 t955 t956 t957))) = some true := H
      have A13 := Aside0.mk A130
      clear A130
      have HC14 := Aside0.mk H
      clear H
      go_enter Try.func8, Try.ntmps8
      go_upto_region 10 with (first | ((with_reducible refine gate_dst (N := 2) rfl ?_); refine box_event ?hg (N := 2) ?hd (cs := #[.slice A0_0 l0_0.length c0_0]) (t := 79) ?hr ?_; (case hd => rfl); (case hg => rfl); (case hr => first | (go_simp; done) | (go_simp; rfl)); intro gb939 hg w15 hbox hb; have n0_ := Aside0.mk (below_step (by repeat (first | (with_reducible first | exact HB.out | apply below_alloc | apply pw_below_drewN | apply below_drew1) | exact HB.out)) hb); have n1_ := Aside0.mk (hbox); have n2_ := Aside0.mk ((by rw [hg]; exact (below_size (by repeat (first | (with_reducible first | exact HB.out | apply below_alloc | apply pw_below_drewN | apply below_drew1) | exact HB.out))) : w.heap.size ≤ gb939)); have n3_ := Aside0.mk ((by rw [hg]; exact (below_size (by repeat (first | (with_reducible first | exact HB.out | apply below_alloc | apply pw_below_drewN | apply below_drew1) | exact HB.out))) : w.heap.size ≤ gb939)); clear HB; have HB := n0_; have BK939 := n1_; have GW939 := n2_; have GE939 := n3_; clear n0_ n1_ n2_ n3_; clear hb hbox hg; have hcz16_0 : w15.cell? ⟨gb939, 0, none⟩ = some (.slice A0_0 l0_0.length c0_0) := (blk_cell BK939.out 0).trans rfl; have hfz16_0 := blk_frozen BK939.out 0) | ((with_reducible refine gate_callee (f := 49) rfl ?_); refine goesL_ (some 21) rfl rfl Try.func49 (by kernel_rfl) rfl #[.agg #[.slice A0_0 l0_0.length c0_0], .int .i64 1048576] rfl (by (try simp only [List.map_toArray, List.map_cons, List.map_nil]); first | done | rfl | (simp only [List.length_drop, List.length_take]; rfl)) ?_; (with_reducible refine (laws_szSchema.calls _ _ l0_0 1048576 t940 _ ?side1 ?side2 A5.out).mono ?_); (case side1 => repeat (first | exact (Kd.C_below HR0_0.out HB.out) | (with_reducible refine Kd.C_alloc ?_ _) | (with_reducible refine Kd.C_drewN ?_ _) | (with_reducible refine Kd.C_drew ?_))); (case side2 => exact HC0_0.out); rintro e w17 ⟨rfl, hb⟩; refine ⟨_, rfl, ?_⟩; have n0_ := Aside0.mk (blk_below (g := gb939) (o := .cells #[.slice A0_0 l0_0.length c0_0] 79 (0, 0)) (by (with_reducible repeat (first | refine blk_drewN ?_ _ | refine blk_drew ?_ | refine blk_alloc ?_ _)); exact BK939.out) hb); have n1_ := Aside0.mk (below_step (by repeat (first | (with_reducible first | exact HB.out | apply below_alloc | apply pw_below_drewN | apply below_drew1 | refine below_set ?_ GE939.out) | exact HB.out)) hb); clear BK939; clear HB; have BK939 := n0_; have HB := n1_; clear n0_ n1_; (try clear hb); (try clear hb2); (try clear hk); (try clear hi); have hcz18_0 : w17.cell? ⟨gb939, 0, none⟩ = some (.slice A0_0 l0_0.length c0_0) := (blk_cell BK939.out 0).trans rfl; have hfz18_0 := blk_frozen BK939.out 0) | ((with_reducible refine gate_callee (f := 51) rfl ?_); refine goesL_ (some 26) rfl rfl Try.func51 (by kernel_rfl) rfl #[.agg #[.slice A0_0 l0_0.length c0_0]] rfl (by (try simp only [List.map_toArray, List.map_cons, List.map_nil]); first | done | rfl | (simp only [List.length_drop, List.length_take]; rfl)) ?_; (with_reducible refine (laws_toSchema.calls k _ _ l0_0 t941 _ ?side1 ?side2 A10.out).mono ?_); (case side1 => repeat (first | exact (Kd.C_below HR0_0.out HB.out) | (with_reducible refine Kd.C_alloc ?_ _) | (with_reducible refine Kd.C_drewN ?_ _) | (with_reducible refine Kd.C_drew ?_))); (case side2 => exact HC0_0.out); rintro e w19 ⟨v942, rfl, ho0, hb⟩; refine ⟨_, rfl, ?_⟩; have n0_ := Aside0.mk (Kd.R_lower ho0 (below_size (by repeat (first | (with_reducible first | exact HB.out | apply below_alloc | apply pw_below_drewN | apply below_drew1 | refine below_set ?_ GE939.out) | exact HB.out)))); have n1_ := Aside0.mk (blk_below (g := gb939) (o := .cells #[.slice A0_0 l0_0.length c0_0] 79 (0, 0)) (by (with_reducible repeat (first | refine blk_drewN ?_ _ | refine blk_drew ?_ | refine blk_alloc ?_ _)); exact BK939.out) hb); have n2_ := Aside0.mk (below_step (by repeat (first | (with_reducible first | exact HB.out | apply below_alloc | apply pw_below_drewN | apply below_drew1 | refine below_set ?_ GE939.out) | exact HB.out)) hb); clear BK939; clear HB; have HO943 := n0_; have BK939 := n1_; have HB := n2_; clear n0_ n1_ n2_; (try clear hb); (try clear hb2); (try clear hk); (try clear hi); (try clear ho0); obtain ⟨Ao20, co20, eo20⟩ := Kd.R_slice HO943.out; subst eo20) | ((with_reducible refine gate_callee (f := 50) rfl ?_); refine goesL_ (some 28) rfl rfl Try.func50 (by kernel_rfl) rfl #[.agg #[.slice Ao20 t941.length co20], .string a1] rfl (by (try simp only [List.map_toArray, List.map_cons, List.map_nil]); first | done | rfl | (simp only [List.length_drop, List.length_take]; rfl)) ?_; (with_reducible refine (spec_ParseChange.calls k _ _ t941 a1 t944 t945 t946 t949 _ ?side1 ?side2 A11.out).mono ?_); (case side1 => repeat (first | exact (Kd.R_reads' HO943.out).2.2 | (with_reducible refine Kd.C_alloc ?_ _) | (with_reducible refine Kd.C_drewN ?_ _) | (with_reducible refine Kd.C_drew ?_))); (case side2 => exact (Kd.R_reads' HO943.out).2.1); rintro e w21 ⟨v947, rfl, ho0, hb⟩; refine ⟨_, rfl, ?_⟩; have n0_ := Aside0.mk (Kd.R_elder' (by (with_reducible repeat (first | apply Kd.R_alloc | apply Kd.R_drewN | apply Kd.R_drew)); exact HO943.out) (Kd.R_base ho0) hb); have n1_ := Aside0.mk (Kd.R_lower (Kd.R_new' ho0 (Kd.R_lt (by (with_reducible repeat (first | apply Kd.R_alloc | apply Kd.R_drewN | apply Kd.R_drew)); exact HO943.out))) (below_size (by repeat (first | (with_reducible first | exact HB.out | apply below_alloc | apply pw_below_drewN | apply below_drew1 | refine below_set ?_ GE939.out) | exact HB.out)))); have n2_ := Aside0.mk (blk_below (g := gb939) (o := .cells #[.slice A0_0 l0_0.length c0_0] 79 (0, 0)) (by (with_reducible repeat (first | refine blk_drewN ?_ _ | refine blk_drew ?_ | refine blk_alloc ?_ _)); exact BK939.out) hb); have n3_ := Aside0.mk (below_step (by repeat (first | (with_reducible first | exact HB.out | apply below_alloc | apply pw_below_drewN | apply below_drew1 | refine below_set ?_ GE939.out) | exact HB.out)) hb); clear HO943; clear BK939; clear HB; have HO943 := n0_; have HO948 := n1_; have BK939 := n2_; have HB := n3_; clear n0_ n1_ n2_ n3_; (try clear hb); (try clear hb2); (try clear hk); (try clear hi); (try clear ho0)) | ((with_reducible refine gate_dst (N := 6) rfl ?_); refine box_event ?hg (N := 6) ?hd (cs := #[.bool false, .int .i64 0, .slice none 0 0]) (t := 84) ?hr ?_; (case hd => rfl); (case hg => rfl); (case hr => first | (go_simp; done) | (go_simp; rfl)); intro gb950 hg w22 hbox hb; have n0_ := Aside0.mk (Kd.R_below (by (with_reducible repeat (first | apply Kd.R_alloc | apply Kd.R_drewN | apply Kd.R_drew)); exact HO943.out) hb); have n1_ := Aside0.mk (Kd.R_below (by (with_reducible repeat (first | apply Kd.R_alloc | apply Kd.R_drewN | apply Kd.R_drew)); exact HO948.out) hb); have n2_ := Aside0.mk (blk_below (g := gb939) (o := .cells #[.slice A0_0 l0_0.length c0_0] 79 (0, 0)) (by (with_reducible repeat (first | refine blk_drewN ?_ _ | refine blk_drew ?_ | refine blk_alloc ?_ _)); exact BK939.out) hb); have n3_ := Aside0.mk (below_step (by repeat (first | (with_reducible first | exact HB.out | apply below_alloc | apply pw_below_drewN | apply below_drew1 | refine below_set ?_ GE939.out) | exact HB.out)) hb); have n4_ := Aside0.mk (hbox); have n5_ := Aside0.mk ((by rw [hg]; exact (below_size (by repeat (first | (with_reducible first | exact HB.out | apply below_alloc | apply pw_below_drewN | apply below_drew1 | refine below_set ?_ GE939.out) | exact HB.out))) : w.heap.size ≤ gb950)); have n6_ := Aside0.mk ((by rw [hg]; exact (below_size (by repeat (first | (with_reducible first | exact HB.out | apply below_alloc | apply pw_below_drewN | apply below_drew1 | refine below_set ?_ GE939.out) | exact HB.out))) : w.heap.size ≤ gb950)); have n7_ := Aside0.mk ((by rw [hg]; exact Nat.ne_of_lt (blk_lt (g := gb939) (o := .cells #[.slice A0_0 l0_0.length c0_0] 79 (0, 0)) (by (with_reducible repeat (first | refine blk_drewN ?_ _ | refine blk_drew ?_ | refine blk_alloc ?_ _)); exact BK939.out)) : gb939 ≠ gb950)); have n8_ := Aside0.mk ((by rw [hg]; exact Nat.ne_of_gt (blk_lt (g := gb939) (o := .cells #[.slice A0_0 l0_0.length c0_0] 79 (0, 0)) (by (with_reducible repeat (first | refine blk_drewN ?_ _ | refine blk_drew ?_ | refine blk_alloc ?_ _)); exact BK939.out)) : gb950 ≠ gb939)); clear HO943; clear HO948; clear BK939; clear HB; have HO943 := n0_; have HO948 := n1_; have BK939 := n2_; have HB := n3_; have BK950 := n4_; have GW950 := n5_; have GE950 := n6_; have NB939_950 := n7_; have NB950_939 := n8_; clear n0_ n1_ n2_ n3_ n4_ n5_ n6_ n7_ n8_; clear hb hbox hg; have hnb23 := NB950_939.out; have hnc23 := NB939_950.out; have hcz24_0 : w22.cell? ⟨gb950, 0, none⟩ = some (.bool false) := (blk_cell BK950.out 0).trans rfl; have hcz24_1 : w22.cell? ⟨gb950, 1, none⟩ = some (.int .i64 0) := (blk_cell BK950.out 1).trans rfl; have hcz24_2 : w22.cell? ⟨gb950, 2, none⟩ = some (.slice none 0 0) := (blk_cell BK950.out 2).trans rfl; have hfz24_0 := blk_frozen BK950.out 0; have hfz24_1 := blk_frozen BK950.out 1; have hfz24_2 := blk_frozen BK950.out 2; obtain ⟨Ao25, co25, eo25⟩ := Kd.R_slice HO948.out; subst eo25; have hcz26_0 : w22.cell? ⟨gb939, 0, none⟩ = some (.slice A0_0 l0_0.length c0_0) := (blk_cell BK939.out 0).trans rfl; have hfz26_0 := blk_frozen BK939.out 0) | ((with_reducible refine gate_callee (f := 51) rfl ?_); refine goesL_ (some 32) rfl rfl Try.func51 (by kernel_rfl) rfl #[.agg #[.slice A0_0 l0_0.length c0_0]] rfl (by (try simp only [List.map_toArray, List.map_cons, List.map_nil]); first | done | rfl | (simp only [List.length_drop, List.length_take]; rfl)) ?_; (with_reducible refine (laws_toSchema.calls k _ _ l0_0 t951 _ ?side1 ?side2 A12.out).mono ?_); (case side1 => exact Kd.C_below HR0_0.out (by repeat (first | (with_reducible first | exact HB.out | apply below_alloc | apply pw_below_drewN | apply below_drew1 | refine below_set ?_ GE939.out | refine below_set ?_ GE950.out) | exact HB.out))); (case side2 => exact HC0_0.out); rintro e w27 ⟨v952, rfl, ho0, hb⟩; refine ⟨_, rfl, ?_⟩; have n0_ := Aside0.mk (Kd.R_elder' (by (with_reducible repeat (first | apply Kd.R_alloc | apply Kd.R_drewN | apply Kd.R_drew)); exact (Kd.R_mono (Kd.R_far (p := ⟨gb950, 2, none⟩) (Kd.R_far (p := ⟨gb950, 1, none⟩) (Kd.R_far (p := ⟨gb950, 0, none⟩) (Kd.R_types HO943.out BK950.out (by decide)) (fun _ hk => hk.2) (.bool t944)) (fun _ hk => hk.2) (.int .i64 t945)) (fun _ hk => hk.2) (.slice Ao25 t946.length co25)) (fun _ h_ => h_.1))) (Kd.R_base ho0) hb); have n1_ := Aside0.mk (Kd.R_elder' (by (with_reducible repeat (first | apply Kd.R_alloc | apply Kd.R_drewN | apply Kd.R_drew)); exact (Kd.R_mono (Kd.R_far (p := ⟨gb950, 2, none⟩) (Kd.R_far (p := ⟨gb950, 1, none⟩) (Kd.R_far (p := ⟨gb950, 0, none⟩) (Kd.R_types HO948.out BK950.out (by decide)) (fun _ hk => hk.2) (.bool t944)) (fun _ hk => hk.2) (.int .i64 t945)) (fun _ hk => hk.2) (.slice Ao25 t946.length co25)) (fun _ h_ => h_.1))) (Kd.R_base ho0) hb); have n2_ := Aside0.mk (Kd.R_lower (Kd.R_new' (Kd.R_new' ho0 (Kd.R_lt (by (with_reducible repeat (first | apply Kd.R_alloc | apply Kd.R_drewN | apply Kd.R_drew)); exact (Kd.R_mono (Kd.R_far (p := ⟨gb950, 2, none⟩) (Kd.R_far (p := ⟨gb950, 1, none⟩) (Kd.R_far (p := ⟨gb950, 0, none⟩) (Kd.R_types HO943.out BK950.out (by decide)) (fun _ hk => hk.2) (.bool t944)) (fun _ hk => hk.2) (.int .i64 t945)) (fun _ hk => hk.2) (.slice Ao25 t946.length co25)) (fun _ h_ => h_.1))))) (Kd.R_lt (by (with_reducible repeat (first | apply Kd.R_alloc | apply Kd.R_drewN | apply Kd.R_drew)); exact (Kd.R_mono (Kd.R_far (p := ⟨gb950, 2, none⟩) (Kd.R_far (p := ⟨gb950, 1, none⟩) (Kd.R_far (p := ⟨gb950, 0, none⟩) (Kd.R_types HO948.out BK950.out (by decide)) (fun _ hk => hk.2) (.bool t944)) (fun _ hk => hk.2) (.int .i64 t945)) (fun _ hk => hk.2) (.slice Ao25 t946.length co25)) (fun _ h_ => h_.1))))) (below_size (by repeat (first | (with_reducible first | exact HB.out | apply below_alloc | apply pw_below_drewN | apply below_drew1 | refine below_set ?_ GE939.out | refine below_set ?_ GE950.out) | exact HB.out)))); have n3_ := Aside0.mk (blk_below (g := gb939) (o := .cells #[.slice A0_0 l0_0.length c0_0] 79 (0, 0)) (by (with_reducible repeat (first | refine blk_drewN ?_ _ | refine blk_drew ?_ | refine blk_alloc ?_ _)); refine blk_far ?_ NB939_950.out _; (with_reducible repeat (first | refine blk_drewN ?_ _ | refine blk_drew ?_ | refine blk_alloc ?_ _)); refine blk_far ?_ NB939_950.out _; (with_reducible repeat (first | refine blk_drewN ?_ _ | refine blk_drew ?_ | refine blk_alloc ?_ _)); refine blk_far ?_ NB939_950.out _; (with_reducible repeat (first | refine blk_drewN ?_ _ | refine blk_drew ?_ | refine blk_alloc ?_ _)); exact BK939.out) hb); have n4_ := Aside0.mk (blk_below (g := gb950) (o := .cells #[.bool t944, .int .i64 t945, .slice Ao25 t946.length co25] 84 (0, 0)) (by (with_reducible repeat (first | refine blk_drewN ?_ _ | refine blk_drew ?_ | refine blk_alloc ?_ _)); refine blk_put (cs := #[.bool t944, .int .i64 t945, .slice none 0 0]) ?_ 2 _ rfl; (with_reducible repeat (first | refine blk_drewN ?_ _ | refine blk_drew ?_ | refine blk_alloc ?_ _)); refine blk_put (cs := #[.bool t944, .int .i64 0, .slice none 0 0]) ?_ 1 _ rfl; (with_reducible repeat (first | refine blk_drewN ?_ _ | refine blk_drew ?_ | refine blk_alloc ?_ _)); refine blk_put (cs := #[.bool false, .int .i64 0, .slice none 0 0]) ?_ 0 _ rfl; (with_reducible repeat (first | refine blk_drewN ?_ _ | refine blk_drew ?_ | refine blk_alloc ?_ _)); exact BK950.out) hb); have n5_ := Aside0.mk (below_step (by repeat (first | (with_reducible first | exact HB.out | apply below_alloc | apply pw_below_drewN | apply below_drew1 | refine below_set ?_ GE939.out | refine below_set ?_ GE950.out) | exact HB.out)) hb); clear HO943; clear HO948; clear BK939; clear BK950; clear HB; have HO943 := n0_; have HO948 := n1_; have HO953 := n2_; have BK939 := n3_; have BK950 := n4_; have HB := n5_; clear n0_ n1_ n2_ n3_ n4_ n5_; (try clear hb); (try clear hb2); (try clear hk); (try clear hi); (try clear ho0)) | ((with_reducible refine gate_dst (N := 8) rfl ?_); refine box_event ?hg (N := 8) ?hd (cs := #[.slice none 0 0]) (t := 87) ?hr ?_; (case hd => rfl); (case hg => rfl); (case hr => first | (go_simp; done) | (go_simp; rfl)); intro gb954 hg w28 hbox hb; have n0_ := Aside0.mk (Kd.R_below (by (with_reducible repeat (first | apply Kd.R_alloc | apply Kd.R_drewN | apply Kd.R_drew)); exact HO943.out) hb); have n1_ := Aside0.mk (Kd.R_below (by (with_reducible repeat (first | apply Kd.R_alloc | apply Kd.R_drewN | apply Kd.R_drew)); exact HO948.out) hb); have n2_ := Aside0.mk (Kd.R_below (by (with_reducible repeat (first | apply Kd.R_alloc | apply Kd.R_drewN | apply Kd.R_drew)); exact HO953.out) hb); have n3_ := Aside0.mk (blk_below (g := gb939) (o := .cells #[.slice A0_0 l0_0.length c0_0] 79 (0, 0)) (by (with_reducible repeat (first | refine blk_drewN ?_ _ | refine blk_drew ?_ | refine blk_alloc ?_ _)); exact BK939.out) hb); have n4_ := Aside0.mk (blk_below (g := gb950) (o := .cells #[.bool t944, .int .i64 t945, .slice Ao25 t946.length co25] 84 (0, 0)) (by (with_reducible repeat (first | refine blk_drewN ?_ _ | refine blk_drew ?_ | refine blk_alloc ?_ _)); exact BK950.out) hb); have n5_ := Aside0.mk (below_step (by repeat (first | (with_reducible first | exact HB.out | apply below_alloc | apply pw_below_drewN | apply below_drew1 | refine below_set ?_ GE939.out | refine below_set ?_ GE950.out) | exact HB.out)) hb); have n6_ := Aside0.mk (hbox); have n7_ := Aside0.mk ((by rw [hg]; exact (below_size (by repeat (first | (with_reducible first | exact HB.out | apply below_alloc | apply pw_below_drewN | apply below_drew1 | refine below_set ?_ GE939.out | refine below_set ?_ GE950.out) | exact HB.out))) : w.heap.size ≤ gb954)); have n8_ := Aside0.mk ((by rw [hg]; exact (below_size (by repeat (first | (with_reducible first | exact HB.out | apply below_alloc | apply pw_below_drewN | apply below_drew1 | refine below_set ?_ GE939.out | refine below_set ?_ GE950.out) | exact HB.out))) : w.heap.size ≤ gb954)); have n9_ := Aside0.mk ((by rw [hg]; exact Nat.ne_of_lt (blk_lt (g := gb939) (o := .cells #[.slice A0_0 l0_0.length c0_0] 79 (0, 0)) (by (with_reducible repeat (first | refine blk_drewN ?_ _ | refine blk_drew ?_ | refine blk_alloc ?_ _)); exact BK939.out)) : gb939 ≠ gb954)); have n10_ := Aside0.mk ((by rw [hg]; exact Nat.ne_of_gt (blk_lt (g := gb939) (o := .cells #[.slice A0_0 l0_0.length c0_0] 79 (0, 0)) (by (with_reducible repeat (first | refine blk_drewN ?_ _ | refine blk_drew ?_ | refine blk_alloc ?_ _)); exact BK939.out)) : gb954 ≠ gb939)); have n11_ := Aside0.mk ((by rw [hg]; exact Nat.ne_of_lt (blk_lt (g := gb950) (o := .cells #[.bool t944, .int .i64 t945, .slice Ao25 t946.length co25] 84 (0, 0)) (by (with_reducible repeat (first | refine blk_drewN ?_ _ | refine blk_drew ?_ | refine blk_alloc ?_ _)); exact BK950.out)) : gb950 ≠ gb954)); have n12_ := Aside0.mk ((by rw [hg]; exact Nat.ne_of_gt (blk_lt (g := gb950) (o := .cells #[.bool t944, .int .i64 t945, .slice Ao25 t946.length co25] 84 (0, 0)) (by (with_reducible repeat (first | refine blk_drewN ?_ _ | refine blk_drew ?_ | refine blk_alloc ?_ _)); exact BK950.out)) : gb954 ≠ gb950)); clear HO943; clear HO948; clear HO953; clear BK939; clear BK950; clear HB; have HO943 := n0_; have HO948 := n1_; have HO953 := n2_; have BK939 := n3_; have BK950 := n4_; have HB := n5_; have BK954 := n6_; have GW954 := n7_; have GE954 := n8_; have NB939_954 := n9_; have NB954_939 := n10_; have NB950_954 := n11_; have NB954_950 := n12_; clear n0_ n1_ n2_ n3_ n4_ n5_ n6_ n7_ n8_ n9_ n10_ n11_ n12_; clear hb hbox hg; obtain ⟨Ao29, co29, eo29⟩ := Kd.R_slice HO953.out; subst eo29; have hnb30 := NB954_939.out; have hnc30 := NB939_954.out; have hnb31 := NB954_950.out; have hnc31 := NB950_954.out; have hcz32_0 : w28.cell? ⟨gb954, 0, none⟩ = some (.slice none 0 0) := (blk_cell BK954.out 0).trans rfl; have hfz32_0 := blk_frozen BK954.out 0) | ((with_reducible refine gate_callee (f := 52) rfl ?_); refine goesL_ (some 36) rfl rfl Try.func52 (by kernel_rfl) rfl #[.agg #[.slice Ao29 t951.length co29], .string a1] rfl (by (try simp only [List.map_toArray, List.map_cons, List.map_nil]); first | done | rfl | (simp only [List.length_drop, List.length_take]; rfl)) ?_; (with_reducible refine (impl_ParseChange.calls k _ _ t951 a1 t955 t956 t957 t960 _ ?side1 ?side2 A13.out).mono ?_); (case side1 => refine (Kd.R_reads' (e := 3) (base := w.heap.size) (ok := fun k_ => ((True ∧ some k_ ≠ (.slice Ao20 t941.length co20 : Value).ownBlock) ∧ some k_ ≠ (.slice Ao25 t946.length co25 : Value).ownBlock)) (n := t951.length) (c := co29) ?_).2.2; exact (by (with_reducible repeat (first | apply Kd.R_alloc | apply Kd.R_drewN | apply Kd.R_drew)); exact (Kd.R_mono (Kd.R_far (p := ⟨gb954, 0, none⟩) (Kd.R_types HO953.out BK954.out (by decide)) (fun _ hk => hk.2) (.slice Ao29 t951.length co29)) (fun _ h_ => h_.1)))); (case side2 => exact (Kd.R_reads' HO953.out).2.1); rintro e w33 ⟨v958, rfl, ho0, hb⟩; refine ⟨_, rfl, ?_⟩; have n0_ := Aside0.mk (Kd.R_elder' (by (with_reducible repeat (first | apply Kd.R_alloc | apply Kd.R_drewN | apply Kd.R_drew)); exact (Kd.R_mono (Kd.R_far (p := ⟨gb954, 0, none⟩) (Kd.R_types HO943.out BK954.out (by decide)) (fun _ hk => hk.2) (.slice Ao29 t951.length co29)) (fun _ h_ => h_.1))) (Kd.R_base ho0) hb); have n1_ := Aside0.mk (Kd.R_elder' (by (with_reducible repeat (first | apply Kd.R_alloc | apply Kd.R_drewN | apply Kd.R_drew)); exact (Kd.R_mono (Kd.R_far (p := ⟨gb954, 0, none⟩) (Kd.R_types HO948.out BK954.out (by decide)) (fun _ hk => hk.2) (.slice Ao29 t951.length co29)) (fun _ h_ => h_.1))) (Kd.R_base ho0) hb); have n2_ := Aside0.mk (Kd.R_elder' (by (with_reducible repeat (first | apply Kd.R_alloc | apply Kd.R_drewN | apply Kd.R_drew)); exact (Kd.R_mono (Kd.R_far (p := ⟨gb954, 0, none⟩) (Kd.R_types HO953.out BK954.out (by decide)) (fun _ hk => hk.2) (.slice Ao29 t951.length co29)) (fun _ h_ => h_.1))) (Kd.R_base ho0) hb); have n3_ := Aside0.mk (Kd.R_lower (Kd.R_new' (Kd.R_new' (Kd.R_new' ho0 (Kd.R_lt (by (with_reducible repeat (first | apply Kd.R_alloc | apply Kd.R_drewN | apply Kd.R_drew)); exact (Kd.R_mono (Kd.R_far (p := ⟨gb954, 0, none⟩) (Kd.R_types HO943.out BK954.out (by decide)) (fun _ hk => hk.2) (.slice Ao29 t951.length co29)) (fun _ h_ => h_.1))))) (Kd.R_lt (by (with_reducible repeat (first | apply Kd.R_alloc | apply Kd.R_drewN | apply Kd.R_drew)); exact (Kd.R_mono (Kd.R_far (p := ⟨gb954, 0, none⟩) (Kd.R_types HO948.out BK954.out (by decide)) (fun _ hk => hk.2) (.slice Ao29 t951.length co29)) (fun _ h_ => h_.1))))) (Kd.R_lt (by (with_reducible repeat (first | apply Kd.R_alloc | apply Kd.R_drewN | apply Kd.R_drew)); exact (Kd.R_mono (Kd.R_far (p := ⟨gb954, 0, none⟩) (Kd.R_types HO953.out BK954.out (by decide)) (fun _ hk => hk.2) (.slice Ao29 t951.length co29)) (fun _ h_ => h_.1))))) (below_size (by repeat (first | (with_reducible first | exact HB.out | apply below_alloc | apply pw_below_drewN | apply below_drew1 | refine below_set ?_ GE939.out | refine below_set ?_ GE950.out | refine below_set ?_ GE954.out) | exact HB.out)))); have n4_ := Aside0.mk (blk_below (g := gb939) (o := .cells #[.slice A0_0 l0_0.length c0_0] 79 (0, 0)) (by (with_reducible repeat (first | refine blk_drewN ?_ _ | refine blk_drew ?_ | refine blk_alloc ?_ _)); refine blk_far ?_ NB939_954.out _; (with_reducible repeat (first | refine blk_drewN ?_ _ | refine blk_drew ?_ | refine blk_alloc ?_ _)); exact BK939.out) hb); have n5_ := Aside0.mk (blk_below (g := gb950) (o := .cells #[.bool t944, .int .i64 t945, .slice Ao25 t946.length co25] 84 (0, 0)) (by (with_reducible repeat (first | refine blk_drewN ?_ _ | refine blk_drew ?_ | refine blk_alloc ?_ _)); refine blk_far ?_ NB950_954.out _; (with_reducible repeat (first | refine blk_drewN ?_ _ | refine blk_drew ?_ | refine blk_alloc ?_ _)); exact BK950.out) hb); have n6_ := Aside0.mk (blk_below (g := gb954) (o := .cells #[.slice Ao29 t951.length co29] 87 (0, 0)) (by (with_reducible repeat (first | refine blk_drewN ?_ _ | refine blk_drew ?_ | refine blk_alloc ?_ _)); refine blk_put (cs := #[.slice none 0 0]) ?_ 0 _ rfl; (with_reducible repeat (first | refine blk_drewN ?_ _ | refine blk_drew ?_ | refine blk_alloc ?_ _)); exact BK954.out) hb); have n7_ := Aside0.mk (below_step (by repeat (first | (with_reducible first | exact HB.out | apply below_alloc | apply pw_below_drewN | apply below_drew1 | refine below_set ?_ GE939.out | refine below_set ?_ GE950.out | refine below_set ?_ GE954.out) | exact HB.out)) hb); clear HO943; clear HO948; clear HO953; clear BK939; clear BK950; clear BK954; clear HB; have HO943 := n0_; have HO948 := n1_; have HO953 := n2_; have HO959 := n3_; have BK939 := n4_; have BK950 := n5_; have BK954 := n6_; have HB := n7_; clear n0_ n1_ n2_ n3_ n4_ n5_ n6_ n7_; (try clear hb); (try clear hb2); (try clear hk); (try clear hi); (try clear ho0)) | ((with_reducible refine gate_dst (N := 9) rfl ?_); refine box_event ?hg (N := 9) ?hd (cs := #[.bool false, .int .i64 0, .slice none 0 0]) (t := 84) ?hr ?_; (case hd => rfl); (case hg => rfl); (case hr => first | (go_simp; done) | (go_simp; rfl)); intro gb961 hg w34 hbox hb; have n0_ := Aside0.mk (Kd.R_below (by (with_reducible repeat (first | apply Kd.R_alloc | apply Kd.R_drewN | apply Kd.R_drew)); exact HO943.out) hb); have n1_ := Aside0.mk (Kd.R_below (by (with_reducible repeat (first | apply Kd.R_alloc | apply Kd.R_drewN | apply Kd.R_drew)); exact HO948.out) hb); have n2_ := Aside0.mk (Kd.R_below (by (with_reducible repeat (first | apply Kd.R_alloc | apply Kd.R_drewN | apply Kd.R_drew)); exact HO953.out) hb); have n3_ := Aside0.mk (Kd.R_below (by (with_reducible repeat (first | apply Kd.R_alloc | apply Kd.R_drewN | apply Kd.R_drew)); exact HO959.out) hb); have n4_ := Aside0.mk (blk_below (g := gb939) (o := .cells #[.slice A0_0 l0_0.length c0_0] 79 (0, 0)) (by (with_reducible repeat (first | refine blk_drewN ?_ _ | refine blk_drew ?_ | refine blk_alloc ?_ _)); exact BK939.out) hb); have n5_ := Aside0.mk (blk_below (g := gb950) (o := .cells #[.bool t944, .int .i64 t945, .slice Ao25 t946.length co25] 84 (0, 0)) (by (with_reducible repeat (first | refine blk_drewN ?_ _ | refine blk_drew ?_ | refine blk_alloc ?_ _)); exact BK950.out) hb); have n6_ := Aside0.mk (blk_below (g := gb954) (o := .cells #[.slice Ao29 t951.length co29] 87 (0, 0)) (by (with_reducible repeat (first | refine blk_drewN ?_ _ | refine blk_drew ?_ | refine blk_alloc ?_ _)); exact BK954.out) hb); have n7_ := Aside0.mk (below_step (by repeat (first | (with_reducible first | exact HB.out | apply below_alloc | apply pw_below_drewN | apply below_drew1 | refine below_set ?_ GE939.out | refine below_set ?_ GE950.out | refine below_set ?_ GE954.out) | exact HB.out)) hb); have n8_ := Aside0.mk (hbox); have n9_ := Aside0.mk ((by rw [hg]; exact (below_size (by repeat (first | (with_reducible first | exact HB.out | apply below_alloc | apply pw_below_drewN | apply below_drew1 | refine below_set ?_ GE939.out | refine below_set ?_ GE950.out | refine below_set ?_ GE954.out) | exact HB.out))) : w.heap.size ≤ gb961)); have n10_ := Aside0.mk ((by rw [hg]; exact (below_size (by repeat (first | (with_reducible first | exact HB.out | apply below_alloc | apply pw_below_drewN | apply below_drew1 | refine below_set ?_ GE939.out | refine below_set ?_ GE950.out | refine below_set ?_ GE954.out) | exact HB.out))) : w.heap.size ≤ gb961)); have n11_ := Aside0.mk ((by rw [hg]; exact Nat.ne_of_lt (blk_lt (g := gb939) (o := .cells #[.slice A0_0 l0_0.length c0_0] 79 (0, 0)) (by (with_reducible repeat (first | refine blk_drewN ?_ _ | refine blk_drew ?_ | refine blk_alloc ?_ _)); exact BK939.out)) : gb939 ≠ gb961)); have n12_ := Aside0.mk ((by rw [hg]; exact Nat.ne_of_gt (blk_lt (g := gb939) (o := .cells #[.slice A0_0 l0_0.length c0_0] 79 (0, 0)) (by (with_reducible repeat (first | refine blk_drewN ?_ _ | refine blk_drew ?_ | refine blk_alloc ?_ _)); exact BK939.out)) : gb961 ≠ gb939)); have n13_ := Aside0.mk ((by rw [hg]; exact Nat.ne_of_lt (blk_lt (g := gb950) (o := .cells #[.bool t944, .int .i64 t945, .slice Ao25 t946.length co25] 84 (0, 0)) (by (with_reducible repeat (first | refine blk_drewN ?_ _ | refine blk_drew ?_ | refine blk_alloc ?_ _)); exact BK950.out)) : gb950 ≠ gb961)); have n14_ := Aside0.mk ((by rw [hg]; exact Nat.ne_of_gt (blk_lt (g := gb950) (o := .cells #[.bool t944, .int .i64 t945, .slice Ao25 t946.length co25] 84 (0, 0)) (by (with_reducible repeat (first | refine blk_drewN ?_ _ | refine blk_drew ?_ | refine blk_alloc ?_ _)); exact BK950.out)) : gb961 ≠ gb950)); have n15_ := Aside0.mk ((by rw [hg]; exact Nat.ne_of_lt (blk_lt (g := gb954) (o := .cells #[.slice Ao29 t951.length co29] 87 (0, 0)) (by (with_reducible repeat (first | refine blk_drewN ?_ _ | refine blk_drew ?_ | refine blk_alloc ?_ _)); exact BK954.out)) : gb954 ≠ gb961)); have n16_ := Aside0.mk ((by rw [hg]; exact Nat.ne_of_gt (blk_lt (g := gb954) (o := .cells #[.slice Ao29 t951.length co29] 87 (0, 0)) (by (with_reducible repeat (first | refine blk_drewN ?_ _ | refine blk_drew ?_ | refine blk_alloc ?_ _)); exact BK954.out)) : gb961 ≠ gb954)); clear HO943; clear HO948; clear HO953; clear HO959; clear BK939; clear BK950; clear BK954; clear HB; have HO943 := n0_; have HO948 := n1_; have HO953 := n2_; have HO959 := n3_; have BK939 := n4_; have BK950 := n5_; have BK954 := n6_; have HB := n7_; have BK961 := n8_; have GW961 := n9_; have GE961 := n10_; have NB939_961 := n11_; have NB961_939 := n12_; have NB950_961 := n13_; have NB961_950 := n14_; have NB954_961 := n15_; have NB961_954 := n16_; clear n0_ n1_ n2_ n3_ n4_ n5_ n6_ n7_ n8_ n9_ n10_ n11_ n12_ n13_ n14_ n15_ n16_; clear hb hbox hg; have hnb35 := NB961_939.out; have hnc35 := NB939_961.out; have hnb36 := NB961_950.out; have hnc36 := NB950_961.out; have hnb37 := NB961_954.out; have hnc37 := NB954_961.out; have hcz38_0 : w34.cell? ⟨gb961, 0, none⟩ = some (.bool false) := (blk_cell BK961.out 0).trans rfl; have hcz38_1 : w34.cell? ⟨gb961, 1, none⟩ = some (.int .i64 0) := (blk_cell BK961.out 1).trans rfl; have hcz38_2 : w34.cell? ⟨gb961, 2, none⟩ = some (.slice none 0 0) := (blk_cell BK961.out 2).trans rfl; have hfz38_0 := blk_frozen BK961.out 0; have hfz38_1 := blk_frozen BK961.out 1; have hfz38_2 := blk_frozen BK961.out 2; obtain ⟨Ao39, co39, eo39⟩ := Kd.R_slice HO959.out; subst eo39))
      (try simp only [Act.put, List.setIfInBounds_toArray, List.set_cons_zero, List.set_cons_succ])
      go_cut [47] (fun v47 wc => ∃ (kq : Nat) (x47_13 : Bool), v47 = .bool x47_13 ∧ Aside0 (laws_FnExactParseChange.j0 kq a1 t949 t960 x47_13 l0_0 t944 t945 t946 t951 t955 t956 t957 = some true) ∧ Aside0 (kq ≤ k) ∧ Aside0 (Kd.R (Kd.int .i64) 3 wc w.heap.size (fun k_ => some k_ ≠ ((.slice Ao29 t951.length co29) : Value).ownBlock ∧ some k_ ≠ ((.slice Ao39 t957.length co39) : Value).ownBlock) (.slice Ao25 t946.length co25) t946) ∧ Aside0 (Kd.R (Kd.int .i64) 3 wc w.heap.size (fun k_ => some k_ ≠ ((.slice Ao25 t946.length co25) : Value).ownBlock ∧ some k_ ≠ ((.slice Ao39 t957.length co39) : Value).ownBlock) (.slice Ao29 t951.length co29) t951) ∧ Aside0 (Kd.R (Kd.int .i64) 3 wc w.heap.size (fun k_ => some k_ ≠ ((.slice Ao25 t946.length co25) : Value).ownBlock ∧ some k_ ≠ ((.slice Ao29 t951.length co29) : Value).ownBlock) (.slice Ao39 t957.length co39) t957) ∧ Aside0 (wc.heap[gb939]? = some (.cells #[(.slice A0_0 l0_0.length c0_0)] 79 (0, 0))) ∧ Aside0 (wc.heap[gb950]? = some (.cells #[.bool t944, .int .i64 t945, (.slice Ao25 t946.length co25)] 84 (0, 0))) ∧ Aside0 (wc.heap[gb954]? = some (.cells #[(.slice Ao29 t951.length co29)] 87 (0, 0))) ∧ Aside0 (wc.heap[gb961]? = some (.cells #[.bool t955, .int .i64 t956, (.slice Ao39 t957.length co39)] 84 (0, 0))) ∧ Aside0 (Below w.heap.size w wc))
      case first =>
        have H := HC14.out
        clear HC14
        replace H := Option.bind_eq_some_iff.mp H
        obtain ⟨t962, A400, H⟩ := H
        replace H : (if t962 = true then (laws_FnExactParseChange.j0 k a1 t949 t960 (t960 != t949) l0_0 t944 t945 t946 t951 t955 t956 t957) else (laws_FnExactParseChange.j0 k a1 t949 t960 true l0_0 t944 t945 t946 t951 t955 t956 t957)) = some true := H
        have A40 := Aside0.mk A400
        clear A400
        by_cases c41 : t962 = true
        · subst c41
          have H1 : (laws_FnExactParseChange.j0 k a1 t949 t960 (t960 != t949) l0_0 t944 t945 t946 t951 t955 t956 t957) = some true := by rw [if_pos rfl] at H; exact H
          clear H
          have H := H1
          clear H1
          have H' := Aside0.mk H
          clear H
          have hnb42 := NB961_939.out
          have hnc42 := NB939_961.out
          have hnb43 := NB961_950.out
          have hnc43 := NB950_961.out
          have hnb44 := NB961_954.out
          have hnc44 := NB954_961.out
          have hcz45_0 : w34.cell? ⟨gb961, 0, none⟩ = some (.bool false) := (blk_cell BK961.out 0).trans rfl
          have hcz45_1 : w34.cell? ⟨gb961, 1, none⟩ = some (.int .i64 0) := (blk_cell BK961.out 1).trans rfl
          have hcz45_2 : w34.cell? ⟨gb961, 2, none⟩ = some (.slice none 0 0) := (blk_cell BK961.out 2).trans rfl
          have hfz45_0 := blk_frozen BK961.out 0
          have hfz45_1 := blk_frozen BK961.out 1
          have hfz45_2 := blk_frozen BK961.out 2
          have hnb46 := NB950_939.out
          have hnc46 := NB939_950.out
          have hnb47 := NB950_954.out
          have hnc47 := NB954_950.out
          have hcz48_0 : w34.cell? ⟨gb950, 0, none⟩ = some (.bool t944) := (blk_cell BK950.out 0).trans rfl
          have hcz48_1 : w34.cell? ⟨gb950, 1, none⟩ = some (.int .i64 t945) := (blk_cell BK950.out 1).trans rfl
          have hcz48_2 : w34.cell? ⟨gb950, 2, none⟩ = some (.slice Ao25 t946.length co25) := (blk_cell BK950.out 2).trans rfl
          have hfz48_0 := blk_frozen BK950.out 0
          have hfz48_1 := blk_frozen BK950.out 1
          have hfz48_2 := blk_frozen BK950.out 2
          go_wp2_with (first | ((with_reducible refine gate_callee (f := 53) rfl ?_); refine goesL_ (some 41) rfl rfl Try.func53 (by kernel_rfl) rfl #[.agg #[.bool t955, .int .i64 t956, .slice Ao39 t957.length co39], .agg #[.bool t944, .int .i64 t945, .slice Ao25 t946.length co25]] rfl (by (try simp only [List.map_toArray, List.map_cons, List.map_nil]); first | done | rfl | (simp only [List.length_drop, List.length_take]; rfl)) ?_; (with_reducible refine (laws_eqChange.calls k t955 t956 _ _ t957 t944 t945 _ _ t946 true _ ?side1 ?side2 ?side3 ?side4 A40.out).mono ?_); (case side1 => refine (Kd.R_reads' (e := 3) (base := w.heap.size) (ok := fun k_ => (((True ∧ some k_ ≠ (.slice Ao20 t941.length co20 : Value).ownBlock) ∧ some k_ ≠ (.slice Ao25 t946.length co25 : Value).ownBlock) ∧ some k_ ≠ (.slice Ao29 t951.length co29 : Value).ownBlock)) (n := t957.length) (c := co39) ?_).2.2; exact (by (with_reducible repeat (first | apply Kd.R_alloc | apply Kd.R_drewN | apply Kd.R_drew)); exact (Kd.R_mono (Kd.R_far (p := ⟨gb961, 2, none⟩) (Kd.R_far (p := ⟨gb961, 1, none⟩) (Kd.R_far (p := ⟨gb961, 0, none⟩) (Kd.R_types HO959.out BK961.out (by decide)) (fun _ hk => hk.2) (.bool t955)) (fun _ hk => hk.2) (.int .i64 t956)) (fun _ hk => hk.2) (.slice Ao39 t957.length co39)) (fun _ h_ => h_.1)))); (case side2 => exact (Kd.R_reads' HO959.out).2.1); (case side3 => refine (Kd.R_reads' (e := 3) (base := w.heap.size) (ok := fun k_ => (((True ∧ some k_ ≠ (.slice Ao20 t941.length co20 : Value).ownBlock) ∧ some k_ ≠ (.slice Ao29 t951.length co29 : Value).ownBlock) ∧ some k_ ≠ (.slice Ao39 t957.length co39 : Value).ownBlock)) (n := t946.length) (c := co25) ?_).2.2; exact (by (with_reducible repeat (first | apply Kd.R_alloc | apply Kd.R_drewN | apply Kd.R_drew)); exact (Kd.R_mono (Kd.R_far (p := ⟨gb961, 2, none⟩) (Kd.R_far (p := ⟨gb961, 1, none⟩) (Kd.R_far (p := ⟨gb961, 0, none⟩) (Kd.R_types HO948.out BK961.out (by decide)) (fun _ hk => hk.2) (.bool t955)) (fun _ hk => hk.2) (.int .i64 t956)) (fun _ hk => hk.2) (.slice Ao39 t957.length co39)) (fun _ h_ => h_.1)))); (case side4 => exact (Kd.R_reads' HO948.out).2.1); rintro e w49 ⟨rfl, hb⟩; refine ⟨_, rfl, ?_⟩; have n0_ := Aside0.mk (Kd.R_below (by (with_reducible repeat (first | apply Kd.R_alloc | apply Kd.R_drewN | apply Kd.R_drew)); exact (Kd.R_mono (Kd.R_far (p := ⟨gb961, 2, none⟩) (Kd.R_far (p := ⟨gb961, 1, none⟩) (Kd.R_far (p := ⟨gb961, 0, none⟩) (Kd.R_types HO943.out BK961.out (by decide)) (fun _ hk => hk.2) (.bool t955)) (fun _ hk => hk.2) (.int .i64 t956)) (fun _ hk => hk.2) (.slice Ao39 t957.length co39)) (fun _ h_ => h_.1))) hb); have n1_ := Aside0.mk (Kd.R_below (by (with_reducible repeat (first | apply Kd.R_alloc | apply Kd.R_drewN | apply Kd.R_drew)); exact (Kd.R_mono (Kd.R_far (p := ⟨gb961, 2, none⟩) (Kd.R_far (p := ⟨gb961, 1, none⟩) (Kd.R_far (p := ⟨gb961, 0, none⟩) (Kd.R_types HO948.out BK961.out (by decide)) (fun _ hk => hk.2) (.bool t955)) (fun _ hk => hk.2) (.int .i64 t956)) (fun _ hk => hk.2) (.slice Ao39 t957.length co39)) (fun _ h_ => h_.1))) hb); have n2_ := Aside0.mk (Kd.R_below (by (with_reducible repeat (first | apply Kd.R_alloc | apply Kd.R_drewN | apply Kd.R_drew)); exact (Kd.R_mono (Kd.R_far (p := ⟨gb961, 2, none⟩) (Kd.R_far (p := ⟨gb961, 1, none⟩) (Kd.R_far (p := ⟨gb961, 0, none⟩) (Kd.R_types HO953.out BK961.out (by decide)) (fun _ hk => hk.2) (.bool t955)) (fun _ hk => hk.2) (.int .i64 t956)) (fun _ hk => hk.2) (.slice Ao39 t957.length co39)) (fun _ h_ => h_.1))) hb); have n3_ := Aside0.mk (Kd.R_below (by (with_reducible repeat (first | apply Kd.R_alloc | apply Kd.R_drewN | apply Kd.R_drew)); exact (Kd.R_mono (Kd.R_far (p := ⟨gb961, 2, none⟩) (Kd.R_far (p := ⟨gb961, 1, none⟩) (Kd.R_far (p := ⟨gb961, 0, none⟩) (Kd.R_types HO959.out BK961.out (by decide)) (fun _ hk => hk.2) (.bool t955)) (fun _ hk => hk.2) (.int .i64 t956)) (fun _ hk => hk.2) (.slice Ao39 t957.length co39)) (fun _ h_ => h_.1))) hb); have n4_ := Aside0.mk (blk_below (g := gb939) (o := .cells #[.slice A0_0 l0_0.length c0_0] 79 (0, 0)) (by (with_reducible repeat (first | refine blk_drewN ?_ _ | refine blk_drew ?_ | refine blk_alloc ?_ _)); refine blk_far ?_ NB939_961.out _; (with_reducible repeat (first | refine blk_drewN ?_ _ | refine blk_drew ?_ | refine blk_alloc ?_ _)); refine blk_far ?_ NB939_961.out _; (with_reducible repeat (first | refine blk_drewN ?_ _ | refine blk_drew ?_ | refine blk_alloc ?_ _)); refine blk_far ?_ NB939_961.out _; (with_reducible repeat (first | refine blk_drewN ?_ _ | refine blk_drew ?_ | refine blk_alloc ?_ _)); exact BK939.out) hb); have n5_ := Aside0.mk (blk_below (g := gb950) (o := .cells #[.bool t944, .int .i64 t945, .slice Ao25 t946.length co25] 84 (0, 0)) (by (with_reducible repeat (first | refine blk_drewN ?_ _ | refine blk_drew ?_ | refine blk_alloc ?_ _)); refine blk_far ?_ NB950_961.out _; (with_reducible repeat (first | refine blk_drewN ?_ _ | refine blk_drew ?_ | refine blk_alloc ?_ _)); refine blk_far ?_ NB950_961.out _; (with_reducible repeat (first | refine blk_drewN ?_ _ | refine blk_drew ?_ | refine blk_alloc ?_ _)); refine blk_far ?_ NB950_961.out _; (with_reducible repeat (first | refine blk_drewN ?_ _ | refine blk_drew ?_ | refine blk_alloc ?_ _)); exact BK950.out) hb); have n6_ := Aside0.mk (blk_below (g := gb954) (o := .cells #[.slice Ao29 t951.length co29] 87 (0, 0)) (by (with_reducible repeat (first | refine blk_drewN ?_ _ | refine blk_drew ?_ | refine blk_alloc ?_ _)); refine blk_far ?_ NB954_961.out _; (with_reducible repeat (first | refine blk_drewN ?_ _ | refine blk_drew ?_ | refine blk_alloc ?_ _)); refine blk_far ?_ NB954_961.out _; (with_reducible repeat (first | refine blk_drewN ?_ _ | refine blk_drew ?_ | refine blk_alloc ?_ _)); refine blk_far ?_ NB954_961.out _; (with_reducible repeat (first | refine blk_drewN ?_ _ | refine blk_drew ?_ | refine blk_alloc ?_ _)); exact BK954.out) hb); have n7_ := Aside0.mk (blk_below (g := gb961) (o := .cells #[.bool t955, .int .i64 t956, .slice Ao39 t957.length co39] 84 (0, 0)) (by (with_reducible repeat (first | refine blk_drewN ?_ _ | refine blk_drew ?_ | refine blk_alloc ?_ _)); refine blk_put (cs := #[.bool t955, .int .i64 t956, .slice none 0 0]) ?_ 2 _ rfl; (with_reducible repeat (first | refine blk_drewN ?_ _ | refine blk_drew ?_ | refine blk_alloc ?_ _)); refine blk_put (cs := #[.bool t955, .int .i64 0, .slice none 0 0]) ?_ 1 _ rfl; (with_reducible repeat (first | refine blk_drewN ?_ _ | refine blk_drew ?_ | refine blk_alloc ?_ _)); refine blk_put (cs := #[.bool false, .int .i64 0, .slice none 0 0]) ?_ 0 _ rfl; (with_reducible repeat (first | refine blk_drewN ?_ _ | refine blk_drew ?_ | refine blk_alloc ?_ _)); exact BK961.out) hb); have n8_ := Aside0.mk (below_step (by repeat (first | (with_reducible first | exact HB.out | apply below_alloc | apply pw_below_drewN | apply below_drew1 | refine below_set ?_ GE939.out | refine below_set ?_ GE950.out | refine below_set ?_ GE954.out | refine below_set ?_ GE961.out) | exact HB.out)) hb); clear HO943; clear HO948; clear HO953; clear HO959; clear BK939; clear BK950; clear BK954; clear BK961; clear HB; have HO943 := n0_; have HO948 := n1_; have HO953 := n2_; have HO959 := n3_; have BK939 := n4_; have BK950 := n5_; have BK954 := n6_; have BK961 := n7_; have HB := n8_; clear n0_ n1_ n2_ n3_ n4_ n5_ n6_ n7_ n8_; (try clear hb); (try clear hb2); (try clear hk); (try clear hi)))
          go_meet
          case rel => exact ⟨_, ((t960 != t949)), (by first | rfl | (simp; done) | (simp [*]; done)), H', ⟨by first | omega | exact Nat.le_refl _⟩, ⟨by (with_reducible repeat (first | apply Kd.R_alloc | apply Kd.R_drewN | apply Kd.R_drew)); exact Kd.R_mono HO948.out (fun _ hk => ⟨hk.1.2, hk.2⟩)⟩, ⟨by (with_reducible repeat (first | apply Kd.R_alloc | apply Kd.R_drewN | apply Kd.R_drew)); exact Kd.R_mono HO953.out (fun _ hk => ⟨hk.1.2, hk.2⟩)⟩, ⟨by (with_reducible repeat (first | apply Kd.R_alloc | apply Kd.R_drewN | apply Kd.R_drew)); exact Kd.R_mono HO959.out (fun _ hk => ⟨hk.1.2, hk.2⟩)⟩, ⟨by (with_reducible repeat (first | refine blk_drewN ?_ _ | refine blk_drew ?_ | refine blk_alloc ?_ _)); exact BK939.out⟩, ⟨by (with_reducible repeat (first | refine blk_drewN ?_ _ | refine blk_drew ?_ | refine blk_alloc ?_ _)); exact BK950.out⟩, ⟨by (with_reducible repeat (first | refine blk_drewN ?_ _ | refine blk_drew ?_ | refine blk_alloc ?_ _)); exact BK954.out⟩, ⟨by (with_reducible repeat (first | refine blk_drewN ?_ _ | refine blk_drew ?_ | refine blk_alloc ?_ _)); exact BK961.out⟩, ⟨by repeat (first | (with_reducible first | exact HB.out | apply below_alloc | apply pw_below_drewN | apply below_drew1 | refine below_set ?_ GE939.out | refine below_set ?_ GE950.out | refine below_set ?_ GE954.out | refine below_set ?_ GE961.out) | exact HB.out)⟩⟩
        · replace c41 := Bool.eq_false_iff.mpr c41
          subst c41
          have H1 : (laws_FnExactParseChange.j0 k a1 t949 t960 true l0_0 t944 t945 t946 t951 t955 t956 t957) = some true := by rw [if_neg (show ¬ (false = true) by decide)] at H; exact H
          clear H
          have H := H1
          clear H1
          have H' := Aside0.mk H
          clear H
          have hnb50 := NB961_939.out
          have hnc50 := NB939_961.out
          have hnb51 := NB961_950.out
          have hnc51 := NB950_961.out
          have hnb52 := NB961_954.out
          have hnc52 := NB954_961.out
          have hcz53_0 : w34.cell? ⟨gb961, 0, none⟩ = some (.bool false) := (blk_cell BK961.out 0).trans rfl
          have hcz53_1 : w34.cell? ⟨gb961, 1, none⟩ = some (.int .i64 0) := (blk_cell BK961.out 1).trans rfl
          have hcz53_2 : w34.cell? ⟨gb961, 2, none⟩ = some (.slice none 0 0) := (blk_cell BK961.out 2).trans rfl
          have hfz53_0 := blk_frozen BK961.out 0
          have hfz53_1 := blk_frozen BK961.out 1
          have hfz53_2 := blk_frozen BK961.out 2
          have hnb54 := NB950_939.out
          have hnc54 := NB939_950.out
          have hnb55 := NB950_954.out
          have hnc55 := NB954_950.out
          have hcz56_0 : w34.cell? ⟨gb950, 0, none⟩ = some (.bool t944) := (blk_cell BK950.out 0).trans rfl
          have hcz56_1 : w34.cell? ⟨gb950, 1, none⟩ = some (.int .i64 t945) := (blk_cell BK950.out 1).trans rfl
          have hcz56_2 : w34.cell? ⟨gb950, 2, none⟩ = some (.slice Ao25 t946.length co25) := (blk_cell BK950.out 2).trans rfl
          have hfz56_0 := blk_frozen BK950.out 0
          have hfz56_1 := blk_frozen BK950.out 1
          have hfz56_2 := blk_frozen BK950.out 2
          go_wp2_with (first | ((with_reducible refine gate_callee (f := 53) rfl ?_); refine goesL_ (some 41) rfl rfl Try.func53 (by kernel_rfl) rfl #[.agg #[.bool t955, .int .i64 t956, .slice Ao39 t957.length co39], .agg #[.bool t944, .int .i64 t945, .slice Ao25 t946.length co25]] rfl (by (try simp only [List.map_toArray, List.map_cons, List.map_nil]); first | done | rfl | (simp only [List.length_drop, List.length_take]; rfl)) ?_; (with_reducible refine (laws_eqChange.calls k t955 t956 _ _ t957 t944 t945 _ _ t946 false _ ?side1 ?side2 ?side3 ?side4 A40.out).mono ?_); (case side1 => refine (Kd.R_reads' (e := 3) (base := w.heap.size) (ok := fun k_ => (((True ∧ some k_ ≠ (.slice Ao20 t941.length co20 : Value).ownBlock) ∧ some k_ ≠ (.slice Ao25 t946.length co25 : Value).ownBlock) ∧ some k_ ≠ (.slice Ao29 t951.length co29 : Value).ownBlock)) (n := t957.length) (c := co39) ?_).2.2; exact (by (with_reducible repeat (first | apply Kd.R_alloc | apply Kd.R_drewN | apply Kd.R_drew)); exact (Kd.R_mono (Kd.R_far (p := ⟨gb961, 2, none⟩) (Kd.R_far (p := ⟨gb961, 1, none⟩) (Kd.R_far (p := ⟨gb961, 0, none⟩) (Kd.R_types HO959.out BK961.out (by decide)) (fun _ hk => hk.2) (.bool t955)) (fun _ hk => hk.2) (.int .i64 t956)) (fun _ hk => hk.2) (.slice Ao39 t957.length co39)) (fun _ h_ => h_.1)))); (case side2 => exact (Kd.R_reads' HO959.out).2.1); (case side3 => refine (Kd.R_reads' (e := 3) (base := w.heap.size) (ok := fun k_ => (((True ∧ some k_ ≠ (.slice Ao20 t941.length co20 : Value).ownBlock) ∧ some k_ ≠ (.slice Ao29 t951.length co29 : Value).ownBlock) ∧ some k_ ≠ (.slice Ao39 t957.length co39 : Value).ownBlock)) (n := t946.length) (c := co25) ?_).2.2; exact (by (with_reducible repeat (first | apply Kd.R_alloc | apply Kd.R_drewN | apply Kd.R_drew)); exact (Kd.R_mono (Kd.R_far (p := ⟨gb961, 2, none⟩) (Kd.R_far (p := ⟨gb961, 1, none⟩) (Kd.R_far (p := ⟨gb961, 0, none⟩) (Kd.R_types HO948.out BK961.out (by decide)) (fun _ hk => hk.2) (.bool t955)) (fun _ hk => hk.2) (.int .i64 t956)) (fun _ hk => hk.2) (.slice Ao39 t957.length co39)) (fun _ h_ => h_.1)))); (case side4 => exact (Kd.R_reads' HO948.out).2.1); rintro e w57 ⟨rfl, hb⟩; refine ⟨_, rfl, ?_⟩; have n0_ := Aside0.mk (Kd.R_below (by (with_reducible repeat (first | apply Kd.R_alloc | apply Kd.R_drewN | apply Kd.R_drew)); exact (Kd.R_mono (Kd.R_far (p := ⟨gb961, 2, none⟩) (Kd.R_far (p := ⟨gb961, 1, none⟩) (Kd.R_far (p := ⟨gb961, 0, none⟩) (Kd.R_types HO943.out BK961.out (by decide)) (fun _ hk => hk.2) (.bool t955)) (fun _ hk => hk.2) (.int .i64 t956)) (fun _ hk => hk.2) (.slice Ao39 t957.length co39)) (fun _ h_ => h_.1))) hb); have n1_ := Aside0.mk (Kd.R_below (by (with_reducible repeat (first | apply Kd.R_alloc | apply Kd.R_drewN | apply Kd.R_drew)); exact (Kd.R_mono (Kd.R_far (p := ⟨gb961, 2, none⟩) (Kd.R_far (p := ⟨gb961, 1, none⟩) (Kd.R_far (p := ⟨gb961, 0, none⟩) (Kd.R_types HO948.out BK961.out (by decide)) (fun _ hk => hk.2) (.bool t955)) (fun _ hk => hk.2) (.int .i64 t956)) (fun _ hk => hk.2) (.slice Ao39 t957.length co39)) (fun _ h_ => h_.1))) hb); have n2_ := Aside0.mk (Kd.R_below (by (with_reducible repeat (first | apply Kd.R_alloc | apply Kd.R_drewN | apply Kd.R_drew)); exact (Kd.R_mono (Kd.R_far (p := ⟨gb961, 2, none⟩) (Kd.R_far (p := ⟨gb961, 1, none⟩) (Kd.R_far (p := ⟨gb961, 0, none⟩) (Kd.R_types HO953.out BK961.out (by decide)) (fun _ hk => hk.2) (.bool t955)) (fun _ hk => hk.2) (.int .i64 t956)) (fun _ hk => hk.2) (.slice Ao39 t957.length co39)) (fun _ h_ => h_.1))) hb); have n3_ := Aside0.mk (Kd.R_below (by (with_reducible repeat (first | apply Kd.R_alloc | apply Kd.R_drewN | apply Kd.R_drew)); exact (Kd.R_mono (Kd.R_far (p := ⟨gb961, 2, none⟩) (Kd.R_far (p := ⟨gb961, 1, none⟩) (Kd.R_far (p := ⟨gb961, 0, none⟩) (Kd.R_types HO959.out BK961.out (by decide)) (fun _ hk => hk.2) (.bool t955)) (fun _ hk => hk.2) (.int .i64 t956)) (fun _ hk => hk.2) (.slice Ao39 t957.length co39)) (fun _ h_ => h_.1))) hb); have n4_ := Aside0.mk (blk_below (g := gb939) (o := .cells #[.slice A0_0 l0_0.length c0_0] 79 (0, 0)) (by (with_reducible repeat (first | refine blk_drewN ?_ _ | refine blk_drew ?_ | refine blk_alloc ?_ _)); refine blk_far ?_ NB939_961.out _; (with_reducible repeat (first | refine blk_drewN ?_ _ | refine blk_drew ?_ | refine blk_alloc ?_ _)); refine blk_far ?_ NB939_961.out _; (with_reducible repeat (first | refine blk_drewN ?_ _ | refine blk_drew ?_ | refine blk_alloc ?_ _)); refine blk_far ?_ NB939_961.out _; (with_reducible repeat (first | refine blk_drewN ?_ _ | refine blk_drew ?_ | refine blk_alloc ?_ _)); exact BK939.out) hb); have n5_ := Aside0.mk (blk_below (g := gb950) (o := .cells #[.bool t944, .int .i64 t945, .slice Ao25 t946.length co25] 84 (0, 0)) (by (with_reducible repeat (first | refine blk_drewN ?_ _ | refine blk_drew ?_ | refine blk_alloc ?_ _)); refine blk_far ?_ NB950_961.out _; (with_reducible repeat (first | refine blk_drewN ?_ _ | refine blk_drew ?_ | refine blk_alloc ?_ _)); refine blk_far ?_ NB950_961.out _; (with_reducible repeat (first | refine blk_drewN ?_ _ | refine blk_drew ?_ | refine blk_alloc ?_ _)); refine blk_far ?_ NB950_961.out _; (with_reducible repeat (first | refine blk_drewN ?_ _ | refine blk_drew ?_ | refine blk_alloc ?_ _)); exact BK950.out) hb); have n6_ := Aside0.mk (blk_below (g := gb954) (o := .cells #[.slice Ao29 t951.length co29] 87 (0, 0)) (by (with_reducible repeat (first | refine blk_drewN ?_ _ | refine blk_drew ?_ | refine blk_alloc ?_ _)); refine blk_far ?_ NB954_961.out _; (with_reducible repeat (first | refine blk_drewN ?_ _ | refine blk_drew ?_ | refine blk_alloc ?_ _)); refine blk_far ?_ NB954_961.out _; (with_reducible repeat (first | refine blk_drewN ?_ _ | refine blk_drew ?_ | refine blk_alloc ?_ _)); refine blk_far ?_ NB954_961.out _; (with_reducible repeat (first | refine blk_drewN ?_ _ | refine blk_drew ?_ | refine blk_alloc ?_ _)); exact BK954.out) hb); have n7_ := Aside0.mk (blk_below (g := gb961) (o := .cells #[.bool t955, .int .i64 t956, .slice Ao39 t957.length co39] 84 (0, 0)) (by (with_reducible repeat (first | refine blk_drewN ?_ _ | refine blk_drew ?_ | refine blk_alloc ?_ _)); refine blk_put (cs := #[.bool t955, .int .i64 t956, .slice none 0 0]) ?_ 2 _ rfl; (with_reducible repeat (first | refine blk_drewN ?_ _ | refine blk_drew ?_ | refine blk_alloc ?_ _)); refine blk_put (cs := #[.bool t955, .int .i64 0, .slice none 0 0]) ?_ 1 _ rfl; (with_reducible repeat (first | refine blk_drewN ?_ _ | refine blk_drew ?_ | refine blk_alloc ?_ _)); refine blk_put (cs := #[.bool false, .int .i64 0, .slice none 0 0]) ?_ 0 _ rfl; (with_reducible repeat (first | refine blk_drewN ?_ _ | refine blk_drew ?_ | refine blk_alloc ?_ _)); exact BK961.out) hb); have n8_ := Aside0.mk (below_step (by repeat (first | (with_reducible first | exact HB.out | apply below_alloc | apply pw_below_drewN | apply below_drew1 | refine below_set ?_ GE939.out | refine below_set ?_ GE950.out | refine below_set ?_ GE954.out | refine below_set ?_ GE961.out) | exact HB.out)) hb); clear HO943; clear HO948; clear HO953; clear HO959; clear BK939; clear BK950; clear BK954; clear BK961; clear HB; have HO943 := n0_; have HO948 := n1_; have HO953 := n2_; have HO959 := n3_; have BK939 := n4_; have BK950 := n5_; have BK954 := n6_; have BK961 := n7_; have HB := n8_; clear n0_ n1_ n2_ n3_ n4_ n5_ n6_ n7_ n8_; (try clear hb); (try clear hb2); (try clear hk); (try clear hi)))
          go_meet
          case rel => exact ⟨_, (true), (by first | rfl | (simp; done) | (simp [*]; done)), H', ⟨by first | omega | exact Nat.le_refl _⟩, ⟨by (with_reducible repeat (first | apply Kd.R_alloc | apply Kd.R_drewN | apply Kd.R_drew)); exact Kd.R_mono HO948.out (fun _ hk => ⟨hk.1.2, hk.2⟩)⟩, ⟨by (with_reducible repeat (first | apply Kd.R_alloc | apply Kd.R_drewN | apply Kd.R_drew)); exact Kd.R_mono HO953.out (fun _ hk => ⟨hk.1.2, hk.2⟩)⟩, ⟨by (with_reducible repeat (first | apply Kd.R_alloc | apply Kd.R_drewN | apply Kd.R_drew)); exact Kd.R_mono HO959.out (fun _ hk => ⟨hk.1.2, hk.2⟩)⟩, ⟨by (with_reducible repeat (first | refine blk_drewN ?_ _ | refine blk_drew ?_ | refine blk_alloc ?_ _)); exact BK939.out⟩, ⟨by (with_reducible repeat (first | refine blk_drewN ?_ _ | refine blk_drew ?_ | refine blk_alloc ?_ _)); exact BK950.out⟩, ⟨by (with_reducible repeat (first | refine blk_drewN ?_ _ | refine blk_drew ?_ | refine blk_alloc ?_ _)); exact BK954.out⟩, ⟨by (with_reducible repeat (first | refine blk_drewN ?_ _ | refine blk_drew ?_ | refine blk_alloc ?_ _)); exact BK961.out⟩, ⟨by repeat (first | (with_reducible first | exact HB.out | apply below_alloc | apply pw_below_drewN | apply below_drew1 | refine below_set ?_ GE939.out | refine below_set ?_ GE950.out | refine below_set ?_ GE954.out | refine below_set ?_ GE961.out) | exact HB.out)⟩⟩
      case rest =>
        clear HC14
        try clear c2
        try clear p2
        try clear c3
        try clear c3b0
        try clear c3b1
        try clear c4
        try clear c5
        try clear c6
        try clear c6b0
        try clear c8
        try clear c23
        try clear c30
        try clear c31
        try clear c35
        try clear c36
        try clear c37
        try clear c41
        try clear c42
        try clear c43
        try clear c44
        try clear c46
        try clear c47
        try clear c49
        try clear c50
        try clear c51
        try clear c52
        try clear c53
        try clear c54
        try clear c55
        try clear hcz16_0
        try clear hcz18_0
        try clear hcz24_0
        try clear hcz24_1
        try clear hcz24_2
        try clear hcz26_0
        try clear hcz32_0
        try clear hcz38_0
        try clear hcz38_1
        try clear hcz38_2
        try clear hcz45_0
        try clear hcz45_1
        try clear hcz45_2
        try clear hcz48_0
        try clear hcz48_1
        try clear hcz48_2
        try clear hcz53_0
        try clear hcz53_1
        try clear hcz53_2
        try clear hcz56_0
        try clear hcz56_1
        try clear hcz56_2
        try clear hcz8_0
        try clear hfz16_0
        try clear hfz18_0
        try clear hfz24_0
        try clear hfz24_1
        try clear hfz24_2
        try clear hfz26_0
        try clear hfz32_0
        try clear hfz38_0
        try clear hfz38_1
        try clear hfz38_2
        try clear hfz45_0
        try clear hfz45_1
        try clear hfz45_2
        try clear hfz48_0
        try clear hfz48_1
        try clear hfz48_2
        try clear hfz53_0
        try clear hfz53_1
        try clear hfz53_2
        try clear hfz56_0
        try clear hfz56_1
        try clear hfz56_2
        try clear hfz8_0
        obtain ⟨kq, x47_13, rfl, HA, HJ13, HO_951002, HO_955000, HO_962002, BK939, BK950, BK954, BK961, HB⟩ := hcut
        cases kq with
        | zero => exact absurd HA.out (by simp [laws_FnExactParseChange.j0])
        | succ kj13 =>
          have H := HA.out
          clear HA
          simp only [laws_FnExactParseChange.j0] at H
          by_cases c58 : x47_13 = true
          · subst c58
            have H1 : (some false) = some true := by rw [if_pos rfl] at H; exact H
            clear H
            have H := H1
            clear H1
            exact absurd (Option.some.inj H) (by decide)
          · replace c58 := Bool.eq_false_iff.mpr c58
            subst c58
            have H1 : ((laws_toSchema.f kj13 l0_0).bind fun t963 => ((laws_eqSchema.f kj13 t951 t963).bind fun t966 => (if t966 = true then ((laws_markSchema.f kj13 t951 1).bind fun bt967 => (if bt967.1 < 0 then (laws_FnExactParseChange.j1 kj13 a1 t949 true l0_0 t944 t945 t946 t955 t956 t957) else ((laws_eqChange.f kj13 t955 t956 t957 t944 t945 t946).bind fun t969 => (if t969 = true then (laws_FnExactParseChange.j1 kj13 a1 t949 (t960 != t949) l0_0 t944 t945 t946 t955 t956 t957) else (laws_FnExactParseChange.j1 kj13 a1 t949 true l0_0 t944 t945 t946 t955 t956 t957))))) else (some false)))) = some true := by rw [if_neg (show ¬ (false = true) by decide)] at H; exact H
            clear H
            have H := H1
            clear H1
            replace H := Option.bind_eq_some_iff.mp H
            obtain ⟨t963, A590, H⟩ := H
            replace H : ((laws_eqSchema.f kj13 t951 t963).bind fun t966 => (if t966 = true then ((laws_markSchema.f kj13 t951 1).bind fun bt967 => (if bt967.1 < 0 then (laws_FnExactParseChange.j1 kj13 a1 t949 true l0_0 t944 t945 t946 t955 t956 t957) else ((laws_eqChange.f kj13 t955 t956 t957 t944 t945 t946).bind fun t969 => (if t969 = true then (laws_FnExactParseChange.j1 kj13 a1 t949 (t960 != t949) l0_0 t944 t945 t946 t955 t956 t957) else (laws_FnExactParseChange.j1 kj13 a1 t949 true l0_0 t944 t945 t946 t955 t956 t957))))) else (some false))) = some true := H
            have A59 := Aside0.mk A590
            clear A590
            replace H := Option.bind_eq_some_iff.mp H
            obtain ⟨t966, A600, H⟩ := H
            replace H : (if t966 = true then ((laws_markSchema.f kj13 t951 1).bind fun bt967 => (if bt967.1 < 0 then (laws_FnExactParseChange.j1 kj13 a1 t949 true l0_0 t944 t945 t946 t955 t956 t957) else ((laws_eqChange.f kj13 t955 t956 t957 t944 t945 t946).bind fun t969 => (if t969 = true then (laws_FnExactParseChange.j1 kj13 a1 t949 (t960 != t949) l0_0 t944 t945 t946 t955 t956 t957) else (laws_FnExactParseChange.j1 kj13 a1 t949 true l0_0 t944 t945 t946 t955 t956 t957))))) else (some false)) = some true := H
            have A60 := Aside0.mk A600
            clear A600
            by_cases c61 : t966 = true
            · subst c61
              have H1 : ((laws_markSchema.f kj13 t951 1).bind fun bt967 => (if bt967.1 < 0 then (laws_FnExactParseChange.j1 kj13 a1 t949 true l0_0 t944 t945 t946 t955 t956 t957) else ((laws_eqChange.f kj13 t955 t956 t957 t944 t945 t946).bind fun t969 => (if t969 = true then (laws_FnExactParseChange.j1 kj13 a1 t949 (t960 != t949) l0_0 t944 t945 t946 t955 t956 t957) else (laws_FnExactParseChange.j1 kj13 a1 t949 true l0_0 t944 t945 t946 t955 t956 t957))))) = some true := by rw [if_pos rfl] at H; exact H
              clear H
              have H := H1
              clear H1
              replace H := Option.bind_eq_some_iff.mp H
              obtain ⟨⟨t967, t968⟩, A620, H⟩ := H
              replace H : (if t967 < 0 then (laws_FnExactParseChange.j1 kj13 a1 t949 true l0_0 t944 t945 t946 t955 t956 t957) else ((laws_eqChange.f kj13 t955 t956 t957 t944 t945 t946).bind fun t969 => (if t969 = true then (laws_FnExactParseChange.j1 kj13 a1 t949 (t960 != t949) l0_0 t944 t945 t946 t955 t956 t957) else (laws_FnExactParseChange.j1 kj13 a1 t949 true l0_0 t944 t945 t946 t955 t956 t957)))) = some true := H
              have A62 := Aside0.mk A620
              clear A620
              have HC63 := Aside0.mk H
              clear H
              try go_wp2
              have n0_ := Aside0.mk (Kd.R_drew HO_951002.out)
              have n1_ := Aside0.mk (Kd.R_drew HO_955000.out)
              have n2_ := Aside0.mk (Kd.R_drew HO_962002.out)
              have n3_ := Aside0.mk (blk_drew BK939.out)
              have n4_ := Aside0.mk (blk_drew BK950.out)
              have n5_ := Aside0.mk (blk_drew BK954.out)
              have n6_ := Aside0.mk (blk_drew BK961.out)
              have n7_ := Aside0.mk (below_drew1 HB.out)
              clear HO_951002
              clear HO_955000
              clear HO_962002
              clear BK939
              clear BK950
              clear BK954
              clear BK961
              clear HB
              have HO_951002 := n0_
              have HO_955000 := n1_
              have HO_962002 := n2_
              have BK939 := n3_
              have BK950 := n4_
              have BK954 := n5_
              have BK961 := n6_
              have HB := n7_
              clear n0_ n1_ n2_ n3_ n4_ n5_ n6_ n7_
              refine start_ (n := 5) (S := fun w' => w'.cell? ⟨gb954, 0, none⟩ = some (.slice Ao29 t951.length co29) ∧ w'.cell? ⟨gb939, 0, none⟩ = some (.slice A0_0 l0_0.length c0_0)) (ds := []) #[false, false, false, false, false] (by kernel_rfl) rfl rfl ⟨(blk_cell BK954.out 0).trans rfl, (blk_cell BK939.out 0).trans rfl⟩ (fun hHeld => ?_)
              generalize wc.drew = w64 at HO_951002 HO_955000 HO_962002 BK939 BK950 BK954 BK961 HB hHeld ⊢
              refine take_ (i := 0) (N := some 48) (v := ?_) (a' := ?_) #[true, false, false, false, false] rfl rfl (by kernel_rfl) (fun _ _ _ h => h) (Or.inl ⟨by rfl, ?_⟩) hHeld ?_ ?_
              rotate_left
              · rintro w' ⟨s0, s1⟩
                go_simp
                with_reducible rfl
              rotate_left
              · simp only [Act.put, List.setIfInBounds_toArray, List.set_cons_zero, List.set_cons_succ, i64_w, i32_w]
                rfl
              refine take_ (i := 1) (N := some 49) (v := ?_) (a' := ?_) #[true, true, false, false, false] rfl rfl (by kernel_rfl) (fun _ _ _ h => h) (Or.inl ⟨by rfl, ?_⟩) hHeld ?_ ?_
              rotate_left
              · rintro w' ⟨s0, s1⟩
                go_simp
                with_reducible rfl
              rotate_left
              · simp only [Act.put, List.setIfInBounds_toArray, List.set_cons_zero, List.set_cons_succ, i64_w, i32_w]
                rfl
              refine one_ (i := 2) (N := some 50) #[true, true, true, false, false] rfl rfl (by kernel_rfl) (by decide) (fun K hK => ?_)
              refine goes_ Try.func51 (by kernel_rfl) rfl #[.agg #[.slice A0_0 l0_0.length c0_0]] (by rfl) rfl rfl (by (try simp only [List.map_toArray, List.map_cons, List.map_nil]); first | done | rfl | (simp only [List.length_drop, List.length_take]; rfl)) ?_
              with_reducible refine (laws_toSchema.calls kj13 _ _ l0_0 t963 _ ?side1 ?side2 A59.out).mono ?_
              (case side1 => repeat (first | exact (Kd.C_below HR0_0.out HB.out) | (with_reducible refine Kd.C_alloc ?_ _) | (with_reducible refine Kd.C_drewN ?_ _) | (with_reducible refine Kd.C_drew ?_)))
              (case side2 => exact HC0_0.out)
              rintro e w65 ⟨v964, rfl, ho0, hb⟩
              refine ⟨_, rfl, ?_⟩
              have n0_ := Aside0.mk (Kd.R_elder' (by (with_reducible repeat (first | apply Kd.R_alloc | apply Kd.R_drewN | apply Kd.R_drew)); exact HO_951002.out) (Kd.R_base ho0) hb)
              have n1_ := Aside0.mk (Kd.R_elder' (by (with_reducible repeat (first | apply Kd.R_alloc | apply Kd.R_drewN | apply Kd.R_drew)); exact HO_955000.out) (Kd.R_base ho0) hb)
              have n2_ := Aside0.mk (Kd.R_elder' (by (with_reducible repeat (first | apply Kd.R_alloc | apply Kd.R_drewN | apply Kd.R_drew)); exact HO_962002.out) (Kd.R_base ho0) hb)
              have n3_ := Aside0.mk (Kd.R_lower (Kd.R_new' (Kd.R_new' (Kd.R_new' ho0 (Kd.R_lt (by (with_reducible repeat (first | apply Kd.R_alloc | apply Kd.R_drewN | apply Kd.R_drew)); exact HO_951002.out))) (Kd.R_lt (by (with_reducible repeat (first | apply Kd.R_alloc | apply Kd.R_drewN | apply Kd.R_drew)); exact HO_955000.out))) (Kd.R_lt (by (with_reducible repeat (first | apply Kd.R_alloc | apply Kd.R_drewN | apply Kd.R_drew)); exact HO_962002.out))) (below_size (by repeat (first | (with_reducible first | exact HB.out | apply below_alloc | apply pw_below_drewN | apply below_drew1 | refine below_set ?_ GE939.out | refine below_set ?_ GE950.out | refine below_set ?_ GE954.out | refine below_set ?_ GE961.out) | exact HB.out))))
              have n4_ := Aside0.mk (blk_below (g := gb939) (o := .cells #[.slice A0_0 l0_0.length c0_0] 79 (0, 0)) (by (with_reducible repeat (first | refine blk_drewN ?_ _ | refine blk_drew ?_ | refine blk_alloc ?_ _)); exact BK939.out) hb)
              have n5_ := Aside0.mk (blk_below (g := gb950) (o := .cells #[.bool t944, .int .i64 t945, .slice Ao25 t946.length co25] 84 (0, 0)) (by (with_reducible repeat (first | refine blk_drewN ?_ _ | refine blk_drew ?_ | refine blk_alloc ?_ _)); exact BK950.out) hb)
              have n6_ := Aside0.mk (blk_below (g := gb954) (o := .cells #[.slice Ao29 t951.length co29] 87 (0, 0)) (by (with_reducible repeat (first | refine blk_drewN ?_ _ | refine blk_drew ?_ | refine blk_alloc ?_ _)); exact BK954.out) hb)
              have n7_ := Aside0.mk (blk_below (g := gb961) (o := .cells #[.bool t955, .int .i64 t956, .slice Ao39 t957.length co39] 84 (0, 0)) (by (with_reducible repeat (first | refine blk_drewN ?_ _ | refine blk_drew ?_ | refine blk_alloc ?_ _)); exact BK961.out) hb)
              have n8_ := Aside0.mk (below_step (by repeat (first | (with_reducible first | exact HB.out | apply below_alloc | apply pw_below_drewN | apply below_drew1 | refine below_set ?_ GE939.out | refine below_set ?_ GE950.out | refine below_set ?_ GE954.out | refine below_set ?_ GE961.out) | exact HB.out)) hb)
              clear HO_951002
              clear HO_955000
              clear HO_962002
              clear BK939
              clear BK950
              clear BK954
              clear BK961
              clear HB
              have HO_951002 := n0_
              have HO_955000 := n1_
              have HO_962002 := n2_
              have HO965 := n3_
              have BK939 := n4_
              have BK950 := n5_
              have BK954 := n6_
              have BK961 := n7_
              have HB := n8_
              clear n0_ n1_ n2_ n3_ n4_ n5_ n6_ n7_ n8_
              (try clear hb)
              (try clear hb2)
              (try clear hk)
              (try clear hi)
              (try clear ho0)
              obtain ⟨Ao66, co66, eo66⟩ := Kd.R_slice HO965.out
              (first | subst eo66 | (injection eo66 with f1_ f2_ f3_; have f4_ := f1_.symm; have f5_ := f3_.symm; clear f1_ f2_ f3_; subst f4_; subst f5_))
              refine hK.out _ _ ⟨(blk_cell BK954.out 0).trans rfl, (blk_cell BK939.out 0).trans rfl⟩ (fun hHeld => ?_)
              clear hK K
              refine norm_ (a' := ?_) ?_ ?_
              rotate_left
              · show Act.put _ (some 50) _ = _
                simp only [Act.put, List.setIfInBounds_toArray, List.set_cons_zero, List.set_cons_succ, i64_w, i32_w]
                rfl
              refine one_ (i := 3) (N := some 51) #[true, true, true, true, false] rfl rfl (by kernel_rfl) (by decide) (fun K hK => ?_)
              refine goes_ Try.func54 (by kernel_rfl) rfl #[.agg #[.slice Ao29 t951.length co29], .agg #[.slice Ao66 t963.length co66]] (by rfl) rfl rfl (by (try simp only [List.map_toArray, List.map_cons, List.map_nil]); first | done | rfl | (simp only [List.length_drop, List.length_take]; rfl)) ?_
              with_reducible refine (laws_eqSchema.calls kj13 _ _ t951 _ _ t963 true _ ?side1 ?side2 ?side3 ?side4 A60.out).mono ?_
              (case side1 => repeat (first | exact (Kd.R_reads' HO_955000.out).2.2 | (with_reducible refine Kd.C_alloc ?_ _) | (with_reducible refine Kd.C_drewN ?_ _) | (with_reducible refine Kd.C_drew ?_)))
              (case side2 => exact (Kd.R_reads' HO_955000.out).2.1)
              (case side3 => repeat (first | exact (Kd.R_reads' HO965.out).2.2 | (with_reducible refine Kd.C_alloc ?_ _) | (with_reducible refine Kd.C_drewN ?_ _) | (with_reducible refine Kd.C_drew ?_)))
              (case side4 => exact (Kd.R_reads' HO965.out).2.1)
              rintro e w67 ⟨rfl, hb⟩
              refine ⟨_, rfl, ?_⟩
              have n0_ := Aside0.mk (Kd.R_below (by (with_reducible repeat (first | apply Kd.R_alloc | apply Kd.R_drewN | apply Kd.R_drew)); exact HO_951002.out) hb)
              have n1_ := Aside0.mk (Kd.R_below (by (with_reducible repeat (first | apply Kd.R_alloc | apply Kd.R_drewN | apply Kd.R_drew)); exact HO_955000.out) hb)
              have n2_ := Aside0.mk (Kd.R_below (by (with_reducible repeat (first | apply Kd.R_alloc | apply Kd.R_drewN | apply Kd.R_drew)); exact HO_962002.out) hb)
              have n3_ := Aside0.mk (Kd.R_below (by (with_reducible repeat (first | apply Kd.R_alloc | apply Kd.R_drewN | apply Kd.R_drew)); exact HO965.out) hb)
              have n4_ := Aside0.mk (blk_below (g := gb939) (o := .cells #[.slice A0_0 l0_0.length c0_0] 79 (0, 0)) (by (with_reducible repeat (first | refine blk_drewN ?_ _ | refine blk_drew ?_ | refine blk_alloc ?_ _)); exact BK939.out) hb)
              have n5_ := Aside0.mk (blk_below (g := gb950) (o := .cells #[.bool t944, .int .i64 t945, .slice Ao25 t946.length co25] 84 (0, 0)) (by (with_reducible repeat (first | refine blk_drewN ?_ _ | refine blk_drew ?_ | refine blk_alloc ?_ _)); exact BK950.out) hb)
              have n6_ := Aside0.mk (blk_below (g := gb954) (o := .cells #[.slice Ao29 t951.length co29] 87 (0, 0)) (by (with_reducible repeat (first | refine blk_drewN ?_ _ | refine blk_drew ?_ | refine blk_alloc ?_ _)); exact BK954.out) hb)
              have n7_ := Aside0.mk (blk_below (g := gb961) (o := .cells #[.bool t955, .int .i64 t956, .slice Ao39 t957.length co39] 84 (0, 0)) (by (with_reducible repeat (first | refine blk_drewN ?_ _ | refine blk_drew ?_ | refine blk_alloc ?_ _)); exact BK961.out) hb)
              have n8_ := Aside0.mk (below_step (by repeat (first | (with_reducible first | exact HB.out | apply below_alloc | apply pw_below_drewN | apply below_drew1 | refine below_set ?_ GE939.out | refine below_set ?_ GE950.out | refine below_set ?_ GE954.out | refine below_set ?_ GE961.out) | exact HB.out)) hb)
              clear HO_951002
              clear HO_955000
              clear HO_962002
              clear HO965
              clear BK939
              clear BK950
              clear BK954
              clear BK961
              clear HB
              have HO_951002 := n0_
              have HO_955000 := n1_
              have HO_962002 := n2_
              have HO965 := n3_
              have BK939 := n4_
              have BK950 := n5_
              have BK954 := n6_
              have BK961 := n7_
              have HB := n8_
              clear n0_ n1_ n2_ n3_ n4_ n5_ n6_ n7_ n8_
              (try clear hb)
              (try clear hb2)
              (try clear hk)
              (try clear hi)
              refine hK.out _ _ ⟨(blk_cell BK954.out 0).trans rfl, (blk_cell BK939.out 0).trans rfl⟩ (fun hHeld => ?_)
              clear hK K
              refine norm_ (a' := ?_) ?_ ?_
              rotate_left
              · show Act.put _ (some 51) _ = _
                simp only [Act.put, List.setIfInBounds_toArray, List.set_cons_zero, List.set_cons_succ, i64_w, i32_w]
                rfl
              refine pure_ (i := 4) (N := some 52) (v := ?_) (a' := ?_) #[true, true, true, true, true] rfl rfl (by kernel_rfl) (fun _ _ _ h => h) (Or.inl ⟨by rfl, ?_⟩) ?_ ?_
              rotate_left
              · intro w'
                go_simp
                with_reducible rfl
              rotate_left
              · simp only [Act.put, List.setIfInBounds_toArray, List.set_cons_zero, List.set_cons_succ, i64_w, i32_w]
                rfl
              refine done_ (by kernel_rfl) ?_
              have hnb68 := NB954_939.out
              have hnc68 := NB939_954.out
              have hnb69 := NB954_950.out
              have hnc69 := NB950_954.out
              have hnb70 := NB954_961.out
              have hnc70 := NB961_954.out
              have hcz71_0 : w67.cell? ⟨gb954, 0, none⟩ = some (.slice Ao29 t951.length co29) := (blk_cell BK954.out 0).trans rfl
              have hfz71_0 := blk_frozen BK954.out 0
              go_upto_region 16 with (first | ((with_reducible refine gate_callee (f := 55) rfl ?_); refine goesL_ (some 55) rfl rfl Try.func55 (by kernel_rfl) rfl #[.agg #[.slice Ao29 t951.length co29], .int .i64 1] rfl (by (try simp only [List.map_toArray, List.map_cons, List.map_nil]); first | done | rfl | (simp only [List.length_drop, List.length_take]; rfl)) ?_; (with_reducible refine (laws_markSchema.calls kj13 (fun k_ => some k_ = (.slice Ao29 t951.length co29 : Value).ownBlock) (.slice Ao29 t951.length co29) t951 1 t967 t968 w _ ?side1 ?side2 A62.out).mono ?_); (case side1 => repeat (first | (with_reducible first | exact HB.out | apply below_alloc | apply pw_below_drewN | apply below_drew1 | refine below_set ?_ GE939.out | refine below_set ?_ GE950.out | refine below_set ?_ GE954.out | refine below_set ?_ GE961.out) | exact HB.out)); (case side2 => exact Kd.R_tight rfl HO_955000.out); rintro e w72 ⟨rfl, hy0, hb, hkp⟩; refine ⟨_, rfl, ?_⟩; have n0_ := Aside0.mk (Kd.R_mono (ok' := fun k_ => some k_ ≠ (.slice Ao29 t951.length co29 : Value).ownBlock ∧ some k_ ≠ (.slice Ao39 t957.length co39 : Value).ownBlock ∧ some k_ ≠ (.slice Ao66 t963.length co66 : Value).ownBlock) (Kd.R_keptB (HO_951002.out) hkp (fun k_ hk_ hs_ => (hk_.1.1) hs_)) (fun k_ hk_ => ⟨hk_.1.1.1, hk_.1.1.2, hk_.1.2⟩)); have n1_ := Aside0.mk (Kd.R_reok rfl hy0 (fun k_ e_ => HO_955000.out.1 k_ e_)); have n2_ := Aside0.mk (Kd.R_mono (ok' := fun k_ => some k_ ≠ (.slice Ao25 t946.length co25 : Value).ownBlock ∧ some k_ ≠ (.slice Ao29 t951.length co29 : Value).ownBlock ∧ some k_ ≠ (.slice Ao66 t963.length co66 : Value).ownBlock) (Kd.R_keptB (HO_962002.out) hkp (fun k_ hk_ hs_ => (hk_.1.2) hs_)) (fun k_ hk_ => ⟨hk_.1.1.1, hk_.1.1.2, hk_.1.2⟩)); have n3_ := Aside0.mk (blk_kept (by (with_reducible repeat (first | refine blk_drewN ?_ _ | refine blk_drew ?_ | refine blk_alloc ?_ _)); exact BK939.out) hkp (fun hs_ => (fun e_ => (Kd.R_ne HO_955000.out BK939.out (by decide)) e_) hs_)); have n4_ := Aside0.mk (blk_kept (by (with_reducible repeat (first | refine blk_drewN ?_ _ | refine blk_drew ?_ | refine blk_alloc ?_ _)); exact BK950.out) hkp (fun hs_ => (fun e_ => (Kd.R_ne HO_955000.out BK950.out (by decide)) e_) hs_)); have n5_ := Aside0.mk (blk_kept (by (with_reducible repeat (first | refine blk_drewN ?_ _ | refine blk_drew ?_ | refine blk_alloc ?_ _)); exact BK954.out) hkp (fun hs_ => (fun e_ => (Kd.R_ne HO_955000.out BK954.out (by decide)) e_) hs_)); have n6_ := Aside0.mk (blk_kept (by (with_reducible repeat (first | refine blk_drewN ?_ _ | refine blk_drew ?_ | refine blk_alloc ?_ _)); exact BK961.out) hkp (fun hs_ => (fun e_ => (Kd.R_ne HO_955000.out BK961.out (by decide)) e_) hs_)); have n7_ := Aside0.mk (Kd.R_mono (ok' := fun k_ => some k_ ≠ (.slice Ao25 t946.length co25 : Value).ownBlock ∧ some k_ ≠ (.slice Ao29 t951.length co29 : Value).ownBlock ∧ some k_ ≠ (.slice Ao39 t957.length co39 : Value).ownBlock) (Kd.R_keptB (HO965.out) hkp (fun k_ hk_ hs_ => (hk_.1.2) hs_)) (fun k_ hk_ => ⟨hk_.1.1.1.2, hk_.1.1.2, hk_.1.2⟩)); have n8_ := Aside0.mk (hb); clear HO_951002; clear HO_955000; clear HO_962002; clear BK939; clear BK950; clear BK954; clear BK961; clear HO965; clear HB; have HO_951002 := n0_; have HO_955000 := n1_; have HO_962002 := n2_; have BK939 := n3_; have BK950 := n4_; have BK954 := n5_; have BK961 := n6_; have HO965 := n7_; have HB := n8_; clear n0_ n1_ n2_ n3_ n4_ n5_ n6_ n7_ n8_; (try clear hb); (try clear hkp); (try clear hy0)))
              (try simp only [Act.put, List.setIfInBounds_toArray, List.set_cons_zero, List.set_cons_succ])
              go_cut [68] (fun v68 wc => ∃ (kq : Nat) (x68_62 : Bool), v68 = .bool x68_62 ∧ Aside0 (laws_FnExactParseChange.j1 kq a1 t949 x68_62 l0_0 t944 t945 t946 t955 t956 t957 = some true) ∧ Aside0 (kq ≤ kj13) ∧ Aside0 (Kd.R (Kd.int .i64) 3 wc w.heap.size (fun k_ => some k_ ≠ ((.slice Ao29 t951.length co29) : Value).ownBlock ∧ some k_ ≠ ((.slice Ao39 t957.length co39) : Value).ownBlock) (.slice Ao25 t946.length co25) t946) ∧ Aside0 (Kd.R (Kd.int .i64) 3 wc w.heap.size (fun k_ => some k_ ≠ ((.slice Ao25 t946.length co25) : Value).ownBlock ∧ some k_ ≠ ((.slice Ao39 t957.length co39) : Value).ownBlock) (.slice Ao29 t951.length co29) t968) ∧ Aside0 (Kd.R (Kd.int .i64) 3 wc w.heap.size (fun k_ => some k_ ≠ ((.slice Ao25 t946.length co25) : Value).ownBlock ∧ some k_ ≠ ((.slice Ao29 t951.length co29) : Value).ownBlock) (.slice Ao39 t957.length co39) t957) ∧ Aside0 (wc.heap[gb939]? = some (.cells #[(.slice A0_0 l0_0.length c0_0)] 79 (0, 0))) ∧ Aside0 (wc.heap[gb950]? = some (.cells #[.bool t944, .int .i64 t945, (.slice Ao25 t946.length co25)] 84 (0, 0))) ∧ Aside0 (wc.heap[gb954]? = some (.cells #[(.slice Ao29 t951.length co29)] 87 (0, 0))) ∧ Aside0 (wc.heap[gb961]? = some (.cells #[.bool t955, .int .i64 t956, (.slice Ao39 t957.length co39)] 84 (0, 0))) ∧ Aside0 (Below w.heap.size w wc))
              case first =>
                have H := HC63.out
                clear HC63
                by_cases c73 : t967 < 0
                · rw [if_pos c73] at H
                  have c73b0 : decide (t967 < 0) = true := decide_eq_true c73
                  clear c73
                  (first | rw [c73b0] | (simp only [i64_w, i32_w]; rw [c73b0]) | skip)
                  have H' := Aside0.mk H
                  clear H
                  go_wp2
                  go_meet
                  case rel => exact ⟨_, (true), (by first | rfl | (simp; done) | (simp [*]; done)), H', ⟨by have := HJ13.out; first | omega | exact Nat.le_refl _⟩, ⟨by (with_reducible repeat (first | apply Kd.R_alloc | apply Kd.R_drewN | apply Kd.R_drew)); exact Kd.R_mono HO_951002.out (fun _ hk => ⟨hk.1, hk.2.1⟩)⟩, ⟨by (with_reducible repeat (first | apply Kd.R_alloc | apply Kd.R_drewN | apply Kd.R_drew)); exact Kd.R_mono HO_955000.out (fun _ hk => ⟨hk.1.1, hk.1.2⟩)⟩, ⟨by (with_reducible repeat (first | apply Kd.R_alloc | apply Kd.R_drewN | apply Kd.R_drew)); exact Kd.R_mono HO_962002.out (fun _ hk => ⟨hk.1, hk.2.1⟩)⟩, ⟨by (with_reducible repeat (first | refine blk_drewN ?_ _ | refine blk_drew ?_ | refine blk_alloc ?_ _)); exact BK939.out⟩, ⟨by (with_reducible repeat (first | refine blk_drewN ?_ _ | refine blk_drew ?_ | refine blk_alloc ?_ _)); exact BK950.out⟩, ⟨by (with_reducible repeat (first | refine blk_drewN ?_ _ | refine blk_drew ?_ | refine blk_alloc ?_ _)); exact BK954.out⟩, ⟨by (with_reducible repeat (first | refine blk_drewN ?_ _ | refine blk_drew ?_ | refine blk_alloc ?_ _)); exact BK961.out⟩, ⟨by repeat (first | (with_reducible first | exact HB.out | apply below_alloc | apply pw_below_drewN | apply below_drew1 | refine below_set ?_ GE939.out | refine below_set ?_ GE950.out | refine below_set ?_ GE954.out | refine below_set ?_ GE961.out) | exact HB.out)⟩⟩
                · rw [if_neg c73] at H
                  have c73b0 : decide (t967 < 0) = false := decide_eq_false c73
                  clear c73
                  (first | rw [c73b0] | (simp only [i64_w, i32_w]; rw [c73b0]) | skip)
                  replace H := Option.bind_eq_some_iff.mp H
                  obtain ⟨t969, A740, H⟩ := H
                  replace H : (if t969 = true then (laws_FnExactParseChange.j1 kj13 a1 t949 (t960 != t949) l0_0 t944 t945 t946 t955 t956 t957) else (laws_FnExactParseChange.j1 kj13 a1 t949 true l0_0 t944 t945 t946 t955 t956 t957)) = some true := H
                  have A74 := Aside0.mk A740
                  clear A740
                  by_cases c75 : t969 = true
                  · subst c75
                    have H1 : (laws_FnExactParseChange.j1 kj13 a1 t949 (t960 != t949) l0_0 t944 t945 t946 t955 t956 t957) = some true := by rw [if_pos rfl] at H; exact H
                    clear H
                    have H := H1
                    clear H1
                    have H' := Aside0.mk H
                    clear H
                    have hnb76 := NB961_939.out
                    have hnc76 := NB939_961.out
                    have hnb77 := NB961_950.out
                    have hnc77 := NB950_961.out
                    have hnb78 := NB961_954.out
                    have hnc78 := NB954_961.out
                    have hcz79_0 : w72.cell? ⟨gb961, 0, none⟩ = some (.bool t955) := (blk_cell BK961.out 0).trans rfl
                    have hcz79_1 : w72.cell? ⟨gb961, 1, none⟩ = some (.int .i64 t956) := (blk_cell BK961.out 1).trans rfl
                    have hcz79_2 : w72.cell? ⟨gb961, 2, none⟩ = some (.slice Ao39 t957.length co39) := (blk_cell BK961.out 2).trans rfl
                    have hfz79_0 := blk_frozen BK961.out 0
                    have hfz79_1 := blk_frozen BK961.out 1
                    have hfz79_2 := blk_frozen BK961.out 2
                    have hnb80 := NB950_939.out
                    have hnc80 := NB939_950.out
                    have hnb81 := NB950_954.out
                    have hnc81 := NB954_950.out
                    have hcz82_0 : w72.cell? ⟨gb950, 0, none⟩ = some (.bool t944) := (blk_cell BK950.out 0).trans rfl
                    have hcz82_1 : w72.cell? ⟨gb950, 1, none⟩ = some (.int .i64 t945) := (blk_cell BK950.out 1).trans rfl
                    have hcz82_2 : w72.cell? ⟨gb950, 2, none⟩ = some (.slice Ao25 t946.length co25) := (blk_cell BK950.out 2).trans rfl
                    have hfz82_0 := blk_frozen BK950.out 0
                    have hfz82_1 := blk_frozen BK950.out 1
                    have hfz82_2 := blk_frozen BK950.out 2
                    go_wp2_with (first | (go_at_call 53; (with_reducible refine (laws_eqChange.calls kj13 t955 t956 _ _ t957 t944 t945 _ _ t946 true _ ?side1 ?side2 ?side3 ?side4 A74.out).mono ?_); (case side1 => repeat (first | exact (Kd.R_reads' HO_962002.out).2.2 | (with_reducible refine Kd.C_alloc ?_ _) | (with_reducible refine Kd.C_drewN ?_ _) | (with_reducible refine Kd.C_drew ?_))); (case side2 => exact (Kd.R_reads' HO_962002.out).2.1); (case side3 => repeat (first | exact (Kd.R_reads' HO_951002.out).2.2 | (with_reducible refine Kd.C_alloc ?_ _) | (with_reducible refine Kd.C_drewN ?_ _) | (with_reducible refine Kd.C_drew ?_))); (case side4 => exact (Kd.R_reads' HO_951002.out).2.1); rintro e w83 ⟨rfl, hb⟩; have n0_ := Aside0.mk (Kd.R_below (by (with_reducible repeat (first | apply Kd.R_alloc | apply Kd.R_drewN | apply Kd.R_drew)); exact HO_951002.out) hb); have n1_ := Aside0.mk (Kd.R_below (by (with_reducible repeat (first | apply Kd.R_alloc | apply Kd.R_drewN | apply Kd.R_drew)); exact HO_955000.out) hb); have n2_ := Aside0.mk (Kd.R_below (by (with_reducible repeat (first | apply Kd.R_alloc | apply Kd.R_drewN | apply Kd.R_drew)); exact HO_962002.out) hb); have n3_ := Aside0.mk (Kd.R_below (by (with_reducible repeat (first | apply Kd.R_alloc | apply Kd.R_drewN | apply Kd.R_drew)); exact HO965.out) hb); have n4_ := Aside0.mk (blk_below (g := gb939) (o := .cells #[.slice A0_0 l0_0.length c0_0] 79 (0, 0)) (by (with_reducible repeat (first | refine blk_drewN ?_ _ | refine blk_drew ?_ | refine blk_alloc ?_ _)); exact BK939.out) hb); have n5_ := Aside0.mk (blk_below (g := gb950) (o := .cells #[.bool t944, .int .i64 t945, .slice Ao25 t946.length co25] 84 (0, 0)) (by (with_reducible repeat (first | refine blk_drewN ?_ _ | refine blk_drew ?_ | refine blk_alloc ?_ _)); exact BK950.out) hb); have n6_ := Aside0.mk (blk_below (g := gb954) (o := .cells #[.slice Ao29 t951.length co29] 87 (0, 0)) (by (with_reducible repeat (first | refine blk_drewN ?_ _ | refine blk_drew ?_ | refine blk_alloc ?_ _)); exact BK954.out) hb); have n7_ := Aside0.mk (blk_below (g := gb961) (o := .cells #[.bool t955, .int .i64 t956, .slice Ao39 t957.length co39] 84 (0, 0)) (by (with_reducible repeat (first | refine blk_drewN ?_ _ | refine blk_drew ?_ | refine blk_alloc ?_ _)); exact BK961.out) hb); have n8_ := Aside0.mk (below_step (by repeat (first | (with_reducible first | exact HB.out | apply below_alloc | apply pw_below_drewN | apply below_drew1 | refine below_set ?_ GE939.out | refine below_set ?_ GE950.out | refine below_set ?_ GE954.out | refine below_set ?_ GE961.out) | exact HB.out)) hb); clear HO_951002; clear HO_955000; clear HO_962002; clear HO965; clear BK939; clear BK950; clear BK954; clear BK961; clear HB; have HO_951002 := n0_; have HO_955000 := n1_; have HO_962002 := n2_; have HO965 := n3_; have BK939 := n4_; have BK950 := n5_; have BK954 := n6_; have BK961 := n7_; have HB := n8_; clear n0_ n1_ n2_ n3_ n4_ n5_ n6_ n7_ n8_; (try clear hb); (try clear hb2); (try clear hk); (try clear hi)))
                    go_meet
                    case rel => exact ⟨_, ((t960 != t949)), (by first | rfl | (simp; done) | (simp [*]; done)), H', ⟨by have := HJ13.out; first | omega | exact Nat.le_refl _⟩, ⟨by (with_reducible repeat (first | apply Kd.R_alloc | apply Kd.R_drewN | apply Kd.R_drew)); exact Kd.R_mono HO_951002.out (fun _ hk => ⟨hk.1, hk.2.1⟩)⟩, ⟨by (with_reducible repeat (first | apply Kd.R_alloc | apply Kd.R_drewN | apply Kd.R_drew)); exact Kd.R_mono HO_955000.out (fun _ hk => ⟨hk.1.1, hk.1.2⟩)⟩, ⟨by (with_reducible repeat (first | apply Kd.R_alloc | apply Kd.R_drewN | apply Kd.R_drew)); exact Kd.R_mono HO_962002.out (fun _ hk => ⟨hk.1, hk.2.1⟩)⟩, ⟨by (with_reducible repeat (first | refine blk_drewN ?_ _ | refine blk_drew ?_ | refine blk_alloc ?_ _)); exact BK939.out⟩, ⟨by (with_reducible repeat (first | refine blk_drewN ?_ _ | refine blk_drew ?_ | refine blk_alloc ?_ _)); exact BK950.out⟩, ⟨by (with_reducible repeat (first | refine blk_drewN ?_ _ | refine blk_drew ?_ | refine blk_alloc ?_ _)); exact BK954.out⟩, ⟨by (with_reducible repeat (first | refine blk_drewN ?_ _ | refine blk_drew ?_ | refine blk_alloc ?_ _)); exact BK961.out⟩, ⟨by repeat (first | (with_reducible first | exact HB.out | apply below_alloc | apply pw_below_drewN | apply below_drew1 | refine below_set ?_ GE939.out | refine below_set ?_ GE950.out | refine below_set ?_ GE954.out | refine below_set ?_ GE961.out) | exact HB.out)⟩⟩
                  · replace c75 := Bool.eq_false_iff.mpr c75
                    subst c75
                    have H1 : (laws_FnExactParseChange.j1 kj13 a1 t949 true l0_0 t944 t945 t946 t955 t956 t957) = some true := by rw [if_neg (show ¬ (false = true) by decide)] at H; exact H
                    clear H
                    have H := H1
                    clear H1
                    have H' := Aside0.mk H
                    clear H
                    have hnb84 := NB961_939.out
                    have hnc84 := NB939_961.out
                    have hnb85 := NB961_950.out
                    have hnc85 := NB950_961.out
                    have hnb86 := NB961_954.out
                    have hnc86 := NB954_961.out
                    have hcz87_0 : w72.cell? ⟨gb961, 0, none⟩ = some (.bool t955) := (blk_cell BK961.out 0).trans rfl
                    have hcz87_1 : w72.cell? ⟨gb961, 1, none⟩ = some (.int .i64 t956) := (blk_cell BK961.out 1).trans rfl
                    have hcz87_2 : w72.cell? ⟨gb961, 2, none⟩ = some (.slice Ao39 t957.length co39) := (blk_cell BK961.out 2).trans rfl
                    have hfz87_0 := blk_frozen BK961.out 0
                    have hfz87_1 := blk_frozen BK961.out 1
                    have hfz87_2 := blk_frozen BK961.out 2
                    have hnb88 := NB950_939.out
                    have hnc88 := NB939_950.out
                    have hnb89 := NB950_954.out
                    have hnc89 := NB954_950.out
                    have hcz90_0 : w72.cell? ⟨gb950, 0, none⟩ = some (.bool t944) := (blk_cell BK950.out 0).trans rfl
                    have hcz90_1 : w72.cell? ⟨gb950, 1, none⟩ = some (.int .i64 t945) := (blk_cell BK950.out 1).trans rfl
                    have hcz90_2 : w72.cell? ⟨gb950, 2, none⟩ = some (.slice Ao25 t946.length co25) := (blk_cell BK950.out 2).trans rfl
                    have hfz90_0 := blk_frozen BK950.out 0
                    have hfz90_1 := blk_frozen BK950.out 1
                    have hfz90_2 := blk_frozen BK950.out 2
                    go_wp2_with (first | (go_at_call 53; (with_reducible refine (laws_eqChange.calls kj13 t955 t956 _ _ t957 t944 t945 _ _ t946 false _ ?side1 ?side2 ?side3 ?side4 A74.out).mono ?_); (case side1 => repeat (first | exact (Kd.R_reads' HO_962002.out).2.2 | (with_reducible refine Kd.C_alloc ?_ _) | (with_reducible refine Kd.C_drewN ?_ _) | (with_reducible refine Kd.C_drew ?_))); (case side2 => exact (Kd.R_reads' HO_962002.out).2.1); (case side3 => repeat (first | exact (Kd.R_reads' HO_951002.out).2.2 | (with_reducible refine Kd.C_alloc ?_ _) | (with_reducible refine Kd.C_drewN ?_ _) | (with_reducible refine Kd.C_drew ?_))); (case side4 => exact (Kd.R_reads' HO_951002.out).2.1); rintro e w91 ⟨rfl, hb⟩; have n0_ := Aside0.mk (Kd.R_below (by (with_reducible repeat (first | apply Kd.R_alloc | apply Kd.R_drewN | apply Kd.R_drew)); exact HO_951002.out) hb); have n1_ := Aside0.mk (Kd.R_below (by (with_reducible repeat (first | apply Kd.R_alloc | apply Kd.R_drewN | apply Kd.R_drew)); exact HO_955000.out) hb); have n2_ := Aside0.mk (Kd.R_below (by (with_reducible repeat (first | apply Kd.R_alloc | apply Kd.R_drewN | apply Kd.R_drew)); exact HO_962002.out) hb); have n3_ := Aside0.mk (Kd.R_below (by (with_reducible repeat (first | apply Kd.R_alloc | apply Kd.R_drewN | apply Kd.R_drew)); exact HO965.out) hb); have n4_ := Aside0.mk (blk_below (g := gb939) (o := .cells #[.slice A0_0 l0_0.length c0_0] 79 (0, 0)) (by (with_reducible repeat (first | refine blk_drewN ?_ _ | refine blk_drew ?_ | refine blk_alloc ?_ _)); exact BK939.out) hb); have n5_ := Aside0.mk (blk_below (g := gb950) (o := .cells #[.bool t944, .int .i64 t945, .slice Ao25 t946.length co25] 84 (0, 0)) (by (with_reducible repeat (first | refine blk_drewN ?_ _ | refine blk_drew ?_ | refine blk_alloc ?_ _)); exact BK950.out) hb); have n6_ := Aside0.mk (blk_below (g := gb954) (o := .cells #[.slice Ao29 t951.length co29] 87 (0, 0)) (by (with_reducible repeat (first | refine blk_drewN ?_ _ | refine blk_drew ?_ | refine blk_alloc ?_ _)); exact BK954.out) hb); have n7_ := Aside0.mk (blk_below (g := gb961) (o := .cells #[.bool t955, .int .i64 t956, .slice Ao39 t957.length co39] 84 (0, 0)) (by (with_reducible repeat (first | refine blk_drewN ?_ _ | refine blk_drew ?_ | refine blk_alloc ?_ _)); exact BK961.out) hb); have n8_ := Aside0.mk (below_step (by repeat (first | (with_reducible first | exact HB.out | apply below_alloc | apply pw_below_drewN | apply below_drew1 | refine below_set ?_ GE939.out | refine below_set ?_ GE950.out | refine below_set ?_ GE954.out | refine below_set ?_ GE961.out) | exact HB.out)) hb); clear HO_951002; clear HO_955000; clear HO_962002; clear HO965; clear BK939; clear BK950; clear BK954; clear BK961; clear HB; have HO_951002 := n0_; have HO_955000 := n1_; have HO_962002 := n2_; have HO965 := n3_; have BK939 := n4_; have BK950 := n5_; have BK954 := n6_; have BK961 := n7_; have HB := n8_; clear n0_ n1_ n2_ n3_ n4_ n5_ n6_ n7_ n8_; (try clear hb); (try clear hb2); (try clear hk); (try clear hi)))
                    go_meet
                    case rel => exact ⟨_, (true), (by first | rfl | (simp; done) | (simp [*]; done)), H', ⟨by have := HJ13.out; first | omega | exact Nat.le_refl _⟩, ⟨by (with_reducible repeat (first | apply Kd.R_alloc | apply Kd.R_drewN | apply Kd.R_drew)); exact Kd.R_mono HO_951002.out (fun _ hk => ⟨hk.1, hk.2.1⟩)⟩, ⟨by (with_reducible repeat (first | apply Kd.R_alloc | apply Kd.R_drewN | apply Kd.R_drew)); exact Kd.R_mono HO_955000.out (fun _ hk => ⟨hk.1.1, hk.1.2⟩)⟩, ⟨by (with_reducible repeat (first | apply Kd.R_alloc | apply Kd.R_drewN | apply Kd.R_drew)); exact Kd.R_mono HO_962002.out (fun _ hk => ⟨hk.1, hk.2.1⟩)⟩, ⟨by (with_reducible repeat (first | refine blk_drewN ?_ _ | refine blk_drew ?_ | refine blk_alloc ?_ _)); exact BK939.out⟩, ⟨by (with_reducible repeat (first | refine blk_drewN ?_ _ | refine blk_drew ?_ | refine blk_alloc ?_ _)); exact BK950.out⟩, ⟨by (with_reducible repeat (first | refine blk_drewN ?_ _ | refine blk_drew ?_ | refine blk_alloc ?_ _)); exact BK954.out⟩, ⟨by (with_reducible repeat (first | refine blk_drewN ?_ _ | refine blk_drew ?_ | refine blk_alloc ?_ _)); exact BK961.out⟩, ⟨by repeat (first | (with_reducible first | exact HB.out | apply below_alloc | apply pw_below_drewN | apply below_drew1 | refine below_set ?_ GE939.out | refine below_set ?_ GE950.out | refine below_set ?_ GE954.out | refine below_set ?_ GE961.out) | exact HB.out)⟩⟩
              case rest =>
                clear HC63
                try clear c2
                try clear p2
                try clear c3
                try clear c3b0
                try clear c3b1
                try clear c4
                try clear c5
                try clear c6
                try clear c6b0
                try clear c7
                try clear c8
                try clear c23
                try clear c30
                try clear c31
                try clear c35
                try clear c36
                try clear c37
                try clear c41
                try clear c42
                try clear c43
                try clear c44
                try clear c46
                try clear c47
                try clear c49
                try clear c50
                try clear c51
                try clear c52
                try clear c53
                try clear c54
                try clear c55
                try clear c58
                try clear c61
                try clear c68
                try clear c69
                try clear c70
                try clear c73
                try clear c73b0
                try clear c75
                try clear c76
                try clear c77
                try clear c78
                try clear c80
                try clear c81
                try clear c84
                try clear c85
                try clear c86
                try clear c88
                try clear c89
                try clear hcz16_0
                try clear hcz18_0
                try clear hcz24_0
                try clear hcz24_1
                try clear hcz24_2
                try clear hcz26_0
                try clear hcz32_0
                try clear hcz38_0
                try clear hcz38_1
                try clear hcz38_2
                try clear hcz45_0
                try clear hcz45_1
                try clear hcz45_2
                try clear hcz48_0
                try clear hcz48_1
                try clear hcz48_2
                try clear hcz53_0
                try clear hcz53_1
                try clear hcz53_2
                try clear hcz56_0
                try clear hcz56_1
                try clear hcz56_2
                try clear hcz71_0
                try clear hcz79_0
                try clear hcz79_1
                try clear hcz79_2
                try clear hcz82_0
                try clear hcz82_1
                try clear hcz82_2
                try clear hcz87_0
                try clear hcz87_1
                try clear hcz87_2
                try clear hcz8_0
                try clear hcz90_0
                try clear hcz90_1
                try clear hcz90_2
                try clear hfz16_0
                try clear hfz18_0
                try clear hfz24_0
                try clear hfz24_1
                try clear hfz24_2
                try clear hfz26_0
                try clear hfz32_0
                try clear hfz38_0
                try clear hfz38_1
                try clear hfz38_2
                try clear hfz45_0
                try clear hfz45_1
                try clear hfz45_2
                try clear hfz48_0
                try clear hfz48_1
                try clear hfz48_2
                try clear hfz53_0
                try clear hfz53_1
                try clear hfz53_2
                try clear hfz56_0
                try clear hfz56_1
                try clear hfz56_2
                try clear hfz71_0
                try clear hfz79_0
                try clear hfz79_1
                try clear hfz79_2
                try clear hfz82_0
                try clear hfz82_1
                try clear hfz82_2
                try clear hfz87_0
                try clear hfz87_1
                try clear hfz87_2
                try clear hfz8_0
                try clear hfz90_0
                try clear hfz90_1
                try clear hfz90_2
                try clear p2
                obtain ⟨kq, x68_62, rfl, HA, HJ62, HO_951002, HO_955000, HO_962002, BK939, BK950, BK954, BK961, HB⟩ := hcut
                have hl955000_62 := (Kd.R_reads' HO_955000.out).1
                rw [hl955000_62] at HO_955000
                (try simp only [hl955000_62])
                (try simp only [hl955000_62] at BK939)
                (try simp only [hl955000_62] at BK950)
                (try simp only [hl955000_62] at BK954)
                (try simp only [hl955000_62] at BK961)
                (try simp only [hl955000_62] at HO_951002)
                (try simp only [hl955000_62] at HO_962002)
                cases kq with
                | zero => exact absurd HA.out (by simp [laws_FnExactParseChange.j1])
                | succ kj62 =>
                  have H := HA.out
                  clear HA
                  simp only [laws_FnExactParseChange.j1] at H
                  by_cases c92 : x68_62 = true
                  · subst c92
                    have H1 : (some false) = some true := by rw [if_pos rfl] at H; exact H
                    clear H
                    have H := H1
                    clear H1
                    exact absurd (Option.some.inj H) (by decide)
                  · replace c92 := Bool.eq_false_iff.mpr c92
                    subst c92
                    have H1 : ((laws_markChange.f kj62 t955 t956 t957 1).bind fun bt970 => ((laws_heldChange.f kj62 t955 t956 bt970.2 1).bind fun t972 => (if t972 < 0 then (some false) else (if t972 = bt970.1 then ((laws_toSchema.f kj62 l0_0).bind fun t973 => ((impl_ParseChange.f kj62 t973 a1).bind fun bt976 => ((laws_eqChange.f kj62 bt976.1 bt976.2.1 bt976.2.2.1 t944 t945 t946).bind fun t983 => (if t983 = true then (laws_FnExactParseChange.j2 kj62 bt970.1 (bt976.2.2.2 != t949) t955 t956 bt970.2) else (laws_FnExactParseChange.j2 kj62 bt970.1 true t955 t956 bt970.2))))) else (some false))))) = some true := by rw [if_neg (show ¬ (false = true) by decide)] at H; exact H
                    clear H
                    have H := H1
                    clear H1
                    replace H := Option.bind_eq_some_iff.mp H
                    obtain ⟨⟨t970, t971⟩, A930, H⟩ := H
                    replace H : ((laws_heldChange.f kj62 t955 t956 t971 1).bind fun t972 => (if t972 < 0 then (some false) else (if t972 = t970 then ((laws_toSchema.f kj62 l0_0).bind fun t973 => ((impl_ParseChange.f kj62 t973 a1).bind fun bt976 => ((laws_eqChange.f kj62 bt976.1 bt976.2.1 bt976.2.2.1 t944 t945 t946).bind fun t983 => (if t983 = true then (laws_FnExactParseChange.j2 kj62 t970 (bt976.2.2.2 != t949) t955 t956 t971) else (laws_FnExactParseChange.j2 kj62 t970 true t955 t956 t971))))) else (some false)))) = some true := H
                    have A93 := Aside0.mk A930
                    clear A930
                    replace H := Option.bind_eq_some_iff.mp H
                    obtain ⟨t972, A940, H⟩ := H
                    replace H : (if t972 < 0 then (some false) else (if t972 = t970 then ((laws_toSchema.f kj62 l0_0).bind fun t973 => ((impl_ParseChange.f kj62 t973 a1).bind fun bt976 => ((laws_eqChange.f kj62 bt976.1 bt976.2.1 bt976.2.2.1 t944 t945 t946).bind fun t983 => (if t983 = true then (laws_FnExactParseChange.j2 kj62 t970 (bt976.2.2.2 != t949) t955 t956 t971) else (laws_FnExactParseChange.j2 kj62 t970 true t955 t956 t971))))) else (some false))) = some true := H
                    have A94 := Aside0.mk A940
                    clear A940
                    by_cases c95 : t972 < 0
                    · rw [if_pos c95] at H
                      have c95b0 : decide (t972 < 0) = true := decide_eq_true c95
                      clear c95
                      exact absurd (Option.some.inj H) (by decide)
                    · rw [if_neg c95] at H
                      have c95b0 : decide (t972 < 0) = false := decide_eq_false c95
                      clear c95
                      by_cases c103 : t972 = t970
                      · rw [if_pos c103] at H
                        have c103b0 : (t972 == t970) = true := beq_iff_eq.mpr c103
                        have c103b1 : (t972 != t970) = false := bne_eq_false_iff_eq.mpr c103
                        clear c103
                        replace H := Option.bind_eq_some_iff.mp H
                        obtain ⟨t973, A1040, H⟩ := H
                        replace H : ((impl_ParseChange.f kj62 t973 a1).bind fun bt976 => ((laws_eqChange.f kj62 bt976.1 bt976.2.1 bt976.2.2.1 t944 t945 t946).bind fun t983 => (if t983 = true then (laws_FnExactParseChange.j2 kj62 t970 (bt976.2.2.2 != t949) t955 t956 t971) else (laws_FnExactParseChange.j2 kj62 t970 true t955 t956 t971)))) = some true := H
                        have A104 := Aside0.mk A1040
                        clear A1040
                        replace H := Option.bind_eq_some_iff.mp H
                        obtain ⟨⟨t976, t977, t978, t981⟩, A1050, H⟩ := H
                        replace H : ((laws_eqChange.f kj62 t976 t977 t978 t944 t945 t946).bind fun t983 => (if t983 = true then (laws_FnExactParseChange.j2 kj62 t970 (t981 != t949) t955 t956 t971) else (laws_FnExactParseChange.j2 kj62 t970 true t955 t956 t971))) = some true := H
                        have A105 := Aside0.mk A1050
                        clear A1050
                        have HC106 := Aside0.mk H
                        clear H
                        have hnb107 := NB961_939.out
                        have hnc107 := NB939_961.out
                        have hnb108 := NB961_950.out
                        have hnc108 := NB950_961.out
                        have hnb109 := NB961_954.out
                        have hnc109 := NB954_961.out
                        have hcz110_0 : wc.cell? ⟨gb961, 0, none⟩ = some (.bool t955) := (blk_cell BK961.out 0).trans rfl
                        have hcz110_1 : wc.cell? ⟨gb961, 1, none⟩ = some (.int .i64 t956) := (blk_cell BK961.out 1).trans rfl
                        have hcz110_2 : wc.cell? ⟨gb961, 2, none⟩ = some (.slice Ao39 t957.length co39) := (blk_cell BK961.out 2).trans rfl
                        have hfz110_0 := blk_frozen BK961.out 0
                        have hfz110_1 := blk_frozen BK961.out 1
                        have hfz110_2 := blk_frozen BK961.out 2
                        go_upto_region 27 with (first | ((with_reducible refine gate_callee (f := 56) rfl ?_); refine goesL_ (some 71) rfl rfl Try.func56 (by kernel_rfl) rfl #[.agg #[.bool t955, .int .i64 t956, .slice Ao39 t957.length co39], .int .i64 1] rfl (by (try simp only [List.map_toArray, List.map_cons, List.map_nil]); first | done | rfl | (simp only [List.length_drop, List.length_take]; rfl)) ?_; (with_reducible refine (laws_markChange.calls kj62 t955 t956 (fun k_ => some k_ = (.slice Ao39 t957.length co39 : Value).ownBlock) (.slice Ao39 t957.length co39) t957 1 t970 t971 w _ ?side1 ?side2 A93.out).mono ?_); (case side1 => repeat (first | (with_reducible first | exact HB.out | apply below_alloc | apply pw_below_drewN | apply below_drew1 | refine below_set ?_ GE939.out | refine below_set ?_ GE950.out | refine below_set ?_ GE954.out | refine below_set ?_ GE961.out) | exact HB.out)); (case side2 => exact Kd.R_tight rfl HO_962002.out); rintro e w111 ⟨rfl, hy0, hb, hkp⟩; refine ⟨_, rfl, ?_⟩; have n0_ := Aside0.mk (Kd.R_mono (ok' := fun k_ => some k_ ≠ (.slice Ao29 t968.length co29 : Value).ownBlock ∧ some k_ ≠ (.slice Ao39 t957.length co39 : Value).ownBlock) (Kd.R_keptB (HO_951002.out) hkp (fun k_ hk_ hs_ => (hk_.2) hs_)) (fun k_ hk_ => ⟨hk_.1.1, hk_.1.2⟩)); have n1_ := Aside0.mk (Kd.R_mono (ok' := fun k_ => some k_ ≠ (.slice Ao25 t946.length co25 : Value).ownBlock ∧ some k_ ≠ (.slice Ao39 t957.length co39 : Value).ownBlock) (Kd.R_keptB (HO_955000.out) hkp (fun k_ hk_ hs_ => (hk_.2) hs_)) (fun k_ hk_ => ⟨hk_.1.1, hk_.1.2⟩)); have n2_ := Aside0.mk (Kd.R_reok rfl hy0 (fun k_ e_ => HO_962002.out.1 k_ e_)); have n3_ := Aside0.mk (blk_kept (by (with_reducible repeat (first | refine blk_drewN ?_ _ | refine blk_drew ?_ | refine blk_alloc ?_ _)); exact BK939.out) hkp (fun hs_ => (fun e_ => (Kd.R_ne HO_962002.out BK939.out (by decide)) e_) hs_)); have n4_ := Aside0.mk (blk_kept (by (with_reducible repeat (first | refine blk_drewN ?_ _ | refine blk_drew ?_ | refine blk_alloc ?_ _)); exact BK950.out) hkp (fun hs_ => (fun e_ => (Kd.R_ne HO_962002.out BK950.out (by decide)) e_) hs_)); have n5_ := Aside0.mk (blk_kept (by (with_reducible repeat (first | refine blk_drewN ?_ _ | refine blk_drew ?_ | refine blk_alloc ?_ _)); exact BK954.out) hkp (fun hs_ => (fun e_ => (Kd.R_ne HO_962002.out BK954.out (by decide)) e_) hs_)); have n6_ := Aside0.mk (blk_kept (by (with_reducible repeat (first | refine blk_drewN ?_ _ | refine blk_drew ?_ | refine blk_alloc ?_ _)); exact BK961.out) hkp (fun hs_ => (fun e_ => (Kd.R_ne HO_962002.out BK961.out (by decide)) e_) hs_)); have n7_ := Aside0.mk (hb); clear HO_951002; clear HO_955000; clear HO_962002; clear BK939; clear BK950; clear BK954; clear BK961; clear HB; have HO_951002 := n0_; have HO_955000 := n1_; have HO_962002 := n2_; have BK939 := n3_; have BK950 := n4_; have BK954 := n5_; have BK961 := n6_; have HB := n7_; clear n0_ n1_ n2_ n3_ n4_ n5_ n6_ n7_; (try clear hb); (try clear hkp); (try clear hy0); have hcz112_0 : w111.cell? ⟨gb961, 0, none⟩ = some (.bool t955) := (blk_cell BK961.out 0).trans rfl; have hcz112_1 : w111.cell? ⟨gb961, 1, none⟩ = some (.int .i64 t956) := (blk_cell BK961.out 1).trans rfl; have hcz112_2 : w111.cell? ⟨gb961, 2, none⟩ = some (.slice Ao39 t957.length co39) := (blk_cell BK961.out 2).trans rfl; have hfz112_0 := blk_frozen BK961.out 0; have hfz112_1 := blk_frozen BK961.out 1; have hfz112_2 := blk_frozen BK961.out 2) | ((with_reducible refine gate_callee (f := 57) rfl ?_); refine goesL_ (some 74) rfl rfl Try.func57 (by kernel_rfl) rfl #[.agg #[.bool t955, .int .i64 t956, .slice Ao39 t971.length co39], .int .i64 1] rfl (by (try simp only [List.map_toArray, List.map_cons, List.map_nil]); first | done | (rw [show t971.length = t957.length from (Kd.R_reads' HO_962002.out).1.symm] <;> rfl) | rfl | (simp only [List.length_drop, List.length_take]; rfl)) ?_; (with_reducible refine (laws_heldChange.calls kj62 t955 t956 _ _ t971 1 t972 _ ?side1 ?side2 A94.out).mono ?_); (case side1 => repeat (first | exact (Kd.R_reads' HO_962002.out).2.2 | (with_reducible refine Kd.C_alloc ?_ _) | (with_reducible refine Kd.C_drewN ?_ _) | (with_reducible refine Kd.C_drew ?_))); (case side2 => rw [show t971.length = t957.length from (Kd.R_reads' HO_962002.out).1.symm]; exact (Kd.R_reads' HO_962002.out).2.1); rintro e w113 ⟨rfl, hb⟩; refine ⟨_, rfl, ?_⟩; have n0_ := Aside0.mk (Kd.R_below (by (with_reducible repeat (first | apply Kd.R_alloc | apply Kd.R_drewN | apply Kd.R_drew)); exact HO_951002.out) hb); have n1_ := Aside0.mk (Kd.R_below (by (with_reducible repeat (first | apply Kd.R_alloc | apply Kd.R_drewN | apply Kd.R_drew)); exact HO_955000.out) hb); have n2_ := Aside0.mk (Kd.R_below (by (with_reducible repeat (first | apply Kd.R_alloc | apply Kd.R_drewN | apply Kd.R_drew)); exact HO_962002.out) hb); have n3_ := Aside0.mk (blk_below (g := gb939) (o := .cells #[.slice A0_0 l0_0.length c0_0] 79 (0, 0)) (by (with_reducible repeat (first | refine blk_drewN ?_ _ | refine blk_drew ?_ | refine blk_alloc ?_ _)); exact BK939.out) hb); have n4_ := Aside0.mk (blk_below (g := gb950) (o := .cells #[.bool t944, .int .i64 t945, .slice Ao25 t946.length co25] 84 (0, 0)) (by (with_reducible repeat (first | refine blk_drewN ?_ _ | refine blk_drew ?_ | refine blk_alloc ?_ _)); exact BK950.out) hb); have n5_ := Aside0.mk (blk_below (g := gb954) (o := .cells #[.slice Ao29 t968.length co29] 87 (0, 0)) (by (with_reducible repeat (first | refine blk_drewN ?_ _ | refine blk_drew ?_ | refine blk_alloc ?_ _)); exact BK954.out) hb); have n6_ := Aside0.mk (blk_below (g := gb961) (o := .cells #[.bool t955, .int .i64 t956, .slice Ao39 t957.length co39] 84 (0, 0)) (by (with_reducible repeat (first | refine blk_drewN ?_ _ | refine blk_drew ?_ | refine blk_alloc ?_ _)); exact BK961.out) hb); have n7_ := Aside0.mk (below_step (by repeat (first | (with_reducible first | exact HB.out | apply below_alloc | apply pw_below_drewN | apply below_drew1 | refine below_set ?_ GE939.out | refine below_set ?_ GE950.out | refine below_set ?_ GE954.out | refine below_set ?_ GE961.out) | exact HB.out)) hb); clear HO_951002; clear HO_955000; clear HO_962002; clear BK939; clear BK950; clear BK954; clear BK961; clear HB; have HO_951002 := n0_; have HO_955000 := n1_; have HO_962002 := n2_; have BK939 := n3_; have BK950 := n4_; have BK954 := n5_; have BK961 := n6_; have HB := n7_; clear n0_ n1_ n2_ n3_ n4_ n5_ n6_ n7_; (try clear hb); (try clear hb2); (try clear hk); (try clear hi); have hnb114 := NB939_950.out; have hnc114 := NB950_939.out; have hnb115 := NB939_954.out; have hnc115 := NB954_939.out; have hcz116_0 : w113.cell? ⟨gb939, 0, none⟩ = some (.slice A0_0 l0_0.length c0_0) := (blk_cell BK939.out 0).trans rfl; have hfz116_0 := blk_frozen BK939.out 0) | ((with_reducible refine gate_callee (f := 51) rfl ?_); refine goesL_ (some 82) rfl rfl Try.func51 (by kernel_rfl) rfl #[.agg #[.slice A0_0 l0_0.length c0_0]] rfl (by (try simp only [List.map_toArray, List.map_cons, List.map_nil]); first | done | rfl | (simp only [List.length_drop, List.length_take]; rfl)) ?_; (with_reducible refine (laws_toSchema.calls kj62 _ _ l0_0 t973 _ ?side1 ?side2 A104.out).mono ?_); (case side1 => repeat (first | exact (Kd.C_below HR0_0.out HB.out) | (with_reducible refine Kd.C_alloc ?_ _) | (with_reducible refine Kd.C_drewN ?_ _) | (with_reducible refine Kd.C_drew ?_))); (case side2 => exact HC0_0.out); rintro e w117 ⟨v974, rfl, ho0, hb⟩; refine ⟨_, rfl, ?_⟩; have n0_ := Aside0.mk (Kd.R_elder' (by (with_reducible repeat (first | apply Kd.R_alloc | apply Kd.R_drewN | apply Kd.R_drew)); exact HO_951002.out) (Kd.R_base ho0) hb); have n1_ := Aside0.mk (Kd.R_elder' (by (with_reducible repeat (first | apply Kd.R_alloc | apply Kd.R_drewN | apply Kd.R_drew)); exact HO_955000.out) (Kd.R_base ho0) hb); have n2_ := Aside0.mk (Kd.R_elder' (by (with_reducible repeat (first | apply Kd.R_alloc | apply Kd.R_drewN | apply Kd.R_drew)); exact HO_962002.out) (Kd.R_base ho0) hb); have n3_ := Aside0.mk (Kd.R_lower (Kd.R_new' (Kd.R_new' (Kd.R_new' ho0 (Kd.R_lt (by (with_reducible repeat (first | apply Kd.R_alloc | apply Kd.R_drewN | apply Kd.R_drew)); exact HO_951002.out))) (Kd.R_lt (by (with_reducible repeat (first | apply Kd.R_alloc | apply Kd.R_drewN | apply Kd.R_drew)); exact HO_955000.out))) (Kd.R_lt (by (with_reducible repeat (first | apply Kd.R_alloc | apply Kd.R_drewN | apply Kd.R_drew)); exact HO_962002.out))) (below_size (by repeat (first | (with_reducible first | exact HB.out | apply below_alloc | apply pw_below_drewN | apply below_drew1 | refine below_set ?_ GE939.out | refine below_set ?_ GE950.out | refine below_set ?_ GE954.out | refine below_set ?_ GE961.out) | exact HB.out)))); have n4_ := Aside0.mk (blk_below (g := gb939) (o := .cells #[.slice A0_0 l0_0.length c0_0] 79 (0, 0)) (by (with_reducible repeat (first | refine blk_drewN ?_ _ | refine blk_drew ?_ | refine blk_alloc ?_ _)); exact BK939.out) hb); have n5_ := Aside0.mk (blk_below (g := gb950) (o := .cells #[.bool t944, .int .i64 t945, .slice Ao25 t946.length co25] 84 (0, 0)) (by (with_reducible repeat (first | refine blk_drewN ?_ _ | refine blk_drew ?_ | refine blk_alloc ?_ _)); exact BK950.out) hb); have n6_ := Aside0.mk (blk_below (g := gb954) (o := .cells #[.slice Ao29 t968.length co29] 87 (0, 0)) (by (with_reducible repeat (first | refine blk_drewN ?_ _ | refine blk_drew ?_ | refine blk_alloc ?_ _)); exact BK954.out) hb); have n7_ := Aside0.mk (blk_below (g := gb961) (o := .cells #[.bool t955, .int .i64 t956, .slice Ao39 t957.length co39] 84 (0, 0)) (by (with_reducible repeat (first | refine blk_drewN ?_ _ | refine blk_drew ?_ | refine blk_alloc ?_ _)); exact BK961.out) hb); have n8_ := Aside0.mk (below_step (by repeat (first | (with_reducible first | exact HB.out | apply below_alloc | apply pw_below_drewN | apply below_drew1 | refine below_set ?_ GE939.out | refine below_set ?_ GE950.out | refine below_set ?_ GE954.out | refine below_set ?_ GE961.out) | exact HB.out)) hb); clear HO_951002; clear HO_955000; clear HO_962002; clear BK939; clear BK950; clear BK954; clear BK961; clear HB; have HO_951002 := n0_; have HO_955000 := n1_; have HO_962002 := n2_; have HO975 := n3_; have BK939 := n4_; have BK950 := n5_; have BK954 := n6_; have BK961 := n7_; have HB := n8_; clear n0_ n1_ n2_ n3_ n4_ n5_ n6_ n7_ n8_; (try clear hb); (try clear hb2); (try clear hk); (try clear hi); (try clear ho0); obtain ⟨Ao118, co118, eo118⟩ := Kd.R_slice HO975.out; subst eo118) | ((with_reducible refine gate_callee (f := 52) rfl ?_); refine goesL_ (some 84) rfl rfl Try.func52 (by kernel_rfl) rfl #[.agg #[.slice Ao118 t973.length co118], .string a1] rfl (by (try simp only [List.map_toArray, List.map_cons, List.map_nil]); first | done | rfl | (simp only [List.length_drop, List.length_take]; rfl)) ?_; (with_reducible refine (impl_ParseChange.calls kj62 _ _ t973 a1 t976 t977 t978 t981 _ ?side1 ?side2 A105.out).mono ?_); (case side1 => repeat (first | exact (Kd.R_reads' HO975.out).2.2 | (with_reducible refine Kd.C_alloc ?_ _) | (with_reducible refine Kd.C_drewN ?_ _) | (with_reducible refine Kd.C_drew ?_))); (case side2 => exact (Kd.R_reads' HO975.out).2.1); rintro e w119 ⟨v979, rfl, ho0, hb⟩; refine ⟨_, rfl, ?_⟩; have n0_ := Aside0.mk (Kd.R_elder' (by (with_reducible repeat (first | apply Kd.R_alloc | apply Kd.R_drewN | apply Kd.R_drew)); exact HO_951002.out) (Kd.R_base ho0) hb); have n1_ := Aside0.mk (Kd.R_elder' (by (with_reducible repeat (first | apply Kd.R_alloc | apply Kd.R_drewN | apply Kd.R_drew)); exact HO_955000.out) (Kd.R_base ho0) hb); have n2_ := Aside0.mk (Kd.R_elder' (by (with_reducible repeat (first | apply Kd.R_alloc | apply Kd.R_drewN | apply Kd.R_drew)); exact HO_962002.out) (Kd.R_base ho0) hb); have n3_ := Aside0.mk (Kd.R_elder' (by (with_reducible repeat (first | apply Kd.R_alloc | apply Kd.R_drewN | apply Kd.R_drew)); exact HO975.out) (Kd.R_base ho0) hb); have n4_ := Aside0.mk (Kd.R_lower (Kd.R_new' (Kd.R_new' (Kd.R_new' (Kd.R_new' ho0 (Kd.R_lt (by (with_reducible repeat (first | apply Kd.R_alloc | apply Kd.R_drewN | apply Kd.R_drew)); exact HO_951002.out))) (Kd.R_lt (by (with_reducible repeat (first | apply Kd.R_alloc | apply Kd.R_drewN | apply Kd.R_drew)); exact HO_955000.out))) (Kd.R_lt (by (with_reducible repeat (first | apply Kd.R_alloc | apply Kd.R_drewN | apply Kd.R_drew)); exact HO_962002.out))) (Kd.R_lt (by (with_reducible repeat (first | apply Kd.R_alloc | apply Kd.R_drewN | apply Kd.R_drew)); exact HO975.out))) (below_size (by repeat (first | (with_reducible first | exact HB.out | apply below_alloc | apply pw_below_drewN | apply below_drew1 | refine below_set ?_ GE939.out | refine below_set ?_ GE950.out | refine below_set ?_ GE954.out | refine below_set ?_ GE961.out) | exact HB.out)))); have n5_ := Aside0.mk (blk_below (g := gb939) (o := .cells #[.slice A0_0 l0_0.length c0_0] 79 (0, 0)) (by (with_reducible repeat (first | refine blk_drewN ?_ _ | refine blk_drew ?_ | refine blk_alloc ?_ _)); exact BK939.out) hb); have n6_ := Aside0.mk (blk_below (g := gb950) (o := .cells #[.bool t944, .int .i64 t945, .slice Ao25 t946.length co25] 84 (0, 0)) (by (with_reducible repeat (first | refine blk_drewN ?_ _ | refine blk_drew ?_ | refine blk_alloc ?_ _)); exact BK950.out) hb); have n7_ := Aside0.mk (blk_below (g := gb954) (o := .cells #[.slice Ao29 t968.length co29] 87 (0, 0)) (by (with_reducible repeat (first | refine blk_drewN ?_ _ | refine blk_drew ?_ | refine blk_alloc ?_ _)); exact BK954.out) hb); have n8_ := Aside0.mk (blk_below (g := gb961) (o := .cells #[.bool t955, .int .i64 t956, .slice Ao39 t957.length co39] 84 (0, 0)) (by (with_reducible repeat (first | refine blk_drewN ?_ _ | refine blk_drew ?_ | refine blk_alloc ?_ _)); exact BK961.out) hb); have n9_ := Aside0.mk (below_step (by repeat (first | (with_reducible first | exact HB.out | apply below_alloc | apply pw_below_drewN | apply below_drew1 | refine below_set ?_ GE939.out | refine below_set ?_ GE950.out | refine below_set ?_ GE954.out | refine below_set ?_ GE961.out) | exact HB.out)) hb); clear HO_951002; clear HO_955000; clear HO_962002; clear HO975; clear BK939; clear BK950; clear BK954; clear BK961; clear HB; have HO_951002 := n0_; have HO_955000 := n1_; have HO_962002 := n2_; have HO975 := n3_; have HO980 := n4_; have BK939 := n5_; have BK950 := n6_; have BK954 := n7_; have BK961 := n8_; have HB := n9_; clear n0_ n1_ n2_ n3_ n4_ n5_ n6_ n7_ n8_ n9_; (try clear hb); (try clear hb2); (try clear hk); (try clear hi); (try clear ho0)) | ((with_reducible refine gate_dst (N := 14) rfl ?_); refine box_event ?hg (N := 14) ?hd (cs := #[.bool false, .int .i64 0, .slice none 0 0]) (t := 84) ?hr ?_; (case hd => rfl); (case hg => rfl); (case hr => first | (go_simp; done) | (go_simp; rfl)); intro gb982 hg w120 hbox hb; have n0_ := Aside0.mk (Kd.R_below (by (with_reducible repeat (first | apply Kd.R_alloc | apply Kd.R_drewN | apply Kd.R_drew)); exact HO_951002.out) hb); have n1_ := Aside0.mk (Kd.R_below (by (with_reducible repeat (first | apply Kd.R_alloc | apply Kd.R_drewN | apply Kd.R_drew)); exact HO_955000.out) hb); have n2_ := Aside0.mk (Kd.R_below (by (with_reducible repeat (first | apply Kd.R_alloc | apply Kd.R_drewN | apply Kd.R_drew)); exact HO_962002.out) hb); have n3_ := Aside0.mk (Kd.R_below (by (with_reducible repeat (first | apply Kd.R_alloc | apply Kd.R_drewN | apply Kd.R_drew)); exact HO975.out) hb); have n4_ := Aside0.mk (Kd.R_below (by (with_reducible repeat (first | apply Kd.R_alloc | apply Kd.R_drewN | apply Kd.R_drew)); exact HO980.out) hb); have n5_ := Aside0.mk (blk_below (g := gb939) (o := .cells #[.slice A0_0 l0_0.length c0_0] 79 (0, 0)) (by (with_reducible repeat (first | refine blk_drewN ?_ _ | refine blk_drew ?_ | refine blk_alloc ?_ _)); exact BK939.out) hb); have n6_ := Aside0.mk (blk_below (g := gb950) (o := .cells #[.bool t944, .int .i64 t945, .slice Ao25 t946.length co25] 84 (0, 0)) (by (with_reducible repeat (first | refine blk_drewN ?_ _ | refine blk_drew ?_ | refine blk_alloc ?_ _)); exact BK950.out) hb); have n7_ := Aside0.mk (blk_below (g := gb954) (o := .cells #[.slice Ao29 t968.length co29] 87 (0, 0)) (by (with_reducible repeat (first | refine blk_drewN ?_ _ | refine blk_drew ?_ | refine blk_alloc ?_ _)); exact BK954.out) hb); have n8_ := Aside0.mk (blk_below (g := gb961) (o := .cells #[.bool t955, .int .i64 t956, .slice Ao39 t957.length co39] 84 (0, 0)) (by (with_reducible repeat (first | refine blk_drewN ?_ _ | refine blk_drew ?_ | refine blk_alloc ?_ _)); exact BK961.out) hb); have n9_ := Aside0.mk (below_step (by repeat (first | (with_reducible first | exact HB.out | apply below_alloc | apply pw_below_drewN | apply below_drew1 | refine below_set ?_ GE939.out | refine below_set ?_ GE950.out | refine below_set ?_ GE954.out | refine below_set ?_ GE961.out) | exact HB.out)) hb); have n10_ := Aside0.mk (hbox); have n11_ := Aside0.mk ((by rw [hg]; exact (below_size (by repeat (first | (with_reducible first | exact HB.out | apply below_alloc | apply pw_below_drewN | apply below_drew1 | refine below_set ?_ GE939.out | refine below_set ?_ GE950.out | refine below_set ?_ GE954.out | refine below_set ?_ GE961.out) | exact HB.out))) : w.heap.size ≤ gb982)); have n12_ := Aside0.mk ((by rw [hg]; exact (below_size (by repeat (first | (with_reducible first | exact HB.out | apply below_alloc | apply pw_below_drewN | apply below_drew1 | refine below_set ?_ GE939.out | refine below_set ?_ GE950.out | refine below_set ?_ GE954.out | refine below_set ?_ GE961.out) | exact HB.out))) : w.heap.size ≤ gb982)); have n13_ := Aside0.mk ((by rw [hg]; exact Nat.ne_of_lt (blk_lt (g := gb939) (o := .cells #[.slice A0_0 l0_0.length c0_0] 79 (0, 0)) (by (with_reducible repeat (first | refine blk_drewN ?_ _ | refine blk_drew ?_ | refine blk_alloc ?_ _)); exact BK939.out)) : gb939 ≠ gb982)); have n14_ := Aside0.mk ((by rw [hg]; exact Nat.ne_of_gt (blk_lt (g := gb939) (o := .cells #[.slice A0_0 l0_0.length c0_0] 79 (0, 0)) (by (with_reducible repeat (first | refine blk_drewN ?_ _ | refine blk_drew ?_ | refine blk_alloc ?_ _)); exact BK939.out)) : gb982 ≠ gb939)); have n15_ := Aside0.mk ((by rw [hg]; exact Nat.ne_of_lt (blk_lt (g := gb950) (o := .cells #[.bool t944, .int .i64 t945, .slice Ao25 t946.length co25] 84 (0, 0)) (by (with_reducible repeat (first | refine blk_drewN ?_ _ | refine blk_drew ?_ | refine blk_alloc ?_ _)); exact BK950.out)) : gb950 ≠ gb982)); have n16_ := Aside0.mk ((by rw [hg]; exact Nat.ne_of_gt (blk_lt (g := gb950) (o := .cells #[.bool t944, .int .i64 t945, .slice Ao25 t946.length co25] 84 (0, 0)) (by (with_reducible repeat (first | refine blk_drewN ?_ _ | refine blk_drew ?_ | refine blk_alloc ?_ _)); exact BK950.out)) : gb982 ≠ gb950)); have n17_ := Aside0.mk ((by rw [hg]; exact Nat.ne_of_lt (blk_lt (g := gb954) (o := .cells #[.slice Ao29 t968.length co29] 87 (0, 0)) (by (with_reducible repeat (first | refine blk_drewN ?_ _ | refine blk_drew ?_ | refine blk_alloc ?_ _)); exact BK954.out)) : gb954 ≠ gb982)); have n18_ := Aside0.mk ((by rw [hg]; exact Nat.ne_of_gt (blk_lt (g := gb954) (o := .cells #[.slice Ao29 t968.length co29] 87 (0, 0)) (by (with_reducible repeat (first | refine blk_drewN ?_ _ | refine blk_drew ?_ | refine blk_alloc ?_ _)); exact BK954.out)) : gb982 ≠ gb954)); have n19_ := Aside0.mk ((by rw [hg]; exact Nat.ne_of_lt (blk_lt (g := gb961) (o := .cells #[.bool t955, .int .i64 t956, .slice Ao39 t957.length co39] 84 (0, 0)) (by (with_reducible repeat (first | refine blk_drewN ?_ _ | refine blk_drew ?_ | refine blk_alloc ?_ _)); exact BK961.out)) : gb961 ≠ gb982)); have n20_ := Aside0.mk ((by rw [hg]; exact Nat.ne_of_gt (blk_lt (g := gb961) (o := .cells #[.bool t955, .int .i64 t956, .slice Ao39 t957.length co39] 84 (0, 0)) (by (with_reducible repeat (first | refine blk_drewN ?_ _ | refine blk_drew ?_ | refine blk_alloc ?_ _)); exact BK961.out)) : gb982 ≠ gb961)); clear HO_951002; clear HO_955000; clear HO_962002; clear HO975; clear HO980; clear BK939; clear BK950; clear BK954; clear BK961; clear HB; have HO_951002 := n0_; have HO_955000 := n1_; have HO_962002 := n2_; have HO975 := n3_; have HO980 := n4_; have BK939 := n5_; have BK950 := n6_; have BK954 := n7_; have BK961 := n8_; have HB := n9_; have BK982 := n10_; have GW982 := n11_; have GE982 := n12_; have NB939_982 := n13_; have NB982_939 := n14_; have NB950_982 := n15_; have NB982_950 := n16_; have NB954_982 := n17_; have NB982_954 := n18_; have NB961_982 := n19_; have NB982_961 := n20_; clear n0_ n1_ n2_ n3_ n4_ n5_ n6_ n7_ n8_ n9_ n10_ n11_ n12_ n13_ n14_ n15_ n16_ n17_ n18_ n19_ n20_; clear hb hbox hg; have hnb121 := NB982_939.out; have hnc121 := NB939_982.out; have hnb122 := NB982_950.out; have hnc122 := NB950_982.out; have hnb123 := NB982_954.out; have hnc123 := NB954_982.out; have hnb124 := NB982_961.out; have hnc124 := NB961_982.out; have hcz125_0 : w120.cell? ⟨gb982, 0, none⟩ = some (.bool false) := (blk_cell BK982.out 0).trans rfl; have hcz125_1 : w120.cell? ⟨gb982, 1, none⟩ = some (.int .i64 0) := (blk_cell BK982.out 1).trans rfl; have hcz125_2 : w120.cell? ⟨gb982, 2, none⟩ = some (.slice none 0 0) := (blk_cell BK982.out 2).trans rfl; have hfz125_0 := blk_frozen BK982.out 0; have hfz125_1 := blk_frozen BK982.out 1; have hfz125_2 := blk_frozen BK982.out 2; obtain ⟨Ao126, co126, eo126⟩ := Kd.R_slice HO980.out; subst eo126))
                        (try simp only [Act.put, List.setIfInBounds_toArray, List.set_cons_zero, List.set_cons_succ])
                        go_cut [95] (fun v95 wc => ∃ (kq : Nat) (x95_105 : Bool), v95 = .bool x95_105 ∧ Aside0 (laws_FnExactParseChange.j2 kq t970 x95_105 t955 t956 t971 = some true) ∧ Aside0 (kq ≤ kj62) ∧ Aside0 (Kd.R (Kd.int .i64) 3 wc w.heap.size (fun k_ => some k_ ≠ ((.slice Ao29 t968.length co29) : Value).ownBlock ∧ some k_ ≠ ((.slice Ao39 t957.length co39) : Value).ownBlock ∧ some k_ ≠ ((.slice Ao126 t978.length co126) : Value).ownBlock) (.slice Ao25 t946.length co25) t946) ∧ Aside0 (Kd.R (Kd.int .i64) 3 wc w.heap.size (fun k_ => some k_ ≠ ((.slice Ao25 t946.length co25) : Value).ownBlock ∧ some k_ ≠ ((.slice Ao39 t957.length co39) : Value).ownBlock ∧ some k_ ≠ ((.slice Ao126 t978.length co126) : Value).ownBlock) (.slice Ao29 t968.length co29) t968) ∧ Aside0 (Kd.R (Kd.int .i64) 3 wc w.heap.size (fun k_ => some k_ ≠ ((.slice Ao25 t946.length co25) : Value).ownBlock ∧ some k_ ≠ ((.slice Ao29 t968.length co29) : Value).ownBlock ∧ some k_ ≠ ((.slice Ao126 t978.length co126) : Value).ownBlock) (.slice Ao39 t957.length co39) t971) ∧ Aside0 (Kd.R (Kd.int .i64) 3 wc w.heap.size (fun k_ => some k_ ≠ ((.slice Ao25 t946.length co25) : Value).ownBlock ∧ some k_ ≠ ((.slice Ao29 t968.length co29) : Value).ownBlock ∧ some k_ ≠ ((.slice Ao39 t957.length co39) : Value).ownBlock) (.slice Ao126 t978.length co126) t978) ∧ Aside0 (wc.heap[gb939]? = some (.cells #[(.slice A0_0 l0_0.length c0_0)] 79 (0, 0))) ∧ Aside0 (wc.heap[gb950]? = some (.cells #[.bool t944, .int .i64 t945, (.slice Ao25 t946.length co25)] 84 (0, 0))) ∧ Aside0 (wc.heap[gb954]? = some (.cells #[(.slice Ao29 t968.length co29)] 87 (0, 0))) ∧ Aside0 (wc.heap[gb961]? = some (.cells #[.bool t955, .int .i64 t956, (.slice Ao39 t957.length co39)] 84 (0, 0))) ∧ Aside0 (wc.heap[gb982]? = some (.cells #[.bool t976, .int .i64 t977, (.slice Ao126 t978.length co126)] 84 (0, 0))) ∧ Aside0 (Below w.heap.size w wc))
                        case first =>
                          have H := HC106.out
                          clear HC106
                          replace H := Option.bind_eq_some_iff.mp H
                          obtain ⟨t983, A1270, H⟩ := H
                          replace H : (if t983 = true then (laws_FnExactParseChange.j2 kj62 t970 (t981 != t949) t955 t956 t971) else (laws_FnExactParseChange.j2 kj62 t970 true t955 t956 t971)) = some true := H
                          have A127 := Aside0.mk A1270
                          clear A1270
                          by_cases c128 : t983 = true
                          · subst c128
                            have H1 : (laws_FnExactParseChange.j2 kj62 t970 (t981 != t949) t955 t956 t971) = some true := by rw [if_pos rfl] at H; exact H
                            clear H
                            have H := H1
                            clear H1
                            have H' := Aside0.mk H
                            clear H
                            have hnb129 := NB982_939.out
                            have hnc129 := NB939_982.out
                            have hnb130 := NB982_950.out
                            have hnc130 := NB950_982.out
                            have hnb131 := NB982_954.out
                            have hnc131 := NB954_982.out
                            have hnb132 := NB982_961.out
                            have hnc132 := NB961_982.out
                            have hcz133_0 : w120.cell? ⟨gb982, 0, none⟩ = some (.bool false) := (blk_cell BK982.out 0).trans rfl
                            have hcz133_1 : w120.cell? ⟨gb982, 1, none⟩ = some (.int .i64 0) := (blk_cell BK982.out 1).trans rfl
                            have hcz133_2 : w120.cell? ⟨gb982, 2, none⟩ = some (.slice none 0 0) := (blk_cell BK982.out 2).trans rfl
                            have hfz133_0 := blk_frozen BK982.out 0
                            have hfz133_1 := blk_frozen BK982.out 1
                            have hfz133_2 := blk_frozen BK982.out 2
                            have hnb134 := NB950_939.out
                            have hnc134 := NB939_950.out
                            have hnb135 := NB950_954.out
                            have hnc135 := NB954_950.out
                            have hnb136 := NB950_961.out
                            have hnc136 := NB961_950.out
                            have hcz137_0 : w120.cell? ⟨gb950, 0, none⟩ = some (.bool t944) := (blk_cell BK950.out 0).trans rfl
                            have hcz137_1 : w120.cell? ⟨gb950, 1, none⟩ = some (.int .i64 t945) := (blk_cell BK950.out 1).trans rfl
                            have hcz137_2 : w120.cell? ⟨gb950, 2, none⟩ = some (.slice Ao25 t946.length co25) := (blk_cell BK950.out 2).trans rfl
                            have hfz137_0 := blk_frozen BK950.out 0
                            have hfz137_1 := blk_frozen BK950.out 1
                            have hfz137_2 := blk_frozen BK950.out 2
                            go_wp2_with (first | ((with_reducible refine gate_callee (f := 53) rfl ?_); refine goesL_ (some 89) rfl rfl Try.func53 (by kernel_rfl) rfl #[.agg #[.bool t976, .int .i64 t977, .slice Ao126 t978.length co126], .agg #[.bool t944, .int .i64 t945, .slice Ao25 t946.length co25]] rfl (by (try simp only [List.map_toArray, List.map_cons, List.map_nil]); first | done | rfl | (simp only [List.length_drop, List.length_take]; rfl)) ?_; (with_reducible refine (laws_eqChange.calls kj62 t976 t977 _ _ t978 t944 t945 _ _ t946 true _ ?side1 ?side2 ?side3 ?side4 A127.out).mono ?_); (case side1 => refine (Kd.R_reads' (e := 3) (base := w.heap.size) (ok := fun k_ => ((((True ∧ some k_ ≠ (.slice Ao25 t946.length co25 : Value).ownBlock) ∧ some k_ ≠ (.slice Ao29 t968.length co29 : Value).ownBlock) ∧ some k_ ≠ (.slice Ao39 t957.length co39 : Value).ownBlock) ∧ some k_ ≠ (.slice Ao118 t973.length co118 : Value).ownBlock)) (n := t978.length) (c := co126) ?_).2.2; exact (by (with_reducible repeat (first | apply Kd.R_alloc | apply Kd.R_drewN | apply Kd.R_drew)); exact (Kd.R_mono (Kd.R_far (p := ⟨gb982, 2, none⟩) (Kd.R_far (p := ⟨gb982, 1, none⟩) (Kd.R_far (p := ⟨gb982, 0, none⟩) (Kd.R_types HO980.out BK982.out (by decide)) (fun _ hk => hk.2) (.bool t976)) (fun _ hk => hk.2) (.int .i64 t977)) (fun _ hk => hk.2) (.slice Ao126 t978.length co126)) (fun _ h_ => h_.1)))); (case side2 => exact (Kd.R_reads' HO980.out).2.1); (case side3 => refine (Kd.R_reads' (e := 3) (base := w.heap.size) (ok := fun k_ => (((some k_ ≠ (.slice Ao29 t968.length co29 : Value).ownBlock ∧ some k_ ≠ (.slice Ao39 t957.length co39 : Value).ownBlock) ∧ some k_ ≠ (.slice Ao118 t973.length co118 : Value).ownBlock) ∧ some k_ ≠ (.slice Ao126 t978.length co126 : Value).ownBlock)) (n := t946.length) (c := co25) ?_).2.2; exact (by (with_reducible repeat (first | apply Kd.R_alloc | apply Kd.R_drewN | apply Kd.R_drew)); exact (Kd.R_mono (Kd.R_far (p := ⟨gb982, 2, none⟩) (Kd.R_far (p := ⟨gb982, 1, none⟩) (Kd.R_far (p := ⟨gb982, 0, none⟩) (Kd.R_types HO_951002.out BK982.out (by decide)) (fun _ hk => hk.2) (.bool t976)) (fun _ hk => hk.2) (.int .i64 t977)) (fun _ hk => hk.2) (.slice Ao126 t978.length co126)) (fun _ h_ => h_.1)))); (case side4 => exact (Kd.R_reads' HO_951002.out).2.1); rintro e w138 ⟨rfl, hb⟩; refine ⟨_, rfl, ?_⟩; have n0_ := Aside0.mk (Kd.R_below (by (with_reducible repeat (first | apply Kd.R_alloc | apply Kd.R_drewN | apply Kd.R_drew)); exact (Kd.R_mono (Kd.R_far (p := ⟨gb982, 2, none⟩) (Kd.R_far (p := ⟨gb982, 1, none⟩) (Kd.R_far (p := ⟨gb982, 0, none⟩) (Kd.R_types HO_951002.out BK982.out (by decide)) (fun _ hk => hk.2) (.bool t976)) (fun _ hk => hk.2) (.int .i64 t977)) (fun _ hk => hk.2) (.slice Ao126 t978.length co126)) (fun _ h_ => h_.1))) hb); have n1_ := Aside0.mk (Kd.R_below (by (with_reducible repeat (first | apply Kd.R_alloc | apply Kd.R_drewN | apply Kd.R_drew)); exact (Kd.R_mono (Kd.R_far (p := ⟨gb982, 2, none⟩) (Kd.R_far (p := ⟨gb982, 1, none⟩) (Kd.R_far (p := ⟨gb982, 0, none⟩) (Kd.R_types HO_955000.out BK982.out (by decide)) (fun _ hk => hk.2) (.bool t976)) (fun _ hk => hk.2) (.int .i64 t977)) (fun _ hk => hk.2) (.slice Ao126 t978.length co126)) (fun _ h_ => h_.1))) hb); have n2_ := Aside0.mk (Kd.R_below (by (with_reducible repeat (first | apply Kd.R_alloc | apply Kd.R_drewN | apply Kd.R_drew)); exact (Kd.R_mono (Kd.R_far (p := ⟨gb982, 2, none⟩) (Kd.R_far (p := ⟨gb982, 1, none⟩) (Kd.R_far (p := ⟨gb982, 0, none⟩) (Kd.R_types HO_962002.out BK982.out (by decide)) (fun _ hk => hk.2) (.bool t976)) (fun _ hk => hk.2) (.int .i64 t977)) (fun _ hk => hk.2) (.slice Ao126 t978.length co126)) (fun _ h_ => h_.1))) hb); have n3_ := Aside0.mk (Kd.R_below (by (with_reducible repeat (first | apply Kd.R_alloc | apply Kd.R_drewN | apply Kd.R_drew)); exact (Kd.R_mono (Kd.R_far (p := ⟨gb982, 2, none⟩) (Kd.R_far (p := ⟨gb982, 1, none⟩) (Kd.R_far (p := ⟨gb982, 0, none⟩) (Kd.R_types HO975.out BK982.out (by decide)) (fun _ hk => hk.2) (.bool t976)) (fun _ hk => hk.2) (.int .i64 t977)) (fun _ hk => hk.2) (.slice Ao126 t978.length co126)) (fun _ h_ => h_.1))) hb); have n4_ := Aside0.mk (Kd.R_below (by (with_reducible repeat (first | apply Kd.R_alloc | apply Kd.R_drewN | apply Kd.R_drew)); exact (Kd.R_mono (Kd.R_far (p := ⟨gb982, 2, none⟩) (Kd.R_far (p := ⟨gb982, 1, none⟩) (Kd.R_far (p := ⟨gb982, 0, none⟩) (Kd.R_types HO980.out BK982.out (by decide)) (fun _ hk => hk.2) (.bool t976)) (fun _ hk => hk.2) (.int .i64 t977)) (fun _ hk => hk.2) (.slice Ao126 t978.length co126)) (fun _ h_ => h_.1))) hb); have n5_ := Aside0.mk (blk_below (g := gb939) (o := .cells #[.slice A0_0 l0_0.length c0_0] 79 (0, 0)) (by (with_reducible repeat (first | refine blk_drewN ?_ _ | refine blk_drew ?_ | refine blk_alloc ?_ _)); refine blk_far ?_ NB939_982.out _; (with_reducible repeat (first | refine blk_drewN ?_ _ | refine blk_drew ?_ | refine blk_alloc ?_ _)); refine blk_far ?_ NB939_982.out _; (with_reducible repeat (first | refine blk_drewN ?_ _ | refine blk_drew ?_ | refine blk_alloc ?_ _)); refine blk_far ?_ NB939_982.out _; (with_reducible repeat (first | refine blk_drewN ?_ _ | refine blk_drew ?_ | refine blk_alloc ?_ _)); exact BK939.out) hb); have n6_ := Aside0.mk (blk_below (g := gb950) (o := .cells #[.bool t944, .int .i64 t945, .slice Ao25 t946.length co25] 84 (0, 0)) (by (with_reducible repeat (first | refine blk_drewN ?_ _ | refine blk_drew ?_ | refine blk_alloc ?_ _)); refine blk_far ?_ NB950_982.out _; (with_reducible repeat (first | refine blk_drewN ?_ _ | refine blk_drew ?_ | refine blk_alloc ?_ _)); refine blk_far ?_ NB950_982.out _; (with_reducible repeat (first | refine blk_drewN ?_ _ | refine blk_drew ?_ | refine blk_alloc ?_ _)); refine blk_far ?_ NB950_982.out _; (with_reducible repeat (first | refine blk_drewN ?_ _ | refine blk_drew ?_ | refine blk_alloc ?_ _)); exact BK950.out) hb); have n7_ := Aside0.mk (blk_below (g := gb954) (o := .cells #[.slice Ao29 t968.length co29] 87 (0, 0)) (by (with_reducible repeat (first | refine blk_drewN ?_ _ | refine blk_drew ?_ | refine blk_alloc ?_ _)); refine blk_far ?_ NB954_982.out _; (with_reducible repeat (first | refine blk_drewN ?_ _ | refine blk_drew ?_ | refine blk_alloc ?_ _)); refine blk_far ?_ NB954_982.out _; (with_reducible repeat (first | refine blk_drewN ?_ _ | refine blk_drew ?_ | refine blk_alloc ?_ _)); refine blk_far ?_ NB954_982.out _; (with_reducible repeat (first | refine blk_drewN ?_ _ | refine blk_drew ?_ | refine blk_alloc ?_ _)); exact BK954.out) hb); have n8_ := Aside0.mk (blk_below (g := gb961) (o := .cells #[.bool t955, .int .i64 t956, .slice Ao39 t957.length co39] 84 (0, 0)) (by (with_reducible repeat (first | refine blk_drewN ?_ _ | refine blk_drew ?_ | refine blk_alloc ?_ _)); refine blk_far ?_ NB961_982.out _; (with_reducible repeat (first | refine blk_drewN ?_ _ | refine blk_drew ?_ | refine blk_alloc ?_ _)); refine blk_far ?_ NB961_982.out _; (with_reducible repeat (first | refine blk_drewN ?_ _ | refine blk_drew ?_ | refine blk_alloc ?_ _)); refine blk_far ?_ NB961_982.out _; (with_reducible repeat (first | refine blk_drewN ?_ _ | refine blk_drew ?_ | refine blk_alloc ?_ _)); exact BK961.out) hb); have n9_ := Aside0.mk (blk_below (g := gb982) (o := .cells #[.bool t976, .int .i64 t977, .slice Ao126 t978.length co126] 84 (0, 0)) (by (with_reducible repeat (first | refine blk_drewN ?_ _ | refine blk_drew ?_ | refine blk_alloc ?_ _)); refine blk_put (cs := #[.bool t976, .int .i64 t977, .slice none 0 0]) ?_ 2 _ rfl; (with_reducible repeat (first | refine blk_drewN ?_ _ | refine blk_drew ?_ | refine blk_alloc ?_ _)); refine blk_put (cs := #[.bool t976, .int .i64 0, .slice none 0 0]) ?_ 1 _ rfl; (with_reducible repeat (first | refine blk_drewN ?_ _ | refine blk_drew ?_ | refine blk_alloc ?_ _)); refine blk_put (cs := #[.bool false, .int .i64 0, .slice none 0 0]) ?_ 0 _ rfl; (with_reducible repeat (first | refine blk_drewN ?_ _ | refine blk_drew ?_ | refine blk_alloc ?_ _)); exact BK982.out) hb); have n10_ := Aside0.mk (below_step (by repeat (first | (with_reducible first | exact HB.out | apply below_alloc | apply pw_below_drewN | apply below_drew1 | refine below_set ?_ GE939.out | refine below_set ?_ GE950.out | refine below_set ?_ GE954.out | refine below_set ?_ GE961.out | refine below_set ?_ GE982.out) | exact HB.out)) hb); clear HO_951002; clear HO_955000; clear HO_962002; clear HO975; clear HO980; clear BK939; clear BK950; clear BK954; clear BK961; clear BK982; clear HB; have HO_951002 := n0_; have HO_955000 := n1_; have HO_962002 := n2_; have HO975 := n3_; have HO980 := n4_; have BK939 := n5_; have BK950 := n6_; have BK954 := n7_; have BK961 := n8_; have BK982 := n9_; have HB := n10_; clear n0_ n1_ n2_ n3_ n4_ n5_ n6_ n7_ n8_ n9_ n10_; (try clear hb); (try clear hb2); (try clear hk); (try clear hi)))
                            go_meet
                            case rel => exact ⟨_, ((t981 != t949)), (by first | rfl | (simp; done) | (simp [*]; done)), H', ⟨by have := HJ13.out; have := HJ62.out; first | omega | exact Nat.le_refl _⟩, ⟨by (try simp only [hl955000_62]); (with_reducible repeat (first | apply Kd.R_alloc | apply Kd.R_drewN | apply Kd.R_drew)); exact Kd.R_mono HO_951002.out (fun _ hk => ⟨hk.1.1.1, ⟨hk.1.1.2, hk.2⟩⟩)⟩, ⟨by (try simp only [hl955000_62]); (with_reducible repeat (first | apply Kd.R_alloc | apply Kd.R_drewN | apply Kd.R_drew)); exact Kd.R_mono HO_955000.out (fun _ hk => ⟨hk.1.1.1, ⟨hk.1.1.2, hk.2⟩⟩)⟩, ⟨by (try simp only [hl955000_62]); (with_reducible repeat (first | apply Kd.R_alloc | apply Kd.R_drewN | apply Kd.R_drew)); exact Kd.R_mono HO_962002.out (fun _ hk => ⟨hk.1.1.1, ⟨hk.1.1.2, hk.2⟩⟩)⟩, ⟨by (try simp only [hl955000_62]); (with_reducible repeat (first | apply Kd.R_alloc | apply Kd.R_drewN | apply Kd.R_drew)); exact Kd.R_mono HO980.out (fun _ hk => ⟨hk.1.1.1.2, ⟨hk.1.1.2, hk.1.2⟩⟩)⟩, ⟨by (try simp only [hl955000_62]); (with_reducible repeat (first | refine blk_drewN ?_ _ | refine blk_drew ?_ | refine blk_alloc ?_ _)); exact BK939.out⟩, ⟨by (try simp only [hl955000_62]); (with_reducible repeat (first | refine blk_drewN ?_ _ | refine blk_drew ?_ | refine blk_alloc ?_ _)); exact BK950.out⟩, ⟨by (try simp only [hl955000_62]); (with_reducible repeat (first | refine blk_drewN ?_ _ | refine blk_drew ?_ | refine blk_alloc ?_ _)); exact BK954.out⟩, ⟨by (try simp only [hl955000_62]); (with_reducible repeat (first | refine blk_drewN ?_ _ | refine blk_drew ?_ | refine blk_alloc ?_ _)); exact BK961.out⟩, ⟨by (try simp only [hl955000_62]); (with_reducible repeat (first | refine blk_drewN ?_ _ | refine blk_drew ?_ | refine blk_alloc ?_ _)); exact BK982.out⟩, ⟨by repeat (first | (with_reducible first | exact HB.out | apply below_alloc | apply pw_below_drewN | apply below_drew1 | refine below_set ?_ GE939.out | refine below_set ?_ GE950.out | refine below_set ?_ GE954.out | refine below_set ?_ GE961.out | refine below_set ?_ GE982.out) | exact HB.out)⟩⟩
                          · replace c128 := Bool.eq_false_iff.mpr c128
                            subst c128
                            have H1 : (laws_FnExactParseChange.j2 kj62 t970 true t955 t956 t971) = some true := by rw [if_neg (show ¬ (false = true) by decide)] at H; exact H
                            clear H
                            have H := H1
                            clear H1
                            have H' := Aside0.mk H
                            clear H
                            have hnb139 := NB982_939.out
                            have hnc139 := NB939_982.out
                            have hnb140 := NB982_950.out
                            have hnc140 := NB950_982.out
                            have hnb141 := NB982_954.out
                            have hnc141 := NB954_982.out
                            have hnb142 := NB982_961.out
                            have hnc142 := NB961_982.out
                            have hcz143_0 : w120.cell? ⟨gb982, 0, none⟩ = some (.bool false) := (blk_cell BK982.out 0).trans rfl
                            have hcz143_1 : w120.cell? ⟨gb982, 1, none⟩ = some (.int .i64 0) := (blk_cell BK982.out 1).trans rfl
                            have hcz143_2 : w120.cell? ⟨gb982, 2, none⟩ = some (.slice none 0 0) := (blk_cell BK982.out 2).trans rfl
                            have hfz143_0 := blk_frozen BK982.out 0
                            have hfz143_1 := blk_frozen BK982.out 1
                            have hfz143_2 := blk_frozen BK982.out 2
                            have hnb144 := NB950_939.out
                            have hnc144 := NB939_950.out
                            have hnb145 := NB950_954.out
                            have hnc145 := NB954_950.out
                            have hnb146 := NB950_961.out
                            have hnc146 := NB961_950.out
                            have hcz147_0 : w120.cell? ⟨gb950, 0, none⟩ = some (.bool t944) := (blk_cell BK950.out 0).trans rfl
                            have hcz147_1 : w120.cell? ⟨gb950, 1, none⟩ = some (.int .i64 t945) := (blk_cell BK950.out 1).trans rfl
                            have hcz147_2 : w120.cell? ⟨gb950, 2, none⟩ = some (.slice Ao25 t946.length co25) := (blk_cell BK950.out 2).trans rfl
                            have hfz147_0 := blk_frozen BK950.out 0
                            have hfz147_1 := blk_frozen BK950.out 1
                            have hfz147_2 := blk_frozen BK950.out 2
                            go_wp2_with (first | ((with_reducible refine gate_callee (f := 53) rfl ?_); refine goesL_ (some 89) rfl rfl Try.func53 (by kernel_rfl) rfl #[.agg #[.bool t976, .int .i64 t977, .slice Ao126 t978.length co126], .agg #[.bool t944, .int .i64 t945, .slice Ao25 t946.length co25]] rfl (by (try simp only [List.map_toArray, List.map_cons, List.map_nil]); first | done | rfl | (simp only [List.length_drop, List.length_take]; rfl)) ?_; (with_reducible refine (laws_eqChange.calls kj62 t976 t977 _ _ t978 t944 t945 _ _ t946 false _ ?side1 ?side2 ?side3 ?side4 A127.out).mono ?_); (case side1 => refine (Kd.R_reads' (e := 3) (base := w.heap.size) (ok := fun k_ => ((((True ∧ some k_ ≠ (.slice Ao25 t946.length co25 : Value).ownBlock) ∧ some k_ ≠ (.slice Ao29 t968.length co29 : Value).ownBlock) ∧ some k_ ≠ (.slice Ao39 t957.length co39 : Value).ownBlock) ∧ some k_ ≠ (.slice Ao118 t973.length co118 : Value).ownBlock)) (n := t978.length) (c := co126) ?_).2.2; exact (by (with_reducible repeat (first | apply Kd.R_alloc | apply Kd.R_drewN | apply Kd.R_drew)); exact (Kd.R_mono (Kd.R_far (p := ⟨gb982, 2, none⟩) (Kd.R_far (p := ⟨gb982, 1, none⟩) (Kd.R_far (p := ⟨gb982, 0, none⟩) (Kd.R_types HO980.out BK982.out (by decide)) (fun _ hk => hk.2) (.bool t976)) (fun _ hk => hk.2) (.int .i64 t977)) (fun _ hk => hk.2) (.slice Ao126 t978.length co126)) (fun _ h_ => h_.1)))); (case side2 => exact (Kd.R_reads' HO980.out).2.1); (case side3 => refine (Kd.R_reads' (e := 3) (base := w.heap.size) (ok := fun k_ => (((some k_ ≠ (.slice Ao29 t968.length co29 : Value).ownBlock ∧ some k_ ≠ (.slice Ao39 t957.length co39 : Value).ownBlock) ∧ some k_ ≠ (.slice Ao118 t973.length co118 : Value).ownBlock) ∧ some k_ ≠ (.slice Ao126 t978.length co126 : Value).ownBlock)) (n := t946.length) (c := co25) ?_).2.2; exact (by (with_reducible repeat (first | apply Kd.R_alloc | apply Kd.R_drewN | apply Kd.R_drew)); exact (Kd.R_mono (Kd.R_far (p := ⟨gb982, 2, none⟩) (Kd.R_far (p := ⟨gb982, 1, none⟩) (Kd.R_far (p := ⟨gb982, 0, none⟩) (Kd.R_types HO_951002.out BK982.out (by decide)) (fun _ hk => hk.2) (.bool t976)) (fun _ hk => hk.2) (.int .i64 t977)) (fun _ hk => hk.2) (.slice Ao126 t978.length co126)) (fun _ h_ => h_.1)))); (case side4 => exact (Kd.R_reads' HO_951002.out).2.1); rintro e w148 ⟨rfl, hb⟩; refine ⟨_, rfl, ?_⟩; have n0_ := Aside0.mk (Kd.R_below (by (with_reducible repeat (first | apply Kd.R_alloc | apply Kd.R_drewN | apply Kd.R_drew)); exact (Kd.R_mono (Kd.R_far (p := ⟨gb982, 2, none⟩) (Kd.R_far (p := ⟨gb982, 1, none⟩) (Kd.R_far (p := ⟨gb982, 0, none⟩) (Kd.R_types HO_951002.out BK982.out (by decide)) (fun _ hk => hk.2) (.bool t976)) (fun _ hk => hk.2) (.int .i64 t977)) (fun _ hk => hk.2) (.slice Ao126 t978.length co126)) (fun _ h_ => h_.1))) hb); have n1_ := Aside0.mk (Kd.R_below (by (with_reducible repeat (first | apply Kd.R_alloc | apply Kd.R_drewN | apply Kd.R_drew)); exact (Kd.R_mono (Kd.R_far (p := ⟨gb982, 2, none⟩) (Kd.R_far (p := ⟨gb982, 1, none⟩) (Kd.R_far (p := ⟨gb982, 0, none⟩) (Kd.R_types HO_955000.out BK982.out (by decide)) (fun _ hk => hk.2) (.bool t976)) (fun _ hk => hk.2) (.int .i64 t977)) (fun _ hk => hk.2) (.slice Ao126 t978.length co126)) (fun _ h_ => h_.1))) hb); have n2_ := Aside0.mk (Kd.R_below (by (with_reducible repeat (first | apply Kd.R_alloc | apply Kd.R_drewN | apply Kd.R_drew)); exact (Kd.R_mono (Kd.R_far (p := ⟨gb982, 2, none⟩) (Kd.R_far (p := ⟨gb982, 1, none⟩) (Kd.R_far (p := ⟨gb982, 0, none⟩) (Kd.R_types HO_962002.out BK982.out (by decide)) (fun _ hk => hk.2) (.bool t976)) (fun _ hk => hk.2) (.int .i64 t977)) (fun _ hk => hk.2) (.slice Ao126 t978.length co126)) (fun _ h_ => h_.1))) hb); have n3_ := Aside0.mk (Kd.R_below (by (with_reducible repeat (first | apply Kd.R_alloc | apply Kd.R_drewN | apply Kd.R_drew)); exact (Kd.R_mono (Kd.R_far (p := ⟨gb982, 2, none⟩) (Kd.R_far (p := ⟨gb982, 1, none⟩) (Kd.R_far (p := ⟨gb982, 0, none⟩) (Kd.R_types HO975.out BK982.out (by decide)) (fun _ hk => hk.2) (.bool t976)) (fun _ hk => hk.2) (.int .i64 t977)) (fun _ hk => hk.2) (.slice Ao126 t978.length co126)) (fun _ h_ => h_.1))) hb); have n4_ := Aside0.mk (Kd.R_below (by (with_reducible repeat (first | apply Kd.R_alloc | apply Kd.R_drewN | apply Kd.R_drew)); exact (Kd.R_mono (Kd.R_far (p := ⟨gb982, 2, none⟩) (Kd.R_far (p := ⟨gb982, 1, none⟩) (Kd.R_far (p := ⟨gb982, 0, none⟩) (Kd.R_types HO980.out BK982.out (by decide)) (fun _ hk => hk.2) (.bool t976)) (fun _ hk => hk.2) (.int .i64 t977)) (fun _ hk => hk.2) (.slice Ao126 t978.length co126)) (fun _ h_ => h_.1))) hb); have n5_ := Aside0.mk (blk_below (g := gb939) (o := .cells #[.slice A0_0 l0_0.length c0_0] 79 (0, 0)) (by (with_reducible repeat (first | refine blk_drewN ?_ _ | refine blk_drew ?_ | refine blk_alloc ?_ _)); refine blk_far ?_ NB939_982.out _; (with_reducible repeat (first | refine blk_drewN ?_ _ | refine blk_drew ?_ | refine blk_alloc ?_ _)); refine blk_far ?_ NB939_982.out _; (with_reducible repeat (first | refine blk_drewN ?_ _ | refine blk_drew ?_ | refine blk_alloc ?_ _)); refine blk_far ?_ NB939_982.out _; (with_reducible repeat (first | refine blk_drewN ?_ _ | refine blk_drew ?_ | refine blk_alloc ?_ _)); exact BK939.out) hb); have n6_ := Aside0.mk (blk_below (g := gb950) (o := .cells #[.bool t944, .int .i64 t945, .slice Ao25 t946.length co25] 84 (0, 0)) (by (with_reducible repeat (first | refine blk_drewN ?_ _ | refine blk_drew ?_ | refine blk_alloc ?_ _)); refine blk_far ?_ NB950_982.out _; (with_reducible repeat (first | refine blk_drewN ?_ _ | refine blk_drew ?_ | refine blk_alloc ?_ _)); refine blk_far ?_ NB950_982.out _; (with_reducible repeat (first | refine blk_drewN ?_ _ | refine blk_drew ?_ | refine blk_alloc ?_ _)); refine blk_far ?_ NB950_982.out _; (with_reducible repeat (first | refine blk_drewN ?_ _ | refine blk_drew ?_ | refine blk_alloc ?_ _)); exact BK950.out) hb); have n7_ := Aside0.mk (blk_below (g := gb954) (o := .cells #[.slice Ao29 t968.length co29] 87 (0, 0)) (by (with_reducible repeat (first | refine blk_drewN ?_ _ | refine blk_drew ?_ | refine blk_alloc ?_ _)); refine blk_far ?_ NB954_982.out _; (with_reducible repeat (first | refine blk_drewN ?_ _ | refine blk_drew ?_ | refine blk_alloc ?_ _)); refine blk_far ?_ NB954_982.out _; (with_reducible repeat (first | refine blk_drewN ?_ _ | refine blk_drew ?_ | refine blk_alloc ?_ _)); refine blk_far ?_ NB954_982.out _; (with_reducible repeat (first | refine blk_drewN ?_ _ | refine blk_drew ?_ | refine blk_alloc ?_ _)); exact BK954.out) hb); have n8_ := Aside0.mk (blk_below (g := gb961) (o := .cells #[.bool t955, .int .i64 t956, .slice Ao39 t957.length co39] 84 (0, 0)) (by (with_reducible repeat (first | refine blk_drewN ?_ _ | refine blk_drew ?_ | refine blk_alloc ?_ _)); refine blk_far ?_ NB961_982.out _; (with_reducible repeat (first | refine blk_drewN ?_ _ | refine blk_drew ?_ | refine blk_alloc ?_ _)); refine blk_far ?_ NB961_982.out _; (with_reducible repeat (first | refine blk_drewN ?_ _ | refine blk_drew ?_ | refine blk_alloc ?_ _)); refine blk_far ?_ NB961_982.out _; (with_reducible repeat (first | refine blk_drewN ?_ _ | refine blk_drew ?_ | refine blk_alloc ?_ _)); exact BK961.out) hb); have n9_ := Aside0.mk (blk_below (g := gb982) (o := .cells #[.bool t976, .int .i64 t977, .slice Ao126 t978.length co126] 84 (0, 0)) (by (with_reducible repeat (first | refine blk_drewN ?_ _ | refine blk_drew ?_ | refine blk_alloc ?_ _)); refine blk_put (cs := #[.bool t976, .int .i64 t977, .slice none 0 0]) ?_ 2 _ rfl; (with_reducible repeat (first | refine blk_drewN ?_ _ | refine blk_drew ?_ | refine blk_alloc ?_ _)); refine blk_put (cs := #[.bool t976, .int .i64 0, .slice none 0 0]) ?_ 1 _ rfl; (with_reducible repeat (first | refine blk_drewN ?_ _ | refine blk_drew ?_ | refine blk_alloc ?_ _)); refine blk_put (cs := #[.bool false, .int .i64 0, .slice none 0 0]) ?_ 0 _ rfl; (with_reducible repeat (first | refine blk_drewN ?_ _ | refine blk_drew ?_ | refine blk_alloc ?_ _)); exact BK982.out) hb); have n10_ := Aside0.mk (below_step (by repeat (first | (with_reducible first | exact HB.out | apply below_alloc | apply pw_below_drewN | apply below_drew1 | refine below_set ?_ GE939.out | refine below_set ?_ GE950.out | refine below_set ?_ GE954.out | refine below_set ?_ GE961.out | refine below_set ?_ GE982.out) | exact HB.out)) hb); clear HO_951002; clear HO_955000; clear HO_962002; clear HO975; clear HO980; clear BK939; clear BK950; clear BK954; clear BK961; clear BK982; clear HB; have HO_951002 := n0_; have HO_955000 := n1_; have HO_962002 := n2_; have HO975 := n3_; have HO980 := n4_; have BK939 := n5_; have BK950 := n6_; have BK954 := n7_; have BK961 := n8_; have BK982 := n9_; have HB := n10_; clear n0_ n1_ n2_ n3_ n4_ n5_ n6_ n7_ n8_ n9_ n10_; (try clear hb); (try clear hb2); (try clear hk); (try clear hi)))
                            go_meet
                            case rel => exact ⟨_, (true), (by first | rfl | (simp; done) | (simp [*]; done)), H', ⟨by have := HJ13.out; have := HJ62.out; first | omega | exact Nat.le_refl _⟩, ⟨by (try simp only [hl955000_62]); (with_reducible repeat (first | apply Kd.R_alloc | apply Kd.R_drewN | apply Kd.R_drew)); exact Kd.R_mono HO_951002.out (fun _ hk => ⟨hk.1.1.1, ⟨hk.1.1.2, hk.2⟩⟩)⟩, ⟨by (try simp only [hl955000_62]); (with_reducible repeat (first | apply Kd.R_alloc | apply Kd.R_drewN | apply Kd.R_drew)); exact Kd.R_mono HO_955000.out (fun _ hk => ⟨hk.1.1.1, ⟨hk.1.1.2, hk.2⟩⟩)⟩, ⟨by (try simp only [hl955000_62]); (with_reducible repeat (first | apply Kd.R_alloc | apply Kd.R_drewN | apply Kd.R_drew)); exact Kd.R_mono HO_962002.out (fun _ hk => ⟨hk.1.1.1, ⟨hk.1.1.2, hk.2⟩⟩)⟩, ⟨by (try simp only [hl955000_62]); (with_reducible repeat (first | apply Kd.R_alloc | apply Kd.R_drewN | apply Kd.R_drew)); exact Kd.R_mono HO980.out (fun _ hk => ⟨hk.1.1.1.2, ⟨hk.1.1.2, hk.1.2⟩⟩)⟩, ⟨by (try simp only [hl955000_62]); (with_reducible repeat (first | refine blk_drewN ?_ _ | refine blk_drew ?_ | refine blk_alloc ?_ _)); exact BK939.out⟩, ⟨by (try simp only [hl955000_62]); (with_reducible repeat (first | refine blk_drewN ?_ _ | refine blk_drew ?_ | refine blk_alloc ?_ _)); exact BK950.out⟩, ⟨by (try simp only [hl955000_62]); (with_reducible repeat (first | refine blk_drewN ?_ _ | refine blk_drew ?_ | refine blk_alloc ?_ _)); exact BK954.out⟩, ⟨by (try simp only [hl955000_62]); (with_reducible repeat (first | refine blk_drewN ?_ _ | refine blk_drew ?_ | refine blk_alloc ?_ _)); exact BK961.out⟩, ⟨by (try simp only [hl955000_62]); (with_reducible repeat (first | refine blk_drewN ?_ _ | refine blk_drew ?_ | refine blk_alloc ?_ _)); exact BK982.out⟩, ⟨by repeat (first | (with_reducible first | exact HB.out | apply below_alloc | apply pw_below_drewN | apply below_drew1 | refine below_set ?_ GE939.out | refine below_set ?_ GE950.out | refine below_set ?_ GE954.out | refine below_set ?_ GE961.out | refine below_set ?_ GE982.out) | exact HB.out)⟩⟩
                        case rest =>
                          clear HC106
                          try clear c1
                          try clear c2
                          try clear p2
                          try clear c3
                          try clear c3b0
                          try clear c3b1
                          try clear c4
                          try clear c5
                          try clear c6
                          try clear c6b0
                          try clear c7
                          try clear c8
                          try clear c9
                          try clear c10
                          try clear c11
                          try clear c12
                          try clear c13
                          try clear c14
                          try clear c23
                          try clear c30
                          try clear c31
                          try clear c35
                          try clear c36
                          try clear c37
                          try clear c41
                          try clear c42
                          try clear c43
                          try clear c44
                          try clear c46
                          try clear c47
                          try clear c49
                          try clear c50
                          try clear c51
                          try clear c52
                          try clear c53
                          try clear c54
                          try clear c55
                          try clear c56
                          try clear c57
                          try clear c58
                          try clear c61
                          try clear c68
                          try clear c69
                          try clear c70
                          try clear c73
                          try clear c73b0
                          try clear c75
                          try clear c76
                          try clear c77
                          try clear c78
                          try clear c80
                          try clear c81
                          try clear c84
                          try clear c85
                          try clear c86
                          try clear c88
                          try clear c89
                          try clear c92
                          try clear c95
                          try clear c95b0
                          try clear c96
                          try clear c97
                          try clear c98
                          try clear c103
                          try clear c103b0
                          try clear c103b1
                          try clear c107
                          try clear c108
                          try clear c109
                          try clear c114
                          try clear c115
                          try clear c121
                          try clear c122
                          try clear c123
                          try clear c124
                          try clear c128
                          try clear c129
                          try clear c130
                          try clear c131
                          try clear c132
                          try clear c134
                          try clear c135
                          try clear c136
                          try clear c139
                          try clear c140
                          try clear c141
                          try clear c142
                          try clear c144
                          try clear c145
                          try clear c146
                          try clear hcz101_0
                          try clear hcz101_1
                          try clear hcz101_2
                          try clear hcz110_0
                          try clear hcz110_1
                          try clear hcz110_2
                          try clear hcz112_0
                          try clear hcz112_1
                          try clear hcz112_2
                          try clear hcz116_0
                          try clear hcz125_0
                          try clear hcz125_1
                          try clear hcz125_2
                          try clear hcz133_0
                          try clear hcz133_1
                          try clear hcz133_2
                          try clear hcz137_0
                          try clear hcz137_1
                          try clear hcz137_2
                          try clear hcz143_0
                          try clear hcz143_1
                          try clear hcz143_2
                          try clear hcz147_0
                          try clear hcz147_1
                          try clear hcz147_2
                          try clear hcz16_0
                          try clear hcz18_0
                          try clear hcz24_0
                          try clear hcz24_1
                          try clear hcz24_2
                          try clear hcz26_0
                          try clear hcz32_0
                          try clear hcz38_0
                          try clear hcz38_1
                          try clear hcz38_2
                          try clear hcz45_0
                          try clear hcz45_1
                          try clear hcz45_2
                          try clear hcz48_0
                          try clear hcz48_1
                          try clear hcz48_2
                          try clear hcz53_0
                          try clear hcz53_1
                          try clear hcz53_2
                          try clear hcz56_0
                          try clear hcz56_1
                          try clear hcz56_2
                          try clear hcz71_0
                          try clear hcz79_0
                          try clear hcz79_1
                          try clear hcz79_2
                          try clear hcz82_0
                          try clear hcz82_1
                          try clear hcz82_2
                          try clear hcz87_0
                          try clear hcz87_1
                          try clear hcz87_2
                          try clear hcz8_0
                          try clear hcz90_0
                          try clear hcz90_1
                          try clear hcz90_2
                          try clear hcz99_0
                          try clear hcz99_1
                          try clear hcz99_2
                          try clear hfz101_0
                          try clear hfz101_1
                          try clear hfz101_2
                          try clear hfz110_0
                          try clear hfz110_1
                          try clear hfz110_2
                          try clear hfz112_0
                          try clear hfz112_1
                          try clear hfz112_2
                          try clear hfz116_0
                          try clear hfz125_0
                          try clear hfz125_1
                          try clear hfz125_2
                          try clear hfz133_0
                          try clear hfz133_1
                          try clear hfz133_2
                          try clear hfz137_0
                          try clear hfz137_1
                          try clear hfz137_2
                          try clear hfz143_0
                          try clear hfz143_1
                          try clear hfz143_2
                          try clear hfz147_0
                          try clear hfz147_1
                          try clear hfz147_2
                          try clear hfz16_0
                          try clear hfz18_0
                          try clear hfz24_0
                          try clear hfz24_1
                          try clear hfz24_2
                          try clear hfz26_0
                          try clear hfz32_0
                          try clear hfz38_0
                          try clear hfz38_1
                          try clear hfz38_2
                          try clear hfz45_0
                          try clear hfz45_1
                          try clear hfz45_2
                          try clear hfz48_0
                          try clear hfz48_1
                          try clear hfz48_2
                          try clear hfz53_0
                          try clear hfz53_1
                          try clear hfz53_2
                          try clear hfz56_0
                          try clear hfz56_1
                          try clear hfz56_2
                          try clear hfz71_0
                          try clear hfz79_0
                          try clear hfz79_1
                          try clear hfz79_2
                          try clear hfz82_0
                          try clear hfz82_1
                          try clear hfz82_2
                          try clear hfz87_0
                          try clear hfz87_1
                          try clear hfz87_2
                          try clear hfz8_0
                          try clear hfz90_0
                          try clear hfz90_1
                          try clear hfz90_2
                          try clear hfz99_0
                          try clear hfz99_1
                          try clear hfz99_2
                          try clear p2
                          obtain ⟨kq, x95_105, rfl, HA, HJ105, HO_951002, HO_955000, HO_962002, HO_983002, BK939, BK950, BK954, BK961, BK982, HB⟩ := hcut
                          have hl962002_105 := (Kd.R_reads' HO_962002.out).1
                          rw [hl962002_105] at HO_962002
                          (try simp only [hl962002_105])
                          (try simp only [hl962002_105] at BK939)
                          (try simp only [hl962002_105] at BK950)
                          (try simp only [hl962002_105] at BK954)
                          (try simp only [hl962002_105] at BK961)
                          (try simp only [hl962002_105] at BK982)
                          (try simp only [hl962002_105] at HO_951002)
                          (try simp only [hl962002_105] at HO_955000)
                          (try simp only [hl962002_105] at HO_983002)
                          cases kq with
                          | zero => exact absurd HA.out (by simp [laws_FnExactParseChange.j2])
                          | succ kj105 =>
                            have H := HA.out
                            clear HA
                            simp only [laws_FnExactParseChange.j2] at H
                            by_cases c149 : x95_105 = true
                            · subst c149
                              have H1 : (some false) = some true := by rw [if_pos rfl] at H; exact H
                              clear H
                              have H := H1
                              clear H1
                              exact absurd (Option.some.inj H) (by decide)
                            · replace c149 := Bool.eq_false_iff.mpr c149
                              subst c149
                              have H1 : ((laws_heldChange.f kj105 t955 t956 t971 1).bind fun t984 => (if t984 < 0 then (some false) else (if t984 = t970 then (some true) else (some false)))) = some true := by rw [if_neg (show ¬ (false = true) by decide)] at H; exact H
                              clear H
                              have H := H1
                              clear H1
                              replace H := Option.bind_eq_some_iff.mp H
                              obtain ⟨t984, A1500, H⟩ := H
                              replace H : (if t984 < 0 then (some false) else (if t984 = t970 then (some true) else (some false))) = some true := H
                              have A150 := Aside0.mk A1500
                              clear A1500
                              by_cases c151 : t984 < 0
                              · rw [if_pos c151] at H
                                have c151b0 : decide (t984 < 0) = true := decide_eq_true c151
                                clear c151
                                exact absurd (Option.some.inj H) (by decide)
                              · rw [if_neg c151] at H
                                have c151b0 : decide (t984 < 0) = false := decide_eq_false c151
                                clear c151
                                by_cases c158 : t984 = t970
                                · rw [if_pos c158] at H
                                  have c158b0 : (t984 == t970) = true := beq_iff_eq.mpr c158
                                  have c158b1 : (t984 != t970) = false := bne_eq_false_iff_eq.mpr c158
                                  clear c158
                                  clear H
                                  have hnb159 := NB961_939.out
                                  have hnc159 := NB939_961.out
                                  have hnb160 := NB961_950.out
                                  have hnc160 := NB950_961.out
                                  have hnb161 := NB961_954.out
                                  have hnc161 := NB954_961.out
                                  have hnb162 := NB961_982.out
                                  have hnc162 := NB982_961.out
                                  have hcz163_0 : wc.cell? ⟨gb961, 0, none⟩ = some (.bool t955) := (blk_cell BK961.out 0).trans rfl
                                  have hcz163_1 : wc.cell? ⟨gb961, 1, none⟩ = some (.int .i64 t956) := (blk_cell BK961.out 1).trans rfl
                                  have hcz163_2 : wc.cell? ⟨gb961, 2, none⟩ = some (.slice Ao39 t971.length co39) := (blk_cell BK961.out 2).trans rfl
                                  have hfz163_0 := blk_frozen BK961.out 0
                                  have hfz163_1 := blk_frozen BK961.out 1
                                  have hfz163_2 := blk_frozen BK961.out 2
                                  go_wp2_with (first | ((with_reducible refine gate_callee (f := 57) rfl ?_); refine goesL_ (some 98) rfl rfl Try.func57 (by kernel_rfl) rfl #[.agg #[.bool t955, .int .i64 t956, .slice Ao39 t971.length co39], .int .i64 1] rfl (by (try simp only [List.map_toArray, List.map_cons, List.map_nil]); first | done | rfl | (simp only [List.length_drop, List.length_take]; rfl)) ?_; (with_reducible refine (laws_heldChange.calls kj105 t955 t956 _ _ t971 1 t984 _ ?side1 ?side2 A150.out).mono ?_); (case side1 => repeat (first | exact (Kd.R_reads' HO_962002.out).2.2 | (with_reducible refine Kd.C_alloc ?_ _) | (with_reducible refine Kd.C_drewN ?_ _) | (with_reducible refine Kd.C_drew ?_))); (case side2 => exact (Kd.R_reads' HO_962002.out).2.1); rintro e w164 ⟨rfl, hb⟩; refine ⟨_, rfl, ?_⟩; have n0_ := Aside0.mk (Kd.R_below (by (with_reducible repeat (first | apply Kd.R_alloc | apply Kd.R_drewN | apply Kd.R_drew)); exact HO_951002.out) hb); have n1_ := Aside0.mk (Kd.R_below (by (with_reducible repeat (first | apply Kd.R_alloc | apply Kd.R_drewN | apply Kd.R_drew)); exact HO_955000.out) hb); have n2_ := Aside0.mk (Kd.R_below (by (with_reducible repeat (first | apply Kd.R_alloc | apply Kd.R_drewN | apply Kd.R_drew)); exact HO_962002.out) hb); have n3_ := Aside0.mk (Kd.R_below (by (with_reducible repeat (first | apply Kd.R_alloc | apply Kd.R_drewN | apply Kd.R_drew)); exact HO_983002.out) hb); have n4_ := Aside0.mk (blk_below (g := gb939) (o := .cells #[.slice A0_0 l0_0.length c0_0] 79 (0, 0)) (by (with_reducible repeat (first | refine blk_drewN ?_ _ | refine blk_drew ?_ | refine blk_alloc ?_ _)); exact BK939.out) hb); have n5_ := Aside0.mk (blk_below (g := gb950) (o := .cells #[.bool t944, .int .i64 t945, .slice Ao25 t946.length co25] 84 (0, 0)) (by (with_reducible repeat (first | refine blk_drewN ?_ _ | refine blk_drew ?_ | refine blk_alloc ?_ _)); exact BK950.out) hb); have n6_ := Aside0.mk (blk_below (g := gb954) (o := .cells #[.slice Ao29 t968.length co29] 87 (0, 0)) (by (with_reducible repeat (first | refine blk_drewN ?_ _ | refine blk_drew ?_ | refine blk_alloc ?_ _)); exact BK954.out) hb); have n7_ := Aside0.mk (blk_below (g := gb961) (o := .cells #[.bool t955, .int .i64 t956, .slice Ao39 t971.length co39] 84 (0, 0)) (by (with_reducible repeat (first | refine blk_drewN ?_ _ | refine blk_drew ?_ | refine blk_alloc ?_ _)); exact BK961.out) hb); have n8_ := Aside0.mk (blk_below (g := gb982) (o := .cells #[.bool t976, .int .i64 t977, .slice Ao126 t978.length co126] 84 (0, 0)) (by (with_reducible repeat (first | refine blk_drewN ?_ _ | refine blk_drew ?_ | refine blk_alloc ?_ _)); exact BK982.out) hb); have n9_ := Aside0.mk (below_step (by repeat (first | (with_reducible first | exact HB.out | apply below_alloc | apply pw_below_drewN | apply below_drew1 | refine below_set ?_ GE939.out | refine below_set ?_ GE950.out | refine below_set ?_ GE954.out | refine below_set ?_ GE961.out | refine below_set ?_ GE982.out) | exact HB.out)) hb); clear HO_951002; clear HO_955000; clear HO_962002; clear HO_983002; clear BK939; clear BK950; clear BK954; clear BK961; clear BK982; clear HB; have HO_951002 := n0_; have HO_955000 := n1_; have HO_962002 := n2_; have HO_983002 := n3_; have BK939 := n4_; have BK950 := n5_; have BK954 := n6_; have BK961 := n7_; have BK982 := n8_; have HB := n9_; clear n0_ n1_ n2_ n3_ n4_ n5_ n6_ n7_ n8_ n9_; (try clear hb); (try clear hb2); (try clear hk); (try clear hi)))
                                  go_ret
                                  exact ⟨by first | rfl | (simp [errW_none, errW_some] <;> rfl) | (simp [*, errW_none, errW_some] <;> rfl), by repeat (first | (with_reducible first | exact HB.out | apply below_alloc | apply pw_below_drewN | apply below_drew1 | refine below_set ?_ GE939.out | refine below_set ?_ GE950.out | refine below_set ?_ GE954.out | refine below_set ?_ GE961.out | refine below_set ?_ GE982.out) | exact HB.out)⟩
                                · rw [if_neg c158] at H
                                  have c158b0 : (t984 == t970) = false := beq_eq_false_iff_ne.mpr c158
                                  have c158b1 : (t984 != t970) = true := bne_iff_ne.mpr c158
                                  exact absurd (Option.some.inj H) (by decide)
                      · rw [if_neg c103] at H
                        have c103b0 : (t972 == t970) = false := beq_eq_false_iff_ne.mpr c103
                        have c103b1 : (t972 != t970) = true := bne_iff_ne.mpr c103
                        exact absurd (Option.some.inj H) (by decide)
            · replace c61 := Bool.eq_false_iff.mpr c61
              subst c61
              have H1 : (some false) = some true := by rw [if_neg (show ¬ (false = true) by decide)] at H; exact H
              clear H
              have H := H1
              clear H1
              exact absurd (Option.some.inj H) (by decide)
end Go.Proofs.Ytjiipeidginjnaa.P

