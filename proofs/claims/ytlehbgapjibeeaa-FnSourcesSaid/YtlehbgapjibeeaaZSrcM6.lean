/- Several texts in one: what the claim needs of them. Conditions: each declaration's own. -/
import Derived.Test.YtlehbgapjibeeaaZSrcM5
import Derived.Test.YtlehbgapjibeeaaZSrcM4
namespace Go.Proofs.Ytlehbgapjibeeaa.V
open Go Go.Proofs
set_option linter.unusedVariables false
set_option linter.unusedSimpArgs false
theorem l3Schema_p (b : List By) (i : Nat) (h : Int) (hb : Sm b) (hi : i ≤ b.length) : ∃ x cs', ((∃ ar : List Int, ar.length ≤ 3 ∧ x = .agg [.own 1 (rowsE ar)]) ∧ CQ b cs') ∧ RetP XX 135 (CU b i h) [] x cs' := by
  refine ret_PW rfl Try.func135 rfl rfl (by simp [Try.f135]) ?_
  simp only [Try.f135]
  obtain ⟨x, cs', ⟨⟨k, hk, rfl⟩, i1, w1, hi1, rfl⟩, hr⟩ := l1Below_p b i h 3 hb hi (by omega)
  have c1 := cvP hr
  simp only [CU, List.map_cons, List.map_nil] at c1 ⊢
  have hk3 := hk.2.1 (by omega)
  repeat' first|refine nx ?_|refine xb_miss (by decide) ?_|(apply W_reg;(simp [c1, flatR];exact .r _))
  refine W_loop (n := (k.toNat * 2)) (fun n s => ∃ m : Nat, ∃ i : Nat, ∃ w : Int, ∃ A : List Int, n = m * 2 ∧ s.nt = 24 ∧ s.tm 0 = .ptr 0 0 ∧ s.tm 2 = .ptr 1 0 ∧ s.tm 3 = .ptr 3 0 ∧ s.tm 4 = In m ∧ i ≤ b.length ∧ s.σ.ob 0 = .box [Ar b, In i, In w] ∧ s.σ.ob 1 = .box [.t .nl] ∧ s.σ.ob 2 = .arr (.own 0) 0 1 (rowsE A) ∧ s.σ.ob 3 = .box [.ref 2 A.length []] ∧ 4 ≤ s.σ.n ∧ A.length + m ≤ 3) ⟨k.toNat, i1, w1, [2], by (simp; exact ⟨by omega, hi1, rfl, by omega⟩)⟩ ?_
  rintro n ⟨nt, tm, σ⟩ ⟨m, i, w, A, rfl, hnt, h0, h2, h3, h4, hi, hb0, hb1, hb2, hb3, hn, hA⟩
  simp only at hnt h0 h2 h3 h4 hb0 hb1 hb2 hb3 hn
  subst hnt
  have ap1_ := apart hn
  repeat' first|refine nx ?_|refine xb_miss (by decide) ?_|(apply W_reg;(simp [h0, h2, h3, h4, hb0, hb1, hb2, hb3, hn, ap1_];exact .r _))
  refine W_cond (by simp [h0, h2, h3, h4, hb0, hb1, hb2, hb3, hn, ap1_]; exact .r _) (fun hc => ?_) (fun hc => ?_)
  · have hm : 0 < m := by simpa using hc
    obtain ⟨x, cs', ⟨⟨k, hk, rfl⟩, i2, w2, hi2, rfl⟩, hr⟩ := l1Below_p b i w 3 hb hi (by omega)
    have c2 := cvP hr
    simp only [CU, List.map_cons, List.map_nil] at c2
    have hAb : A.length + 1 < 1099511627776 := by omega
    have hk2 := hk.1
    have hk3 := hk.2.1 (by omega)
    have wr2_ : IntKind.i64.wrap (1 + k) = 1 + k := wrap_ok (by omega) (by omega)
    have wr3_ : IntKind.i64.wrap ((m : Int) - 1) = (m : Int) - 1 := wrap_ok (by omega) (by omega)
    repeat' first|refine nx ?_|refine xb_miss (by decide) ?_|(apply W_reg;(simp [h0, h2, h3, h4, hb0, hb1, hb2, hb3, hn, ap1_, wr2_, wr3_, c2, hAb, flatR];exact .r _))
    refine ⟨_, ?_, m - 1, i2, w2, A ++ [1 + k], rfl, rfl, ?_, ?_, ?_, (by simp [h0, h2, h3, h4, hb0, hb1, hb2, hb3, hn, ap1_, wr2_, wr3_]; omega), ?_, ?_, ?_, (by simp [h0, h2, h3, h4, hb0, hb1, hb2, hb3, hn, ap1_, wr2_, wr3_, rowsE]), ?_, ?_, (by simp; omega)⟩
    all_goals first|assumption|(simp [h0, h2, h3, h4, hb0, hb1, hb2, hb3, hn, ap1_, wr2_, wr3_];done)|(simp [h0, h2, h3, h4, hb0, hb1, hb2, hb3, hn, ap1_, wr2_, wr3_];omega)|(simp [h0, h2, h3, h4, hb0, hb1, hb2, hb3, hn, ap1_, wr2_, wr3_];exact wrap_succ (by omega))|omega
  · have hm : m = 0 := by simpa using hc
    subst hm
    repeat' first|refine nx ?_|refine xb_miss (by decide) ?_|(apply W_reg;(simp [h0, h2, h3, h4, hb0, hb1, hb2, hb3, hn, ap1_];exact .r _))
    exact EndsP.mk (cs' := CU b i w) (x := .agg [.own 1 (rowsE A)]) (v := .agg [.ref 2 A.length []]) (by simp [h0, h2, h3, h4, hb0, hb1, hb2, hb3, hn, ap1_]) (by simp [h0, h2, h3, h4, hb0, hb1, hb2, hb3, hn, ap1_]) (by simp [h0, h2, h3, h4, hb0, hb1, hb2, hb3, hn, ap1_]) ⟨⟨A, by omega, rfl⟩, i, w, hi, rfl⟩
theorem l3Any_p (b : List By) (i : Nat) (h : Int) (hb : Sm b) (hi : i ≤ b.length) : ∃ x cs', ((∃ ar : List Int, ar.length ≤ 5 ∧ (x = .agg [.own 1 (rowsE ar)] ∨ (x = .agg [.t .nl false] ∧ ar = []))) ∧ CQ b cs') ∧ RetP XX 116 (CU b i h) [] x cs' := by
  refine ret_PW rfl Try.func116 rfl rfl (by simp [Try.f116]) ?_
  simp only [Try.f116]
  obtain ⟨x, cs', ⟨⟨A, hA, rfl⟩, i1, w1, hi1, rfl⟩, hr1⟩ := l3Schema_p b i h hb hi
  have c1 := cvP0 hr1
  obtain ⟨x, cs', ⟨⟨k, hk, rfl⟩, i2, w2, hi2, rfl⟩, hr2⟩ := l1Below_p b i1 w1 10 hb hi1 (by omega)
  have c2 := cvP hr2
  obtain ⟨x, cs', ⟨⟨y, hy, rfl⟩, i3, w3, hi3, rfl⟩, hr3⟩ := l1PickInt_p b i2 w2 [0, 3, 4] hb hi2 (by simp)
  have c3 := cvP hr3
  simp only [CU, List.map_cons, List.map_nil] at c1 c2 c3 ⊢
  have hAb : A.length + 1 < 1099511627776 := by omega
  by_cases k0 : k = 0
  · repeat' first|refine nx ?_|refine xb_miss (by decide) ?_|(apply W_reg;(simp [c1, c2, k0];exact .r _))
    refine W_cond (by simp; exact .r _) (fun hc => ?_) (fun hc => ?_)
    · rw [show Ar ([0, 3, 4] : List Int) = .t (.sl [[.i .i64 0], [.i .i64 3], [.i .i64 4]]) from rfl] at c3
      have hr3n : ([0, 1, 2] : List Nat) = List.range 3 := rfl
      repeat' first|refine nx ?_|refine xb_miss (by decide) ?_|(apply W_reg;(simp [c3, hAb, flatR, hr3n];exact .r _))|(apply W_draw (id := 4) [0,1,0,0,12,28,63,127,255] rfl rfl; (· simp; exact .r _); (· simp [c3, hAb, flatR, hr3n]; exact .r _); (· first|trivial|simp))
      exact EndsP.mk (cs' := CU b i3 w3) (x := .agg [.own 1 (rowsE (A ++ [y]))]) (v := .agg [.ref 2 (A.length + 1) []]) (by simp) (by simp) (by simp [rowsE]) ⟨⟨A ++ [y], by simp; omega, .inl rfl⟩, i3, w3, hi3, rfl⟩
    · simp at hc
  by_cases k1 : k = 1
  · subst k1
    repeat' first|refine nx ?_|refine xb_miss (by decide) ?_|(apply W_reg;(simp [c1, c2];exact .r _))
    refine W_cond (by simp; exact .r _) (fun hc => ?_) (fun hc => ?_)
    · simp at hc
    repeat' first|refine nx ?_|refine xb_miss (by decide) ?_|(apply W_reg;(simp;exact .r _))
    refine W_cond (by simp; exact .r _) (fun hc => ?_) (fun hc => ?_)
    · repeat' first|refine nx ?_|refine xb_miss (by decide) ?_|(apply W_reg;(simp;exact .r _))
      exact EndsP.mk (cs' := CU b i2 w2) (x := .agg [.t .nl false]) (v := .agg [.t .nl]) (by simp) (by simp) (by simp [rowsE]) ⟨⟨[], by simp, .inr ⟨rfl, rfl⟩⟩, i2, w2, hi2, rfl⟩
    · simp at hc
  by_cases k2 : k = 2
  · subst k2
    have hr5 : ([0, 1, 2, 3, 4] : List Nat) = List.range 5 := rfl
    repeat' first|refine nx ?_|refine xb_miss (by decide) ?_|(apply W_reg;(simp [c1, c2];exact .r _))
    refine W_cond (by simp; exact .r _) (fun hc => ?_) (fun hc => ?_)
    · simp at hc
    repeat' first|refine nx ?_|refine xb_miss (by decide) ?_|(apply W_reg;(simp;exact .r _))
    refine W_cond (by simp; exact .r _) (fun hc => ?_) (fun hc => ?_)
    · simp at hc
    repeat' first|refine nx ?_|refine xb_miss (by decide) ?_|(apply W_reg;(simp;exact .r _))
    refine W_cond (by simp; exact .r _) (fun hc => ?_) (fun hc => ?_)
    · repeat' first|refine nx ?_|refine xb_miss (by decide) ?_|(apply W_reg;(simp [hr5];exact .r _))
      exact EndsP.mk (cs' := CU b i2 w2) (x := .agg [.own 1 (rowsE ([1, 2, 3, 1, 2] : List Int))]) (v := .agg [.ref 4 5 []]) (by simp) (by simp) (by simp [rowsE]) ⟨⟨[1, 2, 3, 1, 2], by simp, .inl rfl⟩, i2, w2, hi2, rfl⟩
    · simp at hc
  repeat' first|refine nx ?_|refine xb_miss (by decide) ?_|(apply W_reg;(simp [c1, c2, k0, k1, k2];exact .r _))
  refine W_cond (by simp; exact .r _) (fun hc => ?_) (fun hc => ?_)
  · simp at hc
  repeat' first|refine nx ?_|refine xb_miss (by decide) ?_|(apply W_reg;(simp [k1, k2];exact .r _))
  refine W_cond (by simp; exact .r _) (fun hc => ?_) (fun hc => ?_)
  · simp at hc
  repeat' first|refine nx ?_|refine xb_miss (by decide) ?_|(apply W_reg;(simp [k2];exact .r _))
  refine W_cond (by simp; exact .r _) (fun hc => ?_) (fun hc => ?_)
  · simp at hc
  repeat' first|refine nx ?_|refine xb_miss (by decide) ?_|(apply W_reg;(simp;exact .r _))
  exact EndsP.mk (cs' := CU b i2 w2) (x := .agg [.own 1 (rowsE A)]) (v := .agg [.ref 2 A.length []]) (by simp) (by simp) (by simp [rowsE]) ⟨⟨A, by omega, .inl rfl⟩, i2, w2, hi2, rfl⟩
theorem l4Safe_r (c : Sch) (sc : Sm c.arity) : Ret XX 118 [Ag c] (if isSch c then .agg [.t (.sl (rowsE c.arity)) true] else .agg [.own 1 (rowsE ([2, 1] : List Int))]) := by
  refine ret_W rfl Try.func118 rfl rfl (by simp [Try.f118]) ?_
  simp only [Try.f118]
  have c1 := cv (specIsSchema_r c sc)
  simp only [Ag, cells_Sch, List.map_cons, List.map_nil] at c1
  have hr2 : ([0, 1] : List Nat) = List.range 2 := rfl
  cases e : isSch c
  · repeat' first|refine nx ?_|refine xb_miss (by decide) ?_|(apply W_reg;(simp [Ag, c1, e];exact .r _))
    refine W_cond (by simp; exact .r _) (fun hc => ?_) (fun hc => ?_)
    · repeat' first|refine nx ?_|refine xb_miss (by decide) ?_|(apply W_reg;(simp [hr2];exact .r _))
      simp [rowsE]
    · cases hc
  · repeat' first|refine nx ?_|refine xb_miss (by decide) ?_|(apply W_reg;(simp [Ag, c1, e];exact .r _))
    refine W_cond (by simp; exact .r _) (fun hc => ?_) (fun hc => ?_)
    · cases hc
    repeat' first|refine nx ?_|refine xb_miss (by decide) ?_|(apply W_reg;(simp;exact .r _))
    simp
/-- A schema whose facts can be drawn. -/
def Dr (c : Sch) : Prop := 1 ≤ c.arity.length ∧ c.arity.length ≤ 5 ∧ ∀ n ∈ c.arity, 1 ≤ n ∧ n ≤ 3
theorem dr_sch {c : Sch} (h : isSch c = true) : Dr c := by
  simp only [isSch, Bool.and_eq_true, List.all_eq_true, inR, decide_eq_true_eq] at h
  exact ⟨by omega, by omega, h.1⟩
theorem dr_21 : Dr ⟨[2, 1]⟩ := ⟨by simp, by simp, fun n hn => by simp at hn; omega⟩
theorem l5Fact_p (b : List By) (i : Nat) (h : Int) (c : Sch) (hb : Sm b) (hi : i ≤ b.length) (hc : Dr c) : ∃ x cs', ((∃ a : RA, a.args.length ≤ 3 ∧ a.args ≠ [] ∧ x = xvF a) ∧ CQ b cs') ∧ RetP XX 120 (CU b i h) [Ag c] x cs' := by
  refine ret_PW rfl Try.func120 rfl rfl (by simp [Try.f120]) ?_
  simp only [Try.f120]
  obtain ⟨x, cs', ⟨⟨k, hk, rfl⟩, i1, w1, hi1, rfl⟩, hr⟩ := l1Below_p b i h c.arity.length hb hi (by have := hc.2.1; omega)
  have c1 := cvP hr
  simp only [CU, List.map_cons, List.map_nil] at c1 ⊢
  have hd1 := hc.1
  have hk0 := hk.1
  have hkl : k.toNat < c.arity.length := by have := hk.2.1 (by omega); omega
  have hm := hc.2.2 _ (List.getElem_mem hkl)
  repeat' first|refine nx ?_|refine xb_miss (by decide) ?_|(apply W_reg;(simp [Ag, c1];exact .r _))
  refine W_loop (n := c.arity[k.toNat].toNat) (fun n s => ∃ j : Nat, ∃ i : Nat, ∃ w : Int, ∃ oT : Nat, ∃ A : List Int, n = c.arity[k.toNat].toNat - j ∧ s.nt = 33 ∧ s.tm 0 = .ptr 0 0 ∧ s.tm 3 = .ptr 1 0 ∧ s.tm 4 = .ptr 2 0 ∧ s.tm 5 = .ptr 3 0 ∧ s.tm 6 = In j ∧ i ≤ b.length ∧ s.σ.ob 0 = .box [Ar b, In i, In w] ∧ s.σ.ob 1 = .box [Ar c.arity] ∧ s.σ.ob 2 = .box [In 0, .t .nl] ∧ s.σ.ob 3 = .box [In k, gc oT j] ∧ 4 ≤ s.σ.n ∧ (j : Int) ≤ c.arity[k.toNat] ∧ A.length = j ∧ (j = 0 ∨ (s.σ.ob oT = .arr (.own 0) 0 1 (rowsE A) ∧ 4 ≤ oT ∧ oT < s.σ.n))) ⟨0, i1, w1, 0, [], by (simp; exact ⟨hi1, by omega⟩)⟩ ?_
  rintro n ⟨nt, tm, σ⟩ ⟨j, i, w, oT, A, rfl, hnt, h0, h3, h4, h5, h6, hi, hb0, hb1, hb2, hb3, hn, hj, hA, hT⟩
  simp only at hnt h0 h3 h4 h5 h6 hb0 hb1 hb2 hb3 hn hT
  subst hnt
  have ap4_ := apart hn
  repeat' first|refine nx ?_|refine xb_miss (by decide) ?_|(apply W_reg;(simp [h0, h3, h4, h5, h6, hb0, hb1, hb2, hb3, hn, hT, ap4_, hk0, hkl];exact .r _))
  refine W_cond (by simp [h0, h3, h4, h5, h6, hb0, hb1, hb2, hb3, hn, hT, ap4_]; exact .r _) (fun hc2 => ?_) (fun hc2 => ?_)
  · have hjl : (j : Int) < c.arity[k.toNat] := by simpa using hc2
    obtain ⟨x, cs', ⟨⟨y, hy, rfl⟩, i2, w2, hi2, rfl⟩, hr⟩ := l1Below_p b i w 4 hb hi (by omega)
    have c2 := cvP hr
    simp only [CU, List.map_cons, List.map_nil] at c2
    have hjb : j + 1 < 1099511627776 := by omega
    rcases Nat.eq_zero_or_pos j with z0 | z0
    · subst z0
      repeat' first|refine nx ?_|refine xb_miss (by decide) ?_|(apply W_reg;(simp [h0, h3, h4, h5, h6, hb0, hb1, hb2, hb3, hn, hT, ap4_, c2, flatR];exact .r _))
      refine ⟨_, ?_, 0 + 1, i2, w2, σ.n + 1, [y], rfl, rfl, ?_, ?_, ?_, ?_, ?_, ?_, ?_, ?_, ?_, ?_, ?_, by omega, ?_, (.inr ⟨by (simp [h0, h3, h4, h5, h6, hb0, hb1, hb2, hb3, hn, hT, ap4_, rowsE]), by omega, by simp⟩)⟩
      all_goals first|assumption|(simp [h0, h3, h4, h5, h6, hb0, hb1, hb2, hb3, hn, hT, ap4_];done)|(simp [h0, h3, h4, h5, h6, hb0, hb1, hb2, hb3, hn, hT, ap4_];omega)|(simp [h0, h3, h4, h5, h6, hb0, hb1, hb2, hb3, hn, hT, ap4_];exact wrap_succ (by omega))|omega
    · obtain ⟨hT1, hT2, hT3⟩ := hT.resolve_left (by omega)
      have hgc := gc_pos (o := oT) (show j ≠ 0 by omega)
      have ap5_ := apart hT3
      have ne6_ : ¬ (oT = 0) := by omega
      have ne7_ : ¬ (0 = oT) := by omega
      have ne8_ : ¬ (oT = 1) := by omega
      have ne9_ : ¬ (1 = oT) := by omega
      have ne10_ : ¬ (oT = 2) := by omega
      have ne11_ : ¬ (2 = oT) := by omega
      have ne12_ : ¬ (oT = 3) := by omega
      have ne13_ : ¬ (3 = oT) := by omega
      repeat' first|refine nx ?_|refine xb_miss (by decide) ?_|(apply W_reg;(simp [h0, h3, h4, h5, h6, hb0, hb1, hb2, hb3, hn, hT, ap4_, hT1, ap5_, ne6_, ne7_, ne8_, ne9_, ne10_, ne11_, ne12_, ne13_, c2, flatR, hgc, hjb, hA];exact .r _))
      refine ⟨_, ?_, j + 1, i2, w2, oT, A ++ [y], rfl, rfl, ?_, ?_, ?_, ?_, ?_, ?_, ?_, ?_, ?_, ?_, ?_, by omega, (by simp [hA]), (.inr ⟨by (simp [h0, h3, h4, h5, h6, hb0, hb1, hb2, hb3, hn, hT, ap4_, hT1, ap5_, ne6_, ne7_, ne8_, ne9_, ne10_, ne11_, ne12_, ne13_, rowsE]), hT2, by (simp; omega)⟩)⟩
      all_goals first|assumption|(simp [h0, h3, h4, h5, h6, hb0, hb1, hb2, hb3, hn, hT, ap4_, hT1, ap5_, ne6_, ne7_, ne8_, ne9_, ne10_, ne11_, ne12_, ne13_];done)|(simp [h0, h3, h4, h5, h6, hb0, hb1, hb2, hb3, hn, hT, ap4_, hT1, ap5_, ne6_, ne7_, ne8_, ne9_, ne10_, ne11_, ne12_, ne13_];omega)|(simp [h0, h3, h4, h5, h6, hb0, hb1, hb2, hb3, hn, hT, ap4_, hT1, ap5_, ne6_, ne7_, ne8_, ne9_, ne10_, ne11_, ne12_, ne13_];exact wrap_succ (by omega))|omega
  · have hjl : (j : Int) = c.arity[k.toNat] := by simp at hc2; omega
    have hj0 : j ≠ 0 := by omega
    obtain ⟨hT1, hT2, hT3⟩ := hT.resolve_left hj0
    have hgc := gc_pos (o := oT) hj0
    have ap14_ := apart hn
    have ap15_ := apart hT3
    have ne16_ : ¬ (oT = 0) := by omega
    have ne17_ : ¬ (0 = oT) := by omega
    have ne18_ : ¬ (oT = 1) := by omega
    have ne19_ : ¬ (1 = oT) := by omega
    have ne20_ : ¬ (oT = 2) := by omega
    have ne21_ : ¬ (2 = oT) := by omega
    have ne22_ : ¬ (oT = 3) := by omega
    have ne23_ : ¬ (3 = oT) := by omega
    repeat' first|refine nx ?_|refine xb_miss (by decide) ?_|(apply W_reg;(simp [h0, h3, h4, h5, h6, hb0, hb1, hb2, hb3, hn, hT1, ap14_, ap15_, ne16_, ne17_, ne18_, ne19_, ne20_, ne21_, ne22_, ne23_, hgc];exact .r _))
    exact EndsP.mk (cs' := CU b i w) (x := xvF ⟨k, A⟩) (v := .agg [In k, .ref oT j []]) (by simp [h0, h3, h4, h5, h6, hb0, hb1, hb2, hb3, hn, hT1, ap14_, ap15_, ne16_, ne17_, ne18_, ne19_, ne20_, ne21_, ne22_, ne23_, hgc]) (by simp [h0, h3, h4, h5, h6, hb0, hb1, hb2, hb3, hn, hT1, ap14_, ap15_, ne16_, ne17_, ne18_, ne19_, ne20_, ne21_, ne22_, ne23_]) (by simp [h0, h3, h4, h5, h6, hb0, hb1, hb2, hb3, hn, hT1, ap14_, ap15_, ne16_, ne17_, ne18_, ne19_, ne20_, ne21_, ne22_, ne23_, hA]) ⟨⟨⟨k, A⟩, by simp only; omega, fun e => by simp only at e; rw [e] at hA; exact hj0 hA.symm, rfl⟩, i, w, hi, rfl⟩
end Go.Proofs.Ytlehbgapjibeeaa.V

namespace Go.Proofs.Ytlehbgapjibeeaa.V
open Go Go.Proofs
set_option linter.unusedVariables false
set_option linter.unusedSimpArgs false
theorem putF_bd (f : RA) : ∀ (d : Bool) (l : List RA), (putF f d l).length ≤ l.length + 1 ∧ ∀ a ∈ putF f d l, a = f ∨ a ∈ l
  | true, [] => by simp [putF]
  | false, [] => by simp [putF]
  | true, x :: l => by
    rw [putF]
    obtain ⟨h1, h2⟩ := putF_bd f true l
    refine ⟨by simp; omega, fun a ha => ?_⟩
    rcases List.mem_cons.1 ha with rfl | ha
    · simp
    · rcases h2 a ha with h | h <;> simp [h]
  | false, x :: l => by
    rw [putF]
    split
    · obtain ⟨h1, h2⟩ := putF_bd f false l
      refine ⟨by simp; omega, fun a ha => ?_⟩
      rcases List.mem_cons.1 ha with rfl | ha
      · simp
      · rcases h2 a ha with h | h <;> simp [h]
    · obtain ⟨h1, h2⟩ := putF_bd f true l
      split
      · refine ⟨by simp; omega, fun a ha => ?_⟩
        rcases List.mem_cons.1 ha with rfl | ha
        · simp
        · rcases h2 a ha with h | h <;> simp [h]
      · rw [putF_t]
        refine ⟨by simp, fun a ha => ?_⟩
        simpa using ha
/-- A drawn database. -/
def DbS (n k : Nat) (db : List RA) : Prop := db.length ≤ n ∧ ∀ a ∈ db, a.args.length ≤ k
theorem DbS.sm {n k : Nat} {db : List RA} (h : DbS n k db) (hn : n ≤ 1000) (hk : k ≤ 1000) : SmF db := ⟨by have := h.1; unfold Sm; omega, fun a ha => by have := h.2 a ha; unfold Sm; omega⟩
theorem l5Db_p (b : List By) (i : Nat) (h : Int) (c : Sch) (hb : Sm b) (hi : i ≤ b.length) (hc : Dr c) : ∃ x cs', ((∃ db : List RA, DbS 8 3 db ∧ x = .own 2 (rowsE db)) ∧ CQ b cs') ∧ RetP XX 117 (CU b i h) [Ag c] x cs' := by
  refine ret_PW rfl Try.func117 rfl rfl (by simp [Try.f117]) ?_
  simp only [Try.f117]
  obtain ⟨x, cs', ⟨⟨k, hk, rfl⟩, i1, w1, hi1, rfl⟩, hr⟩ := l1Below_p b i h 9 hb hi (by omega)
  have c1 := cvP hr
  simp only [CU, List.map_cons, List.map_nil] at c1 ⊢
  have hk3 := hk.2.1 (by omega)
  repeat' first|refine nx ?_|refine xb_miss (by decide) ?_|(apply W_reg;(simp [Ag, c1];exact .r _))
  refine W_loop (n := (k.toNat * 2)) (fun n s => ∃ m : Nat, ∃ i : Nat, ∃ w : Int, ∃ oD : Nat, ∃ D : List RA, n = m * 2 ∧ s.nt = 20 ∧ s.tm 0 = .ptr 0 0 ∧ s.tm 3 = .ptr 1 0 ∧ s.tm 5 = .ref oD D.length [] ∧ s.tm 6 = In m ∧ i ≤ b.length ∧ s.σ.ob 0 = .box [Ar b, In i, In w] ∧ s.σ.ob 1 = .box [Ar c.arity] ∧ 2 ≤ oD ∧ oD < s.σ.n ∧ s.σ.ob oD = .arr (.own 0) 0 2 (rowsE D) ∧ 3 ≤ s.σ.n ∧ D.length + m ≤ 8 ∧ (∀ a ∈ D, a.args.length ≤ 3)) ⟨k.toNat, i1, w1, 2, [], by (simp; exact ⟨by omega, hi1, by omega⟩)⟩ ?_
  rintro n ⟨nt, tm, σ⟩ ⟨m, i, w, oD, D, rfl, hnt, h0, h3, h5, h6, hi, hb0, hb1, hoD1, hoD2, hbD, hn, hD, hDa⟩
  simp only at hnt h0 h3 h5 h6 hb0 hb1 hoD2 hbD hn
  subst hnt
  have ap1_ := apart hn
  have ap2_ := apart hoD2
  have ne3_ : ¬ (oD = 0) := by omega
  have ne4_ : ¬ (0 = oD) := by omega
  have ne5_ : ¬ (oD = 1) := by omega
  have ne6_ : ¬ (1 = oD) := by omega
  repeat' first|refine nx ?_|refine xb_miss (by decide) ?_|(apply W_reg;(simp [h0, h3, h5, h6, hb0, hb1, hoD2, hbD, hn, ap1_, ap2_, ne3_, ne4_, ne5_, ne6_];exact .r _))
  refine W_cond (by simp [h0, h3, h5, h6, hb0, hb1, hoD2, hbD, hn, ap1_, ap2_, ne3_, ne4_, ne5_, ne6_]; exact .r _) (fun hc2 => ?_) (fun hc2 => ?_)
  · have hm : 0 < m := by simpa using hc2
    obtain ⟨x, cs', ⟨⟨a, ha1, ha2, rfl⟩, i2, w2, hi2, rfl⟩, hr⟩ := l5Fact_p b i w c hb hi hc
    have c2 := cvP hr
    have hDs : SmF D := ⟨by unfold Sm; omega, fun a ha => by have := hDa a ha; unfold Sm; omega⟩
    have c3 := cv (l5Put_r D a hDs (by unfold Sm; omega))
    simp only [CU, Ag, cells_Sch, cells_RA, List.map_cons, List.map_nil] at c2 c3
    obtain ⟨p1, p2⟩ := putF_bd a false D
    have wr7_ : IntKind.i64.wrap ((m : Int) - 1) = (m : Int) - 1 := wrap_ok (by omega) (by omega)
    repeat' first|refine nx ?_|refine xb_miss (by decide) ?_|(apply W_reg;(simp [h0, h3, h5, h6, hb0, hb1, hoD2, hbD, hn, ap1_, ap2_, ne3_, ne4_, ne5_, ne6_, wr7_, c2, c3];exact .r _))
    refine ⟨_, ?_, m - 1, i2, w2, σ.n + 1, putF a false D, rfl, rfl, ?_, ?_, ?_, (by simp [h0, h3, h5, h6, hb0, hb1, hoD2, hbD, hn, ap1_, ap2_, ne3_, ne4_, ne5_, ne6_, wr7_]; omega), ?_, ?_, ?_, by omega, ?_, ?_, ?_, (by omega), (fun x hx => by (rcases p2 x hx with h | h; (rw [h]; exact ha1); exact hDa x h))⟩
    all_goals first|assumption|(simp [h0, h3, h5, h6, hb0, hb1, hoD2, hbD, hn, ap1_, ap2_, ne3_, ne4_, ne5_, ne6_, wr7_];done)|(simp [h0, h3, h5, h6, hb0, hb1, hoD2, hbD, hn, ap1_, ap2_, ne3_, ne4_, ne5_, ne6_, wr7_];omega)|(simp [h0, h3, h5, h6, hb0, hb1, hoD2, hbD, hn, ap1_, ap2_, ne3_, ne4_, ne5_, ne6_, wr7_];exact wrap_succ (by omega))|omega
  · have hm : m = 0 := by simpa using hc2
    subst hm
    repeat' first|refine nx ?_|refine xb_miss (by decide) ?_|(apply W_reg;(simp [h0, h3, h5, h6, hb0, hb1, hoD2, hbD, hn, ap1_, ap2_, ne3_, ne4_, ne5_, ne6_];exact .r _))
    exact EndsP.mk (cs' := CU b i w) (x := .own 2 (rowsE D)) (v := .ref oD D.length []) (by simp [h0, h3, h5, h6, hb0, hb1, hoD2, hbD, hn, ap1_, ap2_, ne3_, ne4_, ne5_, ne6_]) (by simp [h0, h3, h5, h6, hb0, hb1, hoD2, hbD, hn, ap1_, ap2_, ne3_, ne4_, ne5_, ne6_]) (by simp [h0, h3, h5, h6, hb0, hb1, hoD2, hbD, hn, ap1_, ap2_, ne3_, ne4_, ne5_, ne6_]) ⟨⟨D, ⟨by omega, hDa⟩, rfl⟩, i, w, hi, rfl⟩
theorem W_mid {P : Program} {M : Nat → Bool} {G : Giv} {c : Code} {s : VS} {N : VS → Prop} {X : Nat → VS → Prop} {K : VS → Prop} (Q : VS → Prop) (h1 : W P M G c s Q X K) (h2 : ∀ s2, Q s2 → N s2) : W P M G c s N X K := h1.mono h2 (fun _ _ h => h) (fun _ h => h)
theorem l5AnyFact_p (b : List By) (i : Nat) (h : Int) (c : Sch) (hb : Sm b) (hi : i ≤ b.length) (hc : c.arity.length ≤ 5) : ∃ x cs', ((∃ a : RA, a.args.length ≤ 4 ∧ x = xvF a) ∧ CQ b cs') ∧ RetP XX 88 (CU b i h) [Ag c] x cs' := by
  refine ret_PW rfl Try.func88 rfl rfl (by simp [Try.f88]) ?_
  simp only [Try.f88]
  have c1 := cv (l4Safe_r c (by unfold Sm; omega))
  simp only [CU, Ag, cells_Sch, List.map_cons, List.map_nil] at c1 ⊢
  refine W_seq ?_
  apply W_reg; (simp; exact .r _)
  refine W_seq ?_
  refine W_mid (fun s2 => ∃ (a : RA) (i1 : Nat) (w1 : Int) (p oA : Nat), s2.nt = 37 ∧ s2.tm 0 = .ptr 0 0 ∧ s2.tm 4 = .ptr 2 0 ∧ s2.tm 5 = .ptr p 0 ∧ i1 ≤ b.length ∧ a.args.length ≤ 3 ∧ a.args ≠ [] ∧ s2.σ.ob 0 = .box [Ar b, In i1, In w1] ∧ s2.σ.ob 2 = .box [In 0, .t .nl] ∧ s2.σ.ob p = .box [In a.rel, .ref oA a.args.length []] ∧ s2.σ.ob oA = .arr (.own 0) 0 1 (rowsE a.args) ∧ 3 ≤ p ∧ 3 ≤ oA ∧ p ≠ oA ∧ p < s2.σ.n ∧ oA < s2.σ.n) ?_ ?_
  · cases e : isSch c
    · obtain ⟨x, cs', ⟨⟨a, ha1, ha2, rfl⟩, i1, w1, hi1, rfl⟩, hr⟩ := l5Fact_p b i h ⟨[2, 1]⟩ hb hi dr_21
      have c2 := cvP hr
      rw [e] at c1
      simp only [CU, Ag, cells_Sch, List.map_cons, List.map_nil, Bool.false_eq_true, if_false] at c1 c2
      repeat' first|refine nx ?_|refine xb_miss (by decide) ?_|(apply W_reg;(simp [c1, c2];exact .r _))
      exact ⟨a, i1, w1, 5, 4, rfl, by simp, by simp, by simp, hi1, ha1, ha2, by simp, by simp, by simp, by simp, by omega, by omega, by omega, by simp, by simp⟩
    · obtain ⟨x, cs', ⟨⟨a, ha1, ha2, rfl⟩, i1, w1, hi1, rfl⟩, hr⟩ := l5Fact_p b i h c hb hi (dr_sch e)
      have c2 := cvP hr
      rw [e] at c1
      simp only [CU, Ag, cells_Sch, List.map_cons, List.map_nil, if_true] at c1 c2
      repeat' first|refine nx ?_|refine xb_miss (by decide) ?_|(apply W_reg;(simp [c1, c2];exact .r _))
      exact ⟨a, i1, w1, 4, 3, rfl, by simp, by simp, by simp, hi1, ha1, ha2, by simp, by simp, by simp, by simp, by omega, by omega, by omega, by simp, by simp⟩
  rintro ⟨nt, tm, σ⟩ ⟨a, i1, w1, p, oA, q1, q2, q3, q4, hi1, ha1, ha2, q5, q6, q7, q8, q9, q10, q11, q12, q13⟩
  simp only at q1 q2 q3 q4 q5 q6 q7 q8 q12 q13
  subst q1
  obtain ⟨x, cs', ⟨⟨k, hk, rfl⟩, i2, w2, hi2, rfl⟩, hr⟩ := l1Below_p b i1 w1 10 hb hi1 (by omega)
  have c3 := cvP hr
  obtain ⟨x, cs', ⟨⟨y, hy, rfl⟩, i3, w3, hi3, rfl⟩, hr⟩ := l1PickInt_p b i2 w2 [0, 99, 100, -1] hb hi2 (by simp)
  have c4 := cvP hr
  obtain ⟨x, cs', ⟨⟨y2, hy2, rfl⟩, i4, w4, hi4, rfl⟩, hr⟩ := l1PickInt_p b i2 w2 [-1, 3, 4] hb hi2 (by simp)
  have c5 := cvP hr
  obtain ⟨x, cs', ⟨⟨y3, hy3, rfl⟩, i5, w5, hi5, rfl⟩, hr⟩ := l1PickInt_p b i2 w2 [99, 100, -1] hb hi2 (by simp)
  have c6 := cvP hr
  simp only [CU, List.map_cons, List.map_nil] at c3 c4 c5 c6
  rw [show Ar ([0, 99, 100, -1] : List Int) = .t (.sl [[.i .i64 0], [.i .i64 99], [.i .i64 100], [.i .i64 (-1)]]) from rfl] at c4
  rw [show Ar ([-1, 3, 4] : List Int) = .t (.sl [[.i .i64 (-1)], [.i .i64 3], [.i .i64 4]]) from rfl] at c5
  rw [show Ar ([99, 100, -1] : List Int) = .t (.sl [[.i .i64 99], [.i .i64 100], [.i .i64 (-1)]]) from rfl] at c6
  have hr3 : ([0, 1, 2] : List Nat) = List.range 3 := rfl
  have hr4 : ([0, 1, 2, 3] : List Nat) = List.range 4 := rfl
  have hAb : a.args.length + 1 < 1099511627776 := by omega
  have hn3 : 3 ≤ σ.n := by omega
  have ap8_ := apart hn3
  have ap9_ := apart q12
  have ap10_ := apart q13
  have ne11_ : ¬ (p = 0) := by omega
  have ne12_ : ¬ (0 = p) := by omega
  have ne13_ : ¬ (p = 1) := by omega
  have ne14_ : ¬ (1 = p) := by omega
  have ne15_ : ¬ (p = 2) := by omega
  have ne16_ : ¬ (2 = p) := by omega
  have ne17_ : ¬ (oA = 0) := by omega
  have ne18_ : ¬ (0 = oA) := by omega
  have ne19_ : ¬ (oA = 1) := by omega
  have ne20_ : ¬ (1 = oA) := by omega
  have ne21_ : ¬ (oA = 2) := by omega
  have ne22_ : ¬ (2 = oA) := by omega
  have ne23_ : ¬ (p = oA) := by omega
  have ne24_ : ¬ (oA = p) := by omega
  by_cases k0 : k = 0
  · subst k0
    repeat' first|refine nx ?_|refine xb_miss (by decide) ?_|(apply W_reg;(simp [q2, q3, q4, q5, q6, q7, q8, ap8_, ap9_, ap10_, ne11_, ne12_, ne13_, ne14_, ne15_, ne16_, ne17_, ne18_, ne19_, ne20_, ne21_, ne22_, ne23_, ne24_, c3];exact .r _))
    refine W_cond (by simp [q2, q3, q4, q5, q6, q7, q8, ap8_, ap9_, ap10_, ne11_, ne12_, ne13_, ne14_, ne15_, ne16_, ne17_, ne18_, ne19_, ne20_, ne21_, ne22_, ne23_, ne24_]; exact .r _) (fun hc2 => ?_) (fun hc2 => ?_)
    · repeat' first|refine nx ?_|refine xb_miss (by decide) ?_|(apply W_reg;(simp [q2, q3, q4, q5, q6, q7, q8, ap8_, ap9_, ap10_, ne11_, ne12_, ne13_, ne14_, ne15_, ne16_, ne17_, ne18_, ne19_, ne20_, ne21_, ne22_, ne23_, ne24_, c4, hr4, hAb, flatR];exact .r _))|(apply W_draw (id := 4) [0,1,0,0,12,28,63,127,255] rfl rfl; (· simp; exact .r _); (· simp [q2, q3, q4, q5, q6, q7, q8, ap8_, ap9_, ap10_, ne11_, ne12_, ne13_, ne14_, ne15_, ne16_, ne17_, ne18_, ne19_, ne20_, ne21_, ne22_, ne23_, ne24_, c4, hr4, hAb, flatR]; exact .r _); (· first|trivial|simp))
      exact EndsP.mk (cs' := CU b i3 w3) (x := xvF ⟨a.rel, a.args ++ [y]⟩) (v := .agg [In a.rel, .ref oA (a.args.length + 1) []]) (by simp [q2, q3, q4, q5, q6, q7, q8, ap8_, ap9_, ap10_, ne11_, ne12_, ne13_, ne14_, ne15_, ne16_, ne17_, ne18_, ne19_, ne20_, ne21_, ne22_, ne23_, ne24_]) (by simp [q2, q3, q4, q5, q6, q7, q8, ap8_, ap9_, ap10_, ne11_, ne12_, ne13_, ne14_, ne15_, ne16_, ne17_, ne18_, ne19_, ne20_, ne21_, ne22_, ne23_, ne24_]) (by simp [q2, q3, q4, q5, q6, q7, q8, ap8_, ap9_, ap10_, ne11_, ne12_, ne13_, ne14_, ne15_, ne16_, ne17_, ne18_, ne19_, ne20_, ne21_, ne22_, ne23_, ne24_, rowsE]) ⟨⟨⟨a.rel, a.args ++ [y]⟩, by simp; omega, rfl⟩, i3, w3, hi3, rfl⟩
    · simp at hc2
  by_cases k1 : k = 1
  · subst k1
    repeat' first|refine nx ?_|refine xb_miss (by decide) ?_|(apply W_reg;(simp [q2, q3, q4, q5, q6, q7, q8, ap8_, ap9_, ap10_, ne11_, ne12_, ne13_, ne14_, ne15_, ne16_, ne17_, ne18_, ne19_, ne20_, ne21_, ne22_, ne23_, ne24_, c3];exact .r _))
    refine W_cond (by simp [q2, q3, q4, q5, q6, q7, q8, ap8_, ap9_, ap10_, ne11_, ne12_, ne13_, ne14_, ne15_, ne16_, ne17_, ne18_, ne19_, ne20_, ne21_, ne22_, ne23_, ne24_]; exact .r _) (fun hc2 => ?_) (fun hc2 => ?_)
    · simp at hc2
    repeat' first|refine nx ?_|refine xb_miss (by decide) ?_|(apply W_reg;(simp [q2, q3, q4, q5, q6, q7, q8, ap8_, ap9_, ap10_, ne11_, ne12_, ne13_, ne14_, ne15_, ne16_, ne17_, ne18_, ne19_, ne20_, ne21_, ne22_, ne23_, ne24_];exact .r _))
    refine W_cond (by simp [q2, q3, q4, q5, q6, q7, q8, ap8_, ap9_, ap10_, ne11_, ne12_, ne13_, ne14_, ne15_, ne16_, ne17_, ne18_, ne19_, ne20_, ne21_, ne22_, ne23_, ne24_]; exact .r _) (fun hc2 => ?_) (fun hc2 => ?_)
    · repeat' first|refine nx ?_|refine xb_miss (by decide) ?_|(apply W_reg;(simp [q2, q3, q4, q5, q6, q7, q8, ap8_, ap9_, ap10_, ne11_, ne12_, ne13_, ne14_, ne15_, ne16_, ne17_, ne18_, ne19_, ne20_, ne21_, ne22_, ne23_, ne24_, c5, hr3];exact .r _))
      exact EndsP.mk (cs' := CU b i4 w4) (x := xvF ⟨y2, a.args⟩) (v := .agg [In y2, .ref oA a.args.length []]) (by simp [q2, q3, q4, q5, q6, q7, q8, ap8_, ap9_, ap10_, ne11_, ne12_, ne13_, ne14_, ne15_, ne16_, ne17_, ne18_, ne19_, ne20_, ne21_, ne22_, ne23_, ne24_]) (by simp [q2, q3, q4, q5, q6, q7, q8, ap8_, ap9_, ap10_, ne11_, ne12_, ne13_, ne14_, ne15_, ne16_, ne17_, ne18_, ne19_, ne20_, ne21_, ne22_, ne23_, ne24_]) (by simp [q2, q3, q4, q5, q6, q7, q8, ap8_, ap9_, ap10_, ne11_, ne12_, ne13_, ne14_, ne15_, ne16_, ne17_, ne18_, ne19_, ne20_, ne21_, ne22_, ne23_, ne24_]) ⟨⟨⟨y2, a.args⟩, by simp only; omega, rfl⟩, i4, w4, hi4, rfl⟩
    · simp at hc2
  by_cases k2 : k = 2
  · subst k2
    have hal : 0 < a.args.length := List.length_pos_iff.2 ha2
    repeat' first|refine nx ?_|refine xb_miss (by decide) ?_|(apply W_reg;(simp [q2, q3, q4, q5, q6, q7, q8, ap8_, ap9_, ap10_, ne11_, ne12_, ne13_, ne14_, ne15_, ne16_, ne17_, ne18_, ne19_, ne20_, ne21_, ne22_, ne23_, ne24_, c3];exact .r _))
    refine W_cond (by simp [q2, q3, q4, q5, q6, q7, q8, ap8_, ap9_, ap10_, ne11_, ne12_, ne13_, ne14_, ne15_, ne16_, ne17_, ne18_, ne19_, ne20_, ne21_, ne22_, ne23_, ne24_]; exact .r _) (fun hc2 => ?_) (fun hc2 => ?_)
    · simp at hc2
    repeat' first|refine nx ?_|refine xb_miss (by decide) ?_|(apply W_reg;(simp [q2, q3, q4, q5, q6, q7, q8, ap8_, ap9_, ap10_, ne11_, ne12_, ne13_, ne14_, ne15_, ne16_, ne17_, ne18_, ne19_, ne20_, ne21_, ne22_, ne23_, ne24_];exact .r _))
    refine W_cond (by simp [q2, q3, q4, q5, q6, q7, q8, ap8_, ap9_, ap10_, ne11_, ne12_, ne13_, ne14_, ne15_, ne16_, ne17_, ne18_, ne19_, ne20_, ne21_, ne22_, ne23_, ne24_]; exact .r _) (fun hc2 => ?_) (fun hc2 => ?_)
    · simp at hc2
    repeat' first|refine nx ?_|refine xb_miss (by decide) ?_|(apply W_reg;(simp [q2, q3, q4, q5, q6, q7, q8, ap8_, ap9_, ap10_, ne11_, ne12_, ne13_, ne14_, ne15_, ne16_, ne17_, ne18_, ne19_, ne20_, ne21_, ne22_, ne23_, ne24_];exact .r _))
    refine W_cond (by simp [q2, q3, q4, q5, q6, q7, q8, ap8_, ap9_, ap10_, ne11_, ne12_, ne13_, ne14_, ne15_, ne16_, ne17_, ne18_, ne19_, ne20_, ne21_, ne22_, ne23_, ne24_]; exact .r _) (fun hc2 => ?_) (fun hc2 => ?_)
    · repeat' first|refine nx ?_|refine xb_miss (by decide) ?_|(apply W_reg;(simp [q2, q3, q4, q5, q6, q7, q8, ap8_, ap9_, ap10_, ne11_, ne12_, ne13_, ne14_, ne15_, ne16_, ne17_, ne18_, ne19_, ne20_, ne21_, ne22_, ne23_, ne24_, c6, hr3, hal];exact .r _))|(apply W_draw (id := 8) [0,1,0,0,12,31,63] rfl rfl; (· simp; exact .r _); (· simp [q2, q3, q4, q5, q6, q7, q8, ap8_, ap9_, ap10_, ne11_, ne12_, ne13_, ne14_, ne15_, ne16_, ne17_, ne18_, ne19_, ne20_, ne21_, ne22_, ne23_, ne24_, c6, hr3, hal]; exact .r _); (· first|trivial|simp))
      exact EndsP.mk (cs' := CU b i5 w5) (x := xvF ⟨a.rel, a.args.set 0 y3⟩) (v := .agg [In a.rel, .ref oA a.args.length []]) (by simp [q2, q3, q4, q5, q6, q7, q8, ap8_, ap9_, ap10_, ne11_, ne12_, ne13_, ne14_, ne15_, ne16_, ne17_, ne18_, ne19_, ne20_, ne21_, ne22_, ne23_, ne24_]) (by simp [q2, q3, q4, q5, q6, q7, q8, ap8_, ap9_, ap10_, ne11_, ne12_, ne13_, ne14_, ne15_, ne16_, ne17_, ne18_, ne19_, ne20_, ne21_, ne22_, ne23_, ne24_]) (by simp [q2, q3, q4, q5, q6, q7, q8, ap8_, ap9_, ap10_, ne11_, ne12_, ne13_, ne14_, ne15_, ne16_, ne17_, ne18_, ne19_, ne20_, ne21_, ne22_, ne23_, ne24_, rowsE_set, putT]) ⟨⟨⟨a.rel, a.args.set 0 y3⟩, by simp; omega, rfl⟩, i5, w5, hi5, rfl⟩
    · simp at hc2
  repeat' first|refine nx ?_|refine xb_miss (by decide) ?_|(apply W_reg;(simp [q2, q3, q4, q5, q6, q7, q8, ap8_, ap9_, ap10_, ne11_, ne12_, ne13_, ne14_, ne15_, ne16_, ne17_, ne18_, ne19_, ne20_, ne21_, ne22_, ne23_, ne24_, c3, k0, k1, k2];exact .r _))
  refine W_cond (by simp [q2, q3, q4, q5, q6, q7, q8, ap8_, ap9_, ap10_, ne11_, ne12_, ne13_, ne14_, ne15_, ne16_, ne17_, ne18_, ne19_, ne20_, ne21_, ne22_, ne23_, ne24_]; exact .r _) (fun hc2 => ?_) (fun hc2 => ?_)
  · simp at hc2
  repeat' first|refine nx ?_|refine xb_miss (by decide) ?_|(apply W_reg;(simp [q2, q3, q4, q5, q6, q7, q8, ap8_, ap9_, ap10_, ne11_, ne12_, ne13_, ne14_, ne15_, ne16_, ne17_, ne18_, ne19_, ne20_, ne21_, ne22_, ne23_, ne24_, k1, k2];exact .r _))
  refine W_cond (by simp [q2, q3, q4, q5, q6, q7, q8, ap8_, ap9_, ap10_, ne11_, ne12_, ne13_, ne14_, ne15_, ne16_, ne17_, ne18_, ne19_, ne20_, ne21_, ne22_, ne23_, ne24_]; exact .r _) (fun hc2 => ?_) (fun hc2 => ?_)
  · simp at hc2
  repeat' first|refine nx ?_|refine xb_miss (by decide) ?_|(apply W_reg;(simp [q2, q3, q4, q5, q6, q7, q8, ap8_, ap9_, ap10_, ne11_, ne12_, ne13_, ne14_, ne15_, ne16_, ne17_, ne18_, ne19_, ne20_, ne21_, ne22_, ne23_, ne24_, k2];exact .r _))
  refine W_cond (by simp [q2, q3, q4, q5, q6, q7, q8, ap8_, ap9_, ap10_, ne11_, ne12_, ne13_, ne14_, ne15_, ne16_, ne17_, ne18_, ne19_, ne20_, ne21_, ne22_, ne23_, ne24_]; exact .r _) (fun hc2 => ?_) (fun hc2 => ?_)
  · simp at hc2
  repeat' first|refine nx ?_|refine xb_miss (by decide) ?_|(apply W_reg;(simp [q2, q3, q4, q5, q6, q7, q8, ap8_, ap9_, ap10_, ne11_, ne12_, ne13_, ne14_, ne15_, ne16_, ne17_, ne18_, ne19_, ne20_, ne21_, ne22_, ne23_, ne24_];exact .r _))
  exact EndsP.mk (cs' := CU b i2 w2) (x := xvF a) (v := .agg [In a.rel, .ref oA a.args.length []]) (by simp [q2, q3, q4, q5, q6, q7, q8, ap8_, ap9_, ap10_, ne11_, ne12_, ne13_, ne14_, ne15_, ne16_, ne17_, ne18_, ne19_, ne20_, ne21_, ne22_, ne23_, ne24_]) (by simp [q2, q3, q4, q5, q6, q7, q8, ap8_, ap9_, ap10_, ne11_, ne12_, ne13_, ne14_, ne15_, ne16_, ne17_, ne18_, ne19_, ne20_, ne21_, ne22_, ne23_, ne24_]) (by simp [q2, q3, q4, q5, q6, q7, q8, ap8_, ap9_, ap10_, ne11_, ne12_, ne13_, ne14_, ne15_, ne16_, ne17_, ne18_, ne19_, ne20_, ne21_, ne22_, ne23_, ne24_]) ⟨⟨a, by omega, rfl⟩, i2, w2, hi2, rfl⟩
/-- How a drawn schema is handed back: as a slice of its own, or as what may be shared. -/
def XS (ar : List Int) (x : XV) : Prop := x = .own 1 (rowsE ar) ∨ ∃ (y : T) (f : Bool), y.nz = .sl (rowsE ar) ∧ x = .t y f
set_option maxRecDepth 10000 in
theorem l5Any_p (b : List By) (i : Nat) (h : Int) (hb : Sm b) (hi : i ≤ b.length) : ∃ x cs', ((∃ (ar : List Int) (db : List RA) (xs : XV), ar.length ≤ 5 ∧ DbS 40 4 db ∧ x = .tup [.agg [xs], .own 2 (rowsE db)] ∧ XS ar xs) ∧ CQ b cs') ∧ RetP XX 84 (CU b i h) [] x cs' := by
  refine ret_PW rfl Try.func84 rfl rfl (by simp [Try.f84]) ?_
  simp only [Try.f84]
  obtain ⟨x, cs', ⟨⟨A, hA, hx⟩, i1, w1, hi1, rfl⟩, hr1⟩ := l3Any_p b i h hb hi
  have c1 := cvP0 hr1
  have hr2 : ([0, 1] : List Nat) = List.range 2 := rfl
  simp only [CU, List.map_cons, List.map_nil]
  rcases hx with rfl | ⟨rfl, rfl⟩
  · have c2 := cv (l4Safe_r ⟨A⟩ (by unfold Sm; simp only; omega))
    cases e : isSch ⟨A⟩
    · rw [e] at c2
      simp only [Bool.false_eq_true, if_false] at c2
      obtain ⟨x, cs', ⟨⟨D, hD, rfl⟩, i3, w3, hi3, rfl⟩, hr⟩ := l5Db_p b i1 w1 ⟨[2, 1]⟩ hb hi1 dr_21
      have c3 := cvP hr
      obtain ⟨x, cs', ⟨⟨k, hk, rfl⟩, i4, w4, hi4, rfl⟩, hr⟩ := l1Below_p b i3 w3 10 hb hi3 (by omega)
      have c4 := cvP hr
      obtain ⟨x, cs', ⟨⟨a, ha, rfl⟩, i5, w5, hi5, rfl⟩, hr⟩ := l5AnyFact_p b i4 w4 ⟨A⟩ hb hi4 hA
      have c5 := cvP hr
      simp only [CU, Ag, cells_Sch, List.map_cons, List.map_nil, rowsE_nil] at c1 c2 c3 c4 c5
      have hDl0 : (A : List Int).length ≤ 5 := hA
      have hDb : D.length + 1 < 1099511627776 := by have := hD.1; omega
      have hDb0 : DbS 40 4 (D ++ [a]) := ⟨by have := hD.1; simp; omega, fun x hx => by
        rcases List.mem_append.1 hx with h | h
        · have := hD.2 x h; omega
        · rw [List.mem_singleton] at h; rw [h]; exact ha⟩
      by_cases k0 : k = 0
      · subst k0
        repeat' first|refine nx ?_|refine xb_miss (by decide) ?_|(apply W_reg;(simp [c1, c2, c3, c4];exact .r _))
        refine W_cond (by simp; exact .r _) (fun hc2 => ?_) (fun hc2 => ?_)
        · repeat' first|refine nx ?_|refine xb_miss (by decide) ?_|(apply W_reg;(simp [c5, hDb, Ag];exact .r _))
          exact EndsP.mk (cs' := CU b i5 w5) (x := .tup [.agg [.t (.sl (rowsE A)) true], .own 2 (rowsE (D ++ [a]))]) (v := .tup [.agg [.ref 2 A.length []], .ref 5 (D.length + 1) []]) (by simp) (by simp) (by simp [rowsE]) ⟨⟨A, D ++ [a], _, hDl0, hDb0, rfl, .inr ⟨_, true, rfl, rfl⟩⟩, i5, w5, hi5, rfl⟩
        · simp at hc2
      by_cases k1 : k = 1
      · subst k1
        repeat' first|refine nx ?_|refine xb_miss (by decide) ?_|(apply W_reg;(simp [c1, c2, c3, c4];exact .r _))
        refine W_cond (by simp; exact .r _) (fun hc2 => ?_) (fun hc2 => ?_)
        · simp at hc2
        repeat' first|refine nx ?_|refine xb_miss (by decide) ?_|(apply W_reg;(simp;exact .r _))
        refine W_cond (by simp; exact .r _) (fun hc2 => ?_) (fun hc2 => ?_)
        · repeat' first|refine nx ?_|refine xb_miss (by decide) ?_|(apply W_reg;(simp;exact .r _))
          refine W_loop (n := 26) (fun n s => ∃ j : Nat, ∃ E : List RA, n = 26 - j ∧ s.nt = 37 ∧ s.tm 2 = .ptr 1 0 ∧ s.tm 4 = .ptr 3 0 ∧ s.tm 5 = .ref 5 E.length [] ∧ s.tm 6 = In j ∧ j ≤ 26 ∧ s.σ.ob 0 = .box [Ar b, In i4, In w4] ∧ s.σ.ob 1 = .box [.t .nl] ∧ s.σ.ob 3 = .box [.ref 2 A.length []] ∧ s.σ.ob 5 = .arr (.own 0) 0 2 (rowsE E) ∧ s.σ.ob 2 = .arr (.own 0) 0 1 (rowsE A) ∧ 6 ≤ s.σ.n ∧ E.length ≤ 8 + j ∧ (∀ a ∈ E, a.args.length ≤ 3)) ⟨0, D, by (simp; exact ⟨hD.1, hD.2⟩)⟩ ?_
          rintro n ⟨nt, tm, σ⟩ ⟨j, E, rfl, hnt, h2, h4, h5, h6, hj, hb0, hb1, hbP, hbO, hb2, hn, hE, hEa⟩
          simp only at hnt h2 h4 h5 h6 hb0 hb1 hbP hbO hb2 hn
          subst hnt
          have ap25_ := apart hn
          repeat' first|refine nx ?_|refine xb_miss (by decide) ?_|(apply W_reg;(simp [h2, h4, h5, h6, hb0, hb1, hbP, hbO, hb2, hn, ap25_];exact .r _))
          refine W_cond (by simp [h2, h4, h5, h6, hb0, hb1, hbP, hbO, hb2, hn, ap25_]; exact .r _) (fun hc3 => ?_) (fun hc3 => ?_)
          · have hjl : j < 26 := by simp at hc3; omega
            have hEb : E.length + 1 < 1099511627776 := by omega
            repeat' first|refine nx ?_|refine xb_miss (by decide) ?_|(apply W_reg;(simp [h2, h4, h5, h6, hb0, hb1, hbP, hbO, hb2, hn, ap25_, hr2, hEb];exact .r _))
            refine ⟨_, ?_, j + 1, E ++ [⟨0, [50, (j : Int)]⟩], rfl, rfl, ?_, ?_, ?_, ?_, by omega, ?_, ?_, ?_, (by simp [h2, h4, h5, h6, hb0, hb1, hbP, hbO, hb2, hn, ap25_, rowsE]), ?_, ?_, (by simp; omega), (fun a ha => by (rcases List.mem_append.1 ha with h | h; (exact hEa a h); (rw [List.mem_singleton] at h; subst h; simp)))⟩
            all_goals first|assumption|(simp [h2, h4, h5, h6, hb0, hb1, hbP, hbO, hb2, hn, ap25_];done)|(simp [h2, h4, h5, h6, hb0, hb1, hbP, hbO, hb2, hn, ap25_];omega)|(simp [h2, h4, h5, h6, hb0, hb1, hbP, hbO, hb2, hn, ap25_];exact wrap_succ (by omega))|omega
          · have hjl : j = 26 := by simp at hc3; omega
            subst hjl
            repeat' first|refine nx ?_|refine xb_miss (by decide) ?_|(apply W_reg;(simp [h2, h4, h5, h6, hb0, hb1, hbP, hbO, hb2, hn, ap25_];exact .r _))
            exact EndsP.mk (cs' := CU b i4 w4) (x := .tup [.agg [.own 1 (rowsE A)], .own 2 (rowsE E)]) (v := .tup [.agg [.ref 2 A.length []], .ref 5 E.length []]) (by simp [h2, h4, h5, h6, hb0, hb1, hbP, hbO, hb2, hn, ap25_]) (by simp [h2, h4, h5, h6, hb0, hb1, hbP, hbO, hb2, hn, ap25_]) (by simp [h2, h4, h5, h6, hb0, hb1, hbP, hbO, hb2, hn, ap25_]) ⟨⟨A, E, _, hDl0, ⟨by omega, fun a ha => by have := hEa a ha; omega⟩, rfl, .inl rfl⟩, i4, w4, hi4, rfl⟩
        · simp at hc2
      repeat' first|refine nx ?_|refine xb_miss (by decide) ?_|(apply W_reg;(simp [c1, c2, c3, c4, k0, k1];exact .r _))
      refine W_cond (by simp; exact .r _) (fun hc2 => ?_) (fun hc2 => ?_)
      · simp at hc2
      repeat' first|refine nx ?_|refine xb_miss (by decide) ?_|(apply W_reg;(simp [k1];exact .r _))
      refine W_cond (by simp; exact .r _) (fun hc2 => ?_) (fun hc2 => ?_)
      · simp at hc2
      repeat' first|refine nx ?_|refine xb_miss (by decide) ?_|(apply W_reg;(simp;exact .r _))
      exact EndsP.mk (cs' := CU b i4 w4) (x := .tup [.agg [.own 1 (rowsE A)], .own 2 (rowsE D)]) (v := .tup [.agg [.ref 2 A.length []], .ref 5 D.length []]) (by simp) (by simp) (by simp) ⟨⟨A, D, _, hDl0, ⟨by have := hD.1; omega, fun a ha => by have := hD.2 a ha; omega⟩, rfl, .inl rfl⟩, i4, w4, hi4, rfl⟩
    · rw [e] at c2
      simp only [if_true] at c2
      obtain ⟨x, cs', ⟨⟨D, hD, rfl⟩, i3, w3, hi3, rfl⟩, hr⟩ := l5Db_p b i1 w1 ⟨A⟩ hb hi1 (dr_sch e)
      have c3 := cvP hr
      obtain ⟨x, cs', ⟨⟨k, hk, rfl⟩, i4, w4, hi4, rfl⟩, hr⟩ := l1Below_p b i3 w3 10 hb hi3 (by omega)
      have c4 := cvP hr
      obtain ⟨x, cs', ⟨⟨a, ha, rfl⟩, i5, w5, hi5, rfl⟩, hr⟩ := l5AnyFact_p b i4 w4 ⟨A⟩ hb hi4 hA
      have c5 := cvP hr
      simp only [CU, Ag, cells_Sch, List.map_cons, List.map_nil, rowsE_nil] at c1 c2 c3 c4 c5
      have hDl0 : (A : List Int).length ≤ 5 := hA
      have hDb : D.length + 1 < 1099511627776 := by have := hD.1; omega
      have hDb0 : DbS 40 4 (D ++ [a]) := ⟨by have := hD.1; simp; omega, fun x hx => by
        rcases List.mem_append.1 hx with h | h
        · have := hD.2 x h; omega
        · rw [List.mem_singleton] at h; rw [h]; exact ha⟩
      by_cases k0 : k = 0
      · subst k0
        repeat' first|refine nx ?_|refine xb_miss (by decide) ?_|(apply W_reg;(simp [c1, c2, c3, c4];exact .r _))
        refine W_cond (by simp; exact .r _) (fun hc2 => ?_) (fun hc2 => ?_)
        · repeat' first|refine nx ?_|refine xb_miss (by decide) ?_|(apply W_reg;(simp [c5, hDb, Ag];exact .r _))
          exact EndsP.mk (cs' := CU b i5 w5) (x := .tup [.agg [.t (.sl (rowsE A)) true], .own 2 (rowsE (D ++ [a]))]) (v := .tup [.agg [.ref 2 A.length []], .ref 4 (D.length + 1) []]) (by simp) (by simp) (by simp [rowsE]) ⟨⟨A, D ++ [a], _, hDl0, hDb0, rfl, .inr ⟨_, true, rfl, rfl⟩⟩, i5, w5, hi5, rfl⟩
        · simp at hc2
      by_cases k1 : k = 1
      · subst k1
        repeat' first|refine nx ?_|refine xb_miss (by decide) ?_|(apply W_reg;(simp [c1, c2, c3, c4];exact .r _))
        refine W_cond (by simp; exact .r _) (fun hc2 => ?_) (fun hc2 => ?_)
        · simp at hc2
        repeat' first|refine nx ?_|refine xb_miss (by decide) ?_|(apply W_reg;(simp;exact .r _))
        refine W_cond (by simp; exact .r _) (fun hc2 => ?_) (fun hc2 => ?_)
        · repeat' first|refine nx ?_|refine xb_miss (by decide) ?_|(apply W_reg;(simp;exact .r _))
          refine W_loop (n := 26) (fun n s => ∃ j : Nat, ∃ E : List RA, n = 26 - j ∧ s.nt = 37 ∧ s.tm 2 = .ptr 1 0 ∧ s.tm 4 = .ptr 3 0 ∧ s.tm 5 = .ref 4 E.length [] ∧ s.tm 6 = In j ∧ j ≤ 26 ∧ s.σ.ob 0 = .box [Ar b, In i4, In w4] ∧ s.σ.ob 1 = .box [.t .nl] ∧ s.σ.ob 3 = .box [.ref 2 A.length []] ∧ s.σ.ob 4 = .arr (.own 0) 0 2 (rowsE E) ∧ s.σ.ob 2 = .arr .frz 0 1 (rowsE A) ∧ 5 ≤ s.σ.n ∧ E.length ≤ 8 + j ∧ (∀ a ∈ E, a.args.length ≤ 3)) ⟨0, D, by (simp; exact ⟨hD.1, hD.2⟩)⟩ ?_
          rintro n ⟨nt, tm, σ⟩ ⟨j, E, rfl, hnt, h2, h4, h5, h6, hj, hb0, hb1, hbP, hbO, hb2, hn, hE, hEa⟩
          simp only at hnt h2 h4 h5 h6 hb0 hb1 hbP hbO hb2 hn
          subst hnt
          have ap26_ := apart hn
          repeat' first|refine nx ?_|refine xb_miss (by decide) ?_|(apply W_reg;(simp [h2, h4, h5, h6, hb0, hb1, hbP, hbO, hb2, hn, ap26_];exact .r _))
          refine W_cond (by simp [h2, h4, h5, h6, hb0, hb1, hbP, hbO, hb2, hn, ap26_]; exact .r _) (fun hc3 => ?_) (fun hc3 => ?_)
          · have hjl : j < 26 := by simp at hc3; omega
            have hEb : E.length + 1 < 1099511627776 := by omega
            repeat' first|refine nx ?_|refine xb_miss (by decide) ?_|(apply W_reg;(simp [h2, h4, h5, h6, hb0, hb1, hbP, hbO, hb2, hn, ap26_, hr2, hEb];exact .r _))
            refine ⟨_, ?_, j + 1, E ++ [⟨0, [50, (j : Int)]⟩], rfl, rfl, ?_, ?_, ?_, ?_, by omega, ?_, ?_, ?_, (by simp [h2, h4, h5, h6, hb0, hb1, hbP, hbO, hb2, hn, ap26_, rowsE]), ?_, ?_, (by simp; omega), (fun a ha => by (rcases List.mem_append.1 ha with h | h; (exact hEa a h); (rw [List.mem_singleton] at h; subst h; simp)))⟩
            all_goals first|assumption|(simp [h2, h4, h5, h6, hb0, hb1, hbP, hbO, hb2, hn, ap26_];done)|(simp [h2, h4, h5, h6, hb0, hb1, hbP, hbO, hb2, hn, ap26_];omega)|(simp [h2, h4, h5, h6, hb0, hb1, hbP, hbO, hb2, hn, ap26_];exact wrap_succ (by omega))|omega
          · have hjl : j = 26 := by simp at hc3; omega
            subst hjl
            repeat' first|refine nx ?_|refine xb_miss (by decide) ?_|(apply W_reg;(simp [h2, h4, h5, h6, hb0, hb1, hbP, hbO, hb2, hn, ap26_];exact .r _))
            exact EndsP.mk (cs' := CU b i4 w4) (x := .tup [.agg [.t (.sl (rowsE A)) true], .own 2 (rowsE E)]) (v := .tup [.agg [.ref 2 A.length []], .ref 4 E.length []]) (by simp [h2, h4, h5, h6, hb0, hb1, hbP, hbO, hb2, hn, ap26_]) (by simp [h2, h4, h5, h6, hb0, hb1, hbP, hbO, hb2, hn, ap26_]) (by simp [h2, h4, h5, h6, hb0, hb1, hbP, hbO, hb2, hn, ap26_]) ⟨⟨A, E, _, hDl0, ⟨by omega, fun a ha => by have := hEa a ha; omega⟩, rfl, .inr ⟨_, true, rfl, rfl⟩⟩, i4, w4, hi4, rfl⟩
        · simp at hc2
      repeat' first|refine nx ?_|refine xb_miss (by decide) ?_|(apply W_reg;(simp [c1, c2, c3, c4, k0, k1];exact .r _))
      refine W_cond (by simp; exact .r _) (fun hc2 => ?_) (fun hc2 => ?_)
      · simp at hc2
      repeat' first|refine nx ?_|refine xb_miss (by decide) ?_|(apply W_reg;(simp [k1];exact .r _))
      refine W_cond (by simp; exact .r _) (fun hc2 => ?_) (fun hc2 => ?_)
      · simp at hc2
      repeat' first|refine nx ?_|refine xb_miss (by decide) ?_|(apply W_reg;(simp;exact .r _))
      exact EndsP.mk (cs' := CU b i4 w4) (x := .tup [.agg [.t (.sl (rowsE A)) true], .own 2 (rowsE D)]) (v := .tup [.agg [.ref 2 A.length []], .ref 4 D.length []]) (by simp) (by simp) (by simp) ⟨⟨A, D, _, hDl0, ⟨by have := hD.1; omega, fun a ha => by have := hD.2 a ha; omega⟩, rfl, .inr ⟨_, true, rfl, rfl⟩⟩, i4, w4, hi4, rfl⟩
  · have c2 := cv (l4Safe_r ⟨[]⟩ (by unfold Sm; simp))
    rw [show isSch ⟨[]⟩ = false from rfl] at c2
    simp only [Bool.false_eq_true, if_false] at c2
    obtain ⟨x, cs', ⟨⟨D, hD, rfl⟩, i3, w3, hi3, rfl⟩, hr⟩ := l5Db_p b i1 w1 ⟨[2, 1]⟩ hb hi1 dr_21
    have c3 := cvP hr
    obtain ⟨x, cs', ⟨⟨k, hk, rfl⟩, i4, w4, hi4, rfl⟩, hr⟩ := l1Below_p b i3 w3 10 hb hi3 (by omega)
    have c4 := cvP hr
    obtain ⟨x, cs', ⟨⟨a, ha, rfl⟩, i5, w5, hi5, rfl⟩, hr⟩ := l5AnyFact_p b i4 w4 ⟨[]⟩ hb hi4 (by simp)
    have c5 := cvP hr
    simp only [CU, Ag, cells_Sch, List.map_cons, List.map_nil, rowsE_nil] at c1 c2 c3 c4 c5
    have hDl0 : ([] : List Int).length ≤ 5 := by simp
    have hDb : D.length + 1 < 1099511627776 := by have := hD.1; omega
    have hDb0 : DbS 40 4 (D ++ [a]) := ⟨by have := hD.1; simp; omega, fun x hx => by
      rcases List.mem_append.1 hx with h | h
      · have := hD.2 x h; omega
      · rw [List.mem_singleton] at h; rw [h]; exact ha⟩
    by_cases k0 : k = 0
    · subst k0
      repeat' first|refine nx ?_|refine xb_miss (by decide) ?_|(apply W_reg;(simp [c1, c2, c3, c4];exact .r _))
      refine W_cond (by simp; exact .r _) (fun hc2 => ?_) (fun hc2 => ?_)
      · repeat' first|refine nx ?_|refine xb_miss (by decide) ?_|(apply W_reg;(simp [c5, hDb, Ag];exact .r _))
        exact EndsP.mk (cs' := CU b i5 w5) (x := .tup [.agg [.t .nl false], .own 2 (rowsE (D ++ [a]))]) (v := .tup [.agg [.t .nl], .ref 4 (D.length + 1) []]) (by simp) (by simp) (by simp [rowsE]) ⟨⟨[], D ++ [a], _, hDl0, hDb0, rfl, .inr ⟨_, false, rfl, rfl⟩⟩, i5, w5, hi5, rfl⟩
      · simp at hc2
    by_cases k1 : k = 1
    · subst k1
      repeat' first|refine nx ?_|refine xb_miss (by decide) ?_|(apply W_reg;(simp [c1, c2, c3, c4];exact .r _))
      refine W_cond (by simp; exact .r _) (fun hc2 => ?_) (fun hc2 => ?_)
      · simp at hc2
      repeat' first|refine nx ?_|refine xb_miss (by decide) ?_|(apply W_reg;(simp;exact .r _))
      refine W_cond (by simp; exact .r _) (fun hc2 => ?_) (fun hc2 => ?_)
      · repeat' first|refine nx ?_|refine xb_miss (by decide) ?_|(apply W_reg;(simp;exact .r _))
        refine W_loop (n := 26) (fun n s => ∃ j : Nat, ∃ E : List RA, n = 26 - j ∧ s.nt = 37 ∧ s.tm 2 = .ptr 1 0 ∧ s.tm 4 = .ptr 2 0 ∧ s.tm 5 = .ref 4 E.length [] ∧ s.tm 6 = In j ∧ j ≤ 26 ∧ s.σ.ob 0 = .box [Ar b, In i4, In w4] ∧ s.σ.ob 1 = .box [.t .nl] ∧ s.σ.ob 2 = .box [.t .nl] ∧ s.σ.ob 4 = .arr (.own 0) 0 2 (rowsE E) ∧ 5 ≤ s.σ.n ∧ E.length ≤ 8 + j ∧ (∀ a ∈ E, a.args.length ≤ 3)) ⟨0, D, by (simp; exact ⟨hD.1, hD.2⟩)⟩ ?_
        rintro n ⟨nt, tm, σ⟩ ⟨j, E, rfl, hnt, h2, h4, h5, h6, hj, hb0, hb1, hbP, hbO, hn, hE, hEa⟩
        simp only at hnt h2 h4 h5 h6 hb0 hb1 hbP hbO hn
        subst hnt
        have ap27_ := apart hn
        repeat' first|refine nx ?_|refine xb_miss (by decide) ?_|(apply W_reg;(simp [h2, h4, h5, h6, hb0, hb1, hbP, hbO, hn, ap27_];exact .r _))
        refine W_cond (by simp [h2, h4, h5, h6, hb0, hb1, hbP, hbO, hn, ap27_]; exact .r _) (fun hc3 => ?_) (fun hc3 => ?_)
        · have hjl : j < 26 := by simp at hc3; omega
          have hEb : E.length + 1 < 1099511627776 := by omega
          repeat' first|refine nx ?_|refine xb_miss (by decide) ?_|(apply W_reg;(simp [h2, h4, h5, h6, hb0, hb1, hbP, hbO, hn, ap27_, hr2, hEb];exact .r _))
          refine ⟨_, ?_, j + 1, E ++ [⟨0, [50, (j : Int)]⟩], rfl, rfl, ?_, ?_, ?_, ?_, by omega, ?_, ?_, ?_, (by simp [h2, h4, h5, h6, hb0, hb1, hbP, hbO, hn, ap27_, rowsE]), ?_, (by simp; omega), (fun a ha => by (rcases List.mem_append.1 ha with h | h; (exact hEa a h); (rw [List.mem_singleton] at h; subst h; simp)))⟩
          all_goals first|assumption|(simp [h2, h4, h5, h6, hb0, hb1, hbP, hbO, hn, ap27_];done)|(simp [h2, h4, h5, h6, hb0, hb1, hbP, hbO, hn, ap27_];omega)|(simp [h2, h4, h5, h6, hb0, hb1, hbP, hbO, hn, ap27_];exact wrap_succ (by omega))|omega
        · have hjl : j = 26 := by simp at hc3; omega
          subst hjl
          repeat' first|refine nx ?_|refine xb_miss (by decide) ?_|(apply W_reg;(simp [h2, h4, h5, h6, hb0, hb1, hbP, hbO, hn, ap27_];exact .r _))
          exact EndsP.mk (cs' := CU b i4 w4) (x := .tup [.agg [.t .nl false], .own 2 (rowsE E)]) (v := .tup [.agg [.t .nl], .ref 4 E.length []]) (by simp [h2, h4, h5, h6, hb0, hb1, hbP, hbO, hn, ap27_]) (by simp [h2, h4, h5, h6, hb0, hb1, hbP, hbO, hn, ap27_]) (by simp [h2, h4, h5, h6, hb0, hb1, hbP, hbO, hn, ap27_]) ⟨⟨[], E, _, hDl0, ⟨by omega, fun a ha => by have := hEa a ha; omega⟩, rfl, .inr ⟨_, false, rfl, rfl⟩⟩, i4, w4, hi4, rfl⟩
      · simp at hc2
    repeat' first|refine nx ?_|refine xb_miss (by decide) ?_|(apply W_reg;(simp [c1, c2, c3, c4, k0, k1];exact .r _))
    refine W_cond (by simp; exact .r _) (fun hc2 => ?_) (fun hc2 => ?_)
    · simp at hc2
    repeat' first|refine nx ?_|refine xb_miss (by decide) ?_|(apply W_reg;(simp [k1];exact .r _))
    refine W_cond (by simp; exact .r _) (fun hc2 => ?_) (fun hc2 => ?_)
    · simp at hc2
    repeat' first|refine nx ?_|refine xb_miss (by decide) ?_|(apply W_reg;(simp;exact .r _))
    exact EndsP.mk (cs' := CU b i4 w4) (x := .tup [.agg [.t .nl false], .own 2 (rowsE D)]) (v := .tup [.agg [.t .nl], .ref 4 D.length []]) (by simp) (by simp) (by simp) ⟨⟨[], D, _, hDl0, ⟨by have := hD.1; omega, fun a ha => by have := hD.2 a ha; omega⟩, rfl, .inr ⟨_, false, rfl, rfl⟩⟩, i4, w4, hi4, rfl⟩
end Go.Proofs.Ytlehbgapjibeeaa.V

namespace Go.Proofs.Ytlehbgapjibeeaa.V
open Go Go.Proofs
set_option linter.unusedVariables false
set_option linter.unusedSimpArgs false
theorem nz_cases {z : T} {rows : List (List T)} (h : z.nz = .sl rows) : z = .sl rows ∨ (z = .nl ∧ rows = []) := by
  cases z with
  | nl => right; simp [T.nz] at h; exact ⟨rfl, h⟩
  | sl r => left; simpa [T.nz] using h
  | _ => simp [T.nz] at h
theorem l19Source_p (b : List By) (i : Nat) (h : Int) (hb : Sm b) (hi : i ≤ b.length) : ∃ x cs', ((∃ (ar : List Int) (db : List RA) (v : Int) (xs : XV), ar.length ≤ 5 ∧ DbS 40 4 db ∧ (-1 ≤ v ∧ v ≤ 1001) ∧ x = .tup [.agg [xs], .agg [.own 2 (rowsE db), .t (.i .i64 v) false]] ∧ XS ar xs) ∧ CQ b cs') ∧ RetP XX 41 (CU b i h) [] x cs' := by
  refine ret_PW rfl Try.func41 rfl rfl (by simp [Try.f41]) ?_
  simp only [Try.f41]
  obtain ⟨x, cs', ⟨⟨ar, db, xs, har, hdb, rfl, hxs⟩, i1, w1, hi1, rfl⟩, hr1⟩ := l5Any_p b i h hb hi
  have c1 := cvP0 hr1
  obtain ⟨x, cs', ⟨⟨k, hk, rfl⟩, i2, w2, hi2, rfl⟩, hr⟩ := l1Below_p b i1 w1 9 hb hi1 (by omega)
  have c2 := cvP hr
  obtain ⟨x, cs', ⟨⟨o1, rfl⟩, i3, w3, hi3, rfl⟩, hr⟩ := l1Once_p b i2 w2 12 hb hi2 (by omega)
  have c3 := cvP hr
  obtain ⟨x, cs', ⟨⟨y, hy, rfl⟩, i4, w4, hi4, rfl⟩, hr⟩ := l1PickInt_p b i3 w3 [-1, 999, 1000, 1001] hb hi3 (by simp)
  have c4 := cvP hr
  simp only [CU, List.map_cons, List.map_nil] at c1 c2 c3 c4 ⊢
  rw [show Ar ([-1, 999, 1000, 1001] : List Int) = .t (.sl [[.i .i64 (-1)], [.i .i64 999], [.i .i64 1000], [.i .i64 1001]]) from rfl] at c4
  have hr4 : ([0, 1, 2, 3] : List Nat) = List.range 4 := rfl
  have hk9 := hk.2.1 (by omega)
  have hkb : -1 ≤ k ∧ k ≤ 1001 := ⟨by omega, by omega⟩
  have hyb : -1 ≤ y ∧ y ≤ 1001 := by simp at hy; omega
  rcases hxs with rfl | ⟨z, f, hz, rfl⟩
  · cases o1
    · repeat' first|refine nx ?_|refine xb_miss (by decide) ?_|(apply W_reg;(simp [c1, c2, c3];exact .r _))
      refine W_cond (by simp; exact .r _) (fun hc => ?_) (fun hc => ?_)
      · cases hc
      repeat' first|refine nx ?_|refine xb_miss (by decide) ?_|(apply W_reg;(simp;exact .r _))
      exact EndsP.mk (cs' := CU b i3 w3) (x := .tup [.agg [.own 1 (rowsE ar)], .agg [.own 2 (rowsE db), .t (.i .i64 k) false]]) (v := .tup [.agg [.ref 3 ar.length []], .agg [.ref 4 db.length [], In k]]) (by simp) (by simp) (by simp) ⟨⟨ar, db, k, _, har, hdb, hkb, rfl, .inl rfl⟩, i3, w3, hi3, rfl⟩
    · repeat' first|refine nx ?_|refine xb_miss (by decide) ?_|(apply W_reg;(simp [c1, c2, c3];exact .r _))
      refine W_cond (by simp; exact .r _) (fun hc => ?_) (fun hc => ?_)
      · repeat' first|refine nx ?_|refine xb_miss (by decide) ?_|(apply W_reg;(simp [c4, hr4];exact .r _))
        exact EndsP.mk (cs' := CU b i4 w4) (x := .tup [.agg [.own 1 (rowsE ar)], .agg [.own 2 (rowsE db), .t (.i .i64 y) false]]) (v := .tup [.agg [.ref 3 ar.length []], .agg [.ref 4 db.length [], In y]]) (by simp) (by simp) (by simp) ⟨⟨ar, db, y, _, har, hdb, hyb, rfl, .inl rfl⟩, i4, w4, hi4, rfl⟩
      · cases hc
  rcases nz_cases hz with rfl | ⟨rfl, hr0⟩
  · cases o1
    · repeat' first|refine nx ?_|refine xb_miss (by decide) ?_|(apply W_reg;(simp [c1, c2, c3];exact .r _))
      refine W_cond (by simp; exact .r _) (fun hc => ?_) (fun hc => ?_)
      · cases hc
      repeat' first|refine nx ?_|refine xb_miss (by decide) ?_|(apply W_reg;(simp;exact .r _))
      exact EndsP.mk (cs' := CU b i3 w3) (x := .tup [.agg [.t (.sl (rowsE ar)) true], .agg [.own 2 (rowsE db), .t (.i .i64 k) false]]) (v := .tup [.agg [.t (.sl (rowsE ar))], .agg [.ref 3 db.length [], In k]]) (by simp) (by simp) (by simp) ⟨⟨ar, db, k, _, har, hdb, hkb, rfl, .inr ⟨(.sl (rowsE ar)), _, hz, rfl⟩⟩, i3, w3, hi3, rfl⟩
    · repeat' first|refine nx ?_|refine xb_miss (by decide) ?_|(apply W_reg;(simp [c1, c2, c3];exact .r _))
      refine W_cond (by simp; exact .r _) (fun hc => ?_) (fun hc => ?_)
      · repeat' first|refine nx ?_|refine xb_miss (by decide) ?_|(apply W_reg;(simp [c4, hr4];exact .r _))
        exact EndsP.mk (cs' := CU b i4 w4) (x := .tup [.agg [.t (.sl (rowsE ar)) true], .agg [.own 2 (rowsE db), .t (.i .i64 y) false]]) (v := .tup [.agg [.t (.sl (rowsE ar))], .agg [.ref 3 db.length [], In y]]) (by simp) (by simp) (by simp) ⟨⟨ar, db, y, _, har, hdb, hyb, rfl, .inr ⟨(.sl (rowsE ar)), _, hz, rfl⟩⟩, i4, w4, hi4, rfl⟩
      · cases hc
  · cases o1
    · repeat' first|refine nx ?_|refine xb_miss (by decide) ?_|(apply W_reg;(simp [c1, c2, c3];exact .r _))
      refine W_cond (by simp; exact .r _) (fun hc => ?_) (fun hc => ?_)
      · cases hc
      repeat' first|refine nx ?_|refine xb_miss (by decide) ?_|(apply W_reg;(simp;exact .r _))
      exact EndsP.mk (cs' := CU b i3 w3) (x := .tup [.agg [.t .nl false], .agg [.own 2 (rowsE db), .t (.i .i64 k) false]]) (v := .tup [.agg [.t .nl], .agg [.ref 3 db.length [], In k]]) (by simp) (by simp) (by simp) ⟨⟨ar, db, k, _, har, hdb, hkb, rfl, .inr ⟨.nl, _, hz, rfl⟩⟩, i3, w3, hi3, rfl⟩
    · repeat' first|refine nx ?_|refine xb_miss (by decide) ?_|(apply W_reg;(simp [c1, c2, c3];exact .r _))
      refine W_cond (by simp; exact .r _) (fun hc => ?_) (fun hc => ?_)
      · repeat' first|refine nx ?_|refine xb_miss (by decide) ?_|(apply W_reg;(simp [c4, hr4];exact .r _))
        exact EndsP.mk (cs' := CU b i4 w4) (x := .tup [.agg [.t .nl false], .agg [.own 2 (rowsE db), .t (.i .i64 y) false]]) (v := .tup [.agg [.t .nl], .agg [.ref 3 db.length [], In y]]) (by simp) (by simp) (by simp) ⟨⟨ar, db, y, _, har, hdb, hyb, rfl, .inr ⟨.nl, _, hz, rfl⟩⟩, i4, w4, hi4, rfl⟩
      · cases hc
theorem l19Change_p (b : List By) (i : Nat) (h : Int) (c : Sch) (db : List RA) (hb : Sm b) (hi : i ≤ b.length) (hc : c.arity.length ≤ 5) (hd : DbS 40 4 db) : ∃ x cs', ((∃ d : Chg, d.fact.args.length ≤ 4 ∧ x = .agg [.t (.b d.insert) false, .t (.i .i64 d.fact.rel) false, .own 1 (rowsE d.fact.args)]) ∧ CQ b cs') ∧ RetP XX 42 (CU b i h) [Ag c, Ar db] x cs' := by
  refine ret_PW rfl Try.func42 rfl rfl (by simp [Try.f42]) ?_
  simp only [Try.f42]
  obtain ⟨x, cs', ⟨⟨o1, rfl⟩, i1, w1, hi1, rfl⟩, hr⟩ := l1Once_p b i h 3 hb hi (by omega)
  have c1 := cvP hr
  obtain ⟨x, cs', ⟨⟨a, ha, rfl⟩, i2, w2, hi2, rfl⟩, hr⟩ := l5AnyFact_p b i1 w1 c hb hi1 hc
  have c2 := cvP hr
  obtain ⟨x, cs', ⟨⟨o3, rfl⟩, i3, w3, hi3, rfl⟩, hr⟩ := l1Once_p b i2 w2 4 hb hi2 (by omega)
  have c3 := cvP hr
  obtain ⟨x, cs', ⟨⟨k, hk, rfl⟩, i4, w4, hi4, rfl⟩, hr⟩ := l1Below_p b i3 w3 db.length hb hi3 (by have := hd.1; omega)
  have c4 := cvP hr
  simp only [CU, Ag, cells_Sch, List.map_cons, List.map_nil] at c1 c2 c3 c4 ⊢
  cases o1
  · repeat' first|refine nx ?_|refine xb_miss (by decide) ?_|(apply W_reg;(simp [c1, c2];exact .r _))|(apply W_draw (id := 1) [0,1,3,0,0,27,63,0,255] rfl rfl; (· simp; exact .r _); (· simp [c1, c2]; exact .r _); (· first|trivial|simp))
    refine W_cond (by simp; exact .r _) (fun hc2 => ?_) (fun hc2 => ?_)
    · simp at hc2
    repeat' first|refine nx ?_|refine xb_miss (by decide) ?_|(apply W_reg;(simp;exact .r _))
    exact EndsP.mk (cs' := CU b i2 w2) (x := .agg [.t (.b true) false, .t (.i .i64 a.rel) false, .own 1 (rowsE a.args)]) (v := .agg [Bo true, In a.rel, .ref 4 a.args.length []]) (by simp) (by simp) (by simp) ⟨⟨⟨true, a⟩, ha, rfl⟩, i2, w2, hi2, rfl⟩
  · by_cases hl : 0 < db.length
    · cases o3
      · have hk0 := hk.1
        have hkl : k.toNat < db.length := by have := hk.2.1 (by omega); omega
        have hda := hd.2 _ (List.getElem_mem hkl)
        have c5 := cv (l5Copy_r db[k.toNat] (by unfold Sm; omega))
        simp only [Ag, cells_RA, List.map_cons, List.map_nil] at c5
        repeat' first|refine nx ?_|refine xb_miss (by decide) ?_|(apply W_reg;(simp [c1, c2, c3, hl];exact .r _))|(apply W_draw (id := 1) [0,1,3,0,0,27,63,0,255] rfl rfl; (· simp; exact .r _); (· simp [c1, c2, c3, hl]; exact .r _); (· first|trivial|simp))
        refine W_cond (by simp; exact .r _) (fun hc2 => ?_) (fun hc2 => ?_)
        · repeat' first|refine nx ?_|refine xb_miss (by decide) ?_|(apply W_reg;(simp [c4, hk0, hkl, c5];exact .r _))
          exact EndsP.mk (cs' := CU b i4 w4) (x := .agg [.t (.b false) false, .t (.i .i64 db[k.toNat].rel) false, .own 1 (rowsE db[k.toNat].args)]) (v := .agg [Bo false, In db[k.toNat].rel, .ref 5 db[k.toNat].args.length []]) (by simp) (by simp) (by simp) ⟨⟨⟨false, db[k.toNat]⟩, hda, rfl⟩, i4, w4, hi4, rfl⟩
        · simp at hc2
      · repeat' first|refine nx ?_|refine xb_miss (by decide) ?_|(apply W_reg;(simp [c1, c2, c3, hl];exact .r _))|(apply W_draw (id := 1) [0,1,3,0,0,27,63,0,255] rfl rfl; (· simp; exact .r _); (· simp [c1, c2, c3, hl]; exact .r _); (· first|trivial|simp))
        refine W_cond (by simp; exact .r _) (fun hc2 => ?_) (fun hc2 => ?_)
        · simp at hc2
        repeat' first|refine nx ?_|refine xb_miss (by decide) ?_|(apply W_reg;(simp;exact .r _))
        exact EndsP.mk (cs' := CU b i3 w3) (x := .agg [.t (.b false) false, .t (.i .i64 a.rel) false, .own 1 (rowsE a.args)]) (v := .agg [Bo false, In a.rel, .ref 4 a.args.length []]) (by simp) (by simp) (by simp) ⟨⟨⟨false, a⟩, ha, rfl⟩, i3, w3, hi3, rfl⟩
    · repeat' first|refine nx ?_|refine xb_miss (by decide) ?_|(apply W_reg;(simp [c1, c2, hl];exact .r _))|(apply W_draw (id := 1) [0,1,3,0,0,27,63,0,255] rfl rfl; (· simp; exact .r _); (· simp [c1, c2, hl]; exact .r _); (· first|trivial|simp))
      refine W_cond (by simp; exact .r _) (fun hc2 => ?_) (fun hc2 => ?_)
      · simp at hc2
      repeat' first|refine nx ?_|refine xb_miss (by decide) ?_|(apply W_reg;(simp;exact .r _))
      exact EndsP.mk (cs' := CU b i2 w2) (x := .agg [.t (.b false) false, .t (.i .i64 a.rel) false, .own 1 (rowsE a.args)]) (v := .agg [Bo false, In a.rel, .ref 4 a.args.length []]) (by simp) (by simp) (by simp) ⟨⟨⟨false, a⟩, ha, rfl⟩, i2, w2, hi2, rfl⟩
/-- What is drawn: a schema, a source, a change. -/
theorem drawApp_r (b : List By) (hb : b.length ≤ 1048576) : ∃ x, (∃ (ar : List Int) (db : List RA) (v : Int) (d : Chg) (y : T) (f : Bool), ar.length ≤ 5 ∧ DbS 40 4 db ∧ (-1 ≤ v ∧ v ≤ 1001) ∧ d.fact.args.length ≤ 4 ∧ y.nz = .sl (rowsE ar) ∧ x = .tup [.agg [.t y f], .agg [.t (.sl (rowsE db)) true, .t (.i .i64 v) false], .agg [.t (.b d.insert) false, .t (.i .i64 d.fact.rel) false, .own 1 (rowsE d.fact.args)]]) ∧ Ret XX 20 [Ar b] x := by
  obtain ⟨h, hn⟩ := l1New_r b hb
  have c0 := cv hn
  have hbs : Sm b := by unfold Sm; omega
  obtain ⟨x, cs', ⟨⟨ar, db, v, xs, har, hdb, hv, rfl, hxs⟩, i1, w1, hi1, rfl⟩, hr1⟩ := l19Source_p b 0 h hbs (by omega)
  have c1 := cvP0 hr1
  obtain ⟨x, cs', ⟨⟨d, hd, rfl⟩, i2, w2, hi2, rfl⟩, hr2⟩ := l19Change_p b i1 w1 ⟨ar⟩ db hbs hi1 har hdb
  have c2 := cvP hr2
  simp only [CU, Ag, cells_Sch, List.map_cons, List.map_nil] at c0 c1 c2
  refine ret_QW rfl Try.func20 rfl rfl (by simp [Try.f20]) ?_
  simp only [Try.f20]
  rcases hxs with rfl | ⟨z, f, hz, rfl⟩
  · repeat' first|refine nx ?_|refine xb_miss (by decide) ?_|(apply W_reg;(simp [c0, c1, c2];exact .r _))|(apply W_draw (id := 3) [0,0,0,0,0,16,60,125,255,511] rfl rfl; (· simp; exact .r _); (· simp [c0, c1, c2]; exact .r _); (· first|trivial|simp))
    exact EndsQ.mk (v := .tup [.agg [.ref 4 ar.length []], .agg [.ref 5 db.length [], In v], .agg [Bo d.insert, In d.fact.rel, .ref 8 d.fact.args.length []]]) (x := .tup [.agg [.t (.sl (rowsE ar)) true], .agg [.t (.sl (rowsE db)) true, .t (.i .i64 v) false], .agg [.t (.b d.insert) false, .t (.i .i64 d.fact.rel) false, .own 1 (rowsE d.fact.args)]]) (by simp) (by simp) ⟨ar, db, v, d, .sl (rowsE ar), true, har, hdb, hv, hd, rfl, rfl⟩
  rcases nz_cases hz with rfl | ⟨rfl, hr0⟩
  · repeat' first|refine nx ?_|refine xb_miss (by decide) ?_|(apply W_reg;(simp [c0, c1, c2];exact .r _))|(apply W_draw (id := 3) [0,0,0,0,0,16,60,125,255,511] rfl rfl; (· simp; exact .r _); (· simp [c0, c1, c2]; exact .r _); (· first|trivial|simp))
    exact EndsQ.mk (v := .tup [.agg [.t (.sl (rowsE ar))], .agg [.ref 4 db.length [], In v], .agg [Bo d.insert, In d.fact.rel, .ref 7 d.fact.args.length []]]) (x := .tup [.agg [.t (.sl (rowsE ar)) true], .agg [.t (.sl (rowsE db)) true, .t (.i .i64 v) false], .agg [.t (.b d.insert) false, .t (.i .i64 d.fact.rel) false, .own 1 (rowsE d.fact.args)]]) (by simp) (by simp) ⟨ar, db, v, d, (.sl (rowsE ar)), _, har, hdb, hv, hd, hz, rfl⟩
  · rw [hr0] at c2
    repeat' first|refine nx ?_|refine xb_miss (by decide) ?_|(apply W_reg;(simp [c0, c1, c2];exact .r _))|(apply W_draw (id := 3) [0,0,0,0,0,16,60,125,255,511] rfl rfl; (· simp; exact .r _); (· simp [c0, c1, c2]; exact .r _); (· first|trivial|simp))
    exact EndsQ.mk (v := .tup [.agg [.t .nl], .agg [.ref 4 db.length [], In v], .agg [Bo d.insert, In d.fact.rel, .ref 7 d.fact.args.length []]]) (x := .tup [.agg [.t .nl false], .agg [.t (.sl (rowsE db)) true, .t (.i .i64 v) false], .agg [.t (.b d.insert) false, .t (.i .i64 d.fact.rel) false, .own 1 (rowsE d.fact.args)]]) (by simp) (by simp) ⟨ar, db, v, d, .nl, _, har, hdb, hv, hd, hz, rfl⟩
end Go.Proofs.Ytlehbgapjibeeaa.V

namespace Go.Proofs.Ytlehbgapjibeeaa.V
open Go Go.Proofs
set_option linter.unusedVariables false
set_option linter.unusedSimpArgs false
def posOk (t v : Int) : Bool := isVar t || (isTerm t && decide (constOf t = v))
def pos (xs ys : List Int) (k : Nat) : Prop := posOk xs[k]! ys[k]! = true ∧ ∀ j, j < k → xs[j]! = xs[k]! → ys[j]! = ys[k]!
instance (xs ys : List Int) (k : Nat) : Decidable (pos xs ys k) := by unfold pos; infer_instance
end Go.Proofs.Ytlehbgapjibeeaa.V

namespace Go.Proofs.Ytlehbgapjibeeaa.V
open Go Go.Proofs
set_option linter.unusedVariables false
set_option linter.unusedSimpArgs false
def isSrc (c : Sch) (s : Src) : Bool := isDb c s.facts && inR s.version 0 1000
theorem implIsSrc_r (c : Sch) (s : Src) (sc : Sm c.arity) (sd : Sm s.facts) (sda : ∀ a ∈ s.facts, Sm a.args) : Ret XX 24 [Ag c, Ag s] (.t (.b (isSrc c s)) false) := by
  refine ret_W rfl Try.func24 rfl rfl (by simp [Try.f24]) ?_
  simp only [Try.f24]
  have c2 := cv (implIsDb_r c s.facts sc sd sda)
  have c3 := cv (within_r s.version 0 1000)
  simp only [Ag, cells_Sch, List.map_cons, List.map_nil] at c2
  cases e2 : isDb c s.facts
  · repeat' first|refine nx ?_|refine xb_miss (by decide) ?_|(apply W_reg;(simp [Ag, c2, e2];exact .r _))
    simp [isSrc, e2]
  · repeat' first|refine nx ?_|refine xb_miss (by decide) ?_|(apply W_reg;(simp [Ag, c2, e2, c3];exact .r _))
    simp [isSrc, e2]
theorem specIsSrc_r (c : Sch) (s : Src) (sc : Sm c.arity) (sd : Sm s.facts) (sda : ∀ a ∈ s.facts, Sm a.args) : Ret XX 25 [Ag c, Ag s] (.t (.b (isSrc c s)) false) := by
  refine ret_W rfl Try.func25 rfl rfl (by simp [Try.f25]) ?_
  simp only [Try.f25]
  have c2 := cv (specIsDb_r c s.facts sc sd sda)
  have c3 := cv (l1In_r s.version 0 1000)
  simp only [Ag, cells_Sch, List.map_cons, List.map_nil] at c2
  cases e2 : isDb c s.facts
  · repeat' first|refine nx ?_|refine xb_miss (by decide) ?_|(apply W_reg;(simp [Ag, c2, e2];exact .r _))
    simp [isSrc, e2]
  · repeat' first|refine nx ?_|refine xb_miss (by decide) ?_|(apply W_reg;(simp [Ag, c2, e2, c3];exact .r _))
    simp [isSrc, e2]
end Go.Proofs.Ytlehbgapjibeeaa.V

namespace Go.Proofs.Ytlehbgapjibeeaa.V
open Go Go.Proofs
set_option linter.unusedVariables false
set_option linter.unusedSimpArgs false
abbrev xvS (l : List RA) (v : Int) : XV := .agg [.own 2 (rowsE l), .t (.i .i64 v) false]
theorem copySource_r (s : Src) (h : SmF s.facts) : Ret XX 43 [Ag s] (xvS s.facts s.version) := by
  refine ret_W rfl Try.func43 rfl rfl (by simp [Try.f43]) ?_
  simp only [Try.f43]
  have c1 := cv (copyFacts_r s.facts h)
  repeat' first|refine nx ?_|refine xb_miss (by decide) ?_|(apply W_reg;(simp [Ag, c1];exact .r _))|(apply W_draw (id := 1) [0,1,3,0,8,31,63] rfl rfl; (· simp; exact .r _); (· simp [Ag, c1]; exact .r _); (· first|trivial|simp))
  simp
def addOk (c : Sch) (l : List RA) (f : RA) : Bool := isDb c l && isFact c f && !decide (f ∈ l) && !decide (l.length = 24)
def appOk (c : Sch) (s : Src) (d : Chg) : Bool := isSrc c s && !decide (s.version = 1000) && if d.insert then addOk c s.facts d.fact else isDb c s.facts && decide (d.fact ∈ s.facts)
def appF (s : Src) (d : Chg) : List RA := if d.insert then addF s.facts d.fact else remF s.facts d.fact
def xApp (c : Sch) (s : Src) (d : Chg) : XV := if appOk c s d then .tup [xvS (appF s d) (s.version + 1), .t (.b true) false] else .tup [xvS s.facts s.version, .t (.b false) false]
theorem implApply_r (c : Sch) (s : Src) (d : Chg) (sc : Sm c.arity) (h : SmF s.facts) (hf : Sm d.fact.args) : Ret XX 21 [Ag c, Ag s, Ag d] (xApp c s d) := by
  refine ret_W rfl Try.func21 rfl rfl (by simp [Try.f21]) ?_
  simp only [Try.f21]
  have c1 := cv (implIsSrc_r c s sc h.1 h.2)
  have c2 := cv (copySource_r s h)
  have c3 := cv (implRem_r c s.facts d.fact sc h hf)
  have c4 := cv (implAdd_r c s.facts d.fact sc h hf)
  simp only [Ag, cells_Sch, cells_RA, cells_Src, List.map_cons, List.map_nil] at c1 c2 c3 c4
  cases e1 : isSrc c s
  · repeat' first|refine nx ?_|refine xb_miss (by decide) ?_|(apply W_reg;(simp [Ag, c1, c2, e1];exact .r _))
    refine W_cond (by simp; exact .r _) (fun hc => ?_) (fun hc => ?_)
    · repeat' first|refine nx ?_|refine xb_miss (by decide) ?_|(apply W_reg;(simp [c2];exact .r _))
      simp [xApp, appOk, e1]
    · cases hc
  have hdb : isDb c s.facts = true ∧ 0 ≤ s.version ∧ s.version ≤ 1000 := by simpa [isSrc, inR] using e1
  by_cases e2 : s.version = 1000
  · rw [e2] at c2
    repeat' first|refine nx ?_|refine xb_miss (by decide) ?_|(apply W_reg;(simp [Ag, c1, e1, e2];exact .r _))
    refine W_cond (by simp; exact .r _) (fun hc => ?_) (fun hc => ?_)
    · repeat' first|refine nx ?_|refine xb_miss (by decide) ?_|(apply W_reg;(simp [c2];exact .r _))
      simp [xApp, appOk, e2]
    · simp at hc
  have wr1_ : IntKind.i64.wrap (s.version + 1) = s.version + 1 := wrap_ok (by omega) (by omega)
  have hapo : appOk c s d = if d.insert then addOk c s.facts d.fact else decide (d.fact ∈ s.facts) := by simp [appOk, e1, e2, hdb.1]
  by_cases e3 : d.fact ∈ s.facts
  · rw [show xRem c s.facts d.fact = .tup [.own 2 (rowsE (remF s.facts d.fact)), .t (.b true) false] by simp [xRem, hdb.1, e3]] at c3
    rw [show xAdd c s.facts d.fact = .tup [.own 2 (rowsE s.facts), .t (.b false) false] by simp [xAdd, e3]] at c4
    cases e4 : d.insert
    · rw [e4, if_neg (by decide), decide_eq_true e3] at hapo
      repeat' first|refine nx ?_|refine xb_miss (by decide) ?_|(apply W_reg;(simp [wr1_, Ag, c1, c2, e1, e2];exact .r _))
      refine W_cond (by simp [wr1_]; exact .r _) (fun hc => ?_) (fun hc => ?_)
      · simp at hc
      repeat' first|refine nx ?_|refine xb_miss (by decide) ?_|(apply W_reg;(simp [wr1_, c3, c4, e4];exact .r _))
      refine W_cond (by simp [wr1_]; exact .r _) (fun hd0 => ?_) (fun hd0 => ?_)
      · cases hd0
      repeat' first|refine nx ?_|refine xb_miss (by decide) ?_|(apply W_reg;(simp [wr1_, c2, c3, c4, e4];exact .r _))
      refine W_cond (by simp [wr1_]; exact .r _) (fun hd1 => ?_) (fun hd1 => ?_)
      · cases hd1
      repeat' first|refine nx ?_|refine xb_miss (by decide) ?_|(apply W_reg;(simp [wr1_, c2, c3, c4, e4];exact .r _))
      simp [xApp, hapo, appF, e4]
    · rw [e4, if_pos rfl, show addOk c s.facts d.fact = false by simp [addOk, e3]] at hapo
      repeat' first|refine nx ?_|refine xb_miss (by decide) ?_|(apply W_reg;(simp [wr1_, Ag, c1, c2, e1, e2];exact .r _))
      refine W_cond (by simp [wr1_]; exact .r _) (fun hc => ?_) (fun hc => ?_)
      · simp at hc
      repeat' first|refine nx ?_|refine xb_miss (by decide) ?_|(apply W_reg;(simp [wr1_, c3, c4, e4];exact .r _))
      refine W_cond (by simp [wr1_]; exact .r _) (fun hd0 => ?_) (fun hd0 => ?_)
      rotate_left
      · cases hd0
      repeat' first|refine nx ?_|refine xb_miss (by decide) ?_|(apply W_reg;(simp [wr1_, c2, c3, c4, e4];exact .r _))
      refine W_cond (by simp [wr1_]; exact .r _) (fun hd1 => ?_) (fun hd1 => ?_)
      rotate_left
      · cases hd1
      repeat' first|refine nx ?_|refine xb_miss (by decide) ?_|(apply W_reg;(simp [wr1_, c2, c3, c4, e4];exact .r _))
      simp [xApp, hapo]
  · rw [show xRem c s.facts d.fact = .tup [.own 2 (rowsE s.facts), .t (.b false) false] by simp [xRem, e3]] at c3
    cases e4 : d.insert
    · rw [e4, if_neg (by decide), decide_eq_false e3] at hapo
      cases e5 : addOk c s.facts d.fact
      · rw [show xAdd c s.facts d.fact = .tup [.own 2 (rowsE s.facts), .t (.b false) false] from if_neg (by rw [← addOk, e5]; decide)] at c4
        repeat' first|refine nx ?_|refine xb_miss (by decide) ?_|(apply W_reg;(simp [wr1_, Ag, c1, c2, e1, e2];exact .r _))
        refine W_cond (by simp [wr1_]; exact .r _) (fun hc => ?_) (fun hc => ?_)
        · simp at hc
        repeat' first|refine nx ?_|refine xb_miss (by decide) ?_|(apply W_reg;(simp [wr1_, c3, c4, e4];exact .r _))
        refine W_cond (by simp [wr1_]; exact .r _) (fun hd0 => ?_) (fun hd0 => ?_)
        · cases hd0
        repeat' first|refine nx ?_|refine xb_miss (by decide) ?_|(apply W_reg;(simp [wr1_, c2, c3, c4, e4];exact .r _))
        refine W_cond (by simp [wr1_]; exact .r _) (fun hd1 => ?_) (fun hd1 => ?_)
        rotate_left
        · cases hd1
        repeat' first|refine nx ?_|refine xb_miss (by decide) ?_|(apply W_reg;(simp [wr1_, c2, c3, c4, e4];exact .r _))
        simp [xApp, hapo]
      · rw [show xAdd c s.facts d.fact = .tup [.own 2 (rowsE (addF s.facts d.fact)), .t (.b true) false] from if_pos e5] at c4
        repeat' first|refine nx ?_|refine xb_miss (by decide) ?_|(apply W_reg;(simp [wr1_, Ag, c1, c2, e1, e2];exact .r _))
        refine W_cond (by simp [wr1_]; exact .r _) (fun hc => ?_) (fun hc => ?_)
        · simp at hc
        repeat' first|refine nx ?_|refine xb_miss (by decide) ?_|(apply W_reg;(simp [wr1_, c3, c4, e4];exact .r _))
        refine W_cond (by simp [wr1_]; exact .r _) (fun hd0 => ?_) (fun hd0 => ?_)
        · cases hd0
        repeat' first|refine nx ?_|refine xb_miss (by decide) ?_|(apply W_reg;(simp [wr1_, c2, c3, c4, e4];exact .r _))
        refine W_cond (by simp [wr1_]; exact .r _) (fun hd1 => ?_) (fun hd1 => ?_)
        rotate_left
        · cases hd1
        repeat' first|refine nx ?_|refine xb_miss (by decide) ?_|(apply W_reg;(simp [wr1_, c2, c3, c4, e4];exact .r _))
        simp [xApp, hapo]
    · rw [e4, if_pos rfl] at hapo
      cases e5 : addOk c s.facts d.fact
      · rw [e5] at hapo
        rw [show xAdd c s.facts d.fact = .tup [.own 2 (rowsE s.facts), .t (.b false) false] from if_neg (by rw [← addOk, e5]; decide)] at c4
        repeat' first|refine nx ?_|refine xb_miss (by decide) ?_|(apply W_reg;(simp [wr1_, Ag, c1, c2, e1, e2];exact .r _))
        refine W_cond (by simp [wr1_]; exact .r _) (fun hc => ?_) (fun hc => ?_)
        · simp at hc
        repeat' first|refine nx ?_|refine xb_miss (by decide) ?_|(apply W_reg;(simp [wr1_, c3, c4, e4];exact .r _))
        refine W_cond (by simp [wr1_]; exact .r _) (fun hd0 => ?_) (fun hd0 => ?_)
        rotate_left
        · cases hd0
        repeat' first|refine nx ?_|refine xb_miss (by decide) ?_|(apply W_reg;(simp [wr1_, c2, c3, c4, e4];exact .r _))
        refine W_cond (by simp [wr1_]; exact .r _) (fun hd1 => ?_) (fun hd1 => ?_)
        rotate_left
        · cases hd1
        repeat' first|refine nx ?_|refine xb_miss (by decide) ?_|(apply W_reg;(simp [wr1_, c2, c3, c4, e4];exact .r _))
        simp [xApp, hapo]
      · rw [e5] at hapo
        rw [show xAdd c s.facts d.fact = .tup [.own 2 (rowsE (addF s.facts d.fact)), .t (.b true) false] from if_pos e5] at c4
        repeat' first|refine nx ?_|refine xb_miss (by decide) ?_|(apply W_reg;(simp [wr1_, Ag, c1, c2, e1, e2];exact .r _))
        refine W_cond (by simp [wr1_]; exact .r _) (fun hc => ?_) (fun hc => ?_)
        · simp at hc
        repeat' first|refine nx ?_|refine xb_miss (by decide) ?_|(apply W_reg;(simp [wr1_, c3, c4, e4];exact .r _))
        refine W_cond (by simp [wr1_]; exact .r _) (fun hd0 => ?_) (fun hd0 => ?_)
        rotate_left
        · cases hd0
        repeat' first|refine nx ?_|refine xb_miss (by decide) ?_|(apply W_reg;(simp [wr1_, c2, c3, c4, e4];exact .r _))
        refine W_cond (by simp [wr1_]; exact .r _) (fun hd1 => ?_) (fun hd1 => ?_)
        · cases hd1
        repeat' first|refine nx ?_|refine xb_miss (by decide) ?_|(apply W_reg;(simp [wr1_, c2, c3, c4, e4];exact .r _))
        simp [xApp, hapo, appF, e4]
theorem specApply_r (c : Sch) (s : Src) (d : Chg) (sc : Sm c.arity) (h : SmF s.facts) (hf : Sm d.fact.args) : Ret XX 22 [Ag c, Ag s, Ag d] (xApp c s d) := by
  refine ret_W rfl Try.func22 rfl rfl (by simp [Try.f22]) ?_
  simp only [Try.f22]
  have c1 := cv (specIsSrc_r c s sc h.1 h.2)
  have c2 := cv (l5All_r s.facts h)
  have c3 := cv (specRem_r c s.facts d.fact sc h hf)
  have c4 := cv (specAdd_r c s.facts d.fact sc h hf)
  simp only [Ag, cells_Sch, cells_RA, cells_Src, List.map_cons, List.map_nil] at c1 c3 c4
  cases e1 : isSrc c s
  · repeat' first|refine nx ?_|refine xb_miss (by decide) ?_|(apply W_reg;(simp [Ag, c1, c2, e1];exact .r _))|(apply W_draw (id := 1) [0,1,3,0,8,31,0,127] rfl rfl; (· simp; exact .r _); (· simp [Ag, c1, c2, e1]; exact .r _); (· first|trivial|simp))
    refine W_cond (by simp; exact .r _) (fun hc => ?_) (fun hc => ?_)
    · repeat' first|refine nx ?_|refine xb_miss (by decide) ?_|(apply W_reg;(simp [c2];exact .r _))
      simp [xApp, appOk, e1]
    · cases hc
  have hdb : isDb c s.facts = true ∧ 0 ≤ s.version ∧ s.version ≤ 1000 := by simpa [isSrc, inR] using e1
  by_cases e2 : s.version = 1000
  · repeat' first|refine nx ?_|refine xb_miss (by decide) ?_|(apply W_reg;(simp [Ag, c1, c2, e1, e2];exact .r _))|(apply W_draw (id := 1) [0,1,3,0,8,31,0,127] rfl rfl; (· simp; exact .r _); (· simp [Ag, c1, c2, e1, e2]; exact .r _); (· first|trivial|simp))
    refine W_cond (by simp; exact .r _) (fun hc => ?_) (fun hc => ?_)
    · repeat' first|refine nx ?_|refine xb_miss (by decide) ?_|(apply W_reg;(simp [c2];exact .r _))
      simp [xApp, appOk, e2]
    · simp at hc
  have wr2_ : IntKind.i64.wrap (s.version + 1) = s.version + 1 := wrap_ok (by omega) (by omega)
  have hapo : appOk c s d = if d.insert then addOk c s.facts d.fact else decide (d.fact ∈ s.facts) := by simp [appOk, e1, e2, hdb.1]
  by_cases e3 : d.fact ∈ s.facts
  · rw [show xRem c s.facts d.fact = .tup [.own 2 (rowsE (remF s.facts d.fact)), .t (.b true) false] by simp [xRem, hdb.1, e3]] at c3
    rw [show xAdd c s.facts d.fact = .tup [.own 2 (rowsE s.facts), .t (.b false) false] by simp [xAdd, e3]] at c4
    cases e4 : d.insert
    · rw [e4, if_neg (by decide), decide_eq_true e3] at hapo
      repeat' first|refine nx ?_|refine xb_miss (by decide) ?_|(apply W_reg;(simp [wr2_, Ag, c1, c2, e1, e2, show ¬ 1000 ≤ s.version by omega];exact .r _))|(apply W_draw (id := 1) [0,1,3,0,8,31,0,127] rfl rfl; (· simp; exact .r _); (· simp [wr2_, Ag, c1, c2, e1, e2, show ¬ 1000 ≤ s.version by omega]; exact .r _); (· first|trivial|simp))
      refine W_cond (by simp [wr2_]; exact .r _) (fun hc => ?_) (fun hc => ?_)
      · simp at hc
      repeat' first|refine nx ?_|refine xb_miss (by decide) ?_|(apply W_reg;(simp [wr2_, c3, c4, e4];exact .r _))
      refine W_cond (by simp [wr2_]; exact .r _) (fun hd0 => ?_) (fun hd0 => ?_)
      rotate_left
      · cases hd0
      repeat' first|refine nx ?_|refine xb_miss (by decide) ?_|(apply W_reg;(simp [wr2_, c2, c3, c4, e4];exact .r _))
      refine W_cond (by simp [wr2_]; exact .r _) (fun hd1 => ?_) (fun hd1 => ?_)
      · cases hd1
      repeat' first|refine nx ?_|refine xb_miss (by decide) ?_|(apply W_reg;(simp [wr2_, c2, c3, c4, e4];exact .r _))
      simp [xApp, hapo, appF, e4]
    · rw [e4, if_pos rfl, show addOk c s.facts d.fact = false by simp [addOk, e3]] at hapo
      repeat' first|refine nx ?_|refine xb_miss (by decide) ?_|(apply W_reg;(simp [wr2_, Ag, c1, c2, e1, e2, show ¬ 1000 ≤ s.version by omega];exact .r _))|(apply W_draw (id := 1) [0,1,3,0,8,31,0,127] rfl rfl; (· simp; exact .r _); (· simp [wr2_, Ag, c1, c2, e1, e2, show ¬ 1000 ≤ s.version by omega]; exact .r _); (· first|trivial|simp))
      refine W_cond (by simp [wr2_]; exact .r _) (fun hc => ?_) (fun hc => ?_)
      · simp at hc
      repeat' first|refine nx ?_|refine xb_miss (by decide) ?_|(apply W_reg;(simp [wr2_, c3, c4, e4];exact .r _))
      refine W_cond (by simp [wr2_]; exact .r _) (fun hd0 => ?_) (fun hd0 => ?_)
      · cases hd0
      repeat' first|refine nx ?_|refine xb_miss (by decide) ?_|(apply W_reg;(simp [wr2_, c2, c3, c4, e4];exact .r _))
      refine W_cond (by simp [wr2_]; exact .r _) (fun hd1 => ?_) (fun hd1 => ?_)
      rotate_left
      · cases hd1
      repeat' first|refine nx ?_|refine xb_miss (by decide) ?_|(apply W_reg;(simp [wr2_, c2, c3, c4, e4];exact .r _))
      simp [xApp, hapo]
  · rw [show xRem c s.facts d.fact = .tup [.own 2 (rowsE s.facts), .t (.b false) false] by simp [xRem, e3]] at c3
    cases e4 : d.insert
    · rw [e4, if_neg (by decide), decide_eq_false e3] at hapo
      cases e5 : addOk c s.facts d.fact
      · rw [show xAdd c s.facts d.fact = .tup [.own 2 (rowsE s.facts), .t (.b false) false] from if_neg (by rw [← addOk, e5]; decide)] at c4
        repeat' first|refine nx ?_|refine xb_miss (by decide) ?_|(apply W_reg;(simp [wr2_, Ag, c1, c2, e1, e2, show ¬ 1000 ≤ s.version by omega];exact .r _))|(apply W_draw (id := 1) [0,1,3,0,8,31,0,127] rfl rfl; (· simp; exact .r _); (· simp [wr2_, Ag, c1, c2, e1, e2, show ¬ 1000 ≤ s.version by omega]; exact .r _); (· first|trivial|simp))
        refine W_cond (by simp [wr2_]; exact .r _) (fun hc => ?_) (fun hc => ?_)
        · simp at hc
        repeat' first|refine nx ?_|refine xb_miss (by decide) ?_|(apply W_reg;(simp [wr2_, c3, c4, e4];exact .r _))
        refine W_cond (by simp [wr2_]; exact .r _) (fun hd0 => ?_) (fun hd0 => ?_)
        rotate_left
        · cases hd0
        repeat' first|refine nx ?_|refine xb_miss (by decide) ?_|(apply W_reg;(simp [wr2_, c2, c3, c4, e4];exact .r _))
        refine W_cond (by simp [wr2_]; exact .r _) (fun hd1 => ?_) (fun hd1 => ?_)
        rotate_left
        · cases hd1
        repeat' first|refine nx ?_|refine xb_miss (by decide) ?_|(apply W_reg;(simp [wr2_, c2, c3, c4, e4];exact .r _))
        simp [xApp, hapo]
      · rw [show xAdd c s.facts d.fact = .tup [.own 2 (rowsE (addF s.facts d.fact)), .t (.b true) false] from if_pos e5] at c4
        repeat' first|refine nx ?_|refine xb_miss (by decide) ?_|(apply W_reg;(simp [wr2_, Ag, c1, c2, e1, e2, show ¬ 1000 ≤ s.version by omega];exact .r _))|(apply W_draw (id := 1) [0,1,3,0,8,31,0,127] rfl rfl; (· simp; exact .r _); (· simp [wr2_, Ag, c1, c2, e1, e2, show ¬ 1000 ≤ s.version by omega]; exact .r _); (· first|trivial|simp))
        refine W_cond (by simp [wr2_]; exact .r _) (fun hc => ?_) (fun hc => ?_)
        · simp at hc
        repeat' first|refine nx ?_|refine xb_miss (by decide) ?_|(apply W_reg;(simp [wr2_, c3, c4, e4];exact .r _))
        refine W_cond (by simp [wr2_]; exact .r _) (fun hd0 => ?_) (fun hd0 => ?_)
        rotate_left
        · cases hd0
        repeat' first|refine nx ?_|refine xb_miss (by decide) ?_|(apply W_reg;(simp [wr2_, c2, c3, c4, e4];exact .r _))
        refine W_cond (by simp [wr2_]; exact .r _) (fun hd1 => ?_) (fun hd1 => ?_)
        rotate_left
        · cases hd1
        repeat' first|refine nx ?_|refine xb_miss (by decide) ?_|(apply W_reg;(simp [wr2_, c2, c3, c4, e4];exact .r _))
        simp [xApp, hapo]
    · rw [e4, if_pos rfl] at hapo
      cases e5 : addOk c s.facts d.fact
      · rw [e5] at hapo
        rw [show xAdd c s.facts d.fact = .tup [.own 2 (rowsE s.facts), .t (.b false) false] from if_neg (by rw [← addOk, e5]; decide)] at c4
        repeat' first|refine nx ?_|refine xb_miss (by decide) ?_|(apply W_reg;(simp [wr2_, Ag, c1, c2, e1, e2, show ¬ 1000 ≤ s.version by omega];exact .r _))|(apply W_draw (id := 1) [0,1,3,0,8,31,0,127] rfl rfl; (· simp; exact .r _); (· simp [wr2_, Ag, c1, c2, e1, e2, show ¬ 1000 ≤ s.version by omega]; exact .r _); (· first|trivial|simp))
        refine W_cond (by simp [wr2_]; exact .r _) (fun hc => ?_) (fun hc => ?_)
        · simp at hc
        repeat' first|refine nx ?_|refine xb_miss (by decide) ?_|(apply W_reg;(simp [wr2_, c3, c4, e4];exact .r _))
        refine W_cond (by simp [wr2_]; exact .r _) (fun hd0 => ?_) (fun hd0 => ?_)
        · cases hd0
        repeat' first|refine nx ?_|refine xb_miss (by decide) ?_|(apply W_reg;(simp [wr2_, c2, c3, c4, e4];exact .r _))
        refine W_cond (by simp [wr2_]; exact .r _) (fun hd1 => ?_) (fun hd1 => ?_)
        rotate_left
        · cases hd1
        repeat' first|refine nx ?_|refine xb_miss (by decide) ?_|(apply W_reg;(simp [wr2_, c2, c3, c4, e4];exact .r _))
        simp [xApp, hapo]
      · rw [e5] at hapo
        rw [show xAdd c s.facts d.fact = .tup [.own 2 (rowsE (addF s.facts d.fact)), .t (.b true) false] from if_pos e5] at c4
        repeat' first|refine nx ?_|refine xb_miss (by decide) ?_|(apply W_reg;(simp [wr2_, Ag, c1, c2, e1, e2, show ¬ 1000 ≤ s.version by omega];exact .r _))|(apply W_draw (id := 1) [0,1,3,0,8,31,0,127] rfl rfl; (· simp; exact .r _); (· simp [wr2_, Ag, c1, c2, e1, e2, show ¬ 1000 ≤ s.version by omega]; exact .r _); (· first|trivial|simp))
        refine W_cond (by simp [wr2_]; exact .r _) (fun hc => ?_) (fun hc => ?_)
        · simp at hc
        repeat' first|refine nx ?_|refine xb_miss (by decide) ?_|(apply W_reg;(simp [wr2_, c3, c4, e4];exact .r _))
        refine W_cond (by simp [wr2_]; exact .r _) (fun hd0 => ?_) (fun hd0 => ?_)
        · cases hd0
        repeat' first|refine nx ?_|refine xb_miss (by decide) ?_|(apply W_reg;(simp [wr2_, c2, c3, c4, e4];exact .r _))
        refine W_cond (by simp [wr2_]; exact .r _) (fun hd1 => ?_) (fun hd1 => ?_)
        · cases hd1
        repeat' first|refine nx ?_|refine xb_miss (by decide) ?_|(apply W_reg;(simp [wr2_, c2, c3, c4, e4];exact .r _))
        simp [xApp, hapo, appF, e4]
end Go.Proofs.Ytlehbgapjibeeaa.V

namespace Go.Proofs.Ytlehbgapjibeeaa.V
open Go Go.Proofs
set_option linter.unusedVariables false
theorem ascF_of : ∀ {l : List RA}, (l.Pairwise fun a b => cmpF a b < 0) → ascF l = true
  | [], _ => rfl
  | [_], _ => rfl
  | a :: b :: l, h => by
    rw [List.pairwise_cons] at h
    rw [ascF, ascF_of h.2, decide_eq_true (h.1 b (by simp))]; rfl
theorem antiF' : ∀ xs : List RA, ∀ a b : RA, a ∈ xs → b ∈ xs → ¬ cmpF b a < 0 → ¬ cmpF a b < 0 → a = b := fun xs a b _ _ h1 h2 => antiF a b h1 h2
theorem asyF (a b : RA) (h1 : cmpF a b < 0) : ¬ cmpF b a < 0 := fun h2 => by
  have := swoF.trans a b a (by rw [lt_dec]; exact decide_eq_true h1) (by rw [lt_dec]; exact decide_eq_true h2)
  rw [swoF.irrefl] at this; cases this
theorem srtF_asc {l : List RA} (h : l.Nodup) : (srt cmpF l).Pairwise fun a b => cmpF a b < 0 := by
  have h1 := srt_sorted (xs := l) swoF
  have h2 : (srt cmpF l).Nodup := srt_perm.nodup_iff.2 h
  refine (h1.and h2).imp fun {a b} hh => ?_
  exact Classical.byContradiction fun h3 => hh.2 (antiF a b hh.1 h3)
theorem isDb_parts {c : Sch} {l : List RA} : isDb c l = true ↔ (∀ a ∈ l, isFact c a = true) ∧ ascF l = true ∧ isSch c = true ∧ l.length ≤ 24 := by
  simp only [isDb, Bool.and_eq_true, List.all_eq_true, decide_eq_true_eq]
  exact ⟨fun h => ⟨h.1.1.1, h.1.1.2, h.1.2, h.2⟩, fun h => ⟨⟨⟨h.1, h.2.1⟩, h.2.2.1⟩, h.2.2.2⟩⟩
theorem addF_db {c : Sch} {l : List RA} {f : RA} (h : isDb c l = true) (hf : isFact c f = true) (hn : f ∉ l) (hl : l.length ≠ 24) : isDb c (addF l f) = true := by
  obtain ⟨h1, h2, h3, h4⟩ := isDb_parts.1 h
  have hnd : (l ++ [f]).Nodup := by
    refine List.nodup_append.2 ⟨isDb_nodup h, by simp, fun a ha b hb => ?_⟩
    rw [List.mem_singleton] at hb; subst hb
    exact fun e => hn (e ▸ ha)
  refine isDb_parts.2 ⟨fun a ha => ?_, ascF_of (srtF_asc hnd), h3, ?_⟩
  · rcases List.mem_append.1 (srt_perm.mem_iff.1 ha) with h5 | h5
    · exact h1 a h5
    · rw [List.mem_singleton] at h5; rw [h5]; exact hf
  · have : (addF l f).length = (l ++ [f]).length := srt_perm.length_eq
    rw [List.length_append, List.length_singleton] at this
    omega
theorem remF_mem {l : List RA} {f x : RA} : x ∈ remF l f ↔ x ∈ l ∧ x ≠ f := by
  unfold remF; rw [List.mem_filter]; simp
theorem remF_db {c : Sch} {l : List RA} {f : RA} (h : isDb c l = true) : isDb c (remF l f) = true := by
  obtain ⟨h1, h2, h3, h4⟩ := isDb_parts.1 h
  refine isDb_parts.2 ⟨fun a ha => h1 a (remF_mem.1 ha).1, ascF_of ((ascF_pair h2).filter _), h3, Nat.le_trans (remF_len l f) h4⟩
theorem remF_lt {l : List RA} {f : RA} (h : f ∈ l) : (remF l f).length < l.length := by
  unfold remF
  rw [List.length_filter_lt_length_iff_exists]
  exact ⟨f, h, by simp⟩
theorem ndF_ext {l m : List RA} (h1 : l.Nodup) (h2 : m.Nodup) (h : ∀ x, x ∈ l ↔ x ∈ m) : l.Perm m := (List.perm_ext_iff_of_nodup h1 h2).2 h
theorem remF_addF {c : Sch} {l : List RA} {f : RA} (h : isDb c l = true) (hf : isFact c f = true) (hn : f ∉ l) (hl : l.length ≠ 24) : remF (addF l f) f = l := by
  have hd := addF_db h hf hn hl
  have hr := remF_db (f := f) hd
  have hp : (remF (addF l f) f).Perm l := ndF_ext (isDb_nodup hr) (isDb_nodup h) fun x => by
    rw [remF_mem, show x ∈ addF l f ↔ x ∈ l ++ [f] from srt_perm.mem_iff, List.mem_append, List.mem_singleton]
    constructor
    · rintro ⟨h1 | h1, h2⟩
      · exact h1
      · exact absurd h1 h2
    · exact fun h1 => ⟨.inl h1, fun e => hn (e ▸ h1)⟩
  have e1 := srt_eq swoF (antiF' l) hp ((ascF_pair (isDb_parts.1 hr).2.1).imp fun {a b} h => asyF a b h)
  have e2 := srt_eq swoF (antiF' l) (.refl l) ((ascF_pair (isDb_parts.1 h).2.1).imp fun {a b} h => asyF a b h)
  rw [e1, ← e2]
theorem addF_remF {c : Sch} {l : List RA} {f : RA} (h : isDb c l = true) (hn : f ∈ l) : addF (remF l f) f = l := by
  have hnd := isDb_nodup h
  have hnr : (remF l f ++ [f]).Nodup := by
    refine List.nodup_append.2 ⟨isDb_nodup (remF_db h), by simp, fun a ha b hb => ?_⟩
    rw [List.mem_singleton] at hb; subst hb
    exact (remF_mem.1 ha).2
  have hp : l.Perm (remF l f ++ [f]) := ndF_ext hnd hnr fun x => by
    rw [List.mem_append, List.mem_singleton, remF_mem]
    by_cases e : x = f
    · subst e; simp [hn]
    · simp [e]
  exact (srt_eq swoF (antiF' _) hp ((ascF_pair (isDb_parts.1 h).2.1).imp fun {a b} h => asyF a b h)).symm
def opp (d : Chg) : Chg := ⟨!d.insert, d.fact⟩
theorem src_fwd {c : Sch} {s : Src} {d : Chg} (h : appOk c s d = true) : isSrc c ⟨appF s d, s.version + 1⟩ = true ∧ decide (d.fact ∈ appF s d) = d.insert ∧ (s.version + 1 ≠ 1000 → appOk c ⟨appF s d, s.version + 1⟩ (opp d) = true ∧ appF ⟨appF s d, s.version + 1⟩ (opp d) = s.facts) := by
  obtain ⟨ins, f⟩ := d
  simp only [appOk, isSrc, Bool.and_eq_true, inR, decide_eq_true_eq, Bool.not_eq_true', decide_eq_false_iff_not] at h
  obtain ⟨⟨⟨h1, h2⟩, h3⟩, h4⟩ := h
  cases ins with
  | true =>
    simp only [if_true, addOk, Bool.and_eq_true, Bool.not_eq_true', decide_eq_false_iff_not] at h4
    obtain ⟨⟨⟨_, h5⟩, h6⟩, h7⟩ := h4
    have hd := addF_db h1 h5 h6 h7
    have hm : f ∈ addF s.facts f := srt_perm.mem_iff.2 (by simp)
    refine ⟨?_, ?_, fun hv => ⟨?_, ?_⟩⟩
    · simp only [appF, if_true, isSrc, hd, inR, Bool.true_and, decide_eq_true_eq]; omega
    · simp [appF, hm]
    · simp only [appOk, appF, opp, isSrc, Bool.not_true, Bool.false_eq_true, if_true, if_false, hd, inR, hm, decide_true, Bool.and_true, Bool.true_and, Bool.and_eq_true, decide_eq_true_eq, Bool.not_eq_true', decide_eq_false_iff_not]
      exact ⟨by omega, hv⟩
    · simp only [appF, opp, Bool.not_true, Bool.false_eq_true, if_true, if_false]
      exact remF_addF h1 h5 h6 h7
  | false =>
    simp only [Bool.false_eq_true, if_false, Bool.and_eq_true, decide_eq_true_eq] at h4
    have hd := remF_db (f := f) h1
    have hnm : f ∉ remF s.facts f := fun hh => (remF_mem.1 hh).2 rfl
    have hfa := (isDb_parts.1 h1).1 f h4.2
    have hlt := remF_lt h4.2
    have hle := (isDb_parts.1 h1).2.2.2
    refine ⟨?_, ?_, fun hv => ⟨?_, ?_⟩⟩
    · simp only [appF, Bool.false_eq_true, if_false, isSrc, hd, inR, Bool.true_and, decide_eq_true_eq]; omega
    · simp [appF, hnm]
    · simp only [appOk, addOk, appF, opp, isSrc, Bool.not_false, Bool.false_eq_true, if_true, if_false, hd, hfa, inR, hnm, decide_false, Bool.and_true, Bool.true_and, Bool.and_eq_true, decide_eq_true_eq, Bool.not_eq_true', decide_eq_false_iff_not]
      exact ⟨⟨by omega, hv⟩, by omega⟩
    · simp only [appF, opp, Bool.not_false, Bool.false_eq_true, if_true, if_false]
      exact addF_remF h1 h4.2
end Go.Proofs.Ytlehbgapjibeeaa.V

namespace Go.Proofs.Ytlehbgapjibeeaa.V
open Go Go.RowKit Go.Deep Go.ChangeShapes Go.WideShapes
set_option linter.unusedVariables false
/-- Whatever reads as data of type t is a value that fits. -/
def RdF (α : Type) [Enc α] [Lw α] (P : Program) (w : World) (t : TypeId) : Prop := Rdv P w t (fun a : α => Fit a)
theorem Rdv.mono {α : Type} [Enc α] {P : Program} {w : World} {t : TypeId} {Q Q' : α → Prop} (h : Rdv P w t Q) (hq : ∀ a, Q a → Q' a) : Rdv P w t Q' := fun H enc fuel cs x hx => by
  obtain ⟨a, h1, h2⟩ := h H enc fuel cs x hx
  exact ⟨a, h1, hq a h2⟩
instance : Lw Bool := ⟨fun _ => 0, fun _ _ => True, fun _ _ _ => trivial⟩
variable {α β γ δ : Type} [Enc α] [Enc β] [Enc γ] [Enc δ] [Lw α] [Lw β] [Lw γ] [Lw δ] {P : Program} {w : World} {t e : TypeId}
theorem rf_slice (ht : P.underlying t = some (.slice e)) (hc : P.cellsOf e = Enc.n α) (hn : 0 < Enc.n α) (hd : RdF α P w e) : RdF (List α) P w t := (rd_slice ht hc hn hd).mono fun a h => ⟨h.1, h.2⟩
end Go.Proofs.Ytlehbgapjibeeaa.V

namespace Go.Proofs.Ytlehbgapjibeeaa.V
open Go Go.Proofs
set_option linter.unusedVariables false
set_option linter.unusedSimpArgs false
instance : Lw By := ⟨fun _ => 0, fun _ _ => True, fun _ _ _ => trivial⟩
open Go.RowKit Go.Deep Go.ChangeShapes Go.WideShapes in
theorem rf_u8 {P : Program} {w : World} {t : TypeId} (ht : P.underlying t = some (.int .u8)) : RdF By P w t := by
  intro H enc fuel cs x h
  obtain ⟨n, rfl, _, hw⟩ := DataW.trod_int ht h
  exact ⟨⟨n⟩, .one (.i _ _), trivial⟩
theorem big_r (b : List By) : Ret XX 19 [Ar b] (.t (.b (decide (1048576 < b.length))) false) := by
  refine ret_W rfl Try.func19 rfl rfl (by simp [Try.f19]) ?_
  simp only [Try.f19]
  repeat' first|refine nx ?_|refine xb_miss (by decide) ?_|(apply W_reg;(simp;exact .r _))
  simp
  omega
theorem specEqF_r (a b : List RA) (h : SmF a) : Ret XX 23 [Ar a, Ar b] (.t (.b (decide (a = b))) false) := by
  refine ret_W rfl Try.func23 rfl rfl (by simp [Try.f23]) ?_
  simp only [Try.f23]
  have hal : a.length < 1099511627775 := h.1
  by_cases hl : a.length = b.length
  · have hli : (a.length : Int) = b.length := by omega
    repeat' first|refine nx ?_|refine xb_miss (by decide) ?_|(apply W_reg;(simp [hl, hli];exact .r _))
    refine W_cond (by simp; exact .r _) (fun hc => ?_) (fun hc => ?_)
    · simp [hl] at hc
    repeat' first|refine nx ?_|refine xb_miss (by decide) ?_|(apply W_reg;(simp;exact .r _))
    refine W_loop (n := a.length) (fun n s => ∃ i : Nat, n = a.length - i ∧ s.nt = 27 ∧ s.tm 0 = Ar a ∧ s.tm 1 = Ar b ∧ s.tm 5 = In i ∧ i ≤ a.length ∧ a.take i = b.take i) ⟨0, by simp⟩ ?_
    rintro n ⟨nt, tm, σ⟩ ⟨i, rfl, hnt, h0, h1, h5, hi, heq⟩
    simp only at hnt h0 h1 h5
    subst hnt
    repeat' first|refine nx ?_|refine xb_miss (by decide) ?_|(apply W_reg;(simp [h0, h1, h5];exact .r _))
    refine W_cond (by simp [h0, h1, h5]; exact .r _) (fun hc => ?_) (fun hc => ?_)
    · have hia : i < a.length := by simpa using hc
      have hib : i < b.length := by omega
      have c1 := cv (l5Same_r a[i] b[i] (h.2 _ (List.getElem_mem hia)))
      simp only [Ag, cells_RA, List.map_cons, List.map_nil] at c1
      obtain ⟨dd, hdd⟩ : ∃ dd : Bool, decide (a[i] = b[i]) = dd := ⟨_, rfl⟩
      rw [hdd] at c1
      cases dd
      · repeat' first|refine nx ?_|refine xb_miss (by decide) ?_|(apply W_reg;(simp [h0, h1, h5, hia, hib, c1];exact .r _))|(apply W_draw (id := 6) [0,0,3,7,0,0,48,112,255,511] rfl rfl; (· simp; exact .r _); (· simp [h0, h1, h5, hia, hib, c1]; exact .r _); (· first|trivial|simp))
        refine W_cond (by simp [h0, h1, h5]; exact .r _) (fun hd => ?_) (fun hd => ?_)
        · repeat' first|refine nx ?_|refine xb_miss (by decide) ?_|(apply W_reg;(simp [h0, h1, h5];exact .r _))
          have hn : a ≠ b := fun e => by subst e; simp at hdd
          simp [hn]
        · cases hd
      · repeat' first|refine nx ?_|refine xb_miss (by decide) ?_|(apply W_reg;(simp [h0, h1, h5, hia, hib, c1];exact .r _))|(apply W_draw (id := 6) [0,0,3,7,0,0,48,112,255,511] rfl rfl; (· simp; exact .r _); (· simp [h0, h1, h5, hia, hib, c1]; exact .r _); (· first|trivial|simp))
        refine W_cond (by simp [h0, h1, h5]; exact .r _) (fun hd => ?_) (fun hd => ?_)
        · cases hd
        have hd : a[i] = b[i] := by simpa using hdd
        repeat' first|refine nx ?_|refine xb_miss (by decide) ?_|(apply W_reg;(simp [h0, h1, h5];exact .r _))
        refine ⟨_, ?_, i + 1, rfl, rfl, ?_, ?_, ?_, by omega, by rw [List.take_succ_eq_append_getElem hia, List.take_succ_eq_append_getElem hib, heq, hd]⟩
        all_goals first|assumption|(simp [h0, h1, h5];done)|(simp [h0, h1, h5];omega)|(simp [h0, h1, h5];exact wrap_succ (by omega))|omega
    · have hil : i = a.length := by simp at hc; omega
      subst hil
      repeat' first|refine nx ?_|refine xb_miss (by decide) ?_|(apply W_reg;(simp [h0, h1, h5];exact .r _))
      rw [List.take_length, hl, List.take_length] at heq
      have : a = b := heq
      simp [this]
  · have hli : ¬ (a.length : Int) = b.length := by omega
    repeat' first|refine nx ?_|refine xb_miss (by decide) ?_|(apply W_reg;(simp [hl, hli];exact .r _))
    refine W_cond (by simp; exact .r _) (fun hc => ?_) (fun hc => ?_)
    · repeat' first|refine nx ?_|refine xb_miss (by decide) ?_|(apply W_reg;(simp;exact .r _))
      have : a ≠ b := fun e => hl (by rw [e])
      simp [this]
    · simp [hl] at hc
set_option maxRecDepth 20000 in
theorem eqfF_r (a b : List RA) (g : Nat) (ha : Sm a) (hM : Ms g = false) (hp : ∀ x ∈ a, ∀ y : RA, Ret XX g [Ag x, Ag y] (.t (.b (decide (x = y))) false)) : Ret XX 55 [Ar a, Ar b, .clo g []] (.t (.b (decide (a = b))) false) := by
  refine ret_W rfl Try.func55 rfl rfl (by simp [Try.f55]) ?_
  simp only [Try.f55]
  repeat' first|refine nx ?_|refine xb_miss (by decide) ?_|(apply W_reg;(simp;exact .r _))
  refine W_cond (by simp; exact .r _) (fun hc => ?_) (fun hc => ?_)
  · repeat' first|refine nx ?_|refine xb_miss (by decide) ?_|(apply W_reg;(simp;exact .r _))
    have : a ≠ b := fun e => by subst e; simp at hc
    simp [this]
  have hl : a.length = b.length := by simp at hc; omega
  repeat' first|refine nx ?_|refine xb_miss (by decide) ?_|(apply W_reg;(simp;exact .r _))
  refine W_loop (n := a.length) (fun n s => ∃ i : Nat, n = a.length - i ∧ s.nt = 32 ∧ s.tm 1 = Ar b ∧ s.tm 2 = .clo g [] ∧ s.tm 15 = Ar a ∧ s.tm 16 = In a.length ∧ s.tm 17 = In i ∧ i ≤ a.length ∧ a.take i = b.take i) ⟨0, by simp⟩ ?_
  rintro n ⟨nt, tm, σ⟩ ⟨i, rfl, hnt, h1, h2, h15, h16, h17, hi, heq⟩
  simp only at hnt h1 h2 h15 h16 h17
  subst hnt
  repeat' first|refine nx ?_|refine xb_miss (by decide) ?_|(apply W_reg;(simp [h1, h2, h15, h16, h17];exact .r _))
  refine W_cond (by simp [h1, h2, h15, h16, h17]; exact .r _) (fun hc => ?_) (fun hc => ?_)
  · have hia : i < a.length := by simpa using hc
    have hib : i < b.length := by omega
    have hcc := cv (hp a[i] (List.getElem_mem hia) b[i]) hM
    obtain ⟨dd, hdd⟩ : ∃ dd : Bool, decide (a[i] = b[i]) = dd := ⟨_, rfl⟩
    rw [hdd] at hcc
    have hcall : ∀ σ, callV Ms XX σ g [Ag a[i], Ag b[i]] = some (.t (.b dd), σ) := fun σ => by rw [hcc σ [Ag a[i], Ag b[i]] (by simp [Ag])]; simp [Ag]
    simp only [Ag, cells_RA, List.map_cons, List.map_nil] at hcall
    cases dd
    · repeat' first|refine nx ?_|refine xb_miss (by decide) ?_|(apply W_reg;(simp [h1, h2, h15, h16, h17, hia, hib, hcall];exact .r _))
      refine W_cond (by simp [h1, h2, h15, h16, h17]; exact .r _) (fun hd => ?_) (fun hd => ?_)
      · repeat' first|refine nx ?_|refine xb_miss (by decide) ?_|(apply W_reg;(simp [h1, h2, h15, h16, h17];exact .r _))
        have : a ≠ b := fun e => by subst e; simp at hdd
        simp [this]
      · cases hd
    · have hd : a[i] = b[i] := by simpa using hdd
      repeat' first|refine nx ?_|refine xb_miss (by decide) ?_|(apply W_reg;(simp [h1, h2, h15, h16, h17, hia, hib, hcall];exact .r _))
      refine W_cond (by simp [h1, h2, h15, h16, h17]; exact .r _) (fun hd2 => ?_) (fun hd2 => ?_)
      · cases hd2
      repeat' first|refine nx ?_|refine xb_miss (by decide) ?_|(apply W_reg;(simp [h1, h2, h15, h16, h17];exact .r _))
      refine ⟨_, ?_, i + 1, rfl, rfl, ?_, ?_, ?_, ?_, ?_, by omega, by rw [List.take_succ_eq_append_getElem hia, List.take_succ_eq_append_getElem hib, heq, hd]⟩
      all_goals first|assumption|(simp [h1, h2, h15, h16, h17];done)|(simp [h1, h2, h15, h16, h17];omega)|(simp [h1, h2, h15, h16, h17];exact wrap_succ (by omega))|omega
  · have hil : i = a.length := by simp at hc; omega
    subst hil
    repeat' first|refine nx ?_|refine xb_miss (by decide) ?_|(apply W_reg;(simp [h1, h2, h15, h16, h17];exact .r _))
    rw [List.take_length, hl, List.take_length] at heq
    have : a = b := heq
    simp [this]
set_option maxRecDepth 20000 in
theorem implEqF_r (a b : List RA) (h : SmF a) : Ret XX 27 [Ar a, Ar b] (.t (.b (decide (a = b))) false) := by
  refine ret_W rfl Try.func27 rfl rfl (by simp [Try.f27]) ?_
  simp only [Try.f27]
  have c1 := cv (eqfF_r a b 54 h.1 rfl (fun x hx y => equalFact_r x y (h.2 x hx)))
  repeat' first|refine nx ?_|refine xb_miss (by decide) ?_|(apply W_reg;(simp [c1];exact .r _))
  simp
end Go.Proofs.Ytlehbgapjibeeaa.V

namespace Go.Proofs.Ytlehbgapjibeeaa.V
open Go Go.Proofs
set_option linter.unusedVariables false
set_option linter.unusedSimpArgs false
theorem appF_sm {db : List RA} {v : Int} {d : Chg} (h : DbS 40 4 db) (hd : d.fact.args.length ≤ 4) : SmF (appF ⟨db, v⟩ d) := by
  unfold appF
  split
  · have hl : (addF db d.fact).length = (db ++ [d.fact]).length := srt_perm.length_eq
    have h1 := h.1
    refine ⟨?_, fun a ha => ?_⟩
    · simp only [List.length_append, List.length_cons, List.length_nil] at hl
      unfold Sm; simp only; omega
    · rcases List.mem_append.1 (srt_perm.mem_iff.1 ha) with h2 | h2
      · have := h.2 a h2; unfold Sm; omega
      · rw [List.mem_singleton] at h2; rw [h2]; unfold Sm; omega
  · have h1 := h.1
    have h3 := remF_len db d.fact
    exact ⟨by unfold Sm; simp only; omega, fun a ha => by have := h.2 a (remF_mem.1 ha).1; unfold Sm; omega⟩
set_option maxRecDepth 20000 in
set_option maxHeartbeats 4000000 in
theorem lawSources (b : List By) (f0 : Fit b) : Ret XX 4 [Ar b] (.t (.b true) false) := by
  refine ret_W rfl Try.func4 rfl rfl (by simp [Try.f4]) ?_
  simp only [Try.f4]
  have c0 := cv (big_r b)
  by_cases hbig : 1048576 < b.length
  · repeat' first|refine nx ?_|refine xb_miss (by decide) ?_|(apply W_reg;(simp [c0, hbig];exact .r _))
    refine W_cond (by simp; exact .r _) (fun hc => ?_) (fun hc => ?_)
    · repeat' first|refine nx ?_|refine xb_miss (by decide) ?_|(apply W_reg;(simp;exact .r _))
      simp
    · simp at hc
  obtain ⟨x, ⟨ar, db, v, d, y, f, har, hdb, hv, hd, hy, rfl⟩, hdr⟩ := drawApp_r b (by omega)
  have c1 := cv hdr
  have sc : Sm (⟨ar⟩ : Sch).arity := by unfold Sm; simp only; omega
  have hS : SmF (⟨db, v⟩ : Src).facts := hdb.sm (by omega) (by omega)
  have hdF : Sm d.fact.args := by unfold Sm; omega
  repeat' first|refine nx ?_|refine xb_miss (by decide) ?_|(apply W_reg;(simp [c0, hbig];exact .r _))
  refine W_cond (by simp; exact .r _) (fun hc => ?_) (fun hc => ?_)
  · simp at hc
  rcases nz_cases hy with rfl | ⟨rfl, hr0⟩
  · skip
    have c2 := cv (implApply_r ⟨ar⟩ ⟨db, v⟩ d sc hS hdF)
    have c3 := cv (specApply_r ⟨ar⟩ ⟨db, v⟩ d sc hS hdF)
    have c4 := cv (implIsSrc_r ⟨ar⟩ ⟨db, v⟩ sc hS.1 hS.2)
    have c5 := cv (specIsSrc_r ⟨ar⟩ ⟨db, v⟩ sc hS.1 hS.2)
    obtain ⟨r1, hr1⟩ : ∃ r : Bool, isSrc ⟨ar⟩ ⟨db, v⟩ = r := ⟨_, rfl⟩
    rw [hr1] at c4 c5
    cases hok : appOk ⟨ar⟩ ⟨db, v⟩ d
    · have hx : xApp ⟨ar⟩ ⟨db, v⟩ d = .tup [xvS db v, .t (.b false) false] := by simp [xApp, hok]
      rw [hx] at c2 c3
      have c6 := cv (specEqF_r db db hS)
      rw [decide_eq_true rfl] at c6
      simp only [Ag, cells_Sch, cells_Src, cells_Chg, List.map_cons, List.map_nil] at c2 c3 c4 c5
      repeat' first|refine nx ?_|refine xb_miss (by decide) ?_|(apply W_reg;(simp [c1, c2, c3, c4, c5, c6];exact .r _))|(apply W_draw (id := 6) [0,0,3,7,15,31,15,79,255,511,1023,2047,4095,8191,4095,20479,65535,131071,262143,524287,524287,2097151,524287,524287,16777215,33554431,67108863] rfl rfl; (· simp; exact .r _); (· simp [c1, c2, c3, c4, c5, c6]; exact .r _); (· first|trivial|simp))
      refine W_cond (by simp; exact .r _) (fun hc => ?_) (fun hc => ?_)
      · simp at hc
      repeat' first|refine nx ?_|refine xb_miss (by decide) ?_|(apply W_reg;(simp;exact .r _))
      refine W_cond (by simp; exact .r _) (fun hc => ?_) (fun hc => ?_)
      · repeat' first|refine nx ?_|refine xb_miss (by decide) ?_|(apply W_reg;(simp [c6];exact .r _))
        simp
      · simp at hc
    · have hx : xApp ⟨ar⟩ ⟨db, v⟩ d = .tup [xvS (appF ⟨db, v⟩ d) (v + 1), .t (.b true) false] := by simp [xApp, hok]
      obtain ⟨F, hF⟩ : ∃ F, appF ⟨db, v⟩ d = F := ⟨_, rfl⟩
      have hFs : SmF F := by rw [← hF]; exact appF_sm hdb hd
      obtain ⟨g1, g2, g3⟩ := src_fwd hok
      simp only [hF] at g1 g2 g3
      rw [hx, hF] at c2 c3
      have c6 := cv (implIsSrc_r ⟨ar⟩ ⟨F, v + 1⟩ sc hFs.1 hFs.2)
      rw [g1] at c6
      have c7 := cv (specEqF_r F F hFs)
      rw [decide_eq_true rfl] at c7
      have c8 := cv (implHas_r F d.fact hFs)
      rw [g2] at c8
      have c9 := cv (specApply_r ⟨ar⟩ ⟨F, v + 1⟩ ⟨!d.insert, d.fact⟩ sc hFs hdF)
      have c10 := cv (implEqF_r db db hS)
      rw [decide_eq_true rfl] at c10

      have wr1_ : IntKind.i64.wrap (v + 1) = v + 1 := wrap_ok (by omega) (by omega)
      by_cases h1000 : v + 1 = 1000
      · have hx2 : xApp ⟨ar⟩ ⟨F, v + 1⟩ ⟨!d.insert, d.fact⟩ = .tup [xvS F (v + 1), .t (.b false) false] := by
          unfold xApp
          rw [if_neg (by simp [appOk, h1000])]
        rw [hx2] at c9
        simp only [Ag, cells_Sch, cells_Src, cells_Chg, cells_RA, List.map_cons, List.map_nil] at c2 c3 c4 c5 c6 c8 c9
        repeat' first|refine nx ?_|refine xb_miss (by decide) ?_|(apply W_reg;(simp [wr1_, c1, c2, c3, c7, c4, c5];exact .r _))|(apply W_draw (id := 6) [0,0,3,7,15,31,15,79,255,511,1023,2047,4095,8191,4095,20479,65535,131071,262143,524287,524287,2097151,524287,524287,16777215,33554431,67108863] rfl rfl; (· simp; exact .r _); (· simp [wr1_, c1, c2, c3, c7, c4, c5]; exact .r _); (· first|trivial|simp))
        refine W_cond (by simp [wr1_]; exact .r _) (fun hc => ?_) (fun hc => ?_)
        · simp at hc
        repeat' first|refine nx ?_|refine xb_miss (by decide) ?_|(apply W_reg;(simp [wr1_];exact .r _))
        refine W_cond (by simp [wr1_]; exact .r _) (fun hc => ?_) (fun hc => ?_)
        · simp at hc
        repeat' first|refine nx ?_|refine xb_miss (by decide) ?_|(apply W_reg;(simp [wr1_, c6, c8];exact .r _))|(apply W_draw (id := 10) [0,0,3,7,15,31,63,31,159,415,1023,2047,4095,8191,16383,8191,40959,131071,8191,270335,1048575,2097151] rfl rfl; (· simp; exact .r _); (· simp [wr1_, c6, c8]; exact .r _); (· first|trivial|simp))
        refine W_cond (by simp [wr1_]; exact .r _) (fun hc => ?_) (fun hc => ?_)
        · simp at hc
        repeat' first|refine nx ?_|refine xb_miss (by decide) ?_|(apply W_reg;(simp [wr1_, c9, h1000];exact .r _))
        simp
      · obtain ⟨g4, g5⟩ := g3 h1000
        simp only [opp] at g4 g5
        have hx2 : xApp ⟨ar⟩ ⟨F, v + 1⟩ ⟨!d.insert, d.fact⟩ = .tup [xvS db (v + 1 + 1), .t (.b true) false] := by
          unfold xApp
          rw [if_pos g4, g5]
        rw [hx2] at c9
        simp only [Ag, cells_Sch, cells_Src, cells_Chg, cells_RA, List.map_cons, List.map_nil] at c2 c3 c4 c5 c6 c8 c9
        repeat' first|refine nx ?_|refine xb_miss (by decide) ?_|(apply W_reg;(simp [wr1_, c1, c2, c3, c7, c4, c5];exact .r _))|(apply W_draw (id := 6) [0,0,3,7,15,31,15,79,255,511,1023,2047,4095,8191,4095,20479,65535,131071,262143,524287,524287,2097151,524287,524287,16777215,33554431,67108863] rfl rfl; (· simp; exact .r _); (· simp [wr1_, c1, c2, c3, c7, c4, c5]; exact .r _); (· first|trivial|simp))
        refine W_cond (by simp [wr1_]; exact .r _) (fun hc => ?_) (fun hc => ?_)
        · simp at hc
        repeat' first|refine nx ?_|refine xb_miss (by decide) ?_|(apply W_reg;(simp [wr1_];exact .r _))
        refine W_cond (by simp [wr1_]; exact .r _) (fun hc => ?_) (fun hc => ?_)
        · simp at hc
        repeat' first|refine nx ?_|refine xb_miss (by decide) ?_|(apply W_reg;(simp [wr1_, c6, c8];exact .r _))|(apply W_draw (id := 10) [0,0,3,7,15,31,63,31,159,415,1023,2047,4095,8191,16383,8191,40959,131071,8191,270335,1048575,2097151] rfl rfl; (· simp; exact .r _); (· simp [wr1_, c6, c8]; exact .r _); (· first|trivial|simp))
        refine W_cond (by simp [wr1_]; exact .r _) (fun hc => ?_) (fun hc => ?_)
        · simp at hc
        repeat' first|refine nx ?_|refine xb_miss (by decide) ?_|(apply W_reg;(simp [wr1_, c9, h1000, c10];exact .r _))
        simp
  · skip
    have c2 := cv (implApply_r ⟨ar⟩ ⟨db, v⟩ d sc hS hdF)
    have c3 := cv (specApply_r ⟨ar⟩ ⟨db, v⟩ d sc hS hdF)
    have c4 := cv (implIsSrc_r ⟨ar⟩ ⟨db, v⟩ sc hS.1 hS.2)
    have c5 := cv (specIsSrc_r ⟨ar⟩ ⟨db, v⟩ sc hS.1 hS.2)
    obtain ⟨r1, hr1⟩ : ∃ r : Bool, isSrc ⟨ar⟩ ⟨db, v⟩ = r := ⟨_, rfl⟩
    rw [hr1] at c4 c5
    cases hok : appOk ⟨ar⟩ ⟨db, v⟩ d
    · have hx : xApp ⟨ar⟩ ⟨db, v⟩ d = .tup [xvS db v, .t (.b false) false] := by simp [xApp, hok]
      rw [hx] at c2 c3
      have c6 := cv (specEqF_r db db hS)
      rw [decide_eq_true rfl] at c6
      simp only [Ag, cells_Sch, cells_Src, cells_Chg, List.map_cons, List.map_nil] at c2 c3 c4 c5
      rw [hr0] at c2 c3 c4 c5
      repeat' first|refine nx ?_|refine xb_miss (by decide) ?_|(apply W_reg;(simp [c1, c2, c3, c4, c5, c6];exact .r _))|(apply W_draw (id := 6) [0,0,3,7,15,31,15,79,255,511,1023,2047,4095,8191,4095,20479,65535,131071,262143,524287,524287,2097151,524287,524287,16777215,33554431,67108863] rfl rfl; (· simp; exact .r _); (· simp [c1, c2, c3, c4, c5, c6]; exact .r _); (· first|trivial|simp))
      refine W_cond (by simp; exact .r _) (fun hc => ?_) (fun hc => ?_)
      · simp at hc
      repeat' first|refine nx ?_|refine xb_miss (by decide) ?_|(apply W_reg;(simp;exact .r _))
      refine W_cond (by simp; exact .r _) (fun hc => ?_) (fun hc => ?_)
      · repeat' first|refine nx ?_|refine xb_miss (by decide) ?_|(apply W_reg;(simp [c6];exact .r _))
        simp
      · simp at hc
    · have hx : xApp ⟨ar⟩ ⟨db, v⟩ d = .tup [xvS (appF ⟨db, v⟩ d) (v + 1), .t (.b true) false] := by simp [xApp, hok]
      obtain ⟨F, hF⟩ : ∃ F, appF ⟨db, v⟩ d = F := ⟨_, rfl⟩
      have hFs : SmF F := by rw [← hF]; exact appF_sm hdb hd
      obtain ⟨g1, g2, g3⟩ := src_fwd hok
      simp only [hF] at g1 g2 g3
      rw [hx, hF] at c2 c3
      have c6 := cv (implIsSrc_r ⟨ar⟩ ⟨F, v + 1⟩ sc hFs.1 hFs.2)
      rw [g1] at c6
      have c7 := cv (specEqF_r F F hFs)
      rw [decide_eq_true rfl] at c7
      have c8 := cv (implHas_r F d.fact hFs)
      rw [g2] at c8
      have c9 := cv (specApply_r ⟨ar⟩ ⟨F, v + 1⟩ ⟨!d.insert, d.fact⟩ sc hFs hdF)
      have c10 := cv (implEqF_r db db hS)
      rw [decide_eq_true rfl] at c10

      have wr2_ : IntKind.i64.wrap (v + 1) = v + 1 := wrap_ok (by omega) (by omega)
      by_cases h1000 : v + 1 = 1000
      · have hx2 : xApp ⟨ar⟩ ⟨F, v + 1⟩ ⟨!d.insert, d.fact⟩ = .tup [xvS F (v + 1), .t (.b false) false] := by
          unfold xApp
          rw [if_neg (by simp [appOk, h1000])]
        rw [hx2] at c9
        simp only [Ag, cells_Sch, cells_Src, cells_Chg, cells_RA, List.map_cons, List.map_nil] at c2 c3 c4 c5 c6 c8 c9
        rw [hr0] at c2 c3 c4 c5 c6 c9
        repeat' first|refine nx ?_|refine xb_miss (by decide) ?_|(apply W_reg;(simp [wr2_, c1, c2, c3, c7, c4, c5];exact .r _))|(apply W_draw (id := 6) [0,0,3,7,15,31,15,79,255,511,1023,2047,4095,8191,4095,20479,65535,131071,262143,524287,524287,2097151,524287,524287,16777215,33554431,67108863] rfl rfl; (· simp; exact .r _); (· simp [wr2_, c1, c2, c3, c7, c4, c5]; exact .r _); (· first|trivial|simp))
        refine W_cond (by simp [wr2_]; exact .r _) (fun hc => ?_) (fun hc => ?_)
        · simp at hc
        repeat' first|refine nx ?_|refine xb_miss (by decide) ?_|(apply W_reg;(simp [wr2_];exact .r _))
        refine W_cond (by simp [wr2_]; exact .r _) (fun hc => ?_) (fun hc => ?_)
        · simp at hc
        repeat' first|refine nx ?_|refine xb_miss (by decide) ?_|(apply W_reg;(simp [wr2_, c6, c8];exact .r _))|(apply W_draw (id := 10) [0,0,3,7,15,31,63,31,159,415,1023,2047,4095,8191,16383,8191,40959,131071,8191,270335,1048575,2097151] rfl rfl; (· simp; exact .r _); (· simp [wr2_, c6, c8]; exact .r _); (· first|trivial|simp))
        refine W_cond (by simp [wr2_]; exact .r _) (fun hc => ?_) (fun hc => ?_)
        · simp at hc
        repeat' first|refine nx ?_|refine xb_miss (by decide) ?_|(apply W_reg;(simp [wr2_, c9, h1000];exact .r _))
        simp
      · obtain ⟨g4, g5⟩ := g3 h1000
        simp only [opp] at g4 g5
        have hx2 : xApp ⟨ar⟩ ⟨F, v + 1⟩ ⟨!d.insert, d.fact⟩ = .tup [xvS db (v + 1 + 1), .t (.b true) false] := by
          unfold xApp
          rw [if_pos g4, g5]
        rw [hx2] at c9
        simp only [Ag, cells_Sch, cells_Src, cells_Chg, cells_RA, List.map_cons, List.map_nil] at c2 c3 c4 c5 c6 c8 c9
        rw [hr0] at c2 c3 c4 c5 c6 c9
        repeat' first|refine nx ?_|refine xb_miss (by decide) ?_|(apply W_reg;(simp [wr2_, c1, c2, c3, c7, c4, c5];exact .r _))|(apply W_draw (id := 6) [0,0,3,7,15,31,15,79,255,511,1023,2047,4095,8191,4095,20479,65535,131071,262143,524287,524287,2097151,524287,524287,16777215,33554431,67108863] rfl rfl; (· simp; exact .r _); (· simp [wr2_, c1, c2, c3, c7, c4, c5]; exact .r _); (· first|trivial|simp))
        refine W_cond (by simp [wr2_]; exact .r _) (fun hc => ?_) (fun hc => ?_)
        · simp at hc
        repeat' first|refine nx ?_|refine xb_miss (by decide) ?_|(apply W_reg;(simp [wr2_];exact .r _))
        refine W_cond (by simp [wr2_]; exact .r _) (fun hc => ?_) (fun hc => ?_)
        · simp at hc
        repeat' first|refine nx ?_|refine xb_miss (by decide) ?_|(apply W_reg;(simp [wr2_, c6, c8];exact .r _))|(apply W_draw (id := 10) [0,0,3,7,15,31,63,31,159,415,1023,2047,4095,8191,16383,8191,40959,131071,8191,270335,1048575,2097151] rfl rfl; (· simp; exact .r _); (· simp [wr2_, c6, c8]; exact .r _); (· first|trivial|simp))
        refine W_cond (by simp [wr2_]; exact .r _) (fun hc => ?_) (fun hc => ?_)
        · simp at hc
        repeat' first|refine nx ?_|refine xb_miss (by decide) ?_|(apply W_reg;(simp [wr2_, c9, h1000, c10];exact .r _))
        simp
end Go.Proofs.Ytlehbgapjibeeaa.V

