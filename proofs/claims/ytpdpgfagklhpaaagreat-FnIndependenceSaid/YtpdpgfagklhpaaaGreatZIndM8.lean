/- Several texts in one: what the claim needs of them. Conditions: each declaration's own. -/
import Derived.Test.YtpdpgfagklhpaaaGreatZIndM7
import Derived.Test.YtpdpgfagklhpaaaGreatZIndM5
import Derived.Test.YtpdpgfagklhpaaaGreatZIndM6
import Derived.Test.YtpdpgfagklhpaaaGreatZIndM4
namespace Go.Proofs.YtpdpgfagklhpaaaGreat.V
open Go Go.Proofs
set_option linter.unusedVariables false
set_option linter.unusedSimpArgs false
theorem l2Term_p (b : List By) (i : Nat) (h : Int) (hb : Sm b) (hi : i ≤ b.length) : ∃ x cs', ((∃ t : Int, (-3 ≤ t ∧ t ≤ 3) ∧ x = .t (.i .i64 t) false) ∧ CQ b cs') ∧ RetP XX 72 (CU b i h) [] x cs' := by
  refine ret_PW rfl Tryz.func72 rfl rfl (by simp [Tryz.f72]) ?_
  simp only [Tryz.f72]
  obtain ⟨x, cs', ⟨⟨o1, rfl⟩, i1, w1, hi1, rfl⟩, hr⟩ := l1Once_p b i h 4 hb hi (by omega)
  have c1 := cvP hr
  obtain ⟨x, cs', ⟨⟨k, hk, rfl⟩, i2, w2, hi2, rfl⟩, hr⟩ := l1Below_p b i1 w1 3 hb hi1 (by omega)
  have c2 := cvP hr
  obtain ⟨x, cs', ⟨⟨m, hm, rfl⟩, i3, w3, hi3, rfl⟩, hr⟩ := l1Below_p b i1 w1 4 hb hi1 (by omega)
  have c3 := cvP hr
  simp only [CU, List.map_cons, List.map_nil] at c1 c2 c3 ⊢
  have hk3 := hk.2.1 (by omega)
  have hm3 := hm.2.1 (by omega)
  have hk0 := hk.1
  have hm0 := hm.1
  have wr1_ : IntKind.i64.wrap (-1 - k) = -1 - k := wrap_ok (by omega) (by omega)
  cases o1
  · repeat' first|refine nx ?_|refine xb_miss (by decide) ?_|(apply W_reg;(simp [wr1_, c1];exact .r _))
    refine W_cond (by simp [wr1_]; exact .r _) (fun hc => ?_) (fun hc => ?_)
    · cases hc
    repeat' first|refine nx ?_|refine xb_miss (by decide) ?_|(apply W_reg;(simp [wr1_, c3];exact .r _))
    exact EndsP.mk (cs' := CU b i3 w3) (x := .t (.i .i64 m) false) (v := In m) (by simp) (by simp) (by simp) ⟨⟨m, ⟨by omega, by omega⟩, rfl⟩, i3, w3, hi3, rfl⟩
  · repeat' first|refine nx ?_|refine xb_miss (by decide) ?_|(apply W_reg;(simp [wr1_, c1];exact .r _))
    refine W_cond (by simp [wr1_]; exact .r _) (fun hc => ?_) (fun hc => ?_)
    · repeat' first|refine nx ?_|refine xb_miss (by decide) ?_|(apply W_reg;(simp [wr1_, c2];exact .r _))
      exact EndsP.mk (cs' := CU b i2 w2) (x := .t (.i .i64 (-1 - k)) false) (v := In (-1 - k)) (by simp [wr1_]) (by simp) (by simp) ⟨⟨-1 - k, ⟨by omega, by omega⟩, rfl⟩, i2, w2, hi2, rfl⟩
    · cases hc
theorem l2Any_p (b : List By) (i : Nat) (h : Int) (hb : Sm b) (hi : i ≤ b.length) : ∃ x cs', ((∃ t : Int, x = .t (.i .i64 t) false) ∧ CQ b cs') ∧ RetP XX 51 (CU b i h) [] x cs' := by
  refine ret_PW rfl Tryz.func51 rfl rfl (by simp [Tryz.f51]) ?_
  simp only [Tryz.f51]
  obtain ⟨x, cs', ⟨⟨o1, rfl⟩, i1, w1, hi1, rfl⟩, hr⟩ := l1Once_p b i h 6 hb hi (by omega)
  have c1 := cvP hr
  obtain ⟨x, cs', ⟨⟨y, hy, rfl⟩, i2, w2, hi2, rfl⟩, hr⟩ := l1PickInt_p b i1 w1 [19, 20, -80, -81, -1, 99] hb hi1 (by simp)
  have c2 := cvP hr
  obtain ⟨x, cs', ⟨⟨m, hm, rfl⟩, i3, w3, hi3, rfl⟩, hr⟩ := l2Term_p b i1 w1 hb hi1
  have c3 := cvP0 hr
  simp only [CU, List.map_cons, List.map_nil] at c1 c2 c3 ⊢
  rw [show Ar ([19, 20, -80, -81, -1, 99] : List Int) = .t (.sl [[.i .i64 19], [.i .i64 20], [.i .i64 (-80)], [.i .i64 (-81)], [.i .i64 (-1)], [.i .i64 99]]) from rfl] at c2
  have hr6 : ([0, 1, 2, 3, 4, 5] : List Nat) = List.range 6 := rfl
  cases o1
  · repeat' first|refine nx ?_|refine xb_miss (by decide) ?_|(apply W_reg;(simp [c1];exact .r _))
    refine W_cond (by simp; exact .r _) (fun hc => ?_) (fun hc => ?_)
    · cases hc
    repeat' first|refine nx ?_|refine xb_miss (by decide) ?_|(apply W_reg;(simp [c3];exact .r _))
    exact EndsP.mk (cs' := CU b i3 w3) (x := .t (.i .i64 m) false) (v := In m) (by simp) (by simp) (by simp) ⟨⟨m, rfl⟩, i3, w3, hi3, rfl⟩
  · repeat' first|refine nx ?_|refine xb_miss (by decide) ?_|(apply W_reg;(simp [c1];exact .r _))
    refine W_cond (by simp; exact .r _) (fun hc => ?_) (fun hc => ?_)
    · repeat' first|refine nx ?_|refine xb_miss (by decide) ?_|(apply W_reg;(simp [c2, hr6];exact .r _))
      exact EndsP.mk (cs' := CU b i2 w2) (x := .t (.i .i64 y) false) (v := In y) (by simp) (by simp) (by simp) ⟨⟨y, rfl⟩, i2, w2, hi2, rfl⟩
    · cases hc
theorem l3Atom_p (b : List By) (i : Nat) (h : Int) (c : Sch) (hb : Sm b) (hi : i ≤ b.length) (hc : Dr c) : ∃ x cs', ((∃ a : RA, a.args.length ≤ 3 ∧ (∀ t ∈ a.args, -3 ≤ t ∧ t ≤ 3) ∧ x = xvF a) ∧ CQ b cs') ∧ RetP XX 41 (CU b i h) [Ag c] x cs' := by
  refine ret_PW rfl Tryz.func41 rfl rfl (by simp [Tryz.f41]) ?_
  simp only [Tryz.f41]
  obtain ⟨x, cs', ⟨⟨k, hk, rfl⟩, i1, w1, hi1, rfl⟩, hr⟩ := l1Below_p b i h c.arity.length hb hi (by have := hc.2.1; omega)
  have c1 := cvP hr
  simp only [CU, List.map_cons, List.map_nil] at c1 ⊢
  have hd1 := hc.1
  have hk0 := hk.1
  have hkl : k.toNat < c.arity.length := by have := hk.2.1 (by omega); omega
  have hm := hc.2.2 _ (List.getElem_mem hkl)
  repeat' first|refine nx ?_|refine xb_miss (by decide) ?_|(apply W_reg;(simp [Ag, c1];exact .r _))
  refine W_loop (n := c.arity[k.toNat].toNat) (fun n s => ∃ j : Nat, ∃ i : Nat, ∃ w : Int, ∃ oT : Nat, ∃ A : List Int, n = c.arity[k.toNat].toNat - j ∧ s.nt = 33 ∧ s.tm 0 = .ptr 0 0 ∧ s.tm 3 = .ptr 1 0 ∧ s.tm 4 = .ptr 2 0 ∧ s.tm 5 = .ptr 3 0 ∧ s.tm 6 = In j ∧ i ≤ b.length ∧ s.σ.ob 0 = .box [Ar b, In i, In w] ∧ s.σ.ob 1 = .box [Ar c.arity] ∧ s.σ.ob 2 = .box [In 0, .t .nl] ∧ s.σ.ob 3 = .box [In k, gc oT j] ∧ 4 ≤ s.σ.n ∧ (j : Int) ≤ c.arity[k.toNat] ∧ A.length = j ∧ (∀ t ∈ A, -3 ≤ t ∧ t ≤ 3) ∧ (j = 0 ∨ (s.σ.ob oT = .arr (.own 0) 0 1 (rowsE A) ∧ 4 ≤ oT ∧ oT < s.σ.n))) ⟨0, i1, w1, 0, [], by (simp; exact ⟨hi1, by omega⟩)⟩ ?_
  rintro n ⟨nt, tm, σ⟩ ⟨j, i, w, oT, A, rfl, hnt, h0, h3, h4, h5, h6, hi, hb0, hb1, hb2, hb3, hn, hj, hA, hAt, hT⟩
  simp only at hnt h0 h3 h4 h5 h6 hb0 hb1 hb2 hb3 hn hT
  subst hnt
  have ap2_ := apart hn
  repeat' first|refine nx ?_|refine xb_miss (by decide) ?_|(apply W_reg;(simp [h0, h3, h4, h5, h6, hb0, hb1, hb2, hb3, hn, hT, ap2_, hk0, hkl];exact .r _))
  refine W_cond (by simp [h0, h3, h4, h5, h6, hb0, hb1, hb2, hb3, hn, hT, ap2_]; exact .r _) (fun hc2 => ?_) (fun hc2 => ?_)
  · have hjl : (j : Int) < c.arity[k.toNat] := by simpa using hc2
    obtain ⟨x, cs', ⟨⟨y, hy, rfl⟩, i2, w2, hi2, rfl⟩, hr⟩ := l2Term_p b i w hb hi
    have c2 := cvP0 hr
    simp only [CU, List.map_cons, List.map_nil] at c2
    have hjb : j + 1 < 1099511627776 := by omega
    rcases Nat.eq_zero_or_pos j with z0 | z0
    · subst z0
      repeat' first|refine nx ?_|refine xb_miss (by decide) ?_|(apply W_reg;(simp [h0, h3, h4, h5, h6, hb0, hb1, hb2, hb3, hn, hT, ap2_, c2, flatR];exact .r _))
      refine ⟨_, ?_, 0 + 1, i2, w2, σ.n + 1, [y], rfl, rfl, ?_, ?_, ?_, ?_, ?_, ?_, ?_, ?_, ?_, ?_, ?_, by omega, ?_, (fun t ht => by (rw [List.mem_singleton] at ht; rw [ht]; exact hy)), (.inr ⟨by (simp [h0, h3, h4, h5, h6, hb0, hb1, hb2, hb3, hn, hT, ap2_, rowsE]), by omega, by simp⟩)⟩
      all_goals first|assumption|(simp [h0, h3, h4, h5, h6, hb0, hb1, hb2, hb3, hn, hT, ap2_];done)|(simp [h0, h3, h4, h5, h6, hb0, hb1, hb2, hb3, hn, hT, ap2_];omega)|(simp [h0, h3, h4, h5, h6, hb0, hb1, hb2, hb3, hn, hT, ap2_];exact wrap_succ (by omega))|omega
    · obtain ⟨hT1, hT2, hT3⟩ := hT.resolve_left (by omega)
      have hgc := gc_pos (o := oT) (show j ≠ 0 by omega)
      have ap3_ := apart hT3
      have ne4_ : ¬ (oT = 0) := by omega
      have ne5_ : ¬ (0 = oT) := by omega
      have ne6_ : ¬ (oT = 1) := by omega
      have ne7_ : ¬ (1 = oT) := by omega
      have ne8_ : ¬ (oT = 2) := by omega
      have ne9_ : ¬ (2 = oT) := by omega
      have ne10_ : ¬ (oT = 3) := by omega
      have ne11_ : ¬ (3 = oT) := by omega
      repeat' first|refine nx ?_|refine xb_miss (by decide) ?_|(apply W_reg;(simp [h0, h3, h4, h5, h6, hb0, hb1, hb2, hb3, hn, hT, ap2_, hT1, ap3_, ne4_, ne5_, ne6_, ne7_, ne8_, ne9_, ne10_, ne11_, c2, flatR, hgc, hjb, hA];exact .r _))
      refine ⟨_, ?_, j + 1, i2, w2, oT, A ++ [y], rfl, rfl, ?_, ?_, ?_, ?_, ?_, ?_, ?_, ?_, ?_, ?_, ?_, by omega, (by simp [hA]), (fun t ht => by (rcases List.mem_append.1 ht with g | g; (exact hAt t g); (rw [List.mem_singleton] at g; rw [g]; exact hy))), (.inr ⟨by (simp [h0, h3, h4, h5, h6, hb0, hb1, hb2, hb3, hn, hT, ap2_, hT1, ap3_, ne4_, ne5_, ne6_, ne7_, ne8_, ne9_, ne10_, ne11_, rowsE]), hT2, by (simp; omega)⟩)⟩
      all_goals first|assumption|(simp [h0, h3, h4, h5, h6, hb0, hb1, hb2, hb3, hn, hT, ap2_, hT1, ap3_, ne4_, ne5_, ne6_, ne7_, ne8_, ne9_, ne10_, ne11_];done)|(simp [h0, h3, h4, h5, h6, hb0, hb1, hb2, hb3, hn, hT, ap2_, hT1, ap3_, ne4_, ne5_, ne6_, ne7_, ne8_, ne9_, ne10_, ne11_];omega)|(simp [h0, h3, h4, h5, h6, hb0, hb1, hb2, hb3, hn, hT, ap2_, hT1, ap3_, ne4_, ne5_, ne6_, ne7_, ne8_, ne9_, ne10_, ne11_];exact wrap_succ (by omega))|omega
  · have hjl : (j : Int) = c.arity[k.toNat] := by simp at hc2; omega
    have hj0 : j ≠ 0 := by omega
    obtain ⟨hT1, hT2, hT3⟩ := hT.resolve_left hj0
    have hgc := gc_pos (o := oT) hj0
    have ap12_ := apart hn
    have ap13_ := apart hT3
    have ne14_ : ¬ (oT = 0) := by omega
    have ne15_ : ¬ (0 = oT) := by omega
    have ne16_ : ¬ (oT = 1) := by omega
    have ne17_ : ¬ (1 = oT) := by omega
    have ne18_ : ¬ (oT = 2) := by omega
    have ne19_ : ¬ (2 = oT) := by omega
    have ne20_ : ¬ (oT = 3) := by omega
    have ne21_ : ¬ (3 = oT) := by omega
    repeat' first|refine nx ?_|refine xb_miss (by decide) ?_|(apply W_reg;(simp [h0, h3, h4, h5, h6, hb0, hb1, hb2, hb3, hn, hT1, ap12_, ap13_, ne14_, ne15_, ne16_, ne17_, ne18_, ne19_, ne20_, ne21_, hgc];exact .r _))
    exact EndsP.mk (cs' := CU b i w) (x := xvF ⟨k, A⟩) (v := .agg [In k, .ref oT j []]) (by simp [h0, h3, h4, h5, h6, hb0, hb1, hb2, hb3, hn, hT1, ap12_, ap13_, ne14_, ne15_, ne16_, ne17_, ne18_, ne19_, ne20_, ne21_, hgc]) (by simp [h0, h3, h4, h5, h6, hb0, hb1, hb2, hb3, hn, hT1, ap12_, ap13_, ne14_, ne15_, ne16_, ne17_, ne18_, ne19_, ne20_, ne21_]) (by simp [h0, h3, h4, h5, h6, hb0, hb1, hb2, hb3, hn, hT1, ap12_, ap13_, ne14_, ne15_, ne16_, ne17_, ne18_, ne19_, ne20_, ne21_, hA]) ⟨⟨⟨k, A⟩, by simp only; omega, hAt, rfl⟩, i, w, hi, rfl⟩
theorem bv1_len : ∀ (l acc : List Int), (bvars1 acc l).length ≤ acc.length + l.length
  | [], acc => by simp [bvars1]
  | t :: l, acc => by
    have ih := fun acc => bv1_len l acc
    unfold bvars1 at ih ⊢
    rw [List.foldl_cons]
    refine Nat.le_trans (ih _) ?_
    split
    · rw [List.length_append, List.length_singleton, List.length_cons]; omega
    · rw [List.length_cons]; omega
theorem bv_len : ∀ (body : List RA) (acc : List Int), (∀ a ∈ body, a.args.length ≤ 3) → (bvars acc body).length ≤ acc.length + 3 * body.length
  | [], acc, _ => by simp [bvars]
  | a :: body, acc, h => by
    have ih := bv_len body (bvars1 acc a.args) fun x hx => h x (List.mem_cons_of_mem _ hx)
    have h1 := bv1_len a.args acc
    have h2 := h a (by simp)
    unfold bvars at ih ⊢
    rw [List.foldl_cons]
    refine Nat.le_trans ih ?_
    rw [List.length_cons]; omega
/-- A drawn query: its head may be nil. -/
def XQ (q : Qry) (x : XV) : Prop := x = xvQ q ∨ (x = .agg [.t .nl false, .own 2 (rowsE q.body)] ∧ q.head = [])
def QS (n : Nat) (q : Qry) : Prop := q.head.length ≤ n ∧ q.body.length ≤ 3 ∧ q.body ≠ [] ∧ ∀ a ∈ q.body, a.args.length ≤ 3
set_option maxRecDepth 10000 in
theorem l4Query_p (b : List By) (i : Nat) (h : Int) (c : Sch) (hb : Sm b) (hi : i ≤ b.length) (hc : Dr c) : ∃ x cs', ((∃ q : Qry, QS 2 q ∧ XQ q x) ∧ CQ b cs') ∧ RetP XX 15 (CU b i h) [Ag c] x cs' := by
  refine ret_PW rfl Tryz.func15 rfl rfl (by simp [Tryz.f15]) ?_
  simp only [Tryz.f15]
  obtain ⟨x, cs', ⟨⟨k, hk, rfl⟩, i1, w1, hi1, rfl⟩, hr⟩ := l1Below_p b i h 3 hb hi (by omega)
  have c1 := cvP hr
  simp only [CU, List.map_cons, List.map_nil] at c1 ⊢
  have hk3 := hk.2.1 (by omega)
  have hk0 := hk.1
  have wr22_ : IntKind.i64.wrap (1 + k) = 1 + k := wrap_ok (by omega) (by omega)
  repeat' first|refine nx ?_|refine xb_miss (by decide) ?_|(apply W_reg;(simp [wr22_, Ag, c1];exact .r _))
  refine W_loop (n := ((1 + k).toNat * 2)) (fun n s => ∃ m : Nat, ∃ i : Nat, ∃ w : Int, ∃ oT : Nat, ∃ B : List RA, n = m * 2 ∧ s.nt = 61 ∧ s.tm 0 = .ptr 0 0 ∧ s.tm 3 = .ptr 1 0 ∧ s.tm 4 = .ptr 2 0 ∧ s.tm 5 = .ptr 3 0 ∧ s.tm 6 = In m ∧ i ≤ b.length ∧ s.σ.ob 0 = .box [Ar b, In i, In w] ∧ s.σ.ob 1 = .box [Ar c.arity] ∧ s.σ.ob 2 = .box [.t .nl, .t .nl] ∧ s.σ.ob 3 = .box [.t .nl, gc oT B.length] ∧ 4 ≤ s.σ.n ∧ B.length + m ≤ 3 ∧ 1 ≤ B.length + m ∧ (∀ a ∈ B, a.args.length ≤ 3) ∧ (B.length = 0 ∨ (s.σ.ob oT = .arr (.own 0) 0 2 (rowsE B) ∧ 4 ≤ oT ∧ oT < s.σ.n))) ⟨(1 + k).toNat, i1, w1, 0, [], by (simp [wr22_]; exact ⟨by omega, hi1, by omega, by omega⟩)⟩ ?_
  rintro n ⟨nt, tm, σ⟩ ⟨m, i, w, oT, B, rfl, hnt, h0, h3, h4, h5, h6, hi, hb0, hb1, hb2, hb3, hn, hBm, hB1, hBa, hT⟩
  simp only at hnt h0 h3 h4 h5 h6 hb0 hb1 hb2 hb3 hn hT
  subst hnt
  have ap23_ := apart hn
  repeat' first|refine nx ?_|refine xb_miss (by decide) ?_|(apply W_reg;(simp [h0, h3, h4, h5, h6, hb0, hb1, hb2, hb3, hn, hT, ap23_];exact .r _))
  refine W_cond (by simp [h0, h3, h4, h5, h6, hb0, hb1, hb2, hb3, hn, hT, ap23_]; exact .r _) (fun hc2 => ?_) (fun hc2 => ?_)
  · have hm : 0 < m := by simpa using hc2
    obtain ⟨x, cs', ⟨⟨a, ha1, ha2, rfl⟩, i2, w2, hi2, rfl⟩, hr⟩ := l3Atom_p b i w c hb hi hc
    have c2 := cvP hr
    simp only [CU, Ag, cells_Sch, List.map_cons, List.map_nil] at c2
    have hBb : B.length + 1 < 1099511627776 := by omega
    have wr24_ : IntKind.i64.wrap ((m : Int) - 1) = (m : Int) - 1 := wrap_ok (by omega) (by omega)
    rcases Nat.eq_zero_or_pos B.length with z0 | z0
    · have hB0 : B = [] := List.eq_nil_of_length_eq_zero z0
      subst hB0
      repeat' first|refine nx ?_|refine xb_miss (by decide) ?_|(apply W_reg;(simp [h0, h3, h4, h5, h6, hb0, hb1, hb2, hb3, hn, hT, ap23_, wr24_, c2];exact .r _))
      refine ⟨_, ?_, m - 1, i2, w2, σ.n + 3, [a], rfl, rfl, ?_, ?_, ?_, ?_, (by simp [h0, h3, h4, h5, h6, hb0, hb1, hb2, hb3, hn, hT, ap23_, wr24_]; omega), ?_, ?_, ?_, ?_, ?_, ?_, (by simp at hBm ⊢; omega), (by simp), (fun x hx => by (rw [List.mem_singleton] at hx; rw [hx]; exact ha1)), (.inr ⟨by (simp [h0, h3, h4, h5, h6, hb0, hb1, hb2, hb3, hn, hT, ap23_, wr24_, rowsE]), by omega, by simp⟩)⟩
      all_goals first|assumption|(simp [h0, h3, h4, h5, h6, hb0, hb1, hb2, hb3, hn, hT, ap23_, wr24_];done)|(simp [h0, h3, h4, h5, h6, hb0, hb1, hb2, hb3, hn, hT, ap23_, wr24_];omega)|(simp [h0, h3, h4, h5, h6, hb0, hb1, hb2, hb3, hn, hT, ap23_, wr24_];exact wrap_succ (by omega))|omega
    · obtain ⟨hT1, hT2, hT3⟩ := hT.resolve_left (by omega)
      have hgc := gc_pos (o := oT) (show B.length ≠ 0 by omega)
      have ap25_ := apart hT3
      have ne26_ : ¬ (oT = 0) := by omega
      have ne27_ : ¬ (0 = oT) := by omega
      have ne28_ : ¬ (oT = 1) := by omega
      have ne29_ : ¬ (1 = oT) := by omega
      have ne30_ : ¬ (oT = 2) := by omega
      have ne31_ : ¬ (2 = oT) := by omega
      have ne32_ : ¬ (oT = 3) := by omega
      have ne33_ : ¬ (3 = oT) := by omega
      repeat' first|refine nx ?_|refine xb_miss (by decide) ?_|(apply W_reg;(simp [h0, h3, h4, h5, h6, hb0, hb1, hb2, hb3, hn, hT, ap23_, wr24_, hT1, ap25_, ne26_, ne27_, ne28_, ne29_, ne30_, ne31_, ne32_, ne33_, c2, hgc, hBb];exact .r _))
      refine ⟨_, ?_, m - 1, i2, w2, oT, B ++ [a], rfl, rfl, ?_, ?_, ?_, ?_, (by simp [h0, h3, h4, h5, h6, hb0, hb1, hb2, hb3, hn, hT, ap23_, wr24_, hT1, ap25_, ne26_, ne27_, ne28_, ne29_, ne30_, ne31_, ne32_, ne33_]; omega), ?_, ?_, ?_, ?_, ?_, ?_, (by simp; omega), (by simp; omega), (fun x hx => by (rcases List.mem_append.1 hx with g | g; (exact hBa x g); (rw [List.mem_singleton] at g; rw [g]; exact ha1))), (.inr ⟨by (simp [h0, h3, h4, h5, h6, hb0, hb1, hb2, hb3, hn, hT, ap23_, wr24_, hT1, ap25_, ne26_, ne27_, ne28_, ne29_, ne30_, ne31_, ne32_, ne33_, rowsE]), hT2, by (simp; omega)⟩)⟩
      all_goals first|assumption|(simp [h0, h3, h4, h5, h6, hb0, hb1, hb2, hb3, hn, hT, ap23_, wr24_, hT1, ap25_, ne26_, ne27_, ne28_, ne29_, ne30_, ne31_, ne32_, ne33_];done)|(simp [h0, h3, h4, h5, h6, hb0, hb1, hb2, hb3, hn, hT, ap23_, wr24_, hT1, ap25_, ne26_, ne27_, ne28_, ne29_, ne30_, ne31_, ne32_, ne33_];omega)|(simp [h0, h3, h4, h5, h6, hb0, hb1, hb2, hb3, hn, hT, ap23_, wr24_, hT1, ap25_, ne26_, ne27_, ne28_, ne29_, ne30_, ne31_, ne32_, ne33_];exact wrap_succ (by omega))|omega
  · have hm : m = 0 := by simpa using hc2
    subst hm
    have hBn : B.length ≠ 0 := by omega
    obtain ⟨hT1, hT2, hT3⟩ := hT.resolve_left hBn
    have hgc := gc_pos (o := oT) hBn
    have c3 := cv (bodyVars_r ⟨[], B⟩ (by simp only; omega) (fun a ha => by have := hBa a ha; omega))
    have hvl := bvars_len ⟨[], B⟩ (by simp only; omega) (fun a ha => by have := hBa a ha; omega)
    simp only [Ag, cells_Q, List.map_cons, List.map_nil, rowsE_nil] at c3
    obtain ⟨V, hV⟩ : ∃ V, bvars [] B = V := ⟨_, rfl⟩
    simp only [hV] at c3 hvl
    obtain ⟨x, cs', ⟨⟨k2, hk2, rfl⟩, i2, w2, hi2, rfl⟩, hr⟩ := l1Below_p b i w 3 hb hi (by omega)
    have c4 := cvP hr
    simp only [CU, List.map_cons, List.map_nil] at c4
    have hk23 := hk2.2.1 (by omega)
    have hk20 := hk2.1
    have ap34_ := apart hn
    have ap35_ := apart hT3
    have ne36_ : ¬ (oT = 0) := by omega
    have ne37_ : ¬ (0 = oT) := by omega
    have ne38_ : ¬ (oT = 1) := by omega
    have ne39_ : ¬ (1 = oT) := by omega
    have ne40_ : ¬ (oT = 2) := by omega
    have ne41_ : ¬ (2 = oT) := by omega
    have ne42_ : ¬ (oT = 3) := by omega
    have ne43_ : ¬ (3 = oT) := by omega
    obtain ⟨σT, eT⟩ : ∃ y : Sto, y = σ := ⟨σ, rfl⟩
    have hn4 : 4 ≤ σT.n := by rw [eT]; exact hn
    have hTT : oT < σT.n := by rw [eT]; exact hT3
    have hVl : V.length ≤ 256 := by
      have := bv_len B [] hBa
      rw [hV] at this
      simp only [List.length_nil] at this; omega
    repeat' first|refine nx ?_|refine xb_miss (by decide) ?_|(apply W_reg;(simp [h0, h3, h4, h5, h6, hb0, hb1, hb2, hb3, hn, hT1, ap34_, ap35_, ne36_, ne37_, ne38_, ne39_, ne40_, ne41_, ne42_, ne43_, hgc, c3, c4];exact .r _))
    refine W_loop (n := (k2.toNat * 2)) (fun n s => ∃ m2 : Nat, ∃ i : Nat, ∃ w : Int, ∃ oH : Nat, ∃ H : List Int, n = m2 * 2 ∧ s.nt = 61 ∧ s.tm 0 = .ptr 0 0 ∧ s.tm 4 = .ptr 2 0 ∧ s.tm 5 = .ptr 3 0 ∧ s.tm 8 = .ref σT.n V.length [] ∧ s.tm 9 = In m2 ∧ i ≤ b.length ∧ s.σ.ob 0 = .box [Ar b, In i, In w] ∧ s.σ.ob 2 = .box [.t .nl, .t .nl] ∧ s.σ.ob 3 = .box [gc oH H.length, .ref oT B.length []] ∧ s.σ.ob oT = .arr (.own 0) 0 2 (rowsE B) ∧ s.σ.ob σT.n = .arr (.own 0) 0 1 (rowsE V) ∧ σT.n + 1 ≤ s.σ.n ∧ H.length + m2 ≤ 2 ∧ (H.length = 0 ∨ (s.σ.ob oH = .arr (.own 0) 0 1 (rowsE H) ∧ σT.n < oH ∧ oH < s.σ.n))) ⟨k2.toNat, i2, w2, 0, [], by (simp [h0, h3, h4, h5, h6, hb0, hb1, hb2, hb3, hn, hT1, ap34_, ap35_, ne36_, ne37_, ne38_, ne39_, ne40_, ne41_, ne42_, ne43_, eT, hgc]; exact ⟨by omega, hi2, by omega⟩)⟩ ?_
    rintro n ⟨nt, tm, σ⟩ ⟨m2, i, w, oH, H, rfl, hnt, h0, h4, h5, h8, h9, hi, hb0, hb2, hb3, hbT, hbV, hn, hHm, hH⟩
    simp only at hnt h0 h4 h5 h8 h9 hb0 hb2 hb3 hbT hbV hn hH
    subst hnt
    have hnp : 4 ≤ σ.n := by omega
    have hTn : oT < σ.n := by omega
    have ap44_ := apart hn
    have ap45_ := apart hnp
    have ap46_ := apart hTn
    have ne47_ : ¬ (σT.n = 0) := by omega
    have ne48_ : ¬ (0 = σT.n) := by omega
    have ne49_ : ¬ (σT.n = 2) := by omega
    have ne50_ : ¬ (2 = σT.n) := by omega
    have ne51_ : ¬ (σT.n = 3) := by omega
    have ne52_ : ¬ (3 = σT.n) := by omega
    have ne53_ : ¬ (oT = 0) := by omega
    have ne54_ : ¬ (0 = oT) := by omega
    have ne55_ : ¬ (oT = 2) := by omega
    have ne56_ : ¬ (2 = oT) := by omega
    have ne57_ : ¬ (oT = 3) := by omega
    have ne58_ : ¬ (3 = oT) := by omega
    have ne59_ : ¬ (σT.n = oT) := by omega
    have ne60_ : ¬ (oT = σT.n) := by omega
    repeat' first|refine nx ?_|refine xb_miss (by decide) ?_|(apply W_reg;(simp [h0, h4, h5, h8, h9, hb0, hb2, hb3, hbT, hbV, hn, hH, ap44_, ap45_, ap46_, ne47_, ne48_, ne49_, ne50_, ne51_, ne52_, ne53_, ne54_, ne55_, ne56_, ne57_, ne58_, ne59_, ne60_];exact .r _))
    refine W_cond (by simp [h0, h4, h5, h8, h9, hb0, hb2, hb3, hbT, hbV, hn, hH, ap44_, ap45_, ap46_, ne47_, ne48_, ne49_, ne50_, ne51_, ne52_, ne53_, ne54_, ne55_, ne56_, ne57_, ne58_, ne59_, ne60_]; exact .r _) (fun hc3 => ?_) (fun hc3 => ?_)
    · have hm : 0 < m2 := by simpa using hc3
      obtain ⟨x, cs', ⟨⟨k3, hk3_, rfl⟩, i3, w3, hi3, rfl⟩, hr⟩ := l1Below_p b i w 3 hb hi (by omega)
      have c5 := cvP hr
      obtain ⟨x, cs', ⟨⟨o4, rfl⟩, i4, w4, hi4, rfl⟩, hr⟩ := l1Once_p b i3 w3 8 hb hi3 (by omega)
      have c6 := cvP hr
      obtain ⟨x, cs', ⟨⟨k5, hk5, rfl⟩, i5, w5, hi5, rfl⟩, hr⟩ := l1Below_p b i4 w4 V.length hb hi4 (by omega)
      have c7 := cvP hr
      simp only [CU, List.map_cons, List.map_nil] at c5 c6 c7
      have hk31 := hk3_.1
      have hk32 := hk3_.2.1 (by omega)
      have wr61_ : IntKind.i64.wrap (-1 - k3) = -1 - k3 := wrap_ok (by omega) (by omega)
      repeat' first | refine nx ?_ | fail
      apply W_reg; (simp [h0, h4, h5, h8, h9, hb0, hb2, hb3, hbT, hbV, hn, hH, ap44_, ap45_, ap46_, ne47_, ne48_, ne49_, ne50_, ne51_, ne52_, ne53_, ne54_, ne55_, ne56_, ne57_, ne58_, ne59_, ne60_, wr61_, c5]; exact .r _)
      refine W_seq ?_
      refine W_mid (fun s2 => ∃ (t : Int) (i' : Nat) (w' : Int), s2.nt = 61 ∧ s2.tm 0 = .ptr 0 0 ∧ s2.tm 4 = .ptr 2 0 ∧ s2.tm 5 = .ptr 3 0 ∧ s2.tm 8 = .ref σT.n V.length [] ∧ s2.tm 9 = In m2 ∧ s2.tm 10 = In t ∧ i' ≤ b.length ∧ s2.σ.n = σ.n ∧ s2.σ.ob 0 = .box [Ar b, In i', In w'] ∧ ∀ x, x ≠ 0 → s2.σ.ob x = σ.ob x) ?_ ?_
      · by_cases hV0 : V.length = 0
        · repeat' first|refine nx ?_|refine xb_miss (by decide) ?_|(apply W_reg;(simp [h0, h4, h5, h8, h9, hb0, hb2, hb3, hbT, hbV, hn, hH, ap44_, ap45_, ap46_, ne47_, ne48_, ne49_, ne50_, ne51_, ne52_, ne53_, ne54_, ne55_, ne56_, ne57_, ne58_, ne59_, ne60_, wr61_, hV0];exact .r _))
          refine W_cond (by simp [h0, h4, h5, h8, h9, hb0, hb2, hb3, hbT, hbV, hn, hH, ap44_, ap45_, ap46_, ne47_, ne48_, ne49_, ne50_, ne51_, ne52_, ne53_, ne54_, ne55_, ne56_, ne57_, ne58_, ne59_, ne60_, wr61_]; exact .r _) (fun hd => ?_) (fun hd => ?_)
          · simp at hd
          repeat' first|refine nx ?_|refine xb_miss (by decide) ?_|(apply W_reg;(simp [h0, h4, h5, h8, h9, hb0, hb2, hb3, hbT, hbV, hn, hH, ap44_, ap45_, ap46_, ne47_, ne48_, ne49_, ne50_, ne51_, ne52_, ne53_, ne54_, ne55_, ne56_, ne57_, ne58_, ne59_, ne60_, wr61_];exact .r _))
          exact ⟨-1 - k3, i3, w3, rfl, by simp [h0, h4, h5, h8, h9, hb0, hb2, hb3, hbT, hbV, hn, hH, ap44_, ap45_, ap46_, ne47_, ne48_, ne49_, ne50_, ne51_, ne52_, ne53_, ne54_, ne55_, ne56_, ne57_, ne58_, ne59_, ne60_, wr61_], by simp [h0, h4, h5, h8, h9, hb0, hb2, hb3, hbT, hbV, hn, hH, ap44_, ap45_, ap46_, ne47_, ne48_, ne49_, ne50_, ne51_, ne52_, ne53_, ne54_, ne55_, ne56_, ne57_, ne58_, ne59_, ne60_, wr61_], by simp [h0, h4, h5, h8, h9, hb0, hb2, hb3, hbT, hbV, hn, hH, ap44_, ap45_, ap46_, ne47_, ne48_, ne49_, ne50_, ne51_, ne52_, ne53_, ne54_, ne55_, ne56_, ne57_, ne58_, ne59_, ne60_, wr61_], by simp [h0, h4, h5, h8, h9, hb0, hb2, hb3, hbT, hbV, hn, hH, ap44_, ap45_, ap46_, ne47_, ne48_, ne49_, ne50_, ne51_, ne52_, ne53_, ne54_, ne55_, ne56_, ne57_, ne58_, ne59_, ne60_, wr61_], by simp [h0, h4, h5, h8, h9, hb0, hb2, hb3, hbT, hbV, hn, hH, ap44_, ap45_, ap46_, ne47_, ne48_, ne49_, ne50_, ne51_, ne52_, ne53_, ne54_, ne55_, ne56_, ne57_, ne58_, ne59_, ne60_, wr61_], by simp [h0, h4, h5, h8, h9, hb0, hb2, hb3, hbT, hbV, hn, hH, ap44_, ap45_, ap46_, ne47_, ne48_, ne49_, ne50_, ne51_, ne52_, ne53_, ne54_, ne55_, ne56_, ne57_, ne58_, ne59_, ne60_, wr61_], hi3, by simp, by simp, fun x hx => by simp [upd_app, hx]⟩
        · have hVp : 0 < V.length := by omega
          cases o4
          · have hk50 := hk5.1
            have hk5l : k5.toNat < V.length := by have := hk5.2.1 (by omega); omega
            repeat' first|refine nx ?_|refine xb_miss (by decide) ?_|(apply W_reg;(simp [h0, h4, h5, h8, h9, hb0, hb2, hb3, hbT, hbV, hn, hH, ap44_, ap45_, ap46_, ne47_, ne48_, ne49_, ne50_, ne51_, ne52_, ne53_, ne54_, ne55_, ne56_, ne57_, ne58_, ne59_, ne60_, wr61_, hVp, c6];exact .r _))
            refine W_cond (by simp [h0, h4, h5, h8, h9, hb0, hb2, hb3, hbT, hbV, hn, hH, ap44_, ap45_, ap46_, ne47_, ne48_, ne49_, ne50_, ne51_, ne52_, ne53_, ne54_, ne55_, ne56_, ne57_, ne58_, ne59_, ne60_, wr61_]; exact .r _) (fun hd => ?_) (fun hd => ?_)
            · repeat' first|refine nx ?_|refine xb_miss (by decide) ?_|(apply W_reg;(simp [h0, h4, h5, h8, h9, hb0, hb2, hb3, hbT, hbV, hn, hH, ap44_, ap45_, ap46_, ne47_, ne48_, ne49_, ne50_, ne51_, ne52_, ne53_, ne54_, ne55_, ne56_, ne57_, ne58_, ne59_, ne60_, wr61_, c7, hk50, hk5l];exact .r _))
              exact ⟨V[k5.toNat], i5, w5, rfl, by simp [h0, h4, h5, h8, h9, hb0, hb2, hb3, hbT, hbV, hn, hH, ap44_, ap45_, ap46_, ne47_, ne48_, ne49_, ne50_, ne51_, ne52_, ne53_, ne54_, ne55_, ne56_, ne57_, ne58_, ne59_, ne60_, wr61_], by simp [h0, h4, h5, h8, h9, hb0, hb2, hb3, hbT, hbV, hn, hH, ap44_, ap45_, ap46_, ne47_, ne48_, ne49_, ne50_, ne51_, ne52_, ne53_, ne54_, ne55_, ne56_, ne57_, ne58_, ne59_, ne60_, wr61_], by simp [h0, h4, h5, h8, h9, hb0, hb2, hb3, hbT, hbV, hn, hH, ap44_, ap45_, ap46_, ne47_, ne48_, ne49_, ne50_, ne51_, ne52_, ne53_, ne54_, ne55_, ne56_, ne57_, ne58_, ne59_, ne60_, wr61_], by simp [h0, h4, h5, h8, h9, hb0, hb2, hb3, hbT, hbV, hn, hH, ap44_, ap45_, ap46_, ne47_, ne48_, ne49_, ne50_, ne51_, ne52_, ne53_, ne54_, ne55_, ne56_, ne57_, ne58_, ne59_, ne60_, wr61_], by simp [h0, h4, h5, h8, h9, hb0, hb2, hb3, hbT, hbV, hn, hH, ap44_, ap45_, ap46_, ne47_, ne48_, ne49_, ne50_, ne51_, ne52_, ne53_, ne54_, ne55_, ne56_, ne57_, ne58_, ne59_, ne60_, wr61_], by simp [h0, h4, h5, h8, h9, hb0, hb2, hb3, hbT, hbV, hn, hH, ap44_, ap45_, ap46_, ne47_, ne48_, ne49_, ne50_, ne51_, ne52_, ne53_, ne54_, ne55_, ne56_, ne57_, ne58_, ne59_, ne60_, wr61_], hi5, by simp, by simp, fun x hx => by simp [upd_app, hx]⟩
            · simp at hd
          · repeat' first|refine nx ?_|refine xb_miss (by decide) ?_|(apply W_reg;(simp [h0, h4, h5, h8, h9, hb0, hb2, hb3, hbT, hbV, hn, hH, ap44_, ap45_, ap46_, ne47_, ne48_, ne49_, ne50_, ne51_, ne52_, ne53_, ne54_, ne55_, ne56_, ne57_, ne58_, ne59_, ne60_, wr61_, hVp, c6];exact .r _))
            refine W_cond (by simp [h0, h4, h5, h8, h9, hb0, hb2, hb3, hbT, hbV, hn, hH, ap44_, ap45_, ap46_, ne47_, ne48_, ne49_, ne50_, ne51_, ne52_, ne53_, ne54_, ne55_, ne56_, ne57_, ne58_, ne59_, ne60_, wr61_]; exact .r _) (fun hd => ?_) (fun hd => ?_)
            · simp at hd
            repeat' first|refine nx ?_|refine xb_miss (by decide) ?_|(apply W_reg;(simp [h0, h4, h5, h8, h9, hb0, hb2, hb3, hbT, hbV, hn, hH, ap44_, ap45_, ap46_, ne47_, ne48_, ne49_, ne50_, ne51_, ne52_, ne53_, ne54_, ne55_, ne56_, ne57_, ne58_, ne59_, ne60_, wr61_];exact .r _))
            exact ⟨-1 - k3, i4, w4, rfl, by simp [h0, h4, h5, h8, h9, hb0, hb2, hb3, hbT, hbV, hn, hH, ap44_, ap45_, ap46_, ne47_, ne48_, ne49_, ne50_, ne51_, ne52_, ne53_, ne54_, ne55_, ne56_, ne57_, ne58_, ne59_, ne60_, wr61_], by simp [h0, h4, h5, h8, h9, hb0, hb2, hb3, hbT, hbV, hn, hH, ap44_, ap45_, ap46_, ne47_, ne48_, ne49_, ne50_, ne51_, ne52_, ne53_, ne54_, ne55_, ne56_, ne57_, ne58_, ne59_, ne60_, wr61_], by simp [h0, h4, h5, h8, h9, hb0, hb2, hb3, hbT, hbV, hn, hH, ap44_, ap45_, ap46_, ne47_, ne48_, ne49_, ne50_, ne51_, ne52_, ne53_, ne54_, ne55_, ne56_, ne57_, ne58_, ne59_, ne60_, wr61_], by simp [h0, h4, h5, h8, h9, hb0, hb2, hb3, hbT, hbV, hn, hH, ap44_, ap45_, ap46_, ne47_, ne48_, ne49_, ne50_, ne51_, ne52_, ne53_, ne54_, ne55_, ne56_, ne57_, ne58_, ne59_, ne60_, wr61_], by simp [h0, h4, h5, h8, h9, hb0, hb2, hb3, hbT, hbV, hn, hH, ap44_, ap45_, ap46_, ne47_, ne48_, ne49_, ne50_, ne51_, ne52_, ne53_, ne54_, ne55_, ne56_, ne57_, ne58_, ne59_, ne60_, wr61_], by simp [h0, h4, h5, h8, h9, hb0, hb2, hb3, hbT, hbV, hn, hH, ap44_, ap45_, ap46_, ne47_, ne48_, ne49_, ne50_, ne51_, ne52_, ne53_, ne54_, ne55_, ne56_, ne57_, ne58_, ne59_, ne60_, wr61_], hi4, by simp, by simp, fun x hx => by simp [upd_app, hx]⟩
      · rintro ⟨nt2, tm2, σ2⟩ ⟨t, i', w', q1, q2, q3, q4, q5, q6, q7, hi', q8, q9, q10⟩
        simp only at q1 q2 q3 q4 q5 q6 q7 q8 q9 q10
        subst q1
        have r2 := (q10 2 (by omega)).trans hb2
        have r3 := (q10 3 (by omega)).trans hb3
        have rT := (q10 oT (by omega)).trans hbT
        have rV := (q10 σT.n (by omega)).trans hbV
        have ap62_ := apart hnp
        have ap63_ := apart hTn
        have hns : σT.n < σ.n := by omega
        have ap64_ := apart hns
        have ne65_ : ¬ (σT.n = 0) := by omega
        have ne66_ : ¬ (0 = σT.n) := by omega
        have ne67_ : ¬ (σT.n = 2) := by omega
        have ne68_ : ¬ (2 = σT.n) := by omega
        have ne69_ : ¬ (σT.n = 3) := by omega
        have ne70_ : ¬ (3 = σT.n) := by omega
        have ne71_ : ¬ (oT = 0) := by omega
        have ne72_ : ¬ (0 = oT) := by omega
        have ne73_ : ¬ (oT = 2) := by omega
        have ne74_ : ¬ (2 = oT) := by omega
        have ne75_ : ¬ (oT = 3) := by omega
        have ne76_ : ¬ (3 = oT) := by omega
        have ne77_ : ¬ (σT.n = oT) := by omega
        have ne78_ : ¬ (oT = σT.n) := by omega
        have wr79_ : IntKind.i64.wrap ((m2 : Int) - 1) = (m2 : Int) - 1 := wrap_ok (by omega) (by omega)
        have hHb : H.length + 1 < 1099511627776 := by omega
        rcases Nat.eq_zero_or_pos H.length with z0 | z0
        · have hH0 : H = [] := List.eq_nil_of_length_eq_zero z0
          subst hH0
          repeat' first|refine nx ?_|refine xb_miss (by decide) ?_|(apply W_reg;(simp [q2, q3, q4, q5, q6, q7, q8, q9, r2, r3, rT, rV, ap62_, ap63_, ap64_, ne65_, ne66_, ne67_, ne68_, ne69_, ne70_, ne71_, ne72_, ne73_, ne74_, ne75_, ne76_, ne77_, ne78_, wr79_, flatR];exact .r _))
          refine ⟨_, ?_, m2 - 1, i', w', σ.n + 1, [t], rfl, rfl, ?_, ?_, ?_, ?_, (by simp [q2, q3, q4, q5, q6, q7, q8, q9, r2, r3, rT, rV, ap62_, ap63_, ap64_, ne65_, ne66_, ne67_, ne68_, ne69_, ne70_, ne71_, ne72_, ne73_, ne74_, ne75_, ne76_, ne77_, ne78_, wr79_]; omega), ?_, ?_, ?_, ?_, ?_, ?_, ?_, (by simp at hHm ⊢; omega), (.inr ⟨by (simp [q2, q3, q4, q5, q6, q7, q8, q9, r2, r3, rT, rV, ap62_, ap63_, ap64_, ne65_, ne66_, ne67_, ne68_, ne69_, ne70_, ne71_, ne72_, ne73_, ne74_, ne75_, ne76_, ne77_, ne78_, wr79_, rowsE]), by omega, by (simp [q2, q3, q4, q5, q6, q7, q8, q9, r2, r3, rT, rV, ap62_, ap63_, ap64_, ne65_, ne66_, ne67_, ne68_, ne69_, ne70_, ne71_, ne72_, ne73_, ne74_, ne75_, ne76_, ne77_, ne78_, wr79_])⟩)⟩
          all_goals first|assumption|(simp [q2, q3, q4, q5, q6, q7, q8, q9, r2, r3, rT, rV, ap62_, ap63_, ap64_, ne65_, ne66_, ne67_, ne68_, ne69_, ne70_, ne71_, ne72_, ne73_, ne74_, ne75_, ne76_, ne77_, ne78_, wr79_];done)|(simp [q2, q3, q4, q5, q6, q7, q8, q9, r2, r3, rT, rV, ap62_, ap63_, ap64_, ne65_, ne66_, ne67_, ne68_, ne69_, ne70_, ne71_, ne72_, ne73_, ne74_, ne75_, ne76_, ne77_, ne78_, wr79_];omega)|(simp [q2, q3, q4, q5, q6, q7, q8, q9, r2, r3, rT, rV, ap62_, ap63_, ap64_, ne65_, ne66_, ne67_, ne68_, ne69_, ne70_, ne71_, ne72_, ne73_, ne74_, ne75_, ne76_, ne77_, ne78_, wr79_];exact wrap_succ (by omega))|omega
        · obtain ⟨hH1, hH2, hH3⟩ := hH.resolve_left (by omega)
          have hgcH := gc_pos (o := oH) (show H.length ≠ 0 by omega)
          have rH := (q10 oH (by omega)).trans hH1
          have ap80_ := apart hH3
          have ne81_ : ¬ (oH = 0) := by omega
          have ne82_ : ¬ (0 = oH) := by omega
          have ne83_ : ¬ (oH = 2) := by omega
          have ne84_ : ¬ (2 = oH) := by omega
          have ne85_ : ¬ (oH = 3) := by omega
          have ne86_ : ¬ (3 = oH) := by omega
          have ne87_ : ¬ (oH = σT.n) := by omega
          have ne88_ : ¬ (σT.n = oH) := by omega
          have ne89_ : ¬ (oH = oT) := by omega
          have ne90_ : ¬ (oT = oH) := by omega
          repeat' first|refine nx ?_|refine xb_miss (by decide) ?_|(apply W_reg;(simp [q2, q3, q4, q5, q6, q7, q8, q9, r2, r3, rT, rV, ap62_, ap63_, ap64_, ne65_, ne66_, ne67_, ne68_, ne69_, ne70_, ne71_, ne72_, ne73_, ne74_, ne75_, ne76_, ne77_, ne78_, wr79_, rH, ap80_, ne81_, ne82_, ne83_, ne84_, ne85_, ne86_, ne87_, ne88_, ne89_, ne90_, flatR, hgcH, hHb];exact .r _))
          refine ⟨_, ?_, m2 - 1, i', w', oH, H ++ [t], rfl, rfl, ?_, ?_, ?_, ?_, (by simp [q2, q3, q4, q5, q6, q7, q8, q9, r2, r3, rT, rV, ap62_, ap63_, ap64_, ne65_, ne66_, ne67_, ne68_, ne69_, ne70_, ne71_, ne72_, ne73_, ne74_, ne75_, ne76_, ne77_, ne78_, wr79_, rH, ap80_, ne81_, ne82_, ne83_, ne84_, ne85_, ne86_, ne87_, ne88_, ne89_, ne90_]; omega), ?_, ?_, ?_, ?_, ?_, ?_, ?_, (by simp; omega), (.inr ⟨by (simp [q2, q3, q4, q5, q6, q7, q8, q9, r2, r3, rT, rV, ap62_, ap63_, ap64_, ne65_, ne66_, ne67_, ne68_, ne69_, ne70_, ne71_, ne72_, ne73_, ne74_, ne75_, ne76_, ne77_, ne78_, wr79_, rH, ap80_, ne81_, ne82_, ne83_, ne84_, ne85_, ne86_, ne87_, ne88_, ne89_, ne90_, rowsE]), hH2, by (simp [q2, q3, q4, q5, q6, q7, q8, q9, r2, r3, rT, rV, ap62_, ap63_, ap64_, ne65_, ne66_, ne67_, ne68_, ne69_, ne70_, ne71_, ne72_, ne73_, ne74_, ne75_, ne76_, ne77_, ne78_, wr79_, rH, ap80_, ne81_, ne82_, ne83_, ne84_, ne85_, ne86_, ne87_, ne88_, ne89_, ne90_]; omega)⟩)⟩
          all_goals first|assumption|(simp [q2, q3, q4, q5, q6, q7, q8, q9, r2, r3, rT, rV, ap62_, ap63_, ap64_, ne65_, ne66_, ne67_, ne68_, ne69_, ne70_, ne71_, ne72_, ne73_, ne74_, ne75_, ne76_, ne77_, ne78_, wr79_, rH, ap80_, ne81_, ne82_, ne83_, ne84_, ne85_, ne86_, ne87_, ne88_, ne89_, ne90_];done)|(simp [q2, q3, q4, q5, q6, q7, q8, q9, r2, r3, rT, rV, ap62_, ap63_, ap64_, ne65_, ne66_, ne67_, ne68_, ne69_, ne70_, ne71_, ne72_, ne73_, ne74_, ne75_, ne76_, ne77_, ne78_, wr79_, rH, ap80_, ne81_, ne82_, ne83_, ne84_, ne85_, ne86_, ne87_, ne88_, ne89_, ne90_];omega)|(simp [q2, q3, q4, q5, q6, q7, q8, q9, r2, r3, rT, rV, ap62_, ap63_, ap64_, ne65_, ne66_, ne67_, ne68_, ne69_, ne70_, ne71_, ne72_, ne73_, ne74_, ne75_, ne76_, ne77_, ne78_, wr79_, rH, ap80_, ne81_, ne82_, ne83_, ne84_, ne85_, ne86_, ne87_, ne88_, ne89_, ne90_];exact wrap_succ (by omega))|omega
    · have hm : m2 = 0 := by simpa using hc3
      have ap91_ := apart hn
      have ap92_ := apart hnp
      have ap93_ := apart hTn
      have ne94_ : ¬ (σT.n = 0) := by omega
      have ne95_ : ¬ (0 = σT.n) := by omega
      have ne96_ : ¬ (σT.n = 2) := by omega
      have ne97_ : ¬ (2 = σT.n) := by omega
      have ne98_ : ¬ (σT.n = 3) := by omega
      have ne99_ : ¬ (3 = σT.n) := by omega
      have ne100_ : ¬ (oT = 0) := by omega
      have ne101_ : ¬ (0 = oT) := by omega
      have ne102_ : ¬ (oT = 2) := by omega
      have ne103_ : ¬ (2 = oT) := by omega
      have ne104_ : ¬ (oT = 3) := by omega
      have ne105_ : ¬ (3 = oT) := by omega
      have ne106_ : ¬ (σT.n = oT) := by omega
      have ne107_ : ¬ (oT = σT.n) := by omega
      subst hm
      have hQS : QS 2 ⟨H, B⟩ := ⟨by simp only; omega, by simp only; omega, fun e => hBn (by simp only at e; rw [e]; rfl), hBa⟩
      rcases Nat.eq_zero_or_pos H.length with z0 | z0
      · have hH0 : H = [] := List.eq_nil_of_length_eq_zero z0
        subst hH0
        repeat' first|refine nx ?_|refine xb_miss (by decide) ?_|(apply W_reg;(simp [h0, h4, h5, h8, h9, hb0, hb2, hb3, hbT, hbV, hn, hH, ap91_, ap92_, ap93_, ne94_, ne95_, ne96_, ne97_, ne98_, ne99_, ne100_, ne101_, ne102_, ne103_, ne104_, ne105_, ne106_, ne107_];exact .r _))
        exact EndsP.mk (cs' := CU b i w) (x := .agg [.t .nl false, .own 2 (rowsE B)]) (v := .agg [.t .nl, .ref oT B.length []]) (by simp [h0, h4, h5, h8, h9, hb0, hb2, hb3, hbT, hbV, hn, hH, ap91_, ap92_, ap93_, ne94_, ne95_, ne96_, ne97_, ne98_, ne99_, ne100_, ne101_, ne102_, ne103_, ne104_, ne105_, ne106_, ne107_]) (by simp [h0, h4, h5, h8, h9, hb0, hb2, hb3, hbT, hbV, hn, hH, ap91_, ap92_, ap93_, ne94_, ne95_, ne96_, ne97_, ne98_, ne99_, ne100_, ne101_, ne102_, ne103_, ne104_, ne105_, ne106_, ne107_]) (by simp [h0, h4, h5, h8, h9, hb0, hb2, hb3, hbT, hbV, hn, hH, ap91_, ap92_, ap93_, ne94_, ne95_, ne96_, ne97_, ne98_, ne99_, ne100_, ne101_, ne102_, ne103_, ne104_, ne105_, ne106_, ne107_]) ⟨⟨⟨[], B⟩, hQS, .inr ⟨rfl, rfl⟩⟩, i, w, hi, rfl⟩
      · obtain ⟨hH1, hH2, hH3⟩ := hH.resolve_left (by omega)
        have hgcH := gc_pos (o := oH) (show H.length ≠ 0 by omega)
        have ap108_ := apart hH3
        have ne109_ : ¬ (oH = 0) := by omega
        have ne110_ : ¬ (0 = oH) := by omega
        have ne111_ : ¬ (oH = 2) := by omega
        have ne112_ : ¬ (2 = oH) := by omega
        have ne113_ : ¬ (oH = 3) := by omega
        have ne114_ : ¬ (3 = oH) := by omega
        have ne115_ : ¬ (oH = σT.n) := by omega
        have ne116_ : ¬ (σT.n = oH) := by omega
        have ne117_ : ¬ (oH = oT) := by omega
        have ne118_ : ¬ (oT = oH) := by omega
        repeat' first|refine nx ?_|refine xb_miss (by decide) ?_|(apply W_reg;(simp [h0, h4, h5, h8, h9, hb0, hb2, hb3, hbT, hbV, hn, hH, ap91_, ap92_, ap93_, ne94_, ne95_, ne96_, ne97_, ne98_, ne99_, ne100_, ne101_, ne102_, ne103_, ne104_, ne105_, ne106_, ne107_, hH1, ap108_, ne109_, ne110_, ne111_, ne112_, ne113_, ne114_, ne115_, ne116_, ne117_, ne118_, hgcH];exact .r _))
        exact EndsP.mk (cs' := CU b i w) (x := xvQ ⟨H, B⟩) (v := .agg [.ref oH H.length [], .ref oT B.length []]) (by simp [h0, h4, h5, h8, h9, hb0, hb2, hb3, hbT, hbV, hn, hH, ap91_, ap92_, ap93_, ne94_, ne95_, ne96_, ne97_, ne98_, ne99_, ne100_, ne101_, ne102_, ne103_, ne104_, ne105_, ne106_, ne107_, hH1, ap108_, ne109_, ne110_, ne111_, ne112_, ne113_, ne114_, ne115_, ne116_, ne117_, ne118_, hgcH]) (by simp [h0, h4, h5, h8, h9, hb0, hb2, hb3, hbT, hbV, hn, hH, ap91_, ap92_, ap93_, ne94_, ne95_, ne96_, ne97_, ne98_, ne99_, ne100_, ne101_, ne102_, ne103_, ne104_, ne105_, ne106_, ne107_, hH1, ap108_, ne109_, ne110_, ne111_, ne112_, ne113_, ne114_, ne115_, ne116_, ne117_, ne118_]) (by simp [h0, h4, h5, h8, h9, hb0, hb2, hb3, hbT, hbV, hn, hH, ap91_, ap92_, ap93_, ne94_, ne95_, ne96_, ne97_, ne98_, ne99_, ne100_, ne101_, ne102_, ne103_, ne104_, ne105_, ne106_, ne107_, hH1, ap108_, ne109_, ne110_, ne111_, ne112_, ne113_, ne114_, ne115_, ne116_, ne117_, ne118_]) ⟨⟨⟨H, B⟩, hQS, .inl rfl⟩, i, w, hi, rfl⟩
end Go.Proofs.YtpdpgfagklhpaaaGreat.V

namespace Go.Proofs.YtpdpgfagklhpaaaGreat.V
open Go Go.Proofs
set_option linter.unusedVariables false
set_option linter.unusedSimpArgs false
set_option maxRecDepth 10000 in
theorem l6Draw_p (b : List By) (i : Nat) (h : Int) (hb : Sm b) (hi : i ≤ b.length) : ∃ x cs', ((∃ (ar : List Int) (q : Qry) (db : List RA) (xs xq : XV), ar.length ≤ 5 ∧ QS 3 q ∧ DbS 40 4 db ∧ x = .tup [.agg [xs], xq, .own 2 (rowsE db)] ∧ XS ar xs ∧ XQ q xq) ∧ CQ b cs') ∧ RetP XX 19 (CU b i h) [] x cs' := by
  refine ret_PW rfl Tryz.func19 rfl rfl (by simp [Tryz.f19]) ?_
  simp only [Tryz.f19]
  obtain ⟨x, cs', ⟨⟨ar, har, hD, rfl⟩, i1, w1, hi1, rfl⟩, hr1⟩ := l3Schema_p b i h hb hi
  have c1 := cvP0 hr1
  obtain ⟨x, cs', ⟨⟨q, hq, hxq⟩, i2, w2, hi2, rfl⟩, hr⟩ := l4Query_p b i1 w1 ⟨ar⟩ hb hi1 hD
  have c2 := cvP hr
  obtain ⟨x, cs', ⟨⟨db, hdb, rfl⟩, i3, w3, hi3, rfl⟩, hr⟩ := l5Db_p b i2 w2 ⟨ar⟩ hb hi2 hD
  have c3 := cvP hr
  obtain ⟨x, cs', ⟨⟨k, hk, rfl⟩, i4, w4, hi4, rfl⟩, hr⟩ := l1Below_p b i3 w3 14 hb hi3 (by omega)
  have c4 := cvP hr
  obtain ⟨x, cs', ⟨⟨t, rfl⟩, i5, w5, hi5, rfl⟩, hr⟩ := l2Any_p b i4 w4 hb hi4
  have c5 := cvP0 hr
  obtain ⟨x, cs', ⟨⟨a, ha, rfl⟩, i6, w6, hi6, rfl⟩, hr⟩ := l5AnyFact_p b i4 w4 ⟨ar⟩ hb hi4 (by simp only; omega)
  have c6 := cvP hr
  obtain ⟨x, cs', ⟨⟨ar2, har2, hy⟩, i7, w7, hi7, rfl⟩, hr⟩ := l3Any_p b i4 w4 hb hi4
  have c7 := cvP0 hr
  have hA5 : ar.length ≤ 5 := by omega
  have hDb : db.length + 1 < 1099511627776 := by have := hdb.1; omega
  have hHb : q.head.length + 1 < 1099511627776 := by have := hq.1; omega
  have hdb0 : DbS 40 4 db := ⟨by have := hdb.1; omega, fun a ha => by have := hdb.2 a ha; omega⟩
  have hdb1 : DbS 40 4 (db ++ [a]) := ⟨by have := hdb.1; simp; omega, fun x hx => by
      rcases List.mem_append.1 hx with g | g
      · have := hdb.2 x g; omega
      · rw [List.mem_singleton] at g; rw [g]; exact ha⟩
  simp only [CU, Ag, cells_Sch, List.map_cons, List.map_nil] at c1 c2 c3 c4 c5 c6 c7 ⊢
  rcases hxq with rfl | ⟨rfl, hqn⟩
  · skip
    by_cases k0 : k = 0
    · subst k0
      repeat' first|refine nx ?_|refine xb_miss (by decide) ?_|(apply W_reg;(simp [c1, c2, c3, c4];exact .r _))
      refine W_cond (by simp; exact .r _) (fun hc => ?_) (fun hc => ?_)
      · repeat' first|refine nx ?_|refine xb_miss (by decide) ?_|(apply W_reg;(simp [c5, flatR, hHb];exact .r _))|(apply W_draw (id := 6) [0,1,0,4,12,31,63,127] rfl rfl; (· simp; exact .r _); (· simp [c5, flatR, hHb]; exact .r _); (· first|trivial|simp))|(apply W_draw (id := 11) [0,0,0,1,11,31] rfl rfl; (· simp; exact .r _); (· simp [c5, flatR, hHb]; exact .r _); (· first|trivial|simp))
        exact EndsP.mk (cs' := CU b i5 w5) (x := .tup [.agg [.t (.sl (rowsE ar)) true], xvQ ⟨(q.head ++ [t]), q.body⟩, .own 2 (rowsE db)]) (v := .tup [.agg [.ref 3 ar.length []], .agg [.ref 5 (q.head.length + 1) [], .ref 6 q.body.length []], .ref 8 db.length []]) (by simp) (by simp) (by simp [rowsE]) ⟨⟨ar, ⟨(q.head ++ [t]), q.body⟩, db, _, _, hA5, ⟨by have := hq.1; first | (simp; done) | (simp; omega), hq.2⟩, hdb0, rfl, .inr ⟨_, true, rfl, rfl⟩, .inl rfl⟩, i5, w5, hi5, rfl⟩
      · simp at hc
    by_cases k1 : k = 1
    · subst k1
      repeat' first|refine nx ?_|refine xb_miss (by decide) ?_|(apply W_reg;(simp [c1, c2, c3, c4];exact .r _))
      refine W_cond (by simp; exact .r _) (fun hc => ?_) (fun hc => ?_)
      · simp at hc
      repeat' first|refine nx ?_|refine xb_miss (by decide) ?_|(apply W_reg;(simp;exact .r _))
      refine W_cond (by simp; exact .r _) (fun hc => ?_) (fun hc => ?_)
      · repeat' first|refine nx ?_|refine xb_miss (by decide) ?_|(apply W_reg;(simp [c6, hDb];exact .r _))|(apply W_draw (id := 11) [0,0,0,1,11,31] rfl rfl; (· simp; exact .r _); (· simp [c6, hDb]; exact .r _); (· first|trivial|simp))
        exact EndsP.mk (cs' := CU b i6 w6) (x := .tup [.agg [.t (.sl (rowsE ar)) true], xvQ q, .own 2 (rowsE (db ++ [a]))]) (v := .tup [.agg [.ref 3 ar.length []], .agg [.ref 5 q.head.length [], .ref 6 q.body.length []], .ref 8 (db.length + 1) []]) (by simp) (by simp) (by simp [rowsE]) ⟨⟨ar, q, (db ++ [a]), _, _, hA5, ⟨by have := hq.1; omega, hq.2⟩, hdb1, rfl, .inr ⟨_, true, rfl, rfl⟩, .inl rfl⟩, i6, w6, hi6, rfl⟩
      · simp at hc
    by_cases k2 : k = 2
    · subst k2
      rcases hy with rfl | ⟨rfl, rfl⟩
      · repeat' first|refine nx ?_|refine xb_miss (by decide) ?_|(apply W_reg;(simp [c1, c2, c3, c4];exact .r _))
        refine W_cond (by simp; exact .r _) (fun hc => ?_) (fun hc => ?_)
        · simp at hc
        repeat' first|refine nx ?_|refine xb_miss (by decide) ?_|(apply W_reg;(simp;exact .r _))
        refine W_cond (by simp; exact .r _) (fun hc => ?_) (fun hc => ?_)
        · simp at hc
        repeat' first|refine nx ?_|refine xb_miss (by decide) ?_|(apply W_reg;(simp;exact .r _))
        refine W_cond (by simp; exact .r _) (fun hc => ?_) (fun hc => ?_)
        · repeat' first|refine nx ?_|refine xb_miss (by decide) ?_|(apply W_reg;(simp [c7];exact .r _))|(apply W_draw (id := 11) [0,0,0,1,11,31] rfl rfl; (· simp; exact .r _); (· simp [c7]; exact .r _); (· first|trivial|simp))
          exact EndsP.mk (cs' := CU b i7 w7) (x := .tup [.agg [.own 1 (rowsE ar2)], xvQ q, .own 2 (rowsE db)]) (v := .tup [.agg [.ref 9 ar2.length []], .agg [.ref 5 q.head.length [], .ref 6 q.body.length []], .ref 8 db.length []]) (by simp) (by simp) (by simp [rowsE]) ⟨⟨ar2, q, db, _, _, har2, ⟨by have := hq.1; omega, hq.2⟩, hdb0, rfl, .inl rfl, .inl rfl⟩, i7, w7, hi7, rfl⟩
        · simp at hc
      · repeat' first|refine nx ?_|refine xb_miss (by decide) ?_|(apply W_reg;(simp [c1, c2, c3, c4];exact .r _))
        refine W_cond (by simp; exact .r _) (fun hc => ?_) (fun hc => ?_)
        · simp at hc
        repeat' first|refine nx ?_|refine xb_miss (by decide) ?_|(apply W_reg;(simp;exact .r _))
        refine W_cond (by simp; exact .r _) (fun hc => ?_) (fun hc => ?_)
        · simp at hc
        repeat' first|refine nx ?_|refine xb_miss (by decide) ?_|(apply W_reg;(simp;exact .r _))
        refine W_cond (by simp; exact .r _) (fun hc => ?_) (fun hc => ?_)
        · repeat' first|refine nx ?_|refine xb_miss (by decide) ?_|(apply W_reg;(simp [c7];exact .r _))|(apply W_draw (id := 11) [0,0,0,1,11,31] rfl rfl; (· simp; exact .r _); (· simp [c7]; exact .r _); (· first|trivial|simp))
          exact EndsP.mk (cs' := CU b i7 w7) (x := .tup [.agg [.t .nl false], xvQ q, .own 2 (rowsE db)]) (v := .tup [.agg [.t .nl], .agg [.ref 5 q.head.length [], .ref 6 q.body.length []], .ref 8 db.length []]) (by simp) (by simp) (by simp [rowsE]) ⟨⟨[], q, db, _, _, (by simp), ⟨by have := hq.1; omega, hq.2⟩, hdb0, rfl, .inr ⟨_, false, rfl, rfl⟩, .inl rfl⟩, i7, w7, hi7, rfl⟩
        · simp at hc
    repeat' first|refine nx ?_|refine xb_miss (by decide) ?_|(apply W_reg;(simp [c1, c2, c3, c4, k0, k1, k2];exact .r _))
    refine W_cond (by simp; exact .r _) (fun hc => ?_) (fun hc => ?_)
    · simp at hc
    repeat' first|refine nx ?_|refine xb_miss (by decide) ?_|(apply W_reg;(simp [k1, k2];exact .r _))
    refine W_cond (by simp; exact .r _) (fun hc => ?_) (fun hc => ?_)
    · simp at hc
    repeat' first|refine nx ?_|refine xb_miss (by decide) ?_|(apply W_reg;(simp [k2];exact .r _))
    refine W_cond (by simp; exact .r _) (fun hc => ?_) (fun hc => ?_)
    · simp at hc
    repeat' first|refine nx ?_|refine xb_miss (by decide) ?_|(apply W_reg;(simp;exact .r _))|(apply W_draw (id := 11) [0,0,0,1,11,31] rfl rfl; (· simp; exact .r _); (· simp; exact .r _); (· first|trivial|simp))
    exact EndsP.mk (cs' := CU b i4 w4) (x := .tup [.agg [.t (.sl (rowsE ar)) true], xvQ q, .own 2 (rowsE db)]) (v := .tup [.agg [.ref 3 ar.length []], .agg [.ref 5 q.head.length [], .ref 6 q.body.length []], .ref 8 db.length []]) (by simp) (by simp) (by simp [rowsE]) ⟨⟨ar, q, db, _, _, hA5, ⟨by have := hq.1; omega, hq.2⟩, hdb0, rfl, .inr ⟨_, true, rfl, rfl⟩, .inl rfl⟩, i4, w4, hi4, rfl⟩
  · skip
    by_cases k0 : k = 0
    · subst k0
      repeat' first|refine nx ?_|refine xb_miss (by decide) ?_|(apply W_reg;(simp [c1, c2, c3, c4];exact .r _))
      refine W_cond (by simp; exact .r _) (fun hc => ?_) (fun hc => ?_)
      · repeat' first|refine nx ?_|refine xb_miss (by decide) ?_|(apply W_reg;(simp [c5, flatR, hHb];exact .r _))|(apply W_draw (id := 6) [0,1,0,4,12,31,63,127] rfl rfl; (· simp; exact .r _); (· simp [c5, flatR, hHb]; exact .r _); (· first|trivial|simp))|(apply W_draw (id := 11) [0,0,0,1,11,31] rfl rfl; (· simp; exact .r _); (· simp [c5, flatR, hHb]; exact .r _); (· first|trivial|simp))
        exact EndsP.mk (cs' := CU b i5 w5) (x := .tup [.agg [.t (.sl (rowsE ar)) true], xvQ ⟨[t], q.body⟩, .own 2 (rowsE db)]) (v := .tup [.agg [.ref 3 ar.length []], .agg [.ref 9 1 [], .ref 5 q.body.length []], .ref 7 db.length []]) (by simp) (by simp) (by simp [rowsE]) ⟨⟨ar, ⟨[t], q.body⟩, db, _, _, hA5, ⟨by have := hq.1; first | (simp; done) | (simp; omega), hq.2⟩, hdb0, rfl, .inr ⟨_, true, rfl, rfl⟩, .inl rfl⟩, i5, w5, hi5, rfl⟩
      · simp at hc
    by_cases k1 : k = 1
    · subst k1
      repeat' first|refine nx ?_|refine xb_miss (by decide) ?_|(apply W_reg;(simp [c1, c2, c3, c4];exact .r _))
      refine W_cond (by simp; exact .r _) (fun hc => ?_) (fun hc => ?_)
      · simp at hc
      repeat' first|refine nx ?_|refine xb_miss (by decide) ?_|(apply W_reg;(simp;exact .r _))
      refine W_cond (by simp; exact .r _) (fun hc => ?_) (fun hc => ?_)
      · repeat' first|refine nx ?_|refine xb_miss (by decide) ?_|(apply W_reg;(simp [c6, hDb];exact .r _))|(apply W_draw (id := 11) [0,0,0,1,11,31] rfl rfl; (· simp; exact .r _); (· simp [c6, hDb]; exact .r _); (· first|trivial|simp))
        exact EndsP.mk (cs' := CU b i6 w6) (x := .tup [.agg [.t (.sl (rowsE ar)) true], .agg [.t .nl false, .own 2 (rowsE q.body)], .own 2 (rowsE (db ++ [a]))]) (v := .tup [.agg [.ref 3 ar.length []], .agg [.t .nl, .ref 5 q.body.length []], .ref 7 (db.length + 1) []]) (by simp) (by simp) (by simp [rowsE]) ⟨⟨ar, q, (db ++ [a]), _, _, hA5, ⟨by have := hq.1; omega, hq.2⟩, hdb1, rfl, .inr ⟨_, true, rfl, rfl⟩, .inr ⟨rfl, hqn⟩⟩, i6, w6, hi6, rfl⟩
      · simp at hc
    by_cases k2 : k = 2
    · subst k2
      rcases hy with rfl | ⟨rfl, rfl⟩
      · repeat' first|refine nx ?_|refine xb_miss (by decide) ?_|(apply W_reg;(simp [c1, c2, c3, c4];exact .r _))
        refine W_cond (by simp; exact .r _) (fun hc => ?_) (fun hc => ?_)
        · simp at hc
        repeat' first|refine nx ?_|refine xb_miss (by decide) ?_|(apply W_reg;(simp;exact .r _))
        refine W_cond (by simp; exact .r _) (fun hc => ?_) (fun hc => ?_)
        · simp at hc
        repeat' first|refine nx ?_|refine xb_miss (by decide) ?_|(apply W_reg;(simp;exact .r _))
        refine W_cond (by simp; exact .r _) (fun hc => ?_) (fun hc => ?_)
        · repeat' first|refine nx ?_|refine xb_miss (by decide) ?_|(apply W_reg;(simp [c7];exact .r _))|(apply W_draw (id := 11) [0,0,0,1,11,31] rfl rfl; (· simp; exact .r _); (· simp [c7]; exact .r _); (· first|trivial|simp))
          exact EndsP.mk (cs' := CU b i7 w7) (x := .tup [.agg [.own 1 (rowsE ar2)], .agg [.t .nl false, .own 2 (rowsE q.body)], .own 2 (rowsE db)]) (v := .tup [.agg [.ref 8 ar2.length []], .agg [.t .nl, .ref 5 q.body.length []], .ref 7 db.length []]) (by simp) (by simp) (by simp [rowsE]) ⟨⟨ar2, q, db, _, _, har2, ⟨by have := hq.1; omega, hq.2⟩, hdb0, rfl, .inl rfl, .inr ⟨rfl, hqn⟩⟩, i7, w7, hi7, rfl⟩
        · simp at hc
      · repeat' first|refine nx ?_|refine xb_miss (by decide) ?_|(apply W_reg;(simp [c1, c2, c3, c4];exact .r _))
        refine W_cond (by simp; exact .r _) (fun hc => ?_) (fun hc => ?_)
        · simp at hc
        repeat' first|refine nx ?_|refine xb_miss (by decide) ?_|(apply W_reg;(simp;exact .r _))
        refine W_cond (by simp; exact .r _) (fun hc => ?_) (fun hc => ?_)
        · simp at hc
        repeat' first|refine nx ?_|refine xb_miss (by decide) ?_|(apply W_reg;(simp;exact .r _))
        refine W_cond (by simp; exact .r _) (fun hc => ?_) (fun hc => ?_)
        · repeat' first|refine nx ?_|refine xb_miss (by decide) ?_|(apply W_reg;(simp [c7];exact .r _))|(apply W_draw (id := 11) [0,0,0,1,11,31] rfl rfl; (· simp; exact .r _); (· simp [c7]; exact .r _); (· first|trivial|simp))
          exact EndsP.mk (cs' := CU b i7 w7) (x := .tup [.agg [.t .nl false], .agg [.t .nl false, .own 2 (rowsE q.body)], .own 2 (rowsE db)]) (v := .tup [.agg [.t .nl], .agg [.t .nl, .ref 5 q.body.length []], .ref 7 db.length []]) (by simp) (by simp) (by simp [rowsE]) ⟨⟨[], q, db, _, _, (by simp), ⟨by have := hq.1; omega, hq.2⟩, hdb0, rfl, .inr ⟨_, false, rfl, rfl⟩, .inr ⟨rfl, hqn⟩⟩, i7, w7, hi7, rfl⟩
        · simp at hc
    repeat' first|refine nx ?_|refine xb_miss (by decide) ?_|(apply W_reg;(simp [c1, c2, c3, c4, k0, k1, k2];exact .r _))
    refine W_cond (by simp; exact .r _) (fun hc => ?_) (fun hc => ?_)
    · simp at hc
    repeat' first|refine nx ?_|refine xb_miss (by decide) ?_|(apply W_reg;(simp [k1, k2];exact .r _))
    refine W_cond (by simp; exact .r _) (fun hc => ?_) (fun hc => ?_)
    · simp at hc
    repeat' first|refine nx ?_|refine xb_miss (by decide) ?_|(apply W_reg;(simp [k2];exact .r _))
    refine W_cond (by simp; exact .r _) (fun hc => ?_) (fun hc => ?_)
    · simp at hc
    repeat' first|refine nx ?_|refine xb_miss (by decide) ?_|(apply W_reg;(simp;exact .r _))|(apply W_draw (id := 11) [0,0,0,1,11,31] rfl rfl; (· simp; exact .r _); (· simp; exact .r _); (· first|trivial|simp))
    exact EndsP.mk (cs' := CU b i4 w4) (x := .tup [.agg [.t (.sl (rowsE ar)) true], .agg [.t .nl false, .own 2 (rowsE q.body)], .own 2 (rowsE db)]) (v := .tup [.agg [.ref 3 ar.length []], .agg [.t .nl, .ref 5 q.body.length []], .ref 7 db.length []]) (by simp) (by simp) (by simp [rowsE]) ⟨⟨ar, q, db, _, _, hA5, ⟨by have := hq.1; omega, hq.2⟩, hdb0, rfl, .inr ⟨_, true, rfl, rfl⟩, .inr ⟨rfl, hqn⟩⟩, i4, w4, hi4, rfl⟩
end Go.Proofs.YtpdpgfagklhpaaaGreat.V

namespace Go.Proofs.YtpdpgfagklhpaaaGreat.V
open Go Go.Proofs
set_option linter.unusedVariables false
set_option linter.unusedSimpArgs false
theorem drawMay_r (b : List By) (hb : b.length ≤ 1048576) : ∃ x, (∃ (q : Qry) (a : RA) (xq : XV), QS 2 q ∧ a.args.length ≤ 4 ∧ x = .tup [xq, xvF a] ∧ XQ q xq) ∧ Ret XX 5 [Ar b] x := by
  obtain ⟨h, hn⟩ := l1New_r b hb
  have c0 := cv hn
  have hbs : Sm b := by unfold Sm; omega
  obtain ⟨x, cs', ⟨⟨ar, har, hD, rfl⟩, i1, w1, hi1, rfl⟩, hr1⟩ := l3Schema_p b 0 h hbs (by omega)
  have c1 := cvP0 hr1
  obtain ⟨x, cs', ⟨⟨q, hq, hxq⟩, i2, w2, hi2, rfl⟩, hr⟩ := l4Query_p b i1 w1 ⟨ar⟩ hbs hi1 hD
  have c2 := cvP hr
  obtain ⟨x, cs', ⟨⟨a, ha, rfl⟩, i3, w3, hi3, rfl⟩, hr⟩ := l5AnyFact_p b i2 w2 ⟨ar⟩ hbs hi2 (by simp only; omega)
  have c3 := cvP hr
  simp only [CU, Ag, cells_Sch, List.map_cons, List.map_nil] at c0 c1 c2 c3
  refine ret_QW rfl Tryz.func5 rfl rfl (by simp [Tryz.f5]) ?_
  simp only [Tryz.f5]
  rcases hxq with rfl | ⟨rfl, hqn⟩
  · repeat' first|refine nx ?_|refine xb_miss (by decide) ?_|(apply W_reg;(simp [c0, c1, c2, c3];exact .r _))|(apply W_draw (id := 4) [0,0,0,6,15,31] rfl rfl; (· simp; exact .r _); (· simp [c0, c1, c2, c3]; exact .r _); (· first|trivial|simp))
    exact EndsQ.mk (v := .tup [.agg [.ref 5 q.head.length [], .ref 6 q.body.length []], .agg [In a.rel, .ref 8 a.args.length []]]) (x := .tup [xvQ q, xvF a]) (by simp) (by simp) ⟨q, a, _, hq, ha, rfl, .inl rfl⟩
  · repeat' first|refine nx ?_|refine xb_miss (by decide) ?_|(apply W_reg;(simp [c0, c1, c2, c3];exact .r _))|(apply W_draw (id := 4) [0,0,0,6,15,31] rfl rfl; (· simp; exact .r _); (· simp [c0, c1, c2, c3]; exact .r _); (· first|trivial|simp))
    exact EndsQ.mk (v := .tup [.agg [.t .nl, .ref 5 q.body.length []], .agg [In a.rel, .ref 7 a.args.length []]]) (x := .tup [.agg [.t .nl false, .own 2 (rowsE q.body)], xvF a]) (by simp) (by simp) ⟨q, a, _, hq, ha, rfl, .inr ⟨rfl, hqn⟩⟩
set_option maxRecDepth 10000 in
set_option maxHeartbeats 4000000 in
theorem drawDel_r (b : List By) (hb : b.length ≤ 1048576) : ∃ x, (∃ (ar : List Int) (q : Qry) (db : List RA) (a : RA) (y : T) (f : Bool) (xq : XV), ar.length ≤ 5 ∧ QS 3 q ∧ DbS 40 4 db ∧ a.args.length ≤ 4 ∧ y.nz = .sl (rowsE ar) ∧ XQ q xq ∧ x = .tup [.agg [.t y f], xq, .own 2 (rowsE db), xvF a]) ∧ Ret XX 8 [Ar b] x := by
  obtain ⟨h, hn⟩ := l1New_r b hb
  have c0 := cv hn
  have hbs : Sm b := by unfold Sm; omega
  obtain ⟨x, cs', ⟨⟨ar, q, db, xs, xq, har, hq, hdb, rfl, hxs, hxq⟩, i1, w1, hi1, rfl⟩, hr1⟩ := l6Draw_p b 0 h hbs (by omega)
  have c1 := cvP0 hr1
  obtain ⟨x, cs', ⟨⟨a, ha, rfl⟩, i2, w2, hi2, rfl⟩, hr⟩ := l5AnyFact_p b i1 w1 ⟨ar⟩ hbs hi1 har
  have c2 := cvP hr
  obtain ⟨x, cs', ⟨⟨o3, rfl⟩, i3, w3, hi3, rfl⟩, hr⟩ := l1Once_p b i2 w2 3 hbs hi2 (by omega)
  have c3 := cvP hr
  obtain ⟨x, cs', ⟨⟨k, hk, rfl⟩, i4, w4, hi4, rfl⟩, hr⟩ := l1Below_p b i3 w3 db.length hbs hi3 (by have := hdb.1; omega)
  have c4 := cvP hr
  simp only [CU, Ag, cells_Sch, List.map_cons, List.map_nil] at c0 c1 c2 c3 c4
  refine ret_QW rfl Tryz.func8 rfl rfl (by simp [Tryz.f8]) ?_
  simp only [Tryz.f8]
  have hx3 : xs = .own 1 (rowsE ar) ∨ (∃ f, xs = .t (.sl (rowsE ar)) f) ∨ (∃ f, xs = .t .nl f ∧ rowsE ar = []) := by
    rcases hxs with h | ⟨z, f, hz, h⟩
    · exact .inl h
    · rcases nz_cases hz with e | ⟨e, e2⟩
      · exact .inr (.inl ⟨f, by rw [h, e]⟩)
      · exact .inr (.inr ⟨f, by rw [h, e], e2⟩)
  rcases hx3 with rfl | ⟨f, rfl⟩ | ⟨f, rfl, hr0⟩
  all_goals rcases hxq with rfl | ⟨rfl, hqn⟩
  · skip
    by_cases hl : 0 < db.length
    · cases o3
      · have hk0 := hk.1
        have hkl : k.toNat < db.length := by have := hk.2.1 (by omega); omega
        have hda := hdb.2 _ (List.getElem_mem hkl)
        have c5 := cv (l5Copy_r db[k.toNat] (by unfold Sm; omega))
        simp only [Ag, cells_RA, List.map_cons, List.map_nil] at c5
        repeat' first|refine nx ?_|refine xb_miss (by decide) ?_|(apply W_reg;(simp [c0, c1, c2, c3, hl];exact .r _))
        refine W_cond (by simp; exact .r _) (fun hc2 => ?_) (fun hc2 => ?_)
        · repeat' first|refine nx ?_|refine xb_miss (by decide) ?_|(apply W_reg;(simp [c4, hk0, hkl, c5];exact .r _))|(apply W_draw (id := 6) [0,0,0,0,1,19,55,127] rfl rfl; (· simp; exact .r _); (· simp [c4, hk0, hkl, c5]; exact .r _); (· first|trivial|simp))
          exact EndsQ.mk (v := .tup [.agg [.ref 4 ar.length []], .agg [.ref 5 q.head.length [], .ref 6 q.body.length []], .ref 7 db.length [], .agg [In db[k.toNat].rel, .ref 12 db[k.toNat].args.length []]]) (x := .tup [.agg [.t (.sl (rowsE ar)) true], xvQ q, .own 2 (rowsE db), xvF db[k.toNat]]) (by simp) (by simp) ⟨ar, q, db, db[k.toNat], _, _, _, har, hq, hdb, hda, rfl, .inl rfl, rfl⟩
        · simp at hc2
      · repeat' first|refine nx ?_|refine xb_miss (by decide) ?_|(apply W_reg;(simp [c0, c1, c2, c3, hl];exact .r _))
        refine W_cond (by simp; exact .r _) (fun hc2 => ?_) (fun hc2 => ?_)
        · simp at hc2
        repeat' first|refine nx ?_|refine xb_miss (by decide) ?_|(apply W_reg;(simp;exact .r _))|(apply W_draw (id := 6) [0,0,0,0,1,19,55,127] rfl rfl; (· simp; exact .r _); (· simp; exact .r _); (· first|trivial|simp))
        exact EndsQ.mk (v := .tup [.agg [.ref 4 ar.length []], .agg [.ref 5 q.head.length [], .ref 6 q.body.length []], .ref 7 db.length [], .agg [In a.rel, .ref 10 a.args.length []]]) (x := .tup [.agg [.t (.sl (rowsE ar)) true], xvQ q, .own 2 (rowsE db), xvF a]) (by simp) (by simp) ⟨ar, q, db, a, _, _, _, har, hq, hdb, ha, rfl, .inl rfl, rfl⟩
    · repeat' first|refine nx ?_|refine xb_miss (by decide) ?_|(apply W_reg;(simp [c0, c1, c2, hl];exact .r _))
      refine W_cond (by simp; exact .r _) (fun hc2 => ?_) (fun hc2 => ?_)
      · simp at hc2
      repeat' first|refine nx ?_|refine xb_miss (by decide) ?_|(apply W_reg;(simp;exact .r _))|(apply W_draw (id := 6) [0,0,0,0,1,19,55,127] rfl rfl; (· simp; exact .r _); (· simp; exact .r _); (· first|trivial|simp))
      exact EndsQ.mk (v := .tup [.agg [.ref 4 ar.length []], .agg [.ref 5 q.head.length [], .ref 6 q.body.length []], .ref 7 db.length [], .agg [In a.rel, .ref 10 a.args.length []]]) (x := .tup [.agg [.t (.sl (rowsE ar)) true], xvQ q, .own 2 (rowsE db), xvF a]) (by simp) (by simp) ⟨ar, q, db, a, _, _, _, har, hq, hdb, ha, rfl, .inl rfl, rfl⟩
  · skip
    by_cases hl : 0 < db.length
    · cases o3
      · have hk0 := hk.1
        have hkl : k.toNat < db.length := by have := hk.2.1 (by omega); omega
        have hda := hdb.2 _ (List.getElem_mem hkl)
        have c5 := cv (l5Copy_r db[k.toNat] (by unfold Sm; omega))
        simp only [Ag, cells_RA, List.map_cons, List.map_nil] at c5
        repeat' first|refine nx ?_|refine xb_miss (by decide) ?_|(apply W_reg;(simp [c0, c1, c2, c3, hl];exact .r _))
        refine W_cond (by simp; exact .r _) (fun hc2 => ?_) (fun hc2 => ?_)
        · repeat' first|refine nx ?_|refine xb_miss (by decide) ?_|(apply W_reg;(simp [c4, hk0, hkl, c5];exact .r _))|(apply W_draw (id := 6) [0,0,0,0,1,19,55,127] rfl rfl; (· simp; exact .r _); (· simp [c4, hk0, hkl, c5]; exact .r _); (· first|trivial|simp))
          exact EndsQ.mk (v := .tup [.agg [.ref 4 ar.length []], .agg [.t .nl, .ref 5 q.body.length []], .ref 6 db.length [], .agg [In db[k.toNat].rel, .ref 11 db[k.toNat].args.length []]]) (x := .tup [.agg [.t (.sl (rowsE ar)) true], .agg [.t .nl false, .own 2 (rowsE q.body)], .own 2 (rowsE db), xvF db[k.toNat]]) (by simp) (by simp) ⟨ar, q, db, db[k.toNat], _, _, _, har, hq, hdb, hda, rfl, .inr ⟨rfl, hqn⟩, rfl⟩
        · simp at hc2
      · repeat' first|refine nx ?_|refine xb_miss (by decide) ?_|(apply W_reg;(simp [c0, c1, c2, c3, hl];exact .r _))
        refine W_cond (by simp; exact .r _) (fun hc2 => ?_) (fun hc2 => ?_)
        · simp at hc2
        repeat' first|refine nx ?_|refine xb_miss (by decide) ?_|(apply W_reg;(simp;exact .r _))|(apply W_draw (id := 6) [0,0,0,0,1,19,55,127] rfl rfl; (· simp; exact .r _); (· simp; exact .r _); (· first|trivial|simp))
        exact EndsQ.mk (v := .tup [.agg [.ref 4 ar.length []], .agg [.t .nl, .ref 5 q.body.length []], .ref 6 db.length [], .agg [In a.rel, .ref 9 a.args.length []]]) (x := .tup [.agg [.t (.sl (rowsE ar)) true], .agg [.t .nl false, .own 2 (rowsE q.body)], .own 2 (rowsE db), xvF a]) (by simp) (by simp) ⟨ar, q, db, a, _, _, _, har, hq, hdb, ha, rfl, .inr ⟨rfl, hqn⟩, rfl⟩
    · repeat' first|refine nx ?_|refine xb_miss (by decide) ?_|(apply W_reg;(simp [c0, c1, c2, hl];exact .r _))
      refine W_cond (by simp; exact .r _) (fun hc2 => ?_) (fun hc2 => ?_)
      · simp at hc2
      repeat' first|refine nx ?_|refine xb_miss (by decide) ?_|(apply W_reg;(simp;exact .r _))|(apply W_draw (id := 6) [0,0,0,0,1,19,55,127] rfl rfl; (· simp; exact .r _); (· simp; exact .r _); (· first|trivial|simp))
      exact EndsQ.mk (v := .tup [.agg [.ref 4 ar.length []], .agg [.t .nl, .ref 5 q.body.length []], .ref 6 db.length [], .agg [In a.rel, .ref 9 a.args.length []]]) (x := .tup [.agg [.t (.sl (rowsE ar)) true], .agg [.t .nl false, .own 2 (rowsE q.body)], .own 2 (rowsE db), xvF a]) (by simp) (by simp) ⟨ar, q, db, a, _, _, _, har, hq, hdb, ha, rfl, .inr ⟨rfl, hqn⟩, rfl⟩
  · skip
    by_cases hl : 0 < db.length
    · cases o3
      · have hk0 := hk.1
        have hkl : k.toNat < db.length := by have := hk.2.1 (by omega); omega
        have hda := hdb.2 _ (List.getElem_mem hkl)
        have c5 := cv (l5Copy_r db[k.toNat] (by unfold Sm; omega))
        simp only [Ag, cells_RA, List.map_cons, List.map_nil] at c5
        repeat' first|refine nx ?_|refine xb_miss (by decide) ?_|(apply W_reg;(simp [c0, c1, c2, c3, hl];exact .r _))
        refine W_cond (by simp; exact .r _) (fun hc2 => ?_) (fun hc2 => ?_)
        · repeat' first|refine nx ?_|refine xb_miss (by decide) ?_|(apply W_reg;(simp [c4, hk0, hkl, c5];exact .r _))|(apply W_draw (id := 6) [0,0,0,0,1,19,55,127] rfl rfl; (· simp; exact .r _); (· simp [c4, hk0, hkl, c5]; exact .r _); (· first|trivial|simp))
          exact EndsQ.mk (v := .tup [.agg [.t (.sl (rowsE ar))], .agg [.ref 4 q.head.length [], .ref 5 q.body.length []], .ref 6 db.length [], .agg [In db[k.toNat].rel, .ref 11 db[k.toNat].args.length []]]) (x := .tup [.agg [.t (.sl (rowsE ar)) true], xvQ q, .own 2 (rowsE db), xvF db[k.toNat]]) (by simp) (by simp) ⟨ar, q, db, db[k.toNat], _, _, _, har, hq, hdb, hda, rfl, .inl rfl, rfl⟩
        · simp at hc2
      · repeat' first|refine nx ?_|refine xb_miss (by decide) ?_|(apply W_reg;(simp [c0, c1, c2, c3, hl];exact .r _))
        refine W_cond (by simp; exact .r _) (fun hc2 => ?_) (fun hc2 => ?_)
        · simp at hc2
        repeat' first|refine nx ?_|refine xb_miss (by decide) ?_|(apply W_reg;(simp;exact .r _))|(apply W_draw (id := 6) [0,0,0,0,1,19,55,127] rfl rfl; (· simp; exact .r _); (· simp; exact .r _); (· first|trivial|simp))
        exact EndsQ.mk (v := .tup [.agg [.t (.sl (rowsE ar))], .agg [.ref 4 q.head.length [], .ref 5 q.body.length []], .ref 6 db.length [], .agg [In a.rel, .ref 9 a.args.length []]]) (x := .tup [.agg [.t (.sl (rowsE ar)) true], xvQ q, .own 2 (rowsE db), xvF a]) (by simp) (by simp) ⟨ar, q, db, a, _, _, _, har, hq, hdb, ha, rfl, .inl rfl, rfl⟩
    · repeat' first|refine nx ?_|refine xb_miss (by decide) ?_|(apply W_reg;(simp [c0, c1, c2, hl];exact .r _))
      refine W_cond (by simp; exact .r _) (fun hc2 => ?_) (fun hc2 => ?_)
      · simp at hc2
      repeat' first|refine nx ?_|refine xb_miss (by decide) ?_|(apply W_reg;(simp;exact .r _))|(apply W_draw (id := 6) [0,0,0,0,1,19,55,127] rfl rfl; (· simp; exact .r _); (· simp; exact .r _); (· first|trivial|simp))
      exact EndsQ.mk (v := .tup [.agg [.t (.sl (rowsE ar))], .agg [.ref 4 q.head.length [], .ref 5 q.body.length []], .ref 6 db.length [], .agg [In a.rel, .ref 9 a.args.length []]]) (x := .tup [.agg [.t (.sl (rowsE ar)) true], xvQ q, .own 2 (rowsE db), xvF a]) (by simp) (by simp) ⟨ar, q, db, a, _, _, _, har, hq, hdb, ha, rfl, .inl rfl, rfl⟩
  · skip
    by_cases hl : 0 < db.length
    · cases o3
      · have hk0 := hk.1
        have hkl : k.toNat < db.length := by have := hk.2.1 (by omega); omega
        have hda := hdb.2 _ (List.getElem_mem hkl)
        have c5 := cv (l5Copy_r db[k.toNat] (by unfold Sm; omega))
        simp only [Ag, cells_RA, List.map_cons, List.map_nil] at c5
        repeat' first|refine nx ?_|refine xb_miss (by decide) ?_|(apply W_reg;(simp [c0, c1, c2, c3, hl];exact .r _))
        refine W_cond (by simp; exact .r _) (fun hc2 => ?_) (fun hc2 => ?_)
        · repeat' first|refine nx ?_|refine xb_miss (by decide) ?_|(apply W_reg;(simp [c4, hk0, hkl, c5];exact .r _))|(apply W_draw (id := 6) [0,0,0,0,1,19,55,127] rfl rfl; (· simp; exact .r _); (· simp [c4, hk0, hkl, c5]; exact .r _); (· first|trivial|simp))
          exact EndsQ.mk (v := .tup [.agg [.t (.sl (rowsE ar))], .agg [.t .nl, .ref 4 q.body.length []], .ref 5 db.length [], .agg [In db[k.toNat].rel, .ref 10 db[k.toNat].args.length []]]) (x := .tup [.agg [.t (.sl (rowsE ar)) true], .agg [.t .nl false, .own 2 (rowsE q.body)], .own 2 (rowsE db), xvF db[k.toNat]]) (by simp) (by simp) ⟨ar, q, db, db[k.toNat], _, _, _, har, hq, hdb, hda, rfl, .inr ⟨rfl, hqn⟩, rfl⟩
        · simp at hc2
      · repeat' first|refine nx ?_|refine xb_miss (by decide) ?_|(apply W_reg;(simp [c0, c1, c2, c3, hl];exact .r _))
        refine W_cond (by simp; exact .r _) (fun hc2 => ?_) (fun hc2 => ?_)
        · simp at hc2
        repeat' first|refine nx ?_|refine xb_miss (by decide) ?_|(apply W_reg;(simp;exact .r _))|(apply W_draw (id := 6) [0,0,0,0,1,19,55,127] rfl rfl; (· simp; exact .r _); (· simp; exact .r _); (· first|trivial|simp))
        exact EndsQ.mk (v := .tup [.agg [.t (.sl (rowsE ar))], .agg [.t .nl, .ref 4 q.body.length []], .ref 5 db.length [], .agg [In a.rel, .ref 8 a.args.length []]]) (x := .tup [.agg [.t (.sl (rowsE ar)) true], .agg [.t .nl false, .own 2 (rowsE q.body)], .own 2 (rowsE db), xvF a]) (by simp) (by simp) ⟨ar, q, db, a, _, _, _, har, hq, hdb, ha, rfl, .inr ⟨rfl, hqn⟩, rfl⟩
    · repeat' first|refine nx ?_|refine xb_miss (by decide) ?_|(apply W_reg;(simp [c0, c1, c2, hl];exact .r _))
      refine W_cond (by simp; exact .r _) (fun hc2 => ?_) (fun hc2 => ?_)
      · simp at hc2
      repeat' first|refine nx ?_|refine xb_miss (by decide) ?_|(apply W_reg;(simp;exact .r _))|(apply W_draw (id := 6) [0,0,0,0,1,19,55,127] rfl rfl; (· simp; exact .r _); (· simp; exact .r _); (· first|trivial|simp))
      exact EndsQ.mk (v := .tup [.agg [.t (.sl (rowsE ar))], .agg [.t .nl, .ref 4 q.body.length []], .ref 5 db.length [], .agg [In a.rel, .ref 8 a.args.length []]]) (x := .tup [.agg [.t (.sl (rowsE ar)) true], .agg [.t .nl false, .own 2 (rowsE q.body)], .own 2 (rowsE db), xvF a]) (by simp) (by simp) ⟨ar, q, db, a, _, _, _, har, hq, hdb, ha, rfl, .inr ⟨rfl, hqn⟩, rfl⟩
  · skip
    rw [hr0] at c2
    by_cases hl : 0 < db.length
    · cases o3
      · have hk0 := hk.1
        have hkl : k.toNat < db.length := by have := hk.2.1 (by omega); omega
        have hda := hdb.2 _ (List.getElem_mem hkl)
        have c5 := cv (l5Copy_r db[k.toNat] (by unfold Sm; omega))
        simp only [Ag, cells_RA, List.map_cons, List.map_nil] at c5
        repeat' first|refine nx ?_|refine xb_miss (by decide) ?_|(apply W_reg;(simp [c0, c1, c2, c3, hl];exact .r _))
        refine W_cond (by simp; exact .r _) (fun hc2 => ?_) (fun hc2 => ?_)
        · repeat' first|refine nx ?_|refine xb_miss (by decide) ?_|(apply W_reg;(simp [c4, hk0, hkl, c5];exact .r _))|(apply W_draw (id := 6) [0,0,0,0,1,19,55,127] rfl rfl; (· simp; exact .r _); (· simp [c4, hk0, hkl, c5]; exact .r _); (· first|trivial|simp))
          exact EndsQ.mk (v := .tup [.agg [.t .nl], .agg [.ref 4 q.head.length [], .ref 5 q.body.length []], .ref 6 db.length [], .agg [In db[k.toNat].rel, .ref 11 db[k.toNat].args.length []]]) (x := .tup [.agg [.t .nl false], xvQ q, .own 2 (rowsE db), xvF db[k.toNat]]) (by simp) (by simp) ⟨ar, q, db, db[k.toNat], _, _, _, har, hq, hdb, hda, (by rw [hr0]; rfl), .inl rfl, rfl⟩
        · simp at hc2
      · repeat' first|refine nx ?_|refine xb_miss (by decide) ?_|(apply W_reg;(simp [c0, c1, c2, c3, hl];exact .r _))
        refine W_cond (by simp; exact .r _) (fun hc2 => ?_) (fun hc2 => ?_)
        · simp at hc2
        repeat' first|refine nx ?_|refine xb_miss (by decide) ?_|(apply W_reg;(simp;exact .r _))|(apply W_draw (id := 6) [0,0,0,0,1,19,55,127] rfl rfl; (· simp; exact .r _); (· simp; exact .r _); (· first|trivial|simp))
        exact EndsQ.mk (v := .tup [.agg [.t .nl], .agg [.ref 4 q.head.length [], .ref 5 q.body.length []], .ref 6 db.length [], .agg [In a.rel, .ref 9 a.args.length []]]) (x := .tup [.agg [.t .nl false], xvQ q, .own 2 (rowsE db), xvF a]) (by simp) (by simp) ⟨ar, q, db, a, _, _, _, har, hq, hdb, ha, (by rw [hr0]; rfl), .inl rfl, rfl⟩
    · repeat' first|refine nx ?_|refine xb_miss (by decide) ?_|(apply W_reg;(simp [c0, c1, c2, hl];exact .r _))
      refine W_cond (by simp; exact .r _) (fun hc2 => ?_) (fun hc2 => ?_)
      · simp at hc2
      repeat' first|refine nx ?_|refine xb_miss (by decide) ?_|(apply W_reg;(simp;exact .r _))|(apply W_draw (id := 6) [0,0,0,0,1,19,55,127] rfl rfl; (· simp; exact .r _); (· simp; exact .r _); (· first|trivial|simp))
      exact EndsQ.mk (v := .tup [.agg [.t .nl], .agg [.ref 4 q.head.length [], .ref 5 q.body.length []], .ref 6 db.length [], .agg [In a.rel, .ref 9 a.args.length []]]) (x := .tup [.agg [.t .nl false], xvQ q, .own 2 (rowsE db), xvF a]) (by simp) (by simp) ⟨ar, q, db, a, _, _, _, har, hq, hdb, ha, (by rw [hr0]; rfl), .inl rfl, rfl⟩
  · skip
    rw [hr0] at c2
    by_cases hl : 0 < db.length
    · cases o3
      · have hk0 := hk.1
        have hkl : k.toNat < db.length := by have := hk.2.1 (by omega); omega
        have hda := hdb.2 _ (List.getElem_mem hkl)
        have c5 := cv (l5Copy_r db[k.toNat] (by unfold Sm; omega))
        simp only [Ag, cells_RA, List.map_cons, List.map_nil] at c5
        repeat' first|refine nx ?_|refine xb_miss (by decide) ?_|(apply W_reg;(simp [c0, c1, c2, c3, hl];exact .r _))
        refine W_cond (by simp; exact .r _) (fun hc2 => ?_) (fun hc2 => ?_)
        · repeat' first|refine nx ?_|refine xb_miss (by decide) ?_|(apply W_reg;(simp [c4, hk0, hkl, c5];exact .r _))|(apply W_draw (id := 6) [0,0,0,0,1,19,55,127] rfl rfl; (· simp; exact .r _); (· simp [c4, hk0, hkl, c5]; exact .r _); (· first|trivial|simp))
          exact EndsQ.mk (v := .tup [.agg [.t .nl], .agg [.t .nl, .ref 4 q.body.length []], .ref 5 db.length [], .agg [In db[k.toNat].rel, .ref 10 db[k.toNat].args.length []]]) (x := .tup [.agg [.t .nl false], .agg [.t .nl false, .own 2 (rowsE q.body)], .own 2 (rowsE db), xvF db[k.toNat]]) (by simp) (by simp) ⟨ar, q, db, db[k.toNat], _, _, _, har, hq, hdb, hda, (by rw [hr0]; rfl), .inr ⟨rfl, hqn⟩, rfl⟩
        · simp at hc2
      · repeat' first|refine nx ?_|refine xb_miss (by decide) ?_|(apply W_reg;(simp [c0, c1, c2, c3, hl];exact .r _))
        refine W_cond (by simp; exact .r _) (fun hc2 => ?_) (fun hc2 => ?_)
        · simp at hc2
        repeat' first|refine nx ?_|refine xb_miss (by decide) ?_|(apply W_reg;(simp;exact .r _))|(apply W_draw (id := 6) [0,0,0,0,1,19,55,127] rfl rfl; (· simp; exact .r _); (· simp; exact .r _); (· first|trivial|simp))
        exact EndsQ.mk (v := .tup [.agg [.t .nl], .agg [.t .nl, .ref 4 q.body.length []], .ref 5 db.length [], .agg [In a.rel, .ref 8 a.args.length []]]) (x := .tup [.agg [.t .nl false], .agg [.t .nl false, .own 2 (rowsE q.body)], .own 2 (rowsE db), xvF a]) (by simp) (by simp) ⟨ar, q, db, a, _, _, _, har, hq, hdb, ha, (by rw [hr0]; rfl), .inr ⟨rfl, hqn⟩, rfl⟩
    · repeat' first|refine nx ?_|refine xb_miss (by decide) ?_|(apply W_reg;(simp [c0, c1, c2, hl];exact .r _))
      refine W_cond (by simp; exact .r _) (fun hc2 => ?_) (fun hc2 => ?_)
      · simp at hc2
      repeat' first|refine nx ?_|refine xb_miss (by decide) ?_|(apply W_reg;(simp;exact .r _))|(apply W_draw (id := 6) [0,0,0,0,1,19,55,127] rfl rfl; (· simp; exact .r _); (· simp; exact .r _); (· first|trivial|simp))
      exact EndsQ.mk (v := .tup [.agg [.t .nl], .agg [.t .nl, .ref 4 q.body.length []], .ref 5 db.length [], .agg [In a.rel, .ref 8 a.args.length []]]) (x := .tup [.agg [.t .nl false], .agg [.t .nl false, .own 2 (rowsE q.body)], .own 2 (rowsE db), xvF a]) (by simp) (by simp) ⟨ar, q, db, a, _, _, _, har, hq, hdb, ha, (by rw [hr0]; rfl), .inr ⟨rfl, hqn⟩, rfl⟩
end Go.Proofs.YtpdpgfagklhpaaaGreat.V

namespace Go.Proofs.YtpdpgfagklhpaaaGreat.V
open Go Go.Proofs
set_option linter.unusedVariables false
set_option linter.unusedSimpArgs false
def posOk (t v : Int) : Bool := isVar t || (isTerm t && decide (constOf t = v))
def pos (xs ys : List Int) (k : Nat) : Prop := posOk xs[k]! ys[k]! = true ∧ ∀ j, j < k → xs[j]! = xs[k]! → ys[j]! = ys[k]!
instance (xs ys : List Int) (k : Nat) : Decidable (pos xs ys k) := by unfold pos; infer_instance
def fitA (a f : RA) : Bool := decide (a.rel = f.rel) && decide (a.args.length = f.args.length) && decide (∀ k, k < a.args.length → pos a.args f.args k)
theorem fitA_no {a f : RA} {k : Nat} (h : k < a.args.length) (hn : ¬ pos a.args f.args k) : fitA a f = false := by
  unfold fitA
  rw [Bool.and_eq_false_iff]
  exact .inr (decide_eq_false fun hh => hn (hh k h))
theorem fitA_yes {a f : RA} (h1 : a.rel = f.rel) (h2 : a.args.length = f.args.length) (h : ∀ k, k < a.args.length → pos a.args f.args k) : fitA a f = true := by
  unfold fitA
  rw [decide_eq_true h1, decide_eq_true h2, decide_eq_true h]; rfl
theorem below_succ {p : Nat → Prop} {i : Nat} (h : ∀ k, k < i → p k) (hi : p i) : ∀ k, k < i + 1 → p k := fun k hk => by
  by_cases e : k = i
  · rw [e]; exact hi
  · exact h k (by omega)
theorem canBe_r (a f : RA) (ha : Sm a.args) (hf : Sm f.args) : Ret XX 17 [Ag a, Ag f] (.t (.b (fitA a f)) false) := by
  refine ret_W rfl Tryz.func17 rfl rfl (by simp [Tryz.f17]) ?_
  simp only [Tryz.f17]
  by_cases e1 : a.rel = f.rel
  case neg =>
    repeat' first|refine nx ?_|refine xb_miss (by decide) ?_|(apply W_reg;(simp [Ag, e1];exact .r _))
    refine W_cond (by simp; exact .r _) (fun hc => ?_) (fun hc => ?_)
    · repeat' first|refine nx ?_|refine xb_miss (by decide) ?_|(apply W_reg;(simp;exact .r _))
      simp [fitA, e1]
    · simp at hc
  by_cases e2 : a.args.length = f.args.length
  case neg =>
    repeat' first|refine nx ?_|refine xb_miss (by decide) ?_|(apply W_reg;(simp [Ag, e1, e2];exact .r _))
    refine W_cond (by simp; exact .r _) (fun hc => ?_) (fun hc => ?_)
    · repeat' first|refine nx ?_|refine xb_miss (by decide) ?_|(apply W_reg;(simp;exact .r _))
      simp [fitA, e2]
    · simp at hc; omega
  have hl : a.args.length < 1099511627775 := ha
  repeat' first|refine nx ?_|refine xb_miss (by decide) ?_|(apply W_reg;(simp [Ag, e1, e2];exact .r _))
  refine W_cond (by simp; exact .r _) (fun hc => ?_) (fun hc => ?_)
  · simp at hc
  repeat' first|refine nx ?_|refine xb_miss (by decide) ?_|(apply W_reg;(simp;exact .r _))
  refine W_loop (n := a.args.length) (fun n s => ∃ i : Nat, n = a.args.length - i ∧ s.nt = 77 ∧ s.tm 2 = .ptr 0 0 ∧ s.tm 3 = .ptr 1 0 ∧ s.tm 24 = Ar a.args ∧ s.tm 25 = In a.args.length ∧ s.tm 26 = In i ∧ i ≤ a.args.length ∧ s.σ.ob 0 = .box [In a.rel, Ar a.args] ∧ s.σ.ob 1 = .box [In f.rel, Ar f.args] ∧ 2 ≤ s.σ.n ∧ (∀ k, k < i → pos a.args f.args k)) ⟨0, by simp [e1, e2]⟩ ?_
  rintro n ⟨nt, tm, σ⟩ ⟨i, rfl, hnt, h2, h3, h24, h25, h26, hi, hb0, hb1, hn, hp⟩
  simp only at hnt h2 h3 h24 h25 h26 hb0 hb1 hn
  subst hnt
  have ap1_ := apart hn
  repeat' first|refine nx ?_|refine xb_miss (by decide) ?_|(apply W_reg;(simp [h2, h3, h24, h25, h26, hb0, hb1, hn, ap1_];exact .r _))
  refine W_cond (by simp [h2, h3, h24, h25, h26, hb0, hb1, hn, ap1_]; exact .r _) (fun hc => ?_) (fun hc => ?_)
  · have hil : i < a.args.length := by simpa using hc
    have hif : i < f.args.length := by omega
    have q1 := getElem!_pos a.args i hil
    have q2 := getElem!_pos f.args i hif
    have d1 := cv (implIsVar_r a.args[i])
    have d2 := cv (implConstOf_r a.args[i])
    have ht := isTerm_or a.args[i]
    have hpe : posOk a.args[i]! f.args[i]! = (isVar a.args[i] || (isTerm a.args[i] && decide (constOf a.args[i] = f.args[i]))) := by rw [q1, q2]; rfl
    by_cases hpo : posOk a.args[i]! f.args[i]! = true
    case neg =>
      have hno := fitA_no (f := f) hil fun h => hpo h.1
      rw [hpe] at hpo
      have g1 : isVar a.args[i] = false := by cases h : isVar a.args[i] <;> simp_all
      rw [g1, Bool.false_or] at hpo ht
      by_cases g2 : constOf a.args[i] < 0
      · repeat' first|refine nx ?_|refine xb_miss (by decide) ?_|(apply W_reg;(simp [h2, h3, h24, h25, h26, hb0, hb1, hn, ap1_, hil, hif, d1, g1, d2, g2];exact .r _))|(apply W_draw (id := 6) [0,1,3,7,15,31,63,127,255,511,255,1279,255,7423,15615,32767,65535,131071] rfl rfl; (· simp; exact .r _); (· simp [h2, h3, h24, h25, h26, hb0, hb1, hn, ap1_, hil, hif, d1, g1, d2, g2]; exact .r _); (· first|trivial|simp))
        refine W_cond (by simp [h2, h3, h24, h25, h26, hb0, hb1, hn, ap1_]; exact .r _) (fun hd => ?_) (fun hd => ?_)
        · repeat' first|refine nx ?_|refine xb_miss (by decide) ?_|(apply W_reg;(simp [h2, h3, h24, h25, h26, hb0, hb1, hn, ap1_];exact .r _))
          simp [hno]
        · simp at hd
      · have g3 : ¬ constOf a.args[i] = f.args[i] := fun e => hpo (by rw [ht, decide_eq_true e, decide_eq_true (by omega)]; rfl)
        repeat' first|refine nx ?_|refine xb_miss (by decide) ?_|(apply W_reg;(simp [h2, h3, h24, h25, h26, hb0, hb1, hn, ap1_, hil, hif, d1, g1, d2, g2, g3];exact .r _))|(apply W_draw (id := 6) [0,1,3,7,15,31,63,127,255,511,255,1279,255,7423,15615,32767,65535,131071] rfl rfl; (· simp; exact .r _); (· simp [h2, h3, h24, h25, h26, hb0, hb1, hn, ap1_, hil, hif, d1, g1, d2, g2, g3]; exact .r _); (· first|trivial|simp))
        refine W_cond (by simp [h2, h3, h24, h25, h26, hb0, hb1, hn, ap1_]; exact .r _) (fun hd => ?_) (fun hd => ?_)
        · repeat' first|refine nx ?_|refine xb_miss (by decide) ?_|(apply W_reg;(simp [h2, h3, h24, h25, h26, hb0, hb1, hn, ap1_];exact .r _))
          simp [hno]
        · simp at hd
    have hpo2 := hpo
    rw [hpe] at hpo2
    have hg : (isVar a.args[i] = true ∧ True ∧ True) ∨ (isVar a.args[i] = false ∧ constOf a.args[i] = f.args[i] ∧ ¬ f.args[i] < 0) := by
      cases g1 : isVar a.args[i]
      · rw [g1, Bool.false_or, Bool.and_eq_true, decide_eq_true_eq] at hpo2
        rw [g1, Bool.false_or, hpo2.1] at ht
        have := of_decide_eq_true ht.symm
        exact .inr ⟨rfl, hpo2.2, by rw [← hpo2.2]; omega⟩
      · exact .inl ⟨rfl, trivial, trivial⟩
    rcases hg with ⟨g1, g2, g3⟩ | ⟨g1, g2, g3⟩
    all_goals
      repeat' first|refine nx ?_|refine xb_miss (by decide) ?_|(apply W_reg;(simp [h2, h3, h24, h25, h26, hb0, hb1, hn, ap1_, hil, hif, d1, g1, d2, g2, g3];exact .r _))|(apply W_draw (id := 6) [0,1,3,7,15,31,63,127,255,511,255,1279,255,7423,15615,32767,65535,131071] rfl rfl; (· simp; exact .r _); (· simp [h2, h3, h24, h25, h26, hb0, hb1, hn, ap1_, hil, hif, d1, g1, d2, g2, g3]; exact .r _); (· first|trivial|simp))
      refine W_cond (by simp [h2, h3, h24, h25, h26, hb0, hb1, hn, ap1_]; exact .r _) (fun hd => ?_) (fun hd => ?_)
      · simp at hd
      repeat' first|refine nx ?_|refine xb_miss (by decide) ?_|(apply W_reg;(simp [h2, h3, h24, h25, h26, hb0, hb1, hn, ap1_, hi, show min i a.args.length = i by omega];exact .r _))
      refine W_loop (n := i) (fun n s => ∃ j : Nat, n = i - j ∧ s.nt = 77 ∧ s.tm 2 = .ptr 0 0 ∧ s.tm 3 = .ptr 1 0 ∧ s.tm 5 = In i ∧ s.tm 6 = In a.args[i] ∧ s.tm 24 = Ar a.args ∧ s.tm 25 = In a.args.length ∧ s.tm 26 = In i ∧ s.tm 52 = Ar (a.args.take i) ∧ s.tm 53 = In i ∧ s.tm 54 = In j ∧ j ≤ i ∧ s.σ.ob 0 = .box [In a.rel, Ar a.args] ∧ s.σ.ob 1 = .box [In f.rel, Ar f.args] ∧ 2 ≤ s.σ.n ∧ (∀ k, k < j → a.args[k]! = a.args[i]! → f.args[k]! = f.args[i]!)) ⟨0, by simp [h2, h3, h24, h25, h26, hb0, hb1, hn, ap1_, show (rowsE a.args).take i = rowsE (a.args.take i) from (List.map_take ..).symm]⟩ ?_
      rintro n ⟨nt, tm, σ⟩ ⟨j, rfl, hnt, h2, h3, h5, h6, h24, h25, h26, h52, h53, h54, hj, hb0, hb1, hn, hq⟩
      simp only at hnt h2 h3 h5 h6 h24 h25 h26 h52 h53 h54 hb0 hb1 hn
      subst hnt
      have ap2_ := apart hn
      repeat' first|refine nx ?_|refine xb_miss (by decide) ?_|(apply W_reg;(simp [h2, h3, h5, h6, h24, h25, h26, h52, h53, h54, hb0, hb1, hn, ap2_];exact .r _))
      refine W_cond (by simp [h2, h3, h5, h6, h24, h25, h26, h52, h53, h54, hb0, hb1, hn, ap2_]; exact .r _) (fun hd => ?_) (fun hd => ?_)
      · have hjl : j < i := by simpa using hd
        have hja : j < a.args.length := by omega
        have hjf : j < f.args.length := by omega
        have q3 := getElem!_pos a.args j hja
        have q4 := getElem!_pos f.args j hjf
        by_cases r1 : a.args[i] = a.args[j]
        · by_cases r2 : f.args[i] = f.args[j]
          · repeat' first|refine nx ?_|refine xb_miss (by decide) ?_|(apply W_reg;(simp [h2, h3, h5, h6, h24, h25, h26, h52, h53, h54, hb0, hb1, hn, ap2_, show min i a.args.length = i by omega, hjl, hja, hjf, hif, hil, r1, r2];exact .r _))|(apply W_draw (id := 11) [0,0,3,7,15,31,15,127,255,15,527,15,3599,7695,16383,32767] rfl rfl; (· simp; exact .r _); (· simp [h2, h3, h5, h6, h24, h25, h26, h52, h53, h54, hb0, hb1, hn, ap2_, show min i a.args.length = i by omega, hjl, hja, hjf, hif, hil, r1, r2]; exact .r _); (· first|trivial|simp))
            refine W_cond (by simp [h2, h3, h5, h6, h24, h25, h26, h52, h53, h54, hb0, hb1, hn, ap2_]; exact .r _) (fun hdd => ?_) (fun hdd => ?_)
            · simp at hdd
            repeat' first|refine nx ?_|refine xb_miss (by decide) ?_|(apply W_reg;(simp [h2, h3, h5, h6, h24, h25, h26, h52, h53, h54, hb0, hb1, hn, ap2_];exact .r _))
            refine ⟨_, ?_, j + 1, rfl, rfl, ?_, ?_, ?_, ?_, ?_, ?_, ?_, ?_, ?_, ?_, by omega, ?_, ?_, ?_, below_succ hq fun _ => (by rw [q2, q4]; exact r2.symm)⟩
            all_goals first|assumption|(simp [h2, h3, h5, h6, h24, h25, h26, h52, h53, h54, hb0, hb1, hn, ap2_];done)|(simp [h2, h3, h5, h6, h24, h25, h26, h52, h53, h54, hb0, hb1, hn, ap2_];omega)|(simp [h2, h3, h5, h6, h24, h25, h26, h52, h53, h54, hb0, hb1, hn, ap2_];exact wrap_succ (by omega))|omega
          · have hno := fitA_no (f := f) hil fun h => r2 (by rw [← q4, ← q2]; exact (h.2 j hjl (by rw [q1, q3]; exact r1.symm)).symm)
            repeat' first|refine nx ?_|refine xb_miss (by decide) ?_|(apply W_reg;(simp [h2, h3, h5, h6, h24, h25, h26, h52, h53, h54, hb0, hb1, hn, ap2_, show min i a.args.length = i by omega, hjl, hja, hjf, hif, hil, r1, r2];exact .r _))|(apply W_draw (id := 11) [0,0,3,7,15,31,15,127,255,15,527,15,3599,7695,16383,32767] rfl rfl; (· simp; exact .r _); (· simp [h2, h3, h5, h6, h24, h25, h26, h52, h53, h54, hb0, hb1, hn, ap2_, show min i a.args.length = i by omega, hjl, hja, hjf, hif, hil, r1, r2]; exact .r _); (· first|trivial|simp))
            refine W_cond (by simp [h2, h3, h5, h6, h24, h25, h26, h52, h53, h54, hb0, hb1, hn, ap2_]; exact .r _) (fun hdd => ?_) (fun hdd => ?_)
            · repeat' first|refine nx ?_|refine xb_miss (by decide) ?_|(apply W_reg;(simp [h2, h3, h5, h6, h24, h25, h26, h52, h53, h54, hb0, hb1, hn, ap2_];exact .r _))
              simp [hno]
            · simp at hdd
        · repeat' first|refine nx ?_|refine xb_miss (by decide) ?_|(apply W_reg;(simp [h2, h3, h5, h6, h24, h25, h26, h52, h53, h54, hb0, hb1, hn, ap2_, show min i a.args.length = i by omega, hjl, hja, hjf, hif, hil, r1];exact .r _))|(apply W_draw (id := 11) [0,0,3,7,15,31,15,127,255,15,527,15,3599,7695,16383,32767] rfl rfl; (· simp; exact .r _); (· simp [h2, h3, h5, h6, h24, h25, h26, h52, h53, h54, hb0, hb1, hn, ap2_, show min i a.args.length = i by omega, hjl, hja, hjf, hif, hil, r1]; exact .r _); (· first|trivial|simp))
          refine W_cond (by simp [h2, h3, h5, h6, h24, h25, h26, h52, h53, h54, hb0, hb1, hn, ap2_]; exact .r _) (fun hdd => ?_) (fun hdd => ?_)
          · simp at hdd
          repeat' first|refine nx ?_|refine xb_miss (by decide) ?_|(apply W_reg;(simp [h2, h3, h5, h6, h24, h25, h26, h52, h53, h54, hb0, hb1, hn, ap2_];exact .r _))
          refine ⟨_, ?_, j + 1, rfl, rfl, ?_, ?_, ?_, ?_, ?_, ?_, ?_, ?_, ?_, ?_, by omega, ?_, ?_, ?_, below_succ hq fun h => absurd (by rw [← q1, ← q3]; exact h.symm) r1⟩
          all_goals first|assumption|(simp [h2, h3, h5, h6, h24, h25, h26, h52, h53, h54, hb0, hb1, hn, ap2_];done)|(simp [h2, h3, h5, h6, h24, h25, h26, h52, h53, h54, hb0, hb1, hn, ap2_];omega)|(simp [h2, h3, h5, h6, h24, h25, h26, h52, h53, h54, hb0, hb1, hn, ap2_];exact wrap_succ (by omega))|omega
      · have hjl : j = i := by simp at hd; omega
        subst hjl
        repeat' first|refine nx ?_|refine xb_miss (by decide) ?_|(apply W_reg;(simp [h2, h3, h5, h6, h24, h25, h26, h52, h53, h54, hb0, hb1, hn, ap2_];exact .r _))
        refine ⟨_, ?_, j + 1, rfl, rfl, ?_, ?_, ?_, ?_, ?_, by omega, ?_, ?_, ?_, below_succ hp ⟨hpo, hq⟩⟩
        all_goals first|assumption|(simp [h2, h3, h5, h6, h24, h25, h26, h52, h53, h54, hb0, hb1, hn, ap2_];done)|(simp [h2, h3, h5, h6, h24, h25, h26, h52, h53, h54, hb0, hb1, hn, ap2_];omega)|(simp [h2, h3, h5, h6, h24, h25, h26, h52, h53, h54, hb0, hb1, hn, ap2_];exact wrap_succ (by omega))|omega
  · have hil : i = a.args.length := by simp at hc; omega
    subst hil
    repeat' first|refine nx ?_|refine xb_miss (by decide) ?_|(apply W_reg;(simp [h2, h3, h24, h25, h26, hb0, hb1, hn];exact .r _))
    simp [fitA_yes e1 e2 hp]
theorem l19Fits_r (a f : RA) (ha : Sm a.args) (hf : Sm f.args) : Ret XX 18 [Ag a, Ag f] (.t (.b (fitA a f)) false) := by
  refine ret_W rfl Tryz.func18 rfl rfl (by simp [Tryz.f18]) ?_
  simp only [Tryz.f18]
  by_cases e1 : a.rel = f.rel
  case neg =>
    repeat' first|refine nx ?_|refine xb_miss (by decide) ?_|(apply W_reg;(simp [Ag, e1];exact .r _))
    refine W_cond (by simp; exact .r _) (fun hc => ?_) (fun hc => ?_)
    · repeat' first|refine nx ?_|refine xb_miss (by decide) ?_|(apply W_reg;(simp;exact .r _))
      simp [fitA, e1]
    · simp at hc
  by_cases e2 : a.args.length = f.args.length
  case neg =>
    repeat' first|refine nx ?_|refine xb_miss (by decide) ?_|(apply W_reg;(simp [Ag, e1, e2];exact .r _))
    refine W_cond (by simp; exact .r _) (fun hc => ?_) (fun hc => ?_)
    · repeat' first|refine nx ?_|refine xb_miss (by decide) ?_|(apply W_reg;(simp;exact .r _))
      simp [fitA, e1, e2]
    · simp at hc; omega
  have hl : a.args.length < 1099511627775 := ha
  repeat' first|refine nx ?_|refine xb_miss (by decide) ?_|(apply W_reg;(simp [Ag, e1, e2];exact .r _))
  refine W_cond (by simp; exact .r _) (fun hc => ?_) (fun hc => ?_)
  · simp at hc
  repeat' first|refine nx ?_|refine xb_miss (by decide) ?_|(apply W_reg;(simp;exact .r _))
  refine W_loop (n := a.args.length) (fun n s => ∃ i : Nat, n = a.args.length - i ∧ s.nt = 87 ∧ s.tm 2 = .ptr 0 0 ∧ s.tm 3 = .ptr 1 0 ∧ s.tm 5 = In i ∧ i ≤ a.args.length ∧ s.σ.ob 0 = .box [In a.rel, Ar a.args] ∧ s.σ.ob 1 = .box [In f.rel, Ar f.args] ∧ 2 ≤ s.σ.n ∧ (∀ k, k < i → pos a.args f.args k)) ⟨0, by simp [e1, e2]⟩ ?_
  rintro n ⟨nt, tm, σ⟩ ⟨i, rfl, hnt, h2, h3, h5, hi, hb0, hb1, hn, hp⟩
  simp only at hnt h2 h3 h5 hb0 hb1 hn
  subst hnt
  have ap3_ := apart hn
  repeat' first|refine nx ?_|refine xb_miss (by decide) ?_|(apply W_reg;(simp [h2, h3, h5, hb0, hb1, hn, ap3_];exact .r _))
  refine W_cond (by simp [h2, h3, h5, hb0, hb1, hn, ap3_]; exact .r _) (fun hc => ?_) (fun hc => ?_)
  · have hil : i < a.args.length := by simpa using hc
    have hif : i < f.args.length := by omega
    have q1 := getElem!_pos a.args i hil
    have q2 := getElem!_pos f.args i hif
    have d1 := cv (specIsVar_r a.args[i])
    have d2 := cv (specIsTerm_r a.args[i])
    have ht := isTerm_or a.args[i]
    have hco := constOf_eq a.args[i]
    have hpe : posOk a.args[i]! f.args[i]! = (isVar a.args[i] || (isTerm a.args[i] && decide (constOf a.args[i] = f.args[i]))) := by rw [q1, q2]; rfl
    by_cases hpo : posOk a.args[i]! f.args[i]! = true
    case neg =>
      have hno := fitA_no (f := f) hil fun h => hpo h.1
      rw [hpe] at hpo
      have g1 : isVar a.args[i] = false := by cases h : isVar a.args[i] <;> simp_all
      rw [g1, Bool.false_or] at hpo ht
      cases g2 : isTerm a.args[i]
      · repeat' first|refine nx ?_|refine xb_miss (by decide) ?_|(apply W_reg;(simp [h2, h3, h5, hb0, hb1, hn, ap3_, hil, hif, d1, g1, d2, g2];exact .r _))|(apply W_draw (id := 6) [0,1,0,7,15,31,63,127,255,511,255,2047,4095,8191,16383,32767,65535,131071,65535,524287,1048575,2097151,65535,4259839,65535,29425663,62980095,134217727,268435455,536870911] rfl rfl; (· simp; exact .r _); (· simp [h2, h3, h5, hb0, hb1, hn, ap3_, hil, hif, d1, g1, d2, g2]; exact .r _); (· first|trivial|simp))
        refine W_cond (by simp [h2, h3, h5, hb0, hb1, hn, ap3_]; exact .r _) (fun hd => ?_) (fun hd => ?_)
        · repeat' first|refine nx ?_|refine xb_miss (by decide) ?_|(apply W_reg;(simp [h2, h3, h5, hb0, hb1, hn, ap3_];exact .r _))
          simp [hno]
        · simp at hd
      · have g3 : ¬ constOf a.args[i] = f.args[i] := fun e => hpo (by rw [g2, decide_eq_true e]; rfl)
        rw [g2] at ht
        have h0 := of_decide_eq_true ht.symm
        have hin : inR a.args[i] (-80) (-1) = true := by cases h : inR a.args[i] (-80) (-1); (rw [h] at hco; simp at hco; omega); rfl
        rw [hin, if_pos rfl] at hco
        have hb := hin
        simp only [inR, decide_eq_true_eq, Bool.and_eq_true] at hb
        rw [hco] at g3
        have wr4_ : IntKind.i64.wrap (-1 - a.args[i]) = -1 - a.args[i] := wrap_ok (by omega) (by omega)
        repeat' first|refine nx ?_|refine xb_miss (by decide) ?_|(apply W_reg;(simp [h2, h3, h5, hb0, hb1, hn, ap3_, wr4_, hil, hif, d1, g1, d2, g2, g3];exact .r _))|(apply W_draw (id := 6) [0,1,0,7,15,31,63,127,255,511,255,2047,4095,8191,16383,32767,65535,131071,65535,524287,1048575,2097151,65535,4259839,65535,29425663,62980095,134217727,268435455,536870911] rfl rfl; (· simp; exact .r _); (· simp [h2, h3, h5, hb0, hb1, hn, ap3_, wr4_, hil, hif, d1, g1, d2, g2, g3]; exact .r _); (· first|trivial|simp))
        refine W_cond (by simp [h2, h3, h5, hb0, hb1, hn, ap3_, wr4_]; exact .r _) (fun hd => ?_) (fun hd => ?_)
        · repeat' first|refine nx ?_|refine xb_miss (by decide) ?_|(apply W_reg;(simp [h2, h3, h5, hb0, hb1, hn, ap3_, wr4_];exact .r _))
          simp [hno]
        · simp at hd
    have hpo2 := hpo
    rw [hpe] at hpo2
    have hg : (isVar a.args[i] = true ∧ True ∧ True ∧ True ∧ True) ∨ (isVar a.args[i] = false ∧ isTerm a.args[i] = true ∧ -1 - a.args[i] = f.args[i] ∧ -80 ≤ a.args[i] ∧ a.args[i] ≤ -1) := by
      cases g1 : isVar a.args[i]
      · rw [g1, Bool.false_or, Bool.and_eq_true, decide_eq_true_eq] at hpo2
        rw [g1, Bool.false_or, hpo2.1] at ht
        have h0 := of_decide_eq_true ht.symm
        have hin : inR a.args[i] (-80) (-1) = true := by cases h : inR a.args[i] (-80) (-1); (rw [h] at hco; simp at hco; omega); rfl
        rw [hin, if_pos rfl] at hco
        simp only [inR, decide_eq_true_eq, Bool.and_eq_true] at hin
        exact .inr ⟨rfl, hpo2.1, by rw [← hco]; exact hpo2.2, hin⟩
      · exact .inl ⟨rfl, trivial, trivial, trivial, trivial⟩
    rcases hg with ⟨g1, g2, g3, g4, g5⟩ | ⟨g1, g2, g3, g4, g5⟩
    all_goals
      have hw : isVar a.args[i] = true ∨ IntKind.i64.wrap (-1 - a.args[i]) = -1 - a.args[i] := by first | exact .inl g1 | exact .inr (wrap_ok (by omega) (by omega))
      rw [g1] at hw
      try rw [or_iff_right (by decide)] at hw
      try rw [g3] at hw
      repeat' first|refine nx ?_|refine xb_miss (by decide) ?_|(apply W_reg;(simp [h2, h3, h5, hb0, hb1, hn, ap3_, hil, hif, d1, g1, d2, g2, hw, g3];exact .r _))|(apply W_draw (id := 6) [0,1,0,7,15,31,63,127,255,511,255,2047,4095,8191,16383,32767,65535,131071,65535,524287,1048575,2097151,65535,4259839,65535,29425663,62980095,134217727,268435455,536870911] rfl rfl; (· simp; exact .r _); (· simp [h2, h3, h5, hb0, hb1, hn, ap3_, hil, hif, d1, g1, d2, g2, hw, g3]; exact .r _); (· first|trivial|simp))
      refine W_cond (by simp [h2, h3, h5, hb0, hb1, hn, ap3_]; exact .r _) (fun hd => ?_) (fun hd => ?_)
      · simp at hd
      repeat' first|refine nx ?_|refine xb_miss (by decide) ?_|(apply W_reg;(simp [h2, h3, h5, hb0, hb1, hn, ap3_];exact .r _))
      refine W_loop (n := i) (fun n s => ∃ j : Nat, n = i - j ∧ s.nt = 87 ∧ s.tm 2 = .ptr 0 0 ∧ s.tm 3 = .ptr 1 0 ∧ s.tm 5 = In i ∧ s.tm 6 = In j ∧ j ≤ i ∧ s.σ.ob 0 = .box [In a.rel, Ar a.args] ∧ s.σ.ob 1 = .box [In f.rel, Ar f.args] ∧ 2 ≤ s.σ.n ∧ (∀ k, k < j → a.args[k]! = a.args[i]! → f.args[k]! = f.args[i]!)) ⟨0, by simp [h2, h3, h5, hb0, hb1, hn, ap3_]⟩ ?_
      rintro n ⟨nt, tm, σ⟩ ⟨j, rfl, hnt, h2, h3, h5, h6, hj, hb0, hb1, hn, hq⟩
      simp only at hnt h2 h3 h5 h6 hb0 hb1 hn
      subst hnt
      have ap5_ := apart hn
      repeat' first|refine nx ?_|refine xb_miss (by decide) ?_|(apply W_reg;(simp [h2, h3, h5, h6, hb0, hb1, hn, ap5_];exact .r _))
      refine W_cond (by simp [h2, h3, h5, h6, hb0, hb1, hn, ap5_]; exact .r _) (fun hd => ?_) (fun hd => ?_)
      · have hjl : j < i := by simpa using hd
        have hja : j < a.args.length := by omega
        have hjf : j < f.args.length := by omega
        have q3 := getElem!_pos a.args j hja
        have q4 := getElem!_pos f.args j hjf
        by_cases r1 : a.args[j] = a.args[i]
        · by_cases r2 : f.args[j] = f.args[i]
          · repeat' first|refine nx ?_|refine xb_miss (by decide) ?_|(apply W_reg;(simp [h2, h3, h5, h6, hb0, hb1, hn, ap5_, hja, hjf, hif, hil, r1, r2];exact .r _))|(apply W_draw (id := 11) [0,1,0,7,15,0,32,0,224,480,1023,2047,4095,8191,4095,32767,65535,4095,135167,4095,921599,1970175,4194303,8388607] rfl rfl; (· simp; exact .r _); (· simp [h2, h3, h5, h6, hb0, hb1, hn, ap5_, hja, hjf, hif, hil, r1, r2]; exact .r _); (· first|trivial|simp))
            refine W_cond (by simp [h2, h3, h5, h6, hb0, hb1, hn, ap5_]; exact .r _) (fun hdd => ?_) (fun hdd => ?_)
            · simp at hdd
            repeat' first|refine nx ?_|refine xb_miss (by decide) ?_|(apply W_reg;(simp [h2, h3, h5, h6, hb0, hb1, hn, ap5_];exact .r _))
            refine ⟨_, ?_, j + 1, rfl, rfl, ?_, ?_, ?_, ?_, by omega, ?_, ?_, ?_, below_succ hq fun _ => (by rw [q2, q4]; exact r2)⟩
            all_goals first|assumption|(simp [h2, h3, h5, h6, hb0, hb1, hn, ap5_];done)|(simp [h2, h3, h5, h6, hb0, hb1, hn, ap5_];omega)|(simp [h2, h3, h5, h6, hb0, hb1, hn, ap5_];exact wrap_succ (by omega))|omega
          · have hno := fitA_no (f := f) hil fun h => r2 (by rw [← q4, ← q2]; exact h.2 j hjl (by rw [q1, q3]; exact r1))
            repeat' first|refine nx ?_|refine xb_miss (by decide) ?_|(apply W_reg;(simp [h2, h3, h5, h6, hb0, hb1, hn, ap5_, hja, hjf, hif, hil, r1, r2];exact .r _))|(apply W_draw (id := 11) [0,1,0,7,15,0,32,0,224,480,1023,2047,4095,8191,4095,32767,65535,4095,135167,4095,921599,1970175,4194303,8388607] rfl rfl; (· simp; exact .r _); (· simp [h2, h3, h5, h6, hb0, hb1, hn, ap5_, hja, hjf, hif, hil, r1, r2]; exact .r _); (· first|trivial|simp))
            refine W_cond (by simp [h2, h3, h5, h6, hb0, hb1, hn, ap5_]; exact .r _) (fun hdd => ?_) (fun hdd => ?_)
            · repeat' first|refine nx ?_|refine xb_miss (by decide) ?_|(apply W_reg;(simp [h2, h3, h5, h6, hb0, hb1, hn, ap5_];exact .r _))
              simp [hno]
            · simp at hdd
        · repeat' first|refine nx ?_|refine xb_miss (by decide) ?_|(apply W_reg;(simp [h2, h3, h5, h6, hb0, hb1, hn, ap5_, hja, hjf, hif, hil, r1];exact .r _))|(apply W_draw (id := 11) [0,1,0,7,15,0,32,0,224,480,1023,2047,4095,8191,4095,32767,65535,4095,135167,4095,921599,1970175,4194303,8388607] rfl rfl; (· simp; exact .r _); (· simp [h2, h3, h5, h6, hb0, hb1, hn, ap5_, hja, hjf, hif, hil, r1]; exact .r _); (· first|trivial|simp))
          refine W_cond (by simp [h2, h3, h5, h6, hb0, hb1, hn, ap5_]; exact .r _) (fun hdd => ?_) (fun hdd => ?_)
          · simp at hdd
          repeat' first|refine nx ?_|refine xb_miss (by decide) ?_|(apply W_reg;(simp [h2, h3, h5, h6, hb0, hb1, hn, ap5_];exact .r _))
          refine ⟨_, ?_, j + 1, rfl, rfl, ?_, ?_, ?_, ?_, by omega, ?_, ?_, ?_, below_succ hq fun h => absurd (by rw [← q1, ← q3]; exact h) r1⟩
          all_goals first|assumption|(simp [h2, h3, h5, h6, hb0, hb1, hn, ap5_];done)|(simp [h2, h3, h5, h6, hb0, hb1, hn, ap5_];omega)|(simp [h2, h3, h5, h6, hb0, hb1, hn, ap5_];exact wrap_succ (by omega))|omega
      · have hjl : j = i := by simp at hd; omega
        subst hjl
        repeat' first|refine nx ?_|refine xb_miss (by decide) ?_|(apply W_reg;(simp [h2, h3, h5, h6, hb0, hb1, hn, ap5_];exact .r _))
        refine ⟨_, ?_, j + 1, rfl, rfl, ?_, ?_, ?_, by omega, ?_, ?_, ?_, below_succ hp ⟨hpo, hq⟩⟩
        all_goals first|assumption|(simp [h2, h3, h5, h6, hb0, hb1, hn, ap5_];done)|(simp [h2, h3, h5, h6, hb0, hb1, hn, ap5_];omega)|(simp [h2, h3, h5, h6, hb0, hb1, hn, ap5_];exact wrap_succ (by omega))|omega
  · have hil : i = a.args.length := by simp at hc; omega
    subst hil
    repeat' first|refine nx ?_|refine xb_miss (by decide) ?_|(apply W_reg;(simp [h2, h3, h5, hb0, hb1, hn];exact .r _))
    simp [fitA_yes e1 e2 hp]
def mayA (q : Qry) (f : RA) : Bool := q.body.any fun a => fitA a f
theorem implMay_r (q : Qry) (f : RA) (h : SmQ q) (hf : Sm f.args) : Ret XX 6 [Ag q, Ag f] (.t (.b (mayA q f)) false) := by
  refine ret_W rfl Tryz.func6 rfl rfl (by simp [Tryz.f6]) ?_
  simp only [Tryz.f6]
  have hl : q.body.length < 1099511627775 := h.2.1
  repeat' first|refine nx ?_|refine xb_miss (by decide) ?_|(apply W_reg;(simp [Ag];exact .r _))
  refine W_loop (n := q.body.length) (fun n s => ∃ i : Nat, n = q.body.length - i ∧ s.nt = 18 ∧ s.tm 3 = .ptr 1 0 ∧ s.tm 8 = Ar q.body ∧ s.tm 9 = In q.body.length ∧ s.tm 10 = In i ∧ i ≤ q.body.length ∧ s.σ.ob 1 = .box [In f.rel, Ar f.args] ∧ 2 ≤ s.σ.n ∧ mayA q f = (q.body.drop i).any fun a => fitA a f) ⟨0, by simp [mayA]⟩ ?_
  rintro n ⟨nt, tm, σ⟩ ⟨i, rfl, hnt, h3, h8, h9, h10, hi, hb1, hn, heq⟩
  simp only at hnt h3 h8 h9 h10 hb1 hn
  subst hnt
  have ap6_ := apart hn
  repeat' first|refine nx ?_|refine xb_miss (by decide) ?_|(apply W_reg;(simp [h3, h8, h9, h10, hb1, hn, ap6_];exact .r _))
  refine W_cond (by simp [h3, h8, h9, h10, hb1, hn, ap6_]; exact .r _) (fun hc => ?_) (fun hc => ?_)
  · have hil : i < q.body.length := by simpa using hc
    have c1 := cv (canBe_r q.body[i] f (h.2.2 _ (List.getElem_mem hil)) hf)
    simp only [Ag, cells_RA, List.map_cons, List.map_nil] at c1
    rw [List.drop_eq_getElem_cons hil, List.any_cons] at heq
    cases e : fitA q.body[i] f
    · rw [e, Bool.false_or] at heq
      repeat' first|refine nx ?_|refine xb_miss (by decide) ?_|(apply W_reg;(simp [h3, h8, h9, h10, hb1, hn, ap6_, hil, c1, e];exact .r _))
      refine W_cond (by simp [h3, h8, h9, h10, hb1, hn, ap6_]; exact .r _) (fun hd => ?_) (fun hd => ?_)
      · cases hd
      repeat' first|refine nx ?_|refine xb_miss (by decide) ?_|(apply W_reg;(simp [h3, h8, h9, h10, hb1, hn, ap6_];exact .r _))
      refine ⟨_, ?_, i + 1, rfl, rfl, ?_, ?_, ?_, ?_, by omega, ?_, ?_, heq⟩
      all_goals first|assumption|(simp [h3, h8, h9, h10, hb1, hn, ap6_];done)|(simp [h3, h8, h9, h10, hb1, hn, ap6_];omega)|(simp [h3, h8, h9, h10, hb1, hn, ap6_];exact wrap_succ (by omega))|omega
    · rw [e, Bool.true_or] at heq
      repeat' first|refine nx ?_|refine xb_miss (by decide) ?_|(apply W_reg;(simp [h3, h8, h9, h10, hb1, hn, ap6_, hil, c1, e];exact .r _))
      refine W_cond (by simp [h3, h8, h9, h10, hb1, hn, ap6_]; exact .r _) (fun hd => ?_) (fun hd => ?_)
      · repeat' first|refine nx ?_|refine xb_miss (by decide) ?_|(apply W_reg;(simp [h3, h8, h9, h10, hb1, hn, ap6_];exact .r _))
        simp [heq]
      · cases hd
  · have hil : i = q.body.length := by simp at hc; omega
    subst hil
    rw [List.drop_length] at heq
    repeat' first|refine nx ?_|refine xb_miss (by decide) ?_|(apply W_reg;(simp [h3, h8, h9, h10, hb1, hn, ap6_];exact .r _))
    simp [heq]
theorem specMay_r (q : Qry) (f : RA) (h : SmQ q) (hf : Sm f.args) : Ret XX 7 [Ag q, Ag f] (.t (.b (mayA q f)) false) := by
  refine ret_W rfl Tryz.func7 rfl rfl (by simp [Tryz.f7]) ?_
  simp only [Tryz.f7]
  have hl : q.body.length < 1099511627775 := h.2.1
  repeat' first|refine nx ?_|refine xb_miss (by decide) ?_|(apply W_reg;(simp [Ag];exact .r _))
  refine W_loop (n := q.body.length) (fun n s => ∃ i : Nat, n = q.body.length - i ∧ s.nt = 20 ∧ s.tm 2 = .ptr 0 0 ∧ s.tm 3 = .ptr 1 0 ∧ s.tm 5 = In i ∧ i ≤ q.body.length ∧ s.σ.ob 0 = .box [Ar q.head, Ar q.body] ∧ s.σ.ob 1 = .box [In f.rel, Ar f.args] ∧ 2 ≤ s.σ.n ∧ mayA q f = (q.body.drop i).any fun a => fitA a f) ⟨0, by simp [mayA]⟩ ?_
  rintro n ⟨nt, tm, σ⟩ ⟨i, rfl, hnt, h2, h3, h5, hi, hb0, hb1, hn, heq⟩
  simp only at hnt h2 h3 h5 hb0 hb1 hn
  subst hnt
  have ap7_ := apart hn
  repeat' first|refine nx ?_|refine xb_miss (by decide) ?_|(apply W_reg;(simp [h2, h3, h5, hb0, hb1, hn, ap7_];exact .r _))
  refine W_cond (by simp [h2, h3, h5, hb0, hb1, hn, ap7_]; exact .r _) (fun hc => ?_) (fun hc => ?_)
  · have hil : i < q.body.length := by simpa using hc
    have c1 := cv (l19Fits_r q.body[i] f (h.2.2 _ (List.getElem_mem hil)) hf)
    simp only [Ag, cells_RA, List.map_cons, List.map_nil] at c1
    rw [List.drop_eq_getElem_cons hil, List.any_cons] at heq
    cases e : fitA q.body[i] f
    · rw [e, Bool.false_or] at heq
      repeat' first|refine nx ?_|refine xb_miss (by decide) ?_|(apply W_reg;(simp [h2, h3, h5, hb0, hb1, hn, ap7_, hil, c1, e];exact .r _))|(apply W_draw (id := 4) [0,1,0,7,15,0,63] rfl rfl; (· simp; exact .r _); (· simp [h2, h3, h5, hb0, hb1, hn, ap7_, hil, c1, e]; exact .r _); (· first|trivial|simp))
      refine W_cond (by simp [h2, h3, h5, hb0, hb1, hn, ap7_]; exact .r _) (fun hd => ?_) (fun hd => ?_)
      · cases hd
      repeat' first|refine nx ?_|refine xb_miss (by decide) ?_|(apply W_reg;(simp [h2, h3, h5, hb0, hb1, hn, ap7_];exact .r _))
      refine ⟨_, ?_, i + 1, rfl, rfl, ?_, ?_, ?_, by omega, ?_, ?_, ?_, heq⟩
      all_goals first|assumption|(simp [h2, h3, h5, hb0, hb1, hn, ap7_];done)|(simp [h2, h3, h5, hb0, hb1, hn, ap7_];omega)|(simp [h2, h3, h5, hb0, hb1, hn, ap7_];exact wrap_succ (by omega))|omega
    · rw [e, Bool.true_or] at heq
      repeat' first|refine nx ?_|refine xb_miss (by decide) ?_|(apply W_reg;(simp [h2, h3, h5, hb0, hb1, hn, ap7_, hil, c1, e];exact .r _))|(apply W_draw (id := 4) [0,1,0,7,15,0,63] rfl rfl; (· simp; exact .r _); (· simp [h2, h3, h5, hb0, hb1, hn, ap7_, hil, c1, e]; exact .r _); (· first|trivial|simp))
      refine W_cond (by simp [h2, h3, h5, hb0, hb1, hn, ap7_]; exact .r _) (fun hd => ?_) (fun hd => ?_)
      · repeat' first|refine nx ?_|refine xb_miss (by decide) ?_|(apply W_reg;(simp [h2, h3, h5, hb0, hb1, hn, ap7_];exact .r _))
        simp [heq]
      · cases hd
  · have hil : i = q.body.length := by simp at hc; omega
    subst hil
    rw [List.drop_length] at heq
    repeat' first|refine nx ?_|refine xb_miss (by decide) ?_|(apply W_reg;(simp [h2, h3, h5, hb0, hb1, hn, ap7_];exact .r _))
    simp [heq]
end Go.Proofs.YtpdpgfagklhpaaaGreat.V

namespace Go.Proofs.YtpdpgfagklhpaaaGreat.V
open Go Go.Proofs
set_option linter.unusedVariables false
theorem ascF_of : ∀ {l : List RA}, (l.Pairwise fun a b => cmpF a b < 0) → ascF l = true
  | [], _ => rfl
  | [_], _ => rfl
  | a :: b :: l, h => by
    rw [List.pairwise_cons] at h
    rw [ascF, ascF_of h.2, decide_eq_true (h.1 b (by simp))]; rfl
theorem isDb_parts {c : Sch} {l : List RA} : isDb c l = true ↔ (∀ a ∈ l, isFact c a = true) ∧ ascF l = true ∧ isSch c = true ∧ l.length ≤ 24 := by
  simp only [isDb, Bool.and_eq_true, List.all_eq_true, decide_eq_true_eq]
  exact ⟨fun h => ⟨h.1.1.1, h.1.1.2, h.1.2, h.2⟩, fun h => ⟨⟨⟨h.1, h.2.1⟩, h.2.2.1⟩, h.2.2.2⟩⟩
theorem remF_mem {l : List RA} {f x : RA} : x ∈ remF l f ↔ x ∈ l ∧ x ≠ f := by
  unfold remF; rw [List.mem_filter]; simp
theorem remF_db {c : Sch} {l : List RA} {f : RA} (h : isDb c l = true) : isDb c (remF l f) = true := by
  obtain ⟨h1, h2, h3, h4⟩ := isDb_parts.1 h
  refine isDb_parts.2 ⟨fun a ha => h1 a (remF_mem.1 ha).1, ascF_of ((ascF_pair h2).filter _), h3, Nat.le_trans (remF_len l f) h4⟩
end Go.Proofs.YtpdpgfagklhpaaaGreat.V

namespace Go.Proofs.YtpdpgfagklhpaaaGreat.V
open Go Go.Proofs
set_option linter.unusedVariables false
theorem fit_img {a g : RA} {b : Bnd} (ht : ∀ t ∈ a.args, isTerm t = true) (hr : a.rel = g.rel) (hi : a.args.map (valI b) = g.args) : fitA a g = true := by
  have hl : a.args.length = g.args.length := by rw [← hi, List.length_map]
  have key : ∀ k, k < a.args.length → g.args[k]! = valI b a.args[k]! := fun k hk => by
    have hk2 : k < g.args.length := by omega
    have hk3 : k < (a.args.map (valI b)).length := by rw [List.length_map]; exact hk
    rw [getElem!_pos g.args k hk2, getElem!_pos a.args k hk]
    have : g.args[k] = (a.args.map (valI b))[k] := by simp only [hi]
    rw [this, List.getElem_map]
  refine fitA_yes hr hl fun k hk => ⟨?_, fun j hj e => ?_⟩
  · rw [key k hk]
    have hm := ht _ (List.getElem_mem hk)
    rw [getElem!_pos a.args k hk]
    unfold posOk valI
    cases hv : isVar a.args[k]
    · simp [hm]
    · rfl
  · rw [key k hk, key j (by omega), e]
theorem fit_mtch {a g : RA} {b b' : Bnd} (hb : b.length = 20) (ht : ∀ t ∈ a.args, isTerm t = true) (h : mtchA a g b = some b') : fitA a g = true ∧ b'.length = 20 := by
  unfold mtchA at h
  split at h
  · rename_i hc
    have hT : TermsIn b.length a.args := fun t h2 => by have := isTerm_iff.1 (ht t h2); omega
    obtain ⟨h1, h2, h3⟩ := mtch_ext _ _ hT hc.2 h
    refine ⟨fit_img (b := b') ht hc.1 ?_, by rw [← h1.1]; exact hb⟩
    rw [← h2]
    exact List.map_congr_left fun t h4 => valI_eq (ht t h4)
  · cases h
theorem flatMap_filter_no {α β : Type} {p : α → Bool} {f : α → List β} : ∀ {l : List α}, (∀ x ∈ l, p x = false → f x = []) → (l.filter p).flatMap f = l.flatMap f
  | [], _ => rfl
  | x :: l, h => by
    have ih := flatMap_filter_no (p := p) (f := f) (l := l) fun y hy => h y (List.mem_cons_of_mem _ hy)
    rw [List.filter_cons, List.flatMap_cons]
    cases e : p x
    · rw [if_neg (by simp), ih, h x (by simp) e]; rfl
    · rw [if_pos rfl, List.flatMap_cons, ih]
theorem fm_congr {α β : Type} {f g : α → List β} {l : List α} (h : ∀ x ∈ l, f x = g x) : l.flatMap f = l.flatMap g := by rw [List.flatMap_def, List.flatMap_def, List.map_congr_left h]
theorem binds_remF {db : List RA} {g : RA} : ∀ (body : List RA) {b : Bnd}, b.length = 20 → (∀ a ∈ body, fitA a g = false ∧ ∀ t ∈ a.args, isTerm t = true) → binds (remF db g) body b = binds db body b
  | [], _, _, _ => rfl
  | a :: body, b, hb, h => by
    have ha := h a (by simp)
    rw [binds, binds]
    refine Eq.trans (fm_congr (l := remF db g) fun f hf => ?_) (flatMap_filter_no (p := fun x => !decide (x = g)) fun x hx hp => ?_)
    · cases e : mtchA a f b with
      | none => rfl
      | some b' => exact binds_remF body (fit_mtch hb ha.2 e).2 fun x hx => h x (List.mem_cons_of_mem _ hx)
    · have hxg : x = g := by simpa using hp
      subst hxg
      cases e : mtchA a x b with
      | none => rfl
      | some b' => have := (fit_mtch hb ha.2 e).1; rw [ha.1] at this; cases this
theorem isQry_terms {c : Sch} {q : Qry} (h : isQry c q = true) : ∀ a ∈ q.body, ∀ t ∈ a.args, isTerm t = true := fun a ha t ht => isTerm_iff.2 (((isQry_small h).2.2.2 a ha).2 t ht)
theorem no_fit {q : Qry} {g : RA} (h : mayA q g = false) : ∀ a ∈ q.body, fitA a g = false := fun a ha => by
  simp only [mayA, List.any_eq_false] at h
  have := h a ha
  simpa using this
theorem rawB_remF {c : Sch} {q : Qry} {db : List RA} {g : RA} (h : isQry c q = true) (hm : mayA q g = false) : rawB q (remF db g) = rawB q db := by
  unfold rawB
  rw [binds_remF q.body b0_len fun a ha => ⟨no_fit hm a ha, isQry_terms h a ha⟩]
theorem runs_nil : runs [] = [] := rfl
theorem deltaC_no {c : Sch} {q : Qry} {db : List RA} {g : RA} (hm : mayA q g = false) : deltaC c q db g = [] := by
  unfold deltaC
  split
  · rename_i hc
    rw [Bool.and_eq_true] at hc
    have : (binds db q.body b0).flatMap (takeD q g) = [] := by
      rw [List.flatMap_eq_nil_iff]
      intro b hb
      unfold takeD
      rw [if_neg]
      intro hu
      simp only [usesI, List.any_eq_true, decide_eq_true_eq] at hu
      obtain ⟨a, ha, e⟩ := hu
      have hf := fit_img (b := b) (isQry_terms hc.1 a ha) (show a.rel = g.rel by rw [← e]) (show a.args.map (valI b) = g.args by rw [← e])
      rw [no_fit hm a ha] at hf; cases hf
    rw [this]
    simp [srt, runs_nil]
  · rfl
/-- How often each row comes. -/
def cntA (c : Sch) (q : Qry) (db : List RA) : List Cnt := runs (srt cmpI ((if isQry c q && isDb c db then rawB q db else []).map (headR q)))
theorem cntA_remF {c : Sch} {q : Qry} {db : List RA} {g : RA} (hd : isDb c db = true) (hm : mayA q g = false) : cntA c q (remF db g) = cntA c q db := by
  unfold cntA
  rw [hd, remF_db hd]
  cases e : isQry c q
  · rfl
  · simp only [Bool.and_self, if_true]
    rw [rawB_remF e hm]
end Go.Proofs.YtpdpgfagklhpaaaGreat.V

namespace Go.Proofs.YtpdpgfagklhpaaaGreat.V
open Go Go.Proofs
set_option linter.unusedVariables false
set_option linter.unusedSimpArgs false
theorem specCount_r (c : Sch) (q : Qry) (db : List RA) (hc : Lw.bd 1048576 c) (hq : Lw.bd 1048576 q) (hd : Lw.bd 1048576 db) : Ret XX 11 [Ag c, Ag q, Ar db] (.own 2 (rowsE (cntA c q db))) := by
  refine ret_W rfl Tryz.func11 rfl rfl (by simp [Tryz.f11]) ?_
  simp only [Tryz.f11]
  have c1 := cv (specBindings_r c q db hc hq hd)
  simp only [Ag, cells_Sch, cells_Q, List.map_cons, List.map_nil] at c1
  have hB0 : ∀ r ∈ (if isQry c q && isDb c db then rawB q db else []), isQry c q = true ∧ r.length = 20 := fun r hr => by
    split at hr
    · rename_i e; rw [Bool.and_eq_true] at e; exact ⟨e.1, (rawB_bd e.1 e.2).2 r hr⟩
    · cases hr
  have hB1 : (if isQry c q && isDb c db then rawB q db else []).length ≤ 331776 := by
    split
    · rename_i e; rw [Bool.and_eq_true] at e; exact (rawB_bd e.1 e.2).1
    · simp
  unfold cntA
  generalize (if isQry c q && isDb c db then rawB q db else []) = B at *
  have sh : Sm q.head := Nat.lt_of_le_of_lt hq.1.1 (by omega)
  have c2 := cv (l6Heads_r q B (by unfold Sm; omega) (fun r hr => ⟨(hB0 r hr).2, fun t ht => isTerm_iff.2 ((isQry_small (hB0 r hr).1).2.2.1 t ht)⟩) sh)
  simp only [Ag, cells_Q, List.map_cons, List.map_nil] at c2
  have hsm : ∀ x ∈ B.map (headR q), Sm x := fun x hx => by
    obtain ⟨r, _, hr⟩ := List.mem_map.1 hx
    rw [← hr, headR]; unfold Sm; rw [List.length_map]; have := hq.1.1; omega
  have c3 := cv (l6Sort_false (B.map (headR q)) (by rw [List.length_map]; omega) hsm)
  have hll : (srt cmpI (B.map (headR q))).length = B.length := by rw [srt_perm.length_eq, List.length_map]
  have hll2 : (srt cmpI (B.map (headR q))).length = (B.map (headR q)).length := srt_perm.length_eq
  have hsL0 : ∀ x ∈ srt cmpI (B.map (headR q)), Sm x := fun x hx => hsm x (srt_perm.mem_iff.1 hx)
  generalize hL : srt cmpI (B.map (headR q)) = L at *
  have hsL := hsL0
  repeat' first|refine nx ?_|refine xb_miss (by decide) ?_|(apply W_reg;(simp [Ag, c1, c2, c3];exact .r _))|(apply W_draw (id := 1) [0,0,0,0,14,31,63,127] rfl rfl; (· simp; exact .r _); (· simp [Ag, c1, c2, c3]; exact .r _); (· first|trivial|simp))
  refine W_loop (n := L.length) (fun n s => ∃ i : Nat, ∃ k : Nat, ∃ oS : Nat, ∃ oR : Nat, ∃ R : List Cnt, n = L.length - i ∧ s.nt = 63 ∧ s.tm 7 = .ref oS L.length [] ∧ s.tm 8 = .ref oR R.length [] ∧ s.tm 9 = In i ∧ i ≤ L.length ∧ k ≤ i ∧ s.σ.ob oS = .arr (.own k) 0 1 (rowsE L) ∧ s.σ.ob oR = .arr (.own 0) 0 2 (rowsE R) ∧ oS < s.σ.n ∧ oR < s.σ.n ∧ ¬ oS = oR ∧ R = runs (L.take i)) ⟨0, 0, 4, 5, [], by simp [runs]⟩ ?_
  rintro n ⟨nt, tm, σ⟩ ⟨i, k, oS, oR, R, rfl, hnt, h7, h8, h9, hi, hk, hoo, haa, hnS, hnR, hne, hR⟩
  simp only at hnt h7 h8 h9 hoo haa hnS hnR
  subst hnt
  have n0 : ¬ (oR = σ.n) := by omega
  have n0' : ¬ (σ.n = oR) := by omega
  have n1 : ¬ (oS = σ.n) := by omega
  have n1' : ¬ (σ.n = oS) := by omega
  have hne' : ¬ oR = oS := fun e => hne e.symm
  have hrl : (rowsE L).length = L.length := rowsE_len ..
  repeat' first|refine nx ?_|refine xb_miss (by decide) ?_|(apply W_reg;(simp [h7, h8, h9, hoo, haa, hnS, hnR];exact .r _))
  refine W_cond (by simp [h7, h8, h9, hoo, haa, hnS, hnR]; exact .r _) (fun hc => ?_) (fun hc => ?_)
  · have hil : i < L.length := by simpa using hc
    have hbd := runs_bd L i (by omega)
    rw [← hR] at hbd
    have hst := runs_take L i hil
    rw [← hR] at hst
    have hg : (rowsE L)[i]? = some [.sl (rowsE L[i])] := by simp [rowsE, hil]
    rcases List.eq_nil_or_concat R with e | ⟨R', c, e⟩
    · subst e
      rw [runsF_nil] at hst
      repeat' first|refine nx ?_|refine xb_miss (by decide) ?_|(apply W_reg;(simp [h7, h8, h9, hoo, haa, hnS, hnR, hrl, hg, hk, n0, n0', n1, n1', hne, hne'];exact .r _))|(apply W_draw (id := 7) [0,1,3,7,7,23,63,127,255,7,7,1543,3591,8191,16383] rfl rfl; (· simp; exact .r _); (· simp [h7, h8, h9, hoo, haa, hnS, hnR, hrl, hg, hk, n0, n0', n1, n1', hne, hne']; exact .r _); (· first|trivial|simp))
      refine W_cond (by simp [h7, h8, h9, hoo, haa, hnS, hnR]; exact .r _) (fun hd => ?_) (fun hd => ?_)
      · cases hd
      repeat' first|refine nx ?_|refine xb_miss (by decide) ?_|(apply W_reg;(simp [h7, h8, h9, hoo, haa, hnS, hnR, hrl, hg, hk, hil, n0, n0', n1, n1', hne, hne'];exact .r _))
      refine ⟨_, ?_, i + 1, i + 1, oS, oR, [⟨L[i], 1⟩], rfl, rfl, ?_, ?_, ?_, by omega, by omega, ?_, ?_, ?_, ?_, hne, hst.symm⟩
      all_goals first|assumption|(simp [h7, h8, h9, hoo, haa, hnS, hnR, n0, n1, hne, hne', rowsE];done)|(simp [h7, h8, h9, hoo, haa, hnS, hnR, n0, n1, hne, hne', rowsE];omega)|(simp [h7, h8, h9, hoo, haa, hnS, hnR, n0, n1, hne, hne', rowsE];exact wrap_succ (by omega))|omega
    · rw [List.concat_eq_append] at e
      subst e
      rw [runsF_snoc] at hst
      obtain ⟨hb1, hb2⟩ := hbd
      have hcb := hb2 c (by simp)
      have hlen : (R' ++ [c]).length = R'.length + 1 := by simp
      have hgc : (rowsE (R' ++ [c]))[R'.length]? = some [.sl (rowsE c.tuple), .i .i64 c.count] := by simp [rowsE]
      have hw1 : IntKind.i64.wrap (R'.length : Int) = (R'.length : Int) := wrap_ok (by simp at hb1; omega) (by simp at hb1; omega)
      have hw2 : IntKind.i64.wrap (c.count + 1) = c.count + 1 := wrap_ok (by omega) (by omega)
      have hp : (0 : Int) < (R'.length : Int) + 1 := by omega
      have c1 := cv (l2Ints_r c.tuple L[i] (hsL _ hcb.2.2))
      repeat' first|refine nx ?_|refine xb_miss (by decide) ?_|(apply W_reg;(simp [h7, h8, h9, hoo, haa, hnS, hnR, hrl, hg, hk, hgc, hw1, hp, c1, hlen, hil, n0, n0', n1, n1', hne, hne'];exact .r _))|(apply W_draw (id := 7) [0,1,3,7,7,23,63,127,255,7,7,1543,3591,8191,16383] rfl rfl; (· simp; exact .r _); (· simp [h7, h8, h9, hoo, haa, hnS, hnR, hrl, hg, hk, hgc, hw1, hp, c1, hlen, hil, n0, n0', n1, n1', hne, hne']; exact .r _); (· first|trivial|simp))
      refine W_cond (by simp [h7, h8, h9, hoo, haa, hnS, hnR]; exact .r _) (fun hd => ?_) (fun hd => ?_)
      · have he : c.tuple = L[i] := by simpa using hd
        rw [if_pos he] at hst
        repeat' first|refine nx ?_|refine xb_miss (by decide) ?_|(apply W_reg;(simp [h7, h8, h9, hoo, haa, hnS, hnR, hrl, hg, hk, hgc, hw1, hw2, hp, hlen, hil, n0, n0', n1, n1', hne, hne'];exact .r _))
        have hset : rowsE (R' ++ [⟨L[i], c.count + 1⟩]) = (rowsE (R' ++ [c])).set R'.length [.sl (rowsE c.tuple), .i .i64 (c.count + 1)] := by
          rw [← he]; simp [rowsE]
        refine ⟨_, ?_, i + 1, k, oS, oR, R' ++ [⟨L[i], c.count + 1⟩], rfl, rfl, ?_, (by simp [h8]), ?_, by omega, by omega, ?_, (by rw [hset]; simp [rowsE]), ?_, ?_, hne, hst.symm⟩
        all_goals first|assumption|(simp [h7, h8, h9, hoo, haa, hnS, hnR, n0, n1, hne, hne'];done)|(simp [h7, h8, h9, hoo, haa, hnS, hnR, n0, n1, hne, hne'];omega)|(simp [h7, h8, h9, hoo, haa, hnS, hnR, n0, n1, hne, hne'];exact wrap_succ (by omega))|omega
      · have he : ¬ c.tuple = L[i] := by simpa using hd
        rw [if_neg he] at hst
        repeat' first|refine nx ?_|refine xb_miss (by decide) ?_|(apply W_reg;(simp [h7, h8, h9, hoo, haa, hnS, hnR, hrl, hg, hk, hil, hlen, n0, n0', n1, n1', hne, hne', show R'.length + 1 + 1 < 1099511627776 by simp at hb1; omega];exact .r _))
        refine ⟨_, ?_, i + 1, i + 1, oS, oR, (R' ++ [c]) ++ [⟨L[i], 1⟩], rfl, rfl, ?_, ?_, ?_, by omega, by omega, ?_, (by simp [n0, n0', hne, hne', rowsE]), ?_, ?_, hne, hst.symm⟩
        all_goals first|assumption|(simp [h7, h8, h9, hoo, haa, hnS, hnR, n0, n1, hne, hne'];done)|(simp [h7, h8, h9, hoo, haa, hnS, hnR, n0, n1, hne, hne'];omega)|(simp [h7, h8, h9, hoo, haa, hnS, hnR, n0, n1, hne, hne'];exact wrap_succ (by omega))|omega
  · have hil : i = L.length := by simp at hc; omega
    subst hil
    rw [List.take_length] at hR
    subst hR
    repeat' first|refine nx ?_|refine xb_miss (by decide) ?_|(apply W_reg;(simp [h7, h8, h9, hoo, haa, hnS, hnR];exact .r _))
    simp [haa]
end Go.Proofs.YtpdpgfagklhpaaaGreat.V

namespace Go.Proofs.YtpdpgfagklhpaaaGreat.V
open Go Go.Proofs
set_option linter.unusedVariables false
set_option linter.unusedSimpArgs false
theorem cnt_eq (x y : Cnt) : x = y ↔ x.count = y.count ∧ x.tuple = y.tuple := by
  obtain ⟨a, b⟩ := x
  obtain ⟨c, d⟩ := y
  simp only [Cnt.mk.injEq]
  exact ⟨fun h => ⟨h.2, h.1⟩, fun h => ⟨h.2, h.1⟩⟩
theorem same1_r (x y : Cnt) (hx : Sm x.tuple) : Ret XX 28 [Ag x, Ag y] (.t (.b (decide (x = y))) false) := by
  refine ret_W rfl Tryz.func28 rfl rfl (by simp [Tryz.f28]) ?_
  simp only [Tryz.f28]
  have c1 := cv (eqInts_r x.tuple y.tuple hx)
  have he : decide (x = y) = (decide (x.count = y.count) && decide (x.tuple = y.tuple)) := by
    rw [Bool.eq_iff_iff, Bool.and_eq_true, decide_eq_true_eq, decide_eq_true_eq, decide_eq_true_eq]; exact cnt_eq x y
  rw [he]
  by_cases e : x.count = y.count
  · repeat' first|refine nx ?_|refine xb_miss (by decide) ?_|(apply W_reg;(simp [Ag, c1, e];exact .r _))
    simp [e]
  · repeat' first|refine nx ?_|refine xb_miss (by decide) ?_|(apply W_reg;(simp [Ag, e];exact .r _))
    simp [e]
set_option maxRecDepth 20000 in
theorem eqfC_r (a b : List Cnt) (g : Nat) (ha : Sm a) (hM : Ms g = false) (hp : ∀ x ∈ a, ∀ y : Cnt, Ret XX g [Ag x, Ag y] (.t (.b (decide (x = y))) false)) : Ret XX 27 [Ar a, Ar b, .clo g []] (.t (.b (decide (a = b))) false) := by
  refine ret_W rfl Tryz.func27 rfl rfl (by simp [Tryz.f27]) ?_
  simp only [Tryz.f27]
  repeat' first|refine nx ?_|refine xb_miss (by decide) ?_|(apply W_reg;(simp;exact .r _))
  refine W_cond (by simp; exact .r _) (fun hc => ?_) (fun hc => ?_)
  · repeat' first|refine nx ?_|refine xb_miss (by decide) ?_|(apply W_reg;(simp;exact .r _))
    have : a ≠ b := fun e => by subst e; simp at hc
    simp [this]
  have hl : a.length = b.length := by simp at hc; omega
  repeat' first|refine nx ?_|refine xb_miss (by decide) ?_|(apply W_reg;(simp;exact .r _))
  refine W_loop (n := a.length) (fun n s => ∃ i : Nat, n = a.length - i ∧ s.nt = 32 ∧ s.tm 1 = Ar b ∧ s.tm 2 = .clo g [] ∧ s.tm 15 = Ar a ∧ s.tm 16 = In a.length ∧ s.tm 17 = In i ∧ i ≤ a.length ∧ a.take i = b.take i) ⟨0, by simp⟩ ?_
  rintro n ⟨nt, tm, σ⟩ ⟨i, rfl, hnt, h1, h2, h15, h16, h17, hi, heq⟩
  simp only at hnt h1 h2 h15 h16 h17
  subst hnt
  repeat' first|refine nx ?_|refine xb_miss (by decide) ?_|(apply W_reg;(simp [h1, h2, h15, h16, h17];exact .r _))
  refine W_cond (by simp [h1, h2, h15, h16, h17]; exact .r _) (fun hc => ?_) (fun hc => ?_)
  · have hia : i < a.length := by simpa using hc
    have hib : i < b.length := by omega
    have hcc := cv (hp a[i] (List.getElem_mem hia) b[i]) hM
    obtain ⟨dd, hdd⟩ : ∃ dd : Bool, decide (a[i] = b[i]) = dd := ⟨_, rfl⟩
    rw [hdd] at hcc
    have hcall : ∀ σ, callV Ms XX σ g [Ag a[i], Ag b[i]] = some (.t (.b dd), σ) := fun σ => by rw [hcc σ [Ag a[i], Ag b[i]] (by simp [Ag])]; simp [Ag]
    simp only [Ag, cells_Cnt, List.map_cons, List.map_nil] at hcall
    cases dd
    · repeat' first|refine nx ?_|refine xb_miss (by decide) ?_|(apply W_reg;(simp [h1, h2, h15, h16, h17, hia, hib, hcall];exact .r _))
      refine W_cond (by simp [h1, h2, h15, h16, h17]; exact .r _) (fun hd => ?_) (fun hd => ?_)
      · repeat' first|refine nx ?_|refine xb_miss (by decide) ?_|(apply W_reg;(simp [h1, h2, h15, h16, h17];exact .r _))
        have : a ≠ b := fun e => by subst e; simp at hdd
        simp [this]
      · cases hd
    · have hd : a[i] = b[i] := by simpa using hdd
      repeat' first|refine nx ?_|refine xb_miss (by decide) ?_|(apply W_reg;(simp [h1, h2, h15, h16, h17, hia, hib, hcall];exact .r _))
      refine W_cond (by simp [h1, h2, h15, h16, h17]; exact .r _) (fun hd2 => ?_) (fun hd2 => ?_)
      · cases hd2
      repeat' first|refine nx ?_|refine xb_miss (by decide) ?_|(apply W_reg;(simp [h1, h2, h15, h16, h17];exact .r _))
      refine ⟨_, ?_, i + 1, rfl, rfl, ?_, ?_, ?_, ?_, ?_, by omega, by rw [List.take_succ_eq_append_getElem hia, List.take_succ_eq_append_getElem hib, heq, hd]⟩
      all_goals first|assumption|(simp [h1, h2, h15, h16, h17];done)|(simp [h1, h2, h15, h16, h17];omega)|(simp [h1, h2, h15, h16, h17];exact wrap_succ (by omega))|omega
  · have hil : i = a.length := by simp at hc; omega
    subst hil
    repeat' first|refine nx ?_|refine xb_miss (by decide) ?_|(apply W_reg;(simp [h1, h2, h15, h16, h17];exact .r _))
    rw [List.take_length, hl, List.take_length] at heq
    have : a = b := heq
    simp [this]
set_option maxRecDepth 20000 in
theorem implSameC_r (a b : List Cnt) (ha : Sm a) (hs : ∀ x ∈ a, Sm x.tuple) : Ret XX 10 [Ar a, Ar b] (.t (.b (decide (a = b))) false) := by
  refine ret_W rfl Tryz.func10 rfl rfl (by simp [Tryz.f10]) ?_
  simp only [Tryz.f10]
  have c1 := cv (eqfC_r a b 28 ha rfl (fun x hx y => same1_r x y (hs x hx)))
  repeat' first|refine nx ?_|refine xb_miss (by decide) ?_|(apply W_reg;(simp [c1];exact .r _))
  simp
end Go.Proofs.YtpdpgfagklhpaaaGreat.V

namespace Go.Proofs.YtpdpgfagklhpaaaGreat.V
open Go Go.RowKit Go.Deep Go.ChangeShapes Go.WideShapes
set_option linter.unusedVariables false
/-- Whatever reads as data of type t is a value that fits. -/
def RdF (α : Type) [Enc α] [Lw α] (P : Program) (w : World) (t : TypeId) : Prop := Rdv P w t (fun a : α => Fit a)
theorem Rdv.mono {α : Type} [Enc α] {P : Program} {w : World} {t : TypeId} {Q Q' : α → Prop} (h : Rdv P w t Q) (hq : ∀ a, Q a → Q' a) : Rdv P w t Q' := fun H enc fuel cs x hx => by
  obtain ⟨a, h1, h2⟩ := h H enc fuel cs x hx
  exact ⟨a, h1, hq a h2⟩
instance : Lw Bool := ⟨fun _ => 0, fun _ _ => True, fun _ _ _ => trivial⟩
variable {α β γ δ : Type} [Enc α] [Enc β] [Enc γ] [Enc δ] [Lw α] [Lw β] [Lw γ] [Lw δ] {P : Program} {w : World} {t e : TypeId}
theorem rf_slice (ht : P.underlying t = some (.slice e)) (hc : P.cellsOf e = Enc.n α) (hn : 0 < Enc.n α) (hd : RdF α P w e) : RdF (List α) P w t := (rd_slice ht hc hn hd).mono fun a h => ⟨h.1, h.2⟩
end Go.Proofs.YtpdpgfagklhpaaaGreat.V

namespace Go.Proofs.YtpdpgfagklhpaaaGreat.V
open Go Go.Proofs
set_option linter.unusedVariables false
set_option linter.unusedSimpArgs false
instance : Lw By := ⟨fun _ => 0, fun _ _ => True, fun _ _ _ => trivial⟩
open Go.RowKit Go.Deep Go.ChangeShapes Go.WideShapes in
theorem rf_u8 {P : Program} {w : World} {t : TypeId} (ht : P.underlying t = some (.int .u8)) : RdF By P w t := by
  intro H enc fuel cs x h
  obtain ⟨n, rfl, _, hw⟩ := DataW.trod_int ht h
  exact ⟨⟨n⟩, .one (.i _ _), trivial⟩
theorem big_r (b : List By) : Ret XX 4 [Ar b] (.t (.b (decide (1048576 < b.length))) false) := by
  refine ret_W rfl Tryz.func4 rfl rfl (by simp [Tryz.f4]) ?_
  simp only [Tryz.f4]
  repeat' first|refine nx ?_|refine xb_miss (by decide) ?_|(apply W_reg;(simp;exact .r _))
  simp
  omega
end Go.Proofs.YtpdpgfagklhpaaaGreat.V

