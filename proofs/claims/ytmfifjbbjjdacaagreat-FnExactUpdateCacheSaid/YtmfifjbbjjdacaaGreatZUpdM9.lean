/- Several texts in one: what the claim needs of them. Conditions: each declaration's own. -/
import Derived.Test.YtmfifjbbjjdacaaGreatZUpdM8
namespace Go.Proofs.YtmfifjbbjjdacaaGreat.V
open Go Go.Proofs
set_option linter.unusedVariables false
set_option linter.unusedSimpArgs false
abbrev xvS (l : List RA) (v : Int) : XV := .agg [.own 2 (rowsE l), .t (.i .i64 v) false]
def affL (x : Cch) (f : RA) (i : Nat) : List Int := (List.range i).filterMap fun k => if mayA (x.views.getD k ⟨[], []⟩) f then some (k : Int) else none
def affI (x : Cch) (f : RA) : List Int := affL x f x.views.length
theorem affL_succ {x : Cch} {f : RA} {i : Nat} (h : i < x.views.length) : affL x f (i + 1) = affL x f i ++ (if mayA x.views[i] f then [(i : Int)] else []) := by
  unfold affL
  rw [List.range_succ, List.filterMap_append]
  congr 1
  have : x.views.getD i ⟨[], []⟩ = x.views[i] := by rw [List.getD_eq_getElem?_getD, List.getElem?_eq_getElem h]; rfl
  rw [← this]
  by_cases e : mayA (x.views.getD i ⟨[], []⟩) f = true
  · simp only [List.filterMap_cons, if_pos e, List.filterMap_nil]
  · simp only [List.filterMap_cons, if_neg e, List.filterMap_nil]
theorem affL_len {x : Cch} {f : RA} {i : Nat} : (affL x f i).length ≤ i := by
  have := List.length_filterMap_le (fun k => if mayA (x.views.getD k ⟨[], []⟩) f then some (k : Int) else none) (List.range i)
  rw [List.length_range] at this
  exact this
theorem implAff_r (x : Cch) (f : RA) (h : SmC x) (hf : Sm f.args) : Ret XX 103 [Ag x, Ag f] (.own 1 (rowsE (affI x f))) := by
  refine ret_W rfl Tryz.func103 rfl rfl (by simp [Tryz.f103]) ?_
  simp only [Tryz.f103]
  have hl : x.views.length < 1099511627775 := h.1
  repeat' first|refine W_seq ?_|refine W_block ?_|refine W_skip ?_|refine W_ret ?_|refine W_exit ?_|refine xb_hit ?_|refine xb_miss (by decide) ?_|(apply W_reg;(simp [Ag];exact .r _))
  refine W_loop (n := x.views.length) (fun n s => ∃ i : Nat, ∃ R : List Int, n = x.views.length - i ∧ s.nt = 26 ∧ s.tm 3 = .ptr 1 0 ∧ s.tm 5 = .ref 2 R.length [] ∧ s.tm 10 = Ar x.views ∧ s.tm 11 = In x.views.length ∧ s.tm 12 = In i ∧ i ≤ x.views.length ∧ s.σ.ob 1 = .box [In f.rel, Ar f.args] ∧ s.σ.ob 2 = .arr (.own 0) 0 1 (rowsE R) ∧ 3 ≤ s.σ.n ∧ R = affL x f i) ⟨0, [], by simp [show affL x f 0 = [] from rfl]⟩ ?_
  rintro n ⟨nt, tm, σ⟩ ⟨i, R, rfl, hnt, h3, h5, h10, h11, h12, hi, hb1, ho, hn, hR⟩
  simp only at hnt h3 h5 h10 h11 h12 hb1 ho hn
  subst hnt
  have ap1_ := apart hn
  have hRl : R.length ≤ i := by rw [hR]; exact affL_len
  repeat' first|refine W_seq ?_|refine W_block ?_|refine W_skip ?_|refine W_ret ?_|refine W_exit ?_|refine xb_hit ?_|refine xb_miss (by decide) ?_|(apply W_reg;(simp [h3, h5, h10, h11, h12, hb1, ho, hn, ap1_];exact .r _))
  refine W_cond (by simp [h3, h5, h10, h11, h12, hb1, ho, hn, ap1_]; exact .r _) (fun hc => ?_) (fun hc => ?_)
  · have hil : i < x.views.length := by simpa using hc
    have c1 := cv (implMay_r x.views[i] f (h.2.1 _ (List.getElem_mem hil)) hf)
    simp only [Ag, cells_RA, cells_Q, List.map_cons, List.map_nil] at c1
    have ht := affL_succ (f := f) hil
    rw [← hR] at ht
    cases e : mayA x.views[i] f
    · rw [e, if_neg (by decide), List.append_nil] at ht
      repeat' first|refine W_seq ?_|refine W_block ?_|refine W_skip ?_|refine W_ret ?_|refine W_exit ?_|refine xb_hit ?_|refine xb_miss (by decide) ?_|(apply W_reg;(simp [h3, h5, h10, h11, h12, hb1, ho, hn, ap1_, hil, c1, e];exact .r _))
      refine W_cond (by simp [h3, h5, h10, h11, h12, hb1, ho, hn, ap1_]; exact .r _) (fun hd => ?_) (fun hd => ?_)
      · cases hd
      repeat' first|refine W_seq ?_|refine W_block ?_|refine W_skip ?_|refine W_ret ?_|refine W_exit ?_|refine xb_hit ?_|refine xb_miss (by decide) ?_|(apply W_reg;(simp [h3, h5, h10, h11, h12, hb1, ho, hn, ap1_];exact .r _))
      refine ⟨_, ?_, i + 1, R, rfl, rfl, ?_, ?_, ?_, ?_, ?_, by omega, ?_, ?_, ?_, ht.symm⟩
      all_goals first|assumption|(simp [h3, h5, h10, h11, h12, hb1, ho, hn, ap1_];done)|(simp [h3, h5, h10, h11, h12, hb1, ho, hn, ap1_];omega)|(simp [h3, h5, h10, h11, h12, hb1, ho, hn, ap1_];exact wrap_succ (by omega))|omega
    · rw [e, if_pos rfl] at ht
      repeat' first|refine W_seq ?_|refine W_block ?_|refine W_skip ?_|refine W_ret ?_|refine W_exit ?_|refine xb_hit ?_|refine xb_miss (by decide) ?_|(apply W_reg;(simp [h3, h5, h10, h11, h12, hb1, ho, hn, ap1_, hil, c1, e];exact .r _))
      refine W_cond (by simp [h3, h5, h10, h11, h12, hb1, ho, hn, ap1_]; exact .r _) (fun hd => ?_) (fun hd => ?_)
      · repeat' first|refine W_seq ?_|refine W_block ?_|refine W_skip ?_|refine W_ret ?_|refine W_exit ?_|refine xb_hit ?_|refine xb_miss (by decide) ?_|(apply W_reg;(simp [h3, h5, h10, h11, h12, hb1, ho, hn, ap1_, hil, show R.length + 1 < 1099511627776 by omega];exact .r _))
        refine ⟨_, ?_, i + 1, R ++ [(i : Int)], rfl, rfl, ?_, ?_, ?_, ?_, ?_, by omega, ?_, (by simp [h3, h5, h10, h11, h12, hb1, ho, hn, ap1_, rowsE]), ?_, ht.symm⟩
        all_goals first|assumption|(simp [h3, h5, h10, h11, h12, hb1, ho, hn, ap1_];done)|(simp [h3, h5, h10, h11, h12, hb1, ho, hn, ap1_];omega)|(simp [h3, h5, h10, h11, h12, hb1, ho, hn, ap1_];exact wrap_succ (by omega))|omega
      · cases hd
  · have hil : i = x.views.length := by simp at hc; omega
    subst hil
    repeat' first|refine W_seq ?_|refine W_block ?_|refine W_skip ?_|refine W_ret ?_|refine W_exit ?_|refine xb_hit ?_|refine xb_miss (by decide) ?_|(apply W_reg;(simp [h3, h5, h10, h11, h12, hb1, ho, hn, ap1_];exact .r _))
    simp [ho, hR, affI]
theorem specAff_r (x : Cch) (f : RA) (h : SmC x) (hf : Sm f.args) : Ret XX 227 [Ag x, Ag f] (.own 1 (rowsE (affI x f))) := by
  refine ret_W rfl Tryz.func227 rfl rfl (by simp [Tryz.f227]) ?_
  simp only [Tryz.f227]
  have hl : x.views.length < 1099511627775 := h.1
  repeat' first|refine W_seq ?_|refine W_block ?_|refine W_skip ?_|refine W_ret ?_|refine W_exit ?_|refine xb_hit ?_|refine xb_miss (by decide) ?_|(apply W_reg;(simp [Ag];exact .r _))
  refine W_loop (n := x.views.length) (fun n s => ∃ i : Nat, ∃ R : List Int, n = x.views.length - i ∧ s.nt = 27 ∧ s.tm 2 = .ptr 0 0 ∧ s.tm 3 = .ptr 1 0 ∧ s.tm 5 = .ref 2 R.length [] ∧ s.tm 6 = In i ∧ i ≤ x.views.length ∧ s.σ.ob 0 = .box [Ar x.views, Ar x.tables, In x.version] ∧ s.σ.ob 1 = .box [In f.rel, Ar f.args] ∧ s.σ.ob 2 = .arr (.own 0) 0 1 (rowsE R) ∧ 3 ≤ s.σ.n ∧ R = affL x f i) ⟨0, [], by simp [show affL x f 0 = [] from rfl]⟩ ?_
  rintro n ⟨nt, tm, σ⟩ ⟨i, R, rfl, hnt, h2, h3, h5, h6, hi, hb0, hb1, ho, hn, hR⟩
  simp only at hnt h2 h3 h5 h6 hb0 hb1 ho hn
  subst hnt
  have ap2_ := apart hn
  have hRl : R.length ≤ i := by rw [hR]; exact affL_len
  repeat' first|refine W_seq ?_|refine W_block ?_|refine W_skip ?_|refine W_ret ?_|refine W_exit ?_|refine xb_hit ?_|refine xb_miss (by decide) ?_|(apply W_reg;(simp [h2, h3, h5, h6, hb0, hb1, ho, hn, ap2_];exact .r _))
  refine W_cond (by simp [h2, h3, h5, h6, hb0, hb1, ho, hn, ap2_]; exact .r _) (fun hc => ?_) (fun hc => ?_)
  · have hil : i < x.views.length := by simpa using hc
    have c1 := cv (specMay_r x.views[i] f (h.2.1 _ (List.getElem_mem hil)) hf)
    simp only [Ag, cells_RA, cells_Q, List.map_cons, List.map_nil] at c1
    have ht := affL_succ (f := f) hil
    rw [← hR] at ht
    cases e : mayA x.views[i] f
    · rw [e, if_neg (by decide), List.append_nil] at ht
      repeat' first|refine W_seq ?_|refine W_block ?_|refine W_skip ?_|refine W_ret ?_|refine W_exit ?_|refine xb_hit ?_|refine xb_miss (by decide) ?_|(apply W_reg;(simp [h2, h3, h5, h6, hb0, hb1, ho, hn, ap2_, hil, c1, e];exact .r _))|(apply W_draw (id := 5) [0,1,0,7,15,0,63] rfl rfl; (· simp; exact .r _); (· simp [h2, h3, h5, h6, hb0, hb1, ho, hn, ap2_, hil, c1, e]; exact .r _); (· first|trivial|simp))
      refine W_cond (by simp [h2, h3, h5, h6, hb0, hb1, ho, hn, ap2_]; exact .r _) (fun hd => ?_) (fun hd => ?_)
      · cases hd
      repeat' first|refine W_seq ?_|refine W_block ?_|refine W_skip ?_|refine W_ret ?_|refine W_exit ?_|refine xb_hit ?_|refine xb_miss (by decide) ?_|(apply W_reg;(simp [h2, h3, h5, h6, hb0, hb1, ho, hn, ap2_];exact .r _))
      refine ⟨_, ?_, i + 1, R, rfl, rfl, ?_, ?_, ?_, ?_, by omega, ?_, ?_, ?_, ?_, ht.symm⟩
      all_goals first|assumption|(simp [h2, h3, h5, h6, hb0, hb1, ho, hn, ap2_];done)|(simp [h2, h3, h5, h6, hb0, hb1, ho, hn, ap2_];omega)|(simp [h2, h3, h5, h6, hb0, hb1, ho, hn, ap2_];exact wrap_succ (by omega))|omega
    · rw [e, if_pos rfl] at ht
      repeat' first|refine W_seq ?_|refine W_block ?_|refine W_skip ?_|refine W_ret ?_|refine W_exit ?_|refine xb_hit ?_|refine xb_miss (by decide) ?_|(apply W_reg;(simp [h2, h3, h5, h6, hb0, hb1, ho, hn, ap2_, hil, c1, e];exact .r _))|(apply W_draw (id := 5) [0,1,0,7,15,0,63] rfl rfl; (· simp; exact .r _); (· simp [h2, h3, h5, h6, hb0, hb1, ho, hn, ap2_, hil, c1, e]; exact .r _); (· first|trivial|simp))
      refine W_cond (by simp [h2, h3, h5, h6, hb0, hb1, ho, hn, ap2_]; exact .r _) (fun hd => ?_) (fun hd => ?_)
      · repeat' first|refine W_seq ?_|refine W_block ?_|refine W_skip ?_|refine W_ret ?_|refine W_exit ?_|refine xb_hit ?_|refine xb_miss (by decide) ?_|(apply W_reg;(simp [h2, h3, h5, h6, hb0, hb1, ho, hn, ap2_, hil, show R.length + 1 < 1099511627776 by omega];exact .r _))
        refine ⟨_, ?_, i + 1, R ++ [(i : Int)], rfl, rfl, ?_, ?_, ?_, ?_, by omega, ?_, ?_, (by simp [h2, h3, h5, h6, hb0, hb1, ho, hn, ap2_, rowsE]), ?_, ht.symm⟩
        all_goals first|assumption|(simp [h2, h3, h5, h6, hb0, hb1, ho, hn, ap2_];done)|(simp [h2, h3, h5, h6, hb0, hb1, ho, hn, ap2_];omega)|(simp [h2, h3, h5, h6, hb0, hb1, ho, hn, ap2_];exact wrap_succ (by omega))|omega
      · cases hd
  · have hil : i = x.views.length := by simp at hc; omega
    subst hil
    repeat' first|refine W_seq ?_|refine W_block ?_|refine W_skip ?_|refine W_ret ?_|refine W_exit ?_|refine xb_hit ?_|refine xb_miss (by decide) ?_|(apply W_reg;(simp [h2, h3, h5, h6, hb0, hb1, ho, hn, ap2_];exact .r _))
    simp [ho, hR, affI]
theorem copySource_r (s : Src) (h : SmF s.facts) : Ret XX 224 [Ag s] (xvS s.facts s.version) := by
  refine ret_W rfl Tryz.func224 rfl rfl (by simp [Tryz.f224]) ?_
  simp only [Tryz.f224]
  have c1 := cv (copyFacts_r s.facts h)
  repeat' first|refine W_seq ?_|refine W_block ?_|refine W_skip ?_|refine W_ret ?_|refine W_exit ?_|refine xb_hit ?_|refine xb_miss (by decide) ?_|(apply W_reg;(simp [Ag, c1];exact .r _))|(apply W_draw (id := 1) [0,1,3,0,8,31,63] rfl rfl; (· simp; exact .r _); (· simp [Ag, c1]; exact .r _); (· first|trivial|simp))
  simp
theorem copyLists_r (l : List Row) (h : Sm l) (hs : ∀ r ∈ l, Sm r) : Ret XX 292 [Ar l] (.own 1 (rowsE l)) := by
  refine ret_W rfl Tryz.func292 rfl rfl (by simp [Tryz.f292]) ?_
  simp only [Tryz.f292]
  have hl : l.length < 1099511627775 := h
  repeat' first|refine W_seq ?_|refine W_block ?_|refine W_skip ?_|refine W_ret ?_|refine W_exit ?_|refine xb_hit ?_|refine xb_miss (by decide) ?_|(apply W_reg;(simp;exact .r _))
  refine W_loop (n := l.length) (fun n s => ∃ i : Nat, n = l.length - i ∧ s.nt = 20 ∧ s.tm 3 = .ref 0 i [] ∧ s.tm 7 = Ar l ∧ s.tm 8 = In l.length ∧ s.tm 9 = In i ∧ i ≤ l.length ∧ s.σ.ob 0 = .arr (.own 0) 0 1 (rowsE (l.take i)) ∧ 1 ≤ s.σ.n) ⟨0, by simp⟩ ?_
  rintro n ⟨nt, tm, σ⟩ ⟨i, rfl, hnt, h3, h7, h8, h9, hi, ho, hn⟩
  simp only at hnt h3 h7 h8 h9 ho hn
  subst hnt
  have ap3_ := apart hn
  repeat' first|refine W_seq ?_|refine W_block ?_|refine W_skip ?_|refine W_ret ?_|refine W_exit ?_|refine xb_hit ?_|refine xb_miss (by decide) ?_|(apply W_reg;(simp [h3, h7, h8, h9, ho, hn, ap3_];exact .r _))
  refine W_cond (by simp [h3, h7, h8, h9, ho, hn, ap3_]; exact .r _) (fun hc => ?_) (fun hc => ?_)
  · have hil : i < l.length := by simpa using hc
    have c1 := cv (copyInts_r l[i] (hs _ (List.getElem_mem hil)))
    repeat' first|refine W_seq ?_|refine W_block ?_|refine W_skip ?_|refine W_ret ?_|refine W_exit ?_|refine xb_hit ?_|refine xb_miss (by decide) ?_|(apply W_reg;(simp [h3, h7, h8, h9, ho, hn, ap3_, hil, c1, show min i l.length = i by omega, show i + 1 < 1099511627776 by omega];exact .r _))
    refine ⟨_, ?_, i + 1, rfl, rfl, ?_, ?_, ?_, ?_, by omega, (by simp [h3, h7, h8, h9, ho, hn, ap3_]; rw [rowsE_take l i hil]; simp), ?_⟩
    all_goals first|assumption|(simp [h3, h7, h8, h9, ho, hn, ap3_];done)|(simp [h3, h7, h8, h9, ho, hn, ap3_];omega)|(simp [h3, h7, h8, h9, ho, hn, ap3_];exact wrap_succ (by omega))|omega
  · have hil : i = l.length := by simp at hc; omega
    subst hil
    rw [List.take_length] at ho
    repeat' first|refine W_seq ?_|refine W_block ?_|refine W_skip ?_|refine W_ret ?_|refine W_exit ?_|refine xb_hit ?_|refine xb_miss (by decide) ?_|(apply W_reg;(simp [h3, h7, h8, h9, ho, hn, ap3_];exact .r _))
    simp [ho]
set_option maxRecDepth 10000 in
theorem copyCache_r (x : Cch) (h : SmC x) : Ret XX 223 [Ag x] (.agg [.own 2 (rowsE x.views), if x.tables = [] then .t .nl false else .own 1 (rowsE x.tables), .t (.i .i64 x.version) false]) := by
  refine ret_W rfl Tryz.func223 rfl rfl (by simp [Tryz.f223]) ?_
  simp only [Tryz.f223]
  have c1 := cv (copyQueries_r x.views h.1 h.2.1)
  have hl : x.tables.length < 1099511627775 := h.2.2.1
  repeat' first|refine W_seq ?_|refine W_block ?_|refine W_skip ?_|refine W_ret ?_|refine W_exit ?_|refine xb_hit ?_|refine xb_miss (by decide) ?_|(apply W_reg;(simp [Ag, c1];exact .r _))|(apply W_draw (id := 1) [0,1,3,0,8,31,0,127] rfl rfl; (· simp; exact .r _); (· simp [Ag, c1]; exact .r _); (· first|trivial|simp))
  refine W_loop (n := x.tables.length) (fun n s => ∃ i : Nat, ∃ oT : Nat, ∃ st : Nat, n = x.tables.length - i ∧ s.nt = 28 ∧ s.tm 2 = .ptr 1 0 ∧ s.tm 3 = .ptr 2 0 ∧ s.tm 13 = Ar x.tables ∧ s.tm 14 = In x.tables.length ∧ s.tm 15 = In i ∧ i ≤ x.tables.length ∧ s.σ.ob 1 = .box [.t .nl, .t .nl, In 0] ∧ s.σ.ob 2 = .box [.ref 3 x.views.length [], gc oT i, In x.version] ∧ s.σ.ob 3 = .arr (.own 0) 0 2 (rowsE x.views) ∧ 4 ≤ s.σ.n ∧ (i = 0 ∨ (s.σ.ob oT = .arr (.own 0) st 1 (rowsE (x.tables.take i)) ∧ 4 ≤ oT ∧ oT < s.σ.n))) ⟨0, 0, 0, by simp⟩ ?_
  rintro n ⟨nt, tm, σ⟩ ⟨i, oT, st, rfl, hnt, h2, h3, h13, h14, h15, hi, hb1, hb2, hb3, hn, hT⟩
  simp only at hnt h2 h3 h13 h14 h15 hb1 hb2 hb3 hn hT
  subst hnt
  have ap4_ := apart hn
  repeat' first|refine W_seq ?_|refine W_block ?_|refine W_skip ?_|refine W_ret ?_|refine W_exit ?_|refine xb_hit ?_|refine xb_miss (by decide) ?_|(apply W_reg;(simp [h2, h3, h13, h14, h15, hb1, hb2, hb3, hn, hT, ap4_];exact .r _))
  refine W_cond (by simp [h2, h3, h13, h14, h15, hb1, hb2, hb3, hn, hT, ap4_]; exact .r _) (fun hc => ?_) (fun hc => ?_)
  · have hil : i < x.tables.length := by simpa using hc
    have hs := h.2.2.2 _ (List.getElem_mem hil)
    have c2 := cv (copyLists_r x.tables[i] hs.1 hs.2)
    have hrl : (rowsE x.tables[i]).length = x.tables[i].length := rowsE_len ..
    have hbt : i + 1 < 1099511627776 := by omega
    repeat' first|refine W_seq ?_|refine W_block ?_|refine W_skip ?_|(apply W_reg;(simp [h2, h3, h13, h14, h15, hb1, hb2, hb3, hn, hT, ap4_, hil];exact .r _))
    cases i with
    | zero =>
      repeat' first|refine W_seq ?_|refine W_block ?_|refine W_skip ?_|refine W_ret ?_|refine W_exit ?_|refine xb_hit ?_|refine xb_miss (by decide) ?_|(apply W_reg;(simp [h2, h3, h13, h14, h15, hb1, hb2, hb3, hn, hT, ap4_, c2, hrl];exact .r _))|(apply W_draw (id := 5) [0,1,0,4,12,31,63,127] rfl rfl; (· simp; exact .r _); (· simp [h2, h3, h13, h14, h15, hb1, hb2, hb3, hn, hT, ap4_, c2, hrl]; exact .r _); (· first|trivial|simp))
      refine ⟨_, ?_, 0 + 1, σ.n + 2, 0, rfl, rfl, ?_, ?_, ?_, ?_, ?_, by omega, ?_, ?_, ?_, ?_, (.inr ⟨by (simp [h2, h3, h13, h14, h15, hb1, hb2, hb3, hn, hT, ap4_]; rw [rowsE_take _ _ hil]; simp [rowsE]), by omega, by (simp)⟩)⟩
      all_goals first|assumption|(simp [h2, h3, h13, h14, h15, hb1, hb2, hb3, hn, hT, ap4_];done)|(simp [h2, h3, h13, h14, h15, hb1, hb2, hb3, hn, hT, ap4_];omega)|(simp [h2, h3, h13, h14, h15, hb1, hb2, hb3, hn, hT, ap4_];exact wrap_succ (by omega))|omega
    | succ i =>
      obtain ⟨hT1, hT2, hT3⟩ := hT.resolve_left (by omega)
      have ap5_ := apart hT3
      have ne6_ : ¬ (oT = 0) := by omega
      have ne7_ : ¬ (0 = oT) := by omega
      have ne8_ : ¬ (oT = 1) := by omega
      have ne9_ : ¬ (1 = oT) := by omega
      have ne10_ : ¬ (oT = 2) := by omega
      have ne11_ : ¬ (2 = oT) := by omega
      have ne12_ : ¬ (oT = 3) := by omega
      have ne13_ : ¬ (3 = oT) := by omega
      repeat' first|refine W_seq ?_|refine W_block ?_|refine W_skip ?_|refine W_ret ?_|refine W_exit ?_|refine xb_hit ?_|refine xb_miss (by decide) ?_|(apply W_reg;(simp [h2, h3, h13, h14, h15, hb1, hb2, hb3, hn, hT, ap4_, ap5_, ne6_, ne7_, ne8_, ne9_, ne10_, ne11_, ne12_, ne13_, c2, hrl, hT1, hbt, show min (i + 1) x.tables.length = i + 1 by omega];exact .r _))|(apply W_draw (id := 5) [0,1,0,4,12,31,63,127] rfl rfl; (· simp; exact .r _); (· simp [h2, h3, h13, h14, h15, hb1, hb2, hb3, hn, hT, ap4_, ap5_, ne6_, ne7_, ne8_, ne9_, ne10_, ne11_, ne12_, ne13_, c2, hrl, hT1, hbt, show min (i + 1) x.tables.length = i + 1 by omega]; exact .r _); (· first|trivial|simp))
      refine ⟨_, ?_, i + 1 + 1, oT, st, rfl, rfl, ?_, ?_, ?_, ?_, (by simp [h15]; rw [wrap_ok (by omega) (by omega)]; omega), by omega, ?_, ?_, ?_, ?_, (.inr ⟨by (simp [h2, h3, h13, h14, h15, hb1, hb2, hb3, hn, hT, ap4_, ap5_, ne6_, ne7_, ne8_, ne9_, ne10_, ne11_, ne12_, ne13_]; rw [rowsE_take _ _ hil]; simp [rowsE]), hT2, by (simp; omega)⟩)⟩
      all_goals first|assumption|(simp [h2, h3, h13, h14, h15, hb1, hb2, hb3, hn, hT, ap4_, ap5_, ne6_, ne7_, ne8_, ne9_, ne10_, ne11_, ne12_, ne13_];done)|(simp [h2, h3, h13, h14, h15, hb1, hb2, hb3, hn, hT, ap4_, ap5_, ne6_, ne7_, ne8_, ne9_, ne10_, ne11_, ne12_, ne13_];omega)|(simp [h2, h3, h13, h14, h15, hb1, hb2, hb3, hn, hT, ap4_, ap5_, ne6_, ne7_, ne8_, ne9_, ne10_, ne11_, ne12_, ne13_];exact wrap_succ (by omega))|omega
  · have hil : i = x.tables.length := by simp at hc; omega
    subst hil
    by_cases e : x.tables = []
    · rw [if_pos e]
      have hgc : gc oT x.tables.length = .t .nl := by rw [e]; rfl
      repeat' first|refine W_seq ?_|refine W_block ?_|refine W_skip ?_|refine W_ret ?_|refine W_exit ?_|refine xb_hit ?_|refine xb_miss (by decide) ?_|(apply W_reg;(simp [h2, h3, h13, h14, h15, hb1, hb2, hb3, hn, hT, ap4_, hgc];exact .r _))
      simp [hgc, hb3, h2, h3, h13, h14, h15, hb1, hb2, hb3, hn, hT, ap4_]
    · rw [if_neg e]
      have hne : x.tables.length ≠ 0 := fun hh => e (List.length_eq_zero_iff.1 hh)
      obtain ⟨hT1, hT2, hT3⟩ := hT.resolve_left hne
      rw [List.take_length] at hT1
      have hgc := gc_pos (o := oT) hne
      have ne14_ : ¬ (oT = 0) := by omega
      have ne15_ : ¬ (0 = oT) := by omega
      have ne16_ : ¬ (oT = 1) := by omega
      have ne17_ : ¬ (1 = oT) := by omega
      have ne18_ : ¬ (oT = 2) := by omega
      have ne19_ : ¬ (2 = oT) := by omega
      have ne20_ : ¬ (oT = 3) := by omega
      have ne21_ : ¬ (3 = oT) := by omega
      repeat' first|refine W_seq ?_|refine W_block ?_|refine W_skip ?_|refine W_ret ?_|refine W_exit ?_|refine xb_hit ?_|refine xb_miss (by decide) ?_|(apply W_reg;(simp [h2, h3, h13, h14, h15, hb1, hb2, hb3, hn, hT, ap4_, ne14_, ne15_, ne16_, ne17_, ne18_, ne19_, ne20_, ne21_, hgc];exact .r _))
      simp [hgc, hb3, hT1, h2, h3, h13, h14, h15, hb1, hb2, hb3, hn, hT, ap4_, ne14_, ne15_, ne16_, ne17_, ne18_, ne19_, ne20_, ne21_]
def addOk (c : Sch) (l : List RA) (f : RA) : Bool := isDb c l && isFact c f && !decide (f ∈ l) && !decide (l.length = 24)
def appOk (c : Sch) (s : Src) (d : Chg) : Bool := isSrc c s && !decide (s.version = 1000) && if d.insert then addOk c s.facts d.fact else isDb c s.facts && decide (d.fact ∈ s.facts)
def appF (s : Src) (d : Chg) : List RA := if d.insert then addF s.facts d.fact else remF s.facts d.fact
def xApp (c : Sch) (s : Src) (d : Chg) : XV := if appOk c s d then .tup [xvS (appF s d) (s.version + 1), .t (.b true) false] else .tup [xvS s.facts s.version, .t (.b false) false]
theorem implApply_r (c : Sch) (s : Src) (d : Chg) (sc : Sm c.arity) (h : SmF s.facts) (hf : Sm d.fact.args) : Ret XX 222 [Ag c, Ag s, Ag d] (xApp c s d) := by
  refine ret_W rfl Tryz.func222 rfl rfl (by simp [Tryz.f222]) ?_
  simp only [Tryz.f222]
  have c1 := cv (implIsSrc_r c s sc h.1 h.2)
  have c2 := cv (copySource_r s h)
  have c3 := cv (implRem_r c s.facts d.fact sc h hf)
  have c4 := cv (implAdd_r c s.facts d.fact sc h hf)
  simp only [Ag, cells_Sch, cells_RA, cells_Src, List.map_cons, List.map_nil] at c1 c2 c3 c4
  cases e1 : isSrc c s
  · repeat' first|refine W_seq ?_|refine W_block ?_|refine W_skip ?_|refine W_ret ?_|refine W_exit ?_|refine xb_hit ?_|refine xb_miss (by decide) ?_|(apply W_reg;(simp [Ag, c1, c2, e1];exact .r _))
    refine W_cond (by simp; exact .r _) (fun hc => ?_) (fun hc => ?_)
    · repeat' first|refine W_seq ?_|refine W_block ?_|refine W_skip ?_|refine W_ret ?_|refine W_exit ?_|refine xb_hit ?_|refine xb_miss (by decide) ?_|(apply W_reg;(simp [c2];exact .r _))
      simp [xApp, appOk, e1]
    · cases hc
  have hdb : isDb c s.facts = true ∧ 0 ≤ s.version ∧ s.version ≤ 1000 := by simpa [isSrc, inR] using e1
  by_cases e2 : s.version = 1000
  · rw [e2] at c2
    repeat' first|refine W_seq ?_|refine W_block ?_|refine W_skip ?_|refine W_ret ?_|refine W_exit ?_|refine xb_hit ?_|refine xb_miss (by decide) ?_|(apply W_reg;(simp [Ag, c1, e1, e2];exact .r _))
    refine W_cond (by simp; exact .r _) (fun hc => ?_) (fun hc => ?_)
    · repeat' first|refine W_seq ?_|refine W_block ?_|refine W_skip ?_|refine W_ret ?_|refine W_exit ?_|refine xb_hit ?_|refine xb_miss (by decide) ?_|(apply W_reg;(simp [c2];exact .r _))
      simp [xApp, appOk, e2]
    · simp at hc
  have wr22_ : IntKind.i64.wrap (s.version + 1) = s.version + 1 := wrap_ok (by omega) (by omega)
  have hapo : appOk c s d = if d.insert then addOk c s.facts d.fact else decide (d.fact ∈ s.facts) := by simp [appOk, e1, e2, hdb.1]
  by_cases e3 : d.fact ∈ s.facts
  · rw [show xRem c s.facts d.fact = .tup [.own 2 (rowsE (remF s.facts d.fact)), .t (.b true) false] by simp [xRem, hdb.1, e3]] at c3
    rw [show xAdd c s.facts d.fact = .tup [.own 2 (rowsE s.facts), .t (.b false) false] by simp [xAdd, e3]] at c4
    cases e4 : d.insert
    · rw [e4, if_neg (by decide), decide_eq_true e3] at hapo
      repeat' first|refine W_seq ?_|refine W_block ?_|refine W_skip ?_|refine W_ret ?_|refine W_exit ?_|refine xb_hit ?_|refine xb_miss (by decide) ?_|(apply W_reg;(simp [wr22_, Ag, c1, c2, e1, e2];exact .r _))
      refine W_cond (by simp [wr22_]; exact .r _) (fun hc => ?_) (fun hc => ?_)
      · simp at hc
      repeat' first|refine W_seq ?_|refine W_block ?_|refine W_skip ?_|refine W_ret ?_|refine W_exit ?_|refine xb_hit ?_|refine xb_miss (by decide) ?_|(apply W_reg;(simp [wr22_, c3, c4, e4];exact .r _))
      refine W_cond (by simp [wr22_]; exact .r _) (fun hd0 => ?_) (fun hd0 => ?_)
      · cases hd0
      repeat' first|refine W_seq ?_|refine W_block ?_|refine W_skip ?_|refine W_ret ?_|refine W_exit ?_|refine xb_hit ?_|refine xb_miss (by decide) ?_|(apply W_reg;(simp [wr22_, c2, c3, c4, e4];exact .r _))
      refine W_cond (by simp [wr22_]; exact .r _) (fun hd1 => ?_) (fun hd1 => ?_)
      · cases hd1
      repeat' first|refine W_seq ?_|refine W_block ?_|refine W_skip ?_|refine W_ret ?_|refine W_exit ?_|refine xb_hit ?_|refine xb_miss (by decide) ?_|(apply W_reg;(simp [wr22_, c2, c3, c4, e4];exact .r _))
      simp [xApp, hapo, appF, e4]
    · rw [e4, if_pos rfl, show addOk c s.facts d.fact = false by simp [addOk, e3]] at hapo
      repeat' first|refine W_seq ?_|refine W_block ?_|refine W_skip ?_|refine W_ret ?_|refine W_exit ?_|refine xb_hit ?_|refine xb_miss (by decide) ?_|(apply W_reg;(simp [wr22_, Ag, c1, c2, e1, e2];exact .r _))
      refine W_cond (by simp [wr22_]; exact .r _) (fun hc => ?_) (fun hc => ?_)
      · simp at hc
      repeat' first|refine W_seq ?_|refine W_block ?_|refine W_skip ?_|refine W_ret ?_|refine W_exit ?_|refine xb_hit ?_|refine xb_miss (by decide) ?_|(apply W_reg;(simp [wr22_, c3, c4, e4];exact .r _))
      refine W_cond (by simp [wr22_]; exact .r _) (fun hd0 => ?_) (fun hd0 => ?_)
      rotate_left
      · cases hd0
      repeat' first|refine W_seq ?_|refine W_block ?_|refine W_skip ?_|refine W_ret ?_|refine W_exit ?_|refine xb_hit ?_|refine xb_miss (by decide) ?_|(apply W_reg;(simp [wr22_, c2, c3, c4, e4];exact .r _))
      refine W_cond (by simp [wr22_]; exact .r _) (fun hd1 => ?_) (fun hd1 => ?_)
      rotate_left
      · cases hd1
      repeat' first|refine W_seq ?_|refine W_block ?_|refine W_skip ?_|refine W_ret ?_|refine W_exit ?_|refine xb_hit ?_|refine xb_miss (by decide) ?_|(apply W_reg;(simp [wr22_, c2, c3, c4, e4];exact .r _))
      simp [xApp, hapo]
  · rw [show xRem c s.facts d.fact = .tup [.own 2 (rowsE s.facts), .t (.b false) false] by simp [xRem, e3]] at c3
    cases e4 : d.insert
    · rw [e4, if_neg (by decide), decide_eq_false e3] at hapo
      cases e5 : addOk c s.facts d.fact
      · rw [show xAdd c s.facts d.fact = .tup [.own 2 (rowsE s.facts), .t (.b false) false] from if_neg (by rw [← addOk, e5]; decide)] at c4
        repeat' first|refine W_seq ?_|refine W_block ?_|refine W_skip ?_|refine W_ret ?_|refine W_exit ?_|refine xb_hit ?_|refine xb_miss (by decide) ?_|(apply W_reg;(simp [wr22_, Ag, c1, c2, e1, e2];exact .r _))
        refine W_cond (by simp [wr22_]; exact .r _) (fun hc => ?_) (fun hc => ?_)
        · simp at hc
        repeat' first|refine W_seq ?_|refine W_block ?_|refine W_skip ?_|refine W_ret ?_|refine W_exit ?_|refine xb_hit ?_|refine xb_miss (by decide) ?_|(apply W_reg;(simp [wr22_, c3, c4, e4];exact .r _))
        refine W_cond (by simp [wr22_]; exact .r _) (fun hd0 => ?_) (fun hd0 => ?_)
        · cases hd0
        repeat' first|refine W_seq ?_|refine W_block ?_|refine W_skip ?_|refine W_ret ?_|refine W_exit ?_|refine xb_hit ?_|refine xb_miss (by decide) ?_|(apply W_reg;(simp [wr22_, c2, c3, c4, e4];exact .r _))
        refine W_cond (by simp [wr22_]; exact .r _) (fun hd1 => ?_) (fun hd1 => ?_)
        rotate_left
        · cases hd1
        repeat' first|refine W_seq ?_|refine W_block ?_|refine W_skip ?_|refine W_ret ?_|refine W_exit ?_|refine xb_hit ?_|refine xb_miss (by decide) ?_|(apply W_reg;(simp [wr22_, c2, c3, c4, e4];exact .r _))
        simp [xApp, hapo]
      · rw [show xAdd c s.facts d.fact = .tup [.own 2 (rowsE (addF s.facts d.fact)), .t (.b true) false] from if_pos e5] at c4
        repeat' first|refine W_seq ?_|refine W_block ?_|refine W_skip ?_|refine W_ret ?_|refine W_exit ?_|refine xb_hit ?_|refine xb_miss (by decide) ?_|(apply W_reg;(simp [wr22_, Ag, c1, c2, e1, e2];exact .r _))
        refine W_cond (by simp [wr22_]; exact .r _) (fun hc => ?_) (fun hc => ?_)
        · simp at hc
        repeat' first|refine W_seq ?_|refine W_block ?_|refine W_skip ?_|refine W_ret ?_|refine W_exit ?_|refine xb_hit ?_|refine xb_miss (by decide) ?_|(apply W_reg;(simp [wr22_, c3, c4, e4];exact .r _))
        refine W_cond (by simp [wr22_]; exact .r _) (fun hd0 => ?_) (fun hd0 => ?_)
        · cases hd0
        repeat' first|refine W_seq ?_|refine W_block ?_|refine W_skip ?_|refine W_ret ?_|refine W_exit ?_|refine xb_hit ?_|refine xb_miss (by decide) ?_|(apply W_reg;(simp [wr22_, c2, c3, c4, e4];exact .r _))
        refine W_cond (by simp [wr22_]; exact .r _) (fun hd1 => ?_) (fun hd1 => ?_)
        rotate_left
        · cases hd1
        repeat' first|refine W_seq ?_|refine W_block ?_|refine W_skip ?_|refine W_ret ?_|refine W_exit ?_|refine xb_hit ?_|refine xb_miss (by decide) ?_|(apply W_reg;(simp [wr22_, c2, c3, c4, e4];exact .r _))
        simp [xApp, hapo]
    · rw [e4, if_pos rfl] at hapo
      cases e5 : addOk c s.facts d.fact
      · rw [e5] at hapo
        rw [show xAdd c s.facts d.fact = .tup [.own 2 (rowsE s.facts), .t (.b false) false] from if_neg (by rw [← addOk, e5]; decide)] at c4
        repeat' first|refine W_seq ?_|refine W_block ?_|refine W_skip ?_|refine W_ret ?_|refine W_exit ?_|refine xb_hit ?_|refine xb_miss (by decide) ?_|(apply W_reg;(simp [wr22_, Ag, c1, c2, e1, e2];exact .r _))
        refine W_cond (by simp [wr22_]; exact .r _) (fun hc => ?_) (fun hc => ?_)
        · simp at hc
        repeat' first|refine W_seq ?_|refine W_block ?_|refine W_skip ?_|refine W_ret ?_|refine W_exit ?_|refine xb_hit ?_|refine xb_miss (by decide) ?_|(apply W_reg;(simp [wr22_, c3, c4, e4];exact .r _))
        refine W_cond (by simp [wr22_]; exact .r _) (fun hd0 => ?_) (fun hd0 => ?_)
        rotate_left
        · cases hd0
        repeat' first|refine W_seq ?_|refine W_block ?_|refine W_skip ?_|refine W_ret ?_|refine W_exit ?_|refine xb_hit ?_|refine xb_miss (by decide) ?_|(apply W_reg;(simp [wr22_, c2, c3, c4, e4];exact .r _))
        refine W_cond (by simp [wr22_]; exact .r _) (fun hd1 => ?_) (fun hd1 => ?_)
        rotate_left
        · cases hd1
        repeat' first|refine W_seq ?_|refine W_block ?_|refine W_skip ?_|refine W_ret ?_|refine W_exit ?_|refine xb_hit ?_|refine xb_miss (by decide) ?_|(apply W_reg;(simp [wr22_, c2, c3, c4, e4];exact .r _))
        simp [xApp, hapo]
      · rw [e5] at hapo
        rw [show xAdd c s.facts d.fact = .tup [.own 2 (rowsE (addF s.facts d.fact)), .t (.b true) false] from if_pos e5] at c4
        repeat' first|refine W_seq ?_|refine W_block ?_|refine W_skip ?_|refine W_ret ?_|refine W_exit ?_|refine xb_hit ?_|refine xb_miss (by decide) ?_|(apply W_reg;(simp [wr22_, Ag, c1, c2, e1, e2];exact .r _))
        refine W_cond (by simp [wr22_]; exact .r _) (fun hc => ?_) (fun hc => ?_)
        · simp at hc
        repeat' first|refine W_seq ?_|refine W_block ?_|refine W_skip ?_|refine W_ret ?_|refine W_exit ?_|refine xb_hit ?_|refine xb_miss (by decide) ?_|(apply W_reg;(simp [wr22_, c3, c4, e4];exact .r _))
        refine W_cond (by simp [wr22_]; exact .r _) (fun hd0 => ?_) (fun hd0 => ?_)
        rotate_left
        · cases hd0
        repeat' first|refine W_seq ?_|refine W_block ?_|refine W_skip ?_|refine W_ret ?_|refine W_exit ?_|refine xb_hit ?_|refine xb_miss (by decide) ?_|(apply W_reg;(simp [wr22_, c2, c3, c4, e4];exact .r _))
        refine W_cond (by simp [wr22_]; exact .r _) (fun hd1 => ?_) (fun hd1 => ?_)
        · cases hd1
        repeat' first|refine W_seq ?_|refine W_block ?_|refine W_skip ?_|refine W_ret ?_|refine W_exit ?_|refine xb_hit ?_|refine xb_miss (by decide) ?_|(apply W_reg;(simp [wr22_, c2, c3, c4, e4];exact .r _))
        simp [xApp, hapo, appF, e4]
theorem specApply_r (c : Sch) (s : Src) (d : Chg) (sc : Sm c.arity) (h : SmF s.facts) (hf : Sm d.fact.args) : Ret XX 225 [Ag c, Ag s, Ag d] (xApp c s d) := by
  refine ret_W rfl Tryz.func225 rfl rfl (by simp [Tryz.f225]) ?_
  simp only [Tryz.f225]
  have c1 := cv (specIsSrc_r c s sc h.1 h.2)
  have c2 := cv (l5All_r s.facts h)
  have c3 := cv (specRem_r c s.facts d.fact sc h hf)
  have c4 := cv (specAdd_r c s.facts d.fact sc h hf)
  simp only [Ag, cells_Sch, cells_RA, cells_Src, List.map_cons, List.map_nil] at c1 c3 c4
  cases e1 : isSrc c s
  · repeat' first|refine W_seq ?_|refine W_block ?_|refine W_skip ?_|refine W_ret ?_|refine W_exit ?_|refine xb_hit ?_|refine xb_miss (by decide) ?_|(apply W_reg;(simp [Ag, c1, c2, e1];exact .r _))|(apply W_draw (id := 1) [0,1,3,0,8,31,0,127] rfl rfl; (· simp; exact .r _); (· simp [Ag, c1, c2, e1]; exact .r _); (· first|trivial|simp))
    refine W_cond (by simp; exact .r _) (fun hc => ?_) (fun hc => ?_)
    · repeat' first|refine W_seq ?_|refine W_block ?_|refine W_skip ?_|refine W_ret ?_|refine W_exit ?_|refine xb_hit ?_|refine xb_miss (by decide) ?_|(apply W_reg;(simp [c2];exact .r _))
      simp [xApp, appOk, e1]
    · cases hc
  have hdb : isDb c s.facts = true ∧ 0 ≤ s.version ∧ s.version ≤ 1000 := by simpa [isSrc, inR] using e1
  by_cases e2 : s.version = 1000
  · repeat' first|refine W_seq ?_|refine W_block ?_|refine W_skip ?_|refine W_ret ?_|refine W_exit ?_|refine xb_hit ?_|refine xb_miss (by decide) ?_|(apply W_reg;(simp [Ag, c1, c2, e1, e2];exact .r _))|(apply W_draw (id := 1) [0,1,3,0,8,31,0,127] rfl rfl; (· simp; exact .r _); (· simp [Ag, c1, c2, e1, e2]; exact .r _); (· first|trivial|simp))
    refine W_cond (by simp; exact .r _) (fun hc => ?_) (fun hc => ?_)
    · repeat' first|refine W_seq ?_|refine W_block ?_|refine W_skip ?_|refine W_ret ?_|refine W_exit ?_|refine xb_hit ?_|refine xb_miss (by decide) ?_|(apply W_reg;(simp [c2];exact .r _))
      simp [xApp, appOk, e2]
    · simp at hc
  have wr23_ : IntKind.i64.wrap (s.version + 1) = s.version + 1 := wrap_ok (by omega) (by omega)
  have hapo : appOk c s d = if d.insert then addOk c s.facts d.fact else decide (d.fact ∈ s.facts) := by simp [appOk, e1, e2, hdb.1]
  by_cases e3 : d.fact ∈ s.facts
  · rw [show xRem c s.facts d.fact = .tup [.own 2 (rowsE (remF s.facts d.fact)), .t (.b true) false] by simp [xRem, hdb.1, e3]] at c3
    rw [show xAdd c s.facts d.fact = .tup [.own 2 (rowsE s.facts), .t (.b false) false] by simp [xAdd, e3]] at c4
    cases e4 : d.insert
    · rw [e4, if_neg (by decide), decide_eq_true e3] at hapo
      repeat' first|refine W_seq ?_|refine W_block ?_|refine W_skip ?_|refine W_ret ?_|refine W_exit ?_|refine xb_hit ?_|refine xb_miss (by decide) ?_|(apply W_reg;(simp [wr23_, Ag, c1, c2, e1, e2, show ¬ 1000 ≤ s.version by omega];exact .r _))|(apply W_draw (id := 1) [0,1,3,0,8,31,0,127] rfl rfl; (· simp; exact .r _); (· simp [wr23_, Ag, c1, c2, e1, e2, show ¬ 1000 ≤ s.version by omega]; exact .r _); (· first|trivial|simp))
      refine W_cond (by simp [wr23_]; exact .r _) (fun hc => ?_) (fun hc => ?_)
      · simp at hc
      repeat' first|refine W_seq ?_|refine W_block ?_|refine W_skip ?_|refine W_ret ?_|refine W_exit ?_|refine xb_hit ?_|refine xb_miss (by decide) ?_|(apply W_reg;(simp [wr23_, c3, c4, e4];exact .r _))
      refine W_cond (by simp [wr23_]; exact .r _) (fun hd0 => ?_) (fun hd0 => ?_)
      rotate_left
      · cases hd0
      repeat' first|refine W_seq ?_|refine W_block ?_|refine W_skip ?_|refine W_ret ?_|refine W_exit ?_|refine xb_hit ?_|refine xb_miss (by decide) ?_|(apply W_reg;(simp [wr23_, c2, c3, c4, e4];exact .r _))
      refine W_cond (by simp [wr23_]; exact .r _) (fun hd1 => ?_) (fun hd1 => ?_)
      · cases hd1
      repeat' first|refine W_seq ?_|refine W_block ?_|refine W_skip ?_|refine W_ret ?_|refine W_exit ?_|refine xb_hit ?_|refine xb_miss (by decide) ?_|(apply W_reg;(simp [wr23_, c2, c3, c4, e4];exact .r _))
      simp [xApp, hapo, appF, e4]
    · rw [e4, if_pos rfl, show addOk c s.facts d.fact = false by simp [addOk, e3]] at hapo
      repeat' first|refine W_seq ?_|refine W_block ?_|refine W_skip ?_|refine W_ret ?_|refine W_exit ?_|refine xb_hit ?_|refine xb_miss (by decide) ?_|(apply W_reg;(simp [wr23_, Ag, c1, c2, e1, e2, show ¬ 1000 ≤ s.version by omega];exact .r _))|(apply W_draw (id := 1) [0,1,3,0,8,31,0,127] rfl rfl; (· simp; exact .r _); (· simp [wr23_, Ag, c1, c2, e1, e2, show ¬ 1000 ≤ s.version by omega]; exact .r _); (· first|trivial|simp))
      refine W_cond (by simp [wr23_]; exact .r _) (fun hc => ?_) (fun hc => ?_)
      · simp at hc
      repeat' first|refine W_seq ?_|refine W_block ?_|refine W_skip ?_|refine W_ret ?_|refine W_exit ?_|refine xb_hit ?_|refine xb_miss (by decide) ?_|(apply W_reg;(simp [wr23_, c3, c4, e4];exact .r _))
      refine W_cond (by simp [wr23_]; exact .r _) (fun hd0 => ?_) (fun hd0 => ?_)
      · cases hd0
      repeat' first|refine W_seq ?_|refine W_block ?_|refine W_skip ?_|refine W_ret ?_|refine W_exit ?_|refine xb_hit ?_|refine xb_miss (by decide) ?_|(apply W_reg;(simp [wr23_, c2, c3, c4, e4];exact .r _))
      refine W_cond (by simp [wr23_]; exact .r _) (fun hd1 => ?_) (fun hd1 => ?_)
      rotate_left
      · cases hd1
      repeat' first|refine W_seq ?_|refine W_block ?_|refine W_skip ?_|refine W_ret ?_|refine W_exit ?_|refine xb_hit ?_|refine xb_miss (by decide) ?_|(apply W_reg;(simp [wr23_, c2, c3, c4, e4];exact .r _))
      simp [xApp, hapo]
  · rw [show xRem c s.facts d.fact = .tup [.own 2 (rowsE s.facts), .t (.b false) false] by simp [xRem, e3]] at c3
    cases e4 : d.insert
    · rw [e4, if_neg (by decide), decide_eq_false e3] at hapo
      cases e5 : addOk c s.facts d.fact
      · rw [show xAdd c s.facts d.fact = .tup [.own 2 (rowsE s.facts), .t (.b false) false] from if_neg (by rw [← addOk, e5]; decide)] at c4
        repeat' first|refine W_seq ?_|refine W_block ?_|refine W_skip ?_|refine W_ret ?_|refine W_exit ?_|refine xb_hit ?_|refine xb_miss (by decide) ?_|(apply W_reg;(simp [wr23_, Ag, c1, c2, e1, e2, show ¬ 1000 ≤ s.version by omega];exact .r _))|(apply W_draw (id := 1) [0,1,3,0,8,31,0,127] rfl rfl; (· simp; exact .r _); (· simp [wr23_, Ag, c1, c2, e1, e2, show ¬ 1000 ≤ s.version by omega]; exact .r _); (· first|trivial|simp))
        refine W_cond (by simp [wr23_]; exact .r _) (fun hc => ?_) (fun hc => ?_)
        · simp at hc
        repeat' first|refine W_seq ?_|refine W_block ?_|refine W_skip ?_|refine W_ret ?_|refine W_exit ?_|refine xb_hit ?_|refine xb_miss (by decide) ?_|(apply W_reg;(simp [wr23_, c3, c4, e4];exact .r _))
        refine W_cond (by simp [wr23_]; exact .r _) (fun hd0 => ?_) (fun hd0 => ?_)
        rotate_left
        · cases hd0
        repeat' first|refine W_seq ?_|refine W_block ?_|refine W_skip ?_|refine W_ret ?_|refine W_exit ?_|refine xb_hit ?_|refine xb_miss (by decide) ?_|(apply W_reg;(simp [wr23_, c2, c3, c4, e4];exact .r _))
        refine W_cond (by simp [wr23_]; exact .r _) (fun hd1 => ?_) (fun hd1 => ?_)
        rotate_left
        · cases hd1
        repeat' first|refine W_seq ?_|refine W_block ?_|refine W_skip ?_|refine W_ret ?_|refine W_exit ?_|refine xb_hit ?_|refine xb_miss (by decide) ?_|(apply W_reg;(simp [wr23_, c2, c3, c4, e4];exact .r _))
        simp [xApp, hapo]
      · rw [show xAdd c s.facts d.fact = .tup [.own 2 (rowsE (addF s.facts d.fact)), .t (.b true) false] from if_pos e5] at c4
        repeat' first|refine W_seq ?_|refine W_block ?_|refine W_skip ?_|refine W_ret ?_|refine W_exit ?_|refine xb_hit ?_|refine xb_miss (by decide) ?_|(apply W_reg;(simp [wr23_, Ag, c1, c2, e1, e2, show ¬ 1000 ≤ s.version by omega];exact .r _))|(apply W_draw (id := 1) [0,1,3,0,8,31,0,127] rfl rfl; (· simp; exact .r _); (· simp [wr23_, Ag, c1, c2, e1, e2, show ¬ 1000 ≤ s.version by omega]; exact .r _); (· first|trivial|simp))
        refine W_cond (by simp [wr23_]; exact .r _) (fun hc => ?_) (fun hc => ?_)
        · simp at hc
        repeat' first|refine W_seq ?_|refine W_block ?_|refine W_skip ?_|refine W_ret ?_|refine W_exit ?_|refine xb_hit ?_|refine xb_miss (by decide) ?_|(apply W_reg;(simp [wr23_, c3, c4, e4];exact .r _))
        refine W_cond (by simp [wr23_]; exact .r _) (fun hd0 => ?_) (fun hd0 => ?_)
        rotate_left
        · cases hd0
        repeat' first|refine W_seq ?_|refine W_block ?_|refine W_skip ?_|refine W_ret ?_|refine W_exit ?_|refine xb_hit ?_|refine xb_miss (by decide) ?_|(apply W_reg;(simp [wr23_, c2, c3, c4, e4];exact .r _))
        refine W_cond (by simp [wr23_]; exact .r _) (fun hd1 => ?_) (fun hd1 => ?_)
        rotate_left
        · cases hd1
        repeat' first|refine W_seq ?_|refine W_block ?_|refine W_skip ?_|refine W_ret ?_|refine W_exit ?_|refine xb_hit ?_|refine xb_miss (by decide) ?_|(apply W_reg;(simp [wr23_, c2, c3, c4, e4];exact .r _))
        simp [xApp, hapo]
    · rw [e4, if_pos rfl] at hapo
      cases e5 : addOk c s.facts d.fact
      · rw [e5] at hapo
        rw [show xAdd c s.facts d.fact = .tup [.own 2 (rowsE s.facts), .t (.b false) false] from if_neg (by rw [← addOk, e5]; decide)] at c4
        repeat' first|refine W_seq ?_|refine W_block ?_|refine W_skip ?_|refine W_ret ?_|refine W_exit ?_|refine xb_hit ?_|refine xb_miss (by decide) ?_|(apply W_reg;(simp [wr23_, Ag, c1, c2, e1, e2, show ¬ 1000 ≤ s.version by omega];exact .r _))|(apply W_draw (id := 1) [0,1,3,0,8,31,0,127] rfl rfl; (· simp; exact .r _); (· simp [wr23_, Ag, c1, c2, e1, e2, show ¬ 1000 ≤ s.version by omega]; exact .r _); (· first|trivial|simp))
        refine W_cond (by simp [wr23_]; exact .r _) (fun hc => ?_) (fun hc => ?_)
        · simp at hc
        repeat' first|refine W_seq ?_|refine W_block ?_|refine W_skip ?_|refine W_ret ?_|refine W_exit ?_|refine xb_hit ?_|refine xb_miss (by decide) ?_|(apply W_reg;(simp [wr23_, c3, c4, e4];exact .r _))
        refine W_cond (by simp [wr23_]; exact .r _) (fun hd0 => ?_) (fun hd0 => ?_)
        · cases hd0
        repeat' first|refine W_seq ?_|refine W_block ?_|refine W_skip ?_|refine W_ret ?_|refine W_exit ?_|refine xb_hit ?_|refine xb_miss (by decide) ?_|(apply W_reg;(simp [wr23_, c2, c3, c4, e4];exact .r _))
        refine W_cond (by simp [wr23_]; exact .r _) (fun hd1 => ?_) (fun hd1 => ?_)
        rotate_left
        · cases hd1
        repeat' first|refine W_seq ?_|refine W_block ?_|refine W_skip ?_|refine W_ret ?_|refine W_exit ?_|refine xb_hit ?_|refine xb_miss (by decide) ?_|(apply W_reg;(simp [wr23_, c2, c3, c4, e4];exact .r _))
        simp [xApp, hapo]
      · rw [e5] at hapo
        rw [show xAdd c s.facts d.fact = .tup [.own 2 (rowsE (addF s.facts d.fact)), .t (.b true) false] from if_pos e5] at c4
        repeat' first|refine W_seq ?_|refine W_block ?_|refine W_skip ?_|refine W_ret ?_|refine W_exit ?_|refine xb_hit ?_|refine xb_miss (by decide) ?_|(apply W_reg;(simp [wr23_, Ag, c1, c2, e1, e2, show ¬ 1000 ≤ s.version by omega];exact .r _))|(apply W_draw (id := 1) [0,1,3,0,8,31,0,127] rfl rfl; (· simp; exact .r _); (· simp [wr23_, Ag, c1, c2, e1, e2, show ¬ 1000 ≤ s.version by omega]; exact .r _); (· first|trivial|simp))
        refine W_cond (by simp [wr23_]; exact .r _) (fun hc => ?_) (fun hc => ?_)
        · simp at hc
        repeat' first|refine W_seq ?_|refine W_block ?_|refine W_skip ?_|refine W_ret ?_|refine W_exit ?_|refine xb_hit ?_|refine xb_miss (by decide) ?_|(apply W_reg;(simp [wr23_, c3, c4, e4];exact .r _))
        refine W_cond (by simp [wr23_]; exact .r _) (fun hd0 => ?_) (fun hd0 => ?_)
        · cases hd0
        repeat' first|refine W_seq ?_|refine W_block ?_|refine W_skip ?_|refine W_ret ?_|refine W_exit ?_|refine xb_hit ?_|refine xb_miss (by decide) ?_|(apply W_reg;(simp [wr23_, c2, c3, c4, e4];exact .r _))
        refine W_cond (by simp [wr23_]; exact .r _) (fun hd1 => ?_) (fun hd1 => ?_)
        · cases hd1
        repeat' first|refine W_seq ?_|refine W_block ?_|refine W_skip ?_|refine W_ret ?_|refine W_exit ?_|refine xb_hit ?_|refine xb_miss (by decide) ?_|(apply W_reg;(simp [wr23_, c2, c3, c4, e4];exact .r _))
        simp [xApp, hapo, appF, e4]
end Go.Proofs.YtmfifjbbjjdacaaGreat.V

namespace Go.Proofs.YtmfifjbbjjdacaaGreat.V
open Go Go.Proofs
set_option linter.unusedVariables false
set_option linter.unusedSimpArgs false
def xvV (vs : List Qry) : XV := if vs = [] then .t .nl false else .own 2 (rowsE vs)
def xvT (ts : List (List Row)) : XV := if ts = [] then .t .nl false else .own 1 (rowsE ts)
set_option maxRecDepth 10000 in
theorem l18Copy_r (x : Cch) (h : SmC x) : Ret XX 226 [Ag x] (.agg [xvV x.views, xvT x.tables, .t (.i .i64 x.version) false]) := by
  refine ret_W rfl Tryz.func226 rfl rfl (by simp [Tryz.f226]) ?_
  simp only [Tryz.f226]
  have hv : x.views.length < 1099511627775 := h.1
  have hl : x.tables.length < 1099511627775 := h.2.2.1
  repeat' first|refine W_seq ?_|refine W_block ?_|refine W_skip ?_|refine W_ret ?_|refine W_exit ?_|refine xb_hit ?_|refine xb_miss (by decide) ?_|(apply W_reg;(simp [Ag];exact .r _))
  refine W_loop (n := x.views.length) (fun n s => ∃ i : Nat, ∃ oV : Nat, ∃ sV : Nat, n = x.views.length - i ∧ s.nt = 67 ∧ s.tm 1 = .ptr 0 0 ∧ s.tm 2 = .ptr 1 0 ∧ s.tm 3 = .ptr 2 0 ∧ s.tm 4 = In i ∧ i ≤ x.views.length ∧ s.σ.ob 0 = .box [Ar x.views, Ar x.tables, In x.version] ∧ s.σ.ob 1 = .box [.t .nl, .t .nl, In 0] ∧ s.σ.ob 2 = .box [gc oV i, .t .nl, In x.version] ∧ 3 ≤ s.σ.n ∧ (i = 0 ∨ (s.σ.ob oV = .arr (.own 0) sV 2 (rowsE (x.views.take i)) ∧ 3 ≤ oV ∧ oV < s.σ.n))) ⟨0, 0, 0, by simp⟩ ?_
  rintro n ⟨nt, tm, σ⟩ ⟨i, oV, sV, rfl, hnt, h1, h2, h3, h4, hi, hb0, hb1, hb2, hn, hV⟩
  simp only at hnt h1 h2 h3 h4 hb0 hb1 hb2 hn hV
  subst hnt
  have ap1_ := apart hn
  repeat' first|refine W_seq ?_|refine W_block ?_|refine W_skip ?_|refine W_ret ?_|refine W_exit ?_|refine xb_hit ?_|refine xb_miss (by decide) ?_|(apply W_reg;(simp [h1, h2, h3, h4, hb0, hb1, hb2, hn, hV, ap1_];exact .r _))
  refine W_cond (by simp [h1, h2, h3, h4, hb0, hb1, hb2, hn, hV, ap1_]; exact .r _) (fun hc => ?_) (fun hc => ?_)
  · have hil : i < x.views.length := by simpa using hc
    have hq := h.2.1 _ (List.getElem_mem hil)
    have hbt : i + 1 < 1099511627776 := by omega
    have htk := rowsE_take x.views i hil
    by_cases eb : x.views[i].body = []
    · have c2 := cv (l4Copy_e _ hq eb)
      simp only [Ag, cells_Q, List.map_cons, List.map_nil] at c2
      rcases Nat.eq_zero_or_pos i with rfl | hpos
      · repeat' first|refine W_seq ?_|refine W_block ?_|refine W_skip ?_|refine W_ret ?_|refine W_exit ?_|refine xb_hit ?_|refine xb_miss (by decide) ?_|(apply W_reg;(simp [h1, h2, h3, h4, hb0, hb1, hb2, hn, hV, ap1_, hil, c2];exact .r _))|(apply W_draw (id := 5) [0,1,0,4,0,28,60,124,252,511,1023,2047] rfl rfl; (· simp; exact .r _); (· simp [h1, h2, h3, h4, hb0, hb1, hb2, hn, hV, ap1_, hil, c2]; exact .r _); (· first|trivial|simp))
        refine ⟨_, ?_, 0 + 1, σ.n + 2, 0, rfl, rfl, ?_, ?_, ?_, ?_, by omega, ?_, ?_, ?_, ?_, (.inr ⟨by (simp [h1, h2, h3, h4, hb0, hb1, hb2, hn, hV, ap1_]; rw [htk]; simp [rowsE, eb]), by omega, by (simp)⟩)⟩
        all_goals first|assumption|(simp [h1, h2, h3, h4, hb0, hb1, hb2, hn, hV, ap1_];done)|(simp [h1, h2, h3, h4, hb0, hb1, hb2, hn, hV, ap1_];omega)|(simp [h1, h2, h3, h4, hb0, hb1, hb2, hn, hV, ap1_];exact wrap_succ (by omega))|omega
      · obtain ⟨hV1, hV2, hV3⟩ := hV.resolve_left (by omega)
        have hgc := gc_pos (o := oV) (show i ≠ 0 by omega)
        have ap2_ := apart hV3
        have ne3_ : ¬ (oV = 0) := by omega
        have ne4_ : ¬ (0 = oV) := by omega
        have ne5_ : ¬ (oV = 1) := by omega
        have ne6_ : ¬ (1 = oV) := by omega
        have ne7_ : ¬ (oV = 2) := by omega
        have ne8_ : ¬ (2 = oV) := by omega
        repeat' first|refine W_seq ?_|refine W_block ?_|refine W_skip ?_|refine W_ret ?_|refine W_exit ?_|refine xb_hit ?_|refine xb_miss (by decide) ?_|(apply W_reg;(simp [h1, h2, h3, h4, hb0, hb1, hb2, hn, hV, ap1_, ap2_, ne3_, ne4_, ne5_, ne6_, ne7_, ne8_, hil, c2, hV1, hgc, hbt, show min i x.views.length = i by omega];exact .r _))|(apply W_draw (id := 5) [0,1,0,4,0,28,60,124,252,511,1023,2047] rfl rfl; (· simp; exact .r _); (· simp [h1, h2, h3, h4, hb0, hb1, hb2, hn, hV, ap1_, ap2_, ne3_, ne4_, ne5_, ne6_, ne7_, ne8_, hil, c2, hV1, hgc, hbt, show min i x.views.length = i by omega]; exact .r _); (· first|trivial|simp))
        refine ⟨_, ?_, i + 1, oV, sV, rfl, rfl, ?_, ?_, ?_, ?_, by omega, ?_, ?_, ?_, ?_, (.inr ⟨by (simp [h1, h2, h3, h4, hb0, hb1, hb2, hn, hV, ap1_, ap2_, ne3_, ne4_, ne5_, ne6_, ne7_, ne8_]; rw [htk]; simp [eb]), hV2, by (simp; omega)⟩)⟩
        all_goals first|assumption|(simp [h1, h2, h3, h4, hb0, hb1, hb2, hn, hV, ap1_, ap2_, ne3_, ne4_, ne5_, ne6_, ne7_, ne8_];done)|(simp [h1, h2, h3, h4, hb0, hb1, hb2, hn, hV, ap1_, ap2_, ne3_, ne4_, ne5_, ne6_, ne7_, ne8_];omega)|(simp [h1, h2, h3, h4, hb0, hb1, hb2, hn, hV, ap1_, ap2_, ne3_, ne4_, ne5_, ne6_, ne7_, ne8_];exact wrap_succ (by omega))|omega
    · have c2 := cv (l4Copy_r _ hq eb)
      simp only [Ag, cells_Q, List.map_cons, List.map_nil] at c2
      rcases Nat.eq_zero_or_pos i with rfl | hpos
      · repeat' first|refine W_seq ?_|refine W_block ?_|refine W_skip ?_|refine W_ret ?_|refine W_exit ?_|refine xb_hit ?_|refine xb_miss (by decide) ?_|(apply W_reg;(simp [h1, h2, h3, h4, hb0, hb1, hb2, hn, hV, ap1_, hil, c2];exact .r _))|(apply W_draw (id := 5) [0,1,0,4,0,28,60,124,252,511,1023,2047] rfl rfl; (· simp; exact .r _); (· simp [h1, h2, h3, h4, hb0, hb1, hb2, hn, hV, ap1_, hil, c2]; exact .r _); (· first|trivial|simp))
        refine ⟨_, ?_, 0 + 1, σ.n + 3, 0, rfl, rfl, ?_, ?_, ?_, ?_, by omega, ?_, ?_, ?_, ?_, (.inr ⟨by (simp [h1, h2, h3, h4, hb0, hb1, hb2, hn, hV, ap1_]; rw [htk]; simp [rowsE]), by omega, by (simp)⟩)⟩
        all_goals first|assumption|(simp [h1, h2, h3, h4, hb0, hb1, hb2, hn, hV, ap1_];done)|(simp [h1, h2, h3, h4, hb0, hb1, hb2, hn, hV, ap1_];omega)|(simp [h1, h2, h3, h4, hb0, hb1, hb2, hn, hV, ap1_];exact wrap_succ (by omega))|omega
      · obtain ⟨hV1, hV2, hV3⟩ := hV.resolve_left (by omega)
        have hgc := gc_pos (o := oV) (show i ≠ 0 by omega)
        have ap9_ := apart hV3
        have ne10_ : ¬ (oV = 0) := by omega
        have ne11_ : ¬ (0 = oV) := by omega
        have ne12_ : ¬ (oV = 1) := by omega
        have ne13_ : ¬ (1 = oV) := by omega
        have ne14_ : ¬ (oV = 2) := by omega
        have ne15_ : ¬ (2 = oV) := by omega
        repeat' first|refine W_seq ?_|refine W_block ?_|refine W_skip ?_|refine W_ret ?_|refine W_exit ?_|refine xb_hit ?_|refine xb_miss (by decide) ?_|(apply W_reg;(simp [h1, h2, h3, h4, hb0, hb1, hb2, hn, hV, ap1_, ap9_, ne10_, ne11_, ne12_, ne13_, ne14_, ne15_, hil, c2, hV1, hgc, hbt, show min i x.views.length = i by omega];exact .r _))|(apply W_draw (id := 5) [0,1,0,4,0,28,60,124,252,511,1023,2047] rfl rfl; (· simp; exact .r _); (· simp [h1, h2, h3, h4, hb0, hb1, hb2, hn, hV, ap1_, ap9_, ne10_, ne11_, ne12_, ne13_, ne14_, ne15_, hil, c2, hV1, hgc, hbt, show min i x.views.length = i by omega]; exact .r _); (· first|trivial|simp))
        refine ⟨_, ?_, i + 1, oV, sV, rfl, rfl, ?_, ?_, ?_, ?_, by omega, ?_, ?_, ?_, ?_, (.inr ⟨by (simp [h1, h2, h3, h4, hb0, hb1, hb2, hn, hV, ap1_, ap9_, ne10_, ne11_, ne12_, ne13_, ne14_, ne15_]; rw [htk]; simp), hV2, by (simp; omega)⟩)⟩
        all_goals first|assumption|(simp [h1, h2, h3, h4, hb0, hb1, hb2, hn, hV, ap1_, ap9_, ne10_, ne11_, ne12_, ne13_, ne14_, ne15_];done)|(simp [h1, h2, h3, h4, hb0, hb1, hb2, hn, hV, ap1_, ap9_, ne10_, ne11_, ne12_, ne13_, ne14_, ne15_];omega)|(simp [h1, h2, h3, h4, hb0, hb1, hb2, hn, hV, ap1_, ap9_, ne10_, ne11_, ne12_, ne13_, ne14_, ne15_];exact wrap_succ (by omega))|omega
  · have hil : i = x.views.length := by simp at hc; omega
    subst hil
    rw [List.take_length] at hV
    obtain ⟨σV, eV⟩ : ∃ y : Sto, y = σ := ⟨σ, rfl⟩
    rw [← eV] at hV
    have hV0 : 3 ≤ σV.n := by rw [eV]; exact hn
    repeat' first|refine W_seq ?_|refine W_block ?_|refine W_skip ?_|refine W_ret ?_|refine W_exit ?_|refine xb_hit ?_|refine xb_miss (by decide) ?_|(apply W_reg;(simp [h1, h2, h3, h4, hb0, hb1, hb2, hn, hV, ap1_];exact .r _))
    refine W_loop (n := x.tables.length) (fun n s => ∃ j : Nat, ∃ oT : Nat, ∃ sT : Nat, n = x.tables.length - j ∧ s.nt = 67 ∧ s.tm 1 = .ptr 0 0 ∧ s.tm 2 = .ptr 1 0 ∧ s.tm 3 = .ptr 2 0 ∧ s.tm 5 = In j ∧ j ≤ x.tables.length ∧ s.σ.ob 0 = .box [Ar x.views, Ar x.tables, In x.version] ∧ s.σ.ob 1 = .box [.t .nl, .t .nl, In 0] ∧ s.σ.ob 2 = .box [gc oV x.views.length, gc oT j, In x.version] ∧ 3 ≤ s.σ.n ∧ (j = 0 ∨ (s.σ.ob oT = .arr (.own 0) sT 1 (rowsE (x.tables.take j)) ∧ σV.n ≤ oT ∧ oT < s.σ.n)) ∧ σV.n ≤ s.σ.n ∧ (∀ o, 3 ≤ o → o < σV.n → s.σ.ob o = σV.ob o)) ⟨0, 0, 0, by simp [h1, h2, h3, h4, hb0, hb1, hb2, hn, hV, ap1_, eV]⟩ ?_
    rintro n ⟨nt, tm, σ⟩ ⟨j, oT, sT, rfl, hnt, h1, h2, h3, h5, hj, hb0, hb1, hb2, hn, hT, hVn, hfr⟩
    simp only at hnt h1 h2 h3 h5 hb0 hb1 hb2 hn hT hVn hfr
    subst hnt
    have ap16_ := apart hn
    repeat' first|refine W_seq ?_|refine W_block ?_|refine W_skip ?_|refine W_ret ?_|refine W_exit ?_|refine xb_hit ?_|refine xb_miss (by decide) ?_|(apply W_reg;(simp [h1, h2, h3, h5, hb0, hb1, hb2, hn, hT, hVn, hfr, ap16_];exact .r _))
    refine W_cond (by simp [h1, h2, h3, h5, hb0, hb1, hb2, hn, hT, hVn, hfr, ap16_]; exact .r _) (fun hc => ?_) (fun hc => ?_)
    · have hjl : j < x.tables.length := by simpa using hc
      have hs := h.2.2.2 _ (List.getElem_mem hjl)
      have hts : x.tables[j].length < 1099511627775 := hs.1
      obtain ⟨σT, eT⟩ : ∃ y : Sto, y = σ := ⟨σ, rfl⟩
      rw [← eT] at hT hVn hfr
      have hn0 : 3 ≤ σT.n := by rw [eT]; exact hn
      repeat' first|refine W_seq ?_|refine W_block ?_|refine W_skip ?_|refine W_ret ?_|refine W_exit ?_|refine xb_hit ?_|refine xb_miss (by decide) ?_|(apply W_reg;(simp [h1, h2, h3, h5, hb0, hb1, hb2, hn, hT, hVn, hfr, ap16_];exact .r _))
      refine W_loop (n := x.tables[j].length) (fun n s => ∃ k : Nat, n = x.tables[j].length - k ∧ s.nt = 67 ∧ s.tm 1 = .ptr 0 0 ∧ s.tm 2 = .ptr 1 0 ∧ s.tm 3 = .ptr 2 0 ∧ s.tm 5 = In j ∧ s.tm 6 = .ref σT.n k [] ∧ s.tm 7 = In k ∧ k ≤ x.tables[j].length ∧ s.σ.ob 0 = .box [Ar x.views, Ar x.tables, In x.version] ∧ s.σ.ob 1 = .box [.t .nl, .t .nl, In 0] ∧ s.σ.ob 2 = .box [gc oV x.views.length, gc oT j, In x.version] ∧ σT.n < s.σ.n ∧ s.σ.ob σT.n = .arr (.own 0) 0 1 (rowsE (x.tables[j].take k)) ∧ (∀ o, 3 ≤ o → o < σT.n → s.σ.ob o = σT.ob o)) ⟨0, by simp [eT, h1, h2, h3, h5, hb0, hb1, hb2, hn, hT, hVn, hfr, ap16_, show ¬ σ.n = 0 by omega]; intro o h1 h2; omega⟩ ?_
      rintro n ⟨nt, tm, σ⟩ ⟨k, rfl, hnt, h1, h2, h3, h5, h6, h7, hk, hb0, hb1, hb2, hn, hR, hf2⟩
      simp only at hnt h1 h2 h3 h5 h6 h7 hb0 hb1 hb2 hn hR hf2
      subst hnt
      have hn3 : 3 ≤ σ.n := by omega
      have ap17_ := apart hn3
      have ap18_ := apart hn
      have ne19_ : ¬ (σT.n = 0) := by omega
      have ne20_ : ¬ (0 = σT.n) := by omega
      have ne21_ : ¬ (σT.n = 1) := by omega
      have ne22_ : ¬ (1 = σT.n) := by omega
      have ne23_ : ¬ (σT.n = 2) := by omega
      have ne24_ : ¬ (2 = σT.n) := by omega
      repeat' first|refine W_seq ?_|refine W_block ?_|refine W_skip ?_|refine W_ret ?_|refine W_exit ?_|refine xb_hit ?_|refine xb_miss (by decide) ?_|(apply W_reg;(simp [h1, h2, h3, h5, h6, h7, hb0, hb1, hb2, hn, hR, hf2, ap17_, ap18_, ne19_, ne20_, ne21_, ne22_, ne23_, ne24_, hjl];exact .r _))
      refine W_cond (by simp [h1, h2, h3, h5, h6, h7, hb0, hb1, hb2, hn, hR, hf2, ap17_, ap18_, ne19_, ne20_, ne21_, ne22_, ne23_, ne24_]; exact .r _) (fun hd => ?_) (fun hd => ?_)
      · have hkl : k < x.tables[j].length := by simpa using hd
        have hbt : k + 1 < 1099511627776 := by omega
        have hrs : x.tables[j][k].length < 1099511627776 := by have : x.tables[j][k].length < 1099511627775 := hs.2 _ (List.getElem_mem hkl); omega
        repeat' first|refine W_seq ?_|refine W_block ?_|refine W_skip ?_|refine W_ret ?_|refine W_exit ?_|refine xb_hit ?_|refine xb_miss (by decide) ?_|(apply W_reg;(simp [h1, h2, h3, h5, h6, h7, hb0, hb1, hb2, hn, hR, hf2, ap17_, ap18_, ne19_, ne20_, ne21_, ne22_, ne23_, ne24_, hjl, hkl, hrs, hbt, hR, show min k x.tables[j].length = k by omega];exact .r _))
        refine ⟨_, ?_, k + 1, rfl, rfl, ?_, ?_, ?_, ?_, ?_, ?_, by omega, ?_, ?_, ?_, ?_, (by simp [h1, h2, h3, h5, h6, h7, hb0, hb1, hb2, hn, hR, hf2, ap17_, ap18_, ne19_, ne20_, ne21_, ne22_, ne23_, ne24_, hR]; rw [rowsE_take _ _ hkl]; simp), (by intro o h1 h2; simp [show ¬ o = σ.n by omega, show ¬ o = σ.n + 1 by omega, show ¬ o = σT.n by omega]; exact hf2 o h1 h2)⟩
        all_goals first|assumption|(simp [h1, h2, h3, h5, h6, h7, hb0, hb1, hb2, hn, hR, hf2, ap17_, ap18_, ne19_, ne20_, ne21_, ne22_, ne23_, ne24_];done)|(simp [h1, h2, h3, h5, h6, h7, hb0, hb1, hb2, hn, hR, hf2, ap17_, ap18_, ne19_, ne20_, ne21_, ne22_, ne23_, ne24_];omega)|(simp [h1, h2, h3, h5, h6, h7, hb0, hb1, hb2, hn, hR, hf2, ap17_, ap18_, ne19_, ne20_, ne21_, ne22_, ne23_, ne24_];exact wrap_succ (by omega))|omega
      · have hkl : k = x.tables[j].length := by simp at hd; omega
        subst hkl
        rw [List.take_length] at hR
        have hrl : (rowsE x.tables[j]).length = x.tables[j].length := rowsE_len ..
        have hbt : j + 1 < 1099511627776 := by omega
        have htk := rowsE_take x.tables j hjl
        rcases Nat.eq_zero_or_pos j with rfl | hpos
        · repeat' first|refine W_seq ?_|refine W_block ?_|refine W_skip ?_|refine W_ret ?_|refine W_exit ?_|refine xb_hit ?_|refine xb_miss (by decide) ?_|(apply W_reg;(simp [h1, h2, h3, h5, h6, h7, hb0, hb1, hb2, hn, hR, hf2, ap17_, ap18_, ne19_, ne20_, ne21_, ne22_, ne23_, ne24_, hR, hrl];exact .r _))
          refine ⟨_, ?_, 0 + 1, σ.n + 1, 0, rfl, rfl, ?_, ?_, ?_, ?_, by omega, ?_, ?_, ?_, ?_, (.inr ⟨by (simp [h1, h2, h3, h5, h6, h7, hb0, hb1, hb2, hn, hR, hf2, ap17_, ap18_, ne19_, ne20_, ne21_, ne22_, ne23_, ne24_]; rw [htk]; simp [rowsE]), by omega, by (simp)⟩), (by first | omega | (dsimp only; omega) | (simp only []; omega)), (by intro o h1 h2; simp [show ¬ o = 2 by omega, show ¬ o = σ.n by omega, show ¬ o = σ.n + 1 by omega, show ¬ o = σT.n by omega]; rw [hf2 o h1 (by omega)]; exact hfr o h1 h2)⟩
          all_goals first|assumption|(simp [h1, h2, h3, h5, h6, h7, hb0, hb1, hb2, hn, hR, hf2, ap17_, ap18_, ne19_, ne20_, ne21_, ne22_, ne23_, ne24_];done)|(simp [h1, h2, h3, h5, h6, h7, hb0, hb1, hb2, hn, hR, hf2, ap17_, ap18_, ne19_, ne20_, ne21_, ne22_, ne23_, ne24_];omega)|(simp [h1, h2, h3, h5, h6, h7, hb0, hb1, hb2, hn, hR, hf2, ap17_, ap18_, ne19_, ne20_, ne21_, ne22_, ne23_, ne24_];exact wrap_succ (by omega))|omega
        · obtain ⟨hT1, hT2, hT3⟩ := hT.resolve_left (by omega)
          have hT4 : σ.ob oT = .arr (.own 0) sT 1 (rowsE (x.tables.take j)) := by rw [hf2 oT (by omega) hT3]; exact hT1
          have hgc := gc_pos (o := oT) (show j ≠ 0 by omega)
          have hT5 : oT < σ.n := by omega
          have ap25_ := apart hT5
          have ne26_ : ¬ (oT = 0) := by omega
          have ne27_ : ¬ (0 = oT) := by omega
          have ne28_ : ¬ (oT = 1) := by omega
          have ne29_ : ¬ (1 = oT) := by omega
          have ne30_ : ¬ (oT = 2) := by omega
          have ne31_ : ¬ (2 = oT) := by omega
          have ne32_ : ¬ (oT = σT.n) := by omega
          have ne33_ : ¬ (σT.n = oT) := by omega
          repeat' first|refine W_seq ?_|refine W_block ?_|refine W_skip ?_|refine W_ret ?_|refine W_exit ?_|refine xb_hit ?_|refine xb_miss (by decide) ?_|(apply W_reg;(simp [h1, h2, h3, h5, h6, h7, hb0, hb1, hb2, hn, hR, hf2, ap17_, ap18_, ne19_, ne20_, ne21_, ne22_, ne23_, ne24_, ap25_, ne26_, ne27_, ne28_, ne29_, ne30_, ne31_, ne32_, ne33_, hR, hrl, hT4, hgc, hbt, show min j x.tables.length = j by omega];exact .r _))
          refine ⟨_, ?_, j + 1, oT, sT, rfl, rfl, ?_, ?_, ?_, ?_, by omega, ?_, ?_, ?_, ?_, (.inr ⟨by (simp [h1, h2, h3, h5, h6, h7, hb0, hb1, hb2, hn, hR, hf2, ap17_, ap18_, ne19_, ne20_, ne21_, ne22_, ne23_, ne24_, ap25_, ne26_, ne27_, ne28_, ne29_, ne30_, ne31_, ne32_, ne33_]; rw [htk]; simp [rowsE]), by omega, by (simp; omega)⟩), (by first | omega | (dsimp only; omega) | (simp only []; omega)), (by intro o h1 h2; simp [show ¬ o = 2 by omega, show ¬ o = σ.n by omega, show ¬ o = oT by omega, show ¬ o = σT.n by omega]; rw [hf2 o h1 (by omega)]; exact hfr o h1 h2)⟩
          all_goals first|assumption|(simp [h1, h2, h3, h5, h6, h7, hb0, hb1, hb2, hn, hR, hf2, ap17_, ap18_, ne19_, ne20_, ne21_, ne22_, ne23_, ne24_, ap25_, ne26_, ne27_, ne28_, ne29_, ne30_, ne31_, ne32_, ne33_];done)|(simp [h1, h2, h3, h5, h6, h7, hb0, hb1, hb2, hn, hR, hf2, ap17_, ap18_, ne19_, ne20_, ne21_, ne22_, ne23_, ne24_, ap25_, ne26_, ne27_, ne28_, ne29_, ne30_, ne31_, ne32_, ne33_];omega)|(simp [h1, h2, h3, h5, h6, h7, hb0, hb1, hb2, hn, hR, hf2, ap17_, ap18_, ne19_, ne20_, ne21_, ne22_, ne23_, ne24_, ap25_, ne26_, ne27_, ne28_, ne29_, ne30_, ne31_, ne32_, ne33_];exact wrap_succ (by omega))|omega
    · have hjl : j = x.tables.length := by simp at hc; omega
      subst hjl
      rw [List.take_length] at hT
      have hV' : x.views = [] ∧ gc oV x.views.length = .t .nl ∨ x.views ≠ [] ∧ gc oV x.views.length = .ref oV x.views.length [] ∧ σ.ob oV = .arr (.own 0) sV 2 (rowsE x.views) ∧ 3 ≤ oV ∧ oV < σV.n := by
        by_cases e : x.views = []
        · exact .inl ⟨e, by rw [e]; rfl⟩
        · have hne : x.views.length ≠ 0 := fun hh => e (List.length_eq_zero_iff.1 hh)
          obtain ⟨a, b, c⟩ := hV.resolve_left hne
          exact .inr ⟨e, gc_pos hne, by rw [hfr oV b c]; exact a, b, c⟩
      have hT' : x.tables = [] ∧ gc oT x.tables.length = .t .nl ∨ x.tables ≠ [] ∧ gc oT x.tables.length = .ref oT x.tables.length [] ∧ σ.ob oT = .arr (.own 0) sT 1 (rowsE x.tables) ∧ σV.n ≤ oT ∧ oT < σ.n := by
        by_cases e : x.tables = []
        · exact .inl ⟨e, by rw [e]; rfl⟩
        · have hne : x.tables.length ≠ 0 := fun hh => e (List.length_eq_zero_iff.1 hh)
          exact .inr ⟨e, gc_pos hne, hT.resolve_left hne⟩
      rcases hV' with ⟨v1, v2⟩ | ⟨v1, v2, v3, v4, v5⟩ <;> rcases hT' with ⟨t1, t2⟩ | ⟨t1, t2, t3, t4, t5⟩
      · repeat' first|refine W_seq ?_|refine W_block ?_|refine W_skip ?_|refine W_ret ?_|refine W_exit ?_|refine xb_hit ?_|refine xb_miss (by decide) ?_|(apply W_reg;(simp [h1, h2, h3, h5, hb0, hb1, hb2, hn, hT, hVn, hfr, v2, t2];exact .r _))
        simp [xvV, xvT, v1, v2, t1, t2, h1, h2, h3, h5, hb0, hb1, hb2, hn, hT, hVn, hfr]
      · have ne34_ : ¬ (oT = 0) := by omega
        have ne35_ : ¬ (0 = oT) := by omega
        have ne36_ : ¬ (oT = 1) := by omega
        have ne37_ : ¬ (1 = oT) := by omega
        have ne38_ : ¬ (oT = 2) := by omega
        have ne39_ : ¬ (2 = oT) := by omega
        repeat' first|refine W_seq ?_|refine W_block ?_|refine W_skip ?_|refine W_ret ?_|refine W_exit ?_|refine xb_hit ?_|refine xb_miss (by decide) ?_|(apply W_reg;(simp [h1, h2, h3, h5, hb0, hb1, hb2, hn, hT, hVn, hfr, ne34_, ne35_, ne36_, ne37_, ne38_, ne39_, v2, t2, t3];exact .r _))
        simp [xvV, xvT, v1, v2, t1, t2, t3, h1, h2, h3, h5, hb0, hb1, hb2, hn, hT, hVn, hfr, ne34_, ne35_, ne36_, ne37_, ne38_, ne39_]
      · have ne40_ : ¬ (oV = 0) := by omega
        have ne41_ : ¬ (0 = oV) := by omega
        have ne42_ : ¬ (oV = 1) := by omega
        have ne43_ : ¬ (1 = oV) := by omega
        have ne44_ : ¬ (oV = 2) := by omega
        have ne45_ : ¬ (2 = oV) := by omega
        repeat' first|refine W_seq ?_|refine W_block ?_|refine W_skip ?_|refine W_ret ?_|refine W_exit ?_|refine xb_hit ?_|refine xb_miss (by decide) ?_|(apply W_reg;(simp [h1, h2, h3, h5, hb0, hb1, hb2, hn, hT, hVn, hfr, ne40_, ne41_, ne42_, ne43_, ne44_, ne45_, v2, t2, v3];exact .r _))
        simp [xvV, xvT, v1, v2, t1, t2, v3, h1, h2, h3, h5, hb0, hb1, hb2, hn, hT, hVn, hfr, ne40_, ne41_, ne42_, ne43_, ne44_, ne45_]
      · have ne46_ : ¬ (oV = 0) := by omega
        have ne47_ : ¬ (0 = oV) := by omega
        have ne48_ : ¬ (oV = 1) := by omega
        have ne49_ : ¬ (1 = oV) := by omega
        have ne50_ : ¬ (oV = 2) := by omega
        have ne51_ : ¬ (2 = oV) := by omega
        have ne52_ : ¬ (oT = 0) := by omega
        have ne53_ : ¬ (0 = oT) := by omega
        have ne54_ : ¬ (oT = 1) := by omega
        have ne55_ : ¬ (1 = oT) := by omega
        have ne56_ : ¬ (oT = 2) := by omega
        have ne57_ : ¬ (2 = oT) := by omega
        have ne58_ : ¬ (oV = oT) := by omega
        have ne59_ : ¬ (oT = oV) := by omega
        repeat' first|refine W_seq ?_|refine W_block ?_|refine W_skip ?_|refine W_ret ?_|refine W_exit ?_|refine xb_hit ?_|refine xb_miss (by decide) ?_|(apply W_reg;(simp [h1, h2, h3, h5, hb0, hb1, hb2, hn, hT, hVn, hfr, ne46_, ne47_, ne48_, ne49_, ne50_, ne51_, ne52_, ne53_, ne54_, ne55_, ne56_, ne57_, ne58_, ne59_, v2, t2, v3, t3];exact .r _))
        simp [xvV, xvT, v1, v2, t1, t2, v3, t3, h1, h2, h3, h5, hb0, hb1, hb2, hn, hT, hVn, hfr, ne46_, ne47_, ne48_, ne49_, ne50_, ne51_, ne52_, ne53_, ne54_, ne55_, ne56_, ne57_, ne58_, ne59_]
end Go.Proofs.YtmfifjbbjjdacaaGreat.V

namespace Go.Proofs.YtmfifjbbjjdacaaGreat.V
open Go Go.Proofs
set_option linter.unusedVariables false
set_option linter.unusedSimpArgs false
def upT (c : Sch) (vs : List Qry) (db : List RA) : List Int → List (List Row) → Option (List (List Row))
  | [], ts => some ts
  | k :: ks, ts => if (ansC c (vs.getD k.toNat ⟨[], []⟩) db).length ≤ 90 then upT c vs db ks (ts.set k.toNat (ansC c (vs.getD k.toNat ⟨[], []⟩) db)) else none
theorem upT_step {c : Sch} {vs : List Qry} {db : List RA} {R : List Int} {ts : List (List Row)} {i k : Nat} (hi : i < R.length) (hk : R[i] = (k : Int)) (hv : k < vs.length) :
    upT c vs db (R.drop i) ts = if (ansC c vs[k] db).length ≤ 90 then upT c vs db (R.drop (i + 1)) (ts.set k (ansC c vs[k] db)) else none := by
  rw [List.drop_eq_getElem_cons hi, hk, upT, Int.toNat_natCast, List.getD_eq_getElem?_getD, List.getElem?_eq_getElem hv, Option.getD_some]
theorem affI_mem {x : Cch} {f : RA} : ∀ v ∈ affI x f, ∃ k : Nat, v = (k : Int) ∧ k < x.views.length := fun v hv => by
  obtain ⟨k, hk, e⟩ := List.mem_filterMap.1 hv
  refine ⟨k, ?_, by simpa using hk⟩
  split at e <;> simp_all
def updR (c : Sch) (x : Cch) (s : Src) (d : Chg) : Option (List (List Row)) := if appOk c s d && isCch c x && decide (x.version = s.version) then upT c x.views (appF s d) (affI x d.fact) x.tables else none
def xUpdI (c : Sch) (x : Cch) (s : Src) (d : Chg) : XV := match updR c x s d with
  | some ts => .tup [xvC x.views ts (s.version + 1), xvS (appF s d) (s.version + 1), .own 1 (rowsE (affI x d.fact)), .t (.b true) false]
  | none => .tup [.agg [.own 2 (rowsE x.views), xvT x.tables, .t (.i .i64 x.version) false], xvS s.facts s.version, .own 1 [], .t (.b false) false]
theorem appF_sm {s : Src} {d : Chg} (h : SmF s.facts) (hf : Sm d.fact.args) (hl : s.facts.length ≤ 24) : SmF (appF s d) := by
  unfold appF
  split
  · refine ⟨?_, fun a ha => ?_⟩
    · have : (addF s.facts d.fact).length = (s.facts ++ [d.fact]).length := srt_perm.length_eq
      rw [List.length_append, List.length_singleton] at this
      unfold Sm; omega
    · rcases List.mem_append.1 (srt_perm.mem_iff.1 ha) with ha | ha
      · exact h.2 a ha
      · rw [List.mem_singleton] at ha; rw [ha]; exact hf
  · refine ⟨?_, fun a ha => h.2 a (List.mem_filter.1 ha).1⟩
    have := remF_len s.facts d.fact
    unfold Sm; omega
theorem isDb_len {c : Sch} {l : List RA} (h : isDb c l = true) : l.length ≤ 24 := by simp only [isDb, Bool.and_eq_true, decide_eq_true_eq] at h; exact h.2
theorem appOk_ver {c : Sch} {s : Src} {d : Chg} (h : appOk c s d = true) : s.facts.length ≤ 24 ∧ 0 ≤ s.version ∧ s.version < 1000 := by
  simp only [appOk, isSrc, inR, Bool.and_eq_true, Bool.not_eq_true', decide_eq_true_eq, decide_eq_false_iff_not] at h
  have := isDb_len h.1.1.1
  exact ⟨this, h.1.1.2.1, by omega⟩
theorem isCch_tab {c : Sch} {x : Cch} (h : isCch c x = true) : x.tables.length = x.views.length ∧ 0 < x.views.length := by
  simp only [isCch, Bool.and_eq_true, decide_eq_true_eq] at h
  exact ⟨h.1.1.2, by have := areVs_mem h.1.1.1; omega⟩
set_option maxRecDepth 20000 in
set_option maxHeartbeats 2000000 in
theorem implUpd_r (c : Sch) (x : Cch) (s : Src) (d : Chg) (sc : Sm c.arity) (h : SmC x) (hs : SmF s.facts) (hf : Sm d.fact.args) : Ret XX 99 [Ag c, Ag x, Ag s, Ag d] (xUpdI c x s d) := by
  refine ret_W rfl Tryz.func99 rfl rfl (by simp [Tryz.f99]) ?_
  simp only [Tryz.f99]
  have c1 := cv (implApply_r c s d sc hs hf)
  have c2 := cv (copyCache_r x h)
  have c3 := cv (copySource_r s hs)
  have c4 := cv (implIsCch_r c x sc h)
  have c5 := cv (implAff_r x d.fact h hf)
  simp only [Ag, cells_Sch, cells_RA, cells_Src, cells_Cch, cells_Chg, List.map_cons, List.map_nil] at c1 c2 c3 c4 c5
  cases e1 : appOk c s d
  · rw [show xApp c s d = .tup [xvS s.facts s.version, .t (.b false) false] from if_neg (by rw [e1]; decide)] at c1
    by_cases ht : x.tables = []
    all_goals
      first | rw [if_pos ht] at c2 | rw [if_neg ht] at c2
      repeat' first|refine W_seq ?_|refine W_block ?_|refine W_skip ?_|refine W_ret ?_|refine W_exit ?_|refine xb_hit ?_|refine xb_miss (by decide) ?_|(apply W_reg;(simp [Ag, c1];exact .r _))
      refine W_cond (by simp; exact .r _) (fun hc => ?_) (fun hc => ?_)
      · repeat' first|refine W_seq ?_|refine W_block ?_|refine W_skip ?_|refine W_ret ?_|refine W_exit ?_|refine xb_hit ?_|refine xb_miss (by decide) ?_|(apply W_reg;(simp [c2, c3];exact .r _))|(apply W_draw (id := 3) [0,1,0,7,0,15,47,127,255] rfl rfl; (· simp; exact .r _); (· simp [c2, c3]; exact .r _); (· first|trivial|simp))
        simp [xUpdI, updR, xvT, e1, ht]
      · cases hc
  rw [show xApp c s d = .tup [xvS (appF s d) (s.version + 1), .t (.b true) false] from if_pos e1] at c1
  cases e2 : isCch c x
  · by_cases ht : x.tables = []
    all_goals
      first | rw [if_pos ht] at c2 | rw [if_neg ht] at c2
      repeat' first|refine W_seq ?_|refine W_block ?_|refine W_skip ?_|refine W_ret ?_|refine W_exit ?_|refine xb_hit ?_|refine xb_miss (by decide) ?_|(apply W_reg;(simp [Ag, c1, c4, e2];exact .r _))
      refine W_cond (by simp; exact .r _) (fun hc => ?_) (fun hc => ?_)
      · repeat' first|refine W_seq ?_|refine W_block ?_|refine W_skip ?_|refine W_ret ?_|refine W_exit ?_|refine xb_hit ?_|refine xb_miss (by decide) ?_|(apply W_reg;(simp [c2, c3];exact .r _))|(apply W_draw (id := 3) [0,1,0,7,0,15,47,127,255] rfl rfl; (· simp; exact .r _); (· simp [c2, c3]; exact .r _); (· first|trivial|simp))
        simp [xUpdI, updR, xvT, e2, ht]
      · cases hc
  by_cases e3 : x.version = s.version
  case neg =>
    by_cases ht : x.tables = []
    all_goals
      first | rw [if_pos ht] at c2 | rw [if_neg ht] at c2
      repeat' first|refine W_seq ?_|refine W_block ?_|refine W_skip ?_|refine W_ret ?_|refine W_exit ?_|refine xb_hit ?_|refine xb_miss (by decide) ?_|(apply W_reg;(simp [Ag, c1, c4, e2, e3];exact .r _))
      refine W_cond (by simp; exact .r _) (fun hc => ?_) (fun hc => ?_)
      · repeat' first|refine W_seq ?_|refine W_block ?_|refine W_skip ?_|refine W_ret ?_|refine W_exit ?_|refine xb_hit ?_|refine xb_miss (by decide) ?_|(apply W_reg;(simp [c2, c3];exact .r _))|(apply W_draw (id := 3) [0,1,0,7,0,15,47,127,255] rfl rfl; (· simp; exact .r _); (· simp [c2, c3]; exact .r _); (· first|trivial|simp))
        simp [xUpdI, updR, xvT, e3, ht]
      · simp at hc
  obtain ⟨t1, t2⟩ := isCch_tab e2
  have ht : x.tables ≠ [] := fun e => by rw [e] at t1; simp at t1; omega
  rw [if_neg ht] at c2
  rw [e3] at c2
  obtain ⟨v1, v2, v3⟩ := appOk_ver e1
  have hF := appF_sm hs hf v1
  have hup : updR c x s d = upT c x.views (appF s d) (affI x d.fact) x.tables := by simp [updR, e1, e2, e3]
  repeat' first|refine W_seq ?_|refine W_block ?_|refine W_skip ?_|refine W_ret ?_|refine W_exit ?_|refine xb_hit ?_|refine xb_miss (by decide) ?_|(apply W_reg;(simp [Ag, c1, c4, e2, e3];exact .r _))
  refine W_cond (by simp; exact .r _) (fun hc => ?_) (fun hc => ?_)
  · simp at hc
  rw [e3] at c5
  repeat' first|refine W_seq ?_|refine W_block ?_|refine W_skip ?_|refine W_ret ?_|refine W_exit ?_|refine xb_hit ?_|refine xb_miss (by decide) ?_|(apply W_reg;(simp [c2, c5];exact .r _))
  generalize hV0 : s.version = V0 at *
  generalize hL0 : s.facts = L0 at *
  generalize hF' : appF s d = F at *
  have hAl : (affI x d.fact).length ≤ x.views.length := affL_len
  have hAm := affI_mem (x := x) (f := d.fact)
  generalize hR' : affI x d.fact = R at *
  have hv : x.views.length < 1099511627775 := h.1
  refine W_loop (n := R.length) (fun n s => ∃ i : Nat, ∃ ts : List (List Row), ∃ sT : Nat, n = R.length - i ∧ s.nt = 87 ∧ s.tm 4 = .ptr 0 0 ∧ s.tm 5 = .ptr 1 0 ∧ s.tm 6 = .ptr 2 0 ∧ s.tm 8 = .ptr 4 0 ∧ s.tm 9 = .ptr 5 0 ∧ s.tm 12 = .ptr 7 0 ∧ s.tm 14 = .ptr 10 0 ∧ s.tm 15 = .ref 11 R.length [] ∧ s.tm 55 = .ref 11 R.length [] ∧ s.tm 56 = In R.length ∧ s.tm 57 = In i ∧ i ≤ R.length ∧ s.σ.ob 0 = .box [Ar c.arity] ∧ s.σ.ob 1 = .box [Ar x.views, Ar x.tables, In V0] ∧ s.σ.ob 2 = .box [Ar L0, In V0] ∧ s.σ.ob 4 = .box [.t .nl, .t .nl, In 0] ∧ s.σ.ob 5 = .box [.t .nl, In 0] ∧ s.σ.ob 6 = .arr (.own 0) 0 2 (rowsE F) ∧ s.σ.ob 7 = .box [.ref 6 F.length [], In (V0 + 1)] ∧ s.σ.ob 8 = .arr (.own 0) 0 2 (rowsE x.views) ∧ s.σ.ob 9 = .arr (.own 0) sT 1 (rowsE ts) ∧ s.σ.ob 10 = .box [.ref 8 x.views.length [], .ref 9 x.tables.length [], In (V0 + 1)] ∧ s.σ.ob 11 = .arr (.own 0) 0 1 (rowsE R) ∧ 12 ≤ s.σ.n ∧ ts.length = x.views.length ∧ upT c x.views F R x.tables = upT c x.views F (R.drop i) ts) ⟨0, x.tables, 0, by simp [t1]⟩ ?_
  rintro n ⟨nt, tm, σ⟩ ⟨i, ts, sT, rfl, hnt, h4, h5, h6, h8, h9, h12, h14, h15, h55, h56, h57, hi, hb0, hb1, hb2, hb4, hb5, hb6, hb7, hb8, hb9, hb10, hb11, hn, hts, heq⟩
  simp only at hnt h4 h5 h6 h8 h9 h12 h14 h15 h55 h56 h57 hb0 hb1 hb2 hb4 hb5 hb6 hb7 hb8 hb9 hb10 hb11 hn
  subst hnt
  have ap1_ := apart hn
  repeat' first|refine W_seq ?_|refine W_block ?_|refine W_skip ?_|refine W_ret ?_|refine W_exit ?_|refine xb_hit ?_|refine xb_miss (by decide) ?_|(apply W_reg;(simp [h4, h5, h6, h8, h9, h12, h14, h15, h55, h56, h57, hb0, hb1, hb2, hb4, hb5, hb6, hb7, hb8, hb9, hb10, hb11, hn, ap1_];exact .r _))
  refine W_cond (by simp [h4, h5, h6, h8, h9, h12, h14, h15, h55, h56, h57, hb0, hb1, hb2, hb4, hb5, hb6, hb7, hb8, hb9, hb10, hb11, hn, ap1_]; exact .r _) (fun hc => ?_) (fun hc => ?_)
  · have hil : i < R.length := by simpa using hc
    obtain ⟨k, hk, hkv⟩ := hAm R[i] (List.getElem_mem hil)
    have hq := h.2.1 _ (List.getElem_mem hkv)
    have c6 := cv (implAns_r c x.views[k] F sc hq.1 hq.2.1 hq.2.2 hF.1 hF.2)
    simp only [Ag, cells_Sch, cells_Q, List.map_cons, List.map_nil] at c6
    have hrl : (rowsE (ansC c x.views[k] F)).length = (ansC c x.views[k] F).length := rowsE_len ..
    rw [upT_step hil hk hkv] at heq
    repeat' first|refine W_seq ?_|refine W_block ?_|refine W_skip ?_|refine W_ret ?_|refine W_exit ?_|refine xb_hit ?_|refine xb_miss (by decide) ?_|(apply W_reg;(simp [h4, h5, h6, h8, h9, h12, h14, h15, h55, h56, h57, hb0, hb1, hb2, hb4, hb5, hb6, hb7, hb8, hb9, hb10, hb11, hn, ap1_, hil, hk, hkv, c6, hrl];exact .r _))|(apply W_draw (id := 10) [0,0,2,0,14,30,0,64,255,511] rfl rfl; (· simp; exact .r _); (· simp [h4, h5, h6, h8, h9, h12, h14, h15, h55, h56, h57, hb0, hb1, hb2, hb4, hb5, hb6, hb7, hb8, hb9, hb10, hb11, hn, ap1_, hil, hk, hkv, c6, hrl]; exact .r _); (· first|trivial|simp))
    refine W_cond (by simp [h4, h5, h6, h8, h9, h12, h14, h15, h55, h56, h57, hb0, hb1, hb2, hb4, hb5, hb6, hb7, hb8, hb9, hb10, hb11, hn, ap1_]; exact .r _) (fun hd => ?_) (fun hd => ?_)
    · have hd' : ¬ (ansC c x.views[k] F).length ≤ 90 := by simp at hd; omega
      rw [if_neg hd'] at heq
      rw [heq] at hup
      repeat' first|refine W_seq ?_|refine W_block ?_|refine W_skip ?_|refine W_ret ?_|refine W_exit ?_|refine xb_hit ?_|refine xb_miss (by decide) ?_|(apply W_reg;(simp [h4, h5, h6, h8, h9, h12, h14, h15, h55, h56, h57, hb0, hb1, hb2, hb4, hb5, hb6, hb7, hb8, hb9, hb10, hb11, hn, ap1_, c2, c3];exact .r _))|(apply W_draw (id := 12) [0,1,0,7,0,15,47,127,255] rfl rfl; (· simp; exact .r _); (· simp [h4, h5, h6, h8, h9, h12, h14, h15, h55, h56, h57, hb0, hb1, hb2, hb4, hb5, hb6, hb7, hb8, hb9, hb10, hb11, hn, ap1_, c2, c3]; exact .r _); (· first|trivial|simp))
      simp [xUpdI, hup, xvT, ht, e3, hL0, hV0, h4, h5, h6, h8, h9, h12, h14, h15, h55, h56, h57, hb0, hb1, hb2, hb4, hb5, hb6, hb7, hb8, hb9, hb10, hb11, hn, ap1_]
    · have hd' : (ansC c x.views[k] F).length ≤ 90 := by simp at hd; omega
      rw [if_pos hd'] at heq
      have hkt : k < ts.length := by omega
      have hkn : ¬ (k : Int) < 0 := by omega
      repeat' first|refine W_seq ?_|refine W_block ?_|refine W_skip ?_|refine W_ret ?_|refine W_exit ?_|refine xb_hit ?_|refine xb_miss (by decide) ?_|(apply W_reg;(simp [h4, h5, h6, h8, h9, h12, h14, h15, h55, h56, h57, hb0, hb1, hb2, hb4, hb5, hb6, hb7, hb8, hb9, hb10, hb11, hn, ap1_, hrl, hkt, hkv, t1, hts, hkn];exact .r _))
      refine ⟨_, ?_, i + 1, ts.set k (ansC c x.views[k] F), sT + 1, rfl, rfl, ?_, ?_, ?_, ?_, ?_, ?_, ?_, ?_, ?_, ?_, ?_, by omega, ?_, ?_, ?_, ?_, ?_, ?_, ?_, ?_, (by simp [h4, h5, h6, h8, h9, h12, h14, h15, h55, h56, h57, hb0, hb1, hb2, hb4, hb5, hb6, hb7, hb8, hb9, hb10, hb11, hn, ap1_, rowsE_set, hts, t1, putT]), ?_, ?_, ?_, (by simp [hts]), heq⟩
      all_goals first|assumption|(simp [h4, h5, h6, h8, h9, h12, h14, h15, h55, h56, h57, hb0, hb1, hb2, hb4, hb5, hb6, hb7, hb8, hb9, hb10, hb11, hn, ap1_];done)|(simp [h4, h5, h6, h8, h9, h12, h14, h15, h55, h56, h57, hb0, hb1, hb2, hb4, hb5, hb6, hb7, hb8, hb9, hb10, hb11, hn, ap1_];omega)|(simp [h4, h5, h6, h8, h9, h12, h14, h15, h55, h56, h57, hb0, hb1, hb2, hb4, hb5, hb6, hb7, hb8, hb9, hb10, hb11, hn, ap1_];exact wrap_succ (by omega))|omega
  · have hil : i = R.length := by simp at hc; omega
    subst hil
    rw [List.drop_length, upT] at heq
    rw [heq] at hup
    repeat' first|refine W_seq ?_|refine W_block ?_|refine W_skip ?_|refine W_ret ?_|refine W_exit ?_|refine xb_hit ?_|refine xb_miss (by decide) ?_|(apply W_reg;(simp [h4, h5, h6, h8, h9, h12, h14, h15, h55, h56, h57, hb0, hb1, hb2, hb4, hb5, hb6, hb7, hb8, hb9, hb10, hb11, hn, ap1_];exact .r _))|(apply W_draw (id := 15) [0,0,0,1,11,31,63] rfl rfl; (· simp; exact .r _); (· simp [h4, h5, h6, h8, h9, h12, h14, h15, h55, h56, h57, hb0, hb1, hb2, hb4, hb5, hb6, hb7, hb8, hb9, hb10, hb11, hn, ap1_]; exact .r _); (· first|trivial|simp))
    simp [xUpdI, hup, hL0, hV0, hF', hR', hts, t1, h4, h5, h6, h8, h9, h12, h14, h15, h55, h56, h57, hb0, hb1, hb2, hb4, hb5, hb6, hb7, hb8, hb9, hb10, hb11, hn, ap1_]
end Go.Proofs.YtmfifjbbjjdacaaGreat.V

namespace Go.Proofs.YtmfifjbbjjdacaaGreat.V
open Go Go.Proofs
set_option linter.unusedVariables false
set_option linter.unusedSimpArgs false
def xUpdS (c : Sch) (x : Cch) (s : Src) (d : Chg) : XV := match updR c x s d with
  | some ts => .tup [xvC x.views ts (s.version + 1), xvS (appF s d) (s.version + 1), .own 1 (rowsE (affI x d.fact)), .t (.b true) false]
  | none => .tup [.agg [xvV x.views, xvT x.tables, .t (.i .i64 x.version) false], xvS s.facts s.version, .own 1 [], .t (.b false) false]
theorem appF_bd {N : Nat} {s : Src} {d : Chg} (h : Lw.bd N s.facts) (hf : Lw.bd N d.fact) (hl : s.facts.length ≤ 24) (hN : 25 ≤ N) : Lw.bd N (appF s d) := by
  unfold appF
  split
  · refine ⟨?_, fun a ha => ?_⟩
    · have : (addF s.facts d.fact).length = (s.facts ++ [d.fact]).length := srt_perm.length_eq
      rw [List.length_append, List.length_singleton] at this
      omega
    · rcases List.mem_append.1 (srt_perm.mem_iff.1 ha) with ha | ha
      · exact h.2 a ha
      · rw [List.mem_singleton] at ha; rw [ha]; exact hf
  · refine ⟨?_, fun a ha => h.2 a (List.mem_filter.1 ha).1⟩
    have := remF_len s.facts d.fact
    omega
set_option maxRecDepth 20000 in
set_option maxHeartbeats 4000000 in
theorem specUpd_r (c : Sch) (x : Cch) (s : Src) (d : Chg) (hcS : Lw.bd 1048576 c) (hx : Lw.bd 1048576 x) (hsS : Lw.bd 1048576 s) (hd : Lw.bd 1048576 d) : Ret XX 100 [Ag c, Ag x, Ag s, Ag d] (xUpdS c x s d) := by
  refine ret_W rfl Tryz.func100 rfl rfl (by simp [Tryz.f100]) ?_
  simp only [Tryz.f100]
  have sc : Sm c.arity := Nat.lt_of_le_of_lt hcS.1 (by omega)
  have h : SmC x := SmC.of (by omega) hx
  have hsb : Lw.bd 1048576 s.facts := hsS
  have hfb : Lw.bd 1048576 d.fact := hd
  have hs : SmF s.facts := ⟨Nat.lt_of_le_of_lt hsb.1 (by omega), fun a ha => Nat.lt_of_le_of_lt (hsb.2 a ha).1 (by omega)⟩
  have hf : Sm d.fact.args := Nat.lt_of_le_of_lt hfb.1 (by omega)
  have c1 := cv (specApply_r c s d sc hs hf)
  have c2 := cv (l18Copy_r x h)
  have c3 := cv (l5All_r s.facts hs)
  have c4 := cv (specIsCch_r c x sc h)
  have c5 := cv (specAff_r x d.fact h hf)
  simp only [Ag, cells_Sch, cells_RA, cells_Src, cells_Cch, cells_Chg, List.map_cons, List.map_nil] at c1 c2 c4 c5
  have hno : ∀ (e : updR c x s d = none), xUpdS c x s d = .tup [.agg [xvV x.views, xvT x.tables, .t (.i .i64 x.version) false], xvS s.facts s.version, .own 1 [], .t (.b false) false] := fun e => by rw [xUpdS, e]
  cases e2 : isCch c x
  · rw [hno (by simp [updR, e2])]
    by_cases ht : x.tables = [] <;> by_cases g2 : x.views = []
    all_goals
      first | rw [show xvV x.views = _ from if_pos g2] at c2 | rw [show xvV x.views = _ from if_neg g2] at c2
      first | rw [show xvT x.tables = _ from if_pos ht] at c2 | rw [show xvT x.tables = _ from if_neg ht] at c2
      cases e1 : appOk c s d
      · rw [show xApp c s d = .tup [xvS s.facts s.version, .t (.b false) false] from if_neg (by rw [e1]; decide)] at c1
        repeat' first|refine W_seq ?_|refine W_block ?_|refine W_skip ?_|refine W_ret ?_|refine W_exit ?_|refine xb_hit ?_|refine xb_miss (by decide) ?_|(apply W_reg;(simp [Ag, c1, c4, e2];exact .r _))
        refine W_cond (by simp; exact .r _) (fun hc => ?_) (fun hc => ?_)
        · repeat' first|refine W_seq ?_|refine W_block ?_|refine W_skip ?_|refine W_ret ?_|refine W_exit ?_|refine xb_hit ?_|refine xb_miss (by decide) ?_|(apply W_reg;(simp [c2, c3];exact .r _))|(apply W_draw (id := 3) [0,1,0,4,15,0,32,127,0,31,767,2047,4095] rfl rfl; (· simp; exact .r _); (· simp [c2, c3]; exact .r _); (· first|trivial|simp))
          simp [xvV, xvT, g2, ht]
        · cases hc
      · rw [show xApp c s d = .tup [xvS (appF s d) (s.version + 1), .t (.b true) false] from if_pos e1] at c1
        repeat' first|refine W_seq ?_|refine W_block ?_|refine W_skip ?_|refine W_ret ?_|refine W_exit ?_|refine xb_hit ?_|refine xb_miss (by decide) ?_|(apply W_reg;(simp [Ag, c1, c4, e2];exact .r _))
        refine W_cond (by simp; exact .r _) (fun hc => ?_) (fun hc => ?_)
        · repeat' first|refine W_seq ?_|refine W_block ?_|refine W_skip ?_|refine W_ret ?_|refine W_exit ?_|refine xb_hit ?_|refine xb_miss (by decide) ?_|(apply W_reg;(simp [c2, c3];exact .r _))|(apply W_draw (id := 3) [0,1,0,4,15,0,32,127,0,31,767,2047,4095] rfl rfl; (· simp; exact .r _); (· simp [c2, c3]; exact .r _); (· first|trivial|simp))
          simp [xvV, xvT, g2, ht]
        · cases hc
  obtain ⟨t1, t2⟩ := isCch_tab e2
  have ht : x.tables ≠ [] := fun e => by rw [e] at t1; simp at t1; omega
  have hvn : x.views ≠ [] := fun e => by rw [e] at t2; simp at t2
  rw [show xvT x.tables = _ from if_neg ht, show xvV x.views = _ from if_neg hvn] at c2
  have hvV : xvV x.views = .own 2 (rowsE x.views) := if_neg hvn
  have hvT : xvT x.tables = .own 1 (rowsE x.tables) := if_neg ht
  rw [hvV, hvT] at hno
  cases e1 : appOk c s d
  · rw [show xApp c s d = .tup [xvS s.facts s.version, .t (.b false) false] from if_neg (by rw [e1]; decide)] at c1
    rw [hno (by simp [updR, e1])]
    repeat' first|refine W_seq ?_|refine W_block ?_|refine W_skip ?_|refine W_ret ?_|refine W_exit ?_|refine xb_hit ?_|refine xb_miss (by decide) ?_|(apply W_reg;(simp [Ag, c1, c4, e2];exact .r _))
    refine W_cond (by simp; exact .r _) (fun hc => ?_) (fun hc => ?_)
    · repeat' first|refine W_seq ?_|refine W_block ?_|refine W_skip ?_|refine W_ret ?_|refine W_exit ?_|refine xb_hit ?_|refine xb_miss (by decide) ?_|(apply W_reg;(simp [c2, c3];exact .r _))|(apply W_draw (id := 3) [0,1,0,4,15,0,32,127,0,31,767,2047,4095] rfl rfl; (· simp; exact .r _); (· simp [c2, c3]; exact .r _); (· first|trivial|simp))
      simp
    · cases hc
  rw [show xApp c s d = .tup [xvS (appF s d) (s.version + 1), .t (.b true) false] from if_pos e1] at c1
  by_cases e3 : x.version = s.version
  case neg =>
    rw [hno (by simp [updR, e3])]
    repeat' first|refine W_seq ?_|refine W_block ?_|refine W_skip ?_|refine W_ret ?_|refine W_exit ?_|refine xb_hit ?_|refine xb_miss (by decide) ?_|(apply W_reg;(simp [Ag, c1, c4, e2, e3];exact .r _))
    refine W_cond (by simp; exact .r _) (fun hc => ?_) (fun hc => ?_)
    · repeat' first|refine W_seq ?_|refine W_block ?_|refine W_skip ?_|refine W_ret ?_|refine W_exit ?_|refine xb_hit ?_|refine xb_miss (by decide) ?_|(apply W_reg;(simp [c2, c3];exact .r _))|(apply W_draw (id := 3) [0,1,0,4,15,0,32,127,0,31,767,2047,4095] rfl rfl; (· simp; exact .r _); (· simp [c2, c3]; exact .r _); (· first|trivial|simp))
      simp
    · simp at hc
  rw [e3] at c2 c5 hno
  obtain ⟨v1, v2, v3⟩ := appOk_ver e1
  have hF := appF_bd hsb hfb v1 (by omega)
  have hup : updR c x s d = upT c x.views (appF s d) (affI x d.fact) x.tables := by simp [updR, e1, e2, e3]
  repeat' first|refine W_seq ?_|refine W_block ?_|refine W_skip ?_|refine W_ret ?_|refine W_exit ?_|refine xb_hit ?_|refine xb_miss (by decide) ?_|(apply W_reg;(simp [Ag, c1, c4, e2, e3];exact .r _))
  refine W_cond (by simp; exact .r _) (fun hc => ?_) (fun hc => ?_)
  · simp at hc
  repeat' first|refine W_seq ?_|refine W_block ?_|refine W_skip ?_|refine W_ret ?_|refine W_exit ?_|refine xb_hit ?_|refine xb_miss (by decide) ?_|(apply W_reg;(simp [c2, c5];exact .r _))
  generalize hV0 : s.version = V0 at *
  generalize hL0 : s.facts = L0 at *
  generalize hF' : appF s d = F at *
  have hAl : (affI x d.fact).length ≤ x.views.length := affL_len
  have hAm := affI_mem (x := x) (f := d.fact)
  generalize hR' : affI x d.fact = R at *
  have hv : x.views.length < 1099511627775 := h.1
  refine W_loop (n := R.length) (fun n s => ∃ i : Nat, ∃ ts : List (List Row), ∃ sT : Nat, n = R.length - i ∧ s.nt = 99 ∧ s.tm 4 = .ptr 0 0 ∧ s.tm 5 = .ptr 1 0 ∧ s.tm 6 = .ptr 2 0 ∧ s.tm 8 = .ptr 4 0 ∧ s.tm 9 = .ptr 5 0 ∧ s.tm 12 = .ptr 7 0 ∧ s.tm 14 = .ref 8 R.length [] ∧ s.tm 15 = .ptr 11 0 ∧ s.tm 16 = In i ∧ i ≤ R.length ∧ s.σ.ob 0 = .box [Ar c.arity] ∧ s.σ.ob 1 = .box [Ar x.views, Ar x.tables, In V0] ∧ s.σ.ob 2 = .box [Ar L0, In V0] ∧ s.σ.ob 4 = .box [.t .nl, .t .nl, In 0] ∧ s.σ.ob 5 = .box [.t .nl, In 0] ∧ s.σ.ob 6 = .arr (.own 0) 0 2 (rowsE F) ∧ s.σ.ob 7 = .box [.ref 6 F.length [], In (V0 + 1)] ∧ s.σ.ob 8 = .arr (.own 0) 0 1 (rowsE R) ∧ s.σ.ob 9 = .arr (.own 0) 0 2 (rowsE x.views) ∧ s.σ.ob 10 = .arr (.own 0) sT 1 (rowsE ts) ∧ s.σ.ob 11 = .box [.ref 9 x.views.length [], .ref 10 x.tables.length [], In (V0 + 1)] ∧ 12 ≤ s.σ.n ∧ ts.length = x.views.length ∧ upT c x.views F R x.tables = upT c x.views F (R.drop i) ts) ⟨0, x.tables, 0, by simp [t1]⟩ ?_
  rintro n ⟨nt, tm, σ⟩ ⟨i, ts, sT, rfl, hnt, h4, h5, h6, h8, h9, h12, h14, h15, h16, hi, hb0, hb1, hb2, hb4, hb5, hb6, hb7, hb8, hb9, hb10, hb11, hn, hts, heq⟩
  simp only at hnt h4 h5 h6 h8 h9 h12 h14 h15 h16 hb0 hb1 hb2 hb4 hb5 hb6 hb7 hb8 hb9 hb10 hb11 hn
  subst hnt
  have ap1_ := apart hn
  repeat' first|refine W_seq ?_|refine W_block ?_|refine W_skip ?_|refine W_ret ?_|refine W_exit ?_|refine xb_hit ?_|refine xb_miss (by decide) ?_|(apply W_reg;(simp [h4, h5, h6, h8, h9, h12, h14, h15, h16, hb0, hb1, hb2, hb4, hb5, hb6, hb7, hb8, hb9, hb10, hb11, hn, ap1_];exact .r _))
  refine W_cond (by simp [h4, h5, h6, h8, h9, h12, h14, h15, h16, hb0, hb1, hb2, hb4, hb5, hb6, hb7, hb8, hb9, hb10, hb11, hn, ap1_]; exact .r _) (fun hc => ?_) (fun hc => ?_)
  · have hil : i < R.length := by simpa using hc
    obtain ⟨k, hk, hkv⟩ := hAm R[i] (List.getElem_mem hil)
    have c6 := cv (specAns_r c x.views[k] F hcS (hx.1.2 _ (List.getElem_mem hkv)) hF)
    simp only [Ag, cells_Sch, cells_Q, List.map_cons, List.map_nil] at c6
    have hrl : (rowsE (ansC c x.views[k] F)).length = (ansC c x.views[k] F).length := rowsE_len ..
    rw [upT_step hil hk hkv] at heq
    repeat' first|refine W_seq ?_|refine W_block ?_|refine W_skip ?_|refine W_ret ?_|refine W_exit ?_|refine xb_hit ?_|refine xb_miss (by decide) ?_|(apply W_reg;(simp [h4, h5, h6, h8, h9, h12, h14, h15, h16, hb0, hb1, hb2, hb4, hb5, hb6, hb7, hb8, hb9, hb10, hb11, hn, ap1_, hil, hk, hkv, c6, hrl];exact .r _))|(apply W_draw (id := 10) [0,0,2,0,0,24,56,126,254,0,512,2047,4095] rfl rfl; (· simp; exact .r _); (· simp [h4, h5, h6, h8, h9, h12, h14, h15, h16, hb0, hb1, hb2, hb4, hb5, hb6, hb7, hb8, hb9, hb10, hb11, hn, ap1_, hil, hk, hkv, c6, hrl]; exact .r _); (· first|trivial|simp))
    refine W_cond (by simp [h4, h5, h6, h8, h9, h12, h14, h15, h16, hb0, hb1, hb2, hb4, hb5, hb6, hb7, hb8, hb9, hb10, hb11, hn, ap1_]; exact .r _) (fun hd => ?_) (fun hd => ?_)
    · have hd' : ¬ (ansC c x.views[k] F).length ≤ 90 := by simp at hd; omega
      rw [if_neg hd'] at heq
      rw [heq] at hup
      rw [hno hup]
      repeat' first|refine W_seq ?_|refine W_block ?_|refine W_skip ?_|refine W_ret ?_|refine W_exit ?_|refine xb_hit ?_|refine xb_miss (by decide) ?_|(apply W_reg;(simp [h4, h5, h6, h8, h9, h12, h14, h15, h16, hb0, hb1, hb2, hb4, hb5, hb6, hb7, hb8, hb9, hb10, hb11, hn, ap1_, c2, c3];exact .r _))|(apply W_draw (id := 12) [0,1,0,4,15,0,32,127,0,31,767,2047,4095] rfl rfl; (· simp; exact .r _); (· simp [h4, h5, h6, h8, h9, h12, h14, h15, h16, hb0, hb1, hb2, hb4, hb5, hb6, hb7, hb8, hb9, hb10, hb11, hn, ap1_, c2, c3]; exact .r _); (· first|trivial|simp))
      simp [hL0, hV0, h4, h5, h6, h8, h9, h12, h14, h15, h16, hb0, hb1, hb2, hb4, hb5, hb6, hb7, hb8, hb9, hb10, hb11, hn, ap1_]
    · have hd' : (ansC c x.views[k] F).length ≤ 90 := by simp at hd; omega
      rw [if_pos hd'] at heq
      have hkt : k < ts.length := by omega
      have hkn : ¬ (k : Int) < 0 := by omega
      repeat' first|refine W_seq ?_|refine W_block ?_|refine W_skip ?_|refine W_ret ?_|refine W_exit ?_|refine xb_hit ?_|refine xb_miss (by decide) ?_|(apply W_reg;(simp [h4, h5, h6, h8, h9, h12, h14, h15, h16, hb0, hb1, hb2, hb4, hb5, hb6, hb7, hb8, hb9, hb10, hb11, hn, ap1_, hil, hk, hrl, hkt, hkv, t1, hts, hkn];exact .r _))|(apply W_draw (id := 13) [0,1,0,0,12,28,0,127,255] rfl rfl; (· simp; exact .r _); (· simp [h4, h5, h6, h8, h9, h12, h14, h15, h16, hb0, hb1, hb2, hb4, hb5, hb6, hb7, hb8, hb9, hb10, hb11, hn, ap1_, hil, hk, hrl, hkt, hkv, t1, hts, hkn]; exact .r _); (· first|trivial|simp))
      refine ⟨_, ?_, i + 1, ts.set k (ansC c x.views[k] F), sT + 1, rfl, rfl, ?_, ?_, ?_, ?_, ?_, ?_, ?_, ?_, ?_, by omega, ?_, ?_, ?_, ?_, ?_, ?_, ?_, ?_, ?_, (by simp [h4, h5, h6, h8, h9, h12, h14, h15, h16, hb0, hb1, hb2, hb4, hb5, hb6, hb7, hb8, hb9, hb10, hb11, hn, ap1_, rowsE_set, hts, t1, putT]), ?_, ?_, (by simp [hts]), heq⟩
      all_goals first|assumption|(simp [h4, h5, h6, h8, h9, h12, h14, h15, h16, hb0, hb1, hb2, hb4, hb5, hb6, hb7, hb8, hb9, hb10, hb11, hn, ap1_];done)|(simp [h4, h5, h6, h8, h9, h12, h14, h15, h16, hb0, hb1, hb2, hb4, hb5, hb6, hb7, hb8, hb9, hb10, hb11, hn, ap1_];omega)|(simp [h4, h5, h6, h8, h9, h12, h14, h15, h16, hb0, hb1, hb2, hb4, hb5, hb6, hb7, hb8, hb9, hb10, hb11, hn, ap1_];exact wrap_succ (by omega))|omega
  · have hil : i = R.length := by simp at hc; omega
    subst hil
    rw [List.drop_length, upT] at heq
    rw [heq] at hup
    repeat' first|refine W_seq ?_|refine W_block ?_|refine W_skip ?_|refine W_ret ?_|refine W_exit ?_|refine xb_hit ?_|refine xb_miss (by decide) ?_|(apply W_reg;(simp [h4, h5, h6, h8, h9, h12, h14, h15, h16, hb0, hb1, hb2, hb4, hb5, hb6, hb7, hb8, hb9, hb10, hb11, hn, ap1_];exact .r _))|(apply W_draw (id := 14) [0,0,0,1,11,31,63] rfl rfl; (· simp; exact .r _); (· simp [h4, h5, h6, h8, h9, h12, h14, h15, h16, hb0, hb1, hb2, hb4, hb5, hb6, hb7, hb8, hb9, hb10, hb11, hn, ap1_]; exact .r _); (· first|trivial|simp))
    simp [xUpdS, hup, hL0, hV0, hF', hR', hts, t1, h4, h5, h6, h8, h9, h12, h14, h15, h16, hb0, hb1, hb2, hb4, hb5, hb6, hb7, hb8, hb9, hb10, hb11, hn, ap1_]
end Go.Proofs.YtmfifjbbjjdacaaGreat.V

