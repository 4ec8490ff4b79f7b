/- Several texts in one: what the claim needs of them. Conditions: each declaration's own. -/
import Derived.Test.YtlehbgapjibeeaaZChkM4
import Derived.Test.YtlehbgapjibeeaaZChkM5
import Derived.Test.YtlehbgapjibeeaaZChkM7
namespace Go.Proofs.Ytlehbgapjibeeaa.V
open Go Go.Proofs
set_option linter.unusedSimpArgs false
theorem szIntS_r (l : List Int) (left : Int) (h0 : 0 ≤ left) (h1 : left ≤ 1048576) (hf : Fit l) : Ret XX 28 [Ar l, In left] (.t (.i .i64 (szA (Lw.w l) left)) false) := by
  have hl : l.length ≤ 9223372036854775807 := hf.1
  rw [show Lw.w l = l.length from wL_ints l]
  refine ret_W rfl Try.func28 rfl rfl (by simp [Try.f28]) ?_
  simp only [Try.f28]
  have hw : IntKind.i64.wrap (left - l.length) = left - l.length := wrap_ok (by omega) (by omega)
  repeat' first|refine nx ?_|refine xb_miss (by decide) ?_|(apply W_reg;(simp [hw];exact .r _))
  refine W_cond (by simp; exact .r _) (fun hc => ?_) (fun hc => ?_)
  · repeat' first|refine nx ?_|refine xb_miss (by decide) ?_|(apply W_reg;(simp;exact .r _))
    have : ¬ (l.length : Int) ≤ left := by simp at hc; omega
    simp [szA, this]
  · repeat' first|refine nx ?_|refine xb_miss (by decide) ?_|(apply W_reg;(simp;exact .r _))
    have : (l.length : Int) ≤ left := by simp at hc; omega
    simp [szA, this]
theorem toIntS_r (l : List Int) (hl : Lw.bd 1048576 l) : Ret XX 33 [Ar l] (.own 1 (rowsE l)) := by
  have hn := hl.1
  refine ret_W rfl Try.func33 rfl rfl (by simp [Try.f33]) ?_
  simp only [Try.f33]
  repeat' first|refine nx ?_|refine xb_miss (by decide) ?_|(apply W_reg;(simp [show l.length < 1099511627776 by omega];exact .r _))
  refine W_loop (n := l.length) (fun n s => ∃ i : Nat, n = l.length - i ∧ s.nt = 22 ∧ s.tm 0 = Ar l ∧ s.tm 3 = .ref 0 l.length [] ∧ s.tm 4 = In i ∧ i ≤ l.length ∧ s.σ.ob 0 = .arr (.own 0) 0 1 (rowsE (l.take i ++ List.replicate (l.length - i) 0))) ⟨0, by simp [rowsE]⟩ ?_
  rintro n ⟨nt, tm, σ⟩ ⟨i, rfl, hnt, h0, h3, h4, hi, ho⟩
  simp only at hnt h0 h3 h4 ho
  subst hnt
  repeat' first|refine nx ?_|refine xb_miss (by decide) ?_|(apply W_reg;(simp [h0, h3, h4, ho];exact .r _))
  refine W_cond (by simp [h0, h3, h4, ho]; exact .r _) (fun hc => ?_) (fun hc => ?_)
  · have hil : i < l.length := by simpa using hc
    have hle : i ≤ l.length := hi
    have hg : (rowsE (l.take i ++ List.replicate (l.length - i) (0 : Int)))[i]? = some [.i .i64 0] := fill_get l 0 i hil
    have hfs := fill_set l 0 i hil
    have hrl : (rowsE (l.take i ++ List.replicate (l.length - i) (0 : Int))).length = l.length := fill_len l 0 i hi
    repeat' first|refine nx ?_|refine xb_miss (by decide) ?_|(apply W_reg;(simp [h0, h3, h4, ho, hil, hg, hrl, hle];exact .r _))
    refine ⟨_, ?_, i + 1, rfl, rfl, ?_, ?_, ?_, by omega, by (simp; rw [← hfs, rowsE_set]; rfl)⟩
    all_goals first|assumption|(simp [h0, h3, h4, ho];done)|(simp [h0, h3, h4, ho];omega)|(simp [h0, h3, h4, ho];exact wrap_succ (by omega))|omega
  · have hil : i = l.length := by simp at hc; omega
    subst hil
    repeat' first|refine nx ?_|refine xb_miss (by decide) ?_|(apply W_reg;(simp [h0, h3, h4, ho];exact .r _))
    simp [ho]
theorem eqIntS_r (a b : List (Int)) (hl : Lw.bd 1048576 a) : Ret XX 38 [Ar a, Ar b] (.t (.b (decide (a = b))) false) := by
  have hn := hl.1
  refine ret_W rfl Try.func38 rfl rfl (by simp [Try.f38]) ?_
  simp only [Try.f38]
  repeat' first|refine nx ?_|refine xb_miss (by decide) ?_|(apply W_reg;(simp;exact .r _))|(apply W_draw (id := 6) [0,0,3,7,0,0,48,112,255] rfl rfl; (· simp; exact .r _); (· simp; exact .r _); (· first|trivial|simp))
  refine W_cond (by simp; exact .r _) (fun hc => ?_) (fun hc => ?_)
  · repeat' first|refine nx ?_|refine xb_miss (by decide) ?_|(apply W_reg;(simp;exact .r _))|(apply W_draw (id := 6) [0,0,3,7,0,0,48,112,255] rfl rfl; (· simp; exact .r _); (· simp; exact .r _); (· first|trivial|simp))
    have : a ≠ b := fun e => by subst e; simp at hc
    simp [this]
  have hll : a.length = b.length := by simp at hc; omega
  repeat' first|refine nx ?_|refine xb_miss (by decide) ?_|(apply W_reg;(simp;exact .r _))|(apply W_draw (id := 6) [0,0,3,7,0,0,48,112,255] rfl rfl; (· simp; exact .r _); (· simp; exact .r _); (· first|trivial|simp))
  refine W_loop (n := a.length) (fun n s => ∃ i : Nat, n = a.length - i ∧ s.nt = 26 ∧ s.tm 0 = Ar a ∧ s.tm 1 = Ar b ∧ s.tm 5 = In i ∧ i ≤ a.length ∧ a.take i = b.take i) ⟨0, by simp⟩ ?_
  rintro n ⟨nt, tm, σ⟩ ⟨i, rfl, hnt, h0, h1, h5, hi, heq⟩
  simp only at hnt h0 h1 h5
  subst hnt
  repeat' first|refine nx ?_|refine xb_miss (by decide) ?_|(apply W_reg;(simp [h0, h1, h5];exact .r _))|(apply W_draw (id := 6) [0,0,3,7,0,0,48,112,255] rfl rfl; (· simp; exact .r _); (· simp [h0, h1, h5]; exact .r _); (· first|trivial|simp))
  refine W_cond (by simp [h0, h1, h5]; exact .r _) (fun hc => ?_) (fun hc => ?_)
  · have hia : i < a.length := by simpa using hc
    have hib : i < b.length := by omega
    repeat' first|refine nx ?_|refine xb_miss (by decide) ?_|(apply W_reg;(simp [h0, h1, h5, hia, hib];exact .r _))|(apply W_draw (id := 6) [0,0,3,7,0,0,48,112,255] rfl rfl; (· simp; exact .r _); (· simp [h0, h1, h5, hia, hib]; exact .r _); (· first|trivial|simp))
    refine W_cond (by simp [h0, h1, h5]; exact .r _) (fun hd => ?_) (fun hd => ?_)
    · repeat' first|refine nx ?_|refine xb_miss (by decide) ?_|(apply W_reg;(simp [h0, h1, h5];exact .r _))|(apply W_draw (id := 6) [0,0,3,7,0,0,48,112,255] rfl rfl; (· simp; exact .r _); (· simp [h0, h1, h5]; exact .r _); (· first|trivial|simp))
      have : a ≠ b := fun e => by subst e; simp at hd
      simp [this]
    · have hd : a[i] = b[i] := by simpa using hd
      repeat' first|refine nx ?_|refine xb_miss (by decide) ?_|(apply W_reg;(simp [h0, h1, h5];exact .r _))|(apply W_draw (id := 6) [0,0,3,7,0,0,48,112,255] rfl rfl; (· simp; exact .r _); (· simp [h0, h1, h5]; exact .r _); (· first|trivial|simp))
      refine ⟨_, ?_, i + 1, rfl, rfl, ?_, ?_, ?_, by omega, by rw [List.take_succ_eq_append_getElem hia, List.take_succ_eq_append_getElem hib, heq, hd]⟩
      all_goals first|assumption|(simp [h0, h1, h5];done)|(simp [h0, h1, h5];omega)|(simp [h0, h1, h5];exact wrap_succ (by omega))|omega
  · have hil : i = a.length := by simp at hc; omega
    subst hil
    repeat' first|refine nx ?_|refine xb_miss (by decide) ?_|(apply W_reg;(simp [h0, h1, h5];exact .r _))|(apply W_draw (id := 6) [0,0,3,7,0,0,48,112,255] rfl rfl; (· simp; exact .r _); (· simp [h0, h1, h5]; exact .r _); (· first|trivial|simp))
    rw [List.take_length, hll, List.take_length] at heq
    have : a = b := heq
    simp [this]
theorem szAtom_r (a : RA) (left : Int) (h0 : 0 ≤ left) (h1 : left ≤ 1048576) (hf : Fit a) : Ret XX 56 [Ag a, In left] (.t (.i .i64 (szA (Lw.w a) left)) false) := by
  refine ret_W rfl Try.func56 rfl rfl (by simp [Try.f56]) ?_
  simp only [Try.f56]
  have c0 := fun (r : Int) (g0 : 0 ≤ r) (g1 : r ≤ 1048576) => cv (szIntS_r a.args r g0 g1 hf)
  have hw : Lw.w a = Lw.w a.args := rfl
  have d0 := c0 (left) (by omega) (by omega)
  repeat' first|refine nx ?_|refine xb_miss (by decide) ?_|(apply W_reg;(simp [Ag, d0];exact .r _))
  by_cases e0 : ((Lw.w a.args : Nat) : Int) ≤ left
  case neg =>
    have s0 : szA (Lw.w a.args) (left) = -1 := by unfold szA; rw [if_neg e0]
    have s9 : szA (Lw.w a) left = -1 := by unfold szA; rw [hw, if_neg (by omega)]
    refine W_cond (by simp; exact .r _) (fun hc => ?_) (fun hc => ?_)
    · repeat' first|refine nx ?_|refine xb_miss (by decide) ?_|(apply W_reg;(simp;exact .r _))
      rw [s9]; simp
    · exfalso; revert hc; rw [s0]; simp
  have s0 : szA (Lw.w a.args) (left) = left - (Lw.w a.args : Nat) := by unfold szA; rw [if_pos e0]
  refine W_cond (by simp; exact .r _) (fun hc => ?_) (fun hc => ?_)
  · exfalso; revert hc; rw [s0]; simp; omega
  repeat' first|refine nx ?_|refine xb_miss (by decide) ?_|(apply W_reg;(simp [s0];exact .r _))
  have s9 : szA (Lw.w a) left = left - (Lw.w a.args : Nat) := by unfold szA; (rw [hw, if_pos (by omega)]) <;> omega
  rw [s9]; simp [s0]
theorem toAtom_r (a : RA) (hl : Lw.bd 1048576 a) : Ret XX 64 [Ag a] (.agg [.t (.i .i64 a.rel) false, .own 1 (rowsE a.args)]) := by
  refine ret_W rfl Try.func64 rfl rfl (by simp [Try.f64]) ?_
  simp only [Try.f64]
  have c0 := cv (toIntS_r a.args hl)
  repeat' first|refine nx ?_|refine xb_miss (by decide) ?_|(apply W_reg;(simp [Ag, c0];exact .r _))
  simp
theorem eqAtom_r (a b : RA) (hl : Lw.bd 1048576 a) : Ret XX 83 [Ag a, Ag b] (.t (.b (decide (a = b))) false) := by
  refine ret_W rfl Try.func83 rfl rfl (by simp [Try.f83]) ?_
  simp only [Try.f83]
  have c0 := cv (eqIntS_r a.args b.args hl)
  repeat' first|refine nx ?_|refine xb_miss (by decide) ?_|(apply W_reg;(simp [Ag, c0];exact .r _))
  refine W_cond (by simp; exact .r _) (fun hc => ?_) (fun hc => ?_)
  · repeat' first|refine nx ?_|refine xb_miss (by decide) ?_|(apply W_reg;(simp;exact .r _))
    have : a ≠ b := fun e => by subst e; simp at hc
    simp [this]
  have e0 : a.rel = b.rel := by simpa using hc
  clear hc
  repeat' first|refine nx ?_|refine xb_miss (by decide) ?_|(apply W_reg;(simp [Ag, c0];exact .r _))
  refine W_cond (by simp; exact .r _) (fun hc => ?_) (fun hc => ?_)
  · repeat' first|refine nx ?_|refine xb_miss (by decide) ?_|(apply W_reg;(simp;exact .r _))
    have : a ≠ b := fun e => by subst e; simp at hc
    simp [this]
  have e1 : a.args = b.args := by simpa using hc
  clear hc
  repeat' first|refine nx ?_|refine xb_miss (by decide) ?_|(apply W_reg;(simp;exact .r _))
  have : a = b := by cases a; cases b; simp only at e0 e1; simp [e0, e1]
  simp [this]
theorem szAtomS_r (l : List (RA)) (left : Int) (h0 : 0 ≤ left) (h1 : left ≤ 1048576) (hf : Fit l) : Ret XX 29 [Ar l, In left] (.t (.i .i64 (szA (Lw.w l) left)) false) := by
  have hl : l.length ≤ 9223372036854775807 := hf.1
  have hwl : Lw.w l = wL l := rfl
  rw [hwl]
  refine ret_W rfl Try.func29 rfl rfl (by simp [Try.f29]) ?_
  simp only [Try.f29]
  have hw : IntKind.i64.wrap (left - l.length) = left - l.length := wrap_ok (by omega) (by omega)
  repeat' first|refine nx ?_|refine xb_miss (by decide) ?_|(apply W_reg;(simp [hw];exact .r _))
  refine W_cond (by simp; exact .r _) (fun hc => ?_) (fun hc => ?_)
  · repeat' first|refine nx ?_|refine xb_miss (by decide) ?_|(apply W_reg;(simp;exact .r _))
    have hgt : ¬ (l.length : Int) ≤ left := by simp at hc; omega
    have : ¬ ((wL l : Nat) : Int) ≤ left := by unfold wL; omega
    simp [szA, this]
  have hle : (l.length : Int) ≤ left := by simp at hc; omega
  repeat' first|refine nx ?_|refine xb_miss (by decide) ?_|(apply W_reg;(simp;exact .r _))
  refine W_loop (n := l.length) (fun n s => ∃ i : Nat, ∃ r : Int, n = l.length - i ∧ s.nt = 27 ∧ s.tm 0 = Ar l ∧ s.tm 1 = In r ∧ s.tm 5 = In i ∧ i ≤ l.length ∧ 0 ≤ r ∧ r = left - l.length - ((l.take i).map Lw.w).sum) ⟨0, left - l.length, by simp <;> omega⟩ ?_
  rintro n ⟨nt, tm, σ⟩ ⟨i, r, rfl, hnt, h0, h1, h5, hi, hr, hre⟩
  simp only at hnt h0 h1 h5
  subst hnt
  repeat' first|refine nx ?_|refine xb_miss (by decide) ?_|(apply W_reg;(simp [h0, h1, h5];exact .r _))
  have hsplit : wL l = l.length + ((l.take i).map Lw.w).sum + ((l.drop i).map Lw.w).sum := by
    have := wL_split l i; unfold wL; omega
  refine W_cond (by simp [h0, h1, h5]; exact .r _) (fun hc => ?_) (fun hc => ?_)
  · have hil : i < l.length := by simp at hc; omega
    have hcc := cv (szAtom_r l[i] r hr (by omega) (hf.2 _ (List.getElem_mem hil)))
    simp only [Ag, cells_RA, List.map_cons, List.map_nil] at hcc
    repeat' first|refine nx ?_|refine xb_miss (by decide) ?_|(apply W_reg;(simp [h0, h1, h5, hil, hcc];exact .r _))
    have hd : ((l.drop i).map Lw.w).sum = Lw.w l[i] + ((l.drop (i + 1)).map Lw.w).sum := by rw [List.drop_eq_getElem_cons hil, List.map_cons, List.sum_cons]
    have ht := wL_take l i hil
    by_cases h : ((Lw.w l[i] : Nat) : Int) ≤ r
    · have h' : szA (Lw.w l[i]) r = r - Lw.w l[i] := by simp [szA, h]
      refine W_cond (by simp [h0, h1, h5]; exact .r _) (fun he => ?_) (fun he => ?_)
      · rw [h'] at he; simp at he; omega
      · repeat' first|refine nx ?_|refine xb_miss (by decide) ?_|(apply W_reg;(simp [h0, h1, h5];exact .r _))
        refine ⟨_, ?_, i + 1, szA (Lw.w l[i]) r, rfl, rfl, ?_, ?_, ?_, by omega, by (rw [h']; omega), by (rw [h', ht]; omega)⟩
        all_goals first|assumption|(simp [h0, h1, h5];done)|(simp [h0, h1, h5];omega)|(simp [h0, h1, h5];exact wrap_succ (by omega))|omega
    · refine W_cond (by simp [h0, h1, h5]; exact .r _) (fun he => ?_) (fun he => ?_)
      · repeat' first|refine nx ?_|refine xb_miss (by decide) ?_|(apply W_reg;(simp [h0, h1, h5];exact .r _))
        have : ¬ ((wL l : Nat) : Int) ≤ left := by rw [hsplit, hd]; omega
        simp [szA, this]
      · exfalso
        have h' : szA (Lw.w l[i]) r = -1 := by unfold szA; rw [if_neg h]
        rw [h'] at he; simp at he
  · have hil : i = l.length := by simp at hc; omega
    subst hil
    repeat' first|refine nx ?_|refine xb_miss (by decide) ?_|(apply W_reg;(simp [h0, h1, h5];exact .r _))
    rw [List.drop_length] at hsplit
    simp only [List.map_nil, List.sum_nil, Nat.add_zero] at hsplit
    have : ((wL l : Nat) : Int) ≤ left := by rw [hsplit]; omega
    have h9 : szA (wL l) left = r := by rw [szA, if_pos this, hsplit]; omega
    simp [h9]
theorem toAtomS_r (l : List (RA)) (hl : Lw.bd 1048576 l) : Ret XX 34 [Ar l] (.own 2 (rowsE l)) := by
  have hn := hl.1
  refine ret_W rfl Try.func34 rfl rfl (by simp [Try.f34]) ?_
  simp only [Try.f34]
  repeat' first|refine nx ?_|refine xb_miss (by decide) ?_|(apply W_reg;(simp [show l.length < 1099511627776 by omega];exact .r _))
  refine W_loop (n := l.length) (fun n s => ∃ i : Nat, ∃ st : Nat, n = l.length - i ∧ s.nt = 23 ∧ s.tm 0 = Ar l ∧ s.tm 3 = .ref 0 l.length [] ∧ s.tm 4 = In i ∧ i ≤ l.length ∧ s.σ.ob 0 = .arr (.own 0) st 2 (rowsE (l.take i ++ List.replicate (l.length - i) (⟨0, []⟩ : RA))) ∧ 1 ≤ s.σ.n) ⟨0, 0, by simp [rowsE]⟩ ?_
  rintro n ⟨nt, tm, σ⟩ ⟨i, st, rfl, hnt, h0, h3, h4, hi, ho, hn1⟩
  simp only at hnt h0 h3 h4 ho hn1
  subst hnt
  repeat' first|refine nx ?_|refine xb_miss (by decide) ?_|(apply W_reg;(simp [h0, h3, h4, ho, hn1];exact .r _))
  refine W_cond (by simp [h0, h3, h4, ho, hn1]; exact .r _) (fun hc => ?_) (fun hc => ?_)
  · have hil : i < l.length := by simpa using hc
    have hle : i ≤ l.length := hi
    have e0 : ¬ (0 = σ.n) := by omega
    have e0' : ¬ (σ.n = 0) := by omega
    have hg : (rowsE (l.take i ++ List.replicate (l.length - i) (⟨0, []⟩ : RA)))[i]? = some (Enc.cells (⟨0, []⟩ : RA)) := fill_get l _ i hil
    have hfs := fill_set l (⟨0, []⟩ : RA) i hil
    have hrl : (rowsE (l.take i ++ List.replicate (l.length - i) (⟨0, []⟩ : RA))).length = l.length := fill_len l _ i hi
    simp only [cells_RA, rowsE_nil] at hg
    have hcc := cv (toAtom_r l[i] (hl.2 _ (List.getElem_mem hil)))
    simp only [Ag, cells_RA, List.map_cons, List.map_nil] at hcc
    repeat' first|refine nx ?_|refine xb_miss (by decide) ?_|(apply W_reg;(simp [h0, h3, h4, ho, hn1, hil, hg, hrl, hle, hcc, e0, e0'];exact .r _))
    refine ⟨_, ?_, i + 1, st + 1, rfl, rfl, ?_, ?_, ?_, by omega, by (simp [e0, e0']; rw [← hfs, rowsE_set]; rfl), ?_⟩
    all_goals first|assumption|(simp [h0, h3, h4, ho, hn1, e0, e0'];done)|(simp [h0, h3, h4, ho, hn1, e0, e0'];omega)|(simp [h0, h3, h4, ho, hn1, e0, e0'];exact wrap_succ (by omega))|omega
  · have hil : i = l.length := by simp at hc; omega
    subst hil
    repeat' first|refine nx ?_|refine xb_miss (by decide) ?_|(apply W_reg;(simp [h0, h3, h4, ho, hn1];exact .r _))
    simp [ho]
theorem eqAtomS_r (a b : List (RA)) (hl : Lw.bd 1048576 a) : Ret XX 39 [Ar a, Ar b] (.t (.b (decide (a = b))) false) := by
  have hn := hl.1
  refine ret_W rfl Try.func39 rfl rfl (by simp [Try.f39]) ?_
  simp only [Try.f39]
  repeat' first|refine nx ?_|refine xb_miss (by decide) ?_|(apply W_reg;(simp;exact .r _))|(apply W_draw (id := 6) [0,0,3,7,0,0,48,112,255,511] rfl rfl; (· simp; exact .r _); (· simp; exact .r _); (· first|trivial|simp))
  refine W_cond (by simp; exact .r _) (fun hc => ?_) (fun hc => ?_)
  · repeat' first|refine nx ?_|refine xb_miss (by decide) ?_|(apply W_reg;(simp;exact .r _))|(apply W_draw (id := 6) [0,0,3,7,0,0,48,112,255,511] rfl rfl; (· simp; exact .r _); (· simp; exact .r _); (· first|trivial|simp))
    have : a ≠ b := fun e => by subst e; simp at hc
    simp [this]
  have hll : a.length = b.length := by simp at hc; omega
  repeat' first|refine nx ?_|refine xb_miss (by decide) ?_|(apply W_reg;(simp;exact .r _))|(apply W_draw (id := 6) [0,0,3,7,0,0,48,112,255,511] rfl rfl; (· simp; exact .r _); (· simp; exact .r _); (· first|trivial|simp))
  refine W_loop (n := a.length) (fun n s => ∃ i : Nat, n = a.length - i ∧ s.nt = 27 ∧ s.tm 0 = Ar a ∧ s.tm 1 = Ar b ∧ s.tm 5 = In i ∧ i ≤ a.length ∧ a.take i = b.take i) ⟨0, by simp⟩ ?_
  rintro n ⟨nt, tm, σ⟩ ⟨i, rfl, hnt, h0, h1, h5, hi, heq⟩
  simp only at hnt h0 h1 h5
  subst hnt
  repeat' first|refine nx ?_|refine xb_miss (by decide) ?_|(apply W_reg;(simp [h0, h1, h5];exact .r _))|(apply W_draw (id := 6) [0,0,3,7,0,0,48,112,255,511] rfl rfl; (· simp; exact .r _); (· simp [h0, h1, h5]; exact .r _); (· first|trivial|simp))
  refine W_cond (by simp [h0, h1, h5]; exact .r _) (fun hc => ?_) (fun hc => ?_)
  · have hia : i < a.length := by simpa using hc
    have hib : i < b.length := by omega
    have hcc := cv (eqAtom_r a[i] b[i] (hl.2 _ (List.getElem_mem hia)))
    simp only [Ag, cells_RA, List.map_cons, List.map_nil] at hcc
    repeat' first|refine nx ?_|refine xb_miss (by decide) ?_|(apply W_reg;(simp [h0, h1, h5, hia, hib, hcc];exact .r _))|(apply W_draw (id := 6) [0,0,3,7,0,0,48,112,255,511] rfl rfl; (· simp; exact .r _); (· simp [h0, h1, h5, hia, hib, hcc]; exact .r _); (· first|trivial|simp))
    refine W_cond (by simp [h0, h1, h5]; exact .r _) (fun hd => ?_) (fun hd => ?_)
    · repeat' first|refine nx ?_|refine xb_miss (by decide) ?_|(apply W_reg;(simp [h0, h1, h5];exact .r _))|(apply W_draw (id := 6) [0,0,3,7,0,0,48,112,255,511] rfl rfl; (· simp; exact .r _); (· simp [h0, h1, h5]; exact .r _); (· first|trivial|simp))
      have : a ≠ b := fun e => by subst e; simp at hd
      simp [this]
    · have hd : a[i] = b[i] := by simpa using hd
      repeat' first|refine nx ?_|refine xb_miss (by decide) ?_|(apply W_reg;(simp [h0, h1, h5];exact .r _))|(apply W_draw (id := 6) [0,0,3,7,0,0,48,112,255,511] rfl rfl; (· simp; exact .r _); (· simp [h0, h1, h5]; exact .r _); (· first|trivial|simp))
      refine ⟨_, ?_, i + 1, rfl, rfl, ?_, ?_, ?_, by omega, by rw [List.take_succ_eq_append_getElem hia, List.take_succ_eq_append_getElem hib, heq, hd]⟩
      all_goals first|assumption|(simp [h0, h1, h5];done)|(simp [h0, h1, h5];omega)|(simp [h0, h1, h5];exact wrap_succ (by omega))|omega
  · have hil : i = a.length := by simp at hc; omega
    subst hil
    repeat' first|refine nx ?_|refine xb_miss (by decide) ?_|(apply W_reg;(simp [h0, h1, h5];exact .r _))|(apply W_draw (id := 6) [0,0,3,7,0,0,48,112,255,511] rfl rfl; (· simp; exact .r _); (· simp [h0, h1, h5]; exact .r _); (· first|trivial|simp))
    rw [List.take_length, hll, List.take_length] at heq
    have : a = b := heq
    simp [this]
theorem szQuery_r (a : Qry) (left : Int) (h0 : 0 ≤ left) (h1 : left ≤ 1048576) (hf : Fit a) : Ret XX 7 [Ag a, In left] (.t (.i .i64 (szA (Lw.w a) left)) false) := by
  refine ret_W rfl Try.func7 rfl rfl (by simp [Try.f7]) ?_
  simp only [Try.f7]
  have c0 := fun (r : Int) (g0 : 0 ≤ r) (g1 : r ≤ 1048576) => cv (szIntS_r a.head r g0 g1 hf.1)
  have c1 := fun (r : Int) (g0 : 0 ≤ r) (g1 : r ≤ 1048576) => cv (szAtomS_r a.body r g0 g1 hf.2)
  have hw : Lw.w a = Lw.w a.head + Lw.w a.body := rfl
  have d0 := c0 (left) (by omega) (by omega)
  repeat' first|refine nx ?_|refine xb_miss (by decide) ?_|(apply W_reg;(simp [Ag, d0];exact .r _))
  by_cases e0 : ((Lw.w a.head : Nat) : Int) ≤ left
  case neg =>
    have s0 : szA (Lw.w a.head) (left) = -1 := by unfold szA; rw [if_neg e0]
    have s9 : szA (Lw.w a) left = -1 := by unfold szA; rw [hw, if_neg (by omega)]
    refine W_cond (by simp; exact .r _) (fun hc => ?_) (fun hc => ?_)
    · repeat' first|refine nx ?_|refine xb_miss (by decide) ?_|(apply W_reg;(simp;exact .r _))
      rw [s9]; simp
    · exfalso; revert hc; rw [s0]; simp
  have s0 : szA (Lw.w a.head) (left) = left - (Lw.w a.head : Nat) := by unfold szA; rw [if_pos e0]
  refine W_cond (by simp; exact .r _) (fun hc => ?_) (fun hc => ?_)
  · exfalso; revert hc; rw [s0]; simp; omega
  have d1 := c1 (left - (Lw.w a.head : Nat)) (by omega) (by omega)
  repeat' first|refine nx ?_|refine xb_miss (by decide) ?_|(apply W_reg;(simp [Ag, d1, s0];exact .r _))
  by_cases e1 : ((Lw.w a.body : Nat) : Int) ≤ left - (Lw.w a.head : Nat)
  case neg =>
    have s1 : szA (Lw.w a.body) (left - (Lw.w a.head : Nat)) = -1 := by unfold szA; rw [if_neg e1]
    have s9 : szA (Lw.w a) left = -1 := by unfold szA; rw [hw, if_neg (by omega)]
    refine W_cond (by simp; exact .r _) (fun hc => ?_) (fun hc => ?_)
    · repeat' first|refine nx ?_|refine xb_miss (by decide) ?_|(apply W_reg;(simp;exact .r _))
      rw [s9]; simp
    · exfalso; revert hc; rw [s1]; simp
  have s1 : szA (Lw.w a.body) (left - (Lw.w a.head : Nat)) = left - (Lw.w a.head : Nat) - (Lw.w a.body : Nat) := by unfold szA; rw [if_pos e1]
  refine W_cond (by simp; exact .r _) (fun hc => ?_) (fun hc => ?_)
  · exfalso; revert hc; rw [s1]; simp; omega
  repeat' first|refine nx ?_|refine xb_miss (by decide) ?_|(apply W_reg;(simp [s0, s1];exact .r _))
  have s9 : szA (Lw.w a) left = left - (Lw.w a.head : Nat) - (Lw.w a.body : Nat) := by unfold szA; (rw [hw, if_pos (by omega)]) <;> omega
  rw [s9]; simp [s0, s1]
theorem toQuery_r (a : Qry) (hl : Lw.bd 1048576 a) : Ret XX 12 [Ag a] (.agg [.own 1 (rowsE a.head), .own 2 (rowsE a.body)]) := by
  refine ret_W rfl Try.func12 rfl rfl (by simp [Try.f12]) ?_
  simp only [Try.f12]
  have c0 := cv (toIntS_r a.head hl.1)
  have c1 := cv (toAtomS_r a.body hl.2)
  repeat' first|refine nx ?_|refine xb_miss (by decide) ?_|(apply W_reg;(simp [Ag, c0, c1];exact .r _))
  simp
theorem eqQuery_r (a b : Qry) (hl : Lw.bd 1048576 a) : Ret XX 17 [Ag a, Ag b] (.t (.b (decide (a = b))) false) := by
  refine ret_W rfl Try.func17 rfl rfl (by simp [Try.f17]) ?_
  simp only [Try.f17]
  have c0 := cv (eqIntS_r a.head b.head hl.1)
  have c1 := cv (eqAtomS_r a.body b.body hl.2)
  repeat' first|refine nx ?_|refine xb_miss (by decide) ?_|(apply W_reg;(simp [Ag, c0, c1];exact .r _))
  refine W_cond (by simp; exact .r _) (fun hc => ?_) (fun hc => ?_)
  · repeat' first|refine nx ?_|refine xb_miss (by decide) ?_|(apply W_reg;(simp;exact .r _))
    have : a ≠ b := fun e => by subst e; simp at hc
    simp [this]
  have e0 : a.head = b.head := by simpa using hc
  clear hc
  repeat' first|refine nx ?_|refine xb_miss (by decide) ?_|(apply W_reg;(simp [Ag, c0, c1];exact .r _))
  refine W_cond (by simp; exact .r _) (fun hc => ?_) (fun hc => ?_)
  · repeat' first|refine nx ?_|refine xb_miss (by decide) ?_|(apply W_reg;(simp;exact .r _))
    have : a ≠ b := fun e => by subst e; simp at hc
    simp [this]
  have e1 : a.body = b.body := by simpa using hc
  clear hc
  repeat' first|refine nx ?_|refine xb_miss (by decide) ?_|(apply W_reg;(simp;exact .r _))
  have : a = b := by cases a; cases b; simp only at e0 e1; simp [e0, e1]
  simp [this]
theorem szQueryS_r (l : List (Qry)) (left : Int) (h0 : 0 ≤ left) (h1 : left ≤ 1048576) (hf : Fit l) : Ret XX 6 [Ar l, In left] (.t (.i .i64 (szA (Lw.w l) left)) false) := by
  have hl : l.length ≤ 9223372036854775807 := hf.1
  have hwl : Lw.w l = wL l := rfl
  rw [hwl]
  refine ret_W rfl Try.func6 rfl rfl (by simp [Try.f6]) ?_
  simp only [Try.f6]
  have hw : IntKind.i64.wrap (left - l.length) = left - l.length := wrap_ok (by omega) (by omega)
  repeat' first|refine nx ?_|refine xb_miss (by decide) ?_|(apply W_reg;(simp [hw];exact .r _))
  refine W_cond (by simp; exact .r _) (fun hc => ?_) (fun hc => ?_)
  · repeat' first|refine nx ?_|refine xb_miss (by decide) ?_|(apply W_reg;(simp;exact .r _))
    have hgt : ¬ (l.length : Int) ≤ left := by simp at hc; omega
    have : ¬ ((wL l : Nat) : Int) ≤ left := by unfold wL; omega
    simp [szA, this]
  have hle : (l.length : Int) ≤ left := by simp at hc; omega
  repeat' first|refine nx ?_|refine xb_miss (by decide) ?_|(apply W_reg;(simp;exact .r _))
  refine W_loop (n := l.length) (fun n s => ∃ i : Nat, ∃ r : Int, n = l.length - i ∧ s.nt = 27 ∧ s.tm 0 = Ar l ∧ s.tm 1 = In r ∧ s.tm 5 = In i ∧ i ≤ l.length ∧ 0 ≤ r ∧ r = left - l.length - ((l.take i).map Lw.w).sum) ⟨0, left - l.length, by simp <;> omega⟩ ?_
  rintro n ⟨nt, tm, σ⟩ ⟨i, r, rfl, hnt, h0, h1, h5, hi, hr, hre⟩
  simp only at hnt h0 h1 h5
  subst hnt
  repeat' first|refine nx ?_|refine xb_miss (by decide) ?_|(apply W_reg;(simp [h0, h1, h5];exact .r _))
  have hsplit : wL l = l.length + ((l.take i).map Lw.w).sum + ((l.drop i).map Lw.w).sum := by
    have := wL_split l i; unfold wL; omega
  refine W_cond (by simp [h0, h1, h5]; exact .r _) (fun hc => ?_) (fun hc => ?_)
  · have hil : i < l.length := by simp at hc; omega
    have hcc := cv (szQuery_r l[i] r hr (by omega) (hf.2 _ (List.getElem_mem hil)))
    simp only [Ag, cells_Q, List.map_cons, List.map_nil] at hcc
    repeat' first|refine nx ?_|refine xb_miss (by decide) ?_|(apply W_reg;(simp [h0, h1, h5, hil, hcc];exact .r _))
    have hd : ((l.drop i).map Lw.w).sum = Lw.w l[i] + ((l.drop (i + 1)).map Lw.w).sum := by rw [List.drop_eq_getElem_cons hil, List.map_cons, List.sum_cons]
    have ht := wL_take l i hil
    by_cases h : ((Lw.w l[i] : Nat) : Int) ≤ r
    · have h' : szA (Lw.w l[i]) r = r - Lw.w l[i] := by simp [szA, h]
      refine W_cond (by simp [h0, h1, h5]; exact .r _) (fun he => ?_) (fun he => ?_)
      · rw [h'] at he; simp at he; omega
      · repeat' first|refine nx ?_|refine xb_miss (by decide) ?_|(apply W_reg;(simp [h0, h1, h5];exact .r _))
        refine ⟨_, ?_, i + 1, szA (Lw.w l[i]) r, rfl, rfl, ?_, ?_, ?_, by omega, by (rw [h']; omega), by (rw [h', ht]; omega)⟩
        all_goals first|assumption|(simp [h0, h1, h5];done)|(simp [h0, h1, h5];omega)|(simp [h0, h1, h5];exact wrap_succ (by omega))|omega
    · refine W_cond (by simp [h0, h1, h5]; exact .r _) (fun he => ?_) (fun he => ?_)
      · repeat' first|refine nx ?_|refine xb_miss (by decide) ?_|(apply W_reg;(simp [h0, h1, h5];exact .r _))
        have : ¬ ((wL l : Nat) : Int) ≤ left := by rw [hsplit, hd]; omega
        simp [szA, this]
      · exfalso
        have h' : szA (Lw.w l[i]) r = -1 := by unfold szA; rw [if_neg h]
        rw [h'] at he; simp at he
  · have hil : i = l.length := by simp at hc; omega
    subst hil
    repeat' first|refine nx ?_|refine xb_miss (by decide) ?_|(apply W_reg;(simp [h0, h1, h5];exact .r _))
    rw [List.drop_length] at hsplit
    simp only [List.map_nil, List.sum_nil, Nat.add_zero] at hsplit
    have : ((wL l : Nat) : Int) ≤ left := by rw [hsplit]; omega
    have h9 : szA (wL l) left = r := by rw [szA, if_pos this, hsplit]; omega
    simp [h9]
theorem toQueryS_r (l : List (Qry)) (hl : Lw.bd 1048576 l) : Ret XX 11 [Ar l] (.own 2 (rowsE l)) := by
  have hn := hl.1
  refine ret_W rfl Try.func11 rfl rfl (by simp [Try.f11]) ?_
  simp only [Try.f11]
  repeat' first|refine nx ?_|refine xb_miss (by decide) ?_|(apply W_reg;(simp [show l.length < 1099511627776 by omega];exact .r _))
  refine W_loop (n := l.length) (fun n s => ∃ i : Nat, ∃ st : Nat, n = l.length - i ∧ s.nt = 23 ∧ s.tm 0 = Ar l ∧ s.tm 3 = .ref 0 l.length [] ∧ s.tm 4 = In i ∧ i ≤ l.length ∧ s.σ.ob 0 = .arr (.own 0) st 2 (rowsE (l.take i ++ List.replicate (l.length - i) (⟨[], []⟩ : Qry))) ∧ 1 ≤ s.σ.n) ⟨0, 0, by simp [rowsE]⟩ ?_
  rintro n ⟨nt, tm, σ⟩ ⟨i, st, rfl, hnt, h0, h3, h4, hi, ho, hn1⟩
  simp only at hnt h0 h3 h4 ho hn1
  subst hnt
  repeat' first|refine nx ?_|refine xb_miss (by decide) ?_|(apply W_reg;(simp [h0, h3, h4, ho, hn1];exact .r _))
  refine W_cond (by simp [h0, h3, h4, ho, hn1]; exact .r _) (fun hc => ?_) (fun hc => ?_)
  · have hil : i < l.length := by simpa using hc
    have hle : i ≤ l.length := hi
    have e0 : ¬ (0 = σ.n) := by omega
    have e0' : ¬ (σ.n = 0) := by omega
    have hg : (rowsE (l.take i ++ List.replicate (l.length - i) (⟨[], []⟩ : Qry)))[i]? = some (Enc.cells (⟨[], []⟩ : Qry)) := fill_get l _ i hil
    have hfs := fill_set l (⟨[], []⟩ : Qry) i hil
    have hrl : (rowsE (l.take i ++ List.replicate (l.length - i) (⟨[], []⟩ : Qry))).length = l.length := fill_len l _ i hi
    simp only [cells_Q, rowsE_nil] at hg
    have hcc := cv (toQuery_r l[i] (hl.2 _ (List.getElem_mem hil)))
    simp only [Ag, cells_Q, List.map_cons, List.map_nil] at hcc
    repeat' first|refine nx ?_|refine xb_miss (by decide) ?_|(apply W_reg;(simp [h0, h3, h4, ho, hn1, hil, hg, hrl, hle, hcc, e0, e0'];exact .r _))
    refine ⟨_, ?_, i + 1, st + 1, rfl, rfl, ?_, ?_, ?_, by omega, by (simp [e0, e0']; rw [← hfs, rowsE_set]; rfl), ?_⟩
    all_goals first|assumption|(simp [h0, h3, h4, ho, hn1, e0, e0'];done)|(simp [h0, h3, h4, ho, hn1, e0, e0'];omega)|(simp [h0, h3, h4, ho, hn1, e0, e0'];exact wrap_succ (by omega))|omega
  · have hil : i = l.length := by simp at hc; omega
    subst hil
    repeat' first|refine nx ?_|refine xb_miss (by decide) ?_|(apply W_reg;(simp [h0, h3, h4, ho, hn1];exact .r _))
    simp [ho]
theorem eqQueryS_r (a b : List (Qry)) (hl : Lw.bd 1048576 a) : Ret XX 16 [Ar a, Ar b] (.t (.b (decide (a = b))) false) := by
  have hn := hl.1
  refine ret_W rfl Try.func16 rfl rfl (by simp [Try.f16]) ?_
  simp only [Try.f16]
  repeat' first|refine nx ?_|refine xb_miss (by decide) ?_|(apply W_reg;(simp;exact .r _))|(apply W_draw (id := 6) [0,0,3,7,0,0,48,112,255,511] rfl rfl; (· simp; exact .r _); (· simp; exact .r _); (· first|trivial|simp))
  refine W_cond (by simp; exact .r _) (fun hc => ?_) (fun hc => ?_)
  · repeat' first|refine nx ?_|refine xb_miss (by decide) ?_|(apply W_reg;(simp;exact .r _))|(apply W_draw (id := 6) [0,0,3,7,0,0,48,112,255,511] rfl rfl; (· simp; exact .r _); (· simp; exact .r _); (· first|trivial|simp))
    have : a ≠ b := fun e => by subst e; simp at hc
    simp [this]
  have hll : a.length = b.length := by simp at hc; omega
  repeat' first|refine nx ?_|refine xb_miss (by decide) ?_|(apply W_reg;(simp;exact .r _))|(apply W_draw (id := 6) [0,0,3,7,0,0,48,112,255,511] rfl rfl; (· simp; exact .r _); (· simp; exact .r _); (· first|trivial|simp))
  refine W_loop (n := a.length) (fun n s => ∃ i : Nat, n = a.length - i ∧ s.nt = 27 ∧ s.tm 0 = Ar a ∧ s.tm 1 = Ar b ∧ s.tm 5 = In i ∧ i ≤ a.length ∧ a.take i = b.take i) ⟨0, by simp⟩ ?_
  rintro n ⟨nt, tm, σ⟩ ⟨i, rfl, hnt, h0, h1, h5, hi, heq⟩
  simp only at hnt h0 h1 h5
  subst hnt
  repeat' first|refine nx ?_|refine xb_miss (by decide) ?_|(apply W_reg;(simp [h0, h1, h5];exact .r _))|(apply W_draw (id := 6) [0,0,3,7,0,0,48,112,255,511] rfl rfl; (· simp; exact .r _); (· simp [h0, h1, h5]; exact .r _); (· first|trivial|simp))
  refine W_cond (by simp [h0, h1, h5]; exact .r _) (fun hc => ?_) (fun hc => ?_)
  · have hia : i < a.length := by simpa using hc
    have hib : i < b.length := by omega
    have hcc := cv (eqQuery_r a[i] b[i] (hl.2 _ (List.getElem_mem hia)))
    simp only [Ag, cells_Q, List.map_cons, List.map_nil] at hcc
    repeat' first|refine nx ?_|refine xb_miss (by decide) ?_|(apply W_reg;(simp [h0, h1, h5, hia, hib, hcc];exact .r _))|(apply W_draw (id := 6) [0,0,3,7,0,0,48,112,255,511] rfl rfl; (· simp; exact .r _); (· simp [h0, h1, h5, hia, hib, hcc]; exact .r _); (· first|trivial|simp))
    refine W_cond (by simp [h0, h1, h5]; exact .r _) (fun hd => ?_) (fun hd => ?_)
    · repeat' first|refine nx ?_|refine xb_miss (by decide) ?_|(apply W_reg;(simp [h0, h1, h5];exact .r _))|(apply W_draw (id := 6) [0,0,3,7,0,0,48,112,255,511] rfl rfl; (· simp; exact .r _); (· simp [h0, h1, h5]; exact .r _); (· first|trivial|simp))
      have : a ≠ b := fun e => by subst e; simp at hd
      simp [this]
    · have hd : a[i] = b[i] := by simpa using hd
      repeat' first|refine nx ?_|refine xb_miss (by decide) ?_|(apply W_reg;(simp [h0, h1, h5];exact .r _))|(apply W_draw (id := 6) [0,0,3,7,0,0,48,112,255,511] rfl rfl; (· simp; exact .r _); (· simp [h0, h1, h5]; exact .r _); (· first|trivial|simp))
      refine ⟨_, ?_, i + 1, rfl, rfl, ?_, ?_, ?_, by omega, by rw [List.take_succ_eq_append_getElem hia, List.take_succ_eq_append_getElem hib, heq, hd]⟩
      all_goals first|assumption|(simp [h0, h1, h5];done)|(simp [h0, h1, h5];omega)|(simp [h0, h1, h5];exact wrap_succ (by omega))|omega
  · have hil : i = a.length := by simp at hc; omega
    subst hil
    repeat' first|refine nx ?_|refine xb_miss (by decide) ?_|(apply W_reg;(simp [h0, h1, h5];exact .r _))|(apply W_draw (id := 6) [0,0,3,7,0,0,48,112,255,511] rfl rfl; (· simp; exact .r _); (· simp [h0, h1, h5]; exact .r _); (· first|trivial|simp))
    rw [List.take_length, hll, List.take_length] at heq
    have : a = b := heq
    simp [this]
theorem szSchema_r (a : Sch) (left : Int) (h0 : 0 ≤ left) (h1 : left ≤ 1048576) (hf : Fit a) : Ret XX 5 [Ag a, In left] (.t (.i .i64 (szA (Lw.w a) left)) false) := by
  refine ret_W rfl Try.func5 rfl rfl (by simp [Try.f5]) ?_
  simp only [Try.f5]
  have c0 := fun (r : Int) (g0 : 0 ≤ r) (g1 : r ≤ 1048576) => cv (szIntS_r a.arity r g0 g1 hf)
  have hw : Lw.w a = Lw.w a.arity := rfl
  have d0 := c0 (left) (by omega) (by omega)
  repeat' first|refine nx ?_|refine xb_miss (by decide) ?_|(apply W_reg;(simp [Ag, d0];exact .r _))
  by_cases e0 : ((Lw.w a.arity : Nat) : Int) ≤ left
  case neg =>
    have s0 : szA (Lw.w a.arity) (left) = -1 := by unfold szA; rw [if_neg e0]
    have s9 : szA (Lw.w a) left = -1 := by unfold szA; rw [hw, if_neg (by omega)]
    refine W_cond (by simp; exact .r _) (fun hc => ?_) (fun hc => ?_)
    · repeat' first|refine nx ?_|refine xb_miss (by decide) ?_|(apply W_reg;(simp;exact .r _))
      rw [s9]; simp
    · exfalso; revert hc; rw [s0]; simp
  have s0 : szA (Lw.w a.arity) (left) = left - (Lw.w a.arity : Nat) := by unfold szA; rw [if_pos e0]
  refine W_cond (by simp; exact .r _) (fun hc => ?_) (fun hc => ?_)
  · exfalso; revert hc; rw [s0]; simp; omega
  repeat' first|refine nx ?_|refine xb_miss (by decide) ?_|(apply W_reg;(simp [s0];exact .r _))
  have s9 : szA (Lw.w a) left = left - (Lw.w a.arity : Nat) := by unfold szA; (rw [hw, if_pos (by omega)]) <;> omega
  rw [s9]; simp [s0]
theorem toSchema_r (a : Sch) (hl : Lw.bd 1048576 a) : Ret XX 10 [Ag a] (.agg [.own 1 (rowsE a.arity)]) := by
  refine ret_W rfl Try.func10 rfl rfl (by simp [Try.f10]) ?_
  simp only [Try.f10]
  have c0 := cv (toIntS_r a.arity hl)
  repeat' first|refine nx ?_|refine xb_miss (by decide) ?_|(apply W_reg;(simp [Ag, c0];exact .r _))
  simp
theorem eqSchema_r (a b : Sch) (hl : Lw.bd 1048576 a) : Ret XX 15 [Ag a, Ag b] (.t (.b (decide (a = b))) false) := by
  refine ret_W rfl Try.func15 rfl rfl (by simp [Try.f15]) ?_
  simp only [Try.f15]
  have c0 := cv (eqIntS_r a.arity b.arity hl)
  repeat' first|refine nx ?_|refine xb_miss (by decide) ?_|(apply W_reg;(simp [Ag, c0];exact .r _))
  refine W_cond (by simp; exact .r _) (fun hc => ?_) (fun hc => ?_)
  · repeat' first|refine nx ?_|refine xb_miss (by decide) ?_|(apply W_reg;(simp;exact .r _))
    have : a ≠ b := fun e => by subst e; simp at hc
    simp [this]
  have e0 : a.arity = b.arity := by simpa using hc
  clear hc
  repeat' first|refine nx ?_|refine xb_miss (by decide) ?_|(apply W_reg;(simp;exact .r _))
  have : a = b := by cases a; cases b; simp only at e0; simp [e0]
  simp [this]
theorem szCertificate_r (a : Crt) (left : Int) (h0 : 0 ≤ left) (h1 : left ≤ 1048576) (hf : Fit a) : Ret XX 8 [Ag a, In left] (.t (.i .i64 (szA (Lw.w a) left)) false) := by
  refine ret_W rfl Try.func8 rfl rfl (by simp [Try.f8]) ?_
  simp only [Try.f8]
  have c0 := fun (r : Int) (g0 : 0 ≤ r) (g1 : r ≤ 1048576) => cv (szQuery_r a.rw_ r g0 g1 hf.1)
  simp only [Ag, cells_Q, List.map_cons, List.map_nil] at c0
  have c1 := fun (r : Int) (g0 : 0 ≤ r) (g1 : r ≤ 1048576) => cv (szIntS_r a.forth r g0 g1 hf.2.1)
  have c2 := fun (r : Int) (g0 : 0 ≤ r) (g1 : r ≤ 1048576) => cv (szIntS_r a.back r g0 g1 hf.2.2)
  have hw : Lw.w a = Lw.w a.rw_ + Lw.w a.forth + Lw.w a.back := rfl
  have d0 := c0 (left) (by omega) (by omega)
  repeat' first|refine nx ?_|refine xb_miss (by decide) ?_|(apply W_reg;(simp [Ag, d0];exact .r _))
  by_cases e0 : ((Lw.w a.rw_ : Nat) : Int) ≤ left
  case neg =>
    have s0 : szA (Lw.w a.rw_) (left) = -1 := by unfold szA; rw [if_neg e0]
    have s9 : szA (Lw.w a) left = -1 := by unfold szA; rw [hw, if_neg (by omega)]
    refine W_cond (by simp; exact .r _) (fun hc => ?_) (fun hc => ?_)
    · repeat' first|refine nx ?_|refine xb_miss (by decide) ?_|(apply W_reg;(simp;exact .r _))
      rw [s9]; simp
    · exfalso; revert hc; rw [s0]; simp
  have s0 : szA (Lw.w a.rw_) (left) = left - (Lw.w a.rw_ : Nat) := by unfold szA; rw [if_pos e0]
  refine W_cond (by simp; exact .r _) (fun hc => ?_) (fun hc => ?_)
  · exfalso; revert hc; rw [s0]; simp; omega
  have d1 := c1 (left - (Lw.w a.rw_ : Nat)) (by omega) (by omega)
  repeat' first|refine nx ?_|refine xb_miss (by decide) ?_|(apply W_reg;(simp [Ag, d1, s0];exact .r _))
  by_cases e1 : ((Lw.w a.forth : Nat) : Int) ≤ left - (Lw.w a.rw_ : Nat)
  case neg =>
    have s1 : szA (Lw.w a.forth) (left - (Lw.w a.rw_ : Nat)) = -1 := by unfold szA; rw [if_neg e1]
    have s9 : szA (Lw.w a) left = -1 := by unfold szA; rw [hw, if_neg (by omega)]
    refine W_cond (by simp; exact .r _) (fun hc => ?_) (fun hc => ?_)
    · repeat' first|refine nx ?_|refine xb_miss (by decide) ?_|(apply W_reg;(simp;exact .r _))
      rw [s9]; simp
    · exfalso; revert hc; rw [s1]; simp
  have s1 : szA (Lw.w a.forth) (left - (Lw.w a.rw_ : Nat)) = left - (Lw.w a.rw_ : Nat) - (Lw.w a.forth : Nat) := by unfold szA; rw [if_pos e1]
  refine W_cond (by simp; exact .r _) (fun hc => ?_) (fun hc => ?_)
  · exfalso; revert hc; rw [s1]; simp; omega
  have d2 := c2 (left - (Lw.w a.rw_ : Nat) - (Lw.w a.forth : Nat)) (by omega) (by omega)
  repeat' first|refine nx ?_|refine xb_miss (by decide) ?_|(apply W_reg;(simp [Ag, d2, s0, s1];exact .r _))
  by_cases e2 : ((Lw.w a.back : Nat) : Int) ≤ left - (Lw.w a.rw_ : Nat) - (Lw.w a.forth : Nat)
  case neg =>
    have s2 : szA (Lw.w a.back) (left - (Lw.w a.rw_ : Nat) - (Lw.w a.forth : Nat)) = -1 := by unfold szA; rw [if_neg e2]
    have s9 : szA (Lw.w a) left = -1 := by unfold szA; rw [hw, if_neg (by omega)]
    refine W_cond (by simp; exact .r _) (fun hc => ?_) (fun hc => ?_)
    · repeat' first|refine nx ?_|refine xb_miss (by decide) ?_|(apply W_reg;(simp;exact .r _))
      rw [s9]; simp
    · exfalso; revert hc; rw [s2]; simp
  have s2 : szA (Lw.w a.back) (left - (Lw.w a.rw_ : Nat) - (Lw.w a.forth : Nat)) = left - (Lw.w a.rw_ : Nat) - (Lw.w a.forth : Nat) - (Lw.w a.back : Nat) := by unfold szA; rw [if_pos e2]
  refine W_cond (by simp; exact .r _) (fun hc => ?_) (fun hc => ?_)
  · exfalso; revert hc; rw [s2]; simp; omega
  repeat' first|refine nx ?_|refine xb_miss (by decide) ?_|(apply W_reg;(simp [s0, s1, s2];exact .r _))
  have s9 : szA (Lw.w a) left = left - (Lw.w a.rw_ : Nat) - (Lw.w a.forth : Nat) - (Lw.w a.back : Nat) := by unfold szA; (rw [hw, if_pos (by omega)]) <;> omega
  rw [s9]; simp [s0, s1, s2]
theorem toCertificate_r (a : Crt) (hl : Lw.bd 1048576 a) : Ret XX 13 [Ag a] (.agg [.own 1 (rowsE a.rw_.head), .own 2 (rowsE a.rw_.body), .own 1 (rowsE a.forth), .own 1 (rowsE a.back)]) := by
  refine ret_W rfl Try.func13 rfl rfl (by simp [Try.f13]) ?_
  simp only [Try.f13]
  have c0 := cv (toQuery_r a.rw_ hl.1)
  simp only [Ag, cells_Q, List.map_cons, List.map_nil] at c0
  have c1 := cv (toIntS_r a.forth hl.2.1)
  have c2 := cv (toIntS_r a.back hl.2.2)
  repeat' first|refine nx ?_|refine xb_miss (by decide) ?_|(apply W_reg;(simp [Ag, c0, c1, c2];exact .r _))
  simp
theorem eqCertificate_r (a b : Crt) (hl : Lw.bd 1048576 a) : Ret XX 18 [Ag a, Ag b] (.t (.b (decide (a = b))) false) := by
  refine ret_W rfl Try.func18 rfl rfl (by simp [Try.f18]) ?_
  simp only [Try.f18]
  have c0 := cv (eqQuery_r a.rw_ b.rw_ hl.1)
  simp only [Ag, cells_Q, List.map_cons, List.map_nil] at c0
  have c1 := cv (eqIntS_r a.forth b.forth hl.2.1)
  have c2 := cv (eqIntS_r a.back b.back hl.2.2)
  repeat' first|refine nx ?_|refine xb_miss (by decide) ?_|(apply W_reg;(simp [Ag, c0, c1, c2];exact .r _))
  refine W_cond (by simp; exact .r _) (fun hc => ?_) (fun hc => ?_)
  · repeat' first|refine nx ?_|refine xb_miss (by decide) ?_|(apply W_reg;(simp;exact .r _))
    have : a ≠ b := fun e => by subst e; simp at hc
    simp [this]
  have e0 : a.rw_ = b.rw_ := by simpa using hc
  clear hc
  repeat' first|refine nx ?_|refine xb_miss (by decide) ?_|(apply W_reg;(simp [Ag, c0, c1, c2];exact .r _))
  refine W_cond (by simp; exact .r _) (fun hc => ?_) (fun hc => ?_)
  · repeat' first|refine nx ?_|refine xb_miss (by decide) ?_|(apply W_reg;(simp;exact .r _))
    have : a ≠ b := fun e => by subst e; simp at hc
    simp [this]
  have e1 : a.forth = b.forth := by simpa using hc
  clear hc
  repeat' first|refine nx ?_|refine xb_miss (by decide) ?_|(apply W_reg;(simp [Ag, c0, c1, c2];exact .r _))
  refine W_cond (by simp; exact .r _) (fun hc => ?_) (fun hc => ?_)
  · repeat' first|refine nx ?_|refine xb_miss (by decide) ?_|(apply W_reg;(simp;exact .r _))
    have : a ≠ b := fun e => by subst e; simp at hc
    simp [this]
  have e2 : a.back = b.back := by simpa using hc
  clear hc
  repeat' first|refine nx ?_|refine xb_miss (by decide) ?_|(apply W_reg;(simp;exact .r _))
  have : a = b := by cases a; cases b; simp only at e0 e1 e2; simp [e0, e1, e2]
  simp [this]
end Go.Proofs.Ytlehbgapjibeeaa.V

namespace Go.Proofs.Ytlehbgapjibeeaa.V
open Go Go.Proofs
set_option linter.unusedVariables false
/-- By weight. -/
class CntW (α : Type) [Mk α] [Lw α] : Prop where
  le : ∀ a : α, Mk.cnt a ≤ Lw.w a + 1
theorem cntW_list {α : Type} [Mk α] [Lw α] [CntW α] (l : List α) : cntL l ≤ wL l := by
  induction l with
  | nil => simp [cntL]
  | cons a l ih =>
    have h := CntW.le a
    simp only [cntL, wL, List.map_cons, List.sum_cons, List.length_cons] at *
    omega
instance : CntW Int := ⟨fun a => by simp⟩
instance {α : Type} [Mk α] [Lw α] [CntW α] : CntW (List α) := ⟨fun l => by rw [cnt_list, w_list]; have := cntW_list l; omega⟩
instance : CntW RA := ⟨fun a => by have := cntW_list a.args; show 1 + cntL a.args ≤ wL a.args + 1; omega⟩
instance : CntW Cnt := ⟨fun a => by have := cntW_list a.tuple; show cntL a.tuple + 1 ≤ wL a.tuple + 1; omega⟩
instance : CntW Qry := ⟨fun a => by have := cntW_list a.head; have := cntW_list a.body; show cntL a.head + cntL a.body ≤ wL a.head + wL a.body + 1; omega⟩
instance : CntW Wtd := ⟨fun a => by have := cntW_list a.query.head; have := cntW_list a.query.body; show cntL a.query.head + cntL a.query.body + 1 ≤ wL a.query.head + wL a.query.body + 1; omega⟩
instance : Mk Cch := ⟨fun c => cntL c.views + cntL c.tables, fun k c => ⟨mkL k c.views, mkL (k + cntL c.views) c.tables, c.version⟩⟩
instance : CntW Cch := ⟨fun a => by have := cntW_list a.views; have := cntW_list a.tables; show cntL a.views + cntL a.tables ≤ wL a.views + wL a.tables + 1; omega⟩
theorem cw_list {α : Type} [Mk α] [Lw α] [CntW α] (l : List α) : cntL l ≤ Lw.w l := cntW_list l
theorem cw_Sch (a : Sch) : cntL a.arity ≤ Lw.w a := cntW_list a.arity
theorem cw_Qry (a : Qry) : cntL a.head + cntL a.body ≤ Lw.w a := by have := cntW_list a.head; have := cntW_list a.body; show _ ≤ wL a.head + wL a.body; omega
theorem cw_Crt (a : Crt) : cntL a.rw_.head + cntL a.rw_.body + cntL a.forth + cntL a.back ≤ Lw.w a := by
  have := cntW_list a.rw_.head; have := cntW_list a.rw_.body; have := cntW_list a.forth; have := cntW_list a.back
  show _ ≤ wL a.rw_.head + wL a.rw_.body + wL a.forth + wL a.back; omega
/-- By lengths. -/
class CntB (α : Type) [Mk α] [Lw α] (b : outParam Nat) : Prop where
  le : ∀ a : α, Lw.bd 1048576 a → Mk.cnt a ≤ b
theorem cb_list {α : Type} [Mk α] [Lw α] {b : Nat} [CntB α b] (l : List α) (h : Lw.bd 1048576 l) : cntL l ≤ 1048576 * b := by
  have key : ∀ l : List α, (∀ x ∈ l, Lw.bd 1048576 x) → cntL l ≤ l.length * b := fun l => by
    induction l with
    | nil => simp [cntL]
    | cons a l ih =>
      intro hx
      have h1 := CntB.le a (hx a (by simp))
      have h2 := ih fun x hxl => hx x (List.mem_cons_of_mem _ hxl)
      simp only [cntL, List.map_cons, List.sum_cons, List.length_cons, Nat.add_mul] at *
      omega
  exact Nat.le_trans (key l h.2) (Nat.mul_le_mul_right _ h.1)
instance : CntB Int 1 := ⟨fun a _ => by simp⟩
instance {α : Type} [Mk α] [Lw α] {b : Nat} [CntB α b] : CntB (List α) (1048576 * b) := ⟨fun l h => cb_list l h⟩
instance : CntB RA 1048577 := ⟨fun a h => by have := cb_list (b := 1) a.args h; show 1 + cntL a.args ≤ _; omega⟩
instance : CntB Cnt 1048577 := ⟨fun a h => by have := cb_list (b := 1) a.tuple h; show cntL a.tuple + 1 ≤ _; omega⟩
instance : CntB Qry 1099513724928 := ⟨fun a h => by have := cb_list (b := 1) a.head h.1; have := cb_list (b := 1048577) a.body h.2; show cntL a.head + cntL a.body ≤ _; omega⟩
end Go.Proofs.Ytlehbgapjibeeaa.V

namespace Go.Proofs.Ytlehbgapjibeeaa.V
open Go Go.Proofs
set_option linter.unusedSimpArgs false
set_option maxHeartbeats 4000000 in
set_option maxRecDepth 20000 in
theorem lawCheckCertificate (a0 : Sch) (a1 : List (Qry)) (a2 : Qry) (a3 : Crt) (f0 : Fit a0) (f1 : Fit a1) (f2 : Fit a2) (f3 : Fit a3) : Ret XX 3 [Ag a0, Ar a1, Ag a2, Ag a3] (.t (.b true) false) := by
  refine ret_W rfl Try.func3 rfl rfl (by simp [Try.f3]) ?_
  simp only [Try.f3]
  have s0 := cv (szSchema_r a0 (1048576 : Int) (by omega) (by omega) f0)
  simp only [Ag, rowsE_nil, cells_Sch, cells_Q, cells_RA, cells_Src, cells_Chg, cells_Cch, cells_Crt, cells_Ses, cells_Wtd, List.map_cons, List.map_nil] at s0
  by_cases e0 : ((Lw.w a0 : Nat) : Int) ≤ (1048576 : Int)
  case neg =>
    have z0 : szA (Lw.w a0) (1048576 : Int) = -1 := by unfold szA; rw [if_neg e0]
    repeat' first|refine nx ?_|refine xb_miss (by decide) ?_|(apply W_reg;(simp [Ag, s0, z0];exact .r _))
    refine W_cond (by simp; exact .r _) (fun hc => ?_) (fun hc => ?_)
    · repeat' first|refine nx ?_|refine xb_miss (by decide) ?_|(apply W_reg;(simp;exact .r _))
      simp
    · simp at hc
  have z0 : szA (Lw.w a0) (1048576 : Int) = 1048576 - Lw.w a0 := by unfold szA; rw [if_pos e0]
  have n0 : ¬ ((1048576 : Int) - Lw.w a0 < 0) := by omega
  repeat' first|refine nx ?_|refine xb_miss (by decide) ?_|(apply W_reg;(simp [Ag, s0, z0, n0];exact .r _))
  refine W_cond (by simp; exact .r _) (fun hc => ?_) (fun hc => ?_)
  · simp at hc
  have s1 := cv (szQueryS_r a1 (1048576 - Lw.w a0 : Int) (by omega) (by omega) f1)
  by_cases e1 : ((Lw.w a1 : Nat) : Int) ≤ (1048576 - Lw.w a0 : Int)
  case neg =>
    have z1 : szA (Lw.w a1) (1048576 - Lw.w a0 : Int) = -1 := by unfold szA; rw [if_neg e1]
    repeat' first|refine nx ?_|refine xb_miss (by decide) ?_|(apply W_reg;(simp [Ag, s1, z1];exact .r _))
    refine W_cond (by simp; exact .r _) (fun hc => ?_) (fun hc => ?_)
    · repeat' first|refine nx ?_|refine xb_miss (by decide) ?_|(apply W_reg;(simp;exact .r _))
      simp
    · simp at hc
  have z1 : szA (Lw.w a1) (1048576 - Lw.w a0 : Int) = 1048576 - Lw.w a0 - Lw.w a1 := by unfold szA; rw [if_pos e1]
  have n1 : ¬ ((1048576 - Lw.w a0 : Int) - Lw.w a1 < 0) := by omega
  repeat' first|refine nx ?_|refine xb_miss (by decide) ?_|(apply W_reg;(simp [Ag, s1, z1, n1];exact .r _))
  refine W_cond (by simp; exact .r _) (fun hc => ?_) (fun hc => ?_)
  · simp at hc
  have s2 := cv (szQuery_r a2 (1048576 - Lw.w a0 - Lw.w a1 : Int) (by omega) (by omega) f2)
  simp only [Ag, rowsE_nil, cells_Sch, cells_Q, cells_RA, cells_Src, cells_Chg, cells_Cch, cells_Crt, cells_Ses, cells_Wtd, List.map_cons, List.map_nil] at s2
  by_cases e2 : ((Lw.w a2 : Nat) : Int) ≤ (1048576 - Lw.w a0 - Lw.w a1 : Int)
  case neg =>
    have z2 : szA (Lw.w a2) (1048576 - Lw.w a0 - Lw.w a1 : Int) = -1 := by unfold szA; rw [if_neg e2]
    repeat' first|refine nx ?_|refine xb_miss (by decide) ?_|(apply W_reg;(simp [Ag, s2, z2];exact .r _))
    refine W_cond (by simp; exact .r _) (fun hc => ?_) (fun hc => ?_)
    · repeat' first|refine nx ?_|refine xb_miss (by decide) ?_|(apply W_reg;(simp;exact .r _))
      simp
    · simp at hc
  have z2 : szA (Lw.w a2) (1048576 - Lw.w a0 - Lw.w a1 : Int) = 1048576 - Lw.w a0 - Lw.w a1 - Lw.w a2 := by unfold szA; rw [if_pos e2]
  have n2 : ¬ ((1048576 - Lw.w a0 - Lw.w a1 : Int) - Lw.w a2 < 0) := by omega
  repeat' first|refine nx ?_|refine xb_miss (by decide) ?_|(apply W_reg;(simp [Ag, s2, z2, n2];exact .r _))
  refine W_cond (by simp; exact .r _) (fun hc => ?_) (fun hc => ?_)
  · simp at hc
  have s3 := cv (szCertificate_r a3 (1048576 - Lw.w a0 - Lw.w a1 - Lw.w a2 : Int) (by omega) (by omega) f3)
  simp only [Ag, rowsE_nil, cells_Sch, cells_Q, cells_RA, cells_Src, cells_Chg, cells_Cch, cells_Crt, cells_Ses, cells_Wtd, List.map_cons, List.map_nil] at s3
  by_cases e3 : ((Lw.w a3 : Nat) : Int) ≤ (1048576 - Lw.w a0 - Lw.w a1 - Lw.w a2 : Int)
  case neg =>
    have z3 : szA (Lw.w a3) (1048576 - Lw.w a0 - Lw.w a1 - Lw.w a2 : Int) = -1 := by unfold szA; rw [if_neg e3]
    repeat' first|refine nx ?_|refine xb_miss (by decide) ?_|(apply W_reg;(simp [Ag, s3, z3];exact .r _))
    refine W_cond (by simp; exact .r _) (fun hc => ?_) (fun hc => ?_)
    · repeat' first|refine nx ?_|refine xb_miss (by decide) ?_|(apply W_reg;(simp;exact .r _))
      simp
    · simp at hc
  have z3 : szA (Lw.w a3) (1048576 - Lw.w a0 - Lw.w a1 - Lw.w a2 : Int) = 1048576 - Lw.w a0 - Lw.w a1 - Lw.w a2 - Lw.w a3 := by unfold szA; rw [if_pos e3]
  have n3 : ¬ ((1048576 - Lw.w a0 - Lw.w a1 - Lw.w a2 : Int) - Lw.w a3 < 0) := by omega
  repeat' first|refine nx ?_|refine xb_miss (by decide) ?_|(apply W_reg;(simp [Ag, s3, z3, n3];exact .r _))
  refine W_cond (by simp; exact .r _) (fun hc => ?_) (fun hc => ?_)
  · simp at hc
  have b0 : Lw.bd 1048576 a0 := Lw.bd_of _ _ (by omega)
  have b1 : Lw.bd 1048576 a1 := Lw.bd_of _ _ (by omega)
  have b2 : Lw.bd 1048576 a2 := Lw.bd_of _ _ (by omega)
  have b3 : Lw.bd 1048576 a3 := Lw.bd_of _ _ (by omega)
  have t0 := cv (toSchema_r a0 b0)
  have t1 := cv (toQueryS_r a1 b1)
  have t2 := cv (toQuery_r a2 b2)
  have t3 := cv (toCertificate_r a3 b3)
  have qp0 := cv (eqSchema_r a0 a0 b0)
  have qp1 := cv (eqQueryS_r a1 a1 b1)
  have qp2 := cv (eqQuery_r a2 a2 b2)
  have qp3 := cv (eqCertificate_r a3 a3 b3)
  simp only [Ag, rowsE_nil, cells_Sch, cells_Q, cells_RA, cells_Src, cells_Chg, cells_Cch, cells_Crt, cells_Ses, cells_Wtd, List.map_cons, List.map_nil] at t0 t2 t3
  simp only [Ag, rowsE_nil, cells_Sch, cells_Q, cells_RA, cells_Src, cells_Chg, cells_Cch, cells_Crt, cells_Ses, cells_Wtd, List.map_cons, List.map_nil] at qp0 qp2 qp3
  have w0 := cw_Sch a0
  have w1 := cw_list a1
  have w2 := cw_Qry a2
  have w3 := cw_Crt a3
  have hsc : Sm a0.arity := Nat.lt_of_le_of_lt b0.1 (by omega)
  have hsv : Sm a1 := Nat.lt_of_le_of_lt b1.1 (by omega)
  have hvq : ∀ q ∈ a1, SmQ q := fun q hq => SmQ.of (by omega) (b1.2 q hq)
  have hqq : SmQ a2 := SmQ.of (by omega) b2
  have hx : SmQ a3.rw_ := SmQ.of (by omega) b3.1
  have hf : Sm a3.forth := Nat.lt_of_le_of_lt b3.2.1.1 (by omega)
  have hb : Sm a3.back := Nat.lt_of_le_of_lt b3.2.2.1 (by omega)
  have sp0 := cv (specChk_r a0 a1 a2 a3 hsc hsv hvq hqq hx hf hb)
  have im0 := cv (implChk_r a0 a1 a2 a3 hsc hsv hvq hqq hx hf hb)
  simp only [Ag, cells_Sch, cells_Q, cells_RA, cells_Crt, List.map_cons, List.map_nil] at sp0 im0
  obtain ⟨res, hres⟩ : ∃ r, chkC a0 a1 a2 a3 = r := ⟨_, rfl⟩
  rw [hres] at sp0 im0
  repeat' first|refine nx ?_|refine xb_miss (by decide) ?_|(apply W_reg;(simp [t0, t1, t2, t3, sp0, im0];exact .r _))|(apply W_draw (id := 14) [0,1,0,7,0,31,0,127,255,511] rfl rfl; (· simp; exact .r _); (· simp [t0, t1, t2, t3, sp0, im0]; exact .r _); (· first|trivial|simp))
  refine W_cond (by simp; exact .r _) (fun hc => ?_) (fun hc => ?_)
  · simp at hc
  repeat' first|refine nx ?_|refine xb_miss (by decide) ?_|(apply W_reg;(simp [t0, qp0];exact .r _))|(apply W_draw (id := 22) [0,0,2,7,15] rfl rfl; (· simp; exact .r _); (· simp [t0, qp0]; exact .r _); (· first|trivial|simp))
  refine W_cond (by simp; exact .r _) (fun hc => ?_) (fun hc => ?_)
  · simp at hc
  repeat' first|refine nx ?_|refine xb_miss (by decide) ?_|(apply W_reg;(simp [t1, qp1];exact .r _))
  refine W_cond (by simp; exact .r _) (fun hc => ?_) (fun hc => ?_)
  · simp at hc
  repeat' first|refine nx ?_|refine xb_miss (by decide) ?_|(apply W_reg;(simp [t2, qp2];exact .r _))|(apply W_draw (id := 26) [0,0,2,7,15] rfl rfl; (· simp; exact .r _); (· simp [t2, qp2]; exact .r _); (· first|trivial|simp))
  refine W_cond (by simp; exact .r _) (fun hc => ?_) (fun hc => ?_)
  · simp at hc
  repeat' first|refine nx ?_|refine xb_miss (by decide) ?_|(apply W_reg;(simp [t3, qp3];exact .r _))|(apply W_draw (id := 28) [0,0,2,7,15] rfl rfl; (· simp; exact .r _); (· simp [t3, qp3]; exact .r _); (· first|trivial|simp))
  refine W_cond (by simp; exact .r _) (fun hc => ?_) (fun hc => ?_)
  · simp at hc
  repeat' first|refine nx ?_|refine xb_miss (by decide) ?_|(apply W_reg;(simp;exact .r _))
  simp
end Go.Proofs.Ytlehbgapjibeeaa.V

namespace Go.Proofs.Ytlehbgapjibeeaa.V
open Go Go.RowKit Go.Deep Go.ChangeShapes Go.WideShapes
set_option linter.unusedVariables false
/-- Whatever reads as data of type t is a value that fits. -/
def RdF (α : Type) [Enc α] [Lw α] (P : Program) (w : World) (t : TypeId) : Prop := Rdv P w t (fun a : α => Fit a)
theorem Rdv.mono {α : Type} [Enc α] {P : Program} {w : World} {t : TypeId} {Q Q' : α → Prop} (h : Rdv P w t Q) (hq : ∀ a, Q a → Q' a) : Rdv P w t Q' := fun H enc fuel cs x hx => by
  obtain ⟨a, h1, h2⟩ := h H enc fuel cs x hx
  exact ⟨a, h1, hq a h2⟩
instance : Lw Bool := ⟨fun _ => 0, fun _ _ => True, fun _ _ _ => trivial⟩
variable {α β γ δ : Type} [Enc α] [Enc β] [Enc γ] [Enc δ] [Lw α] [Lw β] [Lw γ] [Lw δ] {P : Program} {w : World} {t e : TypeId}
theorem rf_int (ht : P.underlying t = some (.int .i64)) : RdF Int P w t := (rd_int ht).mono fun _ _ => trivial
theorem rf_slice (ht : P.underlying t = some (.slice e)) (hc : P.cellsOf e = Enc.n α) (hn : 0 < Enc.n α) (hd : RdF α P w e) : RdF (List α) P w t := (rd_slice ht hc hn hd).mono fun a h => ⟨h.1, h.2⟩
theorem rf_s1 {f0 : Field} (mk : α → γ) (hmk : ∀ a, Enc.cells (mk a) = Enc.cells a) (hf : ∀ a, Fit a → Fit (mk a)) (ht : P.underlying t = some (.struct #[f0])) (h0 : f0.offset = 0) (z : P.cellsOf t = Enc.n α) (z0 : P.cellsOf f0.type = Enc.n α)
    (o0 : RdF α P w f0.type) : RdF γ P w t := (rd_struct1 mk hmk ht h0 z z0 o0).mono fun c ⟨a, e, h⟩ => e ▸ hf a h
theorem rf_s2 {f0 f1 : Field} (mk : α → β → γ) (hmk : ∀ a b, Enc.cells (mk a b) = Enc.cells a ++ Enc.cells b) (hf : ∀ a b, Fit a → Fit b → Fit (mk a b)) (ht : P.underlying t = some (.struct #[f0, f1])) (h0 : f0.offset = 0) (h1 : f1.offset = Enc.n α)
    (z : P.cellsOf t = Enc.n α + Enc.n β) (z0 : P.cellsOf f0.type = Enc.n α) (z1 : P.cellsOf f1.type = Enc.n β)
    (o0 : RdF α P w f0.type) (o1 : RdF β P w f1.type) : RdF γ P w t := (rd_struct2 mk hmk ht h0 h1 z z0 z1 o0 o1).mono fun c ⟨a, b, e, h, k⟩ => e ▸ hf a b h k
set_option linter.unusedSectionVars false in
theorem rd_struct3 {f0 f1 f2 : Field} {Q0 : α → Prop} {Q1 : β → Prop} {Q2 : δ → Prop} (mk : α → β → δ → γ) (hmk : ∀ a b d, Enc.cells (mk a b d) = Enc.cells a ++ (Enc.cells b ++ Enc.cells d)) (ht : P.underlying t = some (.struct #[f0, f1, f2])) (h0 : f0.offset = 0) (h1 : f1.offset = Enc.n α) (h2 : f2.offset = Enc.n α + Enc.n β)
    (z : P.cellsOf t = Enc.n α + Enc.n β + Enc.n δ) (z0 : P.cellsOf f0.type = Enc.n α) (z1 : P.cellsOf f1.type = Enc.n β) (z2 : P.cellsOf f2.type = Enc.n δ)
    (o0 : Rdv P w f0.type Q0) (o1 : Rdv P w f1.type Q1) (o2 : Rdv P w f2.type Q2) : Rdv P w t (fun c : γ => ∃ a b d, c = mk a b d ∧ Q0 a ∧ Q1 b ∧ Q2 d) := by
  intro H enc fuel cs x hx
  obtain ⟨y0, y1, y2, n, rfl, hl, g0, g1, g2⟩ := trod_struct3 ht hx
  obtain ⟨a, hk, hq⟩ := o0 H enc n _ y0 g0
  obtain ⟨b, hk1, hq1⟩ := o1 H enc n _ y1 g1
  obtain ⟨d, hk2, hq2⟩ := o2 H enc n _ y2 g2
  rw [h0, List.drop_zero, z0] at hk
  rw [h1, z1] at hk1
  rw [h2, z2, List.take_of_length_le (by simp; omega)] at hk2
  refine ⟨mk a b d, ?_, a, b, d, rfl, hq, hq1, hq2⟩
  rw [hmk, ← List.take_append_drop (Enc.n α) cs]
  refine hk.append ?_
  rw [← List.take_append_drop (Enc.n β) (cs.drop (Enc.n α)), List.drop_drop]
  exact hk1.append hk2
theorem rf_s3 {f0 f1 f2 : Field} (mk : α → β → δ → γ) (hmk : ∀ a b d, Enc.cells (mk a b d) = Enc.cells a ++ (Enc.cells b ++ Enc.cells d)) (hf : ∀ a b d, Fit a → Fit b → Fit d → Fit (mk a b d)) (ht : P.underlying t = some (.struct #[f0, f1, f2])) (h0 : f0.offset = 0) (h1 : f1.offset = Enc.n α) (h2 : f2.offset = Enc.n α + Enc.n β)
    (z : P.cellsOf t = Enc.n α + Enc.n β + Enc.n δ) (z0 : P.cellsOf f0.type = Enc.n α) (z1 : P.cellsOf f1.type = Enc.n β) (z2 : P.cellsOf f2.type = Enc.n δ)
    (o0 : RdF α P w f0.type) (o1 : RdF β P w f1.type) (o2 : RdF δ P w f2.type) : RdF γ P w t := (rd_struct3 mk hmk ht h0 h1 h2 z z0 z1 z2 o0 o1 o2).mono fun c ⟨a, b, d, e, h, k, l⟩ => e ▸ hf a b d h k l
end Go.Proofs.Ytlehbgapjibeeaa.V

