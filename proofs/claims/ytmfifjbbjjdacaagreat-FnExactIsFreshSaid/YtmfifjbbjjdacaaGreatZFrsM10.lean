/- Several texts in one: what the claim needs of them. Conditions: each declaration's own. -/
import Derived.Test.YtmfifjbbjjdacaaGreatZFrsM6
import Derived.Test.YtmfifjbbjjdacaaGreatZFrsM9
import Derived.Test.YtmfifjbbjjdacaaGreatZFrsM8
import Derived.Test.YtmfifjbbjjdacaaGreatZFrsM5
namespace Go.Proofs.YtmfifjbbjjdacaaGreat.V
open Go Go.Proofs
set_option linter.unusedVariables false
set_option linter.unusedSimpArgs false
theorem szIntS_r (l : List Int) (left : Int) (h0 : 0 ≤ left) (h1 : left ≤ 1048576) (hf : Fit l) : Ret XX 186 [Ar l, In left] (.t (.i .i64 (szA (Lw.w l) left)) false) := by
  have hl : l.length ≤ 9223372036854775807 := hf.1
  rw [show Lw.w l = l.length from wL_ints l]
  refine ret_W rfl Tryz.func186 rfl rfl (by simp [Tryz.f186]) ?_
  simp only [Tryz.f186]
  have hw : IntKind.i64.wrap (left - l.length) = left - l.length := wrap_ok (by omega) (by omega)
  repeat' first|refine W_seq ?_|refine W_block ?_|refine W_skip ?_|refine W_ret ?_|refine W_exit ?_|refine xb_hit ?_|refine xb_miss (by decide) ?_|(apply W_reg;(simp [hw];exact .r _))
  refine W_cond (by simp; exact .r _) (fun hc => ?_) (fun hc => ?_)
  · repeat' first|refine W_seq ?_|refine W_block ?_|refine W_skip ?_|refine W_ret ?_|refine W_exit ?_|refine xb_hit ?_|refine xb_miss (by decide) ?_|(apply W_reg;(simp;exact .r _))
    have : ¬ (l.length : Int) ≤ left := by simp at hc; omega
    simp [szA, this]
  · repeat' first|refine W_seq ?_|refine W_block ?_|refine W_skip ?_|refine W_ret ?_|refine W_exit ?_|refine xb_hit ?_|refine xb_miss (by decide) ?_|(apply W_reg;(simp;exact .r _))
    have : (l.length : Int) ≤ left := by simp at hc; omega
    simp [szA, this]
theorem toIntS_r (l : List Int) (hl : Lw.bd 1048576 l) : Ret XX 190 [Ar l] (.own 1 (rowsE l)) := by
  have hn := hl.1
  refine ret_W rfl Tryz.func190 rfl rfl (by simp [Tryz.f190]) ?_
  simp only [Tryz.f190]
  repeat' first|refine W_seq ?_|refine W_block ?_|refine W_skip ?_|refine W_ret ?_|refine W_exit ?_|refine xb_hit ?_|refine xb_miss (by decide) ?_|(apply W_reg;(simp [show l.length < 1099511627776 by omega];exact .r _))
  refine W_loop (n := l.length) (fun n s => ∃ i : Nat, n = l.length - i ∧ s.nt = 22 ∧ s.tm 0 = Ar l ∧ s.tm 3 = .ref 0 l.length [] ∧ s.tm 4 = In i ∧ i ≤ l.length ∧ s.σ.ob 0 = .arr (.own 0) 0 1 (rowsE (l.take i ++ List.replicate (l.length - i) 0))) ⟨0, by simp [rowsE]⟩ ?_
  rintro n ⟨nt, tm, σ⟩ ⟨i, rfl, hnt, h0, h3, h4, hi, ho⟩
  simp only at hnt h0 h3 h4 ho
  subst hnt
  repeat' first|refine W_seq ?_|refine W_block ?_|refine W_skip ?_|refine W_ret ?_|refine W_exit ?_|refine xb_hit ?_|refine xb_miss (by decide) ?_|(apply W_reg;(simp [h0, h3, h4, ho];exact .r _))
  refine W_cond (by simp [h0, h3, h4, ho]; exact .r _) (fun hc => ?_) (fun hc => ?_)
  · have hil : i < l.length := by simpa using hc
    have hle : i ≤ l.length := hi
    have hg : (rowsE (l.take i ++ List.replicate (l.length - i) (0 : Int)))[i]? = some [.i .i64 0] := fill_get l 0 i hil
    have hfs := fill_set l 0 i hil
    have hrl : (rowsE (l.take i ++ List.replicate (l.length - i) (0 : Int))).length = l.length := fill_len l 0 i hi
    repeat' first|refine W_seq ?_|refine W_block ?_|refine W_skip ?_|refine W_ret ?_|refine W_exit ?_|refine xb_hit ?_|refine xb_miss (by decide) ?_|(apply W_reg;(simp [h0, h3, h4, ho, hil, hg, hrl, hle];exact .r _))
    refine ⟨_, ?_, i + 1, rfl, rfl, ?_, ?_, ?_, by omega, by (simp; rw [← hfs, rowsE_set]; rfl)⟩
    all_goals first|assumption|(simp [h0, h3, h4, ho];done)|(simp [h0, h3, h4, ho];omega)|(simp [h0, h3, h4, ho];exact wrap_succ (by omega))|omega
  · have hil : i = l.length := by simp at hc; omega
    subst hil
    repeat' first|refine W_seq ?_|refine W_block ?_|refine W_skip ?_|refine W_ret ?_|refine W_exit ?_|refine xb_hit ?_|refine xb_miss (by decide) ?_|(apply W_reg;(simp [h0, h3, h4, ho];exact .r _))
    simp [ho]
theorem eqIntS_r (a b : List (Int)) (hl : Lw.bd 1048576 a) : Ret XX 108 [Ar a, Ar b] (.t (.b (decide (a = b))) false) := by
  have hn := hl.1
  refine ret_W rfl Tryz.func108 rfl rfl (by simp [Tryz.f108]) ?_
  simp only [Tryz.f108]
  repeat' first|refine W_seq ?_|refine W_block ?_|refine W_skip ?_|refine W_ret ?_|refine W_exit ?_|refine xb_hit ?_|refine xb_miss (by decide) ?_|(apply W_reg;(simp;exact .r _))
  refine W_cond (by simp; exact .r _) (fun hc => ?_) (fun hc => ?_)
  · repeat' first|refine W_seq ?_|refine W_block ?_|refine W_skip ?_|refine W_ret ?_|refine W_exit ?_|refine xb_hit ?_|refine xb_miss (by decide) ?_|(apply W_reg;(simp;exact .r _))
    have : a ≠ b := fun e => by subst e; simp at hc
    simp [this]
  have hll : a.length = b.length := by simp at hc; omega
  repeat' first|refine W_seq ?_|refine W_block ?_|refine W_skip ?_|refine W_ret ?_|refine W_exit ?_|refine xb_hit ?_|refine xb_miss (by decide) ?_|(apply W_reg;(simp;exact .r _))
  refine W_loop (n := a.length) (fun n s => ∃ i : Nat, n = a.length - i ∧ s.nt = 26 ∧ s.tm 0 = Ar a ∧ s.tm 1 = Ar b ∧ s.tm 5 = In i ∧ i ≤ a.length ∧ a.take i = b.take i) ⟨0, by simp⟩ ?_
  rintro n ⟨nt, tm, σ⟩ ⟨i, rfl, hnt, h0, h1, h5, hi, heq⟩
  simp only at hnt h0 h1 h5
  subst hnt
  repeat' first|refine W_seq ?_|refine W_block ?_|refine W_skip ?_|refine W_ret ?_|refine W_exit ?_|refine xb_hit ?_|refine xb_miss (by decide) ?_|(apply W_reg;(simp [h0, h1, h5];exact .r _))
  refine W_cond (by simp [h0, h1, h5]; exact .r _) (fun hc => ?_) (fun hc => ?_)
  · have hia : i < a.length := by simpa using hc
    have hib : i < b.length := by omega
    repeat' first|refine W_seq ?_|refine W_block ?_|refine W_skip ?_|refine W_ret ?_|refine W_exit ?_|refine xb_hit ?_|refine xb_miss (by decide) ?_|(apply W_reg;(simp [h0, h1, h5, hia, hib];exact .r _))|(apply W_draw (id := 6) [0,0,3,7,0,0,48,112,255] rfl rfl; (· simp; exact .r _); (· simp [h0, h1, h5, hia, hib]; exact .r _); (· first|trivial|simp))
    refine W_cond (by simp [h0, h1, h5]; exact .r _) (fun hd => ?_) (fun hd => ?_)
    · repeat' first|refine W_seq ?_|refine W_block ?_|refine W_skip ?_|refine W_ret ?_|refine W_exit ?_|refine xb_hit ?_|refine xb_miss (by decide) ?_|(apply W_reg;(simp [h0, h1, h5];exact .r _))
      have : a ≠ b := fun e => by subst e; simp at hd
      simp [this]
    · have hd : a[i] = b[i] := by simpa using hd
      repeat' first|refine W_seq ?_|refine W_block ?_|refine W_skip ?_|refine W_ret ?_|refine W_exit ?_|refine xb_hit ?_|refine xb_miss (by decide) ?_|(apply W_reg;(simp [h0, h1, h5];exact .r _))
      refine ⟨_, ?_, i + 1, rfl, rfl, ?_, ?_, ?_, by omega, by rw [List.take_succ_eq_append_getElem hia, List.take_succ_eq_append_getElem hib, heq, hd]⟩
      all_goals first|assumption|(simp [h0, h1, h5];done)|(simp [h0, h1, h5];omega)|(simp [h0, h1, h5];exact wrap_succ (by omega))|omega
  · have hil : i = a.length := by simp at hc; omega
    subst hil
    repeat' first|refine W_seq ?_|refine W_block ?_|refine W_skip ?_|refine W_ret ?_|refine W_exit ?_|refine xb_hit ?_|refine xb_miss (by decide) ?_|(apply W_reg;(simp [h0, h1, h5];exact .r _))
    rw [List.take_length, hll, List.take_length] at heq
    have : a = b := heq
    simp [this]
theorem szIntSS_r (l : List (List (Int))) (left : Int) (h0 : 0 ≤ left) (h1 : left ≤ 1048576) (hf : Fit l) : Ret XX 283 [Ar l, In left] (.t (.i .i64 (szA (Lw.w l) left)) false) := by
  have hl : l.length ≤ 9223372036854775807 := hf.1
  have hwl : Lw.w l = wL l := rfl
  rw [hwl]
  refine ret_W rfl Tryz.func283 rfl rfl (by simp [Tryz.f283]) ?_
  simp only [Tryz.f283]
  have hw : IntKind.i64.wrap (left - l.length) = left - l.length := wrap_ok (by omega) (by omega)
  repeat' first|refine W_seq ?_|refine W_block ?_|refine W_skip ?_|refine W_ret ?_|refine W_exit ?_|refine xb_hit ?_|refine xb_miss (by decide) ?_|(apply W_reg;(simp [hw];exact .r _))
  refine W_cond (by simp; exact .r _) (fun hc => ?_) (fun hc => ?_)
  · repeat' first|refine W_seq ?_|refine W_block ?_|refine W_skip ?_|refine W_ret ?_|refine W_exit ?_|refine xb_hit ?_|refine xb_miss (by decide) ?_|(apply W_reg;(simp;exact .r _))
    have hgt : ¬ (l.length : Int) ≤ left := by simp at hc; omega
    have : ¬ ((wL l : Nat) : Int) ≤ left := by unfold wL; omega
    simp [szA, this]
  have hle : (l.length : Int) ≤ left := by simp at hc; omega
  repeat' first|refine W_seq ?_|refine W_block ?_|refine W_skip ?_|refine W_ret ?_|refine W_exit ?_|refine xb_hit ?_|refine xb_miss (by decide) ?_|(apply W_reg;(simp;exact .r _))
  refine W_loop (n := l.length) (fun n s => ∃ i : Nat, ∃ r : Int, n = l.length - i ∧ s.nt = 27 ∧ s.tm 0 = Ar l ∧ s.tm 1 = In r ∧ s.tm 5 = In i ∧ i ≤ l.length ∧ 0 ≤ r ∧ r = left - l.length - ((l.take i).map Lw.w).sum) ⟨0, left - l.length, by simp <;> omega⟩ ?_
  rintro n ⟨nt, tm, σ⟩ ⟨i, r, rfl, hnt, h0, h1, h5, hi, hr, hre⟩
  simp only at hnt h0 h1 h5
  subst hnt
  repeat' first|refine W_seq ?_|refine W_block ?_|refine W_skip ?_|refine W_ret ?_|refine W_exit ?_|refine xb_hit ?_|refine xb_miss (by decide) ?_|(apply W_reg;(simp [h0, h1, h5];exact .r _))
  have hsplit : wL l = l.length + ((l.take i).map Lw.w).sum + ((l.drop i).map Lw.w).sum := by
    have := wL_split l i; unfold wL; omega
  refine W_cond (by simp [h0, h1, h5]; exact .r _) (fun hc => ?_) (fun hc => ?_)
  · have hil : i < l.length := by simp at hc; omega
    have hcc := cv (szIntS_r l[i] r hr (by omega) (hf.2 _ (List.getElem_mem hil)))
    repeat' first|refine W_seq ?_|refine W_block ?_|refine W_skip ?_|refine W_ret ?_|refine W_exit ?_|refine xb_hit ?_|refine xb_miss (by decide) ?_|(apply W_reg;(simp [h0, h1, h5, hil, hcc];exact .r _))
    have hd : ((l.drop i).map Lw.w).sum = Lw.w l[i] + ((l.drop (i + 1)).map Lw.w).sum := by rw [List.drop_eq_getElem_cons hil, List.map_cons, List.sum_cons]
    have ht := wL_take l i hil
    by_cases h : ((Lw.w l[i] : Nat) : Int) ≤ r
    · have h' : szA (Lw.w l[i]) r = r - Lw.w l[i] := by simp [szA, h]
      refine W_cond (by simp [h0, h1, h5]; exact .r _) (fun he => ?_) (fun he => ?_)
      · rw [h'] at he; simp at he; omega
      · repeat' first|refine W_seq ?_|refine W_block ?_|refine W_skip ?_|refine W_ret ?_|refine W_exit ?_|refine xb_hit ?_|refine xb_miss (by decide) ?_|(apply W_reg;(simp [h0, h1, h5];exact .r _))
        refine ⟨_, ?_, i + 1, szA (Lw.w l[i]) r, rfl, rfl, ?_, ?_, ?_, by omega, by (rw [h']; omega), by (rw [h', ht]; omega)⟩
        all_goals first|assumption|(simp [h0, h1, h5];done)|(simp [h0, h1, h5];omega)|(simp [h0, h1, h5];exact wrap_succ (by omega))|omega
    · refine W_cond (by simp [h0, h1, h5]; exact .r _) (fun he => ?_) (fun he => ?_)
      · repeat' first|refine W_seq ?_|refine W_block ?_|refine W_skip ?_|refine W_ret ?_|refine W_exit ?_|refine xb_hit ?_|refine xb_miss (by decide) ?_|(apply W_reg;(simp [h0, h1, h5];exact .r _))
        have : ¬ ((wL l : Nat) : Int) ≤ left := by rw [hsplit, hd]; omega
        simp [szA, this]
      · exfalso
        have h' : szA (Lw.w l[i]) r = -1 := by unfold szA; rw [if_neg h]
        rw [h'] at he; simp at he
  · have hil : i = l.length := by simp at hc; omega
    subst hil
    repeat' first|refine W_seq ?_|refine W_block ?_|refine W_skip ?_|refine W_ret ?_|refine W_exit ?_|refine xb_hit ?_|refine xb_miss (by decide) ?_|(apply W_reg;(simp [h0, h1, h5];exact .r _))
    rw [List.drop_length] at hsplit
    simp only [List.map_nil, List.sum_nil, Nat.add_zero] at hsplit
    have : ((wL l : Nat) : Int) ≤ left := by rw [hsplit]; omega
    have h9 : szA (wL l) left = r := by rw [szA, if_pos this, hsplit]; omega
    simp [h9]
theorem toIntSS_r (l : List (List (Int))) (hl : Lw.bd 1048576 l) : Ret XX 284 [Ar l] (.own 1 (rowsE l)) := by
  have hn := hl.1
  refine ret_W rfl Tryz.func284 rfl rfl (by simp [Tryz.f284]) ?_
  simp only [Tryz.f284]
  repeat' first|refine W_seq ?_|refine W_block ?_|refine W_skip ?_|refine W_ret ?_|refine W_exit ?_|refine xb_hit ?_|refine xb_miss (by decide) ?_|(apply W_reg;(simp [show l.length < 1099511627776 by omega];exact .r _))
  refine W_loop (n := l.length) (fun n s => ∃ i : Nat, ∃ st : Nat, n = l.length - i ∧ s.nt = 23 ∧ s.tm 0 = Ar l ∧ s.tm 3 = .ref 0 l.length [] ∧ s.tm 4 = In i ∧ i ≤ l.length ∧ s.σ.ob 0 = .arr (.own 0) st 1 (rowsE (l.take i ++ List.replicate (l.length - i) ([] : List (Int)))) ∧ 1 ≤ s.σ.n) ⟨0, 0, by simp [rowsE]⟩ ?_
  rintro n ⟨nt, tm, σ⟩ ⟨i, st, rfl, hnt, h0, h3, h4, hi, ho, hn1⟩
  simp only at hnt h0 h3 h4 ho hn1
  subst hnt
  repeat' first|refine W_seq ?_|refine W_block ?_|refine W_skip ?_|refine W_ret ?_|refine W_exit ?_|refine xb_hit ?_|refine xb_miss (by decide) ?_|(apply W_reg;(simp [h0, h3, h4, ho, hn1];exact .r _))
  refine W_cond (by simp [h0, h3, h4, ho, hn1]; exact .r _) (fun hc => ?_) (fun hc => ?_)
  · have hil : i < l.length := by simpa using hc
    have hle : i ≤ l.length := hi
    have e0 : ¬ (0 = σ.n) := by omega
    have e0' : ¬ (σ.n = 0) := by omega
    have hg : (rowsE (l.take i ++ List.replicate (l.length - i) ([] : List (Int))))[i]? = some (Enc.cells ([] : List (Int))) := fill_get l _ i hil
    have hfs := fill_set l ([] : List (Int)) i hil
    have hrl : (rowsE (l.take i ++ List.replicate (l.length - i) ([] : List (Int)))).length = l.length := fill_len l _ i hi
    simp only [cells_list, rowsE_nil] at hg
    have hcc := cv (toIntS_r l[i] (hl.2 _ (List.getElem_mem hil)))
    repeat' first|refine W_seq ?_|refine W_block ?_|refine W_skip ?_|refine W_ret ?_|refine W_exit ?_|refine xb_hit ?_|refine xb_miss (by decide) ?_|(apply W_reg;(simp [h0, h3, h4, ho, hn1, hil, hg, hrl, hle, hcc, e0, e0'];exact .r _))
    refine ⟨_, ?_, i + 1, st + 1, rfl, rfl, ?_, ?_, ?_, by omega, by (simp [e0, e0']; rw [← hfs, rowsE_set]; rfl), ?_⟩
    all_goals first|assumption|(simp [h0, h3, h4, ho, hn1, e0, e0'];done)|(simp [h0, h3, h4, ho, hn1, e0, e0'];omega)|(simp [h0, h3, h4, ho, hn1, e0, e0'];exact wrap_succ (by omega))|omega
  · have hil : i = l.length := by simp at hc; omega
    subst hil
    repeat' first|refine W_seq ?_|refine W_block ?_|refine W_skip ?_|refine W_ret ?_|refine W_exit ?_|refine xb_hit ?_|refine xb_miss (by decide) ?_|(apply W_reg;(simp [h0, h3, h4, ho, hn1];exact .r _))
    simp [ho]
theorem eqIntSS_r (a b : List (List (Int))) (hl : Lw.bd 1048576 a) : Ret XX 280 [Ar a, Ar b] (.t (.b (decide (a = b))) false) := by
  have hn := hl.1
  refine ret_W rfl Tryz.func280 rfl rfl (by simp [Tryz.f280]) ?_
  simp only [Tryz.f280]
  repeat' first|refine W_seq ?_|refine W_block ?_|refine W_skip ?_|refine W_ret ?_|refine W_exit ?_|refine xb_hit ?_|refine xb_miss (by decide) ?_|(apply W_reg;(simp;exact .r _))
  refine W_cond (by simp; exact .r _) (fun hc => ?_) (fun hc => ?_)
  · repeat' first|refine W_seq ?_|refine W_block ?_|refine W_skip ?_|refine W_ret ?_|refine W_exit ?_|refine xb_hit ?_|refine xb_miss (by decide) ?_|(apply W_reg;(simp;exact .r _))
    have : a ≠ b := fun e => by subst e; simp at hc
    simp [this]
  have hll : a.length = b.length := by simp at hc; omega
  repeat' first|refine W_seq ?_|refine W_block ?_|refine W_skip ?_|refine W_ret ?_|refine W_exit ?_|refine xb_hit ?_|refine xb_miss (by decide) ?_|(apply W_reg;(simp;exact .r _))
  refine W_loop (n := a.length) (fun n s => ∃ i : Nat, n = a.length - i ∧ s.nt = 27 ∧ s.tm 0 = Ar a ∧ s.tm 1 = Ar b ∧ s.tm 5 = In i ∧ i ≤ a.length ∧ a.take i = b.take i) ⟨0, by simp⟩ ?_
  rintro n ⟨nt, tm, σ⟩ ⟨i, rfl, hnt, h0, h1, h5, hi, heq⟩
  simp only at hnt h0 h1 h5
  subst hnt
  repeat' first|refine W_seq ?_|refine W_block ?_|refine W_skip ?_|refine W_ret ?_|refine W_exit ?_|refine xb_hit ?_|refine xb_miss (by decide) ?_|(apply W_reg;(simp [h0, h1, h5];exact .r _))
  refine W_cond (by simp [h0, h1, h5]; exact .r _) (fun hc => ?_) (fun hc => ?_)
  · have hia : i < a.length := by simpa using hc
    have hib : i < b.length := by omega
    have hcc := cv (eqIntS_r a[i] b[i] (hl.2 _ (List.getElem_mem hia)))
    repeat' first|refine W_seq ?_|refine W_block ?_|refine W_skip ?_|refine W_ret ?_|refine W_exit ?_|refine xb_hit ?_|refine xb_miss (by decide) ?_|(apply W_reg;(simp [h0, h1, h5, hia, hib, hcc];exact .r _))|(apply W_draw (id := 6) [0,0,3,7,0,0,48,112,255,511] rfl rfl; (· simp; exact .r _); (· simp [h0, h1, h5, hia, hib, hcc]; exact .r _); (· first|trivial|simp))
    refine W_cond (by simp [h0, h1, h5]; exact .r _) (fun hd => ?_) (fun hd => ?_)
    · repeat' first|refine W_seq ?_|refine W_block ?_|refine W_skip ?_|refine W_ret ?_|refine W_exit ?_|refine xb_hit ?_|refine xb_miss (by decide) ?_|(apply W_reg;(simp [h0, h1, h5];exact .r _))
      have : a ≠ b := fun e => by subst e; simp at hd
      simp [this]
    · have hd : a[i] = b[i] := by simpa using hd
      repeat' first|refine W_seq ?_|refine W_block ?_|refine W_skip ?_|refine W_ret ?_|refine W_exit ?_|refine xb_hit ?_|refine xb_miss (by decide) ?_|(apply W_reg;(simp [h0, h1, h5];exact .r _))
      refine ⟨_, ?_, i + 1, rfl, rfl, ?_, ?_, ?_, by omega, by rw [List.take_succ_eq_append_getElem hia, List.take_succ_eq_append_getElem hib, heq, hd]⟩
      all_goals first|assumption|(simp [h0, h1, h5];done)|(simp [h0, h1, h5];omega)|(simp [h0, h1, h5];exact wrap_succ (by omega))|omega
  · have hil : i = a.length := by simp at hc; omega
    subst hil
    repeat' first|refine W_seq ?_|refine W_block ?_|refine W_skip ?_|refine W_ret ?_|refine W_exit ?_|refine xb_hit ?_|refine xb_miss (by decide) ?_|(apply W_reg;(simp [h0, h1, h5];exact .r _))
    rw [List.take_length, hll, List.take_length] at heq
    have : a = b := heq
    simp [this]
theorem szIntSSS_r (l : List (List (List (Int)))) (left : Int) (h0 : 0 ≤ left) (h1 : left ≤ 1048576) (hf : Fit l) : Ret XX 214 [Ar l, In left] (.t (.i .i64 (szA (Lw.w l) left)) false) := by
  have hl : l.length ≤ 9223372036854775807 := hf.1
  have hwl : Lw.w l = wL l := rfl
  rw [hwl]
  refine ret_W rfl Tryz.func214 rfl rfl (by simp [Tryz.f214]) ?_
  simp only [Tryz.f214]
  have hw : IntKind.i64.wrap (left - l.length) = left - l.length := wrap_ok (by omega) (by omega)
  repeat' first|refine W_seq ?_|refine W_block ?_|refine W_skip ?_|refine W_ret ?_|refine W_exit ?_|refine xb_hit ?_|refine xb_miss (by decide) ?_|(apply W_reg;(simp [hw];exact .r _))
  refine W_cond (by simp; exact .r _) (fun hc => ?_) (fun hc => ?_)
  · repeat' first|refine W_seq ?_|refine W_block ?_|refine W_skip ?_|refine W_ret ?_|refine W_exit ?_|refine xb_hit ?_|refine xb_miss (by decide) ?_|(apply W_reg;(simp;exact .r _))
    have hgt : ¬ (l.length : Int) ≤ left := by simp at hc; omega
    have : ¬ ((wL l : Nat) : Int) ≤ left := by unfold wL; omega
    simp [szA, this]
  have hle : (l.length : Int) ≤ left := by simp at hc; omega
  repeat' first|refine W_seq ?_|refine W_block ?_|refine W_skip ?_|refine W_ret ?_|refine W_exit ?_|refine xb_hit ?_|refine xb_miss (by decide) ?_|(apply W_reg;(simp;exact .r _))
  refine W_loop (n := l.length) (fun n s => ∃ i : Nat, ∃ r : Int, n = l.length - i ∧ s.nt = 27 ∧ s.tm 0 = Ar l ∧ s.tm 1 = In r ∧ s.tm 5 = In i ∧ i ≤ l.length ∧ 0 ≤ r ∧ r = left - l.length - ((l.take i).map Lw.w).sum) ⟨0, left - l.length, by simp <;> omega⟩ ?_
  rintro n ⟨nt, tm, σ⟩ ⟨i, r, rfl, hnt, h0, h1, h5, hi, hr, hre⟩
  simp only at hnt h0 h1 h5
  subst hnt
  repeat' first|refine W_seq ?_|refine W_block ?_|refine W_skip ?_|refine W_ret ?_|refine W_exit ?_|refine xb_hit ?_|refine xb_miss (by decide) ?_|(apply W_reg;(simp [h0, h1, h5];exact .r _))
  have hsplit : wL l = l.length + ((l.take i).map Lw.w).sum + ((l.drop i).map Lw.w).sum := by
    have := wL_split l i; unfold wL; omega
  refine W_cond (by simp [h0, h1, h5]; exact .r _) (fun hc => ?_) (fun hc => ?_)
  · have hil : i < l.length := by simp at hc; omega
    have hcc := cv (szIntSS_r l[i] r hr (by omega) (hf.2 _ (List.getElem_mem hil)))
    repeat' first|refine W_seq ?_|refine W_block ?_|refine W_skip ?_|refine W_ret ?_|refine W_exit ?_|refine xb_hit ?_|refine xb_miss (by decide) ?_|(apply W_reg;(simp [h0, h1, h5, hil, hcc];exact .r _))
    have hd : ((l.drop i).map Lw.w).sum = Lw.w l[i] + ((l.drop (i + 1)).map Lw.w).sum := by rw [List.drop_eq_getElem_cons hil, List.map_cons, List.sum_cons]
    have ht := wL_take l i hil
    by_cases h : ((Lw.w l[i] : Nat) : Int) ≤ r
    · have h' : szA (Lw.w l[i]) r = r - Lw.w l[i] := by simp [szA, h]
      refine W_cond (by simp [h0, h1, h5]; exact .r _) (fun he => ?_) (fun he => ?_)
      · rw [h'] at he; simp at he; omega
      · repeat' first|refine W_seq ?_|refine W_block ?_|refine W_skip ?_|refine W_ret ?_|refine W_exit ?_|refine xb_hit ?_|refine xb_miss (by decide) ?_|(apply W_reg;(simp [h0, h1, h5];exact .r _))
        refine ⟨_, ?_, i + 1, szA (Lw.w l[i]) r, rfl, rfl, ?_, ?_, ?_, by omega, by (rw [h']; omega), by (rw [h', ht]; omega)⟩
        all_goals first|assumption|(simp [h0, h1, h5];done)|(simp [h0, h1, h5];omega)|(simp [h0, h1, h5];exact wrap_succ (by omega))|omega
    · refine W_cond (by simp [h0, h1, h5]; exact .r _) (fun he => ?_) (fun he => ?_)
      · repeat' first|refine W_seq ?_|refine W_block ?_|refine W_skip ?_|refine W_ret ?_|refine W_exit ?_|refine xb_hit ?_|refine xb_miss (by decide) ?_|(apply W_reg;(simp [h0, h1, h5];exact .r _))
        have : ¬ ((wL l : Nat) : Int) ≤ left := by rw [hsplit, hd]; omega
        simp [szA, this]
      · exfalso
        have h' : szA (Lw.w l[i]) r = -1 := by unfold szA; rw [if_neg h]
        rw [h'] at he; simp at he
  · have hil : i = l.length := by simp at hc; omega
    subst hil
    repeat' first|refine W_seq ?_|refine W_block ?_|refine W_skip ?_|refine W_ret ?_|refine W_exit ?_|refine xb_hit ?_|refine xb_miss (by decide) ?_|(apply W_reg;(simp [h0, h1, h5];exact .r _))
    rw [List.drop_length] at hsplit
    simp only [List.map_nil, List.sum_nil, Nat.add_zero] at hsplit
    have : ((wL l : Nat) : Int) ≤ left := by rw [hsplit]; omega
    have h9 : szA (wL l) left = r := by rw [szA, if_pos this, hsplit]; omega
    simp [h9]
theorem toIntSSS_r (l : List (List (List (Int)))) (hl : Lw.bd 1048576 l) : Ret XX 217 [Ar l] (.own 1 (rowsE l)) := by
  have hn := hl.1
  refine ret_W rfl Tryz.func217 rfl rfl (by simp [Tryz.f217]) ?_
  simp only [Tryz.f217]
  repeat' first|refine W_seq ?_|refine W_block ?_|refine W_skip ?_|refine W_ret ?_|refine W_exit ?_|refine xb_hit ?_|refine xb_miss (by decide) ?_|(apply W_reg;(simp [show l.length < 1099511627776 by omega];exact .r _))
  refine W_loop (n := l.length) (fun n s => ∃ i : Nat, ∃ st : Nat, n = l.length - i ∧ s.nt = 23 ∧ s.tm 0 = Ar l ∧ s.tm 3 = .ref 0 l.length [] ∧ s.tm 4 = In i ∧ i ≤ l.length ∧ s.σ.ob 0 = .arr (.own 0) st 1 (rowsE (l.take i ++ List.replicate (l.length - i) ([] : List (List (Int))))) ∧ 1 ≤ s.σ.n) ⟨0, 0, by simp [rowsE]⟩ ?_
  rintro n ⟨nt, tm, σ⟩ ⟨i, st, rfl, hnt, h0, h3, h4, hi, ho, hn1⟩
  simp only at hnt h0 h3 h4 ho hn1
  subst hnt
  repeat' first|refine W_seq ?_|refine W_block ?_|refine W_skip ?_|refine W_ret ?_|refine W_exit ?_|refine xb_hit ?_|refine xb_miss (by decide) ?_|(apply W_reg;(simp [h0, h3, h4, ho, hn1];exact .r _))
  refine W_cond (by simp [h0, h3, h4, ho, hn1]; exact .r _) (fun hc => ?_) (fun hc => ?_)
  · have hil : i < l.length := by simpa using hc
    have hle : i ≤ l.length := hi
    have e0 : ¬ (0 = σ.n) := by omega
    have e0' : ¬ (σ.n = 0) := by omega
    have hg : (rowsE (l.take i ++ List.replicate (l.length - i) ([] : List (List (Int)))))[i]? = some (Enc.cells ([] : List (List (Int)))) := fill_get l _ i hil
    have hfs := fill_set l ([] : List (List (Int))) i hil
    have hrl : (rowsE (l.take i ++ List.replicate (l.length - i) ([] : List (List (Int))))).length = l.length := fill_len l _ i hi
    simp only [cells_list, rowsE_nil] at hg
    have hcc := cv (toIntSS_r l[i] (hl.2 _ (List.getElem_mem hil)))
    repeat' first|refine W_seq ?_|refine W_block ?_|refine W_skip ?_|refine W_ret ?_|refine W_exit ?_|refine xb_hit ?_|refine xb_miss (by decide) ?_|(apply W_reg;(simp [h0, h3, h4, ho, hn1, hil, hg, hrl, hle, hcc, e0, e0'];exact .r _))
    refine ⟨_, ?_, i + 1, st + 1, rfl, rfl, ?_, ?_, ?_, by omega, by (simp [e0, e0']; rw [← hfs, rowsE_set]; rfl), ?_⟩
    all_goals first|assumption|(simp [h0, h3, h4, ho, hn1, e0, e0'];done)|(simp [h0, h3, h4, ho, hn1, e0, e0'];omega)|(simp [h0, h3, h4, ho, hn1, e0, e0'];exact wrap_succ (by omega))|omega
  · have hil : i = l.length := by simp at hc; omega
    subst hil
    repeat' first|refine W_seq ?_|refine W_block ?_|refine W_skip ?_|refine W_ret ?_|refine W_exit ?_|refine xb_hit ?_|refine xb_miss (by decide) ?_|(apply W_reg;(simp [h0, h3, h4, ho, hn1];exact .r _))
    simp [ho]
theorem eqIntSSS_r (a b : List (List (List (Int)))) (hl : Lw.bd 1048576 a) : Ret XX 210 [Ar a, Ar b] (.t (.b (decide (a = b))) false) := by
  have hn := hl.1
  refine ret_W rfl Tryz.func210 rfl rfl (by simp [Tryz.f210]) ?_
  simp only [Tryz.f210]
  repeat' first|refine W_seq ?_|refine W_block ?_|refine W_skip ?_|refine W_ret ?_|refine W_exit ?_|refine xb_hit ?_|refine xb_miss (by decide) ?_|(apply W_reg;(simp;exact .r _))
  refine W_cond (by simp; exact .r _) (fun hc => ?_) (fun hc => ?_)
  · repeat' first|refine W_seq ?_|refine W_block ?_|refine W_skip ?_|refine W_ret ?_|refine W_exit ?_|refine xb_hit ?_|refine xb_miss (by decide) ?_|(apply W_reg;(simp;exact .r _))
    have : a ≠ b := fun e => by subst e; simp at hc
    simp [this]
  have hll : a.length = b.length := by simp at hc; omega
  repeat' first|refine W_seq ?_|refine W_block ?_|refine W_skip ?_|refine W_ret ?_|refine W_exit ?_|refine xb_hit ?_|refine xb_miss (by decide) ?_|(apply W_reg;(simp;exact .r _))
  refine W_loop (n := a.length) (fun n s => ∃ i : Nat, n = a.length - i ∧ s.nt = 27 ∧ s.tm 0 = Ar a ∧ s.tm 1 = Ar b ∧ s.tm 5 = In i ∧ i ≤ a.length ∧ a.take i = b.take i) ⟨0, by simp⟩ ?_
  rintro n ⟨nt, tm, σ⟩ ⟨i, rfl, hnt, h0, h1, h5, hi, heq⟩
  simp only at hnt h0 h1 h5
  subst hnt
  repeat' first|refine W_seq ?_|refine W_block ?_|refine W_skip ?_|refine W_ret ?_|refine W_exit ?_|refine xb_hit ?_|refine xb_miss (by decide) ?_|(apply W_reg;(simp [h0, h1, h5];exact .r _))
  refine W_cond (by simp [h0, h1, h5]; exact .r _) (fun hc => ?_) (fun hc => ?_)
  · have hia : i < a.length := by simpa using hc
    have hib : i < b.length := by omega
    have hcc := cv (eqIntSS_r a[i] b[i] (hl.2 _ (List.getElem_mem hia)))
    repeat' first|refine W_seq ?_|refine W_block ?_|refine W_skip ?_|refine W_ret ?_|refine W_exit ?_|refine xb_hit ?_|refine xb_miss (by decide) ?_|(apply W_reg;(simp [h0, h1, h5, hia, hib, hcc];exact .r _))|(apply W_draw (id := 6) [0,0,3,7,0,0,48,112,255,511] rfl rfl; (· simp; exact .r _); (· simp [h0, h1, h5, hia, hib, hcc]; exact .r _); (· first|trivial|simp))
    refine W_cond (by simp [h0, h1, h5]; exact .r _) (fun hd => ?_) (fun hd => ?_)
    · repeat' first|refine W_seq ?_|refine W_block ?_|refine W_skip ?_|refine W_ret ?_|refine W_exit ?_|refine xb_hit ?_|refine xb_miss (by decide) ?_|(apply W_reg;(simp [h0, h1, h5];exact .r _))
      have : a ≠ b := fun e => by subst e; simp at hd
      simp [this]
    · have hd : a[i] = b[i] := by simpa using hd
      repeat' first|refine W_seq ?_|refine W_block ?_|refine W_skip ?_|refine W_ret ?_|refine W_exit ?_|refine xb_hit ?_|refine xb_miss (by decide) ?_|(apply W_reg;(simp [h0, h1, h5];exact .r _))
      refine ⟨_, ?_, i + 1, rfl, rfl, ?_, ?_, ?_, by omega, by rw [List.take_succ_eq_append_getElem hia, List.take_succ_eq_append_getElem hib, heq, hd]⟩
      all_goals first|assumption|(simp [h0, h1, h5];done)|(simp [h0, h1, h5];omega)|(simp [h0, h1, h5];exact wrap_succ (by omega))|omega
  · have hil : i = a.length := by simp at hc; omega
    subst hil
    repeat' first|refine W_seq ?_|refine W_block ?_|refine W_skip ?_|refine W_ret ?_|refine W_exit ?_|refine xb_hit ?_|refine xb_miss (by decide) ?_|(apply W_reg;(simp [h0, h1, h5];exact .r _))
    rw [List.take_length, hll, List.take_length] at heq
    have : a = b := heq
    simp [this]
theorem szAtom_r (a : RA) (left : Int) (h0 : 0 ≤ left) (h1 : left ≤ 1048576) (hf : Fit a) : Ret XX 267 [Ag a, In left] (.t (.i .i64 (szA (Lw.w a) left)) false) := by
  refine ret_W rfl Tryz.func267 rfl rfl (by simp [Tryz.f267]) ?_
  simp only [Tryz.f267]
  have c0 := fun (r : Int) (g0 : 0 ≤ r) (g1 : r ≤ 1048576) => cv (szIntS_r a.args r g0 g1 hf)
  have hw : Lw.w a = Lw.w a.args := rfl
  have d0 := c0 (left) (by omega) (by omega)
  repeat' first|refine W_seq ?_|refine W_block ?_|refine W_skip ?_|refine W_ret ?_|refine W_exit ?_|refine xb_hit ?_|refine xb_miss (by decide) ?_|(apply W_reg;(simp [Ag, d0];exact .r _))
  by_cases e0 : ((Lw.w a.args : Nat) : Int) ≤ left
  case neg =>
    have s0 : szA (Lw.w a.args) (left) = -1 := by unfold szA; rw [if_neg e0]
    have s9 : szA (Lw.w a) left = -1 := by unfold szA; rw [hw, if_neg (by omega)]
    refine W_cond (by simp; exact .r _) (fun hc => ?_) (fun hc => ?_)
    · repeat' first|refine W_seq ?_|refine W_block ?_|refine W_skip ?_|refine W_ret ?_|refine W_exit ?_|refine xb_hit ?_|refine xb_miss (by decide) ?_|(apply W_reg;(simp;exact .r _))
      rw [s9]; simp
    · exfalso; revert hc; rw [s0]; simp
  have s0 : szA (Lw.w a.args) (left) = left - (Lw.w a.args : Nat) := by unfold szA; rw [if_pos e0]
  refine W_cond (by simp; exact .r _) (fun hc => ?_) (fun hc => ?_)
  · exfalso; revert hc; rw [s0]; simp; omega
  repeat' first|refine W_seq ?_|refine W_block ?_|refine W_skip ?_|refine W_ret ?_|refine W_exit ?_|refine xb_hit ?_|refine xb_miss (by decide) ?_|(apply W_reg;(simp [s0];exact .r _))
  have s9 : szA (Lw.w a) left = left - (Lw.w a.args : Nat) := by unfold szA; (rw [hw, if_pos (by omega)]) <;> omega
  rw [s9]; simp [s0]
theorem toAtom_r (a : RA) (hl : Lw.bd 1048576 a) : Ret XX 268 [Ag a] (.agg [.t (.i .i64 a.rel) false, .own 1 (rowsE a.args)]) := by
  refine ret_W rfl Tryz.func268 rfl rfl (by simp [Tryz.f268]) ?_
  simp only [Tryz.f268]
  have c0 := cv (toIntS_r a.args hl)
  repeat' first|refine W_seq ?_|refine W_block ?_|refine W_skip ?_|refine W_ret ?_|refine W_exit ?_|refine xb_hit ?_|refine xb_miss (by decide) ?_|(apply W_reg;(simp [Ag, c0];exact .r _))
  simp
theorem eqAtom_r (a b : RA) (hl : Lw.bd 1048576 a) : Ret XX 269 [Ag a, Ag b] (.t (.b (decide (a = b))) false) := by
  refine ret_W rfl Tryz.func269 rfl rfl (by simp [Tryz.f269]) ?_
  simp only [Tryz.f269]
  have c0 := cv (eqIntS_r a.args b.args hl)
  repeat' first|refine W_seq ?_|refine W_block ?_|refine W_skip ?_|refine W_ret ?_|refine W_exit ?_|refine xb_hit ?_|refine xb_miss (by decide) ?_|(apply W_reg;(simp [Ag, c0];exact .r _))
  refine W_cond (by simp; exact .r _) (fun hc => ?_) (fun hc => ?_)
  · repeat' first|refine W_seq ?_|refine W_block ?_|refine W_skip ?_|refine W_ret ?_|refine W_exit ?_|refine xb_hit ?_|refine xb_miss (by decide) ?_|(apply W_reg;(simp;exact .r _))
    have : a ≠ b := fun e => by subst e; simp at hc
    simp [this]
  have e0 : a.rel = b.rel := by simpa using hc
  clear hc
  repeat' first|refine W_seq ?_|refine W_block ?_|refine W_skip ?_|refine W_ret ?_|refine W_exit ?_|refine xb_hit ?_|refine xb_miss (by decide) ?_|(apply W_reg;(simp [Ag, c0];exact .r _))
  refine W_cond (by simp; exact .r _) (fun hc => ?_) (fun hc => ?_)
  · repeat' first|refine W_seq ?_|refine W_block ?_|refine W_skip ?_|refine W_ret ?_|refine W_exit ?_|refine xb_hit ?_|refine xb_miss (by decide) ?_|(apply W_reg;(simp;exact .r _))
    have : a ≠ b := fun e => by subst e; simp at hc
    simp [this]
  have e1 : a.args = b.args := by simpa using hc
  clear hc
  repeat' first|refine W_seq ?_|refine W_block ?_|refine W_skip ?_|refine W_ret ?_|refine W_exit ?_|refine xb_hit ?_|refine xb_miss (by decide) ?_|(apply W_reg;(simp;exact .r _))
  have : a = b := by cases a; cases b; simp only at e0 e1; simp [e0, e1]
  simp [this]
theorem szAtomS_r (l : List (RA)) (left : Int) (h0 : 0 ≤ left) (h1 : left ≤ 1048576) (hf : Fit l) : Ret XX 187 [Ar l, In left] (.t (.i .i64 (szA (Lw.w l) left)) false) := by
  have hl : l.length ≤ 9223372036854775807 := hf.1
  have hwl : Lw.w l = wL l := rfl
  rw [hwl]
  refine ret_W rfl Tryz.func187 rfl rfl (by simp [Tryz.f187]) ?_
  simp only [Tryz.f187]
  have hw : IntKind.i64.wrap (left - l.length) = left - l.length := wrap_ok (by omega) (by omega)
  repeat' first|refine W_seq ?_|refine W_block ?_|refine W_skip ?_|refine W_ret ?_|refine W_exit ?_|refine xb_hit ?_|refine xb_miss (by decide) ?_|(apply W_reg;(simp [hw];exact .r _))
  refine W_cond (by simp; exact .r _) (fun hc => ?_) (fun hc => ?_)
  · repeat' first|refine W_seq ?_|refine W_block ?_|refine W_skip ?_|refine W_ret ?_|refine W_exit ?_|refine xb_hit ?_|refine xb_miss (by decide) ?_|(apply W_reg;(simp;exact .r _))
    have hgt : ¬ (l.length : Int) ≤ left := by simp at hc; omega
    have : ¬ ((wL l : Nat) : Int) ≤ left := by unfold wL; omega
    simp [szA, this]
  have hle : (l.length : Int) ≤ left := by simp at hc; omega
  repeat' first|refine W_seq ?_|refine W_block ?_|refine W_skip ?_|refine W_ret ?_|refine W_exit ?_|refine xb_hit ?_|refine xb_miss (by decide) ?_|(apply W_reg;(simp;exact .r _))
  refine W_loop (n := l.length) (fun n s => ∃ i : Nat, ∃ r : Int, n = l.length - i ∧ s.nt = 27 ∧ s.tm 0 = Ar l ∧ s.tm 1 = In r ∧ s.tm 5 = In i ∧ i ≤ l.length ∧ 0 ≤ r ∧ r = left - l.length - ((l.take i).map Lw.w).sum) ⟨0, left - l.length, by simp <;> omega⟩ ?_
  rintro n ⟨nt, tm, σ⟩ ⟨i, r, rfl, hnt, h0, h1, h5, hi, hr, hre⟩
  simp only at hnt h0 h1 h5
  subst hnt
  repeat' first|refine W_seq ?_|refine W_block ?_|refine W_skip ?_|refine W_ret ?_|refine W_exit ?_|refine xb_hit ?_|refine xb_miss (by decide) ?_|(apply W_reg;(simp [h0, h1, h5];exact .r _))
  have hsplit : wL l = l.length + ((l.take i).map Lw.w).sum + ((l.drop i).map Lw.w).sum := by
    have := wL_split l i; unfold wL; omega
  refine W_cond (by simp [h0, h1, h5]; exact .r _) (fun hc => ?_) (fun hc => ?_)
  · have hil : i < l.length := by simp at hc; omega
    have hcc := cv (szAtom_r l[i] r hr (by omega) (hf.2 _ (List.getElem_mem hil)))
    simp only [Ag, cells_RA, List.map_cons, List.map_nil] at hcc
    repeat' first|refine W_seq ?_|refine W_block ?_|refine W_skip ?_|refine W_ret ?_|refine W_exit ?_|refine xb_hit ?_|refine xb_miss (by decide) ?_|(apply W_reg;(simp [h0, h1, h5, hil, hcc];exact .r _))
    have hd : ((l.drop i).map Lw.w).sum = Lw.w l[i] + ((l.drop (i + 1)).map Lw.w).sum := by rw [List.drop_eq_getElem_cons hil, List.map_cons, List.sum_cons]
    have ht := wL_take l i hil
    by_cases h : ((Lw.w l[i] : Nat) : Int) ≤ r
    · have h' : szA (Lw.w l[i]) r = r - Lw.w l[i] := by simp [szA, h]
      refine W_cond (by simp [h0, h1, h5]; exact .r _) (fun he => ?_) (fun he => ?_)
      · rw [h'] at he; simp at he; omega
      · repeat' first|refine W_seq ?_|refine W_block ?_|refine W_skip ?_|refine W_ret ?_|refine W_exit ?_|refine xb_hit ?_|refine xb_miss (by decide) ?_|(apply W_reg;(simp [h0, h1, h5];exact .r _))
        refine ⟨_, ?_, i + 1, szA (Lw.w l[i]) r, rfl, rfl, ?_, ?_, ?_, by omega, by (rw [h']; omega), by (rw [h', ht]; omega)⟩
        all_goals first|assumption|(simp [h0, h1, h5];done)|(simp [h0, h1, h5];omega)|(simp [h0, h1, h5];exact wrap_succ (by omega))|omega
    · refine W_cond (by simp [h0, h1, h5]; exact .r _) (fun he => ?_) (fun he => ?_)
      · repeat' first|refine W_seq ?_|refine W_block ?_|refine W_skip ?_|refine W_ret ?_|refine W_exit ?_|refine xb_hit ?_|refine xb_miss (by decide) ?_|(apply W_reg;(simp [h0, h1, h5];exact .r _))
        have : ¬ ((wL l : Nat) : Int) ≤ left := by rw [hsplit, hd]; omega
        simp [szA, this]
      · exfalso
        have h' : szA (Lw.w l[i]) r = -1 := by unfold szA; rw [if_neg h]
        rw [h'] at he; simp at he
  · have hil : i = l.length := by simp at hc; omega
    subst hil
    repeat' first|refine W_seq ?_|refine W_block ?_|refine W_skip ?_|refine W_ret ?_|refine W_exit ?_|refine xb_hit ?_|refine xb_miss (by decide) ?_|(apply W_reg;(simp [h0, h1, h5];exact .r _))
    rw [List.drop_length] at hsplit
    simp only [List.map_nil, List.sum_nil, Nat.add_zero] at hsplit
    have : ((wL l : Nat) : Int) ≤ left := by rw [hsplit]; omega
    have h9 : szA (wL l) left = r := by rw [szA, if_pos this, hsplit]; omega
    simp [h9]
theorem toAtomS_r (l : List (RA)) (hl : Lw.bd 1048576 l) : Ret XX 191 [Ar l] (.own 2 (rowsE l)) := by
  have hn := hl.1
  refine ret_W rfl Tryz.func191 rfl rfl (by simp [Tryz.f191]) ?_
  simp only [Tryz.f191]
  repeat' first|refine W_seq ?_|refine W_block ?_|refine W_skip ?_|refine W_ret ?_|refine W_exit ?_|refine xb_hit ?_|refine xb_miss (by decide) ?_|(apply W_reg;(simp [show l.length < 1099511627776 by omega];exact .r _))
  refine W_loop (n := l.length) (fun n s => ∃ i : Nat, ∃ st : Nat, n = l.length - i ∧ s.nt = 23 ∧ s.tm 0 = Ar l ∧ s.tm 3 = .ref 0 l.length [] ∧ s.tm 4 = In i ∧ i ≤ l.length ∧ s.σ.ob 0 = .arr (.own 0) st 2 (rowsE (l.take i ++ List.replicate (l.length - i) (⟨0, []⟩ : RA))) ∧ 1 ≤ s.σ.n) ⟨0, 0, by simp [rowsE]⟩ ?_
  rintro n ⟨nt, tm, σ⟩ ⟨i, st, rfl, hnt, h0, h3, h4, hi, ho, hn1⟩
  simp only at hnt h0 h3 h4 ho hn1
  subst hnt
  repeat' first|refine W_seq ?_|refine W_block ?_|refine W_skip ?_|refine W_ret ?_|refine W_exit ?_|refine xb_hit ?_|refine xb_miss (by decide) ?_|(apply W_reg;(simp [h0, h3, h4, ho, hn1];exact .r _))
  refine W_cond (by simp [h0, h3, h4, ho, hn1]; exact .r _) (fun hc => ?_) (fun hc => ?_)
  · have hil : i < l.length := by simpa using hc
    have hle : i ≤ l.length := hi
    have e0 : ¬ (0 = σ.n) := by omega
    have e0' : ¬ (σ.n = 0) := by omega
    have hg : (rowsE (l.take i ++ List.replicate (l.length - i) (⟨0, []⟩ : RA)))[i]? = some (Enc.cells (⟨0, []⟩ : RA)) := fill_get l _ i hil
    have hfs := fill_set l (⟨0, []⟩ : RA) i hil
    have hrl : (rowsE (l.take i ++ List.replicate (l.length - i) (⟨0, []⟩ : RA))).length = l.length := fill_len l _ i hi
    simp only [cells_RA, rowsE_nil] at hg
    have hcc := cv (toAtom_r l[i] (hl.2 _ (List.getElem_mem hil)))
    simp only [Ag, cells_RA, List.map_cons, List.map_nil] at hcc
    repeat' first|refine W_seq ?_|refine W_block ?_|refine W_skip ?_|refine W_ret ?_|refine W_exit ?_|refine xb_hit ?_|refine xb_miss (by decide) ?_|(apply W_reg;(simp [h0, h3, h4, ho, hn1, hil, hg, hrl, hle, hcc, e0, e0'];exact .r _))
    refine ⟨_, ?_, i + 1, st + 1, rfl, rfl, ?_, ?_, ?_, by omega, by (simp [e0, e0']; rw [← hfs, rowsE_set]; rfl), ?_⟩
    all_goals first|assumption|(simp [h0, h3, h4, ho, hn1, e0, e0'];done)|(simp [h0, h3, h4, ho, hn1, e0, e0'];omega)|(simp [h0, h3, h4, ho, hn1, e0, e0'];exact wrap_succ (by omega))|omega
  · have hil : i = l.length := by simp at hc; omega
    subst hil
    repeat' first|refine W_seq ?_|refine W_block ?_|refine W_skip ?_|refine W_ret ?_|refine W_exit ?_|refine xb_hit ?_|refine xb_miss (by decide) ?_|(apply W_reg;(simp [h0, h3, h4, ho, hn1];exact .r _))
    simp [ho]
theorem eqAtomS_r (a b : List (RA)) (hl : Lw.bd 1048576 a) : Ret XX 193 [Ar a, Ar b] (.t (.b (decide (a = b))) false) := by
  have hn := hl.1
  refine ret_W rfl Tryz.func193 rfl rfl (by simp [Tryz.f193]) ?_
  simp only [Tryz.f193]
  repeat' first|refine W_seq ?_|refine W_block ?_|refine W_skip ?_|refine W_ret ?_|refine W_exit ?_|refine xb_hit ?_|refine xb_miss (by decide) ?_|(apply W_reg;(simp;exact .r _))
  refine W_cond (by simp; exact .r _) (fun hc => ?_) (fun hc => ?_)
  · repeat' first|refine W_seq ?_|refine W_block ?_|refine W_skip ?_|refine W_ret ?_|refine W_exit ?_|refine xb_hit ?_|refine xb_miss (by decide) ?_|(apply W_reg;(simp;exact .r _))
    have : a ≠ b := fun e => by subst e; simp at hc
    simp [this]
  have hll : a.length = b.length := by simp at hc; omega
  repeat' first|refine W_seq ?_|refine W_block ?_|refine W_skip ?_|refine W_ret ?_|refine W_exit ?_|refine xb_hit ?_|refine xb_miss (by decide) ?_|(apply W_reg;(simp;exact .r _))
  refine W_loop (n := a.length) (fun n s => ∃ i : Nat, n = a.length - i ∧ s.nt = 27 ∧ s.tm 0 = Ar a ∧ s.tm 1 = Ar b ∧ s.tm 5 = In i ∧ i ≤ a.length ∧ a.take i = b.take i) ⟨0, by simp⟩ ?_
  rintro n ⟨nt, tm, σ⟩ ⟨i, rfl, hnt, h0, h1, h5, hi, heq⟩
  simp only at hnt h0 h1 h5
  subst hnt
  repeat' first|refine W_seq ?_|refine W_block ?_|refine W_skip ?_|refine W_ret ?_|refine W_exit ?_|refine xb_hit ?_|refine xb_miss (by decide) ?_|(apply W_reg;(simp [h0, h1, h5];exact .r _))
  refine W_cond (by simp [h0, h1, h5]; exact .r _) (fun hc => ?_) (fun hc => ?_)
  · have hia : i < a.length := by simpa using hc
    have hib : i < b.length := by omega
    have hcc := cv (eqAtom_r a[i] b[i] (hl.2 _ (List.getElem_mem hia)))
    simp only [Ag, cells_RA, List.map_cons, List.map_nil] at hcc
    repeat' first|refine W_seq ?_|refine W_block ?_|refine W_skip ?_|refine W_ret ?_|refine W_exit ?_|refine xb_hit ?_|refine xb_miss (by decide) ?_|(apply W_reg;(simp [h0, h1, h5, hia, hib, hcc];exact .r _))|(apply W_draw (id := 6) [0,0,3,7,0,0,48,112,255,511] rfl rfl; (· simp; exact .r _); (· simp [h0, h1, h5, hia, hib, hcc]; exact .r _); (· first|trivial|simp))
    refine W_cond (by simp [h0, h1, h5]; exact .r _) (fun hd => ?_) (fun hd => ?_)
    · repeat' first|refine W_seq ?_|refine W_block ?_|refine W_skip ?_|refine W_ret ?_|refine W_exit ?_|refine xb_hit ?_|refine xb_miss (by decide) ?_|(apply W_reg;(simp [h0, h1, h5];exact .r _))
      have : a ≠ b := fun e => by subst e; simp at hd
      simp [this]
    · have hd : a[i] = b[i] := by simpa using hd
      repeat' first|refine W_seq ?_|refine W_block ?_|refine W_skip ?_|refine W_ret ?_|refine W_exit ?_|refine xb_hit ?_|refine xb_miss (by decide) ?_|(apply W_reg;(simp [h0, h1, h5];exact .r _))
      refine ⟨_, ?_, i + 1, rfl, rfl, ?_, ?_, ?_, by omega, by rw [List.take_succ_eq_append_getElem hia, List.take_succ_eq_append_getElem hib, heq, hd]⟩
      all_goals first|assumption|(simp [h0, h1, h5];done)|(simp [h0, h1, h5];omega)|(simp [h0, h1, h5];exact wrap_succ (by omega))|omega
  · have hil : i = a.length := by simp at hc; omega
    subst hil
    repeat' first|refine W_seq ?_|refine W_block ?_|refine W_skip ?_|refine W_ret ?_|refine W_exit ?_|refine xb_hit ?_|refine xb_miss (by decide) ?_|(apply W_reg;(simp [h0, h1, h5];exact .r _))
    rw [List.take_length, hll, List.take_length] at heq
    have : a = b := heq
    simp [this]
theorem szFact_r (a : RA) (left : Int) (h0 : 0 ≤ left) (h1 : left ≤ 1048576) (hf : Fit a) : Ret XX 55 [Ag a, In left] (.t (.i .i64 (szA (Lw.w a) left)) false) := by
  refine ret_W rfl Tryz.func55 rfl rfl (by simp [Tryz.f55]) ?_
  simp only [Tryz.f55]
  have c0 := fun (r : Int) (g0 : 0 ≤ r) (g1 : r ≤ 1048576) => cv (szIntS_r a.args r g0 g1 hf)
  have hw : Lw.w a = Lw.w a.args := rfl
  have d0 := c0 (left) (by omega) (by omega)
  repeat' first|refine W_seq ?_|refine W_block ?_|refine W_skip ?_|refine W_ret ?_|refine W_exit ?_|refine xb_hit ?_|refine xb_miss (by decide) ?_|(apply W_reg;(simp [Ag, d0];exact .r _))
  by_cases e0 : ((Lw.w a.args : Nat) : Int) ≤ left
  case neg =>
    have s0 : szA (Lw.w a.args) (left) = -1 := by unfold szA; rw [if_neg e0]
    have s9 : szA (Lw.w a) left = -1 := by unfold szA; rw [hw, if_neg (by omega)]
    refine W_cond (by simp; exact .r _) (fun hc => ?_) (fun hc => ?_)
    · repeat' first|refine W_seq ?_|refine W_block ?_|refine W_skip ?_|refine W_ret ?_|refine W_exit ?_|refine xb_hit ?_|refine xb_miss (by decide) ?_|(apply W_reg;(simp;exact .r _))
      rw [s9]; simp
    · exfalso; revert hc; rw [s0]; simp
  have s0 : szA (Lw.w a.args) (left) = left - (Lw.w a.args : Nat) := by unfold szA; rw [if_pos e0]
  refine W_cond (by simp; exact .r _) (fun hc => ?_) (fun hc => ?_)
  · exfalso; revert hc; rw [s0]; simp; omega
  repeat' first|refine W_seq ?_|refine W_block ?_|refine W_skip ?_|refine W_ret ?_|refine W_exit ?_|refine xb_hit ?_|refine xb_miss (by decide) ?_|(apply W_reg;(simp [s0];exact .r _))
  have s9 : szA (Lw.w a) left = left - (Lw.w a.args : Nat) := by unfold szA; (rw [hw, if_pos (by omega)]) <;> omega
  rw [s9]; simp [s0]
theorem toFact_r (a : RA) (hl : Lw.bd 1048576 a) : Ret XX 60 [Ag a] (.agg [.t (.i .i64 a.rel) false, .own 1 (rowsE a.args)]) := by
  refine ret_W rfl Tryz.func60 rfl rfl (by simp [Tryz.f60]) ?_
  simp only [Tryz.f60]
  have c0 := cv (toIntS_r a.args hl)
  repeat' first|refine W_seq ?_|refine W_block ?_|refine W_skip ?_|refine W_ret ?_|refine W_exit ?_|refine xb_hit ?_|refine xb_miss (by decide) ?_|(apply W_reg;(simp [Ag, c0];exact .r _))
  simp
theorem eqFact_r (a b : RA) (hl : Lw.bd 1048576 a) : Ret XX 65 [Ag a, Ag b] (.t (.b (decide (a = b))) false) := by
  refine ret_W rfl Tryz.func65 rfl rfl (by simp [Tryz.f65]) ?_
  simp only [Tryz.f65]
  have c0 := cv (eqIntS_r a.args b.args hl)
  repeat' first|refine W_seq ?_|refine W_block ?_|refine W_skip ?_|refine W_ret ?_|refine W_exit ?_|refine xb_hit ?_|refine xb_miss (by decide) ?_|(apply W_reg;(simp [Ag, c0];exact .r _))
  refine W_cond (by simp; exact .r _) (fun hc => ?_) (fun hc => ?_)
  · repeat' first|refine W_seq ?_|refine W_block ?_|refine W_skip ?_|refine W_ret ?_|refine W_exit ?_|refine xb_hit ?_|refine xb_miss (by decide) ?_|(apply W_reg;(simp;exact .r _))
    have : a ≠ b := fun e => by subst e; simp at hc
    simp [this]
  have e0 : a.rel = b.rel := by simpa using hc
  clear hc
  repeat' first|refine W_seq ?_|refine W_block ?_|refine W_skip ?_|refine W_ret ?_|refine W_exit ?_|refine xb_hit ?_|refine xb_miss (by decide) ?_|(apply W_reg;(simp [Ag, c0];exact .r _))
  refine W_cond (by simp; exact .r _) (fun hc => ?_) (fun hc => ?_)
  · repeat' first|refine W_seq ?_|refine W_block ?_|refine W_skip ?_|refine W_ret ?_|refine W_exit ?_|refine xb_hit ?_|refine xb_miss (by decide) ?_|(apply W_reg;(simp;exact .r _))
    have : a ≠ b := fun e => by subst e; simp at hc
    simp [this]
  have e1 : a.args = b.args := by simpa using hc
  clear hc
  repeat' first|refine W_seq ?_|refine W_block ?_|refine W_skip ?_|refine W_ret ?_|refine W_exit ?_|refine xb_hit ?_|refine xb_miss (by decide) ?_|(apply W_reg;(simp;exact .r _))
  have : a = b := by cases a; cases b; simp only at e0 e1; simp [e0, e1]
  simp [this]
theorem szFactS_r (l : List (RA)) (left : Int) (h0 : 0 ≤ left) (h1 : left ≤ 1048576) (hf : Fit l) : Ret XX 54 [Ar l, In left] (.t (.i .i64 (szA (Lw.w l) left)) false) := by
  have hl : l.length ≤ 9223372036854775807 := hf.1
  have hwl : Lw.w l = wL l := rfl
  rw [hwl]
  refine ret_W rfl Tryz.func54 rfl rfl (by simp [Tryz.f54]) ?_
  simp only [Tryz.f54]
  have hw : IntKind.i64.wrap (left - l.length) = left - l.length := wrap_ok (by omega) (by omega)
  repeat' first|refine W_seq ?_|refine W_block ?_|refine W_skip ?_|refine W_ret ?_|refine W_exit ?_|refine xb_hit ?_|refine xb_miss (by decide) ?_|(apply W_reg;(simp [hw];exact .r _))
  refine W_cond (by simp; exact .r _) (fun hc => ?_) (fun hc => ?_)
  · repeat' first|refine W_seq ?_|refine W_block ?_|refine W_skip ?_|refine W_ret ?_|refine W_exit ?_|refine xb_hit ?_|refine xb_miss (by decide) ?_|(apply W_reg;(simp;exact .r _))
    have hgt : ¬ (l.length : Int) ≤ left := by simp at hc; omega
    have : ¬ ((wL l : Nat) : Int) ≤ left := by unfold wL; omega
    simp [szA, this]
  have hle : (l.length : Int) ≤ left := by simp at hc; omega
  repeat' first|refine W_seq ?_|refine W_block ?_|refine W_skip ?_|refine W_ret ?_|refine W_exit ?_|refine xb_hit ?_|refine xb_miss (by decide) ?_|(apply W_reg;(simp;exact .r _))
  refine W_loop (n := l.length) (fun n s => ∃ i : Nat, ∃ r : Int, n = l.length - i ∧ s.nt = 27 ∧ s.tm 0 = Ar l ∧ s.tm 1 = In r ∧ s.tm 5 = In i ∧ i ≤ l.length ∧ 0 ≤ r ∧ r = left - l.length - ((l.take i).map Lw.w).sum) ⟨0, left - l.length, by simp <;> omega⟩ ?_
  rintro n ⟨nt, tm, σ⟩ ⟨i, r, rfl, hnt, h0, h1, h5, hi, hr, hre⟩
  simp only at hnt h0 h1 h5
  subst hnt
  repeat' first|refine W_seq ?_|refine W_block ?_|refine W_skip ?_|refine W_ret ?_|refine W_exit ?_|refine xb_hit ?_|refine xb_miss (by decide) ?_|(apply W_reg;(simp [h0, h1, h5];exact .r _))
  have hsplit : wL l = l.length + ((l.take i).map Lw.w).sum + ((l.drop i).map Lw.w).sum := by
    have := wL_split l i; unfold wL; omega
  refine W_cond (by simp [h0, h1, h5]; exact .r _) (fun hc => ?_) (fun hc => ?_)
  · have hil : i < l.length := by simp at hc; omega
    have hcc := cv (szFact_r l[i] r hr (by omega) (hf.2 _ (List.getElem_mem hil)))
    simp only [Ag, cells_RA, List.map_cons, List.map_nil] at hcc
    repeat' first|refine W_seq ?_|refine W_block ?_|refine W_skip ?_|refine W_ret ?_|refine W_exit ?_|refine xb_hit ?_|refine xb_miss (by decide) ?_|(apply W_reg;(simp [h0, h1, h5, hil, hcc];exact .r _))
    have hd : ((l.drop i).map Lw.w).sum = Lw.w l[i] + ((l.drop (i + 1)).map Lw.w).sum := by rw [List.drop_eq_getElem_cons hil, List.map_cons, List.sum_cons]
    have ht := wL_take l i hil
    by_cases h : ((Lw.w l[i] : Nat) : Int) ≤ r
    · have h' : szA (Lw.w l[i]) r = r - Lw.w l[i] := by simp [szA, h]
      refine W_cond (by simp [h0, h1, h5]; exact .r _) (fun he => ?_) (fun he => ?_)
      · rw [h'] at he; simp at he; omega
      · repeat' first|refine W_seq ?_|refine W_block ?_|refine W_skip ?_|refine W_ret ?_|refine W_exit ?_|refine xb_hit ?_|refine xb_miss (by decide) ?_|(apply W_reg;(simp [h0, h1, h5];exact .r _))
        refine ⟨_, ?_, i + 1, szA (Lw.w l[i]) r, rfl, rfl, ?_, ?_, ?_, by omega, by (rw [h']; omega), by (rw [h', ht]; omega)⟩
        all_goals first|assumption|(simp [h0, h1, h5];done)|(simp [h0, h1, h5];omega)|(simp [h0, h1, h5];exact wrap_succ (by omega))|omega
    · refine W_cond (by simp [h0, h1, h5]; exact .r _) (fun he => ?_) (fun he => ?_)
      · repeat' first|refine W_seq ?_|refine W_block ?_|refine W_skip ?_|refine W_ret ?_|refine W_exit ?_|refine xb_hit ?_|refine xb_miss (by decide) ?_|(apply W_reg;(simp [h0, h1, h5];exact .r _))
        have : ¬ ((wL l : Nat) : Int) ≤ left := by rw [hsplit, hd]; omega
        simp [szA, this]
      · exfalso
        have h' : szA (Lw.w l[i]) r = -1 := by unfold szA; rw [if_neg h]
        rw [h'] at he; simp at he
  · have hil : i = l.length := by simp at hc; omega
    subst hil
    repeat' first|refine W_seq ?_|refine W_block ?_|refine W_skip ?_|refine W_ret ?_|refine W_exit ?_|refine xb_hit ?_|refine xb_miss (by decide) ?_|(apply W_reg;(simp [h0, h1, h5];exact .r _))
    rw [List.drop_length] at hsplit
    simp only [List.map_nil, List.sum_nil, Nat.add_zero] at hsplit
    have : ((wL l : Nat) : Int) ≤ left := by rw [hsplit]; omega
    have h9 : szA (wL l) left = r := by rw [szA, if_pos this, hsplit]; omega
    simp [h9]
theorem toFactS_r (l : List (RA)) (hl : Lw.bd 1048576 l) : Ret XX 59 [Ar l] (.own 2 (rowsE l)) := by
  have hn := hl.1
  refine ret_W rfl Tryz.func59 rfl rfl (by simp [Tryz.f59]) ?_
  simp only [Tryz.f59]
  repeat' first|refine W_seq ?_|refine W_block ?_|refine W_skip ?_|refine W_ret ?_|refine W_exit ?_|refine xb_hit ?_|refine xb_miss (by decide) ?_|(apply W_reg;(simp [show l.length < 1099511627776 by omega];exact .r _))
  refine W_loop (n := l.length) (fun n s => ∃ i : Nat, ∃ st : Nat, n = l.length - i ∧ s.nt = 23 ∧ s.tm 0 = Ar l ∧ s.tm 3 = .ref 0 l.length [] ∧ s.tm 4 = In i ∧ i ≤ l.length ∧ s.σ.ob 0 = .arr (.own 0) st 2 (rowsE (l.take i ++ List.replicate (l.length - i) (⟨0, []⟩ : RA))) ∧ 1 ≤ s.σ.n) ⟨0, 0, by simp [rowsE]⟩ ?_
  rintro n ⟨nt, tm, σ⟩ ⟨i, st, rfl, hnt, h0, h3, h4, hi, ho, hn1⟩
  simp only at hnt h0 h3 h4 ho hn1
  subst hnt
  repeat' first|refine W_seq ?_|refine W_block ?_|refine W_skip ?_|refine W_ret ?_|refine W_exit ?_|refine xb_hit ?_|refine xb_miss (by decide) ?_|(apply W_reg;(simp [h0, h3, h4, ho, hn1];exact .r _))
  refine W_cond (by simp [h0, h3, h4, ho, hn1]; exact .r _) (fun hc => ?_) (fun hc => ?_)
  · have hil : i < l.length := by simpa using hc
    have hle : i ≤ l.length := hi
    have e0 : ¬ (0 = σ.n) := by omega
    have e0' : ¬ (σ.n = 0) := by omega
    have hg : (rowsE (l.take i ++ List.replicate (l.length - i) (⟨0, []⟩ : RA)))[i]? = some (Enc.cells (⟨0, []⟩ : RA)) := fill_get l _ i hil
    have hfs := fill_set l (⟨0, []⟩ : RA) i hil
    have hrl : (rowsE (l.take i ++ List.replicate (l.length - i) (⟨0, []⟩ : RA))).length = l.length := fill_len l _ i hi
    simp only [cells_RA, rowsE_nil] at hg
    have hcc := cv (toFact_r l[i] (hl.2 _ (List.getElem_mem hil)))
    simp only [Ag, cells_RA, List.map_cons, List.map_nil] at hcc
    repeat' first|refine W_seq ?_|refine W_block ?_|refine W_skip ?_|refine W_ret ?_|refine W_exit ?_|refine xb_hit ?_|refine xb_miss (by decide) ?_|(apply W_reg;(simp [h0, h3, h4, ho, hn1, hil, hg, hrl, hle, hcc, e0, e0'];exact .r _))
    refine ⟨_, ?_, i + 1, st + 1, rfl, rfl, ?_, ?_, ?_, by omega, by (simp [e0, e0']; rw [← hfs, rowsE_set]; rfl), ?_⟩
    all_goals first|assumption|(simp [h0, h3, h4, ho, hn1, e0, e0'];done)|(simp [h0, h3, h4, ho, hn1, e0, e0'];omega)|(simp [h0, h3, h4, ho, hn1, e0, e0'];exact wrap_succ (by omega))|omega
  · have hil : i = l.length := by simp at hc; omega
    subst hil
    repeat' first|refine W_seq ?_|refine W_block ?_|refine W_skip ?_|refine W_ret ?_|refine W_exit ?_|refine xb_hit ?_|refine xb_miss (by decide) ?_|(apply W_reg;(simp [h0, h3, h4, ho, hn1];exact .r _))
    simp [ho]
theorem eqFactS_r (a b : List (RA)) (hl : Lw.bd 1048576 a) : Ret XX 64 [Ar a, Ar b] (.t (.b (decide (a = b))) false) := by
  have hn := hl.1
  refine ret_W rfl Tryz.func64 rfl rfl (by simp [Tryz.f64]) ?_
  simp only [Tryz.f64]
  repeat' first|refine W_seq ?_|refine W_block ?_|refine W_skip ?_|refine W_ret ?_|refine W_exit ?_|refine xb_hit ?_|refine xb_miss (by decide) ?_|(apply W_reg;(simp;exact .r _))
  refine W_cond (by simp; exact .r _) (fun hc => ?_) (fun hc => ?_)
  · repeat' first|refine W_seq ?_|refine W_block ?_|refine W_skip ?_|refine W_ret ?_|refine W_exit ?_|refine xb_hit ?_|refine xb_miss (by decide) ?_|(apply W_reg;(simp;exact .r _))
    have : a ≠ b := fun e => by subst e; simp at hc
    simp [this]
  have hll : a.length = b.length := by simp at hc; omega
  repeat' first|refine W_seq ?_|refine W_block ?_|refine W_skip ?_|refine W_ret ?_|refine W_exit ?_|refine xb_hit ?_|refine xb_miss (by decide) ?_|(apply W_reg;(simp;exact .r _))
  refine W_loop (n := a.length) (fun n s => ∃ i : Nat, n = a.length - i ∧ s.nt = 27 ∧ s.tm 0 = Ar a ∧ s.tm 1 = Ar b ∧ s.tm 5 = In i ∧ i ≤ a.length ∧ a.take i = b.take i) ⟨0, by simp⟩ ?_
  rintro n ⟨nt, tm, σ⟩ ⟨i, rfl, hnt, h0, h1, h5, hi, heq⟩
  simp only at hnt h0 h1 h5
  subst hnt
  repeat' first|refine W_seq ?_|refine W_block ?_|refine W_skip ?_|refine W_ret ?_|refine W_exit ?_|refine xb_hit ?_|refine xb_miss (by decide) ?_|(apply W_reg;(simp [h0, h1, h5];exact .r _))
  refine W_cond (by simp [h0, h1, h5]; exact .r _) (fun hc => ?_) (fun hc => ?_)
  · have hia : i < a.length := by simpa using hc
    have hib : i < b.length := by omega
    have hcc := cv (eqFact_r a[i] b[i] (hl.2 _ (List.getElem_mem hia)))
    simp only [Ag, cells_RA, List.map_cons, List.map_nil] at hcc
    repeat' first|refine W_seq ?_|refine W_block ?_|refine W_skip ?_|refine W_ret ?_|refine W_exit ?_|refine xb_hit ?_|refine xb_miss (by decide) ?_|(apply W_reg;(simp [h0, h1, h5, hia, hib, hcc];exact .r _))|(apply W_draw (id := 6) [0,0,3,7,0,0,48,112,255,511] rfl rfl; (· simp; exact .r _); (· simp [h0, h1, h5, hia, hib, hcc]; exact .r _); (· first|trivial|simp))
    refine W_cond (by simp [h0, h1, h5]; exact .r _) (fun hd => ?_) (fun hd => ?_)
    · repeat' first|refine W_seq ?_|refine W_block ?_|refine W_skip ?_|refine W_ret ?_|refine W_exit ?_|refine xb_hit ?_|refine xb_miss (by decide) ?_|(apply W_reg;(simp [h0, h1, h5];exact .r _))
      have : a ≠ b := fun e => by subst e; simp at hd
      simp [this]
    · have hd : a[i] = b[i] := by simpa using hd
      repeat' first|refine W_seq ?_|refine W_block ?_|refine W_skip ?_|refine W_ret ?_|refine W_exit ?_|refine xb_hit ?_|refine xb_miss (by decide) ?_|(apply W_reg;(simp [h0, h1, h5];exact .r _))
      refine ⟨_, ?_, i + 1, rfl, rfl, ?_, ?_, ?_, by omega, by rw [List.take_succ_eq_append_getElem hia, List.take_succ_eq_append_getElem hib, heq, hd]⟩
      all_goals first|assumption|(simp [h0, h1, h5];done)|(simp [h0, h1, h5];omega)|(simp [h0, h1, h5];exact wrap_succ (by omega))|omega
  · have hil : i = a.length := by simp at hc; omega
    subst hil
    repeat' first|refine W_seq ?_|refine W_block ?_|refine W_skip ?_|refine W_ret ?_|refine W_exit ?_|refine xb_hit ?_|refine xb_miss (by decide) ?_|(apply W_reg;(simp [h0, h1, h5];exact .r _))
    rw [List.take_length, hll, List.take_length] at heq
    have : a = b := heq
    simp [this]
theorem szQuery_r (a : Qry) (left : Int) (h0 : 0 ≤ left) (h1 : left ≤ 1048576) (hf : Fit a) : Ret XX 53 [Ag a, In left] (.t (.i .i64 (szA (Lw.w a) left)) false) := by
  refine ret_W rfl Tryz.func53 rfl rfl (by simp [Tryz.f53]) ?_
  simp only [Tryz.f53]
  have c0 := fun (r : Int) (g0 : 0 ≤ r) (g1 : r ≤ 1048576) => cv (szIntS_r a.head r g0 g1 hf.1)
  have c1 := fun (r : Int) (g0 : 0 ≤ r) (g1 : r ≤ 1048576) => cv (szAtomS_r a.body r g0 g1 hf.2)
  have hw : Lw.w a = Lw.w a.head + Lw.w a.body := rfl
  have d0 := c0 (left) (by omega) (by omega)
  repeat' first|refine W_seq ?_|refine W_block ?_|refine W_skip ?_|refine W_ret ?_|refine W_exit ?_|refine xb_hit ?_|refine xb_miss (by decide) ?_|(apply W_reg;(simp [Ag, d0];exact .r _))
  by_cases e0 : ((Lw.w a.head : Nat) : Int) ≤ left
  case neg =>
    have s0 : szA (Lw.w a.head) (left) = -1 := by unfold szA; rw [if_neg e0]
    have s9 : szA (Lw.w a) left = -1 := by unfold szA; rw [hw, if_neg (by omega)]
    refine W_cond (by simp; exact .r _) (fun hc => ?_) (fun hc => ?_)
    · repeat' first|refine W_seq ?_|refine W_block ?_|refine W_skip ?_|refine W_ret ?_|refine W_exit ?_|refine xb_hit ?_|refine xb_miss (by decide) ?_|(apply W_reg;(simp;exact .r _))
      rw [s9]; simp
    · exfalso; revert hc; rw [s0]; simp
  have s0 : szA (Lw.w a.head) (left) = left - (Lw.w a.head : Nat) := by unfold szA; rw [if_pos e0]
  refine W_cond (by simp; exact .r _) (fun hc => ?_) (fun hc => ?_)
  · exfalso; revert hc; rw [s0]; simp; omega
  have d1 := c1 (left - (Lw.w a.head : Nat)) (by omega) (by omega)
  repeat' first|refine W_seq ?_|refine W_block ?_|refine W_skip ?_|refine W_ret ?_|refine W_exit ?_|refine xb_hit ?_|refine xb_miss (by decide) ?_|(apply W_reg;(simp [Ag, d1, s0];exact .r _))
  by_cases e1 : ((Lw.w a.body : Nat) : Int) ≤ left - (Lw.w a.head : Nat)
  case neg =>
    have s1 : szA (Lw.w a.body) (left - (Lw.w a.head : Nat)) = -1 := by unfold szA; rw [if_neg e1]
    have s9 : szA (Lw.w a) left = -1 := by unfold szA; rw [hw, if_neg (by omega)]
    refine W_cond (by simp; exact .r _) (fun hc => ?_) (fun hc => ?_)
    · repeat' first|refine W_seq ?_|refine W_block ?_|refine W_skip ?_|refine W_ret ?_|refine W_exit ?_|refine xb_hit ?_|refine xb_miss (by decide) ?_|(apply W_reg;(simp;exact .r _))
      rw [s9]; simp
    · exfalso; revert hc; rw [s1]; simp
  have s1 : szA (Lw.w a.body) (left - (Lw.w a.head : Nat)) = left - (Lw.w a.head : Nat) - (Lw.w a.body : Nat) := by unfold szA; rw [if_pos e1]
  refine W_cond (by simp; exact .r _) (fun hc => ?_) (fun hc => ?_)
  · exfalso; revert hc; rw [s1]; simp; omega
  repeat' first|refine W_seq ?_|refine W_block ?_|refine W_skip ?_|refine W_ret ?_|refine W_exit ?_|refine xb_hit ?_|refine xb_miss (by decide) ?_|(apply W_reg;(simp [s0, s1];exact .r _))
  have s9 : szA (Lw.w a) left = left - (Lw.w a.head : Nat) - (Lw.w a.body : Nat) := by unfold szA; (rw [hw, if_pos (by omega)]) <;> omega
  rw [s9]; simp [s0, s1]
theorem toQuery_r (a : Qry) (hl : Lw.bd 1048576 a) : Ret XX 58 [Ag a] (.agg [.own 1 (rowsE a.head), .own 2 (rowsE a.body)]) := by
  refine ret_W rfl Tryz.func58 rfl rfl (by simp [Tryz.f58]) ?_
  simp only [Tryz.f58]
  have c0 := cv (toIntS_r a.head hl.1)
  have c1 := cv (toAtomS_r a.body hl.2)
  repeat' first|refine W_seq ?_|refine W_block ?_|refine W_skip ?_|refine W_ret ?_|refine W_exit ?_|refine xb_hit ?_|refine xb_miss (by decide) ?_|(apply W_reg;(simp [Ag, c0, c1];exact .r _))
  simp
theorem eqQuery_r (a b : Qry) (hl : Lw.bd 1048576 a) : Ret XX 63 [Ag a, Ag b] (.t (.b (decide (a = b))) false) := by
  refine ret_W rfl Tryz.func63 rfl rfl (by simp [Tryz.f63]) ?_
  simp only [Tryz.f63]
  have c0 := cv (eqIntS_r a.head b.head hl.1)
  have c1 := cv (eqAtomS_r a.body b.body hl.2)
  repeat' first|refine W_seq ?_|refine W_block ?_|refine W_skip ?_|refine W_ret ?_|refine W_exit ?_|refine xb_hit ?_|refine xb_miss (by decide) ?_|(apply W_reg;(simp [Ag, c0, c1];exact .r _))
  refine W_cond (by simp; exact .r _) (fun hc => ?_) (fun hc => ?_)
  · repeat' first|refine W_seq ?_|refine W_block ?_|refine W_skip ?_|refine W_ret ?_|refine W_exit ?_|refine xb_hit ?_|refine xb_miss (by decide) ?_|(apply W_reg;(simp;exact .r _))
    have : a ≠ b := fun e => by subst e; simp at hc
    simp [this]
  have e0 : a.head = b.head := by simpa using hc
  clear hc
  repeat' first|refine W_seq ?_|refine W_block ?_|refine W_skip ?_|refine W_ret ?_|refine W_exit ?_|refine xb_hit ?_|refine xb_miss (by decide) ?_|(apply W_reg;(simp [Ag, c0, c1];exact .r _))
  refine W_cond (by simp; exact .r _) (fun hc => ?_) (fun hc => ?_)
  · repeat' first|refine W_seq ?_|refine W_block ?_|refine W_skip ?_|refine W_ret ?_|refine W_exit ?_|refine xb_hit ?_|refine xb_miss (by decide) ?_|(apply W_reg;(simp;exact .r _))
    have : a ≠ b := fun e => by subst e; simp at hc
    simp [this]
  have e1 : a.body = b.body := by simpa using hc
  clear hc
  repeat' first|refine W_seq ?_|refine W_block ?_|refine W_skip ?_|refine W_ret ?_|refine W_exit ?_|refine xb_hit ?_|refine xb_miss (by decide) ?_|(apply W_reg;(simp;exact .r _))
  have : a = b := by cases a; cases b; simp only at e0 e1; simp [e0, e1]
  simp [this]
theorem szQueryS_r (l : List (Qry)) (left : Int) (h0 : 0 ≤ left) (h1 : left ≤ 1048576) (hf : Fit l) : Ret XX 82 [Ar l, In left] (.t (.i .i64 (szA (Lw.w l) left)) false) := by
  have hl : l.length ≤ 9223372036854775807 := hf.1
  have hwl : Lw.w l = wL l := rfl
  rw [hwl]
  refine ret_W rfl Tryz.func82 rfl rfl (by simp [Tryz.f82]) ?_
  simp only [Tryz.f82]
  have hw : IntKind.i64.wrap (left - l.length) = left - l.length := wrap_ok (by omega) (by omega)
  repeat' first|refine W_seq ?_|refine W_block ?_|refine W_skip ?_|refine W_ret ?_|refine W_exit ?_|refine xb_hit ?_|refine xb_miss (by decide) ?_|(apply W_reg;(simp [hw];exact .r _))
  refine W_cond (by simp; exact .r _) (fun hc => ?_) (fun hc => ?_)
  · repeat' first|refine W_seq ?_|refine W_block ?_|refine W_skip ?_|refine W_ret ?_|refine W_exit ?_|refine xb_hit ?_|refine xb_miss (by decide) ?_|(apply W_reg;(simp;exact .r _))
    have hgt : ¬ (l.length : Int) ≤ left := by simp at hc; omega
    have : ¬ ((wL l : Nat) : Int) ≤ left := by unfold wL; omega
    simp [szA, this]
  have hle : (l.length : Int) ≤ left := by simp at hc; omega
  repeat' first|refine W_seq ?_|refine W_block ?_|refine W_skip ?_|refine W_ret ?_|refine W_exit ?_|refine xb_hit ?_|refine xb_miss (by decide) ?_|(apply W_reg;(simp;exact .r _))
  refine W_loop (n := l.length) (fun n s => ∃ i : Nat, ∃ r : Int, n = l.length - i ∧ s.nt = 27 ∧ s.tm 0 = Ar l ∧ s.tm 1 = In r ∧ s.tm 5 = In i ∧ i ≤ l.length ∧ 0 ≤ r ∧ r = left - l.length - ((l.take i).map Lw.w).sum) ⟨0, left - l.length, by simp <;> omega⟩ ?_
  rintro n ⟨nt, tm, σ⟩ ⟨i, r, rfl, hnt, h0, h1, h5, hi, hr, hre⟩
  simp only at hnt h0 h1 h5
  subst hnt
  repeat' first|refine W_seq ?_|refine W_block ?_|refine W_skip ?_|refine W_ret ?_|refine W_exit ?_|refine xb_hit ?_|refine xb_miss (by decide) ?_|(apply W_reg;(simp [h0, h1, h5];exact .r _))
  have hsplit : wL l = l.length + ((l.take i).map Lw.w).sum + ((l.drop i).map Lw.w).sum := by
    have := wL_split l i; unfold wL; omega
  refine W_cond (by simp [h0, h1, h5]; exact .r _) (fun hc => ?_) (fun hc => ?_)
  · have hil : i < l.length := by simp at hc; omega
    have hcc := cv (szQuery_r l[i] r hr (by omega) (hf.2 _ (List.getElem_mem hil)))
    simp only [Ag, cells_Q, List.map_cons, List.map_nil] at hcc
    repeat' first|refine W_seq ?_|refine W_block ?_|refine W_skip ?_|refine W_ret ?_|refine W_exit ?_|refine xb_hit ?_|refine xb_miss (by decide) ?_|(apply W_reg;(simp [h0, h1, h5, hil, hcc];exact .r _))
    have hd : ((l.drop i).map Lw.w).sum = Lw.w l[i] + ((l.drop (i + 1)).map Lw.w).sum := by rw [List.drop_eq_getElem_cons hil, List.map_cons, List.sum_cons]
    have ht := wL_take l i hil
    by_cases h : ((Lw.w l[i] : Nat) : Int) ≤ r
    · have h' : szA (Lw.w l[i]) r = r - Lw.w l[i] := by simp [szA, h]
      refine W_cond (by simp [h0, h1, h5]; exact .r _) (fun he => ?_) (fun he => ?_)
      · rw [h'] at he; simp at he; omega
      · repeat' first|refine W_seq ?_|refine W_block ?_|refine W_skip ?_|refine W_ret ?_|refine W_exit ?_|refine xb_hit ?_|refine xb_miss (by decide) ?_|(apply W_reg;(simp [h0, h1, h5];exact .r _))
        refine ⟨_, ?_, i + 1, szA (Lw.w l[i]) r, rfl, rfl, ?_, ?_, ?_, by omega, by (rw [h']; omega), by (rw [h', ht]; omega)⟩
        all_goals first|assumption|(simp [h0, h1, h5];done)|(simp [h0, h1, h5];omega)|(simp [h0, h1, h5];exact wrap_succ (by omega))|omega
    · refine W_cond (by simp [h0, h1, h5]; exact .r _) (fun he => ?_) (fun he => ?_)
      · repeat' first|refine W_seq ?_|refine W_block ?_|refine W_skip ?_|refine W_ret ?_|refine W_exit ?_|refine xb_hit ?_|refine xb_miss (by decide) ?_|(apply W_reg;(simp [h0, h1, h5];exact .r _))
        have : ¬ ((wL l : Nat) : Int) ≤ left := by rw [hsplit, hd]; omega
        simp [szA, this]
      · exfalso
        have h' : szA (Lw.w l[i]) r = -1 := by unfold szA; rw [if_neg h]
        rw [h'] at he; simp at he
  · have hil : i = l.length := by simp at hc; omega
    subst hil
    repeat' first|refine W_seq ?_|refine W_block ?_|refine W_skip ?_|refine W_ret ?_|refine W_exit ?_|refine xb_hit ?_|refine xb_miss (by decide) ?_|(apply W_reg;(simp [h0, h1, h5];exact .r _))
    rw [List.drop_length] at hsplit
    simp only [List.map_nil, List.sum_nil, Nat.add_zero] at hsplit
    have : ((wL l : Nat) : Int) ≤ left := by rw [hsplit]; omega
    have h9 : szA (wL l) left = r := by rw [szA, if_pos this, hsplit]; omega
    simp [h9]
theorem toQueryS_r (l : List (Qry)) (hl : Lw.bd 1048576 l) : Ret XX 84 [Ar l] (.own 2 (rowsE l)) := by
  have hn := hl.1
  refine ret_W rfl Tryz.func84 rfl rfl (by simp [Tryz.f84]) ?_
  simp only [Tryz.f84]
  repeat' first|refine W_seq ?_|refine W_block ?_|refine W_skip ?_|refine W_ret ?_|refine W_exit ?_|refine xb_hit ?_|refine xb_miss (by decide) ?_|(apply W_reg;(simp [show l.length < 1099511627776 by omega];exact .r _))
  refine W_loop (n := l.length) (fun n s => ∃ i : Nat, ∃ st : Nat, n = l.length - i ∧ s.nt = 23 ∧ s.tm 0 = Ar l ∧ s.tm 3 = .ref 0 l.length [] ∧ s.tm 4 = In i ∧ i ≤ l.length ∧ s.σ.ob 0 = .arr (.own 0) st 2 (rowsE (l.take i ++ List.replicate (l.length - i) (⟨[], []⟩ : Qry))) ∧ 1 ≤ s.σ.n) ⟨0, 0, by simp [rowsE]⟩ ?_
  rintro n ⟨nt, tm, σ⟩ ⟨i, st, rfl, hnt, h0, h3, h4, hi, ho, hn1⟩
  simp only at hnt h0 h3 h4 ho hn1
  subst hnt
  repeat' first|refine W_seq ?_|refine W_block ?_|refine W_skip ?_|refine W_ret ?_|refine W_exit ?_|refine xb_hit ?_|refine xb_miss (by decide) ?_|(apply W_reg;(simp [h0, h3, h4, ho, hn1];exact .r _))
  refine W_cond (by simp [h0, h3, h4, ho, hn1]; exact .r _) (fun hc => ?_) (fun hc => ?_)
  · have hil : i < l.length := by simpa using hc
    have hle : i ≤ l.length := hi
    have e0 : ¬ (0 = σ.n) := by omega
    have e0' : ¬ (σ.n = 0) := by omega
    have hg : (rowsE (l.take i ++ List.replicate (l.length - i) (⟨[], []⟩ : Qry)))[i]? = some (Enc.cells (⟨[], []⟩ : Qry)) := fill_get l _ i hil
    have hfs := fill_set l (⟨[], []⟩ : Qry) i hil
    have hrl : (rowsE (l.take i ++ List.replicate (l.length - i) (⟨[], []⟩ : Qry))).length = l.length := fill_len l _ i hi
    simp only [cells_Q, rowsE_nil] at hg
    have hcc := cv (toQuery_r l[i] (hl.2 _ (List.getElem_mem hil)))
    simp only [Ag, cells_Q, List.map_cons, List.map_nil] at hcc
    repeat' first|refine W_seq ?_|refine W_block ?_|refine W_skip ?_|refine W_ret ?_|refine W_exit ?_|refine xb_hit ?_|refine xb_miss (by decide) ?_|(apply W_reg;(simp [h0, h3, h4, ho, hn1, hil, hg, hrl, hle, hcc, e0, e0'];exact .r _))
    refine ⟨_, ?_, i + 1, st + 1, rfl, rfl, ?_, ?_, ?_, by omega, by (simp [e0, e0']; rw [← hfs, rowsE_set]; rfl), ?_⟩
    all_goals first|assumption|(simp [h0, h3, h4, ho, hn1, e0, e0'];done)|(simp [h0, h3, h4, ho, hn1, e0, e0'];omega)|(simp [h0, h3, h4, ho, hn1, e0, e0'];exact wrap_succ (by omega))|omega
  · have hil : i = l.length := by simp at hc; omega
    subst hil
    repeat' first|refine W_seq ?_|refine W_block ?_|refine W_skip ?_|refine W_ret ?_|refine W_exit ?_|refine xb_hit ?_|refine xb_miss (by decide) ?_|(apply W_reg;(simp [h0, h3, h4, ho, hn1];exact .r _))
    simp [ho]
theorem eqQueryS_r (a b : List (Qry)) (hl : Lw.bd 1048576 a) : Ret XX 87 [Ar a, Ar b] (.t (.b (decide (a = b))) false) := by
  have hn := hl.1
  refine ret_W rfl Tryz.func87 rfl rfl (by simp [Tryz.f87]) ?_
  simp only [Tryz.f87]
  repeat' first|refine W_seq ?_|refine W_block ?_|refine W_skip ?_|refine W_ret ?_|refine W_exit ?_|refine xb_hit ?_|refine xb_miss (by decide) ?_|(apply W_reg;(simp;exact .r _))
  refine W_cond (by simp; exact .r _) (fun hc => ?_) (fun hc => ?_)
  · repeat' first|refine W_seq ?_|refine W_block ?_|refine W_skip ?_|refine W_ret ?_|refine W_exit ?_|refine xb_hit ?_|refine xb_miss (by decide) ?_|(apply W_reg;(simp;exact .r _))
    have : a ≠ b := fun e => by subst e; simp at hc
    simp [this]
  have hll : a.length = b.length := by simp at hc; omega
  repeat' first|refine W_seq ?_|refine W_block ?_|refine W_skip ?_|refine W_ret ?_|refine W_exit ?_|refine xb_hit ?_|refine xb_miss (by decide) ?_|(apply W_reg;(simp;exact .r _))
  refine W_loop (n := a.length) (fun n s => ∃ i : Nat, n = a.length - i ∧ s.nt = 27 ∧ s.tm 0 = Ar a ∧ s.tm 1 = Ar b ∧ s.tm 5 = In i ∧ i ≤ a.length ∧ a.take i = b.take i) ⟨0, by simp⟩ ?_
  rintro n ⟨nt, tm, σ⟩ ⟨i, rfl, hnt, h0, h1, h5, hi, heq⟩
  simp only at hnt h0 h1 h5
  subst hnt
  repeat' first|refine W_seq ?_|refine W_block ?_|refine W_skip ?_|refine W_ret ?_|refine W_exit ?_|refine xb_hit ?_|refine xb_miss (by decide) ?_|(apply W_reg;(simp [h0, h1, h5];exact .r _))
  refine W_cond (by simp [h0, h1, h5]; exact .r _) (fun hc => ?_) (fun hc => ?_)
  · have hia : i < a.length := by simpa using hc
    have hib : i < b.length := by omega
    have hcc := cv (eqQuery_r a[i] b[i] (hl.2 _ (List.getElem_mem hia)))
    simp only [Ag, cells_Q, List.map_cons, List.map_nil] at hcc
    repeat' first|refine W_seq ?_|refine W_block ?_|refine W_skip ?_|refine W_ret ?_|refine W_exit ?_|refine xb_hit ?_|refine xb_miss (by decide) ?_|(apply W_reg;(simp [h0, h1, h5, hia, hib, hcc];exact .r _))|(apply W_draw (id := 6) [0,0,3,7,0,0,48,112,255,511] rfl rfl; (· simp; exact .r _); (· simp [h0, h1, h5, hia, hib, hcc]; exact .r _); (· first|trivial|simp))
    refine W_cond (by simp [h0, h1, h5]; exact .r _) (fun hd => ?_) (fun hd => ?_)
    · repeat' first|refine W_seq ?_|refine W_block ?_|refine W_skip ?_|refine W_ret ?_|refine W_exit ?_|refine xb_hit ?_|refine xb_miss (by decide) ?_|(apply W_reg;(simp [h0, h1, h5];exact .r _))
      have : a ≠ b := fun e => by subst e; simp at hd
      simp [this]
    · have hd : a[i] = b[i] := by simpa using hd
      repeat' first|refine W_seq ?_|refine W_block ?_|refine W_skip ?_|refine W_ret ?_|refine W_exit ?_|refine xb_hit ?_|refine xb_miss (by decide) ?_|(apply W_reg;(simp [h0, h1, h5];exact .r _))
      refine ⟨_, ?_, i + 1, rfl, rfl, ?_, ?_, ?_, by omega, by rw [List.take_succ_eq_append_getElem hia, List.take_succ_eq_append_getElem hib, heq, hd]⟩
      all_goals first|assumption|(simp [h0, h1, h5];done)|(simp [h0, h1, h5];omega)|(simp [h0, h1, h5];exact wrap_succ (by omega))|omega
  · have hil : i = a.length := by simp at hc; omega
    subst hil
    repeat' first|refine W_seq ?_|refine W_block ?_|refine W_skip ?_|refine W_ret ?_|refine W_exit ?_|refine xb_hit ?_|refine xb_miss (by decide) ?_|(apply W_reg;(simp [h0, h1, h5];exact .r _))
    rw [List.take_length, hll, List.take_length] at heq
    have : a = b := heq
    simp [this]
theorem szSchema_r (a : Sch) (left : Int) (h0 : 0 ≤ left) (h1 : left ≤ 1048576) (hf : Fit a) : Ret XX 52 [Ag a, In left] (.t (.i .i64 (szA (Lw.w a) left)) false) := by
  refine ret_W rfl Tryz.func52 rfl rfl (by simp [Tryz.f52]) ?_
  simp only [Tryz.f52]
  have c0 := fun (r : Int) (g0 : 0 ≤ r) (g1 : r ≤ 1048576) => cv (szIntS_r a.arity r g0 g1 hf)
  have hw : Lw.w a = Lw.w a.arity := rfl
  have d0 := c0 (left) (by omega) (by omega)
  repeat' first|refine W_seq ?_|refine W_block ?_|refine W_skip ?_|refine W_ret ?_|refine W_exit ?_|refine xb_hit ?_|refine xb_miss (by decide) ?_|(apply W_reg;(simp [Ag, d0];exact .r _))
  by_cases e0 : ((Lw.w a.arity : Nat) : Int) ≤ left
  case neg =>
    have s0 : szA (Lw.w a.arity) (left) = -1 := by unfold szA; rw [if_neg e0]
    have s9 : szA (Lw.w a) left = -1 := by unfold szA; rw [hw, if_neg (by omega)]
    refine W_cond (by simp; exact .r _) (fun hc => ?_) (fun hc => ?_)
    · repeat' first|refine W_seq ?_|refine W_block ?_|refine W_skip ?_|refine W_ret ?_|refine W_exit ?_|refine xb_hit ?_|refine xb_miss (by decide) ?_|(apply W_reg;(simp;exact .r _))
      rw [s9]; simp
    · exfalso; revert hc; rw [s0]; simp
  have s0 : szA (Lw.w a.arity) (left) = left - (Lw.w a.arity : Nat) := by unfold szA; rw [if_pos e0]
  refine W_cond (by simp; exact .r _) (fun hc => ?_) (fun hc => ?_)
  · exfalso; revert hc; rw [s0]; simp; omega
  repeat' first|refine W_seq ?_|refine W_block ?_|refine W_skip ?_|refine W_ret ?_|refine W_exit ?_|refine xb_hit ?_|refine xb_miss (by decide) ?_|(apply W_reg;(simp [s0];exact .r _))
  have s9 : szA (Lw.w a) left = left - (Lw.w a.arity : Nat) := by unfold szA; (rw [hw, if_pos (by omega)]) <;> omega
  rw [s9]; simp [s0]
theorem toSchema_r (a : Sch) (hl : Lw.bd 1048576 a) : Ret XX 57 [Ag a] (.agg [.own 1 (rowsE a.arity)]) := by
  refine ret_W rfl Tryz.func57 rfl rfl (by simp [Tryz.f57]) ?_
  simp only [Tryz.f57]
  have c0 := cv (toIntS_r a.arity hl)
  repeat' first|refine W_seq ?_|refine W_block ?_|refine W_skip ?_|refine W_ret ?_|refine W_exit ?_|refine xb_hit ?_|refine xb_miss (by decide) ?_|(apply W_reg;(simp [Ag, c0];exact .r _))
  simp
theorem eqSchema_r (a b : Sch) (hl : Lw.bd 1048576 a) : Ret XX 62 [Ag a, Ag b] (.t (.b (decide (a = b))) false) := by
  refine ret_W rfl Tryz.func62 rfl rfl (by simp [Tryz.f62]) ?_
  simp only [Tryz.f62]
  have c0 := cv (eqIntS_r a.arity b.arity hl)
  repeat' first|refine W_seq ?_|refine W_block ?_|refine W_skip ?_|refine W_ret ?_|refine W_exit ?_|refine xb_hit ?_|refine xb_miss (by decide) ?_|(apply W_reg;(simp [Ag, c0];exact .r _))
  refine W_cond (by simp; exact .r _) (fun hc => ?_) (fun hc => ?_)
  · repeat' first|refine W_seq ?_|refine W_block ?_|refine W_skip ?_|refine W_ret ?_|refine W_exit ?_|refine xb_hit ?_|refine xb_miss (by decide) ?_|(apply W_reg;(simp;exact .r _))
    have : a ≠ b := fun e => by subst e; simp at hc
    simp [this]
  have e0 : a.arity = b.arity := by simpa using hc
  clear hc
  repeat' first|refine W_seq ?_|refine W_block ?_|refine W_skip ?_|refine W_ret ?_|refine W_exit ?_|refine xb_hit ?_|refine xb_miss (by decide) ?_|(apply W_reg;(simp;exact .r _))
  have : a = b := by cases a; cases b; simp only at e0; simp [e0]
  simp [this]
theorem szSource_r (a : Src) (left : Int) (h0 : 0 ≤ left) (h1 : left ≤ 1048576) (hf : Fit a) : Ret XX 92 [Ag a, In left] (.t (.i .i64 (szA (Lw.w a) left)) false) := by
  refine ret_W rfl Tryz.func92 rfl rfl (by simp [Tryz.f92]) ?_
  simp only [Tryz.f92]
  have c0 := fun (r : Int) (g0 : 0 ≤ r) (g1 : r ≤ 1048576) => cv (szFactS_r a.facts r g0 g1 hf)
  have hw : Lw.w a = Lw.w a.facts := rfl
  have d0 := c0 (left) (by omega) (by omega)
  repeat' first|refine W_seq ?_|refine W_block ?_|refine W_skip ?_|refine W_ret ?_|refine W_exit ?_|refine xb_hit ?_|refine xb_miss (by decide) ?_|(apply W_reg;(simp [Ag, d0];exact .r _))
  by_cases e0 : ((Lw.w a.facts : Nat) : Int) ≤ left
  case neg =>
    have s0 : szA (Lw.w a.facts) (left) = -1 := by unfold szA; rw [if_neg e0]
    have s9 : szA (Lw.w a) left = -1 := by unfold szA; rw [hw, if_neg (by omega)]
    refine W_cond (by simp; exact .r _) (fun hc => ?_) (fun hc => ?_)
    · repeat' first|refine W_seq ?_|refine W_block ?_|refine W_skip ?_|refine W_ret ?_|refine W_exit ?_|refine xb_hit ?_|refine xb_miss (by decide) ?_|(apply W_reg;(simp;exact .r _))
      rw [s9]; simp
    · exfalso; revert hc; rw [s0]; simp
  have s0 : szA (Lw.w a.facts) (left) = left - (Lw.w a.facts : Nat) := by unfold szA; rw [if_pos e0]
  refine W_cond (by simp; exact .r _) (fun hc => ?_) (fun hc => ?_)
  · exfalso; revert hc; rw [s0]; simp; omega
  repeat' first|refine W_seq ?_|refine W_block ?_|refine W_skip ?_|refine W_ret ?_|refine W_exit ?_|refine xb_hit ?_|refine xb_miss (by decide) ?_|(apply W_reg;(simp [s0];exact .r _))
  have s9 : szA (Lw.w a) left = left - (Lw.w a.facts : Nat) := by unfold szA; (rw [hw, if_pos (by omega)]) <;> omega
  rw [s9]; simp [s0]
theorem toSource_r (a : Src) (hl : Lw.bd 1048576 a) : Ret XX 95 [Ag a] (.agg [.own 2 (rowsE a.facts), .t (.i .i64 a.version) false]) := by
  refine ret_W rfl Tryz.func95 rfl rfl (by simp [Tryz.f95]) ?_
  simp only [Tryz.f95]
  have c0 := cv (toFactS_r a.facts hl)
  repeat' first|refine W_seq ?_|refine W_block ?_|refine W_skip ?_|refine W_ret ?_|refine W_exit ?_|refine xb_hit ?_|refine xb_miss (by decide) ?_|(apply W_reg;(simp [Ag, c0];exact .r _))
  simp
theorem eqSource_r (a b : Src) (hl : Lw.bd 1048576 a) : Ret XX 97 [Ag a, Ag b] (.t (.b (decide (a = b))) false) := by
  refine ret_W rfl Tryz.func97 rfl rfl (by simp [Tryz.f97]) ?_
  simp only [Tryz.f97]
  have c0 := cv (eqFactS_r a.facts b.facts hl)
  repeat' first|refine W_seq ?_|refine W_block ?_|refine W_skip ?_|refine W_ret ?_|refine W_exit ?_|refine xb_hit ?_|refine xb_miss (by decide) ?_|(apply W_reg;(simp [Ag, c0];exact .r _))
  refine W_cond (by simp; exact .r _) (fun hc => ?_) (fun hc => ?_)
  · repeat' first|refine W_seq ?_|refine W_block ?_|refine W_skip ?_|refine W_ret ?_|refine W_exit ?_|refine xb_hit ?_|refine xb_miss (by decide) ?_|(apply W_reg;(simp;exact .r _))
    have : a ≠ b := fun e => by subst e; simp at hc
    simp [this]
  have e0 : a.facts = b.facts := by simpa using hc
  clear hc
  repeat' first|refine W_seq ?_|refine W_block ?_|refine W_skip ?_|refine W_ret ?_|refine W_exit ?_|refine xb_hit ?_|refine xb_miss (by decide) ?_|(apply W_reg;(simp [Ag, c0];exact .r _))
  refine W_cond (by simp; exact .r _) (fun hc => ?_) (fun hc => ?_)
  · repeat' first|refine W_seq ?_|refine W_block ?_|refine W_skip ?_|refine W_ret ?_|refine W_exit ?_|refine xb_hit ?_|refine xb_miss (by decide) ?_|(apply W_reg;(simp;exact .r _))
    have : a ≠ b := fun e => by subst e; simp at hc
    simp [this]
  have e1 : a.version = b.version := by simpa using hc
  clear hc
  repeat' first|refine W_seq ?_|refine W_block ?_|refine W_skip ?_|refine W_ret ?_|refine W_exit ?_|refine xb_hit ?_|refine xb_miss (by decide) ?_|(apply W_reg;(simp;exact .r _))
  have : a = b := by cases a; cases b; simp only at e0 e1; simp [e0, e1]
  simp [this]
theorem szCache_r (a : Cch) (left : Int) (h0 : 0 ≤ left) (h1 : left ≤ 1048576) (hf : Fit a) : Ret XX 91 [Ag a, In left] (.t (.i .i64 (szA (Lw.w a) left)) false) := by
  refine ret_W rfl Tryz.func91 rfl rfl (by simp [Tryz.f91]) ?_
  simp only [Tryz.f91]
  have c0 := fun (r : Int) (g0 : 0 ≤ r) (g1 : r ≤ 1048576) => cv (szQueryS_r a.views r g0 g1 hf.1)
  have c1 := fun (r : Int) (g0 : 0 ≤ r) (g1 : r ≤ 1048576) => cv (szIntSSS_r a.tables r g0 g1 hf.2)
  have hw : Lw.w a = Lw.w a.views + Lw.w a.tables := rfl
  have d0 := c0 (left) (by omega) (by omega)
  repeat' first|refine W_seq ?_|refine W_block ?_|refine W_skip ?_|refine W_ret ?_|refine W_exit ?_|refine xb_hit ?_|refine xb_miss (by decide) ?_|(apply W_reg;(simp [Ag, d0];exact .r _))
  by_cases e0 : ((Lw.w a.views : Nat) : Int) ≤ left
  case neg =>
    have s0 : szA (Lw.w a.views) (left) = -1 := by unfold szA; rw [if_neg e0]
    have s9 : szA (Lw.w a) left = -1 := by unfold szA; rw [hw, if_neg (by omega)]
    refine W_cond (by simp; exact .r _) (fun hc => ?_) (fun hc => ?_)
    · repeat' first|refine W_seq ?_|refine W_block ?_|refine W_skip ?_|refine W_ret ?_|refine W_exit ?_|refine xb_hit ?_|refine xb_miss (by decide) ?_|(apply W_reg;(simp;exact .r _))
      rw [s9]; simp
    · exfalso; revert hc; rw [s0]; simp
  have s0 : szA (Lw.w a.views) (left) = left - (Lw.w a.views : Nat) := by unfold szA; rw [if_pos e0]
  refine W_cond (by simp; exact .r _) (fun hc => ?_) (fun hc => ?_)
  · exfalso; revert hc; rw [s0]; simp; omega
  have d1 := c1 (left - (Lw.w a.views : Nat)) (by omega) (by omega)
  repeat' first|refine W_seq ?_|refine W_block ?_|refine W_skip ?_|refine W_ret ?_|refine W_exit ?_|refine xb_hit ?_|refine xb_miss (by decide) ?_|(apply W_reg;(simp [Ag, d1, s0];exact .r _))
  by_cases e1 : ((Lw.w a.tables : Nat) : Int) ≤ left - (Lw.w a.views : Nat)
  case neg =>
    have s1 : szA (Lw.w a.tables) (left - (Lw.w a.views : Nat)) = -1 := by unfold szA; rw [if_neg e1]
    have s9 : szA (Lw.w a) left = -1 := by unfold szA; rw [hw, if_neg (by omega)]
    refine W_cond (by simp; exact .r _) (fun hc => ?_) (fun hc => ?_)
    · repeat' first|refine W_seq ?_|refine W_block ?_|refine W_skip ?_|refine W_ret ?_|refine W_exit ?_|refine xb_hit ?_|refine xb_miss (by decide) ?_|(apply W_reg;(simp;exact .r _))
      rw [s9]; simp
    · exfalso; revert hc; rw [s1]; simp
  have s1 : szA (Lw.w a.tables) (left - (Lw.w a.views : Nat)) = left - (Lw.w a.views : Nat) - (Lw.w a.tables : Nat) := by unfold szA; rw [if_pos e1]
  refine W_cond (by simp; exact .r _) (fun hc => ?_) (fun hc => ?_)
  · exfalso; revert hc; rw [s1]; simp; omega
  repeat' first|refine W_seq ?_|refine W_block ?_|refine W_skip ?_|refine W_ret ?_|refine W_exit ?_|refine xb_hit ?_|refine xb_miss (by decide) ?_|(apply W_reg;(simp [s0, s1];exact .r _))
  have s9 : szA (Lw.w a) left = left - (Lw.w a.views : Nat) - (Lw.w a.tables : Nat) := by unfold szA; (rw [hw, if_pos (by omega)]) <;> omega
  rw [s9]; simp [s0, s1]
theorem toCache_r (a : Cch) (hl : Lw.bd 1048576 a) : Ret XX 94 [Ag a] (.agg [.own 2 (rowsE a.views), .own 1 (rowsE a.tables), .t (.i .i64 a.version) false]) := by
  refine ret_W rfl Tryz.func94 rfl rfl (by simp [Tryz.f94]) ?_
  simp only [Tryz.f94]
  have c0 := cv (toQueryS_r a.views hl.1)
  have c1 := cv (toIntSSS_r a.tables hl.2)
  repeat' first|refine W_seq ?_|refine W_block ?_|refine W_skip ?_|refine W_ret ?_|refine W_exit ?_|refine xb_hit ?_|refine xb_miss (by decide) ?_|(apply W_reg;(simp [Ag, c0, c1];exact .r _))
  simp
theorem eqCache_r (a b : Cch) (hl : Lw.bd 1048576 a) : Ret XX 86 [Ag a, Ag b] (.t (.b (decide (a = b))) false) := by
  refine ret_W rfl Tryz.func86 rfl rfl (by simp [Tryz.f86]) ?_
  simp only [Tryz.f86]
  have c0 := cv (eqQueryS_r a.views b.views hl.1)
  have c1 := cv (eqIntSSS_r a.tables b.tables hl.2)
  repeat' first|refine W_seq ?_|refine W_block ?_|refine W_skip ?_|refine W_ret ?_|refine W_exit ?_|refine xb_hit ?_|refine xb_miss (by decide) ?_|(apply W_reg;(simp [Ag, c0, c1];exact .r _))
  refine W_cond (by simp; exact .r _) (fun hc => ?_) (fun hc => ?_)
  · repeat' first|refine W_seq ?_|refine W_block ?_|refine W_skip ?_|refine W_ret ?_|refine W_exit ?_|refine xb_hit ?_|refine xb_miss (by decide) ?_|(apply W_reg;(simp;exact .r _))
    have : a ≠ b := fun e => by subst e; simp at hc
    simp [this]
  have e0 : a.views = b.views := by simpa using hc
  clear hc
  repeat' first|refine W_seq ?_|refine W_block ?_|refine W_skip ?_|refine W_ret ?_|refine W_exit ?_|refine xb_hit ?_|refine xb_miss (by decide) ?_|(apply W_reg;(simp [Ag, c0, c1];exact .r _))
  refine W_cond (by simp; exact .r _) (fun hc => ?_) (fun hc => ?_)
  · repeat' first|refine W_seq ?_|refine W_block ?_|refine W_skip ?_|refine W_ret ?_|refine W_exit ?_|refine xb_hit ?_|refine xb_miss (by decide) ?_|(apply W_reg;(simp;exact .r _))
    have : a ≠ b := fun e => by subst e; simp at hc
    simp [this]
  have e1 : a.tables = b.tables := by simpa using hc
  clear hc
  repeat' first|refine W_seq ?_|refine W_block ?_|refine W_skip ?_|refine W_ret ?_|refine W_exit ?_|refine xb_hit ?_|refine xb_miss (by decide) ?_|(apply W_reg;(simp [Ag, c0, c1];exact .r _))
  refine W_cond (by simp; exact .r _) (fun hc => ?_) (fun hc => ?_)
  · repeat' first|refine W_seq ?_|refine W_block ?_|refine W_skip ?_|refine W_ret ?_|refine W_exit ?_|refine xb_hit ?_|refine xb_miss (by decide) ?_|(apply W_reg;(simp;exact .r _))
    have : a ≠ b := fun e => by subst e; simp at hc
    simp [this]
  have e2 : a.version = b.version := by simpa using hc
  clear hc
  repeat' first|refine W_seq ?_|refine W_block ?_|refine W_skip ?_|refine W_ret ?_|refine W_exit ?_|refine xb_hit ?_|refine xb_miss (by decide) ?_|(apply W_reg;(simp;exact .r _))
  have : a = b := by cases a; cases b; simp only at e0 e1 e2; simp [e0, e1, e2]
  simp [this]
end Go.Proofs.YtmfifjbbjjdacaaGreat.V

namespace Go.Proofs.YtmfifjbbjjdacaaGreat.V
open Go Go.Proofs
set_option linter.unusedVariables false
/-- By weight. -/
class CntW (α : Type) [Mk α] [Lw α] : Prop where
  le : ∀ a : α, Mk.cnt a ≤ Lw.w a + 1
theorem cntW_list {α : Type} [Mk α] [Lw α] [CntW α] (l : List α) : cntL l ≤ wL l := by
  induction l with
  | nil => simp [cntL]
  | cons a l ih =>
    have h := CntW.le a
    simp only [cntL, wL, List.map_cons, List.sum_cons, List.length_cons] at *
    omega
instance : CntW Int := ⟨fun a => by simp⟩
instance {α : Type} [Mk α] [Lw α] [CntW α] : CntW (List α) := ⟨fun l => by rw [cnt_list, w_list]; have := cntW_list l; omega⟩
instance : CntW RA := ⟨fun a => by have := cntW_list a.args; show 1 + cntL a.args ≤ wL a.args + 1; omega⟩
instance : CntW Cnt := ⟨fun a => by have := cntW_list a.tuple; show cntL a.tuple + 1 ≤ wL a.tuple + 1; omega⟩
instance : CntW Qry := ⟨fun a => by have := cntW_list a.head; have := cntW_list a.body; show cntL a.head + cntL a.body ≤ wL a.head + wL a.body + 1; omega⟩
instance : CntW Wtd := ⟨fun a => by have := cntW_list a.query.head; have := cntW_list a.query.body; show cntL a.query.head + cntL a.query.body + 1 ≤ wL a.query.head + wL a.query.body + 1; omega⟩
instance : Mk Cch := ⟨fun c => cntL c.views + cntL c.tables, fun k c => ⟨mkL k c.views, mkL (k + cntL c.views) c.tables, c.version⟩⟩
instance : CntW Cch := ⟨fun a => by have := cntW_list a.views; have := cntW_list a.tables; show cntL a.views + cntL a.tables ≤ wL a.views + wL a.tables + 1; omega⟩
theorem cw_Sch (a : Sch) : cntL a.arity ≤ Lw.w a := cntW_list a.arity
theorem cw_Src (a : Src) : cntL a.facts ≤ Lw.w a := cntW_list a.facts
theorem cw_Cch (a : Cch) : cntL a.views + cntL a.tables ≤ Lw.w a := by have := cntW_list a.views; have := cntW_list a.tables; show _ ≤ wL a.views + wL a.tables; omega
/-- By lengths. -/
class CntB (α : Type) [Mk α] [Lw α] (b : outParam Nat) : Prop where
  le : ∀ a : α, Lw.bd 1048576 a → Mk.cnt a ≤ b
theorem cb_list {α : Type} [Mk α] [Lw α] {b : Nat} [CntB α b] (l : List α) (h : Lw.bd 1048576 l) : cntL l ≤ 1048576 * b := by
  have key : ∀ l : List α, (∀ x ∈ l, Lw.bd 1048576 x) → cntL l ≤ l.length * b := fun l => by
    induction l with
    | nil => simp [cntL]
    | cons a l ih =>
      intro hx
      have h1 := CntB.le a (hx a (by simp))
      have h2 := ih fun x hxl => hx x (List.mem_cons_of_mem _ hxl)
      simp only [cntL, List.map_cons, List.sum_cons, List.length_cons, Nat.add_mul] at *
      omega
  exact Nat.le_trans (key l h.2) (Nat.mul_le_mul_right _ h.1)
instance : CntB Int 1 := ⟨fun a _ => by simp⟩
instance {α : Type} [Mk α] [Lw α] {b : Nat} [CntB α b] : CntB (List α) (1048576 * b) := ⟨fun l h => cb_list l h⟩
instance : CntB RA 1048577 := ⟨fun a h => by have := cb_list (b := 1) a.args h; show 1 + cntL a.args ≤ _; omega⟩
instance : CntB Cnt 1048577 := ⟨fun a h => by have := cb_list (b := 1) a.tuple h; show cntL a.tuple + 1 ≤ _; omega⟩
instance : CntB Qry 1099513724928 := ⟨fun a h => by have := cb_list (b := 1) a.head h.1; have := cb_list (b := 1048577) a.body h.2; show cntL a.head + cntL a.body ≤ _; omega⟩
end Go.Proofs.YtmfifjbbjjdacaaGreat.V

namespace Go.Proofs.YtmfifjbbjjdacaaGreat.V
open Go Go.Proofs
set_option linter.unusedSimpArgs false
set_option maxHeartbeats 4000000 in
set_option maxRecDepth 20000 in
theorem lawIsFresh (a0 : Sch) (a1 : Cch) (a2 : Src) (f0 : Fit a0) (f1 : Fit a1) (f2 : Fit a2) : Ret XX 8 [Ag a0, Ag a1, Ag a2] (.t (.b true) false) := by
  refine ret_W rfl Tryz.func8 rfl rfl (by simp [Tryz.f8]) ?_
  simp only [Tryz.f8]
  have s0 := cv (szSchema_r a0 (1048576 : Int) (by omega) (by omega) f0)
  simp only [Ag, rowsE_nil, cells_Sch, cells_Q, cells_RA, cells_Src, cells_Chg, cells_Cch, cells_Crt, cells_Ses, cells_Wtd, List.map_cons, List.map_nil] at s0
  by_cases e0 : ((Lw.w a0 : Nat) : Int) ≤ (1048576 : Int)
  case neg =>
    have z0 : szA (Lw.w a0) (1048576 : Int) = -1 := by unfold szA; rw [if_neg e0]
    repeat' first|refine W_seq ?_|refine W_block ?_|refine W_skip ?_|refine W_ret ?_|refine W_exit ?_|refine xb_hit ?_|refine xb_miss (by decide) ?_|(apply W_reg;(simp [Ag, s0, z0];exact .r _))
    refine W_cond (by simp; exact .r _) (fun hc => ?_) (fun hc => ?_)
    · repeat' first|refine W_seq ?_|refine W_block ?_|refine W_skip ?_|refine W_ret ?_|refine W_exit ?_|refine xb_hit ?_|refine xb_miss (by decide) ?_|(apply W_reg;(simp;exact .r _))
      simp
    · simp at hc
  have z0 : szA (Lw.w a0) (1048576 : Int) = 1048576 - Lw.w a0 := by unfold szA; rw [if_pos e0]
  have n0 : ¬ ((1048576 : Int) - Lw.w a0 < 0) := by omega
  repeat' first|refine W_seq ?_|refine W_block ?_|refine W_skip ?_|refine W_ret ?_|refine W_exit ?_|refine xb_hit ?_|refine xb_miss (by decide) ?_|(apply W_reg;(simp [Ag, s0, z0, n0];exact .r _))
  refine W_cond (by simp; exact .r _) (fun hc => ?_) (fun hc => ?_)
  · simp at hc
  have s1 := cv (szCache_r a1 (1048576 - Lw.w a0 : Int) (by omega) (by omega) f1)
  simp only [Ag, rowsE_nil, cells_Sch, cells_Q, cells_RA, cells_Src, cells_Chg, cells_Cch, cells_Crt, cells_Ses, cells_Wtd, List.map_cons, List.map_nil] at s1
  by_cases e1 : ((Lw.w a1 : Nat) : Int) ≤ (1048576 - Lw.w a0 : Int)
  case neg =>
    have z1 : szA (Lw.w a1) (1048576 - Lw.w a0 : Int) = -1 := by unfold szA; rw [if_neg e1]
    repeat' first|refine W_seq ?_|refine W_block ?_|refine W_skip ?_|refine W_ret ?_|refine W_exit ?_|refine xb_hit ?_|refine xb_miss (by decide) ?_|(apply W_reg;(simp [Ag, s1, z1];exact .r _))
    refine W_cond (by simp; exact .r _) (fun hc => ?_) (fun hc => ?_)
    · repeat' first|refine W_seq ?_|refine W_block ?_|refine W_skip ?_|refine W_ret ?_|refine W_exit ?_|refine xb_hit ?_|refine xb_miss (by decide) ?_|(apply W_reg;(simp;exact .r _))
      simp
    · simp at hc
  have z1 : szA (Lw.w a1) (1048576 - Lw.w a0 : Int) = 1048576 - Lw.w a0 - Lw.w a1 := by unfold szA; rw [if_pos e1]
  have n1 : ¬ ((1048576 - Lw.w a0 : Int) - Lw.w a1 < 0) := by omega
  repeat' first|refine W_seq ?_|refine W_block ?_|refine W_skip ?_|refine W_ret ?_|refine W_exit ?_|refine xb_hit ?_|refine xb_miss (by decide) ?_|(apply W_reg;(simp [Ag, s1, z1, n1];exact .r _))
  refine W_cond (by simp; exact .r _) (fun hc => ?_) (fun hc => ?_)
  · simp at hc
  have s2 := cv (szSource_r a2 (1048576 - Lw.w a0 - Lw.w a1 : Int) (by omega) (by omega) f2)
  simp only [Ag, rowsE_nil, cells_Sch, cells_Q, cells_RA, cells_Src, cells_Chg, cells_Cch, cells_Crt, cells_Ses, cells_Wtd, List.map_cons, List.map_nil] at s2
  by_cases e2 : ((Lw.w a2 : Nat) : Int) ≤ (1048576 - Lw.w a0 - Lw.w a1 : Int)
  case neg =>
    have z2 : szA (Lw.w a2) (1048576 - Lw.w a0 - Lw.w a1 : Int) = -1 := by unfold szA; rw [if_neg e2]
    repeat' first|refine W_seq ?_|refine W_block ?_|refine W_skip ?_|refine W_ret ?_|refine W_exit ?_|refine xb_hit ?_|refine xb_miss (by decide) ?_|(apply W_reg;(simp [Ag, s2, z2];exact .r _))
    refine W_cond (by simp; exact .r _) (fun hc => ?_) (fun hc => ?_)
    · repeat' first|refine W_seq ?_|refine W_block ?_|refine W_skip ?_|refine W_ret ?_|refine W_exit ?_|refine xb_hit ?_|refine xb_miss (by decide) ?_|(apply W_reg;(simp;exact .r _))
      simp
    · simp at hc
  have z2 : szA (Lw.w a2) (1048576 - Lw.w a0 - Lw.w a1 : Int) = 1048576 - Lw.w a0 - Lw.w a1 - Lw.w a2 := by unfold szA; rw [if_pos e2]
  have n2 : ¬ ((1048576 - Lw.w a0 - Lw.w a1 : Int) - Lw.w a2 < 0) := by omega
  repeat' first|refine W_seq ?_|refine W_block ?_|refine W_skip ?_|refine W_ret ?_|refine W_exit ?_|refine xb_hit ?_|refine xb_miss (by decide) ?_|(apply W_reg;(simp [Ag, s2, z2, n2];exact .r _))
  refine W_cond (by simp; exact .r _) (fun hc => ?_) (fun hc => ?_)
  · simp at hc
  have b0 : Lw.bd 1048576 a0 := Lw.bd_of _ _ (by omega)
  have b1 : Lw.bd 1048576 a1 := Lw.bd_of _ _ (by omega)
  have b2 : Lw.bd 1048576 a2 := Lw.bd_of _ _ (by omega)
  have t0 := cv (toSchema_r a0 b0)
  have t1 := cv (toCache_r a1 b1)
  have t2 := cv (toSource_r a2 b2)
  have qp0 := cv (eqSchema_r a0 a0 b0)
  have qp1 := cv (eqCache_r a1 a1 b1)
  have qp2 := cv (eqSource_r a2 a2 b2)
  simp only [Ag, rowsE_nil, cells_Sch, cells_Q, cells_RA, cells_Src, cells_Chg, cells_Cch, cells_Crt, cells_Ses, cells_Wtd, List.map_cons, List.map_nil] at t0 t1 t2
  simp only [Ag, rowsE_nil, cells_Sch, cells_Q, cells_RA, cells_Src, cells_Chg, cells_Cch, cells_Crt, cells_Ses, cells_Wtd, List.map_cons, List.map_nil] at qp0 qp1 qp2
  have w0 := cw_Sch a0
  have w1 := cw_Cch a1
  have w2 := cw_Src a2
  have sp0 := cv (specFresh_r a0 a1 a2 b0 b1 b2)
  have im0 := cv (implFresh_r a0 a1 a2 (Nat.lt_of_le_of_lt b0.1 (by omega)) (SmC.of (by omega) b1) (Nat.lt_of_le_of_lt (show a2.facts.length ≤ _ from b2.1) (by omega)) (fun a ha => Nat.lt_of_le_of_lt (b2.2 a ha).1 (by omega)))
  simp only [Ag, cells_Sch, cells_Cch, cells_Src, List.map_cons, List.map_nil] at sp0 im0
  generalize frsh a0 a1 a2 = r at sp0 im0
  repeat' first|refine W_seq ?_|refine W_block ?_|refine W_skip ?_|refine W_ret ?_|refine W_exit ?_|refine xb_hit ?_|refine xb_miss (by decide) ?_|(apply W_reg;(simp [t0, t1, t2, sp0, im0];exact .r _))|(apply W_draw (id := 11) [0,1,0,7,0,31,63,127] rfl rfl; (· simp; exact .r _); (· simp [t0, t1, t2, sp0, im0]; exact .r _); (· first|trivial|simp))
  refine W_cond (by simp; exact .r _) (fun hc => ?_) (fun hc => ?_)
  · simp at hc
  repeat' first|refine W_seq ?_|refine W_block ?_|refine W_skip ?_|refine W_ret ?_|refine W_exit ?_|refine xb_hit ?_|refine xb_miss (by decide) ?_|(apply W_reg;(simp [t0, qp0];exact .r _))|(apply W_draw (id := 18) [0,0,2,7,15] rfl rfl; (· simp; exact .r _); (· simp [t0, qp0]; exact .r _); (· first|trivial|simp))
  refine W_cond (by simp; exact .r _) (fun hc => ?_) (fun hc => ?_)
  · simp at hc
  repeat' first|refine W_seq ?_|refine W_block ?_|refine W_skip ?_|refine W_ret ?_|refine W_exit ?_|refine xb_hit ?_|refine xb_miss (by decide) ?_|(apply W_reg;(simp [t1, qp1];exact .r _))|(apply W_draw (id := 20) [0,0,2,7,15] rfl rfl; (· simp; exact .r _); (· simp [t1, qp1]; exact .r _); (· first|trivial|simp))
  refine W_cond (by simp; exact .r _) (fun hc => ?_) (fun hc => ?_)
  · simp at hc
  repeat' first|refine W_seq ?_|refine W_block ?_|refine W_skip ?_|refine W_ret ?_|refine W_exit ?_|refine xb_hit ?_|refine xb_miss (by decide) ?_|(apply W_reg;(simp [t2, qp2];exact .r _))|(apply W_draw (id := 22) [0,0,2,7,15] rfl rfl; (· simp; exact .r _); (· simp [t2, qp2]; exact .r _); (· first|trivial|simp))
  refine W_cond (by simp; exact .r _) (fun hc => ?_) (fun hc => ?_)
  · simp at hc
  repeat' first|refine W_seq ?_|refine W_block ?_|refine W_skip ?_|refine W_ret ?_|refine W_exit ?_|refine xb_hit ?_|refine xb_miss (by decide) ?_|(apply W_reg;(simp;exact .r _))
  simp
end Go.Proofs.YtmfifjbbjjdacaaGreat.V

namespace Go.Proofs.YtmfifjbbjjdacaaGreat.V
open Go Go.RowKit Go.Deep Go.ChangeShapes Go.WideShapes
set_option linter.unusedVariables false
/-- Whatever reads as data of type t is a value that fits. -/
def RdF (α : Type) [Enc α] [Lw α] (P : Program) (w : World) (t : TypeId) : Prop := Rdv P w t (fun a : α => Fit a)
theorem Rdv.mono {α : Type} [Enc α] {P : Program} {w : World} {t : TypeId} {Q Q' : α → Prop} (h : Rdv P w t Q) (hq : ∀ a, Q a → Q' a) : Rdv P w t Q' := fun H enc fuel cs x hx => by
  obtain ⟨a, h1, h2⟩ := h H enc fuel cs x hx
  exact ⟨a, h1, hq a h2⟩
instance : Lw Bool := ⟨fun _ => 0, fun _ _ => True, fun _ _ _ => trivial⟩
variable {α β γ δ : Type} [Enc α] [Enc β] [Enc γ] [Enc δ] [Lw α] [Lw β] [Lw γ] [Lw δ] {P : Program} {w : World} {t e : TypeId}
theorem rf_int (ht : P.underlying t = some (.int .i64)) : RdF Int P w t := (rd_int ht).mono fun _ _ => trivial
theorem rf_slice (ht : P.underlying t = some (.slice e)) (hc : P.cellsOf e = Enc.n α) (hn : 0 < Enc.n α) (hd : RdF α P w e) : RdF (List α) P w t := (rd_slice ht hc hn hd).mono fun a h => ⟨h.1, h.2⟩
theorem rf_s1 {f0 : Field} (mk : α → γ) (hmk : ∀ a, Enc.cells (mk a) = Enc.cells a) (hf : ∀ a, Fit a → Fit (mk a)) (ht : P.underlying t = some (.struct #[f0])) (h0 : f0.offset = 0) (z : P.cellsOf t = Enc.n α) (z0 : P.cellsOf f0.type = Enc.n α)
    (o0 : RdF α P w f0.type) : RdF γ P w t := (rd_struct1 mk hmk ht h0 z z0 o0).mono fun c ⟨a, e, h⟩ => e ▸ hf a h
theorem rf_s2 {f0 f1 : Field} (mk : α → β → γ) (hmk : ∀ a b, Enc.cells (mk a b) = Enc.cells a ++ Enc.cells b) (hf : ∀ a b, Fit a → Fit b → Fit (mk a b)) (ht : P.underlying t = some (.struct #[f0, f1])) (h0 : f0.offset = 0) (h1 : f1.offset = Enc.n α)
    (z : P.cellsOf t = Enc.n α + Enc.n β) (z0 : P.cellsOf f0.type = Enc.n α) (z1 : P.cellsOf f1.type = Enc.n β)
    (o0 : RdF α P w f0.type) (o1 : RdF β P w f1.type) : RdF γ P w t := (rd_struct2 mk hmk ht h0 h1 z z0 z1 o0 o1).mono fun c ⟨a, b, e, h, k⟩ => e ▸ hf a b h k
set_option linter.unusedSectionVars false in
theorem rd_struct3 {f0 f1 f2 : Field} {Q0 : α → Prop} {Q1 : β → Prop} {Q2 : δ → Prop} (mk : α → β → δ → γ) (hmk : ∀ a b d, Enc.cells (mk a b d) = Enc.cells a ++ (Enc.cells b ++ Enc.cells d)) (ht : P.underlying t = some (.struct #[f0, f1, f2])) (h0 : f0.offset = 0) (h1 : f1.offset = Enc.n α) (h2 : f2.offset = Enc.n α + Enc.n β)
    (z : P.cellsOf t = Enc.n α + Enc.n β + Enc.n δ) (z0 : P.cellsOf f0.type = Enc.n α) (z1 : P.cellsOf f1.type = Enc.n β) (z2 : P.cellsOf f2.type = Enc.n δ)
    (o0 : Rdv P w f0.type Q0) (o1 : Rdv P w f1.type Q1) (o2 : Rdv P w f2.type Q2) : Rdv P w t (fun c : γ => ∃ a b d, c = mk a b d ∧ Q0 a ∧ Q1 b ∧ Q2 d) := by
  intro H enc fuel cs x hx
  obtain ⟨y0, y1, y2, n, rfl, hl, g0, g1, g2⟩ := trod_struct3 ht hx
  obtain ⟨a, hk, hq⟩ := o0 H enc n _ y0 g0
  obtain ⟨b, hk1, hq1⟩ := o1 H enc n _ y1 g1
  obtain ⟨d, hk2, hq2⟩ := o2 H enc n _ y2 g2
  rw [h0, List.drop_zero, z0] at hk
  rw [h1, z1] at hk1
  rw [h2, z2, List.take_of_length_le (by simp; omega)] at hk2
  refine ⟨mk a b d, ?_, a, b, d, rfl, hq, hq1, hq2⟩
  rw [hmk, ← List.take_append_drop (Enc.n α) cs]
  refine hk.append ?_
  rw [← List.take_append_drop (Enc.n β) (cs.drop (Enc.n α)), List.drop_drop]
  exact hk1.append hk2
theorem rf_s3 {f0 f1 f2 : Field} (mk : α → β → δ → γ) (hmk : ∀ a b d, Enc.cells (mk a b d) = Enc.cells a ++ (Enc.cells b ++ Enc.cells d)) (hf : ∀ a b d, Fit a → Fit b → Fit d → Fit (mk a b d)) (ht : P.underlying t = some (.struct #[f0, f1, f2])) (h0 : f0.offset = 0) (h1 : f1.offset = Enc.n α) (h2 : f2.offset = Enc.n α + Enc.n β)
    (z : P.cellsOf t = Enc.n α + Enc.n β + Enc.n δ) (z0 : P.cellsOf f0.type = Enc.n α) (z1 : P.cellsOf f1.type = Enc.n β) (z2 : P.cellsOf f2.type = Enc.n δ)
    (o0 : RdF α P w f0.type) (o1 : RdF β P w f1.type) (o2 : RdF δ P w f2.type) : RdF γ P w t := (rd_struct3 mk hmk ht h0 h1 h2 z z0 z1 z2 o0 o1 o2).mono fun c ⟨a, b, d, e, h, k, l⟩ => e ▸ hf a b d h k l
end Go.Proofs.YtmfifjbbjjdacaaGreat.V

