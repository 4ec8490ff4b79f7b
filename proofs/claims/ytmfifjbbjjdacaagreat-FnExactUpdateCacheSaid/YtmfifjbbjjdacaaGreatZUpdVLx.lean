/- Out of YtmfifjbbjjdacaaGreatVLx: what the claim needs of it. Conditions: each declaration's own. -/
import Derived.Test.YtmfifjbbjjdacaaGreatZUpdM5
namespace Go.Proofs.YtmfifjbbjjdacaaGreat.V
open Go Go.Proofs
set_option linter.unusedVariables false
set_option linter.unusedSimpArgs false
theorem szIntS_r (l : List Int) (left : Int) (h0 : 0 ≤ left) (h1 : left ≤ 1048576) (hf : Fit l) : Ret XX 186 [Ar l, In left] (.t (.i .i64 (szA (Lw.w l) left)) false) := by
  have hl : l.length ≤ 9223372036854775807 := hf.1
  rw [show Lw.w l = l.length from wL_ints l]
  refine ret_W rfl Tryz.func186 rfl rfl (by simp [Tryz.f186]) ?_
  simp only [Tryz.f186]
  have hw : IntKind.i64.wrap (left - l.length) = left - l.length := wrap_ok (by omega) (by omega)
  repeat' first|refine W_seq ?_|refine W_block ?_|refine W_skip ?_|refine W_ret ?_|refine W_exit ?_|refine xb_hit ?_|refine xb_miss (by decide) ?_|(apply W_reg;(simp [hw];exact .r _))
  refine W_cond (by simp; exact .r _) (fun hc => ?_) (fun hc => ?_)
  · repeat' first|refine W_seq ?_|refine W_block ?_|refine W_skip ?_|refine W_ret ?_|refine W_exit ?_|refine xb_hit ?_|refine xb_miss (by decide) ?_|(apply W_reg;(simp;exact .r _))
    have : ¬ (l.length : Int) ≤ left := by simp at hc; omega
    simp [szA, this]
  · repeat' first|refine W_seq ?_|refine W_block ?_|refine W_skip ?_|refine W_ret ?_|refine W_exit ?_|refine xb_hit ?_|refine xb_miss (by decide) ?_|(apply W_reg;(simp;exact .r _))
    have : (l.length : Int) ≤ left := by simp at hc; omega
    simp [szA, this]
theorem toIntS_r (l : List Int) (hl : Lw.bd 1048576 l) : Ret XX 190 [Ar l] (.own 1 (rowsE l)) := by
  have hn := hl.1
  refine ret_W rfl Tryz.func190 rfl rfl (by simp [Tryz.f190]) ?_
  simp only [Tryz.f190]
  repeat' first|refine W_seq ?_|refine W_block ?_|refine W_skip ?_|refine W_ret ?_|refine W_exit ?_|refine xb_hit ?_|refine xb_miss (by decide) ?_|(apply W_reg;(simp [show l.length < 1099511627776 by omega];exact .r _))
  refine W_loop (n := l.length) (fun n s => ∃ i : Nat, n = l.length - i ∧ s.nt = 22 ∧ s.tm 0 = Ar l ∧ s.tm 3 = .ref 0 l.length [] ∧ s.tm 4 = In i ∧ i ≤ l.length ∧ s.σ.ob 0 = .arr (.own 0) 0 1 (rowsE (l.take i ++ List.replicate (l.length - i) 0))) ⟨0, by simp [rowsE]⟩ ?_
  rintro n ⟨nt, tm, σ⟩ ⟨i, rfl, hnt, h0, h3, h4, hi, ho⟩
  simp only at hnt h0 h3 h4 ho
  subst hnt
  repeat' first|refine W_seq ?_|refine W_block ?_|refine W_skip ?_|refine W_ret ?_|refine W_exit ?_|refine xb_hit ?_|refine xb_miss (by decide) ?_|(apply W_reg;(simp [h0, h3, h4, ho];exact .r _))
  refine W_cond (by simp [h0, h3, h4, ho]; exact .r _) (fun hc => ?_) (fun hc => ?_)
  · have hil : i < l.length := by simpa using hc
    have hle : i ≤ l.length := hi
    have hg : (rowsE (l.take i ++ List.replicate (l.length - i) (0 : Int)))[i]? = some [.i .i64 0] := fill_get l 0 i hil
    have hfs := fill_set l 0 i hil
    have hrl : (rowsE (l.take i ++ List.replicate (l.length - i) (0 : Int))).length = l.length := fill_len l 0 i hi
    repeat' first|refine W_seq ?_|refine W_block ?_|refine W_skip ?_|refine W_ret ?_|refine W_exit ?_|refine xb_hit ?_|refine xb_miss (by decide) ?_|(apply W_reg;(simp [h0, h3, h4, ho, hil, hg, hrl, hle];exact .r _))
    refine ⟨_, ?_, i + 1, rfl, rfl, ?_, ?_, ?_, by omega, by (simp; rw [← hfs, rowsE_set]; rfl)⟩
    all_goals first|assumption|(simp [h0, h3, h4, ho];done)|(simp [h0, h3, h4, ho];omega)|(simp [h0, h3, h4, ho];exact wrap_succ (by omega))|omega
  · have hil : i = l.length := by simp at hc; omega
    subst hil
    repeat' first|refine W_seq ?_|refine W_block ?_|refine W_skip ?_|refine W_ret ?_|refine W_exit ?_|refine xb_hit ?_|refine xb_miss (by decide) ?_|(apply W_reg;(simp [h0, h3, h4, ho];exact .r _))
    simp [ho]
theorem eqIntS_r (a b : List (Int)) (hl : Lw.bd 1048576 a) : Ret XX 108 [Ar a, Ar b] (.t (.b (decide (a = b))) false) := by
  have hn := hl.1
  refine ret_W rfl Tryz.func108 rfl rfl (by simp [Tryz.f108]) ?_
  simp only [Tryz.f108]
  repeat' first|refine W_seq ?_|refine W_block ?_|refine W_skip ?_|refine W_ret ?_|refine W_exit ?_|refine xb_hit ?_|refine xb_miss (by decide) ?_|(apply W_reg;(simp;exact .r _))
  refine W_cond (by simp; exact .r _) (fun hc => ?_) (fun hc => ?_)
  · repeat' first|refine W_seq ?_|refine W_block ?_|refine W_skip ?_|refine W_ret ?_|refine W_exit ?_|refine xb_hit ?_|refine xb_miss (by decide) ?_|(apply W_reg;(simp;exact .r _))
    have : a ≠ b := fun e => by subst e; simp at hc
    simp [this]
  have hll : a.length = b.length := by simp at hc; omega
  repeat' first|refine W_seq ?_|refine W_block ?_|refine W_skip ?_|refine W_ret ?_|refine W_exit ?_|refine xb_hit ?_|refine xb_miss (by decide) ?_|(apply W_reg;(simp;exact .r _))
  refine W_loop (n := a.length) (fun n s => ∃ i : Nat, n = a.length - i ∧ s.nt = 26 ∧ s.tm 0 = Ar a ∧ s.tm 1 = Ar b ∧ s.tm 5 = In i ∧ i ≤ a.length ∧ a.take i = b.take i) ⟨0, by simp⟩ ?_
  rintro n ⟨nt, tm, σ⟩ ⟨i, rfl, hnt, h0, h1, h5, hi, heq⟩
  simp only at hnt h0 h1 h5
  subst hnt
  repeat' first|refine W_seq ?_|refine W_block ?_|refine W_skip ?_|refine W_ret ?_|refine W_exit ?_|refine xb_hit ?_|refine xb_miss (by decide) ?_|(apply W_reg;(simp [h0, h1, h5];exact .r _))
  refine W_cond (by simp [h0, h1, h5]; exact .r _) (fun hc => ?_) (fun hc => ?_)
  · have hia : i < a.length := by simpa using hc
    have hib : i < b.length := by omega
    repeat' first|refine W_seq ?_|refine W_block ?_|refine W_skip ?_|refine W_ret ?_|refine W_exit ?_|refine xb_hit ?_|refine xb_miss (by decide) ?_|(apply W_reg;(simp [h0, h1, h5, hia, hib];exact .r _))|(apply W_draw (id := 6) [0,0,3,7,0,0,48,112,255] rfl rfl; (· simp; exact .r _); (· simp [h0, h1, h5, hia, hib]; exact .r _); (· first|trivial|simp))
    refine W_cond (by simp [h0, h1, h5]; exact .r _) (fun hd => ?_) (fun hd => ?_)
    · repeat' first|refine W_seq ?_|refine W_block ?_|refine W_skip ?_|refine W_ret ?_|refine W_exit ?_|refine xb_hit ?_|refine xb_miss (by decide) ?_|(apply W_reg;(simp [h0, h1, h5];exact .r _))
      have : a ≠ b := fun e => by subst e; simp at hd
      simp [this]
    · have hd : a[i] = b[i] := by simpa using hd
      repeat' first|refine W_seq ?_|refine W_block ?_|refine W_skip ?_|refine W_ret ?_|refine W_exit ?_|refine xb_hit ?_|refine xb_miss (by decide) ?_|(apply W_reg;(simp [h0, h1, h5];exact .r _))
      refine ⟨_, ?_, i + 1, rfl, rfl, ?_, ?_, ?_, by omega, by rw [List.take_succ_eq_append_getElem hia, List.take_succ_eq_append_getElem hib, heq, hd]⟩
      all_goals first|assumption|(simp [h0, h1, h5];done)|(simp [h0, h1, h5];omega)|(simp [h0, h1, h5];exact wrap_succ (by omega))|omega
  · have hil : i = a.length := by simp at hc; omega
    subst hil
    repeat' first|refine W_seq ?_|refine W_block ?_|refine W_skip ?_|refine W_ret ?_|refine W_exit ?_|refine xb_hit ?_|refine xb_miss (by decide) ?_|(apply W_reg;(simp [h0, h1, h5];exact .r _))
    rw [List.take_length, hll, List.take_length] at heq
    have : a = b := heq
    simp [this]
theorem markIntS_m (σ : Sto) (o v st sz : Nat) (p : List (Nat × Nat)) (rows : List (List T)) (l : List (Int)) (hob : σ.ob o = .arr (.own 0) st sz rows) (hnm : Nm st rows v p (rowsE l)) (k : Int) (h0 : 0 ≤ k) (hk : k + cntL l ≤ 4611686018427387903) (hl : Lw.bd 1048576 l) :
    XX 112 [.ref o v p, In k] σ = some (In (k + cntL l), σ.set o (.arr (.own 0) st sz (setAt rows p fun _ => rowsE (mkL k l)))) := by
  have hn := hl.1
  have key : ∃ r σ', XX 112 [.ref o v p, In k] σ = some (r, σ') ∧ (r = In (k + cntL l) ∧ σ' = σ.set o (.arr (.own 0) st sz (setAt rows p fun _ => rowsE (mkL k l)))) := by
    refine W_fn rfl Tryz.func112 rfl rfl (by simp [Tryz.f112]) ?_
    simp only [Tryz.f112]
    repeat' first|refine W_seq ?_|refine W_block ?_|refine W_skip ?_|refine W_ret ?_|refine W_exit ?_|refine xb_hit ?_|refine xb_miss (by decide) ?_|(apply W_reg;(simp;exact .r _))
    have hst : σ = σ.set o (.arr (.own 0) st sz (setAt rows p fun _ => rowsE (mkU k l 0))) := by
      rw [mkU_zero, setAt_id hnm.2.2, ← hob]
      cases σ; simp only [Sto.set]; congr 1; funext x; unfold upd; split
      · rename_i e; rw [e]
      · rfl
    refine W_loop (n := l.length) (fun n s => ∃ i : Nat, n = l.length - i ∧ s.nt = 19 ∧ s.tm 0 = .ref o v p ∧ s.tm 1 = In (k + cntL (l.take i)) ∧ s.tm 5 = In i ∧ i ≤ l.length ∧ s.σ = σ.set o (.arr (.own 0) st sz (setAt rows p fun _ => rowsE (mkU k l i)))) ⟨0, by simp [cntL]; exact hst⟩ ?_
    rintro n ⟨nt, tm, σ⟩ ⟨i, rfl, hnt, h0, h1, h5, hi, hs⟩
    simp only at hnt h0 h1 h5 hs
    subst hnt
    subst hs
    have hnm1 : Nm st (setAt rows p fun _ => rowsE (mkU k l i)) v p (rowsE (mkU k l i)) := hnm.set (by simp [mkU_len])
    have hrw := hnm1.rows (sz := sz)
    have hlen : (rowsE (mkU k l i)).length = l.length := by simp [mkU_len]
    have hcl := cntL_take_le l i
    repeat' first|refine W_seq ?_|refine W_block ?_|refine W_skip ?_|refine W_ret ?_|refine W_exit ?_|refine xb_hit ?_|refine xb_miss (by decide) ?_|(apply W_reg;(simp [-VO.rows, h0, h1, h5, hrw, hlen];exact .r _))
    refine W_cond (by simp [-VO.rows, h0, h1, h5]; exact .r _) (fun hc => ?_) (fun hc => ?_)
    · have hil : i < l.length := by simpa using hc
      have hg : (rowsE (mkU k l i))[i]? = some [.i .i64 l[i]] := by simp [rowsE, mkU_get k l i hil]
      have hct := cntL_take l i hil
      have hcl2 := cntL_take_le l (i + 1)
      have hset := mkU_set k l i hil
      repeat' first|refine W_seq ?_|refine W_block ?_|refine W_skip ?_|refine W_ret ?_|refine W_exit ?_|refine xb_hit ?_|refine xb_miss (by decide) ?_|(apply W_reg;(simp [-VO.rows, h0, h1, h5, hrw, hg, hil];exact .r _))
      refine ⟨_, ?_, i + 1, rfl, rfl, by simp [h0], ?_, ?_, by omega, ?_⟩
      · omega
      · simp; rw [hct, wrap_ok (by omega) (by omega)]; simp only [cnt_int]; omega
      · simp [h5]; exact wrap_succ (by omega)
      · simp only [Sto.set, upd_upd, setAt_set]
        rw [← hset, rowsE_set]; rfl
    · have hil : i = l.length := by simp at hc; omega
      subst hil
      repeat' first|refine W_seq ?_|refine W_block ?_|refine W_skip ?_|refine W_ret ?_|refine W_exit ?_|refine xb_hit ?_|refine xb_miss (by decide) ?_|(apply W_reg;(simp [-VO.rows, h0, h1, h5];exact .r _))
      simp only [mkU_all, List.take_length] at *
      exact ⟨In (k + cntL l), by simp [h1], rfl, rfl⟩
  obtain ⟨r, σ', h1, h2, h3⟩ := key
  rw [h1, h2, h3]
theorem markIntS_c (σ : Sto) (o v st sz : Nat) (p : List (Nat × Nat)) (rows : List (List T)) (l : List (Int)) (hob : σ.ob o = .arr (.own 0) st sz rows) (hnm : Nm st rows v p (rowsE l)) (k : Int) (h0 : 0 ≤ k) (hk : k + cntL l ≤ 4611686018427387903) (hl : Lw.bd 1048576 l) :
    callV Ms XX σ 112 [.ref o v p, In k] = some (In (k + cntL l), σ.set o (.arr (.own 0) st sz (setAt rows p fun _ => rowsE (mkL k l)))) := callV_d (by rfl) (markIntS_m σ o v st sz p rows l hob hnm k h0 hk hl) rfl
theorem mkLenIntS (k : Int) (l : List (Int)) : (rowsE (mkL k l)).length = l.length := by simp [mkL_len]
theorem heldIntS_r (l : List (Int)) (k : Int) (h0 : 0 ≤ k) (hk : k + cntL l ≤ 4611686018427387903) (hl : Lw.bd 1048576 l) : Ret XX 114 [Ar (mkL k l), In k] (.t (.i .i64 (k + cntL l)) false) := by
  have hn := hl.1
  have hlen := mkLenIntS k l
  refine ret_W rfl Tryz.func114 rfl rfl (by simp [Tryz.f114]) ?_
  simp only [Tryz.f114]
  repeat' first|refine W_seq ?_|refine W_block ?_|refine W_skip ?_|refine W_ret ?_|refine W_exit ?_|refine xb_hit ?_|refine xb_miss (by decide) ?_|(apply W_reg;(simp;exact .r _))
  refine W_loop (n := l.length) (fun n s => ∃ i : Nat, n = l.length - i ∧ s.nt = 21 ∧ s.tm 0 = Ar (mkL k l) ∧ s.tm 1 = In (k + cntL (l.take i)) ∧ s.tm 5 = In i ∧ i ≤ l.length) ⟨0, by simp [cntL]⟩ ?_
  rintro n ⟨nt, tm, σ⟩ ⟨i, rfl, hnt, h0, h1, h5, hi⟩
  simp only at hnt h0 h1 h5
  subst hnt
  have hcl := cntL_take_le l i
  repeat' first|refine W_seq ?_|refine W_block ?_|refine W_skip ?_|refine W_ret ?_|refine W_exit ?_|refine xb_hit ?_|refine xb_miss (by decide) ?_|(apply W_reg;(simp [h0, h1, h5, mkL_len];exact .r _))
  refine W_cond (by simp [h0, h1, h5]; exact .r _) (fun hc => ?_) (fun hc => ?_)
  · have hil : i < l.length := by simpa using hc
    have hg : (rowsE (mkL k l))[i]? = some [.i .i64 (k + cntL (l.take i))] := by rw [rowsE, List.getElem?_map, mkL_get k l i hil]; rfl
    have hct := cntL_take l i hil
    have hcl2 := cntL_take_le l (i + 1)
    repeat' first|refine W_seq ?_|refine W_block ?_|refine W_skip ?_|refine W_ret ?_|refine W_exit ?_|refine xb_hit ?_|refine xb_miss (by decide) ?_|(apply W_reg;(simp [h0, h1, h5, hg, hil];exact .r _))
    refine W_cond (by simp [h0, h1, h5]; exact .r _) (fun hd => ?_) (fun hd => ?_)
    · simp at hd
    · repeat' first|refine W_seq ?_|refine W_block ?_|refine W_skip ?_|refine W_ret ?_|refine W_exit ?_|refine xb_hit ?_|refine xb_miss (by decide) ?_|(apply W_reg;(simp [h0, h1, h5];exact .r _))
      refine ⟨_, ?_, i + 1, rfl, rfl, ?_, by (simp [h1]; rw [hct, wrap_ok (by omega) (by omega)]; simp only [cnt_int]; omega), ?_, by omega⟩
      all_goals first|assumption|(simp [h0, h1, h5];done)|(simp [h0, h1, h5];omega)|(simp [h0, h1, h5];exact wrap_succ (by omega))|omega
  · have hil : i = l.length := by simp at hc; omega
    subst hil
    repeat' first|refine W_seq ?_|refine W_block ?_|refine W_skip ?_|refine W_ret ?_|refine W_exit ?_|refine xb_hit ?_|refine xb_miss (by decide) ?_|(apply W_reg;(simp [h0, h1, h5];exact .r _))
    simp [h1, List.take_length]
theorem szIntSS_r (l : List (List (Int))) (left : Int) (h0 : 0 ≤ left) (h1 : left ≤ 1048576) (hf : Fit l) : Ret XX 283 [Ar l, In left] (.t (.i .i64 (szA (Lw.w l) left)) false) := by
  have hl : l.length ≤ 9223372036854775807 := hf.1
  have hwl : Lw.w l = wL l := rfl
  rw [hwl]
  refine ret_W rfl Tryz.func283 rfl rfl (by simp [Tryz.f283]) ?_
  simp only [Tryz.f283]
  have hw : IntKind.i64.wrap (left - l.length) = left - l.length := wrap_ok (by omega) (by omega)
  repeat' first|refine W_seq ?_|refine W_block ?_|refine W_skip ?_|refine W_ret ?_|refine W_exit ?_|refine xb_hit ?_|refine xb_miss (by decide) ?_|(apply W_reg;(simp [hw];exact .r _))
  refine W_cond (by simp; exact .r _) (fun hc => ?_) (fun hc => ?_)
  · repeat' first|refine W_seq ?_|refine W_block ?_|refine W_skip ?_|refine W_ret ?_|refine W_exit ?_|refine xb_hit ?_|refine xb_miss (by decide) ?_|(apply W_reg;(simp;exact .r _))
    have hgt : ¬ (l.length : Int) ≤ left := by simp at hc; omega
    have : ¬ ((wL l : Nat) : Int) ≤ left := by unfold wL; omega
    simp [szA, this]
  have hle : (l.length : Int) ≤ left := by simp at hc; omega
  repeat' first|refine W_seq ?_|refine W_block ?_|refine W_skip ?_|refine W_ret ?_|refine W_exit ?_|refine xb_hit ?_|refine xb_miss (by decide) ?_|(apply W_reg;(simp;exact .r _))
  refine W_loop (n := l.length) (fun n s => ∃ i : Nat, ∃ r : Int, n = l.length - i ∧ s.nt = 27 ∧ s.tm 0 = Ar l ∧ s.tm 1 = In r ∧ s.tm 5 = In i ∧ i ≤ l.length ∧ 0 ≤ r ∧ r = left - l.length - ((l.take i).map Lw.w).sum) ⟨0, left - l.length, by simp <;> omega⟩ ?_
  rintro n ⟨nt, tm, σ⟩ ⟨i, r, rfl, hnt, h0, h1, h5, hi, hr, hre⟩
  simp only at hnt h0 h1 h5
  subst hnt
  repeat' first|refine W_seq ?_|refine W_block ?_|refine W_skip ?_|refine W_ret ?_|refine W_exit ?_|refine xb_hit ?_|refine xb_miss (by decide) ?_|(apply W_reg;(simp [h0, h1, h5];exact .r _))
  have hsplit : wL l = l.length + ((l.take i).map Lw.w).sum + ((l.drop i).map Lw.w).sum := by
    have := wL_split l i; unfold wL; omega
  refine W_cond (by simp [h0, h1, h5]; exact .r _) (fun hc => ?_) (fun hc => ?_)
  · have hil : i < l.length := by simp at hc; omega
    have hcc := cv (szIntS_r l[i] r hr (by omega) (hf.2 _ (List.getElem_mem hil)))
    repeat' first|refine W_seq ?_|refine W_block ?_|refine W_skip ?_|refine W_ret ?_|refine W_exit ?_|refine xb_hit ?_|refine xb_miss (by decide) ?_|(apply W_reg;(simp [h0, h1, h5, hil, hcc];exact .r _))
    have hd : ((l.drop i).map Lw.w).sum = Lw.w l[i] + ((l.drop (i + 1)).map Lw.w).sum := by rw [List.drop_eq_getElem_cons hil, List.map_cons, List.sum_cons]
    have ht := wL_take l i hil
    by_cases h : ((Lw.w l[i] : Nat) : Int) ≤ r
    · have h' : szA (Lw.w l[i]) r = r - Lw.w l[i] := by simp [szA, h]
      refine W_cond (by simp [h0, h1, h5]; exact .r _) (fun he => ?_) (fun he => ?_)
      · rw [h'] at he; simp at he; omega
      · repeat' first|refine W_seq ?_|refine W_block ?_|refine W_skip ?_|refine W_ret ?_|refine W_exit ?_|refine xb_hit ?_|refine xb_miss (by decide) ?_|(apply W_reg;(simp [h0, h1, h5];exact .r _))
        refine ⟨_, ?_, i + 1, szA (Lw.w l[i]) r, rfl, rfl, ?_, ?_, ?_, by omega, by (rw [h']; omega), by (rw [h', ht]; omega)⟩
        all_goals first|assumption|(simp [h0, h1, h5];done)|(simp [h0, h1, h5];omega)|(simp [h0, h1, h5];exact wrap_succ (by omega))|omega
    · refine W_cond (by simp [h0, h1, h5]; exact .r _) (fun he => ?_) (fun he => ?_)
      · repeat' first|refine W_seq ?_|refine W_block ?_|refine W_skip ?_|refine W_ret ?_|refine W_exit ?_|refine xb_hit ?_|refine xb_miss (by decide) ?_|(apply W_reg;(simp [h0, h1, h5];exact .r _))
        have : ¬ ((wL l : Nat) : Int) ≤ left := by rw [hsplit, hd]; omega
        simp [szA, this]
      · exfalso
        have h' : szA (Lw.w l[i]) r = -1 := by unfold szA; rw [if_neg h]
        rw [h'] at he; simp at he
  · have hil : i = l.length := by simp at hc; omega
    subst hil
    repeat' first|refine W_seq ?_|refine W_block ?_|refine W_skip ?_|refine W_ret ?_|refine W_exit ?_|refine xb_hit ?_|refine xb_miss (by decide) ?_|(apply W_reg;(simp [h0, h1, h5];exact .r _))
    rw [List.drop_length] at hsplit
    simp only [List.map_nil, List.sum_nil, Nat.add_zero] at hsplit
    have : ((wL l : Nat) : Int) ≤ left := by rw [hsplit]; omega
    have h9 : szA (wL l) left = r := by rw [szA, if_pos this, hsplit]; omega
    simp [h9]
theorem toIntSS_r (l : List (List (Int))) (hl : Lw.bd 1048576 l) : Ret XX 284 [Ar l] (.own 1 (rowsE l)) := by
  have hn := hl.1
  refine ret_W rfl Tryz.func284 rfl rfl (by simp [Tryz.f284]) ?_
  simp only [Tryz.f284]
  repeat' first|refine W_seq ?_|refine W_block ?_|refine W_skip ?_|refine W_ret ?_|refine W_exit ?_|refine xb_hit ?_|refine xb_miss (by decide) ?_|(apply W_reg;(simp [show l.length < 1099511627776 by omega];exact .r _))
  refine W_loop (n := l.length) (fun n s => ∃ i : Nat, ∃ st : Nat, n = l.length - i ∧ s.nt = 23 ∧ s.tm 0 = Ar l ∧ s.tm 3 = .ref 0 l.length [] ∧ s.tm 4 = In i ∧ i ≤ l.length ∧ s.σ.ob 0 = .arr (.own 0) st 1 (rowsE (l.take i ++ List.replicate (l.length - i) ([] : List (Int)))) ∧ 1 ≤ s.σ.n) ⟨0, 0, by simp [rowsE]⟩ ?_
  rintro n ⟨nt, tm, σ⟩ ⟨i, st, rfl, hnt, h0, h3, h4, hi, ho, hn1⟩
  simp only at hnt h0 h3 h4 ho hn1
  subst hnt
  repeat' first|refine W_seq ?_|refine W_block ?_|refine W_skip ?_|refine W_ret ?_|refine W_exit ?_|refine xb_hit ?_|refine xb_miss (by decide) ?_|(apply W_reg;(simp [h0, h3, h4, ho, hn1];exact .r _))
  refine W_cond (by simp [h0, h3, h4, ho, hn1]; exact .r _) (fun hc => ?_) (fun hc => ?_)
  · have hil : i < l.length := by simpa using hc
    have hle : i ≤ l.length := hi
    have e0 : ¬ (0 = σ.n) := by omega
    have e0' : ¬ (σ.n = 0) := by omega
    have hg : (rowsE (l.take i ++ List.replicate (l.length - i) ([] : List (Int))))[i]? = some (Enc.cells ([] : List (Int))) := fill_get l _ i hil
    have hfs := fill_set l ([] : List (Int)) i hil
    have hrl : (rowsE (l.take i ++ List.replicate (l.length - i) ([] : List (Int)))).length = l.length := fill_len l _ i hi
    simp only [cells_list, rowsE_nil] at hg
    have hcc := cv (toIntS_r l[i] (hl.2 _ (List.getElem_mem hil)))
    repeat' first|refine W_seq ?_|refine W_block ?_|refine W_skip ?_|refine W_ret ?_|refine W_exit ?_|refine xb_hit ?_|refine xb_miss (by decide) ?_|(apply W_reg;(simp [h0, h3, h4, ho, hn1, hil, hg, hrl, hle, hcc, e0, e0'];exact .r _))
    refine ⟨_, ?_, i + 1, st + 1, rfl, rfl, ?_, ?_, ?_, by omega, by (simp [e0, e0']; rw [← hfs, rowsE_set]; rfl), ?_⟩
    all_goals first|assumption|(simp [h0, h3, h4, ho, hn1, e0, e0'];done)|(simp [h0, h3, h4, ho, hn1, e0, e0'];omega)|(simp [h0, h3, h4, ho, hn1, e0, e0'];exact wrap_succ (by omega))|omega
  · have hil : i = l.length := by simp at hc; omega
    subst hil
    repeat' first|refine W_seq ?_|refine W_block ?_|refine W_skip ?_|refine W_ret ?_|refine W_exit ?_|refine xb_hit ?_|refine xb_miss (by decide) ?_|(apply W_reg;(simp [h0, h3, h4, ho, hn1];exact .r _))
    simp [ho]
theorem eqIntSS_r (a b : List (List (Int))) (hl : Lw.bd 1048576 a) : Ret XX 280 [Ar a, Ar b] (.t (.b (decide (a = b))) false) := by
  have hn := hl.1
  refine ret_W rfl Tryz.func280 rfl rfl (by simp [Tryz.f280]) ?_
  simp only [Tryz.f280]
  repeat' first|refine W_seq ?_|refine W_block ?_|refine W_skip ?_|refine W_ret ?_|refine W_exit ?_|refine xb_hit ?_|refine xb_miss (by decide) ?_|(apply W_reg;(simp;exact .r _))
  refine W_cond (by simp; exact .r _) (fun hc => ?_) (fun hc => ?_)
  · repeat' first|refine W_seq ?_|refine W_block ?_|refine W_skip ?_|refine W_ret ?_|refine W_exit ?_|refine xb_hit ?_|refine xb_miss (by decide) ?_|(apply W_reg;(simp;exact .r _))
    have : a ≠ b := fun e => by subst e; simp at hc
    simp [this]
  have hll : a.length = b.length := by simp at hc; omega
  repeat' first|refine W_seq ?_|refine W_block ?_|refine W_skip ?_|refine W_ret ?_|refine W_exit ?_|refine xb_hit ?_|refine xb_miss (by decide) ?_|(apply W_reg;(simp;exact .r _))
  refine W_loop (n := a.length) (fun n s => ∃ i : Nat, n = a.length - i ∧ s.nt = 27 ∧ s.tm 0 = Ar a ∧ s.tm 1 = Ar b ∧ s.tm 5 = In i ∧ i ≤ a.length ∧ a.take i = b.take i) ⟨0, by simp⟩ ?_
  rintro n ⟨nt, tm, σ⟩ ⟨i, rfl, hnt, h0, h1, h5, hi, heq⟩
  simp only at hnt h0 h1 h5
  subst hnt
  repeat' first|refine W_seq ?_|refine W_block ?_|refine W_skip ?_|refine W_ret ?_|refine W_exit ?_|refine xb_hit ?_|refine xb_miss (by decide) ?_|(apply W_reg;(simp [h0, h1, h5];exact .r _))
  refine W_cond (by simp [h0, h1, h5]; exact .r _) (fun hc => ?_) (fun hc => ?_)
  · have hia : i < a.length := by simpa using hc
    have hib : i < b.length := by omega
    have hcc := cv (eqIntS_r a[i] b[i] (hl.2 _ (List.getElem_mem hia)))
    repeat' first|refine W_seq ?_|refine W_block ?_|refine W_skip ?_|refine W_ret ?_|refine W_exit ?_|refine xb_hit ?_|refine xb_miss (by decide) ?_|(apply W_reg;(simp [h0, h1, h5, hia, hib, hcc];exact .r _))|(apply W_draw (id := 6) [0,0,3,7,0,0,48,112,255,511] rfl rfl; (· simp; exact .r _); (· simp [h0, h1, h5, hia, hib, hcc]; exact .r _); (· first|trivial|simp))
    refine W_cond (by simp [h0, h1, h5]; exact .r _) (fun hd => ?_) (fun hd => ?_)
    · repeat' first|refine W_seq ?_|refine W_block ?_|refine W_skip ?_|refine W_ret ?_|refine W_exit ?_|refine xb_hit ?_|refine xb_miss (by decide) ?_|(apply W_reg;(simp [h0, h1, h5];exact .r _))
      have : a ≠ b := fun e => by subst e; simp at hd
      simp [this]
    · have hd : a[i] = b[i] := by simpa using hd
      repeat' first|refine W_seq ?_|refine W_block ?_|refine W_skip ?_|refine W_ret ?_|refine W_exit ?_|refine xb_hit ?_|refine xb_miss (by decide) ?_|(apply W_reg;(simp [h0, h1, h5];exact .r _))
      refine ⟨_, ?_, i + 1, rfl, rfl, ?_, ?_, ?_, by omega, by rw [List.take_succ_eq_append_getElem hia, List.take_succ_eq_append_getElem hib, heq, hd]⟩
      all_goals first|assumption|(simp [h0, h1, h5];done)|(simp [h0, h1, h5];omega)|(simp [h0, h1, h5];exact wrap_succ (by omega))|omega
  · have hil : i = a.length := by simp at hc; omega
    subst hil
    repeat' first|refine W_seq ?_|refine W_block ?_|refine W_skip ?_|refine W_ret ?_|refine W_exit ?_|refine xb_hit ?_|refine xb_miss (by decide) ?_|(apply W_reg;(simp [h0, h1, h5];exact .r _))
    rw [List.take_length, hll, List.take_length] at heq
    have : a = b := heq
    simp [this]
theorem markIntSS_m (σ : Sto) (o v st sz : Nat) (p : List (Nat × Nat)) (rows : List (List T)) (l : List (List (Int))) (hob : σ.ob o = .arr (.own 0) st sz rows) (hnm : Nm st rows v p (rowsE l)) (k : Int) (h0 : 0 ≤ k) (hk : k + cntL l ≤ 4611686018427387903) (hl : Lw.bd 1048576 l) :
    XX 281 [.ref o v p, In k] σ = some (In (k + cntL l), σ.set o (.arr (.own 0) st sz (setAt rows p fun _ => rowsE (mkL k l)))) := by
  have hn := hl.1
  have key : ∃ r σ', XX 281 [.ref o v p, In k] σ = some (r, σ') ∧ (r = In (k + cntL l) ∧ σ' = σ.set o (.arr (.own 0) st sz (setAt rows p fun _ => rowsE (mkL k l)))) := by
    refine W_fn rfl Tryz.func281 rfl rfl (by simp [Tryz.f281]) ?_
    simp only [Tryz.f281]
    repeat' first|refine W_seq ?_|refine W_block ?_|refine W_skip ?_|refine W_ret ?_|refine W_exit ?_|refine xb_hit ?_|refine xb_miss (by decide) ?_|(apply W_reg;(simp;exact .r _))
    have hst : σ = σ.set o (.arr (.own 0) st sz (setAt rows p fun _ => rowsE (mkU k l 0))) := by
      rw [mkU_zero, setAt_id hnm.2.2, ← hob]
      cases σ; simp only [Sto.set]; congr 1; funext x; unfold upd; split
      · rename_i e; rw [e]
      · rfl
    refine W_loop (n := l.length) (fun n s => ∃ i : Nat, n = l.length - i ∧ s.nt = 19 ∧ s.tm 0 = .ref o v p ∧ s.tm 1 = In (k + cntL (l.take i)) ∧ s.tm 5 = In i ∧ i ≤ l.length ∧ s.σ = σ.set o (.arr (.own 0) st sz (setAt rows p fun _ => rowsE (mkU k l i)))) ⟨0, by simp [cntL]; exact hst⟩ ?_
    rintro n ⟨nt, tm, σ⟩ ⟨i, rfl, hnt, h0, h1, h5, hi, hs⟩
    simp only at hnt h0 h1 h5 hs
    subst hnt
    subst hs
    have hnm1 : Nm st (setAt rows p fun _ => rowsE (mkU k l i)) v p (rowsE (mkU k l i)) := hnm.set (by simp [mkU_len])
    have hrw := hnm1.rows (sz := sz)
    have hlen : (rowsE (mkU k l i)).length = l.length := by simp [mkU_len]
    have hcl := cntL_take_le l i
    repeat' first|refine W_seq ?_|refine W_block ?_|refine W_skip ?_|refine W_ret ?_|refine W_exit ?_|refine xb_hit ?_|refine xb_miss (by decide) ?_|(apply W_reg;(simp [-VO.rows, h0, h1, h5, hrw, hlen];exact .r _))
    refine W_cond (by simp [-VO.rows, h0, h1, h5]; exact .r _) (fun hc => ?_) (fun hc => ?_)
    · have hil : i < l.length := by simpa using hc
      have hg : (rowsE (mkU k l i))[i]? = some [.sl (rowsE l[i])] := by simp [rowsE, mkU_get k l i hil]
      have hct := cntL_take l i hil
      have hcl2 := cntL_take_le l (i + 1)
      have hset := mkU_set k l i hil
      have hin := hnm1.inner (i := i) (j := 0) hg rfl
      simp only [cnt_list] at hct
      have hcc := markIntS_c (σ.set o (.arr (.own 0) st sz (setAt rows p fun _ => rowsE (mkU k l i)))) o st st sz (p ++ [(i, 0)]) _ l[i] (by simp) hin (k + cntL (l.take i)) (by omega) (by omega) (hl.2 _ (List.getElem_mem hil))
      simp only [Sto.set] at hcc
      repeat' first|refine W_seq ?_|refine W_block ?_|refine W_skip ?_|refine W_ret ?_|refine W_exit ?_|refine xb_hit ?_|refine xb_miss (by decide) ?_|(apply W_reg;(simp [-VO.rows, h0, h1, h5, hrw, hg, hil, hcc];exact .r _))
      refine ⟨_, ?_, i + 1, rfl, rfl, by simp [h0], ?_, ?_, by omega, ?_⟩
      · omega
      · simp; rw [hct]; omega
      · simp [h5]; exact wrap_succ (by omega)
      · simp only [Sto.set, upd_upd, setAt_app, setAt_set]
        rw [← hset, rowsE_set]
        congr 3
        exact congrArg (setAt rows p) (funext fun _ => setAt_one hg rfl)
    · have hil : i = l.length := by simp at hc; omega
      subst hil
      repeat' first|refine W_seq ?_|refine W_block ?_|refine W_skip ?_|refine W_ret ?_|refine W_exit ?_|refine xb_hit ?_|refine xb_miss (by decide) ?_|(apply W_reg;(simp [-VO.rows, h0, h1, h5];exact .r _))
      simp only [mkU_all, List.take_length] at *
      exact ⟨In (k + cntL l), by simp [h1], rfl, rfl⟩
  obtain ⟨r, σ', h1, h2, h3⟩ := key
  rw [h1, h2, h3]
theorem markIntSS_c (σ : Sto) (o v st sz : Nat) (p : List (Nat × Nat)) (rows : List (List T)) (l : List (List (Int))) (hob : σ.ob o = .arr (.own 0) st sz rows) (hnm : Nm st rows v p (rowsE l)) (k : Int) (h0 : 0 ≤ k) (hk : k + cntL l ≤ 4611686018427387903) (hl : Lw.bd 1048576 l) :
    callV Ms XX σ 281 [.ref o v p, In k] = some (In (k + cntL l), σ.set o (.arr (.own 0) st sz (setAt rows p fun _ => rowsE (mkL k l)))) := callV_d (by rfl) (markIntSS_m σ o v st sz p rows l hob hnm k h0 hk hl) rfl
theorem mkLenIntSS (k : Int) (l : List (List (Int))) : (rowsE (mkL k l)).length = l.length := by simp [mkL_len]
theorem heldIntSS_r (l : List (List (Int))) (k : Int) (h0 : 0 ≤ k) (hk : k + cntL l ≤ 4611686018427387903) (hl : Lw.bd 1048576 l) : Ret XX 282 [Ar (mkL k l), In k] (.t (.i .i64 (k + cntL l)) false) := by
  have hn := hl.1
  have hlen := mkLenIntSS k l
  refine ret_W rfl Tryz.func282 rfl rfl (by simp [Tryz.f282]) ?_
  simp only [Tryz.f282]
  repeat' first|refine W_seq ?_|refine W_block ?_|refine W_skip ?_|refine W_ret ?_|refine W_exit ?_|refine xb_hit ?_|refine xb_miss (by decide) ?_|(apply W_reg;(simp;exact .r _))
  refine W_loop (n := l.length) (fun n s => ∃ i : Nat, n = l.length - i ∧ s.nt = 21 ∧ s.tm 0 = Ar (mkL k l) ∧ s.tm 1 = In (k + cntL (l.take i)) ∧ s.tm 5 = In i ∧ i ≤ l.length) ⟨0, by simp [cntL]⟩ ?_
  rintro n ⟨nt, tm, σ⟩ ⟨i, rfl, hnt, h0, h1, h5, hi⟩
  simp only at hnt h0 h1 h5
  subst hnt
  have hcl := cntL_take_le l i
  repeat' first|refine W_seq ?_|refine W_block ?_|refine W_skip ?_|refine W_ret ?_|refine W_exit ?_|refine xb_hit ?_|refine xb_miss (by decide) ?_|(apply W_reg;(simp [h0, h1, h5, mkL_len];exact .r _))
  refine W_cond (by simp [h0, h1, h5]; exact .r _) (fun hc => ?_) (fun hc => ?_)
  · have hil : i < l.length := by simpa using hc
    have hlx := hl.2 _ (List.getElem_mem hil)
    have hcut : Mk.cnt l[i] = cntL l[i] := rfl
    have hg : (rowsE (mkL k l))[i]? = some [.sl (rowsE (mkL (k + cntL (l.take i)) l[i]))] := by rw [rowsE, List.getElem?_map, mkL_get k l i hil]; rfl
    have hct := cntL_take l i hil
    have hcl2 := cntL_take_le l (i + 1)
    have cc0 := cv (heldIntS_r l[i] (k + cntL (l.take i)) (by omega) (by omega) (hlx))
    repeat' first|refine W_seq ?_|refine W_block ?_|refine W_skip ?_|refine W_ret ?_|refine W_exit ?_|refine xb_hit ?_|refine xb_miss (by decide) ?_|(apply W_reg;(simp [h0, h1, h5, hg, hil, cc0];exact .r _))
    refine W_cond (by simp [h0, h1, h5]; exact .r _) (fun hd => ?_) (fun hd => ?_)
    · exfalso; revert hd; simp; try omega
    repeat' first|refine W_seq ?_|refine W_block ?_|refine W_skip ?_|refine W_ret ?_|refine W_exit ?_|refine xb_hit ?_|refine xb_miss (by decide) ?_|(apply W_reg;(simp [h0, h1, h5];exact .r _))
    refine ⟨_, ?_, i + 1, rfl, rfl, ?_, by (first | (simp [h1]; rw [wrap_ok (by omega) (by omega), hct]; omega) | (simp [h1]; rw [hct]; omega) | (simp [h1]; omega)), ?_, by omega⟩
    all_goals first|assumption|(simp [h0, h1, h5];done)|(simp [h0, h1, h5];omega)|(simp [h0, h1, h5];exact wrap_succ (by omega))|omega
  · have hil : i = l.length := by simp at hc; omega
    subst hil
    repeat' first|refine W_seq ?_|refine W_block ?_|refine W_skip ?_|refine W_ret ?_|refine W_exit ?_|refine xb_hit ?_|refine xb_miss (by decide) ?_|(apply W_reg;(simp [h0, h1, h5];exact .r _))
    simp [h1, List.take_length]
theorem szIntSSS_r (l : List (List (List (Int)))) (left : Int) (h0 : 0 ≤ left) (h1 : left ≤ 1048576) (hf : Fit l) : Ret XX 214 [Ar l, In left] (.t (.i .i64 (szA (Lw.w l) left)) false) := by
  have hl : l.length ≤ 9223372036854775807 := hf.1
  have hwl : Lw.w l = wL l := rfl
  rw [hwl]
  refine ret_W rfl Tryz.func214 rfl rfl (by simp [Tryz.f214]) ?_
  simp only [Tryz.f214]
  have hw : IntKind.i64.wrap (left - l.length) = left - l.length := wrap_ok (by omega) (by omega)
  repeat' first|refine W_seq ?_|refine W_block ?_|refine W_skip ?_|refine W_ret ?_|refine W_exit ?_|refine xb_hit ?_|refine xb_miss (by decide) ?_|(apply W_reg;(simp [hw];exact .r _))
  refine W_cond (by simp; exact .r _) (fun hc => ?_) (fun hc => ?_)
  · repeat' first|refine W_seq ?_|refine W_block ?_|refine W_skip ?_|refine W_ret ?_|refine W_exit ?_|refine xb_hit ?_|refine xb_miss (by decide) ?_|(apply W_reg;(simp;exact .r _))
    have hgt : ¬ (l.length : Int) ≤ left := by simp at hc; omega
    have : ¬ ((wL l : Nat) : Int) ≤ left := by unfold wL; omega
    simp [szA, this]
  have hle : (l.length : Int) ≤ left := by simp at hc; omega
  repeat' first|refine W_seq ?_|refine W_block ?_|refine W_skip ?_|refine W_ret ?_|refine W_exit ?_|refine xb_hit ?_|refine xb_miss (by decide) ?_|(apply W_reg;(simp;exact .r _))
  refine W_loop (n := l.length) (fun n s => ∃ i : Nat, ∃ r : Int, n = l.length - i ∧ s.nt = 27 ∧ s.tm 0 = Ar l ∧ s.tm 1 = In r ∧ s.tm 5 = In i ∧ i ≤ l.length ∧ 0 ≤ r ∧ r = left - l.length - ((l.take i).map Lw.w).sum) ⟨0, left - l.length, by simp <;> omega⟩ ?_
  rintro n ⟨nt, tm, σ⟩ ⟨i, r, rfl, hnt, h0, h1, h5, hi, hr, hre⟩
  simp only at hnt h0 h1 h5
  subst hnt
  repeat' first|refine W_seq ?_|refine W_block ?_|refine W_skip ?_|refine W_ret ?_|refine W_exit ?_|refine xb_hit ?_|refine xb_miss (by decide) ?_|(apply W_reg;(simp [h0, h1, h5];exact .r _))
  have hsplit : wL l = l.length + ((l.take i).map Lw.w).sum + ((l.drop i).map Lw.w).sum := by
    have := wL_split l i; unfold wL; omega
  refine W_cond (by simp [h0, h1, h5]; exact .r _) (fun hc => ?_) (fun hc => ?_)
  · have hil : i < l.length := by simp at hc; omega
    have hcc := cv (szIntSS_r l[i] r hr (by omega) (hf.2 _ (List.getElem_mem hil)))
    repeat' first|refine W_seq ?_|refine W_block ?_|refine W_skip ?_|refine W_ret ?_|refine W_exit ?_|refine xb_hit ?_|refine xb_miss (by decide) ?_|(apply W_reg;(simp [h0, h1, h5, hil, hcc];exact .r _))
    have hd : ((l.drop i).map Lw.w).sum = Lw.w l[i] + ((l.drop (i + 1)).map Lw.w).sum := by rw [List.drop_eq_getElem_cons hil, List.map_cons, List.sum_cons]
    have ht := wL_take l i hil
    by_cases h : ((Lw.w l[i] : Nat) : Int) ≤ r
    · have h' : szA (Lw.w l[i]) r = r - Lw.w l[i] := by simp [szA, h]
      refine W_cond (by simp [h0, h1, h5]; exact .r _) (fun he => ?_) (fun he => ?_)
      · rw [h'] at he; simp at he; omega
      · repeat' first|refine W_seq ?_|refine W_block ?_|refine W_skip ?_|refine W_ret ?_|refine W_exit ?_|refine xb_hit ?_|refine xb_miss (by decide) ?_|(apply W_reg;(simp [h0, h1, h5];exact .r _))
        refine ⟨_, ?_, i + 1, szA (Lw.w l[i]) r, rfl, rfl, ?_, ?_, ?_, by omega, by (rw [h']; omega), by (rw [h', ht]; omega)⟩
        all_goals first|assumption|(simp [h0, h1, h5];done)|(simp [h0, h1, h5];omega)|(simp [h0, h1, h5];exact wrap_succ (by omega))|omega
    · refine W_cond (by simp [h0, h1, h5]; exact .r _) (fun he => ?_) (fun he => ?_)
      · repeat' first|refine W_seq ?_|refine W_block ?_|refine W_skip ?_|refine W_ret ?_|refine W_exit ?_|refine xb_hit ?_|refine xb_miss (by decide) ?_|(apply W_reg;(simp [h0, h1, h5];exact .r _))
        have : ¬ ((wL l : Nat) : Int) ≤ left := by rw [hsplit, hd]; omega
        simp [szA, this]
      · exfalso
        have h' : szA (Lw.w l[i]) r = -1 := by unfold szA; rw [if_neg h]
        rw [h'] at he; simp at he
  · have hil : i = l.length := by simp at hc; omega
    subst hil
    repeat' first|refine W_seq ?_|refine W_block ?_|refine W_skip ?_|refine W_ret ?_|refine W_exit ?_|refine xb_hit ?_|refine xb_miss (by decide) ?_|(apply W_reg;(simp [h0, h1, h5];exact .r _))
    rw [List.drop_length] at hsplit
    simp only [List.map_nil, List.sum_nil, Nat.add_zero] at hsplit
    have : ((wL l : Nat) : Int) ≤ left := by rw [hsplit]; omega
    have h9 : szA (wL l) left = r := by rw [szA, if_pos this, hsplit]; omega
    simp [h9]
theorem toIntSSS_r (l : List (List (List (Int)))) (hl : Lw.bd 1048576 l) : Ret XX 217 [Ar l] (.own 1 (rowsE l)) := by
  have hn := hl.1
  refine ret_W rfl Tryz.func217 rfl rfl (by simp [Tryz.f217]) ?_
  simp only [Tryz.f217]
  repeat' first|refine W_seq ?_|refine W_block ?_|refine W_skip ?_|refine W_ret ?_|refine W_exit ?_|refine xb_hit ?_|refine xb_miss (by decide) ?_|(apply W_reg;(simp [show l.length < 1099511627776 by omega];exact .r _))
  refine W_loop (n := l.length) (fun n s => ∃ i : Nat, ∃ st : Nat, n = l.length - i ∧ s.nt = 23 ∧ s.tm 0 = Ar l ∧ s.tm 3 = .ref 0 l.length [] ∧ s.tm 4 = In i ∧ i ≤ l.length ∧ s.σ.ob 0 = .arr (.own 0) st 1 (rowsE (l.take i ++ List.replicate (l.length - i) ([] : List (List (Int))))) ∧ 1 ≤ s.σ.n) ⟨0, 0, by simp [rowsE]⟩ ?_
  rintro n ⟨nt, tm, σ⟩ ⟨i, st, rfl, hnt, h0, h3, h4, hi, ho, hn1⟩
  simp only at hnt h0 h3 h4 ho hn1
  subst hnt
  repeat' first|refine W_seq ?_|refine W_block ?_|refine W_skip ?_|refine W_ret ?_|refine W_exit ?_|refine xb_hit ?_|refine xb_miss (by decide) ?_|(apply W_reg;(simp [h0, h3, h4, ho, hn1];exact .r _))
  refine W_cond (by simp [h0, h3, h4, ho, hn1]; exact .r _) (fun hc => ?_) (fun hc => ?_)
  · have hil : i < l.length := by simpa using hc
    have hle : i ≤ l.length := hi
    have e0 : ¬ (0 = σ.n) := by omega
    have e0' : ¬ (σ.n = 0) := by omega
    have hg : (rowsE (l.take i ++ List.replicate (l.length - i) ([] : List (List (Int)))))[i]? = some (Enc.cells ([] : List (List (Int)))) := fill_get l _ i hil
    have hfs := fill_set l ([] : List (List (Int))) i hil
    have hrl : (rowsE (l.take i ++ List.replicate (l.length - i) ([] : List (List (Int))))).length = l.length := fill_len l _ i hi
    simp only [cells_list, rowsE_nil] at hg
    have hcc := cv (toIntSS_r l[i] (hl.2 _ (List.getElem_mem hil)))
    repeat' first|refine W_seq ?_|refine W_block ?_|refine W_skip ?_|refine W_ret ?_|refine W_exit ?_|refine xb_hit ?_|refine xb_miss (by decide) ?_|(apply W_reg;(simp [h0, h3, h4, ho, hn1, hil, hg, hrl, hle, hcc, e0, e0'];exact .r _))
    refine ⟨_, ?_, i + 1, st + 1, rfl, rfl, ?_, ?_, ?_, by omega, by (simp [e0, e0']; rw [← hfs, rowsE_set]; rfl), ?_⟩
    all_goals first|assumption|(simp [h0, h3, h4, ho, hn1, e0, e0'];done)|(simp [h0, h3, h4, ho, hn1, e0, e0'];omega)|(simp [h0, h3, h4, ho, hn1, e0, e0'];exact wrap_succ (by omega))|omega
  · have hil : i = l.length := by simp at hc; omega
    subst hil
    repeat' first|refine W_seq ?_|refine W_block ?_|refine W_skip ?_|refine W_ret ?_|refine W_exit ?_|refine xb_hit ?_|refine xb_miss (by decide) ?_|(apply W_reg;(simp [h0, h3, h4, ho, hn1];exact .r _))
    simp [ho]
theorem eqIntSSS_r (a b : List (List (List (Int)))) (hl : Lw.bd 1048576 a) : Ret XX 210 [Ar a, Ar b] (.t (.b (decide (a = b))) false) := by
  have hn := hl.1
  refine ret_W rfl Tryz.func210 rfl rfl (by simp [Tryz.f210]) ?_
  simp only [Tryz.f210]
  repeat' first|refine W_seq ?_|refine W_block ?_|refine W_skip ?_|refine W_ret ?_|refine W_exit ?_|refine xb_hit ?_|refine xb_miss (by decide) ?_|(apply W_reg;(simp;exact .r _))
  refine W_cond (by simp; exact .r _) (fun hc => ?_) (fun hc => ?_)
  · repeat' first|refine W_seq ?_|refine W_block ?_|refine W_skip ?_|refine W_ret ?_|refine W_exit ?_|refine xb_hit ?_|refine xb_miss (by decide) ?_|(apply W_reg;(simp;exact .r _))
    have : a ≠ b := fun e => by subst e; simp at hc
    simp [this]
  have hll : a.length = b.length := by simp at hc; omega
  repeat' first|refine W_seq ?_|refine W_block ?_|refine W_skip ?_|refine W_ret ?_|refine W_exit ?_|refine xb_hit ?_|refine xb_miss (by decide) ?_|(apply W_reg;(simp;exact .r _))
  refine W_loop (n := a.length) (fun n s => ∃ i : Nat, n = a.length - i ∧ s.nt = 27 ∧ s.tm 0 = Ar a ∧ s.tm 1 = Ar b ∧ s.tm 5 = In i ∧ i ≤ a.length ∧ a.take i = b.take i) ⟨0, by simp⟩ ?_
  rintro n ⟨nt, tm, σ⟩ ⟨i, rfl, hnt, h0, h1, h5, hi, heq⟩
  simp only at hnt h0 h1 h5
  subst hnt
  repeat' first|refine W_seq ?_|refine W_block ?_|refine W_skip ?_|refine W_ret ?_|refine W_exit ?_|refine xb_hit ?_|refine xb_miss (by decide) ?_|(apply W_reg;(simp [h0, h1, h5];exact .r _))
  refine W_cond (by simp [h0, h1, h5]; exact .r _) (fun hc => ?_) (fun hc => ?_)
  · have hia : i < a.length := by simpa using hc
    have hib : i < b.length := by omega
    have hcc := cv (eqIntSS_r a[i] b[i] (hl.2 _ (List.getElem_mem hia)))
    repeat' first|refine W_seq ?_|refine W_block ?_|refine W_skip ?_|refine W_ret ?_|refine W_exit ?_|refine xb_hit ?_|refine xb_miss (by decide) ?_|(apply W_reg;(simp [h0, h1, h5, hia, hib, hcc];exact .r _))|(apply W_draw (id := 6) [0,0,3,7,0,0,48,112,255,511] rfl rfl; (· simp; exact .r _); (· simp [h0, h1, h5, hia, hib, hcc]; exact .r _); (· first|trivial|simp))
    refine W_cond (by simp [h0, h1, h5]; exact .r _) (fun hd => ?_) (fun hd => ?_)
    · repeat' first|refine W_seq ?_|refine W_block ?_|refine W_skip ?_|refine W_ret ?_|refine W_exit ?_|refine xb_hit ?_|refine xb_miss (by decide) ?_|(apply W_reg;(simp [h0, h1, h5];exact .r _))
      have : a ≠ b := fun e => by subst e; simp at hd
      simp [this]
    · have hd : a[i] = b[i] := by simpa using hd
      repeat' first|refine W_seq ?_|refine W_block ?_|refine W_skip ?_|refine W_ret ?_|refine W_exit ?_|refine xb_hit ?_|refine xb_miss (by decide) ?_|(apply W_reg;(simp [h0, h1, h5];exact .r _))
      refine ⟨_, ?_, i + 1, rfl, rfl, ?_, ?_, ?_, by omega, by rw [List.take_succ_eq_append_getElem hia, List.take_succ_eq_append_getElem hib, heq, hd]⟩
      all_goals first|assumption|(simp [h0, h1, h5];done)|(simp [h0, h1, h5];omega)|(simp [h0, h1, h5];exact wrap_succ (by omega))|omega
  · have hil : i = a.length := by simp at hc; omega
    subst hil
    repeat' first|refine W_seq ?_|refine W_block ?_|refine W_skip ?_|refine W_ret ?_|refine W_exit ?_|refine xb_hit ?_|refine xb_miss (by decide) ?_|(apply W_reg;(simp [h0, h1, h5];exact .r _))
    rw [List.take_length, hll, List.take_length] at heq
    have : a = b := heq
    simp [this]
theorem markIntSSS_m (σ : Sto) (o v st sz : Nat) (p : List (Nat × Nat)) (rows : List (List T)) (l : List (List (List (Int)))) (hob : σ.ob o = .arr (.own 0) st sz rows) (hnm : Nm st rows v p (rowsE l)) (k : Int) (h0 : 0 ≤ k) (hk : k + cntL l ≤ 4611686018427387903) (hl : Lw.bd 1048576 l) :
    XX 211 [.ref o v p, In k] σ = some (In (k + cntL l), σ.set o (.arr (.own 0) st sz (setAt rows p fun _ => rowsE (mkL k l)))) := by
  have hn := hl.1
  have key : ∃ r σ', XX 211 [.ref o v p, In k] σ = some (r, σ') ∧ (r = In (k + cntL l) ∧ σ' = σ.set o (.arr (.own 0) st sz (setAt rows p fun _ => rowsE (mkL k l)))) := by
    refine W_fn rfl Tryz.func211 rfl rfl (by simp [Tryz.f211]) ?_
    simp only [Tryz.f211]
    repeat' first|refine W_seq ?_|refine W_block ?_|refine W_skip ?_|refine W_ret ?_|refine W_exit ?_|refine xb_hit ?_|refine xb_miss (by decide) ?_|(apply W_reg;(simp;exact .r _))
    have hst : σ = σ.set o (.arr (.own 0) st sz (setAt rows p fun _ => rowsE (mkU k l 0))) := by
      rw [mkU_zero, setAt_id hnm.2.2, ← hob]
      cases σ; simp only [Sto.set]; congr 1; funext x; unfold upd; split
      · rename_i e; rw [e]
      · rfl
    refine W_loop (n := l.length) (fun n s => ∃ i : Nat, n = l.length - i ∧ s.nt = 19 ∧ s.tm 0 = .ref o v p ∧ s.tm 1 = In (k + cntL (l.take i)) ∧ s.tm 5 = In i ∧ i ≤ l.length ∧ s.σ = σ.set o (.arr (.own 0) st sz (setAt rows p fun _ => rowsE (mkU k l i)))) ⟨0, by simp [cntL]; exact hst⟩ ?_
    rintro n ⟨nt, tm, σ⟩ ⟨i, rfl, hnt, h0, h1, h5, hi, hs⟩
    simp only at hnt h0 h1 h5 hs
    subst hnt
    subst hs
    have hnm1 : Nm st (setAt rows p fun _ => rowsE (mkU k l i)) v p (rowsE (mkU k l i)) := hnm.set (by simp [mkU_len])
    have hrw := hnm1.rows (sz := sz)
    have hlen : (rowsE (mkU k l i)).length = l.length := by simp [mkU_len]
    have hcl := cntL_take_le l i
    repeat' first|refine W_seq ?_|refine W_block ?_|refine W_skip ?_|refine W_ret ?_|refine W_exit ?_|refine xb_hit ?_|refine xb_miss (by decide) ?_|(apply W_reg;(simp [-VO.rows, h0, h1, h5, hrw, hlen];exact .r _))
    refine W_cond (by simp [-VO.rows, h0, h1, h5]; exact .r _) (fun hc => ?_) (fun hc => ?_)
    · have hil : i < l.length := by simpa using hc
      have hg : (rowsE (mkU k l i))[i]? = some [.sl (rowsE l[i])] := by simp [rowsE, mkU_get k l i hil]
      have hct := cntL_take l i hil
      have hcl2 := cntL_take_le l (i + 1)
      have hset := mkU_set k l i hil
      have hin := hnm1.inner (i := i) (j := 0) hg rfl
      simp only [cnt_list] at hct
      have hcc := markIntSS_c (σ.set o (.arr (.own 0) st sz (setAt rows p fun _ => rowsE (mkU k l i)))) o st st sz (p ++ [(i, 0)]) _ l[i] (by simp) hin (k + cntL (l.take i)) (by omega) (by omega) (hl.2 _ (List.getElem_mem hil))
      simp only [Sto.set] at hcc
      repeat' first|refine W_seq ?_|refine W_block ?_|refine W_skip ?_|refine W_ret ?_|refine W_exit ?_|refine xb_hit ?_|refine xb_miss (by decide) ?_|(apply W_reg;(simp [-VO.rows, h0, h1, h5, hrw, hg, hil, hcc];exact .r _))
      refine ⟨_, ?_, i + 1, rfl, rfl, by simp [h0], ?_, ?_, by omega, ?_⟩
      · omega
      · simp; rw [hct]; omega
      · simp [h5]; exact wrap_succ (by omega)
      · simp only [Sto.set, upd_upd, setAt_app, setAt_set]
        rw [← hset, rowsE_set]
        congr 3
        exact congrArg (setAt rows p) (funext fun _ => setAt_one hg rfl)
    · have hil : i = l.length := by simp at hc; omega
      subst hil
      repeat' first|refine W_seq ?_|refine W_block ?_|refine W_skip ?_|refine W_ret ?_|refine W_exit ?_|refine xb_hit ?_|refine xb_miss (by decide) ?_|(apply W_reg;(simp [-VO.rows, h0, h1, h5];exact .r _))
      simp only [mkU_all, List.take_length] at *
      exact ⟨In (k + cntL l), by simp [h1], rfl, rfl⟩
  obtain ⟨r, σ', h1, h2, h3⟩ := key
  rw [h1, h2, h3]
theorem markIntSSS_c (σ : Sto) (o v st sz : Nat) (p : List (Nat × Nat)) (rows : List (List T)) (l : List (List (List (Int)))) (hob : σ.ob o = .arr (.own 0) st sz rows) (hnm : Nm st rows v p (rowsE l)) (k : Int) (h0 : 0 ≤ k) (hk : k + cntL l ≤ 4611686018427387903) (hl : Lw.bd 1048576 l) :
    callV Ms XX σ 211 [.ref o v p, In k] = some (In (k + cntL l), σ.set o (.arr (.own 0) st sz (setAt rows p fun _ => rowsE (mkL k l)))) := callV_d (by rfl) (markIntSSS_m σ o v st sz p rows l hob hnm k h0 hk hl) rfl
theorem mkLenIntSSS (k : Int) (l : List (List (List (Int)))) : (rowsE (mkL k l)).length = l.length := by simp [mkL_len]
theorem heldIntSSS_r (l : List (List (List (Int)))) (k : Int) (h0 : 0 ≤ k) (hk : k + cntL l ≤ 4611686018427387903) (hl : Lw.bd 1048576 l) : Ret XX 213 [Ar (mkL k l), In k] (.t (.i .i64 (k + cntL l)) false) := by
  have hn := hl.1
  have hlen := mkLenIntSSS k l
  refine ret_W rfl Tryz.func213 rfl rfl (by simp [Tryz.f213]) ?_
  simp only [Tryz.f213]
  repeat' first|refine W_seq ?_|refine W_block ?_|refine W_skip ?_|refine W_ret ?_|refine W_exit ?_|refine xb_hit ?_|refine xb_miss (by decide) ?_|(apply W_reg;(simp;exact .r _))
  refine W_loop (n := l.length) (fun n s => ∃ i : Nat, n = l.length - i ∧ s.nt = 21 ∧ s.tm 0 = Ar (mkL k l) ∧ s.tm 1 = In (k + cntL (l.take i)) ∧ s.tm 5 = In i ∧ i ≤ l.length) ⟨0, by simp [cntL]⟩ ?_
  rintro n ⟨nt, tm, σ⟩ ⟨i, rfl, hnt, h0, h1, h5, hi⟩
  simp only at hnt h0 h1 h5
  subst hnt
  have hcl := cntL_take_le l i
  repeat' first|refine W_seq ?_|refine W_block ?_|refine W_skip ?_|refine W_ret ?_|refine W_exit ?_|refine xb_hit ?_|refine xb_miss (by decide) ?_|(apply W_reg;(simp [h0, h1, h5, mkL_len];exact .r _))
  refine W_cond (by simp [h0, h1, h5]; exact .r _) (fun hc => ?_) (fun hc => ?_)
  · have hil : i < l.length := by simpa using hc
    have hlx := hl.2 _ (List.getElem_mem hil)
    have hcut : Mk.cnt l[i] = cntL l[i] := rfl
    have hg : (rowsE (mkL k l))[i]? = some [.sl (rowsE (mkL (k + cntL (l.take i)) l[i]))] := by rw [rowsE, List.getElem?_map, mkL_get k l i hil]; rfl
    have hct := cntL_take l i hil
    have hcl2 := cntL_take_le l (i + 1)
    have cc0 := cv (heldIntSS_r l[i] (k + cntL (l.take i)) (by omega) (by omega) (hlx))
    repeat' first|refine W_seq ?_|refine W_block ?_|refine W_skip ?_|refine W_ret ?_|refine W_exit ?_|refine xb_hit ?_|refine xb_miss (by decide) ?_|(apply W_reg;(simp [h0, h1, h5, hg, hil, cc0];exact .r _))
    refine W_cond (by simp [h0, h1, h5]; exact .r _) (fun hd => ?_) (fun hd => ?_)
    · exfalso; revert hd; simp; try omega
    repeat' first|refine W_seq ?_|refine W_block ?_|refine W_skip ?_|refine W_ret ?_|refine W_exit ?_|refine xb_hit ?_|refine xb_miss (by decide) ?_|(apply W_reg;(simp [h0, h1, h5];exact .r _))
    refine ⟨_, ?_, i + 1, rfl, rfl, ?_, by (first | (simp [h1]; rw [wrap_ok (by omega) (by omega), hct]; omega) | (simp [h1]; rw [hct]; omega) | (simp [h1]; omega)), ?_, by omega⟩
    all_goals first|assumption|(simp [h0, h1, h5];done)|(simp [h0, h1, h5];omega)|(simp [h0, h1, h5];exact wrap_succ (by omega))|omega
  · have hil : i = l.length := by simp at hc; omega
    subst hil
    repeat' first|refine W_seq ?_|refine W_block ?_|refine W_skip ?_|refine W_ret ?_|refine W_exit ?_|refine xb_hit ?_|refine xb_miss (by decide) ?_|(apply W_reg;(simp [h0, h1, h5];exact .r _))
    simp [h1, List.take_length]
theorem szAtom_r (a : RA) (left : Int) (h0 : 0 ≤ left) (h1 : left ≤ 1048576) (hf : Fit a) : Ret XX 267 [Ag a, In left] (.t (.i .i64 (szA (Lw.w a) left)) false) := by
  refine ret_W rfl Tryz.func267 rfl rfl (by simp [Tryz.f267]) ?_
  simp only [Tryz.f267]
  have c0 := fun (r : Int) (g0 : 0 ≤ r) (g1 : r ≤ 1048576) => cv (szIntS_r a.args r g0 g1 hf)
  have hw : Lw.w a = Lw.w a.args := rfl
  have d0 := c0 (left) (by omega) (by omega)
  repeat' first|refine W_seq ?_|refine W_block ?_|refine W_skip ?_|refine W_ret ?_|refine W_exit ?_|refine xb_hit ?_|refine xb_miss (by decide) ?_|(apply W_reg;(simp [Ag, d0];exact .r _))
  by_cases e0 : ((Lw.w a.args : Nat) : Int) ≤ left
  case neg =>
    have s0 : szA (Lw.w a.args) (left) = -1 := by unfold szA; rw [if_neg e0]
    have s9 : szA (Lw.w a) left = -1 := by unfold szA; rw [hw, if_neg (by omega)]
    refine W_cond (by simp; exact .r _) (fun hc => ?_) (fun hc => ?_)
    · repeat' first|refine W_seq ?_|refine W_block ?_|refine W_skip ?_|refine W_ret ?_|refine W_exit ?_|refine xb_hit ?_|refine xb_miss (by decide) ?_|(apply W_reg;(simp;exact .r _))
      rw [s9]; simp
    · exfalso; revert hc; rw [s0]; simp
  have s0 : szA (Lw.w a.args) (left) = left - (Lw.w a.args : Nat) := by unfold szA; rw [if_pos e0]
  refine W_cond (by simp; exact .r _) (fun hc => ?_) (fun hc => ?_)
  · exfalso; revert hc; rw [s0]; simp; omega
  repeat' first|refine W_seq ?_|refine W_block ?_|refine W_skip ?_|refine W_ret ?_|refine W_exit ?_|refine xb_hit ?_|refine xb_miss (by decide) ?_|(apply W_reg;(simp [s0];exact .r _))
  have s9 : szA (Lw.w a) left = left - (Lw.w a.args : Nat) := by unfold szA; (rw [hw, if_pos (by omega)]) <;> omega
  rw [s9]; simp [s0]
theorem toAtom_r (a : RA) (hl : Lw.bd 1048576 a) : Ret XX 268 [Ag a] (.agg [.t (.i .i64 a.rel) false, .own 1 (rowsE a.args)]) := by
  refine ret_W rfl Tryz.func268 rfl rfl (by simp [Tryz.f268]) ?_
  simp only [Tryz.f268]
  have c0 := cv (toIntS_r a.args hl)
  repeat' first|refine W_seq ?_|refine W_block ?_|refine W_skip ?_|refine W_ret ?_|refine W_exit ?_|refine xb_hit ?_|refine xb_miss (by decide) ?_|(apply W_reg;(simp [Ag, c0];exact .r _))
  simp
theorem eqAtom_r (a b : RA) (hl : Lw.bd 1048576 a) : Ret XX 269 [Ag a, Ag b] (.t (.b (decide (a = b))) false) := by
  refine ret_W rfl Tryz.func269 rfl rfl (by simp [Tryz.f269]) ?_
  simp only [Tryz.f269]
  have c0 := cv (eqIntS_r a.args b.args hl)
  repeat' first|refine W_seq ?_|refine W_block ?_|refine W_skip ?_|refine W_ret ?_|refine W_exit ?_|refine xb_hit ?_|refine xb_miss (by decide) ?_|(apply W_reg;(simp [Ag, c0];exact .r _))
  refine W_cond (by simp; exact .r _) (fun hc => ?_) (fun hc => ?_)
  · repeat' first|refine W_seq ?_|refine W_block ?_|refine W_skip ?_|refine W_ret ?_|refine W_exit ?_|refine xb_hit ?_|refine xb_miss (by decide) ?_|(apply W_reg;(simp;exact .r _))
    have : a ≠ b := fun e => by subst e; simp at hc
    simp [this]
  have e0 : a.rel = b.rel := by simpa using hc
  clear hc
  repeat' first|refine W_seq ?_|refine W_block ?_|refine W_skip ?_|refine W_ret ?_|refine W_exit ?_|refine xb_hit ?_|refine xb_miss (by decide) ?_|(apply W_reg;(simp [Ag, c0];exact .r _))
  refine W_cond (by simp; exact .r _) (fun hc => ?_) (fun hc => ?_)
  · repeat' first|refine W_seq ?_|refine W_block ?_|refine W_skip ?_|refine W_ret ?_|refine W_exit ?_|refine xb_hit ?_|refine xb_miss (by decide) ?_|(apply W_reg;(simp;exact .r _))
    have : a ≠ b := fun e => by subst e; simp at hc
    simp [this]
  have e1 : a.args = b.args := by simpa using hc
  clear hc
  repeat' first|refine W_seq ?_|refine W_block ?_|refine W_skip ?_|refine W_ret ?_|refine W_exit ?_|refine xb_hit ?_|refine xb_miss (by decide) ?_|(apply W_reg;(simp;exact .r _))
  have : a = b := by cases a; cases b; simp only at e0 e1; simp [e0, e1]
  simp [this]
theorem szAtomS_r (l : List (RA)) (left : Int) (h0 : 0 ≤ left) (h1 : left ≤ 1048576) (hf : Fit l) : Ret XX 187 [Ar l, In left] (.t (.i .i64 (szA (Lw.w l) left)) false) := by
  have hl : l.length ≤ 9223372036854775807 := hf.1
  have hwl : Lw.w l = wL l := rfl
  rw [hwl]
  refine ret_W rfl Tryz.func187 rfl rfl (by simp [Tryz.f187]) ?_
  simp only [Tryz.f187]
  have hw : IntKind.i64.wrap (left - l.length) = left - l.length := wrap_ok (by omega) (by omega)
  repeat' first|refine W_seq ?_|refine W_block ?_|refine W_skip ?_|refine W_ret ?_|refine W_exit ?_|refine xb_hit ?_|refine xb_miss (by decide) ?_|(apply W_reg;(simp [hw];exact .r _))
  refine W_cond (by simp; exact .r _) (fun hc => ?_) (fun hc => ?_)
  · repeat' first|refine W_seq ?_|refine W_block ?_|refine W_skip ?_|refine W_ret ?_|refine W_exit ?_|refine xb_hit ?_|refine xb_miss (by decide) ?_|(apply W_reg;(simp;exact .r _))
    have hgt : ¬ (l.length : Int) ≤ left := by simp at hc; omega
    have : ¬ ((wL l : Nat) : Int) ≤ left := by unfold wL; omega
    simp [szA, this]
  have hle : (l.length : Int) ≤ left := by simp at hc; omega
  repeat' first|refine W_seq ?_|refine W_block ?_|refine W_skip ?_|refine W_ret ?_|refine W_exit ?_|refine xb_hit ?_|refine xb_miss (by decide) ?_|(apply W_reg;(simp;exact .r _))
  refine W_loop (n := l.length) (fun n s => ∃ i : Nat, ∃ r : Int, n = l.length - i ∧ s.nt = 27 ∧ s.tm 0 = Ar l ∧ s.tm 1 = In r ∧ s.tm 5 = In i ∧ i ≤ l.length ∧ 0 ≤ r ∧ r = left - l.length - ((l.take i).map Lw.w).sum) ⟨0, left - l.length, by simp <;> omega⟩ ?_
  rintro n ⟨nt, tm, σ⟩ ⟨i, r, rfl, hnt, h0, h1, h5, hi, hr, hre⟩
  simp only at hnt h0 h1 h5
  subst hnt
  repeat' first|refine W_seq ?_|refine W_block ?_|refine W_skip ?_|refine W_ret ?_|refine W_exit ?_|refine xb_hit ?_|refine xb_miss (by decide) ?_|(apply W_reg;(simp [h0, h1, h5];exact .r _))
  have hsplit : wL l = l.length + ((l.take i).map Lw.w).sum + ((l.drop i).map Lw.w).sum := by
    have := wL_split l i; unfold wL; omega
  refine W_cond (by simp [h0, h1, h5]; exact .r _) (fun hc => ?_) (fun hc => ?_)
  · have hil : i < l.length := by simp at hc; omega
    have hcc := cv (szAtom_r l[i] r hr (by omega) (hf.2 _ (List.getElem_mem hil)))
    simp only [Ag, cells_RA, List.map_cons, List.map_nil] at hcc
    repeat' first|refine W_seq ?_|refine W_block ?_|refine W_skip ?_|refine W_ret ?_|refine W_exit ?_|refine xb_hit ?_|refine xb_miss (by decide) ?_|(apply W_reg;(simp [h0, h1, h5, hil, hcc];exact .r _))
    have hd : ((l.drop i).map Lw.w).sum = Lw.w l[i] + ((l.drop (i + 1)).map Lw.w).sum := by rw [List.drop_eq_getElem_cons hil, List.map_cons, List.sum_cons]
    have ht := wL_take l i hil
    by_cases h : ((Lw.w l[i] : Nat) : Int) ≤ r
    · have h' : szA (Lw.w l[i]) r = r - Lw.w l[i] := by simp [szA, h]
      refine W_cond (by simp [h0, h1, h5]; exact .r _) (fun he => ?_) (fun he => ?_)
      · rw [h'] at he; simp at he; omega
      · repeat' first|refine W_seq ?_|refine W_block ?_|refine W_skip ?_|refine W_ret ?_|refine W_exit ?_|refine xb_hit ?_|refine xb_miss (by decide) ?_|(apply W_reg;(simp [h0, h1, h5];exact .r _))
        refine ⟨_, ?_, i + 1, szA (Lw.w l[i]) r, rfl, rfl, ?_, ?_, ?_, by omega, by (rw [h']; omega), by (rw [h', ht]; omega)⟩
        all_goals first|assumption|(simp [h0, h1, h5];done)|(simp [h0, h1, h5];omega)|(simp [h0, h1, h5];exact wrap_succ (by omega))|omega
    · refine W_cond (by simp [h0, h1, h5]; exact .r _) (fun he => ?_) (fun he => ?_)
      · repeat' first|refine W_seq ?_|refine W_block ?_|refine W_skip ?_|refine W_ret ?_|refine W_exit ?_|refine xb_hit ?_|refine xb_miss (by decide) ?_|(apply W_reg;(simp [h0, h1, h5];exact .r _))
        have : ¬ ((wL l : Nat) : Int) ≤ left := by rw [hsplit, hd]; omega
        simp [szA, this]
      · exfalso
        have h' : szA (Lw.w l[i]) r = -1 := by unfold szA; rw [if_neg h]
        rw [h'] at he; simp at he
  · have hil : i = l.length := by simp at hc; omega
    subst hil
    repeat' first|refine W_seq ?_|refine W_block ?_|refine W_skip ?_|refine W_ret ?_|refine W_exit ?_|refine xb_hit ?_|refine xb_miss (by decide) ?_|(apply W_reg;(simp [h0, h1, h5];exact .r _))
    rw [List.drop_length] at hsplit
    simp only [List.map_nil, List.sum_nil, Nat.add_zero] at hsplit
    have : ((wL l : Nat) : Int) ≤ left := by rw [hsplit]; omega
    have h9 : szA (wL l) left = r := by rw [szA, if_pos this, hsplit]; omega
    simp [h9]
theorem toAtomS_r (l : List (RA)) (hl : Lw.bd 1048576 l) : Ret XX 191 [Ar l] (.own 2 (rowsE l)) := by
  have hn := hl.1
  refine ret_W rfl Tryz.func191 rfl rfl (by simp [Tryz.f191]) ?_
  simp only [Tryz.f191]
  repeat' first|refine W_seq ?_|refine W_block ?_|refine W_skip ?_|refine W_ret ?_|refine W_exit ?_|refine xb_hit ?_|refine xb_miss (by decide) ?_|(apply W_reg;(simp [show l.length < 1099511627776 by omega];exact .r _))
  refine W_loop (n := l.length) (fun n s => ∃ i : Nat, ∃ st : Nat, n = l.length - i ∧ s.nt = 23 ∧ s.tm 0 = Ar l ∧ s.tm 3 = .ref 0 l.length [] ∧ s.tm 4 = In i ∧ i ≤ l.length ∧ s.σ.ob 0 = .arr (.own 0) st 2 (rowsE (l.take i ++ List.replicate (l.length - i) (⟨0, []⟩ : RA))) ∧ 1 ≤ s.σ.n) ⟨0, 0, by simp [rowsE]⟩ ?_
  rintro n ⟨nt, tm, σ⟩ ⟨i, st, rfl, hnt, h0, h3, h4, hi, ho, hn1⟩
  simp only at hnt h0 h3 h4 ho hn1
  subst hnt
  repeat' first|refine W_seq ?_|refine W_block ?_|refine W_skip ?_|refine W_ret ?_|refine W_exit ?_|refine xb_hit ?_|refine xb_miss (by decide) ?_|(apply W_reg;(simp [h0, h3, h4, ho, hn1];exact .r _))
  refine W_cond (by simp [h0, h3, h4, ho, hn1]; exact .r _) (fun hc => ?_) (fun hc => ?_)
  · have hil : i < l.length := by simpa using hc
    have hle : i ≤ l.length := hi
    have e0 : ¬ (0 = σ.n) := by omega
    have e0' : ¬ (σ.n = 0) := by omega
    have hg : (rowsE (l.take i ++ List.replicate (l.length - i) (⟨0, []⟩ : RA)))[i]? = some (Enc.cells (⟨0, []⟩ : RA)) := fill_get l _ i hil
    have hfs := fill_set l (⟨0, []⟩ : RA) i hil
    have hrl : (rowsE (l.take i ++ List.replicate (l.length - i) (⟨0, []⟩ : RA))).length = l.length := fill_len l _ i hi
    simp only [cells_RA, rowsE_nil] at hg
    have hcc := cv (toAtom_r l[i] (hl.2 _ (List.getElem_mem hil)))
    simp only [Ag, cells_RA, List.map_cons, List.map_nil] at hcc
    repeat' first|refine W_seq ?_|refine W_block ?_|refine W_skip ?_|refine W_ret ?_|refine W_exit ?_|refine xb_hit ?_|refine xb_miss (by decide) ?_|(apply W_reg;(simp [h0, h3, h4, ho, hn1, hil, hg, hrl, hle, hcc, e0, e0'];exact .r _))
    refine ⟨_, ?_, i + 1, st + 1, rfl, rfl, ?_, ?_, ?_, by omega, by (simp [e0, e0']; rw [← hfs, rowsE_set]; rfl), ?_⟩
    all_goals first|assumption|(simp [h0, h3, h4, ho, hn1, e0, e0'];done)|(simp [h0, h3, h4, ho, hn1, e0, e0'];omega)|(simp [h0, h3, h4, ho, hn1, e0, e0'];exact wrap_succ (by omega))|omega
  · have hil : i = l.length := by simp at hc; omega
    subst hil
    repeat' first|refine W_seq ?_|refine W_block ?_|refine W_skip ?_|refine W_ret ?_|refine W_exit ?_|refine xb_hit ?_|refine xb_miss (by decide) ?_|(apply W_reg;(simp [h0, h3, h4, ho, hn1];exact .r _))
    simp [ho]
theorem eqAtomS_r (a b : List (RA)) (hl : Lw.bd 1048576 a) : Ret XX 193 [Ar a, Ar b] (.t (.b (decide (a = b))) false) := by
  have hn := hl.1
  refine ret_W rfl Tryz.func193 rfl rfl (by simp [Tryz.f193]) ?_
  simp only [Tryz.f193]
  repeat' first|refine W_seq ?_|refine W_block ?_|refine W_skip ?_|refine W_ret ?_|refine W_exit ?_|refine xb_hit ?_|refine xb_miss (by decide) ?_|(apply W_reg;(simp;exact .r _))
  refine W_cond (by simp; exact .r _) (fun hc => ?_) (fun hc => ?_)
  · repeat' first|refine W_seq ?_|refine W_block ?_|refine W_skip ?_|refine W_ret ?_|refine W_exit ?_|refine xb_hit ?_|refine xb_miss (by decide) ?_|(apply W_reg;(simp;exact .r _))
    have : a ≠ b := fun e => by subst e; simp at hc
    simp [this]
  have hll : a.length = b.length := by simp at hc; omega
  repeat' first|refine W_seq ?_|refine W_block ?_|refine W_skip ?_|refine W_ret ?_|refine W_exit ?_|refine xb_hit ?_|refine xb_miss (by decide) ?_|(apply W_reg;(simp;exact .r _))
  refine W_loop (n := a.length) (fun n s => ∃ i : Nat, n = a.length - i ∧ s.nt = 27 ∧ s.tm 0 = Ar a ∧ s.tm 1 = Ar b ∧ s.tm 5 = In i ∧ i ≤ a.length ∧ a.take i = b.take i) ⟨0, by simp⟩ ?_
  rintro n ⟨nt, tm, σ⟩ ⟨i, rfl, hnt, h0, h1, h5, hi, heq⟩
  simp only at hnt h0 h1 h5
  subst hnt
  repeat' first|refine W_seq ?_|refine W_block ?_|refine W_skip ?_|refine W_ret ?_|refine W_exit ?_|refine xb_hit ?_|refine xb_miss (by decide) ?_|(apply W_reg;(simp [h0, h1, h5];exact .r _))
  refine W_cond (by simp [h0, h1, h5]; exact .r _) (fun hc => ?_) (fun hc => ?_)
  · have hia : i < a.length := by simpa using hc
    have hib : i < b.length := by omega
    have hcc := cv (eqAtom_r a[i] b[i] (hl.2 _ (List.getElem_mem hia)))
    simp only [Ag, cells_RA, List.map_cons, List.map_nil] at hcc
    repeat' first|refine W_seq ?_|refine W_block ?_|refine W_skip ?_|refine W_ret ?_|refine W_exit ?_|refine xb_hit ?_|refine xb_miss (by decide) ?_|(apply W_reg;(simp [h0, h1, h5, hia, hib, hcc];exact .r _))|(apply W_draw (id := 6) [0,0,3,7,0,0,48,112,255,511] rfl rfl; (· simp; exact .r _); (· simp [h0, h1, h5, hia, hib, hcc]; exact .r _); (· first|trivial|simp))
    refine W_cond (by simp [h0, h1, h5]; exact .r _) (fun hd => ?_) (fun hd => ?_)
    · repeat' first|refine W_seq ?_|refine W_block ?_|refine W_skip ?_|refine W_ret ?_|refine W_exit ?_|refine xb_hit ?_|refine xb_miss (by decide) ?_|(apply W_reg;(simp [h0, h1, h5];exact .r _))
      have : a ≠ b := fun e => by subst e; simp at hd
      simp [this]
    · have hd : a[i] = b[i] := by simpa using hd
      repeat' first|refine W_seq ?_|refine W_block ?_|refine W_skip ?_|refine W_ret ?_|refine W_exit ?_|refine xb_hit ?_|refine xb_miss (by decide) ?_|(apply W_reg;(simp [h0, h1, h5];exact .r _))
      refine ⟨_, ?_, i + 1, rfl, rfl, ?_, ?_, ?_, by omega, by rw [List.take_succ_eq_append_getElem hia, List.take_succ_eq_append_getElem hib, heq, hd]⟩
      all_goals first|assumption|(simp [h0, h1, h5];done)|(simp [h0, h1, h5];omega)|(simp [h0, h1, h5];exact wrap_succ (by omega))|omega
  · have hil : i = a.length := by simp at hc; omega
    subst hil
    repeat' first|refine W_seq ?_|refine W_block ?_|refine W_skip ?_|refine W_ret ?_|refine W_exit ?_|refine xb_hit ?_|refine xb_miss (by decide) ?_|(apply W_reg;(simp [h0, h1, h5];exact .r _))
    rw [List.take_length, hll, List.take_length] at heq
    have : a = b := heq
    simp [this]
theorem markAtomS_m (σ : Sto) (o v st sz : Nat) (p : List (Nat × Nat)) (rows : List (List T)) (l : List (RA)) (hob : σ.ob o = .arr (.own 0) st sz rows) (hnm : Nm st rows v p (rowsE l)) (k : Int) (h0 : 0 ≤ k) (hk : k + cntL l ≤ 4611686018427387903) (hl : Lw.bd 1048576 l) :
    XX 194 [.ref o v p, In k] σ = some (In (k + cntL l), σ.set o (.arr (.own 0) st sz (setAt rows p fun _ => rowsE (mkL k l)))) := by
  have hn := hl.1
  have key : ∃ r σ', XX 194 [.ref o v p, In k] σ = some (r, σ') ∧ (r = In (k + cntL l) ∧ σ' = σ.set o (.arr (.own 0) st sz (setAt rows p fun _ => rowsE (mkL k l)))) := by
    refine W_fn rfl Tryz.func194 rfl rfl (by simp [Tryz.f194]) ?_
    simp only [Tryz.f194]
    repeat' first|refine W_seq ?_|refine W_block ?_|refine W_skip ?_|refine W_ret ?_|refine W_exit ?_|refine xb_hit ?_|refine xb_miss (by decide) ?_|(apply W_reg;(simp;exact .r _))
    have hst : σ = σ.set o (.arr (.own 0) st sz (setAt rows p fun _ => rowsE (mkU k l 0))) := by
      rw [mkU_zero, setAt_id hnm.2.2, ← hob]
      cases σ; simp only [Sto.set]; congr 1; funext x; unfold upd; split
      · rename_i e; rw [e]
      · rfl
    refine W_loop (n := l.length) (fun n s => ∃ i : Nat, n = l.length - i ∧ s.nt = 27 ∧ s.tm 0 = .ref o v p ∧ s.tm 1 = In (k + cntL (l.take i)) ∧ s.tm 5 = In i ∧ i ≤ l.length ∧ s.σ = σ.set o (.arr (.own 0) st sz (setAt rows p fun _ => rowsE (mkU k l i)))) ⟨0, by simp [cntL]; exact hst⟩ ?_
    rintro n ⟨nt, tm, σ⟩ ⟨i, rfl, hnt, h0, h1, h5, hi, hs⟩
    simp only at hnt h0 h1 h5 hs
    subst hnt
    subst hs
    have hnm1 : Nm st (setAt rows p fun _ => rowsE (mkU k l i)) v p (rowsE (mkU k l i)) := hnm.set (by simp [mkU_len])
    have hrw := hnm1.rows (sz := sz)
    have hlen : (rowsE (mkU k l i)).length = l.length := by simp [mkU_len]
    have hcl := cntL_take_le l i
    repeat' first|refine W_seq ?_|refine W_block ?_|refine W_skip ?_|refine W_ret ?_|refine W_exit ?_|refine xb_hit ?_|refine xb_miss (by decide) ?_|(apply W_reg;(simp [-VO.rows, h0, h1, h5, hrw, hlen];exact .r _))
    refine W_cond (by simp [-VO.rows, h0, h1, h5]; exact .r _) (fun hc => ?_) (fun hc => ?_)
    · have hil : i < l.length := by simpa using hc
      have hct := cntL_take l i hil
      have hcl2 := cntL_take_le l (i + 1)
      have hset := mkU_set k l i hil
      have hlx := hl.2 _ (List.getElem_mem hil)
      have hcut : Mk.cnt l[i] = 1 + cntL l[i].args := rfl
      have g0 : (rowsE (mkU k l i))[i]? = some [.i .i64 l[i].rel, .sl (rowsE l[i].args)] := by simp [rowsE, mkU_get k l i hil]
      have n0 := hnm1
      have g1 : ((rowsE (mkU k l i)).set i [.i .i64 (k + cntL (l.take i)), .sl (rowsE l[i].args)])[i]? = some [.i .i64 (k + cntL (l.take i)), .sl (rowsE l[i].args)] := by rw [List.getElem?_set_self (by rw [hlen]; exact hil)]
      have n1 : Nm st (setAt rows p fun _ => (rowsE (mkU k l i)).set i [.i .i64 (k + cntL (l.take i)), .sl (rowsE l[i].args)]) v p ((rowsE (mkU k l i)).set i [.i .i64 (k + cntL (l.take i)), .sl (rowsE l[i].args)]) := hnm.set (by simp [mkU_len])
      have r1 := n1.rows (sz := sz)
      have in1 := n1.inner (i := i) (j := 1) g1 rfl
      have w1 := n1.rows (sz := sz)
      have cc1 := markIntS_c (σ.set o (.arr (.own 0) st sz (setAt rows p fun _ => (rowsE (mkU k l i)).set i [.i .i64 (k + cntL (l.take i)), .sl (rowsE l[i].args)]))) o st st sz (p ++ [(i, 1)]) _ l[i].args (by simp) in1 (k + cntL (l.take i) + 1) (by omega) (by omega) (hlx)
      simp only [Sto.set] at cc1
      have g2 : ((rowsE (mkU k l i)).set i [.i .i64 (k + cntL (l.take i)), .sl (rowsE (mkL (k + cntL (l.take i) + 1) l[i].args))])[i]? = some [.i .i64 (k + cntL (l.take i)), .sl (rowsE (mkL (k + cntL (l.take i) + 1) l[i].args))] := by rw [List.getElem?_set_self (by rw [hlen]; exact hil)]
      have n2 : Nm st (setAt rows p fun _ => (rowsE (mkU k l i)).set i [.i .i64 (k + cntL (l.take i)), .sl (rowsE (mkL (k + cntL (l.take i) + 1) l[i].args))]) v p ((rowsE (mkU k l i)).set i [.i .i64 (k + cntL (l.take i)), .sl (rowsE (mkL (k + cntL (l.take i) + 1) l[i].args))]) := hnm.set (by simp [mkU_len])
      have r2 := n2.rows (sz := sz)
      have q1 : setAt (setAt rows p fun _ => (rowsE (mkU k l i)).set i [.i .i64 (k + cntL (l.take i)), .sl (rowsE l[i].args)]) (p ++ [(i, 1)]) (fun _ => rowsE (mkL (k + cntL (l.take i) + 1) l[i].args)) = setAt rows p (fun _ => (rowsE (mkU k l i)).set i [.i .i64 (k + cntL (l.take i)), .sl (rowsE (mkL (k + cntL (l.take i) + 1) l[i].args))]) := by
        rw [setAt_app, setAt_set]; congr 1; funext _; rw [setAt_one g1 (j := 1) rfl]; simp [List.set_set]
      have gz := g0
      have hw1k : IntKind.i64.wrap (k + cntL (l.take i) + 1) = k + cntL (l.take i) + 1 := wrap_ok (by omega) (by omega)
      repeat' first|refine W_seq ?_|refine W_block ?_|refine W_skip ?_|refine W_ret ?_|refine W_exit ?_|refine xb_hit ?_|refine xb_miss (by decide) ?_|(apply W_reg;(simp [-VO.rows, h0, h1, h5, hrw, cc1, q1, setAt_set, upd_upd, hw1k, hrw, g0, hil, g1, g2, r1, r2];exact .r _))
      refine ⟨_, ?_, i + 1, rfl, rfl, by simp [h0], ?_, ?_, by omega, ?_⟩
      · omega
      · simp; first | (rw [hct]; omega) | (rw [wrap_ok (by omega) (by omega), hct]; omega)
      · simp [h5]; exact wrap_succ (by omega)
      · simp only [Sto.set, upd_upd, setAt_set]
        rw [← hset, rowsE_set]; first | rfl | (simp only [List.set_set]; rfl)
    · have hil : i = l.length := by simp at hc; omega
      subst hil
      repeat' first|refine W_seq ?_|refine W_block ?_|refine W_skip ?_|refine W_ret ?_|refine W_exit ?_|refine xb_hit ?_|refine xb_miss (by decide) ?_|(apply W_reg;(simp [-VO.rows, h0, h1, h5];exact .r _))
      simp only [mkU_all, List.take_length] at *
      exact ⟨In (k + cntL l), by simp [h1], rfl, rfl⟩
  obtain ⟨r, σ', h1, h2, h3⟩ := key
  rw [h1, h2, h3]
theorem markAtomS_c (σ : Sto) (o v st sz : Nat) (p : List (Nat × Nat)) (rows : List (List T)) (l : List (RA)) (hob : σ.ob o = .arr (.own 0) st sz rows) (hnm : Nm st rows v p (rowsE l)) (k : Int) (h0 : 0 ≤ k) (hk : k + cntL l ≤ 4611686018427387903) (hl : Lw.bd 1048576 l) :
    callV Ms XX σ 194 [.ref o v p, In k] = some (In (k + cntL l), σ.set o (.arr (.own 0) st sz (setAt rows p fun _ => rowsE (mkL k l)))) := callV_d (by rfl) (markAtomS_m σ o v st sz p rows l hob hnm k h0 hk hl) rfl
theorem mkLenAtomS (k : Int) (l : List (RA)) : (rowsE (mkL k l)).length = l.length := by simp [mkL_len]
theorem heldAtomS_r (l : List (RA)) (k : Int) (h0 : 0 ≤ k) (hk : k + cntL l ≤ 4611686018427387903) (hl : Lw.bd 1048576 l) : Ret XX 244 [Ar (mkL k l), In k] (.t (.i .i64 (k + cntL l)) false) := by
  have hn := hl.1
  have hlen := mkLenAtomS k l
  refine ret_W rfl Tryz.func244 rfl rfl (by simp [Tryz.f244]) ?_
  simp only [Tryz.f244]
  repeat' first|refine W_seq ?_|refine W_block ?_|refine W_skip ?_|refine W_ret ?_|refine W_exit ?_|refine xb_hit ?_|refine xb_miss (by decide) ?_|(apply W_reg;(simp;exact .r _))
  refine W_loop (n := l.length) (fun n s => ∃ i : Nat, n = l.length - i ∧ s.nt = 31 ∧ s.tm 0 = Ar (mkL k l) ∧ s.tm 1 = In (k + cntL (l.take i)) ∧ s.tm 5 = In i ∧ i ≤ l.length) ⟨0, by simp [cntL]⟩ ?_
  rintro n ⟨nt, tm, σ⟩ ⟨i, rfl, hnt, h0, h1, h5, hi⟩
  simp only at hnt h0 h1 h5
  subst hnt
  have hcl := cntL_take_le l i
  repeat' first|refine W_seq ?_|refine W_block ?_|refine W_skip ?_|refine W_ret ?_|refine W_exit ?_|refine xb_hit ?_|refine xb_miss (by decide) ?_|(apply W_reg;(simp [h0, h1, h5, mkL_len];exact .r _))
  refine W_cond (by simp [h0, h1, h5]; exact .r _) (fun hc => ?_) (fun hc => ?_)
  · have hil : i < l.length := by simpa using hc
    have hlx := hl.2 _ (List.getElem_mem hil)
    have hcut : Mk.cnt l[i] = 1 + cntL l[i].args := rfl
    have hg : (rowsE (mkL k l))[i]? = some [.i .i64 (k + cntL (l.take i)), .sl (rowsE (mkL (k + cntL (l.take i) + 1) l[i].args))] := by rw [rowsE, List.getElem?_map, mkL_get k l i hil]; rfl
    have hct := cntL_take l i hil
    have hcl2 := cntL_take_le l (i + 1)
    have cc1 := cv (heldIntS_r l[i].args (k + cntL (l.take i) + 1) (by omega) (by omega) (hlx))
    have hw1k : IntKind.i64.wrap (k + cntL (l.take i) + 1) = k + cntL (l.take i) + 1 := wrap_ok (by omega) (by omega)
    repeat' first|refine W_seq ?_|refine W_block ?_|refine W_skip ?_|refine W_ret ?_|refine W_exit ?_|refine xb_hit ?_|refine xb_miss (by decide) ?_|(apply W_reg;(simp [h0, h1, h5, hg, hil, cc1, hw1k];exact .r _))
    refine W_cond (by simp [h0, h1, h5]; exact .r _) (fun hd => ?_) (fun hd => ?_)
    · exfalso; revert hd; simp; try omega
    repeat' first|refine W_seq ?_|refine W_block ?_|refine W_skip ?_|refine W_ret ?_|refine W_exit ?_|refine xb_hit ?_|refine xb_miss (by decide) ?_|(apply W_reg;(simp [h0, h1, h5, hg, hil, cc1, hw1k];exact .r _))
    refine W_cond (by simp [h0, h1, h5]; exact .r _) (fun hd => ?_) (fun hd => ?_)
    · exfalso; revert hd; simp; try omega
    repeat' first|refine W_seq ?_|refine W_block ?_|refine W_skip ?_|refine W_ret ?_|refine W_exit ?_|refine xb_hit ?_|refine xb_miss (by decide) ?_|(apply W_reg;(simp [h0, h1, h5];exact .r _))
    refine ⟨_, ?_, i + 1, rfl, rfl, ?_, by (first | (simp [h1]; rw [wrap_ok (by omega) (by omega), hct]; omega) | (simp [h1]; rw [hct]; omega) | (simp [h1]; omega)), ?_, by omega⟩
    all_goals first|assumption|(simp [h0, h1, h5];done)|(simp [h0, h1, h5];omega)|(simp [h0, h1, h5];exact wrap_succ (by omega))|omega
  · have hil : i = l.length := by simp at hc; omega
    subst hil
    repeat' first|refine W_seq ?_|refine W_block ?_|refine W_skip ?_|refine W_ret ?_|refine W_exit ?_|refine xb_hit ?_|refine xb_miss (by decide) ?_|(apply W_reg;(simp [h0, h1, h5];exact .r _))
    simp [h1, List.take_length]
theorem szFact_r (a : RA) (left : Int) (h0 : 0 ≤ left) (h1 : left ≤ 1048576) (hf : Fit a) : Ret XX 55 [Ag a, In left] (.t (.i .i64 (szA (Lw.w a) left)) false) := by
  refine ret_W rfl Tryz.func55 rfl rfl (by simp [Tryz.f55]) ?_
  simp only [Tryz.f55]
  have c0 := fun (r : Int) (g0 : 0 ≤ r) (g1 : r ≤ 1048576) => cv (szIntS_r a.args r g0 g1 hf)
  have hw : Lw.w a = Lw.w a.args := rfl
  have d0 := c0 (left) (by omega) (by omega)
  repeat' first|refine W_seq ?_|refine W_block ?_|refine W_skip ?_|refine W_ret ?_|refine W_exit ?_|refine xb_hit ?_|refine xb_miss (by decide) ?_|(apply W_reg;(simp [Ag, d0];exact .r _))
  by_cases e0 : ((Lw.w a.args : Nat) : Int) ≤ left
  case neg =>
    have s0 : szA (Lw.w a.args) (left) = -1 := by unfold szA; rw [if_neg e0]
    have s9 : szA (Lw.w a) left = -1 := by unfold szA; rw [hw, if_neg (by omega)]
    refine W_cond (by simp; exact .r _) (fun hc => ?_) (fun hc => ?_)
    · repeat' first|refine W_seq ?_|refine W_block ?_|refine W_skip ?_|refine W_ret ?_|refine W_exit ?_|refine xb_hit ?_|refine xb_miss (by decide) ?_|(apply W_reg;(simp;exact .r _))
      rw [s9]; simp
    · exfalso; revert hc; rw [s0]; simp
  have s0 : szA (Lw.w a.args) (left) = left - (Lw.w a.args : Nat) := by unfold szA; rw [if_pos e0]
  refine W_cond (by simp; exact .r _) (fun hc => ?_) (fun hc => ?_)
  · exfalso; revert hc; rw [s0]; simp; omega
  repeat' first|refine W_seq ?_|refine W_block ?_|refine W_skip ?_|refine W_ret ?_|refine W_exit ?_|refine xb_hit ?_|refine xb_miss (by decide) ?_|(apply W_reg;(simp [s0];exact .r _))
  have s9 : szA (Lw.w a) left = left - (Lw.w a.args : Nat) := by unfold szA; (rw [hw, if_pos (by omega)]) <;> omega
  rw [s9]; simp [s0]
theorem toFact_r (a : RA) (hl : Lw.bd 1048576 a) : Ret XX 60 [Ag a] (.agg [.t (.i .i64 a.rel) false, .own 1 (rowsE a.args)]) := by
  refine ret_W rfl Tryz.func60 rfl rfl (by simp [Tryz.f60]) ?_
  simp only [Tryz.f60]
  have c0 := cv (toIntS_r a.args hl)
  repeat' first|refine W_seq ?_|refine W_block ?_|refine W_skip ?_|refine W_ret ?_|refine W_exit ?_|refine xb_hit ?_|refine xb_miss (by decide) ?_|(apply W_reg;(simp [Ag, c0];exact .r _))
  simp
theorem eqFact_r (a b : RA) (hl : Lw.bd 1048576 a) : Ret XX 65 [Ag a, Ag b] (.t (.b (decide (a = b))) false) := by
  refine ret_W rfl Tryz.func65 rfl rfl (by simp [Tryz.f65]) ?_
  simp only [Tryz.f65]
  have c0 := cv (eqIntS_r a.args b.args hl)
  repeat' first|refine W_seq ?_|refine W_block ?_|refine W_skip ?_|refine W_ret ?_|refine W_exit ?_|refine xb_hit ?_|refine xb_miss (by decide) ?_|(apply W_reg;(simp [Ag, c0];exact .r _))
  refine W_cond (by simp; exact .r _) (fun hc => ?_) (fun hc => ?_)
  · repeat' first|refine W_seq ?_|refine W_block ?_|refine W_skip ?_|refine W_ret ?_|refine W_exit ?_|refine xb_hit ?_|refine xb_miss (by decide) ?_|(apply W_reg;(simp;exact .r _))
    have : a ≠ b := fun e => by subst e; simp at hc
    simp [this]
  have e0 : a.rel = b.rel := by simpa using hc
  clear hc
  repeat' first|refine W_seq ?_|refine W_block ?_|refine W_skip ?_|refine W_ret ?_|refine W_exit ?_|refine xb_hit ?_|refine xb_miss (by decide) ?_|(apply W_reg;(simp [Ag, c0];exact .r _))
  refine W_cond (by simp; exact .r _) (fun hc => ?_) (fun hc => ?_)
  · repeat' first|refine W_seq ?_|refine W_block ?_|refine W_skip ?_|refine W_ret ?_|refine W_exit ?_|refine xb_hit ?_|refine xb_miss (by decide) ?_|(apply W_reg;(simp;exact .r _))
    have : a ≠ b := fun e => by subst e; simp at hc
    simp [this]
  have e1 : a.args = b.args := by simpa using hc
  clear hc
  repeat' first|refine W_seq ?_|refine W_block ?_|refine W_skip ?_|refine W_ret ?_|refine W_exit ?_|refine xb_hit ?_|refine xb_miss (by decide) ?_|(apply W_reg;(simp;exact .r _))
  have : a = b := by cases a; cases b; simp only at e0 e1; simp [e0, e1]
  simp [this]
theorem szFactS_r (l : List (RA)) (left : Int) (h0 : 0 ≤ left) (h1 : left ≤ 1048576) (hf : Fit l) : Ret XX 54 [Ar l, In left] (.t (.i .i64 (szA (Lw.w l) left)) false) := by
  have hl : l.length ≤ 9223372036854775807 := hf.1
  have hwl : Lw.w l = wL l := rfl
  rw [hwl]
  refine ret_W rfl Tryz.func54 rfl rfl (by simp [Tryz.f54]) ?_
  simp only [Tryz.f54]
  have hw : IntKind.i64.wrap (left - l.length) = left - l.length := wrap_ok (by omega) (by omega)
  repeat' first|refine W_seq ?_|refine W_block ?_|refine W_skip ?_|refine W_ret ?_|refine W_exit ?_|refine xb_hit ?_|refine xb_miss (by decide) ?_|(apply W_reg;(simp [hw];exact .r _))
  refine W_cond (by simp; exact .r _) (fun hc => ?_) (fun hc => ?_)
  · repeat' first|refine W_seq ?_|refine W_block ?_|refine W_skip ?_|refine W_ret ?_|refine W_exit ?_|refine xb_hit ?_|refine xb_miss (by decide) ?_|(apply W_reg;(simp;exact .r _))
    have hgt : ¬ (l.length : Int) ≤ left := by simp at hc; omega
    have : ¬ ((wL l : Nat) : Int) ≤ left := by unfold wL; omega
    simp [szA, this]
  have hle : (l.length : Int) ≤ left := by simp at hc; omega
  repeat' first|refine W_seq ?_|refine W_block ?_|refine W_skip ?_|refine W_ret ?_|refine W_exit ?_|refine xb_hit ?_|refine xb_miss (by decide) ?_|(apply W_reg;(simp;exact .r _))
  refine W_loop (n := l.length) (fun n s => ∃ i : Nat, ∃ r : Int, n = l.length - i ∧ s.nt = 27 ∧ s.tm 0 = Ar l ∧ s.tm 1 = In r ∧ s.tm 5 = In i ∧ i ≤ l.length ∧ 0 ≤ r ∧ r = left - l.length - ((l.take i).map Lw.w).sum) ⟨0, left - l.length, by simp <;> omega⟩ ?_
  rintro n ⟨nt, tm, σ⟩ ⟨i, r, rfl, hnt, h0, h1, h5, hi, hr, hre⟩
  simp only at hnt h0 h1 h5
  subst hnt
  repeat' first|refine W_seq ?_|refine W_block ?_|refine W_skip ?_|refine W_ret ?_|refine W_exit ?_|refine xb_hit ?_|refine xb_miss (by decide) ?_|(apply W_reg;(simp [h0, h1, h5];exact .r _))
  have hsplit : wL l = l.length + ((l.take i).map Lw.w).sum + ((l.drop i).map Lw.w).sum := by
    have := wL_split l i; unfold wL; omega
  refine W_cond (by simp [h0, h1, h5]; exact .r _) (fun hc => ?_) (fun hc => ?_)
  · have hil : i < l.length := by simp at hc; omega
    have hcc := cv (szFact_r l[i] r hr (by omega) (hf.2 _ (List.getElem_mem hil)))
    simp only [Ag, cells_RA, List.map_cons, List.map_nil] at hcc
    repeat' first|refine W_seq ?_|refine W_block ?_|refine W_skip ?_|refine W_ret ?_|refine W_exit ?_|refine xb_hit ?_|refine xb_miss (by decide) ?_|(apply W_reg;(simp [h0, h1, h5, hil, hcc];exact .r _))
    have hd : ((l.drop i).map Lw.w).sum = Lw.w l[i] + ((l.drop (i + 1)).map Lw.w).sum := by rw [List.drop_eq_getElem_cons hil, List.map_cons, List.sum_cons]
    have ht := wL_take l i hil
    by_cases h : ((Lw.w l[i] : Nat) : Int) ≤ r
    · have h' : szA (Lw.w l[i]) r = r - Lw.w l[i] := by simp [szA, h]
      refine W_cond (by simp [h0, h1, h5]; exact .r _) (fun he => ?_) (fun he => ?_)
      · rw [h'] at he; simp at he; omega
      · repeat' first|refine W_seq ?_|refine W_block ?_|refine W_skip ?_|refine W_ret ?_|refine W_exit ?_|refine xb_hit ?_|refine xb_miss (by decide) ?_|(apply W_reg;(simp [h0, h1, h5];exact .r _))
        refine ⟨_, ?_, i + 1, szA (Lw.w l[i]) r, rfl, rfl, ?_, ?_, ?_, by omega, by (rw [h']; omega), by (rw [h', ht]; omega)⟩
        all_goals first|assumption|(simp [h0, h1, h5];done)|(simp [h0, h1, h5];omega)|(simp [h0, h1, h5];exact wrap_succ (by omega))|omega
    · refine W_cond (by simp [h0, h1, h5]; exact .r _) (fun he => ?_) (fun he => ?_)
      · repeat' first|refine W_seq ?_|refine W_block ?_|refine W_skip ?_|refine W_ret ?_|refine W_exit ?_|refine xb_hit ?_|refine xb_miss (by decide) ?_|(apply W_reg;(simp [h0, h1, h5];exact .r _))
        have : ¬ ((wL l : Nat) : Int) ≤ left := by rw [hsplit, hd]; omega
        simp [szA, this]
      · exfalso
        have h' : szA (Lw.w l[i]) r = -1 := by unfold szA; rw [if_neg h]
        rw [h'] at he; simp at he
  · have hil : i = l.length := by simp at hc; omega
    subst hil
    repeat' first|refine W_seq ?_|refine W_block ?_|refine W_skip ?_|refine W_ret ?_|refine W_exit ?_|refine xb_hit ?_|refine xb_miss (by decide) ?_|(apply W_reg;(simp [h0, h1, h5];exact .r _))
    rw [List.drop_length] at hsplit
    simp only [List.map_nil, List.sum_nil, Nat.add_zero] at hsplit
    have : ((wL l : Nat) : Int) ≤ left := by rw [hsplit]; omega
    have h9 : szA (wL l) left = r := by rw [szA, if_pos this, hsplit]; omega
    simp [h9]
theorem toFactS_r (l : List (RA)) (hl : Lw.bd 1048576 l) : Ret XX 59 [Ar l] (.own 2 (rowsE l)) := by
  have hn := hl.1
  refine ret_W rfl Tryz.func59 rfl rfl (by simp [Tryz.f59]) ?_
  simp only [Tryz.f59]
  repeat' first|refine W_seq ?_|refine W_block ?_|refine W_skip ?_|refine W_ret ?_|refine W_exit ?_|refine xb_hit ?_|refine xb_miss (by decide) ?_|(apply W_reg;(simp [show l.length < 1099511627776 by omega];exact .r _))
  refine W_loop (n := l.length) (fun n s => ∃ i : Nat, ∃ st : Nat, n = l.length - i ∧ s.nt = 23 ∧ s.tm 0 = Ar l ∧ s.tm 3 = .ref 0 l.length [] ∧ s.tm 4 = In i ∧ i ≤ l.length ∧ s.σ.ob 0 = .arr (.own 0) st 2 (rowsE (l.take i ++ List.replicate (l.length - i) (⟨0, []⟩ : RA))) ∧ 1 ≤ s.σ.n) ⟨0, 0, by simp [rowsE]⟩ ?_
  rintro n ⟨nt, tm, σ⟩ ⟨i, st, rfl, hnt, h0, h3, h4, hi, ho, hn1⟩
  simp only at hnt h0 h3 h4 ho hn1
  subst hnt
  repeat' first|refine W_seq ?_|refine W_block ?_|refine W_skip ?_|refine W_ret ?_|refine W_exit ?_|refine xb_hit ?_|refine xb_miss (by decide) ?_|(apply W_reg;(simp [h0, h3, h4, ho, hn1];exact .r _))
  refine W_cond (by simp [h0, h3, h4, ho, hn1]; exact .r _) (fun hc => ?_) (fun hc => ?_)
  · have hil : i < l.length := by simpa using hc
    have hle : i ≤ l.length := hi
    have e0 : ¬ (0 = σ.n) := by omega
    have e0' : ¬ (σ.n = 0) := by omega
    have hg : (rowsE (l.take i ++ List.replicate (l.length - i) (⟨0, []⟩ : RA)))[i]? = some (Enc.cells (⟨0, []⟩ : RA)) := fill_get l _ i hil
    have hfs := fill_set l (⟨0, []⟩ : RA) i hil
    have hrl : (rowsE (l.take i ++ List.replicate (l.length - i) (⟨0, []⟩ : RA))).length = l.length := fill_len l _ i hi
    simp only [cells_RA, rowsE_nil] at hg
    have hcc := cv (toFact_r l[i] (hl.2 _ (List.getElem_mem hil)))
    simp only [Ag, cells_RA, List.map_cons, List.map_nil] at hcc
    repeat' first|refine W_seq ?_|refine W_block ?_|refine W_skip ?_|refine W_ret ?_|refine W_exit ?_|refine xb_hit ?_|refine xb_miss (by decide) ?_|(apply W_reg;(simp [h0, h3, h4, ho, hn1, hil, hg, hrl, hle, hcc, e0, e0'];exact .r _))
    refine ⟨_, ?_, i + 1, st + 1, rfl, rfl, ?_, ?_, ?_, by omega, by (simp [e0, e0']; rw [← hfs, rowsE_set]; rfl), ?_⟩
    all_goals first|assumption|(simp [h0, h3, h4, ho, hn1, e0, e0'];done)|(simp [h0, h3, h4, ho, hn1, e0, e0'];omega)|(simp [h0, h3, h4, ho, hn1, e0, e0'];exact wrap_succ (by omega))|omega
  · have hil : i = l.length := by simp at hc; omega
    subst hil
    repeat' first|refine W_seq ?_|refine W_block ?_|refine W_skip ?_|refine W_ret ?_|refine W_exit ?_|refine xb_hit ?_|refine xb_miss (by decide) ?_|(apply W_reg;(simp [h0, h3, h4, ho, hn1];exact .r _))
    simp [ho]
theorem eqFactS_r (a b : List (RA)) (hl : Lw.bd 1048576 a) : Ret XX 64 [Ar a, Ar b] (.t (.b (decide (a = b))) false) := by
  have hn := hl.1
  refine ret_W rfl Tryz.func64 rfl rfl (by simp [Tryz.f64]) ?_
  simp only [Tryz.f64]
  repeat' first|refine W_seq ?_|refine W_block ?_|refine W_skip ?_|refine W_ret ?_|refine W_exit ?_|refine xb_hit ?_|refine xb_miss (by decide) ?_|(apply W_reg;(simp;exact .r _))
  refine W_cond (by simp; exact .r _) (fun hc => ?_) (fun hc => ?_)
  · repeat' first|refine W_seq ?_|refine W_block ?_|refine W_skip ?_|refine W_ret ?_|refine W_exit ?_|refine xb_hit ?_|refine xb_miss (by decide) ?_|(apply W_reg;(simp;exact .r _))
    have : a ≠ b := fun e => by subst e; simp at hc
    simp [this]
  have hll : a.length = b.length := by simp at hc; omega
  repeat' first|refine W_seq ?_|refine W_block ?_|refine W_skip ?_|refine W_ret ?_|refine W_exit ?_|refine xb_hit ?_|refine xb_miss (by decide) ?_|(apply W_reg;(simp;exact .r _))
  refine W_loop (n := a.length) (fun n s => ∃ i : Nat, n = a.length - i ∧ s.nt = 27 ∧ s.tm 0 = Ar a ∧ s.tm 1 = Ar b ∧ s.tm 5 = In i ∧ i ≤ a.length ∧ a.take i = b.take i) ⟨0, by simp⟩ ?_
  rintro n ⟨nt, tm, σ⟩ ⟨i, rfl, hnt, h0, h1, h5, hi, heq⟩
  simp only at hnt h0 h1 h5
  subst hnt
  repeat' first|refine W_seq ?_|refine W_block ?_|refine W_skip ?_|refine W_ret ?_|refine W_exit ?_|refine xb_hit ?_|refine xb_miss (by decide) ?_|(apply W_reg;(simp [h0, h1, h5];exact .r _))
  refine W_cond (by simp [h0, h1, h5]; exact .r _) (fun hc => ?_) (fun hc => ?_)
  · have hia : i < a.length := by simpa using hc
    have hib : i < b.length := by omega
    have hcc := cv (eqFact_r a[i] b[i] (hl.2 _ (List.getElem_mem hia)))
    simp only [Ag, cells_RA, List.map_cons, List.map_nil] at hcc
    repeat' first|refine W_seq ?_|refine W_block ?_|refine W_skip ?_|refine W_ret ?_|refine W_exit ?_|refine xb_hit ?_|refine xb_miss (by decide) ?_|(apply W_reg;(simp [h0, h1, h5, hia, hib, hcc];exact .r _))|(apply W_draw (id := 6) [0,0,3,7,0,0,48,112,255,511] rfl rfl; (· simp; exact .r _); (· simp [h0, h1, h5, hia, hib, hcc]; exact .r _); (· first|trivial|simp))
    refine W_cond (by simp [h0, h1, h5]; exact .r _) (fun hd => ?_) (fun hd => ?_)
    · repeat' first|refine W_seq ?_|refine W_block ?_|refine W_skip ?_|refine W_ret ?_|refine W_exit ?_|refine xb_hit ?_|refine xb_miss (by decide) ?_|(apply W_reg;(simp [h0, h1, h5];exact .r _))
      have : a ≠ b := fun e => by subst e; simp at hd
      simp [this]
    · have hd : a[i] = b[i] := by simpa using hd
      repeat' first|refine W_seq ?_|refine W_block ?_|refine W_skip ?_|refine W_ret ?_|refine W_exit ?_|refine xb_hit ?_|refine xb_miss (by decide) ?_|(apply W_reg;(simp [h0, h1, h5];exact .r _))
      refine ⟨_, ?_, i + 1, rfl, rfl, ?_, ?_, ?_, by omega, by rw [List.take_succ_eq_append_getElem hia, List.take_succ_eq_append_getElem hib, heq, hd]⟩
      all_goals first|assumption|(simp [h0, h1, h5];done)|(simp [h0, h1, h5];omega)|(simp [h0, h1, h5];exact wrap_succ (by omega))|omega
  · have hil : i = a.length := by simp at hc; omega
    subst hil
    repeat' first|refine W_seq ?_|refine W_block ?_|refine W_skip ?_|refine W_ret ?_|refine W_exit ?_|refine xb_hit ?_|refine xb_miss (by decide) ?_|(apply W_reg;(simp [h0, h1, h5];exact .r _))
    rw [List.take_length, hll, List.take_length] at heq
    have : a = b := heq
    simp [this]
theorem markFactS_m (σ : Sto) (o v st sz : Nat) (p : List (Nat × Nat)) (rows : List (List T)) (l : List (RA)) (hob : σ.ob o = .arr (.own 0) st sz rows) (hnm : Nm st rows v p (rowsE l)) (k : Int) (h0 : 0 ≤ k) (hk : k + cntL l ≤ 4611686018427387903) (hl : Lw.bd 1048576 l) :
    XX 68 [.ref o v p, In k] σ = some (In (k + cntL l), σ.set o (.arr (.own 0) st sz (setAt rows p fun _ => rowsE (mkL k l)))) := by
  have hn := hl.1
  have key : ∃ r σ', XX 68 [.ref o v p, In k] σ = some (r, σ') ∧ (r = In (k + cntL l) ∧ σ' = σ.set o (.arr (.own 0) st sz (setAt rows p fun _ => rowsE (mkL k l)))) := by
    refine W_fn rfl Tryz.func68 rfl rfl (by simp [Tryz.f68]) ?_
    simp only [Tryz.f68]
    repeat' first|refine W_seq ?_|refine W_block ?_|refine W_skip ?_|refine W_ret ?_|refine W_exit ?_|refine xb_hit ?_|refine xb_miss (by decide) ?_|(apply W_reg;(simp;exact .r _))
    have hst : σ = σ.set o (.arr (.own 0) st sz (setAt rows p fun _ => rowsE (mkU k l 0))) := by
      rw [mkU_zero, setAt_id hnm.2.2, ← hob]
      cases σ; simp only [Sto.set]; congr 1; funext x; unfold upd; split
      · rename_i e; rw [e]
      · rfl
    refine W_loop (n := l.length) (fun n s => ∃ i : Nat, n = l.length - i ∧ s.nt = 27 ∧ s.tm 0 = .ref o v p ∧ s.tm 1 = In (k + cntL (l.take i)) ∧ s.tm 5 = In i ∧ i ≤ l.length ∧ s.σ = σ.set o (.arr (.own 0) st sz (setAt rows p fun _ => rowsE (mkU k l i)))) ⟨0, by simp [cntL]; exact hst⟩ ?_
    rintro n ⟨nt, tm, σ⟩ ⟨i, rfl, hnt, h0, h1, h5, hi, hs⟩
    simp only at hnt h0 h1 h5 hs
    subst hnt
    subst hs
    have hnm1 : Nm st (setAt rows p fun _ => rowsE (mkU k l i)) v p (rowsE (mkU k l i)) := hnm.set (by simp [mkU_len])
    have hrw := hnm1.rows (sz := sz)
    have hlen : (rowsE (mkU k l i)).length = l.length := by simp [mkU_len]
    have hcl := cntL_take_le l i
    repeat' first|refine W_seq ?_|refine W_block ?_|refine W_skip ?_|refine W_ret ?_|refine W_exit ?_|refine xb_hit ?_|refine xb_miss (by decide) ?_|(apply W_reg;(simp [-VO.rows, h0, h1, h5, hrw, hlen];exact .r _))
    refine W_cond (by simp [-VO.rows, h0, h1, h5]; exact .r _) (fun hc => ?_) (fun hc => ?_)
    · have hil : i < l.length := by simpa using hc
      have hct := cntL_take l i hil
      have hcl2 := cntL_take_le l (i + 1)
      have hset := mkU_set k l i hil
      have hlx := hl.2 _ (List.getElem_mem hil)
      have hcut : Mk.cnt l[i] = 1 + cntL l[i].args := rfl
      have g0 : (rowsE (mkU k l i))[i]? = some [.i .i64 l[i].rel, .sl (rowsE l[i].args)] := by simp [rowsE, mkU_get k l i hil]
      have n0 := hnm1
      have g1 : ((rowsE (mkU k l i)).set i [.i .i64 (k + cntL (l.take i)), .sl (rowsE l[i].args)])[i]? = some [.i .i64 (k + cntL (l.take i)), .sl (rowsE l[i].args)] := by rw [List.getElem?_set_self (by rw [hlen]; exact hil)]
      have n1 : Nm st (setAt rows p fun _ => (rowsE (mkU k l i)).set i [.i .i64 (k + cntL (l.take i)), .sl (rowsE l[i].args)]) v p ((rowsE (mkU k l i)).set i [.i .i64 (k + cntL (l.take i)), .sl (rowsE l[i].args)]) := hnm.set (by simp [mkU_len])
      have r1 := n1.rows (sz := sz)
      have in1 := n1.inner (i := i) (j := 1) g1 rfl
      have w1 := n1.rows (sz := sz)
      have cc1 := markIntS_c (σ.set o (.arr (.own 0) st sz (setAt rows p fun _ => (rowsE (mkU k l i)).set i [.i .i64 (k + cntL (l.take i)), .sl (rowsE l[i].args)]))) o st st sz (p ++ [(i, 1)]) _ l[i].args (by simp) in1 (k + cntL (l.take i) + 1) (by omega) (by omega) (hlx)
      simp only [Sto.set] at cc1
      have g2 : ((rowsE (mkU k l i)).set i [.i .i64 (k + cntL (l.take i)), .sl (rowsE (mkL (k + cntL (l.take i) + 1) l[i].args))])[i]? = some [.i .i64 (k + cntL (l.take i)), .sl (rowsE (mkL (k + cntL (l.take i) + 1) l[i].args))] := by rw [List.getElem?_set_self (by rw [hlen]; exact hil)]
      have n2 : Nm st (setAt rows p fun _ => (rowsE (mkU k l i)).set i [.i .i64 (k + cntL (l.take i)), .sl (rowsE (mkL (k + cntL (l.take i) + 1) l[i].args))]) v p ((rowsE (mkU k l i)).set i [.i .i64 (k + cntL (l.take i)), .sl (rowsE (mkL (k + cntL (l.take i) + 1) l[i].args))]) := hnm.set (by simp [mkU_len])
      have r2 := n2.rows (sz := sz)
      have q1 : setAt (setAt rows p fun _ => (rowsE (mkU k l i)).set i [.i .i64 (k + cntL (l.take i)), .sl (rowsE l[i].args)]) (p ++ [(i, 1)]) (fun _ => rowsE (mkL (k + cntL (l.take i) + 1) l[i].args)) = setAt rows p (fun _ => (rowsE (mkU k l i)).set i [.i .i64 (k + cntL (l.take i)), .sl (rowsE (mkL (k + cntL (l.take i) + 1) l[i].args))]) := by
        rw [setAt_app, setAt_set]; congr 1; funext _; rw [setAt_one g1 (j := 1) rfl]; simp [List.set_set]
      have gz := g0
      have hw1k : IntKind.i64.wrap (k + cntL (l.take i) + 1) = k + cntL (l.take i) + 1 := wrap_ok (by omega) (by omega)
      repeat' first|refine W_seq ?_|refine W_block ?_|refine W_skip ?_|refine W_ret ?_|refine W_exit ?_|refine xb_hit ?_|refine xb_miss (by decide) ?_|(apply W_reg;(simp [-VO.rows, h0, h1, h5, hrw, cc1, q1, setAt_set, upd_upd, hw1k, hrw, g0, hil, g1, g2, r1, r2];exact .r _))
      refine ⟨_, ?_, i + 1, rfl, rfl, by simp [h0], ?_, ?_, by omega, ?_⟩
      · omega
      · simp; first | (rw [hct]; omega) | (rw [wrap_ok (by omega) (by omega), hct]; omega)
      · simp [h5]; exact wrap_succ (by omega)
      · simp only [Sto.set, upd_upd, setAt_set]
        rw [← hset, rowsE_set]; first | rfl | (simp only [List.set_set]; rfl)
    · have hil : i = l.length := by simp at hc; omega
      subst hil
      repeat' first|refine W_seq ?_|refine W_block ?_|refine W_skip ?_|refine W_ret ?_|refine W_exit ?_|refine xb_hit ?_|refine xb_miss (by decide) ?_|(apply W_reg;(simp [-VO.rows, h0, h1, h5];exact .r _))
      simp only [mkU_all, List.take_length] at *
      exact ⟨In (k + cntL l), by simp [h1], rfl, rfl⟩
  obtain ⟨r, σ', h1, h2, h3⟩ := key
  rw [h1, h2, h3]
theorem markFactS_c (σ : Sto) (o v st sz : Nat) (p : List (Nat × Nat)) (rows : List (List T)) (l : List (RA)) (hob : σ.ob o = .arr (.own 0) st sz rows) (hnm : Nm st rows v p (rowsE l)) (k : Int) (h0 : 0 ≤ k) (hk : k + cntL l ≤ 4611686018427387903) (hl : Lw.bd 1048576 l) :
    callV Ms XX σ 68 [.ref o v p, In k] = some (In (k + cntL l), σ.set o (.arr (.own 0) st sz (setAt rows p fun _ => rowsE (mkL k l)))) := callV_d (by rfl) (markFactS_m σ o v st sz p rows l hob hnm k h0 hk hl) rfl
theorem mkLenFactS (k : Int) (l : List (RA)) : (rowsE (mkL k l)).length = l.length := by simp [mkL_len]
theorem heldFactS_r (l : List (RA)) (k : Int) (h0 : 0 ≤ k) (hk : k + cntL l ≤ 4611686018427387903) (hl : Lw.bd 1048576 l) : Ret XX 231 [Ar (mkL k l), In k] (.t (.i .i64 (k + cntL l)) false) := by
  have hn := hl.1
  have hlen := mkLenFactS k l
  refine ret_W rfl Tryz.func231 rfl rfl (by simp [Tryz.f231]) ?_
  simp only [Tryz.f231]
  repeat' first|refine W_seq ?_|refine W_block ?_|refine W_skip ?_|refine W_ret ?_|refine W_exit ?_|refine xb_hit ?_|refine xb_miss (by decide) ?_|(apply W_reg;(simp;exact .r _))
  refine W_loop (n := l.length) (fun n s => ∃ i : Nat, n = l.length - i ∧ s.nt = 31 ∧ s.tm 0 = Ar (mkL k l) ∧ s.tm 1 = In (k + cntL (l.take i)) ∧ s.tm 5 = In i ∧ i ≤ l.length) ⟨0, by simp [cntL]⟩ ?_
  rintro n ⟨nt, tm, σ⟩ ⟨i, rfl, hnt, h0, h1, h5, hi⟩
  simp only at hnt h0 h1 h5
  subst hnt
  have hcl := cntL_take_le l i
  repeat' first|refine W_seq ?_|refine W_block ?_|refine W_skip ?_|refine W_ret ?_|refine W_exit ?_|refine xb_hit ?_|refine xb_miss (by decide) ?_|(apply W_reg;(simp [h0, h1, h5, mkL_len];exact .r _))
  refine W_cond (by simp [h0, h1, h5]; exact .r _) (fun hc => ?_) (fun hc => ?_)
  · have hil : i < l.length := by simpa using hc
    have hlx := hl.2 _ (List.getElem_mem hil)
    have hcut : Mk.cnt l[i] = 1 + cntL l[i].args := rfl
    have hg : (rowsE (mkL k l))[i]? = some [.i .i64 (k + cntL (l.take i)), .sl (rowsE (mkL (k + cntL (l.take i) + 1) l[i].args))] := by rw [rowsE, List.getElem?_map, mkL_get k l i hil]; rfl
    have hct := cntL_take l i hil
    have hcl2 := cntL_take_le l (i + 1)
    have cc1 := cv (heldIntS_r l[i].args (k + cntL (l.take i) + 1) (by omega) (by omega) (hlx))
    have hw1k : IntKind.i64.wrap (k + cntL (l.take i) + 1) = k + cntL (l.take i) + 1 := wrap_ok (by omega) (by omega)
    repeat' first|refine W_seq ?_|refine W_block ?_|refine W_skip ?_|refine W_ret ?_|refine W_exit ?_|refine xb_hit ?_|refine xb_miss (by decide) ?_|(apply W_reg;(simp [h0, h1, h5, hg, hil, cc1, hw1k];exact .r _))
    refine W_cond (by simp [h0, h1, h5]; exact .r _) (fun hd => ?_) (fun hd => ?_)
    · exfalso; revert hd; simp; try omega
    repeat' first|refine W_seq ?_|refine W_block ?_|refine W_skip ?_|refine W_ret ?_|refine W_exit ?_|refine xb_hit ?_|refine xb_miss (by decide) ?_|(apply W_reg;(simp [h0, h1, h5, hg, hil, cc1, hw1k];exact .r _))
    refine W_cond (by simp [h0, h1, h5]; exact .r _) (fun hd => ?_) (fun hd => ?_)
    · exfalso; revert hd; simp; try omega
    repeat' first|refine W_seq ?_|refine W_block ?_|refine W_skip ?_|refine W_ret ?_|refine W_exit ?_|refine xb_hit ?_|refine xb_miss (by decide) ?_|(apply W_reg;(simp [h0, h1, h5];exact .r _))
    refine ⟨_, ?_, i + 1, rfl, rfl, ?_, by (first | (simp [h1]; rw [wrap_ok (by omega) (by omega), hct]; omega) | (simp [h1]; rw [hct]; omega) | (simp [h1]; omega)), ?_, by omega⟩
    all_goals first|assumption|(simp [h0, h1, h5];done)|(simp [h0, h1, h5];omega)|(simp [h0, h1, h5];exact wrap_succ (by omega))|omega
  · have hil : i = l.length := by simp at hc; omega
    subst hil
    repeat' first|refine W_seq ?_|refine W_block ?_|refine W_skip ?_|refine W_ret ?_|refine W_exit ?_|refine xb_hit ?_|refine xb_miss (by decide) ?_|(apply W_reg;(simp [h0, h1, h5];exact .r _))
    simp [h1, List.take_length]
theorem szQuery_r (a : Qry) (left : Int) (h0 : 0 ≤ left) (h1 : left ≤ 1048576) (hf : Fit a) : Ret XX 53 [Ag a, In left] (.t (.i .i64 (szA (Lw.w a) left)) false) := by
  refine ret_W rfl Tryz.func53 rfl rfl (by simp [Tryz.f53]) ?_
  simp only [Tryz.f53]
  have c0 := fun (r : Int) (g0 : 0 ≤ r) (g1 : r ≤ 1048576) => cv (szIntS_r a.head r g0 g1 hf.1)
  have c1 := fun (r : Int) (g0 : 0 ≤ r) (g1 : r ≤ 1048576) => cv (szAtomS_r a.body r g0 g1 hf.2)
  have hw : Lw.w a = Lw.w a.head + Lw.w a.body := rfl
  have d0 := c0 (left) (by omega) (by omega)
  repeat' first|refine W_seq ?_|refine W_block ?_|refine W_skip ?_|refine W_ret ?_|refine W_exit ?_|refine xb_hit ?_|refine xb_miss (by decide) ?_|(apply W_reg;(simp [Ag, d0];exact .r _))
  by_cases e0 : ((Lw.w a.head : Nat) : Int) ≤ left
  case neg =>
    have s0 : szA (Lw.w a.head) (left) = -1 := by unfold szA; rw [if_neg e0]
    have s9 : szA (Lw.w a) left = -1 := by unfold szA; rw [hw, if_neg (by omega)]
    refine W_cond (by simp; exact .r _) (fun hc => ?_) (fun hc => ?_)
    · repeat' first|refine W_seq ?_|refine W_block ?_|refine W_skip ?_|refine W_ret ?_|refine W_exit ?_|refine xb_hit ?_|refine xb_miss (by decide) ?_|(apply W_reg;(simp;exact .r _))
      rw [s9]; simp
    · exfalso; revert hc; rw [s0]; simp
  have s0 : szA (Lw.w a.head) (left) = left - (Lw.w a.head : Nat) := by unfold szA; rw [if_pos e0]
  refine W_cond (by simp; exact .r _) (fun hc => ?_) (fun hc => ?_)
  · exfalso; revert hc; rw [s0]; simp; omega
  have d1 := c1 (left - (Lw.w a.head : Nat)) (by omega) (by omega)
  repeat' first|refine W_seq ?_|refine W_block ?_|refine W_skip ?_|refine W_ret ?_|refine W_exit ?_|refine xb_hit ?_|refine xb_miss (by decide) ?_|(apply W_reg;(simp [Ag, d1, s0];exact .r _))
  by_cases e1 : ((Lw.w a.body : Nat) : Int) ≤ left - (Lw.w a.head : Nat)
  case neg =>
    have s1 : szA (Lw.w a.body) (left - (Lw.w a.head : Nat)) = -1 := by unfold szA; rw [if_neg e1]
    have s9 : szA (Lw.w a) left = -1 := by unfold szA; rw [hw, if_neg (by omega)]
    refine W_cond (by simp; exact .r _) (fun hc => ?_) (fun hc => ?_)
    · repeat' first|refine W_seq ?_|refine W_block ?_|refine W_skip ?_|refine W_ret ?_|refine W_exit ?_|refine xb_hit ?_|refine xb_miss (by decide) ?_|(apply W_reg;(simp;exact .r _))
      rw [s9]; simp
    · exfalso; revert hc; rw [s1]; simp
  have s1 : szA (Lw.w a.body) (left - (Lw.w a.head : Nat)) = left - (Lw.w a.head : Nat) - (Lw.w a.body : Nat) := by unfold szA; rw [if_pos e1]
  refine W_cond (by simp; exact .r _) (fun hc => ?_) (fun hc => ?_)
  · exfalso; revert hc; rw [s1]; simp; omega
  repeat' first|refine W_seq ?_|refine W_block ?_|refine W_skip ?_|refine W_ret ?_|refine W_exit ?_|refine xb_hit ?_|refine xb_miss (by decide) ?_|(apply W_reg;(simp [s0, s1];exact .r _))
  have s9 : szA (Lw.w a) left = left - (Lw.w a.head : Nat) - (Lw.w a.body : Nat) := by unfold szA; (rw [hw, if_pos (by omega)]) <;> omega
  rw [s9]; simp [s0, s1]
theorem toQuery_r (a : Qry) (hl : Lw.bd 1048576 a) : Ret XX 58 [Ag a] (.agg [.own 1 (rowsE a.head), .own 2 (rowsE a.body)]) := by
  refine ret_W rfl Tryz.func58 rfl rfl (by simp [Tryz.f58]) ?_
  simp only [Tryz.f58]
  have c0 := cv (toIntS_r a.head hl.1)
  have c1 := cv (toAtomS_r a.body hl.2)
  repeat' first|refine W_seq ?_|refine W_block ?_|refine W_skip ?_|refine W_ret ?_|refine W_exit ?_|refine xb_hit ?_|refine xb_miss (by decide) ?_|(apply W_reg;(simp [Ag, c0, c1];exact .r _))
  simp
theorem eqQuery_r (a b : Qry) (hl : Lw.bd 1048576 a) : Ret XX 63 [Ag a, Ag b] (.t (.b (decide (a = b))) false) := by
  refine ret_W rfl Tryz.func63 rfl rfl (by simp [Tryz.f63]) ?_
  simp only [Tryz.f63]
  have c0 := cv (eqIntS_r a.head b.head hl.1)
  have c1 := cv (eqAtomS_r a.body b.body hl.2)
  repeat' first|refine W_seq ?_|refine W_block ?_|refine W_skip ?_|refine W_ret ?_|refine W_exit ?_|refine xb_hit ?_|refine xb_miss (by decide) ?_|(apply W_reg;(simp [Ag, c0, c1];exact .r _))
  refine W_cond (by simp; exact .r _) (fun hc => ?_) (fun hc => ?_)
  · repeat' first|refine W_seq ?_|refine W_block ?_|refine W_skip ?_|refine W_ret ?_|refine W_exit ?_|refine xb_hit ?_|refine xb_miss (by decide) ?_|(apply W_reg;(simp;exact .r _))
    have : a ≠ b := fun e => by subst e; simp at hc
    simp [this]
  have e0 : a.head = b.head := by simpa using hc
  clear hc
  repeat' first|refine W_seq ?_|refine W_block ?_|refine W_skip ?_|refine W_ret ?_|refine W_exit ?_|refine xb_hit ?_|refine xb_miss (by decide) ?_|(apply W_reg;(simp [Ag, c0, c1];exact .r _))
  refine W_cond (by simp; exact .r _) (fun hc => ?_) (fun hc => ?_)
  · repeat' first|refine W_seq ?_|refine W_block ?_|refine W_skip ?_|refine W_ret ?_|refine W_exit ?_|refine xb_hit ?_|refine xb_miss (by decide) ?_|(apply W_reg;(simp;exact .r _))
    have : a ≠ b := fun e => by subst e; simp at hc
    simp [this]
  have e1 : a.body = b.body := by simpa using hc
  clear hc
  repeat' first|refine W_seq ?_|refine W_block ?_|refine W_skip ?_|refine W_ret ?_|refine W_exit ?_|refine xb_hit ?_|refine xb_miss (by decide) ?_|(apply W_reg;(simp;exact .r _))
  have : a = b := by cases a; cases b; simp only at e0 e1; simp [e0, e1]
  simp [this]
theorem szQueryS_r (l : List (Qry)) (left : Int) (h0 : 0 ≤ left) (h1 : left ≤ 1048576) (hf : Fit l) : Ret XX 82 [Ar l, In left] (.t (.i .i64 (szA (Lw.w l) left)) false) := by
  have hl : l.length ≤ 9223372036854775807 := hf.1
  have hwl : Lw.w l = wL l := rfl
  rw [hwl]
  refine ret_W rfl Tryz.func82 rfl rfl (by simp [Tryz.f82]) ?_
  simp only [Tryz.f82]
  have hw : IntKind.i64.wrap (left - l.length) = left - l.length := wrap_ok (by omega) (by omega)
  repeat' first|refine W_seq ?_|refine W_block ?_|refine W_skip ?_|refine W_ret ?_|refine W_exit ?_|refine xb_hit ?_|refine xb_miss (by decide) ?_|(apply W_reg;(simp [hw];exact .r _))
  refine W_cond (by simp; exact .r _) (fun hc => ?_) (fun hc => ?_)
  · repeat' first|refine W_seq ?_|refine W_block ?_|refine W_skip ?_|refine W_ret ?_|refine W_exit ?_|refine xb_hit ?_|refine xb_miss (by decide) ?_|(apply W_reg;(simp;exact .r _))
    have hgt : ¬ (l.length : Int) ≤ left := by simp at hc; omega
    have : ¬ ((wL l : Nat) : Int) ≤ left := by unfold wL; omega
    simp [szA, this]
  have hle : (l.length : Int) ≤ left := by simp at hc; omega
  repeat' first|refine W_seq ?_|refine W_block ?_|refine W_skip ?_|refine W_ret ?_|refine W_exit ?_|refine xb_hit ?_|refine xb_miss (by decide) ?_|(apply W_reg;(simp;exact .r _))
  refine W_loop (n := l.length) (fun n s => ∃ i : Nat, ∃ r : Int, n = l.length - i ∧ s.nt = 27 ∧ s.tm 0 = Ar l ∧ s.tm 1 = In r ∧ s.tm 5 = In i ∧ i ≤ l.length ∧ 0 ≤ r ∧ r = left - l.length - ((l.take i).map Lw.w).sum) ⟨0, left - l.length, by simp <;> omega⟩ ?_
  rintro n ⟨nt, tm, σ⟩ ⟨i, r, rfl, hnt, h0, h1, h5, hi, hr, hre⟩
  simp only at hnt h0 h1 h5
  subst hnt
  repeat' first|refine W_seq ?_|refine W_block ?_|refine W_skip ?_|refine W_ret ?_|refine W_exit ?_|refine xb_hit ?_|refine xb_miss (by decide) ?_|(apply W_reg;(simp [h0, h1, h5];exact .r _))
  have hsplit : wL l = l.length + ((l.take i).map Lw.w).sum + ((l.drop i).map Lw.w).sum := by
    have := wL_split l i; unfold wL; omega
  refine W_cond (by simp [h0, h1, h5]; exact .r _) (fun hc => ?_) (fun hc => ?_)
  · have hil : i < l.length := by simp at hc; omega
    have hcc := cv (szQuery_r l[i] r hr (by omega) (hf.2 _ (List.getElem_mem hil)))
    simp only [Ag, cells_Q, List.map_cons, List.map_nil] at hcc
    repeat' first|refine W_seq ?_|refine W_block ?_|refine W_skip ?_|refine W_ret ?_|refine W_exit ?_|refine xb_hit ?_|refine xb_miss (by decide) ?_|(apply W_reg;(simp [h0, h1, h5, hil, hcc];exact .r _))
    have hd : ((l.drop i).map Lw.w).sum = Lw.w l[i] + ((l.drop (i + 1)).map Lw.w).sum := by rw [List.drop_eq_getElem_cons hil, List.map_cons, List.sum_cons]
    have ht := wL_take l i hil
    by_cases h : ((Lw.w l[i] : Nat) : Int) ≤ r
    · have h' : szA (Lw.w l[i]) r = r - Lw.w l[i] := by simp [szA, h]
      refine W_cond (by simp [h0, h1, h5]; exact .r _) (fun he => ?_) (fun he => ?_)
      · rw [h'] at he; simp at he; omega
      · repeat' first|refine W_seq ?_|refine W_block ?_|refine W_skip ?_|refine W_ret ?_|refine W_exit ?_|refine xb_hit ?_|refine xb_miss (by decide) ?_|(apply W_reg;(simp [h0, h1, h5];exact .r _))
        refine ⟨_, ?_, i + 1, szA (Lw.w l[i]) r, rfl, rfl, ?_, ?_, ?_, by omega, by (rw [h']; omega), by (rw [h', ht]; omega)⟩
        all_goals first|assumption|(simp [h0, h1, h5];done)|(simp [h0, h1, h5];omega)|(simp [h0, h1, h5];exact wrap_succ (by omega))|omega
    · refine W_cond (by simp [h0, h1, h5]; exact .r _) (fun he => ?_) (fun he => ?_)
      · repeat' first|refine W_seq ?_|refine W_block ?_|refine W_skip ?_|refine W_ret ?_|refine W_exit ?_|refine xb_hit ?_|refine xb_miss (by decide) ?_|(apply W_reg;(simp [h0, h1, h5];exact .r _))
        have : ¬ ((wL l : Nat) : Int) ≤ left := by rw [hsplit, hd]; omega
        simp [szA, this]
      · exfalso
        have h' : szA (Lw.w l[i]) r = -1 := by unfold szA; rw [if_neg h]
        rw [h'] at he; simp at he
  · have hil : i = l.length := by simp at hc; omega
    subst hil
    repeat' first|refine W_seq ?_|refine W_block ?_|refine W_skip ?_|refine W_ret ?_|refine W_exit ?_|refine xb_hit ?_|refine xb_miss (by decide) ?_|(apply W_reg;(simp [h0, h1, h5];exact .r _))
    rw [List.drop_length] at hsplit
    simp only [List.map_nil, List.sum_nil, Nat.add_zero] at hsplit
    have : ((wL l : Nat) : Int) ≤ left := by rw [hsplit]; omega
    have h9 : szA (wL l) left = r := by rw [szA, if_pos this, hsplit]; omega
    simp [h9]
theorem toQueryS_r (l : List (Qry)) (hl : Lw.bd 1048576 l) : Ret XX 84 [Ar l] (.own 2 (rowsE l)) := by
  have hn := hl.1
  refine ret_W rfl Tryz.func84 rfl rfl (by simp [Tryz.f84]) ?_
  simp only [Tryz.f84]
  repeat' first|refine W_seq ?_|refine W_block ?_|refine W_skip ?_|refine W_ret ?_|refine W_exit ?_|refine xb_hit ?_|refine xb_miss (by decide) ?_|(apply W_reg;(simp [show l.length < 1099511627776 by omega];exact .r _))
  refine W_loop (n := l.length) (fun n s => ∃ i : Nat, ∃ st : Nat, n = l.length - i ∧ s.nt = 23 ∧ s.tm 0 = Ar l ∧ s.tm 3 = .ref 0 l.length [] ∧ s.tm 4 = In i ∧ i ≤ l.length ∧ s.σ.ob 0 = .arr (.own 0) st 2 (rowsE (l.take i ++ List.replicate (l.length - i) (⟨[], []⟩ : Qry))) ∧ 1 ≤ s.σ.n) ⟨0, 0, by simp [rowsE]⟩ ?_
  rintro n ⟨nt, tm, σ⟩ ⟨i, st, rfl, hnt, h0, h3, h4, hi, ho, hn1⟩
  simp only at hnt h0 h3 h4 ho hn1
  subst hnt
  repeat' first|refine W_seq ?_|refine W_block ?_|refine W_skip ?_|refine W_ret ?_|refine W_exit ?_|refine xb_hit ?_|refine xb_miss (by decide) ?_|(apply W_reg;(simp [h0, h3, h4, ho, hn1];exact .r _))
  refine W_cond (by simp [h0, h3, h4, ho, hn1]; exact .r _) (fun hc => ?_) (fun hc => ?_)
  · have hil : i < l.length := by simpa using hc
    have hle : i ≤ l.length := hi
    have e0 : ¬ (0 = σ.n) := by omega
    have e0' : ¬ (σ.n = 0) := by omega
    have hg : (rowsE (l.take i ++ List.replicate (l.length - i) (⟨[], []⟩ : Qry)))[i]? = some (Enc.cells (⟨[], []⟩ : Qry)) := fill_get l _ i hil
    have hfs := fill_set l (⟨[], []⟩ : Qry) i hil
    have hrl : (rowsE (l.take i ++ List.replicate (l.length - i) (⟨[], []⟩ : Qry))).length = l.length := fill_len l _ i hi
    simp only [cells_Q, rowsE_nil] at hg
    have hcc := cv (toQuery_r l[i] (hl.2 _ (List.getElem_mem hil)))
    simp only [Ag, cells_Q, List.map_cons, List.map_nil] at hcc
    repeat' first|refine W_seq ?_|refine W_block ?_|refine W_skip ?_|refine W_ret ?_|refine W_exit ?_|refine xb_hit ?_|refine xb_miss (by decide) ?_|(apply W_reg;(simp [h0, h3, h4, ho, hn1, hil, hg, hrl, hle, hcc, e0, e0'];exact .r _))
    refine ⟨_, ?_, i + 1, st + 1, rfl, rfl, ?_, ?_, ?_, by omega, by (simp [e0, e0']; rw [← hfs, rowsE_set]; rfl), ?_⟩
    all_goals first|assumption|(simp [h0, h3, h4, ho, hn1, e0, e0'];done)|(simp [h0, h3, h4, ho, hn1, e0, e0'];omega)|(simp [h0, h3, h4, ho, hn1, e0, e0'];exact wrap_succ (by omega))|omega
  · have hil : i = l.length := by simp at hc; omega
    subst hil
    repeat' first|refine W_seq ?_|refine W_block ?_|refine W_skip ?_|refine W_ret ?_|refine W_exit ?_|refine xb_hit ?_|refine xb_miss (by decide) ?_|(apply W_reg;(simp [h0, h3, h4, ho, hn1];exact .r _))
    simp [ho]
theorem eqQueryS_r (a b : List (Qry)) (hl : Lw.bd 1048576 a) : Ret XX 87 [Ar a, Ar b] (.t (.b (decide (a = b))) false) := by
  have hn := hl.1
  refine ret_W rfl Tryz.func87 rfl rfl (by simp [Tryz.f87]) ?_
  simp only [Tryz.f87]
  repeat' first|refine W_seq ?_|refine W_block ?_|refine W_skip ?_|refine W_ret ?_|refine W_exit ?_|refine xb_hit ?_|refine xb_miss (by decide) ?_|(apply W_reg;(simp;exact .r _))
  refine W_cond (by simp; exact .r _) (fun hc => ?_) (fun hc => ?_)
  · repeat' first|refine W_seq ?_|refine W_block ?_|refine W_skip ?_|refine W_ret ?_|refine W_exit ?_|refine xb_hit ?_|refine xb_miss (by decide) ?_|(apply W_reg;(simp;exact .r _))
    have : a ≠ b := fun e => by subst e; simp at hc
    simp [this]
  have hll : a.length = b.length := by simp at hc; omega
  repeat' first|refine W_seq ?_|refine W_block ?_|refine W_skip ?_|refine W_ret ?_|refine W_exit ?_|refine xb_hit ?_|refine xb_miss (by decide) ?_|(apply W_reg;(simp;exact .r _))
  refine W_loop (n := a.length) (fun n s => ∃ i : Nat, n = a.length - i ∧ s.nt = 27 ∧ s.tm 0 = Ar a ∧ s.tm 1 = Ar b ∧ s.tm 5 = In i ∧ i ≤ a.length ∧ a.take i = b.take i) ⟨0, by simp⟩ ?_
  rintro n ⟨nt, tm, σ⟩ ⟨i, rfl, hnt, h0, h1, h5, hi, heq⟩
  simp only at hnt h0 h1 h5
  subst hnt
  repeat' first|refine W_seq ?_|refine W_block ?_|refine W_skip ?_|refine W_ret ?_|refine W_exit ?_|refine xb_hit ?_|refine xb_miss (by decide) ?_|(apply W_reg;(simp [h0, h1, h5];exact .r _))
  refine W_cond (by simp [h0, h1, h5]; exact .r _) (fun hc => ?_) (fun hc => ?_)
  · have hia : i < a.length := by simpa using hc
    have hib : i < b.length := by omega
    have hcc := cv (eqQuery_r a[i] b[i] (hl.2 _ (List.getElem_mem hia)))
    simp only [Ag, cells_Q, List.map_cons, List.map_nil] at hcc
    repeat' first|refine W_seq ?_|refine W_block ?_|refine W_skip ?_|refine W_ret ?_|refine W_exit ?_|refine xb_hit ?_|refine xb_miss (by decide) ?_|(apply W_reg;(simp [h0, h1, h5, hia, hib, hcc];exact .r _))|(apply W_draw (id := 6) [0,0,3,7,0,0,48,112,255,511] rfl rfl; (· simp; exact .r _); (· simp [h0, h1, h5, hia, hib, hcc]; exact .r _); (· first|trivial|simp))
    refine W_cond (by simp [h0, h1, h5]; exact .r _) (fun hd => ?_) (fun hd => ?_)
    · repeat' first|refine W_seq ?_|refine W_block ?_|refine W_skip ?_|refine W_ret ?_|refine W_exit ?_|refine xb_hit ?_|refine xb_miss (by decide) ?_|(apply W_reg;(simp [h0, h1, h5];exact .r _))
      have : a ≠ b := fun e => by subst e; simp at hd
      simp [this]
    · have hd : a[i] = b[i] := by simpa using hd
      repeat' first|refine W_seq ?_|refine W_block ?_|refine W_skip ?_|refine W_ret ?_|refine W_exit ?_|refine xb_hit ?_|refine xb_miss (by decide) ?_|(apply W_reg;(simp [h0, h1, h5];exact .r _))
      refine ⟨_, ?_, i + 1, rfl, rfl, ?_, ?_, ?_, by omega, by rw [List.take_succ_eq_append_getElem hia, List.take_succ_eq_append_getElem hib, heq, hd]⟩
      all_goals first|assumption|(simp [h0, h1, h5];done)|(simp [h0, h1, h5];omega)|(simp [h0, h1, h5];exact wrap_succ (by omega))|omega
  · have hil : i = a.length := by simp at hc; omega
    subst hil
    repeat' first|refine W_seq ?_|refine W_block ?_|refine W_skip ?_|refine W_ret ?_|refine W_exit ?_|refine xb_hit ?_|refine xb_miss (by decide) ?_|(apply W_reg;(simp [h0, h1, h5];exact .r _))
    rw [List.take_length, hll, List.take_length] at heq
    have : a = b := heq
    simp [this]
theorem markQueryS_m (σ : Sto) (o v st sz : Nat) (p : List (Nat × Nat)) (rows : List (List T)) (l : List (Qry)) (hob : σ.ob o = .arr (.own 0) st sz rows) (hnm : Nm st rows v p (rowsE l)) (k : Int) (h0 : 0 ≤ k) (hk : k + cntL l ≤ 4611686018427387903) (hl : Lw.bd 1048576 l) :
    XX 88 [.ref o v p, In k] σ = some (In (k + cntL l), σ.set o (.arr (.own 0) st sz (setAt rows p fun _ => rowsE (mkL k l)))) := by
  have hn := hl.1
  have key : ∃ r σ', XX 88 [.ref o v p, In k] σ = some (r, σ') ∧ (r = In (k + cntL l) ∧ σ' = σ.set o (.arr (.own 0) st sz (setAt rows p fun _ => rowsE (mkL k l)))) := by
    refine W_fn rfl Tryz.func88 rfl rfl (by simp [Tryz.f88]) ?_
    simp only [Tryz.f88]
    repeat' first|refine W_seq ?_|refine W_block ?_|refine W_skip ?_|refine W_ret ?_|refine W_exit ?_|refine xb_hit ?_|refine xb_miss (by decide) ?_|(apply W_reg;(simp;exact .r _))
    have hst : σ = σ.set o (.arr (.own 0) st sz (setAt rows p fun _ => rowsE (mkU k l 0))) := by
      rw [mkU_zero, setAt_id hnm.2.2, ← hob]
      cases σ; simp only [Sto.set]; congr 1; funext x; unfold upd; split
      · rename_i e; rw [e]
      · rfl
    refine W_loop (n := l.length) (fun n s => ∃ i : Nat, n = l.length - i ∧ s.nt = 27 ∧ s.tm 0 = .ref o v p ∧ s.tm 1 = In (k + cntL (l.take i)) ∧ s.tm 5 = In i ∧ i ≤ l.length ∧ s.σ = σ.set o (.arr (.own 0) st sz (setAt rows p fun _ => rowsE (mkU k l i)))) ⟨0, by simp [cntL]; exact hst⟩ ?_
    rintro n ⟨nt, tm, σ⟩ ⟨i, rfl, hnt, h0, h1, h5, hi, hs⟩
    simp only at hnt h0 h1 h5 hs
    subst hnt
    subst hs
    have hnm1 : Nm st (setAt rows p fun _ => rowsE (mkU k l i)) v p (rowsE (mkU k l i)) := hnm.set (by simp [mkU_len])
    have hrw := hnm1.rows (sz := sz)
    have hlen : (rowsE (mkU k l i)).length = l.length := by simp [mkU_len]
    have hcl := cntL_take_le l i
    repeat' first|refine W_seq ?_|refine W_block ?_|refine W_skip ?_|refine W_ret ?_|refine W_exit ?_|refine xb_hit ?_|refine xb_miss (by decide) ?_|(apply W_reg;(simp [-VO.rows, h0, h1, h5, hrw, hlen];exact .r _))
    refine W_cond (by simp [-VO.rows, h0, h1, h5]; exact .r _) (fun hc => ?_) (fun hc => ?_)
    · have hil : i < l.length := by simpa using hc
      have hct := cntL_take l i hil
      have hcl2 := cntL_take_le l (i + 1)
      have hset := mkU_set k l i hil
      have hlx := hl.2 _ (List.getElem_mem hil)
      have hcut : Mk.cnt l[i] = cntL l[i].head + cntL l[i].body := rfl
      have g0 : (rowsE (mkU k l i))[i]? = some [.sl (rowsE l[i].head), .sl (rowsE l[i].body)] := by simp [rowsE, mkU_get k l i hil]
      have n0 := hnm1
      have in0 := n0.inner (i := i) (j := 0) g0 rfl
      have w0 := n0.rows (sz := sz)
      have cc0 := markIntS_c (σ.set o (.arr (.own 0) st sz (setAt rows p fun _ => rowsE (mkU k l i)))) o st st sz (p ++ [(i, 0)]) _ l[i].head (by simp) in0 (k + cntL (l.take i)) (by omega) (by omega) (hlx.1)
      simp only [Sto.set] at cc0
      have g1 : ((rowsE (mkU k l i)).set i [.sl (rowsE (mkL (k + cntL (l.take i)) l[i].head)), .sl (rowsE l[i].body)])[i]? = some [.sl (rowsE (mkL (k + cntL (l.take i)) l[i].head)), .sl (rowsE l[i].body)] := by rw [List.getElem?_set_self (by rw [hlen]; exact hil)]
      have n1 : Nm st (setAt rows p fun _ => (rowsE (mkU k l i)).set i [.sl (rowsE (mkL (k + cntL (l.take i)) l[i].head)), .sl (rowsE l[i].body)]) v p ((rowsE (mkU k l i)).set i [.sl (rowsE (mkL (k + cntL (l.take i)) l[i].head)), .sl (rowsE l[i].body)]) := hnm.set (by simp [mkU_len])
      have r1 := n1.rows (sz := sz)
      have q0 : setAt (setAt rows p fun _ => rowsE (mkU k l i)) (p ++ [(i, 0)]) (fun _ => rowsE (mkL (k + cntL (l.take i)) l[i].head)) = setAt rows p (fun _ => (rowsE (mkU k l i)).set i [.sl (rowsE (mkL (k + cntL (l.take i)) l[i].head)), .sl (rowsE l[i].body)]) := by
        rw [setAt_app, setAt_set]; congr 1; funext _; rw [setAt_one g0 (j := 0) rfl]; rfl
      have in1 := n1.inner (i := i) (j := 1) g1 rfl
      have w1 := n1.rows (sz := sz)
      have cc1 := markAtomS_c (σ.set o (.arr (.own 0) st sz (setAt rows p fun _ => (rowsE (mkU k l i)).set i [.sl (rowsE (mkL (k + cntL (l.take i)) l[i].head)), .sl (rowsE l[i].body)]))) o st st sz (p ++ [(i, 1)]) _ l[i].body (by simp) in1 (k + cntL (l.take i) + cntL l[i].head) (by omega) (by omega) (hlx.2)
      simp only [Sto.set] at cc1
      have g2 : ((rowsE (mkU k l i)).set i [.sl (rowsE (mkL (k + cntL (l.take i)) l[i].head)), .sl (rowsE (mkL (k + cntL (l.take i) + cntL l[i].head) l[i].body))])[i]? = some [.sl (rowsE (mkL (k + cntL (l.take i)) l[i].head)), .sl (rowsE (mkL (k + cntL (l.take i) + cntL l[i].head) l[i].body))] := by rw [List.getElem?_set_self (by rw [hlen]; exact hil)]
      have n2 : Nm st (setAt rows p fun _ => (rowsE (mkU k l i)).set i [.sl (rowsE (mkL (k + cntL (l.take i)) l[i].head)), .sl (rowsE (mkL (k + cntL (l.take i) + cntL l[i].head) l[i].body))]) v p ((rowsE (mkU k l i)).set i [.sl (rowsE (mkL (k + cntL (l.take i)) l[i].head)), .sl (rowsE (mkL (k + cntL (l.take i) + cntL l[i].head) l[i].body))]) := hnm.set (by simp [mkU_len])
      have r2 := n2.rows (sz := sz)
      have q1 : setAt (setAt rows p fun _ => (rowsE (mkU k l i)).set i [.sl (rowsE (mkL (k + cntL (l.take i)) l[i].head)), .sl (rowsE l[i].body)]) (p ++ [(i, 1)]) (fun _ => rowsE (mkL (k + cntL (l.take i) + cntL l[i].head) l[i].body)) = setAt rows p (fun _ => (rowsE (mkU k l i)).set i [.sl (rowsE (mkL (k + cntL (l.take i)) l[i].head)), .sl (rowsE (mkL (k + cntL (l.take i) + cntL l[i].head) l[i].body))]) := by
        rw [setAt_app, setAt_set]; congr 1; funext _; rw [setAt_one g1 (j := 1) rfl]; simp [List.set_set]
      have gz := g0
      repeat' first|refine W_seq ?_|refine W_block ?_|refine W_skip ?_|refine W_ret ?_|refine W_exit ?_|refine xb_hit ?_|refine xb_miss (by decide) ?_|(apply W_reg;(simp [-VO.rows, h0, h1, h5, cc0, q0, cc1, q1, upd_upd, hrw, g0, hil, g1, g2, r1, r2];exact .r _))
      refine ⟨_, ?_, i + 1, rfl, rfl, by simp [h0], ?_, ?_, by omega, ?_⟩
      · omega
      · simp; first | (rw [hct]; omega) | (rw [wrap_ok (by omega) (by omega), hct]; omega)
      · simp [h5]; exact wrap_succ (by omega)
      · simp only [Sto.set, upd_upd, setAt_set]
        rw [← hset, rowsE_set]; first | rfl | (simp only [List.set_set]; rfl)
    · have hil : i = l.length := by simp at hc; omega
      subst hil
      repeat' first|refine W_seq ?_|refine W_block ?_|refine W_skip ?_|refine W_ret ?_|refine W_exit ?_|refine xb_hit ?_|refine xb_miss (by decide) ?_|(apply W_reg;(simp [-VO.rows, h0, h1, h5];exact .r _))
      simp only [mkU_all, List.take_length] at *
      exact ⟨In (k + cntL l), by simp [h1], rfl, rfl⟩
  obtain ⟨r, σ', h1, h2, h3⟩ := key
  rw [h1, h2, h3]
theorem markQueryS_c (σ : Sto) (o v st sz : Nat) (p : List (Nat × Nat)) (rows : List (List T)) (l : List (Qry)) (hob : σ.ob o = .arr (.own 0) st sz rows) (hnm : Nm st rows v p (rowsE l)) (k : Int) (h0 : 0 ≤ k) (hk : k + cntL l ≤ 4611686018427387903) (hl : Lw.bd 1048576 l) :
    callV Ms XX σ 88 [.ref o v p, In k] = some (In (k + cntL l), σ.set o (.arr (.own 0) st sz (setAt rows p fun _ => rowsE (mkL k l)))) := callV_d (by rfl) (markQueryS_m σ o v st sz p rows l hob hnm k h0 hk hl) rfl
theorem mkLenQueryS (k : Int) (l : List (Qry)) : (rowsE (mkL k l)).length = l.length := by simp [mkL_len]
theorem heldQueryS_r (l : List (Qry)) (k : Int) (h0 : 0 ≤ k) (hk : k + cntL l ≤ 4611686018427387903) (hl : Lw.bd 1048576 l) : Ret XX 212 [Ar (mkL k l), In k] (.t (.i .i64 (k + cntL l)) false) := by
  have hn := hl.1
  have hlen := mkLenQueryS k l
  refine ret_W rfl Tryz.func212 rfl rfl (by simp [Tryz.f212]) ?_
  simp only [Tryz.f212]
  repeat' first|refine W_seq ?_|refine W_block ?_|refine W_skip ?_|refine W_ret ?_|refine W_exit ?_|refine xb_hit ?_|refine xb_miss (by decide) ?_|(apply W_reg;(simp;exact .r _))
  refine W_loop (n := l.length) (fun n s => ∃ i : Nat, n = l.length - i ∧ s.nt = 31 ∧ s.tm 0 = Ar (mkL k l) ∧ s.tm 1 = In (k + cntL (l.take i)) ∧ s.tm 5 = In i ∧ i ≤ l.length) ⟨0, by simp [cntL]⟩ ?_
  rintro n ⟨nt, tm, σ⟩ ⟨i, rfl, hnt, h0, h1, h5, hi⟩
  simp only at hnt h0 h1 h5
  subst hnt
  have hcl := cntL_take_le l i
  repeat' first|refine W_seq ?_|refine W_block ?_|refine W_skip ?_|refine W_ret ?_|refine W_exit ?_|refine xb_hit ?_|refine xb_miss (by decide) ?_|(apply W_reg;(simp [h0, h1, h5, mkL_len];exact .r _))
  refine W_cond (by simp [h0, h1, h5]; exact .r _) (fun hc => ?_) (fun hc => ?_)
  · have hil : i < l.length := by simpa using hc
    have hlx := hl.2 _ (List.getElem_mem hil)
    have hcut : Mk.cnt l[i] = cntL l[i].head + cntL l[i].body := rfl
    have hg : (rowsE (mkL k l))[i]? = some [.sl (rowsE (mkL (k + cntL (l.take i)) l[i].head)), .sl (rowsE (mkL (k + cntL (l.take i) + cntL l[i].head) l[i].body))] := by rw [rowsE, List.getElem?_map, mkL_get k l i hil]; rfl
    have hct := cntL_take l i hil
    have hcl2 := cntL_take_le l (i + 1)
    have cc0 := cv (heldIntS_r l[i].head (k + cntL (l.take i)) (by omega) (by omega) (hlx.1))
    have cc1 := cv (heldAtomS_r l[i].body (k + cntL (l.take i) + cntL l[i].head) (by omega) (by omega) (hlx.2))
    repeat' first|refine W_seq ?_|refine W_block ?_|refine W_skip ?_|refine W_ret ?_|refine W_exit ?_|refine xb_hit ?_|refine xb_miss (by decide) ?_|(apply W_reg;(simp [h0, h1, h5, hg, hil, cc0, cc1];exact .r _))
    refine W_cond (by simp [h0, h1, h5]; exact .r _) (fun hd => ?_) (fun hd => ?_)
    · exfalso; revert hd; simp; try omega
    repeat' first|refine W_seq ?_|refine W_block ?_|refine W_skip ?_|refine W_ret ?_|refine W_exit ?_|refine xb_hit ?_|refine xb_miss (by decide) ?_|(apply W_reg;(simp [h0, h1, h5, hg, hil, cc0, cc1];exact .r _))
    refine W_cond (by simp [h0, h1, h5]; exact .r _) (fun hd => ?_) (fun hd => ?_)
    · exfalso; revert hd; simp; try omega
    repeat' first|refine W_seq ?_|refine W_block ?_|refine W_skip ?_|refine W_ret ?_|refine W_exit ?_|refine xb_hit ?_|refine xb_miss (by decide) ?_|(apply W_reg;(simp [h0, h1, h5];exact .r _))
    refine ⟨_, ?_, i + 1, rfl, rfl, ?_, by (first | (simp [h1]; rw [wrap_ok (by omega) (by omega), hct]; omega) | (simp [h1]; rw [hct]; omega) | (simp [h1]; omega)), ?_, by omega⟩
    all_goals first|assumption|(simp [h0, h1, h5];done)|(simp [h0, h1, h5];omega)|(simp [h0, h1, h5];exact wrap_succ (by omega))|omega
  · have hil : i = l.length := by simp at hc; omega
    subst hil
    repeat' first|refine W_seq ?_|refine W_block ?_|refine W_skip ?_|refine W_ret ?_|refine W_exit ?_|refine xb_hit ?_|refine xb_miss (by decide) ?_|(apply W_reg;(simp [h0, h1, h5];exact .r _))
    simp [h1, List.take_length]
theorem szSchema_r (a : Sch) (left : Int) (h0 : 0 ≤ left) (h1 : left ≤ 1048576) (hf : Fit a) : Ret XX 52 [Ag a, In left] (.t (.i .i64 (szA (Lw.w a) left)) false) := by
  refine ret_W rfl Tryz.func52 rfl rfl (by simp [Tryz.f52]) ?_
  simp only [Tryz.f52]
  have c0 := fun (r : Int) (g0 : 0 ≤ r) (g1 : r ≤ 1048576) => cv (szIntS_r a.arity r g0 g1 hf)
  have hw : Lw.w a = Lw.w a.arity := rfl
  have d0 := c0 (left) (by omega) (by omega)
  repeat' first|refine W_seq ?_|refine W_block ?_|refine W_skip ?_|refine W_ret ?_|refine W_exit ?_|refine xb_hit ?_|refine xb_miss (by decide) ?_|(apply W_reg;(simp [Ag, d0];exact .r _))
  by_cases e0 : ((Lw.w a.arity : Nat) : Int) ≤ left
  case neg =>
    have s0 : szA (Lw.w a.arity) (left) = -1 := by unfold szA; rw [if_neg e0]
    have s9 : szA (Lw.w a) left = -1 := by unfold szA; rw [hw, if_neg (by omega)]
    refine W_cond (by simp; exact .r _) (fun hc => ?_) (fun hc => ?_)
    · repeat' first|refine W_seq ?_|refine W_block ?_|refine W_skip ?_|refine W_ret ?_|refine W_exit ?_|refine xb_hit ?_|refine xb_miss (by decide) ?_|(apply W_reg;(simp;exact .r _))
      rw [s9]; simp
    · exfalso; revert hc; rw [s0]; simp
  have s0 : szA (Lw.w a.arity) (left) = left - (Lw.w a.arity : Nat) := by unfold szA; rw [if_pos e0]
  refine W_cond (by simp; exact .r _) (fun hc => ?_) (fun hc => ?_)
  · exfalso; revert hc; rw [s0]; simp; omega
  repeat' first|refine W_seq ?_|refine W_block ?_|refine W_skip ?_|refine W_ret ?_|refine W_exit ?_|refine xb_hit ?_|refine xb_miss (by decide) ?_|(apply W_reg;(simp [s0];exact .r _))
  have s9 : szA (Lw.w a) left = left - (Lw.w a.arity : Nat) := by unfold szA; (rw [hw, if_pos (by omega)]) <;> omega
  rw [s9]; simp [s0]
theorem toSchema_r (a : Sch) (hl : Lw.bd 1048576 a) : Ret XX 57 [Ag a] (.agg [.own 1 (rowsE a.arity)]) := by
  refine ret_W rfl Tryz.func57 rfl rfl (by simp [Tryz.f57]) ?_
  simp only [Tryz.f57]
  have c0 := cv (toIntS_r a.arity hl)
  repeat' first|refine W_seq ?_|refine W_block ?_|refine W_skip ?_|refine W_ret ?_|refine W_exit ?_|refine xb_hit ?_|refine xb_miss (by decide) ?_|(apply W_reg;(simp [Ag, c0];exact .r _))
  simp
theorem eqSchema_r (a b : Sch) (hl : Lw.bd 1048576 a) : Ret XX 62 [Ag a, Ag b] (.t (.b (decide (a = b))) false) := by
  refine ret_W rfl Tryz.func62 rfl rfl (by simp [Tryz.f62]) ?_
  simp only [Tryz.f62]
  have c0 := cv (eqIntS_r a.arity b.arity hl)
  repeat' first|refine W_seq ?_|refine W_block ?_|refine W_skip ?_|refine W_ret ?_|refine W_exit ?_|refine xb_hit ?_|refine xb_miss (by decide) ?_|(apply W_reg;(simp [Ag, c0];exact .r _))
  refine W_cond (by simp; exact .r _) (fun hc => ?_) (fun hc => ?_)
  · repeat' first|refine W_seq ?_|refine W_block ?_|refine W_skip ?_|refine W_ret ?_|refine W_exit ?_|refine xb_hit ?_|refine xb_miss (by decide) ?_|(apply W_reg;(simp;exact .r _))
    have : a ≠ b := fun e => by subst e; simp at hc
    simp [this]
  have e0 : a.arity = b.arity := by simpa using hc
  clear hc
  repeat' first|refine W_seq ?_|refine W_block ?_|refine W_skip ?_|refine W_ret ?_|refine W_exit ?_|refine xb_hit ?_|refine xb_miss (by decide) ?_|(apply W_reg;(simp;exact .r _))
  have : a = b := by cases a; cases b; simp only at e0; simp [e0]
  simp [this]
theorem szSource_r (a : Src) (left : Int) (h0 : 0 ≤ left) (h1 : left ≤ 1048576) (hf : Fit a) : Ret XX 92 [Ag a, In left] (.t (.i .i64 (szA (Lw.w a) left)) false) := by
  refine ret_W rfl Tryz.func92 rfl rfl (by simp [Tryz.f92]) ?_
  simp only [Tryz.f92]
  have c0 := fun (r : Int) (g0 : 0 ≤ r) (g1 : r ≤ 1048576) => cv (szFactS_r a.facts r g0 g1 hf)
  have hw : Lw.w a = Lw.w a.facts := rfl
  have d0 := c0 (left) (by omega) (by omega)
  repeat' first|refine W_seq ?_|refine W_block ?_|refine W_skip ?_|refine W_ret ?_|refine W_exit ?_|refine xb_hit ?_|refine xb_miss (by decide) ?_|(apply W_reg;(simp [Ag, d0];exact .r _))
  by_cases e0 : ((Lw.w a.facts : Nat) : Int) ≤ left
  case neg =>
    have s0 : szA (Lw.w a.facts) (left) = -1 := by unfold szA; rw [if_neg e0]
    have s9 : szA (Lw.w a) left = -1 := by unfold szA; rw [hw, if_neg (by omega)]
    refine W_cond (by simp; exact .r _) (fun hc => ?_) (fun hc => ?_)
    · repeat' first|refine W_seq ?_|refine W_block ?_|refine W_skip ?_|refine W_ret ?_|refine W_exit ?_|refine xb_hit ?_|refine xb_miss (by decide) ?_|(apply W_reg;(simp;exact .r _))
      rw [s9]; simp
    · exfalso; revert hc; rw [s0]; simp
  have s0 : szA (Lw.w a.facts) (left) = left - (Lw.w a.facts : Nat) := by unfold szA; rw [if_pos e0]
  refine W_cond (by simp; exact .r _) (fun hc => ?_) (fun hc => ?_)
  · exfalso; revert hc; rw [s0]; simp; omega
  repeat' first|refine W_seq ?_|refine W_block ?_|refine W_skip ?_|refine W_ret ?_|refine W_exit ?_|refine xb_hit ?_|refine xb_miss (by decide) ?_|(apply W_reg;(simp [s0];exact .r _))
  have s9 : szA (Lw.w a) left = left - (Lw.w a.facts : Nat) := by unfold szA; (rw [hw, if_pos (by omega)]) <;> omega
  rw [s9]; simp [s0]
theorem toSource_r (a : Src) (hl : Lw.bd 1048576 a) : Ret XX 95 [Ag a] (.agg [.own 2 (rowsE a.facts), .t (.i .i64 a.version) false]) := by
  refine ret_W rfl Tryz.func95 rfl rfl (by simp [Tryz.f95]) ?_
  simp only [Tryz.f95]
  have c0 := cv (toFactS_r a.facts hl)
  repeat' first|refine W_seq ?_|refine W_block ?_|refine W_skip ?_|refine W_ret ?_|refine W_exit ?_|refine xb_hit ?_|refine xb_miss (by decide) ?_|(apply W_reg;(simp [Ag, c0];exact .r _))
  simp
theorem eqSource_r (a b : Src) (hl : Lw.bd 1048576 a) : Ret XX 97 [Ag a, Ag b] (.t (.b (decide (a = b))) false) := by
  refine ret_W rfl Tryz.func97 rfl rfl (by simp [Tryz.f97]) ?_
  simp only [Tryz.f97]
  have c0 := cv (eqFactS_r a.facts b.facts hl)
  repeat' first|refine W_seq ?_|refine W_block ?_|refine W_skip ?_|refine W_ret ?_|refine W_exit ?_|refine xb_hit ?_|refine xb_miss (by decide) ?_|(apply W_reg;(simp [Ag, c0];exact .r _))
  refine W_cond (by simp; exact .r _) (fun hc => ?_) (fun hc => ?_)
  · repeat' first|refine W_seq ?_|refine W_block ?_|refine W_skip ?_|refine W_ret ?_|refine W_exit ?_|refine xb_hit ?_|refine xb_miss (by decide) ?_|(apply W_reg;(simp;exact .r _))
    have : a ≠ b := fun e => by subst e; simp at hc
    simp [this]
  have e0 : a.facts = b.facts := by simpa using hc
  clear hc
  repeat' first|refine W_seq ?_|refine W_block ?_|refine W_skip ?_|refine W_ret ?_|refine W_exit ?_|refine xb_hit ?_|refine xb_miss (by decide) ?_|(apply W_reg;(simp [Ag, c0];exact .r _))
  refine W_cond (by simp; exact .r _) (fun hc => ?_) (fun hc => ?_)
  · repeat' first|refine W_seq ?_|refine W_block ?_|refine W_skip ?_|refine W_ret ?_|refine W_exit ?_|refine xb_hit ?_|refine xb_miss (by decide) ?_|(apply W_reg;(simp;exact .r _))
    have : a ≠ b := fun e => by subst e; simp at hc
    simp [this]
  have e1 : a.version = b.version := by simpa using hc
  clear hc
  repeat' first|refine W_seq ?_|refine W_block ?_|refine W_skip ?_|refine W_ret ?_|refine W_exit ?_|refine xb_hit ?_|refine xb_miss (by decide) ?_|(apply W_reg;(simp;exact .r _))
  have : a = b := by cases a; cases b; simp only at e0 e1; simp [e0, e1]
  simp [this]
theorem szChange_r (a : Chg) (left : Int) (h0 : 0 ≤ left) (h1 : left ≤ 1048576) (hf : Fit a) : Ret XX 106 [Ag a, In left] (.t (.i .i64 (szA (Lw.w a) left)) false) := by
  refine ret_W rfl Tryz.func106 rfl rfl (by simp [Tryz.f106]) ?_
  simp only [Tryz.f106]
  have c0 := fun (r : Int) (g0 : 0 ≤ r) (g1 : r ≤ 1048576) => cv (szFact_r a.fact r g0 g1 hf)
  simp only [Ag, cells_RA, List.map_cons, List.map_nil] at c0
  have hw : Lw.w a = Lw.w a.fact := rfl
  have d0 := c0 (left) (by omega) (by omega)
  repeat' first|refine W_seq ?_|refine W_block ?_|refine W_skip ?_|refine W_ret ?_|refine W_exit ?_|refine xb_hit ?_|refine xb_miss (by decide) ?_|(apply W_reg;(simp [Ag, d0];exact .r _))
  by_cases e0 : ((Lw.w a.fact : Nat) : Int) ≤ left
  case neg =>
    have s0 : szA (Lw.w a.fact) (left) = -1 := by unfold szA; rw [if_neg e0]
    have s9 : szA (Lw.w a) left = -1 := by unfold szA; rw [hw, if_neg (by omega)]
    refine W_cond (by simp; exact .r _) (fun hc => ?_) (fun hc => ?_)
    · repeat' first|refine W_seq ?_|refine W_block ?_|refine W_skip ?_|refine W_ret ?_|refine W_exit ?_|refine xb_hit ?_|refine xb_miss (by decide) ?_|(apply W_reg;(simp;exact .r _))
      rw [s9]; simp
    · exfalso; revert hc; rw [s0]; simp
  have s0 : szA (Lw.w a.fact) (left) = left - (Lw.w a.fact : Nat) := by unfold szA; rw [if_pos e0]
  refine W_cond (by simp; exact .r _) (fun hc => ?_) (fun hc => ?_)
  · exfalso; revert hc; rw [s0]; simp; omega
  repeat' first|refine W_seq ?_|refine W_block ?_|refine W_skip ?_|refine W_ret ?_|refine W_exit ?_|refine xb_hit ?_|refine xb_miss (by decide) ?_|(apply W_reg;(simp [s0];exact .r _))
  have s9 : szA (Lw.w a) left = left - (Lw.w a.fact : Nat) := by unfold szA; (rw [hw, if_pos (by omega)]) <;> omega
  rw [s9]; simp [s0]
theorem toChange_r (a : Chg) (hl : Lw.bd 1048576 a) : Ret XX 107 [Ag a] (.agg [.t (.b a.insert) false, .t (.i .i64 a.fact.rel) false, .own 1 (rowsE a.fact.args)]) := by
  refine ret_W rfl Tryz.func107 rfl rfl (by simp [Tryz.f107]) ?_
  simp only [Tryz.f107]
  have c0 := cv (toFact_r a.fact hl)
  simp only [Ag, cells_RA, List.map_cons, List.map_nil] at c0
  repeat' first|refine W_seq ?_|refine W_block ?_|refine W_skip ?_|refine W_ret ?_|refine W_exit ?_|refine xb_hit ?_|refine xb_miss (by decide) ?_|(apply W_reg;(simp [Ag, c0];exact .r _))
  simp
theorem eqChange_r (a b : Chg) (hl : Lw.bd 1048576 a) : Ret XX 109 [Ag a, Ag b] (.t (.b (decide (a = b))) false) := by
  refine ret_W rfl Tryz.func109 rfl rfl (by simp [Tryz.f109]) ?_
  simp only [Tryz.f109]
  have c0 := cv (eqFact_r a.fact b.fact hl)
  simp only [Ag, cells_RA, List.map_cons, List.map_nil] at c0
  repeat' first|refine W_seq ?_|refine W_block ?_|refine W_skip ?_|refine W_ret ?_|refine W_exit ?_|refine xb_hit ?_|refine xb_miss (by decide) ?_|(apply W_reg;(simp [Ag, c0];exact .r _))
  refine W_cond (by simp; exact .r _) (fun hc => ?_) (fun hc => ?_)
  · repeat' first|refine W_seq ?_|refine W_block ?_|refine W_skip ?_|refine W_ret ?_|refine W_exit ?_|refine xb_hit ?_|refine xb_miss (by decide) ?_|(apply W_reg;(simp;exact .r _))
    have : a ≠ b := fun e => by subst e; simp at hc
    simp [this]
  have e0 : a.insert = b.insert := by simpa using hc
  clear hc
  repeat' first|refine W_seq ?_|refine W_block ?_|refine W_skip ?_|refine W_ret ?_|refine W_exit ?_|refine xb_hit ?_|refine xb_miss (by decide) ?_|(apply W_reg;(simp [Ag, c0];exact .r _))
  refine W_cond (by simp; exact .r _) (fun hc => ?_) (fun hc => ?_)
  · repeat' first|refine W_seq ?_|refine W_block ?_|refine W_skip ?_|refine W_ret ?_|refine W_exit ?_|refine xb_hit ?_|refine xb_miss (by decide) ?_|(apply W_reg;(simp;exact .r _))
    have : a ≠ b := fun e => by subst e; simp at hc
    simp [this]
  have e1 : a.fact = b.fact := by simpa using hc
  clear hc
  repeat' first|refine W_seq ?_|refine W_block ?_|refine W_skip ?_|refine W_ret ?_|refine W_exit ?_|refine xb_hit ?_|refine xb_miss (by decide) ?_|(apply W_reg;(simp;exact .r _))
  have : a = b := by cases a; cases b; simp only at e0 e1; simp [e0, e1]
  simp [this]
theorem szCache_r (a : Cch) (left : Int) (h0 : 0 ≤ left) (h1 : left ≤ 1048576) (hf : Fit a) : Ret XX 91 [Ag a, In left] (.t (.i .i64 (szA (Lw.w a) left)) false) := by
  refine ret_W rfl Tryz.func91 rfl rfl (by simp [Tryz.f91]) ?_
  simp only [Tryz.f91]
  have c0 := fun (r : Int) (g0 : 0 ≤ r) (g1 : r ≤ 1048576) => cv (szQueryS_r a.views r g0 g1 hf.1)
  have c1 := fun (r : Int) (g0 : 0 ≤ r) (g1 : r ≤ 1048576) => cv (szIntSSS_r a.tables r g0 g1 hf.2)
  have hw : Lw.w a = Lw.w a.views + Lw.w a.tables := rfl
  have d0 := c0 (left) (by omega) (by omega)
  repeat' first|refine W_seq ?_|refine W_block ?_|refine W_skip ?_|refine W_ret ?_|refine W_exit ?_|refine xb_hit ?_|refine xb_miss (by decide) ?_|(apply W_reg;(simp [Ag, d0];exact .r _))
  by_cases e0 : ((Lw.w a.views : Nat) : Int) ≤ left
  case neg =>
    have s0 : szA (Lw.w a.views) (left) = -1 := by unfold szA; rw [if_neg e0]
    have s9 : szA (Lw.w a) left = -1 := by unfold szA; rw [hw, if_neg (by omega)]
    refine W_cond (by simp; exact .r _) (fun hc => ?_) (fun hc => ?_)
    · repeat' first|refine W_seq ?_|refine W_block ?_|refine W_skip ?_|refine W_ret ?_|refine W_exit ?_|refine xb_hit ?_|refine xb_miss (by decide) ?_|(apply W_reg;(simp;exact .r _))
      rw [s9]; simp
    · exfalso; revert hc; rw [s0]; simp
  have s0 : szA (Lw.w a.views) (left) = left - (Lw.w a.views : Nat) := by unfold szA; rw [if_pos e0]
  refine W_cond (by simp; exact .r _) (fun hc => ?_) (fun hc => ?_)
  · exfalso; revert hc; rw [s0]; simp; omega
  have d1 := c1 (left - (Lw.w a.views : Nat)) (by omega) (by omega)
  repeat' first|refine W_seq ?_|refine W_block ?_|refine W_skip ?_|refine W_ret ?_|refine W_exit ?_|refine xb_hit ?_|refine xb_miss (by decide) ?_|(apply W_reg;(simp [Ag, d1, s0];exact .r _))
  by_cases e1 : ((Lw.w a.tables : Nat) : Int) ≤ left - (Lw.w a.views : Nat)
  case neg =>
    have s1 : szA (Lw.w a.tables) (left - (Lw.w a.views : Nat)) = -1 := by unfold szA; rw [if_neg e1]
    have s9 : szA (Lw.w a) left = -1 := by unfold szA; rw [hw, if_neg (by omega)]
    refine W_cond (by simp; exact .r _) (fun hc => ?_) (fun hc => ?_)
    · repeat' first|refine W_seq ?_|refine W_block ?_|refine W_skip ?_|refine W_ret ?_|refine W_exit ?_|refine xb_hit ?_|refine xb_miss (by decide) ?_|(apply W_reg;(simp;exact .r _))
      rw [s9]; simp
    · exfalso; revert hc; rw [s1]; simp
  have s1 : szA (Lw.w a.tables) (left - (Lw.w a.views : Nat)) = left - (Lw.w a.views : Nat) - (Lw.w a.tables : Nat) := by unfold szA; rw [if_pos e1]
  refine W_cond (by simp; exact .r _) (fun hc => ?_) (fun hc => ?_)
  · exfalso; revert hc; rw [s1]; simp; omega
  repeat' first|refine W_seq ?_|refine W_block ?_|refine W_skip ?_|refine W_ret ?_|refine W_exit ?_|refine xb_hit ?_|refine xb_miss (by decide) ?_|(apply W_reg;(simp [s0, s1];exact .r _))
  have s9 : szA (Lw.w a) left = left - (Lw.w a.views : Nat) - (Lw.w a.tables : Nat) := by unfold szA; (rw [hw, if_pos (by omega)]) <;> omega
  rw [s9]; simp [s0, s1]
theorem toCache_r (a : Cch) (hl : Lw.bd 1048576 a) : Ret XX 94 [Ag a] (.agg [.own 2 (rowsE a.views), .own 1 (rowsE a.tables), .t (.i .i64 a.version) false]) := by
  refine ret_W rfl Tryz.func94 rfl rfl (by simp [Tryz.f94]) ?_
  simp only [Tryz.f94]
  have c0 := cv (toQueryS_r a.views hl.1)
  have c1 := cv (toIntSSS_r a.tables hl.2)
  repeat' first|refine W_seq ?_|refine W_block ?_|refine W_skip ?_|refine W_ret ?_|refine W_exit ?_|refine xb_hit ?_|refine xb_miss (by decide) ?_|(apply W_reg;(simp [Ag, c0, c1];exact .r _))
  simp
theorem eqCache_r (a b : Cch) (hl : Lw.bd 1048576 a) : Ret XX 86 [Ag a, Ag b] (.t (.b (decide (a = b))) false) := by
  refine ret_W rfl Tryz.func86 rfl rfl (by simp [Tryz.f86]) ?_
  simp only [Tryz.f86]
  have c0 := cv (eqQueryS_r a.views b.views hl.1)
  have c1 := cv (eqIntSSS_r a.tables b.tables hl.2)
  repeat' first|refine W_seq ?_|refine W_block ?_|refine W_skip ?_|refine W_ret ?_|refine W_exit ?_|refine xb_hit ?_|refine xb_miss (by decide) ?_|(apply W_reg;(simp [Ag, c0, c1];exact .r _))
  refine W_cond (by simp; exact .r _) (fun hc => ?_) (fun hc => ?_)
  · repeat' first|refine W_seq ?_|refine W_block ?_|refine W_skip ?_|refine W_ret ?_|refine W_exit ?_|refine xb_hit ?_|refine xb_miss (by decide) ?_|(apply W_reg;(simp;exact .r _))
    have : a ≠ b := fun e => by subst e; simp at hc
    simp [this]
  have e0 : a.views = b.views := by simpa using hc
  clear hc
  repeat' first|refine W_seq ?_|refine W_block ?_|refine W_skip ?_|refine W_ret ?_|refine W_exit ?_|refine xb_hit ?_|refine xb_miss (by decide) ?_|(apply W_reg;(simp [Ag, c0, c1];exact .r _))
  refine W_cond (by simp; exact .r _) (fun hc => ?_) (fun hc => ?_)
  · repeat' first|refine W_seq ?_|refine W_block ?_|refine W_skip ?_|refine W_ret ?_|refine W_exit ?_|refine xb_hit ?_|refine xb_miss (by decide) ?_|(apply W_reg;(simp;exact .r _))
    have : a ≠ b := fun e => by subst e; simp at hc
    simp [this]
  have e1 : a.tables = b.tables := by simpa using hc
  clear hc
  repeat' first|refine W_seq ?_|refine W_block ?_|refine W_skip ?_|refine W_ret ?_|refine W_exit ?_|refine xb_hit ?_|refine xb_miss (by decide) ?_|(apply W_reg;(simp [Ag, c0, c1];exact .r _))
  refine W_cond (by simp; exact .r _) (fun hc => ?_) (fun hc => ?_)
  · repeat' first|refine W_seq ?_|refine W_block ?_|refine W_skip ?_|refine W_ret ?_|refine W_exit ?_|refine xb_hit ?_|refine xb_miss (by decide) ?_|(apply W_reg;(simp;exact .r _))
    have : a ≠ b := fun e => by subst e; simp at hc
    simp [this]
  have e2 : a.version = b.version := by simpa using hc
  clear hc
  repeat' first|refine W_seq ?_|refine W_block ?_|refine W_skip ?_|refine W_ret ?_|refine W_exit ?_|refine xb_hit ?_|refine xb_miss (by decide) ?_|(apply W_reg;(simp;exact .r _))
  have : a = b := by cases a; cases b; simp only at e0 e1 e2; simp [e0, e1, e2]
  simp [this]
end Go.Proofs.YtmfifjbbjjdacaaGreat.V

