/- Several texts in one: what the claim needs of them. Conditions: each declaration's own. -/
import Derived.Test.YtpdpgfagklhpaaaGreatZIndM6
import Derived.Test.YtpdpgfagklhpaaaGreatZIndM5
import Derived.Orders
import Derived.Lib.SlKept
namespace Go.Proofs.YtpdpgfagklhpaaaGreat.V
open Go Go.Proofs
set_option linter.unusedVariables false
set_option linter.unusedSimpArgs false
theorem l6Sort_false (l : List Row) (hl : l.length < 1099511627775) (hs : ∀ x ∈ l, Sm x) : Ret XX 30 [Ar l, Bo false] (.own 1 (rowsE (srt cmpI l))) := by
  refine ret_W rfl Tryz.func30 rfl rfl (by simp [Tryz.f30]) ?_
  simp only [Tryz.f30]
  repeat' first|refine nx ?_|refine xb_miss (by decide) ?_|(apply W_reg;(simp;exact .r _))
  refine W_loop (n := l.length) (fun n s => ∃ i : Nat, ∃ o : Nat, ∃ acc : List Row, n = l.length - i ∧ s.nt = 91 ∧ s.tm 0 = Ar l ∧ s.tm 1 = Bo false ∧ s.tm 5 = .ref o acc.length [] ∧ s.tm 6 = In i ∧ i ≤ l.length ∧ s.σ.ob o = .arr (.own 0) 0 1 (rowsE acc) ∧ o < s.σ.n ∧ SortI false acc (l.take i)) ⟨0, 0, [], by simp [SortI]⟩ ?_
  rintro n ⟨nt, tm, σ⟩ ⟨i, o, acc, rfl, hnt, h0, h1, h5, h6, hi, ho, hn, hS⟩
  simp only at hnt h0 h1 h5 h6 ho hn
  subst hnt
  repeat' first|refine nx ?_|refine xb_miss (by decide) ?_|(apply W_reg;(simp [h0, h1, h5, h6, ho, hn];exact .r _))
  refine W_cond (by simp [h0, h1, h5, h6, ho, hn]; exact .r _) (fun hc => ?_) (fun hc => ?_)
  · have hil : i < l.length := by simpa using hc
    have hlen := hS.len
    rw [List.length_take] at hlen
    have hsa : ∀ x ∈ acc, Sm x := fun x hx => hs x (List.mem_of_mem_take (hS.mem hx))
    have hrl : (rowsE acc).length = acc.length := rowsE_len ..
    repeat' first|refine nx ?_|refine xb_miss (by decide) ?_|(apply W_reg;(simp [h0, h1, h5, h6, ho, hn];exact .r _))
    refine W_loop (n := acc.length) (fun n s => ∃ k : Nat, n = 0 + k ∧ s.nt = 91 ∧ s.tm 0 = Ar l ∧ s.tm 1 = Bo false ∧ s.tm 5 = .ref o acc.length [] ∧ s.tm 6 = In i ∧ s.tm 7 = In k ∧ k ≤ acc.length ∧ s.σ.ob o = .arr (.own 0) 0 1 (rowsE acc) ∧ o < s.σ.n ∧ (∀ j (hj : j < acc.length), k ≤ j → cmpI l[i] acc[j] < 0)) ⟨acc.length, by simp [h0, h1, h5, h6, ho, hn]; exact fun j h1 h2 => by omega⟩ ?_
    rintro n ⟨nt, tm, σ⟩ ⟨k, rfl, hnt, h0, h1, h5, h6, h7, hk, ho1, hn1, hlt⟩
    simp only at hnt h0 h1 h5 h6 h7 ho1 hn1
    subst hnt
    rcases Nat.eq_zero_or_pos k with hk0 | hkp
    · repeat' first|refine nx ?_|refine xb_miss (by decide) ?_|(apply W_reg;(simp [h0, h1, h5, h6, h7, ho1, hn1, hk0];exact .r _))|(apply W_draw (id := 6) [0,1,3,7,7,31,63,7,7,263,903,1927,4095,8191] rfl rfl; (· simp; exact .r _); (· simp [h0, h1, h5, h6, h7, ho1, hn1, hk0]; exact .r _); (· first|trivial|simp))
      refine W_cond (by simp [h0, h1, h5, h6, h7, ho1, hn1]; exact .r _) (fun hd => ?_) (fun hd => ?_)
      · cases hd
      repeat' first|refine nx ?_|refine xb_miss (by decide) ?_|(apply W_reg;(simp [h0, h1, h5, h6, h7, ho1, hn1, hk0];exact .r _))|(apply W_draw (id := 8) [0,1,3,7,15,31,63,63,191,511,1023,63,63,6207,14399,32767,65535] rfl rfl; (· simp; exact .r _); (· simp [h0, h1, h5, h6, h7, ho1, hn1, hk0]; exact .r _); (· first|trivial|simp))
      refine W_cond (by simp [h0, h1, h5, h6, h7, ho1, hn1]; exact .r _) (fun hu => ?_) (fun hu => ?_)
      · cases hu
      repeat' first|refine nx ?_|refine xb_miss (by decide) ?_|(apply W_reg;(simp [h0, h1, h5, h6, h7, ho1, hn1];exact .r _))
      refine W_loop (n := k) (fun n s => ∃ m : Nat, ∃ o2 : Nat, ∃ ac2 : List Row, n = k - m ∧ s.nt = 91 ∧ s.tm 0 = Ar l ∧ s.tm 1 = Bo false ∧ s.tm 5 = .ref o acc.length [] ∧ s.tm 6 = In i ∧ s.tm 7 = In (k : Nat) ∧ s.tm 8 = .ref o2 ac2.length [] ∧ s.tm 9 = In m ∧ m ≤ k ∧ s.σ.ob o = .arr (.own m) 0 1 (rowsE acc) ∧ s.σ.ob o2 = .arr (.own 0) 0 1 (rowsE ac2) ∧ o < s.σ.n ∧ o2 < s.σ.n ∧ ¬ o = o2 ∧ ac2 = acc.take m) ⟨0, σ.n, [], by simp [upd_app, h0, h1, h5, h6, h7, show ¬ o = σ.n by omega, ho1]; omega⟩ ?_
      rintro n ⟨nt, tm, σ⟩ ⟨m, o2, ac2, rfl, hnt, h0, h1, h5, h6, h7, h8, h9, hm, hob, hob2, hon, hon2, hne, hq2⟩
      simp only at hnt h0 h1 h5 h6 h7 h8 h9 hob hob2 hon hon2
      subst hnt
      have n0 : ¬ (o = σ.n) := by omega
      have n0' : ¬ (σ.n = o) := by omega
      have n1 : ¬ (o2 = σ.n) := by omega
      have n1' : ¬ (σ.n = o2) := by omega
      have hne' : ¬ o2 = o := fun e => hne e.symm
      have hb2 : ac2.length ≤ m := by rw [hq2, List.length_take]; omega
      repeat' first|refine nx ?_|refine xb_miss (by decide) ?_|(apply W_reg;(simp [h0, h1, h5, h6, h7, h8, h9, hob, hob2, hon, hon2];exact .r _))
      refine W_cond (by simp [h0, h1, h5, h6, h7, h8, h9, hob, hob2, hon, hon2]; exact .r _) (fun hd2 => ?_) (fun hd2 => ?_)
      · have hmk : m < k := by simp at hd2; omega
        have hml : m < acc.length := by omega
        have hg2 : (rowsE acc)[m]? = some [.sl (rowsE acc[m])] := by simp [rowsE, hml]
        repeat' first|refine nx ?_|refine xb_miss (by decide) ?_|(apply W_reg;(simp [h0, h1, h5, h6, h7, h8, h9, hob, hob2, hon, hon2, hml, hg2, hrl, n0, n0', n1, n1', hne, hne', show ac2.length + 1 < 1099511627776 by omega];exact .r _))
        refine ⟨_, ?_, m + 1, o2, ac2 ++ [acc[m]], rfl, rfl, ?_, ?_, ?_, ?_, ?_, ?_, ?_, by omega, (by simp [upd_app, n0, n0', hne, hne']), ?_, (by simp; omega), (by simp; omega), hne, (by rw [hq2, List.take_succ_eq_append_getElem hml])⟩
        all_goals first|assumption|(simp [h0, h1, h5, h6, h7, h8, h9, hob, hob2, hon, hon2, rowsE_append, n0, n0', n1, n1', hne, hne', rowsE];done)|(simp [h0, h1, h5, h6, h7, h8, h9, hob, hob2, hon, hon2, rowsE_append, n0, n0', n1, n1', hne, hne', rowsE];omega)|(simp [h0, h1, h5, h6, h7, h8, h9, hob, hob2, hon, hon2, rowsE_append, n0, n0', n1, n1', hne, hne', rowsE];exact wrap_succ (by omega))|omega
      have hmk : k = m := by simp at hd2; omega
      subst hmk
      have y0 : ¬ (o = σ.n + 1) := by omega
      have y1 : ¬ (o2 = σ.n + 1) := by omega
      have y0' : ¬ (σ.n + 1 = o) := by omega
      have y1' : ¬ (σ.n + 1 = o2) := by omega
      have y2' : ¬ (σ.n + 2 = o2) := by omega
      have y2 : ¬ (o2 = σ.n + 2) := by omega
      have hgi : (rowsE l)[i]? = some [.sl (rowsE l[i])] := by simp [rowsE, hil]
      have hxl : l[i].length < 1099511627776 := by have := hs _ (List.getElem_mem hil); unfold Sm at this; omega
      repeat' first|refine nx ?_|refine xb_miss (by decide) ?_|(apply W_reg;(simp [h0, h1, h5, h6, h7, h8, h9, hob, hob2, hon, hon2, hil, hgi, hxl, n0, n0', n1, n1', hne, hne', y0, y1, y0', y1', y2, y2', show ac2.length + 1 < 1099511627776 by omega];exact .r _))
      refine W_loop (n := (acc.length - k)) (fun n s => ∃ r : Nat, ∃ o3 : Nat, ∃ ac3 : List Row, n = acc.length - r ∧ s.nt = 91 ∧ s.tm 0 = Ar l ∧ s.tm 1 = Bo false ∧ s.tm 5 = .ref o acc.length [] ∧ s.tm 6 = In i ∧ s.tm 8 = .ref o3 ac3.length [] ∧ s.tm 10 = In r ∧ r ≤ acc.length ∧ s.σ.ob o = .arr (.own r) 0 1 (rowsE acc) ∧ s.σ.ob o3 = .arr (.own 0) 0 1 (rowsE ac3) ∧ o < s.σ.n ∧ o3 < s.σ.n ∧ ¬ o = o3 ∧ ac3.length = r + 1 ∧ ac3 ++ acc.drop r = acc.take (k) ++ [l[i]] ++ acc.drop (k)) ⟨k, o2, ac2 ++ [l[i]], by simp [upd_app, h0, h1, h5, h6, n0, n0', n1, n1', hne, hne', y0, y1, y2, hob, rowsE_append, rowsE, hk, hq2]; omega⟩ ?_
      rintro n ⟨nt, tm, σ⟩ ⟨r, o3, ac3, rfl, hnt, h0, h1, h5, h6, h8, h10, hr, hrb, hrb2, hrn, hrn2, hrne, hr0, hq3⟩
      simp only at hnt h0 h1 h5 h6 h8 h10 hrb hrb2 hrn hrn2
      subst hnt
      have x0 : ¬ (o = σ.n) := by omega
      have x0' : ¬ (σ.n = o) := by omega
      have x1 : ¬ (o3 = σ.n) := by omega
      have x1' : ¬ (σ.n = o3) := by omega
      have hrne' : ¬ o3 = o := fun e => hrne e.symm
      repeat' first|refine nx ?_|refine xb_miss (by decide) ?_|(apply W_reg;(simp [h0, h1, h5, h6, h8, h10, hrb, hrb2, hrn, hrn2];exact .r _))
      refine W_cond (by simp [h0, h1, h5, h6, h8, h10, hrb, hrb2, hrn, hrn2]; exact .r _) (fun hd3 => ?_) (fun hd3 => ?_)
      · have hrk : r < acc.length := by simpa using hd3
        have hg3 : (rowsE acc)[r]? = some [.sl (rowsE acc[r])] := by simp [rowsE, hrk]
        repeat' first|refine nx ?_|refine xb_miss (by decide) ?_|(apply W_reg;(simp [h0, h1, h5, h6, h8, h10, hrb, hrb2, hrn, hrn2, hrk, hg3, hrl, x0, x0', x1, x1', hrne, hrne', show ac3.length + 1 < 1099511627776 by omega];exact .r _))
        refine ⟨_, ?_, r + 1, o3, ac3 ++ [acc[r]], rfl, rfl, ?_, ?_, ?_, ?_, ?_, ?_, by omega, (by simp [upd_app, x0, x0', hrne, hrne']), ?_, (by simp; omega), (by simp; omega), hrne, (by simp; omega), (by rw [← hq3, List.drop_eq_getElem_cons hrk]; simp)⟩
        all_goals first|assumption|(simp [h0, h1, h5, h6, h8, h10, hrb, hrb2, hrn, hrn2, rowsE_append, x0, x0', x1, x1', hrne, hrne', rowsE];done)|(simp [h0, h1, h5, h6, h8, h10, hrb, hrb2, hrn, hrn2, rowsE_append, x0, x0', x1, x1', hrne, hrne', rowsE];omega)|(simp [h0, h1, h5, h6, h8, h10, hrb, hrb2, hrn, hrn2, rowsE_append, x0, x0', x1, x1', hrne, hrne', rowsE];exact wrap_succ (by omega))|omega
      have hrk : r = acc.length := by simp at hd3; omega
      subst hrk
      rw [List.drop_length, List.append_nil] at hq3
      repeat' first|refine nx ?_|refine xb_miss (by decide) ?_|(apply W_reg;(simp [h0, h1, h5, h6, h8, h10, hrb, hrb2, hrn, hrn2];exact .r _))
      refine ⟨_, ?_, i + 1, o3, ac3, rfl, rfl, ?_, ?_, ?_, ?_, by omega, hrb2, hrn2, (by rw [hq3, List.take_succ_eq_append_getElem hil]; exact hS.ins hk hlt (fun _ h => by omega) (fun _ _ h => by omega))⟩
      all_goals first|assumption|(simp [h0, h1, h5, h6, h8, h10, hrb, hrb2, hrn, hrn2];done)|(simp [h0, h1, h5, h6, h8, h10, hrb, hrb2, hrn, hrn2];omega)|(simp [h0, h1, h5, h6, h8, h10, hrb, hrb2, hrn, hrn2];exact wrap_succ (by omega))|omega
    · obtain ⟨k', rfl⟩ : ∃ k', k = k' + 1 := ⟨k - 1, by omega⟩
      have hkl : k' < acc.length := by omega
      have h0k : (0 : Int) < (k' : Int) + 1 := by omega
      have hw : IntKind.i64.wrap (k' : Int) = (k' : Int) := wrap_ok (by omega) (by omega)
      have hg : (rowsE acc)[k']? = some [.sl (rowsE acc[k'])] := by simp [rowsE, hkl]
      have c1 := cv (l2Less_r l[i] acc[k'] (hs _ (List.getElem_mem hil)))
      have c2 := cv (l2Ints_r acc[k'] l[i] (hsa _ (List.getElem_mem hkl)))
      repeat' first|refine nx ?_|refine xb_miss (by decide) ?_|(apply W_reg;(simp [h0, h1, h5, h6, h7, ho1, hn1, h0k, hw, hrl, hg, c1, hil, hkl];exact .r _))|(apply W_draw (id := 6) [0,1,3,7,7,31,63,7,7,263,903,1927,4095,8191] rfl rfl; (· simp; exact .r _); (· simp [h0, h1, h5, h6, h7, ho1, hn1, h0k, hw, hrl, hg, c1, hil, hkl]; exact .r _); (· first|trivial|simp))
      refine W_cond (by simp [h0, h1, h5, h6, h7, ho1, hn1]; exact .r _) (fun hd => ?_) (fun hd => ?_)
      · have hlt2 : cmpI l[i] acc[k'] < 0 := by simpa using hd
        repeat' first|refine nx ?_|refine xb_miss (by decide) ?_|(apply W_reg;(simp [h0, h1, h5, h6, h7, ho1, hn1, hw];exact .r _))
        refine ⟨_, ?_, k', rfl, rfl, ?_, ?_, ?_, ?_, (by simp [hw]), by omega, ?_, ?_, (fun j hj hkj => by (by_cases e : j = k'; (subst e; exact hlt2); exact hlt j hj (by omega)))⟩
        all_goals first|assumption|(simp [h0, h1, h5, h6, h7, ho1, hn1];done)|(simp [h0, h1, h5, h6, h7, ho1, hn1];omega)|(simp [h0, h1, h5, h6, h7, ho1, hn1];exact wrap_succ (by omega))|omega
      have hnl : ¬ cmpI l[i] acc[k'] < 0 := by simpa using hd
      repeat' first|refine nx ?_|refine xb_miss (by decide) ?_|(apply W_reg;(simp [h0, h1, h5, h6, h7, ho1, hn1, h0k, hw, hrl, hg, c2, hil, hkl];exact .r _))|(apply W_draw (id := 8) [0,1,3,7,15,31,63,63,191,511,1023,63,63,6207,14399,32767,65535] rfl rfl; (· simp; exact .r _); (· simp [h0, h1, h5, h6, h7, ho1, hn1, h0k, hw, hrl, hg, c2, hil, hkl]; exact .r _); (· first|trivial|simp))
      refine W_cond (by simp [h0, h1, h5, h6, h7, ho1, hn1]; exact .r _) (fun hu => ?_) (fun hu => ?_)
      · cases hu
      repeat' first|refine nx ?_|refine xb_miss (by decide) ?_|(apply W_reg;(simp [h0, h1, h5, h6, h7, ho1, hn1];exact .r _))
      refine W_loop (n := (k' + 1)) (fun n s => ∃ m : Nat, ∃ o2 : Nat, ∃ ac2 : List Row, n = (k' + 1) - m ∧ s.nt = 91 ∧ s.tm 0 = Ar l ∧ s.tm 1 = Bo false ∧ s.tm 5 = .ref o acc.length [] ∧ s.tm 6 = In i ∧ s.tm 7 = In ((k' + 1) : Nat) ∧ s.tm 8 = .ref o2 ac2.length [] ∧ s.tm 9 = In m ∧ m ≤ (k' + 1) ∧ s.σ.ob o = .arr (.own m) 0 1 (rowsE acc) ∧ s.σ.ob o2 = .arr (.own 0) 0 1 (rowsE ac2) ∧ o < s.σ.n ∧ o2 < s.σ.n ∧ ¬ o = o2 ∧ ac2 = acc.take m) ⟨0, σ.n, [], by simp [upd_app, h0, h1, h5, h6, h7, show ¬ o = σ.n by omega, ho1]; omega⟩ ?_
      rintro n ⟨nt, tm, σ⟩ ⟨m, o2, ac2, rfl, hnt, h0, h1, h5, h6, h7, h8, h9, hm, hob, hob2, hon, hon2, hne, hq2⟩
      simp only at hnt h0 h1 h5 h6 h7 h8 h9 hob hob2 hon hon2
      subst hnt
      have n0 : ¬ (o = σ.n) := by omega
      have n0' : ¬ (σ.n = o) := by omega
      have n1 : ¬ (o2 = σ.n) := by omega
      have n1' : ¬ (σ.n = o2) := by omega
      have hne' : ¬ o2 = o := fun e => hne e.symm
      have hb2 : ac2.length ≤ m := by rw [hq2, List.length_take]; omega
      repeat' first|refine nx ?_|refine xb_miss (by decide) ?_|(apply W_reg;(simp [h0, h1, h5, h6, h7, h8, h9, hob, hob2, hon, hon2];exact .r _))
      refine W_cond (by simp [h0, h1, h5, h6, h7, h8, h9, hob, hob2, hon, hon2]; exact .r _) (fun hd2 => ?_) (fun hd2 => ?_)
      · have hmk : m < (k' + 1) := by simp at hd2; omega
        have hml : m < acc.length := by omega
        have hg2 : (rowsE acc)[m]? = some [.sl (rowsE acc[m])] := by simp [rowsE, hml]
        repeat' first|refine nx ?_|refine xb_miss (by decide) ?_|(apply W_reg;(simp [h0, h1, h5, h6, h7, h8, h9, hob, hob2, hon, hon2, hml, hg2, hrl, n0, n0', n1, n1', hne, hne', show ac2.length + 1 < 1099511627776 by omega];exact .r _))
        refine ⟨_, ?_, m + 1, o2, ac2 ++ [acc[m]], rfl, rfl, ?_, ?_, ?_, ?_, ?_, ?_, ?_, by omega, (by simp [upd_app, n0, n0', hne, hne']), ?_, (by simp; omega), (by simp; omega), hne, (by rw [hq2, List.take_succ_eq_append_getElem hml])⟩
        all_goals first|assumption|(simp [h0, h1, h5, h6, h7, h8, h9, hob, hob2, hon, hon2, rowsE_append, n0, n0', n1, n1', hne, hne', rowsE];done)|(simp [h0, h1, h5, h6, h7, h8, h9, hob, hob2, hon, hon2, rowsE_append, n0, n0', n1, n1', hne, hne', rowsE];omega)|(simp [h0, h1, h5, h6, h7, h8, h9, hob, hob2, hon, hon2, rowsE_append, n0, n0', n1, n1', hne, hne', rowsE];exact wrap_succ (by omega))|omega
      have hmk : (k' + 1) = m := by simp at hd2; omega
      subst hmk
      have y0 : ¬ (o = σ.n + 1) := by omega
      have y1 : ¬ (o2 = σ.n + 1) := by omega
      have y0' : ¬ (σ.n + 1 = o) := by omega
      have y1' : ¬ (σ.n + 1 = o2) := by omega
      have y2' : ¬ (σ.n + 2 = o2) := by omega
      have y2 : ¬ (o2 = σ.n + 2) := by omega
      have hgi : (rowsE l)[i]? = some [.sl (rowsE l[i])] := by simp [rowsE, hil]
      have hxl : l[i].length < 1099511627776 := by have := hs _ (List.getElem_mem hil); unfold Sm at this; omega
      repeat' first|refine nx ?_|refine xb_miss (by decide) ?_|(apply W_reg;(simp [h0, h1, h5, h6, h7, h8, h9, hob, hob2, hon, hon2, hil, hgi, hxl, n0, n0', n1, n1', hne, hne', y0, y1, y0', y1', y2, y2', show ac2.length + 1 < 1099511627776 by omega];exact .r _))
      refine W_loop (n := (acc.length - (k' + 1))) (fun n s => ∃ r : Nat, ∃ o3 : Nat, ∃ ac3 : List Row, n = acc.length - r ∧ s.nt = 91 ∧ s.tm 0 = Ar l ∧ s.tm 1 = Bo false ∧ s.tm 5 = .ref o acc.length [] ∧ s.tm 6 = In i ∧ s.tm 8 = .ref o3 ac3.length [] ∧ s.tm 10 = In r ∧ r ≤ acc.length ∧ s.σ.ob o = .arr (.own r) 0 1 (rowsE acc) ∧ s.σ.ob o3 = .arr (.own 0) 0 1 (rowsE ac3) ∧ o < s.σ.n ∧ o3 < s.σ.n ∧ ¬ o = o3 ∧ ac3.length = r + 1 ∧ ac3 ++ acc.drop r = acc.take ((k' + 1)) ++ [l[i]] ++ acc.drop ((k' + 1))) ⟨(k' + 1), o2, ac2 ++ [l[i]], by simp [upd_app, h0, h1, h5, h6, n0, n0', n1, n1', hne, hne', y0, y1, y2, hob, rowsE_append, rowsE, hk, hq2]; omega⟩ ?_
      rintro n ⟨nt, tm, σ⟩ ⟨r, o3, ac3, rfl, hnt, h0, h1, h5, h6, h8, h10, hr, hrb, hrb2, hrn, hrn2, hrne, hr0, hq3⟩
      simp only at hnt h0 h1 h5 h6 h8 h10 hrb hrb2 hrn hrn2
      subst hnt
      have x0 : ¬ (o = σ.n) := by omega
      have x0' : ¬ (σ.n = o) := by omega
      have x1 : ¬ (o3 = σ.n) := by omega
      have x1' : ¬ (σ.n = o3) := by omega
      have hrne' : ¬ o3 = o := fun e => hrne e.symm
      repeat' first|refine nx ?_|refine xb_miss (by decide) ?_|(apply W_reg;(simp [h0, h1, h5, h6, h8, h10, hrb, hrb2, hrn, hrn2];exact .r _))
      refine W_cond (by simp [h0, h1, h5, h6, h8, h10, hrb, hrb2, hrn, hrn2]; exact .r _) (fun hd3 => ?_) (fun hd3 => ?_)
      · have hrk : r < acc.length := by simpa using hd3
        have hg3 : (rowsE acc)[r]? = some [.sl (rowsE acc[r])] := by simp [rowsE, hrk]
        repeat' first|refine nx ?_|refine xb_miss (by decide) ?_|(apply W_reg;(simp [h0, h1, h5, h6, h8, h10, hrb, hrb2, hrn, hrn2, hrk, hg3, hrl, x0, x0', x1, x1', hrne, hrne', show ac3.length + 1 < 1099511627776 by omega];exact .r _))
        refine ⟨_, ?_, r + 1, o3, ac3 ++ [acc[r]], rfl, rfl, ?_, ?_, ?_, ?_, ?_, ?_, by omega, (by simp [upd_app, x0, x0', hrne, hrne']), ?_, (by simp; omega), (by simp; omega), hrne, (by simp; omega), (by rw [← hq3, List.drop_eq_getElem_cons hrk]; simp)⟩
        all_goals first|assumption|(simp [h0, h1, h5, h6, h8, h10, hrb, hrb2, hrn, hrn2, rowsE_append, x0, x0', x1, x1', hrne, hrne', rowsE];done)|(simp [h0, h1, h5, h6, h8, h10, hrb, hrb2, hrn, hrn2, rowsE_append, x0, x0', x1, x1', hrne, hrne', rowsE];omega)|(simp [h0, h1, h5, h6, h8, h10, hrb, hrb2, hrn, hrn2, rowsE_append, x0, x0', x1, x1', hrne, hrne', rowsE];exact wrap_succ (by omega))|omega
      have hrk : r = acc.length := by simp at hd3; omega
      subst hrk
      rw [List.drop_length, List.append_nil] at hq3
      repeat' first|refine nx ?_|refine xb_miss (by decide) ?_|(apply W_reg;(simp [h0, h1, h5, h6, h8, h10, hrb, hrb2, hrn, hrn2];exact .r _))
      refine ⟨_, ?_, i + 1, o3, ac3, rfl, rfl, ?_, ?_, ?_, ?_, by omega, hrb2, hrn2, (by rw [hq3, List.take_succ_eq_append_getElem hil]; exact hS.ins hk hlt (fun _ _ => hnl) (fun e => by cases e))⟩
      all_goals first|assumption|(simp [h0, h1, h5, h6, h8, h10, hrb, hrb2, hrn, hrn2];done)|(simp [h0, h1, h5, h6, h8, h10, hrb, hrb2, hrn, hrn2];omega)|(simp [h0, h1, h5, h6, h8, h10, hrb, hrb2, hrn, hrn2];exact wrap_succ (by omega))|omega
  · have hil : i = l.length := by simp at hc; omega
    subst hil
    rw [List.take_length] at hS
    have he := hS.eq
    repeat' first|refine nx ?_|refine xb_miss (by decide) ?_|(apply W_reg;(simp [h0, h1, h5, h6, ho, hn];exact .r _))
    simp [ho, he]
theorem l6Sort_true (l : List Row) (hl : l.length < 1099511627775) (hs : ∀ x ∈ l, Sm x) : Ret XX 30 [Ar l, Bo true] (.own 1 (rowsE (srtU l))) := by
  refine ret_W rfl Tryz.func30 rfl rfl (by simp [Tryz.f30]) ?_
  simp only [Tryz.f30]
  repeat' first|refine nx ?_|refine xb_miss (by decide) ?_|(apply W_reg;(simp;exact .r _))
  refine W_loop (n := l.length) (fun n s => ∃ i : Nat, ∃ o : Nat, ∃ acc : List Row, n = l.length - i ∧ s.nt = 91 ∧ s.tm 0 = Ar l ∧ s.tm 1 = Bo true ∧ s.tm 5 = .ref o acc.length [] ∧ s.tm 6 = In i ∧ i ≤ l.length ∧ s.σ.ob o = .arr (.own 0) 0 1 (rowsE acc) ∧ o < s.σ.n ∧ SortI true acc (l.take i)) ⟨0, 0, [], by simp [SortI]⟩ ?_
  rintro n ⟨nt, tm, σ⟩ ⟨i, o, acc, rfl, hnt, h0, h1, h5, h6, hi, ho, hn, hS⟩
  simp only at hnt h0 h1 h5 h6 ho hn
  subst hnt
  repeat' first|refine nx ?_|refine xb_miss (by decide) ?_|(apply W_reg;(simp [h0, h1, h5, h6, ho, hn];exact .r _))
  refine W_cond (by simp [h0, h1, h5, h6, ho, hn]; exact .r _) (fun hc => ?_) (fun hc => ?_)
  · have hil : i < l.length := by simpa using hc
    have hlen := hS.len
    rw [List.length_take] at hlen
    have hsa : ∀ x ∈ acc, Sm x := fun x hx => hs x (List.mem_of_mem_take (hS.mem hx))
    have hrl : (rowsE acc).length = acc.length := rowsE_len ..
    repeat' first|refine nx ?_|refine xb_miss (by decide) ?_|(apply W_reg;(simp [h0, h1, h5, h6, ho, hn];exact .r _))
    refine W_loop (n := acc.length) (fun n s => ∃ k : Nat, n = 0 + k ∧ s.nt = 91 ∧ s.tm 0 = Ar l ∧ s.tm 1 = Bo true ∧ s.tm 5 = .ref o acc.length [] ∧ s.tm 6 = In i ∧ s.tm 7 = In k ∧ k ≤ acc.length ∧ s.σ.ob o = .arr (.own 0) 0 1 (rowsE acc) ∧ o < s.σ.n ∧ (∀ j (hj : j < acc.length), k ≤ j → cmpI l[i] acc[j] < 0)) ⟨acc.length, by simp [h0, h1, h5, h6, ho, hn]; exact fun j h1 h2 => by omega⟩ ?_
    rintro n ⟨nt, tm, σ⟩ ⟨k, rfl, hnt, h0, h1, h5, h6, h7, hk, ho1, hn1, hlt⟩
    simp only at hnt h0 h1 h5 h6 h7 ho1 hn1
    subst hnt
    rcases Nat.eq_zero_or_pos k with hk0 | hkp
    · repeat' first|refine nx ?_|refine xb_miss (by decide) ?_|(apply W_reg;(simp [h0, h1, h5, h6, h7, ho1, hn1, hk0];exact .r _))|(apply W_draw (id := 6) [0,1,3,7,7,31,63,7,7,263,903,1927,4095,8191] rfl rfl; (· simp; exact .r _); (· simp [h0, h1, h5, h6, h7, ho1, hn1, hk0]; exact .r _); (· first|trivial|simp))
      refine W_cond (by simp [h0, h1, h5, h6, h7, ho1, hn1]; exact .r _) (fun hd => ?_) (fun hd => ?_)
      · cases hd
      repeat' first|refine nx ?_|refine xb_miss (by decide) ?_|(apply W_reg;(simp [h0, h1, h5, h6, h7, ho1, hn1, hk0];exact .r _))|(apply W_draw (id := 8) [0,1,3,7,15,31,63,63,191,511,1023,63,63,6207,14399,32767,65535] rfl rfl; (· simp; exact .r _); (· simp [h0, h1, h5, h6, h7, ho1, hn1, hk0]; exact .r _); (· first|trivial|simp))
      refine W_cond (by simp [h0, h1, h5, h6, h7, ho1, hn1]; exact .r _) (fun hu => ?_) (fun hu => ?_)
      · cases hu
      repeat' first|refine nx ?_|refine xb_miss (by decide) ?_|(apply W_reg;(simp [h0, h1, h5, h6, h7, ho1, hn1];exact .r _))
      refine W_loop (n := k) (fun n s => ∃ m : Nat, ∃ o2 : Nat, ∃ ac2 : List Row, n = k - m ∧ s.nt = 91 ∧ s.tm 0 = Ar l ∧ s.tm 1 = Bo true ∧ s.tm 5 = .ref o acc.length [] ∧ s.tm 6 = In i ∧ s.tm 7 = In (k : Nat) ∧ s.tm 8 = .ref o2 ac2.length [] ∧ s.tm 9 = In m ∧ m ≤ k ∧ s.σ.ob o = .arr (.own m) 0 1 (rowsE acc) ∧ s.σ.ob o2 = .arr (.own 0) 0 1 (rowsE ac2) ∧ o < s.σ.n ∧ o2 < s.σ.n ∧ ¬ o = o2 ∧ ac2 = acc.take m) ⟨0, σ.n, [], by simp [upd_app, h0, h1, h5, h6, h7, show ¬ o = σ.n by omega, ho1]; omega⟩ ?_
      rintro n ⟨nt, tm, σ⟩ ⟨m, o2, ac2, rfl, hnt, h0, h1, h5, h6, h7, h8, h9, hm, hob, hob2, hon, hon2, hne, hq2⟩
      simp only at hnt h0 h1 h5 h6 h7 h8 h9 hob hob2 hon hon2
      subst hnt
      have n0 : ¬ (o = σ.n) := by omega
      have n0' : ¬ (σ.n = o) := by omega
      have n1 : ¬ (o2 = σ.n) := by omega
      have n1' : ¬ (σ.n = o2) := by omega
      have hne' : ¬ o2 = o := fun e => hne e.symm
      have hb2 : ac2.length ≤ m := by rw [hq2, List.length_take]; omega
      repeat' first|refine nx ?_|refine xb_miss (by decide) ?_|(apply W_reg;(simp [h0, h1, h5, h6, h7, h8, h9, hob, hob2, hon, hon2];exact .r _))
      refine W_cond (by simp [h0, h1, h5, h6, h7, h8, h9, hob, hob2, hon, hon2]; exact .r _) (fun hd2 => ?_) (fun hd2 => ?_)
      · have hmk : m < k := by simp at hd2; omega
        have hml : m < acc.length := by omega
        have hg2 : (rowsE acc)[m]? = some [.sl (rowsE acc[m])] := by simp [rowsE, hml]
        repeat' first|refine nx ?_|refine xb_miss (by decide) ?_|(apply W_reg;(simp [h0, h1, h5, h6, h7, h8, h9, hob, hob2, hon, hon2, hml, hg2, hrl, n0, n0', n1, n1', hne, hne', show ac2.length + 1 < 1099511627776 by omega];exact .r _))
        refine ⟨_, ?_, m + 1, o2, ac2 ++ [acc[m]], rfl, rfl, ?_, ?_, ?_, ?_, ?_, ?_, ?_, by omega, (by simp [upd_app, n0, n0', hne, hne']), ?_, (by simp; omega), (by simp; omega), hne, (by rw [hq2, List.take_succ_eq_append_getElem hml])⟩
        all_goals first|assumption|(simp [h0, h1, h5, h6, h7, h8, h9, hob, hob2, hon, hon2, rowsE_append, n0, n0', n1, n1', hne, hne', rowsE];done)|(simp [h0, h1, h5, h6, h7, h8, h9, hob, hob2, hon, hon2, rowsE_append, n0, n0', n1, n1', hne, hne', rowsE];omega)|(simp [h0, h1, h5, h6, h7, h8, h9, hob, hob2, hon, hon2, rowsE_append, n0, n0', n1, n1', hne, hne', rowsE];exact wrap_succ (by omega))|omega
      have hmk : k = m := by simp at hd2; omega
      subst hmk
      have y0 : ¬ (o = σ.n + 1) := by omega
      have y1 : ¬ (o2 = σ.n + 1) := by omega
      have y0' : ¬ (σ.n + 1 = o) := by omega
      have y1' : ¬ (σ.n + 1 = o2) := by omega
      have y2' : ¬ (σ.n + 2 = o2) := by omega
      have y2 : ¬ (o2 = σ.n + 2) := by omega
      have hgi : (rowsE l)[i]? = some [.sl (rowsE l[i])] := by simp [rowsE, hil]
      have hxl : l[i].length < 1099511627776 := by have := hs _ (List.getElem_mem hil); unfold Sm at this; omega
      repeat' first|refine nx ?_|refine xb_miss (by decide) ?_|(apply W_reg;(simp [h0, h1, h5, h6, h7, h8, h9, hob, hob2, hon, hon2, hil, hgi, hxl, n0, n0', n1, n1', hne, hne', y0, y1, y0', y1', y2, y2', show ac2.length + 1 < 1099511627776 by omega];exact .r _))
      refine W_loop (n := (acc.length - k)) (fun n s => ∃ r : Nat, ∃ o3 : Nat, ∃ ac3 : List Row, n = acc.length - r ∧ s.nt = 91 ∧ s.tm 0 = Ar l ∧ s.tm 1 = Bo true ∧ s.tm 5 = .ref o acc.length [] ∧ s.tm 6 = In i ∧ s.tm 8 = .ref o3 ac3.length [] ∧ s.tm 10 = In r ∧ r ≤ acc.length ∧ s.σ.ob o = .arr (.own r) 0 1 (rowsE acc) ∧ s.σ.ob o3 = .arr (.own 0) 0 1 (rowsE ac3) ∧ o < s.σ.n ∧ o3 < s.σ.n ∧ ¬ o = o3 ∧ ac3.length = r + 1 ∧ ac3 ++ acc.drop r = acc.take (k) ++ [l[i]] ++ acc.drop (k)) ⟨k, o2, ac2 ++ [l[i]], by simp [upd_app, h0, h1, h5, h6, n0, n0', n1, n1', hne, hne', y0, y1, y2, hob, rowsE_append, rowsE, hk, hq2]; omega⟩ ?_
      rintro n ⟨nt, tm, σ⟩ ⟨r, o3, ac3, rfl, hnt, h0, h1, h5, h6, h8, h10, hr, hrb, hrb2, hrn, hrn2, hrne, hr0, hq3⟩
      simp only at hnt h0 h1 h5 h6 h8 h10 hrb hrb2 hrn hrn2
      subst hnt
      have x0 : ¬ (o = σ.n) := by omega
      have x0' : ¬ (σ.n = o) := by omega
      have x1 : ¬ (o3 = σ.n) := by omega
      have x1' : ¬ (σ.n = o3) := by omega
      have hrne' : ¬ o3 = o := fun e => hrne e.symm
      repeat' first|refine nx ?_|refine xb_miss (by decide) ?_|(apply W_reg;(simp [h0, h1, h5, h6, h8, h10, hrb, hrb2, hrn, hrn2];exact .r _))
      refine W_cond (by simp [h0, h1, h5, h6, h8, h10, hrb, hrb2, hrn, hrn2]; exact .r _) (fun hd3 => ?_) (fun hd3 => ?_)
      · have hrk : r < acc.length := by simpa using hd3
        have hg3 : (rowsE acc)[r]? = some [.sl (rowsE acc[r])] := by simp [rowsE, hrk]
        repeat' first|refine nx ?_|refine xb_miss (by decide) ?_|(apply W_reg;(simp [h0, h1, h5, h6, h8, h10, hrb, hrb2, hrn, hrn2, hrk, hg3, hrl, x0, x0', x1, x1', hrne, hrne', show ac3.length + 1 < 1099511627776 by omega];exact .r _))
        refine ⟨_, ?_, r + 1, o3, ac3 ++ [acc[r]], rfl, rfl, ?_, ?_, ?_, ?_, ?_, ?_, by omega, (by simp [upd_app, x0, x0', hrne, hrne']), ?_, (by simp; omega), (by simp; omega), hrne, (by simp; omega), (by rw [← hq3, List.drop_eq_getElem_cons hrk]; simp)⟩
        all_goals first|assumption|(simp [h0, h1, h5, h6, h8, h10, hrb, hrb2, hrn, hrn2, rowsE_append, x0, x0', x1, x1', hrne, hrne', rowsE];done)|(simp [h0, h1, h5, h6, h8, h10, hrb, hrb2, hrn, hrn2, rowsE_append, x0, x0', x1, x1', hrne, hrne', rowsE];omega)|(simp [h0, h1, h5, h6, h8, h10, hrb, hrb2, hrn, hrn2, rowsE_append, x0, x0', x1, x1', hrne, hrne', rowsE];exact wrap_succ (by omega))|omega
      have hrk : r = acc.length := by simp at hd3; omega
      subst hrk
      rw [List.drop_length, List.append_nil] at hq3
      repeat' first|refine nx ?_|refine xb_miss (by decide) ?_|(apply W_reg;(simp [h0, h1, h5, h6, h8, h10, hrb, hrb2, hrn, hrn2];exact .r _))
      refine ⟨_, ?_, i + 1, o3, ac3, rfl, rfl, ?_, ?_, ?_, ?_, by omega, hrb2, hrn2, (by rw [hq3, List.take_succ_eq_append_getElem hil]; exact hS.ins hk hlt (fun _ h => by omega) (fun _ _ h => by omega))⟩
      all_goals first|assumption|(simp [h0, h1, h5, h6, h8, h10, hrb, hrb2, hrn, hrn2];done)|(simp [h0, h1, h5, h6, h8, h10, hrb, hrb2, hrn, hrn2];omega)|(simp [h0, h1, h5, h6, h8, h10, hrb, hrb2, hrn, hrn2];exact wrap_succ (by omega))|omega
    · obtain ⟨k', rfl⟩ : ∃ k', k = k' + 1 := ⟨k - 1, by omega⟩
      have hkl : k' < acc.length := by omega
      have h0k : (0 : Int) < (k' : Int) + 1 := by omega
      have hw : IntKind.i64.wrap (k' : Int) = (k' : Int) := wrap_ok (by omega) (by omega)
      have hg : (rowsE acc)[k']? = some [.sl (rowsE acc[k'])] := by simp [rowsE, hkl]
      have c1 := cv (l2Less_r l[i] acc[k'] (hs _ (List.getElem_mem hil)))
      have c2 := cv (l2Ints_r acc[k'] l[i] (hsa _ (List.getElem_mem hkl)))
      repeat' first|refine nx ?_|refine xb_miss (by decide) ?_|(apply W_reg;(simp [h0, h1, h5, h6, h7, ho1, hn1, h0k, hw, hrl, hg, c1, hil, hkl];exact .r _))|(apply W_draw (id := 6) [0,1,3,7,7,31,63,7,7,263,903,1927,4095,8191] rfl rfl; (· simp; exact .r _); (· simp [h0, h1, h5, h6, h7, ho1, hn1, h0k, hw, hrl, hg, c1, hil, hkl]; exact .r _); (· first|trivial|simp))
      refine W_cond (by simp [h0, h1, h5, h6, h7, ho1, hn1]; exact .r _) (fun hd => ?_) (fun hd => ?_)
      · have hlt2 : cmpI l[i] acc[k'] < 0 := by simpa using hd
        repeat' first|refine nx ?_|refine xb_miss (by decide) ?_|(apply W_reg;(simp [h0, h1, h5, h6, h7, ho1, hn1, hw];exact .r _))
        refine ⟨_, ?_, k', rfl, rfl, ?_, ?_, ?_, ?_, (by simp [hw]), by omega, ?_, ?_, (fun j hj hkj => by (by_cases e : j = k'; (subst e; exact hlt2); exact hlt j hj (by omega)))⟩
        all_goals first|assumption|(simp [h0, h1, h5, h6, h7, ho1, hn1];done)|(simp [h0, h1, h5, h6, h7, ho1, hn1];omega)|(simp [h0, h1, h5, h6, h7, ho1, hn1];exact wrap_succ (by omega))|omega
      have hnl : ¬ cmpI l[i] acc[k'] < 0 := by simpa using hd
      repeat' first|refine nx ?_|refine xb_miss (by decide) ?_|(apply W_reg;(simp [h0, h1, h5, h6, h7, ho1, hn1, h0k, hw, hrl, hg, c2, hil, hkl];exact .r _))|(apply W_draw (id := 8) [0,1,3,7,15,31,63,63,191,511,1023,63,63,6207,14399,32767,65535] rfl rfl; (· simp; exact .r _); (· simp [h0, h1, h5, h6, h7, ho1, hn1, h0k, hw, hrl, hg, c2, hil, hkl]; exact .r _); (· first|trivial|simp))
      refine W_cond (by simp [h0, h1, h5, h6, h7, ho1, hn1]; exact .r _) (fun hu => ?_) (fun hu => ?_)
      · have hee : acc[k'] = l[i] := by simpa using hu
        repeat' first|refine nx ?_|refine xb_miss (by decide) ?_|(apply W_reg;(simp [h0, h1, h5, h6, h7, ho1, hn1];exact .r _))
        refine ⟨_, ?_, i + 1, o, acc, rfl, rfl, ?_, ?_, ?_, ?_, by omega, ho1, hn1, (by rw [List.take_succ_eq_append_getElem hil]; exact hS.dup (by rw [← hee]; exact List.getElem_mem hkl))⟩
        all_goals first|assumption|(simp [h0, h1, h5, h6, h7, ho1, hn1];done)|(simp [h0, h1, h5, h6, h7, ho1, hn1];omega)|(simp [h0, h1, h5, h6, h7, ho1, hn1];exact wrap_succ (by omega))|omega
      have hee : ¬ acc[k'] = l[i] := by simpa using hu
      repeat' first|refine nx ?_|refine xb_miss (by decide) ?_|(apply W_reg;(simp [h0, h1, h5, h6, h7, ho1, hn1];exact .r _))
      refine W_loop (n := (k' + 1)) (fun n s => ∃ m : Nat, ∃ o2 : Nat, ∃ ac2 : List Row, n = (k' + 1) - m ∧ s.nt = 91 ∧ s.tm 0 = Ar l ∧ s.tm 1 = Bo true ∧ s.tm 5 = .ref o acc.length [] ∧ s.tm 6 = In i ∧ s.tm 7 = In ((k' + 1) : Nat) ∧ s.tm 8 = .ref o2 ac2.length [] ∧ s.tm 9 = In m ∧ m ≤ (k' + 1) ∧ s.σ.ob o = .arr (.own m) 0 1 (rowsE acc) ∧ s.σ.ob o2 = .arr (.own 0) 0 1 (rowsE ac2) ∧ o < s.σ.n ∧ o2 < s.σ.n ∧ ¬ o = o2 ∧ ac2 = acc.take m) ⟨0, σ.n, [], by simp [upd_app, h0, h1, h5, h6, h7, show ¬ o = σ.n by omega, ho1]; omega⟩ ?_
      rintro n ⟨nt, tm, σ⟩ ⟨m, o2, ac2, rfl, hnt, h0, h1, h5, h6, h7, h8, h9, hm, hob, hob2, hon, hon2, hne, hq2⟩
      simp only at hnt h0 h1 h5 h6 h7 h8 h9 hob hob2 hon hon2
      subst hnt
      have n0 : ¬ (o = σ.n) := by omega
      have n0' : ¬ (σ.n = o) := by omega
      have n1 : ¬ (o2 = σ.n) := by omega
      have n1' : ¬ (σ.n = o2) := by omega
      have hne' : ¬ o2 = o := fun e => hne e.symm
      have hb2 : ac2.length ≤ m := by rw [hq2, List.length_take]; omega
      repeat' first|refine nx ?_|refine xb_miss (by decide) ?_|(apply W_reg;(simp [h0, h1, h5, h6, h7, h8, h9, hob, hob2, hon, hon2];exact .r _))
      refine W_cond (by simp [h0, h1, h5, h6, h7, h8, h9, hob, hob2, hon, hon2]; exact .r _) (fun hd2 => ?_) (fun hd2 => ?_)
      · have hmk : m < (k' + 1) := by simp at hd2; omega
        have hml : m < acc.length := by omega
        have hg2 : (rowsE acc)[m]? = some [.sl (rowsE acc[m])] := by simp [rowsE, hml]
        repeat' first|refine nx ?_|refine xb_miss (by decide) ?_|(apply W_reg;(simp [h0, h1, h5, h6, h7, h8, h9, hob, hob2, hon, hon2, hml, hg2, hrl, n0, n0', n1, n1', hne, hne', show ac2.length + 1 < 1099511627776 by omega];exact .r _))
        refine ⟨_, ?_, m + 1, o2, ac2 ++ [acc[m]], rfl, rfl, ?_, ?_, ?_, ?_, ?_, ?_, ?_, by omega, (by simp [upd_app, n0, n0', hne, hne']), ?_, (by simp; omega), (by simp; omega), hne, (by rw [hq2, List.take_succ_eq_append_getElem hml])⟩
        all_goals first|assumption|(simp [h0, h1, h5, h6, h7, h8, h9, hob, hob2, hon, hon2, rowsE_append, n0, n0', n1, n1', hne, hne', rowsE];done)|(simp [h0, h1, h5, h6, h7, h8, h9, hob, hob2, hon, hon2, rowsE_append, n0, n0', n1, n1', hne, hne', rowsE];omega)|(simp [h0, h1, h5, h6, h7, h8, h9, hob, hob2, hon, hon2, rowsE_append, n0, n0', n1, n1', hne, hne', rowsE];exact wrap_succ (by omega))|omega
      have hmk : (k' + 1) = m := by simp at hd2; omega
      subst hmk
      have y0 : ¬ (o = σ.n + 1) := by omega
      have y1 : ¬ (o2 = σ.n + 1) := by omega
      have y0' : ¬ (σ.n + 1 = o) := by omega
      have y1' : ¬ (σ.n + 1 = o2) := by omega
      have y2' : ¬ (σ.n + 2 = o2) := by omega
      have y2 : ¬ (o2 = σ.n + 2) := by omega
      have hgi : (rowsE l)[i]? = some [.sl (rowsE l[i])] := by simp [rowsE, hil]
      have hxl : l[i].length < 1099511627776 := by have := hs _ (List.getElem_mem hil); unfold Sm at this; omega
      repeat' first|refine nx ?_|refine xb_miss (by decide) ?_|(apply W_reg;(simp [h0, h1, h5, h6, h7, h8, h9, hob, hob2, hon, hon2, hil, hgi, hxl, n0, n0', n1, n1', hne, hne', y0, y1, y0', y1', y2, y2', show ac2.length + 1 < 1099511627776 by omega];exact .r _))
      refine W_loop (n := (acc.length - (k' + 1))) (fun n s => ∃ r : Nat, ∃ o3 : Nat, ∃ ac3 : List Row, n = acc.length - r ∧ s.nt = 91 ∧ s.tm 0 = Ar l ∧ s.tm 1 = Bo true ∧ s.tm 5 = .ref o acc.length [] ∧ s.tm 6 = In i ∧ s.tm 8 = .ref o3 ac3.length [] ∧ s.tm 10 = In r ∧ r ≤ acc.length ∧ s.σ.ob o = .arr (.own r) 0 1 (rowsE acc) ∧ s.σ.ob o3 = .arr (.own 0) 0 1 (rowsE ac3) ∧ o < s.σ.n ∧ o3 < s.σ.n ∧ ¬ o = o3 ∧ ac3.length = r + 1 ∧ ac3 ++ acc.drop r = acc.take ((k' + 1)) ++ [l[i]] ++ acc.drop ((k' + 1))) ⟨(k' + 1), o2, ac2 ++ [l[i]], by simp [upd_app, h0, h1, h5, h6, n0, n0', n1, n1', hne, hne', y0, y1, y2, hob, rowsE_append, rowsE, hk, hq2]; omega⟩ ?_
      rintro n ⟨nt, tm, σ⟩ ⟨r, o3, ac3, rfl, hnt, h0, h1, h5, h6, h8, h10, hr, hrb, hrb2, hrn, hrn2, hrne, hr0, hq3⟩
      simp only at hnt h0 h1 h5 h6 h8 h10 hrb hrb2 hrn hrn2
      subst hnt
      have x0 : ¬ (o = σ.n) := by omega
      have x0' : ¬ (σ.n = o) := by omega
      have x1 : ¬ (o3 = σ.n) := by omega
      have x1' : ¬ (σ.n = o3) := by omega
      have hrne' : ¬ o3 = o := fun e => hrne e.symm
      repeat' first|refine nx ?_|refine xb_miss (by decide) ?_|(apply W_reg;(simp [h0, h1, h5, h6, h8, h10, hrb, hrb2, hrn, hrn2];exact .r _))
      refine W_cond (by simp [h0, h1, h5, h6, h8, h10, hrb, hrb2, hrn, hrn2]; exact .r _) (fun hd3 => ?_) (fun hd3 => ?_)
      · have hrk : r < acc.length := by simpa using hd3
        have hg3 : (rowsE acc)[r]? = some [.sl (rowsE acc[r])] := by simp [rowsE, hrk]
        repeat' first|refine nx ?_|refine xb_miss (by decide) ?_|(apply W_reg;(simp [h0, h1, h5, h6, h8, h10, hrb, hrb2, hrn, hrn2, hrk, hg3, hrl, x0, x0', x1, x1', hrne, hrne', show ac3.length + 1 < 1099511627776 by omega];exact .r _))
        refine ⟨_, ?_, r + 1, o3, ac3 ++ [acc[r]], rfl, rfl, ?_, ?_, ?_, ?_, ?_, ?_, by omega, (by simp [upd_app, x0, x0', hrne, hrne']), ?_, (by simp; omega), (by simp; omega), hrne, (by simp; omega), (by rw [← hq3, List.drop_eq_getElem_cons hrk]; simp)⟩
        all_goals first|assumption|(simp [h0, h1, h5, h6, h8, h10, hrb, hrb2, hrn, hrn2, rowsE_append, x0, x0', x1, x1', hrne, hrne', rowsE];done)|(simp [h0, h1, h5, h6, h8, h10, hrb, hrb2, hrn, hrn2, rowsE_append, x0, x0', x1, x1', hrne, hrne', rowsE];omega)|(simp [h0, h1, h5, h6, h8, h10, hrb, hrb2, hrn, hrn2, rowsE_append, x0, x0', x1, x1', hrne, hrne', rowsE];exact wrap_succ (by omega))|omega
      have hrk : r = acc.length := by simp at hd3; omega
      subst hrk
      rw [List.drop_length, List.append_nil] at hq3
      repeat' first|refine nx ?_|refine xb_miss (by decide) ?_|(apply W_reg;(simp [h0, h1, h5, h6, h8, h10, hrb, hrb2, hrn, hrn2];exact .r _))
      refine ⟨_, ?_, i + 1, o3, ac3, rfl, rfl, ?_, ?_, ?_, ?_, by omega, hrb2, hrn2, (by rw [hq3, List.take_succ_eq_append_getElem hil]; exact hS.ins hk hlt (fun _ _ => hnl) (fun _ _ _ => hee))⟩
      all_goals first|assumption|(simp [h0, h1, h5, h6, h8, h10, hrb, hrb2, hrn, hrn2];done)|(simp [h0, h1, h5, h6, h8, h10, hrb, hrb2, hrn, hrn2];omega)|(simp [h0, h1, h5, h6, h8, h10, hrb, hrb2, hrn, hrn2];exact wrap_succ (by omega))|omega
  · have hil : i = l.length := by simp at hc; omega
    subst hil
    rw [List.take_length] at hS
    have he := hS.eq
    repeat' first|refine nx ?_|refine xb_miss (by decide) ?_|(apply W_reg;(simp [h0, h1, h5, h6, ho, hn];exact .r _))
    simp [ho, he]
end Go.Proofs.YtpdpgfagklhpaaaGreat.V

namespace Go.Proofs.YtpdpgfagklhpaaaGreat.V
open Go Go.Proofs
set_option linter.unusedVariables false
set_option linter.unusedSimpArgs false
/-- All bindings' rows, sorted, each once. -/
def rawB (q : Qry) (db : List RA) : List Row := srtU ((binds db q.body b0).map encB)
theorem l6Raw_r (q : Qry) (db : List RA) (hbl : q.body.length ≤ 4) (hbody : ∀ a ∈ q.body, a.args.length ≤ 1000 ∧ ∀ t ∈ a.args, isTerm t = true) (hdl : db.length ≤ 24) (hdb : ∀ x ∈ db, Sm x.args) : Ret XX 60 [Ag q, Ar db] (.own 1 (rowsE (rawB q db))) := by
  refine ret_W rfl Tryz.func60 rfl rfl (by simp [Tryz.f60]) ?_
  simp only [Tryz.f60]
  have hbn := binds_le db q.body b0
  have hpow : db.length ^ q.body.length ≤ 24 ^ 4 := Nat.le_trans (Nat.pow_le_pow_left hdl _) (Nat.pow_le_pow_right (by omega) hbl)
  have hp4 : (24 : Nat) ^ 4 = 331776 := by decide
  refine W_seq ?_
  apply W_reg; (simp [Ag]; exact .r _)
  refine W_seq ?_
  apply W_reg; (simp; exact .r _)
  refine W_gen (fun s2 => Ok 2 1 [] s2 [] ∧ s2.n = 3 ∧ s2.ob 0 = .box [Ar q.head, Ar q.body]) ?_ (fun s2 hq2 => ?_)
  · refine ⟨⟨by simp [upd_app], by simp [upd_app], by simp, by simp, by omega, fun x hx => (by cases hx), fun x hx => ?_, fun x hx => ?_⟩, rfl, by simp [upd_app]⟩
    · have hx : x < 3 := hx
      rcases (by omega : x = 0 ∨ x = 1 ∨ x = 2) with rfl | rfl | rfl <;> simp [upd_app, VO.clean, cleanA, clean1]
    · have hx : 3 ≤ x := hx
      simp [upd_app, show ¬ x = 0 by omega, show ¬ x = 1 by omega, show ¬ x = 2 by omega]
  obtain ⟨hok, hn3, hq1⟩ := hq2
  have b40 : (bL b0).length = 40 := rfl
  have ce := cv l6Empty_r rfl s2 [] rfl
  have hok2 : Ok 2 1 [] ⟨4, upd s2.ob 3 (.arr (.own 0) 0 1 (rowsE (bL b0)))⟩ [] := hok.grow (by simp [hn3]) (fun x hx => by simp only [upd_app]; rw [if_neg (by omega)]) (fun x h1 h2 => by
    have h2' : x < 4 := h2
    obtain rfl : x = 3 := by omega
    simp [upd_app, VO.clean]) (fun x hx => by
    have hx' : 4 ≤ x := hx
    simp only [upd_app]; rw [if_neg (by omega)]; exact hok.dd x (by omega))
  obtain ⟨m, st, sz, rows, hcall⟩ := search_c (q := q) (db := db) (by omega) hbody (by unfold Sm; omega) hdb _ 0 b0 ⟨4, upd s2.ob 3 (.arr (.own 0) 0 1 (rowsE (bL b0)))⟩ [] 3 rfl (Nat.zero_le _) rfl hok2 (by simp [upd_app]) (by omega) (by omega) (by show 3 < 4; omega) (by simp; omega)
  simp only [List.drop_zero, List.nil_append, Int.natCast_zero] at hcall
  have hAq : Ag q = .agg [.t (.sl (rowsE q.head)), .t (.sl (rowsE q.body))] := rfl
  rw [hAq] at hcall
  generalize hA : (binds db q.body b0).map encB = accF at *
  have hlen : accF.length ≤ 331776 := by rw [← hA, List.length_map]; omega
  have hsm : ∀ x ∈ accF, Sm x := fun x hx => by
    rw [← hA] at hx
    obtain ⟨b, hb1, hb2⟩ := List.mem_map.1 hx
    have hbl := binds_len (fun a ha t ht => by have := isTerm_iff.1 ((hbody a ha).2 t ht); simp only [b0_len]; omega) hb1
    rw [← hb2]
    unfold Sm
    rw [encB_len, hbl, b0_len]; omega
  have cs := cv (l6Sort_true accF (by omega) hsm)
  repeat' first|refine nx ?_|refine xb_miss (by decide) ?_|(apply W_reg;(simp [hq1, ce, b40, hn3, hcall, St_ob, cs];exact .r _))|(apply W_draw (id := 2) [0,0,0,7] rfl rfl; (· simp; exact .r _); (· simp [hq1, ce, b40, hn3, hcall, St_ob, cs]; exact .r _); (· first|trivial|simp))
  rw [show rawB q db = srtU accF by rw [rawB, hA]]
  simp
/-- A term under a binding's row. -/
def valR (row : Row) (t : Int) : Int := if t < 0 then -1 - t else (row[t.toNat]?).getD 0
theorem l6Tuple_r (ts row : List Int) (hr : row.length = 20) (hl : Sm ts) (ht : ∀ t ∈ ts, isTerm t = true) : Ret XX 58 [Ar ts, Ar row] (.own 1 (rowsE (ts.map (valR row)))) := by
  refine ret_W rfl Tryz.func58 rfl rfl (by simp [Tryz.f58]) ?_
  simp only [Tryz.f58]
  repeat' first|refine nx ?_|refine xb_miss (by decide) ?_|(apply W_reg;(simp;exact .r _))
  refine W_loop (n := ts.length) (fun n s => ∃ i : Nat, ∃ acc : List Int, n = ts.length - i ∧ s.nt = 38 ∧ s.tm 0 = Ar ts ∧ s.tm 1 = Ar row ∧ s.tm 5 = .ref 0 acc.length [] ∧ s.tm 6 = In i ∧ i ≤ ts.length ∧ s.σ.ob 0 = .arr (.own 0) 0 1 (rowsE acc) ∧ 1 ≤ s.σ.n ∧ acc = (ts.take i).map (valR row)) ⟨0, [], by simp⟩ ?_
  rintro n ⟨nt, tm, σ⟩ ⟨i, acc, rfl, hnt, h0, h1, h5, h6, hi, ho, hn, hacc⟩
  simp only at hnt h0 h1 h5 h6 ho hn
  subst hnt
  have n0 : ¬ (0 = σ.n) := by omega
  have n0' : ¬ (σ.n = 0) := by omega
  have hal : acc.length ≤ i := by rw [hacc, List.length_map, List.length_take]; omega
  repeat' first|refine nx ?_|refine xb_miss (by decide) ?_|(apply W_reg;(simp [h0, h1, h5, h6, ho, hn];exact .r _))
  refine W_cond (by simp [h0, h1, h5, h6, ho, hn]; exact .r _) (fun hc => ?_) (fun hc => ?_)
  · have hil : i < ts.length := by simpa using hc
    have htr := isTerm_iff.1 (ht _ (List.getElem_mem hil))
    have htk : (ts.take (i + 1)).map (valR row) = acc ++ [valR row ts[i]] := by rw [List.take_succ_eq_append_getElem hil, List.map_append, ← hacc]; rfl
    repeat' first|refine nx ?_|refine xb_miss (by decide) ?_|(apply W_reg;(simp [h0, h1, h5, h6, ho, hn, hil];exact .r _))
    refine W_cond (by simp [h0, h1, h5, h6, ho, hn]; exact .r _) (fun hd => ?_) (fun hd => ?_)
    · have h0' : ts[i] < 0 := by simpa using hd
      have hw : IntKind.i64.wrap (-1 - ts[i]) = -1 - ts[i] := wrap_ok (by omega) (by omega)
      repeat' first|refine nx ?_|refine xb_miss (by decide) ?_|(apply W_reg;(simp [h0, h1, h5, h6, ho, hn, hil, hw, n0, n0', show acc.length + 1 < 1099511627776 by omega];exact .r _))
      refine ⟨_, ?_, i + 1, acc ++ [-1 - ts[i]], rfl, rfl, ?_, ?_, ?_, ?_, by omega, ?_, ?_, (by rw [htk, valR, if_pos h0'])⟩
      all_goals first|assumption|(simp [h0, h1, h5, h6, ho, hn, rowsE_append, n0, n0', rowsE];done)|(simp [h0, h1, h5, h6, ho, hn, rowsE_append, n0, n0', rowsE];omega)|(simp [h0, h1, h5, h6, ho, hn, rowsE_append, n0, n0', rowsE];exact wrap_succ (by omega))|omega
    · have h0' : 0 ≤ ts[i] := by simp at hd; omega
      have htl : ts[i].toNat < row.length := by omega
      repeat' first|refine nx ?_|refine xb_miss (by decide) ?_|(apply W_reg;(simp [h0, h1, h5, h6, ho, hn, hil, htl, h0', n0, n0', show acc.length + 1 < 1099511627776 by omega];exact .r _))
      refine ⟨_, ?_, i + 1, acc ++ [row[ts[i].toNat]], rfl, rfl, ?_, ?_, ?_, ?_, by omega, ?_, ?_, (by rw [htk, valR, if_neg (by omega), List.getElem?_eq_getElem htl]; rfl)⟩
      all_goals first|assumption|(simp [h0, h1, h5, h6, ho, hn, rowsE_append, n0, n0', rowsE];done)|(simp [h0, h1, h5, h6, ho, hn, rowsE_append, n0, n0', rowsE];omega)|(simp [h0, h1, h5, h6, ho, hn, rowsE_append, n0, n0', rowsE];exact wrap_succ (by omega))|omega
  · have hil : i = ts.length := by simp at hc; omega
    subst hil
    rw [List.take_length] at hacc
    subst hacc
    repeat' first|refine nx ?_|refine xb_miss (by decide) ?_|(apply W_reg;(simp [h0, h1, h5, h6, ho, hn];exact .r _))
    simp [ho]
theorem specBindings_r (c : Sch) (q : Qry) (db : List RA) (hc : Lw.bd 1048576 c) (hq : Lw.bd 1048576 q) (hd : Lw.bd 1048576 db) : Ret XX 32 [Ag c, Ag q, Ar db] (.own 1 (rowsE (if isQry c q && isDb c db then rawB q db else []))) := by
  refine ret_W rfl Tryz.func32 rfl rfl (by simp [Tryz.f32]) ?_
  simp only [Tryz.f32]
  have sc : Sm c.arity := Nat.lt_of_le_of_lt hc.1 (by omega)
  have sh : Sm q.head := Nat.lt_of_le_of_lt hq.1.1 (by omega)
  have sb : Sm q.body := Nat.lt_of_le_of_lt hq.2.1 (by omega)
  have sba : ∀ a ∈ q.body, Sm a.args := fun a ha => Nat.lt_of_le_of_lt (hq.2.2 a ha).1 (by omega)
  have sd : Sm db := Nat.lt_of_le_of_lt hd.1 (by omega)
  have sda : ∀ a ∈ db, Sm a.args := fun a ha => Nat.lt_of_le_of_lt (hd.2 a ha).1 (by omega)
  have c1 := cv (specIsQuery_r c q sc sh sb sba)
  have c2 := cv (specIsDb_r c db sc sd sda)
  simp only [Ag, cells_Sch, cells_Q, List.map_cons, List.map_nil] at c1 c2
  cases e1 : isQry c q
  · repeat' first|refine nx ?_|refine xb_miss (by decide) ?_|(apply W_reg;(simp [Ag, c1, e1];exact .r _))
    refine W_cond (by simp; exact .r _) (fun hc => ?_) (fun hc => ?_)
    · repeat' first|refine nx ?_|refine xb_miss (by decide) ?_|(apply W_reg;(simp;exact .r _))
      simp
    · cases hc
  cases e2 : isDb c db
  · repeat' first|refine nx ?_|refine xb_miss (by decide) ?_|(apply W_reg;(simp [Ag, c1, e1, c2, e2];exact .r _))
    refine W_cond (by simp; exact .r _) (fun hc => ?_) (fun hc => ?_)
    · repeat' first|refine nx ?_|refine xb_miss (by decide) ?_|(apply W_reg;(simp;exact .r _))
      simp
    · cases hc
  repeat' first|refine nx ?_|refine xb_miss (by decide) ?_|(apply W_reg;(simp [Ag, c1, e1, c2, e2];exact .r _))
  refine W_cond (by simp; exact .r _) (fun hc => ?_) (fun hc => ?_)
  · cases hc
  have hqs := isQry_small e1
  have hdl : db.length ≤ 24 := by simp [isDb] at e2; omega
  have c3 := cv (l6Raw_r q db hqs.2.1 (fun a ha => ⟨by have := (hqs.2.2.2 a ha).1; omega, fun t ht => isTerm_iff.2 ((hqs.2.2.2 a ha).2 t ht)⟩) hdl sda)
  simp only [Ag, cells_Q, List.map_cons, List.map_nil] at c3
  repeat' first|refine nx ?_|refine xb_miss (by decide) ?_|(apply W_reg;(simp [c3];exact .r _))
  simp
end Go.Proofs.YtpdpgfagklhpaaaGreat.V

namespace Go.Proofs.YtpdpgfagklhpaaaGreat.V
open Go Go.Proofs
set_option linter.unusedVariables false
set_option linter.unusedSimpArgs false
def headR (q : Qry) (row : Row) : Row := q.head.map (valR row)
theorem rawB_bd {c : Sch} {q : Qry} {db : List RA} (e1 : isQry c q = true) (e2 : isDb c db = true) : (rawB q db).length ≤ 331776 ∧ ∀ r ∈ rawB q db, r.length = 20 := by
  have hqs := isQry_small e1
  have hdl : db.length ≤ 24 := by simp [isDb] at e2; omega
  have hbn := binds_le db q.body b0
  have hpow : db.length ^ q.body.length ≤ 24 ^ 4 := Nat.le_trans (Nat.pow_le_pow_left hdl _) (Nat.pow_le_pow_right (by omega) hqs.2.1)
  have hp4 : (24 : Nat) ^ 4 = 331776 := by decide
  refine ⟨?_, fun r hr => ?_⟩
  · have := uniq_len (srt cmpI ((binds db q.body b0).map encB))
    rw [srt_perm.length_eq, List.length_map] at this
    unfold rawB srtU; omega
  · obtain ⟨b, hb1, hb2⟩ := List.mem_map.1 (mem_srtU.1 hr)
    have hbl := binds_len (fun a ha t ht => by have := (hqs.2.2.2 a ha).2 t ht; simp only [b0_len]; omega) hb1
    rw [← hb2, encB_len, hbl, b0_len]
end Go.Proofs.YtpdpgfagklhpaaaGreat.V

namespace Go.Proofs.YtpdpgfagklhpaaaGreat.V
open Go Go.Proofs
set_option linter.unusedVariables false
set_option linter.unusedSimpArgs false
/-- Nothing points beyond the store's end, and nothing lies there. -/
structure Cl (σ : Sto) : Prop where
  cl : ∀ x, x < σ.n → (σ.ob x).clean σ.n = true
  dd : ∀ x, σ.n ≤ x → σ.ob x = .dead
theorem Cl.e : Cl Sto.e := ⟨fun x hx => absurd hx (Nat.not_lt_zero _), fun x _ => rfl⟩
theorem Cl.new {n : Nat} {ob : Nat → VO} {X : VO} (h : Cl ⟨n, ob⟩) (hx : X.clean (n + 1) = true) : Cl ⟨n + 1, upd ob n X⟩ := by
  refine ⟨fun x hxn => ?_, fun x hxn => ?_⟩
  · simp only [upd_app]
    split
    · exact hx
    · have hxn' : x < n + 1 := hxn
      exact clean_mono (Nat.le_succ n) (h.cl x (by show x < n; omega))
  · have hxn' : n + 1 ≤ x := hxn
    simp only [upd_app]
    rw [if_neg (by omega)]
    exact h.dd x (by show n ≤ x; omega)
theorem Cl.set {n o : Nat} {ob : Nat → VO} {X : VO} (h : Cl ⟨n, ob⟩) (ho : o < n) (hx : X.clean n = true) : Cl ⟨n, upd ob o X⟩ := by
  refine ⟨fun x hxn => ?_, fun x hxn => ?_⟩
  · simp only [upd_app]
    split
    · exact hx
    · exact h.cl x hxn
  · have hxn' : n ≤ x := hxn
    simp only [upd_app]
    rw [if_neg (by omega)]
    exact h.dd x hxn
theorem Cl.e3 {n : Nat} {ob : Nat → VO} (h : Cl ⟨n, ob⟩) {X Y Z : VO} (h1 : X.clean (n + 1) = true) (h2 : Y.clean (n + 2) = true) (h3 : Z.clean (n + 3) = true) : Cl ⟨n + 3, upd (upd (upd ob n X) (n + 1) Y) (n + 2) Z⟩ := Cl.new (n := n + 2) (Cl.new (n := n + 1) (Cl.new h h1) h2) h3
end Go.Proofs.YtpdpgfagklhpaaaGreat.V

namespace Go.Proofs.YtpdpgfagklhpaaaGreat.V
open Go Go.Proofs
set_option linter.unusedVariables false
set_option linter.unusedSimpArgs false
theorem l6Heads_r (q : Qry) (B : List Row) (hB : Sm B) (h20 : ∀ r ∈ B, r.length = 20 ∧ ∀ t ∈ q.head, isTerm t = true) (hh : Sm q.head) : Ret XX 31 [Ag q, Ar B] (.own 1 (rowsE (B.map (headR q)))) := by
  refine ret_W rfl Tryz.func31 rfl rfl (by simp [Tryz.f31]) ?_
  simp only [Tryz.f31]
  repeat' first|refine nx ?_|refine xb_miss (by decide) ?_|(apply W_reg;(simp [Ag];exact .r _))
  refine W_loop (n := B.length) (fun n s => ∃ i : Nat, n = B.length - i ∧ s.nt = 25 ∧ s.tm 1 = Ar B ∧ s.tm 2 = .ptr 0 0 ∧ s.tm 5 = .ref 1 i [] ∧ s.tm 6 = In i ∧ i ≤ B.length ∧ s.σ.ob 0 = .box [Ar q.head, Ar q.body] ∧ s.σ.ob 1 = .arr (.own 0) 0 1 (rowsE ((B.map (headR q)).take i)) ∧ 2 ≤ s.σ.n) ⟨0, by simp⟩ ?_
  rintro n ⟨nt, tm, σ⟩ ⟨i, rfl, hnt, h1, h2, h5, h6, hi, hb0, ho, hn⟩
  simp only at hnt h1 h2 h5 h6 hb0 ho hn
  subst hnt
  have ne1_ : ¬ (0 = σ.n) := by omega
  have ne2_ : ¬ (σ.n = 0) := by omega
  have ne3_ : ¬ (0 = σ.n + 1) := by omega
  have ne4_ : ¬ (σ.n + 1 = 0) := by omega
  have ne5_ : ¬ (1 = σ.n) := by omega
  have ne6_ : ¬ (σ.n = 1) := by omega
  have ne7_ : ¬ (1 = σ.n + 1) := by omega
  have ne8_ : ¬ (σ.n + 1 = 1) := by omega
  repeat' first|refine nx ?_|refine xb_miss (by decide) ?_|(apply W_reg;(simp [h1, h2, h5, h6, hb0, ho, hn, ne1_, ne2_, ne3_, ne4_, ne5_, ne6_, ne7_, ne8_];exact .r _))
  refine W_cond (by simp [h1, h2, h5, h6, hb0, ho, hn, ne1_, ne2_, ne3_, ne4_, ne5_, ne6_, ne7_, ne8_]; exact .r _) (fun hc => ?_) (fun hc => ?_)
  · have hil : i < B.length := by simpa using hc
    have c1 := cv (l6Tuple_r q.head B[i] (h20 _ (List.getElem_mem hil)).1 hh (h20 _ (List.getElem_mem hil)).2)
    have hmin : min i B.length = i := by omega
    have hmap : (rowsE (q.head.map (valR B[i]))).length = q.head.length := by rw [rowsE_len, List.length_map]
    have htk : (rowsE (q.head.map (valR B[i]))).take q.head.length = rowsE (q.head.map (valR B[i])) := by rw [← hmap, List.take_length]
    repeat' first|refine nx ?_|refine xb_miss (by decide) ?_|(apply W_reg;(simp [h1, h2, h5, h6, hb0, ho, hn, ne1_, ne2_, ne3_, ne4_, ne5_, ne6_, ne7_, ne8_, hil, c1, hmin, hmap, htk, show i + 1 < 1099511627776 by omega];exact .r _))|(apply W_draw (id := 5) [0,0,2,0,0,24,56,126,254,511,1023] rfl rfl; (· simp; exact .r _); (· simp [h1, h2, h5, h6, hb0, ho, hn, ne1_, ne2_, ne3_, ne4_, ne5_, ne6_, ne7_, ne8_, hil, c1, hmin, hmap, htk, show i + 1 < 1099511627776 by omega]; exact .r _); (· first|trivial|simp))
    refine ⟨_, ?_, i + 1, rfl, rfl, ?_, ?_, (by simp), ?_, by omega, ?_, (by simp; rw [rowsE_take (B.map (headR q)) i (by simpa using hil)]; simp [headR]), ?_⟩
    all_goals first|assumption|(simp [h1, h2, h5, h6, hb0, ho, hn, ne1_, ne2_, ne3_, ne4_, ne5_, ne6_, ne7_, ne8_, hmin];done)|(simp [h1, h2, h5, h6, hb0, ho, hn, ne1_, ne2_, ne3_, ne4_, ne5_, ne6_, ne7_, ne8_, hmin];omega)|(simp [h1, h2, h5, h6, hb0, ho, hn, ne1_, ne2_, ne3_, ne4_, ne5_, ne6_, ne7_, ne8_, hmin];exact wrap_succ (by omega))|omega
  · have hil : i = B.length := by simp at hc; omega
    subst hil
    rw [List.take_of_length_le (by simp)] at ho
    repeat' first|refine nx ?_|refine xb_miss (by decide) ?_|(apply W_reg;(simp [h1, h2, h5, h6, hb0, ho, hn, ne1_, ne2_, ne3_, ne4_, ne5_, ne6_, ne7_, ne8_];exact .r _))
    simp [ho]
end Go.Proofs.YtpdpgfagklhpaaaGreat.V

namespace Go.Proofs.YtpdpgfagklhpaaaGreat.V
open Go Go.Proofs
set_option linter.unusedVariables false
def m0 : List Int := List.replicate 20 (-1000)
def mapA (f : Int → Int) (a : RA) : RA := ⟨a.rel, a.args.map f⟩
def chg (f : Int → Int) (q : Qry) : Qry := ⟨q.head.map f, q.body.map (mapA f)⟩
/-- The variables of a query, ascending. -/
def iota (n : Nat) : List Int := (List.range n).map Int.ofNat
def varsQ (q : Qry) : List Int := (iota 20).filter fun v => occurs q v || decide (v ∈ q.head)
/-- Names that are not in use. -/
def lst (us : List Int) : Nat := ((List.range (us.length + 1)).find? fun (v : Nat) => !decide ((v : Int) ∈ us)).getD 0
def frF (s : List (Int × Int) × List Int) (x : Int) : List (Int × Int) × List Int := (s.1 ++ [(x, (lst s.2 : Int))], s.2 ++ [(lst s.2 : Int)])
def fr (l us : List Int) : List (Int × Int) × List Int := l.foldl frF ([], us)
def frOk (ps : List (Int × Int)) : Bool := ps.all fun p => decide (p.2 < 20)
def asn (ps : List (Int × Int)) (t : Int) : Int := ((ps.find? fun p => decide (p.1 = t)).map (·.2)).getD t
/-- The views' bodies under fresh names; the arguments; the views' heads. -/
def unfS (views : List Qry) : List RA → List Int → Option (List RA × List Int × List Int)
  | [], _ => some ([], [], [])
  | a :: as_, us => match views[a.rel.toNat]? with
    | none => none
    | some v => if frOk (fr (varsQ v) us).1 then (unfS views as_ (fr (varsQ v) us).2).map fun s => (v.body.map (mapA (asn (fr (varsQ v) us).1)) ++ s.1, a.args ++ s.2.1, v.head.map (asn (fr (varsQ v) us).1) ++ s.2.2) else none
/-- What is put for what, so that two terms become equal. -/
def eqt (t u : Int) : Option (Int × Int) := if t = u then some (t, t) else if t < 0 then (if u < 0 then none else some (u, t)) else if u < 0 then some (t, u) else some (max t u, min t u)
def sb (p : Int × Int) (t : Int) : Int := if t = p.1 then p.2 else t
/-- Head, body, arguments and heads while the pairs from the i-th on are made equal. -/
structure Ust where
  h : List Int
  b : List RA
  l : List Int
  r : List Int
  deriving DecidableEq
def Ust.sub (p : Int × Int) (s : Ust) : Ust := ⟨s.h.map (sb p), s.b.map (mapA (sb p)), s.l.map (sb p), s.r.map (sb p)⟩
def eqS : List Nat → Ust → Option Ust
  | [], s => some s
  | i :: is, s => (eqt ((s.l[i]?).getD 0) ((s.r[i]?).getD 0)).bind fun p => eqS is (s.sub p)
/-- Each atom once, where it comes first. -/
def ddF (out : List RA) (a : RA) : List RA := if a ∈ out then out else out ++ [a]
def ddp (l : List RA) : List RA := l.foldl ddF []
def vSch (views : List Qry) : Sch := ⟨views.map fun v => (v.head.length : Int)⟩
def vOk (c : Sch) (v : Qry) : Bool := isQry c v && !decide (v.head.length = 0)
def allVs (c : Sch) (views : List Qry) : Bool := views.all (vOk c)
def areVs (c : Sch) (views : List Qry) : Bool := allVs c views && isSch c && inR views.length 1 4
def unfQ (views : List Qry) (q : Qry) : Option Qry := (unfS views q.body (varsQ q)).bind fun s => (eqS (List.range s.2.1.length) ⟨q.head, s.1, s.2.1, s.2.2⟩).map fun u => ⟨u.h, ddp u.b⟩
def unfold (c : Sch) (views : List Qry) (q : Qry) : Option Qry := if areVs c views && isQry (vSch views) q then unfQ views q else none
end Go.Proofs.YtpdpgfagklhpaaaGreat.V

namespace Go.Proofs.YtpdpgfagklhpaaaGreat.V
open Go Go.Proofs
set_option linter.unusedVariables false
set_option linter.unusedSimpArgs false
/-- Lengths of a query. -/
def SmQ (q : Qry) : Prop := Sm q.head ∧ Sm q.body ∧ ∀ a ∈ q.body, Sm a.args
theorem SmQ.of {N : Nat} (hN : N < 1099511627775) {q : Qry} (h : Lw.bd N q) : SmQ q := ⟨Nat.lt_of_le_of_lt h.1.1 hN, Nat.lt_of_le_of_lt h.2.1 hN, fun a ha => Nat.lt_of_le_of_lt (h.2.2 a ha).1 hN⟩
/-- A slice in a struct that grows from nil. -/
def gc (o n : Nat) : AV := if n = 0 then .t .nl else .ref o n []
@[simp] theorem gc_zero (o : Nat) : gc o 0 = .t .nl := rfl
@[simp] theorem gc_succ (o n : Nat) : gc o (n + 1) = .ref o (n + 1) [] := rfl
theorem gc_pos {o n : Nat} (h : n ≠ 0) : gc o n = .ref o n [] := by unfold gc; rw [if_neg h]
abbrev xvQ (q : Qry) : XV := .agg [.own 1 (rowsE q.head), .own 2 (rowsE q.body)]
end Go.Proofs.YtpdpgfagklhpaaaGreat.V

namespace Go.Proofs.YtpdpgfagklhpaaaGreat.V
open Go Go.Proofs
set_option linter.unusedVariables false
set_option linter.unusedSimpArgs false
def vals (r : Row) : Bool := r.all fun x => inR x 0 99
/-- Lengths of a cache. -/
def SmC (x : Cch) : Prop := Sm x.views ∧ (∀ q ∈ x.views, SmQ q) ∧ Sm x.tables ∧ ∀ t ∈ x.tables, Sm t ∧ ∀ r ∈ t, Sm r
theorem SmC.of {N : Nat} (hN : N < 1099511627775) {x : Cch} (h : Lw.bd N x) : SmC x := ⟨Nat.lt_of_le_of_lt h.1.1 hN, fun q hq => SmQ.of hN (h.1.2 q hq), Nat.lt_of_le_of_lt h.2.1 hN, fun t ht => ⟨Nat.lt_of_le_of_lt (h.2.2 t ht).1 hN, fun r hr => Nat.lt_of_le_of_lt ((h.2.2 t ht).2 r hr).1 hN⟩⟩
end Go.Proofs.YtpdpgfagklhpaaaGreat.V

namespace Go.Proofs.YtpdpgfagklhpaaaGreat.V
open Go Go.Proofs
set_option linter.unusedVariables false
set_option linter.unusedSimpArgs false
abbrev xvF (a : RA) : XV := .agg [.t (.i .i64 a.rel) false, .own 1 (rowsE a.args)]
/-- Lengths of facts. -/
def SmF (l : List RA) : Prop := Sm l ∧ ∀ a ∈ l, Sm a.args
theorem l5Copy_r (a : RA) (h : Sm a.args) : Ret XX 21 [Ag a] (xvF a) := by
  refine ret_W rfl Tryz.func21 rfl rfl (by simp [Tryz.f21]) ?_
  simp only [Tryz.f21]
  repeat' first|refine nx ?_|refine xb_miss (by decide) ?_|(apply W_reg;(simp [Ag, show a.args.length < 1099511627776 by unfold Sm at h; omega];exact .r _))|(apply W_draw (id := 1) [0,1,0,0,8,28,63,127] rfl rfl; (· simp; exact .r _); (· simp [Ag, show a.args.length < 1099511627776 by unfold Sm at h; omega]; exact .r _); (· first|trivial|simp))
  simp
theorem l5All_r (l : List RA) (h : SmF l) : Ret XX 25 [Ar l] (.own 2 (rowsE l)) := by
  refine ret_W rfl Tryz.func25 rfl rfl (by simp [Tryz.f25]) ?_
  simp only [Tryz.f25]
  have hs : l.length < 1099511627775 := h.1
  repeat' first|refine nx ?_|refine xb_miss (by decide) ?_|(apply W_reg;(simp;exact .r _))
  refine W_loop (n := l.length) (fun n s => ∃ i : Nat, n = l.length - i ∧ s.nt = 23 ∧ s.tm 0 = Ar l ∧ s.tm 3 = .ref 0 i [] ∧ s.tm 4 = In i ∧ i ≤ l.length ∧ s.σ.ob 0 = .arr (.own 0) 0 2 (rowsE (l.take i)) ∧ 1 ≤ s.σ.n) ⟨0, by simp⟩ ?_
  rintro n ⟨nt, tm, σ⟩ ⟨i, rfl, hnt, h0, h3, h4, hi, ho, hn⟩
  simp only at hnt h0 h3 h4 ho hn
  subst hnt
  have ap1_ := apart hn
  repeat' first|refine nx ?_|refine xb_miss (by decide) ?_|(apply W_reg;(simp [h0, h3, h4, ho, hn, ap1_];exact .r _))
  refine W_cond (by simp [h0, h3, h4, ho, hn, ap1_]; exact .r _) (fun hc => ?_) (fun hc => ?_)
  · have hil : i < l.length := by simpa using hc
    have c1 := cv (l5Copy_r l[i] (h.2 _ (List.getElem_mem hil)))
    simp only [Ag, cells_RA, List.map_cons, List.map_nil] at c1
    repeat' first|refine nx ?_|refine xb_miss (by decide) ?_|(apply W_reg;(simp [h0, h3, h4, ho, hn, ap1_, hil, c1, show min i l.length = i by omega, show i + 1 < 1099511627776 by omega];exact .r _))
    refine ⟨_, ?_, i + 1, rfl, rfl, ?_, ?_, ?_, by omega, (by simp [h0, h3, h4, ho, hn, ap1_]; rw [rowsE_take l i hil]; simp), ?_⟩
    all_goals first|assumption|(simp [h0, h3, h4, ho, hn, ap1_];done)|(simp [h0, h3, h4, ho, hn, ap1_];omega)|(simp [h0, h3, h4, ho, hn, ap1_];exact wrap_succ (by omega))|omega
  · have hil : i = l.length := by simp at hc; omega
    subst hil
    rw [List.take_length] at ho
    repeat' first|refine nx ?_|refine xb_miss (by decide) ?_|(apply W_reg;(simp [h0, h3, h4, ho, hn, ap1_];exact .r _))
    simp [ho]
theorem specHas_r (l : List RA) (f : RA) (h : SmF l) : Ret XX 24 [Ar l, Ag f] (.t (.b (decide (f ∈ l))) false) := by
  refine ret_W rfl Tryz.func24 rfl rfl (by simp [Tryz.f24]) ?_
  simp only [Tryz.f24]
  have hs : l.length < 1099511627775 := h.1
  repeat' first|refine nx ?_|refine xb_miss (by decide) ?_|(apply W_reg;(simp [Ag];exact .r _))
  refine W_loop (n := l.length) (fun n s => ∃ i : Nat, n = l.length - i ∧ s.nt = 18 ∧ s.tm 0 = Ar l ∧ s.tm 3 = .ptr 0 0 ∧ s.tm 5 = In i ∧ i ≤ l.length ∧ s.σ.ob 0 = .box [In f.rel, Ar f.args] ∧ 1 ≤ s.σ.n ∧ (f ∈ l ↔ f ∈ l.drop i)) ⟨0, by simp⟩ ?_
  rintro n ⟨nt, tm, σ⟩ ⟨i, rfl, hnt, h0, h3, h5, hi, hb0, hn, heq⟩
  simp only at hnt h0 h3 h5 hb0 hn
  subst hnt
  have ap2_ := apart hn
  repeat' first|refine nx ?_|refine xb_miss (by decide) ?_|(apply W_reg;(simp [h0, h3, h5, hb0, hn, ap2_];exact .r _))
  refine W_cond (by simp [h0, h3, h5, hb0, hn, ap2_]; exact .r _) (fun hc => ?_) (fun hc => ?_)
  · have hil : i < l.length := by simpa using hc
    have c1 := cv (l5Same_r l[i] f (h.2 _ (List.getElem_mem hil)))
    simp only [Ag, cells_RA, List.map_cons, List.map_nil] at c1
    rw [List.drop_eq_getElem_cons hil, List.mem_cons] at heq
    repeat' first|refine nx ?_|refine xb_miss (by decide) ?_|(apply W_reg;(simp [h0, h3, h5, hb0, hn, ap2_, hil, c1];exact .r _))|(apply W_draw (id := 4) [0,0,3,7,0,31] rfl rfl; (· simp; exact .r _); (· simp [h0, h3, h5, hb0, hn, ap2_, hil, c1]; exact .r _); (· first|trivial|simp))
    refine W_cond (by simp [h0, h3, h5, hb0, hn, ap2_]; exact .r _) (fun hd => ?_) (fun hd => ?_)
    · have hd' : l[i] = f := by simpa using hd
      have : f ∈ l := heq.2 (.inl hd'.symm)
      repeat' first|refine nx ?_|refine xb_miss (by decide) ?_|(apply W_reg;(simp [h0, h3, h5, hb0, hn, ap2_];exact .r _))
      simp [this]
    · have hd' : ¬ l[i] = f := by simpa using hd
      repeat' first|refine nx ?_|refine xb_miss (by decide) ?_|(apply W_reg;(simp [h0, h3, h5, hb0, hn, ap2_];exact .r _))
      refine ⟨_, ?_, i + 1, rfl, rfl, ?_, ?_, ?_, by omega, ?_, ?_, (by rw [heq]; exact ⟨fun h => h.elim (fun e => absurd e.symm hd') id, .inr⟩)⟩
      all_goals first|assumption|(simp [h0, h3, h5, hb0, hn, ap2_];done)|(simp [h0, h3, h5, hb0, hn, ap2_];omega)|(simp [h0, h3, h5, hb0, hn, ap2_];exact wrap_succ (by omega))|omega
  · have hil : i = l.length := by simp at hc; omega
    subst hil
    rw [List.drop_length] at heq
    have : f ∉ l := fun h => by cases heq.1 h
    repeat' first|refine nx ?_|refine xb_miss (by decide) ?_|(apply W_reg;(simp [h0, h3, h5, hb0, hn, ap2_];exact .r _))
    simp [this]
/-- Without a fact. -/
def remF (l : List RA) (f : RA) : List RA := l.filter fun x => !decide (x = f)
def xRem (c : Sch) (l : List RA) (f : RA) : XV := if isDb c l && decide (f ∈ l) then .tup [.own 2 (rowsE (remF l f)), .t (.b true) false] else .tup [.own 2 (rowsE l), .t (.b false) false]
theorem remF_take (l : List RA) (f : RA) (i : Nat) (h : i < l.length) : remF (l.take (i + 1)) f = remF (l.take i) f ++ (if l[i] = f then [] else [l[i]]) := by
  rw [List.take_succ_eq_append_getElem h, remF, remF, List.filter_append]
  congr 1
  by_cases e : l[i] = f <;> simp [e]
theorem remF_len (l : List RA) (f : RA) : (remF l f).length ≤ l.length := List.length_filter_le _ _
theorem specRem_r (c : Sch) (l : List RA) (f : RA) (sc : Sm c.arity) (h : SmF l) (hf : Sm f.args) : Ret XX 9 [Ag c, Ar l, Ag f] (xRem c l f) := by
  refine ret_W rfl Tryz.func9 rfl rfl (by simp [Tryz.f9]) ?_
  simp only [Tryz.f9]
  have c1 := cv (specIsDb_r c l sc h.1 h.2)
  have c2 := cv (specHas_r l f h)
  have c3 := cv (l5All_r l h)
  have hs : l.length < 1099511627775 := h.1
  simp only [Ag, cells_Sch, cells_RA, List.map_cons, List.map_nil] at c1 c2
  cases e1 : isDb c l
  · repeat' first|refine nx ?_|refine xb_miss (by decide) ?_|(apply W_reg;(simp [Ag, c1, e1];exact .r _))
    refine W_cond (by simp; exact .r _) (fun hc => ?_) (fun hc => ?_)
    · repeat' first|refine nx ?_|refine xb_miss (by decide) ?_|(apply W_reg;(simp [c3];exact .r _))
      simp [xRem, e1]
    · cases hc
  by_cases e2 : f ∈ l
  case neg =>
    repeat' first|refine nx ?_|refine xb_miss (by decide) ?_|(apply W_reg;(simp [Ag, c1, e1, c2, e2];exact .r _))
    refine W_cond (by simp; exact .r _) (fun hc => ?_) (fun hc => ?_)
    · repeat' first|refine nx ?_|refine xb_miss (by decide) ?_|(apply W_reg;(simp [c3];exact .r _))
      simp [xRem, e2]
    · cases hc
  repeat' first|refine nx ?_|refine xb_miss (by decide) ?_|(apply W_reg;(simp [Ag, c1, e1, c2, e2];exact .r _))
  refine W_cond (by simp; exact .r _) (fun hc => ?_) (fun hc => ?_)
  · cases hc
  repeat' first|refine nx ?_|refine xb_miss (by decide) ?_|(apply W_reg;(simp;exact .r _))
  refine W_loop (n := l.length) (fun n s => ∃ i : Nat, ∃ R : List RA, n = l.length - i ∧ s.nt = 45 ∧ s.tm 1 = Ar l ∧ s.tm 5 = .ptr 1 0 ∧ s.tm 8 = .ref 2 R.length [] ∧ s.tm 9 = In i ∧ i ≤ l.length ∧ s.σ.ob 1 = .box [In f.rel, Ar f.args] ∧ s.σ.ob 2 = .arr (.own 0) 0 2 (rowsE R) ∧ 3 ≤ s.σ.n ∧ R = remF (l.take i) f) ⟨0, [], by simp [remF]⟩ ?_
  rintro n ⟨nt, tm, σ⟩ ⟨i, R, rfl, hnt, h1, h5, h8, h9, hi, hb1, ho, hn, hR⟩
  simp only at hnt h1 h5 h8 h9 hb1 ho hn
  subst hnt
  have ap3_ := apart hn
  have hRl : R.length ≤ i := by rw [hR]; have := remF_len (l.take i) f; rw [List.length_take] at this; omega
  repeat' first|refine nx ?_|refine xb_miss (by decide) ?_|(apply W_reg;(simp [h1, h5, h8, h9, hb1, ho, hn, ap3_];exact .r _))
  refine W_cond (by simp [h1, h5, h8, h9, hb1, ho, hn, ap3_]; exact .r _) (fun hc => ?_) (fun hc => ?_)
  · have hil : i < l.length := by simpa using hc
    have hsm := h.2 _ (List.getElem_mem hil)
    have c4 := cv (l5Same_r l[i] f hsm)
    have c5 := cv (l5Copy_r l[i] hsm)
    simp only [Ag, cells_RA, List.map_cons, List.map_nil] at c4 c5
    have ht := remF_take l f i hil
    rw [← hR] at ht
    by_cases e : l[i] = f
    · rw [if_pos e, List.append_nil] at ht
      repeat' first|refine nx ?_|refine xb_miss (by decide) ?_|(apply W_reg;(simp [h1, h5, h8, h9, hb1, ho, hn, ap3_, hil, c4, e];exact .r _))|(apply W_draw (id := 7) [0,0,3,7,0,31,63] rfl rfl; (· simp; exact .r _); (· simp [h1, h5, h8, h9, hb1, ho, hn, ap3_, hil, c4, e]; exact .r _); (· first|trivial|simp))
      refine W_cond (by simp [h1, h5, h8, h9, hb1, ho, hn, ap3_]; exact .r _) (fun hd => ?_) (fun hd => ?_)
      · cases hd
      repeat' first|refine nx ?_|refine xb_miss (by decide) ?_|(apply W_reg;(simp [h1, h5, h8, h9, hb1, ho, hn, ap3_];exact .r _))
      refine ⟨_, ?_, i + 1, R, rfl, rfl, ?_, ?_, ?_, ?_, by omega, ?_, ?_, ?_, ht.symm⟩
      all_goals first|assumption|(simp [h1, h5, h8, h9, hb1, ho, hn, ap3_];done)|(simp [h1, h5, h8, h9, hb1, ho, hn, ap3_];omega)|(simp [h1, h5, h8, h9, hb1, ho, hn, ap3_];exact wrap_succ (by omega))|omega
    · rw [if_neg e] at ht
      repeat' first|refine nx ?_|refine xb_miss (by decide) ?_|(apply W_reg;(simp [h1, h5, h8, h9, hb1, ho, hn, ap3_, hil, c4, e];exact .r _))|(apply W_draw (id := 7) [0,0,3,7,0,31,63] rfl rfl; (· simp; exact .r _); (· simp [h1, h5, h8, h9, hb1, ho, hn, ap3_, hil, c4, e]; exact .r _); (· first|trivial|simp))
      refine W_cond (by simp [h1, h5, h8, h9, hb1, ho, hn, ap3_]; exact .r _) (fun hd => ?_) (fun hd => ?_)
      · repeat' first|refine nx ?_|refine xb_miss (by decide) ?_|(apply W_reg;(simp [h1, h5, h8, h9, hb1, ho, hn, ap3_, hil, c5, show R.length + 1 < 1099511627776 by omega];exact .r _))
        refine ⟨_, ?_, i + 1, R ++ [l[i]], rfl, rfl, ?_, ?_, ?_, ?_, by omega, ?_, (by simp [h1, h5, h8, h9, hb1, ho, hn, ap3_, rowsE]), ?_, ht.symm⟩
        all_goals first|assumption|(simp [h1, h5, h8, h9, hb1, ho, hn, ap3_];done)|(simp [h1, h5, h8, h9, hb1, ho, hn, ap3_];omega)|(simp [h1, h5, h8, h9, hb1, ho, hn, ap3_];exact wrap_succ (by omega))|omega
      · cases hd
  · have hil : i = l.length := by simp at hc; omega
    subst hil
    rw [List.take_length] at hR
    subst hR
    repeat' first|refine nx ?_|refine xb_miss (by decide) ?_|(apply W_reg;(simp [h1, h5, h8, h9, hb1, ho, hn, ap3_];exact .r _))
    simp [xRem, e1, e2, ho]
end Go.Proofs.YtpdpgfagklhpaaaGreat.V

namespace Go.Proofs.YtpdpgfagklhpaaaGreat.V
open Go Go.Proofs
set_option linter.unusedVariables false
set_option linter.unusedSimpArgs false
def putF (f : RA) : Bool → List RA → List RA
  | d, [] => if d then [] else [f]
  | true, x :: l => x :: putF f true l
  | false, x :: l => if cmpF x f < 0 then x :: putF f false l else if x = f then x :: putF f true l else f :: x :: putF f true l
theorem putF_t (f : RA) : ∀ l, putF f true l = l
  | [] => rfl
  | x :: l => by rw [putF, putF_t f l]
theorem l5Put_r (l : List RA) (f : RA) (h : SmF l) (hf : Sm f.args) : Ret XX 77 [Ar l, Ag f] (.own 2 (rowsE (putF f false l))) := by
  refine ret_W rfl Tryz.func77 rfl rfl (by simp [Tryz.f77]) ?_
  simp only [Tryz.f77]
  have hs : l.length < 1099511627775 := h.1
  have c5 := cv (l5Copy_r f hf)
  simp only [Ag, cells_RA, List.map_cons, List.map_nil] at c5
  repeat' first|refine nx ?_|refine xb_miss (by decide) ?_|(apply W_reg;(simp [Ag];exact .r _))|(apply W_draw (id := 6) [0,1,3,7,7,31,63,7,255,511,1023] rfl rfl; (· simp; exact .r _); (· simp [Ag]; exact .r _); (· first|trivial|simp))|(apply W_draw (id := 8) [0,0,3,7,0,31,63] rfl rfl; (· simp; exact .r _); (· simp [Ag]; exact .r _); (· first|trivial|simp))
  refine W_loop (n := l.length) (fun n s => ∃ i : Nat, ∃ d : Bool, ∃ R : List RA, n = l.length - i ∧ s.nt = 54 ∧ s.tm 0 = Ar l ∧ s.tm 3 = .ptr 0 0 ∧ s.tm 5 = .ref 1 R.length [] ∧ s.tm 6 = Bo d ∧ s.tm 7 = In i ∧ i ≤ l.length ∧ s.σ.ob 0 = .box [In f.rel, Ar f.args] ∧ s.σ.ob 1 = .arr (.own 0) 0 2 (rowsE R) ∧ 2 ≤ s.σ.n ∧ putF f false l = R ++ putF f d (l.drop i) ∧ R.length ≤ i + 1 ∧ (d = false → R.length ≤ i)) ⟨0, false, [], by simp⟩ ?_
  rintro n ⟨nt, tm, σ⟩ ⟨i, d, R, rfl, hnt, h0, h3, h5, h6, h7, hi, hb0, ho, hn, hR, hRl, hRd⟩
  simp only at hnt h0 h3 h5 h6 h7 hb0 ho hn
  subst hnt
  have ap1_ := apart hn
  repeat' first|refine nx ?_|refine xb_miss (by decide) ?_|(apply W_reg;(simp [h0, h3, h5, h6, h7, hb0, ho, hn, ap1_];exact .r _))|(apply W_draw (id := 6) [0,1,3,7,7,31,63,7,255,511,1023] rfl rfl; (· simp; exact .r _); (· simp [h0, h3, h5, h6, h7, hb0, ho, hn, ap1_]; exact .r _); (· first|trivial|simp))|(apply W_draw (id := 8) [0,0,3,7,0,31,63] rfl rfl; (· simp; exact .r _); (· simp [h0, h3, h5, h6, h7, hb0, ho, hn, ap1_]; exact .r _); (· first|trivial|simp))
  refine W_cond (by simp [h0, h3, h5, h6, h7, hb0, ho, hn, ap1_]; exact .r _) (fun hc => ?_) (fun hc => ?_)
  · have hil : i < l.length := by simpa using hc
    have hsm := h.2 _ (List.getElem_mem hil)
    have c1 := cv (l5Less_r l[i] f hsm)
    have c2 := cv (l5Same_r l[i] f hsm)
    have c3 := cv (l5Copy_r l[i] hsm)
    simp only [Ag, cells_RA, List.map_cons, List.map_nil] at c1 c2 c3
    rw [List.drop_eq_getElem_cons hil] at hR
    cases d
    case true =>
      rw [putF] at hR
      repeat' first|refine nx ?_|refine xb_miss (by decide) ?_|(apply W_reg;(simp [h0, h3, h5, h6, h7, hb0, ho, hn, ap1_, hil];exact .r _))|(apply W_draw (id := 6) [0,1,3,7,7,31,63,7,255,511,1023] rfl rfl; (· simp; exact .r _); (· simp [h0, h3, h5, h6, h7, hb0, ho, hn, ap1_, hil]; exact .r _); (· first|trivial|simp))|(apply W_draw (id := 8) [0,0,3,7,0,31,63] rfl rfl; (· simp; exact .r _); (· simp [h0, h3, h5, h6, h7, hb0, ho, hn, ap1_, hil]; exact .r _); (· first|trivial|simp))
      refine W_cond (by simp [h0, h3, h5, h6, h7, hb0, ho, hn, ap1_]; exact .r _) (fun hd => ?_) (fun hd => ?_)
      · cases hd
      repeat' first|refine nx ?_|refine xb_miss (by decide) ?_|(apply W_reg;(simp [h0, h3, h5, h6, h7, hb0, ho, hn, ap1_, hil, c3, show R.length + 1 < 1099511627776 by omega];exact .r _))|(apply W_draw (id := 6) [0,1,3,7,7,31,63,7,255,511,1023] rfl rfl; (· simp; exact .r _); (· simp [h0, h3, h5, h6, h7, hb0, ho, hn, ap1_, hil, c3, show R.length + 1 < 1099511627776 by omega]; exact .r _); (· first|trivial|simp))|(apply W_draw (id := 8) [0,0,3,7,0,31,63] rfl rfl; (· simp; exact .r _); (· simp [h0, h3, h5, h6, h7, hb0, ho, hn, ap1_, hil, c3, show R.length + 1 < 1099511627776 by omega]; exact .r _); (· first|trivial|simp))
      refine ⟨_, ?_, i + 1, true, R ++ [l[i]], rfl, rfl, ?_, ?_, ?_, ?_, ?_, by omega, ?_, (by simp [h0, h3, h5, h6, h7, hb0, ho, hn, ap1_, rowsE]), ?_, (by rw [hR]; simp), (by simp; omega), (fun h => by cases h)⟩
      all_goals first|assumption|(simp [h0, h3, h5, h6, h7, hb0, ho, hn, ap1_];done)|(simp [h0, h3, h5, h6, h7, hb0, ho, hn, ap1_];omega)|(simp [h0, h3, h5, h6, h7, hb0, ho, hn, ap1_];exact wrap_succ (by omega))|omega
    have hRd' := hRd rfl
    by_cases e1 : cmpF l[i] f < 0
    · rw [putF, if_pos e1] at hR
      repeat' first|refine nx ?_|refine xb_miss (by decide) ?_|(apply W_reg;(simp [h0, h3, h5, h6, h7, hb0, ho, hn, ap1_, hil, c1, e1];exact .r _))|(apply W_draw (id := 6) [0,1,3,7,7,31,63,7,255,511,1023] rfl rfl; (· simp; exact .r _); (· simp [h0, h3, h5, h6, h7, hb0, ho, hn, ap1_, hil, c1, e1]; exact .r _); (· first|trivial|simp))|(apply W_draw (id := 8) [0,0,3,7,0,31,63] rfl rfl; (· simp; exact .r _); (· simp [h0, h3, h5, h6, h7, hb0, ho, hn, ap1_, hil, c1, e1]; exact .r _); (· first|trivial|simp))
      refine W_cond (by simp [h0, h3, h5, h6, h7, hb0, ho, hn, ap1_]; exact .r _) (fun hd => ?_) (fun hd => ?_)
      · cases hd
      repeat' first|refine nx ?_|refine xb_miss (by decide) ?_|(apply W_reg;(simp [h0, h3, h5, h6, h7, hb0, ho, hn, ap1_, hil, c3, show R.length + 1 < 1099511627776 by omega];exact .r _))|(apply W_draw (id := 6) [0,1,3,7,7,31,63,7,255,511,1023] rfl rfl; (· simp; exact .r _); (· simp [h0, h3, h5, h6, h7, hb0, ho, hn, ap1_, hil, c3, show R.length + 1 < 1099511627776 by omega]; exact .r _); (· first|trivial|simp))|(apply W_draw (id := 8) [0,0,3,7,0,31,63] rfl rfl; (· simp; exact .r _); (· simp [h0, h3, h5, h6, h7, hb0, ho, hn, ap1_, hil, c3, show R.length + 1 < 1099511627776 by omega]; exact .r _); (· first|trivial|simp))
      refine ⟨_, ?_, i + 1, false, R ++ [l[i]], rfl, rfl, ?_, ?_, ?_, ?_, ?_, by omega, ?_, (by simp [h0, h3, h5, h6, h7, hb0, ho, hn, ap1_, rowsE]), ?_, (by rw [hR]; simp), (by simp; omega), (fun h => by simp; omega)⟩
      all_goals first|assumption|(simp [h0, h3, h5, h6, h7, hb0, ho, hn, ap1_];done)|(simp [h0, h3, h5, h6, h7, hb0, ho, hn, ap1_];omega)|(simp [h0, h3, h5, h6, h7, hb0, ho, hn, ap1_];exact wrap_succ (by omega))|omega
    by_cases e2 : l[i] = f
    · rw [putF, if_neg e1, if_pos e2] at hR
      repeat' first|refine nx ?_|refine xb_miss (by decide) ?_|(apply W_reg;(simp [h0, h3, h5, h6, h7, hb0, ho, hn, ap1_, hil, c1, e1];exact .r _))|(apply W_draw (id := 6) [0,1,3,7,7,31,63,7,255,511,1023] rfl rfl; (· simp; exact .r _); (· simp [h0, h3, h5, h6, h7, hb0, ho, hn, ap1_, hil, c1, e1]; exact .r _); (· first|trivial|simp))|(apply W_draw (id := 8) [0,0,3,7,0,31,63] rfl rfl; (· simp; exact .r _); (· simp [h0, h3, h5, h6, h7, hb0, ho, hn, ap1_, hil, c1, e1]; exact .r _); (· first|trivial|simp))
      refine W_cond (by simp [h0, h3, h5, h6, h7, hb0, ho, hn, ap1_]; exact .r _) (fun hd => ?_) (fun hd => ?_)
      · repeat' first|refine nx ?_|refine xb_miss (by decide) ?_|(apply W_reg;(simp [h0, h3, h5, h6, h7, hb0, ho, hn, ap1_, hil, c2, e2];exact .r _))|(apply W_draw (id := 6) [0,1,3,7,7,31,63,7,255,511,1023] rfl rfl; (· simp; exact .r _); (· simp [h0, h3, h5, h6, h7, hb0, ho, hn, ap1_, hil, c2, e2]; exact .r _); (· first|trivial|simp))|(apply W_draw (id := 8) [0,0,3,7,0,31,63] rfl rfl; (· simp; exact .r _); (· simp [h0, h3, h5, h6, h7, hb0, ho, hn, ap1_, hil, c2, e2]; exact .r _); (· first|trivial|simp))
        refine W_cond (by simp [h0, h3, h5, h6, h7, hb0, ho, hn, ap1_]; exact .r _) (fun hd2 => ?_) (fun hd2 => ?_)
        · cases hd2
        rw [← e2] at c5
        repeat' first|refine nx ?_|refine xb_miss (by decide) ?_|(apply W_reg;(simp [h0, h3, h5, h6, h7, hb0, ho, hn, ap1_, hil, c3, show R.length + 1 < 1099511627776 by omega];exact .r _))|(apply W_draw (id := 6) [0,1,3,7,7,31,63,7,255,511,1023] rfl rfl; (· simp; exact .r _); (· simp [h0, h3, h5, h6, h7, hb0, ho, hn, ap1_, hil, c3, show R.length + 1 < 1099511627776 by omega]; exact .r _); (· first|trivial|simp))|(apply W_draw (id := 8) [0,0,3,7,0,31,63] rfl rfl; (· simp; exact .r _); (· simp [h0, h3, h5, h6, h7, hb0, ho, hn, ap1_, hil, c3, show R.length + 1 < 1099511627776 by omega]; exact .r _); (· first|trivial|simp))
        refine ⟨_, ?_, i + 1, true, R ++ [l[i]], rfl, rfl, ?_, ?_, ?_, ?_, ?_, by omega, ?_, (by simp [h0, h3, h5, h6, h7, hb0, ho, hn, ap1_, rowsE]), ?_, (by rw [hR]; simp), (by simp; omega), (fun h => by cases h)⟩
        all_goals first|assumption|(simp [h0, h3, h5, h6, h7, hb0, ho, hn, ap1_];done)|(simp [h0, h3, h5, h6, h7, hb0, ho, hn, ap1_];omega)|(simp [h0, h3, h5, h6, h7, hb0, ho, hn, ap1_];exact wrap_succ (by omega))|omega
      · cases hd
    · rw [putF, if_neg e1, if_neg e2] at hR
      repeat' first|refine nx ?_|refine xb_miss (by decide) ?_|(apply W_reg;(simp [h0, h3, h5, h6, h7, hb0, ho, hn, ap1_, hil, c1, e1];exact .r _))|(apply W_draw (id := 6) [0,1,3,7,7,31,63,7,255,511,1023] rfl rfl; (· simp; exact .r _); (· simp [h0, h3, h5, h6, h7, hb0, ho, hn, ap1_, hil, c1, e1]; exact .r _); (· first|trivial|simp))|(apply W_draw (id := 8) [0,0,3,7,0,31,63] rfl rfl; (· simp; exact .r _); (· simp [h0, h3, h5, h6, h7, hb0, ho, hn, ap1_, hil, c1, e1]; exact .r _); (· first|trivial|simp))
      refine W_cond (by simp [h0, h3, h5, h6, h7, hb0, ho, hn, ap1_]; exact .r _) (fun hd => ?_) (fun hd => ?_)
      · repeat' first|refine nx ?_|refine xb_miss (by decide) ?_|(apply W_reg;(simp [h0, h3, h5, h6, h7, hb0, ho, hn, ap1_, hil, c2, e2];exact .r _))|(apply W_draw (id := 6) [0,1,3,7,7,31,63,7,255,511,1023] rfl rfl; (· simp; exact .r _); (· simp [h0, h3, h5, h6, h7, hb0, ho, hn, ap1_, hil, c2, e2]; exact .r _); (· first|trivial|simp))|(apply W_draw (id := 8) [0,0,3,7,0,31,63] rfl rfl; (· simp; exact .r _); (· simp [h0, h3, h5, h6, h7, hb0, ho, hn, ap1_, hil, c2, e2]; exact .r _); (· first|trivial|simp))
        refine W_cond (by simp [h0, h3, h5, h6, h7, hb0, ho, hn, ap1_]; exact .r _) (fun hd2 => ?_) (fun hd2 => ?_)
        · repeat' first|refine nx ?_|refine xb_miss (by decide) ?_|(apply W_reg;(simp [h0, h3, h5, h6, h7, hb0, ho, hn, ap1_, hil, c5, c3, show R.length + 1 < 1099511627776 by omega, show R.length + 1 + 1 < 1099511627776 by omega];exact .r _))|(apply W_draw (id := 6) [0,1,3,7,7,31,63,7,255,511,1023] rfl rfl; (· simp; exact .r _); (· simp [h0, h3, h5, h6, h7, hb0, ho, hn, ap1_, hil, c5, c3, show R.length + 1 < 1099511627776 by omega, show R.length + 1 + 1 < 1099511627776 by omega]; exact .r _); (· first|trivial|simp))|(apply W_draw (id := 8) [0,0,3,7,0,31,63] rfl rfl; (· simp; exact .r _); (· simp [h0, h3, h5, h6, h7, hb0, ho, hn, ap1_, hil, c5, c3, show R.length + 1 < 1099511627776 by omega, show R.length + 1 + 1 < 1099511627776 by omega]; exact .r _); (· first|trivial|simp))
          refine ⟨_, ?_, i + 1, true, R ++ [f, l[i]], rfl, rfl, ?_, ?_, ?_, ?_, ?_, by omega, ?_, (by simp [h0, h3, h5, h6, h7, hb0, ho, hn, ap1_, rowsE]), ?_, (by rw [hR]; simp), (by simp; omega), (fun h => by cases h)⟩
          all_goals first|assumption|(simp [h0, h3, h5, h6, h7, hb0, ho, hn, ap1_];done)|(simp [h0, h3, h5, h6, h7, hb0, ho, hn, ap1_];omega)|(simp [h0, h3, h5, h6, h7, hb0, ho, hn, ap1_];exact wrap_succ (by omega))|omega
        · cases hd2
      · cases hd
  · have hil : i = l.length := by simp at hc; omega
    subst hil
    rw [List.drop_length] at hR
    cases d
    · have hRd' := hRd rfl
      repeat' first|refine nx ?_|refine xb_miss (by decide) ?_|(apply W_reg;(simp [h0, h3, h5, h6, h7, hb0, ho, hn, ap1_];exact .r _))|(apply W_draw (id := 6) [0,1,3,7,7,31,63,7,255,511,1023] rfl rfl; (· simp; exact .r _); (· simp [h0, h3, h5, h6, h7, hb0, ho, hn, ap1_]; exact .r _); (· first|trivial|simp))|(apply W_draw (id := 8) [0,0,3,7,0,31,63] rfl rfl; (· simp; exact .r _); (· simp [h0, h3, h5, h6, h7, hb0, ho, hn, ap1_]; exact .r _); (· first|trivial|simp))
      refine W_cond (by simp [h0, h3, h5, h6, h7, hb0, ho, hn, ap1_]; exact .r _) (fun hd => ?_) (fun hd => ?_)
      · repeat' first|refine nx ?_|refine xb_miss (by decide) ?_|(apply W_reg;(simp [h0, h3, h5, h6, h7, hb0, ho, hn, ap1_, c5, show R.length + 1 < 1099511627776 by omega];exact .r _))|(apply W_draw (id := 6) [0,1,3,7,7,31,63,7,255,511,1023] rfl rfl; (· simp; exact .r _); (· simp [h0, h3, h5, h6, h7, hb0, ho, hn, ap1_, c5, show R.length + 1 < 1099511627776 by omega]; exact .r _); (· first|trivial|simp))|(apply W_draw (id := 8) [0,0,3,7,0,31,63] rfl rfl; (· simp; exact .r _); (· simp [h0, h3, h5, h6, h7, hb0, ho, hn, ap1_, c5, show R.length + 1 < 1099511627776 by omega]; exact .r _); (· first|trivial|simp))
        rw [hR]
        simp [ho, putF, rowsE]
      · cases hd
    · repeat' first|refine nx ?_|refine xb_miss (by decide) ?_|(apply W_reg;(simp [h0, h3, h5, h6, h7, hb0, ho, hn, ap1_];exact .r _))|(apply W_draw (id := 6) [0,1,3,7,7,31,63,7,255,511,1023] rfl rfl; (· simp; exact .r _); (· simp [h0, h3, h5, h6, h7, hb0, ho, hn, ap1_]; exact .r _); (· first|trivial|simp))|(apply W_draw (id := 8) [0,0,3,7,0,31,63] rfl rfl; (· simp; exact .r _); (· simp [h0, h3, h5, h6, h7, hb0, ho, hn, ap1_]; exact .r _); (· first|trivial|simp))
      refine W_cond (by simp [h0, h3, h5, h6, h7, hb0, ho, hn, ap1_]; exact .r _) (fun hd => ?_) (fun hd => ?_)
      · cases hd
      repeat' first|refine nx ?_|refine xb_miss (by decide) ?_|(apply W_reg;(simp [h0, h3, h5, h6, h7, hb0, ho, hn, ap1_];exact .r _))|(apply W_draw (id := 6) [0,1,3,7,7,31,63,7,255,511,1023] rfl rfl; (· simp; exact .r _); (· simp [h0, h3, h5, h6, h7, hb0, ho, hn, ap1_]; exact .r _); (· first|trivial|simp))|(apply W_draw (id := 8) [0,0,3,7,0,31,63] rfl rfl; (· simp; exact .r _); (· simp [h0, h3, h5, h6, h7, hb0, ho, hn, ap1_]; exact .r _); (· first|trivial|simp))
      rw [hR]
      simp [ho, putF]
end Go.Proofs.YtpdpgfagklhpaaaGreat.V

namespace Go.Proofs.YtpdpgfagklhpaaaGreat.V
open Go Go.Proofs
set_option linter.unusedVariables false
set_option linter.unusedSimpArgs false
/-- A schema whose facts can be drawn. -/
def Dr (c : Sch) : Prop := 1 ≤ c.arity.length ∧ c.arity.length ≤ 5 ∧ ∀ n ∈ c.arity, 1 ≤ n ∧ n ≤ 3
theorem dr_sch {c : Sch} (h : isSch c = true) : Dr c := by
  simp only [isSch, Bool.and_eq_true, List.all_eq_true, inR, decide_eq_true_eq] at h
  exact ⟨by omega, by omega, h.1⟩
theorem dr_21 : Dr ⟨[2, 1]⟩ := ⟨by simp, by simp, fun n hn => by simp at hn; omega⟩
theorem l3Schema_p (b : List By) (i : Nat) (h : Int) (hb : Sm b) (hi : i ≤ b.length) : ∃ x cs', ((∃ ar : List Int, ar.length ≤ 3 ∧ Dr ⟨ar⟩ ∧ x = .agg [.own 1 (rowsE ar)]) ∧ CQ b cs') ∧ RetP XX 14 (CU b i h) [] x cs' := by
  refine ret_PW rfl Tryz.func14 rfl rfl (by simp [Tryz.f14]) ?_
  simp only [Tryz.f14]
  obtain ⟨x, cs', ⟨⟨k, hk, rfl⟩, i1, w1, hi1, rfl⟩, hr⟩ := l1Below_p b i h 3 hb hi (by omega)
  have c1 := cvP hr
  simp only [CU, List.map_cons, List.map_nil] at c1 ⊢
  have hk3 := hk.2.1 (by omega)
  repeat' first|refine nx ?_|refine xb_miss (by decide) ?_|(apply W_reg;(simp [c1, flatR];exact .r _))
  refine W_loop (n := (k.toNat * 2)) (fun n s => ∃ m : Nat, ∃ i : Nat, ∃ w : Int, ∃ A : List Int, n = m * 2 ∧ s.nt = 24 ∧ s.tm 0 = .ptr 0 0 ∧ s.tm 2 = .ptr 1 0 ∧ s.tm 3 = .ptr 3 0 ∧ s.tm 4 = In m ∧ i ≤ b.length ∧ s.σ.ob 0 = .box [Ar b, In i, In w] ∧ s.σ.ob 1 = .box [.t .nl] ∧ s.σ.ob 2 = .arr (.own 0) 0 1 (rowsE A) ∧ s.σ.ob 3 = .box [.ref 2 A.length []] ∧ 4 ≤ s.σ.n ∧ A.length + m ≤ 3 ∧ 1 ≤ A.length ∧ (∀ n ∈ A, 1 ≤ n ∧ n ≤ 3)) ⟨k.toNat, i1, w1, [2], by (simp; exact ⟨by omega, hi1, rfl, by omega⟩)⟩ ?_
  rintro n ⟨nt, tm, σ⟩ ⟨m, i, w, A, rfl, hnt, h0, h2, h3, h4, hi, hb0, hb1, hb2, hb3, hn, hA, hA1, hAn⟩
  simp only at hnt h0 h2 h3 h4 hb0 hb1 hb2 hb3 hn
  subst hnt
  have ap1_ := apart hn
  repeat' first|refine nx ?_|refine xb_miss (by decide) ?_|(apply W_reg;(simp [h0, h2, h3, h4, hb0, hb1, hb2, hb3, hn, ap1_];exact .r _))
  refine W_cond (by simp [h0, h2, h3, h4, hb0, hb1, hb2, hb3, hn, ap1_]; exact .r _) (fun hc => ?_) (fun hc => ?_)
  · have hm : 0 < m := by simpa using hc
    obtain ⟨x, cs', ⟨⟨k, hk, rfl⟩, i2, w2, hi2, rfl⟩, hr⟩ := l1Below_p b i w 3 hb hi (by omega)
    have c2 := cvP hr
    simp only [CU, List.map_cons, List.map_nil] at c2
    have hAb : A.length + 1 < 1099511627776 := by omega
    have hk2 := hk.1
    have hk3 := hk.2.1 (by omega)
    have wr2_ : IntKind.i64.wrap (1 + k) = 1 + k := wrap_ok (by omega) (by omega)
    have wr3_ : IntKind.i64.wrap ((m : Int) - 1) = (m : Int) - 1 := wrap_ok (by omega) (by omega)
    repeat' first|refine nx ?_|refine xb_miss (by decide) ?_|(apply W_reg;(simp [h0, h2, h3, h4, hb0, hb1, hb2, hb3, hn, ap1_, wr2_, wr3_, c2, hAb, flatR];exact .r _))
    refine ⟨_, ?_, m - 1, i2, w2, A ++ [1 + k], rfl, rfl, ?_, ?_, ?_, (by simp [h0, h2, h3, h4, hb0, hb1, hb2, hb3, hn, ap1_, wr2_, wr3_]; omega), ?_, ?_, ?_, (by simp [h0, h2, h3, h4, hb0, hb1, hb2, hb3, hn, ap1_, wr2_, wr3_, rowsE]), ?_, ?_, (by simp; omega), (by simp), (fun n g => by (rcases List.mem_append.1 g with g | g; (exact hAn n g); (rw [List.mem_singleton] at g; omega)))⟩
    all_goals first|assumption|(simp [h0, h2, h3, h4, hb0, hb1, hb2, hb3, hn, ap1_, wr2_, wr3_];done)|(simp [h0, h2, h3, h4, hb0, hb1, hb2, hb3, hn, ap1_, wr2_, wr3_];omega)|(simp [h0, h2, h3, h4, hb0, hb1, hb2, hb3, hn, ap1_, wr2_, wr3_];exact wrap_succ (by omega))|omega
  · have hm : m = 0 := by simpa using hc
    subst hm
    repeat' first|refine nx ?_|refine xb_miss (by decide) ?_|(apply W_reg;(simp [h0, h2, h3, h4, hb0, hb1, hb2, hb3, hn, ap1_];exact .r _))
    exact EndsP.mk (cs' := CU b i w) (x := .agg [.own 1 (rowsE A)]) (v := .agg [.ref 2 A.length []]) (by simp [h0, h2, h3, h4, hb0, hb1, hb2, hb3, hn, ap1_]) (by simp [h0, h2, h3, h4, hb0, hb1, hb2, hb3, hn, ap1_]) (by simp [h0, h2, h3, h4, hb0, hb1, hb2, hb3, hn, ap1_]) ⟨⟨A, by omega, ⟨hA1, by simp only; omega, hAn⟩, rfl⟩, i, w, hi, rfl⟩
theorem l3Any_p (b : List By) (i : Nat) (h : Int) (hb : Sm b) (hi : i ≤ b.length) : ∃ x cs', ((∃ ar : List Int, ar.length ≤ 5 ∧ (x = .agg [.own 1 (rowsE ar)] ∨ (x = .agg [.t .nl false] ∧ ar = []))) ∧ CQ b cs') ∧ RetP XX 52 (CU b i h) [] x cs' := by
  refine ret_PW rfl Tryz.func52 rfl rfl (by simp [Tryz.f52]) ?_
  simp only [Tryz.f52]
  obtain ⟨x, cs', ⟨⟨A, hA, hAD, rfl⟩, i1, w1, hi1, rfl⟩, hr1⟩ := l3Schema_p b i h hb hi
  have c1 := cvP0 hr1
  obtain ⟨x, cs', ⟨⟨k, hk, rfl⟩, i2, w2, hi2, rfl⟩, hr2⟩ := l1Below_p b i1 w1 10 hb hi1 (by omega)
  have c2 := cvP hr2
  obtain ⟨x, cs', ⟨⟨y, hy, rfl⟩, i3, w3, hi3, rfl⟩, hr3⟩ := l1PickInt_p b i2 w2 [0, 3, 4] hb hi2 (by simp)
  have c3 := cvP hr3
  simp only [CU, List.map_cons, List.map_nil] at c1 c2 c3 ⊢
  have hAb : A.length + 1 < 1099511627776 := by omega
  by_cases k0 : k = 0
  · repeat' first|refine nx ?_|refine xb_miss (by decide) ?_|(apply W_reg;(simp [c1, c2, k0];exact .r _))|(apply W_draw (id := 4) [0,1,0,0,12,28,63,127,255] rfl rfl; (· simp; exact .r _); (· simp [c1, c2, k0]; exact .r _); (· first|trivial|simp))
    refine W_cond (by simp; exact .r _) (fun hc => ?_) (fun hc => ?_)
    · rw [show Ar ([0, 3, 4] : List Int) = .t (.sl [[.i .i64 0], [.i .i64 3], [.i .i64 4]]) from rfl] at c3
      have hr3n : ([0, 1, 2] : List Nat) = List.range 3 := rfl
      repeat' first|refine nx ?_|refine xb_miss (by decide) ?_|(apply W_reg;(simp [c3, hAb, flatR, hr3n];exact .r _))|(apply W_draw (id := 4) [0,1,0,0,12,28,63,127,255] rfl rfl; (· simp; exact .r _); (· simp [c3, hAb, flatR, hr3n]; exact .r _); (· first|trivial|simp))
      exact EndsP.mk (cs' := CU b i3 w3) (x := .agg [.own 1 (rowsE (A ++ [y]))]) (v := .agg [.ref 2 (A.length + 1) []]) (by simp) (by simp) (by simp [rowsE]) ⟨⟨A ++ [y], by simp; omega, .inl rfl⟩, i3, w3, hi3, rfl⟩
    · simp at hc
  by_cases k1 : k = 1
  · subst k1
    repeat' first|refine nx ?_|refine xb_miss (by decide) ?_|(apply W_reg;(simp [c1, c2];exact .r _))|(apply W_draw (id := 4) [0,1,0,0,12,28,63,127,255] rfl rfl; (· simp; exact .r _); (· simp [c1, c2]; exact .r _); (· first|trivial|simp))
    refine W_cond (by simp; exact .r _) (fun hc => ?_) (fun hc => ?_)
    · simp at hc
    repeat' first|refine nx ?_|refine xb_miss (by decide) ?_|(apply W_reg;(simp;exact .r _))|(apply W_draw (id := 4) [0,1,0,0,12,28,63,127,255] rfl rfl; (· simp; exact .r _); (· simp; exact .r _); (· first|trivial|simp))
    refine W_cond (by simp; exact .r _) (fun hc => ?_) (fun hc => ?_)
    · repeat' first|refine nx ?_|refine xb_miss (by decide) ?_|(apply W_reg;(simp;exact .r _))|(apply W_draw (id := 4) [0,1,0,0,12,28,63,127,255] rfl rfl; (· simp; exact .r _); (· simp; exact .r _); (· first|trivial|simp))
      exact EndsP.mk (cs' := CU b i2 w2) (x := .agg [.t .nl false]) (v := .agg [.t .nl]) (by simp) (by simp) (by simp [rowsE]) ⟨⟨[], by simp, .inr ⟨rfl, rfl⟩⟩, i2, w2, hi2, rfl⟩
    · simp at hc
  by_cases k2 : k = 2
  · subst k2
    have hr5 : ([0, 1, 2, 3, 4] : List Nat) = List.range 5 := rfl
    repeat' first|refine nx ?_|refine xb_miss (by decide) ?_|(apply W_reg;(simp [c1, c2];exact .r _))|(apply W_draw (id := 4) [0,1,0,0,12,28,63,127,255] rfl rfl; (· simp; exact .r _); (· simp [c1, c2]; exact .r _); (· first|trivial|simp))
    refine W_cond (by simp; exact .r _) (fun hc => ?_) (fun hc => ?_)
    · simp at hc
    repeat' first|refine nx ?_|refine xb_miss (by decide) ?_|(apply W_reg;(simp;exact .r _))|(apply W_draw (id := 4) [0,1,0,0,12,28,63,127,255] rfl rfl; (· simp; exact .r _); (· simp; exact .r _); (· first|trivial|simp))
    refine W_cond (by simp; exact .r _) (fun hc => ?_) (fun hc => ?_)
    · simp at hc
    repeat' first|refine nx ?_|refine xb_miss (by decide) ?_|(apply W_reg;(simp;exact .r _))|(apply W_draw (id := 4) [0,1,0,0,12,28,63,127,255] rfl rfl; (· simp; exact .r _); (· simp; exact .r _); (· first|trivial|simp))
    refine W_cond (by simp; exact .r _) (fun hc => ?_) (fun hc => ?_)
    · repeat' first|refine nx ?_|refine xb_miss (by decide) ?_|(apply W_reg;(simp [hr5];exact .r _))|(apply W_draw (id := 4) [0,1,0,0,12,28,63,127,255] rfl rfl; (· simp; exact .r _); (· simp [hr5]; exact .r _); (· first|trivial|simp))
      exact EndsP.mk (cs' := CU b i2 w2) (x := .agg [.own 1 (rowsE ([1, 2, 3, 1, 2] : List Int))]) (v := .agg [.ref 4 5 []]) (by simp) (by simp) (by simp [rowsE]) ⟨⟨[1, 2, 3, 1, 2], by simp, .inl rfl⟩, i2, w2, hi2, rfl⟩
    · simp at hc
  repeat' first|refine nx ?_|refine xb_miss (by decide) ?_|(apply W_reg;(simp [c1, c2, k0, k1, k2];exact .r _))|(apply W_draw (id := 4) [0,1,0,0,12,28,63,127,255] rfl rfl; (· simp; exact .r _); (· simp [c1, c2, k0, k1, k2]; exact .r _); (· first|trivial|simp))
  refine W_cond (by simp; exact .r _) (fun hc => ?_) (fun hc => ?_)
  · simp at hc
  repeat' first|refine nx ?_|refine xb_miss (by decide) ?_|(apply W_reg;(simp [k1, k2];exact .r _))|(apply W_draw (id := 4) [0,1,0,0,12,28,63,127,255] rfl rfl; (· simp; exact .r _); (· simp [k1, k2]; exact .r _); (· first|trivial|simp))
  refine W_cond (by simp; exact .r _) (fun hc => ?_) (fun hc => ?_)
  · simp at hc
  repeat' first|refine nx ?_|refine xb_miss (by decide) ?_|(apply W_reg;(simp [k2];exact .r _))|(apply W_draw (id := 4) [0,1,0,0,12,28,63,127,255] rfl rfl; (· simp; exact .r _); (· simp [k2]; exact .r _); (· first|trivial|simp))
  refine W_cond (by simp; exact .r _) (fun hc => ?_) (fun hc => ?_)
  · simp at hc
  repeat' first|refine nx ?_|refine xb_miss (by decide) ?_|(apply W_reg;(simp;exact .r _))|(apply W_draw (id := 4) [0,1,0,0,12,28,63,127,255] rfl rfl; (· simp; exact .r _); (· simp; exact .r _); (· first|trivial|simp))
  exact EndsP.mk (cs' := CU b i2 w2) (x := .agg [.own 1 (rowsE A)]) (v := .agg [.ref 2 A.length []]) (by simp) (by simp) (by simp [rowsE]) ⟨⟨A, by omega, .inl rfl⟩, i2, w2, hi2, rfl⟩
theorem l4Safe_r (c : Sch) (sc : Sm c.arity) : Ret XX 44 [Ag c] (if isSch c then .agg [.t (.sl (rowsE c.arity)) true] else .agg [.own 1 (rowsE ([2, 1] : List Int))]) := by
  refine ret_W rfl Tryz.func44 rfl rfl (by simp [Tryz.f44]) ?_
  simp only [Tryz.f44]
  have c1 := cv (specIsSchema_r c sc)
  simp only [Ag, cells_Sch, List.map_cons, List.map_nil] at c1
  have hr2 : ([0, 1] : List Nat) = List.range 2 := rfl
  cases e : isSch c
  · repeat' first|refine nx ?_|refine xb_miss (by decide) ?_|(apply W_reg;(simp [Ag, c1, e];exact .r _))
    refine W_cond (by simp; exact .r _) (fun hc => ?_) (fun hc => ?_)
    · repeat' first|refine nx ?_|refine xb_miss (by decide) ?_|(apply W_reg;(simp [hr2];exact .r _))
      simp [rowsE]
    · cases hc
  · repeat' first|refine nx ?_|refine xb_miss (by decide) ?_|(apply W_reg;(simp [Ag, c1, e];exact .r _))
    refine W_cond (by simp; exact .r _) (fun hc => ?_) (fun hc => ?_)
    · cases hc
    repeat' first|refine nx ?_|refine xb_miss (by decide) ?_|(apply W_reg;(simp;exact .r _))
    simp
theorem l5Fact_p (b : List By) (i : Nat) (h : Int) (c : Sch) (hb : Sm b) (hi : i ≤ b.length) (hc : Dr c) : ∃ x cs', ((∃ a : RA, a.args.length ≤ 3 ∧ a.args ≠ [] ∧ x = xvF a) ∧ CQ b cs') ∧ RetP XX 43 (CU b i h) [Ag c] x cs' := by
  refine ret_PW rfl Tryz.func43 rfl rfl (by simp [Tryz.f43]) ?_
  simp only [Tryz.f43]
  obtain ⟨x, cs', ⟨⟨k, hk, rfl⟩, i1, w1, hi1, rfl⟩, hr⟩ := l1Below_p b i h c.arity.length hb hi (by have := hc.2.1; omega)
  have c1 := cvP hr
  simp only [CU, List.map_cons, List.map_nil] at c1 ⊢
  have hd1 := hc.1
  have hk0 := hk.1
  have hkl : k.toNat < c.arity.length := by have := hk.2.1 (by omega); omega
  have hm := hc.2.2 _ (List.getElem_mem hkl)
  repeat' first|refine nx ?_|refine xb_miss (by decide) ?_|(apply W_reg;(simp [Ag, c1];exact .r _))
  refine W_loop (n := c.arity[k.toNat].toNat) (fun n s => ∃ j : Nat, ∃ i : Nat, ∃ w : Int, ∃ oT : Nat, ∃ A : List Int, n = c.arity[k.toNat].toNat - j ∧ s.nt = 33 ∧ s.tm 0 = .ptr 0 0 ∧ s.tm 3 = .ptr 1 0 ∧ s.tm 4 = .ptr 2 0 ∧ s.tm 5 = .ptr 3 0 ∧ s.tm 6 = In j ∧ i ≤ b.length ∧ s.σ.ob 0 = .box [Ar b, In i, In w] ∧ s.σ.ob 1 = .box [Ar c.arity] ∧ s.σ.ob 2 = .box [In 0, .t .nl] ∧ s.σ.ob 3 = .box [In k, gc oT j] ∧ 4 ≤ s.σ.n ∧ (j : Int) ≤ c.arity[k.toNat] ∧ A.length = j ∧ (j = 0 ∨ (s.σ.ob oT = .arr (.own 0) 0 1 (rowsE A) ∧ 4 ≤ oT ∧ oT < s.σ.n))) ⟨0, i1, w1, 0, [], by (simp; exact ⟨hi1, by omega⟩)⟩ ?_
  rintro n ⟨nt, tm, σ⟩ ⟨j, i, w, oT, A, rfl, hnt, h0, h3, h4, h5, h6, hi, hb0, hb1, hb2, hb3, hn, hj, hA, hT⟩
  simp only at hnt h0 h3 h4 h5 h6 hb0 hb1 hb2 hb3 hn hT
  subst hnt
  have ap4_ := apart hn
  repeat' first|refine nx ?_|refine xb_miss (by decide) ?_|(apply W_reg;(simp [h0, h3, h4, h5, h6, hb0, hb1, hb2, hb3, hn, hT, ap4_, hk0, hkl];exact .r _))
  refine W_cond (by simp [h0, h3, h4, h5, h6, hb0, hb1, hb2, hb3, hn, hT, ap4_]; exact .r _) (fun hc2 => ?_) (fun hc2 => ?_)
  · have hjl : (j : Int) < c.arity[k.toNat] := by simpa using hc2
    obtain ⟨x, cs', ⟨⟨y, hy, rfl⟩, i2, w2, hi2, rfl⟩, hr⟩ := l1Below_p b i w 4 hb hi (by omega)
    have c2 := cvP hr
    simp only [CU, List.map_cons, List.map_nil] at c2
    have hjb : j + 1 < 1099511627776 := by omega
    rcases Nat.eq_zero_or_pos j with z0 | z0
    · subst z0
      repeat' first|refine nx ?_|refine xb_miss (by decide) ?_|(apply W_reg;(simp [h0, h3, h4, h5, h6, hb0, hb1, hb2, hb3, hn, hT, ap4_, c2, flatR];exact .r _))
      refine ⟨_, ?_, 0 + 1, i2, w2, σ.n + 1, [y], rfl, rfl, ?_, ?_, ?_, ?_, ?_, ?_, ?_, ?_, ?_, ?_, ?_, by omega, ?_, (.inr ⟨by (simp [h0, h3, h4, h5, h6, hb0, hb1, hb2, hb3, hn, hT, ap4_, rowsE]), by omega, by simp⟩)⟩
      all_goals first|assumption|(simp [h0, h3, h4, h5, h6, hb0, hb1, hb2, hb3, hn, hT, ap4_];done)|(simp [h0, h3, h4, h5, h6, hb0, hb1, hb2, hb3, hn, hT, ap4_];omega)|(simp [h0, h3, h4, h5, h6, hb0, hb1, hb2, hb3, hn, hT, ap4_];exact wrap_succ (by omega))|omega
    · obtain ⟨hT1, hT2, hT3⟩ := hT.resolve_left (by omega)
      have hgc := gc_pos (o := oT) (show j ≠ 0 by omega)
      have ap5_ := apart hT3
      have ne6_ : ¬ (oT = 0) := by omega
      have ne7_ : ¬ (0 = oT) := by omega
      have ne8_ : ¬ (oT = 1) := by omega
      have ne9_ : ¬ (1 = oT) := by omega
      have ne10_ : ¬ (oT = 2) := by omega
      have ne11_ : ¬ (2 = oT) := by omega
      have ne12_ : ¬ (oT = 3) := by omega
      have ne13_ : ¬ (3 = oT) := by omega
      repeat' first|refine nx ?_|refine xb_miss (by decide) ?_|(apply W_reg;(simp [h0, h3, h4, h5, h6, hb0, hb1, hb2, hb3, hn, hT, ap4_, hT1, ap5_, ne6_, ne7_, ne8_, ne9_, ne10_, ne11_, ne12_, ne13_, c2, flatR, hgc, hjb, hA];exact .r _))
      refine ⟨_, ?_, j + 1, i2, w2, oT, A ++ [y], rfl, rfl, ?_, ?_, ?_, ?_, ?_, ?_, ?_, ?_, ?_, ?_, ?_, by omega, (by simp [hA]), (.inr ⟨by (simp [h0, h3, h4, h5, h6, hb0, hb1, hb2, hb3, hn, hT, ap4_, hT1, ap5_, ne6_, ne7_, ne8_, ne9_, ne10_, ne11_, ne12_, ne13_, rowsE]), hT2, by (simp; omega)⟩)⟩
      all_goals first|assumption|(simp [h0, h3, h4, h5, h6, hb0, hb1, hb2, hb3, hn, hT, ap4_, hT1, ap5_, ne6_, ne7_, ne8_, ne9_, ne10_, ne11_, ne12_, ne13_];done)|(simp [h0, h3, h4, h5, h6, hb0, hb1, hb2, hb3, hn, hT, ap4_, hT1, ap5_, ne6_, ne7_, ne8_, ne9_, ne10_, ne11_, ne12_, ne13_];omega)|(simp [h0, h3, h4, h5, h6, hb0, hb1, hb2, hb3, hn, hT, ap4_, hT1, ap5_, ne6_, ne7_, ne8_, ne9_, ne10_, ne11_, ne12_, ne13_];exact wrap_succ (by omega))|omega
  · have hjl : (j : Int) = c.arity[k.toNat] := by simp at hc2; omega
    have hj0 : j ≠ 0 := by omega
    obtain ⟨hT1, hT2, hT3⟩ := hT.resolve_left hj0
    have hgc := gc_pos (o := oT) hj0
    have ap14_ := apart hn
    have ap15_ := apart hT3
    have ne16_ : ¬ (oT = 0) := by omega
    have ne17_ : ¬ (0 = oT) := by omega
    have ne18_ : ¬ (oT = 1) := by omega
    have ne19_ : ¬ (1 = oT) := by omega
    have ne20_ : ¬ (oT = 2) := by omega
    have ne21_ : ¬ (2 = oT) := by omega
    have ne22_ : ¬ (oT = 3) := by omega
    have ne23_ : ¬ (3 = oT) := by omega
    repeat' first|refine nx ?_|refine xb_miss (by decide) ?_|(apply W_reg;(simp [h0, h3, h4, h5, h6, hb0, hb1, hb2, hb3, hn, hT1, ap14_, ap15_, ne16_, ne17_, ne18_, ne19_, ne20_, ne21_, ne22_, ne23_, hgc];exact .r _))
    exact EndsP.mk (cs' := CU b i w) (x := xvF ⟨k, A⟩) (v := .agg [In k, .ref oT j []]) (by simp [h0, h3, h4, h5, h6, hb0, hb1, hb2, hb3, hn, hT1, ap14_, ap15_, ne16_, ne17_, ne18_, ne19_, ne20_, ne21_, ne22_, ne23_, hgc]) (by simp [h0, h3, h4, h5, h6, hb0, hb1, hb2, hb3, hn, hT1, ap14_, ap15_, ne16_, ne17_, ne18_, ne19_, ne20_, ne21_, ne22_, ne23_]) (by simp [h0, h3, h4, h5, h6, hb0, hb1, hb2, hb3, hn, hT1, ap14_, ap15_, ne16_, ne17_, ne18_, ne19_, ne20_, ne21_, ne22_, ne23_, hA]) ⟨⟨⟨k, A⟩, by simp only; omega, fun e => by simp only at e; rw [e] at hA; exact hj0 hA.symm, rfl⟩, i, w, hi, rfl⟩
end Go.Proofs.YtpdpgfagklhpaaaGreat.V

namespace Go.Proofs.YtpdpgfagklhpaaaGreat.V
open Go Go.Proofs
set_option linter.unusedVariables false
set_option linter.unusedSimpArgs false
theorem putF_bd (f : RA) : ∀ (d : Bool) (l : List RA), (putF f d l).length ≤ l.length + 1 ∧ ∀ a ∈ putF f d l, a = f ∨ a ∈ l
  | true, [] => by simp [putF]
  | false, [] => by simp [putF]
  | true, x :: l => by
    rw [putF]
    obtain ⟨h1, h2⟩ := putF_bd f true l
    refine ⟨by simp; omega, fun a ha => ?_⟩
    rcases List.mem_cons.1 ha with rfl | ha
    · simp
    · rcases h2 a ha with h | h <;> simp [h]
  | false, x :: l => by
    rw [putF]
    split
    · obtain ⟨h1, h2⟩ := putF_bd f false l
      refine ⟨by simp; omega, fun a ha => ?_⟩
      rcases List.mem_cons.1 ha with rfl | ha
      · simp
      · rcases h2 a ha with h | h <;> simp [h]
    · obtain ⟨h1, h2⟩ := putF_bd f true l
      split
      · refine ⟨by simp; omega, fun a ha => ?_⟩
        rcases List.mem_cons.1 ha with rfl | ha
        · simp
        · rcases h2 a ha with h | h <;> simp [h]
      · rw [putF_t]
        refine ⟨by simp, fun a ha => ?_⟩
        simpa using ha
/-- A drawn database. -/
def DbS (n k : Nat) (db : List RA) : Prop := db.length ≤ n ∧ ∀ a ∈ db, a.args.length ≤ k
theorem DbS.sm {n k : Nat} {db : List RA} (h : DbS n k db) (hn : n ≤ 1000) (hk : k ≤ 1000) : SmF db := ⟨by have := h.1; unfold Sm; omega, fun a ha => by have := h.2 a ha; unfold Sm; omega⟩
theorem l5Db_p (b : List By) (i : Nat) (h : Int) (c : Sch) (hb : Sm b) (hi : i ≤ b.length) (hc : Dr c) : ∃ x cs', ((∃ db : List RA, DbS 8 3 db ∧ x = .own 2 (rowsE db)) ∧ CQ b cs') ∧ RetP XX 50 (CU b i h) [Ag c] x cs' := by
  refine ret_PW rfl Tryz.func50 rfl rfl (by simp [Tryz.f50]) ?_
  simp only [Tryz.f50]
  obtain ⟨x, cs', ⟨⟨k, hk, rfl⟩, i1, w1, hi1, rfl⟩, hr⟩ := l1Below_p b i h 9 hb hi (by omega)
  have c1 := cvP hr
  simp only [CU, List.map_cons, List.map_nil] at c1 ⊢
  have hk3 := hk.2.1 (by omega)
  repeat' first|refine nx ?_|refine xb_miss (by decide) ?_|(apply W_reg;(simp [Ag, c1];exact .r _))
  refine W_loop (n := (k.toNat * 2)) (fun n s => ∃ m : Nat, ∃ i : Nat, ∃ w : Int, ∃ oD : Nat, ∃ D : List RA, n = m * 2 ∧ s.nt = 20 ∧ s.tm 0 = .ptr 0 0 ∧ s.tm 3 = .ptr 1 0 ∧ s.tm 5 = .ref oD D.length [] ∧ s.tm 6 = In m ∧ i ≤ b.length ∧ s.σ.ob 0 = .box [Ar b, In i, In w] ∧ s.σ.ob 1 = .box [Ar c.arity] ∧ 2 ≤ oD ∧ oD < s.σ.n ∧ s.σ.ob oD = .arr (.own 0) 0 2 (rowsE D) ∧ 3 ≤ s.σ.n ∧ D.length + m ≤ 8 ∧ (∀ a ∈ D, a.args.length ≤ 3)) ⟨k.toNat, i1, w1, 2, [], by (simp; exact ⟨by omega, hi1, by omega⟩)⟩ ?_
  rintro n ⟨nt, tm, σ⟩ ⟨m, i, w, oD, D, rfl, hnt, h0, h3, h5, h6, hi, hb0, hb1, hoD1, hoD2, hbD, hn, hD, hDa⟩
  simp only at hnt h0 h3 h5 h6 hb0 hb1 hoD2 hbD hn
  subst hnt
  have ap1_ := apart hn
  have ap2_ := apart hoD2
  have ne3_ : ¬ (oD = 0) := by omega
  have ne4_ : ¬ (0 = oD) := by omega
  have ne5_ : ¬ (oD = 1) := by omega
  have ne6_ : ¬ (1 = oD) := by omega
  repeat' first|refine nx ?_|refine xb_miss (by decide) ?_|(apply W_reg;(simp [h0, h3, h5, h6, hb0, hb1, hoD2, hbD, hn, ap1_, ap2_, ne3_, ne4_, ne5_, ne6_];exact .r _))
  refine W_cond (by simp [h0, h3, h5, h6, hb0, hb1, hoD2, hbD, hn, ap1_, ap2_, ne3_, ne4_, ne5_, ne6_]; exact .r _) (fun hc2 => ?_) (fun hc2 => ?_)
  · have hm : 0 < m := by simpa using hc2
    obtain ⟨x, cs', ⟨⟨a, ha1, ha2, rfl⟩, i2, w2, hi2, rfl⟩, hr⟩ := l5Fact_p b i w c hb hi hc
    have c2 := cvP hr
    have hDs : SmF D := ⟨by unfold Sm; omega, fun a ha => by have := hDa a ha; unfold Sm; omega⟩
    have c3 := cv (l5Put_r D a hDs (by unfold Sm; omega))
    simp only [CU, Ag, cells_Sch, cells_RA, List.map_cons, List.map_nil] at c2 c3
    obtain ⟨p1, p2⟩ := putF_bd a false D
    have wr7_ : IntKind.i64.wrap ((m : Int) - 1) = (m : Int) - 1 := wrap_ok (by omega) (by omega)
    repeat' first|refine nx ?_|refine xb_miss (by decide) ?_|(apply W_reg;(simp [h0, h3, h5, h6, hb0, hb1, hoD2, hbD, hn, ap1_, ap2_, ne3_, ne4_, ne5_, ne6_, wr7_, c2, c3];exact .r _))
    refine ⟨_, ?_, m - 1, i2, w2, σ.n + 1, putF a false D, rfl, rfl, ?_, ?_, ?_, (by simp [h0, h3, h5, h6, hb0, hb1, hoD2, hbD, hn, ap1_, ap2_, ne3_, ne4_, ne5_, ne6_, wr7_]; omega), ?_, ?_, ?_, by omega, ?_, ?_, ?_, (by omega), (fun x hx => by (rcases p2 x hx with h | h; (rw [h]; exact ha1); exact hDa x h))⟩
    all_goals first|assumption|(simp [h0, h3, h5, h6, hb0, hb1, hoD2, hbD, hn, ap1_, ap2_, ne3_, ne4_, ne5_, ne6_, wr7_];done)|(simp [h0, h3, h5, h6, hb0, hb1, hoD2, hbD, hn, ap1_, ap2_, ne3_, ne4_, ne5_, ne6_, wr7_];omega)|(simp [h0, h3, h5, h6, hb0, hb1, hoD2, hbD, hn, ap1_, ap2_, ne3_, ne4_, ne5_, ne6_, wr7_];exact wrap_succ (by omega))|omega
  · have hm : m = 0 := by simpa using hc2
    subst hm
    repeat' first|refine nx ?_|refine xb_miss (by decide) ?_|(apply W_reg;(simp [h0, h3, h5, h6, hb0, hb1, hoD2, hbD, hn, ap1_, ap2_, ne3_, ne4_, ne5_, ne6_];exact .r _))
    exact EndsP.mk (cs' := CU b i w) (x := .own 2 (rowsE D)) (v := .ref oD D.length []) (by simp [h0, h3, h5, h6, hb0, hb1, hoD2, hbD, hn, ap1_, ap2_, ne3_, ne4_, ne5_, ne6_]) (by simp [h0, h3, h5, h6, hb0, hb1, hoD2, hbD, hn, ap1_, ap2_, ne3_, ne4_, ne5_, ne6_]) (by simp [h0, h3, h5, h6, hb0, hb1, hoD2, hbD, hn, ap1_, ap2_, ne3_, ne4_, ne5_, ne6_]) ⟨⟨D, ⟨by omega, hDa⟩, rfl⟩, i, w, hi, rfl⟩
theorem W_mid {P : Program} {M : Nat → Bool} {G : Giv} {c : Code} {s : VS} {N : VS → Prop} {X : Nat → VS → Prop} {K : VS → Prop} (Q : VS → Prop) (h1 : W P M G c s Q X K) (h2 : ∀ s2, Q s2 → N s2) : W P M G c s N X K := h1.mono h2 (fun _ _ h => h) (fun _ h => h)
theorem l5AnyFact_p (b : List By) (i : Nat) (h : Int) (c : Sch) (hb : Sm b) (hi : i ≤ b.length) (hc : c.arity.length ≤ 5) : ∃ x cs', ((∃ a : RA, a.args.length ≤ 4 ∧ x = xvF a) ∧ CQ b cs') ∧ RetP XX 16 (CU b i h) [Ag c] x cs' := by
  refine ret_PW rfl Tryz.func16 rfl rfl (by simp [Tryz.f16]) ?_
  simp only [Tryz.f16]
  have c1 := cv (l4Safe_r c (by unfold Sm; omega))
  simp only [CU, Ag, cells_Sch, List.map_cons, List.map_nil] at c1 ⊢
  refine W_seq ?_
  apply W_reg; (simp; exact .r _)
  refine W_seq ?_
  refine W_mid (fun s2 => ∃ (a : RA) (i1 : Nat) (w1 : Int) (p oA : Nat), s2.nt = 37 ∧ s2.tm 0 = .ptr 0 0 ∧ s2.tm 4 = .ptr 2 0 ∧ s2.tm 5 = .ptr p 0 ∧ i1 ≤ b.length ∧ a.args.length ≤ 3 ∧ a.args ≠ [] ∧ s2.σ.ob 0 = .box [Ar b, In i1, In w1] ∧ s2.σ.ob 2 = .box [In 0, .t .nl] ∧ s2.σ.ob p = .box [In a.rel, .ref oA a.args.length []] ∧ s2.σ.ob oA = .arr (.own 0) 0 1 (rowsE a.args) ∧ 3 ≤ p ∧ 3 ≤ oA ∧ p ≠ oA ∧ p < s2.σ.n ∧ oA < s2.σ.n) ?_ ?_
  · cases e : isSch c
    · obtain ⟨x, cs', ⟨⟨a, ha1, ha2, rfl⟩, i1, w1, hi1, rfl⟩, hr⟩ := l5Fact_p b i h ⟨[2, 1]⟩ hb hi dr_21
      have c2 := cvP hr
      rw [e] at c1
      simp only [CU, Ag, cells_Sch, List.map_cons, List.map_nil, Bool.false_eq_true, if_false] at c1 c2
      repeat' first|refine nx ?_|refine xb_miss (by decide) ?_|(apply W_reg;(simp [c1, c2];exact .r _))|(apply W_draw (id := 4) [0,1,0,0,12,28,63,127,255] rfl rfl; (· simp; exact .r _); (· simp [c1, c2]; exact .r _); (· first|trivial|simp))|(apply W_draw (id := 8) [0,1,0,0,12,31,63] rfl rfl; (· simp; exact .r _); (· simp [c1, c2]; exact .r _); (· first|trivial|simp))
      exact ⟨a, i1, w1, 5, 4, rfl, by simp, by simp, by simp, hi1, ha1, ha2, by simp, by simp, by simp, by simp, by omega, by omega, by omega, by simp, by simp⟩
    · obtain ⟨x, cs', ⟨⟨a, ha1, ha2, rfl⟩, i1, w1, hi1, rfl⟩, hr⟩ := l5Fact_p b i h c hb hi (dr_sch e)
      have c2 := cvP hr
      rw [e] at c1
      simp only [CU, Ag, cells_Sch, List.map_cons, List.map_nil, if_true] at c1 c2
      repeat' first|refine nx ?_|refine xb_miss (by decide) ?_|(apply W_reg;(simp [c1, c2];exact .r _))|(apply W_draw (id := 4) [0,1,0,0,12,28,63,127,255] rfl rfl; (· simp; exact .r _); (· simp [c1, c2]; exact .r _); (· first|trivial|simp))|(apply W_draw (id := 8) [0,1,0,0,12,31,63] rfl rfl; (· simp; exact .r _); (· simp [c1, c2]; exact .r _); (· first|trivial|simp))
      exact ⟨a, i1, w1, 4, 3, rfl, by simp, by simp, by simp, hi1, ha1, ha2, by simp, by simp, by simp, by simp, by omega, by omega, by omega, by simp, by simp⟩
  rintro ⟨nt, tm, σ⟩ ⟨a, i1, w1, p, oA, q1, q2, q3, q4, hi1, ha1, ha2, q5, q6, q7, q8, q9, q10, q11, q12, q13⟩
  simp only at q1 q2 q3 q4 q5 q6 q7 q8 q12 q13
  subst q1
  obtain ⟨x, cs', ⟨⟨k, hk, rfl⟩, i2, w2, hi2, rfl⟩, hr⟩ := l1Below_p b i1 w1 10 hb hi1 (by omega)
  have c3 := cvP hr
  obtain ⟨x, cs', ⟨⟨y, hy, rfl⟩, i3, w3, hi3, rfl⟩, hr⟩ := l1PickInt_p b i2 w2 [0, 99, 100, -1] hb hi2 (by simp)
  have c4 := cvP hr
  obtain ⟨x, cs', ⟨⟨y2, hy2, rfl⟩, i4, w4, hi4, rfl⟩, hr⟩ := l1PickInt_p b i2 w2 [-1, 3, 4] hb hi2 (by simp)
  have c5 := cvP hr
  obtain ⟨x, cs', ⟨⟨y3, hy3, rfl⟩, i5, w5, hi5, rfl⟩, hr⟩ := l1PickInt_p b i2 w2 [99, 100, -1] hb hi2 (by simp)
  have c6 := cvP hr
  simp only [CU, List.map_cons, List.map_nil] at c3 c4 c5 c6
  rw [show Ar ([0, 99, 100, -1] : List Int) = .t (.sl [[.i .i64 0], [.i .i64 99], [.i .i64 100], [.i .i64 (-1)]]) from rfl] at c4
  rw [show Ar ([-1, 3, 4] : List Int) = .t (.sl [[.i .i64 (-1)], [.i .i64 3], [.i .i64 4]]) from rfl] at c5
  rw [show Ar ([99, 100, -1] : List Int) = .t (.sl [[.i .i64 99], [.i .i64 100], [.i .i64 (-1)]]) from rfl] at c6
  have hr3 : ([0, 1, 2] : List Nat) = List.range 3 := rfl
  have hr4 : ([0, 1, 2, 3] : List Nat) = List.range 4 := rfl
  have hAb : a.args.length + 1 < 1099511627776 := by omega
  have hn3 : 3 ≤ σ.n := by omega
  have ap8_ := apart hn3
  have ap9_ := apart q12
  have ap10_ := apart q13
  have ne11_ : ¬ (p = 0) := by omega
  have ne12_ : ¬ (0 = p) := by omega
  have ne13_ : ¬ (p = 1) := by omega
  have ne14_ : ¬ (1 = p) := by omega
  have ne15_ : ¬ (p = 2) := by omega
  have ne16_ : ¬ (2 = p) := by omega
  have ne17_ : ¬ (oA = 0) := by omega
  have ne18_ : ¬ (0 = oA) := by omega
  have ne19_ : ¬ (oA = 1) := by omega
  have ne20_ : ¬ (1 = oA) := by omega
  have ne21_ : ¬ (oA = 2) := by omega
  have ne22_ : ¬ (2 = oA) := by omega
  have ne23_ : ¬ (p = oA) := by omega
  have ne24_ : ¬ (oA = p) := by omega
  by_cases k0 : k = 0
  · subst k0
    repeat' first|refine nx ?_|refine xb_miss (by decide) ?_|(apply W_reg;(simp [q2, q3, q4, q5, q6, q7, q8, ap8_, ap9_, ap10_, ne11_, ne12_, ne13_, ne14_, ne15_, ne16_, ne17_, ne18_, ne19_, ne20_, ne21_, ne22_, ne23_, ne24_, c3];exact .r _))|(apply W_draw (id := 4) [0,1,0,0,12,28,63,127,255] rfl rfl; (· simp; exact .r _); (· simp [q2, q3, q4, q5, q6, q7, q8, ap8_, ap9_, ap10_, ne11_, ne12_, ne13_, ne14_, ne15_, ne16_, ne17_, ne18_, ne19_, ne20_, ne21_, ne22_, ne23_, ne24_, c3]; exact .r _); (· first|trivial|simp))|(apply W_draw (id := 8) [0,1,0,0,12,31,63] rfl rfl; (· simp; exact .r _); (· simp [q2, q3, q4, q5, q6, q7, q8, ap8_, ap9_, ap10_, ne11_, ne12_, ne13_, ne14_, ne15_, ne16_, ne17_, ne18_, ne19_, ne20_, ne21_, ne22_, ne23_, ne24_, c3]; exact .r _); (· first|trivial|simp))
    refine W_cond (by simp [q2, q3, q4, q5, q6, q7, q8, ap8_, ap9_, ap10_, ne11_, ne12_, ne13_, ne14_, ne15_, ne16_, ne17_, ne18_, ne19_, ne20_, ne21_, ne22_, ne23_, ne24_]; exact .r _) (fun hc2 => ?_) (fun hc2 => ?_)
    · repeat' first|refine nx ?_|refine xb_miss (by decide) ?_|(apply W_reg;(simp [q2, q3, q4, q5, q6, q7, q8, ap8_, ap9_, ap10_, ne11_, ne12_, ne13_, ne14_, ne15_, ne16_, ne17_, ne18_, ne19_, ne20_, ne21_, ne22_, ne23_, ne24_, c4, hr4, hAb, flatR];exact .r _))|(apply W_draw (id := 4) [0,1,0,0,12,28,63,127,255] rfl rfl; (· simp; exact .r _); (· simp [q2, q3, q4, q5, q6, q7, q8, ap8_, ap9_, ap10_, ne11_, ne12_, ne13_, ne14_, ne15_, ne16_, ne17_, ne18_, ne19_, ne20_, ne21_, ne22_, ne23_, ne24_, c4, hr4, hAb, flatR]; exact .r _); (· first|trivial|simp))|(apply W_draw (id := 8) [0,1,0,0,12,31,63] rfl rfl; (· simp; exact .r _); (· simp [q2, q3, q4, q5, q6, q7, q8, ap8_, ap9_, ap10_, ne11_, ne12_, ne13_, ne14_, ne15_, ne16_, ne17_, ne18_, ne19_, ne20_, ne21_, ne22_, ne23_, ne24_, c4, hr4, hAb, flatR]; exact .r _); (· first|trivial|simp))
      exact EndsP.mk (cs' := CU b i3 w3) (x := xvF ⟨a.rel, a.args ++ [y]⟩) (v := .agg [In a.rel, .ref oA (a.args.length + 1) []]) (by simp [q2, q3, q4, q5, q6, q7, q8, ap8_, ap9_, ap10_, ne11_, ne12_, ne13_, ne14_, ne15_, ne16_, ne17_, ne18_, ne19_, ne20_, ne21_, ne22_, ne23_, ne24_]) (by simp [q2, q3, q4, q5, q6, q7, q8, ap8_, ap9_, ap10_, ne11_, ne12_, ne13_, ne14_, ne15_, ne16_, ne17_, ne18_, ne19_, ne20_, ne21_, ne22_, ne23_, ne24_]) (by simp [q2, q3, q4, q5, q6, q7, q8, ap8_, ap9_, ap10_, ne11_, ne12_, ne13_, ne14_, ne15_, ne16_, ne17_, ne18_, ne19_, ne20_, ne21_, ne22_, ne23_, ne24_, rowsE]) ⟨⟨⟨a.rel, a.args ++ [y]⟩, by simp; omega, rfl⟩, i3, w3, hi3, rfl⟩
    · simp at hc2
  by_cases k1 : k = 1
  · subst k1
    repeat' first|refine nx ?_|refine xb_miss (by decide) ?_|(apply W_reg;(simp [q2, q3, q4, q5, q6, q7, q8, ap8_, ap9_, ap10_, ne11_, ne12_, ne13_, ne14_, ne15_, ne16_, ne17_, ne18_, ne19_, ne20_, ne21_, ne22_, ne23_, ne24_, c3];exact .r _))|(apply W_draw (id := 4) [0,1,0,0,12,28,63,127,255] rfl rfl; (· simp; exact .r _); (· simp [q2, q3, q4, q5, q6, q7, q8, ap8_, ap9_, ap10_, ne11_, ne12_, ne13_, ne14_, ne15_, ne16_, ne17_, ne18_, ne19_, ne20_, ne21_, ne22_, ne23_, ne24_, c3]; exact .r _); (· first|trivial|simp))|(apply W_draw (id := 8) [0,1,0,0,12,31,63] rfl rfl; (· simp; exact .r _); (· simp [q2, q3, q4, q5, q6, q7, q8, ap8_, ap9_, ap10_, ne11_, ne12_, ne13_, ne14_, ne15_, ne16_, ne17_, ne18_, ne19_, ne20_, ne21_, ne22_, ne23_, ne24_, c3]; exact .r _); (· first|trivial|simp))
    refine W_cond (by simp [q2, q3, q4, q5, q6, q7, q8, ap8_, ap9_, ap10_, ne11_, ne12_, ne13_, ne14_, ne15_, ne16_, ne17_, ne18_, ne19_, ne20_, ne21_, ne22_, ne23_, ne24_]; exact .r _) (fun hc2 => ?_) (fun hc2 => ?_)
    · simp at hc2
    repeat' first|refine nx ?_|refine xb_miss (by decide) ?_|(apply W_reg;(simp [q2, q3, q4, q5, q6, q7, q8, ap8_, ap9_, ap10_, ne11_, ne12_, ne13_, ne14_, ne15_, ne16_, ne17_, ne18_, ne19_, ne20_, ne21_, ne22_, ne23_, ne24_];exact .r _))|(apply W_draw (id := 4) [0,1,0,0,12,28,63,127,255] rfl rfl; (· simp; exact .r _); (· simp [q2, q3, q4, q5, q6, q7, q8, ap8_, ap9_, ap10_, ne11_, ne12_, ne13_, ne14_, ne15_, ne16_, ne17_, ne18_, ne19_, ne20_, ne21_, ne22_, ne23_, ne24_]; exact .r _); (· first|trivial|simp))|(apply W_draw (id := 8) [0,1,0,0,12,31,63] rfl rfl; (· simp; exact .r _); (· simp [q2, q3, q4, q5, q6, q7, q8, ap8_, ap9_, ap10_, ne11_, ne12_, ne13_, ne14_, ne15_, ne16_, ne17_, ne18_, ne19_, ne20_, ne21_, ne22_, ne23_, ne24_]; exact .r _); (· first|trivial|simp))
    refine W_cond (by simp [q2, q3, q4, q5, q6, q7, q8, ap8_, ap9_, ap10_, ne11_, ne12_, ne13_, ne14_, ne15_, ne16_, ne17_, ne18_, ne19_, ne20_, ne21_, ne22_, ne23_, ne24_]; exact .r _) (fun hc2 => ?_) (fun hc2 => ?_)
    · repeat' first|refine nx ?_|refine xb_miss (by decide) ?_|(apply W_reg;(simp [q2, q3, q4, q5, q6, q7, q8, ap8_, ap9_, ap10_, ne11_, ne12_, ne13_, ne14_, ne15_, ne16_, ne17_, ne18_, ne19_, ne20_, ne21_, ne22_, ne23_, ne24_, c5, hr3];exact .r _))|(apply W_draw (id := 4) [0,1,0,0,12,28,63,127,255] rfl rfl; (· simp; exact .r _); (· simp [q2, q3, q4, q5, q6, q7, q8, ap8_, ap9_, ap10_, ne11_, ne12_, ne13_, ne14_, ne15_, ne16_, ne17_, ne18_, ne19_, ne20_, ne21_, ne22_, ne23_, ne24_, c5, hr3]; exact .r _); (· first|trivial|simp))|(apply W_draw (id := 8) [0,1,0,0,12,31,63] rfl rfl; (· simp; exact .r _); (· simp [q2, q3, q4, q5, q6, q7, q8, ap8_, ap9_, ap10_, ne11_, ne12_, ne13_, ne14_, ne15_, ne16_, ne17_, ne18_, ne19_, ne20_, ne21_, ne22_, ne23_, ne24_, c5, hr3]; exact .r _); (· first|trivial|simp))
      exact EndsP.mk (cs' := CU b i4 w4) (x := xvF ⟨y2, a.args⟩) (v := .agg [In y2, .ref oA a.args.length []]) (by simp [q2, q3, q4, q5, q6, q7, q8, ap8_, ap9_, ap10_, ne11_, ne12_, ne13_, ne14_, ne15_, ne16_, ne17_, ne18_, ne19_, ne20_, ne21_, ne22_, ne23_, ne24_]) (by simp [q2, q3, q4, q5, q6, q7, q8, ap8_, ap9_, ap10_, ne11_, ne12_, ne13_, ne14_, ne15_, ne16_, ne17_, ne18_, ne19_, ne20_, ne21_, ne22_, ne23_, ne24_]) (by simp [q2, q3, q4, q5, q6, q7, q8, ap8_, ap9_, ap10_, ne11_, ne12_, ne13_, ne14_, ne15_, ne16_, ne17_, ne18_, ne19_, ne20_, ne21_, ne22_, ne23_, ne24_]) ⟨⟨⟨y2, a.args⟩, by simp only; omega, rfl⟩, i4, w4, hi4, rfl⟩
    · simp at hc2
  by_cases k2 : k = 2
  · subst k2
    have hal : 0 < a.args.length := List.length_pos_iff.2 ha2
    repeat' first|refine nx ?_|refine xb_miss (by decide) ?_|(apply W_reg;(simp [q2, q3, q4, q5, q6, q7, q8, ap8_, ap9_, ap10_, ne11_, ne12_, ne13_, ne14_, ne15_, ne16_, ne17_, ne18_, ne19_, ne20_, ne21_, ne22_, ne23_, ne24_, c3];exact .r _))|(apply W_draw (id := 4) [0,1,0,0,12,28,63,127,255] rfl rfl; (· simp; exact .r _); (· simp [q2, q3, q4, q5, q6, q7, q8, ap8_, ap9_, ap10_, ne11_, ne12_, ne13_, ne14_, ne15_, ne16_, ne17_, ne18_, ne19_, ne20_, ne21_, ne22_, ne23_, ne24_, c3]; exact .r _); (· first|trivial|simp))|(apply W_draw (id := 8) [0,1,0,0,12,31,63] rfl rfl; (· simp; exact .r _); (· simp [q2, q3, q4, q5, q6, q7, q8, ap8_, ap9_, ap10_, ne11_, ne12_, ne13_, ne14_, ne15_, ne16_, ne17_, ne18_, ne19_, ne20_, ne21_, ne22_, ne23_, ne24_, c3]; exact .r _); (· first|trivial|simp))
    refine W_cond (by simp [q2, q3, q4, q5, q6, q7, q8, ap8_, ap9_, ap10_, ne11_, ne12_, ne13_, ne14_, ne15_, ne16_, ne17_, ne18_, ne19_, ne20_, ne21_, ne22_, ne23_, ne24_]; exact .r _) (fun hc2 => ?_) (fun hc2 => ?_)
    · simp at hc2
    repeat' first|refine nx ?_|refine xb_miss (by decide) ?_|(apply W_reg;(simp [q2, q3, q4, q5, q6, q7, q8, ap8_, ap9_, ap10_, ne11_, ne12_, ne13_, ne14_, ne15_, ne16_, ne17_, ne18_, ne19_, ne20_, ne21_, ne22_, ne23_, ne24_];exact .r _))|(apply W_draw (id := 4) [0,1,0,0,12,28,63,127,255] rfl rfl; (· simp; exact .r _); (· simp [q2, q3, q4, q5, q6, q7, q8, ap8_, ap9_, ap10_, ne11_, ne12_, ne13_, ne14_, ne15_, ne16_, ne17_, ne18_, ne19_, ne20_, ne21_, ne22_, ne23_, ne24_]; exact .r _); (· first|trivial|simp))|(apply W_draw (id := 8) [0,1,0,0,12,31,63] rfl rfl; (· simp; exact .r _); (· simp [q2, q3, q4, q5, q6, q7, q8, ap8_, ap9_, ap10_, ne11_, ne12_, ne13_, ne14_, ne15_, ne16_, ne17_, ne18_, ne19_, ne20_, ne21_, ne22_, ne23_, ne24_]; exact .r _); (· first|trivial|simp))
    refine W_cond (by simp [q2, q3, q4, q5, q6, q7, q8, ap8_, ap9_, ap10_, ne11_, ne12_, ne13_, ne14_, ne15_, ne16_, ne17_, ne18_, ne19_, ne20_, ne21_, ne22_, ne23_, ne24_]; exact .r _) (fun hc2 => ?_) (fun hc2 => ?_)
    · simp at hc2
    repeat' first|refine nx ?_|refine xb_miss (by decide) ?_|(apply W_reg;(simp [q2, q3, q4, q5, q6, q7, q8, ap8_, ap9_, ap10_, ne11_, ne12_, ne13_, ne14_, ne15_, ne16_, ne17_, ne18_, ne19_, ne20_, ne21_, ne22_, ne23_, ne24_];exact .r _))|(apply W_draw (id := 4) [0,1,0,0,12,28,63,127,255] rfl rfl; (· simp; exact .r _); (· simp [q2, q3, q4, q5, q6, q7, q8, ap8_, ap9_, ap10_, ne11_, ne12_, ne13_, ne14_, ne15_, ne16_, ne17_, ne18_, ne19_, ne20_, ne21_, ne22_, ne23_, ne24_]; exact .r _); (· first|trivial|simp))|(apply W_draw (id := 8) [0,1,0,0,12,31,63] rfl rfl; (· simp; exact .r _); (· simp [q2, q3, q4, q5, q6, q7, q8, ap8_, ap9_, ap10_, ne11_, ne12_, ne13_, ne14_, ne15_, ne16_, ne17_, ne18_, ne19_, ne20_, ne21_, ne22_, ne23_, ne24_]; exact .r _); (· first|trivial|simp))
    refine W_cond (by simp [q2, q3, q4, q5, q6, q7, q8, ap8_, ap9_, ap10_, ne11_, ne12_, ne13_, ne14_, ne15_, ne16_, ne17_, ne18_, ne19_, ne20_, ne21_, ne22_, ne23_, ne24_]; exact .r _) (fun hc2 => ?_) (fun hc2 => ?_)
    · repeat' first|refine nx ?_|refine xb_miss (by decide) ?_|(apply W_reg;(simp [q2, q3, q4, q5, q6, q7, q8, ap8_, ap9_, ap10_, ne11_, ne12_, ne13_, ne14_, ne15_, ne16_, ne17_, ne18_, ne19_, ne20_, ne21_, ne22_, ne23_, ne24_, c6, hr3, hal];exact .r _))|(apply W_draw (id := 4) [0,1,0,0,12,28,63,127,255] rfl rfl; (· simp; exact .r _); (· simp [q2, q3, q4, q5, q6, q7, q8, ap8_, ap9_, ap10_, ne11_, ne12_, ne13_, ne14_, ne15_, ne16_, ne17_, ne18_, ne19_, ne20_, ne21_, ne22_, ne23_, ne24_, c6, hr3, hal]; exact .r _); (· first|trivial|simp))|(apply W_draw (id := 8) [0,1,0,0,12,31,63] rfl rfl; (· simp; exact .r _); (· simp [q2, q3, q4, q5, q6, q7, q8, ap8_, ap9_, ap10_, ne11_, ne12_, ne13_, ne14_, ne15_, ne16_, ne17_, ne18_, ne19_, ne20_, ne21_, ne22_, ne23_, ne24_, c6, hr3, hal]; exact .r _); (· first|trivial|simp))
      exact EndsP.mk (cs' := CU b i5 w5) (x := xvF ⟨a.rel, a.args.set 0 y3⟩) (v := .agg [In a.rel, .ref oA a.args.length []]) (by simp [q2, q3, q4, q5, q6, q7, q8, ap8_, ap9_, ap10_, ne11_, ne12_, ne13_, ne14_, ne15_, ne16_, ne17_, ne18_, ne19_, ne20_, ne21_, ne22_, ne23_, ne24_]) (by simp [q2, q3, q4, q5, q6, q7, q8, ap8_, ap9_, ap10_, ne11_, ne12_, ne13_, ne14_, ne15_, ne16_, ne17_, ne18_, ne19_, ne20_, ne21_, ne22_, ne23_, ne24_]) (by simp [q2, q3, q4, q5, q6, q7, q8, ap8_, ap9_, ap10_, ne11_, ne12_, ne13_, ne14_, ne15_, ne16_, ne17_, ne18_, ne19_, ne20_, ne21_, ne22_, ne23_, ne24_, rowsE_set, putT]) ⟨⟨⟨a.rel, a.args.set 0 y3⟩, by simp; omega, rfl⟩, i5, w5, hi5, rfl⟩
    · simp at hc2
  repeat' first|refine nx ?_|refine xb_miss (by decide) ?_|(apply W_reg;(simp [q2, q3, q4, q5, q6, q7, q8, ap8_, ap9_, ap10_, ne11_, ne12_, ne13_, ne14_, ne15_, ne16_, ne17_, ne18_, ne19_, ne20_, ne21_, ne22_, ne23_, ne24_, c3, k0, k1, k2];exact .r _))|(apply W_draw (id := 4) [0,1,0,0,12,28,63,127,255] rfl rfl; (· simp; exact .r _); (· simp [q2, q3, q4, q5, q6, q7, q8, ap8_, ap9_, ap10_, ne11_, ne12_, ne13_, ne14_, ne15_, ne16_, ne17_, ne18_, ne19_, ne20_, ne21_, ne22_, ne23_, ne24_, c3, k0, k1, k2]; exact .r _); (· first|trivial|simp))|(apply W_draw (id := 8) [0,1,0,0,12,31,63] rfl rfl; (· simp; exact .r _); (· simp [q2, q3, q4, q5, q6, q7, q8, ap8_, ap9_, ap10_, ne11_, ne12_, ne13_, ne14_, ne15_, ne16_, ne17_, ne18_, ne19_, ne20_, ne21_, ne22_, ne23_, ne24_, c3, k0, k1, k2]; exact .r _); (· first|trivial|simp))
  refine W_cond (by simp [q2, q3, q4, q5, q6, q7, q8, ap8_, ap9_, ap10_, ne11_, ne12_, ne13_, ne14_, ne15_, ne16_, ne17_, ne18_, ne19_, ne20_, ne21_, ne22_, ne23_, ne24_]; exact .r _) (fun hc2 => ?_) (fun hc2 => ?_)
  · simp at hc2
  repeat' first|refine nx ?_|refine xb_miss (by decide) ?_|(apply W_reg;(simp [q2, q3, q4, q5, q6, q7, q8, ap8_, ap9_, ap10_, ne11_, ne12_, ne13_, ne14_, ne15_, ne16_, ne17_, ne18_, ne19_, ne20_, ne21_, ne22_, ne23_, ne24_, k1, k2];exact .r _))|(apply W_draw (id := 4) [0,1,0,0,12,28,63,127,255] rfl rfl; (· simp; exact .r _); (· simp [q2, q3, q4, q5, q6, q7, q8, ap8_, ap9_, ap10_, ne11_, ne12_, ne13_, ne14_, ne15_, ne16_, ne17_, ne18_, ne19_, ne20_, ne21_, ne22_, ne23_, ne24_, k1, k2]; exact .r _); (· first|trivial|simp))|(apply W_draw (id := 8) [0,1,0,0,12,31,63] rfl rfl; (· simp; exact .r _); (· simp [q2, q3, q4, q5, q6, q7, q8, ap8_, ap9_, ap10_, ne11_, ne12_, ne13_, ne14_, ne15_, ne16_, ne17_, ne18_, ne19_, ne20_, ne21_, ne22_, ne23_, ne24_, k1, k2]; exact .r _); (· first|trivial|simp))
  refine W_cond (by simp [q2, q3, q4, q5, q6, q7, q8, ap8_, ap9_, ap10_, ne11_, ne12_, ne13_, ne14_, ne15_, ne16_, ne17_, ne18_, ne19_, ne20_, ne21_, ne22_, ne23_, ne24_]; exact .r _) (fun hc2 => ?_) (fun hc2 => ?_)
  · simp at hc2
  repeat' first|refine nx ?_|refine xb_miss (by decide) ?_|(apply W_reg;(simp [q2, q3, q4, q5, q6, q7, q8, ap8_, ap9_, ap10_, ne11_, ne12_, ne13_, ne14_, ne15_, ne16_, ne17_, ne18_, ne19_, ne20_, ne21_, ne22_, ne23_, ne24_, k2];exact .r _))|(apply W_draw (id := 4) [0,1,0,0,12,28,63,127,255] rfl rfl; (· simp; exact .r _); (· simp [q2, q3, q4, q5, q6, q7, q8, ap8_, ap9_, ap10_, ne11_, ne12_, ne13_, ne14_, ne15_, ne16_, ne17_, ne18_, ne19_, ne20_, ne21_, ne22_, ne23_, ne24_, k2]; exact .r _); (· first|trivial|simp))|(apply W_draw (id := 8) [0,1,0,0,12,31,63] rfl rfl; (· simp; exact .r _); (· simp [q2, q3, q4, q5, q6, q7, q8, ap8_, ap9_, ap10_, ne11_, ne12_, ne13_, ne14_, ne15_, ne16_, ne17_, ne18_, ne19_, ne20_, ne21_, ne22_, ne23_, ne24_, k2]; exact .r _); (· first|trivial|simp))
  refine W_cond (by simp [q2, q3, q4, q5, q6, q7, q8, ap8_, ap9_, ap10_, ne11_, ne12_, ne13_, ne14_, ne15_, ne16_, ne17_, ne18_, ne19_, ne20_, ne21_, ne22_, ne23_, ne24_]; exact .r _) (fun hc2 => ?_) (fun hc2 => ?_)
  · simp at hc2
  repeat' first|refine nx ?_|refine xb_miss (by decide) ?_|(apply W_reg;(simp [q2, q3, q4, q5, q6, q7, q8, ap8_, ap9_, ap10_, ne11_, ne12_, ne13_, ne14_, ne15_, ne16_, ne17_, ne18_, ne19_, ne20_, ne21_, ne22_, ne23_, ne24_];exact .r _))|(apply W_draw (id := 4) [0,1,0,0,12,28,63,127,255] rfl rfl; (· simp; exact .r _); (· simp [q2, q3, q4, q5, q6, q7, q8, ap8_, ap9_, ap10_, ne11_, ne12_, ne13_, ne14_, ne15_, ne16_, ne17_, ne18_, ne19_, ne20_, ne21_, ne22_, ne23_, ne24_]; exact .r _); (· first|trivial|simp))|(apply W_draw (id := 8) [0,1,0,0,12,31,63] rfl rfl; (· simp; exact .r _); (· simp [q2, q3, q4, q5, q6, q7, q8, ap8_, ap9_, ap10_, ne11_, ne12_, ne13_, ne14_, ne15_, ne16_, ne17_, ne18_, ne19_, ne20_, ne21_, ne22_, ne23_, ne24_]; exact .r _); (· first|trivial|simp))
  exact EndsP.mk (cs' := CU b i2 w2) (x := xvF a) (v := .agg [In a.rel, .ref oA a.args.length []]) (by simp [q2, q3, q4, q5, q6, q7, q8, ap8_, ap9_, ap10_, ne11_, ne12_, ne13_, ne14_, ne15_, ne16_, ne17_, ne18_, ne19_, ne20_, ne21_, ne22_, ne23_, ne24_]) (by simp [q2, q3, q4, q5, q6, q7, q8, ap8_, ap9_, ap10_, ne11_, ne12_, ne13_, ne14_, ne15_, ne16_, ne17_, ne18_, ne19_, ne20_, ne21_, ne22_, ne23_, ne24_]) (by simp [q2, q3, q4, q5, q6, q7, q8, ap8_, ap9_, ap10_, ne11_, ne12_, ne13_, ne14_, ne15_, ne16_, ne17_, ne18_, ne19_, ne20_, ne21_, ne22_, ne23_, ne24_]) ⟨⟨a, by omega, rfl⟩, i2, w2, hi2, rfl⟩
theorem nz_cases {z : T} {rows : List (List T)} (h : z.nz = .sl rows) : z = .sl rows ∨ (z = .nl ∧ rows = []) := by
  cases z with
  | nl => right; simp [T.nz] at h; exact ⟨rfl, h⟩
  | sl r => left; simpa [T.nz] using h
  | _ => simp [T.nz] at h
/-- How a drawn schema is handed back: as a slice of its own, or as what may be shared. -/
def XS (ar : List Int) (x : XV) : Prop := x = .own 1 (rowsE ar) ∨ ∃ (y : T) (f : Bool), y.nz = .sl (rowsE ar) ∧ x = .t y f
end Go.Proofs.YtpdpgfagklhpaaaGreat.V

