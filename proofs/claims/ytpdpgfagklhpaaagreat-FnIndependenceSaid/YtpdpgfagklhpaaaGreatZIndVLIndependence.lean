/- Out of YtpdpgfagklhpaaaGreatVLIndependence: what the claim needs of it. Conditions: each declaration's own. -/
import Derived.Test.YtpdpgfagklhpaaaGreatZIndM8
namespace Go.Proofs.YtpdpgfagklhpaaaGreat.V
open Go Go.Proofs
set_option linter.unusedVariables false
set_option linter.unusedSimpArgs false
theorem cntA_sm {c : Sch} {q : Qry} {db : List RA} (hh : q.head.length ≤ 1000) : Sm (cntA c q db) ∧ ∀ x ∈ cntA c q db, Sm x.tuple := by
  unfold cntA
  have hB1 : (if isQry c q && isDb c db then rawB q db else []).length ≤ 331776 := by
    split
    · rename_i e; rw [Bool.and_eq_true] at e; exact (rawB_bd e.1 e.2).1
    · simp
  generalize (if isQry c q && isDb c db then rawB q db else []) = B at *
  have hll : (srt cmpI (B.map (headR q))).length = B.length := by rw [srt_perm.length_eq, List.length_map]
  obtain ⟨h1, h2⟩ := runs_bd (srt cmpI (B.map (headR q))) (srt cmpI (B.map (headR q))).length (Nat.le_refl _)
  rw [List.take_length] at h1 h2
  refine ⟨by unfold Sm; omega, fun x hx => ?_⟩
  have := (h2 x hx).2.2
  obtain ⟨r, _, hr⟩ := List.mem_map.1 (srt_perm.mem_iff.1 this)
  rw [← hr, headR]; unfold Sm; rw [List.length_map]; omega
theorem bd_ints {N : Nat} (l : List Int) (h : l.length ≤ N) : Lw.bd N l := ⟨h, fun _ _ => trivial⟩
theorem bd_atoms {N k : Nat} {l : List RA} (h : l.length ≤ N) (hk : k ≤ N) (ha : ∀ a ∈ l, a.args.length ≤ k) : Lw.bd N l := ⟨h, fun a g => bd_ints a.args (Nat.le_trans (ha a g) hk)⟩
set_option maxRecDepth 20000 in
set_option maxHeartbeats 8000000 in
theorem lawIndependence (b : List By) (f0 : Fit b) : Ret XX 3 [Ar b] (.t (.b true) false) := by
  refine ret_W rfl Tryz.func3 rfl rfl (by simp [Tryz.f3]) ?_
  simp only [Tryz.f3]
  have c0 := cv (big_r b)
  by_cases hbig : 1048576 < b.length
  · repeat' first|refine nx ?_|refine xb_miss (by decide) ?_|(apply W_reg;(simp [c0, hbig];exact .r _))
    refine W_cond (by simp; exact .r _) (fun hc => ?_) (fun hc => ?_)
    · repeat' first|refine nx ?_|refine xb_miss (by decide) ?_|(apply W_reg;(simp;exact .r _))
      simp
    · simp at hc
  obtain ⟨x, ⟨q, a, xq, hq, ha, rfl, hxq⟩, hdr⟩ := drawMay_r b (by omega)
  have c1 := cv hdr
  obtain ⟨x, ⟨ar, p, db, g, y, f, xp, har, hp, hdb, hg4, hy, hxp, rfl⟩, hdr⟩ := drawDel_r b (by omega)
  have c2 := cv hdr
  have hqs : SmQ q := ⟨by have := hq.1; unfold Sm; omega, by have := hq.2.1; unfold Sm; omega, fun a g => by have := hq.2.2.2 a g; unfold Sm; omega⟩
  have hps : SmQ p := ⟨by have := hp.1; unfold Sm; omega, by have := hp.2.1; unfold Sm; omega, fun a g => by have := hp.2.2.2 a g; unfold Sm; omega⟩
  have hds := hdb.sm (by omega) (by omega)
  have hgs : Sm g.args := by unfold Sm; omega
  have bc : Lw.bd 1048576 (⟨ar⟩ : Sch) := bd_ints ar (by omega)
  have bp : Lw.bd 1048576 p := ⟨bd_ints p.head (by have := hp.1; omega), bd_atoms (k := 3) (by have := hp.2.1; omega) (by omega) hp.2.2.2⟩
  have bd : Lw.bd 1048576 db := bd_atoms (k := 4) (by have := hdb.1; omega) (by omega) hdb.2
  have bd2 : Lw.bd 1048576 (remF db g) := bd_atoms (k := 4) (by have := hdb.1; have := remF_len db g; omega) (by omega) fun a h => hdb.2 a (remF_mem.1 h).1
  obtain ⟨r, hr⟩ : ∃ r, mayA q a = r := ⟨_, rfl⟩
  have m1 := cv (implMay_r q a hqs (by unfold Sm; omega))
  have m2 := cv (specMay_r q a hqs (by unfold Sm; omega))
  rw [hr] at m1 m2
  have m3 := cv (specRem_r ⟨ar⟩ db g (by unfold Sm; simp only; omega) hds hgs)
  have m4 := cv (implMay_r p g hps hgs)
  have m5 := cv (specCount_r ⟨ar⟩ p db bc bp bd)
  have m6 := cv (specCount_r ⟨ar⟩ p (remF db g) bc bp bd2)
  have m7 := cv (implDelta_r ⟨ar⟩ p db g bc bp bd)
  have hcs := cntA_sm (c := ⟨ar⟩) (q := p) (db := db) (by have := hp.1; omega)
  have m8 := cv (implSameC_r (cntA ⟨ar⟩ p db) (cntA ⟨ar⟩ p db) hcs.1 hcs.2)
  rw [decide_eq_true rfl] at m8
  repeat' first|refine nx ?_|refine xb_miss (by decide) ?_|(apply W_reg;(simp [c0, hbig];exact .r _))
  refine W_cond (by simp; exact .r _) (fun hc => ?_) (fun hc => ?_)
  · simp at hc
  rcases hxq with rfl | ⟨rfl, hqn⟩
  all_goals rcases nz_cases hy with rfl | ⟨rfl, hr0⟩
  all_goals rcases hxp with rfl | ⟨rfl, hpn⟩
  · skip
    simp only [Ag, cells_Sch, cells_Q, cells_RA, List.map_cons, List.map_nil] at m1 m2 m3 m4 m5 m6 m7
    by_cases hg : (isDb ⟨ar⟩ db && decide (g ∈ db)) = true
    · rw [show xRem ⟨ar⟩ db g = .tup [.own 2 (rowsE (remF db g)), .t (.b true) false] from if_pos hg] at m3
      have hdb2 : isDb ⟨ar⟩ db = true := by rw [Bool.and_eq_true] at hg; exact hg.1
      cases hm : mayA p g
      · rw [hm] at m4
        rw [deltaC_no hm] at m7
        rw [cntA_remF hdb2 hm] at m6
        repeat' first|refine nx ?_|refine xb_miss (by decide) ?_|(apply W_reg;(simp [c1, m1, m2];exact .r _))
        refine W_cond (by simp; exact .r _) (fun hc => ?_) (fun hc => ?_)
        · simp at hc
        repeat' first|refine nx ?_|refine xb_miss (by decide) ?_|(apply W_reg;(simp [c2, m3, m4];exact .r _))
        refine W_cond (by simp; exact .r _) (fun hc => ?_) (fun hc => ?_)
        · cases hc
        repeat' first|refine nx ?_|refine xb_miss (by decide) ?_|(apply W_reg;(simp [m5, m6, m8, m7];exact .r _))|(apply W_draw (id := 11) [0,0,0,7,0,0,0,127,255,511,1023,1023,1023,1023,16383,32767,65535,131071,262143] rfl rfl; (· simp; exact .r _); (· simp [m5, m6, m8, m7]; exact .r _); (· first|trivial|simp))
        simp
      · rw [hm] at m4
        repeat' first|refine nx ?_|refine xb_miss (by decide) ?_|(apply W_reg;(simp [c1, m1, m2];exact .r _))
        refine W_cond (by simp; exact .r _) (fun hc => ?_) (fun hc => ?_)
        · simp at hc
        repeat' first|refine nx ?_|refine xb_miss (by decide) ?_|(apply W_reg;(simp [c2, m3, m4];exact .r _))
        refine W_cond (by simp; exact .r _) (fun hc => ?_) (fun hc => ?_)
        · repeat' first|refine nx ?_|refine xb_miss (by decide) ?_|(apply W_reg;(simp;exact .r _))
          simp
        · cases hc
    · rw [show xRem ⟨ar⟩ db g = .tup [.own 2 (rowsE db), .t (.b false) false] from if_neg hg] at m3
      repeat' first|refine nx ?_|refine xb_miss (by decide) ?_|(apply W_reg;(simp [c1, m1, m2];exact .r _))
      refine W_cond (by simp; exact .r _) (fun hc => ?_) (fun hc => ?_)
      · simp at hc
      repeat' first|refine nx ?_|refine xb_miss (by decide) ?_|(apply W_reg;(simp [c2, m3];exact .r _))
      refine W_cond (by simp; exact .r _) (fun hc => ?_) (fun hc => ?_)
      · repeat' first|refine nx ?_|refine xb_miss (by decide) ?_|(apply W_reg;(simp;exact .r _))
        simp
      · cases hc
  · skip
    simp only [Ag, cells_Sch, cells_Q, cells_RA, List.map_cons, List.map_nil] at m1 m2 m3 m4 m5 m6 m7
    simp only [hpn, rowsE_nil] at m4 m5 m6 m7
    by_cases hg : (isDb ⟨ar⟩ db && decide (g ∈ db)) = true
    · rw [show xRem ⟨ar⟩ db g = .tup [.own 2 (rowsE (remF db g)), .t (.b true) false] from if_pos hg] at m3
      have hdb2 : isDb ⟨ar⟩ db = true := by rw [Bool.and_eq_true] at hg; exact hg.1
      cases hm : mayA p g
      · rw [hm] at m4
        rw [deltaC_no hm] at m7
        rw [cntA_remF hdb2 hm] at m6
        repeat' first|refine nx ?_|refine xb_miss (by decide) ?_|(apply W_reg;(simp [c1, m1, m2];exact .r _))
        refine W_cond (by simp; exact .r _) (fun hc => ?_) (fun hc => ?_)
        · simp at hc
        repeat' first|refine nx ?_|refine xb_miss (by decide) ?_|(apply W_reg;(simp [c2, m3, m4];exact .r _))
        refine W_cond (by simp; exact .r _) (fun hc => ?_) (fun hc => ?_)
        · cases hc
        repeat' first|refine nx ?_|refine xb_miss (by decide) ?_|(apply W_reg;(simp [m5, m6, m8, m7];exact .r _))|(apply W_draw (id := 11) [0,0,0,7,0,0,0,127,255,511,1023,1023,1023,1023,16383,32767,65535,131071,262143] rfl rfl; (· simp; exact .r _); (· simp [m5, m6, m8, m7]; exact .r _); (· first|trivial|simp))
        simp
      · rw [hm] at m4
        repeat' first|refine nx ?_|refine xb_miss (by decide) ?_|(apply W_reg;(simp [c1, m1, m2];exact .r _))
        refine W_cond (by simp; exact .r _) (fun hc => ?_) (fun hc => ?_)
        · simp at hc
        repeat' first|refine nx ?_|refine xb_miss (by decide) ?_|(apply W_reg;(simp [c2, m3, m4];exact .r _))
        refine W_cond (by simp; exact .r _) (fun hc => ?_) (fun hc => ?_)
        · repeat' first|refine nx ?_|refine xb_miss (by decide) ?_|(apply W_reg;(simp;exact .r _))
          simp
        · cases hc
    · rw [show xRem ⟨ar⟩ db g = .tup [.own 2 (rowsE db), .t (.b false) false] from if_neg hg] at m3
      repeat' first|refine nx ?_|refine xb_miss (by decide) ?_|(apply W_reg;(simp [c1, m1, m2];exact .r _))
      refine W_cond (by simp; exact .r _) (fun hc => ?_) (fun hc => ?_)
      · simp at hc
      repeat' first|refine nx ?_|refine xb_miss (by decide) ?_|(apply W_reg;(simp [c2, m3];exact .r _))
      refine W_cond (by simp; exact .r _) (fun hc => ?_) (fun hc => ?_)
      · repeat' first|refine nx ?_|refine xb_miss (by decide) ?_|(apply W_reg;(simp;exact .r _))
        simp
      · cases hc
  · skip
    simp only [Ag, cells_Sch, cells_Q, cells_RA, List.map_cons, List.map_nil] at m1 m2 m3 m4 m5 m6 m7
    rw [hr0] at m3 m5 m6 m7
    by_cases hg : (isDb ⟨ar⟩ db && decide (g ∈ db)) = true
    · rw [show xRem ⟨ar⟩ db g = .tup [.own 2 (rowsE (remF db g)), .t (.b true) false] from if_pos hg] at m3
      have hdb2 : isDb ⟨ar⟩ db = true := by rw [Bool.and_eq_true] at hg; exact hg.1
      cases hm : mayA p g
      · rw [hm] at m4
        rw [deltaC_no hm] at m7
        rw [cntA_remF hdb2 hm] at m6
        repeat' first|refine nx ?_|refine xb_miss (by decide) ?_|(apply W_reg;(simp [c1, m1, m2];exact .r _))
        refine W_cond (by simp; exact .r _) (fun hc => ?_) (fun hc => ?_)
        · simp at hc
        repeat' first|refine nx ?_|refine xb_miss (by decide) ?_|(apply W_reg;(simp [c2, m3, m4];exact .r _))
        refine W_cond (by simp; exact .r _) (fun hc => ?_) (fun hc => ?_)
        · cases hc
        repeat' first|refine nx ?_|refine xb_miss (by decide) ?_|(apply W_reg;(simp [m5, m6, m8, m7];exact .r _))|(apply W_draw (id := 11) [0,0,0,7,0,0,0,127,255,511,1023,1023,1023,1023,16383,32767,65535,131071,262143] rfl rfl; (· simp; exact .r _); (· simp [m5, m6, m8, m7]; exact .r _); (· first|trivial|simp))
        simp
      · rw [hm] at m4
        repeat' first|refine nx ?_|refine xb_miss (by decide) ?_|(apply W_reg;(simp [c1, m1, m2];exact .r _))
        refine W_cond (by simp; exact .r _) (fun hc => ?_) (fun hc => ?_)
        · simp at hc
        repeat' first|refine nx ?_|refine xb_miss (by decide) ?_|(apply W_reg;(simp [c2, m3, m4];exact .r _))
        refine W_cond (by simp; exact .r _) (fun hc => ?_) (fun hc => ?_)
        · repeat' first|refine nx ?_|refine xb_miss (by decide) ?_|(apply W_reg;(simp;exact .r _))
          simp
        · cases hc
    · rw [show xRem ⟨ar⟩ db g = .tup [.own 2 (rowsE db), .t (.b false) false] from if_neg hg] at m3
      repeat' first|refine nx ?_|refine xb_miss (by decide) ?_|(apply W_reg;(simp [c1, m1, m2];exact .r _))
      refine W_cond (by simp; exact .r _) (fun hc => ?_) (fun hc => ?_)
      · simp at hc
      repeat' first|refine nx ?_|refine xb_miss (by decide) ?_|(apply W_reg;(simp [c2, m3];exact .r _))
      refine W_cond (by simp; exact .r _) (fun hc => ?_) (fun hc => ?_)
      · repeat' first|refine nx ?_|refine xb_miss (by decide) ?_|(apply W_reg;(simp;exact .r _))
        simp
      · cases hc
  · skip
    simp only [Ag, cells_Sch, cells_Q, cells_RA, List.map_cons, List.map_nil] at m1 m2 m3 m4 m5 m6 m7
    rw [hr0] at m3 m5 m6 m7
    simp only [hpn, rowsE_nil] at m4 m5 m6 m7
    by_cases hg : (isDb ⟨ar⟩ db && decide (g ∈ db)) = true
    · rw [show xRem ⟨ar⟩ db g = .tup [.own 2 (rowsE (remF db g)), .t (.b true) false] from if_pos hg] at m3
      have hdb2 : isDb ⟨ar⟩ db = true := by rw [Bool.and_eq_true] at hg; exact hg.1
      cases hm : mayA p g
      · rw [hm] at m4
        rw [deltaC_no hm] at m7
        rw [cntA_remF hdb2 hm] at m6
        repeat' first|refine nx ?_|refine xb_miss (by decide) ?_|(apply W_reg;(simp [c1, m1, m2];exact .r _))
        refine W_cond (by simp; exact .r _) (fun hc => ?_) (fun hc => ?_)
        · simp at hc
        repeat' first|refine nx ?_|refine xb_miss (by decide) ?_|(apply W_reg;(simp [c2, m3, m4];exact .r _))
        refine W_cond (by simp; exact .r _) (fun hc => ?_) (fun hc => ?_)
        · cases hc
        repeat' first|refine nx ?_|refine xb_miss (by decide) ?_|(apply W_reg;(simp [m5, m6, m8, m7];exact .r _))|(apply W_draw (id := 11) [0,0,0,7,0,0,0,127,255,511,1023,1023,1023,1023,16383,32767,65535,131071,262143] rfl rfl; (· simp; exact .r _); (· simp [m5, m6, m8, m7]; exact .r _); (· first|trivial|simp))
        simp
      · rw [hm] at m4
        repeat' first|refine nx ?_|refine xb_miss (by decide) ?_|(apply W_reg;(simp [c1, m1, m2];exact .r _))
        refine W_cond (by simp; exact .r _) (fun hc => ?_) (fun hc => ?_)
        · simp at hc
        repeat' first|refine nx ?_|refine xb_miss (by decide) ?_|(apply W_reg;(simp [c2, m3, m4];exact .r _))
        refine W_cond (by simp; exact .r _) (fun hc => ?_) (fun hc => ?_)
        · repeat' first|refine nx ?_|refine xb_miss (by decide) ?_|(apply W_reg;(simp;exact .r _))
          simp
        · cases hc
    · rw [show xRem ⟨ar⟩ db g = .tup [.own 2 (rowsE db), .t (.b false) false] from if_neg hg] at m3
      repeat' first|refine nx ?_|refine xb_miss (by decide) ?_|(apply W_reg;(simp [c1, m1, m2];exact .r _))
      refine W_cond (by simp; exact .r _) (fun hc => ?_) (fun hc => ?_)
      · simp at hc
      repeat' first|refine nx ?_|refine xb_miss (by decide) ?_|(apply W_reg;(simp [c2, m3];exact .r _))
      refine W_cond (by simp; exact .r _) (fun hc => ?_) (fun hc => ?_)
      · repeat' first|refine nx ?_|refine xb_miss (by decide) ?_|(apply W_reg;(simp;exact .r _))
        simp
      · cases hc
  · skip
    simp only [Ag, cells_Sch, cells_Q, cells_RA, List.map_cons, List.map_nil] at m1 m2 m3 m4 m5 m6 m7
    simp only [hqn, rowsE_nil] at m1 m2
    by_cases hg : (isDb ⟨ar⟩ db && decide (g ∈ db)) = true
    · rw [show xRem ⟨ar⟩ db g = .tup [.own 2 (rowsE (remF db g)), .t (.b true) false] from if_pos hg] at m3
      have hdb2 : isDb ⟨ar⟩ db = true := by rw [Bool.and_eq_true] at hg; exact hg.1
      cases hm : mayA p g
      · rw [hm] at m4
        rw [deltaC_no hm] at m7
        rw [cntA_remF hdb2 hm] at m6
        repeat' first|refine nx ?_|refine xb_miss (by decide) ?_|(apply W_reg;(simp [c1, m1, m2];exact .r _))
        refine W_cond (by simp; exact .r _) (fun hc => ?_) (fun hc => ?_)
        · simp at hc
        repeat' first|refine nx ?_|refine xb_miss (by decide) ?_|(apply W_reg;(simp [c2, m3, m4];exact .r _))
        refine W_cond (by simp; exact .r _) (fun hc => ?_) (fun hc => ?_)
        · cases hc
        repeat' first|refine nx ?_|refine xb_miss (by decide) ?_|(apply W_reg;(simp [m5, m6, m8, m7];exact .r _))|(apply W_draw (id := 11) [0,0,0,7,0,0,0,127,255,511,1023,1023,1023,1023,16383,32767,65535,131071,262143] rfl rfl; (· simp; exact .r _); (· simp [m5, m6, m8, m7]; exact .r _); (· first|trivial|simp))
        simp
      · rw [hm] at m4
        repeat' first|refine nx ?_|refine xb_miss (by decide) ?_|(apply W_reg;(simp [c1, m1, m2];exact .r _))
        refine W_cond (by simp; exact .r _) (fun hc => ?_) (fun hc => ?_)
        · simp at hc
        repeat' first|refine nx ?_|refine xb_miss (by decide) ?_|(apply W_reg;(simp [c2, m3, m4];exact .r _))
        refine W_cond (by simp; exact .r _) (fun hc => ?_) (fun hc => ?_)
        · repeat' first|refine nx ?_|refine xb_miss (by decide) ?_|(apply W_reg;(simp;exact .r _))
          simp
        · cases hc
    · rw [show xRem ⟨ar⟩ db g = .tup [.own 2 (rowsE db), .t (.b false) false] from if_neg hg] at m3
      repeat' first|refine nx ?_|refine xb_miss (by decide) ?_|(apply W_reg;(simp [c1, m1, m2];exact .r _))
      refine W_cond (by simp; exact .r _) (fun hc => ?_) (fun hc => ?_)
      · simp at hc
      repeat' first|refine nx ?_|refine xb_miss (by decide) ?_|(apply W_reg;(simp [c2, m3];exact .r _))
      refine W_cond (by simp; exact .r _) (fun hc => ?_) (fun hc => ?_)
      · repeat' first|refine nx ?_|refine xb_miss (by decide) ?_|(apply W_reg;(simp;exact .r _))
        simp
      · cases hc
  · skip
    simp only [Ag, cells_Sch, cells_Q, cells_RA, List.map_cons, List.map_nil] at m1 m2 m3 m4 m5 m6 m7
    simp only [hqn, rowsE_nil] at m1 m2
    simp only [hpn, rowsE_nil] at m4 m5 m6 m7
    by_cases hg : (isDb ⟨ar⟩ db && decide (g ∈ db)) = true
    · rw [show xRem ⟨ar⟩ db g = .tup [.own 2 (rowsE (remF db g)), .t (.b true) false] from if_pos hg] at m3
      have hdb2 : isDb ⟨ar⟩ db = true := by rw [Bool.and_eq_true] at hg; exact hg.1
      cases hm : mayA p g
      · rw [hm] at m4
        rw [deltaC_no hm] at m7
        rw [cntA_remF hdb2 hm] at m6
        repeat' first|refine nx ?_|refine xb_miss (by decide) ?_|(apply W_reg;(simp [c1, m1, m2];exact .r _))
        refine W_cond (by simp; exact .r _) (fun hc => ?_) (fun hc => ?_)
        · simp at hc
        repeat' first|refine nx ?_|refine xb_miss (by decide) ?_|(apply W_reg;(simp [c2, m3, m4];exact .r _))
        refine W_cond (by simp; exact .r _) (fun hc => ?_) (fun hc => ?_)
        · cases hc
        repeat' first|refine nx ?_|refine xb_miss (by decide) ?_|(apply W_reg;(simp [m5, m6, m8, m7];exact .r _))|(apply W_draw (id := 11) [0,0,0,7,0,0,0,127,255,511,1023,1023,1023,1023,16383,32767,65535,131071,262143] rfl rfl; (· simp; exact .r _); (· simp [m5, m6, m8, m7]; exact .r _); (· first|trivial|simp))
        simp
      · rw [hm] at m4
        repeat' first|refine nx ?_|refine xb_miss (by decide) ?_|(apply W_reg;(simp [c1, m1, m2];exact .r _))
        refine W_cond (by simp; exact .r _) (fun hc => ?_) (fun hc => ?_)
        · simp at hc
        repeat' first|refine nx ?_|refine xb_miss (by decide) ?_|(apply W_reg;(simp [c2, m3, m4];exact .r _))
        refine W_cond (by simp; exact .r _) (fun hc => ?_) (fun hc => ?_)
        · repeat' first|refine nx ?_|refine xb_miss (by decide) ?_|(apply W_reg;(simp;exact .r _))
          simp
        · cases hc
    · rw [show xRem ⟨ar⟩ db g = .tup [.own 2 (rowsE db), .t (.b false) false] from if_neg hg] at m3
      repeat' first|refine nx ?_|refine xb_miss (by decide) ?_|(apply W_reg;(simp [c1, m1, m2];exact .r _))
      refine W_cond (by simp; exact .r _) (fun hc => ?_) (fun hc => ?_)
      · simp at hc
      repeat' first|refine nx ?_|refine xb_miss (by decide) ?_|(apply W_reg;(simp [c2, m3];exact .r _))
      refine W_cond (by simp; exact .r _) (fun hc => ?_) (fun hc => ?_)
      · repeat' first|refine nx ?_|refine xb_miss (by decide) ?_|(apply W_reg;(simp;exact .r _))
        simp
      · cases hc
  · skip
    simp only [Ag, cells_Sch, cells_Q, cells_RA, List.map_cons, List.map_nil] at m1 m2 m3 m4 m5 m6 m7
    simp only [hqn, rowsE_nil] at m1 m2
    rw [hr0] at m3 m5 m6 m7
    by_cases hg : (isDb ⟨ar⟩ db && decide (g ∈ db)) = true
    · rw [show xRem ⟨ar⟩ db g = .tup [.own 2 (rowsE (remF db g)), .t (.b true) false] from if_pos hg] at m3
      have hdb2 : isDb ⟨ar⟩ db = true := by rw [Bool.and_eq_true] at hg; exact hg.1
      cases hm : mayA p g
      · rw [hm] at m4
        rw [deltaC_no hm] at m7
        rw [cntA_remF hdb2 hm] at m6
        repeat' first|refine nx ?_|refine xb_miss (by decide) ?_|(apply W_reg;(simp [c1, m1, m2];exact .r _))
        refine W_cond (by simp; exact .r _) (fun hc => ?_) (fun hc => ?_)
        · simp at hc
        repeat' first|refine nx ?_|refine xb_miss (by decide) ?_|(apply W_reg;(simp [c2, m3, m4];exact .r _))
        refine W_cond (by simp; exact .r _) (fun hc => ?_) (fun hc => ?_)
        · cases hc
        repeat' first|refine nx ?_|refine xb_miss (by decide) ?_|(apply W_reg;(simp [m5, m6, m8, m7];exact .r _))|(apply W_draw (id := 11) [0,0,0,7,0,0,0,127,255,511,1023,1023,1023,1023,16383,32767,65535,131071,262143] rfl rfl; (· simp; exact .r _); (· simp [m5, m6, m8, m7]; exact .r _); (· first|trivial|simp))
        simp
      · rw [hm] at m4
        repeat' first|refine nx ?_|refine xb_miss (by decide) ?_|(apply W_reg;(simp [c1, m1, m2];exact .r _))
        refine W_cond (by simp; exact .r _) (fun hc => ?_) (fun hc => ?_)
        · simp at hc
        repeat' first|refine nx ?_|refine xb_miss (by decide) ?_|(apply W_reg;(simp [c2, m3, m4];exact .r _))
        refine W_cond (by simp; exact .r _) (fun hc => ?_) (fun hc => ?_)
        · repeat' first|refine nx ?_|refine xb_miss (by decide) ?_|(apply W_reg;(simp;exact .r _))
          simp
        · cases hc
    · rw [show xRem ⟨ar⟩ db g = .tup [.own 2 (rowsE db), .t (.b false) false] from if_neg hg] at m3
      repeat' first|refine nx ?_|refine xb_miss (by decide) ?_|(apply W_reg;(simp [c1, m1, m2];exact .r _))
      refine W_cond (by simp; exact .r _) (fun hc => ?_) (fun hc => ?_)
      · simp at hc
      repeat' first|refine nx ?_|refine xb_miss (by decide) ?_|(apply W_reg;(simp [c2, m3];exact .r _))
      refine W_cond (by simp; exact .r _) (fun hc => ?_) (fun hc => ?_)
      · repeat' first|refine nx ?_|refine xb_miss (by decide) ?_|(apply W_reg;(simp;exact .r _))
        simp
      · cases hc
  · skip
    simp only [Ag, cells_Sch, cells_Q, cells_RA, List.map_cons, List.map_nil] at m1 m2 m3 m4 m5 m6 m7
    simp only [hqn, rowsE_nil] at m1 m2
    rw [hr0] at m3 m5 m6 m7
    simp only [hpn, rowsE_nil] at m4 m5 m6 m7
    by_cases hg : (isDb ⟨ar⟩ db && decide (g ∈ db)) = true
    · rw [show xRem ⟨ar⟩ db g = .tup [.own 2 (rowsE (remF db g)), .t (.b true) false] from if_pos hg] at m3
      have hdb2 : isDb ⟨ar⟩ db = true := by rw [Bool.and_eq_true] at hg; exact hg.1
      cases hm : mayA p g
      · rw [hm] at m4
        rw [deltaC_no hm] at m7
        rw [cntA_remF hdb2 hm] at m6
        repeat' first|refine nx ?_|refine xb_miss (by decide) ?_|(apply W_reg;(simp [c1, m1, m2];exact .r _))
        refine W_cond (by simp; exact .r _) (fun hc => ?_) (fun hc => ?_)
        · simp at hc
        repeat' first|refine nx ?_|refine xb_miss (by decide) ?_|(apply W_reg;(simp [c2, m3, m4];exact .r _))
        refine W_cond (by simp; exact .r _) (fun hc => ?_) (fun hc => ?_)
        · cases hc
        repeat' first|refine nx ?_|refine xb_miss (by decide) ?_|(apply W_reg;(simp [m5, m6, m8, m7];exact .r _))|(apply W_draw (id := 11) [0,0,0,7,0,0,0,127,255,511,1023,1023,1023,1023,16383,32767,65535,131071,262143] rfl rfl; (· simp; exact .r _); (· simp [m5, m6, m8, m7]; exact .r _); (· first|trivial|simp))
        simp
      · rw [hm] at m4
        repeat' first|refine nx ?_|refine xb_miss (by decide) ?_|(apply W_reg;(simp [c1, m1, m2];exact .r _))
        refine W_cond (by simp; exact .r _) (fun hc => ?_) (fun hc => ?_)
        · simp at hc
        repeat' first|refine nx ?_|refine xb_miss (by decide) ?_|(apply W_reg;(simp [c2, m3, m4];exact .r _))
        refine W_cond (by simp; exact .r _) (fun hc => ?_) (fun hc => ?_)
        · repeat' first|refine nx ?_|refine xb_miss (by decide) ?_|(apply W_reg;(simp;exact .r _))
          simp
        · cases hc
    · rw [show xRem ⟨ar⟩ db g = .tup [.own 2 (rowsE db), .t (.b false) false] from if_neg hg] at m3
      repeat' first|refine nx ?_|refine xb_miss (by decide) ?_|(apply W_reg;(simp [c1, m1, m2];exact .r _))
      refine W_cond (by simp; exact .r _) (fun hc => ?_) (fun hc => ?_)
      · simp at hc
      repeat' first|refine nx ?_|refine xb_miss (by decide) ?_|(apply W_reg;(simp [c2, m3];exact .r _))
      refine W_cond (by simp; exact .r _) (fun hc => ?_) (fun hc => ?_)
      · repeat' first|refine nx ?_|refine xb_miss (by decide) ?_|(apply W_reg;(simp;exact .r _))
        simp
      · cases hc
end Go.Proofs.YtpdpgfagklhpaaaGreat.V

