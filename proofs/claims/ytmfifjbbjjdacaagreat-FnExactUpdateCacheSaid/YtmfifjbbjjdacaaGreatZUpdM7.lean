/- Several texts in one: what the claim needs of them. Conditions: each declaration's own. -/
import Derived.Test.YtmfifjbbjjdacaaGreatZUpdM6
import Derived.Test.YtmfifjbbjjdacaaGreatZUpdM5
namespace Go.Proofs.YtmfifjbbjjdacaaGreat.V
open Go Go.Proofs
set_option linter.unusedVariables false
set_option linter.unusedSimpArgs false
theorem Ok.put {p o w : Nat} {ks : List (Nat × VO)} {σ : Sto} {acc : List Row} {y : VO} (h : Ok p o ks σ acc) (h1 : w ≠ p) (h2 : w ≠ o) (h3 : ∀ q ∈ ks, q.1 ≠ w) (h4 : y.clean σ.n = true) (h5 : w < σ.n) : Ok p o ks ⟨σ.n, upd σ.ob w y⟩ acc := by
  refine ⟨?_, ?_, h.pn, h.on, h.po, fun q hq => ?_, fun x hx => ?_, fun x hx => ?_⟩
  · simp only [upd_app]; rw [if_neg (fun e => h1 e.symm)]; exact h.hp
  · simp only [upd_app]; rw [if_neg (fun e => h2 e.symm)]; exact h.ho
  · obtain ⟨g1, g2, g3, g4⟩ := h.ks q hq
    exact ⟨by simp only [upd_app]; rw [if_neg (h3 q hq)]; exact g1, g2, g3, g4⟩
  · simp only [upd_app]
    split
    · exact h4
    · exact h.cl x hx
  · have hx : σ.n ≤ x := hx
    simp only [upd_app]; rw [if_neg (by omega)]; exact h.dd x hx
theorem bL_take {b : Bnd} (h : b.length = 20) : (rowsE (bL b)).take 20 = rowsE (encB b) := by
  rw [rowsE, ← List.map_take, bL, List.take_append_of_le_length (by rw [encB_len]; omega), List.take_of_length_le (by rw [encB_len]; omega)]; rfl
theorem search_c {q : Qry} {db : List RA} {p o : Nat} (hbl : q.body.length ≤ 1000) (hbody : ∀ a ∈ q.body, a.args.length ≤ 1000 ∧ ∀ t ∈ a.args, isTerm t = true) (hdl : Sm db) (hdb : ∀ x ∈ db, Sm x.args) :
    ∀ (d i : Nat) (b : Bnd) (σ0 : Sto) (acc0 : List Row) (w : Nat), q.body.length - i = d → i ≤ q.body.length → b.length = 20 → Ok p o [] σ0 acc0 → σ0.ob w = .arr (.own 0) 0 1 (rowsE (bL b)) → w ≠ p → w ≠ o → w < σ0.n → acc0.length + (binds db (q.body.drop i) b).length + 1 < 1099511627776 →
      ∃ m st sz rows, callV Ms XX σ0 313 [Ag q, Ar db, In i, .ref w 40 [], .ptr p 0] = some (.tup [], ⟨σ0.n, upd (St p o σ0 (acc0 ++ (binds db (q.body.drop i) b).map encB)).ob w (.arr m st sz rows)⟩) := by
  intro d
  induction d with
  | zero =>
    intro i b σ0 acc0 w hd hi hb hok hw hwp hwo hwn hN
    have hie : i = q.body.length := by omega
    subst hie
    rw [List.drop_length]
    simp only [binds, List.map_cons, List.map_nil]
    have h40 := bL_len hb
    have htk := bL_take hb
    have hel := encB_len b
    have z1 : ¬ (w = σ0.n) := by omega
    have z2 : ¬ (p = σ0.n) := by have := hok.pn; omega
    have z3 : ¬ (o = σ0.n) := by have := hok.on; omega
    have z1' : ¬ (σ0.n = w) := by omega
    have z2' : ¬ (σ0.n = p) := by omega
    have z3' : ¬ (σ0.n = o) := by omega
    have y1 : ¬ (w = σ0.n + 1) := by omega
    have y2 : ¬ (p = σ0.n + 1) := by have := hok.pn; omega
    have y3 : ¬ (o = σ0.n + 1) := by have := hok.on; omega
    have y1' : ¬ (σ0.n + 1 = w) := by omega
    have y2' : ¬ (σ0.n + 1 = p) := by have := hok.pn; omega
    have y3' : ¬ (σ0.n + 1 = o) := by have := hok.on; omega
    have x1' : ¬ (σ0.n + 2 = w) := by omega
    have x2' : ¬ (σ0.n + 2 = p) := by have := hok.pn; omega
    have x3' : ¬ (σ0.n + 2 = o) := by have := hok.on; omega
    have x1 : ¬ (w = σ0.n + 2) := by omega
    have x2 : ¬ (p = σ0.n + 2) := by have := hok.pn; omega
    have x3 : ¬ (o = σ0.n + 2) := by have := hok.on; omega
    have hwp' : ¬ (p = w) := fun e => hwp e.symm
    have hwo' : ¬ (o = w) := fun e => hwo e.symm
    have hop : ¬ (o = p) := fun e => hok.po e.symm
    have hpo := hok.po
    have hHp := hok.hp
    have hHo := hok.ho
    have key : ∃ r σ1, XX 313 [Ag q, Ar db, In q.body.length, .ref w 40 [], .ptr p 0] σ0 = some (r, σ1) ∧ (r = .tup [] ∧ σ0.n < σ1.n ∧ (∃ m st sz rows, σ1.ob w = .arr m st sz rows) ∧ ∀ x, x < σ0.n → x ≠ w → σ1.ob x = (St p o σ0 (acc0 ++ [encB b])).ob x) := by
      refine W_fn rfl Tryz.func313 rfl rfl (by simp [Tryz.f313]) ?_
      simp only [Tryz.f313]
      repeat' first|refine W_seq ?_|refine W_block ?_|refine W_skip ?_|refine W_ret ?_|refine W_exit ?_|refine xb_hit ?_|refine xb_miss (by decide) ?_|(apply W_reg;(simp [Ag, z1, z2, z3];exact .r _))
      refine W_cond (by simp; exact .r _) (fun hc => ?_) (fun hc => ?_)
      · repeat' first|refine W_seq ?_|refine W_block ?_|refine W_skip ?_|refine W_ret ?_|refine W_exit ?_|refine xb_hit ?_|refine xb_miss (by decide) ?_|(apply W_reg;(simp [hw, hHp, hHo, h40, htk, hel, hb, hwp, hwo, hwp', hwo', hop, hpo, z1, z2, z3, z1', z2', z3', y1, y2, y3, y1', y2', y3', x1, x2, x3, x1', x2', x3', show acc0.length + 1 < 1099511627776 by omega];exact .r _))|(apply W_draw (id := 2) [0,0,2,6,0,0,32,112,240,510,1023,2047] rfl rfl; (· simp; exact .r _); (· simp [hw, hHp, hHo, h40, htk, hel, hb, hwp, hwo, hwp', hwo', hop, hpo, z1, z2, z3, z1', z2', z3', y1, y2, y3, y1', y2', y3', x1, x2, x3, x1', x2', x3', show acc0.length + 1 < 1099511627776 by omega]; exact .r _); (· first|trivial|simp))
        refine ⟨.tup [], rfl, rfl, ?_, ?_, fun x hx hxw => ?_⟩
        · simp
        · simp [upd_app, hwp, hwo, z1, y1, x1]
        · rw [St_ob]
          by_cases e1 : x = o
          · subst e1; simp [upd_app, hpo, hop, hwo', y3, x3, rowsE_append, rowsE]
          · by_cases e2 : x = p
            · subst e2; simp [upd_app, hpo]
            · simp [upd_app, e1, e2, hxw, show ¬ x = σ0.n by omega, show ¬ x = σ0.n + 1 by omega, show ¬ x = σ0.n + 2 by omega, show ¬ x = σ0.n + 3 by omega]
      · simp at hc
    obtain ⟨r, σ1, h1, rfl, h3, ⟨m, st, sz, rows, h4⟩, h5⟩ := key
    have hst := hok.st (acc0 ++ [encB b])
    refine ⟨m, st, sz, rows, callV_cut (by rfl) h1 h3 rfl (fun x hx => ?_) (fun x hx => ?_) (fun x hx => ?_)⟩
    · simp only [upd_app]
      split
      · rename_i e; subst e; exact h4
      · rename_i e; exact h5 x hx e
    · simp only [upd_app]
      split
      · rfl
      · exact hst.cl x hx
    · simp only [upd_app]
      rw [if_neg (by omega)]; exact hst.dd x hx
  | succ d ih =>
    intro i b σ0 acc0 w hd hi hb hok hw hwp hwo hwn hN
    have hil : i < q.body.length := by omega
    have hbi := hbody _ (List.getElem_mem hil)
    have hne : ¬ ((i : Int) = q.body.length) := by omega
    have z1 : ¬ (w = σ0.n) := by omega
    have z2 : ¬ (p = σ0.n) := by have := hok.pn; omega
    have z3 : ¬ (o = σ0.n) := by have := hok.on; omega
    let G : RA → List Bnd := fun x => match mtchA q.body[i] x b with
      | some b' => binds db (q.body.drop (i + 1)) b'
      | none => []
    have hG : binds db (q.body.drop i) b = db.flatMap G := by rw [List.drop_eq_getElem_cons hil]; rfl
    rw [hG] at hN ⊢
    have key : ∃ r σ1, XX 313 [Ag q, Ar db, In i, .ref w 40 [], .ptr p 0] σ0 = some (r, σ1) ∧ (r = .tup [] ∧ σ0.n < σ1.n ∧ σ1.ob w = .arr (.own 0) 0 1 (rowsE (bL b)) ∧ ∀ x, x < σ0.n → σ1.ob x = (St p o σ0 (acc0 ++ (db.flatMap G).map encB)).ob x) := by
      refine W_fn rfl Tryz.func313 rfl rfl (by simp [Tryz.f313]) ?_
      simp only [Tryz.f313]
      repeat' first|refine W_seq ?_|refine W_block ?_|refine W_skip ?_|refine W_ret ?_|refine W_exit ?_|refine xb_hit ?_|refine xb_miss (by decide) ?_|(apply W_reg;(simp [Ag, z1, z2, z3, hne];exact .r _))
      refine W_cond (by simp; exact .r _) (fun hc => ?_) (fun hc => ?_)
      · cases hc
      repeat' first|refine W_seq ?_|refine W_block ?_|refine W_skip ?_|refine W_ret ?_|refine W_exit ?_|refine xb_hit ?_|refine xb_miss (by decide) ?_|(apply W_reg;(simp;exact .r _))
      have hokn : Ok p o [] ⟨σ0.n + 1, upd σ0.ob σ0.n (.box [.t (.sl (rowsE q.head)), .t (.sl (rowsE q.body))])⟩ acc0 := hok.grow (Nat.le_succ _) (fun x hx => by simp only [upd_app]; rw [if_neg (by omega)]) (fun x h1 h2 => by
        have h2' : x < σ0.n + 1 := h2
        have : x = σ0.n := by omega
        subst this; simp [upd_app, VO.clean, cleanA, clean1]) (fun x hx => by
        have hx' : σ0.n + 1 ≤ x := hx
        simp only [upd_app]; rw [if_neg (by omega)]; exact hok.dd x (by omega))
      refine W_loop (n := db.length) (fun n s => ∃ j : Nat, ∃ acc1 : List Row, n = db.length - j ∧ s.nt = 87 ∧ s.tm 1 = Ar db ∧ s.tm 2 = In i ∧ s.tm 3 = .ref w 40 [] ∧ s.tm 4 = .ptr p 0 ∧ s.tm 5 = .ptr σ0.n 0 ∧ s.tm 10 = In j ∧ j ≤ db.length ∧ Ok p o [] s.σ acc1 ∧ s.σ.ob σ0.n = .box [.t (.sl (rowsE q.head)), .t (.sl (rowsE q.body))] ∧ s.σ.ob w = .arr (.own 0) 0 1 (rowsE (bL b)) ∧ σ0.n < s.σ.n ∧ (∀ x, x < σ0.n → x ≠ p → x ≠ o → s.σ.ob x = σ0.ob x) ∧ acc1 = acc0 ++ ((db.take j).flatMap G).map encB) ⟨0, acc0, by simp; exact ⟨hokn, by rw [if_neg z1]; exact hw, fun x h1 h2 h3 e => by omega⟩⟩ ?_
      rintro n ⟨nt, tm, σ⟩ ⟨j, acc1, rfl, hnt, h1, h2, h3, h4, h5, h10, hj, hok1, hbx, hwb, hnn, hfr, hacc⟩
      simp only at hnt h1 h2 h3 h4 h5 h10 hok1 hbx hwb hnn hfr
      subst hnt
      repeat' first|refine W_seq ?_|refine W_block ?_|refine W_skip ?_|refine W_ret ?_|refine W_exit ?_|refine xb_hit ?_|refine xb_miss (by decide) ?_|(apply W_reg;(simp [h1, h2, h3, h4, h5, h10, hok1, hbx, hwb, hnn, hfr];exact .r _))
      refine W_cond (by simp [h1, h2, h3, h4, h5, h10, hok1, hbx, hwb, hnn, hfr]; exact .r _) (fun hc => ?_) (fun hc => ?_)
      · have hjl : j < db.length := by simpa using hc
        have htk : (db.take (j + 1)).flatMap G = (db.take j).flatMap G ++ G db[j] := by rw [List.take_succ_eq_append_getElem hjl, List.flatMap_append]; simp
        have hsp : (db.flatMap G).length = ((db.take j).flatMap G).length + (G db[j]).length + ((db.drop (j + 1)).flatMap G).length := by
          conv => lhs; rw [← List.take_append_drop j db, List.flatMap_append, List.drop_eq_getElem_cons hjl, List.flatMap_cons]
          simp only [List.length_append]; omega
        have hla : acc1.length = acc0.length + ((db.take j).flatMap G).length := by
          rw [hacc, List.length_append, List.length_map]
        have hcmp : ((db[j].rel = q.body[i].rel ∧ db[j].args.length = q.body[i].args.length) ∨ ¬ (db[j].rel = q.body[i].rel ∧ db[j].args.length = q.body[i].args.length)) := Classical.em _
        rcases hcmp with hcmp | hcmp
        · obtain ⟨b', hb', hbc, hm⟩ := l6Bind_r b hb q.body[i].args db[j].args hcmp.2.symm (by have := hbi.1; unfold Sm; omega) hbi.2
          have hre : ([Ar q.body[i].args, Ar db[j].args, .ref w 40 []] : List AV).mapM (reify σ) = some [Ar q.body[i].args, Ar db[j].args, Ar (bL b)] := by
            have h40 := bL_len hb
            simp [reify, reifyP, reify1, hwb, VO.rows, h40]
          have hm := cv hm rfl σ _ hre
          have n0 : ¬ (σ0.n = σ.n) := by omega
          have n0' : ¬ (σ.n = σ0.n) := by omega
          have hmA : mtchA q.body[i] db[j] b = mtch q.body[i].args db[j].args b := by unfold mtchA; rw [if_pos ⟨hcmp.1.symm, hcmp.2.symm⟩]
          repeat' first|refine W_seq ?_|refine W_block ?_|refine W_skip ?_|refine W_ret ?_|refine W_exit ?_|refine xb_hit ?_|refine xb_miss (by decide) ?_|(apply W_reg;(simp [h1, h2, h3, h4, h5, h10, hok1, hbx, hwb, hnn, hfr, hjl, hil, hbx, hcmp.1, hcmp.2];exact .r _))|(apply W_draw (id := 6) [0,0,3,7,15,0,32,0,224,480,992,2047,4095,8191,8191,32767,65535,131071,262143,8191,532479,8191,3678207,7872511,16261119,33038335,67108863,134217727] rfl rfl; (· simp; exact .r _); (· simp [h1, h2, h3, h4, h5, h10, hok1, hbx, hwb, hnn, hfr, hjl, hil, hbx, hcmp.1, hcmp.2]; exact .r _); (· first|trivial|simp))
          refine W_cond (by simp [h1, h2, h3, h4, h5, h10, hok1, hbx, hwb, hnn, hfr]; exact .r _) (fun hg => ?_) (fun hg => ?_)
          · cases hg
          have k40 := bL_len hb'
          repeat' first|refine W_seq ?_|refine W_block ?_|refine W_skip ?_|refine W_ret ?_|refine W_exit ?_|refine xb_hit ?_|refine xb_miss (by decide) ?_|(apply W_reg;(simp [h1, h2, h3, h4, h5, h10, hok1, hbx, hwb, hnn, hfr, hjl, hil, hbx, hwb, hm, k40];exact .r _))|(apply W_draw (id := 7) [0,1,0,7,15,31,0,0,192,448,960,0,4095,8191,16383,16383,32767,131071] rfl rfl; (· simp; exact .r _); (· simp [h1, h2, h3, h4, h5, h10, hok1, hbx, hwb, hnn, hfr, hjl, hil, hbx, hwb, hm, k40]; exact .r _); (· first|trivial|simp))
          have hpn := hok1.pn
          have hon := hok1.on
          refine W_gen (fun s2 => Ok p o [] s2 acc1 ∧ s2.ob σ0.n = .box [.t (.sl (rowsE q.head)), .t (.sl (rowsE q.body))] ∧ s2.n = σ.n + 1 ∧ s2.ob w = .arr (.own 0) 0 1 (rowsE (bL b)) ∧ (∀ x, x < σ0.n → x ≠ p → x ≠ o → s2.ob x = σ0.ob x) ∧ s2.ob σ.n = .arr (.own 0) 0 1 (rowsE (bL b'))) ?_ (fun s2 hq => ?_)
          · refine ⟨hok1.grow (Nat.le_succ _) (fun x hx => ?_) (fun x h1 h2 => ?_) (fun x hx => ?_), ?_, rfl, ?_, fun x h1 h2 h3 => ?_, ?_⟩
            · simp [upd_app, show ¬ x = σ.n by omega]
            · have h2' : x < σ.n + 1 := h2
              obtain rfl : x = σ.n := by omega
              simp [upd_app, VO.clean]
            · have hx' : σ.n + 1 ≤ x := hx
              simp [upd_app, show ¬ x = σ.n by omega]
              exact hok1.dd x (by omega)
            · simp [upd_app, n0]; exact hbx
            · simp [upd_app, show ¬ w = σ.n by omega]; exact hwb
            · simp [upd_app, show ¬ x = σ.n by omega]
              exact hfr x h1 h2 h3
            · simp [upd_app]
          obtain ⟨q1, q2, q3, q4, q5, q6⟩ := hq
          cases hm2 : mtch q.body[i].args db[j].args b with
          | none =>
            have hGj : G db[j] = [] := by simp only [G, hmA, hm2]
            refine W_cond (by simp [h1, h2, h3, h4, h5, h10, hok1, hbx, hwb, hnn, hfr, hm2]; exact .r _) (fun hz => ?_) (fun hz => ?_)
            · cases hz
            repeat' first|refine W_seq ?_|refine W_block ?_|refine W_skip ?_|refine W_ret ?_|refine W_exit ?_|refine xb_hit ?_|refine xb_miss (by decide) ?_|(apply W_reg;(simp [h1, h2, h3, h4, h5, h10, hok1, hbx, hwb, hnn, hfr];exact .r _))
            refine ⟨_, ?_, j + 1, acc1, rfl, rfl, ?_, ?_, ?_, ?_, ?_, ?_, by omega, q1, q2, q4, (by show σ0.n < s2.n; omega), q5, by rw [htk, hGj, List.append_nil, hacc]⟩
            all_goals first|assumption|(simp [h1, h2, h3, h4, h5, h10, hok1, hbx, hwb, hnn, hfr];done)|(simp [h1, h2, h3, h4, h5, h10, hok1, hbx, hwb, hnn, hfr];omega)|(simp [h1, h2, h3, h4, h5, h10, hok1, hbx, hwb, hnn, hfr];exact wrap_succ (by omega))|omega
          | some c =>
            have hcb := hbc c hm2
            subst hcb
            have hGj : G db[j] = binds db (q.body.drop (i + 1)) b' := by simp only [G, hmA, hm2]
            obtain ⟨m, st, sz, rows, hcall⟩ := ih (i + 1) b' s2 acc1 σ.n (by omega) (by omega) hb' q1 q6 (by omega) (by omega) (by omega) (by rw [← hGj]; omega)
            rw [show ((i + 1 : Nat) : Int) = (i : Int) + 1 by omega] at hcall
            have hAq : Ag q = .agg [.t (.sl (rowsE q.head)), .t (.sl (rowsE q.body))] := rfl
            rw [hAq] at hcall
            have hw : IntKind.i64.wrap ((i : Int) + 1) = (i : Int) + 1 := wrap_succ (by omega)
            refine W_cond (by simp [h1, h2, h3, h4, h5, h10, hok1, hbx, hwb, hnn, hfr, hm2]; exact .r _) (fun hz => ?_) (fun hz => ?_)
            · repeat' first|refine W_seq ?_|refine W_block ?_|refine W_skip ?_|refine W_ret ?_|refine W_exit ?_|refine xb_hit ?_|refine xb_miss (by decide) ?_|(apply W_reg;(simp [h1, h2, h3, h4, h5, h10, hok1, hbx, hwb, hnn, hfr, q2, hw, hcall];exact .r _))
              have hst := (q1.st (acc1 ++ (binds db (q.body.drop (i + 1)) b').map encB)).put (w := σ.n) (y := .arr m st sz rows) (by omega) (by omega) (fun q hq => by cases hq) rfl (by show σ.n < s2.n; omega)
              have hp0 := hok.pn
              have ho0 := hok.on
              refine ⟨_, ?_, j + 1, acc1 ++ (binds db (q.body.drop (i + 1)) b').map encB, rfl, rfl, ?_, ?_, ?_, ?_, ?_, ?_, by omega, hst, (by simp only [upd_app]; rw [if_neg n0, St_ob, if_neg (by omega), if_neg (by omega)]; exact q2), (by simp only [upd_app]; rw [if_neg (by omega), St_ob, if_neg hwo, if_neg hwp]; exact q4), (by show σ0.n < s2.n; omega), (fun x h1 h2 h3 => by simp only [upd_app]; rw [if_neg (by omega), St_ob, if_neg h3, if_neg h2]; exact q5 x h1 h2 h3), by rw [htk, hGj, List.map_append, ← List.append_assoc, ← hacc]⟩
              all_goals first|assumption|(simp [h1, h2, h3, h4, h5, h10, hok1, hbx, hwb, hnn, hfr];done)|(simp [h1, h2, h3, h4, h5, h10, hok1, hbx, hwb, hnn, hfr];omega)|(simp [h1, h2, h3, h4, h5, h10, hok1, hbx, hwb, hnn, hfr];exact wrap_succ (by omega))|omega
            · cases hz
        · have hGj : G db[j] = [] := by simp only [G, mtchA]; rw [if_neg (fun e => hcmp ⟨e.1.symm, e.2.symm⟩)]
          by_cases hr : db[j].rel = q.body[i].rel
          · have hl : ¬ db[j].args.length = q.body[i].args.length := fun e => hcmp ⟨hr, e⟩
            have hl2 : ¬ (db[j].args.length : Int) = q.body[i].args.length := by omega
            repeat' first|refine W_seq ?_|refine W_block ?_|refine W_skip ?_|refine W_ret ?_|refine W_exit ?_|refine xb_hit ?_|refine xb_miss (by decide) ?_|(apply W_reg;(simp [h1, h2, h3, h4, h5, h10, hok1, hbx, hwb, hnn, hfr, hjl, hil, hbx, hr, hl, hl2];exact .r _))|(apply W_draw (id := 6) [0,0,3,7,15,0,32,0,224,480,992,2047,4095,8191,8191,32767,65535,131071,262143,8191,532479,8191,3678207,7872511,16261119,33038335,67108863,134217727] rfl rfl; (· simp; exact .r _); (· simp [h1, h2, h3, h4, h5, h10, hok1, hbx, hwb, hnn, hfr, hjl, hil, hbx, hr, hl, hl2]; exact .r _); (· first|trivial|simp))
            refine W_cond (by simp [h1, h2, h3, h4, h5, h10, hok1, hbx, hwb, hnn, hfr]; exact .r _) (fun hg => ?_) (fun hg => ?_)
            · repeat' first|refine W_seq ?_|refine W_block ?_|refine W_skip ?_|refine W_ret ?_|refine W_exit ?_|refine xb_hit ?_|refine xb_miss (by decide) ?_|(apply W_reg;(simp [h1, h2, h3, h4, h5, h10, hok1, hbx, hwb, hnn, hfr];exact .r _))
              refine ⟨_, ?_, j + 1, acc1, rfl, rfl, ?_, ?_, ?_, ?_, ?_, ?_, by omega, hok1, hbx, hwb, hnn, hfr, by rw [htk, hGj, List.append_nil, hacc]⟩
              all_goals first|assumption|(simp [h1, h2, h3, h4, h5, h10, hok1, hbx, hwb, hnn, hfr];done)|(simp [h1, h2, h3, h4, h5, h10, hok1, hbx, hwb, hnn, hfr];omega)|(simp [h1, h2, h3, h4, h5, h10, hok1, hbx, hwb, hnn, hfr];exact wrap_succ (by omega))|omega
            · simp [hl] at hg
          · repeat' first|refine W_seq ?_|refine W_block ?_|refine W_skip ?_|refine W_ret ?_|refine W_exit ?_|refine xb_hit ?_|refine xb_miss (by decide) ?_|(apply W_reg;(simp [h1, h2, h3, h4, h5, h10, hok1, hbx, hwb, hnn, hfr, hjl, hil, hbx, hr];exact .r _))|(apply W_draw (id := 6) [0,0,3,7,15,0,32,0,224,480,992,2047,4095,8191,8191,32767,65535,131071,262143,8191,532479,8191,3678207,7872511,16261119,33038335,67108863,134217727] rfl rfl; (· simp; exact .r _); (· simp [h1, h2, h3, h4, h5, h10, hok1, hbx, hwb, hnn, hfr, hjl, hil, hbx, hr]; exact .r _); (· first|trivial|simp))
            refine W_cond (by simp [h1, h2, h3, h4, h5, h10, hok1, hbx, hwb, hnn, hfr]; exact .r _) (fun hg => ?_) (fun hg => ?_)
            · repeat' first|refine W_seq ?_|refine W_block ?_|refine W_skip ?_|refine W_ret ?_|refine W_exit ?_|refine xb_hit ?_|refine xb_miss (by decide) ?_|(apply W_reg;(simp [h1, h2, h3, h4, h5, h10, hok1, hbx, hwb, hnn, hfr];exact .r _))
              refine ⟨_, ?_, j + 1, acc1, rfl, rfl, ?_, ?_, ?_, ?_, ?_, ?_, by omega, hok1, hbx, hwb, hnn, hfr, by rw [htk, hGj, List.append_nil, hacc]⟩
              all_goals first|assumption|(simp [h1, h2, h3, h4, h5, h10, hok1, hbx, hwb, hnn, hfr];done)|(simp [h1, h2, h3, h4, h5, h10, hok1, hbx, hwb, hnn, hfr];omega)|(simp [h1, h2, h3, h4, h5, h10, hok1, hbx, hwb, hnn, hfr];exact wrap_succ (by omega))|omega
            · simp [hr] at hg
      · have hjl : j = db.length := by simp at hc; omega
        subst hjl
        rw [List.take_length] at hacc
        repeat' first|refine W_seq ?_|refine W_block ?_|refine W_skip ?_|refine W_ret ?_|refine W_exit ?_|refine xb_hit ?_|refine xb_miss (by decide) ?_|(apply W_reg;(simp [h1, h2, h3, h4, h5, h10, hok1, hbx, hwb, hnn, hfr];exact .r _))
        refine ⟨.tup [], rfl, rfl, hnn, hwb, fun x hx => ?_⟩
        simp only
        rw [St_ob]
        split
        · rename_i e; subst e; rw [hok1.ho, hacc]
        · split
          · rename_i e; subst e; rw [hok1.hp, hacc]
          · rename_i e1 e2; exact hfr x hx e2 e1
    obtain ⟨r, σ1, h1, rfl, h3, h4, h5⟩ := key
    have hst := hok.st (acc0 ++ (db.flatMap G).map encB)
    refine ⟨.own 0, 0, 1, rowsE (bL b), callV_cut (by rfl) h1 h3 rfl (fun x hx => ?_) (fun x hx => ?_) (fun x hx => ?_)⟩
    · simp only [upd_app]
      split
      · rename_i e; subst e; exact h4
      · exact h5 x hx
    · simp only [upd_app]
      split
      · rfl
      · exact hst.cl x hx
    · simp only [upd_app]
      rw [if_neg (by omega)]; exact hst.dd x hx
end Go.Proofs.YtmfifjbbjjdacaaGreat.V

namespace Go.Proofs.YtmfifjbbjjdacaaGreat.V
open Go Go.Proofs
set_option linter.unusedVariables false
set_option linter.unusedSimpArgs false
theorem l6Empty_r : Ret XX 314 [] (.own 1 (rowsE (bL b0))) := by
  refine ret_W rfl Tryz.func314 rfl rfl (by simp [Tryz.f314]) ?_
  simp only [Tryz.f314]
  repeat' first|refine W_seq ?_|refine W_block ?_|refine W_skip ?_|refine W_ret ?_|refine W_exit ?_|refine xb_hit ?_|refine xb_miss (by decide) ?_|(apply W_reg;(simp;exact .r _))
  refine W_loop (n := 20) (fun n s => ∃ i : Nat, ∃ acc : List Int, n = 20 - i ∧ s.nt = 20 ∧ s.tm 1 = .ref 0 acc.length [] ∧ s.tm 2 = In i ∧ i ≤ 20 ∧ s.σ.ob 0 = .arr (.own 0) 0 1 (rowsE acc) ∧ 1 ≤ s.σ.n ∧ acc = List.replicate i (-1)) ⟨0, [], by simp⟩ ?_
  rintro n ⟨nt, tm, σ⟩ ⟨i, acc, rfl, hnt, h1, h2, hi, ho, hn, hacc⟩
  simp only at hnt h1 h2 ho hn
  subst hnt
  · have n0 : ¬ (0 = σ.n) := by omega
    have n0' : ¬ (σ.n = 0) := by omega
    have hl : acc.length = i := by rw [hacc, List.length_replicate]
    repeat' first|refine W_seq ?_|refine W_block ?_|refine W_skip ?_|refine W_ret ?_|refine W_exit ?_|refine xb_hit ?_|refine xb_miss (by decide) ?_|(apply W_reg;(simp [h1, h2, ho, hn];exact .r _))
    refine W_cond (by simp [h1, h2, ho, hn]; exact .r _) (fun hc => ?_) (fun hc => ?_)
    · have hil : i < 20 := by simp at hc; omega
      repeat' first|refine W_seq ?_|refine W_block ?_|refine W_skip ?_|refine W_ret ?_|refine W_exit ?_|refine xb_hit ?_|refine xb_miss (by decide) ?_|(apply W_reg;(simp [h1, h2, ho, hn, n0, n0', show acc.length + 1 < 1099511627776 by omega];exact .r _))
      refine ⟨_, ?_, i + 1, acc ++ [-1], rfl, rfl, ?_, ?_, by omega, ?_, ?_, (by rw [hacc, List.replicate_succ'])⟩
      all_goals first|assumption|(simp [h1, h2, ho, hn, rowsE_append, n0, n0', rowsE];done)|(simp [h1, h2, ho, hn, rowsE_append, n0, n0', rowsE];omega)|(simp [h1, h2, ho, hn, rowsE_append, n0, n0', rowsE];exact wrap_succ (by omega))|omega
    · have hil : i = 20 := by simp at hc; omega
      subst hil
      repeat' first|refine W_seq ?_|refine W_block ?_|refine W_skip ?_|refine W_ret ?_|refine W_exit ?_|refine xb_hit ?_|refine xb_miss (by decide) ?_|(apply W_reg;(simp [h1, h2, ho, hn];exact .r _))
      refine W_loop (n := 20) (fun n s => ∃ k : Nat, ∃ ac2 : List Int, n = 20 - k ∧ s.nt = 20 ∧ s.tm 1 = .ref 0 ac2.length [] ∧ s.tm 3 = In k ∧ k ≤ 20 ∧ s.σ.ob 0 = .arr (.own 0) 0 1 (rowsE ac2) ∧ 1 ≤ s.σ.n ∧ ac2 = acc ++ List.replicate k 0) ⟨0, acc, by simp [h1, h2, ho, hn]⟩ ?_
      rintro n ⟨nt, tm, σ⟩ ⟨k, ac2, rfl, hnt, h1, h3, hk, ho2, hn2, hac2⟩
      simp only at hnt h1 h3 ho2 hn2
      subst hnt
      have m0 : ¬ (0 = σ.n) := by omega
      have m0' : ¬ (σ.n = 0) := by omega
      have hl2 : ac2.length = 20 + k := by rw [hac2, List.length_append, List.length_replicate, hl]
      repeat' first|refine W_seq ?_|refine W_block ?_|refine W_skip ?_|refine W_ret ?_|refine W_exit ?_|refine xb_hit ?_|refine xb_miss (by decide) ?_|(apply W_reg;(simp [h1, h3, ho2, hn2];exact .r _))
      refine W_cond (by simp [h1, h3, ho2, hn2]; exact .r _) (fun hd => ?_) (fun hd => ?_)
      · have hkl : k < 20 := by simp at hd; omega
        repeat' first|refine W_seq ?_|refine W_block ?_|refine W_skip ?_|refine W_ret ?_|refine W_exit ?_|refine xb_hit ?_|refine xb_miss (by decide) ?_|(apply W_reg;(simp [h1, h3, ho2, hn2, m0, m0', show ac2.length + 1 < 1099511627776 by omega];exact .r _))
        refine ⟨_, ?_, k + 1, ac2 ++ [0], rfl, rfl, ?_, ?_, by omega, ?_, ?_, (by rw [hac2, List.replicate_succ', List.append_assoc])⟩
        all_goals first|assumption|(simp [h1, h3, ho2, hn2, rowsE_append, m0, m0', rowsE];done)|(simp [h1, h3, ho2, hn2, rowsE_append, m0, m0', rowsE];omega)|(simp [h1, h3, ho2, hn2, rowsE_append, m0, m0', rowsE];exact wrap_succ (by omega))|omega
      · have hkl : k = 20 := by simp at hd; omega
        subst hkl
        have he : ac2 = bL b0 := by rw [hac2, hacc]; rfl
        subst he
        repeat' first|refine W_seq ?_|refine W_block ?_|refine W_skip ?_|refine W_ret ?_|refine W_exit ?_|refine xb_hit ?_|refine xb_miss (by decide) ?_|(apply W_reg;(simp [h1, h3, ho2, hn2];exact .r _))
        simp [ho2]
/-- What l6Sort keeps: sorted; each row once, or each as often as it comes. -/
def SortI (once : Bool) (acc m : List Row) : Prop := if once = true then Asc acc ∧ ∀ x, x ∈ acc ↔ x ∈ m else Ord acc ∧ acc.Perm m
theorem SortI.ord {once : Bool} {acc m : List Row} (h : SortI once acc m) : Ord acc := by
  unfold SortI at h
  split at h
  · exact asc_ord h.1
  · exact h.1
theorem SortI.dup {acc m : List Row} {x : Row} (h : SortI true acc m) (hx : x ∈ acc) : SortI true acc (m ++ [x]) := by
  obtain ⟨h1, h2⟩ := h
  refine ⟨h1, fun y => ?_⟩
  rw [List.mem_append, List.mem_singleton, ← h2 y]
  exact ⟨Or.inl, fun h => h.elim id fun e => by rw [e]; exact hx⟩
theorem SortI.ins {once : Bool} {acc m : List Row} {x : Row} {k : Nat} (h : SortI once acc m) (hk : k ≤ acc.length) (h2 : ∀ j (hj : j < acc.length), k ≤ j → cmpI x acc[j] < 0)
    (hk1 : ∀ (hj : k - 1 < acc.length), 0 < k → ¬ cmpI x acc[k - 1] < 0) (hone : once = true → ∀ (hj : k - 1 < acc.length), 0 < k → acc[k - 1] ≠ x) : SortI once (acc.take k ++ [x] ++ acc.drop k) (m ++ [x]) := by
  have ho := h.ord
  have h1 : ∀ j (hj : j < acc.length), j < k → ¬ cmpI x acc[j] < 0 := by
    intro j hj hjk hlt
    have hkl : k - 1 < acc.length := by omega
    by_cases e : j = k - 1
    · subst e; exact hk1 hkl (by omega) hlt
    · have hp := List.pairwise_iff_getElem.1 ho j (k - 1) hj hkl (by omega)
      by_cases e2 : acc[k - 1] = acc[j]
      · exact hk1 hkl (by omega) (by rw [e2]; exact hlt)
      · exact hk1 hkl (by omega) (cmp_trans _ _ _ hlt (cmp_flip _ _ hp e2))
  unfold SortI at h ⊢
  split at h
  · rename_i e
    obtain ⟨ha, hm⟩ := h
    rw [if_pos e]
    refine ⟨asc_ins ha hk (fun j hj hjk => ?_) h2, fun y => ?_⟩
    · refine cmp_flip _ _ (h1 j hj hjk) (fun e3 => ?_)
      have hkl : k - 1 < acc.length := by omega
      by_cases e2 : j = k - 1
      · subst e2; exact hone e hkl (by omega) e3.symm
      · have hp := List.pairwise_iff_getElem.1 ha j (k - 1) hj hkl (by omega)
        rw [← e3] at hp
        exact hk1 hkl (by omega) hp
    · rw [(ins_perm acc x k).mem_iff, List.mem_append, List.mem_append, hm y]
  · rename_i e
    rw [if_neg e]
    exact ⟨ord_ins h.1 hk h1 h2, (ins_perm acc x k).trans (h.2.append_right [x])⟩
theorem SortI.eq {once : Bool} {acc m : List Row} (h : SortI once acc m) : acc = if once = true then srtU m else srt cmpI m := by
  unfold SortI at h
  split at h
  · rename_i e; rw [if_pos e]; exact srtU_of h.1 h.2
  · rename_i e; rw [if_neg e]; exact srt_of h.1 h.2
theorem uniq_len : ∀ l : List Row, (uniq l).length ≤ l.length
  | [] => by simp [uniq]
  | [a] => by simp [uniq]
  | a :: b :: l => by
    have h := uniq_len (b :: l)
    unfold uniq
    split
    · simp only [List.length_cons] at h ⊢; omega
    · simp only [List.length_cons] at h ⊢; omega
theorem SortI.len {once : Bool} {acc m : List Row} (h : SortI once acc m) : acc.length ≤ m.length := by
  rw [h.eq]
  split
  · exact Nat.le_trans (uniq_len _) (by rw [srt_perm.length_eq]; exact Nat.le_refl _)
  · rw [srt_perm.length_eq]; exact Nat.le_refl _
theorem SortI.mem {once : Bool} {acc m : List Row} (h : SortI once acc m) {x : Row} (hx : x ∈ acc) : x ∈ m := by
  unfold SortI at h
  split at h
  · exact (h.2 x).1 hx
  · exact h.2.mem_iff.1 hx
end Go.Proofs.YtmfifjbbjjdacaaGreat.V

namespace Go.Proofs.YtmfifjbbjjdacaaGreat.V
open Go Go.Proofs
set_option linter.unusedVariables false
set_option linter.unusedSimpArgs false
theorem l6Sort_true (l : List Row) (hl : l.length < 1099511627775) (hs : ∀ x ∈ l, Sm x) : Ret XX 177 [Ar l, Bo true] (.own 1 (rowsE (srtU l))) := by
  refine ret_W rfl Tryz.func177 rfl rfl (by simp [Tryz.f177]) ?_
  simp only [Tryz.f177]
  repeat' first|refine W_seq ?_|refine W_block ?_|refine W_skip ?_|refine W_ret ?_|refine W_exit ?_|refine xb_hit ?_|refine xb_miss (by decide) ?_|(apply W_reg;(simp;exact .r _))
  refine W_loop (n := l.length) (fun n s => ∃ i : Nat, ∃ o : Nat, ∃ acc : List Row, n = l.length - i ∧ s.nt = 91 ∧ s.tm 0 = Ar l ∧ s.tm 1 = Bo true ∧ s.tm 5 = .ref o acc.length [] ∧ s.tm 6 = In i ∧ i ≤ l.length ∧ s.σ.ob o = .arr (.own 0) 0 1 (rowsE acc) ∧ o < s.σ.n ∧ SortI true acc (l.take i)) ⟨0, 0, [], by simp [SortI]⟩ ?_
  rintro n ⟨nt, tm, σ⟩ ⟨i, o, acc, rfl, hnt, h0, h1, h5, h6, hi, ho, hn, hS⟩
  simp only at hnt h0 h1 h5 h6 ho hn
  subst hnt
  repeat' first|refine W_seq ?_|refine W_block ?_|refine W_skip ?_|refine W_ret ?_|refine W_exit ?_|refine xb_hit ?_|refine xb_miss (by decide) ?_|(apply W_reg;(simp [h0, h1, h5, h6, ho, hn];exact .r _))
  refine W_cond (by simp [h0, h1, h5, h6, ho, hn]; exact .r _) (fun hc => ?_) (fun hc => ?_)
  · have hil : i < l.length := by simpa using hc
    have hlen := hS.len
    rw [List.length_take] at hlen
    have hsa : ∀ x ∈ acc, Sm x := fun x hx => hs x (List.mem_of_mem_take (hS.mem hx))
    have hrl : (rowsE acc).length = acc.length := rowsE_len ..
    repeat' first|refine W_seq ?_|refine W_block ?_|refine W_skip ?_|refine W_ret ?_|refine W_exit ?_|refine xb_hit ?_|refine xb_miss (by decide) ?_|(apply W_reg;(simp [h0, h1, h5, h6, ho, hn];exact .r _))
    refine W_loop (n := acc.length) (fun n s => ∃ k : Nat, n = 0 + k ∧ s.nt = 91 ∧ s.tm 0 = Ar l ∧ s.tm 1 = Bo true ∧ s.tm 5 = .ref o acc.length [] ∧ s.tm 6 = In i ∧ s.tm 7 = In k ∧ k ≤ acc.length ∧ s.σ.ob o = .arr (.own 0) 0 1 (rowsE acc) ∧ o < s.σ.n ∧ (∀ j (hj : j < acc.length), k ≤ j → cmpI l[i] acc[j] < 0)) ⟨acc.length, by simp [h0, h1, h5, h6, ho, hn]; exact fun j h1 h2 => by omega⟩ ?_
    rintro n ⟨nt, tm, σ⟩ ⟨k, rfl, hnt, h0, h1, h5, h6, h7, hk, ho1, hn1, hlt⟩
    simp only at hnt h0 h1 h5 h6 h7 ho1 hn1
    subst hnt
    rcases Nat.eq_zero_or_pos k with hk0 | hkp
    · repeat' first|refine W_seq ?_|refine W_block ?_|refine W_skip ?_|refine W_ret ?_|refine W_exit ?_|refine xb_hit ?_|refine xb_miss (by decide) ?_|(apply W_reg;(simp [h0, h1, h5, h6, h7, ho1, hn1, hk0];exact .r _))|(apply W_draw (id := 6) [0,1,3,7,7,31,63,7,7,263,903,1927,4095,8191] rfl rfl; (· simp; exact .r _); (· simp [h0, h1, h5, h6, h7, ho1, hn1, hk0]; exact .r _); (· first|trivial|simp))
      refine W_cond (by simp [h0, h1, h5, h6, h7, ho1, hn1]; exact .r _) (fun hd => ?_) (fun hd => ?_)
      · cases hd
      repeat' first|refine W_seq ?_|refine W_block ?_|refine W_skip ?_|refine W_ret ?_|refine W_exit ?_|refine xb_hit ?_|refine xb_miss (by decide) ?_|(apply W_reg;(simp [h0, h1, h5, h6, h7, ho1, hn1, hk0];exact .r _))|(apply W_draw (id := 8) [0,1,3,7,15,31,63,63,191,511,1023,63,63,6207,14399,32767,65535] rfl rfl; (· simp; exact .r _); (· simp [h0, h1, h5, h6, h7, ho1, hn1, hk0]; exact .r _); (· first|trivial|simp))
      refine W_cond (by simp [h0, h1, h5, h6, h7, ho1, hn1]; exact .r _) (fun hu => ?_) (fun hu => ?_)
      · cases hu
      repeat' first|refine W_seq ?_|refine W_block ?_|refine W_skip ?_|refine W_ret ?_|refine W_exit ?_|refine xb_hit ?_|refine xb_miss (by decide) ?_|(apply W_reg;(simp [h0, h1, h5, h6, h7, ho1, hn1];exact .r _))
      refine W_loop (n := k) (fun n s => ∃ m : Nat, ∃ o2 : Nat, ∃ ac2 : List Row, n = k - m ∧ s.nt = 91 ∧ s.tm 0 = Ar l ∧ s.tm 1 = Bo true ∧ s.tm 5 = .ref o acc.length [] ∧ s.tm 6 = In i ∧ s.tm 7 = In (k : Nat) ∧ s.tm 8 = .ref o2 ac2.length [] ∧ s.tm 9 = In m ∧ m ≤ k ∧ s.σ.ob o = .arr (.own m) 0 1 (rowsE acc) ∧ s.σ.ob o2 = .arr (.own 0) 0 1 (rowsE ac2) ∧ o < s.σ.n ∧ o2 < s.σ.n ∧ ¬ o = o2 ∧ ac2 = acc.take m) ⟨0, σ.n, [], by simp [upd_app, h0, h1, h5, h6, h7, show ¬ o = σ.n by omega, ho1]; omega⟩ ?_
      rintro n ⟨nt, tm, σ⟩ ⟨m, o2, ac2, rfl, hnt, h0, h1, h5, h6, h7, h8, h9, hm, hob, hob2, hon, hon2, hne, hq2⟩
      simp only at hnt h0 h1 h5 h6 h7 h8 h9 hob hob2 hon hon2
      subst hnt
      have n0 : ¬ (o = σ.n) := by omega
      have n0' : ¬ (σ.n = o) := by omega
      have n1 : ¬ (o2 = σ.n) := by omega
      have n1' : ¬ (σ.n = o2) := by omega
      have hne' : ¬ o2 = o := fun e => hne e.symm
      have hb2 : ac2.length ≤ m := by rw [hq2, List.length_take]; omega
      repeat' first|refine W_seq ?_|refine W_block ?_|refine W_skip ?_|refine W_ret ?_|refine W_exit ?_|refine xb_hit ?_|refine xb_miss (by decide) ?_|(apply W_reg;(simp [h0, h1, h5, h6, h7, h8, h9, hob, hob2, hon, hon2];exact .r _))
      refine W_cond (by simp [h0, h1, h5, h6, h7, h8, h9, hob, hob2, hon, hon2]; exact .r _) (fun hd2 => ?_) (fun hd2 => ?_)
      · have hmk : m < k := by simp at hd2; omega
        have hml : m < acc.length := by omega
        have hg2 : (rowsE acc)[m]? = some [.sl (rowsE acc[m])] := by simp [rowsE, hml]
        repeat' first|refine W_seq ?_|refine W_block ?_|refine W_skip ?_|refine W_ret ?_|refine W_exit ?_|refine xb_hit ?_|refine xb_miss (by decide) ?_|(apply W_reg;(simp [h0, h1, h5, h6, h7, h8, h9, hob, hob2, hon, hon2, hml, hg2, hrl, n0, n0', n1, n1', hne, hne', show ac2.length + 1 < 1099511627776 by omega];exact .r _))
        refine ⟨_, ?_, m + 1, o2, ac2 ++ [acc[m]], rfl, rfl, ?_, ?_, ?_, ?_, ?_, ?_, ?_, by omega, (by simp [upd_app, n0, n0', hne, hne']), ?_, (by simp; omega), (by simp; omega), hne, (by rw [hq2, List.take_succ_eq_append_getElem hml])⟩
        all_goals first|assumption|(simp [h0, h1, h5, h6, h7, h8, h9, hob, hob2, hon, hon2, rowsE_append, n0, n0', n1, n1', hne, hne', rowsE];done)|(simp [h0, h1, h5, h6, h7, h8, h9, hob, hob2, hon, hon2, rowsE_append, n0, n0', n1, n1', hne, hne', rowsE];omega)|(simp [h0, h1, h5, h6, h7, h8, h9, hob, hob2, hon, hon2, rowsE_append, n0, n0', n1, n1', hne, hne', rowsE];exact wrap_succ (by omega))|omega
      have hmk : k = m := by simp at hd2; omega
      subst hmk
      have y0 : ¬ (o = σ.n + 1) := by omega
      have y1 : ¬ (o2 = σ.n + 1) := by omega
      have y0' : ¬ (σ.n + 1 = o) := by omega
      have y1' : ¬ (σ.n + 1 = o2) := by omega
      have y2' : ¬ (σ.n + 2 = o2) := by omega
      have y2 : ¬ (o2 = σ.n + 2) := by omega
      have hgi : (rowsE l)[i]? = some [.sl (rowsE l[i])] := by simp [rowsE, hil]
      have hxl : l[i].length < 1099511627776 := by have := hs _ (List.getElem_mem hil); unfold Sm at this; omega
      repeat' first|refine W_seq ?_|refine W_block ?_|refine W_skip ?_|refine W_ret ?_|refine W_exit ?_|refine xb_hit ?_|refine xb_miss (by decide) ?_|(apply W_reg;(simp [h0, h1, h5, h6, h7, h8, h9, hob, hob2, hon, hon2, hil, hgi, hxl, n0, n0', n1, n1', hne, hne', y0, y1, y0', y1', y2, y2', show ac2.length + 1 < 1099511627776 by omega];exact .r _))
      refine W_loop (n := (acc.length - k)) (fun n s => ∃ r : Nat, ∃ o3 : Nat, ∃ ac3 : List Row, n = acc.length - r ∧ s.nt = 91 ∧ s.tm 0 = Ar l ∧ s.tm 1 = Bo true ∧ s.tm 5 = .ref o acc.length [] ∧ s.tm 6 = In i ∧ s.tm 8 = .ref o3 ac3.length [] ∧ s.tm 10 = In r ∧ r ≤ acc.length ∧ s.σ.ob o = .arr (.own r) 0 1 (rowsE acc) ∧ s.σ.ob o3 = .arr (.own 0) 0 1 (rowsE ac3) ∧ o < s.σ.n ∧ o3 < s.σ.n ∧ ¬ o = o3 ∧ ac3.length = r + 1 ∧ ac3 ++ acc.drop r = acc.take (k) ++ [l[i]] ++ acc.drop (k)) ⟨k, o2, ac2 ++ [l[i]], by simp [upd_app, h0, h1, h5, h6, n0, n0', n1, n1', hne, hne', y0, y1, y2, hob, rowsE_append, rowsE, hk, hq2]; omega⟩ ?_
      rintro n ⟨nt, tm, σ⟩ ⟨r, o3, ac3, rfl, hnt, h0, h1, h5, h6, h8, h10, hr, hrb, hrb2, hrn, hrn2, hrne, hr0, hq3⟩
      simp only at hnt h0 h1 h5 h6 h8 h10 hrb hrb2 hrn hrn2
      subst hnt
      have x0 : ¬ (o = σ.n) := by omega
      have x0' : ¬ (σ.n = o) := by omega
      have x1 : ¬ (o3 = σ.n) := by omega
      have x1' : ¬ (σ.n = o3) := by omega
      have hrne' : ¬ o3 = o := fun e => hrne e.symm
      repeat' first|refine W_seq ?_|refine W_block ?_|refine W_skip ?_|refine W_ret ?_|refine W_exit ?_|refine xb_hit ?_|refine xb_miss (by decide) ?_|(apply W_reg;(simp [h0, h1, h5, h6, h8, h10, hrb, hrb2, hrn, hrn2];exact .r _))
      refine W_cond (by simp [h0, h1, h5, h6, h8, h10, hrb, hrb2, hrn, hrn2]; exact .r _) (fun hd3 => ?_) (fun hd3 => ?_)
      · have hrk : r < acc.length := by simpa using hd3
        have hg3 : (rowsE acc)[r]? = some [.sl (rowsE acc[r])] := by simp [rowsE, hrk]
        repeat' first|refine W_seq ?_|refine W_block ?_|refine W_skip ?_|refine W_ret ?_|refine W_exit ?_|refine xb_hit ?_|refine xb_miss (by decide) ?_|(apply W_reg;(simp [h0, h1, h5, h6, h8, h10, hrb, hrb2, hrn, hrn2, hrk, hg3, hrl, x0, x0', x1, x1', hrne, hrne', show ac3.length + 1 < 1099511627776 by omega];exact .r _))
        refine ⟨_, ?_, r + 1, o3, ac3 ++ [acc[r]], rfl, rfl, ?_, ?_, ?_, ?_, ?_, ?_, by omega, (by simp [upd_app, x0, x0', hrne, hrne']), ?_, (by simp; omega), (by simp; omega), hrne, (by simp; omega), (by rw [← hq3, List.drop_eq_getElem_cons hrk]; simp)⟩
        all_goals first|assumption|(simp [h0, h1, h5, h6, h8, h10, hrb, hrb2, hrn, hrn2, rowsE_append, x0, x0', x1, x1', hrne, hrne', rowsE];done)|(simp [h0, h1, h5, h6, h8, h10, hrb, hrb2, hrn, hrn2, rowsE_append, x0, x0', x1, x1', hrne, hrne', rowsE];omega)|(simp [h0, h1, h5, h6, h8, h10, hrb, hrb2, hrn, hrn2, rowsE_append, x0, x0', x1, x1', hrne, hrne', rowsE];exact wrap_succ (by omega))|omega
      have hrk : r = acc.length := by simp at hd3; omega
      subst hrk
      rw [List.drop_length, List.append_nil] at hq3
      repeat' first|refine W_seq ?_|refine W_block ?_|refine W_skip ?_|refine W_ret ?_|refine W_exit ?_|refine xb_hit ?_|refine xb_miss (by decide) ?_|(apply W_reg;(simp [h0, h1, h5, h6, h8, h10, hrb, hrb2, hrn, hrn2];exact .r _))
      refine ⟨_, ?_, i + 1, o3, ac3, rfl, rfl, ?_, ?_, ?_, ?_, by omega, hrb2, hrn2, (by rw [hq3, List.take_succ_eq_append_getElem hil]; exact hS.ins hk hlt (fun _ h => by omega) (fun _ _ h => by omega))⟩
      all_goals first|assumption|(simp [h0, h1, h5, h6, h8, h10, hrb, hrb2, hrn, hrn2];done)|(simp [h0, h1, h5, h6, h8, h10, hrb, hrb2, hrn, hrn2];omega)|(simp [h0, h1, h5, h6, h8, h10, hrb, hrb2, hrn, hrn2];exact wrap_succ (by omega))|omega
    · obtain ⟨k', rfl⟩ : ∃ k', k = k' + 1 := ⟨k - 1, by omega⟩
      have hkl : k' < acc.length := by omega
      have h0k : (0 : Int) < (k' : Int) + 1 := by omega
      have hw : IntKind.i64.wrap (k' : Int) = (k' : Int) := wrap_ok (by omega) (by omega)
      have hg : (rowsE acc)[k']? = some [.sl (rowsE acc[k'])] := by simp [rowsE, hkl]
      have c1 := cv (l2Less_r l[i] acc[k'] (hs _ (List.getElem_mem hil)))
      have c2 := cv (l2Ints_r acc[k'] l[i] (hsa _ (List.getElem_mem hkl)))
      repeat' first|refine W_seq ?_|refine W_block ?_|refine W_skip ?_|refine W_ret ?_|refine W_exit ?_|refine xb_hit ?_|refine xb_miss (by decide) ?_|(apply W_reg;(simp [h0, h1, h5, h6, h7, ho1, hn1, h0k, hw, hrl, hg, c1, hil, hkl];exact .r _))|(apply W_draw (id := 6) [0,1,3,7,7,31,63,7,7,263,903,1927,4095,8191] rfl rfl; (· simp; exact .r _); (· simp [h0, h1, h5, h6, h7, ho1, hn1, h0k, hw, hrl, hg, c1, hil, hkl]; exact .r _); (· first|trivial|simp))
      refine W_cond (by simp [h0, h1, h5, h6, h7, ho1, hn1]; exact .r _) (fun hd => ?_) (fun hd => ?_)
      · have hlt2 : cmpI l[i] acc[k'] < 0 := by simpa using hd
        repeat' first|refine W_seq ?_|refine W_block ?_|refine W_skip ?_|refine W_ret ?_|refine W_exit ?_|refine xb_hit ?_|refine xb_miss (by decide) ?_|(apply W_reg;(simp [h0, h1, h5, h6, h7, ho1, hn1, hw];exact .r _))
        refine ⟨_, ?_, k', rfl, rfl, ?_, ?_, ?_, ?_, (by simp [hw]), by omega, ?_, ?_, (fun j hj hkj => by (by_cases e : j = k'; (subst e; exact hlt2); exact hlt j hj (by omega)))⟩
        all_goals first|assumption|(simp [h0, h1, h5, h6, h7, ho1, hn1];done)|(simp [h0, h1, h5, h6, h7, ho1, hn1];omega)|(simp [h0, h1, h5, h6, h7, ho1, hn1];exact wrap_succ (by omega))|omega
      have hnl : ¬ cmpI l[i] acc[k'] < 0 := by simpa using hd
      repeat' first|refine W_seq ?_|refine W_block ?_|refine W_skip ?_|refine W_ret ?_|refine W_exit ?_|refine xb_hit ?_|refine xb_miss (by decide) ?_|(apply W_reg;(simp [h0, h1, h5, h6, h7, ho1, hn1, h0k, hw, hrl, hg, c2, hil, hkl];exact .r _))|(apply W_draw (id := 8) [0,1,3,7,15,31,63,63,191,511,1023,63,63,6207,14399,32767,65535] rfl rfl; (· simp; exact .r _); (· simp [h0, h1, h5, h6, h7, ho1, hn1, h0k, hw, hrl, hg, c2, hil, hkl]; exact .r _); (· first|trivial|simp))
      refine W_cond (by simp [h0, h1, h5, h6, h7, ho1, hn1]; exact .r _) (fun hu => ?_) (fun hu => ?_)
      · have hee : acc[k'] = l[i] := by simpa using hu
        repeat' first|refine W_seq ?_|refine W_block ?_|refine W_skip ?_|refine W_ret ?_|refine W_exit ?_|refine xb_hit ?_|refine xb_miss (by decide) ?_|(apply W_reg;(simp [h0, h1, h5, h6, h7, ho1, hn1];exact .r _))
        refine ⟨_, ?_, i + 1, o, acc, rfl, rfl, ?_, ?_, ?_, ?_, by omega, ho1, hn1, (by rw [List.take_succ_eq_append_getElem hil]; exact hS.dup (by rw [← hee]; exact List.getElem_mem hkl))⟩
        all_goals first|assumption|(simp [h0, h1, h5, h6, h7, ho1, hn1];done)|(simp [h0, h1, h5, h6, h7, ho1, hn1];omega)|(simp [h0, h1, h5, h6, h7, ho1, hn1];exact wrap_succ (by omega))|omega
      have hee : ¬ acc[k'] = l[i] := by simpa using hu
      repeat' first|refine W_seq ?_|refine W_block ?_|refine W_skip ?_|refine W_ret ?_|refine W_exit ?_|refine xb_hit ?_|refine xb_miss (by decide) ?_|(apply W_reg;(simp [h0, h1, h5, h6, h7, ho1, hn1];exact .r _))
      refine W_loop (n := (k' + 1)) (fun n s => ∃ m : Nat, ∃ o2 : Nat, ∃ ac2 : List Row, n = (k' + 1) - m ∧ s.nt = 91 ∧ s.tm 0 = Ar l ∧ s.tm 1 = Bo true ∧ s.tm 5 = .ref o acc.length [] ∧ s.tm 6 = In i ∧ s.tm 7 = In ((k' + 1) : Nat) ∧ s.tm 8 = .ref o2 ac2.length [] ∧ s.tm 9 = In m ∧ m ≤ (k' + 1) ∧ s.σ.ob o = .arr (.own m) 0 1 (rowsE acc) ∧ s.σ.ob o2 = .arr (.own 0) 0 1 (rowsE ac2) ∧ o < s.σ.n ∧ o2 < s.σ.n ∧ ¬ o = o2 ∧ ac2 = acc.take m) ⟨0, σ.n, [], by simp [upd_app, h0, h1, h5, h6, h7, show ¬ o = σ.n by omega, ho1]; omega⟩ ?_
      rintro n ⟨nt, tm, σ⟩ ⟨m, o2, ac2, rfl, hnt, h0, h1, h5, h6, h7, h8, h9, hm, hob, hob2, hon, hon2, hne, hq2⟩
      simp only at hnt h0 h1 h5 h6 h7 h8 h9 hob hob2 hon hon2
      subst hnt
      have n0 : ¬ (o = σ.n) := by omega
      have n0' : ¬ (σ.n = o) := by omega
      have n1 : ¬ (o2 = σ.n) := by omega
      have n1' : ¬ (σ.n = o2) := by omega
      have hne' : ¬ o2 = o := fun e => hne e.symm
      have hb2 : ac2.length ≤ m := by rw [hq2, List.length_take]; omega
      repeat' first|refine W_seq ?_|refine W_block ?_|refine W_skip ?_|refine W_ret ?_|refine W_exit ?_|refine xb_hit ?_|refine xb_miss (by decide) ?_|(apply W_reg;(simp [h0, h1, h5, h6, h7, h8, h9, hob, hob2, hon, hon2];exact .r _))
      refine W_cond (by simp [h0, h1, h5, h6, h7, h8, h9, hob, hob2, hon, hon2]; exact .r _) (fun hd2 => ?_) (fun hd2 => ?_)
      · have hmk : m < (k' + 1) := by simp at hd2; omega
        have hml : m < acc.length := by omega
        have hg2 : (rowsE acc)[m]? = some [.sl (rowsE acc[m])] := by simp [rowsE, hml]
        repeat' first|refine W_seq ?_|refine W_block ?_|refine W_skip ?_|refine W_ret ?_|refine W_exit ?_|refine xb_hit ?_|refine xb_miss (by decide) ?_|(apply W_reg;(simp [h0, h1, h5, h6, h7, h8, h9, hob, hob2, hon, hon2, hml, hg2, hrl, n0, n0', n1, n1', hne, hne', show ac2.length + 1 < 1099511627776 by omega];exact .r _))
        refine ⟨_, ?_, m + 1, o2, ac2 ++ [acc[m]], rfl, rfl, ?_, ?_, ?_, ?_, ?_, ?_, ?_, by omega, (by simp [upd_app, n0, n0', hne, hne']), ?_, (by simp; omega), (by simp; omega), hne, (by rw [hq2, List.take_succ_eq_append_getElem hml])⟩
        all_goals first|assumption|(simp [h0, h1, h5, h6, h7, h8, h9, hob, hob2, hon, hon2, rowsE_append, n0, n0', n1, n1', hne, hne', rowsE];done)|(simp [h0, h1, h5, h6, h7, h8, h9, hob, hob2, hon, hon2, rowsE_append, n0, n0', n1, n1', hne, hne', rowsE];omega)|(simp [h0, h1, h5, h6, h7, h8, h9, hob, hob2, hon, hon2, rowsE_append, n0, n0', n1, n1', hne, hne', rowsE];exact wrap_succ (by omega))|omega
      have hmk : (k' + 1) = m := by simp at hd2; omega
      subst hmk
      have y0 : ¬ (o = σ.n + 1) := by omega
      have y1 : ¬ (o2 = σ.n + 1) := by omega
      have y0' : ¬ (σ.n + 1 = o) := by omega
      have y1' : ¬ (σ.n + 1 = o2) := by omega
      have y2' : ¬ (σ.n + 2 = o2) := by omega
      have y2 : ¬ (o2 = σ.n + 2) := by omega
      have hgi : (rowsE l)[i]? = some [.sl (rowsE l[i])] := by simp [rowsE, hil]
      have hxl : l[i].length < 1099511627776 := by have := hs _ (List.getElem_mem hil); unfold Sm at this; omega
      repeat' first|refine W_seq ?_|refine W_block ?_|refine W_skip ?_|refine W_ret ?_|refine W_exit ?_|refine xb_hit ?_|refine xb_miss (by decide) ?_|(apply W_reg;(simp [h0, h1, h5, h6, h7, h8, h9, hob, hob2, hon, hon2, hil, hgi, hxl, n0, n0', n1, n1', hne, hne', y0, y1, y0', y1', y2, y2', show ac2.length + 1 < 1099511627776 by omega];exact .r _))
      refine W_loop (n := (acc.length - (k' + 1))) (fun n s => ∃ r : Nat, ∃ o3 : Nat, ∃ ac3 : List Row, n = acc.length - r ∧ s.nt = 91 ∧ s.tm 0 = Ar l ∧ s.tm 1 = Bo true ∧ s.tm 5 = .ref o acc.length [] ∧ s.tm 6 = In i ∧ s.tm 8 = .ref o3 ac3.length [] ∧ s.tm 10 = In r ∧ r ≤ acc.length ∧ s.σ.ob o = .arr (.own r) 0 1 (rowsE acc) ∧ s.σ.ob o3 = .arr (.own 0) 0 1 (rowsE ac3) ∧ o < s.σ.n ∧ o3 < s.σ.n ∧ ¬ o = o3 ∧ ac3.length = r + 1 ∧ ac3 ++ acc.drop r = acc.take ((k' + 1)) ++ [l[i]] ++ acc.drop ((k' + 1))) ⟨(k' + 1), o2, ac2 ++ [l[i]], by simp [upd_app, h0, h1, h5, h6, n0, n0', n1, n1', hne, hne', y0, y1, y2, hob, rowsE_append, rowsE, hk, hq2]; omega⟩ ?_
      rintro n ⟨nt, tm, σ⟩ ⟨r, o3, ac3, rfl, hnt, h0, h1, h5, h6, h8, h10, hr, hrb, hrb2, hrn, hrn2, hrne, hr0, hq3⟩
      simp only at hnt h0 h1 h5 h6 h8 h10 hrb hrb2 hrn hrn2
      subst hnt
      have x0 : ¬ (o = σ.n) := by omega
      have x0' : ¬ (σ.n = o) := by omega
      have x1 : ¬ (o3 = σ.n) := by omega
      have x1' : ¬ (σ.n = o3) := by omega
      have hrne' : ¬ o3 = o := fun e => hrne e.symm
      repeat' first|refine W_seq ?_|refine W_block ?_|refine W_skip ?_|refine W_ret ?_|refine W_exit ?_|refine xb_hit ?_|refine xb_miss (by decide) ?_|(apply W_reg;(simp [h0, h1, h5, h6, h8, h10, hrb, hrb2, hrn, hrn2];exact .r _))
      refine W_cond (by simp [h0, h1, h5, h6, h8, h10, hrb, hrb2, hrn, hrn2]; exact .r _) (fun hd3 => ?_) (fun hd3 => ?_)
      · have hrk : r < acc.length := by simpa using hd3
        have hg3 : (rowsE acc)[r]? = some [.sl (rowsE acc[r])] := by simp [rowsE, hrk]
        repeat' first|refine W_seq ?_|refine W_block ?_|refine W_skip ?_|refine W_ret ?_|refine W_exit ?_|refine xb_hit ?_|refine xb_miss (by decide) ?_|(apply W_reg;(simp [h0, h1, h5, h6, h8, h10, hrb, hrb2, hrn, hrn2, hrk, hg3, hrl, x0, x0', x1, x1', hrne, hrne', show ac3.length + 1 < 1099511627776 by omega];exact .r _))
        refine ⟨_, ?_, r + 1, o3, ac3 ++ [acc[r]], rfl, rfl, ?_, ?_, ?_, ?_, ?_, ?_, by omega, (by simp [upd_app, x0, x0', hrne, hrne']), ?_, (by simp; omega), (by simp; omega), hrne, (by simp; omega), (by rw [← hq3, List.drop_eq_getElem_cons hrk]; simp)⟩
        all_goals first|assumption|(simp [h0, h1, h5, h6, h8, h10, hrb, hrb2, hrn, hrn2, rowsE_append, x0, x0', x1, x1', hrne, hrne', rowsE];done)|(simp [h0, h1, h5, h6, h8, h10, hrb, hrb2, hrn, hrn2, rowsE_append, x0, x0', x1, x1', hrne, hrne', rowsE];omega)|(simp [h0, h1, h5, h6, h8, h10, hrb, hrb2, hrn, hrn2, rowsE_append, x0, x0', x1, x1', hrne, hrne', rowsE];exact wrap_succ (by omega))|omega
      have hrk : r = acc.length := by simp at hd3; omega
      subst hrk
      rw [List.drop_length, List.append_nil] at hq3
      repeat' first|refine W_seq ?_|refine W_block ?_|refine W_skip ?_|refine W_ret ?_|refine W_exit ?_|refine xb_hit ?_|refine xb_miss (by decide) ?_|(apply W_reg;(simp [h0, h1, h5, h6, h8, h10, hrb, hrb2, hrn, hrn2];exact .r _))
      refine ⟨_, ?_, i + 1, o3, ac3, rfl, rfl, ?_, ?_, ?_, ?_, by omega, hrb2, hrn2, (by rw [hq3, List.take_succ_eq_append_getElem hil]; exact hS.ins hk hlt (fun _ _ => hnl) (fun _ _ _ => hee))⟩
      all_goals first|assumption|(simp [h0, h1, h5, h6, h8, h10, hrb, hrb2, hrn, hrn2];done)|(simp [h0, h1, h5, h6, h8, h10, hrb, hrb2, hrn, hrn2];omega)|(simp [h0, h1, h5, h6, h8, h10, hrb, hrb2, hrn, hrn2];exact wrap_succ (by omega))|omega
  · have hil : i = l.length := by simp at hc; omega
    subst hil
    rw [List.take_length] at hS
    have he := hS.eq
    repeat' first|refine W_seq ?_|refine W_block ?_|refine W_skip ?_|refine W_ret ?_|refine W_exit ?_|refine xb_hit ?_|refine xb_miss (by decide) ?_|(apply W_reg;(simp [h0, h1, h5, h6, ho, hn];exact .r _))
    simp [ho, he]
end Go.Proofs.YtmfifjbbjjdacaaGreat.V

namespace Go.Proofs.YtmfifjbbjjdacaaGreat.V
open Go Go.Proofs
set_option linter.unusedVariables false
set_option linter.unusedSimpArgs false
/-- All bindings' rows, sorted, each once. -/
def rawB (q : Qry) (db : List RA) : List Row := srtU ((binds db q.body b0).map encB)
theorem l6Raw_r (q : Qry) (db : List RA) (hbl : q.body.length ≤ 4) (hbody : ∀ a ∈ q.body, a.args.length ≤ 1000 ∧ ∀ t ∈ a.args, isTerm t = true) (hdl : db.length ≤ 24) (hdb : ∀ x ∈ db, Sm x.args) : Ret XX 262 [Ag q, Ar db] (.own 1 (rowsE (rawB q db))) := by
  refine ret_W rfl Tryz.func262 rfl rfl (by simp [Tryz.f262]) ?_
  simp only [Tryz.f262]
  have hbn := binds_le db q.body b0
  have hpow : db.length ^ q.body.length ≤ 24 ^ 4 := Nat.le_trans (Nat.pow_le_pow_left hdl _) (Nat.pow_le_pow_right (by omega) hbl)
  have hp4 : (24 : Nat) ^ 4 = 331776 := by decide
  refine W_seq ?_
  apply W_reg; (simp [Ag]; exact .r _)
  refine W_seq ?_
  apply W_reg; (simp; exact .r _)
  refine W_gen (fun s2 => Ok 2 1 [] s2 [] ∧ s2.n = 3 ∧ s2.ob 0 = .box [Ar q.head, Ar q.body]) ?_ (fun s2 hq2 => ?_)
  · refine ⟨⟨by simp [upd_app], by simp [upd_app], by simp, by simp, by omega, fun x hx => (by cases hx), fun x hx => ?_, fun x hx => ?_⟩, rfl, by simp [upd_app]⟩
    · have hx : x < 3 := hx
      rcases (by omega : x = 0 ∨ x = 1 ∨ x = 2) with rfl | rfl | rfl <;> simp [upd_app, VO.clean, cleanA, clean1]
    · have hx : 3 ≤ x := hx
      simp [upd_app, show ¬ x = 0 by omega, show ¬ x = 1 by omega, show ¬ x = 2 by omega]
  obtain ⟨hok, hn3, hq1⟩ := hq2
  have b40 : (bL b0).length = 40 := rfl
  have ce := cv l6Empty_r rfl s2 [] rfl
  have hok2 : Ok 2 1 [] ⟨4, upd s2.ob 3 (.arr (.own 0) 0 1 (rowsE (bL b0)))⟩ [] := hok.grow (by simp [hn3]) (fun x hx => by simp only [upd_app]; rw [if_neg (by omega)]) (fun x h1 h2 => by
    have h2' : x < 4 := h2
    obtain rfl : x = 3 := by omega
    simp [upd_app, VO.clean]) (fun x hx => by
    have hx' : 4 ≤ x := hx
    simp only [upd_app]; rw [if_neg (by omega)]; exact hok.dd x (by omega))
  obtain ⟨m, st, sz, rows, hcall⟩ := search_c (q := q) (db := db) (by omega) hbody (by unfold Sm; omega) hdb _ 0 b0 ⟨4, upd s2.ob 3 (.arr (.own 0) 0 1 (rowsE (bL b0)))⟩ [] 3 rfl (Nat.zero_le _) rfl hok2 (by simp [upd_app]) (by omega) (by omega) (by show 3 < 4; omega) (by simp; omega)
  simp only [List.drop_zero, List.nil_append, Int.natCast_zero] at hcall
  have hAq : Ag q = .agg [.t (.sl (rowsE q.head)), .t (.sl (rowsE q.body))] := rfl
  rw [hAq] at hcall
  generalize hA : (binds db q.body b0).map encB = accF at *
  have hlen : accF.length ≤ 331776 := by rw [← hA, List.length_map]; omega
  have hsm : ∀ x ∈ accF, Sm x := fun x hx => by
    rw [← hA] at hx
    obtain ⟨b, hb1, hb2⟩ := List.mem_map.1 hx
    have hbl := binds_len (fun a ha t ht => by have := isTerm_iff.1 ((hbody a ha).2 t ht); simp only [b0_len]; omega) hb1
    rw [← hb2]
    unfold Sm
    rw [encB_len, hbl, b0_len]; omega
  have cs := cv (l6Sort_true accF (by omega) hsm)
  repeat' first|refine W_seq ?_|refine W_block ?_|refine W_skip ?_|refine W_ret ?_|refine W_exit ?_|refine xb_hit ?_|refine xb_miss (by decide) ?_|(apply W_reg;(simp [hq1, ce, b40, hn3, hcall, St_ob, cs];exact .r _))|(apply W_draw (id := 2) [0,0,0,7] rfl rfl; (· simp; exact .r _); (· simp [hq1, ce, b40, hn3, hcall, St_ob, cs]; exact .r _); (· first|trivial|simp))
  rw [show rawB q db = srtU accF by rw [rawB, hA]]
  simp
/-- A term under a binding's row. -/
def valR (row : Row) (t : Int) : Int := if t < 0 then -1 - t else (row[t.toNat]?).getD 0
theorem l6Tuple_r (ts row : List Int) (hr : row.length = 20) (hl : Sm ts) (ht : ∀ t ∈ ts, isTerm t = true) : Ret XX 189 [Ar ts, Ar row] (.own 1 (rowsE (ts.map (valR row)))) := by
  refine ret_W rfl Tryz.func189 rfl rfl (by simp [Tryz.f189]) ?_
  simp only [Tryz.f189]
  repeat' first|refine W_seq ?_|refine W_block ?_|refine W_skip ?_|refine W_ret ?_|refine W_exit ?_|refine xb_hit ?_|refine xb_miss (by decide) ?_|(apply W_reg;(simp;exact .r _))
  refine W_loop (n := ts.length) (fun n s => ∃ i : Nat, ∃ acc : List Int, n = ts.length - i ∧ s.nt = 38 ∧ s.tm 0 = Ar ts ∧ s.tm 1 = Ar row ∧ s.tm 5 = .ref 0 acc.length [] ∧ s.tm 6 = In i ∧ i ≤ ts.length ∧ s.σ.ob 0 = .arr (.own 0) 0 1 (rowsE acc) ∧ 1 ≤ s.σ.n ∧ acc = (ts.take i).map (valR row)) ⟨0, [], by simp⟩ ?_
  rintro n ⟨nt, tm, σ⟩ ⟨i, acc, rfl, hnt, h0, h1, h5, h6, hi, ho, hn, hacc⟩
  simp only at hnt h0 h1 h5 h6 ho hn
  subst hnt
  have n0 : ¬ (0 = σ.n) := by omega
  have n0' : ¬ (σ.n = 0) := by omega
  have hal : acc.length ≤ i := by rw [hacc, List.length_map, List.length_take]; omega
  repeat' first|refine W_seq ?_|refine W_block ?_|refine W_skip ?_|refine W_ret ?_|refine W_exit ?_|refine xb_hit ?_|refine xb_miss (by decide) ?_|(apply W_reg;(simp [h0, h1, h5, h6, ho, hn];exact .r _))
  refine W_cond (by simp [h0, h1, h5, h6, ho, hn]; exact .r _) (fun hc => ?_) (fun hc => ?_)
  · have hil : i < ts.length := by simpa using hc
    have htr := isTerm_iff.1 (ht _ (List.getElem_mem hil))
    have htk : (ts.take (i + 1)).map (valR row) = acc ++ [valR row ts[i]] := by rw [List.take_succ_eq_append_getElem hil, List.map_append, ← hacc]; rfl
    repeat' first|refine W_seq ?_|refine W_block ?_|refine W_skip ?_|refine W_ret ?_|refine W_exit ?_|refine xb_hit ?_|refine xb_miss (by decide) ?_|(apply W_reg;(simp [h0, h1, h5, h6, ho, hn, hil];exact .r _))
    refine W_cond (by simp [h0, h1, h5, h6, ho, hn]; exact .r _) (fun hd => ?_) (fun hd => ?_)
    · have h0' : ts[i] < 0 := by simpa using hd
      have hw : IntKind.i64.wrap (-1 - ts[i]) = -1 - ts[i] := wrap_ok (by omega) (by omega)
      repeat' first|refine W_seq ?_|refine W_block ?_|refine W_skip ?_|refine W_ret ?_|refine W_exit ?_|refine xb_hit ?_|refine xb_miss (by decide) ?_|(apply W_reg;(simp [h0, h1, h5, h6, ho, hn, hil, hw, n0, n0', show acc.length + 1 < 1099511627776 by omega];exact .r _))
      refine ⟨_, ?_, i + 1, acc ++ [-1 - ts[i]], rfl, rfl, ?_, ?_, ?_, ?_, by omega, ?_, ?_, (by rw [htk, valR, if_pos h0'])⟩
      all_goals first|assumption|(simp [h0, h1, h5, h6, ho, hn, rowsE_append, n0, n0', rowsE];done)|(simp [h0, h1, h5, h6, ho, hn, rowsE_append, n0, n0', rowsE];omega)|(simp [h0, h1, h5, h6, ho, hn, rowsE_append, n0, n0', rowsE];exact wrap_succ (by omega))|omega
    · have h0' : 0 ≤ ts[i] := by simp at hd; omega
      have htl : ts[i].toNat < row.length := by omega
      repeat' first|refine W_seq ?_|refine W_block ?_|refine W_skip ?_|refine W_ret ?_|refine W_exit ?_|refine xb_hit ?_|refine xb_miss (by decide) ?_|(apply W_reg;(simp [h0, h1, h5, h6, ho, hn, hil, htl, h0', n0, n0', show acc.length + 1 < 1099511627776 by omega];exact .r _))
      refine ⟨_, ?_, i + 1, acc ++ [row[ts[i].toNat]], rfl, rfl, ?_, ?_, ?_, ?_, by omega, ?_, ?_, (by rw [htk, valR, if_neg (by omega), List.getElem?_eq_getElem htl]; rfl)⟩
      all_goals first|assumption|(simp [h0, h1, h5, h6, ho, hn, rowsE_append, n0, n0', rowsE];done)|(simp [h0, h1, h5, h6, ho, hn, rowsE_append, n0, n0', rowsE];omega)|(simp [h0, h1, h5, h6, ho, hn, rowsE_append, n0, n0', rowsE];exact wrap_succ (by omega))|omega
  · have hil : i = ts.length := by simp at hc; omega
    subst hil
    rw [List.take_length] at hacc
    subst hacc
    repeat' first|refine W_seq ?_|refine W_block ?_|refine W_skip ?_|refine W_ret ?_|refine W_exit ?_|refine xb_hit ?_|refine xb_miss (by decide) ?_|(apply W_reg;(simp [h0, h1, h5, h6, ho, hn];exact .r _))
    simp [ho]
theorem specBindings_r (c : Sch) (q : Qry) (db : List RA) (hc : Lw.bd 1048576 c) (hq : Lw.bd 1048576 q) (hd : Lw.bd 1048576 db) : Ret XX 179 [Ag c, Ag q, Ar db] (.own 1 (rowsE (if isQry c q && isDb c db then rawB q db else []))) := by
  refine ret_W rfl Tryz.func179 rfl rfl (by simp [Tryz.f179]) ?_
  simp only [Tryz.f179]
  have sc : Sm c.arity := Nat.lt_of_le_of_lt hc.1 (by omega)
  have sh : Sm q.head := Nat.lt_of_le_of_lt hq.1.1 (by omega)
  have sb : Sm q.body := Nat.lt_of_le_of_lt hq.2.1 (by omega)
  have sba : ∀ a ∈ q.body, Sm a.args := fun a ha => Nat.lt_of_le_of_lt (hq.2.2 a ha).1 (by omega)
  have sd : Sm db := Nat.lt_of_le_of_lt hd.1 (by omega)
  have sda : ∀ a ∈ db, Sm a.args := fun a ha => Nat.lt_of_le_of_lt (hd.2 a ha).1 (by omega)
  have c1 := cv (specIsQuery_r c q sc sh sb sba)
  have c2 := cv (specIsDb_r c db sc sd sda)
  simp only [Ag, cells_Sch, cells_Q, List.map_cons, List.map_nil] at c1 c2
  cases e1 : isQry c q
  · repeat' first|refine W_seq ?_|refine W_block ?_|refine W_skip ?_|refine W_ret ?_|refine W_exit ?_|refine xb_hit ?_|refine xb_miss (by decide) ?_|(apply W_reg;(simp [Ag, c1, e1];exact .r _))
    refine W_cond (by simp; exact .r _) (fun hc => ?_) (fun hc => ?_)
    · repeat' first|refine W_seq ?_|refine W_block ?_|refine W_skip ?_|refine W_ret ?_|refine W_exit ?_|refine xb_hit ?_|refine xb_miss (by decide) ?_|(apply W_reg;(simp;exact .r _))
      simp
    · cases hc
  cases e2 : isDb c db
  · repeat' first|refine W_seq ?_|refine W_block ?_|refine W_skip ?_|refine W_ret ?_|refine W_exit ?_|refine xb_hit ?_|refine xb_miss (by decide) ?_|(apply W_reg;(simp [Ag, c1, e1, c2, e2];exact .r _))
    refine W_cond (by simp; exact .r _) (fun hc => ?_) (fun hc => ?_)
    · repeat' first|refine W_seq ?_|refine W_block ?_|refine W_skip ?_|refine W_ret ?_|refine W_exit ?_|refine xb_hit ?_|refine xb_miss (by decide) ?_|(apply W_reg;(simp;exact .r _))
      simp
    · cases hc
  repeat' first|refine W_seq ?_|refine W_block ?_|refine W_skip ?_|refine W_ret ?_|refine W_exit ?_|refine xb_hit ?_|refine xb_miss (by decide) ?_|(apply W_reg;(simp [Ag, c1, e1, c2, e2];exact .r _))
  refine W_cond (by simp; exact .r _) (fun hc => ?_) (fun hc => ?_)
  · cases hc
  have hqs := isQry_small e1
  have hdl : db.length ≤ 24 := by simp [isDb] at e2; omega
  have c3 := cv (l6Raw_r q db hqs.2.1 (fun a ha => ⟨by have := (hqs.2.2.2 a ha).1; omega, fun t ht => isTerm_iff.2 ((hqs.2.2.2 a ha).2 t ht)⟩) hdl sda)
  simp only [Ag, cells_Q, List.map_cons, List.map_nil] at c3
  repeat' first|refine W_seq ?_|refine W_block ?_|refine W_skip ?_|refine W_ret ?_|refine W_exit ?_|refine xb_hit ?_|refine xb_miss (by decide) ?_|(apply W_reg;(simp [c3];exact .r _))
  simp
end Go.Proofs.YtmfifjbbjjdacaaGreat.V

namespace Go.Proofs.YtmfifjbbjjdacaaGreat.V
open Go Go.Proofs
set_option linter.unusedVariables false
set_option linter.unusedSimpArgs false
def headR (q : Qry) (row : Row) : Row := q.head.map (valR row)
theorem rawB_bd {c : Sch} {q : Qry} {db : List RA} (e1 : isQry c q = true) (e2 : isDb c db = true) : (rawB q db).length ≤ 331776 ∧ ∀ r ∈ rawB q db, r.length = 20 := by
  have hqs := isQry_small e1
  have hdl : db.length ≤ 24 := by simp [isDb] at e2; omega
  have hbn := binds_le db q.body b0
  have hpow : db.length ^ q.body.length ≤ 24 ^ 4 := Nat.le_trans (Nat.pow_le_pow_left hdl _) (Nat.pow_le_pow_right (by omega) hqs.2.1)
  have hp4 : (24 : Nat) ^ 4 = 331776 := by decide
  refine ⟨?_, fun r hr => ?_⟩
  · have := uniq_len (srt cmpI ((binds db q.body b0).map encB))
    rw [srt_perm.length_eq, List.length_map] at this
    unfold rawB srtU; omega
  · obtain ⟨b, hb1, hb2⟩ := List.mem_map.1 (mem_srtU.1 hr)
    have hbl := binds_len (fun a ha t ht => by have := (hqs.2.2.2 a ha).2 t ht; simp only [b0_len]; omega) hb1
    rw [← hb2, encB_len, hbl, b0_len]
end Go.Proofs.YtmfifjbbjjdacaaGreat.V

namespace Go.Proofs.YtmfifjbbjjdacaaGreat.V
open Go Go.Proofs
set_option linter.unusedVariables false
set_option linter.unusedSimpArgs false
theorem valR_enc {b : Bnd} {t v : Int} (ht : isTerm t = true) (h0 : 0 ≤ t) (h : getB b t = some v) : valR (encB b) t = valI b t := by
  rw [valI_eq ht, valR, valB, if_neg (by omega), if_neg (by omega), h]
  unfold getB at h
  cases e : b[t.toNat]? with
  | none => rw [e] at h; cases h
  | some o =>
    rw [e] at h
    have h : o = some v := h
    rw [encB, List.getElem?_map, e, h]; rfl
theorem valR_neg {b : Bnd} {t : Int} (ht : isTerm t = true) (h0 : t < 0) : valR (encB b) t = valI b t := by
  rw [valI_eq ht, valR, valB, if_pos h0, if_pos h0]
end Go.Proofs.YtmfifjbbjjdacaaGreat.V

namespace Go.Proofs.YtmfifjbbjjdacaaGreat.V
open Go Go.Proofs
set_option linter.unusedVariables false
section
variable {α : Type}
theorem kept_step (eqv : α → α → Bool) (xs : List α) : ∀ (d i : Nat) (hi : i + 1 + d = xs.length) (P : ∀ j ∈ (List.range' (i + 1) d).filter (kpf fun i j => match xs[i]?, xs[j]? with | some a, some b => eqv a b | _, _ => false), j < xs.length),
    ((List.range' (i + 1) d).filter (kpf fun i j => match xs[i]?, xs[j]? with | some a, some b => eqv a b | _, _ => false)).pmap (fun j h => xs[j]) P = kept' eqv (xs[i]'(by omega)) (xs.drop (i + 1))
  | 0, i, hi, P => by
    have : xs.drop (i + 1) = [] := List.drop_eq_nil_of_le (by omega)
    simp [this, kept']
  | d + 1, i, hi, P => by
    have h1 : i + 1 < xs.length := by omega
    have h0 : i < xs.length := by omega
    have ih := kept_step eqv xs d (i + 1) (by omega)
    rw [List.drop_eq_getElem_cons h1]
    have hk : kpf (fun i j => match xs[i]?, xs[j]? with | some a, some b => eqv a b | _, _ => false) (i + 1) = !eqv xs[i + 1] xs[i] := by
      simp [kpf, List.getElem?_eq_getElem h1, List.getElem?_eq_getElem h0]
    cases he : eqv xs[i + 1] xs[i] with
    | true =>
      have e : (List.range' (i + 1) (d + 1)).filter (kpf fun i j => match xs[i]?, xs[j]? with | some a, some b => eqv a b | _, _ => false) = (List.range' (i + 1 + 1) d).filter (kpf fun i j => match xs[i]?, xs[j]? with | some a, some b => eqv a b | _, _ => false) := by
        rw [List.range'_succ, List.filter_cons, hk, he]; rfl
      have hgo : ∀ (l m : List Nat) (hl : l = m) (P : ∀ j ∈ l, j < xs.length) (Q : ∀ j ∈ m, j < xs.length), l.pmap (fun j h => xs[j]) P = m.pmap (fun j h => xs[j]) Q := fun l m hl P Q => by subst hl; rfl
      rw [hgo _ _ e P (by rw [← e]; exact P), ih]
      -- the one before is equal: the next is held against it
      simp only [kept', he, if_true]
    | false =>
      have e : (List.range' (i + 1) (d + 1)).filter (kpf fun i j => match xs[i]?, xs[j]? with | some a, some b => eqv a b | _, _ => false) = (i + 1) :: (List.range' (i + 1 + 1) d).filter (kpf fun i j => match xs[i]?, xs[j]? with | some a, some b => eqv a b | _, _ => false) := by
        rw [List.range'_succ, List.filter_cons, hk, he]; rfl
      have hgo : ∀ (l m : List Nat) (hl : l = m) (P : ∀ j ∈ l, j < xs.length) (Q : ∀ j ∈ m, j < xs.length), l.pmap (fun j h => xs[j]) P = m.pmap (fun j h => xs[j]) Q := fun l m hl P Q => by subst hl; rfl
      rw [hgo _ _ e P (by rw [← e]; exact P)]
      simp only [List.pmap, kept', he, Bool.false_eq_true, if_false]
      rw [ih]
theorem keptL_eq (eqv : α → α → Bool) (xs : List α) : keptL eqv xs = uniqG eqv xs := by
  match xs with
  | [] => rfl
  | a :: l =>
    have h := kept_step eqv (a :: l) l.length 0 (by simp; omega)
    have e : keptJ (a :: l).length (fun i j => match (a :: l)[i]?, (a :: l)[j]? with | some a, some b => eqv a b | _, _ => false) = 0 :: (List.range' 1 l.length).filter (kpf fun i j => match (a :: l)[i]?, (a :: l)[j]? with | some a, some b => eqv a b | _, _ => false) := by
      unfold keptJ
      rw [List.range_eq_range', List.length_cons, List.range'_succ, List.filter_cons]
      rfl
    have hgo : ∀ (l' m : List Nat) (hl : l' = m) (P : ∀ j ∈ l', j < (a :: l).length) (Q : ∀ j ∈ m, j < (a :: l).length), l'.pmap (fun j h => (a :: l)[j]) P = m.pmap (fun j h => (a :: l)[j]) Q := fun l' m hl P Q => by subst hl; rfl
    unfold keptL
    refine (hgo _ _ e _ (by rw [← e]; exact fun j h => keptJ_lt h)).trans ?_
    simp only [List.pmap, uniqG, List.getElem_cons_zero]
    refine congrArg (a :: ·) ((h _).trans ?_)
    simp
end
theorem kept_uniq (l : List Row) (p : Row) : p :: kept' (fun a b => decide (a = b)) p l = uniq (p :: l) := by
  induction l generalizing p with
  | nil => rfl
  | cons x l ih =>
    rw [uniq]
    by_cases h : p = x
    · subst h
      simp only [kept', decide_true, if_true]
      exact ih p
    · have h' : ¬ x = p := fun e => h e.symm
      simp only [kept', h', decide_false, Bool.false_eq_true, if_false, h]
      rw [ih x]
theorem keptL_rows (l : List Row) : keptL (fun a b => decide (a = b)) l = uniq l := by
  rw [keptL_eq]
  cases l with
  | nil => rfl
  | cons a l => exact kept_uniq l a
end Go.Proofs.YtmfifjbbjjdacaaGreat.V

namespace Go.Proofs.YtmfifjbbjjdacaaGreat.V
open Go Go.Proofs
set_option linter.unusedVariables false
set_option linter.unusedSimpArgs false
/-- Nothing points beyond the store's end, and nothing lies there. -/
structure Cl (σ : Sto) : Prop where
  cl : ∀ x, x < σ.n → (σ.ob x).clean σ.n = true
  dd : ∀ x, σ.n ≤ x → σ.ob x = .dead
theorem Cl.e : Cl Sto.e := ⟨fun x hx => absurd hx (Nat.not_lt_zero _), fun x _ => rfl⟩
theorem Cl.new {n : Nat} {ob : Nat → VO} {X : VO} (h : Cl ⟨n, ob⟩) (hx : X.clean (n + 1) = true) : Cl ⟨n + 1, upd ob n X⟩ := by
  refine ⟨fun x hxn => ?_, fun x hxn => ?_⟩
  · simp only [upd_app]
    split
    · exact hx
    · have hxn' : x < n + 1 := hxn
      exact clean_mono (Nat.le_succ n) (h.cl x (by show x < n; omega))
  · have hxn' : n + 1 ≤ x := hxn
    simp only [upd_app]
    rw [if_neg (by omega)]
    exact h.dd x (by show n ≤ x; omega)
theorem Cl.set {n o : Nat} {ob : Nat → VO} {X : VO} (h : Cl ⟨n, ob⟩) (ho : o < n) (hx : X.clean n = true) : Cl ⟨n, upd ob o X⟩ := by
  refine ⟨fun x hxn => ?_, fun x hxn => ?_⟩
  · simp only [upd_app]
    split
    · exact hx
    · exact h.cl x hxn
  · have hxn' : n ≤ x := hxn
    simp only [upd_app]
    rw [if_neg (by omega)]
    exact h.dd x hxn
theorem Cl.sets {σ : Sto} {o : Nat} {X : VO} (h : Cl σ) (ho : o < σ.n) (hx : X.clean σ.n = true) : Cl (σ.set o X) := Cl.set (n := σ.n) (ob := σ.ob) h ho hx
/-- A call over the caller's store that answers a number: what it does to the caller's objects. -/
theorem callV_num {M : Nat → Bool} {X : Ora} {f : Nat} {args : List AV} {σ σ1 σ' : Sto} {n : Int} (hM : M f = true) (H : X f args σ = some (In n, σ1)) (hn : σ.n < σ1.n) (hn' : σ'.n = σ.n) (h1 : ∀ x, x < σ.n → σ1.ob x = σ'.ob x) (hcl : Cl σ') :
    callV M X σ f args = some (In n, σ') := by
  rw [callV_m hM H (fun o ho => by rw [h1 o ho, ← hn']; exact hcl.cl o (by rw [hn']; exact ho)) (by omega), cut_eq hn' h1 (fun o ho => hcl.dd o (by rw [hn']; exact ho))]
theorem Cl.e3 {n : Nat} {ob : Nat → VO} (h : Cl ⟨n, ob⟩) {X Y Z : VO} (h1 : X.clean (n + 1) = true) (h2 : Y.clean (n + 2) = true) (h3 : Z.clean (n + 3) = true) : Cl ⟨n + 3, upd (upd (upd ob n X) (n + 1) Y) (n + 2) Z⟩ := Cl.new (n := n + 2) (Cl.new (n := n + 1) (Cl.new h h1) h2) h3
end Go.Proofs.YtmfifjbbjjdacaaGreat.V

namespace Go.Proofs.YtmfifjbbjjdacaaGreat.V
open Go Go.Proofs
set_option linter.unusedVariables false
set_option linter.unusedSimpArgs false
def headI (q : Qry) (b : Bnd) : Row := q.head.map (valI b)
def takeH (q : Qry) (b : Bnd) : List Row := [headI q b]
theorem takeH_len (q : Qry) (b : Bnd) : (takeH q b).length ≤ 1 := Nat.le_refl _
theorem takeH_map (q : Qry) (l : List Bnd) : l.flatMap (takeH q) = l.map (headI q) := by
  induction l with
  | nil => rfl
  | cons a l ih => simp [takeH, ih]
theorem takeH_ok (q : Qry) (hh : Sm q.head) : TakeOk 329 [.ptr 2 0, .ptr 0 0] 2 1 [(0, .box [Ar q.head, Ar q.body])] (takeH q) := by
  intro σ0 acc b hok hbl hlen
  have hc1 := cB_len hbl
  have hc2 := cB_one b
  have hc3 := cB_take hbl
  have hre : ∀ σ : Sto, (cB b).mapM (reify1 σ) = some (tB b) := cB_re b
  have k0 := (hok.ks _ (by simp : ((0 : Nat), VO.box [Ar q.head, Ar q.body]) ∈ _)).1
  simp only at k0
  have hpn := hok.pn
  have f1 := hok.ho
  have f2 := hok.hp
  have c1 := cv (tuple_r b hbl q.head hh)
  have key : ∃ r σ1, XX 329 [.agg (cB b), .ptr 2 0, .ptr 0 0] σ0 = some (r, σ1) ∧ (r = .tup [] ∧ σ0.n < σ1.n ∧ ∀ x, x < σ0.n → σ1.ob x = (St 2 1 σ0 (acc ++ takeH q b)).ob x) := by
    refine W_fn rfl Tryz.func329 rfl rfl (by simp [Tryz.f329]) ?_
    simp only [Tryz.f329]
    have ne1_ : ¬ (0 = σ0.n) := by omega
    have ne2_ : ¬ (σ0.n = 0) := by omega
    have ne3_ : ¬ (0 = σ0.n + 1) := by omega
    have ne4_ : ¬ (σ0.n + 1 = 0) := by omega
    have ne5_ : ¬ (0 = σ0.n + 2) := by omega
    have ne6_ : ¬ (σ0.n + 2 = 0) := by omega
    have ne7_ : ¬ (1 = σ0.n) := by omega
    have ne8_ : ¬ (σ0.n = 1) := by omega
    have ne9_ : ¬ (1 = σ0.n + 1) := by omega
    have ne10_ : ¬ (σ0.n + 1 = 1) := by omega
    have ne11_ : ¬ (1 = σ0.n + 2) := by omega
    have ne12_ : ¬ (σ0.n + 2 = 1) := by omega
    have ne13_ : ¬ (2 = σ0.n) := by omega
    have ne14_ : ¬ (σ0.n = 2) := by omega
    have ne15_ : ¬ (2 = σ0.n + 1) := by omega
    have ne16_ : ¬ (σ0.n + 1 = 2) := by omega
    have ne17_ : ¬ (2 = σ0.n + 2) := by omega
    have ne18_ : ¬ (σ0.n + 2 = 2) := by omega
    repeat' first|refine W_seq ?_|refine W_block ?_|refine W_skip ?_|refine W_ret ?_|refine W_exit ?_|refine xb_hit ?_|refine xb_miss (by decide) ?_|(apply W_reg;(simp [ne1_, ne2_, ne3_, ne4_, ne5_, ne6_, ne7_, ne8_, ne9_, ne10_, ne11_, ne12_, ne13_, ne14_, ne15_, ne16_, ne17_, ne18_, hc2, hc3, c1, hre, k0, f1, f2, hlen];exact .r _))|(apply W_draw (id := 1) [0,0,2,6,14,31,63] rfl rfl; (· simp; exact .r _); (· simp [ne1_, ne2_, ne3_, ne4_, ne5_, ne6_, ne7_, ne8_, ne9_, ne10_, ne11_, ne12_, ne13_, ne14_, ne15_, ne16_, ne17_, ne18_, hc2, hc3, c1, hre, k0, f1, f2, hlen]; exact .r _); (· first|trivial|simp))
    refine ⟨.tup [], rfl, rfl, ?_, fun x hx => ?_⟩
    · simp
    · have hx1 : ¬ x = σ0.n := by omega
      have hx2 : ¬ x = σ0.n + 1 := by omega
      have hx3 : ¬ x = σ0.n + 2 := by omega
      rw [St_ob]
      by_cases e3 : x = 1
      · subst e3; simp [upd_app, hx1, hx2, hx3, rowsE_append, rowsE, takeH, headI]
      · by_cases e4 : x = 2
        · subst e4; simp [upd_app, takeH]
        · simp [upd_app, e3, e4, hx1, hx2, hx3]
  obtain ⟨r, σ1, h1, rfl, h3, h4⟩ := key
  have hst := hok.st (acc ++ takeH q b)
  exact callV_cut (by rfl) h1 h3 rfl h4 (fun x hx => hst.cl x hx) (fun x hx => hst.dd x hx)
theorem heads_r (q : Qry) (db : List RA) (hh : Sm q.head) (hbl : q.body.length ≤ 1000) (hbody : ∀ a ∈ q.body, a.args.length ≤ 1000 ∧ ∀ t ∈ a.args, isTerm t = true) (hdl : Sm db) (hdb : ∀ x ∈ db, x.args.length ≤ 1099511627774) (hN : (binds db q.body b0).length + 1 < 1099511627776) :
    Ret XX 279 [Ag q, Ar db] (.own 1 (rowsE ((binds db q.body b0).map (headI q)))) := by
  refine ret_W rfl Tryz.func279 rfl rfl (by simp [Tryz.f279]) ?_
  simp only [Tryz.f279]
  refine W_seq ?_
  apply W_reg; (simp [Ag]; exact .r _)
  refine W_seq ?_
  apply W_reg; (simp; exact .r _)
  refine W_gen (fun s2 => Ok 2 1 [(0, .box [Ar q.head, Ar q.body])] s2 [] ∧ s2.n = 3 ∧ s2.ob 0 = .box [Ar q.head, Ar q.body]) ?_ (fun s2 hq2 => ?_)
  · refine ⟨⟨by simp [upd_app], by simp [upd_app], by simp, by simp, by omega, fun x hx => ?_, fun x hx => ?_, fun x hx => ?_⟩, rfl, by simp [upd_app]⟩
    · simp only [List.mem_cons, List.not_mem_nil, or_false] at hx
      subst hx; simp [upd_app]
    · have hx : x < 3 := hx
      rcases (by omega : x = 0 ∨ x = 1 ∨ x = 2) with rfl | rfl | rfl <;> simp [upd_app, VO.clean, cleanA, clean1]
    · have hx : 3 ≤ x := hx
      simp [upd_app, show ¬ x = 0 by omega, show ¬ x = 1 by omega, show ¬ x = 2 by omega]
  obtain ⟨hok, hn3, hq1⟩ := hq2
  have hcall := visit_c (takeH_ok q hh) (takeH_len q) hbl hbody hdl hdb _ 0 b0 s2 [] rfl (Nat.zero_le _) rfl hok (by simp; omega)
  simp only [List.drop_zero, List.nil_append, Int.natCast_zero, takeH_map] at hcall
  have hst := hok.st ((binds db q.body b0).map (headI q))
  have hp2 : (St 2 1 s2 ((binds db q.body b0).map (headI q))).ob 2 = .box [.ref 1 ((binds db q.body b0).map (headI q)).length []] := hst.hp
  have hp1 : (St 2 1 s2 ((binds db q.body b0).map (headI q))).ob 1 = .arr (.own 0) 0 1 (rowsE ((binds db q.body b0).map (headI q))) := hst.ho
  have hzz := zeros_b0
  repeat' first|refine W_seq ?_|refine W_block ?_|refine W_skip ?_|refine W_ret ?_|refine W_exit ?_|refine xb_hit ?_|refine xb_miss (by decide) ?_|(apply W_reg;(simp [hq1, hzz, hcall, hp2];exact .r _))
  simp [hp1]
theorem cv_compI {σ : Sto} {o st v : Nat} {xs : List Row} (hob : σ.ob o = .arr (.own 0) st 1 (rowsE xs)) (hv : v = xs.length) (hlen : xs.length < 1099511627776) (h : ∀ x ∈ xs, Sm x) (hon : o < σ.n) (hcl : ∀ x, x < σ.n → (σ.ob x).clean σ.n = true) (hdd : ∀ x, σ.n ≤ x → σ.ob x = .dead) :
    callV Ms XX σ 328 [.ref o v [], .clo 137 []] = some (.ref σ.n (uniq xs).length [], (σ.set o .dead).new (.arr (.own 0) 0 1 (rowsE (uniq xs)))) := by
  have hg : XX 328 [.ref o v [], .clo 137 []] σ = some (.ref σ.n (keptL (fun a b => decide (a = b)) xs).length [], ⟨σ.n + 1, upd (upd σ.ob o .dead) σ.n (.arr (.own 0) 0 (Enc.n (List Int)) (rowsE (keptL (fun a b => decide (a = b)) xs)))⟩) := (R_giv (drawV_go) (by rfl) _ _).trans (compG_eq (α := List Int) (eqv := fun a b => decide (a = b)) (Q := fun c => Sm c) (gf := 137) hob hv (by omega) h)
  rw [keptL_rows] at hg
  refine callV_new (by rfl) hg (Nat.le_refl _) (by simp [upd_app]; rfl) (by simp) (Nat.lt_succ_self _) rfl (fun x hx => ?_) (fun x hx => ?_) (fun x hx => ?_)
  · simp only [upd_app, Sto.set]
    rw [if_neg (by omega)]
  · simp only [Sto.set, upd_app]
    split
    · rfl
    · exact hcl x hx
  · simp only [Sto.set, upd_app]
    rw [if_neg (by omega)]; exact hdd x hx
theorem different_c (σ0 : Sto) (o st : Nat) (l : List Row) (hob : σ0.ob o = .arr (.own 0) st 1 (rowsE l)) (hon : o < σ0.n) (hl : l.length < 1099511627775) (hs : ∀ x ∈ l, Sm x) (hcl : ∀ x, x < σ0.n → (σ0.ob x).clean σ0.n = true) (hdd : ∀ x, σ0.n ≤ x → σ0.ob x = .dead) :
    callV Ms XX σ0 278 [.ref o l.length []] = some (.ref σ0.n (srtU l).length [], (σ0.set o .dead).new (.arr (.own 0) 0 1 (rowsE (srtU l)))) := by
  have key : ∃ r σ1, XX 278 [.ref o l.length []] σ0 = some (r, σ1) ∧ (r = .ref σ0.n (srtU l).length [] ∧ σ0.n < σ1.n ∧ σ1.ob σ0.n = .arr (.own 0) 0 1 (rowsE (srtU l)) ∧ ∀ x, x < σ0.n → σ1.ob x = (σ0.set o .dead).ob x) := by
    refine W_fn rfl Tryz.func278 rfl rfl (by simp [Tryz.f278]) ?_
    simp only [Tryz.f278]
    have hso := cv_sortI (σ := σ0) (o := o) (st := st) (v := l.length) (xs := l) hob rfl (by omega) hs
    have hll : (srt cmpI l).length = l.length := srt_perm.length_eq
    have hsL : ∀ x ∈ srt cmpI l, Sm x := fun x hx => hs x (srt_perm.mem_iff.1 hx)
    have hco := cv_compI (σ := ⟨σ0.n, upd σ0.ob o (.arr (.own 0) (st + 1) 1 (rowsE (srt cmpI l)))⟩) (o := o) (st := st + 1) (v := l.length) (xs := srt cmpI l) (by simp [upd_app]) hll.symm (by omega) hsL hon (fun x hx => by
      simp only [upd_app]
      split
      · rfl
      · exact hcl x hx) (fun x hx => by
      have hx' : σ0.n ≤ x := hx
      simp only [upd_app]; rw [if_neg (by omega)]; exact hdd x hx)
    simp only [Sto.set] at hso
    simp only [Sto.set, Sto.new, upd_upd] at hco
    rw [show uniq (srt cmpI l) = srtU l from rfl] at hco
    repeat' first|refine W_seq ?_|refine W_block ?_|refine W_skip ?_|refine W_ret ?_|refine W_exit ?_|refine xb_hit ?_|refine xb_miss (by decide) ?_|(apply W_reg;(simp [hso, hco];exact .r _))
    refine ⟨_, rfl, rfl, Nat.lt_succ_self _, by simp [upd_app], fun x hx => ?_⟩
    simp only [upd_app, Sto.set]
    rw [if_neg (by omega)]
  obtain ⟨r, σ1, h1, rfl, h3, h4, h5⟩ := key
  refine callV_new (by rfl) h1 (Nat.le_refl _) h4 (by simp) h3 rfl h5 (fun x hx => ?_) (fun x hx => ?_)
  · simp only [Sto.set, upd_app]
    split
    · rfl
    · exact hcl x hx
  · simp only [Sto.set, upd_app]
    rw [if_neg (by omega)]; exact hdd x hx
/-- The answers: the heads' values, ascending, each once. -/
def ansL (q : Qry) (db : List RA) : List Row := srtU ((binds db q.body b0).map (headI q))
def ansC (c : Sch) (q : Qry) (db : List RA) : List Row := if isQry c q && isDb c db then ansL q db else []
theorem binds_bd {c : Sch} {q : Qry} {db : List RA} (e1 : isQry c q = true) (e2 : isDb c db = true) : (binds db q.body b0).length ≤ 331776 := by
  have hqs := isQry_small e1
  have hdl : db.length ≤ 24 := by simp [isDb] at e2; omega
  have hbn := binds_le db q.body b0
  have hpow : db.length ^ q.body.length ≤ 24 ^ 4 := Nat.le_trans (Nat.pow_le_pow_left hdl _) (Nat.pow_le_pow_right (by omega) hqs.2.1)
  have hp4 : (24 : Nat) ^ 4 = 331776 := by decide
  omega
theorem implAns_r (c : Sch) (q : Qry) (db : List RA) (sc : Sm c.arity) (sh : Sm q.head) (sb : Sm q.body) (sba : ∀ a ∈ q.body, Sm a.args) (sd : Sm db) (sda : ∀ a ∈ db, Sm a.args) : Ret XX 209 [Ag c, Ag q, Ar db] (.own 1 (rowsE (ansC c q db))) := by
  refine ret_W rfl Tryz.func209 rfl rfl (by simp [Tryz.f209]) ?_
  simp only [Tryz.f209]
  have c1 := cv (implIsQuery_r c q sc sh sb sba)
  have c2 := cv (implIsDb_r c db sc sd sda)
  simp only [Ag, cells_Sch, cells_Q, List.map_cons, List.map_nil] at c1 c2
  cases e1 : isQry c q
  · repeat' first|refine W_seq ?_|refine W_block ?_|refine W_skip ?_|refine W_ret ?_|refine W_exit ?_|refine xb_hit ?_|refine xb_miss (by decide) ?_|(apply W_reg;(simp [Ag, c1, e1];exact .r _))
    refine W_cond (by simp; exact .r _) (fun hc => ?_) (fun hc => ?_)
    · repeat' first|refine W_seq ?_|refine W_block ?_|refine W_skip ?_|refine W_ret ?_|refine W_exit ?_|refine xb_hit ?_|refine xb_miss (by decide) ?_|(apply W_reg;(simp;exact .r _))
      simp [ansC, e1]
    · cases hc
  cases e2 : isDb c db
  · repeat' first|refine W_seq ?_|refine W_block ?_|refine W_skip ?_|refine W_ret ?_|refine W_exit ?_|refine xb_hit ?_|refine xb_miss (by decide) ?_|(apply W_reg;(simp [Ag, c1, e1, c2, e2];exact .r _))
    refine W_cond (by simp; exact .r _) (fun hc => ?_) (fun hc => ?_)
    · repeat' first|refine W_seq ?_|refine W_block ?_|refine W_skip ?_|refine W_ret ?_|refine W_exit ?_|refine xb_hit ?_|refine xb_miss (by decide) ?_|(apply W_reg;(simp;exact .r _))
      simp [ansC, e2]
    · cases hc
  repeat' first|refine W_seq ?_|refine W_block ?_|refine W_skip ?_|refine W_ret ?_|refine W_exit ?_|refine xb_hit ?_|refine xb_miss (by decide) ?_|(apply W_reg;(simp [Ag, c1, e1, c2, e2];exact .r _))
  refine W_cond (by simp; exact .r _) (fun hc => ?_) (fun hc => ?_)
  · cases hc
  have hqs := isQry_small e1
  have hbd := binds_bd e1 e2
  have c3 := cv (heads_r q db sh (by omega) (fun a ha => ⟨by have := (hqs.2.2.2 a ha).1; omega, fun t ht => isTerm_iff.2 ((hqs.2.2.2 a ha).2 t ht)⟩) sd (fun a ha => by have := sda a ha; unfold Sm at this; omega) (by omega))
  simp only [Ag, cells_Q, List.map_cons, List.map_nil] at c3
  refine W_gen (fun s2 => Cl s2 ∧ s2.n = 2 ∧ s2.ob 1 = .box [Ar q.head, Ar q.body]) ?_ (fun s2 hq2 => ?_)
  · refine ⟨?_, rfl, by simp [upd_app]⟩
    repeat' first | exact Cl.e | refine Cl.new ?_ (by simp [VO.clean, cleanA, clean1])
  obtain ⟨hcl, hn2, hq1⟩ := hq2
  obtain ⟨n2, ob2⟩ := s2
  simp only at hn2 hq1
  subst hn2
  have hL : ((binds db q.body b0).map (headI q)).length ≤ 331776 := by rw [List.length_map]; exact hbd
  have hA : ansC c q db = srtU ((binds db q.body b0).map (headI q)) := by simp [ansC, e1, e2, ansL]
  rw [hA]
  have hs : ∀ x ∈ (binds db q.body b0).map (headI q), Sm x := fun x hx => by
    obtain ⟨b, _, rfl⟩ := List.mem_map.1 hx
    simpa [headI, Sm] using sh
  generalize (binds db q.body b0).map (headI q) = L at *
  have hcl3 : Cl ⟨3, upd ob2 2 (.arr (.own 0) 0 1 (rowsE L))⟩ := Cl.new (n := 2) hcl rfl
  have c4 := different_c ⟨3, upd ob2 2 (.arr (.own 0) 0 1 (rowsE L))⟩ 2 0 L (by simp [upd_app]) (by show 2 < 3; omega) (by omega) hs hcl3.cl hcl3.dd
  simp only [Sto.set, Sto.new, upd_upd] at c4
  repeat' first|refine W_seq ?_|refine W_block ?_|refine W_skip ?_|refine W_ret ?_|refine W_exit ?_|refine xb_hit ?_|refine xb_miss (by decide) ?_|(apply W_reg;(simp [hq1, c3, c4];exact .r _))
  simp
end Go.Proofs.YtmfifjbbjjdacaaGreat.V

namespace Go.Proofs.YtmfifjbbjjdacaaGreat.V
open Go Go.Proofs
set_option linter.unusedVariables false
set_option linter.unusedSimpArgs false
theorem l6Heads_r (q : Qry) (B : List Row) (hB : Sm B) (h20 : ∀ r ∈ B, r.length = 20 ∧ ∀ t ∈ q.head, isTerm t = true) (hh : Sm q.head) : Ret XX 178 [Ag q, Ar B] (.own 1 (rowsE (B.map (headR q)))) := by
  refine ret_W rfl Tryz.func178 rfl rfl (by simp [Tryz.f178]) ?_
  simp only [Tryz.f178]
  repeat' first|refine W_seq ?_|refine W_block ?_|refine W_skip ?_|refine W_ret ?_|refine W_exit ?_|refine xb_hit ?_|refine xb_miss (by decide) ?_|(apply W_reg;(simp [Ag];exact .r _))
  refine W_loop (n := B.length) (fun n s => ∃ i : Nat, n = B.length - i ∧ s.nt = 25 ∧ s.tm 1 = Ar B ∧ s.tm 2 = .ptr 0 0 ∧ s.tm 5 = .ref 1 i [] ∧ s.tm 6 = In i ∧ i ≤ B.length ∧ s.σ.ob 0 = .box [Ar q.head, Ar q.body] ∧ s.σ.ob 1 = .arr (.own 0) 0 1 (rowsE ((B.map (headR q)).take i)) ∧ 2 ≤ s.σ.n) ⟨0, by simp⟩ ?_
  rintro n ⟨nt, tm, σ⟩ ⟨i, rfl, hnt, h1, h2, h5, h6, hi, hb0, ho, hn⟩
  simp only at hnt h1 h2 h5 h6 hb0 ho hn
  subst hnt
  have ne1_ : ¬ (0 = σ.n) := by omega
  have ne2_ : ¬ (σ.n = 0) := by omega
  have ne3_ : ¬ (0 = σ.n + 1) := by omega
  have ne4_ : ¬ (σ.n + 1 = 0) := by omega
  have ne5_ : ¬ (1 = σ.n) := by omega
  have ne6_ : ¬ (σ.n = 1) := by omega
  have ne7_ : ¬ (1 = σ.n + 1) := by omega
  have ne8_ : ¬ (σ.n + 1 = 1) := by omega
  repeat' first|refine W_seq ?_|refine W_block ?_|refine W_skip ?_|refine W_ret ?_|refine W_exit ?_|refine xb_hit ?_|refine xb_miss (by decide) ?_|(apply W_reg;(simp [h1, h2, h5, h6, hb0, ho, hn, ne1_, ne2_, ne3_, ne4_, ne5_, ne6_, ne7_, ne8_];exact .r _))
  refine W_cond (by simp [h1, h2, h5, h6, hb0, ho, hn, ne1_, ne2_, ne3_, ne4_, ne5_, ne6_, ne7_, ne8_]; exact .r _) (fun hc => ?_) (fun hc => ?_)
  · have hil : i < B.length := by simpa using hc
    have c1 := cv (l6Tuple_r q.head B[i] (h20 _ (List.getElem_mem hil)).1 hh (h20 _ (List.getElem_mem hil)).2)
    have hmin : min i B.length = i := by omega
    have hmap : (rowsE (q.head.map (valR B[i]))).length = q.head.length := by rw [rowsE_len, List.length_map]
    have htk : (rowsE (q.head.map (valR B[i]))).take q.head.length = rowsE (q.head.map (valR B[i])) := by rw [← hmap, List.take_length]
    repeat' first|refine W_seq ?_|refine W_block ?_|refine W_skip ?_|refine W_ret ?_|refine W_exit ?_|refine xb_hit ?_|refine xb_miss (by decide) ?_|(apply W_reg;(simp [h1, h2, h5, h6, hb0, ho, hn, ne1_, ne2_, ne3_, ne4_, ne5_, ne6_, ne7_, ne8_, hil, c1, hmin, hmap, htk, show i + 1 < 1099511627776 by omega];exact .r _))|(apply W_draw (id := 5) [0,0,2,0,0,24,56,126,254,511,1023] rfl rfl; (· simp; exact .r _); (· simp [h1, h2, h5, h6, hb0, ho, hn, ne1_, ne2_, ne3_, ne4_, ne5_, ne6_, ne7_, ne8_, hil, c1, hmin, hmap, htk, show i + 1 < 1099511627776 by omega]; exact .r _); (· first|trivial|simp))
    refine ⟨_, ?_, i + 1, rfl, rfl, ?_, ?_, (by simp), ?_, by omega, ?_, (by simp; rw [rowsE_take (B.map (headR q)) i (by simpa using hil)]; simp [headR]), ?_⟩
    all_goals first|assumption|(simp [h1, h2, h5, h6, hb0, ho, hn, ne1_, ne2_, ne3_, ne4_, ne5_, ne6_, ne7_, ne8_, hmin];done)|(simp [h1, h2, h5, h6, hb0, ho, hn, ne1_, ne2_, ne3_, ne4_, ne5_, ne6_, ne7_, ne8_, hmin];omega)|(simp [h1, h2, h5, h6, hb0, ho, hn, ne1_, ne2_, ne3_, ne4_, ne5_, ne6_, ne7_, ne8_, hmin];exact wrap_succ (by omega))|omega
  · have hil : i = B.length := by simp at hc; omega
    subst hil
    rw [List.take_of_length_le (by simp)] at ho
    repeat' first|refine W_seq ?_|refine W_block ?_|refine W_skip ?_|refine W_ret ?_|refine W_exit ?_|refine xb_hit ?_|refine xb_miss (by decide) ?_|(apply W_reg;(simp [h1, h2, h5, h6, hb0, ho, hn, ne1_, ne2_, ne3_, ne4_, ne5_, ne6_, ne7_, ne8_];exact .r _))
    simp [ho]
theorem val_enc {c : Sch} {q : Qry} {db : List RA} (e1 : isQry c q = true) {b : Bnd} (hb : b ∈ binds db q.body b0) : ∀ a ∈ q.body, ∀ t ∈ a.args, valR (encB b) t = valI b t := by
  have hqs := isQry_small e1
  have hT : ∀ a ∈ q.body, TermsIn b0.length a.args := fun a ha t ht => by have := (hqs.2.2.2 a ha).2 t ht; simp only [b0_len]; omega
  have hspec := (binds_spec q.body hT hb).2
  intro a ha t ht
  have htr := isTerm_iff.2 ((hqs.2.2.2 a ha).2 t ht)
  by_cases h0 : t < 0
  · exact valR_neg htr h0
  · obtain ⟨v, hv⟩ := (hspec a ha).2 t ht (by omega)
    exact valR_enc htr (by omega) hv
theorem head_enc {c : Sch} {q : Qry} {db : List RA} (e1 : isQry c q = true) {b : Bnd} (hb : b ∈ binds db q.body b0) : headR q (encB b) = headI q b := by
  have hqs := isQry_small e1
  unfold headR headI
  refine List.map_congr_left fun t ht => ?_
  have htr := isTerm_iff.2 (hqs.2.2.1 t ht)
  by_cases h0 : t < 0
  · exact valR_neg htr h0
  · obtain ⟨a, ha, hta⟩ := isQry_bound e1 ht (by omega)
    exact val_enc e1 hb a ha t hta
theorem ans_eq (c : Sch) (q : Qry) (db : List RA) : srtU ((if isQry c q && isDb c db then rawB q db else []).map (headR q)) = ansC c q db := by
  unfold ansC
  by_cases e : (isQry c q && isDb c db) = true
  · rw [if_pos e, if_pos e]
    rw [Bool.and_eq_true] at e
    refine srtU_ext fun x => ?_
    simp only [List.mem_map, rawB, mem_srtU]
    constructor
    · rintro ⟨r, ⟨b, hb, rfl⟩, rfl⟩
      exact ⟨b, hb, (head_enc e.1 hb).symm⟩
    · rintro ⟨b, hb, rfl⟩
      exact ⟨_, ⟨b, hb, rfl⟩, head_enc e.1 hb⟩
  · rw [if_neg e, if_neg e]
    simp [srtU, srt, uniq]
theorem specAns_r (c : Sch) (q : Qry) (db : List RA) (hc : Lw.bd 1048576 c) (hq : Lw.bd 1048576 q) (hd : Lw.bd 1048576 db) : Ret XX 205 [Ag c, Ag q, Ar db] (.own 1 (rowsE (ansC c q db))) := by
  refine ret_W rfl Tryz.func205 rfl rfl (by simp [Tryz.f205]) ?_
  simp only [Tryz.f205]
  have c1 := cv (specBindings_r c q db hc hq hd)
  simp only [Ag, cells_Sch, cells_Q, List.map_cons, List.map_nil] at c1
  rw [← ans_eq]
  have hB0 : ∀ r ∈ (if isQry c q && isDb c db then rawB q db else []), isQry c q = true ∧ r.length = 20 := fun r hr => by
    split at hr
    · rename_i e; rw [Bool.and_eq_true] at e; exact ⟨e.1, (rawB_bd e.1 e.2).2 r hr⟩
    · cases hr
  have hB1 : (if isQry c q && isDb c db then rawB q db else []).length ≤ 331776 := by
    split
    · rename_i e; rw [Bool.and_eq_true] at e; exact (rawB_bd e.1 e.2).1
    · simp
  generalize (if isQry c q && isDb c db then rawB q db else []) = B at *
  have sh : Sm q.head := Nat.lt_of_le_of_lt hq.1.1 (by omega)
  have c2 := cv (l6Heads_r q B (by unfold Sm; omega) (fun r hr => ⟨(hB0 r hr).2, fun t ht => isTerm_iff.2 ((isQry_small (hB0 r hr).1).2.2.1 t ht)⟩) sh)
  have c3 := cv (l6Sort_true (B.map (headR q)) (by rw [List.length_map]; omega) (fun x hx => by
    obtain ⟨r, _, rfl⟩ := List.mem_map.1 hx
    simpa [headR, Sm] using sh))
  simp only [Ag, cells_Q, List.map_cons, List.map_nil] at c2
  have hBl : (rowsE B).length = B.length := rowsE_len ..
  repeat' first|refine W_seq ?_|refine W_block ?_|refine W_skip ?_|refine W_ret ?_|refine W_exit ?_|refine xb_hit ?_|refine xb_miss (by decide) ?_|(apply W_reg;(simp [Ag, c1, c2, c3, hBl];exact .r _))|(apply W_draw (id := 1) [0,0,0,0,14,31,63,127] rfl rfl; (· simp; exact .r _); (· simp [Ag, c1, c2, c3, hBl]; exact .r _); (· first|trivial|simp))
  simp
end Go.Proofs.YtmfifjbbjjdacaaGreat.V

namespace Go.Proofs.YtmfifjbbjjdacaaGreat.V
open Go Go.Proofs
set_option linter.unusedVariables false
def m0 : List Int := List.replicate 20 (-1000)
def mapA (f : Int → Int) (a : RA) : RA := ⟨a.rel, a.args.map f⟩
def chg (f : Int → Int) (q : Qry) : Qry := ⟨q.head.map f, q.body.map (mapA f)⟩
/-- The variables of a query, ascending. -/
def iota (n : Nat) : List Int := (List.range n).map Int.ofNat
def varsQ (q : Qry) : List Int := (iota 20).filter fun v => occurs q v || decide (v ∈ q.head)
/-- Names that are not in use. -/
def nxt (used : List Int) : Option Int := (iota 20).find? fun v => !decide (v ∈ used)
def freshL : List Int → List Int → Option (List (Int × Int) × List Int)
  | [], used => some ([], used)
  | v :: vs, used => (nxt used).bind fun n => (freshL vs (used ++ [n])).map fun r => ((v, n) :: r.1, r.2)
def asn (ps : List (Int × Int)) (t : Int) : Int := ((ps.find? fun p => decide (p.1 = t)).map (·.2)).getD t
/-- The views' bodies under fresh names; the arguments; the views' heads. -/
def unfS (views : List Qry) : List RA → List Int → Option (List RA × List Int × List Int)
  | [], _ => some ([], [], [])
  | a :: as_, used => match views[a.rel.toNat]? with
    | none => none
    | some v => (freshL (varsQ v) used).bind fun r => (unfS views as_ r.2).map fun s => (v.body.map (mapA (asn r.1)) ++ s.1, a.args ++ s.2.1, v.head.map (asn r.1) ++ s.2.2)
/-- What is put for what, so that two terms become equal. -/
def eqt (t u : Int) : Option (Int × Int) := if t = u then some (t, t) else if t < 0 then (if u < 0 then none else some (u, t)) else if u < 0 then some (t, u) else some (max t u, min t u)
def sb (p : Int × Int) (t : Int) : Int := if t = p.1 then p.2 else t
/-- Head, body, arguments and heads while the pairs from the i-th on are made equal. -/
structure Ust where
  h : List Int
  b : List RA
  l : List Int
  r : List Int
  deriving DecidableEq
def Ust.sub (p : Int × Int) (s : Ust) : Ust := ⟨s.h.map (sb p), s.b.map (mapA (sb p)), s.l.map (sb p), s.r.map (sb p)⟩
def eqS : List Nat → Ust → Option Ust
  | [], s => some s
  | i :: is, s => (eqt ((s.l[i]?).getD 0) ((s.r[i]?).getD 0)).bind fun p => eqS is (s.sub p)
/-- Each atom once, where it comes first. -/
def ddF (out : List RA) (a : RA) : List RA := if a ∈ out then out else out ++ [a]
def ddp (l : List RA) : List RA := l.foldl ddF []
def vSch (views : List Qry) : Sch := ⟨views.map fun v => (v.head.length : Int)⟩
def vOk (c : Sch) (v : Qry) : Bool := isQry c v && !decide (v.head.length = 0)
def allVs (c : Sch) (views : List Qry) : Bool := views.all (vOk c)
theorem allVs_cons {c : Sch} {v : Qry} {l : List Qry} : allVs c (v :: l) = (vOk c v && allVs c l) := rfl
theorem allVs_nil {c : Sch} : allVs c [] = true := rfl
def areVs (c : Sch) (views : List Qry) : Bool := allVs c views && isSch c && inR views.length 1 4
theorem areVs_mem {c : Sch} {vs : List Qry} (h : areVs c vs = true) : (∀ v ∈ vs, isQry c v = true ∧ v.head.length ≠ 0) ∧ isSch c = true ∧ 1 ≤ vs.length ∧ vs.length ≤ 4 := by
  simp only [areVs, allVs, vOk, Bool.and_eq_true, List.all_eq_true, inR, decide_eq_true_eq, Bool.not_eq_true', decide_eq_false_iff_not] at h
  exact ⟨fun v hv => ⟨(h.1.1 v hv).1, (h.1.1 v hv).2⟩, h.1.2, by omega, by omega⟩
def unfQ (views : List Qry) (q : Qry) : Option Qry := (unfS views q.body (varsQ q)).bind fun s => (eqS (List.range s.2.1.length) ⟨q.head, s.1, s.2.1, s.2.2⟩).map fun u => ⟨u.h, ddp u.b⟩
def unfold (c : Sch) (views : List Qry) (q : Qry) : Option Qry := if areVs c views && isQry (vSch views) q then unfQ views q else none
end Go.Proofs.YtmfifjbbjjdacaaGreat.V

namespace Go.Proofs.YtmfifjbbjjdacaaGreat.V
open Go Go.Proofs
set_option linter.unusedVariables false
set_option linter.unusedSimpArgs false
/-- Lengths of a query. -/
def SmQ (q : Qry) : Prop := Sm q.head ∧ Sm q.body ∧ ∀ a ∈ q.body, Sm a.args
theorem SmQ.of {N : Nat} (hN : N < 1099511627775) {q : Qry} (h : Lw.bd N q) : SmQ q := ⟨Nat.lt_of_le_of_lt h.1.1 hN, Nat.lt_of_le_of_lt h.2.1 hN, fun a ha => Nat.lt_of_le_of_lt (h.2.2 a ha).1 hN⟩
/-- A slice in a struct that grows from nil. -/
def gc (o n : Nat) : AV := if n = 0 then .t .nl else .ref o n []
@[simp] theorem gc_zero (o : Nat) : gc o 0 = .t .nl := rfl
@[simp] theorem gc_succ (o n : Nat) : gc o (n + 1) = .ref o (n + 1) [] := rfl
theorem gc_pos {o n : Nat} (h : n ≠ 0) : gc o n = .ref o n [] := by unfold gc; rw [if_neg h]
abbrev xvQ (q : Qry) : XV := .agg [.own 1 (rowsE q.head), .own 2 (rowsE q.body)]
theorem copyQuery_r (q : Qry) (h : SmQ q) : Ret XX 277 [Ag q] (xvQ q) := by
  refine ret_W rfl Tryz.func277 rfl rfl (by simp [Tryz.f277]) ?_
  simp only [Tryz.f277]
  have c1 := cv (copyInts_r q.head h.1)
  have c2 := cv (copyAtoms_r q.body h.2.1 h.2.2)
  repeat' first|refine W_seq ?_|refine W_block ?_|refine W_skip ?_|refine W_ret ?_|refine W_exit ?_|refine xb_hit ?_|refine xb_miss (by decide) ?_|(apply W_reg;(simp [Ag, c1, c2];exact .r _))|(apply W_draw (id := 1) [0,1,3,0,8,31,63,127] rfl rfl; (· simp; exact .r _); (· simp [Ag, c1, c2]; exact .r _); (· first|trivial|simp))
  simp
theorem copyQueries_r (l : List Qry) (hl : Sm l) (h : ∀ q ∈ l, SmQ q) : Ret XX 208 [Ar l] (.own 2 (rowsE l)) := by
  refine ret_W rfl Tryz.func208 rfl rfl (by simp [Tryz.f208]) ?_
  simp only [Tryz.f208]
  repeat' first|refine W_seq ?_|refine W_block ?_|refine W_skip ?_|refine W_ret ?_|refine W_exit ?_|refine xb_hit ?_|refine xb_miss (by decide) ?_|(apply W_reg;(simp;exact .r _))
  refine W_loop (n := l.length) (fun n s => ∃ i : Nat, n = l.length - i ∧ s.nt = 20 ∧ s.tm 3 = .ref 0 i [] ∧ s.tm 7 = Ar l ∧ s.tm 8 = In l.length ∧ s.tm 9 = In i ∧ i ≤ l.length ∧ s.σ.ob 0 = .arr (.own 0) 0 2 (rowsE (l.take i)) ∧ 1 ≤ s.σ.n) ⟨0, by simp⟩ ?_
  rintro n ⟨nt, tm, σ⟩ ⟨i, rfl, hnt, h3, h7, h8, h9, hi, ho, hn⟩
  simp only at hnt h3 h7 h8 h9 ho hn
  subst hnt
  have ne1_ : ¬ (0 = σ.n) := by omega
  have ne2_ : ¬ (σ.n = 0) := by omega
  have ne3_ : ¬ (0 = σ.n + 1) := by omega
  have ne4_ : ¬ (σ.n + 1 = 0) := by omega
  have ne5_ : ¬ (0 = σ.n + 2) := by omega
  have ne6_ : ¬ (σ.n + 2 = 0) := by omega
  have ne7_ : ¬ (0 = σ.n + 3) := by omega
  have ne8_ : ¬ (σ.n + 3 = 0) := by omega
  repeat' first|refine W_seq ?_|refine W_block ?_|refine W_skip ?_|refine W_ret ?_|refine W_exit ?_|refine xb_hit ?_|refine xb_miss (by decide) ?_|(apply W_reg;(simp [h3, h7, h8, h9, ho, hn, ne1_, ne2_, ne3_, ne4_, ne5_, ne6_, ne7_, ne8_];exact .r _))
  refine W_cond (by simp [h3, h7, h8, h9, ho, hn, ne1_, ne2_, ne3_, ne4_, ne5_, ne6_, ne7_, ne8_]; exact .r _) (fun hc => ?_) (fun hc => ?_)
  · have hil : i < l.length := by simpa using hc
    have c1 := cv (copyQuery_r l[i] (h _ (List.getElem_mem hil)))
    simp only [Ag, cells_Q, List.map_cons, List.map_nil] at c1
    have hmin : min i l.length = i := by omega
    repeat' first|refine W_seq ?_|refine W_block ?_|refine W_skip ?_|refine W_ret ?_|refine W_exit ?_|refine xb_hit ?_|refine xb_miss (by decide) ?_|(apply W_reg;(simp [h3, h7, h8, h9, ho, hn, ne1_, ne2_, ne3_, ne4_, ne5_, ne6_, ne7_, ne8_, hil, c1, hmin, show i + 1 < 1099511627776 by unfold Sm at hl; omega];exact .r _))
    refine ⟨_, ?_, i + 1, rfl, rfl, ?_, ?_, ?_, ?_, by omega, (by simp [ne1_, ne2_, ne3_, ne4_, ne5_, ne6_, ne7_, ne8_]; rw [rowsE_take l i hil]; simp), ?_⟩
    all_goals first|assumption|(simp [h3, h7, h8, h9, ho, hn, ne1_, ne2_, ne3_, ne4_, ne5_, ne6_, ne7_, ne8_];done)|(simp [h3, h7, h8, h9, ho, hn, ne1_, ne2_, ne3_, ne4_, ne5_, ne6_, ne7_, ne8_];omega)|(simp [h3, h7, h8, h9, ho, hn, ne1_, ne2_, ne3_, ne4_, ne5_, ne6_, ne7_, ne8_];exact wrap_succ (by omega))|omega
  · have hil : i = l.length := by simp at hc; omega
    subst hil
    rw [List.take_length] at ho
    repeat' first|refine W_seq ?_|refine W_block ?_|refine W_skip ?_|refine W_ret ?_|refine W_exit ?_|refine xb_hit ?_|refine xb_miss (by decide) ?_|(apply W_reg;(simp [h3, h7, h8, h9, ho, hn, ne1_, ne2_, ne3_, ne4_, ne5_, ne6_, ne7_, ne8_];exact .r _))
    simp [ho]
theorem implAreVs_r (c : Sch) (vs : List Qry) (sc : Sm c.arity) (hl : Sm vs) (h : ∀ q ∈ vs, SmQ q) : Ret XX 207 [Ag c, Ar vs] (.t (.b (areVs c vs)) false) := by
  refine ret_W rfl Tryz.func207 rfl rfl (by simp [Tryz.f207]) ?_
  simp only [Tryz.f207]
  repeat' first|refine W_seq ?_|refine W_block ?_|refine W_skip ?_|refine W_ret ?_|refine W_exit ?_|refine xb_hit ?_|refine xb_miss (by decide) ?_|(apply W_reg;(simp [Ag];exact .r _))
  refine W_loop (n := vs.length) (fun n s => ∃ i : Nat, n = vs.length - i ∧ s.nt = 31 ∧ s.tm 1 = Ar vs ∧ s.tm 2 = .ptr 0 0 ∧ s.tm 7 = Ar vs ∧ s.tm 8 = In vs.length ∧ s.tm 9 = In i ∧ i ≤ vs.length ∧ s.σ.ob 0 = .box [Ar c.arity] ∧ 1 ≤ s.σ.n ∧ allVs c vs = allVs c (vs.drop i)) ⟨0, by simp⟩ ?_
  rintro n ⟨nt, tm, σ⟩ ⟨i, rfl, hnt, h1, h2, h7, h8, h9, hi, hb0, hn, heq⟩
  simp only at hnt h1 h2 h7 h8 h9 hb0 hn
  subst hnt
  have ne9_ : ¬ (0 = σ.n) := by omega
  have ne10_ : ¬ (σ.n = 0) := by omega
  repeat' first|refine W_seq ?_|refine W_block ?_|refine W_skip ?_|refine W_ret ?_|refine W_exit ?_|refine xb_hit ?_|refine xb_miss (by decide) ?_|(apply W_reg;(simp [h1, h2, h7, h8, h9, hb0, hn, ne9_, ne10_];exact .r _))
  refine W_cond (by simp [h1, h2, h7, h8, h9, hb0, hn, ne9_, ne10_]; exact .r _) (fun hc => ?_) (fun hc => ?_)
  · have hil : i < vs.length := by simpa using hc
    have hq := h _ (List.getElem_mem hil)
    have c1 := cv (implIsQuery_r c vs[i] sc hq.1 hq.2.1 hq.2.2)
    simp only [Ag, cells_Sch, cells_Q, List.map_cons, List.map_nil] at c1
    rw [List.drop_eq_getElem_cons hil, allVs_cons, vOk] at heq
    cases e1 : isQry c vs[i]
    · repeat' first|refine W_seq ?_|refine W_block ?_|refine W_skip ?_|refine W_ret ?_|refine W_exit ?_|refine xb_hit ?_|refine xb_miss (by decide) ?_|(apply W_reg;(simp [h1, h2, h7, h8, h9, hb0, hn, ne9_, ne10_, hil, c1, e1];exact .r _))
      refine W_cond (by simp [h1, h2, h7, h8, h9, hb0, hn, ne9_, ne10_]; exact .r _) (fun hd => ?_) (fun hd => ?_)
      · repeat' first|refine W_seq ?_|refine W_block ?_|refine W_skip ?_|refine W_ret ?_|refine W_exit ?_|refine xb_hit ?_|refine xb_miss (by decide) ?_|(apply W_reg;(simp [h1, h2, h7, h8, h9, hb0, hn, ne9_, ne10_];exact .r _))
        simp [areVs, heq, e1]
      · cases hd
    · repeat' first|refine W_seq ?_|refine W_block ?_|refine W_skip ?_|refine W_ret ?_|refine W_exit ?_|refine xb_hit ?_|refine xb_miss (by decide) ?_|(apply W_reg;(simp [h1, h2, h7, h8, h9, hb0, hn, ne9_, ne10_, hil, c1, e1];exact .r _))
      refine W_cond (by simp [h1, h2, h7, h8, h9, hb0, hn, ne9_, ne10_]; exact .r _) (fun hd => ?_) (fun hd => ?_)
      · repeat' first|refine W_seq ?_|refine W_block ?_|refine W_skip ?_|refine W_ret ?_|refine W_exit ?_|refine xb_hit ?_|refine xb_miss (by decide) ?_|(apply W_reg;(simp [h1, h2, h7, h8, h9, hb0, hn, ne9_, ne10_];exact .r _))
        have hd' : vs[i].head.length = 0 := by simp at hd; simp [hd]
        simp [areVs, heq, hd']
      · have hd' : ¬ vs[i].head.length = 0 := by simp at hd; simp [hd]
        repeat' first|refine W_seq ?_|refine W_block ?_|refine W_skip ?_|refine W_ret ?_|refine W_exit ?_|refine xb_hit ?_|refine xb_miss (by decide) ?_|(apply W_reg;(simp [h1, h2, h7, h8, h9, hb0, hn, ne9_, ne10_];exact .r _))
        refine ⟨_, ?_, i + 1, rfl, rfl, ?_, ?_, ?_, ?_, ?_, by omega, ?_, ?_, (by rw [heq, e1, decide_eq_false hd']; rfl)⟩
        all_goals first|assumption|(simp [h1, h2, h7, h8, h9, hb0, hn, ne9_, ne10_];done)|(simp [h1, h2, h7, h8, h9, hb0, hn, ne9_, ne10_];omega)|(simp [h1, h2, h7, h8, h9, hb0, hn, ne9_, ne10_];exact wrap_succ (by omega))|omega
  · have hil : i = vs.length := by simp at hc; omega
    subst hil
    rw [List.drop_length, allVs_nil] at heq
    have c2 := cv (implIsSchema_r c sc)
    have c3 := cv (within_r vs.length 1 4)
    simp only [Ag, cells_Sch, List.map_cons, List.map_nil] at c2
    cases e : isSch c
    · repeat' first|refine W_seq ?_|refine W_block ?_|refine W_skip ?_|refine W_ret ?_|refine W_exit ?_|refine xb_hit ?_|refine xb_miss (by decide) ?_|(apply W_reg;(simp [h1, h2, h7, h8, h9, hb0, hn, ne9_, ne10_, c2, e];exact .r _))
      simp [areVs, e]
    · repeat' first|refine W_seq ?_|refine W_block ?_|refine W_skip ?_|refine W_ret ?_|refine W_exit ?_|refine xb_hit ?_|refine xb_miss (by decide) ?_|(apply W_reg;(simp [h1, h2, h7, h8, h9, hb0, hn, ne9_, ne10_, c2, e, c3];exact .r _))
      simp [areVs, e, heq]
theorem specAreVs_r (c : Sch) (vs : List Qry) (sc : Sm c.arity) (hl : Sm vs) (h : ∀ q ∈ vs, SmQ q) : Ret XX 204 [Ag c, Ar vs] (.t (.b (areVs c vs)) false) := by
  refine ret_W rfl Tryz.func204 rfl rfl (by simp [Tryz.f204]) ?_
  simp only [Tryz.f204]
  repeat' first|refine W_seq ?_|refine W_block ?_|refine W_skip ?_|refine W_ret ?_|refine W_exit ?_|refine xb_hit ?_|refine xb_miss (by decide) ?_|(apply W_reg;(simp [Ag];exact .r _))
  refine W_loop (n := vs.length) (fun n s => ∃ i : Nat, n = vs.length - i ∧ s.nt = 35 ∧ s.tm 1 = Ar vs ∧ s.tm 2 = .ptr 0 0 ∧ s.tm 5 = In i ∧ i ≤ vs.length ∧ s.σ.ob 0 = .box [Ar c.arity] ∧ 1 ≤ s.σ.n ∧ allVs c vs = allVs c (vs.drop i)) ⟨0, by simp⟩ ?_
  rintro n ⟨nt, tm, σ⟩ ⟨i, rfl, hnt, h1, h2, h5, hi, hb0, hn, heq⟩
  simp only at hnt h1 h2 h5 hb0 hn
  subst hnt
  have ne11_ : ¬ (0 = σ.n) := by omega
  have ne12_ : ¬ (σ.n = 0) := by omega
  repeat' first|refine W_seq ?_|refine W_block ?_|refine W_skip ?_|refine W_ret ?_|refine W_exit ?_|refine xb_hit ?_|refine xb_miss (by decide) ?_|(apply W_reg;(simp [h1, h2, h5, hb0, hn, ne11_, ne12_];exact .r _))
  refine W_cond (by simp [h1, h2, h5, hb0, hn, ne11_, ne12_]; exact .r _) (fun hc => ?_) (fun hc => ?_)
  · have hil : i < vs.length := by simpa using hc
    have hq := h _ (List.getElem_mem hil)
    have c1 := cv (specIsQuery_r c vs[i] sc hq.1 hq.2.1 hq.2.2)
    simp only [Ag, cells_Sch, cells_Q, List.map_cons, List.map_nil] at c1
    rw [List.drop_eq_getElem_cons hil, allVs_cons, vOk] at heq
    cases e1 : isQry c vs[i]
    · repeat' first|refine W_seq ?_|refine W_block ?_|refine W_skip ?_|refine W_ret ?_|refine W_exit ?_|refine xb_hit ?_|refine xb_miss (by decide) ?_|(apply W_reg;(simp [h1, h2, h5, hb0, hn, ne11_, ne12_, hil, c1, e1];exact .r _))|(apply W_draw (id := 4) [0,0,0,6,14,31,63,127,255,255,1023,2047,4095,8191,16383,32767] rfl rfl; (· simp; exact .r _); (· simp [h1, h2, h5, hb0, hn, ne11_, ne12_, hil, c1, e1]; exact .r _); (· first|trivial|simp))
      refine W_cond (by simp [h1, h2, h5, hb0, hn, ne11_, ne12_]; exact .r _) (fun hd => ?_) (fun hd => ?_)
      · repeat' first|refine W_seq ?_|refine W_block ?_|refine W_skip ?_|refine W_ret ?_|refine W_exit ?_|refine xb_hit ?_|refine xb_miss (by decide) ?_|(apply W_reg;(simp [h1, h2, h5, hb0, hn, ne11_, ne12_];exact .r _))
        simp [areVs, heq, e1]
      · cases hd
    · repeat' first|refine W_seq ?_|refine W_block ?_|refine W_skip ?_|refine W_ret ?_|refine W_exit ?_|refine xb_hit ?_|refine xb_miss (by decide) ?_|(apply W_reg;(simp [h1, h2, h5, hb0, hn, ne11_, ne12_, hil, c1, e1];exact .r _))|(apply W_draw (id := 4) [0,0,0,6,14,31,63,127,255,255,1023,2047,4095,8191,16383,32767] rfl rfl; (· simp; exact .r _); (· simp [h1, h2, h5, hb0, hn, ne11_, ne12_, hil, c1, e1]; exact .r _); (· first|trivial|simp))
      refine W_cond (by simp [h1, h2, h5, hb0, hn, ne11_, ne12_]; exact .r _) (fun hd => ?_) (fun hd => ?_)
      · repeat' first|refine W_seq ?_|refine W_block ?_|refine W_skip ?_|refine W_ret ?_|refine W_exit ?_|refine xb_hit ?_|refine xb_miss (by decide) ?_|(apply W_reg;(simp [h1, h2, h5, hb0, hn, ne11_, ne12_];exact .r _))
        have hd' : vs[i].head.length = 0 := by simp at hd; simp [hd]
        simp [areVs, heq, hd']
      · have hd' : ¬ vs[i].head.length = 0 := by simp at hd; simp [hd]
        repeat' first|refine W_seq ?_|refine W_block ?_|refine W_skip ?_|refine W_ret ?_|refine W_exit ?_|refine xb_hit ?_|refine xb_miss (by decide) ?_|(apply W_reg;(simp [h1, h2, h5, hb0, hn, ne11_, ne12_];exact .r _))
        refine ⟨_, ?_, i + 1, rfl, rfl, ?_, ?_, ?_, by omega, ?_, ?_, (by rw [heq, e1, decide_eq_false hd']; rfl)⟩
        all_goals first|assumption|(simp [h1, h2, h5, hb0, hn, ne11_, ne12_];done)|(simp [h1, h2, h5, hb0, hn, ne11_, ne12_];omega)|(simp [h1, h2, h5, hb0, hn, ne11_, ne12_];exact wrap_succ (by omega))|omega
  · have hil : i = vs.length := by simp at hc; omega
    subst hil
    rw [List.drop_length, allVs_nil] at heq
    have c2 := cv (specIsSchema_r c sc)
    have c3 := cv (l1In_r vs.length 1 4)
    simp only [Ag, cells_Sch, List.map_cons, List.map_nil] at c2
    cases e : isSch c
    · repeat' first|refine W_seq ?_|refine W_block ?_|refine W_skip ?_|refine W_ret ?_|refine W_exit ?_|refine xb_hit ?_|refine xb_miss (by decide) ?_|(apply W_reg;(simp [h1, h2, h5, hb0, hn, ne11_, ne12_, c2, e];exact .r _))
      simp [areVs, e]
    · repeat' first|refine W_seq ?_|refine W_block ?_|refine W_skip ?_|refine W_ret ?_|refine W_exit ?_|refine xb_hit ?_|refine xb_miss (by decide) ?_|(apply W_reg;(simp [h1, h2, h5, hb0, hn, ne11_, ne12_, c2, e, c3];exact .r _))
      simp [areVs, e, heq]
/-- A term renamed by a list. -/
def rnI (to : List Int) (t : Int) : Int := if 0 ≤ t ∧ t ≤ (to.length : Int) - 1 then (to[t.toNat]?).getD 0 else t
theorem l4Term_r (t : Int) (to : List Int) (h : Sm to) : Ret XX 369 [In t, Ar to] (.t (.i .i64 (rnI to t)) false) := by
  refine ret_W rfl Tryz.func369 rfl rfl (by simp [Tryz.f369]) ?_
  simp only [Tryz.f369]
  have c1 := cv (l1In_r t 0 ((to.length : Int) - 1))
  have wr13_ : IntKind.i64.wrap ((to.length : Int) - 1) = (to.length : Int) - 1 := wrap_ok (by omega) (by omega)
  repeat' first|refine W_seq ?_|refine W_block ?_|refine W_skip ?_|refine W_ret ?_|refine W_exit ?_|refine xb_hit ?_|refine xb_miss (by decide) ?_|(apply W_reg;(simp [wr13_, c1];exact .r _))
  refine W_cond (by simp [wr13_]; exact .r _) (fun hc => ?_) (fun hc => ?_)
  · have hc' : 0 ≤ t ∧ t ≤ (to.length : Int) - 1 := by simpa [inR] using hc
    have ht : t.toNat < to.length := by omega
    repeat' first|refine W_seq ?_|refine W_block ?_|refine W_skip ?_|refine W_ret ?_|refine W_exit ?_|refine xb_hit ?_|refine xb_miss (by decide) ?_|(apply W_reg;(simp [wr13_, hc'.1, ht];exact .r _))
    simp [rnI, hc', ht]
  · have hc' : ¬ (0 ≤ t ∧ t ≤ (to.length : Int) - 1) := by simpa [inR] using hc
    repeat' first|refine W_seq ?_|refine W_block ?_|refine W_skip ?_|refine W_ret ?_|refine W_exit ?_|refine xb_hit ?_|refine xb_miss (by decide) ?_|(apply W_reg;(simp [wr13_];exact .r _))
    simp only [rnI, if_neg hc']
    simp
theorem l4Terms_r (l to : List Int) (hl : Sm l) (h : Sm to) : Ret XX 327 [Ar l, Ar to] (.own 1 (rowsE (l.map (rnI to)))) := by
  refine ret_W rfl Tryz.func327 rfl rfl (by simp [Tryz.f327]) ?_
  simp only [Tryz.f327]
  repeat' first|refine W_seq ?_|refine W_block ?_|refine W_skip ?_|refine W_ret ?_|refine W_exit ?_|refine xb_hit ?_|refine xb_miss (by decide) ?_|(apply W_reg;(simp;exact .r _))
  refine W_loop (n := l.length) (fun n s => ∃ i : Nat, n = l.length - i ∧ s.nt = 26 ∧ s.tm 0 = Ar l ∧ s.tm 1 = Ar to ∧ s.tm 5 = .ref 0 i [] ∧ s.tm 6 = In i ∧ i ≤ l.length ∧ s.σ.ob 0 = .arr (.own 0) 0 1 (rowsE ((l.map (rnI to)).take i)) ∧ 1 ≤ s.σ.n) ⟨0, by simp⟩ ?_
  rintro n ⟨nt, tm, σ⟩ ⟨i, rfl, hnt, h0, h1, h5, h6, hi, ho, hn⟩
  simp only at hnt h0 h1 h5 h6 ho hn
  subst hnt
  have ne14_ : ¬ (0 = σ.n) := by omega
  have ne15_ : ¬ (σ.n = 0) := by omega
  have ne16_ : ¬ (0 = σ.n + 1) := by omega
  have ne17_ : ¬ (σ.n + 1 = 0) := by omega
  repeat' first|refine W_seq ?_|refine W_block ?_|refine W_skip ?_|refine W_ret ?_|refine W_exit ?_|refine xb_hit ?_|refine xb_miss (by decide) ?_|(apply W_reg;(simp [h0, h1, h5, h6, ho, hn, ne14_, ne15_, ne16_, ne17_];exact .r _))
  refine W_cond (by simp [h0, h1, h5, h6, ho, hn, ne14_, ne15_, ne16_, ne17_]; exact .r _) (fun hc => ?_) (fun hc => ?_)
  · have hil : i < l.length := by simpa using hc
    have c1 := cv (l4Term_r l[i] to h)
    repeat' first|refine W_seq ?_|refine W_block ?_|refine W_skip ?_|refine W_ret ?_|refine W_exit ?_|refine xb_hit ?_|refine xb_miss (by decide) ?_|(apply W_reg;(simp [h0, h1, h5, h6, ho, hn, ne14_, ne15_, ne16_, ne17_, hil, c1, show min i l.length = i by omega, show i + 1 < 1099511627776 by unfold Sm at hl; omega];exact .r _))
    refine ⟨_, ?_, i + 1, rfl, rfl, ?_, ?_, ?_, ?_, by omega, (by simp [h0, h1, h5, h6, ho, hn, ne14_, ne15_, ne16_, ne17_]; rw [rowsE_take (l.map (rnI to)) i (by simpa using hil)]; simp), ?_⟩
    all_goals first|assumption|(simp [h0, h1, h5, h6, ho, hn, ne14_, ne15_, ne16_, ne17_];done)|(simp [h0, h1, h5, h6, ho, hn, ne14_, ne15_, ne16_, ne17_];omega)|(simp [h0, h1, h5, h6, ho, hn, ne14_, ne15_, ne16_, ne17_];exact wrap_succ (by omega))|omega
  · have hil : i = l.length := by simp at hc; omega
    subst hil
    rw [List.take_of_length_le (by simp)] at ho
    repeat' first|refine W_seq ?_|refine W_block ?_|refine W_skip ?_|refine W_ret ?_|refine W_exit ?_|refine xb_hit ?_|refine xb_miss (by decide) ?_|(apply W_reg;(simp [h0, h1, h5, h6, ho, hn, ne14_, ne15_, ne16_, ne17_];exact .r _))
    simp [ho]
/-- A query whose body may be nil. -/
def xvQn (q : Qry) : XV := if q.body = [] then .agg [.own 1 (rowsE q.head), .t .nl false] else xvQ q
theorem xvQn_ne {q : Qry} (h : q.body ≠ []) : xvQn q = xvQ q := by unfold xvQn; rw [if_neg h]
set_option maxRecDepth 10000 in
set_option maxHeartbeats 2000000 in
theorem rename_r (q : Qry) (to : List Int) (h : SmQ q) (ht : Sm to) : Ret XX 276 [Ag q, Ar to] (xvQn (chg (rnI to) q)) := by
  refine ret_W rfl Tryz.func276 rfl rfl (by simp [Tryz.f276]) ?_
  simp only [Tryz.f276]
  have c1 := cv (l4Terms_r q.head to h.1 ht)
  have sb : q.body.length < 1099511627775 := h.2.1
  repeat' first|refine W_seq ?_|refine W_block ?_|refine W_skip ?_|refine W_ret ?_|refine W_exit ?_|refine xb_hit ?_|refine xb_miss (by decide) ?_|(apply W_reg;(simp [Ag, c1];exact .r _))
  refine W_loop (n := q.body.length) (fun n s => ∃ i : Nat, ∃ oT : Nat, ∃ st : Nat, n = q.body.length - i ∧ s.nt = 40 ∧ s.tm 1 = Ar to ∧ s.tm 2 = .ptr 0 0 ∧ s.tm 4 = .ptr 1 0 ∧ s.tm 5 = .ptr 3 0 ∧ s.tm 6 = In i ∧ i ≤ q.body.length ∧ s.σ.ob 0 = .box [Ar q.head, Ar q.body] ∧ s.σ.ob 1 = .box [.t .nl, .t .nl] ∧ s.σ.ob 2 = .arr (.own 0) 0 1 (rowsE (q.head.map (rnI to))) ∧ s.σ.ob 3 = .box [.ref 2 q.head.length [], gc oT i] ∧ 4 ≤ s.σ.n ∧ (i = 0 ∨ (s.σ.ob oT = .arr (.own 0) st 2 (rowsE ((q.body.map (mapA (rnI to))).take i)) ∧ 4 ≤ oT ∧ oT < s.σ.n))) ⟨0, 0, 0, by simp⟩ ?_
  rintro n ⟨nt, tm, σ⟩ ⟨i, oT, st, rfl, hnt, h1, h2, h4, h5, h6, hi, hb0, hb1, hb2, hb3, hn, hT⟩
  simp only at hnt h1 h2 h4 h5 h6 hb0 hb1 hb2 hb3 hn hT
  subst hnt
  have ne18_ : ¬ (0 = σ.n) := by omega
  have ne19_ : ¬ (σ.n = 0) := by omega
  have ne20_ : ¬ (0 = σ.n + 1) := by omega
  have ne21_ : ¬ (σ.n + 1 = 0) := by omega
  have ne22_ : ¬ (0 = σ.n + 2) := by omega
  have ne23_ : ¬ (σ.n + 2 = 0) := by omega
  have ne24_ : ¬ (0 = σ.n + 3) := by omega
  have ne25_ : ¬ (σ.n + 3 = 0) := by omega
  have ne26_ : ¬ (1 = σ.n) := by omega
  have ne27_ : ¬ (σ.n = 1) := by omega
  have ne28_ : ¬ (1 = σ.n + 1) := by omega
  have ne29_ : ¬ (σ.n + 1 = 1) := by omega
  have ne30_ : ¬ (1 = σ.n + 2) := by omega
  have ne31_ : ¬ (σ.n + 2 = 1) := by omega
  have ne32_ : ¬ (1 = σ.n + 3) := by omega
  have ne33_ : ¬ (σ.n + 3 = 1) := by omega
  have ne34_ : ¬ (2 = σ.n) := by omega
  have ne35_ : ¬ (σ.n = 2) := by omega
  have ne36_ : ¬ (2 = σ.n + 1) := by omega
  have ne37_ : ¬ (σ.n + 1 = 2) := by omega
  have ne38_ : ¬ (2 = σ.n + 2) := by omega
  have ne39_ : ¬ (σ.n + 2 = 2) := by omega
  have ne40_ : ¬ (2 = σ.n + 3) := by omega
  have ne41_ : ¬ (σ.n + 3 = 2) := by omega
  have ne42_ : ¬ (3 = σ.n) := by omega
  have ne43_ : ¬ (σ.n = 3) := by omega
  have ne44_ : ¬ (3 = σ.n + 1) := by omega
  have ne45_ : ¬ (σ.n + 1 = 3) := by omega
  have ne46_ : ¬ (3 = σ.n + 2) := by omega
  have ne47_ : ¬ (σ.n + 2 = 3) := by omega
  have ne48_ : ¬ (3 = σ.n + 3) := by omega
  have ne49_ : ¬ (σ.n + 3 = 3) := by omega
  have hml : (q.body.map (mapA (rnI to))).length = q.body.length := by simp
  repeat' first|refine W_seq ?_|refine W_block ?_|refine W_skip ?_|refine W_ret ?_|refine W_exit ?_|refine xb_hit ?_|refine xb_miss (by decide) ?_|(apply W_reg;(simp [h1, h2, h4, h5, h6, hb0, hb1, hb2, hb3, hn, hT, ne18_, ne19_, ne20_, ne21_, ne22_, ne23_, ne24_, ne25_, ne26_, ne27_, ne28_, ne29_, ne30_, ne31_, ne32_, ne33_, ne34_, ne35_, ne36_, ne37_, ne38_, ne39_, ne40_, ne41_, ne42_, ne43_, ne44_, ne45_, ne46_, ne47_, ne48_, ne49_];exact .r _))
  refine W_cond (by simp [h1, h2, h4, h5, h6, hb0, hb1, hb2, hb3, hn, hT, ne18_, ne19_, ne20_, ne21_, ne22_, ne23_, ne24_, ne25_, ne26_, ne27_, ne28_, ne29_, ne30_, ne31_, ne32_, ne33_, ne34_, ne35_, ne36_, ne37_, ne38_, ne39_, ne40_, ne41_, ne42_, ne43_, ne44_, ne45_, ne46_, ne47_, ne48_, ne49_]; exact .r _) (fun hc => ?_) (fun hc => ?_)
  · have hil : i < q.body.length := by simpa using hc
    have hit : i < (q.body.map (mapA (rnI to))).length := by omega
    have hti : (q.body.map (mapA (rnI to)))[i] = ⟨q.body[i].rel, q.body[i].args.map (rnI to)⟩ := by simp [mapA]
    have c2 := cv (l4Terms_r q.body[i].args to (h.2.2 _ (List.getElem_mem hil)) ht)
    have hrl : (rowsE (q.body[i].args.map (rnI to))).length = q.body[i].args.length := by rw [rowsE_len, List.length_map]
    have hbt : i + 1 < 1099511627776 := by omega
    rcases Nat.eq_zero_or_pos i with h0 | h0
    · subst h0
      repeat' first|refine W_seq ?_|refine W_block ?_|refine W_skip ?_|refine W_ret ?_|refine W_exit ?_|refine xb_hit ?_|refine xb_miss (by decide) ?_|(apply W_reg;(simp [h1, h2, h4, h5, h6, hb0, hb1, hb2, hb3, hn, hT, ne18_, ne19_, ne20_, ne21_, ne22_, ne23_, ne24_, ne25_, ne26_, ne27_, ne28_, ne29_, ne30_, ne31_, ne32_, ne33_, ne34_, ne35_, ne36_, ne37_, ne38_, ne39_, ne40_, ne41_, ne42_, ne43_, ne44_, ne45_, ne46_, ne47_, ne48_, ne49_, hil, c2, hrl];exact .r _))|(apply W_draw (id := 5) [0,1,0,4,0,28,60,124,0,256,0,1792,3840,7936,0,32512,65532,131068,262143,524287,1048575] rfl rfl; (· simp; exact .r _); (· simp [h1, h2, h4, h5, h6, hb0, hb1, hb2, hb3, hn, hT, ne18_, ne19_, ne20_, ne21_, ne22_, ne23_, ne24_, ne25_, ne26_, ne27_, ne28_, ne29_, ne30_, ne31_, ne32_, ne33_, ne34_, ne35_, ne36_, ne37_, ne38_, ne39_, ne40_, ne41_, ne42_, ne43_, ne44_, ne45_, ne46_, ne47_, ne48_, ne49_, hil, c2, hrl]; exact .r _); (· first|trivial|simp))
      refine ⟨_, ?_, 0 + 1, σ.n + 2, 0, rfl, rfl, ?_, ?_, ?_, ?_, ?_, by omega, ?_, ?_, ?_, ?_, ?_, (.inr ⟨by (simp [h1, h2, h4, h5, h6, hb0, hb1, hb2, hb3, hn, hT, ne18_, ne19_, ne20_, ne21_, ne22_, ne23_, ne24_, ne25_, ne26_, ne27_, ne28_, ne29_, ne30_, ne31_, ne32_, ne33_, ne34_, ne35_, ne36_, ne37_, ne38_, ne39_, ne40_, ne41_, ne42_, ne43_, ne44_, ne45_, ne46_, ne47_, ne48_, ne49_]; rw [rowsE_take _ _ hit, hti]; simp [rowsE]), by omega, by (simp)⟩)⟩
      all_goals first|assumption|(simp [h1, h2, h4, h5, h6, hb0, hb1, hb2, hb3, hn, hT, ne18_, ne19_, ne20_, ne21_, ne22_, ne23_, ne24_, ne25_, ne26_, ne27_, ne28_, ne29_, ne30_, ne31_, ne32_, ne33_, ne34_, ne35_, ne36_, ne37_, ne38_, ne39_, ne40_, ne41_, ne42_, ne43_, ne44_, ne45_, ne46_, ne47_, ne48_, ne49_];done)|(simp [h1, h2, h4, h5, h6, hb0, hb1, hb2, hb3, hn, hT, ne18_, ne19_, ne20_, ne21_, ne22_, ne23_, ne24_, ne25_, ne26_, ne27_, ne28_, ne29_, ne30_, ne31_, ne32_, ne33_, ne34_, ne35_, ne36_, ne37_, ne38_, ne39_, ne40_, ne41_, ne42_, ne43_, ne44_, ne45_, ne46_, ne47_, ne48_, ne49_];omega)|(simp [h1, h2, h4, h5, h6, hb0, hb1, hb2, hb3, hn, hT, ne18_, ne19_, ne20_, ne21_, ne22_, ne23_, ne24_, ne25_, ne26_, ne27_, ne28_, ne29_, ne30_, ne31_, ne32_, ne33_, ne34_, ne35_, ne36_, ne37_, ne38_, ne39_, ne40_, ne41_, ne42_, ne43_, ne44_, ne45_, ne46_, ne47_, ne48_, ne49_];exact wrap_succ (by omega))|omega
    · obtain ⟨hT1, hT2, hT3⟩ := hT.resolve_left (by omega)
      have hgc := gc_pos (o := oT) (show i ≠ 0 by omega)
      have ne50_ : ¬ (oT = 0) := by omega
      have ne51_ : ¬ (0 = oT) := by omega
      have ne52_ : ¬ (oT = 1) := by omega
      have ne53_ : ¬ (1 = oT) := by omega
      have ne54_ : ¬ (oT = 2) := by omega
      have ne55_ : ¬ (2 = oT) := by omega
      have ne56_ : ¬ (oT = 3) := by omega
      have ne57_ : ¬ (3 = oT) := by omega
      have ne58_ : ¬ (oT = σ.n) := by omega
      have ne59_ : ¬ (σ.n = oT) := by omega
      have ne60_ : ¬ (oT = σ.n + 1) := by omega
      have ne61_ : ¬ (σ.n + 1 = oT) := by omega
      have ne62_ : ¬ (oT = σ.n + 2) := by omega
      have ne63_ : ¬ (σ.n + 2 = oT) := by omega
      have ne64_ : ¬ (oT = σ.n + 3) := by omega
      have ne65_ : ¬ (σ.n + 3 = oT) := by omega
      repeat' first|refine W_seq ?_|refine W_block ?_|refine W_skip ?_|refine W_ret ?_|refine W_exit ?_|refine xb_hit ?_|refine xb_miss (by decide) ?_|(apply W_reg;(simp [h1, h2, h4, h5, h6, hb0, hb1, hb2, hb3, hn, hT, ne18_, ne19_, ne20_, ne21_, ne22_, ne23_, ne24_, ne25_, ne26_, ne27_, ne28_, ne29_, ne30_, ne31_, ne32_, ne33_, ne34_, ne35_, ne36_, ne37_, ne38_, ne39_, ne40_, ne41_, ne42_, ne43_, ne44_, ne45_, ne46_, ne47_, ne48_, ne49_, ne50_, ne51_, ne52_, ne53_, ne54_, ne55_, ne56_, ne57_, ne58_, ne59_, ne60_, ne61_, ne62_, ne63_, ne64_, ne65_, hil, c2, hrl, hT1, hgc, hbt, show min i q.body.length = i by omega];exact .r _))|(apply W_draw (id := 5) [0,1,0,4,0,28,60,124,0,256,0,1792,3840,7936,0,32512,65532,131068,262143,524287,1048575] rfl rfl; (· simp; exact .r _); (· simp [h1, h2, h4, h5, h6, hb0, hb1, hb2, hb3, hn, hT, ne18_, ne19_, ne20_, ne21_, ne22_, ne23_, ne24_, ne25_, ne26_, ne27_, ne28_, ne29_, ne30_, ne31_, ne32_, ne33_, ne34_, ne35_, ne36_, ne37_, ne38_, ne39_, ne40_, ne41_, ne42_, ne43_, ne44_, ne45_, ne46_, ne47_, ne48_, ne49_, ne50_, ne51_, ne52_, ne53_, ne54_, ne55_, ne56_, ne57_, ne58_, ne59_, ne60_, ne61_, ne62_, ne63_, ne64_, ne65_, hil, c2, hrl, hT1, hgc, hbt, show min i q.body.length = i by omega]; exact .r _); (· first|trivial|simp))
      refine ⟨_, ?_, i + 1, oT, st, rfl, rfl, ?_, ?_, ?_, ?_, ?_, by omega, ?_, ?_, ?_, ?_, ?_, (.inr ⟨by (simp [h1, h2, h4, h5, h6, hb0, hb1, hb2, hb3, hn, hT, ne18_, ne19_, ne20_, ne21_, ne22_, ne23_, ne24_, ne25_, ne26_, ne27_, ne28_, ne29_, ne30_, ne31_, ne32_, ne33_, ne34_, ne35_, ne36_, ne37_, ne38_, ne39_, ne40_, ne41_, ne42_, ne43_, ne44_, ne45_, ne46_, ne47_, ne48_, ne49_, ne50_, ne51_, ne52_, ne53_, ne54_, ne55_, ne56_, ne57_, ne58_, ne59_, ne60_, ne61_, ne62_, ne63_, ne64_, ne65_]; rw [rowsE_take _ _ hit, hti]; simp [rowsE]), hT2, by (simp; omega)⟩)⟩
      all_goals first|assumption|(simp [h1, h2, h4, h5, h6, hb0, hb1, hb2, hb3, hn, hT, ne18_, ne19_, ne20_, ne21_, ne22_, ne23_, ne24_, ne25_, ne26_, ne27_, ne28_, ne29_, ne30_, ne31_, ne32_, ne33_, ne34_, ne35_, ne36_, ne37_, ne38_, ne39_, ne40_, ne41_, ne42_, ne43_, ne44_, ne45_, ne46_, ne47_, ne48_, ne49_, ne50_, ne51_, ne52_, ne53_, ne54_, ne55_, ne56_, ne57_, ne58_, ne59_, ne60_, ne61_, ne62_, ne63_, ne64_, ne65_];done)|(simp [h1, h2, h4, h5, h6, hb0, hb1, hb2, hb3, hn, hT, ne18_, ne19_, ne20_, ne21_, ne22_, ne23_, ne24_, ne25_, ne26_, ne27_, ne28_, ne29_, ne30_, ne31_, ne32_, ne33_, ne34_, ne35_, ne36_, ne37_, ne38_, ne39_, ne40_, ne41_, ne42_, ne43_, ne44_, ne45_, ne46_, ne47_, ne48_, ne49_, ne50_, ne51_, ne52_, ne53_, ne54_, ne55_, ne56_, ne57_, ne58_, ne59_, ne60_, ne61_, ne62_, ne63_, ne64_, ne65_];omega)|(simp [h1, h2, h4, h5, h6, hb0, hb1, hb2, hb3, hn, hT, ne18_, ne19_, ne20_, ne21_, ne22_, ne23_, ne24_, ne25_, ne26_, ne27_, ne28_, ne29_, ne30_, ne31_, ne32_, ne33_, ne34_, ne35_, ne36_, ne37_, ne38_, ne39_, ne40_, ne41_, ne42_, ne43_, ne44_, ne45_, ne46_, ne47_, ne48_, ne49_, ne50_, ne51_, ne52_, ne53_, ne54_, ne55_, ne56_, ne57_, ne58_, ne59_, ne60_, ne61_, ne62_, ne63_, ne64_, ne65_];exact wrap_succ (by omega))|omega
  · have hil : i = q.body.length := by simp at hc; omega
    subst hil
    rcases Nat.eq_zero_or_pos q.body.length with h0 | h0
    · have hb : q.body = [] := List.eq_nil_of_length_eq_zero h0
      rw [h0] at hb3
      repeat' first|refine W_seq ?_|refine W_block ?_|refine W_skip ?_|refine W_ret ?_|refine W_exit ?_|refine xb_hit ?_|refine xb_miss (by decide) ?_|(apply W_reg;(simp [h1, h2, h4, h5, h6, hb0, hb1, hb2, hb3, hn, hT, ne18_, ne19_, ne20_, ne21_, ne22_, ne23_, ne24_, ne25_, ne26_, ne27_, ne28_, ne29_, ne30_, ne31_, ne32_, ne33_, ne34_, ne35_, ne36_, ne37_, ne38_, ne39_, ne40_, ne41_, ne42_, ne43_, ne44_, ne45_, ne46_, ne47_, ne48_, ne49_];exact .r _))
      simp [xvQn, chg, hb, h4, hb2]
    · obtain ⟨hT1, hT2, hT3⟩ := hT.resolve_left (by omega)
      have hgc := gc_pos (o := oT) (show q.body.length ≠ 0 by omega)
      have hne : q.body ≠ [] := fun e => by rw [e] at h0; simp at h0
      rw [← hml, List.take_length] at hT1
      have ne66_ : ¬ (oT = 0) := by omega
      have ne67_ : ¬ (0 = oT) := by omega
      have ne68_ : ¬ (oT = 1) := by omega
      have ne69_ : ¬ (1 = oT) := by omega
      have ne70_ : ¬ (oT = 2) := by omega
      have ne71_ : ¬ (2 = oT) := by omega
      have ne72_ : ¬ (oT = 3) := by omega
      have ne73_ : ¬ (3 = oT) := by omega
      repeat' first|refine W_seq ?_|refine W_block ?_|refine W_skip ?_|refine W_ret ?_|refine W_exit ?_|refine xb_hit ?_|refine xb_miss (by decide) ?_|(apply W_reg;(simp [h1, h2, h4, h5, h6, hb0, hb1, hb2, hb3, hn, hT, ne18_, ne19_, ne20_, ne21_, ne22_, ne23_, ne24_, ne25_, ne26_, ne27_, ne28_, ne29_, ne30_, ne31_, ne32_, ne33_, ne34_, ne35_, ne36_, ne37_, ne38_, ne39_, ne40_, ne41_, ne42_, ne43_, ne44_, ne45_, ne46_, ne47_, ne48_, ne49_, ne66_, ne67_, ne68_, ne69_, ne70_, ne71_, ne72_, ne73_, hgc];exact .r _))
      simp [xvQn, chg, hne, h4, hb2, hT1, hgc, h1, h2, h4, h5, h6, hb0, hb1, hb2, hb3, hn, hT, ne18_, ne19_, ne20_, ne21_, ne22_, ne23_, ne24_, ne25_, ne26_, ne27_, ne28_, ne29_, ne30_, ne31_, ne32_, ne33_, ne34_, ne35_, ne36_, ne37_, ne38_, ne39_, ne40_, ne41_, ne42_, ne43_, ne44_, ne45_, ne46_, ne47_, ne48_, ne49_, ne66_, ne67_, ne68_, ne69_, ne70_, ne71_, ne72_, ne73_]
theorem rnI_nil (t : Int) : rnI [] t = t := by unfold rnI; rw [if_neg (by simp; omega)]
theorem chg_id {f : Int → Int} (h : ∀ t, f t = t) (q : Qry) : chg f q = q := by
  have h1 : ∀ l : List Int, l.map f = l := fun l => by
    induction l with
    | nil => rfl
    | cons a l ih => simp [h, ih]
  unfold chg
  rw [h1]
  have h2 : q.body.map (mapA f) = q.body := by
    generalize q.body = b
    induction b with
    | nil => rfl
    | cons a l ih => rw [List.map_cons, ih, mapA, h1]
  rw [h2]
theorem l4Copy_r (q : Qry) (h : SmQ q) (hb : q.body ≠ []) : Ret XX 206 [Ag q] (xvQ q) := by
  refine ret_W rfl Tryz.func206 rfl rfl (by simp [Tryz.f206]) ?_
  simp only [Tryz.f206]
  have c1 := cv (rename_r q [] h (by unfold Sm; simp))
  rw [chg_id rnI_nil] at c1
  simp only [Ag, cells_Q, List.map_cons, List.map_nil, Ar, rowsE_nil] at c1
  rw [xvQn_ne hb] at c1
  repeat' first|refine W_seq ?_|refine W_block ?_|refine W_skip ?_|refine W_ret ?_|refine W_exit ?_|refine xb_hit ?_|refine xb_miss (by decide) ?_|(apply W_reg;(simp [Ag, c1];exact .r _))
  simp
theorem l4Copy_e (q : Qry) (h : SmQ q) (hb : q.body = []) : Ret XX 206 [Ag q] (.agg [.own 1 (rowsE q.head), .t .nl false]) := by
  refine ret_W rfl Tryz.func206 rfl rfl (by simp [Tryz.f206]) ?_
  simp only [Tryz.f206]
  have c1 := cv (rename_r q [] h (by unfold Sm; simp))
  rw [chg_id rnI_nil] at c1
  simp only [Ag, cells_Q, List.map_cons, List.map_nil, Ar, rowsE_nil] at c1
  have e : xvQn q = .agg [.own 1 (rowsE q.head), .t .nl false] := by unfold xvQn; rw [if_pos hb]
  rw [e] at c1
  repeat' first|refine W_seq ?_|refine W_block ?_|refine W_skip ?_|refine W_ret ?_|refine W_exit ?_|refine xb_hit ?_|refine xb_miss (by decide) ?_|(apply W_reg;(simp [Ag, c1];exact .r _))
  simp
end Go.Proofs.YtmfifjbbjjdacaaGreat.V

namespace Go.Proofs.YtmfifjbbjjdacaaGreat.V
open Go Go.Proofs
set_option linter.unusedVariables false
set_option linter.unusedSimpArgs false
abbrev xvC (vs : List Qry) (ts : List (List Row)) (ver : Int) : XV := .agg [.own 2 (rowsE vs), .own 1 (rowsE ts), .t (.i .i64 ver) false]
end Go.Proofs.YtmfifjbbjjdacaaGreat.V

