/- Several texts in one: what the claim needs of them. Conditions: each declaration's own. -/
import Derived.Test.YtpdpgfagklhpaaaGreatZIndM2
import Derived.IntWalk
namespace Go.Proofs.YtpdpgfagklhpaaaGreat.V
open Go
set_option linter.unusedVariables false
set_option linter.unusedSimpArgs false
variable {P : Program} {M : Nat → Bool} {X : Ora} {ob ob' : Nat → VO} {β β' : Nat → BI} {C C' : Nat → Prop} {h h' : Heap} {Z Z' : Nat → Prop} {own own' : Nat → Option Nat}
variable {σ σ' : Sto} {tm : Nat → AV} {o : Oper} {a : Act} {w : World} {v : AV}
theorem run_places : ∀ (fs : List Field) (pl : List (Nat × Nat)), fs.mapM (fun f => (szOf P f.type).map fun s => (f.offset, s)) = some pl →
    (fs.mapM fun f => (do pure (f.offset, ← sizeOf f.type) : Sem (Nat × Nat))).run P w = .ok pl w
  | [], pl, H => by simp at H; subst H; rfl
  | f :: fs, pl, H => by
    rw [List.mapM_cons] at H
    simp only [Option.pure_def, Option.bind_eq_bind, Option.bind_eq_some_iff, Option.some.injEq, Option.map_eq_some_iff] at H
    obtain ⟨u, ⟨s, hs, rfl⟩, us, hus, rfl⟩ := H
    rw [List.mapM_cons]
    simp only [Sem.run_bind, run_size hs, Result.andThen_ok, Sem.run_pure, run_places fs us hus]
theorem mapM_parts {tm : Nat → AV} (hT : RelT ob β C h Z a tm) : ∀ (l : List (Nat × Operand)) (ps : List (Nat × AV)), l.mapM (fun p => (evalO tm p.2).map fun v => (p.1, v)) = some ps →
    l.map (·.1) = ps.map (·.1) ∧ ∀ (i : Nat) (u : Nat × Value) (x : Nat × AV), (l.map fun p => (p.1, a.eval p.2))[i]? = some u → ps[i]? = some x → AVRel ob β C h Z u.2 x.2
  | [], ps, H => by simp at H; subst H; exact ⟨rfl, fun i u x hi => by simp at hi⟩
  | y :: l, ps, H => by
    rw [List.mapM_cons] at H
    simp only [Option.pure_def, Option.bind_eq_bind, Option.bind_eq_some_iff, Option.some.injEq, Option.map_eq_some_iff] at H
    obtain ⟨u, ⟨v, hv, rfl⟩, us, hus, rfl⟩ := H
    obtain ⟨h1, h2⟩ := mapM_parts hT l us hus
    refine ⟨by simp [h1], fun i u x hi hx => ?_⟩
    cases i with
    | zero => simp at hi hx; subst hi; subst hx; exact evalO_ok hT hv
    | succ i => exact h2 i u x (by simpa using hi) (by simpa using hx)
theorem op_build {t : TypeId} {parts : Array (Nat × Operand)} (ho : o.op = .build t parts) (R : Rel σ.ob β C w.heap Z own) (hT : RelT σ.ob β C w.heap Z a tm) (H : opV P M X tm σ o = some (v, σ')) : OpOk P σ β C Z own o a w v σ' := by
  simp only [opV, ho] at H
  split at H
  · rename_i z fs ps hz hu hps
    split at H
    · rename_i pl hpl
      rw [Option.map_eq_some_iff] at H
      obtain ⟨cs, hcs, he⟩ := H
      cases he
      obtain ⟨zv, hz1, hz2⟩ := run_zero hz w
      have hzr := (constV_ok (ob := σ.ob) (β := β) (C := C) (h := w.heap) (Z := Z) hz2).cells (const_one hz2)
      obtain ⟨h1, h2⟩ := mapM_parts hT _ _ hps
      have hpl' := run_places (P := P) (w := w) fs.toList pl hpl
      obtain ⟨cs', h3, h4⟩ := fill_ok (place' := fun i => (pl.toArray)[i]?) (place := (pl[·]?)) (fun i => by simp) ps (parts.toList.map fun p => (p.1, a.eval p.2)) (cs := zv.cells) hzr (by rw [← h1]; simp) h2 hcs
      refine OpOk.value (val := .agg cs') (w' := w) ?_ (.same R (.agg _ _ (by simpa using h4.1) fun i u x hu hx => h4.2 i u x (by simpa using hu) hx))
      have hm : (fs.mapM fun f => (do pure (f.offset, ← sizeOf f.type) : Sem (Nat × Nat))).run P w = .ok pl.toArray w := by
        rw [Array.mapM_eq_mapM_toList]
        simp only [Sem.run_map, hpl', Result.andThen_ok]
      have : (Instr.build t (parts.map fun (i, x) => (i, a.eval x))).run P w = .ok (.agg cs') w := by
        have h5 : (parts.map fun (i, x) => (i, a.eval x)).toList = parts.toList.map fun p => (p.1, a.eval p.2) := by simp
        unfold Instr.build
        simp only [Sem.run_bind, hz1, run_und hu, Result.andThen_ok, hm, h5, h3, Sem.run_pure]
      simp [execOp, ho, this]
    · cases H
  · cases H
theorem mapM_parts2 {tm : Nat → AV} (hT : RelT ob β C h Z a tm) : ∀ (l : List (Nat × Operand)) (vs : List AV), l.mapM (fun p => evalO tm p.2) = some vs →
    l.length = vs.length ∧ ∀ (i : Nat) (u : Value) (x : AV), (l.map fun p => a.eval p.2)[i]? = some u → vs[i]? = some x → AVRel ob β C h Z u x
  | [], vs, H => by simp at H; subst H; exact ⟨rfl, fun i u x hi => by simp at hi⟩
  | y :: l, vs, H => by
    rw [List.mapM_cons] at H
    simp only [Option.pure_def, Option.bind_eq_bind, Option.bind_eq_some_iff, Option.some.injEq] at H
    obtain ⟨u, hu, us, hus, rfl⟩ := H
    obtain ⟨h1, h2⟩ := mapM_parts2 hT l us hus
    refine ⟨by simp [h1], fun i u x hi hx => ?_⟩
    cases i with
    | zero => simp at hi hx; subst hi; subst hx; exact evalO_ok hT hu
    | succ i => exact h2 i u x (by simpa using hi) (by simpa using hx)
/-- All rows filled, one behind the other. -/
theorem fill_rows (sz : Nat) : ∀ (vs : List Value) (n : Nat) (cs : Array Value), (∀ v ∈ vs, v.cells.size = sz) → (n + vs.length) * sz ≤ cs.size →
    Instr.fill (fun i => some (i * sz, sz)) cs ((List.range' n vs.length).zip vs) = some (spl cs (n * sz) (vs.flatMap fun v => v.cells.toList))
  | [], n, cs, _, _ => by simp [Instr.fill, spl]
  | v :: vs, n, cs, hw, hle => by
    have hv := hw v (by simp)
    have h1 : (n + 1) * sz + vs.length * sz ≤ cs.size := by rw [← Nat.add_mul]; simpa [Nat.add_assoc, Nat.add_comm 1] using hle
    have h1' : (n + 1) * sz = n * sz + sz := by rw [Nat.add_mul]; omega
    have hfl : ∀ l : List Value, (∀ v ∈ l, v.cells.size = sz) → (l.flatMap fun v => v.cells.toList).length = l.length * sz := by
      intro l
      induction l with
      | nil => intro _; simp
      | cons x l ih =>
        intro hl
        have := ih fun v hv => hl v (by simp [hv])
        have h5 := hl x (by simp)
        simp only [List.flatMap_cons, List.length_append, Array.length_toList, h5, this, List.length_cons, Nat.add_mul]; omega
    simp only [List.length_cons, List.range'_succ, List.zip_cons_cons, Instr.fill]
    rw [if_neg (by simp; omega)]
    have hfo := foldl_put (n * sz) v.cells.toList 0 cs (by simp; omega)
    rw [← Array.foldl_toList, Array.toList_zipIdx]
    have hfe : (fun (cs : Array Value) (x : Value × Nat) => match x with | (c, j) => cs.setIfInBounds (n * sz + j) c) = fun cs x => cs.setIfInBounds (n * sz + x.2) x.1 := by funext cs x; rfl
    rw [hfo]
    have hss : (spl cs (n * sz) v.cells.toList).size = cs.size := spl_size (by simp; omega)
    rw [show n * sz + 0 = n * sz from rfl, fill_rows sz vs (n + 1) _ (fun v hv => hw v (by simp [hv])) (by rw [hss, Nat.add_mul]; exact h1)]
    congr 1
    have hl0 := hfl vs fun v hv => hw v (by simp [hv])
    have hl1 : n * sz + v.cells.toList.length ≤ cs.size := by simp; omega
    have hl2 : (n + 1) * sz + (vs.flatMap fun v => v.cells.toList).length ≤ (spl cs (n * sz) v.cells.toList).size := by rw [hl0, hss]; exact h1
    have hl3 : n * sz + ((v :: vs).flatMap fun v => v.cells.toList).length ≤ cs.size := by simp only [List.flatMap_cons, List.length_append, hl0, Array.length_toList]; omega
    apply Array.ext_getElem?
    intro m
    rcases Nat.lt_or_ge m (n * sz) with h2 | h2
    · rw [spl_out hl2 (by omega), spl_out hl1 (by omega), spl_out hl3 (by omega)]
    · rcases Nat.lt_or_ge m (n * sz + ((v :: vs).flatMap fun v => v.cells.toList).length) with h3 | h3
      · have e3 := spl_in hl3 (k := m - n * sz) (by omega)
        rw [show n * sz + (m - n * sz) = m by omega] at e3
        rw [e3]
        simp only [List.flatMap_cons, List.length_append, hl0, Array.length_toList] at h3
        rcases Nat.lt_or_ge m (n * sz + sz) with h4 | h4
        · have e1 := spl_in hl1 (k := m - n * sz) (by simp; omega)
          rw [show n * sz + (m - n * sz) = m by omega] at e1
          rw [spl_out hl2 (by omega), e1, List.flatMap_cons, List.getElem?_append_left (by simp; omega)]
        · have e2 := spl_in hl2 (k := m - (n + 1) * sz) (by rw [hl0]; omega)
          rw [show (n + 1) * sz + (m - (n + 1) * sz) = m by omega] at e2
          rw [e2, List.flatMap_cons, List.getElem?_append_right (by simp; omega)]
          congr 1; simp; omega
      · have h3' := h3
        simp only [List.flatMap_cons, List.length_append, hl0, Array.length_toList] at h3'
        rw [spl_out hl2 (by rw [hl0]; omega), spl_out hl1 (by simp; omega), spl_out hl3 (by omega)]
theorem flat_get {vs : List Value} {sz : Nat} (hw : ∀ v ∈ vs, v.cells.size = sz) {i j : Nat} {v u : Value} (hi : vs[i]? = some v) (hj : v.cells.toList[j]? = some u) : (vs.flatMap fun v => v.cells.toList)[i * sz + j]? = some u := by
  induction vs generalizing i with
  | nil => simp at hi
  | cons x vs ih =>
    have hx := hw x (by simp)
    rw [List.flatMap_cons]
    cases i with
    | zero =>
      simp only [List.getElem?_cons_zero, Option.some.injEq] at hi
      subst hi
      have : j < x.cells.toList.length := getElem?_lt (a := x.cells) (by simpa using hj)
      rw [Nat.zero_mul, Nat.zero_add, List.getElem?_append_left this]; exact hj
    | succ i =>
      rw [List.getElem?_append_right (by simp only [Array.length_toList, Nat.add_mul]; omega)]
      have := ih (fun v hv => hw v (by simp [hv])) (by simpa using hi)
      rw [show (i + 1) * sz + j - x.cells.toList.length = i * sz + j by simp only [Array.length_toList, Nat.add_mul]; omega]
      exact this
theorem absorbR_len {f : Bool} {σ1 : Sto} : ∀ (l : List (List AV)) {σ : Sto} {rows : List (List T)}, absorbR σ l = some (rows, f, σ1) → rows.length = l.length := by
  intro l
  induction l generalizing f σ1 with
  | nil => intro σ rows H; simp [absorbR] at H; simp [← H.1]
  | cons a l ih =>
    intro σ rows H
    simp only [absorbR] at H
    split at H
    · split at H
      · rename_i h2
        simp only [Option.some.injEq, Prod.mk.injEq] at H
        obtain ⟨rfl, _, _⟩ := H
        simp [ih h2]
      · cases H
    · cases H
theorem absorbR_one : ∀ (l : List (List AV)) {σ σ1 : Sto} {xs : List (List T)} {f : Bool}, absorbR σ l = some (xs, f, σ1) → ∀ a ∈ l, a.all AV.one = true
  | [], _, _, _, _, _ => fun a h => by simp at h
  | a :: l, σ, σ1, xs, f, H => by
    simp only [absorbR] at H
    split at H
    · rename_i h1
      split at H
      · rename_i h2
        intro b hb
        rcases List.mem_cons.1 hb with rfl | hb
        · exact absorbL_one _ h1
        · exact absorbR_one l h2 b hb
      · cases H
    · cases H
theorem op_buildSlice {t : TypeId} {len : Nat} {parts : Array (Nat × Operand)} (ho : o.op = .buildSlice t len parts) (R : Rel σ.ob β C w.heap Z own) (hf : ¬ C σ.n) (hT : RelT σ.ob β C w.heap Z a tm) (H : opV P M X tm σ o = some (v, σ')) : OpOk P σ β C Z own o a w v σ' := by
  simp only [opV, ho] at H
  split at H
  · rename_i e hu
    split at H
    · rename_i sz vs hs hvs
      split at H
      · rename_i hcond
        obtain ⟨hidx, hall, hbig⟩ := hcond
        split at H
        · rename_i rows f σ1 habs
          split at H
          · rename_i hzero
            cases H
            have hm : ¬ C σ.n := hf
            obtain ⟨hlp, hrel⟩ := mapM_parts2 hT _ _ hvs
            have hlen : len = vs.length := by rw [← hlp, ← List.length_map (f := (·.1)), hidx]; simp
            have h1s := absorbR_one _ habs
            let us := parts.toList.map fun p => a.eval p.2
            have hus : us.length = vs.length := by simp [us, hlp]
            have hcells : ∀ (i : Nat) (u : Value) (x : AV), us[i]? = some u → vs[i]? = some x → u.cells.toList.length = x.cells.length ∧ ∀ (k : Nat) (c : Value) (y : AV), u.cells.toList[k]? = some c → x.cells[k]? = some y → AVRel σ.ob β C w.heap Z c y := fun i u x hi hx =>
              (hrel i u x hi hx).cells (h1s _ (List.mem_map.2 ⟨x, List.mem_of_getElem? hx, rfl⟩))
            have hxsz : ∀ x ∈ vs, x.cells.length = sz := by
              intro x hx
              rw [List.all_eq_true] at hall
              simpa using hall x hx
            have husz : ∀ u ∈ us, u.cells.size = sz := by
              intro u hu2
              obtain ⟨i, hi⟩ := List.getElem?_of_mem hu2
              have hil : i < vs.length := by have := getElem?_lt (a := us.toArray) (by simpa using hi); simp at this; omega
              have := (hcells i u vs[i] hi (List.getElem?_eq_getElem hil)).1
              rw [hxsz _ (List.getElem_mem hil)] at this
              simpa using this
            obtain ⟨e1, e2, Z1, own1, S, M1, hr, hS, hd⟩ := absorbR_all (vs := us.map fun u => u.cells.toList) hm R habs (by
              apply List.ext_getElem?
              intro i
              simp only [List.map_map, List.getElem?_map]
              rcases Nat.lt_or_ge i vs.length with hi | hi
              · have hiu : i < us.length := by omega
                rw [List.getElem?_eq_getElem hi, List.getElem?_eq_getElem hiu]
                simp only [Option.map_some, Function.comp]
                rw [(hcells i _ _ (List.getElem?_eq_getElem hiu) (List.getElem?_eq_getElem hi)).1]
              · rw [List.getElem?_eq_none hi, List.getElem?_eq_none (by omega)]; rfl) (fun i vr ar j u x h1 h2 h3 h4 => by
              rw [List.getElem?_map, Option.map_eq_some_iff] at h1 h2
              obtain ⟨u0, hu0, rfl⟩ := h1
              obtain ⟨x0, hx0, rfl⟩ := h2
              exact (hcells i u0 x0 hu0 hx0).2 j u x h3 h4)
            have hrl : rows.length = len := by rw [absorbR_len _ habs]; simp [hlen]
            have hrw : ∀ r ∈ rows, r.length = sz := by
              intro r hr2
              obtain ⟨i, hi⟩ := List.getElem?_of_mem hr2
              have hil : i < vs.length := by have := getElem?_lt (a := rows.toArray) (by simpa using hi); simp at this; omega
              have : (rows.map List.length)[i]? = some r.length := by simp [hi]
              rw [e2] at this
              simp only [List.map_map, List.getElem?_map, List.getElem?_eq_getElem hil, Option.map_some, Function.comp, Option.some.injEq] at this
              rw [← this]; exact hxsz _ (List.getElem_mem hil)
            -- the cells that Go makes
            have hcellsGo : ∃ z0 : Array Value, (Instr.buildSlice t len (parts.map fun (i, x) => (i, a.eval x))).run P w = .ok (.slice (some ⟨w.heap.size, 0, none⟩) len len) { w with heap := w.heap.push (.cells z0 e) } ∧ len * sz ≤ z0.size ∧
                ∀ (i : Nat) (u : Value) (j : Nat) (c : Value), us[i]? = some u → u.cells.toList[j]? = some c → z0[i * sz + j]? = some c := by
              have hzr : ∃ zz : Array Value, (len * sz = 0 → zz = #[]) ∧ (len * sz ≠ 0 → ∃ zv, (zeroValue e).run P w = .ok zv w ∧ zz = zv.cells) := by
                by_cases h0 : len * sz = 0
                · exact ⟨#[], fun _ => rfl, fun h => absurd h0 h⟩
                · rcases hzero with h1 | h1
                  · subst h1; simp at h0
                  · obtain ⟨z, hz⟩ := Option.isSome_iff_exists.1 h1
                    obtain ⟨zv, h2, _⟩ := run_zero hz w
                    exact ⟨zv.cells, fun h => absurd h h0, fun _ => ⟨zv, h2, rfl⟩⟩
              obtain ⟨zz, hzz1, hzz2⟩ := hzr
              have hp5 : (parts.map fun (i, x) => (i, a.eval x)).toList = (List.range' 0 us.length).zip us := by
                have h6 : (parts.map fun (i, x) => (i, a.eval x)).toList = (parts.toList.map (·.1)).zip us := by
                  simp only [Array.toList_map, us]
                  rw [List.zip_map']
                rw [h6, hidx, List.range_eq_range', hlen, hus]
              have hfill := fill_rows sz us 0 ((Array.range (len * sz)).map (zz[· % zz.size]!)) husz (by simp [hus, hlen])
              refine ⟨spl ((Array.range (len * sz)).map (zz[· % zz.size]!)) 0 (us.flatMap fun v => v.cells.toList), ?_, ?_, fun i u j c hi hj => ?_⟩
              · unfold Instr.buildSlice
                simp only [Sem.run_bind, run_und hu, Result.andThen_ok, run_size hs]
                rw [if_neg (by omega)]
                by_cases h0 : len * sz = 0
                · rw [if_pos h0]
                  have := hzz1 h0
                  subst this
                  simp only [Sem.run_bind, Sem.run_pure, Result.andThen_ok, hp5, hfill]
                  simp [newRow]
                · rw [if_neg h0]
                  obtain ⟨zv, h7, rfl⟩ := hzz2 h0
                  simp only [Sem.run_bind, Sem.run_pure, Result.andThen_ok, h7, hp5, hfill]
                  simp [newRow]
              · rw [spl_size]
                · simp
                · have hfl : ∀ l : List Value, (∀ v ∈ l, v.cells.size = sz) → (l.flatMap fun v => v.cells.toList).length = l.length * sz := by
                    intro l
                    induction l with
                    | nil => intro _; simp
                    | cons x l ih =>
                      intro hl
                      have := ih fun v hv => hl v (by simp [hv])
                      have h5 := hl x (by simp)
                      simp only [List.flatMap_cons, List.length_append, Array.length_toList, h5, this, List.length_cons, Nat.add_mul]; omega
                  simp [hfl us husz, hus, hlen]
              · have hg := flat_get husz hi hj
                have hlt : i * sz + j < (us.flatMap fun v => v.cells.toList).length := getElem?_lt (a := (us.flatMap fun v => v.cells.toList).toArray) (by simpa using hg)
                have hle0 : 0 + (us.flatMap fun v => v.cells.toList).length ≤ ((Array.range (len * sz)).map (zz[· % zz.size]!)).size := by
                  have hfl : ∀ l : List Value, (∀ v ∈ l, v.cells.size = sz) → (l.flatMap fun v => v.cells.toList).length = l.length * sz := by
                    intro l
                    induction l with
                    | nil => intro _; simp
                    | cons x l ih =>
                      intro hl
                      have := ih fun v hv => hl v (by simp [hv])
                      have h5 := hl x (by simp)
                      simp only [List.flatMap_cons, List.length_append, Array.length_toList, h5, this, List.length_cons, Nat.add_mul]; omega
                  simp [hfl us husz, hus, hlen]
                have := spl_in hle0 hlt
                rw [Nat.zero_add] at this
                rw [this]; exact hg
            obtain ⟨z0, hrun, hz0, hz1⟩ := hcellsGo
            have hm1 : ¬ C σ1.n := by rw [e1]; exact hm
            have M2 := Mv.newArr M1.rel hm1 f sz rows z0 e len S hrw (by omega) hz0 (fun i r j x hi hj => by
              have hil : i < vs.length := by have := getElem?_lt (a := rows.toArray) (by simpa using hi); simp at this; omega
              have hiu : i < us.length := by omega
              have hjl : j < sz := by
                have := getElem?_lt (a := r.toArray) (i := j) (by simpa using hj)
                have h2 := hrw r (List.mem_of_getElem? hi)
                simp at this; omega
              have hui := List.getElem?_eq_getElem hiu
              have hjc : j < us[i].cells.toList.length := by rw [Array.length_toList, husz _ (List.getElem_mem hiu)]; exact hjl
              obtain ⟨h5, h6, h7⟩ := hr i us[i].cells.toList r j _ x (by simp [hui]) hi (List.getElem?_eq_getElem hjc) hj
              exact ⟨_, hz1 i _ j _ hui (List.getElem?_eq_getElem hjc), h5, h6, h7⟩) (fun i j b hb => by rw [e1]; exact hS i j b hb) hd
            refine OpOk.value (val := .slice (some ⟨w.heap.size, 0, none⟩) len len) (w' := { w with heap := w.heap.push (.cells z0 e) }) ?_ ⟨_, _, _, _, M1.trans M2, fun o ho => ?_, by simp [Sto.new, e1], ?_⟩
            · simp [execOp, ho, hrun]
            · rcases ho with ho | rfl
              · exact .inl ho
              · exact .inr ⟨by omega, by simp [Sto.new]⟩
            · have := AVRel.refAll (ob := upd σ1.ob σ1.n (.arr (md f) 0 sz rows)) (β := upd β σ1.n ⟨w.heap.size, 0, len, false⟩) (C := fun o => C o ∨ o = σ1.n) (h := w.heap.push (.cells z0 e)) (Z := Z1) (o := σ1.n) (.inr rfl) (upd_same _ _ _) (upd_same _ _ _) rfl
              rw [hrl] at this
              simpa [BI.addr, Sto.new] using this
          · cases H
        · cases H
      · cases H
    · cases H
  · cases H
end Go.Proofs.YtpdpgfagklhpaaaGreat.V

namespace Go.Proofs.YtpdpgfagklhpaaaGreat.V
open Go
set_option linter.unusedVariables false
set_option linter.unusedSimpArgs false
variable {P : Program} {M : Nat → Bool} {X : Ora} {ob ob' : Nat → VO} {β β' : Nat → BI} {C C' : Nat → Prop} {h h' : Heap} {Z Z' : Nat → Prop} {own own' : Nat → Option Nat}
variable {σ σ' : Sto} {tm : Nat → AV} {o : Oper} {a : Act} {w : World} {v : AV}
theorem const_repO {v : Value} {x : T} (H : Rep h Z v x) (hc : ∃ c, constT c = some x) (S : Nat → Prop) : RepO h S v x.nz := by
  obtain ⟨c, hc⟩ := hc
  unfold constT at hc
  split at hc <;> cases hc
  · cases H; exact .b _ _
  · cases H; exact .i _ _ _
  · cases H; exact .s _ _
  · cases H; exact .sl0 _
theorem constV_cells {v : Value} {z : AV} {zs : List T} (hz : constV v = some z) (hm : z.cells.mapM asT = some zs) : ∀ (j : Nat) (x : T), zs[j]? = some x → ∃ c, constT c = some x := by
  have h1 := mapM_asT hm
  unfold constV at hz
  split at hz
  · rename_i cs
    rw [Option.map_eq_some_iff] at hz
    obtain ⟨l, hl, rfl⟩ := hz
    have : zs = l := by
      simp only [AV.cells] at h1
      have : Function.Injective (AV.t) := fun a b h => by cases h; rfl
      exact ((List.map_inj_right (fun a b h => this h)).1 h1).symm
    subst this
    have key : ∀ (cs : List Value) (l : List T), cs.mapM constT = some l → ∀ (j : Nat) (x : T), l[j]? = some x → ∃ c, constT c = some x := by
      intro cs
      induction cs with
      | nil => intro l hl; simp at hl; subst hl; intro j x hx; simp at hx
      | cons c cs ih =>
        intro l hl
        rw [List.mapM_cons] at hl
        simp only [Option.pure_def, Option.bind_eq_bind, Option.bind_eq_some_iff, Option.some.injEq] at hl
        obtain ⟨t, ht, ts, hts, rfl⟩ := hl
        intro j x hx
        cases j with
        | zero => simp at hx; subst hx; exact ⟨c, ht⟩
        | succ j => exact ih ts hts j x (by simpa using hx)
    exact key _ _ hl
  · cases hz
    simp [AV.cells, asT] at hm
  · cases hz
    simp [AV.cells, asT] at hm
  · rw [Option.map_eq_some_iff] at hz
    obtain ⟨t, ht, rfl⟩ := hz
    simp [AV.cells, asT] at hm
    subst hm
    intro j x hx
    cases j with
    | zero => simp at hx; subst hx; exact ⟨_, ht⟩
    | succ j => simp at hx
theorem op_makeSlice {t : TypeId} {l c : Operand} (ho : o.op = .makeSlice t l c) (R : Rel σ.ob β C w.heap Z own) (hf : ∀ o, σ.n ≤ o → ¬ C o) (hT : RelT σ.ob β C w.heap Z a tm) (H : opV P M X tm σ o = some (v, σ')) : OpOk P σ β C Z own o a w v σ' := by
  simp only [opV, ho] at H
  split at H
  · rename_i e n m hu hn hm
    split at H
    · rename_i sz z by_ hs hz hby
      split at H
      · rename_i zs hzs
        split at H
        · rename_i hcond
          obtain ⟨rfl, hlt, hb, hzl⟩ := hcond
          cases H
          rw [Option.bind_eq_some_iff] at hn hm
          obtain ⟨u1, hu1, hn⟩ := hn
          obtain ⟨u2, hu2, hm⟩ := hm
          obtain ⟨k1, hk1⟩ := natOf_ok (evalO_ok hT hu1) hn
          obtain ⟨k2, hk2⟩ := natOf_ok (evalO_ok hT hu2) hm
          obtain ⟨zv, hz1, hz2⟩ := run_zero hz w
          have hzr := (constV_ok (ob := σ.ob) (β := β) (C := C) (h := w.heap) (Z := Z) hz2).cells (const_one hz2)
          have hzc := mapM_asT hzs
          have hzsz : zv.cells.size = sz := by have := hzr.1; rw [hzc] at this; simp at this; omega
          rw [Option.map_eq_some_iff] at hby
          obtain ⟨i, hi, rfl⟩ := hby
          let cells := (Array.range (n * sz)).map (fun q => (if n * sz = 0 then #[] else zv.cells)[q % (if n * sz = 0 then #[] else zv.cells).size]!)
          have hwr : IntKind.i64.wrap (n : Int) = n := by
            have hb2 : n < 1099511627776 := hlt
            exact IntWalk.i64_in (n : Int) (by omega)
          have hrun : (Instr.makeSlice t (.int k1 n) (.int k2 n)).run P w = .ok (.slice (some ⟨w.heap.size, 0, none⟩) n n) { w with heap := w.heap.push (.cells cells e) } := by
            have h1 : ¬ (i.bytes * (n : Int) > 2 ^ 48) := by
              have hb2 : n < 1099511627776 := hlt
              have h3 : i.bytes * n ≤ 64 * 1099511627776 := Nat.mul_le_mul hb (by omega)
              have h4 : ((i.bytes * n : Nat) : Int) ≤ ((64 * 1099511627776 : Nat) : Int) := Int.ofNat_le.2 h3
              rw [Int.natCast_mul] at h4
              omega
            have h2 : ¬ ((n : Int) < 0) := by omega
            simp only [Instr.makeSlice, Sem.run_bind, run_und hu, Result.andThen_ok, asInt, asIntOf, Sem.run_pure, run_info hi, hwr]
            have h5 : ((decide ((n : Int) < 0) || decide (i.bytes * (n : Int) > 2 ^ 48)) || decide ((n : Int) < 0) || decide ((n : Int) > n)) = false := by simp [h2, h1]; omega
            simp only [h5, Bool.false_eq_true, if_false, Sem.run_bind, run_askRoom, Result.andThen_ok, Int.toNat_natCast, run_size hs]
            by_cases h0 : n * sz = 0
            · rw [if_pos h0]
              simp only [Sem.run_bind, Sem.run_pure, Result.andThen_ok]
              simp [newRow, cells, h0]
            · rw [if_neg h0]
              simp only [Sem.run_bind, Sem.run_pure, Result.andThen_ok, hz1]
              simp [newRow, cells, h0]
          have hm0 : ¬ C σ.n := hf _ (Nat.le_refl _)
          have M2 := Mv.newArr R hm0 true sz (List.replicate n (zs.map T.nz)) cells e n (fun _ _ _ => False) (fun r hr => by
            rw [List.mem_replicate] at hr
            rw [hr.2]; simpa using hzl) (by simp) (by simp [cells]) (fun i' r j x hi' hj => by
            rw [List.getElem?_replicate] at hi'
            split at hi'
            rotate_left
            · cases hi'
            rename_i hil
            cases hi'
            rw [List.getElem?_map, Option.map_eq_some_iff] at hj
            obtain ⟨x0, hx0, rfl⟩ := hj
            have hjl : j < sz := by have := getElem?_lt (a := zs.toArray) (by simpa using hx0); simp at this; omega
            have h0 : n * sz ≠ 0 := by
              have : 0 < n * sz := Nat.mul_pos (by omega) (by omega)
              omega
            have hlt2 : i' * sz + j < n * sz := by
              have : (i' + 1) * sz ≤ n * sz := Nat.mul_le_mul_right _ hil
              rw [Nat.add_mul] at this; omega
            have hmod : (i' * sz + j) % sz = j := by rw [Nat.mul_comm, Nat.mul_add_mod, Nat.mod_eq_of_lt hjl]
            have hjz : j < zv.cells.size := by omega
            have hcell : cells[i' * sz + j]? = some zv.cells[j] := by
              have h9 : (Array.range (n * sz))[i' * sz + j]? = some (i' * sz + j) := by simp [hlt2]
              simp only [cells, h0, if_false, Array.getElem?_map, h9, Option.map_some, hzsz, hmod]
              rw [getElem!_pos zv.cells j hjz]
            have hrep := (hzr.2 j zv.cells[j] (.t x0) (by simp [hjz]) (by rw [hzc]; simp [hx0])).tInv
            exact ⟨_, hcell, hrep.one, fun _ => const_repO hrep (constV_cells hz2 hzs j x0 hx0) _, fun h => by cases h⟩) (fun _ _ _ h => h.elim) (fun _ _ _ _ _ h => h.elim)
          refine OpOk.value (val := .slice (some ⟨w.heap.size, 0, none⟩) n n) (w' := { w with heap := w.heap.push (.cells cells e) }) ?_ ⟨_, _, _, _, M2, fun o ho => ?_, by simp [Sto.new], ?_⟩
          · simp [execOp, ho, hk1, hk2, hrun]
          · rcases ho with ho | rfl
            · exact .inl ho
            · exact .inr ⟨by omega, by simp [Sto.new]⟩
          · have := AVRel.refAll (ob := upd σ.ob σ.n (.arr (.own 0) 0 sz (List.replicate n (zs.map T.nz)))) (β := upd β σ.n ⟨w.heap.size, 0, n, false⟩) (C := fun o => C o ∨ o = σ.n) (h := w.heap.push (.cells cells e)) (Z := Z) (o := σ.n) (.inr rfl) (upd_same _ _ _) (upd_same _ _ _) rfl
            simpa [BI.addr, Sto.new, md] using this
        · cases H
      · cases H
    · cases H
  · cases H
end Go.Proofs.YtpdpgfagklhpaaaGreat.V

namespace Go.Proofs.YtpdpgfagklhpaaaGreat.V
open Go
set_option linter.unusedVariables false
set_option linter.unusedSimpArgs false
variable {P : Program} {M : Nat → Bool} {X : Ora} {ob ob' : Nat → VO} {β β' : Nat → BI} {C C' : Nat → Prop} {h h' : Heap} {Z Z' Zc : Nat → Prop} {own own' : Nat → Option Nat}
variable {σ σ' : Sto} {tm : Nat → AV} {o : Oper} {a : Act} {w : World} {v : AV}
theorem Rel.refRep (R : Rel ob β C h Z own) {o vv : Nat} {p : List (Nat × Nat)} {val : Value} {q : List (List T)} (H : AVRel ob β C h Z val (.ref o vv p)) (hq : (ob o).rows vv p = some q) (hk : ∀ k st sz rows, ob o = .arr (.own k) st sz rows → p = [] → k = 0)
    (hz : ∀ b, Z b → Zc b) (ho : ∀ b, own b = some o → Zc b) : Rep h Zc val (.sl q) := by
  cases H with
  | ref _ _ _ ad l c hc hx =>
    have hat := hx.2.2 q hq
    have HO := R.objs o hc
    unfold ObjRel at HO
    cases hob : ob o with
    | box cs => rw [hob] at hq; simp [VO.rows] at hq
    | dead => rw [hob] at hq; simp [VO.rows] at hq
    | arr m st sz rows =>
      rw [hob] at HO hq hat
      cases p with
      | nil =>
        obtain ⟨h1, h2⟩ := hat.inv0 rfl
        simp only [VO.val, VO.all] at h1 h2
        subst h2
        rw [h1]
        cases m with
        | own k =>
          have := hk k st sz q hob rfl
          subst this
          obtain ⟨f, HO⟩ := HO
          exact (RepO.ofArr HO).rep ho
        | shr => exact Rep.ofArr (S := fun b => own b = some o) ho (ArrG.mono HO (fun b hb => ⟨hb, rfl⟩) fun i j v t hN => hN.mono fun b hb => ⟨hz b hb, rfl⟩)
        | frz => exact HO.2.mono fun b hb => ⟨hz b hb, rfl⟩
      | cons ij p =>
        obtain ⟨i0, j0⟩ := ij
        cases m with
        | own k =>
          simp only [VO.rows] at hq
          split at hq
          · rename_i hcond
            obtain ⟨f, HO⟩ := HO
            obtain ⟨b, off, len, cap, sz', cells', e', fz', q', r', v1, hve, hh', hr', hv', hi', hj', ha'⟩ := hat.inv1 rfl
            simp only [VO.val, VO.all] at hve hr' hi'
            have hb : (β o).isNil = false := by
              cases hb : (β o).isNil with
              | false => rfl
              | true => rw [BI.addr, if_pos hb] at hve; cases hve
            obtain ⟨hS, cells, e, hh, hcs, hel⟩ := HO.blk hb
            simp only [BI.addr, hb] at hve
            cases hve
            rw [hh] at hh'; cases hh'
            have : sz' = sz := by rw [← hr' r' (List.mem_of_getElem? hi'), HO.wid r' (List.mem_of_getElem? hi')]
            subst this
            obtain ⟨u, h1, h2⟩ := hel i0 r' j0 _ hi' hj'
            rw [hv'] at h1; cases h1
            obtain ⟨S', hS', hro⟩ := ha'.repO (h2.2.2 hcond.2)
            exact hro.rep fun b hb => ho b (hS' b hb).1
          · cases hq
        | shr => simp [VO.rows] at hq
        | frz => simp [VO.rows] at hq
theorem reify1_ok {x : T} {val : Value} {y : AV} (R : Rel σ.ob β C h Z own) (H : AVRel σ.ob β C h Z val y) (hr : reify1 σ y = some x) (hz : ∀ b, Z b → Zc b) (ho : ∀ o ∈ ids1 y, ∀ b, own b = some o → Zc b) : Rep h Zc val x := by
  unfold reify1 at hr
  split at hr
  · cases hr; exact (H.tInv.mono fun b hb => ⟨hz b hb, rfl⟩).nz
  · rename_i oo vv p
    have ho' := ho oo (by simp [ids1])
    split at hr
    · rename_i k st sz rows hob
      split at hr
      · cases hr
      · rename_i hc
        rw [Option.map_eq_some_iff] at hr
        obtain ⟨q, hq, rfl⟩ := hr
        refine R.refRep H hq (fun k' st' sz' rows' hob' hp => ?_) hz ho'
        rw [hob] at hob'; cases hob'
        rcases Nat.eq_zero_or_pos k with h0 | h0
        · exact h0
        · exact absurd ⟨hp, by omega⟩ hc
    · rename_i hn
      rw [Option.map_eq_some_iff] at hr
      obtain ⟨q, hq, rfl⟩ := hr
      exact R.refRep H hq (fun k' st' sz' rows' hob' hp => absurd hob' (hn k' st' sz' rows')) hz ho'
  · cases hr
theorem mapM_get {α β : Type} {f : α → Option β} : ∀ {l : List α} {m : List β}, l.mapM f = some m → l.length = m.length ∧ ∀ (i : Nat) (y : β), m[i]? = some y → ∃ x, l[i]? = some x ∧ f x = some y
  | [], m, H => by simp at H; subst H; exact ⟨rfl, fun i y h => by simp at h⟩
  | x :: l, m, H => by
    rw [List.mapM_cons] at H
    simp only [Option.pure_def, Option.bind_eq_bind, Option.bind_eq_some_iff, Option.some.injEq] at H
    obtain ⟨u, hu, us, hus, rfl⟩ := H
    obtain ⟨h1, h2⟩ := mapM_get hus
    refine ⟨by simp [h1], fun i y hi => ?_⟩
    cases i with
    | zero => simp at hi; subst hi; exact ⟨x, rfl, hu⟩
    | succ i => exact h2 i y (by simpa using hi)
/-- Which blocks a reader may look at. -/
def Seen (σ : Sto) (own : Nat → Option Nat) (Zc : Nat → Prop) (l : List Nat) : Prop := (∀ b o, own b = some o → Zc b) ∨ ∀ o ∈ l, isBox (σ.ob o) = false ∧ ∀ b, own b = some o → Zc b
theorem Seen.ow {l : List Nat} (H : Seen σ own Zc l) : ∀ o ∈ l, ∀ b, own b = some o → Zc b := by
  rcases H with H | H
  · exact fun o _ b hb => H b o hb
  · exact fun o ho => (H o ho).2
theorem Seen.mono {l l' : List Nat} (H : Seen σ own Zc l) (hs : ∀ o ∈ l', o ∈ l) : Seen σ own Zc l' := H.imp id fun h o ho => h o (hs o ho)
theorem reifyP_ok {x y : AV} {val : Value} (R : Rel σ.ob β C h Z own) (H : AVRel σ.ob β C h Z val y) (hr : reifyP σ y = some x) (hz : ∀ b, Z b → Zc b) (ho : Seen σ own Zc (ids1 y)) : AVRel Sto.e.ob β' (fun _ => False) h Zc val x := by
  unfold reifyP at hr
  split at hr
  · rename_i oo off
    have ho' := ho.ow oo (by simp [ids1])
    split at hr
    · rename_i cs hob
      rw [Option.map_eq_some_iff] at hr
      obtain ⟨l, hl, rfl⟩ := hr
      have hall : ∀ b o, own b = some o → Zc b := by
        rcases ho with h1 | h1
        · exact h1
        · have := (h1 oo (by simp [ids1])).1
          rw [hob] at this; cases this
      cases H with
      | ptr _ _ ad hc hx =>
        have HO := R.objs oo hc
        unfold ObjRel at HO
        rw [hob] at HO
        obtain ⟨hb, cells, e, hh, hs, h1, hcs⟩ := HO
        rw [hx cs hob]
        refine .fptr (β oo).b off cells e (0, 0) l (ho' _ hb) hh fun j t ht => ?_
        obtain ⟨x, hx1, hx2⟩ := (mapM_get hl).2 j t ht
        rw [List.getElem?_drop] at hx1
        have hlt : off + j < cells.size := by
          have := getElem?_lt (a := cs.toArray) (by simpa using hx1)
          simp at this; omega
        have hg : cells[off + j]? = some cells[off + j] := Array.getElem?_eq_getElem hlt
        exact ⟨_, hg, reify1_ok R (hcs _ _ _ hg hx1) hx2 hz fun o _ b hb => hall b o hb⟩
    · cases hr
  · rename_i oo vv p i j
    have ho' := ho.ow oo (by simp [ids1])
    have key : ∀ r q, (σ.ob oo).rows vv p = some q → q[i]? = some r → (∀ k st sz rows, σ.ob oo = .arr (.own k) st sz rows → p ≠ [] ∨ k ≤ i) → AVRel Sto.e.ob β' (fun _ => False) h Zc val (.fptr (r.drop j)) := by
      intro r q hq hr hk
      cases H with
      | eptr _ _ _ _ _ ad hc hx =>
        obtain ⟨b, off, len, cap, sz, hat, hw, hi, had⟩ := hx.2.2 q hq
        obtain ⟨b', off', cap', sz', cells, e, fz, hve, hh, hbz, hcap, hw', hel⟩ := R.rowsAt2 hc hq hat (ne_of_get hr)
        cases hve
        have hsz : sz' = sz := by rw [← hw r (List.mem_of_getElem? hr), hw' r (List.mem_of_getElem? hr)]
        subst hsz
        rw [had]
        refine .fptr b _ cells e fz _ (hbz.elim (ho' b) (hz b)) hh fun d t ht => ?_
        rw [List.getElem?_drop] at ht
        obtain ⟨u, h1, h2, h3, h4⟩ := hel i r (j + d) t hr ht
        refine ⟨u, by rw [show off + (i * sz' + j) + d = off + (i * sz' + (j + d)) by omega]; exact h1, ?_⟩
        split at h4
        · rename_i k st sz rows hob
          obtain ⟨S, hS, hro⟩ := h4 (hk k st sz rows hob)
          exact hro.rep fun b hb => ho' b (hS b hb)
        · exact h4.mono fun b hb => ⟨hz b hb, rfl⟩
    split at hr
    · rename_i k st sz rows hob
      split at hr
      · cases hr
      · rename_i hcond
        rw [Option.map_eq_some_iff] at hr
        obtain ⟨r, hr, rfl⟩ := hr
        rw [Option.bind_eq_some_iff] at hr
        obtain ⟨q, hq, hr⟩ := hr
        refine key r q hq hr fun k' st' sz' rows' hob' => ?_
        rw [hob] at hob'; cases hob'
        by_cases hp : p = []
        · exact .inr (by
            rcases Nat.lt_or_ge i k with h1 | h1
            · exact absurd ⟨hp, by omega⟩ hcond
            · exact h1)
        · exact .inl hp
    · rename_i hn
      rw [Option.map_eq_some_iff] at hr
      obtain ⟨r, hr, rfl⟩ := hr
      rw [Option.bind_eq_some_iff] at hr
      obtain ⟨q, hq, hr⟩ := hr
      exact key r q hq hr fun k' st' sz' rows' hob' => absurd hob' (hn k' st' sz' rows')
  · cases hr
    cases H with
    | fptr blk off cs e fz cells hzz hh hv => exact .fptr blk off cs e fz _ (hz _ hzz) hh fun j t ht => let ⟨u, h1, h2⟩ := hv j t ht; ⟨u, h1, h2.mono fun b hb => ⟨hz b hb, rfl⟩⟩
  · cases hr; cases H with
    | np => exact .np
    | nf => exact .nf
  · rw [Option.map_eq_some_iff] at hr
    obtain ⟨t, ht, rfl⟩ := hr
    exact .t _ _ (reify1_ok R H ht hz ho.ow)
theorem reify_ok {x y : AV} {val : Value} (R : Rel σ.ob β C h Z own) (H : AVRel σ.ob β C h Z val y) (hr : reify σ y = some x) (hz : ∀ b, Z b → Zc b) (ho : Seen σ own Zc (ids y)) : AVRel Sto.e.ob β' (fun _ => False) h Zc val x := by
  unfold reify at hr
  split at hr
  · rename_i cs
    rw [Option.map_eq_some_iff] at hr
    obtain ⟨l, hl, rfl⟩ := hr
    cases H with
    | agg vs _ hs hv =>
      obtain ⟨h1, h2⟩ := mapM_get hl
      refine .agg vs _ (by simp [hs, h1]) fun i u y hu hy => ?_
      rw [List.getElem?_map, Option.map_eq_some_iff] at hy
      obtain ⟨t, ht, rfl⟩ := hy
      obtain ⟨c, hc1, hc2⟩ := h2 i t ht
      exact .t _ _ (reify1_ok R (hv i u c hu hc1) hc2 hz fun o hoo => ho.ow o (List.mem_flatMap.2 ⟨c, List.mem_of_getElem? hc1, hoo⟩))
  · rename_i f cs
    rw [Option.map_eq_some_iff] at hr
    obtain ⟨l, hl, rfl⟩ := hr
    cases H with
    | clo _ vs _ hs hv =>
      obtain ⟨h1, h2⟩ := mapM_get hl
      refine .clo f vs _ (by simp [hs, h1]) fun i u y hu hy => ?_
      obtain ⟨c, hc1, hc2⟩ := h2 i y hy
      exact reifyP_ok R (hv i u c hu hc1) hc2 hz (ho.mono fun o hoo => List.mem_flatMap.2 ⟨c, List.mem_of_getElem? hc1, hoo⟩)
  · rename_i h1 h2
    refine reifyP_ok R H hr hz (ho.mono fun o hoo => ?_)
    unfold ids
    split
    · exact absurd rfl (h1 _)
    · exact absurd rfl (h2 _ _)
    · exact hoo
end Go.Proofs.YtpdpgfagklhpaaaGreat.V

namespace Go.Proofs.YtpdpgfagklhpaaaGreat.V
open Go
set_option linter.unusedVariables false
set_option linter.unusedSimpArgs false
variable {P : Program} {M : Nat → Bool} {X : Ora}
theorem asT_map : ∀ {cs : List AV} {l : List T}, cs.mapM asT = some l → cs = l.map .t
  | [], l, h => by simp at h; subst h; rfl
  | a :: cs, l, h => by
    rw [List.mapM_cons] at h
    cases a with
    | t x =>
      simp only [asT, Option.bind_eq_bind, Option.bind_some, Option.pure_def] at h
      rw [Option.bind_eq_some_iff] at h
      obtain ⟨m, h1, h2⟩ := h
      cases h2
      rw [asT_map h1]; rfl
    | _ => simp [asT] at h
/-- The caller's store c, over what was there at the call (0), beside the store of the function called (1). -/
structure Imp (base : Nat) (FL : Bool) (ob0 : Nat → VO) (β0 : Nat → BI) (C0 : Nat → Prop) (h0 : Heap) (Z0 : Nat → Prop) (own0 : Nat → Option Nat) (h : Heap) (σ1 : Sto) (β1 : Nat → BI) (C1 Z1 : Nat → Prop) (own1 : Nat → Option Nat)
    (c : Sto) (β : Nat → BI) (C Z : Nat → Prop) (own : Nat → Option Nat) : Prop where
  A : Mv ob0 β0 C0 h0 Z0 own0 c.ob β C h Z own
  R1 : Rel σ1.ob β1 C1 h Z1 own1
  lt : ∀ b o, base ≤ o → own1 b = some o → (∃ y, own0 b = some y) ∨ h0.size ≤ b
  free : ∀ b o, base ≤ o → C1 o → own1 b = some o → σ1.ob o ≠ .dead → own b = none ∧ ¬ Z b
  fresh : ∀ o, c.n ≤ o → ¬ C o
  bn : base ≤ c.n
  low : ∀ o, o < base → C1 o → C o ∧ c.ob o = σ1.ob o ∧ β o = β1 o
  zz : FL = true → ∀ b, Z1 b → Z b
section
variable {base : Nat} {FL : Bool} {ob0 : Nat → VO} {β0 : Nat → BI} {C0 : Nat → Prop} {h0 : Heap} {Z0 : Nat → Prop} {own0 : Nat → Option Nat} {h : Heap} {σ1 : Sto} {β1 : Nat → BI} {C1 Z1 : Nat → Prop} {own1 : Nat → Option Nat}
    {c : Sto} {β : Nat → BI} {C Z : Nat → Prop} {own : Nat → Option Nat}
/-- What a step of taking over leaves. -/
def ImpNext (base : Nat) (FL : Bool) (ob0 : Nat → VO) (β0 : Nat → BI) (C0 : Nat → Prop) (h0 : Heap) (Z0 : Nat → Prop) (own0 : Nat → Option Nat) (h : Heap) (σ1 : Sto) (β1 : Nat → BI) (C1 Z1 : Nat → Prop) (own1 : Nat → Option Nat)
    (c : Sto) (β : Nat → BI) (C Z : Nat → Prop) (own : Nat → Option Nat) (σ2 c2 : Sto) (Q : (Nat → VO) → (Nat → BI) → (Nat → Prop) → (Nat → Prop) → Prop) : Prop :=
  ∃ (Z1' : Nat → Prop) (own1' : Nat → Option Nat) (β' : Nat → BI) (C' Z' : Nat → Prop) (own' : Nat → Option Nat), Imp base FL ob0 β0 C0 h0 Z0 own0 h σ2 β1 C1 Z1' own1' c2 β' C' Z' own' ∧
    (∀ v a, AVRel σ1.ob β1 C1 h Z1 v a → AVRel σ2.ob β1 C1 h Z1' v a) ∧ (∀ v a, AVRel c.ob β C h Z v a → AVRel c2.ob β' C' h Z' v a) ∧ c.n ≤ c2.n ∧ (∀ o, C' o → C o ∨ (c.n ≤ o ∧ o < c2.n)) ∧ Q c2.ob β' C' Z'
theorem Imp.same (I : Imp base FL ob0 β0 C0 h0 Z0 own0 h σ1 β1 C1 Z1 own1 c β C Z own) {Q : (Nat → VO) → (Nat → BI) → (Nat → Prop) → (Nat → Prop) → Prop} (hQ : Q c.ob β C Z) : ImpNext base FL ob0 β0 C0 h0 Z0 own0 h σ1 β1 C1 Z1 own1 c β C Z own σ1 c Q :=
  ⟨Z1, own1, β, C, Z, own, I, fun _ _ h => h, fun _ _ h => h, Nat.le_refl _, fun _ h => .inl h, hQ⟩
theorem imp1_ok {v : Value} {a x : AV} {σ2 c2 : Sto} {fl : Bool} (I : Imp base FL ob0 β0 C0 h0 Z0 own0 h σ1 β1 C1 Z1 own1 c β C Z own) (hv : AVRel σ1.ob β1 C1 h Z1 v a) (H : imp1 base σ1 c a = some (x, σ2, c2, fl)) (hfl : fl = true → FL = true) :
    ImpNext base FL ob0 β0 C0 h0 Z0 own0 h σ1 β1 C1 Z1 own1 c β C Z own σ2 c2 (fun ob β C Z => AVRel ob β C h Z v x) := by
  classical
  cases hv with
  | t _ y hy =>
    simp only [imp1, Option.some.injEq, Prod.mk.injEq] at H
    obtain ⟨rfl, rfl, rfl, rfl⟩ := H
    refine I.same (.t _ _ ?_)
    cases y with
    | b => exact flatRep rfl hy
    | i => exact flatRep rfl hy
    | s => exact flatRep rfl hy
    | nl => cases hy; exact .nl
    | sl q => exact hy.mono fun b hb => ⟨I.zz (hfl rfl) b hb, rfl⟩
  | np =>
    simp only [imp1, Option.some.injEq, Prod.mk.injEq] at H
    obtain ⟨rfl, rfl, rfl, rfl⟩ := H
    exact I.same .np
  | nf =>
    simp only [imp1, Option.some.injEq, Prod.mk.injEq] at H
    obtain ⟨rfl, rfl, rfl, rfl⟩ := H
    exact I.same .nf
  | undef =>
    simp only [imp1, Option.some.injEq, Prod.mk.injEq] at H
    obtain ⟨rfl, rfl, rfl, rfl⟩ := H
    exact I.same (.undef _)
  | ptr o off ad hc hx =>
    simp only [imp1] at H
    split at H
    · rename_i hlt
      simp only [Option.some.injEq, Prod.mk.injEq] at H
      obtain ⟨rfl, rfl, rfl, rfl⟩ := H
      obtain ⟨h1, h2, h3⟩ := I.low o hlt hc
      exact I.same (.ptr o off ad h1 (by rw [h2, h3]; exact hx))
    · have hbo : base ≤ o := by omega
      have HO := I.R1.objs o hc
      unfold ObjRel at HO
      split at H
      · rename_i cs hob
        split at H
        · rename_i l0 hl0
          simp only [Option.some.injEq, Prod.mk.injEq] at H
          obtain ⟨rfl, rfl, rfl, rfl⟩ := H
          have hcs : cs = l0.map .t := asT_map hl0
          subst hcs
          rw [hob] at HO
          obtain ⟨hown, cells, e, h2, h3, h4, h5⟩ := HO
          have hnd : σ1.ob o ≠ .dead := by rw [hob]; simp
          have hS : ∀ b, own1 b = some o → own b = none ∧ ¬ Z b := fun b hb => I.free b o hbo hc hb hnd
          have hcn : ¬ C c.n := I.fresh _ (Nat.le_refl _)
          have hne : ∀ o', C o' → o' ≠ c.n := fun o' h1 e => hcn (e ▸ h1)
          have hevoC : ∀ o', C o' → (C o' ∨ o' = c.n) ∧ Evo (c.ob o') (β o') h (upd c.ob c.n (.box (l0.map .t)) o') (upd β c.n (β1 o) o') h := fun o' ho' => by
            rw [upd_ne _ _ (hne o' ho'), upd_ne _ _ (hne o' ho')]
            exact ⟨.inl ho', .same fun _ _ _ _ _ ha => ha⟩
          have hmonoC : ∀ v a, AVRel c.ob β C h Z v a → AVRel (upd c.ob c.n (.box (l0.map .t))) (upd β c.n (β1 o)) (fun o' => C o' ∨ o' = c.n) h Z v a := fun v a => AVRel.mono (fun b hb => ⟨hb, rfl⟩) hevoC
          have hRc := I.A.rel
          have hR2 : Rel (upd c.ob c.n (.box (l0.map .t))) (upd β c.n (β1 o)) (fun o' => C o' ∨ o' = c.n) h Z (fun b => if own1 b = some o then some c.n else own b) := by
            refine ⟨fun b o' hb => ?_, fun b hb => ⟨(hRc.zlt b hb).1, ?_⟩, fun o' ho' => ?_, fun o' ho' => ?_⟩
            · split at hb
              · rename_i h1; exact I.R1.own_lt b o h1
              · exact hRc.own_lt b o' hb
            · show (if _ then _ else _) = _
              rw [if_neg (fun h1 => (hS b h1).2 hb)]; exact (hRc.zlt b hb).2
            · rcases ho' with ho' | rfl
              · refine ObjRel.mono (upd_ne _ _ (hne o' ho')) (upd_ne _ _ (hne o' ho')) (fun b hb => ⟨?_, rfl⟩) (fun b hb => ⟨hb, rfl⟩) hmonoC (hRc.objs o' ho')
                show (if _ then _ else _) = _
                rw [if_neg (fun h1 => by rw [(hS b h1).1] at hb; cases hb)]; exact hb
              · unfold ObjRel
                rw [upd_same, upd_same]
                exact ⟨if_pos hown, cells, e, h2, h3, h4, fun j v a hj ha => by
                  have hr := h5 j v a hj ha
                  obtain ⟨x0, rfl⟩ : ∃ x0, a = .t x0 := by
                    rw [List.getElem?_map, Option.map_eq_some_iff] at ha
                    obtain ⟨x0, _, e0⟩ := ha; exact ⟨x0, e0.symm⟩
                  cases hr with
                  | t _ _ hr => exact .t _ _ (hr.mono fun b hb => ⟨I.zz (hfl rfl) b hb, rfl⟩)⟩
            · have h1 : o' ≠ c.n := fun e => ho' (.inr e)
              rw [upd_ne _ _ h1]
              exact hRc.dead o' fun h2 => ho' (.inl h2)
          have hA2 : Mv ob0 β0 C0 h0 Z0 own0 (upd c.ob c.n (.box (l0.map .t))) (upd β c.n (β1 o)) (fun o' => C o' ∨ o' = c.n) h Z (fun b => if own1 b = some o then some c.n else own b) := by
            refine ⟨hR2, ⟨I.A.good.sz, I.A.good.keep, fun b y hb => ?_, I.A.good.zin, I.A.good.zout⟩, fun o' ho' => ?_⟩
            · split at hb
              · rename_i h1; exact I.lt b o hbo h1
              · exact I.A.good.ownb b y hb
            · obtain ⟨h1, h2⟩ := I.A.evo o' ho'
              refine ⟨.inl h1, ?_⟩
              rw [upd_ne _ _ (hne o' h1), upd_ne _ _ (hne o' h1)]; exact h2
          have hevo1 : ∀ o', C1 o' → C1 o' ∧ Evo (σ1.ob o') (β1 o') h (upd σ1.ob o .dead o') (β1 o') h := fun o' ho' => by
            refine ⟨ho', ?_⟩
            by_cases e : o' = o
            · subst e; rw [upd_same]; exact Evo.dead
            · rw [upd_ne _ _ e]; exact .same fun _ _ _ _ _ ha => ha
          have hmono1 : ∀ v a, AVRel σ1.ob β1 C1 h Z1 v a → AVRel (upd σ1.ob o .dead) β1 C1 h Z1 v a := fun v a => AVRel.mono (fun b hb => ⟨hb, rfl⟩) hevo1
          have hR1' : Rel (upd σ1.ob o .dead) β1 C1 h Z1 own1 := by
            refine ⟨I.R1.own_lt, I.R1.zlt, fun o' ho' => ?_, fun o' ho' => ?_⟩
            · by_cases e : o' = o
              · subst e; unfold ObjRel; rw [upd_same]; trivial
              · exact ObjRel.mono (upd_ne _ _ e) rfl (fun b hb => ⟨hb, rfl⟩) (fun b hb => ⟨hb, rfl⟩) hmono1 (I.R1.objs o' ho')
            · by_cases e : o' = o
              · subst e; exact .inl (upd_same _ _ _)
              · rw [upd_ne _ _ e]; exact I.R1.dead o' ho'
          refine ⟨Z1, own1, _, _, Z, _, ⟨hA2, hR1', I.lt, fun b o' hb1 hc1 hb hd => ?_, fun o' ho' => ?_, Nat.le_succ_of_le I.bn, fun o' ho' hc' => ?_, I.zz⟩, hmono1, hmonoC, Nat.le_succ _, fun o' ho' => ?_, ?_⟩
          · have hoo : o' ≠ o := fun e => hd (by rw [e]; exact upd_same _ _ _)
            rw [show (σ1.set o .dead).ob o' = σ1.ob o' from upd_ne _ _ hoo] at hd
            obtain ⟨h1, h2⟩ := I.free b o' hb1 hc1 hb hd
            refine ⟨?_, h2⟩
            show (if _ then _ else _) = _
            rw [if_neg (fun h3 => hoo (Option.some.inj (hb.symm.trans h3)))]; exact h1
          · simp only [Sto.new] at ho'
            rintro (h1 | h1)
            · exact I.fresh o' (by omega) h1
            · omega
          · obtain ⟨h1, h2, h3⟩ := I.low o' ho' hc'
            have e1 : o' ≠ o := by omega
            refine ⟨.inl h1, ?_, ?_⟩
            · show upd c.ob c.n _ o' = upd σ1.ob o .dead o'
              rw [upd_ne _ _ (hne o' h1), upd_ne _ _ e1]; exact h2
            · rw [upd_ne _ _ (hne o' h1)]; exact h3
          · rcases ho' with h1 | rfl
            · exact .inl h1
            · exact .inr ⟨Nat.le_refl _, by simp [Sto.new]⟩
          · exact .ptr c.n off ad (.inr rfl) (fun cs2 _ => by rw [upd_same]; exact hx _ hob)
        · cases H
      · cases H
  | ref o ver p ad l cc hc hx hl0 =>
    simp only [imp1] at H
    split at H
    · rename_i hlt
      simp only [Option.some.injEq, Prod.mk.injEq] at H
      obtain ⟨rfl, rfl, rfl, rfl⟩ := H
      obtain ⟨h1, h2, h3⟩ := I.low o hlt hc
      exact I.same (.ref o ver p ad l cc h1 (by rw [h2, h3]; exact hx) hl0)
    · rename_i hge
      have hbo : base ≤ o := by omega
      have HO := I.R1.objs o hc
      unfold ObjRel at HO
      split at H
      · split at H
        · rename_i k st sz rows hob
          rw [hob] at HO hx
          split at H
          · rename_i hcond
            obtain ⟨hl, rfl⟩ := hcond
            simp only [Option.some.injEq, Prod.mk.injEq] at H
            obtain ⟨rfl, rfl, rfl, rfl⟩ := H
            subst hl
            have hval := hx.whole
            obtain ⟨f, HO⟩ := HO
            have hnd : σ1.ob o ≠ .dead := by rw [hob]; simp
            have hS : ∀ b, own1 b = some o → own b = none ∧ ¬ Z b := fun b hb => I.free b o hbo hc hb hnd
            have hcn : ¬ C c.n := I.fresh _ (Nat.le_refl _)
            have hne : ∀ o', C o' → o' ≠ c.n := fun o' h1 e => hcn (e ▸ h1)
            have hevoC : ∀ o', C o' → (C o' ∨ o' = c.n) ∧ Evo (c.ob o') (β o') h (upd c.ob c.n (.arr (.own 0) 0 sz rows) o') (upd β c.n (β1 o) o') h := fun o' ho' => by
              rw [upd_ne _ _ (hne o' ho'), upd_ne _ _ (hne o' ho')]
              exact ⟨.inl ho', .same fun _ _ _ _ _ ha => ha⟩
            have hmonoC : ∀ v a, AVRel c.ob β C h Z v a → AVRel (upd c.ob c.n (.arr (.own 0) 0 sz rows)) (upd β c.n (β1 o)) (fun o' => C o' ∨ o' = c.n) h Z v a := fun v a => AVRel.mono (fun b hb => ⟨hb, rfl⟩) hevoC
            have hRc := I.A.rel
            have hnew : ArrG h (fun b => (if own1 b = some o then some c.n else own b) = some c.n) sz rows (β1 o) (NOwn h (fun b => (if own1 b = some o then some c.n else own b) = some c.n) (β1 o) f 0) :=
              HO.mono (fun b hb => ⟨if_pos hb, rfl⟩) fun i j v t hN => hN.mono fun b hb => ⟨if_pos hb, rfl⟩
            have hR2 : Rel (upd c.ob c.n (.arr (.own 0) 0 sz rows)) (upd β c.n (β1 o)) (fun o' => C o' ∨ o' = c.n) h Z (fun b => if own1 b = some o then some c.n else own b) := by
              refine ⟨fun b o' hb => ?_, fun b hb => ⟨(hRc.zlt b hb).1, ?_⟩, fun o' ho' => ?_, fun o' ho' => ?_⟩
              · split at hb
                · rename_i h1; exact I.R1.own_lt b o h1
                · exact hRc.own_lt b o' hb
              · show (if _ then _ else _) = _
                rw [if_neg (fun h1 => (hS b h1).2 hb)]; exact (hRc.zlt b hb).2
              · rcases ho' with ho' | rfl
                · refine ObjRel.mono (upd_ne _ _ (hne o' ho')) (upd_ne _ _ (hne o' ho')) (fun b hb => ⟨?_, rfl⟩) (fun b hb => ⟨hb, rfl⟩) hmonoC (hRc.objs o' ho')
                  show (if _ then _ else _) = _
                  rw [if_neg (fun h1 => by rw [(hS b h1).1] at hb; cases hb)]; exact hb
                · unfold ObjRel
                  rw [upd_same, upd_same]
                  exact ⟨f, hnew⟩
              · have h1 : o' ≠ c.n := fun e => ho' (.inr e)
                rw [upd_ne _ _ h1]
                exact hRc.dead o' fun h2 => ho' (.inl h2)
            have hA2 : Mv ob0 β0 C0 h0 Z0 own0 (upd c.ob c.n (.arr (.own 0) 0 sz rows)) (upd β c.n (β1 o)) (fun o' => C o' ∨ o' = c.n) h Z (fun b => if own1 b = some o then some c.n else own b) := by
              refine ⟨hR2, ⟨I.A.good.sz, I.A.good.keep, fun b y hb => ?_, I.A.good.zin, I.A.good.zout⟩, fun o' ho' => ?_⟩
              · split at hb
                · rename_i h1; exact I.lt b o hbo h1
                · exact I.A.good.ownb b y hb
              · obtain ⟨h1, h2⟩ := I.A.evo o' ho'
                refine ⟨.inl h1, ?_⟩
                rw [upd_ne _ _ (hne o' h1), upd_ne _ _ (hne o' h1)]; exact h2
            have hevo1 : ∀ o', C1 o' → C1 o' ∧ Evo (σ1.ob o') (β1 o') h (upd σ1.ob o .dead o') (β1 o') h := fun o' ho' => by
              refine ⟨ho', ?_⟩
              by_cases e : o' = o
              · subst e; rw [upd_same]; exact Evo.dead
              · rw [upd_ne _ _ e]; exact .same fun _ _ _ _ _ ha => ha
            have hmono1 : ∀ v a, AVRel σ1.ob β1 C1 h Z1 v a → AVRel (upd σ1.ob o .dead) β1 C1 h Z1 v a := fun v a => AVRel.mono (fun b hb => ⟨hb, rfl⟩) hevo1
            have hR1' : Rel (upd σ1.ob o .dead) β1 C1 h Z1 own1 := by
              refine ⟨I.R1.own_lt, I.R1.zlt, fun o' ho' => ?_, fun o' ho' => ?_⟩
              · by_cases e : o' = o
                · subst e; unfold ObjRel; rw [upd_same]; trivial
                · exact ObjRel.mono (upd_ne _ _ e) rfl (fun b hb => ⟨hb, rfl⟩) (fun b hb => ⟨hb, rfl⟩) hmono1 (I.R1.objs o' ho')
              · by_cases e : o' = o
                · subst e; exact .inl (upd_same _ _ _)
                · rw [upd_ne _ _ e]; exact I.R1.dead o' ho'
            refine ⟨Z1, own1, _, _, Z, _, ⟨hA2, hR1', I.lt, fun b o' hb1 hc1 hb hd => ?_, fun o' ho' => ?_, Nat.le_succ_of_le I.bn, fun o' ho' hc' => ?_, I.zz⟩, hmono1, hmonoC, Nat.le_succ _, fun o' ho' => ?_, ?_⟩
            · have hoo : o' ≠ o := fun e => hd (by rw [e]; exact upd_same _ _ _)
              rw [show (σ1.set o .dead).ob o' = σ1.ob o' from upd_ne _ _ hoo] at hd
              obtain ⟨h1, h2⟩ := I.free b o' hb1 hc1 hb hd
              refine ⟨?_, h2⟩
              show (if _ then _ else _) = _
              rw [if_neg (fun h3 => hoo (Option.some.inj (hb.symm.trans h3)))]; exact h1
            · simp only [Sto.new] at ho'
              rintro (h1 | h1)
              · exact I.fresh o' (by omega) h1
              · omega
            · obtain ⟨h1, h2, h3⟩ := I.low o' ho' hc'
              have e1 : o' ≠ o := by omega
              refine ⟨.inl h1, ?_, ?_⟩
              · show upd c.ob c.n _ o' = upd σ1.ob o .dead o'
                rw [upd_ne _ _ (hne o' h1), upd_ne _ _ e1]; exact h2
              · rw [upd_ne _ _ (hne o' h1)]; exact h3
            · rcases ho' with h1 | rfl
              · exact .inl h1
              · exact .inr ⟨Nat.le_refl _, by simp [Sto.new]⟩
            · rw [hval]
              have := AVRel.refAll (ob := upd c.ob c.n (.arr (.own 0) 0 sz rows)) (β := upd β c.n (β1 o)) (C := fun o' => C o' ∨ o' = c.n) (h := h) (Z := Z) (o := c.n) (.inr rfl) (upd_same _ _ _) (upd_same _ _ _) rfl
              exact this
          · cases H
        · rename_i m st sz rows hm hob
          split at H
          · rename_i hl
            simp only [Option.some.injEq, Prod.mk.injEq] at H
            obtain ⟨rfl, rfl, rfl, rfl⟩ := H
            subst hl
            rw [hob] at hx HO
            have hval := hx.whole
            have hFL := hfl rfl
            have hnd : σ1.ob o ≠ .dead := by rw [hob]; simp
            have key : ∃ S : Nat → Prop, (∀ b, S b → own1 b = some o) ∧ (∀ r ∈ rows, r.length = sz) ∧ Rep h (fun b => Z1 b ∨ S b) (.slice (β1 o).addr rows.length (β1 o).cap) (.sl rows) := by
              cases m with
              | own k => exact (hm k rfl).elim
              | shr => exact ⟨fun b => own1 b = some o, fun _ h => h, HO.wid, Rep.ofArr (S := fun b => own1 b = some o) (fun b hb => .inr hb) (ArrG.mono HO (fun b hb => ⟨hb, rfl⟩) fun i j v t hN => hN.mono fun b hb => ⟨.inl hb, rfl⟩)⟩
              | frz => exact ⟨fun _ => False, fun _ h => h.elim, HO.1, HO.2.mono fun b hb => ⟨.inl hb, rfl⟩⟩
            obtain ⟨S, hS, hw, hrep⟩ := key
            have M1 := Mv.give I.R1 o (.arr .frz st sz rows) S hS none (fun n hn => by cases hn) (fun b => Z1 b ∨ S b) (fun b => by simp) (by
              rw [hob]
              refine ⟨fun p a' ha => ⟨a', ha, Nat.le_refl _⟩, fun p v h1 _ hs => ⟨hs, fun q' h2 => ⟨q', ?_, rfl, fun _ h => h, fun val h => h⟩⟩, fun cs' h => by cases h⟩
              cases p with
              | nil => exact h2
              | cons ij p => simp [VO.rows] at h2) hc (fun _ => by unfold ObjRel; rw [upd_same]; exact ⟨hw, hrep⟩)
            have hfr : ∀ b, S b → own b = none ∧ ¬ Z b := fun b hb => I.free b o hbo hc (hS b hb) hnd
            have hRc := I.A.rel
            have hmonoC : ∀ v a, AVRel c.ob β C h Z v a → AVRel c.ob β C h (fun b => Z b ∨ S b) v a := fun v a => AVRel.mono (fun b hb => ⟨.inl hb, rfl⟩) fun o' ho' => ⟨ho', .same fun _ _ _ _ _ ha => ha⟩
            have hR2 : Rel c.ob β C h (fun b => Z b ∨ S b) own := by
              refine ⟨hRc.own_lt, fun b hb => ?_, fun o' ho' => ObjRel.mono rfl rfl (fun b hb => ⟨hb, rfl⟩) (fun b hb => ⟨.inl hb, rfl⟩) hmonoC (hRc.objs o' ho'), hRc.dead⟩
              rcases hb with hb | hb
              · exact hRc.zlt b hb
              · exact ⟨I.R1.own_lt b o (hS b hb), (hfr b hb).1⟩
            have hA2 : Mv ob0 β0 C0 h0 Z0 own0 c.ob β C h (fun b => Z b ∨ S b) own := by
              refine ⟨hR2, ⟨I.A.good.sz, I.A.good.keep, I.A.good.ownb, fun b hb => .inl (I.A.good.zin b hb), fun b hb => ?_⟩, I.A.evo⟩
              rcases hb with hb | hb
              · exact I.A.good.zout b hb
              · exact .inr (I.lt b o hbo (hS b hb))
            refine ⟨_, _, β, C, _, own, ⟨hA2, M1.rel, fun b o' hb1 hb => ?_, fun b o' hb1 hc1 hb hd => ?_, I.fresh, I.bn, fun o' ho' hc' => ?_, fun _ b hb => hb.imp (I.zz hFL b) id⟩, fun v a h1 => M1.av I.R1 h1, hmonoC, Nat.le_refl _, fun _ h => .inl h, ?_⟩
            · split at hb
              · cases hb
              · exact I.lt b o' hb1 hb
            · split at hb
              · cases hb
              · rename_i hnS
                have hd' : σ1.ob o' ≠ .dead := by
                  by_cases e : o' = o
                  · subst e; exact hnd
                  · have : (σ1.set o (.arr .frz st sz rows)).ob o' = σ1.ob o' := upd_ne _ _ e
                    rw [this] at hd; exact hd
                obtain ⟨h1, h2⟩ := I.free b o' hb1 hc1 hb hd'
                exact ⟨h1, fun h3 => h3.elim h2 hnS⟩
            · obtain ⟨h1, h2, h3⟩ := I.low o' ho' hc'
              refine ⟨h1, ?_, h3⟩
              rw [show (σ1.set o (.arr .frz st sz rows)).ob o' = σ1.ob o' from upd_ne _ _ (by omega)]; exact h2
            · rw [hval]
              exact .t _ _ (hrep.mono fun b hb => ⟨hb.imp (I.zz hFL b) id, rfl⟩)
          · cases H
        · cases H
      · cases H
  | _ => simp [imp1] at H
end
end Go.Proofs.YtpdpgfagklhpaaaGreat.V

namespace Go.Proofs.YtpdpgfagklhpaaaGreat.V
open Go
set_option linter.unusedVariables false
set_option linter.unusedSimpArgs false
variable {P : Program} {M : Nat → Bool} {X : Ora}
section
variable {base : Nat} {FL : Bool} {ob0 : Nat → VO} {β0 : Nat → BI} {C0 : Nat → Prop} {h0 : Heap} {Z0 : Nat → Prop} {own0 : Nat → Option Nat} {h : Heap} {β1 : Nat → BI} {C1 : Nat → Prop}
theorem impL_ok : ∀ (l : List AV) {σ1 : Sto} {Z1 : Nat → Prop} {own1 : Nat → Option Nat} {c : Sto} {β : Nat → BI} {C Z : Nat → Prop} {own : Nat → Option Nat} {vs : List Value} {xs : List AV} {σ2 c2 : Sto} {fl : Bool},
    Imp base FL ob0 β0 C0 h0 Z0 own0 h σ1 β1 C1 Z1 own1 c β C Z own → RelL σ1.ob β1 C1 h Z1 vs l → impL base σ1 c l = some (xs, σ2, c2, fl) → (fl = true → FL = true) →
    ImpNext base FL ob0 β0 C0 h0 Z0 own0 h σ1 β1 C1 Z1 own1 c β C Z own σ2 c2 (fun ob β C Z => RelL ob β C h Z vs xs)
  | [], σ1, Z1, own1, c, β, C, Z, own, vs, xs, σ2, c2, fl, I, hv, H, hfl => by
    simp only [impL, Option.some.injEq, Prod.mk.injEq] at H
    obtain ⟨rfl, rfl, rfl, rfl⟩ := H
    exact I.same ⟨hv.1, fun k u x hu hx => by simp at hx⟩
  | a :: l, σ1, Z1, own1, c, β, C, Z, own, vs, xs, σ2, c2, fl, I, hv, H, hfl => by
    simp only [impL] at H
    split at H
    · rename_i x σ1' c1 f1 h1
      split at H
      · rename_i xs1 σ2' c2' g h2
        simp only [Option.some.injEq, Prod.mk.injEq] at H
        obtain ⟨rfl, rfl, rfl, rfl⟩ := H
        cases vs with
        | nil => have := hv.1; simp at this
        | cons v vs =>
          obtain ⟨Z1', own1', β', C', Z', own', I', m1, mc, hn1, hc1, hx⟩ := imp1_ok I (hv.2 0 v a rfl rfl) h1 (fun e => hfl (by rw [e]; rfl))
          obtain ⟨Z1'', own1'', β'', C'', Z'', own'', I'', m1', mc', hn2, hc2, hxs⟩ := impL_ok l I' (vs := vs) ⟨by have := hv.1; simpa using this, fun k u y hu hy => m1 u y (hv.2 (k + 1) u y (by simpa using hu) (by simpa using hy))⟩ h2 (fun e => hfl (by rw [e]; cases f1 <;> rfl))
          refine ⟨Z1'', own1'', β'', C'', Z'', own'', I'', fun v a h => m1' v a (m1 v a h), fun v a h => mc' v a (mc v a h), Nat.le_trans hn1 hn2, fun o ho => ?_, ?_⟩
          · rcases hc2 o ho with h3 | h3
            · rcases hc1 o h3 with h4 | h4
              · exact .inl h4
              · exact .inr ⟨h4.1, by omega⟩
            · exact .inr ⟨by omega, h3.2⟩
          · refine ⟨by have := hxs.1; simp [this], fun k u y hu hy => ?_⟩
            cases k with
            | zero => simp at hu hy; subst hu; subst hy; exact mc' _ _ hx
            | succ k => exact hxs.2 k u y (by simpa using hu) (by simpa using hy)
      · cases H
    · cases H
theorem impA_ok {σ1 : Sto} {Z1 : Nat → Prop} {own1 : Nat → Option Nat} {c : Sto} {β : Nat → BI} {C Z : Nat → Prop} {own : Nat → Option Nat} {v : Value} {a x : AV} {σ2 c2 : Sto} {fl : Bool} (I : Imp base FL ob0 β0 C0 h0 Z0 own0 h σ1 β1 C1 Z1 own1 c β C Z own)
    (hv : AVRel σ1.ob β1 C1 h Z1 v a) (H : impA base σ1 c a = some (x, σ2, c2, fl)) (hfl : fl = true → FL = true) :
    ImpNext base FL ob0 β0 C0 h0 Z0 own0 h σ1 β1 C1 Z1 own1 c β C Z own σ2 c2 (fun ob β C Z => AVRel ob β C h Z v x) := by
  unfold impA at H
  split at H
  · rename_i l
    rw [Option.map_eq_some_iff] at H
    obtain ⟨⟨xs, σ2', c2', fl'⟩, h1, h2⟩ := H
    simp only [Prod.mk.injEq] at h2
    obtain ⟨rfl, rfl, rfl, rfl⟩ := h2
    cases hv with
    | agg vs _ hs hvv =>
      obtain ⟨Z1', own1', β', C', Z', own', I', m1, mc, hn1, hc1, hx⟩ := impL_ok l I (vs := vs.toList) ⟨by simpa using hs, fun k u y hu hy => hvv k u y (by simpa using hu) hy⟩ h1 hfl
      exact ⟨Z1', own1', β', C', Z', own', I', m1, mc, hn1, hc1, .agg _ _ (by simpa using hx.1) fun k u y hu hy => hx.2 k u y (by simpa using hu) hy⟩
  · exact imp1_ok I hv H hfl
theorem impAs_ok : ∀ (l : List AV) {σ1 : Sto} {Z1 : Nat → Prop} {own1 : Nat → Option Nat} {c : Sto} {β : Nat → BI} {C Z : Nat → Prop} {own : Nat → Option Nat} {vs : List Value} {xs : List AV} {σ2 c2 : Sto} {fl : Bool},
    Imp base FL ob0 β0 C0 h0 Z0 own0 h σ1 β1 C1 Z1 own1 c β C Z own → RelL σ1.ob β1 C1 h Z1 vs l → impAs base σ1 c l = some (xs, σ2, c2, fl) → (fl = true → FL = true) →
    ImpNext base FL ob0 β0 C0 h0 Z0 own0 h σ1 β1 C1 Z1 own1 c β C Z own σ2 c2 (fun ob β C Z => RelL ob β C h Z vs xs)
  | [], σ1, Z1, own1, c, β, C, Z, own, vs, xs, σ2, c2, fl, I, hv, H, hfl => by
    simp only [impAs, Option.some.injEq, Prod.mk.injEq] at H
    obtain ⟨rfl, rfl, rfl, rfl⟩ := H
    exact I.same ⟨hv.1, fun k u x hu hx => by simp at hx⟩
  | a :: l, σ1, Z1, own1, c, β, C, Z, own, vs, xs, σ2, c2, fl, I, hv, H, hfl => by
    simp only [impAs] at H
    split at H
    · rename_i x σ1' c1 f1 h1
      split at H
      · rename_i xs1 σ2' c2' g h2
        simp only [Option.some.injEq, Prod.mk.injEq] at H
        obtain ⟨rfl, rfl, rfl, rfl⟩ := H
        cases vs with
        | nil => have := hv.1; simp at this
        | cons v vs =>
          obtain ⟨Z1', own1', β', C', Z', own', I', m1, mc, hn1, hc1, hx⟩ := impA_ok I (hv.2 0 v a rfl rfl) h1 (fun e => hfl (by rw [e]; rfl))
          obtain ⟨Z1'', own1'', β'', C'', Z'', own'', I'', m1', mc', hn2, hc2, hxs⟩ := impAs_ok l I' (vs := vs) ⟨by have := hv.1; simpa using this, fun k u y hu hy => m1 u y (hv.2 (k + 1) u y (by simpa using hu) (by simpa using hy))⟩ h2 (fun e => hfl (by rw [e]; cases f1 <;> rfl))
          refine ⟨Z1'', own1'', β'', C'', Z'', own'', I'', fun v a h => m1' v a (m1 v a h), fun v a h => mc' v a (mc v a h), Nat.le_trans hn1 hn2, fun o ho => ?_, ?_⟩
          · rcases hc2 o ho with h3 | h3
            · rcases hc1 o h3 with h4 | h4
              · exact .inl h4
              · exact .inr ⟨h4.1, by omega⟩
            · exact .inr ⟨by omega, h3.2⟩
          · refine ⟨by have := hxs.1; simp [this], fun k u y hu hy => ?_⟩
            cases k with
            | zero => simp at hu hy; subst hu; subst hy; exact mc' _ _ hx
            | succ k => exact hxs.2 k u y (by simpa using hu) (by simpa using hy)
      · cases H
    · cases H
theorem impR_ok {σ1 : Sto} {Z1 : Nat → Prop} {own1 : Nat → Option Nat} {c : Sto} {β : Nat → BI} {C Z : Nat → Prop} {own : Nat → Option Nat} {v : Value} {a x : AV} {c2 : Sto} {fl : Bool} (I : Imp base FL ob0 β0 C0 h0 Z0 own0 h σ1 β1 C1 Z1 own1 c β C Z own)
    (hv : AVRel σ1.ob β1 C1 h Z1 v a) (H : impR base σ1 c a = some (x, c2, fl)) (hfl : fl = true → FL = true) :
    ∃ (β' : Nat → BI) (C' Z' : Nat → Prop) (own' : Nat → Option Nat), Mv ob0 β0 C0 h0 Z0 own0 c2.ob β' C' h Z' own' ∧ c.n ≤ c2.n ∧ (∀ o, C' o → C o ∨ (c.n ≤ o ∧ o < c2.n)) ∧ AVRel c2.ob β' C' h Z' v x := by
  unfold impR at H
  split at H
  · rename_i l
    rw [Option.map_eq_some_iff] at H
    obtain ⟨⟨xs, σ2', c2', fl'⟩, h1, h2⟩ := H
    simp only [Prod.mk.injEq] at h2
    obtain ⟨rfl, rfl, rfl⟩ := h2
    cases hv with
    | tup vs _ hs hvv =>
      obtain ⟨Z1', own1', β', C', Z', own', I', m1, mc, hn1, hc1, hx⟩ := impAs_ok l I (vs := vs.toList) ⟨by simpa using hs, fun k u y hu hy => hvv k u y (by simpa using hu) hy⟩ h1 hfl
      exact ⟨β', C', Z', own', I'.A, hn1, hc1, .tup _ _ (by simpa using hx.1) fun k u y hu hy => hx.2 k u y (by simpa using hu) hy⟩
  · rw [Option.map_eq_some_iff] at H
    obtain ⟨⟨xs, σ2', c2', fl'⟩, h1, h2⟩ := H
    simp only [Prod.mk.injEq] at h2
    obtain ⟨rfl, rfl, rfl⟩ := h2
    obtain ⟨Z1', own1', β', C', Z', own', I', m1, mc, hn1, hc1, hx⟩ := impA_ok I hv h1 hfl
    exact ⟨β', C', Z', own', I'.A, hn1, hc1, hx⟩
end
section
variable {ob : Nat → VO} {β : Nat → BI} {C : Nat → Prop} {h h' : Heap} {Z : Nat → Prop} {own : Nat → Option Nat}
/-- Memory grows; some of what is new may be read. -/
theorem Mv.grow (R : Rel ob β C h Z own) (hsz : h.size ≤ h'.size) (hk : ∀ b, b < h.size → h'[b]? = h[b]?) (Y : Nat → Prop) (hY : ∀ b, Y b → h.size ≤ b ∧ b < h'.size) : Mv ob β C h Z own ob β C h' (fun b => Z b ∨ Y b) own := by
  have hZ : ∀ b, Z b → (Z b ∨ Y b) ∧ h'[b]? = h[b]? := fun b hb => ⟨.inl hb, hk b (R.zlt b hb).1⟩
  have hevo : ∀ o, C o → C o ∧ Evo (ob o) (β o) h (ob o) (β o) h' := fun o ho => ⟨ho, R.evoKeep ho fun b hb => hk b (R.own_lt b o hb)⟩
  refine ⟨⟨fun b o hb => Nat.lt_of_lt_of_le (R.own_lt b o hb) hsz, fun b hb => ?_, fun o ho => ObjRel.mono rfl rfl (fun b hb => ⟨hb, hk b (R.own_lt b o hb)⟩) hZ (fun v a => AVRel.mono hZ hevo) (R.objs o ho), R.dead⟩, ⟨hsz, fun b hb _ => hk b hb, fun b o hb => .inl ⟨o, hb⟩, fun b hb => .inl hb, fun b hb => ?_⟩, hevo⟩
  · rcases hb with hb | hb
    · exact ⟨Nat.lt_of_lt_of_le (R.zlt b hb).1 hsz, (R.zlt b hb).2⟩
    · refine ⟨(hY b hb).2, ?_⟩
      cases ho : own b with
      | none => rfl
      | some o => have := R.own_lt b o ho; have := (hY b hb).1; omega
  · rcases hb with hb | hb
    · exact .inl hb
    · exact .inr (.inr (hY b hb).1)
theorem AVRel.cut {n : Nat} {v : Value} {a : AV} {σ1 : Sto} (H : AVRel σ1.ob β C h Z v a) (hc : cleanA n a = true) : AVRel (σ1.cut n).ob β (fun o => C o ∧ o < n) h Z v a := by
  have hob : ∀ o, o < n → (σ1.cut n).ob o = σ1.ob o := fun o ho => if_pos ho
  have key : ∀ {v : Value} {a : AV}, AVRel σ1.ob β C h Z v a → clean1 n a = true → AVRel (σ1.cut n).ob β (fun o => C o ∧ o < n) h Z v a := by
    intro v a H hc
    cases H with
    | t v x hx => exact .t _ _ hx
    | ref o ver p ad l c hcc hx hl0 => have := of_decide_eq_true hc; exact .ref o ver p ad l c ⟨hcc, this⟩ (by rw [hob o this]; exact hx) hl0
    | ptr o off ad hcc hx => have := of_decide_eq_true hc; exact .ptr o off ad ⟨hcc, this⟩ (by rw [hob o this]; exact hx)
    | eptr o ver p i j ad hcc hx => have := of_decide_eq_true hc; exact .eptr o ver p i j ad ⟨hcc, this⟩ (by rw [hob o this]; exact hx)
    | fptr blk off cs e fz cells hz hh hv => exact .fptr blk off cs e fz cells hz hh hv
    | np => exact .np
    | nf => exact .nf
    | undef => exact .undef _
    | _ => cases hc
  cases H with
  | clo f vs caps hs hv =>
    simp only [cleanA, List.all_eq_true] at hc
    exact .clo f vs caps hs fun i v a hi ha => key (hv i v a hi ha) (hc a (List.mem_of_getElem? ha))
  | agg vs cells hs hv =>
    simp only [cleanA, List.all_eq_true] at hc
    exact .agg vs cells hs fun i v a hi ha => key (hv i v a hi ha) (hc a (List.mem_of_getElem? ha))
  | tup => cases hc
  | t v x hx => exact key (.t _ _ hx) hc
  | ref o ver p ad l c hcc hx hl0 => exact key (.ref o ver p ad l c hcc hx hl0) hc
  | ptr o off ad hcc hx => exact key (.ptr o off ad hcc hx) hc
  | eptr o ver p i j ad hcc hx => exact key (.eptr o ver p i j ad hcc hx) hc
  | fptr blk off cs e fz cells hz hh hv => exact key (.fptr blk off cs e fz cells hz hh hv) hc
  | np => exact .np
  | nf => exact .nf
  | undef => exact .undef _
/-- The objects of the function called go out of sight. -/
theorem Mv.cut {β1 : Nat → BI} {σ1 : Sto} {C1 Z1 : Nat → Prop} {own1 : Nat → Option Nat} {n : Nat} (A : Mv ob β C h Z own σ1.ob β1 C1 h' Z1 own1) (hf : ∀ o, n ≤ o → ¬ C o) (hcl : ∀ o, o < n → (σ1.ob o).clean n = true) :
    Mv ob β C h Z own (σ1.cut n).ob β1 (fun o => C1 o ∧ o < n) h' Z1 (fun b => match own1 b with | some o => if o < n then some o else none | none => none) := by
  have hob : ∀ o, o < n → (σ1.cut n).ob o = σ1.ob o := fun o ho => if_pos ho
  have hown : ∀ b o, (match own1 b with | some o => if o < n then some o else none | none => none) = some o ↔ own1 b = some o ∧ o < n := by
    intro b o
    cases own1 b with
    | none => simp
    | some o' =>
      simp only
      split
      · rename_i h1; simp only [Option.some.injEq]; exact ⟨fun e => ⟨e, e ▸ h1⟩, fun e => e.1⟩
      · rename_i h1; simp only [Option.some.injEq]; exact ⟨fun e => (by cases e), fun e => absurd (e.1 ▸ e.2) h1⟩
  refine ⟨⟨fun b o hb => A.rel.own_lt b o ((hown b o).1 hb).1, fun b hb => ⟨(A.rel.zlt b hb).1, by rw [(A.rel.zlt b hb).2]⟩, fun o ho => ?_, fun o ho => ?_⟩, ⟨A.good.sz, A.good.keep, fun b o hb => A.good.ownb b o ((hown b o).1 hb).1, A.good.zin, A.good.zout⟩, fun o ho => ?_⟩
  · have HO := A.rel.objs o ho.1
    have hcl' := hcl o ho.2
    unfold ObjRel at HO ⊢
    rw [hob o ho.2]
    split
    · trivial
    · rename_i cs heq
      rw [heq] at HO hcl'
      obtain ⟨h1, cells, e, h2, h3, h4, h5⟩ := HO
      refine ⟨(hown _ _).2 ⟨h1, ho.2⟩, cells, e, h2, h3, h4, fun j v a hj ha => (h5 j v a hj ha).cut ?_⟩
      simp only [VO.clean, List.all_eq_true] at hcl'
      exact hcl' a (List.mem_of_getElem? ha)
    · rename_i k st sz rows heq
      rw [heq] at HO
      obtain ⟨f, HO⟩ := HO
      exact ⟨f, HO.mono (fun b hb => ⟨(hown _ _).2 ⟨hb, ho.2⟩, rfl⟩) fun i j v t hN => hN.mono fun b hb => ⟨(hown _ _).2 ⟨hb, ho.2⟩, rfl⟩⟩
    · rename_i st sz rows heq
      rw [heq] at HO
      exact ArrG.mono HO (fun b hb => ⟨(hown _ _).2 ⟨hb, ho.2⟩, rfl⟩) fun i j v t hN => hN
    · rename_i st sz rows heq
      rw [heq] at HO
      exact HO
  · by_cases h1 : o < n
    · rw [hob o h1]; exact A.rel.dead o fun h2 => ho ⟨h2, h1⟩
    · exact .inl (if_neg h1)
  · have hlt : o < n := Nat.lt_of_not_le fun h1 => hf o h1 ho
    rw [hob o hlt]
    exact ⟨⟨(A.evo o ho).1, hlt⟩, (A.evo o ho).2⟩
end
/-- An oracle that says what Go does. -/
def OraOk (P : Program) (X : Ora) : Prop := ∀ (f : Nat) (args : List AV) (σ : Sto) (r : AV) (σ' : Sto), X f args σ = some (r, σ') →
  (∃ fn, P.funcs[f]? = some fn ∧ fn.body.isSome = true ∧ (fn.name == "runtime.NumGoroutine") = false) ∧
  ∀ {β : Nat → BI} {C Z : Nat → Prop} {own : Nat → Option Nat} {w : World} {vals : Array Value}, Rel σ.ob β C w.heap Z own → (∀ o, σ.n ≤ o → ¬ C o) → RelL σ.ob β C w.heap Z vals.toList args →
    Calls P f vals w (fun e w' => ∃ val, e = .returned val ∧ Post σ β C w.heap Z own σ' val r w'.heap ∧ Wld w w')
theorem Rel.empty (h : Heap) (Zc : Nat → Prop) (hz : ∀ b, Zc b → b < h.size) (β : Nat → BI) : Rel Sto.e.ob β (fun _ => False) h Zc (fun _ => none) :=
  ⟨fun b o h => (by cases h), fun b hb => ⟨hz b hb, rfl⟩, fun o h => h.elim, fun o _ => .inl rfl⟩
theorem AVRel.ids {ob : Nat → VO} {β : Nat → BI} {C : Nat → Prop} {h : Heap} {Z : Nat → Prop} {v : Value} {a : AV} (H : AVRel ob β C h Z v a) : ∀ o ∈ V.ids a, C o := by
  have key : ∀ {v : Value} {a : AV}, AVRel ob β C h Z v a → ∀ o ∈ ids1 a, C o := by
    intro v a H o ho
    cases H <;> simp [ids1] at ho
    all_goals (subst ho; assumption)
  cases H with
  | clo f vs caps hs hv =>
    intro o ho
    obtain ⟨a, ha, hao⟩ := List.mem_flatMap.1 ho
    obtain ⟨i, hi⟩ := List.getElem?_of_mem ha
    have hil : i < vs.size := by have := getElem?_lt (a := caps.toArray) (by simpa using hi); simp at this; omega
    exact key (hv i _ a (Array.getElem?_eq_getElem hil) hi) o hao
  | agg vs cells hs hv =>
    intro o ho
    obtain ⟨a, ha, hao⟩ := List.mem_flatMap.1 ho
    obtain ⟨i, hi⟩ := List.getElem?_of_mem ha
    have hil : i < vs.size := by have := getElem?_lt (a := cells.toArray) (by simpa using hi); simp at this; omega
    exact key (hv i _ a (Array.getElem?_eq_getElem hil) hi) o hao
  | t v x hx => exact key (.t _ _ hx)
  | ref o ver p ad l c hcc hx hl0 => exact key (.ref o ver p ad l c hcc hx hl0)
  | ptr o off ad hcc hx => exact key (.ptr o off ad hcc hx)
  | eptr o ver p i j ad hcc hx => exact key (.eptr o ver p i j ad hcc hx)
  | fptr blk off cs e fz cells hz hh hv => exact key (.fptr blk off cs e fz cells hz hh hv)
  | np => exact key .np
  | nf => exact key .nf
  | undef => exact key (.undef v)
  | tup vs cells hs hv => intro o ho; simp [V.ids, ids1] at ho
theorem freezeL_box : ∀ (l : List Nat) {σ σ1 : Sto} {o : Nat}, freezeL σ l = some σ1 → isBox (σ.ob o) = true → σ1.ob o = σ.ob o
  | [], σ, σ1, o, H, hb => by cases H; rfl
  | oo :: l, σ, σ1, o, H, hb => by
    simp only [freezeL] at H
    split at H
    · cases H
    rename_i hbox
    rw [Option.bind_eq_some_iff] at H
    obtain ⟨σ2, h1, h2⟩ := H
    have hne : o ≠ oo := fun e => hbox (by rw [← e]; exact hb)
    have hsame : σ2.ob o = σ.ob o := by
      unfold freeze1 at h1
      split at h1
      · cases h1; exact upd_ne _ _ hne
      · cases h1
      · cases h1; exact upd_ne _ _ hne
      · cases h1; rfl
    rw [freezeL_box l h2 (by rw [hsame]; exact hb), hsame]
theorem Rel.kill {ob : Nat → VO} {β : Nat → BI} {C : Nat → Prop} {h : Heap} {Z : Nat → Prop} {own : Nat → Option Nat} (R : Rel ob β C h Z own) (o : Nat) : Rel (upd ob o .dead) β C h Z own ∧ ∀ v a, AVRel ob β C h Z v a → AVRel (upd ob o .dead) β C h Z v a := by
  have hevo1 : ∀ o', C o' → C o' ∧ Evo (ob o') (β o') h (upd ob o .dead o') (β o') h := fun o' ho' => by
    refine ⟨ho', ?_⟩
    by_cases e : o' = o
    · subst e; rw [upd_same]; exact Evo.dead
    · rw [upd_ne _ _ e]; exact .same fun _ _ _ _ _ ha => ha
  have hmono1 : ∀ v a, AVRel ob β C h Z v a → AVRel (upd ob o .dead) β C h Z v a := fun v a => AVRel.mono (fun b hb => ⟨hb, rfl⟩) hevo1
  refine ⟨⟨R.own_lt, R.zlt, fun o' ho' => ?_, fun o' ho' => ?_⟩, hmono1⟩
  · by_cases e : o' = o
    · subst e; unfold ObjRel; rw [upd_same]; trivial
    · exact ObjRel.mono (upd_ne _ _ e) rfl (fun b hb => ⟨hb, rfl⟩) (fun b hb => ⟨hb, rfl⟩) hmono1 (R.objs o' ho')
  · by_cases e : o' = o
    · subst e; exact .inl (upd_same _ _ _)
    · rw [upd_ne _ _ e]; exact R.dead o' ho'
theorem callP_ok {σ σ' : Sto} {f : Nat} {args : List AV} {r : AV} {β : Nat → BI} {C Z : Nat → Prop} {own : Nat → Option Nat} {w : World} {vals : Array Value} (hX : OraOk P X) (R : Rel σ.ob β C w.heap Z own) (hf : ∀ o, σ.n ≤ o → ¬ C o) (hargs : RelL σ.ob β C w.heap Z vals.toList args)
    (H : callP X σ f args = some (r, σ')) : (∃ fn, P.funcs[f]? = some fn ∧ fn.body.isSome = true ∧ (fn.name == "runtime.NumGoroutine") = false) ∧ Calls P f vals w (fun e w' => ∃ val, e = .returned val ∧ Post σ β C w.heap Z own σ' val r w'.heap ∧ Wld w w') := by
  unfold callP at H
  split at H
  · rename_i o rest
    split at H
    · rename_i cs hob
      split at H
      · rename_i l as_ σf hl has hfr
        have hcs := asT_map hl
        subst hcs
        split at H
        · rename_i r1 σ1 hx
          split at H
          · rename_i cs' hob1
            split at H
            · rename_i l' hl'
              have hcs' := asT_map hl'
              subst hcs'
              split at H
              · rename_i v c fl himp
                cases H
                obtain ⟨hfn, hcalls⟩ := hX f _ _ r1 σ1 hx
                obtain ⟨hl1, hget⟩ := mapM_get has
                have hidc : ∀ o ∈ rest.flatMap ids, C o := fun o ho => by
                  obtain ⟨y, hy1, hy2⟩ := List.mem_flatMap.1 ho
                  obtain ⟨k, hk, rfl⟩ := List.mem_iff_getElem.1 hy1
                  exact (hargs.2 (k + 1) (vals.toList[k + 1]'(by rw [hargs.1]; simpa using hk)) _ (List.getElem?_eq_getElem _) (by simp [hk])).ids o hy2
                obtain ⟨en, Zf, ownf, Mf, hbl⟩ := freezeL_ok _ R hidc hfr
                have hv0 : ∃ v0, vals.toList[0]? = some v0 := ⟨vals.toList[0]'(by rw [hargs.1]; simp), List.getElem?_eq_getElem _⟩
                obtain ⟨v0, hv0⟩ := hv0
                have hr0 := hargs.2 0 v0 _ hv0 rfl
                have hp : C o ∧ v0 = .pointer (some ⟨(β o).b, 0, none⟩) := by
                  cases hr0 with
                  | ptr _ _ ad hc hx => exact ⟨hc, by rw [hx _ hob]⟩
                obtain ⟨hC, rfl⟩ := hp
                have hobf : σf.ob o = .box (l.map .t) := (freezeL_box _ hfr (by rw [hob]; rfl)).trans hob
                have HO := Mf.rel.objs o hC
                unfold ObjRel at HO
                rw [hobf] at HO
                obtain ⟨hown, cells, e0, g2, g3, g4, g5⟩ := HO
                have hRe : Rel (Sto.e.new (.box (l.map .t))).ob (upd β 0 (β o)) (fun x => x = 0) w.heap Zf (fun b => if b = (β o).b then some 0 else none) := by
                  refine ⟨fun b x hb => ?_, fun b hb => ⟨(Mf.rel.zlt b hb).1, ?_⟩, fun x hx => ?_, fun x hx => .inl ?_⟩
                  · split at hb
                    · rename_i e; rw [e]; exact Mf.rel.own_lt _ _ hown
                    · cases hb
                  · exact if_neg fun e => by have := (Mf.rel.zlt b hb).2; rw [e, hown] at this; cases this
                  · subst hx
                    unfold ObjRel
                    rw [show (Sto.e.new (.box (l.map .t))).ob 0 = .box (l.map .t) from upd_same Sto.e.ob 0 _, upd_same]
                    refine ⟨if_pos rfl, cells, e0, g2, g3, g4, fun j v a hj ha => ?_⟩
                    have hr := g5 j v a hj ha
                    rw [List.getElem?_map, Option.map_eq_some_iff] at ha
                    obtain ⟨x0, _, rfl⟩ := ha
                    cases hr with
                    | t _ _ hr => exact .t _ _ hr
                  · exact upd_ne _ _ hx
                have hargs' : RelL (Sto.e.new (.box (l.map .t))).ob (upd β 0 (β o)) (fun x => x = 0) w.heap Zf vals.toList (.ptr 0 0 :: as_) := by
                  refine ⟨by rw [hargs.1]; simp [hl1], fun k u x hu hx => ?_⟩
                  cases k with
                  | zero =>
                    rw [hv0] at hu
                    cases hu
                    simp only [List.getElem?_cons_zero, Option.some.injEq] at hx
                    subst hx
                    exact .ptr 0 0 _ rfl fun cs2 _ => by rw [upd_same]
                  | succ k =>
                    simp only [List.getElem?_cons_succ] at hx
                    obtain ⟨y, hy1, hy2⟩ := hget k x hx
                    have hrel := hargs.2 (k + 1) u y hu (by simpa using hy1)
                    have := reify_ok (β' := upd β 0 (β o)) R hrel hy2 Mf.good.zin (.inr fun o ho => ⟨(hbl o (List.mem_flatMap.2 ⟨y, List.mem_of_getElem? hy1, ho⟩)).1, (hbl o (List.mem_flatMap.2 ⟨y, List.mem_of_getElem? hy1, ho⟩)).2 (hrel.ids o ho)⟩)
                    exact this.mono (fun b hb => ⟨hb, rfl⟩) fun o h => h.elim
                refine ⟨hfn, (hcalls hRe (fun o h1 h2 => by rw [h2] at h1; simp [Sto.new, Sto.e] at h1) hargs').mono ?_⟩
                rintro e w' ⟨val, rfl, ⟨β1, C1, Z1, own1, A, hC1, hn1, hv⟩, hwl⟩
                refine ⟨val, rfl, ?_, hwl⟩
                obtain ⟨C10, ev0⟩ := A.evo 0 rfl
                have hβ1 : β1 0 = β o := ((ev0.box _ hob1).2).trans (upd_same _ _ _)
                have O0 := A.rel.objs 0 C10
                unfold ObjRel at O0
                rw [hob1, hβ1] at O0
                obtain ⟨k1, cells1, e1, k2, k3, k4, k5⟩ := O0
                have hnb : ∀ b, Zf b → b ≠ (β o).b := fun b hb e => by have := (Mf.rel.zlt b hb).2; rw [e, hown] at this; cases this
                have hk : ∀ b, b < w.heap.size → b ≠ (β o).b → w'.heap[b]? = w.heap[b]? := fun b hb hne => A.good.keep b hb (if_neg hne)
                have hZ : ∀ b, Zf b → Z1 b ∧ w'.heap[b]? = w.heap[b]? := fun b hb => ⟨A.good.zin b hb, hk b (Mf.rel.zlt b hb).1 (hnb b hb)⟩
                have hob2 : ∀ o' b, o' ≠ o → ownf b = some o' → w'.heap[b]? = w.heap[b]? := fun o' b hne hb => hk b (Mf.rel.own_lt b o' hb) fun e => hne (Option.some.inj (by rw [← hb, e]; exact hown))
                have hz1 : ∀ b, Z1 b → Zf b ∨ w.heap.size ≤ b := fun b hb => by
                  rcases A.good.zout b hb with h1 | ⟨y, hy⟩ | h1
                  · exact .inl h1
                  · split at hy
                    · rename_i e; have := (A.rel.zlt b hb).2; rw [e, k1] at this; cases this
                    · cases hy
                  · exact .inr h1
                have hevo : ∀ o', C o' → C o' ∧ Evo (σf.ob o') (β o') w.heap (upd σf.ob o (.box (l'.map .t)) o') (β o') w'.heap := fun o' ho' => by
                  refine ⟨ho', ?_⟩
                  by_cases e : o' = o
                  · subst e
                    rw [upd_same, hobf]
                    exact ⟨fun p a' ha => by simp [VO.age] at ha, fun p v _ ha _ => by simp [VO.age] at ha, fun cs' h => ⟨⟨_, rfl⟩, rfl⟩⟩
                  · rw [upd_ne _ _ e]; exact Mf.rel.evoKeep ho' fun b hb => hob2 o' b e hb
                have hAV : ∀ v a, AVRel σf.ob β C w.heap Zf v a → AVRel (upd σf.ob o (.box (l'.map .t))) β C w'.heap Z1 v a := fun v a => AVRel.mono hZ hevo
                have hR2 : Rel (upd σf.ob o (.box (l'.map .t))) β C w'.heap Z1 ownf := by
                  refine ⟨fun b x hb => Nat.lt_of_lt_of_le (Mf.rel.own_lt b x hb) A.good.sz, fun b hb => ⟨(A.rel.zlt b hb).1, ?_⟩, fun o' ho' => ?_, fun o' ho' => ?_⟩
                  · rcases hz1 b hb with h1 | h1
                    · exact (Mf.rel.zlt b h1).2
                    · cases ho : ownf b with
                      | none => rfl
                      | some y => have := Mf.rel.own_lt b y ho; omega
                  · by_cases e : o' = o
                    · subst e
                      unfold ObjRel
                      rw [upd_same]
                      refine ⟨hown, cells1, e1, k2, k3, k4, fun j v a hj ha => ?_⟩
                      have hr := k5 j v a hj ha
                      rw [List.getElem?_map, Option.map_eq_some_iff] at ha
                      obtain ⟨x0, _, rfl⟩ := ha
                      cases hr with
                      | t _ _ hr => exact .t _ _ hr
                    · exact ObjRel.mono (upd_ne _ _ e) rfl (fun b hb => ⟨hb, hob2 o' b e hb⟩) hZ hAV (Mf.rel.objs o' ho')
                  · rw [upd_ne _ _ (fun e => ho' (by rw [e]; exact hC))]; exact Mf.rel.dead o' ho'
                have M2 : Mv σf.ob β C w.heap Zf ownf (upd σf.ob o (.box (l'.map .t))) β C w'.heap Z1 ownf :=
                  ⟨hR2, ⟨A.good.sz, fun b hb hn => hk b hb fun e => (by rw [e, hown] at hn; cases hn), fun b x hb => .inl ⟨x, hb⟩, A.good.zin, fun b hb => (hz1 b hb).imp id .inr⟩, hevo⟩
                obtain ⟨hR1, hm1⟩ := A.rel.kill 0
                have I : Imp 0 true σ.ob β C w.heap Z own w'.heap (σ1.set 0 .dead) β1 C1 Z1 own1 (σf.set o (.box (l'.map .t))) β C Z1 ownf := by
                  refine ⟨Mf.trans M2, hR1, fun b x _ hb => ?_, fun b x _ hc hb hd => ⟨?_, fun hz => ?_⟩, fun o' ho' => hf o' ?_, Nat.zero_le _, fun o ho => by omega, fun _ b hb => hb⟩
                  · rcases A.good.ownb b x hb with ⟨y, hy⟩ | h1
                    · split at hy
                      · rename_i e; rw [e]; exact Mf.good.ownb _ _ hown
                      · cases hy
                    · exact .inr h1
                  · rcases A.good.ownb b x hb with ⟨y, hy⟩ | h1
                    · split at hy
                      · rename_i e
                        rw [e, k1] at hb
                        cases hb
                        exact absurd (upd_same σ1.ob 0 .dead) hd
                      · cases hy
                    · cases ho : ownf b with
                      | none => rfl
                      | some y => have := Mf.rel.own_lt b y ho; omega
                  · have := (A.rel.zlt b hz).2; rw [hb] at this; cases this
                  · have h2 : σf.n ≤ o' := ho'
                    omega
                obtain ⟨β', C', Z', own', A', hn, hC', hv'⟩ := impR_ok I (hm1 _ _ hv) himp (fun _ => rfl)
                have hn2 : σf.n ≤ σ'.n := hn
                exact ⟨β', C', Z', own', A', fun o ho => (hC' o ho).imp id fun h => ⟨by have h3 : σf.n ≤ o := h.1; omega, h.2⟩, by omega, hv'⟩
              · cases H
            · cases H
          · cases H
        · cases H
      · cases H
    · cases H
  · cases H
theorem callV_ok {σ σ' : Sto} {f : Nat} {args : List AV} {r : AV} {β : Nat → BI} {C Z : Nat → Prop} {own : Nat → Option Nat} {w : World} {vals : Array Value} (hX : OraOk P X) (R : Rel σ.ob β C w.heap Z own) (hf : ∀ o, σ.n ≤ o → ¬ C o) (hargs : RelL σ.ob β C w.heap Z vals.toList args)
    (H : callV M X σ f args = some (r, σ')) : (∃ fn, P.funcs[f]? = some fn ∧ fn.body.isSome = true ∧ (fn.name == "runtime.NumGoroutine") = false) ∧ Calls P f vals w (fun e w' => ∃ val, e = .returned val ∧ Post σ β C w.heap Z own σ' val r w'.heap ∧ Wld w w') := by
  unfold callV at H
  split at H
  · -- over the caller's store
    split at H
    · exact callP_ok hX R hf hargs H
    split at H
    · rename_i r1 σ1 hx
      split at H
      · cases H
        obtain ⟨hfn, hcalls⟩ := hX f args σ _ _ hx
        exact ⟨hfn, hcalls R hf hargs⟩
      split at H
      · rename_i hclean
        split at H
        · rename_i v c fl himp
          cases H
          obtain ⟨hfn, hcalls⟩ := hX f args σ r1 σ1 hx
          refine ⟨hfn, (hcalls R hf hargs).mono ?_⟩
          rintro e w' ⟨val, rfl, ⟨β1, C1, Z1, own1, A, hC1, hn1, hv⟩, hwl⟩
          refine ⟨val, rfl, ?_, hwl⟩
          have hcl : ∀ o, o < σ.n → (σ1.ob o).clean σ.n = true := by
            intro o ho
            rw [List.all_eq_true] at hclean
            exact hclean o (List.mem_range.2 ho)
          have Ac := A.cut hf hcl
          have I : Imp σ.n true σ.ob β C w.heap Z own w'.heap σ1 β1 C1 Z1 own1 (σ1.cut σ.n) β1 (fun o => C1 o ∧ o < σ.n) Z1 (fun b => match own1 b with | some o => if o < σ.n then some o else none | none => none) := by
            refine ⟨Ac, A.rel, fun b o _ hb => A.good.ownb b o hb, fun b o hbo hc hb _ => ⟨?_, fun hz => ?_⟩, fun o ho h1 => ?_, Nat.le_refl _, fun o ho hc => ⟨⟨hc, ho⟩, if_pos ho, rfl⟩, fun _ _ h => h⟩
            · rw [hb]; simp only; rw [if_neg (by omega)]
            · have := (A.rel.zlt b hz).2; rw [hb] at this; cases this
            · have : σ.n ≤ o := ho
              omega
          obtain ⟨β', C', Z', own', A', hn, hC', hv'⟩ := impR_ok I hv himp (fun _ => rfl)
          refine ⟨β', C', Z', own', A', fun o ho => ?_, hn, hv'⟩
          rcases hC' o ho with h1 | h1
          · rcases hC1 o h1.1 with h2 | h2
            · exact .inl h2
            · omega
          · exact .inr h1
        · cases H
      · cases H
    · cases H
  · -- over an empty one
    split at H
    · rename_i as_ has
      split at H
      · rename_i r1 σ1 hx
        obtain ⟨hfn, hcalls⟩ := hX f as_ Sto.e r1 σ1 hx
        obtain ⟨hl1, hget⟩ := mapM_get has
        split at H
        · rename_i v0 c0 himp0
          split at H
          · rename_i σf hfr
            rw [Option.map_eq_some_iff] at H
            obtain ⟨⟨v1, c1, fl1⟩, himp, he⟩ := H
            simp only [Prod.mk.injEq] at he
            obtain ⟨rfl, rfl⟩ := he
            have hidc : ∀ o ∈ args.flatMap ids, C o := fun o ho => by
              obtain ⟨y, hy1, hy2⟩ := List.mem_flatMap.1 ho
              obtain ⟨k, hk, rfl⟩ := List.mem_iff_getElem.1 hy1
              exact (hargs.2 k (vals.toList[k]'(by rw [hargs.1]; exact hk)) _ (List.getElem?_eq_getElem _) (List.getElem?_eq_getElem hk)).ids o hy2
            obtain ⟨en, Zf, ownf, Mf, hbl⟩ := freezeL_ok _ R hidc hfr
            have hRe := Rel.empty w.heap Zf (fun b hb => (Mf.rel.zlt b hb).1) β
            have hargs' : RelL Sto.e.ob β (fun _ => False) w.heap Zf vals.toList as_ := by
              refine ⟨by rw [hargs.1, hl1], fun k u x hu hx => ?_⟩
              obtain ⟨y, hy1, hy2⟩ := hget k x hx
              have hrel := hargs.2 k u y hu hy1
              exact reify_ok R hrel hy2 Mf.good.zin (.inr fun o ho => ⟨(hbl o (List.mem_flatMap.2 ⟨y, List.mem_of_getElem? hy1, ho⟩)).1, (hbl o (List.mem_flatMap.2 ⟨y, List.mem_of_getElem? hy1, ho⟩)).2 (hrel.ids o ho)⟩)
            refine ⟨hfn, (hcalls hRe (fun _ _ h => h) hargs').mono ?_⟩
            rintro e w' ⟨val, rfl, ⟨β1, C1, Z1, own1, A, hC1, hn1, hv⟩, hwl⟩
            refine ⟨val, rfl, ?_, hwl⟩
            have hk : ∀ b, b < w.heap.size → w'.heap[b]? = w.heap[b]? := fun b hb => A.good.keep b hb rfl
            have Mg := Mv.grow Mf.rel A.good.sz hk (fun b => w.heap.size ≤ b ∧ Z1 b) (fun b hb => ⟨hb.1, (A.rel.zlt b hb.2).1⟩)
            have hge : ∀ b o, own1 b = some o → w.heap.size ≤ b := fun b o hb => by
              rcases A.good.ownb b o hb with ⟨y, hy⟩ | h1
              · cases hy
              · exact h1
            have I : Imp 0 true σ.ob β C w.heap Z own w'.heap σ1 β1 C1 Z1 own1 σf β C (fun b => Zf b ∨ (w.heap.size ≤ b ∧ Z1 b)) ownf := by
              refine ⟨Mf.trans Mg, A.rel, fun b o _ hb => .inr (hge b o hb), fun b o _ hc hb _ => ⟨?_, fun hz => ?_⟩, fun o ho => hf o (by omega), Nat.zero_le _, fun o ho => by omega, fun _ b hb => ?_⟩
              · cases ho : ownf b with
                | none => rfl
                | some y => have := Mf.rel.own_lt b y ho; have := hge b o hb; omega
              · rcases hz with hz | hz
                · have := (Mf.rel.zlt b hz).1; have := hge b o hb; omega
                · have := (A.rel.zlt b hz.2).2; rw [hb] at this; cases this
              · rcases A.good.zout b hb with h1 | ⟨y, hy⟩ | h1
                · exact .inl h1
                · cases hy
                · exact .inr ⟨h1, hb⟩
            obtain ⟨β', C', Z', own', A', hn, hC', hv'⟩ := impR_ok I hv himp (fun _ => rfl)
            exact ⟨β', C', Z', own', A', fun o ho => (hC' o ho).imp id fun h => ⟨by omega, h.2⟩, by omega, hv'⟩
          · cases H
        · rename_i v0 c0 himp
          cases H
          have hRe := Rel.empty w.heap (fun b => Z b ∨ ∃ o, own b = some o) (fun b hb => hb.elim (fun h => (R.zlt b h).1) fun ⟨o, h⟩ => R.own_lt b o h) β
          have hargs' : RelL Sto.e.ob β (fun _ => False) w.heap (fun b => Z b ∨ ∃ o, own b = some o) vals.toList as_ := by
            refine ⟨by rw [hargs.1, hl1], fun k u x hu hx => ?_⟩
            obtain ⟨y, hy1, hy2⟩ := hget k x hx
            exact reify_ok R (hargs.2 k u y hu hy1) hy2 (fun b hb => .inl hb) (.inl fun b o hb => .inr ⟨o, hb⟩)
          refine ⟨hfn, (hcalls hRe (fun _ _ h => h) hargs').mono ?_⟩
          rintro e w' ⟨val, rfl, ⟨β1, C1, Z1, own1, A, hC1, hn1, hv⟩, hwl⟩
          refine ⟨val, rfl, ?_, hwl⟩
          have hk : ∀ b, b < w.heap.size → w'.heap[b]? = w.heap[b]? := fun b hb => A.good.keep b hb rfl
          have Mg := Mv.grow R A.good.sz hk (fun _ => False) (fun b hb => hb.elim)
          have hge : ∀ b o, own1 b = some o → w.heap.size ≤ b := fun b o hb => by
            rcases A.good.ownb b o hb with ⟨y, hy⟩ | h1
            · cases hy
            · exact h1
          have I : Imp 0 false σ.ob β C w.heap Z own w'.heap σ1 β1 C1 Z1 own1 σ β C (fun b => Z b ∨ False) own := by
            refine ⟨Mg, A.rel, fun b o _ hb => .inr (hge b o hb), fun b o _ hc hb _ => ⟨?_, fun hz => ?_⟩, hf, Nat.zero_le _, fun o ho => by omega, fun h => by cases h⟩
            · cases ho : own b with
              | none => rfl
              | some y => have := R.own_lt b y ho; have := hge b o hb; omega
            · rcases hz with hz | hz
              · have := (R.zlt b hz).1; have := hge b o hb; omega
              · exact hz
          obtain ⟨β', C', Z', own', A', hn, hC', hv'⟩ := impR_ok I hv himp (fun h => by cases h)
          exact ⟨β', C', Z', own', A', hC', hn, hv'⟩
        · cases H
      · cases H
    · cases H
end Go.Proofs.YtpdpgfagklhpaaaGreat.V

namespace Go.Proofs.YtpdpgfagklhpaaaGreat.V
open Go
set_option linter.unusedVariables false
set_option linter.unusedSimpArgs false
def loopV (f : VS → Option (VX × VS)) : Nat → VS → Option (VX × VS)
  | 0, _ => none
  | n + 1, s => match f s with
    | some (.normal, s1) => loopV f n s1
    | r => r
/-- Regions whose order is left open are taken as this function has them. -/
abbrev Drw := Array Oper → VS → Option VS
def execV (P : Program) (M : Nat → Bool) (D : Ora → Drw) (X : Ora) (n : Nat) : Code → VS → Option (VX × VS)
  | .skip, s => some (.normal, s)
  | .region _ ops false, s => (opsV P M X ops ops.toList s).map fun s => (.normal, s)
  | .region _ ops true, s => (D X ops s).map fun s => (.normal, s)
  | .seq a b, s => match execV P M D X n a s with
    | some (.normal, s1) => execV P M D X n b s1
    | r => r
  | .cond c a b, s => match evalO s.tm c with
    | some (.t (.b x)) => if x then execV P M D X n a s else execV P M D X n b s
    | _ => none
  | .block id c, s => match execV P M D X n c s with
    | some (.exit id', s1) => if id' = id then some (.normal, s1) else some (.exit id', s1)
    | r => r
  | .loop c, s => loopV (execV P M D X n c) n s
  | .exit id, s => some (.exit id, s)
  | .ret, s => some (.ret, s)
  | _, _ => none
def resV1 (P : Program) (tm : Nat → AV) (σ : Sto) : ResultVar → Option AV
  | .tmp t => some (tm t)
  | .cell a t => match aggT P t, szOf P t with
    | some true, some n => (loadV σ (tm a) n).map .agg
    | some false, _ => match loadV σ (tm a) 1 with
      | some [c] => some c
      | _ => none
    | _, _ => none
def resV (P : Program) (rs : Array ResultVar) (tm : Nat → AV) (σ : Sto) : Option AV :=
  match rs.toList.mapM (resV1 P tm σ) with
  | some [v] => some v
  | some l => some (.tup l)
  | none => none
abbrev Giv := Nat → Option (List AV → Sto → Option (AV × Sto))
def bodyV (P : Program) (M : Nat → Bool) (D : Ora → Drw) (X : Ora) (n : Nat) (fn : Func) (c : Code) (args : List AV) (σ : Sto) : Option (AV × Sto) :=
  if args.length ≤ fn.ntmps then
    match execV P M D X n c ⟨fn.ntmps, fun i => args.getD i .undef, σ⟩ with
    | some (.normal, s) => (resV P fn.results s.tm s.σ).map fun v => (v, s.σ)
    | some (.ret, s) => (resV P fn.results s.tm s.σ).map fun v => (v, s.σ)
    | _ => none
  else none
def runV (P : Program) (M : Nat → Bool) (D : Ora → Drw) (G : Giv) : Nat → Ora
  | 0 => fun _ _ _ => none
  | k + 1 => fun f args σ => match G f with
    | some g => g args σ
    | none => match P.funcs[f]? with
      | some fn => if fn.name == "runtime.NumGoroutine" then none else
        match fn.body with
        | some c => bodyV P M D (runV P M D G k) k fn c args σ
        | none => none
      | none => none
variable {P : Program} {M : Nat → Bool} {X : Ora}
section
variable {σ σ' : Sto} {tm : Nat → AV} {o : Oper} {a : Act} {w : World} {v : AV} {β : Nat → BI} {C Z : Nat → Prop} {own : Nat → Option Nat}
theorem op_call {c : Go.Call} {f : Operand} (ho : o.op = .call c) (hcal : c.callee = .value f) (hX : OraOk P X) (R : Rel σ.ob β C w.heap Z own) (hf : ∀ o, σ.n ≤ o → ¬ C o) (hT : RelT σ.ob β C w.heap Z a tm)
    (H : opV P M X tm σ o = some (v, σ')) : OpOk P σ β C Z own o a w v σ' := by
  simp only [opV, ho] at H
  split at H
  · rename_i as_ has
    rw [hcal] at H
    simp only at H
    obtain ⟨hlen, hrel⟩ := mapM_evalO hT _ _ has
    split at H
    · rename_i g caps hg
      have hfr := evalO_ok hT hg
      generalize hz : a.eval f = z at hfr
      cases hfr with
      | clo _ vs _ hs hv =>
        have hargs : RelL σ.ob β C w.heap Z (c.args.map a.eval ++ vs).toList (as_ ++ caps) := by
          refine ⟨by simp [hs] at hlen ⊢; omega, fun k u x hu hx => ?_⟩
          have hl : (c.args.map a.eval).toList.length = as_.length := by simpa using hlen
          rw [Array.toList_append, List.getElem?_append] at hu
          rw [List.getElem?_append] at hx
          split at hu
          · rename_i h1
            rw [if_pos (by omega)] at hx
            exact hrel k u x (by simpa using hu) hx
          · rename_i h1
            rw [if_neg (by omega), ← hl] at hx
            exact hv _ u x (by simpa using hu) hx
        obtain ⟨⟨fn, hfn, hbody, hname⟩, hcalls⟩ := callV_ok (M := M) hX R hf hargs H
        have hrun : (execOp a.eval o).run P w = .ok (.enter g (c.args.map a.eval ++ vs)) w := by
          cases hb : fn.body with
          | none => rw [hb] at hbody; cases hbody
          | some code =>
            have hname' : ¬ fn.name = "runtime.NumGoroutine" := by simpa using hname
            simp [execOp, ho, resolve, hcal, Deferred.ofValue, hz, invoke, callFunc, hfn, hname', hb]
        intro K Q hK
        unfold Oper.wp
        rw [hrun]
        simp only [Oper.upon]
        refine hcalls.mono ?_
        rintro e w' ⟨val, rfl, hp, hwl⟩
        exact hK val w' hp hwl
    · cases H
  · cases H
theorem opV_ok (hX : OraOk P X) (R : Rel σ.ob β C w.heap Z own) (hf : ∀ o, σ.n ≤ o → ¬ C o) (hT : RelT σ.ob β C w.heap Z a tm) (H : opV P M X tm σ o = some (v, σ')) : OpOk P σ β C Z own o a w v σ' := by
  cases ho : o.op with
  | move x => exact op_move (.inl ho) R hT (by simpa only [opV, ho] using H)
  | assign x => exact op_move (.inr ho) R hT (by simpa only [opV, ho] using H)
  | pick c x y => exact op_pick ho R hT H
  | alloc t => exact op_alloc ho R (hf _ (Nat.le_refl _)) H
  | box t x => exact op_box ho R hf hT H
  | build t parts => exact op_build ho R hT H
  | buildSlice t len parts => exact op_buildSlice ho R (hf _ (Nat.le_refl _)) hT H
  | load t x => exact op_load ho R hT H
  | store t x y => exact op_store ho R (hf _ (Nat.le_refl _)) hT H
  | nilCheck x => exact op_nilCheck ho R hT H
  | binOp op t x y u => exact op_binOp ho R hT H
  | unOp op t x => exact op_unOp ho R hT H
  | convert s d x => exact op_convert ho R hT H
  | makeFunc fn first caps => exact op_makeFunc ho R hT H
  | makeSlice t l c => exact op_makeSlice ho R hf hT H
  | slice t x lo hi mx => exact op_slice ho R hT H
  | fieldAddr s x f => exact op_fieldAddr ho R hT H
  | field s x f => exact op_field ho R hT H
  | indexAddr t x i => exact op_indexAddr ho R hT H
  | index t x i => exact op_index ho R hT H
  | extract x i => exact op_extract ho R hT H
  | call c =>
    cases hc : c.callee with
    | value f => exact op_call ho hc hX R hf hT H
    | invoke r m => simp only [opV, ho, hc] at H; split at H <;> cases H
    | builtin b =>
      cases b with
      | append => exact op_append (as_ := []) ho hc R hf hT H
      | len => exact op_len ho hc R hT H
      | max => exact op_max ho hc R hT H
      | min => exact op_min ho hc R hT H
      | _ => simp only [opV, ho, hc] at H; split at H <;> cases H
  | _ => simp [opV, ho] at H
end
/-- What is known in the middle of a function. -/
def Inv (σ0 : Sto) (β0 : Nat → BI) (C0 : Nat → Prop) (h0 : World) (Z0 : Nat → Prop) (own0 : Nat → Option Nat) (s : VS) (a : Act) (w : World) : Prop :=
  ∃ (β : Nat → BI) (C Z : Nat → Prop) (own : Nat → Option Nat), Mv σ0.ob β0 C0 h0.heap Z0 own0 s.σ.ob β C w.heap Z own ∧ (∀ o, C o → C0 o ∨ (σ0.n ≤ o ∧ o < s.σ.n)) ∧ σ0.n ≤ s.σ.n ∧ RelT s.σ.ob β C w.heap Z a s.tm ∧ a.tmps.size = s.nt ∧ a.defers = [] ∧ Wld h0 w
section
variable {σ0 : Sto} {β0 : Nat → BI} {C0 : Nat → Prop} {h0 : World} {Z0 : Nat → Prop} {own0 : Nat → Option Nat}
theorem putV_ok {s s' : VS} {a : Act} {σ' : Sto} {d : Option Tmp} {v : AV} {val : Value} {β C Z own} {w' : World} (hsz : a.tmps.size = s.nt) (hdf : a.defers = [] ∧ Wld h0 w') (hT : RelT σ'.ob β C w'.heap Z a s.tm) (hv : AVRel σ'.ob β C w'.heap Z val v) (H : putV s d v σ' = some s')
    (A : Mv σ0.ob β0 C0 h0.heap Z0 own0 σ'.ob β C w'.heap Z own) (hC : ∀ o, C o → C0 o ∨ (σ0.n ≤ o ∧ o < σ'.n)) (hn : σ0.n ≤ σ'.n) : Inv σ0 β0 C0 h0 Z0 own0 s' (a.put d val) w' := by
  unfold putV at H
  split at H
  · cases H
    exact ⟨β, C, Z, own, A, hC, hn, hT, hsz, hdf⟩
  · rename_i d
    split at H
    · rename_i hlt
      cases H
      refine ⟨β, C, Z, own, A, hC, hn, fun x => ?_, by simp [Act.put, hsz], hdf⟩
      simp only [Act.put]
      by_cases e : x = d
      · subst e
        rw [upd_same]
        have : (a.tmps.setIfInBounds x val).getD x Go.undef = val := by
          simp [Array.getD_eq_getD_getElem?, Array.getElem?_setIfInBounds, hsz, hlt]
        rw [this]; exact hv
      · rw [upd_ne _ _ e]
        have : (a.tmps.setIfInBounds d val).getD x Go.undef = a.tmps.getD x Go.undef := by
          have e2 : ¬ d = x := fun h => e h.symm
          simp [Array.getD_eq_getD_getElem?, Array.getElem?_setIfInBounds, e2]
        rw [this]; exact hT x
    · cases H
theorem wantV_ok {ops : Array Oper} {tm : Nat → AV} {o : Oper} {a : Act} {b : Bool} {ob : Nat → VO} {β : Nat → BI} {C : Nat → Prop} {h : Heap} {Z : Nat → Prop} (hT : RelT ob β C h Z a tm) (H : wantV ops tm o = some b) : Region.wanted o (yielded ops a.tmps) = b := by
  unfold wantV at H
  unfold Region.wanted
  split at H
  · rename_i hg; cases H; rw [hg]
  · rename_i j w0 hg
    rw [hg]
    split at H
    · rename_i x hx
      cases H
      rw [Option.map_eq_some_iff] at hx
      obtain ⟨d, hd, hx⟩ := hx
      have hr := hT d
      rw [hx] at hr
      have hb := hr.tInv
      have hlt : d < a.tmps.size := by
        rcases Nat.lt_or_ge d a.tmps.size with h1 | h1
        · exact h1
        · have : a.tmps.getD d Go.undef = Go.undef := by simp [Array.getD_eq_getD_getElem?, Array.getElem?_eq_none h1]
          rw [this] at hb
          cases hb
      have hg2 : a.tmps[d]? = some (.bool x) := by
        have h2 : a.tmps.getD d Go.undef = a.tmps[d] := by simp [Array.getD_eq_getD_getElem?, Array.getElem?_eq_getElem hlt]
        rw [h2] at hb
        generalize hz : a.tmps[d] = z at hb
        cases hb
        rw [Array.getElem?_eq_getElem hlt, hz]
      simp only [yielded, hd, Option.bind_some, hg2]
      cases x <;> cases w0 <;> rfl
    · rename_i hx
      cases H
      rw [Option.map_eq_some_iff] at hx
      obtain ⟨d, hd, hx⟩ := hx
      have hr := hT d
      rw [hx] at hr
      have hv : a.tmps.getD d Go.undef = Go.undef := by
        generalize a.tmps.getD d Go.undef = z at hr
        cases hr with
        | tup vs cells hs hv =>
          have : vs = #[] := Array.eq_empty_of_size_eq_zero (by simpa using hs)
          rw [this]; rfl
      have hy : yielded ops a.tmps j = none := by
        unfold yielded
        rw [hd]
        simp only [Option.bind_some]
        rcases Nat.lt_or_ge d a.tmps.size with h1 | h1
        · have h2 : a.tmps.getD d Go.undef = a.tmps[d] := by simp [Array.getD_eq_getD_getElem?, Array.getElem?_eq_getElem h1]
          rw [Array.getElem?_eq_getElem h1, ← h2, hv]; rfl
        · rw [Array.getElem?_eq_none h1]
      simp only [hy]
      cases w0 <;> rfl
    · cases H
theorem stepV_ok {ops : Array Oper} {s s' : VS} {o : Oper} {a : Act} {w : World} {K : Act → World → Prop} {Q : Exit → Act → World → Prop} (hX : OraOk P X) (hf0 : ∀ o, σ0.n ≤ o → ¬ C0 o) (I : Inv σ0 β0 C0 h0 Z0 own0 s a w) (H : stepV P M X ops s o = some s')
    (hK : ∀ a' w', Inv σ0 β0 C0 h0 Z0 own0 s' a' w' → K a' w') : if Region.wanted o (yielded ops a.tmps) then o.wp P a w K Q else K (a.put o.dst Go.undef) w := by
  obtain ⟨β, C, Z, own, A, hC, hn, hT, hsz, hdf⟩ := I
  unfold stepV at H
  split at H
  · rename_i hw
    rw [if_pos (wantV_ok hT hw)]
    split at H
    · rename_i v σ' hop
      have hf : ∀ o, s.σ.n ≤ o → ¬ C o := fun o ho hc => (hC o hc).elim (fun h => hf0 o (by omega) h) fun h => by omega
      refine opV_ok hX A.rel hf hT hop K Q fun val w' hp hwl => hK _ _ ?_
      obtain ⟨β', C', Z', own', A', hC', hn', hv⟩ := hp
      refine putV_ok hsz ⟨hdf.1, hdf.2.trans hwl⟩ (fun x => A'.av A.rel (hT x)) hv H (A.trans A') (fun o ho => ?_) (by omega)
      rcases hC' o ho with h1 | h1
      · rcases hC o h1 with h2 | h2
        · exact .inl h2
        · exact .inr ⟨h2.1, by omega⟩
      · exact .inr ⟨by omega, h1.2⟩
    · cases H
  · rename_i hw
    rw [if_neg (by rw [wantV_ok hT hw]; simp)]
    exact hK _ _ (putV_ok hsz hdf hT (.tup #[] [] rfl fun i v a hi => by simp at hi) H A hC hn)
  · cases H
theorem opsV_ok (hX : OraOk P X) (hf0 : ∀ o, σ0.n ≤ o → ¬ C0 o) {ops : Array Oper} {Q : Exit → Act → World → Prop} : ∀ (l : List Oper) {s s' : VS} {a : Act} {w : World}, Inv σ0 β0 C0 h0 Z0 own0 s a w → opsV P M X ops l s = some s' →
    (∀ a' w', Inv σ0 β0 C0 h0 Z0 own0 s' a' w' → Q .normal a' w') → wpList P ops Q l a w
  | [], s, s', a, w, I, H, hQ => by
    simp only [opsV, Option.some.injEq] at H
    subst H
    exact hQ a w I
  | o :: l, s, s', a, w, I, H, hQ => by
    simp only [opsV] at H
    split at H
    · rename_i s1 h1
      refine wpList_step fun K hK => ?_
      exact stepV_ok hX hf0 I h1 fun a' w' I' => hK _ _ (opsV_ok hX hf0 l I' H hQ)
    · cases H
def exitOf : VX → Exit
  | .normal => .normal
  | .exit id => .exit id
  | .ret => .ret
/-- What a taking of regions has to do. -/
def DrwOk (P : Program) (X : Ora) (D : Drw) : Prop := ∀ {σ0 : Sto} {β0 : Nat → BI} {C0 : Nat → Prop} {h0 : World} {Z0 : Nat → Prop} {own0 : Nat → Option Nat} {id : Nat} {ops : Array Oper} {s s' : VS} {a : Act} {w : World} {Q : Exit → Act → World → Prop},
  (∀ o, σ0.n ≤ o → ¬ C0 o) → Inv σ0 β0 C0 h0 Z0 own0 s a w → D ops s = some s' → (∀ a' w', Inv σ0 β0 C0 h0 Z0 own0 s' a' w' → Q .normal a' w') → (Code.region id ops true).wp P Q a w
theorem least {p : Nat → Prop} (h : ∃ k, p k) : ∃ k, p k ∧ ∀ j, p j → k ≤ j := by
  obtain ⟨k, hk⟩ := h
  induction k using Nat.strongRecOn with
  | _ k ih =>
    by_cases h2 : ∃ j, j < k ∧ p j
    · obtain ⟨j, h3, h4⟩ := h2; exact ih j h3 h4
    · exact ⟨k, hk, fun j hj => Nat.le_of_not_lt fun h3 => h2 ⟨j, h3, hj⟩⟩
theorem loopV_ok {c : Code} {f : VS → Option (VX × VS)} {Q : Exit → Act → World → Prop} (hc : ∀ {s s1 : VS} {x : VX} {a : Act} {w : World} {Q : Exit → Act → World → Prop}, Inv σ0 β0 C0 h0 Z0 own0 s a w → f s = some (x, s1) → (∀ a' w', Inv σ0 β0 C0 h0 Z0 own0 s1 a' w' → Q (exitOf x) a' w') → c.wp P Q a w)
    {n : Nat} {s s' : VS} {x : VX} {a : Act} {w : World} (I : Inv σ0 β0 C0 h0 Z0 own0 s a w) (H : loopV f n s = some (x, s')) (hQ : ∀ a' w', Inv σ0 β0 C0 h0 Z0 own0 s' a' w' → Q (exitOf x) a' w') : (Code.loop c).wp P Q a w := by
  classical
  let J : Nat → Act → World → Prop := fun k a w => ∃ s, loopV f k s = some (x, s') ∧ Inv σ0 β0 C0 h0 Z0 own0 s a w
  let μ : Act → World → Nat := fun a w => if h : ∃ k, J k a w then (least h).choose else 0
  have hμ : ∀ k a w, J k a w → J (μ a w) a w ∧ μ a w ≤ k := fun k a w h => by
    have hex : ∃ k, J k a w := ⟨k, h⟩
    simp only [μ, dif_pos hex]
    exact ⟨(least hex).choose_spec.1, (least hex).choose_spec.2 k h⟩
  refine wp_loop (fun a w => ∃ k, J k a w) μ ⟨n, s, H, I⟩ fun a w ⟨k, hk⟩ => ?_
  obtain ⟨⟨s, hl, I⟩, _⟩ := hμ k a w hk
  generalize hm : μ a w = m at hl
  cases m with
  | zero => simp [loopV] at hl
  | succ m =>
    simp only [loopV] at hl
    split at hl
    · rename_i s1 h1
      refine hc I h1 fun a' w' I' => ?_
      have hJ : J m a' w' := ⟨s1, hl, I'⟩
      refine ⟨⟨m, hJ⟩, ?_⟩
      have := (hμ m a' w' hJ).2
      have h5 : μ a w = m + 1 := hm
      show μ a' w' < _
      omega
    · rename_i hne
      refine hc I hl fun a' w' I' => ?_
      cases x with
      | normal => exact absurd hl (hne s')
      | exit id => exact hQ a' w' I'
      | ret => exact hQ a' w' I'
theorem execV_ok {D : Ora → Drw} (hX : OraOk P X) (hD : DrwOk P X (D X)) (hf0 : ∀ o, σ0.n ≤ o → ¬ C0 o) {n : Nat} : ∀ (c : Code) {s s' : VS} {x : VX} {a : Act} {w : World} {Q : Exit → Act → World → Prop}, Inv σ0 β0 C0 h0 Z0 own0 s a w → execV P M D X n c s = some (x, s') →
    (∀ a' w', Inv σ0 β0 C0 h0 Z0 own0 s' a' w' → Q (exitOf x) a' w') → c.wp P Q a w := by
  intro c
  induction c with
  | skip => intro s s' x a w Q I H hQ; simp only [execV, Option.some.injEq, Prod.mk.injEq] at H; obtain ⟨rfl, rfl⟩ := H; exact wp_skip (hQ a w I)
  | region id ops draw =>
    intro s s' x a w Q I H hQ
    cases draw with
    | false =>
      simp only [execV, Option.map_eq_some_iff, Prod.mk.injEq] at H
      obtain ⟨s1, h1, rfl, rfl⟩ := H
      exact wp_region_list (opsV_ok hX hf0 _ I h1 hQ)
    | true =>
      simp only [execV, Option.map_eq_some_iff, Prod.mk.injEq] at H
      obtain ⟨s1, h1, rfl, rfl⟩ := H
      exact hD hf0 I h1 hQ
  | seq c1 c2 ih1 ih2 =>
    intro s s' x a w Q I H hQ
    simp only [execV] at H
    split at H
    · rename_i s1 h1
      exact wp_seq (ih1 I h1 fun a' w' I' => ih2 I' H hQ)
    · rename_i hne
      refine wp_seq (ih1 I H fun a' w' I' => ?_)
      cases x with
      | normal => exact absurd H (hne s')
      | exit id => exact hQ a' w' I'
      | ret => exact hQ a' w' I'
  | cond c c1 c2 ih1 ih2 =>
    intro s s' x a w Q I H hQ
    simp only [execV] at H
    split at H
    · rename_i b hb
      obtain ⟨β, C, Z, own, A, hC, hn, hT, hsz, hdf⟩ := I
      have hr := (evalO_ok hT hb).tInv
      generalize hz : a.eval c = z at hr
      cases hr
      refine wp_cond hz ?_
      cases b with
      | true => exact ih1 ⟨β, C, Z, own, A, hC, hn, hT, hsz, hdf⟩ H hQ
      | false => exact ih2 ⟨β, C, Z, own, A, hC, hn, hT, hsz, hdf⟩ H hQ
    · cases H
  | block id c ih =>
    intro s s' x a w Q I H hQ
    simp only [execV] at H
    split at H
    · rename_i id' s1 h1
      refine wp_block (ih I h1 fun a' w' I' => ?_)
      simp only [exitOf, Exit.inBlock]
      split at H
      · rename_i e
        simp only [Option.some.injEq, Prod.mk.injEq] at H
        obtain ⟨rfl, rfl⟩ := H
        rw [if_pos e]; exact hQ a' w' I'
      · rename_i e
        simp only [Option.some.injEq, Prod.mk.injEq] at H
        obtain ⟨rfl, rfl⟩ := H
        rw [if_neg e]; exact hQ a' w' I'
    · rename_i hne
      refine wp_block (ih I H fun a' w' I' => ?_)
      cases x with
      | normal => exact hQ a' w' I'
      | exit id => exact absurd H (hne id s')
      | ret => exact hQ a' w' I'
  | loop c ih =>
    intro s s' x a w Q I H hQ
    simp only [execV] at H
    exact loopV_ok (fun I h hQ => ih I h hQ) I H hQ
  | exit id => intro s s' x a w Q I H hQ; simp only [execV, Option.some.injEq, Prod.mk.injEq] at H; obtain ⟨rfl, rfl⟩ := H; exact wp_exit (hQ a w I)
  | ret => intro s s' x a w Q I H hQ; simp only [execV, Option.some.injEq, Prod.mk.injEq] at H; obtain ⟨rfl, rfl⟩ := H; exact wp_ret (hQ a w I)
  | _ => intro s s' x a w Q I H hQ; simp [execV] at H
end
end Go.Proofs.YtpdpgfagklhpaaaGreat.V

namespace Go.Proofs.YtpdpgfagklhpaaaGreat.V
open Go
set_option linter.unusedVariables false
set_option linter.unusedSimpArgs false
variable {P : Program} {M : Nat → Bool}
section
variable {ob : Nat → VO} {β : Nat → BI} {C Z : Nat → Prop} {own : Nat → Option Nat} {σ : Sto} {tm : Nat → AV} {a : Act} {w : World}
theorem resV1_ok {r : ResultVar} {v : AV} (R : Rel σ.ob β C w.heap Z own) (hT : RelT σ.ob β C w.heap Z a tm) (H : resV1 P tm σ r = some v) :
    ∃ val, ((match r with | .tmp t => pure (a.tmps.getD t Go.undef) | .cell p t => do loadVar t (← asAddr (a.tmps.getD p Go.undef)) : Sem Value)).run P w = .ok val w ∧ AVRel σ.ob β C w.heap Z val v := by
  cases r with
  | tmp t => simp only [resV1, Option.some.injEq] at H; subst H; exact ⟨_, rfl, hT t⟩
  | cell p t =>
    simp only [resV1] at H
    split at H
    · rename_i n ha hs
      rw [Option.map_eq_some_iff] at H
      obtain ⟨cs, hcs, rfl⟩ := H
      have hlen := loadV_len hcs
      obtain ⟨b, off, vs, hpv, hvl, hcell, hrel⟩ := loadV_ok R (hT p) hcs
      have := (run_load (P := P) (t := t) hcell).1 ha (by rw [hvl]; exact hs)
      refine ⟨.agg vs.toArray, ?_, .agg _ _ (by simp [hvl, hlen]) fun i u x hu hx => hrel i u x (by simpa using hu) hx⟩
      show (do loadVar t (← asAddr (a.tmps.getD p Go.undef)) : Sem Value).run P w = _
      rw [hpv]
      simp only [Instr.loadAt, Instr.sureAddr, Sem.run_bind, Sem.run_pure, Result.andThen_ok] at this
      simp [asAddr, this]
    · rename_i _ ha
      split at H
      · rename_i c hc
        simp only [Option.some.injEq] at H
        subst H
        obtain ⟨b, off, vs, hpv, hvl, hcell, hrel⟩ := loadV_ok R (hT p) hc
        obtain ⟨u, rfl⟩ := List.length_eq_one_iff.1 hvl
        have := (run_load (P := P) (t := t) hcell).2 u ha rfl
        refine ⟨u, ?_, hrel 0 u _ rfl rfl⟩
        show (do loadVar t (← asAddr (a.tmps.getD p Go.undef)) : Sem Value).run P w = _
        rw [hpv]
        simp only [Instr.loadAt, Instr.sureAddr, Sem.run_bind, Sem.run_pure, Result.andThen_ok] at this
        simp [asAddr, this]
      · cases H
    · cases H
theorem resV_list (R : Rel σ.ob β C w.heap Z own) (hT : RelT σ.ob β C w.heap Z a tm) : ∀ (rs : List ResultVar) (l : List AV), rs.mapM (resV1 P tm σ) = some l →
    ∃ vals, (rs.mapM (fun r => (match r with | .tmp t => pure (a.tmps.getD t Go.undef) | .cell p t => do loadVar t (← asAddr (a.tmps.getD p Go.undef)) : Sem Value))).run P w = .ok vals w ∧ RelL σ.ob β C w.heap Z vals l
  | [], l, H => by simp at H; subst H; exact ⟨[], rfl, rfl, fun k u x hu => by simp at hu⟩
  | r :: rs, l, H => by
    rw [List.mapM_cons] at H
    simp only [Option.pure_def, Option.bind_eq_bind, Option.bind_eq_some_iff, Option.some.injEq] at H
    obtain ⟨v, hv, vs, hvs, rfl⟩ := H
    obtain ⟨val, h1, h2⟩ := resV1_ok R hT hv
    obtain ⟨vals, h3, h4⟩ := resV_list R hT rs vs hvs
    refine ⟨val :: vals, ?_, by simp [h4.1], fun k u x hu hx => ?_⟩
    · rw [List.mapM_cons]
      simp only [Sem.run_bind, h1, Result.andThen_ok, h3, Sem.run_pure]
    · cases k with
      | zero => simp at hu hx; subst hu; subst hx; exact h2
      | succ k => exact h4.2 k u x (by simpa using hu) (by simpa using hx)
theorem resV_ok {fn : Func} {v : AV} (R : Rel σ.ob β C w.heap Z own) (hT : RelT σ.ob β C w.heap Z a tm) (H : resV P fn.results tm σ = some v) : ∃ val, (results fn a.tmps).run P w = .ok val w ∧ AVRel σ.ob β C w.heap Z val v := by
  unfold resV at H
  have key : ∀ l, fn.results.toList.mapM (resV1 P tm σ) = some l → ∃ vals : List Value, (results fn a.tmps).run P w = .ok (if h : vals.toArray.size = 1 then vals.toArray[0] else .tuple vals.toArray) w ∧ RelL σ.ob β C w.heap Z vals l := by
    intro l hl
    obtain ⟨vals, h1, h2⟩ := resV_list R hT _ _ hl
    refine ⟨vals, ?_, h2⟩
    unfold results
    rw [Array.mapM_eq_mapM_toList]
    simp only [Sem.run_bind, Sem.run_map]
    exact congrArg (fun r : Result (List Value) => (r.andThen fun a w' => Result.ok a.toArray w').andThen fun a w' => Sem.run P (pure (if h : a.size = 1 then a[0] else Value.tuple a)) w') h1
  split at H
  · rename_i x hx
    cases H
    obtain ⟨vals, h1, h2⟩ := key _ hx
    have hl : vals.length = 1 := h2.1
    obtain ⟨u, rfl⟩ := List.length_eq_one_iff.1 hl
    exact ⟨u, by rw [h1]; rfl, h2.2 0 u v rfl rfl⟩
  · rename_i l hne hx
    cases H
    obtain ⟨vals, h1, h2⟩ := key _ hx
    have hl : vals.length ≠ 1 := by
      intro h3
      rw [h2.1] at h3
      obtain ⟨x, rfl⟩ := List.length_eq_one_iff.1 h3
      exact hne x rfl
    refine ⟨.tuple vals.toArray, ?_, .tup _ _ (by simpa using h2.1) fun i u x hu hx => h2.2 i u x (by simpa using hu) hx⟩
    rw [h1, dif_neg (by simpa using hl)]
  · cases H
end
theorem bodyV_ok {X : Ora} {D : Ora → Drw} (hX : OraOk P X) (hD : DrwOk P X (D X)) {n f : Nat} {fn : Func} {c : Code} {args : List AV} {σ σ' : Sto} {r : AV} (hfn : P.funcs[f]? = some fn) (hb : fn.body = some c) (H : bodyV P M D X n fn c args σ = some (r, σ'))
    {β : Nat → BI} {C Z : Nat → Prop} {own : Nat → Option Nat} {w : World} {vals : Array Value} (R : Rel σ.ob β C w.heap Z own) (hf : ∀ o, σ.n ≤ o → ¬ C o) (hargs : RelL σ.ob β C w.heap Z vals.toList args) :
    Calls P f vals w (fun e w' => ∃ val, e = .returned val ∧ Post σ β C w.heap Z own σ' val r w'.heap ∧ Wld w w') := by
  unfold bodyV at H
  split at H
  · rename_i hle
    have hvl : vals.size = args.length := by simpa using hargs.1
    have I0 : Inv σ β C w Z own ⟨fn.ntmps, fun i => args.getD i .undef, σ⟩ { tmps := vals ++ Array.replicate (fn.ntmps - vals.size) Go.undef, defers := [] } w := by
      refine ⟨β, C, Z, own, .refl R, fun _ h => .inl h, Nat.le_refl _, fun x => ?_, by simp; omega, rfl, Wld.refl _⟩
      simp only
      rcases Nat.lt_or_ge x args.length with h1 | h1
      · have e1 : args.getD x .undef = args[x] := by simp [List.getD, h1]
        have e2 : (vals ++ Array.replicate (fn.ntmps - vals.size) Go.undef).getD x Go.undef = vals[x] := by
          rw [Array.getD_eq_getD_getElem?, Array.getElem?_append_left (by omega), Array.getElem?_eq_getElem (by omega)]; rfl
        rw [e1, e2]
        exact hargs.2 x _ _ (by simp [hvl, h1]) (List.getElem?_eq_getElem h1)
      · have e1 : args.getD x .undef = .undef := by simp [List.getD, List.getElem?_eq_none h1]
        rw [e1]; exact .undef _
    have fin : ∀ s, (resV P fn.results s.tm s.σ).map (fun v => (v, s.σ)) = some (r, σ') → ∀ a' w', Inv σ β C w Z own s a' w' → a'.defers = [] ∧ ∃ v, (results fn a'.tmps).run P w' = .ok v w' ∧ ∃ val, Ending.returned v = .returned val ∧ Post σ β C w.heap Z own σ' val r w'.heap ∧ Wld w w' := by
      rintro s hs a' w' ⟨β', C', Z', own', A, hC, hn, hT, hsz, hdf⟩
      rw [Option.map_eq_some_iff] at hs
      obtain ⟨v, hv, he⟩ := hs
      simp only [Prod.mk.injEq] at he
      obtain ⟨rfl, rfl⟩ := he
      obtain ⟨val, h1, h2⟩ := resV_ok A.rel hT hv
      exact ⟨hdf.1, val, h1, val, rfl, ⟨β', C', Z', own', A, hC, hn, h2⟩, hdf.2⟩
    split at H
    · rename_i s hs
      exact calls_of_wp hfn hb (execV_ok hX hD hf c I0 hs fun a' w' I => fin s H a' w' I)
    · rename_i s hs
      exact calls_of_wp hfn hb (execV_ok hX hD hf c I0 hs fun a' w' I => fin s H a' w' I)
    · cases H
  · cases H
/-- What is given of functions is right. -/
def GivOk (P : Program) (G : Giv) : Prop := OraOk P fun f args σ => (G f).bind fun g => g args σ
theorem runV_ok {D : Ora → Drw} {G : Giv} (hG : GivOk P G) (hD : ∀ X, OraOk P X → DrwOk P X (D X)) : ∀ k, OraOk P (runV P M D G k)
  | 0 => fun f args σ r σ' H => by cases H
  | k + 1 => by
    intro f args σ r σ' H
    have ih := runV_ok hG hD k
    simp only [runV] at H
    split at H
    · rename_i g hg
      exact hG f args σ r σ' (by simp [hg, H])
    · split at H
      · rename_i fn hfn
        split at H
        · cases H
        · rename_i hname
          split at H
          · rename_i c hb
            refine ⟨⟨fn, hfn, by simp [hb], by simpa using hname⟩, fun {β C Z own w vals} R hf hargs => ?_⟩
            exact bodyV_ok (M := M) ih (hD _ ih) hfn hb H R hf hargs
          · cases H
      · cases H
end Go.Proofs.YtpdpgfagklhpaaaGreat.V

namespace Go.Proofs.YtpdpgfagklhpaaaGreat.V
open Go
set_option linter.unusedVariables false
set_option linter.unusedSimpArgs false
/-- 0: tells by its operands alone; 1: looks at memory; 2: changes it; 3: makes what is told beforehand. -/
def dk (o : Oper) : Nat := match o.op with
  | .alloc _ => if o.guard.isNone then 3 else 2
  | .buildSlice _ n _ => if o.guard.isNone && n == 0 then 3 else 2
  | .load .. | .indexAddr .. | .binOp .. => 1
  | .call c => match c.callee with
    | .builtin .len => 1
    | .builtin .max => 0
    | .builtin .min => 0
    | _ => 2
  | .move _ | .assign _ | .pick .. | .fieldAddr .. | .field .. | .unOp .. | .convert .. | .extract .. | .nilCheck _ | .index .. | .build .. | .makeFunc .. => 0
  | _ => 2
def resO (P : Program) (o : Oper) : Option VO := match o.op with
  | .alloc t => (zeroC P t).map fun z => .box z.cells
  | .buildSlice t _ parts => match P.underlying t with
    | some (.slice e) => if parts.toList = [] then (szOf P e).map fun sz => .arr (.own 0) 0 sz [] else none
    | _ => none
  | _ => none
def rv (o : Oper) (k : Nat) : AV := match o.op with
  | .alloc _ => .ptr k 0
  | _ => .ref k 0 []
def resL (P : Program) : List Oper → Nat → Sto → Option (List (Nat × Nat × VO) × Sto)
  | [], _, σ => some ([], σ)
  | o :: l, i, σ => if dk o = 3 then match resO P o with
      | some x => (resL P l (i + 1) (σ.new x)).map fun r => ((i, σ.n, x) :: r.1, r.2)
      | none => none
    else resL P l (i + 1) σ
def pmask (acc : List Nat) (o : Oper) : Nat := o.after.toList.foldl (fun m e => if Region.binds .any e then m ||| 2 ^ e.on ||| acc.getD e.on 0 else m) 0
def masks : List Oper → List Nat → List Nat
  | [], acc => acc
  | o :: l, acc => masks l (acc ++ [pmask acc o])
def bfm (ms : List Nat) (i j : Nat) : Bool := (ms.getD j 0).testBit i
def statM (ops : Array Oper) (ms : List Nat) : Bool := (List.range ops.size).all fun j => match ops[j]? with
  | none => true
  | some oj => oj.after.toList.all (fun e => !Region.binds .any e || decide (e.on < j)) && (List.range j).all fun i => match ops[i]? with
    | none => true
    | some oi => if bfm ms i j then oj.after.toList.any fun e => Region.binds .any e && (e.on == i || (decide (i < e.on) && bfm ms i e.on)) else oi.apart ops oj && !(dk oi == 2 && dk oj == 2)
def VS.on (s : VS) (σ : Sto) : VS := ⟨s.nt, s.tm, σ⟩
def Drun (st : VS → Oper → Option VS) (bf : Nat → Nat → Bool) (rs : List (Nat × Nat × VO)) : List Oper → Nat → Nat → VS → List (Nat × Oper × VS × VS) → List (Nat × Sto) → VS → Prop
  | [], _, _, s, _, _, s' => s = s'
  | o :: l, i, k, s, pd, hs, s' =>
    if dk o = 3 then ∃ s1, putV s o.dst (rv o k) s.σ = some s1 ∧ Drun st bf rs l (i + 1) (k + 1) s1 pd hs s'
    else if dk o = 2 then ∃ s1, st s o = some s1 ∧ (∀ p ∈ pd, bf p.1 i = true ∨ st (p.2.2.1.on s1.σ) p.2.1 = some (p.2.2.2.on s1.σ)) ∧ (∀ r ∈ rs, (decide (r.1 < i) && bf r.1 i) = true ∨ s1.σ.ob r.2.1 = r.2.2) ∧ Drun st bf rs l (i + 1) k s1 pd ((i, s.σ) :: hs) s'
    else if dk o = 1 then ∃ s1, st s o = some s1 ∧ (∀ h ∈ hs, bf h.1 i = true ∨ st (s.on h.2) o = some (s1.on h.2)) ∧ Drun st bf rs l (i + 1) k s1 ((i, o, s, s1) :: pd) hs s'
    else ∃ s1, st s o = some s1 ∧ Drun st bf rs l (i + 1) k s1 pd hs s'
/-- What a region comes to, in every order. -/
def DrawsTo (P : Program) (M : Nat → Bool) (X : Ora) (ops : Array Oper) (s s' : VS) : Prop :=
  statM ops (masks ops.toList []) = true ∧ ∃ rs σ1, resL P ops.toList 0 s.σ = some (rs, σ1) ∧ Drun (stepV P M X ops) (bfm (masks ops.toList [])) rs ops.toList 0 s.σ.n (s.on σ1) [] [] s'
theorem Drun.det {st : VS → Oper → Option VS} {bf : Nat → Nat → Bool} {rs : List (Nat × Nat × VO)} : ∀ (l : List Oper) {i k : Nat} {s : VS} {pd pd2 : List (Nat × Oper × VS × VS)} {hs hs2 : List (Nat × Sto)} {s1 s2 : VS}, Drun st bf rs l i k s pd hs s1 → Drun st bf rs l i k s pd2 hs2 s2 → s1 = s2
  | [], i, k, s, pd, pd2, hs, hs2, s1, s2, h1, h2 => by cases h1; cases h2; rfl
  | o :: l, i, k, s, pd, pd2, hs, hs2, s1, s2, h1, h2 => by
    unfold Drun at h1 h2
    split at h1
    · rename_i hk; rw [if_pos hk] at h2
      obtain ⟨a, ha, h1⟩ := h1; obtain ⟨b, hb, h2⟩ := h2
      rw [ha] at hb; cases hb; exact Drun.det l h1 h2
    rename_i hk; rw [if_neg hk] at h2
    split at h1
    · rename_i hk; rw [if_pos hk] at h2
      obtain ⟨a, ha, _, _, h1⟩ := h1; obtain ⟨b, hb, _, _, h2⟩ := h2
      rw [ha] at hb; cases hb; exact Drun.det l h1 h2
    rename_i hk; rw [if_neg hk] at h2
    split at h1
    · rename_i hk; rw [if_pos hk] at h2
      obtain ⟨a, ha, _, h1⟩ := h1; obtain ⟨b, hb, _, h2⟩ := h2
      rw [ha] at hb; cases hb; exact Drun.det l h1 h2
    · rename_i hk; rw [if_neg hk] at h2
      obtain ⟨a, ha, h1⟩ := h1; obtain ⟨b, hb, h2⟩ := h2
      rw [ha] at hb; cases hb; exact Drun.det l h1 h2
open Classical in
noncomputable def drawV (P : Program) (M : Nat → Bool) (X : Ora) : Drw := fun ops s => if h : ∃ s', DrawsTo P M X ops s s' then some h.choose else none
theorem drawV_iff {P : Program} {M : Nat → Bool} {X : Ora} {ops : Array Oper} {s s' : VS} : drawV P M X ops s = some s' ↔ DrawsTo P M X ops s s' := by
  unfold drawV
  constructor
  · intro h
    split at h
    · rename_i hex
      simp only [Option.some.injEq] at h
      rw [← h]; exact hex.choose_spec
    · cases h
  · intro h
    have hex : ∃ s', DrawsTo P M X ops s s' := ⟨s', h⟩
    rw [dif_pos hex, Option.some.injEq]
    obtain ⟨_, rs, σ1, h1, h2⟩ := hex.choose_spec
    obtain ⟨_, rs2, σ2, h3, h4⟩ := h
    rw [h1] at h3; cases h3
    exact h2.det _ h4
section
variable {P : Program} {M : Nat → Bool} {X : Ora}
theorem reader_same {tm : Nat → AV} {σ σ' : Sto} {o : Oper} {v : AV} (hk : dk o = 0 ∨ dk o = 1) (H : opV P M X tm σ o = some (v, σ')) : σ' = σ := by
  cases ho : o.op <;> simp only [dk, ho] at hk <;> simp only [opV, ho] at H
  case call c =>
    cases hc : c.callee with
    | builtin b =>
      rw [hc] at hk H
      split at H
      · cases b <;> simp at hk <;> simp only at H <;> (repeat' split at H) <;> first | (cases H; done) | (cases H; rfl) | (obtain ⟨_, _, h⟩ := Option.map_eq_some_iff.1 H; cases h; rfl)
      · cases H
    | _ => rw [hc] at hk; simp at hk
  case unOp u t x => cases u <;> simp only at H <;> (repeat' split at H) <;> first | (cases H; done) | (cases H; rfl)
  case makeFunc f fi ca =>
    cases f <;> simp only at H <;> (repeat' split at H) <;> first | (cases H; done) | (obtain ⟨_, _, h⟩ := Option.bind_eq_some_iff.1 H; split at h <;> cases h; rfl)
  all_goals first
    | (exfalso; revert hk; simp; done)
    | (exfalso; revert hk; simp; split <;> simp; done)
    | ((repeat' split at H) <;> first | (cases H; done) | (cases H; rfl) | (obtain ⟨_, _, h⟩ := Option.map_eq_some_iff.1 H; cases h; rfl) | (obtain ⟨_, _, h⟩ := Option.bind_eq_some_iff.1 H; split at h <;> cases h; rfl))
theorem reader_pure {tm : Nat → AV} {σ σ2 : Sto} {o : Oper} {v : AV} (hk : dk o = 0) (H : opV P M X tm σ o = some (v, σ)) : opV P M X tm σ2 o = some (v, σ2) := by
  revert H
  cases ho : o.op <;> simp only [dk, ho] at hk <;> simp only [opV, ho]
  case call c =>
    cases hc : c.callee with
    | builtin b =>
      rw [hc] at hk
      cases b <;> simp at hk <;> simp only <;> (repeat' split) <;> intro H <;> first | (cases H; done) | (cases H; rfl) | (obtain ⟨_, _, h⟩ := Option.map_eq_some_iff.1 H; cases h; rfl)
    | _ => rw [hc] at hk; simp at hk
  case unOp u t x => cases u <;> simp only <;> (repeat' split) <;> intro H <;> first | (cases H; done) | (cases H; rfl)
  case makeFunc f fi ca =>
    cases f <;> simp only <;> (repeat' split) <;> intro H <;> first | (cases H; done) | (obtain ⟨l, h1, h⟩ := Option.bind_eq_some_iff.1 H; rw [h1]; revert h; simp only [Option.bind_some]; split <;> intro h <;> cases h; rfl)
  all_goals first
    | (exfalso; revert hk; simp; done)
    | (exfalso; revert hk; simp; split <;> simp; done)
    | ((repeat' split) <;> intro H <;> first | (cases H; done) | (cases H; rfl) | (obtain ⟨_, h1, h⟩ := Option.map_eq_some_iff.1 H; cases h; rw [h1]; rfl) | (obtain ⟨_, h1, h⟩ := Option.bind_eq_some_iff.1 H; split at h <;> cases h; simp [*]; done))
theorem mapM_ev {tm tm2 : Nat → AV} : ∀ (l : List Operand), (∀ x ∈ l, evalO tm x = evalO tm2 x) → l.mapM (evalO tm) = l.mapM (evalO tm2)
  | [], _ => rfl
  | x :: l, h => by rw [List.mapM_cons, List.mapM_cons, h x (by simp), mapM_ev l fun y hy => h y (by simp [hy])]
theorem mapM_ev2 {tm tm2 : Nat → AV} {β : Type} (g : Nat × Operand → AV → β) : ∀ (l : List (Nat × Operand)), (∀ x ∈ l, evalO tm x.2 = evalO tm2 x.2) → l.mapM (fun p => (evalO tm p.2).map (g p)) = l.mapM (fun p => (evalO tm2 p.2).map (g p))
  | [], _ => rfl
  | x :: l, h => by rw [List.mapM_cons, List.mapM_cons, h x (by simp), mapM_ev2 g l fun y hy => h y (by simp [hy])]
theorem mapM_ev3 {tm tm2 : Nat → AV} : ∀ (l : List (Nat × Operand)), (∀ x ∈ l, evalO tm x.2 = evalO tm2 x.2) → l.mapM (fun p => evalO tm p.2) = l.mapM (fun p => evalO tm2 p.2)
  | [], _ => rfl
  | x :: l, h => by rw [List.mapM_cons, List.mapM_cons, h x (by simp), mapM_ev3 l fun y hy => h y (by simp [hy])]
theorem opV_congr {tm tm2 : Nat → AV} {σ : Sto} {o : Oper} (h : ∀ x ∈ o.op.operands, evalO tm x = evalO tm2 x) : opV P M X tm σ o = opV P M X tm2 σ o := by
  cases ho : o.op <;> simp only [opV, ho] <;> rw [ho] at h
  case call c =>
    have h1 := mapM_ev c.args.toList fun x hx => h x (by simp [Op.operands, Call.operands]; exact .inr (by simpa using hx))
    rw [h1]
    split
    · cases hc : c.callee with
      | value f => simp only; rw [h f (by simp [Op.operands, Call.operands, hc])]
      | builtin b => cases b <;> rfl
      | invoke a b => rfl
    · rfl
  case build t ps => rw [mapM_ev2 (fun p v => (p.1, v)) ps.toList fun x hx => h x.2 (by simp [Op.operands]; exact ⟨_, by simpa using hx⟩)]
  case buildSlice t n ps => rw [mapM_ev3 ps.toList fun x hx => h x.2 (by simp [Op.operands]; exact ⟨_, by simpa using hx⟩)]
  case makeFunc fn fi ca =>
    have h1 := mapM_ev ca.toList fun x hx => h x (by simp [Op.operands]; exact .inr (by simpa using hx))
    cases fn with
    | func f => simp only [h1]
    | _ => rfl
  case unOp u t x =>
    have h1 := h x (by simp [Op.operands])
    cases u <;> first | rfl | simp only [h1]
  case pick c a b =>
    have h1 := h c (by simp [Op.operands])
    have h2 := h a (by simp [Op.operands])
    have h3 := h b (by simp [Op.operands])
    simp only [h1]
    split
    · rename_i x hx; cases x <;> simp [h2, h3]
    · rfl
  case slice t x lo hi mx =>
    have hb : ∀ (d : Nat) (y : Option Operand), (∀ z, y = some z → evalO tm z = evalO tm2 z) → boundO tm d y = boundO tm2 d y := fun d y hy => by
      cases y with
      | none => rfl
      | some z => simp only [boundO, hy z rfl]
    have hx := h x (by simp [Op.operands])
    have hlo : ∀ d, boundO tm d lo = boundO tm2 d lo := fun d => hb d lo fun z hz => h z (by simp [Op.operands, hz])
    have hhi : ∀ d, boundO tm d hi = boundO tm2 d hi := fun d => hb d hi fun z hz => h z (by simp [Op.operands, hz])
    have hs : ∀ e rows, slRows P tm e rows lo hi mx = slRows P tm2 e rows lo hi mx := fun e rows => by
      simp only [slRows, hlo, hhi]
      cases mx with
      | none => rfl
      | some z => simp only [h z (by simp [Op.operands])]
    simp only [hx, hlo, hhi, hs]
  all_goals (simp [Op.operands] at h <;> simp [h])
end
end Go.Proofs.YtpdpgfagklhpaaaGreat.V

namespace Go.Proofs.YtpdpgfagklhpaaaGreat.V
open Go
set_option linter.unusedVariables false
set_option linter.unusedSimpArgs false
variable {P : Program} {M : Nat → Bool} {X : Ora}
theorem putV_facts {s s1 : VS} {d : Option Tmp} {v : AV} {σ : Sto} (H : putV s d v σ = some s1) : s1.nt = s.nt ∧ s1.σ = σ ∧ (∀ t, d ≠ some t → s1.tm t = s.tm t) ∧ ∀ t, d = some t → s1.tm t = v ∧ t < s.nt := by
  unfold putV at H
  cases d with
  | none => cases H; exact ⟨rfl, rfl, fun _ _ => rfl, fun t h => by cases h⟩
  | some d =>
    simp only at H
    split at H
    · rename_i hlt; cases H
      exact ⟨rfl, rfl, fun t h => upd_ne _ _ fun e => h (by rw [e]), fun t h => by cases h; exact ⟨upd_same _ _ _, hlt⟩⟩
    · cases H
theorem step_facts {ops : Array Oper} {s s1 : VS} {o : Oper} (H : stepV P M X ops s o = some s1) : s1.nt = s.nt ∧ ∀ t, o.dst ≠ some t → s1.tm t = s.tm t := by
  unfold stepV at H
  split at H
  · split at H
    · exact ⟨(putV_facts H).1, (putV_facts H).2.2.1⟩
    · cases H
  · exact ⟨(putV_facts H).1, (putV_facts H).2.2.1⟩
  · cases H
theorem step_look {ops : Array Oper} {s s1 : VS} {o : Oper} (hk : dk o = 0 ∨ dk o = 1) (H : stepV P M X ops s o = some s1) : s1.σ = s.σ := by
  unfold stepV at H
  split at H
  · split at H
    · rename_i h1; rw [(putV_facts H).2.1]; exact reader_same hk h1
    · cases H
  · exact (putV_facts H).2.1
  · cases H
theorem putV_on {s s1 : VS} {d : Option Tmp} {v : AV} {σ σ2 : Sto} (H : putV s d v σ = some s1) : putV (s.on σ2) d v σ2 = some (s1.on σ2) := by
  unfold putV at H ⊢
  cases d with
  | none => cases H; rfl
  | some d =>
    simp only at H ⊢
    split at H
    · rename_i hlt; cases H; rw [if_pos (show d < (s.on σ2).nt from hlt)]; rfl
    · cases H
theorem step_pure {ops : Array Oper} {s s1 : VS} {o : Oper} (hk : dk o = 0) (H : stepV P M X ops s o = some s1) (σ : Sto) : stepV P M X ops (s.on σ) o = some (s1.on σ) := by
  unfold stepV at H ⊢
  rw [show (s.on σ).tm = s.tm from rfl]
  cases hw : wantV ops s.tm o with
  | none => rw [hw] at H; cases H
  | some b =>
    rw [hw] at H
    cases b with
    | false => exact putV_on H
    | true =>
      simp only at H ⊢
      cases h1 : opV P M X s.tm s.σ o with
      | none => rw [h1] at H; cases H
      | some r =>
        obtain ⟨v, σ'⟩ := r
        rw [h1] at H
        have := reader_same (.inl hk) h1
        subst this
        simp only [show (s.on σ).σ = σ from rfl, reader_pure (σ2 := σ) hk h1]
        exact putV_on H
theorem step_congr {ops : Array Oper} {nt : Nat} {tm tm2 : Nat → AV} {σ : Sto} {s1 : VS} {o : Oper} (H : stepV P M X ops ⟨nt, tm, σ⟩ o = some s1) (h : ∀ t ∈ o.looksAt ops, tm t = tm2 t) :
    stepV P M X ops ⟨nt, tm2, σ⟩ o = some ⟨nt, fun t => if o.dst = some t then s1.tm t else tm2 t, s1.σ⟩ := by
  have hw : wantV ops tm o = wantV ops tm2 o := by
    unfold wantV
    split
    · rfl
    · rename_i j w hg
      cases hd : (ops[j]?).bind (·.dst) with
      | none => rfl
      | some d =>
        have := h d (by unfold Oper.looksAt; rw [hg]; simp only [List.mem_append]; right; rw [hd]; simp)
        simp only [Option.map_some, this]
  have ho : opV P M X tm σ o = opV P M X tm2 σ o := opV_congr fun x hx => by
    cases x with
    | tmp t =>
      simp only [evalO]
      rw [h t (by unfold Oper.looksAt; rw [List.mem_append]; left; rw [List.mem_filterMap]; exact ⟨.tmp t, by simpa using hx, rfl⟩)]
    | _ => rfl
  have key : ∀ v σ', putV ⟨nt, tm, σ⟩ o.dst v σ' = some s1 → putV ⟨nt, tm2, σ⟩ o.dst v σ' = some ⟨nt, fun t => if o.dst = some t then s1.tm t else tm2 t, s1.σ⟩ := by
    intro v σ' H
    obtain ⟨h1, h2, h3, h4⟩ := putV_facts H
    unfold putV
    cases hd : o.dst with
    | none => simp [h2]
    | some d =>
      have h5 := h4 d hd
      simp only
      rw [if_pos (show d < nt from h5.2)]
      simp only [Option.some.injEq, VS.mk.injEq, true_and]
      refine ⟨funext fun t => ?_, h2.symm⟩
      by_cases e : t = d
      · subst e; rw [upd_same]; simp [h5.1]
      · rw [upd_ne _ _ e, if_neg (fun h => e h.symm)]
  unfold stepV at H ⊢
  simp only at H ⊢
  rw [← hw, ← ho]
  split at H
  · rename_i h1
    split at H
    · exact key _ _ H
    · cases H
  · exact key _ _ H
  · cases H
/-- The states of the listed order. -/
def rid (l : List Oper) (k0 i : Nat) : Nat := k0 + ((l.take i).filter fun o => dk o == 3).length
def Sq (st : VS → Oper → Option VS) (l : List Oper) (k0 : Nat) (s0 : VS) : Nat → VS
  | 0 => s0
  | i + 1 => match l[i]? with
    | some o => if dk o = 3 then (putV (Sq st l k0 s0 i) o.dst (rv o (rid l k0 i)) (Sq st l k0 s0 i).σ).getD (Sq st l k0 s0 i) else (st (Sq st l k0 s0 i) o).getD (Sq st l k0 s0 i)
    | none => Sq st l k0 s0 i
structure Tr (st : VS → Oper → Option VS) (bf : Nat → Nat → Bool) (rs : List (Nat × Nat × VO)) (l : List Oper) (k0 : Nat) (S : Nat → VS) (j : Nat) (o : Oper) : Prop where
  res : dk o = 3 → putV (S j) o.dst (rv o (rid l k0 j)) (S j).σ = some (S (j + 1))
  step : dk o ≠ 3 → st (S j) o = some (S (j + 1))
  pd : dk o = 2 → ∀ i o', i < j → l[i]? = some o' → dk o' = 1 → bf i j = true ∨ st ((S i).on (S (j + 1)).σ) o' = some ((S (i + 1)).on (S (j + 1)).σ)
  rs : dk o = 2 → ∀ r ∈ rs, (decide (r.1 < j) && bf r.1 j) = true ∨ (S (j + 1)).σ.ob r.2.1 = r.2.2
  hs : dk o = 1 → ∀ i o', i < j → l[i]? = some o' → dk o' = 2 → bf i j = true ∨ st ((S j).on (S i).σ) o = some ((S (j + 1)).on (S i).σ)
theorem rid_succ {l : List Oper} {k0 i : Nat} {o : Oper} (h : l[i]? = some o) : rid l k0 (i + 1) = if dk o = 3 then rid l k0 i + 1 else rid l k0 i := by
  unfold rid
  rw [List.take_add_one, h]
  by_cases hk : dk o = 3
  · simp [hk]; omega
  · simp [hk]
theorem drun_tr {st : VS → Oper → Option VS} {bf : Nat → Nat → Bool} {rs : List (Nat × Nat × VO)} {l : List Oper} {k0 : Nat} {s0 s' : VS} : ∀ (m : List Oper) {i : Nat} {pd : List (Nat × Oper × VS × VS)} {hs : List (Nat × Sto)}, l.drop i = m → i ≤ l.length →
    Drun st bf rs m i (rid l k0 i) (Sq st l k0 s0 i) pd hs s' → (∀ i' o', i' < i → l[i']? = some o' → dk o' = 1 → (i', o', Sq st l k0 s0 i', Sq st l k0 s0 (i' + 1)) ∈ pd) → (∀ i' o', i' < i → l[i']? = some o' → dk o' = 2 → (i', (Sq st l k0 s0 i').σ) ∈ hs) →
    (∀ j o, i ≤ j → l[j]? = some o → Tr st bf rs l k0 (Sq st l k0 s0) j o) ∧ Sq st l k0 s0 l.length = s'
  | [], i, pd, hs, hm, hle, H, hpd, hhs => by
    have hi : l.length ≤ i := List.drop_eq_nil_iff.1 hm
    have : i = l.length := by omega
    subst this
    exact ⟨fun j o hj h => (by rw [List.getElem?_eq_none hj] at h; cases h), H⟩
  | o :: m, i, pd, hs, hm, hle, H, hpd, hhs => by
    have hlt : i < l.length := by
      rcases Nat.lt_or_ge i l.length with h | h
      · exact h
      · rw [List.drop_eq_nil_iff.2 h] at hm; cases hm
    have hio : l[i]? = some o := by
      have := List.head?_drop (l := l) (i := i)
      rw [hm] at this; exact this.symm
    have hm' : l.drop (i + 1) = m := by
      have := List.tail_drop (l := l) (i := i)
      rw [hm] at this; exact this.symm
    have fin : ∀ {pd2 : List (Nat × Oper × VS × VS)} {hs2 : List (Nat × Sto)}, Drun st bf rs m (i + 1) (rid l k0 (i + 1)) (Sq st l k0 s0 (i + 1)) pd2 hs2 s' → (∀ x ∈ pd, x ∈ pd2) → (∀ x ∈ hs, x ∈ hs2) → (dk o = 1 → (i, o, Sq st l k0 s0 i, Sq st l k0 s0 (i + 1)) ∈ pd2) → (dk o = 2 → (i, (Sq st l k0 s0 i).σ) ∈ hs2) →
        Tr st bf rs l k0 (Sq st l k0 s0) i o → (∀ j o, i ≤ j → l[j]? = some o → Tr st bf rs l k0 (Sq st l k0 s0) j o) ∧ Sq st l k0 s0 l.length = s' := by
      intro pd2 hs2 H2 h1 h2 h3 h4 ht
      obtain ⟨ha, hb⟩ := drun_tr m hm' hlt H2 (fun i' o' hi ho hk => by
        rcases Nat.lt_or_ge i' i with h | h
        · exact h1 _ (hpd i' o' h ho hk)
        · have : i' = i := by omega
          subst this; rw [hio] at ho; cases ho; exact h3 hk) (fun i' o' hi ho hk => by
        rcases Nat.lt_or_ge i' i with h | h
        · exact h2 _ (hhs i' o' h ho hk)
        · have : i' = i := by omega
          subst this; rw [hio] at ho; cases ho; exact h4 hk)
      refine ⟨fun j o' hj ho' => ?_, hb⟩
      rcases Nat.lt_or_ge i j with h | h
      · exact ha j o' h ho'
      · have : j = i := by omega
        subst this; rw [hio] at ho'; cases ho'; exact ht
    unfold Drun at H
    have hS : Sq st l k0 s0 (i + 1) = if dk o = 3 then (putV (Sq st l k0 s0 i) o.dst (rv o (rid l k0 i)) (Sq st l k0 s0 i).σ).getD (Sq st l k0 s0 i) else (st (Sq st l k0 s0 i) o).getD (Sq st l k0 s0 i) := by
      show (match l[i]? with | some o => _ | none => _) = _
      rw [hio]
    have hr := rid_succ (k0 := k0) hio
    split at H
    · rename_i hk
      obtain ⟨s1, hp, H⟩ := H
      rw [if_pos hk, hp] at hS
      rw [if_pos hk] at hr
      have hS' : s1 = Sq st l k0 s0 (i + 1) := hS.symm
      subst hS'
      refine fin (by rw [hr]; exact H) (fun x h => h) (fun x h => h) (fun h => by omega) (fun h => by omega) ⟨fun _ => hp, fun h => absurd hk h, fun h => by omega, fun h => by omega, fun h => by omega⟩
    rename_i hk3
    rw [if_neg hk3] at hS hr
    split at H
    · rename_i hk
      obtain ⟨s1, hp, hq1, hq2, H⟩ := H
      rw [hp] at hS
      have hS' : s1 = Sq st l k0 s0 (i + 1) := hS.symm
      subst hS'
      refine fin (by rw [hr]; exact H) (fun x h => h) (fun x h => List.mem_cons_of_mem _ h) (fun h => by omega) (fun _ => List.mem_cons_self ..) ⟨fun h => absurd h hk3, fun _ => hp, fun _ i' o' hi ho hk' => hq1 _ (hpd i' o' hi ho hk'), fun _ r hr => hq2 r hr, fun h => by omega⟩
    rename_i hk2
    split at H
    · rename_i hk
      obtain ⟨s1, hp, hq1, H⟩ := H
      rw [hp] at hS
      have hS' : s1 = Sq st l k0 s0 (i + 1) := hS.symm
      subst hS'
      refine fin (by rw [hr]; exact H) (fun x h => List.mem_cons_of_mem _ h) (fun x h => h) (fun _ => List.mem_cons_self ..) (fun h => by omega) ⟨fun h => absurd h hk3, fun _ => hp, fun h => absurd h hk2, fun h => absurd h hk2, fun _ i' o' hi ho hk' => hq1 _ (hhs i' o' hi ho hk')⟩
    · rename_i hk1
      obtain ⟨s1, hp, H⟩ := H
      rw [hp] at hS
      have hS' : s1 = Sq st l k0 s0 (i + 1) := hS.symm
      subst hS'
      exact fin (by rw [hr]; exact H) (fun x h => h) (fun x h => h) (fun h => absurd h hk1) (fun h => absurd h hk2) ⟨fun h => absurd h hk3, fun _ => hp, fun h => absurd h hk2, fun h => absurd h hk2, fun h => absurd h hk1⟩
/-- What is told beforehand. -/
theorem resO_pend {o : Oper} {x : VO} (h : resO P o = some x) : Pend x := by
  unfold resO at h
  split at h
  · rw [Option.map_eq_some_iff] at h; obtain ⟨z, _, rfl⟩ := h; exact .inl ⟨_, rfl⟩
  · split at h
    · split at h
      · rw [Option.map_eq_some_iff] at h; obtain ⟨z, _, rfl⟩ := h; exact .inr ⟨_, rfl⟩
      · cases h
    · cases h
  · cases h
structure ResOk (P : Program) (l : List Oper) (i : Nat) (σ : Sto) (rs : List (Nat × Nat × VO)) (σ1 : Sto) : Prop where
  le : σ.n ≤ σ1.n
  old : ∀ o, o < σ.n → σ1.ob o = σ.ob o
  far : ∀ o, σ1.n ≤ o → σ1.ob o = σ.ob o
  pend : ∀ o, σ.n ≤ o → o < σ1.n → Pend (σ1.ob o)
  mem : ∀ r ∈ rs, σ.n ≤ r.2.1 ∧ r.2.1 < σ1.n ∧ σ1.ob r.2.1 = r.2.2
  inj : ∀ r ∈ rs, ∀ r' ∈ rs, r.2.1 = r'.2.1 → r = r'
  has : ∀ j o, l[j]? = some o → dk o = 3 → ∃ x, (i + j, rid l σ.n j, x) ∈ rs ∧ resO P o = some x
theorem resL_ok : ∀ (l : List Oper) {i : Nat} {σ : Sto} {rs : List (Nat × Nat × VO)} {σ1 : Sto}, resL P l i σ = some (rs, σ1) → ResOk P l i σ rs σ1
  | [], i, σ, rs, σ1, H => by cases H; exact ⟨Nat.le_refl _, fun _ _ => rfl, fun _ _ => rfl, fun o h1 h2 => by omega, fun r h => by simp at h, fun r h => by simp at h, fun j o h => by simp at h⟩
  | o :: l, i, σ, rs, σ1, H => by
    unfold resL at H
    split at H
    · rename_i hk
      split at H
      · rename_i x hx
        rw [Option.map_eq_some_iff] at H
        obtain ⟨⟨rs', σ2⟩, h1, he⟩ := H
        simp only [Prod.mk.injEq] at he
        obtain ⟨rfl, rfl⟩ := he
        have I := resL_ok l h1
        have hn : (σ.new x).n = σ.n + 1 := rfl
        refine ⟨by have := I.le; omega, fun o ho => ?_, fun o ho => ?_, fun o h1 h2 => ?_, fun r hr => ?_, fun r hr r' hr' e => ?_, fun j o' ho' hk' => ?_⟩
        · rw [I.old o (by omega)]; exact upd_ne _ _ (by omega)
        · have := I.le
          rw [I.far o ho]; exact upd_ne _ _ (by omega)
        · by_cases e : o = σ.n
          · subst e
            rw [I.old _ (by omega)]
            rw [show (σ.new x).ob σ.n = x from upd_same _ _ _]
            exact resO_pend hx
          · exact I.pend o (by omega) h2
        · rcases List.mem_cons.1 hr with rfl | hr
          · have := I.le
            exact ⟨Nat.le_refl _, by show σ.n < _; omega, by rw [I.old _ (by show σ.n < _; omega)]; exact upd_same _ _ _⟩
          · have := I.mem r hr; exact ⟨by omega, this.2⟩
        · rcases List.mem_cons.1 hr with rfl | hr <;> rcases List.mem_cons.1 hr' with rfl | hr'
          · rfl
          · have := (I.mem r' hr').1; simp only at e; omega
          · have := (I.mem r hr).1; simp only at e; omega
          · exact I.inj r hr r' hr' e
        · cases j with
          | zero => simp at ho'; subst ho'; exact ⟨x, by simp [rid], hx⟩
          | succ j =>
            obtain ⟨y, hy, hy2⟩ := I.has j o' (by simpa using ho') hk'
            refine ⟨y, List.mem_cons_of_mem _ ?_, hy2⟩
            have e1 : rid (o :: l) σ.n (j + 1) = rid l (σ.new x).n j := by simp [rid, hk, hn]; omega
            rw [e1, show i + (j + 1) = i + 1 + j by omega]; exact hy
      · cases H
    · rename_i hk
      have I := resL_ok l H
      refine ⟨I.le, I.old, I.far, I.pend, I.mem, I.inj, fun j o' ho' hk' => ?_⟩
      cases j with
      | zero => simp at ho'; subst ho'; exact absurd hk' hk
      | succ j =>
        obtain ⟨y, hy, hy2⟩ := I.has j o' (by simpa using ho') hk'
        refine ⟨y, ?_, hy2⟩
        have e1 : rid (o :: l) σ.n (j + 1) = rid l σ.n j := by simp [rid, hk]
        rw [e1, show i + (j + 1) = i + 1 + j by omega]; exact hy
end Go.Proofs.YtpdpgfagklhpaaaGreat.V

