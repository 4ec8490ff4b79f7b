/- Several texts in one: what the claim needs of them. Conditions: each declaration's own. -/
import Derived.Test.YtpdpgfagklhpaaaGreatZIndM1
import Derived.Laws.CopyRow
import Derived.Laws.AppendOwn
import Derived.Tactics
namespace Go.Proofs.YtpdpgfagklhpaaaGreat.V
open Go
set_option linter.unusedVariables false
set_option linter.unusedSimpArgs false
variable {ob ob' : Nat → VO} {β β' : Nat → BI} {C C' : Nat → Prop} {h h' : Heap} {Z Z' : Nat → Prop} {own own' : Nat → Option Nat}
/-- One object changes, with its blocks. -/
theorem Mv.change (R : Rel ob β C h Z own) {o : Nat} (hc : C o) (x : VO) (bi' : BI) (hsz : h.size ≤ h'.size) (hkeep : ∀ b, b < h.size → own b ≠ some o → h'[b]? = h[b]?)
    (h1 : ∀ o', o' ≠ o → C o' → ∀ b, own b = some o' → own' b = some o') (h2 : ∀ b y, own' b = some y → b < h'.size ∧ ((∃ z, own b = some z) ∨ h.size ≤ b)) (h3 : ∀ b, b < h.size → own b = none → own' b = none)
    (hE : Evo (ob o) (β o) h x bi' h') (hx : (∀ v a, AVRel ob β C h Z v a → AVRel (upd ob o x) (upd β o bi') C h' Z v a) → ObjRel (upd ob o x) (upd β o bi') C h' Z own' o) :
    Mv ob β C h Z own (upd ob o x) (upd β o bi') C h' Z own' := by
  have hZ : ∀ b, Z b → Z b ∧ h'[b]? = h[b]? := fun b hz => ⟨hz, hkeep b (R.zlt b hz).1 fun e => by rw [(R.zlt b hz).2] at e; cases e⟩
  have hk : ∀ o', o' ≠ o → ∀ b, own b = some o' → h'[b]? = h[b]? := fun o' hne b hb => hkeep b (R.own_lt b o' hb) fun e => hne (Option.some.inj (hb.symm.trans e))
  have hevo : ∀ o', C o' → C o' ∧ Evo (ob o') (β o') h (upd ob o x o') (upd β o bi' o') h' := fun o' ho => by
    refine ⟨ho, ?_⟩
    by_cases e : o' = o
    · subst e; rw [upd_same, upd_same]; exact hE
    · rw [upd_ne _ _ e, upd_ne _ _ e]; exact R.evoKeep ho (hk o' e)
  have hAV : ∀ v a, AVRel ob β C h Z v a → AVRel (upd ob o x) (upd β o bi') C h' Z v a := fun v a => AVRel.mono hZ hevo
  refine ⟨⟨fun b o' hb => (h2 b o' hb).1, fun b hb => ⟨Nat.lt_of_lt_of_le (R.zlt b hb).1 hsz, h3 b (R.zlt b hb).1 (R.zlt b hb).2⟩, fun o' ho => ?_, fun o' ho => ?_⟩, ⟨hsz, fun b hb hn => hkeep b hb (by rw [hn]; simp), fun b o' hb => (h2 b o' hb).2, fun _ h => h, fun _ h => .inl h⟩, hevo⟩
  · by_cases e : o' = o
    · subst e; exact hx hAV
    · exact ObjRel.mono (upd_ne _ _ e) (upd_ne _ _ e) (fun b hb => ⟨h1 o' e ho b hb, hk o' e b hb⟩) hZ hAV (R.objs o' ho)
  · have : o' ≠ o := fun e => ho (e ▸ hc)
    rw [upd_ne _ _ this]; exact R.dead o' ho
/-- A place for the old rows and the new ones. -/
structure Pl (h : Heap) (own : Nat → Option Nat) (o m sz : Nat) (n k : Nat) (bi bi' : BI) (cells cells' : Array Value) (e' : TypeId) (us : List Value) (h' : Heap) : Prop where
  grow : h.size ≤ h'.size
  nn : bi'.isNil = false
  hh : h'[bi'.b]? = some (Go.Obj.cells cells' e' (0, 0))
  cs : bi'.off + bi'.cap * sz ≤ cells'.size
  cap : n + k ≤ bi'.cap
  old : ∀ i j u, i < n → j < sz → cells[bi.off + (i * sz + j)]? = some u → cells'[bi'.off + (i * sz + j)]? = some u
  new : ∀ d u, us[d]? = some u → cells'[bi'.off + (n * sz + d)]? = some u
  keep : ∀ b, b < h.size → (own b ≠ some o ∨ b ≠ bi.b) → h'[b]? = h[b]?
  ne : ∀ b, b < h.size → (own b ≠ some o ∨ b ≠ bi.b) → b ≠ bi'.b
  bl : bi'.b < h'.size ∧ ((∃ z, own bi'.b = some z) ∨ h.size ≤ bi'.b)
  nil : k = 0 → bi' = bi
def ownA (own : Nat → Option Nat) (o m : Nat) (bi' : BI) : Nat → Option Nat := fun b => if b = bi'.b then some o else if own b = some m then some o else own b
theorem Pl.cells {o m sz n k : Nat} {bi bi' : BI} {cells cells' : Array Value} {e' : TypeId} {us : List Value} {old rows : List (List T)} {N N' : Nat → Nat → Value → T → Prop} (P : Pl h own o m sz n k bi bi' cells cells' e' us h') (hn : n = old.length)
    (hw : ∀ r ∈ old, r.length = sz)
    (hel : ∀ (i : Nat) (r : List T) (j : Nat) (t : T), old[i]? = some r → r[j]? = some t → ∃ u, cells[bi.off + (i * sz + j)]? = some u ∧ N i j u t)
    (hnew : ∀ (i : Nat) (r : List T) (j : Nat) (t : T), rows[i]? = some r → r[j]? = some t → ∃ u, us[i * sz + j]? = some u ∧ N' (n + i) j u t)
    (hold : ∀ i j u t, i < n → N i j u t → N' i j u t) :
    ∀ (i : Nat) (r : List T) (j : Nat) (t : T), (old ++ rows)[i]? = some r → r[j]? = some t → ∃ u, cells'[bi'.off + (i * sz + j)]? = some u ∧ N' i j u t := by
  intro i r j t hi hj
  rw [List.getElem?_append] at hi
  split at hi
  · rename_i hlt
    obtain ⟨u, h1, h2⟩ := hel i r j t hi hj
    have hjl : j < sz := by
      have := getElem?_lt (a := r.toArray) (i := j) (by simpa using hj)
      have h2 := hw r (List.mem_of_getElem? hi)
      simp at this; omega
    exact ⟨u, P.old i j u (by omega) hjl h1, hold i j u t (by omega) h2⟩
  · rename_i hge
    obtain ⟨u, h1, h2⟩ := hnew (i - old.length) r j t hi hj
    refine ⟨u, ?_, ?_⟩
    · have := P.new _ u h1
      rw [show n * sz + ((i - old.length) * sz + j) = i * sz + j by rw [← Nat.add_assoc, ← Nat.add_mul]; congr 2; omega] at this
      exact this
    · rwa [show n + (i - old.length) = i by omega] at h2
open Classical in
/-- Owned rows to owned ones. -/
theorem Mv.appOwn (R : Rel ob β C h Z own) {o m st sz : Nat} {old rows : List (List T)} {xv : Value} {us : List Value} {S : Nat → Nat → Nat → Prop} {bi' : BI} {cells cells' : Array Value} {e' : TypeId} {fo : Nat → Nat × Nat} (hc : C o) (hm : ¬ C m)
    (hob : ob o = .arr (.own 0) st sz old) (hA : ArrG h (fun b => own b = some o) sz old (β o) (NOwn h (fun b => own b = some o) (β o) fo 0)) (hRw : Rows h Z own m sz rows true xv us S) (hw : ∀ r ∈ rows, r.length = sz)
    (hel : ∀ (i : Nat) (r : List T) (j : Nat) (t : T), old[i]? = some r → r[j]? = some t → ∃ u, cells[(β o).off + (i * sz + j)]? = some u ∧ NOwn h (fun b => own b = some o) (β o) fo 0 i j u t)
    (hcb : (β o).isNil = false → ∃ e, h[(β o).b]? = some (Go.Obj.cells cells e (0, 0))) (P : Pl h own o m sz old.length rows.length (β o) bi' cells cells' e' us h') :
    Mv ob β C h Z own (upd ob o (.arr (.own 0) st sz (old ++ rows))) (upd β o bi') C h' Z (ownA own o m bi') := by
  have hmo : ∀ o', C o' → o' ≠ m := fun o' h1 h2 => hm (h2 ▸ h1)
  refine Mv.change R hc _ _ P.grow (fun b hb hn => P.keep b hb (.inl hn)) (fun o' hne ho b hb => ?_) (fun b y hb => ?_) (fun b hb hn => ?_) ?_ fun _ => ?_
  · unfold ownA
    rw [if_neg (P.ne b (R.own_lt b o' hb) (.inl fun e => hne (Option.some.inj (hb.symm.trans e)))), if_neg]
    · exact hb
    · intro e; exact hmo o' ho (Option.some.inj (hb.symm.trans e))
  · unfold ownA at hb
    split at hb
    · rename_i e; rw [e]; exact P.bl
    · split at hb
      · rename_i e; exact ⟨Nat.lt_of_lt_of_le (R.own_lt b m e) P.grow, .inl ⟨m, e⟩⟩
      · exact ⟨Nat.lt_of_lt_of_le (R.own_lt b y hb) P.grow, .inl ⟨y, hb⟩⟩
  · unfold ownA
    rw [if_neg (P.ne b hb (.inl (by rw [hn]; simp))), if_neg (by rw [hn]; simp)]; exact hn
  · rw [hob]
    refine ⟨fun p a' ha => ?_, fun p v h1 h2 hs => ⟨?_, fun q' h3 => ?_⟩, fun cs' h => by cases h⟩
    · cases p with
      | nil => simp only [VO.age, Option.some.injEq, List.length_append] at ha ⊢; exact ⟨_, rfl, by omega⟩
      | cons => simp only [VO.age, Option.some.injEq] at ha ⊢; exact ⟨_, rfl, by omega⟩
    · cases p with
      | nil => rfl
      | cons ij p =>
        obtain ⟨i, j⟩ := ij
        simp only [VO.all, V.rowsAt] at hs ⊢
        split at hs
        · rename_i q h4
          rw [Option.bind_eq_some_iff] at h4
          obtain ⟨r, h5, h6⟩ := h4
          have : (old ++ rows)[i]? = some r := by
            rw [List.getElem?_append_left (getElem?_lt (a := old.toArray) (by simpa using h5))]; exact h5
          rw [this]; simp only [Option.bind_some, h6]; exact hs
        · cases hs
    · cases p with
      | nil =>
        simp only [VO.age, Option.some.injEq, List.length_append] at h1 h2
        have h0 : rows.length = 0 := by omega
        have hr0 := List.eq_nil_of_length_eq_zero h0
        have hbi := P.nil h0
        subst hr0
        simp only [List.append_nil] at h3 ⊢
        refine ⟨q', h3, rfl, fun _ h => h, fun val h4 => ?_⟩
        obtain ⟨rfl, rfl⟩ := h4.inv0 rfl
        rw [hbi]
        exact .nil _ _
      | cons ij p =>
        obtain ⟨i, j⟩ := ij
        simp only [VO.rows] at h3 ⊢
        split at h3
        · rename_i hcond
          simp only [VO.all, V.rowsAt] at hs h3 ⊢
          split at hs
          · rename_i q h4
            rw [Option.bind_eq_some_iff] at h4
            obtain ⟨r, h5, h6⟩ := h4
            have hget : (old ++ rows)[i]? = some r := by
              rw [List.getElem?_append_left (getElem?_lt (a := old.toArray) (by simpa using h5))]; exact h5
            rw [hget] at h3
            simp only [Option.bind_some, h6] at h3
            refine ⟨q', by rw [if_pos hcond]; exact h3, rfl, fun _ h => h, fun val h7 => ?_⟩
            obtain ⟨b, off, len, cap, sz', cells1, e1, fz1, q1, r1, v1, hve, hh1, hw1, hv1, hi1, hj1, ha1⟩ := h7.inv1 rfl
            simp only [VO.val, VO.all] at hve hw1 hi1 ⊢
            rw [h5] at hi1; cases hi1
            rw [h6] at hj1; cases hj1
            have hb : (β o).isNil = false := by
              cases hb : (β o).isNil with
              | false => rfl
              | true => rw [BI.addr, if_pos hb] at hve; cases hve
            obtain ⟨hS, cells2, e2, hh2, _, _⟩ := hA.blk hb
            have hve2 := hve
            simp only [BI.addr, hb] at hve2
            cases hve2
            have hs1 : sz' = sz := by rw [← hw1 r (List.mem_of_getElem? h5), hA.wid r (List.mem_of_getElem? h5)]
            subst hs1
            obtain ⟨u, h8, h9⟩ := hel i r j _ h5 h6
            have hjl : j < sz' := by
              have := getElem?_lt (a := r.toArray) (i := j) (by simpa using h6)
              have h2 := hA.wid r (List.mem_of_getElem? h5)
              simp at this; omega
            have hil : i < old.length := getElem?_lt (a := old.toArray) (by simpa using h5)
            have hcv : u = v1 := by
              obtain ⟨e3, hh3⟩ := hcb hb
              rw [hh1] at hh3; cases hh3
              rw [hv1] at h8; cases h8; rfl
            subst hcv
            simp only [BI.addr, P.nn]
            refine .cons bi'.b bi'.off _ _ sz' cells' e' (0, 0) _ q r i j p u val q' P.hh ?_ (P.old i j u hil hjl h8) hget h6 (ha1.keepO (h9.2.2 (Nat.zero_le _)) fun b hb => P.keep b (R.own_lt b o hb.1) (.inr hb.2.1))
            intro r' hr'
            rcases List.mem_append.1 hr' with h10 | h10
            · exact hA.wid r' h10
            · exact hw r' h10
          · cases hs
        · cases h3
  · unfold ObjRel
    rw [upd_same, upd_same]
    refine ⟨fun b => if hb : ∃ ij : Nat × Nat, S ij.1 ij.2 b then (old.length + hb.choose.1, hb.choose.2) else fo b, ?_, by simpa using P.cap, fun h => (by rw [P.nn] at h; cases h), fun _ => ⟨if_pos rfl, cells', e', P.hh, P.cs, ?_⟩⟩
    · intro r' hr'
      rcases List.mem_append.1 hr' with h10 | h10
      · exact hA.wid r' h10
      · exact hw r' h10
    · refine P.cells rfl hA.wid hel (fun i r j t hi hj => ?_) fun i j u t hil hN => ?_
      · obtain ⟨u, h1, h2, h3, _⟩ := hRw.cell i r j t hi hj
        refine ⟨u, h1, h2, fun hf => flatRep hf ((h3 rfl).flat hf (fun _ => False)), fun _ => (h3 rfl).mono fun b hb => ?_⟩
        have hbm := hRw.own i j b hb
        have hlt := R.own_lt b m hbm
        have hno : own b ≠ some o := fun e => hmo o hc (Option.some.inj (e.symm.trans hbm))
        refine ⟨⟨?_, P.ne b hlt (.inl hno), ?_⟩, P.keep b hlt (.inl hno)⟩
        · show ownA own o m bi' b = some o
          unfold ownA
          rw [if_neg (P.ne b hlt (.inl hno)), if_pos hbm]
        · have hex : ∃ ij : Nat × Nat, S ij.1 ij.2 b := ⟨(i, j), hb⟩
          show (if hb : ∃ ij : Nat × Nat, S ij.1 ij.2 b then (old.length + hb.choose.1, hb.choose.2) else fo b) = _
          rw [dif_pos hex]
          have := hRw.dis _ _ _ _ b hex.choose_spec hb
          rw [this.1, this.2]
      · refine ⟨hN.1, fun hf => flatRep hf (hN.2.1 hf), fun _ => (hN.2.2 (Nat.zero_le _)).mono fun b hb => ?_⟩
        have hlt := R.own_lt b o hb.1
        refine ⟨⟨?_, P.ne b hlt (.inr hb.2.1), ?_⟩, P.keep b hlt (.inr hb.2.1)⟩
        · show ownA own o m bi' b = some o
          unfold ownA
          rw [if_neg (P.ne b hlt (.inr hb.2.1)), if_neg]
          · exact hb.1
          · intro e; exact hmo o hc (Option.some.inj (hb.1.symm.trans e))
        · show (if hb : ∃ ij : Nat × Nat, S ij.1 ij.2 b then (old.length + hb.choose.1, hb.choose.2) else fo b) = _
          rw [dif_neg]
          · exact hb.2.2
          · rintro ⟨ij, hij⟩
            exact hmo o hc (Option.some.inj (hb.1.symm.trans (hRw.own _ _ b hij)))
end Go.Proofs.YtpdpgfagklhpaaaGreat.V

namespace Go.Proofs.YtpdpgfagklhpaaaGreat.V
open Go
set_option linter.unusedVariables false
set_option linter.unusedSimpArgs false
variable {ob ob' : Nat → VO} {β β' : Nat → BI} {C C' : Nat → Prop} {h h' : Heap} {Z Z' : Nat → Prop} {own own' : Nat → Option Nat}
/-- What an operation leaves: the state, and its value. -/
def Post (σ : Sto) (β : Nat → BI) (C : Nat → Prop) (h : Heap) (Z : Nat → Prop) (own : Nat → Option Nat) (σ' : Sto) (val : Value) (v : AV) (h' : Heap) : Prop :=
  ∃ (β' : Nat → BI) (C' : Nat → Prop) (Z' : Nat → Prop) (own' : Nat → Option Nat), Mv σ.ob β C h Z own σ'.ob β' C' h' Z' own' ∧ (∀ o, C' o → C o ∨ (σ.n ≤ o ∧ o < σ'.n)) ∧ σ.n ≤ σ'.n ∧ AVRel σ'.ob β' C' h' Z' val v
/-- Rows that are only read, to rows that are only read. -/
theorem Mv.appShr (R : Rel ob β C h Z own) {o m st sz : Nat} {old rows : List (List T)} {xv : Value} {us : List Value} {S : Nat → Nat → Nat → Prop} {bi' : BI} {cells cells' : Array Value} {e' : TypeId} (hc : C o) (hm : ¬ C m)
    (hob : ob o = .arr .shr st sz old) (hA : ArrG h (fun b => own b = some o) sz old (β o) (fun _ _ v t => Rep h Z v t)) (hRw : Rows h Z own m sz rows false xv us S) (hw : ∀ r ∈ rows, r.length = sz)
    (hel : ∀ (i : Nat) (r : List T) (j : Nat) (t : T), old[i]? = some r → r[j]? = some t → ∃ u, cells[(β o).off + (i * sz + j)]? = some u ∧ Rep h Z u t)
    (P : Pl h own o m sz old.length rows.length (β o) bi' cells cells' e' us h') :
    Mv ob β C h Z own (upd ob o (.arr .shr st sz (old ++ rows))) (upd β o bi') C h' Z (ownA own o m bi') := by
  have hmo : ∀ o', C o' → o' ≠ m := fun o' h1 h2 => hm (h2 ▸ h1)
  have hZ : ∀ b, Z b → Z b ∧ h'[b]? = h[b]? := fun b hz => ⟨hz, P.keep b (R.zlt b hz).1 (.inl (by rw [(R.zlt b hz).2]; simp))⟩
  refine Mv.change R hc _ _ P.grow (fun b hb hn => P.keep b hb (.inl hn)) (fun o' hne ho b hb => ?_) (fun b y hb => ?_) (fun b hb hn => ?_) ?_ fun _ => ?_
  · unfold ownA
    rw [if_neg (P.ne b (R.own_lt b o' hb) (.inl fun e => hne (Option.some.inj (hb.symm.trans e)))), if_neg]
    · exact hb
    · intro e; exact hmo o' ho (Option.some.inj (hb.symm.trans e))
  · unfold ownA at hb
    split at hb
    · rename_i e; rw [e]; exact P.bl
    · split at hb
      · rename_i e; exact ⟨Nat.lt_of_lt_of_le (R.own_lt b m e) P.grow, .inl ⟨m, e⟩⟩
      · exact ⟨Nat.lt_of_lt_of_le (R.own_lt b y hb) P.grow, .inl ⟨y, hb⟩⟩
  · unfold ownA
    rw [if_neg (P.ne b hb (.inl (by rw [hn]; simp))), if_neg (by rw [hn]; simp)]; exact hn
  · rw [hob]
    refine ⟨fun p a' ha => ?_, fun p v h1 h2 hs => ⟨?_, fun q' h3 => ?_⟩, fun cs' h => by cases h⟩
    · cases p with
      | nil => simp only [VO.age, Option.some.injEq, List.length_append] at ha ⊢; exact ⟨_, rfl, by omega⟩
      | cons => simp only [VO.age, Option.some.injEq] at ha ⊢; exact ⟨_, rfl, by omega⟩
    · cases p with
      | nil => rfl
      | cons ij p =>
        obtain ⟨i, j⟩ := ij
        simp only [VO.all, V.rowsAt] at hs ⊢
        split at hs
        · rename_i q h4
          rw [Option.bind_eq_some_iff] at h4
          obtain ⟨r, h5, h6⟩ := h4
          have : (old ++ rows)[i]? = some r := by
            rw [List.getElem?_append_left (getElem?_lt (a := old.toArray) (by simpa using h5))]; exact h5
          rw [this]; simp only [Option.bind_some, h6]; exact hs
        · cases hs
    · cases p with
      | nil =>
        simp only [VO.age, Option.some.injEq, List.length_append] at h1 h2
        have h0 : rows.length = 0 := by omega
        have hr0 := List.eq_nil_of_length_eq_zero h0
        have hbi := P.nil h0
        subst hr0
        simp only [List.append_nil] at h3 ⊢
        refine ⟨q', h3, rfl, fun _ h => h, fun val h4 => ?_⟩
        obtain ⟨rfl, rfl⟩ := h4.inv0 rfl
        rw [hbi]
        exact .nil _ _
      | cons ij p => simp [VO.rows] at h3
  · unfold ObjRel
    rw [upd_same, upd_same]
    refine ⟨?_, by simpa using P.cap, fun h => (by rw [P.nn] at h; cases h), fun _ => ⟨if_pos rfl, cells', e', P.hh, P.cs, ?_⟩⟩
    · intro r' hr'
      rcases List.mem_append.1 hr' with h10 | h10
      · exact ArrG.wid hA r' h10
      · exact hw r' h10
    · refine P.cells rfl (ArrG.wid hA) hel (fun i r j t hi hj => ?_) fun i j u t hil hN => hN.mono hZ
      obtain ⟨u, h1, h2, _, h3⟩ := hRw.cell i r j t hi hj
      exact ⟨u, h1, (h3 rfl).mono hZ⟩
/-- Owned rows become rows that are only read. -/
theorem Mv.toShr (R : Rel ob β C h Z own) {o st sz : Nat} {old : List (List T)} (hc : C o) (hob : ob o = .arr (.own 0) st sz old) : ∃ (Z' : Nat → Prop) (own' : Nat → Option Nat),
    Mv ob β C h Z own (upd ob o (.arr .shr (st + 1) sz old)) β C h Z' own' ∧ (∀ b n, ¬ C n → own b = some n → own' b = some n) := by
  classical
  have HO := R.objs o hc
  unfold ObjRel at HO
  rw [hob] at HO
  obtain ⟨f, HO⟩ := HO
  refine ⟨fun b => Z b ∨ (own b = some o ∧ b ≠ (β o).b), fun b => if (own b = some o ∧ b ≠ (β o).b) then none else own b, Mv.give R o _ (fun b => own b = some o ∧ b ≠ (β o).b) (fun _ h => h.1) none (fun n hn => by cases hn) _ (fun b => by simp) ?_ hc fun _ => ?_, fun b n hn hb => ?_⟩
  · rw [hob]
    refine ⟨fun p a' ha => ?_, fun p v h1 h2 hs => ⟨hs, fun q' h3 => ?_⟩, fun cs' h => by cases h⟩
    · cases p with
      | nil => simp only [VO.age, Option.some.injEq] at ha ⊢; exact ⟨_, rfl, by omega⟩
      | cons => simp only [VO.age, Option.some.injEq] at ha ⊢; exact ⟨_, rfl, by omega⟩
    · cases p with
      | nil => exact ⟨q', h3, rfl, fun _ h => h, fun val h4 => h4⟩
      | cons ij p => simp [VO.rows] at h3
  · unfold ObjRel
    rw [upd_same]
    refine ⟨HO.wid, HO.cap, HO.nil, fun hb => ?_⟩
    obtain ⟨h1, cells, e, h2, h3, h4⟩ := HO.blk hb
    refine ⟨?_, cells, e, h2, h3, fun i r j t hi hj => ?_⟩
    · show (if _ then _ else _) = _
      rw [if_neg (fun h => h.2 rfl)]; exact h1
    · obtain ⟨u, h5, h6⟩ := h4 i r j t hi hj
      exact ⟨u, h5, (h6.2.2 (Nat.zero_le _)).rep fun b hb => .inr ⟨hb.1, hb.2.1⟩⟩
  · show (if _ then _ else _) = _
    rw [if_neg]
    · exact hb
    · rintro ⟨h1, _⟩
      rw [hb] at h1; cases h1; exact hn hc
theorem Rows.mono {m sz : Nat} {rows : List (List T)} {f : Bool} {xv : Value} {us : List Value} {S : Nat → Nat → Nat → Prop} (H : Rows h Z own m sz rows f xv us S) (hz : ∀ b, Z b → Z' b) (ho : ∀ b, own b = some m → own' b = some m) : Rows h Z' own' m sz rows f xv us S :=
  ⟨H.len, H.val, fun i r j t hi hj => let ⟨u, h1, h2, h3, h4⟩ := H.cell i r j t hi hj; ⟨u, h1, h2, h3, fun hf => (h4 hf).mono fun b hb => ⟨hz b hb, rfl⟩⟩, fun i j b hb => ho b (H.own i j b hb), H.dis⟩
/-- Rows taken in are given up to be read only. -/
theorem Rows.release {m sz : Nat} {rows : List (List T)} {f : Bool} {xv : Value} {us : List Value} {S : Nat → Nat → Nat → Prop} (R : Rel ob β C h Z own) (hm : ¬ C m) (H : Rows h Z own m sz rows f xv us S) :
    ∃ (Z' : Nat → Prop) (own' : Nat → Option Nat), Mv ob β C h Z own ob β C h Z' own' ∧ Rows h Z' own' m sz rows false xv us (fun _ _ _ => False) := by
  classical
  have M := Mv.release R hm (fun b => ∃ i j, S i j b) (fun b ⟨i, j, hb⟩ => H.own i j b hb)
  refine ⟨_, _, M, H.len, H.val, fun i r j t hi hj => ?_, fun _ _ _ h => h.elim, fun _ _ _ _ _ h => h.elim⟩
  obtain ⟨u, h1, h2, h3, h4⟩ := H.cell i r j t hi hj
  refine ⟨u, h1, h2, fun h => (by cases h), fun _ => ?_⟩
  cases f with
  | true => exact (h3 rfl).rep fun b hb => .inr ⟨i, j, hb⟩
  | false => exact (h4 rfl).mono fun b hb => ⟨.inl hb, rfl⟩
theorem Rows.one {m sz : Nat} {rows : List (List T)} {f : Bool} {xv : Value} {us : List Value} {S : Nat → Nat → Nat → Prop} (H : Rows h Z own m sz rows f xv us S) (hw : ∀ r ∈ rows, r.length = sz) : ∀ u ∈ us, oneV u = true := by
  intro u hu
  obtain ⟨k, hk⟩ := List.getElem?_of_mem hu
  have hkl : k < rows.length * sz := by rw [← H.len]; exact getElem?_lt (a := us.toArray) (by simpa using hk)
  obtain ⟨i, r, j, t, h1, h2, rfl⟩ := flat_split hw hkl
  obtain ⟨u2, h3, h4, _⟩ := H.cell i r j t h1 h2
  rw [hk] at h3; cases h3; exact h4
theorem Pl.inPlace {o m sz n k : Nat} {bi : BI} {cells : Array Value} {e : TypeId} {us : List Value} (hb : own bi.b = some o) (hlt : bi.b < h.size) (hn : bi.isNil = false) (hh : h[bi.b]? = some (.cells cells e (0, 0)))
    (hcs : bi.off + bi.cap * sz ≤ cells.size) (hcap : n + k ≤ bi.cap) (hus : us.length = k * sz) : bi.off + n * sz + us.length ≤ cells.size ∧ Pl h own o m sz n k bi bi cells (spl cells (bi.off + n * sz) us) e us (h.setIfInBounds bi.b (.cells (spl cells (bi.off + n * sz) us) e)) := by
  have hle : bi.off + n * sz + us.length ≤ cells.size := by
    have : (n + k) * sz ≤ bi.cap * sz := Nat.mul_le_mul_right _ hcap
    rw [Nat.add_mul] at this; omega
  refine ⟨hle, by simp, hn, getElem?_set_same hh, by rw [spl_size hle]; exact hcs, hcap, fun i j u hi hj hu => ?_, fun d u hd => ?_, fun b hb1 hb2 => ?_, fun b hb1 hb2 => ?_, ⟨by simpa using hlt, .inl ⟨o, hb⟩⟩, fun _ => rfl⟩
  · have : (i + 1) * sz ≤ n * sz := Nat.mul_le_mul_right _ hi
    rw [Nat.add_mul] at this
    rw [spl_out hle (by omega)]; exact hu
  · have hdl : d < us.length := getElem?_lt (a := us.toArray) (by simpa using hd)
    have := spl_in hle hdl
    rw [← Nat.add_assoc, this]; exact hd
  · refine getElem?_set_ne fun e4 => ?_
    rcases hb2 with h1 | h1
    · exact h1 (e4 ▸ hb)
    · exact h1 e4
  · intro e4
    rcases hb2 with h1 | h1
    · exact h1 (e4 ▸ hb)
    · exact h1 e4
theorem Pl.again {o m sz n k newCap : Nat} {bi : BI} {cells : Array Value} {e : TypeId} {us os rest : List Value} (hos : os.length = n * sz) (hold : ∀ (d : Nat) (u : Value), d < n * sz → cells[bi.off + d]? = some u → os[d]? = some u) (hus : us.length = k * sz)
    (hcap : n + k ≤ newCap) (hrest : rest.length = (newCap - (n + k)) * sz) (hk : k ≠ 0) : Pl h own o m sz n k bi ⟨h.size, 0, newCap, false⟩ cells (os ++ us ++ rest).toArray e us (h.push (.cells (os ++ us ++ rest).toArray e)) := by
  refine ⟨by simp, rfl, by simp, ?_, hcap, fun i j u hi hj hu => ?_, fun d u hd => ?_, fun b hb _ => getElem?_push_lt hb, fun b hb _ => by show b ≠ h.size; omega, ⟨by simp, .inr (Nat.le_refl _)⟩, fun h0 => absurd h0 hk⟩
  · simp only [List.size_toArray, List.length_append, hos, hus, hrest, Nat.zero_add]
    rw [← Nat.add_mul, ← Nat.add_mul]
    exact Nat.mul_le_mul_right _ (by omega)
  · have h1 : (i + 1) * sz ≤ n * sz := Nat.mul_le_mul_right _ hi
    rw [Nat.add_mul] at h1
    have h2 := hold (i * sz + j) u (by omega) hu
    simp only [Nat.zero_add, List.getElem?_toArray, List.append_assoc]
    rw [List.getElem?_append_left (by omega)]; exact h2
  · have hdl : d < us.length := getElem?_lt (a := us.toArray) (by simpa using hd)
    simp only [Nat.zero_add, List.getElem?_toArray, List.append_assoc]
    rw [List.getElem?_append_right (by omega), List.getElem?_append_left (by omega)]
    rw [show n * sz + d - os.length = d by omega]; exact hd
/-- The old cells in one list. -/
theorem old_cells {n sz : Nat} {bi : BI} {cells : Array Value} (hcs : n ≠ 0 → bi.off + n * sz ≤ cells.size) : ∃ os : List Value, os.length = n * sz ∧ (∀ (d : Nat) (u : Value), os[d]? = some u → cells[bi.off + d]? = some u) ∧ ∀ (d : Nat) (u : Value), d < n * sz → cells[bi.off + d]? = some u → os[d]? = some u := by
  rcases Nat.eq_zero_or_pos n with h0 | h0
  · subst h0
    exact ⟨[], by simp, fun d u hd => by simp at hd, fun d u hd => by simp at hd⟩
  · have := hcs (by omega)
    have H : ∀ d, d < n * sz → ∃ u, cells[bi.off + d]? = some u := fun d hd => ⟨cells[bi.off + d], Array.getElem?_eq_getElem (by omega)⟩
    obtain ⟨os, hl, hos⟩ := choose_list H
    refine ⟨os, hl, hos, fun d u hd hu => ?_⟩
    have h1 := List.getElem?_eq_getElem (l := os) (i := d) (by omega)
    rw [h1]
    have := hos d _ h1
    rw [hu] at this
    exact this.symm
end Go.Proofs.YtpdpgfagklhpaaaGreat.V

namespace Go.Proofs.YtpdpgfagklhpaaaGreat.V
open Go
set_option linter.unusedVariables false
set_option linter.unusedSimpArgs false
variable {ob ob' : Nat → VO} {β β' : Nat → BI} {C C' : Nat → Prop} {h h' : Heap} {Z Z' : Nat → Prop} {own own' : Nat → Option Nat}
theorem AVRel.refAll {x : VO} {o : Nat} {bi : BI} (hc : C o) (hob : ob o = x) (hβ : β o = bi) {m : Md} {st sz : Nat} {rows : List (List T)} (hx : x = .arr m st sz rows) : AVRel ob β C h Z (.slice bi.addr rows.length bi.cap) (.ref o rows.length []) := by
  refine .ref o _ [] _ _ _ hc ⟨fun a ha => ?_, fun _ => rfl, fun q hq => ?_⟩ (fun _ => rfl)
  · rw [hob, hx] at ha
    simp only [VO.age, Option.some.injEq] at ha
    omega
  · rw [hob, hx] at hq ⊢
    simp only [VO.rows, if_true, Option.some.injEq] at hq
    subst hq
    rw [hβ]
    exact .nil _ _
def appO (md0 : Md) (f : Bool) (st sz : Nat) (rows : List (List T)) : VO := match md0 with
  | .own _ => .arr (md f) (if f then st else st + 1) sz rows
  | _ => .arr .shr st sz rows
/-- One object's rows and more, at its own place or at a new one. -/
theorem app_obj {σ σ1 : Sto} {o m sz : Nat} {f : Bool} {old rows : List (List T)} {xv : Value} {us : List Value} {S : Nat → Nat → Nat → Prop} {md0 : Md} {st : Nat} {Z1 : Nat → Prop} {own1 : Nat → Option Nat}
    (hn : σ1.n = σ.n) (M1 : Mv σ.ob β C h Z own σ1.ob β C h Z1 own1) (hc : C o) (hm : ¬ C m) (hob : σ1.ob o = .arr md0 st sz old) (hmd : md0 = .own 0 ∨ md0 = .shr) (hRw : Rows h Z1 own1 m sz rows f xv us S) (hw : ∀ r ∈ rows, r.length = sz)
    {x : VO} (hx : x = appO md0 f st sz (old ++ rows)) :
    old.length ≤ (β o).cap ∧
    (old.length + rows.length ≤ (β o).cap → ((β o).addr = none ∧ Post σ β C h Z own ⟨σ1.n, upd σ1.ob o x⟩ (.slice none (old.length + rows.length) (β o).cap) (.ref o (old.length + rows.length) []) h) ∨
      ∃ b off cells e, (β o).addr = some ⟨b, off, none⟩ ∧ h[b]? = some (Go.Obj.cells cells e (0, 0)) ∧ off + old.length * sz + us.length ≤ cells.size ∧
        Post σ β C h Z own ⟨σ1.n, upd σ1.ob o x⟩ (.slice (some ⟨b, off, none⟩) (old.length + rows.length) (β o).cap) (.ref o (old.length + rows.length) []) (h.setIfInBounds b (.cells (spl cells (off + old.length * sz) us) e))) ∧
    ((β o).cap < old.length + rows.length → ∃ os, os.length = old.length * sz ∧ (old.length ≠ 0 → ∃ b off, (β o).addr = some ⟨b, off, none⟩ ∧ CellsAt h b off os) ∧
      ∀ (newCap : Nat) (rest : List Value) (e : TypeId), old.length + rows.length ≤ newCap → rest.length = (newCap - (old.length + rows.length)) * sz →
        Post σ β C h Z own ⟨σ1.n, upd σ1.ob o x⟩ (.slice (some ⟨h.size, 0, none⟩) (old.length + rows.length) newCap) (.ref o (old.length + rows.length) []) (h.push (.cells (os ++ us ++ rest).toArray e))) := by
  have R1 := M1.rel
  -- to the state in which the rows are joined
  have key : ∃ (Z2 : Nat → Prop) (own2 : Nat → Option Nat) (ob2 : Nat → VO), Mv σ.ob β C h Z own ob2 β C h Z2 own2 ∧ (∀ y, upd ob2 o y = upd σ1.ob o y) ∧ old.length ≤ (β o).cap ∧ ((β o).isNil = true → (β o).cap = 0) ∧
      ((β o).isNil = false → own2 (β o).b = some o ∧ ∃ cells e, h[(β o).b]? = some (Go.Obj.cells cells e (0, 0)) ∧ (β o).off + (β o).cap * sz ≤ cells.size) ∧
      ∀ (bi' : BI) (cells cells' : Array Value) (e' : TypeId) (h' : Heap), ((β o).isNil = false → ∃ e, h[(β o).b]? = some (Go.Obj.cells cells e (0, 0))) → Pl h own2 o m sz old.length rows.length (β o) bi' cells cells' e' us h' →
        Mv ob2 β C h Z2 own2 (upd ob2 o x) (upd β o bi') C h' Z2 (ownA own2 o m bi') := by
    have HO := R1.objs o hc
    unfold ObjRel at HO
    rw [hob] at HO
    have shrKey : ∀ {Z2 : Nat → Prop} {own2 : Nat → Option Nat} {ob2 : Nat → VO} {st2 : Nat} (R2 : Rel ob2 β C h Z2 own2) (hob2 : ob2 o = .arr .shr st2 sz old) (hRw2 : Rows h Z2 own2 m sz rows false xv us (fun _ _ _ => False)) (hx2 : x = .arr .shr st2 sz (old ++ rows)),
        old.length ≤ (β o).cap ∧ ((β o).isNil = true → (β o).cap = 0) ∧
        ((β o).isNil = false → own2 (β o).b = some o ∧ ∃ cells e, h[(β o).b]? = some (Go.Obj.cells cells e (0, 0)) ∧ (β o).off + (β o).cap * sz ≤ cells.size) ∧
        ∀ (bi' : BI) (cells cells' : Array Value) (e' : TypeId) (h' : Heap), ((β o).isNil = false → ∃ e, h[(β o).b]? = some (Go.Obj.cells cells e (0, 0))) → Pl h own2 o m sz old.length rows.length (β o) bi' cells cells' e' us h' →
          Mv ob2 β C h Z2 own2 (upd ob2 o x) (upd β o bi') C h' Z2 (ownA own2 o m bi') := by
      intro Z2 own2 ob2 st2 R2 hob2 hRw2 hx2
      have HO2 := R2.objs o hc
      unfold ObjRel at HO2
      rw [hob2] at HO2
      refine ⟨ArrG.cap HO2, ArrG.nil HO2, fun hb => ?_, fun bi' cells cells' e' h' hcb P => ?_⟩
      · obtain ⟨h1, cells, e, h2, h3, _⟩ := ArrG.blk HO2 hb
        exact ⟨h1, cells, e, h2, h3⟩
      · rw [hx2]
        refine Mv.appShr R2 hc hm hob2 HO2 hRw2 hw (fun i r j t hi hj => ?_) P
        have hb : (β o).isNil = false := by
          cases hb : (β o).isNil with
          | false => rfl
          | true => exact absurd (List.eq_nil_of_length_eq_zero (by have := ArrG.nil HO2 hb; have := ArrG.cap HO2; omega)) (ne_of_get hi)
        obtain ⟨e, he⟩ := hcb hb
        obtain ⟨_, cells2, e2, h2, _, h4⟩ := ArrG.blk HO2 hb
        rw [he] at h2; cases h2
        exact h4 i r j t hi hj
    rcases hmd with rfl | rfl
    · cases f with
      | true =>
        obtain ⟨fo, HO⟩ := HO
        refine ⟨Z1, own1, σ1.ob, M1, fun _ => rfl, HO.cap, HO.nil, fun hb => ?_, fun bi' cells cells' e' h' hcb P => ?_⟩
        · obtain ⟨h1, cells, e, h2, h3, _⟩ := HO.blk hb
          exact ⟨h1, cells, e, h2, h3⟩
        · have hx3 : x = .arr (.own 0) st sz (old ++ rows) := hx
          rw [hx3]
          refine Mv.appOwn R1 hc hm hob HO hRw hw (fun i r j t hi hj => ?_) hcb P
          have hb : (β o).isNil = false := by
            cases hb : (β o).isNil with
            | false => rfl
            | true => exact absurd (List.eq_nil_of_length_eq_zero (by have := HO.nil hb; have := HO.cap; omega)) (ne_of_get hi)
          obtain ⟨e, he⟩ := hcb hb
          obtain ⟨_, cells2, e2, h2, _, h4⟩ := HO.blk hb
          rw [he] at h2; cases h2
          exact h4 i r j t hi hj
      | false =>
        obtain ⟨Z2, own2, M2, hk⟩ := Mv.toShr R1 hc hob
        have hRw2 := hRw.mono (Z' := Z2) (own' := own2) M2.good.zin (fun b hb => hk b m hm hb)
        obtain ⟨Z3, own3, M3, hRw3⟩ := hRw2.release M2.rel hm
        obtain ⟨h1, h2, h3, h4⟩ := shrKey (st2 := st + 1) M3.rel (upd_same _ _ _) hRw3 hx
        exact ⟨Z3, own3, _, M1.trans (M2.trans M3), fun y => by funext k; simp only [upd]; split <;> rfl, h1, h2, h3, h4⟩
    · obtain ⟨Z3, own3, M3, hRw3⟩ := hRw.release R1 hm
      obtain ⟨h1, h2, h3, h4⟩ := shrKey (st2 := st) M3.rel hob hRw3 hx
      exact ⟨Z3, own3, _, M1.trans M3, fun _ => rfl, h1, h2, h3, h4⟩
  obtain ⟨Z2, own2, ob2, M2, hup, hcap, hnil, hblk, hjoin⟩ := key
  have hfin : ∀ {bi' : BI} {h' : Heap} {cells' : Array Value}, Mv ob2 β C h Z2 own2 (upd ob2 o x) (upd β o bi') C h' Z2 (ownA own2 o m bi') → Post σ β C h Z own ⟨σ1.n, upd σ1.ob o x⟩ (.slice bi'.addr (old.length + rows.length) bi'.cap) (.ref o (old.length + rows.length) []) h' := by
    intro bi' h' _ M3
    rw [hup] at M3
    refine ⟨_, _, _, _, M2.trans M3, fun o ho => .inl ho, by simp [hn], ?_⟩
    have : ∃ m' st', x = .arr m' st' sz (old ++ rows) := by
      rw [hx]
      rcases hmd with rfl | rfl
      · exact ⟨_, _, rfl⟩
      · exact ⟨_, _, rfl⟩
    obtain ⟨m', st', hx'⟩ := this
    have := AVRel.refAll (ob := upd σ1.ob o x) (β := upd β o bi') (h := h') (Z := Z2) hc (upd_same _ _ _) (upd_same _ _ _) hx'
    simpa using this
  refine ⟨hcap, fun hle => ?_, fun hgt => ?_⟩
  · cases hb : (β o).isNil with
    | true =>
      have h0 := hnil hb
      have hr0 : rows = [] := List.eq_nil_of_length_eq_zero (by omega)
      have ho0 : old = [] := List.eq_nil_of_length_eq_zero (by omega)
      refine .inl ⟨by simp [BI.addr, hb], ?_⟩
      -- nothing is there and nothing comes
      have HO := M2.rel.objs o hc
      have hxx : ∃ m' st', x = .arr m' st' sz [] := by
        rw [hx, hr0, ho0]
        rcases hmd with rfl | rfl
        · exact ⟨_, _, rfl⟩
        · exact ⟨_, _, rfl⟩
      have hempty : Mv σ1.ob β C h Z1 own1 (upd σ1.ob o x) β C h Z1 own1 := by
        subst hr0; subst ho0
        have HO1 := R1.objs o hc
        unfold ObjRel at HO1
        rw [hob] at HO1
        have hevo : Evo (σ1.ob o) (β o) h x (β o) h := by
          rw [hob]
          obtain ⟨m', st', hx'⟩ := hxx
          have hst : st ≤ st' := by
            rw [hx] at hx'
            rcases hmd with rfl | rfl
            · cases f <;> simp [appO, md] at hx' <;> omega
            · simp [appO] at hx'; omega
          rw [hx']
          refine ⟨fun p a' ha => ?_, fun p v h1 h2 hs => ?_, fun cs' h => by cases h⟩
          · cases p with
            | nil => simp only [VO.age, Option.some.injEq] at ha ⊢; exact ⟨_, rfl, by omega⟩
            | cons => simp only [VO.age, Option.some.injEq] at ha ⊢; exact ⟨_, rfl, by omega⟩
          · cases p with
            | nil => exact ⟨rfl, fun q' h3 => ⟨q', h3, rfl, fun _ h => h, fun val h4 => h4⟩⟩
            | cons ij p => simp [VO.all, V.rowsAt] at hs
        refine ⟨⟨R1.own_lt, R1.zlt, fun o' ho => ?_, fun o' ho => ?_⟩, .refl _ _ _, fun o' ho => ⟨ho, ?_⟩⟩
        · by_cases e : o' = o
          · subst e
            unfold ObjRel
            rw [upd_same, hx]
            have hg : ∀ N : Nat → Nat → Value → T → Prop, ArrG h (fun b => own1 b = some o') sz ([] ++ []) (β o') N := fun N => ⟨fun r hr => by simp at hr, by simp, fun _ => h0, fun h1 => by rw [hb] at h1; cases h1⟩
            rcases hmd with rfl | rfl
            · cases f
              · exact hg _
              · exact ⟨fun _ => (0, 0), hg _⟩
            · exact hg _
          · exact ObjRel.mono (upd_ne _ _ e) rfl (fun b hb => ⟨hb, rfl⟩) (fun b hb => ⟨hb, rfl⟩) (fun v a => AVRel.mono (fun b hb => ⟨hb, rfl⟩) fun o2 ho2 => ⟨ho2, by
              by_cases e2 : o2 = o
              · subst e2; rw [upd_same]; exact hevo
              · rw [upd_ne _ _ e2]; exact .same fun _ _ _ _ _ ha => ha⟩) (R1.objs o' ho)
        · have : o' ≠ o := fun e => ho (e ▸ hc)
          rw [upd_ne _ _ this]; exact R1.dead o' ho
        · by_cases e : o' = o
          · subst e; rw [upd_same]; exact hevo
          · rw [upd_ne _ _ e]; exact .same fun _ _ _ _ _ ha => ha
      refine ⟨_, _, _, _, M1.trans hempty, fun o ho => .inl ho, by simp [hn], ?_⟩
      obtain ⟨m', st', hx'⟩ := hxx
      have := AVRel.refAll (ob := upd σ1.ob o x) (β := β) (h := h) (Z := Z1) hc (upd_same _ _ _) rfl hx'
      rw [hr0, ho0]
      simpa [BI.addr, hb] using this
    | false =>
      obtain ⟨h1, cells, e, h2, h3⟩ := hblk hb
      obtain ⟨hle2, P⟩ := Pl.inPlace (o := o) (own := own2) (m := m) (us := us) h1 (M2.rel.own_lt _ _ h1) hb h2 h3 hle hRw.len
      refine .inr ⟨(β o).b, (β o).off, cells, e, by simp [BI.addr, hb], h2, hle2, ?_⟩
      have := hfin (cells' := cells) (hjoin _ cells _ _ _ (fun _ => ⟨e, h2⟩) P)
      simpa [BI.addr, hb] using this
  · have hcells : ∃ cells : Array Value, ((β o).isNil = false → ∃ e, h[(β o).b]? = some (Go.Obj.cells cells e (0, 0))) ∧ (old.length ≠ 0 → (β o).isNil = false ∧ (β o).off + old.length * sz ≤ cells.size) := by
      cases hb : (β o).isNil with
      | true => exact ⟨#[], fun h => (by cases h), fun h => absurd (by have := hnil hb; omega) h⟩
      | false =>
        obtain ⟨h1, cells, e, h2, h3⟩ := hblk hb
        refine ⟨cells, fun _ => ⟨e, h2⟩, fun _ => ⟨rfl, ?_⟩⟩
        have : old.length * sz ≤ (β o).cap * sz := Nat.mul_le_mul_right _ hcap
        omega
    obtain ⟨cells, hcb, hcs⟩ := hcells
    obtain ⟨os, hol, ho1, ho2⟩ := old_cells (n := old.length) (sz := sz) (bi := β o) (cells := cells) (fun hne => (hcs hne).2)
    refine ⟨os, hol, fun hne => ?_, fun newCap rest e hnc hrl => ?_⟩
    · have hb := (hcs hne).1
      obtain ⟨e, he⟩ := hcb hb
      exact ⟨(β o).b, (β o).off, by simp [BI.addr, hb], cells, e, _, he, ho1⟩
    · have P := Pl.again (h := h) (own := own2) (o := o) (m := m) (bi := β o) (cells := cells) (e := e) (us := us) (os := os) (rest := rest) hol ho2 hRw.len hnc hrl (by omega)
      have := hfin (cells' := cells) (hjoin _ cells _ _ _ hcb P)
      simpa [BI.addr] using this
theorem appendV_ok {flat : Bool} {σ σ' : Sto} {sz : Nat} {a x r : AV} {av xv : Value} (R : Rel σ.ob β C h Z own) (hf : ∀ o, σ.n ≤ o → ¬ C o) (ha : AVRel σ.ob β C h Z av a) (hx : AVRel σ.ob β C h Z xv x) (H : appendV flat σ sz a x = some (r, σ')) :
    ∃ base sLen sCap xb k xc us, av = .slice base sLen sCap ∧ xv = .slice xb k xc ∧ us.length = k * sz ∧ (k ≠ 0 → ∃ b off, xb = some ⟨b, off, none⟩ ∧ CellsAt h b off us) ∧ (∀ u ∈ us, oneV u = true) ∧ sLen ≤ sCap ∧ sLen + k < 2 ^ 40 ∧
      (sLen + k ≤ sCap → (base = none ∧ Post σ β C h Z own σ' (.slice none (sLen + k) sCap) r h) ∨
        ∃ b off cells e, base = some ⟨b, off, none⟩ ∧ h[b]? = some (Go.Obj.cells cells e (0, 0)) ∧ off + sLen * sz + us.length ≤ cells.size ∧
          Post σ β C h Z own σ' (.slice (some ⟨b, off, none⟩) (sLen + k) sCap) r (h.setIfInBounds b (.cells (spl cells (off + sLen * sz) us) e))) ∧
      (sCap < sLen + k → ∃ os, os.length = sLen * sz ∧ (sLen ≠ 0 → ∃ b off, base = some ⟨b, off, none⟩ ∧ CellsAt h b off os) ∧
        ∀ (newCap : Nat) (rest : List Value) (e : TypeId), sLen + k ≤ newCap → rest.length = (newCap - (sLen + k)) * sz →
          Post σ β C h Z own σ' (.slice (some ⟨h.size, 0, none⟩) (sLen + k) newCap) r (h.push (.cells (os ++ us ++ rest).toArray e))) := by
  unfold appendV at H
  split at H
  · cases H
  · rename_i rows f σ1 hrv
    split at H
    · rename_i hcond
      have hw : ∀ q ∈ rows, q.length = sz := by
        intro q hq
        have := hcond.1
        rw [List.all_eq_true] at this
        simpa using this q hq
      have hm : ¬ C σ.n := hf _ (Nat.le_refl _)
      obtain ⟨hn, Z1, own1, S, us, M1, hRw⟩ := rowsV_ok R hm hrv hx hw hcond.2
      obtain ⟨xb, xc, rfl, hxc⟩ := hRw.val
      have hk : ∀ (hne : rows.length ≠ 0), ∃ b off, xb = some ⟨b, off, none⟩ ∧ CellsAt h b off us := fun hne => hxc (by rintro rfl; exact hne rfl)
      split at H
      · cases ha with
        | t _ _ hy =>
          cases hy
          split at H
          · rename_i h0
            cases H
            refine ⟨none, 0, 0, xb, rows.length, xc, us, rfl, rfl, hRw.len, hk, hRw.one hw, Nat.le_refl _, by omega, fun _ => .inl ⟨rfl, β, C, Z1, own1, M1, fun o ho => .inl ho, by omega, ?_⟩, fun h => by omega⟩
            rw [h0]; exact .t _ _ .nl
          · rename_i h0
            split at H
            · rename_i hlt
              cases H
              refine ⟨none, 0, 0, xb, rows.length, xc, us, rfl, rfl, hRw.len, hk, hRw.one hw, Nat.le_refl _, by omega, fun h => by omega, fun _ => ⟨[], by simp, fun h => absurd rfl h, fun newCap rest e hnc hrl => ?_⟩⟩
              have hm1 : ¬ C σ1.n := by rw [hn]; exact hm
              have M2 := Mv.newArr M1.rel hm1 f sz rows (us ++ rest).toArray e newCap S hw (by omega) (by
                simp only [List.size_toArray, List.length_append, hRw.len, hrl, Nat.zero_add]
                rw [← Nat.add_mul]; exact Nat.mul_le_mul_right _ (by omega)) (fun i r j t hi hj => by
                obtain ⟨u, h1, h2, h3, h4⟩ := hRw.cell i r j t hi hj
                refine ⟨u, ?_, h2, h3, h4⟩
                have : i * sz + j < us.length := getElem?_lt (a := us.toArray) (by simpa using h1)
                simp only [List.getElem?_toArray]
                rw [List.getElem?_append_left this]; exact h1) (fun i j b hb => by rw [hn]; exact hRw.own i j b hb) hRw.dis
              refine ⟨_, _, _, _, M1.trans M2, fun o ho => ?_, by simp [Sto.new, hn], ?_⟩
              · rcases ho with ho | rfl
                · exact .inl ho
                · exact .inr ⟨by omega, by simp [Sto.new]⟩
              · have := AVRel.refAll (ob := upd σ1.ob σ1.n (.arr (md f) 0 sz rows)) (β := upd β σ1.n ⟨h.size, 0, newCap, false⟩) (C := fun o => C o ∨ o = σ1.n) (h := h.push (.cells (us ++ rest).toArray e)) (Z := Z1) (o := σ1.n) (.inr rfl) (upd_same _ _ _) (upd_same _ _ _) rfl
                simpa [BI.addr, Sto.new] using this
            · cases H
      · rename_i o v
        cases ha with
        | ref _ _ _ ad l c hc hr =>
          have hr1 : RefOk (σ1.ob o) (β o) h v [] (.slice ad l c) := hr.mono (M1.evo o hc).2
          split at H
          · rename_i st z old hob
            split at H
            · rename_i hcond2
              obtain ⟨rfl, rfl, hlt⟩ := hcond2
              cases H
              rw [hob] at hr1
              have hval := hr1.whole
              cases hval
              obtain ⟨h1, h2, h3⟩ := app_obj (σ := σ) hn M1 hc hm hob (.inl rfl) hRw hw (x := .arr (md f) (if f then st else st + 1) z (old ++ rows)) rfl
              exact ⟨(β o).addr, old.length, (β o).cap, xb, rows.length, xc, us, rfl, rfl, hRw.len, hk, hRw.one hw, h1, hlt, h2, h3⟩
            · cases H
          · rename_i st z old hob
            split at H
            · rename_i hcond2
              obtain ⟨rfl, rfl, hlt⟩ := hcond2
              cases H
              rw [hob] at hr1
              have hval := hr1.whole
              cases hval
              obtain ⟨h1, h2, h3⟩ := app_obj (σ := σ) hn M1 hc hm hob (.inr rfl) hRw hw (x := .arr .shr st z (old ++ rows)) rfl
              exact ⟨(β o).addr, old.length, (β o).cap, xb, rows.length, xc, us, rfl, rfl, hRw.len, hk, hRw.one hw, h1, hlt, h2, h3⟩
            · cases H
          · cases H
      · cases H
    · cases H
end Go.Proofs.YtpdpgfagklhpaaaGreat.V

namespace Go.Proofs.YtpdpgfagklhpaaaGreat.V
open Go
set_option linter.unusedVariables false
set_option linter.unusedSimpArgs false
variable {ob ob' : Nat → VO} {β β' : Nat → BI} {C C' : Nat → Prop} {h h' : Heap} {Z Z' : Nat → Prop} {own own' : Nat → Option Nat}
def ownP (own : Nat → Option Nat) (n o : Nat) : Nat → Option Nat := fun b => if own b = some n then some o else own b
open Classical in
noncomputable def labP (own : Nat → Option Nat) (n i j : Nat) (S : Nat → Nat → Prop) (f : Nat → Nat × Nat) : Nat → Nat × Nat := fun b => if own b = some n then (i, j + (if hx : ∃ k, S k b then hx.choose else 0)) else f b
theorem labP_new {n i j k b : Nat} {S : Nat → Nat → Prop} {f : Nat → Nat × Nat} (hS : ∀ k b, S k b → own b = some n) (hd : ∀ a c b, S a b → S c b → a = c) (hk : S k b) : labP own n i j S f b = (i, j + k) := by
  unfold labP
  rw [if_pos (hS k b hk)]
  have hx : ∃ k, S k b := ⟨k, hk⟩
  rw [dif_pos hx, hd _ _ _ hx.choose_spec hk]
theorem Mv.putOwn (R : Rel ob β C h Z own) {o n st sz i j : Nat} {old : List (List T)} {r xs : List T} {us : List Value} {S : Nat → Nat → Prop} {cells : Array Value} {e : TypeId} (hc : C o) (hn : ¬ C n) (hob : ob o = .arr (.own 0) st sz old) (hr : old[i]? = some r) (hle : j + xs.length ≤ r.length)
    (hl : us.length = xs.length) (hv : ∀ (k : Nat) (u : Value) (x : T), us[k]? = some u → xs[k]? = some x → oneV u = true ∧ RepO h (S k) u x) (hS : ∀ k b, S k b → own b = some n) (hd : ∀ a c b, S a b → S c b → a = c) (hnil : (β o).isNil = false)
    (hcell : h[(β o).b]? = some (.cells cells e (0, 0))) :
    Mv ob β C h Z own (upd ob o (.arr (.own 0) (st + 1) sz (old.set i (putT r j xs)))) (upd β o (β o)) C (h.setIfInBounds (β o).b (.cells (spl cells ((β o).off + (i * sz + j)) us) e)) Z (ownP own n o) := by
  have hmo : ∀ o', C o' → o' ≠ n := fun o' h1 h2 => hn (h2 ▸ h1)
  have HO := R.objs o hc
  unfold ObjRel at HO
  rw [hob] at HO
  obtain ⟨f, HO⟩ := HO
  obtain ⟨hb, _⟩ := HO.blk hnil
  refine Mv.change R hc _ _ (by simp) (fun b hb1 hne => getElem?_set_ne fun e => by subst e; exact hne hb) (fun o' hne ho b hb1 => ?_) (fun b y hy => ?_) (fun b hb1 hn1 => ?_) ?_ fun hAV => ?_
  · unfold ownP
    rw [if_neg]
    · exact hb1
    · intro e; exact hmo o' ho (Option.some.inj (hb1.symm.trans e))
  · unfold ownP at hy
    split at hy
    · rename_i e; exact ⟨by simpa using R.own_lt b n e, .inl ⟨n, e⟩⟩
    · exact ⟨by simpa using R.own_lt b y hy, .inl ⟨y, hy⟩⟩
  · unfold ownP; rw [if_neg (by rw [hn1]; simp)]; exact hn1
  · rw [hob]
    refine ⟨fun p a' ha => ?_, fun p v h1 h2 hs => ?_, fun cs' h => by cases h⟩
    · cases p with
      | nil => simp only [VO.age, Option.some.injEq, List.length_set] at ha ⊢; exact ⟨_, rfl, by omega⟩
      | cons => simp only [VO.age, Option.some.injEq] at ha ⊢; exact ⟨_, rfl, by omega⟩
    · cases p with
      | nil =>
        refine ⟨rfl, fun q' h3 => ?_⟩
        simp only [VO.rows, List.length_set] at h3 ⊢
        split at h3
        · rename_i hcond
          cases h3
          refine ⟨old, by rw [if_pos hcond], by simp, fun sz' hw r' hr' => ?_, fun val h7 => ?_⟩
          · rcases List.mem_or_eq_of_mem_set hr' with h8 | h8
            · exact hw r' h8
            · rw [h8, putT_len hle]; exact hw r (List.mem_of_getElem? hr)
          · rw [(h7.inv0 rfl).1]
            simp only [VO.val, VO.all, List.length_set]
            exact .nil _ _
        · cases h3
      | cons ij p => simp only [VO.age, Option.some.injEq] at h1 h2; omega
  · unfold ObjRel
    rw [upd_same, upd_same]
    have hrl : r.length = sz := HO.wid r (List.mem_of_getElem? hr)
    have hio : i < old.length := (List.getElem?_eq_some_iff.1 hr).1
    obtain ⟨_, cells2, e2, hh2, hsz2, hel⟩ := HO.blk hnil
    rw [hcell] at hh2
    cases hh2
    have hcap := HO.cap
    have h10 : (i + 1) * sz ≤ (β o).cap * sz := Nat.mul_le_mul_right _ (by omega)
    rw [Nat.add_mul] at h10
    have hsize : (β o).off + (i * sz + j) + us.length ≤ cells.size := by omega
    have hbne : ownP own n o (β o).b = some o := by
      unfold ownP
      rw [hb]
      split <;> rfl
    have hin : (β o).b < h.size := R.own_lt _ _ hb
    have hbn : ∀ b, own b = some n → b ≠ (β o).b := fun b h1 h2 => by
      rw [h2, hb] at h1; exact hmo o hc (Option.some.inj h1)
    refine ⟨labP own n i j S f, fun r' hr' => ?_, by simpa using hcap, fun hx => (by rw [hnil] at hx; cases hx), fun _ => ⟨hbne, spl cells ((β o).off + (i * sz + j)) us, e, by simp [hin], by rw [spl_size hsize]; exact hsz2, fun i' r' j' t hi' hj' => ?_⟩⟩
    · rcases List.mem_or_eq_of_mem_set hr' with h8 | h8
      · exact HO.wid r' h8
      · rw [h8, putT_len hle]; exact hrl
    · have old_ok : ∀ (r0 : List T), old[i']? = some r0 → r0[j']? = some t → (i' = i → j' < j ∨ j + xs.length ≤ j') → ∃ v, (spl cells ((β o).off + (i * sz + j)) us)[(β o).off + (i' * sz + j')]? = some v ∧ NOwn (h.setIfInBounds (β o).b (.cells (spl cells ((β o).off + (i * sz + j)) us) e)) (fun b => ownP own n o b = some o) (β o) (labP own n i j S f) 0 i' j' v t := by
        intro r0 h1 h2 h3
        obtain ⟨v, hv1, hv2⟩ := hel i' r0 j' t h1 h2
        have hj0 : j' < sz := by have := (List.getElem?_eq_some_iff.1 h2).1; rw [HO.wid r0 (List.mem_of_getElem? h1)] at this; exact this
        refine ⟨v, ?_, hv2.1, fun hf => (hv2.2.1 hf).mono fun b hb => hb.elim, fun hk => (hv2.2.2 hk).mono fun b hb1 => ⟨⟨?_, hb1.2.1, ?_⟩, getElem?_set_ne fun e => hb1.2.1 e⟩⟩
        · rw [spl_out hsize]
          · exact hv1
          · rcases Nat.lt_trichotomy i' i with h4 | h4 | h4
            · left
              have : (i' + 1) * sz ≤ i * sz := Nat.mul_le_mul_right _ h4
              rw [Nat.add_mul] at this; omega
            · subst h4
              rcases h3 rfl with h5 | h5
              · left; omega
              · right; omega
            · right
              have : (i + 1) * sz ≤ i' * sz := Nat.mul_le_mul_right _ h4
              rw [Nat.add_mul] at this; omega
        · show ownP own n o b = some o
          unfold ownP; rw [if_neg (fun h4 => hmo o hc (Option.some.inj (hb1.1.symm.trans h4)))]; exact hb1.1
        · unfold labP; rw [if_neg (fun h4 => hmo o hc (Option.some.inj (hb1.1.symm.trans h4)))]; exact hb1.2.2
      by_cases hii : i' = i
      · subst hii
        rw [List.getElem?_set_self hio] at hi'
        cases hi'
        rw [putT_get hle] at hj'
        split at hj'
        · rename_i hjj
          have hk : j' - j < us.length := by omega
          obtain ⟨h1, h2⟩ := hv (j' - j) _ t (List.getElem?_eq_getElem hk) hj'
          refine ⟨us[j' - j], ?_, h1, fun hf => (h2.flat hf (fun _ => False)).mono fun b hb => hb.elim, fun _ => h2.mono fun b hb1 => ⟨⟨?_, hbn b (hS _ _ hb1), ?_⟩, getElem?_set_ne fun e => hbn b (hS _ _ hb1) e⟩⟩
          · have := spl_in hsize hk
            rw [List.getElem?_eq_getElem hk] at this
            rw [← this]; congr 1; omega
          · show ownP own n o b = some o
            unfold ownP; rw [if_pos (hS _ _ hb1)]
          · rw [labP_new hS hd hb1]; congr 1; omega
        · rename_i hjj
          exact old_ok r hr hj' fun _ => by omega
      · rw [List.getElem?_set_ne (fun e => hii e.symm)] at hi'
        exact old_ok r' hi' hj' fun e => absurd e hii
theorem absorb_one {σ σ1 : Sto} {a : AV} {x : T} {f : Bool} (H : absorb σ a = some (x, f, σ1)) : a.one = true := by
  cases a with
  | t x => rfl
  | ref o v p => rfl
  | _ => simp [absorb] at H
theorem absorbL_one : ∀ (l : List AV) {σ σ1 : Sto} {xs : List T} {f : Bool}, absorbL σ l = some (xs, f, σ1) → l.all AV.one = true
  | [], σ, σ1, xs, f, H => rfl
  | a :: l, σ, σ1, xs, f, H => by
    simp only [absorbL] at H
    split at H
    · rename_i x f1 σ2 h1
      split at H
      · rename_i ys g σ3 h2
        rw [List.all_cons, absorb_one h1, absorbL_one l h2]; rfl
      · cases H
    · cases H
theorem storeN_one {σ : Sto} {p : AV} {vs : List AV} {s : Sto} (H : storeN σ p vs = some s) : vs.all AV.one = true := by
  unfold storeN at H
  split at H
  · split at H
    · rename_i h1; exact absorbL_one _ h1
    · cases H
  · cases H
theorem storeN_ok {σ σ' : Sto} (R : Rel σ.ob β C h Z own) (hf : ¬ C σ.n) {a : AV} {vs : List AV} {pv : Value} {us : List Value} (hv : AVRel σ.ob β C h Z pv a) (hlen : us.length = vs.length)
    (hu : ∀ (k : Nat) (u : Value) (x : AV), us[k]? = some u → vs[k]? = some x → AVRel σ.ob β C h Z u x) (hs : storeN σ a vs = some σ') :
    ∃ b off cells e, pv = .pointer (some ⟨b, off, none⟩) ∧ h[b]? = some (Go.Obj.cells cells e (0, 0)) ∧ off + us.length ≤ cells.size ∧ (∀ u ∈ us, oneV u = true) ∧ σ'.n = σ.n ∧
      ∃ Z' own', Mv σ.ob β C h Z own σ'.ob β C (h.setIfInBounds b (.cells (spl cells off us) e)) Z' own' := by
  unfold storeN at hs
  split at hs
  · rename_i o v i j
    split at hs
    · rename_i xs σ1 habs
      split at hs
      · rename_i st sz old hob
        split at hs
        · rename_i r hr
          split at hs
          · rename_i hcond
            cases hs
            obtain ⟨hol, hle⟩ := hcond
            obtain ⟨hn1, hxl, Z1, own1, S, M1, hrep, hS, _, hd⟩ := absorbL_ok hf vs R habs hlen hu
            have hv1 := M1.av R hv
            cases hv1 with
            | eptr _ _ _ _ _ ad hc hx =>
              rw [hob] at hx
              obtain ⟨b, off, len, cap, sz', hat, hw, hi, had⟩ := hx.2.2 old (by simp [VO.rows, hol])
              obtain ⟨hval, _⟩ := hat.inv0 rfl
              have hnil : (β o).isNil = false := by
                cases hb : (β o).isNil with
                | false => rfl
                | true => simp [VO.val, BI.addr, hb] at hval
              simp only [VO.val, BI.addr, hnil, Bool.false_eq_true, if_false, Value.slice.injEq, Option.some.injEq, Addr.mk.injEq] at hval
              obtain ⟨⟨rfl, rfl, _⟩, rfl, rfl⟩ := hval
              have HO := M1.rel.objs o hc
              unfold ObjRel at HO
              rw [hob] at HO
              obtain ⟨f, HO⟩ := HO
              obtain ⟨hb, cells, e, hcell, hcs, _⟩ := HO.blk hnil
              have hsz : sz' = sz := by rw [← hw r (List.mem_of_getElem? hr), HO.wid r (List.mem_of_getElem? hr)]
              subst hsz
              have hrl : r.length = sz' := hw r (List.mem_of_getElem? hr)
              have hsize : (β o).off + (i * sz' + j) + us.length ≤ cells.size := by
                have h1 : (i + 1) * sz' ≤ (β o).cap * sz' := Nat.mul_le_mul_right _ (by have := HO.cap; omega)
                rw [Nat.add_mul] at h1; omega
              have hone : ∀ u ∈ us, oneV u = true := fun u hu2 => by
                obtain ⟨k, hk⟩ := List.getElem?_of_mem hu2
                have hkl : k < xs.length := by
                  have := (List.getElem?_eq_some_iff.1 hk).1; omega
                exact (hrep k u xs[k] hk (List.getElem?_eq_getElem hkl)).1
              have M2 := Mv.putOwn M1.rel hc hf hob hr hle (by omega) (us := us) (S := S) (fun k u x h1 h2 => by
                obtain ⟨h3, h4⟩ := hrep k u x h1 h2
                refine ⟨h3, ?_⟩
                rcases h4 with h4 | ⟨h4, _⟩
                · exact h4
                · cases h4) (fun k b hb => (hS k b hb).1) (fun a c b => hd a c b) hnil hcell
              have hβ : upd β o (β o) = β := by funext x; unfold upd; split
                                                · rename_i e; rw [e]
                                                · rfl
              rw [hβ] at M2
              exact ⟨(β o).b, (β o).off + (i * sz' + j), cells, e, by rw [had], hcell, hsize, hone, hn1, _, _, M1.trans M2⟩
          · cases hs
        · cases hs
      · cases hs
    · cases hs
  · cases hs
theorem storeW_one {σ : Sto} {p : AV} {vs : List AV} {s : Sto} (h1 : storeV σ p vs = some s → vs.all AV.one = true) (H : storeW σ p vs = some s) : vs.all AV.one = true := by
  unfold storeW at H
  split at H
  · rename_i s' hs; cases H; exact h1 hs
  · exact storeN_one H
theorem storeW_ok {σ σ' : Sto} (R : Rel σ.ob β C h Z own) (hf : ¬ C σ.n) {a : AV} {vs : List AV} {pv : Value} {us : List Value} (hv : AVRel σ.ob β C h Z pv a) (hlen : us.length = vs.length)
    (hu : ∀ (k : Nat) (u : Value) (x : AV), us[k]? = some u → vs[k]? = some x → AVRel σ.ob β C h Z u x) (hs : storeW σ a vs = some σ') :
    ∃ b off cells e, pv = .pointer (some ⟨b, off, none⟩) ∧ h[b]? = some (Go.Obj.cells cells e (0, 0)) ∧ off + us.length ≤ cells.size ∧ (∀ u ∈ us, oneV u = true) ∧ σ'.n = σ.n ∧
      ∃ Z' own', Mv σ.ob β C h Z own σ'.ob β C (h.setIfInBounds b (.cells (spl cells off us) e)) Z' own' := by
  unfold storeW at hs
  split at hs
  · rename_i s' h1
    cases hs
    obtain ⟨b, off, cells, e, h2, h3, h4, h5, h6, M⟩ := storeV_ok R hv hlen hu h1
    exact ⟨b, off, cells, e, h2, h3, h4, h5, h6, Z, own, M⟩
  · exact storeN_ok R hf hv hlen hu hs
end Go.Proofs.YtpdpgfagklhpaaaGreat.V

namespace Go.Proofs.YtpdpgfagklhpaaaGreat.V
open Go
set_option linter.unusedVariables false
set_option linter.unusedSimpArgs false
variable {P : Program} {M : Nat → Bool} {X : Ora} {ob ob' : Nat → VO} {β β' : Nat → BI} {C C' : Nat → Prop} {h h' : Heap} {Z Z' : Nat → Prop} {own own' : Nat → Option Nat}
/-- The temporaries are told. -/
def RelT (ob : Nat → VO) (β : Nat → BI) (C : Nat → Prop) (h : Heap) (Z : Nat → Prop) (a : Act) (tm : Nat → AV) : Prop := ∀ x, AVRel ob β C h Z (a.tmps.getD x Go.undef) (tm x)
theorem constT_ok {v : Value} {x : T} (hv : constT v = some x) : Rep h Z v x := by
  unfold constT at hv
  split at hv <;> cases hv
  · exact .b _
  · exact .i _ _
  · exact .s _
  · exact .nl
theorem constV_ok {v : Value} {x : AV} (hv : constV v = some x) : AVRel ob β C h Z v x := by
  unfold constV at hv
  split at hv
  · rename_i cs
    rw [Option.map_eq_some_iff] at hv
    obtain ⟨l, hl, rfl⟩ := hv
    have key : ∀ (cs : List Value) (l : List T), cs.mapM constT = some l → cs.length = l.length ∧ ∀ (i : Nat) (v : Value) (t : T), cs[i]? = some v → l[i]? = some t → constT v = some t := by
      intro cs
      induction cs with
      | nil => intro l hl; simp at hl; subst hl; exact ⟨rfl, fun i v t hi => by simp at hi⟩
      | cons c cs ih =>
        intro l hl
        rw [List.mapM_cons] at hl
        simp only [Option.pure_def, Option.bind_eq_bind, Option.bind_eq_some_iff, Option.some.injEq] at hl
        obtain ⟨t, ht, ts, hts, rfl⟩ := hl
        obtain ⟨h1, h2⟩ := ih ts hts
        refine ⟨by simp [h1], fun i v t' hi ht' => ?_⟩
        cases i with
        | zero => simp at hi ht'; subst hi; subst ht'; exact ht
        | succ i => exact h2 i v t' (by simpa using hi) (by simpa using ht')
    obtain ⟨h1, h2⟩ := key _ l hl
    refine .agg cs _ (by simpa using h1) fun i v a hi ha => ?_
    rw [List.getElem?_map, Option.map_eq_some_iff] at ha
    obtain ⟨t, ht, rfl⟩ := ha
    exact .t _ _ (constT_ok (h2 i v t (by simpa using hi) ht))
  · cases hv; exact .np
  · cases hv; exact .nf
  · rw [Option.map_eq_some_iff] at hv
    obtain ⟨x, hx, rfl⟩ := hv
    exact .t _ _ (constT_ok hx)
theorem evalO_ok {a : Act} {tm : Nat → AV} (hT : RelT ob β C h Z a tm) {x : Operand} {v : AV} (hv : evalO tm x = some v) : AVRel ob β C h Z (a.eval x) v := by
  cases x with
  | tmp t => simp only [evalO, Option.some.injEq] at hv; subst hv; exact hT t
  | const c => exact constV_ok hv
  | global g => cases hv
  | func f => simp only [evalO, Option.some.injEq] at hv; subst hv; exact .clo f #[] [] rfl fun i v a hi => by simp at hi
theorem wp_value {o : Oper} {a : Act} {w w' : World} {K : Act → World → Prop} {Q : Exit → Act → World → Prop} {val : Value} (hr : (execOp a.eval o).run P w = .ok (.value val) w') (hk : K (a.put o.dst val) w') : o.wp P a w K Q := by
  unfold Oper.wp; rw [hr]; exact hk
theorem wp_skip_ {o : Oper} {a : Act} {w w' : World} {K : Act → World → Prop} {Q : Exit → Act → World → Prop} (hr : (execOp a.eval o).run P w = .ok .skip w') (hk : K (a.put o.dst undef) w') : o.wp P a w K Q := by
  unfold Oper.wp; rw [hr]; exact hk
theorem Post.same {σ : Sto} (R : Rel σ.ob β C h Z own) {val : Value} {v : AV} (hv : AVRel σ.ob β C h Z val v) : Post σ β C h Z own σ val v h :=
  ⟨β, C, Z, own, .refl R, fun _ h => .inl h, Nat.le_refl _, hv⟩
theorem run_info {t : TypeId} {i : TypeInfo} (hi : P.info? t = some i) (w : World) : (typeInfo t).run P w = .ok i w := by simp [typeInfo, hi]
theorem run_und {t : TypeId} {d : TypeDesc} (hd : P.underlying t = some d) (w : World) : (underlying t).run P w = .ok d w := by simp [underlying, hd]
theorem run_size {t : TypeId} {n : Nat} (hn : szOf P t = some n) (w : World) : (sizeOf t).run P w = .ok n w := by
  unfold szOf at hn
  rw [Option.map_eq_some_iff] at hn
  obtain ⟨i, hi, rfl⟩ := hn
  simp [sizeOf, run_info hi]
theorem run_agg {t : TypeId} {b : Bool} (hb : aggT P t = some b) (w : World) : (isAgg t).run P w = .ok b w := by
  unfold aggT at hb
  unfold isAgg
  split at hb
  · rename_i fs hd; cases hb; simp [run_und hd]
  · rename_i n e hd; cases hb; simp [run_und hd]
  · rename_i d hd h1 h2
    cases hb
    simp only [Sem.run_bind, run_und h2, Result.andThen_ok]
    rfl
  · cases hb
theorem run_zero {t : TypeId} {z : AV} (hz : zeroC P t = some z) (w : World) : ∃ v, (zeroValue t).run P w = .ok v w ∧ constV v = some z := by
  unfold zeroC at hz
  rw [Option.bind_eq_some_iff] at hz
  obtain ⟨v, hv, hc⟩ := hz
  rw [Option.bind_eq_some_iff] at hv
  obtain ⟨i, hi, hv⟩ := hv
  exact ⟨v, by simp [zeroValue, run_info hi, hv], hc⟩
theorem CellsAt.cell {w : World} {b off : Nat} {vs : List Value} (H : CellsAt w.heap b off vs) (j : Nat) (v : Value) (hj : vs[j]? = some v) : w.cell? ((⟨b, off, none⟩ : Addr).add j) = some v := by
  obtain ⟨cells, e, fz, hh, hc⟩ := H
  have : (⟨b, off, none⟩ : Addr).add j = ⟨b, off + j, none⟩ := by unfold Addr.add; split <;> simp_all
  rw [this]
  simp [World.cell?, hh, hc j v hj]
theorem add_lit {b off j : Nat} : (⟨b, off, none⟩ : Addr).add j = ⟨b, off + j, none⟩ := by unfold Addr.add; split <;> simp_all
/-- A value's cells. -/
theorem AVRel.cells {v : Value} {a : AV} (H : AVRel ob β C h Z v a) (h1 : a.cells.all AV.one = true) : v.cells.toList.length = a.cells.length ∧ ∀ (k : Nat) (u : Value) (x : AV), v.cells.toList[k]? = some u → a.cells[k]? = some x → AVRel ob β C h Z u x := by
  have hsing : ∀ {v : Value} {a : AV}, AVRel ob β C h Z v a → v.cells = #[v] → a.cells = [a] → v.cells.toList.length = a.cells.length ∧ ∀ (k : Nat) (u : Value) (x : AV), v.cells.toList[k]? = some u → a.cells[k]? = some x → AVRel ob β C h Z u x := by
    intro v a H e1 e2
    rw [e1, e2]
    refine ⟨rfl, fun k u x hu hx => ?_⟩
    cases k with
    | zero => simp at hu hx; subst hu; subst hx; exact H
    | succ k => simp at hu
  have H0 := H
  cases H with
  | t v x hx => cases hx <;> exact hsing H0 rfl rfl
  | agg vs cells hs hv => exact ⟨by simpa [Value.cells, AV.cells] using hs, fun k u x hu hx => hv k u x (by simpa [Value.cells] using hu) hx⟩
  | undef v => simp [AV.cells, AV.one] at h1
  | _ => exact hsing H0 rfl rfl
theorem setRow_heap' {w : World} {g : Nat} {cells cs : Array Value} {e : TypeId} (hh : w.heap[g]? = some (.cells cells e (0, 0))) : (w.setRow g cs).heap = w.heap.setIfInBounds g (.cells cs e) := by
  apply Array.ext_getElem?
  intro j
  by_cases e1 : j = g
  · subst e1
    rw [getElem?_set_same hh]
    simp [World.setRow, Array.getElem?_modify, hh]
  · rw [getElem?_set_ne e1]
    have e2 : ¬ g = j := fun h => e1 h.symm
    simp [World.setRow, Array.getElem?_modify, e2]
/-- What else a world bears stays. -/
def Wld (w w' : World) : Prop := w'.os = w.os ∧ w'.tape = w.tape ∧ w'.output = w.output ∧ w.drawn ≤ w'.drawn
theorem Wld.trans {a b c : World} (h : Wld a b) (k : Wld b c) : Wld a c := ⟨k.1.trans h.1, k.2.1.trans h.2.1, k.2.2.1.trans h.2.2.1, Nat.le_trans h.2.2.2 k.2.2.2⟩
theorem Wld.refl (w : World) : Wld w w := ⟨rfl, rfl, rfl, Nat.le_refl _⟩
theorem run_storeCells {w : World} {b off : Nat} {cells : Array Value} {e : TypeId} {us : List Value} (hh : w.heap[b]? = some (.cells cells e (0, 0))) (hle : off + us.length ≤ cells.size) (h1 : ∀ u ∈ us, oneV u = true) :
    ∃ w', (storeCells ⟨b, off, none⟩ us).run P w = .ok () w' ∧ Wld w w' ∧ w'.heap = w.heap.setIfInBounds b (.cells (spl cells off us) e) := by
  have := run_storeCells_at P b off e us 0 cells w hh (by simpa using hle) (fun v hv => by have := h1 v hv; cases v <;> first | rfl | (simp [oneV] at this))
  exact ⟨_, this, ⟨rfl, rfl, rfl, Nat.le_refl _⟩, by rw [setRow_heap' hh]; rfl⟩
theorem run_load {w : World} {t : TypeId} {b off : Nat} {vs : List Value} (H : CellsAt w.heap b off vs) :
    (aggT P t = some true → szOf P t = some vs.length → (Instr.loadAt t (.pointer (some ⟨b, off, none⟩))).run P w = .ok (.agg vs.toArray) w) ∧
    (∀ v, aggT P t = some false → vs = [v] → (Instr.loadAt t (.pointer (some ⟨b, off, none⟩))).run P w = .ok v w) := by
  refine ⟨fun ha hs => ?_, fun v ha hv => ?_⟩
  · have hl := run_loadCells_list (P := P) w ⟨b, off, none⟩ vs H.cell
    simp [Instr.loadAt, Instr.sureAddr, loadVar, run_agg ha, run_size hs, hl]
  · subst hv
    have := H.cell 0 v rfl
    simp only [add_lit, Nat.add_zero] at this
    simp [Instr.loadAt, Instr.sureAddr, loadVar, run_agg ha, this]
/-- What an operation has to do. -/
def OpOk (P : Program) (σ : Sto) (β : Nat → BI) (C : Nat → Prop) (Z : Nat → Prop) (own : Nat → Option Nat) (o : Oper) (a : Act) (w : World) (v : AV) (σ' : Sto) : Prop :=
  ∀ (K : Act → World → Prop) (Q : Exit → Act → World → Prop), (∀ val w', Post σ β C w.heap Z own σ' val v w'.heap → Wld w w' → K (a.put o.dst val) w') → o.wp P a w K Q
theorem OpOk.value {σ σ' : Sto} {o : Oper} {a : Act} {w w' : World} {v : AV} {val : Value} (hr : (execOp a.eval o).run P w = .ok (.value val) w') (hp : Post σ β C w.heap Z own σ' val v w'.heap) (hl : Wld w w' := by exact ⟨rfl, rfl, rfl, Nat.le_refl _⟩) : OpOk P σ β C Z own o a w v σ' :=
  fun K Q hK => wp_value hr (hK val w' hp hl)
theorem Post.newBox {σ : Sto} (R : Rel σ.ob β C h Z own) (hf : ¬ C σ.n) {v : Value} {a : AV} (hv : AVRel σ.ob β C h Z v a) (h1 : a.cells.all AV.one = true) (t : TypeId) :
    Post σ β C h Z own (σ.new (.box a.cells)) (.pointer (some ⟨h.size, 0, none⟩)) (.ptr σ.n 0) (h.push (.cells v.cells t)) := by
  obtain ⟨hl, hc⟩ := hv.cells h1
  have hg : (h.push (Go.Obj.cells v.cells t))[h.size]? = some (Go.Obj.cells v.cells t) := by simp
  have hevo : ∀ o, C o → (C o ∨ o = σ.n) ∧ Evo (σ.ob o) (β o) h (upd σ.ob σ.n (.box a.cells) o) (upd β σ.n ⟨h.size, 0, 0, false⟩ o) (h.push (.cells v.cells t)) := fun o ho => by
    have hne : o ≠ σ.n := fun e => hf (e ▸ ho)
    rw [upd_ne _ _ hne, upd_ne _ _ hne]
    exact ⟨.inl ho, .same fun _ _ _ _ _ ha => ha.push⟩
  have hZ : ∀ b, Z b → Z b ∧ (h.push (Go.Obj.cells v.cells t))[b]? = h[b]? := fun b hb => ⟨hb, getElem?_push_lt (R.zlt b hb).1⟩
  have M := Mv.new R hf (.box a.cells) ⟨h.size, 0, 0, false⟩ (.cells v.cells t) (by
    unfold ObjRel
    rw [upd_same, upd_same]
    exact ⟨upd_same _ _ _, v.cells, t, hg, by simpa using hl, h1, fun j u x hu hx => (hc j u x (by simpa using hu) hx).mono hZ hevo⟩)
  exact ⟨_, _, _, _, M, fun o ho => ho.imp id fun e => ⟨by omega, by simp [Sto.new]; omega⟩, by simp [Sto.new], .ptr σ.n 0 _ (.inr rfl) fun cs _ => by rw [upd_same]⟩
section ops
variable {σ σ' : Sto} {tm : Nat → AV} {o : Oper} {a : Act} {w : World} {v : AV}
theorem op_move {x : Operand} (ho : o.op = .move x ∨ o.op = .assign x) (R : Rel σ.ob β C w.heap Z own) (hT : RelT σ.ob β C w.heap Z a tm) (H : (evalO tm x).map (fun v => (v, σ)) = some (v, σ')) : OpOk P σ β C Z own o a w v σ' := by
  rw [Option.map_eq_some_iff] at H
  obtain ⟨u, hu, he⟩ := H
  cases he
  refine OpOk.value (val := a.eval x) (w' := w) ?_ (.same R (evalO_ok hT hu))
  rcases ho with ho | ho <;> simp [execOp, ho]
theorem op_pick {c x y : Operand} (ho : o.op = .pick c x y) (R : Rel σ.ob β C w.heap Z own) (hT : RelT σ.ob β C w.heap Z a tm) (H : opV P M X tm σ o = some (v, σ')) : OpOk P σ β C Z own o a w v σ' := by
  simp only [opV, ho] at H
  split at H
  · rename_i b hb
    rw [Option.map_eq_some_iff] at H
    obtain ⟨u, hu, he⟩ := H
    cases he
    have hc := evalO_ok hT hb
    generalize hcv : a.eval c = cv at hc
    cases hc with
    | t _ _ hx =>
      cases hx
      refine OpOk.value (val := a.eval (if b then x else y)) (w' := w) ?_ (.same R (evalO_ok hT hu))
      cases b <;> simp [execOp, ho, hcv, asBool]
  · cases H
theorem const_one {v : Value} {z : AV} (hz : constV v = some z) : z.cells.all AV.one = true := by
  unfold constV at hz
  split at hz
  · rw [Option.map_eq_some_iff] at hz
    obtain ⟨l, _, rfl⟩ := hz
    simp [AV.cells, AV.one]
  · cases hz; rfl
  · cases hz; rfl
  · rw [Option.map_eq_some_iff] at hz
    obtain ⟨x, _, rfl⟩ := hz
    rfl
theorem op_alloc {t : TypeId} (ho : o.op = .alloc t) (R : Rel σ.ob β C w.heap Z own) (hf : ¬ C σ.n) (H : opV P M X tm σ o = some (v, σ')) : OpOk P σ β C Z own o a w v σ' := by
  simp only [opV, ho, Option.map_eq_some_iff] at H
  obtain ⟨z, hz, he⟩ := H
  cases he
  obtain ⟨zv, h1, h2⟩ := run_zero hz w
  refine OpOk.value (val := .pointer (some ⟨w.heap.size, 0, none⟩)) (w' := { w with heap := w.heap.push (.cells zv.cells t) }) ?_ (Post.newBox R hf (constV_ok h2) (const_one h2) t)
  simp [execOp, ho, Instr.alloc, h1, newVar, newRow]
theorem op_box {t : TypeId} {x : Operand} (ho : o.op = .box t x) (R : Rel σ.ob β C w.heap Z own) (hf : ∀ o, σ.n ≤ o → ¬ C o) (hT : RelT σ.ob β C w.heap Z a tm) (H : opV P M X tm σ o = some (v, σ')) : OpOk P σ β C Z own o a w v σ' := by
  simp only [opV, ho] at H
  split at H
  · rename_i u hu
    split at H
    · rename_i h1
      cases H
      refine OpOk.value (val := .pointer (some ⟨w.heap.size, 0, none⟩)) (w' := { w with heap := w.heap.push (.cells (a.eval x).cells t) }) ?_ (Post.newBox R (hf _ (Nat.le_refl _)) (evalO_ok hT hu) h1 t)
      simp [execOp, ho, Instr.box, newVar, newRow]
    · cases H
  · cases H
theorem op_load {t : TypeId} {x : Operand} (ho : o.op = .load t x) (R : Rel σ.ob β C w.heap Z own) (hT : RelT σ.ob β C w.heap Z a tm) (H : opV P M X tm σ o = some (v, σ')) : OpOk P σ β C Z own o a w v σ' := by
  simp only [opV, ho] at H
  split at H
  · rename_i p n hp ha hs
    rw [Option.map_eq_some_iff] at H
    obtain ⟨cs, hcs, he⟩ := H
    cases he
    have hlen := loadV_len hcs
    obtain ⟨b, off, vs, hpv, hvl, hcell, hrel⟩ := loadV_ok R (evalO_ok hT hp) hcs
    have := (run_load (P := P) (t := t) hcell).1 ha (by rw [hvl]; exact hs)
    refine OpOk.value (val := .agg vs.toArray) (w' := w) ?_ (.same R (.agg _ _ (by simp [hvl, hlen]) fun i u x hu hx => hrel i u x (by simpa using hu) hx))
    simp [execOp, ho, hpv, this]
  · rename_i p _ hp ha
    split at H
    · rename_i c hc
      cases H
      obtain ⟨b, off, vs, hpv, hvl, hcell, hrel⟩ := loadV_ok R (evalO_ok hT hp) hc
      obtain ⟨u, rfl⟩ := List.length_eq_one_iff.1 hvl
      have := (run_load (P := P) (t := t) hcell).2 u ha rfl
      refine OpOk.value (val := u) (w' := w) ?_ (.same R (hrel 0 u _ rfl rfl))
      simp [execOp, ho, hpv, this]
    · cases H
  · cases H
theorem storeV_one {p : AV} {vs : List AV} {s : Sto} (H : storeV σ p vs = some s) : vs.all AV.one = true := by
  unfold storeV at H
  split at H
  · split at H
    · split at H
      · rename_i h1; exact h1.2
      · cases H
    · cases H
  · split at H
    · split at H
      · split at H
        · split at H
          · rename_i xs hxs
            rw [mapM_asT hxs]
            simp [AV.one]
          · cases H
        · cases H
      · cases H
    · cases H
  · cases H
theorem op_store {t : TypeId} {x y : Operand} (ho : o.op = .store t x y) (R : Rel σ.ob β C w.heap Z own) (hf : ¬ C σ.n) (hT : RelT σ.ob β C w.heap Z a tm) (H : opV P M X tm σ o = some (v, σ')) : OpOk P σ β C Z own o a w v σ' := by
  simp only [opV, ho] at H
  split at H
  · rename_i p u n hp hu hs
    split at H
    · rename_i hn
      rw [Option.map_eq_some_iff] at H
      obtain ⟨s, hst, he⟩ := H
      cases he
      obtain ⟨hl, hc⟩ := (evalO_ok hT hu).cells (storeW_one storeV_one hst)
      obtain ⟨b, off, cells, e, hpv, hh, hle, h1, hnn, Z1, own1, Mm⟩ := storeW_ok R hf (evalO_ok hT hp) hl hc hst
      obtain ⟨w', hw', hwl, hheap⟩ := run_storeCells (P := P) hh hle h1
      refine fun K Q hK => wp_skip_ (w' := w') ?_ (hK _ _ ?_ hwl)
      · have hsz : (a.eval y).cells.size = n := by simpa [hn] using hl
        simp [execOp, ho, Instr.storeAt, hpv, Instr.sureAddr, storeVar, run_size hs, hsz, hw']
      · rw [hheap]
        exact ⟨_, _, _, _, Mm, fun _ h => .inl h, by omega, .undef _⟩
    · cases H
  · cases H
theorem op_nilCheck {x : Operand} (ho : o.op = .nilCheck x) (R : Rel σ.ob β C w.heap Z own) (hT : RelT σ.ob β C w.heap Z a tm) (H : opV P M X tm σ o = some (v, σ')) : OpOk P σ β C Z own o a w v σ' := by
  simp only [opV, ho] at H
  have key : ∀ u, evalO tm x = some u → v = u ∧ σ' = σ → (∃ ad, a.eval x = .pointer (some ad)) → OpOk P σ β C Z own o a w v σ' := by
    rintro u hu ⟨rfl, rfl⟩ ⟨ad, hz⟩
    refine OpOk.value (val := a.eval x) (w' := w) ?_ (.same R (evalO_ok hT hu))
    simp [execOp, ho, hz]
  split at H
  · rename_i oo off hu
    cases H
    refine key _ hu ⟨rfl, rfl⟩ ?_
    have := evalO_ok hT hu
    generalize a.eval x = z at this ⊢
    cases this; exact ⟨_, rfl⟩
  · rename_i oo vv p i j hu
    cases H
    refine key _ hu ⟨rfl, rfl⟩ ?_
    have := evalO_ok hT hu
    generalize a.eval x = z at this ⊢
    cases this; exact ⟨_, rfl⟩
  · rename_i cs hu
    cases H
    refine key _ hu ⟨rfl, rfl⟩ ?_
    have := evalO_ok hT hu
    generalize a.eval x = z at this ⊢
    cases this; exact ⟨_, rfl⟩
  · cases H
end ops
end Go.Proofs.YtpdpgfagklhpaaaGreat.V

namespace Go.Proofs.YtpdpgfagklhpaaaGreat.V
open Go
set_option linter.unusedVariables false
set_option linter.unusedSimpArgs false
variable {P : Program} {M : Nat → Bool} {X : Ora} {ob ob' : Nat → VO} {β β' : Nat → BI} {C C' : Nat → Prop} {h h' : Heap} {Z Z' : Nat → Prop} {own own' : Nat → Option Nat}
variable {σ σ' : Sto} {tm : Nat → AV} {o : Oper} {a : Act} {w : World} {v : AV}
theorem AVRel.tInv {val : Value} {x : T} (H : AVRel ob β C h Z val (.t x)) : Rep h Z val x := by cases H; assumption
theorem eqGuard_int (op : BinOp) (t : TypeId) (x y : Operand) {k k' : IntKind} {m n : Int} : (eqGuard op t x y (.int k m) (.int k' n)).run P w = .ok () w := by
  unfold eqGuard; split <;> simp
theorem eqGuard_bool (op : BinOp) (t : TypeId) (x y : Operand) {m n : Bool} : (eqGuard op t x y (.bool m) (.bool n)).run P w = .ok () w := by
  unfold eqGuard; split <;> simp
theorem eqGuard_str (op : BinOp) (t : TypeId) (x y : Operand) {m n : ByteArray} : (eqGuard op t x y (.string m) (.string n)).run P w = .ok () w := by
  unfold eqGuard; split <;> simp
theorem eqGuard_slice (op : BinOp) (t : TypeId) (x y : Operand) {m n : Option Addr} {i j k l : Nat} : (eqGuard op t x y (.slice m i j) (.slice n k l)).run P w = .ok () w := by
  unfold eqGuard; split <;> simp
theorem intV_ok {op : BinOp} {t : TypeId} {k : IntKind} {x y : Int} {r : T} (hr : intV op k x y = some r) (hs : op ≠ .shl ∧ op ≠ .shr) : ∃ val, (Go.binOp op t (.int k x) (.int k y)).run P w = .ok val w ∧ Rep h Z val r := by
  unfold intV at hr
  split at hr
  · cases hr; exact ⟨_, by simp [Go.binOp, Op.intArith], .i _ _⟩
  · cases hr; exact ⟨_, by simp [Go.binOp, Op.intArith], .i _ _⟩
  · cases hr; exact ⟨_, by simp [Go.binOp, Op.intArith], .i _ _⟩
  · split at hr
    · cases hr
    · rename_i h0; cases hr; exact ⟨_, by simp [Go.binOp, Op.intDiv, h0], .i _ _⟩
  · split at hr
    · cases hr
    · rename_i h0; cases hr; exact ⟨_, by simp [Go.binOp, Op.intDiv, h0], .i _ _⟩
  · cases hr; exact ⟨_, by simp [Go.binOp, Op.intBits], .i _ _⟩
  · cases hr; exact ⟨_, by simp [Go.binOp, Op.intBits], .i _ _⟩
  · cases hr; exact ⟨_, by simp [Go.binOp, Op.intBits], .i _ _⟩
  · cases hr
    refine ⟨.bool (x == y), by simp [Go.binOp, Op.intCmp], ?_⟩
    have : (x == y) = decide (x = y) := by by_cases e : x = y <;> simp [e]
    rw [this]; exact .b _
  · cases hr
    refine ⟨.bool (x != y), by simp [Go.binOp, Op.intCmp], ?_⟩
    have : (x != y) = !decide (x = y) := by by_cases e : x = y <;> simp [e]
    rw [this]; exact .b _
  · cases hr; exact ⟨_, by simp [Go.binOp, Op.intCmp], .b _⟩
  · cases hr; exact ⟨_, by simp [Go.binOp, Op.intCmp], .b _⟩
  · cases hr; exact ⟨_, by simp [Go.binOp, Op.intCmp], .b _⟩
  · cases hr; exact ⟨_, by simp [Go.binOp, Op.intCmp], .b _⟩
  · cases hr
theorem nilV_ok {x : AV} {r : Bool} {val : Value} (R : Rel σ.ob β C h Z own) (H : AVRel σ.ob β C h Z val x) (hr : nilV σ x = some r) : ∃ ad l c, val = .slice ad l c ∧ ad.isNone = r := by
  unfold nilV at hr
  split at hr
  · cases hr; cases H.tInv; exact ⟨none, 0, 0, rfl, rfl⟩
  · split at hr
    · cases hr
    · rename_i h0
      cases hr
      have := H.tInv
      cases this with
      | sl0 => exact absurd rfl h0
      | sl1 a => exact absurd rfl h0
      | sl => exact ⟨_, _, _, rfl, rfl⟩
  · rename_i oo vv p
    split at hr
    · rename_i rows hq
      split at hr
      · cases hr
      · rename_i h0
        cases hr
        obtain ⟨ad, c, hve, hc⟩ := R.ref_ok H hq
        obtain ⟨b, off, _, _, _, _, ha, _⟩ := hc (by rintro rfl; exact h0 rfl)
        exact ⟨ad, _, c, hve, by rw [ha]; rfl⟩
    · cases hr
  · cases hr
theorem run_equal_bool {t : TypeId} (hu : P.underlying t = some .bool) (x y : Bool) : (Op.equal t (.bool x) (.bool y)).run P w = .ok (x == y) w := by
  unfold Op.equal Op.maxDepth
  rw [show (10000 : Nat) = 9999 + 1 from rfl, Op.equalIn]
  simp only [Sem.run_bind, run_und hu, Result.andThen_ok]
  rfl
theorem run_equal_slice {t e : TypeId} (hu : P.underlying t = some (.slice e)) (ad : Option Addr) (l c : Nat) : (Op.equal t (.slice ad l c) (.slice none 0 0)).run P w = .ok ad.isNone w := by
  unfold Op.equal Op.maxDepth
  rw [show (10000 : Nat) = 9999 + 1 from rfl, Op.equalIn]
  simp only [Sem.run_bind, run_und hu, Result.andThen_ok]
  cases ad <;> rfl
theorem binV_ok {op : BinOp} {t : TypeId} {x y : AV} {r : T} {xv yv : Value} (X Y : Operand) (R : Rel σ.ob β C h Z own) (Hx : AVRel σ.ob β C h Z xv x) (Hy : AVRel σ.ob β C h Z yv y) (hr : binV P σ op t x y = some r) :
    ∃ val, (do eqGuard op t X Y xv yv; Go.binOp op t xv yv : Sem Value).run P w = .ok val w ∧ Rep h Z val r := by
  unfold binV at hr
  split at hr
  · rename_i k m k' c
    cases Hx.tInv; cases Hy.tInv
    simp only [Sem.run_bind, eqGuard_int, Result.andThen_ok]
    split at hr
    · split at hr
      · rename_i hc
        cases hr
        have : ¬ c < 0 := by omega
        exact ⟨_, by simp [Go.binOp, Op.shift, this], .i _ _⟩
      · cases hr
    · split at hr
      · rename_i hc
        cases hr
        have : ¬ c < 0 := by omega
        exact ⟨_, by simp [Go.binOp, Op.shift, this], .i _ _⟩
      · cases hr
    · rename_i h1 h2
      split at hr
      · rename_i hk
        subst hk
        exact intV_ok hr ⟨h1, h2⟩
      · cases hr
  · rename_i m c
    cases Hx.tInv; cases Hy.tInv
    simp only [Sem.run_bind, eqGuard_bool, Result.andThen_ok]
    split at hr
    · rename_i hu
      split at hr
      · cases hr
        refine ⟨.bool (m == c), ?_, .b _⟩
        show (do pure (Value.bool (← Op.equal t (.bool m) (.bool c))) : Sem Value).run P w = _
        simp [run_equal_bool hu]
      · cases hr
        refine ⟨.bool !(m == c), ?_, .b _⟩
        show (do pure (Value.bool (!(← Op.equal t (.bool m) (.bool c)))) : Sem Value).run P w = _
        simp [run_equal_bool hu]
      · cases hr
    · cases hr
  · rename_i m c
    cases Hx.tInv; cases Hy.tInv
    simp only [Sem.run_bind, eqGuard_str, Result.andThen_ok]
    unfold strV at hr
    split at hr
    · split at hr
      · rename_i hlt
        cases hr
        have : ¬ (((m.size + c.size : Nat) : Int) > IntKind.i64.max) := by
          have : IntKind.i64.max = 9223372036854775807 := rfl
          omega
        refine ⟨_, by simp only [Go.binOp, Op.stringOp]; rw [if_neg this]; rfl, .s _⟩
      · cases hr
    · cases hr; exact ⟨_, by simp [Go.binOp, Op.stringOp], .b _⟩
    · cases hr; exact ⟨_, by simp [Go.binOp, Op.stringOp], .b _⟩
    · cases hr
  · cases Hy.tInv
    split at hr
    · rename_i e hu
      split at hr
      · rename_i r0 hnl
        cases hr
        obtain ⟨ad, l, c, rfl, hn⟩ := nilV_ok R Hx hnl
        simp only [Sem.run_bind, eqGuard_slice, Result.andThen_ok]
        refine ⟨.bool r0, ?_, .b _⟩
        show (do pure (Value.bool (← Op.equal t (.slice ad l c) (.slice none 0 0))) : Sem Value).run P w = _
        simp [run_equal_slice hu, hn]
      · rename_i r0 hnl
        cases hr
        obtain ⟨ad, l, c, rfl, hn⟩ := nilV_ok R Hx hnl
        simp only [Sem.run_bind, eqGuard_slice, Result.andThen_ok]
        refine ⟨.bool (!r0), ?_, .b _⟩
        show (do pure (Value.bool (!(← Op.equal t (.slice ad l c) (.slice none 0 0)))) : Sem Value).run P w = _
        simp [run_equal_slice hu, hn]
      · cases hr
    · cases hr
  · cases hr
theorem op_binOp {op : BinOp} {t u : TypeId} {x y : Operand} (ho : o.op = .binOp op t x y u) (R : Rel σ.ob β C w.heap Z own) (hT : RelT σ.ob β C w.heap Z a tm) (H : opV P M X tm σ o = some (v, σ')) : OpOk P σ β C Z own o a w v σ' := by
  simp only [opV, ho] at H
  split at H
  · rename_i p q hp hq
    rw [Option.map_eq_some_iff] at H
    obtain ⟨r, hr, he⟩ := H
    cases he
    obtain ⟨val, h1, h2⟩ := binV_ok (w := w) x y R (evalO_ok hT hp) (evalO_ok hT hq) hr
    refine OpOk.value (val := val) (w' := w) ?_ (.same R (.t _ _ h2))
    simp only [execOp, ho, Sem.run_bind, Result.andThen_ok] at h1 ⊢
    rw [h1]; rfl
  · cases H
theorem op_unOp {op : UnOp} {t : TypeId} {x : Operand} (ho : o.op = .unOp op t x) (R : Rel σ.ob β C w.heap Z own) (hT : RelT σ.ob β C w.heap Z a tm) (H : opV P M X tm σ o = some (v, σ')) : OpOk P σ β C Z own o a w v σ' := by
  simp only [opV, ho] at H
  cases op with
  | not =>
    simp only at H
    split at H
    · rename_i b hb
      cases H
      have := (evalO_ok hT hb).tInv
      generalize hz : a.eval x = z at this
      cases this
      exact OpOk.value (val := .bool (!b)) (w' := w) (by simp [execOp, ho, hz, Op.unary]) (.same R (.t _ _ (.b _)))
    · cases H
  | neg =>
    simp only at H
    split at H
    · rename_i k n hb
      cases H
      have := (evalO_ok hT hb).tInv
      generalize hz : a.eval x = z at this
      cases this
      exact OpOk.value (val := .int k (k.wrap (0 - n))) (w' := w) (by simp [execOp, ho, hz, Op.unary, Op.intArith]) (.same R (.t _ _ (.i _ _)))
    · cases H
  | xor => cases H
  | plus => cases H
theorem op_convert {s d : TypeId} {x : Operand} (ho : o.op = .convert s d x) (R : Rel σ.ob β C w.heap Z own) (hT : RelT σ.ob β C w.heap Z a tm) (H : opV P M X tm σ o = some (v, σ')) : OpOk P σ β C Z own o a w v σ' := by
  simp only [opV, ho] at H
  split at H
  · rename_i sd k kk n h1 h2 h3
    cases H
    have := (evalO_ok hT h3).tInv
    generalize hz : a.eval x = z at this
    cases this
    refine OpOk.value (val := .int k (k.wrap n)) (w' := w) ?_ (.same R (.t _ _ (.i _ _)))
    have : (Go.convert s d (.int kk n)).run P w = .ok (.int k (k.wrap n)) w := by
      simp only [Go.convert, Sem.run_bind, run_und h1, run_und h2, Result.andThen_ok]
      simp [Conv.intToInt]
    simp [execOp, ho, hz, this]
  · cases H
theorem mapM_evalO {tm : Nat → AV} (hT : RelT ob β C h Z a tm) : ∀ (l : List Operand) (vs : List AV), l.mapM (evalO tm) = some vs → l.length = vs.length ∧ ∀ (i : Nat) (v : Value) (x : AV), (l.map a.eval)[i]? = some v → vs[i]? = some x → AVRel ob β C h Z v x
  | [], vs, H => by simp at H; subst H; exact ⟨rfl, fun i v x hi => by simp at hi⟩
  | y :: l, vs, H => by
    rw [List.mapM_cons] at H
    simp only [Option.pure_def, Option.bind_eq_bind, Option.bind_eq_some_iff, Option.some.injEq] at H
    obtain ⟨u, hu, us, hus, rfl⟩ := H
    obtain ⟨h1, h2⟩ := mapM_evalO hT l us hus
    refine ⟨by simp [h1], fun i v x hi hx => ?_⟩
    cases i with
    | zero => simp at hi hx; subst hi; subst hx; exact evalO_ok hT hu
    | succ i => exact h2 i v x (by simpa using hi) (by simpa using hx)
theorem op_makeFunc {fn : Fn} {first caps : Array Operand} (ho : o.op = .makeFunc fn first caps) (R : Rel σ.ob β C w.heap Z own) (hT : RelT σ.ob β C w.heap Z a tm) (H : opV P M X tm σ o = some (v, σ')) : OpOk P σ β C Z own o a w v σ' := by
  simp only [opV, ho] at H
  cases fn with
  | func f =>
    simp only at H
    split at H
    · rename_i h0
      rw [Option.bind_eq_some_iff] at H
      obtain ⟨l, hl, H⟩ := H
      split at H
      · cases H
        obtain ⟨h1, h2⟩ := mapM_evalO hT _ _ hl
        have hfe : first = #[] := Array.eq_empty_of_size_eq_zero h0
        refine OpOk.value (val := .func (.func f) #[] (caps.map a.eval)) (w' := w) (by simp [execOp, ho, Instr.makeFunc, hfe]) (.same R (.clo f _ _ (by simpa using h1) fun i v x hi hx => h2 i v x (by simpa using hi) hx))
      · cases H
    · cases H
  | _ => simp at H
theorem natOf_ok {x : AV} {n : Nat} {val : Value} (H : AVRel ob β C h Z val x) (hn : natOf x = some n) : ∃ k, val = .int k n := by
  unfold natOf at hn
  split at hn
  · split at hn
    · rename_i k m hm
      cases hn
      cases H.tInv
      exact ⟨k, by rw [Int.toNat_of_nonneg hm]⟩
    · cases hn
  · cases hn
theorem op_fieldAddr {s : TypeId} {x : Operand} {f : Nat} (ho : o.op = .fieldAddr s x f) (R : Rel σ.ob β C w.heap Z own) (hT : RelT σ.ob β C w.heap Z a tm) (H : opV P M X tm σ o = some (v, σ')) : OpOk P σ β C Z own o a w v σ' := by
  simp only [opV, ho] at H
  split at H
  · rename_i fs u hs hu
    split at H
    · rename_i fd hfd
      split at H
      · rename_i n hn
        have hrel := evalO_ok hT hu
        have hrun : ∀ ad : Addr, a.eval x = .pointer (some ad) → (execOp a.eval o).run P w = .ok (.value (.pointer (some (ad.add fd.offset)))) w := by
          intro ad hz
          simp [execOp, ho, hz, Instr.fieldAt, run_und hs, hfd, Instr.sureAddr, fieldPlace, run_size hn]
        split at H
        · rename_i oo off
          cases H
          generalize hz : a.eval x = z at hrel
          cases hrel with
          | ptr _ _ ad hc hx =>
            refine OpOk.value (hrun ad hz) (.same R (.ptr oo _ _ hc fun cs hcs => ?_))
            rw [hx cs hcs, add_lit]
        · rename_i oo vv p i j
          cases H
          generalize hz : a.eval x = z at hrel
          cases hrel with
          | eptr _ _ _ _ _ ad hc hx =>
            refine OpOk.value (hrun ad hz) (.same R (.eptr oo vv p i _ _ hc ⟨hx.1, hx.2.1, fun q hq => ?_⟩))
            obtain ⟨b, off, len, cap, sz, h1, h2, h3, h4⟩ := hx.2.2 q hq
            exact ⟨b, off, len, cap, sz, h1, h2, h3, by rw [h4, add_lit]; congr 1; omega⟩
        · rename_i cs
          cases H
          generalize hz : a.eval x = z at hrel
          cases hrel with
          | fptr blk off cs' e fz cells hzz hh hv =>
            refine OpOk.value (hrun _ hz) (.same R ?_)
            rw [add_lit]
            refine .fptr blk _ cs' e fz _ hzz hh fun j t ht => ?_
            rw [List.getElem?_drop] at ht
            obtain ⟨u, h1, h2⟩ := hv _ t ht
            exact ⟨u, by rw [Nat.add_assoc]; exact h1, h2⟩
        · cases H
      · cases H
    · cases H
  · cases H
theorem op_field {s : TypeId} {x : Operand} {f : Nat} (ho : o.op = .field s x f) (R : Rel σ.ob β C w.heap Z own) (hT : RelT σ.ob β C w.heap Z a tm) (H : opV P M X tm σ o = some (v, σ')) : OpOk P σ β C Z own o a w v σ' := by
  simp only [opV, ho] at H
  split at H
  · rename_i fs cs hs hu
    have hrel := evalO_ok hT hu
    generalize hz : a.eval x = z at hrel
    cases hrel with
    | agg vs _ hsz hv =>
      split at H
      · rename_i fd hfd
        split at H
        · rename_i n hag hn
          split at H
          · rename_i hle
            cases H
            refine OpOk.value (val := .agg (vs.extract fd.offset (fd.offset + n))) (w' := w) ?_ (.same R (.agg _ _ ?_ fun i u y hu hy => ?_))
            · simp [execOp, ho, hz, Instr.field, run_und hs, hfd, part, asAgg, run_agg hag, run_size hn]
            · simp; omega
            · have hil : i < n := by
                rcases Nat.lt_or_ge i n with h1 | h1
                · exact h1
                · rw [List.getElem?_take, if_neg (by omega)] at hy; cases hy
              rw [List.getElem?_take, if_pos hil, List.getElem?_drop] at hy
              have h1 : (vs.extract fd.offset (fd.offset + n))[i]? = vs[fd.offset + i]? := by
                rw [Array.getElem?_extract]; simp; omega
              rw [h1] at hu
              exact hv _ u y hu hy
          · cases H
        · rename_i _ hag
          rw [Option.map_eq_some_iff] at H
          obtain ⟨c, hc, he⟩ := H
          cases he
          have hlt : fd.offset < vs.size := by
            have := getElem?_lt (a := cs.toArray) (by simpa using hc)
            simp at this; omega
          have hg : vs[fd.offset]? = some vs[fd.offset] := Array.getElem?_eq_getElem hlt
          refine OpOk.value (val := vs[fd.offset]) (w' := w) ?_ (.same R (hv _ _ _ hg hc))
          simp [execOp, ho, hz, Instr.field, run_und hs, hfd, part, asAgg, run_agg hag, hg]
        · cases H
      · cases H
  · cases H
theorem op_extract {x : Operand} {i : Nat} (ho : o.op = .extract x i) (R : Rel σ.ob β C w.heap Z own) (hT : RelT σ.ob β C w.heap Z a tm) (H : opV P M X tm σ o = some (v, σ')) : OpOk P σ β C Z own o a w v σ' := by
  simp only [opV, ho] at H
  split at H
  · rename_i vs hu
    rw [Option.map_eq_some_iff] at H
    obtain ⟨c, hc, he⟩ := H
    cases he
    have hrel := evalO_ok hT hu
    generalize hz : a.eval x = z at hrel
    cases hrel with
    | tup us _ hsz hv =>
      have hlt : i < us.size := by
        have := getElem?_lt (a := vs.toArray) (by simpa using hc)
        simp at this; omega
      have hg : us[i]? = some us[i] := Array.getElem?_eq_getElem hlt
      refine OpOk.value (val := us[i]) (w' := w) ?_ (.same R (hv _ _ _ hg hc))
      simp [execOp, ho, hz, Instr.extract, hg]
  · cases H
theorem op_index {t : TypeId} {x ix : Operand} (ho : o.op = .index t x ix) (R : Rel σ.ob β C w.heap Z own) (hT : RelT σ.ob β C w.heap Z a tm) (H : opV P M X tm σ o = some (v, σ')) : OpOk P σ β C Z own o a w v σ' := by
  simp only [opV, ho] at H
  split at H
  · rename_i s i hu hs hi
    rw [Option.map_eq_some_iff] at H
    obtain ⟨c, hc, he⟩ := H
    cases he
    rw [Option.bind_eq_some_iff] at hi
    obtain ⟨iv, hiv, hn⟩ := hi
    obtain ⟨k, hk⟩ := natOf_ok (evalO_ok hT hiv) hn
    have := (evalO_ok hT hs).tInv
    generalize hz : a.eval x = z at this
    cases this
    refine OpOk.value (val := .int .u8 c.toNat) (w' := w) ?_ (.same R (.t _ _ (.i _ _)))
    simp [execOp, ho, hz, hk, Instr.index, asIntOf, run_und hu, hc]
  · cases H
theorem op_indexAddr {t : TypeId} {x ix : Operand} (ho : o.op = .indexAddr t x ix) (R : Rel σ.ob β C w.heap Z own) (hT : RelT σ.ob β C w.heap Z a tm) (H : opV P M X tm σ o = some (v, σ')) : OpOk P σ β C Z own o a w v σ' := by
  simp only [opV, ho] at H
  split at H
  · rename_i e u i hu hx hi
    rw [Option.bind_eq_some_iff] at hi
    obtain ⟨iv, hiv, hn⟩ := hi
    obtain ⟨k, hk⟩ := natOf_ok (evalO_ok hT hiv) hn
    have hrel := evalO_ok hT hx
    split at H
    · rename_i sz hsz
      have hrun : ∀ (ad : Addr) (l c : Nat), a.eval x = .slice (some ad) l c → i < l → (execOp a.eval o).run P w = .ok (.value (.pointer (some (ad.add (i * sz))))) w := by
        intro ad l c hz hl
        have h1 : (0 : Int) ≤ i ∧ (i : Int) < l := by omega
        simp [execOp, ho, hz, hk, Instr.indexAt, asIntOf, run_und hu, run_size hsz, h1, hl]
      split at H
      · rename_i rows
        split at H
        · rename_i r hr
          split at H
          · rename_i hrl
            cases H
            obtain ⟨b, off, cap, sz', cells, e', fz, hve, hzb, hh, hcap, hw, hel⟩ := hrel.tInv.open_ (ne_of_get hr)
            have hil : i < rows.length := getElem?_lt (a := rows.toArray) (by simpa using hr)
            have hs' : sz' = sz := by rw [← hw r (List.mem_of_getElem? hr), hrl]
            subst hs'
            refine OpOk.value (hrun _ _ _ hve hil) (.same R ?_)
            rw [add_lit]
            refine .fptr b _ cells e' fz r hzb hh fun j t ht => ?_
            obtain ⟨u, h1, h2⟩ := hel i r j t hr ht
            exact ⟨u, by rw [Nat.add_assoc]; exact h1, h2⟩
          · cases H
        · cases H
      · rename_i oo vv p
        split at H
        · rename_i r hr
          split at H
          · rename_i hrl
            cases H
            rw [Option.bind_eq_some_iff] at hr
            obtain ⟨q, hq, hr⟩ := hr
            have hil : i < q.length := getElem?_lt (a := q.toArray) (by simpa using hr)
            generalize hz : a.eval x = z at hrel
            cases hrel with
            | ref _ _ _ ad l c hc hxx =>
              have hat := hxx.2.2 q hq
              obtain ⟨b, off, cap, sz', cells, e', fz, hve, hh, hcap, hw, hel⟩ := R.rowsAt hc hq hat (ne_of_get hr)
              have hs' : sz' = sz := by rw [← hw r (List.mem_of_getElem? hr), hrl]
              subst hs'
              cases hve
              refine OpOk.value (hrun _ _ _ hz hil) (.same R (.eptr oo vv p i 0 _ hc ⟨hxx.1, hxx.2.1, fun q2 hq2 => ?_⟩))
              rw [hq] at hq2; cases hq2
              exact ⟨b, off, _, _, sz', hat, hw, hil, by rw [add_lit]; rfl⟩
          · cases H
        · cases H
      · cases H
    · cases H
  · rename_i n e u i hu hx hi
    rw [Option.bind_eq_some_iff] at hi
    obtain ⟨iv, hiv, hn⟩ := hi
    obtain ⟨k, hk⟩ := natOf_ok (evalO_ok hT hiv) hn
    have hrel := evalO_ok hT hx
    split at H
    · rename_i sz hsz
      split at H
      · rename_i hlt
        have hrun : ∀ (ad : Addr), a.eval x = .pointer (some ad) → (execOp a.eval o).run P w = .ok (.value (.pointer (some (ad.add (i * sz))))) w := by
          intro ad hz
          have h1 : (0 : Int) ≤ i ∧ (i : Int) < n := by omega
          simp [execOp, ho, hz, hk, Instr.indexAt, asIntOf, run_und hu, run_size hsz, h1, hlt, Instr.sureAddr]
        split at H
        · rename_i oo off
          cases H
          generalize hz : a.eval x = z at hrel
          cases hrel with
          | ptr _ _ ad hc hxx =>
            refine OpOk.value (hrun ad hz) (.same R (.ptr oo _ _ hc fun cs hcs => ?_))
            rw [hxx cs hcs, add_lit]
        · rename_i cs
          cases H
          generalize hz : a.eval x = z at hrel
          cases hrel with
          | fptr blk off cs' e' fz cells hzz hh hv =>
            refine OpOk.value (hrun _ hz) (.same R ?_)
            rw [add_lit]
            refine .fptr blk _ cs' e' fz _ hzz hh fun j t ht => ?_
            rw [List.getElem?_drop] at ht
            obtain ⟨u, h1, h2⟩ := hv _ t ht
            exact ⟨u, by rw [Nat.add_assoc]; exact h1, h2⟩
        · cases H
      · cases H
    · cases H
  · cases H
end Go.Proofs.YtpdpgfagklhpaaaGreat.V

namespace Go.Proofs.YtpdpgfagklhpaaaGreat.V
open Go
set_option linter.unusedVariables false
set_option linter.unusedSimpArgs false
variable {P : Program} {M : Nat → Bool} {X : Ora} {ob ob' : Nat → VO} {β β' : Nat → BI} {C C' : Nat → Prop} {h h' : Heap} {Z Z' : Nat → Prop} {own own' : Nat → Option Nat}
variable {σ σ' : Sto} {tm : Nat → AV} {o : Oper} {a : Act} {w : World} {v : AV}
/-- An object frozen: its rows are only read from now on. -/
theorem freeze1_ok {oo : Nat} {σ1 : Sto} (R : Rel σ.ob β C h Z own) (hcc : C oo) (H : freeze1 σ oo = some σ1) : σ1.n = σ.n ∧ ∃ (Z' : Nat → Prop) (own' : Nat → Option Nat), Mv σ.ob β C h Z own σ1.ob β C h Z' own' ∧
    (∀ m st sz rows, σ.ob oo = .arr m st sz rows → C oo → Rep h Z' (.slice (β oo).addr rows.length (β oo).cap) (.sl rows)) ∧ (isBox (σ.ob oo) = false → C oo → ∀ b, own b = some oo → Z' b) ∧ (∀ o', o' ≠ oo → ∀ b, own b = some o' → own' b = some o') := by
  classical
  by_cases hc : C oo
  · have HO := R.objs oo hc
    unfold ObjRel at HO
    have key : ∀ (m : Md) (st sz : Nat) (rows : List (List T)), σ.ob oo = .arr m st sz rows → ((∀ r ∈ rows, r.length = sz) ∧ Rep h (fun b => Z b ∨ own b = some oo) (.slice (β oo).addr rows.length (β oo).cap) (.sl rows)) →
        (⟨σ.n, upd σ.ob oo (.arr .frz st sz rows)⟩ : Sto) = σ1 → σ1.n = σ.n ∧ ∃ (Z' : Nat → Prop) (own' : Nat → Option Nat), Mv σ.ob β C h Z own σ1.ob β C h Z' own' ∧
        (∀ m st sz rows, σ.ob oo = .arr m st sz rows → C oo → Rep h Z' (.slice (β oo).addr rows.length (β oo).cap) (.sl rows)) ∧ (isBox (σ.ob oo) = false → C oo → ∀ b, own b = some oo → Z' b) ∧ (∀ o', o' ≠ oo → ∀ b, own b = some o' → own' b = some o') := by
      rintro m st sz rows hob ⟨hw, hrep⟩ rfl
      refine ⟨rfl, _, _, Mv.give R oo (.arr .frz st sz rows) (fun b => own b = some oo) (fun _ h => h) none (fun n hn => by cases hn) (fun b => Z b ∨ own b = some oo) (fun b => by simp) ?_ hc fun _ => ?_, fun m' st' sz' rows' hob' _ => ?_, fun _ _ b hb => .inr hb, fun o' ho' b hb => ?_⟩
      · rw [hob]
        refine ⟨fun p a' ha => ⟨a', ha, Nat.le_refl _⟩, fun p v h1 _ hs => ⟨hs, fun q' h2 => ⟨q', ?_, rfl, fun _ h => h, fun val h => h⟩⟩, fun cs' h => by cases h⟩
        cases p with
        | nil => exact h2
        | cons ij p => simp [VO.rows] at h2
      · unfold ObjRel; rw [upd_same]; exact ⟨hw, hrep⟩
      · rw [hob] at hob'; cases hob'; exact hrep
      · show (if _ then _ else _) = _
        rw [if_neg (fun h3 => ho' (Option.some.inj (hb.symm.trans h3)))]; exact hb
    unfold freeze1 at H
    split at H
    · rename_i st sz rows hob
      rw [hob] at HO
      obtain ⟨f, HO⟩ := HO
      cases H
      exact key _ st sz rows hob ⟨HO.wid, (RepO.ofArr HO).rep fun b hb => .inr hb⟩ rfl
    · cases H
    · rename_i m st sz rows hm1 hm2 hob
      rw [hob] at HO
      cases H
      cases m with
      | own k =>
        cases k with
        | zero => exact (hm1 rfl).elim
        | succ k => exact (hm2 _ rfl).elim
      | shr =>
        refine key _ st sz rows hob ⟨HO.wid, ?_⟩ rfl
        exact Rep.ofArr (S := fun b => own b = some oo) (fun b hb => .inr hb) (ArrG.mono HO (fun b hb => ⟨hb, rfl⟩) fun i j v t hN => hN.mono fun b hb => ⟨.inl hb, rfl⟩)
      | frz => exact key _ st sz rows hob ⟨HO.1, HO.2.mono fun b hb => ⟨.inl hb, rfl⟩⟩ rfl
    · rename_i hn1 hn2 hn3
      cases H
      have hnarr : ∀ m st sz rows, σ.ob oo ≠ .arr m st sz rows := fun m st sz rows hob => absurd hob (by
        cases m with
        | own k =>
          cases k with
          | zero => exact fun h => hn1 _ _ _ h
          | succ k => exact fun h => hn2 _ _ _ _ h
        | _ => exact fun h => hn3 _ _ _ _ h)
      cases hob : σ.ob oo with
      | arr m st sz rows => exact absurd hob (hnarr m st sz rows)
      | box cs => exact ⟨rfl, Z, own, .refl R, fun m st sz rows h => (by cases h), fun h => (by cases h), fun _ _ _ h => h⟩
      | dead =>
        have M := Mv.give R oo .dead (fun b => own b = some oo) (fun _ h => h) none (fun n hn => by cases hn) (fun b => Z b ∨ own b = some oo) (fun b => by simp) Evo.dead hc (fun _ => by unfold ObjRel; rw [upd_same]; trivial)
        have he : upd σ.ob oo .dead = σ.ob := by
          funext k; unfold upd; split
          · rename_i e; rw [e, hob]
          · rfl
        rw [he] at M
        refine ⟨rfl, _, _, M, fun m st sz rows h => (by cases h), fun _ _ b hb => .inr hb, fun o' ho' b hb => ?_⟩
        show (if _ then _ else _) = _
        rw [if_neg (fun h3 => ho' (Option.some.inj (hb.symm.trans h3)))]; exact hb
  · exact absurd hcc hc
theorem freezeL_ok : ∀ (l : List Nat) {σ σ1 : Sto} {Z : Nat → Prop} {own : Nat → Option Nat}, Rel σ.ob β C h Z own → (∀ o ∈ l, C o) → freezeL σ l = some σ1 → σ1.n = σ.n ∧ ∃ (Z' : Nat → Prop) (own' : Nat → Option Nat), Mv σ.ob β C h Z own σ1.ob β C h Z' own' ∧
    (∀ oo ∈ l, isBox (σ.ob oo) = false ∧ (C oo → ∀ b, own b = some oo → Z' b))
  | [], σ, σ1, Z, own, R, _, H => by cases H; exact ⟨rfl, Z, own, .refl R, fun oo h => by simp at h⟩
  | oo :: l, σ, σ1, Z, own, R, hlc, H => by
    simp only [freezeL] at H
    split at H
    · cases H
    rename_i hbox
    rw [Option.bind_eq_some_iff] at H
    obtain ⟨σ2, h1, h2⟩ := H
    obtain ⟨e1, Z1, own1, M1, _, hr1, hk1⟩ := freeze1_ok R (hlc oo (by simp)) h1
    obtain ⟨e2, Z2, own2, M2, hr2⟩ := freezeL_ok l M1.rel (fun o ho => hlc o (by simp [ho])) h2
    have hsame : ∀ o', o' ≠ oo → σ2.ob o' = σ.ob o' := by
      intro o' e
      unfold freeze1 at h1
      split at h1
      · cases h1; exact upd_ne _ _ e
      · cases h1
      · cases h1; exact upd_ne _ _ e
      · cases h1; rfl
    refine ⟨e2.trans e1, Z2, own2, M1.trans M2, fun o' ho' => ?_⟩
    by_cases e : o' = oo
    · subst e
      have hb : isBox (σ.ob o') = false := by simpa using hbox
      exact ⟨hb, fun hc b hb1 => M2.good.zin b (hr1 hb hc b hb1)⟩
    · rcases List.mem_cons.1 ho' with e' | ho'
      · exact absurd e' e
      · obtain ⟨h3, h4⟩ := hr2 o' ho'
        rw [hsame o' e] at h3
        exact ⟨h3, fun hc b hb => h4 hc b (hk1 o' e b hb)⟩
theorem boundO_ok {x : Option Operand} {d n : Nat} (hT : RelT ob β C h Z a tm) (hn : boundO tm d x = some n) : (x = none ∧ n = d) ∨ ∃ k, x.map a.eval = some (.int k n) := by
  cases x with
  | none => simp only [boundO, Option.some.injEq] at hn; exact .inl ⟨rfl, hn.symm⟩
  | some x =>
    simp only [boundO, Option.bind_eq_some_iff] at hn
    obtain ⟨u, hu, hn⟩ := hn
    obtain ⟨k, hk⟩ := natOf_ok (evalO_ok hT hu) hn
    exact .inr ⟨k, by simp [hk]⟩
theorem run_bounds {isS : Bool} {len cap l hh : Nat} {lo hi mx : Option Operand} (hT : RelT ob β C h Z a tm) (hl : boundO tm 0 lo = some l) (hhi : boundO tm len hi = some hh) (h1 : l ≤ hh) (h2 : hh ≤ len) (h3 : len ≤ cap)
    (hm : mx = none ∨ ∃ m, mx = some m ∧ (evalO tm m).bind natOf = some hh ∧ hi.isSome = true) : ∃ m, (mx = none → m = cap) ∧ hh ≤ m ∧ m ≤ cap ∧ (Instr.sliceBounds isS len cap (lo.map a.eval) (hi.map a.eval) (mx.map a.eval)).run P w = .ok (l, hh, m) w := by
  have hb : ∀ (y : Nat) (n : Nat) (k : IntKind) (c : BoundsCode), n ≤ y → (Instr.sliceBound (.int k n) y c).run P w = .ok n w := by
    intro y n k c hle
    have h3 : (0 : Int) ≤ n ∧ (n : Int) ≤ y := by omega
    simp [Instr.sliceBound, asIntOf, h3, hle]
  rcases hm with rfl | ⟨m, rfl, hm, his⟩
  · refine ⟨cap, fun _ => rfl, by omega, Nat.le_refl _, ?_⟩
    rcases boundO_ok hT hl with ⟨e1, e2⟩ | ⟨k, e1⟩ <;> rcases boundO_ok hT hhi with ⟨e3, e4⟩ | ⟨k', e3⟩
    · subst e1; subst e3; subst e2; subst e4; simp [Instr.sliceBounds]
    · subst e1; subst e2
      simp only [Instr.sliceBounds, e3, Option.map_none, Sem.run_bind, Sem.run_pure, Result.andThen_ok, hb cap hh k' _ (by omega)]
    · subst e3; subst e4
      simp only [Instr.sliceBounds, e1, Option.map_none, Sem.run_bind, Sem.run_pure, Result.andThen_ok, hb _ l k _ h1]
    · simp only [Instr.sliceBounds, e1, e3, Option.map_none, Sem.run_bind, Sem.run_pure, Result.andThen_ok, hb cap hh k' _ (by omega), hb hh l k _ h1]
  · rw [Option.bind_eq_some_iff] at hm
    obtain ⟨u, hu, hn⟩ := hm
    obtain ⟨km, hkm⟩ := natOf_ok (evalO_ok hT hu) hn
    refine ⟨hh, fun h => (by cases h), Nat.le_refl _, by omega, ?_⟩
    rcases boundO_ok hT hhi with ⟨e3, e4⟩ | ⟨k', e3⟩
    · subst e3; cases his
    · rcases boundO_ok hT hl with ⟨e1, e2⟩ | ⟨k, e1⟩
      · subst e1; subst e2
        simp only [Instr.sliceBounds, e3, hkm, Option.map_some, Option.map_none, Sem.run_bind, Sem.run_pure, Result.andThen_ok, hb cap hh km _ (by omega), hb hh hh k' _ (Nat.le_refl _)]
      · simp only [Instr.sliceBounds, e1, e3, hkm, Option.map_some, Sem.run_bind, Sem.run_pure, Result.andThen_ok, hb cap hh km _ (by omega), hb hh hh k' _ (Nat.le_refl _), hb hh l k _ h1]
theorem Rep.slInv {xv : Value} {rows : List (List T)} (H : Rep h Z xv (.sl rows)) : (∃ ad, xv = .slice ad 0 0 ∧ rows = [] ∧ ∀ Z2 : Nat → Prop, ∀ h2 : Heap, Rep h2 Z2 (.slice ad 0 0) (.sl [])) ∨ ∃ blk off cap cells e fz, xv = .slice (some ⟨blk, off, none⟩) rows.length cap ∧ Z blk ∧ h[blk]? = some (Go.Obj.cells cells e fz) ∧ rows.length ≤ cap := by
  cases H with
  | sl0 => exact .inl ⟨_, rfl, rfl, fun _ _ => .sl0⟩
  | sl1 a => exact .inl ⟨_, rfl, rfl, fun _ _ => .sl1 a⟩
  | sl blk off cap sz cells e fz vs rows hz hh hc => exact .inr ⟨blk, off, cap, cells, e, fz, rfl, hz, hh, hc⟩
theorem op_sliceRows {t e : TypeId} {x : Operand} {lo hi mx : Option Operand} {rows : List (List T)} {r : T} {xv : Value} (hu : P.underlying t = some (.slice e)) (hT : RelT ob β C w.heap Z a tm) (hx : a.eval x = xv) (hr : Rep w.heap Z' xv (.sl rows))
    (H : slRows P tm e rows lo hi mx = some r) : ∃ val, (Instr.sliceAt t (a.eval x) (lo.map a.eval) (hi.map a.eval) (mx.map a.eval)).run P w = .ok val w ∧ Rep w.heap Z' val r := by
  unfold slRows at H
  split at H
  · rename_i sz l hh hs hl hhi
    split at H
    · rename_i hall
      have hw : ∀ q ∈ rows, q.length = sz := by
        intro q hq
        rw [List.all_eq_true] at hall
        simpa using hall q hq
      have key : sliceT rows l hh = some r → (mx = none ∨ ∃ m, mx = some m ∧ (evalO tm m).bind natOf = some hh ∧ hi.isSome = true) → ∃ val, (Instr.sliceAt t (a.eval x) (lo.map a.eval) (hi.map a.eval) (mx.map a.eval)).run P w = .ok val w ∧ Rep w.heap Z' val r := by
        intro H hm
        unfold sliceT at H
        split at H
        · rename_i hle
          cases H
          have hva : ∃ ad c, xv = .slice ad rows.length c ∧ rows.length ≤ c := by
            cases hr with
            | sl0 => exact ⟨_, _, rfl, Nat.le_refl _⟩
            | sl1 a => exact ⟨_, _, rfl, Nat.le_refl _⟩
            | sl => exact ⟨_, _, rfl, by assumption⟩
          obtain ⟨ad, c, hve, hcap⟩ := hva
          obtain ⟨m, hm1, hm2, hm3, hrun⟩ := run_bounds (P := P) (w := w) (isS := true) hT hl hhi hle.1 hle.2 hcap hm
          refine ⟨.slice (if m = l then ad else ad.map (·.add (l * sz))) (hh - l) (m - l), ?_, ?_⟩
          · rw [hx, hve]
            have : (Instr.slice t (.slice ad rows.length c) (lo.map a.eval) (hi.map a.eval) (mx.map a.eval)).run P w = .ok (.slice (if m = l then ad else ad.map (·.add (l * sz))) (hh - l) (m - l)) w := by
              simp only [Instr.slice, Sem.run_bind, run_und hu, Result.andThen_ok, hrun, run_size hs, Sem.run_pure]
            simp only [Instr.sliceAt, Sem.run_bind, run_und hu, Result.andThen_ok]
            exact this
          · have hlen : ((rows.take hh).drop l).length = hh - l := by simp; omega
            subst hve
            by_cases hr0 : rows = []
            · subst hr0
              have h0 : hh = 0 := by simpa using hle.2
              have l0 : l = 0 := by omega
              subst h0; subst l0
              rcases hr.slInv with ⟨ad', h5, _, h6⟩ | ⟨blk, off, cap, cells, e', fz, h5, hz, hh2, hc2⟩
              · cases h5
                have : m = 0 := by omega
                subst this
                simpa using h6 Z' w.heap
              · cases h5
                have : (if m = 0 then some (⟨blk, off, none⟩ : Addr) else (some (⟨blk, off, none⟩ : Addr)).map (·.add (0 * sz))) = some ⟨blk, off, none⟩ := by
                  split
                  · rfl
                  · simp [Addr.add]
                rw [this]
                simpa using Rep.sl (h := w.heap) (Z := Z') blk off m sz cells e' fz (fun _ _ => default) [] hz hh2 (Nat.zero_le _) (fun r hr => by simp at hr) (fun i r j t hi => by simp at hi) (fun i r j t hi => by simp at hi)
            · obtain ⟨blk, off, cap, sz', cells, e', fz, hve, hz, hb, _, hw', hel⟩ := hr.open_ hr0
              cases hve
              have hs' : sz' = sz := by
                cases rows with
                | nil => exact absurd rfl hr0
                | cons q rows => rw [← hw' q (by simp), hw q (by simp)]
              subst hs'
              have hoff : ∃ off', (if m = l then some (⟨blk, off, none⟩ : Addr) else (some (⟨blk, off, none⟩ : Addr)).map (·.add (l * sz'))) = some ⟨blk, off', none⟩ ∧ (hh - l ≠ 0 → off' = off + l * sz') := by
                split
                · exact ⟨off, rfl, fun h => by omega⟩
                · exact ⟨off + l * sz', by rw [Option.map_some, add_lit], fun _ => rfl⟩
              obtain ⟨off', he', ho'⟩ := hoff
              rw [he', ← hlen]
              have hget : ∀ (i : Nat) (q : List T), ((rows.take hh).drop l)[i]? = some q → rows[l + i]? = some q ∧ hh - l ≠ 0 := by
                intro i q hq
                rw [List.getElem?_drop, List.getElem?_take] at hq
                split at hq
                · exact ⟨hq, by omega⟩
                · cases hq
              have hvs : ∃ vs : Nat → Nat → Value, ∀ i q j t, ((rows.take hh).drop l)[i]? = some q → q[j]? = some t → cells[off' + (i * sz' + j)]? = some (vs i j) ∧ Rep w.heap Z' (vs i j) t := by
                refine ⟨fun i j => (cells[off' + (i * sz' + j)]?).getD default, fun i q j t hi hj => ?_⟩
                obtain ⟨h5, h6⟩ := hget i q hi
                obtain ⟨u, h7, h8⟩ := hel _ q j t h5 hj
                have h9 : cells[off' + (i * sz' + j)]? = some u := by
                  rw [ho' h6, show off + l * sz' + (i * sz' + j) = off + ((l + i) * sz' + j) by rw [Nat.add_mul]; omega]; exact h7
                simp only [h9, Option.getD_some]
                exact ⟨trivial, h8⟩
              obtain ⟨vs, hvs⟩ := hvs
              refine .sl blk off' (m - l) sz' cells e' fz vs _ hz hb (by omega) (fun q hq => ?_) (fun i q j t hi hj => (hvs i q j t hi hj).1) fun i q j t hi hj => (hvs i q j t hi hj).2
              exact hw q (List.mem_of_mem_take (List.mem_of_mem_drop hq))
        · cases H
      split at H
      · exact key H (.inl rfl)
      · rename_i m
        split at H
        · rename_i hc; exact key H (.inr ⟨m, rfl, hc.1, hc.2⟩)
        · cases H
    · cases H
  · cases H
theorem op_slice {t : TypeId} {x : Operand} {lo hi mx : Option Operand} (ho : o.op = .slice t x lo hi mx) (R : Rel σ.ob β C w.heap Z own) (hT : RelT σ.ob β C w.heap Z a tm) (H : opV P M X tm σ o = some (v, σ')) : OpOk P σ β C Z own o a w v σ' := by
  simp only [opV, ho] at H
  split at H
  · rename_i s hx hu
    split at H
    · rename_i l hh hl hhi
      split at H
      · rename_i hle
        cases H
        have := (evalO_ok hT hx).tInv
        generalize hz : a.eval x = z at this
        cases this
        obtain ⟨m, _, _, _, hrun⟩ := run_bounds (P := P) (w := w) (isS := false) (mx := none) hT hl hhi hle.1 hle.2 (Nat.le_refl _) (.inl rfl)
        refine OpOk.value (val := .string (s.extract l hh)) (w' := w) ?_ (.same R (.t _ _ (.s _)))
        have h1 : (Instr.slice t (.string s) (lo.map a.eval) (hi.map a.eval) none).run P w = .ok (.string (s.extract l hh)) w := by
          simp only [Instr.slice, Sem.run_bind, run_und hu, Result.andThen_ok]
          simp only [Option.map_none] at hrun
          simp [hrun]
        have h2 : (Instr.sliceAt t (.string s) (lo.map a.eval) (hi.map a.eval) none).run P w = .ok (.string (s.extract l hh)) w := by
          simp only [Instr.sliceAt, Sem.run_bind, run_und hu, Result.andThen_ok]; exact h1
        simp [execOp, ho, hz, h2]
      · cases H
    · cases H
  · rename_i rows e hx hu
    rw [Option.map_eq_some_iff] at H
    obtain ⟨r, hr, he⟩ := H
    cases he
    obtain ⟨val, h1, h2⟩ := op_sliceRows (P := P) (w := w) (Z' := Z) hu hT rfl (evalO_ok hT hx).tInv hr
    refine OpOk.value (val := val) (w' := w) ?_ (.same R (.t _ _ h2))
    simp [execOp, ho, h1]
  · rename_i oo vv e hx hu
    split at H
    · rename_i σ1 rows hfr hrw
      rw [Option.map_eq_some_iff] at H
      obtain ⟨r, hr, he⟩ := H
      cases he
      have hrel := evalO_ok hT hx
      obtain ⟨e1, Z1, own1, M1, hrep, _⟩ := freeze1_ok R (by have h2 := hrel; generalize a.eval x = z2 at h2; cases h2 with | ref _ _ _ ad l c hc hxx => exact hc) hfr
      generalize hz : a.eval x = z at hrel
      cases hrel with
      | ref _ _ _ ad l c hc hxx =>
        have hob : ∃ m st sz, σ.ob oo = .arr m st sz rows ∧ rows.length = vv := by
          cases hob : σ.ob oo with
          | box cs => rw [hob] at hrw; simp [VO.rows] at hrw
          | dead => rw [hob] at hrw; simp [VO.rows] at hrw
          | arr m st sz rw_ =>
            rw [hob] at hrw
            simp only [VO.rows] at hrw
            split at hrw
            · rename_i hl; cases hrw; exact ⟨m, st, sz, rfl, hl⟩
            · cases hrw
        obtain ⟨m, st, sz, hob, hlen⟩ := hob
        rw [hob] at hxx
        subst hlen
        have hval := hxx.whole
        have hrp := hrep m st sz rows hob hc
        rw [← hval] at hrp
        obtain ⟨val, h1, h2⟩ := op_sliceRows (P := P) (w := w) (Z' := Z1) hu hT hz hrp hr
        refine OpOk.value (val := val) (w' := w) ?_ ⟨_, _, _, _, M1, fun _ h => .inl h, by omega, .t _ _ h2⟩
        simp [execOp, ho, h1]
    · cases H
  · cases H
end Go.Proofs.YtpdpgfagklhpaaaGreat.V

namespace Go.Proofs.YtpdpgfagklhpaaaGreat.V
open Go
set_option linter.unusedVariables false
set_option linter.unusedSimpArgs false
variable {P : Program} {M : Nat → Bool} {X : Ora} {ob ob' : Nat → VO} {β β' : Nat → BI} {C C' : Nat → Prop} {h h' : Heap} {Z Z' : Nat → Prop} {own own' : Nat → Option Nat}
variable {σ σ' : Sto} {tm : Nat → AV} {o : Oper} {a : Act} {w : World} {v : AV}
theorem run_first {sz k xc : Nat} {xb : Option Addr} {us : List Value} (hl : us.length = k * sz) (hk : k ≠ 0 → ∃ b off, xb = some ⟨b, off, none⟩ ∧ CellsAt w.heap b off us) : (Builtin.firstCells sz k (.slice xb k xc)).run P w = .ok us.toArray w := by
  by_cases h0 : k = 0
  · subst h0
    have : us = [] := List.eq_nil_of_length_eq_zero (by simpa using hl)
    subst this
    cases xb <;> simp [Builtin.firstCells, loadCells, loadCellsFrom]
  · obtain ⟨b, off, rfl, hc⟩ := hk h0
    have := run_loadCells_list (P := P) w ⟨b, off, none⟩ us hc.cell
    rw [hl] at this
    simp [Builtin.firstCells, this]
theorem CellsAt.heap {w w' : World} {b off : Nat} {us : List Value} (H : CellsAt w.heap b off us) (he : w'.heap = w.heap) : CellsAt w'.heap b off us := by rw [he]; exact H
/-- Go's append, in the place that is there or in a new one. -/
theorem run_append {sT xT ty e e2 : TypeId} {i : TypeInfo} {z : Value} {sz sLen sCap k xc : Nat} {base xb : Option Addr} {us : List Value} (hs : P.underlying sT = some (.slice e)) (hx : P.underlying xT = some (.slice e2)) (hi : P.info? e = some i) (hsz : i.size = sz) (hb : i.bytes ≤ 64) (hz : i.zero = some z) (hzs : z.cells.size = sz)
    (hl : us.length = k * sz) (hk : k ≠ 0 → ∃ b off, xb = some ⟨b, off, none⟩ ∧ CellsAt w.heap b off us) (hlt : sLen + k < 2 ^ 40) (h1 : ∀ u ∈ us, oneV u = true) :
    (sLen + k ≤ sCap → base = none → (Builtin.append_ #[sT, xT] ty #[.slice base sLen sCap, .slice xb k xc]).run P w = .ok (.slice none (sLen + k) sCap) w) ∧
    (sLen + k ≤ sCap → ∀ b off cells e', base = some ⟨b, off, none⟩ → w.heap[b]? = some (.cells cells e' (0, 0)) → off + sLen * sz + us.length ≤ cells.size →
      ∃ w', (Builtin.append_ #[sT, xT] ty #[.slice base sLen sCap, .slice xb k xc]).run P w = .ok (.slice base (sLen + k) sCap) w' ∧ Wld w w' ∧ w'.heap = w.heap.setIfInBounds b (.cells (spl cells (off + sLen * sz) us) e')) ∧
    (sCap < sLen + k → ∀ os : List Value, os.length = sLen * sz → (sLen ≠ 0 → ∃ b off, base = some ⟨b, off, none⟩ ∧ CellsAt w.heap b off os) →
      ∃ newCap rest w', sLen + k ≤ newCap ∧ List.length rest = (newCap - (sLen + k)) * sz ∧ (Builtin.append_ #[sT, xT] ty #[.slice base sLen sCap, .slice xb k xc]).run P w = .ok (.slice (some ⟨w.heap.size, 0, none⟩) (sLen + k) newCap) w' ∧ Wld w w' ∧ w'.heap = w.heap.push (.cells (os ++ us ++ rest).toArray e)) := by
  have hf := run_first (P := P) (xc := xc) hl hk
  refine ⟨fun hroom hn => ?_, fun hroom b off cells e' hbase hh hle => ?_, fun hgrow os hol ho => ?_⟩
  · subst hn
    simp [Builtin.append_, run_und hs, run_und hx, sizeOf, run_info hi, hsz, Builtin.lenOf, hroom, hf]
  · subst hbase
    obtain ⟨w', hw', hwl, hheap⟩ := run_storeCells (P := P) hh hle h1
    refine ⟨w', ?_, hwl, hheap⟩
    simp [Builtin.append_, run_und hs, run_und hx, sizeOf, run_info hi, hsz, Builtin.lenOf, hroom, hf, add_lit, hw']
  · have hn : ¬ (sLen + k ≤ sCap) := by omega
    have h63 : ¬ (((sLen + k : Nat) : Int) > IntKind.i64.max) := by
      have : IntKind.i64.max = 9223372036854775807 := rfl
      omega
    have hcap : Builtin.nextslicecap (sLen + k) sCap ≤ 2 * (sLen + k) := nextslicecap_le hgrow
    have h48 : ¬ (Builtin.nextslicecap (sLen + k) sCap * i.bytes > 2 ^ 48) := by
      have : Builtin.nextslicecap (sLen + k) sCap * i.bytes ≤ (2 * (sLen + k)) * 64 := Nat.mul_le_mul hcap hb
      omega
    have hfo := run_first (P := P) (w := w) (xc := sCap) hol ho
    have hq : (Question.appendCap (sLen + k) sCap e).forced = false := rfl
    have hge : sLen + k ≤ (Question.appendCap (sLen + k) sCap e).cut (w.tape w.drawn (Question.appendCap (sLen + k) sCap e)) := by
      simp only [Question.cut]; omega
    generalize hcv : (Question.appendCap (sLen + k) sCap e).cut (w.tape w.drawn (Question.appendCap (sLen + k) sCap e)) = newCap at hge
    have hfo' := run_first (P := P) (w := w.drew) (xc := sCap) hol ho
    have hf' := run_first (P := P) (w := w.drew) (xc := xc) hl hk
    refine ⟨newCap, (Builtin.zeroCells z.cells (newCap - (sLen + k))).toList, w.drew.alloc (.cells (os.toArray ++ (us.toArray ++ Builtin.zeroCells z.cells (newCap - (sLen + k)))) e), hge, by simp [Builtin.zeroCells, hzs], ?_, ⟨rfl, rfl, rfl, Nat.le_succ _⟩, ?_⟩
    rotate_left
    · show (w.heap.push _) = _
      congr 2
      apply Array.ext'
      simp
    have hlen1 : (Builtin.lenOf (.slice xb k xc)).run P w = .ok k w := rfl
    simp only [Builtin.append_, sizeOf, List.getElem?_toArray, List.getElem?_cons_zero, List.getElem?_cons_succ, Sem.run_bind, run_und hs, run_und hx, run_info hi, hsz, hlen1, Result.andThen_ok, Sem.run_pure, Bool.false_eq_true, if_false, hn, false_or, Sem.run_ite]
    rw [if_neg (fun h => h63 h.1)]
    rw [if_neg h48]
    simp [Sem.run_pure, Result.andThen_ok, hq, hcv, hfo', hf', zeroValue, run_info hi, hz, newRow]
theorem op_append {c : Go.Call} {as_ : List AV} (ho : o.op = .call c) (hcal : c.callee = .builtin .append) (R : Rel σ.ob β C w.heap Z own) (hf : ∀ o, σ.n ≤ o → ¬ C o) (hT : RelT σ.ob β C w.heap Z a tm)
    (H : opV P M X tm σ o = some (v, σ')) : OpOk P σ β C Z own o a w v σ' := by
  simp only [opV, ho] at H
  split at H
  · rename_i as_ has
    rw [hcal] at H
    simp only at H
    obtain ⟨hlen, hrel⟩ := mapM_evalO hT _ _ has
    split at H
    · rename_i s x e hs
      split at H
      · rename_i sz zs by_ e2 hsz hz hby hx
        split at H
        · rename_i hcond
          rw [Option.bind_eq_some_iff] at hs hx hz
          obtain ⟨sT, hsT, hsu⟩ := hs
          obtain ⟨xT, hxT, hxu⟩ := hx
          obtain ⟨z, hzz, hzm⟩ := hz
          have hargs : ∃ o1 o2, c.args = #[o1, o2] := by
            have : c.args.toList.length = 2 := by simpa using hlen
            match hca : c.args.toList, this with
            | [o1, o2], _ => exact ⟨o1, o2, by rw [← Array.toArray_toList (xs := c.args), hca]⟩
          obtain ⟨o1, o2, hargs⟩ := hargs
          have hr1 := hrel 0 (a.eval o1) s (by simp [hargs]) rfl
          have hr2 := hrel 1 (a.eval o2) x (by simp [hargs]) rfl
          obtain ⟨base, sLen, sCap, xb, k, xc, us, hv1, hv2, hl, hk, h1, hcap, hlt, hroom, hgrow⟩ := appendV_ok R hf hr1 hr2 H
          unfold szOf at hsz
          rw [Option.map_eq_some_iff] at hsz hby
          obtain ⟨i, hi, hsz⟩ := hsz
          obtain ⟨i', hi', hby⟩ := hby
          rw [hi] at hi'; cases hi'
          unfold zeroC at hzz
          rw [Option.bind_eq_some_iff] at hzz
          obtain ⟨zv, hzv, hzc⟩ := hzz
          rw [hi] at hzv
          have hzs : zv.cells.size = sz := by
            have h3 := (constV_ok (ob := σ.ob) (β := β) (C := C) (h := w.heap) (Z := Z) hzc).cells (const_one hzc)
            have h4 := mapM_asT hzm
            have h5 : z.cells.length = sz := by rw [h4]; simpa using hcond.2
            have := h3.1
            simp at this; omega
          have hTy : ∃ rest, c.argTypes.toList = sT :: xT :: rest := by
            cases hc : c.argTypes.toList with
            | nil =>
              have : c.argTypes[0]? = none := by rw [← Array.getElem?_toList, hc]; rfl
              rw [this] at hsT; cases hsT
            | cons t1 l =>
              cases l with
              | nil =>
                have : c.argTypes[1]? = none := by rw [← Array.getElem?_toList, hc]; rfl
                rw [this] at hxT; cases hxT
              | cons t2 l =>
                have e0 : c.argTypes[0]? = some t1 := by rw [← Array.getElem?_toList, hc]; rfl
                have e1 : c.argTypes[1]? = some t2 := by rw [← Array.getElem?_toList, hc]; rfl
                rw [e0] at hsT; rw [e1] at hxT
                cases hsT; cases hxT
                exact ⟨l, rfl⟩
          have hexec : ∀ val w', (Builtin.append_ #[sT, xT] o.type #[.slice base sLen sCap, .slice xb k xc]).run P w = .ok val w' → (execOp a.eval o).run P w = .ok (.value val) w' := by
            intro val w' hh
            have happ : (Builtin.append_ c.argTypes o.type #[.slice base sLen sCap, .slice xb k xc]).run P w = .ok val w' := by
              have e0 : c.argTypes[0]? = some sT := hsT
              have e1 : c.argTypes[1]? = some xT := hxT
              unfold Builtin.append_ at hh ⊢
              simp only [e0, e1, List.getElem?_toArray, List.getElem?_cons_zero, List.getElem?_cons_succ] at hh ⊢
              exact hh
            simp [execOp, ho, resolve, hcal, invoke, builtin, hargs, hv1, hv2, happ]
          obtain ⟨A, B, D⟩ := run_append (P := P) (w := w) (ty := o.type) (base := base) (sLen := sLen) (sCap := sCap) (xb := xb) (xc := xc) hsu hxu hi hsz (by omega) hzv hzs hl hk hlt h1
          by_cases hle : sLen + k ≤ sCap
          · rcases hroom hle with ⟨hn, hp⟩ | ⟨b, off, cells, e', hbase, hh, hle2, hp⟩
            · exact OpOk.value (hexec _ _ (A hle hn)) hp
            · obtain ⟨w', hw', hwl, hheap⟩ := B hle b off cells e' hbase hh hle2
              refine OpOk.value (hexec _ _ hw') ?_ hwl
              rw [hheap, hbase]; exact hp
          · obtain ⟨os, hol, ho2, hp⟩ := hgrow (by omega)
            obtain ⟨newCap, rest, w', hnc, hrl, hw', hwl, hheap⟩ := D (by omega) os hol ho2
            refine OpOk.value (hexec _ _ hw') ?_ hwl
            rw [hheap]; exact hp newCap rest e hnc hrl
        · cases H
      · cases H
    · cases H
  · cases H
end Go.Proofs.YtpdpgfagklhpaaaGreat.V

namespace Go.Proofs.YtpdpgfagklhpaaaGreat.V
open Go
set_option linter.unusedVariables false
set_option linter.unusedSimpArgs false
variable {P : Program} {M : Nat → Bool} {X : Ora} {ob ob' : Nat → VO} {β β' : Nat → BI} {C C' : Nat → Prop} {h h' : Heap} {Z Z' : Nat → Prop} {own own' : Nat → Option Nat}
variable {σ σ' : Sto} {tm : Nat → AV} {o : Oper} {a : Act} {w : World} {v : AV}
theorem args_of {l : Array Operand} {n : Nat} (h : l.toList.length = n) : n = 1 → ∃ o1, l = #[o1] := by
  rintro rfl
  match hl : l.toList, h with
  | [o1], _ => exact ⟨o1, by rw [← Array.toArray_toList (xs := l), hl]⟩
theorem args_of2 {l : Array Operand} (h : l.toList.length = 2) : ∃ o1 o2, l = #[o1, o2] := by
  match hl : l.toList, h with
  | [o1, o2], _ => exact ⟨o1, o2, by rw [← Array.toArray_toList (xs := l), hl]⟩
theorem op_len {c : Go.Call} (ho : o.op = .call c) (hcal : c.callee = .builtin .len) (R : Rel σ.ob β C w.heap Z own) (hT : RelT σ.ob β C w.heap Z a tm) (H : opV P M X tm σ o = some (v, σ')) : OpOk P σ β C Z own o a w v σ' := by
  simp only [opV, ho] at H
  split at H
  · rename_i as_ has
    rw [hcal] at H
    simp only at H
    obtain ⟨hlen, hrel⟩ := mapM_evalO hT _ _ has
    have key : ∀ (x : AV) (d : TypeDesc) (n : Nat), as_ = [x] → (c.argTypes[0]?).bind P.underlying = some d → (∀ xv, AVRel σ.ob β C w.heap Z xv x → (d = .string ∧ ∃ s : ByteArray, xv = .string s ∧ s.size = n) ∨ ((∃ e, d = .slice e) ∧ ∃ ad cc, xv = .slice ad n cc)) → v = .t (.i .i64 n) → σ' = σ → OpOk P σ β C Z own o a w v σ' := by
      rintro x d n rfl hd hx rfl rfl
      obtain ⟨o1, hargs⟩ := args_of hlen rfl
      rw [Option.bind_eq_some_iff] at hd
      obtain ⟨t, ht, hu⟩ := hd
      have hr1 := hrel 0 (a.eval o1) x (by simp [hargs]) rfl
      refine OpOk.value (val := .int .i64 n) (w' := w) ?_ (.same R (.t _ _ (.i _ _)))
      rcases hx _ hr1 with ⟨rfl, s, hs, rfl⟩ | ⟨⟨e, rfl⟩, ad, cc, hs⟩
      · have : (Builtin.len_ c.argTypes o.type #[.string s]).run P w = .ok (goInt s.size) w := by
          simp [Builtin.len_, ht, run_und hu]
        simp [execOp, ho, resolve, hcal, invoke, builtin, hargs, hs, this, goInt]
      · have : (Builtin.len_ c.argTypes o.type #[.slice ad n cc]).run P w = .ok (goInt n) w := by
          simp [Builtin.len_, ht, run_und hu]
        simp [execOp, ho, resolve, hcal, invoke, builtin, hargs, hs, this, goInt]
    split at H
    · rename_i s hd
      cases H
      exact key _ _ _ rfl hd (fun xv hx => .inl ⟨rfl, s, by cases hx.tInv; rfl, rfl⟩) rfl rfl
    · rename_i e hd
      cases H
      exact key _ _ 0 rfl hd (fun xv hx => .inr ⟨⟨_, rfl⟩, by cases hx.tInv; exact ⟨_, _, rfl⟩⟩) rfl rfl
    · rename_i rows e hd
      cases H
      refine key _ _ rows.length rfl hd (fun xv hx => .inr ⟨⟨_, rfl⟩, ?_⟩) rfl rfl
      rcases hx.tInv.slInv with ⟨ad', h5, h6, _⟩ | ⟨blk, off, cap, cells, e', fz, h5, _⟩
      · subst h6; exact ⟨_, _, h5⟩
      · exact ⟨_, _, h5⟩
    · rename_i oo vv p e hd
      split at H
      · rename_i r hr
        cases H
        refine key _ _ r.length rfl hd (fun xv hx => .inr ⟨⟨_, rfl⟩, ?_⟩) rfl rfl
        obtain ⟨ad, cc, h5, _⟩ := R.ref_ok hx hr
        exact ⟨ad, cc, h5⟩
      · split at H
        · rename_i hp
          cases H
          refine key _ _ vv rfl hd (fun xv hx => .inr ⟨⟨_, rfl⟩, ?_⟩) rfl rfl
          cases hx with
          | ref _ _ _ ad l cc hc hxx hl => rw [hl hp]; exact ⟨_, _, rfl⟩
        · cases H
    · cases H
  · cases H
theorem op_max {c : Go.Call} (ho : o.op = .call c) (hcal : c.callee = .builtin .max) (R : Rel σ.ob β C w.heap Z own) (hT : RelT σ.ob β C w.heap Z a tm) (H : opV P M X tm σ o = some (v, σ')) : OpOk P σ β C Z own o a w v σ' := by
  simp only [opV, ho] at H
  split at H
  · rename_i as_ has
    rw [hcal] at H
    simp only at H
    obtain ⟨hlen, hrel⟩ := mapM_evalO hT _ _ has
    split at H
    · rename_i k x k' y
      cases H
      obtain ⟨o1, o2, hargs⟩ := args_of2 hlen
      have hr1 := (hrel 0 (a.eval o1) _ (by simp [hargs]) rfl).tInv
      have hr2 := (hrel 1 (a.eval o2) _ (by simp [hargs]) rfl).tInv
      generalize hz1 : a.eval o1 = z1 at hr1
      generalize hz2 : a.eval o2 = z2 at hr2
      cases hr1; cases hr2
      refine OpOk.value (val := .int k (if x < y then y else x)) (w' := w) ?_ (.same R (.t _ _ (.i _ _)))
      simp [execOp, ho, resolve, hcal, invoke, builtin, hargs, hz1, hz2, Builtin.max_, Builtin.max2]
    · cases H
  · cases H
theorem op_min {c : Go.Call} (ho : o.op = .call c) (hcal : c.callee = .builtin .min) (R : Rel σ.ob β C w.heap Z own) (hT : RelT σ.ob β C w.heap Z a tm) (H : opV P M X tm σ o = some (v, σ')) : OpOk P σ β C Z own o a w v σ' := by
  simp only [opV, ho] at H
  split at H
  · rename_i as_ has
    rw [hcal] at H
    simp only at H
    obtain ⟨hlen, hrel⟩ := mapM_evalO hT _ _ has
    split at H
    · rename_i k x k' y
      cases H
      obtain ⟨o1, o2, hargs⟩ := args_of2 hlen
      have hr1 := (hrel 0 (a.eval o1) _ (by simp [hargs]) rfl).tInv
      have hr2 := (hrel 1 (a.eval o2) _ (by simp [hargs]) rfl).tInv
      generalize hz1 : a.eval o1 = z1 at hr1
      generalize hz2 : a.eval o2 = z2 at hr2
      cases hr1; cases hr2
      refine OpOk.value (val := .int k (if y < x then y else x)) (w' := w) ?_ (.same R (.t _ _ (.i _ _)))
      simp [execOp, ho, resolve, hcal, invoke, builtin, hargs, hz1, hz2, Builtin.min_, Builtin.min2]
    · cases H
  · cases H
/-- Cells put one by one. -/
theorem foldl_put (off : Nat) : ∀ (vs : List Value) (n : Nat) (cs : Array Value), off + n + vs.length ≤ cs.size → (vs.zipIdx n).foldl (fun cs x => cs.setIfInBounds (off + x.2) x.1) cs = spl cs (off + n) vs
  | [], n, cs, _ => by
    simp [spl]
  | v :: vs, n, cs, hle => by
    simp only [List.zipIdx_cons, List.foldl_cons]
    rw [foldl_put off vs (n + 1) _ (by simp at hle ⊢; omega)]
    simp at hle
    apply Array.ext_getElem?
    intro m
    have hl1 : off + (n + 1) + vs.length ≤ (cs.setIfInBounds (off + n) v).size := by simp; omega
    have hl2 : off + n + (v :: vs).length ≤ cs.size := by simp; omega
    rcases Nat.lt_or_ge m (off + n) with h1 | h1
    · rw [spl_out hl1 (by omega), spl_out hl2 (by omega), getElem?_set_ne (by omega)]
    · rcases Nat.lt_or_ge m (off + n + (vs.length + 1)) with h2 | h2
      · by_cases h3 : m = off + n
        · subst h3
          have := spl_in hl2 (k := 0) (by simp)
          rw [spl_out hl1 (by omega), getElem?_set_same (Array.getElem?_eq_getElem (by omega))]
          simp only [Nat.add_zero] at this
          rw [this]; rfl
        · have e1 := spl_in hl1 (k := m - (off + (n + 1))) (by omega)
          have e2 := spl_in hl2 (k := m - (off + n)) (by simp; omega)
          rw [show off + (n + 1) + (m - (off + (n + 1))) = m by omega] at e1
          rw [show off + n + (m - (off + n)) = m by omega] at e2
          rw [e1, e2, show m - (off + n) = (m - (off + (n + 1))) + 1 by omega]
          rfl
      · rw [spl_out hl1 (by omega), spl_out hl2 (by simp; omega), getElem?_set_ne (by omega)]
/-- Cells told by values. -/
def RelL (ob : Nat → VO) (β : Nat → BI) (C : Nat → Prop) (h : Heap) (Z : Nat → Prop) (us : List Value) (vs : List AV) : Prop := us.length = vs.length ∧ ∀ (k : Nat) (u : Value) (x : AV), us[k]? = some u → vs[k]? = some x → AVRel ob β C h Z u x
theorem RelL.spl {cs : Array Value} {cl : List AV} {off : Nat} {us : List Value} {vs : List AV} (H : RelL ob β C h Z cs.toList cl) (H2 : RelL ob β C h Z us vs) (hle : off + vs.length ≤ cl.length) : RelL ob β C h Z (spl cs off us).toList (putL cl off vs) := by
  have hl : off + us.length ≤ cs.size := by have := H.1; have := H2.1; simp at *; omega
  refine ⟨by have := spl_size hl; have := H.1; simp at *; rw [putL_len hle]; omega, fun k u x hu hx => ?_⟩
  rw [putL_get hle] at hx
  simp only [Array.getElem?_toList] at hu
  split at hx
  · rename_i hm
    have h1 := spl_in hl (k := k - off) (by have := H2.1; omega)
    rw [show off + (k - off) = k by omega, hu] at h1
    exact H2.2 _ u x h1.symm hx
  · rename_i hm
    rw [spl_out hl (by have := H2.1; omega)] at hu
    exact H.2 k u x (by simpa using hu) hx
theorem fill_ok {place place' : Nat → Option (Nat × Nat)} (hp : ∀ i, place' i = place i) : ∀ (ps : List (Nat × AV)) (pv : List (Nat × Value)) {cl cl' : List AV} {cs : Array Value}, RelL ob β C h Z cs.toList cl → pv.map (·.1) = ps.map (·.1) →
    (∀ (k : Nat) (u : Nat × Value) (x : Nat × AV), pv[k]? = some u → ps[k]? = some x → AVRel ob β C h Z u.2 x.2) → fillV place cl ps = some cl' → ∃ cs', Instr.fill place' cs pv = some cs' ∧ RelL ob β C h Z cs'.toList cl'
  | [], pv, cl, cl', cs, H, hk, hv, hf => by
    have : pv = [] := by cases pv with
      | nil => rfl
      | cons => simp at hk
    subst this
    simp only [fillV, Option.some.injEq] at hf
    subst hf
    exact ⟨cs, rfl, H⟩
  | (i, x) :: ps, pv, cl, cl', cs, H, hk, hv, hf => by
    cases pv with
    | nil => simp at hk
    | cons u pv =>
      obtain ⟨i', u⟩ := u
      simp only [List.map_cons, List.cons.injEq] at hk
      obtain ⟨rfl, hk⟩ := hk
      simp only [fillV] at hf
      split at hf
      · rename_i off size hpl
        split at hf
        · rename_i hc
          have hr := hv 0 _ _ rfl rfl
          obtain ⟨h1, h2⟩ := AVRel.cells hr hc.2.2
          have hR2 : RelL ob β C h Z u.cells.toList x.cells := ⟨h1, h2⟩
          have hsz : u.cells.size = size := by simp only [Array.length_toList] at h1; omega
          have hcs : off + u.cells.size ≤ cs.size := by have := H.1; simp only [Array.length_toList] at this; omega
          obtain ⟨cs', h3, h4⟩ := fill_ok hp ps pv (cs := spl cs off u.cells.toList) (H.spl hR2 (by omega)) hk (fun k u x hu hx => hv (k + 1) u x (by simpa using hu) (by simpa using hx)) hf
          refine ⟨cs', ?_, h4⟩
          have hfo := foldl_put off u.cells.toList 0 cs (by simpa using hcs)
          simp only [Instr.fill, hp, hpl]
          rw [if_neg (by simp; omega)]
          rw [← Array.foldl_toList, Array.toList_zipIdx]
          have : (fun (cs : Array Value) (x : Value × Nat) => match x with | (c, j) => cs.setIfInBounds (off + j) c) = fun cs x => cs.setIfInBounds (off + x.2) x.1 := by funext cs x; rfl
          rw [hfo]
          simpa using h3
        · cases hf
      · cases hf
end Go.Proofs.YtpdpgfagklhpaaaGreat.V

