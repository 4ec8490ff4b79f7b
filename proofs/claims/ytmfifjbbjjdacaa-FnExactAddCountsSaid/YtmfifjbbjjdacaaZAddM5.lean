/- Several texts in one: what the claim needs of them. Conditions: each declaration's own. -/
import Derived.Test.YtmfifjbbjjdacaaZAddM4
import Derived.Shelf.SlSortCmp.NoneTotal
import Derived.Shelf.SlGeneric
import Derived.Ground.SlsfProg
import Derived.Test.YtmfifjbbjjdacaaProg
namespace Go.Proofs.Ytmfifjbbjjdacaa.V
open Go Go.Proofs Go.RowKit Go.Shelf Go.Sort
set_option linter.unusedVariables false
variable {P : Program} {M : Nat → Bool} {G0 : Giv} {α : Type} [EncI α]
/-- What the comparator is handed: the element in one value. -/
structure Pk (α : Type) [EncI α] (pv : List Value → Value) (pk : α → AV) : Prop where
  av : ∀ {h : Heap} {Z : Nat → Prop} {us : List Value} {x : α}, RepL h Z us (Enc.cells x) → AVRel Sto.e.ob (fun _ => ⟨0, 0, 0, false⟩) (fun _ => False) h Z (pv us) (pk x)
theorem pk_agg : Pk α (fun us => .agg us.toArray) (fun x => Ag x) := ⟨fun {h Z us x} H => by
  have := av_agg (ob := Sto.e.ob) (bt := fun _ => ⟨0, 0, 0, false⟩) (C := fun _ => False) (h := h) (Z := Z) (cs := us.toArray) (ts := Enc.cells x) (by simpa using H)
  exact this⟩
/-- The comparator in a world of the sort's. -/
structure CmpOk (P : Program) (M : Nat → Bool) (G0 : Giv) (α : Type) [EncI α] (pk : α → AV) (gf : Nat) (cmp : α → α → Int) (Q : α → Prop) : Prop where
  ret : ∀ x y : α, Q x → Q y → Ret (Rv P M G0) gf [pk x, pk y] (.t (.i .i64 (cmp x y)) false)
  swo : SWO (ltOf cmp)
theorem Evo.rowsSame {m m' : Md} {st st' sz : Nat} {old new : List (List T)} {bi : BI} {h h' : Heap} (hst : st < st') (hl : new.length = old.length) (hw : ∀ sz, (∀ r ∈ old, r.length = sz) → ∀ r ∈ new, r.length = sz) : Evo (.arr m st sz old) bi h (.arr m' st' sz new) bi h' := by
  refine ⟨fun p a' ha => ?_, fun p v h1 h2 hs => ?_, fun cs' h => by cases h⟩
  · cases p with
    | nil => simp only [VO.age, Option.some.injEq] at ha ⊢; exact ⟨_, rfl, by omega⟩
    | cons => simp only [VO.age, Option.some.injEq] at ha ⊢; exact ⟨_, rfl, by omega⟩
  · cases p with
    | nil =>
      refine ⟨rfl, fun q' h3 => ?_⟩
      simp only [VO.rows] at h3 ⊢
      split at h3
      · rename_i hcond
        cases h3
        refine ⟨old, by rw [if_pos (by omega)], by omega, fun sz' hw' => hw sz' hw', fun val h7 => ?_⟩
        rw [(h7.inv0 rfl).1]
        simp only [VO.val, VO.all]
        rw [← hl]
        exact .nil _ _
      · cases h3
    | cons ij p => simp only [VO.age, Option.some.injEq] at h1 h2; omega
theorem ext_all' {β : Type} (a : Array β) (n : Nat) (h : n = a.size) : a.extract 0 n = a := by subst h; simp
theorem sort_post {pv : List Value → Value} {pk : α → AV} (hm : P.follows .mixedOrders = true) (hG : GivOk P G0) {fs gf : Nat} (hcon : SortCon P fs (Enc.n α) pv) (hpk : Pk α pv pk) {cmp : α → α → Int} {Q : α → Prop} (hcmp : CmpOk P M G0 α pk gf cmp Q)
    {σ : Sto} {β : Nat → BI} {C Z : Nat → Prop} {own : Nat → Option Nat} {w : World} (R : Rel σ.ob β C w.heap Z own) {o st : Nat} {xs : List α} (hc : C o) (hob : σ.ob o = .arr (.own 0) st (Enc.n α) (rowsE xs)) (hQ : ∀ x ∈ xs, Q x) (hn : 0 < Enc.n α)
    (ha : ∀ a b, a ∈ xs → b ∈ xs → ¬ cmp b a < 0 → ¬ cmp a b < 0 → a = b) (hlen : xs.length < 4611686018427387904) :
    Calls P fs #[.slice (β o).addr xs.length (β o).cap, .func (.func gf) #[] #[]] w fun e w' => e = .returned (.tuple #[]) ∧ Mv σ.ob β C w.heap Z own (upd σ.ob o (.arr (.own 0) (st + 1) (Enc.n α) (rowsE (srt cmp xs)))) β C w'.heap Z own ∧ Wld w w' := by
  have hβ : upd β o (β o) = β := by
    funext x; unfold upd; split
    · rename_i e; rw [e]
    · rfl
  have HO := R.objs o hc
  unfold ObjRel at HO
  rw [hob] at HO
  obtain ⟨f, HO⟩ := HO
  have hE : ∀ h', Evo (σ.ob o) (β o) w.heap (.arr (.own 0) (st + 1) (Enc.n α) (rowsE (srt cmp xs))) (β o) h' := fun h' => by
    rw [hob]
    exact Evo.rowsSame (Nat.lt_succ_self _) (by simp [srt]) fun sz hw r hr => by
      have : ∃ x ∈ srt cmp xs, r = Enc.cells x := by
        obtain ⟨x, hx, rfl⟩ := List.mem_map.1 hr; exact ⟨x, hx, rfl⟩
      obtain ⟨x, hx, rfl⟩ := this
      exact hw _ (List.mem_map.2 ⟨x, (srt_perm.mem_iff).1 hx, rfl⟩)
  rcases Nat.eq_zero_or_pos xs.length with h0 | hpos
  · have hx : xs = [] := List.eq_nil_of_length_eq_zero h0
    subst hx
    refine (hcon.1 _ _ _ w).mono ?_
    rintro e w' ⟨rfl, rfl⟩
    refine ⟨rfl, ?_, Wld.refl _⟩
    have M1 := Mv.change R hc (.arr (.own 0) (st + 1) (Enc.n α) (rowsE (srt cmp ([] : List α)))) (β o) (h' := w'.heap) (own' := own) (Nat.le_refl _) (fun _ _ _ => rfl) (fun _ _ _ _ h => h) (fun b y h => ⟨R.own_lt b y h, .inl ⟨y, h⟩⟩) (fun _ _ h => h) (hE _) (fun _ => by
      unfold ObjRel
      rw [upd_same, upd_same]
      have e0 : srt cmp ([] : List α) = [] := by simp [srt]
      rw [e0]
      exact ⟨f, HO⟩)
    rw [hβ] at M1
    exact M1
  · haveI : Inhabited (Fin xs.length) := ⟨⟨0, hpos⟩⟩
    have hnil : (β o).isNil = false := by
      cases hb : (β o).isNil with
      | false => rfl
      | true =>
        have h1 := HO.nil hb
        have h2 := HO.cap
        rw [rowsE_len] at h2
        omega
    obtain ⟨hown, cells, e, hcell, hcs, hel⟩ := HO.blk hnil
    have hcap := HO.cap
    rw [rowsE_len] at hcap
    generalize hk0 : Enc.n α = k at *
    have hrow : ∀ (i : Nat) (hi : i < xs.length), (rowsE xs)[i]? = some (Enc.cells xs[i]) := fun i hi => by simp [rowsE, hi]
    have hlc : ∀ x : α, (Enc.cells x).length = k := fun x => by rw [Enc.len, hk0]
    let enc : Fin xs.length → List Value := fun i => (List.range k).map fun j => (cells[(β o).off + (i.val * k + j)]?).getD default
    have hel' : ∀ (i : Fin xs.length) (j : Nat) (hj : j < k), ∃ t, (Enc.cells xs[i.val])[j]? = some t ∧ (enc i)[j]? = cells[(β o).off + (i.val * k + j)]? ∧ ∃ v, (enc i)[j]? = some v ∧ NOwn w.heap (fun b => own b = some o) (β o) f 0 i.val j v t := fun i j hj => by
      have hjl : j < (Enc.cells xs[i.val]).length := by rw [hlc]; exact hj
      obtain ⟨v, h1, h2⟩ := hel i.val _ j _ (hrow i.val i.isLt) (List.getElem?_eq_getElem hjl)
      refine ⟨_, List.getElem?_eq_getElem hjl, ?_, v, ?_, h2⟩
      · simp only [enc, List.getElem?_map, List.getElem?_range hj, Option.map_some, h1, Option.getD_some]
      · simp only [enc, List.getElem?_map, List.getElem?_range hj, Option.map_some, h1, Option.getD_some]
    have hekl : ∀ i, (enc i).length = k := fun i => by simp [enc]
    have hd0 : (Array.ofFn fun i : Fin xs.length => i).size = xs.length := by simp
    have hat : ∀ (dk : Array (Fin xs.length)), dk.size = xs.length → ∀ t, t < xs.length * k → ∀ hh : t / k < dk.size, (flatK enc k dk)[t]? = (enc dk[t / k])[t % k]? := by
      intro dk hdk t ht hh
      have hlt : t < (flatK enc k dk).size := by rw [size_flatK, hdk]; exact ht
      have e1 := getElem!_pos (flatK enc k dk) t hlt
      have hm' : t % k < (enc dk[t / k]).length := by rw [hekl]; exact Nat.mod_lt _ hn
      have e2 := getElem!_pos (enc dk[t / k]) (t % k) hm'
      rw [Array.getElem?_eq_getElem hlt, ← e1, get_flatK _ _ _ _ (by rw [hdk]; exact ht), getElem!_pos dk _ hh, e2, List.getElem?_eq_getElem hm']
    have hfit : xs.length * k ≤ (β o).cap * k := Nat.mul_le_mul_right _ hcap
    have hH : HoldsK enc k w (β o).b (β o).off (Array.ofFn fun i : Fin xs.length => i) := by
      intro t ht
      rw [size_flatK, hd0] at ht
      have hq : t / k < xs.length := by rw [Nat.div_lt_iff_lt_mul hn]; exact ht
      have h2 := hat _ hd0 t ht (by rw [hd0]; exact hq)
      simp only [Array.getElem_ofFn] at h2
      have hlt : t < (flatK enc k (Array.ofFn fun i : Fin xs.length => i)).size := by rw [size_flatK, hd0]; exact ht
      have e1 := getElem!_pos (flatK enc k (Array.ofFn fun i : Fin xs.length => i)) t hlt
      rw [e1]
      rw [Array.getElem?_eq_getElem hlt] at h2
      obtain ⟨tt, _, h4, v, h5, _⟩ := hel' ⟨t / k, hq⟩ (t % k) (Nat.mod_lt _ hn)
      have e3 : t / k * k + t % k = t := by rw [Nat.mul_comm]; exact Nat.div_add_mod t k
      simp only [e3] at h4
      refine ⟨?_, ?_⟩
      · unfold World.cell?
        simp only [hcell]
        rw [← h4]
        simpa using h2.symm
      · unfold World.frozen?
        simp [hcell]
    have hlt : (β o).b < w.heap.size := R.own_lt _ _ hown
    have hZ1 : ∀ (m : Nat) (os : Array Obj) (dk : Array (Fin xs.length)) (x : Fin xs.length), RepL (sortWorldK enc k w (β o).b (β o).off m dk os).heap (fun b => b < w.heap.size ∧ b ≠ (β o).b) (enc x) (Enc.cells xs[x.val]) := fun m os dk x => by
      obtain ⟨hh1, hh2, hh3⟩ := heap_sortWorldK (enc := enc) (k := k) (off := (β o).off) (m := m) (dk := dk) (os := os) hcell
      refine ⟨by rw [hekl, hlc], fun j u t hu ht => ?_⟩
      have hj : j < k := by have := (List.getElem?_eq_some_iff.1 hu).1; rwa [hekl] at this
      obtain ⟨t', h1, _, v, h3, h4⟩ := hel' x j hj
      rw [hu] at h3; cases h3
      rw [ht] at h1; cases h1
      exact ((h4.2.2 (Nat.zero_le _)).mono (S' := fun b => b < w.heap.size ∧ b ≠ (β o).b) fun b hb => ⟨⟨R.own_lt _ _ hb.1, hb.2.1⟩, hh2 b (R.own_lt _ _ hb.1) hb.2.1⟩).rep fun b hb => hb
    have hcalls : ∀ (m : Nat) (os : Array Obj) (dk : Array (Fin xs.length)) (x y : Fin xs.length), (∃ fn, P.funcs[gf]? = some fn ∧ fn.body.isSome = true ∧ (fn.name == "runtime.NumGoroutine") = false) ∧ Calls P gf #[pv (enc x), pv (enc y)] (sortWorldK enc k w (β o).b (β o).off m dk os) fun e w' => e = .returned (.int .i64 (cmp xs[x.val] xs[y.val])) ∧ ∃ q os', w' = grow ((sortWorldK enc k w (β o).b (β o).off m dk os).drewN q) os' := fun m os dk x y => by
      obtain ⟨hh1, _⟩ := heap_sortWorldK (enc := enc) (k := k) (off := (β o).off) (m := m) (dk := dk) (os := os) hcell
      exact calls_grow hm hG (hcmp.ret xs[x.val] xs[y.val] (hQ _ (List.getElem_mem _)) (hQ _ (List.getElem_mem _))) (Z := fun b => b < w.heap.size ∧ b ≠ (β o).b) (fun b hb => Nat.lt_of_lt_of_le hb.1 hh1) (RelL.cons (hpk.av (hZ1 m os dk x)) (RelL.cons (hpk.av (hZ1 m os dk y)) RelL.nil))
    have heg : ∀ args w, (callFunc gf args).run P w = .ok (.enter gf args) w := fun args w' => by
      obtain ⟨fn, h1, h2, h3⟩ := (hcalls 0 #[] (Array.ofFn fun i : Fin xs.length => i) ⟨0, hpos⟩ ⟨0, hpos⟩).1
      have h3' : ¬ fn.name = "runtime.NumGoroutine" := by simpa using h3
      obtain ⟨code, hb⟩ := Option.isSome_iff_exists.1 h2
      simp [callFunc, h1, h3', hb]
    have hfin := hcon.2 xs.length enc hekl (fun i v hv => by
      obtain ⟨j, hj⟩ := List.getElem?_of_mem hv
      have hjk : j < k := by have := (List.getElem?_eq_some_iff.1 hj).1; rwa [hekl] at this
      obtain ⟨_, _, _, v', h3, h4⟩ := hel' i j hjk
      rw [hj] at h3; cases h3
      exact one_cell h4.1) (fun i j => cmp xs[i.val] xs[j.val]) ⟨fun i => hcmp.swo.irrefl xs[i.val], fun i j l => hcmp.swo.trans xs[i.val] xs[j.val] xs[l.val], fun i j l => hcmp.swo.ntrans xs[i.val] xs[j.val] xs[l.val]⟩ gf (β o).b (β o).off (β o).cap w heg
      (fun m os dk hdk x y => (hcalls m os dk x y).2) hH hlt hlen
    have haddr : (β o).addr = some ⟨(β o).b, (β o).off, none⟩ := by simp [BI.addr, hnil]
    rw [haddr]
    refine hfin.mono ?_
    rintro e' w' ⟨rfl, d', m, os, hperm, hs, rfl⟩
    obtain ⟨hh1, hh2, hh3⟩ := heap_sortWorldK (enc := enc) (k := k) (off := (β o).off) (m := m) (dk := d') (os := os) hcell
    have hsize : d'.size = xs.length := by rw [hperm.1, hd0]
    have hp' : d'.toList.Perm (List.ofFn fun i : Fin xs.length => i) := by
      have := hperm.2.2
      rw [ext_all' d' _ hsize.symm, ext_all' (Array.ofFn fun i : Fin xs.length => i) _ hd0.symm] at this
      simpa using this
    have hsrt : (d'.toList.map fun i => xs[i.val]) = srt cmp xs := by
      refine srt_eq hcmp.swo ha ?_ ?_
      · have := hp'.map fun i : Fin xs.length => xs[i.val]
        rwa [ofFn_map'] at this
      · refine List.pairwise_iff_getElem.2 fun i j hi hj hij hlt => ?_
        rw [List.length_map, Array.length_toList] at hi hj
        have h3 := hs i j (Nat.zero_le _) hij (by omega)
        rw [getElem!_pos d' j hj, getElem!_pos d' i hi] at h3
        rw [List.getElem_map, List.getElem_map] at hlt
        unfold ltOf at h3
        exact absurd hlt (of_decide_eq_false h3)
    have hnd : (d'.toList.map Fin.val).Nodup := by
      have h1 := hp'.symm.nodup (ofFn_nodup' _)
      refine List.pairwise_iff_getElem.2 fun i j hi hj hij he => ?_
      rw [List.length_map] at hi hj
      rw [List.getElem_map, List.getElem_map] at he
      exact absurd (Fin.ext he) (List.pairwise_iff_getElem.1 h1 i j hi hj hij)
    refine ⟨rfl, ?_, ⟨rfl, rfl, rfl, Nat.le_add_right _ _⟩⟩
    rw [← hsrt]
    rw [← hsrt] at hE
    have M1 := Mv.change R hc (.arr (.own 0) (st + 1) k (rowsE (d'.toList.map fun i => xs[i.val]))) (β o) (own' := own) hh1 (fun b hb hne => hh2 b hb fun e => by subst e; exact hne hown) (fun _ _ _ _ h => h) (fun b y h => ⟨Nat.lt_of_lt_of_le (R.own_lt b y h) hh1, .inl ⟨y, h⟩⟩) (fun _ _ h => h) (hE _) (fun _ => by
      unfold ObjRel
      rw [upd_same, upd_same]
      refine ⟨fun b => ((d'.toList.map Fin.val).idxOf (f b).1, (f b).2), fun r hr => ?_, ?_, fun hx => (by rw [hnil] at hx; cases hx), fun _ => ⟨hown, _, e, hh3, ?_, fun i r j t hi hj => ?_⟩⟩
      · obtain ⟨x, hx, rfl⟩ := List.mem_map.1 hr
        exact hlc x
      · rw [rowsE_len, List.length_map, Array.length_toList, hsize]; exact hcap
      · simp only [putCells, Array.size_mapIdx]; exact hcs
      · have hil : i < d'.size := by
          have := (List.getElem?_eq_some_iff.1 hi).1
          rwa [rowsE_len, List.length_map, Array.length_toList] at this
        have hr : r = Enc.cells xs[(d'[i]).val] := by
          simp only [rowsE, List.getElem?_map, Array.getElem?_toList, Array.getElem?_eq_getElem hil, Option.map_some, Option.some.injEq] at hi
          exact hi.symm
        subst hr
        have hjk : j < k := by have := (List.getElem?_eq_some_iff.1 hj).1; rwa [hlc] at this
        obtain ⟨t', h1, h2, v, h3, h4⟩ := hel' d'[i] j hjk
        rw [hj] at h1; cases h1
        have hik : (i + 1) * k ≤ xs.length * k := Nat.mul_le_mul_right _ (by omega)
        rw [Nat.add_mul] at hik
        have ht : i * k + j < xs.length * k := by omega
        refine ⟨v, ?_, h4.1, fun hf => (h4.2.1 hf).mono fun b hb => hb.elim, fun _ => (h4.2.2 (Nat.zero_le _)).mono fun b hb => ⟨⟨hb.1, hb.2.1, ?_⟩, hh2 b (R.own_lt _ _ hb.1) hb.2.1⟩⟩
        · have e1 : (i * k + j) / k = i := by rw [Nat.mul_comm, Nat.mul_add_div hn, Nat.div_eq_of_lt hjk, Nat.add_zero]
          have e2 : (i * k + j) % k = j := by rw [Nat.mul_comm, Nat.mul_add_mod, Nat.mod_eq_of_lt hjk]
          have h5 := hat d' hsize (i * k + j) ht (by rw [e1]; exact hil)
          simp only [e1, e2] at h5
          rw [h3] at h5
          have hlf : i * k + j < (flatK enc k d').size := by rw [size_flatK, hsize]; exact ht
          have hcl : (β o).off + (i * k + j) < cells.size := by omega
          simp only [putCells, Array.getElem?_mapIdx]
          rw [Array.getElem?_eq_getElem hcl]
          simp only [Option.map_some, id]
          rw [if_pos ⟨by omega, by omega⟩, show (β o).off + (i * k + j) - (β o).off = i * k + j by omega, getElem!_pos (flatK enc k d') (i * k + j) hlf]
          rw [Array.getElem?_eq_getElem hlf] at h5
          exact h5
        · show ((d'.toList.map Fin.val).idxOf (f b).1, (f b).2) = (i, j)
          rw [hb.2.2]
          simp only [Prod.mk.injEq, and_true]
          have hm1 : (d'[i]).val ∈ d'.toList.map Fin.val := List.mem_map.2 ⟨d'[i], by simp, rfl⟩
          have hil2 := List.idxOf_lt_length_of_mem hm1
          refine inj_of_nodup' hnd hil2 (by simpa using hil) ?_
          rw [List.getElem_idxOf hil2, List.getElem_map]
          simp)
    rw [hβ] at M1
    exact M1
end Go.Proofs.Ytmfifjbbjjdacaa.V

namespace Go.Proofs.Ytmfifjbbjjdacaa.V
open Go Go.Proofs Go.RowKit Go.Shelf Go.Sort
set_option linter.unusedVariables false
/-- What is asked of the rows. -/
def SrtOk {α : Type} (cmp : α → α → Int) (Q : α → Prop) (xs : List α) : Prop := (∀ x ∈ xs, Q x) ∧ ∀ a b, a ∈ xs → b ∈ xs → ¬ cmp b a < 0 → ¬ cmp a b < 0 → a = b
open Classical in
/-- Rows of the caller's own, put in order. -/
noncomputable def sortG (α : Type) [EncI α] (cmp : α → α → Int) (Q : α → Prop) (gf : Nat) (args : List AV) (σ : Sto) : Option (AV × Sto) :=
  match args with
  | [.ref o v [], .clo g []] => if g = gf then match σ.ob o with
    | .arr (.own 0) st sz rows =>
      if h : sz = Enc.n α ∧ rows.length = v ∧ v < 4611686018427387904 ∧ ∃ xs : List α, rows = rowsE xs ∧ SrtOk cmp Q xs then some (.tup [], σ.set o (.arr (.own 0) (st + 1) sz (rowsE (srt cmp h.2.2.2.choose)))) else none
    | _ => none
    else none
  | _ => none
theorem sortG_eq {α : Type} [EncI α] {cmp : α → α → Int} {Q : α → Prop} {gf o st v : Nat} {σ : Sto} {xs : List α} (hob : σ.ob o = .arr (.own 0) st (Enc.n α) (rowsE xs)) (hv : v = xs.length) (hlen : xs.length < 4611686018427387904) (h : SrtOk cmp Q xs) :
    sortG α cmp Q gf [.ref o v [], .clo gf []] σ = some (.tup [], σ.set o (.arr (.own 0) (st + 1) (Enc.n α) (rowsE (srt cmp xs)))) := by
  have hh : Enc.n α = Enc.n α ∧ (rowsE xs).length = v ∧ v < 4611686018427387904 ∧ ∃ ys : List α, rowsE xs = rowsE ys ∧ SrtOk cmp Q ys := ⟨rfl, by rw [rowsE_len, hv], by omega, xs, rfl, h⟩
  simp only [sortG, if_pos, hob]
  rw [dif_pos hh]
  have := rowsE_inj hh.2.2.2.choose_spec.1
  rw [← this]
theorem two_of {a : Array Value} (h : a.size = 0 + 1 + 1) : ∃ v0 v1, a = #[v0, v1] := by
  obtain ⟨l⟩ := a
  match l, h with
  | [x, y], _ => exact ⟨x, y, rfl⟩
theorem sortG_ok {P : Program} {M : Nat → Bool} {G0 : Giv} {α : Type} [EncI α] {pv : List Value → Value} {pk : α → AV} (hm : P.follows .mixedOrders = true) (hG : GivOk P G0) {fs gf : Nat} (hcon : SortCon P fs (Enc.n α) pv) (hpk : Pk α pv pk) {cmp : α → α → Int} {Q : α → Prop} (hcmp : CmpOk P M G0 α pk gf cmp Q)
    (hn : 0 < Enc.n α) {args : List AV} {σ σ' : Sto} {r : AV} (H : sortG α cmp Q gf args σ = some (r, σ'))
    {β : Nat → BI} {C Z : Nat → Prop} {own : Nat → Option Nat} {w : World} {vals : Array Value} (R : Rel σ.ob β C w.heap Z own) (hf : ∀ o, σ.n ≤ o → ¬ C o) (hargs : RelL σ.ob β C w.heap Z vals.toList args) :
    Calls P fs vals w (fun e w' => ∃ val, e = .returned val ∧ Post σ β C w.heap Z own σ' val r w'.heap ∧ Wld w w') := by
  unfold sortG at H
  split at H
  · rename_i o v g
    split at H
    · rename_i hg
      subst hg
      split at H
      · rename_i st sz rows hob
        split at H
        · rename_i h
          cases H
          obtain ⟨hsz, hv, hlt, hex⟩ := h
          obtain ⟨hrows, hQ, ha⟩ := hex.choose_spec
          generalize hex.choose = xs at hrows hQ ha
          subst hsz; subst hrows
          obtain ⟨h1, h2⟩ := hargs
          simp only [List.length_cons, List.length_nil, Array.length_toList] at h1
          obtain ⟨v0, v1, hvs⟩ := two_of h1
          subst hvs
          have e0 := h2 0 v0 _ rfl rfl
          have e1 := h2 1 v1 _ rfl rfl
          cases e0 with
          | ref _ _ _ a l c hc hx =>
            cases e1 with
            | clo _ vs _ hs _ =>
              have hvs0 : vs = #[] := Array.eq_empty_of_size_eq_zero (by simpa using hs)
              subst hvs0
              rw [hob] at hx
              rw [← hv] at hx
              have hval := hx.whole
              rw [hval, rowsE_len]
              refine (sort_post hm hG hcon hpk hcmp R hc hob hQ hn ha (by rw [rowsE_len] at hv; omega)).mono ?_
              rintro e w' ⟨rfl, hM, hw⟩
              exact ⟨_, rfl, ⟨β, C, Z, own, hM, fun o ho => .inl ho, Nat.le_refl _, .tup _ _ (by simp) fun i u x hu => by simp at hu⟩, hw⟩
        · cases H
      · cases H
    · cases H
  · cases H
end Go.Proofs.Ytmfifjbbjjdacaa.V

namespace Go.Proofs.Ytmfifjbbjjdacaa.V
open Go Go.Proofs
set_option linter.unusedVariables false
abbrev Row := List Int
/-- In strictly ascending order. -/
abbrev Asc (l : List Row) : Prop := l.Pairwise fun a b => cmpI a b < 0
theorem cmp_asym {a b : Row} (h : cmpI a b < 0) : ¬ cmpI b a < 0 := fun h2 => by
  have := cmp_trans a b a h h2
  rw [cmp_self] at this; omega
theorem ins_perm {α : Type} (out : List α) (x : α) (k : Nat) : (out.take k ++ [x] ++ out.drop k).Perm (out ++ [x]) := by
  have h1 : (out.take k ++ [x] ++ out.drop k).Perm (out.take k ++ (out.drop k ++ [x])) := by
    rw [List.append_assoc]; exact (List.perm_append_comm).append_left _
  rwa [← List.append_assoc, List.take_append_drop] at h1
end Go.Proofs.Ytmfifjbbjjdacaa.V

namespace Go.Proofs.Ytmfifjbbjjdacaa.V
open Go Go.Proofs
set_option linter.unusedVariables false
/-- What each variable is bound to. -/
abbrev Bnd := List (Option Int)
def getB (b : Bnd) (t : Int) : Option Int := (b[t.toNat]?).join
def mtch : List Int → List Int → Bnd → Option Bnd
  | t :: ts, v :: vs, b => if t < 0 then (if -1 - t = v then mtch ts vs b else none) else
    match getB b t with
    | none => mtch ts vs (b.set t.toNat (some v))
    | some x => if x = v then mtch ts vs b else none
  | _, _, b => some b
def mtchA (a f : RA) (b : Bnd) : Option Bnd := if a.rel = f.rel ∧ a.args.length = f.args.length then mtch a.args f.args b else none
def binds (db : List RA) : List RA → Bnd → List Bnd
  | [], b => [b]
  | a :: body, b => db.flatMap fun f => match mtchA a f b with
    | some b' => binds db body b'
    | none => []
/-- b' binds what b binds, to the same. -/
def Ext (b b' : Bnd) : Prop := b.length = b'.length ∧ ∀ (t : Int) (v : Int), getB b t = some v → getB b' t = some v
theorem Ext.refl (b : Bnd) : Ext b b := ⟨rfl, fun _ _ h => h⟩
theorem Ext.trans {a b c : Bnd} (h : Ext a b) (k : Ext b c) : Ext a c := ⟨h.1.trans k.1, fun t v hv => k.2 t v (h.2 t v hv)⟩
def b0 : Bnd := List.replicate 20 none
end Go.Proofs.Ytmfifjbbjjdacaa.V

namespace Go.Proofs.Ytmfifjbbjjdacaa.V
open Go Go.Proofs
set_option linter.unusedVariables false
structure Sch where
  arity : List Int
  deriving DecidableEq
instance : Enc Sch := ⟨fun a => [.sl (rowsE a.arity)], 1, false, fun _ => rfl, fun h => by cases h⟩
@[simp] theorem cells_Sch (a : Sch) : Enc.cells a = [.sl (rowsE a.arity)] := rfl
@[simp] theorem n_Sch : Enc.n Sch = 1 := rfl
end Go.Proofs.Ytmfifjbbjjdacaa.V

namespace Go.Proofs.Ytmfifjbbjjdacaa.V
open Go Go.Proofs
/-- The functions whose work is given: sorts. -/
def srtFs : List Nat := [
  43,
  93,
  900000]
/-- The functions that work over the caller's store. -/
def Ms : Nat → Bool := fun f => srtFs.contains f || [900604, 927410, 926999, 931929, 972420, 984653, 904197, 919488, 11, 926960, 935953, 953973, 917958, 47, 970530, 909840, 914852, 980750, 931884, 912810, 973132, 976810, 989185, 931201, 981815, 922309].contains f
/-- Lengths that the machine can tell. -/
abbrev Sm {α : Type} (l : List α) : Prop := l.length < 1099511627775
/-- A counted row before another one. -/
def cmpC (a b : Cnt) : Int := cmpI a.tuple b.tuple
noncomputable def srtL : List (Nat × (List AV → Sto → Option (AV × Sto))) := [
  (43, sortG Cnt cmpC (fun c => Sm c.tuple) 44),
  (93, sortG RA cmpF (fun c => Sm c.args) 94),
  (900000, fun _ _ => none)]
def lookG : List (Nat × (List AV → Sto → Option (AV × Sto))) → Nat → Option (List AV → Sto → Option (AV × Sto))
  | [], _ => none
  | q :: l, f => if f = q.1 then some q.2 else lookG l f
noncomputable def Gs : Giv := lookG srtL
theorem lookG_no : ∀ {l : List (Nat × (List AV → Sto → Option (AV × Sto)))} {f : Nat}, (l.map (·.1)).contains f = false → lookG l f = none
  | [], _, _ => rfl
  | q :: l, f, h => by
    simp only [List.map_cons, List.contains_cons, Bool.or_eq_false_iff, beq_eq_false_iff_ne] at h
    rw [lookG, if_neg h.1, lookG_no h.2]
theorem lookG_mem : ∀ {l : List (Nat × (List AV → Sto → Option (AV × Sto)))} {f : Nat} {g : List AV → Sto → Option (AV × Sto)}, lookG l f = some g → (f, g) ∈ l
  | [], _, _, h => by cases h
  | q :: l, f, g, h => by
    rw [lookG] at h
    split at h
    · rename_i e; cases h; subst e; exact List.mem_cons_self
    · exact List.mem_cons_of_mem _ (lookG_mem h)
/-- Nothing else is given. -/
class NoG (G : Giv) : Prop where
  no : ∀ f, srtFs.contains f = false → G f = none
instance : NoG (fun _ => none) := ⟨fun _ _ => rfl⟩
theorem srt_names : srtL.map (·.1) = srtFs := rfl
instance : NoG Gs := ⟨fun f h => lookG_no (by rw [srt_names]; exact h)⟩
noncomputable abbrev XX : Ora := Rv Try.prog Ms Gs
theorem cvg {G : Giv} {f : Nat} {as_ : List AV} {x : XV} (H : Ret (Rv Try.prog Ms G) f as_ x) (hM : Ms f = false := by rfl) (σ : Sto) (args : List AV) (ha : args.mapM (reify σ) = some as_) :
    callV Ms (Rv Try.prog Ms G) σ f args = if x.sh then (freezeL σ (args.flatMap ids)).map fun σf => place σf x else some (place σ x) := callV_ret H hM ha
theorem cv {f : Nat} {as_ : List AV} {x : XV} (H : Ret XX f as_ x) (hM : Ms f = false := by rfl) (σ : Sto) (args : List AV) (ha : args.mapM (reify σ) = some as_) :
    callV Ms XX σ f args = if x.sh then (freezeL σ (args.flatMap ids)).map fun σf => place σf x else some (place σ x) := callV_ret H hM ha
end Go.Proofs.Ytmfifjbbjjdacaa.V

namespace Go.Proofs.Ytmfifjbbjjdacaa.V
open Go Go.Proofs
set_option linter.unusedSimpArgs false
section
variable {G : Giv} [NoG G]
theorem isNaN_r (a : Int) : Ret (Rv Try.prog Ms G) 136 [In a] (.t (.b false) false) := by
  refine ret_W (NoG.no _ rfl) Try.func136 rfl rfl (by simp [Try.f136]) ?_
  simp only [Try.f136]
  repeat' first | refine W_seq ?_ | refine W_block ?_ | refine W_skip ?_ | refine W_ret ?_ | refine W_exit ?_ | refine xb_hit ?_ | refine xb_miss (by decide) ?_ | (apply W_reg; (simp; exact .r _))
  simp
theorem cmpInt_r (a b : Int) : Ret (Rv Try.prog Ms G) 83 [In a, In b] (.t (.i .i64 (if a < b then -1 else if b < a then 1 else 0)) false) := by
  refine ret_W (NoG.no _ rfl) Try.func83 rfl rfl (by simp [Try.f83]) ?_
  simp only [Try.f83]
  have h1 := cvg (isNaN_r (G := G) a)
  have h2 := cvg (isNaN_r (G := G) b)
  repeat' first | refine W_seq ?_ | refine W_block ?_ | refine W_skip ?_ | refine W_ret ?_ | refine W_exit ?_ | refine xb_hit ?_ | refine xb_miss (by decide) ?_ | (apply W_reg; (simp [h1, h2]; exact .r _))
  refine W_cond (by simp [h1, h2]; exact .r _) (fun hc => ?_) (fun hc => ?_)
  · cases hc
  repeat' first | refine W_seq ?_ | refine W_block ?_ | refine W_skip ?_ | refine W_ret ?_ | refine W_exit ?_ | refine xb_hit ?_ | refine xb_miss (by decide) ?_ | (apply W_reg; (simp [h1, h2]; exact .r _))
  refine W_cond (by simp [h1, h2]; exact .r _) (fun hc => ?_) (fun hc => ?_)
  · cases hc
  repeat' first | refine W_seq ?_ | refine W_block ?_ | refine W_skip ?_ | refine W_ret ?_ | refine W_exit ?_ | refine xb_hit ?_ | refine xb_miss (by decide) ?_ | (apply W_reg; (simp [h1, h2]; exact .r _))
  refine W_cond (by simp [h1, h2]; exact .r _) (fun hc => ?_) (fun hc => ?_)
  · repeat' first | refine W_seq ?_ | refine W_block ?_ | refine W_skip ?_ | refine W_ret ?_ | refine W_exit ?_ | refine xb_hit ?_ | refine xb_miss (by decide) ?_ | (apply W_reg; (simp [h1, h2]; exact .r _))
    have : a < b := by simpa using hc
    simp [this]
  repeat' first | refine W_seq ?_ | refine W_block ?_ | refine W_skip ?_ | refine W_ret ?_ | refine W_exit ?_ | refine xb_hit ?_ | refine xb_miss (by decide) ?_ | (apply W_reg; (simp [h1, h2]; exact .r _))
  have hab : ¬ a < b := by simpa using hc
  refine W_cond (by simp [h1, h2]; exact .r _) (fun hd => ?_) (fun hd => ?_)
  · repeat' first | refine W_seq ?_ | refine W_block ?_ | refine W_skip ?_ | refine W_ret ?_ | refine W_exit ?_ | refine xb_hit ?_ | refine xb_miss (by decide) ?_ | (apply W_reg; (simp [h1, h2]; exact .r _))
    have : b < a := by simpa using hd
    simp [this, hab]
  · repeat' first | refine W_seq ?_ | refine W_block ?_ | refine W_skip ?_ | refine W_ret ?_ | refine W_exit ?_ | refine xb_hit ?_ | refine xb_miss (by decide) ?_ | (apply W_reg; (simp [h1, h2]; exact .r _))
    have : ¬ b < a := by simpa using hd
    simp [this, hab]
theorem cmpI_step {a b : List Int} {i : Nat} (ha : i < a.length) (hb : i < b.length) : cmpI (a.drop i) (b.drop i) = if a[i] < b[i] then -1 else if b[i] < a[i] then 1 else cmpI (a.drop (i + 1)) (b.drop (i + 1)) := by
  rw [List.drop_eq_getElem_cons ha, List.drop_eq_getElem_cons hb]; rfl
theorem cmpRow_r (a b : List Int) (ha : Sm a) : Ret (Rv Try.prog Ms G) 45 [Ar a, Ar b] (.t (.i .i64 (cmpI a b)) false) := by
  refine ret_W (NoG.no _ rfl) Try.func45 rfl rfl (by simp [Try.f45]) ?_
  simp only [Try.f45]
  repeat' first | refine W_seq ?_ | refine W_block ?_ | refine W_skip ?_ | refine W_ret ?_ | refine W_exit ?_ | refine xb_hit ?_ | refine xb_miss (by decide) ?_ | (apply W_reg; (simp; exact .r _))
  refine W_loop (n := a.length) (fun n s => ∃ i : Nat, n = a.length - i ∧ s.nt = 36 ∧ s.tm 0 = Ar a ∧ s.tm 1 = Ar b ∧ s.tm 9 = Ar a ∧ s.tm 10 = In a.length ∧ s.tm 11 = In i ∧ i ≤ a.length ∧ i ≤ b.length ∧ cmpI a b = cmpI (a.drop i) (b.drop i)) ⟨0, by simp⟩ ?_
  rintro n ⟨nt, tm, σ⟩ ⟨i, rfl, hnt, h0, h1, h9, h10, h11, hi, hib, heq⟩
  simp only at hnt h0 h1 h9 h10 h11
  subst hnt
  repeat' first | refine W_seq ?_ | refine W_block ?_ | refine W_skip ?_ | refine W_ret ?_ | refine W_exit ?_ | refine xb_hit ?_ | refine xb_miss (by decide) ?_ | (apply W_reg; (simp [h0, h1, h9, h10, h11]; exact .r _))
  refine W_cond (by simp [h0, h1, h9, h10, h11]; exact .r _) (fun hc => ?_) (fun hc => ?_)
  · have hia : i < a.length := by simpa using hc
    repeat' first | refine W_seq ?_ | refine W_block ?_ | refine W_skip ?_ | refine W_ret ?_ | refine W_exit ?_ | refine xb_hit ?_ | refine xb_miss (by decide) ?_ | (apply W_reg; (simp [h0, h1, h9, h10, h11, hia]; exact .r _))
    refine W_cond (by simp [h0, h1, h9, h10, h11]; exact .r _) (fun hd => ?_) (fun hd => ?_)
    · have : i = b.length := by simp at hd; omega
      subst this
      repeat' first | refine W_seq ?_ | refine W_block ?_ | refine W_skip ?_ | refine W_ret ?_ | refine W_exit ?_ | refine xb_hit ?_ | refine xb_miss (by decide) ?_ | (apply W_reg; (simp [h0, h1, h9, h10, h11]; exact .r _))
      rw [heq, List.drop_eq_getElem_cons hia, List.drop_length]
      simp [cmpI]
    have hib' : i < b.length := by simp at hd; omega
    have hcc := cvg (cmpInt_r (G := G) a[i] b[i])
    repeat' first | refine W_seq ?_ | refine W_block ?_ | refine W_skip ?_ | refine W_ret ?_ | refine W_exit ?_ | refine xb_hit ?_ | refine xb_miss (by decide) ?_ | (apply W_reg; (simp [h0, h1, h9, h10, h11, hib', hcc]; exact .r _))
    rw [cmpI_step hia hib'] at heq
    refine W_cond (by simp [h0, h1, h9, h10, h11]; exact .r _) (fun he => ?_) (fun he => ?_)
    · repeat' first | refine W_seq ?_ | refine W_block ?_ | refine W_skip ?_ | refine W_ret ?_ | refine W_exit ?_ | refine xb_hit ?_ | refine xb_miss (by decide) ?_ | (apply W_reg; (simp [h0, h1, h9, h10, h11]; exact .r _))
      have : cmpI a b = if a[i] < b[i] then -1 else if b[i] < a[i] then 1 else 0 := by
        rw [heq]
        by_cases h : a[i] < b[i]
        · simp [h]
        · by_cases h2 : b[i] < a[i]
          · simp [h2]
          · simp [h, h2] at he
      simp [this]
    · have hab : ¬ a[i] < b[i] := fun h => by simp [h] at he
      have hba : ¬ b[i] < a[i] := fun h => by simp [hab, h] at he
      repeat' first | refine W_seq ?_ | refine W_block ?_ | refine W_skip ?_ | refine W_ret ?_ | refine W_exit ?_ | refine xb_hit ?_ | refine xb_miss (by decide) ?_ | (apply W_reg; (simp [h0, h1, h9, h10, h11]; exact .r _))
      exact ⟨_, (by omega), i + 1, rfl, rfl, (by first | assumption | (simp [h0, h1, h9, h10, h11]; done) | (simp [h0, h1, h9, h10, h11]; omega) | (simp [h0, h1, h9, h10, h11]; exact wrap_succ (by omega))), (by first | assumption | (simp [h0, h1, h9, h10, h11]; done) | (simp [h0, h1, h9, h10, h11]; omega) | (simp [h0, h1, h9, h10, h11]; exact wrap_succ (by omega))), (by first | assumption | (simp [h0, h1, h9, h10, h11]; done) | (simp [h0, h1, h9, h10, h11]; omega) | (simp [h0, h1, h9, h10, h11]; exact wrap_succ (by omega))), (by first | assumption | (simp [h0, h1, h9, h10, h11]; done) | (simp [h0, h1, h9, h10, h11]; omega) | (simp [h0, h1, h9, h10, h11]; exact wrap_succ (by omega))), (by first | assumption | (simp [h0, h1, h9, h10, h11]; done) | (simp [h0, h1, h9, h10, h11]; omega) | (simp [h0, h1, h9, h10, h11]; exact wrap_succ (by omega))), by omega, by omega, by rw [heq, if_neg hab, if_neg hba]⟩
  · have hil : i = a.length := by simp at hc; omega
    subst hil
    repeat' first | refine W_seq ?_ | refine W_block ?_ | refine W_skip ?_ | refine W_ret ?_ | refine W_exit ?_ | refine xb_hit ?_ | refine xb_miss (by decide) ?_ | (apply W_reg; (simp [h0, h1, h9, h10, h11]; exact .r _))
    rw [List.drop_length] at heq
    refine W_cond (by simp [h0, h1, h9, h10, h11]; exact .r _) (fun he => ?_) (fun he => ?_)
    · repeat' first | refine W_seq ?_ | refine W_block ?_ | refine W_skip ?_ | refine W_ret ?_ | refine W_exit ?_ | refine xb_hit ?_ | refine xb_miss (by decide) ?_ | (apply W_reg; (simp [h0, h1, h9, h10, h11]; exact .r _))
      have hlt : a.length < b.length := by simpa using he
      rw [heq, List.drop_eq_getElem_cons hlt]
      simp [cmpI]
    · repeat' first | refine W_seq ?_ | refine W_block ?_ | refine W_skip ?_ | refine W_ret ?_ | refine W_exit ?_ | refine xb_hit ?_ | refine xb_miss (by decide) ?_ | (apply W_reg; (simp [h0, h1, h9, h10, h11]; exact .r _))
      have hge : b.length ≤ a.length := by simpa using he
      rw [heq, List.drop_eq_nil_of_le hge]
      simp [cmpI]
theorem addC1_r (a b : Cnt) (ha : Sm a.tuple) : Ret (Rv Try.prog Ms G) 44 [Ag a, Ag b] (.t (.i .i64 (cmpC a b)) false) := by
  refine ret_W (NoG.no _ rfl) Try.func44 rfl rfl (by simp [Try.f44]) ?_
  simp only [Try.f44]
  have h1 := cvg (cmpRow_r (G := G) a.tuple b.tuple ha)
  repeat' first | refine W_seq ?_ | refine W_block ?_ | refine W_skip ?_ | refine W_ret ?_ | refine W_exit ?_ | refine xb_hit ?_ | refine xb_miss (by decide) ?_ | (apply W_reg; (simp [Ag, h1]; exact .r _))
  simp [cmpC]
theorem cmpF_r (a b : RA) (ha : Sm a.args) : Ret (Rv Try.prog Ms G) 94 [Ag a, Ag b] (.t (.i .i64 (cmpF a b)) false) := by
  refine ret_W (NoG.no _ rfl) Try.func94 rfl rfl (by simp [Try.f94]) ?_
  simp only [Try.f94]
  have h1 := cvg (cmpRow_r (G := G) a.args b.args ha)
  repeat' first | refine W_seq ?_ | refine W_block ?_ | refine W_skip ?_ | refine W_ret ?_ | refine W_exit ?_ | refine xb_hit ?_ | refine xb_miss (by decide) ?_ | (apply W_reg; (simp [Ag, h1]; exact .r _))
  refine W_cond (by simp; exact .r _) (fun hc => ?_) (fun hc => ?_)
  · have h : a.rel < b.rel := by simpa using hc
    repeat' first | refine W_seq ?_ | refine W_block ?_ | refine W_skip ?_ | refine W_ret ?_ | refine W_exit ?_ | refine xb_hit ?_ | refine xb_miss (by decide) ?_ | (apply W_reg; (simp; exact .r _))
    simp [cmpF, h]
  have h : ¬ a.rel < b.rel := by simpa using hc
  repeat' first | refine W_seq ?_ | refine W_block ?_ | refine W_skip ?_ | refine W_ret ?_ | refine W_exit ?_ | refine xb_hit ?_ | refine xb_miss (by decide) ?_ | (apply W_reg; (simp [Ag, h1]; exact .r _))
  refine W_cond (by simp; exact .r _) (fun hd => ?_) (fun hd => ?_)
  · have h2 : b.rel < a.rel := by simpa using hd
    repeat' first | refine W_seq ?_ | refine W_block ?_ | refine W_skip ?_ | refine W_ret ?_ | refine W_exit ?_ | refine xb_hit ?_ | refine xb_miss (by decide) ?_ | (apply W_reg; (simp; exact .r _))
    simp [cmpF, h, h2]
  have h2 : ¬ b.rel < a.rel := by simpa using hd
  repeat' first | refine W_seq ?_ | refine W_block ?_ | refine W_skip ?_ | refine W_ret ?_ | refine W_exit ?_ | refine xb_hit ?_ | refine xb_miss (by decide) ?_ | (apply W_reg; (simp [Ag, h1]; exact .r _))
  simp [cmpF, h, h2]
end
end Go.Proofs.Ytmfifjbbjjdacaa.V

namespace Go.Proofs.Ytmfifjbbjjdacaa.V
open Go Go.Proofs
set_option linter.unusedSimpArgs false
theorem copyInts_r (l : List Int) (hl : Sm l) : Ret XX 77 [Ar l] (.own 1 (rowsE l)) := by
  refine ret_W rfl Try.func77 rfl rfl (by simp [Try.f77]) ?_
  simp only [Try.f77]
  have h0 : l.length < 1099511627776 := by omega
  repeat' first | refine W_seq ?_ | (apply W_reg; (simp [h0]; exact .r _)) | refine W_ret ?_
  simp
end Go.Proofs.Ytmfifjbbjjdacaa.V

namespace Go.Proofs.Ytmfifjbbjjdacaa.V
open Go Go.Proofs
set_option linter.unusedSimpArgs false
theorem eqInts_r (a b : List Int) (ha : Sm a) : Ret XX 80 [Ar a, Ar b] (.t (.b (decide (a = b))) false) := by
  refine ret_W rfl Try.func80 rfl rfl (by simp [Try.f80]) ?_
  simp only [Try.f80]
  repeat' first | refine W_seq ?_ | (apply W_reg; (simp; exact .r _)) | refine W_block ?_ | refine W_ret ?_
  refine W_cond (by simp; exact .r _) (fun hc => ?_) (fun hc => ?_)
  · repeat' first | refine W_seq ?_ | (apply W_reg; (simp; exact .r _)) | refine W_ret ?_
    have : a ≠ b := fun e => by subst e; simp at hc
    simp [this]
  refine W_skip ?_
  have hl : a.length = b.length := by simp at hc; omega
  repeat' first | refine W_seq ?_ | (apply W_reg; (simp; exact .r _)) | refine W_block ?_ | refine W_ret ?_
  refine W_loop (n := a.length) (fun n s => ∃ i, n = a.length - i ∧ i ≤ a.length ∧ s.nt = 26 ∧ s.tm 0 = Ar a ∧ s.tm 1 = Ar b ∧ s.tm 12 = In a.length ∧ s.tm 13 = In i ∧ a.take i = b.take i) ⟨0, by simp⟩ ?_
  rintro n ⟨nt, tm, σ⟩ ⟨i, rfl, hi, h1, h0, h1', h12, h13, heq⟩
  simp only at h1 h0 h1' h12 h13
  subst h1
  repeat' first | refine W_seq ?_ | (apply W_reg; (simp [h12, h13]; exact .r _))
  refine W_cond (by simp; exact .r _) (fun hc => ?_) (fun hc => ?_)
  · refine W_skip ?_
    have hia : i < a.length := by simpa using hc
    have hib : i < b.length := by omega
    repeat' first | refine W_seq ?_ | refine W_block ?_ | (apply W_reg; (simp [h12, h13]; exact .r _))
    apply W_draw [0, 0, 3, 7, 0, 0, 48, 112, 255] rfl rfl
    · simp; exact .r _
    · simp [h0, h1', hia, hib]; exact .r _
    · trivial
    refine W_cond (by simp; exact .r _) (fun hd => ?_) (fun hd => ?_)
    · repeat' first | refine W_seq ?_ | (apply W_reg; (simp; exact .r _)) | refine W_ret ?_
      have : a ≠ b := fun e => by subst e; simp at hd
      simp [this]
    · have hd : a[i] = b[i] := by simpa using hd
      repeat' first | refine W_skip ?_ | refine W_seq ?_ | (apply W_reg; (simp [h13]; exact .r _))
      refine ⟨a.length - (i + 1), by omega, i + 1, rfl, by omega, rfl, by simp [h0], by simp [h1'], by simp [h12], by simp; exact wrap_succ (by omega), ?_⟩
      rw [List.take_succ_eq_append_getElem hia, List.take_succ_eq_append_getElem hib, heq, hd]
  · have hil : i = a.length := by simp at hc; omega
    subst hil
    refine W_exit (xb_hit ?_)
    repeat' first | refine W_seq ?_ | (apply W_reg; (simp; exact .r _)) | refine W_ret ?_
    rw [List.take_length, hl, List.take_length] at heq
    have : a = b := heq
    simp [this]
end Go.Proofs.Ytmfifjbbjjdacaa.V

namespace Go.Proofs.Ytmfifjbbjjdacaa.V
open Go Go.Proofs
set_option linter.unusedSimpArgs false
theorem copyCounts_r (l : List Cnt) (hl : Sm l) (ha : ∀ a ∈ l, Sm a.tuple) : Ret XX 41 [Ar l] (.own 2 (rowsE l)) := by
  refine ret_W rfl Try.func41 rfl rfl (by simp [Try.f41]) ?_
  simp only [Try.f41]
  repeat' first | refine W_seq ?_ | (apply W_reg; (simp; exact .r _)) | refine W_block ?_ | refine W_ret ?_
  refine W_loop (n := l.length) (fun n s => ∃ i, n = l.length - i ∧ i ≤ l.length ∧ s.nt = 24 ∧ s.tm 7 = Ar l ∧ s.tm 8 = In l.length ∧ s.tm 9 = In i ∧ ∃ o, s.tm 3 = .ref o i [] ∧ s.σ.ob o = .arr (.own 0) 0 2 (rowsE (l.take i)) ∧ o < s.σ.n) ⟨0, by simp⟩ ?_
  rintro n ⟨nt, tm, σ⟩ ⟨i, rfl, hi, h1, h7, h8, h9, o, h3, hob, hlt⟩
  simp only at h1 h7 h8 h9 h3 hob hlt
  subst h1
  repeat' first | refine W_seq ?_ | (apply W_reg; (simp [h7, h8, h9]; exact .r _)) 
  refine W_cond (by simp; exact .r _) (fun hc => ?_) (fun hc => ?_)
  · refine W_skip ?_
    have hil : i < l.length := by simpa using hc
    repeat' first | refine W_seq ?_ | refine W_block ?_ | (apply W_reg; (simp [h7, h8, h9, hil]; exact .r _))
    have hci := cv (copyInts_r l[i].tuple (ha _ (by simp)))
    have e0 : o ≠ σ.n := by omega
    have e1 : o ≠ σ.n + 1 := by omega
    have e2 : o ≠ σ.n + 2 := by omega
    have hb : i + 1 < 1099511627776 := by omega
    apply W_draw [0, 0, 2, 6, 0, 16, 62, 126, 255, 511] rfl rfl
    · simp; exact .r _
    · simp [h3, hci, e0, e1, e2, hob, Nat.min_eq_left hi, hb]; exact .r _
    · trivial
    repeat' first | refine W_seq ?_ | (apply W_reg; (simp [h9]; exact .r _))
    refine ⟨l.length - (i + 1), by omega, i + 1, rfl, by omega, rfl, by simp [h7], by simp [h8], by simp; exact wrap_succ (by omega), o, by simp, ?_, by simp; omega⟩
    rw [rowsE_take l i hil]; simp
  · have hil : i = l.length := by simp at hc; omega
    subst hil
    refine W_exit (xb_hit ?_)
    repeat' first | refine W_seq ?_ | (apply W_reg; (simp [h3]; exact .r _)) | refine W_ret ?_
    simp [hob]
end Go.Proofs.Ytmfifjbbjjdacaa.V

namespace Go.Proofs.Ytmfifjbbjjdacaa.V
open Go Go.Proofs
set_option linter.unusedSimpArgs false
def areOrd : List Cnt → Bool
  | a :: b :: l => decide (cmpI a.tuple b.tuple < 0) && areOrd (b :: l)
  | _ => true
theorem areOrd_short {l : List Cnt} (h : l.length ≤ 1) : areOrd l = true := by
  match l, h with
  | [], _ => rfl
  | [_], _ => rfl
theorem areOrdered_r (l : List Cnt) (hl : Sm l) (hs : ∀ x ∈ l, Sm x.tuple) : Ret XX 40 [Ar l] (.t (.b (areOrd l)) false) := by
  refine ret_W rfl Try.func40 rfl rfl (by simp [Try.f40]) ?_
  simp only [Try.f40]
  repeat' first | refine W_seq ?_ | (apply W_reg; (simp; exact .r _)) | refine W_block ?_ | refine W_ret ?_
  refine W_loop (n := l.length) (fun n s => ∃ i, n = l.length - i ∧ s.nt = 23 ∧ s.tm 0 = Ar l ∧ s.tm 3 = In ((i + 1 : Nat) : Int) ∧ i ≤ l.length ∧ areOrd l = areOrd (l.drop i)) ⟨0, by simp⟩ ?_
  rintro n ⟨nt, tm, σ⟩ ⟨i, rfl, h1, h0, h3, hi, heq⟩
  simp only at h1 h0 h3
  subst h1
  repeat' first | refine W_seq ?_ | (apply W_reg; (simp [h0, h3]; exact .r _))
  refine W_cond (by simp; exact .r _) (fun hc => ?_) (fun hc => ?_)
  · refine W_skip ?_
    have hia : i + 1 < l.length := by simp at hc; omega
    have hw : IntKind.i64.wrap (i : Int) = (i : Int) := wrap_ok (by omega) (by omega)
    have hcc := cv (cmpRow_r l[i].tuple l[i + 1].tuple (hs _ (by simp)))
    repeat' first | refine W_seq ?_ | refine W_block ?_ | (apply W_reg; (simp [h0, h3]; exact .r _))
    have hil : i < l.length := by omega
    have h5 : (0 : Int) ≤ (i : Int) + 1 := by omega
    have h6 : ((i : Int) + 1).toNat = i + 1 := by omega
    apply W_draw [0, 0, 2, 7, 15, 31, 0, 0, 192, 448, 960, 2047, 4095] rfl rfl
    · simp; exact .r _
    · simp [h0, h3, hw, hil, hia, hcc, h5, h6]; exact .r _
    · trivial
    have hd : l.drop i = l[i] :: l[i + 1] :: l.drop (i + 2) := by rw [List.drop_eq_getElem_cons (by omega), List.drop_eq_getElem_cons hia]
    have hd1 : l.drop (i + 1) = l[i + 1] :: l.drop (i + 2) := List.drop_eq_getElem_cons hia
    rw [hd] at heq
    refine W_cond (by simp; exact .r _) (fun he => ?_) (fun he => ?_)
    · repeat' first | refine W_seq ?_ | (apply W_reg; (simp; exact .r _)) | refine W_ret ?_
      have : ¬ cmpI l[i].tuple l[i + 1].tuple < 0 := by simp at he; omega
      rw [heq]; simp [areOrd, this]
    · have hlt : cmpI l[i].tuple l[i + 1].tuple < 0 := by simp at he; omega
      repeat' first | refine W_skip ?_ | refine W_seq ?_ | (apply W_reg; (simp [h3]; exact .r _))
      refine ⟨l.length - (i + 1), by omega, i + 1, rfl, rfl, by simp [h0], by simp; rw [wrap_ok (by omega) (by omega)]; omega, by omega, ?_⟩
      rw [heq, hd1]; simp [areOrd, hlt]
  · have hil : l.length ≤ i + 1 := by simp at hc; omega
    refine W_exit (xb_hit ?_)
    repeat' first | refine W_seq ?_ | (apply W_reg; (simp; exact .r _)) | refine W_ret ?_
    rw [heq, areOrd_short (by simp; omega)]
    simp
end Go.Proofs.Ytmfifjbbjjdacaa.V

namespace Go.Proofs.Ytmfifjbbjjdacaa.V
open Go Go.Proofs
set_option linter.unusedSimpArgs false
def fidx {α : Type} (p : α → Bool) : List α → Nat → Int
  | [], _ => -1
  | a :: l, k => if p a then k else fidx p l (k + 1)
theorem findP_r (c : Cnt) (t : List Int) (hc : Sm c.tuple) : Ret XX 79 [Ag c, .fptr [.sl (rowsE t)]] (.t (.b (decide (c.tuple = t))) false) := by
  refine ret_W rfl Try.func79 rfl rfl (by simp [Try.f79]) ?_
  simp only [Try.f79]
  have hcc := cv (eqInts_r c.tuple t hc)
  repeat' first | refine W_seq ?_ | (apply W_reg; (simp [Ag, hcc]; exact .r _)) | refine W_ret ?_
  simp
theorem indexCnt_r (l : List Cnt) (hl : Sm l) (g : Nat) (caps : List AV) (p : Cnt → Bool) (hcap : ∀ σ, caps.mapM (reify σ) = some caps) (hM : Ms g = false) (hp : ∀ x ∈ l, Ret XX g (Ag x :: caps) (.t (.b (p x)) false)) :
    Ret XX 78 [Ar l, .clo g caps] (.t (.i .i64 (fidx p l 0)) false) := by
  refine ret_W rfl Try.func78 rfl rfl (by simp [Try.f78]) ?_
  simp only [Try.f78]
  repeat' first | refine W_seq ?_ | (apply W_reg; (simp; exact .r _)) | refine W_block ?_ | refine W_ret ?_
  refine W_loop (n := l.length) (fun n s => ∃ i, n = l.length - i ∧ s.nt = 19 ∧ s.tm 0 = Ar l ∧ s.tm 1 = .clo g caps ∧ s.tm 7 = In l.length ∧ s.tm 8 = In i ∧ i ≤ l.length ∧ fidx p l 0 = fidx p (l.drop i) i) ⟨0, by simp⟩ ?_
  rintro n ⟨nt, tm, σ⟩ ⟨i, rfl, h1, h0, h1', h7, h8, hi, heq⟩
  simp only at h1 h0 h1' h7 h8
  subst h1
  repeat' first | refine W_seq ?_ | (apply W_reg; (simp [h7, h8]; exact .r _))
  refine W_cond (by simp; exact .r _) (fun hc => ?_) (fun hc => ?_)
  · refine W_skip ?_
    have hil : i < l.length := by simpa using hc
    have hcc := cv (hp l[i] (by simp)) hM
    have hre : ∀ σ, (Ag l[i] :: caps).mapM (reify σ) = some (Ag l[i] :: caps) := fun σ => by
      rw [List.mapM_cons, hcap σ]; simp [Ag]
    have hcall : ∀ σ, callV Ms XX σ g (Ag l[i] :: caps) = some (.t (.b (p l[i])), σ) := fun σ => by rw [hcc σ _ (hre σ)]; rfl
    simp only [Ag, cells_Cnt, List.map_cons, List.map_nil] at hcall
    repeat' first | refine W_seq ?_ | refine W_block ?_ | (apply W_reg; (simp [h0, h1', h8, hil, hcall]; exact .r _))
    rw [List.drop_eq_getElem_cons hil] at heq
    refine W_cond (by simp; exact .r _) (fun he => ?_) (fun he => ?_)
    · repeat' first | refine W_seq ?_ | (apply W_reg; (simp; exact .r _)) | refine W_ret ?_
      rw [heq]; simp [fidx, he]
    · repeat' first | refine W_skip ?_ | refine W_seq ?_ | (apply W_reg; (simp [h8]; exact .r _))
      refine ⟨l.length - (i + 1), by omega, i + 1, rfl, rfl, by simp [h0], by simp [h1'], by simp [h7], by simp; exact wrap_succ (by omega), by omega, ?_⟩
      rw [heq]; simp [fidx, he]
  · have hil : i = l.length := by simp at hc; omega
    subst hil
    refine W_exit (xb_hit ?_)
    repeat' first | refine W_seq ?_ | (apply W_reg; (simp; exact .r _)) | refine W_ret ?_
    rw [heq, List.drop_length]
    simp [fidx]
theorem find_r (l : List Cnt) (t : List Int) (hl : Sm l) (hs : ∀ x ∈ l, Sm x.tuple) : Ret XX 42 [Ar l, Ar t] (.t (.i .i64 (fidx (fun c => decide (c.tuple = t)) l 0)) false) := by
  refine ret_W rfl Try.func42 rfl rfl (by simp [Try.f42]) ?_
  simp only [Try.f42]
  have hcc := cv (indexCnt_r l hl 79 [.fptr [.sl (rowsE t)]] (fun c => decide (c.tuple = t)) (fun σ => rfl) rfl fun x hx => findP_r x t (hs x hx))
  repeat' first | refine W_seq ?_ | (apply W_reg; (simp [hcc]; exact .r _)) | refine W_ret ?_
  simp
end Go.Proofs.Ytmfifjbbjjdacaa.V

namespace Go.Proofs.Ytmfifjbbjjdacaa.Shl
open Go.Shelf Go.Proofs
def sortC_ren : Go.Shelf.Ren := ⟨fun | 6 => 43 | 15 => 82 | 14 => 81 | 28 => 134 | 29 => 135 | 20 => 126 | 21 => 127 | 22 => 128 | 23 => 129 | 24 => 130 | 25 => 131 | 26 => 132 | 27 => 133 | 46 => 160 | 47 => 161 | 48 => 162 | 49 => 163 | 50 => 164 | 57 => 183 | n => n, fun | 22 => 24 | 24 => 81 | 25 => 87 | 3 => 3 | 39 => 116 | 0 => 0 | 53 => 162 | 55 => 164 | 4 => 4 | 46 => 155 | 45 => 154 | 50 => 159 | 5 => 5 | 9 => 9 | 66 => 179 | 70 => 183 | 76 => 190 | 77 => 191 | n => n, fun | n => n⟩
theorem sortC : Go.Proofs.SlLaysF0.n6 Try.prog sortC_ren := {
  mixed := by kernel_rfl
  f6 := ⟨Try.f43.name, by decide, Try.func43.trans (congrArg some (by kernel_rfl))⟩
  f14 := ⟨Try.f81.name, by decide, Try.func81.trans (congrArg some (by kernel_rfl))⟩
  f15 := Try.func82.trans (congrArg some (by kernel_rfl))
  f20 := ⟨Try.f126.name, by decide, Try.func126.trans (congrArg some (by kernel_rfl))⟩
  f21 := ⟨Try.f127.name, by decide, Try.func127.trans (congrArg some (by kernel_rfl))⟩
  f22 := ⟨Try.f128.name, by decide, Try.func128.trans (congrArg some (by kernel_rfl))⟩
  f23 := ⟨Try.f129.name, by decide, Try.func129.trans (congrArg some (by kernel_rfl))⟩
  f24 := ⟨Try.f130.name, by decide, Try.func130.trans (congrArg some (by kernel_rfl))⟩
  f25 := ⟨Try.f131.name, by decide, Try.func131.trans (congrArg some (by kernel_rfl))⟩
  f26 := ⟨Try.f132.name, by decide, Try.func132.trans (congrArg some (by kernel_rfl))⟩
  f27 := ⟨Try.f133.name, by decide, Try.func133.trans (congrArg some (by kernel_rfl))⟩
  f28 := Try.func134.trans (congrArg some (by kernel_rfl))
  f29 := Try.func135.trans (congrArg some (by kernel_rfl))
  f46 := ⟨Try.f160.name, by decide, Try.func160.trans (congrArg some (by kernel_rfl))⟩
  f47 := Try.func161.trans (congrArg some (by kernel_rfl))
  f48 := Try.func162.trans (congrArg some (by kernel_rfl))
  f49 := ⟨Try.f163.name, by decide, Try.func163.trans (congrArg some (by kernel_rfl))⟩
  f50 := ⟨Try.f164.name, by decide, Try.func164.trans (congrArg some (by kernel_rfl))⟩
  f57 := ⟨Try.f183.name, by decide, Try.func183.trans (congrArg some (by kernel_rfl))⟩
  t0 := Try.underlying0
  a0 := Try.isAgg0
  z0 := Try.sizeOf0
  v0 := Try.zeroValue0
  t3 := Try.underlying3
  a3 := Try.isAgg3
  z3 := Try.sizeOf3
  v3 := Try.zeroValue3
  t4 := Try.underlying4
  a4 := Try.isAgg4
  z4 := Try.sizeOf4
  v4 := Try.zeroValue4
  t5 := Try.underlying5
  a5 := Try.isAgg5
  z5 := Try.sizeOf5
  v5 := Try.zeroValue5
  t9 := Try.underlying9
  a9 := Try.isAgg9
  z9 := Try.sizeOf9
  v9 := Try.zeroValue9
  t22 := Try.underlying24
  a22 := Try.isAgg24
  z22 := Try.sizeOf24
  v22 := Try.zeroValue24
  t25 := Try.underlying87
  a25 := Try.isAgg87
  z25 := Try.sizeOf87
  v25 := Try.zeroValue87
  t39 := Try.underlying116
  a39 := Try.isAgg116
  z39 := Try.sizeOf116
  v39 := Try.zeroValue116
  t45 := Try.underlying154
  a45 := Try.isAgg154
  z45 := Try.sizeOf154
  v45 := Try.zeroValue154
  t46 := Try.underlying155
  a46 := Try.isAgg155
  z46 := Try.sizeOf155
  v46 := Try.zeroValue155
  t50 := Try.underlying159
  a50 := Try.isAgg159
  z50 := Try.sizeOf159
  v50 := Try.zeroValue159
  t53 := Try.underlying162
  a53 := Try.isAgg162
  z53 := Try.sizeOf162
  v53 := Try.zeroValue162
  t55 := Try.underlying164
  a55 := Try.isAgg164
  z55 := Try.sizeOf164
  v55 := Try.zeroValue164
  t66 := Try.underlying179
  a66 := Try.isAgg179
  z66 := Try.sizeOf179
  v66 := Try.zeroValue179
  t70 := Try.underlying183
  a70 := Try.isAgg183
  z70 := Try.sizeOf183
  v70 := Try.zeroValue183
  t76 := Try.underlying190
  a76 := Try.isAgg190
  z76 := Try.sizeOf190
  v76 := Try.zeroValue190
  t77 := Try.underlying191
  a77 := Try.isAgg191
  z77 := Try.sizeOf191
  v77 := Try.zeroValue191 }
def sortF_ren : Go.Shelf.Ren := ⟨fun | 6 => 93 | 15 => 82 | 14 => 144 | 28 => 134 | 29 => 135 | 20 => 166 | 21 => 167 | 22 => 168 | 23 => 169 | 24 => 170 | 25 => 171 | 26 => 172 | 27 => 173 | 46 => 184 | 47 => 161 | 48 => 162 | 49 => 185 | 50 => 186 | 57 => 190 | n => n, fun | 22 => 35 | 24 => 39 | 25 => 129 | 3 => 3 | 39 => 116 | 0 => 0 | 53 => 162 | 55 => 164 | 4 => 4 | 46 => 155 | 45 => 154 | 50 => 159 | 5 => 5 | 9 => 9 | 66 => 179 | 70 => 183 | 76 => 190 | 77 => 191 | n => n, fun | n => n⟩
theorem sortF : Go.Proofs.SlLaysF0.n6 Try.prog sortF_ren := {
  mixed := by kernel_rfl
  f6 := ⟨Try.f93.name, by decide, Try.func93.trans (congrArg some (by kernel_rfl))⟩
  f14 := ⟨Try.f144.name, by decide, Try.func144.trans (congrArg some (by kernel_rfl))⟩
  f15 := Try.func82.trans (congrArg some (by kernel_rfl))
  f20 := ⟨Try.f166.name, by decide, Try.func166.trans (congrArg some (by kernel_rfl))⟩
  f21 := ⟨Try.f167.name, by decide, Try.func167.trans (congrArg some (by kernel_rfl))⟩
  f22 := ⟨Try.f168.name, by decide, Try.func168.trans (congrArg some (by kernel_rfl))⟩
  f23 := ⟨Try.f169.name, by decide, Try.func169.trans (congrArg some (by kernel_rfl))⟩
  f24 := ⟨Try.f170.name, by decide, Try.func170.trans (congrArg some (by kernel_rfl))⟩
  f25 := ⟨Try.f171.name, by decide, Try.func171.trans (congrArg some (by kernel_rfl))⟩
  f26 := ⟨Try.f172.name, by decide, Try.func172.trans (congrArg some (by kernel_rfl))⟩
  f27 := ⟨Try.f173.name, by decide, Try.func173.trans (congrArg some (by kernel_rfl))⟩
  f28 := Try.func134.trans (congrArg some (by kernel_rfl))
  f29 := Try.func135.trans (congrArg some (by kernel_rfl))
  f46 := ⟨Try.f184.name, by decide, Try.func184.trans (congrArg some (by kernel_rfl))⟩
  f47 := Try.func161.trans (congrArg some (by kernel_rfl))
  f48 := Try.func162.trans (congrArg some (by kernel_rfl))
  f49 := ⟨Try.f185.name, by decide, Try.func185.trans (congrArg some (by kernel_rfl))⟩
  f50 := ⟨Try.f186.name, by decide, Try.func186.trans (congrArg some (by kernel_rfl))⟩
  f57 := ⟨Try.f190.name, by decide, Try.func190.trans (congrArg some (by kernel_rfl))⟩
  t0 := Try.underlying0
  a0 := Try.isAgg0
  z0 := Try.sizeOf0
  v0 := Try.zeroValue0
  t3 := Try.underlying3
  a3 := Try.isAgg3
  z3 := Try.sizeOf3
  v3 := Try.zeroValue3
  t4 := Try.underlying4
  a4 := Try.isAgg4
  z4 := Try.sizeOf4
  v4 := Try.zeroValue4
  t5 := Try.underlying5
  a5 := Try.isAgg5
  z5 := Try.sizeOf5
  v5 := Try.zeroValue5
  t9 := Try.underlying9
  a9 := Try.isAgg9
  z9 := Try.sizeOf9
  v9 := Try.zeroValue9
  t22 := Try.underlying35
  a22 := Try.isAgg35
  z22 := Try.sizeOf35
  v22 := Try.zeroValue35
  t25 := Try.underlying129
  a25 := Try.isAgg129
  z25 := Try.sizeOf129
  v25 := Try.zeroValue129
  t39 := Try.underlying116
  a39 := Try.isAgg116
  z39 := Try.sizeOf116
  v39 := Try.zeroValue116
  t45 := Try.underlying154
  a45 := Try.isAgg154
  z45 := Try.sizeOf154
  v45 := Try.zeroValue154
  t46 := Try.underlying155
  a46 := Try.isAgg155
  z46 := Try.sizeOf155
  v46 := Try.zeroValue155
  t50 := Try.underlying159
  a50 := Try.isAgg159
  z50 := Try.sizeOf159
  v50 := Try.zeroValue159
  t53 := Try.underlying162
  a53 := Try.isAgg162
  z53 := Try.sizeOf162
  v53 := Try.zeroValue162
  t55 := Try.underlying164
  a55 := Try.isAgg164
  z55 := Try.sizeOf164
  v55 := Try.zeroValue164
  t66 := Try.underlying179
  a66 := Try.isAgg179
  z66 := Try.sizeOf179
  v66 := Try.zeroValue179
  t70 := Try.underlying183
  a70 := Try.isAgg183
  z70 := Try.sizeOf183
  v70 := Try.zeroValue183
  t76 := Try.underlying190
  a76 := Try.isAgg190
  z76 := Try.sizeOf190
  v76 := Try.zeroValue190
  t77 := Try.underlying191
  a77 := Try.isAgg191
  z77 := Try.sizeOf191
  v77 := Try.zeroValue191 }
end Go.Proofs.Ytmfifjbbjjdacaa.Shl

namespace Go.Proofs.Ytmfifjbbjjdacaa.V
open Go Go.Proofs
theorem swoC : Sort.SWO (ltOf cmpC) := ⟨fun x => swoL.irrefl x.tuple, fun x y z => swoL.trans x.tuple y.tuple z.tuple, fun x y z => swoL.ntrans x.tuple y.tuple z.tuple⟩
theorem noGiv : GivOk Try.prog (fun _ => none) := fun f args σ r σ' H => by cases H
theorem mixed : Try.prog.follows .mixedOrders = true := by kernel_rfl
theorem givOk : GivOk Try.prog Gs := by
  intro f args σ r σ' H
  simp only [Option.bind_eq_some_iff] at H
  obtain ⟨g, hg, H⟩ := H
  have hm := lookG_mem hg
  simp only [srtL, List.mem_cons, List.not_mem_nil, or_false, Prod.mk.injEq] at hm
  rcases hm with ⟨rfl, rfl⟩ | ⟨rfl, rfl⟩ | ⟨rfl, rfl⟩
  · exact ⟨⟨_, Try.func43, rfl, rfl⟩, fun R hf hargs => sortG_ok (M := Ms) mixed noGiv (sortCon_K (ρ := Shl.sortC_ren) Shl.sortC 2 (fun w => by exact Try.isAgg81 w) (fun w => by exact Try.sizeOf81 w)) pk_agg ⟨fun x y hx hy => addC1_r x y hx, swoC⟩ (by decide) H R hf hargs⟩
  · exact ⟨⟨_, Try.func93, rfl, rfl⟩, fun R hf hargs => sortG_ok (M := Ms) mixed noGiv (sortCon_K (ρ := Shl.sortF_ren) Shl.sortF 2 (fun w => by exact Try.isAgg39 w) (fun w => by exact Try.sizeOf39 w)) pk_agg ⟨fun x y hx hy => cmpF_r x y hx, swoF⟩ (by decide) H R hf hargs⟩
  · cases H
end Go.Proofs.Ytmfifjbbjjdacaa.V

namespace Go.Proofs.Ytmfifjbbjjdacaa.V
open Go Go.Proofs
set_option linter.unusedVariables false
theorem rowsE_set {α : Type} [Enc α] (l : List α) (i : Nat) (x : α) : rowsE (l.set i x) = (rowsE l).set i (Enc.cells x) := by simp [rowsE, List.map_set]
/-- A name for a slice in an array that owns. -/
def Nm (st : Nat) (rows : List (List T)) (v : Nat) (p : List (Nat × Nat)) (q : List (List T)) : Prop := (p = [] → rows.length = v) ∧ (p ≠ [] → v = st) ∧ rowsAt rows p = some q
theorem Nm.rows {st sz v : Nat} {rows q : List (List T)} {p : List (Nat × Nat)} (h : Nm st rows v p q) : (VO.arr (.own 0) st sz rows).rows v p = some q := by
  obtain ⟨h1, h2, h3⟩ := h
  cases p with
  | nil => simp only [rowsAt, Option.some.injEq] at h3; subst h3; simp [VO.rows, h1 rfl]
  | cons a p => obtain ⟨i, j⟩ := a; simp only [VO.rows]; rw [if_pos ⟨h2 (by simp), Nat.zero_le _⟩]; exact h3
theorem mod_get {α : Type} {l : List α} {i : Nat} {r : α} (f : α → α) (h : l[i]? = some r) : (l.modify i f)[i]? = some (f r) := by
  rw [List.getElem?_modify, h]; simp
theorem modify_id {α : Type} {l : List α} {i : Nat} {r : α} (f : α → α) (h : l[i]? = some r) (hf : f r = r) : l.modify i f = l := by
  apply List.ext_getElem?
  intro n
  rw [List.getElem?_modify]
  by_cases e : i = n
  · subst e; rw [h]; simp [hf]
  · simp [e]
theorem rowsAt_app : ∀ {rows : List (List T)} {p : List (Nat × Nat)} {q : List (List T)} (p' : List (Nat × Nat)), rowsAt rows p = some q → rowsAt rows (p ++ p') = rowsAt q p'
  | rows, [], q, p', h => by simp only [rowsAt, Option.some.injEq] at h; subst h; rfl
  | rows, (i, j) :: p, q, p', h => by
    simp only [rowsAt, List.cons_append] at h ⊢
    split at h
    · rename_i q0 hq; exact rowsAt_app p' h
    · cases h
theorem rowsAt_set : ∀ {rows : List (List T)} {p : List (Nat × Nat)} {q : List (List T)} (f : List (List T) → List (List T)), rowsAt rows p = some q → rowsAt (setAt rows p f) p = some (f q)
  | rows, [], q, f, h => by simp only [rowsAt, Option.some.injEq] at h; subst h; rfl
  | rows, (i, j) :: p, q, f, h => by
    simp only [rowsAt] at h
    split at h
    · rename_i q0 hq
      rw [Option.bind_eq_some_iff] at hq
      obtain ⟨r, h1, h2⟩ := hq
      simp only [rowsAt, setAt]
      rw [mod_get _ h1]
      simp only [Option.bind_some]
      rw [mod_get _ h2]
      exact rowsAt_set f h
    · cases h
theorem setAt_set : ∀ (rows : List (List T)) (p : List (Nat × Nat)) (f g : List (List T) → List (List T)), setAt (setAt rows p f) p g = setAt rows p (fun q => g (f q))
  | rows, [], f, g => rfl
  | rows, (i, j) :: p, f, g => by
    simp only [setAt]
    rw [List.modify_modify_eq]
    congr 1
    funext r
    simp only [Function.comp_apply]
    rw [List.modify_modify_eq]
    congr 1
    funext x
    cases x with
    | sl q => simp only [Function.comp_apply]; rw [setAt_set]
    | _ => rfl
theorem setAt_app : ∀ (rows : List (List T)) (p p' : List (Nat × Nat)) (f : List (List T) → List (List T)), setAt rows (p ++ p') f = setAt rows p (fun q => setAt q p' f)
  | rows, [], p', f => rfl
  | rows, (i, j) :: p, p', f => by
    simp only [setAt, List.cons_append]
    congr 1
    funext r
    congr 1
    funext x
    cases x with
    | sl q => simp only; rw [setAt_app]
    | _ => rfl
theorem setAt_id : ∀ {rows : List (List T)} {p : List (Nat × Nat)} {q : List (List T)}, rowsAt rows p = some q → setAt rows p (fun _ => q) = rows
  | rows, [], q, h => by simp only [rowsAt, Option.some.injEq] at h; subst h; rfl
  | rows, (i, j) :: p, q, h => by
    simp only [rowsAt] at h
    split at h
    · rename_i q0 hq
      rw [Option.bind_eq_some_iff] at hq
      obtain ⟨r, h1, h2⟩ := hq
      simp only [setAt]
      refine modify_id _ h1 (modify_id _ h2 ?_)
      simp only
      rw [setAt_id h]
    · cases h
/-- The name stays a name. -/
theorem Nm.set {st v : Nat} {rows q q' : List (List T)} {p : List (Nat × Nat)} (h : Nm st rows v p q) (hl : q'.length = q.length) : Nm st (setAt rows p fun _ => q') v p q' := by
  obtain ⟨h1, h2, h3⟩ := h
  refine ⟨fun e => ?_, h2, rowsAt_set _ h3⟩
  subst e
  simp only [rowsAt, Option.some.injEq] at h3
  subst h3
  simp only [setAt]
  rw [hl]; exact h1 rfl
/-- A name for a row's inner slice. -/
theorem Nm.inner {st v i j : Nat} {rows q q' : List (List T)} {p : List (Nat × Nat)} {r : List T} (h : Nm st rows v p q) (hr : q[i]? = some r) (hj : r[j]? = some (.sl q')) : Nm st rows st (p ++ [(i, j)]) q' := by
  refine ⟨fun e => by simp at e, fun _ => rfl, ?_⟩
  rw [rowsAt_app _ h.2.2]
  simp [rowsAt, hr, hj]
theorem setAt_one {rows : List (List T)} {r : List T} {i j : Nat} {q : List (List T)} {f : List (List T) → List (List T)} (hr : rows[i]? = some r) (hj : r[j]? = some (.sl q)) :
    setAt rows [(i, j)] f = rows.set i (r.set j (.sl (f q))) := by
  simp only [setAt]
  apply List.ext_getElem?
  intro n
  rw [List.getElem?_modify, List.getElem?_set]
  have hil := (List.getElem?_eq_some_iff.1 hr).1
  by_cases e : i = n
  · subst e
    rw [hr, if_pos rfl, if_pos hil]
    simp only [if_true, Option.map_eq_map, Option.map_some, Option.some.injEq]
    apply List.ext_getElem?
    intro m
    rw [List.getElem?_modify, List.getElem?_set]
    have hjl := (List.getElem?_eq_some_iff.1 hj).1
    by_cases e2 : j = m
    · subst e2; rw [hj, if_pos rfl, if_pos hjl]; simp
    · simp [e2]
  · simp [e]
theorem upd_upd {α : Type} (f : Nat → α) (i : Nat) (x y : α) : upd (upd f i x) i y = upd f i y := by
  funext j; unfold upd; split <;> rfl
class Mk (α : Type) where
  cnt : α → Nat
  mrk : Int → α → α
section
variable {α : Type} [Mk α]
def cntL (l : List α) : Nat := (l.map Mk.cnt).sum
def mkL : Int → List α → List α
  | _, [] => []
  | k, a :: l => Mk.mrk k a :: mkL (k + Mk.cnt a) l
theorem mkL_len : ∀ (k : Int) (l : List α), (mkL k l).length = l.length
  | _, [] => rfl
  | k, a :: l => by simp [mkL, mkL_len (k + Mk.cnt a) l]
theorem mkL_app : ∀ (k : Int) (l m : List α), mkL k (l ++ m) = mkL k l ++ mkL (k + cntL l) m
  | k, [], m => by simp [mkL, cntL]
  | k, a :: l, m => by
    simp only [List.cons_append, mkL, mkL_app (k + Mk.cnt a) l m]
    congr 3
    simp only [cntL, List.map_cons, List.sum_cons, Int.natCast_add]
    omega
theorem cntL_take (l : List α) (i : Nat) (h : i < l.length) : cntL (l.take (i + 1)) = cntL (l.take i) + Mk.cnt l[i] := by
  rw [List.take_succ_eq_append_getElem h]; simp only [cntL, List.map_append, List.sum_append, List.map_cons, List.map_nil, List.sum_cons, List.sum_nil, Nat.add_zero]
theorem cntL_take_le (l : List α) (i : Nat) : cntL (l.take i) ≤ cntL l := by
  conv => rhs; rw [← List.take_append_drop i l]
  simp only [cntL, List.map_append, List.sum_append]; omega
theorem mkL_take (k : Int) (l : List α) (i : Nat) (h : i < l.length) : mkL k (l.take (i + 1)) = mkL k (l.take i) ++ [Mk.mrk (k + cntL (l.take i)) l[i]] := by
  rw [List.take_succ_eq_append_getElem h, mkL_app]; rfl
theorem mkL_get : ∀ (k : Int) (l : List α) (i : Nat) (h : i < l.length), (mkL k l)[i]? = some (Mk.mrk (k + cntL (l.take i)) l[i])
  | k, a :: l, 0, h => by simp [mkL, cntL]
  | k, a :: l, i + 1, h => by
    simp only [mkL, List.getElem?_cons_succ, List.getElem_cons_succ, List.take_succ_cons]
    rw [mkL_get (k + Mk.cnt a) l i (by simpa using h)]
    congr 2
    simp only [cntL, List.map_cons, List.sum_cons, Int.natCast_add]
    omega
/-- Marked up to i. -/
def mkU (k : Int) (l : List α) (i : Nat) : List α := mkL k (l.take i) ++ l.drop i
theorem mkU_zero (k : Int) (l : List α) : mkU k l 0 = l := by simp [mkU, mkL]
theorem mkU_all (k : Int) (l : List α) : mkU k l l.length = mkL k l := by simp [mkU]
theorem mkU_len (k : Int) (l : List α) (i : Nat) : (mkU k l i).length = l.length := by simp [mkU, mkL_len]; omega
theorem mkU_get (k : Int) (l : List α) (i : Nat) (h : i < l.length) : (mkU k l i)[i]? = some l[i] := by
  unfold mkU
  rw [List.getElem?_append_right (by rw [mkL_len]; simp; omega)]
  simp [mkL_len, Nat.min_eq_left (Nat.le_of_lt h), h]
theorem mkU_set (k : Int) (l : List α) (i : Nat) (h : i < l.length) : (mkU k l i).set i (Mk.mrk (k + cntL (l.take i)) l[i]) = mkU k l (i + 1) := by
  unfold mkU
  rw [mkL_take k l i h]
  have hl : (mkL k (l.take i)).length = i := by rw [mkL_len]; simp; omega
  rw [List.set_append_right _ _ (by omega), hl, Nat.sub_self, List.append_assoc]
  congr 1
  conv => lhs; rw [List.drop_eq_getElem_cons h]
  rfl
end
instance : Mk Int := ⟨fun _ => 1, fun k _ => k⟩
@[simp] theorem cnt_int (x : Int) : Mk.cnt x = 1 := rfl
@[simp] theorem mrk_int (k x : Int) : Mk.mrk k x = k := rfl
instance {α : Type} [Mk α] : Mk (List α) := ⟨cntL, mkL⟩
@[simp] theorem cnt_list {α : Type} [Mk α] (x : List α) : Mk.cnt x = cntL x := rfl
@[simp] theorem mrk_list {α : Type} [Mk α] (k : Int) (x : List α) : Mk.mrk k x = mkL k x := rfl
instance : Mk Cnt := ⟨fun c => cntL c.tuple + 1, fun k c => ⟨mkL k c.tuple, k + cntL c.tuple⟩⟩
/-- Atoms and facts: the relation first. -/
instance : Mk RA := ⟨fun a => 1 + cntL a.args, fun k a => ⟨k, mkL (k + 1) a.args⟩⟩
instance : Mk Qry := ⟨fun q => cntL q.head + cntL q.body, fun k q => ⟨mkL k q.head, mkL (k + cntL q.head) q.body⟩⟩
theorem fill_set {α : Type} (l : List α) (z : α) (i : Nat) (h : i < l.length) : (l.take i ++ List.replicate (l.length - i) z).set i l[i] = l.take (i + 1) ++ List.replicate (l.length - (i + 1)) z := by
  rw [List.set_append_right _ _ (by rw [List.length_take]; omega)]
  have e : i - (l.take i).length = 0 := by simp; omega
  rw [e, List.take_succ_eq_append_getElem h, List.append_assoc, show l.length - i = (l.length - (i + 1)) + 1 by omega, List.replicate_succ]
  simp
theorem fill_get {α : Type} [Enc α] (l : List α) (z : α) (i : Nat) (h : i < l.length) : (rowsE (l.take i ++ List.replicate (l.length - i) z))[i]? = some (Enc.cells z) := by
  rw [rowsE, List.getElem?_map, List.getElem?_append_right (by rw [List.length_take]; omega)]
  have e : i - (l.take i).length = 0 := by rw [List.length_take]; omega
  rw [e, show l.length - i = (l.length - (i + 1)) + 1 by omega, List.replicate_succ]
  rfl
theorem fill_len {α : Type} [Enc α] (l : List α) (z : α) (i : Nat) (h : i ≤ l.length) : (rowsE (l.take i ++ List.replicate (l.length - i) z)).length = l.length := by
  rw [rowsE_len, List.length_append, List.length_take, List.length_replicate]; omega
end Go.Proofs.Ytmfifjbbjjdacaa.V

namespace Go.Proofs.Ytmfifjbbjjdacaa.V
open Go Go.Proofs
set_option linter.unusedVariables false
structure Src where
  facts : List RA
  version : Int
  deriving DecidableEq
instance : Enc Src := ⟨fun a => [.sl (rowsE a.facts), .i .i64 a.version], 2, false, fun _ => rfl, fun h => by cases h⟩
@[simp] theorem cells_Src (a : Src) : Enc.cells a = [.sl (rowsE a.facts), .i .i64 a.version] := rfl
@[simp] theorem n_Src : Enc.n Src = 2 := rfl
structure Chg where
  insert : Bool
  fact : RA
  deriving DecidableEq
instance : Enc Chg := ⟨fun a => [.b a.insert, .i .i64 a.fact.rel, .sl (rowsE a.fact.args)], 3, false, fun _ => rfl, fun h => by cases h⟩
@[simp] theorem cells_Chg (a : Chg) : Enc.cells a = [.b a.insert, .i .i64 a.fact.rel, .sl (rowsE a.fact.args)] := rfl
@[simp] theorem n_Chg : Enc.n Chg = 3 := rfl
structure Cch where
  views : List Qry
  tables : List (List (List Int))
  version : Int
  deriving DecidableEq
instance : Enc Cch := ⟨fun a => [.sl (rowsE a.views), .sl (rowsE a.tables), .i .i64 a.version], 3, false, fun _ => rfl, fun h => by cases h⟩
@[simp] theorem cells_Cch (a : Cch) : Enc.cells a = [.sl (rowsE a.views), .sl (rowsE a.tables), .i .i64 a.version] := rfl
@[simp] theorem n_Cch : Enc.n Cch = 3 := rfl
structure Wtd where
  query : Qry
  weight : Int
  deriving DecidableEq
instance : Enc Wtd := ⟨fun a => [.sl (rowsE a.query.head), .sl (rowsE a.query.body), .i .i64 a.weight], 3, false, fun _ => rfl, fun h => by cases h⟩
@[simp] theorem cells_Wtd (a : Wtd) : Enc.cells a = [.sl (rowsE a.query.head), .sl (rowsE a.query.body), .i .i64 a.weight] := rfl
@[simp] theorem n_Wtd : Enc.n Wtd = 3 := rfl
structure Crt where
  rw_ : Qry
  forth : List Int
  back : List Int
  deriving DecidableEq
instance : Enc Crt := ⟨fun a => [.sl (rowsE a.rw_.head), .sl (rowsE a.rw_.body), .sl (rowsE a.forth), .sl (rowsE a.back)], 4, false, fun _ => rfl, fun h => by cases h⟩
@[simp] theorem cells_Crt (a : Crt) : Enc.cells a = [.sl (rowsE a.rw_.head), .sl (rowsE a.rw_.body), .sl (rowsE a.forth), .sl (rowsE a.back)] := rfl
@[simp] theorem n_Crt : Enc.n Crt = 4 := rfl
structure Ses where
  seen : Int
  lag : Int
  deriving DecidableEq
instance : Enc Ses := ⟨fun a => [.i .i64 a.seen, .i .i64 a.lag], 2, true, fun _ => rfl, fun _ _ => rfl⟩
@[simp] theorem cells_Ses (a : Ses) : Enc.cells a = [.i .i64 a.seen, .i .i64 a.lag] := rfl
@[simp] theorem n_Ses : Enc.n Ses = 2 := rfl
instance : Mk Wtd := ⟨fun w => cntL w.query.head + cntL w.query.body + 1, fun k w => ⟨⟨mkL k w.query.head, mkL (k + cntL w.query.head) w.query.body⟩, k + cntL w.query.head + cntL w.query.body⟩⟩
/-- What a size function counts; bounds on what it counted. -/
class Lw (α : Type) where
  w : α → Nat
  bd : Nat → α → Prop
  bd_of : ∀ (N : Nat) (a : α), w a ≤ N → bd N a
instance : Lw Int := ⟨fun _ => 0, fun _ _ => True, fun _ _ _ => trivial⟩
def wL {α : Type} [Lw α] (l : List α) : Nat := l.length + (l.map Lw.w).sum
theorem wL_mem {α : Type} [Lw α] {l : List α} {x : α} (h : x ∈ l) : Lw.w x ≤ (l.map Lw.w).sum := by
  induction l with
  | nil => simp at h
  | cons a l ih =>
    simp only [List.map_cons, List.sum_cons]
    rcases List.mem_cons.1 h with rfl | h
    · omega
    · have := ih h; omega
instance {α : Type} [Lw α] : Lw (List α) := ⟨wL, fun N l => l.length ≤ N ∧ ∀ x ∈ l, Lw.bd N x, fun N l h => ⟨by unfold wL at h; omega, fun x hx => Lw.bd_of N x (by have := wL_mem hx; unfold wL at h; omega)⟩⟩
@[simp] theorem w_int (x : Int) : Lw.w x = 0 := rfl
theorem w_list {α : Type} [Lw α] (x : List α) : Lw.w x = wL x := rfl
theorem wL_ints (l : List Int) : wL l = l.length := by
  have : ∀ l : List Int, (l.map Lw.w).sum = 0 := fun l => by induction l with
    | nil => rfl
    | cons a l ih => simp only [List.map_cons, List.sum_cons, ih]; rfl
  rw [wL, this]; rfl
instance : Lw RA := ⟨fun a => wL a.args, fun N a => Lw.bd N a.args, fun N a h => Lw.bd_of N a.args h⟩
instance : Lw Cnt := ⟨fun a => wL a.tuple, fun N a => Lw.bd N a.tuple, fun N a h => Lw.bd_of N a.tuple h⟩
instance : Lw Sch := ⟨fun a => wL a.arity, fun N a => Lw.bd N a.arity, fun N a h => Lw.bd_of N a.arity h⟩
instance : Lw Qry := ⟨fun a => wL a.head + wL a.body, fun N a => Lw.bd N a.head ∧ Lw.bd N a.body, fun N a h => ⟨Lw.bd_of N a.head (by rw [w_list]; omega), Lw.bd_of N a.body (by rw [w_list]; omega)⟩⟩
instance : Lw Src := ⟨fun a => wL a.facts, fun N a => Lw.bd N a.facts, fun N a h => Lw.bd_of N a.facts h⟩
instance : Lw Chg := ⟨fun a => wL a.fact.args, fun N a => Lw.bd N a.fact.args, fun N a h => Lw.bd_of N a.fact.args h⟩
instance : Lw Cch := ⟨fun a => wL a.views + wL a.tables, fun N a => Lw.bd N a.views ∧ Lw.bd N a.tables, fun N a h => ⟨Lw.bd_of N a.views (by rw [w_list]; omega), Lw.bd_of N a.tables (by rw [w_list]; omega)⟩⟩
instance : Lw Wtd := ⟨fun a => wL a.query.head + wL a.query.body, fun N a => Lw.bd N a.query, fun N a h => Lw.bd_of N a.query h⟩
instance : Lw Crt := ⟨fun a => wL a.rw_.head + wL a.rw_.body + wL a.forth + wL a.back, fun N a => Lw.bd N a.rw_ ∧ Lw.bd N a.forth ∧ Lw.bd N a.back,
  fun N a h => ⟨Lw.bd_of N a.rw_ (show wL a.rw_.head + wL a.rw_.body ≤ N by omega), Lw.bd_of N a.forth (by rw [w_list]; omega), Lw.bd_of N a.back (by rw [w_list]; omega)⟩⟩
/-- What a size function answers: what is left, or -1. -/
def szA (w : Nat) (left : Int) : Int := if (w : Int) ≤ left then left - w else -1
theorem wL_take {α : Type} [Lw α] (l : List α) (i : Nat) (h : i < l.length) : ((l.take (i + 1)).map Lw.w).sum = ((l.take i).map Lw.w).sum + Lw.w l[i] := by
  rw [List.take_succ_eq_append_getElem h]; simp only [List.map_append, List.sum_append, List.map_cons, List.map_nil, List.sum_cons, List.sum_nil, Nat.add_zero]
theorem wL_split {α : Type} [Lw α] (l : List α) (i : Nat) : (l.map Lw.w).sum = ((l.take i).map Lw.w).sum + ((l.drop i).map Lw.w).sum := by
  conv => lhs; rw [← List.take_append_drop i l]
  simp only [List.map_append, List.sum_append]
/-- The maximal length of Go's slices: lengths can be told. -/
def Fit {α : Type} [Lw α] (a : α) : Prop := Lw.bd 9223372036854775807 a
end Go.Proofs.Ytmfifjbbjjdacaa.V

namespace Go.Proofs.Ytmfifjbbjjdacaa.V
open Go Go.Proofs
set_option linter.unusedSimpArgs false
def wrap64 (n : Int) : Int := IntKind.i64.wrap n
def cAdd (x y : Cnt) : Cnt := ⟨x.tuple, wrap64 (x.count + y.count)⟩
def cLt (a b : List Int) : Bool := decide (cmpI a b < 0)
/-- Counts put together. -/
def addC (a b : List Cnt) : List Cnt := if areOrd a && areOrd b then AddM.mrg Cnt.tuple cAdd cLt a b else []
theorem areOrd_asc : ∀ {l : List Cnt}, areOrd l = true → AddM.Asc Cnt.tuple cLt l
  | [], _ => List.Pairwise.nil
  | [_], _ => by simp
  | a :: b :: l, h => by
    simp only [areOrd, Bool.and_eq_true, decide_eq_true_eq] at h
    have ih := areOrd_asc h.2
    refine List.pairwise_cons.2 ⟨fun x hx => ?_, ih⟩
    rcases List.mem_cons.1 hx with rfl | hx
    · simpa [cLt] using h.1
    · have h2 := (List.pairwise_cons.1 ih).1 x hx
      simp only [cLt, decide_eq_true_eq] at h2 ⊢
      exact cmp_trans _ _ _ h.1 h2
/-- Where the row is, it is added to. -/
theorem ins_fidx (y : Cnt) : ∀ (l : List Cnt) (k : Nat), (fidx (fun c => decide (c.tuple = y.tuple)) l k = -1 ∧ AddM.ins Cnt.tuple cAdd l y = l ++ [y]) ∨
    ∃ i, ∃ h : i < l.length, fidx (fun c => decide (c.tuple = y.tuple)) l k = ((k + i : Nat) : Int) ∧ AddM.ins Cnt.tuple cAdd l y = l.set i (cAdd l[i] y)
  | [], k => .inl ⟨rfl, rfl⟩
  | a :: l, k => by
    by_cases h : a.tuple = y.tuple
    · exact .inr ⟨0, by simp, by simp [fidx, h], by simp [AddM.ins, h]⟩
    · rcases ins_fidx y l (k + 1) with ⟨h1, h2⟩ | ⟨i, hi, h1, h2⟩
      · exact .inl ⟨by simp [fidx, h, h1], by simp [AddM.ins, h, h2]⟩
      · refine .inr ⟨i + 1, by simp; omega, ?_, by simp [AddM.ins, h, h2]⟩
        simp only [fidx, h, decide_false, Bool.false_eq_true, if_false, h1]
        congr 1; omega
theorem ins_len (l : List Cnt) (y : Cnt) : (AddM.ins Cnt.tuple cAdd l y).length ≤ l.length + 1 := by
  rcases ins_fidx y l 0 with ⟨_, h⟩ | ⟨i, _, _, h⟩ <;> rw [h] <;> simp
theorem ins_mem {P : Row → Prop} {l : List Cnt} {y : Cnt} (h1 : ∀ x ∈ l, P x.tuple) (h2 : P y.tuple) : ∀ x ∈ AddM.ins Cnt.tuple cAdd l y, P x.tuple := fun x hx => by
  have := (AddM.ins_key (key := Cnt.tuple) (add := cAdd) (fun _ _ => rfl) l y x.tuple).1 (List.mem_map.2 ⟨x, hx, rfl⟩)
  rcases this with h | h
  · obtain ⟨z, hz, e⟩ := List.mem_map.1 h; rw [← e]; exact h1 z hz
  · rw [h]; exact h2
theorem cv_sortC {σ : Sto} {o st v : Nat} {xs : List Cnt} (hob : σ.ob o = .arr (.own 0) st 2 (rowsE xs)) (hv : v = xs.length) (hlen : xs.length < 4611686018427387904) (h : SrtOk cmpC (fun c => Sm c.tuple) xs) :
    callV Ms XX σ 43 [.ref o v [], .clo 44 []] = some (.tup [], σ.set o (.arr (.own 0) (st + 1) 2 (rowsE (srt cmpC xs)))) :=
  callV_d (by rfl) ((R_giv (drawV_go) (by rfl) _ _).trans (sortG_eq hob hv hlen h)) rfl
theorem addCounts_r (a b : List Cnt) (hla : a.length ≤ 1048576) (hlb : b.length ≤ 1048576) (ha : ∀ x ∈ a, x.tuple.length ≤ 1048576) (hb : ∀ x ∈ b, x.tuple.length ≤ 1048576) : Ret XX 9 [Ar a, Ar b] (.own 2 (rowsE (addC a b))) := by
  refine ret_W rfl Try.func9 rfl rfl (by simp [Try.f9]) ?_
  simp only [Try.f9]
  have sa : ∀ x ∈ a, Sm x.tuple := fun x hx => by have := ha x hx; unfold Sm; omega
  have sb : ∀ x ∈ b, Sm x.tuple := fun x hx => by have := hb x hx; unfold Sm; omega
  have h1 := cv (areOrdered_r a (by unfold Sm; omega) sa)
  have h2 := cv (areOrdered_r b (by unfold Sm; omega) sb)
  cases ea : areOrd a
  · repeat' first | refine W_seq ?_ | refine W_block ?_ | refine W_skip ?_ | refine W_ret ?_ | refine W_exit ?_ | refine xb_hit ?_ | refine xb_miss (by decide) ?_ | (apply W_reg; (simp [h1, ea]; exact .r _)) | (apply W_draw (id := 9) [0, 0, 0, 0, 12, 28, 60, 0, 128, 508, 1023, 2047, 4095] rfl rfl; (· simp; exact .r _); (· simp [h1, ea]; exact .r _); (· first | trivial | simp))
    refine W_cond (by simp; exact .r _) (fun hc => ?_) (fun hc => ?_)
    · repeat' first | refine W_seq ?_ | refine W_block ?_ | refine W_skip ?_ | refine W_ret ?_ | refine W_exit ?_ | refine xb_hit ?_ | refine xb_miss (by decide) ?_ | (apply W_reg; (simp; exact .r _)) | (apply W_draw (id := 9) [0, 0, 0, 0, 12, 28, 60, 0, 128, 508, 1023, 2047, 4095] rfl rfl; (· simp; exact .r _); (· simp; exact .r _); (· first | trivial | simp))
      simp [addC, ea]
    · cases hc
  cases eb : areOrd b
  · repeat' first | refine W_seq ?_ | refine W_block ?_ | refine W_skip ?_ | refine W_ret ?_ | refine W_exit ?_ | refine xb_hit ?_ | refine xb_miss (by decide) ?_ | (apply W_reg; (simp [h1, h2, ea, eb]; exact .r _)) | (apply W_draw (id := 9) [0, 0, 0, 0, 12, 28, 60, 0, 128, 508, 1023, 2047, 4095] rfl rfl; (· simp; exact .r _); (· simp [h1, h2, ea, eb]; exact .r _); (· first | trivial | simp))
    refine W_cond (by simp; exact .r _) (fun hc => ?_) (fun hc => ?_)
    · repeat' first | refine W_seq ?_ | refine W_block ?_ | refine W_skip ?_ | refine W_ret ?_ | refine W_exit ?_ | refine xb_hit ?_ | refine xb_miss (by decide) ?_ | (apply W_reg; (simp; exact .r _)) | (apply W_draw (id := 9) [0, 0, 0, 0, 12, 28, 60, 0, 128, 508, 1023, 2047, 4095] rfl rfl; (· simp; exact .r _); (· simp; exact .r _); (· first | trivial | simp))
      simp [addC, eb]
    · cases hc
  repeat' first | refine W_seq ?_ | refine W_block ?_ | refine W_skip ?_ | refine W_ret ?_ | refine W_exit ?_ | refine xb_hit ?_ | refine xb_miss (by decide) ?_ | (apply W_reg; (simp [h1, h2, ea, eb]; exact .r _)) | (apply W_draw (id := 9) [0, 0, 0, 0, 12, 28, 60, 0, 128, 508, 1023, 2047, 4095] rfl rfl; (· simp; exact .r _); (· simp [h1, h2, ea, eb]; exact .r _); (· first | trivial | simp))
  refine W_cond (by simp; exact .r _) (fun hc => ?_) (fun hc => ?_)
  · cases hc
  have h3 := cv (copyCounts_r a (by unfold Sm; omega) sa)
  have h4 := cv (copyCounts_r b (by unfold Sm; omega) sb)
  repeat' first | refine W_seq ?_ | refine W_block ?_ | refine W_skip ?_ | refine W_ret ?_ | refine W_exit ?_ | refine xb_hit ?_ | refine xb_miss (by decide) ?_ | (apply W_reg; (simp [h3, h4]; exact .r _)) | (apply W_draw (id := 9) [0, 0, 0, 0, 12, 28, 60, 0, 128, 508, 1023, 2047, 4095] rfl rfl; (· simp; exact .r _); (· simp [h3, h4]; exact .r _); (· first | trivial | simp))
  refine W_loop (n := b.length) (fun n s => ∃ i : Nat, ∃ k : Nat, ∃ acc : List Cnt, n = b.length - i ∧ s.nt = 53 ∧ s.tm 5 = .ref 0 acc.length [] ∧ s.tm 21 = .ref 1 b.length [] ∧ s.tm 22 = In b.length ∧ s.tm 23 = In i ∧ i ≤ b.length ∧ k ≤ i ∧ s.σ.ob 0 = .arr (.own 0) 0 2 (rowsE acc) ∧ s.σ.ob 1 = .arr (.own k) 0 2 (rowsE b) ∧ 2 ≤ s.σ.n ∧ acc.length ≤ a.length + i ∧ (∀ x ∈ acc, x.tuple.length ≤ 1048576) ∧ acc = (b.take i).foldl (AddM.ins Cnt.tuple cAdd) a) ⟨0, 0, a, by simp; exact ha⟩ ?_
  rintro n ⟨nt, tm, σ⟩ ⟨i, k, acc, rfl, hnt, h5, h21, h22, h23, hi, hk, ho0, ho1, hn, hl, hm, heq⟩
  simp only at hnt h5 h21 h22 h23 ho0 ho1 hn
  subst hnt
  repeat' first | refine W_seq ?_ | refine W_block ?_ | refine W_skip ?_ | refine W_ret ?_ | refine W_exit ?_ | refine xb_hit ?_ | refine xb_miss (by decide) ?_ | (apply W_reg; (simp [h5, h21, h22, h23, ho0, ho1, hn]; exact .r _)) | (apply W_draw (id := 9) [0, 0, 0, 0, 12, 28, 60, 0, 128, 508, 1023, 2047, 4095] rfl rfl; (· simp; exact .r _); (· simp [h5, h21, h22, h23, ho0, ho1, hn]; exact .r _); (· first | trivial | simp))
  refine W_cond (by simp [h5, h21, h22, h23, ho0, ho1, hn]; exact .r _) (fun hc => ?_) (fun hc => ?_)
  · have hil : i < b.length := by simpa using hc
    have hbt := hb b[i] (List.getElem_mem hil)
    have hf := cv (find_r acc b[i].tuple (by unfold Sm; omega) (fun x hx => by have := hm x hx; unfold Sm; omega))
    have e0 : ¬ (0 = σ.n) := by omega
    have e1 : ¬ (1 = σ.n) := by omega
    have e0' : ¬ (σ.n = 0) := by omega
    have e1' : ¬ (σ.n = 1) := by omega
    have htk : (b.take (i + 1)).foldl (AddM.ins Cnt.tuple cAdd) a = AddM.ins Cnt.tuple cAdd acc b[i] := by rw [List.take_succ_eq_append_getElem hil, List.foldl_append, ← heq]; rfl
    have hmem : ∀ x ∈ AddM.ins Cnt.tuple cAdd acc b[i], x.tuple.length ≤ 1048576 := ins_mem (P := fun t => t.length ≤ 1048576) hm hbt
    have hlen := ins_len acc b[i]
    rcases ins_fidx b[i] acc 0 with ⟨hx, hins⟩ | ⟨j, hj, hx, hins⟩
    · repeat' first | refine W_seq ?_ | refine W_block ?_ | refine W_skip ?_ | refine W_ret ?_ | refine W_exit ?_ | refine xb_hit ?_ | refine xb_miss (by decide) ?_ | (apply W_reg; (simp [h5, h21, h22, h23, ho0, ho1, hn, hil, hf, hk, e0, e1, e0', e1', hx]; exact .r _)) | (apply W_draw (id := 9) [0, 0, 0, 0, 12, 28, 60, 0, 128, 508, 1023, 2047, 4095] rfl rfl; (· simp; exact .r _); (· simp [h5, h21, h22, h23, ho0, ho1, hn, hil, hf, hk, e0, e1, e0', e1', hx]; exact .r _); (· first | trivial | simp))
      refine W_cond (by simp [h5, h21, h22, h23, ho0, ho1, hn]; exact .r _) (fun hd => ?_) (fun hd => ?_)
      · cases hd
      · repeat' first | refine W_seq ?_ | refine W_block ?_ | refine W_skip ?_ | refine W_ret ?_ | refine W_exit ?_ | refine xb_hit ?_ | refine xb_miss (by decide) ?_ | (apply W_reg; (simp [h5, h21, h22, h23, ho0, ho1, hn, hil, hk, e0, e1, e0', e1', show acc.length + 1 < 1099511627776 by omega]; exact .r _)) | (apply W_draw (id := 9) [0, 0, 0, 0, 12, 28, 60, 0, 128, 508, 1023, 2047, 4095] rfl rfl; (· simp; exact .r _); (· simp [h5, h21, h22, h23, ho0, ho1, hn, hil, hk, e0, e1, e0', e1', show acc.length + 1 < 1099511627776 by omega]; exact .r _); (· first | trivial | simp))
        exact ⟨_, (by omega), i + 1, i + 1, AddM.ins Cnt.tuple cAdd acc b[i], rfl, rfl, (by first | assumption | (simp [h5, h21, h22, h23, ho0, ho1, hn, hins, rowsE_append, e0, e1, e0', e1', rowsE]; done) | (simp [h5, h21, h22, h23, ho0, ho1, hn, hins, rowsE_append, e0, e1, e0', e1', rowsE]; omega) | (simp [h5, h21, h22, h23, ho0, ho1, hn, hins, rowsE_append, e0, e1, e0', e1', rowsE]; exact wrap_succ (by omega))), (by first | assumption | (simp [h5, h21, h22, h23, ho0, ho1, hn, hins, rowsE_append, e0, e1, e0', e1', rowsE]; done) | (simp [h5, h21, h22, h23, ho0, ho1, hn, hins, rowsE_append, e0, e1, e0', e1', rowsE]; omega) | (simp [h5, h21, h22, h23, ho0, ho1, hn, hins, rowsE_append, e0, e1, e0', e1', rowsE]; exact wrap_succ (by omega))), (by first | assumption | (simp [h5, h21, h22, h23, ho0, ho1, hn, hins, rowsE_append, e0, e1, e0', e1', rowsE]; done) | (simp [h5, h21, h22, h23, ho0, ho1, hn, hins, rowsE_append, e0, e1, e0', e1', rowsE]; omega) | (simp [h5, h21, h22, h23, ho0, ho1, hn, hins, rowsE_append, e0, e1, e0', e1', rowsE]; exact wrap_succ (by omega))), (by first | assumption | (simp [h5, h21, h22, h23, ho0, ho1, hn, hins, rowsE_append, e0, e1, e0', e1', rowsE]; done) | (simp [h5, h21, h22, h23, ho0, ho1, hn, hins, rowsE_append, e0, e1, e0', e1', rowsE]; omega) | (simp [h5, h21, h22, h23, ho0, ho1, hn, hins, rowsE_append, e0, e1, e0', e1', rowsE]; exact wrap_succ (by omega))), by omega, by omega, (by first | assumption | (simp [h5, h21, h22, h23, ho0, ho1, hn, hins, rowsE_append, e0, e1, e0', e1', rowsE]; done) | (simp [h5, h21, h22, h23, ho0, ho1, hn, hins, rowsE_append, e0, e1, e0', e1', rowsE]; omega) | (simp [h5, h21, h22, h23, ho0, ho1, hn, hins, rowsE_append, e0, e1, e0', e1', rowsE]; exact wrap_succ (by omega))), (by first | assumption | (simp [h5, h21, h22, h23, ho0, ho1, hn, hins, rowsE_append, e0, e1, e0', e1', rowsE]; done) | (simp [h5, h21, h22, h23, ho0, ho1, hn, hins, rowsE_append, e0, e1, e0', e1', rowsE]; omega) | (simp [h5, h21, h22, h23, ho0, ho1, hn, hins, rowsE_append, e0, e1, e0', e1', rowsE]; exact wrap_succ (by omega))), (by first | assumption | (simp [h5, h21, h22, h23, ho0, ho1, hn, hins, rowsE_append, e0, e1, e0', e1', rowsE]; done) | (simp [h5, h21, h22, h23, ho0, ho1, hn, hins, rowsE_append, e0, e1, e0', e1', rowsE]; omega) | (simp [h5, h21, h22, h23, ho0, ho1, hn, hins, rowsE_append, e0, e1, e0', e1', rowsE]; exact wrap_succ (by omega))), by omega, hmem, htk.symm⟩
    · have hx' : fidx (fun c => decide (c.tuple = b[i].tuple)) acc 0 = (j : Int) := by rw [hx]; simp
      repeat' first | refine W_seq ?_ | refine W_block ?_ | refine W_skip ?_ | refine W_ret ?_ | refine W_exit ?_ | refine xb_hit ?_ | refine xb_miss (by decide) ?_ | (apply W_reg; (simp [h5, h21, h22, h23, ho0, ho1, hn, hil, hf, hk, e0, e1, e0', e1', hx', hj]; exact .r _)) | (apply W_draw (id := 9) [0, 0, 0, 0, 12, 28, 60, 0, 128, 508, 1023, 2047, 4095] rfl rfl; (· simp; exact .r _); (· simp [h5, h21, h22, h23, ho0, ho1, hn, hil, hf, hk, e0, e1, e0', e1', hx', hj]; exact .r _); (· first | trivial | simp))
      refine W_cond (by simp [h5, h21, h22, h23, ho0, ho1, hn]; exact .r _) (fun hd => ?_) (fun hd => ?_)
      · repeat' first | refine W_seq ?_ | refine W_block ?_ | refine W_skip ?_ | refine W_ret ?_ | refine W_exit ?_ | refine xb_hit ?_ | refine xb_miss (by decide) ?_ | (apply W_reg; (simp [h5, h21, h22, h23, ho0, ho1, hn, hil, hk, e0, e1, e0', e1', hj]; exact .r _)) | (apply W_draw (id := 9) [0, 0, 0, 0, 12, 28, 60, 0, 128, 508, 1023, 2047, 4095] rfl rfl; (· simp; exact .r _); (· simp [h5, h21, h22, h23, ho0, ho1, hn, hil, hk, e0, e1, e0', e1', hj]; exact .r _); (· first | trivial | simp))
        exact ⟨_, (by omega), i + 1, k, AddM.ins Cnt.tuple cAdd acc b[i], rfl, rfl, (by first | assumption | (simp [h5, h21, h22, h23, ho0, ho1, hn, hins, rowsE_set, e0, e1, e0', e1', cAdd, wrap64, setAt]; done) | (simp [h5, h21, h22, h23, ho0, ho1, hn, hins, rowsE_set, e0, e1, e0', e1', cAdd, wrap64, setAt]; omega) | (simp [h5, h21, h22, h23, ho0, ho1, hn, hins, rowsE_set, e0, e1, e0', e1', cAdd, wrap64, setAt]; exact wrap_succ (by omega))), (by first | assumption | (simp [h5, h21, h22, h23, ho0, ho1, hn, hins, rowsE_set, e0, e1, e0', e1', cAdd, wrap64, setAt]; done) | (simp [h5, h21, h22, h23, ho0, ho1, hn, hins, rowsE_set, e0, e1, e0', e1', cAdd, wrap64, setAt]; omega) | (simp [h5, h21, h22, h23, ho0, ho1, hn, hins, rowsE_set, e0, e1, e0', e1', cAdd, wrap64, setAt]; exact wrap_succ (by omega))), (by first | assumption | (simp [h5, h21, h22, h23, ho0, ho1, hn, hins, rowsE_set, e0, e1, e0', e1', cAdd, wrap64, setAt]; done) | (simp [h5, h21, h22, h23, ho0, ho1, hn, hins, rowsE_set, e0, e1, e0', e1', cAdd, wrap64, setAt]; omega) | (simp [h5, h21, h22, h23, ho0, ho1, hn, hins, rowsE_set, e0, e1, e0', e1', cAdd, wrap64, setAt]; exact wrap_succ (by omega))), (by first | assumption | (simp [h5, h21, h22, h23, ho0, ho1, hn, hins, rowsE_set, e0, e1, e0', e1', cAdd, wrap64, setAt]; done) | (simp [h5, h21, h22, h23, ho0, ho1, hn, hins, rowsE_set, e0, e1, e0', e1', cAdd, wrap64, setAt]; omega) | (simp [h5, h21, h22, h23, ho0, ho1, hn, hins, rowsE_set, e0, e1, e0', e1', cAdd, wrap64, setAt]; exact wrap_succ (by omega))), by omega, by omega, (by first | assumption | (simp [h5, h21, h22, h23, ho0, ho1, hn, hins, rowsE_set, e0, e1, e0', e1', cAdd, wrap64, setAt]; done) | (simp [h5, h21, h22, h23, ho0, ho1, hn, hins, rowsE_set, e0, e1, e0', e1', cAdd, wrap64, setAt]; omega) | (simp [h5, h21, h22, h23, ho0, ho1, hn, hins, rowsE_set, e0, e1, e0', e1', cAdd, wrap64, setAt]; exact wrap_succ (by omega))), (by first | assumption | (simp [h5, h21, h22, h23, ho0, ho1, hn, hins, rowsE_set, e0, e1, e0', e1', cAdd, wrap64, setAt]; done) | (simp [h5, h21, h22, h23, ho0, ho1, hn, hins, rowsE_set, e0, e1, e0', e1', cAdd, wrap64, setAt]; omega) | (simp [h5, h21, h22, h23, ho0, ho1, hn, hins, rowsE_set, e0, e1, e0', e1', cAdd, wrap64, setAt]; exact wrap_succ (by omega))), (by first | assumption | (simp [h5, h21, h22, h23, ho0, ho1, hn, hins, rowsE_set, e0, e1, e0', e1', cAdd, wrap64, setAt]; done) | (simp [h5, h21, h22, h23, ho0, ho1, hn, hins, rowsE_set, e0, e1, e0', e1', cAdd, wrap64, setAt]; omega) | (simp [h5, h21, h22, h23, ho0, ho1, hn, hins, rowsE_set, e0, e1, e0', e1', cAdd, wrap64, setAt]; exact wrap_succ (by omega))), by omega, hmem, htk.symm⟩
      · simp at hd
  · have hil : i = b.length := by simp at hc; omega
    subst hil
    rw [List.take_length] at heq
    have hnd : AddM.ND Cnt.tuple acc := by
      rw [heq]
      have : ∀ (b a : List Cnt), AddM.ND Cnt.tuple a → AddM.ND Cnt.tuple (b.foldl (AddM.ins Cnt.tuple cAdd) a) := by
        intro b
        induction b with
        | nil => intro a h; exact h
        | cons y b ih => intro a h; exact ih _ (AddM.ins_nd (add := cAdd) (fun _ _ => rfl) a y h)
      exact this b a (AddM.asc_nd (fun x => by simp [cLt, cmp_self]) (areOrd_asc ea))
    have hs := cv_sortC (σ := σ) (o := 0) (st := 0) (v := acc.length) (xs := acc) ho0 rfl (by omega) ⟨fun x hx => by have := hm x hx; show Sm x.tuple; unfold Sm; omega, fun x y hx hy h1 h2 => by
      have e := antiL x.tuple y.tuple h1 h2
      obtain ⟨i, hi, rfl⟩ := List.mem_iff_getElem.1 hx
      obtain ⟨j, hj, rfl⟩ := List.mem_iff_getElem.1 hy
      have := inj_of_nodup' hnd (i := i) (j := j) (by simpa using hi) (by simpa using hj) (by simpa using e)
      subst this; rfl⟩
    repeat' first | refine W_seq ?_ | refine W_block ?_ | refine W_skip ?_ | refine W_ret ?_ | refine W_exit ?_ | refine xb_hit ?_ | refine xb_miss (by decide) ?_ | (apply W_reg; (simp [h5, h21, h22, h23, ho0, ho1, hn, hs]; exact .r _)) | (apply W_draw (id := 9) [0, 0, 0, 0, 12, 28, 60, 0, 128, 508, 1023, 2047, 4095] rfl rfl; (· simp; exact .r _); (· simp [h5, h21, h22, h23, ho0, ho1, hn, hs]; exact .r _); (· first | trivial | simp))
    have hfin : srt cmpC acc = addC a b := by
      simp only [addC, ea, eb, Bool.and_self, if_true]
      symm
      have irr : ∀ x, cLt x x = false := fun x => by simp [cLt, cmp_self]
      have tr : ∀ x y z, cLt x y = true → cLt y z = true → cLt x z = true := fun x y z h1 h2 => by
        simp only [cLt, decide_eq_true_eq] at *; exact cmp_trans x y z h1 h2
      have tot : ∀ x y, cLt x y = false → cLt y x = false → x = y := fun x y h1 h2 => by
        simp only [cLt, decide_eq_false_iff_not] at *; exact antiL x y h2 h1
      have hasc := AddM.mrg_asc (key := Cnt.tuple) (add := cAdd) (lt := cLt) tr tot (fun _ _ => rfl) a b (areOrd_asc ea) (areOrd_asc eb)
      refine srt_eq swoC (fun x y hx hy h1 h2 => ?_) ?_ (hasc.imp fun {x y} h => ?_)
      · have e := antiL x.tuple y.tuple h1 h2
        obtain ⟨i, hi, rfl⟩ := List.mem_iff_getElem.1 hx
        obtain ⟨j, hj, rfl⟩ := List.mem_iff_getElem.1 hy
        have := inj_of_nodup' hnd (i := i) (j := j) (by simpa using hi) (by simpa using hj) (by simpa using e)
        subst this; rfl
      · rw [heq]; exact (AddM.mrg_perm (add := cAdd) irr tr tot (fun _ _ => rfl) a b (areOrd_asc ea) (areOrd_asc eb)).symm
      · simp only [cLt, decide_eq_true_eq] at h
        exact cmp_asym h
    rw [hfin]
    simp [srt, ← hfin]
end Go.Proofs.Ytmfifjbbjjdacaa.V

namespace Go.Proofs.Ytmfifjbbjjdacaa.V
open Go Go.Proofs
set_option linter.unusedSimpArgs false
theorem l2Less_r (a b : List Int) (ha : Sm a) : Ret XX 38 [Ar a, Ar b] (.t (.b (decide (cmpI a b < 0))) false) := by
  refine ret_W rfl Try.func38 rfl rfl (by simp [Try.f38]) ?_
  simp only [Try.f38]
  repeat' first | refine W_seq ?_ | refine W_block ?_ | refine W_skip ?_ | refine W_ret ?_ | refine W_exit ?_ | refine xb_hit ?_ | refine xb_miss (by decide) ?_ | (apply W_reg; (simp; exact .r _)) | (apply W_draw (id := 4) [0, 0, 3, 7, 0, 0, 48, 112, 255] rfl rfl; (· simp; exact .r _); (· simp; exact .r _); (· first | trivial | simp)) | (apply W_draw (id := 5) [0, 0, 3, 7, 0, 0, 48, 112, 255, 511] rfl rfl; (· simp; exact .r _); (· simp; exact .r _); (· first | trivial | simp))
  refine W_loop (n := a.length) (fun n s => ∃ i : Nat, n = a.length - i ∧ s.nt = 41 ∧ s.tm 0 = Ar a ∧ s.tm 1 = Ar b ∧ s.tm 5 = In i ∧ i ≤ a.length ∧ i ≤ b.length ∧ cmpI a b = cmpI (a.drop i) (b.drop i)) ⟨0, by simp⟩ ?_
  rintro n ⟨nt, tm, σ⟩ ⟨i, rfl, hnt, h0, h1, h5, hi, hib, heq⟩
  simp only at hnt h0 h1 h5
  subst hnt
  by_cases hia : i < a.length
  · by_cases hib' : i < b.length
    · repeat' first | refine W_seq ?_ | refine W_block ?_ | refine W_skip ?_ | refine W_ret ?_ | refine W_exit ?_ | refine xb_hit ?_ | refine xb_miss (by decide) ?_ | (apply W_reg; (simp [h0, h1, h5, hia, hib']; exact .r _)) | (apply W_draw (id := 4) [0, 0, 3, 7, 0, 0, 48, 112, 255] rfl rfl; (· simp; exact .r _); (· simp [h0, h1, h5, hia, hib']; exact .r _); (· first | trivial | simp)) | (apply W_draw (id := 5) [0, 0, 3, 7, 0, 0, 48, 112, 255, 511] rfl rfl; (· simp; exact .r _); (· simp [h0, h1, h5, hia, hib']; exact .r _); (· first | trivial | simp))
      refine W_cond (by simp [h0, h1, h5]; exact .r _) (fun hc => ?_) (fun hc => ?_)
      · repeat' first | refine W_seq ?_ | refine W_block ?_ | refine W_skip ?_ | refine W_ret ?_ | refine W_exit ?_ | refine xb_hit ?_ | refine xb_miss (by decide) ?_ | (apply W_reg; (simp [h0, h1, h5, hia, hib']; exact .r _)) | (apply W_draw (id := 4) [0, 0, 3, 7, 0, 0, 48, 112, 255] rfl rfl; (· simp; exact .r _); (· simp [h0, h1, h5, hia, hib']; exact .r _); (· first | trivial | simp)) | (apply W_draw (id := 5) [0, 0, 3, 7, 0, 0, 48, 112, 255, 511] rfl rfl; (· simp; exact .r _); (· simp [h0, h1, h5, hia, hib']; exact .r _); (· first | trivial | simp))
        rw [cmpI_step hia hib'] at heq
        refine W_cond (by simp [h0, h1, h5]; exact .r _) (fun hd => ?_) (fun hd => ?_)
        · repeat' first | refine W_seq ?_ | refine W_block ?_ | refine W_skip ?_ | refine W_ret ?_ | refine W_exit ?_ | refine xb_hit ?_ | refine xb_miss (by decide) ?_ | (apply W_reg; (simp [h0, h1, h5, hia, hib']; exact .r _)) | (apply W_draw (id := 4) [0, 0, 3, 7, 0, 0, 48, 112, 255] rfl rfl; (· simp; exact .r _); (· simp [h0, h1, h5, hia, hib']; exact .r _); (· first | trivial | simp)) | (apply W_draw (id := 5) [0, 0, 3, 7, 0, 0, 48, 112, 255, 511] rfl rfl; (· simp; exact .r _); (· simp [h0, h1, h5, hia, hib']; exact .r _); (· first | trivial | simp))
          have hne : a[i] ≠ b[i] := by simpa using hd
          by_cases h : a[i] < b[i]
          · simp [heq, h]
          · have h2 : b[i] < a[i] := by omega
            simp [heq, h, h2]
        · have hd : a[i] = b[i] := by simpa using hd
          repeat' first | refine W_seq ?_ | refine W_block ?_ | refine W_skip ?_ | refine W_ret ?_ | refine W_exit ?_ | refine xb_hit ?_ | refine xb_miss (by decide) ?_ | (apply W_reg; (simp [h0, h1, h5]; exact .r _)) | (apply W_draw (id := 4) [0, 0, 3, 7, 0, 0, 48, 112, 255] rfl rfl; (· simp; exact .r _); (· simp [h0, h1, h5]; exact .r _); (· first | trivial | simp)) | (apply W_draw (id := 5) [0, 0, 3, 7, 0, 0, 48, 112, 255, 511] rfl rfl; (· simp; exact .r _); (· simp [h0, h1, h5]; exact .r _); (· first | trivial | simp))
          exact ⟨_, (by omega), i + 1, rfl, rfl, (by first | assumption | (simp [h0, h1, h5]; done) | (simp [h0, h1, h5]; omega) | (simp [h0, h1, h5]; exact wrap_succ (by omega))), (by first | assumption | (simp [h0, h1, h5]; done) | (simp [h0, h1, h5]; omega) | (simp [h0, h1, h5]; exact wrap_succ (by omega))), (by first | assumption | (simp [h0, h1, h5]; done) | (simp [h0, h1, h5]; omega) | (simp [h0, h1, h5]; exact wrap_succ (by omega))), by omega, by omega, by rw [heq, if_neg (by omega), if_neg (by omega)]⟩
      · simp at hc
    · repeat' first | refine W_seq ?_ | refine W_block ?_ | refine W_skip ?_ | refine W_ret ?_ | refine W_exit ?_ | refine xb_hit ?_ | refine xb_miss (by decide) ?_ | (apply W_reg; (simp [h0, h1, h5, hia, hib']; exact .r _)) | (apply W_draw (id := 4) [0, 0, 3, 7, 0, 0, 48, 112, 255] rfl rfl; (· simp; exact .r _); (· simp [h0, h1, h5, hia, hib']; exact .r _); (· first | trivial | simp)) | (apply W_draw (id := 5) [0, 0, 3, 7, 0, 0, 48, 112, 255, 511] rfl rfl; (· simp; exact .r _); (· simp [h0, h1, h5, hia, hib']; exact .r _); (· first | trivial | simp))
      refine W_cond (by simp [h0, h1, h5]; exact .r _) (fun hc => ?_) (fun hc => ?_)
      · simp at hc
      · repeat' first | refine W_seq ?_ | refine W_block ?_ | refine W_skip ?_ | refine W_ret ?_ | refine W_exit ?_ | refine xb_hit ?_ | refine xb_miss (by decide) ?_ | (apply W_reg; (simp [h0, h1, h5]; exact .r _)) | (apply W_draw (id := 4) [0, 0, 3, 7, 0, 0, 48, 112, 255] rfl rfl; (· simp; exact .r _); (· simp [h0, h1, h5]; exact .r _); (· first | trivial | simp)) | (apply W_draw (id := 5) [0, 0, 3, 7, 0, 0, 48, 112, 255, 511] rfl rfl; (· simp; exact .r _); (· simp [h0, h1, h5]; exact .r _); (· first | trivial | simp))
        have hbe : i = b.length := by omega
        subst hbe
        rw [List.drop_eq_getElem_cons hia, List.drop_length] at heq
        have : ¬ a.length < b.length := by omega
        simp [heq, cmpI, this]
  · repeat' first | refine W_seq ?_ | refine W_block ?_ | refine W_skip ?_ | refine W_ret ?_ | refine W_exit ?_ | refine xb_hit ?_ | refine xb_miss (by decide) ?_ | (apply W_reg; (simp [h0, h1, h5, hia]; exact .r _)) | (apply W_draw (id := 4) [0, 0, 3, 7, 0, 0, 48, 112, 255] rfl rfl; (· simp; exact .r _); (· simp [h0, h1, h5, hia]; exact .r _); (· first | trivial | simp)) | (apply W_draw (id := 5) [0, 0, 3, 7, 0, 0, 48, 112, 255, 511] rfl rfl; (· simp; exact .r _); (· simp [h0, h1, h5, hia]; exact .r _); (· first | trivial | simp))
    refine W_cond (by simp [h0, h1, h5]; exact .r _) (fun hc => ?_) (fun hc => ?_)
    · simp at hc
    · repeat' first | refine W_seq ?_ | refine W_block ?_ | refine W_skip ?_ | refine W_ret ?_ | refine W_exit ?_ | refine xb_hit ?_ | refine xb_miss (by decide) ?_ | (apply W_reg; (simp [h0, h1, h5]; exact .r _)) | (apply W_draw (id := 4) [0, 0, 3, 7, 0, 0, 48, 112, 255] rfl rfl; (· simp; exact .r _); (· simp [h0, h1, h5]; exact .r _); (· first | trivial | simp)) | (apply W_draw (id := 5) [0, 0, 3, 7, 0, 0, 48, 112, 255, 511] rfl rfl; (· simp; exact .r _); (· simp [h0, h1, h5]; exact .r _); (· first | trivial | simp))
      have hae : i = a.length := by omega
      subst hae
      rw [List.drop_length] at heq
      by_cases h : a.length < b.length
      · rw [List.drop_eq_getElem_cons h] at heq
        simp [heq, cmpI, h]
      · rw [List.drop_eq_nil_of_le (by omega)] at heq
        simp [heq, cmpI, h]
theorem l20Sorted_r (l : List Cnt) (hl : Sm l) (hs : ∀ x ∈ l, Sm x.tuple) : Ret XX 37 [Ar l] (.t (.b (areOrd l)) false) := by
  refine ret_W rfl Try.func37 rfl rfl (by simp [Try.f37]) ?_
  simp only [Try.f37]
  repeat' first | refine W_seq ?_ | refine W_block ?_ | refine W_skip ?_ | refine W_ret ?_ | refine W_exit ?_ | refine xb_hit ?_ | refine xb_miss (by decide) ?_ | (apply W_reg; (simp; exact .r _)) | (apply W_draw (id := 4) [0, 0, 2, 7, 15, 31, 0, 0, 192, 448, 960, 2047, 4095] rfl rfl; (· simp; exact .r _); (· simp; exact .r _); (· first | trivial | simp))
  refine W_loop (n := l.length) (fun n s => ∃ i : Nat, n = l.length - i ∧ s.nt = 23 ∧ s.tm 0 = Ar l ∧ s.tm 3 = In ((i + 1 : Nat) : Int) ∧ i ≤ l.length ∧ areOrd l = areOrd (l.drop i)) ⟨0, by simp⟩ ?_
  rintro n ⟨nt, tm, σ⟩ ⟨i, rfl, hnt, h0, h3, hi, heq⟩
  simp only at hnt h0 h3
  subst hnt
  repeat' first | refine W_seq ?_ | refine W_block ?_ | refine W_skip ?_ | refine W_ret ?_ | refine W_exit ?_ | refine xb_hit ?_ | refine xb_miss (by decide) ?_ | (apply W_reg; (simp [h0, h3]; exact .r _)) | (apply W_draw (id := 4) [0, 0, 2, 7, 15, 31, 0, 0, 192, 448, 960, 2047, 4095] rfl rfl; (· simp; exact .r _); (· simp [h0, h3]; exact .r _); (· first | trivial | simp))
  refine W_cond (by simp [h0, h3]; exact .r _) (fun hc => ?_) (fun hc => ?_)
  · have hia : i + 1 < l.length := by simp at hc; omega
    have hw : IntKind.i64.wrap (i : Int) = (i : Int) := wrap_ok (by omega) (by omega)
    have hcc := cv (l2Less_r l[i].tuple l[i + 1].tuple (hs _ (by simp)))
    have hil : i < l.length := by omega
    have h5 : (0 : Int) ≤ (i : Int) + 1 := by omega
    have h6 : ((i : Int) + 1).toNat = i + 1 := by omega
    repeat' first | refine W_seq ?_ | refine W_block ?_ | refine W_skip ?_ | refine W_ret ?_ | refine W_exit ?_ | refine xb_hit ?_ | refine xb_miss (by decide) ?_ | (apply W_reg; (simp [h0, h3, hw, hil, hia, hcc, h5, h6]; exact .r _)) | (apply W_draw (id := 4) [0, 0, 2, 7, 15, 31, 0, 0, 192, 448, 960, 2047, 4095] rfl rfl; (· simp; exact .r _); (· simp [h0, h3, hw, hil, hia, hcc, h5, h6]; exact .r _); (· first | trivial | simp))
    have hd : l.drop i = l[i] :: l[i + 1] :: l.drop (i + 2) := by rw [List.drop_eq_getElem_cons (by omega), List.drop_eq_getElem_cons hia]
    have hd1 : l.drop (i + 1) = l[i + 1] :: l.drop (i + 2) := List.drop_eq_getElem_cons hia
    rw [hd] at heq
    refine W_cond (by simp [h0, h3]; exact .r _) (fun he => ?_) (fun he => ?_)
    · repeat' first | refine W_seq ?_ | refine W_block ?_ | refine W_skip ?_ | refine W_ret ?_ | refine W_exit ?_ | refine xb_hit ?_ | refine xb_miss (by decide) ?_ | (apply W_reg; (simp [h0, h3]; exact .r _)) | (apply W_draw (id := 4) [0, 0, 2, 7, 15, 31, 0, 0, 192, 448, 960, 2047, 4095] rfl rfl; (· simp; exact .r _); (· simp [h0, h3]; exact .r _); (· first | trivial | simp))
      have : ¬ cmpI l[i].tuple l[i + 1].tuple < 0 := by simp at he; omega
      rw [heq]; simp [areOrd, this]
    · have hlt : cmpI l[i].tuple l[i + 1].tuple < 0 := by simp at he; omega
      repeat' first | refine W_seq ?_ | refine W_block ?_ | refine W_skip ?_ | refine W_ret ?_ | refine W_exit ?_ | refine xb_hit ?_ | refine xb_miss (by decide) ?_ | (apply W_reg; (simp [h0, h3]; exact .r _)) | (apply W_draw (id := 4) [0, 0, 2, 7, 15, 31, 0, 0, 192, 448, 960, 2047, 4095] rfl rfl; (· simp; exact .r _); (· simp [h0, h3]; exact .r _); (· first | trivial | simp))
      exact ⟨_, (by omega), i + 1, rfl, rfl, (by first | assumption | (simp [h0, h3]; done) | (simp [h0, h3]; omega) | (simp [h0, h3]; exact wrap_succ (by omega))), by (simp [h3]; rw [wrap_ok (by omega) (by omega)]; omega), by omega, by (rw [heq, hd1]; simp [areOrd, hlt])⟩
  · have hil : l.length ≤ i + 1 := by simp at hc; omega
    repeat' first | refine W_seq ?_ | refine W_block ?_ | refine W_skip ?_ | refine W_ret ?_ | refine W_exit ?_ | refine xb_hit ?_ | refine xb_miss (by decide) ?_ | (apply W_reg; (simp [h0, h3]; exact .r _)) | (apply W_draw (id := 4) [0, 0, 2, 7, 15, 31, 0, 0, 192, 448, 960, 2047, 4095] rfl rfl; (· simp; exact .r _); (· simp [h0, h3]; exact .r _); (· first | trivial | simp))
    rw [heq, areOrd_short (by simp; omega)]
    simp
end Go.Proofs.Ytmfifjbbjjdacaa.V

