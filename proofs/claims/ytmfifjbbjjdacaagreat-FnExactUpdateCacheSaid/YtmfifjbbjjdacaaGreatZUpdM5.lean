/- Several texts in one: what the claim needs of them. Conditions: each declaration's own. -/
import Derived.Test.YtmfifjbbjjdacaaGreatZUpdM4
import Derived.Test.YtmfifjbbjjdacaaGreatZUpdM2
import Derived.Lib.SlKept
import Derived.Shelf.SlSortCmp.NoneTotal
import Derived.Shelf.SlGeneric
import Derived.Ground.SlsfProg
import Derived.Test.YtmfifjbbjjdacaaGreatProg
namespace Go.Proofs.YtmfifjbbjjdacaaGreat.V
open Go Go.Proofs Go.RowKit Go.Shelf Go.Sort
set_option linter.unusedVariables false
variable {P : Program} {M : Nat → Bool} {G0 : Giv} {α : Type} [EncI α]
/-- What the comparator is handed: the element in one value. -/
structure Pk (α : Type) [EncI α] (pv : List Value → Value) (pk : α → AV) : Prop where
  av : ∀ {h : Heap} {Z : Nat → Prop} {us : List Value} {x : α}, RepL h Z us (Enc.cells x) → AVRel Sto.e.ob (fun _ => ⟨0, 0, 0, false⟩) (fun _ => False) h Z (pv us) (pk x)
theorem pk_agg : Pk α (fun us => .agg us.toArray) (fun x => Ag x) := ⟨fun {h Z us x} H => by
  have := av_agg (ob := Sto.e.ob) (bt := fun _ => ⟨0, 0, 0, false⟩) (C := fun _ => False) (h := h) (Z := Z) (cs := us.toArray) (ts := Enc.cells x) (by simpa using H)
  exact this⟩
/-- The comparator in a world of the sort's. -/
structure CmpOk (P : Program) (M : Nat → Bool) (G0 : Giv) (α : Type) [EncI α] (pk : α → AV) (gf : Nat) (cmp : α → α → Int) (Q : α → Prop) : Prop where
  ret : ∀ x y : α, Q x → Q y → Ret (Rv P M G0) gf [pk x, pk y] (.t (.i .i64 (cmp x y)) false)
  swo : SWO (ltOf cmp)
theorem Evo.rowsSame {m m' : Md} {st st' sz : Nat} {old new : List (List T)} {bi : BI} {h h' : Heap} (hst : st < st') (hl : new.length = old.length) (hw : ∀ sz, (∀ r ∈ old, r.length = sz) → ∀ r ∈ new, r.length = sz) : Evo (.arr m st sz old) bi h (.arr m' st' sz new) bi h' := by
  refine ⟨fun p a' ha => ?_, fun p v h1 h2 hs => ?_, fun cs' h => by cases h⟩
  · cases p with
    | nil => simp only [VO.age, Option.some.injEq] at ha ⊢; exact ⟨_, rfl, by omega⟩
    | cons => simp only [VO.age, Option.some.injEq] at ha ⊢; exact ⟨_, rfl, by omega⟩
  · cases p with
    | nil =>
      refine ⟨rfl, fun q' h3 => ?_⟩
      simp only [VO.rows] at h3 ⊢
      split at h3
      · rename_i hcond
        cases h3
        refine ⟨old, by rw [if_pos (by omega)], by omega, fun sz' hw' => hw sz' hw', fun val h7 => ?_⟩
        rw [(h7.inv0 rfl).1]
        simp only [VO.val, VO.all]
        rw [← hl]
        exact .nil _ _
      · cases h3
    | cons ij p => simp only [VO.age, Option.some.injEq] at h1 h2; omega
theorem ext_all' {β : Type} (a : Array β) (n : Nat) (h : n = a.size) : a.extract 0 n = a := by subst h; simp
theorem sort_post {pv : List Value → Value} {pk : α → AV} (hm : P.follows .mixedOrders = true) (hG : GivOk P G0) {fs gf : Nat} (hcon : SortCon P fs (Enc.n α) pv) (hpk : Pk α pv pk) {cmp : α → α → Int} {Q : α → Prop} (hcmp : CmpOk P M G0 α pk gf cmp Q)
    {σ : Sto} {β : Nat → BI} {C Z : Nat → Prop} {own : Nat → Option Nat} {w : World} (R : Rel σ.ob β C w.heap Z own) {o st : Nat} {xs : List α} (hc : C o) (hob : σ.ob o = .arr (.own 0) st (Enc.n α) (rowsE xs)) (hQ : ∀ x ∈ xs, Q x) (hn : 0 < Enc.n α)
    (ha : ∀ a b, a ∈ xs → b ∈ xs → ¬ cmp b a < 0 → ¬ cmp a b < 0 → a = b) (hlen : xs.length < 4611686018427387904) :
    Calls P fs #[.slice (β o).addr xs.length (β o).cap, .func (.func gf) #[] #[]] w fun e w' => e = .returned (.tuple #[]) ∧ Mv σ.ob β C w.heap Z own (upd σ.ob o (.arr (.own 0) (st + 1) (Enc.n α) (rowsE (srt cmp xs)))) β C w'.heap Z own ∧ Wld w w' := by
  have hβ : upd β o (β o) = β := by
    funext x; unfold upd; split
    · rename_i e; rw [e]
    · rfl
  have HO := R.objs o hc
  unfold ObjRel at HO
  rw [hob] at HO
  obtain ⟨f, HO⟩ := HO
  have hE : ∀ h', Evo (σ.ob o) (β o) w.heap (.arr (.own 0) (st + 1) (Enc.n α) (rowsE (srt cmp xs))) (β o) h' := fun h' => by
    rw [hob]
    exact Evo.rowsSame (Nat.lt_succ_self _) (by simp [srt]) fun sz hw r hr => by
      have : ∃ x ∈ srt cmp xs, r = Enc.cells x := by
        obtain ⟨x, hx, rfl⟩ := List.mem_map.1 hr; exact ⟨x, hx, rfl⟩
      obtain ⟨x, hx, rfl⟩ := this
      exact hw _ (List.mem_map.2 ⟨x, (srt_perm.mem_iff).1 hx, rfl⟩)
  rcases Nat.eq_zero_or_pos xs.length with h0 | hpos
  · have hx : xs = [] := List.eq_nil_of_length_eq_zero h0
    subst hx
    refine (hcon.1 _ _ _ w).mono ?_
    rintro e w' ⟨rfl, rfl⟩
    refine ⟨rfl, ?_, Wld.refl _⟩
    have M1 := Mv.change R hc (.arr (.own 0) (st + 1) (Enc.n α) (rowsE (srt cmp ([] : List α)))) (β o) (h' := w'.heap) (own' := own) (Nat.le_refl _) (fun _ _ _ => rfl) (fun _ _ _ _ h => h) (fun b y h => ⟨R.own_lt b y h, .inl ⟨y, h⟩⟩) (fun _ _ h => h) (hE _) (fun _ => by
      unfold ObjRel
      rw [upd_same, upd_same]
      have e0 : srt cmp ([] : List α) = [] := by simp [srt]
      rw [e0]
      exact ⟨f, HO⟩)
    rw [hβ] at M1
    exact M1
  · haveI : Inhabited (Fin xs.length) := ⟨⟨0, hpos⟩⟩
    have hnil : (β o).isNil = false := by
      cases hb : (β o).isNil with
      | false => rfl
      | true =>
        have h1 := HO.nil hb
        have h2 := HO.cap
        rw [rowsE_len] at h2
        omega
    obtain ⟨hown, cells, e, hcell, hcs, hel⟩ := HO.blk hnil
    have hcap := HO.cap
    rw [rowsE_len] at hcap
    generalize hk0 : Enc.n α = k at *
    have hrow : ∀ (i : Nat) (hi : i < xs.length), (rowsE xs)[i]? = some (Enc.cells xs[i]) := fun i hi => by simp [rowsE, hi]
    have hlc : ∀ x : α, (Enc.cells x).length = k := fun x => by rw [Enc.len, hk0]
    let enc : Fin xs.length → List Value := fun i => (List.range k).map fun j => (cells[(β o).off + (i.val * k + j)]?).getD default
    have hel' : ∀ (i : Fin xs.length) (j : Nat) (hj : j < k), ∃ t, (Enc.cells xs[i.val])[j]? = some t ∧ (enc i)[j]? = cells[(β o).off + (i.val * k + j)]? ∧ ∃ v, (enc i)[j]? = some v ∧ NOwn w.heap (fun b => own b = some o) (β o) f 0 i.val j v t := fun i j hj => by
      have hjl : j < (Enc.cells xs[i.val]).length := by rw [hlc]; exact hj
      obtain ⟨v, h1, h2⟩ := hel i.val _ j _ (hrow i.val i.isLt) (List.getElem?_eq_getElem hjl)
      refine ⟨_, List.getElem?_eq_getElem hjl, ?_, v, ?_, h2⟩
      · simp only [enc, List.getElem?_map, List.getElem?_range hj, Option.map_some, h1, Option.getD_some]
      · simp only [enc, List.getElem?_map, List.getElem?_range hj, Option.map_some, h1, Option.getD_some]
    have hekl : ∀ i, (enc i).length = k := fun i => by simp [enc]
    have hd0 : (Array.ofFn fun i : Fin xs.length => i).size = xs.length := by simp
    have hat : ∀ (dk : Array (Fin xs.length)), dk.size = xs.length → ∀ t, t < xs.length * k → ∀ hh : t / k < dk.size, (flatK enc k dk)[t]? = (enc dk[t / k])[t % k]? := by
      intro dk hdk t ht hh
      have hlt : t < (flatK enc k dk).size := by rw [size_flatK, hdk]; exact ht
      have e1 := getElem!_pos (flatK enc k dk) t hlt
      have hm' : t % k < (enc dk[t / k]).length := by rw [hekl]; exact Nat.mod_lt _ hn
      have e2 := getElem!_pos (enc dk[t / k]) (t % k) hm'
      rw [Array.getElem?_eq_getElem hlt, ← e1, get_flatK _ _ _ _ (by rw [hdk]; exact ht), getElem!_pos dk _ hh, e2, List.getElem?_eq_getElem hm']
    have hfit : xs.length * k ≤ (β o).cap * k := Nat.mul_le_mul_right _ hcap
    have hH : HoldsK enc k w (β o).b (β o).off (Array.ofFn fun i : Fin xs.length => i) := by
      intro t ht
      rw [size_flatK, hd0] at ht
      have hq : t / k < xs.length := by rw [Nat.div_lt_iff_lt_mul hn]; exact ht
      have h2 := hat _ hd0 t ht (by rw [hd0]; exact hq)
      simp only [Array.getElem_ofFn] at h2
      have hlt : t < (flatK enc k (Array.ofFn fun i : Fin xs.length => i)).size := by rw [size_flatK, hd0]; exact ht
      have e1 := getElem!_pos (flatK enc k (Array.ofFn fun i : Fin xs.length => i)) t hlt
      rw [e1]
      rw [Array.getElem?_eq_getElem hlt] at h2
      obtain ⟨tt, _, h4, v, h5, _⟩ := hel' ⟨t / k, hq⟩ (t % k) (Nat.mod_lt _ hn)
      have e3 : t / k * k + t % k = t := by rw [Nat.mul_comm]; exact Nat.div_add_mod t k
      simp only [e3] at h4
      refine ⟨?_, ?_⟩
      · unfold World.cell?
        simp only [hcell]
        rw [← h4]
        simpa using h2.symm
      · unfold World.frozen?
        simp [hcell]
    have hlt : (β o).b < w.heap.size := R.own_lt _ _ hown
    have hZ1 : ∀ (m : Nat) (os : Array Obj) (dk : Array (Fin xs.length)) (x : Fin xs.length), RepL (sortWorldK enc k w (β o).b (β o).off m dk os).heap (fun b => b < w.heap.size ∧ b ≠ (β o).b) (enc x) (Enc.cells xs[x.val]) := fun m os dk x => by
      obtain ⟨hh1, hh2, hh3⟩ := heap_sortWorldK (enc := enc) (k := k) (off := (β o).off) (m := m) (dk := dk) (os := os) hcell
      refine ⟨by rw [hekl, hlc], fun j u t hu ht => ?_⟩
      have hj : j < k := by have := (List.getElem?_eq_some_iff.1 hu).1; rwa [hekl] at this
      obtain ⟨t', h1, _, v, h3, h4⟩ := hel' x j hj
      rw [hu] at h3; cases h3
      rw [ht] at h1; cases h1
      exact ((h4.2.2 (Nat.zero_le _)).mono (S' := fun b => b < w.heap.size ∧ b ≠ (β o).b) fun b hb => ⟨⟨R.own_lt _ _ hb.1, hb.2.1⟩, hh2 b (R.own_lt _ _ hb.1) hb.2.1⟩).rep fun b hb => hb
    have hcalls : ∀ (m : Nat) (os : Array Obj) (dk : Array (Fin xs.length)) (x y : Fin xs.length), (∃ fn, P.funcs[gf]? = some fn ∧ fn.body.isSome = true ∧ (fn.name == "runtime.NumGoroutine") = false) ∧ Calls P gf #[pv (enc x), pv (enc y)] (sortWorldK enc k w (β o).b (β o).off m dk os) fun e w' => e = .returned (.int .i64 (cmp xs[x.val] xs[y.val])) ∧ ∃ q os', w' = grow ((sortWorldK enc k w (β o).b (β o).off m dk os).drewN q) os' := fun m os dk x y => by
      obtain ⟨hh1, _⟩ := heap_sortWorldK (enc := enc) (k := k) (off := (β o).off) (m := m) (dk := dk) (os := os) hcell
      exact calls_grow hm hG (hcmp.ret xs[x.val] xs[y.val] (hQ _ (List.getElem_mem _)) (hQ _ (List.getElem_mem _))) (Z := fun b => b < w.heap.size ∧ b ≠ (β o).b) (fun b hb => Nat.lt_of_lt_of_le hb.1 hh1) (RelL.cons (hpk.av (hZ1 m os dk x)) (RelL.cons (hpk.av (hZ1 m os dk y)) RelL.nil))
    have heg : ∀ args w, (callFunc gf args).run P w = .ok (.enter gf args) w := fun args w' => by
      obtain ⟨fn, h1, h2, h3⟩ := (hcalls 0 #[] (Array.ofFn fun i : Fin xs.length => i) ⟨0, hpos⟩ ⟨0, hpos⟩).1
      have h3' : ¬ fn.name = "runtime.NumGoroutine" := by simpa using h3
      obtain ⟨code, hb⟩ := Option.isSome_iff_exists.1 h2
      simp [callFunc, h1, h3', hb]
    have hfin := hcon.2 xs.length enc hekl (fun i v hv => by
      obtain ⟨j, hj⟩ := List.getElem?_of_mem hv
      have hjk : j < k := by have := (List.getElem?_eq_some_iff.1 hj).1; rwa [hekl] at this
      obtain ⟨_, _, _, v', h3, h4⟩ := hel' i j hjk
      rw [hj] at h3; cases h3
      exact one_cell h4.1) (fun i j => cmp xs[i.val] xs[j.val]) ⟨fun i => hcmp.swo.irrefl xs[i.val], fun i j l => hcmp.swo.trans xs[i.val] xs[j.val] xs[l.val], fun i j l => hcmp.swo.ntrans xs[i.val] xs[j.val] xs[l.val]⟩ gf (β o).b (β o).off (β o).cap w heg
      (fun m os dk hdk x y => (hcalls m os dk x y).2) hH hlt hlen
    have haddr : (β o).addr = some ⟨(β o).b, (β o).off, none⟩ := by simp [BI.addr, hnil]
    rw [haddr]
    refine hfin.mono ?_
    rintro e' w' ⟨rfl, d', m, os, hperm, hs, rfl⟩
    obtain ⟨hh1, hh2, hh3⟩ := heap_sortWorldK (enc := enc) (k := k) (off := (β o).off) (m := m) (dk := d') (os := os) hcell
    have hsize : d'.size = xs.length := by rw [hperm.1, hd0]
    have hp' : d'.toList.Perm (List.ofFn fun i : Fin xs.length => i) := by
      have := hperm.2.2
      rw [ext_all' d' _ hsize.symm, ext_all' (Array.ofFn fun i : Fin xs.length => i) _ hd0.symm] at this
      simpa using this
    have hsrt : (d'.toList.map fun i => xs[i.val]) = srt cmp xs := by
      refine srt_eq hcmp.swo ha ?_ ?_
      · have := hp'.map fun i : Fin xs.length => xs[i.val]
        rwa [ofFn_map'] at this
      · refine List.pairwise_iff_getElem.2 fun i j hi hj hij hlt => ?_
        rw [List.length_map, Array.length_toList] at hi hj
        have h3 := hs i j (Nat.zero_le _) hij (by omega)
        rw [getElem!_pos d' j hj, getElem!_pos d' i hi] at h3
        rw [List.getElem_map, List.getElem_map] at hlt
        unfold ltOf at h3
        exact absurd hlt (of_decide_eq_false h3)
    have hnd : (d'.toList.map Fin.val).Nodup := by
      have h1 := hp'.symm.nodup (ofFn_nodup' _)
      refine List.pairwise_iff_getElem.2 fun i j hi hj hij he => ?_
      rw [List.length_map] at hi hj
      rw [List.getElem_map, List.getElem_map] at he
      exact absurd (Fin.ext he) (List.pairwise_iff_getElem.1 h1 i j hi hj hij)
    refine ⟨rfl, ?_, ⟨rfl, rfl, rfl, Nat.le_add_right _ _⟩⟩
    rw [← hsrt]
    rw [← hsrt] at hE
    have M1 := Mv.change R hc (.arr (.own 0) (st + 1) k (rowsE (d'.toList.map fun i => xs[i.val]))) (β o) (own' := own) hh1 (fun b hb hne => hh2 b hb fun e => by subst e; exact hne hown) (fun _ _ _ _ h => h) (fun b y h => ⟨Nat.lt_of_lt_of_le (R.own_lt b y h) hh1, .inl ⟨y, h⟩⟩) (fun _ _ h => h) (hE _) (fun _ => by
      unfold ObjRel
      rw [upd_same, upd_same]
      refine ⟨fun b => ((d'.toList.map Fin.val).idxOf (f b).1, (f b).2), fun r hr => ?_, ?_, fun hx => (by rw [hnil] at hx; cases hx), fun _ => ⟨hown, _, e, hh3, ?_, fun i r j t hi hj => ?_⟩⟩
      · obtain ⟨x, hx, rfl⟩ := List.mem_map.1 hr
        exact hlc x
      · rw [rowsE_len, List.length_map, Array.length_toList, hsize]; exact hcap
      · simp only [putCells, Array.size_mapIdx]; exact hcs
      · have hil : i < d'.size := by
          have := (List.getElem?_eq_some_iff.1 hi).1
          rwa [rowsE_len, List.length_map, Array.length_toList] at this
        have hr : r = Enc.cells xs[(d'[i]).val] := by
          simp only [rowsE, List.getElem?_map, Array.getElem?_toList, Array.getElem?_eq_getElem hil, Option.map_some, Option.some.injEq] at hi
          exact hi.symm
        subst hr
        have hjk : j < k := by have := (List.getElem?_eq_some_iff.1 hj).1; rwa [hlc] at this
        obtain ⟨t', h1, h2, v, h3, h4⟩ := hel' d'[i] j hjk
        rw [hj] at h1; cases h1
        have hik : (i + 1) * k ≤ xs.length * k := Nat.mul_le_mul_right _ (by omega)
        rw [Nat.add_mul] at hik
        have ht : i * k + j < xs.length * k := by omega
        refine ⟨v, ?_, h4.1, fun hf => (h4.2.1 hf).mono fun b hb => hb.elim, fun _ => (h4.2.2 (Nat.zero_le _)).mono fun b hb => ⟨⟨hb.1, hb.2.1, ?_⟩, hh2 b (R.own_lt _ _ hb.1) hb.2.1⟩⟩
        · have e1 : (i * k + j) / k = i := by rw [Nat.mul_comm, Nat.mul_add_div hn, Nat.div_eq_of_lt hjk, Nat.add_zero]
          have e2 : (i * k + j) % k = j := by rw [Nat.mul_comm, Nat.mul_add_mod, Nat.mod_eq_of_lt hjk]
          have h5 := hat d' hsize (i * k + j) ht (by rw [e1]; exact hil)
          simp only [e1, e2] at h5
          rw [h3] at h5
          have hlf : i * k + j < (flatK enc k d').size := by rw [size_flatK, hsize]; exact ht
          have hcl : (β o).off + (i * k + j) < cells.size := by omega
          simp only [putCells, Array.getElem?_mapIdx]
          rw [Array.getElem?_eq_getElem hcl]
          simp only [Option.map_some, id]
          rw [if_pos ⟨by omega, by omega⟩, show (β o).off + (i * k + j) - (β o).off = i * k + j by omega, getElem!_pos (flatK enc k d') (i * k + j) hlf]
          rw [Array.getElem?_eq_getElem hlf] at h5
          exact h5
        · show ((d'.toList.map Fin.val).idxOf (f b).1, (f b).2) = (i, j)
          rw [hb.2.2]
          simp only [Prod.mk.injEq, and_true]
          have hm1 : (d'[i]).val ∈ d'.toList.map Fin.val := List.mem_map.2 ⟨d'[i], by simp, rfl⟩
          have hil2 := List.idxOf_lt_length_of_mem hm1
          refine inj_of_nodup' hnd hil2 (by simpa using hil) ?_
          rw [List.getElem_idxOf hil2, List.getElem_map]
          simp)
    rw [hβ] at M1
    exact M1
end Go.Proofs.YtmfifjbbjjdacaaGreat.V

namespace Go.Proofs.YtmfifjbbjjdacaaGreat.V
open Go Go.Proofs Go.RowKit Go.Shelf Go.Sort
set_option linter.unusedVariables false
/-- What is asked of the rows. -/
def SrtOk {α : Type} (cmp : α → α → Int) (Q : α → Prop) (xs : List α) : Prop := (∀ x ∈ xs, Q x) ∧ ∀ a b, a ∈ xs → b ∈ xs → ¬ cmp b a < 0 → ¬ cmp a b < 0 → a = b
open Classical in
/-- Rows of the caller's own, put in order. -/
noncomputable def sortG (α : Type) [EncI α] (cmp : α → α → Int) (Q : α → Prop) (gf : Nat) (args : List AV) (σ : Sto) : Option (AV × Sto) :=
  match args with
  | [.ref o v [], .clo g []] => if g = gf then match σ.ob o with
    | .arr (.own 0) st sz rows =>
      if h : sz = Enc.n α ∧ rows.length = v ∧ v < 4611686018427387904 ∧ ∃ xs : List α, rows = rowsE xs ∧ SrtOk cmp Q xs then some (.tup [], σ.set o (.arr (.own 0) (st + 1) sz (rowsE (srt cmp h.2.2.2.choose)))) else none
    | _ => none
    else none
  | _ => none
theorem sortG_eq {α : Type} [EncI α] {cmp : α → α → Int} {Q : α → Prop} {gf o st v : Nat} {σ : Sto} {xs : List α} (hob : σ.ob o = .arr (.own 0) st (Enc.n α) (rowsE xs)) (hv : v = xs.length) (hlen : xs.length < 4611686018427387904) (h : SrtOk cmp Q xs) :
    sortG α cmp Q gf [.ref o v [], .clo gf []] σ = some (.tup [], σ.set o (.arr (.own 0) (st + 1) (Enc.n α) (rowsE (srt cmp xs)))) := by
  have hh : Enc.n α = Enc.n α ∧ (rowsE xs).length = v ∧ v < 4611686018427387904 ∧ ∃ ys : List α, rowsE xs = rowsE ys ∧ SrtOk cmp Q ys := ⟨rfl, by rw [rowsE_len, hv], by omega, xs, rfl, h⟩
  simp only [sortG, if_pos, hob]
  rw [dif_pos hh]
  have := rowsE_inj hh.2.2.2.choose_spec.1
  rw [← this]
theorem two_of {a : Array Value} (h : a.size = 0 + 1 + 1) : ∃ v0 v1, a = #[v0, v1] := by
  obtain ⟨l⟩ := a
  match l, h with
  | [x, y], _ => exact ⟨x, y, rfl⟩
theorem sortG_ok {P : Program} {M : Nat → Bool} {G0 : Giv} {α : Type} [EncI α] {pv : List Value → Value} {pk : α → AV} (hm : P.follows .mixedOrders = true) (hG : GivOk P G0) {fs gf : Nat} (hcon : SortCon P fs (Enc.n α) pv) (hpk : Pk α pv pk) {cmp : α → α → Int} {Q : α → Prop} (hcmp : CmpOk P M G0 α pk gf cmp Q)
    (hn : 0 < Enc.n α) {args : List AV} {σ σ' : Sto} {r : AV} (H : sortG α cmp Q gf args σ = some (r, σ'))
    {β : Nat → BI} {C Z : Nat → Prop} {own : Nat → Option Nat} {w : World} {vals : Array Value} (R : Rel σ.ob β C w.heap Z own) (hf : ∀ o, σ.n ≤ o → ¬ C o) (hargs : RelL σ.ob β C w.heap Z vals.toList args) :
    Calls P fs vals w (fun e w' => ∃ val, e = .returned val ∧ Post σ β C w.heap Z own σ' val r w'.heap ∧ Wld w w') := by
  unfold sortG at H
  split at H
  · rename_i o v g
    split at H
    · rename_i hg
      subst hg
      split at H
      · rename_i st sz rows hob
        split at H
        · rename_i h
          cases H
          obtain ⟨hsz, hv, hlt, hex⟩ := h
          obtain ⟨hrows, hQ, ha⟩ := hex.choose_spec
          generalize hex.choose = xs at hrows hQ ha
          subst hsz; subst hrows
          obtain ⟨h1, h2⟩ := hargs
          simp only [List.length_cons, List.length_nil, Array.length_toList] at h1
          obtain ⟨v0, v1, hvs⟩ := two_of h1
          subst hvs
          have e0 := h2 0 v0 _ rfl rfl
          have e1 := h2 1 v1 _ rfl rfl
          cases e0 with
          | ref _ _ _ a l c hc hx =>
            cases e1 with
            | clo _ vs _ hs _ =>
              have hvs0 : vs = #[] := Array.eq_empty_of_size_eq_zero (by simpa using hs)
              subst hvs0
              rw [hob] at hx
              rw [← hv] at hx
              have hval := hx.whole
              rw [hval, rowsE_len]
              refine (sort_post hm hG hcon hpk hcmp R hc hob hQ hn ha (by rw [rowsE_len] at hv; omega)).mono ?_
              rintro e w' ⟨rfl, hM, hw⟩
              exact ⟨_, rfl, ⟨β, C, Z, own, hM, fun o ho => .inl ho, Nat.le_refl _, .tup _ _ (by simp) fun i u x hu => by simp at hu⟩, hw⟩
        · cases H
      · cases H
    · cases H
  · cases H
end Go.Proofs.YtmfifjbbjjdacaaGreat.V

namespace Go.Proofs.YtmfifjbbjjdacaaGreat.V
open Go
set_option linter.unusedVariables false
variable {ob ob' : Nat → VO} {β β' : Nat → BI} {C C' : Nat → Prop} {h h' : Heap} {Z Z' : Nat → Prop} {own own' : Nat → Option Nat}
/-- Who owns the blocks, when o's go to n. -/
def ownM (own : Nat → Option Nat) (o n : Nat) : Nat → Option Nat := fun b => if own b = some o then some n else own b
theorem Mv.move (R : Rel ob β C h Z own) {o n : Nat} (hc : C o) (hn : ¬ C n) (x : VO) (bi : BI) (hsz : h.size ≤ h'.size) (hkeep : ∀ b, b < h.size → own b ≠ some o → h'[b]? = h[b]?)
    (hx : ObjRel (upd (upd ob o .dead) n x) (upd β n bi) (fun a => C a ∨ a = n) h' Z (ownM own o n) n) :
    Mv ob β C h Z own (upd (upd ob o .dead) n x) (upd β n bi) (fun a => C a ∨ a = n) h' Z (ownM own o n) := by
  have hon : o ≠ n := fun e => hn (e ▸ hc)
  have hne : ∀ a, C a → a ≠ n := fun a ha e => hn (e ▸ ha)
  have hZ : ∀ b, Z b → Z b ∧ h'[b]? = h[b]? := fun b hz => ⟨hz, hkeep b (R.zlt b hz).1 fun e => by rw [(R.zlt b hz).2] at e; cases e⟩
  have hk : ∀ o', o' ≠ o → ∀ b, own b = some o' → h'[b]? = h[b]? := fun o' hne b hb => hkeep b (R.own_lt b o' hb) fun e => hne (Option.some.inj (hb.symm.trans e))
  have hevo : ∀ a, C a → (C a ∨ a = n) ∧ Evo (ob a) (β a) h (upd (upd ob o .dead) n x a) (upd β n bi a) h' := fun a ha => by
    refine ⟨.inl ha, ?_⟩
    rw [upd_ne _ _ (hne a ha), upd_ne _ _ (hne a ha)]
    by_cases e : a = o
    · subst e; rw [upd_same]; exact Evo.dead
    · rw [upd_ne _ _ e]; exact R.evoKeep ha (hk a e)
  have hAV : ∀ v a, AVRel ob β C h Z v a → AVRel (upd (upd ob o .dead) n x) (upd β n bi) (fun a => C a ∨ a = n) h' Z v a := fun v a => AVRel.mono hZ hevo
  refine ⟨⟨fun b y hb => ?_, fun b hb => ⟨Nat.lt_of_lt_of_le (R.zlt b hb).1 hsz, ?_⟩, fun a ha => ?_, fun a ha => ?_⟩, ⟨hsz, fun b hb hnn => hkeep b hb (by rw [hnn]; simp), fun b y hb => ?_, fun _ h => h, fun _ h => .inl h⟩, hevo⟩
  · unfold ownM at hb
    split at hb
    · rename_i e; exact Nat.lt_of_lt_of_le (R.own_lt b o e) hsz
    · exact Nat.lt_of_lt_of_le (R.own_lt b y hb) hsz
  · unfold ownM
    rw [if_neg (by rw [(R.zlt b hb).2]; simp)]; exact (R.zlt b hb).2
  · rcases ha with ha | rfl
    · by_cases e : a = o
      · subst e
        unfold ObjRel
        rw [upd_ne _ _ hon, upd_same]
        trivial
      · refine ObjRel.mono (by rw [upd_ne _ _ (hne a ha), upd_ne _ _ e]) (upd_ne _ _ (hne a ha)) (fun b hb => ⟨?_, hk a e b hb⟩) hZ hAV (R.objs a ha)
        unfold ownM
        rw [if_neg (by rw [hb]; intro h; exact e (Option.some.inj h))]; exact hb
    · exact hx
  · have h1 : a ≠ n := fun e => ha (.inr e)
    have h2 : a ≠ o := fun e => ha (.inl (e ▸ hc))
    rw [upd_ne _ _ h1, upd_ne _ _ h2]
    exact R.dead a fun hc => ha (.inl hc)
  · unfold ownM at hb
    split at hb
    · rename_i e; exact .inl ⟨o, e⟩
    · exact .inl ⟨y, hb⟩
end Go.Proofs.YtmfifjbbjjdacaaGreat.V

namespace Go.Proofs.YtmfifjbbjjdacaaGreat.V
open Go Go.Proofs Go.RowKit Go.Shelf Go.Sort Go.Lib
set_option linter.unusedVariables false
theorem putCells_map'' {τ : Type} [Inhabited τ] (enc : τ → Value) (off : Nat) (dk : Array τ) : Sort.putCells enc off dk = Sort.putCells id off (dk.map enc) := by
  funext c
  unfold Sort.putCells
  apply Array.ext_getElem?
  intro t
  rw [Array.getElem?_mapIdx, Array.getElem?_mapIdx]
  cases c[t]? with
  | none => rfl
  | some y =>
    simp only [Option.map_some, Array.size_map, id]
    by_cases ht : off ≤ t ∧ t < off + dk.size
    · have h1 : t - off < dk.size := by omega
      have h2 : t - off < (dk.map enc).size := by simpa using h1
      rw [if_pos ht, if_pos ht, getElem!_pos dk _ h1, getElem!_pos (dk.map enc) _ h2, Array.getElem_map]
    · rw [if_neg ht, if_neg ht]
theorem flatK_one' {τ : Type} [Inhabited τ] (enc : τ → List Value) (enc' : τ → Value) (he : ∀ x, enc x = [enc' x]) (dk : Array τ) : flatK enc 1 dk = dk.map enc' := by
  apply Array.ext_getElem?
  intro t
  by_cases ht : t < dk.size
  · have hlt : t < (flatK enc 1 dk).size := by rw [size_flatK, Nat.mul_one]; exact ht
    have e1 := getElem!_pos (flatK enc 1 dk) t hlt
    rw [Array.getElem?_eq_getElem hlt, ← e1, get_flatK _ _ _ _ (by rw [Nat.mul_one]; exact ht), Nat.div_one, Nat.mod_one, he]
    have e2 := getElem!_pos dk t ht
    rw [Array.getElem?_map, Array.getElem?_eq_getElem ht, e2]; rfl
  · rw [Array.getElem?_eq_none (by rw [size_flatK]; omega), Array.getElem?_eq_none (by simp; omega)]
def CompCon (P : Program) (fs k : Nat) (zc : List Value) (pv : List Value → Value) : Prop :=
  (∀ (p : Option Addr) (cap : Nat) (fv : Value) (w : World), Calls P fs #[.slice p 0 cap, fv] w fun e w' => e = .returned (.slice p 0 cap) ∧ w' = w) ∧
  ∀ (n : Nat) (enc : Option (Fin n) → List Value) (hk : ∀ x, (enc x).length = k) (h1 : ∀ x, ∀ v ∈ enc x, v.oneCell' = true) (hz : enc none = zc) (eqf : Nat → Nat → Bool) (g blk off cap : Nat) (w : World)
    (eg : ∀ args w, (callFunc g args).run P w = .ok (.enter g args) w)
    (hcmp : ∀ (m : Nat) (os : Array Obj) (dk : Array (Option (Fin n))), dk.size = n → ∀ x y : Fin n, Calls P g #[pv (enc (some x)), pv (enc (some y))] (sortWorldK enc k w blk off m dk os) fun e w' => e = .returned (.bool (eqf x.val y.val)) ∧ ∃ q os', w' = grow ((sortWorldK enc k w blk off m dk os).drewN q) os')
    (hH : HoldsK enc k w blk off (Array.ofFn fun i : Fin n => some i)) (hblk : blk < w.heap.size) (hsz : n ≤ 4611686018427387904) (hcap : n ≤ cap),
    Calls P fs #[.slice (some ⟨blk, off, none⟩) n cap, .func (.func g) #[] #[]] w fun e w' =>
      e = .returned (.slice (some ⟨blk, off, none⟩) ((List.range n).filter (kpf eqf)).length cap) ∧ ∃ (d' : Array (Option (Fin n))) (m : Nat) (os : Array Obj), d'.size = n ∧ (∀ (i : Nat) (j : Nat), ((List.range n).filter (kpf eqf))[i]? = some j → ∃ h : j < n, d'[i]? = some (some ⟨j, h⟩)) ∧ w' = sortWorldK enc k w blk off m d' os
/-- The rows that are kept. -/
def keptJ (n : Nat) (eqf : Nat → Nat → Bool) : List Nat := (List.range n).filter (kpf eqf)
theorem keptJ_lt {n : Nat} {eqf : Nat → Nat → Bool} {j : Nat} (h : j ∈ keptJ n eqf) : j < n := List.mem_range.1 (List.mem_filter.1 h).1
theorem keptJ_nodup (n : Nat) (eqf : Nat → Nat → Bool) : (keptJ n eqf).Nodup := List.nodup_range.sublist List.filter_sublist
def keptL {α : Type} (eqv : α → α → Bool) (xs : List α) : List α := (keptJ xs.length fun i j => match xs[i]?, xs[j]? with | some a, some b => eqv a b | _, _ => false).pmap (fun j h => xs[j]) fun j h => keptJ_lt h
def kept' {α : Type} (eqv : α → α → Bool) : α → List α → List α
  | _, [] => []
  | p, x :: l => if eqv x p then kept' eqv x l else x :: kept' eqv x l
def uniqG {α : Type} (eqv : α → α → Bool) : List α → List α
  | [] => []
  | a :: l => a :: kept' eqv a l
theorem heap_sortWorldK' {τ : Type} [Inhabited τ] {enc : τ → List Value} {k : Nat} {w : World} {blk off m : Nat} {dk : Array τ} {os : Array Obj} {cur : Array Value} {e : TypeId} (hb : w.heap[blk]? = some (.cells cur e (0, 0))) :
    w.heap.size ≤ (sortWorldK enc k w blk off m dk os).heap.size ∧ (∀ b, b < w.heap.size → b ≠ blk → (sortWorldK enc k w blk off m dk os).heap[b]? = w.heap[b]?) ∧ (sortWorldK enc k w blk off m dk os).heap[blk]? = some (.cells (putCells id off (flatK enc k dk) cur) e (0, 0)) := by
  have hlt : blk < w.heap.size := (Array.getElem?_eq_some_iff.1 hb).1
  have hh : (sortWorldK enc k w blk off m dk os).heap = w.heap.modify blk (Sort.onCells (putCells id off (flatK enc k dk))) ++ os := rfl
  refine ⟨by rw [hh]; simp, fun b hbl hne => ?_, ?_⟩
  · rw [hh, Array.getElem?_append_left (by simpa using hbl), Array.getElem?_modify, if_neg (fun h => hne h.symm)]
  · rw [hh, Array.getElem?_append_left (by simpa using hlt), Array.getElem?_modify, if_pos rfl, hb]
    rfl
section
variable {P : Program} {M : Nat → Bool} {G0 : Giv} {α : Type} [EncI α]
theorem expR_bool {σ1 : Sto} {r : AV} {x : Bool} (h2 : expR σ1 r = some (.t (.b x) false)) : r = .t (.b x) := by
  cases r with
  | t y =>
    simp only [expR, expA, exp1, Option.map_some, Option.some.injEq, XV.t.injEq] at h2
    cases y with
    | b z => simp only at h2; rw [h2.1]
    | _ => simp at h2
  | tup l => simp only [expR, Option.map_eq_some_iff] at h2; obtain ⟨_, _, h⟩ := h2; cases h
  | agg l => simp only [expR, expA, Option.map_map, Option.map_eq_some_iff] at h2; obtain ⟨_, _, h⟩ := h2; cases h
  | ref o v p =>
    exfalso
    simp only [expR, expA, exp1] at h2
    revert h2
    (repeat' split) <;> simp
  | _ => simp [expR, expA, exp1] at h2
/-- A test that reads, called in Go: its answer, and the world only grew. -/
theorem calls_growB (hm : P.follows .mixedOrders = true) (hG : GivOk P G0) {f : Nat} {as_ : List AV} {x : Bool} (H : Ret (Rv P M G0) f as_ (.t (.b x) false)) {W : World} {Z : Nat → Prop} (hz : ∀ b, Z b → b < W.heap.size) {vals : Array Value}
    (hv : RelL Sto.e.ob (fun _ => ⟨0, 0, 0, false⟩) (fun _ => False) W.heap Z vals.toList as_) :
    (∃ fn, P.funcs[f]? = some fn ∧ fn.body.isSome = true ∧ (fn.name == "runtime.NumGoroutine") = false) ∧ Calls P f vals W (fun e w' => e = .returned (.bool x) ∧ ∃ q os', w' = grow (W.drewN q) os') := by
  obtain ⟨r, σ1, h1, h2⟩ := H
  have hr := expR_bool h2
  subst hr
  have hO : OraOk P (Rv P M G0) := R_ok drawV_go hG fun X hX => drawV_ok hm hX
  obtain ⟨h0, hc⟩ := hO f as_ Sto.e _ σ1 h1
  refine ⟨h0, ?_⟩
  have hR := Rel.empty W.heap Z hz (fun _ => ⟨0, 0, 0, false⟩)
  refine (hc hR (fun _ _ h => h) hv).mono ?_
  rintro e w' ⟨val, rfl, ⟨β', C', Z', own', A, _, _, hval⟩, hw⟩
  have h3 := hval.tInv
  cases h3
  refine ⟨rfl, w'.drawn - W.drawn, w'.heap.extract W.heap.size w'.heap.size, ?_⟩
  have hh : w'.heap = W.heap ++ w'.heap.extract W.heap.size w'.heap.size := by
    apply Array.ext_getElem?
    intro i
    rcases Nat.lt_or_ge i W.heap.size with hi | hi
    · rw [Array.getElem?_append_left hi, A.good.keep i hi rfl]
    · rw [Array.getElem?_append_right hi, Array.getElem?_extract]
      have := A.good.sz
      split
      · congr 1; omega
      · rw [Array.getElem?_eq_none (by omega)]
  obtain ⟨hp, tp, dr, os, out⟩ := w'
  obtain ⟨hw1, hw2, hw3, hw4⟩ := hw
  simp only at hw1 hw2 hw3 hw4 hh
  subst hw1; subst hw2; subst hw3
  simp only [grow, World.drewN]
  rw [← hh]
  congr 1
  omega
omit [EncI α] in
theorem keptL_len (eqv : α → α → Bool) (xs : List α) : (keptL eqv xs).length = (keptJ xs.length fun i j => match xs[i]?, xs[j]? with | some a, some b => eqv a b | _, _ => false).length := by simp [keptL]
omit [EncI α] in
theorem keptL_le (eqv : α → α → Bool) (xs : List α) : (keptL eqv xs).length ≤ xs.length := by
  rw [keptL_len]; unfold keptJ
  have := List.length_filter_le (kpf fun i j => match xs[i]?, xs[j]? with | some a, some b => eqv a b | _, _ => false) (List.range xs.length)
  rwa [List.length_range] at this
omit [EncI α] in
theorem keptL_get (eqv : α → α → Bool) (xs : List α) (i : Nat) (hi : i < (keptL eqv xs).length) : ∃ j, ∃ hj : j < xs.length, (keptJ xs.length fun i j => match xs[i]?, xs[j]? with | some a, some b => eqv a b | _, _ => false)[i]? = some j ∧ (keptL eqv xs)[i] = xs[j] := by
  have h0 : i < (keptJ xs.length fun i j => match xs[i]?, xs[j]? with | some a, some b => eqv a b | _, _ => false).length := by rwa [keptL_len] at hi
  refine ⟨_, keptJ_lt (List.getElem_mem h0), List.getElem?_eq_getElem h0, ?_⟩
  simp [keptL]
theorem comp_post {zc : List Value} {pv : List Value → Value} {pk : α → AV} (hm : P.follows .mixedOrders = true) (hG : GivOk P G0) {fs gf : Nat} (hcon : CompCon P fs (Enc.n α) zc pv) (hzl : zc.length = Enc.n α) (hz1 : ∀ v ∈ zc, v.oneCell' = true) (hpk : Pk α pv pk) {eqv : α → α → Bool} {Q : α → Prop}
    (hret : ∀ x y : α, Q x → Q y → Ret (Rv P M G0) gf [pk x, pk y] (.t (.b (eqv x y)) false))
    {σ : Sto} {β : Nat → BI} {C Z : Nat → Prop} {own : Nat → Option Nat} {w : World} (R : Rel σ.ob β C w.heap Z own) {o st m : Nat} {xs : List α} (hc : C o) (hmC : ¬ C m) (hob : σ.ob o = .arr (.own 0) st (Enc.n α) (rowsE xs)) (hQ : ∀ x ∈ xs, Q x) (hn : 0 < Enc.n α)
    (hlen : xs.length ≤ 4611686018427387904) :
    Calls P fs #[.slice (β o).addr xs.length (β o).cap, .func (.func gf) #[] #[]] w fun e w' => e = .returned (.slice (β o).addr (keptL eqv xs).length (β o).cap) ∧ Mv σ.ob β C w.heap Z own (upd (upd σ.ob o .dead) m (.arr (.own 0) 0 (Enc.n α) (rowsE (keptL eqv xs)))) (upd β m (β o)) (fun a => C a ∨ a = m) w'.heap Z (ownM own o m) ∧ Wld w w' := by
  have hom : o ≠ m := fun e => hmC (e ▸ hc)
  have HO := R.objs o hc
  unfold ObjRel at HO
  rw [hob] at HO
  obtain ⟨f, HO⟩ := HO
  rcases Nat.eq_zero_or_pos xs.length with h0 | hpos
  · have hx : xs = [] := List.eq_nil_of_length_eq_zero h0
    subst hx
    have hkn : keptL eqv ([] : List α) = [] := rfl
    refine (hcon.1 _ _ _ w).mono ?_
    rintro e w' ⟨rfl, rfl⟩
    refine ⟨rfl, ?_, Wld.refl _⟩
    refine Mv.move R hc hmC _ _ (Nat.le_refl _) (fun _ _ _ => rfl) ?_
    unfold ObjRel
    rw [upd_same, upd_same, hkn]
    refine ⟨f, fun r hr => by simp [rowsE] at hr, by simp [rowsE], HO.nil, fun hb => ?_⟩
    obtain ⟨h1, cells, e, h2, h3, h4⟩ := HO.blk hb
    exact ⟨by unfold ownM; rw [if_pos h1], cells, e, h2, h3, fun i r j t hi => by simp [rowsE] at hi⟩
  · have hnil : (β o).isNil = false := by
      cases hb : (β o).isNil with
      | false => rfl
      | true =>
        have h1 := HO.nil hb
        have h2 := HO.cap
        rw [rowsE_len] at h2
        omega
    obtain ⟨hown, cells, e, hcell, hcs, hel⟩ := HO.blk hnil
    have hcap := HO.cap
    rw [rowsE_len] at hcap
    generalize hk0 : Enc.n α = k at *
    have hrow : ∀ (i : Nat) (hi : i < xs.length), (rowsE xs)[i]? = some (Enc.cells xs[i]) := fun i hi => by simp [rowsE, hi]
    have hlc : ∀ x : α, (Enc.cells x).length = k := fun x => by rw [Enc.len, hk0]
    let enc : Option (Fin xs.length) → List Value := fun t => match t with
      | some i => (List.range k).map fun j => (cells[(β o).off + (i.val * k + j)]?).getD default
      | none => zc
    have hel' : ∀ (i : Fin xs.length) (j : Nat) (hj : j < k), ∃ t, (Enc.cells xs[i.val])[j]? = some t ∧ (enc (some i))[j]? = cells[(β o).off + (i.val * k + j)]? ∧ ∃ v, (enc (some i))[j]? = some v ∧ NOwn w.heap (fun b => own b = some o) (β o) f 0 i.val j v t := fun i j hj => by
      have hjl : j < (Enc.cells xs[i.val]).length := by rw [hlc]; exact hj
      obtain ⟨v, h1, h2⟩ := hel i.val _ j _ (hrow i.val i.isLt) (List.getElem?_eq_getElem hjl)
      refine ⟨_, List.getElem?_eq_getElem hjl, ?_, v, ?_, h2⟩
      · simp only [enc, List.getElem?_map, List.getElem?_range hj, Option.map_some, h1, Option.getD_some]
      · simp only [enc, List.getElem?_map, List.getElem?_range hj, Option.map_some, h1, Option.getD_some]
    have hekl : ∀ i, (enc i).length = k := fun i => by cases i <;> simp [enc, hzl]
    have hd0 : (Array.ofFn fun i : Fin xs.length => some i).size = xs.length := by simp
    have hat : ∀ (dk : Array (Option (Fin xs.length))), dk.size = xs.length → ∀ t, t < xs.length * k → ∀ hh : t / k < dk.size, (flatK enc k dk)[t]? = (enc dk[t / k])[t % k]? := by
      intro dk hdk t ht hh
      have hlt : t < (flatK enc k dk).size := by rw [size_flatK, hdk]; exact ht
      have e1 := getElem!_pos (flatK enc k dk) t hlt
      have hm' : t % k < (enc dk[t / k]).length := by rw [hekl]; exact Nat.mod_lt _ hn
      have e2 := getElem!_pos (enc dk[t / k]) (t % k) hm'
      rw [Array.getElem?_eq_getElem hlt, ← e1, get_flatK _ _ _ _ (by rw [hdk]; exact ht), getElem!_pos dk _ hh, e2, List.getElem?_eq_getElem hm']
    have hfit : xs.length * k ≤ (β o).cap * k := Nat.mul_le_mul_right _ hcap
    have hH : HoldsK enc k w (β o).b (β o).off (Array.ofFn fun i : Fin xs.length => some i) := by
      intro t ht
      rw [size_flatK, hd0] at ht
      have hq : t / k < xs.length := by rw [Nat.div_lt_iff_lt_mul hn]; exact ht
      have h2 := hat _ hd0 t ht (by rw [hd0]; exact hq)
      simp only [Array.getElem_ofFn] at h2
      have hlt : t < (flatK enc k (Array.ofFn fun i : Fin xs.length => some i)).size := by rw [size_flatK, hd0]; exact ht
      have e1 := getElem!_pos (flatK enc k (Array.ofFn fun i : Fin xs.length => some i)) t hlt
      rw [e1]
      rw [Array.getElem?_eq_getElem hlt] at h2
      obtain ⟨tt, _, h4, v, h5, _⟩ := hel' ⟨t / k, hq⟩ (t % k) (Nat.mod_lt _ hn)
      have e3 : t / k * k + t % k = t := by rw [Nat.mul_comm]; exact Nat.div_add_mod t k
      simp only [e3] at h4
      refine ⟨?_, ?_⟩
      · unfold World.cell?
        simp only [hcell]
        rw [← h4]
        simpa using h2.symm
      · unfold World.frozen?
        simp [hcell]
    have hlt : (β o).b < w.heap.size := R.own_lt _ _ hown
    have hZ1 : ∀ (m : Nat) (os : Array Obj) (dk : Array (Option (Fin xs.length))) (x : Fin xs.length), RepL (sortWorldK enc k w (β o).b (β o).off m dk os).heap (fun b => b < w.heap.size ∧ b ≠ (β o).b) (enc (some x)) (Enc.cells xs[x.val]) := fun m os dk x => by
      obtain ⟨hh1, hh2, hh3⟩ := heap_sortWorldK' (enc := enc) (k := k) (off := (β o).off) (m := m) (dk := dk) (os := os) hcell
      refine ⟨(hekl (some x)).trans (hlc _).symm, fun j u t hu ht => ?_⟩
      have hj : j < k := by have h8 := (List.getElem?_eq_some_iff.1 hu).1; have h9 := hekl (some x); omega
      obtain ⟨t', h1, _, v, h3, h4⟩ := hel' x j hj
      rw [hu] at h3; cases h3
      rw [ht] at h1; cases h1
      exact ((h4.2.2 (Nat.zero_le _)).mono (S' := fun b => b < w.heap.size ∧ b ≠ (β o).b) fun b hb => ⟨⟨R.own_lt _ _ hb.1, hb.2.1⟩, hh2 b (R.own_lt _ _ hb.1) hb.2.1⟩).rep fun b hb => hb
    have hcalls : ∀ (m : Nat) (os : Array Obj) (dk : Array (Option (Fin xs.length))) (x y : Fin xs.length), (∃ fn, P.funcs[gf]? = some fn ∧ fn.body.isSome = true ∧ (fn.name == "runtime.NumGoroutine") = false) ∧ Calls P gf #[pv (enc (some x)), pv (enc (some y))] (sortWorldK enc k w (β o).b (β o).off m dk os) fun e w' => e = .returned (.bool (eqv xs[x.val] xs[y.val])) ∧ ∃ q os', w' = grow ((sortWorldK enc k w (β o).b (β o).off m dk os).drewN q) os' := fun m os dk x y => by
      obtain ⟨hh1, _⟩ := heap_sortWorldK' (enc := enc) (k := k) (off := (β o).off) (m := m) (dk := dk) (os := os) hcell
      exact calls_growB hm hG (hret xs[x.val] xs[y.val] (hQ _ (List.getElem_mem _)) (hQ _ (List.getElem_mem _))) (Z := fun b => b < w.heap.size ∧ b ≠ (β o).b) (fun b hb => Nat.lt_of_lt_of_le hb.1 hh1) (RelL.cons (hpk.av (hZ1 m os dk x)) (RelL.cons (hpk.av (hZ1 m os dk y)) RelL.nil))
    have heg : ∀ args w, (callFunc gf args).run P w = .ok (.enter gf args) w := fun args w' => by
      obtain ⟨fn, h1, h2, h3⟩ := (hcalls 0 #[] (Array.ofFn fun i : Fin xs.length => some i) ⟨0, hpos⟩ ⟨0, hpos⟩).1
      have h3' : ¬ fn.name = "runtime.NumGoroutine" := by simpa using h3
      obtain ⟨code, hb⟩ := Option.isSome_iff_exists.1 h2
      simp [callFunc, h1, h3', hb]
    have hfin := hcon.2 xs.length enc hekl (fun i v hv => by
      cases i with
      | none => exact hz1 v hv
      | some i =>
        obtain ⟨j, hj⟩ := List.getElem?_of_mem hv
        have hjk : j < k := by have h8 := (List.getElem?_eq_some_iff.1 hj).1; have h9 := hekl (some i); omega
        obtain ⟨_, _, _, v', h3, h4⟩ := hel' i j hjk
        rw [hj] at h3; cases h3
        exact one_cell h4.1) rfl (fun i j => match xs[i]?, xs[j]? with | some a, some b => eqv a b | _, _ => false) gf (β o).b (β o).off (β o).cap w heg
      (fun m os dk hdk x y => by
        have := (hcalls m os dk x y).2
        simp only [List.getElem?_eq_getElem x.isLt, List.getElem?_eq_getElem y.isLt]
        exact this) hH hlt hlen hcap
    have haddr : (β o).addr = some ⟨(β o).b, (β o).off, none⟩ := by simp [BI.addr, hnil]
    rw [haddr]
    refine hfin.mono ?_
    rintro e' w' ⟨rfl, d', md, os, hsize, hd', rfl⟩
    obtain ⟨hh1, hh2, hh3⟩ := heap_sortWorldK' (enc := enc) (k := k) (off := (β o).off) (m := md) (dk := d') (os := os) hcell
    have hlk := keptL_len eqv xs
    have hle := keptL_le eqv xs
    unfold keptJ at hlk
    refine ⟨by rw [hlk], ?_, ⟨rfl, rfl, rfl, Nat.le_add_right _ _⟩⟩
    refine Mv.move R hc hmC _ _ hh1 (fun b hb hne => hh2 b hb fun e => by subst e; exact hne hown) ?_
    unfold ObjRel
    rw [upd_same, upd_same]
    generalize hJ : (keptJ xs.length fun i j => match xs[i]?, xs[j]? with | some a, some b => eqv a b | _, _ => false) = J at *
    have hJn : J.Nodup := by rw [← hJ]; exact keptJ_nodup _ _
    refine ⟨fun b => (J.idxOf (f b).1, (f b).2), fun r hr => ?_, ?_, fun hx => (by rw [hnil] at hx; cases hx), fun _ => ⟨by unfold ownM; rw [if_pos hown], _, e, hh3, ?_, fun i r j t hi hj => ?_⟩⟩
    · obtain ⟨x, hx, rfl⟩ := List.mem_map.1 hr
      exact hlc x
    · rw [rowsE_len]; omega
    · simp only [putCells, Array.size_mapIdx]; exact hcs
    · have hil : i < (keptL eqv xs).length := by
        have := (List.getElem?_eq_some_iff.1 hi).1
        rwa [rowsE_len] at this
      obtain ⟨jx, hjx, hJi, hkx⟩ := keptL_get eqv xs i hil
      rw [hJ] at hJi
      have hr : r = Enc.cells xs[jx] := by
        simp only [rowsE, List.getElem?_map, List.getElem?_eq_getElem hil, Option.map_some, Option.some.injEq] at hi
        rw [← hi, hkx]
      subst hr
      obtain ⟨hjn, hdi⟩ := hd' i jx (by unfold keptJ at hJ; rw [hJ]; exact hJi)
      have hid : i < d'.size := (Array.getElem?_eq_some_iff.1 hdi).1
      have hdi' : d'[i] = some ⟨jx, hjn⟩ := by
        rw [Array.getElem?_eq_getElem hid] at hdi; exact Option.some.inj hdi
      have hjk : j < k := by have := (List.getElem?_eq_some_iff.1 hj).1; rwa [hlc] at this
      obtain ⟨t', h1, h2, v, h3, h4⟩ := hel' ⟨jx, hjn⟩ j hjk
      rw [hj] at h1; cases h1
      have hik : (i + 1) * k ≤ xs.length * k := Nat.mul_le_mul_right _ (by omega)
      rw [Nat.add_mul] at hik
      have ht : i * k + j < xs.length * k := by omega
      refine ⟨v, ?_, h4.1, fun hf => (h4.2.1 hf).mono fun b hb => hb.elim, fun _ => (h4.2.2 (Nat.zero_le _)).mono fun b hb => ⟨⟨(by have h9 : own b = some o := hb.1; show ownM own o m b = some m; unfold ownM; rw [if_pos h9]), hb.2.1, ?_⟩, hh2 b (R.own_lt _ _ hb.1) hb.2.1⟩⟩
      · have e1 : (i * k + j) / k = i := by rw [Nat.mul_comm, Nat.mul_add_div hn, Nat.div_eq_of_lt hjk, Nat.add_zero]
        have e2 : (i * k + j) % k = j := by rw [Nat.mul_comm, Nat.mul_add_mod, Nat.mod_eq_of_lt hjk]
        have h5 := hat d' hsize (i * k + j) ht (by rw [e1]; exact hid)
        simp only [e1, e2] at h5
        rw [hdi', h3] at h5
        have hlf : i * k + j < (flatK enc k d').size := by rw [size_flatK, hsize]; exact ht
        have hcl : (β o).off + (i * k + j) < cells.size := by omega
        simp only [putCells, Array.getElem?_mapIdx]
        rw [Array.getElem?_eq_getElem hcl]
        simp only [Option.map_some, id]
        rw [if_pos ⟨by omega, by omega⟩, show (β o).off + (i * k + j) - (β o).off = i * k + j by omega, getElem!_pos (flatK enc k d') (i * k + j) hlf]
        rw [Array.getElem?_eq_getElem hlf] at h5
        exact h5
      · show (J.idxOf (f b).1, (f b).2) = (i, j)
        rw [hb.2.2]
        simp only [Prod.mk.injEq, and_true]
        have hiJ := (List.getElem?_eq_some_iff.1 hJi)
        obtain ⟨hiJ1, hiJ2⟩ := hiJ
        have hm1 : jx ∈ J := by rw [← hiJ2]; exact List.getElem_mem hiJ1
        have hil2 := List.idxOf_lt_length_of_mem hm1
        refine inj_of_nodup' hJn hil2 hiJ1 ?_
        rw [List.getElem_idxOf hil2, hiJ2]
open Classical in
/-- Rows of the caller's own, equal neighbours once: a new object. -/
noncomputable def compG (α : Type) [EncI α] (eqv : α → α → Bool) (Q : α → Prop) (gf : Nat) (args : List AV) (σ : Sto) : Option (AV × Sto) :=
  match args with
  | [.ref o v [], .clo g []] => if g = gf then match σ.ob o with
    | .arr (.own 0) st sz rows =>
      if h : sz = Enc.n α ∧ rows.length = v ∧ v ≤ 4611686018427387904 ∧ ∃ xs : List α, rows = rowsE xs ∧ ∀ x ∈ xs, Q x then
        some (.ref σ.n (keptL eqv h.2.2.2.choose).length [], ⟨σ.n + 1, upd (upd σ.ob o .dead) σ.n (.arr (.own 0) 0 sz (rowsE (keptL eqv h.2.2.2.choose)))⟩) else none
    | _ => none
    else none
  | _ => none
theorem compG_eq {eqv : α → α → Bool} {Q : α → Prop} {gf o st v : Nat} {σ : Sto} {xs : List α} (hob : σ.ob o = .arr (.own 0) st (Enc.n α) (rowsE xs)) (hv : v = xs.length) (hlen : xs.length ≤ 4611686018427387904) (h : ∀ x ∈ xs, Q x) :
    compG α eqv Q gf [.ref o v [], .clo gf []] σ = some (.ref σ.n (keptL eqv xs).length [], ⟨σ.n + 1, upd (upd σ.ob o .dead) σ.n (.arr (.own 0) 0 (Enc.n α) (rowsE (keptL eqv xs)))⟩) := by
  have hh : Enc.n α = Enc.n α ∧ (rowsE xs).length = v ∧ v ≤ 4611686018427387904 ∧ ∃ ys : List α, rowsE xs = rowsE ys ∧ ∀ x ∈ ys, Q x := ⟨rfl, by rw [rowsE_len, hv], by omega, xs, rfl, h⟩
  simp only [compG, if_pos, hob]
  rw [dif_pos hh]
  have := rowsE_inj hh.2.2.2.choose_spec.1
  rw [← this]
theorem compG_ok {zc : List Value} {pv : List Value → Value} {pk : α → AV} (hm : P.follows .mixedOrders = true) (hG : GivOk P G0) {fs gf : Nat} (hcon : CompCon P fs (Enc.n α) zc pv) (hzl : zc.length = Enc.n α) (hz1 : ∀ v ∈ zc, v.oneCell' = true) (hpk : Pk α pv pk) {eqv : α → α → Bool} {Q : α → Prop}
    (hret : ∀ x y : α, Q x → Q y → Ret (Rv P M G0) gf [pk x, pk y] (.t (.b (eqv x y)) false))
    (hn : 0 < Enc.n α) {args : List AV} {σ σ' : Sto} {r : AV} (H : compG α eqv Q gf args σ = some (r, σ'))
    {β : Nat → BI} {C Z : Nat → Prop} {own : Nat → Option Nat} {w : World} {vals : Array Value} (R : Rel σ.ob β C w.heap Z own) (hf : ∀ o, σ.n ≤ o → ¬ C o) (hargs : RelL σ.ob β C w.heap Z vals.toList args) :
    Calls P fs vals w (fun e w' => ∃ val, e = .returned val ∧ Post σ β C w.heap Z own σ' val r w'.heap ∧ Wld w w') := by
  unfold compG at H
  split at H
  · rename_i o v g
    split at H
    · rename_i hg
      subst hg
      split at H
      · rename_i st sz rows hob
        split at H
        · rename_i h
          cases H
          obtain ⟨hsz, hv, hlt, hex⟩ := h
          obtain ⟨hrows, hQ⟩ := hex.choose_spec
          generalize hex.choose = xs at hrows hQ
          subst hsz; subst hrows
          obtain ⟨h1, h2⟩ := hargs
          simp only [List.length_cons, List.length_nil, Array.length_toList] at h1
          obtain ⟨v0, v1, hvs⟩ := two_of h1
          subst hvs
          have e0 := h2 0 v0 _ rfl rfl
          have e1 := h2 1 v1 _ rfl rfl
          cases e0 with
          | ref _ _ _ a l c hc hx =>
            cases e1 with
            | clo _ vs _ hs _ =>
              have hvs0 : vs = #[] := Array.eq_empty_of_size_eq_zero (by simpa using hs)
              subst hvs0
              rw [hob] at hx
              rw [← hv] at hx
              have hval := hx.whole
              rw [hval, rowsE_len]
              refine (comp_post hm hG hcon hzl hz1 hpk hret R hc (hf σ.n (Nat.le_refl _)) hob hQ hn (by rw [rowsE_len] at hv; omega)).mono ?_
              rintro e w' ⟨rfl, hM, hw⟩
              refine ⟨_, rfl, ⟨upd β σ.n (β o), fun a => C a ∨ a = σ.n, Z, ownM own o σ.n, hM, fun a ha => ?_, Nat.le_succ _, ?_⟩, hw⟩
              · rcases ha with ha | rfl
                · exact .inl ha
                · exact .inr ⟨Nat.le_refl _, Nat.lt_succ_self _⟩
              · refine .ref _ _ _ _ _ _ (.inr rfl) ?_
                simp only [upd_same]
                refine ⟨fun a ha => ?_, fun _ => rfl, fun q hq => ?_⟩
                · simp only [VO.age, rowsE_len, Option.some.injEq] at ha; omega
                · simp only [VO.rows, rowsE_len, if_true, Option.some.injEq] at hq
                  subst hq
                  simp only [VO.val, VO.all, rowsE_len]
                  exact .nil _ _
        · cases H
      · cases H
    · cases H
  · cases H
end
end Go.Proofs.YtmfifjbbjjdacaaGreat.V

namespace Go.Proofs.YtmfifjbbjjdacaaGreat.V
open Go Go.Proofs
set_option linter.unusedVariables false
abbrev Row := List Int
/-- In order. -/
abbrev Ord (l : List Row) : Prop := l.Pairwise fun a b => ¬ cmpI b a < 0
/-- In strictly ascending order. -/
abbrev Asc (l : List Row) : Prop := l.Pairwise fun a b => cmpI a b < 0
/-- Equal neighbours once. -/
def uniq : List Row → List Row
  | a :: b :: l => if a = b then uniq (b :: l) else a :: uniq (b :: l)
  | l => l
def srtU (l : List Row) : List Row := uniq (srt cmpI l)
theorem cmp_asym {a b : Row} (h : cmpI a b < 0) : ¬ cmpI b a < 0 := fun h2 => by
  have := cmp_trans a b a h h2
  rw [cmp_self] at this; omega
theorem mem_uniq : ∀ (l : List Row) (x : Row), x ∈ uniq l ↔ x ∈ l
  | [], _ => Iff.rfl
  | [_], _ => Iff.rfl
  | a :: b :: l, x => by
    unfold uniq
    split
    · rename_i e; subst e; rw [mem_uniq (a :: l) x]; simp
    · rw [List.mem_cons, mem_uniq (b :: l) x, ← List.mem_cons]
theorem asc_uniq : ∀ {l : List Row}, Ord l → Asc (uniq l)
  | [], _ => List.Pairwise.nil
  | [_], _ => by simp [uniq]
  | a :: b :: l, h => by
    unfold uniq
    split
    · exact asc_uniq (List.pairwise_cons.1 h).2
    · rename_i hne
      refine List.pairwise_cons.2 ⟨fun x hx => ?_, asc_uniq (List.pairwise_cons.1 h).2⟩
      have hx := (mem_uniq _ _).1 hx
      have h1 := (List.pairwise_cons.1 h).1
      have hab : cmpI a b < 0 := cmp_flip b a (h1 b (by simp)) fun e => hne e.symm
      rcases List.mem_cons.1 hx with rfl | hx2
      · exact hab
      · have h2 := (List.pairwise_cons.1 (List.pairwise_cons.1 h).2).1 x hx2
        by_cases e : b = x
        · subst e; exact hab
        · exact cmp_trans a b x hab (cmp_flip x b h2 fun h => e h.symm)
theorem asc_ord {l : List Row} (h : Asc l) : Ord l := h.imp fun h => cmp_asym h
theorem asc_nodup {l : List Row} (h : Asc l) : l.Nodup := h.imp fun {a b} h e => by subst e; rw [cmp_self] at h; omega
theorem srt_of {l m : List Row} (h : Ord l) (hp : l.Perm m) : l = srt cmpI m := srt_eq swoL (fun a b _ _ h1 h2 => antiL a b h1 h2) hp h
theorem asc_ext {l m : List Row} (h1 : Asc l) (h2 : Asc m) (h : ∀ x, x ∈ l ↔ x ∈ m) : l = m := by
  rw [srt_of (asc_ord h1) ((List.perm_ext_iff_of_nodup (asc_nodup h1) (asc_nodup h2)).2 h)]
  exact (srt_of (asc_ord h2) (List.Perm.refl _)).symm
theorem asc_srtU (l : List Row) : Asc (srtU l) := asc_uniq (srt_sorted swoL)
theorem mem_srtU {l : List Row} {x : Row} : x ∈ srtU l ↔ x ∈ l := by rw [srtU, mem_uniq]; exact srt_perm.mem_iff
theorem srtU_of {l m : List Row} (h1 : Asc l) (h : ∀ x, x ∈ l ↔ x ∈ m) : l = srtU m := asc_ext h1 (asc_srtU m) fun x => (h x).trans mem_srtU.symm
theorem srtU_ext {l m : List Row} (h : ∀ x, x ∈ l ↔ x ∈ m) : srtU l = srtU m := srtU_of (asc_srtU l) fun x => mem_srtU.trans (h x)
/-- A row put at its place. -/
theorem ord_ins {out : List Row} {x : Row} {k : Nat} (h : Ord out) (hk : k ≤ out.length) (h1 : ∀ j (hj : j < out.length), j < k → ¬ cmpI x out[j] < 0) (h2 : ∀ j (hj : j < out.length), k ≤ j → cmpI x out[j] < 0) : Ord (out.take k ++ [x] ++ out.drop k) := by
  rw [List.append_assoc, List.singleton_append]
  refine List.pairwise_append.2 ⟨h.sublist (List.take_sublist _ _), ?_, fun a ha b hb => ?_⟩
  · refine List.pairwise_cons.2 ⟨fun b hb => ?_, h.sublist (List.drop_sublist _ _)⟩
    obtain ⟨j, hj, rfl⟩ := List.mem_iff_getElem.1 hb
    rw [List.getElem_drop]
    exact cmp_asym (h2 _ (by simp at hj; omega) (by omega))
  · obtain ⟨j, hj, rfl⟩ := List.mem_iff_getElem.1 ha
    have hj' : j < k ∧ j < out.length := by simp at hj; omega
    rw [List.getElem_take]
    rcases List.mem_cons.1 hb with rfl | hb
    · exact h1 _ hj'.2 hj'.1
    · obtain ⟨i, hi, rfl⟩ := List.mem_iff_getElem.1 hb
      rw [List.getElem_drop]
      exact List.pairwise_iff_getElem.1 h j (k + i) hj'.2 (by simp at hi; omega) (by omega)
theorem asc_ins {out : List Row} {x : Row} {k : Nat} (h : Asc out) (hk : k ≤ out.length) (h1 : ∀ j (hj : j < out.length), j < k → cmpI out[j] x < 0) (h2 : ∀ j (hj : j < out.length), k ≤ j → cmpI x out[j] < 0) : Asc (out.take k ++ [x] ++ out.drop k) := by
  rw [List.append_assoc, List.singleton_append]
  refine List.pairwise_append.2 ⟨h.sublist (List.take_sublist _ _), ?_, fun a ha b hb => ?_⟩
  · refine List.pairwise_cons.2 ⟨fun b hb => ?_, h.sublist (List.drop_sublist _ _)⟩
    obtain ⟨j, hj, rfl⟩ := List.mem_iff_getElem.1 hb
    rw [List.getElem_drop]
    exact h2 _ (by simp at hj; omega) (by omega)
  · obtain ⟨j, hj, rfl⟩ := List.mem_iff_getElem.1 ha
    have hj' : j < k ∧ j < out.length := by simp at hj; omega
    rw [List.getElem_take]
    rcases List.mem_cons.1 hb with rfl | hb
    · exact h1 _ hj'.2 hj'.1
    · obtain ⟨i, hi, rfl⟩ := List.mem_iff_getElem.1 hb
      rw [List.getElem_drop]
      exact List.pairwise_iff_getElem.1 h j (k + i) hj'.2 (by simp at hi; omega) (by omega)
theorem ins_perm {α : Type} (out : List α) (x : α) (k : Nat) : (out.take k ++ [x] ++ out.drop k).Perm (out ++ [x]) := by
  have h1 : (out.take k ++ [x] ++ out.drop k).Perm (out.take k ++ (out.drop k ++ [x])) := by
    rw [List.append_assoc]; exact (List.perm_append_comm).append_left _
  rwa [← List.append_assoc, List.take_append_drop] at h1
end Go.Proofs.YtmfifjbbjjdacaaGreat.V

namespace Go.Proofs.YtmfifjbbjjdacaaGreat.V
open Go Go.Proofs
set_option linter.unusedVariables false
/-- What each variable is bound to. -/
abbrev Bnd := List (Option Int)
def getB (b : Bnd) (t : Int) : Option Int := (b[t.toNat]?).join
def valB (b : Bnd) (t : Int) : Int := if t < 0 then -1 - t else (getB b t).getD 0
def mtch : List Int → List Int → Bnd → Option Bnd
  | t :: ts, v :: vs, b => if t < 0 then (if -1 - t = v then mtch ts vs b else none) else
    match getB b t with
    | none => mtch ts vs (b.set t.toNat (some v))
    | some x => if x = v then mtch ts vs b else none
  | _, _, b => some b
def mtchA (a f : RA) (b : Bnd) : Option Bnd := if a.rel = f.rel ∧ a.args.length = f.args.length then mtch a.args f.args b else none
def binds (db : List RA) : List RA → Bnd → List Bnd
  | [], b => [b]
  | a :: body, b => db.flatMap fun f => match mtchA a f b with
    | some b' => binds db body b'
    | none => []
/-- b' binds what b binds, to the same. -/
def Ext (b b' : Bnd) : Prop := b.length = b'.length ∧ ∀ (t : Int) (v : Int), getB b t = some v → getB b' t = some v
theorem Ext.refl (b : Bnd) : Ext b b := ⟨rfl, fun _ _ h => h⟩
theorem Ext.trans {a b c : Bnd} (h : Ext a b) (k : Ext b c) : Ext a c := ⟨h.1.trans k.1, fun t v hv => k.2 t v (h.2 t v hv)⟩
theorem getB_set {b : Bnd} {t u : Int} {v : Int} (h0 : 0 ≤ t) (ht : t.toNat < b.length) (hu : 0 ≤ u) : getB (b.set t.toNat (some v)) u = if u = t then some v else getB b u := by
  unfold getB
  rw [List.getElem?_set]
  by_cases e : u = t
  · subst e; simp [ht]
  · rw [if_neg (by omega), if_neg e]
/-- The arguments are constants, or variables that the binding has a place for. -/
def TermsIn (n : Nat) (l : List Int) : Prop := ∀ t ∈ l, t < n
theorem ext_set {b : Bnd} {t v : Int} (h0 : 0 ≤ t) (ht : t.toNat < b.length) (hn : getB b t = none) : Ext b (b.set t.toNat (some v)) := by
  refine ⟨by simp, fun u x hu => ?_⟩
  rcases Int.lt_or_le u 0 with h | h
  · have : u.toNat = 0 := by omega
    unfold getB at hu ⊢
    rw [this] at hu ⊢
    rw [List.getElem?_set]
    split
    · rename_i e
      unfold getB at hn
      rw [e] at hn
      rw [hn] at hu; cases hu
    · exact hu
  · rw [getB_set h0 ht h]
    split
    · rename_i e; subst e; rw [hn] at hu; cases hu
    · exact hu
theorem mtch_ext : ∀ (ts vs : List Int) {b b' : Bnd}, TermsIn b.length ts → ts.length = vs.length → mtch ts vs b = some b' → Ext b b' ∧ ts.map (valB b') = vs ∧ (∀ t ∈ ts, 0 ≤ t → ∃ v, getB b' t = some v)
  | [], [], b, b', _, _, h => by cases h; exact ⟨.refl _, rfl, fun t ht => by simp at ht⟩
  | [], _ :: _, b, b', _, hl, _ => by simp at hl
  | _ :: _, [], b, b', _, hl, _ => by simp at hl
  | t :: ts, v :: vs, b, b', hT, hl, h => by
    have hts : TermsIn b.length ts := fun u hu => hT u (List.mem_cons_of_mem _ hu)
    have htb := hT t (by simp)
    simp only [List.length_cons, Nat.add_right_cancel_iff] at hl
    unfold mtch at h
    split at h
    · rename_i h0
      split at h
      · rename_i h1
        obtain ⟨h2, h3, h4⟩ := mtch_ext ts vs hts hl h
        refine ⟨h2, ?_, fun u hu hu0 => ?_⟩
        · rw [List.map_cons, h3]; simp [valB, h0, h1]
        · rcases List.mem_cons.1 hu with rfl | hu
          · omega
          · exact h4 u hu hu0
      · cases h
    · rename_i h0
      have h0' : 0 ≤ t := by omega
      split at h
      · rename_i hg
        have hx := ext_set (v := v) h0' (by omega) hg
        obtain ⟨h2, h3, h4⟩ := mtch_ext ts vs (b := b.set t.toNat (some v)) (by rw [← hx.1]; exact hts) hl h
        have ht : getB b' t = some v := h2.2 t v (by rw [getB_set h0' (by omega) h0', if_pos rfl])
        refine ⟨hx.trans h2, ?_, fun u hu hu0 => ?_⟩
        · rw [List.map_cons, h3]; simp [valB, h0, ht]
        · rcases List.mem_cons.1 hu with rfl | hu
          · exact ⟨v, ht⟩
          · exact h4 u hu hu0
      · rename_i x hg
        split at h
        · rename_i hxv
          subst hxv
          obtain ⟨h2, h3, h4⟩ := mtch_ext ts vs hts hl h
          have ht := h2.2 t _ hg
          refine ⟨h2, ?_, fun u hu hu0 => ?_⟩
          · rw [List.map_cons, h3]; simp [valB, h0, ht]
          · rcases List.mem_cons.1 hu with rfl | hu
            · exact ⟨x, ht⟩
            · exact h4 u hu hu0
        · cases h
/-- What the values of a binding are, -1 where there is none. -/
def encB (b : Bnd) : Row := b.map fun o => o.getD (-1)
theorem mem_binds_cons {db : List RA} {a : RA} {body : List RA} {b c : Bnd} : c ∈ binds db (a :: body) b ↔ ∃ f ∈ db, ∃ b', mtchA a f b = some b' ∧ c ∈ binds db body b' := by
  simp only [binds, List.mem_flatMap]
  constructor
  · rintro ⟨f, hf, h⟩
    cases hm : mtchA a f b with
    | none => rw [hm] at h; simp at h
    | some b' => rw [hm] at h; exact ⟨f, hf, b', hm, h⟩
  · rintro ⟨f, hf, b', hm, h⟩
    exact ⟨f, hf, by rw [hm]; exact h⟩
/-- All atoms became facts, and all variables are bound. -/
theorem binds_spec {db : List RA} : ∀ (body : List RA) {b c : Bnd}, (∀ a ∈ body, TermsIn b.length a.args) → c ∈ binds db body b →
    Ext b c ∧ ∀ a ∈ body, (∃ f ∈ db, f.rel = a.rel ∧ f.args = a.args.map (valB c)) ∧ ∀ t ∈ a.args, 0 ≤ t → ∃ v, getB c t = some v
  | [], b, c, _, h => by
    simp [binds] at h; subst h; exact ⟨.refl _, fun a ha => by simp at ha⟩
  | a :: body, b, c, hT, h => by
    obtain ⟨f, hf, b', hm, hc⟩ := mem_binds_cons.1 h
    unfold mtchA at hm
    split at hm
    · rename_i hcond
      obtain ⟨h1, h2, h3⟩ := mtch_ext a.args f.args (hT a (by simp)) hcond.2 hm
      obtain ⟨h4, h5⟩ := binds_spec body (b := b') (fun x hx => by rw [← h1.1]; exact hT x (List.mem_cons_of_mem _ hx)) hc
      refine ⟨h1.trans h4, fun x hx => ?_⟩
      rcases List.mem_cons.1 hx with rfl | hx
      · refine ⟨⟨f, hf, hcond.1.symm, ?_⟩, fun t ht h0 => ?_⟩
        · rw [← h2]
          apply List.map_congr_left
          intro t ht
          unfold valB
          split
          · rfl
          · rename_i h0
            obtain ⟨v, hv⟩ := h3 t ht (by omega)
            rw [hv, h4.2 t v hv]
        · obtain ⟨v, hv⟩ := h3 t ht h0
          exact ⟨v, h4.2 t v hv⟩
      · exact h5 x hx
    · cases hm
theorem binds_len {db : List RA} {body : List RA} {b c : Bnd} (hT : ∀ a ∈ body, TermsIn b.length a.args) (h : c ∈ binds db body b) : c.length = b.length := (binds_spec body hT h).1.1.symm
def b0 : Bnd := List.replicate 20 none
theorem b0_len : b0.length = 20 := rfl
end Go.Proofs.YtmfifjbbjjdacaaGreat.V

namespace Go.Proofs.YtmfifjbbjjdacaaGreat.V
open Go Go.Proofs
set_option linter.unusedVariables false
structure Sch where
  arity : List Int
  deriving DecidableEq
instance : Enc Sch := ⟨fun a => [.sl (rowsE a.arity)], 1, false, fun _ => rfl, fun h => by cases h⟩
@[simp] theorem cells_Sch (a : Sch) : Enc.cells a = [.sl (rowsE a.arity)] := rfl
@[simp] theorem n_Sch : Enc.n Sch = 1 := rfl
def inR (x lo hi : Int) : Bool := decide (lo ≤ x ∧ x ≤ hi)
def isVar (t : Int) : Bool := inR t 0 19
def isTerm (t : Int) : Bool := inR t (-80) 19
def constOf (t : Int) : Int := if isTerm t && !isVar t then -1 - t else -1
def isSch (s : Sch) : Bool := s.arity.all (fun n => inR n 1 3) && inR s.arity.length 1 4
def takes (s : Sch) (rel n : Int) : Bool := isSch s && inR rel 0 (s.arity.length - 1) && decide (s.arity[rel.toNat]?.getD 0 = n)
def isAtom (s : Sch) (a : RA) : Bool := takes s a.rel a.args.length && a.args.all isTerm
def occurs (q : Qry) (t : Int) : Bool := q.body.any fun a => decide (t ∈ a.args)
def isSafe (q : Qry) : Bool := q.head.all fun t => !isVar t || occurs q t
def isQry (s : Sch) (q : Qry) : Bool := isSch s && decide (q.head.length ≤ 3) && q.head.all isTerm && inR q.body.length 1 4 && q.body.all (isAtom s) && isSafe q
def isFact (s : Sch) (f : RA) : Bool := takes s f.rel f.args.length && f.args.all (fun x => inR x 0 99)
def ascF : List RA → Bool
  | a :: b :: l => decide (cmpF a b < 0) && ascF (b :: l)
  | _ => true
def isDb (s : Sch) (db : List RA) : Bool := db.all (isFact s) && ascF db && isSch s && decide (db.length ≤ 24)
theorem isVar_iff {t : Int} : isVar t = true ↔ 0 ≤ t ∧ t ≤ 19 := by simp [isVar, inR]
theorem isTerm_iff {t : Int} : isTerm t = true ↔ -80 ≤ t ∧ t ≤ 19 := by simp [isTerm, inR]
theorem ascF_pair : ∀ {l : List RA}, ascF l = true → l.Pairwise fun a b => cmpF a b < 0
  | [], _ => List.Pairwise.nil
  | [_], _ => by simp
  | a :: b :: l, h => by
    simp only [ascF, Bool.and_eq_true, decide_eq_true_eq] at h
    have ih := ascF_pair h.2
    refine List.pairwise_cons.2 ⟨fun x hx => ?_, ih⟩
    rcases List.mem_cons.1 hx with rfl | hx
    · exact h.1
    · have h2 := (List.pairwise_cons.1 ih).1 x hx
      have := swoF.trans a b x (by rw [lt_dec, decide_eq_true_eq]; exact h.1) (by rw [lt_dec, decide_eq_true_eq]; exact h2)
      rwa [lt_dec, decide_eq_true_eq] at this
theorem takes_len {s : Sch} {rel : Int} {n : Nat} (h : takes s rel n = true) : n ≤ 3 := by
  simp only [takes, Bool.and_eq_true, decide_eq_true_eq, isSch, inR, List.all_eq_true] at h
  obtain ⟨⟨⟨h1, h2⟩, h3⟩, h4⟩ := h
  have : rel.toNat < s.arity.length := by omega
  rw [List.getElem?_eq_getElem this] at h4
  have := h1 _ (List.getElem_mem this)
  simp at h4
  omega
theorem isQry_small {s : Sch} {q : Qry} (h : isQry s q = true) : q.head.length ≤ 3 ∧ q.body.length ≤ 4 ∧ (∀ t ∈ q.head, -80 ≤ t ∧ t ≤ 19) ∧ ∀ a ∈ q.body, a.args.length ≤ 3 ∧ ∀ t ∈ a.args, -80 ≤ t ∧ t ≤ 19 := by
  simp only [isQry, Bool.and_eq_true, decide_eq_true_eq, List.all_eq_true, isTerm_iff, inR, isAtom] at h
  obtain ⟨⟨⟨⟨⟨h1, h2⟩, h3⟩, h4⟩, h5⟩, h6⟩ := h
  exact ⟨h2, by omega, h3, fun a ha => ⟨takes_len (h5 a ha).1, (h5 a ha).2⟩⟩
theorem isQry_bound {s : Sch} {q : Qry} (h : isQry s q = true) {t : Int} (ht : t ∈ q.head) (h0 : 0 ≤ t) : ∃ a ∈ q.body, t ∈ a.args := by
  have hs := isQry_small h
  simp only [isQry, Bool.and_eq_true, isSafe, List.all_eq_true] at h
  have := h.2 t ht
  have hv : isVar t = true := isVar_iff.2 ⟨h0, (hs.2.2.1 t ht).2⟩
  rw [hv] at this
  simpa [occurs] using this
end Go.Proofs.YtmfifjbbjjdacaaGreat.V

namespace Go.Proofs.YtmfifjbbjjdacaaGreat.V
open Go Go.Proofs
/-- The functions whose work is given: sorts. -/
def srtFs : List Nat := [
  199,
  266,
  333,
  328,
  900000]
/-- The functions that work over the caller's store. -/
def Ms : Nat → Bool := fun f => srtFs.contains f || [182, 313, 185, 278, 329, 352, 353, 183, 931929, 66, 67, 68, 69, 70, 88, 89, 110, 111, 112, 281, 211, 194, 980750, 931884, 912810, 973132, 976810, 989185, 931201, 981815, 922309].contains f
/-- Lengths that the machine can tell. -/
abbrev Sm {α : Type} (l : List α) : Prop := l.length < 1099511627775
/-- A counted row before another one. -/
def cmpC (a b : Cnt) : Int := cmpI a.tuple b.tuple
noncomputable def srtL : List (Nat × (List AV → Sto → Option (AV × Sto))) := [
  (199, sortG Cnt cmpC (fun c => Sm c.tuple) 200),
  (266, sortG (List Int) cmpI (fun c => Sm c) 201),
  (333, sortG RA cmpF (fun c => Sm c.args) 263),
  (328, compG (List Int) (fun a b => decide (a = b)) (fun c => Sm c) 137),
  (900000, fun _ _ => none)]
def lookG : List (Nat × (List AV → Sto → Option (AV × Sto))) → Nat → Option (List AV → Sto → Option (AV × Sto))
  | [], _ => none
  | q :: l, f => if f = q.1 then some q.2 else lookG l f
noncomputable def Gs : Giv := lookG srtL
theorem lookG_no : ∀ {l : List (Nat × (List AV → Sto → Option (AV × Sto)))} {f : Nat}, (l.map (·.1)).contains f = false → lookG l f = none
  | [], _, _ => rfl
  | q :: l, f, h => by
    simp only [List.map_cons, List.contains_cons, Bool.or_eq_false_iff, beq_eq_false_iff_ne] at h
    rw [lookG, if_neg h.1, lookG_no h.2]
theorem lookG_mem : ∀ {l : List (Nat × (List AV → Sto → Option (AV × Sto)))} {f : Nat} {g : List AV → Sto → Option (AV × Sto)}, lookG l f = some g → (f, g) ∈ l
  | [], _, _, h => by cases h
  | q :: l, f, g, h => by
    rw [lookG] at h
    split at h
    · rename_i e; cases h; subst e; exact List.mem_cons_self
    · exact List.mem_cons_of_mem _ (lookG_mem h)
/-- Nothing else is given. -/
class NoG (G : Giv) : Prop where
  no : ∀ f, srtFs.contains f = false → G f = none
instance : NoG (fun _ => none) := ⟨fun _ _ => rfl⟩
theorem srt_names : srtL.map (·.1) = srtFs := rfl
instance : NoG Gs := ⟨fun f h => lookG_no (by rw [srt_names]; exact h)⟩
noncomputable abbrev XX : Ora := Rv Tryz.prog Ms Gs
theorem cvg {G : Giv} {f : Nat} {as_ : List AV} {x : XV} (H : Ret (Rv Tryz.prog Ms G) f as_ x) (hM : Ms f = false := by rfl) (σ : Sto) (args : List AV) (ha : args.mapM (reify σ) = some as_) :
    callV Ms (Rv Tryz.prog Ms G) σ f args = if x.sh then (freezeL σ (args.flatMap ids)).map fun σf => place σf x else some (place σ x) := callV_ret H hM ha
theorem cv {f : Nat} {as_ : List AV} {x : XV} (H : Ret XX f as_ x) (hM : Ms f = false := by rfl) (σ : Sto) (args : List AV) (ha : args.mapM (reify σ) = some as_) :
    callV Ms XX σ f args = if x.sh then (freezeL σ (args.flatMap ids)).map fun σf => place σf x else some (place σ x) := callV_ret H hM ha
/-- Names that lie apart. -/
class Apart (p : Prop) (q : outParam Prop) where
  of : p → q
instance {m n : Nat} : Apart (m ≤ n) ((∀ i, i < m → (i = n) = False) ∧ (∀ i, i < m → (n = i) = False) ∧ (∀ i j, i < m → (i = n + j) = False) ∧ ∀ i j, i < m → (n + j = i) = False) := ⟨fun h => ⟨fun i hi => eq_false (by omega), fun i hi => eq_false (by omega), fun i j hi => eq_false (by omega), fun i j hi => eq_false (by omega)⟩⟩
instance {m n : Nat} : Apart (m < n) ((m = n) = False ∧ (n = m) = False ∧ (∀ j, (m = n + j) = False) ∧ ∀ j, (n + j = m) = False) := ⟨fun h => ⟨eq_false (by omega), eq_false (by omega), fun j => eq_false (by omega), fun j => eq_false (by omega)⟩⟩
theorem apart {p q : Prop} [Apart p q] (h : p) : q := Apart.of h
end Go.Proofs.YtmfifjbbjjdacaaGreat.V

namespace Go.Proofs.YtmfifjbbjjdacaaGreat.V
open Go Go.Proofs
set_option linter.unusedVariables false
set_option linter.unusedSimpArgs false
section
variable {G : Giv} [NoG G]
theorem isNaN_r (a : Int) : Ret (Rv Tryz.prog Ms G) 326 [In a] (.t (.b false) false) := by
  refine ret_W (NoG.no _ rfl) Tryz.func326 rfl rfl (by simp [Tryz.f326]) ?_
  simp only [Tryz.f326]
  repeat' first|refine W_seq ?_|refine W_block ?_|refine W_skip ?_|refine W_ret ?_|refine W_exit ?_|refine xb_hit ?_|refine xb_miss (by decide) ?_|(apply W_reg;(simp;exact .r _))
  simp
theorem cmpInt_r (a b : Int) : Ret (Rv Tryz.prog Ms G) 275 [In a, In b] (.t (.i .i64 (if a < b then -1 else if b < a then 1 else 0)) false) := by
  refine ret_W (NoG.no _ rfl) Tryz.func275 rfl rfl (by simp [Tryz.f275]) ?_
  simp only [Tryz.f275]
  have h1 := cvg (isNaN_r (G := G) a)
  have h2 := cvg (isNaN_r (G := G) b)
  repeat' first|refine W_seq ?_|refine W_block ?_|refine W_skip ?_|refine W_ret ?_|refine W_exit ?_|refine xb_hit ?_|refine xb_miss (by decide) ?_|(apply W_reg;(simp [h1, h2];exact .r _))
  refine W_cond (by simp [h1, h2]; exact .r _) (fun hc => ?_) (fun hc => ?_)
  · cases hc
  repeat' first|refine W_seq ?_|refine W_block ?_|refine W_skip ?_|refine W_ret ?_|refine W_exit ?_|refine xb_hit ?_|refine xb_miss (by decide) ?_|(apply W_reg;(simp [h1, h2];exact .r _))
  refine W_cond (by simp [h1, h2]; exact .r _) (fun hc => ?_) (fun hc => ?_)
  · cases hc
  repeat' first|refine W_seq ?_|refine W_block ?_|refine W_skip ?_|refine W_ret ?_|refine W_exit ?_|refine xb_hit ?_|refine xb_miss (by decide) ?_|(apply W_reg;(simp [h1, h2];exact .r _))
  refine W_cond (by simp [h1, h2]; exact .r _) (fun hc => ?_) (fun hc => ?_)
  · repeat' first|refine W_seq ?_|refine W_block ?_|refine W_skip ?_|refine W_ret ?_|refine W_exit ?_|refine xb_hit ?_|refine xb_miss (by decide) ?_|(apply W_reg;(simp [h1, h2];exact .r _))
    have : a < b := by simpa using hc
    simp [this]
  repeat' first|refine W_seq ?_|refine W_block ?_|refine W_skip ?_|refine W_ret ?_|refine W_exit ?_|refine xb_hit ?_|refine xb_miss (by decide) ?_|(apply W_reg;(simp [h1, h2];exact .r _))
  have hab : ¬ a < b := by simpa using hc
  refine W_cond (by simp [h1, h2]; exact .r _) (fun hd => ?_) (fun hd => ?_)
  · repeat' first|refine W_seq ?_|refine W_block ?_|refine W_skip ?_|refine W_ret ?_|refine W_exit ?_|refine xb_hit ?_|refine xb_miss (by decide) ?_|(apply W_reg;(simp [h1, h2];exact .r _))
    have : b < a := by simpa using hd
    simp [this, hab]
  · repeat' first|refine W_seq ?_|refine W_block ?_|refine W_skip ?_|refine W_ret ?_|refine W_exit ?_|refine xb_hit ?_|refine xb_miss (by decide) ?_|(apply W_reg;(simp [h1, h2];exact .r _))
    have : ¬ b < a := by simpa using hd
    simp [this, hab]
theorem cmpI_step {a b : List Int} {i : Nat} (ha : i < a.length) (hb : i < b.length) : cmpI (a.drop i) (b.drop i) = if a[i] < b[i] then -1 else if b[i] < a[i] then 1 else cmpI (a.drop (i + 1)) (b.drop (i + 1)) := by
  rw [List.drop_eq_getElem_cons ha, List.drop_eq_getElem_cons hb]; rfl
theorem cmpRow_r (a b : List Int) (ha : Sm a) : Ret (Rv Tryz.prog Ms G) 201 [Ar a, Ar b] (.t (.i .i64 (cmpI a b)) false) := by
  refine ret_W (NoG.no _ rfl) Tryz.func201 rfl rfl (by simp [Tryz.f201]) ?_
  simp only [Tryz.f201]
  repeat' first|refine W_seq ?_|refine W_block ?_|refine W_skip ?_|refine W_ret ?_|refine W_exit ?_|refine xb_hit ?_|refine xb_miss (by decide) ?_|(apply W_reg;(simp;exact .r _))
  refine W_loop (n := a.length) (fun n s => ∃ i : Nat, n = a.length - i ∧ s.nt = 36 ∧ s.tm 0 = Ar a ∧ s.tm 1 = Ar b ∧ s.tm 9 = Ar a ∧ s.tm 10 = In a.length ∧ s.tm 11 = In i ∧ i ≤ a.length ∧ i ≤ b.length ∧ cmpI a b = cmpI (a.drop i) (b.drop i)) ⟨0, by simp⟩ ?_
  rintro n ⟨nt, tm, σ⟩ ⟨i, rfl, hnt, h0, h1, h9, h10, h11, hi, hib, heq⟩
  simp only at hnt h0 h1 h9 h10 h11
  subst hnt
  repeat' first|refine W_seq ?_|refine W_block ?_|refine W_skip ?_|refine W_ret ?_|refine W_exit ?_|refine xb_hit ?_|refine xb_miss (by decide) ?_|(apply W_reg;(simp [h0, h1, h9, h10, h11];exact .r _))
  refine W_cond (by simp [h0, h1, h9, h10, h11]; exact .r _) (fun hc => ?_) (fun hc => ?_)
  · have hia : i < a.length := by simpa using hc
    repeat' first|refine W_seq ?_|refine W_block ?_|refine W_skip ?_|refine W_ret ?_|refine W_exit ?_|refine xb_hit ?_|refine xb_miss (by decide) ?_|(apply W_reg;(simp [h0, h1, h9, h10, h11, hia];exact .r _))
    refine W_cond (by simp [h0, h1, h9, h10, h11]; exact .r _) (fun hd => ?_) (fun hd => ?_)
    · have : i = b.length := by simp at hd; omega
      subst this
      repeat' first|refine W_seq ?_|refine W_block ?_|refine W_skip ?_|refine W_ret ?_|refine W_exit ?_|refine xb_hit ?_|refine xb_miss (by decide) ?_|(apply W_reg;(simp [h0, h1, h9, h10, h11];exact .r _))
      rw [heq, List.drop_eq_getElem_cons hia, List.drop_length]
      simp [cmpI]
    have hib' : i < b.length := by simp at hd; omega
    have hcc := cvg (cmpInt_r (G := G) a[i] b[i])
    repeat' first|refine W_seq ?_|refine W_block ?_|refine W_skip ?_|refine W_ret ?_|refine W_exit ?_|refine xb_hit ?_|refine xb_miss (by decide) ?_|(apply W_reg;(simp [h0, h1, h9, h10, h11, hib', hcc];exact .r _))
    rw [cmpI_step hia hib'] at heq
    refine W_cond (by simp [h0, h1, h9, h10, h11]; exact .r _) (fun he => ?_) (fun he => ?_)
    · repeat' first|refine W_seq ?_|refine W_block ?_|refine W_skip ?_|refine W_ret ?_|refine W_exit ?_|refine xb_hit ?_|refine xb_miss (by decide) ?_|(apply W_reg;(simp [h0, h1, h9, h10, h11];exact .r _))
      have : cmpI a b = if a[i] < b[i] then -1 else if b[i] < a[i] then 1 else 0 := by
        rw [heq]
        by_cases h : a[i] < b[i]
        · simp [h]
        · by_cases h2 : b[i] < a[i]
          · simp [h2]
          · simp [h, h2] at he
      simp [this]
    · have hab : ¬ a[i] < b[i] := fun h => by simp [h] at he
      have hba : ¬ b[i] < a[i] := fun h => by simp [hab, h] at he
      repeat' first|refine W_seq ?_|refine W_block ?_|refine W_skip ?_|refine W_ret ?_|refine W_exit ?_|refine xb_hit ?_|refine xb_miss (by decide) ?_|(apply W_reg;(simp [h0, h1, h9, h10, h11];exact .r _))
      refine ⟨_, ?_, i + 1, rfl, rfl, ?_, ?_, ?_, ?_, ?_, by omega, by omega, by rw [heq, if_neg hab, if_neg hba]⟩
      all_goals first|assumption|(simp [h0, h1, h9, h10, h11];done)|(simp [h0, h1, h9, h10, h11];omega)|(simp [h0, h1, h9, h10, h11];exact wrap_succ (by omega))|omega
  · have hil : i = a.length := by simp at hc; omega
    subst hil
    repeat' first|refine W_seq ?_|refine W_block ?_|refine W_skip ?_|refine W_ret ?_|refine W_exit ?_|refine xb_hit ?_|refine xb_miss (by decide) ?_|(apply W_reg;(simp [h0, h1, h9, h10, h11];exact .r _))
    rw [List.drop_length] at heq
    refine W_cond (by simp [h0, h1, h9, h10, h11]; exact .r _) (fun he => ?_) (fun he => ?_)
    · repeat' first|refine W_seq ?_|refine W_block ?_|refine W_skip ?_|refine W_ret ?_|refine W_exit ?_|refine xb_hit ?_|refine xb_miss (by decide) ?_|(apply W_reg;(simp [h0, h1, h9, h10, h11];exact .r _))
      have hlt : a.length < b.length := by simpa using he
      rw [heq, List.drop_eq_getElem_cons hlt]
      simp [cmpI]
    · repeat' first|refine W_seq ?_|refine W_block ?_|refine W_skip ?_|refine W_ret ?_|refine W_exit ?_|refine xb_hit ?_|refine xb_miss (by decide) ?_|(apply W_reg;(simp [h0, h1, h9, h10, h11];exact .r _))
      have hge : b.length ≤ a.length := by simpa using he
      rw [heq, List.drop_eq_nil_of_le hge]
      simp [cmpI]
theorem addC1_r (a b : Cnt) (ha : Sm a.tuple) : Ret (Rv Tryz.prog Ms G) 200 [Ag a, Ag b] (.t (.i .i64 (cmpC a b)) false) := by
  refine ret_W (NoG.no _ rfl) Tryz.func200 rfl rfl (by simp [Tryz.f200]) ?_
  simp only [Tryz.f200]
  have h1 := cvg (cmpRow_r (G := G) a.tuple b.tuple ha)
  repeat' first|refine W_seq ?_|refine W_block ?_|refine W_skip ?_|refine W_ret ?_|refine W_exit ?_|refine xb_hit ?_|refine xb_miss (by decide) ?_|(apply W_reg;(simp [Ag, h1];exact .r _))
  simp [cmpC]
theorem cmpF_r (a b : RA) (ha : Sm a.args) : Ret (Rv Tryz.prog Ms G) 263 [Ag a, Ag b] (.t (.i .i64 (cmpF a b)) false) := by
  refine ret_W (NoG.no _ rfl) Tryz.func263 rfl rfl (by simp [Tryz.f263]) ?_
  simp only [Tryz.f263]
  have h1 := cvg (cmpRow_r (G := G) a.args b.args ha)
  repeat' first|refine W_seq ?_|refine W_block ?_|refine W_skip ?_|refine W_ret ?_|refine W_exit ?_|refine xb_hit ?_|refine xb_miss (by decide) ?_|(apply W_reg;(simp [Ag, h1];exact .r _))
  refine W_cond (by simp; exact .r _) (fun hc => ?_) (fun hc => ?_)
  · have h : a.rel < b.rel := by simpa using hc
    repeat' first|refine W_seq ?_|refine W_block ?_|refine W_skip ?_|refine W_ret ?_|refine W_exit ?_|refine xb_hit ?_|refine xb_miss (by decide) ?_|(apply W_reg;(simp;exact .r _))
    simp [cmpF, h]
  have h : ¬ a.rel < b.rel := by simpa using hc
  repeat' first|refine W_seq ?_|refine W_block ?_|refine W_skip ?_|refine W_ret ?_|refine W_exit ?_|refine xb_hit ?_|refine xb_miss (by decide) ?_|(apply W_reg;(simp [Ag, h1];exact .r _))
  refine W_cond (by simp; exact .r _) (fun hd => ?_) (fun hd => ?_)
  · have h2 : b.rel < a.rel := by simpa using hd
    repeat' first|refine W_seq ?_|refine W_block ?_|refine W_skip ?_|refine W_ret ?_|refine W_exit ?_|refine xb_hit ?_|refine xb_miss (by decide) ?_|(apply W_reg;(simp;exact .r _))
    simp [cmpF, h, h2]
  have h2 : ¬ b.rel < a.rel := by simpa using hd
  repeat' first|refine W_seq ?_|refine W_block ?_|refine W_skip ?_|refine W_ret ?_|refine W_exit ?_|refine xb_hit ?_|refine xb_miss (by decide) ?_|(apply W_reg;(simp [Ag, h1];exact .r _))
  simp [cmpF, h, h2]
theorem eqInts_g (a b : List Int) (ha : Sm a) : Ret (Rv Tryz.prog Ms G) 137 [Ar a, Ar b] (.t (.b (decide (a = b))) false) := by
  refine ret_W (NoG.no _ rfl) Tryz.func137 rfl rfl (by simp [Tryz.f137]) ?_
  simp only [Tryz.f137]
  repeat' first | refine W_seq ?_ | (apply W_reg; (simp; exact .r _)) | refine W_block ?_ | refine W_ret ?_
  refine W_cond (by simp; exact .r _) (fun hc => ?_) (fun hc => ?_)
  · repeat' first | refine W_seq ?_ | (apply W_reg; (simp; exact .r _)) | refine W_ret ?_
    have : a ≠ b := fun e => by subst e; simp at hc
    simp [this]
  refine W_skip ?_
  have hl : a.length = b.length := by simp at hc; omega
  repeat' first | refine W_seq ?_ | (apply W_reg; (simp; exact .r _)) | refine W_block ?_ | refine W_ret ?_
  refine W_loop (n := a.length) (fun n s => ∃ i, n = a.length - i ∧ i ≤ a.length ∧ s.nt = 26 ∧ s.tm 0 = Ar a ∧ s.tm 1 = Ar b ∧ s.tm 12 = In a.length ∧ s.tm 13 = In i ∧ a.take i = b.take i) ⟨0, by simp⟩ ?_
  rintro n ⟨nt, tm, σ⟩ ⟨i, rfl, hi, h1, h0, h1', h12, h13, heq⟩
  simp only at h1 h0 h1' h12 h13
  subst h1
  repeat' first | refine W_seq ?_ | (apply W_reg; (simp [h12, h13]; exact .r _))
  refine W_cond (by simp; exact .r _) (fun hc => ?_) (fun hc => ?_)
  · refine W_skip ?_
    have hia : i < a.length := by simpa using hc
    have hib : i < b.length := by omega
    repeat' first | refine W_seq ?_ | refine W_block ?_ | (apply W_reg; (simp [h12, h13]; exact .r _))
    apply W_draw [0, 0, 3, 7, 0, 0, 48, 112, 255] rfl rfl
    · simp; exact .r _
    · simp [h0, h1', hia, hib]; exact .r _
    · trivial
    refine W_cond (by simp; exact .r _) (fun hd => ?_) (fun hd => ?_)
    · repeat' first | refine W_seq ?_ | (apply W_reg; (simp; exact .r _)) | refine W_ret ?_
      have : a ≠ b := fun e => by subst e; simp at hd
      simp [this]
    · have hd : a[i] = b[i] := by simpa using hd
      repeat' first | refine W_skip ?_ | refine W_seq ?_ | (apply W_reg; (simp [h13]; exact .r _))
      refine ⟨a.length - (i + 1), by omega, i + 1, rfl, by omega, rfl, by simp [h0], by simp [h1'], by simp [h12], by simp; exact wrap_succ (by omega), ?_⟩
      rw [List.take_succ_eq_append_getElem hia, List.take_succ_eq_append_getElem hib, heq, hd]
  · have hil : i = a.length := by simp at hc; omega
    subst hil
    refine W_exit (xb_hit ?_)
    repeat' first | refine W_seq ?_ | (apply W_reg; (simp; exact .r _)) | refine W_ret ?_
    rw [List.take_length, hl, List.take_length] at heq
    have : a = b := heq
    simp [this]
end
end Go.Proofs.YtmfifjbbjjdacaaGreat.V

namespace Go.Proofs.YtmfifjbbjjdacaaGreat.V
open Go Go.Proofs
set_option linter.unusedVariables false
set_option linter.unusedSimpArgs false
theorem copyInts_r (l : List Int) (hl : Sm l) : Ret XX 270 [Ar l] (.own 1 (rowsE l)) := by
  refine ret_W rfl Tryz.func270 rfl rfl (by simp [Tryz.f270]) ?_
  simp only [Tryz.f270]
  have h0 : l.length < 1099511627776 := by omega
  repeat' first | refine W_seq ?_ | (apply W_reg; (simp [h0]; exact .r _)) | refine W_ret ?_
  simp
theorem copyAtoms_r (l : List RA) (hl : Sm l) (ha : ∀ a ∈ l, Sm a.args) : Ret XX 308 [Ar l] (.own 2 (rowsE l)) := by
  refine ret_W rfl Tryz.func308 rfl rfl (by simp [Tryz.f308]) ?_
  simp only [Tryz.f308]
  repeat' first | refine W_seq ?_ | (apply W_reg; (simp; exact .r _)) | refine W_block ?_ | refine W_ret ?_
  refine W_loop (n := l.length) (fun n s => ∃ i, n = l.length - i ∧ i ≤ l.length ∧ s.nt = 24 ∧ s.tm 7 = Ar l ∧ s.tm 8 = In l.length ∧ s.tm 9 = In i ∧ ∃ o, s.tm 3 = .ref o i [] ∧ s.σ.ob o = .arr (.own 0) 0 2 (rowsE (l.take i)) ∧ o < s.σ.n) ⟨0, by simp⟩ ?_
  rintro n ⟨nt, tm, σ⟩ ⟨i, rfl, hi, h1, h7, h8, h9, o, h3, hob, hlt⟩
  simp only at h1 h7 h8 h9 h3 hob hlt
  subst h1
  repeat' first | refine W_seq ?_ | (apply W_reg; (simp [h7, h8, h9]; exact .r _)) 
  refine W_cond (by simp; exact .r _) (fun hc => ?_) (fun hc => ?_)
  · refine W_skip ?_
    have hil : i < l.length := by simpa using hc
    repeat' first | refine W_seq ?_ | refine W_block ?_ | (apply W_reg; (simp [h7, h8, h9, hil]; exact .r _))
    have hci := cv (copyInts_r l[i].args (ha _ (by simp)))
    have e0 : o ≠ σ.n := by omega
    have e1 : o ≠ σ.n + 1 := by omega
    have e2 : o ≠ σ.n + 2 := by omega
    have hb : i + 1 < 1099511627776 := by omega
    apply W_draw [0, 0, 2, 0, 8, 24, 62, 126, 255, 511] rfl rfl
    · simp; exact .r _
    · simp [h3, hci, e0, e1, e2, hob, Nat.min_eq_left hi, hb]; exact .r _
    · trivial
    repeat' first | refine W_seq ?_ | (apply W_reg; (simp [h9]; exact .r _))
    refine ⟨l.length - (i + 1), by omega, i + 1, rfl, by omega, rfl, by simp [h7], by simp [h8], by simp; exact wrap_succ (by omega), o, by simp, ?_, by simp; omega⟩
    rw [rowsE_take l i hil]; simp
  · have hil : i = l.length := by simp at hc; omega
    subst hil
    refine W_exit (xb_hit ?_)
    repeat' first | refine W_seq ?_ | (apply W_reg; (simp [h3]; exact .r _)) | refine W_ret ?_
    simp [hob]
end Go.Proofs.YtmfifjbbjjdacaaGreat.V

namespace Go.Proofs.YtmfifjbbjjdacaaGreat.V
open Go Go.Proofs
set_option linter.unusedVariables false
set_option linter.unusedSimpArgs false
theorem eqInts_r (a b : List Int) (ha : Sm a) : Ret XX 137 [Ar a, Ar b] (.t (.b (decide (a = b))) false) := eqInts_g a b ha
end Go.Proofs.YtmfifjbbjjdacaaGreat.V

namespace Go.Proofs.YtmfifjbbjjdacaaGreat.V
open Go Go.Proofs
set_option linter.unusedVariables false
set_option linter.unusedSimpArgs false
def fidx {α : Type} (p : α → Bool) : List α → Nat → Int
  | [], _ => -1
  | a :: l, k => if p a then k else fidx p l (k + 1)
end Go.Proofs.YtmfifjbbjjdacaaGreat.V

namespace Go.Proofs.YtmfifjbbjjdacaaGreat.Shl
open Go.Shelf Go.Proofs
def sortC_ren : Go.Shelf.Ren := ⟨fun | 6 => 199 | 15 => 274 | 14 => 273 | 28 => 324 | 29 => 325 | 20 => 316 | 21 => 317 | 22 => 318 | 23 => 319 | 24 => 320 | 25 => 321 | 26 => 322 | 27 => 323 | 46 => 364 | 47 => 365 | 48 => 366 | 49 => 367 | 50 => 368 | 57 => 384 | n => n, fun | 22 => 87 | 24 => 119 | 25 => 227 | 3 => 3 | 39 => 274 | 0 => 0 | 53 => 304 | 55 => 306 | 4 => 4 | 46 => 298 | 45 => 297 | 50 => 25 | 5 => 5 | 9 => 9 | 66 => 326 | 70 => 330 | 76 => 339 | 77 => 340 | n => n, fun | n => n⟩
theorem sortC : Go.Proofs.SlLaysF0.n6 Tryz.prog sortC_ren := {
  mixed := by kernel_rfl
  f6 := ⟨Tryz.f199.name, by decide, Tryz.func199.trans (congrArg some (by kernel_rfl))⟩
  f14 := ⟨Tryz.f273.name, by decide, Tryz.func273.trans (congrArg some (by kernel_rfl))⟩
  f15 := Tryz.func274.trans (congrArg some (by kernel_rfl))
  f20 := ⟨Tryz.f316.name, by decide, Tryz.func316.trans (congrArg some (by kernel_rfl))⟩
  f21 := ⟨Tryz.f317.name, by decide, Tryz.func317.trans (congrArg some (by kernel_rfl))⟩
  f22 := ⟨Tryz.f318.name, by decide, Tryz.func318.trans (congrArg some (by kernel_rfl))⟩
  f23 := ⟨Tryz.f319.name, by decide, Tryz.func319.trans (congrArg some (by kernel_rfl))⟩
  f24 := ⟨Tryz.f320.name, by decide, Tryz.func320.trans (congrArg some (by kernel_rfl))⟩
  f25 := ⟨Tryz.f321.name, by decide, Tryz.func321.trans (congrArg some (by kernel_rfl))⟩
  f26 := ⟨Tryz.f322.name, by decide, Tryz.func322.trans (congrArg some (by kernel_rfl))⟩
  f27 := ⟨Tryz.f323.name, by decide, Tryz.func323.trans (congrArg some (by kernel_rfl))⟩
  f28 := Tryz.func324.trans (congrArg some (by kernel_rfl))
  f29 := Tryz.func325.trans (congrArg some (by kernel_rfl))
  f46 := ⟨Tryz.f364.name, by decide, Tryz.func364.trans (congrArg some (by kernel_rfl))⟩
  f47 := Tryz.func365.trans (congrArg some (by kernel_rfl))
  f48 := Tryz.func366.trans (congrArg some (by kernel_rfl))
  f49 := ⟨Tryz.f367.name, by decide, Tryz.func367.trans (congrArg some (by kernel_rfl))⟩
  f50 := ⟨Tryz.f368.name, by decide, Tryz.func368.trans (congrArg some (by kernel_rfl))⟩
  f57 := ⟨Tryz.f384.name, by decide, Tryz.func384.trans (congrArg some (by kernel_rfl))⟩
  t0 := Tryz.underlying0
  a0 := Tryz.isAgg0
  z0 := Tryz.sizeOf0
  v0 := Tryz.zeroValue0
  t3 := Tryz.underlying3
  a3 := Tryz.isAgg3
  z3 := Tryz.sizeOf3
  v3 := Tryz.zeroValue3
  t4 := Tryz.underlying4
  a4 := Tryz.isAgg4
  z4 := Tryz.sizeOf4
  v4 := Tryz.zeroValue4
  t5 := Tryz.underlying5
  a5 := Tryz.isAgg5
  z5 := Tryz.sizeOf5
  v5 := Tryz.zeroValue5
  t9 := Tryz.underlying9
  a9 := Tryz.isAgg9
  z9 := Tryz.sizeOf9
  v9 := Tryz.zeroValue9
  t22 := Tryz.underlying87
  a22 := Tryz.isAgg87
  z22 := Tryz.sizeOf87
  v22 := Tryz.zeroValue87
  t25 := Tryz.underlying227
  a25 := Tryz.isAgg227
  z25 := Tryz.sizeOf227
  v25 := Tryz.zeroValue227
  t39 := Tryz.underlying274
  a39 := Tryz.isAgg274
  z39 := Tryz.sizeOf274
  v39 := Tryz.zeroValue274
  t45 := Tryz.underlying297
  a45 := Tryz.isAgg297
  z45 := Tryz.sizeOf297
  v45 := Tryz.zeroValue297
  t46 := Tryz.underlying298
  a46 := Tryz.isAgg298
  z46 := Tryz.sizeOf298
  v46 := Tryz.zeroValue298
  t50 := Tryz.underlying25
  a50 := Tryz.isAgg25
  z50 := Tryz.sizeOf25
  v50 := Tryz.zeroValue25
  t53 := Tryz.underlying304
  a53 := Tryz.isAgg304
  z53 := Tryz.sizeOf304
  v53 := Tryz.zeroValue304
  t55 := Tryz.underlying306
  a55 := Tryz.isAgg306
  z55 := Tryz.sizeOf306
  v55 := Tryz.zeroValue306
  t66 := Tryz.underlying326
  a66 := Tryz.isAgg326
  z66 := Tryz.sizeOf326
  v66 := Tryz.zeroValue326
  t70 := Tryz.underlying330
  a70 := Tryz.isAgg330
  z70 := Tryz.sizeOf330
  v70 := Tryz.zeroValue330
  t76 := Tryz.underlying339
  a76 := Tryz.isAgg339
  z76 := Tryz.sizeOf339
  v76 := Tryz.zeroValue339
  t77 := Tryz.underlying340
  a77 := Tryz.isAgg340
  z77 := Tryz.sizeOf340
  v77 := Tryz.zeroValue340 }
def sortF_ren : Go.Shelf.Ren := ⟨fun | 6 => 333 | 15 => 274 | 14 => 372 | 28 => 324 | 29 => 325 | 20 => 385 | 21 => 386 | 22 => 387 | 23 => 388 | 24 => 389 | 25 => 390 | 26 => 391 | 27 => 392 | 46 => 398 | 47 => 365 | 48 => 366 | 49 => 399 | 50 => 400 | 57 => 401 | n => n, fun | 22 => 62 | 24 => 49 | 25 => 262 | 3 => 3 | 39 => 274 | 0 => 0 | 53 => 304 | 55 => 306 | 4 => 4 | 46 => 298 | 45 => 297 | 50 => 25 | 5 => 5 | 9 => 9 | 66 => 326 | 70 => 330 | 76 => 339 | 77 => 340 | n => n, fun | n => n⟩
theorem sortF : Go.Proofs.SlLaysF0.n6 Tryz.prog sortF_ren := {
  mixed := by kernel_rfl
  f6 := ⟨Tryz.f333.name, by decide, Tryz.func333.trans (congrArg some (by kernel_rfl))⟩
  f14 := ⟨Tryz.f372.name, by decide, Tryz.func372.trans (congrArg some (by kernel_rfl))⟩
  f15 := Tryz.func274.trans (congrArg some (by kernel_rfl))
  f20 := ⟨Tryz.f385.name, by decide, Tryz.func385.trans (congrArg some (by kernel_rfl))⟩
  f21 := ⟨Tryz.f386.name, by decide, Tryz.func386.trans (congrArg some (by kernel_rfl))⟩
  f22 := ⟨Tryz.f387.name, by decide, Tryz.func387.trans (congrArg some (by kernel_rfl))⟩
  f23 := ⟨Tryz.f388.name, by decide, Tryz.func388.trans (congrArg some (by kernel_rfl))⟩
  f24 := ⟨Tryz.f389.name, by decide, Tryz.func389.trans (congrArg some (by kernel_rfl))⟩
  f25 := ⟨Tryz.f390.name, by decide, Tryz.func390.trans (congrArg some (by kernel_rfl))⟩
  f26 := ⟨Tryz.f391.name, by decide, Tryz.func391.trans (congrArg some (by kernel_rfl))⟩
  f27 := ⟨Tryz.f392.name, by decide, Tryz.func392.trans (congrArg some (by kernel_rfl))⟩
  f28 := Tryz.func324.trans (congrArg some (by kernel_rfl))
  f29 := Tryz.func325.trans (congrArg some (by kernel_rfl))
  f46 := ⟨Tryz.f398.name, by decide, Tryz.func398.trans (congrArg some (by kernel_rfl))⟩
  f47 := Tryz.func365.trans (congrArg some (by kernel_rfl))
  f48 := Tryz.func366.trans (congrArg some (by kernel_rfl))
  f49 := ⟨Tryz.f399.name, by decide, Tryz.func399.trans (congrArg some (by kernel_rfl))⟩
  f50 := ⟨Tryz.f400.name, by decide, Tryz.func400.trans (congrArg some (by kernel_rfl))⟩
  f57 := ⟨Tryz.f401.name, by decide, Tryz.func401.trans (congrArg some (by kernel_rfl))⟩
  t0 := Tryz.underlying0
  a0 := Tryz.isAgg0
  z0 := Tryz.sizeOf0
  v0 := Tryz.zeroValue0
  t3 := Tryz.underlying3
  a3 := Tryz.isAgg3
  z3 := Tryz.sizeOf3
  v3 := Tryz.zeroValue3
  t4 := Tryz.underlying4
  a4 := Tryz.isAgg4
  z4 := Tryz.sizeOf4
  v4 := Tryz.zeroValue4
  t5 := Tryz.underlying5
  a5 := Tryz.isAgg5
  z5 := Tryz.sizeOf5
  v5 := Tryz.zeroValue5
  t9 := Tryz.underlying9
  a9 := Tryz.isAgg9
  z9 := Tryz.sizeOf9
  v9 := Tryz.zeroValue9
  t22 := Tryz.underlying62
  a22 := Tryz.isAgg62
  z22 := Tryz.sizeOf62
  v22 := Tryz.zeroValue62
  t25 := Tryz.underlying262
  a25 := Tryz.isAgg262
  z25 := Tryz.sizeOf262
  v25 := Tryz.zeroValue262
  t39 := Tryz.underlying274
  a39 := Tryz.isAgg274
  z39 := Tryz.sizeOf274
  v39 := Tryz.zeroValue274
  t45 := Tryz.underlying297
  a45 := Tryz.isAgg297
  z45 := Tryz.sizeOf297
  v45 := Tryz.zeroValue297
  t46 := Tryz.underlying298
  a46 := Tryz.isAgg298
  z46 := Tryz.sizeOf298
  v46 := Tryz.zeroValue298
  t50 := Tryz.underlying25
  a50 := Tryz.isAgg25
  z50 := Tryz.sizeOf25
  v50 := Tryz.zeroValue25
  t53 := Tryz.underlying304
  a53 := Tryz.isAgg304
  z53 := Tryz.sizeOf304
  v53 := Tryz.zeroValue304
  t55 := Tryz.underlying306
  a55 := Tryz.isAgg306
  z55 := Tryz.sizeOf306
  v55 := Tryz.zeroValue306
  t66 := Tryz.underlying326
  a66 := Tryz.isAgg326
  z66 := Tryz.sizeOf326
  v66 := Tryz.zeroValue326
  t70 := Tryz.underlying330
  a70 := Tryz.isAgg330
  z70 := Tryz.sizeOf330
  v70 := Tryz.zeroValue330
  t76 := Tryz.underlying339
  a76 := Tryz.isAgg339
  z76 := Tryz.sizeOf339
  v76 := Tryz.zeroValue339
  t77 := Tryz.underlying340
  a77 := Tryz.isAgg340
  z77 := Tryz.sizeOf340
  v77 := Tryz.zeroValue340 }
def sortI_ren : Go.Shelf.Ren := ⟨fun | 6 => 266 | 15 => 274 | 14 => 315 | 28 => 324 | 29 => 325 | 20 => 356 | 21 => 357 | 22 => 358 | 23 => 359 | 24 => 360 | 25 => 361 | 26 => 362 | 27 => 363 | 46 => 381 | 47 => 365 | 48 => 366 | 49 => 382 | 50 => 383 | 57 => 397 | n => n, fun | 22 => 153 | 24 => 28 | 25 => 226 | 3 => 3 | 39 => 274 | 0 => 0 | 53 => 304 | 55 => 306 | 4 => 4 | 46 => 298 | 45 => 297 | 50 => 25 | 5 => 5 | 9 => 9 | 66 => 326 | 70 => 330 | 76 => 339 | 77 => 340 | n => n, fun | n => n⟩
theorem sortI : Go.Proofs.SlLaysF.n6 Tryz.prog sortI_ren := {
  mixed := by kernel_rfl
  f6 := ⟨Tryz.f266.name, by decide, Tryz.func266.trans (congrArg some (by kernel_rfl))⟩
  f14 := ⟨Tryz.f315.name, by decide, Tryz.func315.trans (congrArg some (by kernel_rfl))⟩
  f15 := Tryz.func274.trans (congrArg some (by kernel_rfl))
  f20 := ⟨Tryz.f356.name, by decide, Tryz.func356.trans (congrArg some (by kernel_rfl))⟩
  f21 := ⟨Tryz.f357.name, by decide, Tryz.func357.trans (congrArg some (by kernel_rfl))⟩
  f22 := ⟨Tryz.f358.name, by decide, Tryz.func358.trans (congrArg some (by kernel_rfl))⟩
  f23 := ⟨Tryz.f359.name, by decide, Tryz.func359.trans (congrArg some (by kernel_rfl))⟩
  f24 := ⟨Tryz.f360.name, by decide, Tryz.func360.trans (congrArg some (by kernel_rfl))⟩
  f25 := ⟨Tryz.f361.name, by decide, Tryz.func361.trans (congrArg some (by kernel_rfl))⟩
  f26 := ⟨Tryz.f362.name, by decide, Tryz.func362.trans (congrArg some (by kernel_rfl))⟩
  f27 := ⟨Tryz.f363.name, by decide, Tryz.func363.trans (congrArg some (by kernel_rfl))⟩
  f28 := Tryz.func324.trans (congrArg some (by kernel_rfl))
  f29 := Tryz.func325.trans (congrArg some (by kernel_rfl))
  f46 := ⟨Tryz.f381.name, by decide, Tryz.func381.trans (congrArg some (by kernel_rfl))⟩
  f47 := Tryz.func365.trans (congrArg some (by kernel_rfl))
  f48 := Tryz.func366.trans (congrArg some (by kernel_rfl))
  f49 := ⟨Tryz.f382.name, by decide, Tryz.func382.trans (congrArg some (by kernel_rfl))⟩
  f50 := ⟨Tryz.f383.name, by decide, Tryz.func383.trans (congrArg some (by kernel_rfl))⟩
  f57 := ⟨Tryz.f397.name, by decide, Tryz.func397.trans (congrArg some (by kernel_rfl))⟩
  t0 := Tryz.underlying0
  a0 := Tryz.isAgg0
  z0 := Tryz.sizeOf0
  v0 := Tryz.zeroValue0
  t3 := Tryz.underlying3
  a3 := Tryz.isAgg3
  z3 := Tryz.sizeOf3
  v3 := Tryz.zeroValue3
  t4 := Tryz.underlying4
  a4 := Tryz.isAgg4
  z4 := Tryz.sizeOf4
  v4 := Tryz.zeroValue4
  t5 := Tryz.underlying5
  a5 := Tryz.isAgg5
  z5 := Tryz.sizeOf5
  v5 := Tryz.zeroValue5
  t9 := Tryz.underlying9
  a9 := Tryz.isAgg9
  z9 := Tryz.sizeOf9
  v9 := Tryz.zeroValue9
  t22 := Tryz.underlying153
  a22 := Tryz.isAgg153
  z22 := Tryz.sizeOf153
  v22 := Tryz.zeroValue153
  a24 := Tryz.isAgg28
  z24 := Tryz.sizeOf28
  t25 := Tryz.underlying226
  a25 := Tryz.isAgg226
  z25 := Tryz.sizeOf226
  v25 := Tryz.zeroValue226
  t39 := Tryz.underlying274
  a39 := Tryz.isAgg274
  z39 := Tryz.sizeOf274
  v39 := Tryz.zeroValue274
  t45 := Tryz.underlying297
  a45 := Tryz.isAgg297
  z45 := Tryz.sizeOf297
  v45 := Tryz.zeroValue297
  t46 := Tryz.underlying298
  a46 := Tryz.isAgg298
  z46 := Tryz.sizeOf298
  v46 := Tryz.zeroValue298
  t50 := Tryz.underlying25
  a50 := Tryz.isAgg25
  z50 := Tryz.sizeOf25
  v50 := Tryz.zeroValue25
  t53 := Tryz.underlying304
  a53 := Tryz.isAgg304
  z53 := Tryz.sizeOf304
  v53 := Tryz.zeroValue304
  t55 := Tryz.underlying306
  a55 := Tryz.isAgg306
  z55 := Tryz.sizeOf306
  v55 := Tryz.zeroValue306
  t66 := Tryz.underlying326
  a66 := Tryz.isAgg326
  z66 := Tryz.sizeOf326
  v66 := Tryz.zeroValue326
  t70 := Tryz.underlying330
  a70 := Tryz.isAgg330
  z70 := Tryz.sizeOf330
  v70 := Tryz.zeroValue330
  t76 := Tryz.underlying339
  a76 := Tryz.isAgg339
  z76 := Tryz.sizeOf339
  v76 := Tryz.zeroValue339
  t77 := Tryz.underlying340
  a77 := Tryz.isAgg340
  z77 := Tryz.sizeOf340
  v77 := Tryz.zeroValue340 }
end Go.Proofs.YtmfifjbbjjdacaaGreat.Shl

namespace Go.Proofs.YtmfifjbbjjdacaaGreat.V
open Go Go.Proofs Go.Shelf Go.RowKit Go.Lib Go.Sort
set_option linter.unusedVariables false
set_option linter.unusedSimpArgs false
theorem ofFn_get {n i : Nat} (h : i < n) : (Array.ofFn fun i : Fin n => some i)[i]! = some ⟨i, h⟩ := by
  rw [getElem!_pos _ i (by simpa using h)]; simp
theorem kept_size {n : Nat} {eqf : Nat → Nat → Bool} : (keptUpTo (kpf eqf) (Array.ofFn fun i : Fin n => some i) n).length = ((List.range n).filter (kpf eqf)).length := by unfold keptUpTo; rw [List.length_map]
theorem kept_le {n : Nat} {eqf : Nat → Nat → Bool} : ((List.range n).filter (kpf eqf)).length ≤ n := by
  have := List.length_filter_le (kpf eqf) (List.range n)
  rwa [List.length_range] at this
theorem kept_tok {n : Nat} {eqf : Nat → Nat → Bool} (i j : Nat) (h : ((List.range n).filter (kpf eqf))[i]? = some j) : ∃ hj : j < n, (keptUpTo (kpf eqf) (Array.ofFn fun i : Fin n => some i) n ++ List.replicate (n - (keptUpTo (kpf eqf) (Array.ofFn fun i : Fin n => some i) n).length) none).toArray[i]? = some (some ⟨j, hj⟩) := by
  have hj : j < n := List.mem_range.1 (List.mem_filter.1 (List.mem_of_getElem? h)).1
  refine ⟨hj, ?_⟩
  have hi := (List.getElem?_eq_some_iff.1 h).1
  rw [List.getElem?_toArray, List.getElem?_append_left (by rw [kept_size]; exact hi)]
  unfold keptUpTo
  rw [List.getElem?_map, h]
  simp only [Option.map_some]
  rw [ofFn_get hj]
theorem compConI : CompCon Tryz.prog 328 1 [.slice none 0 0] (fun us => us.headD (.bool true)) := by
  refine ⟨fun p cap fv w => ?_, fun n enc hk h1 hz eqf g blk off cap w eg hcmp hH hblk hsz hcap => ?_⟩
  · go_enter Tryz.func328, Tryz.ntmps328
    go_wp2
    go_ret
    exact ⟨rfl, rfl⟩
  · have hs : (Array.ofFn fun i : Fin n => some i).size = n := by simp
    have he : ∀ x, enc x = [(enc x).headD (.bool true)] := fun x => by
      have := hk x
      match hh : enc x with
      | [] => rw [hh] at this; cases this
      | [u] => rfl
      | _ :: _ :: _ => rw [hh] at this; cases this
    have hw : ∀ m (dk : Array (Option (Fin n))) os, sortWorldK enc 1 w blk off m dk os = sortWorld (fun x => (enc x).headD (.bool true)) w blk off m dk os := fun m dk os => by
      unfold sortWorldK sortWorld putRowK putRow
      rw [flatK_one' enc _ he, ← putCells_map'']
    have R : Row1 (fun x => (enc x).headD (.bool true)) w blk off (Array.ofFn fun i : Fin n => some i) := ⟨fun x => h1 x _ (by have := he x; rw [this]; simp), fun t ht => by
      have := hH t (by rw [size_flatK, Nat.mul_one]; exact ht)
      rw [flatK_one' enc _ he] at this
      rw [getElem!_pos _ t ht]
      rw [getElem!_pos _ t (by simpa using ht)] at this
      simpa using this, hblk⟩
    have h := compI_walk (fun x => (enc x).headD (.bool true)) none (by simp [hz]) eqf g eg blk off cap (Array.ofFn fun i : Fin n => some i) w R (by rw [hs]; exact hsz) (by rw [hs]; exact hcap) (fun W dk hW hdk i j hi hj nn os => by
      rw [hs] at hi hj hdk
      obtain ⟨m, os0, rfl⟩ := hW
      rw [sortWorld_grown_c, ← hw, ofFn_get hi, ofFn_get hj]
      exact hcmp (m + nn) (os0 ++ os) dk hdk ⟨i, hi⟩ ⟨j, hj⟩)
    rw [hs] at h
    refine h.mono ?_
    rintro e w' ⟨rfl, m, os, rfl⟩
    refine ⟨by rw [kept_size], _, m, os, ?_, kept_tok, by rw [hw]⟩
    have := kept_le (n := n) (eqf := eqf)
    simp [kept_size]; omega
end Go.Proofs.YtmfifjbbjjdacaaGreat.V

namespace Go.Proofs.YtmfifjbbjjdacaaGreat.V
open Go Go.Proofs
theorem pk_one : Pk (List Int) (fun us => us.headD (.bool true)) (fun x => Ar x) := ⟨fun {h Z us x} H => by
  obtain ⟨hl, hr⟩ := H
  match us, hl with
  | [u], _ => exact .t u _ (hr 0 u _ rfl rfl)⟩
theorem swoC : Sort.SWO (ltOf cmpC) := ⟨fun x => swoL.irrefl x.tuple, fun x y z => swoL.trans x.tuple y.tuple z.tuple, fun x y z => swoL.ntrans x.tuple y.tuple z.tuple⟩
theorem noGiv : GivOk Tryz.prog (fun _ => none) := fun f args σ r σ' H => by cases H
theorem mixed : Tryz.prog.follows .mixedOrders = true := by kernel_rfl
theorem givOk : GivOk Tryz.prog Gs := by
  intro f args σ r σ' H
  simp only [Option.bind_eq_some_iff] at H
  obtain ⟨g, hg, H⟩ := H
  have hm := lookG_mem hg
  simp only [srtL, List.mem_cons, List.not_mem_nil, or_false, Prod.mk.injEq] at hm
  rcases hm with ⟨rfl, rfl⟩ | ⟨rfl, rfl⟩ | ⟨rfl, rfl⟩ | ⟨rfl, rfl⟩ | ⟨rfl, rfl⟩
  · exact ⟨⟨_, Tryz.func199, rfl, rfl⟩, fun R hf hargs => sortG_ok (M := Ms) mixed noGiv (sortCon_K (ρ := Shl.sortC_ren) Shl.sortC 2 (fun w => by exact Tryz.isAgg119 w) (fun w => by exact Tryz.sizeOf119 w)) pk_agg ⟨fun x y hx hy => addC1_r x y hx, swoC⟩ (by decide) H R hf hargs⟩
  · exact ⟨⟨_, Tryz.func266, rfl, rfl⟩, fun R hf hargs => sortG_ok (M := Ms) mixed noGiv (sortCon_1 (ρ := Shl.sortI_ren) Shl.sortI) pk_one ⟨fun x y hx hy => cmpRow_r x y hx, swoL⟩ (by decide) H R hf hargs⟩
  · exact ⟨⟨_, Tryz.func333, rfl, rfl⟩, fun R hf hargs => sortG_ok (M := Ms) mixed noGiv (sortCon_K (ρ := Shl.sortF_ren) Shl.sortF 2 (fun w => by exact Tryz.isAgg49 w) (fun w => by exact Tryz.sizeOf49 w)) pk_agg ⟨fun x y hx hy => cmpF_r x y hx, swoF⟩ (by decide) H R hf hargs⟩
  · exact ⟨⟨_, Tryz.func328, rfl, rfl⟩, fun R hf hargs => compG_ok (M := Ms) mixed noGiv compConI rfl (by simp [Value.oneCell']) pk_one (fun x y hx hy => eqInts_g x y hx) (by decide) H R hf hargs⟩
  · cases H
end Go.Proofs.YtmfifjbbjjdacaaGreat.V

namespace Go.Proofs.YtmfifjbbjjdacaaGreat.V
open Go Go.Proofs
set_option linter.unusedVariables false
theorem rowsE_set {α : Type} [Enc α] (l : List α) (i : Nat) (x : α) : rowsE (l.set i x) = (rowsE l).set i (Enc.cells x) := by simp [rowsE, List.map_set]
/-- A name for a slice in an array that owns. -/
def Nm (st : Nat) (rows : List (List T)) (v : Nat) (p : List (Nat × Nat)) (q : List (List T)) : Prop := (p = [] → rows.length = v) ∧ (p ≠ [] → v = st) ∧ rowsAt rows p = some q
theorem Nm.rows {st sz v : Nat} {rows q : List (List T)} {p : List (Nat × Nat)} (h : Nm st rows v p q) : (VO.arr (.own 0) st sz rows).rows v p = some q := by
  obtain ⟨h1, h2, h3⟩ := h
  cases p with
  | nil => simp only [rowsAt, Option.some.injEq] at h3; subst h3; simp [VO.rows, h1 rfl]
  | cons a p => obtain ⟨i, j⟩ := a; simp only [VO.rows]; rw [if_pos ⟨h2 (by simp), Nat.zero_le _⟩]; exact h3
theorem mod_get {α : Type} {l : List α} {i : Nat} {r : α} (f : α → α) (h : l[i]? = some r) : (l.modify i f)[i]? = some (f r) := by
  rw [List.getElem?_modify, h]; simp
theorem modify_id {α : Type} {l : List α} {i : Nat} {r : α} (f : α → α) (h : l[i]? = some r) (hf : f r = r) : l.modify i f = l := by
  apply List.ext_getElem?
  intro n
  rw [List.getElem?_modify]
  by_cases e : i = n
  · subst e; rw [h]; simp [hf]
  · simp [e]
theorem rowsAt_app : ∀ {rows : List (List T)} {p : List (Nat × Nat)} {q : List (List T)} (p' : List (Nat × Nat)), rowsAt rows p = some q → rowsAt rows (p ++ p') = rowsAt q p'
  | rows, [], q, p', h => by simp only [rowsAt, Option.some.injEq] at h; subst h; rfl
  | rows, (i, j) :: p, q, p', h => by
    simp only [rowsAt, List.cons_append] at h ⊢
    split at h
    · rename_i q0 hq; exact rowsAt_app p' h
    · cases h
theorem rowsAt_set : ∀ {rows : List (List T)} {p : List (Nat × Nat)} {q : List (List T)} (f : List (List T) → List (List T)), rowsAt rows p = some q → rowsAt (setAt rows p f) p = some (f q)
  | rows, [], q, f, h => by simp only [rowsAt, Option.some.injEq] at h; subst h; rfl
  | rows, (i, j) :: p, q, f, h => by
    simp only [rowsAt] at h
    split at h
    · rename_i q0 hq
      rw [Option.bind_eq_some_iff] at hq
      obtain ⟨r, h1, h2⟩ := hq
      simp only [rowsAt, setAt]
      rw [mod_get _ h1]
      simp only [Option.bind_some]
      rw [mod_get _ h2]
      exact rowsAt_set f h
    · cases h
theorem setAt_set : ∀ (rows : List (List T)) (p : List (Nat × Nat)) (f g : List (List T) → List (List T)), setAt (setAt rows p f) p g = setAt rows p (fun q => g (f q))
  | rows, [], f, g => rfl
  | rows, (i, j) :: p, f, g => by
    simp only [setAt]
    rw [List.modify_modify_eq]
    congr 1
    funext r
    simp only [Function.comp_apply]
    rw [List.modify_modify_eq]
    congr 1
    funext x
    cases x with
    | sl q => simp only [Function.comp_apply]; rw [setAt_set]
    | _ => rfl
theorem setAt_app : ∀ (rows : List (List T)) (p p' : List (Nat × Nat)) (f : List (List T) → List (List T)), setAt rows (p ++ p') f = setAt rows p (fun q => setAt q p' f)
  | rows, [], p', f => rfl
  | rows, (i, j) :: p, p', f => by
    simp only [setAt, List.cons_append]
    congr 1
    funext r
    congr 1
    funext x
    cases x with
    | sl q => simp only; rw [setAt_app]
    | _ => rfl
theorem setAt_id : ∀ {rows : List (List T)} {p : List (Nat × Nat)} {q : List (List T)}, rowsAt rows p = some q → setAt rows p (fun _ => q) = rows
  | rows, [], q, h => by simp only [rowsAt, Option.some.injEq] at h; subst h; rfl
  | rows, (i, j) :: p, q, h => by
    simp only [rowsAt] at h
    split at h
    · rename_i q0 hq
      rw [Option.bind_eq_some_iff] at hq
      obtain ⟨r, h1, h2⟩ := hq
      simp only [setAt]
      refine modify_id _ h1 (modify_id _ h2 ?_)
      simp only
      rw [setAt_id h]
    · cases h
/-- The name stays a name. -/
theorem Nm.set {st v : Nat} {rows q q' : List (List T)} {p : List (Nat × Nat)} (h : Nm st rows v p q) (hl : q'.length = q.length) : Nm st (setAt rows p fun _ => q') v p q' := by
  obtain ⟨h1, h2, h3⟩ := h
  refine ⟨fun e => ?_, h2, rowsAt_set _ h3⟩
  subst e
  simp only [rowsAt, Option.some.injEq] at h3
  subst h3
  simp only [setAt]
  rw [hl]; exact h1 rfl
/-- A name for a row's inner slice. -/
theorem Nm.inner {st v i j : Nat} {rows q q' : List (List T)} {p : List (Nat × Nat)} {r : List T} (h : Nm st rows v p q) (hr : q[i]? = some r) (hj : r[j]? = some (.sl q')) : Nm st rows st (p ++ [(i, j)]) q' := by
  refine ⟨fun e => by simp at e, fun _ => rfl, ?_⟩
  rw [rowsAt_app _ h.2.2]
  simp [rowsAt, hr, hj]
theorem setAt_one {rows : List (List T)} {r : List T} {i j : Nat} {q : List (List T)} {f : List (List T) → List (List T)} (hr : rows[i]? = some r) (hj : r[j]? = some (.sl q)) :
    setAt rows [(i, j)] f = rows.set i (r.set j (.sl (f q))) := by
  simp only [setAt]
  apply List.ext_getElem?
  intro n
  rw [List.getElem?_modify, List.getElem?_set]
  have hil := (List.getElem?_eq_some_iff.1 hr).1
  by_cases e : i = n
  · subst e
    rw [hr, if_pos rfl, if_pos hil]
    simp only [if_true, Option.map_eq_map, Option.map_some, Option.some.injEq]
    apply List.ext_getElem?
    intro m
    rw [List.getElem?_modify, List.getElem?_set]
    have hjl := (List.getElem?_eq_some_iff.1 hj).1
    by_cases e2 : j = m
    · subst e2; rw [hj, if_pos rfl, if_pos hjl]; simp
    · simp [e2]
  · simp [e]
theorem upd_upd {α : Type} (f : Nat → α) (i : Nat) (x y : α) : upd (upd f i x) i y = upd f i y := by
  funext j; unfold upd; split <;> rfl
class Mk (α : Type) where
  cnt : α → Nat
  mrk : Int → α → α
section
variable {α : Type} [Mk α]
def cntL (l : List α) : Nat := (l.map Mk.cnt).sum
def mkL : Int → List α → List α
  | _, [] => []
  | k, a :: l => Mk.mrk k a :: mkL (k + Mk.cnt a) l
theorem mkL_len : ∀ (k : Int) (l : List α), (mkL k l).length = l.length
  | _, [] => rfl
  | k, a :: l => by simp [mkL, mkL_len (k + Mk.cnt a) l]
theorem mkL_app : ∀ (k : Int) (l m : List α), mkL k (l ++ m) = mkL k l ++ mkL (k + cntL l) m
  | k, [], m => by simp [mkL, cntL]
  | k, a :: l, m => by
    simp only [List.cons_append, mkL, mkL_app (k + Mk.cnt a) l m]
    congr 3
    simp only [cntL, List.map_cons, List.sum_cons, Int.natCast_add]
    omega
theorem cntL_take (l : List α) (i : Nat) (h : i < l.length) : cntL (l.take (i + 1)) = cntL (l.take i) + Mk.cnt l[i] := by
  rw [List.take_succ_eq_append_getElem h]; simp only [cntL, List.map_append, List.sum_append, List.map_cons, List.map_nil, List.sum_cons, List.sum_nil, Nat.add_zero]
theorem cntL_take_le (l : List α) (i : Nat) : cntL (l.take i) ≤ cntL l := by
  conv => rhs; rw [← List.take_append_drop i l]
  simp only [cntL, List.map_append, List.sum_append]; omega
theorem mkL_take (k : Int) (l : List α) (i : Nat) (h : i < l.length) : mkL k (l.take (i + 1)) = mkL k (l.take i) ++ [Mk.mrk (k + cntL (l.take i)) l[i]] := by
  rw [List.take_succ_eq_append_getElem h, mkL_app]; rfl
theorem mkL_get : ∀ (k : Int) (l : List α) (i : Nat) (h : i < l.length), (mkL k l)[i]? = some (Mk.mrk (k + cntL (l.take i)) l[i])
  | k, a :: l, 0, h => by simp [mkL, cntL]
  | k, a :: l, i + 1, h => by
    simp only [mkL, List.getElem?_cons_succ, List.getElem_cons_succ, List.take_succ_cons]
    rw [mkL_get (k + Mk.cnt a) l i (by simpa using h)]
    congr 2
    simp only [cntL, List.map_cons, List.sum_cons, Int.natCast_add]
    omega
/-- Marked up to i. -/
def mkU (k : Int) (l : List α) (i : Nat) : List α := mkL k (l.take i) ++ l.drop i
theorem mkU_zero (k : Int) (l : List α) : mkU k l 0 = l := by simp [mkU, mkL]
theorem mkU_all (k : Int) (l : List α) : mkU k l l.length = mkL k l := by simp [mkU]
theorem mkU_len (k : Int) (l : List α) (i : Nat) : (mkU k l i).length = l.length := by simp [mkU, mkL_len]; omega
theorem mkU_get (k : Int) (l : List α) (i : Nat) (h : i < l.length) : (mkU k l i)[i]? = some l[i] := by
  unfold mkU
  rw [List.getElem?_append_right (by rw [mkL_len]; simp; omega)]
  simp [mkL_len, Nat.min_eq_left (Nat.le_of_lt h), h]
theorem mkU_set (k : Int) (l : List α) (i : Nat) (h : i < l.length) : (mkU k l i).set i (Mk.mrk (k + cntL (l.take i)) l[i]) = mkU k l (i + 1) := by
  unfold mkU
  rw [mkL_take k l i h]
  have hl : (mkL k (l.take i)).length = i := by rw [mkL_len]; simp; omega
  rw [List.set_append_right _ _ (by omega), hl, Nat.sub_self, List.append_assoc]
  congr 1
  conv => lhs; rw [List.drop_eq_getElem_cons h]
  rfl
end
instance : Mk Int := ⟨fun _ => 1, fun k _ => k⟩
@[simp] theorem cnt_int (x : Int) : Mk.cnt x = 1 := rfl
@[simp] theorem mrk_int (k x : Int) : Mk.mrk k x = k := rfl
instance {α : Type} [Mk α] : Mk (List α) := ⟨cntL, mkL⟩
@[simp] theorem cnt_list {α : Type} [Mk α] (x : List α) : Mk.cnt x = cntL x := rfl
@[simp] theorem mrk_list {α : Type} [Mk α] (k : Int) (x : List α) : Mk.mrk k x = mkL k x := rfl
instance : Mk Cnt := ⟨fun c => cntL c.tuple + 1, fun k c => ⟨mkL k c.tuple, k + cntL c.tuple⟩⟩
/-- Atoms and facts: the relation first. -/
instance : Mk RA := ⟨fun a => 1 + cntL a.args, fun k a => ⟨k, mkL (k + 1) a.args⟩⟩
instance : Mk Qry := ⟨fun q => cntL q.head + cntL q.body, fun k q => ⟨mkL k q.head, mkL (k + cntL q.head) q.body⟩⟩
theorem fill_set {α : Type} (l : List α) (z : α) (i : Nat) (h : i < l.length) : (l.take i ++ List.replicate (l.length - i) z).set i l[i] = l.take (i + 1) ++ List.replicate (l.length - (i + 1)) z := by
  rw [List.set_append_right _ _ (by rw [List.length_take]; omega)]
  have e : i - (l.take i).length = 0 := by simp; omega
  rw [e, List.take_succ_eq_append_getElem h, List.append_assoc, show l.length - i = (l.length - (i + 1)) + 1 by omega, List.replicate_succ]
  simp
theorem fill_get {α : Type} [Enc α] (l : List α) (z : α) (i : Nat) (h : i < l.length) : (rowsE (l.take i ++ List.replicate (l.length - i) z))[i]? = some (Enc.cells z) := by
  rw [rowsE, List.getElem?_map, List.getElem?_append_right (by rw [List.length_take]; omega)]
  have e : i - (l.take i).length = 0 := by rw [List.length_take]; omega
  rw [e, show l.length - i = (l.length - (i + 1)) + 1 by omega, List.replicate_succ]
  rfl
theorem fill_len {α : Type} [Enc α] (l : List α) (z : α) (i : Nat) (h : i ≤ l.length) : (rowsE (l.take i ++ List.replicate (l.length - i) z)).length = l.length := by
  rw [rowsE_len, List.length_append, List.length_take, List.length_replicate]; omega
end Go.Proofs.YtmfifjbbjjdacaaGreat.V

namespace Go.Proofs.YtmfifjbbjjdacaaGreat.V
open Go Go.Proofs
set_option linter.unusedVariables false
structure Src where
  facts : List RA
  version : Int
  deriving DecidableEq
instance : Enc Src := ⟨fun a => [.sl (rowsE a.facts), .i .i64 a.version], 2, false, fun _ => rfl, fun h => by cases h⟩
@[simp] theorem cells_Src (a : Src) : Enc.cells a = [.sl (rowsE a.facts), .i .i64 a.version] := rfl
@[simp] theorem n_Src : Enc.n Src = 2 := rfl
structure Chg where
  insert : Bool
  fact : RA
  deriving DecidableEq
instance : Enc Chg := ⟨fun a => [.b a.insert, .i .i64 a.fact.rel, .sl (rowsE a.fact.args)], 3, false, fun _ => rfl, fun h => by cases h⟩
@[simp] theorem cells_Chg (a : Chg) : Enc.cells a = [.b a.insert, .i .i64 a.fact.rel, .sl (rowsE a.fact.args)] := rfl
@[simp] theorem n_Chg : Enc.n Chg = 3 := rfl
structure Cch where
  views : List Qry
  tables : List (List (List Int))
  version : Int
  deriving DecidableEq
instance : Enc Cch := ⟨fun a => [.sl (rowsE a.views), .sl (rowsE a.tables), .i .i64 a.version], 3, false, fun _ => rfl, fun h => by cases h⟩
@[simp] theorem cells_Cch (a : Cch) : Enc.cells a = [.sl (rowsE a.views), .sl (rowsE a.tables), .i .i64 a.version] := rfl
@[simp] theorem n_Cch : Enc.n Cch = 3 := rfl
structure Wtd where
  query : Qry
  weight : Int
  deriving DecidableEq
instance : Enc Wtd := ⟨fun a => [.sl (rowsE a.query.head), .sl (rowsE a.query.body), .i .i64 a.weight], 3, false, fun _ => rfl, fun h => by cases h⟩
@[simp] theorem cells_Wtd (a : Wtd) : Enc.cells a = [.sl (rowsE a.query.head), .sl (rowsE a.query.body), .i .i64 a.weight] := rfl
@[simp] theorem n_Wtd : Enc.n Wtd = 3 := rfl
structure Crt where
  rw_ : Qry
  forth : List Int
  back : List Int
  deriving DecidableEq
instance : Enc Crt := ⟨fun a => [.sl (rowsE a.rw_.head), .sl (rowsE a.rw_.body), .sl (rowsE a.forth), .sl (rowsE a.back)], 4, false, fun _ => rfl, fun h => by cases h⟩
@[simp] theorem cells_Crt (a : Crt) : Enc.cells a = [.sl (rowsE a.rw_.head), .sl (rowsE a.rw_.body), .sl (rowsE a.forth), .sl (rowsE a.back)] := rfl
@[simp] theorem n_Crt : Enc.n Crt = 4 := rfl
structure Ses where
  seen : Int
  lag : Int
  deriving DecidableEq
instance : Enc Ses := ⟨fun a => [.i .i64 a.seen, .i .i64 a.lag], 2, true, fun _ => rfl, fun _ _ => rfl⟩
@[simp] theorem cells_Ses (a : Ses) : Enc.cells a = [.i .i64 a.seen, .i .i64 a.lag] := rfl
@[simp] theorem n_Ses : Enc.n Ses = 2 := rfl
instance : Mk Wtd := ⟨fun w => cntL w.query.head + cntL w.query.body + 1, fun k w => ⟨⟨mkL k w.query.head, mkL (k + cntL w.query.head) w.query.body⟩, k + cntL w.query.head + cntL w.query.body⟩⟩
/-- What a size function counts; bounds on what it counted. -/
class Lw (α : Type) where
  w : α → Nat
  bd : Nat → α → Prop
  bd_of : ∀ (N : Nat) (a : α), w a ≤ N → bd N a
instance : Lw Int := ⟨fun _ => 0, fun _ _ => True, fun _ _ _ => trivial⟩
def wL {α : Type} [Lw α] (l : List α) : Nat := l.length + (l.map Lw.w).sum
theorem wL_mem {α : Type} [Lw α] {l : List α} {x : α} (h : x ∈ l) : Lw.w x ≤ (l.map Lw.w).sum := by
  induction l with
  | nil => simp at h
  | cons a l ih =>
    simp only [List.map_cons, List.sum_cons]
    rcases List.mem_cons.1 h with rfl | h
    · omega
    · have := ih h; omega
instance {α : Type} [Lw α] : Lw (List α) := ⟨wL, fun N l => l.length ≤ N ∧ ∀ x ∈ l, Lw.bd N x, fun N l h => ⟨by unfold wL at h; omega, fun x hx => Lw.bd_of N x (by have := wL_mem hx; unfold wL at h; omega)⟩⟩
@[simp] theorem w_int (x : Int) : Lw.w x = 0 := rfl
theorem w_list {α : Type} [Lw α] (x : List α) : Lw.w x = wL x := rfl
theorem wL_ints (l : List Int) : wL l = l.length := by
  have : ∀ l : List Int, (l.map Lw.w).sum = 0 := fun l => by induction l with
    | nil => rfl
    | cons a l ih => simp only [List.map_cons, List.sum_cons, ih]; rfl
  rw [wL, this]; rfl
instance : Lw RA := ⟨fun a => wL a.args, fun N a => Lw.bd N a.args, fun N a h => Lw.bd_of N a.args h⟩
instance : Lw Cnt := ⟨fun a => wL a.tuple, fun N a => Lw.bd N a.tuple, fun N a h => Lw.bd_of N a.tuple h⟩
instance : Lw Sch := ⟨fun a => wL a.arity, fun N a => Lw.bd N a.arity, fun N a h => Lw.bd_of N a.arity h⟩
instance : Lw Qry := ⟨fun a => wL a.head + wL a.body, fun N a => Lw.bd N a.head ∧ Lw.bd N a.body, fun N a h => ⟨Lw.bd_of N a.head (by rw [w_list]; omega), Lw.bd_of N a.body (by rw [w_list]; omega)⟩⟩
instance : Lw Src := ⟨fun a => wL a.facts, fun N a => Lw.bd N a.facts, fun N a h => Lw.bd_of N a.facts h⟩
instance : Lw Chg := ⟨fun a => wL a.fact.args, fun N a => Lw.bd N a.fact.args, fun N a h => Lw.bd_of N a.fact.args h⟩
instance : Lw Cch := ⟨fun a => wL a.views + wL a.tables, fun N a => Lw.bd N a.views ∧ Lw.bd N a.tables, fun N a h => ⟨Lw.bd_of N a.views (by rw [w_list]; omega), Lw.bd_of N a.tables (by rw [w_list]; omega)⟩⟩
instance : Lw Wtd := ⟨fun a => wL a.query.head + wL a.query.body, fun N a => Lw.bd N a.query, fun N a h => Lw.bd_of N a.query h⟩
instance : Lw Crt := ⟨fun a => wL a.rw_.head + wL a.rw_.body + wL a.forth + wL a.back, fun N a => Lw.bd N a.rw_ ∧ Lw.bd N a.forth ∧ Lw.bd N a.back,
  fun N a h => ⟨Lw.bd_of N a.rw_ (show wL a.rw_.head + wL a.rw_.body ≤ N by omega), Lw.bd_of N a.forth (by rw [w_list]; omega), Lw.bd_of N a.back (by rw [w_list]; omega)⟩⟩
/-- What a size function answers: what is left, or -1. -/
def szA (w : Nat) (left : Int) : Int := if (w : Int) ≤ left then left - w else -1
theorem wL_take {α : Type} [Lw α] (l : List α) (i : Nat) (h : i < l.length) : ((l.take (i + 1)).map Lw.w).sum = ((l.take i).map Lw.w).sum + Lw.w l[i] := by
  rw [List.take_succ_eq_append_getElem h]; simp only [List.map_append, List.sum_append, List.map_cons, List.map_nil, List.sum_cons, List.sum_nil, Nat.add_zero]
theorem wL_split {α : Type} [Lw α] (l : List α) (i : Nat) : (l.map Lw.w).sum = ((l.take i).map Lw.w).sum + ((l.drop i).map Lw.w).sum := by
  conv => lhs; rw [← List.take_append_drop i l]
  simp only [List.map_append, List.sum_append]
/-- The maximal length of Go's slices: lengths can be told. -/
def Fit {α : Type} [Lw α] (a : α) : Prop := Lw.bd 9223372036854775807 a
end Go.Proofs.YtmfifjbbjjdacaaGreat.V

namespace Go.Proofs.YtmfifjbbjjdacaaGreat.V
open Go Go.Proofs
set_option linter.unusedVariables false
set_option linter.unusedSimpArgs false
theorem l2Ints_r (a b : List Int) (ha : Sm a) : Ret XX 180 [Ar a, Ar b] (.t (.b (decide (a = b))) false) := by
  refine ret_W rfl Tryz.func180 rfl rfl (by simp [Tryz.f180]) ?_
  simp only [Tryz.f180]
  repeat' first|refine W_seq ?_|refine W_block ?_|refine W_skip ?_|refine W_ret ?_|refine W_exit ?_|refine xb_hit ?_|refine xb_miss (by decide) ?_|(apply W_reg;(simp;exact .r _))
  refine W_cond (by simp; exact .r _) (fun hc => ?_) (fun hc => ?_)
  · repeat' first|refine W_seq ?_|refine W_block ?_|refine W_skip ?_|refine W_ret ?_|refine W_exit ?_|refine xb_hit ?_|refine xb_miss (by decide) ?_|(apply W_reg;(simp;exact .r _))
    have : a ≠ b := fun e => by subst e; simp at hc
    simp [this]
  have hl : a.length = b.length := by simp at hc; omega
  repeat' first|refine W_seq ?_|refine W_block ?_|refine W_skip ?_|refine W_ret ?_|refine W_exit ?_|refine xb_hit ?_|refine xb_miss (by decide) ?_|(apply W_reg;(simp;exact .r _))
  refine W_loop (n := a.length) (fun n s => ∃ i : Nat, n = a.length - i ∧ s.nt = 26 ∧ s.tm 0 = Ar a ∧ s.tm 1 = Ar b ∧ s.tm 5 = In i ∧ i ≤ a.length ∧ a.take i = b.take i) ⟨0, by simp⟩ ?_
  rintro n ⟨nt, tm, σ⟩ ⟨i, rfl, hnt, h0, h1, h5, hi, heq⟩
  simp only at hnt h0 h1 h5
  subst hnt
  repeat' first|refine W_seq ?_|refine W_block ?_|refine W_skip ?_|refine W_ret ?_|refine W_exit ?_|refine xb_hit ?_|refine xb_miss (by decide) ?_|(apply W_reg;(simp [h0, h1, h5];exact .r _))
  refine W_cond (by simp [h0, h1, h5]; exact .r _) (fun hc => ?_) (fun hc => ?_)
  · have hia : i < a.length := by simpa using hc
    have hib : i < b.length := by omega
    repeat' first|refine W_seq ?_|refine W_block ?_|refine W_skip ?_|refine W_ret ?_|refine W_exit ?_|refine xb_hit ?_|refine xb_miss (by decide) ?_|(apply W_reg;(simp [h0, h1, h5, hia, hib];exact .r _))|(apply W_draw (id := 6) [0,0,3,7,0,0,48,112,255] rfl rfl; (· simp; exact .r _); (· simp [h0, h1, h5, hia, hib]; exact .r _); (· first|trivial|simp))
    refine W_cond (by simp [h0, h1, h5]; exact .r _) (fun hd => ?_) (fun hd => ?_)
    · repeat' first|refine W_seq ?_|refine W_block ?_|refine W_skip ?_|refine W_ret ?_|refine W_exit ?_|refine xb_hit ?_|refine xb_miss (by decide) ?_|(apply W_reg;(simp [h0, h1, h5];exact .r _))
      have : a ≠ b := fun e => by subst e; simp at hd
      simp [this]
    · have hd : a[i] = b[i] := by simpa using hd
      repeat' first|refine W_seq ?_|refine W_block ?_|refine W_skip ?_|refine W_ret ?_|refine W_exit ?_|refine xb_hit ?_|refine xb_miss (by decide) ?_|(apply W_reg;(simp [h0, h1, h5];exact .r _))
      refine ⟨_, ?_, i + 1, rfl, rfl, ?_, ?_, ?_, by omega, by rw [List.take_succ_eq_append_getElem hia, List.take_succ_eq_append_getElem hib, heq, hd]⟩
      all_goals first|assumption|(simp [h0, h1, h5];done)|(simp [h0, h1, h5];omega)|(simp [h0, h1, h5];exact wrap_succ (by omega))|omega
  · have hil : i = a.length := by simp at hc; omega
    subst hil
    repeat' first|refine W_seq ?_|refine W_block ?_|refine W_skip ?_|refine W_ret ?_|refine W_exit ?_|refine xb_hit ?_|refine xb_miss (by decide) ?_|(apply W_reg;(simp [h0, h1, h5];exact .r _))
    rw [List.take_length, hl, List.take_length] at heq
    have : a = b := heq
    simp [this]
theorem l2Less_r (a b : List Int) (ha : Sm a) : Ret XX 203 [Ar a, Ar b] (.t (.b (decide (cmpI a b < 0))) false) := by
  refine ret_W rfl Tryz.func203 rfl rfl (by simp [Tryz.f203]) ?_
  simp only [Tryz.f203]
  repeat' first|refine W_seq ?_|refine W_block ?_|refine W_skip ?_|refine W_ret ?_|refine W_exit ?_|refine xb_hit ?_|refine xb_miss (by decide) ?_|(apply W_reg;(simp;exact .r _))
  refine W_loop (n := a.length) (fun n s => ∃ i : Nat, n = a.length - i ∧ s.nt = 41 ∧ s.tm 0 = Ar a ∧ s.tm 1 = Ar b ∧ s.tm 5 = In i ∧ i ≤ a.length ∧ i ≤ b.length ∧ cmpI a b = cmpI (a.drop i) (b.drop i)) ⟨0, by simp⟩ ?_
  rintro n ⟨nt, tm, σ⟩ ⟨i, rfl, hnt, h0, h1, h5, hi, hib, heq⟩
  simp only at hnt h0 h1 h5
  subst hnt
  by_cases hia : i < a.length
  · by_cases hib' : i < b.length
    · repeat' first|refine W_seq ?_|refine W_block ?_|refine W_skip ?_|refine W_ret ?_|refine W_exit ?_|refine xb_hit ?_|refine xb_miss (by decide) ?_|(apply W_reg;(simp [h0, h1, h5, hia, hib'];exact .r _))
      refine W_cond (by simp [h0, h1, h5]; exact .r _) (fun hc => ?_) (fun hc => ?_)
      · repeat' first|refine W_seq ?_|refine W_block ?_|refine W_skip ?_|refine W_ret ?_|refine W_exit ?_|refine xb_hit ?_|refine xb_miss (by decide) ?_|(apply W_reg;(simp [h0, h1, h5, hia, hib'];exact .r _))|(apply W_draw (id := 4) [0,0,3,7,0,0,48,112,255] rfl rfl; (· simp; exact .r _); (· simp [h0, h1, h5, hia, hib']; exact .r _); (· first|trivial|simp))
        rw [cmpI_step hia hib'] at heq
        refine W_cond (by simp [h0, h1, h5]; exact .r _) (fun hd => ?_) (fun hd => ?_)
        · repeat' first|refine W_seq ?_|refine W_block ?_|refine W_skip ?_|refine W_ret ?_|refine W_exit ?_|refine xb_hit ?_|refine xb_miss (by decide) ?_|(apply W_reg;(simp [h0, h1, h5, hia, hib'];exact .r _))|(apply W_draw (id := 5) [0,0,3,7,0,0,48,112,255,511] rfl rfl; (· simp; exact .r _); (· simp [h0, h1, h5, hia, hib']; exact .r _); (· first|trivial|simp))
          have hne : a[i] ≠ b[i] := by simpa using hd
          by_cases h : a[i] < b[i]
          · simp [heq, h]
          · have h2 : b[i] < a[i] := by omega
            simp [heq, h, h2]
        · have hd : a[i] = b[i] := by simpa using hd
          repeat' first|refine W_seq ?_|refine W_block ?_|refine W_skip ?_|refine W_ret ?_|refine W_exit ?_|refine xb_hit ?_|refine xb_miss (by decide) ?_|(apply W_reg;(simp [h0, h1, h5];exact .r _))
          refine ⟨_, ?_, i + 1, rfl, rfl, ?_, ?_, ?_, by omega, by omega, by rw [heq, if_neg (by omega), if_neg (by omega)]⟩
          all_goals first|assumption|(simp [h0, h1, h5];done)|(simp [h0, h1, h5];omega)|(simp [h0, h1, h5];exact wrap_succ (by omega))|omega
      · simp at hc
    · repeat' first|refine W_seq ?_|refine W_block ?_|refine W_skip ?_|refine W_ret ?_|refine W_exit ?_|refine xb_hit ?_|refine xb_miss (by decide) ?_|(apply W_reg;(simp [h0, h1, h5, hia, hib'];exact .r _))
      refine W_cond (by simp [h0, h1, h5]; exact .r _) (fun hc => ?_) (fun hc => ?_)
      · simp at hc
      · repeat' first|refine W_seq ?_|refine W_block ?_|refine W_skip ?_|refine W_ret ?_|refine W_exit ?_|refine xb_hit ?_|refine xb_miss (by decide) ?_|(apply W_reg;(simp [h0, h1, h5];exact .r _))
        have hbe : i = b.length := by omega
        subst hbe
        rw [List.drop_eq_getElem_cons hia, List.drop_length] at heq
        have : ¬ a.length < b.length := by omega
        simp [heq, cmpI, this]
  · repeat' first|refine W_seq ?_|refine W_block ?_|refine W_skip ?_|refine W_ret ?_|refine W_exit ?_|refine xb_hit ?_|refine xb_miss (by decide) ?_|(apply W_reg;(simp [h0, h1, h5, hia];exact .r _))
    refine W_cond (by simp [h0, h1, h5]; exact .r _) (fun hc => ?_) (fun hc => ?_)
    · simp at hc
    · repeat' first|refine W_seq ?_|refine W_block ?_|refine W_skip ?_|refine W_ret ?_|refine W_exit ?_|refine xb_hit ?_|refine xb_miss (by decide) ?_|(apply W_reg;(simp [h0, h1, h5];exact .r _))
      have hae : i = a.length := by omega
      subst hae
      rw [List.drop_length] at heq
      by_cases h : a.length < b.length
      · rw [List.drop_eq_getElem_cons h] at heq
        simp [heq, cmpI, h]
      · rw [List.drop_eq_nil_of_le (by omega)] at heq
        simp [heq, cmpI, h]
end Go.Proofs.YtmfifjbbjjdacaaGreat.V

