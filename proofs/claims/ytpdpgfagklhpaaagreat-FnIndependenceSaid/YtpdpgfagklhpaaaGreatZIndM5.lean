/- Several texts in one: what the claim needs of them. Conditions: each declaration's own. -/
import Derived.Test.YtpdpgfagklhpaaaGreatZIndM4
import Derived.Test.YtpdpgfagklhpaaaGreatZIndM2
import Derived.Orders
import Derived.Lib.SlKept
import Derived.Shelf.SlSortCmp.NoneTotal
import Derived.Shelf.SlGeneric
import Derived.Ground.SlsfProg
import Derived.Test.YtpdpgfagklhpaaaGreatProg
namespace Go.Proofs.YtpdpgfagklhpaaaGreat.V
open Go Go.Proofs Go.RowKit Go.Shelf Go.Sort
set_option linter.unusedVariables false
variable {P : Program} {M : Nat → Bool} {G0 : Giv} {α : Type} [EncI α]
/-- What the comparator is handed: the element in one value. -/
structure Pk (α : Type) [EncI α] (pv : List Value → Value) (pk : α → AV) : Prop where
  av : ∀ {h : Heap} {Z : Nat → Prop} {us : List Value} {x : α}, RepL h Z us (Enc.cells x) → AVRel Sto.e.ob (fun _ => ⟨0, 0, 0, false⟩) (fun _ => False) h Z (pv us) (pk x)
/-- The comparator in a world of the sort's. -/
structure CmpOk (P : Program) (M : Nat → Bool) (G0 : Giv) (α : Type) [EncI α] (pk : α → AV) (gf : Nat) (cmp : α → α → Int) (Q : α → Prop) : Prop where
  ret : ∀ x y : α, Q x → Q y → Ret (Rv P M G0) gf [pk x, pk y] (.t (.i .i64 (cmp x y)) false)
  swo : SWO (ltOf cmp)
theorem Evo.rowsSame {m m' : Md} {st st' sz : Nat} {old new : List (List T)} {bi : BI} {h h' : Heap} (hst : st < st') (hl : new.length = old.length) (hw : ∀ sz, (∀ r ∈ old, r.length = sz) → ∀ r ∈ new, r.length = sz) : Evo (.arr m st sz old) bi h (.arr m' st' sz new) bi h' := by
  refine ⟨fun p a' ha => ?_, fun p v h1 h2 hs => ?_, fun cs' h => by cases h⟩
  · cases p with
    | nil => simp only [VO.age, Option.some.injEq] at ha ⊢; exact ⟨_, rfl, by omega⟩
    | cons => simp only [VO.age, Option.some.injEq] at ha ⊢; exact ⟨_, rfl, by omega⟩
  · cases p with
    | nil =>
      refine ⟨rfl, fun q' h3 => ?_⟩
      simp only [VO.rows] at h3 ⊢
      split at h3
      · rename_i hcond
        cases h3
        refine ⟨old, by rw [if_pos (by omega)], by omega, fun sz' hw' => hw sz' hw', fun val h7 => ?_⟩
        rw [(h7.inv0 rfl).1]
        simp only [VO.val, VO.all]
        rw [← hl]
        exact .nil _ _
      · cases h3
    | cons ij p => simp only [VO.age, Option.some.injEq] at h1 h2; omega
theorem ext_all' {β : Type} (a : Array β) (n : Nat) (h : n = a.size) : a.extract 0 n = a := by subst h; simp
theorem sort_post {pv : List Value → Value} {pk : α → AV} (hm : P.follows .mixedOrders = true) (hG : GivOk P G0) {fs gf : Nat} (hcon : SortCon P fs (Enc.n α) pv) (hpk : Pk α pv pk) {cmp : α → α → Int} {Q : α → Prop} (hcmp : CmpOk P M G0 α pk gf cmp Q)
    {σ : Sto} {β : Nat → BI} {C Z : Nat → Prop} {own : Nat → Option Nat} {w : World} (R : Rel σ.ob β C w.heap Z own) {o st : Nat} {xs : List α} (hc : C o) (hob : σ.ob o = .arr (.own 0) st (Enc.n α) (rowsE xs)) (hQ : ∀ x ∈ xs, Q x) (hn : 0 < Enc.n α)
    (ha : ∀ a b, a ∈ xs → b ∈ xs → ¬ cmp b a < 0 → ¬ cmp a b < 0 → a = b) (hlen : xs.length < 4611686018427387904) :
    Calls P fs #[.slice (β o).addr xs.length (β o).cap, .func (.func gf) #[] #[]] w fun e w' => e = .returned (.tuple #[]) ∧ Mv σ.ob β C w.heap Z own (upd σ.ob o (.arr (.own 0) (st + 1) (Enc.n α) (rowsE (srt cmp xs)))) β C w'.heap Z own ∧ Wld w w' := by
  have hβ : upd β o (β o) = β := by
    funext x; unfold upd; split
    · rename_i e; rw [e]
    · rfl
  have HO := R.objs o hc
  unfold ObjRel at HO
  rw [hob] at HO
  obtain ⟨f, HO⟩ := HO
  have hE : ∀ h', Evo (σ.ob o) (β o) w.heap (.arr (.own 0) (st + 1) (Enc.n α) (rowsE (srt cmp xs))) (β o) h' := fun h' => by
    rw [hob]
    exact Evo.rowsSame (Nat.lt_succ_self _) (by simp [srt]) fun sz hw r hr => by
      have : ∃ x ∈ srt cmp xs, r = Enc.cells x := by
        obtain ⟨x, hx, rfl⟩ := List.mem_map.1 hr; exact ⟨x, hx, rfl⟩
      obtain ⟨x, hx, rfl⟩ := this
      exact hw _ (List.mem_map.2 ⟨x, (srt_perm.mem_iff).1 hx, rfl⟩)
  rcases Nat.eq_zero_or_pos xs.length with h0 | hpos
  · have hx : xs = [] := List.eq_nil_of_length_eq_zero h0
    subst hx
    refine (hcon.1 _ _ _ w).mono ?_
    rintro e w' ⟨rfl, rfl⟩
    refine ⟨rfl, ?_, Wld.refl _⟩
    have M1 := Mv.change R hc (.arr (.own 0) (st + 1) (Enc.n α) (rowsE (srt cmp ([] : List α)))) (β o) (h' := w'.heap) (own' := own) (Nat.le_refl _) (fun _ _ _ => rfl) (fun _ _ _ _ h => h) (fun b y h => ⟨R.own_lt b y h, .inl ⟨y, h⟩⟩) (fun _ _ h => h) (hE _) (fun _ => by
      unfold ObjRel
      rw [upd_same, upd_same]
      have e0 : srt cmp ([] : List α) = [] := by simp [srt]
      rw [e0]
      exact ⟨f, HO⟩)
    rw [hβ] at M1
    exact M1
  · haveI : Inhabited (Fin xs.length) := ⟨⟨0, hpos⟩⟩
    have hnil : (β o).isNil = false := by
      cases hb : (β o).isNil with
      | false => rfl
      | true =>
        have h1 := HO.nil hb
        have h2 := HO.cap
        rw [rowsE_len] at h2
        omega
    obtain ⟨hown, cells, e, hcell, hcs, hel⟩ := HO.blk hnil
    have hcap := HO.cap
    rw [rowsE_len] at hcap
    generalize hk0 : Enc.n α = k at *
    have hrow : ∀ (i : Nat) (hi : i < xs.length), (rowsE xs)[i]? = some (Enc.cells xs[i]) := fun i hi => by simp [rowsE, hi]
    have hlc : ∀ x : α, (Enc.cells x).length = k := fun x => by rw [Enc.len, hk0]
    let enc : Fin xs.length → List Value := fun i => (List.range k).map fun j => (cells[(β o).off + (i.val * k + j)]?).getD default
    have hel' : ∀ (i : Fin xs.length) (j : Nat) (hj : j < k), ∃ t, (Enc.cells xs[i.val])[j]? = some t ∧ (enc i)[j]? = cells[(β o).off + (i.val * k + j)]? ∧ ∃ v, (enc i)[j]? = some v ∧ NOwn w.heap (fun b => own b = some o) (β o) f 0 i.val j v t := fun i j hj => by
      have hjl : j < (Enc.cells xs[i.val]).length := by rw [hlc]; exact hj
      obtain ⟨v, h1, h2⟩ := hel i.val _ j _ (hrow i.val i.isLt) (List.getElem?_eq_getElem hjl)
      refine ⟨_, List.getElem?_eq_getElem hjl, ?_, v, ?_, h2⟩
      · simp only [enc, List.getElem?_map, List.getElem?_range hj, Option.map_some, h1, Option.getD_some]
      · simp only [enc, List.getElem?_map, List.getElem?_range hj, Option.map_some, h1, Option.getD_some]
    have hekl : ∀ i, (enc i).length = k := fun i => by simp [enc]
    have hd0 : (Array.ofFn fun i : Fin xs.length => i).size = xs.length := by simp
    have hat : ∀ (dk : Array (Fin xs.length)), dk.size = xs.length → ∀ t, t < xs.length * k → ∀ hh : t / k < dk.size, (flatK enc k dk)[t]? = (enc dk[t / k])[t % k]? := by
      intro dk hdk t ht hh
      have hlt : t < (flatK enc k dk).size := by rw [size_flatK, hdk]; exact ht
      have e1 := getElem!_pos (flatK enc k dk) t hlt
      have hm' : t % k < (enc dk[t / k]).length := by rw [hekl]; exact Nat.mod_lt _ hn
      have e2 := getElem!_pos (enc dk[t / k]) (t % k) hm'
      rw [Array.getElem?_eq_getElem hlt, ← e1, get_flatK _ _ _ _ (by rw [hdk]; exact ht), getElem!_pos dk _ hh, e2, List.getElem?_eq_getElem hm']
    have hfit : xs.length * k ≤ (β o).cap * k := Nat.mul_le_mul_right _ hcap
    have hH : HoldsK enc k w (β o).b (β o).off (Array.ofFn fun i : Fin xs.length => i) := by
      intro t ht
      rw [size_flatK, hd0] at ht
      have hq : t / k < xs.length := by rw [Nat.div_lt_iff_lt_mul hn]; exact ht
      have h2 := hat _ hd0 t ht (by rw [hd0]; exact hq)
      simp only [Array.getElem_ofFn] at h2
      have hlt : t < (flatK enc k (Array.ofFn fun i : Fin xs.length => i)).size := by rw [size_flatK, hd0]; exact ht
      have e1 := getElem!_pos (flatK enc k (Array.ofFn fun i : Fin xs.length => i)) t hlt
      rw [e1]
      rw [Array.getElem?_eq_getElem hlt] at h2
      obtain ⟨tt, _, h4, v, h5, _⟩ := hel' ⟨t / k, hq⟩ (t % k) (Nat.mod_lt _ hn)
      have e3 : t / k * k + t % k = t := by rw [Nat.mul_comm]; exact Nat.div_add_mod t k
      simp only [e3] at h4
      refine ⟨?_, ?_⟩
      · unfold World.cell?
        simp only [hcell]
        rw [← h4]
        simpa using h2.symm
      · unfold World.frozen?
        simp [hcell]
    have hlt : (β o).b < w.heap.size := R.own_lt _ _ hown
    have hZ1 : ∀ (m : Nat) (os : Array Obj) (dk : Array (Fin xs.length)) (x : Fin xs.length), RepL (sortWorldK enc k w (β o).b (β o).off m dk os).heap (fun b => b < w.heap.size ∧ b ≠ (β o).b) (enc x) (Enc.cells xs[x.val]) := fun m os dk x => by
      obtain ⟨hh1, hh2, hh3⟩ := heap_sortWorldK (enc := enc) (k := k) (off := (β o).off) (m := m) (dk := dk) (os := os) hcell
      refine ⟨by rw [hekl, hlc], fun j u t hu ht => ?_⟩
      have hj : j < k := by have := (List.getElem?_eq_some_iff.1 hu).1; rwa [hekl] at this
      obtain ⟨t', h1, _, v, h3, h4⟩ := hel' x j hj
      rw [hu] at h3; cases h3
      rw [ht] at h1; cases h1
      exact ((h4.2.2 (Nat.zero_le _)).mono (S' := fun b => b < w.heap.size ∧ b ≠ (β o).b) fun b hb => ⟨⟨R.own_lt _ _ hb.1, hb.2.1⟩, hh2 b (R.own_lt _ _ hb.1) hb.2.1⟩).rep fun b hb => hb
    have hcalls : ∀ (m : Nat) (os : Array Obj) (dk : Array (Fin xs.length)) (x y : Fin xs.length), (∃ fn, P.funcs[gf]? = some fn ∧ fn.body.isSome = true ∧ (fn.name == "runtime.NumGoroutine") = false) ∧ Calls P gf #[pv (enc x), pv (enc y)] (sortWorldK enc k w (β o).b (β o).off m dk os) fun e w' => e = .returned (.int .i64 (cmp xs[x.val] xs[y.val])) ∧ ∃ q os', w' = grow ((sortWorldK enc k w (β o).b (β o).off m dk os).drewN q) os' := fun m os dk x y => by
      obtain ⟨hh1, _⟩ := heap_sortWorldK (enc := enc) (k := k) (off := (β o).off) (m := m) (dk := dk) (os := os) hcell
      exact calls_grow hm hG (hcmp.ret xs[x.val] xs[y.val] (hQ _ (List.getElem_mem _)) (hQ _ (List.getElem_mem _))) (Z := fun b => b < w.heap.size ∧ b ≠ (β o).b) (fun b hb => Nat.lt_of_lt_of_le hb.1 hh1) (RelL.cons (hpk.av (hZ1 m os dk x)) (RelL.cons (hpk.av (hZ1 m os dk y)) RelL.nil))
    have heg : ∀ args w, (callFunc gf args).run P w = .ok (.enter gf args) w := fun args w' => by
      obtain ⟨fn, h1, h2, h3⟩ := (hcalls 0 #[] (Array.ofFn fun i : Fin xs.length => i) ⟨0, hpos⟩ ⟨0, hpos⟩).1
      have h3' : ¬ fn.name = "runtime.NumGoroutine" := by simpa using h3
      obtain ⟨code, hb⟩ := Option.isSome_iff_exists.1 h2
      simp [callFunc, h1, h3', hb]
    have hfin := hcon.2 xs.length enc hekl (fun i v hv => by
      obtain ⟨j, hj⟩ := List.getElem?_of_mem hv
      have hjk : j < k := by have := (List.getElem?_eq_some_iff.1 hj).1; rwa [hekl] at this
      obtain ⟨_, _, _, v', h3, h4⟩ := hel' i j hjk
      rw [hj] at h3; cases h3
      exact one_cell h4.1) (fun i j => cmp xs[i.val] xs[j.val]) ⟨fun i => hcmp.swo.irrefl xs[i.val], fun i j l => hcmp.swo.trans xs[i.val] xs[j.val] xs[l.val], fun i j l => hcmp.swo.ntrans xs[i.val] xs[j.val] xs[l.val]⟩ gf (β o).b (β o).off (β o).cap w heg
      (fun m os dk hdk x y => (hcalls m os dk x y).2) hH hlt hlen
    have haddr : (β o).addr = some ⟨(β o).b, (β o).off, none⟩ := by simp [BI.addr, hnil]
    rw [haddr]
    refine hfin.mono ?_
    rintro e' w' ⟨rfl, d', m, os, hperm, hs, rfl⟩
    obtain ⟨hh1, hh2, hh3⟩ := heap_sortWorldK (enc := enc) (k := k) (off := (β o).off) (m := m) (dk := d') (os := os) hcell
    have hsize : d'.size = xs.length := by rw [hperm.1, hd0]
    have hp' : d'.toList.Perm (List.ofFn fun i : Fin xs.length => i) := by
      have := hperm.2.2
      rw [ext_all' d' _ hsize.symm, ext_all' (Array.ofFn fun i : Fin xs.length => i) _ hd0.symm] at this
      simpa using this
    have hsrt : (d'.toList.map fun i => xs[i.val]) = srt cmp xs := by
      refine srt_eq hcmp.swo ha ?_ ?_
      · have := hp'.map fun i : Fin xs.length => xs[i.val]
        rwa [ofFn_map'] at this
      · refine List.pairwise_iff_getElem.2 fun i j hi hj hij hlt => ?_
        rw [List.length_map, Array.length_toList] at hi hj
        have h3 := hs i j (Nat.zero_le _) hij (by omega)
        rw [getElem!_pos d' j hj, getElem!_pos d' i hi] at h3
        rw [List.getElem_map, List.getElem_map] at hlt
        unfold ltOf at h3
        exact absurd hlt (of_decide_eq_false h3)
    have hnd : (d'.toList.map Fin.val).Nodup := by
      have h1 := hp'.symm.nodup (ofFn_nodup' _)
      refine List.pairwise_iff_getElem.2 fun i j hi hj hij he => ?_
      rw [List.length_map] at hi hj
      rw [List.getElem_map, List.getElem_map] at he
      exact absurd (Fin.ext he) (List.pairwise_iff_getElem.1 h1 i j hi hj hij)
    refine ⟨rfl, ?_, ⟨rfl, rfl, rfl, Nat.le_add_right _ _⟩⟩
    rw [← hsrt]
    rw [← hsrt] at hE
    have M1 := Mv.change R hc (.arr (.own 0) (st + 1) k (rowsE (d'.toList.map fun i => xs[i.val]))) (β o) (own' := own) hh1 (fun b hb hne => hh2 b hb fun e => by subst e; exact hne hown) (fun _ _ _ _ h => h) (fun b y h => ⟨Nat.lt_of_lt_of_le (R.own_lt b y h) hh1, .inl ⟨y, h⟩⟩) (fun _ _ h => h) (hE _) (fun _ => by
      unfold ObjRel
      rw [upd_same, upd_same]
      refine ⟨fun b => ((d'.toList.map Fin.val).idxOf (f b).1, (f b).2), fun r hr => ?_, ?_, fun hx => (by rw [hnil] at hx; cases hx), fun _ => ⟨hown, _, e, hh3, ?_, fun i r j t hi hj => ?_⟩⟩
      · obtain ⟨x, hx, rfl⟩ := List.mem_map.1 hr
        exact hlc x
      · rw [rowsE_len, List.length_map, Array.length_toList, hsize]; exact hcap
      · simp only [putCells, Array.size_mapIdx]; exact hcs
      · have hil : i < d'.size := by
          have := (List.getElem?_eq_some_iff.1 hi).1
          rwa [rowsE_len, List.length_map, Array.length_toList] at this
        have hr : r = Enc.cells xs[(d'[i]).val] := by
          simp only [rowsE, List.getElem?_map, Array.getElem?_toList, Array.getElem?_eq_getElem hil, Option.map_some, Option.some.injEq] at hi
          exact hi.symm
        subst hr
        have hjk : j < k := by have := (List.getElem?_eq_some_iff.1 hj).1; rwa [hlc] at this
        obtain ⟨t', h1, h2, v, h3, h4⟩ := hel' d'[i] j hjk
        rw [hj] at h1; cases h1
        have hik : (i + 1) * k ≤ xs.length * k := Nat.mul_le_mul_right _ (by omega)
        rw [Nat.add_mul] at hik
        have ht : i * k + j < xs.length * k := by omega
        refine ⟨v, ?_, h4.1, fun hf => (h4.2.1 hf).mono fun b hb => hb.elim, fun _ => (h4.2.2 (Nat.zero_le _)).mono fun b hb => ⟨⟨hb.1, hb.2.1, ?_⟩, hh2 b (R.own_lt _ _ hb.1) hb.2.1⟩⟩
        · have e1 : (i * k + j) / k = i := by rw [Nat.mul_comm, Nat.mul_add_div hn, Nat.div_eq_of_lt hjk, Nat.add_zero]
          have e2 : (i * k + j) % k = j := by rw [Nat.mul_comm, Nat.mul_add_mod, Nat.mod_eq_of_lt hjk]
          have h5 := hat d' hsize (i * k + j) ht (by rw [e1]; exact hil)
          simp only [e1, e2] at h5
          rw [h3] at h5
          have hlf : i * k + j < (flatK enc k d').size := by rw [size_flatK, hsize]; exact ht
          have hcl : (β o).off + (i * k + j) < cells.size := by omega
          simp only [putCells, Array.getElem?_mapIdx]
          rw [Array.getElem?_eq_getElem hcl]
          simp only [Option.map_some, id]
          rw [if_pos ⟨by omega, by omega⟩, show (β o).off + (i * k + j) - (β o).off = i * k + j by omega, getElem!_pos (flatK enc k d') (i * k + j) hlf]
          rw [Array.getElem?_eq_getElem hlf] at h5
          exact h5
        · show ((d'.toList.map Fin.val).idxOf (f b).1, (f b).2) = (i, j)
          rw [hb.2.2]
          simp only [Prod.mk.injEq, and_true]
          have hm1 : (d'[i]).val ∈ d'.toList.map Fin.val := List.mem_map.2 ⟨d'[i], by simp, rfl⟩
          have hil2 := List.idxOf_lt_length_of_mem hm1
          refine inj_of_nodup' hnd hil2 (by simpa using hil) ?_
          rw [List.getElem_idxOf hil2, List.getElem_map]
          simp)
    rw [hβ] at M1
    exact M1
end Go.Proofs.YtpdpgfagklhpaaaGreat.V

namespace Go.Proofs.YtpdpgfagklhpaaaGreat.V
open Go Go.Proofs Go.RowKit Go.Shelf Go.Sort
set_option linter.unusedVariables false
/-- What is asked of the rows. -/
def SrtOk {α : Type} (cmp : α → α → Int) (Q : α → Prop) (xs : List α) : Prop := (∀ x ∈ xs, Q x) ∧ ∀ a b, a ∈ xs → b ∈ xs → ¬ cmp b a < 0 → ¬ cmp a b < 0 → a = b
open Classical in
/-- Rows of the caller's own, put in order. -/
noncomputable def sortG (α : Type) [EncI α] (cmp : α → α → Int) (Q : α → Prop) (gf : Nat) (args : List AV) (σ : Sto) : Option (AV × Sto) :=
  match args with
  | [.ref o v [], .clo g []] => if g = gf then match σ.ob o with
    | .arr (.own 0) st sz rows =>
      if h : sz = Enc.n α ∧ rows.length = v ∧ v < 4611686018427387904 ∧ ∃ xs : List α, rows = rowsE xs ∧ SrtOk cmp Q xs then some (.tup [], σ.set o (.arr (.own 0) (st + 1) sz (rowsE (srt cmp h.2.2.2.choose)))) else none
    | _ => none
    else none
  | _ => none
theorem sortG_eq {α : Type} [EncI α] {cmp : α → α → Int} {Q : α → Prop} {gf o st v : Nat} {σ : Sto} {xs : List α} (hob : σ.ob o = .arr (.own 0) st (Enc.n α) (rowsE xs)) (hv : v = xs.length) (hlen : xs.length < 4611686018427387904) (h : SrtOk cmp Q xs) :
    sortG α cmp Q gf [.ref o v [], .clo gf []] σ = some (.tup [], σ.set o (.arr (.own 0) (st + 1) (Enc.n α) (rowsE (srt cmp xs)))) := by
  have hh : Enc.n α = Enc.n α ∧ (rowsE xs).length = v ∧ v < 4611686018427387904 ∧ ∃ ys : List α, rowsE xs = rowsE ys ∧ SrtOk cmp Q ys := ⟨rfl, by rw [rowsE_len, hv], by omega, xs, rfl, h⟩
  simp only [sortG, if_pos, hob]
  rw [dif_pos hh]
  have := rowsE_inj hh.2.2.2.choose_spec.1
  rw [← this]
theorem two_of {a : Array Value} (h : a.size = 0 + 1 + 1) : ∃ v0 v1, a = #[v0, v1] := by
  obtain ⟨l⟩ := a
  match l, h with
  | [x, y], _ => exact ⟨x, y, rfl⟩
theorem sortG_ok {P : Program} {M : Nat → Bool} {G0 : Giv} {α : Type} [EncI α] {pv : List Value → Value} {pk : α → AV} (hm : P.follows .mixedOrders = true) (hG : GivOk P G0) {fs gf : Nat} (hcon : SortCon P fs (Enc.n α) pv) (hpk : Pk α pv pk) {cmp : α → α → Int} {Q : α → Prop} (hcmp : CmpOk P M G0 α pk gf cmp Q)
    (hn : 0 < Enc.n α) {args : List AV} {σ σ' : Sto} {r : AV} (H : sortG α cmp Q gf args σ = some (r, σ'))
    {β : Nat → BI} {C Z : Nat → Prop} {own : Nat → Option Nat} {w : World} {vals : Array Value} (R : Rel σ.ob β C w.heap Z own) (hf : ∀ o, σ.n ≤ o → ¬ C o) (hargs : RelL σ.ob β C w.heap Z vals.toList args) :
    Calls P fs vals w (fun e w' => ∃ val, e = .returned val ∧ Post σ β C w.heap Z own σ' val r w'.heap ∧ Wld w w') := by
  unfold sortG at H
  split at H
  · rename_i o v g
    split at H
    · rename_i hg
      subst hg
      split at H
      · rename_i st sz rows hob
        split at H
        · rename_i h
          cases H
          obtain ⟨hsz, hv, hlt, hex⟩ := h
          obtain ⟨hrows, hQ, ha⟩ := hex.choose_spec
          generalize hex.choose = xs at hrows hQ ha
          subst hsz; subst hrows
          obtain ⟨h1, h2⟩ := hargs
          simp only [List.length_cons, List.length_nil, Array.length_toList] at h1
          obtain ⟨v0, v1, hvs⟩ := two_of h1
          subst hvs
          have e0 := h2 0 v0 _ rfl rfl
          have e1 := h2 1 v1 _ rfl rfl
          cases e0 with
          | ref _ _ _ a l c hc hx =>
            cases e1 with
            | clo _ vs _ hs _ =>
              have hvs0 : vs = #[] := Array.eq_empty_of_size_eq_zero (by simpa using hs)
              subst hvs0
              rw [hob] at hx
              rw [← hv] at hx
              have hval := hx.whole
              rw [hval, rowsE_len]
              refine (sort_post hm hG hcon hpk hcmp R hc hob hQ hn ha (by rw [rowsE_len] at hv; omega)).mono ?_
              rintro e w' ⟨rfl, hM, hw⟩
              exact ⟨_, rfl, ⟨β, C, Z, own, hM, fun o ho => .inl ho, Nat.le_refl _, .tup _ _ (by simp) fun i u x hu => by simp at hu⟩, hw⟩
        · cases H
      · cases H
    · cases H
  · cases H
end Go.Proofs.YtpdpgfagklhpaaaGreat.V

namespace Go.Proofs.YtpdpgfagklhpaaaGreat.V
open Go
set_option linter.unusedVariables false
variable {ob ob' : Nat → VO} {β β' : Nat → BI} {C C' : Nat → Prop} {h h' : Heap} {Z Z' : Nat → Prop} {own own' : Nat → Option Nat}
/-- Who owns the blocks, when o's go to n. -/
def ownM (own : Nat → Option Nat) (o n : Nat) : Nat → Option Nat := fun b => if own b = some o then some n else own b
theorem Mv.move (R : Rel ob β C h Z own) {o n : Nat} (hc : C o) (hn : ¬ C n) (x : VO) (bi : BI) (hsz : h.size ≤ h'.size) (hkeep : ∀ b, b < h.size → own b ≠ some o → h'[b]? = h[b]?)
    (hx : ObjRel (upd (upd ob o .dead) n x) (upd β n bi) (fun a => C a ∨ a = n) h' Z (ownM own o n) n) :
    Mv ob β C h Z own (upd (upd ob o .dead) n x) (upd β n bi) (fun a => C a ∨ a = n) h' Z (ownM own o n) := by
  have hon : o ≠ n := fun e => hn (e ▸ hc)
  have hne : ∀ a, C a → a ≠ n := fun a ha e => hn (e ▸ ha)
  have hZ : ∀ b, Z b → Z b ∧ h'[b]? = h[b]? := fun b hz => ⟨hz, hkeep b (R.zlt b hz).1 fun e => by rw [(R.zlt b hz).2] at e; cases e⟩
  have hk : ∀ o', o' ≠ o → ∀ b, own b = some o' → h'[b]? = h[b]? := fun o' hne b hb => hkeep b (R.own_lt b o' hb) fun e => hne (Option.some.inj (hb.symm.trans e))
  have hevo : ∀ a, C a → (C a ∨ a = n) ∧ Evo (ob a) (β a) h (upd (upd ob o .dead) n x a) (upd β n bi a) h' := fun a ha => by
    refine ⟨.inl ha, ?_⟩
    rw [upd_ne _ _ (hne a ha), upd_ne _ _ (hne a ha)]
    by_cases e : a = o
    · subst e; rw [upd_same]; exact Evo.dead
    · rw [upd_ne _ _ e]; exact R.evoKeep ha (hk a e)
  have hAV : ∀ v a, AVRel ob β C h Z v a → AVRel (upd (upd ob o .dead) n x) (upd β n bi) (fun a => C a ∨ a = n) h' Z v a := fun v a => AVRel.mono hZ hevo
  refine ⟨⟨fun b y hb => ?_, fun b hb => ⟨Nat.lt_of_lt_of_le (R.zlt b hb).1 hsz, ?_⟩, fun a ha => ?_, fun a ha => ?_⟩, ⟨hsz, fun b hb hnn => hkeep b hb (by rw [hnn]; simp), fun b y hb => ?_, fun _ h => h, fun _ h => .inl h⟩, hevo⟩
  · unfold ownM at hb
    split at hb
    · rename_i e; exact Nat.lt_of_lt_of_le (R.own_lt b o e) hsz
    · exact Nat.lt_of_lt_of_le (R.own_lt b y hb) hsz
  · unfold ownM
    rw [if_neg (by rw [(R.zlt b hb).2]; simp)]; exact (R.zlt b hb).2
  · rcases ha with ha | rfl
    · by_cases e : a = o
      · subst e
        unfold ObjRel
        rw [upd_ne _ _ hon, upd_same]
        trivial
      · refine ObjRel.mono (by rw [upd_ne _ _ (hne a ha), upd_ne _ _ e]) (upd_ne _ _ (hne a ha)) (fun b hb => ⟨?_, hk a e b hb⟩) hZ hAV (R.objs a ha)
        unfold ownM
        rw [if_neg (by rw [hb]; intro h; exact e (Option.some.inj h))]; exact hb
    · exact hx
  · have h1 : a ≠ n := fun e => ha (.inr e)
    have h2 : a ≠ o := fun e => ha (.inl (e ▸ hc))
    rw [upd_ne _ _ h1, upd_ne _ _ h2]
    exact R.dead a fun hc => ha (.inl hc)
  · unfold ownM at hb
    split at hb
    · rename_i e; exact .inl ⟨o, e⟩
    · exact .inl ⟨y, hb⟩
end Go.Proofs.YtpdpgfagklhpaaaGreat.V

namespace Go.Proofs.YtpdpgfagklhpaaaGreat.V
open Go Go.Proofs
set_option linter.unusedVariables false
abbrev Row := List Int
/-- In order. -/
abbrev Ord (l : List Row) : Prop := l.Pairwise fun a b => ¬ cmpI b a < 0
/-- In strictly ascending order. -/
abbrev Asc (l : List Row) : Prop := l.Pairwise fun a b => cmpI a b < 0
/-- Equal neighbours once. -/
def uniq : List Row → List Row
  | a :: b :: l => if a = b then uniq (b :: l) else a :: uniq (b :: l)
  | l => l
def srtU (l : List Row) : List Row := uniq (srt cmpI l)
theorem cmp_asym {a b : Row} (h : cmpI a b < 0) : ¬ cmpI b a < 0 := fun h2 => by
  have := cmp_trans a b a h h2
  rw [cmp_self] at this; omega
theorem mem_uniq : ∀ (l : List Row) (x : Row), x ∈ uniq l ↔ x ∈ l
  | [], _ => Iff.rfl
  | [_], _ => Iff.rfl
  | a :: b :: l, x => by
    unfold uniq
    split
    · rename_i e; subst e; rw [mem_uniq (a :: l) x]; simp
    · rw [List.mem_cons, mem_uniq (b :: l) x, ← List.mem_cons]
theorem asc_uniq : ∀ {l : List Row}, Ord l → Asc (uniq l)
  | [], _ => List.Pairwise.nil
  | [_], _ => by simp [uniq]
  | a :: b :: l, h => by
    unfold uniq
    split
    · exact asc_uniq (List.pairwise_cons.1 h).2
    · rename_i hne
      refine List.pairwise_cons.2 ⟨fun x hx => ?_, asc_uniq (List.pairwise_cons.1 h).2⟩
      have hx := (mem_uniq _ _).1 hx
      have h1 := (List.pairwise_cons.1 h).1
      have hab : cmpI a b < 0 := cmp_flip b a (h1 b (by simp)) fun e => hne e.symm
      rcases List.mem_cons.1 hx with rfl | hx2
      · exact hab
      · have h2 := (List.pairwise_cons.1 (List.pairwise_cons.1 h).2).1 x hx2
        by_cases e : b = x
        · subst e; exact hab
        · exact cmp_trans a b x hab (cmp_flip x b h2 fun h => e h.symm)
theorem asc_ord {l : List Row} (h : Asc l) : Ord l := h.imp fun h => cmp_asym h
theorem asc_nodup {l : List Row} (h : Asc l) : l.Nodup := h.imp fun {a b} h e => by subst e; rw [cmp_self] at h; omega
theorem srt_of {l m : List Row} (h : Ord l) (hp : l.Perm m) : l = srt cmpI m := srt_eq swoL (fun a b _ _ h1 h2 => antiL a b h1 h2) hp h
theorem asc_ext {l m : List Row} (h1 : Asc l) (h2 : Asc m) (h : ∀ x, x ∈ l ↔ x ∈ m) : l = m := by
  rw [srt_of (asc_ord h1) ((List.perm_ext_iff_of_nodup (asc_nodup h1) (asc_nodup h2)).2 h)]
  exact (srt_of (asc_ord h2) (List.Perm.refl _)).symm
theorem asc_srtU (l : List Row) : Asc (srtU l) := asc_uniq (srt_sorted swoL)
theorem mem_srtU {l : List Row} {x : Row} : x ∈ srtU l ↔ x ∈ l := by rw [srtU, mem_uniq]; exact srt_perm.mem_iff
theorem srtU_of {l m : List Row} (h1 : Asc l) (h : ∀ x, x ∈ l ↔ x ∈ m) : l = srtU m := asc_ext h1 (asc_srtU m) fun x => (h x).trans mem_srtU.symm
/-- A row put at its place. -/
theorem ord_ins {out : List Row} {x : Row} {k : Nat} (h : Ord out) (hk : k ≤ out.length) (h1 : ∀ j (hj : j < out.length), j < k → ¬ cmpI x out[j] < 0) (h2 : ∀ j (hj : j < out.length), k ≤ j → cmpI x out[j] < 0) : Ord (out.take k ++ [x] ++ out.drop k) := by
  rw [List.append_assoc, List.singleton_append]
  refine List.pairwise_append.2 ⟨h.sublist (List.take_sublist _ _), ?_, fun a ha b hb => ?_⟩
  · refine List.pairwise_cons.2 ⟨fun b hb => ?_, h.sublist (List.drop_sublist _ _)⟩
    obtain ⟨j, hj, rfl⟩ := List.mem_iff_getElem.1 hb
    rw [List.getElem_drop]
    exact cmp_asym (h2 _ (by simp at hj; omega) (by omega))
  · obtain ⟨j, hj, rfl⟩ := List.mem_iff_getElem.1 ha
    have hj' : j < k ∧ j < out.length := by simp at hj; omega
    rw [List.getElem_take]
    rcases List.mem_cons.1 hb with rfl | hb
    · exact h1 _ hj'.2 hj'.1
    · obtain ⟨i, hi, rfl⟩ := List.mem_iff_getElem.1 hb
      rw [List.getElem_drop]
      exact List.pairwise_iff_getElem.1 h j (k + i) hj'.2 (by simp at hi; omega) (by omega)
theorem asc_ins {out : List Row} {x : Row} {k : Nat} (h : Asc out) (hk : k ≤ out.length) (h1 : ∀ j (hj : j < out.length), j < k → cmpI out[j] x < 0) (h2 : ∀ j (hj : j < out.length), k ≤ j → cmpI x out[j] < 0) : Asc (out.take k ++ [x] ++ out.drop k) := by
  rw [List.append_assoc, List.singleton_append]
  refine List.pairwise_append.2 ⟨h.sublist (List.take_sublist _ _), ?_, fun a ha b hb => ?_⟩
  · refine List.pairwise_cons.2 ⟨fun b hb => ?_, h.sublist (List.drop_sublist _ _)⟩
    obtain ⟨j, hj, rfl⟩ := List.mem_iff_getElem.1 hb
    rw [List.getElem_drop]
    exact h2 _ (by simp at hj; omega) (by omega)
  · obtain ⟨j, hj, rfl⟩ := List.mem_iff_getElem.1 ha
    have hj' : j < k ∧ j < out.length := by simp at hj; omega
    rw [List.getElem_take]
    rcases List.mem_cons.1 hb with rfl | hb
    · exact h1 _ hj'.2 hj'.1
    · obtain ⟨i, hi, rfl⟩ := List.mem_iff_getElem.1 hb
      rw [List.getElem_drop]
      exact List.pairwise_iff_getElem.1 h j (k + i) hj'.2 (by simp at hi; omega) (by omega)
theorem ins_perm {α : Type} (out : List α) (x : α) (k : Nat) : (out.take k ++ [x] ++ out.drop k).Perm (out ++ [x]) := by
  have h1 : (out.take k ++ [x] ++ out.drop k).Perm (out.take k ++ (out.drop k ++ [x])) := by
    rw [List.append_assoc]; exact (List.perm_append_comm).append_left _
  rwa [← List.append_assoc, List.take_append_drop] at h1
/-- Equal neighbours counted. -/
def runsF (out : List Cnt) (t : Row) : List Cnt :=
  match out.getLast? with
  | some c => if c.tuple = t then out.dropLast ++ [⟨t, c.count + 1⟩] else out ++ [⟨t, 1⟩]
  | none => [⟨t, 1⟩]
def runs (l : List Row) : List Cnt := l.foldl runsF []
end Go.Proofs.YtpdpgfagklhpaaaGreat.V

namespace Go.Proofs.YtpdpgfagklhpaaaGreat.V
open Go Go.Proofs
set_option linter.unusedVariables false
/-- What each variable is bound to. -/
abbrev Bnd := List (Option Int)
def getB (b : Bnd) (t : Int) : Option Int := (b[t.toNat]?).join
def valB (b : Bnd) (t : Int) : Int := if t < 0 then -1 - t else (getB b t).getD 0
def mtch : List Int → List Int → Bnd → Option Bnd
  | t :: ts, v :: vs, b => if t < 0 then (if -1 - t = v then mtch ts vs b else none) else
    match getB b t with
    | none => mtch ts vs (b.set t.toNat (some v))
    | some x => if x = v then mtch ts vs b else none
  | _, _, b => some b
def mtchA (a f : RA) (b : Bnd) : Option Bnd := if a.rel = f.rel ∧ a.args.length = f.args.length then mtch a.args f.args b else none
def binds (db : List RA) : List RA → Bnd → List Bnd
  | [], b => [b]
  | a :: body, b => db.flatMap fun f => match mtchA a f b with
    | some b' => binds db body b'
    | none => []
/-- b' binds what b binds, to the same. -/
def Ext (b b' : Bnd) : Prop := b.length = b'.length ∧ ∀ (t : Int) (v : Int), getB b t = some v → getB b' t = some v
theorem Ext.refl (b : Bnd) : Ext b b := ⟨rfl, fun _ _ h => h⟩
theorem Ext.trans {a b c : Bnd} (h : Ext a b) (k : Ext b c) : Ext a c := ⟨h.1.trans k.1, fun t v hv => k.2 t v (h.2 t v hv)⟩
theorem getB_set {b : Bnd} {t u : Int} {v : Int} (h0 : 0 ≤ t) (ht : t.toNat < b.length) (hu : 0 ≤ u) : getB (b.set t.toNat (some v)) u = if u = t then some v else getB b u := by
  unfold getB
  rw [List.getElem?_set]
  by_cases e : u = t
  · subst e; simp [ht]
  · rw [if_neg (by omega), if_neg e]
/-- The arguments are constants, or variables that the binding has a place for. -/
def TermsIn (n : Nat) (l : List Int) : Prop := ∀ t ∈ l, t < n
theorem ext_set {b : Bnd} {t v : Int} (h0 : 0 ≤ t) (ht : t.toNat < b.length) (hn : getB b t = none) : Ext b (b.set t.toNat (some v)) := by
  refine ⟨by simp, fun u x hu => ?_⟩
  rcases Int.lt_or_le u 0 with h | h
  · have : u.toNat = 0 := by omega
    unfold getB at hu ⊢
    rw [this] at hu ⊢
    rw [List.getElem?_set]
    split
    · rename_i e
      unfold getB at hn
      rw [e] at hn
      rw [hn] at hu; cases hu
    · exact hu
  · rw [getB_set h0 ht h]
    split
    · rename_i e; subst e; rw [hn] at hu; cases hu
    · exact hu
theorem mtch_ext : ∀ (ts vs : List Int) {b b' : Bnd}, TermsIn b.length ts → ts.length = vs.length → mtch ts vs b = some b' → Ext b b' ∧ ts.map (valB b') = vs ∧ (∀ t ∈ ts, 0 ≤ t → ∃ v, getB b' t = some v)
  | [], [], b, b', _, _, h => by cases h; exact ⟨.refl _, rfl, fun t ht => by simp at ht⟩
  | [], _ :: _, b, b', _, hl, _ => by simp at hl
  | _ :: _, [], b, b', _, hl, _ => by simp at hl
  | t :: ts, v :: vs, b, b', hT, hl, h => by
    have hts : TermsIn b.length ts := fun u hu => hT u (List.mem_cons_of_mem _ hu)
    have htb := hT t (by simp)
    simp only [List.length_cons, Nat.add_right_cancel_iff] at hl
    unfold mtch at h
    split at h
    · rename_i h0
      split at h
      · rename_i h1
        obtain ⟨h2, h3, h4⟩ := mtch_ext ts vs hts hl h
        refine ⟨h2, ?_, fun u hu hu0 => ?_⟩
        · rw [List.map_cons, h3]; simp [valB, h0, h1]
        · rcases List.mem_cons.1 hu with rfl | hu
          · omega
          · exact h4 u hu hu0
      · cases h
    · rename_i h0
      have h0' : 0 ≤ t := by omega
      split at h
      · rename_i hg
        have hx := ext_set (v := v) h0' (by omega) hg
        obtain ⟨h2, h3, h4⟩ := mtch_ext ts vs (b := b.set t.toNat (some v)) (by rw [← hx.1]; exact hts) hl h
        have ht : getB b' t = some v := h2.2 t v (by rw [getB_set h0' (by omega) h0', if_pos rfl])
        refine ⟨hx.trans h2, ?_, fun u hu hu0 => ?_⟩
        · rw [List.map_cons, h3]; simp [valB, h0, ht]
        · rcases List.mem_cons.1 hu with rfl | hu
          · exact ⟨v, ht⟩
          · exact h4 u hu hu0
      · rename_i x hg
        split at h
        · rename_i hxv
          subst hxv
          obtain ⟨h2, h3, h4⟩ := mtch_ext ts vs hts hl h
          have ht := h2.2 t _ hg
          refine ⟨h2, ?_, fun u hu hu0 => ?_⟩
          · rw [List.map_cons, h3]; simp [valB, h0, ht]
          · rcases List.mem_cons.1 hu with rfl | hu
            · exact ⟨x, ht⟩
            · exact h4 u hu hu0
        · cases h
/-- What the values of a binding are, -1 where there is none. -/
def encB (b : Bnd) : Row := b.map fun o => o.getD (-1)
theorem mem_binds_cons {db : List RA} {a : RA} {body : List RA} {b c : Bnd} : c ∈ binds db (a :: body) b ↔ ∃ f ∈ db, ∃ b', mtchA a f b = some b' ∧ c ∈ binds db body b' := by
  simp only [binds, List.mem_flatMap]
  constructor
  · rintro ⟨f, hf, h⟩
    cases hm : mtchA a f b with
    | none => rw [hm] at h; simp at h
    | some b' => rw [hm] at h; exact ⟨f, hf, b', hm, h⟩
  · rintro ⟨f, hf, b', hm, h⟩
    exact ⟨f, hf, by rw [hm]; exact h⟩
/-- All atoms became facts, and all variables are bound. -/
theorem binds_spec {db : List RA} : ∀ (body : List RA) {b c : Bnd}, (∀ a ∈ body, TermsIn b.length a.args) → c ∈ binds db body b →
    Ext b c ∧ ∀ a ∈ body, (∃ f ∈ db, f.rel = a.rel ∧ f.args = a.args.map (valB c)) ∧ ∀ t ∈ a.args, 0 ≤ t → ∃ v, getB c t = some v
  | [], b, c, _, h => by
    simp [binds] at h; subst h; exact ⟨.refl _, fun a ha => by simp at ha⟩
  | a :: body, b, c, hT, h => by
    obtain ⟨f, hf, b', hm, hc⟩ := mem_binds_cons.1 h
    unfold mtchA at hm
    split at hm
    · rename_i hcond
      obtain ⟨h1, h2, h3⟩ := mtch_ext a.args f.args (hT a (by simp)) hcond.2 hm
      obtain ⟨h4, h5⟩ := binds_spec body (b := b') (fun x hx => by rw [← h1.1]; exact hT x (List.mem_cons_of_mem _ hx)) hc
      refine ⟨h1.trans h4, fun x hx => ?_⟩
      rcases List.mem_cons.1 hx with rfl | hx
      · refine ⟨⟨f, hf, hcond.1.symm, ?_⟩, fun t ht h0 => ?_⟩
        · rw [← h2]
          apply List.map_congr_left
          intro t ht
          unfold valB
          split
          · rfl
          · rename_i h0
            obtain ⟨v, hv⟩ := h3 t ht (by omega)
            rw [hv, h4.2 t v hv]
        · obtain ⟨v, hv⟩ := h3 t ht h0
          exact ⟨v, h4.2 t v hv⟩
      · exact h5 x hx
    · cases hm
theorem binds_len {db : List RA} {body : List RA} {b c : Bnd} (hT : ∀ a ∈ body, TermsIn b.length a.args) (h : c ∈ binds db body b) : c.length = b.length := (binds_spec body hT h).1.1.symm
def b0 : Bnd := List.replicate 20 none
theorem b0_len : b0.length = 20 := rfl
end Go.Proofs.YtpdpgfagklhpaaaGreat.V

namespace Go.Proofs.YtpdpgfagklhpaaaGreat.V
open Go Go.Proofs
set_option linter.unusedVariables false
structure Sch where
  arity : List Int
  deriving DecidableEq
instance : Enc Sch := ⟨fun a => [.sl (rowsE a.arity)], 1, false, fun _ => rfl, fun h => by cases h⟩
@[simp] theorem cells_Sch (a : Sch) : Enc.cells a = [.sl (rowsE a.arity)] := rfl
@[simp] theorem n_Sch : Enc.n Sch = 1 := rfl
def inR (x lo hi : Int) : Bool := decide (lo ≤ x ∧ x ≤ hi)
def isVar (t : Int) : Bool := inR t 0 19
def isTerm (t : Int) : Bool := inR t (-80) 19
def constOf (t : Int) : Int := if isTerm t && !isVar t then -1 - t else -1
def isSch (s : Sch) : Bool := s.arity.all (fun n => inR n 1 3) && inR s.arity.length 1 4
def takes (s : Sch) (rel n : Int) : Bool := isSch s && inR rel 0 (s.arity.length - 1) && decide (s.arity[rel.toNat]?.getD 0 = n)
def isAtom (s : Sch) (a : RA) : Bool := takes s a.rel a.args.length && a.args.all isTerm
def occurs (q : Qry) (t : Int) : Bool := q.body.any fun a => decide (t ∈ a.args)
def isSafe (q : Qry) : Bool := q.head.all fun t => !isVar t || occurs q t
def isQry (s : Sch) (q : Qry) : Bool := isSch s && decide (q.head.length ≤ 3) && q.head.all isTerm && inR q.body.length 1 4 && q.body.all (isAtom s) && isSafe q
def isFact (s : Sch) (f : RA) : Bool := takes s f.rel f.args.length && f.args.all (fun x => inR x 0 99)
def ascF : List RA → Bool
  | a :: b :: l => decide (cmpF a b < 0) && ascF (b :: l)
  | _ => true
def isDb (s : Sch) (db : List RA) : Bool := db.all (isFact s) && ascF db && isSch s && decide (db.length ≤ 24)
theorem isVar_iff {t : Int} : isVar t = true ↔ 0 ≤ t ∧ t ≤ 19 := by simp [isVar, inR]
theorem isTerm_iff {t : Int} : isTerm t = true ↔ -80 ≤ t ∧ t ≤ 19 := by simp [isTerm, inR]
theorem ascF_pair : ∀ {l : List RA}, ascF l = true → l.Pairwise fun a b => cmpF a b < 0
  | [], _ => List.Pairwise.nil
  | [_], _ => by simp
  | a :: b :: l, h => by
    simp only [ascF, Bool.and_eq_true, decide_eq_true_eq] at h
    have ih := ascF_pair h.2
    refine List.pairwise_cons.2 ⟨fun x hx => ?_, ih⟩
    rcases List.mem_cons.1 hx with rfl | hx
    · exact h.1
    · have h2 := (List.pairwise_cons.1 ih).1 x hx
      have := swoF.trans a b x (by rw [lt_dec, decide_eq_true_eq]; exact h.1) (by rw [lt_dec, decide_eq_true_eq]; exact h2)
      rwa [lt_dec, decide_eq_true_eq] at this
theorem takes_len {s : Sch} {rel : Int} {n : Nat} (h : takes s rel n = true) : n ≤ 3 := by
  simp only [takes, Bool.and_eq_true, decide_eq_true_eq, isSch, inR, List.all_eq_true] at h
  obtain ⟨⟨⟨h1, h2⟩, h3⟩, h4⟩ := h
  have : rel.toNat < s.arity.length := by omega
  rw [List.getElem?_eq_getElem this] at h4
  have := h1 _ (List.getElem_mem this)
  simp at h4
  omega
theorem isQry_small {s : Sch} {q : Qry} (h : isQry s q = true) : q.head.length ≤ 3 ∧ q.body.length ≤ 4 ∧ (∀ t ∈ q.head, -80 ≤ t ∧ t ≤ 19) ∧ ∀ a ∈ q.body, a.args.length ≤ 3 ∧ ∀ t ∈ a.args, -80 ≤ t ∧ t ≤ 19 := by
  simp only [isQry, Bool.and_eq_true, decide_eq_true_eq, List.all_eq_true, isTerm_iff, inR, isAtom] at h
  obtain ⟨⟨⟨⟨⟨h1, h2⟩, h3⟩, h4⟩, h5⟩, h6⟩ := h
  exact ⟨h2, by omega, h3, fun a ha => ⟨takes_len (h5 a ha).1, (h5 a ha).2⟩⟩
end Go.Proofs.YtpdpgfagklhpaaaGreat.V

namespace Go.Proofs.YtpdpgfagklhpaaaGreat.V
open Go Go.Proofs
/-- The functions whose work is given: sorts. -/
def srtFs : List Nat := [
  70,
  900000]
/-- The functions that work over one box. -/
def Ps : List Nat := [53, 22, 20, 985802, 45, 960470, 983885, 954967, 72, 51, 14, 52, 41, 956481, 15, 989024, 975733, 43, 50, 16, 926016, 19, 969594, 977544, 909907, 979044, 916674, 950200, 934559, 987330, 933132, 964147, 952454, 901702, 956523, 954651, 985512, 987083, 963752, 964875, 928661, 908403, 911221, 922463, 904993, 962965]
/-- The functions that work over the caller's store. -/
def Ms : Nat → Bool := fun f => srtFs.contains f || [36, 79, 982562, 40, 965163, 927410, 911941, 954767, 37, 931929, 972420, 984653, 904197, 919488, 961226, 926960, 935953, 953973, 917958, 909718, 970530, 909840, 914852, 980750, 931884, 912810, 973132, 976810, 989185, 931201, 981815, 922309].contains f || Ps.contains f || (decide (1000000 ≤ f) && Ps.contains (f - 1000000))
/-- Lengths that the machine can tell. -/
abbrev Sm {α : Type} (l : List α) : Prop := l.length < 1099511627775
noncomputable def srtL : List (Nat × (List AV → Sto → Option (AV × Sto))) := [
  (70, sortG (List Int) cmpI (fun c => Sm c) 71),
  (900000, fun _ _ => none)]
def lookG : List (Nat × (List AV → Sto → Option (AV × Sto))) → Nat → Option (List AV → Sto → Option (AV × Sto))
  | [], _ => none
  | q :: l, f => if f = q.1 then some q.2 else lookG l f
noncomputable def Gs : Giv := lookG srtL
theorem lookG_no : ∀ {l : List (Nat × (List AV → Sto → Option (AV × Sto)))} {f : Nat}, (l.map (·.1)).contains f = false → lookG l f = none
  | [], _, _ => rfl
  | q :: l, f, h => by
    simp only [List.map_cons, List.contains_cons, Bool.or_eq_false_iff, beq_eq_false_iff_ne] at h
    rw [lookG, if_neg h.1, lookG_no h.2]
theorem lookG_mem : ∀ {l : List (Nat × (List AV → Sto → Option (AV × Sto)))} {f : Nat} {g : List AV → Sto → Option (AV × Sto)}, lookG l f = some g → (f, g) ∈ l
  | [], _, _, h => by cases h
  | q :: l, f, g, h => by
    rw [lookG] at h
    split at h
    · rename_i e; cases h; subst e; exact List.mem_cons_self
    · exact List.mem_cons_of_mem _ (lookG_mem h)
/-- Nothing else is given. -/
class NoG (G : Giv) : Prop where
  no : ∀ f, srtFs.contains f = false → G f = none
instance : NoG (fun _ => none) := ⟨fun _ _ => rfl⟩
theorem srt_names : srtL.map (·.1) = srtFs := rfl
instance : NoG Gs := ⟨fun f h => lookG_no (by rw [srt_names]; exact h)⟩
noncomputable abbrev XX : Ora := Rv Tryz.prog Ms Gs
theorem cvg {G : Giv} {f : Nat} {as_ : List AV} {x : XV} (H : Ret (Rv Tryz.prog Ms G) f as_ x) (hM : Ms f = false := by rfl) (σ : Sto) (args : List AV) (ha : args.mapM (reify σ) = some as_) :
    callV Ms (Rv Tryz.prog Ms G) σ f args = if x.sh then (freezeL σ (args.flatMap ids)).map fun σf => place σf x else some (place σ x) := callV_ret H hM ha
theorem cv {f : Nat} {as_ : List AV} {x : XV} (H : Ret XX f as_ x) (hM : Ms f = false := by rfl) (σ : Sto) (args : List AV) (ha : args.mapM (reify σ) = some as_) :
    callV Ms XX σ f args = if x.sh then (freezeL σ (args.flatMap ids)).map fun σf => place σf x else some (place σ x) := callV_ret H hM ha
/-- Names that lie apart. -/
class Apart (p : Prop) (q : outParam Prop) where
  of : p → q
instance {m n : Nat} : Apart (m ≤ n) ((∀ i, i < m → (i = n) = False) ∧ (∀ i, i < m → (n = i) = False) ∧ (∀ i j, i < m → (i = n + j) = False) ∧ ∀ i j, i < m → (n + j = i) = False) := ⟨fun h => ⟨fun i hi => eq_false (by omega), fun i hi => eq_false (by omega), fun i j hi => eq_false (by omega), fun i j hi => eq_false (by omega)⟩⟩
instance {m n : Nat} : Apart (m < n) ((m = n) = False ∧ (n = m) = False ∧ (∀ j, (m = n + j) = False) ∧ ∀ j, (n + j = m) = False) := ⟨fun h => ⟨eq_false (by omega), eq_false (by omega), fun j => eq_false (by omega), fun j => eq_false (by omega)⟩⟩
theorem apart {p q : Prop} [Apart p q] (h : p) : q := Apart.of h
end Go.Proofs.YtpdpgfagklhpaaaGreat.V

namespace Go.Proofs.YtpdpgfagklhpaaaGreat.V
open Go Go.Proofs
set_option linter.unusedVariables false
set_option linter.unusedSimpArgs false
section
variable {G : Giv} [NoG G]
theorem isNaN_r (a : Int) : Ret (Rv Tryz.prog Ms G) 101 [In a] (.t (.b false) false) := by
  refine ret_W (NoG.no _ rfl) Tryz.func101 rfl rfl (by simp [Tryz.f101]) ?_
  simp only [Tryz.f101]
  repeat' first|refine nx ?_|refine xb_miss (by decide) ?_|(apply W_reg;(simp;exact .r _))
  simp
theorem cmpInt_r (a b : Int) : Ret (Rv Tryz.prog Ms G) 86 [In a, In b] (.t (.i .i64 (if a < b then -1 else if b < a then 1 else 0)) false) := by
  refine ret_W (NoG.no _ rfl) Tryz.func86 rfl rfl (by simp [Tryz.f86]) ?_
  simp only [Tryz.f86]
  have h1 := cvg (isNaN_r (G := G) a)
  have h2 := cvg (isNaN_r (G := G) b)
  repeat' first|refine nx ?_|refine xb_miss (by decide) ?_|(apply W_reg;(simp [h1, h2];exact .r _))
  refine W_cond (by simp [h1, h2]; exact .r _) (fun hc => ?_) (fun hc => ?_)
  · cases hc
  repeat' first|refine nx ?_|refine xb_miss (by decide) ?_|(apply W_reg;(simp [h1, h2];exact .r _))
  refine W_cond (by simp [h1, h2]; exact .r _) (fun hc => ?_) (fun hc => ?_)
  · cases hc
  repeat' first|refine nx ?_|refine xb_miss (by decide) ?_|(apply W_reg;(simp [h1, h2];exact .r _))
  refine W_cond (by simp [h1, h2]; exact .r _) (fun hc => ?_) (fun hc => ?_)
  · repeat' first|refine nx ?_|refine xb_miss (by decide) ?_|(apply W_reg;(simp [h1, h2];exact .r _))
    have : a < b := by simpa using hc
    simp [this]
  repeat' first|refine nx ?_|refine xb_miss (by decide) ?_|(apply W_reg;(simp [h1, h2];exact .r _))
  have hab : ¬ a < b := by simpa using hc
  refine W_cond (by simp [h1, h2]; exact .r _) (fun hd => ?_) (fun hd => ?_)
  · repeat' first|refine nx ?_|refine xb_miss (by decide) ?_|(apply W_reg;(simp [h1, h2];exact .r _))
    have : b < a := by simpa using hd
    simp [this, hab]
  · repeat' first|refine nx ?_|refine xb_miss (by decide) ?_|(apply W_reg;(simp [h1, h2];exact .r _))
    have : ¬ b < a := by simpa using hd
    simp [this, hab]
theorem cmpI_step {a b : List Int} {i : Nat} (ha : i < a.length) (hb : i < b.length) : cmpI (a.drop i) (b.drop i) = if a[i] < b[i] then -1 else if b[i] < a[i] then 1 else cmpI (a.drop (i + 1)) (b.drop (i + 1)) := by
  rw [List.drop_eq_getElem_cons ha, List.drop_eq_getElem_cons hb]; rfl
theorem cmpRow_r (a b : List Int) (ha : Sm a) : Ret (Rv Tryz.prog Ms G) 71 [Ar a, Ar b] (.t (.i .i64 (cmpI a b)) false) := by
  refine ret_W (NoG.no _ rfl) Tryz.func71 rfl rfl (by simp [Tryz.f71]) ?_
  simp only [Tryz.f71]
  repeat' first|refine nx ?_|refine xb_miss (by decide) ?_|(apply W_reg;(simp;exact .r _))
  refine W_loop (n := a.length) (fun n s => ∃ i : Nat, n = a.length - i ∧ s.nt = 36 ∧ s.tm 0 = Ar a ∧ s.tm 1 = Ar b ∧ s.tm 9 = Ar a ∧ s.tm 10 = In a.length ∧ s.tm 11 = In i ∧ i ≤ a.length ∧ i ≤ b.length ∧ cmpI a b = cmpI (a.drop i) (b.drop i)) ⟨0, by simp⟩ ?_
  rintro n ⟨nt, tm, σ⟩ ⟨i, rfl, hnt, h0, h1, h9, h10, h11, hi, hib, heq⟩
  simp only at hnt h0 h1 h9 h10 h11
  subst hnt
  repeat' first|refine nx ?_|refine xb_miss (by decide) ?_|(apply W_reg;(simp [h0, h1, h9, h10, h11];exact .r _))
  refine W_cond (by simp [h0, h1, h9, h10, h11]; exact .r _) (fun hc => ?_) (fun hc => ?_)
  · have hia : i < a.length := by simpa using hc
    repeat' first|refine nx ?_|refine xb_miss (by decide) ?_|(apply W_reg;(simp [h0, h1, h9, h10, h11, hia];exact .r _))
    refine W_cond (by simp [h0, h1, h9, h10, h11]; exact .r _) (fun hd => ?_) (fun hd => ?_)
    · have : i = b.length := by simp at hd; omega
      subst this
      repeat' first|refine nx ?_|refine xb_miss (by decide) ?_|(apply W_reg;(simp [h0, h1, h9, h10, h11];exact .r _))
      rw [heq, List.drop_eq_getElem_cons hia, List.drop_length]
      simp [cmpI]
    have hib' : i < b.length := by simp at hd; omega
    have hcc := cvg (cmpInt_r (G := G) a[i] b[i])
    repeat' first|refine nx ?_|refine xb_miss (by decide) ?_|(apply W_reg;(simp [h0, h1, h9, h10, h11, hib', hcc];exact .r _))
    rw [cmpI_step hia hib'] at heq
    refine W_cond (by simp [h0, h1, h9, h10, h11]; exact .r _) (fun he => ?_) (fun he => ?_)
    · repeat' first|refine nx ?_|refine xb_miss (by decide) ?_|(apply W_reg;(simp [h0, h1, h9, h10, h11];exact .r _))
      have : cmpI a b = if a[i] < b[i] then -1 else if b[i] < a[i] then 1 else 0 := by
        rw [heq]
        by_cases h : a[i] < b[i]
        · simp [h]
        · by_cases h2 : b[i] < a[i]
          · simp [h2]
          · simp [h, h2] at he
      simp [this]
    · have hab : ¬ a[i] < b[i] := fun h => by simp [h] at he
      have hba : ¬ b[i] < a[i] := fun h => by simp [hab, h] at he
      repeat' first|refine nx ?_|refine xb_miss (by decide) ?_|(apply W_reg;(simp [h0, h1, h9, h10, h11];exact .r _))
      refine ⟨_, ?_, i + 1, rfl, rfl, ?_, ?_, ?_, ?_, ?_, by omega, by omega, by rw [heq, if_neg hab, if_neg hba]⟩
      all_goals first|assumption|(simp [h0, h1, h9, h10, h11];done)|(simp [h0, h1, h9, h10, h11];omega)|(simp [h0, h1, h9, h10, h11];exact wrap_succ (by omega))|omega
  · have hil : i = a.length := by simp at hc; omega
    subst hil
    repeat' first|refine nx ?_|refine xb_miss (by decide) ?_|(apply W_reg;(simp [h0, h1, h9, h10, h11];exact .r _))
    rw [List.drop_length] at heq
    refine W_cond (by simp [h0, h1, h9, h10, h11]; exact .r _) (fun he => ?_) (fun he => ?_)
    · repeat' first|refine nx ?_|refine xb_miss (by decide) ?_|(apply W_reg;(simp [h0, h1, h9, h10, h11];exact .r _))
      have hlt : a.length < b.length := by simpa using he
      rw [heq, List.drop_eq_getElem_cons hlt]
      simp [cmpI]
    · repeat' first|refine nx ?_|refine xb_miss (by decide) ?_|(apply W_reg;(simp [h0, h1, h9, h10, h11];exact .r _))
      have hge : b.length ≤ a.length := by simpa using he
      rw [heq, List.drop_eq_nil_of_le hge]
      simp [cmpI]
theorem cmpF_r (a b : RA) (ha : Sm a.args) : Ret (Rv Tryz.prog Ms G) 67 [Ag a, Ag b] (.t (.i .i64 (cmpF a b)) false) := by
  refine ret_W (NoG.no _ rfl) Tryz.func67 rfl rfl (by simp [Tryz.f67]) ?_
  simp only [Tryz.f67]
  have h1 := cvg (cmpRow_r (G := G) a.args b.args ha)
  repeat' first|refine nx ?_|refine xb_miss (by decide) ?_|(apply W_reg;(simp [Ag, h1];exact .r _))
  refine W_cond (by simp; exact .r _) (fun hc => ?_) (fun hc => ?_)
  · have h : a.rel < b.rel := by simpa using hc
    repeat' first|refine nx ?_|refine xb_miss (by decide) ?_|(apply W_reg;(simp;exact .r _))
    simp [cmpF, h]
  have h : ¬ a.rel < b.rel := by simpa using hc
  repeat' first|refine nx ?_|refine xb_miss (by decide) ?_|(apply W_reg;(simp [Ag, h1];exact .r _))
  refine W_cond (by simp; exact .r _) (fun hd => ?_) (fun hd => ?_)
  · have h2 : b.rel < a.rel := by simpa using hd
    repeat' first|refine nx ?_|refine xb_miss (by decide) ?_|(apply W_reg;(simp;exact .r _))
    simp [cmpF, h, h2]
  have h2 : ¬ b.rel < a.rel := by simpa using hd
  repeat' first|refine nx ?_|refine xb_miss (by decide) ?_|(apply W_reg;(simp [Ag, h1];exact .r _))
  simp [cmpF, h, h2]
theorem eqInts_g (a b : List Int) (ha : Sm a) : Ret (Rv Tryz.prog Ms G) 29 [Ar a, Ar b] (.t (.b (decide (a = b))) false) := by
  refine ret_W (NoG.no _ rfl) Tryz.func29 rfl rfl (by simp [Tryz.f29]) ?_
  simp only [Tryz.f29]
  repeat' first | refine W_seq ?_ | (apply W_reg; (simp; exact .r _)) | refine W_block ?_ | refine W_ret ?_
  refine W_cond (by simp; exact .r _) (fun hc => ?_) (fun hc => ?_)
  · repeat' first | refine W_seq ?_ | (apply W_reg; (simp; exact .r _)) | refine W_ret ?_
    have : a ≠ b := fun e => by subst e; simp at hc
    simp [this]
  refine W_skip ?_
  have hl : a.length = b.length := by simp at hc; omega
  repeat' first | refine W_seq ?_ | (apply W_reg; (simp; exact .r _)) | refine W_block ?_ | refine W_ret ?_
  refine W_loop (n := a.length) (fun n s => ∃ i, n = a.length - i ∧ i ≤ a.length ∧ s.nt = 26 ∧ s.tm 0 = Ar a ∧ s.tm 1 = Ar b ∧ s.tm 12 = In a.length ∧ s.tm 13 = In i ∧ a.take i = b.take i) ⟨0, by simp⟩ ?_
  rintro n ⟨nt, tm, σ⟩ ⟨i, rfl, hi, h1, h0, h1', h12, h13, heq⟩
  simp only at h1 h0 h1' h12 h13
  subst h1
  repeat' first | refine W_seq ?_ | (apply W_reg; (simp [h12, h13]; exact .r _))
  refine W_cond (by simp; exact .r _) (fun hc => ?_) (fun hc => ?_)
  · refine W_skip ?_
    have hia : i < a.length := by simpa using hc
    have hib : i < b.length := by omega
    repeat' first | refine W_seq ?_ | refine W_block ?_ | (apply W_reg; (simp [h12, h13]; exact .r _))
    apply W_draw [0, 0, 3, 7, 0, 0, 48, 112, 255] rfl rfl
    · simp; exact .r _
    · simp [h0, h1', hia, hib]; exact .r _
    · trivial
    refine W_cond (by simp; exact .r _) (fun hd => ?_) (fun hd => ?_)
    · repeat' first | refine W_seq ?_ | (apply W_reg; (simp; exact .r _)) | refine W_ret ?_
      have : a ≠ b := fun e => by subst e; simp at hd
      simp [this]
    · have hd : a[i] = b[i] := by simpa using hd
      repeat' first | refine W_skip ?_ | refine W_seq ?_ | (apply W_reg; (simp [h13]; exact .r _))
      refine ⟨a.length - (i + 1), by omega, i + 1, rfl, by omega, rfl, by simp [h0], by simp [h1'], by simp [h12], by simp; exact wrap_succ (by omega), ?_⟩
      rw [List.take_succ_eq_append_getElem hia, List.take_succ_eq_append_getElem hib, heq, hd]
  · have hil : i = a.length := by simp at hc; omega
    subst hil
    refine W_exit (xb_hit ?_)
    repeat' first | refine W_seq ?_ | (apply W_reg; (simp; exact .r _)) | refine W_ret ?_
    rw [List.take_length, hl, List.take_length] at heq
    have : a = b := heq
    simp [this]
end
end Go.Proofs.YtpdpgfagklhpaaaGreat.V

namespace Go.Proofs.YtpdpgfagklhpaaaGreat.V
open Go Go.Proofs
set_option linter.unusedVariables false
set_option linter.unusedSimpArgs false
theorem eqInts_r (a b : List Int) (ha : Sm a) : Ret XX 29 [Ar a, Ar b] (.t (.b (decide (a = b))) false) := eqInts_g a b ha
end Go.Proofs.YtpdpgfagklhpaaaGreat.V

namespace Go.Proofs.YtpdpgfagklhpaaaGreat.V
open Go Go.Proofs
set_option linter.unusedVariables false
set_option linter.unusedSimpArgs false
def fidx {α : Type} (p : α → Bool) : List α → Nat → Int
  | [], _ => -1
  | a :: l, k => if p a then k else fidx p l (k + 1)
end Go.Proofs.YtpdpgfagklhpaaaGreat.V

namespace Go.Proofs.YtpdpgfagklhpaaaGreat.Shl
open Go.Shelf Go.Proofs
def sortI_ren : Go.Shelf.Ren := ⟨fun | 6 => 70 | 15 => 85 | 14 => 84 | 28 => 99 | 29 => 100 | 20 => 91 | 21 => 92 | 22 => 93 | 23 => 94 | 24 => 95 | 25 => 96 | 26 => 97 | 27 => 98 | 46 => 103 | 47 => 104 | 48 => 105 | 49 => 106 | 50 => 107 | 57 => 108 | n => n, fun | 22 => 65 | 24 => 24 | 25 => 101 | 3 => 3 | 39 => 104 | 0 => 0 | 53 => 124 | 55 => 126 | 4 => 4 | 46 => 117 | 45 => 116 | 50 => 121 | 5 => 5 | 9 => 9 | 66 => 128 | 70 => 132 | 76 => 134 | 77 => 135 | n => n, fun | n => n⟩
theorem sortI : Go.Proofs.SlLaysF.n6 Tryz.prog sortI_ren := {
  mixed := by kernel_rfl
  f6 := ⟨Tryz.f70.name, by decide, Tryz.func70.trans (congrArg some (by kernel_rfl))⟩
  f14 := ⟨Tryz.f84.name, by decide, Tryz.func84.trans (congrArg some (by kernel_rfl))⟩
  f15 := Tryz.func85.trans (congrArg some (by kernel_rfl))
  f20 := ⟨Tryz.f91.name, by decide, Tryz.func91.trans (congrArg some (by kernel_rfl))⟩
  f21 := ⟨Tryz.f92.name, by decide, Tryz.func92.trans (congrArg some (by kernel_rfl))⟩
  f22 := ⟨Tryz.f93.name, by decide, Tryz.func93.trans (congrArg some (by kernel_rfl))⟩
  f23 := ⟨Tryz.f94.name, by decide, Tryz.func94.trans (congrArg some (by kernel_rfl))⟩
  f24 := ⟨Tryz.f95.name, by decide, Tryz.func95.trans (congrArg some (by kernel_rfl))⟩
  f25 := ⟨Tryz.f96.name, by decide, Tryz.func96.trans (congrArg some (by kernel_rfl))⟩
  f26 := ⟨Tryz.f97.name, by decide, Tryz.func97.trans (congrArg some (by kernel_rfl))⟩
  f27 := ⟨Tryz.f98.name, by decide, Tryz.func98.trans (congrArg some (by kernel_rfl))⟩
  f28 := Tryz.func99.trans (congrArg some (by kernel_rfl))
  f29 := Tryz.func100.trans (congrArg some (by kernel_rfl))
  f46 := ⟨Tryz.f103.name, by decide, Tryz.func103.trans (congrArg some (by kernel_rfl))⟩
  f47 := Tryz.func104.trans (congrArg some (by kernel_rfl))
  f48 := Tryz.func105.trans (congrArg some (by kernel_rfl))
  f49 := ⟨Tryz.f106.name, by decide, Tryz.func106.trans (congrArg some (by kernel_rfl))⟩
  f50 := ⟨Tryz.f107.name, by decide, Tryz.func107.trans (congrArg some (by kernel_rfl))⟩
  f57 := ⟨Tryz.f108.name, by decide, Tryz.func108.trans (congrArg some (by kernel_rfl))⟩
  t0 := Tryz.underlying0
  a0 := Tryz.isAgg0
  z0 := Tryz.sizeOf0
  v0 := Tryz.zeroValue0
  t3 := Tryz.underlying3
  a3 := Tryz.isAgg3
  z3 := Tryz.sizeOf3
  v3 := Tryz.zeroValue3
  t4 := Tryz.underlying4
  a4 := Tryz.isAgg4
  z4 := Tryz.sizeOf4
  v4 := Tryz.zeroValue4
  t5 := Tryz.underlying5
  a5 := Tryz.isAgg5
  z5 := Tryz.sizeOf5
  v5 := Tryz.zeroValue5
  t9 := Tryz.underlying9
  a9 := Tryz.isAgg9
  z9 := Tryz.sizeOf9
  v9 := Tryz.zeroValue9
  t22 := Tryz.underlying65
  a22 := Tryz.isAgg65
  z22 := Tryz.sizeOf65
  v22 := Tryz.zeroValue65
  a24 := Tryz.isAgg24
  z24 := Tryz.sizeOf24
  t25 := Tryz.underlying101
  a25 := Tryz.isAgg101
  z25 := Tryz.sizeOf101
  v25 := Tryz.zeroValue101
  t39 := Tryz.underlying104
  a39 := Tryz.isAgg104
  z39 := Tryz.sizeOf104
  v39 := Tryz.zeroValue104
  t45 := Tryz.underlying116
  a45 := Tryz.isAgg116
  z45 := Tryz.sizeOf116
  v45 := Tryz.zeroValue116
  t46 := Tryz.underlying117
  a46 := Tryz.isAgg117
  z46 := Tryz.sizeOf117
  v46 := Tryz.zeroValue117
  t50 := Tryz.underlying121
  a50 := Tryz.isAgg121
  z50 := Tryz.sizeOf121
  v50 := Tryz.zeroValue121
  t53 := Tryz.underlying124
  a53 := Tryz.isAgg124
  z53 := Tryz.sizeOf124
  v53 := Tryz.zeroValue124
  t55 := Tryz.underlying126
  a55 := Tryz.isAgg126
  z55 := Tryz.sizeOf126
  v55 := Tryz.zeroValue126
  t66 := Tryz.underlying128
  a66 := Tryz.isAgg128
  z66 := Tryz.sizeOf128
  v66 := Tryz.zeroValue128
  t70 := Tryz.underlying132
  a70 := Tryz.isAgg132
  z70 := Tryz.sizeOf132
  v70 := Tryz.zeroValue132
  t76 := Tryz.underlying134
  a76 := Tryz.isAgg134
  z76 := Tryz.sizeOf134
  v76 := Tryz.zeroValue134
  t77 := Tryz.underlying135
  a77 := Tryz.isAgg135
  z77 := Tryz.sizeOf135
  v77 := Tryz.zeroValue135 }
end Go.Proofs.YtpdpgfagklhpaaaGreat.Shl

namespace Go.Proofs.YtpdpgfagklhpaaaGreat.V
open Go Go.Proofs
theorem pk_one : Pk (List Int) (fun us => us.headD (.bool true)) (fun x => Ar x) := ⟨fun {h Z us x} H => by
  obtain ⟨hl, hr⟩ := H
  match us, hl with
  | [u], _ => exact .t u _ (hr 0 u _ rfl rfl)⟩
theorem noGiv : GivOk Tryz.prog (fun _ => none) := fun f args σ r σ' H => by cases H
theorem mixed : Tryz.prog.follows .mixedOrders = true := by kernel_rfl
theorem givOk : GivOk Tryz.prog Gs := by
  intro f args σ r σ' H
  simp only [Option.bind_eq_some_iff] at H
  obtain ⟨g, hg, H⟩ := H
  have hm := lookG_mem hg
  simp only [srtL, List.mem_cons, List.not_mem_nil, or_false, Prod.mk.injEq] at hm
  rcases hm with ⟨rfl, rfl⟩ | ⟨rfl, rfl⟩
  · exact ⟨⟨_, Tryz.func70, rfl, rfl⟩, fun R hf hargs => sortG_ok (M := Ms) mixed noGiv (sortCon_1 (ρ := Shl.sortI_ren) Shl.sortI) pk_one ⟨fun x y hx hy => cmpRow_r x y hx, swoL⟩ (by decide) H R hf hargs⟩
  · cases H
end Go.Proofs.YtpdpgfagklhpaaaGreat.V

namespace Go.Proofs.YtpdpgfagklhpaaaGreat.V
open Go Go.Proofs
set_option linter.unusedVariables false
theorem rowsE_set {α : Type} [Enc α] (l : List α) (i : Nat) (x : α) : rowsE (l.set i x) = (rowsE l).set i (Enc.cells x) := by simp [rowsE, List.map_set]
/-- A name for a slice in an array that owns. -/
def Nm (st : Nat) (rows : List (List T)) (v : Nat) (p : List (Nat × Nat)) (q : List (List T)) : Prop := (p = [] → rows.length = v) ∧ (p ≠ [] → v = st) ∧ rowsAt rows p = some q
theorem Nm.rows {st sz v : Nat} {rows q : List (List T)} {p : List (Nat × Nat)} (h : Nm st rows v p q) : (VO.arr (.own 0) st sz rows).rows v p = some q := by
  obtain ⟨h1, h2, h3⟩ := h
  cases p with
  | nil => simp only [rowsAt, Option.some.injEq] at h3; subst h3; simp [VO.rows, h1 rfl]
  | cons a p => obtain ⟨i, j⟩ := a; simp only [VO.rows]; rw [if_pos ⟨h2 (by simp), Nat.zero_le _⟩]; exact h3
theorem mod_get {α : Type} {l : List α} {i : Nat} {r : α} (f : α → α) (h : l[i]? = some r) : (l.modify i f)[i]? = some (f r) := by
  rw [List.getElem?_modify, h]; simp
theorem rowsAt_set : ∀ {rows : List (List T)} {p : List (Nat × Nat)} {q : List (List T)} (f : List (List T) → List (List T)), rowsAt rows p = some q → rowsAt (setAt rows p f) p = some (f q)
  | rows, [], q, f, h => by simp only [rowsAt, Option.some.injEq] at h; subst h; rfl
  | rows, (i, j) :: p, q, f, h => by
    simp only [rowsAt] at h
    split at h
    · rename_i q0 hq
      rw [Option.bind_eq_some_iff] at hq
      obtain ⟨r, h1, h2⟩ := hq
      simp only [rowsAt, setAt]
      rw [mod_get _ h1]
      simp only [Option.bind_some]
      rw [mod_get _ h2]
      exact rowsAt_set f h
    · cases h
/-- The name stays a name. -/
theorem Nm.set {st v : Nat} {rows q q' : List (List T)} {p : List (Nat × Nat)} (h : Nm st rows v p q) (hl : q'.length = q.length) : Nm st (setAt rows p fun _ => q') v p q' := by
  obtain ⟨h1, h2, h3⟩ := h
  refine ⟨fun e => ?_, h2, rowsAt_set _ h3⟩
  subst e
  simp only [rowsAt, Option.some.injEq] at h3
  subst h3
  simp only [setAt]
  rw [hl]; exact h1 rfl
class Mk (α : Type) where
  cnt : α → Nat
  mrk : Int → α → α
section
variable {α : Type} [Mk α]
def cntL (l : List α) : Nat := (l.map Mk.cnt).sum
def mkL : Int → List α → List α
  | _, [] => []
  | k, a :: l => Mk.mrk k a :: mkL (k + Mk.cnt a) l
end
instance : Mk Int := ⟨fun _ => 1, fun k _ => k⟩
@[simp] theorem cnt_int (x : Int) : Mk.cnt x = 1 := rfl
@[simp] theorem mrk_int (k x : Int) : Mk.mrk k x = k := rfl
instance {α : Type} [Mk α] : Mk (List α) := ⟨cntL, mkL⟩
@[simp] theorem cnt_list {α : Type} [Mk α] (x : List α) : Mk.cnt x = cntL x := rfl
@[simp] theorem mrk_list {α : Type} [Mk α] (k : Int) (x : List α) : Mk.mrk k x = mkL k x := rfl
instance : Mk Cnt := ⟨fun c => cntL c.tuple + 1, fun k c => ⟨mkL k c.tuple, k + cntL c.tuple⟩⟩
/-- Atoms and facts: the relation first. -/
instance : Mk RA := ⟨fun a => 1 + cntL a.args, fun k a => ⟨k, mkL (k + 1) a.args⟩⟩
instance : Mk Qry := ⟨fun q => cntL q.head + cntL q.body, fun k q => ⟨mkL k q.head, mkL (k + cntL q.head) q.body⟩⟩
end Go.Proofs.YtpdpgfagklhpaaaGreat.V

namespace Go.Proofs.YtpdpgfagklhpaaaGreat.V
open Go Go.Proofs
set_option linter.unusedVariables false
structure Src where
  facts : List RA
  version : Int
  deriving DecidableEq
instance : Enc Src := ⟨fun a => [.sl (rowsE a.facts), .i .i64 a.version], 2, false, fun _ => rfl, fun h => by cases h⟩
@[simp] theorem cells_Src (a : Src) : Enc.cells a = [.sl (rowsE a.facts), .i .i64 a.version] := rfl
@[simp] theorem n_Src : Enc.n Src = 2 := rfl
structure Chg where
  insert : Bool
  fact : RA
  deriving DecidableEq
instance : Enc Chg := ⟨fun a => [.b a.insert, .i .i64 a.fact.rel, .sl (rowsE a.fact.args)], 3, false, fun _ => rfl, fun h => by cases h⟩
@[simp] theorem cells_Chg (a : Chg) : Enc.cells a = [.b a.insert, .i .i64 a.fact.rel, .sl (rowsE a.fact.args)] := rfl
@[simp] theorem n_Chg : Enc.n Chg = 3 := rfl
structure Cch where
  views : List Qry
  tables : List (List (List Int))
  version : Int
  deriving DecidableEq
instance : Enc Cch := ⟨fun a => [.sl (rowsE a.views), .sl (rowsE a.tables), .i .i64 a.version], 3, false, fun _ => rfl, fun h => by cases h⟩
@[simp] theorem cells_Cch (a : Cch) : Enc.cells a = [.sl (rowsE a.views), .sl (rowsE a.tables), .i .i64 a.version] := rfl
@[simp] theorem n_Cch : Enc.n Cch = 3 := rfl
structure Wtd where
  query : Qry
  weight : Int
  deriving DecidableEq
instance : Enc Wtd := ⟨fun a => [.sl (rowsE a.query.head), .sl (rowsE a.query.body), .i .i64 a.weight], 3, false, fun _ => rfl, fun h => by cases h⟩
@[simp] theorem cells_Wtd (a : Wtd) : Enc.cells a = [.sl (rowsE a.query.head), .sl (rowsE a.query.body), .i .i64 a.weight] := rfl
@[simp] theorem n_Wtd : Enc.n Wtd = 3 := rfl
structure Crt where
  rw_ : Qry
  forth : List Int
  back : List Int
  deriving DecidableEq
instance : Enc Crt := ⟨fun a => [.sl (rowsE a.rw_.head), .sl (rowsE a.rw_.body), .sl (rowsE a.forth), .sl (rowsE a.back)], 4, false, fun _ => rfl, fun h => by cases h⟩
@[simp] theorem cells_Crt (a : Crt) : Enc.cells a = [.sl (rowsE a.rw_.head), .sl (rowsE a.rw_.body), .sl (rowsE a.forth), .sl (rowsE a.back)] := rfl
@[simp] theorem n_Crt : Enc.n Crt = 4 := rfl
structure Ses where
  seen : Int
  lag : Int
  deriving DecidableEq
instance : Enc Ses := ⟨fun a => [.i .i64 a.seen, .i .i64 a.lag], 2, true, fun _ => rfl, fun _ _ => rfl⟩
@[simp] theorem cells_Ses (a : Ses) : Enc.cells a = [.i .i64 a.seen, .i .i64 a.lag] := rfl
@[simp] theorem n_Ses : Enc.n Ses = 2 := rfl
instance : Mk Wtd := ⟨fun w => cntL w.query.head + cntL w.query.body + 1, fun k w => ⟨⟨mkL k w.query.head, mkL (k + cntL w.query.head) w.query.body⟩, k + cntL w.query.head + cntL w.query.body⟩⟩
/-- What a size function counts; bounds on what it counted. -/
class Lw (α : Type) where
  w : α → Nat
  bd : Nat → α → Prop
  bd_of : ∀ (N : Nat) (a : α), w a ≤ N → bd N a
instance : Lw Int := ⟨fun _ => 0, fun _ _ => True, fun _ _ _ => trivial⟩
def wL {α : Type} [Lw α] (l : List α) : Nat := l.length + (l.map Lw.w).sum
theorem wL_mem {α : Type} [Lw α] {l : List α} {x : α} (h : x ∈ l) : Lw.w x ≤ (l.map Lw.w).sum := by
  induction l with
  | nil => simp at h
  | cons a l ih =>
    simp only [List.map_cons, List.sum_cons]
    rcases List.mem_cons.1 h with rfl | h
    · omega
    · have := ih h; omega
instance {α : Type} [Lw α] : Lw (List α) := ⟨wL, fun N l => l.length ≤ N ∧ ∀ x ∈ l, Lw.bd N x, fun N l h => ⟨by unfold wL at h; omega, fun x hx => Lw.bd_of N x (by have := wL_mem hx; unfold wL at h; omega)⟩⟩
@[simp] theorem w_int (x : Int) : Lw.w x = 0 := rfl
theorem w_list {α : Type} [Lw α] (x : List α) : Lw.w x = wL x := rfl
instance : Lw RA := ⟨fun a => wL a.args, fun N a => Lw.bd N a.args, fun N a h => Lw.bd_of N a.args h⟩
instance : Lw Cnt := ⟨fun a => wL a.tuple, fun N a => Lw.bd N a.tuple, fun N a h => Lw.bd_of N a.tuple h⟩
instance : Lw Sch := ⟨fun a => wL a.arity, fun N a => Lw.bd N a.arity, fun N a h => Lw.bd_of N a.arity h⟩
instance : Lw Qry := ⟨fun a => wL a.head + wL a.body, fun N a => Lw.bd N a.head ∧ Lw.bd N a.body, fun N a h => ⟨Lw.bd_of N a.head (by rw [w_list]; omega), Lw.bd_of N a.body (by rw [w_list]; omega)⟩⟩
instance : Lw Src := ⟨fun a => wL a.facts, fun N a => Lw.bd N a.facts, fun N a h => Lw.bd_of N a.facts h⟩
instance : Lw Chg := ⟨fun a => wL a.fact.args, fun N a => Lw.bd N a.fact.args, fun N a h => Lw.bd_of N a.fact.args h⟩
instance : Lw Cch := ⟨fun a => wL a.views + wL a.tables, fun N a => Lw.bd N a.views ∧ Lw.bd N a.tables, fun N a h => ⟨Lw.bd_of N a.views (by rw [w_list]; omega), Lw.bd_of N a.tables (by rw [w_list]; omega)⟩⟩
instance : Lw Wtd := ⟨fun a => wL a.query.head + wL a.query.body, fun N a => Lw.bd N a.query, fun N a h => Lw.bd_of N a.query h⟩
instance : Lw Crt := ⟨fun a => wL a.rw_.head + wL a.rw_.body + wL a.forth + wL a.back, fun N a => Lw.bd N a.rw_ ∧ Lw.bd N a.forth ∧ Lw.bd N a.back,
  fun N a h => ⟨Lw.bd_of N a.rw_ (show wL a.rw_.head + wL a.rw_.body ≤ N by omega), Lw.bd_of N a.forth (by rw [w_list]; omega), Lw.bd_of N a.back (by rw [w_list]; omega)⟩⟩
/-- The maximal length of Go's slices: lengths can be told. -/
def Fit {α : Type} [Lw α] (a : α) : Prop := Lw.bd 9223372036854775807 a
end Go.Proofs.YtpdpgfagklhpaaaGreat.V

namespace Go.Proofs.YtpdpgfagklhpaaaGreat.V
open Go Go.Proofs
set_option linter.unusedVariables false
set_option linter.unusedSimpArgs false
theorem l2Ints_r (a b : List Int) (ha : Sm a) : Ret XX 33 [Ar a, Ar b] (.t (.b (decide (a = b))) false) := by
  refine ret_W rfl Tryz.func33 rfl rfl (by simp [Tryz.f33]) ?_
  simp only [Tryz.f33]
  repeat' first|refine nx ?_|refine xb_miss (by decide) ?_|(apply W_reg;(simp;exact .r _))
  refine W_cond (by simp; exact .r _) (fun hc => ?_) (fun hc => ?_)
  · repeat' first|refine nx ?_|refine xb_miss (by decide) ?_|(apply W_reg;(simp;exact .r _))
    have : a ≠ b := fun e => by subst e; simp at hc
    simp [this]
  have hl : a.length = b.length := by simp at hc; omega
  repeat' first|refine nx ?_|refine xb_miss (by decide) ?_|(apply W_reg;(simp;exact .r _))
  refine W_loop (n := a.length) (fun n s => ∃ i : Nat, n = a.length - i ∧ s.nt = 26 ∧ s.tm 0 = Ar a ∧ s.tm 1 = Ar b ∧ s.tm 5 = In i ∧ i ≤ a.length ∧ a.take i = b.take i) ⟨0, by simp⟩ ?_
  rintro n ⟨nt, tm, σ⟩ ⟨i, rfl, hnt, h0, h1, h5, hi, heq⟩
  simp only at hnt h0 h1 h5
  subst hnt
  repeat' first|refine nx ?_|refine xb_miss (by decide) ?_|(apply W_reg;(simp [h0, h1, h5];exact .r _))
  refine W_cond (by simp [h0, h1, h5]; exact .r _) (fun hc => ?_) (fun hc => ?_)
  · have hia : i < a.length := by simpa using hc
    have hib : i < b.length := by omega
    repeat' first|refine nx ?_|refine xb_miss (by decide) ?_|(apply W_reg;(simp [h0, h1, h5, hia, hib];exact .r _))|(apply W_draw (id := 6) [0,0,3,7,0,0,48,112,255] rfl rfl; (· simp; exact .r _); (· simp [h0, h1, h5, hia, hib]; exact .r _); (· first|trivial|simp))
    refine W_cond (by simp [h0, h1, h5]; exact .r _) (fun hd => ?_) (fun hd => ?_)
    · repeat' first|refine nx ?_|refine xb_miss (by decide) ?_|(apply W_reg;(simp [h0, h1, h5];exact .r _))
      have : a ≠ b := fun e => by subst e; simp at hd
      simp [this]
    · have hd : a[i] = b[i] := by simpa using hd
      repeat' first|refine nx ?_|refine xb_miss (by decide) ?_|(apply W_reg;(simp [h0, h1, h5];exact .r _))
      refine ⟨_, ?_, i + 1, rfl, rfl, ?_, ?_, ?_, by omega, by rw [List.take_succ_eq_append_getElem hia, List.take_succ_eq_append_getElem hib, heq, hd]⟩
      all_goals first|assumption|(simp [h0, h1, h5];done)|(simp [h0, h1, h5];omega)|(simp [h0, h1, h5];exact wrap_succ (by omega))|omega
  · have hil : i = a.length := by simp at hc; omega
    subst hil
    repeat' first|refine nx ?_|refine xb_miss (by decide) ?_|(apply W_reg;(simp [h0, h1, h5];exact .r _))
    rw [List.take_length, hl, List.take_length] at heq
    have : a = b := heq
    simp [this]
theorem l2Less_r (a b : List Int) (ha : Sm a) : Ret XX 57 [Ar a, Ar b] (.t (.b (decide (cmpI a b < 0))) false) := by
  refine ret_W rfl Tryz.func57 rfl rfl (by simp [Tryz.f57]) ?_
  simp only [Tryz.f57]
  repeat' first|refine nx ?_|refine xb_miss (by decide) ?_|(apply W_reg;(simp;exact .r _))
  refine W_loop (n := a.length) (fun n s => ∃ i : Nat, n = a.length - i ∧ s.nt = 41 ∧ s.tm 0 = Ar a ∧ s.tm 1 = Ar b ∧ s.tm 5 = In i ∧ i ≤ a.length ∧ i ≤ b.length ∧ cmpI a b = cmpI (a.drop i) (b.drop i)) ⟨0, by simp⟩ ?_
  rintro n ⟨nt, tm, σ⟩ ⟨i, rfl, hnt, h0, h1, h5, hi, hib, heq⟩
  simp only at hnt h0 h1 h5
  subst hnt
  by_cases hia : i < a.length
  · by_cases hib' : i < b.length
    · repeat' first|refine nx ?_|refine xb_miss (by decide) ?_|(apply W_reg;(simp [h0, h1, h5, hia, hib'];exact .r _))
      refine W_cond (by simp [h0, h1, h5]; exact .r _) (fun hc => ?_) (fun hc => ?_)
      · repeat' first|refine nx ?_|refine xb_miss (by decide) ?_|(apply W_reg;(simp [h0, h1, h5, hia, hib'];exact .r _))|(apply W_draw (id := 4) [0,0,3,7,0,0,48,112,255] rfl rfl; (· simp; exact .r _); (· simp [h0, h1, h5, hia, hib']; exact .r _); (· first|trivial|simp))
        rw [cmpI_step hia hib'] at heq
        refine W_cond (by simp [h0, h1, h5]; exact .r _) (fun hd => ?_) (fun hd => ?_)
        · repeat' first|refine nx ?_|refine xb_miss (by decide) ?_|(apply W_reg;(simp [h0, h1, h5, hia, hib'];exact .r _))|(apply W_draw (id := 5) [0,0,3,7,0,0,48,112,255,511] rfl rfl; (· simp; exact .r _); (· simp [h0, h1, h5, hia, hib']; exact .r _); (· first|trivial|simp))
          have hne : a[i] ≠ b[i] := by simpa using hd
          by_cases h : a[i] < b[i]
          · simp [heq, h]
          · have h2 : b[i] < a[i] := by omega
            simp [heq, h, h2]
        · have hd : a[i] = b[i] := by simpa using hd
          repeat' first|refine nx ?_|refine xb_miss (by decide) ?_|(apply W_reg;(simp [h0, h1, h5];exact .r _))
          refine ⟨_, ?_, i + 1, rfl, rfl, ?_, ?_, ?_, by omega, by omega, by rw [heq, if_neg (by omega), if_neg (by omega)]⟩
          all_goals first|assumption|(simp [h0, h1, h5];done)|(simp [h0, h1, h5];omega)|(simp [h0, h1, h5];exact wrap_succ (by omega))|omega
      · simp at hc
    · repeat' first|refine nx ?_|refine xb_miss (by decide) ?_|(apply W_reg;(simp [h0, h1, h5, hia, hib'];exact .r _))
      refine W_cond (by simp [h0, h1, h5]; exact .r _) (fun hc => ?_) (fun hc => ?_)
      · simp at hc
      · repeat' first|refine nx ?_|refine xb_miss (by decide) ?_|(apply W_reg;(simp [h0, h1, h5];exact .r _))
        have hbe : i = b.length := by omega
        subst hbe
        rw [List.drop_eq_getElem_cons hia, List.drop_length] at heq
        have : ¬ a.length < b.length := by omega
        simp [heq, cmpI, this]
  · repeat' first|refine nx ?_|refine xb_miss (by decide) ?_|(apply W_reg;(simp [h0, h1, h5, hia];exact .r _))
    refine W_cond (by simp [h0, h1, h5]; exact .r _) (fun hc => ?_) (fun hc => ?_)
    · simp at hc
    · repeat' first|refine nx ?_|refine xb_miss (by decide) ?_|(apply W_reg;(simp [h0, h1, h5];exact .r _))
      have hae : i = a.length := by omega
      subst hae
      rw [List.drop_length] at heq
      by_cases h : a.length < b.length
      · rw [List.drop_eq_getElem_cons h] at heq
        simp [heq, cmpI, h]
      · rw [List.drop_eq_nil_of_le (by omega)] at heq
        simp [heq, cmpI, h]
end Go.Proofs.YtpdpgfagklhpaaaGreat.V

namespace Go.Proofs.YtpdpgfagklhpaaaGreat.V
open Go Go.Proofs
set_option linter.unusedVariables false
set_option linter.unusedSimpArgs false
theorem within_r (x lo hi : Int) : Ret XX 63 [In x, In lo, In hi] (.t (.b (inR x lo hi)) false) := by
  refine ret_W rfl Tryz.func63 rfl rfl (by simp [Tryz.f63]) ?_
  simp only [Tryz.f63]
  by_cases h : lo ≤ x
  · repeat' first|refine nx ?_|refine xb_miss (by decide) ?_|(apply W_reg;(simp [h];exact .r _))
    simp [inR, h]
  · repeat' first|refine nx ?_|refine xb_miss (by decide) ?_|(apply W_reg;(simp [h];exact .r _))
    simp [inR, h]
theorem l1In_r (x lo hi : Int) : Ret XX 75 [In x, In lo, In hi] (.t (.b (inR x lo hi)) false) := by
  refine ret_W rfl Tryz.func75 rfl rfl (by simp [Tryz.f75]) ?_
  simp only [Tryz.f75]
  by_cases h : lo ≤ x
  · repeat' first|refine nx ?_|refine xb_miss (by decide) ?_|(apply W_reg;(simp [h];exact .r _))
    simp [inR, h]
  · repeat' first|refine nx ?_|refine xb_miss (by decide) ?_|(apply W_reg;(simp [h];exact .r _))
    simp [inR, h]
theorem implIsVar_r (t : Int) : Ret XX 46 [In t] (.t (.b (isVar t)) false) := by
  refine ret_W rfl Tryz.func46 rfl rfl (by simp [Tryz.f46]) ?_
  simp only [Tryz.f46]
  have hc := cv (within_r t 0 19)
  repeat' first|refine nx ?_|refine xb_miss (by decide) ?_|(apply W_reg;(simp [hc];exact .r _))
  simp [isVar]
theorem implIsTerm_r (t : Int) : Ret XX 74 [In t] (.t (.b (isTerm t)) false) := by
  refine ret_W rfl Tryz.func74 rfl rfl (by simp [Tryz.f74]) ?_
  simp only [Tryz.f74]
  have hc := cv (within_r t (-80) 19)
  repeat' first|refine nx ?_|refine xb_miss (by decide) ?_|(apply W_reg;(simp [hc];exact .r _))
  simp [isTerm]
theorem implConstOf_r (t : Int) : Ret XX 47 [In t] (.t (.i .i64 (constOf t)) false) := by
  refine ret_W rfl Tryz.func47 rfl rfl (by simp [Tryz.f47]) ?_
  simp only [Tryz.f47]
  have h1 := cv (implIsTerm_r t)
  have h2 := cv (implIsVar_r t)
  cases e1 : isTerm t
  · repeat' first|refine nx ?_|refine xb_miss (by decide) ?_|(apply W_reg;(simp [h1, e1];exact .r _))
    refine W_cond (by simp; exact .r _) (fun hc => ?_) (fun hc => ?_)
    · repeat' first|refine nx ?_|refine xb_miss (by decide) ?_|(apply W_reg;(simp;exact .r _))
      simp [constOf, e1]
    · cases hc
  · cases e2 : isVar t
    · repeat' first|refine nx ?_|refine xb_miss (by decide) ?_|(apply W_reg;(simp [h1, h2, e1, e2];exact .r _))
      refine W_cond (by simp; exact .r _) (fun hc => ?_) (fun hc => ?_)
      · cases hc
      · have hb := isTerm_iff.1 e1
        have hw : IntKind.i64.wrap (-1 - t) = -1 - t := wrap_ok (by omega) (by omega)
        repeat' first|refine nx ?_|refine xb_miss (by decide) ?_|(apply W_reg;(simp [hw];exact .r _))
        simp [constOf, e1, e2]
    · repeat' first|refine nx ?_|refine xb_miss (by decide) ?_|(apply W_reg;(simp [h1, h2, e1, e2];exact .r _))
      refine W_cond (by simp; exact .r _) (fun hc => ?_) (fun hc => ?_)
      · repeat' first|refine nx ?_|refine xb_miss (by decide) ?_|(apply W_reg;(simp;exact .r _))
        simp [constOf, e2]
      · cases hc
theorem specIsVar_r (t : Int) : Ret XX 48 [In t] (.t (.b (isVar t)) false) := by
  refine ret_W rfl Tryz.func48 rfl rfl (by simp [Tryz.f48]) ?_
  simp only [Tryz.f48]
  have hc := cv (l1In_r t 0 19)
  repeat' first|refine nx ?_|refine xb_miss (by decide) ?_|(apply W_reg;(simp [hc];exact .r _))
  simp [isVar]
theorem constOf_eq (t : Int) : constOf t = if inR t (-80) (-1) then -1 - t else -1 := by
  unfold constOf isTerm isVar inR
  have e1 : (decide (-80 ≤ t ∧ t ≤ 19) && !decide (0 ≤ t ∧ t ≤ 19)) = decide (-80 ≤ t ∧ t ≤ -1) := by rw [Bool.eq_iff_iff]; simp; omega
  rw [e1]
theorem specConstOf_r (t : Int) : Ret XX 76 [In t] (.t (.i .i64 (constOf t)) false) := by
  refine ret_W rfl Tryz.func76 rfl rfl (by simp [Tryz.f76]) ?_
  simp only [Tryz.f76]
  have h1 := cv (l1In_r t (-80) (-1))
  rw [constOf_eq]
  cases e1 : inR t (-80) (-1)
  · repeat' first|refine nx ?_|refine xb_miss (by decide) ?_|(apply W_reg;(simp [h1, e1];exact .r _))
    refine W_cond (by simp; exact .r _) (fun hc => ?_) (fun hc => ?_)
    · repeat' first|refine nx ?_|refine xb_miss (by decide) ?_|(apply W_reg;(simp;exact .r _))
      simp
    · cases hc
  · have hb : -80 ≤ t ∧ t ≤ -1 := by simpa [inR] using e1
    have hw : IntKind.i64.wrap (-1 - t) = -1 - t := wrap_ok (by omega) (by omega)
    repeat' first|refine nx ?_|refine xb_miss (by decide) ?_|(apply W_reg;(simp [h1, e1, hw];exact .r _))
    refine W_cond (by simp; exact .r _) (fun hc => ?_) (fun hc => ?_)
    · cases hc
    · repeat' first|refine nx ?_|refine xb_miss (by decide) ?_|(apply W_reg;(simp [hw];exact .r _))
      simp
theorem isTerm_or (t : Int) : isTerm t = (isVar t || decide (0 ≤ constOf t)) := by
  rw [Bool.eq_iff_iff, Bool.or_eq_true, isVar_iff, isTerm_iff, decide_eq_true_eq, constOf_eq]
  split
  · rename_i h; simp [inR] at h; omega
  · rename_i h; simp [inR] at h; omega
theorem specIsTerm_r (t : Int) : Ret XX 49 [In t] (.t (.b (isTerm t)) false) := by
  refine ret_W rfl Tryz.func49 rfl rfl (by simp [Tryz.f49]) ?_
  simp only [Tryz.f49]
  have h1 := cv (specIsVar_r t)
  have h2 := cv (specConstOf_r t)
  rw [isTerm_or]
  cases e : isVar t
  · repeat' first|refine nx ?_|refine xb_miss (by decide) ?_|(apply W_reg;(simp [h1, h2, e];exact .r _))
    simp
  · repeat' first|refine nx ?_|refine xb_miss (by decide) ?_|(apply W_reg;(simp [h1, h2, e];exact .r _))
    simp
theorem areTerms_r (l : List Int) (hl : Sm l) : Ret XX 62 [Ar l] (.t (.b (l.all isTerm)) false) := by
  refine ret_W rfl Tryz.func62 rfl rfl (by simp [Tryz.f62]) ?_
  simp only [Tryz.f62]
  repeat' first|refine nx ?_|refine xb_miss (by decide) ?_|(apply W_reg;(simp;exact .r _))
  refine W_loop (n := l.length) (fun n s => ∃ i : Nat, n = l.length - i ∧ s.nt = 15 ∧ s.tm 5 = Ar l ∧ s.tm 6 = In l.length ∧ s.tm 7 = In i ∧ i ≤ l.length ∧ l.all isTerm = (l.drop i).all isTerm) ⟨0, by simp⟩ ?_
  rintro n ⟨nt, tm, σ⟩ ⟨i, rfl, hnt, h5, h6, h7, hi, heq⟩
  simp only at hnt h5 h6 h7
  subst hnt
  repeat' first|refine nx ?_|refine xb_miss (by decide) ?_|(apply W_reg;(simp [h5, h6, h7];exact .r _))
  refine W_cond (by simp [h5, h6, h7]; exact .r _) (fun hc => ?_) (fun hc => ?_)
  · have hil : i < l.length := by simpa using hc
    have hcc := cv (implIsTerm_r l[i])
    repeat' first|refine nx ?_|refine xb_miss (by decide) ?_|(apply W_reg;(simp [h5, h6, h7, hil, hcc];exact .r _))
    rw [List.drop_eq_getElem_cons hil, List.all_cons] at heq
    refine W_cond (by simp [h5, h6, h7]; exact .r _) (fun hd => ?_) (fun hd => ?_)
    · repeat' first|refine nx ?_|refine xb_miss (by decide) ?_|(apply W_reg;(simp [h5, h6, h7];exact .r _))
      have hd' : isTerm l[i] = false := by simpa using hd
      rw [heq, hd']; simp
    · have hd' : isTerm l[i] = true := by simpa using hd
      repeat' first|refine nx ?_|refine xb_miss (by decide) ?_|(apply W_reg;(simp [h5, h6, h7];exact .r _))
      refine ⟨_, ?_, i + 1, rfl, rfl, ?_, ?_, ?_, by omega, by (rw [heq]; simp [hd'])⟩
      all_goals first|assumption|(simp [h5, h6, h7];done)|(simp [h5, h6, h7];omega)|(simp [h5, h6, h7];exact wrap_succ (by omega))|omega
  · have hil : i = l.length := by simp at hc; omega
    subst hil
    repeat' first|refine nx ?_|refine xb_miss (by decide) ?_|(apply W_reg;(simp [h5, h6, h7];exact .r _))
    rw [heq, List.drop_length]; simp
theorem areValues_r (l : List Int) (hl : Sm l) : Ret XX 83 [Ar l] (.t (.b (l.all fun x => inR x 0 99)) false) := by
  refine ret_W rfl Tryz.func83 rfl rfl (by simp [Tryz.f83]) ?_
  simp only [Tryz.f83]
  repeat' first|refine nx ?_|refine xb_miss (by decide) ?_|(apply W_reg;(simp;exact .r _))
  refine W_loop (n := l.length) (fun n s => ∃ i : Nat, n = l.length - i ∧ s.nt = 15 ∧ s.tm 5 = Ar l ∧ s.tm 6 = In l.length ∧ s.tm 7 = In i ∧ i ≤ l.length ∧ (l.all fun x => inR x 0 99) = ((l.drop i).all fun x => inR x 0 99)) ⟨0, by simp⟩ ?_
  rintro n ⟨nt, tm, σ⟩ ⟨i, rfl, hnt, h5, h6, h7, hi, heq⟩
  simp only at hnt h5 h6 h7
  subst hnt
  repeat' first|refine nx ?_|refine xb_miss (by decide) ?_|(apply W_reg;(simp [h5, h6, h7];exact .r _))
  refine W_cond (by simp [h5, h6, h7]; exact .r _) (fun hc => ?_) (fun hc => ?_)
  · have hil : i < l.length := by simpa using hc
    have hcc := cv (within_r l[i] 0 99)
    repeat' first|refine nx ?_|refine xb_miss (by decide) ?_|(apply W_reg;(simp [h5, h6, h7, hil, hcc];exact .r _))
    rw [List.drop_eq_getElem_cons hil, List.all_cons] at heq
    refine W_cond (by simp [h5, h6, h7]; exact .r _) (fun hd => ?_) (fun hd => ?_)
    · repeat' first|refine nx ?_|refine xb_miss (by decide) ?_|(apply W_reg;(simp [h5, h6, h7];exact .r _))
      have hd' : inR l[i] 0 99 = false := by simpa using hd
      rw [heq, hd']; simp
    · have hd' : inR l[i] 0 99 = true := by simpa using hd
      repeat' first|refine nx ?_|refine xb_miss (by decide) ?_|(apply W_reg;(simp [h5, h6, h7];exact .r _))
      refine ⟨_, ?_, i + 1, rfl, rfl, ?_, ?_, ?_, by omega, by (rw [heq]; simp [hd'])⟩
      all_goals first|assumption|(simp [h5, h6, h7];done)|(simp [h5, h6, h7];omega)|(simp [h5, h6, h7];exact wrap_succ (by omega))|omega
  · have hil : i = l.length := by simp at hc; omega
    subst hil
    repeat' first|refine nx ?_|refine xb_miss (by decide) ?_|(apply W_reg;(simp [h5, h6, h7];exact .r _))
    rw [heq, List.drop_length]; simp
theorem implIsSchema_r (c : Sch) (hl : Sm c.arity) : Ret XX 61 [Ag c] (.t (.b (isSch c)) false) := by
  refine ret_W rfl Tryz.func61 rfl rfl (by simp [Tryz.f61]) ?_
  simp only [Tryz.f61]
  repeat' first|refine nx ?_|refine xb_miss (by decide) ?_|(apply W_reg;(simp [Ag];exact .r _))
  refine W_loop (n := c.arity.length) (fun n s => ∃ i : Nat, n = c.arity.length - i ∧ s.nt = 20 ∧ s.tm 1 = .ptr 0 0 ∧ s.tm 6 = Ar c.arity ∧ s.tm 7 = In c.arity.length ∧ s.tm 8 = In i ∧ i ≤ c.arity.length ∧ c.arity.all (fun x => inR x 1 3) = (c.arity.drop i).all (fun x => inR x 1 3) ∧ s.σ.ob 0 = .box [Ar c.arity]) ⟨0, by simp⟩ ?_
  rintro n ⟨nt, tm, σ⟩ ⟨i, rfl, hnt, h1, h6, h7, h8, hi, heq, hb⟩
  simp only at hnt h1 h6 h7 h8 hb
  subst hnt
  repeat' first|refine nx ?_|refine xb_miss (by decide) ?_|(apply W_reg;(simp [h1, h6, h7, h8, hb];exact .r _))
  refine W_cond (by simp [h1, h6, h7, h8, hb]; exact .r _) (fun hc => ?_) (fun hc => ?_)
  · have hil : i < c.arity.length := by simpa using hc
    have hcc := cv (within_r c.arity[i] 1 3)
    repeat' first|refine nx ?_|refine xb_miss (by decide) ?_|(apply W_reg;(simp [h1, h6, h7, h8, hb, hil, hcc];exact .r _))
    rw [List.drop_eq_getElem_cons hil, List.all_cons] at heq
    refine W_cond (by simp [h1, h6, h7, h8, hb]; exact .r _) (fun hd => ?_) (fun hd => ?_)
    · repeat' first|refine nx ?_|refine xb_miss (by decide) ?_|(apply W_reg;(simp [h1, h6, h7, h8, hb];exact .r _))
      have hd' : (fun x => inR x 1 3) c.arity[i] = false := by simpa using hd
      simp [isSch, heq, hd']
    · have hd' : (fun x => inR x 1 3) c.arity[i] = true := by simpa using hd
      repeat' first|refine nx ?_|refine xb_miss (by decide) ?_|(apply W_reg;(simp [h1, h6, h7, h8, hb];exact .r _))
      refine ⟨_, ?_, i + 1, rfl, rfl, ?_, ?_, ?_, ?_, by omega, by (rw [heq]; simp [hd']), ?_⟩
      all_goals first|assumption|(simp [h1, h6, h7, h8, hb];done)|(simp [h1, h6, h7, h8, hb];omega)|(simp [h1, h6, h7, h8, hb];exact wrap_succ (by omega))|omega
  have hil : i = c.arity.length := by simp at hc; omega
  subst hil
  rw [List.drop_length, List.all_nil] at heq
  have h9 := cv (within_r c.arity.length 1 4)
  repeat' first|refine nx ?_|refine xb_miss (by decide) ?_|(apply W_reg;(simp [h1, h6, h7, h8, hb, h9];exact .r _))
  simp [isSch, heq]
theorem specIsSchema_r (c : Sch) (hl : Sm c.arity) : Ret XX 56 [Ag c] (.t (.b (isSch c)) false) := by
  refine ret_W rfl Tryz.func56 rfl rfl (by simp [Tryz.f56]) ?_
  simp only [Tryz.f56]
  repeat' first|refine nx ?_|refine xb_miss (by decide) ?_|(apply W_reg;(simp [Ag];exact .r _))
  refine W_loop (n := c.arity.length) (fun n s => ∃ i : Nat, n = c.arity.length - i ∧ s.nt = 22 ∧ s.tm 1 = .ptr 0 0 ∧ s.tm 3 = In i ∧ i ≤ c.arity.length ∧ c.arity.all (fun x => inR x 1 3) = (c.arity.drop i).all (fun x => inR x 1 3) ∧ s.σ.ob 0 = .box [Ar c.arity]) ⟨0, by simp⟩ ?_
  rintro n ⟨nt, tm, σ⟩ ⟨i, rfl, hnt, h1, h3, hi, heq, hb⟩
  simp only at hnt h1 h3 hb
  subst hnt
  repeat' first|refine nx ?_|refine xb_miss (by decide) ?_|(apply W_reg;(simp [h1, h3, hb];exact .r _))
  refine W_cond (by simp [h1, h3, hb]; exact .r _) (fun hc => ?_) (fun hc => ?_)
  · have hil : i < c.arity.length := by simpa using hc
    have hcc := cv (l1In_r c.arity[i] 1 3)
    repeat' first|refine nx ?_|refine xb_miss (by decide) ?_|(apply W_reg;(simp [h1, h3, hb, hil, hcc];exact .r _))
    rw [List.drop_eq_getElem_cons hil, List.all_cons] at heq
    refine W_cond (by simp [h1, h3, hb]; exact .r _) (fun hd => ?_) (fun hd => ?_)
    · repeat' first|refine nx ?_|refine xb_miss (by decide) ?_|(apply W_reg;(simp [h1, h3, hb];exact .r _))
      have hd' : (fun x => inR x 1 3) c.arity[i] = false := by simpa using hd
      simp [isSch, heq, hd']
    · have hd' : (fun x => inR x 1 3) c.arity[i] = true := by simpa using hd
      repeat' first|refine nx ?_|refine xb_miss (by decide) ?_|(apply W_reg;(simp [h1, h3, hb];exact .r _))
      refine ⟨_, ?_, i + 1, rfl, rfl, ?_, ?_, by omega, by (rw [heq]; simp [hd']), ?_⟩
      all_goals first|assumption|(simp [h1, h3, hb];done)|(simp [h1, h3, hb];omega)|(simp [h1, h3, hb];exact wrap_succ (by omega))|omega
  have hil : i = c.arity.length := by simp at hc; omega
  subst hil
  rw [List.drop_length, List.all_nil] at heq
  have h9 := cv (l1In_r c.arity.length 1 4)
  repeat' first|refine nx ?_|refine xb_miss (by decide) ?_|(apply W_reg;(simp [h1, h3, hb, h9];exact .r _))
  simp [isSch, heq]
theorem l3Terms_r (l : List Int) (hl : Sm l) : Ret XX 87 [Ar l] (.t (.b (l.all isTerm && decide (l.length ≤ 3))) false) := by
  refine ret_W rfl Tryz.func87 rfl rfl (by simp [Tryz.f87]) ?_
  simp only [Tryz.f87]
  repeat' first|refine nx ?_|refine xb_miss (by decide) ?_|(apply W_reg;(simp;exact .r _))
  refine W_loop (n := l.length) (fun n s => ∃ i : Nat, n = l.length - i ∧ s.nt = 19 ∧ s.tm 0 = Ar l ∧ s.tm 3 = In i ∧ i ≤ l.length ∧ l.all isTerm = (l.drop i).all isTerm) ⟨0, by simp⟩ ?_
  rintro n ⟨nt, tm, σ⟩ ⟨i, rfl, hnt, h0, h3, hi, heq⟩
  simp only at hnt h0 h3
  subst hnt
  repeat' first|refine nx ?_|refine xb_miss (by decide) ?_|(apply W_reg;(simp [h0, h3];exact .r _))
  refine W_cond (by simp [h0, h3]; exact .r _) (fun hc => ?_) (fun hc => ?_)
  · have hil : i < l.length := by simpa using hc
    have hcc := cv (specIsTerm_r l[i])
    repeat' first|refine nx ?_|refine xb_miss (by decide) ?_|(apply W_reg;(simp [h0, h3, hil, hcc];exact .r _))
    rw [List.drop_eq_getElem_cons hil, List.all_cons] at heq
    refine W_cond (by simp [h0, h3]; exact .r _) (fun hd => ?_) (fun hd => ?_)
    · repeat' first|refine nx ?_|refine xb_miss (by decide) ?_|(apply W_reg;(simp [h0, h3];exact .r _))
      have hd' : isTerm l[i] = false := by simpa using hd
      rw [heq, hd']; simp
    · have hd' : isTerm l[i] = true := by simpa using hd
      repeat' first|refine nx ?_|refine xb_miss (by decide) ?_|(apply W_reg;(simp [h0, h3];exact .r _))
      refine ⟨_, ?_, i + 1, rfl, rfl, ?_, ?_, by omega, by (rw [heq]; simp [hd'])⟩
      all_goals first|assumption|(simp [h0, h3];done)|(simp [h0, h3];omega)|(simp [h0, h3];exact wrap_succ (by omega))|omega
  have hil : i = l.length := by simp at hc; omega
  subst hil
  rw [List.drop_length, List.all_nil] at heq
  repeat' first|refine nx ?_|refine xb_miss (by decide) ?_|(apply W_reg;(simp [h0, h3];exact .r _))
  rw [heq]; simp <;> omega
theorem takes_r (c : Sch) (rel n : Int) (hl : Sm c.arity) : Ret XX 81 [Ag c, In rel, In n] (.t (.b (takes c rel n)) false) := by
  refine ret_W rfl Tryz.func81 rfl rfl (by simp [Tryz.f81]) ?_
  simp only [Tryz.f81]
  have h1 := cv (implIsSchema_r c hl)
  have h2 := cv (within_r rel 0 (c.arity.length - 1))
  have hw : IntKind.i64.wrap ((c.arity.length : Int) - 1) = (c.arity.length : Int) - 1 := wrap_ok (by omega) (by omega)
  simp only [Ag, cells_Sch, List.map_cons, List.map_nil] at h1
  cases e1 : isSch c
  · repeat' first|refine nx ?_|refine xb_miss (by decide) ?_|(apply W_reg;(simp [Ag, h1, e1];exact .r _))
    simp [takes, e1]
  · cases e2 : inR rel 0 (c.arity.length - 1)
    · repeat' first|refine nx ?_|refine xb_miss (by decide) ?_|(apply W_reg;(simp [Ag, h1, e1, h2, e2, hw];exact .r _))
      simp [takes, e2]
    · have hb : 0 ≤ rel ∧ rel ≤ c.arity.length - 1 := by simpa [inR] using e2
      have hr : rel.toNat < c.arity.length := by omega
      have hr0 : 0 ≤ rel := hb.1
      repeat' first|refine nx ?_|refine xb_miss (by decide) ?_|(apply W_reg;(simp [Ag, h1, e1, h2, e2, hw, hr, hr0];exact .r _))
      simp [takes, e1, e2, hr]
theorem implIsAtom_r (c : Sch) (a : RA) (hl : Sm c.arity) (ha : Sm a.args) : Ret XX 64 [Ag c, Ag a] (.t (.b (isAtom c a)) false) := by
  refine ret_W rfl Tryz.func64 rfl rfl (by simp [Tryz.f64]) ?_
  simp only [Tryz.f64]
  have h1 := cv (takes_r c a.rel a.args.length hl)
  have h2 := cv (areTerms_r a.args ha)
  simp only [Ag, cells_Sch, List.map_cons, List.map_nil] at h1
  cases e1 : takes c a.rel a.args.length
  · repeat' first|refine nx ?_|refine xb_miss (by decide) ?_|(apply W_reg;(simp [Ag, h1, e1];exact .r _))
    simp [isAtom, e1]
  · repeat' first|refine nx ?_|refine xb_miss (by decide) ?_|(apply W_reg;(simp [Ag, h1, e1, h2];exact .r _))
    simp [isAtom, e1]
theorem implIsFact_r (c : Sch) (a : RA) (hl : Sm c.arity) (ha : Sm a.args) : Ret XX 66 [Ag c, Ag a] (.t (.b (isFact c a)) false) := by
  refine ret_W rfl Tryz.func66 rfl rfl (by simp [Tryz.f66]) ?_
  simp only [Tryz.f66]
  have h1 := cv (takes_r c a.rel a.args.length hl)
  have h2 := cv (areValues_r a.args ha)
  simp only [Ag, cells_Sch, List.map_cons, List.map_nil] at h1
  cases e1 : takes c a.rel a.args.length
  · repeat' first|refine nx ?_|refine xb_miss (by decide) ?_|(apply W_reg;(simp [Ag, h1, e1];exact .r _))
    simp [isFact, e1]
  · repeat' first|refine nx ?_|refine xb_miss (by decide) ?_|(apply W_reg;(simp [Ag, h1, e1, h2];exact .r _))
    simp [isFact, e1]
theorem index_r (l : List Int) (x : Int) (hl : Sm l) : Ret XX 102 [Ar l, In x] (.t (.i .i64 (fidx (fun y => decide (x = y)) l 0)) false) := by
  refine ret_W rfl Tryz.func102 rfl rfl (by simp [Tryz.f102]) ?_
  simp only [Tryz.f102]
  repeat' first|refine nx ?_|refine xb_miss (by decide) ?_|(apply W_reg;(simp;exact .r _))
  refine W_loop (n := l.length) (fun n s => ∃ i : Nat, n = l.length - i ∧ s.nt = 19 ∧ s.tm 0 = Ar l ∧ s.tm 1 = In x ∧ s.tm 7 = In l.length ∧ s.tm 8 = In i ∧ i ≤ l.length ∧ fidx (fun y => decide (x = y)) l 0 = fidx (fun y => decide (x = y)) (l.drop i) i) ⟨0, by simp⟩ ?_
  rintro n ⟨nt, tm, σ⟩ ⟨i, rfl, hnt, h0, h1, h7, h8, hi, heq⟩
  simp only at hnt h0 h1 h7 h8
  subst hnt
  repeat' first|refine nx ?_|refine xb_miss (by decide) ?_|(apply W_reg;(simp [h0, h1, h7, h8];exact .r _))
  refine W_cond (by simp [h0, h1, h7, h8]; exact .r _) (fun hc => ?_) (fun hc => ?_)
  · have hil : i < l.length := by simpa using hc
    repeat' first|refine nx ?_|refine xb_miss (by decide) ?_|(apply W_reg;(simp [h0, h1, h7, h8, hil];exact .r _))
    rw [List.drop_eq_getElem_cons hil] at heq
    refine W_cond (by simp [h0, h1, h7, h8]; exact .r _) (fun hd => ?_) (fun hd => ?_)
    · repeat' first|refine nx ?_|refine xb_miss (by decide) ?_|(apply W_reg;(simp [h0, h1, h7, h8];exact .r _))
      have hd : x = l[i] := by simpa using hd
      rw [heq]; simp [fidx, ← hd]
    · have hd : ¬ x = l[i] := by simpa using hd
      repeat' first|refine nx ?_|refine xb_miss (by decide) ?_|(apply W_reg;(simp [h0, h1, h7, h8];exact .r _))
      refine ⟨_, ?_, i + 1, rfl, rfl, ?_, ?_, ?_, ?_, by omega, by (rw [heq]; simp [fidx, hd])⟩
      all_goals first|assumption|(simp [h0, h1, h7, h8];done)|(simp [h0, h1, h7, h8];omega)|(simp [h0, h1, h7, h8];exact wrap_succ (by omega))|omega
  have hil : i = l.length := by simp at hc; omega
  subst hil
  repeat' first|refine nx ?_|refine xb_miss (by decide) ?_|(apply W_reg;(simp [h0, h1, h7, h8];exact .r _))
  rw [heq, List.drop_length]; simp [fidx]
theorem fidx_has (x : Int) : ∀ (l : List Int) (k : Nat), decide (0 ≤ fidx (fun y => decide (x = y)) l k) = decide (x ∈ l)
  | [], k => by simp [fidx]
  | a :: l, k => by
    unfold fidx
    by_cases h : x = a
    · subst h; simp
    · simp only [h, decide_false, Bool.false_eq_true, if_false, fidx_has x l (k + 1), List.mem_cons, false_or]
theorem contains_r (l : List Int) (x : Int) (hl : Sm l) : Ret XX 90 [Ar l, In x] (.t (.b (decide (x ∈ l))) false) := by
  refine ret_W rfl Tryz.func90 rfl rfl (by simp [Tryz.f90]) ?_
  simp only [Tryz.f90]
  have h1 := cv (index_r l x hl)
  repeat' first|refine nx ?_|refine xb_miss (by decide) ?_|(apply W_reg;(simp [h1];exact .r _))
  rw [← fidx_has x l 0]
  simp
theorem l2Has_r (l : List Int) (x : Int) (hl : Sm l) : Ret XX 73 [Ar l, In x] (.t (.b (decide (x ∈ l))) false) := by
  refine ret_W rfl Tryz.func73 rfl rfl (by simp [Tryz.f73]) ?_
  simp only [Tryz.f73]
  repeat' first|refine nx ?_|refine xb_miss (by decide) ?_|(apply W_reg;(simp;exact .r _))
  refine W_loop (n := l.length) (fun n s => ∃ i : Nat, n = l.length - i ∧ s.nt = 18 ∧ s.tm 0 = Ar l ∧ s.tm 1 = In x ∧ s.tm 5 = In i ∧ i ≤ l.length ∧ (x ∈ l ↔ x ∈ l.drop i)) ⟨0, by simp⟩ ?_
  rintro n ⟨nt, tm, σ⟩ ⟨i, rfl, hnt, h0, h1, h5, hi, heq⟩
  simp only at hnt h0 h1 h5
  subst hnt
  repeat' first|refine nx ?_|refine xb_miss (by decide) ?_|(apply W_reg;(simp [h0, h1, h5];exact .r _))
  refine W_cond (by simp [h0, h1, h5]; exact .r _) (fun hc => ?_) (fun hc => ?_)
  · have hil : i < l.length := by simpa using hc
    repeat' first|refine nx ?_|refine xb_miss (by decide) ?_|(apply W_reg;(simp [h0, h1, h5, hil];exact .r _))
    rw [List.drop_eq_getElem_cons hil, List.mem_cons] at heq
    refine W_cond (by simp [h0, h1, h5]; exact .r _) (fun hd => ?_) (fun hd => ?_)
    · repeat' first|refine nx ?_|refine xb_miss (by decide) ?_|(apply W_reg;(simp [h0, h1, h5];exact .r _))
      have hd : l[i] = x := by simpa using hd
      have : x ∈ l := heq.2 (.inl hd.symm)
      simp [this]
    · have hd : ¬ l[i] = x := by simpa using hd
      repeat' first|refine nx ?_|refine xb_miss (by decide) ?_|(apply W_reg;(simp [h0, h1, h5];exact .r _))
      refine ⟨_, ?_, i + 1, rfl, rfl, ?_, ?_, ?_, by omega, by (rw [heq]; exact ⟨fun h => h.elim (fun e => absurd e.symm hd) id, .inr⟩)⟩
      all_goals first|assumption|(simp [h0, h1, h5];done)|(simp [h0, h1, h5];omega)|(simp [h0, h1, h5];exact wrap_succ (by omega))|omega
  have hil : i = l.length := by simp at hc; omega
  subst hil
  repeat' first|refine nx ?_|refine xb_miss (by decide) ?_|(apply W_reg;(simp [h0, h1, h5];exact .r _))
  rw [List.drop_length] at heq
  have : x ∉ l := fun h => by cases heq.1 h
  simp [this]
end Go.Proofs.YtpdpgfagklhpaaaGreat.V

namespace Go.Proofs.YtpdpgfagklhpaaaGreat.V
open Go Go.Proofs
set_option linter.unusedVariables false
set_option linter.unusedSimpArgs false
structure By where
  n : Int
  deriving DecidableEq
instance : Enc By := ⟨fun b => [.i .u8 b.n], 1, true, fun _ => rfl, fun _ _ => rfl⟩
@[simp] theorem cells_By (a : By) : Enc.cells a = [.i .u8 a.n] := rfl
@[simp] theorem n_By : Enc.n By = 1 := rfl
abbrev CU (b : List By) (i : Nat) (h : Int) : List T := [.sl (rowsE b), .i .i64 i, .i .i64 h]
def CQ (b : List By) (cs : List T) : Prop := ∃ (i : Nat) (h : Int), i ≤ b.length ∧ cs = CU b i h
theorem cvP {f : Nat} {cs cs' : List T} {as_ : List AV} {x : XV} (H : RetP XX f cs as_ x cs') (hM : Ms f = true := by rfl) (hP : Ms (f + 1000000) = true := by rfl) (σ : Sto) (o : Nat) (args : List AV) (ho : σ.ob o = .box (cs.map .t)) (ha : args.mapM (reify σ) = some as_) :
    callV Ms XX σ f (.ptr o 0 :: args) = (freezeL σ (args.flatMap ids)).map fun σf => place (σf.set o (.box (cs'.map .t))) x := callP_ret H hM hP ho ha
theorem cvP0 {f : Nat} {cs cs' : List T} {x : XV} (H : RetP XX f cs [] x cs') (hM : Ms f = true := by rfl) (hP : Ms (f + 1000000) = true := by rfl) (σ : Sto) (o : Nat) (ho : σ.ob o = .box (cs.map .t)) : callV Ms XX σ f [.ptr o 0] = some (place (σ.set o (.box (cs'.map .t))) x) := callP_ret H hM hP ho (args := []) rfl
theorem W_gv {P : Program} {M : Nat → Bool} {G : Giv} {c : Code} {s : VS} {N : VS → Prop} {X : Nat → VS → Prop} {K : VS → Prop} (Q : VS → Prop) (h : Q s) (hw : ∀ s2, Q s2 → W P M G c s2 N X K) : W P M G c s N X K := hw s h
theorem and255 (x : Nat) : 0 ≤ IntKind.i64.wrap ((x &&& 255 % 2 ^ IntKind.i64.bits : Nat) : Int) ∧ IntKind.i64.wrap ((x &&& 255 % 2 ^ IntKind.i64.bits : Nat) : Int) ≤ 255 := by
  have h : (x &&& 255 % 2 ^ IntKind.i64.bits : Nat) ≤ 255 := Nat.le_trans Nat.and_le_right (by decide)
  rw [wrap_ok (by omega) (by omega)]
  omega
theorem l1Byte_p (b : List By) (i : Nat) (h : Int) (hb : Sm b) (hi : i ≤ b.length) : ∃ x cs', ((∃ n : Int, (0 ≤ n ∧ n ≤ 255) ∧ x = .t (.i .i64 n) false) ∧ CQ b cs') ∧ RetP XX 53 (CU b i h) [] x cs' := by
  refine ret_PW rfl Tryz.func53 rfl rfl (by simp [Tryz.f53]) ?_
  simp only [Tryz.f53]
  have hbl : b.length < 1099511627775 := hb
  simp only [CU, List.map_cons, List.map_nil]
  refine W_seq ?_
  apply W_reg; (simp; exact .r _)
  refine W_seq ?_
  apply W_reg; (simp; exact .r _)
  obtain ⟨h1, e1⟩ : ∃ h1, IntKind.i64.wrap (IntKind.i64.wrap (h * 6364136223846793005) + 1442695040888963407) = h1 := ⟨_, rfl⟩
  rw [e1]
  refine W_seq ?_
  apply W_draw (id := 2) [0, 1, 3, 7, 15, 0, 32, 96, 224, 480, 1023, 2047, 4095] rfl rfl
  · simp; exact .r _
  · simp; exact .r _
  · first | trivial | simp
  refine W_gv (fun s2 => s2.nt = 58 ∧ s2.tm 0 = .ptr 0 0 ∧ (∃ n : Int, (0 ≤ n ∧ n ≤ 255) ∧ s2.tm 3 = In n) ∧ s2.σ.ob 0 = .box [Ar b, In i, In h1]) ⟨rfl, by simp, ⟨_, and255 _, by simp; rfl⟩, by simp⟩ ?_
  rintro ⟨nt, tm, σ⟩ ⟨q1, q2, ⟨n, q3, q4⟩, q5⟩
  simp only at q1 q2 q4 q5
  subst q1
  by_cases hl : i < b.length
  · repeat' first|refine nx ?_|refine xb_miss (by decide) ?_|(apply W_reg;(simp [q2, q4, q5, hl];exact .r _))|(apply W_draw (id := 3) [0,1,3,7,0,16,48,112,240,511] rfl rfl; (· simp; exact .r _); (· simp [q2, q4, q5, hl]; exact .r _); (· first|trivial|simp))
    refine W_cond (by simp [q2, q4, q5]; exact .r _) (fun hc => ?_) (fun hc => ?_)
    · refine W_seq ?_
      apply W_draw (id := 4) [0, 0, 2, 6, 14, 0, 32, 96, 224, 510, 1022, 2046, 4095, 8191, 16383] rfl rfl
      · simp; exact .r _
      · simp [q2, q4, q5, hl]; exact .r _
      · first | trivial | simp
      refine W_gv (fun s2 => s2.nt = 58 ∧ s2.tm 0 = .ptr 0 0 ∧ (∃ n : Int, (0 ≤ n ∧ n ≤ 255) ∧ s2.tm 3 = In n) ∧ s2.σ.ob 0 = .box [Ar b, In i, In h1]) ⟨rfl, by simp [q2], ⟨_, and255 _, by simp; rfl⟩, by simp [q5]⟩ ?_
      rintro ⟨nt, tm, σ⟩ ⟨q1, q2, ⟨n, q3, q4⟩, q5⟩
      simp only at q1 q2 q4 q5
      subst q1
      have wr1_ : IntKind.i64.wrap ((i : Int) + 1) = (i : Int) + 1 := wrap_ok (by omega) (by omega)
      repeat' first|refine nx ?_|refine xb_miss (by decide) ?_|(apply W_reg;(simp [q2, q4, q5, wr1_];exact .r _))
      exact EndsP.mk (cs' := CU b (i + 1) h1) (x := .t (.i .i64 n) false) (v := In n) (by simp [q2, q4, q5, wr1_]) (by simp [q2, q4, q5, wr1_]) (by simp) ⟨⟨n, q3, rfl⟩, i + 1, h1, by omega, rfl⟩
    · exact absurd hc (by simp [hl])
  · have hil : i = b.length := by omega
    subst hil
    repeat' first|refine nx ?_|refine xb_miss (by decide) ?_|(apply W_reg;(simp [q2, q4, q5];exact .r _))|(apply W_draw (id := 3) [0,1,3,7,0,16,48,112,240,511] rfl rfl; (· simp; exact .r _); (· simp [q2, q4, q5]; exact .r _); (· first|trivial|simp))
    refine W_cond (by simp [q2, q4, q5]; exact .r _) (fun hc => ?_) (fun hc => ?_)
    · simp at hc
    repeat' first|refine nx ?_|refine xb_miss (by decide) ?_|(apply W_reg;(simp [q2, q4, q5];exact .r _))
    exact EndsP.mk (cs' := CU b b.length h1) (x := .t (.i .i64 n) false) (v := In n) (by simp [q2, q4, q5]) (by simp [q2, q4, q5]) (by simp) ⟨⟨n, q3, rfl⟩, b.length, h1, by omega, rfl⟩
/-- What is asked of the end of a function whose answer is told by a property alone. -/
def EndsQ (P : Program) (rs : Array ResultVar) (Q : XV → Prop) (s : VS) : Prop := ∃ v x, resV P rs s.tm s.σ = some v ∧ expR s.σ v = some x ∧ Q x
theorem EndsQ.mk {P : Program} {rs : Array ResultVar} {Q : XV → Prop} {s : VS} {v : AV} {x : XV} (h1 : resV P rs s.tm s.σ = some v) (h3 : expR s.σ v = some x) (h4 : Q x) : EndsQ P rs Q s := ⟨v, x, h1, h3, h4⟩
theorem ret_QW {P : Program} {M : Nat → Bool} {G : Giv} {f : Nat} {fn : Func} {args : List AV} {Q : XV → Prop} (hg : G f = none) (hfn : P.funcs[f]? = some fn) {c : Code} (hb : fn.body = some c) (hname : (fn.name == "runtime.NumGoroutine") = false) (hle : args.length ≤ fn.ntmps)
    (H : W P M G c ⟨fn.ntmps, fun i => args.getD i .undef, Sto.e⟩ (EndsQ P fn.results Q) (fun _ _ => False) (EndsQ P fn.results Q)) : ∃ x, Q x ∧ Ret (Rv P M G) f args x := by
  obtain ⟨v, σ', h1, x, h2, h3⟩ := W_fn (Q := fun v σ => ∃ x, expR σ v = some x ∧ Q x) hg hfn hb hname hle (by
    refine W.mono H (fun s h => ?_) (fun _ _ h => h) (fun s h => ?_) <;> (obtain ⟨v, x, h1, h2, h3⟩ := h; exact ⟨v, h1, x, h2, h3⟩))
  exact ⟨x, h3, v, σ', h1, h2⟩
theorem tmod_bd {x n : Int} (hx : 0 ≤ x) (hn : 0 < n) : 0 ≤ x.tmod n ∧ x.tmod n < n := ⟨Int.tmod_nonneg n hx, Int.tmod_lt_of_pos x hn⟩
/-- A number below n, or 0. -/
theorem l1Below_p (b : List By) (i : Nat) (h n : Int) (hb : Sm b) (hi : i ≤ b.length) (hn : n ≤ 256) : ∃ x cs', ((∃ k : Int, (0 ≤ k ∧ (0 < n → k < n) ∧ (n ≤ 0 → k = 0)) ∧ x = .t (.i .i64 k) false) ∧ CQ b cs') ∧ RetP XX 22 (CU b i h) [In n] x cs' := by
  refine ret_PW rfl Tryz.func22 rfl rfl (by simp [Tryz.f22]) ?_
  simp only [Tryz.f22]
  simp only [CU, List.map_cons, List.map_nil]
  by_cases h0 : n ≤ 0
  · repeat' first|refine nx ?_|refine xb_miss (by decide) ?_|(apply W_reg;(simp [h0];exact .r _))
    refine W_cond (by simp; exact .r _) (fun hc => ?_) (fun hc => ?_)
    · repeat' first|refine nx ?_|refine xb_miss (by decide) ?_|(apply W_reg;(simp;exact .r _))
      exact EndsP.mk (cs' := CU b i h) (x := .t (.i .i64 0) false) (v := In 0) (by simp) (by simp) (by simp) ⟨⟨0, ⟨by omega, fun h => by omega, fun _ => rfl⟩, rfl⟩, i, h, hi, rfl⟩
    · cases hc
  obtain ⟨x, cs', ⟨⟨k, hk, rfl⟩, i1, h1, hi1, rfl⟩, hr⟩ := l1Byte_p b i h hb hi
  have c1 := cvP0 hr
  simp only [CU, List.map_cons, List.map_nil] at c1
  have hp : 0 < n := by omega
  have hm := tmod_bd hk.1 hp
  have hz : ¬ n = 0 := by omega
  repeat' first|refine nx ?_|refine xb_miss (by decide) ?_|(apply W_reg;(simp [h0];exact .r _))
  refine W_cond (by simp; exact .r _) (fun hc => ?_) (fun hc => ?_)
  · cases hc
  repeat' first|refine nx ?_|refine xb_miss (by decide) ?_|(apply W_reg;(simp [hn];exact .r _))
  refine W_cond (by simp; exact .r _) (fun hc => ?_) (fun hc => ?_)
  · repeat' first|refine nx ?_|refine xb_miss (by decide) ?_|(apply W_reg;(simp [c1, hz];exact .r _))
    exact EndsP.mk (cs' := CU b i1 h1) (x := .t (.i .i64 (k.tmod n)) false) (v := In (k.tmod n)) (by simp) (by simp) (by simp) ⟨⟨_, ⟨hm.1, fun _ => hm.2, fun h => by omega⟩, rfl⟩, i1, h1, hi1, rfl⟩
  · cases hc
theorem l1Once_p (b : List By) (i : Nat) (h n : Int) (hb : Sm b) (hi : i ≤ b.length) (hn : n ≤ 256) : ∃ x cs', ((∃ k : Bool, x = .t (.b k) false) ∧ CQ b cs') ∧ RetP XX 20 (CU b i h) [In n] x cs' := by
  refine ret_PW rfl Tryz.func20 rfl rfl (by simp [Tryz.f20]) ?_
  simp only [Tryz.f20]
  obtain ⟨x, cs', ⟨⟨k, hk, rfl⟩, i1, h1, hi1, rfl⟩, hr⟩ := l1Below_p b i h n hb hi hn
  have c1 := cvP hr
  simp only [CU, List.map_cons, List.map_nil] at c1 ⊢
  repeat' first|refine nx ?_|refine xb_miss (by decide) ?_|(apply W_reg;(simp [c1];exact .r _))
  exact EndsP.mk (cs' := CU b i1 h1) (x := .t (.b (decide (k = 0))) false) (v := Bo (decide (k = 0))) (by simp) (by simp) (by simp) ⟨⟨_, rfl⟩, i1, h1, hi1, rfl⟩
theorem l1PickInt_p (b : List By) (i : Nat) (h : Int) (l : List Int) (hb : Sm b) (hi : i ≤ b.length) (hl : 0 < l.length ∧ l.length ≤ 256) : ∃ x cs', ((∃ k : Int, k ∈ l ∧ x = .t (.i .i64 k) false) ∧ CQ b cs') ∧ RetP XX 45 (CU b i h) [Ar l] x cs' := by
  refine ret_PW rfl Tryz.func45 rfl rfl (by simp [Tryz.f45]) ?_
  simp only [Tryz.f45]
  obtain ⟨x, cs', ⟨⟨k, hk, rfl⟩, i1, h1, hi1, rfl⟩, hr⟩ := l1Below_p b i h l.length hb hi (by omega)
  have c1 := cvP hr
  simp only [CU, List.map_cons, List.map_nil] at c1 ⊢
  have hk0 := hk.1
  have hkl : k.toNat < l.length := by have := hk.2.1 (by omega); omega
  repeat' first|refine nx ?_|refine xb_miss (by decide) ?_|(apply W_reg;(simp [c1, hk0, hkl];exact .r _))
  exact EndsP.mk (cs' := CU b i1 h1) (x := .t (.i .i64 (l[k.toNat])) false) (v := In (l[k.toNat])) (by simp) (by simp) (by simp) ⟨⟨_, List.getElem_mem hkl, rfl⟩, i1, h1, hi1, rfl⟩
/-- The cursor is made. -/
theorem l1New_r (b : List By) (hb : b.length ≤ 1048576) : ∃ h : Int, Ret XX 13 [Ar b] (.bx (CU b 0 h)) := by
  suffices H : ∃ x, (∃ h : Int, x = XV.bx (CU b 0 h)) ∧ Ret XX 13 [Ar b] x by
    obtain ⟨x, ⟨h, rfl⟩, H⟩ := H; exact ⟨h, H⟩
  refine ret_QW rfl Tryz.func13 rfl rfl (by simp [Tryz.f13]) ?_
  simp only [Tryz.f13]
  repeat' first|refine nx ?_|refine xb_miss (by decide) ?_|(apply W_reg;(simp;exact .r _))
  refine W_loop (n := b.length) (fun n s => ∃ i : Nat, ∃ h : Int, n = b.length - i ∧ s.nt = 32 ∧ s.tm 0 = Ar b ∧ s.tm 3 = In h ∧ s.tm 4 = In i ∧ i ≤ b.length ∧ s.σ = ⟨0, fun _ => .dead⟩) ⟨0, IntKind.i64.wrap (10101 + b.length), by simp⟩ ?_
  rintro n ⟨nt, tm, σ⟩ ⟨i, h, rfl, hnt, h0, h3, h4, hi, hn⟩
  simp only at hnt h0 h3 h4 hn
  subst hnt
  by_cases g4 : i < b.length ∧ i < 4000
  · have ha : (i : Int) < b.length := by omega
    have hb4 : (i : Int) < 4000 := by omega
    have hil := g4.1
    have h4n := g4.2
    repeat' first|refine nx ?_|refine xb_miss (by decide) ?_|(apply W_reg;(simp [h0, h3, h4, hn, ha, hb4, hil, h4n];exact .r _))
    refine W_cond (by simp [h0, h3, h4, hn]; exact .r _) (fun hc => ?_) (fun hc => ?_)
    · repeat' first|refine nx ?_|refine xb_miss (by decide) ?_|(apply W_reg;(simp [h0, h3, h4, hn, ha, hb4, hil, h4n];exact .r _))
      refine ⟨b.length - (i + 1), by omega, i + 1, ?_⟩
      apply Exists.intro
      refine ⟨rfl, rfl, by simp [h0, h3, h4, hn], (by simp; rfl), (by simp [h0, h3, h4, hn]; exact wrap_succ (by omega)), by omega, by simp [hn]⟩
    · simp at hc
  · by_cases ha : (i : Int) < b.length
    · have hb4 : ¬ (i : Int) < 4000 := by omega
      have han : i < b.length := by omega
      have hbn : ¬ i < 4000 := by omega
      repeat' first|refine nx ?_|refine xb_miss (by decide) ?_|(apply W_reg;(simp [h0, h3, h4, hn, ha, hb4, han, hbn];exact .r _))
      refine W_cond (by simp [h0, h3, h4, hn]; exact .r _) (fun hc => ?_) (fun hc => ?_)
      · simp at hc
      repeat' first|refine nx ?_|refine xb_miss (by decide) ?_|(apply W_reg;(simp [h0, h3, h4, hn];exact .r _))
      exact EndsQ.mk (v := .ptr 0 0) (x := .bx (CU b 0 h)) (by simp) (by simp) ⟨h, rfl⟩
    · have han : ¬ i < b.length := by omega
      repeat' first|refine nx ?_|refine xb_miss (by decide) ?_|(apply W_reg;(simp [h0, h3, h4, hn, ha, han];exact .r _))
      refine W_cond (by simp [h0, h3, h4, hn]; exact .r _) (fun hc => ?_) (fun hc => ?_)
      · simp at hc
      repeat' first|refine nx ?_|refine xb_miss (by decide) ?_|(apply W_reg;(simp [h0, h3, h4, hn];exact .r _))
      exact EndsQ.mk (v := .ptr 0 0) (x := .bx (CU b 0 h)) (by simp) (by simp) ⟨h, rfl⟩
end Go.Proofs.YtpdpgfagklhpaaaGreat.V

namespace Go.Proofs.YtpdpgfagklhpaaaGreat.V
open Go Go.Proofs
set_option linter.unusedVariables false
set_option linter.unusedSimpArgs false
theorem occurs_r (q : Qry) (t : Int) (hb : Sm q.body) (ha : ∀ a ∈ q.body, Sm a.args) : Ret XX 82 [Ag q, In t] (.t (.b (occurs q t)) false) := by
  refine ret_W rfl Tryz.func82 rfl rfl (by simp [Tryz.f82]) ?_
  simp only [Tryz.f82]
  repeat' first|refine nx ?_|refine xb_miss (by decide) ?_|(apply W_reg;(simp [Ag];exact .r _))
  refine W_loop (n := q.body.length) (fun n s => ∃ i : Nat, n = q.body.length - i ∧ s.nt = 19 ∧ s.tm 1 = In t ∧ s.tm 8 = Ar q.body ∧ s.tm 9 = In q.body.length ∧ s.tm 10 = In i ∧ i ≤ q.body.length ∧ occurs q t = (q.body.drop i).any (fun a => decide (t ∈ a.args))) ⟨0, by simp [occurs]⟩ ?_
  rintro n ⟨nt, tm, σ⟩ ⟨i, rfl, hnt, h1, h8, h9, h10, hi, heq⟩
  simp only at hnt h1 h8 h9 h10
  subst hnt
  repeat' first|refine nx ?_|refine xb_miss (by decide) ?_|(apply W_reg;(simp [h1, h8, h9, h10];exact .r _))
  refine W_cond (by simp [h1, h8, h9, h10]; exact .r _) (fun hc => ?_) (fun hc => ?_)
  · have hil : i < q.body.length := by simpa using hc
    have hcc := cv (contains_r q.body[i].args t (ha _ (List.getElem_mem hil)))
    repeat' first|refine nx ?_|refine xb_miss (by decide) ?_|(apply W_reg;(simp [h1, h8, h9, h10, hil, hcc];exact .r _))
    rw [List.drop_eq_getElem_cons hil, List.any_cons] at heq
    refine W_cond (by simp [h1, h8, h9, h10]; exact .r _) (fun hd => ?_) (fun hd => ?_)
    · repeat' first|refine nx ?_|refine xb_miss (by decide) ?_|(apply W_reg;(simp [h1, h8, h9, h10];exact .r _))
      have hd' : t ∈ q.body[i].args := by simpa using hd
      rw [heq]; simp [hd']
    · have hd' : t ∉ q.body[i].args := by simpa using hd
      repeat' first|refine nx ?_|refine xb_miss (by decide) ?_|(apply W_reg;(simp [h1, h8, h9, h10];exact .r _))
      refine ⟨_, ?_, i + 1, rfl, rfl, ?_, ?_, ?_, ?_, by omega, by (rw [heq]; simp [hd'])⟩
      all_goals first|assumption|(simp [h1, h8, h9, h10];done)|(simp [h1, h8, h9, h10];omega)|(simp [h1, h8, h9, h10];exact wrap_succ (by omega))|omega
  have hil : i = q.body.length := by simp at hc; omega
  subst hil
  repeat' first|refine nx ?_|refine xb_miss (by decide) ?_|(apply W_reg;(simp [h1, h8, h9, h10];exact .r _))
  rw [heq, List.drop_length]; simp
theorem isSafe_r (q : Qry) (hh : Sm q.head) (hb : Sm q.body) (ha : ∀ a ∈ q.body, Sm a.args) : Ret XX 65 [Ag q] (.t (.b (isSafe q)) false) := by
  refine ret_W rfl Tryz.func65 rfl rfl (by simp [Tryz.f65]) ?_
  simp only [Tryz.f65]
  repeat' first|refine nx ?_|refine xb_miss (by decide) ?_|(apply W_reg;(simp [Ag];exact .r _))
  refine W_loop (n := q.head.length) (fun n s => ∃ i : Nat, n = q.head.length - i ∧ s.nt = 21 ∧ s.tm 1 = .ptr 0 0 ∧ s.tm 6 = Ar q.head ∧ s.tm 7 = In q.head.length ∧ s.tm 8 = In i ∧ i ≤ q.head.length ∧ s.σ.ob 0 = .box [Ar q.head, Ar q.body] ∧ isSafe q = (q.head.drop i).all (fun t => !isVar t || occurs q t)) ⟨0, by simp [isSafe]⟩ ?_
  rintro n ⟨nt, tm, σ⟩ ⟨i, rfl, hnt, h1, h6, h7, h8, hi, hb0, heq⟩
  simp only at hnt h1 h6 h7 h8 hb0
  subst hnt
  repeat' first|refine nx ?_|refine xb_miss (by decide) ?_|(apply W_reg;(simp [h1, h6, h7, h8, hb0];exact .r _))
  refine W_cond (by simp [h1, h6, h7, h8, hb0]; exact .r _) (fun hc => ?_) (fun hc => ?_)
  · have hil : i < q.head.length := by simpa using hc
    have c1 := cv (implIsVar_r q.head[i])
    have c2 := cv (occurs_r q q.head[i] hb ha)
    simp only [Ag, cells_Q, List.map_cons, List.map_nil] at c2
    rw [List.drop_eq_getElem_cons hil, List.all_cons] at heq
    cases e : isVar q.head[i]
    · repeat' first|refine nx ?_|refine xb_miss (by decide) ?_|(apply W_reg;(simp [h1, h6, h7, h8, hb0, hil, c1, c2, e];exact .r _))
      refine W_cond (by simp [h1, h6, h7, h8, hb0]; exact .r _) (fun hd => ?_) (fun hd => ?_)
      · cases hd
      · repeat' first|refine nx ?_|refine xb_miss (by decide) ?_|(apply W_reg;(simp [h1, h6, h7, h8, hb0];exact .r _))
        refine ⟨_, ?_, i + 1, rfl, rfl, ?_, ?_, ?_, ?_, by omega, ?_, by (rw [heq, e]; simp)⟩
        all_goals first|assumption|(simp [h1, h6, h7, h8, hb0];done)|(simp [h1, h6, h7, h8, hb0];omega)|(simp [h1, h6, h7, h8, hb0];exact wrap_succ (by omega))|omega
    · repeat' first|refine nx ?_|refine xb_miss (by decide) ?_|(apply W_reg;(simp [h1, h6, h7, h8, hb0, hil, c1, c2, e];exact .r _))
      refine W_cond (by simp [h1, h6, h7, h8, hb0]; exact .r _) (fun hd => ?_) (fun hd => ?_)
      · repeat' first|refine nx ?_|refine xb_miss (by decide) ?_|(apply W_reg;(simp [h1, h6, h7, h8, hb0];exact .r _))
        have hd' : occurs q q.head[i] = false := by simpa using hd
        rw [heq, e, hd']; simp
      · have hd' : occurs q q.head[i] = true := by simpa using hd
        repeat' first|refine nx ?_|refine xb_miss (by decide) ?_|(apply W_reg;(simp [h1, h6, h7, h8, hb0];exact .r _))
        refine ⟨_, ?_, i + 1, rfl, rfl, ?_, ?_, ?_, ?_, by omega, ?_, by (rw [heq, e, hd']; simp)⟩
        all_goals first|assumption|(simp [h1, h6, h7, h8, hb0];done)|(simp [h1, h6, h7, h8, hb0];omega)|(simp [h1, h6, h7, h8, hb0];exact wrap_succ (by omega))|omega
  have hil : i = q.head.length := by simp at hc; omega
  subst hil
  repeat' first|refine nx ?_|refine xb_miss (by decide) ?_|(apply W_reg;(simp [h1, h6, h7, h8, hb0];exact .r _))
  rw [heq, List.drop_length]; simp
theorem implIsQuery_r (c : Sch) (q : Qry) (hl : Sm c.arity) (hh : Sm q.head) (hb : Sm q.body) (ha : ∀ a ∈ q.body, Sm a.args) : Ret XX 34 [Ag c, Ag q] (.t (.b (isQry c q)) false) := by
  refine ret_W rfl Tryz.func34 rfl rfl (by simp [Tryz.f34]) ?_
  simp only [Tryz.f34]
  have h1 := cv (implIsSchema_r c hl)
  have h2 := cv (areTerms_r q.head hh)
  have h3 := cv (within_r q.body.length 1 4)
  have h4 := cv (isSafe_r q hh hb ha)
  simp only [Ag, cells_Sch, cells_Q, List.map_cons, List.map_nil] at h1 h4
  cases e1 : isSch c
  · repeat' first|refine nx ?_|refine xb_miss (by decide) ?_|(apply W_reg;(simp [Ag, h1, e1];exact .r _))
    refine W_cond (by simp; exact .r _) (fun hc => ?_) (fun hc => ?_)
    · repeat' first|refine nx ?_|refine xb_miss (by decide) ?_|(apply W_reg;(simp;exact .r _))
      simp [isQry, e1]
    · cases hc
  by_cases e2 : (q.head.length : Int) ≤ 3
  case neg =>
    have e2' : (3 : Int) < q.head.length := by omega
    have e2n : ¬ q.head.length ≤ 3 := by omega
    repeat' first|refine nx ?_|refine xb_miss (by decide) ?_|(apply W_reg;(simp [Ag, h1, e1, e2'];exact .r _))
    refine W_cond (by simp; exact .r _) (fun hc => ?_) (fun hc => ?_)
    · repeat' first|refine nx ?_|refine xb_miss (by decide) ?_|(apply W_reg;(simp;exact .r _))
      simp [isQry, e2n]
    · cases hc
  have e2' : ¬ (3 : Int) < q.head.length := by omega
  have e2n : q.head.length ≤ 3 := by omega
  cases e3 : q.head.all isTerm
  · repeat' first|refine nx ?_|refine xb_miss (by decide) ?_|(apply W_reg;(simp [Ag, h1, e1, e2', h2, e3];exact .r _))
    refine W_cond (by simp; exact .r _) (fun hc => ?_) (fun hc => ?_)
    · repeat' first|refine nx ?_|refine xb_miss (by decide) ?_|(apply W_reg;(simp;exact .r _))
      simp only [isQry, e3]; simp
    · cases hc
  cases e4 : inR q.body.length 1 4
  · repeat' first|refine nx ?_|refine xb_miss (by decide) ?_|(apply W_reg;(simp [Ag, h1, e1, e2', h2, e3, h3, e4];exact .r _))
    refine W_cond (by simp; exact .r _) (fun hc => ?_) (fun hc => ?_)
    · repeat' first|refine nx ?_|refine xb_miss (by decide) ?_|(apply W_reg;(simp;exact .r _))
      simp [isQry, e4]
    · cases hc
  repeat' first|refine nx ?_|refine xb_miss (by decide) ?_|(apply W_reg;(simp [Ag, h1, e1, e2', h2, e3, h3, e4];exact .r _))
  refine W_cond (by simp; exact .r _) (fun hc => ?_) (fun hc => ?_)
  · cases hc
  repeat' first|refine nx ?_|refine xb_miss (by decide) ?_|(apply W_reg;(simp;exact .r _))
  refine W_loop (n := q.body.length) (fun n s => ∃ i : Nat, n = q.body.length - i ∧ s.nt = 43 ∧ s.tm 2 = .ptr 0 0 ∧ s.tm 3 = .ptr 1 0 ∧ s.tm 30 = Ar q.body ∧ s.tm 31 = In q.body.length ∧ s.tm 32 = In i ∧ i ≤ q.body.length ∧ s.σ.ob 0 = .box [Ar c.arity] ∧ s.σ.ob 1 = .box [Ar q.head, Ar q.body] ∧ 2 ≤ s.σ.n ∧ q.body.all (isAtom c) = (q.body.drop i).all (isAtom c)) ⟨0, by simp⟩ ?_
  rintro n ⟨nt, tm, σ⟩ ⟨i, rfl, hnt, h2, h3, h30, h31, h32, hi, hb0, hb1, hn, heq⟩
  simp only at hnt h2 h3 h30 h31 h32 hb0 hb1 hn
  subst hnt
  have n0 : ¬ (0 = σ.n) := by omega
  have n1 : ¬ (1 = σ.n) := by omega
  have n0' : ¬ (σ.n = 0) := by omega
  have n1' : ¬ (σ.n = 1) := by omega
  repeat' first|refine nx ?_|refine xb_miss (by decide) ?_|(apply W_reg;(simp [h2, h3, h30, h31, h32, hb0, hb1, hn];exact .r _))
  refine W_cond (by simp [h2, h3, h30, h31, h32, hb0, hb1, hn]; exact .r _) (fun hc => ?_) (fun hc => ?_)
  · have hil : i < q.body.length := by simpa using hc
    have hcc := cv (implIsAtom_r c q.body[i] hl (ha _ (List.getElem_mem hil)))
    simp only [Ag, cells_Sch, cells_RA, List.map_cons, List.map_nil] at hcc
    repeat' first|refine nx ?_|refine xb_miss (by decide) ?_|(apply W_reg;(simp [h2, h3, h30, h31, h32, hb0, hb1, hn, hil, hcc, n0, n1, n0', n1'];exact .r _))
    rw [List.drop_eq_getElem_cons hil, List.all_cons] at heq
    refine W_cond (by simp [h2, h3, h30, h31, h32, hb0, hb1, hn]; exact .r _) (fun hd => ?_) (fun hd => ?_)
    · repeat' first|refine nx ?_|refine xb_miss (by decide) ?_|(apply W_reg;(simp [h2, h3, h30, h31, h32, hb0, hb1, hn];exact .r _))
      have hd' : isAtom c q.body[i] = false := by simpa using hd
      simp [isQry, heq, hd']
    · have hd' : isAtom c q.body[i] = true := by simpa using hd
      repeat' first|refine nx ?_|refine xb_miss (by decide) ?_|(apply W_reg;(simp [h2, h3, h30, h31, h32, hb0, hb1, hn];exact .r _))
      refine ⟨_, ?_, i + 1, rfl, rfl, ?_, ?_, ?_, ?_, ?_, by omega, ?_, ?_, ?_, by (rw [heq]; simp [hd'])⟩
      all_goals first|assumption|(simp [h2, h3, h30, h31, h32, hb0, hb1, hn, n0, n1, n0', n1'];done)|(simp [h2, h3, h30, h31, h32, hb0, hb1, hn, n0, n1, n0', n1'];omega)|(simp [h2, h3, h30, h31, h32, hb0, hb1, hn, n0, n1, n0', n1'];exact wrap_succ (by omega))|omega
  have hil : i = q.body.length := by simp at hc; omega
  subst hil
  rw [List.drop_length, List.all_nil] at heq
  repeat' first|refine nx ?_|refine xb_miss (by decide) ?_|(apply W_reg;(simp [h2, h3, h30, h31, h32, hb0, hb1, hn, h4];exact .r _))
  simp only [isQry, e1, e2n, e3, e4, heq]; simp
/-- The variables of a body, as the reference lists them. -/
def bvars1 (acc : List Int) (l : List Int) : List Int := l.foldl (fun acc t => if decide (0 ≤ t) && !decide (t ∈ acc) then acc ++ [t] else acc) acc
def bvars (acc : List Int) (body : List RA) : List Int := body.foldl (fun acc a => bvars1 acc a.args) acc
theorem bvars1_mem : ∀ (l acc : List Int) (x : Int), x ∈ bvars1 acc l ↔ x ∈ acc ∨ (0 ≤ x ∧ x ∈ l)
  | [], acc, x => by simp [bvars1]
  | t :: l, acc, x => by
    have ih := fun acc => bvars1_mem l acc x
    unfold bvars1 at ih ⊢
    rw [List.foldl_cons, ih]
    split
    · rename_i h
      simp only [Bool.and_eq_true, decide_eq_true_eq] at h
      simp only [List.mem_append, List.mem_cons, List.not_mem_nil, or_false]
      constructor
      · rintro ((h1 | rfl) | h1)
        · exact .inl h1
        · exact .inr ⟨h.1, .inl rfl⟩
        · exact .inr ⟨h1.1, .inr h1.2⟩
      · rintro (h1 | ⟨h1, rfl | h2⟩)
        · exact .inl (.inl h1)
        · exact .inl (.inr rfl)
        · exact .inr ⟨h1, h2⟩
    · rename_i h
      simp only [Bool.and_eq_true, decide_eq_true_eq, Bool.not_eq_true', decide_eq_false_iff_not, not_and, Classical.not_not] at h
      simp only [List.mem_cons]
      constructor
      · rintro (h1 | h1)
        · exact .inl h1
        · exact .inr ⟨h1.1, .inr h1.2⟩
      · rintro (h1 | ⟨h1, rfl | h2⟩)
        · exact .inl h1
        · exact .inl (h h1)
        · exact .inr ⟨h1, h2⟩
theorem bvars_mem : ∀ (body : List RA) (acc : List Int) (x : Int), x ∈ bvars acc body ↔ x ∈ acc ∨ (0 ≤ x ∧ ∃ a ∈ body, x ∈ a.args)
  | [], acc, x => by simp [bvars]
  | a :: body, acc, x => by
    have ih := bvars_mem body (bvars1 acc a.args) x
    unfold bvars at ih ⊢
    rw [List.foldl_cons, ih, bvars1_mem]
    constructor
    · rintro ((h | h) | ⟨h, b, hb, h2⟩)
      · exact .inl h
      · exact .inr ⟨h.1, a, by simp, h.2⟩
      · exact .inr ⟨h, b, by simp [hb], h2⟩
    · rintro (h | ⟨h, b, hb, h2⟩)
      · exact .inl (.inl h)
      · rcases List.mem_cons.1 hb with rfl | hb
        · exact .inl (.inr ⟨h, h2⟩)
        · exact .inr ⟨h, b, hb, h2⟩
theorem bvars1_take (l acc : List Int) (j : Nat) (h : j < l.length) : bvars1 acc (l.take (j + 1)) = if decide (0 ≤ l[j]) && !decide (l[j] ∈ bvars1 acc (l.take j)) then bvars1 acc (l.take j) ++ [l[j]] else bvars1 acc (l.take j) := by
  rw [List.take_succ_eq_append_getElem h]; unfold bvars1; rw [List.foldl_append]; rfl
theorem bvars_take (l : List RA) (acc : List Int) (j : Nat) (h : j < l.length) : bvars acc (l.take (j + 1)) = bvars1 (bvars acc (l.take j)) l[j].args := by
  rw [List.take_succ_eq_append_getElem h]; unfold bvars; rw [List.foldl_append]; rfl
theorem bodyVars_r (q : Qry) (hb : q.body.length ≤ 1000) (ha : ∀ a ∈ q.body, a.args.length ≤ 1000) : Ret XX 42 [Ag q] (.own 1 (rowsE (bvars [] q.body))) := by
  refine ret_W rfl Tryz.func42 rfl rfl (by simp [Tryz.f42]) ?_
  simp only [Tryz.f42]
  repeat' first|refine nx ?_|refine xb_miss (by decide) ?_|(apply W_reg;(simp [Ag];exact .r _))
  refine W_loop (n := q.body.length) (fun n s => ∃ i : Nat, ∃ acc : List Int, n = q.body.length - i ∧ s.nt = 48 ∧ s.tm 1 = .ptr 0 0 ∧ s.tm 3 = .ref 1 acc.length [] ∧ s.tm 4 = In i ∧ i ≤ q.body.length ∧ s.σ.ob 0 = .box [Ar q.head, Ar q.body] ∧ s.σ.ob 1 = .arr (.own 0) 0 1 (rowsE acc) ∧ 2 ≤ s.σ.n ∧ acc = bvars [] (q.body.take i) ∧ acc.length ≤ i * 1000) ⟨0, [], by simp [bvars]⟩ ?_
  rintro n ⟨nt, tm, σ⟩ ⟨i, acc, rfl, hnt, h1, h3, h4, hi, hb0, ho, hn, hac, hal⟩
  simp only at hnt h1 h3 h4 hb0 ho hn
  subst hnt
  have n0 : ¬ (0 = σ.n) := by omega
  have n1 : ¬ (1 = σ.n) := by omega
  have n0' : ¬ (σ.n = 0) := by omega
  have n1' : ¬ (σ.n = 1) := by omega
  repeat' first|refine nx ?_|refine xb_miss (by decide) ?_|(apply W_reg;(simp [h1, h3, h4, hb0, ho, hn];exact .r _))
  refine W_cond (by simp [h1, h3, h4, hb0, ho, hn]; exact .r _) (fun hc => ?_) (fun hc => ?_)
  · have hil : i < q.body.length := by simpa using hc
    have hal2 := ha _ (List.getElem_mem hil)
    repeat' first|refine nx ?_|refine xb_miss (by decide) ?_|(apply W_reg;(simp [h1, h3, h4, hb0, ho, hn, hil];exact .r _))
    refine W_loop (n := q.body[i].args.length) (fun n s => ∃ j : Nat, ∃ ac2 : List Int, n = q.body[i].args.length - j ∧ s.nt = 48 ∧ s.tm 1 = .ptr 0 0 ∧ s.tm 3 = .ref 1 ac2.length [] ∧ s.tm 4 = In i ∧ s.tm 5 = In j ∧ j ≤ q.body[i].args.length ∧ s.σ.ob 0 = .box [Ar q.head, Ar q.body] ∧ s.σ.ob 1 = .arr (.own 0) 0 1 (rowsE ac2) ∧ 2 ≤ s.σ.n ∧ ac2 = bvars1 acc (q.body[i].args.take j) ∧ ac2.length ≤ i * 1000 + j) ⟨0, acc, by simp [h1, h3, h4, hb0, ho, hn, bvars1, hal]⟩ ?_
    rintro n ⟨nt, tm, σ⟩ ⟨j, ac2, rfl, hnt, h1, h3, h4, h5, hj, hb0, ho, hn, hac2, hal3⟩
    simp only at hnt h1 h3 h4 h5 hb0 ho hn
    subst hnt
    have n0 : ¬ (0 = σ.n) := by omega
    have n1 : ¬ (1 = σ.n) := by omega
    have n0' : ¬ (σ.n = 0) := by omega
    have n1' : ¬ (σ.n = 1) := by omega
    repeat' first|refine nx ?_|refine xb_miss (by decide) ?_|(apply W_reg;(simp [h1, h3, h4, h5, hb0, ho, hn, hil];exact .r _))
    refine W_cond (by simp [h1, h3, h4, h5, hb0, ho, hn]; exact .r _) (fun hd => ?_) (fun hd => ?_)
    · have hjl : j < q.body[i].args.length := by simpa using hd
      have h2 := cv (l2Has_r ac2 q.body[i].args[j] (by unfold Sm; omega))
      have htk := bvars1_take q.body[i].args acc j hjl
      rw [← hac2] at htk
      by_cases e : 0 ≤ q.body[i].args[j]
      · repeat' first|refine nx ?_|refine xb_miss (by decide) ?_|(apply W_reg;(simp [h1, h3, h4, h5, hb0, ho, hn, hil, hjl, e, h2];exact .r _))
        have hb40 : ac2.length + 1 < 1099511627776 := by omega
        refine W_cond (by simp [h1, h3, h4, h5, hb0, ho, hn]; exact .r _) (fun he => ?_) (fun he => ?_)
        · have he' : q.body[i].args[j] ∉ ac2 := by simpa using he
          repeat' first|refine nx ?_|refine xb_miss (by decide) ?_|(apply W_reg;(simp [h1, h3, h4, h5, hb0, ho, hn, hb40, n0, n1, n0', n1'];exact .r _))
          refine ⟨_, ?_, j + 1, ac2 ++ [q.body[i].args[j]], rfl, rfl, ?_, ?_, ?_, ?_, by omega, ?_, ?_, ?_, by (rw [htk]; simp [e, he']), by (simp; omega)⟩
          all_goals first|assumption|(simp [h1, h3, h4, h5, hb0, ho, hn, n0, n1, n0', n1', rowsE_append, rowsE];done)|(simp [h1, h3, h4, h5, hb0, ho, hn, n0, n1, n0', n1', rowsE_append, rowsE];omega)|(simp [h1, h3, h4, h5, hb0, ho, hn, n0, n1, n0', n1', rowsE_append, rowsE];exact wrap_succ (by omega))|omega
        · have he' : q.body[i].args[j] ∈ ac2 := by simpa using he
          repeat' first|refine nx ?_|refine xb_miss (by decide) ?_|(apply W_reg;(simp [h1, h3, h4, h5, hb0, ho, hn];exact .r _))
          refine ⟨_, ?_, j + 1, ac2, rfl, rfl, ?_, ?_, ?_, ?_, by omega, ?_, ?_, ?_, by (rw [htk]; simp [he']), by omega⟩
          all_goals first|assumption|(simp [h1, h3, h4, h5, hb0, ho, hn];done)|(simp [h1, h3, h4, h5, hb0, ho, hn];omega)|(simp [h1, h3, h4, h5, hb0, ho, hn];exact wrap_succ (by omega))|omega
      · repeat' first|refine nx ?_|refine xb_miss (by decide) ?_|(apply W_reg;(simp [h1, h3, h4, h5, hb0, ho, hn, hil, hjl, e, h2];exact .r _))
        refine W_cond (by simp [h1, h3, h4, h5, hb0, ho, hn]; exact .r _) (fun he => ?_) (fun he => ?_)
        · cases he
        · repeat' first|refine nx ?_|refine xb_miss (by decide) ?_|(apply W_reg;(simp [h1, h3, h4, h5, hb0, ho, hn];exact .r _))
          refine ⟨_, ?_, j + 1, ac2, rfl, rfl, ?_, ?_, ?_, ?_, by omega, ?_, ?_, ?_, by (rw [htk]; simp [e]), by omega⟩
          all_goals first|assumption|(simp [h1, h3, h4, h5, hb0, ho, hn];done)|(simp [h1, h3, h4, h5, hb0, ho, hn];omega)|(simp [h1, h3, h4, h5, hb0, ho, hn];exact wrap_succ (by omega))|omega
    · have hje : j = q.body[i].args.length := by simp at hd; omega
      subst hje
      rw [List.take_length] at hac2
      repeat' first|refine nx ?_|refine xb_miss (by decide) ?_|(apply W_reg;(simp [h1, h3, h4, h5, hb0, ho, hn];exact .r _))
      exact ⟨q.body.length - (i + 1), by omega, i + 1, ac2, rfl, rfl, by simp [h1], by simp [h3], by simp [h4]; exact wrap_succ (by omega), by omega, by simp [hb0], by simp [ho], by simpa using hn, by rw [bvars_take _ _ _ hil, ← hac, hac2], by omega⟩
  have hil : i = q.body.length := by simp at hc; omega
  subst hil
  rw [List.take_length] at hac
  subst hac
  repeat' first|refine nx ?_|refine xb_miss (by decide) ?_|(apply W_reg;(simp [h1, h3, h4, hb0, ho];exact .r _))
  simp [ho]
theorem bvars_len (q : Qry) (hb : q.body.length ≤ 1000) (ha : ∀ a ∈ q.body, a.args.length ≤ 1000) : (bvars [] q.body).length ≤ 1000000 := by
  have h1 : ∀ (l acc : List Int), (bvars1 acc l).length ≤ acc.length + l.length := by
    intro l
    induction l with
    | nil => intro acc; simp [bvars1]
    | cons t l ih =>
      intro acc
      have := ih (if decide (0 ≤ t) && !decide (t ∈ acc) then acc ++ [t] else acc)
      unfold bvars1 at this ⊢
      rw [List.foldl_cons]
      refine Nat.le_trans this ?_
      split <;> simp <;> omega
  have h2 : ∀ (l : List RA) (acc : List Int), (∀ a ∈ l, a.args.length ≤ 1000) → (bvars acc l).length ≤ acc.length + l.length * 1000 := by
    intro l
    induction l with
    | nil => intro acc _; simp [bvars]
    | cons a l ih =>
      intro acc h
      have hx := ih (bvars1 acc a.args) fun b hb => h b (List.mem_cons_of_mem _ hb)
      have hy := h1 a.args acc
      have hz := h a (by simp)
      unfold bvars at hx ⊢
      rw [List.foldl_cons, List.length_cons]
      omega
  have := h2 q.body [] ha
  simp at this
  omega
end Go.Proofs.YtpdpgfagklhpaaaGreat.V

