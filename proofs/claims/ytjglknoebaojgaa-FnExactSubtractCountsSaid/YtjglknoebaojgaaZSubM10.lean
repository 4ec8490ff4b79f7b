/- Several texts in one: what the claim needs of them. Conditions: each declaration's own. -/
import Derived.Test.YtjglknoebaojgaaZSubWLast
import Derived.Test.YtjglknoebaojgaaZSubWMore
import Derived.Test.YtjglknoebaojgaaProg
import Derived.Below
import Derived.Deep.Draws
import Derived.Deep.AppendLies
import Derived.Maps.AppendAt
import Derived.OwnWalk
import Derived.Laws.BytesArg
import Derived.Laws.MakeOwn
import Derived.Laws.OwnMore
import Derived.Deep.OwnRows
import Derived.Tactics
import Derived.Lib.ConvBytes
import Derived.Laws.Slices
import Derived.WalkKit
import Derived.KernelRfl
import Derived.RowKit3
import Derived.Deep.LoopGhost
import Derived.Deep.QuietTactic
import Derived.BigQuiet
import Derived.WideLaws
import Derived.Deep.DeepCutAuto
import Derived.Deep.CutBlock
import Derived.Deep.RegionHeld3
import Derived.Laws.Rows
import Derived.Lib.AppendStr
import Derived.ArgAppend
import Derived.Laws.IdiomCopy
import Derived.OrdersHeld
import Derived.Laws.BitsLemmas
import Derived.RowKit
import Derived.Test.YtjglknoebaojgaaZSubWWords
import Derived.Test.YtjglknoebaojgaaZSubWTab
import Derived.Test.YtjglknoebaojgaaZSubWApart
import Derived.Test.YtjglknoebaojgaaZSubWKept
import Derived.Test.YtjglknoebaojgaaZSubWShare
import Derived.Test.YtjglknoebaojgaaZSubWN
import Derived.Laws.StructEq
import Derived.Test.YtjglknoebaojgaaZSubWRepsOne
import Derived.Test.YtjglknoebaojgaaZSubWGuard
namespace Go.Proofs.YtjglknoebaojgaaW.PrintLast
open Go.RowKit Go.Proofs.YtjglknoebaojgaaW.PrintWords
variable {P : Program} {md : Region.Mode} {ops : Array Oper} {Q : Exit → Act → World → Prop} {S : World → Prop} {ds : List Nat}
theorem gate_val {rest : List Oper} {o : Oper} {a : Act} {W : World} {n : Tmp} {as_ : Array Operand} {ts : Array TypeId} (_ho : o.op = .call { callee := .value (.tmp n), args := as_, argTypes := ts }) (h : wpList P ops Q (o :: rest) a W) : wpList P ops Q (o :: rest) a W := h
end Go.Proofs.YtjglknoebaojgaaW.PrintLast

namespace Go.Proofs.Ytjglknoebaojgaa.G
open Go.RowKit Go.Proofs.YtjglknoebaojgaaW.PrintWords Go.Proofs.YtjglknoebaojgaaW.PrintLast Go.Proofs.YtjglknoebaojgaaW.PrintMore
attribute [local go_sem] max2_int min2_int max_two min_two max_three min_three max_four min_four   -- for this text's walks alone
set_option linter.unusedVariables false
set_option linter.unusedSimpArgs false

def errW : Option Int → Value
  | none => .nilIface
  | some c => .iface 0 (.int .i64 c)
theorem errW_none : errW none = .nilIface := rfl
theorem errW_some (c : Int) : errW (some c) = .iface 0 (.int .i64 c) := rfl

theorem info3 : (Try.prog.info? 3).map (fun i => (i.zero, i.size, i.bytes)) = some (some (.int .i64 0), 1, 8) := by kernel_rfl
theorem info91 : (Try.prog.info? 91).map (fun i => (i.zero, i.size, i.bytes)) = some (some (.agg #[(.slice none 0 0), (.int .i64 0)]), 2, 32) := by kernel_rfl
structure S89 where
  f0 : (List Int)
  f1 : Int
def z89 : S89 := ⟨([] : List Int), (0 : Int)⟩
def k89 : Kd S89 := Kd.iso (Kd.pair (Kd.slice 3 (Kd.int .i64)) (Kd.int .i64)) (fun x : S89 => (x.f0, x.f1))
theorem k89_open {w : World} {x : S89} {cs : List Value} (h : k89.K w x cs) : ∃ A0 c0, cs = [.slice A0 x.f0.length c0, .int .i64 x.f1] ∧ x.f0.length ≤ c0 ∧ (Kd.int .i64).C w A0 x.f0.length x.f0 := by
  obtain ⟨_, _, rfl, ⟨A0, c0, rfl, l0, g0⟩, rfl⟩ := h
  exact ⟨A0, c0, rfl, l0, g0⟩
def rd_T89 (xs : List S89) (i : Int) : S89 := xs.getD i.toNat z89
theorem at_T89 {w : World} {A : Option Addr} {n : Nat} {xs : List S89} (h : Kd.C k89 w A n xs) (i : Int) (h0 : 0 ≤ i) (h1 : i < n) : ∃ ad A0 c0, A = some ad ∧ w.cell? (ad.add (i.toNat * 2)) = some (.slice A0 (rd_T89 xs i).f0.length c0) ∧ w.cell? ⟨(ad.add (i.toNat * 2)).block, (ad.add (i.toNat * 2)).off + 1, none⟩ = some (.int .i64 (rd_T89 xs i).f1) ∧ (rd_T89 xs i).f0.length ≤ c0 ∧ (Kd.int .i64).C w A0 (rd_T89 xs i).f0.length (rd_T89 xs i).f0 := by
  obtain ⟨ad, c, e, _, hK, hc0⟩ := Kd.C_get h z89 i h0 h1
  have hc : ∀ j u, c[j]? = some u → w.cell? (ad.add (i.toNat * 2 + j)) = some u := hc0
  obtain ⟨A0, c0, rfl, l0, g0⟩ := k89_open hK
  exact ⟨ad, A0, c0, e, hc 0 _ rfl, by rw [← add_field _ _ 1 (by omega)]; exact hc 1 _ rfl, l0, g0⟩

structure S91 where
  f0 : (List Int)
  f1 : Int
def z91 : S91 := ⟨([] : List Int), (0 : Int)⟩
def k91 : Kd S91 := Kd.iso (Kd.pair (Kd.slice 3 (Kd.int .i64)) (Kd.int .i64)) (fun x : S91 => (x.f0, x.f1))
theorem k91_open {w : World} {x : S91} {cs : List Value} (h : k91.K w x cs) : ∃ A0 c0, cs = [.slice A0 x.f0.length c0, .int .i64 x.f1] ∧ x.f0.length ≤ c0 ∧ (Kd.int .i64).C w A0 x.f0.length x.f0 := by
  obtain ⟨_, _, rfl, ⟨A0, c0, rfl, l0, g0⟩, rfl⟩ := h
  exact ⟨A0, c0, rfl, l0, g0⟩
theorem k91_openM {w : World} {base : Nat} {ok : Nat → Prop} {x : S91} {cs : List Value} (h : k91.M w base ok x cs) : ∃ v0, cs = [v0, .int .i64 x.f1] ∧ (Kd.int .i64).R 3 w base ok v0 x.f0 := by
  obtain ⟨_, _, rfl, ⟨v0, rfl, g0⟩, rfl⟩ := h
  exact ⟨v0, rfl, g0⟩
theorem k91_mkM (w : World) (base : Nat) (ok : Nat → Prop) (x : S91) {v0 : Value} (g0 : (Kd.int .i64).R 3 w base ok v0 x.f0) : k91.M w base ok x [v0, .int .i64 x.f1] := ⟨[v0], [.int .i64 x.f1], rfl, ⟨v0, rfl, g0⟩, rfl⟩
def rd_T91 (xs : List S91) (i : Int) : S91 := xs.getD i.toNat z91
theorem at_T91 {w : World} {A : Option Addr} {n : Nat} {xs : List S91} (h : Kd.C k91 w A n xs) (i : Int) (h0 : 0 ≤ i) (h1 : i < n) : ∃ ad A0 c0, A = some ad ∧ w.cell? (ad.add (i.toNat * 2)) = some (.slice A0 (rd_T91 xs i).f0.length c0) ∧ w.cell? ⟨(ad.add (i.toNat * 2)).block, (ad.add (i.toNat * 2)).off + 1, none⟩ = some (.int .i64 (rd_T91 xs i).f1) ∧ (rd_T91 xs i).f0.length ≤ c0 ∧ (Kd.int .i64).C w A0 (rd_T91 xs i).f0.length (rd_T91 xs i).f0 := by
  obtain ⟨ad, c, e, _, hK, hc0⟩ := Kd.C_get h z91 i h0 h1
  have hc : ∀ j u, c[j]? = some u → w.cell? (ad.add (i.toNat * 2 + j)) = some u := hc0
  obtain ⟨A0, c0, rfl, l0, g0⟩ := k91_open hK
  exact ⟨ad, A0, c0, e, hc 0 _ rfl, by rw [← add_field _ _ 1 (by omega)]; exact hc 1 _ rfl, l0, g0⟩

end Go.Proofs.Ytjglknoebaojgaa.G

namespace Go.Proofs.Ytjglknoebaojgaa.Lay
open Go.RowKit Go.Proofs.YtjglknoebaojgaaW.PrintWords
set_option linter.unusedVariables false
set_option linter.unusedSimpArgs false

abbrev pa (g j : Nat) : Addr := ⟨g, j, none⟩
def isI (v : Value) : Prop := ∃ x, v = .int .i64 x
/-- Every plain cell of W stands in W', integers being integers still. -/
structure Hd (W W' : World) : Prop where
  size : W.heap.size ≤ W'.heap.size
  cell : ∀ g j v, W.cell? (pa g j) = some v → W.frozen? (pa g j) = false → W'.frozen? (pa g j) = false ∧ ∃ v', W'.cell? (pa g j) = some v' ∧ (v' = v ∨ isI v ∧ isI v')

variable {W W1 W2 w w1 w2 : World} {g j o : Nat} {v u : Value} {k x : Int}

theorem Hd.trans (h : Hd W W1) (k : Hd W1 W2) : Hd W W2 := ⟨Nat.le_trans h.size k.size, fun g j v hc hf => by
  obtain ⟨f1, v1, c1, e1⟩ := h.cell g j v hc hf
  obtain ⟨f2, v2, c2, e2⟩ := k.cell g j v1 c1 f1
  refine ⟨f2, v2, c2, ?_⟩
  rcases e2 with rfl | ⟨i1, i2⟩
  · exact e1
  · rcases e1 with rfl | ⟨j1, _⟩
    · exact .inr ⟨i1, i2⟩
    · exact .inr ⟨j1, i2⟩⟩
theorem blk_same (h : W1.heap[g]? = W.heap[g]?) (j : Nat) : W1.cell? (pa g j) = W.cell? (pa g j) ∧ W1.frozen? (pa g j) = W.frozen? (pa g j) := by
  unfold World.cell? World.frozen?
  simp only [pa]
  rw [h]
  exact ⟨rfl, rfl⟩
theorem lt_of_cell (h : W.cell? (pa g j) = some v) : g < W.heap.size := World.block_lt_of_cell? W _ h
theorem Hd.below (hb : Below W.heap.size W W1) : Hd W W1 := ⟨hb.size, fun g j v hc hf => by
  have hs := blk_same (hb.block g (lt_of_cell hc)) j
  exact ⟨hs.2.trans hf, v, hs.1.trans hc, .inl rfl⟩⟩
theorem obj_of_cell (h : W.cell? (pa g j) = some v) : ∃ cs t fz, W.heap[g]? = some (.cells cs t fz) ∧ cs[j]? = some v := by
  unfold World.cell? at h
  simp only [pa] at h
  split at h
  · rename_i c e f hc
    exact ⟨c, e, f, hc, by simpa using h⟩
  · cases h
theorem set_obj {cs : Array Value} {t : TypeId} {fz : Nat × Nat} (h : W.heap[g]? = some (.cells cs t fz)) (j : Nat) (u : Value) : (W.setCell (pa g j) u).heap[g]? = some (.cells (cs.setIfInBounds j u) t fz) := by
  simp only [World.setCell, pa, Array.getElem?_modify, if_true, h, Option.map_some]
  rfl
theorem set_cell (h : W.cell? (pa g j) = some v) (u : Value) : (W.setCell (pa g j) u).cell? (pa g j) = some u := by
  obtain ⟨cs, t, fz, ho, hc⟩ := obj_of_cell h
  unfold World.cell?
  simp only [set_obj ho, pa]
  have hj : j < cs.size := (Array.getElem?_eq_some_iff.1 hc).1
  simp [Array.getElem?_setIfInBounds, hj]
theorem set_other {g' j' : Nat} (u : Value) (hne : ¬ (g' = g ∧ j' = j)) : (W.setCell (pa g j) u).cell? (pa g' j') = W.cell? (pa g' j') := by
  by_cases hg : g' = g
  · subst hg
    have hj : j ≠ j' := fun h => hne ⟨rfl, h.symm⟩
    rcases hh : W.heap[g']? with _ | ob
    · have : (W.setCell (pa g' j) u).heap[g']? = none := by simp [World.setCell, pa, Array.getElem?_modify, hh]
      unfold World.cell?
      simp only [pa] at this ⊢
      rw [this, hh]
    · by_cases hk : ∃ cs t fz, ob = .cells cs t fz
      · obtain ⟨cs, t, fz, rfl⟩ := hk
        unfold World.cell?
        have := set_obj hh j u
        simp only [pa] at this ⊢
        rw [this, hh]
        simp [Array.getElem?_setIfInBounds, hj]
      · have h2 : (W.setCell (pa g' j) u).heap[g']? = some ob := by
          simp only [World.setCell, pa, Array.getElem?_modify, if_true, hh, Option.map_some]
          cases ob <;> first | rfl | exact absurd ⟨_, _, _, rfl⟩ hk
        exact (blk_same (h2.trans hh.symm) j').1
  · exact (blk_same (Below.heap_setCell W (pa g j) u g' (fun h => hg h)) j').1
theorem set_frozen (g' j' : Nat) (u : Value) : (W.setCell (pa g j) u).frozen? (pa g' j') = W.frozen? (pa g' j') := by
  by_cases hg : g' = g
  · subst hg
    rcases hh : W.heap[g']? with _ | ob
    · have : (W.setCell (pa g' j) u).heap[g']? = none := by simp [World.setCell, pa, Array.getElem?_modify, hh]
      unfold World.frozen?
      simp only [pa] at this ⊢
      rw [this, hh]
    · by_cases hk : ∃ cs t fz, ob = .cells cs t fz
      · obtain ⟨cs, t, fz, rfl⟩ := hk
        unfold World.frozen?
        have := set_obj hh j u
        simp only [pa] at this ⊢
        rw [this, hh]
      · have h2 : (W.setCell (pa g' j) u).heap[g']? = some ob := by
          simp only [World.setCell, pa, Array.getElem?_modify, if_true, hh, Option.map_some]
          cases ob <;> first | rfl | exact absurd ⟨_, _, _, rfl⟩ hk
        exact (blk_same (h2.trans hh.symm) j').2
  · exact (blk_same (Below.heap_setCell W (pa g j) u g' (fun h => hg h)) j').2

abbrev Pl := List (Nat × Nat)
/-- An integer's cell. -/
def Ic (W : World) (g j : Nat) : Prop := W.frozen? (pa g j) = false ∧ ∃ x, W.cell? (pa g j) = some (.int .i64 x)
theorem Ic.hd (h : Ic W g j) (hh : Hd W W1) : Ic W1 g j := by
  obtain ⟨hf, x, hc⟩ := h
  obtain ⟨f1, v1, c1, e1⟩ := hh.cell g j _ hc hf
  rcases e1 with rfl | ⟨_, y, rfl⟩
  · exact ⟨f1, x, c1⟩
  · exact ⟨f1, y, c1⟩

/-- What k, k+1, .. at the places al make of a world. -/
structure Wr (w w' : World) (al : Pl) (k : Int) : Prop where
  same : w'.os = w.os ∧ w'.tape = w.tape ∧ w'.output = w.output
  hd : Hd w w'
  kept : Kept w w' (fun b => ∃ p ∈ al, p.1 = b)
  other : ∀ g j, (g, j) ∉ al → g < w.heap.size → w'.cell? (pa g j) = w.cell? (pa g j)
  val : al.Nodup → ∀ j (h : j < al.length), w'.cell? (pa al[j].1 al[j].2) = some (.int .i64 (k + j))

theorem Wr.below (hb : Below w.heap.size w w1) (k : Int) : Wr w w1 [] k :=
  ⟨⟨hb.os, hb.tape, hb.output⟩, Hd.below hb, Kept.of_below hb _, fun g j _ hg => (blk_same (hb.block g hg) j).1, fun _ j h => absurd h (Nat.not_lt_zero _)⟩
theorem Wr.nil (w : World) (k : Int) : Wr w w [] k := Wr.below (Below.refl _ _) k
theorem Wr.trans {al bs : Pl} (h : Wr w w1 al k) (h2 : Wr w1 w2 bs (k + al.length)) (ha : ∀ p ∈ al, p.1 < w.heap.size) : Wr w w2 (al ++ bs) k := by
  refine ⟨⟨h2.same.1.trans h.same.1, h2.same.2.1.trans h.same.2.1, h2.same.2.2.trans h.same.2.2⟩, Hd.trans h.hd h2.hd, ?_, ?_, ?_⟩
  · refine Kept.then_ (Kept.mono h.kept (fun b ⟨p, hp, e⟩ => ⟨p, List.mem_append_left _ hp, e⟩)) h2.kept (fun b ⟨p, hp, e⟩ => .inl ⟨p, List.mem_append_right _ hp, e⟩)
  · intro g j hn hg
    rw [h2.other g j (fun hm => hn (List.mem_append_right _ hm)) (Nat.lt_of_lt_of_le hg h.hd.size), h.other g j (fun hm => hn (List.mem_append_left _ hm)) hg]
  · intro hnd j hj
    rw [List.nodup_append] at hnd
    rcases Nat.lt_or_ge j al.length with hl | hl
    · rw [List.getElem_append_left hl]
      have hm : al[j] ∈ al := List.getElem_mem hl
      exact (h2.other al[j].1 al[j].2 (fun hb => hnd.2.2 _ hm _ hb rfl) (Nat.lt_of_lt_of_le (ha _ hm) h.hd.size)).trans (h.val hnd.1 j hl)
    · rw [List.getElem_append_right hl]
      have := h2.val hnd.2.1 (j - al.length) (by rw [List.length_append] at hj; omega)
      rw [this]
      congr 2
      omega
theorem Wr.snoc {al : Pl} (h : Wr w w1 al k) (hb : Below w1.heap.size w1 w2) (ha : ∀ p ∈ al, p.1 < w.heap.size) : Wr w w2 al k := by
  have := Wr.trans h (Wr.below hb _) ha
  rwa [List.append_nil] at this
theorem Wr.store (h : Ic w g j) (k : Int) : Wr w (w.setCell (pa g j) (.int .i64 k)) [(g, j)] k := by
  obtain ⟨hf, x, hc⟩ := h
  refine ⟨⟨rfl, rfl, rfl⟩, ⟨by simp [World.setCell], ?_⟩, ?_, ?_, ?_⟩
  · intro g' j' v hv hfv
    refine ⟨(set_frozen g' j' _).trans hfv, ?_⟩
    by_cases he : g' = g ∧ j' = j
    · obtain ⟨rfl, rfl⟩ := he
      refine ⟨_, set_cell hc _, .inr ⟨?_, k, rfl⟩⟩
      rw [hc] at hv
      exact ⟨x, (Option.some.inj hv).symm⟩
    · exact ⟨v, (set_other _ he).trans hv, .inl rfl⟩
  · exact (Kept.refl w _).setCell (.inl ⟨(g, j), List.mem_singleton.2 rfl, rfl⟩) _
  · intro g' j' hn _
    exact set_other _ (fun he => hn (by rw [List.mem_singleton, he.1, he.2]))
  · intro _ i hi
    have : i = 0 := by simp at hi; omega
    subst this
    simpa using set_cell hc (.int .i64 k)

abbrev El := World → Nat → Nat → Pl → Prop
def St (E : El) : Prop := ∀ (W W' : World) (g o : Nat) (al : Pl), Hd W W' → E W g o al → E W' g o al
def In (E : El) : Prop := ∀ (W : World) (g o : Nat) (al : Pl), E W g o al → ∀ p ∈ al, p.1 < W.heap.size
def eInt : El := fun W g o al => Ic W g o ∧ al = [(g, o)]
def Row (sz : Nat) (E : El) (W : World) (v : Value) (al : Pl) : Prop :=
  ∃ A n c, v = .slice A n c ∧ n ≤ 9223372036854775807 ∧ ∃ ass : List Pl, ass.length = n ∧ al = ass.flatten ∧ (0 < n → ∃ g, A = some (pa g 0) ∧ ∀ j (h : j < ass.length), E W g (j * sz) ass[j])
def eRow (R : World → Value → Pl → Prop) : El := fun W g o al => ∃ v, W.cell? (pa g o) = some v ∧ W.frozen? (pa g o) = false ∧ ¬ isI v ∧ R W v al
def ePair (E1 E2 : El) : El := fun W g o al => ∃ bs cs, E1 W g o bs ∧ E2 W g (o + 1) cs ∧ al = bs ++ cs
def StR (R : World → Value → Pl → Prop) : Prop := ∀ (W W' : World) (v : Value) (al : Pl), Hd W W' → R W v al → R W' v al
def InR (R : World → Value → Pl → Prop) : Prop := ∀ (W : World) (v : Value) (al : Pl), R W v al → ∀ p ∈ al, p.1 < W.heap.size

theorem st_int : St eInt := fun _ _ _ _ _ hh h => ⟨h.1.hd hh, h.2⟩
theorem in_int : In eInt := by
  rintro W g o al ⟨⟨_, x, hc⟩, rfl⟩ p hp
  rw [List.mem_singleton.1 hp]
  exact lt_of_cell hc
theorem st_pair {E1 E2 : El} (h1 : St E1) (h2 : St E2) : St (ePair E1 E2) := by
  rintro W W' g o al hh ⟨bs, cs, a, b, rfl⟩
  exact ⟨bs, cs, h1 _ _ _ _ _ hh a, h2 _ _ _ _ _ hh b, rfl⟩
theorem in_pair {E1 E2 : El} (h1 : In E1) (h2 : In E2) : In (ePair E1 E2) := by
  rintro W g o al ⟨bs, cs, a, b, rfl⟩ p hp
  rcases List.mem_append.1 hp with hp | hp
  · exact h1 _ _ _ _ a p hp
  · exact h2 _ _ _ _ b p hp
theorem st_row {sz : Nat} {E : El} (h : St E) : StR (Row sz E) := by
  rintro W W' v al hh ⟨A, n, c, rfl, hn, ass, hl, rfl, hr⟩
  refine ⟨A, n, c, rfl, hn, ass, hl, rfl, fun h0 => ?_⟩
  obtain ⟨g, e, he⟩ := hr h0
  exact ⟨g, e, fun j hj => h _ _ _ _ _ hh (he j hj)⟩
theorem in_row {sz : Nat} {E : El} (h : In E) : InR (Row sz E) := by
  rintro W v al ⟨A, n, c, rfl, hn, ass, hl, rfl, hr⟩ p hp
  obtain ⟨al, hm, hp⟩ := List.mem_flatten.1 hp
  obtain ⟨j, hj, rfl⟩ := List.getElem_of_mem hm
  obtain ⟨g, _, he⟩ := hr (by omega)
  exact h _ _ _ _ (he j hj) p hp
theorem st_eRow {R : World → Value → Pl → Prop} (h : StR R) : St (eRow R) := by
  rintro W W' g o al hh ⟨v, hc, hf, hi, hr⟩
  obtain ⟨f1, v1, c1, e1⟩ := hh.cell g o v hc hf
  rcases e1 with rfl | ⟨hv, _⟩
  · exact ⟨v1, c1, f1, hi, h _ _ _ _ hh hr⟩
  · exact absurd hv hi
theorem in_eRow {R : World → Value → Pl → Prop} (h : InR R) : In (eRow R) := by
  rintro W g o al ⟨v, hc, hf, hi, hr⟩ p hp
  exact h _ _ _ hr p hp
/-- The row's own letters. -/
theorem Row.open_ {sz : Nat} {E : El} {al : Pl} (h : Row sz E W v al) : ∃ A n c, v = .slice A n c ∧ n ≤ 9223372036854775807 ∧ ∃ ass : List Pl, ass.length = n ∧ al = ass.flatten ∧ (0 < n → ∃ g, A = some (pa g 0) ∧ ∀ j (h : j < ass.length), E W g (j * sz) ass[j]) := h
theorem flat_take {ass : List Pl} {i : Nat} (h : i < ass.length) : (ass.take (i + 1)).flatten = (ass.take i).flatten ++ ass[i] := by
  rw [List.take_succ_eq_append_getElem h, List.flatten_append]
  simp

/-- An element made (its cells at g, o) hal its places, cnt of them, in blocks of ok or in g. -/
def Mk {α : Type} (d : Kd α) (E : El) (cnt : α → Nat) : Prop := ∀ {W : World} {base : Nat} {ok : Nat → Prop} {x : α} {cs : List Value} {g o : Nat},
  d.M W base ok x cs → (∀ i u, cs[i]? = some u → W.cell? (pa g (o + i)) = some u ∧ W.frozen? (pa g (o + i)) = false) → ∃ al, E W g o al ∧ al.length = cnt x ∧ ∀ p ∈ al, p.1 = g ∨ ok p.1
def sumOf {α : Type} (cnt : α → Nat) : List α → Nat
  | [] => 0
  | x :: xs => cnt x + sumOf cnt xs
theorem pick {α : Type} {n : Nat} {P : Nat → α → Prop} (h : ∀ j, j < n → ∃ a, P j a) : ∃ l : List α, l.length = n ∧ ∀ j (hj : j < l.length), P j l[j] := by
  induction n with
  | zero => exact ⟨[], rfl, fun j hj => absurd hj (Nat.not_lt_zero _)⟩
  | succ n ih =>
    obtain ⟨l, hl, hp⟩ := ih (fun j hj => h j (by omega))
    obtain ⟨a, ha⟩ := h n (by omega)
    refine ⟨l ++ [a], by simp [hl], fun j hj => ?_⟩
    rcases Nat.lt_or_ge j l.length with h1 | h1
    · rw [List.getElem_append_left h1]; exact hp j h1
    · have : j = l.length := by rw [List.length_append, List.length_singleton] at hj; omega
      subst this
      simp only [List.getElem_append_right (Nat.le_refl _), Nat.sub_self, List.getElem_cons_zero]
      rw [hl]; exact ha
theorem flat_len {α : Type} {cnt : α → Nat} : ∀ (xs : List α) (ass : List Pl), ass.length = xs.length → (∀ j (h : j < ass.length) (h' : j < xs.length), ass[j].length = cnt xs[j]) → ass.flatten.length = sumOf cnt xs
  | [], ass, hl, _ => by
    have : ass = [] := List.eq_nil_of_length_eq_zero hl
    subst this; rfl
  | x :: xs, [], hl, _ => by simp at hl
  | x :: xs, al :: ass, hl, h => by
    rw [List.flatten_cons, List.length_append, flat_len xs ass (by simpa using hl) (fun j h1 h2 => h (j + 1) (by simpa using h1) (by simpa using h2))]
    have := h 0 (by simp) (by simp)
    simp only [List.getElem_cons_zero] at this
    rw [this, sumOf]
theorem row_of_R {α : Type} {d : Kd α} {E : El} {cnt : α → Nat} (hE : Mk d E cnt) {e base : Nat} {ok : Nat → Prop} {xs : List α} (hm : xs.length ≤ 9223372036854775807) (h : d.R e W base ok v xs) :
    ∃ al, Row d.sz E W v al ∧ al.length = sumOf cnt xs ∧ ∀ p ∈ al, ok p.1 := by
  obtain ⟨hok, inner, ho, hr⟩ := h
  rcases ho.2 with ⟨rfl, h0⟩ | ⟨g, cap, cur, rfl, hgb, hh, hnc, _, hcs, htk⟩
  · have hx : xs = [] := List.eq_nil_of_length_eq_zero h0
    subst hx
    exact ⟨[], ⟨none, 0, 0, rfl, Nat.zero_le _, [], rfl, rfl, fun h => absurd h (Nat.lt_irrefl 0)⟩, rfl, fun p hp => absurd hp List.not_mem_nil⟩
  · have hil : inner.length = xs.length * d.sz := ho.1
    have hcell : ∀ j u, inner[j]? = some u → W.cell? (pa g j) = some u ∧ W.frozen? (pa g j) = false := by
      intro j u hu
      have hlt : j < inner.length := (List.getElem?_eq_some_iff.1 hu).1
      rw [← htk] at hu
      rw [List.getElem?_take] at hu
      split at hu
      · refine ⟨?_, ?_⟩
        · unfold World.cell?; simp only [pa, hh]; simpa using hu
        · unfold World.frozen?; simp [pa, hh]
      · cases hu
    have hel : ∀ j, j < xs.length → ∃ al : Pl, E W g (j * d.sz) al ∧ (∃ h : j < xs.length, al.length = cnt xs[j]) ∧ ∀ p ∈ al, ok p.1 := by
      intro j hj
      have hM := hr.2 j _ (List.getElem?_eq_getElem hj)
      obtain ⟨al, ha, hlen, hp⟩ := hE hM (g := g) (o := j * d.sz) (fun i u hu => by
        rw [List.getElem?_take] at hu
        split at hu
        · rw [List.getElem?_drop] at hu
          exact hcell _ _ hu
        · cases hu)
      refine ⟨al, ha, ⟨hj, hlen⟩, fun p hpp => ?_⟩
      rcases hp p hpp with h1 | h1
      · rw [h1]; exact hok g (by simp [Value.ownBlock])
      · exact h1.1
    obtain ⟨ass, hal, hap⟩ := pick hel
    refine ⟨ass.flatten, ⟨_, _, cap, rfl, hm, ass, hal, rfl, fun _ => ⟨g, rfl, fun j hj => (hap j hj).1⟩⟩, flat_len xs ass hal (fun j h1 h2 => (hap j h1).2.1.2), fun p hp => ?_⟩
    obtain ⟨al, hm, hp⟩ := List.mem_flatten.1 hp
    obtain ⟨j, hj, rfl⟩ := List.getElem_of_mem hm
    exact (hap j hj).2.2 p hp
theorem mk_int : Mk (Kd.int .i64) eInt (fun _ => 1) := by
  intro W base ok x cs g o hM hc
  have hcs : cs = [.int .i64 x] := (Kd.int .i64).K_of_M hM
  subst hcs
  have := hc 0 _ rfl
  exact ⟨[(g, o)], ⟨⟨this.2, x, this.1⟩, rfl⟩, rfl, fun p hp => .inl (by rw [List.mem_singleton.1 hp])⟩
theorem mk_slice {α : Type} {d : Kd α} {E : El} {cnt : α → Nat} (hE : Mk d E cnt) (e : Nat) : Mk (Kd.slice e d) (eRow (Row d.sz E)) (sumOf cnt) := by
  rintro W base ok xs cs g o ⟨v, rfl, hR⟩ hc
  have h2 := Kd.R_reads hR
  obtain ⟨A, c, rfl, hl, hr⟩ := h2
  obtain ⟨al, ha, hlen, hp⟩ := row_of_R hE hr.2.1 hR
  have := hc 0 _ rfl
  exact ⟨al, ⟨_, this.1, this.2, fun ⟨x, hx⟩ => (by cases hx), ha⟩, hlen, fun p hp' => .inr (hp p hp')⟩
end Go.Proofs.Ytjglknoebaojgaa.Lay

namespace Go.Proofs.Ytjglknoebaojgaa.LawM
open Go.RowKit Go.Proofs.YtjglknoebaojgaaW.PrintWords Go.Proofs.Ytjglknoebaojgaa.Lay
set_option linter.unusedVariables false
set_option linter.unusedSimpArgs false
variable {α β : Type} {d : Kd α} {d' : Kd β} {w W W1 : World} {lo hi lo' hi' base e : Nat} {A : Option Addr} {xs : List α} {v : Value} {pls : Pl} {k : Int} {ok : Nat → Prop}

/-- A row that is read, in the blocks from lo to hi. -/
abbrev FI {α : Type} (d : Kd α) (W : World) (lo hi : Nat) (A : Option Addr) (xs : List α) : Prop := Kd.F d W (fun b => lo ≤ b ∧ b < hi) A xs.length xs
theorem FI.below (h : FI d W lo hi A xs) (hb : Below W.heap.size W W1) : FI d W1 lo hi A xs := Kd.F_below h hb
theorem FI.wr (h : FI d W lo hi A xs) (hw : Wr W W1 pls k) (hp : ∀ p ∈ pls, lo' ≤ p.1 ∧ p.1 < hi') (hd : hi ≤ lo' ∨ hi' ≤ lo) : FI d W1 lo hi A xs :=
  Kd.F_kept h hw.kept (fun b hb ⟨p, hp', e⟩ => by have := hp p hp'; omega)
theorem FI.kept (h : FI d W lo hi A xs) (hk : Kept W W1 (fun b => lo' ≤ b ∧ b < hi')) (hd : hi ≤ lo' ∨ hi' ≤ lo) : FI d W1 lo hi A xs :=
  Kd.F_kept h hk (fun b hb hb' => by omega)
theorem FI.now (h : FI d W lo hi A xs) : d.C W A xs.length xs := Kd.F_now h
theorem open_R (h : d.R e W base ok v xs) : ∃ A c, v = .slice A xs.length c ∧ xs.length ≤ c ∧ xs.length ≤ 9223372036854775807 ∧ FI d W base W.heap.size A xs := by
  obtain ⟨A, c, rfl, hl, hc⟩ := Kd.R_reads h
  exact ⟨A, c, rfl, hl, hc.2.1, Kd.F_mono (Kd.R_F (Kd.R_bound h)) (fun k hk => ⟨hk.2.1, hk.2.2.1⟩)⟩
theorem span_R (h : d.R e W base ok v xs) : d.R e W base (fun b => base ≤ b ∧ b < W.heap.size) v xs := Kd.R_mono (Kd.R_bound h) (fun k hk => ⟨hk.2.1, hk.2.2.1⟩)
theorem R_wr (h : d.R e W base (fun b => lo ≤ b ∧ b < hi) v xs) (hw : Wr W W1 pls k) (hp : ∀ p ∈ pls, lo' ≤ p.1 ∧ p.1 < hi') (hd : hi ≤ lo' ∨ hi' ≤ lo) : d.R e W1 base (fun b => lo ≤ b ∧ b < hi) v xs :=
  Kd.R_kept h hw.kept (fun b hb ⟨p, hp', e⟩ => by have := hp p hp'; omega)
theorem below_wr (hb : Below w.heap.size w W) (hw : Wr W W1 pls k) (hp : ∀ p ∈ pls, lo' ≤ p.1 ∧ p.1 < hi') (hl : w.heap.size ≤ lo') : Below w.heap.size w W1 :=
  hb.trans ⟨hw.same.1, hw.same.2.1, hw.same.2.2, hw.hd.size, fun b hb' => hw.kept.2 b (Nat.lt_of_lt_of_le hb' hb.size) (fun ⟨p, hp', e⟩ => by have := hp p hp'; omega)⟩
/-- The same, in the span that is known. -/
theorem places_in {E : El} {cnt : α → Nat} {sz : Nat} (hE : Mk d E cnt) (hs : d.sz = sz) (h : d.R e W base (fun b => lo ≤ b ∧ b < hi) v xs) : ∃ pls, Row sz E W v pls ∧ pls.length = sumOf cnt xs ∧ ∀ p ∈ pls, lo ≤ p.1 ∧ p.1 < hi := by
  subst hs
  exact row_of_R hE (Kd.R_reads h).choose_spec.choose_spec.2.2.2.1 h
theorem row_below {sz : Nat} {E : El} (hE : St E) (h : Row sz E W v pls) (hb : Below W.heap.size W W1) : Row sz E W1 v pls := st_row hE _ _ _ _ (Hd.below hb) h
theorem row_wr {sz : Nat} {E : El} {qs : Pl} (hE : St E) (h : Row sz E W v pls) (hw : Wr W W1 qs k) : Row sz E W1 v pls := st_row hE _ _ _ _ hw.hd h
theorem mk_pair {E1 E2 : El} {c1 : α → Nat} {c2 : β → Nat} (h1 : Mk d E1 c1) (h2 : Mk d' E2 c2) (hs : d.sz = 1) : Mk (Kd.pair d d') (ePair E1 E2) (fun x => c1 x.1 + c2 x.2) := by
  rintro W base ok x cs g o ⟨a, b, rfl, ha, hb⟩ hc
  have hl : a.length = 1 := (d.K_len (d.K_of_M ha)).trans hs
  obtain ⟨p1, q1, l1, m1⟩ := h1 ha (g := g) (o := o) (fun i u hu => hc i u (by
    rw [List.getElem?_append_left (List.getElem?_eq_some_iff.1 hu).1]; exact hu))
  obtain ⟨p2, q2, l2, m2⟩ := h2 hb (g := g) (o := o + 1) (fun i u hu => by
    have := hc (1 + i) u (by rw [List.getElem?_append_right (by omega), hl, Nat.add_sub_cancel_left]; exact hu)
    rwa [← Nat.add_assoc] at this)
  refine ⟨p1 ++ p2, ⟨p1, p2, q1, q2, rfl⟩, by rw [List.length_append, l1, l2], fun p hp => ?_⟩
  rcases List.mem_append.1 hp with hp | hp
  · exact m1 p hp
  · exact m2 p hp
theorem mk_iso {E : El} {cnt : α → Nat} (f : β → α) (h : Mk d E cnt) : Mk (Kd.iso d f) E (fun x => cnt (f x)) := fun hM hc => h hM hc
end Go.Proofs.Ytjglknoebaojgaa.LawM

namespace Go.Proofs.Ytjglknoebaojgaa.Deep
open Go.RowKit Go.Proofs.YtjglknoebaojgaaW.PrintWords Go.Proofs.Ytjglknoebaojgaa.Lay Go.Proofs.Ytjglknoebaojgaa.LawM
set_option linter.unusedVariables false
set_option linter.unusedSimpArgs false
variable {α β : Type} {d : Kd α} {d' : Kd β} {w W W1 : World} {lo hi base e : Nat} {xs : List α} {v : Value} {k : Int} {ok : Nat → Prop}
/-- As Mk, and no place is named twice; the places in the element's own block lie among its cells. -/
def MkN {α : Type} (d : Kd α) (E : El) (cnt : α → Nat) : Prop := ∀ {W : World} {base : Nat} {ok : Nat → Prop} {x : α} {cs : List Value} {g o : Nat},
  d.M W base ok x cs → ¬ ok g → (∀ i u, cs[i]? = some u → W.cell? (pa g (o + i)) = some u ∧ W.frozen? (pa g (o + i)) = false) → ∃ pls : Pl, E W g o pls ∧ pls.length = cnt x ∧ pls.Nodup ∧ ∀ p ∈ pls, (p.1 = g ∧ o ≤ p.2 ∧ p.2 < o + d.sz) ∨ ok p.1
theorem flat_nodup {Q : Nat → Nat × Nat → Prop} : ∀ (ass : List Pl) (i : Nat), (∀ j (h : j < ass.length), ass[j].Nodup ∧ ∀ p ∈ ass[j], Q (i + j) p) → (∀ i j p, Q i p → Q j p → i = j) → ass.flatten.Nodup
  | [], _, _, _ => List.nodup_nil
  | a :: r, i, h, hq => by
    rw [List.flatten_cons, List.nodup_append]
    have h0 := h 0 (by simp)
    refine ⟨h0.1, flat_nodup (Q := Q) r (i + 1) (fun j hj => ?_) hq, ?_⟩
    · have := h (j + 1) (by simpa using hj)
      rw [show i + (j + 1) = i + 1 + j by omega] at this
      exact this
    · intro p hp q hq' he
      subst he
      obtain ⟨b, hb, hpb⟩ := List.mem_flatten.1 hq'
      obtain ⟨j, hj, rfl⟩ := List.getElem_of_mem hb
      have h1 := (h (j + 1) (by simpa using hj)).2 p hpb
      have h2 := h0.2 p hp
      have := hq _ _ _ h2 h1
      omega
theorem mkn_int : MkN (Kd.int .i64) eInt (fun _ => 1) := by
  intro W base ok x cs g o hM hg hc
  have hcs : cs = [.int .i64 x] := (Kd.int .i64).K_of_M hM
  subst hcs
  have := hc 0 _ rfl
  refine ⟨[(g, o)], ⟨⟨this.2, x, this.1⟩, rfl⟩, rfl, by simp, fun p hp => .inl ?_⟩
  rw [List.mem_singleton.1 hp]
  exact ⟨rfl, Nat.le_refl _, Nat.lt_succ_self _⟩
/-- Of a row: f tells the element of each block. -/
theorem row_nodup {E : El} {cnt : α → Nat} (hE : MkN d E cnt) (hsz : 0 < d.sz) (f : Nat → Nat) (hm : xs.length ≤ 9223372036854775807)
    (h : (∀ k, v.ownBlock = some k → ok k) ∧ ∃ inner, W.ownsRow base e d.sz v xs.length inner ∧ inner.length = xs.length * d.sz ∧ ∀ j p, xs[j]? = some p → d.M W base (fun k => (ok k ∧ some k ≠ v.ownBlock) ∧ f k = j) p ((inner.drop (j * d.sz)).take d.sz)) :
    ∃ pls, Row d.sz E W v pls ∧ pls.length = sumOf cnt xs ∧ pls.Nodup ∧ ∀ p ∈ pls, ok p.1 := by
  obtain ⟨hok, inner, ho, hil, hr⟩ := h
  rcases ho.2 with ⟨rfl, h0⟩ | ⟨g, cap, cur, rfl, hgb, hh, hnc, _, hcs, htk⟩
  · have hx : xs = [] := List.eq_nil_of_length_eq_zero h0
    subst hx
    exact ⟨[], ⟨none, 0, 0, rfl, Nat.zero_le _, [], rfl, rfl, fun h => absurd h (Nat.lt_irrefl 0)⟩, rfl, List.nodup_nil, fun p hp => absurd hp List.not_mem_nil⟩
  · have hcell : ∀ j u, inner[j]? = some u → W.cell? (pa g j) = some u ∧ W.frozen? (pa g j) = false := by
      intro j u hu
      rw [← htk] at hu
      rw [List.getElem?_take] at hu
      split at hu
      · refine ⟨?_, ?_⟩
        · unfold World.cell?; simp only [pa, hh]; simpa using hu
        · unfold World.frozen?; simp [pa, hh]
      · cases hu
    have hel : ∀ j, j < xs.length → ∃ pls : Pl, E W g (j * d.sz) pls ∧ (∃ h : j < xs.length, pls.length = cnt xs[j]) ∧ pls.Nodup ∧ ∀ p ∈ pls, (p.1 = g ∧ j * d.sz ≤ p.2 ∧ p.2 < j * d.sz + d.sz) ∨ ((ok p.1 ∧ p.1 ≠ g) ∧ f p.1 = j) := by
      intro j hj
      have hM := hr j _ (List.getElem?_eq_getElem hj)
      obtain ⟨pls, ha, hlen, hnd, hp⟩ := hE hM (g := g) (o := j * d.sz) (fun hk => hk.1.2 (by simp [Value.ownBlock])) (fun i u hu => by
        rw [List.getElem?_take] at hu
        split at hu
        · rw [List.getElem?_drop] at hu
          exact hcell _ _ hu
        · cases hu)
      refine ⟨pls, ha, ⟨hj, hlen⟩, hnd, fun p hpp => ?_⟩
      rcases hp p hpp with h1 | h1
      · exact .inl h1
      · exact .inr ⟨⟨h1.1.1, fun he => h1.1.2 (by simp [Value.ownBlock, he])⟩, h1.2⟩
    obtain ⟨ass, hal, hap⟩ := pick hel
    refine ⟨ass.flatten, ⟨_, _, cap, rfl, hm, ass, hal, rfl, fun _ => ⟨g, rfl, fun j hj => (hap j hj).1⟩⟩, flat_len xs ass hal (fun j h1 h2 => (hap j h1).2.1.2), ?_, fun p hp => ?_⟩
    · refine flat_nodup (Q := fun j p => (p.1 = g ∧ j * d.sz ≤ p.2 ∧ p.2 < j * d.sz + d.sz) ∨ (p.1 ≠ g ∧ f p.1 = j)) ass 0 (fun j hj => ⟨(hap j hj).2.2.1, fun p hp => ?_⟩) ?_
      · rw [Nat.zero_add]
        rcases (hap j hj).2.2.2 p hp with h1 | h1
        · exact .inl h1
        · exact .inr ⟨h1.1.2, h1.2⟩
      · intro i j p hi hj
        rcases hi with ⟨a1, a2, a3⟩ | ⟨a1, a2⟩ <;> rcases hj with ⟨b1, b2, b3⟩ | ⟨b1, b2⟩
        · have e1 : i = p.2 / d.sz := by
            refine (Nat.div_eq_of_lt_le a2 ?_).symm
            rw [Nat.add_mul, Nat.one_mul]; exact a3
          have e2 : j = p.2 / d.sz := by
            refine (Nat.div_eq_of_lt_le b2 ?_).symm
            rw [Nat.add_mul, Nat.one_mul]; exact b3
          rw [e1, e2]
        · exact absurd a1 b1
        · exact absurd b1 a1
        · exact a2.symm.trans b2
    · obtain ⟨b, hm, hp⟩ := List.mem_flatten.1 hp
      obtain ⟨j, hj, rfl⟩ := List.getElem_of_mem hm
      rcases (hap j hj).2.2.2 p hp with h1 | h1
      · rw [h1.1]; exact hok g (by simp [Value.ownBlock])
      · exact h1.1.1
theorem rowS_nodup {E : El} {cnt : α → Nat} (hE : MkN d E cnt) (hsz : 0 < d.sz) (h : Kd.S d e W base ok v xs) : ∃ pls, Row d.sz E W v pls ∧ pls.length = sumOf cnt xs ∧ pls.Nodup ∧ ∀ p ∈ pls, ok p.1 := by
  have hm := (Kd.S_reads h).choose_spec.choose_spec.2.2.2.1
  obtain ⟨f, h0, inner, ho, hr⟩ := h
  rw [List.length_zipIdx] at ho
  refine row_nodup hE hsz f hm ⟨h0, inner, ho, by have := hr.1; rw [List.length_zipIdx] at this; exact this, fun j p hj => hr.2 j (p, j) (Kd.zip_at hj)⟩
/-- A row of numbers: nothing else is behind them. -/
theorem rowI_nodup {l : List Int} (h : (Kd.int .i64).R e W base ok v l) : ∃ pls, Row 1 eInt W v pls ∧ pls.length = sumOf (fun _ => 1) l ∧ pls.Nodup ∧ ∀ p ∈ pls, ok p.1 := by
  have hm := (Kd.R_reads h).choose_spec.choose_spec.2.2.2.1
  obtain ⟨h0, inner, ho, hr⟩ := h
  classical
  exact row_nodup (d := Kd.int .i64) (f := fun _ => 0) mkn_int Nat.one_pos hm ⟨h0, inner, ho, hr.1, fun j p hj => hr.2 j p hj⟩
theorem mkn_sliceI (e : Nat) : MkN (Kd.slice e (Kd.int .i64)) (eRow (Row 1 eInt)) (sumOf fun _ => 1) := by
  rintro W base ok l cs g o ⟨v, rfl, hR⟩ hg hc
  obtain ⟨A, c, rfl, hl, hr⟩ := Kd.R_reads hR
  obtain ⟨pls, ha, hlen, hnd, hp⟩ := rowI_nodup hR
  have := hc 0 _ rfl
  exact ⟨pls, ⟨_, this.1, this.2, fun ⟨x, hx⟩ => (by cases hx), ha⟩, hlen, hnd, fun p hp' => .inr (hp p hp')⟩
theorem mkn_int1 : ∀ {W : World} {base : Nat} {ok : Nat → Prop} {x : Int} {cs : List Value} {g o : Nat}, (Kd.int .i64).M W base ok x cs → (∀ i u, cs[i]? = some u → W.cell? (pa g (o + i)) = some u ∧ W.frozen? (pa g (o + i)) = false) → ∃ pls : Pl, eInt W g o pls ∧ pls.length = 1 ∧ pls.Nodup ∧ ∀ p ∈ pls, p.1 = g ∧ o ≤ p.2 ∧ p.2 < o + (Kd.int .i64).sz := by
  intro W base ok x cs g o hM hc
  have hcs : cs = [.int .i64 x] := (Kd.int .i64).K_of_M hM
  subst hcs
  have := hc 0 _ rfl
  refine ⟨[(g, o)], ⟨⟨this.2, x, this.1⟩, rfl⟩, rfl, by simp, fun p hp => ?_⟩
  rw [List.mem_singleton.1 hp]
  exact ⟨rfl, Nat.le_refl _, Nat.lt_succ_self _⟩
/-- The second of the pair is a number or the like. -/
theorem mkn_pairR {E1 E2 : El} {c1 : α → Nat} {c2 : β → Nat} (h1 : MkN d E1 c1)
    (h2 : ∀ {W : World} {base : Nat} {ok : Nat → Prop} {x : β} {cs : List Value} {g o : Nat}, d'.M W base ok x cs → (∀ i u, cs[i]? = some u → W.cell? (pa g (o + i)) = some u ∧ W.frozen? (pa g (o + i)) = false) → ∃ pls : Pl, E2 W g o pls ∧ pls.length = c2 x ∧ pls.Nodup ∧ ∀ p ∈ pls, p.1 = g ∧ o ≤ p.2 ∧ p.2 < o + d'.sz) (hs : d.sz = 1) : MkN (Kd.pair d d') (ePair E1 E2) (fun x => c1 x.1 + c2 x.2) := by
  rintro W base ok x cs g o ⟨a, b, rfl, ha, hb⟩ hg hc
  have hl : a.length = 1 := (d.K_len (d.K_of_M ha)).trans hs
  obtain ⟨p1, q1, l1, n1, m1⟩ := h1 ha (g := g) (o := o) hg (fun i u hu => hc i u (by
    rw [List.getElem?_append_left (List.getElem?_eq_some_iff.1 hu).1]; exact hu))
  obtain ⟨p2, q2, l2, n2, m2⟩ := h2 hb (g := g) (o := o + 1) (fun i u hu => by
    have := hc (1 + i) u (by rw [List.getElem?_append_right (by omega), hl, Nat.add_sub_cancel_left]; exact hu)
    rwa [← Nat.add_assoc] at this)
  have esz : (Kd.pair d d').sz = d.sz + d'.sz := rfl
  refine ⟨p1 ++ p2, ⟨p1, p2, q1, q2, rfl⟩, by rw [List.length_append, l1, l2], ?_, fun p hp => ?_⟩
  · rw [List.nodup_append]
    refine ⟨n1, n2, fun p hp q hq he => ?_⟩
    subst he
    have b1 := m2 p hq
    rcases m1 p hp with a1 | a1
    · omega
    · rw [b1.1] at a1; exact hg a1
  · rcases List.mem_append.1 hp with hp | hp
    · rcases m1 p hp with a1 | a1
      · exact .inl (by rw [esz]; omega)
      · exact .inr a1
    · have a1 := m2 p hp
      exact .inl (by rw [esz]; omega)
theorem mkn_iso {E : El} {cnt : α → Nat} (f : β → α) (h : MkN d E cnt) : MkN (Kd.iso d f) E (fun x => cnt (f x)) := fun hM hg hc => h hM hg hc
end Go.Proofs.Ytjglknoebaojgaa.Deep

namespace Go.Proofs.Ytjglknoebaojgaa.G
open Go.RowKit Go.Proofs.YtjglknoebaojgaaW.PrintWords Go.Proofs.Ytjglknoebaojgaa.Lay Go.Proofs.Ytjglknoebaojgaa.LawM Go.Proofs.Ytjglknoebaojgaa.Deep
set_option linter.unusedVariables false
def cnC : S91 → Nat := fun x => sumOf (fun _ => 1) x.f0 + 1
theorem kCd_R {w : World} {base : Nat} {ok : Nat → Prop} {v : Value} {xs : List S91} (h : Kd.S k91 91 w base ok v xs) : k91.R 91 w base ok v xs := Kd.S_R h
theorem kCd_places {w : World} {base : Nat} {ok : Nat → Prop} {v : Value} {xs : List S91} (h : Kd.S k91 91 w base ok v xs) :
    ∃ pls, Row 2 (ePair (eRow (Row 1 eInt)) eInt) w v pls ∧ pls.length = sumOf cnC xs ∧ pls.Nodup ∧ ∀ p ∈ pls, ok p.1 :=
  rowS_nodup (d := k91) (mkn_iso (fun x : S91 => (x.f0, x.f1)) (mkn_pairR (mkn_sliceI _) mkn_int1 rfl)) (Nat.succ_pos 1) h
end Go.Proofs.Ytjglknoebaojgaa.G

namespace Go.Proofs.Ytjglknoebaojgaa.LayI
open Go.RowKit Go.Proofs.Ytjglknoebaojgaa.G Go.Proofs.YtjglknoebaojgaaW.PrintWords Go.Proofs.YtjglknoebaojgaaW.PrintLast Go.Proofs.YtjglknoebaojgaaW.PrintMore Go.Proofs.Ytjglknoebaojgaa.Lay
attribute [local go_sem] max2_int min2_int max_two min_two max_three min_three max_four min_four
set_option linter.unusedVariables false
set_option linter.unusedSimpArgs false

theorem flat_le {ass : List Pl} {i : Nat} : ((ass.take i).flatten).length ≤ ass.flatten.length := by
  conv => rhs; rw [← List.take_append_drop i ass, List.flatten_append, List.length_append]
  omega
theorem flat_lt {ass : List Pl} {i : Nat} (h : i < ass.length) : ((ass.take i).flatten).length + ass[i].length ≤ ass.flatten.length := by
  have := flat_le (ass := ass) (i := i + 1)
  rw [flat_take h, List.length_append] at this
  exact this
theorem flat_all (ass : List Pl) {n : Nat} (h : ass.length = n) : ass.take n = ass := List.take_of_length_le (by omega)
theorem flat_mem {ass : List Pl} {i : Nat} {p : Nat × Nat} (h : p ∈ (ass.take i).flatten) : p ∈ ass.flatten := by
  rw [← List.take_append_drop i ass, List.flatten_append]
  exact List.mem_append_left _ h
set_option maxHeartbeats 8000000 in
set_option maxRecDepth 100000 in
theorem markIntS (v : Value) (ps : Pl) (a : Int) (w : World) (h : Row 1 eInt w v ps) (h0 : 0 ≤ a) (h1 : a + ps.length ≤ 4611686018427387000) :
    Calls Try.prog 50 #[v, .int .i64 a] w fun e w' => e = .returned (.int .i64 (a + ps.length)) ∧ Wr w w' ps a := by
  have hin := in_row in_int _ _ _ h
  obtain ⟨A, n, c, rfl, hn, ass, hl, hpf, hr⟩ := h.open_
  have HF := Aside0.mk hpf
  have HN := Aside0.mk hn
  have HL := Aside0.mk hl
  have HR := Aside0.mk hr
  have HI := Aside0.mk hin
  have H1 := Aside0.mk h1
  have H0 := Aside0.mk h0
  clear hn hr hin h1 h0 h hl hpf
  go_enter Try.func50, Try.ntmps50
  go_wp2
  go_loopg [1, 5] (n + 1) (fun kq v1 v5 w' => ∃ (x1 : Int) (x5 : Int), v1 = .int .i64 x1 ∧ v5 = .int .i64 x5 ∧ Aside0 (∃ i : Nat, x5 = (i : Int) ∧ i + kq = n + 1 ∧ x1 = a + ((ass.take i).flatten.length : Int) ∧ Wr w w' (ass.take i).flatten a) ∧ Aside0 (1 ≤ kq))
  case atStart => exact ⟨a, 0, rfl, rfl, ⟨0, rfl, by omega, by simp, by simpa using Wr.nil w a⟩, ⟨by omega⟩⟩
  case round =>
    obtain ⟨x1, x5, rfl, rfl, HX, HQ⟩ := hrel
    cases gk with
    | zero => exact absurd HQ.out (by omega)
    | succ k1 =>
      by_cases c3 : x5 < (n : Int)
      · obtain ⟨i, hi, hik, hx1, hw⟩ := HX.out
        have hil : i < ass.length := by have := HL.out; omega
        obtain ⟨g, rfl, hE⟩ := HR.out (by omega)
        obtain ⟨hic, hps⟩ := st_int _ _ _ _ _ hw.hd (hE i hil)
        have hsz : ((ass.take i).flatten).length + 1 ≤ ass.flatten.length := by
          have := flat_lt hil; rw [hps] at this; simpa using this
        have hb1 := H1.out
        have hpf := HF.out
        rw [hpf] at hb1
        have hb0 := H0.out
        have hn9 := HN.out
        obtain ⟨hf, y, hc⟩ := hic
        rw [Nat.mul_one] at hc hf
        have hx5 : x5.toNat = i := by omega
        have hcell : wr.cell? ⟨g, x5.toNat, none⟩ = some (.int .i64 y) := by rw [hx5]; exact hc
        have hfro : wr.frozen? ⟨g, x5.toNat, none⟩ = false := by rw [hx5]; exact hf
        have W2 : Aside0 (Wr w (wr.setCell ⟨g, x5.toNat, none⟩ (.int .i64 x1)) (ass.take (i + 1)).flatten a) := ⟨by
          rw [flat_take hil, hps, Nat.mul_one]
          refine Wr.trans hw ?_ (fun p hp => HI.out p (by rw [HF.out]; exact flat_mem hp))
          rw [← hx1, hx5]
          exact Wr.store ⟨hf, y, hc⟩ x1⟩
        have hx1' : wrap64 (x1 + 1) = a + (((ass.take (i + 1)).flatten.length : Nat) : Int) := by
          rw [flat_take hil, hps, List.length_append, List.length_singleton]
          unfold wrap64; omega
        have hx5' : wrap64 (x5 + 1) = ((i + 1 : Nat) : Int) := by unfold wrap64; omega
        have HH := Aside0.mk (show (i + 1) + k1 = n + 1 ∧ 1 ≤ k1 by omega)
        have HX1 := Aside0.mk hx1'
        have HX5 := Aside0.mk hx5'
        have c3b0 : decide (x5 < (n : Int)) = true := decide_eq_true c3
        have p5 : (0 ≤ (x5 : Int)) = True := eq_true (by omega)
        have q5 : (x5 < (n : Int)) = True := eq_true c3
        clear hpf HX HQ hx1' hx5' hsz hb1 hb0 hn9 hik hx1 hi hil hx5 hc hf hE c3 hw hps
        go_wp2_with (first | ((with_reducible refine gate_store (t := 3) (p := 15) rfl ?_); refine store_event (t := 3) (p := 15) (v := ?vo_w8) (w1 := (wr.setCell ⟨g, (x5 : Int).toNat, none⟩ (.int .i64 x1))) ?hg ?ho ?hn ?hr ?_; (case ho => rfl); (case hg => rfl); (case hn => rfl); (case hr => first | (go_simp; done) | (go_simp; rfl)); intro w8 hw; rw [← hw] at W2; clear hw))
        go_roundg k1
        case measure => exact Nat.lt_succ_self _
        case rel => exact ⟨_, _, rfl, rfl, ⟨i + 1, HX5.out, HH.out.1, HX1.out, W2.out⟩, ⟨HH.out.2⟩⟩
      · have c3b0 : decide (x5 < (n : Int)) = false := decide_eq_false c3
        go_wp2
        go_ret
        obtain ⟨i, hi, hik, hx1, hw⟩ := HX.out
        have hq := HQ.out
        have hi' : i = n := by omega
        subst hi'
        rw [flat_all ass HL.out, ← HF.out] at hx1 hw
        exact ⟨by rw [hx1]; rfl, hw⟩
end Go.Proofs.Ytjglknoebaojgaa.LayI

namespace Go.Proofs.Ytjglknoebaojgaa.LayI
open Go.RowKit Go.Proofs.Ytjglknoebaojgaa.G Go.Proofs.YtjglknoebaojgaaW.PrintWords Go.Proofs.YtjglknoebaojgaaW.PrintLast Go.Proofs.YtjglknoebaojgaaW.PrintMore Go.Proofs.Ytjglknoebaojgaa.Lay
attribute [local go_sem] max2_int min2_int max_two min_two max_three min_three max_four min_four
set_option linter.unusedVariables false
set_option linter.unusedSimpArgs false
set_option maxHeartbeats 8000000 in
set_option maxRecDepth 100000 in
theorem markCountedS (v : Value) (ps : Pl) (a : Int) (w : World) (h : Row 2 (ePair (eRow (Row 1 eInt)) eInt) w v ps) (h0 : 0 ≤ a) (h1 : a + ps.length ≤ 4611686018427387000) :
    Calls Try.prog 12 #[v, .int .i64 a] w fun e w' => e = .returned (.int .i64 (a + ps.length)) ∧ Wr w w' ps a := by
  have hin := in_row (in_pair (in_eRow (in_row in_int)) in_int) _ _ _ h
  obtain ⟨A, n, c, rfl, hn, ass, hl, hpf, hr⟩ := h.open_
  have HF := Aside0.mk hpf
  have HN := Aside0.mk hn
  have HL := Aside0.mk hl
  have HR := Aside0.mk hr
  have HI := Aside0.mk hin
  have H1 := Aside0.mk h1
  have H0 := Aside0.mk h0
  clear hn hr hin h1 h0 h hl hpf
  have hu91 := Try.underlying91
  go_enter Try.func12, Try.ntmps12
  go_wp2
  go_loopg [1, 5] (n + 1) (fun kq v1 v5 w' => ∃ (x1 : Int) (x5 : Int), v1 = .int .i64 x1 ∧ v5 = .int .i64 x5 ∧ Aside0 (∃ i : Nat, x5 = (i : Int) ∧ i + kq = n + 1 ∧ x1 = a + ((ass.take i).flatten.length : Int) ∧ Wr w w' (ass.take i).flatten a) ∧ Aside0 (1 ≤ kq))
  case atStart => exact ⟨a, 0, rfl, rfl, ⟨0, rfl, by omega, by simp, by simpa using Wr.nil w a⟩, ⟨by omega⟩⟩
  case round =>
    obtain ⟨x1, x5, rfl, rfl, HX, HQ⟩ := hrel
    cases gk with
    | zero => exact absurd HQ.out (by omega)
    | succ k1 =>
      by_cases c3 : x5 < (n : Int)
      · obtain ⟨i, hi, hik, hx1, hw⟩ := HX.out
        have hil : i < ass.length := by have := HL.out; omega
        obtain ⟨g, rfl, hE⟩ := HR.out (by omega)
        have hEi := hE i hil
        have hb1 := H1.out
        have hpf := HF.out
        rw [hpf] at hb1
        have hsz := flat_lt hil
        have hb0 := H0.out
        have hn9 := HN.out
        have hx5 : x5.toNat = i := by omega
        have HH := Aside0.mk (show (i + 1) + k1 = n + 1 ∧ 1 ≤ k1 by omega)
        have HX5 := Aside0.mk (show wrap64 (x5 + 1) = ((i + 1 : Nat) : Int) by unfold wrap64; omega)
        have c3b0 : decide (x5 < (n : Int)) = true := decide_eq_true c3
        have p5 : (0 ≤ (x5 : Int)) = True := eq_true (by omega)
        have q5 : (x5 < (n : Int)) = True := eq_true c3
        obtain ⟨b1, b2, hA, hB, hab⟩ := (st_pair (st_eRow (st_row st_int)) st_int) _ _ _ _ _ hw.hd hEi
        rw [← hx5] at hA hB
        have hlen : ass[i].length = b1.length + b2.length := by rw [hab]; exact List.length_append
        obtain ⟨u0, hc0, hf0, hi0, hrw0⟩ := hA
        obtain ⟨A0, n0, cc0, rfl, hz0⟩ := id hrw0
        clear hz0
        obtain ⟨⟨hf1, y1, hc1⟩, he1⟩ := hB
        have e1 := Aside0.mk he1
        have el1 : b2.length = 1 := by rw [he1]; rfl
        clear he1
        have HC0 := Aside0.mk (show 0 ≤ x1 ∧ x1 + (b1.length : Int) ≤ 4611686018427387000 by omega)
        have ew1 : wrap64 ((x1 + (b1.length : Int)) + 1) = (x1 + (b1.length : Int)) + (b2.length : Int) := by rw [el1]; unfold wrap64; omega
        have hfin : wrap64 ((x1 + (b1.length : Int)) + 1) = a + (((ass.take (i + 1)).flatten.length : Nat) : Int) := by rw [flat_take hil, List.length_append, hlen]; rw [ew1]; omega
        have HFIN := Aside0.mk hfin
        have HWX := Aside0.mk (And.intro hw (And.intro hab hx1))
        have EW1 := Aside0.mk ew1
        clear ew1 el1
        clear hfin hw hab hx1 hlen hEi hb1 hsz hb0 hn9 hx5 hpf HX HQ hik hi c3 hE
        go_wp2_with (first | ((with_reducible refine gate_callee (f := 50) rfl ?_); refine goesL_ (some 18) rfl rfl Try.func50 (by kernel_rfl) rfl #[.slice A0 n0 cc0, .int .i64 x1] rfl (by (try simp only [List.map_toArray, List.map_cons, List.map_nil]); first | done | rfl) ?_; (with_reducible refine (markIntS _ b1 x1 _ hrw0 ?k0 ?k1).mono ?_); (case k0 => exact HC0.out.1); (case k1 => exact HC0.out.2); rintro e w80 ⟨rfl, WW0⟩; refine ⟨_, rfl, ?_⟩; have ⟨hf1', y1', hc1'⟩ := Ic.hd (g := g) (j := x5.toNat * 2 + 1) ⟨hf1, y1, hc1⟩ WW0.hd; clear hf1 hc1; have hf1 := hf1'; have hc1 := hc1'; clear hf1' hc1'))
        obtain ⟨w81, hw_⟩ : ∃ W, W = w80.setCell ⟨g, x5.toNat * 2 + 1, none⟩ (.int .i64 ((x1 + (b1.length : Int)))) := ⟨_, rfl⟩
        rw [← hw_]
        have WW1 : Wr w80 w81 b2 ((x1 + (b1.length : Int))) := (by rw [hw_, e1.out]; exact Wr.store ⟨hf1, _, hc1⟩ _)
        clear hw_
        have W2 : Wr w w81 (ass.take (i + 1)).flatten a := by
          obtain ⟨hw, hab, hx1⟩ := HWX.out
          rw [flat_take hil, hab]
          refine Wr.trans hw ?_ (fun p hp => HI.out p (by rw [HF.out]; exact flat_mem hp))
          rw [← hx1]
          have WA := WW0
          have WB := WW1
          refine Wr.trans WA WB (fun p hp => ?_)
          have hm := HI.out p (by rw [HF.out]; exact List.mem_flatten.2 ⟨_, List.getElem_mem hil, by rw [hab]; exact List.mem_append_left _ hp⟩)
          exact Nat.lt_of_lt_of_le hm hw.hd.size
        go_roundg k1
        case measure => exact Nat.lt_succ_self _
        case rel => exact ⟨_, _, rfl, rfl, ⟨i + 1, HX5.out, HH.out.1, HFIN.out, W2⟩, ⟨HH.out.2⟩⟩
      · have c3b0 : decide (x5 < (n : Int)) = false := decide_eq_false c3
        go_wp2
        go_ret
        obtain ⟨i, hi, hik, hx1, hw⟩ := HX.out
        have hq := HQ.out
        have hi' : i = n := by omega
        subst hi'
        rw [flat_all ass HL.out, ← HF.out] at hx1 hw
        exact ⟨by rw [hx1]; rfl, hw⟩
end Go.Proofs.Ytjglknoebaojgaa.LayI

namespace Go.Proofs.Ytjglknoebaojgaa.LayI
open Go.RowKit Go.Proofs.Ytjglknoebaojgaa.G Go.Proofs.YtjglknoebaojgaaW.PrintWords Go.Proofs.YtjglknoebaojgaaW.PrintLast Go.Proofs.YtjglknoebaojgaaW.PrintMore Go.Proofs.Ytjglknoebaojgaa.Lay Go.Proofs.Ytjglknoebaojgaa.LawM
attribute [local go_sem] max2_int min2_int max_two min_two max_three min_three max_four min_four
set_option linter.unusedVariables false
set_option linter.unusedSimpArgs false
theorem flat_val {P : Nat → Nat × Nat → Prop} {ass : List Pl} {i : Nat} (h : i < ass.length) (hv : ∀ j (hj : j < ass.flatten.length), P j ass.flatten[j]) : ∀ j (hj : j < ass[i].length), P ((ass.take i).flatten.length + j) ass[i][j] := by
  intro j hj
  have e : ass.flatten = (ass.take i).flatten ++ (ass[i] ++ (ass.drop (i + 1)).flatten) := by
    conv => lhs; rw [← List.take_append_drop i ass, List.flatten_append, List.drop_eq_getElem_cons h, List.flatten_cons]
  have hl : (ass.take i).flatten.length + j < ass.flatten.length := by rw [e, List.length_append, List.length_append]; omega
  have := hv _ hl
  have e2 : ass.flatten[(ass.take i).flatten.length + j] = ass[i][j] := by
    have e3 : ∀ (l : Pl) (q : Nat) (h1 : q < l.length) (h2 : l = (ass.take i).flatten ++ (ass[i] ++ (ass.drop (i + 1)).flatten)) (h3 : q = (ass.take i).flatten.length + j), l[q] = ass[i][j] := by
      intro l q h1 h2 h3
      subst h2; subst h3
      rw [List.getElem_append_right (Nat.le_add_right _ _)]
      simp only [Nat.add_sub_cancel_left]
      rw [List.getElem_append_left hj]
    exact e3 _ _ hl e rfl
  rw [e2] at this; exact this
/-- The places hold a, a+1, .. -/
def Vals (w : World) (ps : Pl) (a : Int) : Prop := ∀ j (h : j < ps.length), w.cell? (pa ps[j].1 ps[j].2) = some (.int .i64 (a + (j : Int)))
theorem Vals.move {w w1 : World} {ps : Pl} {a : Int} (h : Vals w ps a) (hb : Below w.heap.size w w1) : Vals w1 ps a := fun j hj => (hb.cell (World.block_lt_of_cell? w _ (h j hj))).trans (h j hj)
theorem Vals.flat {w : World} {ass : List Pl} {a : Int} (hv : Vals w ass.flatten a) {i : Nat} (h : i < ass.length) : Vals w ass[i] (a + ((ass.take i).flatten.length : Int)) := fun j hj => by
  have := flat_val (P := fun j p => w.cell? (pa p.1 p.2) = some (.int .i64 (a + (j : Int)))) h hv j hj
  rw [this]; congr 2; omega
theorem Vals.left {w : World} {b c : Pl} {a : Int} (hv : Vals w (b ++ c) a) : Vals w b a := fun j hj => by
  have := hv j (by rw [List.length_append]; omega)
  rw [List.getElem_append_left hj] at this; exact this
theorem Vals.right {w : World} {b c : Pl} {a : Int} (hv : Vals w (b ++ c) a) : Vals w c (a + (b.length : Int)) := fun j hj => by
  have := hv (b.length + j) (by rw [List.length_append]; omega)
  rw [List.getElem_append_right (Nat.le_add_right _ _)] at this
  simp only [Nat.add_sub_cancel_left] at this
  rw [this]; congr 2; omega
theorem Vals.one {w : World} {g o : Nat} {a : Int} (hv : Vals w [(g, o)] a) : w.cell? (pa g o) = some (.int .i64 a) := by
  have := hv 0 (by simp)
  simpa using this
set_option maxHeartbeats 8000000 in
set_option maxRecDepth 100000 in
theorem heldIntS (v : Value) (ps : Pl) (a : Int) (w : World) (h : Row 1 eInt w v ps) (hv : Vals w ps a) (h0 : 0 ≤ a) (h1 : a + ps.length ≤ 4611686018427387000) :
    Calls Try.prog 51 #[v, .int .i64 a] w fun e w' => e = .returned (.int .i64 (a + ps.length)) ∧ Below w.heap.size w w' := by
  obtain ⟨A, n, c, rfl, hn, ass, hl, hpf, hr⟩ := h.open_
  have HF := Aside0.mk hpf
  have HN := Aside0.mk hn
  have HL := Aside0.mk hl
  have HR := Aside0.mk hr
  have HV := Aside0.mk hv
  have H1 := Aside0.mk h1
  have H0 := Aside0.mk h0
  clear hn hr h1 h0 h hl hpf hv
  go_enter Try.func51, Try.ntmps51
  go_wp2
  go_loopg [1, 5] (n + 1) (fun kq v1 v5 w' => ∃ (x1 : Int) (x5 : Int), v1 = .int .i64 x1 ∧ v5 = .int .i64 x5 ∧ Aside0 (∃ i : Nat, x5 = (i : Int) ∧ i + kq = n + 1 ∧ x1 = a + ((ass.take i).flatten.length : Int)) ∧ Aside0 (1 ≤ kq) ∧ Aside0 (Below w.heap.size w w'))
  case atStart => exact ⟨a, 0, rfl, rfl, ⟨0, rfl, by omega, by simp⟩, ⟨by omega⟩, ⟨by repeat (first | exact Below.refl _ _ | apply below_alloc | apply pw_below_drewN | apply below_drew1)⟩⟩
  case round =>
    obtain ⟨x1, x5, rfl, rfl, HX, HQ, HB⟩ := hrel
    cases gk with
    | zero => exact absurd HQ.out (by omega)
    | succ k1 =>
      by_cases c3 : x5 < (n : Int)
      · obtain ⟨i, hi, hik, hx1⟩ := HX.out
        have hil : i < ass.length := by have := HL.out; omega
        obtain ⟨g, rfl, hE⟩ := HR.out (by omega)
        have hEi := hE i hil
        have hvi := Vals.flat (by have := HV.out; rw [HF.out] at this; exact this) hil
        rw [← hx1] at hvi
        have hb1 := H1.out
        have hpf := HF.out
        rw [hpf] at hb1
        have hsz := flat_lt hil
        have hb0 := H0.out
        have hn9 := HN.out
        have hx5 : x5.toNat = i := by omega
        have HH := Aside0.mk (show (i + 1) + k1 = n + 1 ∧ 1 ≤ k1 by omega)
        have HX5 := Aside0.mk (show wrap64 (x5 + 1) = ((i + 1 : Nat) : Int) by unfold wrap64; omega)
        have c3b0 : decide (x5 < (n : Int)) = true := decide_eq_true c3
        have p5 : (0 ≤ (x5 : Int)) = True := eq_true (by omega)
        have q5 : (x5 < (n : Int)) = True := eq_true c3
        have hd := Hd.below HB.out
        have hA := st_int _ _ _ _ _ hd hEi
        obtain ⟨b1, hab⟩ : ∃ b1, ass[i] = b1 := ⟨_, rfl⟩
        rw [hab] at hA hvi
        rw [← hx5] at hA
        have hvw := Vals.move hvi HB.out
        have hv0 := hvw
        rw [Nat.mul_one] at hA
        have hlen : ass[i].length = b1.length := by rw [hab]
        obtain ⟨⟨hf0, y0, hcy0⟩, he0⟩ := hA
        have el0 : b1.length = 1 := by rw [he0]; rfl
        rw [he0] at hv0
        have hc0 : wr.cell? ⟨g, x5.toNat, none⟩ = some (.int .i64 (x1)) := Vals.one hv0
        clear hcy0 hf0 hv0
        have ew0 : wrap64 (x1 + 1) = x1 + (b1.length : Int) := by rw [el0]; unfold wrap64; omega
        have hne0 : ((x1) != (x1)) = false := by simp
        have hfin : wrap64 (x1 + 1) = a + (((ass.take (i + 1)).flatten.length : Nat) : Int) := by rw [flat_take hil, List.length_append, hlen]; rw [ew0]; omega
        have HFIN := Aside0.mk hfin
        clear ew0
        clear el0 he0
        clear hfin hab hx1 hlen hEi hb1 hsz hb0 hn9 hx5 hpf HX HQ hik hi c3 hE hvi hvw hd
        go_wp2
        go_roundg k1
        case measure => exact Nat.lt_succ_self _
        case rel => exact ⟨_, _, rfl, rfl, ⟨i + 1, HX5.out, HH.out.1, HFIN.out⟩, ⟨HH.out.2⟩, ⟨(by repeat (first | (with_reducible first | exact HB.out | apply below_alloc | apply pw_below_drewN | apply below_drew1) | exact HB.out))⟩⟩
      · have c3b0 : decide (x5 < (n : Int)) = false := decide_eq_false c3
        go_wp2
        go_ret
        obtain ⟨i, hi, hik, hx1⟩ := HX.out
        have hq := HQ.out
        have hi' : i = n := by omega
        subst hi'
        rw [flat_all ass HL.out, ← HF.out] at hx1
        exact ⟨by rw [hx1]; rfl, (by repeat (first | (with_reducible first | exact HB.out | apply below_alloc | apply pw_below_drewN | apply below_drew1) | exact HB.out))⟩
end Go.Proofs.Ytjglknoebaojgaa.LayI

namespace Go.Proofs.Ytjglknoebaojgaa.LayI
open Go.RowKit Go.Proofs.Ytjglknoebaojgaa.G Go.Proofs.YtjglknoebaojgaaW.PrintWords Go.Proofs.YtjglknoebaojgaaW.PrintLast Go.Proofs.YtjglknoebaojgaaW.PrintMore Go.Proofs.Ytjglknoebaojgaa.Lay Go.Proofs.Ytjglknoebaojgaa.LawM
attribute [local go_sem] max2_int min2_int max_two min_two max_three min_three max_four min_four
set_option linter.unusedVariables false
set_option linter.unusedSimpArgs false
set_option maxHeartbeats 8000000 in
set_option maxRecDepth 100000 in
theorem heldCountedS (v : Value) (ps : Pl) (a : Int) (w : World) (h : Row 2 (ePair (eRow (Row 1 eInt)) eInt) w v ps) (hv : Vals w ps a) (h0 : 0 ≤ a) (h1 : a + ps.length ≤ 4611686018427387000) :
    Calls Try.prog 13 #[v, .int .i64 a] w fun e w' => e = .returned (.int .i64 (a + ps.length)) ∧ Below w.heap.size w w' := by
  obtain ⟨A, n, c, rfl, hn, ass, hl, hpf, hr⟩ := h.open_
  have HF := Aside0.mk hpf
  have HN := Aside0.mk hn
  have HL := Aside0.mk hl
  have HR := Aside0.mk hr
  have HV := Aside0.mk hv
  have H1 := Aside0.mk h1
  have H0 := Aside0.mk h0
  clear hn hr h1 h0 h hl hpf hv
  have hu91 := Try.underlying91
  go_enter Try.func13, Try.ntmps13
  go_wp2
  go_loopg [1, 5] (n + 1) (fun kq v1 v5 w' => ∃ (x1 : Int) (x5 : Int), v1 = .int .i64 x1 ∧ v5 = .int .i64 x5 ∧ Aside0 (∃ i : Nat, x5 = (i : Int) ∧ i + kq = n + 1 ∧ x1 = a + ((ass.take i).flatten.length : Int)) ∧ Aside0 (1 ≤ kq) ∧ Aside0 (Below w.heap.size w w'))
  case atStart => exact ⟨a, 0, rfl, rfl, ⟨0, rfl, by omega, by simp⟩, ⟨by omega⟩, ⟨by repeat (first | exact Below.refl _ _ | apply below_alloc | apply pw_below_drewN | apply below_drew1)⟩⟩
  case round =>
    obtain ⟨x1, x5, rfl, rfl, HX, HQ, HB⟩ := hrel
    cases gk with
    | zero => exact absurd HQ.out (by omega)
    | succ k1 =>
      by_cases c3 : x5 < (n : Int)
      · obtain ⟨i, hi, hik, hx1⟩ := HX.out
        have hil : i < ass.length := by have := HL.out; omega
        obtain ⟨g, rfl, hE⟩ := HR.out (by omega)
        have hEi := hE i hil
        have hvi := Vals.flat (by have := HV.out; rw [HF.out] at this; exact this) hil
        rw [← hx1] at hvi
        have hb1 := H1.out
        have hpf := HF.out
        rw [hpf] at hb1
        have hsz := flat_lt hil
        have hb0 := H0.out
        have hn9 := HN.out
        have hx5 : x5.toNat = i := by omega
        have HH := Aside0.mk (show (i + 1) + k1 = n + 1 ∧ 1 ≤ k1 by omega)
        have HX5 := Aside0.mk (show wrap64 (x5 + 1) = ((i + 1 : Nat) : Int) by unfold wrap64; omega)
        have c3b0 : decide (x5 < (n : Int)) = true := decide_eq_true c3
        have p5 : (0 ≤ (x5 : Int)) = True := eq_true (by omega)
        have q5 : (x5 < (n : Int)) = True := eq_true c3
        have hd := Hd.below HB.out
        obtain ⟨b1, b2, hA, hB, hab⟩ := (st_pair (st_eRow (st_row st_int)) st_int) _ _ _ _ _ hd hEi
        rw [hab] at hvi
        rw [← hx5] at hA hB
        have hvw := Vals.move hvi HB.out
        have hv0 := Vals.left hvw
        have hv1 := Vals.right hvw
        have hlen : ass[i].length = b1.length + b2.length := by rw [hab]; exact List.length_append
        obtain ⟨u0, hc0, hf0, hi0, hrw0⟩ := hA
        obtain ⟨A0, n0, cc0, rfl, hz0⟩ := id hrw0
        clear hz0 hf0 hi0
        have HC0 := Aside0.mk (show 0 ≤ x1 ∧ x1 + (b1.length : Int) ≤ 4611686018427387000 by omega)
        have hlt0 : decide (x1 + (b1.length : Int) < 0) = false := decide_eq_false (by omega)
        have HVJ0 := Aside0.mk (show Vals wr b1 (x1) from by exact hv0)
        have HRW0 := Aside0.mk hrw0
        clear hrw0 hv0
        obtain ⟨⟨hf1, y1, hcy1⟩, he1⟩ := hB
        have el1 : b2.length = 1 := by rw [he1]; rfl
        rw [he1] at hv1
        have hc1 : wr.cell? ⟨g, x5.toNat * 2 + 1, none⟩ = some (.int .i64 (x1 + (b1.length : Int))) := Vals.one hv1
        clear hcy1 hf1 hv1
        have ew1 : wrap64 ((x1 + (b1.length : Int)) + 1) = (x1 + (b1.length : Int)) + (b2.length : Int) := by rw [el1]; unfold wrap64; omega
        have hne1 : (((x1 + (b1.length : Int))) != ((x1 + (b1.length : Int)))) = false := by simp
        have hfin : wrap64 ((x1 + (b1.length : Int)) + 1) = a + (((ass.take (i + 1)).flatten.length : Nat) : Int) := by rw [flat_take hil, List.length_append, hlen]; rw [ew1]; omega
        have HFIN := Aside0.mk hfin
        clear ew1
        clear el1 he1
        clear hfin hab hx1 hlen hEi hb1 hsz hb0 hn9 hx5 hpf HX HQ hik hi c3 hE hvi hvw hd
        go_wp2_with (first | ((with_reducible refine gate_callee (f := 51) rfl ?_); refine goesL_ (some 18) rfl rfl Try.func51 (by kernel_rfl) rfl #[.slice A0 n0 cc0, .int .i64 x1] rfl (by (try simp only [List.map_toArray, List.map_cons, List.map_nil]); first | done | rfl) ?_; (with_reducible refine (heldIntS _ b1 x1 _ ?hr ?hv ?k0 ?k1).mono ?_); (case hr => first | (with_reducible exact HRW0.out) | exact HRW0.out | exact row_below st_int HRW0.out (pw_below_drewN (Below.refl _ _) _)); (case hv => first | (with_reducible exact HVJ0.out) | exact HVJ0.out | exact Vals.move HVJ0.out (pw_below_drewN (Below.refl _ _) _)); (case k0 => exact HC0.out.1); (case k1 => exact HC0.out.2); rintro e w81 ⟨rfl, hb⟩; refine ⟨_, rfl, ?_⟩; have hd1_ := (hb.cell (World.block_lt_of_cell? _ _ hc1)).trans hc1; clear hc1; have hc1 := hd1_; clear hd1_; have HB_ := Aside0.mk (below_then (by repeat (first | (with_reducible first | exact HB.out | apply below_alloc | apply pw_below_drewN | apply below_drew1) | exact HB.out)) (below_size (by repeat (first | (with_reducible first | exact HB.out | apply below_alloc | apply pw_below_drewN | apply below_drew1) | exact HB.out))) hb); clear HB hb; have HB := HB_; clear HB_))
        go_roundg k1
        case measure => exact Nat.lt_succ_self _
        case rel => exact ⟨_, _, rfl, rfl, ⟨i + 1, HX5.out, HH.out.1, HFIN.out⟩, ⟨HH.out.2⟩, ⟨(by repeat (first | (with_reducible first | exact HB.out | apply below_alloc | apply pw_below_drewN | apply below_drew1) | exact HB.out))⟩⟩
      · have c3b0 : decide (x5 < (n : Int)) = false := decide_eq_false c3
        go_wp2
        go_ret
        obtain ⟨i, hi, hik, hx1⟩ := HX.out
        have hq := HQ.out
        have hi' : i = n := by omega
        subst hi'
        rw [flat_all ass HL.out, ← HF.out] at hx1
        exact ⟨by rw [hx1]; rfl, (by repeat (first | (with_reducible first | exact HB.out | apply below_alloc | apply pw_below_drewN | apply below_drew1) | exact HB.out))⟩
end Go.Proofs.Ytjglknoebaojgaa.LayI

namespace Go.Proofs.Ytjglknoebaojgaa.G
open Go.RowKit Go.Proofs.YtjglknoebaojgaaW.PrintWords Go.Proofs.YtjglknoebaojgaaW.PrintLast Go.Proofs.YtjglknoebaojgaaW.PrintMore
attribute [local go_sem] max2_int min2_int max_two min_two max_three min_three max_four min_four   -- for this text's walks alone
set_option linter.unusedVariables false
set_option linter.unusedSimpArgs false

def slices_Equal_int_int.l0 : Nat → List Int → List Int → Int → Int → Option (Bool)
  | 0, _, _, _, _ => none
  | k + 1, x0, x1, x12, x13 => if x13 < x12 then (if 0 ≤ x13 then (if x13 < (x0.length : Int) then (if x13 < (x1.length : Int) then (if (rd x0 x13) = (rd x1 x13) then (slices_Equal_int_int.l0 k x0 x1 x12 (wrap64 (x13 + 1))) else (some false)) else (none)) else (none)) else (none)) else (some true)
def slices_Equal_int_int.f (k : Nat) (l0 : List Int) (l1 : List Int) : Option (Bool) := if (l0.length : Int) = (l1.length : Int) then (slices_Equal_int_int.l0 k l0 l1 (l0.length : Int) 0) else (some false)
set_option maxHeartbeats 8000000 in
set_option maxRecDepth 100000 in
theorem slices_Equal_int_int.calls (k : Nat) (A0 : Option Addr) (c0 : Nat) (l0 : List Int) (A1 : Option Addr) (c1 : Nat) (l1 : List Int) (r : Bool) (w : World) (hr0 : Kd.C (Kd.int .i64) w A0 l0.length l0) (hc0 : l0.length ≤ c0) (hr1 : Kd.C (Kd.int .i64) w A1 l1.length l1) (hc1 : l1.length ≤ c1) (h : slices_Equal_int_int.f k l0 l1 = some r) :
    Calls Try.prog 88 #[.slice A0 l0.length c0, .slice A1 l1.length c1] w fun e w' => e = .returned (.bool r) ∧ Drawn0 w w' := by
  have HR0 := Aside0.mk hr0
  have HC0 := Aside0.mk hc0
  clear hr0 hc0
  have HR1 := Aside0.mk hr1
  have HC1 := Aside0.mk hc1
  clear hr1 hc1
  have H : (if (l0.length : Int) = (l1.length : Int) then (slices_Equal_int_int.l0 k l0 l1 (l0.length : Int) 0) else (some false)) = some r := h
  clear h
  by_cases c3 : (l0.length : Int) = (l1.length : Int)
  · rw [if_pos c3] at H
    have c3b0 : ((l0.length : Int) == (l1.length : Int)) = true := beq_iff_eq.mpr c3
    have c3b1 : ((l0.length : Int) != (l1.length : Int)) = false := bne_eq_false_iff_eq.mpr c3
    have c3b2 : (l0.length == l1.length) = true := by first | simpa using c3 | (simp at c3 ⊢; omega)
    clear c3
    have H' := Aside0.mk H
    clear H
    go_enter Try.func88, Try.ntmps88
    go_wp2
    repeat (go_quiet (fail); try go_wp2)
    go_loopg [13] k (fun kq v13 w' => ∃ (x13_1 : Int), v13 = .int .i64 x13_1 ∧ Aside0 (slices_Equal_int_int.l0 kq l0 l1 (l0.length : Int) x13_1 = some r) ∧ Aside0 (kq ≤ k) ∧ Drawn0 w w')
    case atStart => exact ⟨(0), (by first | rfl | (simp; done) | (simp [*]; done)), H', ⟨Nat.le_refl _⟩, by repeat (first | exact Drawn0.refl _ | apply Drawn0.step)⟩
    case round =>
      clear H'
      try clear c1
      try clear p2
      try clear c3
      try clear c3b0
      try clear c3b1
      try clear c3b2
      obtain ⟨x13_1, rfl, HA, HK1, ⟨m1, rfl⟩⟩ := hrel
      cases gk with
      | zero => exact absurd HA.out (by simp [slices_Equal_int_int.l0])
      | succ k1 =>
        have H := HA.out
        clear HA
        simp only [slices_Equal_int_int.l0] at H
        by_cases c4 : x13_1 < (l0.length : Int)
        · rw [if_pos c4] at H
          have c4b0 : decide (x13_1 < (l0.length : Int)) = true := decide_eq_true c4
          clear c4
          by_cases c5 : 0 ≤ x13_1
          · rw [if_pos c5] at H
            have c5b0 : decide (0 ≤ x13_1) = true := decide_eq_true c5
            clear c5
            by_cases c6 : x13_1 < (l0.length : Int)
            · rw [if_pos c6] at H
              have c6b0 : decide (x13_1 < (l0.length : Int)) = true := decide_eq_true c6
              clear c6
              by_cases c7 : x13_1 < (l1.length : Int)
              · rw [if_pos c7] at H
                have c7b0 : decide (x13_1 < (l1.length : Int)) = true := decide_eq_true c7
                clear c7
                by_cases c8 : (rd l0 x13_1) = (rd l1 x13_1)
                · rw [if_pos c8] at H
                  have c8b0 : ((rd l0 x13_1) == (rd l1 x13_1)) = true := beq_iff_eq.mpr c8
                  have c8b1 : ((rd l0 x13_1) != (rd l1 x13_1)) = false := bne_eq_false_iff_eq.mpr c8
                  clear c8
                  have H' := Aside0.mk H
                  clear H
                  have p101 : 0 ≤ (x13_1 : Int) := of_decide_eq_true (by first | (with_reducible assumption) | assumption)
                  have q101 : x13_1 < (l0.length : Int) := of_decide_eq_true (by first | (with_reducible assumption) | assumption)
                  obtain ⟨ad101, e101, hx101_0⟩ := Kd.at_int HR0.out x13_1 p101 q101
                  cases e101
                  replace p101 := eq_true p101
                  replace q101 := eq_true q101
                  have p102 : 0 ≤ (x13_1 : Int) := of_decide_eq_true (by first | (with_reducible assumption) | assumption)
                  have q102 : x13_1 < (l1.length : Int) := of_decide_eq_true (by first | (with_reducible assumption) | assumption)
                  obtain ⟨ad102, e102, hx102_0⟩ := Kd.at_int HR1.out x13_1 p102 q102
                  cases e102
                  replace p102 := eq_true p102
                  replace q102 := eq_true q102
                  go_wp2
                  repeat (go_quiet (fail); try go_wp2)
                  go_roundg k1
                  case measure => have := HK1.out; omega
                  case rel => exact ⟨(wrap64 (x13_1 + 1)), (by first | rfl | (simp; done) | (simp [*]; done)), H', ⟨by have := HK1.out; omega⟩, by repeat (first | exact Drawn0.refl _ | apply Drawn0.step)⟩
                · rw [if_neg c8] at H
                  have c8b0 : ((rd l0 x13_1) == (rd l1 x13_1)) = false := beq_eq_false_iff_ne.mpr c8
                  have c8b1 : ((rd l0 x13_1) != (rd l1 x13_1)) = true := bne_iff_ne.mpr c8
                  obtain rfl := Option.some.inj H
                  have p101 : 0 ≤ (x13_1 : Int) := of_decide_eq_true (by first | (with_reducible assumption) | assumption)
                  have q101 : x13_1 < (l0.length : Int) := of_decide_eq_true (by first | (with_reducible assumption) | assumption)
                  obtain ⟨ad101, e101, hx101_0⟩ := Kd.at_int HR0.out x13_1 p101 q101
                  cases e101
                  replace p101 := eq_true p101
                  replace q101 := eq_true q101
                  have p102 : 0 ≤ (x13_1 : Int) := of_decide_eq_true (by first | (with_reducible assumption) | assumption)
                  have q102 : x13_1 < (l1.length : Int) := of_decide_eq_true (by first | (with_reducible assumption) | assumption)
                  obtain ⟨ad102, e102, hx102_0⟩ := Kd.at_int HR1.out x13_1 p102 q102
                  cases e102
                  replace p102 := eq_true p102
                  replace q102 := eq_true q102
                  go_wp2
                  repeat (go_quiet (fail); try go_wp2)
                  go_ret
                  exact ⟨by first | rfl | (simp; done) | (simp [*]; done), by repeat (first | exact Drawn0.refl _ | apply Drawn0.step)⟩
              · rw [if_neg c7] at H
                exact absurd H (by simp)
            · rw [if_neg c6] at H
              exact absurd H (by simp)
          · rw [if_neg c5] at H
            exact absurd H (by simp)
        · rw [if_neg c4] at H
          have c4b0 : decide (x13_1 < (l0.length : Int)) = false := decide_eq_false c4
          clear c4
          obtain rfl := Option.some.inj H
          go_wp2
          repeat (go_quiet (fail); try go_wp2)
          go_ret
          exact ⟨by first | rfl | (simp; done) | (simp [*]; done), by repeat (first | exact Drawn0.refl _ | apply Drawn0.step)⟩
  · rw [if_neg c3] at H
    have c3b0 : ((l0.length : Int) == (l1.length : Int)) = false := beq_eq_false_iff_ne.mpr c3
    have c3b1 : ((l0.length : Int) != (l1.length : Int)) = true := bne_iff_ne.mpr c3
    have c3b2 : (l0.length == l1.length) = false := by first | simpa using c3 | (simp at c3 ⊢; omega)
    obtain rfl := Option.some.inj H
    go_enter Try.func88, Try.ntmps88
    go_wp2
    repeat (go_quiet (fail); try go_wp2)
    go_ret
    exact ⟨by first | rfl | (simp; done) | (simp [*]; done), by repeat (first | exact Drawn0.refl _ | apply Drawn0.step)⟩

def laws_szIntS.f (l0 : List Int) (a1 : Int) : Option (Int) := if (wrap64 (a1 - (l0.length : Int))) < 0 then (some (-1)) else (some (wrap64 (a1 - (l0.length : Int))))
set_option maxHeartbeats 8000000 in
set_option maxRecDepth 100000 in
theorem laws_szIntS.calls (A0 : Option Addr) (c0 : Nat) (l0 : List Int) (a1 : Int) (r : Int) (w : World) (hr0 : Kd.C (Kd.int .i64) w A0 l0.length l0) (hc0 : l0.length ≤ c0) (h : laws_szIntS.f l0 a1 = some r) :
    Calls Try.prog 56 #[.slice A0 l0.length c0, .int .i64 a1] w fun e w' => e = .returned (.int .i64 r) ∧ Drawn0 w w' := by
  have HR0 := Aside0.mk hr0
  have HC0 := Aside0.mk hc0
  clear hr0 hc0
  have H : (if (wrap64 (a1 - (l0.length : Int))) < 0 then (some (-1)) else (some (wrap64 (a1 - (l0.length : Int))))) = some r := h
  clear h
  by_cases c3 : (wrap64 (a1 - (l0.length : Int))) < 0
  · rw [if_pos c3] at H
    have c3b0 : decide ((wrap64 (a1 - (l0.length : Int))) < 0) = true := decide_eq_true c3
    clear c3
    obtain rfl := Option.some.inj H
    go_enter Try.func56, Try.ntmps56
    go_wp2
    go_ret
    exact ⟨by first | rfl | (simp; done) | (simp [*]; done), by repeat (first | exact Drawn0.refl _ | apply Drawn0.step)⟩
  · rw [if_neg c3] at H
    have c3b0 : decide ((wrap64 (a1 - (l0.length : Int))) < 0) = false := decide_eq_false c3
    clear c3
    obtain rfl := Option.some.inj H
    go_enter Try.func56, Try.ntmps56
    go_wp2
    go_ret
    exact ⟨by first | rfl | (simp; done) | (simp [*]; done), by repeat (first | exact Drawn0.refl _ | apply Drawn0.step)⟩

def laws_szCounted.f (l0_0 : List Int) (a0_1 : Int) (a1 : Int) : Option (Int) := (laws_szIntS.f l0_0 a1).bind fun t104 => (if t104 < 0 then (some (-1)) else (some t104))
set_option maxHeartbeats 8000000 in
set_option maxRecDepth 100000 in
theorem laws_szCounted.calls (A0_0 : Option Addr) (c0_0 : Nat) (l0_0 : List Int) (a0_1 : Int) (a1 : Int) (r : Int) (w : World) (hr0_0 : Kd.C (Kd.int .i64) w A0_0 l0_0.length l0_0) (hc0_0 : l0_0.length ≤ c0_0) (h : laws_szCounted.f l0_0 a0_1 a1 = some r) :
    Calls Try.prog 42 #[.agg #[.slice A0_0 l0_0.length c0_0, .int .i64 a0_1], .int .i64 a1] w fun e w' => e = .returned (.int .i64 r) ∧ Below w.heap.size w w' := by
  have hu89 := Try.underlying89
  have HR0_0 := Aside0.mk hr0_0
  have HC0_0 := Aside0.mk hc0_0
  clear hr0_0 hc0_0
  have HB := Aside0.mk (Below.refl w.heap.size w)
  have H : ((laws_szIntS.f l0_0 a1).bind fun t104 => (if t104 < 0 then (some (-1)) else (some t104))) = some r := h
  clear h
  replace H := Option.bind_eq_some_iff.mp H
  obtain ⟨t104, A30, H⟩ := H
  replace H : (if t104 < 0 then (some (-1)) else (some t104)) = some r := H
  have A3 := Aside0.mk A30
  clear A30
  by_cases c4 : t104 < 0
  · rw [if_pos c4] at H
    have c4b0 : decide (t104 < 0) = true := decide_eq_true c4
    clear c4
    obtain rfl := Option.some.inj H
    go_enter Try.func42, Try.ntmps42
    go_wp2_with (first | ((with_reducible refine gate_dst (N := 2) rfl ?_); refine box_event ?hg (N := 2) ?hd (cs := #[.slice A0_0 l0_0.length c0_0, .int .i64 a0_1]) (t := 89) ?hr ?_; (case hd => rfl); (case hg => rfl); (case hr => first | (go_simp; done) | (go_simp; rfl)); intro gb103 hg w5 hbox hb; have n0_ := Aside0.mk (below_step (by repeat (first | (with_reducible first | exact HB.out | apply below_alloc | apply pw_below_drewN | apply below_drew1) | exact HB.out)) hb); have n1_ := Aside0.mk (hbox); have n2_ := Aside0.mk ((by rw [hg]; exact (below_size (by repeat (first | (with_reducible first | exact HB.out | apply below_alloc | apply pw_below_drewN | apply below_drew1) | exact HB.out))) : w.heap.size ≤ gb103)); have n3_ := Aside0.mk ((by rw [hg]; exact (below_size (by repeat (first | (with_reducible first | exact HB.out | apply below_alloc | apply pw_below_drewN | apply below_drew1) | exact HB.out))) : w.heap.size ≤ gb103)); clear HB; have HB := n0_; have BK103 := n1_; have GW103 := n2_; have GE103 := n3_; clear n0_ n1_ n2_ n3_; clear hb hbox hg; have hcz6_0 : w5.cell? ⟨gb103, 0, none⟩ = some (.slice A0_0 l0_0.length c0_0) := (blk_cell BK103.out 0).trans rfl; have hcz6_1 : w5.cell? ⟨gb103, 1, none⟩ = some (.int .i64 a0_1) := (blk_cell BK103.out 1).trans rfl; have hfz6_0 := blk_frozen BK103.out 0; have hfz6_1 := blk_frozen BK103.out 1) | ((with_reducible refine gate_callee (f := 56) rfl ?_); refine goesL_ (some 8) rfl rfl Try.func56 (by kernel_rfl) rfl #[.slice A0_0 l0_0.length c0_0, .int .i64 a1] rfl (by (try simp only [List.map_toArray, List.map_cons, List.map_nil]); first | done | rfl | (simp only [List.length_drop, List.length_take]; rfl)) ?_; (with_reducible refine (laws_szIntS.calls _ _ l0_0 a1 t104 _ ?side1 ?side2 A3.out).mono ?_); (case side1 => repeat (first | exact (Kd.C_below HR0_0.out HB.out) | (with_reducible refine Kd.C_alloc ?_ _) | (with_reducible refine Kd.C_drewN ?_ _) | (with_reducible refine Kd.C_drew ?_))); (case side2 => exact HC0_0.out); rintro e w' ⟨rfl, ⟨nd, rfl⟩⟩; refine ⟨_, rfl, ?_⟩))
    go_ret
    exact ⟨by first | rfl | (simp [errW_none, errW_some] <;> rfl) | (simp [*, errW_none, errW_some] <;> rfl), by repeat (first | (with_reducible first | exact HB.out | apply below_alloc | apply pw_below_drewN | apply below_drew1 | refine below_set ?_ GE103.out) | exact HB.out)⟩
  · rw [if_neg c4] at H
    have c4b0 : decide (t104 < 0) = false := decide_eq_false c4
    clear c4
    obtain rfl := Option.some.inj H
    go_enter Try.func42, Try.ntmps42
    go_wp2_with (first | ((with_reducible refine gate_dst (N := 2) rfl ?_); refine box_event ?hg (N := 2) ?hd (cs := #[.slice A0_0 l0_0.length c0_0, .int .i64 a0_1]) (t := 89) ?hr ?_; (case hd => rfl); (case hg => rfl); (case hr => first | (go_simp; done) | (go_simp; rfl)); intro gb103 hg w7 hbox hb; have n0_ := Aside0.mk (below_step (by repeat (first | (with_reducible first | exact HB.out | apply below_alloc | apply pw_below_drewN | apply below_drew1) | exact HB.out)) hb); have n1_ := Aside0.mk (hbox); have n2_ := Aside0.mk ((by rw [hg]; exact (below_size (by repeat (first | (with_reducible first | exact HB.out | apply below_alloc | apply pw_below_drewN | apply below_drew1) | exact HB.out))) : w.heap.size ≤ gb103)); have n3_ := Aside0.mk ((by rw [hg]; exact (below_size (by repeat (first | (with_reducible first | exact HB.out | apply below_alloc | apply pw_below_drewN | apply below_drew1) | exact HB.out))) : w.heap.size ≤ gb103)); clear HB; have HB := n0_; have BK103 := n1_; have GW103 := n2_; have GE103 := n3_; clear n0_ n1_ n2_ n3_; clear hb hbox hg; have hcz8_0 : w7.cell? ⟨gb103, 0, none⟩ = some (.slice A0_0 l0_0.length c0_0) := (blk_cell BK103.out 0).trans rfl; have hcz8_1 : w7.cell? ⟨gb103, 1, none⟩ = some (.int .i64 a0_1) := (blk_cell BK103.out 1).trans rfl; have hfz8_0 := blk_frozen BK103.out 0; have hfz8_1 := blk_frozen BK103.out 1) | ((with_reducible refine gate_callee (f := 56) rfl ?_); refine goesL_ (some 8) rfl rfl Try.func56 (by kernel_rfl) rfl #[.slice A0_0 l0_0.length c0_0, .int .i64 a1] rfl (by (try simp only [List.map_toArray, List.map_cons, List.map_nil]); first | done | rfl | (simp only [List.length_drop, List.length_take]; rfl)) ?_; (with_reducible refine (laws_szIntS.calls _ _ l0_0 a1 t104 _ ?side1 ?side2 A3.out).mono ?_); (case side1 => repeat (first | exact (Kd.C_below HR0_0.out HB.out) | (with_reducible refine Kd.C_alloc ?_ _) | (with_reducible refine Kd.C_drewN ?_ _) | (with_reducible refine Kd.C_drew ?_))); (case side2 => exact HC0_0.out); rintro e w' ⟨rfl, ⟨nd, rfl⟩⟩; refine ⟨_, rfl, ?_⟩))
    go_ret
    exact ⟨by first | rfl | (simp [errW_none, errW_some] <;> rfl) | (simp [*, errW_none, errW_some] <;> rfl), by repeat (first | (with_reducible first | exact HB.out | apply below_alloc | apply pw_below_drewN | apply below_drew1 | refine below_set ?_ GE103.out) | exact HB.out)⟩

def laws_szCountedS.l0 : Nat → List (S89) → Int → Int → Option (Int)
  | 0, _, _, _ => none
  | k + 1, x0, x1, x5 => if x5 < (x0.length : Int) then (if 0 ≤ x5 then ((laws_szCounted.f ((rd_T89 x0 x5).f0) ((rd_T89 x0 x5).f1) x1).bind fun t106 => (if t106 < 0 then (some (-1)) else (laws_szCountedS.l0 k x0 t106 (wrap64 (x5 + 1))))) else (none)) else (some x1)
def laws_szCountedS.f (k : Nat) (l0 : List (S89)) (a1 : Int) : Option (Int) := if (wrap64 (a1 - (l0.length : Int))) < 0 then (some (-1)) else (laws_szCountedS.l0 k l0 (wrap64 (a1 - (l0.length : Int))) 0)
set_option maxHeartbeats 8000000 in
set_option maxRecDepth 100000 in
theorem laws_szCountedS.calls (k : Nat) (A0 : Option Addr) (c0 : Nat) (l0 : List (S89)) (a1 : Int) (r : Int) (w : World) (hr0 : Kd.C k89 w A0 l0.length l0) (hc0 : l0.length ≤ c0) (h : laws_szCountedS.f k l0 a1 = some r) :
    Calls Try.prog 7 #[.slice A0 l0.length c0, .int .i64 a1] w fun e w' => e = .returned (.int .i64 r) ∧ Below w.heap.size w w' := by
  have hu89 := Try.underlying89
  have HR0 := Aside0.mk hr0
  have HC0 := Aside0.mk hc0
  clear hr0 hc0
  have HB := Aside0.mk (Below.refl w.heap.size w)
  have H : (if (wrap64 (a1 - (l0.length : Int))) < 0 then (some (-1)) else (laws_szCountedS.l0 k l0 (wrap64 (a1 - (l0.length : Int))) 0)) = some r := h
  clear h
  by_cases c3 : (wrap64 (a1 - (l0.length : Int))) < 0
  · rw [if_pos c3] at H
    have c3b0 : decide ((wrap64 (a1 - (l0.length : Int))) < 0) = true := decide_eq_true c3
    clear c3
    obtain rfl := Option.some.inj H
    go_enter Try.func7, Try.ntmps7
    go_wp2
    go_ret
    exact ⟨by first | rfl | (simp [errW_none, errW_some] <;> rfl) | (simp [*, errW_none, errW_some] <;> rfl), by repeat (first | (with_reducible first | exact HB.out | apply below_alloc | apply pw_below_drewN | apply below_drew1) | exact HB.out)⟩
  · rw [if_neg c3] at H
    have c3b0 : decide ((wrap64 (a1 - (l0.length : Int))) < 0) = false := decide_eq_false c3
    clear c3
    have H' := Aside0.mk H
    clear H
    go_enter Try.func7, Try.ntmps7
    go_wp2
    go_loopg [1, 5] k (fun kq v1 v5 w' => ∃ (x1_1 : Int) (x5_1 : Int), v1 = .int .i64 x1_1 ∧ v5 = .int .i64 x5_1 ∧ Aside0 (laws_szCountedS.l0 kq l0 x1_1 x5_1 = some r) ∧ Aside0 (kq ≤ k) ∧ Aside0 (Below w.heap.size w w'))
    case atStart => exact ⟨(wrap64 (a1 - (l0.length : Int))), (0), (by first | rfl | (simp; done) | (simp [*]; done)), (by first | rfl | (simp; done) | (simp [*]; done)), H', ⟨Nat.le_refl _⟩, ⟨by repeat (first | (with_reducible first | exact HB.out | apply below_alloc | apply pw_below_drewN | apply below_drew1) | exact HB.out)⟩⟩
    case round =>
      clear H'
      try clear p2
      try clear c3
      try clear c3b0
      obtain ⟨x1_1, x5_1, rfl, rfl, HA, HK1, HB⟩ := hrel
      cases gk with
      | zero => exact absurd HA.out (by simp [laws_szCountedS.l0])
      | succ k1 =>
        have H := HA.out
        clear HA
        simp only [laws_szCountedS.l0] at H
        by_cases c4 : x5_1 < (l0.length : Int)
        · rw [if_pos c4] at H
          have c4b0 : decide (x5_1 < (l0.length : Int)) = true := decide_eq_true c4
          clear c4
          by_cases c5 : 0 ≤ x5_1
          · rw [if_pos c5] at H
            have c5b0 : decide (0 ≤ x5_1) = true := decide_eq_true c5
            clear c5
            replace H := Option.bind_eq_some_iff.mp H
            obtain ⟨t106, A60, H⟩ := H
            replace H : (if t106 < 0 then (some (-1)) else (laws_szCountedS.l0 k1 l0 t106 (wrap64 (x5_1 + 1)))) = some r := H
            have A6 := Aside0.mk A60
            clear A60
            by_cases c7 : t106 < 0
            · rw [if_pos c7] at H
              have c7b0 : decide (t106 < 0) = true := decide_eq_true c7
              clear c7
              obtain rfl := Option.some.inj H
              have p105 : 0 ≤ (x5_1 : Int) := of_decide_eq_true (by first | (with_reducible assumption) | assumption)
              have q105 : x5_1 < (l0.length : Int) := of_decide_eq_true (by first | (with_reducible assumption) | assumption)
              obtain ⟨ad105, A105_0, c105_0, e105, hx105_0, hx105_1, hl105_0, hi105_0⟩ := at_T89 HR0.out x5_1 p105 q105
              cases e105
              replace hx105_0 := (HB.out.cell (World.block_lt_of_cell? w _ hx105_0)).trans hx105_0
              replace hx105_1 := (HB.out.cell (World.block_lt_of_cell? w _ hx105_1)).trans hx105_1
              have HR105_0 := Aside0.mk hi105_0
              have HC105_0 := Aside0.mk hl105_0
              clear hi105_0 hl105_0
              replace p105 := eq_true p105
              replace q105 := eq_true q105
              go_wp2_with (first | ((with_reducible refine gate_callee (f := 42) rfl ?_); refine goesL_ (some 23) rfl rfl Try.func42 (by kernel_rfl) rfl #[.agg #[.slice A105_0 ((rd_T89 l0 x5_1).f0).length c105_0, .int .i64 ((rd_T89 l0 x5_1).f1)], .int .i64 x1_1] rfl (by (try simp only [List.map_toArray, List.map_cons, List.map_nil]); first | done | rfl | (simp only [List.length_drop, List.length_take]; rfl)) ?_; (with_reducible refine (laws_szCounted.calls _ _ ((rd_T89 l0 x5_1).f0) ((rd_T89 l0 x5_1).f1) x1_1 t106 _ ?side1 ?side2 A6.out).mono ?_); (case side1 => repeat (first | exact (Kd.C_below HR105_0.out HB.out) | (with_reducible refine Kd.C_alloc ?_ _) | (with_reducible refine Kd.C_drewN ?_ _) | (with_reducible refine Kd.C_drew ?_))); (case side2 => exact HC105_0.out); rintro e w8 ⟨rfl, hb⟩; refine ⟨_, rfl, ?_⟩; have n0_ := Aside0.mk (below_step (by repeat (first | (with_reducible first | exact HB.out | apply below_alloc | apply pw_below_drewN | apply below_drew1) | exact HB.out)) hb); clear HB; have HB := n0_; clear n0_; (try clear hb); (try clear hb2); (try clear hk); (try clear hi)))
              go_ret
              exact ⟨by first | rfl | (simp [errW_none, errW_some] <;> rfl) | (simp [*, errW_none, errW_some] <;> rfl), by repeat (first | (with_reducible first | exact HB.out | apply below_alloc | apply pw_below_drewN | apply below_drew1) | exact HB.out)⟩
            · rw [if_neg c7] at H
              have c7b0 : decide (t106 < 0) = false := decide_eq_false c7
              clear c7
              have H' := Aside0.mk H
              clear H
              have p105 : 0 ≤ (x5_1 : Int) := of_decide_eq_true (by first | (with_reducible assumption) | assumption)
              have q105 : x5_1 < (l0.length : Int) := of_decide_eq_true (by first | (with_reducible assumption) | assumption)
              obtain ⟨ad105, A105_0, c105_0, e105, hx105_0, hx105_1, hl105_0, hi105_0⟩ := at_T89 HR0.out x5_1 p105 q105
              cases e105
              replace hx105_0 := (HB.out.cell (World.block_lt_of_cell? w _ hx105_0)).trans hx105_0
              replace hx105_1 := (HB.out.cell (World.block_lt_of_cell? w _ hx105_1)).trans hx105_1
              have HR105_0 := Aside0.mk hi105_0
              have HC105_0 := Aside0.mk hl105_0
              clear hi105_0 hl105_0
              replace p105 := eq_true p105
              replace q105 := eq_true q105
              go_wp2_with (first | ((with_reducible refine gate_callee (f := 42) rfl ?_); refine goesL_ (some 23) rfl rfl Try.func42 (by kernel_rfl) rfl #[.agg #[.slice A105_0 ((rd_T89 l0 x5_1).f0).length c105_0, .int .i64 ((rd_T89 l0 x5_1).f1)], .int .i64 x1_1] rfl (by (try simp only [List.map_toArray, List.map_cons, List.map_nil]); first | done | rfl | (simp only [List.length_drop, List.length_take]; rfl)) ?_; (with_reducible refine (laws_szCounted.calls _ _ ((rd_T89 l0 x5_1).f0) ((rd_T89 l0 x5_1).f1) x1_1 t106 _ ?side1 ?side2 A6.out).mono ?_); (case side1 => repeat (first | exact (Kd.C_below HR105_0.out HB.out) | (with_reducible refine Kd.C_alloc ?_ _) | (with_reducible refine Kd.C_drewN ?_ _) | (with_reducible refine Kd.C_drew ?_))); (case side2 => exact HC105_0.out); rintro e w9 ⟨rfl, hb⟩; refine ⟨_, rfl, ?_⟩; have n0_ := Aside0.mk (below_step (by repeat (first | (with_reducible first | exact HB.out | apply below_alloc | apply pw_below_drewN | apply below_drew1) | exact HB.out)) hb); clear HB; have HB := n0_; clear n0_; (try clear hb); (try clear hb2); (try clear hk); (try clear hi)))
              go_roundg k1
              case measure => have := HK1.out; omega
              case rel => exact ⟨(t106), (wrap64 (x5_1 + 1)), (by first | rfl | (simp; done) | (simp [*]; done)), (by first | rfl | (simp; done) | (simp [*]; done)), H', ⟨by have := HK1.out; omega⟩, ⟨by repeat (first | (with_reducible first | exact HB.out | apply below_alloc | apply pw_below_drewN | apply below_drew1) | exact HB.out)⟩⟩
          · rw [if_neg c5] at H
            exact absurd H (by simp)
        · rw [if_neg c4] at H
          have c4b0 : decide (x5_1 < (l0.length : Int)) = false := decide_eq_false c4
          clear c4
          obtain rfl := Option.some.inj H
          go_wp2
          go_ret
          exact ⟨by first | rfl | (simp [errW_none, errW_some] <;> rfl) | (simp [*, errW_none, errW_some] <;> rfl), by repeat (first | (with_reducible first | exact HB.out | apply below_alloc | apply pw_below_drewN | apply below_drew1) | exact HB.out)⟩

mutual
def spec_l2Less.l0 : Nat → List Int → List Int → Int → Option (Bool)
  | 0, _, _, _ => none
  | k + 1, x0, x1, x5 => if x5 < (x0.length : Int) then (spec_l2Less.j1 k x0 x1 x5 (decide (x5 < (x1.length : Int)))) else (spec_l2Less.j1 k x0 x1 x5 false)
def spec_l2Less.j1 : Nat → List Int → List Int → Int → Bool → Option (Bool)
  | 0, _, _, _, _ => none
  | k + 1, x0, x1, x5, x15 => if x15 = true then (if 0 ≤ x5 then (if x5 < (x0.length : Int) then (if x5 < (x1.length : Int) then (if (rd x0 x5) = (rd x1 x5) then (spec_l2Less.l0 k x0 x1 (wrap64 (x5 + 1))) else (some (decide ((rd x0 x5) < (rd x1 x5))))) else (none)) else (none)) else (none)) else (some (decide ((x0.length : Int) < (x1.length : Int))))
end
def spec_l2Less.f (k : Nat) (l0 : List Int) (l1 : List Int) : Option (Bool) := spec_l2Less.l0 k l0 l1 0
set_option maxHeartbeats 8000000 in
set_option maxRecDepth 100000 in
theorem spec_l2Less.calls (k : Nat) (A0 : Option Addr) (c0 : Nat) (l0 : List Int) (A1 : Option Addr) (c1 : Nat) (l1 : List Int) (r : Bool) (w : World) (hr0 : Kd.C (Kd.int .i64) w A0 l0.length l0) (hc0 : l0.length ≤ c0) (hr1 : Kd.C (Kd.int .i64) w A1 l1.length l1) (hc1 : l1.length ≤ c1) (h : spec_l2Less.f k l0 l1 = some r) :
    Calls Try.prog 52 #[.slice A0 l0.length c0, .slice A1 l1.length c1] w fun e w' => e = .returned (.bool r) ∧ Drawn0 w w' := by
  have HR0 := Aside0.mk hr0
  have HC0 := Aside0.mk hc0
  clear hr0 hc0
  have HR1 := Aside0.mk hr1
  have HC1 := Aside0.mk hc1
  clear hr1 hc1
  have H : (spec_l2Less.l0 k l0 l1 0) = some r := h
  clear h
  have H' := Aside0.mk H
  clear H
  go_enter Try.func52, Try.ntmps52
  go_wp2
  repeat (go_quiet (fail); try go_wp2)
  go_loopg [5] k (fun kq v5 w' => ∃ (x5_1 : Int), v5 = .int .i64 x5_1 ∧ Aside0 (spec_l2Less.l0 kq l0 l1 x5_1 = some r) ∧ Aside0 (kq ≤ k) ∧ Drawn0 w w')
  case atStart => exact ⟨(0), (by first | rfl | (simp; done) | (simp [*]; done)), H', ⟨Nat.le_refl _⟩, by repeat (first | exact Drawn0.refl _ | apply Drawn0.step)⟩
  case round =>
    clear H'
    try clear c1
    try clear p2
    obtain ⟨x5_1, rfl, HA, HK1, ⟨m1, rfl⟩⟩ := hrel
    cases gk with
    | zero => exact absurd HA.out (by simp [spec_l2Less.l0])
    | succ k1 =>
      have H := HA.out
      clear HA
      simp only [spec_l2Less.l0] at H
      have HC3 := Aside0.mk H
      clear H
      go_upto_region 2 with (fail)
      repeat (go_quiet (fail); go_upto_region 2 with (fail))
      go_cut [15] (fun v15 wc => ∃ (kq : Nat) (x15_2 : Bool), v15 = .bool x15_2 ∧ Aside0 (spec_l2Less.j1 kq l0 l1 x5_1 x15_2 = some r) ∧ Aside0 (kq ≤ k1) ∧ Drawn0 w wc)
      case first =>
        have H := HC3.out
        clear HC3
        by_cases c4 : x5_1 < (l0.length : Int)
        · rw [if_pos c4] at H
          have c4b0 : decide (x5_1 < (l0.length : Int)) = true := decide_eq_true c4
          clear c4
          (first | rw [c4b0] | (simp only [i64_w, i32_w]; rw [c4b0]) | skip)
          have H' := Aside0.mk H
          clear H
          go_wp2
          repeat (go_quiet (fail); try go_wp2)
          go_meet
          case rel => exact ⟨_, (decide (x5_1 < (l1.length : Int))), (by first | rfl | (simp; done) | (simp [*]; done)), H', ⟨by have := HK1.out; first | omega | exact Nat.le_refl _⟩, by repeat (first | exact Drawn0.refl _ | apply Drawn0.step)⟩
        · rw [if_neg c4] at H
          have c4b0 : decide (x5_1 < (l0.length : Int)) = false := decide_eq_false c4
          clear c4
          (first | rw [c4b0] | (simp only [i64_w, i32_w]; rw [c4b0]) | skip)
          have H' := Aside0.mk H
          clear H
          go_wp2
          repeat (go_quiet (fail); try go_wp2)
          go_meet
          case rel => exact ⟨_, (false), (by first | rfl | (simp; done) | (simp [*]; done)), H', ⟨by have := HK1.out; first | omega | exact Nat.le_refl _⟩, by repeat (first | exact Drawn0.refl _ | apply Drawn0.step)⟩
      case rest =>
        clear HC3
        try clear c1
        try clear p2
        try clear c4
        try clear c4b0
        try clear p2
        obtain ⟨kq, x15_2, rfl, HA, HJ2, ⟨mc2, rfl⟩⟩ := hcut
        cases kq with
        | zero => exact absurd HA.out (by simp [spec_l2Less.j1])
        | succ kj2 =>
          have H := HA.out
          clear HA
          simp only [spec_l2Less.j1] at H
          by_cases c5 : x15_2 = true
          · subst c5
            have H1 : (if 0 ≤ x5_1 then (if x5_1 < (l0.length : Int) then (if x5_1 < (l1.length : Int) then (if (rd l0 x5_1) = (rd l1 x5_1) then (spec_l2Less.l0 kj2 l0 l1 (wrap64 (x5_1 + 1))) else (some (decide ((rd l0 x5_1) < (rd l1 x5_1))))) else (none)) else (none)) else (none)) = some r := by rw [if_pos rfl] at H; exact H
            clear H
            have H := H1
            clear H1
            by_cases c6 : 0 ≤ x5_1
            · rw [if_pos c6] at H
              have c6b0 : decide (0 ≤ x5_1) = true := decide_eq_true c6
              clear c6
              by_cases c7 : x5_1 < (l0.length : Int)
              · rw [if_pos c7] at H
                have c7b0 : decide (x5_1 < (l0.length : Int)) = true := decide_eq_true c7
                clear c7
                by_cases c8 : x5_1 < (l1.length : Int)
                · rw [if_pos c8] at H
                  have c8b0 : decide (x5_1 < (l1.length : Int)) = true := decide_eq_true c8
                  clear c8
                  by_cases c9 : (rd l0 x5_1) = (rd l1 x5_1)
                  · rw [if_pos c9] at H
                    have c9b0 : ((rd l0 x5_1) == (rd l1 x5_1)) = true := beq_iff_eq.mpr c9
                    have c9b1 : ((rd l0 x5_1) != (rd l1 x5_1)) = false := bne_eq_false_iff_eq.mpr c9
                    clear c9
                    have H' := Aside0.mk H
                    clear H
                    have p107 : 0 ≤ (x5_1 : Int) := of_decide_eq_true (by first | (with_reducible assumption) | assumption)
                    have q107 : x5_1 < (l0.length : Int) := of_decide_eq_true (by first | (with_reducible assumption) | assumption)
                    obtain ⟨ad107, e107, hx107_0⟩ := Kd.at_int HR0.out x5_1 p107 q107
                    cases e107
                    replace p107 := eq_true p107
                    replace q107 := eq_true q107
                    have p108 : 0 ≤ (x5_1 : Int) := of_decide_eq_true (by first | (with_reducible assumption) | assumption)
                    have q108 : x5_1 < (l1.length : Int) := of_decide_eq_true (by first | (with_reducible assumption) | assumption)
                    obtain ⟨ad108, e108, hx108_0⟩ := Kd.at_int HR1.out x5_1 p108 q108
                    cases e108
                    replace p108 := eq_true p108
                    replace q108 := eq_true q108
                    go_wp2
                    repeat (go_quiet (fail); try go_wp2)
                    go_roundg kj2
                    case measure => have := HK1.out; have := HJ2.out; omega
                    case rel => exact ⟨(wrap64 (x5_1 + 1)), (by first | rfl | (simp; done) | (simp [*]; done)), H', ⟨by have := HK1.out; have := HJ2.out; omega⟩, by repeat (first | exact Drawn0.refl _ | apply Drawn0.step)⟩
                  · rw [if_neg c9] at H
                    have c9b0 : ((rd l0 x5_1) == (rd l1 x5_1)) = false := beq_eq_false_iff_ne.mpr c9
                    have c9b1 : ((rd l0 x5_1) != (rd l1 x5_1)) = true := bne_iff_ne.mpr c9
                    obtain rfl := Option.some.inj H
                    have p107 : 0 ≤ (x5_1 : Int) := of_decide_eq_true (by first | (with_reducible assumption) | assumption)
                    have q107 : x5_1 < (l0.length : Int) := of_decide_eq_true (by first | (with_reducible assumption) | assumption)
                    obtain ⟨ad107, e107, hx107_0⟩ := Kd.at_int HR0.out x5_1 p107 q107
                    cases e107
                    replace p107 := eq_true p107
                    replace q107 := eq_true q107
                    have p108 : 0 ≤ (x5_1 : Int) := of_decide_eq_true (by first | (with_reducible assumption) | assumption)
                    have q108 : x5_1 < (l1.length : Int) := of_decide_eq_true (by first | (with_reducible assumption) | assumption)
                    obtain ⟨ad108, e108, hx108_0⟩ := Kd.at_int HR1.out x5_1 p108 q108
                    cases e108
                    replace p108 := eq_true p108
                    replace q108 := eq_true q108
                    have p109 : 0 ≤ (x5_1 : Int) := of_decide_eq_true (by first | (with_reducible assumption) | assumption)
                    have q109 : x5_1 < (l0.length : Int) := of_decide_eq_true (by first | (with_reducible assumption) | assumption)
                    obtain ⟨ad109, e109, hx109_0⟩ := Kd.at_int HR0.out x5_1 p109 q109
                    obtain rfl : ad107 = ad109 := (by injection e109)
                    replace p109 := eq_true p109
                    replace q109 := eq_true q109
                    have p110 : 0 ≤ (x5_1 : Int) := of_decide_eq_true (by first | (with_reducible assumption) | assumption)
                    have q110 : x5_1 < (l1.length : Int) := of_decide_eq_true (by first | (with_reducible assumption) | assumption)
                    obtain ⟨ad110, e110, hx110_0⟩ := Kd.at_int HR1.out x5_1 p110 q110
                    obtain rfl : ad108 = ad110 := (by injection e110)
                    replace p110 := eq_true p110
                    replace q110 := eq_true q110
                    go_wp2
                    repeat (go_quiet (fail); try go_wp2)
                    go_ret
                    exact ⟨by first | rfl | (simp; done) | (simp [*]; done), by repeat (first | exact Drawn0.refl _ | apply Drawn0.step)⟩
                · rw [if_neg c8] at H
                  exact absurd H (by simp)
              · rw [if_neg c7] at H
                exact absurd H (by simp)
            · rw [if_neg c6] at H
              exact absurd H (by simp)
          · replace c5 := Bool.eq_false_iff.mpr c5
            subst c5
            have H1 : (some (decide ((l0.length : Int) < (l1.length : Int)))) = some r := by rw [if_neg (show ¬ (false = true) by decide)] at H; exact H
            clear H
            have H := H1
            clear H1
            obtain rfl := Option.some.inj H
            go_wp2
            repeat (go_quiet (fail); try go_wp2)
            go_ret
            exact ⟨by first | rfl | (simp; done) | (simp [*]; done), by repeat (first | exact Drawn0.refl _ | apply Drawn0.step)⟩

def spec_l20Sorted.l0 : Nat → List (S91) → Int → Option (Bool)
  | 0, _, _ => none
  | k + 1, x0, x3 => if x3 < (x0.length : Int) then (if 0 ≤ (wrap64 (x3 - 1)) then (if (wrap64 (x3 - 1)) < (x0.length : Int) then (if 0 ≤ x3 then ((spec_l2Less.f k ((rd_T91 x0 (wrap64 (x3 - 1))).f0) ((rd_T91 x0 x3).f0)).bind fun t113 => (if t113 = true then (spec_l20Sorted.l0 k x0 (wrap64 (x3 + 1))) else (some false))) else (none)) else (none)) else (none)) else (some true)
def spec_l20Sorted.f (k : Nat) (l0 : List (S91)) : Option (Bool) := spec_l20Sorted.l0 k l0 1
set_option maxHeartbeats 8000000 in
set_option maxRecDepth 100000 in
theorem spec_l20Sorted.calls (k : Nat) (A0 : Option Addr) (c0 : Nat) (l0 : List (S91)) (r : Bool) (w : World) (hr0 : Kd.C k91 w A0 l0.length l0) (hc0 : l0.length ≤ c0) (h : spec_l20Sorted.f k l0 = some r) :
    Calls Try.prog 43 #[.slice A0 l0.length c0] w fun e w' => e = .returned (.bool r) ∧ Drawn0 w w' := by
  have HR0 := Aside0.mk hr0
  have HC0 := Aside0.mk hc0
  clear hr0 hc0
  have H : (spec_l20Sorted.l0 k l0 1) = some r := h
  clear h
  have H' := Aside0.mk H
  clear H
  go_enter Try.func43, Try.ntmps43
  go_wp2
  repeat (go_quiet (fail); try go_wp2)
  go_loopg [3] k (fun kq v3 w' => ∃ (x3_1 : Int), v3 = .int .i64 x3_1 ∧ Aside0 (spec_l20Sorted.l0 kq l0 x3_1 = some r) ∧ Aside0 (kq ≤ k) ∧ Drawn0 w w')
  case atStart => exact ⟨(1), (by first | rfl | (simp; done) | (simp [*]; done)), H', ⟨Nat.le_refl _⟩, by repeat (first | exact Drawn0.refl _ | apply Drawn0.step)⟩
  case round =>
    clear H'
    obtain ⟨x3_1, rfl, HA, HK1, ⟨m1, rfl⟩⟩ := hrel
    cases gk with
    | zero => exact absurd HA.out (by simp [spec_l20Sorted.l0])
    | succ k1 =>
      have H := HA.out
      clear HA
      simp only [spec_l20Sorted.l0] at H
      by_cases c2 : x3_1 < (l0.length : Int)
      · rw [if_pos c2] at H
        have c2b0 : decide (x3_1 < (l0.length : Int)) = true := decide_eq_true c2
        clear c2
        obtain ⟨ji3, hji3⟩ : ∃ j_ : Int, (wrap64 (x3_1 - 1)) = j_ := ⟨_, rfl⟩
        replace H : (if 0 ≤ (ji3) then (if (ji3) < (l0.length : Int) then (if 0 ≤ x3_1 then ((spec_l2Less.f k1 ((rd_T91 l0 (ji3)).f0) ((rd_T91 l0 x3_1).f0)).bind fun t113 => (if t113 = true then (spec_l20Sorted.l0 k1 l0 (wrap64 (x3_1 + 1))) else (some false))) else (none)) else (none)) else (none)) = some r := by first | (rw [hji3] at H; exact H) | (simp only [hji3] at H ⊢; exact H)
        have hji3w : (IntKind.i64.wrap (x3_1 - 1)) = ji3 := (i64_w _).trans hji3
        by_cases c4 : 0 ≤ (ji3)
        · rw [if_pos c4] at H
          have c4b0 : decide (0 ≤ (ji3)) = true := decide_eq_true c4
          clear c4
          by_cases c5 : (ji3) < (l0.length : Int)
          · rw [if_pos c5] at H
            have c5b0 : decide ((ji3) < (l0.length : Int)) = true := decide_eq_true c5
            clear c5
            by_cases c6 : 0 ≤ x3_1
            · rw [if_pos c6] at H
              have c6b0 : decide (0 ≤ x3_1) = true := decide_eq_true c6
              clear c6
              replace H := Option.bind_eq_some_iff.mp H
              obtain ⟨t113, A70, H⟩ := H
              replace H : (if t113 = true then (spec_l20Sorted.l0 k1 l0 (wrap64 (x3_1 + 1))) else (some false)) = some r := H
              have A7 := Aside0.mk A70
              clear A70
              by_cases c8 : t113 = true
              · subst c8
                have H1 : (spec_l20Sorted.l0 k1 l0 (wrap64 (x3_1 + 1))) = some r := by rw [if_pos rfl] at H; exact H
                clear H
                have H := H1
                clear H1
                have H' := Aside0.mk H
                clear H
                have p111 : 0 ≤ ((ji3) : Int) := of_decide_eq_true (by first | (with_reducible assumption) | assumption)
                have q111 : (ji3) < (l0.length : Int) := of_decide_eq_true (by first | (with_reducible assumption) | assumption)
                obtain ⟨ad111, A111_0, c111_0, e111, hx111_0, hx111_1, hl111_0, hi111_0⟩ := at_T91 HR0.out (ji3) p111 q111
                cases e111
                have HR111_0 := Aside0.mk hi111_0
                have HC111_0 := Aside0.mk hl111_0
                clear hi111_0 hl111_0
                replace p111 := eq_true p111
                replace q111 := eq_true q111
                have p112 : 0 ≤ (x3_1 : Int) := of_decide_eq_true (by first | (with_reducible assumption) | assumption)
                have q112 : x3_1 < (l0.length : Int) := of_decide_eq_true (by first | (with_reducible assumption) | assumption)
                obtain ⟨ad112, A112_0, c112_0, e112, hx112_0, hx112_1, hl112_0, hi112_0⟩ := at_T91 HR0.out x3_1 p112 q112
                obtain rfl : ad111 = ad112 := (by injection e112)
                have HR112_0 := Aside0.mk hi112_0
                have HC112_0 := Aside0.mk hl112_0
                clear hi112_0 hl112_0
                replace p112 := eq_true p112
                replace q112 := eq_true q112
                go_wp2_with (first | (go_at_call 52; (with_reducible refine (spec_l2Less.calls k1 _ _ ((rd_T91 l0 (ji3)).f0) _ _ ((rd_T91 l0 x3_1).f0) true _ ?side1 ?side2 ?side3 ?side4 A7.out).mono ?_); (case side1 => repeat (first | exact HR111_0.out | (with_reducible refine Kd.C_alloc ?_ _) | (with_reducible refine Kd.C_drewN ?_ _) | (with_reducible refine Kd.C_drew ?_))); (case side2 => exact HC111_0.out); (case side3 => repeat (first | exact HR112_0.out | (with_reducible refine Kd.C_alloc ?_ _) | (with_reducible refine Kd.C_drewN ?_ _) | (with_reducible refine Kd.C_drew ?_))); (case side4 => exact HC112_0.out); rintro e w' ⟨rfl, ⟨nd, rfl⟩⟩; (try first | exact ⟨rfl, _, World.drewN_drewN _ _ _⟩ | exact ⟨rfl, _, Eq.trans (World.drewN_drewN _ _ _) (congrArg (World.drewN _) (Nat.add_assoc _ _ _))⟩)))
                repeat (go_quiet (first | (go_at_call 52; (with_reducible refine (spec_l2Less.calls k1 _ _ ((rd_T91 l0 (ji3)).f0) _ _ ((rd_T91 l0 x3_1).f0) true _ ?side1 ?side2 ?side3 ?side4 A7.out).mono ?_); (case side1 => repeat (first | exact HR111_0.out | (with_reducible refine Kd.C_alloc ?_ _) | (with_reducible refine Kd.C_drewN ?_ _) | (with_reducible refine Kd.C_drew ?_))); (case side2 => exact HC111_0.out); (case side3 => repeat (first | exact HR112_0.out | (with_reducible refine Kd.C_alloc ?_ _) | (with_reducible refine Kd.C_drewN ?_ _) | (with_reducible refine Kd.C_drew ?_))); (case side4 => exact HC112_0.out); rintro e w' ⟨rfl, ⟨nd, rfl⟩⟩; (try first | exact ⟨rfl, _, World.drewN_drewN _ _ _⟩ | exact ⟨rfl, _, Eq.trans (World.drewN_drewN _ _ _) (congrArg (World.drewN _) (Nat.add_assoc _ _ _))⟩))); try go_wp2_with (first | (go_at_call 52; (with_reducible refine (spec_l2Less.calls k1 _ _ ((rd_T91 l0 (ji3)).f0) _ _ ((rd_T91 l0 x3_1).f0) true _ ?side1 ?side2 ?side3 ?side4 A7.out).mono ?_); (case side1 => repeat (first | exact HR111_0.out | (with_reducible refine Kd.C_alloc ?_ _) | (with_reducible refine Kd.C_drewN ?_ _) | (with_reducible refine Kd.C_drew ?_))); (case side2 => exact HC111_0.out); (case side3 => repeat (first | exact HR112_0.out | (with_reducible refine Kd.C_alloc ?_ _) | (with_reducible refine Kd.C_drewN ?_ _) | (with_reducible refine Kd.C_drew ?_))); (case side4 => exact HC112_0.out); rintro e w' ⟨rfl, ⟨nd, rfl⟩⟩; (try first | exact ⟨rfl, _, World.drewN_drewN _ _ _⟩ | exact ⟨rfl, _, Eq.trans (World.drewN_drewN _ _ _) (congrArg (World.drewN _) (Nat.add_assoc _ _ _))⟩))))
                go_roundg k1
                case measure => have := HK1.out; omega
                case rel => exact ⟨(wrap64 (x3_1 + 1)), (by first | rfl | (simp; done) | (simp [*]; done)), H', ⟨by have := HK1.out; omega⟩, by repeat (first | exact Drawn0.refl _ | apply Drawn0.step)⟩
              · replace c8 := Bool.eq_false_iff.mpr c8
                subst c8
                have H1 : (some false) = some r := by rw [if_neg (show ¬ (false = true) by decide)] at H; exact H
                clear H
                have H := H1
                clear H1
                obtain rfl := Option.some.inj H
                have p111 : 0 ≤ ((ji3) : Int) := of_decide_eq_true (by first | (with_reducible assumption) | assumption)
                have q111 : (ji3) < (l0.length : Int) := of_decide_eq_true (by first | (with_reducible assumption) | assumption)
                obtain ⟨ad111, A111_0, c111_0, e111, hx111_0, hx111_1, hl111_0, hi111_0⟩ := at_T91 HR0.out (ji3) p111 q111
                cases e111
                have HR111_0 := Aside0.mk hi111_0
                have HC111_0 := Aside0.mk hl111_0
                clear hi111_0 hl111_0
                replace p111 := eq_true p111
                replace q111 := eq_true q111
                have p112 : 0 ≤ (x3_1 : Int) := of_decide_eq_true (by first | (with_reducible assumption) | assumption)
                have q112 : x3_1 < (l0.length : Int) := of_decide_eq_true (by first | (with_reducible assumption) | assumption)
                obtain ⟨ad112, A112_0, c112_0, e112, hx112_0, hx112_1, hl112_0, hi112_0⟩ := at_T91 HR0.out x3_1 p112 q112
                obtain rfl : ad111 = ad112 := (by injection e112)
                have HR112_0 := Aside0.mk hi112_0
                have HC112_0 := Aside0.mk hl112_0
                clear hi112_0 hl112_0
                replace p112 := eq_true p112
                replace q112 := eq_true q112
                go_wp2_with (first | (go_at_call 52; (with_reducible refine (spec_l2Less.calls k1 _ _ ((rd_T91 l0 (ji3)).f0) _ _ ((rd_T91 l0 x3_1).f0) false _ ?side1 ?side2 ?side3 ?side4 A7.out).mono ?_); (case side1 => repeat (first | exact HR111_0.out | (with_reducible refine Kd.C_alloc ?_ _) | (with_reducible refine Kd.C_drewN ?_ _) | (with_reducible refine Kd.C_drew ?_))); (case side2 => exact HC111_0.out); (case side3 => repeat (first | exact HR112_0.out | (with_reducible refine Kd.C_alloc ?_ _) | (with_reducible refine Kd.C_drewN ?_ _) | (with_reducible refine Kd.C_drew ?_))); (case side4 => exact HC112_0.out); rintro e w' ⟨rfl, ⟨nd, rfl⟩⟩; (try first | exact ⟨rfl, _, World.drewN_drewN _ _ _⟩ | exact ⟨rfl, _, Eq.trans (World.drewN_drewN _ _ _) (congrArg (World.drewN _) (Nat.add_assoc _ _ _))⟩)))
                repeat (go_quiet (first | (go_at_call 52; (with_reducible refine (spec_l2Less.calls k1 _ _ ((rd_T91 l0 (ji3)).f0) _ _ ((rd_T91 l0 x3_1).f0) false _ ?side1 ?side2 ?side3 ?side4 A7.out).mono ?_); (case side1 => repeat (first | exact HR111_0.out | (with_reducible refine Kd.C_alloc ?_ _) | (with_reducible refine Kd.C_drewN ?_ _) | (with_reducible refine Kd.C_drew ?_))); (case side2 => exact HC111_0.out); (case side3 => repeat (first | exact HR112_0.out | (with_reducible refine Kd.C_alloc ?_ _) | (with_reducible refine Kd.C_drewN ?_ _) | (with_reducible refine Kd.C_drew ?_))); (case side4 => exact HC112_0.out); rintro e w' ⟨rfl, ⟨nd, rfl⟩⟩; (try first | exact ⟨rfl, _, World.drewN_drewN _ _ _⟩ | exact ⟨rfl, _, Eq.trans (World.drewN_drewN _ _ _) (congrArg (World.drewN _) (Nat.add_assoc _ _ _))⟩))); try go_wp2_with (first | (go_at_call 52; (with_reducible refine (spec_l2Less.calls k1 _ _ ((rd_T91 l0 (ji3)).f0) _ _ ((rd_T91 l0 x3_1).f0) false _ ?side1 ?side2 ?side3 ?side4 A7.out).mono ?_); (case side1 => repeat (first | exact HR111_0.out | (with_reducible refine Kd.C_alloc ?_ _) | (with_reducible refine Kd.C_drewN ?_ _) | (with_reducible refine Kd.C_drew ?_))); (case side2 => exact HC111_0.out); (case side3 => repeat (first | exact HR112_0.out | (with_reducible refine Kd.C_alloc ?_ _) | (with_reducible refine Kd.C_drewN ?_ _) | (with_reducible refine Kd.C_drew ?_))); (case side4 => exact HC112_0.out); rintro e w' ⟨rfl, ⟨nd, rfl⟩⟩; (try first | exact ⟨rfl, _, World.drewN_drewN _ _ _⟩ | exact ⟨rfl, _, Eq.trans (World.drewN_drewN _ _ _) (congrArg (World.drewN _) (Nat.add_assoc _ _ _))⟩))))
                go_ret
                exact ⟨by first | rfl | (simp; done) | (simp only [← hji3] <;> (first | rfl | simp)) | (simp [*]; done), by repeat (first | exact Drawn0.refl _ | apply Drawn0.step)⟩
            · rw [if_neg c6] at H
              exact absurd H (by simp)
          · rw [if_neg c5] at H
            exact absurd H (by simp)
        · rw [if_neg c4] at H
          exact absurd H (by simp)
      · rw [if_neg c2] at H
        have c2b0 : decide (x3_1 < (l0.length : Int)) = false := decide_eq_false c2
        clear c2
        obtain rfl := Option.some.inj H
        go_wp2
        repeat (go_quiet (fail); try go_wp2)
        go_ret
        exact ⟨by first | rfl | (simp; done) | (simp [*]; done), by repeat (first | exact Drawn0.refl _ | apply Drawn0.step)⟩

end Go.Proofs.Ytjglknoebaojgaa.G

