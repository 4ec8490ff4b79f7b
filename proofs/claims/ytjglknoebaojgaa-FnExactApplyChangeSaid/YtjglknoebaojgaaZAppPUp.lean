/- Out of YtjglknoebaojgaaPUp: what the claim needs of it. Conditions: each declaration's own. -/
import Derived.Test.YtjglknoebaojgaaZAppWApart
import Derived.Test.YtjglknoebaojgaaZAppWLast
namespace Go.Proofs.Ytjglknoebaojgaa.P
open Go.RowKit Go.Proofs.YtjglknoebaojgaaW.PrintWords Go.Proofs.YtjglknoebaojgaaW.PrintLast
class Up (w w' : World) : Prop where up : Below w.heap.size w w'
instance (w : World) : Up w w := ⟨Below.refl _ _⟩
instance (w v : World) (o : Obj) [h : Up w v] : Up w (v.alloc o) := ⟨below_alloc h.up o⟩
instance (w v : World) [h : Up w v] : Up w v.drew := ⟨below_drew h.up⟩
instance (w v : World) (n : Nat) [h : Up w v] : Up w (v.drewN n) := ⟨pw_below_drewN h.up n⟩
theorem uB {w w1 w2 : World} (h : Aside0 (Below w.heap.size w w1)) [u : Up w1 w2] : Below w.heap.size w w2 := below_then h.out h.out.size u.up
theorem uS {w w1 w2 w3 : World} (h : Aside0 (Below w.heap.size w w1)) [u : Up w1 w2] (k : Below w2.heap.size w2 w3) : Aside0 (Below w.heap.size w w3) := ⟨below_step (uB h) k⟩
theorem uk {w1 w2 : World} {g : Nat} {o : Obj} (h : Aside0 (w1.heap[g]? = some o)) [u : Up w1 w2] : w2.heap[g]? = some o := blk_below h.out u.up
theorem uK {w1 w2 w3 : World} {g : Nat} {o : Obj} (h : Aside0 (w1.heap[g]? = some o)) [u : Up w1 w2] (k : Below w2.heap.size w2 w3) : Aside0 (w3.heap[g]? = some o) := ⟨blk_below (uk h) k⟩
theorem uG {w w1 w2 : World} {g : Nat} (h : Aside0 (Below w.heap.size w w1)) [u : Up w1 w2] (hg : g = w2.heap.size) : Aside0 (w.heap.size ≤ g) := ⟨hg ▸ (uB h : Below w.heap.size w w2).size⟩
theorem uN {w1 w2 : World} {g g' : Nat} {o : Obj} (h : Aside0 (w1.heap[g]? = some o)) [u : Up w1 w2] (hg : g' = w2.heap.size) : Aside0 (g ≠ g') := ⟨hg ▸ Nat.ne_of_lt (blk_lt (uk h : w2.heap[g]? = some o))⟩
theorem uM {w1 w2 : World} {g g' : Nat} {o : Obj} (h : Aside0 (w1.heap[g]? = some o)) [u : Up w1 w2] (hg : g' = w2.heap.size) : Aside0 (g' ≠ g) := ⟨hg ▸ Nat.ne_of_gt (blk_lt (uk h : w2.heap[g]? = some o))⟩
theorem uC {α : Type} {d : Kd α} {w w1 w2 : World} {A : Option Addr} {n : Nat} {xs : List α} (h : Aside0 (d.C w A n xs)) (k : Aside0 (Below w.heap.size w w1)) [u : Up w1 w2] : d.C w2 A n xs := Kd.C_below h.out (uB k)
theorem kc {w : World} {g t i : Nat} {cs : Array Value} {v : Value} (h : Aside0 (w.heap[g]? = some (.cells cs t (0, 0)))) (e : cs[i]? = some v) : w.cell? ⟨g, i, none⟩ = some v := (blk_cell h.out i).trans e
theorem kb {w w1 : World} {g t i : Nat} {cs : Array Value} {v : Value} (h : Aside0 (w.heap[g]? = some (.cells cs t (0, 0)))) (hb : Below w.heap.size w w1) (e : cs[i]? = some v) : w1.cell? ⟨g, i, none⟩ = some v := (blk_cell (blk_below h.out hb) i).trans e
theorem sA {α : Type} (l : List α) (i : Nat) (a : α) : l.toArray.setIfInBounds i a = (l.set i a).toArray := List.setIfInBounds_toArray ..
theorem sZ {α : Type} (x : α) (xs : List α) (a : α) : (x :: xs).set 0 a = a :: xs := rfl
theorem sS {α : Type} (x : α) (xs : List α) (n : Nat) (a : α) : (x :: xs).set (n + 1) a = x :: xs.set n a := rfl
end Go.Proofs.Ytjglknoebaojgaa.P

