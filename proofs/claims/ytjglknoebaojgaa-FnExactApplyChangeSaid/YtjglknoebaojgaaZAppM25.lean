/- Several texts in one: what the claim needs of them. Conditions: each declaration's own. -/
import Derived.Test.YtjglknoebaojgaaZAppM12
import Derived.Test.YtjglknoebaojgaaZAppM24
import Derived.Test.YtjglknoebaojgaaZAppM23
import Derived.Test.YtjglknoebaojgaaZAppM18
import Derived.Test.YtjglknoebaojgaaZAppM13
import Derived.Test.YtjglknoebaojgaaZAppM14
import Derived.Test.YtjglknoebaojgaaZAppPx18
import Derived.Test.YtjglknoebaojgaaZAppPx19
import Derived.Test.YtjglknoebaojgaaZAppPx15
import Derived.Test.YtjglknoebaojgaaZAppPx20
import Derived.Test.YtjglknoebaojgaaZAppPx14
import Derived.Test.YtjglknoebaojgaaZAppPx16
import Derived.Test.YtjglknoebaojgaaZAppPx21
import Derived.Test.YtjglknoebaojgaaZAppWWords
import Derived.Deep.Slices
import Derived.Deep.Strs
import Derived.Lib.SmallJoins
import Derived.WideShapes
import Derived.ChangeSame
import Derived.DataElems
namespace Go.Proofs.Ytjglknoebaojgaa.LayI
open Go.RowKit Go.Proofs.Ytjglknoebaojgaa.P Go.Proofs.YtjglknoebaojgaaW.PrintWords Go.Proofs.YtjglknoebaojgaaW.PrintLast Go.Proofs.YtjglknoebaojgaaW.PrintMore Go.Proofs.Ytjglknoebaojgaa.Lay Go.Proofs.Ytjglknoebaojgaa.LawM
attribute [local go_sem] max2_int min2_int max_two min_two max_three min_three max_four min_four
set_option linter.unusedVariables false
set_option linter.unusedSimpArgs false
set_option maxHeartbeats 8000000 in
set_option maxRecDepth 100000 in
theorem heldFactS (v : Value) (ps : Pl) (a : Int) (w : World) (h : Row 2 (ePair eInt (eRow (Row 1 eInt))) w v ps) (hv : Vals w ps a) (h0 : 0 ≤ a) (h1 : a + ps.length ≤ 4611686018427387000) :
  Calls Try.prog 75 #[v, .int .i64 a] w fun e w' => e = .returned (.int .i64 (a + ps.length)) ∧ Below w.heap.size w w' := by
 obtain ⟨A, n, c, rfl, hn, ass, hl, hpf, hr⟩ := h.open_
 have HF := Aside0.mk hpf
 have HN := Aside0.mk hn
 have HL := Aside0.mk hl
 have HR := Aside0.mk hr
 have HV := Aside0.mk hv
 have H1 := Aside0.mk h1
 have H0 := Aside0.mk h0
 clear hn hr h1 h0 h hl hpf hv
 have hu53 := Try.underlying53
 go_enter Try.func75, Try.ntmps75
 go_wp2
 go_loopg [1, 5] (n + 1) (fun kq v1 v5 w' => ∃ (x1 : Int) (x5 : Int), v1 = .int .i64 x1 ∧ v5 = .int .i64 x5 ∧ Aside0 (∃ i : Nat, x5 = (i : Int) ∧ i + kq = n + 1 ∧ x1 = a + ((ass.take i).flatten.length : Int)) ∧ Aside0 (1 ≤ kq) ∧ Aside0 (Below w.heap.size w w'))
 case atStart => exact ⟨a, 0, rfl, rfl, ⟨0, rfl, by omega, by simp⟩, ⟨by omega⟩, ⟨by repeat (first | exact Below.refl _ _ | apply below_alloc | apply pw_below_drewN | apply below_drew1)⟩⟩
 case round =>
  obtain ⟨x1, x5, rfl, rfl, HX, HQ, HB⟩ := hrel
  cases gk with
  | zero => exact absurd HQ.out (by omega)
  | succ k1 =>
   by_cases c3 : x5 < (n : Int)
   ·obtain ⟨i, hi, hik, hx1⟩ := HX.out
    have hil : i < ass.length := by have := HL.out; omega
    obtain ⟨g, rfl, hE⟩ := HR.out (by omega)
    have hEi := hE i hil
    have hvi := Vals.flat (by have := HV.out; rw [HF.out] at this; exact this) hil
    rw [← hx1] at hvi
    have hb1 := H1.out
    have hpf := HF.out
    rw [hpf] at hb1
    have hsz := flat_lt hil
    have hb0 := H0.out
    have hn9 := HN.out
    have hx5 : x5.toNat = i := by omega
    have HH := Aside0.mk (show (i + 1) + k1 = n + 1 ∧ 1 ≤ k1 by omega)
    have HX5 := Aside0.mk (show wrap64 (x5 + 1) = ((i + 1 : Nat) : Int) by unfold wrap64; omega)
    have c3b0 : decide (x5 < (n : Int)) = true := decide_eq_true c3
    have p5 : (0 ≤ (x5 : Int)) = True := eq_true (by omega)
    have q5 : (x5 < (n : Int)) = True := eq_true c3
    have hd := Hd.below HB.out
    obtain ⟨b1, b2, hA, hB, hab⟩ := (st_pair st_int (st_eRow (st_row st_int))) _ _ _ _ _ hd hEi
    rw [hab] at hvi
    rw [← hx5] at hA hB
    have hvw := Vals.move hvi HB.out
    have hv0 := Vals.left hvw
    have hv1 := Vals.right hvw
    have hlen : ass[i].length = b1.length + b2.length := by rw [hab]; exact List.length_append
    obtain ⟨⟨hf0, y0, hcy0⟩, he0⟩ := hA
    have el0 : b1.length = 1 := by rw [he0]; rfl
    rw [he0] at hv0
    have hc0 : wr.cell? ⟨g, x5.toNat * 2, none⟩ = some (.int .i64 (x1)) := Vals.one hv0
    clear hcy0 hf0 hv0
    have ew0 : wrap64 (x1 + 1) = x1 + (b1.length : Int) := by rw [el0]; unfold wrap64; omega
    have hne0 : ((x1) != (x1)) = false := by simp
    obtain ⟨u1, hc1, hf1, hi1, hrw1⟩ := hB
    obtain ⟨A1, n1, cc1, rfl, hz1⟩ := id hrw1
    clear hz1 hf1 hi1
    have HC1 := Aside0.mk (show 0 ≤ wrap64 (x1 + 1) ∧ wrap64 (x1 + 1) + (b2.length : Int) ≤ 4611686018427387000 by rw [ew0]; omega)
    have hlt1 : decide (wrap64 (x1 + 1) + (b2.length : Int) < 0) = false := decide_eq_false (by rw [ew0]; omega)
    have HVJ1 := Aside0.mk (show Vals wr b2 (wrap64 (x1 + 1)) from by rw [ew0]; exact hv1)
    have HRW1 := Aside0.mk hrw1
    clear hrw1 hv1
    have hfin : (wrap64 (x1 + 1) + (b2.length : Int)) = a + (((ass.take (i + 1)).flatten.length : Nat) : Int) := by rw [flat_take hil, List.length_append, hlen]; rw [ew0]; omega
    have HFIN := Aside0.mk hfin
    clear ew0
    clear el0 he0
    clear hfin hab hx1 hlen hEi hb1 hsz hb0 hn9 hx5 hpf HX HQ hik hi c3 hE hvi hvw hd
    go_wp2_with (first | ((with_reducible refine gate_callee (f := 51) rfl ?_); refine goesL_ (some 27) rfl rfl Try.func51 (by kernel_rfl) rfl #[.slice A1 n1 cc1, .int .i64 (wrap64 (x1 + 1))] rfl (by (try simp only [List.map_toArray, List.map_cons, List.map_nil]); first | done | rfl) ?_; (with_reducible refine (heldIntS _ b2 (wrap64 (x1 + 1)) _ ?hr ?hv ?k0 ?k1).mono ?_); (case hr => first | (with_reducible exact HRW1.out) | exact HRW1.out | exact row_below st_int HRW1.out (pw_below_drewN (Below.refl _ _) _)); (case hv => first | (with_reducible exact HVJ1.out) | exact HVJ1.out | exact Vals.move HVJ1.out (pw_below_drewN (Below.refl _ _) _)); (case k0 => exact HC1.out.1); (case k1 => exact HC1.out.2); rintro e w82 ⟨rfl, hb⟩; refine ⟨_, rfl, ?_⟩; have HB_ := Aside0.mk (below_then (by repeat (first | (with_reducible first | exact HB.out | apply below_alloc | apply pw_below_drewN | apply below_drew1) | exact HB.out)) (below_size (by repeat (first | (with_reducible first | exact HB.out | apply below_alloc | apply pw_below_drewN | apply below_drew1) | exact HB.out))) hb); clear HB hb; have HB := HB_; clear HB_))
    go_roundg k1
    case measure => exact Nat.lt_succ_self _
    case rel => exact ⟨_, _, rfl, rfl, ⟨i + 1, HX5.out, HH.out.1, HFIN.out⟩, ⟨HH.out.2⟩, ⟨(by repeat (first | (with_reducible first | exact HB.out | apply below_alloc | apply pw_below_drewN | apply below_drew1) | exact HB.out))⟩⟩
   ·have c3b0 : decide (x5 < (n : Int)) = false := decide_eq_false c3
    go_wp2
    go_ret
    obtain ⟨i, hi, hik, hx1⟩ := HX.out
    have hq := HQ.out
    have hi' : i = n := by omega
    subst hi'
    rw [flat_all ass HL.out, ← HF.out] at hx1
    exact ⟨by rw [hx1]; rfl, (by repeat (first | (with_reducible first | exact HB.out | apply below_alloc | apply pw_below_drewN | apply below_drew1) | exact HB.out))⟩
end Go.Proofs.Ytjglknoebaojgaa.LayI

namespace Go.Proofs.Ytjglknoebaojgaa.LayI
open Go.RowKit Go.Proofs.Ytjglknoebaojgaa.P Go.Proofs.YtjglknoebaojgaaW.PrintWords Go.Proofs.YtjglknoebaojgaaW.PrintLast Go.Proofs.YtjglknoebaojgaaW.PrintMore Go.Proofs.Ytjglknoebaojgaa.Lay Go.Proofs.Ytjglknoebaojgaa.LawM
attribute [local go_sem] max2_int min2_int max_two min_two max_three min_three max_four min_four
set_option linter.unusedVariables false
set_option linter.unusedSimpArgs false
set_option maxHeartbeats 8000000 in
set_option maxRecDepth 100000 in
theorem heldSource (A0 : Option Addr) (n0 c0 : Nat) (x1 : Int) (p0 : Pl) (a : Int) (w : World) (h0_ : Row 2 (ePair eInt (eRow (Row 1 eInt))) w (.slice A0 n0 c0) p0) (hv : Vals w (p0) a) (h0 : 0 ≤ a) (h1 : a + (p0.length : Int) ≤ 4611686018427387000) :
  Calls Try.prog 30 #[.agg #[.slice A0 n0 c0, .int .i64 x1], .int .i64 a] w fun e w' => e = .returned (.int .i64 (a + (p0.length : Int))) ∧ Below w.heap.size w w' := by
 have hu47 := Try.underlying47
 have HR0 := Aside0.mk h0_
 have H0 := Aside0.mk h0
 have H1 := Aside0.mk h1
 have HV0 := Aside0.mk (show Vals w p0 (a) from by have h_ := hv; (try simp only [List.length_append, Int.natCast_add, ← Int.add_assoc] at h_); exact h_)
 have ck0 : decide (a + (p0.length : Int) < 0) = false := decide_eq_false (by omega)
 clear hv
 clear h0 h1 h0_
 go_enter Try.func30, Try.ntmps30
 go_wp2_with (first | ((with_reducible refine gate_dst (N := 2) rfl ?_); refine box_event ?hg (N := 2) ?hd (cs := #[.slice A0 n0 c0, .int .i64 x1]) (t := 47) ?hr ?_; (case hd => rfl); (case hg => rfl); (case hr => first | (go_simp; done) | (go_simp; rfl)); intro gb hg w80 hbox hb; have BK := Aside0.mk hbox; have GB := Aside0.mk hg; have HB := Aside0.mk hb; have HR0_ := Aside0.mk ((st_row (st_pair st_int (st_eRow (st_row st_int)))) _ _ _ _ (Hd.below hb) HR0.out); clear HR0; have HR0 := HR0_; clear HR0_; have HV0_ := Aside0.mk (Vals.move HV0.out hb); clear HV0; have HV0 := HV0_; clear HV0_; have hc0 : w80.cell? ⟨gb, 0, none⟩ = some (.slice A0 n0 c0) := (blk_cell BK.out 0).trans rfl; have hc1 : w80.cell? ⟨gb, 1, none⟩ = some (.int .i64 x1) := (blk_cell BK.out 1).trans rfl; clear hbox hg hb) | ((with_reducible refine gate_callee (f := 75) rfl ?_); refine goesL_ (some 8) rfl rfl Try.func75 (by kernel_rfl) rfl #[.slice A0 n0 c0, .int .i64 a] rfl (by (try simp only [List.map_toArray, List.map_cons, List.map_nil]); first | done | rfl) ?_; (with_reducible refine (heldFactS (.slice A0 n0 c0) p0 a _ HR0.out HV0.out ?k0 ?k1).mono ?_); (case k0 => have := H0.out; omega); (case k1 => (have := H1.out; omega)); rintro e w81 ⟨rfl, hb⟩; refine ⟨_, rfl, ?_⟩; have HBn := Aside0.mk (below_then HB.out (below_size HB.out) hb); clear HB; have HB := HBn; clear HBn; have BK_ := Aside0.mk (blk_below BK.out hb); clear BK; have BK := BK_; clear BK_; have hd0 : w81.cell? ⟨gb, 0, none⟩ = some (.slice A0 n0 c0) := (blk_cell BK.out 0).trans rfl; clear hc0; have hc0 := hd0; clear hd0; have hd1 : w81.cell? ⟨gb, 1, none⟩ = some (.int .i64 x1) := (blk_cell BK.out 1).trans rfl; clear hc1; have hc1 := hd1; clear hd1; clear hb))
 go_ret
 exact ⟨rfl, HB.out⟩
end Go.Proofs.Ytjglknoebaojgaa.LayI

namespace Go.Proofs.Ytjglknoebaojgaa.PLoop
open Go.RowKit Go.Proofs.YtjglknoebaojgaaW.PrintWords Go.Proofs.Ytjglknoebaojgaa.PB
set_option linter.unusedVariables false
variable {α σ β : Type}
theorem Ev.rpos {γ : Type} {c : Prop} [Decidable c] {f : Nat → Option γ} {r q : γ} (h : c) (k : Ev f r) : Ev f (if c then r else q) := by rw [if_pos h]; exact k
theorem Ev.rneg {γ : Type} {c : Prop} [Decidable c] {f : Nat → Option γ} {r q : γ} (h : ¬ c) (k : Ev f q) : Ev f (if c then r else q) := by rw [if_neg h]; exact k
def runL (stp : σ → α → σ ⊕ β) (fin : σ → β) : σ → List α → β
 | s, [] => fin s
 | s, x :: r => match stp s x with
  | .inl s' => runL stp fin s' r
  | .inr b => b
theorem loop_ev (xs : List α) (stp : σ → α → σ ⊕ β) (fin : σ → β) (F : Nat → σ → Int → Option β) (P : Nat → σ → Prop)
  (hP : ∀ i (h : i < xs.length) s, P i s → ∀ s', stp s xs[i] = .inl s' → P (i + 1) s')
  (hend : ∀ s, P xs.length s → Ev (fun k => F k s (xs.length : Int)) (fin s))
  (hcont : ∀ i (h : i < xs.length) s, P i s → ∀ s', stp s xs[i] = .inl s' → ∀ r, Ev (fun k => F k s' ((i + 1 : Nat) : Int)) r → Ev (fun k => F k s (i : Int)) r)
  (hexit : ∀ i (h : i < xs.length) s, P i s → ∀ b, stp s xs[i] = .inr b → Ev (fun k => F k s (i : Int)) b) (s0 : σ) (h0 : P 0 s0) : Ev (fun k => F k s0 0) (runL stp fin s0 xs) := by
 have key : ∀ (d i : Nat) (s : σ), i + d = xs.length → P i s → Ev (fun k => F k s (i : Int)) (runL stp fin s (xs.drop i)) := by
  intro d
  induction d with
  | zero =>
   intro i s hi hp
   have : i = xs.length := by omega
   subst this
   rw [List.drop_length, runL]
   exact hend s hp
  | succ d ih =>
   intro i s hi hp
   have hlt : i < xs.length := by omega
   rw [drop_cons hlt, runL]
   match hs : stp s xs[i] with
   | .inl s' =>
    simp only
    exact hcont i hlt s hp s' hs _ (ih (i + 1) s' (by omega) (hP i hlt s hp s' hs))
   | .inr b =>
    simp only
    exact hexit i hlt s hp b hs
 exact key xs.length 0 s0 (by omega) h0
/-- A run that only gathers. -/
theorem runL_fold (g : σ → α → σ) (fin : σ → β) : ∀ (xs : List α) (s : σ), runL (fun s x => (.inl (g s x) : σ ⊕ β)) fin s xs = fin (xs.foldl g s)
 | [], s => rfl
 | x :: r, s => by rw [runL]; exact runL_fold g fin r (g s x)
theorem foldl_snoc (f : α → β) : ∀ (xs : List α) (s : List β), xs.foldl (fun s x => s ++ [f x]) s = s ++ xs.map f
 | [], s => by simp
 | x :: r, s => by rw [List.foldl_cons, foldl_snoc f r]; simp
end Go.Proofs.Ytjglknoebaojgaa.PLoop

namespace Go.Proofs.Ytjglknoebaojgaa.PEqL
open Go.RowKit Go.Proofs.Ytjglknoebaojgaa.P Go.Proofs.YtjglknoebaojgaaW.PrintWords Go.Proofs.YtjglknoebaojgaaW.PrintLast Go.Proofs.Ytjglknoebaojgaa.PB Go.Proofs.Ytjglknoebaojgaa.PLoop
set_option linter.unusedVariables false
/-- Numbers compared, both ways of it. -/
theorem eq_loop (a b : List Int) (hl : a.length = b.length) (hb : a.length ≤ 1048576) (l : Nat → Int → Option Bool)
  (step : ∀ i, (h : i < a.length) → (h' : i < b.length) → ∀ r, Ev (fun k => l k ((i + 1 : Nat) : Int)) r → Ev (fun k => l k (i : Int)) (if a[i] = b[i] then r else false))
  (fin : Ev (fun k => l k ((a.length : Nat) : Int)) true) : Ev (fun k => l k 0) (decide (a = b)) := by
 have key : ∀ (d i : Nat), i + d = a.length → Ev (fun k => l k (i : Int)) (decide (a.drop i = b.drop i)) := by
  intro d
  induction d with
  | zero =>
   intro i hi
   have e : i = a.length := by omega
   subst e
   have h2 : b.drop a.length = [] := by rw [hl]; exact List.drop_length
   rw [List.drop_length, h2]
   exact fin
  | succ d ih =>
   intro i hi
   have hlt : i < a.length := by omega
   have hlt' : i < b.length := by omega
   have := step i hlt hlt' _ (ih (i + 1) (by omega))
   rw [drop_cons hlt, drop_cons hlt']
   by_cases h : a[i] = b[i]
   ·rw [if_pos h] at this
    simp only [List.cons.injEq, h, true_and]
    exact this
   ·rw [if_neg h] at this
    simp only [List.cons.injEq, h, false_and, decide_false]
    exact this
 have := key a.length 0 (by omega)
 simpa using this
theorem s_ints (a b : List Int) (ha : a.length ≤ 1048576) : Ev (fun k => spec_l2Ints.f k a b) (decide (a = b)) := by
 unfold spec_l2Ints.f
 by_cases h : a.length = b.length
 ·refine Ev.pos (by omega) (eq_loop a b h ha (fun k i => spec_l2Ints.l0 k a b i) ?_ ?_)
  ·intro i hi hi' r hr
   refine Ev.step (fun k => by rw [spec_l2Ints.l0]) (Ev.pos (by omega) (Ev.pos (by omega) (Ev.pos (by omega) ?_)))
   rw [rd_nat _ _ hi, rd_nat _ _ hi', inc (by omega)]
   by_cases he : a[i] = b[i]
   ·rw [if_pos he]; exact Ev.pos he hr
   ·rw [if_neg he]; exact Ev.neg he (Ev.const rfl)
  ·exact Ev.step (fun k => by rw [spec_l2Ints.l0]) (Ev.neg (by omega) (Ev.const rfl))
 ·rw [decide_eq_false (fun e => h (by rw [e]))]; exact Ev.neg (by omega) (Ev.const rfl)
theorem i_ints (a b : List Int) (ha : a.length ≤ 1048576) : Ev (fun k => slices_Equal_int_int.f k a b) (decide (a = b)) := by
 unfold slices_Equal_int_int.f
 by_cases h : a.length = b.length
 ·refine Ev.pos (by omega) (eq_loop a b h ha (fun k i => slices_Equal_int_int.l0 k a b (a.length : Int) i) ?_ ?_)
  ·intro i hi hi' r hr
   refine Ev.step (fun k => by rw [slices_Equal_int_int.l0]) (Ev.pos (by omega) (Ev.pos (by omega) (Ev.pos (by omega) (Ev.pos (by omega) ?_))))
   rw [rd_nat _ _ hi, rd_nat _ _ hi', inc (by omega)]
   by_cases he : a[i] = b[i]
   ·rw [if_pos he]; exact Ev.pos he hr
   ·rw [if_neg he]; exact Ev.neg he (Ev.const rfl)
  ·exact Ev.step (fun k => by rw [slices_Equal_int_int.l0]) (Ev.neg (by omega) (Ev.const rfl))
 ·rw [decide_eq_false (fun e => h (by rw [e]))]; exact Ev.neg (by omega) (Ev.const rfl)
end Go.Proofs.Ytjglknoebaojgaa.PEqL

namespace Go.Proofs.Ytjglknoebaojgaa.PIn
open Go.RowKit Go.Proofs.Ytjglknoebaojgaa.P Go.Proofs.YtjglknoebaojgaaW.PrintWords Go.Proofs.YtjglknoebaojgaaW.PrintLast Go.Proofs.Ytjglknoebaojgaa.PB
set_option linter.unusedVariables false

def inr (a lo hi : Int) : Bool := decide (lo ≤ a ∧ a ≤ hi)
theorem spec_in (a lo hi : Int) : spec_l1In.f a lo hi = some (inr a lo hi) := by
 unfold spec_l1In.f inr
 by_cases h : a ≥ lo
 ·rw [if_pos h]; by_cases h2 : a ≤ hi <;> simp [h2] <;> omega
 ·rw [if_neg h]; simp; omega
theorem impl_in (a lo hi : Int) : impl_within.f a lo hi = some (inr a lo hi) := by
 unfold impl_within.f inr
 by_cases h : a ≥ lo
 ·rw [if_pos h]; by_cases h2 : a ≤ hi <;> simp [h2] <;> omega
 ·rw [if_neg h]; simp; omega
end Go.Proofs.Ytjglknoebaojgaa.PIn

namespace Go.Proofs.Ytjglknoebaojgaa.PSchema
open Go.RowKit Go.Proofs.Ytjglknoebaojgaa.P Go.Proofs.YtjglknoebaojgaaW.PrintWords Go.Proofs.YtjglknoebaojgaaW.PrintLast Go.Proofs.Ytjglknoebaojgaa.PB Go.Proofs.Ytjglknoebaojgaa.PIn
set_option linter.unusedVariables false
def isSchema (l : List Int) : Bool := (l.all fun n => inr n 1 3) && inr l.length 1 4
theorem all_cons {α : Type} (p : α → Bool) (x : α) (r : List α) : (x :: r).all p = (p x && r.all p) := rfl
theorem spec_schema (l : List Int) (hl : l.length ≤ 1048576) : Ev (fun k => spec_IsSchema.f k l) (isSchema l) := by
 have loop : ∀ (d i : Nat), i + d = l.length → Ev (fun k => spec_IsSchema.l0 k (i : Int) l) (((l.drop i).all fun n => inr n 1 3) && inr l.length 1 4) := by
  intro d
  induction d with
  | zero =>
   intro i hi
   obtain rfl : i = l.length := by omega
   refine Ev.step (fun k => by rw [spec_IsSchema.l0]) (Ev.neg (by omega) (Ev.bindc (spec_in _ _ _) (Ev.const ?_)))
   simp
  | succ d ih =>
   intro i hi
   have hlt : i < l.length := by omega
   refine Ev.step (fun k => by rw [spec_IsSchema.l0]) (Ev.pos (by omega) (Ev.pos (by omega) ?_))
   rw [rd_nat _ _ hlt, inc (by omega), drop_cons hlt, all_cons]
   refine Ev.bindc (spec_in _ _ _) ?_
   cases h : inr l[i] 1 3 with
   | true => exact Ev.pos rfl (Ev.eq (ih (i + 1) (by omega)) rfl (by simp only [Bool.true_and]))
   | false => exact Ev.neg (by simp) (Ev.const rfl)
 exact Ev.eq (loop l.length 0 (by omega)) (by funext k; rw [spec_IsSchema.f]; rfl) (by simp [isSchema])
theorem impl_schema (l : List Int) (hl : l.length ≤ 1048576) : Ev (fun k => impl_IsSchema.f k l) (isSchema l) := by
 have loop : ∀ (d i : Nat), i + d = l.length → Ev (fun k => impl_IsSchema.l0 k l (l.length : Int) (i : Int) l) (((l.drop i).all fun n => inr n 1 3) && inr l.length 1 4) := by
  intro d
  induction d with
  | zero =>
   intro i hi
   obtain rfl : i = l.length := by omega
   refine Ev.step (fun k => by rw [impl_IsSchema.l0]) (Ev.neg (by omega) (Ev.bindc (impl_in _ _ _) (Ev.const ?_)))
   simp
  | succ d ih =>
   intro i hi
   have hlt : i < l.length := by omega
   refine Ev.step (fun k => by rw [impl_IsSchema.l0]) (Ev.pos (by omega) (Ev.pos (by omega) (Ev.pos (by omega) ?_)))
   rw [rd_nat _ _ hlt, inc (by omega), drop_cons hlt, all_cons]
   refine Ev.bindc (impl_in _ _ _) ?_
   cases h : inr l[i] 1 3 with
   | true => exact Ev.pos rfl (Ev.eq (ih (i + 1) (by omega)) rfl (by simp only [Bool.true_and]))
   | false => exact Ev.neg (by simp) (Ev.const rfl)
 exact Ev.eq (loop l.length 0 (by omega)) (by funext k; rw [impl_IsSchema.f]; rfl) (by simp [isSchema])
/-- A valid schema has a relation with so many arguments. -/
def takes (s : List Int) (rel n : Int) : Bool := isSchema s && (inr rel 0 (s.length - 1) && (rd s rel == n))
end Go.Proofs.Ytjglknoebaojgaa.PSchema

namespace Go.Proofs.Ytjglknoebaojgaa.PVals
open Go.RowKit Go.Proofs.Ytjglknoebaojgaa.P Go.Proofs.YtjglknoebaojgaaW.PrintWords Go.Proofs.YtjglknoebaojgaaW.PrintLast Go.Proofs.Ytjglknoebaojgaa.PB Go.Proofs.Ytjglknoebaojgaa.PIn
set_option linter.unusedVariables false
def vals (l : List Int) : Bool := l.all fun x => inr x 0 99
theorem values_loop (l : List Int) (hl : l.length ≤ 4611686018427387000) : ∀ (d i : Nat), i + d = l.length → Ev (fun k => impl_areValues.l0 k l (l.length : Int) (i : Int)) (vals (l.drop i)) := by
 intro d
 induction d with
 | zero =>
  intro i hi
  obtain rfl : i = l.length := by omega
  refine Ev.step (fun k => by rw [impl_areValues.l0]) (Ev.neg (by omega) (Ev.const ?_))
  simp [vals]
 | succ d ih =>
  intro i hi
  have hlt : i < l.length := by omega
  refine Ev.step (fun k => by rw [impl_areValues.l0]) (Ev.pos (by omega) (Ev.pos (by omega) (Ev.pos (by omega) ?_)))
  rw [rd_nat _ _ hlt, inc (by omega), drop_cons hlt]
  refine Ev.bindc (impl_in _ _ _) ?_
  by_cases h : inr l[i] 0 99 = true
  ·refine Ev.pos h (Ev.eq (ih (i + 1) (by omega)) rfl ?_)
   simp [vals, h, -List.getElem_cons_drop]
  ·refine Ev.neg h (Ev.const ?_)
   simp [vals, h, -List.getElem_cons_drop]
theorem values_ev (l : List Int) (hl : l.length ≤ 4611686018427387000) : Ev (fun k => impl_areValues.f k l) (vals l) :=
 Ev.eq (values_loop l hl l.length 0 (by omega)) (by funext k; rw [impl_areValues.f]; rfl) (by simp)
end Go.Proofs.Ytjglknoebaojgaa.PVals

namespace Go.Proofs.Ytjglknoebaojgaa.PDb
open Go.RowKit Go.Proofs.Ytjglknoebaojgaa.P Go.Proofs.YtjglknoebaojgaaW.PrintWords Go.Proofs.YtjglknoebaojgaaW.PrintLast Go.Proofs.Ytjglknoebaojgaa.PB Go.Proofs.Ytjglknoebaojgaa.PIn Go.Proofs.Ytjglknoebaojgaa.PSchema Go.Proofs.Ytjglknoebaojgaa.PVals
set_option linter.unusedVariables false
theorem impl_takes (s : List Int) (rel n : Int) (hs : s.length ≤ 1048576) : Ev (fun k => impl_Schema_takes.f k s rel n) (takes s rel n) := by
 unfold impl_Schema_takes.f takes
 refine Ev.bind (impl_schema s hs) ?_
 cases h : isSchema s with
 | false => exact Ev.neg (by simp) (Ev.const rfl)
 | true =>
  refine Ev.pos rfl (Ev.bindc (impl_in _ _ _) ?_)
  rw [w64 (by omega) (by omega)]
  cases h2 : inr rel 0 (s.length - 1) with
  | false => exact Ev.neg (by simp) (Ev.const rfl)
  | true =>
   have h2' : 0 ≤ rel ∧ rel ≤ s.length - 1 := by simpa only [inr, decide_eq_true_eq] using h2
   exact Ev.pos rfl (Ev.pos (by omega) (Ev.pos (by omega) (Ev.const rfl)))
def isFact (s : List Int) (rel : Int) (args : List Int) : Bool := takes s rel args.length && vals args
theorem impl_isFact (s : List Int) (rel : Int) (args : List Int) (hs : s.length ≤ 1048576) (ha : args.length ≤ 1048576) : Ev (fun k => impl_IsFact.f k s rel args) (isFact s rel args) := by
 unfold impl_IsFact.f isFact
 refine Ev.bind (impl_takes s rel _ hs) ?_
 cases h : takes s rel args.length with
 | false => exact Ev.neg (by simp) (Ev.const rfl)
 | true => exact Ev.pos rfl (Ev.bind (values_ev args (by omega)) (Ev.const rfl))
theorem spec_vals (rel : Int) (l : List Int) (hl : l.length ≤ 1048576) : Ev (fun k => spec_IsFact.l0 k 0 rel l) (vals l) := by
 have loop : ∀ (d i : Nat), i + d = l.length → Ev (fun k => spec_IsFact.l0 k (i : Int) rel l) (vals (l.drop i)) := by
  intro d
  induction d with
  | zero =>
   intro i hi
   obtain rfl : i = l.length := by omega
   rw [List.drop_length]
   show Ev _ true
   exact Ev.step (fun k => by rw [spec_IsFact.l0]) (Ev.neg (by omega) (Ev.const rfl))
  | succ d ih =>
   intro i hi
   have hlt : i < l.length := by omega
   refine Ev.step (fun k => by rw [spec_IsFact.l0]) (Ev.pos (by omega) (Ev.pos (by omega) ?_))
   rw [rd_nat _ _ hlt, inc (by omega), drop_cons hlt, vals, all_cons]
   refine Ev.bindc (spec_in _ _ _) ?_
   cases h : inr l[i] 0 99 with
   | true => exact Ev.pos rfl (Ev.eq (ih (i + 1) (by omega)) rfl (by simp only [Bool.true_and]; rfl))
   | false => exact Ev.neg (by simp) (Ev.const rfl)
 exact Ev.eq (loop l.length 0 (by omega)) rfl (by simp)
theorem spec_isFact (s : List Int) (rel : Int) (args : List Int) (hs : s.length ≤ 1048576) (ha : args.length ≤ 1048576) : Ev (fun k => spec_IsFact.f k s rel args) (isFact s rel args) := by
 unfold spec_IsFact.f isFact takes
 refine Ev.bind (spec_schema s hs) ?_
 have out : Ev (fun k => spec_IsFact.j0 k true rel args) false := Ev.step (fun k => by rw [spec_IsFact.j0]) (Ev.pos rfl (Ev.const rfl))
 cases h : isSchema s with
 | false => exact Ev.neg (by simp) out
 | true =>
  refine Ev.pos rfl (Ev.bindc (spec_in _ _ _) ?_)
  rw [w64 (by omega) (by omega)]
  cases h2 : inr rel 0 (s.length - 1) with
  | false => exact Ev.neg (by simp) out
  | true =>
   have h2' : 0 ≤ rel ∧ rel ≤ s.length - 1 := by simpa only [inr, decide_eq_true_eq] using h2
   refine Ev.pos rfl (Ev.pos (by omega) (Ev.pos (by omega) (Ev.step (fun k => by rw [spec_IsFact.j0]) ?_)))
   by_cases h3 : rd s rel = args.length
   ·refine Ev.neg (by simp; omega) (Ev.eq (spec_vals rel args ha) rfl ?_)
    rw [h3]; simp
   ·refine Ev.pos (by simp; omega) (Ev.const ?_)
    have e : (rd s rel == (args.length : Int)) = false := by simpa using h3
    rw [e]; rfl
end Go.Proofs.Ytjglknoebaojgaa.PDb

namespace Go.Proofs.Ytjglknoebaojgaa.PDb
open Go.RowKit Go.Proofs.Ytjglknoebaojgaa.P Go.Proofs.YtjglknoebaojgaaW.PrintWords Go.Proofs.YtjglknoebaojgaaW.PrintLast Go.Proofs.Ytjglknoebaojgaa.PB Go.Proofs.Ytjglknoebaojgaa.PIn Go.Proofs.Ytjglknoebaojgaa.PSchema Go.Proofs.Ytjglknoebaojgaa.PLess Go.Proofs.Ytjglknoebaojgaa.PVals
set_option linter.unusedVariables false
def cmpF (a b : S53) : Int := if a.f0 < b.f0 then -1 else if a.f0 > b.f0 then 1 else cmpL a.f1 b.f1
theorem impl_cmp (a b : S53) (ha : a.f1.length ≤ 1048576) (hb : b.f1.length ≤ 1048576) : Ev (fun k => impl_compareFacts.f k a.f0 a.f1 b.f0 b.f1) (cmpF a b) := by
 unfold impl_compareFacts.f cmpF
 by_cases h1 : a.f0 < b.f0
 ·simp only [if_pos h1]; exact Ev.const rfl
 ·by_cases h2 : a.f0 > b.f0
  ·simp only [if_neg h1, if_pos h2]; exact Ev.const rfl
  ·simp only [if_neg h1, if_neg h2]; exact Ev.bind (compare_ev _ _ ha hb) (Ev.const rfl)
theorem spec_less (a b : S53) (ha : a.f1.length ≤ 1048576) (hb : b.f1.length ≤ 1048576) : Ev (fun k => spec_l5Less.f k a.f0 a.f1 b.f0 b.f1) (decide (cmpF a b < 0)) := by
 unfold spec_l5Less.f cmpF
 by_cases h : a.f0 = b.f0
 ·refine Ev.pos h (Ev.bind (less_ev _ _ ha hb) (Ev.const ?_))
  rw [if_neg (by omega), if_neg (by omega)]
 ·refine Ev.neg h (Ev.const ?_)
  by_cases h1 : a.f0 < b.f0
  ·rw [if_pos h1, decide_eq_true h1]; rfl
  ·rw [if_neg h1, if_pos (by omega), decide_eq_false h1]; rfl
/-- From place i on: all facts are valid, and each comes behind the one ahead of it. -/
def dbFrom (s : List Int) (db : List S53) : Nat → Nat → Bool
 | _, 0 => isSchema s && decide (db.length ≤ 24)
 | i, d + 1 => isFact s (rd_T53 db i).f0 (rd_T53 db i).f1 && ((i == 0 || decide (cmpF (rd_T53 db ((i : Int) - 1)) (rd_T53 db i) < 0)) && dbFrom s db (i + 1) d)
def isDb (s : List Int) (db : List S53) : Bool := dbFrom s db 0 db.length
theorem rdF (l : List S53) (i : Int) (h0 : 0 ≤ i) (h : i < l.length) : rd_T53 l i ∈ l := by
 rw [rd_T53, List.getD_eq_getElem?_getD, List.getElem?_eq_getElem (by omega)]; exact List.getElem_mem _
theorem impl_db (s : List Int) (db : List S53) (hs : s.length ≤ 1048576) (hl : db.length ≤ 1048576) (ha : ∀ f ∈ db, f.f1.length ≤ 1048576) : Ev (fun k => impl_IsDatabase.f k s db) (isDb s db) := by
 have loop : ∀ (d i : Nat), i + d = db.length → Ev (fun k => impl_IsDatabase.l0 k db db (db.length : Int) (i : Int) s) (dbFrom s db i d) := by
  intro d
  induction d with
  | zero =>
   intro i hi
   refine Ev.step (fun k => by rw [impl_IsDatabase.l0]) (Ev.neg (by omega) (Ev.bind (impl_schema s hs) ?_))
   rw [dbFrom]
   cases isSchema s with
   | false => exact Ev.neg (by simp) (Ev.const rfl)
   | true => exact Ev.pos rfl (Ev.const (by simp; omega))
  | succ d ih =>
   intro i hi
   have hi1 := ha _ (rdF db i (by omega) (by omega))
   refine Ev.step (fun k => by rw [impl_IsDatabase.l0]) (Ev.pos (by omega) (Ev.pos (by omega) (Ev.pos (by omega) (Ev.bind (impl_isFact s _ _ hs hi1) ?_))))
   rw [dbFrom, inc (by omega)]
   cases isFact s (rd_T53 db i).f0 (rd_T53 db i).f1 with
   | false => exact Ev.neg (by simp) (Ev.const rfl)
   | true =>
    refine Ev.pos rfl ?_
    by_cases h0 : i = 0
    ·subst h0
     exact Ev.neg (by omega) (Ev.eq (ih (0 + 1) (by omega)) rfl (by simp))
    ·rw [w64 (by omega) (by omega)]
     have hi2 := ha _ (rdF db ((i : Int) - 1) (by omega) (by omega))
     refine Ev.pos (by omega) (Ev.pos (by omega) (Ev.pos (by omega) (Ev.bind (impl_cmp _ _ hi2 hi1) ?_)))
     have e : (i == 0) = false := by simpa using h0
     rw [e]
     by_cases h3 : cmpF (rd_T53 db ((i : Int) - 1)) (rd_T53 db i) < 0
     ·refine Ev.neg (by omega) (Ev.eq (ih (i + 1) (by omega)) rfl ?_)
      rw [decide_eq_true h3]; simp only [Bool.true_and, Bool.false_or]
     ·refine Ev.pos (by omega) (Ev.const ?_)
      rw [decide_eq_false h3]; rfl
 exact Ev.eq (loop db.length 0 (by omega)) (by funext k; rw [impl_IsDatabase.f]; rfl) rfl
theorem spec_db (s : List Int) (db : List S53) (hs : s.length ≤ 1048576) (hl : db.length ≤ 1048576) (ha : ∀ f ∈ db, f.f1.length ≤ 1048576) : Ev (fun k => spec_IsDatabase.f k s db) (isDb s db) := by
 have loop : ∀ (d i : Nat), i + d = db.length → Ev (fun k => spec_IsDatabase.l0 k db (i : Int) s) (dbFrom s db i d) := by
  intro d
  induction d with
  | zero =>
   intro i hi
   refine Ev.step (fun k => by rw [spec_IsDatabase.l0]) (Ev.neg (by omega) (Ev.bind (spec_schema s hs) ?_))
   rw [dbFrom]
   cases isSchema s with
   | false => exact Ev.neg (by simp) (Ev.const rfl)
   | true => exact Ev.pos rfl (Ev.const (by simp; omega))
  | succ d ih =>
   intro i hi
   have hi1 := ha _ (rdF db i (by omega) (by omega))
   refine Ev.step (fun k => by rw [spec_IsDatabase.l0]) (Ev.pos (by omega) (Ev.pos (by omega) (Ev.bind (spec_isFact s _ _ hs hi1) ?_)))
   rw [dbFrom, inc (by omega)]
   cases isFact s (rd_T53 db i).f0 (rd_T53 db i).f1 with
   | false => exact Ev.neg (by simp) (Ev.const rfl)
   | true =>
    refine Ev.pos rfl ?_
    by_cases h0 : i = 0
    ·subst h0
     exact Ev.neg (by omega) (Ev.eq (ih (0 + 1) (by omega)) rfl (by simp))
    ·rw [w64 (by omega) (by omega)]
     have hi2 := ha _ (rdF db ((i : Int) - 1) (by omega) (by omega))
     refine Ev.pos (by omega) (Ev.pos (by omega) (Ev.pos (by omega) (Ev.bind (spec_less _ _ hi2 hi1) ?_)))
     have e : (i == 0) = false := by simpa using h0
     rw [e]
     by_cases h3 : cmpF (rd_T53 db ((i : Int) - 1)) (rd_T53 db i) < 0
     ·refine Ev.pos (decide_eq_true h3) (Ev.eq (ih (i + 1) (by omega)) rfl ?_)
      rw [decide_eq_true h3]; simp only [Bool.true_and, Bool.false_or]
     ·refine Ev.neg (by simpa using h3) (Ev.const ?_)
      rw [decide_eq_false h3]; rfl
 exact Ev.eq (loop db.length 0 (by omega)) (by funext k; rw [spec_IsDatabase.f]; rfl) rfl
def isSource (s : List Int) (db : List S53) (v : Int) : Bool := isDb s db && inr v 0 1000
theorem impl_source (s : List Int) (db : List S53) (v : Int) (hs : s.length ≤ 1048576) (hl : db.length ≤ 1048576) (ha : ∀ f ∈ db, f.f1.length ≤ 1048576) : Ev (fun k => impl_IsSource.f k s db v) (isSource s db v) := by
 unfold impl_IsSource.f isSource
 refine Ev.bind (impl_db s db hs hl ha) ?_
 cases isDb s db with
 | false => exact Ev.neg (by simp) (Ev.const rfl)
 | true => exact Ev.pos rfl (Ev.bindc (impl_in _ _ _) (Ev.const rfl))
theorem spec_source (s : List Int) (db : List S53) (v : Int) (hs : s.length ≤ 1048576) (hl : db.length ≤ 1048576) (ha : ∀ f ∈ db, f.f1.length ≤ 1048576) : Ev (fun k => spec_IsSource.f k s db v) (isSource s db v) := by
 unfold spec_IsSource.f isSource
 refine Ev.bind (spec_db s db hs hl ha) ?_
 cases isDb s db with
 | false => exact Ev.neg (by simp) (Ev.const rfl)
 | true => exact Ev.pos rfl (Ev.bindc (spec_in _ _ _) (Ev.const rfl))
end Go.Proofs.Ytjglknoebaojgaa.PDb

namespace Go.Proofs.Ytjglknoebaojgaa.PFac
open Go.RowKit Go.Proofs.Ytjglknoebaojgaa.P Go.Proofs.YtjglknoebaojgaaW.PrintWords Go.Proofs.YtjglknoebaojgaaW.PrintLast Go.Proofs.Ytjglknoebaojgaa.PB Go.Proofs.Ytjglknoebaojgaa.PLoop Go.Proofs.Ytjglknoebaojgaa.PEqL Go.Proofs.Ytjglknoebaojgaa.PIn Go.Proofs.Ytjglknoebaojgaa.PDb
set_option linter.unusedVariables false
abbrev F := S53
def okF (f : F) : Prop := f.f1.length ≤ 1048576
theorem rdn (l : List F) (i : Nat) (h : i < l.length) : rd_T53 l (i : Int) = l[i] := by rw [rd_T53]; exact getD_nat _ _ _ h
theorem fact_eq (a b : F) : a = b ↔ a.f0 = b.f0 ∧ a.f1 = b.f1 := by
 constructor
 ·rintro rfl; exact ⟨rfl, rfl⟩
 ·cases a; cases b; rintro ⟨h1, h2⟩; simp only at h1 h2; rw [h1, h2]
def eqF (a b : F) : Bool := decide (a.f0 = b.f0 ∧ a.f1 = b.f1)
theorem eqF_iff (a b : F) : eqF a b = true ↔ a = b := by rw [eqF, decide_eq_true_eq, fact_eq]
theorem ints_copy (l : List Int) (hl : l.length ≤ 1048576) : impl_copyInts.f l = some l := by
 unfold impl_copyInts.f
 first
  | rfl
  | (simp; omega)
  | (rw [if_pos (by simp; omega)]; simp)
theorem s_copy (f : F) (h : okF f) : spec_l5Copy.f f.f0 f.f1 = some (f.f0, f.f1) := by
 have := h
 unfold okF at this
 unfold spec_l5Copy.f
 simp
 omega
theorem i_copy (f : F) (h : okF f) : impl_copyFact.f f.f0 f.f1 = some (f.f0, f.f1) := by
 unfold impl_copyFact.f
 rw [ints_copy _ h]; rfl
theorem s_same (a b : F) (h : okF a) : Ev (fun k => spec_l5Same.f k a.f0 a.f1 b.f0 b.f1) (eqF a b) := by
 unfold spec_l5Same.f eqF
 by_cases h1 : a.f0 = b.f0
 ·refine Ev.pos h1 (Ev.bind (s_ints _ _ h) (Ev.const ?_))
  simp only [h1, true_and]
 ·refine Ev.neg h1 (Ev.const ?_)
  simp only [h1, false_and, decide_false]
theorem i_same (a b : F) (h : okF a) : Ev (fun k => impl_equalFact.f k a.f0 a.f1 b.f0 b.f1) (eqF a b) := by
 unfold impl_equalFact.f eqF
 by_cases h1 : a.f0 = b.f0
 ·refine Ev.pos h1 (Ev.bind (i_ints _ _ h) (Ev.const ?_))
  simp only [h1, true_and]
 ·refine Ev.neg h1 (Ev.const ?_)
  simp only [h1, false_and, decide_false]
section
variable (db : List F) (hl : db.length ≤ 1048576) (ho : ∀ x ∈ db, okF x)
include hl ho
theorem s_all : Ev (fun k => spec_l5All.f k db) db := by
 have h := loop_ev db (fun (s : List F) x => (.inl (s ++ [x]) : List F ⊕ List F)) id (fun k s i => spec_l5All.l0 k db s i) (fun i s => s.length = i)
  (fun i h s hp s' e => by cases e; simp [hp])
  (fun s hp => by refine Ev.step (fun k => by rw [spec_l5All.l0]) ?_; exact Ev.neg (by omega) (Ev.const rfl))
  (fun i h s hp s' e r hr => by
   cases e
   refine Ev.step (fun k => by rw [spec_l5All.l0]) (Ev.pos (by omega) (Ev.pos (by omega) ?_))
   rw [rdn _ _ h, inc (by omega)]
   exact Ev.bindc (s_copy _ (ho _ (List.getElem_mem h))) (Ev.pos (by omega) hr))
  (fun i h s hp b e => by cases e) [] rfl
 rw [runL_fold, show (fun (s : List F) x => s ++ [x]) = (fun s x => s ++ [id x]) from rfl, foldl_snoc] at h
 have h2 : Ev (fun k => spec_l5All.l0 k db [] 0) db := by simpa using h
 exact h2
theorem i_all : Ev (fun k => impl_copyFacts.f k db) db := by
 have h := loop_ev db (fun (s : List F) x => (.inl (s ++ [x]) : List F ⊕ List F)) id (fun k s i => impl_copyFacts.l0 k s db (db.length : Int) i) (fun i s => s.length = i)
  (fun i h s hp s' e => by cases e; simp [hp])
  (fun s hp => by refine Ev.step (fun k => by rw [impl_copyFacts.l0]) ?_; exact Ev.neg (by omega) (Ev.const rfl))
  (fun i h s hp s' e r hr => by
   cases e
   refine Ev.step (fun k => by rw [impl_copyFacts.l0]) (Ev.pos (by omega) (Ev.pos (by omega) (Ev.pos (by omega) ?_)))
   rw [rdn _ _ h, inc (by omega)]
   exact Ev.bindc (i_copy _ (ho _ (List.getElem_mem h))) (Ev.pos (by omega) hr))
  (fun i h s hp b e => by cases e) [] rfl
 rw [runL_fold, show (fun (s : List F) x => s ++ [x]) = (fun s x => s ++ [id x]) from rfl, foldl_snoc] at h
 have h2 : Ev (fun k => impl_copyFacts.l0 k [] db (db.length : Int) 0) db := by simpa using h
 exact h2
def has (db : List F) (f : F) : Bool := db.any fun x => eqF x f
omit hl ho in
theorem run_has (f : F) : ∀ db : List F, runL (fun (_ : Unit) x => if eqF x f = true then (.inr true : Unit ⊕ Bool) else .inl ()) (fun _ => false) () db = has db f
 | [] => rfl
 | x :: r => by
  rw [runL, has, List.any_cons]
  by_cases h : eqF x f = true
  ·simp [h]
  ·have := run_has f r
   simpa [h, has] using this
theorem s_has (f : F) : Ev (fun k => spec_HasFact.f k db f.f0 f.f1) (has db f) := by
 rw [← run_has]
 refine loop_ev db (fun (_ : Unit) x => if eqF x f = true then (.inr true : Unit ⊕ Bool) else .inl ()) (fun _ => false) (fun k _ i => spec_HasFact.l0 k db i f.f0 f.f1) (fun _ _ => True) (fun _ _ _ _ _ _ => trivial)
  (fun s hp => by refine Ev.step (fun k => by rw [spec_HasFact.l0]) ?_; exact Ev.neg (by omega) (Ev.const rfl)) (fun i h s hp s' e r hr => ?_) (fun i h s hp b e => ?_) () trivial
 ·refine Ev.step (fun k => by rw [spec_HasFact.l0]) (Ev.pos (by omega) (Ev.pos (by omega) ?_))
  rw [rdn _ _ h, inc (by omega)]
  refine Ev.bind (s_same _ _ (ho _ (List.getElem_mem h))) ?_
  by_cases he : eqF db[i] f = true
  ·rw [if_pos he] at e; cases e
  ·exact Ev.neg he hr
 ·refine Ev.step (fun k => by rw [spec_HasFact.l0]) (Ev.pos (by omega) (Ev.pos (by omega) ?_))
  rw [rdn _ _ h]
  refine Ev.bind (s_same _ _ (ho _ (List.getElem_mem h))) ?_
  by_cases he : eqF db[i] f = true
  ·rw [if_pos he] at e; cases e; exact Ev.pos he (Ev.const rfl)
  ·rw [if_neg he] at e; cases e
theorem i_has (f : F) : Ev (fun k => impl_HasFact.f k db f.f0 f.f1) (has db f) := by
 rw [← run_has]
 refine loop_ev db (fun (_ : Unit) x => if eqF x f = true then (.inr true : Unit ⊕ Bool) else .inl ()) (fun _ => false) (fun k _ i => impl_HasFact.l0 k db (db.length : Int) i f.f0 f.f1) (fun _ _ => True) (fun _ _ _ _ _ _ => trivial)
  (fun s hp => by refine Ev.step (fun k => by rw [impl_HasFact.l0]) ?_; exact Ev.neg (by omega) (Ev.const rfl)) (fun i h s hp s' e r hr => ?_) (fun i h s hp b e => ?_) () trivial
 ·refine Ev.step (fun k => by rw [impl_HasFact.l0]) (Ev.pos (by omega) (Ev.pos (by omega) (Ev.pos (by omega) ?_)))
  rw [rdn _ _ h, inc (by omega)]
  refine Ev.bind (i_same _ _ (ho _ (List.getElem_mem h))) ?_
  by_cases he : eqF db[i] f = true
  ·rw [if_pos he] at e; cases e
  ·exact Ev.neg he hr
 ·refine Ev.step (fun k => by rw [impl_HasFact.l0]) (Ev.pos (by omega) (Ev.pos (by omega) (Ev.pos (by omega) ?_)))
  rw [rdn _ _ h]
  refine Ev.bind (i_same _ _ (ho _ (List.getElem_mem h))) ?_
  by_cases he : eqF db[i] f = true
  ·rw [if_pos he] at e; cases e; exact Ev.pos he (Ev.const rfl)
  ·rw [if_neg he] at e; cases e
def remS (s db : List F) (f : F) : List F := db.foldl (fun s x => if eqF x f = true then s else s ++ [x]) s
theorem s_rem (f : F) : Ev (fun k => spec_RemoveFact.l0 k db [] 0 f.f0 f.f1) (remS [] db f, true) := by
 have h := loop_ev db (fun (s : List F) x => (.inl (if eqF x f = true then s else s ++ [x]) : List F ⊕ (List F × Bool))) (fun s => (s, true)) (fun k s i => spec_RemoveFact.l0 k db s i f.f0 f.f1) (fun i s => s.length ≤ i)
  (fun i h s hp s' e => by cases e; split <;> first | omega | (simp; omega))
  (fun s hp => by refine Ev.step (fun k => by rw [spec_RemoveFact.l0]) ?_; exact Ev.neg (by omega) (Ev.const rfl))
  (fun i h s hp s' e r hr => by
   cases e
   refine Ev.step (fun k => by rw [spec_RemoveFact.l0]) (Ev.pos (by omega) (Ev.pos (by omega) ?_))
   rw [rdn _ _ h, inc (by omega)]
   refine Ev.bind (s_same _ _ (ho _ (List.getElem_mem h))) ?_
   by_cases he : eqF db[i] f = true
   ·rw [if_pos he] at hr; exact Ev.pos he hr
   ·rw [if_neg he] at hr; exact Ev.neg he (Ev.bindc (s_copy _ (ho _ (List.getElem_mem h))) (Ev.pos (by omega) hr)))
  (fun i h s hp b e => by cases e) [] (Nat.le_refl _)
 rwa [runL_fold] at h
theorem i_rem (f : F) : Ev (fun k => impl_RemoveFact.l0 k [] db (db.length : Int) 0 f.f0 f.f1) (remS [] db f, true) := by
 have h := loop_ev db (fun (s : List F) x => (.inl (if eqF x f = true then s else s ++ [x]) : List F ⊕ (List F × Bool))) (fun s => (s, true)) (fun k s i => impl_RemoveFact.l0 k s db (db.length : Int) i f.f0 f.f1) (fun i s => s.length ≤ i)
  (fun i h s hp s' e => by cases e; split <;> first | omega | (simp; omega))
  (fun s hp => by refine Ev.step (fun k => by rw [impl_RemoveFact.l0]) ?_; exact Ev.neg (by omega) (Ev.const rfl))
  (fun i h s hp s' e r hr => by
   cases e
   refine Ev.step (fun k => by rw [impl_RemoveFact.l0]) (Ev.pos (by omega) (Ev.pos (by omega) (Ev.pos (by omega) ?_)))
   rw [rdn _ _ h, inc (by omega)]
   refine Ev.bind (i_same _ _ (ho _ (List.getElem_mem h))) ?_
   by_cases he : eqF db[i] f = true
   ·rw [if_pos he] at hr; exact Ev.pos he hr
   ·rw [if_neg he] at hr; exact Ev.neg he (Ev.bindc (i_copy _ (ho _ (List.getElem_mem h))) (Ev.pos (by omega) hr)))
  (fun i h s hp b e => by cases e) [] (Nat.le_refl _)
 rwa [runL_fold] at h
def remR (s : List Int) (db : List F) (f : F) : List F × Bool := if isDb s db = true then (if has db f = true then (remS [] db f, true) else (db, false)) else (db, false)
theorem s_remove (s : List Int) (hs : s.length ≤ 1048576) (f : F) : Ev (fun k => spec_RemoveFact.f k s db f.f0 f.f1) (remR s db f) := by
 unfold spec_RemoveFact.f remR
 refine Ev.bind (spec_db s db hs hl ho) ?_
 by_cases h1 : isDb s db = true
 ·rw [if_pos h1]
  refine Ev.pos h1 (Ev.bind (s_has db hl ho f) ?_)
  by_cases h2 : has db f = true
  ·rw [if_pos h2, h2]
   refine Ev.step (fun k => by rw [spec_RemoveFact.j0]) ?_
   exact Ev.neg (by simp) (s_rem db hl ho f)
  ·rw [if_neg h2, Bool.eq_false_iff.2 h2]
   refine Ev.step (fun k => by rw [spec_RemoveFact.j0]) ?_
   exact Ev.pos (by simp) (Ev.bind (s_all db hl ho) (Ev.const rfl))
 ·rw [if_neg h1]
  refine Ev.neg h1 (Ev.step (fun k => by rw [spec_RemoveFact.j0]) ?_)
  exact Ev.pos rfl (Ev.bind (s_all db hl ho) (Ev.const rfl))
theorem i_remove (s : List Int) (hs : s.length ≤ 1048576) (f : F) : Ev (fun k => impl_RemoveFact.f k s db f.f0 f.f1) (remR s db f) := by
 unfold impl_RemoveFact.f remR
 refine Ev.bind (impl_db s db hs hl ho) ?_
 by_cases h1 : isDb s db = true
 ·rw [if_pos h1]
  refine Ev.pos h1 (Ev.bind (i_has db hl ho f) ?_)
  by_cases h2 : has db f = true
  ·rw [if_pos h2, h2]
   refine Ev.step (fun k => by rw [impl_RemoveFact.j0]) ?_
   exact Ev.neg (by simp) (i_rem db hl ho f)
  ·rw [if_neg h2, Bool.eq_false_iff.2 h2]
   refine Ev.step (fun k => by rw [impl_RemoveFact.j0]) ?_
   exact Ev.pos (by simp) (Ev.bind (i_all db hl ho) (Ev.const rfl))
 ·rw [if_neg h1]
  refine Ev.neg h1 (Ev.step (fun k => by rw [impl_RemoveFact.j0]) ?_)
  exact Ev.pos rfl (Ev.bind (i_all db hl ho) (Ev.const rfl))
end
end Go.Proofs.Ytjglknoebaojgaa.PFac

namespace Go.Proofs.Ytjglknoebaojgaa.PApp
open Go.RowKit Go.Proofs.Ytjglknoebaojgaa.P Go.Proofs.YtjglknoebaojgaaW.PrintWords Go.Proofs.YtjglknoebaojgaaW.PrintLast Go.Proofs.Ytjglknoebaojgaa.PB Go.Proofs.Ytjglknoebaojgaa.PLoop Go.Proofs.Ytjglknoebaojgaa.PEqL Go.Proofs.Ytjglknoebaojgaa.PIn Go.Proofs.Ytjglknoebaojgaa.PDb Go.Proofs.Ytjglknoebaojgaa.PFac
set_option linter.unusedVariables false
/-- What a database is. -/
theorem db_from {s : List Int} {db : List F} : ∀ (d i : Nat), i + d = db.length → dbFrom s db i d = true → (∀ j (h : j < db.length), i ≤ j → isFact s db[j].f0 db[j].f1 = true) ∧ (∀ j (h : j + 1 < db.length), i ≤ j + 1 → 0 < j + 1 → cmpF db[j] db[j + 1] < 0) ∧ db.length ≤ 24
 | 0, i, hi, h => by
  rw [dbFrom, Bool.and_eq_true, decide_eq_true_eq] at h
  exact ⟨fun j hj hij => by omega, fun j hj hij => by omega, h.2⟩
 | d + 1, i, hi, h => by
  have hlt : i < db.length := by omega
  rw [dbFrom, Bool.and_eq_true, Bool.and_eq_true, Bool.or_eq_true, decide_eq_true_eq] at h
  obtain ⟨h1, h2, h3⟩ := h
  obtain ⟨k1, k2, k3⟩ := db_from d (i + 1) (by omega) h3
  rw [rdn _ _ hlt] at h1 h2
  refine ⟨fun j hj hij => ?_, fun j hj hij hp => ?_, k3⟩
  ·by_cases e : j = i
   ·subst e; exact h1
   ·exact k1 j hj (by omega)
  ·by_cases e : j + 1 = i
   ·subst e
    rcases h2 with h2 | h2
    ·simp at h2
    ·have e2 : (((j + 1 : Nat) : Int) - 1) = (j : Int) := by omega
     rw [e2, rdn _ _ (by omega)] at h2
     exact h2
   ·exact k2 j hj (by omega) hp
theorem lt_trans {a b c : F} (h1 : cmpF a b < 0) (h2 : cmpF b c < 0) : cmpF a c < 0 := by
 have := PCmp.swoF.trans a b c (by rw [PCmp.lt_dec]; exact decide_eq_true h1) (by rw [PCmp.lt_dec]; exact decide_eq_true h2)
 rw [PCmp.lt_dec, decide_eq_true_eq] at this
 exact this
theorem lt_irrefl (a : F) : ¬ cmpF a a < 0 := by
 have := PCmp.swoF.irrefl a
 rw [PCmp.lt_dec, decide_eq_false_iff_not] at this
 exact this
theorem pairwise_of_adj : ∀ (db : List F), (∀ j (h : j + 1 < db.length), cmpF db[j] db[j + 1] < 0) → db.Pairwise fun a b => cmpF a b < 0
 | [], _ => List.Pairwise.nil
 | [x], _ => by simp
 | x :: y :: r, h => by
  have ih := pairwise_of_adj (y :: r) (fun j hj => by have := h (j + 1) (by simpa using hj); simpa using this)
  have h0 : cmpF x y < 0 := h 0 (by simp)
  refine List.Pairwise.cons (fun z hz => ?_) ih
  rcases List.mem_cons.1 hz with rfl | hz
  ·exact h0
  ·exact lt_trans h0 ((List.pairwise_cons.1 ih).1 z hz)
theorem db_sorted {s : List Int} {db : List F} (h : isDb s db = true) : (db.Pairwise fun a b => cmpF a b < 0) ∧ db.length ≤ 24 ∧ ∀ x ∈ db, isFact s x.f0 x.f1 = true := by
 obtain ⟨h1, h2, h3⟩ := db_from (s := s) db.length 0 (by omega) h
 refine ⟨pairwise_of_adj db (fun j hj => h2 j hj (by omega) (by omega)), h3, fun x hx => ?_⟩
 obtain ⟨j, hj, rfl⟩ := List.getElem_of_mem hx
 exact h1 j hj (Nat.zero_le _)
def putL (f : F) : List F → List F
 | [] => [f]
 | x :: r => if cmpF x f < 0 then x :: putL f r else (if eqF x f = true then x :: r else f :: x :: r)
theorem putL_mem {f z : F} : ∀ {db : List F}, z ∈ putL f db → z = f ∨ z ∈ db
 | [], h => by simp [putL] at h; exact .inl h
 | x :: r, h => by
  rw [putL] at h
  split at h
  ·rcases List.mem_cons.1 h with rfl | h
   ·exact .inr (by simp)
   ·exact (putL_mem h).imp id (fun h => by simp [h])
  ·split at h
   ·exact .inr h
   ·rcases List.mem_cons.1 h with rfl | h
    ·exact .inl rfl
    ·exact .inr h
theorem putL_sorted {f : F} : ∀ {db : List F}, (db.Pairwise fun a b => cmpF a b < 0) → (putL f db).Pairwise fun a b => cmpF a b < 0
 | [], _ => by simp [putL]
 | x :: r, h => by
  obtain ⟨h1, h2⟩ := List.pairwise_cons.1 h
  rw [putL]
  split
  ·rename_i hx
   refine List.Pairwise.cons (fun z hz => ?_) (putL_sorted h2)
   rcases putL_mem hz with rfl | hz
   ·exact hx
   ·exact h1 z hz
  ·rename_i hx
   split
   ·exact h
   ·rename_i he
    have hf : cmpF f x < 0 := by
     by_cases h3 : cmpF f x < 0
     ·exact h3
     ·exact absurd ((eqF_iff x f).2 (PCmp.antiF x f h3 hx)) he
    refine List.Pairwise.cons (fun z hz => ?_) h
    rcases List.mem_cons.1 hz with rfl | hz
    ·exact hf
    ·exact lt_trans hf (h1 z hz)
theorem putL_perm {f : F} : ∀ {db : List F}, has db f = false → (putL f db).Perm (f :: db)
 | [], _ => List.Perm.refl _
 | x :: r, h => by
  rw [has, List.any_cons, Bool.or_eq_false_iff] at h
  rw [putL]
  split
  ·exact (List.Perm.cons x (putL_perm h.2)).trans (List.Perm.swap f x r)
  ·rw [if_neg (by rw [h.1]; simp)]
theorem putL_srt {f : F} {db : List F} (hs : db.Pairwise fun a b => cmpF a b < 0) (hf : has db f = false) : PCmp.srt PCmp.cmpF (db ++ [f]) = putL f db := by
 symm
 refine PCmp.srt_eq PCmp.swoF (fun a b _ _ => PCmp.antiF a b) ((putL_perm hf).trans ?_) ((putL_sorted hs).imp fun {a b} h h2 => lt_irrefl a (lt_trans h h2))
 exact (List.perm_append_singleton f db).symm
/-- The reference's loop. -/
theorem s_put (db : List F) (hl : db.length ≤ 1048576) (ho : ∀ x ∈ db, okF x) (f : F) (hf : okF f) : Ev (fun k => spec_l5Put.f k db f.f0 f.f1) (putL f db) := by
 have h := loop_ev db (fun (s : List F × Bool) x => (.inl (if s.2 = true then (s.1 ++ [x], true) else (if cmpF x f < 0 then (s.1 ++ [x], false) else (if eqF x f = true then (s.1 ++ [x], true) else (s.1 ++ [f] ++ [x], true)))) : (List F × Bool) ⊕ List F)) (fun s => if s.2 = true then s.1 else s.1 ++ [f])
  (fun k s i => spec_l5Put.l0 k db s.1 s.2 i f.f0 f.f1) (fun i s => s.1.length ≤ 2 * i)
  (fun i h s hp s' e => by
   cases e
   split
   ·simp; omega
   ·split
    ·simp; omega
    ·split
     ·simp; omega
     ·simp; omega)
  (fun s hp => by
   refine Ev.step (fun k => by rw [spec_l5Put.l0]) ?_
   refine Ev.neg (by omega) ?_
   by_cases h2 : s.2 = true
   ·have e : (if s.2 = true then s.1 else s.1 ++ [f]) = s.1 := if_pos h2
    rw [e]; exact Ev.pos h2 (Ev.const rfl)
   ·have e : (if s.2 = true then s.1 else s.1 ++ [f]) = s.1 ++ [f] := if_neg h2
    rw [e]; exact Ev.neg h2 (Ev.bindc (s_copy f hf) (Ev.pos (by omega) (Ev.const rfl))))
  (fun i h s hp s' e r hr => by
   cases e
   have hx := ho _ (List.getElem_mem h)
   refine Ev.step (fun k => by rw [spec_l5Put.l0]) (Ev.pos (by omega) ?_)
   by_cases h2 : s.2 = true
   ·rw [if_pos h2] at hr
    refine Ev.pos h2 ?_
    refine Ev.step (fun k => by rw [spec_l5Put.j1]) ?_
    refine Ev.neg (by simp) (Ev.pos (by omega) (Ev.pos (by omega) ?_))
    rw [rdn _ _ h, inc (by omega), h2]
    exact Ev.bindc (s_copy _ hx) (Ev.pos (by omega) hr)
   ·rw [if_neg h2] at hr
    refine Ev.neg h2 (Ev.pos (by omega) ?_)
    have h3 : s.2 = false := Bool.eq_false_iff.2 h2
    rw [rdn _ _ h, h3]
    refine Ev.bind (spec_less _ _ hx hf) ?_
    by_cases hc : cmpF db[i] f < 0
    ·rw [if_pos hc] at hr
     rw [decide_eq_true hc]
     refine Ev.step (fun k => by rw [spec_l5Put.j1]) ?_
     refine Ev.neg (by simp) (Ev.pos (by omega) (Ev.pos (by omega) ?_))
     rw [rdn _ _ h, inc (by omega)]
     exact Ev.bindc (s_copy _ hx) (Ev.pos (by omega) hr)
    ·rw [if_neg hc] at hr
     rw [decide_eq_false hc]
     refine Ev.step (fun k => by rw [spec_l5Put.j1]) ?_
     refine Ev.pos (by simp) (Ev.pos (by omega) (Ev.pos (by omega) ?_))
     rw [rdn _ _ h, inc (by omega)]
     refine Ev.bind (s_same _ _ hx) ?_
     by_cases he : eqF db[i] f = true
     ·rw [if_pos he] at hr
      exact Ev.pos he (Ev.bindc (s_copy _ hx) (Ev.pos (by omega) hr))
     ·rw [if_neg he] at hr
      exact Ev.neg he (Ev.bindc (s_copy _ hf) (Ev.pos (by omega) (Ev.bindc rfl (Ev.bindc (s_copy _ hx) (Ev.pos (by simp; omega) hr))))))
  (fun i h s hp b e => by cases e) ([], false) (Nat.le_refl _)
 rw [runL_fold] at h
 have hd : ∀ (db s : List F), db.foldl (fun (s : List F × Bool) x => if s.2 = true then (s.1 ++ [x], true) else (if cmpF x f < 0 then (s.1 ++ [x], false) else (if eqF x f = true then (s.1 ++ [x], true) else (s.1 ++ [f] ++ [x], true)))) (s, true) = (s ++ db, true) := by
  intro db
  induction db with
  | nil => intro s; simp
  | cons x r ih => intro s; rw [List.foldl_cons, if_pos rfl, ih]; simp
 have hg : ∀ (db s : List F), (fun s : List F × Bool => if s.2 = true then s.1 else s.1 ++ [f]) (db.foldl (fun (s : List F × Bool) x => if s.2 = true then (s.1 ++ [x], true) else (if cmpF x f < 0 then (s.1 ++ [x], false) else (if eqF x f = true then (s.1 ++ [x], true) else (s.1 ++ [f] ++ [x], true)))) (s, false)) = s ++ putL f db := by
  intro db
  induction db with
  | nil => intro s; simp [putL]
  | cons x r ih =>
   intro s
   rw [List.foldl_cons, if_neg (by simp), putL]
   by_cases hc : cmpF x f < 0
   ·rw [if_pos hc, if_pos hc, ih]; simp
   ·rw [if_neg hc, if_neg hc]
    by_cases he : eqF x f = true
    ·rw [if_pos he, if_pos he, hd]; simp
    ·rw [if_neg he, if_neg he, hd]; simp
 have h2 := hg db []
 dsimp only at h2
 rw [List.nil_append] at h2
 rw [h2] at h
 exact h
def addR (s : List Int) (db : List F) (f : F) : List F × Bool := if isDb s db = true then (if isFact s f.f0 f.f1 = true then (if has db f = true then (db, false) else (if (db.length : Int) ≥ 24 then (db, false) else (putL f db, true))) else (db, false)) else (db, false)
section
variable (s : List Int) (db : List F) (f : F) (hs : s.length ≤ 1048576) (hl : db.length ≤ 1048576) (ho : ∀ x ∈ db, okF x) (hf : okF f)
include hs hl ho hf
theorem s_add : Ev (fun k => spec_AddFact.f k s db f.f0 f.f1) (addR s db f) := by
 unfold spec_AddFact.f addR
 refine Ev.bind (spec_db s db hs hl ho) ?_
 by_cases h1 : isDb s db = true
 ·refine Ev.rpos h1 ?_
  refine Ev.pos h1 (Ev.bind (spec_isFact s _ _ hs hf) ?_)
  by_cases h2 : isFact s f.f0 f.f1 = true
  ·refine Ev.rpos h2 ?_
   refine Ev.pos h2 (Ev.bind (s_has db hl ho f) ?_)
   by_cases h3 : has db f = true
   ·refine Ev.rpos h3 ?_
    refine Ev.pos h3 (Ev.step (fun k => by rw [spec_AddFact.j0]) ?_)
    exact Ev.pos rfl (Ev.bind (s_all db hl ho) (Ev.const rfl))
   ·refine Ev.rneg h3 ?_
    refine Ev.neg h3 (Ev.step (fun k => by rw [spec_AddFact.j0]) ?_)
    by_cases h4 : (db.length : Int) ≥ 24
    ·refine Ev.rpos h4 ?_; exact Ev.pos (by simp; omega) (Ev.bind (s_all db hl ho) (Ev.const rfl))
    ·refine Ev.rneg h4 ?_; exact Ev.neg (by simp; omega) (Ev.bind (s_put db hl ho f hf) (Ev.const rfl))
  ·refine Ev.rneg h2 ?_
   refine Ev.neg h2 (Ev.step (fun k => by rw [spec_AddFact.j0]) ?_)
   exact Ev.pos rfl (Ev.bind (s_all db hl ho) (Ev.const rfl))
 ·refine Ev.rneg h1 ?_
  refine Ev.neg h1 (Ev.step (fun k => by rw [spec_AddFact.j0]) ?_)
  exact Ev.pos rfl (Ev.bind (s_all db hl ho) (Ev.const rfl))
theorem i_add : Ev (fun k => impl_AddFact.f k s db f.f0 f.f1) (addR s db f) := by
 unfold impl_AddFact.f addR
 refine Ev.bind (i_all db hl ho) ?_
 refine Ev.bind (impl_db s db hs hl ho) ?_
 by_cases h1 : isDb s db = true
 ·refine Ev.rpos h1 ?_
  obtain ⟨k1, k2, k3⟩ := db_sorted h1
  refine Ev.pos h1 (Ev.bind (impl_isFact s _ _ hs hf) ?_)
  by_cases h2 : isFact s f.f0 f.f1 = true
  ·refine Ev.rpos h2 ?_
   refine Ev.pos h2 (Ev.bind (i_has db hl ho f) ?_)
   by_cases h3 : has db f = true
   ·refine Ev.rpos h3 ?_
    exact Ev.pos h3 (Ev.const rfl)
   ·refine Ev.rneg h3 ?_
    refine Ev.neg h3 ?_
    by_cases h4 : (db.length : Int) = 24
    ·refine Ev.rpos (by omega) ?_; exact Ev.pos h4 (Ev.const rfl)
    ·refine Ev.rneg (by omega) ?_
     refine Ev.neg h4 (Ev.bindc (i_copy f hf) (Ev.pos (by omega) (Ev.pos ?_ ?_)))
     ·rw [List.all_eq_true]
      intro x hx
      rw [decide_eq_true_eq]
      rcases List.mem_append.1 hx with hx | hx
      ·exact ho x hx
      ·rw [List.mem_singleton.1 hx]; exact hf
     ·refine Ev.const ?_
      show some (PCmp.srt PCmp.cmpF (db ++ [f]), true) = _
      rw [putL_srt k1 (Bool.eq_false_iff.2 h3)]
  ·refine Ev.rneg h2 ?_
   exact Ev.neg h2 (Ev.const rfl)
 ·refine Ev.rneg h1 ?_
  exact Ev.neg h1 (Ev.const rfl)
def appR (s : List Int) (db : List F) (v : Int) (ins : Bool) (f : F) : List F × Int × Bool :=
 if isSource s db v = true then (if v = 1000 then (db, v, false) else (if ins = true then (if (addR s db f).2 = true then ((addR s db f).1, v + 1, true) else (db, v, false)) else (if (remR s db f).2 = true then ((remR s db f).1, v + 1, true) else (db, v, false)))) else (db, v, false)
omit hs hl ho hf in
theorem src_v {v : Int} (h : isSource s db v = true) : 0 ≤ v ∧ v ≤ 1000 := by
 rw [isSource, Bool.and_eq_true] at h
 have := h.2
 rw [inr, decide_eq_true_eq] at this
 exact this
theorem s_app (v : Int) (ins : Bool) : Ev (fun k => spec_ApplyChange.f k s db v ins f.f0 f.f1) (appR s db v ins f) := by
 unfold spec_ApplyChange.f appR
 refine Ev.bind (s_all db hl ho) (Ev.bind (spec_source s db v hs hl ho) ?_)
 by_cases h1 : isSource s db v = true
 ·refine Ev.rpos h1 ?_
  have hv := src_v s db h1
  refine Ev.pos h1 (Ev.step (fun k => by rw [spec_ApplyChange.j0]) ?_)
  by_cases h2 : v = 1000
  ·refine Ev.rpos h2 ?_; exact Ev.pos (by simp; omega) (Ev.const rfl)
  ·refine Ev.rneg h2 ?_
   refine Ev.neg (by simp; omega) (Ev.bind (s_add s db f hs hl ho hf) ?_)
   rw [w64 (n := v + 1) (by omega) (by omega)]
   by_cases h3 : ins = true
   ·refine Ev.rpos h3 ?_
    refine Ev.pos h3 ?_
    by_cases h4 : (addR s db f).2 = true
    ·refine Ev.rpos h4 ?_; exact Ev.pos h4 (Ev.const rfl)
    ·refine Ev.rneg h4 ?_; exact Ev.neg h4 (Ev.const rfl)
   ·refine Ev.rneg h3 ?_
    refine Ev.neg h3 (Ev.bind (s_remove db hl ho s hs f) ?_)
    by_cases h4 : (remR s db f).2 = true
    ·refine Ev.rpos h4 ?_; exact Ev.pos h4 (Ev.const rfl)
    ·refine Ev.rneg h4 ?_; exact Ev.neg h4 (Ev.const rfl)
 ·refine Ev.rneg h1 ?_
  refine Ev.neg h1 (Ev.step (fun k => by rw [spec_ApplyChange.j0]) ?_)
  exact Ev.pos rfl (Ev.const rfl)
omit hs hf in
theorem i_copySrc (v : Int) : Ev (fun k => impl_copySource.f k db v) (db, v) := by
 unfold impl_copySource.f
 exact Ev.bind (i_all db hl ho) (Ev.const rfl)
theorem i_app (v : Int) (ins : Bool) : Ev (fun k => impl_ApplyChange.f k s db v ins f.f0 f.f1) (appR s db v ins f) := by
 unfold impl_ApplyChange.f appR
 refine Ev.bind (impl_source s db v hs hl ho) ?_
 have hc := i_copySrc db hl ho v
 by_cases h1 : isSource s db v = true
 ·refine Ev.rpos h1 ?_
  have hv := src_v s db h1
  refine Ev.pos h1 (Ev.step (fun k => by rw [impl_ApplyChange.j0]) ?_)
  by_cases h2 : v = 1000
  ·refine Ev.rpos h2 ?_; exact Ev.pos (by simp [h2]) (Ev.bind hc (Ev.const rfl))
  ·refine Ev.rneg h2 ?_
   refine Ev.neg (by simp [h2]) (Ev.bind (i_remove db hl ho s hs f) ?_)
   rw [w64 (n := v + 1) (by omega) (by omega)]
   by_cases h3 : ins = true
   ·refine Ev.rpos h3 ?_
    refine Ev.pos h3 (Ev.bind (i_add s db f hs hl ho hf) ?_)
    by_cases h4 : (addR s db f).2 = true
    ·refine Ev.rpos h4 ?_; exact Ev.pos h4 (Ev.const rfl)
    ·refine Ev.rneg h4 ?_; exact Ev.neg h4 (Ev.bind hc (Ev.const rfl))
   ·refine Ev.rneg h3 ?_
    refine Ev.neg h3 ?_
    by_cases h4 : (remR s db f).2 = true
    ·refine Ev.rpos h4 ?_; exact Ev.pos h4 (Ev.const rfl)
    ·refine Ev.rneg h4 ?_; exact Ev.neg h4 (Ev.bind hc (Ev.const rfl))
 ·refine Ev.rneg h1 ?_
  refine Ev.neg h1 (Ev.step (fun k => by rw [impl_ApplyChange.j0]) ?_)
  exact Ev.pos rfl (Ev.bind hc (Ev.const rfl))
end
/-- What comes out holds no more than what went in, and the fact. -/
theorem putL_len (f : F) : ∀ db : List F, (putL f db).length ≤ db.length + 1
 | [] => Nat.le_refl _
 | x :: r => by
  have := putL_len f r
  rw [putL]
  split
  ·simp; omega
  ·split <;> simp
theorem remS_eq (f : F) : ∀ (db s : List F), (remS s db f).length ≤ s.length + db.length ∧ ∀ x ∈ remS s db f, x ∈ s ∨ x ∈ db
 | [], s => ⟨by simp [remS], fun x hx => .inl hx⟩
 | y :: r, s => by
  have h := remS_eq f r (if eqF y f = true then s else s ++ [y])
  have e : remS s (y :: r) f = remS (if eqF y f = true then s else s ++ [y]) r f := rfl
  rw [e]
  refine ⟨?_, fun x hx => ?_⟩
  ·have h1 := h.1
   have h2 : (if eqF y f = true then s else s ++ [y]).length ≤ s.length + 1 := by split <;> simp
   rw [List.length_cons]; omega
  ·rcases h.2 x hx with h2 | h2
   ·split at h2
    ·exact .inl h2
    ·rcases List.mem_append.1 h2 with h2 | h2
     ·exact .inl h2
     ·rw [List.mem_singleton.1 h2]; exact .inr (by simp)
   ·exact .inr (by simp [h2])
theorem appR_bd (s : List Int) (db : List F) (v : Int) (ins : Bool) (f : F) : (appR s db v ins f).1.length ≤ db.length + 1 ∧ ∀ x ∈ (appR s db v ins f).1, x = f ∨ x ∈ db := by
 have h0 : db.length ≤ db.length + 1 ∧ ∀ x ∈ db, x = f ∨ x ∈ db := ⟨by omega, fun x hx => .inr hx⟩
 have ha : (addR s db f).1.length ≤ db.length + 1 ∧ ∀ x ∈ (addR s db f).1, x = f ∨ x ∈ db := by
  unfold addR
  split
  ·split
   ·split
    ·exact h0
    ·split
     ·exact h0
     ·exact ⟨putL_len f db, fun x hx => putL_mem hx⟩
   ·exact h0
  ·exact h0
 have hr : (remR s db f).1.length ≤ db.length + 1 ∧ ∀ x ∈ (remR s db f).1, x = f ∨ x ∈ db := by
  unfold remR
  split
  ·split
   ·have h := remS_eq f db []
    exact ⟨by have := h.1; simp at this ⊢; omega, fun x hx => (h.2 x hx).elim (fun h => by simp at h) .inr⟩
   ·exact h0
  ·exact h0
 unfold appR
 split
 ·split
  ·exact h0
  ·split
   ·split
    ·exact ha
    ·exact h0
   ·split
    ·exact hr
    ·exact h0
 ·exact h0
end Go.Proofs.Ytjglknoebaojgaa.PApp

namespace Go.Proofs.Ytjglknoebaojgaa.PSum
open Go.RowKit Go.Proofs.Ytjglknoebaojgaa.Lay Go.Proofs.Ytjglknoebaojgaa.PB
theorem sum_le {α β : Type} {f : β → Nat} {c : α → β} {n : α → Nat} (m : Nat) (h : ∀ x, f (c x) ≤ m + n x) : ∀ l : List α, sumOf f (l.map c) ≤ m * l.length + tsum n l
 | [] => Nat.zero_le _
 | x :: r => by
  have h1 := sum_le m h r
  have h2 := h x
  have e : m * (r.length + 1) = m * r.length + m := Nat.mul_succ m r.length
  rw [List.map_cons, sumOf, tsum_cons, List.length_cons, e]
  omega
theorem sum_one (l : List Int) : sumOf (fun _ : Int => 1) l = l.length := by
 induction l with
 | nil => rfl
 | cons x r ih => rw [sumOf, ih, List.length_cons]; omega
theorem sum_bound {α : Type} (f : α → Nat) (B : Nat) : ∀ l : List α, (∀ x ∈ l, f x ≤ B) → Lay.sumOf f l ≤ l.length * B
 | [], _ => Nat.zero_le _
 | x :: r, h => by
  have h1 := sum_bound f B r (fun y hy => h y (by simp [hy]))
  have h2 := h x (by simp)
  rw [Lay.sumOf, List.length_cons, Nat.succ_mul]; omega
end Go.Proofs.Ytjglknoebaojgaa.PSum

namespace Go.Proofs.Ytjglknoebaojgaa.PLaw
open Go.RowKit Go.Proofs.Ytjglknoebaojgaa.P Go.Proofs.YtjglknoebaojgaaW.PrintWords Go.Proofs.YtjglknoebaojgaaW.PrintLast Go.Proofs.Ytjglknoebaojgaa.PB
set_option linter.unusedVariables false

def qIntS (l : List Int) : Prop := l.length ≤ 9223372036854775807 ∧ ∀ x ∈ l, (Lit.int .i64 x).wf = true
def nIntS (l : List Int) : Nat := l.length
def cIntS (l : List Int) : List Int := l
theorem szIntS (l : List Int) (a : Int) (h0 : 0 ≤ a) (h1 : a ≤ 1048576) (hl : qIntS l) : Ev (fun k => laws_szIntS.f l a) (if a < nIntS l then -1 else a - nIntS l) := by
 have hl1 := hl.1
 refine Ev.const ?_
 unfold laws_szIntS.f nIntS
 rw [w64 (by omega) (by omega)]
 by_cases h : a < l.length
 ·rw [if_pos (by omega), if_pos h]
 ·rw [if_neg (by omega), if_neg h]
theorem toIntS_loop (l : List Int) (hn : nIntS l ≤ 1048576) : ∀ (d i : Nat), i + d = l.length → Ev (fun k => laws_toIntS.l0 k l (cIntS (l.take i) ++ List.replicate d 0) (i : Int)) (cIntS l) := by
 have hlen : l.length ≤ 1048576 := by unfold nIntS at hn; omega
 intro d
 induction d with
 | zero =>
  intro i hi
  obtain rfl : i = l.length := by omega
  refine Ev.step (fun k => by rw [laws_toIntS.l0]) (Ev.neg (by omega) (Ev.const ?_))
  simp
 | succ d ih =>
  intro i hi
  have hlt : i < l.length := by omega
  refine Ev.step (fun k => by rw [laws_toIntS.l0]) (Ev.pos (by omega) (Ev.pos (by omega) ?_))
  rw [rd_nat _ _ hlt, inc (by omega)]
  refine Ev.pos (by simp [cIntS]; omega) ?_
  refine Ev.eq (ih (i + 1) (by omega)) ?_ rfl
  funext k
  have e : ((i : Int)).toNat = i := by omega
  have el : (cIntS (l.take i)).length = i := by simp [cIntS]; omega
  rw [e, fill_set' _ _ _ _ _ el, take_snoc hlt]
  try rfl
theorem toIntS (l : List Int) (hn : nIntS l ≤ 1048576) : Ev (fun k => laws_toIntS.f k l) (cIntS l) := by
 have h := toIntS_loop l hn l.length 0 (by omega)
 have hlen : l.length ≤ 1048576 := by unfold nIntS at hn; omega
 refine Ev.eq (Ev.pos (c := 0 ≤ (l.length : Int)) (g := fun _ => none) (by omega) (Ev.pos (c := ((l.length : Int) : Int).toNat ≤ 35184372088832) (g := fun _ => none) (by omega) h)) ?_ rfl
 funext k
 rw [laws_toIntS.f]; simp [cIntS]
theorem eqIntS_loop (l : List Int) (hl : l.length ≤ 4611686018427387000) : ∀ (d i : Nat), i + d = l.length → Ev (fun k => laws_eqIntS.l0 k l l (i : Int)) true := by
 intro d
 induction d with
 | zero =>
  intro i hi
  exact Ev.step (fun k => by rw [laws_eqIntS.l0]) (Ev.neg (by omega) (Ev.const rfl))
 | succ d ih =>
  intro i hi
  have hlt : i < l.length := by omega
  refine Ev.step (fun k => by rw [laws_eqIntS.l0]) (Ev.pos (by omega) (Ev.pos (by omega) (Ev.pos (by omega) (Ev.pos rfl ?_))))
  rw [inc (by omega)]
  exact ih (i + 1) (by omega)
theorem eqIntS (l : List Int) (hm : l.length ≤ 4611686018427387000) : Ev (fun k => laws_eqIntS.f k l l) true :=
 Ev.eq (Ev.pos (c := (l.length : Int) = l.length) (g := fun _ => some false) rfl (eqIntS_loop l hm l.length 0 (by omega))) (by funext k; rw [laws_eqIntS.f]; rfl) rfl
theorem mcIntS {l : List Int} (hn : nIntS l ≤ 1048576) : (cIntS l).length ≤ 4611686018427387000 := by unfold nIntS at hn; show l.length ≤ _; omega
end Go.Proofs.Ytjglknoebaojgaa.PLaw

namespace Go.Proofs.Ytjglknoebaojgaa.PLaw
open Go.RowKit Go.Proofs.Ytjglknoebaojgaa.P Go.Proofs.YtjglknoebaojgaaW.PrintWords Go.Proofs.YtjglknoebaojgaaW.PrintLast Go.Proofs.Ytjglknoebaojgaa.PB
set_option linter.unusedVariables false

def qFact (x : S39) : Prop := ((Lit.int .i64 x.f0).wf = true) ∧ (qIntS x.f1)
def nFact (x : S39) : Nat := nIntS x.f1
def cFact (x : S39) : S53 := ⟨x.f0, cIntS x.f1⟩
def qFactS (l : List S39) : Prop := l.length ≤ 9223372036854775807 ∧ ∀ x ∈ l, qFact x
def nFactS (l : List S39) : Nat := l.length + tsum nFact l
def cFactS (l : List S39) : List S53 := l.map cFact
def mFact (x : S53) : Prop := (True) ∧ (x.f1.length ≤ 4611686018427387000)
def mFactS (l : List S53) : Prop := l.length ≤ 4611686018427387000 ∧ ∀ x ∈ l, mFact x
theorem szFact (x0 : Int) (x1 : List Int) (a : Int) (h0 : 0 ≤ a) (h1 : a ≤ 1048576) (qx0_ : (Lit.int .i64 x0).wf = true) (qx1_ : qIntS x1) : Ev (fun k => laws_szFact.f x0 x1 a) (if a < ((nIntS x1 : Nat) : Int) then -1 else a - ((nIntS x1 : Nat) : Int)) := by
 unfold laws_szFact.f
 have g0 : a ≤ 1048576 := by first | omega | exact h1
 refine Ev.bind (szIntS x1 a (by omega) (by omega) qx1_) ?_
 by_cases c0 : a < ((nIntS x1 : Nat) : Int)
 ·rw [if_pos c0]
  exact Ev.pos (by omega) (Ev.const (by first | rfl | rw [if_pos (by omega)]))
 rw [if_neg c0]
 refine Ev.neg (by omega) ?_
 have e0 : a - ((nIntS x1 : Nat) : Int) = (a - ((nIntS x1 : Nat) : Int)) := by omega
 rw [e0]
 exact Ev.const (by first | rfl | rw [if_neg (by omega)])
theorem szFactS_loop (l : List S39) (hl : l.length ≤ 1048576) (hb : ∀ x ∈ l, qFact x) : ∀ (d i : Nat) (a : Int), i + d = l.length → 0 ≤ a → a ≤ 1048576 →
  Ev (fun k => laws_szFactS.l0 k l a (i : Int)) (if a < tsum nFact (l.drop i) then -1 else a - tsum nFact (l.drop i)) := by
 intro d
 induction d with
 | zero =>
  intro i a hi h0 h1
  obtain rfl : i = l.length := by omega
  refine Ev.step (fun k => by rw [laws_szFactS.l0]) (Ev.neg (by omega) (Ev.const ?_))
  simp [tsum]; omega
 | succ d ih =>
  intro i a hi h0 h1
  have hlt : i < l.length := by omega
  rw [drop_cons hlt, tsum_cons]
  refine Ev.step (fun k => by rw [laws_szFactS.l0]) (Ev.pos (by omega) (Ev.pos (by omega) ?_))
  have e : rd_T39 l (i : Int) = l[i] := by rw [rd_T39]; exact getD_nat _ _ _ hlt
  rw [e, inc (by omega)]
  refine Ev.bind (szFact (l[i].f0) (l[i].f1) a h0 h1 (hb _ (List.getElem_mem hlt)).1 (hb _ (List.getElem_mem hlt)).2) ?_
  by_cases h : a < nFact l[i]
  ·rw [if_pos (by first | exact h | (simp only [nFact] at h; omega))]
   refine Ev.pos (by omega) (Ev.const ?_)
   rw [if_pos (by omega)]
  ·rw [if_neg (by first | exact h | (simp only [nFact] at h; omega))]
   refine Ev.neg (by first | omega | (simp only [nFact] at h; omega)) (Ev.eq (ih (i + 1) _ (by omega) (by first | omega | (simp only [nFact] at h; omega)) (by omega)) rfl ?_)
   by_cases h2 : a - nFact l[i] < tsum nFact (l.drop (i + 1))
   ·rw [if_pos (by first | exact h2 | (simp only [nFact] at h2 ⊢; omega)), if_pos (by omega)]
   ·rw [if_neg (by first | exact h2 | (simp only [nFact] at h2 ⊢; omega)), if_neg (by omega)]; first | omega | (simp only [nFact]; omega)
theorem szFactS (l : List S39) (a : Int) (h0 : 0 ≤ a) (h1 : a ≤ 1048576) (hq : qFactS l) : Ev (fun k => laws_szFactS.f k l a) (if a < nFactS l then -1 else a - nFactS l) := by
 have hl1 := hq.1
 have hw : wrap64 (a - (l.length : Int)) = a - l.length := w64 (by omega) (by omega)
 unfold nFactS
 by_cases h : a < l.length
 ·refine Ev.eq (Ev.const (r := -1) rfl) ?_ (by rw [if_pos (by omega)])
  funext k
  rw [laws_szFactS.f, hw, if_pos (by omega)]
 ·refine Ev.eq (szFactS_loop l (by omega) hq.2 l.length 0 (a - l.length) (by omega) (by omega) (by omega)) ?_ ?_
  ·funext k
   rw [laws_szFactS.f, hw, if_neg (by omega)]; rfl
  ·rw [List.drop_zero]
   by_cases h2 : a - l.length < tsum nFact l
   ·rw [if_pos h2, if_pos (by omega)]
   ·rw [if_neg h2, if_neg (by omega)]; omega
theorem toFact (x0 : Int) (x1 : List Int) (hn : nIntS x1 ≤ 1048576) : Ev (fun k => laws_toFact.f k x0 x1) (x0, cIntS x1) := by
 unfold laws_toFact.f
 refine Ev.bind (toIntS x1 (by omega)) ?_
 exact Ev.const rfl
theorem toFactS_loop (l : List S39) (hn : nFactS l ≤ 1048576) : ∀ (d i : Nat), i + d = l.length → Ev (fun k => laws_toFactS.l0 k l (cFactS (l.take i) ++ List.replicate d z53) (i : Int)) (cFactS l) := by
 have hlen : l.length ≤ 1048576 := by unfold nFactS at hn; omega
 intro d
 induction d with
 | zero =>
  intro i hi
  obtain rfl : i = l.length := by omega
  refine Ev.step (fun k => by rw [laws_toFactS.l0]) (Ev.neg (by omega) (Ev.const ?_))
  simp
 | succ d ih =>
  intro i hi
  have hlt : i < l.length := by omega
  refine Ev.step (fun k => by rw [laws_toFactS.l0]) (Ev.pos (by omega) (Ev.pos (by omega) ?_))
  have e : rd_T39 l (i : Int) = l[i] := by rw [rd_T39]; exact getD_nat _ _ _ hlt
  rw [e, inc (by omega)]
  have hx : nFact l[i] ≤ 1048576 := by have := tsum_mem nFact (List.getElem_mem hlt); unfold nFactS at hn; omega
  refine Ev.bind (toFact (l[i].f0) (l[i].f1) hx) (Ev.pos (by simp [cFactS]; omega) ?_)
  refine Ev.eq (ih (i + 1) (by omega)) ?_ rfl
  funext k
  have e : ((i : Int)).toNat = i := by omega
  have el : (cFactS (l.take i)).length = i := by simp [cFactS]; omega
  rw [e, fill_set' _ _ _ _ _ el, take_snoc hlt]
  rw [show cFactS (l.take i ++ [l[i]]) = cFactS (l.take i) ++ [cFact l[i]] from List.map_append ..]
  try rfl
theorem toFactS (l : List S39) (hn : nFactS l ≤ 1048576) : Ev (fun k => laws_toFactS.f k l) (cFactS l) := by
 have h := toFactS_loop l hn l.length 0 (by omega)
 have hlen : l.length ≤ 1048576 := by unfold nFactS at hn; omega
 refine Ev.eq (Ev.pos (c := 0 ≤ (l.length : Int)) (g := fun _ => none) (by omega) (Ev.pos (c := ((l.length : Int) : Int).toNat ≤ 8796093022208) (g := fun _ => none) (by omega) h)) ?_ rfl
 funext k
 rw [laws_toFactS.f]; simp [cFactS]
theorem eqFact (x0 : Int) (x1 : List Int) (mx1_ : x1.length ≤ 4611686018427387000) : Ev (fun k => laws_eqFact.f k x0 x1 x0 x1) true := by
 unfold laws_eqFact.f
 first | refine Ev.pos rfl ?_ | skip
 refine Ev.bind (eqIntS x1 mx1_) (Ev.pos rfl ?_)
 exact Ev.const rfl
theorem eqFactS_loop (l : List S53) (hl : l.length ≤ 4611686018427387000) (hb : ∀ x ∈ l, mFact x) : ∀ (d i : Nat), i + d = l.length → Ev (fun k => laws_eqFactS.l0 k l l (i : Int)) true := by
 intro d
 induction d with
 | zero =>
  intro i hi
  exact Ev.step (fun k => by rw [laws_eqFactS.l0]) (Ev.neg (by omega) (Ev.const rfl))
 | succ d ih =>
  intro i hi
  have hlt : i < l.length := by omega
  refine Ev.step (fun k => by rw [laws_eqFactS.l0]) (Ev.pos (by omega) (Ev.pos (by omega) (Ev.pos (by omega) ?_)))
  have e : rd_T53 l (i : Int) = l[i] := by rw [rd_T53]; exact getD_nat _ _ _ hlt
  rw [e, inc (by omega)]
  exact Ev.bind (eqFact (l[i].f0) (l[i].f1) ((hb _ (List.getElem_mem hlt)).2)) (Ev.pos rfl (ih (i + 1) (by omega)))
theorem eqFactS (l : List S53) (hm : mFactS l) : Ev (fun k => laws_eqFactS.f k l l) true :=
 Ev.eq (Ev.pos (c := (l.length : Int) = l.length) (g := fun _ => some false) rfl (eqFactS_loop l hm.1 hm.2 l.length 0 (by omega))) (by funext k; rw [laws_eqFactS.f]; rfl) rfl
theorem mcFact {x : S39} (hn : nFact x ≤ 1048576) : mFact (cFact x) := by
 unfold nFact at hn
 exact ⟨trivial, mcIntS (l := x.f1) (by omega)⟩
theorem mcFactS {l : List S39} (hn : nFactS l ≤ 1048576) : mFactS (cFactS l) := by
 unfold nFactS at hn
 refine ⟨by simp [cFactS]; omega, fun x hx => ?_⟩
 obtain ⟨y, hy, rfl⟩ := List.mem_map.1 hx
 have := tsum_mem nFact hy
 exact mcFact (by omega)
end Go.Proofs.Ytjglknoebaojgaa.PLaw

namespace Go.Proofs.Ytjglknoebaojgaa.PLaw
open Go.RowKit Go.Proofs.Ytjglknoebaojgaa.P Go.Proofs.YtjglknoebaojgaaW.PrintWords Go.Proofs.YtjglknoebaojgaaW.PrintLast Go.Proofs.Ytjglknoebaojgaa.PB
set_option linter.unusedVariables false

theorem szChange (x0 : Bool) (x1 : Int) (x2 : List Int) (a : Int) (h0 : 0 ≤ a) (h1 : a ≤ 1048576) (qx0_ : True) (qx1_ : (Lit.int .i64 x1).wf = true) (qx2_ : qIntS x2) : Ev (fun k => laws_szChange.f x0 x1 x2 a) (if a < ((nIntS x2 : Nat) : Int) then -1 else a - ((nIntS x2 : Nat) : Int)) := by
 unfold laws_szChange.f
 have g0 : a ≤ 1048576 := by first | omega | exact h1
 refine Ev.bind (szFact x1 x2 a (by omega) (by omega) qx1_ qx2_) ?_
 by_cases c0 : a < ((nIntS x2 : Nat) : Int)
 ·rw [if_pos c0]
  exact Ev.pos (by omega) (Ev.const (by first | rfl | rw [if_pos (by omega)]))
 rw [if_neg c0]
 refine Ev.neg (by omega) ?_
 have e0 : a - ((nIntS x2 : Nat) : Int) = (a - ((nIntS x2 : Nat) : Int)) := by omega
 rw [e0]
 exact Ev.const (by first | rfl | rw [if_neg (by omega)])
theorem toChange (x0 : Bool) (x1 : Int) (x2 : List Int) (hn : nIntS x2 ≤ 1048576) : Ev (fun k => laws_toChange.f k x0 x1 x2) (x0, x1, cIntS x2) := by
 unfold laws_toChange.f
 refine Ev.bind (toFact x1 x2 (by omega)) ?_
 exact Ev.const rfl
theorem eqChange (x0 : Bool) (x1 : Int) (x2 : List Int) (mx2_ : x2.length ≤ 4611686018427387000) : Ev (fun k => laws_eqChange.f k x0 x1 x2 x0 x1 x2) true := by
 unfold laws_eqChange.f
 refine Ev.neg (by simp) ?_
 refine Ev.bind (eqFact x1 x2 mx2_) (Ev.pos rfl ?_)
 exact Ev.const rfl
end Go.Proofs.Ytjglknoebaojgaa.PLaw

namespace Go.Proofs.Ytjglknoebaojgaa.PLaw
open Go.RowKit Go.Proofs.Ytjglknoebaojgaa.P Go.Proofs.YtjglknoebaojgaaW.PrintWords Go.Proofs.YtjglknoebaojgaaW.PrintLast Go.Proofs.Ytjglknoebaojgaa.PB
set_option linter.unusedVariables false

theorem szSchema (x0 : List Int) (a : Int) (h0 : 0 ≤ a) (h1 : a ≤ 1048576) (qx0_ : qIntS x0) : Ev (fun k => laws_szSchema.f x0 a) (if a < ((nIntS x0 : Nat) : Int) then -1 else a - ((nIntS x0 : Nat) : Int)) := by
 unfold laws_szSchema.f
 have g0 : a ≤ 1048576 := by first | omega | exact h1
 refine Ev.bind (szIntS x0 a (by omega) (by omega) qx0_) ?_
 by_cases c0 : a < ((nIntS x0 : Nat) : Int)
 ·rw [if_pos c0]
  exact Ev.pos (by omega) (Ev.const (by first | rfl | rw [if_pos (by omega)]))
 rw [if_neg c0]
 refine Ev.neg (by omega) ?_
 have e0 : a - ((nIntS x0 : Nat) : Int) = (a - ((nIntS x0 : Nat) : Int)) := by omega
 rw [e0]
 exact Ev.const (by first | rfl | rw [if_neg (by omega)])
theorem toSchema (x0 : List Int) (hn : nIntS x0 ≤ 1048576) : Ev (fun k => laws_toSchema.f k x0) (cIntS x0) := by
 unfold laws_toSchema.f
 refine Ev.bind (toIntS x0 (by omega)) ?_
 exact Ev.const rfl
theorem eqSchema (x0 : List Int) (mx0_ : x0.length ≤ 4611686018427387000) : Ev (fun k => laws_eqSchema.f k x0 x0) true := by
 unfold laws_eqSchema.f
 refine Ev.bind (eqIntS x0 mx0_) (Ev.pos rfl ?_)
 exact Ev.const rfl
end Go.Proofs.Ytjglknoebaojgaa.PLaw

namespace Go.Proofs.Ytjglknoebaojgaa.PLaw
open Go.RowKit Go.Proofs.Ytjglknoebaojgaa.P Go.Proofs.YtjglknoebaojgaaW.PrintWords Go.Proofs.YtjglknoebaojgaaW.PrintLast Go.Proofs.Ytjglknoebaojgaa.PB
set_option linter.unusedVariables false

theorem szSource (x0 : List S39) (x1 : Int) (a : Int) (h0 : 0 ≤ a) (h1 : a ≤ 1048576) (qx0_ : qFactS x0) (qx1_ : (Lit.int .i64 x1).wf = true) : Ev (fun k => laws_szSource.f k x0 x1 a) (if a < ((nFactS x0 : Nat) : Int) then -1 else a - ((nFactS x0 : Nat) : Int)) := by
 unfold laws_szSource.f
 have g0 : a ≤ 1048576 := by first | omega | exact h1
 refine Ev.bind (szFactS x0 a (by omega) (by omega) qx0_) ?_
 by_cases c0 : a < ((nFactS x0 : Nat) : Int)
 ·rw [if_pos c0]
  exact Ev.pos (by omega) (Ev.const (by first | rfl | rw [if_pos (by omega)]))
 rw [if_neg c0]
 refine Ev.neg (by omega) ?_
 have e0 : a - ((nFactS x0 : Nat) : Int) = (a - ((nFactS x0 : Nat) : Int)) := by omega
 rw [e0]
 exact Ev.const (by first | rfl | rw [if_neg (by omega)])
theorem toSource (x0 : List S39) (x1 : Int) (hn : nFactS x0 ≤ 1048576) : Ev (fun k => laws_toSource.f k x0 x1) (cFactS x0, x1) := by
 unfold laws_toSource.f
 refine Ev.bind (toFactS x0 (by omega)) ?_
 exact Ev.const rfl
theorem eqSource (x0 : List S53) (x1 : Int) (mx0_ : mFactS x0) : Ev (fun k => laws_eqSource.f k x0 x1 x0 x1) true := by
 unfold laws_eqSource.f
 refine Ev.bind (eqFactS x0 mx0_) (Ev.pos rfl ?_)
 first | refine Ev.pos rfl ?_ | skip
 exact Ev.const rfl
end Go.Proofs.Ytjglknoebaojgaa.PLaw

namespace Go.Proofs.Ytjglknoebaojgaa.Opens
open Go.RowKit Go.Proofs.YtjglknoebaojgaaW.PrintWords Go.Deep Go.ChangeShapes Go.WideShapes
set_option linter.unusedVariables false

/-- Whatever reads as data of type t is of kind d, and Q holds of it. -/
def Rdd {α : Type} (P : Program) (w : World) (t : TypeId) (d : Kd α) (Q : α → Prop) : Prop :=
 ∀ (H : Type) (enc : TypeId × Value → H) (fuel : Nat) (cs : List Value) (x : DataW H × List MemPlace),
  DataW.trod enc P w 0 (fun _ => true) true fuel t cs = some x → ∃ a, d.K w a cs ∧ Q a

variable {α β γ δ : Type} {P : Program} {w : World} {t e : TypeId}

theorem op_int {k : IntKind} (ht : P.underlying t = some (.int k)) : Rdd P w t (Kd.int k) (fun n => (Lit.int k n).wf = true) := by
 intro H enc fuel cs x h
 obtain ⟨n, rfl, _, hw⟩ := DataW.trod_int ht h
 exact ⟨n, rfl, hw⟩
theorem op_bool (ht : P.underlying t = some .bool) : Rdd P w t Kd.bool (fun _ => True) := by
 intro H enc fuel cs x h
 obtain ⟨b, rfl, _⟩ := DataW.trod_bool ht h
 exact ⟨b, rfl, trivial⟩
theorem op_mono {d : Kd α} {Q Q' : α → Prop} (h : Rdd P w t d Q) (hq : ∀ a, Q a → Q' a) : Rdd P w t d Q' := by
 intro H enc fuel cs x hx
 obtain ⟨a, hk, hQ⟩ := h H enc fuel cs x hx
 exact ⟨a, hk, hq a hQ⟩
theorem op_slice {d : Kd α} {Q : α → Prop} (ht : P.underlying t = some (.slice e)) (hc : P.cellsOf e = d.sz) (hd : Rdd P w e d Q) :
  Rdd P w t (Kd.slice e d) (fun xs => xs.length ≤ 9223372036854775807 ∧ ∀ x ∈ xs, Q x) := by
 classical
 intro H enc fuel cs x h
 rcases open_slice ht h with ⟨rfl, _⟩ | ⟨a, len, cap, m, n, D, Pl, rfl, _, hl, hm, hmm, _, hx⟩
 ·exact ⟨[], ⟨none, 0, rfl, Nat.le_refl _, Kd.C_nil d w⟩, by simp⟩
 ·have hm' : m = cap := by simpa using hmm
  have hX : ∀ i, i < len → ∃ x : α, ∃ cs', w.cells? 0 (a.add (i * d.sz)) d.sz = some cs' ∧ d.K w x cs' ∧ Q x := by
   intro i hi
   obtain ⟨cs', h1, h2⟩ := hx i (by omega)
   obtain ⟨y, hk, hq⟩ := hd H enc n cs' _ h2
   rw [hc] at h1
   exact ⟨y, cs', h1, hk, hq⟩
  rcases Nat.eq_zero_or_pos len with h0 | h0
  ·subst h0
   exact ⟨[], ⟨some a, cap, rfl, Nat.zero_le _, ⟨rfl, by simp, fun h => absurd h (Nat.lt_irrefl 0)⟩⟩, by simp⟩
  ·obtain ⟨x0, _⟩ := hX 0 h0
   haveI : Inhabited α := ⟨x0⟩
   obtain ⟨X, hX'⟩ := choose_lt hX
   have hlen : ((List.range len).map X).length = len := by simp
   have hmx : ((List.range len).map X).length ≤ 9223372036854775807 := by rw [hlen]; unfold maxLen at hm; omega
   refine ⟨(List.range len).map X, ⟨some a, cap, by rw [hlen], by rw [hlen]; exact hl, ⟨rfl, hmx, fun _ => ⟨a, rfl, ?_⟩⟩⟩, hmx, ?_⟩
   ·intro j p hj
    have hj' : j < len := by
     have := (List.getElem?_eq_some_iff.1 hj).1
     rwa [hlen] at this
    have hp : p = X j := by
     rw [List.getElem?_map, List.getElem?_range hj'] at hj
     simpa using hj.symm
    subst hp
    obtain ⟨cs', h1, h2, _⟩ := hX' j hj'
    obtain ⟨_, hl', hcell⟩ := World.cells?_some h1
    refine ⟨cs', hl', h2, fun i u hu => ?_⟩
    have hi : i < d.sz := by
     have := (List.getElem?_eq_some_iff.1 hu).1
     omega
    have := hcell i hi
    rw [hu] at this
    rw [← this, Addr.add_add]
   ·intro x hx
    obtain ⟨i, hi, rfl⟩ := List.mem_map.1 hx
    exact (hX' i (List.mem_range.1 hi)).choose_spec.2.2
theorem op_iso {d : Kd α} {Q : α → Prop} (f : β → α) (g : α → β) (hfg : ∀ a, f (g a) = a) (h : Rdd P w t d Q) : Rdd P w t (Kd.iso d f) (fun b => Q (f b)) := by
 intro H enc fuel cs x hx
 obtain ⟨a, hk, hq⟩ := h H enc fuel cs x hx
 refine ⟨g a, ?_, ?_⟩
 ·show d.K w (f (g a)) cs
  rw [hfg]; exact hk
 ·show Q (f (g a))
  rw [hfg]; exact hq
theorem op_struct1 {f0 : Field} {d0 : Kd α} {Q0 : α → Prop} (ht : P.underlying t = some (.struct #[f0])) (h0 : f0.offset = 0) (z : P.cellsOf t = d0.sz) (z0 : P.cellsOf f0.type = d0.sz)
  (o0 : Rdd P w f0.type d0 Q0) : Rdd P w t d0 Q0 := by
 intro H enc fuel cs x hx
 obtain ⟨y0, n, rfl, hl, h1⟩ := trod_struct1 ht hx
 obtain ⟨a, hk, hq⟩ := o0 H enc n _ y0 h1
 rw [h0, List.drop_zero, List.take_of_length_le (by omega)] at hk
 exact ⟨a, hk, hq⟩
theorem op_struct2 {f0 f1 : Field} {d0 : Kd α} {d1 : Kd β} {Q0 : α → Prop} {Q1 : β → Prop} (ht : P.underlying t = some (.struct #[f0, f1])) (h0 : f0.offset = 0) (h1 : f1.offset = d0.sz)
  (z : P.cellsOf t = d0.sz + d1.sz) (z0 : P.cellsOf f0.type = d0.sz) (z1 : P.cellsOf f1.type = d1.sz)
  (o0 : Rdd P w f0.type d0 Q0) (o1 : Rdd P w f1.type d1 Q1) : Rdd P w t (Kd.pair d0 d1) (fun a => Q0 a.1 ∧ Q1 a.2) := by
 intro H enc fuel cs x hx
 obtain ⟨y0, y1, n, rfl, hl, g0, g1⟩ := trod_struct2 ht hx
 obtain ⟨a, hk, hq⟩ := o0 H enc n _ y0 g0
 obtain ⟨b, hk1, hq1⟩ := o1 H enc n _ y1 g1
 rw [h0, List.drop_zero, z0] at hk
 rw [h1, z1, List.take_of_length_le (by simp; omega)] at hk1
 exact ⟨(a, b), ⟨_, _, (List.take_append_drop d0.sz cs).symm, hk, hk1⟩, hq, hq1⟩
theorem op_of {d : Kd α} {Q : α → Prop} {H : Type} {enc : TypeId × Value → H} {v : Value} {dd : DataW H} {ps : List MemPlace} (h : Rdd P w t d Q) (hx : DataW.Trod enc P w 0 (fun _ => true) true t v dd ps) :
  ∃ a, d.K w a v.cells.toList ∧ Q a := by
 obtain ⟨fuel, hf⟩ := hx
 exact h H enc fuel _ _ hf
end Go.Proofs.Ytjglknoebaojgaa.Opens

