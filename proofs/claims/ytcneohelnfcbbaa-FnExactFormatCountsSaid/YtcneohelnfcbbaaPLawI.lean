/- The laws' own helpers over lists of numbers and lists of lists: sizes, copies, equality. Conditions: bounds on lengths. -/
import Derived.Test.YtcneohelnfcbbaaPx0
import Derived.Test.YtcneohelnfcbbaaPx1
import Derived.Test.YtcneohelnfcbbaaPx2
import Derived.Test.YtcneohelnfcbbaaPx4
import Derived.Test.YtcneohelnfcbbaaPBase
namespace Go.Proofs.Ytcneohelnfcbbaa.PL
open Go.RowKit Go.Proofs.Ytcneohelnfcbbaa.P Go.Proofs.YtcneohelnfcbbaaW.PrintWords Go.Proofs.YtcneohelnfcbbaaW.PrintLast Go.Proofs.Ytcneohelnfcbbaa.PB
set_option linter.unusedVariables false

theorem szIntS (l : List Int) (a : Int) (h0 : 0 ≤ a) (h1 : a ≤ 1048576) (hl : l.length ≤ 9223372036854775807) : laws_szIntS.f l a = some (if a < l.length then -1 else a - l.length) := by
  unfold laws_szIntS.f
  rw [w64 (by omega) (by omega)]
  by_cases h : a < l.length
  · rw [if_pos (by omega), if_pos h]
  · rw [if_neg (by omega), if_neg h]
theorem toIntS_loop (l : List Int) (hl : l.length ≤ 35184372088832) : ∀ (d i : Nat), i + d = l.length → Ev (fun k => laws_toIntS.l0 k l (l.take i ++ List.replicate d 0) (i : Int)) l := by
  intro d
  induction d with
  | zero =>
    intro i hi
    obtain rfl : i = l.length := by omega
    refine Ev.step (fun k => by rw [laws_toIntS.l0]) (Ev.neg (by omega) (Ev.const ?_))
    simp
  | succ d ih =>
    intro i hi
    have hlt : i < l.length := by omega
    refine Ev.step (fun k => by rw [laws_toIntS.l0]) (Ev.pos (by omega) (Ev.pos (by omega) (Ev.pos (by simp; omega) ?_)))
    rw [rd_nat _ _ hlt, inc (by omega)]
    refine Ev.eq (ih (i + 1) (by omega)) ?_ rfl
    funext k
    have e : ((i : Int)).toNat = i := by omega
    rw [e, fill_set _ _ _ _ _ (by omega), take_snoc hlt]
theorem toIntS (l : List Int) (hl : l.length ≤ 35184372088832) : Ev (fun k => laws_toIntS.f k l) l := by
  have h := toIntS_loop l hl l.length 0 (by omega)
  refine Ev.eq (Ev.pos (c := 0 ≤ (l.length : Int)) (g := fun _ => none) (by omega) (Ev.pos (c := ((l.length : Int) : Int).toNat ≤ 35184372088832) (g := fun _ => none) (by omega) h)) ?_ rfl
  funext k
  rw [laws_toIntS.f]; simp
theorem eqIntS_loop (l : List Int) (hl : l.length ≤ 4611686018427387000) : ∀ (d i : Nat), i + d = l.length → Ev (fun k => laws_eqIntS.l0 k l l (i : Int)) true := by
  intro d
  induction d with
  | zero =>
    intro i hi
    exact Ev.step (fun k => by rw [laws_eqIntS.l0]) (Ev.neg (by omega) (Ev.const rfl))
  | succ d ih =>
    intro i hi
    refine Ev.step (fun k => by rw [laws_eqIntS.l0]) (Ev.pos (by omega) (Ev.pos (by omega) (Ev.pos (by omega) (Ev.pos rfl ?_))))
    rw [inc (by omega)]
    exact ih (i + 1) (by omega)
theorem eqIntS (l : List Int) (hl : l.length ≤ 4611686018427387000) : Ev (fun k => laws_eqIntS.f k l l) true :=
  Ev.eq (Ev.pos (c := (l.length : Int) = l.length) (g := fun _ => some false) rfl (eqIntS_loop l hl l.length 0 (by omega))) (by funext k; rw [laws_eqIntS.f]; rfl) rfl
/-! lists of lists -/
def tot : List (List Int) → Nat
  | [] => 0
  | x :: r => x.length + tot r
theorem tot_cons (x : List Int) (r : List (List Int)) : tot (x :: r) = x.length + tot r := rfl
theorem tot_mem {l : List (List Int)} {x : List Int} (h : x ∈ l) : x.length ≤ tot l := by
  induction l with
  | nil => simp at h
  | cons y r ih =>
    rcases List.mem_cons.1 h with rfl | h
    · simp [tot]
    · have := ih h; simp [tot]; omega
theorem szIntSS_loop (l : List (List Int)) (hl : l.length ≤ 1048576) (hb : ∀ x ∈ l, x.length ≤ 9223372036854775807) : ∀ (d i : Nat) (a : Int), i + d = l.length → 0 ≤ a → a ≤ 1048576 →
    Ev (fun k => laws_szIntSS.l0 k l a (i : Int)) (if a < tot (l.drop i) then -1 else a - tot (l.drop i)) := by
  intro d
  induction d with
  | zero =>
    intro i a hi h0 h1
    obtain rfl : i = l.length := by omega
    refine Ev.step (fun k => by rw [laws_szIntSS.l0]) (Ev.neg (by omega) (Ev.const ?_))
    simp [tot]; omega
  | succ d ih =>
    intro i a hi h0 h1
    have hlt : i < l.length := by omega
    rw [drop_cons hlt, tot_cons]
    refine Ev.step (fun k => by rw [laws_szIntSS.l0]) (Ev.pos (by omega) (Ev.pos (by omega) ?_))
    have e : rd_L2 l (i : Int) = l[i] := by rw [rd_L2]; exact getD_nat _ _ _ hlt
    rw [e, inc (by omega)]
    refine Ev.bindc (szIntS _ a h0 h1 (hb _ (List.getElem_mem hlt))) ?_
    by_cases h : a < (l[i]).length
    · rw [if_pos h]
      refine Ev.pos (by omega) (Ev.const ?_)
      rw [if_pos (by omega)]
    · rw [if_neg h]
      refine Ev.neg (by omega) (Ev.eq (ih (i + 1) _ (by omega) (by omega) (by omega)) rfl ?_)
      by_cases h2 : a - (l[i]).length < tot (l.drop (i + 1))
      · rw [if_pos h2, if_pos (by omega)]
      · rw [if_neg h2, if_neg (by omega)]; omega
theorem szIntSS (l : List (List Int)) (a : Int) (h0 : 0 ≤ a) (h1 : a ≤ 1048576) (hl : l.length ≤ 9223372036854775807) (hb : ∀ x ∈ l, x.length ≤ 9223372036854775807) :
    Ev (fun k => laws_szIntSS.f k l a) (if a < l.length + tot l then -1 else a - (l.length + tot l)) := by
  have hw : wrap64 (a - (l.length : Int)) = a - l.length := w64 (by omega) (by omega)
  by_cases h : a < l.length
  · refine Ev.eq (Ev.const (r := -1) rfl) ?_ (by rw [if_pos (by omega)])
    funext k
    rw [laws_szIntSS.f, hw, if_pos (by omega)]
  · refine Ev.eq (szIntSS_loop l (by omega) hb l.length 0 (a - l.length) (by omega) (by omega) (by omega)) ?_ ?_
    · funext k
      rw [laws_szIntSS.f, hw, if_neg (by omega)]; rfl
    · rw [List.drop_zero]
      by_cases h2 : a - l.length < tot l
      · rw [if_pos h2, if_pos (by omega)]
      · rw [if_neg h2, if_neg (by omega)]; omega
theorem toIntSS_loop (l : List (List Int)) (hl : l.length ≤ 11728124029610) (hb : ∀ x ∈ l, x.length ≤ 35184372088832) : ∀ (d i : Nat), i + d = l.length → Ev (fun k => laws_toIntSS.l0 k l (l.take i ++ List.replicate d []) (i : Int)) l := by
  intro d
  induction d with
  | zero =>
    intro i hi
    obtain rfl : i = l.length := by omega
    refine Ev.step (fun k => by rw [laws_toIntSS.l0]) (Ev.neg (by omega) (Ev.const ?_))
    simp
  | succ d ih =>
    intro i hi
    have hlt : i < l.length := by omega
    refine Ev.step (fun k => by rw [laws_toIntSS.l0]) (Ev.pos (by omega) (Ev.pos (by omega) ?_))
    have e : rd_L2 l (i : Int) = l[i] := by rw [rd_L2]; exact getD_nat _ _ _ hlt
    rw [e, inc (by omega)]
    refine Ev.bind (toIntS _ (hb _ (List.getElem_mem hlt))) (Ev.pos (by simp; omega) ?_)
    refine Ev.eq (ih (i + 1) (by omega)) ?_ rfl
    funext k
    have e : ((i : Int)).toNat = i := by omega
    rw [e, fill_set _ _ _ _ _ (by omega), take_snoc hlt]
theorem toIntSS (l : List (List Int)) (hl : l.length ≤ 11728124029610) (hb : ∀ x ∈ l, x.length ≤ 35184372088832) : Ev (fun k => laws_toIntSS.f k l) l := by
  have h := toIntSS_loop l hl hb l.length 0 (by omega)
  refine Ev.eq (Ev.pos (c := 0 ≤ (l.length : Int)) (g := fun _ => none) (by omega) (Ev.pos (c := ((l.length : Int) : Int).toNat ≤ 11728124029610) (g := fun _ => none) (by omega) h)) ?_ rfl
  funext k
  rw [laws_toIntSS.f]; simp
theorem eqIntSS_loop (l : List (List Int)) (hl : l.length ≤ 4611686018427387000) (hb : ∀ x ∈ l, x.length ≤ 4611686018427387000) : ∀ (d i : Nat), i + d = l.length → Ev (fun k => laws_eqIntSS.l0 k l l (i : Int)) true := by
  intro d
  induction d with
  | zero =>
    intro i hi
    exact Ev.step (fun k => by rw [laws_eqIntSS.l0]) (Ev.neg (by omega) (Ev.const rfl))
  | succ d ih =>
    intro i hi
    have hlt : i < l.length := by omega
    refine Ev.step (fun k => by rw [laws_eqIntSS.l0]) (Ev.pos (by omega) (Ev.pos (by omega) (Ev.pos (by omega) ?_)))
    have e : rd_L2 l (i : Int) = l[i] := by rw [rd_L2]; exact getD_nat _ _ _ hlt
    rw [e, inc (by omega)]
    exact Ev.bind (eqIntS _ (hb _ (List.getElem_mem hlt))) (Ev.pos rfl (ih (i + 1) (by omega)))
theorem eqIntSS (l : List (List Int)) (hl : l.length ≤ 4611686018427387000) (hb : ∀ x ∈ l, x.length ≤ 4611686018427387000) : Ev (fun k => laws_eqIntSS.f k l l) true :=
  Ev.eq (Ev.pos (c := (l.length : Int) = l.length) (g := fun _ => some false) rfl (eqIntSS_loop l hl hb l.length 0 (by omega))) (by funext k; rw [laws_eqIntSS.f]; rfl) rfl
end Go.Proofs.Ytcneohelnfcbbaa.PL
