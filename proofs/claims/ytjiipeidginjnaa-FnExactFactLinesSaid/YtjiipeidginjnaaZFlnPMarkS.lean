/- Out of YtjiipeidginjnaaPMarkS: what the claim needs of it. Conditions: each declaration's own. -/
import Derived.Test.YtjiipeidginjnaaZFlnPx4
import Derived.Test.YtjiipeidginjnaaZFlnPx5
import Derived.Test.YtjiipeidginjnaaZFlnPx1
import Derived.Test.YtjiipeidginjnaaZFlnPx2
import Derived.Test.YtjiipeidginjnaaZFlnPx0
import Derived.Test.YtjiipeidginjnaaZFlnPNum
import Derived.Test.YtjiipeidginjnaaZFlnPIn
namespace Go.Proofs.Ytjiipeidginjnaa.PMarkS
open Go.RowKit Go.Proofs.Ytjiipeidginjnaa.P Go.Proofs.YtjiipeidginjnaaW.PrintWords Go.Proofs.YtjiipeidginjnaaW.PrintLast Go.Proofs.Ytjiipeidginjnaa.PB Go.Proofs.Ytjiipeidginjnaa.PPInt
set_option linter.unusedVariables false
theorem digit_size (x : Int) : (strOfNums [wrap64 (48 + Int.tmod x 10) % 256]).size = 1 := by rw [strOfNums_size]; rfl
theorem text_loop : ∀ (f : Nat) (x : Int) (s : ByteArray), 0 ≤ x → x < 10 ^ f → f ≤ 20 → x ≤ 9223372036854775807 → s.size + f ≤ 100 → ∃ r, Ev (fun k => laws_markText.l0 k x s) r := by
  intro f
  induction f with
  | zero =>
    intro x s h0 h1 _ _ h2
    have hx : x = 0 := by simp at h1; omega
    subst hx
    exact ⟨_, Ev.step (fun k => by rw [laws_markText.l0]) (Ev.neg (by omega) (Ev.pos (by omega) (Ev.const rfl)))⟩
  | succ f ih =>
    intro x s h0 h1 hf hb h2
    by_cases hx : x > 0
    · have hd : Int.tdiv x 10 = x / 10 := Int.tdiv_eq_ediv_of_nonneg h0
      have hz := digit_size x
      have hp : x / 10 < 10 ^ f := by
        have : (10 : Int) ^ (f + 1) = 10 ^ f * 10 := Int.pow_succ 10 f
        omega
      obtain ⟨r, hr⟩ := ih (x / 10) (strOfNums [wrap64 (48 + Int.tmod x 10) % 256] ++ s) (by omega) hp (by omega) (by omega) (by rw [ByteArray.size_append, hz]; omega)
      refine ⟨r, ?_⟩
      refine Ev.step (fun k => by rw [laws_markText.l0]) ?_
      refine Ev.pos hx ?_
      refine Ev.bindc rfl ?_
      refine Ev.pos (by rw [hz]; omega) ?_
      rw [hd, w64 (by omega) (by omega)]
      exact hr
    · exact ⟨_, Ev.step (fun k => by rw [laws_markText.l0]) (Ev.neg hx (Ev.pos (by omega) (Ev.const rfl)))⟩
theorem text_ex (x : Int) (h0 : 0 ≤ x) (h1 : x ≤ 9223372036854775807) : ∃ r, Ev (fun k => laws_markText.f k x) r := by
  by_cases hx : x ≤ 0
  · refine ⟨(⟨#[109, 48]⟩ : ByteArray), ?_⟩
    unfold laws_markText.f
    exact Ev.pos hx (Ev.const rfl)
  · have hp : (10 : Int) ^ 20 = 100000000000000000000 := by decide
    obtain ⟨r, hr⟩ := text_loop 20 x ⟨#[]⟩ h0 (by omega) (by omega) h1 (by show 0 + 20 ≤ 100; omega)
    refine ⟨r, ?_⟩
    unfold laws_markText.f
    exact Ev.neg hx hr
/-- A mark's text. -/
noncomputable def mt (x : Int) : ByteArray := if h : 0 ≤ x ∧ x ≤ 9223372036854775807 then (text_ex x h.1 h.2).choose else ⟨#[]⟩
theorem text_ev (x : Int) (h0 : 0 ≤ x) (h1 : x ≤ 9223372036854775807) : Ev (fun k => laws_markText.f k x) (mt x) := by
  unfold mt
  rw [dif_pos ⟨h0, h1⟩]
  exact (text_ex x h0 h1).choose_spec
noncomputable def ms (a : Int) (l : List ByteArray) : List ByteArray := (List.range l.length).map fun j => mt (a + ((j : Nat) : Int))
theorem ms_len (a : Int) (l : List ByteArray) : (ms a l).length = l.length := by simp [ms]
theorem ms_at (a : Int) (l : List ByteArray) (i : Nat) (h : i < (ms a l).length) : (ms a l)[i] = mt (a + (i : Int)) := by simp [ms]
theorem ms_step (a : Int) (l : List ByteArray) (i : Nat) (h : i < l.length) : ((ms a l).take i ++ l.drop i).set i (mt (a + (i : Int))) = (ms a l).take (i + 1) ++ l.drop (i + 1) := by
  have h' : i < (ms a l).length := by rw [ms_len]; exact h
  have e : ((ms a l).take i).length = i := by rw [List.length_take, ms_len]; omega
  rw [List.set_append_right _ _ (by omega), e, Nat.sub_self, List.drop_eq_getElem_cons h, List.set_cons_zero, take_snoc h', ms_at, List.append_assoc]; rfl
theorem smark_loop (a : Int) (l : List ByteArray) (h0 : 0 ≤ a) (h1 : a + l.length ≤ 4611686018427387000) : ∀ (d i : Nat), i + d = l.length →
    Ev (fun k => laws_markStringS.l0 k ((ms a l).take i ++ l.drop i) (a + (i : Int)) (i : Int)) (a + l.length, ms a l) := by
  intro d
  induction d with
  | zero =>
    intro i hi
    obtain rfl : i = l.length := by omega
    have e : (ms a l).take l.length ++ l.drop l.length = ms a l := by rw [List.drop_length, List.append_nil, List.take_of_length_le (by rw [ms_len]; exact Nat.le_refl _)]
    rw [e]
    have := ms_len a l
    exact Ev.step (fun k => by rw [laws_markStringS.l0]) (Ev.neg (by omega) (Ev.const rfl))
  | succ d ih =>
    intro i hi
    have hlt : i < l.length := by omega
    have hl : ((ms a l).take i ++ l.drop i).length = l.length := by rw [List.length_append, List.length_take, ms_len, List.length_drop]; omega
    refine Ev.step (fun k => by rw [laws_markStringS.l0]) ?_
    refine Ev.pos (by omega) (Ev.bind (text_ev _ (by omega) (by omega)) (Ev.pos (by omega) ?_))
    rw [inc (by omega), w64 (by omega) (by omega), Int.toNat_natCast, ms_step a l i hlt]
    exact Ev.eq (ih (i + 1) (by omega)) (by funext k; congr 1; omega) rfl
theorem smark_ev (a : Int) (l : List ByteArray) (h0 : 0 ≤ a) (h1 : a + l.length ≤ 4611686018427387000) : Ev (fun k => laws_markStringS.f k l a) (a + l.length, ms a l) := by
  have h := smark_loop a l h0 h1 l.length 0 (by omega)
  refine Ev.eq h ?_ rfl
  funext k
  rw [laws_markStringS.f, List.take_zero, List.drop_zero, List.nil_append]
  congr 1; omega
theorem sheld_ev (a : Int) (l : List ByteArray) (h0 : 0 ≤ a) (h1 : a + l.length ≤ 4611686018427387000) : Ev (fun k => laws_heldStringS.f k (ms a l) a) (a + l.length) := by
  have loop : ∀ (d i : Nat), i + d = l.length → Ev (fun k => laws_heldStringS.l0 k (ms a l) (a + (i : Int)) (i : Int)) (a + l.length) := by
    intro d
    induction d with
    | zero =>
      intro i hi
      obtain rfl : i = l.length := by omega
      have := ms_len a l
      exact Ev.step (fun k => by rw [laws_heldStringS.l0]) (Ev.neg (by omega) (Ev.const rfl))
    | succ d ih =>
      intro i hi
      have hlt : i < (ms a l).length := by rw [ms_len]; omega
      have hm := ms_len a l
      refine Ev.step (fun k => by rw [laws_heldStringS.l0]) ?_
      refine Ev.pos (by omega) (Ev.pos (by omega) (Ev.bind (text_ev _ (by omega) (by omega)) ?_))
      rw [rdOf_nat _ _ _ hlt, ms_at]
      refine Ev.pos rfl ?_
      rw [inc (by omega), w64 (by omega) (by omega)]
      exact Ev.eq (ih (i + 1) (by omega)) (by funext k; congr 1; omega) rfl
  refine Ev.eq (loop l.length 0 (by omega)) ?_ rfl
  funext k
  rw [laws_heldStringS.f]
  congr 1; omega
theorem eqS_ev (l : List ByteArray) (hl : l.length ≤ 4611686018427387000) : Ev (fun k => laws_eqStringS.f k l l) true := by
  have loop : ∀ (d i : Nat), i + d = l.length → Ev (fun k => laws_eqStringS.l0 k l l (i : Int)) true := by
    intro d
    induction d with
    | zero =>
      intro i hi
      exact Ev.step (fun k => by rw [laws_eqStringS.l0]) (Ev.neg (by omega) (Ev.const rfl))
    | succ d ih =>
      intro i hi
      have hlt : i < l.length := by omega
      refine Ev.step (fun k => by rw [laws_eqStringS.l0]) (Ev.pos (by omega) (Ev.pos (by omega) ?_))
      first
        | (refine Ev.pos rfl ?_; rw [inc (by omega)]; exact ih (i + 1) (by omega))
        | (refine Ev.pos (by omega) (Ev.pos rfl ?_); rw [inc (by omega)]; exact ih (i + 1) (by omega))
  have h0 : Ev (fun k => laws_eqStringS.l0 k l l 0) true := loop l.length 0 (by omega)
  unfold laws_eqStringS.f
  first
    | exact Ev.pos rfl h0
    | exact Ev.neg (by simp) h0
end Go.Proofs.Ytjiipeidginjnaa.PMarkS

