/- Out of YtjiipeidginjnaaPMkInt: what the claim needs of it. Conditions: each declaration's own. -/
import Derived.Test.YtjiipeidginjnaaZFlnPx0
import Derived.Test.YtjiipeidginjnaaZFlnPLay
namespace Go.Proofs.Ytjiipeidginjnaa.LayI
open Go.RowKit Go.Proofs.Ytjiipeidginjnaa.P Go.Proofs.YtjiipeidginjnaaW.PrintWords Go.Proofs.YtjiipeidginjnaaW.PrintLast Go.Proofs.YtjiipeidginjnaaW.PrintMore Go.Proofs.Ytjiipeidginjnaa.Lay
attribute [local go_sem] max2_int min2_int max_two min_two max_three min_three max_four min_four
set_option linter.unusedVariables false
set_option linter.unusedSimpArgs false

theorem flat_le {ass : List Pl} {i : Nat} : ((ass.take i).flatten).length ≤ ass.flatten.length := by
  conv => rhs; rw [← List.take_append_drop i ass, List.flatten_append, List.length_append]
  omega
theorem flat_lt {ass : List Pl} {i : Nat} (h : i < ass.length) : ((ass.take i).flatten).length + ass[i].length ≤ ass.flatten.length := by
  have := flat_le (ass := ass) (i := i + 1)
  rw [flat_take h, List.length_append] at this
  exact this
theorem flat_all (ass : List Pl) {n : Nat} (h : ass.length = n) : ass.take n = ass := List.take_of_length_le (by omega)
theorem flat_mem {ass : List Pl} {i : Nat} {p : Nat × Nat} (h : p ∈ (ass.take i).flatten) : p ∈ ass.flatten := by
  rw [← List.take_append_drop i ass, List.flatten_append]
  exact List.mem_append_left _ h
set_option maxHeartbeats 8000000 in
set_option maxRecDepth 100000 in
theorem markIntS (v : Value) (ps : Pl) (a : Int) (w : World) (h : Row 1 eInt w v ps) (h0 : 0 ≤ a) (h1 : a + ps.length ≤ 4611686018427387000) :
    Calls Try.prog 30 #[v, .int .i64 a] w fun e w' => e = .returned (.int .i64 (a + ps.length)) ∧ Wr w w' ps a := by
  have hin := in_row in_int _ _ _ h
  obtain ⟨A, n, c, rfl, hn, ass, hl, hpf, hr⟩ := h.open_
  have HF := Aside0.mk hpf
  have HN := Aside0.mk hn
  have HL := Aside0.mk hl
  have HR := Aside0.mk hr
  have HI := Aside0.mk hin
  have H1 := Aside0.mk h1
  have H0 := Aside0.mk h0
  clear hn hr hin h1 h0 h hl hpf
  go_enter Try.func30, Try.ntmps30
  go_wp2
  go_loopg [1, 5] (n + 1) (fun kq v1 v5 w' => ∃ (x1 : Int) (x5 : Int), v1 = .int .i64 x1 ∧ v5 = .int .i64 x5 ∧ Aside0 (∃ i : Nat, x5 = (i : Int) ∧ i + kq = n + 1 ∧ x1 = a + ((ass.take i).flatten.length : Int) ∧ Wr w w' (ass.take i).flatten a) ∧ Aside0 (1 ≤ kq))
  case atStart => exact ⟨a, 0, rfl, rfl, ⟨0, rfl, by omega, by simp, by simpa using Wr.nil w a⟩, ⟨by omega⟩⟩
  case round =>
    obtain ⟨x1, x5, rfl, rfl, HX, HQ⟩ := hrel
    cases gk with
    | zero => exact absurd HQ.out (by omega)
    | succ k1 =>
      by_cases c3 : x5 < (n : Int)
      · obtain ⟨i, hi, hik, hx1, hw⟩ := HX.out
        have hil : i < ass.length := by have := HL.out; omega
        obtain ⟨g, rfl, hE⟩ := HR.out (by omega)
        obtain ⟨hic, hps⟩ := st_int _ _ _ _ _ hw.hd (hE i hil)
        have hsz : ((ass.take i).flatten).length + 1 ≤ ass.flatten.length := by
          have := flat_lt hil; rw [hps] at this; simpa using this
        have hb1 := H1.out
        have hpf := HF.out
        rw [hpf] at hb1
        have hb0 := H0.out
        have hn9 := HN.out
        obtain ⟨hf, y, hc⟩ := hic
        rw [Nat.mul_one] at hc hf
        have hx5 : x5.toNat = i := by omega
        have hcell : wr.cell? ⟨g, x5.toNat, none⟩ = some (.int .i64 y) := by rw [hx5]; exact hc
        have hfro : wr.frozen? ⟨g, x5.toNat, none⟩ = false := by rw [hx5]; exact hf
        have W2 : Aside0 (Wr w (wr.setCell ⟨g, x5.toNat, none⟩ (.int .i64 x1)) (ass.take (i + 1)).flatten a) := ⟨by
          rw [flat_take hil, hps, Nat.mul_one]
          refine Wr.trans hw ?_ (fun p hp => HI.out p (by rw [HF.out]; exact flat_mem hp))
          rw [← hx1, hx5]
          exact Wr.store ⟨hf, y, hc⟩ x1⟩
        have hx1' : wrap64 (x1 + 1) = a + (((ass.take (i + 1)).flatten.length : Nat) : Int) := by
          rw [flat_take hil, hps, List.length_append, List.length_singleton]
          unfold wrap64; omega
        have hx5' : wrap64 (x5 + 1) = ((i + 1 : Nat) : Int) := by unfold wrap64; omega
        have HH := Aside0.mk (show (i + 1) + k1 = n + 1 ∧ 1 ≤ k1 by omega)
        have HX1 := Aside0.mk hx1'
        have HX5 := Aside0.mk hx5'
        have c3b0 : decide (x5 < (n : Int)) = true := decide_eq_true c3
        have p5 : (0 ≤ (x5 : Int)) = True := eq_true (by omega)
        have q5 : (x5 < (n : Int)) = True := eq_true c3
        clear hpf HX HQ hx1' hx5' hsz hb1 hb0 hn9 hik hx1 hi hil hx5 hc hf hE c3 hw hps
        go_wp2_with (first | ((with_reducible refine gate_store (t := 3) (p := 15) rfl ?_); refine store_event (t := 3) (p := 15) (v := ?vo_w8) (w1 := (wr.setCell ⟨g, (x5 : Int).toNat, none⟩ (.int .i64 x1))) ?hg ?ho ?hn ?hr ?_; (case ho => rfl); (case hg => rfl); (case hn => rfl); (case hr => first | (go_simp; done) | (go_simp; rfl)); intro w8 hw; rw [← hw] at W2; clear hw))
        go_roundg k1
        case measure => exact Nat.lt_succ_self _
        case rel => exact ⟨_, _, rfl, rfl, ⟨i + 1, HX5.out, HH.out.1, HX1.out, W2.out⟩, ⟨HH.out.2⟩⟩
      · have c3b0 : decide (x5 < (n : Int)) = false := decide_eq_false c3
        go_wp2
        go_ret
        obtain ⟨i, hi, hik, hx1, hw⟩ := HX.out
        have hq := HQ.out
        have hi' : i = n := by omega
        subst hi'
        rw [flat_all ass HL.out, ← HF.out] at hx1 hw
        exact ⟨by rw [hx1]; rfl, hw⟩
end Go.Proofs.Ytjiipeidginjnaa.LayI

