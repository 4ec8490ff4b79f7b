/- Out of YtjiipeidginjnaaPMkFactS: what the claim needs of it. Conditions: each declaration's own. -/
import Derived.Test.YtjiipeidginjnaaZFlnPx0
import Derived.Test.YtjiipeidginjnaaZFlnPMkInt
namespace Go.Proofs.Ytjiipeidginjnaa.LayI
open Go.RowKit Go.Proofs.Ytjiipeidginjnaa.P Go.Proofs.YtjiipeidginjnaaW.PrintWords Go.Proofs.YtjiipeidginjnaaW.PrintLast Go.Proofs.YtjiipeidginjnaaW.PrintMore Go.Proofs.Ytjiipeidginjnaa.Lay
attribute [local go_sem] max2_int min2_int max_two min_two max_three min_three max_four min_four
set_option linter.unusedVariables false
set_option linter.unusedSimpArgs false
set_option maxHeartbeats 8000000 in
set_option maxRecDepth 100000 in
theorem markFactS (v : Value) (ps : Pl) (a : Int) (w : World) (h : Row 2 (ePair eInt (eRow (Row 1 eInt))) w v ps) (h0 : 0 ≤ a) (h1 : a + ps.length ≤ 4611686018427387000) :
    Calls Try.prog 19 #[v, .int .i64 a] w fun e w' => e = .returned (.int .i64 (a + ps.length)) ∧ Wr w w' ps a := by
  have hin := in_row (in_pair in_int (in_eRow (in_row in_int))) _ _ _ h
  obtain ⟨A, n, c, rfl, hn, ass, hl, hpf, hr⟩ := h.open_
  have HF := Aside0.mk hpf
  have HN := Aside0.mk hn
  have HL := Aside0.mk hl
  have HR := Aside0.mk hr
  have HI := Aside0.mk hin
  have H1 := Aside0.mk h1
  have H0 := Aside0.mk h0
  clear hn hr hin h1 h0 h hl hpf
  have hu82 := Try.underlying82
  go_enter Try.func19, Try.ntmps19
  go_wp2
  go_loopg [1, 5] (n + 1) (fun kq v1 v5 w' => ∃ (x1 : Int) (x5 : Int), v1 = .int .i64 x1 ∧ v5 = .int .i64 x5 ∧ Aside0 (∃ i : Nat, x5 = (i : Int) ∧ i + kq = n + 1 ∧ x1 = a + ((ass.take i).flatten.length : Int) ∧ Wr w w' (ass.take i).flatten a) ∧ Aside0 (1 ≤ kq))
  case atStart => exact ⟨a, 0, rfl, rfl, ⟨0, rfl, by omega, by simp, by simpa using Wr.nil w a⟩, ⟨by omega⟩⟩
  case round =>
    obtain ⟨x1, x5, rfl, rfl, HX, HQ⟩ := hrel
    cases gk with
    | zero => exact absurd HQ.out (by omega)
    | succ k1 =>
      by_cases c3 : x5 < (n : Int)
      · obtain ⟨i, hi, hik, hx1, hw⟩ := HX.out
        have hil : i < ass.length := by have := HL.out; omega
        obtain ⟨g, rfl, hE⟩ := HR.out (by omega)
        have hEi := hE i hil
        have hb1 := H1.out
        have hpf := HF.out
        rw [hpf] at hb1
        have hsz := flat_lt hil
        have hb0 := H0.out
        have hn9 := HN.out
        have hx5 : x5.toNat = i := by omega
        have HH := Aside0.mk (show (i + 1) + k1 = n + 1 ∧ 1 ≤ k1 by omega)
        have HX5 := Aside0.mk (show wrap64 (x5 + 1) = ((i + 1 : Nat) : Int) by unfold wrap64; omega)
        have c3b0 : decide (x5 < (n : Int)) = true := decide_eq_true c3
        have p5 : (0 ≤ (x5 : Int)) = True := eq_true (by omega)
        have q5 : (x5 < (n : Int)) = True := eq_true c3
        obtain ⟨b1, b2, hA, hB, hab⟩ := (st_pair st_int (st_eRow (st_row st_int))) _ _ _ _ _ hw.hd hEi
        rw [← hx5] at hA hB
        have hlen : ass[i].length = b1.length + b2.length := by rw [hab]; exact List.length_append
        obtain ⟨⟨hf0, y0, hc0⟩, he0⟩ := hA
        have e0 := Aside0.mk he0
        have el0 : b1.length = 1 := by rw [he0]; rfl
        clear he0
        obtain ⟨u1, hc1, hf1, hi1, hrw1⟩ := hB
        obtain ⟨A1, n1, cc1, rfl, hz1⟩ := id hrw1
        clear hz1
        have ew0 : wrap64 (x1 + 1) = x1 + (b1.length : Int) := by rw [el0]; unfold wrap64; omega
        have HC1 := Aside0.mk (show 0 ≤ wrap64 (x1 + 1) ∧ wrap64 (x1 + 1) + (b2.length : Int) ≤ 4611686018427387000 by rw [ew0]; omega)
        have hfin : (wrap64 (x1 + 1) + (b2.length : Int)) = a + (((ass.take (i + 1)).flatten.length : Nat) : Int) := by rw [flat_take hil, List.length_append, hlen]; rw [ew0]; omega
        have HFIN := Aside0.mk hfin
        have HWX := Aside0.mk (And.intro hw (And.intro hab hx1))
        have EW0 := Aside0.mk ew0
        clear ew0 el0
        clear hfin hw hab hx1 hlen hEi hb1 hsz hb0 hn9 hx5 hpf HX HQ hik hi c3 hE
        go_wp2_with (first | ((with_reducible refine gate_store (t := 3) (p := 16) rfl ?_); refine store_event (t := 3) (p := 16) (v := ?vo_w8) (w1 := (wr.setCell ⟨g, x5.toNat * 2, none⟩ (.int .i64 x1))) ?hg ?ho ?hn ?hr ?_; (case ho => rfl); (case hg => rfl); (case hn => rfl); (case hr => first | (go_simp; done) | (go_simp; rfl)); intro w80 hw_; have WW0 : Wr wr w80 b1 (x1) := (by rw [hw_, e0.out]; exact Wr.store ⟨hf0, y0, hc0⟩ _); clear hw_; obtain ⟨hf1_, v1_, hc1_, ev1_⟩ := WW0.hd.cell g (x5.toNat * 2 + 1) _ hc1 hf1; (rcases ev1_ with ev1_ | ev1_); rotate_left; (exact absurd ev1_.1 hi1); subst ev1_; have hrw1_ := st_row st_int _ _ _ _ WW0.hd hrw1; clear hc1 hf1 hrw1; have hc1 := hc1_; have hf1 := hf1_; have hrw1 := hrw1_; clear hc1_ hf1_ hrw1_) | ((with_reducible refine gate_callee (f := 30) rfl ?_); refine goesL_ (some 25) rfl rfl Try.func30 (by kernel_rfl) rfl #[.slice A1 n1 cc1, .int .i64 (wrap64 (x1 + 1))] rfl (by (try simp only [List.map_toArray, List.map_cons, List.map_nil]); first | done | rfl) ?_; (with_reducible refine (markIntS _ b2 (wrap64 (x1 + 1)) _ hrw1 ?k0 ?k1).mono ?_); (case k0 => exact HC1.out.1); (case k1 => exact HC1.out.2); rintro e w81 ⟨rfl, WW1⟩; refine ⟨_, rfl, ?_⟩; skip))
        have W2 : Wr w w81 (ass.take (i + 1)).flatten a := by
          obtain ⟨hw, hab, hx1⟩ := HWX.out
          rw [flat_take hil, hab]
          refine Wr.trans hw ?_ (fun p hp => HI.out p (by rw [HF.out]; exact flat_mem hp))
          rw [← hx1]
          have WA := WW0
          have WB := WW1
          rw [EW0.out] at WB
          refine Wr.trans WA WB (fun p hp => ?_)
          have hm := HI.out p (by rw [HF.out]; exact List.mem_flatten.2 ⟨_, List.getElem_mem hil, by rw [hab]; exact List.mem_append_left _ hp⟩)
          exact Nat.lt_of_lt_of_le hm hw.hd.size
        go_roundg k1
        case measure => exact Nat.lt_succ_self _
        case rel => exact ⟨_, _, rfl, rfl, ⟨i + 1, HX5.out, HH.out.1, HFIN.out, W2⟩, ⟨HH.out.2⟩⟩
      · have c3b0 : decide (x5 < (n : Int)) = false := decide_eq_false c3
        go_wp2
        go_ret
        obtain ⟨i, hi, hik, hx1, hw⟩ := HX.out
        have hq := HQ.out
        have hi' : i = n := by omega
        subst hi'
        rw [flat_all ass HL.out, ← HF.out] at hx1 hw
        exact ⟨by rw [hx1]; rfl, hw⟩
end Go.Proofs.Ytjiipeidginjnaa.LayI

