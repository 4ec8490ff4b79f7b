/- Several texts in one: what the claim needs of them. Conditions: each declaration's own. -/
import Derived.Test.YtmfifjbbjjdacaaZAddM5
import Derived.Test.YtmfifjbbjjdacaaZAddM4
namespace Go.Proofs.Ytmfifjbbjjdacaa.V
open Go Go.Proofs
set_option linter.unusedSimpArgs false
theorem specAdd_r (a b : List Cnt) (hla : a.length ≤ 1048576) (hlb : b.length ≤ 1048576) (ha : ∀ x ∈ a, x.tuple.length ≤ 1048576) (hb : ∀ x ∈ b, x.tuple.length ≤ 1048576) : Ret XX 7 [Ar a, Ar b] (.own 2 (rowsE (addC a b))) := by
  refine ret_W rfl Try.func7 rfl rfl (by simp [Try.f7]) ?_
  simp only [Try.f7]
  have sa : ∀ x ∈ a, Sm x.tuple := fun x hx => by have := ha x hx; unfold Sm; omega
  have sb : ∀ x ∈ b, Sm x.tuple := fun x hx => by have := hb x hx; unfold Sm; omega
  have h1 := cv (l20Sorted_r a (by unfold Sm; omega) sa)
  have h2 := cv (l20Sorted_r b (by unfold Sm; omega) sb)
  cases ea : areOrd a
  · repeat' first | refine W_seq ?_ | refine W_block ?_ | refine W_skip ?_ | refine W_ret ?_ | refine W_exit ?_ | refine xb_hit ?_ | refine xb_miss (by decide) ?_ | (apply W_reg; (simp [h1, ea]; exact .r _)) | (apply W_draw (id := 10) [0, 0, 2, 7, 15, 31, 31, 95, 255, 511, 1023, 1023, 4095, 8191, 16383, 1023, 1023, 99327, 230399, 492543, 1048575, 2097151, 4194303, 8388607] rfl rfl; (· simp; exact .r _); (· simp [h1, ea]; exact .r _); (· first | trivial | simp)) | (apply W_draw (id := 11) [0, 0, 0, 0, 12, 28, 60, 126, 0, 0, 768, 1792, 3840, 8190, 16382, 32767, 65535] rfl rfl; (· simp; exact .r _); (· simp [h1, ea]; exact .r _); (· first | trivial | simp)) | (apply W_draw (id := 13) [0, 0, 2, 7, 15, 31, 31, 127, 255, 511, 31, 31, 3103, 7199, 15391, 32767, 65535, 131071] rfl rfl; (· simp; exact .r _); (· simp [h1, ea]; exact .r _); (· first | trivial | simp)) | (apply W_draw (id := 14) [0, 0, 0, 0, 12, 28, 60, 126, 0, 0, 768, 1792, 3840, 8190, 16382, 32767, 65535] rfl rfl; (· simp; exact .r _); (· simp [h1, ea]; exact .r _); (· first | trivial | simp)) | (apply W_draw (id := 7) [0, 0, 0, 0, 12, 28, 60, 126, 0, 0, 768, 1792, 3840, 0, 0, 24576, 57344, 122880, 261888, 524286, 1048574, 2097151, 4194303] rfl rfl; (· simp; exact .r _); (· simp [h1, ea]; exact .r _); (· first | trivial | simp))
    refine W_cond (by simp; exact .r _) (fun hc => ?_) (fun hc => ?_)
    · repeat' first | refine W_seq ?_ | refine W_block ?_ | refine W_skip ?_ | refine W_ret ?_ | refine W_exit ?_ | refine xb_hit ?_ | refine xb_miss (by decide) ?_ | (apply W_reg; (simp; exact .r _)) | (apply W_draw (id := 10) [0, 0, 2, 7, 15, 31, 31, 95, 255, 511, 1023, 1023, 4095, 8191, 16383, 1023, 1023, 99327, 230399, 492543, 1048575, 2097151, 4194303, 8388607] rfl rfl; (· simp; exact .r _); (· simp; exact .r _); (· first | trivial | simp)) | (apply W_draw (id := 11) [0, 0, 0, 0, 12, 28, 60, 126, 0, 0, 768, 1792, 3840, 8190, 16382, 32767, 65535] rfl rfl; (· simp; exact .r _); (· simp; exact .r _); (· first | trivial | simp)) | (apply W_draw (id := 13) [0, 0, 2, 7, 15, 31, 31, 127, 255, 511, 31, 31, 3103, 7199, 15391, 32767, 65535, 131071] rfl rfl; (· simp; exact .r _); (· simp; exact .r _); (· first | trivial | simp)) | (apply W_draw (id := 14) [0, 0, 0, 0, 12, 28, 60, 126, 0, 0, 768, 1792, 3840, 8190, 16382, 32767, 65535] rfl rfl; (· simp; exact .r _); (· simp; exact .r _); (· first | trivial | simp)) | (apply W_draw (id := 7) [0, 0, 0, 0, 12, 28, 60, 126, 0, 0, 768, 1792, 3840, 0, 0, 24576, 57344, 122880, 261888, 524286, 1048574, 2097151, 4194303] rfl rfl; (· simp; exact .r _); (· simp; exact .r _); (· first | trivial | simp))
      simp [addC, ea]
    · cases hc
  cases eb : areOrd b
  · repeat' first | refine W_seq ?_ | refine W_block ?_ | refine W_skip ?_ | refine W_ret ?_ | refine W_exit ?_ | refine xb_hit ?_ | refine xb_miss (by decide) ?_ | (apply W_reg; (simp [h1, h2, ea, eb]; exact .r _)) | (apply W_draw (id := 10) [0, 0, 2, 7, 15, 31, 31, 95, 255, 511, 1023, 1023, 4095, 8191, 16383, 1023, 1023, 99327, 230399, 492543, 1048575, 2097151, 4194303, 8388607] rfl rfl; (· simp; exact .r _); (· simp [h1, h2, ea, eb]; exact .r _); (· first | trivial | simp)) | (apply W_draw (id := 11) [0, 0, 0, 0, 12, 28, 60, 126, 0, 0, 768, 1792, 3840, 8190, 16382, 32767, 65535] rfl rfl; (· simp; exact .r _); (· simp [h1, h2, ea, eb]; exact .r _); (· first | trivial | simp)) | (apply W_draw (id := 13) [0, 0, 2, 7, 15, 31, 31, 127, 255, 511, 31, 31, 3103, 7199, 15391, 32767, 65535, 131071] rfl rfl; (· simp; exact .r _); (· simp [h1, h2, ea, eb]; exact .r _); (· first | trivial | simp)) | (apply W_draw (id := 14) [0, 0, 0, 0, 12, 28, 60, 126, 0, 0, 768, 1792, 3840, 8190, 16382, 32767, 65535] rfl rfl; (· simp; exact .r _); (· simp [h1, h2, ea, eb]; exact .r _); (· first | trivial | simp)) | (apply W_draw (id := 7) [0, 0, 0, 0, 12, 28, 60, 126, 0, 0, 768, 1792, 3840, 0, 0, 24576, 57344, 122880, 261888, 524286, 1048574, 2097151, 4194303] rfl rfl; (· simp; exact .r _); (· simp [h1, h2, ea, eb]; exact .r _); (· first | trivial | simp))
    refine W_cond (by simp; exact .r _) (fun hc => ?_) (fun hc => ?_)
    · repeat' first | refine W_seq ?_ | refine W_block ?_ | refine W_skip ?_ | refine W_ret ?_ | refine W_exit ?_ | refine xb_hit ?_ | refine xb_miss (by decide) ?_ | (apply W_reg; (simp; exact .r _)) | (apply W_draw (id := 10) [0, 0, 2, 7, 15, 31, 31, 95, 255, 511, 1023, 1023, 4095, 8191, 16383, 1023, 1023, 99327, 230399, 492543, 1048575, 2097151, 4194303, 8388607] rfl rfl; (· simp; exact .r _); (· simp; exact .r _); (· first | trivial | simp)) | (apply W_draw (id := 11) [0, 0, 0, 0, 12, 28, 60, 126, 0, 0, 768, 1792, 3840, 8190, 16382, 32767, 65535] rfl rfl; (· simp; exact .r _); (· simp; exact .r _); (· first | trivial | simp)) | (apply W_draw (id := 13) [0, 0, 2, 7, 15, 31, 31, 127, 255, 511, 31, 31, 3103, 7199, 15391, 32767, 65535, 131071] rfl rfl; (· simp; exact .r _); (· simp; exact .r _); (· first | trivial | simp)) | (apply W_draw (id := 14) [0, 0, 0, 0, 12, 28, 60, 126, 0, 0, 768, 1792, 3840, 8190, 16382, 32767, 65535] rfl rfl; (· simp; exact .r _); (· simp; exact .r _); (· first | trivial | simp)) | (apply W_draw (id := 7) [0, 0, 0, 0, 12, 28, 60, 126, 0, 0, 768, 1792, 3840, 0, 0, 24576, 57344, 122880, 261888, 524286, 1048574, 2097151, 4194303] rfl rfl; (· simp; exact .r _); (· simp; exact .r _); (· first | trivial | simp))
      simp [addC, eb]
    · cases hc
  repeat' first | refine W_seq ?_ | refine W_block ?_ | refine W_skip ?_ | refine W_ret ?_ | refine W_exit ?_ | refine xb_hit ?_ | refine xb_miss (by decide) ?_ | (apply W_reg; (simp [h1, h2, ea, eb]; exact .r _)) | (apply W_draw (id := 10) [0, 0, 2, 7, 15, 31, 31, 95, 255, 511, 1023, 1023, 4095, 8191, 16383, 1023, 1023, 99327, 230399, 492543, 1048575, 2097151, 4194303, 8388607] rfl rfl; (· simp; exact .r _); (· simp [h1, h2, ea, eb]; exact .r _); (· first | trivial | simp)) | (apply W_draw (id := 11) [0, 0, 0, 0, 12, 28, 60, 126, 0, 0, 768, 1792, 3840, 8190, 16382, 32767, 65535] rfl rfl; (· simp; exact .r _); (· simp [h1, h2, ea, eb]; exact .r _); (· first | trivial | simp)) | (apply W_draw (id := 13) [0, 0, 2, 7, 15, 31, 31, 127, 255, 511, 31, 31, 3103, 7199, 15391, 32767, 65535, 131071] rfl rfl; (· simp; exact .r _); (· simp [h1, h2, ea, eb]; exact .r _); (· first | trivial | simp)) | (apply W_draw (id := 14) [0, 0, 0, 0, 12, 28, 60, 126, 0, 0, 768, 1792, 3840, 8190, 16382, 32767, 65535] rfl rfl; (· simp; exact .r _); (· simp [h1, h2, ea, eb]; exact .r _); (· first | trivial | simp)) | (apply W_draw (id := 7) [0, 0, 0, 0, 12, 28, 60, 126, 0, 0, 768, 1792, 3840, 0, 0, 24576, 57344, 122880, 261888, 524286, 1048574, 2097151, 4194303] rfl rfl; (· simp; exact .r _); (· simp [h1, h2, ea, eb]; exact .r _); (· first | trivial | simp))
  refine W_cond (by simp; exact .r _) (fun hc => ?_) (fun hc => ?_)
  · cases hc
  repeat' first | refine W_seq ?_ | refine W_block ?_ | refine W_skip ?_ | refine W_ret ?_ | refine W_exit ?_ | refine xb_hit ?_ | refine xb_miss (by decide) ?_ | (apply W_reg; (simp; exact .r _)) | (apply W_draw (id := 10) [0, 0, 2, 7, 15, 31, 31, 95, 255, 511, 1023, 1023, 4095, 8191, 16383, 1023, 1023, 99327, 230399, 492543, 1048575, 2097151, 4194303, 8388607] rfl rfl; (· simp; exact .r _); (· simp; exact .r _); (· first | trivial | simp)) | (apply W_draw (id := 11) [0, 0, 0, 0, 12, 28, 60, 126, 0, 0, 768, 1792, 3840, 8190, 16382, 32767, 65535] rfl rfl; (· simp; exact .r _); (· simp; exact .r _); (· first | trivial | simp)) | (apply W_draw (id := 13) [0, 0, 2, 7, 15, 31, 31, 127, 255, 511, 31, 31, 3103, 7199, 15391, 32767, 65535, 131071] rfl rfl; (· simp; exact .r _); (· simp; exact .r _); (· first | trivial | simp)) | (apply W_draw (id := 14) [0, 0, 0, 0, 12, 28, 60, 126, 0, 0, 768, 1792, 3840, 8190, 16382, 32767, 65535] rfl rfl; (· simp; exact .r _); (· simp; exact .r _); (· first | trivial | simp)) | (apply W_draw (id := 7) [0, 0, 0, 0, 12, 28, 60, 126, 0, 0, 768, 1792, 3840, 0, 0, 24576, 57344, 122880, 261888, 524286, 1048574, 2097151, 4194303] rfl rfl; (· simp; exact .r _); (· simp; exact .r _); (· first | trivial | simp))
  refine W_loop (n := (a.length + b.length)) (fun n s => ∃ i : Nat, ∃ k : Nat, ∃ acc : List Cnt, n = a.length + b.length - (i + k) ∧ s.nt = 133 ∧ s.tm 0 = Ar a ∧ s.tm 1 = Ar b ∧ s.tm 5 = .ref 0 acc.length [] ∧ s.tm 6 = In i ∧ s.tm 7 = In k ∧ i ≤ a.length ∧ k ≤ b.length ∧ s.σ.ob 0 = .arr (.own 0) 0 2 (rowsE acc) ∧ 1 ≤ s.σ.n ∧ acc.length ≤ i + k ∧ AddM.mrg Cnt.tuple cAdd cLt a b = acc ++ AddM.mrg Cnt.tuple cAdd cLt (a.drop i) (b.drop k)) ⟨0, 0, [], by simp⟩ ?_
  rintro n ⟨nt, tm, σ⟩ ⟨i, k, acc, rfl, hnt, h0, h1, h5, h6, h7, hi, hk, ho0, hn, hl, heq⟩
  simp only at hnt h0 h1 h5 h6 h7 ho0 hn
  subst hnt
  have e0 : ¬ (0 = σ.n) := by omega
  have e0' : ¬ (σ.n = 0) := by omega
  have hbl : acc.length + 1 < 1099511627776 := by omega
  by_cases hA : i < a.length
  · have hta : a[i].tuple.length ≤ 1048576 := ha _ (List.getElem_mem hA)
    have hta' : min a[i].tuple.length 1099511627776 = a[i].tuple.length := by omega
    have hta2 : a[i].tuple.length < 1099511627776 := by omega
    by_cases hB : k < b.length
    · have htb : b[k].tuple.length ≤ 1048576 := hb _ (List.getElem_mem hB)
      have htb2 : b[k].tuple.length < 1099511627776 := by omega
      have hne : ¬ (k = b.length) := by omega
      have hne' : ¬ (i = a.length) := by omega
      have hne2 : ¬ ((k : Int) = b.length) := by omega
      have hne2' : ¬ ((i : Int) = a.length) := by omega
      have hl1 := cv (l2Less_r a[i].tuple b[k].tuple (by unfold Sm; omega))
      have hl2 := cv (l2Less_r b[k].tuple a[i].tuple (by unfold Sm; omega))
      by_cases hlt : cmpI a[i].tuple b[k].tuple < 0
      · repeat' first | refine W_seq ?_ | refine W_block ?_ | refine W_skip ?_ | refine W_ret ?_ | refine W_exit ?_ | refine xb_hit ?_ | refine xb_miss (by decide) ?_ | (apply W_reg; (simp [h0, h1, h5, h6, h7, ho0, hn, hA, hB, hl1, hlt, hne, hne2]; exact .r _)) | (apply W_draw (id := 10) [0, 0, 2, 7, 15, 31, 31, 95, 255, 511, 1023, 1023, 4095, 8191, 16383, 1023, 1023, 99327, 230399, 492543, 1048575, 2097151, 4194303, 8388607] rfl rfl; (· simp; exact .r _); (· simp [h0, h1, h5, h6, h7, ho0, hn, hA, hB, hl1, hlt, hne, hne2]; exact .r _); (· first | trivial | simp)) | (apply W_draw (id := 11) [0, 0, 0, 0, 12, 28, 60, 126, 0, 0, 768, 1792, 3840, 8190, 16382, 32767, 65535] rfl rfl; (· simp; exact .r _); (· simp [h0, h1, h5, h6, h7, ho0, hn, hA, hB, hl1, hlt, hne, hne2]; exact .r _); (· first | trivial | simp)) | (apply W_draw (id := 13) [0, 0, 2, 7, 15, 31, 31, 127, 255, 511, 31, 31, 3103, 7199, 15391, 32767, 65535, 131071] rfl rfl; (· simp; exact .r _); (· simp [h0, h1, h5, h6, h7, ho0, hn, hA, hB, hl1, hlt, hne, hne2]; exact .r _); (· first | trivial | simp)) | (apply W_draw (id := 14) [0, 0, 0, 0, 12, 28, 60, 126, 0, 0, 768, 1792, 3840, 8190, 16382, 32767, 65535] rfl rfl; (· simp; exact .r _); (· simp [h0, h1, h5, h6, h7, ho0, hn, hA, hB, hl1, hlt, hne, hne2]; exact .r _); (· first | trivial | simp)) | (apply W_draw (id := 7) [0, 0, 0, 0, 12, 28, 60, 126, 0, 0, 768, 1792, 3840, 0, 0, 24576, 57344, 122880, 261888, 524286, 1048574, 2097151, 4194303] rfl rfl; (· simp; exact .r _); (· simp [h0, h1, h5, h6, h7, ho0, hn, hA, hB, hl1, hlt, hne, hne2]; exact .r _); (· first | trivial | simp))
        refine W_cond (by simp [h0, h1, h5, h6, h7, ho0, hn]; exact .r _) (fun hc => ?_) (fun hc => ?_)
        · repeat' first | refine W_seq ?_ | refine W_block ?_ | refine W_skip ?_ | refine W_ret ?_ | refine W_exit ?_ | refine xb_hit ?_ | refine xb_miss (by decide) ?_ | (apply W_reg; (simp [h0, h1, h5, h6, h7, ho0, hn, hA, hB, hl1, hlt, hne, hne2]; exact .r _)) | (apply W_draw (id := 10) [0, 0, 2, 7, 15, 31, 31, 95, 255, 511, 1023, 1023, 4095, 8191, 16383, 1023, 1023, 99327, 230399, 492543, 1048575, 2097151, 4194303, 8388607] rfl rfl; (· simp; exact .r _); (· simp [h0, h1, h5, h6, h7, ho0, hn, hA, hB, hl1, hlt, hne, hne2]; exact .r _); (· first | trivial | simp)) | (apply W_draw (id := 11) [0, 0, 0, 0, 12, 28, 60, 126, 0, 0, 768, 1792, 3840, 8190, 16382, 32767, 65535] rfl rfl; (· simp; exact .r _); (· simp [h0, h1, h5, h6, h7, ho0, hn, hA, hB, hl1, hlt, hne, hne2]; exact .r _); (· first | trivial | simp)) | (apply W_draw (id := 13) [0, 0, 2, 7, 15, 31, 31, 127, 255, 511, 31, 31, 3103, 7199, 15391, 32767, 65535, 131071] rfl rfl; (· simp; exact .r _); (· simp [h0, h1, h5, h6, h7, ho0, hn, hA, hB, hl1, hlt, hne, hne2]; exact .r _); (· first | trivial | simp)) | (apply W_draw (id := 14) [0, 0, 0, 0, 12, 28, 60, 126, 0, 0, 768, 1792, 3840, 8190, 16382, 32767, 65535] rfl rfl; (· simp; exact .r _); (· simp [h0, h1, h5, h6, h7, ho0, hn, hA, hB, hl1, hlt, hne, hne2]; exact .r _); (· first | trivial | simp)) | (apply W_draw (id := 7) [0, 0, 0, 0, 12, 28, 60, 126, 0, 0, 768, 1792, 3840, 0, 0, 24576, 57344, 122880, 261888, 524286, 1048574, 2097151, 4194303] rfl rfl; (· simp; exact .r _); (· simp [h0, h1, h5, h6, h7, ho0, hn, hA, hB, hl1, hlt, hne, hne2]; exact .r _); (· first | trivial | simp))
          refine W_cond (by simp [h0, h1, h5, h6, h7, ho0, hn]; exact .r _) (fun hd => ?_) (fun hd => ?_)
          · repeat' first | refine W_seq ?_ | refine W_block ?_ | refine W_skip ?_ | refine W_ret ?_ | refine W_exit ?_ | refine xb_hit ?_ | refine xb_miss (by decide) ?_ | (apply W_reg; (simp [h0, h1, h5, h6, h7, ho0, hn, hA, hB, hta2, hbl, e0, e0']; exact .r _)) | (apply W_draw (id := 10) [0, 0, 2, 7, 15, 31, 31, 95, 255, 511, 1023, 1023, 4095, 8191, 16383, 1023, 1023, 99327, 230399, 492543, 1048575, 2097151, 4194303, 8388607] rfl rfl; (· simp; exact .r _); (· simp [h0, h1, h5, h6, h7, ho0, hn, hA, hB, hta2, hbl, e0, e0']; exact .r _); (· first | trivial | simp)) | (apply W_draw (id := 11) [0, 0, 0, 0, 12, 28, 60, 126, 0, 0, 768, 1792, 3840, 8190, 16382, 32767, 65535] rfl rfl; (· simp; exact .r _); (· simp [h0, h1, h5, h6, h7, ho0, hn, hA, hB, hta2, hbl, e0, e0']; exact .r _); (· first | trivial | simp)) | (apply W_draw (id := 13) [0, 0, 2, 7, 15, 31, 31, 127, 255, 511, 31, 31, 3103, 7199, 15391, 32767, 65535, 131071] rfl rfl; (· simp; exact .r _); (· simp [h0, h1, h5, h6, h7, ho0, hn, hA, hB, hta2, hbl, e0, e0']; exact .r _); (· first | trivial | simp)) | (apply W_draw (id := 14) [0, 0, 0, 0, 12, 28, 60, 126, 0, 0, 768, 1792, 3840, 8190, 16382, 32767, 65535] rfl rfl; (· simp; exact .r _); (· simp [h0, h1, h5, h6, h7, ho0, hn, hA, hB, hta2, hbl, e0, e0']; exact .r _); (· first | trivial | simp)) | (apply W_draw (id := 7) [0, 0, 0, 0, 12, 28, 60, 126, 0, 0, 768, 1792, 3840, 0, 0, 24576, 57344, 122880, 261888, 524286, 1048574, 2097151, 4194303] rfl rfl; (· simp; exact .r _); (· simp [h0, h1, h5, h6, h7, ho0, hn, hA, hB, hta2, hbl, e0, e0']; exact .r _); (· first | trivial | simp))
            exact ⟨_, (by omega), i + 1, k, acc ++ [a[i]], rfl, rfl, (by first | assumption | (simp [h0, h1, h5, h6, h7, ho0, hn, rowsE_append, e0, e0', rowsE]; done) | (simp [h0, h1, h5, h6, h7, ho0, hn, rowsE_append, e0, e0', rowsE]; omega) | (simp [h0, h1, h5, h6, h7, ho0, hn, rowsE_append, e0, e0', rowsE]; exact wrap_succ (by omega))), (by first | assumption | (simp [h0, h1, h5, h6, h7, ho0, hn, rowsE_append, e0, e0', rowsE]; done) | (simp [h0, h1, h5, h6, h7, ho0, hn, rowsE_append, e0, e0', rowsE]; omega) | (simp [h0, h1, h5, h6, h7, ho0, hn, rowsE_append, e0, e0', rowsE]; exact wrap_succ (by omega))), (by first | assumption | (simp [h0, h1, h5, h6, h7, ho0, hn, rowsE_append, e0, e0', rowsE]; done) | (simp [h0, h1, h5, h6, h7, ho0, hn, rowsE_append, e0, e0', rowsE]; omega) | (simp [h0, h1, h5, h6, h7, ho0, hn, rowsE_append, e0, e0', rowsE]; exact wrap_succ (by omega))), (by first | assumption | (simp [h0, h1, h5, h6, h7, ho0, hn, rowsE_append, e0, e0', rowsE]; done) | (simp [h0, h1, h5, h6, h7, ho0, hn, rowsE_append, e0, e0', rowsE]; omega) | (simp [h0, h1, h5, h6, h7, ho0, hn, rowsE_append, e0, e0', rowsE]; exact wrap_succ (by omega))), (by first | assumption | (simp [h0, h1, h5, h6, h7, ho0, hn, rowsE_append, e0, e0', rowsE]; done) | (simp [h0, h1, h5, h6, h7, ho0, hn, rowsE_append, e0, e0', rowsE]; omega) | (simp [h0, h1, h5, h6, h7, ho0, hn, rowsE_append, e0, e0', rowsE]; exact wrap_succ (by omega))), by omega, (by first | assumption | (simp [h0, h1, h5, h6, h7, ho0, hn, rowsE_append, e0, e0', rowsE]; done) | (simp [h0, h1, h5, h6, h7, ho0, hn, rowsE_append, e0, e0', rowsE]; omega) | (simp [h0, h1, h5, h6, h7, ho0, hn, rowsE_append, e0, e0', rowsE]; exact wrap_succ (by omega))), (by first | assumption | (simp [h0, h1, h5, h6, h7, ho0, hn, rowsE_append, e0, e0', rowsE]; done) | (simp [h0, h1, h5, h6, h7, ho0, hn, rowsE_append, e0, e0', rowsE]; omega) | (simp [h0, h1, h5, h6, h7, ho0, hn, rowsE_append, e0, e0', rowsE]; exact wrap_succ (by omega))), (by first | assumption | (simp [h0, h1, h5, h6, h7, ho0, hn, rowsE_append, e0, e0', rowsE]; done) | (simp [h0, h1, h5, h6, h7, ho0, hn, rowsE_append, e0, e0', rowsE]; omega) | (simp [h0, h1, h5, h6, h7, ho0, hn, rowsE_append, e0, e0', rowsE]; exact wrap_succ (by omega))), by (simp; omega), by (rw [heq, List.drop_eq_getElem_cons hA, List.drop_eq_getElem_cons hB, AddM.mrg, if_pos (by simp [cLt, hlt])]; simp)⟩
          · simp at hd
        · simp at hc
      · by_cases hgt : cmpI b[k].tuple a[i].tuple < 0
        · repeat' first | refine W_seq ?_ | refine W_block ?_ | refine W_skip ?_ | refine W_ret ?_ | refine W_exit ?_ | refine xb_hit ?_ | refine xb_miss (by decide) ?_ | (apply W_reg; (simp [h0, h1, h5, h6, h7, ho0, hn, hA, hB, hl1, hlt, hne, hne2]; exact .r _)) | (apply W_draw (id := 10) [0, 0, 2, 7, 15, 31, 31, 95, 255, 511, 1023, 1023, 4095, 8191, 16383, 1023, 1023, 99327, 230399, 492543, 1048575, 2097151, 4194303, 8388607] rfl rfl; (· simp; exact .r _); (· simp [h0, h1, h5, h6, h7, ho0, hn, hA, hB, hl1, hlt, hne, hne2]; exact .r _); (· first | trivial | simp)) | (apply W_draw (id := 11) [0, 0, 0, 0, 12, 28, 60, 126, 0, 0, 768, 1792, 3840, 8190, 16382, 32767, 65535] rfl rfl; (· simp; exact .r _); (· simp [h0, h1, h5, h6, h7, ho0, hn, hA, hB, hl1, hlt, hne, hne2]; exact .r _); (· first | trivial | simp)) | (apply W_draw (id := 13) [0, 0, 2, 7, 15, 31, 31, 127, 255, 511, 31, 31, 3103, 7199, 15391, 32767, 65535, 131071] rfl rfl; (· simp; exact .r _); (· simp [h0, h1, h5, h6, h7, ho0, hn, hA, hB, hl1, hlt, hne, hne2]; exact .r _); (· first | trivial | simp)) | (apply W_draw (id := 14) [0, 0, 0, 0, 12, 28, 60, 126, 0, 0, 768, 1792, 3840, 8190, 16382, 32767, 65535] rfl rfl; (· simp; exact .r _); (· simp [h0, h1, h5, h6, h7, ho0, hn, hA, hB, hl1, hlt, hne, hne2]; exact .r _); (· first | trivial | simp)) | (apply W_draw (id := 7) [0, 0, 0, 0, 12, 28, 60, 126, 0, 0, 768, 1792, 3840, 0, 0, 24576, 57344, 122880, 261888, 524286, 1048574, 2097151, 4194303] rfl rfl; (· simp; exact .r _); (· simp [h0, h1, h5, h6, h7, ho0, hn, hA, hB, hl1, hlt, hne, hne2]; exact .r _); (· first | trivial | simp))
          refine W_cond (by simp [h0, h1, h5, h6, h7, ho0, hn]; exact .r _) (fun hc => ?_) (fun hc => ?_)
          · repeat' first | refine W_seq ?_ | refine W_block ?_ | refine W_skip ?_ | refine W_ret ?_ | refine W_exit ?_ | refine xb_hit ?_ | refine xb_miss (by decide) ?_ | (apply W_reg; (simp [h0, h1, h5, h6, h7, ho0, hn, hA, hB, hl1, hlt, hne, hne2]; exact .r _)) | (apply W_draw (id := 10) [0, 0, 2, 7, 15, 31, 31, 95, 255, 511, 1023, 1023, 4095, 8191, 16383, 1023, 1023, 99327, 230399, 492543, 1048575, 2097151, 4194303, 8388607] rfl rfl; (· simp; exact .r _); (· simp [h0, h1, h5, h6, h7, ho0, hn, hA, hB, hl1, hlt, hne, hne2]; exact .r _); (· first | trivial | simp)) | (apply W_draw (id := 11) [0, 0, 0, 0, 12, 28, 60, 126, 0, 0, 768, 1792, 3840, 8190, 16382, 32767, 65535] rfl rfl; (· simp; exact .r _); (· simp [h0, h1, h5, h6, h7, ho0, hn, hA, hB, hl1, hlt, hne, hne2]; exact .r _); (· first | trivial | simp)) | (apply W_draw (id := 13) [0, 0, 2, 7, 15, 31, 31, 127, 255, 511, 31, 31, 3103, 7199, 15391, 32767, 65535, 131071] rfl rfl; (· simp; exact .r _); (· simp [h0, h1, h5, h6, h7, ho0, hn, hA, hB, hl1, hlt, hne, hne2]; exact .r _); (· first | trivial | simp)) | (apply W_draw (id := 14) [0, 0, 0, 0, 12, 28, 60, 126, 0, 0, 768, 1792, 3840, 8190, 16382, 32767, 65535] rfl rfl; (· simp; exact .r _); (· simp [h0, h1, h5, h6, h7, ho0, hn, hA, hB, hl1, hlt, hne, hne2]; exact .r _); (· first | trivial | simp)) | (apply W_draw (id := 7) [0, 0, 0, 0, 12, 28, 60, 126, 0, 0, 768, 1792, 3840, 0, 0, 24576, 57344, 122880, 261888, 524286, 1048574, 2097151, 4194303] rfl rfl; (· simp; exact .r _); (· simp [h0, h1, h5, h6, h7, ho0, hn, hA, hB, hl1, hlt, hne, hne2]; exact .r _); (· first | trivial | simp))
            refine W_cond (by simp [h0, h1, h5, h6, h7, ho0, hn]; exact .r _) (fun hd => ?_) (fun hd => ?_)
            · simp at hd
            · repeat' first | refine W_seq ?_ | refine W_block ?_ | refine W_skip ?_ | refine W_ret ?_ | refine W_exit ?_ | refine xb_hit ?_ | refine xb_miss (by decide) ?_ | (apply W_reg; (simp [h0, h1, h5, h6, h7, ho0, hn, hA, hB, hl2, hgt, hne', hne2']; exact .r _)) | (apply W_draw (id := 10) [0, 0, 2, 7, 15, 31, 31, 95, 255, 511, 1023, 1023, 4095, 8191, 16383, 1023, 1023, 99327, 230399, 492543, 1048575, 2097151, 4194303, 8388607] rfl rfl; (· simp; exact .r _); (· simp [h0, h1, h5, h6, h7, ho0, hn, hA, hB, hl2, hgt, hne', hne2']; exact .r _); (· first | trivial | simp)) | (apply W_draw (id := 11) [0, 0, 0, 0, 12, 28, 60, 126, 0, 0, 768, 1792, 3840, 8190, 16382, 32767, 65535] rfl rfl; (· simp; exact .r _); (· simp [h0, h1, h5, h6, h7, ho0, hn, hA, hB, hl2, hgt, hne', hne2']; exact .r _); (· first | trivial | simp)) | (apply W_draw (id := 13) [0, 0, 2, 7, 15, 31, 31, 127, 255, 511, 31, 31, 3103, 7199, 15391, 32767, 65535, 131071] rfl rfl; (· simp; exact .r _); (· simp [h0, h1, h5, h6, h7, ho0, hn, hA, hB, hl2, hgt, hne', hne2']; exact .r _); (· first | trivial | simp)) | (apply W_draw (id := 14) [0, 0, 0, 0, 12, 28, 60, 126, 0, 0, 768, 1792, 3840, 8190, 16382, 32767, 65535] rfl rfl; (· simp; exact .r _); (· simp [h0, h1, h5, h6, h7, ho0, hn, hA, hB, hl2, hgt, hne', hne2']; exact .r _); (· first | trivial | simp)) | (apply W_draw (id := 7) [0, 0, 0, 0, 12, 28, 60, 126, 0, 0, 768, 1792, 3840, 0, 0, 24576, 57344, 122880, 261888, 524286, 1048574, 2097151, 4194303] rfl rfl; (· simp; exact .r _); (· simp [h0, h1, h5, h6, h7, ho0, hn, hA, hB, hl2, hgt, hne', hne2']; exact .r _); (· first | trivial | simp))
              refine W_cond (by simp [h0, h1, h5, h6, h7, ho0, hn]; exact .r _) (fun he => ?_) (fun he => ?_)
              · repeat' first | refine W_seq ?_ | refine W_block ?_ | refine W_skip ?_ | refine W_ret ?_ | refine W_exit ?_ | refine xb_hit ?_ | refine xb_miss (by decide) ?_ | (apply W_reg; (simp [h0, h1, h5, h6, h7, ho0, hn, hA, hB, htb2, hbl, e0, e0']; exact .r _)) | (apply W_draw (id := 10) [0, 0, 2, 7, 15, 31, 31, 95, 255, 511, 1023, 1023, 4095, 8191, 16383, 1023, 1023, 99327, 230399, 492543, 1048575, 2097151, 4194303, 8388607] rfl rfl; (· simp; exact .r _); (· simp [h0, h1, h5, h6, h7, ho0, hn, hA, hB, htb2, hbl, e0, e0']; exact .r _); (· first | trivial | simp)) | (apply W_draw (id := 11) [0, 0, 0, 0, 12, 28, 60, 126, 0, 0, 768, 1792, 3840, 8190, 16382, 32767, 65535] rfl rfl; (· simp; exact .r _); (· simp [h0, h1, h5, h6, h7, ho0, hn, hA, hB, htb2, hbl, e0, e0']; exact .r _); (· first | trivial | simp)) | (apply W_draw (id := 13) [0, 0, 2, 7, 15, 31, 31, 127, 255, 511, 31, 31, 3103, 7199, 15391, 32767, 65535, 131071] rfl rfl; (· simp; exact .r _); (· simp [h0, h1, h5, h6, h7, ho0, hn, hA, hB, htb2, hbl, e0, e0']; exact .r _); (· first | trivial | simp)) | (apply W_draw (id := 14) [0, 0, 0, 0, 12, 28, 60, 126, 0, 0, 768, 1792, 3840, 8190, 16382, 32767, 65535] rfl rfl; (· simp; exact .r _); (· simp [h0, h1, h5, h6, h7, ho0, hn, hA, hB, htb2, hbl, e0, e0']; exact .r _); (· first | trivial | simp)) | (apply W_draw (id := 7) [0, 0, 0, 0, 12, 28, 60, 126, 0, 0, 768, 1792, 3840, 0, 0, 24576, 57344, 122880, 261888, 524286, 1048574, 2097151, 4194303] rfl rfl; (· simp; exact .r _); (· simp [h0, h1, h5, h6, h7, ho0, hn, hA, hB, htb2, hbl, e0, e0']; exact .r _); (· first | trivial | simp))
                have hgg : AddM.mrg Cnt.tuple cAdd cLt a b = (acc ++ [b[k]]) ++ AddM.mrg Cnt.tuple cAdd cLt (a.drop i) (b.drop (k + 1)) := by
                  rw [heq]
                  conv => lhs; rw [List.drop_eq_getElem_cons hA, List.drop_eq_getElem_cons hB, AddM.mrg, if_neg (by simp [cLt, hlt]), if_pos (by simp [cLt, hgt])]
                  rw [← List.drop_eq_getElem_cons hA]; simp
                exact ⟨_, (by omega), i, k + 1, acc ++ [b[k]], rfl, rfl, (by first | assumption | (simp [h0, h1, h5, h6, h7, ho0, hn, rowsE_append, e0, e0', rowsE]; done) | (simp [h0, h1, h5, h6, h7, ho0, hn, rowsE_append, e0, e0', rowsE]; omega) | (simp [h0, h1, h5, h6, h7, ho0, hn, rowsE_append, e0, e0', rowsE]; exact wrap_succ (by omega))), (by first | assumption | (simp [h0, h1, h5, h6, h7, ho0, hn, rowsE_append, e0, e0', rowsE]; done) | (simp [h0, h1, h5, h6, h7, ho0, hn, rowsE_append, e0, e0', rowsE]; omega) | (simp [h0, h1, h5, h6, h7, ho0, hn, rowsE_append, e0, e0', rowsE]; exact wrap_succ (by omega))), (by first | assumption | (simp [h0, h1, h5, h6, h7, ho0, hn, rowsE_append, e0, e0', rowsE]; done) | (simp [h0, h1, h5, h6, h7, ho0, hn, rowsE_append, e0, e0', rowsE]; omega) | (simp [h0, h1, h5, h6, h7, ho0, hn, rowsE_append, e0, e0', rowsE]; exact wrap_succ (by omega))), (by first | assumption | (simp [h0, h1, h5, h6, h7, ho0, hn, rowsE_append, e0, e0', rowsE]; done) | (simp [h0, h1, h5, h6, h7, ho0, hn, rowsE_append, e0, e0', rowsE]; omega) | (simp [h0, h1, h5, h6, h7, ho0, hn, rowsE_append, e0, e0', rowsE]; exact wrap_succ (by omega))), (by first | assumption | (simp [h0, h1, h5, h6, h7, ho0, hn, rowsE_append, e0, e0', rowsE]; done) | (simp [h0, h1, h5, h6, h7, ho0, hn, rowsE_append, e0, e0', rowsE]; omega) | (simp [h0, h1, h5, h6, h7, ho0, hn, rowsE_append, e0, e0', rowsE]; exact wrap_succ (by omega))), (by first | assumption | (simp [h0, h1, h5, h6, h7, ho0, hn, rowsE_append, e0, e0', rowsE]; done) | (simp [h0, h1, h5, h6, h7, ho0, hn, rowsE_append, e0, e0', rowsE]; omega) | (simp [h0, h1, h5, h6, h7, ho0, hn, rowsE_append, e0, e0', rowsE]; exact wrap_succ (by omega))), by omega, (by first | assumption | (simp [h0, h1, h5, h6, h7, ho0, hn, rowsE_append, e0, e0', rowsE]; done) | (simp [h0, h1, h5, h6, h7, ho0, hn, rowsE_append, e0, e0', rowsE]; omega) | (simp [h0, h1, h5, h6, h7, ho0, hn, rowsE_append, e0, e0', rowsE]; exact wrap_succ (by omega))), (by first | assumption | (simp [h0, h1, h5, h6, h7, ho0, hn, rowsE_append, e0, e0', rowsE]; done) | (simp [h0, h1, h5, h6, h7, ho0, hn, rowsE_append, e0, e0', rowsE]; omega) | (simp [h0, h1, h5, h6, h7, ho0, hn, rowsE_append, e0, e0', rowsE]; exact wrap_succ (by omega))), by (simp; omega), hgg⟩
              · simp at he
          · simp at hc
        · repeat' first | refine W_seq ?_ | refine W_block ?_ | refine W_skip ?_ | refine W_ret ?_ | refine W_exit ?_ | refine xb_hit ?_ | refine xb_miss (by decide) ?_ | (apply W_reg; (simp [h0, h1, h5, h6, h7, ho0, hn, hA, hB, hl1, hlt, hne, hne2]; exact .r _)) | (apply W_draw (id := 10) [0, 0, 2, 7, 15, 31, 31, 95, 255, 511, 1023, 1023, 4095, 8191, 16383, 1023, 1023, 99327, 230399, 492543, 1048575, 2097151, 4194303, 8388607] rfl rfl; (· simp; exact .r _); (· simp [h0, h1, h5, h6, h7, ho0, hn, hA, hB, hl1, hlt, hne, hne2]; exact .r _); (· first | trivial | simp)) | (apply W_draw (id := 11) [0, 0, 0, 0, 12, 28, 60, 126, 0, 0, 768, 1792, 3840, 8190, 16382, 32767, 65535] rfl rfl; (· simp; exact .r _); (· simp [h0, h1, h5, h6, h7, ho0, hn, hA, hB, hl1, hlt, hne, hne2]; exact .r _); (· first | trivial | simp)) | (apply W_draw (id := 13) [0, 0, 2, 7, 15, 31, 31, 127, 255, 511, 31, 31, 3103, 7199, 15391, 32767, 65535, 131071] rfl rfl; (· simp; exact .r _); (· simp [h0, h1, h5, h6, h7, ho0, hn, hA, hB, hl1, hlt, hne, hne2]; exact .r _); (· first | trivial | simp)) | (apply W_draw (id := 14) [0, 0, 0, 0, 12, 28, 60, 126, 0, 0, 768, 1792, 3840, 8190, 16382, 32767, 65535] rfl rfl; (· simp; exact .r _); (· simp [h0, h1, h5, h6, h7, ho0, hn, hA, hB, hl1, hlt, hne, hne2]; exact .r _); (· first | trivial | simp)) | (apply W_draw (id := 7) [0, 0, 0, 0, 12, 28, 60, 126, 0, 0, 768, 1792, 3840, 0, 0, 24576, 57344, 122880, 261888, 524286, 1048574, 2097151, 4194303] rfl rfl; (· simp; exact .r _); (· simp [h0, h1, h5, h6, h7, ho0, hn, hA, hB, hl1, hlt, hne, hne2]; exact .r _); (· first | trivial | simp))
          refine W_cond (by simp [h0, h1, h5, h6, h7, ho0, hn]; exact .r _) (fun hc => ?_) (fun hc => ?_)
          · repeat' first | refine W_seq ?_ | refine W_block ?_ | refine W_skip ?_ | refine W_ret ?_ | refine W_exit ?_ | refine xb_hit ?_ | refine xb_miss (by decide) ?_ | (apply W_reg; (simp [h0, h1, h5, h6, h7, ho0, hn, hA, hB, hl1, hlt, hne, hne2]; exact .r _)) | (apply W_draw (id := 10) [0, 0, 2, 7, 15, 31, 31, 95, 255, 511, 1023, 1023, 4095, 8191, 16383, 1023, 1023, 99327, 230399, 492543, 1048575, 2097151, 4194303, 8388607] rfl rfl; (· simp; exact .r _); (· simp [h0, h1, h5, h6, h7, ho0, hn, hA, hB, hl1, hlt, hne, hne2]; exact .r _); (· first | trivial | simp)) | (apply W_draw (id := 11) [0, 0, 0, 0, 12, 28, 60, 126, 0, 0, 768, 1792, 3840, 8190, 16382, 32767, 65535] rfl rfl; (· simp; exact .r _); (· simp [h0, h1, h5, h6, h7, ho0, hn, hA, hB, hl1, hlt, hne, hne2]; exact .r _); (· first | trivial | simp)) | (apply W_draw (id := 13) [0, 0, 2, 7, 15, 31, 31, 127, 255, 511, 31, 31, 3103, 7199, 15391, 32767, 65535, 131071] rfl rfl; (· simp; exact .r _); (· simp [h0, h1, h5, h6, h7, ho0, hn, hA, hB, hl1, hlt, hne, hne2]; exact .r _); (· first | trivial | simp)) | (apply W_draw (id := 14) [0, 0, 0, 0, 12, 28, 60, 126, 0, 0, 768, 1792, 3840, 8190, 16382, 32767, 65535] rfl rfl; (· simp; exact .r _); (· simp [h0, h1, h5, h6, h7, ho0, hn, hA, hB, hl1, hlt, hne, hne2]; exact .r _); (· first | trivial | simp)) | (apply W_draw (id := 7) [0, 0, 0, 0, 12, 28, 60, 126, 0, 0, 768, 1792, 3840, 0, 0, 24576, 57344, 122880, 261888, 524286, 1048574, 2097151, 4194303] rfl rfl; (· simp; exact .r _); (· simp [h0, h1, h5, h6, h7, ho0, hn, hA, hB, hl1, hlt, hne, hne2]; exact .r _); (· first | trivial | simp))
            refine W_cond (by simp [h0, h1, h5, h6, h7, ho0, hn]; exact .r _) (fun hd => ?_) (fun hd => ?_)
            · simp at hd
            · repeat' first | refine W_seq ?_ | refine W_block ?_ | refine W_skip ?_ | refine W_ret ?_ | refine W_exit ?_ | refine xb_hit ?_ | refine xb_miss (by decide) ?_ | (apply W_reg; (simp [h0, h1, h5, h6, h7, ho0, hn, hA, hB, hl2, hgt, hne', hne2']; exact .r _)) | (apply W_draw (id := 10) [0, 0, 2, 7, 15, 31, 31, 95, 255, 511, 1023, 1023, 4095, 8191, 16383, 1023, 1023, 99327, 230399, 492543, 1048575, 2097151, 4194303, 8388607] rfl rfl; (· simp; exact .r _); (· simp [h0, h1, h5, h6, h7, ho0, hn, hA, hB, hl2, hgt, hne', hne2']; exact .r _); (· first | trivial | simp)) | (apply W_draw (id := 11) [0, 0, 0, 0, 12, 28, 60, 126, 0, 0, 768, 1792, 3840, 8190, 16382, 32767, 65535] rfl rfl; (· simp; exact .r _); (· simp [h0, h1, h5, h6, h7, ho0, hn, hA, hB, hl2, hgt, hne', hne2']; exact .r _); (· first | trivial | simp)) | (apply W_draw (id := 13) [0, 0, 2, 7, 15, 31, 31, 127, 255, 511, 31, 31, 3103, 7199, 15391, 32767, 65535, 131071] rfl rfl; (· simp; exact .r _); (· simp [h0, h1, h5, h6, h7, ho0, hn, hA, hB, hl2, hgt, hne', hne2']; exact .r _); (· first | trivial | simp)) | (apply W_draw (id := 14) [0, 0, 0, 0, 12, 28, 60, 126, 0, 0, 768, 1792, 3840, 8190, 16382, 32767, 65535] rfl rfl; (· simp; exact .r _); (· simp [h0, h1, h5, h6, h7, ho0, hn, hA, hB, hl2, hgt, hne', hne2']; exact .r _); (· first | trivial | simp)) | (apply W_draw (id := 7) [0, 0, 0, 0, 12, 28, 60, 126, 0, 0, 768, 1792, 3840, 0, 0, 24576, 57344, 122880, 261888, 524286, 1048574, 2097151, 4194303] rfl rfl; (· simp; exact .r _); (· simp [h0, h1, h5, h6, h7, ho0, hn, hA, hB, hl2, hgt, hne', hne2']; exact .r _); (· first | trivial | simp))
              refine W_cond (by simp [h0, h1, h5, h6, h7, ho0, hn]; exact .r _) (fun he => ?_) (fun he => ?_)
              · simp at he
              · repeat' first | refine W_seq ?_ | refine W_block ?_ | refine W_skip ?_ | refine W_ret ?_ | refine W_exit ?_ | refine xb_hit ?_ | refine xb_miss (by decide) ?_ | (apply W_reg; (simp [h0, h1, h5, h6, h7, ho0, hn, hA, hB, hta2, hbl, e0, e0']; exact .r _)) | (apply W_draw (id := 10) [0, 0, 2, 7, 15, 31, 31, 95, 255, 511, 1023, 1023, 4095, 8191, 16383, 1023, 1023, 99327, 230399, 492543, 1048575, 2097151, 4194303, 8388607] rfl rfl; (· simp; exact .r _); (· simp [h0, h1, h5, h6, h7, ho0, hn, hA, hB, hta2, hbl, e0, e0']; exact .r _); (· first | trivial | simp)) | (apply W_draw (id := 11) [0, 0, 0, 0, 12, 28, 60, 126, 0, 0, 768, 1792, 3840, 8190, 16382, 32767, 65535] rfl rfl; (· simp; exact .r _); (· simp [h0, h1, h5, h6, h7, ho0, hn, hA, hB, hta2, hbl, e0, e0']; exact .r _); (· first | trivial | simp)) | (apply W_draw (id := 13) [0, 0, 2, 7, 15, 31, 31, 127, 255, 511, 31, 31, 3103, 7199, 15391, 32767, 65535, 131071] rfl rfl; (· simp; exact .r _); (· simp [h0, h1, h5, h6, h7, ho0, hn, hA, hB, hta2, hbl, e0, e0']; exact .r _); (· first | trivial | simp)) | (apply W_draw (id := 14) [0, 0, 0, 0, 12, 28, 60, 126, 0, 0, 768, 1792, 3840, 8190, 16382, 32767, 65535] rfl rfl; (· simp; exact .r _); (· simp [h0, h1, h5, h6, h7, ho0, hn, hA, hB, hta2, hbl, e0, e0']; exact .r _); (· first | trivial | simp)) | (apply W_draw (id := 7) [0, 0, 0, 0, 12, 28, 60, 126, 0, 0, 768, 1792, 3840, 0, 0, 24576, 57344, 122880, 261888, 524286, 1048574, 2097151, 4194303] rfl rfl; (· simp; exact .r _); (· simp [h0, h1, h5, h6, h7, ho0, hn, hA, hB, hta2, hbl, e0, e0']; exact .r _); (· first | trivial | simp))
                exact ⟨_, (by omega), i + 1, k + 1, acc ++ [cAdd a[i] b[k]], rfl, rfl, (by first | assumption | (simp [h0, h1, h5, h6, h7, ho0, hn, rowsE_append, e0, e0', rowsE, cAdd, wrap64]; done) | (simp [h0, h1, h5, h6, h7, ho0, hn, rowsE_append, e0, e0', rowsE, cAdd, wrap64]; omega) | (simp [h0, h1, h5, h6, h7, ho0, hn, rowsE_append, e0, e0', rowsE, cAdd, wrap64]; exact wrap_succ (by omega))), (by first | assumption | (simp [h0, h1, h5, h6, h7, ho0, hn, rowsE_append, e0, e0', rowsE, cAdd, wrap64]; done) | (simp [h0, h1, h5, h6, h7, ho0, hn, rowsE_append, e0, e0', rowsE, cAdd, wrap64]; omega) | (simp [h0, h1, h5, h6, h7, ho0, hn, rowsE_append, e0, e0', rowsE, cAdd, wrap64]; exact wrap_succ (by omega))), (by first | assumption | (simp [h0, h1, h5, h6, h7, ho0, hn, rowsE_append, e0, e0', rowsE, cAdd, wrap64]; done) | (simp [h0, h1, h5, h6, h7, ho0, hn, rowsE_append, e0, e0', rowsE, cAdd, wrap64]; omega) | (simp [h0, h1, h5, h6, h7, ho0, hn, rowsE_append, e0, e0', rowsE, cAdd, wrap64]; exact wrap_succ (by omega))), (by first | assumption | (simp [h0, h1, h5, h6, h7, ho0, hn, rowsE_append, e0, e0', rowsE, cAdd, wrap64]; done) | (simp [h0, h1, h5, h6, h7, ho0, hn, rowsE_append, e0, e0', rowsE, cAdd, wrap64]; omega) | (simp [h0, h1, h5, h6, h7, ho0, hn, rowsE_append, e0, e0', rowsE, cAdd, wrap64]; exact wrap_succ (by omega))), (by first | assumption | (simp [h0, h1, h5, h6, h7, ho0, hn, rowsE_append, e0, e0', rowsE, cAdd, wrap64]; done) | (simp [h0, h1, h5, h6, h7, ho0, hn, rowsE_append, e0, e0', rowsE, cAdd, wrap64]; omega) | (simp [h0, h1, h5, h6, h7, ho0, hn, rowsE_append, e0, e0', rowsE, cAdd, wrap64]; exact wrap_succ (by omega))), by omega, by omega, (by first | assumption | (simp [h0, h1, h5, h6, h7, ho0, hn, rowsE_append, e0, e0', rowsE, cAdd, wrap64]; done) | (simp [h0, h1, h5, h6, h7, ho0, hn, rowsE_append, e0, e0', rowsE, cAdd, wrap64]; omega) | (simp [h0, h1, h5, h6, h7, ho0, hn, rowsE_append, e0, e0', rowsE, cAdd, wrap64]; exact wrap_succ (by omega))), (by first | assumption | (simp [h0, h1, h5, h6, h7, ho0, hn, rowsE_append, e0, e0', rowsE, cAdd, wrap64]; done) | (simp [h0, h1, h5, h6, h7, ho0, hn, rowsE_append, e0, e0', rowsE, cAdd, wrap64]; omega) | (simp [h0, h1, h5, h6, h7, ho0, hn, rowsE_append, e0, e0', rowsE, cAdd, wrap64]; exact wrap_succ (by omega))), by (simp; omega), by (rw [heq, List.drop_eq_getElem_cons hA, List.drop_eq_getElem_cons hB, AddM.mrg, if_neg (by simp [cLt, hlt]), if_neg (by simp [cLt, hgt])]; simp)⟩
          · simp at hc
    · have hke : k = b.length := by omega
      subst hke
      repeat' first | refine W_seq ?_ | refine W_block ?_ | refine W_skip ?_ | refine W_ret ?_ | refine W_exit ?_ | refine xb_hit ?_ | refine xb_miss (by decide) ?_ | (apply W_reg; (simp [h0, h1, h5, h6, h7, ho0, hn, hA]; exact .r _)) | (apply W_draw (id := 10) [0, 0, 2, 7, 15, 31, 31, 95, 255, 511, 1023, 1023, 4095, 8191, 16383, 1023, 1023, 99327, 230399, 492543, 1048575, 2097151, 4194303, 8388607] rfl rfl; (· simp; exact .r _); (· simp [h0, h1, h5, h6, h7, ho0, hn, hA]; exact .r _); (· first | trivial | simp)) | (apply W_draw (id := 11) [0, 0, 0, 0, 12, 28, 60, 126, 0, 0, 768, 1792, 3840, 8190, 16382, 32767, 65535] rfl rfl; (· simp; exact .r _); (· simp [h0, h1, h5, h6, h7, ho0, hn, hA]; exact .r _); (· first | trivial | simp)) | (apply W_draw (id := 13) [0, 0, 2, 7, 15, 31, 31, 127, 255, 511, 31, 31, 3103, 7199, 15391, 32767, 65535, 131071] rfl rfl; (· simp; exact .r _); (· simp [h0, h1, h5, h6, h7, ho0, hn, hA]; exact .r _); (· first | trivial | simp)) | (apply W_draw (id := 14) [0, 0, 0, 0, 12, 28, 60, 126, 0, 0, 768, 1792, 3840, 8190, 16382, 32767, 65535] rfl rfl; (· simp; exact .r _); (· simp [h0, h1, h5, h6, h7, ho0, hn, hA]; exact .r _); (· first | trivial | simp)) | (apply W_draw (id := 7) [0, 0, 0, 0, 12, 28, 60, 126, 0, 0, 768, 1792, 3840, 0, 0, 24576, 57344, 122880, 261888, 524286, 1048574, 2097151, 4194303] rfl rfl; (· simp; exact .r _); (· simp [h0, h1, h5, h6, h7, ho0, hn, hA]; exact .r _); (· first | trivial | simp))
      refine W_cond (by simp [h0, h1, h5, h6, h7, ho0, hn]; exact .r _) (fun hc => ?_) (fun hc => ?_)
      · repeat' first | refine W_seq ?_ | refine W_block ?_ | refine W_skip ?_ | refine W_ret ?_ | refine W_exit ?_ | refine xb_hit ?_ | refine xb_miss (by decide) ?_ | (apply W_reg; (simp [h0, h1, h5, h6, h7, ho0, hn, hA]; exact .r _)) | (apply W_draw (id := 10) [0, 0, 2, 7, 15, 31, 31, 95, 255, 511, 1023, 1023, 4095, 8191, 16383, 1023, 1023, 99327, 230399, 492543, 1048575, 2097151, 4194303, 8388607] rfl rfl; (· simp; exact .r _); (· simp [h0, h1, h5, h6, h7, ho0, hn, hA]; exact .r _); (· first | trivial | simp)) | (apply W_draw (id := 11) [0, 0, 0, 0, 12, 28, 60, 126, 0, 0, 768, 1792, 3840, 8190, 16382, 32767, 65535] rfl rfl; (· simp; exact .r _); (· simp [h0, h1, h5, h6, h7, ho0, hn, hA]; exact .r _); (· first | trivial | simp)) | (apply W_draw (id := 13) [0, 0, 2, 7, 15, 31, 31, 127, 255, 511, 31, 31, 3103, 7199, 15391, 32767, 65535, 131071] rfl rfl; (· simp; exact .r _); (· simp [h0, h1, h5, h6, h7, ho0, hn, hA]; exact .r _); (· first | trivial | simp)) | (apply W_draw (id := 14) [0, 0, 0, 0, 12, 28, 60, 126, 0, 0, 768, 1792, 3840, 8190, 16382, 32767, 65535] rfl rfl; (· simp; exact .r _); (· simp [h0, h1, h5, h6, h7, ho0, hn, hA]; exact .r _); (· first | trivial | simp)) | (apply W_draw (id := 7) [0, 0, 0, 0, 12, 28, 60, 126, 0, 0, 768, 1792, 3840, 0, 0, 24576, 57344, 122880, 261888, 524286, 1048574, 2097151, 4194303] rfl rfl; (· simp; exact .r _); (· simp [h0, h1, h5, h6, h7, ho0, hn, hA]; exact .r _); (· first | trivial | simp))
        refine W_cond (by simp [h0, h1, h5, h6, h7, ho0, hn]; exact .r _) (fun hd => ?_) (fun hd => ?_)
        · repeat' first | refine W_seq ?_ | refine W_block ?_ | refine W_skip ?_ | refine W_ret ?_ | refine W_exit ?_ | refine xb_hit ?_ | refine xb_miss (by decide) ?_ | (apply W_reg; (simp [h0, h1, h5, h6, h7, ho0, hn, hA, hta2, hbl, e0, e0']; exact .r _)) | (apply W_draw (id := 10) [0, 0, 2, 7, 15, 31, 31, 95, 255, 511, 1023, 1023, 4095, 8191, 16383, 1023, 1023, 99327, 230399, 492543, 1048575, 2097151, 4194303, 8388607] rfl rfl; (· simp; exact .r _); (· simp [h0, h1, h5, h6, h7, ho0, hn, hA, hta2, hbl, e0, e0']; exact .r _); (· first | trivial | simp)) | (apply W_draw (id := 11) [0, 0, 0, 0, 12, 28, 60, 126, 0, 0, 768, 1792, 3840, 8190, 16382, 32767, 65535] rfl rfl; (· simp; exact .r _); (· simp [h0, h1, h5, h6, h7, ho0, hn, hA, hta2, hbl, e0, e0']; exact .r _); (· first | trivial | simp)) | (apply W_draw (id := 13) [0, 0, 2, 7, 15, 31, 31, 127, 255, 511, 31, 31, 3103, 7199, 15391, 32767, 65535, 131071] rfl rfl; (· simp; exact .r _); (· simp [h0, h1, h5, h6, h7, ho0, hn, hA, hta2, hbl, e0, e0']; exact .r _); (· first | trivial | simp)) | (apply W_draw (id := 14) [0, 0, 0, 0, 12, 28, 60, 126, 0, 0, 768, 1792, 3840, 8190, 16382, 32767, 65535] rfl rfl; (· simp; exact .r _); (· simp [h0, h1, h5, h6, h7, ho0, hn, hA, hta2, hbl, e0, e0']; exact .r _); (· first | trivial | simp)) | (apply W_draw (id := 7) [0, 0, 0, 0, 12, 28, 60, 126, 0, 0, 768, 1792, 3840, 0, 0, 24576, 57344, 122880, 261888, 524286, 1048574, 2097151, 4194303] rfl rfl; (· simp; exact .r _); (· simp [h0, h1, h5, h6, h7, ho0, hn, hA, hta2, hbl, e0, e0']; exact .r _); (· first | trivial | simp))
          exact ⟨_, (by omega), i + 1, b.length, acc ++ [a[i]], rfl, rfl, (by first | assumption | (simp [h0, h1, h5, h6, h7, ho0, hn, rowsE_append, e0, e0', rowsE]; done) | (simp [h0, h1, h5, h6, h7, ho0, hn, rowsE_append, e0, e0', rowsE]; omega) | (simp [h0, h1, h5, h6, h7, ho0, hn, rowsE_append, e0, e0', rowsE]; exact wrap_succ (by omega))), (by first | assumption | (simp [h0, h1, h5, h6, h7, ho0, hn, rowsE_append, e0, e0', rowsE]; done) | (simp [h0, h1, h5, h6, h7, ho0, hn, rowsE_append, e0, e0', rowsE]; omega) | (simp [h0, h1, h5, h6, h7, ho0, hn, rowsE_append, e0, e0', rowsE]; exact wrap_succ (by omega))), (by first | assumption | (simp [h0, h1, h5, h6, h7, ho0, hn, rowsE_append, e0, e0', rowsE]; done) | (simp [h0, h1, h5, h6, h7, ho0, hn, rowsE_append, e0, e0', rowsE]; omega) | (simp [h0, h1, h5, h6, h7, ho0, hn, rowsE_append, e0, e0', rowsE]; exact wrap_succ (by omega))), (by first | assumption | (simp [h0, h1, h5, h6, h7, ho0, hn, rowsE_append, e0, e0', rowsE]; done) | (simp [h0, h1, h5, h6, h7, ho0, hn, rowsE_append, e0, e0', rowsE]; omega) | (simp [h0, h1, h5, h6, h7, ho0, hn, rowsE_append, e0, e0', rowsE]; exact wrap_succ (by omega))), (by first | assumption | (simp [h0, h1, h5, h6, h7, ho0, hn, rowsE_append, e0, e0', rowsE]; done) | (simp [h0, h1, h5, h6, h7, ho0, hn, rowsE_append, e0, e0', rowsE]; omega) | (simp [h0, h1, h5, h6, h7, ho0, hn, rowsE_append, e0, e0', rowsE]; exact wrap_succ (by omega))), by omega, (by first | assumption | (simp [h0, h1, h5, h6, h7, ho0, hn, rowsE_append, e0, e0', rowsE]; done) | (simp [h0, h1, h5, h6, h7, ho0, hn, rowsE_append, e0, e0', rowsE]; omega) | (simp [h0, h1, h5, h6, h7, ho0, hn, rowsE_append, e0, e0', rowsE]; exact wrap_succ (by omega))), (by first | assumption | (simp [h0, h1, h5, h6, h7, ho0, hn, rowsE_append, e0, e0', rowsE]; done) | (simp [h0, h1, h5, h6, h7, ho0, hn, rowsE_append, e0, e0', rowsE]; omega) | (simp [h0, h1, h5, h6, h7, ho0, hn, rowsE_append, e0, e0', rowsE]; exact wrap_succ (by omega))), (by first | assumption | (simp [h0, h1, h5, h6, h7, ho0, hn, rowsE_append, e0, e0', rowsE]; done) | (simp [h0, h1, h5, h6, h7, ho0, hn, rowsE_append, e0, e0', rowsE]; omega) | (simp [h0, h1, h5, h6, h7, ho0, hn, rowsE_append, e0, e0', rowsE]; exact wrap_succ (by omega))), by (simp; omega), by (rw [heq, List.drop_length, List.drop_eq_getElem_cons hA]; cases hz : a.drop (i + 1) <;> simp [AddM.mrg])⟩
        · simp at hd
      · simp at hc
  · have hie : i = a.length := by omega
    subst hie
    by_cases hB : k < b.length
    · have htb : b[k].tuple.length ≤ 1048576 := hb _ (List.getElem_mem hB)
      have htb2 : b[k].tuple.length < 1099511627776 := by omega
      have hne : ¬ (k = b.length) := by omega
      have hne2 : ¬ ((k : Int) = b.length) := by omega
      repeat' first | refine W_seq ?_ | refine W_block ?_ | refine W_skip ?_ | refine W_ret ?_ | refine W_exit ?_ | refine xb_hit ?_ | refine xb_miss (by decide) ?_ | (apply W_reg; (simp [h0, h1, h5, h6, h7, ho0, hn, hB]; exact .r _)) | (apply W_draw (id := 10) [0, 0, 2, 7, 15, 31, 31, 95, 255, 511, 1023, 1023, 4095, 8191, 16383, 1023, 1023, 99327, 230399, 492543, 1048575, 2097151, 4194303, 8388607] rfl rfl; (· simp; exact .r _); (· simp [h0, h1, h5, h6, h7, ho0, hn, hB]; exact .r _); (· first | trivial | simp)) | (apply W_draw (id := 11) [0, 0, 0, 0, 12, 28, 60, 126, 0, 0, 768, 1792, 3840, 8190, 16382, 32767, 65535] rfl rfl; (· simp; exact .r _); (· simp [h0, h1, h5, h6, h7, ho0, hn, hB]; exact .r _); (· first | trivial | simp)) | (apply W_draw (id := 13) [0, 0, 2, 7, 15, 31, 31, 127, 255, 511, 31, 31, 3103, 7199, 15391, 32767, 65535, 131071] rfl rfl; (· simp; exact .r _); (· simp [h0, h1, h5, h6, h7, ho0, hn, hB]; exact .r _); (· first | trivial | simp)) | (apply W_draw (id := 14) [0, 0, 0, 0, 12, 28, 60, 126, 0, 0, 768, 1792, 3840, 8190, 16382, 32767, 65535] rfl rfl; (· simp; exact .r _); (· simp [h0, h1, h5, h6, h7, ho0, hn, hB]; exact .r _); (· first | trivial | simp)) | (apply W_draw (id := 7) [0, 0, 0, 0, 12, 28, 60, 126, 0, 0, 768, 1792, 3840, 0, 0, 24576, 57344, 122880, 261888, 524286, 1048574, 2097151, 4194303] rfl rfl; (· simp; exact .r _); (· simp [h0, h1, h5, h6, h7, ho0, hn, hB]; exact .r _); (· first | trivial | simp))
      refine W_cond (by simp [h0, h1, h5, h6, h7, ho0, hn]; exact .r _) (fun hc => ?_) (fun hc => ?_)
      · repeat' first | refine W_seq ?_ | refine W_block ?_ | refine W_skip ?_ | refine W_ret ?_ | refine W_exit ?_ | refine xb_hit ?_ | refine xb_miss (by decide) ?_ | (apply W_reg; (simp [h0, h1, h5, h6, h7, ho0, hn, hB, hne, hne2]; exact .r _)) | (apply W_draw (id := 10) [0, 0, 2, 7, 15, 31, 31, 95, 255, 511, 1023, 1023, 4095, 8191, 16383, 1023, 1023, 99327, 230399, 492543, 1048575, 2097151, 4194303, 8388607] rfl rfl; (· simp; exact .r _); (· simp [h0, h1, h5, h6, h7, ho0, hn, hB, hne, hne2]; exact .r _); (· first | trivial | simp)) | (apply W_draw (id := 11) [0, 0, 0, 0, 12, 28, 60, 126, 0, 0, 768, 1792, 3840, 8190, 16382, 32767, 65535] rfl rfl; (· simp; exact .r _); (· simp [h0, h1, h5, h6, h7, ho0, hn, hB, hne, hne2]; exact .r _); (· first | trivial | simp)) | (apply W_draw (id := 13) [0, 0, 2, 7, 15, 31, 31, 127, 255, 511, 31, 31, 3103, 7199, 15391, 32767, 65535, 131071] rfl rfl; (· simp; exact .r _); (· simp [h0, h1, h5, h6, h7, ho0, hn, hB, hne, hne2]; exact .r _); (· first | trivial | simp)) | (apply W_draw (id := 14) [0, 0, 0, 0, 12, 28, 60, 126, 0, 0, 768, 1792, 3840, 8190, 16382, 32767, 65535] rfl rfl; (· simp; exact .r _); (· simp [h0, h1, h5, h6, h7, ho0, hn, hB, hne, hne2]; exact .r _); (· first | trivial | simp)) | (apply W_draw (id := 7) [0, 0, 0, 0, 12, 28, 60, 126, 0, 0, 768, 1792, 3840, 0, 0, 24576, 57344, 122880, 261888, 524286, 1048574, 2097151, 4194303] rfl rfl; (· simp; exact .r _); (· simp [h0, h1, h5, h6, h7, ho0, hn, hB, hne, hne2]; exact .r _); (· first | trivial | simp))
        refine W_cond (by simp [h0, h1, h5, h6, h7, ho0, hn]; exact .r _) (fun hd => ?_) (fun hd => ?_)
        · simp at hd
        · repeat' first | refine W_seq ?_ | refine W_block ?_ | refine W_skip ?_ | refine W_ret ?_ | refine W_exit ?_ | refine xb_hit ?_ | refine xb_miss (by decide) ?_ | (apply W_reg; (simp [h0, h1, h5, h6, h7, ho0, hn, hB, hne, hne2]; exact .r _)) | (apply W_draw (id := 10) [0, 0, 2, 7, 15, 31, 31, 95, 255, 511, 1023, 1023, 4095, 8191, 16383, 1023, 1023, 99327, 230399, 492543, 1048575, 2097151, 4194303, 8388607] rfl rfl; (· simp; exact .r _); (· simp [h0, h1, h5, h6, h7, ho0, hn, hB, hne, hne2]; exact .r _); (· first | trivial | simp)) | (apply W_draw (id := 11) [0, 0, 0, 0, 12, 28, 60, 126, 0, 0, 768, 1792, 3840, 8190, 16382, 32767, 65535] rfl rfl; (· simp; exact .r _); (· simp [h0, h1, h5, h6, h7, ho0, hn, hB, hne, hne2]; exact .r _); (· first | trivial | simp)) | (apply W_draw (id := 13) [0, 0, 2, 7, 15, 31, 31, 127, 255, 511, 31, 31, 3103, 7199, 15391, 32767, 65535, 131071] rfl rfl; (· simp; exact .r _); (· simp [h0, h1, h5, h6, h7, ho0, hn, hB, hne, hne2]; exact .r _); (· first | trivial | simp)) | (apply W_draw (id := 14) [0, 0, 0, 0, 12, 28, 60, 126, 0, 0, 768, 1792, 3840, 8190, 16382, 32767, 65535] rfl rfl; (· simp; exact .r _); (· simp [h0, h1, h5, h6, h7, ho0, hn, hB, hne, hne2]; exact .r _); (· first | trivial | simp)) | (apply W_draw (id := 7) [0, 0, 0, 0, 12, 28, 60, 126, 0, 0, 768, 1792, 3840, 0, 0, 24576, 57344, 122880, 261888, 524286, 1048574, 2097151, 4194303] rfl rfl; (· simp; exact .r _); (· simp [h0, h1, h5, h6, h7, ho0, hn, hB, hne, hne2]; exact .r _); (· first | trivial | simp))
          refine W_cond (by simp [h0, h1, h5, h6, h7, ho0, hn]; exact .r _) (fun he => ?_) (fun he => ?_)
          · repeat' first | refine W_seq ?_ | refine W_block ?_ | refine W_skip ?_ | refine W_ret ?_ | refine W_exit ?_ | refine xb_hit ?_ | refine xb_miss (by decide) ?_ | (apply W_reg; (simp [h0, h1, h5, h6, h7, ho0, hn, hB, htb2, hbl, e0, e0']; exact .r _)) | (apply W_draw (id := 10) [0, 0, 2, 7, 15, 31, 31, 95, 255, 511, 1023, 1023, 4095, 8191, 16383, 1023, 1023, 99327, 230399, 492543, 1048575, 2097151, 4194303, 8388607] rfl rfl; (· simp; exact .r _); (· simp [h0, h1, h5, h6, h7, ho0, hn, hB, htb2, hbl, e0, e0']; exact .r _); (· first | trivial | simp)) | (apply W_draw (id := 11) [0, 0, 0, 0, 12, 28, 60, 126, 0, 0, 768, 1792, 3840, 8190, 16382, 32767, 65535] rfl rfl; (· simp; exact .r _); (· simp [h0, h1, h5, h6, h7, ho0, hn, hB, htb2, hbl, e0, e0']; exact .r _); (· first | trivial | simp)) | (apply W_draw (id := 13) [0, 0, 2, 7, 15, 31, 31, 127, 255, 511, 31, 31, 3103, 7199, 15391, 32767, 65535, 131071] rfl rfl; (· simp; exact .r _); (· simp [h0, h1, h5, h6, h7, ho0, hn, hB, htb2, hbl, e0, e0']; exact .r _); (· first | trivial | simp)) | (apply W_draw (id := 14) [0, 0, 0, 0, 12, 28, 60, 126, 0, 0, 768, 1792, 3840, 8190, 16382, 32767, 65535] rfl rfl; (· simp; exact .r _); (· simp [h0, h1, h5, h6, h7, ho0, hn, hB, htb2, hbl, e0, e0']; exact .r _); (· first | trivial | simp)) | (apply W_draw (id := 7) [0, 0, 0, 0, 12, 28, 60, 126, 0, 0, 768, 1792, 3840, 0, 0, 24576, 57344, 122880, 261888, 524286, 1048574, 2097151, 4194303] rfl rfl; (· simp; exact .r _); (· simp [h0, h1, h5, h6, h7, ho0, hn, hB, htb2, hbl, e0, e0']; exact .r _); (· first | trivial | simp))
            exact ⟨_, (by omega), a.length, k + 1, acc ++ [b[k]], rfl, rfl, (by first | assumption | (simp [h0, h1, h5, h6, h7, ho0, hn, rowsE_append, e0, e0', rowsE]; done) | (simp [h0, h1, h5, h6, h7, ho0, hn, rowsE_append, e0, e0', rowsE]; omega) | (simp [h0, h1, h5, h6, h7, ho0, hn, rowsE_append, e0, e0', rowsE]; exact wrap_succ (by omega))), (by first | assumption | (simp [h0, h1, h5, h6, h7, ho0, hn, rowsE_append, e0, e0', rowsE]; done) | (simp [h0, h1, h5, h6, h7, ho0, hn, rowsE_append, e0, e0', rowsE]; omega) | (simp [h0, h1, h5, h6, h7, ho0, hn, rowsE_append, e0, e0', rowsE]; exact wrap_succ (by omega))), (by first | assumption | (simp [h0, h1, h5, h6, h7, ho0, hn, rowsE_append, e0, e0', rowsE]; done) | (simp [h0, h1, h5, h6, h7, ho0, hn, rowsE_append, e0, e0', rowsE]; omega) | (simp [h0, h1, h5, h6, h7, ho0, hn, rowsE_append, e0, e0', rowsE]; exact wrap_succ (by omega))), (by first | assumption | (simp [h0, h1, h5, h6, h7, ho0, hn, rowsE_append, e0, e0', rowsE]; done) | (simp [h0, h1, h5, h6, h7, ho0, hn, rowsE_append, e0, e0', rowsE]; omega) | (simp [h0, h1, h5, h6, h7, ho0, hn, rowsE_append, e0, e0', rowsE]; exact wrap_succ (by omega))), (by first | assumption | (simp [h0, h1, h5, h6, h7, ho0, hn, rowsE_append, e0, e0', rowsE]; done) | (simp [h0, h1, h5, h6, h7, ho0, hn, rowsE_append, e0, e0', rowsE]; omega) | (simp [h0, h1, h5, h6, h7, ho0, hn, rowsE_append, e0, e0', rowsE]; exact wrap_succ (by omega))), (by first | assumption | (simp [h0, h1, h5, h6, h7, ho0, hn, rowsE_append, e0, e0', rowsE]; done) | (simp [h0, h1, h5, h6, h7, ho0, hn, rowsE_append, e0, e0', rowsE]; omega) | (simp [h0, h1, h5, h6, h7, ho0, hn, rowsE_append, e0, e0', rowsE]; exact wrap_succ (by omega))), by omega, (by first | assumption | (simp [h0, h1, h5, h6, h7, ho0, hn, rowsE_append, e0, e0', rowsE]; done) | (simp [h0, h1, h5, h6, h7, ho0, hn, rowsE_append, e0, e0', rowsE]; omega) | (simp [h0, h1, h5, h6, h7, ho0, hn, rowsE_append, e0, e0', rowsE]; exact wrap_succ (by omega))), (by first | assumption | (simp [h0, h1, h5, h6, h7, ho0, hn, rowsE_append, e0, e0', rowsE]; done) | (simp [h0, h1, h5, h6, h7, ho0, hn, rowsE_append, e0, e0', rowsE]; omega) | (simp [h0, h1, h5, h6, h7, ho0, hn, rowsE_append, e0, e0', rowsE]; exact wrap_succ (by omega))), by (simp; omega), by (rw [heq, List.drop_length, List.drop_eq_getElem_cons hB, AddM.mrg, AddM.mrg]; simp)⟩
          · simp at he
      · simp at hc
    · have hke : k = b.length := by omega
      subst hke
      repeat' first | refine W_seq ?_ | refine W_block ?_ | refine W_skip ?_ | refine W_ret ?_ | refine W_exit ?_ | refine xb_hit ?_ | refine xb_miss (by decide) ?_ | (apply W_reg; (simp [h0, h1, h5, h6, h7, ho0, hn]; exact .r _)) | (apply W_draw (id := 10) [0, 0, 2, 7, 15, 31, 31, 95, 255, 511, 1023, 1023, 4095, 8191, 16383, 1023, 1023, 99327, 230399, 492543, 1048575, 2097151, 4194303, 8388607] rfl rfl; (· simp; exact .r _); (· simp [h0, h1, h5, h6, h7, ho0, hn]; exact .r _); (· first | trivial | simp)) | (apply W_draw (id := 11) [0, 0, 0, 0, 12, 28, 60, 126, 0, 0, 768, 1792, 3840, 8190, 16382, 32767, 65535] rfl rfl; (· simp; exact .r _); (· simp [h0, h1, h5, h6, h7, ho0, hn]; exact .r _); (· first | trivial | simp)) | (apply W_draw (id := 13) [0, 0, 2, 7, 15, 31, 31, 127, 255, 511, 31, 31, 3103, 7199, 15391, 32767, 65535, 131071] rfl rfl; (· simp; exact .r _); (· simp [h0, h1, h5, h6, h7, ho0, hn]; exact .r _); (· first | trivial | simp)) | (apply W_draw (id := 14) [0, 0, 0, 0, 12, 28, 60, 126, 0, 0, 768, 1792, 3840, 8190, 16382, 32767, 65535] rfl rfl; (· simp; exact .r _); (· simp [h0, h1, h5, h6, h7, ho0, hn]; exact .r _); (· first | trivial | simp)) | (apply W_draw (id := 7) [0, 0, 0, 0, 12, 28, 60, 126, 0, 0, 768, 1792, 3840, 0, 0, 24576, 57344, 122880, 261888, 524286, 1048574, 2097151, 4194303] rfl rfl; (· simp; exact .r _); (· simp [h0, h1, h5, h6, h7, ho0, hn]; exact .r _); (· first | trivial | simp))
      refine W_cond (by simp [h0, h1, h5, h6, h7, ho0, hn]; exact .r _) (fun hc => ?_) (fun hc => ?_)
      · simp at hc
      · repeat' first | refine W_seq ?_ | refine W_block ?_ | refine W_skip ?_ | refine W_ret ?_ | refine W_exit ?_ | refine xb_hit ?_ | refine xb_miss (by decide) ?_ | (apply W_reg; (simp [h0, h1, h5, h6, h7, ho0, hn]; exact .r _)) | (apply W_draw (id := 10) [0, 0, 2, 7, 15, 31, 31, 95, 255, 511, 1023, 1023, 4095, 8191, 16383, 1023, 1023, 99327, 230399, 492543, 1048575, 2097151, 4194303, 8388607] rfl rfl; (· simp; exact .r _); (· simp [h0, h1, h5, h6, h7, ho0, hn]; exact .r _); (· first | trivial | simp)) | (apply W_draw (id := 11) [0, 0, 0, 0, 12, 28, 60, 126, 0, 0, 768, 1792, 3840, 8190, 16382, 32767, 65535] rfl rfl; (· simp; exact .r _); (· simp [h0, h1, h5, h6, h7, ho0, hn]; exact .r _); (· first | trivial | simp)) | (apply W_draw (id := 13) [0, 0, 2, 7, 15, 31, 31, 127, 255, 511, 31, 31, 3103, 7199, 15391, 32767, 65535, 131071] rfl rfl; (· simp; exact .r _); (· simp [h0, h1, h5, h6, h7, ho0, hn]; exact .r _); (· first | trivial | simp)) | (apply W_draw (id := 14) [0, 0, 0, 0, 12, 28, 60, 126, 0, 0, 768, 1792, 3840, 8190, 16382, 32767, 65535] rfl rfl; (· simp; exact .r _); (· simp [h0, h1, h5, h6, h7, ho0, hn]; exact .r _); (· first | trivial | simp)) | (apply W_draw (id := 7) [0, 0, 0, 0, 12, 28, 60, 126, 0, 0, 768, 1792, 3840, 0, 0, 24576, 57344, 122880, 261888, 524286, 1048574, 2097151, 4194303] rfl rfl; (· simp; exact .r _); (· simp [h0, h1, h5, h6, h7, ho0, hn]; exact .r _); (· first | trivial | simp))
        rw [List.drop_length, List.drop_length, AddM.mrg, List.append_nil] at heq
        simp [addC, ea, eb, heq, ho0]
end Go.Proofs.Ytmfifjbbjjdacaa.V

namespace Go.Proofs.Ytmfifjbbjjdacaa.V
open Go Go.Proofs
set_option linter.unusedSimpArgs false
theorem szIntS_r (l : List Int) (left : Int) (h0 : 0 ≤ left) (h1 : left ≤ 1048576) (hf : Fit l) : Ret XX 65 [Ar l, In left] (.t (.i .i64 (szA (Lw.w l) left)) false) := by
  have hl : l.length ≤ 9223372036854775807 := hf.1
  rw [show Lw.w l = l.length from wL_ints l]
  refine ret_W rfl Try.func65 rfl rfl (by simp [Try.f65]) ?_
  simp only [Try.f65]
  have hw : IntKind.i64.wrap (left - l.length) = left - l.length := wrap_ok (by omega) (by omega)
  repeat' first | refine W_seq ?_ | refine W_block ?_ | refine W_skip ?_ | refine W_ret ?_ | refine W_exit ?_ | refine xb_hit ?_ | refine xb_miss (by decide) ?_ | (apply W_reg; (simp [hw]; exact .r _))
  refine W_cond (by simp; exact .r _) (fun hc => ?_) (fun hc => ?_)
  · repeat' first | refine W_seq ?_ | refine W_block ?_ | refine W_skip ?_ | refine W_ret ?_ | refine W_exit ?_ | refine xb_hit ?_ | refine xb_miss (by decide) ?_ | (apply W_reg; (simp; exact .r _))
    have : ¬ (l.length : Int) ≤ left := by simp at hc; omega
    simp [szA, this]
  · repeat' first | refine W_seq ?_ | refine W_block ?_ | refine W_skip ?_ | refine W_ret ?_ | refine W_exit ?_ | refine xb_hit ?_ | refine xb_miss (by decide) ?_ | (apply W_reg; (simp; exact .r _))
    have : (l.length : Int) ≤ left := by simp at hc; omega
    simp [szA, this]
theorem toIntS_r (l : List Int) (hl : Lw.bd 1048576 l) : Ret XX 70 [Ar l] (.own 1 (rowsE l)) := by
  have hn := hl.1
  refine ret_W rfl Try.func70 rfl rfl (by simp [Try.f70]) ?_
  simp only [Try.f70]
  repeat' first | refine W_seq ?_ | refine W_block ?_ | refine W_skip ?_ | refine W_ret ?_ | refine W_exit ?_ | refine xb_hit ?_ | refine xb_miss (by decide) ?_ | (apply W_reg; (simp [show l.length < 1099511627776 by omega]; exact .r _))
  refine W_loop (n := l.length) (fun n s => ∃ i : Nat, n = l.length - i ∧ s.nt = 22 ∧ s.tm 0 = Ar l ∧ s.tm 3 = .ref 0 l.length [] ∧ s.tm 4 = In i ∧ i ≤ l.length ∧ s.σ.ob 0 = .arr (.own 0) 0 1 (rowsE (l.take i ++ List.replicate (l.length - i) 0))) ⟨0, by simp [rowsE]⟩ ?_
  rintro n ⟨nt, tm, σ⟩ ⟨i, rfl, hnt, h0, h3, h4, hi, ho⟩
  simp only at hnt h0 h3 h4 ho
  subst hnt
  repeat' first | refine W_seq ?_ | refine W_block ?_ | refine W_skip ?_ | refine W_ret ?_ | refine W_exit ?_ | refine xb_hit ?_ | refine xb_miss (by decide) ?_ | (apply W_reg; (simp [h0, h3, h4, ho]; exact .r _))
  refine W_cond (by simp [h0, h3, h4, ho]; exact .r _) (fun hc => ?_) (fun hc => ?_)
  · have hil : i < l.length := by simpa using hc
    have hle : i ≤ l.length := hi
    have hg : (rowsE (l.take i ++ List.replicate (l.length - i) (0 : Int)))[i]? = some [.i .i64 0] := fill_get l 0 i hil
    have hfs := fill_set l 0 i hil
    have hrl : (rowsE (l.take i ++ List.replicate (l.length - i) (0 : Int))).length = l.length := fill_len l 0 i hi
    repeat' first | refine W_seq ?_ | refine W_block ?_ | refine W_skip ?_ | refine W_ret ?_ | refine W_exit ?_ | refine xb_hit ?_ | refine xb_miss (by decide) ?_ | (apply W_reg; (simp [h0, h3, h4, ho, hil, hg, hrl, hle]; exact .r _))
    exact ⟨_, (by omega), i + 1, rfl, rfl, (by first | assumption | (simp [h0, h3, h4, ho]; done) | (simp [h0, h3, h4, ho]; omega) | (simp [h0, h3, h4, ho]; exact wrap_succ (by omega))), (by first | assumption | (simp [h0, h3, h4, ho]; done) | (simp [h0, h3, h4, ho]; omega) | (simp [h0, h3, h4, ho]; exact wrap_succ (by omega))), (by first | assumption | (simp [h0, h3, h4, ho]; done) | (simp [h0, h3, h4, ho]; omega) | (simp [h0, h3, h4, ho]; exact wrap_succ (by omega))), by omega, by (simp; rw [← hfs, rowsE_set]; rfl)⟩
  · have hil : i = l.length := by simp at hc; omega
    subst hil
    repeat' first | refine W_seq ?_ | refine W_block ?_ | refine W_skip ?_ | refine W_ret ?_ | refine W_exit ?_ | refine xb_hit ?_ | refine xb_miss (by decide) ?_ | (apply W_reg; (simp [h0, h3, h4, ho]; exact .r _))
    simp [ho]
theorem eqIntS_r (a b : List (Int)) (hl : Lw.bd 1048576 a) : Ret XX 75 [Ar a, Ar b] (.t (.b (decide (a = b))) false) := by
  have hn := hl.1
  refine ret_W rfl Try.func75 rfl rfl (by simp [Try.f75]) ?_
  simp only [Try.f75]
  repeat' first | refine W_seq ?_ | refine W_block ?_ | refine W_skip ?_ | refine W_ret ?_ | refine W_exit ?_ | refine xb_hit ?_ | refine xb_miss (by decide) ?_ | (apply W_reg; (simp; exact .r _)) | (apply W_draw (id := 6) [0, 0, 3, 7, 0, 0, 48, 112, 255] rfl rfl; (· simp; exact .r _); (· simp; exact .r _); (· first | trivial | simp))
  refine W_cond (by simp; exact .r _) (fun hc => ?_) (fun hc => ?_)
  · repeat' first | refine W_seq ?_ | refine W_block ?_ | refine W_skip ?_ | refine W_ret ?_ | refine W_exit ?_ | refine xb_hit ?_ | refine xb_miss (by decide) ?_ | (apply W_reg; (simp; exact .r _)) | (apply W_draw (id := 6) [0, 0, 3, 7, 0, 0, 48, 112, 255] rfl rfl; (· simp; exact .r _); (· simp; exact .r _); (· first | trivial | simp))
    have : a ≠ b := fun e => by subst e; simp at hc
    simp [this]
  have hll : a.length = b.length := by simp at hc; omega
  repeat' first | refine W_seq ?_ | refine W_block ?_ | refine W_skip ?_ | refine W_ret ?_ | refine W_exit ?_ | refine xb_hit ?_ | refine xb_miss (by decide) ?_ | (apply W_reg; (simp; exact .r _)) | (apply W_draw (id := 6) [0, 0, 3, 7, 0, 0, 48, 112, 255] rfl rfl; (· simp; exact .r _); (· simp; exact .r _); (· first | trivial | simp))
  refine W_loop (n := a.length) (fun n s => ∃ i : Nat, n = a.length - i ∧ s.nt = 26 ∧ s.tm 0 = Ar a ∧ s.tm 1 = Ar b ∧ s.tm 5 = In i ∧ i ≤ a.length ∧ a.take i = b.take i) ⟨0, by simp⟩ ?_
  rintro n ⟨nt, tm, σ⟩ ⟨i, rfl, hnt, h0, h1, h5, hi, heq⟩
  simp only at hnt h0 h1 h5
  subst hnt
  repeat' first | refine W_seq ?_ | refine W_block ?_ | refine W_skip ?_ | refine W_ret ?_ | refine W_exit ?_ | refine xb_hit ?_ | refine xb_miss (by decide) ?_ | (apply W_reg; (simp [h0, h1, h5]; exact .r _)) | (apply W_draw (id := 6) [0, 0, 3, 7, 0, 0, 48, 112, 255] rfl rfl; (· simp; exact .r _); (· simp [h0, h1, h5]; exact .r _); (· first | trivial | simp))
  refine W_cond (by simp [h0, h1, h5]; exact .r _) (fun hc => ?_) (fun hc => ?_)
  · have hia : i < a.length := by simpa using hc
    have hib : i < b.length := by omega
    repeat' first | refine W_seq ?_ | refine W_block ?_ | refine W_skip ?_ | refine W_ret ?_ | refine W_exit ?_ | refine xb_hit ?_ | refine xb_miss (by decide) ?_ | (apply W_reg; (simp [h0, h1, h5, hia, hib]; exact .r _)) | (apply W_draw (id := 6) [0, 0, 3, 7, 0, 0, 48, 112, 255] rfl rfl; (· simp; exact .r _); (· simp [h0, h1, h5, hia, hib]; exact .r _); (· first | trivial | simp))
    refine W_cond (by simp [h0, h1, h5]; exact .r _) (fun hd => ?_) (fun hd => ?_)
    · repeat' first | refine W_seq ?_ | refine W_block ?_ | refine W_skip ?_ | refine W_ret ?_ | refine W_exit ?_ | refine xb_hit ?_ | refine xb_miss (by decide) ?_ | (apply W_reg; (simp [h0, h1, h5]; exact .r _)) | (apply W_draw (id := 6) [0, 0, 3, 7, 0, 0, 48, 112, 255] rfl rfl; (· simp; exact .r _); (· simp [h0, h1, h5]; exact .r _); (· first | trivial | simp))
      have : a ≠ b := fun e => by subst e; simp at hd
      simp [this]
    · have hd : a[i] = b[i] := by simpa using hd
      repeat' first | refine W_seq ?_ | refine W_block ?_ | refine W_skip ?_ | refine W_ret ?_ | refine W_exit ?_ | refine xb_hit ?_ | refine xb_miss (by decide) ?_ | (apply W_reg; (simp [h0, h1, h5]; exact .r _)) | (apply W_draw (id := 6) [0, 0, 3, 7, 0, 0, 48, 112, 255] rfl rfl; (· simp; exact .r _); (· simp [h0, h1, h5]; exact .r _); (· first | trivial | simp))
      exact ⟨_, (by omega), i + 1, rfl, rfl, (by first | assumption | (simp [h0, h1, h5]; done) | (simp [h0, h1, h5]; omega) | (simp [h0, h1, h5]; exact wrap_succ (by omega))), (by first | assumption | (simp [h0, h1, h5]; done) | (simp [h0, h1, h5]; omega) | (simp [h0, h1, h5]; exact wrap_succ (by omega))), (by first | assumption | (simp [h0, h1, h5]; done) | (simp [h0, h1, h5]; omega) | (simp [h0, h1, h5]; exact wrap_succ (by omega))), by omega, by rw [List.take_succ_eq_append_getElem hia, List.take_succ_eq_append_getElem hib, heq, hd]⟩
  · have hil : i = a.length := by simp at hc; omega
    subst hil
    repeat' first | refine W_seq ?_ | refine W_block ?_ | refine W_skip ?_ | refine W_ret ?_ | refine W_exit ?_ | refine xb_hit ?_ | refine xb_miss (by decide) ?_ | (apply W_reg; (simp [h0, h1, h5]; exact .r _)) | (apply W_draw (id := 6) [0, 0, 3, 7, 0, 0, 48, 112, 255] rfl rfl; (· simp; exact .r _); (· simp [h0, h1, h5]; exact .r _); (· first | trivial | simp))
    rw [List.take_length, hll, List.take_length] at heq
    have : a = b := heq
    simp [this]
theorem markIntS_m (σ : Sto) (o v st sz : Nat) (p : List (Nat × Nat)) (rows : List (List T)) (l : List (Int)) (hob : σ.ob o = .arr (.own 0) st sz rows) (hnm : Nm st rows v p (rowsE l)) (k : Int) (h0 : 0 ≤ k) (hk : k + cntL l ≤ 4611686018427387903) (hl : Lw.bd 1048576 l) :
    XX 47 [.ref o v p, In k] σ = some (In (k + cntL l), σ.set o (.arr (.own 0) st sz (setAt rows p fun _ => rowsE (mkL k l)))) := by
  have hn := hl.1
  have key : ∃ r σ', XX 47 [.ref o v p, In k] σ = some (r, σ') ∧ (r = In (k + cntL l) ∧ σ' = σ.set o (.arr (.own 0) st sz (setAt rows p fun _ => rowsE (mkL k l)))) := by
    refine W_fn rfl Try.func47 rfl rfl (by simp [Try.f47]) ?_
    simp only [Try.f47]
    repeat' first | refine W_seq ?_ | refine W_block ?_ | refine W_skip ?_ | refine W_ret ?_ | refine W_exit ?_ | refine xb_hit ?_ | refine xb_miss (by decide) ?_ | (apply W_reg; (simp; exact .r _))
    have hst : σ = σ.set o (.arr (.own 0) st sz (setAt rows p fun _ => rowsE (mkU k l 0))) := by
      rw [mkU_zero, setAt_id hnm.2.2, ← hob]
      cases σ; simp only [Sto.set]; congr 1; funext x; unfold upd; split
      · rename_i e; rw [e]
      · rfl
    refine W_loop (n := l.length) (fun n s => ∃ i : Nat, n = l.length - i ∧ s.nt = 19 ∧ s.tm 0 = .ref o v p ∧ s.tm 1 = In (k + cntL (l.take i)) ∧ s.tm 5 = In i ∧ i ≤ l.length ∧ s.σ = σ.set o (.arr (.own 0) st sz (setAt rows p fun _ => rowsE (mkU k l i)))) ⟨0, by simp [cntL]; exact hst⟩ ?_
    rintro n ⟨nt, tm, σ⟩ ⟨i, rfl, hnt, h0, h1, h5, hi, hs⟩
    simp only at hnt h0 h1 h5 hs
    subst hnt
    subst hs
    have hnm1 : Nm st (setAt rows p fun _ => rowsE (mkU k l i)) v p (rowsE (mkU k l i)) := hnm.set (by simp [mkU_len])
    have hrw := hnm1.rows (sz := sz)
    have hlen : (rowsE (mkU k l i)).length = l.length := by simp [mkU_len]
    have hcl := cntL_take_le l i
    repeat' first | refine W_seq ?_ | refine W_block ?_ | refine W_skip ?_ | refine W_ret ?_ | refine W_exit ?_ | refine xb_hit ?_ | refine xb_miss (by decide) ?_ | (apply W_reg; (simp [-VO.rows, h0, h1, h5, hrw, hlen]; exact .r _))
    refine W_cond (by simp [-VO.rows, h0, h1, h5]; exact .r _) (fun hc => ?_) (fun hc => ?_)
    · have hil : i < l.length := by simpa using hc
      have hg : (rowsE (mkU k l i))[i]? = some [.i .i64 l[i]] := by simp [rowsE, mkU_get k l i hil]
      have hct := cntL_take l i hil
      have hcl2 := cntL_take_le l (i + 1)
      have hset := mkU_set k l i hil
      repeat' first | refine W_seq ?_ | refine W_block ?_ | refine W_skip ?_ | refine W_ret ?_ | refine W_exit ?_ | refine xb_hit ?_ | refine xb_miss (by decide) ?_ | (apply W_reg; (simp [-VO.rows, h0, h1, h5, hrw, hg, hil]; exact .r _))
      refine ⟨_, ?_, i + 1, rfl, rfl, by simp [h0], ?_, ?_, by omega, ?_⟩
      · omega
      · simp; rw [hct, wrap_ok (by omega) (by omega)]; simp only [cnt_int]; omega
      · simp [h5]; exact wrap_succ (by omega)
      · simp only [Sto.set, upd_upd, setAt_set]
        rw [← hset, rowsE_set]; rfl
    · have hil : i = l.length := by simp at hc; omega
      subst hil
      repeat' first | refine W_seq ?_ | refine W_block ?_ | refine W_skip ?_ | refine W_ret ?_ | refine W_exit ?_ | refine xb_hit ?_ | refine xb_miss (by decide) ?_ | (apply W_reg; (simp [-VO.rows, h0, h1, h5]; exact .r _))
      simp only [mkU_all, List.take_length] at *
      exact ⟨In (k + cntL l), by simp [h1], rfl, rfl⟩
  obtain ⟨r, σ', h1, h2, h3⟩ := key
  rw [h1, h2, h3]
theorem markIntS_c (σ : Sto) (o v st sz : Nat) (p : List (Nat × Nat)) (rows : List (List T)) (l : List (Int)) (hob : σ.ob o = .arr (.own 0) st sz rows) (hnm : Nm st rows v p (rowsE l)) (k : Int) (h0 : 0 ≤ k) (hk : k + cntL l ≤ 4611686018427387903) (hl : Lw.bd 1048576 l) :
    callV Ms XX σ 47 [.ref o v p, In k] = some (In (k + cntL l), σ.set o (.arr (.own 0) st sz (setAt rows p fun _ => rowsE (mkL k l)))) := callV_d (by rfl) (markIntS_m σ o v st sz p rows l hob hnm k h0 hk hl) rfl
theorem mkLenIntS (k : Int) (l : List (Int)) : (rowsE (mkL k l)).length = l.length := by simp [mkL_len]
theorem heldIntS_r (l : List (Int)) (k : Int) (h0 : 0 ≤ k) (hk : k + cntL l ≤ 4611686018427387903) (hl : Lw.bd 1048576 l) : Ret XX 48 [Ar (mkL k l), In k] (.t (.i .i64 (k + cntL l)) false) := by
  have hn := hl.1
  have hlen := mkLenIntS k l
  refine ret_W rfl Try.func48 rfl rfl (by simp [Try.f48]) ?_
  simp only [Try.f48]
  repeat' first | refine W_seq ?_ | refine W_block ?_ | refine W_skip ?_ | refine W_ret ?_ | refine W_exit ?_ | refine xb_hit ?_ | refine xb_miss (by decide) ?_ | (apply W_reg; (simp; exact .r _))
  refine W_loop (n := l.length) (fun n s => ∃ i : Nat, n = l.length - i ∧ s.nt = 21 ∧ s.tm 0 = Ar (mkL k l) ∧ s.tm 1 = In (k + cntL (l.take i)) ∧ s.tm 5 = In i ∧ i ≤ l.length) ⟨0, by simp [cntL]⟩ ?_
  rintro n ⟨nt, tm, σ⟩ ⟨i, rfl, hnt, h0, h1, h5, hi⟩
  simp only at hnt h0 h1 h5
  subst hnt
  have hcl := cntL_take_le l i
  repeat' first | refine W_seq ?_ | refine W_block ?_ | refine W_skip ?_ | refine W_ret ?_ | refine W_exit ?_ | refine xb_hit ?_ | refine xb_miss (by decide) ?_ | (apply W_reg; (simp [h0, h1, h5, mkL_len]; exact .r _))
  refine W_cond (by simp [h0, h1, h5]; exact .r _) (fun hc => ?_) (fun hc => ?_)
  · have hil : i < l.length := by simpa using hc
    have hg : (rowsE (mkL k l))[i]? = some [.i .i64 (k + cntL (l.take i))] := by rw [rowsE, List.getElem?_map, mkL_get k l i hil]; rfl
    have hct := cntL_take l i hil
    have hcl2 := cntL_take_le l (i + 1)
    repeat' first | refine W_seq ?_ | refine W_block ?_ | refine W_skip ?_ | refine W_ret ?_ | refine W_exit ?_ | refine xb_hit ?_ | refine xb_miss (by decide) ?_ | (apply W_reg; (simp [h0, h1, h5, hg, hil]; exact .r _))
    refine W_cond (by simp [h0, h1, h5]; exact .r _) (fun hd => ?_) (fun hd => ?_)
    · simp at hd
    · repeat' first | refine W_seq ?_ | refine W_block ?_ | refine W_skip ?_ | refine W_ret ?_ | refine W_exit ?_ | refine xb_hit ?_ | refine xb_miss (by decide) ?_ | (apply W_reg; (simp [h0, h1, h5]; exact .r _))
      exact ⟨_, (by omega), i + 1, rfl, rfl, (by first | assumption | (simp [h0, h1, h5]; done) | (simp [h0, h1, h5]; omega) | (simp [h0, h1, h5]; exact wrap_succ (by omega))), by (simp [h1]; rw [hct, wrap_ok (by omega) (by omega)]; simp only [cnt_int]; omega), (by first | assumption | (simp [h0, h1, h5]; done) | (simp [h0, h1, h5]; omega) | (simp [h0, h1, h5]; exact wrap_succ (by omega))), by omega⟩
  · have hil : i = l.length := by simp at hc; omega
    subst hil
    repeat' first | refine W_seq ?_ | refine W_block ?_ | refine W_skip ?_ | refine W_ret ?_ | refine W_exit ?_ | refine xb_hit ?_ | refine xb_miss (by decide) ?_ | (apply W_reg; (simp [h0, h1, h5]; exact .r _))
    simp [h1, List.take_length]
theorem szCounted_r (a : Cnt) (left : Int) (h0 : 0 ≤ left) (h1 : left ≤ 1048576) (hf : Fit a) : Ret XX 36 [Ag a, In left] (.t (.i .i64 (szA (Lw.w a) left)) false) := by
  refine ret_W rfl Try.func36 rfl rfl (by simp [Try.f36]) ?_
  simp only [Try.f36]
  have c0 := fun (r : Int) (g0 : 0 ≤ r) (g1 : r ≤ 1048576) => cv (szIntS_r a.tuple r g0 g1 hf)
  have hw : Lw.w a = Lw.w a.tuple := rfl
  have d0 := c0 (left) (by omega) (by omega)
  repeat' first | refine W_seq ?_ | refine W_block ?_ | refine W_skip ?_ | refine W_ret ?_ | refine W_exit ?_ | refine xb_hit ?_ | refine xb_miss (by decide) ?_ | (apply W_reg; (simp [Ag, d0]; exact .r _))
  by_cases e0 : ((Lw.w a.tuple : Nat) : Int) ≤ left
  case neg =>
    have s0 : szA (Lw.w a.tuple) (left) = -1 := by unfold szA; rw [if_neg e0]
    have s9 : szA (Lw.w a) left = -1 := by unfold szA; rw [hw, if_neg (by omega)]
    refine W_cond (by simp; exact .r _) (fun hc => ?_) (fun hc => ?_)
    · repeat' first | refine W_seq ?_ | refine W_block ?_ | refine W_skip ?_ | refine W_ret ?_ | refine W_exit ?_ | refine xb_hit ?_ | refine xb_miss (by decide) ?_ | (apply W_reg; (simp; exact .r _))
      rw [s9]; simp
    · exfalso; revert hc; rw [s0]; simp
  have s0 : szA (Lw.w a.tuple) (left) = left - (Lw.w a.tuple : Nat) := by unfold szA; rw [if_pos e0]
  refine W_cond (by simp; exact .r _) (fun hc => ?_) (fun hc => ?_)
  · exfalso; revert hc; rw [s0]; simp; omega
  repeat' first | refine W_seq ?_ | refine W_block ?_ | refine W_skip ?_ | refine W_ret ?_ | refine W_exit ?_ | refine xb_hit ?_ | refine xb_miss (by decide) ?_ | (apply W_reg; (simp [s0]; exact .r _))
  have s9 : szA (Lw.w a) left = left - (Lw.w a.tuple : Nat) := by unfold szA; (rw [hw, if_pos (by omega)]) <;> omega
  rw [s9]; simp [s0]
theorem toCounted_r (a : Cnt) (hl : Lw.bd 1048576 a) : Ret XX 39 [Ag a] (.agg [.own 1 (rowsE a.tuple), .t (.i .i64 a.count) false]) := by
  refine ret_W rfl Try.func39 rfl rfl (by simp [Try.f39]) ?_
  simp only [Try.f39]
  have c0 := cv (toIntS_r a.tuple hl)
  repeat' first | refine W_seq ?_ | refine W_block ?_ | refine W_skip ?_ | refine W_ret ?_ | refine W_exit ?_ | refine xb_hit ?_ | refine xb_miss (by decide) ?_ | (apply W_reg; (simp [Ag, c0]; exact .r _))
  simp
theorem eqCounted_r (a b : Cnt) (hl : Lw.bd 1048576 a) : Ret XX 46 [Ag a, Ag b] (.t (.b (decide (a = b))) false) := by
  refine ret_W rfl Try.func46 rfl rfl (by simp [Try.f46]) ?_
  simp only [Try.f46]
  have c0 := cv (eqIntS_r a.tuple b.tuple hl)
  repeat' first | refine W_seq ?_ | refine W_block ?_ | refine W_skip ?_ | refine W_ret ?_ | refine W_exit ?_ | refine xb_hit ?_ | refine xb_miss (by decide) ?_ | (apply W_reg; (simp [Ag, c0]; exact .r _))
  refine W_cond (by simp; exact .r _) (fun hc => ?_) (fun hc => ?_)
  · repeat' first | refine W_seq ?_ | refine W_block ?_ | refine W_skip ?_ | refine W_ret ?_ | refine W_exit ?_ | refine xb_hit ?_ | refine xb_miss (by decide) ?_ | (apply W_reg; (simp; exact .r _))
    have : a ≠ b := fun e => by subst e; simp at hc
    simp [this]
  have e0 : a.tuple = b.tuple := by simpa using hc
  clear hc
  repeat' first | refine W_seq ?_ | refine W_block ?_ | refine W_skip ?_ | refine W_ret ?_ | refine W_exit ?_ | refine xb_hit ?_ | refine xb_miss (by decide) ?_ | (apply W_reg; (simp [Ag, c0]; exact .r _))
  refine W_cond (by simp; exact .r _) (fun hc => ?_) (fun hc => ?_)
  · repeat' first | refine W_seq ?_ | refine W_block ?_ | refine W_skip ?_ | refine W_ret ?_ | refine W_exit ?_ | refine xb_hit ?_ | refine xb_miss (by decide) ?_ | (apply W_reg; (simp; exact .r _))
    have : a ≠ b := fun e => by subst e; simp at hc
    simp [this]
  have e1 : a.count = b.count := by simpa using hc
  clear hc
  repeat' first | refine W_seq ?_ | refine W_block ?_ | refine W_skip ?_ | refine W_ret ?_ | refine W_exit ?_ | refine xb_hit ?_ | refine xb_miss (by decide) ?_ | (apply W_reg; (simp; exact .r _))
  have : a = b := by cases a; cases b; simp only at e0 e1; simp [e0, e1]
  simp [this]
theorem szCountedS_r (l : List (Cnt)) (left : Int) (h0 : 0 ≤ left) (h1 : left ≤ 1048576) (hf : Fit l) : Ret XX 6 [Ar l, In left] (.t (.i .i64 (szA (Lw.w l) left)) false) := by
  have hl : l.length ≤ 9223372036854775807 := hf.1
  have hwl : Lw.w l = wL l := rfl
  rw [hwl]
  refine ret_W rfl Try.func6 rfl rfl (by simp [Try.f6]) ?_
  simp only [Try.f6]
  have hw : IntKind.i64.wrap (left - l.length) = left - l.length := wrap_ok (by omega) (by omega)
  repeat' first | refine W_seq ?_ | refine W_block ?_ | refine W_skip ?_ | refine W_ret ?_ | refine W_exit ?_ | refine xb_hit ?_ | refine xb_miss (by decide) ?_ | (apply W_reg; (simp [hw]; exact .r _))
  refine W_cond (by simp; exact .r _) (fun hc => ?_) (fun hc => ?_)
  · repeat' first | refine W_seq ?_ | refine W_block ?_ | refine W_skip ?_ | refine W_ret ?_ | refine W_exit ?_ | refine xb_hit ?_ | refine xb_miss (by decide) ?_ | (apply W_reg; (simp; exact .r _))
    have hgt : ¬ (l.length : Int) ≤ left := by simp at hc; omega
    have : ¬ ((wL l : Nat) : Int) ≤ left := by unfold wL; omega
    simp [szA, this]
  have hle : (l.length : Int) ≤ left := by simp at hc; omega
  repeat' first | refine W_seq ?_ | refine W_block ?_ | refine W_skip ?_ | refine W_ret ?_ | refine W_exit ?_ | refine xb_hit ?_ | refine xb_miss (by decide) ?_ | (apply W_reg; (simp; exact .r _))
  refine W_loop (n := l.length) (fun n s => ∃ i : Nat, ∃ r : Int, n = l.length - i ∧ s.nt = 27 ∧ s.tm 0 = Ar l ∧ s.tm 1 = In r ∧ s.tm 5 = In i ∧ i ≤ l.length ∧ 0 ≤ r ∧ r = left - l.length - ((l.take i).map Lw.w).sum) ⟨0, left - l.length, by simp <;> omega⟩ ?_
  rintro n ⟨nt, tm, σ⟩ ⟨i, r, rfl, hnt, h0, h1, h5, hi, hr, hre⟩
  simp only at hnt h0 h1 h5
  subst hnt
  repeat' first | refine W_seq ?_ | refine W_block ?_ | refine W_skip ?_ | refine W_ret ?_ | refine W_exit ?_ | refine xb_hit ?_ | refine xb_miss (by decide) ?_ | (apply W_reg; (simp [h0, h1, h5]; exact .r _))
  have hsplit : wL l = l.length + ((l.take i).map Lw.w).sum + ((l.drop i).map Lw.w).sum := by
    have := wL_split l i; unfold wL; omega
  refine W_cond (by simp [h0, h1, h5]; exact .r _) (fun hc => ?_) (fun hc => ?_)
  · have hil : i < l.length := by simp at hc; omega
    have hcc := cv (szCounted_r l[i] r hr (by omega) (hf.2 _ (List.getElem_mem hil)))
    simp only [Ag, cells_Cnt, List.map_cons, List.map_nil] at hcc
    repeat' first | refine W_seq ?_ | refine W_block ?_ | refine W_skip ?_ | refine W_ret ?_ | refine W_exit ?_ | refine xb_hit ?_ | refine xb_miss (by decide) ?_ | (apply W_reg; (simp [h0, h1, h5, hil, hcc]; exact .r _))
    have hd : ((l.drop i).map Lw.w).sum = Lw.w l[i] + ((l.drop (i + 1)).map Lw.w).sum := by rw [List.drop_eq_getElem_cons hil, List.map_cons, List.sum_cons]
    have ht := wL_take l i hil
    by_cases h : ((Lw.w l[i] : Nat) : Int) ≤ r
    · have h' : szA (Lw.w l[i]) r = r - Lw.w l[i] := by simp [szA, h]
      refine W_cond (by simp [h0, h1, h5]; exact .r _) (fun he => ?_) (fun he => ?_)
      · rw [h'] at he; simp at he; omega
      · repeat' first | refine W_seq ?_ | refine W_block ?_ | refine W_skip ?_ | refine W_ret ?_ | refine W_exit ?_ | refine xb_hit ?_ | refine xb_miss (by decide) ?_ | (apply W_reg; (simp [h0, h1, h5]; exact .r _))
        exact ⟨_, (by omega), i + 1, szA (Lw.w l[i]) r, rfl, rfl, (by first | assumption | (simp [h0, h1, h5]; done) | (simp [h0, h1, h5]; omega) | (simp [h0, h1, h5]; exact wrap_succ (by omega))), (by first | assumption | (simp [h0, h1, h5]; done) | (simp [h0, h1, h5]; omega) | (simp [h0, h1, h5]; exact wrap_succ (by omega))), (by first | assumption | (simp [h0, h1, h5]; done) | (simp [h0, h1, h5]; omega) | (simp [h0, h1, h5]; exact wrap_succ (by omega))), by omega, by (rw [h']; omega), by (rw [h', ht]; omega)⟩
    · refine W_cond (by simp [h0, h1, h5]; exact .r _) (fun he => ?_) (fun he => ?_)
      · repeat' first | refine W_seq ?_ | refine W_block ?_ | refine W_skip ?_ | refine W_ret ?_ | refine W_exit ?_ | refine xb_hit ?_ | refine xb_miss (by decide) ?_ | (apply W_reg; (simp [h0, h1, h5]; exact .r _))
        have : ¬ ((wL l : Nat) : Int) ≤ left := by rw [hsplit, hd]; omega
        simp [szA, this]
      · exfalso
        have h' : szA (Lw.w l[i]) r = -1 := by unfold szA; rw [if_neg h]
        rw [h'] at he; simp at he
  · have hil : i = l.length := by simp at hc; omega
    subst hil
    repeat' first | refine W_seq ?_ | refine W_block ?_ | refine W_skip ?_ | refine W_ret ?_ | refine W_exit ?_ | refine xb_hit ?_ | refine xb_miss (by decide) ?_ | (apply W_reg; (simp [h0, h1, h5]; exact .r _))
    rw [List.drop_length] at hsplit
    simp only [List.map_nil, List.sum_nil, Nat.add_zero] at hsplit
    have : ((wL l : Nat) : Int) ≤ left := by rw [hsplit]; omega
    have h9 : szA (wL l) left = r := by rw [szA, if_pos this, hsplit]; omega
    simp [h9]
theorem toCountedS_r (l : List (Cnt)) (hl : Lw.bd 1048576 l) : Ret XX 8 [Ar l] (.own 2 (rowsE l)) := by
  have hn := hl.1
  refine ret_W rfl Try.func8 rfl rfl (by simp [Try.f8]) ?_
  simp only [Try.f8]
  repeat' first | refine W_seq ?_ | refine W_block ?_ | refine W_skip ?_ | refine W_ret ?_ | refine W_exit ?_ | refine xb_hit ?_ | refine xb_miss (by decide) ?_ | (apply W_reg; (simp [show l.length < 1099511627776 by omega]; exact .r _))
  refine W_loop (n := l.length) (fun n s => ∃ i : Nat, ∃ st : Nat, n = l.length - i ∧ s.nt = 23 ∧ s.tm 0 = Ar l ∧ s.tm 3 = .ref 0 l.length [] ∧ s.tm 4 = In i ∧ i ≤ l.length ∧ s.σ.ob 0 = .arr (.own 0) st 2 (rowsE (l.take i ++ List.replicate (l.length - i) (⟨[], 0⟩ : Cnt))) ∧ 1 ≤ s.σ.n) ⟨0, 0, by simp [rowsE]⟩ ?_
  rintro n ⟨nt, tm, σ⟩ ⟨i, st, rfl, hnt, h0, h3, h4, hi, ho, hn1⟩
  simp only at hnt h0 h3 h4 ho hn1
  subst hnt
  repeat' first | refine W_seq ?_ | refine W_block ?_ | refine W_skip ?_ | refine W_ret ?_ | refine W_exit ?_ | refine xb_hit ?_ | refine xb_miss (by decide) ?_ | (apply W_reg; (simp [h0, h3, h4, ho, hn1]; exact .r _))
  refine W_cond (by simp [h0, h3, h4, ho, hn1]; exact .r _) (fun hc => ?_) (fun hc => ?_)
  · have hil : i < l.length := by simpa using hc
    have hle : i ≤ l.length := hi
    have e0 : ¬ (0 = σ.n) := by omega
    have e0' : ¬ (σ.n = 0) := by omega
    have hg : (rowsE (l.take i ++ List.replicate (l.length - i) (⟨[], 0⟩ : Cnt)))[i]? = some (Enc.cells (⟨[], 0⟩ : Cnt)) := fill_get l _ i hil
    have hfs := fill_set l (⟨[], 0⟩ : Cnt) i hil
    have hrl : (rowsE (l.take i ++ List.replicate (l.length - i) (⟨[], 0⟩ : Cnt))).length = l.length := fill_len l _ i hi
    simp only [cells_Cnt, rowsE_nil] at hg
    have hcc := cv (toCounted_r l[i] (hl.2 _ (List.getElem_mem hil)))
    simp only [Ag, cells_Cnt, List.map_cons, List.map_nil] at hcc
    repeat' first | refine W_seq ?_ | refine W_block ?_ | refine W_skip ?_ | refine W_ret ?_ | refine W_exit ?_ | refine xb_hit ?_ | refine xb_miss (by decide) ?_ | (apply W_reg; (simp [h0, h3, h4, ho, hn1, hil, hg, hrl, hle, hcc, e0, e0']; exact .r _))
    exact ⟨_, (by omega), i + 1, st + 1, rfl, rfl, (by first | assumption | (simp [h0, h3, h4, ho, hn1, e0, e0']; done) | (simp [h0, h3, h4, ho, hn1, e0, e0']; omega) | (simp [h0, h3, h4, ho, hn1, e0, e0']; exact wrap_succ (by omega))), (by first | assumption | (simp [h0, h3, h4, ho, hn1, e0, e0']; done) | (simp [h0, h3, h4, ho, hn1, e0, e0']; omega) | (simp [h0, h3, h4, ho, hn1, e0, e0']; exact wrap_succ (by omega))), (by first | assumption | (simp [h0, h3, h4, ho, hn1, e0, e0']; done) | (simp [h0, h3, h4, ho, hn1, e0, e0']; omega) | (simp [h0, h3, h4, ho, hn1, e0, e0']; exact wrap_succ (by omega))), by omega, by (simp [e0, e0']; rw [← hfs, rowsE_set]; rfl), (by first | assumption | (simp [h0, h3, h4, ho, hn1, e0, e0']; done) | (simp [h0, h3, h4, ho, hn1, e0, e0']; omega) | (simp [h0, h3, h4, ho, hn1, e0, e0']; exact wrap_succ (by omega)))⟩
  · have hil : i = l.length := by simp at hc; omega
    subst hil
    repeat' first | refine W_seq ?_ | refine W_block ?_ | refine W_skip ?_ | refine W_ret ?_ | refine W_exit ?_ | refine xb_hit ?_ | refine xb_miss (by decide) ?_ | (apply W_reg; (simp [h0, h3, h4, ho, hn1]; exact .r _))
    simp [ho]
theorem eqCountedS_r (a b : List (Cnt)) (hl : Lw.bd 1048576 a) : Ret XX 10 [Ar a, Ar b] (.t (.b (decide (a = b))) false) := by
  have hn := hl.1
  refine ret_W rfl Try.func10 rfl rfl (by simp [Try.f10]) ?_
  simp only [Try.f10]
  repeat' first | refine W_seq ?_ | refine W_block ?_ | refine W_skip ?_ | refine W_ret ?_ | refine W_exit ?_ | refine xb_hit ?_ | refine xb_miss (by decide) ?_ | (apply W_reg; (simp; exact .r _)) | (apply W_draw (id := 6) [0, 0, 3, 7, 0, 0, 48, 112, 255, 511] rfl rfl; (· simp; exact .r _); (· simp; exact .r _); (· first | trivial | simp))
  refine W_cond (by simp; exact .r _) (fun hc => ?_) (fun hc => ?_)
  · repeat' first | refine W_seq ?_ | refine W_block ?_ | refine W_skip ?_ | refine W_ret ?_ | refine W_exit ?_ | refine xb_hit ?_ | refine xb_miss (by decide) ?_ | (apply W_reg; (simp; exact .r _)) | (apply W_draw (id := 6) [0, 0, 3, 7, 0, 0, 48, 112, 255, 511] rfl rfl; (· simp; exact .r _); (· simp; exact .r _); (· first | trivial | simp))
    have : a ≠ b := fun e => by subst e; simp at hc
    simp [this]
  have hll : a.length = b.length := by simp at hc; omega
  repeat' first | refine W_seq ?_ | refine W_block ?_ | refine W_skip ?_ | refine W_ret ?_ | refine W_exit ?_ | refine xb_hit ?_ | refine xb_miss (by decide) ?_ | (apply W_reg; (simp; exact .r _)) | (apply W_draw (id := 6) [0, 0, 3, 7, 0, 0, 48, 112, 255, 511] rfl rfl; (· simp; exact .r _); (· simp; exact .r _); (· first | trivial | simp))
  refine W_loop (n := a.length) (fun n s => ∃ i : Nat, n = a.length - i ∧ s.nt = 27 ∧ s.tm 0 = Ar a ∧ s.tm 1 = Ar b ∧ s.tm 5 = In i ∧ i ≤ a.length ∧ a.take i = b.take i) ⟨0, by simp⟩ ?_
  rintro n ⟨nt, tm, σ⟩ ⟨i, rfl, hnt, h0, h1, h5, hi, heq⟩
  simp only at hnt h0 h1 h5
  subst hnt
  repeat' first | refine W_seq ?_ | refine W_block ?_ | refine W_skip ?_ | refine W_ret ?_ | refine W_exit ?_ | refine xb_hit ?_ | refine xb_miss (by decide) ?_ | (apply W_reg; (simp [h0, h1, h5]; exact .r _)) | (apply W_draw (id := 6) [0, 0, 3, 7, 0, 0, 48, 112, 255, 511] rfl rfl; (· simp; exact .r _); (· simp [h0, h1, h5]; exact .r _); (· first | trivial | simp))
  refine W_cond (by simp [h0, h1, h5]; exact .r _) (fun hc => ?_) (fun hc => ?_)
  · have hia : i < a.length := by simpa using hc
    have hib : i < b.length := by omega
    have hcc := cv (eqCounted_r a[i] b[i] (hl.2 _ (List.getElem_mem hia)))
    simp only [Ag, cells_Cnt, List.map_cons, List.map_nil] at hcc
    repeat' first | refine W_seq ?_ | refine W_block ?_ | refine W_skip ?_ | refine W_ret ?_ | refine W_exit ?_ | refine xb_hit ?_ | refine xb_miss (by decide) ?_ | (apply W_reg; (simp [h0, h1, h5, hia, hib, hcc]; exact .r _)) | (apply W_draw (id := 6) [0, 0, 3, 7, 0, 0, 48, 112, 255, 511] rfl rfl; (· simp; exact .r _); (· simp [h0, h1, h5, hia, hib, hcc]; exact .r _); (· first | trivial | simp))
    refine W_cond (by simp [h0, h1, h5]; exact .r _) (fun hd => ?_) (fun hd => ?_)
    · repeat' first | refine W_seq ?_ | refine W_block ?_ | refine W_skip ?_ | refine W_ret ?_ | refine W_exit ?_ | refine xb_hit ?_ | refine xb_miss (by decide) ?_ | (apply W_reg; (simp [h0, h1, h5]; exact .r _)) | (apply W_draw (id := 6) [0, 0, 3, 7, 0, 0, 48, 112, 255, 511] rfl rfl; (· simp; exact .r _); (· simp [h0, h1, h5]; exact .r _); (· first | trivial | simp))
      have : a ≠ b := fun e => by subst e; simp at hd
      simp [this]
    · have hd : a[i] = b[i] := by simpa using hd
      repeat' first | refine W_seq ?_ | refine W_block ?_ | refine W_skip ?_ | refine W_ret ?_ | refine W_exit ?_ | refine xb_hit ?_ | refine xb_miss (by decide) ?_ | (apply W_reg; (simp [h0, h1, h5]; exact .r _)) | (apply W_draw (id := 6) [0, 0, 3, 7, 0, 0, 48, 112, 255, 511] rfl rfl; (· simp; exact .r _); (· simp [h0, h1, h5]; exact .r _); (· first | trivial | simp))
      exact ⟨_, (by omega), i + 1, rfl, rfl, (by first | assumption | (simp [h0, h1, h5]; done) | (simp [h0, h1, h5]; omega) | (simp [h0, h1, h5]; exact wrap_succ (by omega))), (by first | assumption | (simp [h0, h1, h5]; done) | (simp [h0, h1, h5]; omega) | (simp [h0, h1, h5]; exact wrap_succ (by omega))), (by first | assumption | (simp [h0, h1, h5]; done) | (simp [h0, h1, h5]; omega) | (simp [h0, h1, h5]; exact wrap_succ (by omega))), by omega, by rw [List.take_succ_eq_append_getElem hia, List.take_succ_eq_append_getElem hib, heq, hd]⟩
  · have hil : i = a.length := by simp at hc; omega
    subst hil
    repeat' first | refine W_seq ?_ | refine W_block ?_ | refine W_skip ?_ | refine W_ret ?_ | refine W_exit ?_ | refine xb_hit ?_ | refine xb_miss (by decide) ?_ | (apply W_reg; (simp [h0, h1, h5]; exact .r _)) | (apply W_draw (id := 6) [0, 0, 3, 7, 0, 0, 48, 112, 255, 511] rfl rfl; (· simp; exact .r _); (· simp [h0, h1, h5]; exact .r _); (· first | trivial | simp))
    rw [List.take_length, hll, List.take_length] at heq
    have : a = b := heq
    simp [this]
theorem markCountedS_m (σ : Sto) (o v st sz : Nat) (p : List (Nat × Nat)) (rows : List (List T)) (l : List (Cnt)) (hob : σ.ob o = .arr (.own 0) st sz rows) (hnm : Nm st rows v p (rowsE l)) (k : Int) (h0 : 0 ≤ k) (hk : k + cntL l ≤ 4611686018427387903) (hl : Lw.bd 1048576 l) :
    XX 11 [.ref o v p, In k] σ = some (In (k + cntL l), σ.set o (.arr (.own 0) st sz (setAt rows p fun _ => rowsE (mkL k l)))) := by
  have hn := hl.1
  have key : ∃ r σ', XX 11 [.ref o v p, In k] σ = some (r, σ') ∧ (r = In (k + cntL l) ∧ σ' = σ.set o (.arr (.own 0) st sz (setAt rows p fun _ => rowsE (mkL k l)))) := by
    refine W_fn rfl Try.func11 rfl rfl (by simp [Try.f11]) ?_
    simp only [Try.f11]
    repeat' first | refine W_seq ?_ | refine W_block ?_ | refine W_skip ?_ | refine W_ret ?_ | refine W_exit ?_ | refine xb_hit ?_ | refine xb_miss (by decide) ?_ | (apply W_reg; (simp; exact .r _))
    have hst : σ = σ.set o (.arr (.own 0) st sz (setAt rows p fun _ => rowsE (mkU k l 0))) := by
      rw [mkU_zero, setAt_id hnm.2.2, ← hob]
      cases σ; simp only [Sto.set]; congr 1; funext x; unfold upd; split
      · rename_i e; rw [e]
      · rfl
    refine W_loop (n := l.length) (fun n s => ∃ i : Nat, n = l.length - i ∧ s.nt = 27 ∧ s.tm 0 = .ref o v p ∧ s.tm 1 = In (k + cntL (l.take i)) ∧ s.tm 5 = In i ∧ i ≤ l.length ∧ s.σ = σ.set o (.arr (.own 0) st sz (setAt rows p fun _ => rowsE (mkU k l i)))) ⟨0, by simp [cntL]; exact hst⟩ ?_
    rintro n ⟨nt, tm, σ⟩ ⟨i, rfl, hnt, h0, h1, h5, hi, hs⟩
    simp only at hnt h0 h1 h5 hs
    subst hnt
    subst hs
    have hnm1 : Nm st (setAt rows p fun _ => rowsE (mkU k l i)) v p (rowsE (mkU k l i)) := hnm.set (by simp [mkU_len])
    have hrw := hnm1.rows (sz := sz)
    have hlen : (rowsE (mkU k l i)).length = l.length := by simp [mkU_len]
    have hcl := cntL_take_le l i
    repeat' first | refine W_seq ?_ | refine W_block ?_ | refine W_skip ?_ | refine W_ret ?_ | refine W_exit ?_ | refine xb_hit ?_ | refine xb_miss (by decide) ?_ | (apply W_reg; (simp [-VO.rows, h0, h1, h5, hrw, hlen]; exact .r _))
    refine W_cond (by simp [-VO.rows, h0, h1, h5]; exact .r _) (fun hc => ?_) (fun hc => ?_)
    · have hil : i < l.length := by simpa using hc
      have hct := cntL_take l i hil
      have hcl2 := cntL_take_le l (i + 1)
      have hset := mkU_set k l i hil
      have hlx := hl.2 _ (List.getElem_mem hil)
      have hcut : Mk.cnt l[i] = cntL l[i].tuple + 1 := rfl
      have g0 : (rowsE (mkU k l i))[i]? = some [.sl (rowsE l[i].tuple), .i .i64 l[i].count] := by simp [rowsE, mkU_get k l i hil]
      have n0 := hnm1
      have in0 := n0.inner (i := i) (j := 0) g0 rfl
      have w0 := n0.rows (sz := sz)
      have cc0 := markIntS_c (σ.set o (.arr (.own 0) st sz (setAt rows p fun _ => rowsE (mkU k l i)))) o st st sz (p ++ [(i, 0)]) _ l[i].tuple (by simp) in0 (k + cntL (l.take i)) (by omega) (by omega) (hlx)
      simp only [Sto.set] at cc0
      have g1 : ((rowsE (mkU k l i)).set i [.sl (rowsE (mkL (k + cntL (l.take i)) l[i].tuple)), .i .i64 l[i].count])[i]? = some [.sl (rowsE (mkL (k + cntL (l.take i)) l[i].tuple)), .i .i64 l[i].count] := by rw [List.getElem?_set_self (by rw [hlen]; exact hil)]
      have n1 : Nm st (setAt rows p fun _ => (rowsE (mkU k l i)).set i [.sl (rowsE (mkL (k + cntL (l.take i)) l[i].tuple)), .i .i64 l[i].count]) v p ((rowsE (mkU k l i)).set i [.sl (rowsE (mkL (k + cntL (l.take i)) l[i].tuple)), .i .i64 l[i].count]) := hnm.set (by simp [mkU_len])
      have r1 := n1.rows (sz := sz)
      have q0 : setAt (setAt rows p fun _ => rowsE (mkU k l i)) (p ++ [(i, 0)]) (fun _ => rowsE (mkL (k + cntL (l.take i)) l[i].tuple)) = setAt rows p (fun _ => (rowsE (mkU k l i)).set i [.sl (rowsE (mkL (k + cntL (l.take i)) l[i].tuple)), .i .i64 l[i].count]) := by
        rw [setAt_app, setAt_set]; congr 1; funext _; rw [setAt_one g0 (j := 0) rfl]; rfl
      have g2 : ((rowsE (mkU k l i)).set i [.sl (rowsE (mkL (k + cntL (l.take i)) l[i].tuple)), .i .i64 (k + cntL (l.take i) + cntL l[i].tuple)])[i]? = some [.sl (rowsE (mkL (k + cntL (l.take i)) l[i].tuple)), .i .i64 (k + cntL (l.take i) + cntL l[i].tuple)] := by rw [List.getElem?_set_self (by rw [hlen]; exact hil)]
      have n2 : Nm st (setAt rows p fun _ => (rowsE (mkU k l i)).set i [.sl (rowsE (mkL (k + cntL (l.take i)) l[i].tuple)), .i .i64 (k + cntL (l.take i) + cntL l[i].tuple)]) v p ((rowsE (mkU k l i)).set i [.sl (rowsE (mkL (k + cntL (l.take i)) l[i].tuple)), .i .i64 (k + cntL (l.take i) + cntL l[i].tuple)]) := hnm.set (by simp [mkU_len])
      have r2 := n2.rows (sz := sz)
      have gz := g0
      repeat' first | refine W_seq ?_ | refine W_block ?_ | refine W_skip ?_ | refine W_ret ?_ | refine W_exit ?_ | refine xb_hit ?_ | refine xb_miss (by decide) ?_ | (apply W_reg; (simp [-VO.rows, h0, h1, h5, cc0, q0, r1, hrw, g0, hil, g1, g2, r1, r2]; exact .r _))
      refine ⟨_, ?_, i + 1, rfl, rfl, by simp [h0], ?_, ?_, by omega, ?_⟩
      · omega
      · simp; first | (rw [hct]; omega) | (rw [wrap_ok (by omega) (by omega), hct]; omega)
      · simp [h5]; exact wrap_succ (by omega)
      · simp only [Sto.set, upd_upd, setAt_set]
        rw [← hset, rowsE_set]; first | rfl | (simp only [List.set_set]; rfl)
    · have hil : i = l.length := by simp at hc; omega
      subst hil
      repeat' first | refine W_seq ?_ | refine W_block ?_ | refine W_skip ?_ | refine W_ret ?_ | refine W_exit ?_ | refine xb_hit ?_ | refine xb_miss (by decide) ?_ | (apply W_reg; (simp [-VO.rows, h0, h1, h5]; exact .r _))
      simp only [mkU_all, List.take_length] at *
      exact ⟨In (k + cntL l), by simp [h1], rfl, rfl⟩
  obtain ⟨r, σ', h1, h2, h3⟩ := key
  rw [h1, h2, h3]
theorem markCountedS_c (σ : Sto) (o v st sz : Nat) (p : List (Nat × Nat)) (rows : List (List T)) (l : List (Cnt)) (hob : σ.ob o = .arr (.own 0) st sz rows) (hnm : Nm st rows v p (rowsE l)) (k : Int) (h0 : 0 ≤ k) (hk : k + cntL l ≤ 4611686018427387903) (hl : Lw.bd 1048576 l) :
    callV Ms XX σ 11 [.ref o v p, In k] = some (In (k + cntL l), σ.set o (.arr (.own 0) st sz (setAt rows p fun _ => rowsE (mkL k l)))) := callV_d (by rfl) (markCountedS_m σ o v st sz p rows l hob hnm k h0 hk hl) rfl
theorem mkLenCountedS (k : Int) (l : List (Cnt)) : (rowsE (mkL k l)).length = l.length := by simp [mkL_len]
theorem heldCountedS_r (l : List (Cnt)) (k : Int) (h0 : 0 ≤ k) (hk : k + cntL l ≤ 4611686018427387903) (hl : Lw.bd 1048576 l) : Ret XX 12 [Ar (mkL k l), In k] (.t (.i .i64 (k + cntL l)) false) := by
  have hn := hl.1
  have hlen := mkLenCountedS k l
  refine ret_W rfl Try.func12 rfl rfl (by simp [Try.f12]) ?_
  simp only [Try.f12]
  repeat' first | refine W_seq ?_ | refine W_block ?_ | refine W_skip ?_ | refine W_ret ?_ | refine W_exit ?_ | refine xb_hit ?_ | refine xb_miss (by decide) ?_ | (apply W_reg; (simp; exact .r _))
  refine W_loop (n := l.length) (fun n s => ∃ i : Nat, n = l.length - i ∧ s.nt = 31 ∧ s.tm 0 = Ar (mkL k l) ∧ s.tm 1 = In (k + cntL (l.take i)) ∧ s.tm 5 = In i ∧ i ≤ l.length) ⟨0, by simp [cntL]⟩ ?_
  rintro n ⟨nt, tm, σ⟩ ⟨i, rfl, hnt, h0, h1, h5, hi⟩
  simp only at hnt h0 h1 h5
  subst hnt
  have hcl := cntL_take_le l i
  repeat' first | refine W_seq ?_ | refine W_block ?_ | refine W_skip ?_ | refine W_ret ?_ | refine W_exit ?_ | refine xb_hit ?_ | refine xb_miss (by decide) ?_ | (apply W_reg; (simp [h0, h1, h5, mkL_len]; exact .r _))
  refine W_cond (by simp [h0, h1, h5]; exact .r _) (fun hc => ?_) (fun hc => ?_)
  · have hil : i < l.length := by simpa using hc
    have hlx := hl.2 _ (List.getElem_mem hil)
    have hcut : Mk.cnt l[i] = cntL l[i].tuple + 1 := rfl
    have hg : (rowsE (mkL k l))[i]? = some [.sl (rowsE (mkL (k + cntL (l.take i)) l[i].tuple)), .i .i64 (k + cntL (l.take i) + cntL l[i].tuple)] := by rw [rowsE, List.getElem?_map, mkL_get k l i hil]; rfl
    have hct := cntL_take l i hil
    have hcl2 := cntL_take_le l (i + 1)
    have cc0 := cv (heldIntS_r l[i].tuple (k + cntL (l.take i)) (by omega) (by omega) (hlx))
    repeat' first | refine W_seq ?_ | refine W_block ?_ | refine W_skip ?_ | refine W_ret ?_ | refine W_exit ?_ | refine xb_hit ?_ | refine xb_miss (by decide) ?_ | (apply W_reg; (simp [h0, h1, h5, hg, hil, cc0]; exact .r _))
    refine W_cond (by simp [h0, h1, h5]; exact .r _) (fun hd => ?_) (fun hd => ?_)
    · exfalso; revert hd; simp; try omega
    repeat' first | refine W_seq ?_ | refine W_block ?_ | refine W_skip ?_ | refine W_ret ?_ | refine W_exit ?_ | refine xb_hit ?_ | refine xb_miss (by decide) ?_ | (apply W_reg; (simp [h0, h1, h5, hg, hil, cc0]; exact .r _))
    refine W_cond (by simp [h0, h1, h5]; exact .r _) (fun hd => ?_) (fun hd => ?_)
    · exfalso; revert hd; simp; try omega
    repeat' first | refine W_seq ?_ | refine W_block ?_ | refine W_skip ?_ | refine W_ret ?_ | refine W_exit ?_ | refine xb_hit ?_ | refine xb_miss (by decide) ?_ | (apply W_reg; (simp [h0, h1, h5]; exact .r _))
    exact ⟨_, (by omega), i + 1, rfl, rfl, (by first | assumption | (simp [h0, h1, h5]; done) | (simp [h0, h1, h5]; omega) | (simp [h0, h1, h5]; exact wrap_succ (by omega))), by (first | (simp [h1]; rw [wrap_ok (by omega) (by omega), hct]; omega) | (simp [h1]; rw [hct]; omega) | (simp [h1]; omega)), (by first | assumption | (simp [h0, h1, h5]; done) | (simp [h0, h1, h5]; omega) | (simp [h0, h1, h5]; exact wrap_succ (by omega))), by omega⟩
  · have hil : i = l.length := by simp at hc; omega
    subst hil
    repeat' first | refine W_seq ?_ | refine W_block ?_ | refine W_skip ?_ | refine W_ret ?_ | refine W_exit ?_ | refine xb_hit ?_ | refine xb_miss (by decide) ?_ | (apply W_reg; (simp [h0, h1, h5]; exact .r _))
    simp [h1, List.take_length]
end Go.Proofs.Ytmfifjbbjjdacaa.V

namespace Go.Proofs.Ytmfifjbbjjdacaa.V
open Go Go.Proofs
set_option linter.unusedSimpArgs false
theorem mrg_len (a b : List Cnt) : (AddM.mrg Cnt.tuple cAdd cLt a b).length ≤ a.length + b.length := by
  induction a, b using AddM.mrg.induct (key := Cnt.tuple) (lt := cLt) with
  | case1 b => simp [AddM.mrg]
  | case2 x a => simp [AddM.mrg]
  | case3 x a y b hlt ih => rw [AddM.mrg, if_pos hlt]; simp at *; omega
  | case4 x a y b hn hlt ih => rw [AddM.mrg, if_neg hn, if_pos hlt]; simp at *; omega
  | case5 x a y b hn hn' ih => rw [AddM.mrg, if_neg hn, if_neg hn']; simp at *; omega
theorem bd_int (N : Nat) (l : List Int) (h : l.length ≤ N) : Lw.bd N l := ⟨h, fun _ _ => trivial⟩
theorem addC_bd {N : Nat} {a b : List Cnt} (hl : a.length + b.length ≤ N) (ha : Lw.bd N a) (hb : Lw.bd N b) : Lw.bd N (addC a b) := by
  unfold addC
  split
  · refine ⟨by have := mrg_len a b; omega, fun x hx => ?_⟩
    rcases AddM.mrg_key (key := Cnt.tuple) (add := cAdd) (lt := cLt) (fun _ _ => rfl) a b x hx with ⟨u, hu, e⟩ | ⟨u, hu, e⟩
    · have := ha.2 u hu
      exact bd_int N x.tuple (by rw [e]; exact this.1)
    · have := hb.2 u hu
      exact bd_int N x.tuple (by rw [e]; exact this.1)
  · exact ⟨Nat.zero_le _, fun _ h => by cases h⟩
theorem cntC_le {N : Nat} {l : List Cnt} (h : Lw.bd N l) : cntL l ≤ l.length * (N + 1) := by
  have h2 := h.2
  clear h
  induction l with
  | nil => simp [cntL]
  | cons a l ih =>
    have h1 := (h2 a (by simp)).1
    have e : cntL a.tuple = a.tuple.length := by
      have : ∀ t : List Int, cntL t = t.length := fun t => by induction t with
        | nil => rfl
        | cons x t ih => simp only [cntL, List.map_cons, List.sum_cons, List.length_cons, cnt_int] at *; omega
      exact this _
    have := ih fun x hx => h2 x (List.mem_cons_of_mem _ hx)
    have hc : cntL (a :: l) = cntL a.tuple + 1 + cntL l := rfl
    rw [hc, List.length_cons, Nat.add_mul, e]; omega
theorem lawAddCounts (a b : List Cnt) (fa : Fit a) (fb : Fit b) : Ret XX 3 [Ar a, Ar b] (.t (.b true) false) := by
  refine ret_W rfl Try.func3 rfl rfl (by simp [Try.f3]) ?_
  simp only [Try.f3]
  have s1 := cv (szCountedS_r a 1048576 (by omega) (by omega) fa)
  by_cases e1 : ((Lw.w a : Nat) : Int) ≤ 1048576
  case neg =>
    have z1 : szA (Lw.w a) 1048576 = -1 := by unfold szA; rw [if_neg e1]
    repeat' first | refine W_seq ?_ | refine W_block ?_ | refine W_skip ?_ | refine W_ret ?_ | refine W_exit ?_ | refine xb_hit ?_ | refine xb_miss (by decide) ?_ | (apply W_reg; (simp [s1, z1]; exact .r _))
    refine W_cond (by simp; exact .r _) (fun hc => ?_) (fun hc => ?_)
    · repeat' first | refine W_seq ?_ | refine W_block ?_ | refine W_skip ?_ | refine W_ret ?_ | refine W_exit ?_ | refine xb_hit ?_ | refine xb_miss (by decide) ?_ | (apply W_reg; (simp; exact .r _))
      simp
    · simp at hc
  have z1 : szA (Lw.w a) 1048576 = 1048576 - Lw.w a := by unfold szA; rw [if_pos e1]
  have n1 : ¬ ((1048576 : Int) - Lw.w a < 0) := by omega
  repeat' first | refine W_seq ?_ | refine W_block ?_ | refine W_skip ?_ | refine W_ret ?_ | refine W_exit ?_ | refine xb_hit ?_ | refine xb_miss (by decide) ?_ | (apply W_reg; (simp [s1, z1, n1]; exact .r _))
  refine W_cond (by simp; exact .r _) (fun hc => ?_) (fun hc => ?_)
  · simp at hc
  have s2 := cv (szCountedS_r b (1048576 - Lw.w a) (by omega) (by omega) fb)
  by_cases e2 : ((Lw.w b : Nat) : Int) ≤ 1048576 - Lw.w a
  case neg =>
    have z2 : szA (Lw.w b) (1048576 - Lw.w a) = -1 := by unfold szA; rw [if_neg e2]
    repeat' first | refine W_seq ?_ | refine W_block ?_ | refine W_skip ?_ | refine W_ret ?_ | refine W_exit ?_ | refine xb_hit ?_ | refine xb_miss (by decide) ?_ | (apply W_reg; (simp [s2, z2]; exact .r _))
    refine W_cond (by simp; exact .r _) (fun hc => ?_) (fun hc => ?_)
    · repeat' first | refine W_seq ?_ | refine W_block ?_ | refine W_skip ?_ | refine W_ret ?_ | refine W_exit ?_ | refine xb_hit ?_ | refine xb_miss (by decide) ?_ | (apply W_reg; (simp; exact .r _))
      simp
    · simp at hc
  have z2 : szA (Lw.w b) (1048576 - Lw.w a) = 1048576 - Lw.w a - Lw.w b := by unfold szA; rw [if_pos e2]
  have n2 : ¬ ((1048576 : Int) - Lw.w a - Lw.w b < 0) := by omega
  repeat' first | refine W_seq ?_ | refine W_block ?_ | refine W_skip ?_ | refine W_ret ?_ | refine W_exit ?_ | refine xb_hit ?_ | refine xb_miss (by decide) ?_ | (apply W_reg; (simp [s2, z2, n2]; exact .r _))
  refine W_cond (by simp; exact .r _) (fun hc => ?_) (fun hc => ?_)
  · simp at hc
  have ba : Lw.bd 1048576 a := Lw.bd_of _ _ (by omega)
  have bb : Lw.bd 1048576 b := Lw.bd_of _ _ (by omega)
  have hla : a.length ≤ Lw.w a := by rw [w_list]; unfold wL; omega
  have hlb : b.length ≤ Lw.w b := by rw [w_list]; unfold wL; omega
  have bc : Lw.bd 1048576 (addC a b) := addC_bd (by omega) ba bb
  have ca := cntC_le ba
  have cb := cntC_le bb
  have cc := cntC_le bc
  have m1 : a.length * 1048577 ≤ 1048576 * 1048577 := Nat.mul_le_mul_right _ ba.1
  have m2 : b.length * 1048577 ≤ 1048576 * 1048577 := Nat.mul_le_mul_right _ bb.1
  have m3 : (addC a b).length * 1048577 ≤ 1048576 * 1048577 := Nat.mul_le_mul_right _ bc.1
  have t1 := cv (toCountedS_r a ba)
  have t2 := cv (toCountedS_r b bb)
  have ta : ∀ x ∈ a, x.tuple.length ≤ 1048576 := fun x hx => (ba.2 x hx).1
  have tb : ∀ x ∈ b, x.tuple.length ≤ 1048576 := fun x hx => (bb.2 x hx).1
  have sp := cv (specAdd_r a b ba.1 bb.1 ta tb)
  have im := cv (addCounts_r a b ba.1 bb.1 ta tb)
  have q1 := cv (eqCountedS_r (addC a b) (addC a b) bc)
  have q2 := cv (eqCountedS_r a a ba)
  have q3 := cv (eqCountedS_r b b bb)
  repeat' first | refine W_seq ?_ | refine W_block ?_ | refine W_skip ?_ | refine W_ret ?_ | refine W_exit ?_ | refine xb_hit ?_ | refine xb_miss (by decide) ?_ | (apply W_reg; (simp [t1, t2, sp, im, q1]; exact .r _))
  refine W_cond (by simp; exact .r _) (fun hc => ?_) (fun hc => ?_)
  · simp at hc
  repeat' first | refine W_seq ?_ | refine W_block ?_ | refine W_skip ?_ | refine W_ret ?_ | refine W_exit ?_ | refine xb_hit ?_ | refine xb_miss (by decide) ?_ | (apply W_reg; (simp [t1, q2]; exact .r _))
  refine W_cond (by simp; exact .r _) (fun hc => ?_) (fun hc => ?_)
  · simp at hc
  repeat' first | refine W_seq ?_ | refine W_block ?_ | refine W_skip ?_ | refine W_ret ?_ | refine W_exit ?_ | refine xb_hit ?_ | refine xb_miss (by decide) ?_ | (apply W_reg; (simp [t2, q3]; exact .r _))
  refine W_cond (by simp; exact .r _) (fun hc => ?_) (fun hc => ?_)
  · simp at hc
  have k1 : ∀ σ : Sto, σ.ob 3 = .arr (.own 0) 0 2 (rowsE a) → callV Ms XX σ 11 [.ref 3 a.length [], In 1] = some (In (1 + cntL a), σ.set 3 (.arr (.own 0) 0 2 (rowsE (mkL 1 a)))) := fun σ h =>
    markCountedS_c σ 3 a.length 0 2 [] (rowsE a) a h ⟨fun _ => rowsE_len a, fun h => absurd rfl h, rfl⟩ 1 (by omega) (by omega) ba
  have k2 : ∀ σ : Sto, σ.ob 4 = .arr (.own 0) 0 2 (rowsE b) → callV Ms XX σ 11 [.ref 4 b.length [], In (1 + cntL a)] = some (In (1 + cntL a + cntL b), σ.set 4 (.arr (.own 0) 0 2 (rowsE (mkL (1 + cntL a) b)))) := fun σ h =>
    markCountedS_c σ 4 b.length 0 2 [] (rowsE b) b h ⟨fun _ => rowsE_len b, fun h => absurd rfl h, rfl⟩ (1 + cntL a) (by omega) (by omega) bb
  have k3 : ∀ σ : Sto, σ.ob 5 = .arr (.own 0) 0 2 (rowsE (addC a b)) → callV Ms XX σ 11 [.ref 5 (addC a b).length [], In 1] = some (In (1 + cntL (addC a b)), σ.set 5 (.arr (.own 0) 0 2 (rowsE (mkL 1 (addC a b))))) := fun σ h =>
    markCountedS_c σ 5 (addC a b).length 0 2 [] (rowsE (addC a b)) (addC a b) h ⟨fun _ => rowsE_len _, fun h => absurd rfl h, rfl⟩ 1 (by omega) (by omega) bc
  have h1 := cv (heldCountedS_r (addC a b) 1 (by omega) (by omega) bc)
  have p1 : ¬ ((1 : Int) + cntL a + cntL b < 0) := by omega
  have p2 : ¬ ((1 : Int) + cntL (addC a b) < 0) := by omega
  repeat' first | refine W_seq ?_ | refine W_block ?_ | refine W_skip ?_ | refine W_ret ?_ | refine W_exit ?_ | refine xb_hit ?_ | refine xb_miss (by decide) ?_ | (apply W_reg; (simp [k1, k2, q1, p1]; exact .r _))
  refine W_cond (by simp; exact .r _) (fun hc => ?_) (fun hc => ?_)
  · simp at hc
  repeat' first | refine W_seq ?_ | refine W_block ?_ | refine W_skip ?_ | refine W_ret ?_ | refine W_exit ?_ | refine xb_hit ?_ | refine xb_miss (by decide) ?_ | (apply W_reg; (simp [k3, h1, p2, mkL_len]; exact .r _))
  refine W_cond (by simp; exact .r _) (fun hc => ?_) (fun hc => ?_)
  · simp at hc
  repeat' first | refine W_seq ?_ | refine W_block ?_ | refine W_skip ?_ | refine W_ret ?_ | refine W_exit ?_ | refine xb_hit ?_ | refine xb_miss (by decide) ?_ | (apply W_reg; (simp; exact .r _))
  refine W_cond (by simp; exact .r _) (fun hc => ?_) (fun hc => ?_)
  · simp at hc
  repeat' first | refine W_seq ?_ | refine W_block ?_ | refine W_skip ?_ | refine W_ret ?_ | refine W_exit ?_ | refine xb_hit ?_ | refine xb_miss (by decide) ?_ | (apply W_reg; (simp [t1, t2, im, q1]; exact .r _))
  refine W_cond (by simp; exact .r _) (fun hc => ?_) (fun hc => ?_)
  · simp at hc
  repeat' first | refine W_seq ?_ | refine W_block ?_ | refine W_skip ?_ | refine W_ret ?_ | refine W_exit ?_ | refine xb_hit ?_ | refine xb_miss (by decide) ?_ | (apply W_reg; (simp [h1, p2, mkL_len]; exact .r _))
  refine W_cond (by simp; exact .r _) (fun hc => ?_) (fun hc => ?_)
  · simp at hc
  repeat' first | refine W_seq ?_ | refine W_block ?_ | refine W_skip ?_ | refine W_ret ?_ | refine W_exit ?_ | refine xb_hit ?_ | refine xb_miss (by decide) ?_ | (apply W_reg; (simp; exact .r _))
  refine W_cond (by simp; exact .r _) (fun hc => ?_) (fun hc => ?_)
  · simp at hc
  repeat' first | refine W_seq ?_ | refine W_block ?_ | refine W_skip ?_ | refine W_ret ?_ | refine W_exit ?_ | refine xb_hit ?_ | refine xb_miss (by decide) ?_ | (apply W_reg; (simp; exact .r _))
  simp
end Go.Proofs.Ytmfifjbbjjdacaa.V

namespace Go.Proofs.Ytmfifjbbjjdacaa.V
open Go Go.RowKit Go.Deep Go.ChangeShapes Go.WideShapes
set_option linter.unusedVariables false
/-- Whatever reads as data of type t is a value that fits. -/
def RdF (α : Type) [Enc α] [Lw α] (P : Program) (w : World) (t : TypeId) : Prop := Rdv P w t (fun a : α => Fit a)
theorem Rdv.mono {α : Type} [Enc α] {P : Program} {w : World} {t : TypeId} {Q Q' : α → Prop} (h : Rdv P w t Q) (hq : ∀ a, Q a → Q' a) : Rdv P w t Q' := fun H enc fuel cs x hx => by
  obtain ⟨a, h1, h2⟩ := h H enc fuel cs x hx
  exact ⟨a, h1, hq a h2⟩
instance : Lw Bool := ⟨fun _ => 0, fun _ _ => True, fun _ _ _ => trivial⟩
variable {α β γ δ : Type} [Enc α] [Enc β] [Enc γ] [Enc δ] [Lw α] [Lw β] [Lw γ] [Lw δ] {P : Program} {w : World} {t e : TypeId}
theorem rf_int (ht : P.underlying t = some (.int .i64)) : RdF Int P w t := (rd_int ht).mono fun _ _ => trivial
theorem rf_slice (ht : P.underlying t = some (.slice e)) (hc : P.cellsOf e = Enc.n α) (hn : 0 < Enc.n α) (hd : RdF α P w e) : RdF (List α) P w t := (rd_slice ht hc hn hd).mono fun a h => ⟨h.1, h.2⟩
theorem rf_s2 {f0 f1 : Field} (mk : α → β → γ) (hmk : ∀ a b, Enc.cells (mk a b) = Enc.cells a ++ Enc.cells b) (hf : ∀ a b, Fit a → Fit b → Fit (mk a b)) (ht : P.underlying t = some (.struct #[f0, f1])) (h0 : f0.offset = 0) (h1 : f1.offset = Enc.n α)
    (z : P.cellsOf t = Enc.n α + Enc.n β) (z0 : P.cellsOf f0.type = Enc.n α) (z1 : P.cellsOf f1.type = Enc.n β)
    (o0 : RdF α P w f0.type) (o1 : RdF β P w f1.type) : RdF γ P w t := (rd_struct2 mk hmk ht h0 h1 z z0 z1 o0 o1).mono fun c ⟨a, b, e, h, k⟩ => e ▸ hf a b h k
end Go.Proofs.Ytmfifjbbjjdacaa.V

