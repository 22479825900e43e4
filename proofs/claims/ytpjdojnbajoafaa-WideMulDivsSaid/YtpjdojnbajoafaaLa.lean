/- The law WideDivs: it answers true, whatever the input. -/
import Derived.Test.YtpjdojnbajoafaaWo
namespace Go.Proofs.Ytpjdojnbajoafaa
open Go.RowKit

theorem rest_lt (x r P : Nat) (h : x = r) (hr : x < P) : r < P := by rw [← h]; exact hr
theorem rest_parts (x r y : Nat) (h : x = r) (hr : x < 2 ^ 64) (hy : y = x % 2 ^ 128) : 0 * 2 ^ 64 + r = y := by
  rw [hy, Nat.mod_eq_of_lt (Nat.lt_trans hr (by decide)), h, Nat.zero_mul, Nat.zero_add]
theorem scl_parts {v h l c h' l' : Nat} (hs : sclRes v h l c) (hl : l < 2 ^ 64) (hl' : l' < 2 ^ 64) (hn : h' * 2 ^ 64 + l' = v % 2 ^ 128) (hv : v < 2 ^ 128) : h = h' ∧ l = l' ∧ c = 0 := by
  unfold sclRes at hs
  rw [if_pos hv] at hs
  rw [Nat.mod_eq_of_lt hv, ← hs.1] at hn
  obtain ⟨e1, e2⟩ := of_parts h' l' h l hl' hl hn
  exact ⟨e1.symm, e2.symm, hs.2⟩
theorem scl_no {v h l c : Nat} (hs : sclRes v h l c) (hv : ¬ v < 2 ^ 128) : h = 0 ∧ l = 0 ∧ c = 131 := by
  unfold sclRes at hs
  rwa [if_neg hv] at hs
theorem fits_yes {v : Nat} (hv : v < 2 ^ 128) : fits v = true := by
  unfold fits; rw [Nat.mod_eq_of_lt (Nat.lt_trans hv (by decide))]; exact decide_eq_true hv
theorem fits_no {v : Nat} (hv : ¬ v < 2 ^ 128) (h2 : v < 2 ^ 224) : fits v = false := by
  unfold fits; rw [Nat.mod_eq_of_lt (Nat.lt_trans h2 (by decide))]; exact decide_eq_false hv

section
variable {ops : Array Oper} {rest : List Oper} {o : Oper} {a : Act} {w : World} {Q : Exit → Act → World → Prop}
theorem wpB_put (hgd : o.guard = none) (x y : Operand) (ho : o.op = .store 32 x y) (g : Nat) (hx : a.eval x = .pointer (some ⟨g, 0, none⟩)) (n m : Nat) (hy : a.eval y = .agg (bA n))
    (hg : IsB w g m) (hK : ∀ w1 : World, Put g (bA n) 32 w w1 → wpList Try.prog ops Q rest (a.put o.dst undef) w1) : wpList Try.prog ops Q (o :: rest) a w :=
  wpR_store hgd _ x y ho g hx _ _ hy _ hg (bits_size n) (by rw [bA_size, bA_size]) (bA_oneCell n) hK
end

set_option maxRecDepth 100000 in
set_option maxHeartbeats 1000000 in
theorem widedivs_zero (h l m : Nat) (w : World) :
    Calls Try.prog 3 #[.agg #[.int .u64 h, .int .u64 l], .int .u64 m, .int .u64 0] w fun e w' => e = .returned (.bool true) ∧ Below w.heap.size w w' := by
  go_enter Try.func3, Try.ntmps3
  go_wp2_with fail
  refine (wakes_any _).mono ?_
  rintro e w1 ⟨rfl, hb1⟩
  have r_a_w1 : IsW w1 w.heap.size h l := IsR.kept (by unfold IsR; exact (by repeat (first | (with_reducible refine heap_top _ _ _ ?_; first | (simp; done) | (simp; omega)) | rw [Below.heap_alloc _ _ _ (by first | (simp; done) | (simp; omega))]))) hb1
  have k_w1 : Below w.heap.size w w1 := Below.two ((Below.refl _ _).alloc (Nat.le_refl _) _) (Nat.le_refl _) hb1
  clear hb1
  have c_a_w1 := IsR.cell r_a_w1
  have f_a_w1 := IsR.froz r_a_w1
  have s_a_w1 := IsR.lt r_a_w1
  go_wp2_with fail
  refine (wDiv_zero h l _).mono ?_
  rintro e w2 ⟨rfl, hb2⟩
  have r_a_w2 : IsW w2 w.heap.size h l := IsR.kept r_a_w1 hb2
  have k_w2 : Below w.heap.size w w2 := Below.two k_w1 (Nat.le_refl _) hb2
  clear c_a_w1 f_a_w1 s_a_w1 r_a_w1 k_w1 hb2
  have c_a_w2 := IsR.cell r_a_w2
  have f_a_w2 := IsR.froz r_a_w2
  have s_a_w2 := IsR.lt r_a_w2
  go_wp2_with fail
  refine (wScale_zero h l m _).mono ?_
  rintro e w3 ⟨rfl, hb3⟩
  have r_a_w3 : IsW w3 w.heap.size h l := IsR.kept (IsR.alloc r_a_w2 _) hb3
  have r_q_w3 : IsW w3 w2.heap.size 0 0 := IsR.kept (by unfold IsR; exact (by repeat (first | (with_reducible refine heap_top _ _ _ ?_; first | (simp; done) | (simp; omega)) | rw [Below.heap_alloc _ _ _ (by first | (simp; done) | (simp; omega))]))) hb3
  have k_w3 : Below w.heap.size w w3 := Below.two (k_w2.alloc k_w2.size _) (Nat.le_refl _) hb3
  clear c_a_w2 f_a_w2 s_a_w2 r_a_w2 k_w2 hb3
  have c_a_w3 := IsR.cell r_a_w3
  have f_a_w3 := IsR.froz r_a_w3
  have s_a_w3 := IsR.lt r_a_w3
  have c_q_w3 := IsR.cell r_q_w3
  have f_q_w3 := IsR.froz r_q_w3
  have s_q_w3 := IsR.lt r_q_w3
  have c_q_w3 := r_q_w3.cell
  go_wp2_with fail
  go_ret
  exact ⟨rfl, k_w3.alloc k_w3.size _⟩

set_option maxRecDepth 100000 in
set_option maxHeartbeats 1000000 in
theorem widedivs_any (h l n m d : Nat) (w : World) (hh : h < 2 ^ 64) (hl : l < 2 ^ 64) (hn : h * 2 ^ 64 + l = n) (hm : m < 2 ^ 64) (hd0 : 0 < d) (hd : d < 2 ^ 64) :
    Calls Try.prog 3 #[.agg #[.int .u64 h, .int .u64 l], .int .u64 m, .int .u64 d] w fun e w' => e = .returned (.bool true) ∧ Below w.heap.size w w' := by
  have HDiv := Lib.hid (fun w => wDiv_any h l n d w hh hl hn hd0 hd)
  have HScale := Lib.hid (fun w => wScale_any h l n m d w hh hl hn hm hd0 hd)
  have HOf := Lib.hid (fun w => of_any h l n w hh hl hn)
  have HLo := Lib.hid (fun w => of_lo d w hd)
  have HQuot := Lib.hid (fun w => quot_any n d w (Nat.lt_of_lt_of_le (show n < 2 ^ 128 by omega) (by decide)) hd0 hd)
  have HScaled := Lib.hid (fun w => scaled_any h l n m d true w hh hl hn hm hd0 hd)
  have HQB := Lib.hid (show n / d < 2 ^ 128 from Nat.lt_of_le_of_lt (Nat.div_le_self _ _) (by omega))
  have HSL := Lib.hid (scl_lt n m d true (show n < 2 ^ 128 by omega) hm).2
  have HNR := Lib.hid (show n % d < 2 ^ 64 from Nat.lt_trans (Nat.mod_lt _ hd0) hd)
  have hz : ((d : Int) == 0) = false := by rw [beq_eq_false_iff_ne]; omega
  clear hh hl hn hm hd0 hd
  go_enter Try.func3, Try.ntmps3
  go_wp2_with fail
  refine (wakes_any _).mono ?_
  rintro e w1 ⟨rfl, hb1⟩
  have r_a_w1 : IsW w1 w.heap.size h l := IsR.kept (by unfold IsR; exact (by repeat (first | (with_reducible refine heap_top _ _ _ ?_; first | (simp; done) | (simp; omega)) | rw [Below.heap_alloc _ _ _ (by first | (simp; done) | (simp; omega))]))) hb1
  have k_w1 : Below w.heap.size w w1 := Below.two ((Below.refl _ _).alloc (Nat.le_refl _) _) (Nat.le_refl _) hb1
  clear hb1
  have c_a_w1 := IsR.cell r_a_w1
  have f_a_w1 := IsR.froz r_a_w1
  have s_a_w1 := IsR.lt r_a_w1
  go_wp2_with fail
  refine (HDiv.out _).mono ?_
  rintro e w2 ⟨hq, lq, rfl, hhq, hlq, hnq, hb2⟩
  have HHQ := Lib.hid hhq
  clear hhq
  have HLQ := Lib.hid hlq
  clear hlq
  have HNQ := Lib.hid hnq
  clear hnq
  have r_a_w2 : IsW w2 w.heap.size h l := IsR.kept r_a_w1 hb2
  have k_w2 : Below w.heap.size w w2 := Below.two k_w1 (Nat.le_refl _) hb2
  clear c_a_w1 f_a_w1 s_a_w1 r_a_w1 k_w1 hb2
  have c_a_w2 := IsR.cell r_a_w2
  have f_a_w2 := IsR.froz r_a_w2
  have s_a_w2 := IsR.lt r_a_w2
  obtain ⟨rr, hrr⟩ : ∃ r, n % d = r := ⟨_, rfl⟩
  rw [hrr]
  have HRR := Lib.hid hrr
  clear hrr
  go_wp2_with fail
  refine (HScale.out _).mono ?_
  rintro e w3 ⟨hs, ls, cs, rfl, hhs, hls, hsc, hb3⟩
  have HHS := Lib.hid hhs
  clear hhs
  have HLS := Lib.hid hls
  clear hls
  have HSC := Lib.hid hsc
  clear hsc
  have r_a_w3 : IsW w3 w.heap.size h l := IsR.kept (IsR.alloc r_a_w2 _) hb3
  have r_q_w3 : IsW w3 w2.heap.size hq lq := IsR.kept (by unfold IsR; exact (by repeat (first | (with_reducible refine heap_top _ _ _ ?_; first | (simp; done) | (simp; omega)) | rw [Below.heap_alloc _ _ _ (by first | (simp; done) | (simp; omega))]))) hb3
  have k_w3 : Below w.heap.size w w3 := Below.two (k_w2.alloc k_w2.size _) (Nat.le_refl _) hb3
  clear c_a_w2 f_a_w2 s_a_w2 r_a_w2 k_w2 hb3
  have c_a_w3 := IsR.cell r_a_w3
  have f_a_w3 := IsR.froz r_a_w3
  have s_a_w3 := IsR.lt r_a_w3
  have c_q_w3 := IsR.cell r_q_w3
  have f_q_w3 := IsR.froz r_q_w3
  have s_q_w3 := IsR.lt r_q_w3
  go_wp2_with fail
  refine (HOf.out _).mono ?_
  rintro e w4 ⟨rfl, hb4⟩
  have r_a_w4 : IsW w4 w.heap.size h l := IsR.kept (IsR.alloc r_a_w3 _) hb4
  have r_q_w4 : IsW w4 w2.heap.size hq lq := IsR.kept (IsR.alloc r_q_w3 _) hb4
  have r_s_w4 : IsW w4 w3.heap.size hs ls := IsR.kept (by unfold IsR; exact (by repeat (first | (with_reducible refine heap_top _ _ _ ?_; first | (simp; done) | (simp; omega)) | rw [Below.heap_alloc _ _ _ (by first | (simp; done) | (simp; omega))]))) hb4
  have k_w4 : Below w.heap.size w w4 := Below.two (k_w3.alloc k_w3.size _) (Nat.le_refl _) hb4
  clear c_a_w3 f_a_w3 s_a_w3 c_q_w3 f_q_w3 s_q_w3 r_a_w3 r_q_w3 k_w3 hb4
  have c_a_w4 := IsR.cell r_a_w4
  have f_a_w4 := IsR.froz r_a_w4
  have s_a_w4 := IsR.lt r_a_w4
  have c_q_w4 := IsR.cell r_q_w4
  have f_q_w4 := IsR.froz r_q_w4
  have s_q_w4 := IsR.lt r_q_w4
  have c_s_w4 := IsR.cell r_s_w4
  have f_s_w4 := IsR.froz r_s_w4
  have s_s_w4 := IsR.lt r_s_w4
  go_wp2_with fail
  refine (HLo.out _).mono ?_
  rintro e w5 ⟨rfl, hb5⟩
  have r_a_w5 : IsW w5 w.heap.size h l := IsR.kept r_a_w4 hb5
  have r_q_w5 : IsW w5 w2.heap.size hq lq := IsR.kept r_q_w4 hb5
  have r_s_w5 : IsW w5 w3.heap.size hs ls := IsR.kept r_s_w4 hb5
  have k_w5 : Below w.heap.size w w5 := Below.two k_w4 (Nat.le_refl _) hb5
  clear c_a_w4 f_a_w4 s_a_w4 c_q_w4 f_q_w4 s_q_w4 c_s_w4 f_s_w4 s_s_w4 r_a_w4 r_q_w4 r_s_w4 k_w4 hb5
  have c_a_w5 := IsR.cell r_a_w5
  have f_a_w5 := IsR.froz r_a_w5
  have s_a_w5 := IsR.lt r_a_w5
  have c_q_w5 := IsR.cell r_q_w5
  have f_q_w5 := IsR.froz r_q_w5
  have s_q_w5 := IsR.lt r_q_w5
  have c_s_w5 := IsR.cell r_s_w5
  have f_s_w5 := IsR.froz r_s_w5
  have s_s_w5 := IsR.lt r_s_w5
  go_wp2_with fail
  refine (HQuot.out _).mono ?_
  rintro e w6 ⟨rfl, hb6⟩
  have r_a_w6 : IsW w6 w.heap.size h l := IsR.kept r_a_w5 hb6
  have r_q_w6 : IsW w6 w2.heap.size hq lq := IsR.kept r_q_w5 hb6
  have r_s_w6 : IsW w6 w3.heap.size hs ls := IsR.kept r_s_w5 hb6
  have k_w6 : Below w.heap.size w w6 := Below.two k_w5 (Nat.le_refl _) hb6
  clear c_a_w5 f_a_w5 s_a_w5 c_q_w5 f_q_w5 s_q_w5 c_s_w5 f_s_w5 s_s_w5 r_a_w5 r_q_w5 r_s_w5 k_w5 hb6
  have c_a_w6 := IsR.cell r_a_w6
  have f_a_w6 := IsR.froz r_a_w6
  have s_a_w6 := IsR.lt r_a_w6
  have c_q_w6 := IsR.cell r_q_w6
  have f_q_w6 := IsR.froz r_q_w6
  have s_q_w6 := IsR.lt r_q_w6
  have c_s_w6 := IsR.cell r_s_w6
  have f_s_w6 := IsR.froz r_s_w6
  have s_s_w6 := IsR.lt r_s_w6
  have hz := bits_zero
  go_wp2_with (first
    | (with_reducible refine wpB_put rfl (.tmp 12) (.tmp 65) rfl w6.heap.size rfl (n / d) 0 rfl (by (show (_ : World).heap[_]? = some _); repeat (first | (with_reducible refine heap_top _ _ _ ?_; first | (simp; done) | (simp; omega)) | rw [Below.heap_alloc _ _ _ (by first | (simp; done) | (simp; omega))])) ?_; intro wA pA; have bA1 : IsB wA (w6.heap.size + 1) 0 := IsR.put (by (show (_ : World).heap[_]? = some _); repeat (first | (with_reducible refine heap_top _ _ _ ?_; first | (simp; done) | (simp; omega)) | rw [Below.heap_alloc _ _ _ (by first | (simp; done) | (simp; omega))])) pA (by omega))
    | (with_reducible refine wpB_put rfl (.tmp 13) (.tmp 66) rfl (w6.heap.size + 1) rfl (n % d) 0 rfl bA1 ?_; intro wB pB; have bB0 : IsB wB w6.heap.size (n / d) := IsR.put pA.row pB (by omega))
    | (with_reducible refine wpB_load rfl (.tmp 12) rfl w6.heap.size rfl (n / d) bB0 ?_))
  have r_a_wB : IsW wB w.heap.size h l := IsR.put (IsR.put (IsR.alloc (IsR.alloc r_a_w6 _) _) pA (by omega)) pB (by omega)
  have r_q_wB : IsW wB w2.heap.size hq lq := IsR.put (IsR.put (IsR.alloc (IsR.alloc r_q_w6 _) _) pA (by omega)) pB (by omega)
  have r_s_wB : IsW wB w3.heap.size hs ls := IsR.put (IsR.put (IsR.alloc (IsR.alloc r_s_w6 _) _) pA (by omega)) pB (by omega)
  have r_x_wB : IsB wB w6.heap.size (n / d) := bB0
  have r_y_wB : IsB wB (w6.heap.size + 1) (n % d) := pB.row
  have c_a_wB := IsR.cell r_a_wB
  have f_a_wB := IsR.froz r_a_wB
  have s_a_wB := IsR.lt r_a_wB
  have c_q_wB := IsR.cell r_q_wB
  have f_q_wB := IsR.froz r_q_wB
  have s_q_wB := IsR.lt r_q_wB
  have c_s_wB := IsR.cell r_s_wB
  have f_s_wB := IsR.froz r_s_wB
  have s_s_wB := IsR.lt r_s_wB
  have c_x_wB := IsR.cell r_x_wB
  have f_x_wB := IsR.froz r_x_wB
  have s_x_wB := IsR.lt r_x_wB
  have c_y_wB := IsR.cell r_y_wB
  have f_y_wB := IsR.froz r_y_wB
  have s_y_wB := IsR.lt r_y_wB
  have k_wB : Below w.heap.size w wB := pB.below _ _ (by omega) (pA.below _ _ (by omega) ((k_w6.alloc (by omega) _).alloc (by simp; omega) _))
  clear pA pB bA1 bB0 k_w6 c_a_w6 f_a_w6 s_a_w6 c_q_w6 f_q_w6 s_q_w6 c_s_w6 f_s_w6 s_s_w6 r_a_w6 r_q_w6 r_s_w6
  refine (number_any (n / d) _).mono ?_
  rintro e w7 ⟨h1, l1, rfl, hh1, hl1, hn1, hb7⟩
  have r_a_w7 : IsW w7 w.heap.size h l := IsR.kept r_a_wB hb7
  have r_q_w7 : IsW w7 w2.heap.size hq lq := IsR.kept r_q_wB hb7
  have r_s_w7 : IsW w7 w3.heap.size hs ls := IsR.kept r_s_wB hb7
  have r_x_w7 : IsB w7 w6.heap.size (n / d) := IsR.kept r_x_wB hb7
  have r_y_w7 : IsB w7 (w6.heap.size + 1) (n % d) := IsR.kept r_y_wB hb7
  have k_w7 : Below w.heap.size w w7 := Below.two k_wB (Nat.le_refl _) hb7
  clear c_a_wB f_a_wB s_a_wB c_q_wB f_q_wB s_q_wB c_s_wB f_s_wB s_s_wB c_x_wB f_x_wB s_x_wB c_y_wB f_y_wB s_y_wB r_a_wB r_q_wB r_s_wB r_x_wB r_y_wB k_wB hb7
  have c_a_w7 := IsR.cell r_a_w7
  have f_a_w7 := IsR.froz r_a_w7
  have s_a_w7 := IsR.lt r_a_w7
  have c_q_w7 := IsR.cell r_q_w7
  have f_q_w7 := IsR.froz r_q_w7
  have s_q_w7 := IsR.lt r_q_w7
  have c_s_w7 := IsR.cell r_s_w7
  have f_s_w7 := IsR.froz r_s_w7
  have s_s_w7 := IsR.lt r_s_w7
  have c_x_w7 := IsR.cell r_x_w7
  have f_x_w7 := IsR.froz r_x_w7
  have s_x_w7 := IsR.lt r_x_w7
  have c_y_w7 := IsR.cell r_y_w7
  have f_y_w7 := IsR.froz r_y_w7
  have s_y_w7 := IsR.lt r_y_w7
  obtain ⟨rfl, rfl⟩ : hq = h1 ∧ lq = l1 := of_parts hq lq h1 l1 HLQ.out hl1 (by rw [HNQ.out, hn1, Nat.mod_eq_of_lt HQB.out])
  clear hh1 hl1 hn1
  go_wp2_with (first
    | (with_reducible refine wpB_load rfl (.tmp 13) rfl (w6.heap.size + 1) rfl (n % d) (IsR.alloc r_y_w7 _) ?_))
  refine (number_any (n % d) _).mono ?_
  rintro e w8 ⟨h2, l2, rfl, hh2, hl2, hn2, hb8⟩
  have r_a_w8 : IsW w8 w.heap.size h l := IsR.kept (IsR.alloc r_a_w7 _) hb8
  have r_q_w8 : IsW w8 w2.heap.size hq lq := IsR.kept (IsR.alloc r_q_w7 _) hb8
  have r_s_w8 : IsW w8 w3.heap.size hs ls := IsR.kept (IsR.alloc r_s_w7 _) hb8
  have r_x_w8 : IsB w8 w6.heap.size (n / d) := IsR.kept (IsR.alloc r_x_w7 _) hb8
  have r_y_w8 : IsB w8 (w6.heap.size + 1) (n % d) := IsR.kept (IsR.alloc r_y_w7 _) hb8
  have r_N_w8 : IsW w8 w7.heap.size hq lq := IsR.kept (by unfold IsR; exact (by repeat (first | (with_reducible refine heap_top _ _ _ ?_; first | (simp; done) | (simp; omega)) | rw [Below.heap_alloc _ _ _ (by first | (simp; done) | (simp; omega))]))) hb8
  have k_w8 : Below w.heap.size w w8 := Below.two (k_w7.alloc k_w7.size _) (Nat.le_refl _) hb8
  clear c_a_w7 f_a_w7 s_a_w7 c_q_w7 f_q_w7 s_q_w7 c_s_w7 f_s_w7 s_s_w7 c_x_w7 f_x_w7 s_x_w7 c_y_w7 f_y_w7 s_y_w7 r_a_w7 r_q_w7 r_s_w7 r_x_w7 r_y_w7 k_w7 hb8
  have c_a_w8 := IsR.cell r_a_w8
  have f_a_w8 := IsR.froz r_a_w8
  have s_a_w8 := IsR.lt r_a_w8
  have c_q_w8 := IsR.cell r_q_w8
  have f_q_w8 := IsR.froz r_q_w8
  have s_q_w8 := IsR.lt r_q_w8
  have c_s_w8 := IsR.cell r_s_w8
  have f_s_w8 := IsR.froz r_s_w8
  have s_s_w8 := IsR.lt r_s_w8
  have c_x_w8 := IsR.cell r_x_w8
  have f_x_w8 := IsR.froz r_x_w8
  have s_x_w8 := IsR.lt r_x_w8
  have c_y_w8 := IsR.cell r_y_w8
  have f_y_w8 := IsR.froz r_y_w8
  have s_y_w8 := IsR.lt r_y_w8
  have c_N_w8 := IsR.cell r_N_w8
  have f_N_w8 := IsR.froz r_N_w8
  have s_N_w8 := IsR.lt r_N_w8
  obtain ⟨rfl, rfl⟩ : 0 = h2 ∧ rr = l2 := of_parts 0 rr h2 l2 (rest_lt _ _ _ HRR.out HNR.out) hl2 (rest_parts _ _ _ HRR.out HNR.out hn2)
  clear hh2 hl2 hn2
  go_wp2_with fail
  refine (HScaled.out _).mono ?_
  rintro e w9 ⟨h3, l3, rfl, hh3, hl3, hn3, hb9⟩
  have r_a_w9 : IsW w9 w.heap.size h l := IsR.kept (IsR.alloc r_a_w8 _) hb9
  have r_q_w9 : IsW w9 w2.heap.size hq lq := IsR.kept (IsR.alloc r_q_w8 _) hb9
  have r_s_w9 : IsW w9 w3.heap.size hs ls := IsR.kept (IsR.alloc r_s_w8 _) hb9
  have r_x_w9 : IsB w9 w6.heap.size (n / d) := IsR.kept (IsR.alloc r_x_w8 _) hb9
  have r_y_w9 : IsB w9 (w6.heap.size + 1) (n % d) := IsR.kept (IsR.alloc r_y_w8 _) hb9
  have r_N_w9 : IsW w9 w7.heap.size hq lq := IsR.kept (IsR.alloc r_N_w8 _) hb9
  have r_R_w9 : IsW w9 w8.heap.size 0 rr := IsR.kept (by unfold IsR; exact (by repeat (first | (with_reducible refine heap_top _ _ _ ?_; first | (simp; done) | (simp; omega)) | rw [Below.heap_alloc _ _ _ (by first | (simp; done) | (simp; omega))]))) hb9
  have k_w9 : Below w.heap.size w w9 := Below.two (k_w8.alloc k_w8.size _) (Nat.le_refl _) hb9
  clear c_a_w8 f_a_w8 s_a_w8 c_q_w8 f_q_w8 s_q_w8 c_s_w8 f_s_w8 s_s_w8 c_x_w8 f_x_w8 s_x_w8 c_y_w8 f_y_w8 s_y_w8 c_N_w8 f_N_w8 s_N_w8 r_a_w8 r_q_w8 r_s_w8 r_x_w8 r_y_w8 r_N_w8 k_w8 hb9
  have c_a_w9 := IsR.cell r_a_w9
  have f_a_w9 := IsR.froz r_a_w9
  have s_a_w9 := IsR.lt r_a_w9
  have c_q_w9 := IsR.cell r_q_w9
  have f_q_w9 := IsR.froz r_q_w9
  have s_q_w9 := IsR.lt r_q_w9
  have c_s_w9 := IsR.cell r_s_w9
  have f_s_w9 := IsR.froz r_s_w9
  have s_s_w9 := IsR.lt r_s_w9
  have c_x_w9 := IsR.cell r_x_w9
  have f_x_w9 := IsR.froz r_x_w9
  have s_x_w9 := IsR.lt r_x_w9
  have c_y_w9 := IsR.cell r_y_w9
  have f_y_w9 := IsR.froz r_y_w9
  have s_y_w9 := IsR.lt r_y_w9
  have c_N_w9 := IsR.cell r_N_w9
  have f_N_w9 := IsR.froz r_N_w9
  have s_N_w9 := IsR.lt r_N_w9
  have c_R_w9 := IsR.cell r_R_w9
  have f_R_w9 := IsR.froz r_R_w9
  have s_R_w9 := IsR.lt r_R_w9
  by_cases hv : scl n m d true < 2 ^ 128
  · obtain ⟨rfl, rfl, rfl⟩ := scl_parts HSC.out HLS.out hl3 hn3 hv
    rw [fits_yes hv]
    clear hh3 hl3 hn3 hv
    go_wp2_with fail
    go_ret
    exact ⟨rfl, k_w9.alloc k_w9.size _⟩
  · obtain ⟨rfl, rfl, rfl⟩ := scl_no HSC.out hv
    rw [fits_no hv HSL.out]
    clear hh3 hl3 hn3 hv
    go_wp2_with fail
    go_ret
    exact ⟨rfl, k_w9.alloc k_w9.size _⟩

end Go.Proofs.Ytpjdojnbajoafaa
