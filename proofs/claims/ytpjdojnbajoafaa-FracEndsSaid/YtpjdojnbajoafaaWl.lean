/- package wide's scaled, Scale, MulDiv: their contracts, whatever the world. -/
import Derived.Test.YtpjdojnbajoafaaWk
namespace Go.Proofs.Ytpjdojnbajoafaa
open Go.RowKit

set_option maxRecDepth 100000 in
set_option maxHeartbeats 400000 in
theorem wscaled_zero (h l m : Nat) (up : Bool) (w : World) :
    Calls Try.prog 55 #[.agg #[.int .u64 h, .int .u64 l], .int .u64 m, .int .u64 0, .bool up] w fun e w' => e = .returned (.tuple #[.agg #[.int .u64 0, .int .u64 0], .int .i64 130]) ∧ Below w.heap.size w w' := by
  go_enter Try.func55, Try.ntmps55
  go_wp2_with fail
  exact bodyPost_ret (v := .tuple #[.agg #[.int .u64 0, .int .u64 0], .int .i64 130]) (by simp [results, Try.results55, go_sem]) rfl ⟨rfl, ((Below.refl _ _).alloc (Nat.le_refl _) _).alloc (by simp) _⟩

/-- What is handed back: the number, if it has no more than 128 bits. -/
def sclRes (v : Nat) (h l e : Nat) : Prop := if v < 2 ^ 128 then h * 2 ^ 64 + l = v ∧ e = 0 else h = 0 ∧ l = 0 ∧ e = 131

theorem sclRes_yes {v h l : Nat} (hv : v < 2 ^ 128) (hn : h * 2 ^ 64 + l = v) : sclRes v h l 0 := by unfold sclRes; rw [if_pos hv]; exact ⟨hn, rfl⟩
theorem sclRes_no {v : Nat} (hv : ¬ v < 2 ^ 128) : sclRes v 0 0 131 := by unfold sclRes; rw [if_neg hv]; exact ⟨rfl, rfl, rfl⟩
theorem scl_lt (n m d : Nat) (up : Bool) (hn : n < 2 ^ 128) (hm : m < 2 ^ 64) : n * m / d + 1 < 2 ^ 224 ∧ scl n m d up < 2 ^ 224 := by
  have h1 : n * m < 2 ^ 192 := Nat.lt_of_lt_of_le (Nat.mul_lt_mul'' hn hm) (by decide)
  have h2 := Nat.div_le_self (n * m) d
  have h3 : n * m / d + 1 < 2 ^ 224 := Nat.lt_of_le_of_lt (Nat.succ_le_of_lt (Nat.lt_of_le_of_lt h2 h1)) (by decide)
  refine ⟨h3, ?_⟩
  unfold scl
  split
  · exact h3
  · exact Nat.lt_trans (Nat.lt_succ_self _) h3

theorem times_one (q : Nat) (w : World) : Calls Try.prog 59 #[.agg (qA q), .int .u64 1, .int .u64 1] w fun e w' => e = .returned (.agg (qA (q + 1))) ∧ Below w.heap.size w w' := by
  have := times_any q 1 1 w (by decide) (by decide)
  rw [Nat.mul_one] at this
  exact this

set_option maxRecDepth 100000 in
set_option maxHeartbeats 1000000 in
theorem wscaled_any (h l n m d : Nat) (up : Bool) (w : World) (hh : h < 2 ^ 64) (hl : l < 2 ^ 64) (hn : h * 2 ^ 64 + l = n) (hm : m < 2 ^ 64) (hd0 : 0 < d) (hd : d < 2 ^ 64) :
    Calls Try.prog 55 #[.agg #[.int .u64 h, .int .u64 l], .int .u64 m, .int .u64 d, .bool up] w fun e w' =>
      ∃ h' l' c : Nat, e = .returned (.tuple #[.agg #[.int .u64 h', .int .u64 l'], .int .i64 c]) ∧ h' < 2 ^ 64 ∧ l' < 2 ^ 64 ∧ sclRes (scl n m d up) h' l' c ∧ Below w.heap.size w w' := by
  have HH := Lib.hid hh
  have HL := Lib.hid hl
  have HN := Lib.hid hn
  have HM := Lib.hid hm
  have HD0 := Lib.hid hd0
  have HD := Lib.hid hd
  have hV := scl_lt n m d up (show n < 2 ^ 128 by omega) hm
  have HNM := Lib.hid (show n * m + 0 < 2 ^ 224 from Nat.lt_of_lt_of_le (Nat.mul_lt_mul'' (show n < 2 ^ 128 by omega) hm) (by decide))
  have hz : ((d : Int) == 0) = false := by rw [beq_eq_false_iff_ne]; omega
  have HV1 := Lib.hid hV.1
  have HV2 := Lib.hid hV.2
  clear hh hl hn hm hd0 hd hV
  go_enter Try.func55, Try.ntmps55
  go_wp2_with fail
  refine (wof_any h l n _ HH.out HL.out HN.out).mono ?_
  rintro e w1 ⟨rfl, hb1⟩
  have r1 : IsW w1 (w.heap.size + 1) 0 0 := IsR.kept (by unfold IsR; exact (by repeat (first | (with_reducible refine heap_top _ _ _ ?_; first | (simp; done) | (simp; omega)) | rw [Below.heap_alloc _ _ _ (by first | (simp; done) | (simp; omega))]))) hb1
  have k1 : Below w.heap.size w w1 := Below.two (((Below.refl _ _).alloc (Nat.le_refl _) _).alloc (by simp) _) (Nat.le_refl _) hb1
  clear hb1
  go_wp2_with fail
  refine (times_any n m 0 _ HM.out (by decide)).mono ?_
  rintro e w2 ⟨rfl, hb2⟩
  have r2 := r1.kept hb2
  have k2 := Below.two k1 (Nat.le_refl _) hb2
  clear hb2 r1 k1
  go_wp2_with fail
  refine (over_any (n * m + 0) d _ HNM.out HD0.out HD.out).mono ?_
  rintro e w3 ⟨rfl, hb3⟩
  have r3 := r2.kept hb3
  have k3 := Below.two k2 (Nat.le_refl _) hb3
  have s3 := r3.lt
  clear hb3 r2 k2
  rw [Nat.add_zero]
  obtain ⟨q, hq⟩ : ∃ q, n * m / d = q := ⟨_, rfl⟩
  obtain ⟨r, hr⟩ : ∃ r, n * m % d = r := ⟨_, rfl⟩
  rw [hq, hr]
  have hscl : scl n m d up = q + (if up && r != 0 then 1 else 0) := by rw [← hq, ← hr]; rfl
  rw [hq] at HV1
  have HS := Lib.hid hscl
  clear hscl hq hr HNM
  cases up
  · have HE : Hid (scl n m d false = q) := HS.out.trans (by simp)
    clear HS HV1
    go_wp2_with (first
      | (with_reducible refine wpQ_store rfl (.tmp 10) (.tmp 24) rfl w3.heap.size rfl q 0 rfl (by unfold IsQ; rw [qA_zero]; unfold IsR; exact (by repeat (first | (with_reducible refine heap_top _ _ _ ?_; first | (simp; done) | (simp; omega)) | rw [Below.heap_alloc _ _ _ (by first | (simp; done) | (simp; omega))]))) ?_; intro w4 hp4; have r4 : IsW w4 (w.heap.size + 1) 0 0 := IsR.put (r3.alloc _) hp4 (by omega); have k4 := hp4.below w.heap.size w (by omega) (k3.alloc (by omega) _); have q4 := hp4.row)
      | (with_reducible refine wpQ_load rfl (.tmp 10) rfl w3.heap.size rfl q q4 ?_))
    refine (qwide_any q _ (by rw [← HE.out]; exact HV2.out)).mono ?_
    rintro e w5 ⟨h', l', rfl, hh', hl', hn', hb5⟩
    have HH' := Lib.hid hh'
    have HL' := Lib.hid hl'
    have HN' := Lib.hid hn'
    have r5 : IsW w5 (w.heap.size + 1) 0 0 := r4.kept hb5
    have k5 := Below.two k4 (Nat.le_refl _) hb5
    have s5 := r5.lt
    clear hb5 hh' hl' hn'
    by_cases hf : q < 2 ^ 128
    · rw [show few (q) = true from decide_eq_true hf]
      have HF := Lib.hid hf
      clear hf
      go_wp2_with (first
        | (with_reducible refine wpW_store rfl (.tmp 12) (.tmp 36) rfl w5.heap.size rfl h' l' 0 0 rfl (by (show (_ : World).heap[_]? = some _); repeat (first | (with_reducible refine heap_top _ _ _ ?_; first | (simp; done) | (simp; omega)) | rw [Below.heap_alloc _ _ _ (by first | (simp; done) | (simp; omega))])) ?_; intro w6 hp6; have r6 : IsW w6 (w.heap.size + 1) 0 0 := IsR.put (r5.alloc _) hp6 (by omega); have k6 := hp6.below w.heap.size w (by omega) (k5.alloc (by omega) _); have q6 := hp6.row)
        | (with_reducible refine wpW_load rfl (.tmp 12) rfl w5.heap.size rfl h' l' q6 ?_)
        | (with_reducible refine wpW_store rfl (.tmp 8) (.tmp 41) rfl (w.heap.size + 1) rfl h' l' 0 0 rfl r6 ?_; intro w7 hp7))
      refine retW1 rfl rfl (.int .i64 (0 : Nat)) rfl hp7.row ⟨h', l', 0, rfl, HH'.out, HL'.out, ?_, hp7.below _ _ (by omega) k6⟩
      rw [HE.out]
      exact (sclRes_yes HF.out (HN'.out.trans (Nat.mod_eq_of_lt HF.out)) : sclRes _ _ _ _)
    · rw [show few (q) = false from decide_eq_false hf]
      have HF := Lib.hid hf
      clear hf
      go_wp2_with (first
        | (with_reducible refine wpW_store rfl (.tmp 12) (.tmp 36) rfl w5.heap.size rfl h' l' 0 0 rfl (by (show (_ : World).heap[_]? = some _); repeat (first | (with_reducible refine heap_top _ _ _ ?_; first | (simp; done) | (simp; omega)) | rw [Below.heap_alloc _ _ _ (by first | (simp; done) | (simp; omega))])) ?_; intro w6 hp6; have r6 : IsW w6 (w.heap.size + 1) 0 0 := IsR.put (r5.alloc _) hp6 (by omega); have k6 := hp6.below w.heap.size w (by omega) (k5.alloc (by omega) _))
        | (with_reducible refine wpW_store rfl (.tmp 8) (.tmp 40) rfl (w.heap.size + 1) rfl 0 0 0 0 rfl r6 ?_; intro w7 hp7))
      refine retW1 rfl rfl (.int .i64 (131 : Nat)) rfl hp7.row ⟨0, 0, 131, rfl, by decide, by decide, ?_, hp7.below _ _ (by omega) k6⟩
      rw [HE.out]
      exact (sclRes_no HF.out : sclRes _ _ _ _)
  · by_cases hr0 : r = 0
    · have HE : Hid (scl n m d true = q) := HS.out.trans (by simp [hr0])
      have hr1 : ¬ (0 : Int) < (r : Int) := by omega
      clear HS HV1 hr0
      go_wp2_with (first
        | (with_reducible refine wpQ_store rfl (.tmp 10) (.tmp 24) rfl w3.heap.size rfl q 0 rfl (by unfold IsQ; rw [qA_zero]; unfold IsR; exact (by repeat (first | (with_reducible refine heap_top _ _ _ ?_; first | (simp; done) | (simp; omega)) | rw [Below.heap_alloc _ _ _ (by first | (simp; done) | (simp; omega))]))) ?_; intro w4 hp4; have r4 : IsW w4 (w.heap.size + 1) 0 0 := IsR.put (r3.alloc _) hp4 (by omega); have k4 := hp4.below w.heap.size w (by omega) (k3.alloc (by omega) _); have q4 := hp4.row)
        | (with_reducible refine wpQ_load rfl (.tmp 10) rfl w3.heap.size rfl q q4 ?_))
      refine (qwide_any q _ (by rw [← HE.out]; exact HV2.out)).mono ?_
      rintro e w5 ⟨h', l', rfl, hh', hl', hn', hb5⟩
      have HH' := Lib.hid hh'
      have HL' := Lib.hid hl'
      have HN' := Lib.hid hn'
      have r5 : IsW w5 (w.heap.size + 1) 0 0 := r4.kept hb5
      have k5 := Below.two k4 (Nat.le_refl _) hb5
      have s5 := r5.lt
      clear hb5 hh' hl' hn'
      by_cases hf : q < 2 ^ 128
      · rw [show few (q) = true from decide_eq_true hf]
        have HF := Lib.hid hf
        clear hf
        go_wp2_with (first
          | (with_reducible refine wpW_store rfl (.tmp 12) (.tmp 36) rfl w5.heap.size rfl h' l' 0 0 rfl (by (show (_ : World).heap[_]? = some _); repeat (first | (with_reducible refine heap_top _ _ _ ?_; first | (simp; done) | (simp; omega)) | rw [Below.heap_alloc _ _ _ (by first | (simp; done) | (simp; omega))])) ?_; intro w6 hp6; have r6 : IsW w6 (w.heap.size + 1) 0 0 := IsR.put (r5.alloc _) hp6 (by omega); have k6 := hp6.below w.heap.size w (by omega) (k5.alloc (by omega) _); have q6 := hp6.row)
          | (with_reducible refine wpW_load rfl (.tmp 12) rfl w5.heap.size rfl h' l' q6 ?_)
          | (with_reducible refine wpW_store rfl (.tmp 8) (.tmp 41) rfl (w.heap.size + 1) rfl h' l' 0 0 rfl r6 ?_; intro w7 hp7))
        refine retW1 rfl rfl (.int .i64 (0 : Nat)) rfl hp7.row ⟨h', l', 0, rfl, HH'.out, HL'.out, ?_, hp7.below _ _ (by omega) k6⟩
        rw [HE.out]
        exact (sclRes_yes HF.out (HN'.out.trans (Nat.mod_eq_of_lt HF.out)) : sclRes _ _ _ _)
      · rw [show few (q) = false from decide_eq_false hf]
        have HF := Lib.hid hf
        clear hf
        go_wp2_with (first
          | (with_reducible refine wpW_store rfl (.tmp 12) (.tmp 36) rfl w5.heap.size rfl h' l' 0 0 rfl (by (show (_ : World).heap[_]? = some _); repeat (first | (with_reducible refine heap_top _ _ _ ?_; first | (simp; done) | (simp; omega)) | rw [Below.heap_alloc _ _ _ (by first | (simp; done) | (simp; omega))])) ?_; intro w6 hp6; have r6 : IsW w6 (w.heap.size + 1) 0 0 := IsR.put (r5.alloc _) hp6 (by omega); have k6 := hp6.below w.heap.size w (by omega) (k5.alloc (by omega) _))
          | (with_reducible refine wpW_store rfl (.tmp 8) (.tmp 40) rfl (w.heap.size + 1) rfl 0 0 0 0 rfl r6 ?_; intro w7 hp7))
        refine retW1 rfl rfl (.int .i64 (131 : Nat)) rfl hp7.row ⟨0, 0, 131, rfl, by decide, by decide, ?_, hp7.below _ _ (by omega) k6⟩
        rw [HE.out]
        exact (sclRes_no HF.out : sclRes _ _ _ _)
    · have HE : Hid (scl n m d true = q + 1) := HS.out.trans (by simp [hr0])
      have hr1 : (0 : Int) < (r : Int) := by omega
      clear HS HV1 hr0
      go_wp2_with (first
        | (with_reducible refine wpQ_store rfl (.tmp 10) (.tmp 24) rfl w3.heap.size rfl q 0 rfl (by unfold IsQ; rw [qA_zero]; unfold IsR; exact (by repeat (first | (with_reducible refine heap_top _ _ _ ?_; first | (simp; done) | (simp; omega)) | rw [Below.heap_alloc _ _ _ (by first | (simp; done) | (simp; omega))]))) ?_; intro w4 hp4; have r4 : IsW w4 (w.heap.size + 1) 0 0 := IsR.put (r3.alloc _) hp4 (by omega); have k4 := hp4.below w.heap.size w (by omega) (k3.alloc (by omega) _); have q4 := hp4.row)
        | (with_reducible refine wpQ_load rfl (.tmp 10) rfl w3.heap.size rfl q q4 ?_))
      refine (times_one q _).mono ?_
      rintro e w8 ⟨rfl, hb8⟩
      have r8 : IsW w8 (w.heap.size + 1) 0 0 := r4.kept hb8
      have q8 : IsQ w8 w3.heap.size q := q4.kept hb8
      have k8 := Below.two k4 (Nat.le_refl _) hb8
      clear hb8 hp4 q4 r4 k4
      go_wp2_with (first
        | (with_reducible refine wpQ_store rfl (.tmp 10) (.tmp 32) rfl w3.heap.size rfl (q + 1) q rfl q8 ?_; intro w9 hp9; have rr : IsW w9 (w.heap.size + 1) 0 0 := IsR.put r8 hp9 (by omega); have kk := hp9.below w.heap.size w (by omega) k8; have q9 := hp9.row)
        | (with_reducible refine wpQ_load rfl (.tmp 10) rfl w3.heap.size rfl (q + 1) q9 ?_))
      refine (qwide_any (q + 1) _ (by rw [← HE.out]; exact HV2.out)).mono ?_
      rintro e w5 ⟨h', l', rfl, hh', hl', hn', hb5⟩
      have HH' := Lib.hid hh'
      have HL' := Lib.hid hl'
      have HN' := Lib.hid hn'
      have r5 : IsW w5 (w.heap.size + 1) 0 0 := rr.kept hb5
      have k5 := Below.two kk (Nat.le_refl _) hb5
      have s5 := r5.lt
      clear hb5 hh' hl' hn'
      by_cases hf : (q + 1) < 2 ^ 128
      · rw [show few (q + 1) = true from decide_eq_true hf]
        have HF := Lib.hid hf
        clear hf
        go_wp2_with (first
          | (with_reducible refine wpW_store rfl (.tmp 12) (.tmp 36) rfl w5.heap.size rfl h' l' 0 0 rfl (by (show (_ : World).heap[_]? = some _); repeat (first | (with_reducible refine heap_top _ _ _ ?_; first | (simp; done) | (simp; omega)) | rw [Below.heap_alloc _ _ _ (by first | (simp; done) | (simp; omega))])) ?_; intro w6 hp6; have r6 : IsW w6 (w.heap.size + 1) 0 0 := IsR.put (r5.alloc _) hp6 (by omega); have k6 := hp6.below w.heap.size w (by omega) (k5.alloc (by omega) _); have q6 := hp6.row)
          | (with_reducible refine wpW_load rfl (.tmp 12) rfl w5.heap.size rfl h' l' q6 ?_)
          | (with_reducible refine wpW_store rfl (.tmp 8) (.tmp 41) rfl (w.heap.size + 1) rfl h' l' 0 0 rfl r6 ?_; intro w7 hp7))
        refine retW1 rfl rfl (.int .i64 (0 : Nat)) rfl hp7.row ⟨h', l', 0, rfl, HH'.out, HL'.out, ?_, hp7.below _ _ (by omega) k6⟩
        rw [HE.out]
        exact (sclRes_yes HF.out (HN'.out.trans (Nat.mod_eq_of_lt HF.out)) : sclRes _ _ _ _)
      · rw [show few (q + 1) = false from decide_eq_false hf]
        have HF := Lib.hid hf
        clear hf
        go_wp2_with (first
          | (with_reducible refine wpW_store rfl (.tmp 12) (.tmp 36) rfl w5.heap.size rfl h' l' 0 0 rfl (by (show (_ : World).heap[_]? = some _); repeat (first | (with_reducible refine heap_top _ _ _ ?_; first | (simp; done) | (simp; omega)) | rw [Below.heap_alloc _ _ _ (by first | (simp; done) | (simp; omega))])) ?_; intro w6 hp6; have r6 : IsW w6 (w.heap.size + 1) 0 0 := IsR.put (r5.alloc _) hp6 (by omega); have k6 := hp6.below w.heap.size w (by omega) (k5.alloc (by omega) _))
          | (with_reducible refine wpW_store rfl (.tmp 8) (.tmp 40) rfl (w.heap.size + 1) rfl 0 0 0 0 rfl r6 ?_; intro w7 hp7))
        refine retW1 rfl rfl (.int .i64 (131 : Nat)) rfl hp7.row ⟨0, 0, 131, rfl, by decide, by decide, ?_, hp7.below _ _ (by omega) k6⟩
        rw [HE.out]
        exact (sclRes_no HF.out : sclRes _ _ _ _)

set_option maxRecDepth 100000 in
set_option maxHeartbeats 400000 in
theorem wScale_zero (h l m : Nat) (w : World) :
    Calls Try.prog 17 #[.agg #[.int .u64 h, .int .u64 l], .int .u64 m, .int .u64 0] w fun e w' => e = .returned (.tuple #[.agg #[.int .u64 0, .int .u64 0], .int .i64 130]) ∧ Below w.heap.size w w' := by
  go_enter Try.func17, Try.ntmps17
  go_wp2_with fail
  refine (wscaled_zero h l m true _).mono ?_
  rintro e w1 ⟨rfl, hb1⟩
  have r1 : IsW w1 (w.heap.size + 1) 0 0 := IsR.kept (by unfold IsR; exact (by repeat (first | (with_reducible refine heap_top _ _ _ ?_; first | (simp; done) | (simp; omega)) | rw [Below.heap_alloc _ _ _ (by first | (simp; done) | (simp; omega))]))) hb1
  have k1 : Below w.heap.size w w1 := Below.two (((Below.refl _ _).alloc (Nat.le_refl _) _).alloc (by simp) _) (Nat.le_refl _) hb1
  clear hb1
  go_wp2_with (first
    | (with_reducible refine wpW_store rfl (.tmp 6) (.tmp 12) rfl (w.heap.size + 1) rfl 0 0 0 0 rfl r1 ?_; intro w2 hp2))
  exact retW1 rfl rfl (.int .i64 130) rfl hp2.row ⟨rfl, hp2.below _ _ (by omega) k1⟩

set_option maxRecDepth 100000 in
set_option maxHeartbeats 400000 in
theorem wScale_any (h l n m d : Nat) (w : World) (hh : h < 2 ^ 64) (hl : l < 2 ^ 64) (hn : h * 2 ^ 64 + l = n) (hm : m < 2 ^ 64) (hd0 : 0 < d) (hd : d < 2 ^ 64) :
    Calls Try.prog 17 #[.agg #[.int .u64 h, .int .u64 l], .int .u64 m, .int .u64 d] w fun e w' =>
      ∃ h' l' c : Nat, e = .returned (.tuple #[.agg #[.int .u64 h', .int .u64 l'], .int .i64 c]) ∧ h' < 2 ^ 64 ∧ l' < 2 ^ 64 ∧ sclRes (scl n m d true) h' l' c ∧ Below w.heap.size w w' := by
  have HC := Lib.hid (fun w => wscaled_any h l n m d true w hh hl hn hm hd0 hd)
  clear hh hl hn hm hd0 hd
  go_enter Try.func17, Try.ntmps17
  go_wp2_with fail
  refine (HC.out _).mono ?_
  rintro e w1 ⟨h', l', c, rfl, hh', hl', hs', hb1⟩
  have HH' := Lib.hid hh'
  have HL' := Lib.hid hl'
  have r1 : IsW w1 (w.heap.size + 1) 0 0 := IsR.kept (by unfold IsR; exact (by repeat (first | (with_reducible refine heap_top _ _ _ ?_; first | (simp; done) | (simp; omega)) | rw [Below.heap_alloc _ _ _ (by first | (simp; done) | (simp; omega))]))) hb1
  have k1 : Below w.heap.size w w1 := Below.two (((Below.refl _ _).alloc (Nat.le_refl _) _).alloc (by simp) _) (Nat.le_refl _) hb1
  clear hb1 hh' hl'
  go_wp2_with (first
    | (with_reducible refine wpW_store rfl (.tmp 6) (.tmp 12) rfl (w.heap.size + 1) rfl h' l' 0 0 rfl r1 ?_; intro w2 hp2))
  exact retW1 rfl rfl (.int .i64 c) rfl hp2.row ⟨h', l', c, rfl, HH'.out, HL'.out, hs', hp2.below _ _ (by omega) k1⟩

set_option maxRecDepth 100000 in
set_option maxHeartbeats 400000 in
theorem wMulDiv_zero (a b : Nat) (up : Bool) (w : World) :
    Calls Try.prog 22 #[.int .u64 a, .int .u64 b, .int .u64 0, .bool up] w fun e w' => e = .returned (.tuple #[.int .u64 0, .int .i64 130]) ∧ Below w.heap.size w w' := by
  go_enter Try.func22, Try.ntmps22
  go_wp2_with fail
  refine (wOf_any a _).mono ?_
  rintro e w1 ⟨rfl, hb1⟩
  go_wp2_with fail
  refine (wscaled_zero 0 a b up _).mono ?_
  rintro e w2 ⟨rfl, hb2⟩
  have k2 := Below.two hb1 (Nat.le_refl _) hb2
  clear hb1 hb2
  go_wp2_with (first
    | (with_reducible refine wpW_store rfl (.tmp 10) (.tmp 19) rfl w2.heap.size rfl 0 0 0 0 rfl (by (show (_ : World).heap[_]? = some _); repeat (first | (with_reducible refine heap_top _ _ _ ?_; first | (simp; done) | (simp; omega)) | rw [Below.heap_alloc _ _ _ (by first | (simp; done) | (simp; omega))])) ?_; intro w3 hp3))
  go_ret2
  exact ⟨rfl, hp3.below _ _ k2.size (k2.alloc k2.size _)⟩

end Go.Proofs.Ytpjdojnbajoafaa
