/- wide.Text: a number's digits. -/
import Derived.Test.YtpjdojnbajoafaaWy
namespace Go.Proofs.Ytpjdojnbajoafaa
open Go Go.RowKit

def digS (r : Nat) : ByteArray := ⟨#[UInt8.ofNat (48 + r)]⟩
/-- A number's digits. -/
def decS (n : Nat) : ByteArray := if n < 10 then digS n else decS (n / 10) ++ digS (n % 10)
theorem decS_small (n : Nat) (h : n < 10) : decS n = digS n := by rw [decS, if_pos h]
theorem decS_big (n : Nat) (h : ¬ n < 10) : decS n = decS (n / 10) ++ digS (n % 10) := by rw [decS, if_neg h]
theorem enc_digit (r : Nat) (h : r < 10) : Utf8.encode (48 + (r : Int)) = digS r := by
  have hv : Utf8.valid (48 + (r : Int)) = true := by unfold Utf8.valid; simp; omega
  have ht : (48 + (r : Int)).toNat = 48 + r := by omega
  unfold Utf8.encode
  simp only [hv, if_true, ht]
  rw [if_pos (by omega)]
  rfl
theorem conv_wrap (r : Nat) (h : r < 10) : Utf8.encode (IntKind.i32.wrap (IntKind.u64.wrap (48 + (r : Int)))) = digS r := by
  rw [show IntKind.u64.wrap (48 + (r : Int)) = 48 + (r : Int) by simp [IntKind.wrap, IntKind.bits, IntKind.signed]; omega, show IntKind.i32.wrap (48 + (r : Int)) = 48 + (r : Int) by simp [IntKind.wrap, IntKind.bits, IntKind.signed]; omega]
  exact enc_digit r h
theorem u64_info : (Try.prog.info? 22).map (fun i => i.size) = some 1 := by kernel_rfl
theorem quart_items (d m n : Nat) (w : World) (is : List Nat) (h : ∀ i ∈ is, i < 7) :
    (Op.eqItems (d + 1) 22 1 (qA m) (qA n) is).run Try.prog w = .ok (is.all fun i => decide (dg m i = dg n i)) w := by
  induction is with
  | nil => simp [Op.eqItems]
  | cons i is ih =>
    have hi := h i (by simp)
    have p1 : ∀ x, (part 22 (qA x) (i * 1)).run Try.prog w = .ok (.int .u64 (dg x i)) w := fun x => by
      rw [Nat.mul_one]
      simp [part, isAgg, qA_get x i hi, go_sem]
    simp only [Op.eqItems, Sem.run_bind, p1, Result.andThen_ok, run_equalIn_int w d 22 _ .u64 _ _ Try.underlying22]
    by_cases hx : dg m i = dg n i
    · simp only [hx, beq_self_eq_true, Bool.not_true, Bool.false_eq_true, if_false, List.all_cons, decide_true, Bool.true_and]
      exact ih fun j hj => h j (by simp [hj])
    · have : ((dg m i : Int) == (dg n i : Int)) = false := by rw [beq_eq_false_iff_ne]; omega
      simp [this, hx]
theorem quart_eql (m n : Nat) (w : World) : (Op.equalIn 10000 78 (.agg (qA m)) (.agg (qA n))).run Try.prog w = .ok ((List.range 7).all fun i => decide (dg m i = dg n i)) w := by
  obtain ⟨i, hi⟩ : ∃ i, Try.prog.info? 22 = some i := by
    cases h : Try.prog.info? 22 with
    | none => have := u64_info; simp [h] at this
    | some i => exact ⟨i, rfl⟩
  have hc : Try.prog.cellsOf 22 = 1 := by kernel_rfl
  rw [run_equalIn_array w 9999 _ _ Try.underlying78 hi, hc, quart_items 9998 m n w _ (fun i h => List.mem_range.1 h)]
theorem dg_zero {n : Nat} (hn : n < 2 ^ 224) (h : ∀ i, i < 7 → dg n i = 0) : n = 0 := by
  have h0 := h 0 (by decide); have h1 := h 1 (by decide); have h2 := h 2 (by decide); have h3 := h 3 (by decide); have h4 := h 4 (by decide); have h5 := h 5 (by decide); have h6 := h 6 (by decide)
  unfold dg at h0 h1 h2 h3 h4 h5 h6
  simp only [Nat.reduceMul, Nat.reducePow] at h0 h1 h2 h3 h4 h5 h6 hn
  omega
theorem quart_eq0 (w : World) : (Op.equalIn 10000 78 (.agg (qA 0)) (.agg #[.int .u64 0, .int .u64 0, .int .u64 0, .int .u64 0, .int .u64 0, .int .u64 0, .int .u64 0])).run Try.prog w = .ok true w := by
  rw [← qA_zero, quart_eql]; simp
theorem quart_ne0 {q : Nat} (hq : q < 2 ^ 224) (h0 : q ≠ 0) (w : World) : (Op.equalIn 10000 78 (.agg (qA q)) (.agg #[.int .u64 0, .int .u64 0, .int .u64 0, .int .u64 0, .int .u64 0, .int .u64 0, .int .u64 0])).run Try.prog w = .ok false w := by
  rw [← qA_zero, quart_eql]
  congr 2
  rw [List.all_eq_false]
  refine Classical.byContradiction fun hc => h0 (dg_zero hq fun i hi => ?_)
  refine Classical.byContradiction fun hd => hc ⟨i, List.mem_range.2 hi, ?_⟩
  have : dg 0 i = 0 := by unfold dg; simp
  simp [this, hd]

set_option maxRecDepth 100000 in
set_option maxHeartbeats 1000000 in
theorem text1_last (n q r g : Nat) (w : World)
    (hg : Hid (IsR w g #[.func (.func 60) #[] #[.pointer (some ⟨g, 0, none⟩)]] 89))
    (HOV : Hid (Dt 53 #[.agg (qA n), .int .u64 10] (.tuple #[.agg (qA 0), .int .u64 r])))
    (hr : r < 10)
    (hr1 : (r : Int) < 10)
    (hr2 : (0 : Int) ≤ r) :
    Calls Try.prog 60 #[.agg (qA n), .pointer (some ⟨g, 0, none⟩)] w fun e w' => e = .returned (.string (digS r)) ∧ Below w.heap.size w w' := by
  have M0 := Has.start w
  go_enter Try.func60, Try.ntmps60
  refine wp_seq_k (fun K1 H1 => ?_)
  refine sq_region ?_
  refine sq_alloc rfl M0 (T := 78) (z := (qA n)) (fun w' => by go_simp) (fun K hK => ?_)
  intro g2 w1 M1
  clear M0
  go_simp; refine hK _ _ ?_; clear hK K
  refine sq_ex rfl (fun K hK => ?_); apply Exists.intro; refine ⟨?_, ?_⟩; (focus (go_simp; try exact rfl)); go_simp; refine hK _ _ ?_; clear hK K
  refine sq_nil ?_
  refine H1 _ _ ?_
  clear H1 K1
  refine wp_seq_k (fun K2 H2 => ?_)
  refine sq_region ?_
  refine sq_ex rfl (fun K hK => ?_); refine ⟨_, run_ld rfl rfl (M1.row 0 rfl) rfl Try.underlying78 (quart_size _), ?_⟩; go_simp; refine hK _ _ ?_; clear hK K
  refine sq_call rfl (fun w' => by go_simp) (HOV.out _) (fun K hK => ?_)
  rintro e w2 ⟨rfl, hb⟩
  refine ⟨_, rfl, ?_⟩
  have M2 := M1.kept hb
  clear M1 hb
  go_simp; refine hK _ _ ?_; clear hK K
  refine sq_ex rfl (fun K hK => ?_); apply Exists.intro; refine ⟨?_, ?_⟩; (focus (go_simp; try exact rfl)); go_simp; refine hK _ _ ?_; clear hK K
  refine sq_ex rfl (fun K hK => ?_); apply Exists.intro; refine ⟨?_, ?_⟩; (focus (go_simp; try exact rfl)); go_simp; refine hK _ _ ?_; clear hK K
  refine sq_ex rfl (fun K hK => ?_); apply Exists.intro; refine ⟨?_, ?_⟩; (focus (go_simp; try exact rfl)); go_simp; refine hK _ _ ?_; clear hK K
  refine sq_alloc rfl M2 (T := 78) (z := #[.int .u64 0, .int .u64 0, .int .u64 0, .int .u64 0, .int .u64 0, .int .u64 0, .int .u64 0]) (fun w' => by go_simp) (fun K hK => ?_)
  intro g4 w3 M3
  clear M2
  go_simp; refine hK _ _ ?_; clear hK K
  refine sq_store rfl M3 1 rfl (run_st (cs := (qA 0)) rfl rfl rfl (quart_size _) (by rw [qA_size]; rfl) (qA_oneCell _)) (fun K hK => ?_)
  intro w4 M4
  clear M3
  go_simp; refine hK _ _ ?_; clear hK K
  refine sq_ex rfl (fun K hK => ?_); apply Exists.intro; refine ⟨?_, ?_⟩; (focus (go_simp; try exact rfl)); go_simp; refine hK _ _ ?_; clear hK K
  refine sq_nil ?_
  refine H2 _ _ ?_
  clear H2 K2
  refine wp_seq_k (fun K3 H3 => ?_)
  refine sq_region ?_
  refine sq_ex rfl (fun K hK => ?_); apply Exists.intro; refine ⟨?_, ?_⟩; (focus (go_simp; try exact rfl)); go_simp; refine hK _ _ ?_; clear hK K
  refine sq_ex rfl (fun K hK => ?_); apply Exists.intro; refine ⟨?_, ?_⟩; (focus (go_simp; try exact rfl)); go_simp; refine hK _ _ ?_; clear hK K
  refine sq_ex rfl (fun K hK => ?_); apply Exists.intro; refine ⟨?_, ?_⟩; (focus (go_simp; try exact rfl)); go_simp; refine hK _ _ ?_; clear hK K
  refine sq_ex rfl (fun K hK => ?_); refine ⟨.string (digS r), ?_, ?_⟩; (focus (go_simp; exact conv_wrap r hr)); go_simp; refine hK _ _ ?_; clear hK K
  refine sq_ex rfl (fun K hK => ?_); apply Exists.intro; refine ⟨?_, ?_⟩; (focus (go_simp; try exact rfl)); go_simp; refine hK _ _ ?_; clear hK K
  refine sq_nil ?_
  refine H3 _ _ ?_
  clear H3 K3
  refine wp_seq_k (fun K4 H4 => ?_)
  refine wp_seq_k (fun K5 H5 => ?_)
  refine sq_region ?_
  refine sq_ex rfl (fun K hK => ?_); refine ⟨_, run_ld rfl rfl (M4.row 1 rfl) rfl Try.underlying78 (quart_size _), ?_⟩; go_simp; refine hK _ _ ?_; clear hK K
  refine sq_ex rfl (fun K hK => ?_); apply Exists.intro; refine ⟨?_, ?_⟩; (focus (go_simp; try exact rfl)); go_simp; refine hK _ _ ?_; clear hK K
  refine sq_ex rfl (fun K hK => ?_); refine ⟨.bool true, ?_, ?_⟩; (focus (go_simp; rw [quart_eq0]; rfl)); go_simp; refine hK _ _ ?_; clear hK K
  refine sq_nil ?_
  refine H5 _ _ ?_
  clear H5 K5
  refine wp_cond_true rfl ?_
  refine wp_seq_k (fun K6 H6 => ?_)
  refine sq_region ?_
  refine sq_ex rfl (fun K hK => ?_); apply Exists.intro; refine ⟨?_, ?_⟩; (focus (go_simp; try exact rfl)); go_simp; refine hK _ _ ?_; clear hK K
  refine sq_ex rfl (fun K hK => ?_); apply Exists.intro; refine ⟨?_, ?_⟩; (focus (go_simp; try exact rfl)); go_simp; refine hK _ _ ?_; clear hK K
  refine sq_nil ?_
  refine H6 _ _ ?_
  clear H6 K6
  refine wp_ret ?_
  go_ret
  exact ⟨rfl, M4.below⟩

set_option maxRecDepth 100000 in
set_option maxHeartbeats 1000000 in
theorem text1_more (n q r g : Nat) (w : World)
    (hg : Hid (IsR w g #[.func (.func 60) #[] #[.pointer (some ⟨g, 0, none⟩)]] 89))
    (HOV : Hid (Dt 53 #[.agg (qA n), .int .u64 10] (.tuple #[.agg (qA q), .int .u64 r])))
    (hr : r < 10)
    (hr1 : (r : Int) < 10)
    (hr2 : (0 : Int) ≤ r)
    (HQ : Hid (∀ w, (Op.equalIn 10000 78 (.agg (qA q)) (.agg #[.int .u64 0, .int .u64 0, .int .u64 0, .int .u64 0, .int .u64 0, .int .u64 0, .int .u64 0])).run Try.prog w = .ok false w))
    (IH : Hid (∀ w, IsR w g #[.func (.func 60) #[] #[.pointer (some ⟨g, 0, none⟩)]] 89 → Calls Try.prog 60 #[.agg (qA q), .pointer (some ⟨g, 0, none⟩)] w fun e w' => e = .returned (.string (decS q)) ∧ Below w.heap.size w w'))
    (hs : (decS q).size ≤ 100) :
    Calls Try.prog 60 #[.agg (qA n), .pointer (some ⟨g, 0, none⟩)] w fun e w' => e = .returned (.string (decS q ++ digS r)) ∧ Below w.heap.size w w' := by
  have M0 := Has.start w
  go_enter Try.func60, Try.ntmps60
  refine wp_seq_k (fun K1 H1 => ?_)
  refine sq_region ?_
  refine sq_alloc rfl M0 (T := 78) (z := (qA n)) (fun w' => by go_simp) (fun K hK => ?_)
  intro g2 w1 M1
  clear M0
  go_simp; refine hK _ _ ?_; clear hK K
  refine sq_ex rfl (fun K hK => ?_); apply Exists.intro; refine ⟨?_, ?_⟩; (focus (go_simp; try exact rfl)); go_simp; refine hK _ _ ?_; clear hK K
  refine sq_nil ?_
  refine H1 _ _ ?_
  clear H1 K1
  refine wp_seq_k (fun K2 H2 => ?_)
  refine sq_region ?_
  refine sq_ex rfl (fun K hK => ?_); refine ⟨_, run_ld rfl rfl (M1.row 0 rfl) rfl Try.underlying78 (quart_size _), ?_⟩; go_simp; refine hK _ _ ?_; clear hK K
  refine sq_call rfl (fun w' => by go_simp) (HOV.out _) (fun K hK => ?_)
  rintro e w2 ⟨rfl, hb⟩
  refine ⟨_, rfl, ?_⟩
  have M2 := M1.kept hb
  clear M1 hb
  go_simp; refine hK _ _ ?_; clear hK K
  refine sq_ex rfl (fun K hK => ?_); apply Exists.intro; refine ⟨?_, ?_⟩; (focus (go_simp; try exact rfl)); go_simp; refine hK _ _ ?_; clear hK K
  refine sq_ex rfl (fun K hK => ?_); apply Exists.intro; refine ⟨?_, ?_⟩; (focus (go_simp; try exact rfl)); go_simp; refine hK _ _ ?_; clear hK K
  refine sq_ex rfl (fun K hK => ?_); apply Exists.intro; refine ⟨?_, ?_⟩; (focus (go_simp; try exact rfl)); go_simp; refine hK _ _ ?_; clear hK K
  refine sq_alloc rfl M2 (T := 78) (z := #[.int .u64 0, .int .u64 0, .int .u64 0, .int .u64 0, .int .u64 0, .int .u64 0, .int .u64 0]) (fun w' => by go_simp) (fun K hK => ?_)
  intro g4 w3 M3
  clear M2
  go_simp; refine hK _ _ ?_; clear hK K
  refine sq_store rfl M3 1 rfl (run_st (cs := (qA q)) rfl rfl rfl (quart_size _) (by rw [qA_size]; rfl) (qA_oneCell _)) (fun K hK => ?_)
  intro w4 M4
  clear M3
  go_simp; refine hK _ _ ?_; clear hK K
  refine sq_ex rfl (fun K hK => ?_); apply Exists.intro; refine ⟨?_, ?_⟩; (focus (go_simp; try exact rfl)); go_simp; refine hK _ _ ?_; clear hK K
  refine sq_nil ?_
  refine H2 _ _ ?_
  clear H2 K2
  refine wp_seq_k (fun K3 H3 => ?_)
  refine sq_region ?_
  refine sq_ex rfl (fun K hK => ?_); apply Exists.intro; refine ⟨?_, ?_⟩; (focus (go_simp; try exact rfl)); go_simp; refine hK _ _ ?_; clear hK K
  refine sq_ex rfl (fun K hK => ?_); apply Exists.intro; refine ⟨?_, ?_⟩; (focus (go_simp; try exact rfl)); go_simp; refine hK _ _ ?_; clear hK K
  refine sq_ex rfl (fun K hK => ?_); apply Exists.intro; refine ⟨?_, ?_⟩; (focus (go_simp; try exact rfl)); go_simp; refine hK _ _ ?_; clear hK K
  refine sq_ex rfl (fun K hK => ?_); refine ⟨.string (digS r), ?_, ?_⟩; (focus (go_simp; exact conv_wrap r hr)); go_simp; refine hK _ _ ?_; clear hK K
  refine sq_ex rfl (fun K hK => ?_); apply Exists.intro; refine ⟨?_, ?_⟩; (focus (go_simp; try exact rfl)); go_simp; refine hK _ _ ?_; clear hK K
  refine sq_nil ?_
  refine H3 _ _ ?_
  clear H3 K3
  refine wp_seq_k (fun K4 H4 => ?_)
  refine wp_seq_k (fun K5 H5 => ?_)
  refine sq_region ?_
  refine sq_ex rfl (fun K hK => ?_); refine ⟨_, run_ld rfl rfl (M4.row 1 rfl) rfl Try.underlying78 (quart_size _), ?_⟩; go_simp; refine hK _ _ ?_; clear hK K
  refine sq_ex rfl (fun K hK => ?_); apply Exists.intro; refine ⟨?_, ?_⟩; (focus (go_simp; try exact rfl)); go_simp; refine hK _ _ ?_; clear hK K
  refine sq_ex rfl (fun K hK => ?_); refine ⟨.bool false, ?_, ?_⟩; (focus (go_simp; rw [HQ.out]; rfl)); go_simp; refine hK _ _ ?_; clear hK K
  refine sq_nil ?_
  refine H5 _ _ ?_
  clear H5 K5
  refine wp_cond_false rfl ?_
  refine wp_skip ?_
  refine H4 _ _ ?_
  clear H4 K4
  refine wp_seq_k (fun K6 H6 => ?_)
  refine sq_region ?_
  have cg := IsR.cell (IsR.kept hg.out M4.below)
  refine sq_ex rfl (fun K hK => ?_); refine ⟨.func (.func 60) #[] #[.pointer (some ⟨g, 0, none⟩)], ?_, ?_⟩; (focus (have c0 := cg 0; go_simp)); clear cg; go_simp; refine hK _ _ ?_; clear hK K
  refine sq_ex rfl (fun K hK => ?_); refine ⟨_, run_ld rfl rfl (M4.row 1 rfl) rfl Try.underlying78 (quart_size _), ?_⟩; go_simp; refine hK _ _ ?_; clear hK K
  refine sq_call rfl (fun w' => by go_simp) (IH.out _ (IsR.kept hg.out M4.below)) (fun K hK => ?_)
  rintro e w5 ⟨rfl, hb⟩
  refine ⟨_, rfl, ?_⟩
  have M5 := M4.kept hb
  clear M4 hb
  go_simp; refine hK _ _ ?_; clear hK K
  refine sq_ex rfl (fun K hK => ?_); apply Exists.intro; refine ⟨?_, ?_⟩; (focus (go_simp; try exact rfl)); go_simp; refine hK _ _ ?_; clear hK K
  refine sq_ex rfl (fun K hK => ?_); refine ⟨.string (decS q ++ digS r), ?_, ?_⟩; (focus (have h1 : (digS r).size = 1 := rfl; go_simp; try omega)); go_simp; refine hK _ _ ?_; clear hK K
  refine sq_ex rfl (fun K hK => ?_); apply Exists.intro; refine ⟨?_, ?_⟩; (focus (go_simp; try exact rfl)); go_simp; refine hK _ _ ?_; clear hK K
  refine sq_nil ?_
  refine H6 _ _ ?_
  clear H6 K6
  refine wp_ret ?_
  go_ret
  exact ⟨rfl, M5.below⟩

theorem digS_size (r : Nat) : (digS r).size = 1 := rfl
theorem decS_size (k : Nat) : ∀ n, n < 10 ^ (k + 1) → (decS n).size ≤ k + 1 := by
  induction k with
  | zero => intro n hn; rw [decS_small n (by simpa using hn)]; exact Nat.le_refl _
  | succ k ih =>
    intro n hn
    by_cases h : n < 10
    · rw [decS_small n h, digS_size]; omega
    · rw [decS_big n h, ByteArray.size_append, digS_size]
      have := ih (n / 10) (by rw [Nat.pow_succ] at hn; omega)
      omega
theorem text1_any (g : Nat) : ∀ (k n : Nat) (w : World), n < k → n < 2 ^ 224 → IsR w g #[.func (.func 60) #[] #[.pointer (some ⟨g, 0, none⟩)]] 89 → Calls Try.prog 60 #[.agg (qA n), .pointer (some ⟨g, 0, none⟩)] w fun e w' => e = .returned (.string (decS n)) ∧ Below w.heap.size w w' := by
  intro k
  induction k with
  | zero => intro n w h; omega
  | succ k ih =>
    intro n w hk hn hg
    have OV : Hid (Dt 53 #[.agg (qA n), .int .u64 10] (.tuple #[.agg (qA (n / 10)), .int .u64 (n % 10 : Nat)])) := Lib.hid fun w => over_any n 10 w hn (by decide) (by decide)
    have hr : n % 10 < 10 := Nat.mod_lt _ (by decide)
    by_cases h : n < 10
    · have h0 : n / 10 = 0 := by omega
      have h1 : n % 10 = n := by omega
      rw [h0, h1] at OV
      rw [decS_small n h]
      exact text1_last n 0 n g w (Lib.hid hg) OV h (by omega) (by omega)
    · rw [decS_big n h]
      have hq : n / 10 < 2 ^ 224 := by omega
      exact text1_more n (n / 10) (n % 10) g w (Lib.hid hg) OV hr (by omega) (by omega) (Lib.hid fun w => quart_ne0 hq (by omega) w) (Lib.hid fun w hw => ih (n / 10) w (by omega) hq hw)
        (Nat.le_trans (decS_size 67 (n / 10) (Nat.lt_of_lt_of_le hq (by decide))) (by decide))

set_option maxRecDepth 100000 in
set_option maxHeartbeats 1000000 in
theorem text_any (h l n : Nat) (w : World) (hn : n < 2 ^ 128) (HOF : Hid (Dt 52 #[wv h l] (.agg (qA n)))) :
    Calls Try.prog 33 #[wv h l] w fun e w' => e = .returned (.string (decS n)) ∧ Below w.heap.size w w' := by
  have M0 := Has.start w
  go_enter Try.func33, Try.ntmps33
  refine wp_seq_k (fun K1 H1 => ?_)
  refine sq_region ?_
  refine sq_alloc rfl M0 (T := 24) (z := #[.int .u64 h, .int .u64 l]) (fun w' => by go_simp) (fun K hK => ?_)
  intro g1 w1 M1
  clear M0
  go_simp; refine hK _ _ ?_; clear hK K
  refine sq_ex rfl (fun K hK => ?_); apply Exists.intro; refine ⟨?_, ?_⟩; (focus (go_simp; try exact rfl)); go_simp; refine hK _ _ ?_; clear hK K
  refine sq_nil ?_
  refine H1 _ _ ?_
  clear H1 K1
  refine wp_seq_k (fun K2 H2 => ?_)
  refine sq_region ?_
  refine sq_alloc rfl M1 (T := 89) (z := #[.nilFunc]) (fun w' => by go_simp) (fun K hK => ?_)
  intro g3 w2 M2
  clear M1
  go_simp; refine hK _ _ ?_; clear hK K
  refine sq_nil ?_
  refine H2 _ _ ?_
  clear H2 K2
  refine wp_seq_k (fun K3 H3 => ?_)
  refine sq_region ?_
  refine sq_ex rfl (fun K hK => ?_); apply Exists.intro; refine ⟨?_, ?_⟩; (focus (go_simp; try exact rfl)); go_simp; refine hK _ _ ?_; clear hK K
  refine sq_store rfl M2 1 rfl (run_st1 (k := 0) rfl rfl rfl (by kernel_rfl) (by simp) (by rfl)) (fun K hK => ?_)
  intro w3 M3
  clear M2
  go_simp; refine hK _ _ ?_; clear hK K
  refine sq_nil ?_
  refine H3 _ _ ?_
  clear H3 K3
  refine wp_seq_k (fun K4 H4 => ?_)
  refine wp_region_rows [] [(2, fun v => v = .agg (qA n)), (3, fun v => v = .string (decS n))] M3 (by kernel_rfl) (by kernel_rfl) (by kernel_rfl) (by kernel_rfl) ?_
  refine rs_ex rfl rfl rfl rfl rfl ⟨_, M3⟩ (fun K hK => ?_); apply Exists.intro; refine ⟨fun w' hw => ?_, ?_⟩; (focus (have c := IsR.cell (hw.row 1 rfl); have f := IsR.froz (hw.row 1 rfl); go_simp; try exact rfl)); go_simp; refine hK _ ?_; clear hK K
  refine rs_ex rfl rfl rfl rfl rfl ⟨_, M3⟩ (fun K hK => ?_); refine ⟨_, fun w' hw => run_ld rfl rfl (hw.row 0 rfl) rfl Try.underlying24 wide_size, ?_⟩; go_simp; refine hK _ ?_; clear hK K
  refine rs_call rfl rfl (fun v => v = .agg (qA n)) rfl rfl ⟨_, rfl⟩ (fun w' => by go_simp) (fun w' hw => (HOF.out w').mono fun e w'' hh => ⟨_, hh.1, rfl, hh.2⟩) (fun K hK => ?_); rintro _ rfl; go_simp; refine hK _ ?_; clear hK K
  refine rs_call rfl rfl (fun v => v = .string (decS n)) rfl rfl ⟨_, rfl⟩ (fun w' => by go_simp) (fun w' hw => (text1_any g3 (n + 1) n w' (Nat.lt_succ_self n) (Nat.lt_trans hn (by decide)) (hw.row 1 rfl)).mono fun e w'' hh => ⟨_, hh.1, rfl, hh.2⟩) (fun K hK => ?_); rintro _ rfl; go_simp; refine hK _ ?_; clear hK K
  refine rs_ex rfl rfl rfl rfl rfl ⟨_, M3⟩ (fun K hK => ?_); apply Exists.intro; refine ⟨fun w' hw => ?_, ?_⟩; (focus (go_simp; try exact rfl)); go_simp; refine hK _ ?_; clear hK K
  refine rs_nil ?_
  intro w4 M
  have M4 : Has w [(g1, #[.int .u64 h, .int .u64 l], 24), (g3, #[.func (.func 60) #[] #[.pointer (some ⟨g3, 0, none⟩)]], 89)] w4 := M
  clear M3 M
  refine H4 _ _ ?_
  clear H4 K4
  refine wp_ret ?_
  go_ret
  exact ⟨rfl, M4.below⟩

end Go.Proofs.Ytpjdojnbajoafaa
