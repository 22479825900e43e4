/- frac: weight, right. -/
import Derived.Test.YtpjdojnbajoafaaWz
import Derived.LoopTactic
namespace Go.Proofs.Ytpjdojnbajoafaa
open Go Go.RowKit

theorem i64_next (k : Nat) (h : (k : Int) < 1000000000000000000) : IntKind.i64.wrap ((k : Int) + 1) = (k : Int) + 1 := by simp [IntKind.wrap, IntKind.bits, IntKind.signed]; omega
theorem i64_next' (k : Nat) (h : (k : Int) < 1000000000000000000) : IntKind.i64.wrap ((k : Int) + 1) = ((k + 1 : Nat) : Int) := by rw [i64_next k h]; rfl
theorem frac_size : (Try.prog.info? 60).map (·.size) = some 3 := by kernel_rfl
abbrev fv (h l w : Nat) : Value := .agg #[.int .u64 h, .int .u64 l, .int .u64 w]
/-- May it be a weight? -/
def wt (x : Nat) : Bool := decide (1 ≤ x) && decide (x ≤ 65535)
theorem wt_yes {x : Nat} (h1 : 1 ≤ x) (h2 : x ≤ 65535) : wt x = true := by unfold wt; simp; omega
theorem wt_no {x : Nat} (h : ¬ (1 ≤ x ∧ x ≤ 65535)) : wt x = false := by
  unfold wt
  by_cases h1 : 1 ≤ x
  · simp only [h1, decide_true, Bool.true_and]; exact decide_eq_false (by omega)
  · simp [h1]
theorem wt_iff {x : Nat} : wt x = true ↔ 1 ≤ x ∧ x ≤ 65535 := by unfold wt; simp
/-- May a fraction of this high half and this weight be? -/
def okF (h w : Nat) : Bool := wt w && decide (h < 68719476736)
theorem okF_cases (h w : Nat) : (wt w = true ∧ h < 68719476736 ∧ okF h w = true) ∨ (wt w = false ∧ okF h w = false) ∨ (wt w = true ∧ 68719476736 ≤ h ∧ okF h w = false) := by
  unfold okF
  by_cases h1 : wt w = true
  · by_cases h2 : h < 68719476736
    · exact .inl ⟨h1, h2, by simp [h1, h2]⟩
    · exact .inr (.inr ⟨h1, by omega, by simp [h2]⟩)
  · have : wt w = false := by simpa using h1
    exact .inr (.inl ⟨this, by simp [this]⟩)
def rightB (n : Nat) (H W : Nat → Nat) : Bool := (List.range n).all fun k => okF (H k) (W k)
theorem rightB_yes {n : Nat} {H W : Nat → Nat} (h : ∀ j, j < n → okF (H j) (W j) = true) : rightB n H W = true := by
  unfold rightB; rw [List.all_eq_true]; exact fun j hj => h j (List.mem_range.1 hj)
theorem rightB_no {n k : Nat} {H W : Nat → Nat} (hk : k < n) (h : okF (H k) (W k) = false) : rightB n H W = false := by
  unfold rightB; rw [List.all_eq_false]; exact ⟨k, List.mem_range.2 hk, by simp [h]⟩
theorem frac_cells {cs : Array Value} {k : Nat} {a b c : Value} (h : cs[3 * k]? = some a ∧ cs[3 * k + 1]? = some b ∧ cs[3 * k + 2]? = some c) : ∀ j v, [a, b, c][j]? = some v → cs[3 * k + j]? = some v := by
  intro j v hj
  match j with
  | 0 => simp at hj; subst hj; exact h.1
  | 1 => simp at hj; subst hj; exact h.2.1
  | 2 => simp at hj; subst hj; exact h.2.2
  | (j + 3) => simp at hj

set_option maxRecDepth 100000 in
set_option maxHeartbeats 1000000 in
theorem weight_yes (x : Nat) (w : World) (h1 : 1 ≤ x) (h2 : x ≤ 65535) : Calls Try.prog 65 #[.int .u64 x] w fun e w' => e = .returned (.bool true) ∧ Below w.heap.size w w' := by
  have M0 := Has.start w
  go_enter Try.func65, Try.ntmps65
  refine wp_seq_k (fun K1 H1 => ?_)
  refine sq_region ?_
  refine sq_ex rfl (fun K hK => ?_); apply Exists.intro; refine ⟨?_, ?_⟩; (focus (go_simp; try exact rfl)); go_simp; refine hK _ _ ?_; clear hK K
  refine sq_nil ?_
  refine H1 _ _ ?_
  clear H1 K1
  refine wp_seq_k (fun K2 H2 => ?_)
  refine sq_region ?_
  refine sq_ex rfl (fun K hK => ?_); apply Exists.intro; refine ⟨?_, ?_⟩; (focus (go_simp; try exact rfl)); go_simp; refine hK _ _ ?_; clear hK K
  refine sq_ex rfl (fun K hK => ?_); refine ⟨.bool true, ?_, ?_⟩; (focus (go_simp; try (first | omega | (simp; done) | (simp; omega)))); go_simp; refine hK _ _ ?_; clear hK K
  refine sq_ex rfl (fun K hK => ?_); apply Exists.intro; refine ⟨?_, ?_⟩; (focus (go_simp; try exact rfl)); go_simp; refine hK _ _ ?_; clear hK K
  refine sq_ex rfl (fun K hK => ?_); apply Exists.intro; refine ⟨?_, ?_⟩; (focus (go_simp; try exact rfl)); go_simp; refine hK _ _ ?_; clear hK K
  refine sq_ex rfl (fun K hK => ?_); refine ⟨.bool true, ?_, ?_⟩; (focus (go_simp; try (first | omega | (simp; done) | (simp; omega)))); go_simp; refine hK _ _ ?_; clear hK K
  refine sq_ex rfl (fun K hK => ?_); apply Exists.intro; refine ⟨?_, ?_⟩; (focus (go_simp; try exact rfl)); go_simp; refine hK _ _ ?_; clear hK K
  refine sq_ex rfl (fun K hK => ?_); apply Exists.intro; refine ⟨?_, ?_⟩; (focus (go_simp; try exact rfl)); go_simp; refine hK _ _ ?_; clear hK K
  refine sq_nil ?_
  refine H2 _ _ ?_
  clear H2 K2
  refine wp_ret ?_
  go_ret
  exact ⟨rfl, M0.below⟩

set_option maxRecDepth 100000 in
set_option maxHeartbeats 1000000 in
theorem weight_big (x : Nat) (w : World) (h1 : 1 ≤ x) (h2 : 65535 < x) : Calls Try.prog 65 #[.int .u64 x] w fun e w' => e = .returned (.bool false) ∧ Below w.heap.size w w' := by
  have M0 := Has.start w
  go_enter Try.func65, Try.ntmps65
  refine wp_seq_k (fun K1 H1 => ?_)
  refine sq_region ?_
  refine sq_ex rfl (fun K hK => ?_); apply Exists.intro; refine ⟨?_, ?_⟩; (focus (go_simp; try exact rfl)); go_simp; refine hK _ _ ?_; clear hK K
  refine sq_nil ?_
  refine H1 _ _ ?_
  clear H1 K1
  refine wp_seq_k (fun K2 H2 => ?_)
  refine sq_region ?_
  refine sq_ex rfl (fun K hK => ?_); apply Exists.intro; refine ⟨?_, ?_⟩; (focus (go_simp; try exact rfl)); go_simp; refine hK _ _ ?_; clear hK K
  refine sq_ex rfl (fun K hK => ?_); refine ⟨.bool true, ?_, ?_⟩; (focus (go_simp; try (first | omega | (simp; done) | (simp; omega)))); go_simp; refine hK _ _ ?_; clear hK K
  refine sq_ex rfl (fun K hK => ?_); apply Exists.intro; refine ⟨?_, ?_⟩; (focus (go_simp; try exact rfl)); go_simp; refine hK _ _ ?_; clear hK K
  refine sq_ex rfl (fun K hK => ?_); apply Exists.intro; refine ⟨?_, ?_⟩; (focus (go_simp; try exact rfl)); go_simp; refine hK _ _ ?_; clear hK K
  refine sq_ex rfl (fun K hK => ?_); refine ⟨.bool false, ?_, ?_⟩; (focus (go_simp; try (first | omega | (simp; done) | (simp; omega)))); go_simp; refine hK _ _ ?_; clear hK K
  refine sq_ex rfl (fun K hK => ?_); apply Exists.intro; refine ⟨?_, ?_⟩; (focus (go_simp; try exact rfl)); go_simp; refine hK _ _ ?_; clear hK K
  refine sq_ex rfl (fun K hK => ?_); apply Exists.intro; refine ⟨?_, ?_⟩; (focus (go_simp; try exact rfl)); go_simp; refine hK _ _ ?_; clear hK K
  refine sq_nil ?_
  refine H2 _ _ ?_
  clear H2 K2
  refine wp_ret ?_
  go_ret
  exact ⟨rfl, M0.below⟩

set_option maxRecDepth 100000 in
set_option maxHeartbeats 1000000 in
theorem weight_nil (x : Nat) (w : World)  : Calls Try.prog 65 #[.int .u64 0] w fun e w' => e = .returned (.bool false) ∧ Below w.heap.size w w' := by
  have M0 := Has.start w
  go_enter Try.func65, Try.ntmps65
  refine wp_seq_k (fun K1 H1 => ?_)
  refine sq_region ?_
  refine sq_ex rfl (fun K hK => ?_); apply Exists.intro; refine ⟨?_, ?_⟩; (focus (go_simp; try exact rfl)); go_simp; refine hK _ _ ?_; clear hK K
  refine sq_nil ?_
  refine H1 _ _ ?_
  clear H1 K1
  refine wp_seq_k (fun K2 H2 => ?_)
  refine sq_region ?_
  refine sq_ex rfl (fun K hK => ?_); apply Exists.intro; refine ⟨?_, ?_⟩; (focus (go_simp; try exact rfl)); go_simp; refine hK _ _ ?_; clear hK K
  refine sq_ex rfl (fun K hK => ?_); refine ⟨.bool false, ?_, ?_⟩; (focus (go_simp; try (first | omega | (simp; done) | (simp; omega)))); go_simp; refine hK _ _ ?_; clear hK K
  refine sq_ex rfl (fun K hK => ?_); apply Exists.intro; refine ⟨?_, ?_⟩; (focus (go_simp; try exact rfl)); go_simp; refine hK _ _ ?_; clear hK K
  refine sq_not rfl (fun K hK => ?_); go_simp; refine hK _ _ ?_; clear hK K
  refine sq_not rfl (fun K hK => ?_); go_simp; refine hK _ _ ?_; clear hK K
  refine sq_ex rfl (fun K hK => ?_); apply Exists.intro; refine ⟨?_, ?_⟩; (focus (go_simp; try exact rfl)); go_simp; refine hK _ _ ?_; clear hK K
  refine sq_ex rfl (fun K hK => ?_); apply Exists.intro; refine ⟨?_, ?_⟩; (focus (go_simp; try exact rfl)); go_simp; refine hK _ _ ?_; clear hK K
  refine sq_nil ?_
  refine H2 _ _ ?_
  clear H2 K2
  refine wp_ret ?_
  go_ret
  exact ⟨rfl, M0.below⟩

theorem dweight (x : Nat) : Dt 65 #[.int .u64 x] (.bool (wt x)) := fun w => by
  by_cases h0 : x = 0
  · subst h0; exact weight_nil 0 w
  · by_cases h1 : x ≤ 65535
    · rw [wt_yes (by omega) h1]; exact weight_yes x w (by omega) h1
    · rw [wt_no (by omega)]; exact weight_big x w (by omega) (by omega)

set_option maxRecDepth 100000 in
set_option maxHeartbeats 1000000 in
theorem Weight_yes (x : Nat) (w : World) (h1 : 1 ≤ x) (h2 : x ≤ 65535) : Calls Try.prog 41 #[.int .u64 x] w fun e w' => e = .returned (.bool true) ∧ Below w.heap.size w w' := by
  have M0 := Has.start w
  go_enter Try.func41, Try.ntmps41
  refine wp_seq_k (fun K1 H1 => ?_)
  refine sq_region ?_
  refine sq_ex rfl (fun K hK => ?_); apply Exists.intro; refine ⟨?_, ?_⟩; (focus (go_simp; try exact rfl)); go_simp; refine hK _ _ ?_; clear hK K
  refine sq_nil ?_
  refine H1 _ _ ?_
  clear H1 K1
  refine wp_seq_k (fun K2 H2 => ?_)
  refine sq_region ?_
  refine sq_ex rfl (fun K hK => ?_); apply Exists.intro; refine ⟨?_, ?_⟩; (focus (go_simp; try exact rfl)); go_simp; refine hK _ _ ?_; clear hK K
  refine sq_ex rfl (fun K hK => ?_); refine ⟨.bool true, ?_, ?_⟩; (focus (go_simp; try (first | omega | (simp; done) | (simp; omega)))); go_simp; refine hK _ _ ?_; clear hK K
  refine sq_ex rfl (fun K hK => ?_); apply Exists.intro; refine ⟨?_, ?_⟩; (focus (go_simp; try exact rfl)); go_simp; refine hK _ _ ?_; clear hK K
  refine sq_ex rfl (fun K hK => ?_); apply Exists.intro; refine ⟨?_, ?_⟩; (focus (go_simp; try exact rfl)); go_simp; refine hK _ _ ?_; clear hK K
  refine sq_ex rfl (fun K hK => ?_); refine ⟨.bool true, ?_, ?_⟩; (focus (go_simp; try (first | omega | (simp; done) | (simp; omega)))); go_simp; refine hK _ _ ?_; clear hK K
  refine sq_ex rfl (fun K hK => ?_); apply Exists.intro; refine ⟨?_, ?_⟩; (focus (go_simp; try exact rfl)); go_simp; refine hK _ _ ?_; clear hK K
  refine sq_ex rfl (fun K hK => ?_); apply Exists.intro; refine ⟨?_, ?_⟩; (focus (go_simp; try exact rfl)); go_simp; refine hK _ _ ?_; clear hK K
  refine sq_nil ?_
  refine H2 _ _ ?_
  clear H2 K2
  refine wp_ret ?_
  go_ret
  exact ⟨rfl, M0.below⟩

set_option maxRecDepth 100000 in
set_option maxHeartbeats 1000000 in
theorem Weight_big (x : Nat) (w : World) (h1 : 1 ≤ x) (h2 : 65535 < x) : Calls Try.prog 41 #[.int .u64 x] w fun e w' => e = .returned (.bool false) ∧ Below w.heap.size w w' := by
  have M0 := Has.start w
  go_enter Try.func41, Try.ntmps41
  refine wp_seq_k (fun K1 H1 => ?_)
  refine sq_region ?_
  refine sq_ex rfl (fun K hK => ?_); apply Exists.intro; refine ⟨?_, ?_⟩; (focus (go_simp; try exact rfl)); go_simp; refine hK _ _ ?_; clear hK K
  refine sq_nil ?_
  refine H1 _ _ ?_
  clear H1 K1
  refine wp_seq_k (fun K2 H2 => ?_)
  refine sq_region ?_
  refine sq_ex rfl (fun K hK => ?_); apply Exists.intro; refine ⟨?_, ?_⟩; (focus (go_simp; try exact rfl)); go_simp; refine hK _ _ ?_; clear hK K
  refine sq_ex rfl (fun K hK => ?_); refine ⟨.bool true, ?_, ?_⟩; (focus (go_simp; try (first | omega | (simp; done) | (simp; omega)))); go_simp; refine hK _ _ ?_; clear hK K
  refine sq_ex rfl (fun K hK => ?_); apply Exists.intro; refine ⟨?_, ?_⟩; (focus (go_simp; try exact rfl)); go_simp; refine hK _ _ ?_; clear hK K
  refine sq_ex rfl (fun K hK => ?_); apply Exists.intro; refine ⟨?_, ?_⟩; (focus (go_simp; try exact rfl)); go_simp; refine hK _ _ ?_; clear hK K
  refine sq_ex rfl (fun K hK => ?_); refine ⟨.bool false, ?_, ?_⟩; (focus (go_simp; try (first | omega | (simp; done) | (simp; omega)))); go_simp; refine hK _ _ ?_; clear hK K
  refine sq_ex rfl (fun K hK => ?_); apply Exists.intro; refine ⟨?_, ?_⟩; (focus (go_simp; try exact rfl)); go_simp; refine hK _ _ ?_; clear hK K
  refine sq_ex rfl (fun K hK => ?_); apply Exists.intro; refine ⟨?_, ?_⟩; (focus (go_simp; try exact rfl)); go_simp; refine hK _ _ ?_; clear hK K
  refine sq_nil ?_
  refine H2 _ _ ?_
  clear H2 K2
  refine wp_ret ?_
  go_ret
  exact ⟨rfl, M0.below⟩

set_option maxRecDepth 100000 in
set_option maxHeartbeats 1000000 in
theorem Weight_nil (x : Nat) (w : World)  : Calls Try.prog 41 #[.int .u64 0] w fun e w' => e = .returned (.bool false) ∧ Below w.heap.size w w' := by
  have M0 := Has.start w
  go_enter Try.func41, Try.ntmps41
  refine wp_seq_k (fun K1 H1 => ?_)
  refine sq_region ?_
  refine sq_ex rfl (fun K hK => ?_); apply Exists.intro; refine ⟨?_, ?_⟩; (focus (go_simp; try exact rfl)); go_simp; refine hK _ _ ?_; clear hK K
  refine sq_nil ?_
  refine H1 _ _ ?_
  clear H1 K1
  refine wp_seq_k (fun K2 H2 => ?_)
  refine sq_region ?_
  refine sq_ex rfl (fun K hK => ?_); apply Exists.intro; refine ⟨?_, ?_⟩; (focus (go_simp; try exact rfl)); go_simp; refine hK _ _ ?_; clear hK K
  refine sq_ex rfl (fun K hK => ?_); refine ⟨.bool false, ?_, ?_⟩; (focus (go_simp; try (first | omega | (simp; done) | (simp; omega)))); go_simp; refine hK _ _ ?_; clear hK K
  refine sq_ex rfl (fun K hK => ?_); apply Exists.intro; refine ⟨?_, ?_⟩; (focus (go_simp; try exact rfl)); go_simp; refine hK _ _ ?_; clear hK K
  refine sq_not rfl (fun K hK => ?_); go_simp; refine hK _ _ ?_; clear hK K
  refine sq_not rfl (fun K hK => ?_); go_simp; refine hK _ _ ?_; clear hK K
  refine sq_ex rfl (fun K hK => ?_); apply Exists.intro; refine ⟨?_, ?_⟩; (focus (go_simp; try exact rfl)); go_simp; refine hK _ _ ?_; clear hK K
  refine sq_ex rfl (fun K hK => ?_); apply Exists.intro; refine ⟨?_, ?_⟩; (focus (go_simp; try exact rfl)); go_simp; refine hK _ _ ?_; clear hK K
  refine sq_nil ?_
  refine H2 _ _ ?_
  clear H2 K2
  refine wp_ret ?_
  go_ret
  exact ⟨rfl, M0.below⟩

theorem dWeight (x : Nat) : Dt 41 #[.int .u64 x] (.bool (wt x)) := fun w => by
  by_cases h0 : x = 0
  · subst h0; exact Weight_nil 0 w
  · by_cases h1 : x ≤ 65535
    · rw [wt_yes (by omega) h1]; exact Weight_yes x w (by omega) h1
    · rw [wt_no (by omega)]; exact Weight_big x w (by omega) (by omega)

set_option maxRecDepth 100000 in
set_option maxHeartbeats 1000000 in
theorem right_any (n cap g : Nat) (cs : Array Value) (H L W : Nat → Nat) (w : World) (hn : (n : Int) ≤ 1000000000000000) (hg : Hid (IsR w g cs 60)) (hcell : Hid (∀ k, k < n → cs[3 * k]? = some (.int .u64 (H k)) ∧ cs[3 * k + 1]? = some (.int .u64 (L k)) ∧ cs[3 * k + 2]? = some (.int .u64 (W k)))) :
    Calls Try.prog 64 #[.slice (some ⟨g, 0, none⟩) n cap] w fun e w' => e = .returned (.bool (rightB n H W)) ∧ Below w.heap.size w w' := by
  have M0 := Has.start w
  go_enter Try.func64, Try.ntmps64
  refine wp_seq_k (fun K1 H1 => ?_)
  refine sq_region ?_
  refine sq_ex rfl (fun K hK => ?_); apply Exists.intro; refine ⟨?_, ?_⟩; (focus (go_simp; try exact rfl)); go_simp; refine hK _ _ ?_; clear hK K
  refine sq_nil ?_
  refine H1 _ _ ?_
  clear H1 K1
  refine wp_seq_k (fun K2 H2 => ?_)
  refine wp_seq_k (fun K3 H3 => ?_)
  refine sq_region ?_
  refine sq_ex rfl (fun K hK => ?_); apply Exists.intro; refine ⟨?_, ?_⟩; (focus (go_simp; try exact rfl)); go_simp; refine hK _ _ ?_; clear hK K
  refine sq_ex rfl (fun K hK => ?_); apply Exists.intro; refine ⟨?_, ?_⟩; (focus (go_simp; try exact rfl)); go_simp; refine hK _ _ ?_; clear hK K
  refine sq_ex rfl (fun K hK => ?_); apply Exists.intro; refine ⟨?_, ?_⟩; (focus (go_simp; try exact rfl)); go_simp; refine hK _ _ ?_; clear hK K
  refine sq_nil ?_
  refine H3 _ _ ?_
  clear H3 K3
  refine wp_block ?_
  go_loopw [7] (fun t wr => ∃ k : Nat, k ≤ n ∧ t = .int .i64 k ∧ Has w [] wr ∧ ∀ j, j < k → okF (H j) (W j) = true) (fun t _ => n - (intOf t).toNat)
  case atStart => exact ⟨0, Nat.zero_le _, rfl, M0, fun j hj => absurd hj (Nat.not_lt_zero _)⟩
  case round =>
    clear M0
    obtain ⟨k, hk, rfl, M, HK⟩ := hrel
    replace HK := Lib.hid HK
    by_cases hp : k < n
    ·
      have hpi : (k : Int) < n := by omega
      have HC : Hid (∀ j v, [Value.int .u64 (H k), .int .u64 (L k), .int .u64 (W k)][j]? = some v → cs[3 * k + j]? = some v) := Lib.hid (frac_cells (hcell.out k hp))
      have HWT := Lib.hid (dweight (W k))
      rcases okF_cases (H k) (W k) with ⟨e1, e2, e3⟩ | ⟨e1, e2⟩ | ⟨e1, e2, e3⟩
      ·
        rw [e1] at HWT
        have HOK := Lib.hid e3
        clear e1 e3
        refine wp_seq_k (fun K4 H4 => ?_)
        refine sq_region ?_
        refine sq_ex rfl (fun K hK => ?_); refine ⟨.bool true, ?_, ?_⟩; (focus (go_simp; try (first | omega | (simp; done) | (simp; omega)))); go_simp; refine hK _ _ ?_; clear hK K
        refine sq_nil ?_
        refine H4 _ _ ?_
        clear H4 K4
        refine wp_seq_k (fun K5 H5 => ?_)
        refine wp_cond_true rfl ?_
        refine wp_skip ?_
        refine H5 _ _ ?_
        clear H5 K5
        refine wp_seq_k (fun K6 H6 => ?_)
        refine wp_block ?_
        refine wp_seq_k (fun K7 H7 => ?_)
        refine sq_region ?_
        refine sq_ex rfl (fun K hK => ?_); refine ⟨.pointer (some ⟨g, 3 * k, none⟩), ?_, ?_⟩; (focus (go_simp; try (first | rfl | (congr; omega)))); go_simp; refine hK _ _ ?_; clear hK K
        refine sq_ex rfl (fun K hK => ?_); refine ⟨_, run_ldm [.int .u64 (H k), .int .u64 (L k), .int .u64 (W k)] rfl rfl (IsR.kept hg.out M.below) HC.out rfl Try.underlying60 frac_size, ?_⟩; go_simp; refine hK _ _ ?_; clear hK K
        refine sq_alloc rfl M (T := 60) (z := #[.int .u64 0, .int .u64 0, .int .u64 0]) (fun w' => by go_simp) (fun K hK => ?_)
        intro g4 w1 M1
        clear M
        go_simp; refine hK _ _ ?_; clear hK K
        refine sq_store rfl M1 0 rfl (run_st (cs := #[.int .u64 (H k), .int .u64 (L k), .int .u64 (W k)]) rfl rfl rfl frac_size rfl (by simp [Value.oneCell'])) (fun K hK => ?_)
        intro w2 M2
        clear M1
        go_simp; refine hK _ _ ?_; clear hK K
        refine sq_nil ?_
        refine H7 _ _ ?_
        clear H7 K7
        refine wp_seq_k (fun K8 H8 => ?_)
        refine sq_region ?_
        refine sq_ex rfl (fun K hK => ?_); apply Exists.intro; refine ⟨?_, ?_⟩; (focus (go_simp; try exact rfl)); go_simp; refine hK _ _ ?_; clear hK K
        refine sq_ex rfl (fun K hK => ?_); apply Exists.intro; refine ⟨?_, ?_⟩; (focus (have c := IsR.cell (M2.row 0 rfl); have f := IsR.froz (M2.row 0 rfl); go_simp; try exact rfl)); go_simp; refine hK _ _ ?_; clear hK K
        refine sq_call rfl (fun w' => by go_simp) (HWT.out _) (fun K hK => ?_)
        rintro e w3 ⟨rfl, hb⟩
        refine ⟨_, rfl, ?_⟩
        have M3 := M2.kept hb
        clear M2 hb
        go_simp; refine hK _ _ ?_; clear hK K
        refine sq_ex rfl (fun K hK => ?_); apply Exists.intro; refine ⟨?_, ?_⟩; (focus (go_simp; try exact rfl)); go_simp; refine hK _ _ ?_; clear hK K
        refine sq_ex rfl (fun K hK => ?_); apply Exists.intro; refine ⟨?_, ?_⟩; (focus (go_simp; try exact rfl)); go_simp; refine hK _ _ ?_; clear hK K
        refine sq_ex rfl (fun K hK => ?_); apply Exists.intro; refine ⟨?_, ?_⟩; (focus (go_simp; try exact rfl)); go_simp; refine hK _ _ ?_; clear hK K
        refine sq_ex rfl (fun K hK => ?_); apply Exists.intro; refine ⟨?_, ?_⟩; (focus (go_simp; try exact rfl)); go_simp; refine hK _ _ ?_; clear hK K
        refine sq_ex rfl (fun K hK => ?_); apply Exists.intro; refine ⟨?_, ?_⟩; (focus (have c := IsR.cell (M3.row 0 rfl); have f := IsR.froz (M3.row 0 rfl); go_simp; try exact rfl)); go_simp; refine hK _ _ ?_; clear hK K
        refine sq_ex rfl (fun K hK => ?_); refine ⟨.bool false, ?_, ?_⟩; (focus (go_simp; try (first | omega | (simp; done) | (simp; omega)))); go_simp; refine hK _ _ ?_; clear hK K
        refine sq_ex rfl (fun K hK => ?_); apply Exists.intro; refine ⟨?_, ?_⟩; (focus (go_simp; try exact rfl)); go_simp; refine hK _ _ ?_; clear hK K
        refine sq_nil ?_
        refine H8 _ _ ?_
        clear H8 K8
        refine wp_cond_false rfl ?_
        refine wp_skip ?_
        refine H6 _ _ ?_
        clear H6 K6
        refine sq_region ?_
        refine sq_ex rfl (fun K hK => ?_); refine ⟨.int .i64 ((k + 1 : Nat) : Int), ?_, ?_⟩; (focus (go_simp; first | exact i64_next k (by omega) | exact i64_next' k (by omega))); go_simp; refine hK _ _ ?_; clear hK K
        refine sq_ex rfl (fun K hK => ?_); apply Exists.intro; refine ⟨?_, ?_⟩; (focus (go_simp; try exact rfl)); go_simp; refine hK _ _ ?_; clear hK K
        refine sq_nil ?_
        refine ⟨?_, ?_⟩
        · (repeat apply Exists.intro); exact ⟨⟨k + 1, hp, by go_num, M3.sub (List.nil_sublist _), fun j hj => by rcases Nat.lt_succ_iff_lt_or_eq.1 hj with h | h; exact HK.out j h; (subst h; exact HOK.out)⟩, rfl⟩
        · simp [intOf]; omega
      ·
        rw [e1] at HWT
        have HOK := Lib.hid e2
        clear e1 e2
        refine wp_seq_k (fun K9 H9 => ?_)
        refine sq_region ?_
        refine sq_ex rfl (fun K hK => ?_); refine ⟨.bool true, ?_, ?_⟩; (focus (go_simp; try (first | omega | (simp; done) | (simp; omega)))); go_simp; refine hK _ _ ?_; clear hK K
        refine sq_nil ?_
        refine H9 _ _ ?_
        clear H9 K9
        refine wp_seq_k (fun K10 H10 => ?_)
        refine wp_cond_true rfl ?_
        refine wp_skip ?_
        refine H10 _ _ ?_
        clear H10 K10
        refine wp_seq_k (fun K11 H11 => ?_)
        refine wp_block ?_
        refine wp_seq_k (fun K12 H12 => ?_)
        refine sq_region ?_
        refine sq_ex rfl (fun K hK => ?_); refine ⟨.pointer (some ⟨g, 3 * k, none⟩), ?_, ?_⟩; (focus (go_simp; try (first | rfl | (congr; omega)))); go_simp; refine hK _ _ ?_; clear hK K
        refine sq_ex rfl (fun K hK => ?_); refine ⟨_, run_ldm [.int .u64 (H k), .int .u64 (L k), .int .u64 (W k)] rfl rfl (IsR.kept hg.out M.below) HC.out rfl Try.underlying60 frac_size, ?_⟩; go_simp; refine hK _ _ ?_; clear hK K
        refine sq_alloc rfl M (T := 60) (z := #[.int .u64 0, .int .u64 0, .int .u64 0]) (fun w' => by go_simp) (fun K hK => ?_)
        intro g4 w4 M4
        clear M
        go_simp; refine hK _ _ ?_; clear hK K
        refine sq_store rfl M4 0 rfl (run_st (cs := #[.int .u64 (H k), .int .u64 (L k), .int .u64 (W k)]) rfl rfl rfl frac_size rfl (by simp [Value.oneCell'])) (fun K hK => ?_)
        intro w5 M5
        clear M4
        go_simp; refine hK _ _ ?_; clear hK K
        refine sq_nil ?_
        refine H12 _ _ ?_
        clear H12 K12
        refine wp_seq_k (fun K13 H13 => ?_)
        refine sq_region ?_
        refine sq_ex rfl (fun K hK => ?_); apply Exists.intro; refine ⟨?_, ?_⟩; (focus (go_simp; try exact rfl)); go_simp; refine hK _ _ ?_; clear hK K
        refine sq_ex rfl (fun K hK => ?_); apply Exists.intro; refine ⟨?_, ?_⟩; (focus (have c := IsR.cell (M5.row 0 rfl); have f := IsR.froz (M5.row 0 rfl); go_simp; try exact rfl)); go_simp; refine hK _ _ ?_; clear hK K
        refine sq_call rfl (fun w' => by go_simp) (HWT.out _) (fun K hK => ?_)
        rintro e w6 ⟨rfl, hb⟩
        refine ⟨_, rfl, ?_⟩
        have M6 := M5.kept hb
        clear M5 hb
        go_simp; refine hK _ _ ?_; clear hK K
        refine sq_ex rfl (fun K hK => ?_); apply Exists.intro; refine ⟨?_, ?_⟩; (focus (go_simp; try exact rfl)); go_simp; refine hK _ _ ?_; clear hK K
        refine sq_ex rfl (fun K hK => ?_); apply Exists.intro; refine ⟨?_, ?_⟩; (focus (go_simp; try exact rfl)); go_simp; refine hK _ _ ?_; clear hK K
        refine sq_not rfl (fun K hK => ?_); go_simp; refine hK _ _ ?_; clear hK K
        refine sq_not rfl (fun K hK => ?_); go_simp; refine hK _ _ ?_; clear hK K
        refine sq_not rfl (fun K hK => ?_); go_simp; refine hK _ _ ?_; clear hK K
        refine sq_not rfl (fun K hK => ?_); go_simp; refine hK _ _ ?_; clear hK K
        refine sq_ex rfl (fun K hK => ?_); apply Exists.intro; refine ⟨?_, ?_⟩; (focus (go_simp; try exact rfl)); go_simp; refine hK _ _ ?_; clear hK K
        refine sq_nil ?_
        refine H13 _ _ ?_
        clear H13 K13
        refine wp_cond_true rfl ?_
        refine wp_seq_k (fun K14 H14 => ?_)
        refine sq_region ?_
        refine sq_ex rfl (fun K hK => ?_); apply Exists.intro; refine ⟨?_, ?_⟩; (focus (go_simp; try exact rfl)); go_simp; refine hK _ _ ?_; clear hK K
        refine sq_nil ?_
        refine H14 _ _ ?_
        clear H14 K14
        refine wp_ret ?_
        go_ret
        exact ⟨by rw [rightB_no (k := k) hp HOK.out]; rfl, M6.below⟩
      ·
        rw [e1] at HWT
        have HOK := Lib.hid e3
        clear e1 e3
        refine wp_seq_k (fun K15 H15 => ?_)
        refine sq_region ?_
        refine sq_ex rfl (fun K hK => ?_); refine ⟨.bool true, ?_, ?_⟩; (focus (go_simp; try (first | omega | (simp; done) | (simp; omega)))); go_simp; refine hK _ _ ?_; clear hK K
        refine sq_nil ?_
        refine H15 _ _ ?_
        clear H15 K15
        refine wp_seq_k (fun K16 H16 => ?_)
        refine wp_cond_true rfl ?_
        refine wp_skip ?_
        refine H16 _ _ ?_
        clear H16 K16
        refine wp_seq_k (fun K17 H17 => ?_)
        refine wp_block ?_
        refine wp_seq_k (fun K18 H18 => ?_)
        refine sq_region ?_
        refine sq_ex rfl (fun K hK => ?_); refine ⟨.pointer (some ⟨g, 3 * k, none⟩), ?_, ?_⟩; (focus (go_simp; try (first | rfl | (congr; omega)))); go_simp; refine hK _ _ ?_; clear hK K
        refine sq_ex rfl (fun K hK => ?_); refine ⟨_, run_ldm [.int .u64 (H k), .int .u64 (L k), .int .u64 (W k)] rfl rfl (IsR.kept hg.out M.below) HC.out rfl Try.underlying60 frac_size, ?_⟩; go_simp; refine hK _ _ ?_; clear hK K
        refine sq_alloc rfl M (T := 60) (z := #[.int .u64 0, .int .u64 0, .int .u64 0]) (fun w' => by go_simp) (fun K hK => ?_)
        intro g4 w7 M7
        clear M
        go_simp; refine hK _ _ ?_; clear hK K
        refine sq_store rfl M7 0 rfl (run_st (cs := #[.int .u64 (H k), .int .u64 (L k), .int .u64 (W k)]) rfl rfl rfl frac_size rfl (by simp [Value.oneCell'])) (fun K hK => ?_)
        intro w8 M8
        clear M7
        go_simp; refine hK _ _ ?_; clear hK K
        refine sq_nil ?_
        refine H18 _ _ ?_
        clear H18 K18
        refine wp_seq_k (fun K19 H19 => ?_)
        refine sq_region ?_
        refine sq_ex rfl (fun K hK => ?_); apply Exists.intro; refine ⟨?_, ?_⟩; (focus (go_simp; try exact rfl)); go_simp; refine hK _ _ ?_; clear hK K
        refine sq_ex rfl (fun K hK => ?_); apply Exists.intro; refine ⟨?_, ?_⟩; (focus (have c := IsR.cell (M8.row 0 rfl); have f := IsR.froz (M8.row 0 rfl); go_simp; try exact rfl)); go_simp; refine hK _ _ ?_; clear hK K
        refine sq_call rfl (fun w' => by go_simp) (HWT.out _) (fun K hK => ?_)
        rintro e w9 ⟨rfl, hb⟩
        refine ⟨_, rfl, ?_⟩
        have M9 := M8.kept hb
        clear M8 hb
        go_simp; refine hK _ _ ?_; clear hK K
        refine sq_ex rfl (fun K hK => ?_); apply Exists.intro; refine ⟨?_, ?_⟩; (focus (go_simp; try exact rfl)); go_simp; refine hK _ _ ?_; clear hK K
        refine sq_ex rfl (fun K hK => ?_); apply Exists.intro; refine ⟨?_, ?_⟩; (focus (go_simp; try exact rfl)); go_simp; refine hK _ _ ?_; clear hK K
        refine sq_ex rfl (fun K hK => ?_); apply Exists.intro; refine ⟨?_, ?_⟩; (focus (go_simp; try exact rfl)); go_simp; refine hK _ _ ?_; clear hK K
        refine sq_ex rfl (fun K hK => ?_); apply Exists.intro; refine ⟨?_, ?_⟩; (focus (go_simp; try exact rfl)); go_simp; refine hK _ _ ?_; clear hK K
        refine sq_ex rfl (fun K hK => ?_); apply Exists.intro; refine ⟨?_, ?_⟩; (focus (have c := IsR.cell (M9.row 0 rfl); have f := IsR.froz (M9.row 0 rfl); go_simp; try exact rfl)); go_simp; refine hK _ _ ?_; clear hK K
        refine sq_ex rfl (fun K hK => ?_); refine ⟨.bool true, ?_, ?_⟩; (focus (go_simp; try (first | omega | (simp; done) | (simp; omega)))); go_simp; refine hK _ _ ?_; clear hK K
        refine sq_ex rfl (fun K hK => ?_); apply Exists.intro; refine ⟨?_, ?_⟩; (focus (go_simp; try exact rfl)); go_simp; refine hK _ _ ?_; clear hK K
        refine sq_nil ?_
        refine H19 _ _ ?_
        clear H19 K19
        refine wp_cond_true rfl ?_
        refine wp_seq_k (fun K20 H20 => ?_)
        refine sq_region ?_
        refine sq_ex rfl (fun K hK => ?_); apply Exists.intro; refine ⟨?_, ?_⟩; (focus (go_simp; try exact rfl)); go_simp; refine hK _ _ ?_; clear hK K
        refine sq_nil ?_
        refine H20 _ _ ?_
        clear H20 K20
        refine wp_ret ?_
        go_ret
        exact ⟨by rw [rightB_no (k := k) hp HOK.out]; rfl, M9.below⟩
    ·
      have hpi : ¬ (k : Int) < n := by omega
      refine wp_seq_k (fun K21 H21 => ?_)
      refine sq_region ?_
      refine sq_ex rfl (fun K hK => ?_); refine ⟨.bool false, ?_, ?_⟩; (focus (go_simp; try (first | omega | (simp; done) | (simp; omega)))); go_simp; refine hK _ _ ?_; clear hK K
      refine sq_nil ?_
      refine H21 _ _ ?_
      clear H21 K21
      refine wp_seq_k (fun K22 H22 => ?_)
      refine wp_cond_false rfl ?_
      refine wp_exit ?_
      refine then_exit ?_
      clear H22 K22
      refine then_exit ?_
      refine exit_here ?_
      refine H2 _ _ ?_
      clear H2 K2
      refine wp_seq_k (fun K23 H23 => ?_)
      refine sq_region ?_
      refine sq_ex rfl (fun K hK => ?_); apply Exists.intro; refine ⟨?_, ?_⟩; (focus (go_simp; try exact rfl)); go_simp; refine hK _ _ ?_; clear hK K
      refine sq_nil ?_
      refine H23 _ _ ?_
      clear H23 K23
      refine wp_ret ?_
      go_ret
      exact ⟨by rw [rightB_yes fun j hj => HK.out j (by omega)]; rfl, M.below⟩

end Go.Proofs.Ytpjdojnbajoafaa
