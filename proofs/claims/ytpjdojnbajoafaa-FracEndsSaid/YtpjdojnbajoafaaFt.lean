/- frac.first, find, Most, Least: their walks. -/
import Derived.Test.YtpjdojnbajoafaaFd
namespace Go.Proofs.Ytpjdojnbajoafaa
open Go Go.RowKit
theorem val_size : (Try.prog.info? 93).map (·.size) = some 3 := by kernel_rfl
/-- The place of the first that none of k is ahead of. -/
def bst (ah : Nat → Nat → Bool) : Nat → Nat
  | 0 => 0
  | k + 1 => if ah k (bst ah k) then k else bst ah k
theorem bst_succ (ah : Nat → Nat → Bool) (k : Nat) : bst ah (k + 1) = if ah k (bst ah k) then k else bst ah k := rfl
theorem bst_le (ah : Nat → Nat → Bool) : ∀ k, bst ah k ≤ k - 1
  | 0 => Nat.le_refl _
  | k + 1 => by
    have := bst_le ah k
    rw [bst_succ]; split <;> omega
theorem bst_lt (ah : Nat → Nat → Bool) {k n : Nat} (h : k < n) : bst ah k < n := by have := bst_le ah k; omega

set_option maxRecDepth 100000 in
set_option maxHeartbeats 1000000 in
theorem find1_w (h l x : Nat) (w : World)
    : Calls Try.prog 73 #[fv h l x] w fun e w' => e = .returned (fv h l x) ∧ Below w.heap.size w w' := by
  have M0 := Has.start w
  go_enter Try.func73, Try.ntmps73
  refine wp_seq_k (fun K1 H1 => ?_)
  refine sq_region ?_
  refine sq_alloc rfl M0 (T := 60) (z := #[.int .u64 h, .int .u64 l, .int .u64 x]) (fun w' => by go_simp) (fun K hK => ?_)
  intro g1 w1 M1
  clear M0
  go_simp; refine hK _ _ ?_; clear hK K
  refine sq_alloc rfl M1 (T := 93) (z := #[.int .u64 0, .int .u64 0, .int .u64 0]) (fun w' => by go_simp) (fun K hK => ?_)
  intro g2 w2 M2
  clear M1
  go_simp; refine hK _ _ ?_; clear hK K
  refine sq_nil ?_
  refine H1 _ _ ?_
  clear H1 K1
  refine wp_seq_k (fun K2 H2 => ?_)
  refine sq_region ?_
  refine sq_ex rfl (fun K hK => ?_); refine ⟨_, run_ld rfl rfl (M2.row 0 rfl) rfl Try.underlying60 frac_size, ?_⟩; go_simp; refine hK _ _ ?_; clear hK K
  refine sq_store rfl M2 1 rfl (run_st (cs := #[.int .u64 h, .int .u64 l, .int .u64 x]) rfl rfl rfl val_size rfl (by simp [Value.oneCell'])) (fun K hK => ?_)
  intro w3 M3
  clear M2
  go_simp; refine hK _ _ ?_; clear hK K
  refine sq_nil ?_
  refine H2 _ _ ?_
  clear H2 K2
  refine wp_ret ?_
  refine ret_row Try.results73 rfl (M3.row 1 rfl) Try.underlying93 rfl val_size ⟨rfl, M3.below⟩

set_option maxRecDepth 100000 in
set_option maxHeartbeats 1000000 in
theorem above_true (h l x H L X : Nat) (w : World)
    (s : Int)
    (HC : Hid (Dt 42 #[fv h l x, fv H L X] (.int .i64 s)))
    (hs : 0 < s)
    : Calls Try.prog 62 #[fv h l x, fv H L X] w fun e w' => e = .returned (.bool true) ∧ Below w.heap.size w w' := by
  have M0 := Has.start w
  go_enter Try.func62, Try.ntmps62
  refine wp_seq_k (fun K1 H1 => ?_)
  refine sq_region ?_
  refine sq_alloc rfl M0 (T := 93) (z := #[.int .u64 h, .int .u64 l, .int .u64 x]) (fun w' => by go_simp) (fun K hK => ?_)
  intro g2 w1 M1
  clear M0
  go_simp; refine hK _ _ ?_; clear hK K
  refine sq_alloc rfl M1 (T := 93) (z := #[.int .u64 H, .int .u64 L, .int .u64 X]) (fun w' => by go_simp) (fun K hK => ?_)
  intro g3 w2 M2
  clear M1
  go_simp; refine hK _ _ ?_; clear hK K
  refine sq_ex rfl (fun K hK => ?_); apply Exists.intro; refine ⟨?_, ?_⟩; (focus (go_simp; try exact rfl)); go_simp; refine hK _ _ ?_; clear hK K
  refine sq_nil ?_
  refine H1 _ _ ?_
  clear H1 K1
  refine wp_seq_k (fun K2 H2 => ?_)
  refine sq_region ?_
  refine sq_ex rfl (fun K hK => ?_); refine ⟨_, run_ld rfl rfl (M2.row 0 rfl) rfl Try.underlying93 val_size, ?_⟩; go_simp; refine hK _ _ ?_; clear hK K
  refine sq_ex rfl (fun K hK => ?_); refine ⟨_, run_ld rfl rfl (M2.row 1 rfl) rfl Try.underlying93 val_size, ?_⟩; go_simp; refine hK _ _ ?_; clear hK K
  refine sq_call rfl (fun w' => by go_simp) (HC.out _) (fun K hK => ?_)
  rintro e w3 ⟨rfl, hb⟩
  refine ⟨_, rfl, ?_⟩
  have M3 := M2.kept hb
  clear M2 hb
  go_simp; refine hK _ _ ?_; clear hK K
  refine sq_ex rfl (fun K hK => ?_); refine ⟨.bool true, ?_, ?_⟩; (focus (go_simp; try (first | omega | (simp; done) | (simp; omega)))); go_simp; refine hK _ _ ?_; clear hK K
  refine sq_ex rfl (fun K hK => ?_); apply Exists.intro; refine ⟨?_, ?_⟩; (focus (go_simp; try exact rfl)); go_simp; refine hK _ _ ?_; clear hK K
  refine sq_nil ?_
  refine H2 _ _ ?_
  clear H2 K2
  refine wp_ret ?_
  go_ret
  exact ⟨rfl, M3.below⟩

set_option maxRecDepth 100000 in
set_option maxHeartbeats 1000000 in
theorem above_false (h l x H L X : Nat) (w : World)
    (s : Int)
    (HC : Hid (Dt 42 #[fv h l x, fv H L X] (.int .i64 s)))
    (hs : ¬ 0 < s)
    : Calls Try.prog 62 #[fv h l x, fv H L X] w fun e w' => e = .returned (.bool false) ∧ Below w.heap.size w w' := by
  have M0 := Has.start w
  go_enter Try.func62, Try.ntmps62
  refine wp_seq_k (fun K1 H1 => ?_)
  refine sq_region ?_
  refine sq_alloc rfl M0 (T := 93) (z := #[.int .u64 h, .int .u64 l, .int .u64 x]) (fun w' => by go_simp) (fun K hK => ?_)
  intro g2 w1 M1
  clear M0
  go_simp; refine hK _ _ ?_; clear hK K
  refine sq_alloc rfl M1 (T := 93) (z := #[.int .u64 H, .int .u64 L, .int .u64 X]) (fun w' => by go_simp) (fun K hK => ?_)
  intro g3 w2 M2
  clear M1
  go_simp; refine hK _ _ ?_; clear hK K
  refine sq_ex rfl (fun K hK => ?_); apply Exists.intro; refine ⟨?_, ?_⟩; (focus (go_simp; try exact rfl)); go_simp; refine hK _ _ ?_; clear hK K
  refine sq_nil ?_
  refine H1 _ _ ?_
  clear H1 K1
  refine wp_seq_k (fun K2 H2 => ?_)
  refine sq_region ?_
  refine sq_ex rfl (fun K hK => ?_); refine ⟨_, run_ld rfl rfl (M2.row 0 rfl) rfl Try.underlying93 val_size, ?_⟩; go_simp; refine hK _ _ ?_; clear hK K
  refine sq_ex rfl (fun K hK => ?_); refine ⟨_, run_ld rfl rfl (M2.row 1 rfl) rfl Try.underlying93 val_size, ?_⟩; go_simp; refine hK _ _ ?_; clear hK K
  refine sq_call rfl (fun w' => by go_simp) (HC.out _) (fun K hK => ?_)
  rintro e w3 ⟨rfl, hb⟩
  refine ⟨_, rfl, ?_⟩
  have M3 := M2.kept hb
  clear M2 hb
  go_simp; refine hK _ _ ?_; clear hK K
  refine sq_ex rfl (fun K hK => ?_); refine ⟨.bool false, ?_, ?_⟩; (focus (go_simp; try (first | omega | (simp; done) | (simp; omega)))); go_simp; refine hK _ _ ?_; clear hK K
  refine sq_ex rfl (fun K hK => ?_); apply Exists.intro; refine ⟨?_, ?_⟩; (focus (go_simp; try exact rfl)); go_simp; refine hK _ _ ?_; clear hK K
  refine sq_nil ?_
  refine H2 _ _ ?_
  clear H2 K2
  refine wp_ret ?_
  go_ret
  exact ⟨rfl, M3.below⟩

set_option maxRecDepth 100000 in
set_option maxHeartbeats 1000000 in
theorem below_true (h l x H L X : Nat) (w : World)
    (s : Int)
    (HC : Hid (Dt 42 #[fv h l x, fv H L X] (.int .i64 s)))
    (hs : s < 0)
    : Calls Try.prog 63 #[fv h l x, fv H L X] w fun e w' => e = .returned (.bool true) ∧ Below w.heap.size w w' := by
  have M0 := Has.start w
  go_enter Try.func63, Try.ntmps63
  refine wp_seq_k (fun K1 H1 => ?_)
  refine sq_region ?_
  refine sq_alloc rfl M0 (T := 93) (z := #[.int .u64 h, .int .u64 l, .int .u64 x]) (fun w' => by go_simp) (fun K hK => ?_)
  intro g2 w1 M1
  clear M0
  go_simp; refine hK _ _ ?_; clear hK K
  refine sq_alloc rfl M1 (T := 93) (z := #[.int .u64 H, .int .u64 L, .int .u64 X]) (fun w' => by go_simp) (fun K hK => ?_)
  intro g3 w2 M2
  clear M1
  go_simp; refine hK _ _ ?_; clear hK K
  refine sq_ex rfl (fun K hK => ?_); apply Exists.intro; refine ⟨?_, ?_⟩; (focus (go_simp; try exact rfl)); go_simp; refine hK _ _ ?_; clear hK K
  refine sq_nil ?_
  refine H1 _ _ ?_
  clear H1 K1
  refine wp_seq_k (fun K2 H2 => ?_)
  refine sq_region ?_
  refine sq_ex rfl (fun K hK => ?_); refine ⟨_, run_ld rfl rfl (M2.row 0 rfl) rfl Try.underlying93 val_size, ?_⟩; go_simp; refine hK _ _ ?_; clear hK K
  refine sq_ex rfl (fun K hK => ?_); refine ⟨_, run_ld rfl rfl (M2.row 1 rfl) rfl Try.underlying93 val_size, ?_⟩; go_simp; refine hK _ _ ?_; clear hK K
  refine sq_call rfl (fun w' => by go_simp) (HC.out _) (fun K hK => ?_)
  rintro e w3 ⟨rfl, hb⟩
  refine ⟨_, rfl, ?_⟩
  have M3 := M2.kept hb
  clear M2 hb
  go_simp; refine hK _ _ ?_; clear hK K
  refine sq_ex rfl (fun K hK => ?_); refine ⟨.bool true, ?_, ?_⟩; (focus (go_simp; try (first | omega | (simp; done) | (simp; omega)))); go_simp; refine hK _ _ ?_; clear hK K
  refine sq_ex rfl (fun K hK => ?_); apply Exists.intro; refine ⟨?_, ?_⟩; (focus (go_simp; try exact rfl)); go_simp; refine hK _ _ ?_; clear hK K
  refine sq_nil ?_
  refine H2 _ _ ?_
  clear H2 K2
  refine wp_ret ?_
  go_ret
  exact ⟨rfl, M3.below⟩

set_option maxRecDepth 100000 in
set_option maxHeartbeats 1000000 in
theorem below_false (h l x H L X : Nat) (w : World)
    (s : Int)
    (HC : Hid (Dt 42 #[fv h l x, fv H L X] (.int .i64 s)))
    (hs : ¬ s < 0)
    : Calls Try.prog 63 #[fv h l x, fv H L X] w fun e w' => e = .returned (.bool false) ∧ Below w.heap.size w w' := by
  have M0 := Has.start w
  go_enter Try.func63, Try.ntmps63
  refine wp_seq_k (fun K1 H1 => ?_)
  refine sq_region ?_
  refine sq_alloc rfl M0 (T := 93) (z := #[.int .u64 h, .int .u64 l, .int .u64 x]) (fun w' => by go_simp) (fun K hK => ?_)
  intro g2 w1 M1
  clear M0
  go_simp; refine hK _ _ ?_; clear hK K
  refine sq_alloc rfl M1 (T := 93) (z := #[.int .u64 H, .int .u64 L, .int .u64 X]) (fun w' => by go_simp) (fun K hK => ?_)
  intro g3 w2 M2
  clear M1
  go_simp; refine hK _ _ ?_; clear hK K
  refine sq_ex rfl (fun K hK => ?_); apply Exists.intro; refine ⟨?_, ?_⟩; (focus (go_simp; try exact rfl)); go_simp; refine hK _ _ ?_; clear hK K
  refine sq_nil ?_
  refine H1 _ _ ?_
  clear H1 K1
  refine wp_seq_k (fun K2 H2 => ?_)
  refine sq_region ?_
  refine sq_ex rfl (fun K hK => ?_); refine ⟨_, run_ld rfl rfl (M2.row 0 rfl) rfl Try.underlying93 val_size, ?_⟩; go_simp; refine hK _ _ ?_; clear hK K
  refine sq_ex rfl (fun K hK => ?_); refine ⟨_, run_ld rfl rfl (M2.row 1 rfl) rfl Try.underlying93 val_size, ?_⟩; go_simp; refine hK _ _ ?_; clear hK K
  refine sq_call rfl (fun w' => by go_simp) (HC.out _) (fun K hK => ?_)
  rintro e w3 ⟨rfl, hb⟩
  refine ⟨_, rfl, ?_⟩
  have M3 := M2.kept hb
  clear M2 hb
  go_simp; refine hK _ _ ?_; clear hK K
  refine sq_ex rfl (fun K hK => ?_); refine ⟨.bool false, ?_, ?_⟩; (focus (go_simp; try (first | omega | (simp; done) | (simp; omega)))); go_simp; refine hK _ _ ?_; clear hK K
  refine sq_ex rfl (fun K hK => ?_); apply Exists.intro; refine ⟨?_, ?_⟩; (focus (go_simp; try exact rfl)); go_simp; refine hK _ _ ?_; clear hK K
  refine sq_nil ?_
  refine H2 _ _ ?_
  clear H2 K2
  refine wp_ret ?_
  go_ret
  exact ⟨rfl, M3.below⟩

set_option maxRecDepth 100000 in
set_option maxHeartbeats 1000000 in
theorem first_above (n cap g : Nat) (cs : Array Value) (H L W : Nat → Nat) (ah : Nat → Nat → Bool) (w : World) (hn : (n : Int) ≤ 1000000000000000) (hg : Hid (IsR w g cs 60)) (hcell : Hid (∀ k, k < n → cs[3 * k]? = some (.int .u64 (H k)) ∧ cs[3 * k + 1]? = some (.int .u64 (L k)) ∧ cs[3 * k + 2]? = some (.int .u64 (W k))))
    (hah : Hid (∀ k j, k < n → j < n → Dt 62 #[fv (H k) (L k) (W k), fv (H j) (L j) (W j)] (.bool (ah k j)))) :
    Calls Try.prog 72 #[.slice (some ⟨g, 0, none⟩) n cap, .func (.func 73) #[] #[], .func (.func 62) #[] #[]] w fun e w' => e = .returned (.int .i64 (bst ah n : Nat)) ∧ Below w.heap.size w w' := by
  have M0 := Has.start w
  go_enter Try.func72, Try.ntmps72
  refine wp_seq_k (fun K1 H1 => ?_)
  refine sq_region ?_
  refine sq_ex rfl (fun K hK => ?_); apply Exists.intro; refine ⟨?_, ?_⟩; (focus (go_simp; try exact rfl)); go_simp; refine hK _ _ ?_; clear hK K
  refine sq_nil ?_
  refine H1 _ _ ?_
  clear H1 K1
  refine wp_seq_k (fun K2 H2 => ?_)
  refine sq_region ?_
  refine sq_ex rfl (fun K hK => ?_); apply Exists.intro; refine ⟨?_, ?_⟩; (focus (go_simp; try exact rfl)); go_simp; refine hK _ _ ?_; clear hK K
  refine sq_nil ?_
  refine H2 _ _ ?_
  clear H2 K2
  refine wp_seq_k (fun K3 H3 => ?_)
  refine wp_seq_k (fun K4 H4 => ?_)
  refine sq_region ?_
  refine sq_ex rfl (fun K hK => ?_); apply Exists.intro; refine ⟨?_, ?_⟩; (focus (go_simp; try exact rfl)); go_simp; refine hK _ _ ?_; clear hK K
  refine sq_ex rfl (fun K hK => ?_); apply Exists.intro; refine ⟨?_, ?_⟩; (focus (go_simp; try exact rfl)); go_simp; refine hK _ _ ?_; clear hK K
  refine sq_ex rfl (fun K hK => ?_); apply Exists.intro; refine ⟨?_, ?_⟩; (focus (go_simp; try exact rfl)); go_simp; refine hK _ _ ?_; clear hK K
  refine sq_nil ?_
  refine H4 _ _ ?_
  clear H4 K4
  refine wp_block ?_
  go_loopw [7, 12] (fun b t wr => ∃ k : Nat, k ≤ n ∧ t = .int .i64 k ∧ b = .int .i64 (bst ah k : Nat) ∧ Has w [] wr) (fun _ t _ => n - (intOf t).toNat)
  case atStart => exact ⟨0, Nat.zero_le _, rfl, rfl, M0⟩
  case round =>
    clear M0
    obtain ⟨k, hk, rfl, rfl, M⟩ := hrel
    by_cases hp : k < n
    ·
      have hpi : (k : Int) < n := by omega
      obtain ⟨j, hj⟩ : ∃ j, j = bst ah k := ⟨_, rfl⟩
      have hjn : j < n := by rw [hj]; exact bst_lt ah hp
      have hji : (j : Int) < n := by omega
      have HCk : Hid (∀ i v, [Value.int .u64 (H k), .int .u64 (L k), .int .u64 (W k)][i]? = some v → cs[3 * k + i]? = some v) := Lib.hid (frac_cells (hcell.out k hp))
      have HCj : Hid (∀ i v, [Value.int .u64 (H j), .int .u64 (L j), .int .u64 (W j)][i]? = some v → cs[3 * j + i]? = some v) := Lib.hid (frac_cells (hcell.out j hjn))
      have HAH := Lib.hid (hah.out k j hp hjn)
      have HS := Lib.hid (bst_succ ah k)
      rw [← hj] at HS ⊢
      clear hj
      rcases hz : ah k j with _ | _
      ·
        rw [hz] at HAH HS
        clear hz
        refine wp_seq_k (fun K5 H5 => ?_)
        refine sq_region ?_
        refine sq_ex rfl (fun K hK => ?_); refine ⟨.bool true, ?_, ?_⟩; (focus (go_simp; try (first | omega | (simp; done) | (simp; omega)))); go_simp; refine hK _ _ ?_; clear hK K
        refine sq_nil ?_
        refine H5 _ _ ?_
        clear H5 K5
        refine wp_seq_k (fun K6 H6 => ?_)
        refine wp_cond_true rfl ?_
        refine wp_skip ?_
        refine H6 _ _ ?_
        clear H6 K6
        refine wp_seq_k (fun K7 H7 => ?_)
        refine wp_block ?_
        refine wp_seq_k (fun K8 H8 => ?_)
        refine sq_region ?_
        refine sq_ex rfl (fun K hK => ?_); apply Exists.intro; refine ⟨?_, ?_⟩; (focus (go_simp; try exact rfl)); go_simp; refine hK _ _ ?_; clear hK K
        refine sq_ex rfl (fun K hK => ?_); refine ⟨.pointer (some ⟨g, 3 * k, none⟩), ?_, ?_⟩; (focus (go_simp; try (first | rfl | (congr; omega)))); go_simp; refine hK _ _ ?_; clear hK K
        refine sq_ex rfl (fun K hK => ?_); refine ⟨_, run_ldm [.int .u64 (H k), .int .u64 (L k), .int .u64 (W k)] rfl rfl (IsR.kept hg.out M.below) HCk.out rfl Try.underlying60 frac_size, ?_⟩; go_simp; refine hK _ _ ?_; clear hK K
        refine sq_alloc rfl M (T := 60) (z := #[.int .u64 0, .int .u64 0, .int .u64 0]) (fun w' => by go_simp) (fun K hK => ?_)
        intro g9 w1 M1
        clear M
        go_simp; refine hK _ _ ?_; clear hK K
        refine sq_ex rfl (fun K hK => ?_); apply Exists.intro; refine ⟨?_, ?_⟩; (focus (go_simp; try exact rfl)); go_simp; refine hK _ _ ?_; clear hK K
        refine sq_store rfl M1 0 rfl (run_st (cs := #[.int .u64 (H k), .int .u64 (L k), .int .u64 (W k)]) rfl rfl rfl frac_size rfl (by simp [Value.oneCell'])) (fun K hK => ?_)
        intro w2 M2
        clear M1
        go_simp; refine hK _ _ ?_; clear hK K
        refine sq_nil ?_
        refine H8 _ _ ?_
        clear H8 K8
        refine wp_seq_k (fun K9 H9 => ?_)
        refine wp_region_rows (L := [(g9, #[.int .u64 (H k), .int .u64 (L k), .int .u64 (W k)], 60)]) [] [(3, fun v => v = fv (H k) (L k) (W k)), (9, fun v => v = fv (H j) (L j) (W j)), (10, fun v => v = .bool false)] M2 (by kernel_rfl) (by kernel_rfl) (by kernel_rfl) (by kernel_rfl) ?_
        refine rs_ex rfl rfl rfl rfl rfl ⟨_, M2⟩ (fun K hK => ?_); apply Exists.intro; refine ⟨fun w' hw => ?_, ?_⟩; (focus (go_simp; try exact rfl)); go_simp; refine hK _ ?_; clear hK K
        refine rs_ex rfl rfl rfl rfl rfl ⟨_, M2⟩ (fun K hK => ?_); apply Exists.intro; refine ⟨fun w' hw => ?_, ?_⟩; (focus (go_simp; try exact rfl)); go_simp; refine hK _ ?_; clear hK K
        refine rs_ex rfl rfl rfl rfl rfl ⟨_, M2⟩ (fun K hK => ?_); refine ⟨_, fun w' hw => run_ld rfl rfl (hw.row 0 rfl) rfl Try.underlying60 frac_size, ?_⟩; go_simp; refine hK _ ?_; clear hK K
        refine rs_call rfl rfl (fun v => v = fv (H k) (L k) (W k)) rfl rfl ⟨_, rfl⟩ (fun w' => by go_simp) (fun w' hw => (find1_w _ _ _ w').mono fun e w'' hh => ⟨_, hh.1, rfl, hh.2⟩) (fun K hK => ?_); rintro _ rfl; go_simp; refine hK _ ?_; clear hK K
        refine rs_ex rfl rfl rfl rfl rfl ⟨_, M2⟩ (fun K hK => ?_); apply Exists.intro; refine ⟨fun w' hw => ?_, ?_⟩; (focus (go_simp; try exact rfl)); go_simp; refine hK _ ?_; clear hK K
        refine rs_ex rfl rfl rfl rfl rfl ⟨_, M2⟩ (fun K hK => ?_); apply Exists.intro; refine ⟨fun w' hw => ?_, ?_⟩; (focus (go_simp; try exact rfl)); go_simp; refine hK _ ?_; clear hK K
        refine rs_ex rfl rfl rfl rfl rfl ⟨_, M2⟩ (fun K hK => ?_); apply Exists.intro; refine ⟨fun w' hw => ?_, ?_⟩; (focus (go_simp; try exact rfl)); go_simp; refine hK _ ?_; clear hK K
        refine rs_ex rfl rfl rfl rfl rfl ⟨_, M2⟩ (fun K hK => ?_); refine ⟨.pointer (some ⟨g, 3 * j, none⟩), fun w' hw => ?_, ?_⟩; (focus (go_simp; try (first | rfl | (congr; omega)))); go_simp; refine hK _ ?_; clear hK K
        refine rs_ex rfl rfl rfl rfl rfl ⟨_, M2⟩ (fun K hK => ?_); refine ⟨_, fun w' hw => run_ldm [.int .u64 (H j), .int .u64 (L j), .int .u64 (W j)] rfl rfl (IsR.kept hg.out hw.below) HCj.out rfl Try.underlying60 frac_size, ?_⟩; go_simp; refine hK _ ?_; clear hK K
        refine rs_call rfl rfl (fun v => v = fv (H j) (L j) (W j)) rfl rfl ⟨_, rfl⟩ (fun w' => by go_simp) (fun w' hw => (find1_w _ _ _ w').mono fun e w'' hh => ⟨_, hh.1, rfl, hh.2⟩) (fun K hK => ?_); rintro _ rfl; go_simp; refine hK _ ?_; clear hK K
        refine rs_call rfl rfl (fun v => v = .bool false) rfl rfl ⟨_, rfl⟩ (fun w' => by go_simp) (fun w' hw => (HAH.out w').mono fun e w'' hh => ⟨_, hh.1, rfl, hh.2⟩) (fun K hK => ?_); rintro _ rfl; go_simp; refine hK _ ?_; clear hK K
        refine rs_nil ?_
        intro w3 M
        have M3 : Has w [(g9, #[.int .u64 (H k), .int .u64 (L k), .int .u64 (W k)], 60)] w3 := M
        clear M2 M
        refine H9 _ _ ?_
        clear H9 K9
        refine wp_cond_false rfl ?_
        refine wp_skip ?_
        refine H7 _ _ ?_
        clear H7 K7
        refine sq_region ?_
        refine sq_ex rfl (fun K hK => ?_); refine ⟨.int .i64 ((k + 1 : Nat) : Int), ?_, ?_⟩; (focus (go_simp; first | exact i64_next k (by omega) | exact i64_next' k (by omega))); go_simp; refine hK _ _ ?_; clear hK K
        refine sq_ex rfl (fun K hK => ?_); apply Exists.intro; refine ⟨?_, ?_⟩; (focus (go_simp; try exact rfl)); go_simp; refine hK _ _ ?_; clear hK K
        refine sq_nil ?_
        refine ⟨?_, ?_⟩
        · (repeat apply Exists.intro); exact ⟨⟨k + 1, hp, by go_num, by rw [HS.out]; rfl, M3.sub (List.nil_sublist _)⟩, rfl⟩
        · simp [intOf]; omega
      ·
        rw [hz] at HAH HS
        clear hz
        refine wp_seq_k (fun K10 H10 => ?_)
        refine sq_region ?_
        refine sq_ex rfl (fun K hK => ?_); refine ⟨.bool true, ?_, ?_⟩; (focus (go_simp; try (first | omega | (simp; done) | (simp; omega)))); go_simp; refine hK _ _ ?_; clear hK K
        refine sq_nil ?_
        refine H10 _ _ ?_
        clear H10 K10
        refine wp_seq_k (fun K11 H11 => ?_)
        refine wp_cond_true rfl ?_
        refine wp_skip ?_
        refine H11 _ _ ?_
        clear H11 K11
        refine wp_seq_k (fun K12 H12 => ?_)
        refine wp_block ?_
        refine wp_seq_k (fun K13 H13 => ?_)
        refine sq_region ?_
        refine sq_ex rfl (fun K hK => ?_); apply Exists.intro; refine ⟨?_, ?_⟩; (focus (go_simp; try exact rfl)); go_simp; refine hK _ _ ?_; clear hK K
        refine sq_ex rfl (fun K hK => ?_); refine ⟨.pointer (some ⟨g, 3 * k, none⟩), ?_, ?_⟩; (focus (go_simp; try (first | rfl | (congr; omega)))); go_simp; refine hK _ _ ?_; clear hK K
        refine sq_ex rfl (fun K hK => ?_); refine ⟨_, run_ldm [.int .u64 (H k), .int .u64 (L k), .int .u64 (W k)] rfl rfl (IsR.kept hg.out M.below) HCk.out rfl Try.underlying60 frac_size, ?_⟩; go_simp; refine hK _ _ ?_; clear hK K
        refine sq_alloc rfl M (T := 60) (z := #[.int .u64 0, .int .u64 0, .int .u64 0]) (fun w' => by go_simp) (fun K hK => ?_)
        intro g9 w4 M4
        clear M
        go_simp; refine hK _ _ ?_; clear hK K
        refine sq_ex rfl (fun K hK => ?_); apply Exists.intro; refine ⟨?_, ?_⟩; (focus (go_simp; try exact rfl)); go_simp; refine hK _ _ ?_; clear hK K
        refine sq_store rfl M4 0 rfl (run_st (cs := #[.int .u64 (H k), .int .u64 (L k), .int .u64 (W k)]) rfl rfl rfl frac_size rfl (by simp [Value.oneCell'])) (fun K hK => ?_)
        intro w5 M5
        clear M4
        go_simp; refine hK _ _ ?_; clear hK K
        refine sq_nil ?_
        refine H13 _ _ ?_
        clear H13 K13
        refine wp_seq_k (fun K14 H14 => ?_)
        refine wp_region_rows (L := [(g9, #[.int .u64 (H k), .int .u64 (L k), .int .u64 (W k)], 60)]) [] [(3, fun v => v = fv (H k) (L k) (W k)), (9, fun v => v = fv (H j) (L j) (W j)), (10, fun v => v = .bool true)] M5 (by kernel_rfl) (by kernel_rfl) (by kernel_rfl) (by kernel_rfl) ?_
        refine rs_ex rfl rfl rfl rfl rfl ⟨_, M5⟩ (fun K hK => ?_); apply Exists.intro; refine ⟨fun w' hw => ?_, ?_⟩; (focus (go_simp; try exact rfl)); go_simp; refine hK _ ?_; clear hK K
        refine rs_ex rfl rfl rfl rfl rfl ⟨_, M5⟩ (fun K hK => ?_); apply Exists.intro; refine ⟨fun w' hw => ?_, ?_⟩; (focus (go_simp; try exact rfl)); go_simp; refine hK _ ?_; clear hK K
        refine rs_ex rfl rfl rfl rfl rfl ⟨_, M5⟩ (fun K hK => ?_); refine ⟨_, fun w' hw => run_ld rfl rfl (hw.row 0 rfl) rfl Try.underlying60 frac_size, ?_⟩; go_simp; refine hK _ ?_; clear hK K
        refine rs_call rfl rfl (fun v => v = fv (H k) (L k) (W k)) rfl rfl ⟨_, rfl⟩ (fun w' => by go_simp) (fun w' hw => (find1_w _ _ _ w').mono fun e w'' hh => ⟨_, hh.1, rfl, hh.2⟩) (fun K hK => ?_); rintro _ rfl; go_simp; refine hK _ ?_; clear hK K
        refine rs_ex rfl rfl rfl rfl rfl ⟨_, M5⟩ (fun K hK => ?_); apply Exists.intro; refine ⟨fun w' hw => ?_, ?_⟩; (focus (go_simp; try exact rfl)); go_simp; refine hK _ ?_; clear hK K
        refine rs_ex rfl rfl rfl rfl rfl ⟨_, M5⟩ (fun K hK => ?_); apply Exists.intro; refine ⟨fun w' hw => ?_, ?_⟩; (focus (go_simp; try exact rfl)); go_simp; refine hK _ ?_; clear hK K
        refine rs_ex rfl rfl rfl rfl rfl ⟨_, M5⟩ (fun K hK => ?_); apply Exists.intro; refine ⟨fun w' hw => ?_, ?_⟩; (focus (go_simp; try exact rfl)); go_simp; refine hK _ ?_; clear hK K
        refine rs_ex rfl rfl rfl rfl rfl ⟨_, M5⟩ (fun K hK => ?_); refine ⟨.pointer (some ⟨g, 3 * j, none⟩), fun w' hw => ?_, ?_⟩; (focus (go_simp; try (first | rfl | (congr; omega)))); go_simp; refine hK _ ?_; clear hK K
        refine rs_ex rfl rfl rfl rfl rfl ⟨_, M5⟩ (fun K hK => ?_); refine ⟨_, fun w' hw => run_ldm [.int .u64 (H j), .int .u64 (L j), .int .u64 (W j)] rfl rfl (IsR.kept hg.out hw.below) HCj.out rfl Try.underlying60 frac_size, ?_⟩; go_simp; refine hK _ ?_; clear hK K
        refine rs_call rfl rfl (fun v => v = fv (H j) (L j) (W j)) rfl rfl ⟨_, rfl⟩ (fun w' => by go_simp) (fun w' hw => (find1_w _ _ _ w').mono fun e w'' hh => ⟨_, hh.1, rfl, hh.2⟩) (fun K hK => ?_); rintro _ rfl; go_simp; refine hK _ ?_; clear hK K
        refine rs_call rfl rfl (fun v => v = .bool true) rfl rfl ⟨_, rfl⟩ (fun w' => by go_simp) (fun w' hw => (HAH.out w').mono fun e w'' hh => ⟨_, hh.1, rfl, hh.2⟩) (fun K hK => ?_); rintro _ rfl; go_simp; refine hK _ ?_; clear hK K
        refine rs_nil ?_
        intro w6 M
        have M6 : Has w [(g9, #[.int .u64 (H k), .int .u64 (L k), .int .u64 (W k)], 60)] w6 := M
        clear M5 M
        refine H14 _ _ ?_
        clear H14 K14
        refine wp_cond_true rfl ?_
        refine sq_region ?_
        refine sq_ex rfl (fun K hK => ?_); apply Exists.intro; refine ⟨?_, ?_⟩; (focus (go_simp; try exact rfl)); go_simp; refine hK _ _ ?_; clear hK K
        refine sq_ex rfl (fun K hK => ?_); apply Exists.intro; refine ⟨?_, ?_⟩; (focus (go_simp; try exact rfl)); go_simp; refine hK _ _ ?_; clear hK K
        refine sq_nil ?_
        refine H12 _ _ ?_
        clear H12 K12
        refine sq_region ?_
        refine sq_ex rfl (fun K hK => ?_); refine ⟨.int .i64 ((k + 1 : Nat) : Int), ?_, ?_⟩; (focus (go_simp; first | exact i64_next k (by omega) | exact i64_next' k (by omega))); go_simp; refine hK _ _ ?_; clear hK K
        refine sq_ex rfl (fun K hK => ?_); apply Exists.intro; refine ⟨?_, ?_⟩; (focus (go_simp; try exact rfl)); go_simp; refine hK _ _ ?_; clear hK K
        refine sq_nil ?_
        refine ⟨?_, ?_⟩
        · (repeat apply Exists.intro); exact ⟨⟨k + 1, hp, by go_num, by rw [HS.out]; rfl, M6.sub (List.nil_sublist _)⟩, rfl⟩
        · simp [intOf]; omega
    ·
      have hpi : ¬ (k : Int) < n := by omega
      obtain rfl : k = n := by omega
      refine wp_seq_k (fun K15 H15 => ?_)
      refine sq_region ?_
      refine sq_ex rfl (fun K hK => ?_); refine ⟨.bool false, ?_, ?_⟩; (focus (go_simp; try (first | omega | (simp; done) | (simp; omega)))); go_simp; refine hK _ _ ?_; clear hK K
      refine sq_nil ?_
      refine H15 _ _ ?_
      clear H15 K15
      refine wp_seq_k (fun K16 H16 => ?_)
      refine wp_cond_false rfl ?_
      refine wp_exit ?_
      refine then_exit ?_
      clear H16 K16
      refine then_exit ?_
      refine exit_here ?_
      refine H3 _ _ ?_
      clear H3 K3
      refine wp_seq_k (fun K17 H17 => ?_)
      refine sq_region ?_
      refine sq_ex rfl (fun K hK => ?_); apply Exists.intro; refine ⟨?_, ?_⟩; (focus (go_simp; try exact rfl)); go_simp; refine hK _ _ ?_; clear hK K
      refine sq_ex rfl (fun K hK => ?_); apply Exists.intro; refine ⟨?_, ?_⟩; (focus (go_simp; try exact rfl)); go_simp; refine hK _ _ ?_; clear hK K
      refine sq_nil ?_
      refine H17 _ _ ?_
      clear H17 K17
      refine wp_ret ?_
      go_ret
      exact ⟨rfl, M.below⟩

set_option maxRecDepth 100000 in
set_option maxHeartbeats 1000000 in
theorem first_below (n cap g : Nat) (cs : Array Value) (H L W : Nat → Nat) (ah : Nat → Nat → Bool) (w : World) (hn : (n : Int) ≤ 1000000000000000) (hg : Hid (IsR w g cs 60)) (hcell : Hid (∀ k, k < n → cs[3 * k]? = some (.int .u64 (H k)) ∧ cs[3 * k + 1]? = some (.int .u64 (L k)) ∧ cs[3 * k + 2]? = some (.int .u64 (W k))))
    (hah : Hid (∀ k j, k < n → j < n → Dt 63 #[fv (H k) (L k) (W k), fv (H j) (L j) (W j)] (.bool (ah k j)))) :
    Calls Try.prog 72 #[.slice (some ⟨g, 0, none⟩) n cap, .func (.func 73) #[] #[], .func (.func 63) #[] #[]] w fun e w' => e = .returned (.int .i64 (bst ah n : Nat)) ∧ Below w.heap.size w w' := by
  have M0 := Has.start w
  go_enter Try.func72, Try.ntmps72
  refine wp_seq_k (fun K1 H1 => ?_)
  refine sq_region ?_
  refine sq_ex rfl (fun K hK => ?_); apply Exists.intro; refine ⟨?_, ?_⟩; (focus (go_simp; try exact rfl)); go_simp; refine hK _ _ ?_; clear hK K
  refine sq_nil ?_
  refine H1 _ _ ?_
  clear H1 K1
  refine wp_seq_k (fun K2 H2 => ?_)
  refine sq_region ?_
  refine sq_ex rfl (fun K hK => ?_); apply Exists.intro; refine ⟨?_, ?_⟩; (focus (go_simp; try exact rfl)); go_simp; refine hK _ _ ?_; clear hK K
  refine sq_nil ?_
  refine H2 _ _ ?_
  clear H2 K2
  refine wp_seq_k (fun K3 H3 => ?_)
  refine wp_seq_k (fun K4 H4 => ?_)
  refine sq_region ?_
  refine sq_ex rfl (fun K hK => ?_); apply Exists.intro; refine ⟨?_, ?_⟩; (focus (go_simp; try exact rfl)); go_simp; refine hK _ _ ?_; clear hK K
  refine sq_ex rfl (fun K hK => ?_); apply Exists.intro; refine ⟨?_, ?_⟩; (focus (go_simp; try exact rfl)); go_simp; refine hK _ _ ?_; clear hK K
  refine sq_ex rfl (fun K hK => ?_); apply Exists.intro; refine ⟨?_, ?_⟩; (focus (go_simp; try exact rfl)); go_simp; refine hK _ _ ?_; clear hK K
  refine sq_nil ?_
  refine H4 _ _ ?_
  clear H4 K4
  refine wp_block ?_
  go_loopw [7, 12] (fun b t wr => ∃ k : Nat, k ≤ n ∧ t = .int .i64 k ∧ b = .int .i64 (bst ah k : Nat) ∧ Has w [] wr) (fun _ t _ => n - (intOf t).toNat)
  case atStart => exact ⟨0, Nat.zero_le _, rfl, rfl, M0⟩
  case round =>
    clear M0
    obtain ⟨k, hk, rfl, rfl, M⟩ := hrel
    by_cases hp : k < n
    ·
      have hpi : (k : Int) < n := by omega
      obtain ⟨j, hj⟩ : ∃ j, j = bst ah k := ⟨_, rfl⟩
      have hjn : j < n := by rw [hj]; exact bst_lt ah hp
      have hji : (j : Int) < n := by omega
      have HCk : Hid (∀ i v, [Value.int .u64 (H k), .int .u64 (L k), .int .u64 (W k)][i]? = some v → cs[3 * k + i]? = some v) := Lib.hid (frac_cells (hcell.out k hp))
      have HCj : Hid (∀ i v, [Value.int .u64 (H j), .int .u64 (L j), .int .u64 (W j)][i]? = some v → cs[3 * j + i]? = some v) := Lib.hid (frac_cells (hcell.out j hjn))
      have HAH := Lib.hid (hah.out k j hp hjn)
      have HS := Lib.hid (bst_succ ah k)
      rw [← hj] at HS ⊢
      clear hj
      rcases hz : ah k j with _ | _
      ·
        rw [hz] at HAH HS
        clear hz
        refine wp_seq_k (fun K5 H5 => ?_)
        refine sq_region ?_
        refine sq_ex rfl (fun K hK => ?_); refine ⟨.bool true, ?_, ?_⟩; (focus (go_simp; try (first | omega | (simp; done) | (simp; omega)))); go_simp; refine hK _ _ ?_; clear hK K
        refine sq_nil ?_
        refine H5 _ _ ?_
        clear H5 K5
        refine wp_seq_k (fun K6 H6 => ?_)
        refine wp_cond_true rfl ?_
        refine wp_skip ?_
        refine H6 _ _ ?_
        clear H6 K6
        refine wp_seq_k (fun K7 H7 => ?_)
        refine wp_block ?_
        refine wp_seq_k (fun K8 H8 => ?_)
        refine sq_region ?_
        refine sq_ex rfl (fun K hK => ?_); apply Exists.intro; refine ⟨?_, ?_⟩; (focus (go_simp; try exact rfl)); go_simp; refine hK _ _ ?_; clear hK K
        refine sq_ex rfl (fun K hK => ?_); refine ⟨.pointer (some ⟨g, 3 * k, none⟩), ?_, ?_⟩; (focus (go_simp; try (first | rfl | (congr; omega)))); go_simp; refine hK _ _ ?_; clear hK K
        refine sq_ex rfl (fun K hK => ?_); refine ⟨_, run_ldm [.int .u64 (H k), .int .u64 (L k), .int .u64 (W k)] rfl rfl (IsR.kept hg.out M.below) HCk.out rfl Try.underlying60 frac_size, ?_⟩; go_simp; refine hK _ _ ?_; clear hK K
        refine sq_alloc rfl M (T := 60) (z := #[.int .u64 0, .int .u64 0, .int .u64 0]) (fun w' => by go_simp) (fun K hK => ?_)
        intro g9 w1 M1
        clear M
        go_simp; refine hK _ _ ?_; clear hK K
        refine sq_ex rfl (fun K hK => ?_); apply Exists.intro; refine ⟨?_, ?_⟩; (focus (go_simp; try exact rfl)); go_simp; refine hK _ _ ?_; clear hK K
        refine sq_store rfl M1 0 rfl (run_st (cs := #[.int .u64 (H k), .int .u64 (L k), .int .u64 (W k)]) rfl rfl rfl frac_size rfl (by simp [Value.oneCell'])) (fun K hK => ?_)
        intro w2 M2
        clear M1
        go_simp; refine hK _ _ ?_; clear hK K
        refine sq_nil ?_
        refine H8 _ _ ?_
        clear H8 K8
        refine wp_seq_k (fun K9 H9 => ?_)
        refine wp_region_rows (L := [(g9, #[.int .u64 (H k), .int .u64 (L k), .int .u64 (W k)], 60)]) [] [(3, fun v => v = fv (H k) (L k) (W k)), (9, fun v => v = fv (H j) (L j) (W j)), (10, fun v => v = .bool false)] M2 (by kernel_rfl) (by kernel_rfl) (by kernel_rfl) (by kernel_rfl) ?_
        refine rs_ex rfl rfl rfl rfl rfl ⟨_, M2⟩ (fun K hK => ?_); apply Exists.intro; refine ⟨fun w' hw => ?_, ?_⟩; (focus (go_simp; try exact rfl)); go_simp; refine hK _ ?_; clear hK K
        refine rs_ex rfl rfl rfl rfl rfl ⟨_, M2⟩ (fun K hK => ?_); apply Exists.intro; refine ⟨fun w' hw => ?_, ?_⟩; (focus (go_simp; try exact rfl)); go_simp; refine hK _ ?_; clear hK K
        refine rs_ex rfl rfl rfl rfl rfl ⟨_, M2⟩ (fun K hK => ?_); refine ⟨_, fun w' hw => run_ld rfl rfl (hw.row 0 rfl) rfl Try.underlying60 frac_size, ?_⟩; go_simp; refine hK _ ?_; clear hK K
        refine rs_call rfl rfl (fun v => v = fv (H k) (L k) (W k)) rfl rfl ⟨_, rfl⟩ (fun w' => by go_simp) (fun w' hw => (find1_w _ _ _ w').mono fun e w'' hh => ⟨_, hh.1, rfl, hh.2⟩) (fun K hK => ?_); rintro _ rfl; go_simp; refine hK _ ?_; clear hK K
        refine rs_ex rfl rfl rfl rfl rfl ⟨_, M2⟩ (fun K hK => ?_); apply Exists.intro; refine ⟨fun w' hw => ?_, ?_⟩; (focus (go_simp; try exact rfl)); go_simp; refine hK _ ?_; clear hK K
        refine rs_ex rfl rfl rfl rfl rfl ⟨_, M2⟩ (fun K hK => ?_); apply Exists.intro; refine ⟨fun w' hw => ?_, ?_⟩; (focus (go_simp; try exact rfl)); go_simp; refine hK _ ?_; clear hK K
        refine rs_ex rfl rfl rfl rfl rfl ⟨_, M2⟩ (fun K hK => ?_); apply Exists.intro; refine ⟨fun w' hw => ?_, ?_⟩; (focus (go_simp; try exact rfl)); go_simp; refine hK _ ?_; clear hK K
        refine rs_ex rfl rfl rfl rfl rfl ⟨_, M2⟩ (fun K hK => ?_); refine ⟨.pointer (some ⟨g, 3 * j, none⟩), fun w' hw => ?_, ?_⟩; (focus (go_simp; try (first | rfl | (congr; omega)))); go_simp; refine hK _ ?_; clear hK K
        refine rs_ex rfl rfl rfl rfl rfl ⟨_, M2⟩ (fun K hK => ?_); refine ⟨_, fun w' hw => run_ldm [.int .u64 (H j), .int .u64 (L j), .int .u64 (W j)] rfl rfl (IsR.kept hg.out hw.below) HCj.out rfl Try.underlying60 frac_size, ?_⟩; go_simp; refine hK _ ?_; clear hK K
        refine rs_call rfl rfl (fun v => v = fv (H j) (L j) (W j)) rfl rfl ⟨_, rfl⟩ (fun w' => by go_simp) (fun w' hw => (find1_w _ _ _ w').mono fun e w'' hh => ⟨_, hh.1, rfl, hh.2⟩) (fun K hK => ?_); rintro _ rfl; go_simp; refine hK _ ?_; clear hK K
        refine rs_call rfl rfl (fun v => v = .bool false) rfl rfl ⟨_, rfl⟩ (fun w' => by go_simp) (fun w' hw => (HAH.out w').mono fun e w'' hh => ⟨_, hh.1, rfl, hh.2⟩) (fun K hK => ?_); rintro _ rfl; go_simp; refine hK _ ?_; clear hK K
        refine rs_nil ?_
        intro w3 M
        have M3 : Has w [(g9, #[.int .u64 (H k), .int .u64 (L k), .int .u64 (W k)], 60)] w3 := M
        clear M2 M
        refine H9 _ _ ?_
        clear H9 K9
        refine wp_cond_false rfl ?_
        refine wp_skip ?_
        refine H7 _ _ ?_
        clear H7 K7
        refine sq_region ?_
        refine sq_ex rfl (fun K hK => ?_); refine ⟨.int .i64 ((k + 1 : Nat) : Int), ?_, ?_⟩; (focus (go_simp; first | exact i64_next k (by omega) | exact i64_next' k (by omega))); go_simp; refine hK _ _ ?_; clear hK K
        refine sq_ex rfl (fun K hK => ?_); apply Exists.intro; refine ⟨?_, ?_⟩; (focus (go_simp; try exact rfl)); go_simp; refine hK _ _ ?_; clear hK K
        refine sq_nil ?_
        refine ⟨?_, ?_⟩
        · (repeat apply Exists.intro); exact ⟨⟨k + 1, hp, by go_num, by rw [HS.out]; rfl, M3.sub (List.nil_sublist _)⟩, rfl⟩
        · simp [intOf]; omega
      ·
        rw [hz] at HAH HS
        clear hz
        refine wp_seq_k (fun K10 H10 => ?_)
        refine sq_region ?_
        refine sq_ex rfl (fun K hK => ?_); refine ⟨.bool true, ?_, ?_⟩; (focus (go_simp; try (first | omega | (simp; done) | (simp; omega)))); go_simp; refine hK _ _ ?_; clear hK K
        refine sq_nil ?_
        refine H10 _ _ ?_
        clear H10 K10
        refine wp_seq_k (fun K11 H11 => ?_)
        refine wp_cond_true rfl ?_
        refine wp_skip ?_
        refine H11 _ _ ?_
        clear H11 K11
        refine wp_seq_k (fun K12 H12 => ?_)
        refine wp_block ?_
        refine wp_seq_k (fun K13 H13 => ?_)
        refine sq_region ?_
        refine sq_ex rfl (fun K hK => ?_); apply Exists.intro; refine ⟨?_, ?_⟩; (focus (go_simp; try exact rfl)); go_simp; refine hK _ _ ?_; clear hK K
        refine sq_ex rfl (fun K hK => ?_); refine ⟨.pointer (some ⟨g, 3 * k, none⟩), ?_, ?_⟩; (focus (go_simp; try (first | rfl | (congr; omega)))); go_simp; refine hK _ _ ?_; clear hK K
        refine sq_ex rfl (fun K hK => ?_); refine ⟨_, run_ldm [.int .u64 (H k), .int .u64 (L k), .int .u64 (W k)] rfl rfl (IsR.kept hg.out M.below) HCk.out rfl Try.underlying60 frac_size, ?_⟩; go_simp; refine hK _ _ ?_; clear hK K
        refine sq_alloc rfl M (T := 60) (z := #[.int .u64 0, .int .u64 0, .int .u64 0]) (fun w' => by go_simp) (fun K hK => ?_)
        intro g9 w4 M4
        clear M
        go_simp; refine hK _ _ ?_; clear hK K
        refine sq_ex rfl (fun K hK => ?_); apply Exists.intro; refine ⟨?_, ?_⟩; (focus (go_simp; try exact rfl)); go_simp; refine hK _ _ ?_; clear hK K
        refine sq_store rfl M4 0 rfl (run_st (cs := #[.int .u64 (H k), .int .u64 (L k), .int .u64 (W k)]) rfl rfl rfl frac_size rfl (by simp [Value.oneCell'])) (fun K hK => ?_)
        intro w5 M5
        clear M4
        go_simp; refine hK _ _ ?_; clear hK K
        refine sq_nil ?_
        refine H13 _ _ ?_
        clear H13 K13
        refine wp_seq_k (fun K14 H14 => ?_)
        refine wp_region_rows (L := [(g9, #[.int .u64 (H k), .int .u64 (L k), .int .u64 (W k)], 60)]) [] [(3, fun v => v = fv (H k) (L k) (W k)), (9, fun v => v = fv (H j) (L j) (W j)), (10, fun v => v = .bool true)] M5 (by kernel_rfl) (by kernel_rfl) (by kernel_rfl) (by kernel_rfl) ?_
        refine rs_ex rfl rfl rfl rfl rfl ⟨_, M5⟩ (fun K hK => ?_); apply Exists.intro; refine ⟨fun w' hw => ?_, ?_⟩; (focus (go_simp; try exact rfl)); go_simp; refine hK _ ?_; clear hK K
        refine rs_ex rfl rfl rfl rfl rfl ⟨_, M5⟩ (fun K hK => ?_); apply Exists.intro; refine ⟨fun w' hw => ?_, ?_⟩; (focus (go_simp; try exact rfl)); go_simp; refine hK _ ?_; clear hK K
        refine rs_ex rfl rfl rfl rfl rfl ⟨_, M5⟩ (fun K hK => ?_); refine ⟨_, fun w' hw => run_ld rfl rfl (hw.row 0 rfl) rfl Try.underlying60 frac_size, ?_⟩; go_simp; refine hK _ ?_; clear hK K
        refine rs_call rfl rfl (fun v => v = fv (H k) (L k) (W k)) rfl rfl ⟨_, rfl⟩ (fun w' => by go_simp) (fun w' hw => (find1_w _ _ _ w').mono fun e w'' hh => ⟨_, hh.1, rfl, hh.2⟩) (fun K hK => ?_); rintro _ rfl; go_simp; refine hK _ ?_; clear hK K
        refine rs_ex rfl rfl rfl rfl rfl ⟨_, M5⟩ (fun K hK => ?_); apply Exists.intro; refine ⟨fun w' hw => ?_, ?_⟩; (focus (go_simp; try exact rfl)); go_simp; refine hK _ ?_; clear hK K
        refine rs_ex rfl rfl rfl rfl rfl ⟨_, M5⟩ (fun K hK => ?_); apply Exists.intro; refine ⟨fun w' hw => ?_, ?_⟩; (focus (go_simp; try exact rfl)); go_simp; refine hK _ ?_; clear hK K
        refine rs_ex rfl rfl rfl rfl rfl ⟨_, M5⟩ (fun K hK => ?_); apply Exists.intro; refine ⟨fun w' hw => ?_, ?_⟩; (focus (go_simp; try exact rfl)); go_simp; refine hK _ ?_; clear hK K
        refine rs_ex rfl rfl rfl rfl rfl ⟨_, M5⟩ (fun K hK => ?_); refine ⟨.pointer (some ⟨g, 3 * j, none⟩), fun w' hw => ?_, ?_⟩; (focus (go_simp; try (first | rfl | (congr; omega)))); go_simp; refine hK _ ?_; clear hK K
        refine rs_ex rfl rfl rfl rfl rfl ⟨_, M5⟩ (fun K hK => ?_); refine ⟨_, fun w' hw => run_ldm [.int .u64 (H j), .int .u64 (L j), .int .u64 (W j)] rfl rfl (IsR.kept hg.out hw.below) HCj.out rfl Try.underlying60 frac_size, ?_⟩; go_simp; refine hK _ ?_; clear hK K
        refine rs_call rfl rfl (fun v => v = fv (H j) (L j) (W j)) rfl rfl ⟨_, rfl⟩ (fun w' => by go_simp) (fun w' hw => (find1_w _ _ _ w').mono fun e w'' hh => ⟨_, hh.1, rfl, hh.2⟩) (fun K hK => ?_); rintro _ rfl; go_simp; refine hK _ ?_; clear hK K
        refine rs_call rfl rfl (fun v => v = .bool true) rfl rfl ⟨_, rfl⟩ (fun w' => by go_simp) (fun w' hw => (HAH.out w').mono fun e w'' hh => ⟨_, hh.1, rfl, hh.2⟩) (fun K hK => ?_); rintro _ rfl; go_simp; refine hK _ ?_; clear hK K
        refine rs_nil ?_
        intro w6 M
        have M6 : Has w [(g9, #[.int .u64 (H k), .int .u64 (L k), .int .u64 (W k)], 60)] w6 := M
        clear M5 M
        refine H14 _ _ ?_
        clear H14 K14
        refine wp_cond_true rfl ?_
        refine sq_region ?_
        refine sq_ex rfl (fun K hK => ?_); apply Exists.intro; refine ⟨?_, ?_⟩; (focus (go_simp; try exact rfl)); go_simp; refine hK _ _ ?_; clear hK K
        refine sq_ex rfl (fun K hK => ?_); apply Exists.intro; refine ⟨?_, ?_⟩; (focus (go_simp; try exact rfl)); go_simp; refine hK _ _ ?_; clear hK K
        refine sq_nil ?_
        refine H12 _ _ ?_
        clear H12 K12
        refine sq_region ?_
        refine sq_ex rfl (fun K hK => ?_); refine ⟨.int .i64 ((k + 1 : Nat) : Int), ?_, ?_⟩; (focus (go_simp; first | exact i64_next k (by omega) | exact i64_next' k (by omega))); go_simp; refine hK _ _ ?_; clear hK K
        refine sq_ex rfl (fun K hK => ?_); apply Exists.intro; refine ⟨?_, ?_⟩; (focus (go_simp; try exact rfl)); go_simp; refine hK _ _ ?_; clear hK K
        refine sq_nil ?_
        refine ⟨?_, ?_⟩
        · (repeat apply Exists.intro); exact ⟨⟨k + 1, hp, by go_num, by rw [HS.out]; rfl, M6.sub (List.nil_sublist _)⟩, rfl⟩
        · simp [intOf]; omega
    ·
      have hpi : ¬ (k : Int) < n := by omega
      obtain rfl : k = n := by omega
      refine wp_seq_k (fun K15 H15 => ?_)
      refine sq_region ?_
      refine sq_ex rfl (fun K hK => ?_); refine ⟨.bool false, ?_, ?_⟩; (focus (go_simp; try (first | omega | (simp; done) | (simp; omega)))); go_simp; refine hK _ _ ?_; clear hK K
      refine sq_nil ?_
      refine H15 _ _ ?_
      clear H15 K15
      refine wp_seq_k (fun K16 H16 => ?_)
      refine wp_cond_false rfl ?_
      refine wp_exit ?_
      refine then_exit ?_
      clear H16 K16
      refine then_exit ?_
      refine exit_here ?_
      refine H3 _ _ ?_
      clear H3 K3
      refine wp_seq_k (fun K17 H17 => ?_)
      refine sq_region ?_
      refine sq_ex rfl (fun K hK => ?_); apply Exists.intro; refine ⟨?_, ?_⟩; (focus (go_simp; try exact rfl)); go_simp; refine hK _ _ ?_; clear hK K
      refine sq_ex rfl (fun K hK => ?_); apply Exists.intro; refine ⟨?_, ?_⟩; (focus (go_simp; try exact rfl)); go_simp; refine hK _ _ ?_; clear hK K
      refine sq_nil ?_
      refine H17 _ _ ?_
      clear H17 K17
      refine wp_ret ?_
      go_ret
      exact ⟨rfl, M.below⟩

set_option maxRecDepth 100000 in
set_option maxHeartbeats 1000000 in
theorem find_nil (n cap g fa b : Nat) (cs : Array Value) (w : World) (hg : Hid (IsR w g cs 60)) (hn : (n : Int) = 0) :
    Calls Try.prog 61 #[.slice (some ⟨g, 0, none⟩) n cap, .func (.func fa) #[] #[]] w fun e w' => e = .returned (.tuple #[.int .i64 0, .bool false]) ∧ Below w.heap.size w w' := by
  have M0 := Has.start w
  go_enter Try.func61, Try.ntmps61
  refine wp_seq_k (fun K1 H1 => ?_)
  refine sq_region ?_
  refine sq_ex rfl (fun K hK => ?_); apply Exists.intro; refine ⟨?_, ?_⟩; (focus (go_simp; try exact rfl)); go_simp; refine hK _ _ ?_; clear hK K
  refine sq_ex rfl (fun K hK => ?_); apply Exists.intro; refine ⟨?_, ?_⟩; (focus (go_simp; try exact rfl)); go_simp; refine hK _ _ ?_; clear hK K
  refine sq_nil ?_
  refine H1 _ _ ?_
  clear H1 K1
  refine wp_seq_k (fun K2 H2 => ?_)
  refine wp_seq_k (fun K3 H3 => ?_)
  refine sq_region ?_
  refine sq_ex rfl (fun K hK => ?_); apply Exists.intro; refine ⟨?_, ?_⟩; (focus (go_simp; try exact rfl)); go_simp; refine hK _ _ ?_; clear hK K
  refine sq_ex rfl (fun K hK => ?_); apply Exists.intro; refine ⟨?_, ?_⟩; (focus (go_simp; try exact rfl)); go_simp; refine hK _ _ ?_; clear hK K
  refine sq_ex rfl (fun K hK => ?_); refine ⟨.bool true, ?_, ?_⟩; (focus (go_simp; try (first | omega | (simp; done) | (simp; omega)))); go_simp; refine hK _ _ ?_; clear hK K
  refine sq_ex rfl (fun K hK => ?_); apply Exists.intro; refine ⟨?_, ?_⟩; (focus (go_simp; try exact rfl)); go_simp; refine hK _ _ ?_; clear hK K
  refine sq_not rfl (fun K hK => ?_); go_simp; refine hK _ _ ?_; clear hK K
  refine sq_not rfl (fun K hK => ?_); go_simp; refine hK _ _ ?_; clear hK K
  refine sq_not rfl (fun K hK => ?_); go_simp; refine hK _ _ ?_; clear hK K
  refine sq_ex rfl (fun K hK => ?_); apply Exists.intro; refine ⟨?_, ?_⟩; (focus (go_simp; try exact rfl)); go_simp; refine hK _ _ ?_; clear hK K
  refine sq_nil ?_
  refine H3 _ _ ?_
  clear H3 K3
  refine wp_cond_true rfl ?_
  refine wp_seq_k (fun K4 H4 => ?_)
  refine sq_region ?_
  refine sq_ex rfl (fun K hK => ?_); apply Exists.intro; refine ⟨?_, ?_⟩; (focus (go_simp; try exact rfl)); go_simp; refine hK _ _ ?_; clear hK K
  refine sq_ex rfl (fun K hK => ?_); apply Exists.intro; refine ⟨?_, ?_⟩; (focus (go_simp; try exact rfl)); go_simp; refine hK _ _ ?_; clear hK K
  refine sq_nil ?_
  refine H4 _ _ ?_
  clear H4 K4
  refine wp_ret ?_
  go_ret2
  exact ⟨rfl, M0.below⟩

set_option maxRecDepth 100000 in
set_option maxHeartbeats 1000000 in
theorem find_bad (n cap g fa b : Nat) (cs : Array Value) (w : World) (hg : Hid (IsR w g cs 60)) (hn : ¬ (n : Int) = 0) (HR : Hid (∀ w, Hid (IsR w g cs 60) → Calls Try.prog 64 #[.slice (some ⟨g, 0, none⟩) n cap] w fun e w' => e = .returned (.bool false) ∧ Below w.heap.size w w')) :
    Calls Try.prog 61 #[.slice (some ⟨g, 0, none⟩) n cap, .func (.func fa) #[] #[]] w fun e w' => e = .returned (.tuple #[.int .i64 0, .bool false]) ∧ Below w.heap.size w w' := by
  have M0 := Has.start w
  go_enter Try.func61, Try.ntmps61
  refine wp_seq_k (fun K1 H1 => ?_)
  refine sq_region ?_
  refine sq_ex rfl (fun K hK => ?_); apply Exists.intro; refine ⟨?_, ?_⟩; (focus (go_simp; try exact rfl)); go_simp; refine hK _ _ ?_; clear hK K
  refine sq_ex rfl (fun K hK => ?_); apply Exists.intro; refine ⟨?_, ?_⟩; (focus (go_simp; try exact rfl)); go_simp; refine hK _ _ ?_; clear hK K
  refine sq_nil ?_
  refine H1 _ _ ?_
  clear H1 K1
  refine wp_seq_k (fun K2 H2 => ?_)
  refine wp_seq_k (fun K3 H3 => ?_)
  refine sq_region ?_
  refine sq_ex rfl (fun K hK => ?_); apply Exists.intro; refine ⟨?_, ?_⟩; (focus (go_simp; try exact rfl)); go_simp; refine hK _ _ ?_; clear hK K
  refine sq_ex rfl (fun K hK => ?_); apply Exists.intro; refine ⟨?_, ?_⟩; (focus (go_simp; try exact rfl)); go_simp; refine hK _ _ ?_; clear hK K
  refine sq_ex rfl (fun K hK => ?_); refine ⟨.bool false, ?_, ?_⟩; (focus (go_simp; try (first | omega | (simp; done) | (simp; omega)))); go_simp; refine hK _ _ ?_; clear hK K
  refine sq_ex rfl (fun K hK => ?_); apply Exists.intro; refine ⟨?_, ?_⟩; (focus (go_simp; try exact rfl)); go_simp; refine hK _ _ ?_; clear hK K
  refine sq_ex rfl (fun K hK => ?_); apply Exists.intro; refine ⟨?_, ?_⟩; (focus (go_simp; try exact rfl)); go_simp; refine hK _ _ ?_; clear hK K
  refine sq_call rfl (fun w' => by go_simp) (HR.out _ (Lib.hid (IsR.kept hg.out M0.below))) (fun K hK => ?_)
  rintro e w1 ⟨rfl, hb⟩
  refine ⟨_, rfl, ?_⟩
  have M1 := M0.kept hb
  clear M0 hb
  go_simp; refine hK _ _ ?_; clear hK K
  refine sq_ex rfl (fun K hK => ?_); apply Exists.intro; refine ⟨?_, ?_⟩; (focus (go_simp; try exact rfl)); go_simp; refine hK _ _ ?_; clear hK K
  refine sq_ex rfl (fun K hK => ?_); apply Exists.intro; refine ⟨?_, ?_⟩; (focus (go_simp; try exact rfl)); go_simp; refine hK _ _ ?_; clear hK K
  refine sq_nil ?_
  refine H3 _ _ ?_
  clear H3 K3
  refine wp_cond_true rfl ?_
  refine wp_seq_k (fun K4 H4 => ?_)
  refine sq_region ?_
  refine sq_ex rfl (fun K hK => ?_); apply Exists.intro; refine ⟨?_, ?_⟩; (focus (go_simp; try exact rfl)); go_simp; refine hK _ _ ?_; clear hK K
  refine sq_ex rfl (fun K hK => ?_); apply Exists.intro; refine ⟨?_, ?_⟩; (focus (go_simp; try exact rfl)); go_simp; refine hK _ _ ?_; clear hK K
  refine sq_nil ?_
  refine H4 _ _ ?_
  clear H4 K4
  refine wp_ret ?_
  go_ret2
  exact ⟨rfl, M1.below⟩

set_option maxRecDepth 100000 in
set_option maxHeartbeats 1000000 in
theorem find_yes (n cap g fa b : Nat) (cs : Array Value) (w : World) (hg : Hid (IsR w g cs 60)) (hn : ¬ (n : Int) = 0) (HR : Hid (∀ w, Hid (IsR w g cs 60) → Calls Try.prog 64 #[.slice (some ⟨g, 0, none⟩) n cap] w fun e w' => e = .returned (.bool true) ∧ Below w.heap.size w w')) (HFI : Hid (∀ w, Hid (IsR w g cs 60) → Calls Try.prog 72 #[.slice (some ⟨g, 0, none⟩) n cap, .func (.func 73) #[] #[], .func (.func fa) #[] #[]] w fun e w' => e = .returned (.int .i64 b) ∧ Below w.heap.size w w')) :
    Calls Try.prog 61 #[.slice (some ⟨g, 0, none⟩) n cap, .func (.func fa) #[] #[]] w fun e w' => e = .returned (.tuple #[.int .i64 b, .bool true]) ∧ Below w.heap.size w w' := by
  have M0 := Has.start w
  go_enter Try.func61, Try.ntmps61
  refine wp_seq_k (fun K1 H1 => ?_)
  refine sq_region ?_
  refine sq_ex rfl (fun K hK => ?_); apply Exists.intro; refine ⟨?_, ?_⟩; (focus (go_simp; try exact rfl)); go_simp; refine hK _ _ ?_; clear hK K
  refine sq_ex rfl (fun K hK => ?_); apply Exists.intro; refine ⟨?_, ?_⟩; (focus (go_simp; try exact rfl)); go_simp; refine hK _ _ ?_; clear hK K
  refine sq_nil ?_
  refine H1 _ _ ?_
  clear H1 K1
  refine wp_seq_k (fun K2 H2 => ?_)
  refine wp_seq_k (fun K3 H3 => ?_)
  refine sq_region ?_
  refine sq_ex rfl (fun K hK => ?_); apply Exists.intro; refine ⟨?_, ?_⟩; (focus (go_simp; try exact rfl)); go_simp; refine hK _ _ ?_; clear hK K
  refine sq_ex rfl (fun K hK => ?_); apply Exists.intro; refine ⟨?_, ?_⟩; (focus (go_simp; try exact rfl)); go_simp; refine hK _ _ ?_; clear hK K
  refine sq_ex rfl (fun K hK => ?_); refine ⟨.bool false, ?_, ?_⟩; (focus (go_simp; try (first | omega | (simp; done) | (simp; omega)))); go_simp; refine hK _ _ ?_; clear hK K
  refine sq_ex rfl (fun K hK => ?_); apply Exists.intro; refine ⟨?_, ?_⟩; (focus (go_simp; try exact rfl)); go_simp; refine hK _ _ ?_; clear hK K
  refine sq_ex rfl (fun K hK => ?_); apply Exists.intro; refine ⟨?_, ?_⟩; (focus (go_simp; try exact rfl)); go_simp; refine hK _ _ ?_; clear hK K
  refine sq_call rfl (fun w' => by go_simp) (HR.out _ (Lib.hid (IsR.kept hg.out M0.below))) (fun K hK => ?_)
  rintro e w1 ⟨rfl, hb⟩
  refine ⟨_, rfl, ?_⟩
  have M1 := M0.kept hb
  clear M0 hb
  go_simp; refine hK _ _ ?_; clear hK K
  refine sq_ex rfl (fun K hK => ?_); apply Exists.intro; refine ⟨?_, ?_⟩; (focus (go_simp; try exact rfl)); go_simp; refine hK _ _ ?_; clear hK K
  refine sq_ex rfl (fun K hK => ?_); apply Exists.intro; refine ⟨?_, ?_⟩; (focus (go_simp; try exact rfl)); go_simp; refine hK _ _ ?_; clear hK K
  refine sq_nil ?_
  refine H3 _ _ ?_
  clear H3 K3
  refine wp_cond_false rfl ?_
  refine wp_skip ?_
  refine H2 _ _ ?_
  clear H2 K2
  refine wp_seq_k (fun K4 H4 => ?_)
  refine sq_region ?_
  refine sq_ex rfl (fun K hK => ?_); apply Exists.intro; refine ⟨?_, ?_⟩; (focus (go_simp; try exact rfl)); go_simp; refine hK _ _ ?_; clear hK K
  refine sq_ex rfl (fun K hK => ?_); apply Exists.intro; refine ⟨?_, ?_⟩; (focus (go_simp; try exact rfl)); go_simp; refine hK _ _ ?_; clear hK K
  refine sq_call rfl (fun w' => by go_simp) (HFI.out _ (Lib.hid (IsR.kept hg.out M1.below))) (fun K hK => ?_)
  rintro e w2 ⟨rfl, hb⟩
  refine ⟨_, rfl, ?_⟩
  have M2 := M1.kept hb
  clear M1 hb
  go_simp; refine hK _ _ ?_; clear hK K
  refine sq_ex rfl (fun K hK => ?_); apply Exists.intro; refine ⟨?_, ?_⟩; (focus (go_simp; try exact rfl)); go_simp; refine hK _ _ ?_; clear hK K
  refine sq_ex rfl (fun K hK => ?_); apply Exists.intro; refine ⟨?_, ?_⟩; (focus (go_simp; try exact rfl)); go_simp; refine hK _ _ ?_; clear hK K
  refine sq_nil ?_
  refine H4 _ _ ?_
  clear H4 K4
  refine wp_ret ?_
  go_ret2
  exact ⟨rfl, M2.below⟩

set_option maxRecDepth 100000 in
set_option maxHeartbeats 1000000 in
theorem most_w (n cap g b : Nat) (f : Bool) (cs : Array Value) (w : World) (hg : Hid (IsR w g cs 60)) (HFI : Hid (∀ w, Hid (IsR w g cs 60) → Calls Try.prog 61 #[.slice (some ⟨g, 0, none⟩) n cap, .func (.func 62) #[] #[]] w fun e w' => e = .returned (.tuple #[.int .i64 b, .bool f]) ∧ Below w.heap.size w w')) :
    Calls Try.prog 35 #[.slice (some ⟨g, 0, none⟩) n cap] w fun e w' => e = .returned (.tuple #[.int .i64 b, .bool f]) ∧ Below w.heap.size w w' := by
  have M0 := Has.start w
  go_enter Try.func35, Try.ntmps35
  refine wp_seq_k (fun K1 H1 => ?_)
  refine sq_region ?_
  refine sq_ex rfl (fun K hK => ?_); apply Exists.intro; refine ⟨?_, ?_⟩; (focus (go_simp; try exact rfl)); go_simp; refine hK _ _ ?_; clear hK K
  refine sq_ex rfl (fun K hK => ?_); apply Exists.intro; refine ⟨?_, ?_⟩; (focus (go_simp; try exact rfl)); go_simp; refine hK _ _ ?_; clear hK K
  refine sq_nil ?_
  refine H1 _ _ ?_
  clear H1 K1
  refine wp_seq_k (fun K2 H2 => ?_)
  refine sq_region ?_
  refine sq_ex rfl (fun K hK => ?_); apply Exists.intro; refine ⟨?_, ?_⟩; (focus (go_simp; try exact rfl)); go_simp; refine hK _ _ ?_; clear hK K
  refine sq_call rfl (fun w' => by go_simp) (HFI.out _ (Lib.hid (IsR.kept hg.out M0.below))) (fun K hK => ?_)
  rintro e w1 ⟨rfl, hb⟩
  refine ⟨_, rfl, ?_⟩
  have M1 := M0.kept hb
  clear M0 hb
  go_simp; refine hK _ _ ?_; clear hK K
  refine sq_ex rfl (fun K hK => ?_); apply Exists.intro; refine ⟨?_, ?_⟩; (focus (go_simp; try exact rfl)); go_simp; refine hK _ _ ?_; clear hK K
  refine sq_ex rfl (fun K hK => ?_); apply Exists.intro; refine ⟨?_, ?_⟩; (focus (go_simp; try exact rfl)); go_simp; refine hK _ _ ?_; clear hK K
  refine sq_ex rfl (fun K hK => ?_); apply Exists.intro; refine ⟨?_, ?_⟩; (focus (go_simp; try exact rfl)); go_simp; refine hK _ _ ?_; clear hK K
  refine sq_ex rfl (fun K hK => ?_); apply Exists.intro; refine ⟨?_, ?_⟩; (focus (go_simp; try exact rfl)); go_simp; refine hK _ _ ?_; clear hK K
  refine sq_nil ?_
  refine H2 _ _ ?_
  clear H2 K2
  refine wp_ret ?_
  go_ret2
  exact ⟨rfl, M1.below⟩

set_option maxRecDepth 100000 in
set_option maxHeartbeats 1000000 in
theorem least_w (n cap g b : Nat) (f : Bool) (cs : Array Value) (w : World) (hg : Hid (IsR w g cs 60)) (HFI : Hid (∀ w, Hid (IsR w g cs 60) → Calls Try.prog 61 #[.slice (some ⟨g, 0, none⟩) n cap, .func (.func 63) #[] #[]] w fun e w' => e = .returned (.tuple #[.int .i64 b, .bool f]) ∧ Below w.heap.size w w')) :
    Calls Try.prog 36 #[.slice (some ⟨g, 0, none⟩) n cap] w fun e w' => e = .returned (.tuple #[.int .i64 b, .bool f]) ∧ Below w.heap.size w w' := by
  have M0 := Has.start w
  go_enter Try.func36, Try.ntmps36
  refine wp_seq_k (fun K1 H1 => ?_)
  refine sq_region ?_
  refine sq_ex rfl (fun K hK => ?_); apply Exists.intro; refine ⟨?_, ?_⟩; (focus (go_simp; try exact rfl)); go_simp; refine hK _ _ ?_; clear hK K
  refine sq_ex rfl (fun K hK => ?_); apply Exists.intro; refine ⟨?_, ?_⟩; (focus (go_simp; try exact rfl)); go_simp; refine hK _ _ ?_; clear hK K
  refine sq_nil ?_
  refine H1 _ _ ?_
  clear H1 K1
  refine wp_seq_k (fun K2 H2 => ?_)
  refine sq_region ?_
  refine sq_ex rfl (fun K hK => ?_); apply Exists.intro; refine ⟨?_, ?_⟩; (focus (go_simp; try exact rfl)); go_simp; refine hK _ _ ?_; clear hK K
  refine sq_call rfl (fun w' => by go_simp) (HFI.out _ (Lib.hid (IsR.kept hg.out M0.below))) (fun K hK => ?_)
  rintro e w1 ⟨rfl, hb⟩
  refine ⟨_, rfl, ?_⟩
  have M1 := M0.kept hb
  clear M0 hb
  go_simp; refine hK _ _ ?_; clear hK K
  refine sq_ex rfl (fun K hK => ?_); apply Exists.intro; refine ⟨?_, ?_⟩; (focus (go_simp; try exact rfl)); go_simp; refine hK _ _ ?_; clear hK K
  refine sq_ex rfl (fun K hK => ?_); apply Exists.intro; refine ⟨?_, ?_⟩; (focus (go_simp; try exact rfl)); go_simp; refine hK _ _ ?_; clear hK K
  refine sq_ex rfl (fun K hK => ?_); apply Exists.intro; refine ⟨?_, ?_⟩; (focus (go_simp; try exact rfl)); go_simp; refine hK _ _ ?_; clear hK K
  refine sq_ex rfl (fun K hK => ?_); apply Exists.intro; refine ⟨?_, ?_⟩; (focus (go_simp; try exact rfl)); go_simp; refine hK _ _ ?_; clear hK K
  refine sq_nil ?_
  refine H2 _ _ ?_
  clear H2 K2
  refine wp_ret ?_
  go_ret2
  exact ⟨rfl, M1.below⟩

end Go.Proofs.Ytpjdojnbajoafaa
