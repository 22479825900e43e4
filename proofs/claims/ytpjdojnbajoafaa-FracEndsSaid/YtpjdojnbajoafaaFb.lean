/- frac's functions: their walks. -/
import Derived.Test.YtpjdojnbajoafaaFa
namespace Go.Proofs.Ytpjdojnbajoafaa
open Go Go.RowKit

theorem right1 {h l x : Nat} {b : Bool} (hb : okF h x = b) (w : World) (g : Nat) (hg : IsR w g #[.int .u64 h, .int .u64 l, .int .u64 x] 60) :
    Calls Try.prog 64 #[.slice (some ⟨g, 0, none⟩) 1 1] w fun e w' => e = .returned (.bool b) ∧ Below w.heap.size w w' := by
  have := right_any 1 1 g _ (fun _ => h) (fun _ => l) (fun _ => x) w (by decide) (Lib.hid hg) (Lib.hid fun k hk => (by
    have h0 : k = 0 := by omega
    subst h0
    exact ⟨rfl, rfl, rfl⟩))
  have e : rightB 1 (fun _ => h) (fun _ => x) = b := by rw [← hb]; simp [rightB]
  rwa [e] at this
theorem right2 {h l x H L X : Nat} {b : Bool} (hb : (okF h x && okF H X) = b) (w : World) (g : Nat) (hg : IsR w g #[.int .u64 h, .int .u64 l, .int .u64 x, .int .u64 H, .int .u64 L, .int .u64 X] 60) :
    Calls Try.prog 64 #[.slice (some ⟨g, 0, none⟩) 2 2] w fun e w' => e = .returned (.bool b) ∧ Below w.heap.size w w' := by
  have := right_any 2 2 g _ (fun k => if k = 0 then h else H) (fun k => if k = 0 then l else L) (fun k => if k = 0 then x else X) w (by decide) (Lib.hid hg) (Lib.hid fun k hk => by
    rcases (by omega : k = 0 ∨ k = 1) with rfl | rfl <;> exact ⟨rfl, rfl, rfl⟩)
  have e : rightB 2 (fun k => if k = 0 then h else H) (fun k => if k = 0 then x else X) = b := by rw [← hb]; simp [rightB, List.range_succ]
  rwa [e] at this

set_option maxRecDepth 100000 in
set_option maxHeartbeats 1000000 in
theorem check_yes (h l x : Nat) (w : World)
    (hb : okF h x = true)
    : Calls Try.prog 39 #[fv h l x] w fun e w' => e = .returned (.int .i64 0) ∧ Below w.heap.size w w' := by
  have M0 := Has.start w
  go_enter Try.func39, Try.ntmps39
  refine wp_seq_k (fun K1 H1 => ?_)
  refine sq_region ?_
  refine sq_alloc rfl M0 (T := 60) (z := #[.int .u64 h, .int .u64 l, .int .u64 x]) (fun w' => by go_simp) (fun K hK => ?_)
  intro g1 w1 M1
  clear M0
  go_simp; refine hK _ _ ?_; clear hK K
  refine sq_ex rfl (fun K hK => ?_); apply Exists.intro; refine ⟨?_, ?_⟩; (focus (go_simp; try exact rfl)); go_simp; refine hK _ _ ?_; clear hK K
  refine sq_nil ?_
  refine H1 _ _ ?_
  clear H1 K1
  refine wp_seq_k (fun K2 H2 => ?_)
  refine wp_seq_k (fun K3 H3 => ?_)
  refine sq_region ?_
  refine sq_ex rfl (fun K hK => ?_); refine ⟨_, run_ld rfl rfl (M1.row 0 rfl) rfl Try.underlying60 frac_size, ?_⟩; go_simp; refine hK _ _ ?_; clear hK K
  refine sq_new rfl M1 (fun g => .slice (some ⟨g, 0, none⟩) 1 1) (T := 60) (z := #[.int .u64 h, .int .u64 l, .int .u64 x]) (fun w' => by go_simp) (fun K hK => ?_)
  intro g4 w2 M2
  clear M1
  go_simp; refine hK _ _ ?_; clear hK K
  refine sq_call rfl (fun w' => by go_simp) (right1 hb _ _ (M2.row 1 rfl)) (fun K hK => ?_)
  rintro e w3 ⟨rfl, hb⟩
  refine ⟨_, rfl, ?_⟩
  have M3 := M2.kept hb
  clear M2 hb
  go_simp; refine hK _ _ ?_; clear hK K
  refine sq_ex rfl (fun K hK => ?_); apply Exists.intro; refine ⟨?_, ?_⟩; (focus (go_simp; try exact rfl)); go_simp; refine hK _ _ ?_; clear hK K
  refine sq_nil ?_
  refine H3 _ _ ?_
  clear H3 K3
  refine wp_cond_false rfl ?_
  refine wp_skip ?_
  refine H2 _ _ ?_
  clear H2 K2
  refine wp_seq_k (fun K4 H4 => ?_)
  refine sq_region ?_
  refine sq_ex rfl (fun K hK => ?_); apply Exists.intro; refine ⟨?_, ?_⟩; (focus (go_simp; try exact rfl)); go_simp; refine hK _ _ ?_; clear hK K
  refine sq_nil ?_
  refine H4 _ _ ?_
  clear H4 K4
  refine wp_ret ?_
  go_ret
  exact ⟨rfl, M3.below⟩

set_option maxRecDepth 100000 in
set_option maxHeartbeats 1000000 in
theorem check_no (h l x : Nat) (w : World)
    (hb : okF h x = false)
    : Calls Try.prog 39 #[fv h l x] w fun e w' => e = .returned (.int .i64 150) ∧ Below w.heap.size w w' := by
  have M0 := Has.start w
  go_enter Try.func39, Try.ntmps39
  refine wp_seq_k (fun K1 H1 => ?_)
  refine sq_region ?_
  refine sq_alloc rfl M0 (T := 60) (z := #[.int .u64 h, .int .u64 l, .int .u64 x]) (fun w' => by go_simp) (fun K hK => ?_)
  intro g1 w1 M1
  clear M0
  go_simp; refine hK _ _ ?_; clear hK K
  refine sq_ex rfl (fun K hK => ?_); apply Exists.intro; refine ⟨?_, ?_⟩; (focus (go_simp; try exact rfl)); go_simp; refine hK _ _ ?_; clear hK K
  refine sq_nil ?_
  refine H1 _ _ ?_
  clear H1 K1
  refine wp_seq_k (fun K2 H2 => ?_)
  refine wp_seq_k (fun K3 H3 => ?_)
  refine sq_region ?_
  refine sq_ex rfl (fun K hK => ?_); refine ⟨_, run_ld rfl rfl (M1.row 0 rfl) rfl Try.underlying60 frac_size, ?_⟩; go_simp; refine hK _ _ ?_; clear hK K
  refine sq_new rfl M1 (fun g => .slice (some ⟨g, 0, none⟩) 1 1) (T := 60) (z := #[.int .u64 h, .int .u64 l, .int .u64 x]) (fun w' => by go_simp) (fun K hK => ?_)
  intro g4 w2 M2
  clear M1
  go_simp; refine hK _ _ ?_; clear hK K
  refine sq_call rfl (fun w' => by go_simp) (right1 hb _ _ (M2.row 1 rfl)) (fun K hK => ?_)
  rintro e w3 ⟨rfl, hb⟩
  refine ⟨_, rfl, ?_⟩
  have M3 := M2.kept hb
  clear M2 hb
  go_simp; refine hK _ _ ?_; clear hK K
  refine sq_ex rfl (fun K hK => ?_); apply Exists.intro; refine ⟨?_, ?_⟩; (focus (go_simp; try exact rfl)); go_simp; refine hK _ _ ?_; clear hK K
  refine sq_nil ?_
  refine H3 _ _ ?_
  clear H3 K3
  refine wp_cond_true rfl ?_
  refine wp_seq_k (fun K4 H4 => ?_)
  refine sq_region ?_
  refine sq_ex rfl (fun K hK => ?_); apply Exists.intro; refine ⟨?_, ?_⟩; (focus (go_simp; try exact rfl)); go_simp; refine hK _ _ ?_; clear hK K
  refine sq_nil ?_
  refine H4 _ _ ?_
  clear H4 K4
  refine wp_ret ?_
  go_ret
  exact ⟨rfl, M3.below⟩

set_option maxRecDepth 100000 in
set_option maxHeartbeats 1000000 in
theorem fof_no (n x : Nat) (w : World)
    (hb : wt x = false)
    (HW : Hid (Dt 65 #[.int .u64 x] (.bool false)))
    : Calls Try.prog 40 #[.int .u64 n, .int .u64 x] w fun e w' => e = .returned (.tuple #[.agg #[.int .u64 0, .int .u64 0, .int .u64 0], .int .i64 2]) ∧ Below w.heap.size w w' := by
  have M0 := Has.start w
  go_enter Try.func40, Try.ntmps40
  refine wp_seq_k (fun K1 H1 => ?_)
  refine sq_region ?_
  refine sq_alloc rfl M0 (T := 60) (z := #[.int .u64 0, .int .u64 0, .int .u64 0]) (fun w' => by go_simp) (fun K hK => ?_)
  intro g4 w1 M1
  clear M0
  go_simp; refine hK _ _ ?_; clear hK K
  refine sq_ex rfl (fun K hK => ?_); apply Exists.intro; refine ⟨?_, ?_⟩; (focus (go_simp; try exact rfl)); go_simp; refine hK _ _ ?_; clear hK K
  refine sq_nil ?_
  refine H1 _ _ ?_
  clear H1 K1
  refine wp_seq_k (fun K2 H2 => ?_)
  refine wp_seq_k (fun K3 H3 => ?_)
  refine sq_region ?_
  refine sq_ex rfl (fun K hK => ?_); apply Exists.intro; refine ⟨?_, ?_⟩; (focus (go_simp; try exact rfl)); go_simp; refine hK _ _ ?_; clear hK K
  refine sq_call rfl (fun w' => by go_simp) (HW.out _) (fun K hK => ?_)
  rintro e w2 ⟨rfl, hb⟩
  refine ⟨_, rfl, ?_⟩
  have M2 := M1.kept hb
  clear M1 hb
  go_simp; refine hK _ _ ?_; clear hK K
  refine sq_ex rfl (fun K hK => ?_); apply Exists.intro; refine ⟨?_, ?_⟩; (focus (go_simp; try exact rfl)); go_simp; refine hK _ _ ?_; clear hK K
  refine sq_nil ?_
  refine H3 _ _ ?_
  clear H3 K3
  refine wp_cond_true rfl ?_
  refine wp_seq_k (fun K4 H4 => ?_)
  refine sq_region ?_
  refine sq_ex rfl (fun K hK => ?_); apply Exists.intro; refine ⟨?_, ?_⟩; (focus (go_simp; try exact rfl)); go_simp; refine hK _ _ ?_; clear hK K
  refine sq_store rfl M2 0 rfl (run_st (cs := #[.int .u64 0, .int .u64 0, .int .u64 0]) rfl rfl rfl frac_size rfl (by simp [Value.oneCell'])) (fun K hK => ?_)
  intro w3 M3
  clear M2
  go_simp; refine hK _ _ ?_; clear hK K
  refine sq_ex rfl (fun K hK => ?_); apply Exists.intro; refine ⟨?_, ?_⟩; (focus (go_simp; try exact rfl)); go_simp; refine hK _ _ ?_; clear hK K
  refine sq_nil ?_
  refine H4 _ _ ?_
  clear H4 K4
  refine wp_ret ?_
  refine then_ret ?_
  refine ret_row_tmp Try.results40 rfl _ rfl (M3.row 0 rfl) Try.underlying60 rfl frac_size ⟨rfl, M3.below⟩

set_option maxRecDepth 100000 in
set_option maxHeartbeats 1000000 in
theorem fof_yes (n x : Nat) (w : World)
    (HW : Hid (Dt 65 #[.int .u64 x] (.bool true)))
    (HO : Hid (Dt 28 #[.int .u64 n] (.agg #[.int .u64 0, .int .u64 n])))
    : Calls Try.prog 40 #[.int .u64 n, .int .u64 x] w fun e w' => e = .returned (.tuple #[.agg #[.int .u64 0, .int .u64 n, .int .u64 x], .int .i64 0]) ∧ Below w.heap.size w w' := by
  have M0 := Has.start w
  go_enter Try.func40, Try.ntmps40
  refine wp_seq_k (fun K1 H1 => ?_)
  refine sq_region ?_
  refine sq_alloc rfl M0 (T := 60) (z := #[.int .u64 0, .int .u64 0, .int .u64 0]) (fun w' => by go_simp) (fun K hK => ?_)
  intro g4 w1 M1
  clear M0
  go_simp; refine hK _ _ ?_; clear hK K
  refine sq_ex rfl (fun K hK => ?_); apply Exists.intro; refine ⟨?_, ?_⟩; (focus (go_simp; try exact rfl)); go_simp; refine hK _ _ ?_; clear hK K
  refine sq_nil ?_
  refine H1 _ _ ?_
  clear H1 K1
  refine wp_seq_k (fun K2 H2 => ?_)
  refine wp_seq_k (fun K3 H3 => ?_)
  refine sq_region ?_
  refine sq_ex rfl (fun K hK => ?_); apply Exists.intro; refine ⟨?_, ?_⟩; (focus (go_simp; try exact rfl)); go_simp; refine hK _ _ ?_; clear hK K
  refine sq_call rfl (fun w' => by go_simp) (HW.out _) (fun K hK => ?_)
  rintro e w2 ⟨rfl, hb⟩
  refine ⟨_, rfl, ?_⟩
  have M2 := M1.kept hb
  clear M1 hb
  go_simp; refine hK _ _ ?_; clear hK K
  refine sq_ex rfl (fun K hK => ?_); apply Exists.intro; refine ⟨?_, ?_⟩; (focus (go_simp; try exact rfl)); go_simp; refine hK _ _ ?_; clear hK K
  refine sq_nil ?_
  refine H3 _ _ ?_
  clear H3 K3
  refine wp_cond_false rfl ?_
  refine wp_skip ?_
  refine H2 _ _ ?_
  clear H2 K2
  refine wp_seq_k (fun K4 H4 => ?_)
  refine sq_region ?_
  refine sq_ex rfl (fun K hK => ?_); apply Exists.intro; refine ⟨?_, ?_⟩; (focus (go_simp; try exact rfl)); go_simp; refine hK _ _ ?_; clear hK K
  refine sq_call rfl (fun w' => by go_simp) (HO.out _) (fun K hK => ?_)
  rintro e w3 ⟨rfl, hb⟩
  refine ⟨_, rfl, ?_⟩
  have M3 := M2.kept hb
  clear M2 hb
  go_simp; refine hK _ _ ?_; clear hK K
  refine sq_ex rfl (fun K hK => ?_); apply Exists.intro; refine ⟨?_, ?_⟩; (focus (go_simp; try exact rfl)); go_simp; refine hK _ _ ?_; clear hK K
  refine sq_ex rfl (fun K hK => ?_); apply Exists.intro; refine ⟨?_, ?_⟩; (focus (go_simp; try exact rfl)); go_simp; refine hK _ _ ?_; clear hK K
  refine sq_store rfl M3 0 rfl (run_st (cs := #[.int .u64 0, .int .u64 n, .int .u64 x]) rfl rfl rfl frac_size rfl (by simp [Value.oneCell'])) (fun K hK => ?_)
  intro w4 M4
  clear M3
  go_simp; refine hK _ _ ?_; clear hK K
  refine sq_ex rfl (fun K hK => ?_); apply Exists.intro; refine ⟨?_, ?_⟩; (focus (go_simp; try exact rfl)); go_simp; refine hK _ _ ?_; clear hK K
  refine sq_nil ?_
  refine H4 _ _ ?_
  clear H4 K4
  refine wp_ret ?_
  refine ret_row_tmp Try.results40 rfl _ rfl (M4.row 0 rfl) Try.underlying60 rfl frac_size ⟨rfl, M4.below⟩

set_option maxRecDepth 100000 in
set_option maxHeartbeats 1000000 in
theorem times_w (h l x A B c : Nat) (w : World)
    (HS : Hid (Dt 17 #[wv h l, .int .u64 x, .int .u64 1] (.tuple #[wv A B, .int .i64 c])))
    : Calls Try.prog 66 #[wv h l, .int .u64 x] w fun e w' => e = .returned (wv A B) ∧ Below w.heap.size w w' := by
  have M0 := Has.start w
  go_enter Try.func66, Try.ntmps66
  refine wp_seq_k (fun K1 H1 => ?_)
  refine sq_region ?_
  refine sq_alloc rfl M0 (T := 24) (z := #[.int .u64 h, .int .u64 l]) (fun w' => by go_simp) (fun K hK => ?_)
  intro g2 w1 M1
  clear M0
  go_simp; refine hK _ _ ?_; clear hK K
  refine sq_alloc rfl M1 (T := 24) (z := #[.int .u64 0, .int .u64 0]) (fun w' => by go_simp) (fun K hK => ?_)
  intro g4 w2 M2
  clear M1
  go_simp; refine hK _ _ ?_; clear hK K
  refine sq_nil ?_
  refine H1 _ _ ?_
  clear H1 K1
  refine wp_seq_k (fun K2 H2 => ?_)
  refine sq_region ?_
  refine sq_ex rfl (fun K hK => ?_); refine ⟨_, run_ld rfl rfl (M2.row 0 rfl) rfl Try.underlying24 wide_size, ?_⟩; go_simp; refine hK _ _ ?_; clear hK K
  refine sq_ex rfl (fun K hK => ?_); apply Exists.intro; refine ⟨?_, ?_⟩; (focus (go_simp; try exact rfl)); go_simp; refine hK _ _ ?_; clear hK K
  refine sq_call rfl (fun w' => by go_simp) (HS.out _) (fun K hK => ?_)
  rintro e w3 ⟨rfl, hb⟩
  refine ⟨_, rfl, ?_⟩
  have M3 := M2.kept hb
  clear M2 hb
  go_simp; refine hK _ _ ?_; clear hK K
  refine sq_ex rfl (fun K hK => ?_); apply Exists.intro; refine ⟨?_, ?_⟩; (focus (go_simp; try exact rfl)); go_simp; refine hK _ _ ?_; clear hK K
  refine sq_ex rfl (fun K hK => ?_); apply Exists.intro; refine ⟨?_, ?_⟩; (focus (go_simp; try exact rfl)); go_simp; refine hK _ _ ?_; clear hK K
  refine sq_ex rfl (fun K hK => ?_); apply Exists.intro; refine ⟨?_, ?_⟩; (focus (go_simp; try exact rfl)); go_simp; refine hK _ _ ?_; clear hK K
  refine sq_alloc rfl M3 (T := 24) (z := #[.int .u64 0, .int .u64 0]) (fun w' => by go_simp) (fun K hK => ?_)
  intro g5 w4 M4
  clear M3
  go_simp; refine hK _ _ ?_; clear hK K
  refine sq_store rfl M4 2 rfl (run_st (cs := #[.int .u64 A, .int .u64 B]) rfl rfl rfl wide_size rfl (by simp [Value.oneCell'])) (fun K hK => ?_)
  intro w5 M5
  clear M4
  go_simp; refine hK _ _ ?_; clear hK K
  refine sq_ex rfl (fun K hK => ?_); apply Exists.intro; refine ⟨?_, ?_⟩; (focus (go_simp; try exact rfl)); go_simp; refine hK _ _ ?_; clear hK K
  refine sq_nil ?_
  refine H2 _ _ ?_
  clear H2 K2
  refine wp_seq_k (fun K3 H3 => ?_)
  refine sq_region ?_
  refine sq_ex rfl (fun K hK => ?_); refine ⟨_, run_ld rfl rfl (M5.row 2 rfl) rfl Try.underlying24 wide_size, ?_⟩; go_simp; refine hK _ _ ?_; clear hK K
  refine sq_store rfl M5 1 rfl (run_st (cs := #[.int .u64 A, .int .u64 B]) rfl rfl rfl wide_size rfl (by simp [Value.oneCell'])) (fun K hK => ?_)
  intro w6 M6
  clear M5
  go_simp; refine hK _ _ ?_; clear hK K
  refine sq_nil ?_
  refine H3 _ _ ?_
  clear H3 K3
  refine wp_ret ?_
  refine ret_row Try.results66 rfl (M6.row 1 rfl) Try.underlying24 rfl wide_size ⟨rfl, M6.below⟩

set_option maxRecDepth 100000 in
set_option maxHeartbeats 1000000 in
theorem with_err (h l x A B c : Nat) (w : World)
    (hc : ((c : Int) != 0) = true)
    : Calls Try.prog 67 #[fv h l x, wv A B, .int .i64 c] w fun e w' => e = .returned (.tuple #[.agg #[.int .u64 0, .int .u64 0, .int .u64 0], .int .i64 131]) ∧ Below w.heap.size w w' := by
  have M0 := Has.start w
  go_enter Try.func67, Try.ntmps67
  refine wp_seq_k (fun K1 H1 => ?_)
  refine sq_region ?_
  refine sq_alloc rfl M0 (T := 60) (z := #[.int .u64 h, .int .u64 l, .int .u64 x]) (fun w' => by go_simp) (fun K hK => ?_)
  intro g3 w1 M1
  clear M0
  go_simp; refine hK _ _ ?_; clear hK K
  refine sq_alloc rfl M1 (T := 24) (z := #[.int .u64 A, .int .u64 B]) (fun w' => by go_simp) (fun K hK => ?_)
  intro g4 w2 M2
  clear M1
  go_simp; refine hK _ _ ?_; clear hK K
  refine sq_alloc rfl M2 (T := 60) (z := #[.int .u64 0, .int .u64 0, .int .u64 0]) (fun w' => by go_simp) (fun K hK => ?_)
  intro g6 w3 M3
  clear M2
  go_simp; refine hK _ _ ?_; clear hK K
  refine sq_ex rfl (fun K hK => ?_); apply Exists.intro; refine ⟨?_, ?_⟩; (focus (go_simp; try exact rfl)); go_simp; refine hK _ _ ?_; clear hK K
  refine sq_nil ?_
  refine H1 _ _ ?_
  clear H1 K1
  refine wp_seq_k (fun K2 H2 => ?_)
  refine wp_seq_k (fun K3 H3 => ?_)
  refine sq_region ?_
  refine sq_ex rfl (fun K hK => ?_); apply Exists.intro; refine ⟨?_, ?_⟩; (focus (go_simp; try exact rfl)); go_simp; refine hK _ _ ?_; clear hK K
  refine sq_ex rfl (fun K hK => ?_); refine ⟨.bool true, ?_, ?_⟩; (focus (go_simp; try (first | omega | (simp; done) | (simp; omega)))); go_simp; refine hK _ _ ?_; clear hK K
  refine sq_ex rfl (fun K hK => ?_); apply Exists.intro; refine ⟨?_, ?_⟩; (focus (go_simp; try exact rfl)); go_simp; refine hK _ _ ?_; clear hK K
  refine sq_not rfl (fun K hK => ?_); go_simp; refine hK _ _ ?_; clear hK K
  refine sq_not rfl (fun K hK => ?_); go_simp; refine hK _ _ ?_; clear hK K
  refine sq_not rfl (fun K hK => ?_); go_simp; refine hK _ _ ?_; clear hK K
  refine sq_ex rfl (fun K hK => ?_); apply Exists.intro; refine ⟨?_, ?_⟩; (focus (go_simp; try exact rfl)); go_simp; refine hK _ _ ?_; clear hK K
  refine sq_nil ?_
  refine H3 _ _ ?_
  clear H3 K3
  refine wp_cond_true rfl ?_
  refine wp_seq_k (fun K4 H4 => ?_)
  refine sq_region ?_
  refine sq_ex rfl (fun K hK => ?_); apply Exists.intro; refine ⟨?_, ?_⟩; (focus (go_simp; try exact rfl)); go_simp; refine hK _ _ ?_; clear hK K
  refine sq_store rfl M3 2 rfl (run_st (cs := #[.int .u64 0, .int .u64 0, .int .u64 0]) rfl rfl rfl frac_size rfl (by simp [Value.oneCell'])) (fun K hK => ?_)
  intro w4 M4
  clear M3
  go_simp; refine hK _ _ ?_; clear hK K
  refine sq_ex rfl (fun K hK => ?_); apply Exists.intro; refine ⟨?_, ?_⟩; (focus (go_simp; try exact rfl)); go_simp; refine hK _ _ ?_; clear hK K
  refine sq_nil ?_
  refine H4 _ _ ?_
  clear H4 K4
  refine wp_ret ?_
  refine then_ret ?_
  refine ret_row_tmp Try.results67 rfl _ rfl (M4.row 2 rfl) Try.underlying60 rfl frac_size ⟨rfl, M4.below⟩

set_option maxRecDepth 100000 in
set_option maxHeartbeats 1000000 in
theorem with_big (h l x A B : Nat) (w : World)
    (hA : 68719476736 ≤ A)
    : Calls Try.prog 67 #[fv h l x, wv A B, .int .i64 0] w fun e w' => e = .returned (.tuple #[.agg #[.int .u64 0, .int .u64 0, .int .u64 0], .int .i64 131]) ∧ Below w.heap.size w w' := by
  have M0 := Has.start w
  go_enter Try.func67, Try.ntmps67
  refine wp_seq_k (fun K1 H1 => ?_)
  refine sq_region ?_
  refine sq_alloc rfl M0 (T := 60) (z := #[.int .u64 h, .int .u64 l, .int .u64 x]) (fun w' => by go_simp) (fun K hK => ?_)
  intro g3 w1 M1
  clear M0
  go_simp; refine hK _ _ ?_; clear hK K
  refine sq_alloc rfl M1 (T := 24) (z := #[.int .u64 A, .int .u64 B]) (fun w' => by go_simp) (fun K hK => ?_)
  intro g4 w2 M2
  clear M1
  go_simp; refine hK _ _ ?_; clear hK K
  refine sq_alloc rfl M2 (T := 60) (z := #[.int .u64 0, .int .u64 0, .int .u64 0]) (fun w' => by go_simp) (fun K hK => ?_)
  intro g6 w3 M3
  clear M2
  go_simp; refine hK _ _ ?_; clear hK K
  refine sq_ex rfl (fun K hK => ?_); apply Exists.intro; refine ⟨?_, ?_⟩; (focus (go_simp; try exact rfl)); go_simp; refine hK _ _ ?_; clear hK K
  refine sq_nil ?_
  refine H1 _ _ ?_
  clear H1 K1
  refine wp_seq_k (fun K2 H2 => ?_)
  refine wp_seq_k (fun K3 H3 => ?_)
  refine sq_region ?_
  refine sq_ex rfl (fun K hK => ?_); apply Exists.intro; refine ⟨?_, ?_⟩; (focus (go_simp; try exact rfl)); go_simp; refine hK _ _ ?_; clear hK K
  refine sq_ex rfl (fun K hK => ?_); refine ⟨.bool false, ?_, ?_⟩; (focus (go_simp; try (first | omega | (simp; done) | (simp; omega)))); go_simp; refine hK _ _ ?_; clear hK K
  refine sq_ex rfl (fun K hK => ?_); apply Exists.intro; refine ⟨?_, ?_⟩; (focus (go_simp; try exact rfl)); go_simp; refine hK _ _ ?_; clear hK K
  refine sq_ex rfl (fun K hK => ?_); apply Exists.intro; refine ⟨?_, ?_⟩; (focus (go_simp; try exact rfl)); go_simp; refine hK _ _ ?_; clear hK K
  refine sq_ex rfl (fun K hK => ?_); apply Exists.intro; refine ⟨?_, ?_⟩; (focus (have c := IsR.cell (M3.row 1 rfl); have f := IsR.froz (M3.row 1 rfl); go_simp; try exact rfl)); go_simp; refine hK _ _ ?_; clear hK K
  refine sq_ex rfl (fun K hK => ?_); refine ⟨.bool true, ?_, ?_⟩; (focus (go_simp; try (first | omega | (simp; done) | (simp; omega)))); go_simp; refine hK _ _ ?_; clear hK K
  refine sq_ex rfl (fun K hK => ?_); apply Exists.intro; refine ⟨?_, ?_⟩; (focus (go_simp; try exact rfl)); go_simp; refine hK _ _ ?_; clear hK K
  refine sq_nil ?_
  refine H3 _ _ ?_
  clear H3 K3
  refine wp_cond_true rfl ?_
  refine wp_seq_k (fun K4 H4 => ?_)
  refine sq_region ?_
  refine sq_ex rfl (fun K hK => ?_); apply Exists.intro; refine ⟨?_, ?_⟩; (focus (go_simp; try exact rfl)); go_simp; refine hK _ _ ?_; clear hK K
  refine sq_store rfl M3 2 rfl (run_st (cs := #[.int .u64 0, .int .u64 0, .int .u64 0]) rfl rfl rfl frac_size rfl (by simp [Value.oneCell'])) (fun K hK => ?_)
  intro w4 M4
  clear M3
  go_simp; refine hK _ _ ?_; clear hK K
  refine sq_ex rfl (fun K hK => ?_); apply Exists.intro; refine ⟨?_, ?_⟩; (focus (go_simp; try exact rfl)); go_simp; refine hK _ _ ?_; clear hK K
  refine sq_nil ?_
  refine H4 _ _ ?_
  clear H4 K4
  refine wp_ret ?_
  refine then_ret ?_
  refine ret_row_tmp Try.results67 rfl _ rfl (M4.row 2 rfl) Try.underlying60 rfl frac_size ⟨rfl, M4.below⟩

set_option maxRecDepth 100000 in
set_option maxHeartbeats 1000000 in
theorem with_ok (h l x A B : Nat) (w : World)
    (hA : A < 68719476736)
    : Calls Try.prog 67 #[fv h l x, wv A B, .int .i64 0] w fun e w' => e = .returned (.tuple #[fv A B x, .int .i64 0]) ∧ Below w.heap.size w w' := by
  have M0 := Has.start w
  go_enter Try.func67, Try.ntmps67
  refine wp_seq_k (fun K1 H1 => ?_)
  refine sq_region ?_
  refine sq_alloc rfl M0 (T := 60) (z := #[.int .u64 h, .int .u64 l, .int .u64 x]) (fun w' => by go_simp) (fun K hK => ?_)
  intro g3 w1 M1
  clear M0
  go_simp; refine hK _ _ ?_; clear hK K
  refine sq_alloc rfl M1 (T := 24) (z := #[.int .u64 A, .int .u64 B]) (fun w' => by go_simp) (fun K hK => ?_)
  intro g4 w2 M2
  clear M1
  go_simp; refine hK _ _ ?_; clear hK K
  refine sq_alloc rfl M2 (T := 60) (z := #[.int .u64 0, .int .u64 0, .int .u64 0]) (fun w' => by go_simp) (fun K hK => ?_)
  intro g6 w3 M3
  clear M2
  go_simp; refine hK _ _ ?_; clear hK K
  refine sq_ex rfl (fun K hK => ?_); apply Exists.intro; refine ⟨?_, ?_⟩; (focus (go_simp; try exact rfl)); go_simp; refine hK _ _ ?_; clear hK K
  refine sq_nil ?_
  refine H1 _ _ ?_
  clear H1 K1
  refine wp_seq_k (fun K2 H2 => ?_)
  refine wp_seq_k (fun K3 H3 => ?_)
  refine sq_region ?_
  refine sq_ex rfl (fun K hK => ?_); apply Exists.intro; refine ⟨?_, ?_⟩; (focus (go_simp; try exact rfl)); go_simp; refine hK _ _ ?_; clear hK K
  refine sq_ex rfl (fun K hK => ?_); refine ⟨.bool false, ?_, ?_⟩; (focus (go_simp; try (first | omega | (simp; done) | (simp; omega)))); go_simp; refine hK _ _ ?_; clear hK K
  refine sq_ex rfl (fun K hK => ?_); apply Exists.intro; refine ⟨?_, ?_⟩; (focus (go_simp; try exact rfl)); go_simp; refine hK _ _ ?_; clear hK K
  refine sq_ex rfl (fun K hK => ?_); apply Exists.intro; refine ⟨?_, ?_⟩; (focus (go_simp; try exact rfl)); go_simp; refine hK _ _ ?_; clear hK K
  refine sq_ex rfl (fun K hK => ?_); apply Exists.intro; refine ⟨?_, ?_⟩; (focus (have c := IsR.cell (M3.row 1 rfl); have f := IsR.froz (M3.row 1 rfl); go_simp; try exact rfl)); go_simp; refine hK _ _ ?_; clear hK K
  refine sq_ex rfl (fun K hK => ?_); refine ⟨.bool false, ?_, ?_⟩; (focus (go_simp; try (first | omega | (simp; done) | (simp; omega)))); go_simp; refine hK _ _ ?_; clear hK K
  refine sq_ex rfl (fun K hK => ?_); apply Exists.intro; refine ⟨?_, ?_⟩; (focus (go_simp; try exact rfl)); go_simp; refine hK _ _ ?_; clear hK K
  refine sq_nil ?_
  refine H3 _ _ ?_
  clear H3 K3
  refine wp_cond_false rfl ?_
  refine wp_skip ?_
  refine H2 _ _ ?_
  clear H2 K2
  refine wp_seq_k (fun K4 H4 => ?_)
  refine sq_region ?_
  refine sq_ex rfl (fun K hK => ?_); refine ⟨_, run_ld rfl rfl (M3.row 1 rfl) rfl Try.underlying24 wide_size, ?_⟩; go_simp; refine hK _ _ ?_; clear hK K
  refine sq_ex rfl (fun K hK => ?_); apply Exists.intro; refine ⟨?_, ?_⟩; (focus (go_simp; try exact rfl)); go_simp; refine hK _ _ ?_; clear hK K
  refine sq_ex rfl (fun K hK => ?_); apply Exists.intro; refine ⟨?_, ?_⟩; (focus (have c := IsR.cell (M3.row 0 rfl); have f := IsR.froz (M3.row 0 rfl); go_simp; try exact rfl)); go_simp; refine hK _ _ ?_; clear hK K
  refine sq_ex rfl (fun K hK => ?_); apply Exists.intro; refine ⟨?_, ?_⟩; (focus (go_simp; try exact rfl)); go_simp; refine hK _ _ ?_; clear hK K
  refine sq_store rfl M3 2 rfl (run_st (cs := #[.int .u64 A, .int .u64 B, .int .u64 x]) rfl rfl rfl frac_size rfl (by simp [Value.oneCell'])) (fun K hK => ?_)
  intro w4 M4
  clear M3
  go_simp; refine hK _ _ ?_; clear hK K
  refine sq_ex rfl (fun K hK => ?_); apply Exists.intro; refine ⟨?_, ?_⟩; (focus (go_simp; try exact rfl)); go_simp; refine hK _ _ ?_; clear hK K
  refine sq_nil ?_
  refine H4 _ _ ?_
  clear H4 K4
  refine wp_ret ?_
  refine ret_row_tmp Try.results67 rfl _ rfl (M4.row 2 rfl) Try.underlying60 rfl frac_size ⟨rfl, M4.below⟩

set_option maxRecDepth 100000 in
set_option maxHeartbeats 1000000 in
theorem fcmp_no (h l x H L X : Nat) (w : World)
    (hb : (okF h x && okF H X) = false)
    : Calls Try.prog 42 #[fv h l x, fv H L X] w fun e w' => e = .returned (.int .i64 0) ∧ Below w.heap.size w w' := by
  have M0 := Has.start w
  go_enter Try.func42, Try.ntmps42
  refine wp_seq_k (fun K1 H1 => ?_)
  refine sq_region ?_
  refine sq_alloc rfl M0 (T := 60) (z := #[.int .u64 h, .int .u64 l, .int .u64 x]) (fun w' => by go_simp) (fun K hK => ?_)
  intro g2 w1 M1
  clear M0
  go_simp; refine hK _ _ ?_; clear hK K
  refine sq_alloc rfl M1 (T := 60) (z := #[.int .u64 H, .int .u64 L, .int .u64 X]) (fun w' => by go_simp) (fun K hK => ?_)
  intro g3 w2 M2
  clear M1
  go_simp; refine hK _ _ ?_; clear hK K
  refine sq_ex rfl (fun K hK => ?_); apply Exists.intro; refine ⟨?_, ?_⟩; (focus (go_simp; try exact rfl)); go_simp; refine hK _ _ ?_; clear hK K
  refine sq_nil ?_
  refine H1 _ _ ?_
  clear H1 K1
  refine wp_seq_k (fun K2 H2 => ?_)
  refine wp_seq_k (fun K3 H3 => ?_)
  refine sq_region ?_
  refine sq_ex rfl (fun K hK => ?_); refine ⟨_, run_ld rfl rfl (M2.row 0 rfl) rfl Try.underlying60 frac_size, ?_⟩; go_simp; refine hK _ _ ?_; clear hK K
  refine sq_ex rfl (fun K hK => ?_); refine ⟨_, run_ld rfl rfl (M2.row 1 rfl) rfl Try.underlying60 frac_size, ?_⟩; go_simp; refine hK _ _ ?_; clear hK K
  refine sq_new rfl M2 (fun g => .slice (some ⟨g, 0, none⟩) 2 2) (T := 60) (z := #[.int .u64 h, .int .u64 l, .int .u64 x, .int .u64 H, .int .u64 L, .int .u64 X]) (fun w' => by go_simp) (fun K hK => ?_)
  intro g7 w3 M3
  clear M2
  go_simp; refine hK _ _ ?_; clear hK K
  refine sq_call rfl (fun w' => by go_simp) (right2 hb _ _ (M3.row 2 rfl)) (fun K hK => ?_)
  rintro e w4 ⟨rfl, hb⟩
  refine ⟨_, rfl, ?_⟩
  have M4 := M3.kept hb
  clear M3 hb
  go_simp; refine hK _ _ ?_; clear hK K
  refine sq_ex rfl (fun K hK => ?_); apply Exists.intro; refine ⟨?_, ?_⟩; (focus (go_simp; try exact rfl)); go_simp; refine hK _ _ ?_; clear hK K
  refine sq_nil ?_
  refine H3 _ _ ?_
  clear H3 K3
  refine wp_cond_true rfl ?_
  refine wp_seq_k (fun K4 H4 => ?_)
  refine sq_region ?_
  refine sq_ex rfl (fun K hK => ?_); apply Exists.intro; refine ⟨?_, ?_⟩; (focus (go_simp; try exact rfl)); go_simp; refine hK _ _ ?_; clear hK K
  refine sq_nil ?_
  refine H4 _ _ ?_
  clear H4 K4
  refine wp_ret ?_
  go_ret
  exact ⟨rfl, M4.below⟩

set_option maxRecDepth 100000 in
set_option maxHeartbeats 1000000 in
theorem fcmp_yes (h l x H L X A B C D : Nat) (w : World)
    (s : Int)
    (hb : (okF h x && okF H X) = true)
    (HT1 : Hid (Dt 66 #[wv h l, .int .u64 X] (wv A B)))
    (HT2 : Hid (Dt 66 #[wv H L, .int .u64 x] (wv C D)))
    (HC : Hid (Dt 23 #[wv A B, wv C D] (.int .i64 s)))
    : Calls Try.prog 42 #[fv h l x, fv H L X] w fun e w' => e = .returned (.int .i64 s) ∧ Below w.heap.size w w' := by
  have M0 := Has.start w
  go_enter Try.func42, Try.ntmps42
  refine wp_seq_k (fun K1 H1 => ?_)
  refine sq_region ?_
  refine sq_alloc rfl M0 (T := 60) (z := #[.int .u64 h, .int .u64 l, .int .u64 x]) (fun w' => by go_simp) (fun K hK => ?_)
  intro g2 w1 M1
  clear M0
  go_simp; refine hK _ _ ?_; clear hK K
  refine sq_alloc rfl M1 (T := 60) (z := #[.int .u64 H, .int .u64 L, .int .u64 X]) (fun w' => by go_simp) (fun K hK => ?_)
  intro g3 w2 M2
  clear M1
  go_simp; refine hK _ _ ?_; clear hK K
  refine sq_ex rfl (fun K hK => ?_); apply Exists.intro; refine ⟨?_, ?_⟩; (focus (go_simp; try exact rfl)); go_simp; refine hK _ _ ?_; clear hK K
  refine sq_nil ?_
  refine H1 _ _ ?_
  clear H1 K1
  refine wp_seq_k (fun K2 H2 => ?_)
  refine wp_seq_k (fun K3 H3 => ?_)
  refine sq_region ?_
  refine sq_ex rfl (fun K hK => ?_); refine ⟨_, run_ld rfl rfl (M2.row 0 rfl) rfl Try.underlying60 frac_size, ?_⟩; go_simp; refine hK _ _ ?_; clear hK K
  refine sq_ex rfl (fun K hK => ?_); refine ⟨_, run_ld rfl rfl (M2.row 1 rfl) rfl Try.underlying60 frac_size, ?_⟩; go_simp; refine hK _ _ ?_; clear hK K
  refine sq_new rfl M2 (fun g => .slice (some ⟨g, 0, none⟩) 2 2) (T := 60) (z := #[.int .u64 h, .int .u64 l, .int .u64 x, .int .u64 H, .int .u64 L, .int .u64 X]) (fun w' => by go_simp) (fun K hK => ?_)
  intro g7 w3 M3
  clear M2
  go_simp; refine hK _ _ ?_; clear hK K
  refine sq_call rfl (fun w' => by go_simp) (right2 hb _ _ (M3.row 2 rfl)) (fun K hK => ?_)
  rintro e w4 ⟨rfl, hb⟩
  refine ⟨_, rfl, ?_⟩
  have M4 := M3.kept hb
  clear M3 hb
  go_simp; refine hK _ _ ?_; clear hK K
  refine sq_ex rfl (fun K hK => ?_); apply Exists.intro; refine ⟨?_, ?_⟩; (focus (go_simp; try exact rfl)); go_simp; refine hK _ _ ?_; clear hK K
  refine sq_nil ?_
  refine H3 _ _ ?_
  clear H3 K3
  refine wp_cond_false rfl ?_
  refine wp_skip ?_
  refine H2 _ _ ?_
  clear H2 K2
  refine wp_seq_k (fun K4 H4 => ?_)
  refine wp_region_rows (L := [(g2, #[.int .u64 h, .int .u64 l, .int .u64 x], 60), (g3, #[.int .u64 H, .int .u64 L, .int .u64 X], 60), (g7, #[.int .u64 h, .int .u64 l, .int .u64 x, .int .u64 H, .int .u64 L, .int .u64 X], 60)]) [] [(4, fun v => v = wv A B), (9, fun v => v = wv C D), (10, fun v => v = .int .i64 s)] M4 (by kernel_rfl) (by kernel_rfl) (by kernel_rfl) (by kernel_rfl) ?_
  refine rs_ex rfl rfl rfl rfl rfl ⟨_, M4⟩ (fun K hK => ?_); apply Exists.intro; refine ⟨fun w' hw => ?_, ?_⟩; (focus (go_simp; try exact rfl)); go_simp; refine hK _ ?_; clear hK K
  refine rs_ex rfl rfl rfl rfl rfl ⟨_, M4⟩ (fun K hK => ?_); refine ⟨_, fun w' hw => run_ldm [.int .u64 h, .int .u64 l] rfl rfl (hw.row 0 rfl) (fun j v h => by match j with | 0 => simpa using h | 1 => simpa using h | (k + 2) => simp at h) rfl Try.underlying24 wide_size, ?_⟩; go_simp; refine hK _ ?_; clear hK K
  refine rs_ex rfl rfl rfl rfl rfl ⟨_, M4⟩ (fun K hK => ?_); apply Exists.intro; refine ⟨fun w' hw => ?_, ?_⟩; (focus (go_simp; try exact rfl)); go_simp; refine hK _ ?_; clear hK K
  refine rs_ex rfl rfl rfl rfl rfl ⟨_, M4⟩ (fun K hK => ?_); apply Exists.intro; refine ⟨fun w' hw => ?_, ?_⟩; (focus (have c := IsR.cell (hw.row 1 rfl); have f := IsR.froz (hw.row 1 rfl); go_simp; try exact rfl)); go_simp; refine hK _ ?_; clear hK K
  refine rs_call rfl rfl (fun v => v = wv A B) rfl rfl ⟨_, rfl⟩ (fun w' => by go_simp) (fun w' hw => (HT1.out w').mono fun e w'' hh => ⟨_, hh.1, rfl, hh.2⟩) (fun K hK => ?_); rintro _ rfl; go_simp; refine hK _ ?_; clear hK K
  refine rs_ex rfl rfl rfl rfl rfl ⟨_, M4⟩ (fun K hK => ?_); apply Exists.intro; refine ⟨fun w' hw => ?_, ?_⟩; (focus (go_simp; try exact rfl)); go_simp; refine hK _ ?_; clear hK K
  refine rs_ex rfl rfl rfl rfl rfl ⟨_, M4⟩ (fun K hK => ?_); refine ⟨_, fun w' hw => run_ldm [.int .u64 H, .int .u64 L] rfl rfl (hw.row 1 rfl) (fun j v h => by match j with | 0 => simpa using h | 1 => simpa using h | (k + 2) => simp at h) rfl Try.underlying24 wide_size, ?_⟩; go_simp; refine hK _ ?_; clear hK K
  refine rs_ex rfl rfl rfl rfl rfl ⟨_, M4⟩ (fun K hK => ?_); apply Exists.intro; refine ⟨fun w' hw => ?_, ?_⟩; (focus (go_simp; try exact rfl)); go_simp; refine hK _ ?_; clear hK K
  refine rs_ex rfl rfl rfl rfl rfl ⟨_, M4⟩ (fun K hK => ?_); apply Exists.intro; refine ⟨fun w' hw => ?_, ?_⟩; (focus (have c := IsR.cell (hw.row 0 rfl); have f := IsR.froz (hw.row 0 rfl); go_simp; try exact rfl)); go_simp; refine hK _ ?_; clear hK K
  refine rs_call rfl rfl (fun v => v = wv C D) rfl rfl ⟨_, rfl⟩ (fun w' => by go_simp) (fun w' hw => (HT2.out w').mono fun e w'' hh => ⟨_, hh.1, rfl, hh.2⟩) (fun K hK => ?_); rintro _ rfl; go_simp; refine hK _ ?_; clear hK K
  refine rs_call rfl rfl (fun v => v = .int .i64 s) rfl rfl ⟨_, rfl⟩ (fun w' => by go_simp) (fun w' hw => (HC.out w').mono fun e w'' hh => ⟨_, hh.1, rfl, hh.2⟩) (fun K hK => ?_); rintro _ rfl; go_simp; refine hK _ ?_; clear hK K
  refine rs_ex rfl rfl rfl rfl rfl ⟨_, M4⟩ (fun K hK => ?_); apply Exists.intro; refine ⟨fun w' hw => ?_, ?_⟩; (focus (go_simp; try exact rfl)); go_simp; refine hK _ ?_; clear hK K
  refine rs_nil ?_
  intro w5 M
  have M5 : Has w [(g2, #[.int .u64 h, .int .u64 l, .int .u64 x], 60), (g3, #[.int .u64 H, .int .u64 L, .int .u64 X], 60), (g7, #[.int .u64 h, .int .u64 l, .int .u64 x, .int .u64 H, .int .u64 L, .int .u64 X], 60)] w5 := M
  clear M4 M
  refine H4 _ _ ?_
  clear H4 K4
  refine wp_ret ?_
  go_ret
  exact ⟨rfl, M5.below⟩

set_option maxRecDepth 100000 in
set_option maxHeartbeats 1000000 in
theorem fadd_no (h l x n : Nat) (w : World)
    (hb : okF h x = false)
    : Calls Try.prog 46 #[fv h l x, .int .u64 n] w fun e w' => e = .returned (.tuple #[.agg #[.int .u64 0, .int .u64 0, .int .u64 0], .int .i64 150]) ∧ Below w.heap.size w w' := by
  have M0 := Has.start w
  go_enter Try.func46, Try.ntmps46
  refine wp_seq_k (fun K1 H1 => ?_)
  refine sq_region ?_
  refine sq_alloc rfl M0 (T := 60) (z := #[.int .u64 h, .int .u64 l, .int .u64 x]) (fun w' => by go_simp) (fun K hK => ?_)
  intro g2 w1 M1
  clear M0
  go_simp; refine hK _ _ ?_; clear hK K
  refine sq_alloc rfl M1 (T := 60) (z := #[.int .u64 0, .int .u64 0, .int .u64 0]) (fun w' => by go_simp) (fun K hK => ?_)
  intro g4 w2 M2
  clear M1
  go_simp; refine hK _ _ ?_; clear hK K
  refine sq_ex rfl (fun K hK => ?_); apply Exists.intro; refine ⟨?_, ?_⟩; (focus (go_simp; try exact rfl)); go_simp; refine hK _ _ ?_; clear hK K
  refine sq_nil ?_
  refine H1 _ _ ?_
  clear H1 K1
  refine wp_seq_k (fun K2 H2 => ?_)
  refine wp_seq_k (fun K3 H3 => ?_)
  refine sq_region ?_
  refine sq_ex rfl (fun K hK => ?_); refine ⟨_, run_ld rfl rfl (M2.row 0 rfl) rfl Try.underlying60 frac_size, ?_⟩; go_simp; refine hK _ _ ?_; clear hK K
  refine sq_new rfl M2 (fun g => .slice (some ⟨g, 0, none⟩) 1 1) (T := 60) (z := #[.int .u64 h, .int .u64 l, .int .u64 x]) (fun w' => by go_simp) (fun K hK => ?_)
  intro g9 w3 M3
  clear M2
  go_simp; refine hK _ _ ?_; clear hK K
  refine sq_call rfl (fun w' => by go_simp) (right1 hb _ _ (M3.row 2 rfl)) (fun K hK => ?_)
  rintro e w4 ⟨rfl, hb⟩
  refine ⟨_, rfl, ?_⟩
  have M4 := M3.kept hb
  clear M3 hb
  go_simp; refine hK _ _ ?_; clear hK K
  refine sq_ex rfl (fun K hK => ?_); apply Exists.intro; refine ⟨?_, ?_⟩; (focus (go_simp; try exact rfl)); go_simp; refine hK _ _ ?_; clear hK K
  refine sq_nil ?_
  refine H3 _ _ ?_
  clear H3 K3
  refine wp_cond_true rfl ?_
  refine wp_seq_k (fun K4 H4 => ?_)
  refine sq_region ?_
  refine sq_ex rfl (fun K hK => ?_); apply Exists.intro; refine ⟨?_, ?_⟩; (focus (go_simp; try exact rfl)); go_simp; refine hK _ _ ?_; clear hK K
  refine sq_store rfl M4 1 rfl (run_st (cs := #[.int .u64 0, .int .u64 0, .int .u64 0]) rfl rfl rfl frac_size rfl (by simp [Value.oneCell'])) (fun K hK => ?_)
  intro w5 M5
  clear M4
  go_simp; refine hK _ _ ?_; clear hK K
  refine sq_ex rfl (fun K hK => ?_); apply Exists.intro; refine ⟨?_, ?_⟩; (focus (go_simp; try exact rfl)); go_simp; refine hK _ _ ?_; clear hK K
  refine sq_nil ?_
  refine H4 _ _ ?_
  clear H4 K4
  refine wp_ret ?_
  refine then_ret ?_
  refine ret_row_tmp Try.results46 rfl _ rfl (M5.row 1 rfl) Try.underlying60 rfl frac_size ⟨rfl, M5.below⟩

set_option maxRecDepth 100000 in
set_option maxHeartbeats 1000000 in
theorem fadd_yes (h l x n A B c P Q R q : Nat) (w : World)
    (hb : okF h x = true)
    (HO : Hid (Dt 28 #[.int .u64 n] (.agg #[.int .u64 0, .int .u64 n])))
    (HA : Hid (Dt 24 #[wv h l, .agg #[.int .u64 0, .int .u64 n]] (.tuple #[wv A B, .int .i64 c])))
    (HW : Hid (Dt 67 #[fv h l x, wv A B, .int .i64 c] (.tuple #[fv P Q R, .int .i64 q])))
    : Calls Try.prog 46 #[fv h l x, .int .u64 n] w fun e w' => e = .returned (.tuple #[fv P Q R, .int .i64 q]) ∧ Below w.heap.size w w' := by
  have M0 := Has.start w
  go_enter Try.func46, Try.ntmps46
  refine wp_seq_k (fun K1 H1 => ?_)
  refine sq_region ?_
  refine sq_alloc rfl M0 (T := 60) (z := #[.int .u64 h, .int .u64 l, .int .u64 x]) (fun w' => by go_simp) (fun K hK => ?_)
  intro g2 w1 M1
  clear M0
  go_simp; refine hK _ _ ?_; clear hK K
  refine sq_alloc rfl M1 (T := 60) (z := #[.int .u64 0, .int .u64 0, .int .u64 0]) (fun w' => by go_simp) (fun K hK => ?_)
  intro g4 w2 M2
  clear M1
  go_simp; refine hK _ _ ?_; clear hK K
  refine sq_ex rfl (fun K hK => ?_); apply Exists.intro; refine ⟨?_, ?_⟩; (focus (go_simp; try exact rfl)); go_simp; refine hK _ _ ?_; clear hK K
  refine sq_nil ?_
  refine H1 _ _ ?_
  clear H1 K1
  refine wp_seq_k (fun K2 H2 => ?_)
  refine wp_seq_k (fun K3 H3 => ?_)
  refine sq_region ?_
  refine sq_ex rfl (fun K hK => ?_); refine ⟨_, run_ld rfl rfl (M2.row 0 rfl) rfl Try.underlying60 frac_size, ?_⟩; go_simp; refine hK _ _ ?_; clear hK K
  refine sq_new rfl M2 (fun g => .slice (some ⟨g, 0, none⟩) 1 1) (T := 60) (z := #[.int .u64 h, .int .u64 l, .int .u64 x]) (fun w' => by go_simp) (fun K hK => ?_)
  intro g9 w3 M3
  clear M2
  go_simp; refine hK _ _ ?_; clear hK K
  refine sq_call rfl (fun w' => by go_simp) (right1 hb _ _ (M3.row 2 rfl)) (fun K hK => ?_)
  rintro e w4 ⟨rfl, hb⟩
  refine ⟨_, rfl, ?_⟩
  have M4 := M3.kept hb
  clear M3 hb
  go_simp; refine hK _ _ ?_; clear hK K
  refine sq_ex rfl (fun K hK => ?_); apply Exists.intro; refine ⟨?_, ?_⟩; (focus (go_simp; try exact rfl)); go_simp; refine hK _ _ ?_; clear hK K
  refine sq_nil ?_
  refine H3 _ _ ?_
  clear H3 K3
  refine wp_cond_false rfl ?_
  refine wp_skip ?_
  refine H2 _ _ ?_
  clear H2 K2
  refine wp_seq_k (fun K4 H4 => ?_)
  refine wp_region_rows (L := [(g2, #[.int .u64 h, .int .u64 l, .int .u64 x], 60), (g4, #[.int .u64 0, .int .u64 0, .int .u64 0], 60), (g9, #[.int .u64 h, .int .u64 l, .int .u64 x], 60)]) [(8, .box 24 #[.int .u64 0, .int .u64 0] 9)] [(3, fun v => v = .agg #[.int .u64 0, .int .u64 n]), (4, fun v => v = .tuple #[wv A B, .int .i64 c]), (8, fun v => ∃ g, v = .pointer (some ⟨g, 0, none⟩))] M4 (by kernel_rfl) (by kernel_rfl) (by kernel_rfl) (by kernel_rfl) ?_
  refine rs_ex rfl rfl rfl rfl rfl ⟨_, M4⟩ (fun K hK => ?_); apply Exists.intro; refine ⟨fun w' hw => ?_, ?_⟩; (focus (go_simp; try exact rfl)); go_simp; refine hK _ ?_; clear hK K
  refine rs_ex rfl rfl rfl rfl rfl ⟨_, M4⟩ (fun K hK => ?_); refine ⟨_, fun w' hw => run_ldm [.int .u64 h, .int .u64 l] rfl rfl (hw.row 0 rfl) (fun j v h => by match j with | 0 => simpa using h | 1 => simpa using h | (k + 2) => simp at h) rfl Try.underlying24 wide_size, ?_⟩; go_simp; refine hK _ ?_; clear hK K
  refine rs_ex rfl rfl rfl rfl rfl ⟨_, M4⟩ (fun K hK => ?_); apply Exists.intro; refine ⟨fun w' hw => ?_, ?_⟩; (focus (go_simp; try exact rfl)); go_simp; refine hK _ ?_; clear hK K
  refine rs_call rfl rfl (fun v => v = .agg #[.int .u64 0, .int .u64 n]) rfl rfl ⟨_, rfl⟩ (fun w' => by go_simp) (fun w' hw => (HO.out w').mono fun e w'' hh => ⟨_, hh.1, rfl, hh.2⟩) (fun K hK => ?_); rintro _ rfl; go_simp; refine hK _ ?_; clear hK K
  refine rs_call rfl rfl (fun v => v = .tuple #[wv A B, .int .i64 c]) rfl rfl ⟨_, rfl⟩ (fun w' => by go_simp) (fun w' hw => (HA.out w').mono fun e w'' hh => ⟨_, hh.1, rfl, hh.2⟩) (fun K hK => ?_); rintro _ rfl; go_simp; refine hK _ ?_; clear hK K
  refine rs_ex rfl rfl rfl rfl rfl ⟨_, M4⟩ (fun K hK => ?_); apply Exists.intro; refine ⟨fun w' hw => ?_, ?_⟩; (focus (go_simp; try exact rfl)); go_simp; refine hK _ ?_; clear hK K
  refine rs_ex rfl rfl rfl rfl rfl ⟨_, M4⟩ (fun K hK => ?_); apply Exists.intro; refine ⟨fun w' hw => ?_, ?_⟩; (focus (go_simp; try exact rfl)); go_simp; refine hK _ ?_; clear hK K
  refine rs_ex rfl rfl rfl rfl rfl ⟨_, M4⟩ (fun K hK => ?_); apply Exists.intro; refine ⟨fun w' hw => ?_, ?_⟩; (focus (go_simp; try exact rfl)); go_simp; refine hK _ ?_; clear hK K
  refine rs_alloc rfl rfl rfl 0 rfl rfl rfl (by decide) (by kernel_rfl) (fun w' => by go_simp) (fun K hK => ?_); intro g6; go_simp; refine hK _ ?_; clear hK K
  refine rs_store rfl rfl rfl rfl ⟨_, M4⟩ rfl 0 rfl rfl (by decide) rfl rfl (by kernel_rfl) rfl rfl (run_st (cs := #[.int .u64 A, .int .u64 B]) rfl rfl rfl wide_size rfl (by simp [Value.oneCell'])) (fun K hK => ?_); go_simp; refine hK _ ?_; clear hK K
  refine rs_ex rfl rfl rfl rfl rfl ⟨_, M4⟩ (fun K hK => ?_); apply Exists.intro; refine ⟨fun w' hw => ?_, ?_⟩; (focus (go_simp; try exact rfl)); go_simp; refine hK _ ?_; clear hK K
  refine rs_nil ?_
  intro w5 M
  have M5 : Has w [(g2, #[.int .u64 h, .int .u64 l, .int .u64 x], 60), (g4, #[.int .u64 0, .int .u64 0, .int .u64 0], 60), (g9, #[.int .u64 h, .int .u64 l, .int .u64 x], 60), (g6, #[.int .u64 A, .int .u64 B], 24)] w5 := M
  clear M4 M
  refine H4 _ _ ?_
  clear H4 K4
  refine wp_seq_k (fun K5 H5 => ?_)
  refine sq_region ?_
  refine sq_ex rfl (fun K hK => ?_); refine ⟨_, run_ld rfl rfl (M5.row 0 rfl) rfl Try.underlying60 frac_size, ?_⟩; go_simp; refine hK _ _ ?_; clear hK K
  refine sq_ex rfl (fun K hK => ?_); refine ⟨_, run_ld rfl rfl (M5.row 3 rfl) rfl Try.underlying24 wide_size, ?_⟩; go_simp; refine hK _ _ ?_; clear hK K
  refine sq_ex rfl (fun K hK => ?_); apply Exists.intro; refine ⟨?_, ?_⟩; (focus (go_simp; try exact rfl)); go_simp; refine hK _ _ ?_; clear hK K
  refine sq_call rfl (fun w' => by go_simp) (HW.out _) (fun K hK => ?_)
  rintro e w6 ⟨rfl, hb⟩
  refine ⟨_, rfl, ?_⟩
  have M6 := M5.kept hb
  clear M5 hb
  go_simp; refine hK _ _ ?_; clear hK K
  refine sq_ex rfl (fun K hK => ?_); apply Exists.intro; refine ⟨?_, ?_⟩; (focus (go_simp; try exact rfl)); go_simp; refine hK _ _ ?_; clear hK K
  refine sq_ex rfl (fun K hK => ?_); apply Exists.intro; refine ⟨?_, ?_⟩; (focus (go_simp; try exact rfl)); go_simp; refine hK _ _ ?_; clear hK K
  refine sq_store rfl M6 1 rfl (run_st (cs := #[.int .u64 P, .int .u64 Q, .int .u64 R]) rfl rfl rfl frac_size rfl (by simp [Value.oneCell'])) (fun K hK => ?_)
  intro w7 M7
  clear M6
  go_simp; refine hK _ _ ?_; clear hK K
  refine sq_ex rfl (fun K hK => ?_); apply Exists.intro; refine ⟨?_, ?_⟩; (focus (go_simp; try exact rfl)); go_simp; refine hK _ _ ?_; clear hK K
  refine sq_nil ?_
  refine H5 _ _ ?_
  clear H5 K5
  refine wp_ret ?_
  refine ret_row_tmp Try.results46 rfl _ rfl (M7.row 1 rfl) Try.underlying60 rfl frac_size ⟨rfl, M7.below⟩

set_option maxRecDepth 100000 in
set_option maxHeartbeats 1000000 in
theorem fless_no (h l x n : Nat) (w : World)
    (hb : okF h x = false)
    : Calls Try.prog 45 #[fv h l x, .int .u64 n] w fun e w' => e = .returned (.tuple #[.agg #[.int .u64 0, .int .u64 0, .int .u64 0], .int .i64 150]) ∧ Below w.heap.size w w' := by
  have M0 := Has.start w
  go_enter Try.func45, Try.ntmps45
  refine wp_seq_k (fun K1 H1 => ?_)
  refine sq_region ?_
  refine sq_alloc rfl M0 (T := 60) (z := #[.int .u64 h, .int .u64 l, .int .u64 x]) (fun w' => by go_simp) (fun K hK => ?_)
  intro g2 w1 M1
  clear M0
  go_simp; refine hK _ _ ?_; clear hK K
  refine sq_alloc rfl M1 (T := 60) (z := #[.int .u64 0, .int .u64 0, .int .u64 0]) (fun w' => by go_simp) (fun K hK => ?_)
  intro g4 w2 M2
  clear M1
  go_simp; refine hK _ _ ?_; clear hK K
  refine sq_ex rfl (fun K hK => ?_); apply Exists.intro; refine ⟨?_, ?_⟩; (focus (go_simp; try exact rfl)); go_simp; refine hK _ _ ?_; clear hK K
  refine sq_nil ?_
  refine H1 _ _ ?_
  clear H1 K1
  refine wp_seq_k (fun K2 H2 => ?_)
  refine wp_seq_k (fun K3 H3 => ?_)
  refine sq_region ?_
  refine sq_ex rfl (fun K hK => ?_); refine ⟨_, run_ld rfl rfl (M2.row 0 rfl) rfl Try.underlying60 frac_size, ?_⟩; go_simp; refine hK _ _ ?_; clear hK K
  refine sq_new rfl M2 (fun g => .slice (some ⟨g, 0, none⟩) 1 1) (T := 60) (z := #[.int .u64 h, .int .u64 l, .int .u64 x]) (fun w' => by go_simp) (fun K hK => ?_)
  intro g9 w3 M3
  clear M2
  go_simp; refine hK _ _ ?_; clear hK K
  refine sq_call rfl (fun w' => by go_simp) (right1 hb _ _ (M3.row 2 rfl)) (fun K hK => ?_)
  rintro e w4 ⟨rfl, hb⟩
  refine ⟨_, rfl, ?_⟩
  have M4 := M3.kept hb
  clear M3 hb
  go_simp; refine hK _ _ ?_; clear hK K
  refine sq_ex rfl (fun K hK => ?_); apply Exists.intro; refine ⟨?_, ?_⟩; (focus (go_simp; try exact rfl)); go_simp; refine hK _ _ ?_; clear hK K
  refine sq_nil ?_
  refine H3 _ _ ?_
  clear H3 K3
  refine wp_cond_true rfl ?_
  refine wp_seq_k (fun K4 H4 => ?_)
  refine sq_region ?_
  refine sq_ex rfl (fun K hK => ?_); apply Exists.intro; refine ⟨?_, ?_⟩; (focus (go_simp; try exact rfl)); go_simp; refine hK _ _ ?_; clear hK K
  refine sq_store rfl M4 1 rfl (run_st (cs := #[.int .u64 0, .int .u64 0, .int .u64 0]) rfl rfl rfl frac_size rfl (by simp [Value.oneCell'])) (fun K hK => ?_)
  intro w5 M5
  clear M4
  go_simp; refine hK _ _ ?_; clear hK K
  refine sq_ex rfl (fun K hK => ?_); apply Exists.intro; refine ⟨?_, ?_⟩; (focus (go_simp; try exact rfl)); go_simp; refine hK _ _ ?_; clear hK K
  refine sq_nil ?_
  refine H4 _ _ ?_
  clear H4 K4
  refine wp_ret ?_
  refine then_ret ?_
  refine ret_row_tmp Try.results45 rfl _ rfl (M5.row 1 rfl) Try.underlying60 rfl frac_size ⟨rfl, M5.below⟩

set_option maxRecDepth 100000 in
set_option maxHeartbeats 1000000 in
theorem fless_ok (h l x n A B : Nat) (w : World)
    (hb : okF h x = true)
    (HO : Hid (Dt 28 #[.int .u64 n] (.agg #[.int .u64 0, .int .u64 n])))
    (HS : Hid (Dt 30 #[wv h l, .agg #[.int .u64 0, .int .u64 n]] (.tuple #[.agg #[.int .u64 A, .int .u64 B], .int .i64 0])))
    : Calls Try.prog 45 #[fv h l x, .int .u64 n] w fun e w' => e = .returned (.tuple #[.agg #[.int .u64 A, .int .u64 B, .int .u64 x], .int .i64 0]) ∧ Below w.heap.size w w' := by
  have M0 := Has.start w
  go_enter Try.func45, Try.ntmps45
  refine wp_seq_k (fun K1 H1 => ?_)
  refine sq_region ?_
  refine sq_alloc rfl M0 (T := 60) (z := #[.int .u64 h, .int .u64 l, .int .u64 x]) (fun w' => by go_simp) (fun K hK => ?_)
  intro g2 w1 M1
  clear M0
  go_simp; refine hK _ _ ?_; clear hK K
  refine sq_alloc rfl M1 (T := 60) (z := #[.int .u64 0, .int .u64 0, .int .u64 0]) (fun w' => by go_simp) (fun K hK => ?_)
  intro g4 w2 M2
  clear M1
  go_simp; refine hK _ _ ?_; clear hK K
  refine sq_ex rfl (fun K hK => ?_); apply Exists.intro; refine ⟨?_, ?_⟩; (focus (go_simp; try exact rfl)); go_simp; refine hK _ _ ?_; clear hK K
  refine sq_nil ?_
  refine H1 _ _ ?_
  clear H1 K1
  refine wp_seq_k (fun K2 H2 => ?_)
  refine wp_seq_k (fun K3 H3 => ?_)
  refine sq_region ?_
  refine sq_ex rfl (fun K hK => ?_); refine ⟨_, run_ld rfl rfl (M2.row 0 rfl) rfl Try.underlying60 frac_size, ?_⟩; go_simp; refine hK _ _ ?_; clear hK K
  refine sq_new rfl M2 (fun g => .slice (some ⟨g, 0, none⟩) 1 1) (T := 60) (z := #[.int .u64 h, .int .u64 l, .int .u64 x]) (fun w' => by go_simp) (fun K hK => ?_)
  intro g9 w3 M3
  clear M2
  go_simp; refine hK _ _ ?_; clear hK K
  refine sq_call rfl (fun w' => by go_simp) (right1 hb _ _ (M3.row 2 rfl)) (fun K hK => ?_)
  rintro e w4 ⟨rfl, hb⟩
  refine ⟨_, rfl, ?_⟩
  have M4 := M3.kept hb
  clear M3 hb
  go_simp; refine hK _ _ ?_; clear hK K
  refine sq_ex rfl (fun K hK => ?_); apply Exists.intro; refine ⟨?_, ?_⟩; (focus (go_simp; try exact rfl)); go_simp; refine hK _ _ ?_; clear hK K
  refine sq_nil ?_
  refine H3 _ _ ?_
  clear H3 K3
  refine wp_cond_false rfl ?_
  refine wp_skip ?_
  refine H2 _ _ ?_
  clear H2 K2
  refine wp_seq_k (fun K4 H4 => ?_)
  refine wp_region_rows (L := [(g2, #[.int .u64 h, .int .u64 l, .int .u64 x], 60), (g4, #[.int .u64 0, .int .u64 0, .int .u64 0], 60), (g9, #[.int .u64 h, .int .u64 l, .int .u64 x], 60)]) [(8, .box 24 #[.int .u64 0, .int .u64 0] 9)] [(3, fun v => v = .agg #[.int .u64 0, .int .u64 n]), (4, fun v => v = .tuple #[.agg #[.int .u64 A, .int .u64 B], .int .i64 0]), (8, fun v => ∃ g, v = .pointer (some ⟨g, 0, none⟩))] M4 (by kernel_rfl) (by kernel_rfl) (by kernel_rfl) (by kernel_rfl) ?_
  refine rs_ex rfl rfl rfl rfl rfl ⟨_, M4⟩ (fun K hK => ?_); apply Exists.intro; refine ⟨fun w' hw => ?_, ?_⟩; (focus (go_simp; try exact rfl)); go_simp; refine hK _ ?_; clear hK K
  refine rs_ex rfl rfl rfl rfl rfl ⟨_, M4⟩ (fun K hK => ?_); refine ⟨_, fun w' hw => run_ldm [.int .u64 h, .int .u64 l] rfl rfl (hw.row 0 rfl) (fun j v h => by match j with | 0 => simpa using h | 1 => simpa using h | (k + 2) => simp at h) rfl Try.underlying24 wide_size, ?_⟩; go_simp; refine hK _ ?_; clear hK K
  refine rs_ex rfl rfl rfl rfl rfl ⟨_, M4⟩ (fun K hK => ?_); apply Exists.intro; refine ⟨fun w' hw => ?_, ?_⟩; (focus (go_simp; try exact rfl)); go_simp; refine hK _ ?_; clear hK K
  refine rs_call rfl rfl (fun v => v = .agg #[.int .u64 0, .int .u64 n]) rfl rfl ⟨_, rfl⟩ (fun w' => by go_simp) (fun w' hw => (HO.out w').mono fun e w'' hh => ⟨_, hh.1, rfl, hh.2⟩) (fun K hK => ?_); rintro _ rfl; go_simp; refine hK _ ?_; clear hK K
  refine rs_call rfl rfl (fun v => v = .tuple #[.agg #[.int .u64 A, .int .u64 B], .int .i64 0]) rfl rfl ⟨_, rfl⟩ (fun w' => by go_simp) (fun w' hw => (HS.out w').mono fun e w'' hh => ⟨_, hh.1, rfl, hh.2⟩) (fun K hK => ?_); rintro _ rfl; go_simp; refine hK _ ?_; clear hK K
  refine rs_ex rfl rfl rfl rfl rfl ⟨_, M4⟩ (fun K hK => ?_); apply Exists.intro; refine ⟨fun w' hw => ?_, ?_⟩; (focus (go_simp; try exact rfl)); go_simp; refine hK _ ?_; clear hK K
  refine rs_ex rfl rfl rfl rfl rfl ⟨_, M4⟩ (fun K hK => ?_); apply Exists.intro; refine ⟨fun w' hw => ?_, ?_⟩; (focus (go_simp; try exact rfl)); go_simp; refine hK _ ?_; clear hK K
  refine rs_ex rfl rfl rfl rfl rfl ⟨_, M4⟩ (fun K hK => ?_); apply Exists.intro; refine ⟨fun w' hw => ?_, ?_⟩; (focus (go_simp; try exact rfl)); go_simp; refine hK _ ?_; clear hK K
  refine rs_alloc rfl rfl rfl 0 rfl rfl rfl (by decide) (by kernel_rfl) (fun w' => by go_simp) (fun K hK => ?_); intro g6; go_simp; refine hK _ ?_; clear hK K
  refine rs_store rfl rfl rfl rfl ⟨_, M4⟩ rfl 0 rfl rfl (by decide) rfl rfl (by kernel_rfl) rfl rfl (run_st (cs := #[.int .u64 A, .int .u64 B]) rfl rfl rfl wide_size rfl (by simp [Value.oneCell'])) (fun K hK => ?_); go_simp; refine hK _ ?_; clear hK K
  refine rs_ex rfl rfl rfl rfl rfl ⟨_, M4⟩ (fun K hK => ?_); apply Exists.intro; refine ⟨fun w' hw => ?_, ?_⟩; (focus (go_simp; try exact rfl)); go_simp; refine hK _ ?_; clear hK K
  refine rs_nil ?_
  intro w5 M
  have M5 : Has w [(g2, #[.int .u64 h, .int .u64 l, .int .u64 x], 60), (g4, #[.int .u64 0, .int .u64 0, .int .u64 0], 60), (g9, #[.int .u64 h, .int .u64 l, .int .u64 x], 60), (g6, #[.int .u64 A, .int .u64 B], 24)] w5 := M
  clear M4 M
  refine H4 _ _ ?_
  clear H4 K4
  refine wp_seq_k (fun K5 H5 => ?_)
  refine wp_seq_k (fun K6 H6 => ?_)
  refine sq_region ?_
  refine sq_ex rfl (fun K hK => ?_); apply Exists.intro; refine ⟨?_, ?_⟩; (focus (go_simp; try exact rfl)); go_simp; refine hK _ _ ?_; clear hK K
  refine sq_ex rfl (fun K hK => ?_); refine ⟨.bool false, ?_, ?_⟩; (focus (go_simp; try (first | omega | (simp; done) | (simp; omega)))); go_simp; refine hK _ _ ?_; clear hK K
  refine sq_nil ?_
  refine H6 _ _ ?_
  clear H6 K6
  refine wp_cond_false rfl ?_
  refine wp_skip ?_
  refine H5 _ _ ?_
  clear H5 K5
  refine wp_seq_k (fun K7 H7 => ?_)
  refine sq_region ?_
  refine sq_ex rfl (fun K hK => ?_); refine ⟨_, run_ld rfl rfl (M5.row 3 rfl) rfl Try.underlying24 wide_size, ?_⟩; go_simp; refine hK _ _ ?_; clear hK K
  refine sq_ex rfl (fun K hK => ?_); apply Exists.intro; refine ⟨?_, ?_⟩; (focus (go_simp; try exact rfl)); go_simp; refine hK _ _ ?_; clear hK K
  refine sq_ex rfl (fun K hK => ?_); apply Exists.intro; refine ⟨?_, ?_⟩; (focus (have c := IsR.cell (M5.row 0 rfl); have f := IsR.froz (M5.row 0 rfl); go_simp; try exact rfl)); go_simp; refine hK _ _ ?_; clear hK K
  refine sq_ex rfl (fun K hK => ?_); apply Exists.intro; refine ⟨?_, ?_⟩; (focus (go_simp; try exact rfl)); go_simp; refine hK _ _ ?_; clear hK K
  refine sq_store rfl M5 1 rfl (run_st (cs := #[.int .u64 A, .int .u64 B, .int .u64 x]) rfl rfl rfl frac_size rfl (by simp [Value.oneCell'])) (fun K hK => ?_)
  intro w6 M6
  clear M5
  go_simp; refine hK _ _ ?_; clear hK K
  refine sq_ex rfl (fun K hK => ?_); apply Exists.intro; refine ⟨?_, ?_⟩; (focus (go_simp; try exact rfl)); go_simp; refine hK _ _ ?_; clear hK K
  refine sq_nil ?_
  refine H7 _ _ ?_
  clear H7 K7
  refine wp_ret ?_
  refine ret_row_tmp Try.results45 rfl _ rfl (M6.row 1 rfl) Try.underlying60 rfl frac_size ⟨rfl, M6.below⟩

set_option maxRecDepth 100000 in
set_option maxHeartbeats 1000000 in
theorem fless_low (h l x n A B : Nat) (w : World)
    (hb : okF h x = true)
    (HO : Hid (Dt 28 #[.int .u64 n] (.agg #[.int .u64 0, .int .u64 n])))
    (HS : Hid (Dt 30 #[wv h l, .agg #[.int .u64 0, .int .u64 n]] (.tuple #[.agg #[.int .u64 0, .int .u64 0], .int .i64 131])))
    : Calls Try.prog 45 #[fv h l x, .int .u64 n] w fun e w' => e = .returned (.tuple #[.agg #[.int .u64 0, .int .u64 0, .int .u64 x], .int .i64 0]) ∧ Below w.heap.size w w' := by
  have M0 := Has.start w
  go_enter Try.func45, Try.ntmps45
  refine wp_seq_k (fun K1 H1 => ?_)
  refine sq_region ?_
  refine sq_alloc rfl M0 (T := 60) (z := #[.int .u64 h, .int .u64 l, .int .u64 x]) (fun w' => by go_simp) (fun K hK => ?_)
  intro g2 w1 M1
  clear M0
  go_simp; refine hK _ _ ?_; clear hK K
  refine sq_alloc rfl M1 (T := 60) (z := #[.int .u64 0, .int .u64 0, .int .u64 0]) (fun w' => by go_simp) (fun K hK => ?_)
  intro g4 w2 M2
  clear M1
  go_simp; refine hK _ _ ?_; clear hK K
  refine sq_ex rfl (fun K hK => ?_); apply Exists.intro; refine ⟨?_, ?_⟩; (focus (go_simp; try exact rfl)); go_simp; refine hK _ _ ?_; clear hK K
  refine sq_nil ?_
  refine H1 _ _ ?_
  clear H1 K1
  refine wp_seq_k (fun K2 H2 => ?_)
  refine wp_seq_k (fun K3 H3 => ?_)
  refine sq_region ?_
  refine sq_ex rfl (fun K hK => ?_); refine ⟨_, run_ld rfl rfl (M2.row 0 rfl) rfl Try.underlying60 frac_size, ?_⟩; go_simp; refine hK _ _ ?_; clear hK K
  refine sq_new rfl M2 (fun g => .slice (some ⟨g, 0, none⟩) 1 1) (T := 60) (z := #[.int .u64 h, .int .u64 l, .int .u64 x]) (fun w' => by go_simp) (fun K hK => ?_)
  intro g9 w3 M3
  clear M2
  go_simp; refine hK _ _ ?_; clear hK K
  refine sq_call rfl (fun w' => by go_simp) (right1 hb _ _ (M3.row 2 rfl)) (fun K hK => ?_)
  rintro e w4 ⟨rfl, hb⟩
  refine ⟨_, rfl, ?_⟩
  have M4 := M3.kept hb
  clear M3 hb
  go_simp; refine hK _ _ ?_; clear hK K
  refine sq_ex rfl (fun K hK => ?_); apply Exists.intro; refine ⟨?_, ?_⟩; (focus (go_simp; try exact rfl)); go_simp; refine hK _ _ ?_; clear hK K
  refine sq_nil ?_
  refine H3 _ _ ?_
  clear H3 K3
  refine wp_cond_false rfl ?_
  refine wp_skip ?_
  refine H2 _ _ ?_
  clear H2 K2
  refine wp_seq_k (fun K4 H4 => ?_)
  refine wp_region_rows (L := [(g2, #[.int .u64 h, .int .u64 l, .int .u64 x], 60), (g4, #[.int .u64 0, .int .u64 0, .int .u64 0], 60), (g9, #[.int .u64 h, .int .u64 l, .int .u64 x], 60)]) [(8, .box 24 #[.int .u64 0, .int .u64 0] 9)] [(3, fun v => v = .agg #[.int .u64 0, .int .u64 n]), (4, fun v => v = .tuple #[.agg #[.int .u64 0, .int .u64 0], .int .i64 131]), (8, fun v => ∃ g, v = .pointer (some ⟨g, 0, none⟩))] M4 (by kernel_rfl) (by kernel_rfl) (by kernel_rfl) (by kernel_rfl) ?_
  refine rs_ex rfl rfl rfl rfl rfl ⟨_, M4⟩ (fun K hK => ?_); apply Exists.intro; refine ⟨fun w' hw => ?_, ?_⟩; (focus (go_simp; try exact rfl)); go_simp; refine hK _ ?_; clear hK K
  refine rs_ex rfl rfl rfl rfl rfl ⟨_, M4⟩ (fun K hK => ?_); refine ⟨_, fun w' hw => run_ldm [.int .u64 h, .int .u64 l] rfl rfl (hw.row 0 rfl) (fun j v h => by match j with | 0 => simpa using h | 1 => simpa using h | (k + 2) => simp at h) rfl Try.underlying24 wide_size, ?_⟩; go_simp; refine hK _ ?_; clear hK K
  refine rs_ex rfl rfl rfl rfl rfl ⟨_, M4⟩ (fun K hK => ?_); apply Exists.intro; refine ⟨fun w' hw => ?_, ?_⟩; (focus (go_simp; try exact rfl)); go_simp; refine hK _ ?_; clear hK K
  refine rs_call rfl rfl (fun v => v = .agg #[.int .u64 0, .int .u64 n]) rfl rfl ⟨_, rfl⟩ (fun w' => by go_simp) (fun w' hw => (HO.out w').mono fun e w'' hh => ⟨_, hh.1, rfl, hh.2⟩) (fun K hK => ?_); rintro _ rfl; go_simp; refine hK _ ?_; clear hK K
  refine rs_call rfl rfl (fun v => v = .tuple #[.agg #[.int .u64 0, .int .u64 0], .int .i64 131]) rfl rfl ⟨_, rfl⟩ (fun w' => by go_simp) (fun w' hw => (HS.out w').mono fun e w'' hh => ⟨_, hh.1, rfl, hh.2⟩) (fun K hK => ?_); rintro _ rfl; go_simp; refine hK _ ?_; clear hK K
  refine rs_ex rfl rfl rfl rfl rfl ⟨_, M4⟩ (fun K hK => ?_); apply Exists.intro; refine ⟨fun w' hw => ?_, ?_⟩; (focus (go_simp; try exact rfl)); go_simp; refine hK _ ?_; clear hK K
  refine rs_ex rfl rfl rfl rfl rfl ⟨_, M4⟩ (fun K hK => ?_); apply Exists.intro; refine ⟨fun w' hw => ?_, ?_⟩; (focus (go_simp; try exact rfl)); go_simp; refine hK _ ?_; clear hK K
  refine rs_ex rfl rfl rfl rfl rfl ⟨_, M4⟩ (fun K hK => ?_); apply Exists.intro; refine ⟨fun w' hw => ?_, ?_⟩; (focus (go_simp; try exact rfl)); go_simp; refine hK _ ?_; clear hK K
  refine rs_alloc rfl rfl rfl 0 rfl rfl rfl (by decide) (by kernel_rfl) (fun w' => by go_simp) (fun K hK => ?_); intro g6; go_simp; refine hK _ ?_; clear hK K
  refine rs_store rfl rfl rfl rfl ⟨_, M4⟩ rfl 0 rfl rfl (by decide) rfl rfl (by kernel_rfl) rfl rfl (run_st (cs := #[.int .u64 0, .int .u64 0]) rfl rfl rfl wide_size rfl (by simp [Value.oneCell'])) (fun K hK => ?_); go_simp; refine hK _ ?_; clear hK K
  refine rs_ex rfl rfl rfl rfl rfl ⟨_, M4⟩ (fun K hK => ?_); apply Exists.intro; refine ⟨fun w' hw => ?_, ?_⟩; (focus (go_simp; try exact rfl)); go_simp; refine hK _ ?_; clear hK K
  refine rs_nil ?_
  intro w5 M
  have M5 : Has w [(g2, #[.int .u64 h, .int .u64 l, .int .u64 x], 60), (g4, #[.int .u64 0, .int .u64 0, .int .u64 0], 60), (g9, #[.int .u64 h, .int .u64 l, .int .u64 x], 60), (g6, #[.int .u64 0, .int .u64 0], 24)] w5 := M
  clear M4 M
  refine H4 _ _ ?_
  clear H4 K4
  refine wp_seq_k (fun K5 H5 => ?_)
  refine wp_seq_k (fun K6 H6 => ?_)
  refine sq_region ?_
  refine sq_ex rfl (fun K hK => ?_); apply Exists.intro; refine ⟨?_, ?_⟩; (focus (go_simp; try exact rfl)); go_simp; refine hK _ _ ?_; clear hK K
  refine sq_ex rfl (fun K hK => ?_); refine ⟨.bool true, ?_, ?_⟩; (focus (go_simp; try (first | omega | (simp; done) | (simp; omega)))); go_simp; refine hK _ _ ?_; clear hK K
  refine sq_nil ?_
  refine H6 _ _ ?_
  clear H6 K6
  refine wp_cond_true rfl ?_
  refine sq_region ?_
  refine sq_ex rfl (fun K hK => ?_); apply Exists.intro; refine ⟨?_, ?_⟩; (focus (go_simp; try exact rfl)); go_simp; refine hK _ _ ?_; clear hK K
  refine sq_store rfl M5 3 rfl (run_st (cs := #[.int .u64 0, .int .u64 0]) rfl rfl rfl wide_size rfl (by simp [Value.oneCell'])) (fun K hK => ?_)
  intro w6 M6
  clear M5
  go_simp; refine hK _ _ ?_; clear hK K
  refine sq_nil ?_
  refine H5 _ _ ?_
  clear H5 K5
  refine wp_seq_k (fun K7 H7 => ?_)
  refine sq_region ?_
  refine sq_ex rfl (fun K hK => ?_); refine ⟨_, run_ld rfl rfl (M6.row 3 rfl) rfl Try.underlying24 wide_size, ?_⟩; go_simp; refine hK _ _ ?_; clear hK K
  refine sq_ex rfl (fun K hK => ?_); apply Exists.intro; refine ⟨?_, ?_⟩; (focus (go_simp; try exact rfl)); go_simp; refine hK _ _ ?_; clear hK K
  refine sq_ex rfl (fun K hK => ?_); apply Exists.intro; refine ⟨?_, ?_⟩; (focus (have c := IsR.cell (M6.row 0 rfl); have f := IsR.froz (M6.row 0 rfl); go_simp; try exact rfl)); go_simp; refine hK _ _ ?_; clear hK K
  refine sq_ex rfl (fun K hK => ?_); apply Exists.intro; refine ⟨?_, ?_⟩; (focus (go_simp; try exact rfl)); go_simp; refine hK _ _ ?_; clear hK K
  refine sq_store rfl M6 1 rfl (run_st (cs := #[.int .u64 0, .int .u64 0, .int .u64 x]) rfl rfl rfl frac_size rfl (by simp [Value.oneCell'])) (fun K hK => ?_)
  intro w7 M7
  clear M6
  go_simp; refine hK _ _ ?_; clear hK K
  refine sq_ex rfl (fun K hK => ?_); apply Exists.intro; refine ⟨?_, ?_⟩; (focus (go_simp; try exact rfl)); go_simp; refine hK _ _ ?_; clear hK K
  refine sq_nil ?_
  refine H7 _ _ ?_
  clear H7 K7
  refine wp_ret ?_
  refine ret_row_tmp Try.results45 rfl _ rfl (M7.row 1 rfl) Try.underlying60 rfl frac_size ⟨rfl, M7.below⟩

set_option maxRecDepth 100000 in
set_option maxHeartbeats 1000000 in
theorem fover_no (h l x y : Nat) (w : World)
    (hb : okF h x = false)
    : Calls Try.prog 44 #[fv h l x, .int .u64 y] w fun e w' => e = .returned (.tuple #[.agg #[.int .u64 0, .int .u64 0, .int .u64 0], .int .i64 150]) ∧ Below w.heap.size w w' := by
  have M0 := Has.start w
  go_enter Try.func44, Try.ntmps44
  refine wp_seq_k (fun K1 H1 => ?_)
  refine sq_region ?_
  refine sq_alloc rfl M0 (T := 60) (z := #[.int .u64 h, .int .u64 l, .int .u64 x]) (fun w' => by go_simp) (fun K hK => ?_)
  intro g2 w1 M1
  clear M0
  go_simp; refine hK _ _ ?_; clear hK K
  refine sq_alloc rfl M1 (T := 60) (z := #[.int .u64 0, .int .u64 0, .int .u64 0]) (fun w' => by go_simp) (fun K hK => ?_)
  intro g4 w2 M2
  clear M1
  go_simp; refine hK _ _ ?_; clear hK K
  refine sq_ex rfl (fun K hK => ?_); apply Exists.intro; refine ⟨?_, ?_⟩; (focus (go_simp; try exact rfl)); go_simp; refine hK _ _ ?_; clear hK K
  refine sq_nil ?_
  refine H1 _ _ ?_
  clear H1 K1
  refine wp_seq_k (fun K2 H2 => ?_)
  refine wp_block ?_
  refine wp_seq_k (fun K3 H3 => ?_)
  refine sq_region ?_
  refine sq_ex rfl (fun K hK => ?_); refine ⟨_, run_ld rfl rfl (M2.row 0 rfl) rfl Try.underlying60 frac_size, ?_⟩; go_simp; refine hK _ _ ?_; clear hK K
  refine sq_new rfl M2 (fun g => .slice (some ⟨g, 0, none⟩) 1 1) (T := 60) (z := #[.int .u64 h, .int .u64 l, .int .u64 x]) (fun w' => by go_simp) (fun K hK => ?_)
  intro g10 w3 M3
  clear M2
  go_simp; refine hK _ _ ?_; clear hK K
  refine sq_call rfl (fun w' => by go_simp) (right1 hb _ _ (M3.row 2 rfl)) (fun K hK => ?_)
  rintro e w4 ⟨rfl, hb⟩
  refine ⟨_, rfl, ?_⟩
  have M4 := M3.kept hb
  clear M3 hb
  go_simp; refine hK _ _ ?_; clear hK K
  refine sq_ex rfl (fun K hK => ?_); apply Exists.intro; refine ⟨?_, ?_⟩; (focus (go_simp; try exact rfl)); go_simp; refine hK _ _ ?_; clear hK K
  refine sq_ex rfl (fun K hK => ?_); apply Exists.intro; refine ⟨?_, ?_⟩; (focus (go_simp; try exact rfl)); go_simp; refine hK _ _ ?_; clear hK K
  refine sq_nil ?_
  refine H3 _ _ ?_
  clear H3 K3
  refine wp_cond_true rfl ?_
  refine wp_seq_k (fun K4 H4 => ?_)
  refine sq_region ?_
  refine sq_ex rfl (fun K hK => ?_); apply Exists.intro; refine ⟨?_, ?_⟩; (focus (go_simp; try exact rfl)); go_simp; refine hK _ _ ?_; clear hK K
  refine sq_store rfl M4 1 rfl (run_st (cs := #[.int .u64 0, .int .u64 0, .int .u64 0]) rfl rfl rfl frac_size rfl (by simp [Value.oneCell'])) (fun K hK => ?_)
  intro w5 M5
  clear M4
  go_simp; refine hK _ _ ?_; clear hK K
  refine sq_ex rfl (fun K hK => ?_); apply Exists.intro; refine ⟨?_, ?_⟩; (focus (go_simp; try exact rfl)); go_simp; refine hK _ _ ?_; clear hK K
  refine sq_nil ?_
  refine H4 _ _ ?_
  clear H4 K4
  refine wp_ret ?_
  refine block_ret ?_
  refine then_ret ?_
  refine ret_row_tmp Try.results44 rfl _ rfl (M5.row 1 rfl) Try.underlying60 rfl frac_size ⟨rfl, M5.below⟩

set_option maxRecDepth 100000 in
set_option maxHeartbeats 1000000 in
theorem fover_arg (h l x y : Nat) (w : World)
    (hb : okF h x = true)
    (HW : Hid (Dt 65 #[.int .u64 y] (.bool false)))
    : Calls Try.prog 44 #[fv h l x, .int .u64 y] w fun e w' => e = .returned (.tuple #[.agg #[.int .u64 0, .int .u64 0, .int .u64 0], .int .i64 2]) ∧ Below w.heap.size w w' := by
  have M0 := Has.start w
  go_enter Try.func44, Try.ntmps44
  refine wp_seq_k (fun K1 H1 => ?_)
  refine sq_region ?_
  refine sq_alloc rfl M0 (T := 60) (z := #[.int .u64 h, .int .u64 l, .int .u64 x]) (fun w' => by go_simp) (fun K hK => ?_)
  intro g2 w1 M1
  clear M0
  go_simp; refine hK _ _ ?_; clear hK K
  refine sq_alloc rfl M1 (T := 60) (z := #[.int .u64 0, .int .u64 0, .int .u64 0]) (fun w' => by go_simp) (fun K hK => ?_)
  intro g4 w2 M2
  clear M1
  go_simp; refine hK _ _ ?_; clear hK K
  refine sq_ex rfl (fun K hK => ?_); apply Exists.intro; refine ⟨?_, ?_⟩; (focus (go_simp; try exact rfl)); go_simp; refine hK _ _ ?_; clear hK K
  refine sq_nil ?_
  refine H1 _ _ ?_
  clear H1 K1
  refine wp_seq_k (fun K2 H2 => ?_)
  refine wp_block ?_
  refine wp_seq_k (fun K3 H3 => ?_)
  refine sq_region ?_
  refine sq_ex rfl (fun K hK => ?_); refine ⟨_, run_ld rfl rfl (M2.row 0 rfl) rfl Try.underlying60 frac_size, ?_⟩; go_simp; refine hK _ _ ?_; clear hK K
  refine sq_new rfl M2 (fun g => .slice (some ⟨g, 0, none⟩) 1 1) (T := 60) (z := #[.int .u64 h, .int .u64 l, .int .u64 x]) (fun w' => by go_simp) (fun K hK => ?_)
  intro g10 w3 M3
  clear M2
  go_simp; refine hK _ _ ?_; clear hK K
  refine sq_call rfl (fun w' => by go_simp) (right1 hb _ _ (M3.row 2 rfl)) (fun K hK => ?_)
  rintro e w4 ⟨rfl, hb⟩
  refine ⟨_, rfl, ?_⟩
  have M4 := M3.kept hb
  clear M3 hb
  go_simp; refine hK _ _ ?_; clear hK K
  refine sq_ex rfl (fun K hK => ?_); apply Exists.intro; refine ⟨?_, ?_⟩; (focus (go_simp; try exact rfl)); go_simp; refine hK _ _ ?_; clear hK K
  refine sq_ex rfl (fun K hK => ?_); apply Exists.intro; refine ⟨?_, ?_⟩; (focus (go_simp; try exact rfl)); go_simp; refine hK _ _ ?_; clear hK K
  refine sq_nil ?_
  refine H3 _ _ ?_
  clear H3 K3
  refine wp_cond_false rfl ?_
  refine wp_seq_k (fun K4 H4 => ?_)
  refine sq_region ?_
  refine sq_ex rfl (fun K hK => ?_); apply Exists.intro; refine ⟨?_, ?_⟩; (focus (go_simp; try exact rfl)); go_simp; refine hK _ _ ?_; clear hK K
  refine sq_call rfl (fun w' => by go_simp) (HW.out _) (fun K hK => ?_)
  rintro e w5 ⟨rfl, hb⟩
  refine ⟨_, rfl, ?_⟩
  have M5 := M4.kept hb
  clear M4 hb
  go_simp; refine hK _ _ ?_; clear hK K
  refine sq_ex rfl (fun K hK => ?_); apply Exists.intro; refine ⟨?_, ?_⟩; (focus (go_simp; try exact rfl)); go_simp; refine hK _ _ ?_; clear hK K
  refine sq_ex rfl (fun K hK => ?_); apply Exists.intro; refine ⟨?_, ?_⟩; (focus (go_simp; try exact rfl)); go_simp; refine hK _ _ ?_; clear hK K
  refine sq_nil ?_
  refine H4 _ _ ?_
  clear H4 K4
  refine wp_cond_true rfl ?_
  refine wp_seq_k (fun K5 H5 => ?_)
  refine sq_region ?_
  refine sq_ex rfl (fun K hK => ?_); apply Exists.intro; refine ⟨?_, ?_⟩; (focus (go_simp; try exact rfl)); go_simp; refine hK _ _ ?_; clear hK K
  refine sq_store rfl M5 1 rfl (run_st (cs := #[.int .u64 0, .int .u64 0, .int .u64 0]) rfl rfl rfl frac_size rfl (by simp [Value.oneCell'])) (fun K hK => ?_)
  intro w6 M6
  clear M5
  go_simp; refine hK _ _ ?_; clear hK K
  refine sq_ex rfl (fun K hK => ?_); apply Exists.intro; refine ⟨?_, ?_⟩; (focus (go_simp; try exact rfl)); go_simp; refine hK _ _ ?_; clear hK K
  refine sq_nil ?_
  refine H5 _ _ ?_
  clear H5 K5
  refine wp_ret ?_
  refine block_ret ?_
  refine then_ret ?_
  refine ret_row_tmp Try.results44 rfl _ rfl (M6.row 1 rfl) Try.underlying60 rfl frac_size ⟨rfl, M6.below⟩

set_option maxRecDepth 100000 in
set_option maxHeartbeats 1000000 in
theorem fover_yes (h l x y A B c P Q R q : Nat) (w : World)
    (hb : okF h x = true)
    (HW : Hid (Dt 65 #[.int .u64 y] (.bool true)))
    (HS : Hid (Dt 17 #[wv h l, .int .u64 y, .int .u64 x] (.tuple #[wv A B, .int .i64 c])))
    (HI : Hid (Dt 67 #[.agg #[.int .u64 0, .int .u64 0, .int .u64 y], wv A B, .int .i64 c] (.tuple #[fv P Q R, .int .i64 q])))
    : Calls Try.prog 44 #[fv h l x, .int .u64 y] w fun e w' => e = .returned (.tuple #[fv P Q R, .int .i64 q]) ∧ Below w.heap.size w w' := by
  have M0 := Has.start w
  go_enter Try.func44, Try.ntmps44
  refine wp_seq_k (fun K1 H1 => ?_)
  refine sq_region ?_
  refine sq_alloc rfl M0 (T := 60) (z := #[.int .u64 h, .int .u64 l, .int .u64 x]) (fun w' => by go_simp) (fun K hK => ?_)
  intro g2 w1 M1
  clear M0
  go_simp; refine hK _ _ ?_; clear hK K
  refine sq_alloc rfl M1 (T := 60) (z := #[.int .u64 0, .int .u64 0, .int .u64 0]) (fun w' => by go_simp) (fun K hK => ?_)
  intro g4 w2 M2
  clear M1
  go_simp; refine hK _ _ ?_; clear hK K
  refine sq_ex rfl (fun K hK => ?_); apply Exists.intro; refine ⟨?_, ?_⟩; (focus (go_simp; try exact rfl)); go_simp; refine hK _ _ ?_; clear hK K
  refine sq_nil ?_
  refine H1 _ _ ?_
  clear H1 K1
  refine wp_seq_k (fun K2 H2 => ?_)
  refine wp_block ?_
  refine wp_seq_k (fun K3 H3 => ?_)
  refine sq_region ?_
  refine sq_ex rfl (fun K hK => ?_); refine ⟨_, run_ld rfl rfl (M2.row 0 rfl) rfl Try.underlying60 frac_size, ?_⟩; go_simp; refine hK _ _ ?_; clear hK K
  refine sq_new rfl M2 (fun g => .slice (some ⟨g, 0, none⟩) 1 1) (T := 60) (z := #[.int .u64 h, .int .u64 l, .int .u64 x]) (fun w' => by go_simp) (fun K hK => ?_)
  intro g10 w3 M3
  clear M2
  go_simp; refine hK _ _ ?_; clear hK K
  refine sq_call rfl (fun w' => by go_simp) (right1 hb _ _ (M3.row 2 rfl)) (fun K hK => ?_)
  rintro e w4 ⟨rfl, hb⟩
  refine ⟨_, rfl, ?_⟩
  have M4 := M3.kept hb
  clear M3 hb
  go_simp; refine hK _ _ ?_; clear hK K
  refine sq_ex rfl (fun K hK => ?_); apply Exists.intro; refine ⟨?_, ?_⟩; (focus (go_simp; try exact rfl)); go_simp; refine hK _ _ ?_; clear hK K
  refine sq_ex rfl (fun K hK => ?_); apply Exists.intro; refine ⟨?_, ?_⟩; (focus (go_simp; try exact rfl)); go_simp; refine hK _ _ ?_; clear hK K
  refine sq_nil ?_
  refine H3 _ _ ?_
  clear H3 K3
  refine wp_cond_false rfl ?_
  refine wp_seq_k (fun K4 H4 => ?_)
  refine sq_region ?_
  refine sq_ex rfl (fun K hK => ?_); apply Exists.intro; refine ⟨?_, ?_⟩; (focus (go_simp; try exact rfl)); go_simp; refine hK _ _ ?_; clear hK K
  refine sq_call rfl (fun w' => by go_simp) (HW.out _) (fun K hK => ?_)
  rintro e w5 ⟨rfl, hb⟩
  refine ⟨_, rfl, ?_⟩
  have M5 := M4.kept hb
  clear M4 hb
  go_simp; refine hK _ _ ?_; clear hK K
  refine sq_ex rfl (fun K hK => ?_); apply Exists.intro; refine ⟨?_, ?_⟩; (focus (go_simp; try exact rfl)); go_simp; refine hK _ _ ?_; clear hK K
  refine sq_ex rfl (fun K hK => ?_); apply Exists.intro; refine ⟨?_, ?_⟩; (focus (go_simp; try exact rfl)); go_simp; refine hK _ _ ?_; clear hK K
  refine sq_nil ?_
  refine H4 _ _ ?_
  clear H4 K4
  refine wp_cond_false rfl ?_
  refine wp_skip ?_
  refine H2 _ _ ?_
  clear H2 K2
  refine wp_seq_k (fun K5 H5 => ?_)
  refine sq_region ?_
  refine sq_ex rfl (fun K hK => ?_); apply Exists.intro; refine ⟨?_, ?_⟩; (focus (go_simp; try exact rfl)); go_simp; refine hK _ _ ?_; clear hK K
  refine sq_ex rfl (fun K hK => ?_); refine ⟨_, run_ldm [.int .u64 h, .int .u64 l] rfl rfl (M5.row 0 rfl) (fun j v h => by match j with | 0 => simpa using h | 1 => simpa using h | (k + 2) => simp at h) rfl Try.underlying24 wide_size, ?_⟩; go_simp; refine hK _ _ ?_; clear hK K
  refine sq_ex rfl (fun K hK => ?_); apply Exists.intro; refine ⟨?_, ?_⟩; (focus (go_simp; try exact rfl)); go_simp; refine hK _ _ ?_; clear hK K
  refine sq_ex rfl (fun K hK => ?_); apply Exists.intro; refine ⟨?_, ?_⟩; (focus (go_simp; try exact rfl)); go_simp; refine hK _ _ ?_; clear hK K
  refine sq_ex rfl (fun K hK => ?_); apply Exists.intro; refine ⟨?_, ?_⟩; (focus (have c := IsR.cell (M5.row 0 rfl); have f := IsR.froz (M5.row 0 rfl); go_simp; try exact rfl)); go_simp; refine hK _ _ ?_; clear hK K
  refine sq_call rfl (fun w' => by go_simp) (HS.out _) (fun K hK => ?_)
  rintro e w6 ⟨rfl, hb⟩
  refine ⟨_, rfl, ?_⟩
  have M6 := M5.kept hb
  clear M5 hb
  go_simp; refine hK _ _ ?_; clear hK K
  refine sq_ex rfl (fun K hK => ?_); apply Exists.intro; refine ⟨?_, ?_⟩; (focus (go_simp; try exact rfl)); go_simp; refine hK _ _ ?_; clear hK K
  refine sq_ex rfl (fun K hK => ?_); apply Exists.intro; refine ⟨?_, ?_⟩; (focus (go_simp; try exact rfl)); go_simp; refine hK _ _ ?_; clear hK K
  refine sq_ex rfl (fun K hK => ?_); apply Exists.intro; refine ⟨?_, ?_⟩; (focus (go_simp; try exact rfl)); go_simp; refine hK _ _ ?_; clear hK K
  refine sq_alloc rfl M6 (T := 24) (z := #[.int .u64 0, .int .u64 0]) (fun w' => by go_simp) (fun K hK => ?_)
  intro g6 w7 M7
  clear M6
  go_simp; refine hK _ _ ?_; clear hK K
  refine sq_store rfl M7 3 rfl (run_st (cs := #[.int .u64 A, .int .u64 B]) rfl rfl rfl wide_size rfl (by simp [Value.oneCell'])) (fun K hK => ?_)
  intro w8 M8
  clear M7
  go_simp; refine hK _ _ ?_; clear hK K
  refine sq_ex rfl (fun K hK => ?_); apply Exists.intro; refine ⟨?_, ?_⟩; (focus (go_simp; try exact rfl)); go_simp; refine hK _ _ ?_; clear hK K
  refine sq_nil ?_
  refine H5 _ _ ?_
  clear H5 K5
  refine wp_seq_k (fun K6 H6 => ?_)
  refine sq_region ?_
  refine sq_ex rfl (fun K hK => ?_); apply Exists.intro; refine ⟨?_, ?_⟩; (focus (go_simp; try exact rfl)); go_simp; refine hK _ _ ?_; clear hK K
  refine sq_ex rfl (fun K hK => ?_); apply Exists.intro; refine ⟨?_, ?_⟩; (focus (go_simp; try exact rfl)); go_simp; refine hK _ _ ?_; clear hK K
  refine sq_ex rfl (fun K hK => ?_); refine ⟨_, run_ld rfl rfl (M8.row 3 rfl) rfl Try.underlying24 wide_size, ?_⟩; go_simp; refine hK _ _ ?_; clear hK K
  refine sq_ex rfl (fun K hK => ?_); apply Exists.intro; refine ⟨?_, ?_⟩; (focus (go_simp; try exact rfl)); go_simp; refine hK _ _ ?_; clear hK K
  refine sq_call rfl (fun w' => by go_simp) (HI.out _) (fun K hK => ?_)
  rintro e w9 ⟨rfl, hb⟩
  refine ⟨_, rfl, ?_⟩
  have M9 := M8.kept hb
  clear M8 hb
  go_simp; refine hK _ _ ?_; clear hK K
  refine sq_ex rfl (fun K hK => ?_); apply Exists.intro; refine ⟨?_, ?_⟩; (focus (go_simp; try exact rfl)); go_simp; refine hK _ _ ?_; clear hK K
  refine sq_ex rfl (fun K hK => ?_); apply Exists.intro; refine ⟨?_, ?_⟩; (focus (go_simp; try exact rfl)); go_simp; refine hK _ _ ?_; clear hK K
  refine sq_store rfl M9 1 rfl (run_st (cs := #[.int .u64 P, .int .u64 Q, .int .u64 R]) rfl rfl rfl frac_size rfl (by simp [Value.oneCell'])) (fun K hK => ?_)
  intro w10 M10
  clear M9
  go_simp; refine hK _ _ ?_; clear hK K
  refine sq_ex rfl (fun K hK => ?_); apply Exists.intro; refine ⟨?_, ?_⟩; (focus (go_simp; try exact rfl)); go_simp; refine hK _ _ ?_; clear hK K
  refine sq_nil ?_
  refine H6 _ _ ?_
  clear H6 K6
  refine wp_ret ?_
  refine ret_row_tmp Try.results44 rfl _ rfl (M10.row 1 rfl) Try.underlying60 rfl frac_size ⟨rfl, M10.below⟩

set_option maxRecDepth 100000 in
set_option maxHeartbeats 1000000 in
theorem fwhole_no (h l x : Nat) (w : World)
    (hb : okF h x = false)
    : Calls Try.prog 43 #[fv h l x] w fun e w' => e = .returned (.tuple #[.agg #[.int .u64 0, .int .u64 0], .int .i64 150]) ∧ Below w.heap.size w w' := by
  have M0 := Has.start w
  go_enter Try.func43, Try.ntmps43
  refine wp_seq_k (fun K1 H1 => ?_)
  refine sq_region ?_
  refine sq_alloc rfl M0 (T := 60) (z := #[.int .u64 h, .int .u64 l, .int .u64 x]) (fun w' => by go_simp) (fun K hK => ?_)
  intro g1 w1 M1
  clear M0
  go_simp; refine hK _ _ ?_; clear hK K
  refine sq_alloc rfl M1 (T := 24) (z := #[.int .u64 0, .int .u64 0]) (fun w' => by go_simp) (fun K hK => ?_)
  intro g2 w2 M2
  clear M1
  go_simp; refine hK _ _ ?_; clear hK K
  refine sq_ex rfl (fun K hK => ?_); apply Exists.intro; refine ⟨?_, ?_⟩; (focus (go_simp; try exact rfl)); go_simp; refine hK _ _ ?_; clear hK K
  refine sq_nil ?_
  refine H1 _ _ ?_
  clear H1 K1
  refine wp_seq_k (fun K2 H2 => ?_)
  refine wp_seq_k (fun K3 H3 => ?_)
  refine sq_region ?_
  refine sq_ex rfl (fun K hK => ?_); refine ⟨_, run_ld rfl rfl (M2.row 0 rfl) rfl Try.underlying60 frac_size, ?_⟩; go_simp; refine hK _ _ ?_; clear hK K
  refine sq_new rfl M2 (fun g => .slice (some ⟨g, 0, none⟩) 1 1) (T := 60) (z := #[.int .u64 h, .int .u64 l, .int .u64 x]) (fun w' => by go_simp) (fun K hK => ?_)
  intro g8 w3 M3
  clear M2
  go_simp; refine hK _ _ ?_; clear hK K
  refine sq_call rfl (fun w' => by go_simp) (right1 hb _ _ (M3.row 2 rfl)) (fun K hK => ?_)
  rintro e w4 ⟨rfl, hb⟩
  refine ⟨_, rfl, ?_⟩
  have M4 := M3.kept hb
  clear M3 hb
  go_simp; refine hK _ _ ?_; clear hK K
  refine sq_ex rfl (fun K hK => ?_); apply Exists.intro; refine ⟨?_, ?_⟩; (focus (go_simp; try exact rfl)); go_simp; refine hK _ _ ?_; clear hK K
  refine sq_nil ?_
  refine H3 _ _ ?_
  clear H3 K3
  refine wp_cond_true rfl ?_
  refine wp_seq_k (fun K4 H4 => ?_)
  refine sq_region ?_
  refine sq_ex rfl (fun K hK => ?_); apply Exists.intro; refine ⟨?_, ?_⟩; (focus (go_simp; try exact rfl)); go_simp; refine hK _ _ ?_; clear hK K
  refine sq_store rfl M4 1 rfl (run_st (cs := #[.int .u64 0, .int .u64 0]) rfl rfl rfl wide_size rfl (by simp [Value.oneCell'])) (fun K hK => ?_)
  intro w5 M5
  clear M4
  go_simp; refine hK _ _ ?_; clear hK K
  refine sq_ex rfl (fun K hK => ?_); apply Exists.intro; refine ⟨?_, ?_⟩; (focus (go_simp; try exact rfl)); go_simp; refine hK _ _ ?_; clear hK K
  refine sq_nil ?_
  refine H4 _ _ ?_
  clear H4 K4
  refine wp_ret ?_
  refine then_ret ?_
  refine ret_row_tmp Try.results43 rfl _ rfl (M5.row 1 rfl) Try.underlying24 rfl wide_size ⟨rfl, M5.below⟩

set_option maxRecDepth 100000 in
set_option maxHeartbeats 1000000 in
theorem fwhole_yes (h l x A B r : Nat) (w : World)
    (hb : okF h x = true)
    (HD : Hid (Dt 16 #[wv h l, .int .u64 x] (.tuple #[wv A B, .int .u64 r, .int .i64 0])))
    : Calls Try.prog 43 #[fv h l x] w fun e w' => e = .returned (.tuple #[wv A B, .int .i64 0]) ∧ Below w.heap.size w w' := by
  have M0 := Has.start w
  go_enter Try.func43, Try.ntmps43
  refine wp_seq_k (fun K1 H1 => ?_)
  refine sq_region ?_
  refine sq_alloc rfl M0 (T := 60) (z := #[.int .u64 h, .int .u64 l, .int .u64 x]) (fun w' => by go_simp) (fun K hK => ?_)
  intro g1 w1 M1
  clear M0
  go_simp; refine hK _ _ ?_; clear hK K
  refine sq_alloc rfl M1 (T := 24) (z := #[.int .u64 0, .int .u64 0]) (fun w' => by go_simp) (fun K hK => ?_)
  intro g2 w2 M2
  clear M1
  go_simp; refine hK _ _ ?_; clear hK K
  refine sq_ex rfl (fun K hK => ?_); apply Exists.intro; refine ⟨?_, ?_⟩; (focus (go_simp; try exact rfl)); go_simp; refine hK _ _ ?_; clear hK K
  refine sq_nil ?_
  refine H1 _ _ ?_
  clear H1 K1
  refine wp_seq_k (fun K2 H2 => ?_)
  refine wp_seq_k (fun K3 H3 => ?_)
  refine sq_region ?_
  refine sq_ex rfl (fun K hK => ?_); refine ⟨_, run_ld rfl rfl (M2.row 0 rfl) rfl Try.underlying60 frac_size, ?_⟩; go_simp; refine hK _ _ ?_; clear hK K
  refine sq_new rfl M2 (fun g => .slice (some ⟨g, 0, none⟩) 1 1) (T := 60) (z := #[.int .u64 h, .int .u64 l, .int .u64 x]) (fun w' => by go_simp) (fun K hK => ?_)
  intro g8 w3 M3
  clear M2
  go_simp; refine hK _ _ ?_; clear hK K
  refine sq_call rfl (fun w' => by go_simp) (right1 hb _ _ (M3.row 2 rfl)) (fun K hK => ?_)
  rintro e w4 ⟨rfl, hb⟩
  refine ⟨_, rfl, ?_⟩
  have M4 := M3.kept hb
  clear M3 hb
  go_simp; refine hK _ _ ?_; clear hK K
  refine sq_ex rfl (fun K hK => ?_); apply Exists.intro; refine ⟨?_, ?_⟩; (focus (go_simp; try exact rfl)); go_simp; refine hK _ _ ?_; clear hK K
  refine sq_nil ?_
  refine H3 _ _ ?_
  clear H3 K3
  refine wp_cond_false rfl ?_
  refine wp_skip ?_
  refine H2 _ _ ?_
  clear H2 K2
  refine wp_seq_k (fun K4 H4 => ?_)
  refine sq_region ?_
  refine sq_ex rfl (fun K hK => ?_); apply Exists.intro; refine ⟨?_, ?_⟩; (focus (go_simp; try exact rfl)); go_simp; refine hK _ _ ?_; clear hK K
  refine sq_ex rfl (fun K hK => ?_); refine ⟨_, run_ldm [.int .u64 h, .int .u64 l] rfl rfl (M4.row 0 rfl) (fun j v h => by match j with | 0 => simpa using h | 1 => simpa using h | (k + 2) => simp at h) rfl Try.underlying24 wide_size, ?_⟩; go_simp; refine hK _ _ ?_; clear hK K
  refine sq_ex rfl (fun K hK => ?_); apply Exists.intro; refine ⟨?_, ?_⟩; (focus (go_simp; try exact rfl)); go_simp; refine hK _ _ ?_; clear hK K
  refine sq_ex rfl (fun K hK => ?_); apply Exists.intro; refine ⟨?_, ?_⟩; (focus (have c := IsR.cell (M4.row 0 rfl); have f := IsR.froz (M4.row 0 rfl); go_simp; try exact rfl)); go_simp; refine hK _ _ ?_; clear hK K
  refine sq_call rfl (fun w' => by go_simp) (HD.out _) (fun K hK => ?_)
  rintro e w5 ⟨rfl, hb⟩
  refine ⟨_, rfl, ?_⟩
  have M5 := M4.kept hb
  clear M4 hb
  go_simp; refine hK _ _ ?_; clear hK K
  refine sq_ex rfl (fun K hK => ?_); apply Exists.intro; refine ⟨?_, ?_⟩; (focus (go_simp; try exact rfl)); go_simp; refine hK _ _ ?_; clear hK K
  refine sq_ex rfl (fun K hK => ?_); apply Exists.intro; refine ⟨?_, ?_⟩; (focus (go_simp; try exact rfl)); go_simp; refine hK _ _ ?_; clear hK K
  refine sq_ex rfl (fun K hK => ?_); apply Exists.intro; refine ⟨?_, ?_⟩; (focus (go_simp; try exact rfl)); go_simp; refine hK _ _ ?_; clear hK K
  refine sq_ex rfl (fun K hK => ?_); apply Exists.intro; refine ⟨?_, ?_⟩; (focus (go_simp; try exact rfl)); go_simp; refine hK _ _ ?_; clear hK K
  refine sq_alloc rfl M5 (T := 24) (z := #[.int .u64 0, .int .u64 0]) (fun w' => by go_simp) (fun K hK => ?_)
  intro g4 w6 M6
  clear M5
  go_simp; refine hK _ _ ?_; clear hK K
  refine sq_store rfl M6 3 rfl (run_st (cs := #[.int .u64 A, .int .u64 B]) rfl rfl rfl wide_size rfl (by simp [Value.oneCell'])) (fun K hK => ?_)
  intro w7 M7
  clear M6
  go_simp; refine hK _ _ ?_; clear hK K
  refine sq_ex rfl (fun K hK => ?_); apply Exists.intro; refine ⟨?_, ?_⟩; (focus (go_simp; try exact rfl)); go_simp; refine hK _ _ ?_; clear hK K
  refine sq_ex rfl (fun K hK => ?_); apply Exists.intro; refine ⟨?_, ?_⟩; (focus (go_simp; try exact rfl)); go_simp; refine hK _ _ ?_; clear hK K
  refine sq_nil ?_
  refine H4 _ _ ?_
  clear H4 K4
  refine wp_seq_k (fun K5 H5 => ?_)
  refine sq_region ?_
  refine sq_ex rfl (fun K hK => ?_); refine ⟨_, run_ld rfl rfl (M7.row 3 rfl) rfl Try.underlying24 wide_size, ?_⟩; go_simp; refine hK _ _ ?_; clear hK K
  refine sq_store rfl M7 1 rfl (run_st (cs := #[.int .u64 A, .int .u64 B]) rfl rfl rfl wide_size rfl (by simp [Value.oneCell'])) (fun K hK => ?_)
  intro w8 M8
  clear M7
  go_simp; refine hK _ _ ?_; clear hK K
  refine sq_ex rfl (fun K hK => ?_); apply Exists.intro; refine ⟨?_, ?_⟩; (focus (go_simp; try exact rfl)); go_simp; refine hK _ _ ?_; clear hK K
  refine sq_nil ?_
  refine H5 _ _ ?_
  clear H5 K5
  refine wp_ret ?_
  refine ret_row_tmp Try.results43 rfl _ rfl (M8.row 1 rfl) Try.underlying24 rfl wide_size ⟨rfl, M8.below⟩

end Go.Proofs.Ytpjdojnbajoafaa
