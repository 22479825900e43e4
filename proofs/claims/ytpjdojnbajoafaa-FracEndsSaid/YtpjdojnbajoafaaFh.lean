/- The law FracOver: walks. -/
import Derived.Test.YtpjdojnbajoafaaFe
namespace Go.Proofs.Ytpjdojnbajoafaa
open Go Go.RowKit

set_option maxRecDepth 100000 in
set_option maxHeartbeats 1000000 in
theorem lover_bad (h l x y A B D E : Nat) (w : World)
    (HO : Hid (Dt 44 #[fv h l x, .int .u64 x] (.tuple #[.agg #[.int .u64 0, .int .u64 0, .int .u64 0], .int .i64 150])))
    (HK : Hid (Dt 39 #[fv h l x] (.int .i64 150)))
    : Calls Try.prog 11 #[fv h l x, .int .u64 y] w fun e w' => e = .returned (.bool true) ∧ Below w.heap.size w w' := by
  have M0 := Has.start w
  go_enter Try.func11, Try.ntmps11
  refine wp_seq_k (fun K1 H1 => ?_)
  refine sq_region ?_
  refine sq_alloc rfl M0 (T := 60) (z := #[.int .u64 h, .int .u64 l, .int .u64 x]) (fun w' => by go_simp) (fun K hK => ?_)
  intro g2 w1 M1
  clear M0
  go_simp; refine hK _ _ ?_; clear hK K
  refine sq_ex rfl (fun K hK => ?_); apply Exists.intro; refine ⟨?_, ?_⟩; (focus (go_simp; try exact rfl)); go_simp; refine hK _ _ ?_; clear hK K
  refine sq_nil ?_
  refine H1 _ _ ?_
  clear H1 K1
  refine wp_seq_k (fun K2 H2 => ?_)
  refine wp_seq_k (fun K3 H3 => ?_)
  refine sq_region ?_
  refine sq_call rfl (fun w' => by go_simp) (wakes5 _) (fun K hK => ?_)
  rintro e w2 ⟨rfl, hb⟩
  refine ⟨_, rfl, ?_⟩
  have M2 := M1.kept hb
  clear M1 hb
  go_simp; refine hK _ _ ?_; clear hK K
  refine sq_ex rfl (fun K hK => ?_); apply Exists.intro; refine ⟨?_, ?_⟩; (focus (go_simp; try exact rfl)); go_simp; refine hK _ _ ?_; clear hK K
  refine sq_nil ?_
  refine H3 _ _ ?_
  clear H3 K3
  refine wp_cond_false rfl ?_
  refine wp_skip ?_
  refine H2 _ _ ?_
  clear H2 K2
  refine wp_seq_k (fun K4 H4 => ?_)
  refine sq_region ?_
  refine sq_ex rfl (fun K hK => ?_); refine ⟨_, run_ld rfl rfl (M2.row 0 rfl) rfl Try.underlying60 frac_size, ?_⟩; go_simp; refine hK _ _ ?_; clear hK K
  refine sq_ex rfl (fun K hK => ?_); apply Exists.intro; refine ⟨?_, ?_⟩; (focus (go_simp; try exact rfl)); go_simp; refine hK _ _ ?_; clear hK K
  refine sq_ex rfl (fun K hK => ?_); apply Exists.intro; refine ⟨?_, ?_⟩; (focus (have c := IsR.cell (M2.row 0 rfl); have f := IsR.froz (M2.row 0 rfl); go_simp; try exact rfl)); go_simp; refine hK _ _ ?_; clear hK K
  refine sq_call rfl (fun w' => by go_simp) (HO.out _) (fun K hK => ?_)
  rintro e w3 ⟨rfl, hb⟩
  refine ⟨_, rfl, ?_⟩
  have M3 := M2.kept hb
  clear M2 hb
  go_simp; refine hK _ _ ?_; clear hK K
  refine sq_ex rfl (fun K hK => ?_); apply Exists.intro; refine ⟨?_, ?_⟩; (focus (go_simp; try exact rfl)); go_simp; refine hK _ _ ?_; clear hK K
  refine sq_ex rfl (fun K hK => ?_); apply Exists.intro; refine ⟨?_, ?_⟩; (focus (go_simp; try exact rfl)); go_simp; refine hK _ _ ?_; clear hK K
  refine sq_ex rfl (fun K hK => ?_); apply Exists.intro; refine ⟨?_, ?_⟩; (focus (go_simp; try exact rfl)); go_simp; refine hK _ _ ?_; clear hK K
  refine sq_alloc rfl M3 (T := 60) (z := #[.int .u64 0, .int .u64 0, .int .u64 0]) (fun w' => by go_simp) (fun K hK => ?_)
  intro g5 w4 M4
  clear M3
  go_simp; refine hK _ _ ?_; clear hK K
  refine sq_store rfl M4 1 rfl (run_st (cs := #[.int .u64 0, .int .u64 0, .int .u64 0]) rfl rfl rfl frac_size rfl (by simp [Value.oneCell'])) (fun K hK => ?_)
  intro w5 M5
  clear M4
  go_simp; refine hK _ _ ?_; clear hK K
  refine sq_ex rfl (fun K hK => ?_); apply Exists.intro; refine ⟨?_, ?_⟩; (focus (go_simp; try exact rfl)); go_simp; refine hK _ _ ?_; clear hK K
  refine sq_nil ?_
  refine H4 _ _ ?_
  clear H4 K4
  refine wp_seq_k (fun K5 H5 => ?_)
  refine wp_seq_k (fun K6 H6 => ?_)
  refine sq_region ?_
  refine sq_ex rfl (fun K hK => ?_); refine ⟨_, run_ld rfl rfl (M5.row 0 rfl) rfl Try.underlying60 frac_size, ?_⟩; go_simp; refine hK _ _ ?_; clear hK K
  refine sq_call rfl (fun w' => by go_simp) (HK.out _) (fun K hK => ?_)
  rintro e w6 ⟨rfl, hb⟩
  refine ⟨_, rfl, ?_⟩
  have M6 := M5.kept hb
  clear M5 hb
  go_simp; refine hK _ _ ?_; clear hK K
  refine sq_ex rfl (fun K hK => ?_); refine ⟨.bool true, ?_, ?_⟩; (focus (go_simp; try (first | omega | (simp; done) | (simp; omega)))); go_simp; refine hK _ _ ?_; clear hK K
  refine sq_nil ?_
  refine H6 _ _ ?_
  clear H6 K6
  refine wp_cond_true rfl ?_
  refine wp_seq_k (fun K7 H7 => ?_)
  refine sq_region ?_
  refine sq_ex rfl (fun K hK => ?_); apply Exists.intro; refine ⟨?_, ?_⟩; (focus (go_simp; try exact rfl)); go_simp; refine hK _ _ ?_; clear hK K
  refine sq_ex rfl (fun K hK => ?_); refine ⟨.bool true, ?_, ?_⟩; (focus (go_simp; try (first | omega | (simp; done) | (simp; omega)))); go_simp; refine hK _ _ ?_; clear hK K
  refine sq_ex rfl (fun K hK => ?_); apply Exists.intro; refine ⟨?_, ?_⟩; (focus (go_simp; try exact rfl)); go_simp; refine hK _ _ ?_; clear hK K
  refine sq_nil ?_
  refine H7 _ _ ?_
  clear H7 K7
  refine wp_ret ?_
  go_ret
  exact ⟨rfl, M6.below⟩

set_option maxRecDepth 100000 in
set_option maxHeartbeats 1000000 in
theorem lover_e2 (h l x y A B D E : Nat) (w : World)
    (HO : Hid (Dt 44 #[fv h l x, .int .u64 x] (.tuple #[fv h l x, .int .i64 0])))
    (HK : Hid (Dt 39 #[fv h l x] (.int .i64 0)))
    (HP : Hid (Dt 44 #[fv h l x, .int .u64 y] (.tuple #[.agg #[.int .u64 0, .int .u64 0, .int .u64 0], .int .i64 2])))
    : Calls Try.prog 11 #[fv h l x, .int .u64 y] w fun e w' => e = .returned (.bool true) ∧ Below w.heap.size w w' := by
  have M0 := Has.start w
  go_enter Try.func11, Try.ntmps11
  refine wp_seq_k (fun K1 H1 => ?_)
  refine sq_region ?_
  refine sq_alloc rfl M0 (T := 60) (z := #[.int .u64 h, .int .u64 l, .int .u64 x]) (fun w' => by go_simp) (fun K hK => ?_)
  intro g2 w1 M1
  clear M0
  go_simp; refine hK _ _ ?_; clear hK K
  refine sq_ex rfl (fun K hK => ?_); apply Exists.intro; refine ⟨?_, ?_⟩; (focus (go_simp; try exact rfl)); go_simp; refine hK _ _ ?_; clear hK K
  refine sq_nil ?_
  refine H1 _ _ ?_
  clear H1 K1
  refine wp_seq_k (fun K2 H2 => ?_)
  refine wp_seq_k (fun K3 H3 => ?_)
  refine sq_region ?_
  refine sq_call rfl (fun w' => by go_simp) (wakes5 _) (fun K hK => ?_)
  rintro e w2 ⟨rfl, hb⟩
  refine ⟨_, rfl, ?_⟩
  have M2 := M1.kept hb
  clear M1 hb
  go_simp; refine hK _ _ ?_; clear hK K
  refine sq_ex rfl (fun K hK => ?_); apply Exists.intro; refine ⟨?_, ?_⟩; (focus (go_simp; try exact rfl)); go_simp; refine hK _ _ ?_; clear hK K
  refine sq_nil ?_
  refine H3 _ _ ?_
  clear H3 K3
  refine wp_cond_false rfl ?_
  refine wp_skip ?_
  refine H2 _ _ ?_
  clear H2 K2
  refine wp_seq_k (fun K4 H4 => ?_)
  refine sq_region ?_
  refine sq_ex rfl (fun K hK => ?_); refine ⟨_, run_ld rfl rfl (M2.row 0 rfl) rfl Try.underlying60 frac_size, ?_⟩; go_simp; refine hK _ _ ?_; clear hK K
  refine sq_ex rfl (fun K hK => ?_); apply Exists.intro; refine ⟨?_, ?_⟩; (focus (go_simp; try exact rfl)); go_simp; refine hK _ _ ?_; clear hK K
  refine sq_ex rfl (fun K hK => ?_); apply Exists.intro; refine ⟨?_, ?_⟩; (focus (have c := IsR.cell (M2.row 0 rfl); have f := IsR.froz (M2.row 0 rfl); go_simp; try exact rfl)); go_simp; refine hK _ _ ?_; clear hK K
  refine sq_call rfl (fun w' => by go_simp) (HO.out _) (fun K hK => ?_)
  rintro e w3 ⟨rfl, hb⟩
  refine ⟨_, rfl, ?_⟩
  have M3 := M2.kept hb
  clear M2 hb
  go_simp; refine hK _ _ ?_; clear hK K
  refine sq_ex rfl (fun K hK => ?_); apply Exists.intro; refine ⟨?_, ?_⟩; (focus (go_simp; try exact rfl)); go_simp; refine hK _ _ ?_; clear hK K
  refine sq_ex rfl (fun K hK => ?_); apply Exists.intro; refine ⟨?_, ?_⟩; (focus (go_simp; try exact rfl)); go_simp; refine hK _ _ ?_; clear hK K
  refine sq_ex rfl (fun K hK => ?_); apply Exists.intro; refine ⟨?_, ?_⟩; (focus (go_simp; try exact rfl)); go_simp; refine hK _ _ ?_; clear hK K
  refine sq_alloc rfl M3 (T := 60) (z := #[.int .u64 0, .int .u64 0, .int .u64 0]) (fun w' => by go_simp) (fun K hK => ?_)
  intro g5 w4 M4
  clear M3
  go_simp; refine hK _ _ ?_; clear hK K
  refine sq_store rfl M4 1 rfl (run_st (cs := #[.int .u64 h, .int .u64 l, .int .u64 x]) rfl rfl rfl frac_size rfl (by simp [Value.oneCell'])) (fun K hK => ?_)
  intro w5 M5
  clear M4
  go_simp; refine hK _ _ ?_; clear hK K
  refine sq_ex rfl (fun K hK => ?_); apply Exists.intro; refine ⟨?_, ?_⟩; (focus (go_simp; try exact rfl)); go_simp; refine hK _ _ ?_; clear hK K
  refine sq_nil ?_
  refine H4 _ _ ?_
  clear H4 K4
  refine wp_seq_k (fun K5 H5 => ?_)
  refine wp_seq_k (fun K6 H6 => ?_)
  refine sq_region ?_
  refine sq_ex rfl (fun K hK => ?_); refine ⟨_, run_ld rfl rfl (M5.row 0 rfl) rfl Try.underlying60 frac_size, ?_⟩; go_simp; refine hK _ _ ?_; clear hK K
  refine sq_call rfl (fun w' => by go_simp) (HK.out _) (fun K hK => ?_)
  rintro e w6 ⟨rfl, hb⟩
  refine ⟨_, rfl, ?_⟩
  have M6 := M5.kept hb
  clear M5 hb
  go_simp; refine hK _ _ ?_; clear hK K
  refine sq_ex rfl (fun K hK => ?_); refine ⟨.bool false, ?_, ?_⟩; (focus (go_simp; try (first | omega | (simp; done) | (simp; omega)))); go_simp; refine hK _ _ ?_; clear hK K
  refine sq_nil ?_
  refine H6 _ _ ?_
  clear H6 K6
  refine wp_cond_false rfl ?_
  refine wp_skip ?_
  refine H5 _ _ ?_
  clear H5 K5
  refine wp_seq_k (fun K7 H7 => ?_)
  refine wp_seq_k (fun K8 H8 => ?_)
  refine sq_region ?_
  refine sq_ex rfl (fun K hK => ?_); apply Exists.intro; refine ⟨?_, ?_⟩; (focus (go_simp; try exact rfl)); go_simp; refine hK _ _ ?_; clear hK K
  refine sq_ex rfl (fun K hK => ?_); refine ⟨.bool false, ?_, ?_⟩; (focus (go_simp; try (first | omega | (simp; done) | (simp; omega)))); go_simp; refine hK _ _ ?_; clear hK K
  refine sq_ex rfl (fun K hK => ?_); apply Exists.intro; refine ⟨?_, ?_⟩; (focus (go_simp; try exact rfl)); go_simp; refine hK _ _ ?_; clear hK K
  refine sq_ex rfl (fun K hK => ?_); refine ⟨_, run_ld rfl rfl (M6.row 1 rfl) rfl Try.underlying60 frac_size, ?_⟩; go_simp; refine hK _ _ ?_; clear hK K
  refine sq_ex rfl (fun K hK => ?_); refine ⟨_, run_ld rfl rfl (M6.row 0 rfl) rfl Try.underlying60 frac_size, ?_⟩; go_simp; refine hK _ _ ?_; clear hK K
  refine sq_ex rfl (fun K hK => ?_); refine ⟨.bool false, ?_, ?_⟩; (focus (go_simp; try (first | omega | (simp; done) | (simp; omega)))); go_simp; refine hK _ _ ?_; clear hK K
  refine sq_ex rfl (fun K hK => ?_); apply Exists.intro; refine ⟨?_, ?_⟩; (focus (go_simp; try exact rfl)); go_simp; refine hK _ _ ?_; clear hK K
  refine sq_nil ?_
  refine H8 _ _ ?_
  clear H8 K8
  refine wp_cond_false rfl ?_
  refine wp_skip ?_
  refine H7 _ _ ?_
  clear H7 K7
  refine wp_seq_k (fun K9 H9 => ?_)
  refine sq_region ?_
  refine sq_ex rfl (fun K hK => ?_); refine ⟨_, run_ld rfl rfl (M6.row 0 rfl) rfl Try.underlying60 frac_size, ?_⟩; go_simp; refine hK _ _ ?_; clear hK K
  refine sq_ex rfl (fun K hK => ?_); apply Exists.intro; refine ⟨?_, ?_⟩; (focus (go_simp; try exact rfl)); go_simp; refine hK _ _ ?_; clear hK K
  refine sq_call rfl (fun w' => by go_simp) (HP.out _) (fun K hK => ?_)
  rintro e w7 ⟨rfl, hb⟩
  refine ⟨_, rfl, ?_⟩
  have M7 := M6.kept hb
  clear M6 hb
  go_simp; refine hK _ _ ?_; clear hK K
  refine sq_ex rfl (fun K hK => ?_); apply Exists.intro; refine ⟨?_, ?_⟩; (focus (go_simp; try exact rfl)); go_simp; refine hK _ _ ?_; clear hK K
  refine sq_ex rfl (fun K hK => ?_); apply Exists.intro; refine ⟨?_, ?_⟩; (focus (go_simp; try exact rfl)); go_simp; refine hK _ _ ?_; clear hK K
  refine sq_ex rfl (fun K hK => ?_); apply Exists.intro; refine ⟨?_, ?_⟩; (focus (go_simp; try exact rfl)); go_simp; refine hK _ _ ?_; clear hK K
  refine sq_alloc rfl M7 (T := 60) (z := #[.int .u64 0, .int .u64 0, .int .u64 0]) (fun w' => by go_simp) (fun K hK => ?_)
  intro g7 w8 M8
  clear M7
  go_simp; refine hK _ _ ?_; clear hK K
  refine sq_store rfl M8 2 rfl (run_st (cs := #[.int .u64 0, .int .u64 0, .int .u64 0]) rfl rfl rfl frac_size rfl (by simp [Value.oneCell'])) (fun K hK => ?_)
  intro w9 M9
  clear M8
  go_simp; refine hK _ _ ?_; clear hK K
  refine sq_ex rfl (fun K hK => ?_); apply Exists.intro; refine ⟨?_, ?_⟩; (focus (go_simp; try exact rfl)); go_simp; refine hK _ _ ?_; clear hK K
  refine sq_nil ?_
  refine H9 _ _ ?_
  clear H9 K9
  refine wp_seq_k (fun K10 H10 => ?_)
  refine wp_seq_k (fun K11 H11 => ?_)
  refine sq_region ?_
  refine sq_ex rfl (fun K hK => ?_); apply Exists.intro; refine ⟨?_, ?_⟩; (focus (go_simp; try exact rfl)); go_simp; refine hK _ _ ?_; clear hK K
  refine sq_ex rfl (fun K hK => ?_); refine ⟨.bool true, ?_, ?_⟩; (focus (go_simp; try (first | omega | (simp; done) | (simp; omega)))); go_simp; refine hK _ _ ?_; clear hK K
  refine sq_nil ?_
  refine H11 _ _ ?_
  clear H11 K11
  refine wp_cond_true rfl ?_
  refine wp_seq_k (fun K12 H12 => ?_)
  refine sq_region ?_
  refine sq_ex rfl (fun K hK => ?_); refine ⟨_, run_ld rfl rfl (M9.row 2 rfl) rfl Try.underlying60 frac_size, ?_⟩; go_simp; refine hK _ _ ?_; clear hK K
  refine sq_ex rfl (fun K hK => ?_); apply Exists.intro; refine ⟨?_, ?_⟩; (focus (go_simp; try exact rfl)); go_simp; refine hK _ _ ?_; clear hK K
  refine sq_ex rfl (fun K hK => ?_); refine ⟨.bool true, ?_, ?_⟩; (focus (go_simp; try (first | omega | (simp; done) | (simp; omega)))); go_simp; refine hK _ _ ?_; clear hK K
  refine sq_ex rfl (fun K hK => ?_); apply Exists.intro; refine ⟨?_, ?_⟩; (focus (go_simp; try exact rfl)); go_simp; refine hK _ _ ?_; clear hK K
  refine sq_nil ?_
  refine H12 _ _ ?_
  clear H12 K12
  refine wp_ret ?_
  go_ret
  exact ⟨rfl, M9.below⟩

set_option maxRecDepth 100000 in
set_option maxHeartbeats 1000000 in
theorem lover_e131 (h l x y A B D E : Nat) (w : World)
    (HO : Hid (Dt 44 #[fv h l x, .int .u64 x] (.tuple #[fv h l x, .int .i64 0])))
    (HK : Hid (Dt 39 #[fv h l x] (.int .i64 0)))
    (HP : Hid (Dt 44 #[fv h l x, .int .u64 y] (.tuple #[.agg #[.int .u64 0, .int .u64 0, .int .u64 0], .int .i64 131])))
    : Calls Try.prog 11 #[fv h l x, .int .u64 y] w fun e w' => e = .returned (.bool true) ∧ Below w.heap.size w w' := by
  have M0 := Has.start w
  go_enter Try.func11, Try.ntmps11
  refine wp_seq_k (fun K1 H1 => ?_)
  refine sq_region ?_
  refine sq_alloc rfl M0 (T := 60) (z := #[.int .u64 h, .int .u64 l, .int .u64 x]) (fun w' => by go_simp) (fun K hK => ?_)
  intro g2 w1 M1
  clear M0
  go_simp; refine hK _ _ ?_; clear hK K
  refine sq_ex rfl (fun K hK => ?_); apply Exists.intro; refine ⟨?_, ?_⟩; (focus (go_simp; try exact rfl)); go_simp; refine hK _ _ ?_; clear hK K
  refine sq_nil ?_
  refine H1 _ _ ?_
  clear H1 K1
  refine wp_seq_k (fun K2 H2 => ?_)
  refine wp_seq_k (fun K3 H3 => ?_)
  refine sq_region ?_
  refine sq_call rfl (fun w' => by go_simp) (wakes5 _) (fun K hK => ?_)
  rintro e w2 ⟨rfl, hb⟩
  refine ⟨_, rfl, ?_⟩
  have M2 := M1.kept hb
  clear M1 hb
  go_simp; refine hK _ _ ?_; clear hK K
  refine sq_ex rfl (fun K hK => ?_); apply Exists.intro; refine ⟨?_, ?_⟩; (focus (go_simp; try exact rfl)); go_simp; refine hK _ _ ?_; clear hK K
  refine sq_nil ?_
  refine H3 _ _ ?_
  clear H3 K3
  refine wp_cond_false rfl ?_
  refine wp_skip ?_
  refine H2 _ _ ?_
  clear H2 K2
  refine wp_seq_k (fun K4 H4 => ?_)
  refine sq_region ?_
  refine sq_ex rfl (fun K hK => ?_); refine ⟨_, run_ld rfl rfl (M2.row 0 rfl) rfl Try.underlying60 frac_size, ?_⟩; go_simp; refine hK _ _ ?_; clear hK K
  refine sq_ex rfl (fun K hK => ?_); apply Exists.intro; refine ⟨?_, ?_⟩; (focus (go_simp; try exact rfl)); go_simp; refine hK _ _ ?_; clear hK K
  refine sq_ex rfl (fun K hK => ?_); apply Exists.intro; refine ⟨?_, ?_⟩; (focus (have c := IsR.cell (M2.row 0 rfl); have f := IsR.froz (M2.row 0 rfl); go_simp; try exact rfl)); go_simp; refine hK _ _ ?_; clear hK K
  refine sq_call rfl (fun w' => by go_simp) (HO.out _) (fun K hK => ?_)
  rintro e w3 ⟨rfl, hb⟩
  refine ⟨_, rfl, ?_⟩
  have M3 := M2.kept hb
  clear M2 hb
  go_simp; refine hK _ _ ?_; clear hK K
  refine sq_ex rfl (fun K hK => ?_); apply Exists.intro; refine ⟨?_, ?_⟩; (focus (go_simp; try exact rfl)); go_simp; refine hK _ _ ?_; clear hK K
  refine sq_ex rfl (fun K hK => ?_); apply Exists.intro; refine ⟨?_, ?_⟩; (focus (go_simp; try exact rfl)); go_simp; refine hK _ _ ?_; clear hK K
  refine sq_ex rfl (fun K hK => ?_); apply Exists.intro; refine ⟨?_, ?_⟩; (focus (go_simp; try exact rfl)); go_simp; refine hK _ _ ?_; clear hK K
  refine sq_alloc rfl M3 (T := 60) (z := #[.int .u64 0, .int .u64 0, .int .u64 0]) (fun w' => by go_simp) (fun K hK => ?_)
  intro g5 w4 M4
  clear M3
  go_simp; refine hK _ _ ?_; clear hK K
  refine sq_store rfl M4 1 rfl (run_st (cs := #[.int .u64 h, .int .u64 l, .int .u64 x]) rfl rfl rfl frac_size rfl (by simp [Value.oneCell'])) (fun K hK => ?_)
  intro w5 M5
  clear M4
  go_simp; refine hK _ _ ?_; clear hK K
  refine sq_ex rfl (fun K hK => ?_); apply Exists.intro; refine ⟨?_, ?_⟩; (focus (go_simp; try exact rfl)); go_simp; refine hK _ _ ?_; clear hK K
  refine sq_nil ?_
  refine H4 _ _ ?_
  clear H4 K4
  refine wp_seq_k (fun K5 H5 => ?_)
  refine wp_seq_k (fun K6 H6 => ?_)
  refine sq_region ?_
  refine sq_ex rfl (fun K hK => ?_); refine ⟨_, run_ld rfl rfl (M5.row 0 rfl) rfl Try.underlying60 frac_size, ?_⟩; go_simp; refine hK _ _ ?_; clear hK K
  refine sq_call rfl (fun w' => by go_simp) (HK.out _) (fun K hK => ?_)
  rintro e w6 ⟨rfl, hb⟩
  refine ⟨_, rfl, ?_⟩
  have M6 := M5.kept hb
  clear M5 hb
  go_simp; refine hK _ _ ?_; clear hK K
  refine sq_ex rfl (fun K hK => ?_); refine ⟨.bool false, ?_, ?_⟩; (focus (go_simp; try (first | omega | (simp; done) | (simp; omega)))); go_simp; refine hK _ _ ?_; clear hK K
  refine sq_nil ?_
  refine H6 _ _ ?_
  clear H6 K6
  refine wp_cond_false rfl ?_
  refine wp_skip ?_
  refine H5 _ _ ?_
  clear H5 K5
  refine wp_seq_k (fun K7 H7 => ?_)
  refine wp_seq_k (fun K8 H8 => ?_)
  refine sq_region ?_
  refine sq_ex rfl (fun K hK => ?_); apply Exists.intro; refine ⟨?_, ?_⟩; (focus (go_simp; try exact rfl)); go_simp; refine hK _ _ ?_; clear hK K
  refine sq_ex rfl (fun K hK => ?_); refine ⟨.bool false, ?_, ?_⟩; (focus (go_simp; try (first | omega | (simp; done) | (simp; omega)))); go_simp; refine hK _ _ ?_; clear hK K
  refine sq_ex rfl (fun K hK => ?_); apply Exists.intro; refine ⟨?_, ?_⟩; (focus (go_simp; try exact rfl)); go_simp; refine hK _ _ ?_; clear hK K
  refine sq_ex rfl (fun K hK => ?_); refine ⟨_, run_ld rfl rfl (M6.row 1 rfl) rfl Try.underlying60 frac_size, ?_⟩; go_simp; refine hK _ _ ?_; clear hK K
  refine sq_ex rfl (fun K hK => ?_); refine ⟨_, run_ld rfl rfl (M6.row 0 rfl) rfl Try.underlying60 frac_size, ?_⟩; go_simp; refine hK _ _ ?_; clear hK K
  refine sq_ex rfl (fun K hK => ?_); refine ⟨.bool false, ?_, ?_⟩; (focus (go_simp; try (first | omega | (simp; done) | (simp; omega)))); go_simp; refine hK _ _ ?_; clear hK K
  refine sq_ex rfl (fun K hK => ?_); apply Exists.intro; refine ⟨?_, ?_⟩; (focus (go_simp; try exact rfl)); go_simp; refine hK _ _ ?_; clear hK K
  refine sq_nil ?_
  refine H8 _ _ ?_
  clear H8 K8
  refine wp_cond_false rfl ?_
  refine wp_skip ?_
  refine H7 _ _ ?_
  clear H7 K7
  refine wp_seq_k (fun K9 H9 => ?_)
  refine sq_region ?_
  refine sq_ex rfl (fun K hK => ?_); refine ⟨_, run_ld rfl rfl (M6.row 0 rfl) rfl Try.underlying60 frac_size, ?_⟩; go_simp; refine hK _ _ ?_; clear hK K
  refine sq_ex rfl (fun K hK => ?_); apply Exists.intro; refine ⟨?_, ?_⟩; (focus (go_simp; try exact rfl)); go_simp; refine hK _ _ ?_; clear hK K
  refine sq_call rfl (fun w' => by go_simp) (HP.out _) (fun K hK => ?_)
  rintro e w7 ⟨rfl, hb⟩
  refine ⟨_, rfl, ?_⟩
  have M7 := M6.kept hb
  clear M6 hb
  go_simp; refine hK _ _ ?_; clear hK K
  refine sq_ex rfl (fun K hK => ?_); apply Exists.intro; refine ⟨?_, ?_⟩; (focus (go_simp; try exact rfl)); go_simp; refine hK _ _ ?_; clear hK K
  refine sq_ex rfl (fun K hK => ?_); apply Exists.intro; refine ⟨?_, ?_⟩; (focus (go_simp; try exact rfl)); go_simp; refine hK _ _ ?_; clear hK K
  refine sq_ex rfl (fun K hK => ?_); apply Exists.intro; refine ⟨?_, ?_⟩; (focus (go_simp; try exact rfl)); go_simp; refine hK _ _ ?_; clear hK K
  refine sq_alloc rfl M7 (T := 60) (z := #[.int .u64 0, .int .u64 0, .int .u64 0]) (fun w' => by go_simp) (fun K hK => ?_)
  intro g7 w8 M8
  clear M7
  go_simp; refine hK _ _ ?_; clear hK K
  refine sq_store rfl M8 2 rfl (run_st (cs := #[.int .u64 0, .int .u64 0, .int .u64 0]) rfl rfl rfl frac_size rfl (by simp [Value.oneCell'])) (fun K hK => ?_)
  intro w9 M9
  clear M8
  go_simp; refine hK _ _ ?_; clear hK K
  refine sq_ex rfl (fun K hK => ?_); apply Exists.intro; refine ⟨?_, ?_⟩; (focus (go_simp; try exact rfl)); go_simp; refine hK _ _ ?_; clear hK K
  refine sq_nil ?_
  refine H9 _ _ ?_
  clear H9 K9
  refine wp_seq_k (fun K10 H10 => ?_)
  refine wp_seq_k (fun K11 H11 => ?_)
  refine sq_region ?_
  refine sq_ex rfl (fun K hK => ?_); apply Exists.intro; refine ⟨?_, ?_⟩; (focus (go_simp; try exact rfl)); go_simp; refine hK _ _ ?_; clear hK K
  refine sq_ex rfl (fun K hK => ?_); refine ⟨.bool true, ?_, ?_⟩; (focus (go_simp; try (first | omega | (simp; done) | (simp; omega)))); go_simp; refine hK _ _ ?_; clear hK K
  refine sq_nil ?_
  refine H11 _ _ ?_
  clear H11 K11
  refine wp_cond_true rfl ?_
  refine wp_seq_k (fun K12 H12 => ?_)
  refine sq_region ?_
  refine sq_ex rfl (fun K hK => ?_); refine ⟨_, run_ld rfl rfl (M9.row 2 rfl) rfl Try.underlying60 frac_size, ?_⟩; go_simp; refine hK _ _ ?_; clear hK K
  refine sq_ex rfl (fun K hK => ?_); apply Exists.intro; refine ⟨?_, ?_⟩; (focus (go_simp; try exact rfl)); go_simp; refine hK _ _ ?_; clear hK K
  refine sq_ex rfl (fun K hK => ?_); refine ⟨.bool true, ?_, ?_⟩; (focus (go_simp; try (first | omega | (simp; done) | (simp; omega)))); go_simp; refine hK _ _ ?_; clear hK K
  refine sq_ex rfl (fun K hK => ?_); apply Exists.intro; refine ⟨?_, ?_⟩; (focus (go_simp; try exact rfl)); go_simp; refine hK _ _ ?_; clear hK K
  refine sq_nil ?_
  refine H12 _ _ ?_
  clear H12 K12
  refine wp_ret ?_
  go_ret
  exact ⟨rfl, M9.below⟩

set_option maxRecDepth 100000 in
set_option maxHeartbeats 1000000 in
theorem lover_zero (h l x y A B D E : Nat) (w : World)
    (HO : Hid (Dt 44 #[.agg #[.int .u64 0, .int .u64 0, .int .u64 x], .int .u64 x] (.tuple #[.agg #[.int .u64 0, .int .u64 0, .int .u64 x], .int .i64 0])))
    (HK : Hid (Dt 39 #[.agg #[.int .u64 0, .int .u64 0, .int .u64 x]] (.int .i64 0)))
    (s s2 : Int)
    (HP : Hid (Dt 44 #[.agg #[.int .u64 0, .int .u64 0, .int .u64 x], .int .u64 y] (.tuple #[.agg #[.int .u64 0, .int .u64 0, .int .u64 y], .int .i64 0])))
    (HC : Hid (Dt 42 #[.agg #[.int .u64 0, .int .u64 0, .int .u64 y], .agg #[.int .u64 0, .int .u64 0, .int .u64 x]] (.int .i64 s)))
    (hs : ¬ s < 0)
    : Calls Try.prog 11 #[.agg #[.int .u64 0, .int .u64 0, .int .u64 x], .int .u64 y] w fun e w' => e = .returned (.bool true) ∧ Below w.heap.size w w' := by
  have M0 := Has.start w
  go_enter Try.func11, Try.ntmps11
  refine wp_seq_k (fun K1 H1 => ?_)
  refine sq_region ?_
  refine sq_alloc rfl M0 (T := 60) (z := #[.int .u64 0, .int .u64 0, .int .u64 x]) (fun w' => by go_simp) (fun K hK => ?_)
  intro g2 w1 M1
  clear M0
  go_simp; refine hK _ _ ?_; clear hK K
  refine sq_ex rfl (fun K hK => ?_); apply Exists.intro; refine ⟨?_, ?_⟩; (focus (go_simp; try exact rfl)); go_simp; refine hK _ _ ?_; clear hK K
  refine sq_nil ?_
  refine H1 _ _ ?_
  clear H1 K1
  refine wp_seq_k (fun K2 H2 => ?_)
  refine wp_seq_k (fun K3 H3 => ?_)
  refine sq_region ?_
  refine sq_call rfl (fun w' => by go_simp) (wakes5 _) (fun K hK => ?_)
  rintro e w2 ⟨rfl, hb⟩
  refine ⟨_, rfl, ?_⟩
  have M2 := M1.kept hb
  clear M1 hb
  go_simp; refine hK _ _ ?_; clear hK K
  refine sq_ex rfl (fun K hK => ?_); apply Exists.intro; refine ⟨?_, ?_⟩; (focus (go_simp; try exact rfl)); go_simp; refine hK _ _ ?_; clear hK K
  refine sq_nil ?_
  refine H3 _ _ ?_
  clear H3 K3
  refine wp_cond_false rfl ?_
  refine wp_skip ?_
  refine H2 _ _ ?_
  clear H2 K2
  refine wp_seq_k (fun K4 H4 => ?_)
  refine sq_region ?_
  refine sq_ex rfl (fun K hK => ?_); refine ⟨_, run_ld rfl rfl (M2.row 0 rfl) rfl Try.underlying60 frac_size, ?_⟩; go_simp; refine hK _ _ ?_; clear hK K
  refine sq_ex rfl (fun K hK => ?_); apply Exists.intro; refine ⟨?_, ?_⟩; (focus (go_simp; try exact rfl)); go_simp; refine hK _ _ ?_; clear hK K
  refine sq_ex rfl (fun K hK => ?_); apply Exists.intro; refine ⟨?_, ?_⟩; (focus (have c := IsR.cell (M2.row 0 rfl); have f := IsR.froz (M2.row 0 rfl); go_simp; try exact rfl)); go_simp; refine hK _ _ ?_; clear hK K
  refine sq_call rfl (fun w' => by go_simp) (HO.out _) (fun K hK => ?_)
  rintro e w3 ⟨rfl, hb⟩
  refine ⟨_, rfl, ?_⟩
  have M3 := M2.kept hb
  clear M2 hb
  go_simp; refine hK _ _ ?_; clear hK K
  refine sq_ex rfl (fun K hK => ?_); apply Exists.intro; refine ⟨?_, ?_⟩; (focus (go_simp; try exact rfl)); go_simp; refine hK _ _ ?_; clear hK K
  refine sq_ex rfl (fun K hK => ?_); apply Exists.intro; refine ⟨?_, ?_⟩; (focus (go_simp; try exact rfl)); go_simp; refine hK _ _ ?_; clear hK K
  refine sq_ex rfl (fun K hK => ?_); apply Exists.intro; refine ⟨?_, ?_⟩; (focus (go_simp; try exact rfl)); go_simp; refine hK _ _ ?_; clear hK K
  refine sq_alloc rfl M3 (T := 60) (z := #[.int .u64 0, .int .u64 0, .int .u64 0]) (fun w' => by go_simp) (fun K hK => ?_)
  intro g5 w4 M4
  clear M3
  go_simp; refine hK _ _ ?_; clear hK K
  refine sq_store rfl M4 1 rfl (run_st (cs := #[.int .u64 0, .int .u64 0, .int .u64 x]) rfl rfl rfl frac_size rfl (by simp [Value.oneCell'])) (fun K hK => ?_)
  intro w5 M5
  clear M4
  go_simp; refine hK _ _ ?_; clear hK K
  refine sq_ex rfl (fun K hK => ?_); apply Exists.intro; refine ⟨?_, ?_⟩; (focus (go_simp; try exact rfl)); go_simp; refine hK _ _ ?_; clear hK K
  refine sq_nil ?_
  refine H4 _ _ ?_
  clear H4 K4
  refine wp_seq_k (fun K5 H5 => ?_)
  refine wp_seq_k (fun K6 H6 => ?_)
  refine sq_region ?_
  refine sq_ex rfl (fun K hK => ?_); refine ⟨_, run_ld rfl rfl (M5.row 0 rfl) rfl Try.underlying60 frac_size, ?_⟩; go_simp; refine hK _ _ ?_; clear hK K
  refine sq_call rfl (fun w' => by go_simp) (HK.out _) (fun K hK => ?_)
  rintro e w6 ⟨rfl, hb⟩
  refine ⟨_, rfl, ?_⟩
  have M6 := M5.kept hb
  clear M5 hb
  go_simp; refine hK _ _ ?_; clear hK K
  refine sq_ex rfl (fun K hK => ?_); refine ⟨.bool false, ?_, ?_⟩; (focus (go_simp; try (first | omega | (simp; done) | (simp; omega)))); go_simp; refine hK _ _ ?_; clear hK K
  refine sq_nil ?_
  refine H6 _ _ ?_
  clear H6 K6
  refine wp_cond_false rfl ?_
  refine wp_skip ?_
  refine H5 _ _ ?_
  clear H5 K5
  refine wp_seq_k (fun K7 H7 => ?_)
  refine wp_seq_k (fun K8 H8 => ?_)
  refine sq_region ?_
  refine sq_ex rfl (fun K hK => ?_); apply Exists.intro; refine ⟨?_, ?_⟩; (focus (go_simp; try exact rfl)); go_simp; refine hK _ _ ?_; clear hK K
  refine sq_ex rfl (fun K hK => ?_); refine ⟨.bool false, ?_, ?_⟩; (focus (go_simp; try (first | omega | (simp; done) | (simp; omega)))); go_simp; refine hK _ _ ?_; clear hK K
  refine sq_ex rfl (fun K hK => ?_); apply Exists.intro; refine ⟨?_, ?_⟩; (focus (go_simp; try exact rfl)); go_simp; refine hK _ _ ?_; clear hK K
  refine sq_ex rfl (fun K hK => ?_); refine ⟨_, run_ld rfl rfl (M6.row 1 rfl) rfl Try.underlying60 frac_size, ?_⟩; go_simp; refine hK _ _ ?_; clear hK K
  refine sq_ex rfl (fun K hK => ?_); refine ⟨_, run_ld rfl rfl (M6.row 0 rfl) rfl Try.underlying60 frac_size, ?_⟩; go_simp; refine hK _ _ ?_; clear hK K
  refine sq_ex rfl (fun K hK => ?_); refine ⟨.bool false, ?_, ?_⟩; (focus (go_simp; try (first | omega | (simp; done) | (simp; omega)))); go_simp; refine hK _ _ ?_; clear hK K
  refine sq_ex rfl (fun K hK => ?_); apply Exists.intro; refine ⟨?_, ?_⟩; (focus (go_simp; try exact rfl)); go_simp; refine hK _ _ ?_; clear hK K
  refine sq_nil ?_
  refine H8 _ _ ?_
  clear H8 K8
  refine wp_cond_false rfl ?_
  refine wp_skip ?_
  refine H7 _ _ ?_
  clear H7 K7
  refine wp_seq_k (fun K9 H9 => ?_)
  refine sq_region ?_
  refine sq_ex rfl (fun K hK => ?_); refine ⟨_, run_ld rfl rfl (M6.row 0 rfl) rfl Try.underlying60 frac_size, ?_⟩; go_simp; refine hK _ _ ?_; clear hK K
  refine sq_ex rfl (fun K hK => ?_); apply Exists.intro; refine ⟨?_, ?_⟩; (focus (go_simp; try exact rfl)); go_simp; refine hK _ _ ?_; clear hK K
  refine sq_call rfl (fun w' => by go_simp) (HP.out _) (fun K hK => ?_)
  rintro e w7 ⟨rfl, hb⟩
  refine ⟨_, rfl, ?_⟩
  have M7 := M6.kept hb
  clear M6 hb
  go_simp; refine hK _ _ ?_; clear hK K
  refine sq_ex rfl (fun K hK => ?_); apply Exists.intro; refine ⟨?_, ?_⟩; (focus (go_simp; try exact rfl)); go_simp; refine hK _ _ ?_; clear hK K
  refine sq_ex rfl (fun K hK => ?_); apply Exists.intro; refine ⟨?_, ?_⟩; (focus (go_simp; try exact rfl)); go_simp; refine hK _ _ ?_; clear hK K
  refine sq_ex rfl (fun K hK => ?_); apply Exists.intro; refine ⟨?_, ?_⟩; (focus (go_simp; try exact rfl)); go_simp; refine hK _ _ ?_; clear hK K
  refine sq_alloc rfl M7 (T := 60) (z := #[.int .u64 0, .int .u64 0, .int .u64 0]) (fun w' => by go_simp) (fun K hK => ?_)
  intro g7 w8 M8
  clear M7
  go_simp; refine hK _ _ ?_; clear hK K
  refine sq_store rfl M8 2 rfl (run_st (cs := #[.int .u64 0, .int .u64 0, .int .u64 y]) rfl rfl rfl frac_size rfl (by simp [Value.oneCell'])) (fun K hK => ?_)
  intro w9 M9
  clear M8
  go_simp; refine hK _ _ ?_; clear hK K
  refine sq_ex rfl (fun K hK => ?_); apply Exists.intro; refine ⟨?_, ?_⟩; (focus (go_simp; try exact rfl)); go_simp; refine hK _ _ ?_; clear hK K
  refine sq_nil ?_
  refine H9 _ _ ?_
  clear H9 K9
  refine wp_seq_k (fun K10 H10 => ?_)
  refine wp_seq_k (fun K11 H11 => ?_)
  refine sq_region ?_
  refine sq_ex rfl (fun K hK => ?_); apply Exists.intro; refine ⟨?_, ?_⟩; (focus (go_simp; try exact rfl)); go_simp; refine hK _ _ ?_; clear hK K
  refine sq_ex rfl (fun K hK => ?_); refine ⟨.bool false, ?_, ?_⟩; (focus (go_simp; try (first | omega | (simp; done) | (simp; omega)))); go_simp; refine hK _ _ ?_; clear hK K
  refine sq_nil ?_
  refine H11 _ _ ?_
  clear H11 K11
  refine wp_cond_false rfl ?_
  refine wp_skip ?_
  refine H10 _ _ ?_
  clear H10 K10
  refine wp_seq_k (fun K12 H12 => ?_)
  refine wp_seq_k (fun K13 H13 => ?_)
  refine sq_region ?_
  refine sq_ex rfl (fun K hK => ?_); refine ⟨_, run_ld rfl rfl (M9.row 2 rfl) rfl Try.underlying60 frac_size, ?_⟩; go_simp; refine hK _ _ ?_; clear hK K
  refine sq_ex rfl (fun K hK => ?_); refine ⟨_, run_ld rfl rfl (M9.row 0 rfl) rfl Try.underlying60 frac_size, ?_⟩; go_simp; refine hK _ _ ?_; clear hK K
  refine sq_call rfl (fun w' => by go_simp) (HC.out _) (fun K hK => ?_)
  rintro e w10 ⟨rfl, hb⟩
  refine ⟨_, rfl, ?_⟩
  have M10 := M9.kept hb
  clear M9 hb
  go_simp; refine hK _ _ ?_; clear hK K
  refine sq_ex rfl (fun K hK => ?_); refine ⟨.bool false, ?_, ?_⟩; (focus (go_simp; try (first | omega | (simp; done) | (simp; omega)))); go_simp; refine hK _ _ ?_; clear hK K
  refine sq_nil ?_
  refine H13 _ _ ?_
  clear H13 K13
  refine wp_cond_false rfl ?_
  refine wp_skip ?_
  refine H12 _ _ ?_
  clear H12 K12
  refine wp_seq_k (fun K14 H14 => ?_)
  refine wp_seq_k (fun K15 H15 => ?_)
  refine sq_region ?_
  refine sq_ex rfl (fun K hK => ?_); apply Exists.intro; refine ⟨?_, ?_⟩; (focus (go_simp; try exact rfl)); go_simp; refine hK _ _ ?_; clear hK K
  refine sq_ex rfl (fun K hK => ?_); refine ⟨_, run_ldm [.int .u64 0, .int .u64 0] rfl rfl (M10.row 2 rfl) (fun j v h => by match j with | 0 => simpa using h | 1 => simpa using h | (k + 2) => simp at h) rfl Try.underlying24 wide_size, ?_⟩; go_simp; refine hK _ _ ?_; clear hK K
  refine sq_ex rfl (fun K hK => ?_); apply Exists.intro; refine ⟨?_, ?_⟩; (focus (go_simp; try exact rfl)); go_simp; refine hK _ _ ?_; clear hK K
  refine sq_ex rfl (fun K hK => ?_); refine ⟨.bool true, ?_, ?_⟩; (focus (go_simp; try (first | omega | (simp; done) | (simp; omega)))); go_simp; refine hK _ _ ?_; clear hK K
  refine sq_nil ?_
  refine H15 _ _ ?_
  clear H15 K15
  refine wp_cond_true rfl ?_
  refine wp_seq_k (fun K16 H16 => ?_)
  refine sq_region ?_
  refine sq_ex rfl (fun K hK => ?_); apply Exists.intro; refine ⟨?_, ?_⟩; (focus (go_simp; try exact rfl)); go_simp; refine hK _ _ ?_; clear hK K
  refine sq_ex rfl (fun K hK => ?_); refine ⟨_, run_ldm [.int .u64 0, .int .u64 0] rfl rfl (M10.row 0 rfl) (fun j v h => by match j with | 0 => simpa using h | 1 => simpa using h | (k + 2) => simp at h) rfl Try.underlying24 wide_size, ?_⟩; go_simp; refine hK _ _ ?_; clear hK K
  refine sq_ex rfl (fun K hK => ?_); apply Exists.intro; refine ⟨?_, ?_⟩; (focus (go_simp; try exact rfl)); go_simp; refine hK _ _ ?_; clear hK K
  refine sq_ex rfl (fun K hK => ?_); refine ⟨.bool true, ?_, ?_⟩; (focus (go_simp; try (first | omega | (simp; done) | (simp; omega)))); go_simp; refine hK _ _ ?_; clear hK K
  refine sq_ex rfl (fun K hK => ?_); apply Exists.intro; refine ⟨?_, ?_⟩; (focus (go_simp; try exact rfl)); go_simp; refine hK _ _ ?_; clear hK K
  refine sq_nil ?_
  refine H16 _ _ ?_
  clear H16 K16
  refine wp_ret ?_
  go_ret
  exact ⟨rfl, M10.below⟩

set_option maxRecDepth 100000 in
set_option maxHeartbeats 1000000 in
theorem lover_pos (h l x y A B D E : Nat) (w : World)
    (HO : Hid (Dt 44 #[fv h l x, .int .u64 x] (.tuple #[fv h l x, .int .i64 0])))
    (HK : Hid (Dt 39 #[fv h l x] (.int .i64 0)))
    (s s2 : Int)
    (HP : Hid (Dt 44 #[fv h l x, .int .u64 y] (.tuple #[fv A B y, .int .i64 0])))
    (HC : Hid (Dt 42 #[fv A B y, fv h l x] (.int .i64 s)))
    (hs : ¬ s < 0)
    (hAB : ¬ (A = 0 ∧ B = 0))
    (HL : Hid (Dt 45 #[fv A B y, .int .u64 1] (.tuple #[fv D E y, .int .i64 0])))
    (HC2 : Hid (Dt 42 #[fv D E y, fv h l x] (.int .i64 s2)))
    (hs2 : s2 < 0)
    : Calls Try.prog 11 #[fv h l x, .int .u64 y] w fun e w' => e = .returned (.bool true) ∧ Below w.heap.size w w' := by
  have M0 := Has.start w
  go_enter Try.func11, Try.ntmps11
  refine wp_seq_k (fun K1 H1 => ?_)
  refine sq_region ?_
  refine sq_alloc rfl M0 (T := 60) (z := #[.int .u64 h, .int .u64 l, .int .u64 x]) (fun w' => by go_simp) (fun K hK => ?_)
  intro g2 w1 M1
  clear M0
  go_simp; refine hK _ _ ?_; clear hK K
  refine sq_ex rfl (fun K hK => ?_); apply Exists.intro; refine ⟨?_, ?_⟩; (focus (go_simp; try exact rfl)); go_simp; refine hK _ _ ?_; clear hK K
  refine sq_nil ?_
  refine H1 _ _ ?_
  clear H1 K1
  refine wp_seq_k (fun K2 H2 => ?_)
  refine wp_seq_k (fun K3 H3 => ?_)
  refine sq_region ?_
  refine sq_call rfl (fun w' => by go_simp) (wakes5 _) (fun K hK => ?_)
  rintro e w2 ⟨rfl, hb⟩
  refine ⟨_, rfl, ?_⟩
  have M2 := M1.kept hb
  clear M1 hb
  go_simp; refine hK _ _ ?_; clear hK K
  refine sq_ex rfl (fun K hK => ?_); apply Exists.intro; refine ⟨?_, ?_⟩; (focus (go_simp; try exact rfl)); go_simp; refine hK _ _ ?_; clear hK K
  refine sq_nil ?_
  refine H3 _ _ ?_
  clear H3 K3
  refine wp_cond_false rfl ?_
  refine wp_skip ?_
  refine H2 _ _ ?_
  clear H2 K2
  refine wp_seq_k (fun K4 H4 => ?_)
  refine sq_region ?_
  refine sq_ex rfl (fun K hK => ?_); refine ⟨_, run_ld rfl rfl (M2.row 0 rfl) rfl Try.underlying60 frac_size, ?_⟩; go_simp; refine hK _ _ ?_; clear hK K
  refine sq_ex rfl (fun K hK => ?_); apply Exists.intro; refine ⟨?_, ?_⟩; (focus (go_simp; try exact rfl)); go_simp; refine hK _ _ ?_; clear hK K
  refine sq_ex rfl (fun K hK => ?_); apply Exists.intro; refine ⟨?_, ?_⟩; (focus (have c := IsR.cell (M2.row 0 rfl); have f := IsR.froz (M2.row 0 rfl); go_simp; try exact rfl)); go_simp; refine hK _ _ ?_; clear hK K
  refine sq_call rfl (fun w' => by go_simp) (HO.out _) (fun K hK => ?_)
  rintro e w3 ⟨rfl, hb⟩
  refine ⟨_, rfl, ?_⟩
  have M3 := M2.kept hb
  clear M2 hb
  go_simp; refine hK _ _ ?_; clear hK K
  refine sq_ex rfl (fun K hK => ?_); apply Exists.intro; refine ⟨?_, ?_⟩; (focus (go_simp; try exact rfl)); go_simp; refine hK _ _ ?_; clear hK K
  refine sq_ex rfl (fun K hK => ?_); apply Exists.intro; refine ⟨?_, ?_⟩; (focus (go_simp; try exact rfl)); go_simp; refine hK _ _ ?_; clear hK K
  refine sq_ex rfl (fun K hK => ?_); apply Exists.intro; refine ⟨?_, ?_⟩; (focus (go_simp; try exact rfl)); go_simp; refine hK _ _ ?_; clear hK K
  refine sq_alloc rfl M3 (T := 60) (z := #[.int .u64 0, .int .u64 0, .int .u64 0]) (fun w' => by go_simp) (fun K hK => ?_)
  intro g5 w4 M4
  clear M3
  go_simp; refine hK _ _ ?_; clear hK K
  refine sq_store rfl M4 1 rfl (run_st (cs := #[.int .u64 h, .int .u64 l, .int .u64 x]) rfl rfl rfl frac_size rfl (by simp [Value.oneCell'])) (fun K hK => ?_)
  intro w5 M5
  clear M4
  go_simp; refine hK _ _ ?_; clear hK K
  refine sq_ex rfl (fun K hK => ?_); apply Exists.intro; refine ⟨?_, ?_⟩; (focus (go_simp; try exact rfl)); go_simp; refine hK _ _ ?_; clear hK K
  refine sq_nil ?_
  refine H4 _ _ ?_
  clear H4 K4
  refine wp_seq_k (fun K5 H5 => ?_)
  refine wp_seq_k (fun K6 H6 => ?_)
  refine sq_region ?_
  refine sq_ex rfl (fun K hK => ?_); refine ⟨_, run_ld rfl rfl (M5.row 0 rfl) rfl Try.underlying60 frac_size, ?_⟩; go_simp; refine hK _ _ ?_; clear hK K
  refine sq_call rfl (fun w' => by go_simp) (HK.out _) (fun K hK => ?_)
  rintro e w6 ⟨rfl, hb⟩
  refine ⟨_, rfl, ?_⟩
  have M6 := M5.kept hb
  clear M5 hb
  go_simp; refine hK _ _ ?_; clear hK K
  refine sq_ex rfl (fun K hK => ?_); refine ⟨.bool false, ?_, ?_⟩; (focus (go_simp; try (first | omega | (simp; done) | (simp; omega)))); go_simp; refine hK _ _ ?_; clear hK K
  refine sq_nil ?_
  refine H6 _ _ ?_
  clear H6 K6
  refine wp_cond_false rfl ?_
  refine wp_skip ?_
  refine H5 _ _ ?_
  clear H5 K5
  refine wp_seq_k (fun K7 H7 => ?_)
  refine wp_seq_k (fun K8 H8 => ?_)
  refine sq_region ?_
  refine sq_ex rfl (fun K hK => ?_); apply Exists.intro; refine ⟨?_, ?_⟩; (focus (go_simp; try exact rfl)); go_simp; refine hK _ _ ?_; clear hK K
  refine sq_ex rfl (fun K hK => ?_); refine ⟨.bool false, ?_, ?_⟩; (focus (go_simp; try (first | omega | (simp; done) | (simp; omega)))); go_simp; refine hK _ _ ?_; clear hK K
  refine sq_ex rfl (fun K hK => ?_); apply Exists.intro; refine ⟨?_, ?_⟩; (focus (go_simp; try exact rfl)); go_simp; refine hK _ _ ?_; clear hK K
  refine sq_ex rfl (fun K hK => ?_); refine ⟨_, run_ld rfl rfl (M6.row 1 rfl) rfl Try.underlying60 frac_size, ?_⟩; go_simp; refine hK _ _ ?_; clear hK K
  refine sq_ex rfl (fun K hK => ?_); refine ⟨_, run_ld rfl rfl (M6.row 0 rfl) rfl Try.underlying60 frac_size, ?_⟩; go_simp; refine hK _ _ ?_; clear hK K
  refine sq_ex rfl (fun K hK => ?_); refine ⟨.bool false, ?_, ?_⟩; (focus (go_simp; try (first | omega | (simp; done) | (simp; omega)))); go_simp; refine hK _ _ ?_; clear hK K
  refine sq_ex rfl (fun K hK => ?_); apply Exists.intro; refine ⟨?_, ?_⟩; (focus (go_simp; try exact rfl)); go_simp; refine hK _ _ ?_; clear hK K
  refine sq_nil ?_
  refine H8 _ _ ?_
  clear H8 K8
  refine wp_cond_false rfl ?_
  refine wp_skip ?_
  refine H7 _ _ ?_
  clear H7 K7
  refine wp_seq_k (fun K9 H9 => ?_)
  refine sq_region ?_
  refine sq_ex rfl (fun K hK => ?_); refine ⟨_, run_ld rfl rfl (M6.row 0 rfl) rfl Try.underlying60 frac_size, ?_⟩; go_simp; refine hK _ _ ?_; clear hK K
  refine sq_ex rfl (fun K hK => ?_); apply Exists.intro; refine ⟨?_, ?_⟩; (focus (go_simp; try exact rfl)); go_simp; refine hK _ _ ?_; clear hK K
  refine sq_call rfl (fun w' => by go_simp) (HP.out _) (fun K hK => ?_)
  rintro e w7 ⟨rfl, hb⟩
  refine ⟨_, rfl, ?_⟩
  have M7 := M6.kept hb
  clear M6 hb
  go_simp; refine hK _ _ ?_; clear hK K
  refine sq_ex rfl (fun K hK => ?_); apply Exists.intro; refine ⟨?_, ?_⟩; (focus (go_simp; try exact rfl)); go_simp; refine hK _ _ ?_; clear hK K
  refine sq_ex rfl (fun K hK => ?_); apply Exists.intro; refine ⟨?_, ?_⟩; (focus (go_simp; try exact rfl)); go_simp; refine hK _ _ ?_; clear hK K
  refine sq_ex rfl (fun K hK => ?_); apply Exists.intro; refine ⟨?_, ?_⟩; (focus (go_simp; try exact rfl)); go_simp; refine hK _ _ ?_; clear hK K
  refine sq_alloc rfl M7 (T := 60) (z := #[.int .u64 0, .int .u64 0, .int .u64 0]) (fun w' => by go_simp) (fun K hK => ?_)
  intro g7 w8 M8
  clear M7
  go_simp; refine hK _ _ ?_; clear hK K
  refine sq_store rfl M8 2 rfl (run_st (cs := #[.int .u64 A, .int .u64 B, .int .u64 y]) rfl rfl rfl frac_size rfl (by simp [Value.oneCell'])) (fun K hK => ?_)
  intro w9 M9
  clear M8
  go_simp; refine hK _ _ ?_; clear hK K
  refine sq_ex rfl (fun K hK => ?_); apply Exists.intro; refine ⟨?_, ?_⟩; (focus (go_simp; try exact rfl)); go_simp; refine hK _ _ ?_; clear hK K
  refine sq_nil ?_
  refine H9 _ _ ?_
  clear H9 K9
  refine wp_seq_k (fun K10 H10 => ?_)
  refine wp_seq_k (fun K11 H11 => ?_)
  refine sq_region ?_
  refine sq_ex rfl (fun K hK => ?_); apply Exists.intro; refine ⟨?_, ?_⟩; (focus (go_simp; try exact rfl)); go_simp; refine hK _ _ ?_; clear hK K
  refine sq_ex rfl (fun K hK => ?_); refine ⟨.bool false, ?_, ?_⟩; (focus (go_simp; try (first | omega | (simp; done) | (simp; omega)))); go_simp; refine hK _ _ ?_; clear hK K
  refine sq_nil ?_
  refine H11 _ _ ?_
  clear H11 K11
  refine wp_cond_false rfl ?_
  refine wp_skip ?_
  refine H10 _ _ ?_
  clear H10 K10
  refine wp_seq_k (fun K12 H12 => ?_)
  refine wp_seq_k (fun K13 H13 => ?_)
  refine sq_region ?_
  refine sq_ex rfl (fun K hK => ?_); refine ⟨_, run_ld rfl rfl (M9.row 2 rfl) rfl Try.underlying60 frac_size, ?_⟩; go_simp; refine hK _ _ ?_; clear hK K
  refine sq_ex rfl (fun K hK => ?_); refine ⟨_, run_ld rfl rfl (M9.row 0 rfl) rfl Try.underlying60 frac_size, ?_⟩; go_simp; refine hK _ _ ?_; clear hK K
  refine sq_call rfl (fun w' => by go_simp) (HC.out _) (fun K hK => ?_)
  rintro e w10 ⟨rfl, hb⟩
  refine ⟨_, rfl, ?_⟩
  have M10 := M9.kept hb
  clear M9 hb
  go_simp; refine hK _ _ ?_; clear hK K
  refine sq_ex rfl (fun K hK => ?_); refine ⟨.bool false, ?_, ?_⟩; (focus (go_simp; try (first | omega | (simp; done) | (simp; omega)))); go_simp; refine hK _ _ ?_; clear hK K
  refine sq_nil ?_
  refine H13 _ _ ?_
  clear H13 K13
  refine wp_cond_false rfl ?_
  refine wp_skip ?_
  refine H12 _ _ ?_
  clear H12 K12
  refine wp_seq_k (fun K14 H14 => ?_)
  refine wp_seq_k (fun K15 H15 => ?_)
  refine sq_region ?_
  refine sq_ex rfl (fun K hK => ?_); apply Exists.intro; refine ⟨?_, ?_⟩; (focus (go_simp; try exact rfl)); go_simp; refine hK _ _ ?_; clear hK K
  refine sq_ex rfl (fun K hK => ?_); refine ⟨_, run_ldm [.int .u64 A, .int .u64 B] rfl rfl (M10.row 2 rfl) (fun j v h => by match j with | 0 => simpa using h | 1 => simpa using h | (k + 2) => simp at h) rfl Try.underlying24 wide_size, ?_⟩; go_simp; refine hK _ _ ?_; clear hK K
  refine sq_ex rfl (fun K hK => ?_); apply Exists.intro; refine ⟨?_, ?_⟩; (focus (go_simp; try exact rfl)); go_simp; refine hK _ _ ?_; clear hK K
  refine sq_ex rfl (fun K hK => ?_); refine ⟨.bool false, ?_, ?_⟩; (focus (go_simp; first | (intro e1 e2; omega) | ((repeat' split) <;> first | rfl | (exfalso; omega)))); go_simp; refine hK _ _ ?_; clear hK K
  refine sq_nil ?_
  refine H15 _ _ ?_
  clear H15 K15
  refine wp_cond_false rfl ?_
  refine wp_skip ?_
  refine H14 _ _ ?_
  clear H14 K14
  refine wp_seq_k (fun K16 H16 => ?_)
  refine sq_region ?_
  refine sq_ex rfl (fun K hK => ?_); refine ⟨_, run_ld rfl rfl (M10.row 2 rfl) rfl Try.underlying60 frac_size, ?_⟩; go_simp; refine hK _ _ ?_; clear hK K
  refine sq_call rfl (fun w' => by go_simp) (HL.out _) (fun K hK => ?_)
  rintro e w11 ⟨rfl, hb⟩
  refine ⟨_, rfl, ?_⟩
  have M11 := M10.kept hb
  clear M10 hb
  go_simp; refine hK _ _ ?_; clear hK K
  refine sq_ex rfl (fun K hK => ?_); apply Exists.intro; refine ⟨?_, ?_⟩; (focus (go_simp; try exact rfl)); go_simp; refine hK _ _ ?_; clear hK K
  refine sq_ex rfl (fun K hK => ?_); apply Exists.intro; refine ⟨?_, ?_⟩; (focus (go_simp; try exact rfl)); go_simp; refine hK _ _ ?_; clear hK K
  refine sq_ex rfl (fun K hK => ?_); apply Exists.intro; refine ⟨?_, ?_⟩; (focus (go_simp; try exact rfl)); go_simp; refine hK _ _ ?_; clear hK K
  refine sq_alloc rfl M11 (T := 60) (z := #[.int .u64 0, .int .u64 0, .int .u64 0]) (fun w' => by go_simp) (fun K hK => ?_)
  intro g8 w12 M12
  clear M11
  go_simp; refine hK _ _ ?_; clear hK K
  refine sq_store rfl M12 3 rfl (run_st (cs := #[.int .u64 D, .int .u64 E, .int .u64 y]) rfl rfl rfl frac_size rfl (by simp [Value.oneCell'])) (fun K hK => ?_)
  intro w13 M13
  clear M12
  go_simp; refine hK _ _ ?_; clear hK K
  refine sq_ex rfl (fun K hK => ?_); apply Exists.intro; refine ⟨?_, ?_⟩; (focus (go_simp; try exact rfl)); go_simp; refine hK _ _ ?_; clear hK K
  refine sq_nil ?_
  refine H16 _ _ ?_
  clear H16 K16
  refine wp_seq_k (fun K17 H17 => ?_)
  refine sq_region ?_
  refine sq_ex rfl (fun K hK => ?_); apply Exists.intro; refine ⟨?_, ?_⟩; (focus (go_simp; try exact rfl)); go_simp; refine hK _ _ ?_; clear hK K
  refine sq_ex rfl (fun K hK => ?_); refine ⟨.bool true, ?_, ?_⟩; (focus (go_simp; try (first | omega | (simp; done) | (simp; omega)))); go_simp; refine hK _ _ ?_; clear hK K
  refine sq_ex rfl (fun K hK => ?_); apply Exists.intro; refine ⟨?_, ?_⟩; (focus (go_simp; try exact rfl)); go_simp; refine hK _ _ ?_; clear hK K
  refine sq_ex rfl (fun K hK => ?_); refine ⟨_, run_ld rfl rfl (M13.row 3 rfl) rfl Try.underlying60 frac_size, ?_⟩; go_simp; refine hK _ _ ?_; clear hK K
  refine sq_ex rfl (fun K hK => ?_); refine ⟨_, run_ld rfl rfl (M13.row 0 rfl) rfl Try.underlying60 frac_size, ?_⟩; go_simp; refine hK _ _ ?_; clear hK K
  refine sq_call rfl (fun w' => by go_simp) (HC2.out _) (fun K hK => ?_)
  rintro e w14 ⟨rfl, hb⟩
  refine ⟨_, rfl, ?_⟩
  have M14 := M13.kept hb
  clear M13 hb
  go_simp; refine hK _ _ ?_; clear hK K
  refine sq_ex rfl (fun K hK => ?_); refine ⟨.bool true, ?_, ?_⟩; (focus (go_simp; try (first | omega | (simp; done) | (simp; omega)))); go_simp; refine hK _ _ ?_; clear hK K
  refine sq_ex rfl (fun K hK => ?_); apply Exists.intro; refine ⟨?_, ?_⟩; (focus (go_simp; try exact rfl)); go_simp; refine hK _ _ ?_; clear hK K
  refine sq_ex rfl (fun K hK => ?_); apply Exists.intro; refine ⟨?_, ?_⟩; (focus (go_simp; try exact rfl)); go_simp; refine hK _ _ ?_; clear hK K
  refine sq_nil ?_
  refine H17 _ _ ?_
  clear H17 K17
  refine wp_ret ?_
  go_ret
  exact ⟨rfl, M14.below⟩

end Go.Proofs.Ytpjdojnbajoafaa
