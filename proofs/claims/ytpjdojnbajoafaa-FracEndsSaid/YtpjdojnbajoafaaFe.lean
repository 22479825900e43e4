/- The law's check of layer 5: walks. -/
import Derived.Test.YtpjdojnbajoafaaFd
namespace Go.Proofs.Ytpjdojnbajoafaa
open Go Go.RowKit

set_option maxRecDepth 100000 in
set_option maxHeartbeats 1000000 in
theorem wakes5_w (dummy : Nat) (w : World)
    (HF : Hid (Dt 40 #[.int .u64 1, .int .u64 3] (.tuple #[.agg #[.int .u64 0, .int .u64 1, .int .u64 3], .int .i64 0])))
    (HO : Hid (Dt 44 #[.agg #[.int .u64 0, .int .u64 1, .int .u64 3], .int .u64 2] (.tuple #[.agg #[.int .u64 0, .int .u64 1, .int .u64 2], .int .i64 0])))
    (HC : Hid (Dt 42 #[.agg #[.int .u64 0, .int .u64 1, .int .u64 3], .agg #[.int .u64 0, .int .u64 1, .int .u64 2]] (.int .i64 (-1))))
    : Calls Try.prog 34 #[] w fun e w' => e = .returned (.bool true) ∧ Below w.heap.size w w' := by
  have M0 := Has.start w
  go_enter Try.func34, Try.ntmps34
  refine wp_seq_k (fun K1 H1 => ?_)
  refine sq_region ?_
  refine sq_ex rfl (fun K hK => ?_); apply Exists.intro; refine ⟨?_, ?_⟩; (focus (go_simp; try exact rfl)); go_simp; refine hK _ _ ?_; clear hK K
  refine sq_nil ?_
  refine H1 _ _ ?_
  clear H1 K1
  refine wp_seq_k (fun K2 H2 => ?_)
  refine sq_region ?_
  refine sq_call rfl (fun w' => by go_simp) (HF.out _) (fun K hK => ?_)
  rintro e w1 ⟨rfl, hb⟩
  refine ⟨_, rfl, ?_⟩
  have M1 := M0.kept hb
  clear M0 hb
  go_simp; refine hK _ _ ?_; clear hK K
  refine sq_ex rfl (fun K hK => ?_); apply Exists.intro; refine ⟨?_, ?_⟩; (focus (go_simp; try exact rfl)); go_simp; refine hK _ _ ?_; clear hK K
  refine sq_ex rfl (fun K hK => ?_); apply Exists.intro; refine ⟨?_, ?_⟩; (focus (go_simp; try exact rfl)); go_simp; refine hK _ _ ?_; clear hK K
  refine sq_ex rfl (fun K hK => ?_); apply Exists.intro; refine ⟨?_, ?_⟩; (focus (go_simp; try exact rfl)); go_simp; refine hK _ _ ?_; clear hK K
  refine sq_alloc rfl M1 (T := 60) (z := #[.int .u64 0, .int .u64 0, .int .u64 0]) (fun w' => by go_simp) (fun K hK => ?_)
  intro g1 w2 M2
  clear M1
  go_simp; refine hK _ _ ?_; clear hK K
  refine sq_store rfl M2 0 rfl (run_st (cs := #[.int .u64 0, .int .u64 1, .int .u64 3]) rfl rfl rfl frac_size rfl (by simp [Value.oneCell'])) (fun K hK => ?_)
  intro w3 M3
  clear M2
  go_simp; refine hK _ _ ?_; clear hK K
  refine sq_ex rfl (fun K hK => ?_); apply Exists.intro; refine ⟨?_, ?_⟩; (focus (go_simp; try exact rfl)); go_simp; refine hK _ _ ?_; clear hK K
  refine sq_nil ?_
  refine H2 _ _ ?_
  clear H2 K2
  refine wp_seq_k (fun K3 H3 => ?_)
  refine sq_region ?_
  refine sq_ex rfl (fun K hK => ?_); refine ⟨_, run_ld rfl rfl (M3.row 0 rfl) rfl Try.underlying60 frac_size, ?_⟩; go_simp; refine hK _ _ ?_; clear hK K
  refine sq_call rfl (fun w' => by go_simp) (HO.out _) (fun K hK => ?_)
  rintro e w4 ⟨rfl, hb⟩
  refine ⟨_, rfl, ?_⟩
  have M4 := M3.kept hb
  clear M3 hb
  go_simp; refine hK _ _ ?_; clear hK K
  refine sq_ex rfl (fun K hK => ?_); apply Exists.intro; refine ⟨?_, ?_⟩; (focus (go_simp; try exact rfl)); go_simp; refine hK _ _ ?_; clear hK K
  refine sq_ex rfl (fun K hK => ?_); apply Exists.intro; refine ⟨?_, ?_⟩; (focus (go_simp; try exact rfl)); go_simp; refine hK _ _ ?_; clear hK K
  refine sq_ex rfl (fun K hK => ?_); apply Exists.intro; refine ⟨?_, ?_⟩; (focus (go_simp; try exact rfl)); go_simp; refine hK _ _ ?_; clear hK K
  refine sq_alloc rfl M4 (T := 60) (z := #[.int .u64 0, .int .u64 0, .int .u64 0]) (fun w' => by go_simp) (fun K hK => ?_)
  intro g3 w5 M5
  clear M4
  go_simp; refine hK _ _ ?_; clear hK K
  refine sq_store rfl M5 1 rfl (run_st (cs := #[.int .u64 0, .int .u64 1, .int .u64 2]) rfl rfl rfl frac_size rfl (by simp [Value.oneCell'])) (fun K hK => ?_)
  intro w6 M6
  clear M5
  go_simp; refine hK _ _ ?_; clear hK K
  refine sq_ex rfl (fun K hK => ?_); apply Exists.intro; refine ⟨?_, ?_⟩; (focus (go_simp; try exact rfl)); go_simp; refine hK _ _ ?_; clear hK K
  refine sq_nil ?_
  refine H3 _ _ ?_
  clear H3 K3
  refine wp_seq_k (fun K4 H4 => ?_)
  refine sq_region ?_
  refine sq_ex rfl (fun K hK => ?_); apply Exists.intro; refine ⟨?_, ?_⟩; (focus (go_simp; try exact rfl)); go_simp; refine hK _ _ ?_; clear hK K
  refine sq_ex rfl (fun K hK => ?_); refine ⟨.bool true, ?_, ?_⟩; (focus (go_simp; try (first | omega | (simp; done) | (simp; omega)))); go_simp; refine hK _ _ ?_; clear hK K
  refine sq_ex rfl (fun K hK => ?_); apply Exists.intro; refine ⟨?_, ?_⟩; (focus (go_simp; try exact rfl)); go_simp; refine hK _ _ ?_; clear hK K
  refine sq_ex rfl (fun K hK => ?_); apply Exists.intro; refine ⟨?_, ?_⟩; (focus (go_simp; try exact rfl)); go_simp; refine hK _ _ ?_; clear hK K
  refine sq_ex rfl (fun K hK => ?_); refine ⟨.bool true, ?_, ?_⟩; (focus (go_simp; try (first | omega | (simp; done) | (simp; omega)))); go_simp; refine hK _ _ ?_; clear hK K
  refine sq_ex rfl (fun K hK => ?_); apply Exists.intro; refine ⟨?_, ?_⟩; (focus (go_simp; try exact rfl)); go_simp; refine hK _ _ ?_; clear hK K
  refine sq_ex rfl (fun K hK => ?_); apply Exists.intro; refine ⟨?_, ?_⟩; (focus (go_simp; try exact rfl)); go_simp; refine hK _ _ ?_; clear hK K
  refine sq_ex rfl (fun K hK => ?_); refine ⟨_, run_ld rfl rfl (M6.row 1 rfl) rfl Try.underlying60 frac_size, ?_⟩; go_simp; refine hK _ _ ?_; clear hK K
  refine sq_ex rfl (fun K hK => ?_); apply Exists.intro; refine ⟨?_, ?_⟩; (focus (go_simp; try exact rfl)); go_simp; refine hK _ _ ?_; clear hK K
  refine sq_ex rfl (fun K hK => ?_); apply Exists.intro; refine ⟨?_, ?_⟩; (focus (go_simp; try exact rfl)); go_simp; refine hK _ _ ?_; clear hK K
  refine sq_ex rfl (fun K hK => ?_); refine ⟨.bool true, ?_, ?_⟩; (focus (go_simp; try (first | omega | (simp; done) | (simp; omega)))); go_simp; refine hK _ _ ?_; clear hK K
  refine sq_ex rfl (fun K hK => ?_); apply Exists.intro; refine ⟨?_, ?_⟩; (focus (go_simp; try exact rfl)); go_simp; refine hK _ _ ?_; clear hK K
  refine sq_ex rfl (fun K hK => ?_); apply Exists.intro; refine ⟨?_, ?_⟩; (focus (go_simp; try exact rfl)); go_simp; refine hK _ _ ?_; clear hK K
  refine sq_ex rfl (fun K hK => ?_); refine ⟨_, run_ld rfl rfl (M6.row 0 rfl) rfl Try.underlying60 frac_size, ?_⟩; go_simp; refine hK _ _ ?_; clear hK K
  refine sq_ex rfl (fun K hK => ?_); refine ⟨_, run_ld rfl rfl (M6.row 1 rfl) rfl Try.underlying60 frac_size, ?_⟩; go_simp; refine hK _ _ ?_; clear hK K
  refine sq_call rfl (fun w' => by go_simp) (HC.out _) (fun K hK => ?_)
  rintro e w7 ⟨rfl, hb⟩
  refine ⟨_, rfl, ?_⟩
  have M7 := M6.kept hb
  clear M6 hb
  go_simp; refine hK _ _ ?_; clear hK K
  refine sq_ex rfl (fun K hK => ?_); refine ⟨.bool true, ?_, ?_⟩; (focus (go_simp; try (first | omega | (simp; done) | (simp; omega)))); go_simp; refine hK _ _ ?_; clear hK K
  refine sq_ex rfl (fun K hK => ?_); apply Exists.intro; refine ⟨?_, ?_⟩; (focus (go_simp; try exact rfl)); go_simp; refine hK _ _ ?_; clear hK K
  refine sq_ex rfl (fun K hK => ?_); apply Exists.intro; refine ⟨?_, ?_⟩; (focus (go_simp; try exact rfl)); go_simp; refine hK _ _ ?_; clear hK K
  refine sq_nil ?_
  refine H4 _ _ ?_
  clear H4 K4
  refine wp_ret ?_
  go_ret
  exact ⟨rfl, M7.below⟩

theorem wakes5 : Dt 34 #[] (.bool true) := fun w => by
  have ok13 : okN 1 3 = true := okN_iff.2 (by omega)
  have ok12 : okN 1 2 = true := okN_iff.2 (by omega)
  have s1 : scl 1 2 3 true = 1 := by decide
  have hO := dFOverY (n := 1) (x := 3) (y := 2) ok13 (wt_iff.2 (by omega)) (by rw [s1]; decide)
  rw [s1] at hO
  exact wakes5_w 0 w (Lib.hid (dFOfY (n := 1) (x := 3) (wt_iff.2 (by omega)))) (Lib.hid hO) (Lib.hid (dFCmpY ok13 ok12))

end Go.Proofs.Ytpjdojnbajoafaa
