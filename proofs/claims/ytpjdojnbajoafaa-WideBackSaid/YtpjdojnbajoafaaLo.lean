/- The law WideBack: walks. -/
import Derived.Test.YtpjdojnbajoafaaWz
namespace Go.Proofs.Ytpjdojnbajoafaa
open Go Go.RowKit

set_option maxRecDepth 100000 in
set_option maxHeartbeats 1000000 in
theorem wb_ok1 (h l H L d A B X Y P Q S U V r : Nat) (t : ByteArray) (w : World)
    (HAD : Hid (Dt 24 #[wv h l, wv H L] (.tuple #[.agg #[.int .u64 A, .int .u64 B], .int .i64 0])))
    (HTX : Hid (Dt 33 #[wv h l] (.string t)))
    (HPA : Hid (Dt 32 #[.string t] (.tuple #[wv h l, .int .i64 0])))
    (HS1 : Hid (Dt 30 #[wv A B, wv H L] (.tuple #[wv h l, .int .i64 0])))
    (HS2 : Hid (Dt 30 #[wv A B, wv h l] (.tuple #[wv H L, .int .i64 0])))
    (HDI : Hid (Dt 16 #[wv h l, .int .u64 d] (.tuple #[wv X Y, .int .u64 r, .int .i64 0])))
    (HM1 : Hid (Dt 27 #[.int .u64 Y, .int .u64 d] (wv P Q)))
    (HM2 : Hid (Dt 27 #[.int .u64 X, .int .u64 d] (wv 0 S)))
    (hrd : r < d)
    (HA1 : Hid (Dt 24 #[wv P Q, .agg #[.int .u64 S, .int .u64 0]] (.tuple #[wv U V, .int .i64 0])))
    (HOF : Hid (Dt 28 #[.int .u64 r] (.agg #[.int .u64 0, .int .u64 r])))
    (HA2 : Hid (Dt 24 #[wv U V, .agg #[.int .u64 0, .int .u64 r]] (.tuple #[wv h l, .int .i64 0]))) :
    Calls Try.prog 8 #[wv h l, wv H L, .int .u64 d] w fun e w' => e = .returned (.bool true) ∧ Below w.heap.size w w' := by
  have M0 := Has.start w
  go_enter Try.func8, Try.ntmps8
  refine wp_seq_k (fun K1 H1 => ?_)
  refine sq_region ?_
  refine sq_alloc rfl M0 (T := 24) (z := #[.int .u64 h, .int .u64 l]) (fun w' => by go_simp) (fun K hK => ?_)
  intro g3 w1 M1
  clear M0
  go_simp; refine hK _ _ ?_; clear hK K
  refine sq_alloc rfl M1 (T := 24) (z := #[.int .u64 H, .int .u64 L]) (fun w' => by go_simp) (fun K hK => ?_)
  intro g4 w2 M2
  clear M1
  go_simp; refine hK _ _ ?_; clear hK K
  refine sq_ex rfl (fun K hK => ?_); apply Exists.intro; refine ⟨?_, ?_⟩; (focus (go_simp; try exact rfl)); go_simp; refine hK _ _ ?_; clear hK K
  refine sq_nil ?_
  refine H1 _ _ ?_
  clear H1 K1
  refine wp_seq_k (fun K2 H2 => ?_)
  refine wp_seq_k (fun K3 H3 => ?_)
  refine sq_region ?_
  refine sq_call rfl (fun w' => by go_simp) (wakes_d _) (fun K hK => ?_)
  rintro e w3 ⟨rfl, hb⟩
  refine ⟨_, rfl, ?_⟩
  have M3 := M2.kept hb
  clear M2 hb
  go_simp; refine hK _ _ ?_; clear hK K
  refine sq_ex rfl (fun K hK => ?_); apply Exists.intro; refine ⟨?_, ?_⟩; (focus (go_simp; try exact rfl)); go_simp; refine hK _ _ ?_; clear hK K
  refine sq_nil ?_
  refine H3 _ _ ?_
  clear H3 K3
  refine wp_cond_false rfl ?_
  refine wp_skip ?_
  refine H2 _ _ ?_
  clear H2 K2
  refine wp_seq_k (fun K4 H4 => ?_)
  refine wp_seq_k (fun K5 H5 => ?_)
  refine sq_region ?_
  refine sq_ex rfl (fun K hK => ?_); refine ⟨_, run_ld rfl rfl (M3.row 0 rfl) rfl Try.underlying24 wide_size, ?_⟩; go_simp; refine hK _ _ ?_; clear hK K
  refine sq_ex rfl (fun K hK => ?_); refine ⟨_, run_ld rfl rfl (M3.row 1 rfl) rfl Try.underlying24 wide_size, ?_⟩; go_simp; refine hK _ _ ?_; clear hK K
  refine sq_call rfl (fun w' => by go_simp) (HAD.out _) (fun K hK => ?_)
  rintro e w4 ⟨rfl, hb⟩
  refine ⟨_, rfl, ?_⟩
  have M4 := M3.kept hb
  clear M3 hb
  go_simp; refine hK _ _ ?_; clear hK K
  refine sq_ex rfl (fun K hK => ?_); apply Exists.intro; refine ⟨?_, ?_⟩; (focus (go_simp; try exact rfl)); go_simp; refine hK _ _ ?_; clear hK K
  refine sq_ex rfl (fun K hK => ?_); apply Exists.intro; refine ⟨?_, ?_⟩; (focus (go_simp; try exact rfl)); go_simp; refine hK _ _ ?_; clear hK K
  refine sq_ex rfl (fun K hK => ?_); apply Exists.intro; refine ⟨?_, ?_⟩; (focus (go_simp; try exact rfl)); go_simp; refine hK _ _ ?_; clear hK K
  refine sq_alloc rfl M4 (T := 24) (z := #[.int .u64 0, .int .u64 0]) (fun w' => by go_simp) (fun K hK => ?_)
  intro g7 w5 M5
  clear M4
  go_simp; refine hK _ _ ?_; clear hK K
  refine sq_store rfl M5 2 rfl (run_st (cs := #[.int .u64 A, .int .u64 B]) rfl rfl rfl wide_size rfl (by simp [Value.oneCell'])) (fun K hK => ?_)
  intro w6 M6
  clear M5
  go_simp; refine hK _ _ ?_; clear hK K
  refine sq_ex rfl (fun K hK => ?_); apply Exists.intro; refine ⟨?_, ?_⟩; (focus (go_simp; try exact rfl)); go_simp; refine hK _ _ ?_; clear hK K
  refine sq_nil ?_
  refine H5 _ _ ?_
  clear H5 K5
  refine wp_seq_k (fun K6 H6 => ?_)
  refine sq_region ?_
  refine sq_ex rfl (fun K hK => ?_); apply Exists.intro; refine ⟨?_, ?_⟩; (focus (go_simp; try exact rfl)); go_simp; refine hK _ _ ?_; clear hK K
  refine sq_ex rfl (fun K hK => ?_); refine ⟨.bool true, ?_, ?_⟩; (focus (go_simp; try (first | omega | (simp; done) | (simp; omega)))); go_simp; refine hK _ _ ?_; clear hK K
  refine sq_nil ?_
  refine H6 _ _ ?_
  clear H6 K6
  refine wp_cond_true rfl ?_
  refine wp_seq_k (fun K7 H7 => ?_)
  refine sq_region ?_
  refine sq_ex rfl (fun K hK => ?_); refine ⟨_, run_ld rfl rfl (M6.row 2 rfl) rfl Try.underlying24 wide_size, ?_⟩; go_simp; refine hK _ _ ?_; clear hK K
  refine sq_ex rfl (fun K hK => ?_); refine ⟨_, run_ld rfl rfl (M6.row 1 rfl) rfl Try.underlying24 wide_size, ?_⟩; go_simp; refine hK _ _ ?_; clear hK K
  refine sq_call rfl (fun w' => by go_simp) (HS1.out _) (fun K hK => ?_)
  rintro e w7 ⟨rfl, hb⟩
  refine ⟨_, rfl, ?_⟩
  have M7 := M6.kept hb
  clear M6 hb
  go_simp; refine hK _ _ ?_; clear hK K
  refine sq_ex rfl (fun K hK => ?_); apply Exists.intro; refine ⟨?_, ?_⟩; (focus (go_simp; try exact rfl)); go_simp; refine hK _ _ ?_; clear hK K
  refine sq_ex rfl (fun K hK => ?_); apply Exists.intro; refine ⟨?_, ?_⟩; (focus (go_simp; try exact rfl)); go_simp; refine hK _ _ ?_; clear hK K
  refine sq_ex rfl (fun K hK => ?_); apply Exists.intro; refine ⟨?_, ?_⟩; (focus (go_simp; try exact rfl)); go_simp; refine hK _ _ ?_; clear hK K
  refine sq_alloc rfl M7 (T := 24) (z := #[.int .u64 0, .int .u64 0]) (fun w' => by go_simp) (fun K hK => ?_)
  intro g9 w8 M8
  clear M7
  go_simp; refine hK _ _ ?_; clear hK K
  refine sq_store rfl M8 3 rfl (run_st (cs := #[.int .u64 h, .int .u64 l]) rfl rfl rfl wide_size rfl (by simp [Value.oneCell'])) (fun K hK => ?_)
  intro w9 M9
  clear M8
  go_simp; refine hK _ _ ?_; clear hK K
  refine sq_ex rfl (fun K hK => ?_); apply Exists.intro; refine ⟨?_, ?_⟩; (focus (go_simp; try exact rfl)); go_simp; refine hK _ _ ?_; clear hK K
  refine sq_nil ?_
  refine H7 _ _ ?_
  clear H7 K7
  refine wp_seq_k (fun K8 H8 => ?_)
  refine sq_region ?_
  refine sq_ex rfl (fun K hK => ?_); refine ⟨_, run_ld rfl rfl (M9.row 2 rfl) rfl Try.underlying24 wide_size, ?_⟩; go_simp; refine hK _ _ ?_; clear hK K
  refine sq_ex rfl (fun K hK => ?_); refine ⟨_, run_ld rfl rfl (M9.row 0 rfl) rfl Try.underlying24 wide_size, ?_⟩; go_simp; refine hK _ _ ?_; clear hK K
  refine sq_call rfl (fun w' => by go_simp) (HS2.out _) (fun K hK => ?_)
  rintro e w10 ⟨rfl, hb⟩
  refine ⟨_, rfl, ?_⟩
  have M10 := M9.kept hb
  clear M9 hb
  go_simp; refine hK _ _ ?_; clear hK K
  refine sq_ex rfl (fun K hK => ?_); apply Exists.intro; refine ⟨?_, ?_⟩; (focus (go_simp; try exact rfl)); go_simp; refine hK _ _ ?_; clear hK K
  refine sq_ex rfl (fun K hK => ?_); apply Exists.intro; refine ⟨?_, ?_⟩; (focus (go_simp; try exact rfl)); go_simp; refine hK _ _ ?_; clear hK K
  refine sq_ex rfl (fun K hK => ?_); apply Exists.intro; refine ⟨?_, ?_⟩; (focus (go_simp; try exact rfl)); go_simp; refine hK _ _ ?_; clear hK K
  refine sq_alloc rfl M10 (T := 24) (z := #[.int .u64 0, .int .u64 0]) (fun w' => by go_simp) (fun K hK => ?_)
  intro g11 w11 M11
  clear M10
  go_simp; refine hK _ _ ?_; clear hK K
  refine sq_store rfl M11 4 rfl (run_st (cs := #[.int .u64 H, .int .u64 L]) rfl rfl rfl wide_size rfl (by simp [Value.oneCell'])) (fun K hK => ?_)
  intro w12 M12
  clear M11
  go_simp; refine hK _ _ ?_; clear hK K
  refine sq_ex rfl (fun K hK => ?_); apply Exists.intro; refine ⟨?_, ?_⟩; (focus (go_simp; try exact rfl)); go_simp; refine hK _ _ ?_; clear hK K
  refine sq_nil ?_
  refine H8 _ _ ?_
  clear H8 K8
  refine wp_seq_k (fun K9 H9 => ?_)
  refine sq_region ?_
  refine sq_ex rfl (fun K hK => ?_); apply Exists.intro; refine ⟨?_, ?_⟩; (focus (go_simp; try exact rfl)); go_simp; refine hK _ _ ?_; clear hK K
  refine sq_ex rfl (fun K hK => ?_); refine ⟨.bool false, ?_, ?_⟩; (focus (go_simp; try (first | omega | (simp; done) | (simp; omega)))); go_simp; refine hK _ _ ?_; clear hK K
  refine sq_ex rfl (fun K hK => ?_); apply Exists.intro; refine ⟨?_, ?_⟩; (focus (go_simp; try exact rfl)); go_simp; refine hK _ _ ?_; clear hK K
  refine sq_ex rfl (fun K hK => ?_); apply Exists.intro; refine ⟨?_, ?_⟩; (focus (go_simp; try exact rfl)); go_simp; refine hK _ _ ?_; clear hK K
  refine sq_ex rfl (fun K hK => ?_); refine ⟨.bool false, ?_, ?_⟩; (focus (go_simp; try (first | omega | (simp; done) | (simp; omega)))); go_simp; refine hK _ _ ?_; clear hK K
  refine sq_ex rfl (fun K hK => ?_); apply Exists.intro; refine ⟨?_, ?_⟩; (focus (go_simp; try exact rfl)); go_simp; refine hK _ _ ?_; clear hK K
  refine sq_ex rfl (fun K hK => ?_); apply Exists.intro; refine ⟨?_, ?_⟩; (focus (go_simp; try exact rfl)); go_simp; refine hK _ _ ?_; clear hK K
  refine sq_ex rfl (fun K hK => ?_); refine ⟨_, run_ld rfl rfl (M12.row 3 rfl) rfl Try.underlying24 wide_size, ?_⟩; go_simp; refine hK _ _ ?_; clear hK K
  refine sq_ex rfl (fun K hK => ?_); refine ⟨_, run_ld rfl rfl (M12.row 0 rfl) rfl Try.underlying24 wide_size, ?_⟩; go_simp; refine hK _ _ ?_; clear hK K
  refine sq_ex rfl (fun K hK => ?_); refine ⟨.bool false, ?_, ?_⟩; (focus (go_simp; try (first | omega | (simp; done) | (simp; omega)))); go_simp; refine hK _ _ ?_; clear hK K
  refine sq_ex rfl (fun K hK => ?_); apply Exists.intro; refine ⟨?_, ?_⟩; (focus (go_simp; try exact rfl)); go_simp; refine hK _ _ ?_; clear hK K
  refine sq_ex rfl (fun K hK => ?_); apply Exists.intro; refine ⟨?_, ?_⟩; (focus (go_simp; try exact rfl)); go_simp; refine hK _ _ ?_; clear hK K
  refine sq_ex rfl (fun K hK => ?_); refine ⟨_, run_ld rfl rfl (M12.row 4 rfl) rfl Try.underlying24 wide_size, ?_⟩; go_simp; refine hK _ _ ?_; clear hK K
  refine sq_ex rfl (fun K hK => ?_); refine ⟨_, run_ld rfl rfl (M12.row 1 rfl) rfl Try.underlying24 wide_size, ?_⟩; go_simp; refine hK _ _ ?_; clear hK K
  refine sq_ex rfl (fun K hK => ?_); refine ⟨.bool false, ?_, ?_⟩; (focus (go_simp; try (first | omega | (simp; done) | (simp; omega)))); go_simp; refine hK _ _ ?_; clear hK K
  refine sq_ex rfl (fun K hK => ?_); apply Exists.intro; refine ⟨?_, ?_⟩; (focus (go_simp; try exact rfl)); go_simp; refine hK _ _ ?_; clear hK K
  refine sq_nil ?_
  refine H9 _ _ ?_
  clear H9 K9
  refine wp_cond_false rfl ?_
  refine wp_skip ?_
  refine H4 _ _ ?_
  clear H4 K4
  refine wp_seq_k (fun K10 H10 => ?_)
  refine wp_seq_k (fun K11 H11 => ?_)
  refine sq_region ?_
  refine sq_ex rfl (fun K hK => ?_); refine ⟨_, run_ld rfl rfl (M12.row 0 rfl) rfl Try.underlying24 wide_size, ?_⟩; go_simp; refine hK _ _ ?_; clear hK K
  refine sq_call rfl (fun w' => by go_simp) (HTX.out _) (fun K hK => ?_)
  rintro e w13 ⟨rfl, hb⟩
  refine ⟨_, rfl, ?_⟩
  have M13 := M12.kept hb
  clear M12 hb
  go_simp; refine hK _ _ ?_; clear hK K
  refine sq_call rfl (fun w' => by go_simp) (HPA.out _) (fun K hK => ?_)
  rintro e w14 ⟨rfl, hb⟩
  refine ⟨_, rfl, ?_⟩
  have M14 := M13.kept hb
  clear M13 hb
  go_simp; refine hK _ _ ?_; clear hK K
  refine sq_ex rfl (fun K hK => ?_); apply Exists.intro; refine ⟨?_, ?_⟩; (focus (go_simp; try exact rfl)); go_simp; refine hK _ _ ?_; clear hK K
  refine sq_ex rfl (fun K hK => ?_); apply Exists.intro; refine ⟨?_, ?_⟩; (focus (go_simp; try exact rfl)); go_simp; refine hK _ _ ?_; clear hK K
  refine sq_ex rfl (fun K hK => ?_); apply Exists.intro; refine ⟨?_, ?_⟩; (focus (go_simp; try exact rfl)); go_simp; refine hK _ _ ?_; clear hK K
  refine sq_alloc rfl M14 (T := 24) (z := #[.int .u64 0, .int .u64 0]) (fun w' => by go_simp) (fun K hK => ?_)
  intro g13 w15 M15
  clear M14
  go_simp; refine hK _ _ ?_; clear hK K
  refine sq_store rfl M15 5 rfl (run_st (cs := #[.int .u64 h, .int .u64 l]) rfl rfl rfl wide_size rfl (by simp [Value.oneCell'])) (fun K hK => ?_)
  intro w16 M16
  clear M15
  go_simp; refine hK _ _ ?_; clear hK K
  refine sq_ex rfl (fun K hK => ?_); apply Exists.intro; refine ⟨?_, ?_⟩; (focus (go_simp; try exact rfl)); go_simp; refine hK _ _ ?_; clear hK K
  refine sq_nil ?_
  refine H11 _ _ ?_
  clear H11 K11
  refine wp_seq_k (fun K12 H12 => ?_)
  refine sq_region ?_
  refine sq_ex rfl (fun K hK => ?_); apply Exists.intro; refine ⟨?_, ?_⟩; (focus (go_simp; try exact rfl)); go_simp; refine hK _ _ ?_; clear hK K
  refine sq_ex rfl (fun K hK => ?_); refine ⟨.bool false, ?_, ?_⟩; (focus (go_simp; try (first | omega | (simp; done) | (simp; omega)))); go_simp; refine hK _ _ ?_; clear hK K
  refine sq_ex rfl (fun K hK => ?_); apply Exists.intro; refine ⟨?_, ?_⟩; (focus (go_simp; try exact rfl)); go_simp; refine hK _ _ ?_; clear hK K
  refine sq_ex rfl (fun K hK => ?_); refine ⟨_, run_ld rfl rfl (M16.row 5 rfl) rfl Try.underlying24 wide_size, ?_⟩; go_simp; refine hK _ _ ?_; clear hK K
  refine sq_ex rfl (fun K hK => ?_); refine ⟨_, run_ld rfl rfl (M16.row 0 rfl) rfl Try.underlying24 wide_size, ?_⟩; go_simp; refine hK _ _ ?_; clear hK K
  refine sq_ex rfl (fun K hK => ?_); refine ⟨.bool false, ?_, ?_⟩; (focus (go_simp; try (first | omega | (simp; done) | (simp; omega)))); go_simp; refine hK _ _ ?_; clear hK K
  refine sq_ex rfl (fun K hK => ?_); apply Exists.intro; refine ⟨?_, ?_⟩; (focus (go_simp; try exact rfl)); go_simp; refine hK _ _ ?_; clear hK K
  refine sq_nil ?_
  refine H12 _ _ ?_
  clear H12 K12
  refine wp_cond_false rfl ?_
  refine wp_skip ?_
  refine H10 _ _ ?_
  clear H10 K10
  refine wp_seq_k (fun K13 H13 => ?_)
  refine sq_region ?_
  refine sq_ex rfl (fun K hK => ?_); refine ⟨_, run_ld rfl rfl (M16.row 0 rfl) rfl Try.underlying24 wide_size, ?_⟩; go_simp; refine hK _ _ ?_; clear hK K
  refine sq_ex rfl (fun K hK => ?_); apply Exists.intro; refine ⟨?_, ?_⟩; (focus (go_simp; try exact rfl)); go_simp; refine hK _ _ ?_; clear hK K
  refine sq_call rfl (fun w' => by go_simp) (HDI.out _) (fun K hK => ?_)
  rintro e w17 ⟨rfl, hb⟩
  refine ⟨_, rfl, ?_⟩
  have M17 := M16.kept hb
  clear M16 hb
  go_simp; refine hK _ _ ?_; clear hK K
  refine sq_ex rfl (fun K hK => ?_); apply Exists.intro; refine ⟨?_, ?_⟩; (focus (go_simp; try exact rfl)); go_simp; refine hK _ _ ?_; clear hK K
  refine sq_ex rfl (fun K hK => ?_); apply Exists.intro; refine ⟨?_, ?_⟩; (focus (go_simp; try exact rfl)); go_simp; refine hK _ _ ?_; clear hK K
  refine sq_ex rfl (fun K hK => ?_); apply Exists.intro; refine ⟨?_, ?_⟩; (focus (go_simp; try exact rfl)); go_simp; refine hK _ _ ?_; clear hK K
  refine sq_ex rfl (fun K hK => ?_); apply Exists.intro; refine ⟨?_, ?_⟩; (focus (go_simp; try exact rfl)); go_simp; refine hK _ _ ?_; clear hK K
  refine sq_alloc rfl M17 (T := 24) (z := #[.int .u64 0, .int .u64 0]) (fun w' => by go_simp) (fun K hK => ?_)
  intro g15 w18 M18
  clear M17
  go_simp; refine hK _ _ ?_; clear hK K
  refine sq_store rfl M18 6 rfl (run_st (cs := #[.int .u64 X, .int .u64 Y]) rfl rfl rfl wide_size rfl (by simp [Value.oneCell'])) (fun K hK => ?_)
  intro w19 M19
  clear M18
  go_simp; refine hK _ _ ?_; clear hK K
  refine sq_ex rfl (fun K hK => ?_); apply Exists.intro; refine ⟨?_, ?_⟩; (focus (go_simp; try exact rfl)); go_simp; refine hK _ _ ?_; clear hK K
  refine sq_ex rfl (fun K hK => ?_); apply Exists.intro; refine ⟨?_, ?_⟩; (focus (go_simp; try exact rfl)); go_simp; refine hK _ _ ?_; clear hK K
  refine sq_nil ?_
  refine H13 _ _ ?_
  clear H13 K13
  refine wp_seq_k (fun K14 H14 => ?_)
  refine wp_seq_k (fun K15 H15 => ?_)
  refine sq_region ?_
  refine sq_ex rfl (fun K hK => ?_); apply Exists.intro; refine ⟨?_, ?_⟩; (focus (go_simp; try exact rfl)); go_simp; refine hK _ _ ?_; clear hK K
  refine sq_ex rfl (fun K hK => ?_); refine ⟨.bool false, ?_, ?_⟩; (focus (go_simp; try (first | omega | (simp; done) | (simp; omega)))); go_simp; refine hK _ _ ?_; clear hK K
  refine sq_nil ?_
  refine H15 _ _ ?_
  clear H15 K15
  refine wp_cond_false rfl ?_
  refine wp_skip ?_
  refine H14 _ _ ?_
  clear H14 K14
  refine wp_seq_k (fun K16 H16 => ?_)
  refine wp_region_rows [(8, .box 24 #[.int .u64 0, .int .u64 0] 10), (9, .box 24 #[.int .u64 0, .int .u64 0] 11)] [(3, fun v => v = wv P Q), (7, fun v => v = wv 0 S), (8, fun v => ∃ g, v = .pointer (some ⟨g, 0, none⟩)), (9, fun v => ∃ g, v = .pointer (some ⟨g, 0, none⟩))] M19 (by kernel_rfl) (by kernel_rfl) (by kernel_rfl) (by kernel_rfl) ?_
  refine rs_ex rfl rfl rfl rfl rfl ⟨_, M19⟩ (fun K hK => ?_); apply Exists.intro; refine ⟨fun w' hw => ?_, ?_⟩; (focus (go_simp; try exact rfl)); go_simp; refine hK _ ?_; clear hK K
  refine rs_ex rfl rfl rfl rfl rfl ⟨_, M19⟩ (fun K hK => ?_); apply Exists.intro; refine ⟨fun w' hw => ?_, ?_⟩; (focus (have c := IsR.cell (hw.row 6 rfl); have f := IsR.froz (hw.row 6 rfl); go_simp; try exact rfl)); go_simp; refine hK _ ?_; clear hK K
  refine rs_ex rfl rfl rfl rfl rfl ⟨_, M19⟩ (fun K hK => ?_); apply Exists.intro; refine ⟨fun w' hw => ?_, ?_⟩; (focus (go_simp; try exact rfl)); go_simp; refine hK _ ?_; clear hK K
  refine rs_call rfl rfl (fun v => v = wv P Q) rfl rfl ⟨_, rfl⟩ (fun w' => by go_simp) (fun w' hw => (HM1.out w').mono fun e w'' hh => ⟨_, hh.1, rfl, hh.2⟩) (fun K hK => ?_); rintro _ rfl; go_simp; refine hK _ ?_; clear hK K
  refine rs_ex rfl rfl rfl rfl rfl ⟨_, M19⟩ (fun K hK => ?_); apply Exists.intro; refine ⟨fun w' hw => ?_, ?_⟩; (focus (go_simp; try exact rfl)); go_simp; refine hK _ ?_; clear hK K
  refine rs_ex rfl rfl rfl rfl rfl ⟨_, M19⟩ (fun K hK => ?_); apply Exists.intro; refine ⟨fun w' hw => ?_, ?_⟩; (focus (have c := IsR.cell (hw.row 6 rfl); have f := IsR.froz (hw.row 6 rfl); go_simp; try exact rfl)); go_simp; refine hK _ ?_; clear hK K
  refine rs_ex rfl rfl rfl rfl rfl ⟨_, M19⟩ (fun K hK => ?_); apply Exists.intro; refine ⟨fun w' hw => ?_, ?_⟩; (focus (go_simp; try exact rfl)); go_simp; refine hK _ ?_; clear hK K
  refine rs_call rfl rfl (fun v => v = wv 0 S) rfl rfl ⟨_, rfl⟩ (fun w' => by go_simp) (fun w' hw => (HM2.out w').mono fun e w'' hh => ⟨_, hh.1, rfl, hh.2⟩) (fun K hK => ?_); rintro _ rfl; go_simp; refine hK _ ?_; clear hK K
  refine rs_alloc rfl rfl rfl 0 rfl rfl rfl (by decide) (by kernel_rfl) (fun w' => by go_simp) (fun K hK => ?_); intro g18; go_simp; refine hK _ ?_; clear hK K
  refine rs_alloc rfl rfl rfl 1 rfl rfl rfl (by decide) (by kernel_rfl) (fun w' => by go_simp) (fun K hK => ?_); intro g19; go_simp; refine hK _ ?_; clear hK K
  refine rs_store rfl rfl rfl rfl ⟨_, M19⟩ rfl 0 rfl rfl (by decide) rfl rfl (by kernel_rfl) rfl rfl (run_st (cs := #[.int .u64 P, .int .u64 Q]) rfl rfl rfl wide_size rfl (by simp [Value.oneCell'])) (fun K hK => ?_); go_simp; refine hK _ ?_; clear hK K
  refine rs_store rfl rfl rfl rfl ⟨_, M19⟩ rfl 1 rfl rfl (by decide) rfl rfl (by kernel_rfl) rfl rfl (run_st (cs := #[.int .u64 (0 : Nat), .int .u64 S]) rfl rfl rfl wide_size rfl (by simp [Value.oneCell'])) (fun K hK => ?_); go_simp; refine hK _ ?_; clear hK K
  refine rs_nil ?_
  intro w20 M
  have M20 : Has w [(g3, #[.int .u64 h, .int .u64 l], 24), (g4, #[.int .u64 H, .int .u64 L], 24), (g7, #[.int .u64 A, .int .u64 B], 24), (g9, #[.int .u64 h, .int .u64 l], 24), (g11, #[.int .u64 H, .int .u64 L], 24), (g13, #[.int .u64 h, .int .u64 l], 24), (g15, #[.int .u64 X, .int .u64 Y], 24), (g18, #[.int .u64 P, .int .u64 Q], 24), (g19, #[.int .u64 (0 : Nat), .int .u64 S], 24)] w20 := M
  clear M19 M
  refine H16 _ _ ?_
  clear H16 K16
  refine wp_seq_k (fun K17 H17 => ?_)
  refine wp_seq_k (fun K18 H18 => ?_)
  refine sq_region ?_
  refine sq_ex rfl (fun K hK => ?_); apply Exists.intro; refine ⟨?_, ?_⟩; (focus (go_simp; try exact rfl)); go_simp; refine hK _ _ ?_; clear hK K
  refine sq_ex rfl (fun K hK => ?_); apply Exists.intro; refine ⟨?_, ?_⟩; (focus (go_simp; try exact rfl)); go_simp; refine hK _ _ ?_; clear hK K
  refine sq_ex rfl (fun K hK => ?_); refine ⟨.bool false, ?_, ?_⟩; (focus (go_simp; try (first | omega | (simp; done) | (simp; omega)))); go_simp; refine hK _ _ ?_; clear hK K
  refine sq_ex rfl (fun K hK => ?_); apply Exists.intro; refine ⟨?_, ?_⟩; (focus (go_simp; try exact rfl)); go_simp; refine hK _ _ ?_; clear hK K
  refine sq_ex rfl (fun K hK => ?_); apply Exists.intro; refine ⟨?_, ?_⟩; (focus (go_simp; try exact rfl)); go_simp; refine hK _ _ ?_; clear hK K
  refine sq_ex rfl (fun K hK => ?_); apply Exists.intro; refine ⟨?_, ?_⟩; (focus (have c := IsR.cell (M20.row 8 rfl); have f := IsR.froz (M20.row 8 rfl); go_simp; try exact rfl)); go_simp; refine hK _ _ ?_; clear hK K
  refine sq_ex rfl (fun K hK => ?_); refine ⟨.bool false, ?_, ?_⟩; (focus (go_simp; try (first | omega | (simp; done) | (simp; omega)))); go_simp; refine hK _ _ ?_; clear hK K
  refine sq_ex rfl (fun K hK => ?_); apply Exists.intro; refine ⟨?_, ?_⟩; (focus (go_simp; try exact rfl)); go_simp; refine hK _ _ ?_; clear hK K
  refine sq_nil ?_
  refine H18 _ _ ?_
  clear H18 K18
  refine wp_cond_false rfl ?_
  refine wp_skip ?_
  refine H17 _ _ ?_
  clear H17 K17
  refine wp_seq_k (fun K19 H19 => ?_)
  refine sq_region ?_
  refine sq_ex rfl (fun K hK => ?_); refine ⟨_, run_ld rfl rfl (M20.row 7 rfl) rfl Try.underlying24 wide_size, ?_⟩; go_simp; refine hK _ _ ?_; clear hK K
  refine sq_ex rfl (fun K hK => ?_); apply Exists.intro; refine ⟨?_, ?_⟩; (focus (go_simp; try exact rfl)); go_simp; refine hK _ _ ?_; clear hK K
  refine sq_ex rfl (fun K hK => ?_); apply Exists.intro; refine ⟨?_, ?_⟩; (focus (have c := IsR.cell (M20.row 8 rfl); have f := IsR.froz (M20.row 8 rfl); go_simp; try exact rfl)); go_simp; refine hK _ _ ?_; clear hK K
  refine sq_ex rfl (fun K hK => ?_); apply Exists.intro; refine ⟨?_, ?_⟩; (focus (go_simp; try exact rfl)); go_simp; refine hK _ _ ?_; clear hK K
  refine sq_call rfl (fun w' => by go_simp) (HA1.out _) (fun K hK => ?_)
  rintro e w21 ⟨rfl, hb⟩
  refine ⟨_, rfl, ?_⟩
  have M21 := M20.kept hb
  clear M20 hb
  go_simp; refine hK _ _ ?_; clear hK K
  refine sq_ex rfl (fun K hK => ?_); apply Exists.intro; refine ⟨?_, ?_⟩; (focus (go_simp; try exact rfl)); go_simp; refine hK _ _ ?_; clear hK K
  refine sq_ex rfl (fun K hK => ?_); apply Exists.intro; refine ⟨?_, ?_⟩; (focus (go_simp; try exact rfl)); go_simp; refine hK _ _ ?_; clear hK K
  refine sq_ex rfl (fun K hK => ?_); apply Exists.intro; refine ⟨?_, ?_⟩; (focus (go_simp; try exact rfl)); go_simp; refine hK _ _ ?_; clear hK K
  refine sq_alloc rfl M21 (T := 24) (z := #[.int .u64 0, .int .u64 0]) (fun w' => by go_simp) (fun K hK => ?_)
  intro g20 w22 M22
  clear M21
  go_simp; refine hK _ _ ?_; clear hK K
  refine sq_store rfl M22 9 rfl (run_st (cs := #[.int .u64 U, .int .u64 V]) rfl rfl rfl wide_size rfl (by simp [Value.oneCell'])) (fun K hK => ?_)
  intro w23 M23
  clear M22
  go_simp; refine hK _ _ ?_; clear hK K
  refine sq_ex rfl (fun K hK => ?_); apply Exists.intro; refine ⟨?_, ?_⟩; (focus (go_simp; try exact rfl)); go_simp; refine hK _ _ ?_; clear hK K
  refine sq_nil ?_
  refine H19 _ _ ?_
  clear H19 K19
  refine wp_seq_k (fun K20 H20 => ?_)
  refine wp_region_rows [(7, .box 24 #[.int .u64 0, .int .u64 0] 8)] [(2, fun v => v = .agg #[.int .u64 0, .int .u64 r]), (3, fun v => v = .tuple #[wv h l, .int .i64 0]), (7, fun v => ∃ g, v = .pointer (some ⟨g, 0, none⟩))] M23 (by kernel_rfl) (by kernel_rfl) (by kernel_rfl) (by kernel_rfl) ?_
  refine rs_ex rfl rfl rfl rfl rfl ⟨_, M23⟩ (fun K hK => ?_); refine ⟨_, fun w' hw => run_ld rfl rfl (hw.row 9 rfl) rfl Try.underlying24 wide_size, ?_⟩; go_simp; refine hK _ ?_; clear hK K
  refine rs_ex rfl rfl rfl rfl rfl ⟨_, M23⟩ (fun K hK => ?_); apply Exists.intro; refine ⟨fun w' hw => ?_, ?_⟩; (focus (go_simp; try exact rfl)); go_simp; refine hK _ ?_; clear hK K
  refine rs_call rfl rfl (fun v => v = .agg #[.int .u64 0, .int .u64 r]) rfl rfl ⟨_, rfl⟩ (fun w' => by go_simp) (fun w' hw => (HOF.out w').mono fun e w'' hh => ⟨_, hh.1, rfl, hh.2⟩) (fun K hK => ?_); rintro _ rfl; go_simp; refine hK _ ?_; clear hK K
  refine rs_call rfl rfl (fun v => v = .tuple #[wv h l, .int .i64 0]) rfl rfl ⟨_, rfl⟩ (fun w' => by go_simp) (fun w' hw => (HA2.out w').mono fun e w'' hh => ⟨_, hh.1, rfl, hh.2⟩) (fun K hK => ?_); rintro _ rfl; go_simp; refine hK _ ?_; clear hK K
  refine rs_ex rfl rfl rfl rfl rfl ⟨_, M23⟩ (fun K hK => ?_); apply Exists.intro; refine ⟨fun w' hw => ?_, ?_⟩; (focus (go_simp; try exact rfl)); go_simp; refine hK _ ?_; clear hK K
  refine rs_ex rfl rfl rfl rfl rfl ⟨_, M23⟩ (fun K hK => ?_); apply Exists.intro; refine ⟨fun w' hw => ?_, ?_⟩; (focus (go_simp; try exact rfl)); go_simp; refine hK _ ?_; clear hK K
  refine rs_ex rfl rfl rfl rfl rfl ⟨_, M23⟩ (fun K hK => ?_); apply Exists.intro; refine ⟨fun w' hw => ?_, ?_⟩; (focus (go_simp; try exact rfl)); go_simp; refine hK _ ?_; clear hK K
  refine rs_alloc rfl rfl rfl 0 rfl rfl rfl (by decide) (by kernel_rfl) (fun w' => by go_simp) (fun K hK => ?_); intro g21; go_simp; refine hK _ ?_; clear hK K
  refine rs_store rfl rfl rfl rfl ⟨_, M23⟩ rfl 0 rfl rfl (by decide) rfl rfl (by kernel_rfl) rfl rfl (run_st (cs := #[.int .u64 h, .int .u64 l]) rfl rfl rfl wide_size rfl (by simp [Value.oneCell'])) (fun K hK => ?_); go_simp; refine hK _ ?_; clear hK K
  refine rs_ex rfl rfl rfl rfl rfl ⟨_, M23⟩ (fun K hK => ?_); apply Exists.intro; refine ⟨fun w' hw => ?_, ?_⟩; (focus (go_simp; try exact rfl)); go_simp; refine hK _ ?_; clear hK K
  refine rs_nil ?_
  intro w24 M
  have M24 : Has w [(g3, #[.int .u64 h, .int .u64 l], 24), (g4, #[.int .u64 H, .int .u64 L], 24), (g7, #[.int .u64 A, .int .u64 B], 24), (g9, #[.int .u64 h, .int .u64 l], 24), (g11, #[.int .u64 H, .int .u64 L], 24), (g13, #[.int .u64 h, .int .u64 l], 24), (g15, #[.int .u64 X, .int .u64 Y], 24), (g18, #[.int .u64 P, .int .u64 Q], 24), (g19, #[.int .u64 (0 : Nat), .int .u64 S], 24), (g20, #[.int .u64 U, .int .u64 V], 24), (g21, #[.int .u64 h, .int .u64 l], 24)] w24 := M
  clear M23 M
  refine H20 _ _ ?_
  clear H20 K20
  refine wp_seq_k (fun K21 H21 => ?_)
  refine sq_region ?_
  refine sq_ex rfl (fun K hK => ?_); apply Exists.intro; refine ⟨?_, ?_⟩; (focus (go_simp; try exact rfl)); go_simp; refine hK _ _ ?_; clear hK K
  refine sq_ex rfl (fun K hK => ?_); refine ⟨.bool true, ?_, ?_⟩; (focus (go_simp; try (first | omega | (simp; done) | (simp; omega)))); go_simp; refine hK _ _ ?_; clear hK K
  refine sq_ex rfl (fun K hK => ?_); apply Exists.intro; refine ⟨?_, ?_⟩; (focus (go_simp; try exact rfl)); go_simp; refine hK _ _ ?_; clear hK K
  refine sq_ex rfl (fun K hK => ?_); apply Exists.intro; refine ⟨?_, ?_⟩; (focus (go_simp; try exact rfl)); go_simp; refine hK _ _ ?_; clear hK K
  refine sq_ex rfl (fun K hK => ?_); refine ⟨.bool true, ?_, ?_⟩; (focus (go_simp; try (first | omega | (simp; done) | (simp; omega)))); go_simp; refine hK _ _ ?_; clear hK K
  refine sq_ex rfl (fun K hK => ?_); apply Exists.intro; refine ⟨?_, ?_⟩; (focus (go_simp; try exact rfl)); go_simp; refine hK _ _ ?_; clear hK K
  refine sq_ex rfl (fun K hK => ?_); apply Exists.intro; refine ⟨?_, ?_⟩; (focus (go_simp; try exact rfl)); go_simp; refine hK _ _ ?_; clear hK K
  refine sq_ex rfl (fun K hK => ?_); refine ⟨_, run_ld rfl rfl (M24.row 10 rfl) rfl Try.underlying24 wide_size, ?_⟩; go_simp; refine hK _ _ ?_; clear hK K
  refine sq_ex rfl (fun K hK => ?_); refine ⟨_, run_ld rfl rfl (M24.row 0 rfl) rfl Try.underlying24 wide_size, ?_⟩; go_simp; refine hK _ _ ?_; clear hK K
  refine sq_ex rfl (fun K hK => ?_); refine ⟨.bool true, ?_, ?_⟩; (focus (go_simp; try (first | omega | (simp; done) | (simp; omega)))); go_simp; refine hK _ _ ?_; clear hK K
  refine sq_ex rfl (fun K hK => ?_); apply Exists.intro; refine ⟨?_, ?_⟩; (focus (go_simp; try exact rfl)); go_simp; refine hK _ _ ?_; clear hK K
  refine sq_ex rfl (fun K hK => ?_); apply Exists.intro; refine ⟨?_, ?_⟩; (focus (go_simp; try exact rfl)); go_simp; refine hK _ _ ?_; clear hK K
  refine sq_nil ?_
  refine H21 _ _ ?_
  clear H21 K21
  refine wp_ret ?_
  go_ret
  exact ⟨rfl, M24.below⟩

set_option maxRecDepth 100000 in
set_option maxHeartbeats 1000000 in
theorem wb_no1 (h l H L d A B X Y P Q S U V r : Nat) (t : ByteArray) (w : World)
    (HAD : Hid (Dt 24 #[wv h l, wv H L] (.tuple #[.agg #[.int .u64 0, .int .u64 0], .int .i64 131])))
    (HTX : Hid (Dt 33 #[wv h l] (.string t)))
    (HPA : Hid (Dt 32 #[.string t] (.tuple #[wv h l, .int .i64 0])))
    (HDI : Hid (Dt 16 #[wv h l, .int .u64 d] (.tuple #[wv X Y, .int .u64 r, .int .i64 0])))
    (HM1 : Hid (Dt 27 #[.int .u64 Y, .int .u64 d] (wv P Q)))
    (HM2 : Hid (Dt 27 #[.int .u64 X, .int .u64 d] (wv 0 S)))
    (hrd : r < d)
    (HA1 : Hid (Dt 24 #[wv P Q, .agg #[.int .u64 S, .int .u64 0]] (.tuple #[wv U V, .int .i64 0])))
    (HOF : Hid (Dt 28 #[.int .u64 r] (.agg #[.int .u64 0, .int .u64 r])))
    (HA2 : Hid (Dt 24 #[wv U V, .agg #[.int .u64 0, .int .u64 r]] (.tuple #[wv h l, .int .i64 0]))) :
    Calls Try.prog 8 #[wv h l, wv H L, .int .u64 d] w fun e w' => e = .returned (.bool true) ∧ Below w.heap.size w w' := by
  have M0 := Has.start w
  go_enter Try.func8, Try.ntmps8
  refine wp_seq_k (fun K1 H1 => ?_)
  refine sq_region ?_
  refine sq_alloc rfl M0 (T := 24) (z := #[.int .u64 h, .int .u64 l]) (fun w' => by go_simp) (fun K hK => ?_)
  intro g3 w1 M1
  clear M0
  go_simp; refine hK _ _ ?_; clear hK K
  refine sq_alloc rfl M1 (T := 24) (z := #[.int .u64 H, .int .u64 L]) (fun w' => by go_simp) (fun K hK => ?_)
  intro g4 w2 M2
  clear M1
  go_simp; refine hK _ _ ?_; clear hK K
  refine sq_ex rfl (fun K hK => ?_); apply Exists.intro; refine ⟨?_, ?_⟩; (focus (go_simp; try exact rfl)); go_simp; refine hK _ _ ?_; clear hK K
  refine sq_nil ?_
  refine H1 _ _ ?_
  clear H1 K1
  refine wp_seq_k (fun K2 H2 => ?_)
  refine wp_seq_k (fun K3 H3 => ?_)
  refine sq_region ?_
  refine sq_call rfl (fun w' => by go_simp) (wakes_d _) (fun K hK => ?_)
  rintro e w3 ⟨rfl, hb⟩
  refine ⟨_, rfl, ?_⟩
  have M3 := M2.kept hb
  clear M2 hb
  go_simp; refine hK _ _ ?_; clear hK K
  refine sq_ex rfl (fun K hK => ?_); apply Exists.intro; refine ⟨?_, ?_⟩; (focus (go_simp; try exact rfl)); go_simp; refine hK _ _ ?_; clear hK K
  refine sq_nil ?_
  refine H3 _ _ ?_
  clear H3 K3
  refine wp_cond_false rfl ?_
  refine wp_skip ?_
  refine H2 _ _ ?_
  clear H2 K2
  refine wp_seq_k (fun K4 H4 => ?_)
  refine wp_seq_k (fun K5 H5 => ?_)
  refine sq_region ?_
  refine sq_ex rfl (fun K hK => ?_); refine ⟨_, run_ld rfl rfl (M3.row 0 rfl) rfl Try.underlying24 wide_size, ?_⟩; go_simp; refine hK _ _ ?_; clear hK K
  refine sq_ex rfl (fun K hK => ?_); refine ⟨_, run_ld rfl rfl (M3.row 1 rfl) rfl Try.underlying24 wide_size, ?_⟩; go_simp; refine hK _ _ ?_; clear hK K
  refine sq_call rfl (fun w' => by go_simp) (HAD.out _) (fun K hK => ?_)
  rintro e w4 ⟨rfl, hb⟩
  refine ⟨_, rfl, ?_⟩
  have M4 := M3.kept hb
  clear M3 hb
  go_simp; refine hK _ _ ?_; clear hK K
  refine sq_ex rfl (fun K hK => ?_); apply Exists.intro; refine ⟨?_, ?_⟩; (focus (go_simp; try exact rfl)); go_simp; refine hK _ _ ?_; clear hK K
  refine sq_ex rfl (fun K hK => ?_); apply Exists.intro; refine ⟨?_, ?_⟩; (focus (go_simp; try exact rfl)); go_simp; refine hK _ _ ?_; clear hK K
  refine sq_ex rfl (fun K hK => ?_); apply Exists.intro; refine ⟨?_, ?_⟩; (focus (go_simp; try exact rfl)); go_simp; refine hK _ _ ?_; clear hK K
  refine sq_alloc rfl M4 (T := 24) (z := #[.int .u64 0, .int .u64 0]) (fun w' => by go_simp) (fun K hK => ?_)
  intro g7 w5 M5
  clear M4
  go_simp; refine hK _ _ ?_; clear hK K
  refine sq_store rfl M5 2 rfl (run_st (cs := #[.int .u64 0, .int .u64 0]) rfl rfl rfl wide_size rfl (by simp [Value.oneCell'])) (fun K hK => ?_)
  intro w6 M6
  clear M5
  go_simp; refine hK _ _ ?_; clear hK K
  refine sq_ex rfl (fun K hK => ?_); apply Exists.intro; refine ⟨?_, ?_⟩; (focus (go_simp; try exact rfl)); go_simp; refine hK _ _ ?_; clear hK K
  refine sq_nil ?_
  refine H5 _ _ ?_
  clear H5 K5
  refine wp_seq_k (fun K6 H6 => ?_)
  refine sq_region ?_
  refine sq_ex rfl (fun K hK => ?_); apply Exists.intro; refine ⟨?_, ?_⟩; (focus (go_simp; try exact rfl)); go_simp; refine hK _ _ ?_; clear hK K
  refine sq_ex rfl (fun K hK => ?_); refine ⟨.bool false, ?_, ?_⟩; (focus (go_simp; try (first | omega | (simp; done) | (simp; omega)))); go_simp; refine hK _ _ ?_; clear hK K
  refine sq_nil ?_
  refine H6 _ _ ?_
  clear H6 K6
  refine wp_cond_false rfl ?_
  refine wp_skip ?_
  refine H4 _ _ ?_
  clear H4 K4
  refine wp_seq_k (fun K7 H7 => ?_)
  refine wp_seq_k (fun K8 H8 => ?_)
  refine sq_region ?_
  refine sq_ex rfl (fun K hK => ?_); refine ⟨_, run_ld rfl rfl (M6.row 0 rfl) rfl Try.underlying24 wide_size, ?_⟩; go_simp; refine hK _ _ ?_; clear hK K
  refine sq_call rfl (fun w' => by go_simp) (HTX.out _) (fun K hK => ?_)
  rintro e w7 ⟨rfl, hb⟩
  refine ⟨_, rfl, ?_⟩
  have M7 := M6.kept hb
  clear M6 hb
  go_simp; refine hK _ _ ?_; clear hK K
  refine sq_call rfl (fun w' => by go_simp) (HPA.out _) (fun K hK => ?_)
  rintro e w8 ⟨rfl, hb⟩
  refine ⟨_, rfl, ?_⟩
  have M8 := M7.kept hb
  clear M7 hb
  go_simp; refine hK _ _ ?_; clear hK K
  refine sq_ex rfl (fun K hK => ?_); apply Exists.intro; refine ⟨?_, ?_⟩; (focus (go_simp; try exact rfl)); go_simp; refine hK _ _ ?_; clear hK K
  refine sq_ex rfl (fun K hK => ?_); apply Exists.intro; refine ⟨?_, ?_⟩; (focus (go_simp; try exact rfl)); go_simp; refine hK _ _ ?_; clear hK K
  refine sq_ex rfl (fun K hK => ?_); apply Exists.intro; refine ⟨?_, ?_⟩; (focus (go_simp; try exact rfl)); go_simp; refine hK _ _ ?_; clear hK K
  refine sq_alloc rfl M8 (T := 24) (z := #[.int .u64 0, .int .u64 0]) (fun w' => by go_simp) (fun K hK => ?_)
  intro g13 w9 M9
  clear M8
  go_simp; refine hK _ _ ?_; clear hK K
  refine sq_store rfl M9 3 rfl (run_st (cs := #[.int .u64 h, .int .u64 l]) rfl rfl rfl wide_size rfl (by simp [Value.oneCell'])) (fun K hK => ?_)
  intro w10 M10
  clear M9
  go_simp; refine hK _ _ ?_; clear hK K
  refine sq_ex rfl (fun K hK => ?_); apply Exists.intro; refine ⟨?_, ?_⟩; (focus (go_simp; try exact rfl)); go_simp; refine hK _ _ ?_; clear hK K
  refine sq_nil ?_
  refine H8 _ _ ?_
  clear H8 K8
  refine wp_seq_k (fun K9 H9 => ?_)
  refine sq_region ?_
  refine sq_ex rfl (fun K hK => ?_); apply Exists.intro; refine ⟨?_, ?_⟩; (focus (go_simp; try exact rfl)); go_simp; refine hK _ _ ?_; clear hK K
  refine sq_ex rfl (fun K hK => ?_); refine ⟨.bool false, ?_, ?_⟩; (focus (go_simp; try (first | omega | (simp; done) | (simp; omega)))); go_simp; refine hK _ _ ?_; clear hK K
  refine sq_ex rfl (fun K hK => ?_); apply Exists.intro; refine ⟨?_, ?_⟩; (focus (go_simp; try exact rfl)); go_simp; refine hK _ _ ?_; clear hK K
  refine sq_ex rfl (fun K hK => ?_); refine ⟨_, run_ld rfl rfl (M10.row 3 rfl) rfl Try.underlying24 wide_size, ?_⟩; go_simp; refine hK _ _ ?_; clear hK K
  refine sq_ex rfl (fun K hK => ?_); refine ⟨_, run_ld rfl rfl (M10.row 0 rfl) rfl Try.underlying24 wide_size, ?_⟩; go_simp; refine hK _ _ ?_; clear hK K
  refine sq_ex rfl (fun K hK => ?_); refine ⟨.bool false, ?_, ?_⟩; (focus (go_simp; try (first | omega | (simp; done) | (simp; omega)))); go_simp; refine hK _ _ ?_; clear hK K
  refine sq_ex rfl (fun K hK => ?_); apply Exists.intro; refine ⟨?_, ?_⟩; (focus (go_simp; try exact rfl)); go_simp; refine hK _ _ ?_; clear hK K
  refine sq_nil ?_
  refine H9 _ _ ?_
  clear H9 K9
  refine wp_cond_false rfl ?_
  refine wp_skip ?_
  refine H7 _ _ ?_
  clear H7 K7
  refine wp_seq_k (fun K10 H10 => ?_)
  refine sq_region ?_
  refine sq_ex rfl (fun K hK => ?_); refine ⟨_, run_ld rfl rfl (M10.row 0 rfl) rfl Try.underlying24 wide_size, ?_⟩; go_simp; refine hK _ _ ?_; clear hK K
  refine sq_ex rfl (fun K hK => ?_); apply Exists.intro; refine ⟨?_, ?_⟩; (focus (go_simp; try exact rfl)); go_simp; refine hK _ _ ?_; clear hK K
  refine sq_call rfl (fun w' => by go_simp) (HDI.out _) (fun K hK => ?_)
  rintro e w11 ⟨rfl, hb⟩
  refine ⟨_, rfl, ?_⟩
  have M11 := M10.kept hb
  clear M10 hb
  go_simp; refine hK _ _ ?_; clear hK K
  refine sq_ex rfl (fun K hK => ?_); apply Exists.intro; refine ⟨?_, ?_⟩; (focus (go_simp; try exact rfl)); go_simp; refine hK _ _ ?_; clear hK K
  refine sq_ex rfl (fun K hK => ?_); apply Exists.intro; refine ⟨?_, ?_⟩; (focus (go_simp; try exact rfl)); go_simp; refine hK _ _ ?_; clear hK K
  refine sq_ex rfl (fun K hK => ?_); apply Exists.intro; refine ⟨?_, ?_⟩; (focus (go_simp; try exact rfl)); go_simp; refine hK _ _ ?_; clear hK K
  refine sq_ex rfl (fun K hK => ?_); apply Exists.intro; refine ⟨?_, ?_⟩; (focus (go_simp; try exact rfl)); go_simp; refine hK _ _ ?_; clear hK K
  refine sq_alloc rfl M11 (T := 24) (z := #[.int .u64 0, .int .u64 0]) (fun w' => by go_simp) (fun K hK => ?_)
  intro g15 w12 M12
  clear M11
  go_simp; refine hK _ _ ?_; clear hK K
  refine sq_store rfl M12 4 rfl (run_st (cs := #[.int .u64 X, .int .u64 Y]) rfl rfl rfl wide_size rfl (by simp [Value.oneCell'])) (fun K hK => ?_)
  intro w13 M13
  clear M12
  go_simp; refine hK _ _ ?_; clear hK K
  refine sq_ex rfl (fun K hK => ?_); apply Exists.intro; refine ⟨?_, ?_⟩; (focus (go_simp; try exact rfl)); go_simp; refine hK _ _ ?_; clear hK K
  refine sq_ex rfl (fun K hK => ?_); apply Exists.intro; refine ⟨?_, ?_⟩; (focus (go_simp; try exact rfl)); go_simp; refine hK _ _ ?_; clear hK K
  refine sq_nil ?_
  refine H10 _ _ ?_
  clear H10 K10
  refine wp_seq_k (fun K11 H11 => ?_)
  refine wp_seq_k (fun K12 H12 => ?_)
  refine sq_region ?_
  refine sq_ex rfl (fun K hK => ?_); apply Exists.intro; refine ⟨?_, ?_⟩; (focus (go_simp; try exact rfl)); go_simp; refine hK _ _ ?_; clear hK K
  refine sq_ex rfl (fun K hK => ?_); refine ⟨.bool false, ?_, ?_⟩; (focus (go_simp; try (first | omega | (simp; done) | (simp; omega)))); go_simp; refine hK _ _ ?_; clear hK K
  refine sq_nil ?_
  refine H12 _ _ ?_
  clear H12 K12
  refine wp_cond_false rfl ?_
  refine wp_skip ?_
  refine H11 _ _ ?_
  clear H11 K11
  refine wp_seq_k (fun K13 H13 => ?_)
  refine wp_region_rows [(8, .box 24 #[.int .u64 0, .int .u64 0] 10), (9, .box 24 #[.int .u64 0, .int .u64 0] 11)] [(3, fun v => v = wv P Q), (7, fun v => v = wv 0 S), (8, fun v => ∃ g, v = .pointer (some ⟨g, 0, none⟩)), (9, fun v => ∃ g, v = .pointer (some ⟨g, 0, none⟩))] M13 (by kernel_rfl) (by kernel_rfl) (by kernel_rfl) (by kernel_rfl) ?_
  refine rs_ex rfl rfl rfl rfl rfl ⟨_, M13⟩ (fun K hK => ?_); apply Exists.intro; refine ⟨fun w' hw => ?_, ?_⟩; (focus (go_simp; try exact rfl)); go_simp; refine hK _ ?_; clear hK K
  refine rs_ex rfl rfl rfl rfl rfl ⟨_, M13⟩ (fun K hK => ?_); apply Exists.intro; refine ⟨fun w' hw => ?_, ?_⟩; (focus (have c := IsR.cell (hw.row 4 rfl); have f := IsR.froz (hw.row 4 rfl); go_simp; try exact rfl)); go_simp; refine hK _ ?_; clear hK K
  refine rs_ex rfl rfl rfl rfl rfl ⟨_, M13⟩ (fun K hK => ?_); apply Exists.intro; refine ⟨fun w' hw => ?_, ?_⟩; (focus (go_simp; try exact rfl)); go_simp; refine hK _ ?_; clear hK K
  refine rs_call rfl rfl (fun v => v = wv P Q) rfl rfl ⟨_, rfl⟩ (fun w' => by go_simp) (fun w' hw => (HM1.out w').mono fun e w'' hh => ⟨_, hh.1, rfl, hh.2⟩) (fun K hK => ?_); rintro _ rfl; go_simp; refine hK _ ?_; clear hK K
  refine rs_ex rfl rfl rfl rfl rfl ⟨_, M13⟩ (fun K hK => ?_); apply Exists.intro; refine ⟨fun w' hw => ?_, ?_⟩; (focus (go_simp; try exact rfl)); go_simp; refine hK _ ?_; clear hK K
  refine rs_ex rfl rfl rfl rfl rfl ⟨_, M13⟩ (fun K hK => ?_); apply Exists.intro; refine ⟨fun w' hw => ?_, ?_⟩; (focus (have c := IsR.cell (hw.row 4 rfl); have f := IsR.froz (hw.row 4 rfl); go_simp; try exact rfl)); go_simp; refine hK _ ?_; clear hK K
  refine rs_ex rfl rfl rfl rfl rfl ⟨_, M13⟩ (fun K hK => ?_); apply Exists.intro; refine ⟨fun w' hw => ?_, ?_⟩; (focus (go_simp; try exact rfl)); go_simp; refine hK _ ?_; clear hK K
  refine rs_call rfl rfl (fun v => v = wv 0 S) rfl rfl ⟨_, rfl⟩ (fun w' => by go_simp) (fun w' hw => (HM2.out w').mono fun e w'' hh => ⟨_, hh.1, rfl, hh.2⟩) (fun K hK => ?_); rintro _ rfl; go_simp; refine hK _ ?_; clear hK K
  refine rs_alloc rfl rfl rfl 0 rfl rfl rfl (by decide) (by kernel_rfl) (fun w' => by go_simp) (fun K hK => ?_); intro g18; go_simp; refine hK _ ?_; clear hK K
  refine rs_alloc rfl rfl rfl 1 rfl rfl rfl (by decide) (by kernel_rfl) (fun w' => by go_simp) (fun K hK => ?_); intro g19; go_simp; refine hK _ ?_; clear hK K
  refine rs_store rfl rfl rfl rfl ⟨_, M13⟩ rfl 0 rfl rfl (by decide) rfl rfl (by kernel_rfl) rfl rfl (run_st (cs := #[.int .u64 P, .int .u64 Q]) rfl rfl rfl wide_size rfl (by simp [Value.oneCell'])) (fun K hK => ?_); go_simp; refine hK _ ?_; clear hK K
  refine rs_store rfl rfl rfl rfl ⟨_, M13⟩ rfl 1 rfl rfl (by decide) rfl rfl (by kernel_rfl) rfl rfl (run_st (cs := #[.int .u64 (0 : Nat), .int .u64 S]) rfl rfl rfl wide_size rfl (by simp [Value.oneCell'])) (fun K hK => ?_); go_simp; refine hK _ ?_; clear hK K
  refine rs_nil ?_
  intro w14 M
  have M14 : Has w [(g3, #[.int .u64 h, .int .u64 l], 24), (g4, #[.int .u64 H, .int .u64 L], 24), (g7, #[.int .u64 0, .int .u64 0], 24), (g13, #[.int .u64 h, .int .u64 l], 24), (g15, #[.int .u64 X, .int .u64 Y], 24), (g18, #[.int .u64 P, .int .u64 Q], 24), (g19, #[.int .u64 (0 : Nat), .int .u64 S], 24)] w14 := M
  clear M13 M
  refine H13 _ _ ?_
  clear H13 K13
  refine wp_seq_k (fun K14 H14 => ?_)
  refine wp_seq_k (fun K15 H15 => ?_)
  refine sq_region ?_
  refine sq_ex rfl (fun K hK => ?_); apply Exists.intro; refine ⟨?_, ?_⟩; (focus (go_simp; try exact rfl)); go_simp; refine hK _ _ ?_; clear hK K
  refine sq_ex rfl (fun K hK => ?_); apply Exists.intro; refine ⟨?_, ?_⟩; (focus (go_simp; try exact rfl)); go_simp; refine hK _ _ ?_; clear hK K
  refine sq_ex rfl (fun K hK => ?_); refine ⟨.bool false, ?_, ?_⟩; (focus (go_simp; try (first | omega | (simp; done) | (simp; omega)))); go_simp; refine hK _ _ ?_; clear hK K
  refine sq_ex rfl (fun K hK => ?_); apply Exists.intro; refine ⟨?_, ?_⟩; (focus (go_simp; try exact rfl)); go_simp; refine hK _ _ ?_; clear hK K
  refine sq_ex rfl (fun K hK => ?_); apply Exists.intro; refine ⟨?_, ?_⟩; (focus (go_simp; try exact rfl)); go_simp; refine hK _ _ ?_; clear hK K
  refine sq_ex rfl (fun K hK => ?_); apply Exists.intro; refine ⟨?_, ?_⟩; (focus (have c := IsR.cell (M14.row 6 rfl); have f := IsR.froz (M14.row 6 rfl); go_simp; try exact rfl)); go_simp; refine hK _ _ ?_; clear hK K
  refine sq_ex rfl (fun K hK => ?_); refine ⟨.bool false, ?_, ?_⟩; (focus (go_simp; try (first | omega | (simp; done) | (simp; omega)))); go_simp; refine hK _ _ ?_; clear hK K
  refine sq_ex rfl (fun K hK => ?_); apply Exists.intro; refine ⟨?_, ?_⟩; (focus (go_simp; try exact rfl)); go_simp; refine hK _ _ ?_; clear hK K
  refine sq_nil ?_
  refine H15 _ _ ?_
  clear H15 K15
  refine wp_cond_false rfl ?_
  refine wp_skip ?_
  refine H14 _ _ ?_
  clear H14 K14
  refine wp_seq_k (fun K16 H16 => ?_)
  refine sq_region ?_
  refine sq_ex rfl (fun K hK => ?_); refine ⟨_, run_ld rfl rfl (M14.row 5 rfl) rfl Try.underlying24 wide_size, ?_⟩; go_simp; refine hK _ _ ?_; clear hK K
  refine sq_ex rfl (fun K hK => ?_); apply Exists.intro; refine ⟨?_, ?_⟩; (focus (go_simp; try exact rfl)); go_simp; refine hK _ _ ?_; clear hK K
  refine sq_ex rfl (fun K hK => ?_); apply Exists.intro; refine ⟨?_, ?_⟩; (focus (have c := IsR.cell (M14.row 6 rfl); have f := IsR.froz (M14.row 6 rfl); go_simp; try exact rfl)); go_simp; refine hK _ _ ?_; clear hK K
  refine sq_ex rfl (fun K hK => ?_); apply Exists.intro; refine ⟨?_, ?_⟩; (focus (go_simp; try exact rfl)); go_simp; refine hK _ _ ?_; clear hK K
  refine sq_call rfl (fun w' => by go_simp) (HA1.out _) (fun K hK => ?_)
  rintro e w15 ⟨rfl, hb⟩
  refine ⟨_, rfl, ?_⟩
  have M15 := M14.kept hb
  clear M14 hb
  go_simp; refine hK _ _ ?_; clear hK K
  refine sq_ex rfl (fun K hK => ?_); apply Exists.intro; refine ⟨?_, ?_⟩; (focus (go_simp; try exact rfl)); go_simp; refine hK _ _ ?_; clear hK K
  refine sq_ex rfl (fun K hK => ?_); apply Exists.intro; refine ⟨?_, ?_⟩; (focus (go_simp; try exact rfl)); go_simp; refine hK _ _ ?_; clear hK K
  refine sq_ex rfl (fun K hK => ?_); apply Exists.intro; refine ⟨?_, ?_⟩; (focus (go_simp; try exact rfl)); go_simp; refine hK _ _ ?_; clear hK K
  refine sq_alloc rfl M15 (T := 24) (z := #[.int .u64 0, .int .u64 0]) (fun w' => by go_simp) (fun K hK => ?_)
  intro g20 w16 M16
  clear M15
  go_simp; refine hK _ _ ?_; clear hK K
  refine sq_store rfl M16 7 rfl (run_st (cs := #[.int .u64 U, .int .u64 V]) rfl rfl rfl wide_size rfl (by simp [Value.oneCell'])) (fun K hK => ?_)
  intro w17 M17
  clear M16
  go_simp; refine hK _ _ ?_; clear hK K
  refine sq_ex rfl (fun K hK => ?_); apply Exists.intro; refine ⟨?_, ?_⟩; (focus (go_simp; try exact rfl)); go_simp; refine hK _ _ ?_; clear hK K
  refine sq_nil ?_
  refine H16 _ _ ?_
  clear H16 K16
  refine wp_seq_k (fun K17 H17 => ?_)
  refine wp_region_rows [(7, .box 24 #[.int .u64 0, .int .u64 0] 8)] [(2, fun v => v = .agg #[.int .u64 0, .int .u64 r]), (3, fun v => v = .tuple #[wv h l, .int .i64 0]), (7, fun v => ∃ g, v = .pointer (some ⟨g, 0, none⟩))] M17 (by kernel_rfl) (by kernel_rfl) (by kernel_rfl) (by kernel_rfl) ?_
  refine rs_ex rfl rfl rfl rfl rfl ⟨_, M17⟩ (fun K hK => ?_); refine ⟨_, fun w' hw => run_ld rfl rfl (hw.row 7 rfl) rfl Try.underlying24 wide_size, ?_⟩; go_simp; refine hK _ ?_; clear hK K
  refine rs_ex rfl rfl rfl rfl rfl ⟨_, M17⟩ (fun K hK => ?_); apply Exists.intro; refine ⟨fun w' hw => ?_, ?_⟩; (focus (go_simp; try exact rfl)); go_simp; refine hK _ ?_; clear hK K
  refine rs_call rfl rfl (fun v => v = .agg #[.int .u64 0, .int .u64 r]) rfl rfl ⟨_, rfl⟩ (fun w' => by go_simp) (fun w' hw => (HOF.out w').mono fun e w'' hh => ⟨_, hh.1, rfl, hh.2⟩) (fun K hK => ?_); rintro _ rfl; go_simp; refine hK _ ?_; clear hK K
  refine rs_call rfl rfl (fun v => v = .tuple #[wv h l, .int .i64 0]) rfl rfl ⟨_, rfl⟩ (fun w' => by go_simp) (fun w' hw => (HA2.out w').mono fun e w'' hh => ⟨_, hh.1, rfl, hh.2⟩) (fun K hK => ?_); rintro _ rfl; go_simp; refine hK _ ?_; clear hK K
  refine rs_ex rfl rfl rfl rfl rfl ⟨_, M17⟩ (fun K hK => ?_); apply Exists.intro; refine ⟨fun w' hw => ?_, ?_⟩; (focus (go_simp; try exact rfl)); go_simp; refine hK _ ?_; clear hK K
  refine rs_ex rfl rfl rfl rfl rfl ⟨_, M17⟩ (fun K hK => ?_); apply Exists.intro; refine ⟨fun w' hw => ?_, ?_⟩; (focus (go_simp; try exact rfl)); go_simp; refine hK _ ?_; clear hK K
  refine rs_ex rfl rfl rfl rfl rfl ⟨_, M17⟩ (fun K hK => ?_); apply Exists.intro; refine ⟨fun w' hw => ?_, ?_⟩; (focus (go_simp; try exact rfl)); go_simp; refine hK _ ?_; clear hK K
  refine rs_alloc rfl rfl rfl 0 rfl rfl rfl (by decide) (by kernel_rfl) (fun w' => by go_simp) (fun K hK => ?_); intro g21; go_simp; refine hK _ ?_; clear hK K
  refine rs_store rfl rfl rfl rfl ⟨_, M17⟩ rfl 0 rfl rfl (by decide) rfl rfl (by kernel_rfl) rfl rfl (run_st (cs := #[.int .u64 h, .int .u64 l]) rfl rfl rfl wide_size rfl (by simp [Value.oneCell'])) (fun K hK => ?_); go_simp; refine hK _ ?_; clear hK K
  refine rs_ex rfl rfl rfl rfl rfl ⟨_, M17⟩ (fun K hK => ?_); apply Exists.intro; refine ⟨fun w' hw => ?_, ?_⟩; (focus (go_simp; try exact rfl)); go_simp; refine hK _ ?_; clear hK K
  refine rs_nil ?_
  intro w18 M
  have M18 : Has w [(g3, #[.int .u64 h, .int .u64 l], 24), (g4, #[.int .u64 H, .int .u64 L], 24), (g7, #[.int .u64 0, .int .u64 0], 24), (g13, #[.int .u64 h, .int .u64 l], 24), (g15, #[.int .u64 X, .int .u64 Y], 24), (g18, #[.int .u64 P, .int .u64 Q], 24), (g19, #[.int .u64 (0 : Nat), .int .u64 S], 24), (g20, #[.int .u64 U, .int .u64 V], 24), (g21, #[.int .u64 h, .int .u64 l], 24)] w18 := M
  clear M17 M
  refine H17 _ _ ?_
  clear H17 K17
  refine wp_seq_k (fun K18 H18 => ?_)
  refine sq_region ?_
  refine sq_ex rfl (fun K hK => ?_); apply Exists.intro; refine ⟨?_, ?_⟩; (focus (go_simp; try exact rfl)); go_simp; refine hK _ _ ?_; clear hK K
  refine sq_ex rfl (fun K hK => ?_); refine ⟨.bool true, ?_, ?_⟩; (focus (go_simp; try (first | omega | (simp; done) | (simp; omega)))); go_simp; refine hK _ _ ?_; clear hK K
  refine sq_ex rfl (fun K hK => ?_); apply Exists.intro; refine ⟨?_, ?_⟩; (focus (go_simp; try exact rfl)); go_simp; refine hK _ _ ?_; clear hK K
  refine sq_ex rfl (fun K hK => ?_); apply Exists.intro; refine ⟨?_, ?_⟩; (focus (go_simp; try exact rfl)); go_simp; refine hK _ _ ?_; clear hK K
  refine sq_ex rfl (fun K hK => ?_); refine ⟨.bool true, ?_, ?_⟩; (focus (go_simp; try (first | omega | (simp; done) | (simp; omega)))); go_simp; refine hK _ _ ?_; clear hK K
  refine sq_ex rfl (fun K hK => ?_); apply Exists.intro; refine ⟨?_, ?_⟩; (focus (go_simp; try exact rfl)); go_simp; refine hK _ _ ?_; clear hK K
  refine sq_ex rfl (fun K hK => ?_); apply Exists.intro; refine ⟨?_, ?_⟩; (focus (go_simp; try exact rfl)); go_simp; refine hK _ _ ?_; clear hK K
  refine sq_ex rfl (fun K hK => ?_); refine ⟨_, run_ld rfl rfl (M18.row 8 rfl) rfl Try.underlying24 wide_size, ?_⟩; go_simp; refine hK _ _ ?_; clear hK K
  refine sq_ex rfl (fun K hK => ?_); refine ⟨_, run_ld rfl rfl (M18.row 0 rfl) rfl Try.underlying24 wide_size, ?_⟩; go_simp; refine hK _ _ ?_; clear hK K
  refine sq_ex rfl (fun K hK => ?_); refine ⟨.bool true, ?_, ?_⟩; (focus (go_simp; try (first | omega | (simp; done) | (simp; omega)))); go_simp; refine hK _ _ ?_; clear hK K
  refine sq_ex rfl (fun K hK => ?_); apply Exists.intro; refine ⟨?_, ?_⟩; (focus (go_simp; try exact rfl)); go_simp; refine hK _ _ ?_; clear hK K
  refine sq_ex rfl (fun K hK => ?_); apply Exists.intro; refine ⟨?_, ?_⟩; (focus (go_simp; try exact rfl)); go_simp; refine hK _ _ ?_; clear hK K
  refine sq_nil ?_
  refine H18 _ _ ?_
  clear H18 K18
  refine wp_ret ?_
  go_ret
  exact ⟨rfl, M18.below⟩

end Go.Proofs.Ytpjdojnbajoafaa
