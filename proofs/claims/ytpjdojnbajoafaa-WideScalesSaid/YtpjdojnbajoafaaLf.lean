/- The law WideSums: walks (001, 000). -/
import Derived.Test.YtpjdojnbajoafaaWy
namespace Go.Proofs.Ytpjdojnbajoafaa
open Go Go.RowKit

set_option maxRecDepth 100000 in
set_option maxHeartbeats 1000000 in
theorem widesums_001 (h l H L n m p k t P Q A B X Y : Nat) (w : World)
    (HOA : Hid (Dt 19 #[wv h l] (.agg (bA n))))
    (HOB : Hid (Dt 19 #[wv H L] (.agg (bA m))))
    (HOL : Hid (Dt 19 #[.agg #[.int .u64 0, .int .u64 l]] (.agg (bA l))))
    (HPR : Hid (Dt 25 #[.agg (bA l), .int .u64 L] (.agg (bA p))))
    (HNP : Hid (Dt 20 #[.agg (bA p)] (.tuple #[wv P Q, .bool true])))
    (HL1 : Hid (Dt 26 #[.agg (bA n), .agg (bA m)] (.bool false)))
    (HL2 : Hid (Dt 26 #[.agg (bA m), .agg (bA n)] (.bool false)))
    (HMU : Hid (Dt 27 #[.int .u64 l, .int .u64 L] (wv P Q)))
    (HCM : Hid (Dt 23 #[wv h l, wv H L] (.int .i64 0)))
    (HOF : Hid (Dt 28 #[.int .u64 l] (.agg #[.int .u64 0, .int .u64 l])))
    (HAD : Hid (Dt 24 #[wv h l, wv H L] (.tuple #[.agg #[.int .u64 A, .int .u64 B], .int .i64 0])))
    (HSU : Hid (Dt 29 #[.agg (bA n), .agg (bA m)] (.agg (bA k))))
    (HNS : Hid (Dt 20 #[.agg (bA k)] (.tuple #[.agg #[.int .u64 A, .int .u64 B], .bool true])))
    (HSB : Hid (Dt 30 #[wv h l, wv H L] (.tuple #[.agg #[.int .u64 X, .int .u64 Y], .int .i64 0])))
    (HTK : Hid (Dt 31 #[.agg (bA n), .agg (bA m)] (.agg (bA t))))
    (HNT : Hid (Dt 20 #[.agg (bA t)] (.tuple #[wv X Y, .bool true]))) :
    Calls Try.prog 6 #[wv h l, wv H L] w fun e w' => e = .returned (.bool true) ∧ Below w.heap.size w w' := by
  have M0 := Has.start w
  go_enter Try.func6, Try.ntmps6
  refine wp_seq_k (fun K1 H1 => ?_)
  refine sq_region ?_
  refine sq_alloc rfl M0 (T := 24) (z := #[.int .u64 h, .int .u64 l]) (fun w' => by go_simp) (fun K hK => ?_)
  intro g2 w1 M1
  clear M0
  go_simp; refine hK _ _ ?_; clear hK K
  refine sq_alloc rfl M1 (T := 24) (z := #[.int .u64 H, .int .u64 L]) (fun w' => by go_simp) (fun K hK => ?_)
  intro g3 w2 M2
  clear M1
  go_simp; refine hK _ _ ?_; clear hK K
  refine sq_ex rfl (fun K hK => ?_); apply Exists.intro; refine ⟨?_, ?_⟩; (focus (go_simp; try exact rfl)); go_simp; refine hK _ _ ?_; clear hK K
  refine sq_nil ?_
  refine H1 _ _ ?_
  clear H1 K1
  refine wp_seq_k (fun K2 H2 => ?_)
  refine wp_seq_k (fun K3 H3 => ?_)
  refine sq_region ?_
  refine sq_call rfl (fun w' => by go_simp) (wakes_d _) (fun K hK => ?_)
  rintro e w3 ⟨rfl, hb⟩
  refine ⟨_, rfl, ?_⟩
  have M3 := M2.kept hb
  clear M2 hb
  go_simp; refine hK _ _ ?_; clear hK K
  refine sq_ex rfl (fun K hK => ?_); apply Exists.intro; refine ⟨?_, ?_⟩; (focus (go_simp; try exact rfl)); go_simp; refine hK _ _ ?_; clear hK K
  refine sq_nil ?_
  refine H3 _ _ ?_
  clear H3 K3
  refine wp_cond_false rfl ?_
  refine wp_skip ?_
  refine H2 _ _ ?_
  clear H2 K2
  refine wp_seq_k (fun K4 H4 => ?_)
  refine wp_region_rows [(4, .box 32 (bA 0) 6), (5, .box 32 (bA 0) 7)] [(1, fun v => v = .agg (bA n)), (3, fun v => v = .agg (bA m)), (4, fun v => ∃ g, v = .pointer (some ⟨g, 0, none⟩)), (5, fun v => ∃ g, v = .pointer (some ⟨g, 0, none⟩))] M3 (by kernel_rfl) (by kernel_rfl) (by kernel_rfl) (by kernel_rfl) ?_
  refine rs_ex rfl rfl rfl rfl rfl ⟨_, M3⟩ (fun K hK => ?_); refine ⟨_, fun w' hw => run_ld rfl rfl (hw.row 0 rfl) rfl Try.underlying24 wide_size, ?_⟩; go_simp; refine hK _ ?_; clear hK K
  refine rs_call rfl rfl (fun v => v = .agg (bA n)) rfl rfl ⟨_, rfl⟩ (fun w' => by go_simp) (fun w' _ => (HOA.out w').mono fun e w'' hh => ⟨_, hh.1, rfl, hh.2⟩) (fun K hK => ?_); rintro _ rfl; go_simp; refine hK _ ?_; clear hK K
  refine rs_ex rfl rfl rfl rfl rfl ⟨_, M3⟩ (fun K hK => ?_); refine ⟨_, fun w' hw => run_ld rfl rfl (hw.row 1 rfl) rfl Try.underlying24 wide_size, ?_⟩; go_simp; refine hK _ ?_; clear hK K
  refine rs_call rfl rfl (fun v => v = .agg (bA m)) rfl rfl ⟨_, rfl⟩ (fun w' => by go_simp) (fun w' _ => (HOB.out w').mono fun e w'' hh => ⟨_, hh.1, rfl, hh.2⟩) (fun K hK => ?_); rintro _ rfl; go_simp; refine hK _ ?_; clear hK K
  refine rs_alloc rfl rfl rfl 0 rfl rfl rfl (by decide) (by kernel_rfl) (fun w' => by have hz := bits_zero w'; go_simp) (fun K hK => ?_); intro g5; go_simp; refine hK _ ?_; clear hK K
  refine rs_alloc rfl rfl rfl 1 rfl rfl rfl (by decide) (by kernel_rfl) (fun w' => by have hz := bits_zero w'; go_simp) (fun K hK => ?_); intro g6; go_simp; refine hK _ ?_; clear hK K
  refine rs_store rfl rfl rfl rfl ⟨_, M3⟩ rfl 0 rfl rfl (by decide) rfl rfl (by kernel_rfl) rfl rfl (run_st (cs := (bA n)) rfl rfl rfl (bits_size _) (by rw [bA_size, bA_size]) (bA_oneCell _)) (fun K hK => ?_); go_simp; refine hK _ ?_; clear hK K
  refine rs_store rfl rfl rfl rfl ⟨_, M3⟩ rfl 1 rfl rfl (by decide) rfl rfl (by kernel_rfl) rfl rfl (run_st (cs := (bA m)) rfl rfl rfl (bits_size _) (by rw [bA_size, bA_size]) (bA_oneCell _)) (fun K hK => ?_); go_simp; refine hK _ ?_; clear hK K
  refine rs_nil ?_
  intro w4 M
  have M4 : Has w [(g2, #[.int .u64 h, .int .u64 l], 24), (g3, #[.int .u64 H, .int .u64 L], 24), (g5, (bA n), 32), (g6, (bA m), 32)] w4 := M
  clear M3 M
  refine H4 _ _ ?_
  clear H4 K4
  refine wp_seq_k (fun K5 H5 => ?_)
  refine wp_region_rows [(11, .box 24 #[.int .u64 0, .int .u64 0] 12)] [(3, fun v => v = .agg (bA l)), (6, fun v => v = .agg (bA p)), (7, fun v => v = .tuple #[wv P Q, .bool true]), (11, fun v => ∃ g, v = .pointer (some ⟨g, 0, none⟩))] M4 (by kernel_rfl) (by kernel_rfl) (by kernel_rfl) (by kernel_rfl) ?_
  refine rs_ex rfl rfl rfl rfl rfl ⟨_, M4⟩ (fun K hK => ?_); apply Exists.intro; refine ⟨fun w' hw => ?_, ?_⟩; (focus (go_simp; try exact rfl)); go_simp; refine hK _ ?_; clear hK K
  refine rs_ex rfl rfl rfl rfl rfl ⟨_, M4⟩ (fun K hK => ?_); apply Exists.intro; refine ⟨fun w' hw => ?_, ?_⟩; (focus (have c := IsR.cell (hw.row 0 rfl); have f := IsR.froz (hw.row 0 rfl); go_simp; try exact rfl)); go_simp; refine hK _ ?_; clear hK K
  refine rs_ex rfl rfl rfl rfl rfl ⟨_, M4⟩ (fun K hK => ?_); apply Exists.intro; refine ⟨fun w' hw => ?_, ?_⟩; (focus (go_simp; try exact rfl)); go_simp; refine hK _ ?_; clear hK K
  refine rs_call rfl rfl (fun v => v = .agg (bA l)) rfl rfl ⟨_, rfl⟩ (fun w' => by go_simp) (fun w' _ => (HOL.out w').mono fun e w'' hh => ⟨_, hh.1, rfl, hh.2⟩) (fun K hK => ?_); rintro _ rfl; go_simp; refine hK _ ?_; clear hK K
  refine rs_ex rfl rfl rfl rfl rfl ⟨_, M4⟩ (fun K hK => ?_); apply Exists.intro; refine ⟨fun w' hw => ?_, ?_⟩; (focus (go_simp; try exact rfl)); go_simp; refine hK _ ?_; clear hK K
  refine rs_ex rfl rfl rfl rfl rfl ⟨_, M4⟩ (fun K hK => ?_); apply Exists.intro; refine ⟨fun w' hw => ?_, ?_⟩; (focus (have c := IsR.cell (hw.row 1 rfl); have f := IsR.froz (hw.row 1 rfl); go_simp; try exact rfl)); go_simp; refine hK _ ?_; clear hK K
  refine rs_call rfl rfl (fun v => v = .agg (bA p)) rfl rfl ⟨_, rfl⟩ (fun w' => by go_simp) (fun w' _ => (HPR.out w').mono fun e w'' hh => ⟨_, hh.1, rfl, hh.2⟩) (fun K hK => ?_); rintro _ rfl; go_simp; refine hK _ ?_; clear hK K
  refine rs_call rfl rfl (fun v => v = .tuple #[wv P Q, .bool true]) rfl rfl ⟨_, rfl⟩ (fun w' => by go_simp) (fun w' _ => (HNP.out w').mono fun e w'' hh => ⟨_, hh.1, rfl, hh.2⟩) (fun K hK => ?_); rintro _ rfl; go_simp; refine hK _ ?_; clear hK K
  refine rs_ex rfl rfl rfl rfl rfl ⟨_, M4⟩ (fun K hK => ?_); apply Exists.intro; refine ⟨fun w' hw => ?_, ?_⟩; (focus (go_simp; try exact rfl)); go_simp; refine hK _ ?_; clear hK K
  refine rs_ex rfl rfl rfl rfl rfl ⟨_, M4⟩ (fun K hK => ?_); apply Exists.intro; refine ⟨fun w' hw => ?_, ?_⟩; (focus (go_simp; try exact rfl)); go_simp; refine hK _ ?_; clear hK K
  refine rs_ex rfl rfl rfl rfl rfl ⟨_, M4⟩ (fun K hK => ?_); apply Exists.intro; refine ⟨fun w' hw => ?_, ?_⟩; (focus (go_simp; try exact rfl)); go_simp; refine hK _ ?_; clear hK K
  refine rs_alloc rfl rfl rfl 0 rfl rfl rfl (by decide) (by kernel_rfl) (fun w' => by go_simp) (fun K hK => ?_); intro g7; go_simp; refine hK _ ?_; clear hK K
  refine rs_store rfl rfl rfl rfl ⟨_, M4⟩ rfl 0 rfl rfl (by decide) rfl rfl (by kernel_rfl) rfl rfl (run_st (cs := #[.int .u64 P, .int .u64 Q]) rfl rfl rfl wide_size rfl (by simp [Value.oneCell'])) (fun K hK => ?_); go_simp; refine hK _ ?_; clear hK K
  refine rs_ex rfl rfl rfl rfl rfl ⟨_, M4⟩ (fun K hK => ?_); apply Exists.intro; refine ⟨fun w' hw => ?_, ?_⟩; (focus (go_simp; try exact rfl)); go_simp; refine hK _ ?_; clear hK K
  refine rs_nil ?_
  intro w5 M
  have M5 : Has w [(g2, #[.int .u64 h, .int .u64 l], 24), (g3, #[.int .u64 H, .int .u64 L], 24), (g5, (bA n), 32), (g6, (bA m), 32), (g7, #[.int .u64 P, .int .u64 Q], 24)] w5 := M
  clear M4 M
  refine H5 _ _ ?_
  clear H5 K5
  refine wp_seq_k (fun K6 H6 => ?_)
  refine sq_region ?_
  refine sq_ex rfl (fun K hK => ?_); apply Exists.intro; refine ⟨?_, ?_⟩; (focus (go_simp; try exact rfl)); go_simp; refine hK _ _ ?_; clear hK K
  refine sq_nil ?_
  refine H6 _ _ ?_
  clear H6 K6
  refine wp_seq_k (fun K7 H7 => ?_)
  refine wp_seq_k (fun K8 H8 => ?_)
  refine sq_region ?_
  refine sq_ex rfl (fun K hK => ?_); refine ⟨_, run_ld rfl rfl (M5.row 2 rfl) rfl Try.underlying32 (bits_size _), ?_⟩; go_simp; refine hK _ _ ?_; clear hK K
  refine sq_ex rfl (fun K hK => ?_); refine ⟨_, run_ld rfl rfl (M5.row 3 rfl) rfl Try.underlying32 (bits_size _), ?_⟩; go_simp; refine hK _ _ ?_; clear hK K
  refine sq_call rfl (fun w' => by go_simp) (HL1.out _) (fun K hK => ?_)
  rintro e w6 ⟨rfl, hb⟩
  refine ⟨_, rfl, ?_⟩
  have M6 := M5.kept hb
  clear M5 hb
  go_simp; refine hK _ _ ?_; clear hK K
  refine sq_nil ?_
  refine H8 _ _ ?_
  clear H8 K8
  refine wp_cond_false rfl ?_
  refine wp_skip ?_
  refine H7 _ _ ?_
  clear H7 K7
  refine wp_seq_k (fun K9 H9 => ?_)
  refine wp_seq_k (fun K10 H10 => ?_)
  refine sq_region ?_
  refine sq_ex rfl (fun K hK => ?_); refine ⟨_, run_ld rfl rfl (M6.row 3 rfl) rfl Try.underlying32 (bits_size _), ?_⟩; go_simp; refine hK _ _ ?_; clear hK K
  refine sq_ex rfl (fun K hK => ?_); refine ⟨_, run_ld rfl rfl (M6.row 2 rfl) rfl Try.underlying32 (bits_size _), ?_⟩; go_simp; refine hK _ _ ?_; clear hK K
  refine sq_call rfl (fun w' => by go_simp) (HL2.out _) (fun K hK => ?_)
  rintro e w7 ⟨rfl, hb⟩
  refine ⟨_, rfl, ?_⟩
  have M7 := M6.kept hb
  clear M6 hb
  go_simp; refine hK _ _ ?_; clear hK K
  refine sq_nil ?_
  refine H10 _ _ ?_
  clear H10 K10
  refine wp_cond_false rfl ?_
  refine wp_skip ?_
  refine H9 _ _ ?_
  clear H9 K9
  refine wp_seq_k (fun K11 H11 => ?_)
  refine wp_seq_k (fun K12 H12 => ?_)
  refine wp_region_rows [] [(4, fun v => v = wv P Q), (10, fun v => v = .int .i64 0), (17, fun v => v = .agg #[.int .u64 0, .int .u64 l])] M7 (by kernel_rfl) (by kernel_rfl) (by kernel_rfl) (by kernel_rfl) ?_
  refine rs_ex rfl rfl rfl rfl rfl ⟨_, M7⟩ (fun K hK => ?_); apply Exists.intro; refine ⟨fun w' hw => ?_, ?_⟩; (focus (go_simp; try exact rfl)); go_simp; refine hK _ ?_; clear hK K
  refine rs_ex rfl rfl rfl rfl rfl ⟨_, M7⟩ (fun K hK => ?_); apply Exists.intro; refine ⟨fun w' hw => ?_, ?_⟩; (focus (have c := IsR.cell (hw.row 0 rfl); have f := IsR.froz (hw.row 0 rfl); go_simp; try exact rfl)); go_simp; refine hK _ ?_; clear hK K
  refine rs_ex rfl rfl rfl rfl rfl ⟨_, M7⟩ (fun K hK => ?_); apply Exists.intro; refine ⟨fun w' hw => ?_, ?_⟩; (focus (go_simp; try exact rfl)); go_simp; refine hK _ ?_; clear hK K
  refine rs_ex rfl rfl rfl rfl rfl ⟨_, M7⟩ (fun K hK => ?_); apply Exists.intro; refine ⟨fun w' hw => ?_, ?_⟩; (focus (have c := IsR.cell (hw.row 1 rfl); have f := IsR.froz (hw.row 1 rfl); go_simp; try exact rfl)); go_simp; refine hK _ ?_; clear hK K
  refine rs_call rfl rfl (fun v => v = wv P Q) rfl rfl ⟨_, rfl⟩ (fun w' => by go_simp) (fun w' _ => (HMU.out w').mono fun e w'' hh => ⟨_, hh.1, rfl, hh.2⟩) (fun K hK => ?_); rintro _ rfl; go_simp; refine hK _ ?_; clear hK K
  refine rs_ex rfl rfl rfl rfl rfl ⟨_, M7⟩ (fun K hK => ?_); refine ⟨_, fun w' hw => run_ld rfl rfl (hw.row 4 rfl) rfl Try.underlying24 wide_size, ?_⟩; go_simp; refine hK _ ?_; clear hK K
  refine rs_ex rfl rfl rfl rfl rfl ⟨_, M7⟩ (fun K hK => ?_); apply Exists.intro; refine ⟨fun w' hw => ?_, ?_⟩; (focus (go_simp; try exact rfl)); go_simp; refine hK _ ?_; clear hK K
  refine rs_ex rfl rfl rfl rfl rfl ⟨_, M7⟩ (fun K hK => ?_); apply Exists.intro; refine ⟨fun w' hw => ?_, ?_⟩; (focus (go_simp; try exact rfl)); go_simp; refine hK _ ?_; clear hK K
  refine rs_ex rfl rfl rfl rfl rfl ⟨_, M7⟩ (fun K hK => ?_); refine ⟨_, fun w' hw => run_ld rfl rfl (hw.row 0 rfl) rfl Try.underlying24 wide_size, ?_⟩; go_simp; refine hK _ ?_; clear hK K
  refine rs_ex rfl rfl rfl rfl rfl ⟨_, M7⟩ (fun K hK => ?_); refine ⟨_, fun w' hw => run_ld rfl rfl (hw.row 1 rfl) rfl Try.underlying24 wide_size, ?_⟩; go_simp; refine hK _ ?_; clear hK K
  refine rs_call rfl rfl (fun v => v = .int .i64 0) rfl rfl ⟨_, rfl⟩ (fun w' => by go_simp) (fun w' _ => (HCM.out w').mono fun e w'' hh => ⟨_, hh.1, rfl, hh.2⟩) (fun K hK => ?_); rintro _ rfl; go_simp; refine hK _ ?_; clear hK K
  refine rs_ex rfl rfl rfl rfl rfl ⟨_, M7⟩ (fun K hK => ?_); apply Exists.intro; refine ⟨fun w' hw => ?_, ?_⟩; (focus (go_simp; try exact rfl)); go_simp; refine hK _ ?_; clear hK K
  refine rs_ex rfl rfl rfl rfl rfl ⟨_, M7⟩ (fun K hK => ?_); apply Exists.intro; refine ⟨fun w' hw => ?_, ?_⟩; (focus (go_simp; try exact rfl)); go_simp; refine hK _ ?_; clear hK K
  refine rs_ex rfl rfl rfl rfl rfl ⟨_, M7⟩ (fun K hK => ?_); apply Exists.intro; refine ⟨fun w' hw => ?_, ?_⟩; (focus (go_simp; try exact rfl)); go_simp; refine hK _ ?_; clear hK K
  refine rs_ex rfl rfl rfl rfl rfl ⟨_, M7⟩ (fun K hK => ?_); apply Exists.intro; refine ⟨fun w' hw => ?_, ?_⟩; (focus (go_simp; try exact rfl)); go_simp; refine hK _ ?_; clear hK K
  refine rs_ex rfl rfl rfl rfl rfl ⟨_, M7⟩ (fun K hK => ?_); apply Exists.intro; refine ⟨fun w' hw => ?_, ?_⟩; (focus (go_simp; try exact rfl)); go_simp; refine hK _ ?_; clear hK K
  refine rs_ex rfl rfl rfl rfl rfl ⟨_, M7⟩ (fun K hK => ?_); apply Exists.intro; refine ⟨fun w' hw => ?_, ?_⟩; (focus (have c := IsR.cell (hw.row 0 rfl); have f := IsR.froz (hw.row 0 rfl); go_simp; try exact rfl)); go_simp; refine hK _ ?_; clear hK K
  refine rs_call rfl rfl (fun v => v = .agg #[.int .u64 0, .int .u64 l]) rfl rfl ⟨_, rfl⟩ (fun w' => by go_simp) (fun w' _ => (HOF.out w').mono fun e w'' hh => ⟨_, hh.1, rfl, hh.2⟩) (fun K hK => ?_); rintro _ rfl; go_simp; refine hK _ ?_; clear hK K
  refine rs_ex rfl rfl rfl rfl rfl ⟨_, M7⟩ (fun K hK => ?_); apply Exists.intro; refine ⟨fun w' hw => ?_, ?_⟩; (focus (go_simp; try exact rfl)); go_simp; refine hK _ ?_; clear hK K
  refine rs_ex rfl rfl rfl rfl rfl ⟨_, M7⟩ (fun K hK => ?_); apply Exists.intro; refine ⟨fun w' hw => ?_, ?_⟩; (focus (have c := IsR.cell (hw.row 0 rfl); have f := IsR.froz (hw.row 0 rfl); go_simp; try exact rfl)); go_simp; refine hK _ ?_; clear hK K
  refine rs_ex rfl rfl rfl rfl rfl ⟨_, M7⟩ (fun K hK => ?_); apply Exists.intro; refine ⟨fun w' hw => ?_, ?_⟩; (focus (go_simp; try exact rfl)); go_simp; refine hK _ ?_; clear hK K
  refine rs_ex rfl rfl rfl rfl rfl ⟨_, M7⟩ (fun K hK => ?_); apply Exists.intro; refine ⟨fun w' hw => ?_, ?_⟩; (focus (go_simp; try exact rfl)); go_simp; refine hK _ ?_; clear hK K
  refine rs_ex rfl rfl rfl rfl rfl ⟨_, M7⟩ (fun K hK => ?_); apply Exists.intro; refine ⟨fun w' hw => ?_, ?_⟩; (focus (go_simp; try exact rfl)); go_simp; refine hK _ ?_; clear hK K
  refine rs_nil ?_
  intro w8 M
  have M8 : Has w [(g2, #[.int .u64 h, .int .u64 l], 24), (g3, #[.int .u64 H, .int .u64 L], 24), (g5, (bA n), 32), (g6, (bA m), 32), (g7, #[.int .u64 P, .int .u64 Q], 24)] w8 := M
  clear M7 M
  refine H12 _ _ ?_
  clear H12 K12
  refine wp_cond_false rfl ?_
  refine wp_skip ?_
  refine H11 _ _ ?_
  clear H11 K11
  refine wp_seq_k (fun K13 H13 => ?_)
  refine sq_region ?_
  refine sq_ex rfl (fun K hK => ?_); refine ⟨_, run_ld rfl rfl (M8.row 0 rfl) rfl Try.underlying24 wide_size, ?_⟩; go_simp; refine hK _ _ ?_; clear hK K
  refine sq_ex rfl (fun K hK => ?_); refine ⟨_, run_ld rfl rfl (M8.row 1 rfl) rfl Try.underlying24 wide_size, ?_⟩; go_simp; refine hK _ _ ?_; clear hK K
  refine sq_call rfl (fun w' => by go_simp) (HAD.out _) (fun K hK => ?_)
  rintro e w9 ⟨rfl, hb⟩
  refine ⟨_, rfl, ?_⟩
  have M9 := M8.kept hb
  clear M8 hb
  go_simp; refine hK _ _ ?_; clear hK K
  refine sq_ex rfl (fun K hK => ?_); apply Exists.intro; refine ⟨?_, ?_⟩; (focus (go_simp; try exact rfl)); go_simp; refine hK _ _ ?_; clear hK K
  refine sq_ex rfl (fun K hK => ?_); apply Exists.intro; refine ⟨?_, ?_⟩; (focus (go_simp; try exact rfl)); go_simp; refine hK _ _ ?_; clear hK K
  refine sq_ex rfl (fun K hK => ?_); apply Exists.intro; refine ⟨?_, ?_⟩; (focus (go_simp; try exact rfl)); go_simp; refine hK _ _ ?_; clear hK K
  refine sq_alloc rfl M9 (T := 24) (z := #[.int .u64 0, .int .u64 0]) (fun w' => by go_simp) (fun K hK => ?_)
  intro g10 w10 M10
  clear M9
  go_simp; refine hK _ _ ?_; clear hK K
  refine sq_store rfl M10 5 rfl (run_st (cs := #[.int .u64 A, .int .u64 B]) rfl rfl rfl wide_size rfl (by simp [Value.oneCell'])) (fun K hK => ?_)
  intro w11 M11
  clear M10
  go_simp; refine hK _ _ ?_; clear hK K
  refine sq_ex rfl (fun K hK => ?_); apply Exists.intro; refine ⟨?_, ?_⟩; (focus (go_simp; try exact rfl)); go_simp; refine hK _ _ ?_; clear hK K
  refine sq_nil ?_
  refine H13 _ _ ?_
  clear H13 K13
  refine wp_seq_k (fun K14 H14 => ?_)
  refine sq_region ?_
  refine sq_ex rfl (fun K hK => ?_); refine ⟨_, run_ld rfl rfl (M11.row 2 rfl) rfl Try.underlying32 (bits_size _), ?_⟩; go_simp; refine hK _ _ ?_; clear hK K
  refine sq_ex rfl (fun K hK => ?_); refine ⟨_, run_ld rfl rfl (M11.row 3 rfl) rfl Try.underlying32 (bits_size _), ?_⟩; go_simp; refine hK _ _ ?_; clear hK K
  refine sq_call rfl (fun w' => by go_simp) (HSU.out _) (fun K hK => ?_)
  rintro e w12 ⟨rfl, hb⟩
  refine ⟨_, rfl, ?_⟩
  have M12 := M11.kept hb
  clear M11 hb
  go_simp; refine hK _ _ ?_; clear hK K
  refine sq_call rfl (fun w' => by go_simp) (HNS.out _) (fun K hK => ?_)
  rintro e w13 ⟨rfl, hb⟩
  refine ⟨_, rfl, ?_⟩
  have M13 := M12.kept hb
  clear M12 hb
  go_simp; refine hK _ _ ?_; clear hK K
  refine sq_ex rfl (fun K hK => ?_); apply Exists.intro; refine ⟨?_, ?_⟩; (focus (go_simp; try exact rfl)); go_simp; refine hK _ _ ?_; clear hK K
  refine sq_ex rfl (fun K hK => ?_); apply Exists.intro; refine ⟨?_, ?_⟩; (focus (go_simp; try exact rfl)); go_simp; refine hK _ _ ?_; clear hK K
  refine sq_ex rfl (fun K hK => ?_); apply Exists.intro; refine ⟨?_, ?_⟩; (focus (go_simp; try exact rfl)); go_simp; refine hK _ _ ?_; clear hK K
  refine sq_alloc rfl M13 (T := 24) (z := #[.int .u64 0, .int .u64 0]) (fun w' => by go_simp) (fun K hK => ?_)
  intro g12 w14 M14
  clear M13
  go_simp; refine hK _ _ ?_; clear hK K
  refine sq_store rfl M14 6 rfl (run_st (cs := #[.int .u64 A, .int .u64 B]) rfl rfl rfl wide_size rfl (by simp [Value.oneCell'])) (fun K hK => ?_)
  intro w15 M15
  clear M14
  go_simp; refine hK _ _ ?_; clear hK K
  refine sq_ex rfl (fun K hK => ?_); apply Exists.intro; refine ⟨?_, ?_⟩; (focus (go_simp; try exact rfl)); go_simp; refine hK _ _ ?_; clear hK K
  refine sq_nil ?_
  refine H14 _ _ ?_
  clear H14 K14
  refine wp_seq_k (fun K15 H15 => ?_)
  refine wp_seq_k (fun K16 H16 => ?_)
  refine sq_region ?_
  refine sq_ex rfl (fun K hK => ?_); apply Exists.intro; refine ⟨?_, ?_⟩; (focus (go_simp; try exact rfl)); go_simp; refine hK _ _ ?_; clear hK K
  refine sq_ex rfl (fun K hK => ?_); apply Exists.intro; refine ⟨?_, ?_⟩; (focus (go_simp; try exact rfl)); go_simp; refine hK _ _ ?_; clear hK K
  refine sq_ex rfl (fun K hK => ?_); apply Exists.intro; refine ⟨?_, ?_⟩; (focus (go_simp; try exact rfl)); go_simp; refine hK _ _ ?_; clear hK K
  refine sq_ex rfl (fun K hK => ?_); apply Exists.intro; refine ⟨?_, ?_⟩; (focus (go_simp; try exact rfl)); go_simp; refine hK _ _ ?_; clear hK K
  refine sq_ex rfl (fun K hK => ?_); apply Exists.intro; refine ⟨?_, ?_⟩; (focus (go_simp; try exact rfl)); go_simp; refine hK _ _ ?_; clear hK K
  refine sq_ex rfl (fun K hK => ?_); apply Exists.intro; refine ⟨?_, ?_⟩; (focus (go_simp; try exact rfl)); go_simp; refine hK _ _ ?_; clear hK K
  refine sq_ex rfl (fun K hK => ?_); apply Exists.intro; refine ⟨?_, ?_⟩; (focus (go_simp; try exact rfl)); go_simp; refine hK _ _ ?_; clear hK K
  refine sq_ex rfl (fun K hK => ?_); refine ⟨_, run_ld rfl rfl (M15.row 5 rfl) rfl Try.underlying24 wide_size, ?_⟩; go_simp; refine hK _ _ ?_; clear hK K
  refine sq_ex rfl (fun K hK => ?_); refine ⟨_, run_ld rfl rfl (M15.row 6 rfl) rfl Try.underlying24 wide_size, ?_⟩; go_simp; refine hK _ _ ?_; clear hK K
  refine sq_ex rfl (fun K hK => ?_); apply Exists.intro; refine ⟨?_, ?_⟩; (focus (go_simp; try exact rfl)); go_simp; refine hK _ _ ?_; clear hK K
  refine sq_ex rfl (fun K hK => ?_); apply Exists.intro; refine ⟨?_, ?_⟩; (focus (go_simp; try exact rfl)); go_simp; refine hK _ _ ?_; clear hK K
  refine sq_ex rfl (fun K hK => ?_); apply Exists.intro; refine ⟨?_, ?_⟩; (focus (go_simp; try exact rfl)); go_simp; refine hK _ _ ?_; clear hK K
  refine sq_ex rfl (fun K hK => ?_); apply Exists.intro; refine ⟨?_, ?_⟩; (focus (go_simp; try exact rfl)); go_simp; refine hK _ _ ?_; clear hK K
  refine sq_ex rfl (fun K hK => ?_); apply Exists.intro; refine ⟨?_, ?_⟩; (focus (go_simp; try exact rfl)); go_simp; refine hK _ _ ?_; clear hK K
  refine sq_ex rfl (fun K hK => ?_); apply Exists.intro; refine ⟨?_, ?_⟩; (focus (go_simp; try exact rfl)); go_simp; refine hK _ _ ?_; clear hK K
  refine sq_ex rfl (fun K hK => ?_); apply Exists.intro; refine ⟨?_, ?_⟩; (focus (go_simp; try exact rfl)); go_simp; refine hK _ _ ?_; clear hK K
  refine sq_not rfl (fun K hK => ?_); go_simp; refine hK _ _ ?_; clear hK K
  refine sq_not rfl (fun K hK => ?_); go_simp; refine hK _ _ ?_; clear hK K
  refine sq_not rfl (fun K hK => ?_); go_simp; refine hK _ _ ?_; clear hK K
  refine sq_not rfl (fun K hK => ?_); go_simp; refine hK _ _ ?_; clear hK K
  refine sq_not rfl (fun K hK => ?_); go_simp; refine hK _ _ ?_; clear hK K
  refine sq_not rfl (fun K hK => ?_); go_simp; refine hK _ _ ?_; clear hK K
  refine sq_not rfl (fun K hK => ?_); go_simp; refine hK _ _ ?_; clear hK K
  refine sq_ex rfl (fun K hK => ?_); apply Exists.intro; refine ⟨?_, ?_⟩; (focus (go_simp; try exact rfl)); go_simp; refine hK _ _ ?_; clear hK K
  refine sq_ex rfl (fun K hK => ?_); apply Exists.intro; refine ⟨?_, ?_⟩; (focus (go_simp; try exact rfl)); go_simp; refine hK _ _ ?_; clear hK K
  refine sq_nil ?_
  refine H16 _ _ ?_
  clear H16 K16
  refine wp_cond_false rfl ?_
  refine wp_skip ?_
  refine H15 _ _ ?_
  clear H15 K15
  refine wp_seq_k (fun K17 H17 => ?_)
  refine sq_region ?_
  refine sq_ex rfl (fun K hK => ?_); refine ⟨_, run_ld rfl rfl (M15.row 0 rfl) rfl Try.underlying24 wide_size, ?_⟩; go_simp; refine hK _ _ ?_; clear hK K
  refine sq_ex rfl (fun K hK => ?_); refine ⟨_, run_ld rfl rfl (M15.row 1 rfl) rfl Try.underlying24 wide_size, ?_⟩; go_simp; refine hK _ _ ?_; clear hK K
  refine sq_call rfl (fun w' => by go_simp) (HSB.out _) (fun K hK => ?_)
  rintro e w16 ⟨rfl, hb⟩
  refine ⟨_, rfl, ?_⟩
  have M16 := M15.kept hb
  clear M15 hb
  go_simp; refine hK _ _ ?_; clear hK K
  refine sq_ex rfl (fun K hK => ?_); apply Exists.intro; refine ⟨?_, ?_⟩; (focus (go_simp; try exact rfl)); go_simp; refine hK _ _ ?_; clear hK K
  refine sq_ex rfl (fun K hK => ?_); apply Exists.intro; refine ⟨?_, ?_⟩; (focus (go_simp; try exact rfl)); go_simp; refine hK _ _ ?_; clear hK K
  refine sq_ex rfl (fun K hK => ?_); apply Exists.intro; refine ⟨?_, ?_⟩; (focus (go_simp; try exact rfl)); go_simp; refine hK _ _ ?_; clear hK K
  refine sq_alloc rfl M16 (T := 24) (z := #[.int .u64 0, .int .u64 0]) (fun w' => by go_simp) (fun K hK => ?_)
  intro g14 w17 M17
  clear M16
  go_simp; refine hK _ _ ?_; clear hK K
  refine sq_store rfl M17 7 rfl (run_st (cs := #[.int .u64 X, .int .u64 Y]) rfl rfl rfl wide_size rfl (by simp [Value.oneCell'])) (fun K hK => ?_)
  intro w18 M18
  clear M17
  go_simp; refine hK _ _ ?_; clear hK K
  refine sq_ex rfl (fun K hK => ?_); apply Exists.intro; refine ⟨?_, ?_⟩; (focus (go_simp; try exact rfl)); go_simp; refine hK _ _ ?_; clear hK K
  refine sq_nil ?_
  refine H17 _ _ ?_
  clear H17 K17
  refine wp_seq_k (fun K18 H18 => ?_)
  refine wp_seq_k (fun K19 H19 => ?_)
  refine sq_region ?_
  refine sq_ex rfl (fun K hK => ?_); apply Exists.intro; refine ⟨?_, ?_⟩; (focus (go_simp; try exact rfl)); go_simp; refine hK _ _ ?_; clear hK K
  refine sq_ex rfl (fun K hK => ?_); apply Exists.intro; refine ⟨?_, ?_⟩; (focus (go_simp; try exact rfl)); go_simp; refine hK _ _ ?_; clear hK K
  refine sq_nil ?_
  refine H19 _ _ ?_
  clear H19 K19
  refine wp_cond_false rfl ?_
  refine wp_skip ?_
  refine H18 _ _ ?_
  clear H18 K18
  refine wp_seq_k (fun K20 H20 => ?_)
  refine sq_region ?_
  refine sq_ex rfl (fun K hK => ?_); refine ⟨_, run_ld rfl rfl (M18.row 2 rfl) rfl Try.underlying32 (bits_size _), ?_⟩; go_simp; refine hK _ _ ?_; clear hK K
  refine sq_ex rfl (fun K hK => ?_); refine ⟨_, run_ld rfl rfl (M18.row 3 rfl) rfl Try.underlying32 (bits_size _), ?_⟩; go_simp; refine hK _ _ ?_; clear hK K
  refine sq_call rfl (fun w' => by go_simp) (HTK.out _) (fun K hK => ?_)
  rintro e w19 ⟨rfl, hb⟩
  refine ⟨_, rfl, ?_⟩
  have M19 := M18.kept hb
  clear M18 hb
  go_simp; refine hK _ _ ?_; clear hK K
  refine sq_call rfl (fun w' => by go_simp) (HNT.out _) (fun K hK => ?_)
  rintro e w20 ⟨rfl, hb⟩
  refine ⟨_, rfl, ?_⟩
  have M20 := M19.kept hb
  clear M19 hb
  go_simp; refine hK _ _ ?_; clear hK K
  refine sq_ex rfl (fun K hK => ?_); apply Exists.intro; refine ⟨?_, ?_⟩; (focus (go_simp; try exact rfl)); go_simp; refine hK _ _ ?_; clear hK K
  refine sq_ex rfl (fun K hK => ?_); apply Exists.intro; refine ⟨?_, ?_⟩; (focus (go_simp; try exact rfl)); go_simp; refine hK _ _ ?_; clear hK K
  refine sq_ex rfl (fun K hK => ?_); apply Exists.intro; refine ⟨?_, ?_⟩; (focus (go_simp; try exact rfl)); go_simp; refine hK _ _ ?_; clear hK K
  refine sq_store rfl M20 6 rfl (run_st (cs := #[.int .u64 X, .int .u64 Y]) rfl rfl rfl wide_size rfl (by simp [Value.oneCell'])) (fun K hK => ?_)
  intro w21 M21
  clear M20
  go_simp; refine hK _ _ ?_; clear hK K
  refine sq_nil ?_
  refine H20 _ _ ?_
  clear H20 K20
  refine wp_seq_k (fun K21 H21 => ?_)
  refine sq_region ?_
  refine sq_ex rfl (fun K hK => ?_); apply Exists.intro; refine ⟨?_, ?_⟩; (focus (go_simp; try exact rfl)); go_simp; refine hK _ _ ?_; clear hK K
  refine sq_ex rfl (fun K hK => ?_); apply Exists.intro; refine ⟨?_, ?_⟩; (focus (go_simp; try exact rfl)); go_simp; refine hK _ _ ?_; clear hK K
  refine sq_ex rfl (fun K hK => ?_); apply Exists.intro; refine ⟨?_, ?_⟩; (focus (go_simp; try exact rfl)); go_simp; refine hK _ _ ?_; clear hK K
  refine sq_ex rfl (fun K hK => ?_); refine ⟨_, run_ld rfl rfl (M21.row 7 rfl) rfl Try.underlying24 wide_size, ?_⟩; go_simp; refine hK _ _ ?_; clear hK K
  refine sq_ex rfl (fun K hK => ?_); refine ⟨_, run_ld rfl rfl (M21.row 6 rfl) rfl Try.underlying24 wide_size, ?_⟩; go_simp; refine hK _ _ ?_; clear hK K
  refine sq_ex rfl (fun K hK => ?_); apply Exists.intro; refine ⟨?_, ?_⟩; (focus (go_simp; try exact rfl)); go_simp; refine hK _ _ ?_; clear hK K
  refine sq_ex rfl (fun K hK => ?_); apply Exists.intro; refine ⟨?_, ?_⟩; (focus (go_simp; try exact rfl)); go_simp; refine hK _ _ ?_; clear hK K
  refine sq_ex rfl (fun K hK => ?_); apply Exists.intro; refine ⟨?_, ?_⟩; (focus (go_simp; try exact rfl)); go_simp; refine hK _ _ ?_; clear hK K
  refine sq_nil ?_
  refine H21 _ _ ?_
  clear H21 K21
  refine wp_ret ?_
  go_ret
  exact ⟨rfl, M21.below⟩

set_option maxRecDepth 100000 in
set_option maxHeartbeats 1000000 in
theorem widesums_000 (h l H L n m p k t P Q A B X Y : Nat) (w : World)
    (HOA : Hid (Dt 19 #[wv h l] (.agg (bA n))))
    (HOB : Hid (Dt 19 #[wv H L] (.agg (bA m))))
    (HOL : Hid (Dt 19 #[.agg #[.int .u64 0, .int .u64 l]] (.agg (bA l))))
    (HPR : Hid (Dt 25 #[.agg (bA l), .int .u64 L] (.agg (bA p))))
    (HNP : Hid (Dt 20 #[.agg (bA p)] (.tuple #[wv P Q, .bool true])))
    (HL1 : Hid (Dt 26 #[.agg (bA n), .agg (bA m)] (.bool false)))
    (HL2 : Hid (Dt 26 #[.agg (bA m), .agg (bA n)] (.bool false)))
    (HMU : Hid (Dt 27 #[.int .u64 l, .int .u64 L] (wv P Q)))
    (HCM : Hid (Dt 23 #[wv h l, wv H L] (.int .i64 0)))
    (HOF : Hid (Dt 28 #[.int .u64 l] (.agg #[.int .u64 0, .int .u64 l])))
    (HAD : Hid (Dt 24 #[wv h l, wv H L] (.tuple #[.agg #[.int .u64 0, .int .u64 0], .int .i64 131])))
    (HSU : Hid (Dt 29 #[.agg (bA n), .agg (bA m)] (.agg (bA k))))
    (HNS : Hid (Dt 20 #[.agg (bA k)] (.tuple #[.agg #[.int .u64 A, .int .u64 B], .bool false])))
    (HSB : Hid (Dt 30 #[wv h l, wv H L] (.tuple #[.agg #[.int .u64 X, .int .u64 Y], .int .i64 0])))
    (HTK : Hid (Dt 31 #[.agg (bA n), .agg (bA m)] (.agg (bA t))))
    (HNT : Hid (Dt 20 #[.agg (bA t)] (.tuple #[wv X Y, .bool true]))) :
    Calls Try.prog 6 #[wv h l, wv H L] w fun e w' => e = .returned (.bool true) ∧ Below w.heap.size w w' := by
  have M0 := Has.start w
  go_enter Try.func6, Try.ntmps6
  refine wp_seq_k (fun K1 H1 => ?_)
  refine sq_region ?_
  refine sq_alloc rfl M0 (T := 24) (z := #[.int .u64 h, .int .u64 l]) (fun w' => by go_simp) (fun K hK => ?_)
  intro g2 w1 M1
  clear M0
  go_simp; refine hK _ _ ?_; clear hK K
  refine sq_alloc rfl M1 (T := 24) (z := #[.int .u64 H, .int .u64 L]) (fun w' => by go_simp) (fun K hK => ?_)
  intro g3 w2 M2
  clear M1
  go_simp; refine hK _ _ ?_; clear hK K
  refine sq_ex rfl (fun K hK => ?_); apply Exists.intro; refine ⟨?_, ?_⟩; (focus (go_simp; try exact rfl)); go_simp; refine hK _ _ ?_; clear hK K
  refine sq_nil ?_
  refine H1 _ _ ?_
  clear H1 K1
  refine wp_seq_k (fun K2 H2 => ?_)
  refine wp_seq_k (fun K3 H3 => ?_)
  refine sq_region ?_
  refine sq_call rfl (fun w' => by go_simp) (wakes_d _) (fun K hK => ?_)
  rintro e w3 ⟨rfl, hb⟩
  refine ⟨_, rfl, ?_⟩
  have M3 := M2.kept hb
  clear M2 hb
  go_simp; refine hK _ _ ?_; clear hK K
  refine sq_ex rfl (fun K hK => ?_); apply Exists.intro; refine ⟨?_, ?_⟩; (focus (go_simp; try exact rfl)); go_simp; refine hK _ _ ?_; clear hK K
  refine sq_nil ?_
  refine H3 _ _ ?_
  clear H3 K3
  refine wp_cond_false rfl ?_
  refine wp_skip ?_
  refine H2 _ _ ?_
  clear H2 K2
  refine wp_seq_k (fun K4 H4 => ?_)
  refine wp_region_rows [(4, .box 32 (bA 0) 6), (5, .box 32 (bA 0) 7)] [(1, fun v => v = .agg (bA n)), (3, fun v => v = .agg (bA m)), (4, fun v => ∃ g, v = .pointer (some ⟨g, 0, none⟩)), (5, fun v => ∃ g, v = .pointer (some ⟨g, 0, none⟩))] M3 (by kernel_rfl) (by kernel_rfl) (by kernel_rfl) (by kernel_rfl) ?_
  refine rs_ex rfl rfl rfl rfl rfl ⟨_, M3⟩ (fun K hK => ?_); refine ⟨_, fun w' hw => run_ld rfl rfl (hw.row 0 rfl) rfl Try.underlying24 wide_size, ?_⟩; go_simp; refine hK _ ?_; clear hK K
  refine rs_call rfl rfl (fun v => v = .agg (bA n)) rfl rfl ⟨_, rfl⟩ (fun w' => by go_simp) (fun w' _ => (HOA.out w').mono fun e w'' hh => ⟨_, hh.1, rfl, hh.2⟩) (fun K hK => ?_); rintro _ rfl; go_simp; refine hK _ ?_; clear hK K
  refine rs_ex rfl rfl rfl rfl rfl ⟨_, M3⟩ (fun K hK => ?_); refine ⟨_, fun w' hw => run_ld rfl rfl (hw.row 1 rfl) rfl Try.underlying24 wide_size, ?_⟩; go_simp; refine hK _ ?_; clear hK K
  refine rs_call rfl rfl (fun v => v = .agg (bA m)) rfl rfl ⟨_, rfl⟩ (fun w' => by go_simp) (fun w' _ => (HOB.out w').mono fun e w'' hh => ⟨_, hh.1, rfl, hh.2⟩) (fun K hK => ?_); rintro _ rfl; go_simp; refine hK _ ?_; clear hK K
  refine rs_alloc rfl rfl rfl 0 rfl rfl rfl (by decide) (by kernel_rfl) (fun w' => by have hz := bits_zero w'; go_simp) (fun K hK => ?_); intro g5; go_simp; refine hK _ ?_; clear hK K
  refine rs_alloc rfl rfl rfl 1 rfl rfl rfl (by decide) (by kernel_rfl) (fun w' => by have hz := bits_zero w'; go_simp) (fun K hK => ?_); intro g6; go_simp; refine hK _ ?_; clear hK K
  refine rs_store rfl rfl rfl rfl ⟨_, M3⟩ rfl 0 rfl rfl (by decide) rfl rfl (by kernel_rfl) rfl rfl (run_st (cs := (bA n)) rfl rfl rfl (bits_size _) (by rw [bA_size, bA_size]) (bA_oneCell _)) (fun K hK => ?_); go_simp; refine hK _ ?_; clear hK K
  refine rs_store rfl rfl rfl rfl ⟨_, M3⟩ rfl 1 rfl rfl (by decide) rfl rfl (by kernel_rfl) rfl rfl (run_st (cs := (bA m)) rfl rfl rfl (bits_size _) (by rw [bA_size, bA_size]) (bA_oneCell _)) (fun K hK => ?_); go_simp; refine hK _ ?_; clear hK K
  refine rs_nil ?_
  intro w4 M
  have M4 : Has w [(g2, #[.int .u64 h, .int .u64 l], 24), (g3, #[.int .u64 H, .int .u64 L], 24), (g5, (bA n), 32), (g6, (bA m), 32)] w4 := M
  clear M3 M
  refine H4 _ _ ?_
  clear H4 K4
  refine wp_seq_k (fun K5 H5 => ?_)
  refine wp_region_rows [(11, .box 24 #[.int .u64 0, .int .u64 0] 12)] [(3, fun v => v = .agg (bA l)), (6, fun v => v = .agg (bA p)), (7, fun v => v = .tuple #[wv P Q, .bool true]), (11, fun v => ∃ g, v = .pointer (some ⟨g, 0, none⟩))] M4 (by kernel_rfl) (by kernel_rfl) (by kernel_rfl) (by kernel_rfl) ?_
  refine rs_ex rfl rfl rfl rfl rfl ⟨_, M4⟩ (fun K hK => ?_); apply Exists.intro; refine ⟨fun w' hw => ?_, ?_⟩; (focus (go_simp; try exact rfl)); go_simp; refine hK _ ?_; clear hK K
  refine rs_ex rfl rfl rfl rfl rfl ⟨_, M4⟩ (fun K hK => ?_); apply Exists.intro; refine ⟨fun w' hw => ?_, ?_⟩; (focus (have c := IsR.cell (hw.row 0 rfl); have f := IsR.froz (hw.row 0 rfl); go_simp; try exact rfl)); go_simp; refine hK _ ?_; clear hK K
  refine rs_ex rfl rfl rfl rfl rfl ⟨_, M4⟩ (fun K hK => ?_); apply Exists.intro; refine ⟨fun w' hw => ?_, ?_⟩; (focus (go_simp; try exact rfl)); go_simp; refine hK _ ?_; clear hK K
  refine rs_call rfl rfl (fun v => v = .agg (bA l)) rfl rfl ⟨_, rfl⟩ (fun w' => by go_simp) (fun w' _ => (HOL.out w').mono fun e w'' hh => ⟨_, hh.1, rfl, hh.2⟩) (fun K hK => ?_); rintro _ rfl; go_simp; refine hK _ ?_; clear hK K
  refine rs_ex rfl rfl rfl rfl rfl ⟨_, M4⟩ (fun K hK => ?_); apply Exists.intro; refine ⟨fun w' hw => ?_, ?_⟩; (focus (go_simp; try exact rfl)); go_simp; refine hK _ ?_; clear hK K
  refine rs_ex rfl rfl rfl rfl rfl ⟨_, M4⟩ (fun K hK => ?_); apply Exists.intro; refine ⟨fun w' hw => ?_, ?_⟩; (focus (have c := IsR.cell (hw.row 1 rfl); have f := IsR.froz (hw.row 1 rfl); go_simp; try exact rfl)); go_simp; refine hK _ ?_; clear hK K
  refine rs_call rfl rfl (fun v => v = .agg (bA p)) rfl rfl ⟨_, rfl⟩ (fun w' => by go_simp) (fun w' _ => (HPR.out w').mono fun e w'' hh => ⟨_, hh.1, rfl, hh.2⟩) (fun K hK => ?_); rintro _ rfl; go_simp; refine hK _ ?_; clear hK K
  refine rs_call rfl rfl (fun v => v = .tuple #[wv P Q, .bool true]) rfl rfl ⟨_, rfl⟩ (fun w' => by go_simp) (fun w' _ => (HNP.out w').mono fun e w'' hh => ⟨_, hh.1, rfl, hh.2⟩) (fun K hK => ?_); rintro _ rfl; go_simp; refine hK _ ?_; clear hK K
  refine rs_ex rfl rfl rfl rfl rfl ⟨_, M4⟩ (fun K hK => ?_); apply Exists.intro; refine ⟨fun w' hw => ?_, ?_⟩; (focus (go_simp; try exact rfl)); go_simp; refine hK _ ?_; clear hK K
  refine rs_ex rfl rfl rfl rfl rfl ⟨_, M4⟩ (fun K hK => ?_); apply Exists.intro; refine ⟨fun w' hw => ?_, ?_⟩; (focus (go_simp; try exact rfl)); go_simp; refine hK _ ?_; clear hK K
  refine rs_ex rfl rfl rfl rfl rfl ⟨_, M4⟩ (fun K hK => ?_); apply Exists.intro; refine ⟨fun w' hw => ?_, ?_⟩; (focus (go_simp; try exact rfl)); go_simp; refine hK _ ?_; clear hK K
  refine rs_alloc rfl rfl rfl 0 rfl rfl rfl (by decide) (by kernel_rfl) (fun w' => by go_simp) (fun K hK => ?_); intro g7; go_simp; refine hK _ ?_; clear hK K
  refine rs_store rfl rfl rfl rfl ⟨_, M4⟩ rfl 0 rfl rfl (by decide) rfl rfl (by kernel_rfl) rfl rfl (run_st (cs := #[.int .u64 P, .int .u64 Q]) rfl rfl rfl wide_size rfl (by simp [Value.oneCell'])) (fun K hK => ?_); go_simp; refine hK _ ?_; clear hK K
  refine rs_ex rfl rfl rfl rfl rfl ⟨_, M4⟩ (fun K hK => ?_); apply Exists.intro; refine ⟨fun w' hw => ?_, ?_⟩; (focus (go_simp; try exact rfl)); go_simp; refine hK _ ?_; clear hK K
  refine rs_nil ?_
  intro w5 M
  have M5 : Has w [(g2, #[.int .u64 h, .int .u64 l], 24), (g3, #[.int .u64 H, .int .u64 L], 24), (g5, (bA n), 32), (g6, (bA m), 32), (g7, #[.int .u64 P, .int .u64 Q], 24)] w5 := M
  clear M4 M
  refine H5 _ _ ?_
  clear H5 K5
  refine wp_seq_k (fun K6 H6 => ?_)
  refine sq_region ?_
  refine sq_ex rfl (fun K hK => ?_); apply Exists.intro; refine ⟨?_, ?_⟩; (focus (go_simp; try exact rfl)); go_simp; refine hK _ _ ?_; clear hK K
  refine sq_nil ?_
  refine H6 _ _ ?_
  clear H6 K6
  refine wp_seq_k (fun K7 H7 => ?_)
  refine wp_seq_k (fun K8 H8 => ?_)
  refine sq_region ?_
  refine sq_ex rfl (fun K hK => ?_); refine ⟨_, run_ld rfl rfl (M5.row 2 rfl) rfl Try.underlying32 (bits_size _), ?_⟩; go_simp; refine hK _ _ ?_; clear hK K
  refine sq_ex rfl (fun K hK => ?_); refine ⟨_, run_ld rfl rfl (M5.row 3 rfl) rfl Try.underlying32 (bits_size _), ?_⟩; go_simp; refine hK _ _ ?_; clear hK K
  refine sq_call rfl (fun w' => by go_simp) (HL1.out _) (fun K hK => ?_)
  rintro e w6 ⟨rfl, hb⟩
  refine ⟨_, rfl, ?_⟩
  have M6 := M5.kept hb
  clear M5 hb
  go_simp; refine hK _ _ ?_; clear hK K
  refine sq_nil ?_
  refine H8 _ _ ?_
  clear H8 K8
  refine wp_cond_false rfl ?_
  refine wp_skip ?_
  refine H7 _ _ ?_
  clear H7 K7
  refine wp_seq_k (fun K9 H9 => ?_)
  refine wp_seq_k (fun K10 H10 => ?_)
  refine sq_region ?_
  refine sq_ex rfl (fun K hK => ?_); refine ⟨_, run_ld rfl rfl (M6.row 3 rfl) rfl Try.underlying32 (bits_size _), ?_⟩; go_simp; refine hK _ _ ?_; clear hK K
  refine sq_ex rfl (fun K hK => ?_); refine ⟨_, run_ld rfl rfl (M6.row 2 rfl) rfl Try.underlying32 (bits_size _), ?_⟩; go_simp; refine hK _ _ ?_; clear hK K
  refine sq_call rfl (fun w' => by go_simp) (HL2.out _) (fun K hK => ?_)
  rintro e w7 ⟨rfl, hb⟩
  refine ⟨_, rfl, ?_⟩
  have M7 := M6.kept hb
  clear M6 hb
  go_simp; refine hK _ _ ?_; clear hK K
  refine sq_nil ?_
  refine H10 _ _ ?_
  clear H10 K10
  refine wp_cond_false rfl ?_
  refine wp_skip ?_
  refine H9 _ _ ?_
  clear H9 K9
  refine wp_seq_k (fun K11 H11 => ?_)
  refine wp_seq_k (fun K12 H12 => ?_)
  refine wp_region_rows [] [(4, fun v => v = wv P Q), (10, fun v => v = .int .i64 0), (17, fun v => v = .agg #[.int .u64 0, .int .u64 l])] M7 (by kernel_rfl) (by kernel_rfl) (by kernel_rfl) (by kernel_rfl) ?_
  refine rs_ex rfl rfl rfl rfl rfl ⟨_, M7⟩ (fun K hK => ?_); apply Exists.intro; refine ⟨fun w' hw => ?_, ?_⟩; (focus (go_simp; try exact rfl)); go_simp; refine hK _ ?_; clear hK K
  refine rs_ex rfl rfl rfl rfl rfl ⟨_, M7⟩ (fun K hK => ?_); apply Exists.intro; refine ⟨fun w' hw => ?_, ?_⟩; (focus (have c := IsR.cell (hw.row 0 rfl); have f := IsR.froz (hw.row 0 rfl); go_simp; try exact rfl)); go_simp; refine hK _ ?_; clear hK K
  refine rs_ex rfl rfl rfl rfl rfl ⟨_, M7⟩ (fun K hK => ?_); apply Exists.intro; refine ⟨fun w' hw => ?_, ?_⟩; (focus (go_simp; try exact rfl)); go_simp; refine hK _ ?_; clear hK K
  refine rs_ex rfl rfl rfl rfl rfl ⟨_, M7⟩ (fun K hK => ?_); apply Exists.intro; refine ⟨fun w' hw => ?_, ?_⟩; (focus (have c := IsR.cell (hw.row 1 rfl); have f := IsR.froz (hw.row 1 rfl); go_simp; try exact rfl)); go_simp; refine hK _ ?_; clear hK K
  refine rs_call rfl rfl (fun v => v = wv P Q) rfl rfl ⟨_, rfl⟩ (fun w' => by go_simp) (fun w' _ => (HMU.out w').mono fun e w'' hh => ⟨_, hh.1, rfl, hh.2⟩) (fun K hK => ?_); rintro _ rfl; go_simp; refine hK _ ?_; clear hK K
  refine rs_ex rfl rfl rfl rfl rfl ⟨_, M7⟩ (fun K hK => ?_); refine ⟨_, fun w' hw => run_ld rfl rfl (hw.row 4 rfl) rfl Try.underlying24 wide_size, ?_⟩; go_simp; refine hK _ ?_; clear hK K
  refine rs_ex rfl rfl rfl rfl rfl ⟨_, M7⟩ (fun K hK => ?_); apply Exists.intro; refine ⟨fun w' hw => ?_, ?_⟩; (focus (go_simp; try exact rfl)); go_simp; refine hK _ ?_; clear hK K
  refine rs_ex rfl rfl rfl rfl rfl ⟨_, M7⟩ (fun K hK => ?_); apply Exists.intro; refine ⟨fun w' hw => ?_, ?_⟩; (focus (go_simp; try exact rfl)); go_simp; refine hK _ ?_; clear hK K
  refine rs_ex rfl rfl rfl rfl rfl ⟨_, M7⟩ (fun K hK => ?_); refine ⟨_, fun w' hw => run_ld rfl rfl (hw.row 0 rfl) rfl Try.underlying24 wide_size, ?_⟩; go_simp; refine hK _ ?_; clear hK K
  refine rs_ex rfl rfl rfl rfl rfl ⟨_, M7⟩ (fun K hK => ?_); refine ⟨_, fun w' hw => run_ld rfl rfl (hw.row 1 rfl) rfl Try.underlying24 wide_size, ?_⟩; go_simp; refine hK _ ?_; clear hK K
  refine rs_call rfl rfl (fun v => v = .int .i64 0) rfl rfl ⟨_, rfl⟩ (fun w' => by go_simp) (fun w' _ => (HCM.out w').mono fun e w'' hh => ⟨_, hh.1, rfl, hh.2⟩) (fun K hK => ?_); rintro _ rfl; go_simp; refine hK _ ?_; clear hK K
  refine rs_ex rfl rfl rfl rfl rfl ⟨_, M7⟩ (fun K hK => ?_); apply Exists.intro; refine ⟨fun w' hw => ?_, ?_⟩; (focus (go_simp; try exact rfl)); go_simp; refine hK _ ?_; clear hK K
  refine rs_ex rfl rfl rfl rfl rfl ⟨_, M7⟩ (fun K hK => ?_); apply Exists.intro; refine ⟨fun w' hw => ?_, ?_⟩; (focus (go_simp; try exact rfl)); go_simp; refine hK _ ?_; clear hK K
  refine rs_ex rfl rfl rfl rfl rfl ⟨_, M7⟩ (fun K hK => ?_); apply Exists.intro; refine ⟨fun w' hw => ?_, ?_⟩; (focus (go_simp; try exact rfl)); go_simp; refine hK _ ?_; clear hK K
  refine rs_ex rfl rfl rfl rfl rfl ⟨_, M7⟩ (fun K hK => ?_); apply Exists.intro; refine ⟨fun w' hw => ?_, ?_⟩; (focus (go_simp; try exact rfl)); go_simp; refine hK _ ?_; clear hK K
  refine rs_ex rfl rfl rfl rfl rfl ⟨_, M7⟩ (fun K hK => ?_); apply Exists.intro; refine ⟨fun w' hw => ?_, ?_⟩; (focus (go_simp; try exact rfl)); go_simp; refine hK _ ?_; clear hK K
  refine rs_ex rfl rfl rfl rfl rfl ⟨_, M7⟩ (fun K hK => ?_); apply Exists.intro; refine ⟨fun w' hw => ?_, ?_⟩; (focus (have c := IsR.cell (hw.row 0 rfl); have f := IsR.froz (hw.row 0 rfl); go_simp; try exact rfl)); go_simp; refine hK _ ?_; clear hK K
  refine rs_call rfl rfl (fun v => v = .agg #[.int .u64 0, .int .u64 l]) rfl rfl ⟨_, rfl⟩ (fun w' => by go_simp) (fun w' _ => (HOF.out w').mono fun e w'' hh => ⟨_, hh.1, rfl, hh.2⟩) (fun K hK => ?_); rintro _ rfl; go_simp; refine hK _ ?_; clear hK K
  refine rs_ex rfl rfl rfl rfl rfl ⟨_, M7⟩ (fun K hK => ?_); apply Exists.intro; refine ⟨fun w' hw => ?_, ?_⟩; (focus (go_simp; try exact rfl)); go_simp; refine hK _ ?_; clear hK K
  refine rs_ex rfl rfl rfl rfl rfl ⟨_, M7⟩ (fun K hK => ?_); apply Exists.intro; refine ⟨fun w' hw => ?_, ?_⟩; (focus (have c := IsR.cell (hw.row 0 rfl); have f := IsR.froz (hw.row 0 rfl); go_simp; try exact rfl)); go_simp; refine hK _ ?_; clear hK K
  refine rs_ex rfl rfl rfl rfl rfl ⟨_, M7⟩ (fun K hK => ?_); apply Exists.intro; refine ⟨fun w' hw => ?_, ?_⟩; (focus (go_simp; try exact rfl)); go_simp; refine hK _ ?_; clear hK K
  refine rs_ex rfl rfl rfl rfl rfl ⟨_, M7⟩ (fun K hK => ?_); apply Exists.intro; refine ⟨fun w' hw => ?_, ?_⟩; (focus (go_simp; try exact rfl)); go_simp; refine hK _ ?_; clear hK K
  refine rs_ex rfl rfl rfl rfl rfl ⟨_, M7⟩ (fun K hK => ?_); apply Exists.intro; refine ⟨fun w' hw => ?_, ?_⟩; (focus (go_simp; try exact rfl)); go_simp; refine hK _ ?_; clear hK K
  refine rs_nil ?_
  intro w8 M
  have M8 : Has w [(g2, #[.int .u64 h, .int .u64 l], 24), (g3, #[.int .u64 H, .int .u64 L], 24), (g5, (bA n), 32), (g6, (bA m), 32), (g7, #[.int .u64 P, .int .u64 Q], 24)] w8 := M
  clear M7 M
  refine H12 _ _ ?_
  clear H12 K12
  refine wp_cond_false rfl ?_
  refine wp_skip ?_
  refine H11 _ _ ?_
  clear H11 K11
  refine wp_seq_k (fun K13 H13 => ?_)
  refine sq_region ?_
  refine sq_ex rfl (fun K hK => ?_); refine ⟨_, run_ld rfl rfl (M8.row 0 rfl) rfl Try.underlying24 wide_size, ?_⟩; go_simp; refine hK _ _ ?_; clear hK K
  refine sq_ex rfl (fun K hK => ?_); refine ⟨_, run_ld rfl rfl (M8.row 1 rfl) rfl Try.underlying24 wide_size, ?_⟩; go_simp; refine hK _ _ ?_; clear hK K
  refine sq_call rfl (fun w' => by go_simp) (HAD.out _) (fun K hK => ?_)
  rintro e w9 ⟨rfl, hb⟩
  refine ⟨_, rfl, ?_⟩
  have M9 := M8.kept hb
  clear M8 hb
  go_simp; refine hK _ _ ?_; clear hK K
  refine sq_ex rfl (fun K hK => ?_); apply Exists.intro; refine ⟨?_, ?_⟩; (focus (go_simp; try exact rfl)); go_simp; refine hK _ _ ?_; clear hK K
  refine sq_ex rfl (fun K hK => ?_); apply Exists.intro; refine ⟨?_, ?_⟩; (focus (go_simp; try exact rfl)); go_simp; refine hK _ _ ?_; clear hK K
  refine sq_ex rfl (fun K hK => ?_); apply Exists.intro; refine ⟨?_, ?_⟩; (focus (go_simp; try exact rfl)); go_simp; refine hK _ _ ?_; clear hK K
  refine sq_alloc rfl M9 (T := 24) (z := #[.int .u64 0, .int .u64 0]) (fun w' => by go_simp) (fun K hK => ?_)
  intro g10 w10 M10
  clear M9
  go_simp; refine hK _ _ ?_; clear hK K
  refine sq_store rfl M10 5 rfl (run_st (cs := #[.int .u64 0, .int .u64 0]) rfl rfl rfl wide_size rfl (by simp [Value.oneCell'])) (fun K hK => ?_)
  intro w11 M11
  clear M10
  go_simp; refine hK _ _ ?_; clear hK K
  refine sq_ex rfl (fun K hK => ?_); apply Exists.intro; refine ⟨?_, ?_⟩; (focus (go_simp; try exact rfl)); go_simp; refine hK _ _ ?_; clear hK K
  refine sq_nil ?_
  refine H13 _ _ ?_
  clear H13 K13
  refine wp_seq_k (fun K14 H14 => ?_)
  refine sq_region ?_
  refine sq_ex rfl (fun K hK => ?_); refine ⟨_, run_ld rfl rfl (M11.row 2 rfl) rfl Try.underlying32 (bits_size _), ?_⟩; go_simp; refine hK _ _ ?_; clear hK K
  refine sq_ex rfl (fun K hK => ?_); refine ⟨_, run_ld rfl rfl (M11.row 3 rfl) rfl Try.underlying32 (bits_size _), ?_⟩; go_simp; refine hK _ _ ?_; clear hK K
  refine sq_call rfl (fun w' => by go_simp) (HSU.out _) (fun K hK => ?_)
  rintro e w12 ⟨rfl, hb⟩
  refine ⟨_, rfl, ?_⟩
  have M12 := M11.kept hb
  clear M11 hb
  go_simp; refine hK _ _ ?_; clear hK K
  refine sq_call rfl (fun w' => by go_simp) (HNS.out _) (fun K hK => ?_)
  rintro e w13 ⟨rfl, hb⟩
  refine ⟨_, rfl, ?_⟩
  have M13 := M12.kept hb
  clear M12 hb
  go_simp; refine hK _ _ ?_; clear hK K
  refine sq_ex rfl (fun K hK => ?_); apply Exists.intro; refine ⟨?_, ?_⟩; (focus (go_simp; try exact rfl)); go_simp; refine hK _ _ ?_; clear hK K
  refine sq_ex rfl (fun K hK => ?_); apply Exists.intro; refine ⟨?_, ?_⟩; (focus (go_simp; try exact rfl)); go_simp; refine hK _ _ ?_; clear hK K
  refine sq_ex rfl (fun K hK => ?_); apply Exists.intro; refine ⟨?_, ?_⟩; (focus (go_simp; try exact rfl)); go_simp; refine hK _ _ ?_; clear hK K
  refine sq_alloc rfl M13 (T := 24) (z := #[.int .u64 0, .int .u64 0]) (fun w' => by go_simp) (fun K hK => ?_)
  intro g12 w14 M14
  clear M13
  go_simp; refine hK _ _ ?_; clear hK K
  refine sq_store rfl M14 6 rfl (run_st (cs := #[.int .u64 A, .int .u64 B]) rfl rfl rfl wide_size rfl (by simp [Value.oneCell'])) (fun K hK => ?_)
  intro w15 M15
  clear M14
  go_simp; refine hK _ _ ?_; clear hK K
  refine sq_ex rfl (fun K hK => ?_); apply Exists.intro; refine ⟨?_, ?_⟩; (focus (go_simp; try exact rfl)); go_simp; refine hK _ _ ?_; clear hK K
  refine sq_nil ?_
  refine H14 _ _ ?_
  clear H14 K14
  refine wp_seq_k (fun K15 H15 => ?_)
  refine wp_seq_k (fun K16 H16 => ?_)
  refine sq_region ?_
  refine sq_ex rfl (fun K hK => ?_); apply Exists.intro; refine ⟨?_, ?_⟩; (focus (go_simp; try exact rfl)); go_simp; refine hK _ _ ?_; clear hK K
  refine sq_ex rfl (fun K hK => ?_); apply Exists.intro; refine ⟨?_, ?_⟩; (focus (go_simp; try exact rfl)); go_simp; refine hK _ _ ?_; clear hK K
  refine sq_ex rfl (fun K hK => ?_); apply Exists.intro; refine ⟨?_, ?_⟩; (focus (go_simp; try exact rfl)); go_simp; refine hK _ _ ?_; clear hK K
  refine sq_ex rfl (fun K hK => ?_); apply Exists.intro; refine ⟨?_, ?_⟩; (focus (go_simp; try exact rfl)); go_simp; refine hK _ _ ?_; clear hK K
  refine sq_ex rfl (fun K hK => ?_); apply Exists.intro; refine ⟨?_, ?_⟩; (focus (go_simp; try exact rfl)); go_simp; refine hK _ _ ?_; clear hK K
  refine sq_ex rfl (fun K hK => ?_); apply Exists.intro; refine ⟨?_, ?_⟩; (focus (go_simp; try exact rfl)); go_simp; refine hK _ _ ?_; clear hK K
  refine sq_ex rfl (fun K hK => ?_); apply Exists.intro; refine ⟨?_, ?_⟩; (focus (go_simp; try exact rfl)); go_simp; refine hK _ _ ?_; clear hK K
  refine sq_not rfl (fun K hK => ?_); go_simp; refine hK _ _ ?_; clear hK K
  refine sq_not rfl (fun K hK => ?_); go_simp; refine hK _ _ ?_; clear hK K
  refine sq_not rfl (fun K hK => ?_); go_simp; refine hK _ _ ?_; clear hK K
  refine sq_ex rfl (fun K hK => ?_); apply Exists.intro; refine ⟨?_, ?_⟩; (focus (go_simp; try exact rfl)); go_simp; refine hK _ _ ?_; clear hK K
  refine sq_ex rfl (fun K hK => ?_); apply Exists.intro; refine ⟨?_, ?_⟩; (focus (go_simp; try exact rfl)); go_simp; refine hK _ _ ?_; clear hK K
  refine sq_ex rfl (fun K hK => ?_); apply Exists.intro; refine ⟨?_, ?_⟩; (focus (go_simp; try exact rfl)); go_simp; refine hK _ _ ?_; clear hK K
  refine sq_ex rfl (fun K hK => ?_); apply Exists.intro; refine ⟨?_, ?_⟩; (focus (go_simp; try exact rfl)); go_simp; refine hK _ _ ?_; clear hK K
  refine sq_ex rfl (fun K hK => ?_); apply Exists.intro; refine ⟨?_, ?_⟩; (focus (go_simp; try exact rfl)); go_simp; refine hK _ _ ?_; clear hK K
  refine sq_ex rfl (fun K hK => ?_); apply Exists.intro; refine ⟨?_, ?_⟩; (focus (go_simp; try exact rfl)); go_simp; refine hK _ _ ?_; clear hK K
  refine sq_ex rfl (fun K hK => ?_); apply Exists.intro; refine ⟨?_, ?_⟩; (focus (go_simp; try exact rfl)); go_simp; refine hK _ _ ?_; clear hK K
  refine sq_ex rfl (fun K hK => ?_); apply Exists.intro; refine ⟨?_, ?_⟩; (focus (go_simp; try exact rfl)); go_simp; refine hK _ _ ?_; clear hK K
  refine sq_ex rfl (fun K hK => ?_); apply Exists.intro; refine ⟨?_, ?_⟩; (focus (go_simp; try exact rfl)); go_simp; refine hK _ _ ?_; clear hK K
  refine sq_ex rfl (fun K hK => ?_); refine ⟨_, run_ld rfl rfl (M15.row 5 rfl) rfl Try.underlying24 wide_size, ?_⟩; go_simp; refine hK _ _ ?_; clear hK K
  refine sq_ex rfl (fun K hK => ?_); apply Exists.intro; refine ⟨?_, ?_⟩; (focus (go_simp; try exact rfl)); go_simp; refine hK _ _ ?_; clear hK K
  refine sq_ex rfl (fun K hK => ?_); apply Exists.intro; refine ⟨?_, ?_⟩; (focus (go_simp; try exact rfl)); go_simp; refine hK _ _ ?_; clear hK K
  refine sq_ex rfl (fun K hK => ?_); apply Exists.intro; refine ⟨?_, ?_⟩; (focus (go_simp; try exact rfl)); go_simp; refine hK _ _ ?_; clear hK K
  refine sq_ex rfl (fun K hK => ?_); apply Exists.intro; refine ⟨?_, ?_⟩; (focus (go_simp; try exact rfl)); go_simp; refine hK _ _ ?_; clear hK K
  refine sq_ex rfl (fun K hK => ?_); apply Exists.intro; refine ⟨?_, ?_⟩; (focus (go_simp; try exact rfl)); go_simp; refine hK _ _ ?_; clear hK K
  refine sq_nil ?_
  refine H16 _ _ ?_
  clear H16 K16
  refine wp_cond_false rfl ?_
  refine wp_skip ?_
  refine H15 _ _ ?_
  clear H15 K15
  refine wp_seq_k (fun K17 H17 => ?_)
  refine sq_region ?_
  refine sq_ex rfl (fun K hK => ?_); refine ⟨_, run_ld rfl rfl (M15.row 0 rfl) rfl Try.underlying24 wide_size, ?_⟩; go_simp; refine hK _ _ ?_; clear hK K
  refine sq_ex rfl (fun K hK => ?_); refine ⟨_, run_ld rfl rfl (M15.row 1 rfl) rfl Try.underlying24 wide_size, ?_⟩; go_simp; refine hK _ _ ?_; clear hK K
  refine sq_call rfl (fun w' => by go_simp) (HSB.out _) (fun K hK => ?_)
  rintro e w16 ⟨rfl, hb⟩
  refine ⟨_, rfl, ?_⟩
  have M16 := M15.kept hb
  clear M15 hb
  go_simp; refine hK _ _ ?_; clear hK K
  refine sq_ex rfl (fun K hK => ?_); apply Exists.intro; refine ⟨?_, ?_⟩; (focus (go_simp; try exact rfl)); go_simp; refine hK _ _ ?_; clear hK K
  refine sq_ex rfl (fun K hK => ?_); apply Exists.intro; refine ⟨?_, ?_⟩; (focus (go_simp; try exact rfl)); go_simp; refine hK _ _ ?_; clear hK K
  refine sq_ex rfl (fun K hK => ?_); apply Exists.intro; refine ⟨?_, ?_⟩; (focus (go_simp; try exact rfl)); go_simp; refine hK _ _ ?_; clear hK K
  refine sq_alloc rfl M16 (T := 24) (z := #[.int .u64 0, .int .u64 0]) (fun w' => by go_simp) (fun K hK => ?_)
  intro g14 w17 M17
  clear M16
  go_simp; refine hK _ _ ?_; clear hK K
  refine sq_store rfl M17 7 rfl (run_st (cs := #[.int .u64 X, .int .u64 Y]) rfl rfl rfl wide_size rfl (by simp [Value.oneCell'])) (fun K hK => ?_)
  intro w18 M18
  clear M17
  go_simp; refine hK _ _ ?_; clear hK K
  refine sq_ex rfl (fun K hK => ?_); apply Exists.intro; refine ⟨?_, ?_⟩; (focus (go_simp; try exact rfl)); go_simp; refine hK _ _ ?_; clear hK K
  refine sq_nil ?_
  refine H17 _ _ ?_
  clear H17 K17
  refine wp_seq_k (fun K18 H18 => ?_)
  refine wp_seq_k (fun K19 H19 => ?_)
  refine sq_region ?_
  refine sq_ex rfl (fun K hK => ?_); apply Exists.intro; refine ⟨?_, ?_⟩; (focus (go_simp; try exact rfl)); go_simp; refine hK _ _ ?_; clear hK K
  refine sq_ex rfl (fun K hK => ?_); apply Exists.intro; refine ⟨?_, ?_⟩; (focus (go_simp; try exact rfl)); go_simp; refine hK _ _ ?_; clear hK K
  refine sq_nil ?_
  refine H19 _ _ ?_
  clear H19 K19
  refine wp_cond_false rfl ?_
  refine wp_skip ?_
  refine H18 _ _ ?_
  clear H18 K18
  refine wp_seq_k (fun K20 H20 => ?_)
  refine sq_region ?_
  refine sq_ex rfl (fun K hK => ?_); refine ⟨_, run_ld rfl rfl (M18.row 2 rfl) rfl Try.underlying32 (bits_size _), ?_⟩; go_simp; refine hK _ _ ?_; clear hK K
  refine sq_ex rfl (fun K hK => ?_); refine ⟨_, run_ld rfl rfl (M18.row 3 rfl) rfl Try.underlying32 (bits_size _), ?_⟩; go_simp; refine hK _ _ ?_; clear hK K
  refine sq_call rfl (fun w' => by go_simp) (HTK.out _) (fun K hK => ?_)
  rintro e w19 ⟨rfl, hb⟩
  refine ⟨_, rfl, ?_⟩
  have M19 := M18.kept hb
  clear M18 hb
  go_simp; refine hK _ _ ?_; clear hK K
  refine sq_call rfl (fun w' => by go_simp) (HNT.out _) (fun K hK => ?_)
  rintro e w20 ⟨rfl, hb⟩
  refine ⟨_, rfl, ?_⟩
  have M20 := M19.kept hb
  clear M19 hb
  go_simp; refine hK _ _ ?_; clear hK K
  refine sq_ex rfl (fun K hK => ?_); apply Exists.intro; refine ⟨?_, ?_⟩; (focus (go_simp; try exact rfl)); go_simp; refine hK _ _ ?_; clear hK K
  refine sq_ex rfl (fun K hK => ?_); apply Exists.intro; refine ⟨?_, ?_⟩; (focus (go_simp; try exact rfl)); go_simp; refine hK _ _ ?_; clear hK K
  refine sq_ex rfl (fun K hK => ?_); apply Exists.intro; refine ⟨?_, ?_⟩; (focus (go_simp; try exact rfl)); go_simp; refine hK _ _ ?_; clear hK K
  refine sq_store rfl M20 6 rfl (run_st (cs := #[.int .u64 X, .int .u64 Y]) rfl rfl rfl wide_size rfl (by simp [Value.oneCell'])) (fun K hK => ?_)
  intro w21 M21
  clear M20
  go_simp; refine hK _ _ ?_; clear hK K
  refine sq_nil ?_
  refine H20 _ _ ?_
  clear H20 K20
  refine wp_seq_k (fun K21 H21 => ?_)
  refine sq_region ?_
  refine sq_ex rfl (fun K hK => ?_); apply Exists.intro; refine ⟨?_, ?_⟩; (focus (go_simp; try exact rfl)); go_simp; refine hK _ _ ?_; clear hK K
  refine sq_ex rfl (fun K hK => ?_); apply Exists.intro; refine ⟨?_, ?_⟩; (focus (go_simp; try exact rfl)); go_simp; refine hK _ _ ?_; clear hK K
  refine sq_ex rfl (fun K hK => ?_); apply Exists.intro; refine ⟨?_, ?_⟩; (focus (go_simp; try exact rfl)); go_simp; refine hK _ _ ?_; clear hK K
  refine sq_ex rfl (fun K hK => ?_); refine ⟨_, run_ld rfl rfl (M21.row 7 rfl) rfl Try.underlying24 wide_size, ?_⟩; go_simp; refine hK _ _ ?_; clear hK K
  refine sq_ex rfl (fun K hK => ?_); refine ⟨_, run_ld rfl rfl (M21.row 6 rfl) rfl Try.underlying24 wide_size, ?_⟩; go_simp; refine hK _ _ ?_; clear hK K
  refine sq_ex rfl (fun K hK => ?_); apply Exists.intro; refine ⟨?_, ?_⟩; (focus (go_simp; try exact rfl)); go_simp; refine hK _ _ ?_; clear hK K
  refine sq_ex rfl (fun K hK => ?_); apply Exists.intro; refine ⟨?_, ?_⟩; (focus (go_simp; try exact rfl)); go_simp; refine hK _ _ ?_; clear hK K
  refine sq_ex rfl (fun K hK => ?_); apply Exists.intro; refine ⟨?_, ?_⟩; (focus (go_simp; try exact rfl)); go_simp; refine hK _ _ ?_; clear hK K
  refine sq_nil ?_
  refine H21 _ _ ?_
  clear H21 K21
  refine wp_ret ?_
  go_ret
  exact ⟨rfl, M21.below⟩

end Go.Proofs.Ytpjdojnbajoafaa
