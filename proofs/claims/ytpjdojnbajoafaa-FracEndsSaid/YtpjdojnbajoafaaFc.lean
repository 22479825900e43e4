/- floor, Behind, Raise, and the reference of layer 5: their walks. -/
import Derived.Test.YtpjdojnbajoafaaFb
namespace Go.Proofs.Ytpjdojnbajoafaa
open Go Go.RowKit

set_option maxRecDepth 100000 in
set_option maxHeartbeats 1000000 in
theorem ffloor_ok (h l x n A B P Q : Nat) (w : World)
    (HM : Hid (Dt 27 #[.int .u64 n, .int .u64 x] (wv A B)))
    (HS : Hid (Dt 30 #[wv h l, wv A B] (.tuple #[.agg #[.int .u64 P, .int .u64 Q], .int .i64 0])))
    : Calls Try.prog 70 #[fv h l x, .int .u64 n] w fun e w' => e = .returned (.agg #[.int .u64 P, .int .u64 Q, .int .u64 x]) ∧ Below w.heap.size w w' := by
  have M0 := Has.start w
  go_enter Try.func70, Try.ntmps70
  refine wp_seq_k (fun K1 H1 => ?_)
  refine sq_region ?_
  refine sq_alloc rfl M0 (T := 60) (z := #[.int .u64 h, .int .u64 l, .int .u64 x]) (fun w' => by go_simp) (fun K hK => ?_)
  intro g2 w1 M1
  clear M0
  go_simp; refine hK _ _ ?_; clear hK K
  refine sq_alloc rfl M1 (T := 60) (z := #[.int .u64 0, .int .u64 0, .int .u64 0]) (fun w' => by go_simp) (fun K hK => ?_)
  intro g4 w2 M2
  clear M1
  go_simp; refine hK _ _ ?_; clear hK K
  refine sq_nil ?_
  refine H1 _ _ ?_
  clear H1 K1
  refine wp_seq_k (fun K2 H2 => ?_)
  refine wp_region_rows (L := [(g2, #[.int .u64 h, .int .u64 l, .int .u64 x], 60), (g4, #[.int .u64 0, .int .u64 0, .int .u64 0], 60)]) [(10, .box 24 #[.int .u64 0, .int .u64 0] 11)] [(5, fun v => v = wv A B), (6, fun v => v = .tuple #[.agg #[.int .u64 P, .int .u64 Q], .int .i64 0]), (10, fun v => ∃ g, v = .pointer (some ⟨g, 0, none⟩))] M2 (by kernel_rfl) (by kernel_rfl) (by kernel_rfl) (by kernel_rfl) ?_
  refine rs_ex rfl rfl rfl rfl rfl ⟨_, M2⟩ (fun K hK => ?_); apply Exists.intro; refine ⟨fun w' hw => ?_, ?_⟩; (focus (go_simp; try exact rfl)); go_simp; refine hK _ ?_; clear hK K
  refine rs_ex rfl rfl rfl rfl rfl ⟨_, M2⟩ (fun K hK => ?_); refine ⟨_, fun w' hw => run_ldm [.int .u64 h, .int .u64 l] rfl rfl (hw.row 0 rfl) (fun j v h => by match j with | 0 => simpa using h | 1 => simpa using h | (k + 2) => simp at h) rfl Try.underlying24 wide_size, ?_⟩; go_simp; refine hK _ ?_; clear hK K
  refine rs_ex rfl rfl rfl rfl rfl ⟨_, M2⟩ (fun K hK => ?_); apply Exists.intro; refine ⟨fun w' hw => ?_, ?_⟩; (focus (go_simp; try exact rfl)); go_simp; refine hK _ ?_; clear hK K
  refine rs_ex rfl rfl rfl rfl rfl ⟨_, M2⟩ (fun K hK => ?_); apply Exists.intro; refine ⟨fun w' hw => ?_, ?_⟩; (focus (go_simp; try exact rfl)); go_simp; refine hK _ ?_; clear hK K
  refine rs_ex rfl rfl rfl rfl rfl ⟨_, M2⟩ (fun K hK => ?_); apply Exists.intro; refine ⟨fun w' hw => ?_, ?_⟩; (focus (have c := IsR.cell (hw.row 0 rfl); have f := IsR.froz (hw.row 0 rfl); go_simp; try exact rfl)); go_simp; refine hK _ ?_; clear hK K
  refine rs_call rfl rfl (fun v => v = wv A B) rfl rfl ⟨_, rfl⟩ (fun w' => by go_simp) (fun w' hw => (HM.out w').mono fun e w'' hh => ⟨_, hh.1, rfl, hh.2⟩) (fun K hK => ?_); rintro _ rfl; go_simp; refine hK _ ?_; clear hK K
  refine rs_call rfl rfl (fun v => v = .tuple #[.agg #[.int .u64 P, .int .u64 Q], .int .i64 0]) rfl rfl ⟨_, rfl⟩ (fun w' => by go_simp) (fun w' hw => (HS.out w').mono fun e w'' hh => ⟨_, hh.1, rfl, hh.2⟩) (fun K hK => ?_); rintro _ rfl; go_simp; refine hK _ ?_; clear hK K
  refine rs_ex rfl rfl rfl rfl rfl ⟨_, M2⟩ (fun K hK => ?_); apply Exists.intro; refine ⟨fun w' hw => ?_, ?_⟩; (focus (go_simp; try exact rfl)); go_simp; refine hK _ ?_; clear hK K
  refine rs_ex rfl rfl rfl rfl rfl ⟨_, M2⟩ (fun K hK => ?_); apply Exists.intro; refine ⟨fun w' hw => ?_, ?_⟩; (focus (go_simp; try exact rfl)); go_simp; refine hK _ ?_; clear hK K
  refine rs_ex rfl rfl rfl rfl rfl ⟨_, M2⟩ (fun K hK => ?_); apply Exists.intro; refine ⟨fun w' hw => ?_, ?_⟩; (focus (go_simp; try exact rfl)); go_simp; refine hK _ ?_; clear hK K
  refine rs_alloc rfl rfl rfl 0 rfl rfl rfl (by decide) (by kernel_rfl) (fun w' => by go_simp) (fun K hK => ?_); intro g5; go_simp; refine hK _ ?_; clear hK K
  refine rs_store rfl rfl rfl rfl ⟨_, M2⟩ rfl 0 rfl rfl (by decide) rfl rfl (by kernel_rfl) rfl rfl (run_st (cs := #[.int .u64 P, .int .u64 Q]) rfl rfl rfl wide_size rfl (by simp [Value.oneCell'])) (fun K hK => ?_); go_simp; refine hK _ ?_; clear hK K
  refine rs_ex rfl rfl rfl rfl rfl ⟨_, M2⟩ (fun K hK => ?_); apply Exists.intro; refine ⟨fun w' hw => ?_, ?_⟩; (focus (go_simp; try exact rfl)); go_simp; refine hK _ ?_; clear hK K
  refine rs_nil ?_
  intro w3 M
  have M3 : Has w [(g2, #[.int .u64 h, .int .u64 l, .int .u64 x], 60), (g4, #[.int .u64 0, .int .u64 0, .int .u64 0], 60), (g5, #[.int .u64 P, .int .u64 Q], 24)] w3 := M
  clear M2 M
  refine H2 _ _ ?_
  clear H2 K2
  refine wp_seq_k (fun K3 H3 => ?_)
  refine wp_seq_k (fun K4 H4 => ?_)
  refine sq_region ?_
  refine sq_ex rfl (fun K hK => ?_); apply Exists.intro; refine ⟨?_, ?_⟩; (focus (go_simp; try exact rfl)); go_simp; refine hK _ _ ?_; clear hK K
  refine sq_ex rfl (fun K hK => ?_); refine ⟨.bool false, ?_, ?_⟩; (focus (go_simp; try (first | omega | (simp; done) | (simp; omega)))); go_simp; refine hK _ _ ?_; clear hK K
  refine sq_nil ?_
  refine H4 _ _ ?_
  clear H4 K4
  refine wp_cond_false rfl ?_
  refine wp_skip ?_
  refine H3 _ _ ?_
  clear H3 K3
  refine wp_seq_k (fun K5 H5 => ?_)
  refine sq_region ?_
  refine sq_ex rfl (fun K hK => ?_); refine ⟨_, run_ld rfl rfl (M3.row 2 rfl) rfl Try.underlying24 wide_size, ?_⟩; go_simp; refine hK _ _ ?_; clear hK K
  refine sq_ex rfl (fun K hK => ?_); apply Exists.intro; refine ⟨?_, ?_⟩; (focus (go_simp; try exact rfl)); go_simp; refine hK _ _ ?_; clear hK K
  refine sq_ex rfl (fun K hK => ?_); apply Exists.intro; refine ⟨?_, ?_⟩; (focus (have c := IsR.cell (M3.row 0 rfl); have f := IsR.froz (M3.row 0 rfl); go_simp; try exact rfl)); go_simp; refine hK _ _ ?_; clear hK K
  refine sq_ex rfl (fun K hK => ?_); apply Exists.intro; refine ⟨?_, ?_⟩; (focus (go_simp; try exact rfl)); go_simp; refine hK _ _ ?_; clear hK K
  refine sq_store rfl M3 1 rfl (run_st (cs := #[.int .u64 P, .int .u64 Q, .int .u64 x]) rfl rfl rfl frac_size rfl (by simp [Value.oneCell'])) (fun K hK => ?_)
  intro w4 M4
  clear M3
  go_simp; refine hK _ _ ?_; clear hK K
  refine sq_nil ?_
  refine H5 _ _ ?_
  clear H5 K5
  refine wp_ret ?_
  refine ret_row Try.results70 rfl (M4.row 1 rfl) Try.underlying60 rfl frac_size ⟨rfl, M4.below⟩

set_option maxRecDepth 100000 in
set_option maxHeartbeats 1000000 in
theorem ffloor_low (h l x n A B P Q : Nat) (w : World)
    (HM : Hid (Dt 27 #[.int .u64 n, .int .u64 x] (wv A B)))
    (HS : Hid (Dt 30 #[wv h l, wv A B] (.tuple #[.agg #[.int .u64 0, .int .u64 0], .int .i64 131])))
    : Calls Try.prog 70 #[fv h l x, .int .u64 n] w fun e w' => e = .returned (.agg #[.int .u64 0, .int .u64 0, .int .u64 x]) ∧ Below w.heap.size w w' := by
  have M0 := Has.start w
  go_enter Try.func70, Try.ntmps70
  refine wp_seq_k (fun K1 H1 => ?_)
  refine sq_region ?_
  refine sq_alloc rfl M0 (T := 60) (z := #[.int .u64 h, .int .u64 l, .int .u64 x]) (fun w' => by go_simp) (fun K hK => ?_)
  intro g2 w1 M1
  clear M0
  go_simp; refine hK _ _ ?_; clear hK K
  refine sq_alloc rfl M1 (T := 60) (z := #[.int .u64 0, .int .u64 0, .int .u64 0]) (fun w' => by go_simp) (fun K hK => ?_)
  intro g4 w2 M2
  clear M1
  go_simp; refine hK _ _ ?_; clear hK K
  refine sq_nil ?_
  refine H1 _ _ ?_
  clear H1 K1
  refine wp_seq_k (fun K2 H2 => ?_)
  refine wp_region_rows (L := [(g2, #[.int .u64 h, .int .u64 l, .int .u64 x], 60), (g4, #[.int .u64 0, .int .u64 0, .int .u64 0], 60)]) [(10, .box 24 #[.int .u64 0, .int .u64 0] 11)] [(5, fun v => v = wv A B), (6, fun v => v = .tuple #[.agg #[.int .u64 0, .int .u64 0], .int .i64 131]), (10, fun v => ∃ g, v = .pointer (some ⟨g, 0, none⟩))] M2 (by kernel_rfl) (by kernel_rfl) (by kernel_rfl) (by kernel_rfl) ?_
  refine rs_ex rfl rfl rfl rfl rfl ⟨_, M2⟩ (fun K hK => ?_); apply Exists.intro; refine ⟨fun w' hw => ?_, ?_⟩; (focus (go_simp; try exact rfl)); go_simp; refine hK _ ?_; clear hK K
  refine rs_ex rfl rfl rfl rfl rfl ⟨_, M2⟩ (fun K hK => ?_); refine ⟨_, fun w' hw => run_ldm [.int .u64 h, .int .u64 l] rfl rfl (hw.row 0 rfl) (fun j v h => by match j with | 0 => simpa using h | 1 => simpa using h | (k + 2) => simp at h) rfl Try.underlying24 wide_size, ?_⟩; go_simp; refine hK _ ?_; clear hK K
  refine rs_ex rfl rfl rfl rfl rfl ⟨_, M2⟩ (fun K hK => ?_); apply Exists.intro; refine ⟨fun w' hw => ?_, ?_⟩; (focus (go_simp; try exact rfl)); go_simp; refine hK _ ?_; clear hK K
  refine rs_ex rfl rfl rfl rfl rfl ⟨_, M2⟩ (fun K hK => ?_); apply Exists.intro; refine ⟨fun w' hw => ?_, ?_⟩; (focus (go_simp; try exact rfl)); go_simp; refine hK _ ?_; clear hK K
  refine rs_ex rfl rfl rfl rfl rfl ⟨_, M2⟩ (fun K hK => ?_); apply Exists.intro; refine ⟨fun w' hw => ?_, ?_⟩; (focus (have c := IsR.cell (hw.row 0 rfl); have f := IsR.froz (hw.row 0 rfl); go_simp; try exact rfl)); go_simp; refine hK _ ?_; clear hK K
  refine rs_call rfl rfl (fun v => v = wv A B) rfl rfl ⟨_, rfl⟩ (fun w' => by go_simp) (fun w' hw => (HM.out w').mono fun e w'' hh => ⟨_, hh.1, rfl, hh.2⟩) (fun K hK => ?_); rintro _ rfl; go_simp; refine hK _ ?_; clear hK K
  refine rs_call rfl rfl (fun v => v = .tuple #[.agg #[.int .u64 0, .int .u64 0], .int .i64 131]) rfl rfl ⟨_, rfl⟩ (fun w' => by go_simp) (fun w' hw => (HS.out w').mono fun e w'' hh => ⟨_, hh.1, rfl, hh.2⟩) (fun K hK => ?_); rintro _ rfl; go_simp; refine hK _ ?_; clear hK K
  refine rs_ex rfl rfl rfl rfl rfl ⟨_, M2⟩ (fun K hK => ?_); apply Exists.intro; refine ⟨fun w' hw => ?_, ?_⟩; (focus (go_simp; try exact rfl)); go_simp; refine hK _ ?_; clear hK K
  refine rs_ex rfl rfl rfl rfl rfl ⟨_, M2⟩ (fun K hK => ?_); apply Exists.intro; refine ⟨fun w' hw => ?_, ?_⟩; (focus (go_simp; try exact rfl)); go_simp; refine hK _ ?_; clear hK K
  refine rs_ex rfl rfl rfl rfl rfl ⟨_, M2⟩ (fun K hK => ?_); apply Exists.intro; refine ⟨fun w' hw => ?_, ?_⟩; (focus (go_simp; try exact rfl)); go_simp; refine hK _ ?_; clear hK K
  refine rs_alloc rfl rfl rfl 0 rfl rfl rfl (by decide) (by kernel_rfl) (fun w' => by go_simp) (fun K hK => ?_); intro g5; go_simp; refine hK _ ?_; clear hK K
  refine rs_store rfl rfl rfl rfl ⟨_, M2⟩ rfl 0 rfl rfl (by decide) rfl rfl (by kernel_rfl) rfl rfl (run_st (cs := #[.int .u64 0, .int .u64 0]) rfl rfl rfl wide_size rfl (by simp [Value.oneCell'])) (fun K hK => ?_); go_simp; refine hK _ ?_; clear hK K
  refine rs_ex rfl rfl rfl rfl rfl ⟨_, M2⟩ (fun K hK => ?_); apply Exists.intro; refine ⟨fun w' hw => ?_, ?_⟩; (focus (go_simp; try exact rfl)); go_simp; refine hK _ ?_; clear hK K
  refine rs_nil ?_
  intro w3 M
  have M3 : Has w [(g2, #[.int .u64 h, .int .u64 l, .int .u64 x], 60), (g4, #[.int .u64 0, .int .u64 0, .int .u64 0], 60), (g5, #[.int .u64 0, .int .u64 0], 24)] w3 := M
  clear M2 M
  refine H2 _ _ ?_
  clear H2 K2
  refine wp_seq_k (fun K3 H3 => ?_)
  refine wp_seq_k (fun K4 H4 => ?_)
  refine sq_region ?_
  refine sq_ex rfl (fun K hK => ?_); apply Exists.intro; refine ⟨?_, ?_⟩; (focus (go_simp; try exact rfl)); go_simp; refine hK _ _ ?_; clear hK K
  refine sq_ex rfl (fun K hK => ?_); refine ⟨.bool true, ?_, ?_⟩; (focus (go_simp; try (first | omega | (simp; done) | (simp; omega)))); go_simp; refine hK _ _ ?_; clear hK K
  refine sq_nil ?_
  refine H4 _ _ ?_
  clear H4 K4
  refine wp_cond_true rfl ?_
  refine sq_region ?_
  refine sq_ex rfl (fun K hK => ?_); apply Exists.intro; refine ⟨?_, ?_⟩; (focus (go_simp; try exact rfl)); go_simp; refine hK _ _ ?_; clear hK K
  refine sq_store rfl M3 2 rfl (run_st (cs := #[.int .u64 0, .int .u64 0]) rfl rfl rfl wide_size rfl (by simp [Value.oneCell'])) (fun K hK => ?_)
  intro w4 M4
  clear M3
  go_simp; refine hK _ _ ?_; clear hK K
  refine sq_nil ?_
  refine H3 _ _ ?_
  clear H3 K3
  refine wp_seq_k (fun K5 H5 => ?_)
  refine sq_region ?_
  refine sq_ex rfl (fun K hK => ?_); refine ⟨_, run_ld rfl rfl (M4.row 2 rfl) rfl Try.underlying24 wide_size, ?_⟩; go_simp; refine hK _ _ ?_; clear hK K
  refine sq_ex rfl (fun K hK => ?_); apply Exists.intro; refine ⟨?_, ?_⟩; (focus (go_simp; try exact rfl)); go_simp; refine hK _ _ ?_; clear hK K
  refine sq_ex rfl (fun K hK => ?_); apply Exists.intro; refine ⟨?_, ?_⟩; (focus (have c := IsR.cell (M4.row 0 rfl); have f := IsR.froz (M4.row 0 rfl); go_simp; try exact rfl)); go_simp; refine hK _ _ ?_; clear hK K
  refine sq_ex rfl (fun K hK => ?_); apply Exists.intro; refine ⟨?_, ?_⟩; (focus (go_simp; try exact rfl)); go_simp; refine hK _ _ ?_; clear hK K
  refine sq_store rfl M4 1 rfl (run_st (cs := #[.int .u64 0, .int .u64 0, .int .u64 x]) rfl rfl rfl frac_size rfl (by simp [Value.oneCell'])) (fun K hK => ?_)
  intro w5 M5
  clear M4
  go_simp; refine hK _ _ ?_; clear hK K
  refine sq_nil ?_
  refine H5 _ _ ?_
  clear H5 K5
  refine wp_ret ?_
  refine ret_row Try.results70 rfl (M5.row 1 rfl) Try.underlying60 rfl frac_size ⟨rfl, M5.below⟩

set_option maxRecDepth 100000 in
set_option maxHeartbeats 1000000 in
theorem fbehind_no (h l x H L X n : Nat) (w : World)
    (hb : (okF h x && okF H X) = false)
    : Calls Try.prog 51 #[fv h l x, fv H L X, .int .u64 n] w fun e w' => e = .returned (.bool false) ∧ Below w.heap.size w w' := by
  have M0 := Has.start w
  go_enter Try.func51, Try.ntmps51
  refine wp_seq_k (fun K1 H1 => ?_)
  refine sq_region ?_
  refine sq_alloc rfl M0 (T := 60) (z := #[.int .u64 h, .int .u64 l, .int .u64 x]) (fun w' => by go_simp) (fun K hK => ?_)
  intro g3 w1 M1
  clear M0
  go_simp; refine hK _ _ ?_; clear hK K
  refine sq_alloc rfl M1 (T := 60) (z := #[.int .u64 H, .int .u64 L, .int .u64 X]) (fun w' => by go_simp) (fun K hK => ?_)
  intro g4 w2 M2
  clear M1
  go_simp; refine hK _ _ ?_; clear hK K
  refine sq_ex rfl (fun K hK => ?_); apply Exists.intro; refine ⟨?_, ?_⟩; (focus (go_simp; try exact rfl)); go_simp; refine hK _ _ ?_; clear hK K
  refine sq_nil ?_
  refine H1 _ _ ?_
  clear H1 K1
  refine wp_seq_k (fun K2 H2 => ?_)
  refine wp_region_rows (L := [(g3, #[.int .u64 h, .int .u64 l, .int .u64 x], 60), (g4, #[.int .u64 H, .int .u64 L, .int .u64 X], 60)]) [(2, .fam (sliceRow 60 #[.int .u64 h, .int .u64 l, .int .u64 x, .int .u64 H, .int .u64 L, .int .u64 X]))] [(2, fun v => ∃ g, v = .slice (some ⟨g, 0, none⟩) 2 2), (3, fun v => v = .bool false), (8, fun v => v = .bool false), (9, fun v => v = .bool false)] M2 (by kernel_rfl) (by kernel_rfl) (by kernel_rfl) (by kernel_rfl) ?_
  refine rs_ex rfl rfl rfl rfl rfl ⟨_, M2⟩ (fun K hK => ?_); refine ⟨_, fun w' hw => run_ld rfl rfl (hw.row 0 rfl) rfl Try.underlying60 frac_size, ?_⟩; go_simp; refine hK _ ?_; clear hK K
  refine rs_ex rfl rfl rfl rfl rfl ⟨_, M2⟩ (fun K hK => ?_); refine ⟨_, fun w' hw => run_ld rfl rfl (hw.row 1 rfl) rfl Try.underlying60 frac_size, ?_⟩; go_simp; refine hK _ ?_; clear hK K
  refine rs_new rfl rfl (fun g => .slice (some ⟨g, 0, none⟩) 2 2) #[.int .u64 h, .int .u64 l, .int .u64 x, .int .u64 H, .int .u64 L, .int .u64 X] 60 (sliceRow 60 #[.int .u64 h, .int .u64 l, .int .u64 x, .int .u64 H, .int .u64 L, .int .u64 X]) (fun _ => rfl) rfl 0 rfl rfl (fun w' => by go_simp) (fun K hK => ?_); intro g9; go_simp; refine hK _ ?_; clear hK K
  refine rs_callF rfl rfl (fun v => v = .bool false) rfl rfl ⟨_, rfl⟩ 0 2 9 rfl rfl rfl (by kernel_rfl) (by simp [Op.operands, Call.operands]) (fun w' => by go_simp) (fun w' hw => (right2 hb _ _ (hw.row 2 rfl)).mono fun e w'' hh => ⟨_, hh.1, rfl, hh.2⟩) (fun K hK => ?_); rintro _ rfl; go_simp; refine hK _ ?_; clear hK K
  refine rs_ex rfl rfl rfl rfl rfl ⟨_, M2⟩ (fun K hK => ?_); apply Exists.intro; refine ⟨fun w' hw => ?_, ?_⟩; (focus (go_simp; try exact rfl)); go_simp; refine hK _ ?_; clear hK K
  refine rs_not rfl rfl (fun K hK => ?_); go_simp; refine hK _ ?_; clear hK K
  refine rs_not rfl rfl (fun K hK => ?_); go_simp; refine hK _ ?_; clear hK K
  refine rs_not rfl rfl (fun K hK => ?_); go_simp; refine hK _ ?_; clear hK K
  refine rs_not rfl rfl (fun K hK => ?_); go_simp; refine hK _ ?_; clear hK K
  refine rs_not rfl rfl (fun K hK => ?_); go_simp; refine hK _ ?_; clear hK K
  refine rs_not rfl rfl (fun K hK => ?_); go_simp; refine hK _ ?_; clear hK K
  refine rs_ex rfl rfl rfl rfl rfl ⟨_, M2⟩ (fun K hK => ?_); apply Exists.intro; refine ⟨fun w' hw => ?_, ?_⟩; (focus (go_simp; try exact rfl)); go_simp; refine hK _ ?_; clear hK K
  refine rs_ex rfl rfl rfl rfl rfl ⟨_, M2⟩ (fun K hK => ?_); apply Exists.intro; refine ⟨fun w' hw => ?_, ?_⟩; (focus (go_simp; try exact rfl)); go_simp; refine hK _ ?_; clear hK K
  refine rs_nil ?_
  intro w3 M
  have M3 : Has w [(g3, #[.int .u64 h, .int .u64 l, .int .u64 x], 60), (g4, #[.int .u64 H, .int .u64 L, .int .u64 X], 60), (g9, #[.int .u64 h, .int .u64 l, .int .u64 x, .int .u64 H, .int .u64 L, .int .u64 X], 60)] w3 := M
  clear M2 M
  refine H2 _ _ ?_
  clear H2 K2
  refine wp_ret ?_
  go_ret
  exact ⟨rfl, M3.below⟩

set_option maxRecDepth 100000 in
set_option maxHeartbeats 1000000 in
theorem fbehind_true (h l x H L X n A B : Nat) (w : World)
    (s : Int)
    (hb : (okF h x && okF H X) = true)
    (HF : Hid (Dt 70 #[fv H L X, .int .u64 n] (fv A B X)))
    (HC : Hid (Dt 42 #[fv h l x, fv A B X] (.int .i64 s)))
    (hs : s < 0)
    : Calls Try.prog 51 #[fv h l x, fv H L X, .int .u64 n] w fun e w' => e = .returned (.bool true) ∧ Below w.heap.size w w' := by
  have M0 := Has.start w
  go_enter Try.func51, Try.ntmps51
  refine wp_seq_k (fun K1 H1 => ?_)
  refine sq_region ?_
  refine sq_alloc rfl M0 (T := 60) (z := #[.int .u64 h, .int .u64 l, .int .u64 x]) (fun w' => by go_simp) (fun K hK => ?_)
  intro g3 w1 M1
  clear M0
  go_simp; refine hK _ _ ?_; clear hK K
  refine sq_alloc rfl M1 (T := 60) (z := #[.int .u64 H, .int .u64 L, .int .u64 X]) (fun w' => by go_simp) (fun K hK => ?_)
  intro g4 w2 M2
  clear M1
  go_simp; refine hK _ _ ?_; clear hK K
  refine sq_ex rfl (fun K hK => ?_); apply Exists.intro; refine ⟨?_, ?_⟩; (focus (go_simp; try exact rfl)); go_simp; refine hK _ _ ?_; clear hK K
  refine sq_nil ?_
  refine H1 _ _ ?_
  clear H1 K1
  refine wp_seq_k (fun K2 H2 => ?_)
  refine wp_region_rows (L := [(g3, #[.int .u64 h, .int .u64 l, .int .u64 x], 60), (g4, #[.int .u64 H, .int .u64 L, .int .u64 X], 60)]) [(2, .fam (sliceRow 60 #[.int .u64 h, .int .u64 l, .int .u64 x, .int .u64 H, .int .u64 L, .int .u64 X]))] [(2, fun v => ∃ g, v = .slice (some ⟨g, 0, none⟩) 2 2), (3, fun v => v = .bool true), (8, fun v => v = fv A B X), (9, fun v => v = .int .i64 s)] M2 (by kernel_rfl) (by kernel_rfl) (by kernel_rfl) (by kernel_rfl) ?_
  refine rs_ex rfl rfl rfl rfl rfl ⟨_, M2⟩ (fun K hK => ?_); refine ⟨_, fun w' hw => run_ld rfl rfl (hw.row 0 rfl) rfl Try.underlying60 frac_size, ?_⟩; go_simp; refine hK _ ?_; clear hK K
  refine rs_ex rfl rfl rfl rfl rfl ⟨_, M2⟩ (fun K hK => ?_); refine ⟨_, fun w' hw => run_ld rfl rfl (hw.row 1 rfl) rfl Try.underlying60 frac_size, ?_⟩; go_simp; refine hK _ ?_; clear hK K
  refine rs_new rfl rfl (fun g => .slice (some ⟨g, 0, none⟩) 2 2) #[.int .u64 h, .int .u64 l, .int .u64 x, .int .u64 H, .int .u64 L, .int .u64 X] 60 (sliceRow 60 #[.int .u64 h, .int .u64 l, .int .u64 x, .int .u64 H, .int .u64 L, .int .u64 X]) (fun _ => rfl) rfl 0 rfl rfl (fun w' => by go_simp) (fun K hK => ?_); intro g9; go_simp; refine hK _ ?_; clear hK K
  refine rs_callF rfl rfl (fun v => v = .bool true) rfl rfl ⟨_, rfl⟩ 0 2 9 rfl rfl rfl (by kernel_rfl) (by simp [Op.operands, Call.operands]) (fun w' => by go_simp) (fun w' hw => (right2 hb _ _ (hw.row 2 rfl)).mono fun e w'' hh => ⟨_, hh.1, rfl, hh.2⟩) (fun K hK => ?_); rintro _ rfl; go_simp; refine hK _ ?_; clear hK K
  refine rs_ex rfl rfl rfl rfl rfl ⟨_, M2⟩ (fun K hK => ?_); apply Exists.intro; refine ⟨fun w' hw => ?_, ?_⟩; (focus (go_simp; try exact rfl)); go_simp; refine hK _ ?_; clear hK K
  refine rs_ex rfl rfl rfl rfl rfl ⟨_, M2⟩ (fun K hK => ?_); refine ⟨_, fun w' hw => run_ld rfl rfl (hw.row 0 rfl) rfl Try.underlying60 frac_size, ?_⟩; go_simp; refine hK _ ?_; clear hK K
  refine rs_ex rfl rfl rfl rfl rfl ⟨_, M2⟩ (fun K hK => ?_); refine ⟨_, fun w' hw => run_ld rfl rfl (hw.row 1 rfl) rfl Try.underlying60 frac_size, ?_⟩; go_simp; refine hK _ ?_; clear hK K
  refine rs_ex rfl rfl rfl rfl rfl ⟨_, M2⟩ (fun K hK => ?_); apply Exists.intro; refine ⟨fun w' hw => ?_, ?_⟩; (focus (go_simp; try exact rfl)); go_simp; refine hK _ ?_; clear hK K
  refine rs_call rfl rfl (fun v => v = fv A B X) rfl rfl ⟨_, rfl⟩ (fun w' => by go_simp) (fun w' hw => (HF.out w').mono fun e w'' hh => ⟨_, hh.1, rfl, hh.2⟩) (fun K hK => ?_); rintro _ rfl; go_simp; refine hK _ ?_; clear hK K
  refine rs_call rfl rfl (fun v => v = .int .i64 s) rfl rfl ⟨_, rfl⟩ (fun w' => by go_simp) (fun w' hw => (HC.out w').mono fun e w'' hh => ⟨_, hh.1, rfl, hh.2⟩) (fun K hK => ?_); rintro _ rfl; go_simp; refine hK _ ?_; clear hK K
  refine rs_ex rfl rfl rfl rfl rfl ⟨_, M2⟩ (fun K hK => ?_); refine ⟨.bool true, fun w' hw => ?_, ?_⟩; (focus (go_simp; try (first | omega | (simp; done) | (simp; omega)))); go_simp; refine hK _ ?_; clear hK K
  refine rs_ex rfl rfl rfl rfl rfl ⟨_, M2⟩ (fun K hK => ?_); apply Exists.intro; refine ⟨fun w' hw => ?_, ?_⟩; (focus (go_simp; try exact rfl)); go_simp; refine hK _ ?_; clear hK K
  refine rs_ex rfl rfl rfl rfl rfl ⟨_, M2⟩ (fun K hK => ?_); apply Exists.intro; refine ⟨fun w' hw => ?_, ?_⟩; (focus (go_simp; try exact rfl)); go_simp; refine hK _ ?_; clear hK K
  refine rs_nil ?_
  intro w3 M
  have M3 : Has w [(g3, #[.int .u64 h, .int .u64 l, .int .u64 x], 60), (g4, #[.int .u64 H, .int .u64 L, .int .u64 X], 60), (g9, #[.int .u64 h, .int .u64 l, .int .u64 x, .int .u64 H, .int .u64 L, .int .u64 X], 60)] w3 := M
  clear M2 M
  refine H2 _ _ ?_
  clear H2 K2
  refine wp_ret ?_
  go_ret
  exact ⟨rfl, M3.below⟩

set_option maxRecDepth 100000 in
set_option maxHeartbeats 1000000 in
theorem fbehind_false (h l x H L X n A B : Nat) (w : World)
    (s : Int)
    (hb : (okF h x && okF H X) = true)
    (HF : Hid (Dt 70 #[fv H L X, .int .u64 n] (fv A B X)))
    (HC : Hid (Dt 42 #[fv h l x, fv A B X] (.int .i64 s)))
    (hs : ¬ s < 0)
    : Calls Try.prog 51 #[fv h l x, fv H L X, .int .u64 n] w fun e w' => e = .returned (.bool false) ∧ Below w.heap.size w w' := by
  have M0 := Has.start w
  go_enter Try.func51, Try.ntmps51
  refine wp_seq_k (fun K1 H1 => ?_)
  refine sq_region ?_
  refine sq_alloc rfl M0 (T := 60) (z := #[.int .u64 h, .int .u64 l, .int .u64 x]) (fun w' => by go_simp) (fun K hK => ?_)
  intro g3 w1 M1
  clear M0
  go_simp; refine hK _ _ ?_; clear hK K
  refine sq_alloc rfl M1 (T := 60) (z := #[.int .u64 H, .int .u64 L, .int .u64 X]) (fun w' => by go_simp) (fun K hK => ?_)
  intro g4 w2 M2
  clear M1
  go_simp; refine hK _ _ ?_; clear hK K
  refine sq_ex rfl (fun K hK => ?_); apply Exists.intro; refine ⟨?_, ?_⟩; (focus (go_simp; try exact rfl)); go_simp; refine hK _ _ ?_; clear hK K
  refine sq_nil ?_
  refine H1 _ _ ?_
  clear H1 K1
  refine wp_seq_k (fun K2 H2 => ?_)
  refine wp_region_rows (L := [(g3, #[.int .u64 h, .int .u64 l, .int .u64 x], 60), (g4, #[.int .u64 H, .int .u64 L, .int .u64 X], 60)]) [(2, .fam (sliceRow 60 #[.int .u64 h, .int .u64 l, .int .u64 x, .int .u64 H, .int .u64 L, .int .u64 X]))] [(2, fun v => ∃ g, v = .slice (some ⟨g, 0, none⟩) 2 2), (3, fun v => v = .bool true), (8, fun v => v = fv A B X), (9, fun v => v = .int .i64 s)] M2 (by kernel_rfl) (by kernel_rfl) (by kernel_rfl) (by kernel_rfl) ?_
  refine rs_ex rfl rfl rfl rfl rfl ⟨_, M2⟩ (fun K hK => ?_); refine ⟨_, fun w' hw => run_ld rfl rfl (hw.row 0 rfl) rfl Try.underlying60 frac_size, ?_⟩; go_simp; refine hK _ ?_; clear hK K
  refine rs_ex rfl rfl rfl rfl rfl ⟨_, M2⟩ (fun K hK => ?_); refine ⟨_, fun w' hw => run_ld rfl rfl (hw.row 1 rfl) rfl Try.underlying60 frac_size, ?_⟩; go_simp; refine hK _ ?_; clear hK K
  refine rs_new rfl rfl (fun g => .slice (some ⟨g, 0, none⟩) 2 2) #[.int .u64 h, .int .u64 l, .int .u64 x, .int .u64 H, .int .u64 L, .int .u64 X] 60 (sliceRow 60 #[.int .u64 h, .int .u64 l, .int .u64 x, .int .u64 H, .int .u64 L, .int .u64 X]) (fun _ => rfl) rfl 0 rfl rfl (fun w' => by go_simp) (fun K hK => ?_); intro g9; go_simp; refine hK _ ?_; clear hK K
  refine rs_callF rfl rfl (fun v => v = .bool true) rfl rfl ⟨_, rfl⟩ 0 2 9 rfl rfl rfl (by kernel_rfl) (by simp [Op.operands, Call.operands]) (fun w' => by go_simp) (fun w' hw => (right2 hb _ _ (hw.row 2 rfl)).mono fun e w'' hh => ⟨_, hh.1, rfl, hh.2⟩) (fun K hK => ?_); rintro _ rfl; go_simp; refine hK _ ?_; clear hK K
  refine rs_ex rfl rfl rfl rfl rfl ⟨_, M2⟩ (fun K hK => ?_); apply Exists.intro; refine ⟨fun w' hw => ?_, ?_⟩; (focus (go_simp; try exact rfl)); go_simp; refine hK _ ?_; clear hK K
  refine rs_ex rfl rfl rfl rfl rfl ⟨_, M2⟩ (fun K hK => ?_); refine ⟨_, fun w' hw => run_ld rfl rfl (hw.row 0 rfl) rfl Try.underlying60 frac_size, ?_⟩; go_simp; refine hK _ ?_; clear hK K
  refine rs_ex rfl rfl rfl rfl rfl ⟨_, M2⟩ (fun K hK => ?_); refine ⟨_, fun w' hw => run_ld rfl rfl (hw.row 1 rfl) rfl Try.underlying60 frac_size, ?_⟩; go_simp; refine hK _ ?_; clear hK K
  refine rs_ex rfl rfl rfl rfl rfl ⟨_, M2⟩ (fun K hK => ?_); apply Exists.intro; refine ⟨fun w' hw => ?_, ?_⟩; (focus (go_simp; try exact rfl)); go_simp; refine hK _ ?_; clear hK K
  refine rs_call rfl rfl (fun v => v = fv A B X) rfl rfl ⟨_, rfl⟩ (fun w' => by go_simp) (fun w' hw => (HF.out w').mono fun e w'' hh => ⟨_, hh.1, rfl, hh.2⟩) (fun K hK => ?_); rintro _ rfl; go_simp; refine hK _ ?_; clear hK K
  refine rs_call rfl rfl (fun v => v = .int .i64 s) rfl rfl ⟨_, rfl⟩ (fun w' => by go_simp) (fun w' hw => (HC.out w').mono fun e w'' hh => ⟨_, hh.1, rfl, hh.2⟩) (fun K hK => ?_); rintro _ rfl; go_simp; refine hK _ ?_; clear hK K
  refine rs_ex rfl rfl rfl rfl rfl ⟨_, M2⟩ (fun K hK => ?_); refine ⟨.bool false, fun w' hw => ?_, ?_⟩; (focus (go_simp; try (first | omega | (simp; done) | (simp; omega)))); go_simp; refine hK _ ?_; clear hK K
  refine rs_ex rfl rfl rfl rfl rfl ⟨_, M2⟩ (fun K hK => ?_); apply Exists.intro; refine ⟨fun w' hw => ?_, ?_⟩; (focus (go_simp; try exact rfl)); go_simp; refine hK _ ?_; clear hK K
  refine rs_ex rfl rfl rfl rfl rfl ⟨_, M2⟩ (fun K hK => ?_); apply Exists.intro; refine ⟨fun w' hw => ?_, ?_⟩; (focus (go_simp; try exact rfl)); go_simp; refine hK _ ?_; clear hK K
  refine rs_nil ?_
  intro w3 M
  have M3 : Has w [(g3, #[.int .u64 h, .int .u64 l, .int .u64 x], 60), (g4, #[.int .u64 H, .int .u64 L, .int .u64 X], 60), (g9, #[.int .u64 h, .int .u64 l, .int .u64 x, .int .u64 H, .int .u64 L, .int .u64 X], 60)] w3 := M
  clear M2 M
  refine H2 _ _ ?_
  clear H2 K2
  refine wp_ret ?_
  go_ret
  exact ⟨rfl, M3.below⟩

set_option maxRecDepth 100000 in
set_option maxHeartbeats 1000000 in
theorem fraise_no (h l x H L X n : Nat) (w : World)
    (hb : (okF h x && okF H X) = false)
    : Calls Try.prog 50 #[fv h l x, fv H L X, .int .u64 n] w fun e w' => e = .returned (.tuple #[.agg #[.int .u64 0, .int .u64 0, .int .u64 0], .int .i64 150]) ∧ Below w.heap.size w w' := by
  have M0 := Has.start w
  go_enter Try.func50, Try.ntmps50
  refine wp_seq_k (fun K1 H1 => ?_)
  refine sq_region ?_
  refine sq_alloc rfl M0 (T := 60) (z := #[.int .u64 h, .int .u64 l, .int .u64 x]) (fun w' => by go_simp) (fun K hK => ?_)
  intro g3 w1 M1
  clear M0
  go_simp; refine hK _ _ ?_; clear hK K
  refine sq_alloc rfl M1 (T := 60) (z := #[.int .u64 H, .int .u64 L, .int .u64 X]) (fun w' => by go_simp) (fun K hK => ?_)
  intro g4 w2 M2
  clear M1
  go_simp; refine hK _ _ ?_; clear hK K
  refine sq_alloc rfl M2 (T := 60) (z := #[.int .u64 0, .int .u64 0, .int .u64 0]) (fun w' => by go_simp) (fun K hK => ?_)
  intro g6 w3 M3
  clear M2
  go_simp; refine hK _ _ ?_; clear hK K
  refine sq_ex rfl (fun K hK => ?_); apply Exists.intro; refine ⟨?_, ?_⟩; (focus (go_simp; try exact rfl)); go_simp; refine hK _ _ ?_; clear hK K
  refine sq_nil ?_
  refine H1 _ _ ?_
  clear H1 K1
  refine wp_seq_k (fun K2 H2 => ?_)
  refine wp_block ?_
  refine wp_seq_k (fun K3 H3 => ?_)
  refine sq_region ?_
  refine sq_ex rfl (fun K hK => ?_); refine ⟨_, run_ld rfl rfl (M3.row 0 rfl) rfl Try.underlying60 frac_size, ?_⟩; go_simp; refine hK _ _ ?_; clear hK K
  refine sq_ex rfl (fun K hK => ?_); refine ⟨_, run_ld rfl rfl (M3.row 1 rfl) rfl Try.underlying60 frac_size, ?_⟩; go_simp; refine hK _ _ ?_; clear hK K
  refine sq_new rfl M3 (fun g => .slice (some ⟨g, 0, none⟩) 2 2) (T := 60) (z := #[.int .u64 h, .int .u64 l, .int .u64 x, .int .u64 H, .int .u64 L, .int .u64 X]) (fun w' => by go_simp) (fun K hK => ?_)
  intro g11 w4 M4
  clear M3
  go_simp; refine hK _ _ ?_; clear hK K
  refine sq_call rfl (fun w' => by go_simp) (right2 hb _ _ (M4.row 3 rfl)) (fun K hK => ?_)
  rintro e w5 ⟨rfl, hb⟩
  refine ⟨_, rfl, ?_⟩
  have M5 := M4.kept hb
  clear M4 hb
  go_simp; refine hK _ _ ?_; clear hK K
  refine sq_ex rfl (fun K hK => ?_); apply Exists.intro; refine ⟨?_, ?_⟩; (focus (go_simp; try exact rfl)); go_simp; refine hK _ _ ?_; clear hK K
  refine sq_ex rfl (fun K hK => ?_); apply Exists.intro; refine ⟨?_, ?_⟩; (focus (go_simp; try exact rfl)); go_simp; refine hK _ _ ?_; clear hK K
  refine sq_nil ?_
  refine H3 _ _ ?_
  clear H3 K3
  refine wp_cond_true rfl ?_
  refine wp_seq_k (fun K4 H4 => ?_)
  refine sq_region ?_
  refine sq_ex rfl (fun K hK => ?_); apply Exists.intro; refine ⟨?_, ?_⟩; (focus (go_simp; try exact rfl)); go_simp; refine hK _ _ ?_; clear hK K
  refine sq_store rfl M5 2 rfl (run_st (cs := #[.int .u64 0, .int .u64 0, .int .u64 0]) rfl rfl rfl frac_size rfl (by simp [Value.oneCell'])) (fun K hK => ?_)
  intro w6 M6
  clear M5
  go_simp; refine hK _ _ ?_; clear hK K
  refine sq_ex rfl (fun K hK => ?_); apply Exists.intro; refine ⟨?_, ?_⟩; (focus (go_simp; try exact rfl)); go_simp; refine hK _ _ ?_; clear hK K
  refine sq_nil ?_
  refine H4 _ _ ?_
  clear H4 K4
  refine wp_ret ?_
  refine block_ret ?_
  refine then_ret ?_
  refine ret_row_tmp Try.results50 rfl _ rfl (M6.row 2 rfl) Try.underlying60 rfl frac_size ⟨rfl, M6.below⟩

set_option maxRecDepth 100000 in
set_option maxHeartbeats 1000000 in
theorem fraise_same (h l x H L X n : Nat) (w : World)
    (hb : (okF h x && okF H X) = true)
    (HB : Hid (Dt 51 #[fv h l x, fv H L X, .int .u64 n] (.bool false)))
    : Calls Try.prog 50 #[fv h l x, fv H L X, .int .u64 n] w fun e w' => e = .returned (.tuple #[fv h l x, .int .i64 0]) ∧ Below w.heap.size w w' := by
  have M0 := Has.start w
  go_enter Try.func50, Try.ntmps50
  refine wp_seq_k (fun K1 H1 => ?_)
  refine sq_region ?_
  refine sq_alloc rfl M0 (T := 60) (z := #[.int .u64 h, .int .u64 l, .int .u64 x]) (fun w' => by go_simp) (fun K hK => ?_)
  intro g3 w1 M1
  clear M0
  go_simp; refine hK _ _ ?_; clear hK K
  refine sq_alloc rfl M1 (T := 60) (z := #[.int .u64 H, .int .u64 L, .int .u64 X]) (fun w' => by go_simp) (fun K hK => ?_)
  intro g4 w2 M2
  clear M1
  go_simp; refine hK _ _ ?_; clear hK K
  refine sq_alloc rfl M2 (T := 60) (z := #[.int .u64 0, .int .u64 0, .int .u64 0]) (fun w' => by go_simp) (fun K hK => ?_)
  intro g6 w3 M3
  clear M2
  go_simp; refine hK _ _ ?_; clear hK K
  refine sq_ex rfl (fun K hK => ?_); apply Exists.intro; refine ⟨?_, ?_⟩; (focus (go_simp; try exact rfl)); go_simp; refine hK _ _ ?_; clear hK K
  refine sq_nil ?_
  refine H1 _ _ ?_
  clear H1 K1
  refine wp_seq_k (fun K2 H2 => ?_)
  refine wp_block ?_
  refine wp_seq_k (fun K3 H3 => ?_)
  refine sq_region ?_
  refine sq_ex rfl (fun K hK => ?_); refine ⟨_, run_ld rfl rfl (M3.row 0 rfl) rfl Try.underlying60 frac_size, ?_⟩; go_simp; refine hK _ _ ?_; clear hK K
  refine sq_ex rfl (fun K hK => ?_); refine ⟨_, run_ld rfl rfl (M3.row 1 rfl) rfl Try.underlying60 frac_size, ?_⟩; go_simp; refine hK _ _ ?_; clear hK K
  refine sq_new rfl M3 (fun g => .slice (some ⟨g, 0, none⟩) 2 2) (T := 60) (z := #[.int .u64 h, .int .u64 l, .int .u64 x, .int .u64 H, .int .u64 L, .int .u64 X]) (fun w' => by go_simp) (fun K hK => ?_)
  intro g11 w4 M4
  clear M3
  go_simp; refine hK _ _ ?_; clear hK K
  refine sq_call rfl (fun w' => by go_simp) (right2 hb _ _ (M4.row 3 rfl)) (fun K hK => ?_)
  rintro e w5 ⟨rfl, hb⟩
  refine ⟨_, rfl, ?_⟩
  have M5 := M4.kept hb
  clear M4 hb
  go_simp; refine hK _ _ ?_; clear hK K
  refine sq_ex rfl (fun K hK => ?_); apply Exists.intro; refine ⟨?_, ?_⟩; (focus (go_simp; try exact rfl)); go_simp; refine hK _ _ ?_; clear hK K
  refine sq_ex rfl (fun K hK => ?_); apply Exists.intro; refine ⟨?_, ?_⟩; (focus (go_simp; try exact rfl)); go_simp; refine hK _ _ ?_; clear hK K
  refine sq_nil ?_
  refine H3 _ _ ?_
  clear H3 K3
  refine wp_cond_false rfl ?_
  refine wp_seq_k (fun K4 H4 => ?_)
  refine sq_region ?_
  refine sq_ex rfl (fun K hK => ?_); refine ⟨_, run_ld rfl rfl (M5.row 0 rfl) rfl Try.underlying60 frac_size, ?_⟩; go_simp; refine hK _ _ ?_; clear hK K
  refine sq_ex rfl (fun K hK => ?_); refine ⟨_, run_ld rfl rfl (M5.row 1 rfl) rfl Try.underlying60 frac_size, ?_⟩; go_simp; refine hK _ _ ?_; clear hK K
  refine sq_ex rfl (fun K hK => ?_); apply Exists.intro; refine ⟨?_, ?_⟩; (focus (go_simp; try exact rfl)); go_simp; refine hK _ _ ?_; clear hK K
  refine sq_call rfl (fun w' => by go_simp) (HB.out _) (fun K hK => ?_)
  rintro e w6 ⟨rfl, hb⟩
  refine ⟨_, rfl, ?_⟩
  have M6 := M5.kept hb
  clear M5 hb
  go_simp; refine hK _ _ ?_; clear hK K
  refine sq_ex rfl (fun K hK => ?_); apply Exists.intro; refine ⟨?_, ?_⟩; (focus (go_simp; try exact rfl)); go_simp; refine hK _ _ ?_; clear hK K
  refine sq_ex rfl (fun K hK => ?_); apply Exists.intro; refine ⟨?_, ?_⟩; (focus (go_simp; try exact rfl)); go_simp; refine hK _ _ ?_; clear hK K
  refine sq_nil ?_
  refine H4 _ _ ?_
  clear H4 K4
  refine wp_cond_true rfl ?_
  refine wp_seq_k (fun K5 H5 => ?_)
  refine sq_region ?_
  refine sq_ex rfl (fun K hK => ?_); refine ⟨_, run_ld rfl rfl (M6.row 0 rfl) rfl Try.underlying60 frac_size, ?_⟩; go_simp; refine hK _ _ ?_; clear hK K
  refine sq_store rfl M6 2 rfl (run_st (cs := #[.int .u64 h, .int .u64 l, .int .u64 x]) rfl rfl rfl frac_size rfl (by simp [Value.oneCell'])) (fun K hK => ?_)
  intro w7 M7
  clear M6
  go_simp; refine hK _ _ ?_; clear hK K
  refine sq_ex rfl (fun K hK => ?_); apply Exists.intro; refine ⟨?_, ?_⟩; (focus (go_simp; try exact rfl)); go_simp; refine hK _ _ ?_; clear hK K
  refine sq_nil ?_
  refine H5 _ _ ?_
  clear H5 K5
  refine wp_ret ?_
  refine block_ret ?_
  refine then_ret ?_
  refine ret_row_tmp Try.results50 rfl _ rfl (M7.row 2 rfl) Try.underlying60 rfl frac_size ⟨rfl, M7.below⟩

set_option maxRecDepth 100000 in
set_option maxHeartbeats 1000000 in
theorem fraise_up (h l x H L X n A B P Q R q : Nat) (w : World)
    (hb : (okF h x && okF H X) = true)
    (HB : Hid (Dt 51 #[fv h l x, fv H L X, .int .u64 n] (.bool true)))
    (HF : Hid (Dt 70 #[fv H L X, .int .u64 n] (fv A B X)))
    (HO : Hid (Dt 44 #[fv A B X, .int .u64 x] (.tuple #[fv P Q R, .int .i64 q])))
    : Calls Try.prog 50 #[fv h l x, fv H L X, .int .u64 n] w fun e w' => e = .returned (.tuple #[fv P Q R, .int .i64 q]) ∧ Below w.heap.size w w' := by
  have M0 := Has.start w
  go_enter Try.func50, Try.ntmps50
  refine wp_seq_k (fun K1 H1 => ?_)
  refine sq_region ?_
  refine sq_alloc rfl M0 (T := 60) (z := #[.int .u64 h, .int .u64 l, .int .u64 x]) (fun w' => by go_simp) (fun K hK => ?_)
  intro g3 w1 M1
  clear M0
  go_simp; refine hK _ _ ?_; clear hK K
  refine sq_alloc rfl M1 (T := 60) (z := #[.int .u64 H, .int .u64 L, .int .u64 X]) (fun w' => by go_simp) (fun K hK => ?_)
  intro g4 w2 M2
  clear M1
  go_simp; refine hK _ _ ?_; clear hK K
  refine sq_alloc rfl M2 (T := 60) (z := #[.int .u64 0, .int .u64 0, .int .u64 0]) (fun w' => by go_simp) (fun K hK => ?_)
  intro g6 w3 M3
  clear M2
  go_simp; refine hK _ _ ?_; clear hK K
  refine sq_ex rfl (fun K hK => ?_); apply Exists.intro; refine ⟨?_, ?_⟩; (focus (go_simp; try exact rfl)); go_simp; refine hK _ _ ?_; clear hK K
  refine sq_nil ?_
  refine H1 _ _ ?_
  clear H1 K1
  refine wp_seq_k (fun K2 H2 => ?_)
  refine wp_block ?_
  refine wp_seq_k (fun K3 H3 => ?_)
  refine sq_region ?_
  refine sq_ex rfl (fun K hK => ?_); refine ⟨_, run_ld rfl rfl (M3.row 0 rfl) rfl Try.underlying60 frac_size, ?_⟩; go_simp; refine hK _ _ ?_; clear hK K
  refine sq_ex rfl (fun K hK => ?_); refine ⟨_, run_ld rfl rfl (M3.row 1 rfl) rfl Try.underlying60 frac_size, ?_⟩; go_simp; refine hK _ _ ?_; clear hK K
  refine sq_new rfl M3 (fun g => .slice (some ⟨g, 0, none⟩) 2 2) (T := 60) (z := #[.int .u64 h, .int .u64 l, .int .u64 x, .int .u64 H, .int .u64 L, .int .u64 X]) (fun w' => by go_simp) (fun K hK => ?_)
  intro g11 w4 M4
  clear M3
  go_simp; refine hK _ _ ?_; clear hK K
  refine sq_call rfl (fun w' => by go_simp) (right2 hb _ _ (M4.row 3 rfl)) (fun K hK => ?_)
  rintro e w5 ⟨rfl, hb⟩
  refine ⟨_, rfl, ?_⟩
  have M5 := M4.kept hb
  clear M4 hb
  go_simp; refine hK _ _ ?_; clear hK K
  refine sq_ex rfl (fun K hK => ?_); apply Exists.intro; refine ⟨?_, ?_⟩; (focus (go_simp; try exact rfl)); go_simp; refine hK _ _ ?_; clear hK K
  refine sq_ex rfl (fun K hK => ?_); apply Exists.intro; refine ⟨?_, ?_⟩; (focus (go_simp; try exact rfl)); go_simp; refine hK _ _ ?_; clear hK K
  refine sq_nil ?_
  refine H3 _ _ ?_
  clear H3 K3
  refine wp_cond_false rfl ?_
  refine wp_seq_k (fun K4 H4 => ?_)
  refine sq_region ?_
  refine sq_ex rfl (fun K hK => ?_); refine ⟨_, run_ld rfl rfl (M5.row 0 rfl) rfl Try.underlying60 frac_size, ?_⟩; go_simp; refine hK _ _ ?_; clear hK K
  refine sq_ex rfl (fun K hK => ?_); refine ⟨_, run_ld rfl rfl (M5.row 1 rfl) rfl Try.underlying60 frac_size, ?_⟩; go_simp; refine hK _ _ ?_; clear hK K
  refine sq_ex rfl (fun K hK => ?_); apply Exists.intro; refine ⟨?_, ?_⟩; (focus (go_simp; try exact rfl)); go_simp; refine hK _ _ ?_; clear hK K
  refine sq_call rfl (fun w' => by go_simp) (HB.out _) (fun K hK => ?_)
  rintro e w6 ⟨rfl, hb⟩
  refine ⟨_, rfl, ?_⟩
  have M6 := M5.kept hb
  clear M5 hb
  go_simp; refine hK _ _ ?_; clear hK K
  refine sq_ex rfl (fun K hK => ?_); apply Exists.intro; refine ⟨?_, ?_⟩; (focus (go_simp; try exact rfl)); go_simp; refine hK _ _ ?_; clear hK K
  refine sq_ex rfl (fun K hK => ?_); apply Exists.intro; refine ⟨?_, ?_⟩; (focus (go_simp; try exact rfl)); go_simp; refine hK _ _ ?_; clear hK K
  refine sq_nil ?_
  refine H4 _ _ ?_
  clear H4 K4
  refine wp_cond_false rfl ?_
  refine wp_skip ?_
  refine H2 _ _ ?_
  clear H2 K2
  refine wp_seq_k (fun K5 H5 => ?_)
  refine wp_region_rows (L := [(g3, #[.int .u64 h, .int .u64 l, .int .u64 x], 60), (g4, #[.int .u64 H, .int .u64 L, .int .u64 X], 60), (g11, #[.int .u64 h, .int .u64 l, .int .u64 x, .int .u64 H, .int .u64 L, .int .u64 X], 60)]) [(8, .own g6 #[.int .u64 0, .int .u64 0, .int .u64 0] 60)] [(2, fun v => v = fv A B X), (5, fun v => v = .tuple #[fv P Q R, .int .i64 q])] (M6.move 2 rfl) (by kernel_rfl) (by kernel_rfl) (by kernel_rfl) (by kernel_rfl) ?_
  have MB := (M6.move 2 rfl).sub (List.sublist_append_left _ _)
  refine rs_ex rfl rfl rfl rfl rfl ⟨_, MB⟩ (fun K hK => ?_); refine ⟨_, fun w' hw => run_ld rfl rfl (hw.row 1 rfl) rfl Try.underlying60 frac_size, ?_⟩; go_simp; refine hK _ ?_; clear hK K
  refine rs_ex rfl rfl rfl rfl rfl ⟨_, MB⟩ (fun K hK => ?_); apply Exists.intro; refine ⟨fun w' hw => ?_, ?_⟩; (focus (go_simp; try exact rfl)); go_simp; refine hK _ ?_; clear hK K
  refine rs_call rfl rfl (fun v => v = fv A B X) rfl rfl ⟨_, rfl⟩ (fun w' => by go_simp) (fun w' hw => (HF.out w').mono fun e w'' hh => ⟨_, hh.1, rfl, hh.2⟩) (fun K hK => ?_); rintro _ rfl; go_simp; refine hK _ ?_; clear hK K
  refine rs_ex rfl rfl rfl rfl rfl ⟨_, MB⟩ (fun K hK => ?_); apply Exists.intro; refine ⟨fun w' hw => ?_, ?_⟩; (focus (go_simp; try exact rfl)); go_simp; refine hK _ ?_; clear hK K
  refine rs_ex rfl rfl rfl rfl rfl ⟨_, MB⟩ (fun K hK => ?_); apply Exists.intro; refine ⟨fun w' hw => ?_, ?_⟩; (focus (have c := IsR.cell (hw.row 0 rfl); have f := IsR.froz (hw.row 0 rfl); go_simp; try exact rfl)); go_simp; refine hK _ ?_; clear hK K
  refine rs_call rfl rfl (fun v => v = .tuple #[fv P Q R, .int .i64 q]) rfl rfl ⟨_, rfl⟩ (fun w' => by go_simp) (fun w' hw => (HO.out w').mono fun e w'' hh => ⟨_, hh.1, rfl, hh.2⟩) (fun K hK => ?_); rintro _ rfl; go_simp; refine hK _ ?_; clear hK K
  refine rs_ex rfl rfl rfl rfl rfl ⟨_, MB⟩ (fun K hK => ?_); apply Exists.intro; refine ⟨fun w' hw => ?_, ?_⟩; (focus (go_simp; try exact rfl)); go_simp; refine hK _ ?_; clear hK K
  refine rs_ex rfl rfl rfl rfl rfl ⟨_, MB⟩ (fun K hK => ?_); apply Exists.intro; refine ⟨fun w' hw => ?_, ?_⟩; (focus (go_simp; try exact rfl)); go_simp; refine hK _ ?_; clear hK K
  refine rs_own_st rfl rfl rfl rfl ⟨_, MB⟩ rfl 0 rfl rfl rfl (run_st (cs := #[.int .u64 P, .int .u64 Q, .int .u64 R]) rfl rfl rfl frac_size rfl (by simp [Value.oneCell'])) (fun K hK => ?_); go_simp; refine hK _ ?_; clear hK K
  refine rs_ex rfl rfl rfl rfl rfl ⟨_, MB⟩ (fun K hK => ?_); apply Exists.intro; refine ⟨fun w' hw => ?_, ?_⟩; (focus (go_simp; try exact rfl)); go_simp; refine hK _ ?_; clear hK K
  refine rs_nil ?_
  intro w7 M
  have M7 : Has w [(g3, #[.int .u64 h, .int .u64 l, .int .u64 x], 60), (g4, #[.int .u64 H, .int .u64 L, .int .u64 X], 60), (g11, #[.int .u64 h, .int .u64 l, .int .u64 x, .int .u64 H, .int .u64 L, .int .u64 X], 60), (g6, #[.int .u64 P, .int .u64 Q, .int .u64 R], 60)] w7 := M
  clear M6 M MB
  refine H5 _ _ ?_
  clear H5 K5
  refine wp_ret ?_
  refine ret_row_tmp Try.results50 rfl _ rfl (M7.row 3 rfl) Try.underlying60 rfl frac_size ⟨rfl, M7.below⟩

set_option maxRecDepth 100000 in
set_option maxHeartbeats 1000000 in
theorem rright_yes (h l x : Nat) (w : World)
    (HW : Hid (Dt 41 #[.int .u64 x] (.bool true)))
    (hh : h < 68719476736)
    : Calls Try.prog 37 #[fv h l x] w fun e w' => e = .returned (.bool true) ∧ Below w.heap.size w w' := by
  have M0 := Has.start w
  go_enter Try.func37, Try.ntmps37
  refine wp_seq_k (fun K1 H1 => ?_)
  refine sq_region ?_
  refine sq_alloc rfl M0 (T := 60) (z := #[.int .u64 h, .int .u64 l, .int .u64 x]) (fun w' => by go_simp) (fun K hK => ?_)
  intro g1 w1 M1
  clear M0
  go_simp; refine hK _ _ ?_; clear hK K
  refine sq_ex rfl (fun K hK => ?_); apply Exists.intro; refine ⟨?_, ?_⟩; (focus (go_simp; try exact rfl)); go_simp; refine hK _ _ ?_; clear hK K
  refine sq_nil ?_
  refine H1 _ _ ?_
  clear H1 K1
  refine wp_seq_k (fun K2 H2 => ?_)
  refine sq_region ?_
  refine sq_ex rfl (fun K hK => ?_); apply Exists.intro; refine ⟨?_, ?_⟩; (focus (go_simp; try exact rfl)); go_simp; refine hK _ _ ?_; clear hK K
  refine sq_ex rfl (fun K hK => ?_); apply Exists.intro; refine ⟨?_, ?_⟩; (focus (have c := IsR.cell (M1.row 0 rfl); have f := IsR.froz (M1.row 0 rfl); go_simp; try exact rfl)); go_simp; refine hK _ _ ?_; clear hK K
  refine sq_call rfl (fun w' => by go_simp) (HW.out _) (fun K hK => ?_)
  rintro e w2 ⟨rfl, hb⟩
  refine ⟨_, rfl, ?_⟩
  have M2 := M1.kept hb
  clear M1 hb
  go_simp; refine hK _ _ ?_; clear hK K
  refine sq_ex rfl (fun K hK => ?_); apply Exists.intro; refine ⟨?_, ?_⟩; (focus (go_simp; try exact rfl)); go_simp; refine hK _ _ ?_; clear hK K
  refine sq_ex rfl (fun K hK => ?_); apply Exists.intro; refine ⟨?_, ?_⟩; (focus (go_simp; try exact rfl)); go_simp; refine hK _ _ ?_; clear hK K
  refine sq_ex rfl (fun K hK => ?_); apply Exists.intro; refine ⟨?_, ?_⟩; (focus (go_simp; try exact rfl)); go_simp; refine hK _ _ ?_; clear hK K
  refine sq_ex rfl (fun K hK => ?_); apply Exists.intro; refine ⟨?_, ?_⟩; (focus (have c := IsR.cell (M2.row 0 rfl); have f := IsR.froz (M2.row 0 rfl); go_simp; try exact rfl)); go_simp; refine hK _ _ ?_; clear hK K
  refine sq_ex rfl (fun K hK => ?_); refine ⟨.bool true, ?_, ?_⟩; (focus (go_simp; try (first | omega | (simp; done) | (simp; omega)))); go_simp; refine hK _ _ ?_; clear hK K
  refine sq_ex rfl (fun K hK => ?_); apply Exists.intro; refine ⟨?_, ?_⟩; (focus (go_simp; try exact rfl)); go_simp; refine hK _ _ ?_; clear hK K
  refine sq_ex rfl (fun K hK => ?_); apply Exists.intro; refine ⟨?_, ?_⟩; (focus (go_simp; try exact rfl)); go_simp; refine hK _ _ ?_; clear hK K
  refine sq_nil ?_
  refine H2 _ _ ?_
  clear H2 K2
  refine wp_ret ?_
  go_ret
  exact ⟨rfl, M2.below⟩

set_option maxRecDepth 100000 in
set_option maxHeartbeats 1000000 in
theorem rright_big (h l x : Nat) (w : World)
    (HW : Hid (Dt 41 #[.int .u64 x] (.bool true)))
    (hh : 68719476736 ≤ h)
    : Calls Try.prog 37 #[fv h l x] w fun e w' => e = .returned (.bool false) ∧ Below w.heap.size w w' := by
  have M0 := Has.start w
  go_enter Try.func37, Try.ntmps37
  refine wp_seq_k (fun K1 H1 => ?_)
  refine sq_region ?_
  refine sq_alloc rfl M0 (T := 60) (z := #[.int .u64 h, .int .u64 l, .int .u64 x]) (fun w' => by go_simp) (fun K hK => ?_)
  intro g1 w1 M1
  clear M0
  go_simp; refine hK _ _ ?_; clear hK K
  refine sq_ex rfl (fun K hK => ?_); apply Exists.intro; refine ⟨?_, ?_⟩; (focus (go_simp; try exact rfl)); go_simp; refine hK _ _ ?_; clear hK K
  refine sq_nil ?_
  refine H1 _ _ ?_
  clear H1 K1
  refine wp_seq_k (fun K2 H2 => ?_)
  refine sq_region ?_
  refine sq_ex rfl (fun K hK => ?_); apply Exists.intro; refine ⟨?_, ?_⟩; (focus (go_simp; try exact rfl)); go_simp; refine hK _ _ ?_; clear hK K
  refine sq_ex rfl (fun K hK => ?_); apply Exists.intro; refine ⟨?_, ?_⟩; (focus (have c := IsR.cell (M1.row 0 rfl); have f := IsR.froz (M1.row 0 rfl); go_simp; try exact rfl)); go_simp; refine hK _ _ ?_; clear hK K
  refine sq_call rfl (fun w' => by go_simp) (HW.out _) (fun K hK => ?_)
  rintro e w2 ⟨rfl, hb⟩
  refine ⟨_, rfl, ?_⟩
  have M2 := M1.kept hb
  clear M1 hb
  go_simp; refine hK _ _ ?_; clear hK K
  refine sq_ex rfl (fun K hK => ?_); apply Exists.intro; refine ⟨?_, ?_⟩; (focus (go_simp; try exact rfl)); go_simp; refine hK _ _ ?_; clear hK K
  refine sq_ex rfl (fun K hK => ?_); apply Exists.intro; refine ⟨?_, ?_⟩; (focus (go_simp; try exact rfl)); go_simp; refine hK _ _ ?_; clear hK K
  refine sq_ex rfl (fun K hK => ?_); apply Exists.intro; refine ⟨?_, ?_⟩; (focus (go_simp; try exact rfl)); go_simp; refine hK _ _ ?_; clear hK K
  refine sq_ex rfl (fun K hK => ?_); apply Exists.intro; refine ⟨?_, ?_⟩; (focus (have c := IsR.cell (M2.row 0 rfl); have f := IsR.froz (M2.row 0 rfl); go_simp; try exact rfl)); go_simp; refine hK _ _ ?_; clear hK K
  refine sq_ex rfl (fun K hK => ?_); refine ⟨.bool false, ?_, ?_⟩; (focus (go_simp; try (first | omega | (simp; done) | (simp; omega)))); go_simp; refine hK _ _ ?_; clear hK K
  refine sq_ex rfl (fun K hK => ?_); apply Exists.intro; refine ⟨?_, ?_⟩; (focus (go_simp; try exact rfl)); go_simp; refine hK _ _ ?_; clear hK K
  refine sq_ex rfl (fun K hK => ?_); apply Exists.intro; refine ⟨?_, ?_⟩; (focus (go_simp; try exact rfl)); go_simp; refine hK _ _ ?_; clear hK K
  refine sq_nil ?_
  refine H2 _ _ ?_
  clear H2 K2
  refine wp_ret ?_
  go_ret
  exact ⟨rfl, M2.below⟩

set_option maxRecDepth 100000 in
set_option maxHeartbeats 1000000 in
theorem rright_no (h l x : Nat) (w : World)
    (HW : Hid (Dt 41 #[.int .u64 x] (.bool false)))
    : Calls Try.prog 37 #[fv h l x] w fun e w' => e = .returned (.bool false) ∧ Below w.heap.size w w' := by
  have M0 := Has.start w
  go_enter Try.func37, Try.ntmps37
  refine wp_seq_k (fun K1 H1 => ?_)
  refine sq_region ?_
  refine sq_alloc rfl M0 (T := 60) (z := #[.int .u64 h, .int .u64 l, .int .u64 x]) (fun w' => by go_simp) (fun K hK => ?_)
  intro g1 w1 M1
  clear M0
  go_simp; refine hK _ _ ?_; clear hK K
  refine sq_ex rfl (fun K hK => ?_); apply Exists.intro; refine ⟨?_, ?_⟩; (focus (go_simp; try exact rfl)); go_simp; refine hK _ _ ?_; clear hK K
  refine sq_nil ?_
  refine H1 _ _ ?_
  clear H1 K1
  refine wp_seq_k (fun K2 H2 => ?_)
  refine sq_region ?_
  refine sq_ex rfl (fun K hK => ?_); apply Exists.intro; refine ⟨?_, ?_⟩; (focus (go_simp; try exact rfl)); go_simp; refine hK _ _ ?_; clear hK K
  refine sq_ex rfl (fun K hK => ?_); apply Exists.intro; refine ⟨?_, ?_⟩; (focus (have c := IsR.cell (M1.row 0 rfl); have f := IsR.froz (M1.row 0 rfl); go_simp; try exact rfl)); go_simp; refine hK _ _ ?_; clear hK K
  refine sq_call rfl (fun w' => by go_simp) (HW.out _) (fun K hK => ?_)
  rintro e w2 ⟨rfl, hb⟩
  refine ⟨_, rfl, ?_⟩
  have M2 := M1.kept hb
  clear M1 hb
  go_simp; refine hK _ _ ?_; clear hK K
  refine sq_ex rfl (fun K hK => ?_); apply Exists.intro; refine ⟨?_, ?_⟩; (focus (go_simp; try exact rfl)); go_simp; refine hK _ _ ?_; clear hK K
  refine sq_not rfl (fun K hK => ?_); go_simp; refine hK _ _ ?_; clear hK K
  refine sq_not rfl (fun K hK => ?_); go_simp; refine hK _ _ ?_; clear hK K
  refine sq_not rfl (fun K hK => ?_); go_simp; refine hK _ _ ?_; clear hK K
  refine sq_not rfl (fun K hK => ?_); go_simp; refine hK _ _ ?_; clear hK K
  refine sq_ex rfl (fun K hK => ?_); apply Exists.intro; refine ⟨?_, ?_⟩; (focus (go_simp; try exact rfl)); go_simp; refine hK _ _ ?_; clear hK K
  refine sq_ex rfl (fun K hK => ?_); apply Exists.intro; refine ⟨?_, ?_⟩; (focus (go_simp; try exact rfl)); go_simp; refine hK _ _ ?_; clear hK K
  refine sq_nil ?_
  refine H2 _ _ ?_
  clear H2 K2
  refine wp_ret ?_
  go_ret
  exact ⟨rfl, M2.below⟩

set_option maxRecDepth 100000 in
set_option maxHeartbeats 1000000 in
theorem rbits_w (n : Nat) (w : World)
    (HO : Hid (Dt 19 #[.agg #[.int .u64 0, .int .u64 n]] (.agg (bA n))))
    : Calls Try.prog 69 #[.int .u64 n] w fun e w' => e = .returned (.agg (bA n)) ∧ Below w.heap.size w w' := by
  have M0 := Has.start w
  go_enter Try.func69, Try.ntmps69
  refine wp_seq_k (fun K1 H1 => ?_)
  refine sq_region ?_
  refine sq_alloc rfl M0 (T := 32) (z := (bA 0)) (fun w' => by have hz := bits_zero w'; go_simp) (fun K hK => ?_)
  intro g2 w1 M1
  clear M0
  go_simp; refine hK _ _ ?_; clear hK K
  refine sq_nil ?_
  refine H1 _ _ ?_
  clear H1 K1
  refine wp_seq_k (fun K2 H2 => ?_)
  refine sq_region ?_
  refine sq_ex rfl (fun K hK => ?_); apply Exists.intro; refine ⟨?_, ?_⟩; (focus (go_simp; try exact rfl)); go_simp; refine hK _ _ ?_; clear hK K
  refine sq_ex rfl (fun K hK => ?_); apply Exists.intro; refine ⟨?_, ?_⟩; (focus (go_simp; try exact rfl)); go_simp; refine hK _ _ ?_; clear hK K
  refine sq_call rfl (fun w' => by go_simp) (HO.out _) (fun K hK => ?_)
  rintro e w2 ⟨rfl, hb⟩
  refine ⟨_, rfl, ?_⟩
  have M2 := M1.kept hb
  clear M1 hb
  go_simp; refine hK _ _ ?_; clear hK K
  refine sq_store rfl M2 0 rfl (run_st (cs := (bA n)) rfl rfl rfl (bits_size _) (by rw [bA_size, bA_size]) (bA_oneCell _)) (fun K hK => ?_)
  intro w3 M3
  clear M2
  go_simp; refine hK _ _ ?_; clear hK K
  refine sq_nil ?_
  refine H2 _ _ ?_
  clear H2 K2
  refine wp_ret ?_
  refine ret_row Try.results69 rfl (M3.row 0 rfl) Try.underlying32 rfl (bits_size _) ⟨rfl, M3.below⟩

set_option maxRecDepth 100000 in
set_option maxHeartbeats 1000000 in
theorem rcmp_lt (h l x H L X n m p q : Nat) (w : World)
    (HO1 : Hid (Dt 19 #[wv h l] (.agg (bA n))))
    (HP1 : Hid (Dt 25 #[.agg (bA n), .int .u64 X] (.agg (bA p))))
    (HO2 : Hid (Dt 19 #[wv H L] (.agg (bA m))))
    (HP2 : Hid (Dt 25 #[.agg (bA m), .int .u64 x] (.agg (bA q))))
    (HL1 : Hid (Dt 26 #[.agg (bA p), .agg (bA q)] (.bool true)))
    (HL2 : Hid (Dt 26 #[.agg (bA q), .agg (bA p)] (.bool false)))
    : Calls Try.prog 38 #[fv h l x, fv H L X] w fun e w' => e = .returned (.int .i64 (-1)) ∧ Below w.heap.size w w' := by
  have M0 := Has.start w
  go_enter Try.func38, Try.ntmps38
  refine wp_seq_k (fun K1 H1 => ?_)
  refine sq_region ?_
  refine sq_alloc rfl M0 (T := 60) (z := #[.int .u64 h, .int .u64 l, .int .u64 x]) (fun w' => by go_simp) (fun K hK => ?_)
  intro g2 w1 M1
  clear M0
  go_simp; refine hK _ _ ?_; clear hK K
  refine sq_alloc rfl M1 (T := 60) (z := #[.int .u64 H, .int .u64 L, .int .u64 X]) (fun w' => by go_simp) (fun K hK => ?_)
  intro g3 w2 M2
  clear M1
  go_simp; refine hK _ _ ?_; clear hK K
  refine sq_ex rfl (fun K hK => ?_); apply Exists.intro; refine ⟨?_, ?_⟩; (focus (go_simp; try exact rfl)); go_simp; refine hK _ _ ?_; clear hK K
  refine sq_nil ?_
  refine H1 _ _ ?_
  clear H1 K1
  refine wp_seq_k (fun K2 H2 => ?_)
  refine wp_region_rows (L := [(g2, #[.int .u64 h, .int .u64 l, .int .u64 x], 60), (g3, #[.int .u64 H, .int .u64 L, .int .u64 X], 60)]) [(6, .box 32 (bA 0) 7)] [(2, fun v => v = .agg (bA n)), (5, fun v => v = .agg (bA p)), (6, fun v => ∃ g, v = .pointer (some ⟨g, 0, none⟩))] M2 (by kernel_rfl) (by kernel_rfl) (by kernel_rfl) (by kernel_rfl) ?_
  refine rs_ex rfl rfl rfl rfl rfl ⟨_, M2⟩ (fun K hK => ?_); apply Exists.intro; refine ⟨fun w' hw => ?_, ?_⟩; (focus (go_simp; try exact rfl)); go_simp; refine hK _ ?_; clear hK K
  refine rs_ex rfl rfl rfl rfl rfl ⟨_, M2⟩ (fun K hK => ?_); refine ⟨_, fun w' hw => run_ldm [.int .u64 h, .int .u64 l] rfl rfl (hw.row 0 rfl) (fun j v h => by match j with | 0 => simpa using h | 1 => simpa using h | (k + 2) => simp at h) rfl Try.underlying24 wide_size, ?_⟩; go_simp; refine hK _ ?_; clear hK K
  refine rs_call rfl rfl (fun v => v = .agg (bA n)) rfl rfl ⟨_, rfl⟩ (fun w' => by go_simp) (fun w' hw => (HO1.out w').mono fun e w'' hh => ⟨_, hh.1, rfl, hh.2⟩) (fun K hK => ?_); rintro _ rfl; go_simp; refine hK _ ?_; clear hK K
  refine rs_ex rfl rfl rfl rfl rfl ⟨_, M2⟩ (fun K hK => ?_); apply Exists.intro; refine ⟨fun w' hw => ?_, ?_⟩; (focus (go_simp; try exact rfl)); go_simp; refine hK _ ?_; clear hK K
  refine rs_ex rfl rfl rfl rfl rfl ⟨_, M2⟩ (fun K hK => ?_); apply Exists.intro; refine ⟨fun w' hw => ?_, ?_⟩; (focus (have c := IsR.cell (hw.row 1 rfl); have f := IsR.froz (hw.row 1 rfl); go_simp; try exact rfl)); go_simp; refine hK _ ?_; clear hK K
  refine rs_call rfl rfl (fun v => v = .agg (bA p)) rfl rfl ⟨_, rfl⟩ (fun w' => by go_simp) (fun w' hw => (HP1.out w').mono fun e w'' hh => ⟨_, hh.1, rfl, hh.2⟩) (fun K hK => ?_); rintro _ rfl; go_simp; refine hK _ ?_; clear hK K
  refine rs_alloc rfl rfl rfl 0 rfl rfl rfl (by decide) (by kernel_rfl) (fun w' => by have hz := bits_zero w'; go_simp) (fun K hK => ?_); intro g5; go_simp; refine hK _ ?_; clear hK K
  refine rs_store rfl rfl rfl rfl ⟨_, M2⟩ rfl 0 rfl rfl (by decide) rfl rfl (by kernel_rfl) rfl rfl (run_st (cs := (bA p)) rfl rfl rfl (bits_size _) (by rw [bA_size, bA_size]) (bA_oneCell _)) (fun K hK => ?_); go_simp; refine hK _ ?_; clear hK K
  refine rs_nil ?_
  intro w3 M
  have M3 : Has w [(g2, #[.int .u64 h, .int .u64 l, .int .u64 x], 60), (g3, #[.int .u64 H, .int .u64 L, .int .u64 X], 60), (g5, (bA p), 32)] w3 := M
  clear M2 M
  refine H2 _ _ ?_
  clear H2 K2
  refine wp_seq_k (fun K3 H3 => ?_)
  refine wp_region_rows (L := [(g2, #[.int .u64 h, .int .u64 l, .int .u64 x], 60), (g3, #[.int .u64 H, .int .u64 L, .int .u64 X], 60), (g5, (bA p), 32)]) [(6, .box 32 (bA 0) 7)] [(2, fun v => v = .agg (bA m)), (5, fun v => v = .agg (bA q)), (6, fun v => ∃ g, v = .pointer (some ⟨g, 0, none⟩))] M3 (by kernel_rfl) (by kernel_rfl) (by kernel_rfl) (by kernel_rfl) ?_
  refine rs_ex rfl rfl rfl rfl rfl ⟨_, M3⟩ (fun K hK => ?_); apply Exists.intro; refine ⟨fun w' hw => ?_, ?_⟩; (focus (go_simp; try exact rfl)); go_simp; refine hK _ ?_; clear hK K
  refine rs_ex rfl rfl rfl rfl rfl ⟨_, M3⟩ (fun K hK => ?_); refine ⟨_, fun w' hw => run_ldm [.int .u64 H, .int .u64 L] rfl rfl (hw.row 1 rfl) (fun j v h => by match j with | 0 => simpa using h | 1 => simpa using h | (k + 2) => simp at h) rfl Try.underlying24 wide_size, ?_⟩; go_simp; refine hK _ ?_; clear hK K
  refine rs_call rfl rfl (fun v => v = .agg (bA m)) rfl rfl ⟨_, rfl⟩ (fun w' => by go_simp) (fun w' hw => (HO2.out w').mono fun e w'' hh => ⟨_, hh.1, rfl, hh.2⟩) (fun K hK => ?_); rintro _ rfl; go_simp; refine hK _ ?_; clear hK K
  refine rs_ex rfl rfl rfl rfl rfl ⟨_, M3⟩ (fun K hK => ?_); apply Exists.intro; refine ⟨fun w' hw => ?_, ?_⟩; (focus (go_simp; try exact rfl)); go_simp; refine hK _ ?_; clear hK K
  refine rs_ex rfl rfl rfl rfl rfl ⟨_, M3⟩ (fun K hK => ?_); apply Exists.intro; refine ⟨fun w' hw => ?_, ?_⟩; (focus (have c := IsR.cell (hw.row 0 rfl); have f := IsR.froz (hw.row 0 rfl); go_simp; try exact rfl)); go_simp; refine hK _ ?_; clear hK K
  refine rs_call rfl rfl (fun v => v = .agg (bA q)) rfl rfl ⟨_, rfl⟩ (fun w' => by go_simp) (fun w' hw => (HP2.out w').mono fun e w'' hh => ⟨_, hh.1, rfl, hh.2⟩) (fun K hK => ?_); rintro _ rfl; go_simp; refine hK _ ?_; clear hK K
  refine rs_alloc rfl rfl rfl 0 rfl rfl rfl (by decide) (by kernel_rfl) (fun w' => by have hz := bits_zero w'; go_simp) (fun K hK => ?_); intro g6; go_simp; refine hK _ ?_; clear hK K
  refine rs_store rfl rfl rfl rfl ⟨_, M3⟩ rfl 0 rfl rfl (by decide) rfl rfl (by kernel_rfl) rfl rfl (run_st (cs := (bA q)) rfl rfl rfl (bits_size _) (by rw [bA_size, bA_size]) (bA_oneCell _)) (fun K hK => ?_); go_simp; refine hK _ ?_; clear hK K
  refine rs_nil ?_
  intro w4 M
  have M4 : Has w [(g2, #[.int .u64 h, .int .u64 l, .int .u64 x], 60), (g3, #[.int .u64 H, .int .u64 L, .int .u64 X], 60), (g5, (bA p), 32), (g6, (bA q), 32)] w4 := M
  clear M3 M
  refine H3 _ _ ?_
  clear H3 K3
  refine wp_seq_k (fun K4 H4 => ?_)
  refine wp_seq_k (fun K5 H5 => ?_)
  refine sq_region ?_
  refine sq_ex rfl (fun K hK => ?_); refine ⟨_, run_ld rfl rfl (M4.row 2 rfl) rfl Try.underlying32 (bits_size _), ?_⟩; go_simp; refine hK _ _ ?_; clear hK K
  refine sq_ex rfl (fun K hK => ?_); refine ⟨_, run_ld rfl rfl (M4.row 3 rfl) rfl Try.underlying32 (bits_size _), ?_⟩; go_simp; refine hK _ _ ?_; clear hK K
  refine sq_call rfl (fun w' => by go_simp) (HL1.out _) (fun K hK => ?_)
  rintro e w5 ⟨rfl, hb⟩
  refine ⟨_, rfl, ?_⟩
  have M5 := M4.kept hb
  clear M4 hb
  go_simp; refine hK _ _ ?_; clear hK K
  refine sq_nil ?_
  refine H5 _ _ ?_
  clear H5 K5
  refine wp_cond_true rfl ?_
  refine wp_seq_k (fun K6 H6 => ?_)
  refine sq_region ?_
  refine sq_ex rfl (fun K hK => ?_); apply Exists.intro; refine ⟨?_, ?_⟩; (focus (go_simp; try exact rfl)); go_simp; refine hK _ _ ?_; clear hK K
  refine sq_nil ?_
  refine H6 _ _ ?_
  clear H6 K6
  refine wp_ret ?_
  go_ret
  exact ⟨rfl, M5.below⟩

set_option maxRecDepth 100000 in
set_option maxHeartbeats 1000000 in
theorem rcmp_gt (h l x H L X n m p q : Nat) (w : World)
    (HO1 : Hid (Dt 19 #[wv h l] (.agg (bA n))))
    (HP1 : Hid (Dt 25 #[.agg (bA n), .int .u64 X] (.agg (bA p))))
    (HO2 : Hid (Dt 19 #[wv H L] (.agg (bA m))))
    (HP2 : Hid (Dt 25 #[.agg (bA m), .int .u64 x] (.agg (bA q))))
    (HL1 : Hid (Dt 26 #[.agg (bA p), .agg (bA q)] (.bool false)))
    (HL2 : Hid (Dt 26 #[.agg (bA q), .agg (bA p)] (.bool true)))
    : Calls Try.prog 38 #[fv h l x, fv H L X] w fun e w' => e = .returned (.int .i64 1) ∧ Below w.heap.size w w' := by
  have M0 := Has.start w
  go_enter Try.func38, Try.ntmps38
  refine wp_seq_k (fun K1 H1 => ?_)
  refine sq_region ?_
  refine sq_alloc rfl M0 (T := 60) (z := #[.int .u64 h, .int .u64 l, .int .u64 x]) (fun w' => by go_simp) (fun K hK => ?_)
  intro g2 w1 M1
  clear M0
  go_simp; refine hK _ _ ?_; clear hK K
  refine sq_alloc rfl M1 (T := 60) (z := #[.int .u64 H, .int .u64 L, .int .u64 X]) (fun w' => by go_simp) (fun K hK => ?_)
  intro g3 w2 M2
  clear M1
  go_simp; refine hK _ _ ?_; clear hK K
  refine sq_ex rfl (fun K hK => ?_); apply Exists.intro; refine ⟨?_, ?_⟩; (focus (go_simp; try exact rfl)); go_simp; refine hK _ _ ?_; clear hK K
  refine sq_nil ?_
  refine H1 _ _ ?_
  clear H1 K1
  refine wp_seq_k (fun K2 H2 => ?_)
  refine wp_region_rows (L := [(g2, #[.int .u64 h, .int .u64 l, .int .u64 x], 60), (g3, #[.int .u64 H, .int .u64 L, .int .u64 X], 60)]) [(6, .box 32 (bA 0) 7)] [(2, fun v => v = .agg (bA n)), (5, fun v => v = .agg (bA p)), (6, fun v => ∃ g, v = .pointer (some ⟨g, 0, none⟩))] M2 (by kernel_rfl) (by kernel_rfl) (by kernel_rfl) (by kernel_rfl) ?_
  refine rs_ex rfl rfl rfl rfl rfl ⟨_, M2⟩ (fun K hK => ?_); apply Exists.intro; refine ⟨fun w' hw => ?_, ?_⟩; (focus (go_simp; try exact rfl)); go_simp; refine hK _ ?_; clear hK K
  refine rs_ex rfl rfl rfl rfl rfl ⟨_, M2⟩ (fun K hK => ?_); refine ⟨_, fun w' hw => run_ldm [.int .u64 h, .int .u64 l] rfl rfl (hw.row 0 rfl) (fun j v h => by match j with | 0 => simpa using h | 1 => simpa using h | (k + 2) => simp at h) rfl Try.underlying24 wide_size, ?_⟩; go_simp; refine hK _ ?_; clear hK K
  refine rs_call rfl rfl (fun v => v = .agg (bA n)) rfl rfl ⟨_, rfl⟩ (fun w' => by go_simp) (fun w' hw => (HO1.out w').mono fun e w'' hh => ⟨_, hh.1, rfl, hh.2⟩) (fun K hK => ?_); rintro _ rfl; go_simp; refine hK _ ?_; clear hK K
  refine rs_ex rfl rfl rfl rfl rfl ⟨_, M2⟩ (fun K hK => ?_); apply Exists.intro; refine ⟨fun w' hw => ?_, ?_⟩; (focus (go_simp; try exact rfl)); go_simp; refine hK _ ?_; clear hK K
  refine rs_ex rfl rfl rfl rfl rfl ⟨_, M2⟩ (fun K hK => ?_); apply Exists.intro; refine ⟨fun w' hw => ?_, ?_⟩; (focus (have c := IsR.cell (hw.row 1 rfl); have f := IsR.froz (hw.row 1 rfl); go_simp; try exact rfl)); go_simp; refine hK _ ?_; clear hK K
  refine rs_call rfl rfl (fun v => v = .agg (bA p)) rfl rfl ⟨_, rfl⟩ (fun w' => by go_simp) (fun w' hw => (HP1.out w').mono fun e w'' hh => ⟨_, hh.1, rfl, hh.2⟩) (fun K hK => ?_); rintro _ rfl; go_simp; refine hK _ ?_; clear hK K
  refine rs_alloc rfl rfl rfl 0 rfl rfl rfl (by decide) (by kernel_rfl) (fun w' => by have hz := bits_zero w'; go_simp) (fun K hK => ?_); intro g5; go_simp; refine hK _ ?_; clear hK K
  refine rs_store rfl rfl rfl rfl ⟨_, M2⟩ rfl 0 rfl rfl (by decide) rfl rfl (by kernel_rfl) rfl rfl (run_st (cs := (bA p)) rfl rfl rfl (bits_size _) (by rw [bA_size, bA_size]) (bA_oneCell _)) (fun K hK => ?_); go_simp; refine hK _ ?_; clear hK K
  refine rs_nil ?_
  intro w3 M
  have M3 : Has w [(g2, #[.int .u64 h, .int .u64 l, .int .u64 x], 60), (g3, #[.int .u64 H, .int .u64 L, .int .u64 X], 60), (g5, (bA p), 32)] w3 := M
  clear M2 M
  refine H2 _ _ ?_
  clear H2 K2
  refine wp_seq_k (fun K3 H3 => ?_)
  refine wp_region_rows (L := [(g2, #[.int .u64 h, .int .u64 l, .int .u64 x], 60), (g3, #[.int .u64 H, .int .u64 L, .int .u64 X], 60), (g5, (bA p), 32)]) [(6, .box 32 (bA 0) 7)] [(2, fun v => v = .agg (bA m)), (5, fun v => v = .agg (bA q)), (6, fun v => ∃ g, v = .pointer (some ⟨g, 0, none⟩))] M3 (by kernel_rfl) (by kernel_rfl) (by kernel_rfl) (by kernel_rfl) ?_
  refine rs_ex rfl rfl rfl rfl rfl ⟨_, M3⟩ (fun K hK => ?_); apply Exists.intro; refine ⟨fun w' hw => ?_, ?_⟩; (focus (go_simp; try exact rfl)); go_simp; refine hK _ ?_; clear hK K
  refine rs_ex rfl rfl rfl rfl rfl ⟨_, M3⟩ (fun K hK => ?_); refine ⟨_, fun w' hw => run_ldm [.int .u64 H, .int .u64 L] rfl rfl (hw.row 1 rfl) (fun j v h => by match j with | 0 => simpa using h | 1 => simpa using h | (k + 2) => simp at h) rfl Try.underlying24 wide_size, ?_⟩; go_simp; refine hK _ ?_; clear hK K
  refine rs_call rfl rfl (fun v => v = .agg (bA m)) rfl rfl ⟨_, rfl⟩ (fun w' => by go_simp) (fun w' hw => (HO2.out w').mono fun e w'' hh => ⟨_, hh.1, rfl, hh.2⟩) (fun K hK => ?_); rintro _ rfl; go_simp; refine hK _ ?_; clear hK K
  refine rs_ex rfl rfl rfl rfl rfl ⟨_, M3⟩ (fun K hK => ?_); apply Exists.intro; refine ⟨fun w' hw => ?_, ?_⟩; (focus (go_simp; try exact rfl)); go_simp; refine hK _ ?_; clear hK K
  refine rs_ex rfl rfl rfl rfl rfl ⟨_, M3⟩ (fun K hK => ?_); apply Exists.intro; refine ⟨fun w' hw => ?_, ?_⟩; (focus (have c := IsR.cell (hw.row 0 rfl); have f := IsR.froz (hw.row 0 rfl); go_simp; try exact rfl)); go_simp; refine hK _ ?_; clear hK K
  refine rs_call rfl rfl (fun v => v = .agg (bA q)) rfl rfl ⟨_, rfl⟩ (fun w' => by go_simp) (fun w' hw => (HP2.out w').mono fun e w'' hh => ⟨_, hh.1, rfl, hh.2⟩) (fun K hK => ?_); rintro _ rfl; go_simp; refine hK _ ?_; clear hK K
  refine rs_alloc rfl rfl rfl 0 rfl rfl rfl (by decide) (by kernel_rfl) (fun w' => by have hz := bits_zero w'; go_simp) (fun K hK => ?_); intro g6; go_simp; refine hK _ ?_; clear hK K
  refine rs_store rfl rfl rfl rfl ⟨_, M3⟩ rfl 0 rfl rfl (by decide) rfl rfl (by kernel_rfl) rfl rfl (run_st (cs := (bA q)) rfl rfl rfl (bits_size _) (by rw [bA_size, bA_size]) (bA_oneCell _)) (fun K hK => ?_); go_simp; refine hK _ ?_; clear hK K
  refine rs_nil ?_
  intro w4 M
  have M4 : Has w [(g2, #[.int .u64 h, .int .u64 l, .int .u64 x], 60), (g3, #[.int .u64 H, .int .u64 L, .int .u64 X], 60), (g5, (bA p), 32), (g6, (bA q), 32)] w4 := M
  clear M3 M
  refine H3 _ _ ?_
  clear H3 K3
  refine wp_seq_k (fun K4 H4 => ?_)
  refine wp_seq_k (fun K5 H5 => ?_)
  refine sq_region ?_
  refine sq_ex rfl (fun K hK => ?_); refine ⟨_, run_ld rfl rfl (M4.row 2 rfl) rfl Try.underlying32 (bits_size _), ?_⟩; go_simp; refine hK _ _ ?_; clear hK K
  refine sq_ex rfl (fun K hK => ?_); refine ⟨_, run_ld rfl rfl (M4.row 3 rfl) rfl Try.underlying32 (bits_size _), ?_⟩; go_simp; refine hK _ _ ?_; clear hK K
  refine sq_call rfl (fun w' => by go_simp) (HL1.out _) (fun K hK => ?_)
  rintro e w5 ⟨rfl, hb⟩
  refine ⟨_, rfl, ?_⟩
  have M5 := M4.kept hb
  clear M4 hb
  go_simp; refine hK _ _ ?_; clear hK K
  refine sq_nil ?_
  refine H5 _ _ ?_
  clear H5 K5
  refine wp_cond_false rfl ?_
  refine wp_skip ?_
  refine H4 _ _ ?_
  clear H4 K4
  refine wp_seq_k (fun K6 H6 => ?_)
  refine wp_seq_k (fun K7 H7 => ?_)
  refine sq_region ?_
  refine sq_ex rfl (fun K hK => ?_); refine ⟨_, run_ld rfl rfl (M5.row 3 rfl) rfl Try.underlying32 (bits_size _), ?_⟩; go_simp; refine hK _ _ ?_; clear hK K
  refine sq_ex rfl (fun K hK => ?_); refine ⟨_, run_ld rfl rfl (M5.row 2 rfl) rfl Try.underlying32 (bits_size _), ?_⟩; go_simp; refine hK _ _ ?_; clear hK K
  refine sq_call rfl (fun w' => by go_simp) (HL2.out _) (fun K hK => ?_)
  rintro e w6 ⟨rfl, hb⟩
  refine ⟨_, rfl, ?_⟩
  have M6 := M5.kept hb
  clear M5 hb
  go_simp; refine hK _ _ ?_; clear hK K
  refine sq_nil ?_
  refine H7 _ _ ?_
  clear H7 K7
  refine wp_cond_true rfl ?_
  refine wp_seq_k (fun K8 H8 => ?_)
  refine sq_region ?_
  refine sq_ex rfl (fun K hK => ?_); apply Exists.intro; refine ⟨?_, ?_⟩; (focus (go_simp; try exact rfl)); go_simp; refine hK _ _ ?_; clear hK K
  refine sq_nil ?_
  refine H8 _ _ ?_
  clear H8 K8
  refine wp_ret ?_
  go_ret
  exact ⟨rfl, M6.below⟩

set_option maxRecDepth 100000 in
set_option maxHeartbeats 1000000 in
theorem rcmp_eq (h l x H L X n m p q : Nat) (w : World)
    (HO1 : Hid (Dt 19 #[wv h l] (.agg (bA n))))
    (HP1 : Hid (Dt 25 #[.agg (bA n), .int .u64 X] (.agg (bA p))))
    (HO2 : Hid (Dt 19 #[wv H L] (.agg (bA m))))
    (HP2 : Hid (Dt 25 #[.agg (bA m), .int .u64 x] (.agg (bA q))))
    (HL1 : Hid (Dt 26 #[.agg (bA p), .agg (bA q)] (.bool false)))
    (HL2 : Hid (Dt 26 #[.agg (bA q), .agg (bA p)] (.bool false)))
    : Calls Try.prog 38 #[fv h l x, fv H L X] w fun e w' => e = .returned (.int .i64 0) ∧ Below w.heap.size w w' := by
  have M0 := Has.start w
  go_enter Try.func38, Try.ntmps38
  refine wp_seq_k (fun K1 H1 => ?_)
  refine sq_region ?_
  refine sq_alloc rfl M0 (T := 60) (z := #[.int .u64 h, .int .u64 l, .int .u64 x]) (fun w' => by go_simp) (fun K hK => ?_)
  intro g2 w1 M1
  clear M0
  go_simp; refine hK _ _ ?_; clear hK K
  refine sq_alloc rfl M1 (T := 60) (z := #[.int .u64 H, .int .u64 L, .int .u64 X]) (fun w' => by go_simp) (fun K hK => ?_)
  intro g3 w2 M2
  clear M1
  go_simp; refine hK _ _ ?_; clear hK K
  refine sq_ex rfl (fun K hK => ?_); apply Exists.intro; refine ⟨?_, ?_⟩; (focus (go_simp; try exact rfl)); go_simp; refine hK _ _ ?_; clear hK K
  refine sq_nil ?_
  refine H1 _ _ ?_
  clear H1 K1
  refine wp_seq_k (fun K2 H2 => ?_)
  refine wp_region_rows (L := [(g2, #[.int .u64 h, .int .u64 l, .int .u64 x], 60), (g3, #[.int .u64 H, .int .u64 L, .int .u64 X], 60)]) [(6, .box 32 (bA 0) 7)] [(2, fun v => v = .agg (bA n)), (5, fun v => v = .agg (bA p)), (6, fun v => ∃ g, v = .pointer (some ⟨g, 0, none⟩))] M2 (by kernel_rfl) (by kernel_rfl) (by kernel_rfl) (by kernel_rfl) ?_
  refine rs_ex rfl rfl rfl rfl rfl ⟨_, M2⟩ (fun K hK => ?_); apply Exists.intro; refine ⟨fun w' hw => ?_, ?_⟩; (focus (go_simp; try exact rfl)); go_simp; refine hK _ ?_; clear hK K
  refine rs_ex rfl rfl rfl rfl rfl ⟨_, M2⟩ (fun K hK => ?_); refine ⟨_, fun w' hw => run_ldm [.int .u64 h, .int .u64 l] rfl rfl (hw.row 0 rfl) (fun j v h => by match j with | 0 => simpa using h | 1 => simpa using h | (k + 2) => simp at h) rfl Try.underlying24 wide_size, ?_⟩; go_simp; refine hK _ ?_; clear hK K
  refine rs_call rfl rfl (fun v => v = .agg (bA n)) rfl rfl ⟨_, rfl⟩ (fun w' => by go_simp) (fun w' hw => (HO1.out w').mono fun e w'' hh => ⟨_, hh.1, rfl, hh.2⟩) (fun K hK => ?_); rintro _ rfl; go_simp; refine hK _ ?_; clear hK K
  refine rs_ex rfl rfl rfl rfl rfl ⟨_, M2⟩ (fun K hK => ?_); apply Exists.intro; refine ⟨fun w' hw => ?_, ?_⟩; (focus (go_simp; try exact rfl)); go_simp; refine hK _ ?_; clear hK K
  refine rs_ex rfl rfl rfl rfl rfl ⟨_, M2⟩ (fun K hK => ?_); apply Exists.intro; refine ⟨fun w' hw => ?_, ?_⟩; (focus (have c := IsR.cell (hw.row 1 rfl); have f := IsR.froz (hw.row 1 rfl); go_simp; try exact rfl)); go_simp; refine hK _ ?_; clear hK K
  refine rs_call rfl rfl (fun v => v = .agg (bA p)) rfl rfl ⟨_, rfl⟩ (fun w' => by go_simp) (fun w' hw => (HP1.out w').mono fun e w'' hh => ⟨_, hh.1, rfl, hh.2⟩) (fun K hK => ?_); rintro _ rfl; go_simp; refine hK _ ?_; clear hK K
  refine rs_alloc rfl rfl rfl 0 rfl rfl rfl (by decide) (by kernel_rfl) (fun w' => by have hz := bits_zero w'; go_simp) (fun K hK => ?_); intro g5; go_simp; refine hK _ ?_; clear hK K
  refine rs_store rfl rfl rfl rfl ⟨_, M2⟩ rfl 0 rfl rfl (by decide) rfl rfl (by kernel_rfl) rfl rfl (run_st (cs := (bA p)) rfl rfl rfl (bits_size _) (by rw [bA_size, bA_size]) (bA_oneCell _)) (fun K hK => ?_); go_simp; refine hK _ ?_; clear hK K
  refine rs_nil ?_
  intro w3 M
  have M3 : Has w [(g2, #[.int .u64 h, .int .u64 l, .int .u64 x], 60), (g3, #[.int .u64 H, .int .u64 L, .int .u64 X], 60), (g5, (bA p), 32)] w3 := M
  clear M2 M
  refine H2 _ _ ?_
  clear H2 K2
  refine wp_seq_k (fun K3 H3 => ?_)
  refine wp_region_rows (L := [(g2, #[.int .u64 h, .int .u64 l, .int .u64 x], 60), (g3, #[.int .u64 H, .int .u64 L, .int .u64 X], 60), (g5, (bA p), 32)]) [(6, .box 32 (bA 0) 7)] [(2, fun v => v = .agg (bA m)), (5, fun v => v = .agg (bA q)), (6, fun v => ∃ g, v = .pointer (some ⟨g, 0, none⟩))] M3 (by kernel_rfl) (by kernel_rfl) (by kernel_rfl) (by kernel_rfl) ?_
  refine rs_ex rfl rfl rfl rfl rfl ⟨_, M3⟩ (fun K hK => ?_); apply Exists.intro; refine ⟨fun w' hw => ?_, ?_⟩; (focus (go_simp; try exact rfl)); go_simp; refine hK _ ?_; clear hK K
  refine rs_ex rfl rfl rfl rfl rfl ⟨_, M3⟩ (fun K hK => ?_); refine ⟨_, fun w' hw => run_ldm [.int .u64 H, .int .u64 L] rfl rfl (hw.row 1 rfl) (fun j v h => by match j with | 0 => simpa using h | 1 => simpa using h | (k + 2) => simp at h) rfl Try.underlying24 wide_size, ?_⟩; go_simp; refine hK _ ?_; clear hK K
  refine rs_call rfl rfl (fun v => v = .agg (bA m)) rfl rfl ⟨_, rfl⟩ (fun w' => by go_simp) (fun w' hw => (HO2.out w').mono fun e w'' hh => ⟨_, hh.1, rfl, hh.2⟩) (fun K hK => ?_); rintro _ rfl; go_simp; refine hK _ ?_; clear hK K
  refine rs_ex rfl rfl rfl rfl rfl ⟨_, M3⟩ (fun K hK => ?_); apply Exists.intro; refine ⟨fun w' hw => ?_, ?_⟩; (focus (go_simp; try exact rfl)); go_simp; refine hK _ ?_; clear hK K
  refine rs_ex rfl rfl rfl rfl rfl ⟨_, M3⟩ (fun K hK => ?_); apply Exists.intro; refine ⟨fun w' hw => ?_, ?_⟩; (focus (have c := IsR.cell (hw.row 0 rfl); have f := IsR.froz (hw.row 0 rfl); go_simp; try exact rfl)); go_simp; refine hK _ ?_; clear hK K
  refine rs_call rfl rfl (fun v => v = .agg (bA q)) rfl rfl ⟨_, rfl⟩ (fun w' => by go_simp) (fun w' hw => (HP2.out w').mono fun e w'' hh => ⟨_, hh.1, rfl, hh.2⟩) (fun K hK => ?_); rintro _ rfl; go_simp; refine hK _ ?_; clear hK K
  refine rs_alloc rfl rfl rfl 0 rfl rfl rfl (by decide) (by kernel_rfl) (fun w' => by have hz := bits_zero w'; go_simp) (fun K hK => ?_); intro g6; go_simp; refine hK _ ?_; clear hK K
  refine rs_store rfl rfl rfl rfl ⟨_, M3⟩ rfl 0 rfl rfl (by decide) rfl rfl (by kernel_rfl) rfl rfl (run_st (cs := (bA q)) rfl rfl rfl (bits_size _) (by rw [bA_size, bA_size]) (bA_oneCell _)) (fun K hK => ?_); go_simp; refine hK _ ?_; clear hK K
  refine rs_nil ?_
  intro w4 M
  have M4 : Has w [(g2, #[.int .u64 h, .int .u64 l, .int .u64 x], 60), (g3, #[.int .u64 H, .int .u64 L, .int .u64 X], 60), (g5, (bA p), 32), (g6, (bA q), 32)] w4 := M
  clear M3 M
  refine H3 _ _ ?_
  clear H3 K3
  refine wp_seq_k (fun K4 H4 => ?_)
  refine wp_seq_k (fun K5 H5 => ?_)
  refine sq_region ?_
  refine sq_ex rfl (fun K hK => ?_); refine ⟨_, run_ld rfl rfl (M4.row 2 rfl) rfl Try.underlying32 (bits_size _), ?_⟩; go_simp; refine hK _ _ ?_; clear hK K
  refine sq_ex rfl (fun K hK => ?_); refine ⟨_, run_ld rfl rfl (M4.row 3 rfl) rfl Try.underlying32 (bits_size _), ?_⟩; go_simp; refine hK _ _ ?_; clear hK K
  refine sq_call rfl (fun w' => by go_simp) (HL1.out _) (fun K hK => ?_)
  rintro e w5 ⟨rfl, hb⟩
  refine ⟨_, rfl, ?_⟩
  have M5 := M4.kept hb
  clear M4 hb
  go_simp; refine hK _ _ ?_; clear hK K
  refine sq_nil ?_
  refine H5 _ _ ?_
  clear H5 K5
  refine wp_cond_false rfl ?_
  refine wp_skip ?_
  refine H4 _ _ ?_
  clear H4 K4
  refine wp_seq_k (fun K6 H6 => ?_)
  refine wp_seq_k (fun K7 H7 => ?_)
  refine sq_region ?_
  refine sq_ex rfl (fun K hK => ?_); refine ⟨_, run_ld rfl rfl (M5.row 3 rfl) rfl Try.underlying32 (bits_size _), ?_⟩; go_simp; refine hK _ _ ?_; clear hK K
  refine sq_ex rfl (fun K hK => ?_); refine ⟨_, run_ld rfl rfl (M5.row 2 rfl) rfl Try.underlying32 (bits_size _), ?_⟩; go_simp; refine hK _ _ ?_; clear hK K
  refine sq_call rfl (fun w' => by go_simp) (HL2.out _) (fun K hK => ?_)
  rintro e w6 ⟨rfl, hb⟩
  refine ⟨_, rfl, ?_⟩
  have M6 := M5.kept hb
  clear M5 hb
  go_simp; refine hK _ _ ?_; clear hK K
  refine sq_nil ?_
  refine H7 _ _ ?_
  clear H7 K7
  refine wp_cond_false rfl ?_
  refine wp_skip ?_
  refine H6 _ _ ?_
  clear H6 K6
  refine wp_seq_k (fun K8 H8 => ?_)
  refine sq_region ?_
  refine sq_ex rfl (fun K hK => ?_); apply Exists.intro; refine ⟨?_, ?_⟩; (focus (go_simp; try exact rfl)); go_simp; refine hK _ _ ?_; clear hK K
  refine sq_nil ?_
  refine H8 _ _ ?_
  clear H8 K8
  refine wp_ret ?_
  go_ret
  exact ⟨rfl, M6.below⟩

set_option maxRecDepth 100000 in
set_option maxHeartbeats 1000000 in
theorem rnum_no (b A B : Nat) (w : World)
    (HN : Hid (Dt 20 #[.agg (bA b)] (.tuple #[wv A B, .bool false])))
    : Calls Try.prog 68 #[.agg (bA b)] w fun e w' => e = .returned (.tuple #[.agg #[.int .u64 0, .int .u64 0], .bool false]) ∧ Below w.heap.size w w' := by
  have M0 := Has.start w
  go_enter Try.func68, Try.ntmps68
  refine wp_seq_k (fun K1 H1 => ?_)
  refine sq_region ?_
  refine sq_alloc rfl M0 (T := 32) (z := (bA b)) (fun w' => by go_simp) (fun K hK => ?_)
  intro g1 w1 M1
  clear M0
  go_simp; refine hK _ _ ?_; clear hK K
  refine sq_alloc rfl M1 (T := 24) (z := #[.int .u64 0, .int .u64 0]) (fun w' => by go_simp) (fun K hK => ?_)
  intro g2 w2 M2
  clear M1
  go_simp; refine hK _ _ ?_; clear hK K
  refine sq_ex rfl (fun K hK => ?_); apply Exists.intro; refine ⟨?_, ?_⟩; (focus (go_simp; try exact rfl)); go_simp; refine hK _ _ ?_; clear hK K
  refine sq_nil ?_
  refine H1 _ _ ?_
  clear H1 K1
  refine wp_seq_k (fun K2 H2 => ?_)
  refine sq_region ?_
  refine sq_ex rfl (fun K hK => ?_); refine ⟨_, run_ld rfl rfl (M2.row 0 rfl) rfl Try.underlying32 (bits_size _), ?_⟩; go_simp; refine hK _ _ ?_; clear hK K
  refine sq_call rfl (fun w' => by go_simp) (HN.out _) (fun K hK => ?_)
  rintro e w3 ⟨rfl, hb⟩
  refine ⟨_, rfl, ?_⟩
  have M3 := M2.kept hb
  clear M2 hb
  go_simp; refine hK _ _ ?_; clear hK K
  refine sq_ex rfl (fun K hK => ?_); apply Exists.intro; refine ⟨?_, ?_⟩; (focus (go_simp; try exact rfl)); go_simp; refine hK _ _ ?_; clear hK K
  refine sq_ex rfl (fun K hK => ?_); apply Exists.intro; refine ⟨?_, ?_⟩; (focus (go_simp; try exact rfl)); go_simp; refine hK _ _ ?_; clear hK K
  refine sq_ex rfl (fun K hK => ?_); apply Exists.intro; refine ⟨?_, ?_⟩; (focus (go_simp; try exact rfl)); go_simp; refine hK _ _ ?_; clear hK K
  refine sq_alloc rfl M3 (T := 24) (z := #[.int .u64 0, .int .u64 0]) (fun w' => by go_simp) (fun K hK => ?_)
  intro g4 w4 M4
  clear M3
  go_simp; refine hK _ _ ?_; clear hK K
  refine sq_store rfl M4 2 rfl (run_st (cs := #[.int .u64 A, .int .u64 B]) rfl rfl rfl wide_size rfl (by simp [Value.oneCell'])) (fun K hK => ?_)
  intro w5 M5
  clear M4
  go_simp; refine hK _ _ ?_; clear hK K
  refine sq_ex rfl (fun K hK => ?_); apply Exists.intro; refine ⟨?_, ?_⟩; (focus (go_simp; try exact rfl)); go_simp; refine hK _ _ ?_; clear hK K
  refine sq_nil ?_
  refine H2 _ _ ?_
  clear H2 K2
  refine wp_seq_k (fun K3 H3 => ?_)
  refine wp_seq_k (fun K4 H4 => ?_)
  refine sq_region ?_
  refine sq_ex rfl (fun K hK => ?_); apply Exists.intro; refine ⟨?_, ?_⟩; (focus (go_simp; try exact rfl)); go_simp; refine hK _ _ ?_; clear hK K
  refine sq_ex rfl (fun K hK => ?_); apply Exists.intro; refine ⟨?_, ?_⟩; (focus (go_simp; try exact rfl)); go_simp; refine hK _ _ ?_; clear hK K
  refine sq_ex rfl (fun K hK => ?_); apply Exists.intro; refine ⟨?_, ?_⟩; (focus (go_simp; try exact rfl)); go_simp; refine hK _ _ ?_; clear hK K
  refine sq_not rfl (fun K hK => ?_); go_simp; refine hK _ _ ?_; clear hK K
  refine sq_not rfl (fun K hK => ?_); go_simp; refine hK _ _ ?_; clear hK K
  refine sq_not rfl (fun K hK => ?_); go_simp; refine hK _ _ ?_; clear hK K
  refine sq_ex rfl (fun K hK => ?_); apply Exists.intro; refine ⟨?_, ?_⟩; (focus (go_simp; try exact rfl)); go_simp; refine hK _ _ ?_; clear hK K
  refine sq_nil ?_
  refine H4 _ _ ?_
  clear H4 K4
  refine wp_cond_true rfl ?_
  refine wp_seq_k (fun K5 H5 => ?_)
  refine sq_region ?_
  refine sq_ex rfl (fun K hK => ?_); apply Exists.intro; refine ⟨?_, ?_⟩; (focus (go_simp; try exact rfl)); go_simp; refine hK _ _ ?_; clear hK K
  refine sq_store rfl M5 1 rfl (run_st (cs := #[.int .u64 0, .int .u64 0]) rfl rfl rfl wide_size rfl (by simp [Value.oneCell'])) (fun K hK => ?_)
  intro w6 M6
  clear M5
  go_simp; refine hK _ _ ?_; clear hK K
  refine sq_ex rfl (fun K hK => ?_); apply Exists.intro; refine ⟨?_, ?_⟩; (focus (go_simp; try exact rfl)); go_simp; refine hK _ _ ?_; clear hK K
  refine sq_nil ?_
  refine H5 _ _ ?_
  clear H5 K5
  refine wp_ret ?_
  refine then_ret ?_
  refine ret_row_tmp Try.results68 rfl _ rfl (M6.row 1 rfl) Try.underlying24 rfl wide_size ⟨rfl, M6.below⟩

set_option maxRecDepth 100000 in
set_option maxHeartbeats 1000000 in
theorem rnum_big (b A B : Nat) (w : World)
    (HN : Hid (Dt 20 #[.agg (bA b)] (.tuple #[wv A B, .bool true])))
    (hA : 68719476736 ≤ A)
    : Calls Try.prog 68 #[.agg (bA b)] w fun e w' => e = .returned (.tuple #[.agg #[.int .u64 0, .int .u64 0], .bool false]) ∧ Below w.heap.size w w' := by
  have M0 := Has.start w
  go_enter Try.func68, Try.ntmps68
  refine wp_seq_k (fun K1 H1 => ?_)
  refine sq_region ?_
  refine sq_alloc rfl M0 (T := 32) (z := (bA b)) (fun w' => by go_simp) (fun K hK => ?_)
  intro g1 w1 M1
  clear M0
  go_simp; refine hK _ _ ?_; clear hK K
  refine sq_alloc rfl M1 (T := 24) (z := #[.int .u64 0, .int .u64 0]) (fun w' => by go_simp) (fun K hK => ?_)
  intro g2 w2 M2
  clear M1
  go_simp; refine hK _ _ ?_; clear hK K
  refine sq_ex rfl (fun K hK => ?_); apply Exists.intro; refine ⟨?_, ?_⟩; (focus (go_simp; try exact rfl)); go_simp; refine hK _ _ ?_; clear hK K
  refine sq_nil ?_
  refine H1 _ _ ?_
  clear H1 K1
  refine wp_seq_k (fun K2 H2 => ?_)
  refine sq_region ?_
  refine sq_ex rfl (fun K hK => ?_); refine ⟨_, run_ld rfl rfl (M2.row 0 rfl) rfl Try.underlying32 (bits_size _), ?_⟩; go_simp; refine hK _ _ ?_; clear hK K
  refine sq_call rfl (fun w' => by go_simp) (HN.out _) (fun K hK => ?_)
  rintro e w3 ⟨rfl, hb⟩
  refine ⟨_, rfl, ?_⟩
  have M3 := M2.kept hb
  clear M2 hb
  go_simp; refine hK _ _ ?_; clear hK K
  refine sq_ex rfl (fun K hK => ?_); apply Exists.intro; refine ⟨?_, ?_⟩; (focus (go_simp; try exact rfl)); go_simp; refine hK _ _ ?_; clear hK K
  refine sq_ex rfl (fun K hK => ?_); apply Exists.intro; refine ⟨?_, ?_⟩; (focus (go_simp; try exact rfl)); go_simp; refine hK _ _ ?_; clear hK K
  refine sq_ex rfl (fun K hK => ?_); apply Exists.intro; refine ⟨?_, ?_⟩; (focus (go_simp; try exact rfl)); go_simp; refine hK _ _ ?_; clear hK K
  refine sq_alloc rfl M3 (T := 24) (z := #[.int .u64 0, .int .u64 0]) (fun w' => by go_simp) (fun K hK => ?_)
  intro g4 w4 M4
  clear M3
  go_simp; refine hK _ _ ?_; clear hK K
  refine sq_store rfl M4 2 rfl (run_st (cs := #[.int .u64 A, .int .u64 B]) rfl rfl rfl wide_size rfl (by simp [Value.oneCell'])) (fun K hK => ?_)
  intro w5 M5
  clear M4
  go_simp; refine hK _ _ ?_; clear hK K
  refine sq_ex rfl (fun K hK => ?_); apply Exists.intro; refine ⟨?_, ?_⟩; (focus (go_simp; try exact rfl)); go_simp; refine hK _ _ ?_; clear hK K
  refine sq_nil ?_
  refine H2 _ _ ?_
  clear H2 K2
  refine wp_seq_k (fun K3 H3 => ?_)
  refine wp_seq_k (fun K4 H4 => ?_)
  refine sq_region ?_
  refine sq_ex rfl (fun K hK => ?_); apply Exists.intro; refine ⟨?_, ?_⟩; (focus (go_simp; try exact rfl)); go_simp; refine hK _ _ ?_; clear hK K
  refine sq_ex rfl (fun K hK => ?_); apply Exists.intro; refine ⟨?_, ?_⟩; (focus (go_simp; try exact rfl)); go_simp; refine hK _ _ ?_; clear hK K
  refine sq_ex rfl (fun K hK => ?_); apply Exists.intro; refine ⟨?_, ?_⟩; (focus (go_simp; try exact rfl)); go_simp; refine hK _ _ ?_; clear hK K
  refine sq_ex rfl (fun K hK => ?_); apply Exists.intro; refine ⟨?_, ?_⟩; (focus (go_simp; try exact rfl)); go_simp; refine hK _ _ ?_; clear hK K
  refine sq_ex rfl (fun K hK => ?_); apply Exists.intro; refine ⟨?_, ?_⟩; (focus (have c := IsR.cell (M5.row 2 rfl); have f := IsR.froz (M5.row 2 rfl); go_simp; try exact rfl)); go_simp; refine hK _ _ ?_; clear hK K
  refine sq_ex rfl (fun K hK => ?_); refine ⟨.bool true, ?_, ?_⟩; (focus (go_simp; try (first | omega | (simp; done) | (simp; omega)))); go_simp; refine hK _ _ ?_; clear hK K
  refine sq_ex rfl (fun K hK => ?_); apply Exists.intro; refine ⟨?_, ?_⟩; (focus (go_simp; try exact rfl)); go_simp; refine hK _ _ ?_; clear hK K
  refine sq_nil ?_
  refine H4 _ _ ?_
  clear H4 K4
  refine wp_cond_true rfl ?_
  refine wp_seq_k (fun K5 H5 => ?_)
  refine sq_region ?_
  refine sq_ex rfl (fun K hK => ?_); apply Exists.intro; refine ⟨?_, ?_⟩; (focus (go_simp; try exact rfl)); go_simp; refine hK _ _ ?_; clear hK K
  refine sq_store rfl M5 1 rfl (run_st (cs := #[.int .u64 0, .int .u64 0]) rfl rfl rfl wide_size rfl (by simp [Value.oneCell'])) (fun K hK => ?_)
  intro w6 M6
  clear M5
  go_simp; refine hK _ _ ?_; clear hK K
  refine sq_ex rfl (fun K hK => ?_); apply Exists.intro; refine ⟨?_, ?_⟩; (focus (go_simp; try exact rfl)); go_simp; refine hK _ _ ?_; clear hK K
  refine sq_nil ?_
  refine H5 _ _ ?_
  clear H5 K5
  refine wp_ret ?_
  refine then_ret ?_
  refine ret_row_tmp Try.results68 rfl _ rfl (M6.row 1 rfl) Try.underlying24 rfl wide_size ⟨rfl, M6.below⟩

set_option maxRecDepth 100000 in
set_option maxHeartbeats 1000000 in
theorem rnum_ok (b A B : Nat) (w : World)
    (HN : Hid (Dt 20 #[.agg (bA b)] (.tuple #[wv A B, .bool true])))
    (hA : A < 68719476736)
    : Calls Try.prog 68 #[.agg (bA b)] w fun e w' => e = .returned (.tuple #[wv A B, .bool true]) ∧ Below w.heap.size w w' := by
  have M0 := Has.start w
  go_enter Try.func68, Try.ntmps68
  refine wp_seq_k (fun K1 H1 => ?_)
  refine sq_region ?_
  refine sq_alloc rfl M0 (T := 32) (z := (bA b)) (fun w' => by go_simp) (fun K hK => ?_)
  intro g1 w1 M1
  clear M0
  go_simp; refine hK _ _ ?_; clear hK K
  refine sq_alloc rfl M1 (T := 24) (z := #[.int .u64 0, .int .u64 0]) (fun w' => by go_simp) (fun K hK => ?_)
  intro g2 w2 M2
  clear M1
  go_simp; refine hK _ _ ?_; clear hK K
  refine sq_ex rfl (fun K hK => ?_); apply Exists.intro; refine ⟨?_, ?_⟩; (focus (go_simp; try exact rfl)); go_simp; refine hK _ _ ?_; clear hK K
  refine sq_nil ?_
  refine H1 _ _ ?_
  clear H1 K1
  refine wp_seq_k (fun K2 H2 => ?_)
  refine sq_region ?_
  refine sq_ex rfl (fun K hK => ?_); refine ⟨_, run_ld rfl rfl (M2.row 0 rfl) rfl Try.underlying32 (bits_size _), ?_⟩; go_simp; refine hK _ _ ?_; clear hK K
  refine sq_call rfl (fun w' => by go_simp) (HN.out _) (fun K hK => ?_)
  rintro e w3 ⟨rfl, hb⟩
  refine ⟨_, rfl, ?_⟩
  have M3 := M2.kept hb
  clear M2 hb
  go_simp; refine hK _ _ ?_; clear hK K
  refine sq_ex rfl (fun K hK => ?_); apply Exists.intro; refine ⟨?_, ?_⟩; (focus (go_simp; try exact rfl)); go_simp; refine hK _ _ ?_; clear hK K
  refine sq_ex rfl (fun K hK => ?_); apply Exists.intro; refine ⟨?_, ?_⟩; (focus (go_simp; try exact rfl)); go_simp; refine hK _ _ ?_; clear hK K
  refine sq_ex rfl (fun K hK => ?_); apply Exists.intro; refine ⟨?_, ?_⟩; (focus (go_simp; try exact rfl)); go_simp; refine hK _ _ ?_; clear hK K
  refine sq_alloc rfl M3 (T := 24) (z := #[.int .u64 0, .int .u64 0]) (fun w' => by go_simp) (fun K hK => ?_)
  intro g4 w4 M4
  clear M3
  go_simp; refine hK _ _ ?_; clear hK K
  refine sq_store rfl M4 2 rfl (run_st (cs := #[.int .u64 A, .int .u64 B]) rfl rfl rfl wide_size rfl (by simp [Value.oneCell'])) (fun K hK => ?_)
  intro w5 M5
  clear M4
  go_simp; refine hK _ _ ?_; clear hK K
  refine sq_ex rfl (fun K hK => ?_); apply Exists.intro; refine ⟨?_, ?_⟩; (focus (go_simp; try exact rfl)); go_simp; refine hK _ _ ?_; clear hK K
  refine sq_nil ?_
  refine H2 _ _ ?_
  clear H2 K2
  refine wp_seq_k (fun K3 H3 => ?_)
  refine wp_seq_k (fun K4 H4 => ?_)
  refine sq_region ?_
  refine sq_ex rfl (fun K hK => ?_); apply Exists.intro; refine ⟨?_, ?_⟩; (focus (go_simp; try exact rfl)); go_simp; refine hK _ _ ?_; clear hK K
  refine sq_ex rfl (fun K hK => ?_); apply Exists.intro; refine ⟨?_, ?_⟩; (focus (go_simp; try exact rfl)); go_simp; refine hK _ _ ?_; clear hK K
  refine sq_ex rfl (fun K hK => ?_); apply Exists.intro; refine ⟨?_, ?_⟩; (focus (go_simp; try exact rfl)); go_simp; refine hK _ _ ?_; clear hK K
  refine sq_ex rfl (fun K hK => ?_); apply Exists.intro; refine ⟨?_, ?_⟩; (focus (go_simp; try exact rfl)); go_simp; refine hK _ _ ?_; clear hK K
  refine sq_ex rfl (fun K hK => ?_); apply Exists.intro; refine ⟨?_, ?_⟩; (focus (have c := IsR.cell (M5.row 2 rfl); have f := IsR.froz (M5.row 2 rfl); go_simp; try exact rfl)); go_simp; refine hK _ _ ?_; clear hK K
  refine sq_ex rfl (fun K hK => ?_); refine ⟨.bool false, ?_, ?_⟩; (focus (go_simp; try (first | omega | (simp; done) | (simp; omega)))); go_simp; refine hK _ _ ?_; clear hK K
  refine sq_ex rfl (fun K hK => ?_); apply Exists.intro; refine ⟨?_, ?_⟩; (focus (go_simp; try exact rfl)); go_simp; refine hK _ _ ?_; clear hK K
  refine sq_nil ?_
  refine H4 _ _ ?_
  clear H4 K4
  refine wp_cond_false rfl ?_
  refine wp_skip ?_
  refine H3 _ _ ?_
  clear H3 K3
  refine wp_seq_k (fun K5 H5 => ?_)
  refine sq_region ?_
  refine sq_ex rfl (fun K hK => ?_); refine ⟨_, run_ld rfl rfl (M5.row 2 rfl) rfl Try.underlying24 wide_size, ?_⟩; go_simp; refine hK _ _ ?_; clear hK K
  refine sq_store rfl M5 1 rfl (run_st (cs := #[.int .u64 A, .int .u64 B]) rfl rfl rfl wide_size rfl (by simp [Value.oneCell'])) (fun K hK => ?_)
  intro w6 M6
  clear M5
  go_simp; refine hK _ _ ?_; clear hK K
  refine sq_ex rfl (fun K hK => ?_); apply Exists.intro; refine ⟨?_, ?_⟩; (focus (go_simp; try exact rfl)); go_simp; refine hK _ _ ?_; clear hK K
  refine sq_nil ?_
  refine H5 _ _ ?_
  clear H5 K5
  refine wp_ret ?_
  refine ret_row_tmp Try.results68 rfl _ rfl (M6.row 1 rfl) Try.underlying24 rfl wide_size ⟨rfl, M6.below⟩

set_option maxRecDepth 100000 in
set_option maxHeartbeats 1000000 in
theorem radd_w (h l x k n s A B : Nat) (w : World)
    (f : Bool)
    (HO : Hid (Dt 19 #[wv h l] (.agg (bA n))))
    (HB : Hid (Dt 69 #[.int .u64 k] (.agg (bA k))))
    (HS : Hid (Dt 29 #[.agg (bA n), .agg (bA k)] (.agg (bA s))))
    (HN : Hid (Dt 68 #[.agg (bA s)] (.tuple #[wv A B, .bool f])))
    : Calls Try.prog 47 #[fv h l x, .int .u64 k] w fun e w' => e = .returned (.tuple #[wv A B, .bool f]) ∧ Below w.heap.size w w' := by
  have M0 := Has.start w
  go_enter Try.func47, Try.ntmps47
  refine wp_seq_k (fun K1 H1 => ?_)
  refine sq_region ?_
  refine sq_alloc rfl M0 (T := 60) (z := #[.int .u64 h, .int .u64 l, .int .u64 x]) (fun w' => by go_simp) (fun K hK => ?_)
  intro g2 w1 M1
  clear M0
  go_simp; refine hK _ _ ?_; clear hK K
  refine sq_alloc rfl M1 (T := 24) (z := #[.int .u64 0, .int .u64 0]) (fun w' => by go_simp) (fun K hK => ?_)
  intro g4 w2 M2
  clear M1
  go_simp; refine hK _ _ ?_; clear hK K
  refine sq_ex rfl (fun K hK => ?_); apply Exists.intro; refine ⟨?_, ?_⟩; (focus (go_simp; try exact rfl)); go_simp; refine hK _ _ ?_; clear hK K
  refine sq_nil ?_
  refine H1 _ _ ?_
  clear H1 K1
  refine wp_seq_k (fun K2 H2 => ?_)
  refine sq_region ?_
  refine sq_ex rfl (fun K hK => ?_); apply Exists.intro; refine ⟨?_, ?_⟩; (focus (go_simp; try exact rfl)); go_simp; refine hK _ _ ?_; clear hK K
  refine sq_ex rfl (fun K hK => ?_); refine ⟨_, run_ldm [.int .u64 h, .int .u64 l] rfl rfl (M2.row 0 rfl) (fun j v h => by match j with | 0 => simpa using h | 1 => simpa using h | (k + 2) => simp at h) rfl Try.underlying24 wide_size, ?_⟩; go_simp; refine hK _ _ ?_; clear hK K
  refine sq_call rfl (fun w' => by go_simp) (HO.out _) (fun K hK => ?_)
  rintro e w3 ⟨rfl, hb⟩
  refine ⟨_, rfl, ?_⟩
  have M3 := M2.kept hb
  clear M2 hb
  go_simp; refine hK _ _ ?_; clear hK K
  refine sq_ex rfl (fun K hK => ?_); apply Exists.intro; refine ⟨?_, ?_⟩; (focus (go_simp; try exact rfl)); go_simp; refine hK _ _ ?_; clear hK K
  refine sq_call rfl (fun w' => by go_simp) (HB.out _) (fun K hK => ?_)
  rintro e w4 ⟨rfl, hb⟩
  refine ⟨_, rfl, ?_⟩
  have M4 := M3.kept hb
  clear M3 hb
  go_simp; refine hK _ _ ?_; clear hK K
  refine sq_call rfl (fun w' => by go_simp) (HS.out _) (fun K hK => ?_)
  rintro e w5 ⟨rfl, hb⟩
  refine ⟨_, rfl, ?_⟩
  have M5 := M4.kept hb
  clear M4 hb
  go_simp; refine hK _ _ ?_; clear hK K
  refine sq_call rfl (fun w' => by go_simp) (HN.out _) (fun K hK => ?_)
  rintro e w6 ⟨rfl, hb⟩
  refine ⟨_, rfl, ?_⟩
  have M6 := M5.kept hb
  clear M5 hb
  go_simp; refine hK _ _ ?_; clear hK K
  refine sq_ex rfl (fun K hK => ?_); apply Exists.intro; refine ⟨?_, ?_⟩; (focus (go_simp; try exact rfl)); go_simp; refine hK _ _ ?_; clear hK K
  refine sq_ex rfl (fun K hK => ?_); apply Exists.intro; refine ⟨?_, ?_⟩; (focus (go_simp; try exact rfl)); go_simp; refine hK _ _ ?_; clear hK K
  refine sq_store rfl M6 1 rfl (run_st (cs := #[.int .u64 A, .int .u64 B]) rfl rfl rfl wide_size rfl (by simp [Value.oneCell'])) (fun K hK => ?_)
  intro w7 M7
  clear M6
  go_simp; refine hK _ _ ?_; clear hK K
  refine sq_ex rfl (fun K hK => ?_); apply Exists.intro; refine ⟨?_, ?_⟩; (focus (go_simp; try exact rfl)); go_simp; refine hK _ _ ?_; clear hK K
  refine sq_nil ?_
  refine H2 _ _ ?_
  clear H2 K2
  refine wp_ret ?_
  refine ret_row_tmp Try.results47 rfl _ rfl (M7.row 1 rfl) Try.underlying24 rfl wide_size ⟨rfl, M7.below⟩

set_option maxRecDepth 100000 in
set_option maxHeartbeats 1000000 in
theorem rless_low (a b : Nat) (w : World)
    (HL : Hid (Dt 26 #[.agg (bA a), .agg (bA b)] (.bool true)))
    : Calls Try.prog 48 #[.agg (bA a), .agg (bA b)] w fun e w' => e = .returned (.agg #[.int .u64 0, .int .u64 0]) ∧ Below w.heap.size w w' := by
  have M0 := Has.start w
  go_enter Try.func48, Try.ntmps48
  refine wp_seq_k (fun K1 H1 => ?_)
  refine sq_region ?_
  refine sq_alloc rfl M0 (T := 32) (z := (bA a)) (fun w' => by go_simp) (fun K hK => ?_)
  intro g2 w1 M1
  clear M0
  go_simp; refine hK _ _ ?_; clear hK K
  refine sq_alloc rfl M1 (T := 32) (z := (bA b)) (fun w' => by go_simp) (fun K hK => ?_)
  intro g3 w2 M2
  clear M1
  go_simp; refine hK _ _ ?_; clear hK K
  refine sq_alloc rfl M2 (T := 24) (z := #[.int .u64 0, .int .u64 0]) (fun w' => by go_simp) (fun K hK => ?_)
  intro g4 w3 M3
  clear M2
  go_simp; refine hK _ _ ?_; clear hK K
  refine sq_nil ?_
  refine H1 _ _ ?_
  clear H1 K1
  refine wp_seq_k (fun K2 H2 => ?_)
  refine wp_seq_k (fun K3 H3 => ?_)
  refine sq_region ?_
  refine sq_ex rfl (fun K hK => ?_); refine ⟨_, run_ld rfl rfl (M3.row 0 rfl) rfl Try.underlying32 (bits_size _), ?_⟩; go_simp; refine hK _ _ ?_; clear hK K
  refine sq_ex rfl (fun K hK => ?_); refine ⟨_, run_ld rfl rfl (M3.row 1 rfl) rfl Try.underlying32 (bits_size _), ?_⟩; go_simp; refine hK _ _ ?_; clear hK K
  refine sq_call rfl (fun w' => by go_simp) (HL.out _) (fun K hK => ?_)
  rintro e w4 ⟨rfl, hb⟩
  refine ⟨_, rfl, ?_⟩
  have M4 := M3.kept hb
  clear M3 hb
  go_simp; refine hK _ _ ?_; clear hK K
  refine sq_nil ?_
  refine H3 _ _ ?_
  clear H3 K3
  refine wp_cond_true rfl ?_
  refine wp_seq_k (fun K4 H4 => ?_)
  refine sq_region ?_
  refine sq_ex rfl (fun K hK => ?_); apply Exists.intro; refine ⟨?_, ?_⟩; (focus (go_simp; try exact rfl)); go_simp; refine hK _ _ ?_; clear hK K
  refine sq_store rfl M4 2 rfl (run_st (cs := #[.int .u64 0, .int .u64 0]) rfl rfl rfl wide_size rfl (by simp [Value.oneCell'])) (fun K hK => ?_)
  intro w5 M5
  clear M4
  go_simp; refine hK _ _ ?_; clear hK K
  refine sq_nil ?_
  refine H4 _ _ ?_
  clear H4 K4
  refine wp_ret ?_
  refine then_ret ?_
  refine ret_row Try.results48 rfl (M5.row 2 rfl) Try.underlying24 rfl wide_size ⟨rfl, M5.below⟩

set_option maxRecDepth 100000 in
set_option maxHeartbeats 1000000 in
theorem rless_ok (a b t A B : Nat) (w : World)
    (f : Bool)
    (HL : Hid (Dt 26 #[.agg (bA a), .agg (bA b)] (.bool false)))
    (HT : Hid (Dt 31 #[.agg (bA a), .agg (bA b)] (.agg (bA t))))
    (HN : Hid (Dt 20 #[.agg (bA t)] (.tuple #[wv A B, .bool f])))
    : Calls Try.prog 48 #[.agg (bA a), .agg (bA b)] w fun e w' => e = .returned (wv A B) ∧ Below w.heap.size w w' := by
  have M0 := Has.start w
  go_enter Try.func48, Try.ntmps48
  refine wp_seq_k (fun K1 H1 => ?_)
  refine sq_region ?_
  refine sq_alloc rfl M0 (T := 32) (z := (bA a)) (fun w' => by go_simp) (fun K hK => ?_)
  intro g2 w1 M1
  clear M0
  go_simp; refine hK _ _ ?_; clear hK K
  refine sq_alloc rfl M1 (T := 32) (z := (bA b)) (fun w' => by go_simp) (fun K hK => ?_)
  intro g3 w2 M2
  clear M1
  go_simp; refine hK _ _ ?_; clear hK K
  refine sq_alloc rfl M2 (T := 24) (z := #[.int .u64 0, .int .u64 0]) (fun w' => by go_simp) (fun K hK => ?_)
  intro g4 w3 M3
  clear M2
  go_simp; refine hK _ _ ?_; clear hK K
  refine sq_nil ?_
  refine H1 _ _ ?_
  clear H1 K1
  refine wp_seq_k (fun K2 H2 => ?_)
  refine wp_seq_k (fun K3 H3 => ?_)
  refine sq_region ?_
  refine sq_ex rfl (fun K hK => ?_); refine ⟨_, run_ld rfl rfl (M3.row 0 rfl) rfl Try.underlying32 (bits_size _), ?_⟩; go_simp; refine hK _ _ ?_; clear hK K
  refine sq_ex rfl (fun K hK => ?_); refine ⟨_, run_ld rfl rfl (M3.row 1 rfl) rfl Try.underlying32 (bits_size _), ?_⟩; go_simp; refine hK _ _ ?_; clear hK K
  refine sq_call rfl (fun w' => by go_simp) (HL.out _) (fun K hK => ?_)
  rintro e w4 ⟨rfl, hb⟩
  refine ⟨_, rfl, ?_⟩
  have M4 := M3.kept hb
  clear M3 hb
  go_simp; refine hK _ _ ?_; clear hK K
  refine sq_nil ?_
  refine H3 _ _ ?_
  clear H3 K3
  refine wp_cond_false rfl ?_
  refine wp_skip ?_
  refine H2 _ _ ?_
  clear H2 K2
  refine wp_seq_k (fun K4 H4 => ?_)
  refine sq_region ?_
  refine sq_ex rfl (fun K hK => ?_); refine ⟨_, run_ld rfl rfl (M4.row 0 rfl) rfl Try.underlying32 (bits_size _), ?_⟩; go_simp; refine hK _ _ ?_; clear hK K
  refine sq_ex rfl (fun K hK => ?_); refine ⟨_, run_ld rfl rfl (M4.row 1 rfl) rfl Try.underlying32 (bits_size _), ?_⟩; go_simp; refine hK _ _ ?_; clear hK K
  refine sq_call rfl (fun w' => by go_simp) (HT.out _) (fun K hK => ?_)
  rintro e w5 ⟨rfl, hb⟩
  refine ⟨_, rfl, ?_⟩
  have M5 := M4.kept hb
  clear M4 hb
  go_simp; refine hK _ _ ?_; clear hK K
  refine sq_call rfl (fun w' => by go_simp) (HN.out _) (fun K hK => ?_)
  rintro e w6 ⟨rfl, hb⟩
  refine ⟨_, rfl, ?_⟩
  have M6 := M5.kept hb
  clear M5 hb
  go_simp; refine hK _ _ ?_; clear hK K
  refine sq_ex rfl (fun K hK => ?_); apply Exists.intro; refine ⟨?_, ?_⟩; (focus (go_simp; try exact rfl)); go_simp; refine hK _ _ ?_; clear hK K
  refine sq_ex rfl (fun K hK => ?_); apply Exists.intro; refine ⟨?_, ?_⟩; (focus (go_simp; try exact rfl)); go_simp; refine hK _ _ ?_; clear hK K
  refine sq_ex rfl (fun K hK => ?_); apply Exists.intro; refine ⟨?_, ?_⟩; (focus (go_simp; try exact rfl)); go_simp; refine hK _ _ ?_; clear hK K
  refine sq_alloc rfl M6 (T := 24) (z := #[.int .u64 0, .int .u64 0]) (fun w' => by go_simp) (fun K hK => ?_)
  intro g5 w7 M7
  clear M6
  go_simp; refine hK _ _ ?_; clear hK K
  refine sq_store rfl M7 3 rfl (run_st (cs := #[.int .u64 A, .int .u64 B]) rfl rfl rfl wide_size rfl (by simp [Value.oneCell'])) (fun K hK => ?_)
  intro w8 M8
  clear M7
  go_simp; refine hK _ _ ?_; clear hK K
  refine sq_ex rfl (fun K hK => ?_); apply Exists.intro; refine ⟨?_, ?_⟩; (focus (go_simp; try exact rfl)); go_simp; refine hK _ _ ?_; clear hK K
  refine sq_nil ?_
  refine H4 _ _ ?_
  clear H4 K4
  refine wp_seq_k (fun K5 H5 => ?_)
  refine sq_region ?_
  refine sq_ex rfl (fun K hK => ?_); refine ⟨_, run_ld rfl rfl (M8.row 3 rfl) rfl Try.underlying24 wide_size, ?_⟩; go_simp; refine hK _ _ ?_; clear hK K
  refine sq_store rfl M8 2 rfl (run_st (cs := #[.int .u64 A, .int .u64 B]) rfl rfl rfl wide_size rfl (by simp [Value.oneCell'])) (fun K hK => ?_)
  intro w9 M9
  clear M8
  go_simp; refine hK _ _ ?_; clear hK K
  refine sq_nil ?_
  refine H5 _ _ ?_
  clear H5 K5
  refine wp_ret ?_
  refine ret_row Try.results48 rfl (M9.row 2 rfl) Try.underlying24 rfl wide_size ⟨rfl, M9.below⟩

set_option maxRecDepth 100000 in
set_option maxHeartbeats 1000000 in
theorem rover_even (h l x y n p q r s A B : Nat) (w : World)
    (f : Bool)
    (HO : Hid (Dt 19 #[wv h l] (.agg (bA n))))
    (HP : Hid (Dt 25 #[.agg (bA n), .int .u64 y] (.agg (bA p))))
    (HB : Hid (Dt 69 #[.int .u64 x] (.agg (bA x))))
    (HQ : Hid (Dt 18 #[.agg (bA p), .agg (bA x)] (.tuple #[.agg (bA q), .agg (bA r)])))
    (HZ : Hid (∀ w, (binOp .neq 32 (.agg (bA r)) (.agg (bA 0))).run Try.prog w = .ok (.bool false) w))
    (HN : Hid (Dt 68 #[.agg (bA q)] (.tuple #[wv A B, .bool f])))
    : Calls Try.prog 49 #[fv h l x, .int .u64 y] w fun e w' => e = .returned (.tuple #[wv A B, .bool f]) ∧ Below w.heap.size w w' := by
  have M0 := Has.start w
  go_enter Try.func49, Try.ntmps49
  refine wp_seq_k (fun K1 H1 => ?_)
  refine sq_region ?_
  refine sq_alloc rfl M0 (T := 60) (z := #[.int .u64 h, .int .u64 l, .int .u64 x]) (fun w' => by go_simp) (fun K hK => ?_)
  intro g2 w1 M1
  clear M0
  go_simp; refine hK _ _ ?_; clear hK K
  refine sq_alloc rfl M1 (T := 24) (z := #[.int .u64 0, .int .u64 0]) (fun w' => by go_simp) (fun K hK => ?_)
  intro g4 w2 M2
  clear M1
  go_simp; refine hK _ _ ?_; clear hK K
  refine sq_ex rfl (fun K hK => ?_); apply Exists.intro; refine ⟨?_, ?_⟩; (focus (go_simp; try exact rfl)); go_simp; refine hK _ _ ?_; clear hK K
  refine sq_nil ?_
  refine H1 _ _ ?_
  clear H1 K1
  refine wp_seq_k (fun K2 H2 => ?_)
  refine wp_region_rows (L := [(g2, #[.int .u64 h, .int .u64 l, .int .u64 x], 60), (g4, #[.int .u64 0, .int .u64 0], 24)]) [(12, .box 32 (bA 0) 14), (13, .box 32 (bA 0) 15)] [(2, fun v => v = .agg (bA n)), (4, fun v => v = .agg (bA p)), (7, fun v => v = .agg (bA x)), (8, fun v => v = .tuple #[.agg (bA q), .agg (bA r)]), (12, fun v => ∃ g, v = .pointer (some ⟨g, 0, none⟩)), (13, fun v => ∃ g, v = .pointer (some ⟨g, 0, none⟩))] M2 (by kernel_rfl) (by kernel_rfl) (by kernel_rfl) (by kernel_rfl) ?_
  refine rs_ex rfl rfl rfl rfl rfl ⟨_, M2⟩ (fun K hK => ?_); apply Exists.intro; refine ⟨fun w' hw => ?_, ?_⟩; (focus (go_simp; try exact rfl)); go_simp; refine hK _ ?_; clear hK K
  refine rs_ex rfl rfl rfl rfl rfl ⟨_, M2⟩ (fun K hK => ?_); refine ⟨_, fun w' hw => run_ldm [.int .u64 h, .int .u64 l] rfl rfl (hw.row 0 rfl) (fun j v h => by match j with | 0 => simpa using h | 1 => simpa using h | (k + 2) => simp at h) rfl Try.underlying24 wide_size, ?_⟩; go_simp; refine hK _ ?_; clear hK K
  refine rs_call rfl rfl (fun v => v = .agg (bA n)) rfl rfl ⟨_, rfl⟩ (fun w' => by go_simp) (fun w' hw => (HO.out w').mono fun e w'' hh => ⟨_, hh.1, rfl, hh.2⟩) (fun K hK => ?_); rintro _ rfl; go_simp; refine hK _ ?_; clear hK K
  refine rs_ex rfl rfl rfl rfl rfl ⟨_, M2⟩ (fun K hK => ?_); apply Exists.intro; refine ⟨fun w' hw => ?_, ?_⟩; (focus (go_simp; try exact rfl)); go_simp; refine hK _ ?_; clear hK K
  refine rs_call rfl rfl (fun v => v = .agg (bA p)) rfl rfl ⟨_, rfl⟩ (fun w' => by go_simp) (fun w' hw => (HP.out w').mono fun e w'' hh => ⟨_, hh.1, rfl, hh.2⟩) (fun K hK => ?_); rintro _ rfl; go_simp; refine hK _ ?_; clear hK K
  refine rs_ex rfl rfl rfl rfl rfl ⟨_, M2⟩ (fun K hK => ?_); apply Exists.intro; refine ⟨fun w' hw => ?_, ?_⟩; (focus (go_simp; try exact rfl)); go_simp; refine hK _ ?_; clear hK K
  refine rs_ex rfl rfl rfl rfl rfl ⟨_, M2⟩ (fun K hK => ?_); apply Exists.intro; refine ⟨fun w' hw => ?_, ?_⟩; (focus (have c := IsR.cell (hw.row 0 rfl); have f := IsR.froz (hw.row 0 rfl); go_simp; try exact rfl)); go_simp; refine hK _ ?_; clear hK K
  refine rs_call rfl rfl (fun v => v = .agg (bA x)) rfl rfl ⟨_, rfl⟩ (fun w' => by go_simp) (fun w' hw => (HB.out w').mono fun e w'' hh => ⟨_, hh.1, rfl, hh.2⟩) (fun K hK => ?_); rintro _ rfl; go_simp; refine hK _ ?_; clear hK K
  refine rs_call rfl rfl (fun v => v = .tuple #[.agg (bA q), .agg (bA r)]) rfl rfl ⟨_, rfl⟩ (fun w' => by go_simp) (fun w' hw => (HQ.out w').mono fun e w'' hh => ⟨_, hh.1, rfl, hh.2⟩) (fun K hK => ?_); rintro _ rfl; go_simp; refine hK _ ?_; clear hK K
  refine rs_ex rfl rfl rfl rfl rfl ⟨_, M2⟩ (fun K hK => ?_); apply Exists.intro; refine ⟨fun w' hw => ?_, ?_⟩; (focus (go_simp; try exact rfl)); go_simp; refine hK _ ?_; clear hK K
  refine rs_ex rfl rfl rfl rfl rfl ⟨_, M2⟩ (fun K hK => ?_); apply Exists.intro; refine ⟨fun w' hw => ?_, ?_⟩; (focus (go_simp; try exact rfl)); go_simp; refine hK _ ?_; clear hK K
  refine rs_ex rfl rfl rfl rfl rfl ⟨_, M2⟩ (fun K hK => ?_); apply Exists.intro; refine ⟨fun w' hw => ?_, ?_⟩; (focus (go_simp; try exact rfl)); go_simp; refine hK _ ?_; clear hK K
  refine rs_alloc rfl rfl rfl 0 rfl rfl rfl (by decide) (by kernel_rfl) (fun w' => by have hz := bits_zero w'; go_simp) (fun K hK => ?_); intro g6; go_simp; refine hK _ ?_; clear hK K
  refine rs_alloc rfl rfl rfl 1 rfl rfl rfl (by decide) (by kernel_rfl) (fun w' => by have hz := bits_zero w'; go_simp) (fun K hK => ?_); intro g7; go_simp; refine hK _ ?_; clear hK K
  refine rs_store rfl rfl rfl rfl ⟨_, M2⟩ rfl 0 rfl rfl (by decide) rfl rfl (by kernel_rfl) rfl rfl (run_st (cs := (bA q)) rfl rfl rfl (bits_size _) (by rw [bA_size, bA_size]) (bA_oneCell _)) (fun K hK => ?_); go_simp; refine hK _ ?_; clear hK K
  refine rs_store rfl rfl rfl rfl ⟨_, M2⟩ rfl 1 rfl rfl (by decide) rfl rfl (by kernel_rfl) rfl rfl (run_st (cs := (bA r)) rfl rfl rfl (bits_size _) (by rw [bA_size, bA_size]) (bA_oneCell _)) (fun K hK => ?_); go_simp; refine hK _ ?_; clear hK K
  refine rs_nil ?_
  intro w3 M
  have M3 : Has w [(g2, #[.int .u64 h, .int .u64 l, .int .u64 x], 60), (g4, #[.int .u64 0, .int .u64 0], 24), (g6, (bA q), 32), (g7, (bA r), 32)] w3 := M
  clear M2 M
  refine H2 _ _ ?_
  clear H2 K2
  refine wp_seq_k (fun K3 H3 => ?_)
  refine wp_seq_k (fun K4 H4 => ?_)
  refine sq_region ?_
  refine sq_ex rfl (fun K hK => ?_); refine ⟨_, run_ld rfl rfl (M3.row 3 rfl) rfl Try.underlying32 (bits_size _), ?_⟩; go_simp; refine hK _ _ ?_; clear hK K
  refine sq_ex rfl (fun K hK => ?_); refine ⟨.agg (bA 0), ?_, ?_⟩; (focus (have hz := bits_zero; go_simp)); go_simp; refine hK _ _ ?_; clear hK K
  refine sq_ex rfl (fun K hK => ?_); refine ⟨.bool false, ?_, ?_⟩; (focus (have hz := HZ.out; go_simp)); go_simp; refine hK _ _ ?_; clear hK K
  refine sq_nil ?_
  refine H4 _ _ ?_
  clear H4 K4
  refine wp_cond_false rfl ?_
  refine wp_skip ?_
  refine H3 _ _ ?_
  clear H3 K3
  refine wp_seq_k (fun K5 H5 => ?_)
  refine sq_region ?_
  refine sq_ex rfl (fun K hK => ?_); refine ⟨_, run_ld rfl rfl (M3.row 2 rfl) rfl Try.underlying32 (bits_size _), ?_⟩; go_simp; refine hK _ _ ?_; clear hK K
  refine sq_call rfl (fun w' => by go_simp) (HN.out _) (fun K hK => ?_)
  rintro e w4 ⟨rfl, hb⟩
  refine ⟨_, rfl, ?_⟩
  have M4 := M3.kept hb
  clear M3 hb
  go_simp; refine hK _ _ ?_; clear hK K
  refine sq_ex rfl (fun K hK => ?_); apply Exists.intro; refine ⟨?_, ?_⟩; (focus (go_simp; try exact rfl)); go_simp; refine hK _ _ ?_; clear hK K
  refine sq_ex rfl (fun K hK => ?_); apply Exists.intro; refine ⟨?_, ?_⟩; (focus (go_simp; try exact rfl)); go_simp; refine hK _ _ ?_; clear hK K
  refine sq_store rfl M4 1 rfl (run_st (cs := #[.int .u64 A, .int .u64 B]) rfl rfl rfl wide_size rfl (by simp [Value.oneCell'])) (fun K hK => ?_)
  intro w5 M5
  clear M4
  go_simp; refine hK _ _ ?_; clear hK K
  refine sq_ex rfl (fun K hK => ?_); apply Exists.intro; refine ⟨?_, ?_⟩; (focus (go_simp; try exact rfl)); go_simp; refine hK _ _ ?_; clear hK K
  refine sq_nil ?_
  refine H5 _ _ ?_
  clear H5 K5
  refine wp_ret ?_
  refine ret_row_tmp Try.results49 rfl _ rfl (M5.row 1 rfl) Try.underlying24 rfl wide_size ⟨rfl, M5.below⟩

set_option maxRecDepth 100000 in
set_option maxHeartbeats 1000000 in
theorem rover_up (h l x y n p q r s A B : Nat) (w : World)
    (f : Bool)
    (HO : Hid (Dt 19 #[wv h l] (.agg (bA n))))
    (HP : Hid (Dt 25 #[.agg (bA n), .int .u64 y] (.agg (bA p))))
    (HB : Hid (Dt 69 #[.int .u64 x] (.agg (bA x))))
    (HQ : Hid (Dt 18 #[.agg (bA p), .agg (bA x)] (.tuple #[.agg (bA q), .agg (bA r)])))
    (HZ : Hid (∀ w, (binOp .neq 32 (.agg (bA r)) (.agg (bA 0))).run Try.prog w = .ok (.bool true) w))
    (HB1 : Hid (Dt 69 #[.int .u64 1] (.agg (bA 1))))
    (HS : Hid (Dt 29 #[.agg (bA q), .agg (bA 1)] (.agg (bA s))))
    (HN : Hid (Dt 68 #[.agg (bA s)] (.tuple #[wv A B, .bool f])))
    : Calls Try.prog 49 #[fv h l x, .int .u64 y] w fun e w' => e = .returned (.tuple #[wv A B, .bool f]) ∧ Below w.heap.size w w' := by
  have M0 := Has.start w
  go_enter Try.func49, Try.ntmps49
  refine wp_seq_k (fun K1 H1 => ?_)
  refine sq_region ?_
  refine sq_alloc rfl M0 (T := 60) (z := #[.int .u64 h, .int .u64 l, .int .u64 x]) (fun w' => by go_simp) (fun K hK => ?_)
  intro g2 w1 M1
  clear M0
  go_simp; refine hK _ _ ?_; clear hK K
  refine sq_alloc rfl M1 (T := 24) (z := #[.int .u64 0, .int .u64 0]) (fun w' => by go_simp) (fun K hK => ?_)
  intro g4 w2 M2
  clear M1
  go_simp; refine hK _ _ ?_; clear hK K
  refine sq_ex rfl (fun K hK => ?_); apply Exists.intro; refine ⟨?_, ?_⟩; (focus (go_simp; try exact rfl)); go_simp; refine hK _ _ ?_; clear hK K
  refine sq_nil ?_
  refine H1 _ _ ?_
  clear H1 K1
  refine wp_seq_k (fun K2 H2 => ?_)
  refine wp_region_rows (L := [(g2, #[.int .u64 h, .int .u64 l, .int .u64 x], 60), (g4, #[.int .u64 0, .int .u64 0], 24)]) [(12, .box 32 (bA 0) 14), (13, .box 32 (bA 0) 15)] [(2, fun v => v = .agg (bA n)), (4, fun v => v = .agg (bA p)), (7, fun v => v = .agg (bA x)), (8, fun v => v = .tuple #[.agg (bA q), .agg (bA r)]), (12, fun v => ∃ g, v = .pointer (some ⟨g, 0, none⟩)), (13, fun v => ∃ g, v = .pointer (some ⟨g, 0, none⟩))] M2 (by kernel_rfl) (by kernel_rfl) (by kernel_rfl) (by kernel_rfl) ?_
  refine rs_ex rfl rfl rfl rfl rfl ⟨_, M2⟩ (fun K hK => ?_); apply Exists.intro; refine ⟨fun w' hw => ?_, ?_⟩; (focus (go_simp; try exact rfl)); go_simp; refine hK _ ?_; clear hK K
  refine rs_ex rfl rfl rfl rfl rfl ⟨_, M2⟩ (fun K hK => ?_); refine ⟨_, fun w' hw => run_ldm [.int .u64 h, .int .u64 l] rfl rfl (hw.row 0 rfl) (fun j v h => by match j with | 0 => simpa using h | 1 => simpa using h | (k + 2) => simp at h) rfl Try.underlying24 wide_size, ?_⟩; go_simp; refine hK _ ?_; clear hK K
  refine rs_call rfl rfl (fun v => v = .agg (bA n)) rfl rfl ⟨_, rfl⟩ (fun w' => by go_simp) (fun w' hw => (HO.out w').mono fun e w'' hh => ⟨_, hh.1, rfl, hh.2⟩) (fun K hK => ?_); rintro _ rfl; go_simp; refine hK _ ?_; clear hK K
  refine rs_ex rfl rfl rfl rfl rfl ⟨_, M2⟩ (fun K hK => ?_); apply Exists.intro; refine ⟨fun w' hw => ?_, ?_⟩; (focus (go_simp; try exact rfl)); go_simp; refine hK _ ?_; clear hK K
  refine rs_call rfl rfl (fun v => v = .agg (bA p)) rfl rfl ⟨_, rfl⟩ (fun w' => by go_simp) (fun w' hw => (HP.out w').mono fun e w'' hh => ⟨_, hh.1, rfl, hh.2⟩) (fun K hK => ?_); rintro _ rfl; go_simp; refine hK _ ?_; clear hK K
  refine rs_ex rfl rfl rfl rfl rfl ⟨_, M2⟩ (fun K hK => ?_); apply Exists.intro; refine ⟨fun w' hw => ?_, ?_⟩; (focus (go_simp; try exact rfl)); go_simp; refine hK _ ?_; clear hK K
  refine rs_ex rfl rfl rfl rfl rfl ⟨_, M2⟩ (fun K hK => ?_); apply Exists.intro; refine ⟨fun w' hw => ?_, ?_⟩; (focus (have c := IsR.cell (hw.row 0 rfl); have f := IsR.froz (hw.row 0 rfl); go_simp; try exact rfl)); go_simp; refine hK _ ?_; clear hK K
  refine rs_call rfl rfl (fun v => v = .agg (bA x)) rfl rfl ⟨_, rfl⟩ (fun w' => by go_simp) (fun w' hw => (HB.out w').mono fun e w'' hh => ⟨_, hh.1, rfl, hh.2⟩) (fun K hK => ?_); rintro _ rfl; go_simp; refine hK _ ?_; clear hK K
  refine rs_call rfl rfl (fun v => v = .tuple #[.agg (bA q), .agg (bA r)]) rfl rfl ⟨_, rfl⟩ (fun w' => by go_simp) (fun w' hw => (HQ.out w').mono fun e w'' hh => ⟨_, hh.1, rfl, hh.2⟩) (fun K hK => ?_); rintro _ rfl; go_simp; refine hK _ ?_; clear hK K
  refine rs_ex rfl rfl rfl rfl rfl ⟨_, M2⟩ (fun K hK => ?_); apply Exists.intro; refine ⟨fun w' hw => ?_, ?_⟩; (focus (go_simp; try exact rfl)); go_simp; refine hK _ ?_; clear hK K
  refine rs_ex rfl rfl rfl rfl rfl ⟨_, M2⟩ (fun K hK => ?_); apply Exists.intro; refine ⟨fun w' hw => ?_, ?_⟩; (focus (go_simp; try exact rfl)); go_simp; refine hK _ ?_; clear hK K
  refine rs_ex rfl rfl rfl rfl rfl ⟨_, M2⟩ (fun K hK => ?_); apply Exists.intro; refine ⟨fun w' hw => ?_, ?_⟩; (focus (go_simp; try exact rfl)); go_simp; refine hK _ ?_; clear hK K
  refine rs_alloc rfl rfl rfl 0 rfl rfl rfl (by decide) (by kernel_rfl) (fun w' => by have hz := bits_zero w'; go_simp) (fun K hK => ?_); intro g6; go_simp; refine hK _ ?_; clear hK K
  refine rs_alloc rfl rfl rfl 1 rfl rfl rfl (by decide) (by kernel_rfl) (fun w' => by have hz := bits_zero w'; go_simp) (fun K hK => ?_); intro g7; go_simp; refine hK _ ?_; clear hK K
  refine rs_store rfl rfl rfl rfl ⟨_, M2⟩ rfl 0 rfl rfl (by decide) rfl rfl (by kernel_rfl) rfl rfl (run_st (cs := (bA q)) rfl rfl rfl (bits_size _) (by rw [bA_size, bA_size]) (bA_oneCell _)) (fun K hK => ?_); go_simp; refine hK _ ?_; clear hK K
  refine rs_store rfl rfl rfl rfl ⟨_, M2⟩ rfl 1 rfl rfl (by decide) rfl rfl (by kernel_rfl) rfl rfl (run_st (cs := (bA r)) rfl rfl rfl (bits_size _) (by rw [bA_size, bA_size]) (bA_oneCell _)) (fun K hK => ?_); go_simp; refine hK _ ?_; clear hK K
  refine rs_nil ?_
  intro w3 M
  have M3 : Has w [(g2, #[.int .u64 h, .int .u64 l, .int .u64 x], 60), (g4, #[.int .u64 0, .int .u64 0], 24), (g6, (bA q), 32), (g7, (bA r), 32)] w3 := M
  clear M2 M
  refine H2 _ _ ?_
  clear H2 K2
  refine wp_seq_k (fun K3 H3 => ?_)
  refine wp_seq_k (fun K4 H4 => ?_)
  refine sq_region ?_
  refine sq_ex rfl (fun K hK => ?_); refine ⟨_, run_ld rfl rfl (M3.row 3 rfl) rfl Try.underlying32 (bits_size _), ?_⟩; go_simp; refine hK _ _ ?_; clear hK K
  refine sq_ex rfl (fun K hK => ?_); refine ⟨.agg (bA 0), ?_, ?_⟩; (focus (have hz := bits_zero; go_simp)); go_simp; refine hK _ _ ?_; clear hK K
  refine sq_ex rfl (fun K hK => ?_); refine ⟨.bool true, ?_, ?_⟩; (focus (have hz := HZ.out; go_simp)); go_simp; refine hK _ _ ?_; clear hK K
  refine sq_nil ?_
  refine H4 _ _ ?_
  clear H4 K4
  refine wp_cond_true rfl ?_
  refine wp_region_rows (L := [(g2, #[.int .u64 h, .int .u64 l, .int .u64 x], 60), (g4, #[.int .u64 0, .int .u64 0], 24), (g7, (bA r), 32)]) [(3, .own g6 (bA q) 32)] [(1, fun v => v = .agg (bA 1)), (2, fun v => v = .agg (bA s)), (0, fun v => v = .agg (bA q))] (M3.move 2 rfl) (by kernel_rfl) (by kernel_rfl) (by kernel_rfl) (by kernel_rfl) ?_
  have MB := (M3.move 2 rfl).sub (List.sublist_append_left _ _)
  refine rs_own_ld rfl rfl (.agg (bA q)) rfl rfl 0 3 rfl rfl (by kernel_rfl) (fun w' hg => run_ld rfl rfl hg rfl Try.underlying32 (bits_size _)) (fun K hK => ?_); go_simp; refine hK _ ?_; clear hK K
  refine rs_call rfl rfl (fun v => v = .agg (bA 1)) rfl rfl ⟨_, rfl⟩ (fun w' => by go_simp) (fun w' hw => (HB1.out w').mono fun e w'' hh => ⟨_, hh.1, rfl, hh.2⟩) (fun K hK => ?_); rintro _ rfl; go_simp; refine hK _ ?_; clear hK K
  refine rs_call rfl rfl (fun v => v = .agg (bA s)) rfl rfl ⟨_, rfl⟩ (fun w' => by go_simp) (fun w' hw => (HS.out w').mono fun e w'' hh => ⟨_, hh.1, rfl, hh.2⟩) (fun K hK => ?_); rintro _ rfl; go_simp; refine hK _ ?_; clear hK K
  refine rs_own_st rfl rfl rfl rfl ⟨_, MB⟩ rfl 0 rfl rfl rfl (run_st (cs := (bA s)) rfl rfl rfl (bits_size _) (by rw [bA_size, bA_size]) (bA_oneCell _)) (fun K hK => ?_); go_simp; refine hK _ ?_; clear hK K
  refine rs_nil ?_
  intro w4 M
  have M4 : Has w [(g2, #[.int .u64 h, .int .u64 l, .int .u64 x], 60), (g4, #[.int .u64 0, .int .u64 0], 24), (g7, (bA r), 32), (g6, (bA s), 32)] w4 := M
  clear M3 M MB
  refine H3 _ _ ?_
  clear H3 K3
  refine wp_seq_k (fun K5 H5 => ?_)
  refine sq_region ?_
  refine sq_ex rfl (fun K hK => ?_); refine ⟨_, run_ld rfl rfl (M4.row 3 rfl) rfl Try.underlying32 (bits_size _), ?_⟩; go_simp; refine hK _ _ ?_; clear hK K
  refine sq_call rfl (fun w' => by go_simp) (HN.out _) (fun K hK => ?_)
  rintro e w5 ⟨rfl, hb⟩
  refine ⟨_, rfl, ?_⟩
  have M5 := M4.kept hb
  clear M4 hb
  go_simp; refine hK _ _ ?_; clear hK K
  refine sq_ex rfl (fun K hK => ?_); apply Exists.intro; refine ⟨?_, ?_⟩; (focus (go_simp; try exact rfl)); go_simp; refine hK _ _ ?_; clear hK K
  refine sq_ex rfl (fun K hK => ?_); apply Exists.intro; refine ⟨?_, ?_⟩; (focus (go_simp; try exact rfl)); go_simp; refine hK _ _ ?_; clear hK K
  refine sq_store rfl M5 1 rfl (run_st (cs := #[.int .u64 A, .int .u64 B]) rfl rfl rfl wide_size rfl (by simp [Value.oneCell'])) (fun K hK => ?_)
  intro w6 M6
  clear M5
  go_simp; refine hK _ _ ?_; clear hK K
  refine sq_ex rfl (fun K hK => ?_); apply Exists.intro; refine ⟨?_, ?_⟩; (focus (go_simp; try exact rfl)); go_simp; refine hK _ _ ?_; clear hK K
  refine sq_nil ?_
  refine H5 _ _ ?_
  clear H5 K5
  refine wp_ret ?_
  refine ret_row_tmp Try.results49 rfl _ rfl (M6.row 1 rfl) Try.underlying24 rfl wide_size ⟨rfl, M6.below⟩

end Go.Proofs.Ytpjdojnbajoafaa
