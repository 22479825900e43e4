/- The law FracEnds: walks. -/
import Derived.Test.YtpjdojnbajoafaaFt
import Derived.Test.YtpjdojnbajoafaaFe
import Derived.Test.YtpjdojnbajoafaaAp
import Derived.LoopTactic
namespace Go.Proofs.Ytpjdojnbajoafaa
open Go Go.RowKit
theorem frac_info' : ∃ i, Try.prog.info? 60 = some i ∧ i.zero = some (.agg #[.int .u64 0, .int .u64 0, .int .u64 0]) ∧ i.size = 3 ∧ i.bytes = 24 := by
  have h : (Try.prog.info? 60).map (fun i => (i.zero, i.size, i.bytes)) = some (some (.agg #[.int .u64 0, .int .u64 0, .int .u64 0]), 3, 24) := by kernel_rfl
  cases e : Try.prog.info? 60 with
  | none => rw [e] at h; cases h
  | some i => rw [e] at h; simp at h; exact ⟨i, rfl, h.1, h.2.1, h.2.2⟩
theorem frac_cellsL {cs : List Value} {k : Nat} {a b c : Value} (h : cs[3 * k]? = some a ∧ cs[3 * k + 1]? = some b ∧ cs[3 * k + 2]? = some c) : ∀ j v, [a, b, c][j]? = some v → cs[3 * k + j]? = some v := by
  intro j v hj
  match j with
  | 0 => simp at hj; subst hj; exact h.1
  | 1 => simp at hj; subst hj; exact h.2.1
  | 2 => simp at hj; subst hj; exact h.2.2
  | (j + 3) => simp at hj
theorem rightB_succ (k : Nat) (H W : Nat → Nat) : rightB (k + 1) H W = (rightB k H W && okF (H k) (W k)) := by unfold rightB; rw [List.range_succ, List.all_append]; simp
theorem cell_at {w w1 : World} {b off j : Nat} {v : Value} (hb : b < w.heap.size) (h : Below w.heap.size w w1) (hv : w.cell? ((⟨b, off, none⟩ : Addr).add j) = some v) : w1.cell? ⟨b, off + j, none⟩ = some v := by
  have e : (⟨b, off, none⟩ : Addr).add j = ⟨b, off + j, none⟩ := by unfold Addr.add; split <;> simp_all
  rw [e] at hv
  exact (h.cell (p := ⟨b, off + j, none⟩) hb).trans hv
section
variable {P : Program} {w : World} {o : Oper} {a : Act} {T : TypeId} {x : Operand} {d : TypeDesc}
/-- Some cells of the memory are read. -/
theorem run_ldc {b off : Nat} (vs : List Value) (ho : o.op = .load T x) (hx : a.eval x = .pointer (some ⟨b, off, none⟩)) (hv : ∀ j v, vs[j]? = some v → w.cell? ⟨b, off + j, none⟩ = some v) (hd : d.isRow = true) (hu : P.underlying T = some d) (hi : (P.info? T).map (·.size) = some vs.length) :
    (execOp a.eval o).run P w = .ok (.value (.agg vs.toArray)) w := by
  unfold execOp
  simp only [ho, hx, Instr.loadAt, Instr.sureAddr, Sem.run_bind, Sem.run_pure, Result.andThen_ok, run_loadVar_mid w b off T vs d hv hu hd hi]
end

set_option maxRecDepth 100000 in
set_option maxHeartbeats 1000000 in
theorem lends_big (n cap b off : Nat) (news : List Value) (H L W : Nat → Nat) (aM aL : Nat → Nat → Bool) (w : World)
    (hb : b < w.heap.size)
    (hn : (100 : Int) < n)
    : Calls Try.prog 9 #[.slice (some ⟨b, off, none⟩) n cap] w fun e w' => e = .returned (.bool true) ∧ Below w.heap.size w w' := by
  have M0 := Has.start w
  go_enter Try.func9, Try.ntmps9
  refine wp_seq_k (fun K1 H1 => ?_)
  refine sq_region ?_
  refine sq_ex rfl (fun K hK => ?_); apply Exists.intro; refine ⟨?_, ?_⟩; (focus (go_simp; try exact rfl)); go_simp; refine hK _ _ ?_; clear hK K
  refine sq_nil ?_
  refine H1 _ _ ?_
  clear H1 K1
  refine wp_seq_k (fun K2 H2 => ?_)
  refine wp_seq_k (fun K3 H3 => ?_)
  refine sq_region ?_
  refine sq_call rfl (fun w' => by go_simp) (wakes5 _) (fun K hK => ?_)
  rintro e w1 ⟨rfl, hb⟩
  refine ⟨_, rfl, ?_⟩
  have M1 := M0.kept hb
  clear M0 hb
  go_simp; refine hK _ _ ?_; clear hK K
  refine sq_ex rfl (fun K hK => ?_); apply Exists.intro; refine ⟨?_, ?_⟩; (focus (go_simp; try exact rfl)); go_simp; refine hK _ _ ?_; clear hK K
  refine sq_nil ?_
  refine H3 _ _ ?_
  clear H3 K3
  refine wp_cond_false rfl ?_
  refine wp_skip ?_
  refine H2 _ _ ?_
  clear H2 K2
  refine wp_seq_k (fun K4 H4 => ?_)
  refine wp_seq_k (fun K5 H5 => ?_)
  refine sq_region ?_
  refine sq_ex rfl (fun K hK => ?_); apply Exists.intro; refine ⟨?_, ?_⟩; (focus (go_simp; try exact rfl)); go_simp; refine hK _ _ ?_; clear hK K
  refine sq_ex rfl (fun K hK => ?_); apply Exists.intro; refine ⟨?_, ?_⟩; (focus (go_simp; try exact rfl)); go_simp; refine hK _ _ ?_; clear hK K
  refine sq_ex rfl (fun K hK => ?_); refine ⟨.bool true, ?_, ?_⟩; (focus (go_simp; try (first | omega | (simp; done) | (simp; omega)))); go_simp; refine hK _ _ ?_; clear hK K
  refine sq_nil ?_
  refine H5 _ _ ?_
  clear H5 K5
  refine wp_cond_true rfl ?_
  refine wp_seq_k (fun K6 H6 => ?_)
  refine sq_region ?_
  refine sq_ex rfl (fun K hK => ?_); apply Exists.intro; refine ⟨?_, ?_⟩; (focus (go_simp; try exact rfl)); go_simp; refine hK _ _ ?_; clear hK K
  refine sq_nil ?_
  refine H6 _ _ ?_
  clear H6 K6
  refine wp_ret ?_
  go_ret
  exact ⟨rfl, M1.below⟩

set_option maxRecDepth 100000 in
set_option maxHeartbeats 1000000 in
theorem lends_nil (n cap b off : Nat) (news : List Value) (H L W : Nat → Nat) (aM aL : Nat → Nat → Bool) (w : World)
    (HM : Hid (∀ w g cap cs, OwnS 3 [] 0 cap cs → IsR w g cs 60 → Calls Try.prog 35 #[.slice (some ⟨g, 0, none⟩) 0 cap] w fun e w' => e = .returned (.tuple #[.int .i64 0, .bool false]) ∧ Below w.heap.size w w'))
    (HL : Hid (∀ w g cap cs, OwnS 3 [] 0 cap cs → IsR w g cs 60 → Calls Try.prog 36 #[.slice (some ⟨g, 0, none⟩) 0 cap] w fun e w' => e = .returned (.tuple #[.int .i64 0, .bool false]) ∧ Below w.heap.size w w'))
    : Calls Try.prog 9 #[.slice none 0 0] w fun e w' => e = .returned (.bool true) ∧ Below w.heap.size w w' := by
  have M0 := Has.start w
  go_enter Try.func9, Try.ntmps9
  refine wp_seq_k (fun K1 H1 => ?_)
  refine sq_region ?_
  refine sq_ex rfl (fun K hK => ?_); apply Exists.intro; refine ⟨?_, ?_⟩; (focus (go_simp; try exact rfl)); go_simp; refine hK _ _ ?_; clear hK K
  refine sq_nil ?_
  refine H1 _ _ ?_
  clear H1 K1
  refine wp_seq_k (fun K2 H2 => ?_)
  refine wp_seq_k (fun K3 H3 => ?_)
  refine sq_region ?_
  refine sq_call rfl (fun w' => by go_simp) (wakes5 _) (fun K hK => ?_)
  rintro e w1 ⟨rfl, hb⟩
  refine ⟨_, rfl, ?_⟩
  have M1 := M0.kept hb
  clear M0 hb
  go_simp; refine hK _ _ ?_; clear hK K
  refine sq_ex rfl (fun K hK => ?_); apply Exists.intro; refine ⟨?_, ?_⟩; (focus (go_simp; try exact rfl)); go_simp; refine hK _ _ ?_; clear hK K
  refine sq_nil ?_
  refine H3 _ _ ?_
  clear H3 K3
  refine wp_cond_false rfl ?_
  refine wp_skip ?_
  refine H2 _ _ ?_
  clear H2 K2
  refine wp_seq_k (fun K4 H4 => ?_)
  refine wp_seq_k (fun K5 H5 => ?_)
  refine sq_region ?_
  refine sq_ex rfl (fun K hK => ?_); apply Exists.intro; refine ⟨?_, ?_⟩; (focus (go_simp; try exact rfl)); go_simp; refine hK _ _ ?_; clear hK K
  refine sq_ex rfl (fun K hK => ?_); apply Exists.intro; refine ⟨?_, ?_⟩; (focus (go_simp; try exact rfl)); go_simp; refine hK _ _ ?_; clear hK K
  refine sq_ex rfl (fun K hK => ?_); refine ⟨.bool false, ?_, ?_⟩; (focus (go_simp; try (first | omega | (simp; done) | (simp; omega)))); go_simp; refine hK _ _ ?_; clear hK K
  refine sq_nil ?_
  refine H5 _ _ ?_
  clear H5 K5
  refine wp_cond_false rfl ?_
  refine wp_skip ?_
  refine H4 _ _ ?_
  clear H4 K4
  refine wp_seq_k (fun K6 H6 => ?_)
  refine sq_region ?_
  refine sq_new rfl M1 (fun g => .slice (some ⟨g, 0, none⟩) 0 0) (T := 60) (z := #[]) (fun w' => by go_simp) (fun K hK => ?_)
  intro g19 w2 M2
  clear M1
  go_simp; refine hK _ _ ?_; clear hK K
  refine sq_ex rfl (fun K hK => ?_); apply Exists.intro; refine ⟨?_, ?_⟩; (focus (go_simp; try exact rfl)); go_simp; refine hK _ _ ?_; clear hK K
  obtain ⟨fi, hfi, hfz, hfs, hfb⟩ := frac_info'
  have fi_size := hfs
  have E0 : OwnS fi.size [] 0 0 #[] := ⟨by simp, Nat.le_refl _, Nat.zero_le _, by simp, by simp⟩
  refine sq_append rfl M2 (.tmp 19) (.tmp 20) 56 56 rfl 60 fi _ Try.underlying56 hfi hfz (by rw [hfs]; rfl) (by rw [hfs]; decide) 0 rfl rfl E0 (m := 0) (news := []) (Src.ofNil _ Try.underlying56 0) (by decide) (by rw [hfb]; decide) (fun K hK => ?_)
  intro g21a cap21 cs21 w3 HO M
  rw [hfs, Nat.zero_add, List.nil_append] at HO
  have HO21 := Lib.hid HO
  clear HO hfi hfz hfs hfb fi_size E0
  have M3 : Has w [(g21a, cs21, 60)] w3 := M
  clear M2 M
  rw [Nat.zero_add]; go_simp; refine hK _ _ ?_; clear hK K
  refine sq_call rfl (fun w' => by go_simp) (HM.out _ _ _ _ HO21.out (M3.row 0 rfl)) (fun K hK => ?_)
  rintro e w4 ⟨rfl, hb⟩
  refine ⟨_, rfl, ?_⟩
  have M4 := M3.kept hb
  clear M3 hb
  go_simp; refine hK _ _ ?_; clear hK K
  refine sq_ex rfl (fun K hK => ?_); apply Exists.intro; refine ⟨?_, ?_⟩; (focus (go_simp; try exact rfl)); go_simp; refine hK _ _ ?_; clear hK K
  refine sq_ex rfl (fun K hK => ?_); apply Exists.intro; refine ⟨?_, ?_⟩; (focus (go_simp; try exact rfl)); go_simp; refine hK _ _ ?_; clear hK K
  refine sq_ex rfl (fun K hK => ?_); apply Exists.intro; refine ⟨?_, ?_⟩; (focus (go_simp; try exact rfl)); go_simp; refine hK _ _ ?_; clear hK K
  refine sq_ex rfl (fun K hK => ?_); apply Exists.intro; refine ⟨?_, ?_⟩; (focus (go_simp; try exact rfl)); go_simp; refine hK _ _ ?_; clear hK K
  refine sq_ex rfl (fun K hK => ?_); apply Exists.intro; refine ⟨?_, ?_⟩; (focus (go_simp; try exact rfl)); go_simp; refine hK _ _ ?_; clear hK K
  refine sq_nil ?_
  refine H6 _ _ ?_
  clear H6 K6
  refine wp_seq_k (fun K7 H7 => ?_)
  refine sq_region ?_
  refine sq_new rfl M4 (fun g => .slice (some ⟨g, 0, none⟩) 0 0) (T := 60) (z := #[]) (fun w' => by go_simp) (fun K hK => ?_)
  intro g26 w5 M5
  clear M4
  go_simp; refine hK _ _ ?_; clear hK K
  refine sq_ex rfl (fun K hK => ?_); apply Exists.intro; refine ⟨?_, ?_⟩; (focus (go_simp; try exact rfl)); go_simp; refine hK _ _ ?_; clear hK K
  obtain ⟨fi, hfi, hfz, hfs, hfb⟩ := frac_info'
  have fi_size := hfs
  have E0 : OwnS fi.size [] 0 0 #[] := ⟨by simp, Nat.le_refl _, Nat.zero_le _, by simp, by simp⟩
  refine sq_append rfl M5 (.tmp 26) (.tmp 27) 56 56 rfl 60 fi _ Try.underlying56 hfi hfz (by rw [hfs]; rfl) (by rw [hfs]; decide) 1 rfl rfl E0 (m := 0) (news := []) (Src.ofNil _ Try.underlying56 0) (by decide) (by rw [hfb]; decide) (fun K hK => ?_)
  intro g28a cap28 cs28 w6 HO M
  rw [hfs, Nat.zero_add, List.nil_append] at HO
  have HO28 := Lib.hid HO
  clear HO hfi hfz hfs hfb fi_size E0
  have M6 : Has w [(g21a, cs21, 60), (g28a, cs28, 60)] w6 := M
  clear M5 M
  rw [Nat.zero_add]; go_simp; refine hK _ _ ?_; clear hK K
  refine sq_call rfl (fun w' => by go_simp) (HL.out _ _ _ _ HO28.out (M6.row 1 rfl)) (fun K hK => ?_)
  rintro e w7 ⟨rfl, hb⟩
  refine ⟨_, rfl, ?_⟩
  have M7 := M6.kept hb
  clear M6 hb
  go_simp; refine hK _ _ ?_; clear hK K
  refine sq_ex rfl (fun K hK => ?_); apply Exists.intro; refine ⟨?_, ?_⟩; (focus (go_simp; try exact rfl)); go_simp; refine hK _ _ ?_; clear hK K
  refine sq_ex rfl (fun K hK => ?_); apply Exists.intro; refine ⟨?_, ?_⟩; (focus (go_simp; try exact rfl)); go_simp; refine hK _ _ ?_; clear hK K
  refine sq_ex rfl (fun K hK => ?_); apply Exists.intro; refine ⟨?_, ?_⟩; (focus (go_simp; try exact rfl)); go_simp; refine hK _ _ ?_; clear hK K
  refine sq_ex rfl (fun K hK => ?_); apply Exists.intro; refine ⟨?_, ?_⟩; (focus (go_simp; try exact rfl)); go_simp; refine hK _ _ ?_; clear hK K
  refine sq_ex rfl (fun K hK => ?_); apply Exists.intro; refine ⟨?_, ?_⟩; (focus (go_simp; try exact rfl)); go_simp; refine hK _ _ ?_; clear hK K
  refine sq_nil ?_
  refine H7 _ _ ?_
  clear H7 K7
  refine wp_seq_k (fun K8 H8 => ?_)
  refine sq_region ?_
  refine sq_ex rfl (fun K hK => ?_); apply Exists.intro; refine ⟨?_, ?_⟩; (focus (go_simp; try exact rfl)); go_simp; refine hK _ _ ?_; clear hK K
  refine sq_ex rfl (fun K hK => ?_); apply Exists.intro; refine ⟨?_, ?_⟩; (focus (go_simp; try exact rfl)); go_simp; refine hK _ _ ?_; clear hK K
  refine sq_ex rfl (fun K hK => ?_); refine ⟨.bool false, ?_, ?_⟩; (focus (go_simp; try (first | omega | (simp; done) | (simp; omega)))); go_simp; refine hK _ _ ?_; clear hK K
  refine sq_ex rfl (fun K hK => ?_); apply Exists.intro; refine ⟨?_, ?_⟩; (focus (go_simp; try exact rfl)); go_simp; refine hK _ _ ?_; clear hK K
  refine sq_ex rfl (fun K hK => ?_); apply Exists.intro; refine ⟨?_, ?_⟩; (focus (go_simp; try exact rfl)); go_simp; refine hK _ _ ?_; clear hK K
  refine sq_ex rfl (fun K hK => ?_); apply Exists.intro; refine ⟨?_, ?_⟩; (focus (go_simp; try exact rfl)); go_simp; refine hK _ _ ?_; clear hK K
  refine sq_nil ?_
  refine H8 _ _ ?_
  clear H8 K8
  refine wp_seq_k (fun K9 H9 => ?_)
  refine wp_seq_k (fun K10 H10 => ?_)
  refine sq_region ?_
  refine sq_ex rfl (fun K hK => ?_); apply Exists.intro; refine ⟨?_, ?_⟩; (focus (go_simp; try exact rfl)); go_simp; refine hK _ _ ?_; clear hK K
  refine sq_ex rfl (fun K hK => ?_); apply Exists.intro; refine ⟨?_, ?_⟩; (focus (go_simp; try exact rfl)); go_simp; refine hK _ _ ?_; clear hK K
  refine sq_ex rfl (fun K hK => ?_); apply Exists.intro; refine ⟨?_, ?_⟩; (focus (go_simp; try exact rfl)); go_simp; refine hK _ _ ?_; clear hK K
  refine sq_nil ?_
  refine H10 _ _ ?_
  clear H10 K10
  refine wp_block ?_
  go_loopw [9, 37] (fun u9 t wr => ∃ k : Nat, k ≤ 0 ∧ t = .int .i64 k ∧ u9 = .bool false ∧ Has w [] wr) (fun _ t _ => 0 - (intOf t).toNat)
  case atStart => exact ⟨0, Nat.zero_le _, rfl, rfl, M7.sub (List.nil_sublist _)⟩
  case round =>
    clear M7
    obtain ⟨k, hk, rfl, rfl, M⟩ := hrel
    obtain rfl : k = 0 := by omega
    refine wp_seq_k (fun K11 H11 => ?_)
    refine sq_region ?_
    refine sq_ex rfl (fun K hK => ?_); refine ⟨.bool false, ?_, ?_⟩; (focus (go_simp; try (first | omega | (simp; done) | (simp; omega)))); go_simp; refine hK _ _ ?_; clear hK K
    refine sq_nil ?_
    refine H11 _ _ ?_
    clear H11 K11
    refine wp_seq_k (fun K12 H12 => ?_)
    refine wp_cond_false rfl ?_
    refine wp_exit ?_
    refine then_exit ?_
    clear H12 K12
    refine then_exit ?_
    refine exit_here ?_
    refine H9 _ _ ?_
    clear H9 K9
    refine wp_seq_k (fun K13 H13 => ?_)
    refine wp_seq_k (fun K14 H14 => ?_)
    refine sq_region ?_
    refine sq_ex rfl (fun K hK => ?_); apply Exists.intro; refine ⟨?_, ?_⟩; (focus (go_simp; try exact rfl)); go_simp; refine hK _ _ ?_; clear hK K
    refine sq_nil ?_
    refine H14 _ _ ?_
    clear H14 K14
    refine wp_block ?_
    go_loopw [7, 8, 12] (fun u7 u8 t wr => ∃ k : Nat, k ≤ 0 ∧ t = .int .i64 k ∧ u7 = .int .i64 (0 : Nat) ∧ u8 = .int .i64 (0 : Nat) ∧ Has w [] wr) (fun _ _ t _ => 0 - (intOf t).toNat)
    case atStart => exact ⟨0, Nat.zero_le _, rfl, rfl, rfl, M.sub (List.nil_sublist _)⟩
    case round =>
      clear M
      obtain ⟨k, hk, rfl, rfl, rfl, M⟩ := hrel
      obtain rfl : k = 0 := by omega
      refine wp_seq_k (fun K15 H15 => ?_)
      refine wp_seq_k (fun K16 H16 => ?_)
      refine sq_region ?_
      refine sq_ex rfl (fun K hK => ?_); apply Exists.intro; refine ⟨?_, ?_⟩; (focus (go_simp; try exact rfl)); go_simp; refine hK _ _ ?_; clear hK K
      refine sq_ex rfl (fun K hK => ?_); apply Exists.intro; refine ⟨?_, ?_⟩; (focus (go_simp; try exact rfl)); go_simp; refine hK _ _ ?_; clear hK K
      refine sq_ex rfl (fun K hK => ?_); apply Exists.intro; refine ⟨?_, ?_⟩; (focus (go_simp; try exact rfl)); go_simp; refine hK _ _ ?_; clear hK K
      refine sq_ex rfl (fun K hK => ?_); refine ⟨.bool false, ?_, ?_⟩; (focus (go_simp; try (first | omega | (simp; done) | (simp; omega)))); go_simp; refine hK _ _ ?_; clear hK K
      refine sq_ex rfl (fun K hK => ?_); apply Exists.intro; refine ⟨?_, ?_⟩; (focus (go_simp; try exact rfl)); go_simp; refine hK _ _ ?_; clear hK K
      refine sq_not rfl (fun K hK => ?_); go_simp; refine hK _ _ ?_; clear hK K
      refine sq_ex rfl (fun K hK => ?_); apply Exists.intro; refine ⟨?_, ?_⟩; (focus (go_simp; try exact rfl)); go_simp; refine hK _ _ ?_; clear hK K
      refine sq_nil ?_
      refine H16 _ _ ?_
      clear H16 K16
      refine wp_cond_false rfl ?_
      refine wp_exit ?_
      refine then_exit ?_
      clear H15 K15
      refine then_exit ?_
      refine exit_here ?_
      refine H13 _ _ ?_
      clear H13 K13
      refine wp_seq_k (fun K17 H17 => ?_)
      refine sq_region ?_
      refine sq_ex rfl (fun K hK => ?_); apply Exists.intro; refine ⟨?_, ?_⟩; (focus (go_simp; try exact rfl)); go_simp; refine hK _ _ ?_; clear hK K
      refine sq_ex rfl (fun K hK => ?_); apply Exists.intro; refine ⟨?_, ?_⟩; (focus (go_simp; try exact rfl)); go_simp; refine hK _ _ ?_; clear hK K
      refine sq_ex rfl (fun K hK => ?_); refine ⟨.bool true, ?_, ?_⟩; (focus (go_simp; try (first | omega | (simp; done) | (simp; omega)))); go_simp; refine hK _ _ ?_; clear hK K
      refine sq_ex rfl (fun K hK => ?_); apply Exists.intro; refine ⟨?_, ?_⟩; (focus (go_simp; try exact rfl)); go_simp; refine hK _ _ ?_; clear hK K
      refine sq_ex rfl (fun K hK => ?_); apply Exists.intro; refine ⟨?_, ?_⟩; (focus (go_simp; try exact rfl)); go_simp; refine hK _ _ ?_; clear hK K
      refine sq_ex rfl (fun K hK => ?_); apply Exists.intro; refine ⟨?_, ?_⟩; (focus (go_simp; try exact rfl)); go_simp; refine hK _ _ ?_; clear hK K
      refine sq_ex rfl (fun K hK => ?_); refine ⟨.bool true, ?_, ?_⟩; (focus (go_simp; try (first | omega | (simp; done) | (simp; omega)))); go_simp; refine hK _ _ ?_; clear hK K
      refine sq_ex rfl (fun K hK => ?_); apply Exists.intro; refine ⟨?_, ?_⟩; (focus (go_simp; try exact rfl)); go_simp; refine hK _ _ ?_; clear hK K
      refine sq_ex rfl (fun K hK => ?_); apply Exists.intro; refine ⟨?_, ?_⟩; (focus (go_simp; try exact rfl)); go_simp; refine hK _ _ ?_; clear hK K
      refine sq_ex rfl (fun K hK => ?_); apply Exists.intro; refine ⟨?_, ?_⟩; (focus (go_simp; try exact rfl)); go_simp; refine hK _ _ ?_; clear hK K
      refine sq_ex rfl (fun K hK => ?_); apply Exists.intro; refine ⟨?_, ?_⟩; (focus (go_simp; try exact rfl)); go_simp; refine hK _ _ ?_; clear hK K
      refine sq_ex rfl (fun K hK => ?_); refine ⟨.bool true, ?_, ?_⟩; (focus (go_simp; try (first | omega | (simp; done) | (simp; omega)))); go_simp; refine hK _ _ ?_; clear hK K
      refine sq_ex rfl (fun K hK => ?_); apply Exists.intro; refine ⟨?_, ?_⟩; (focus (go_simp; try exact rfl)); go_simp; refine hK _ _ ?_; clear hK K
      refine sq_ex rfl (fun K hK => ?_); apply Exists.intro; refine ⟨?_, ?_⟩; (focus (go_simp; try exact rfl)); go_simp; refine hK _ _ ?_; clear hK K
      refine sq_ex rfl (fun K hK => ?_); apply Exists.intro; refine ⟨?_, ?_⟩; (focus (go_simp; try exact rfl)); go_simp; refine hK _ _ ?_; clear hK K
      refine sq_ex rfl (fun K hK => ?_); apply Exists.intro; refine ⟨?_, ?_⟩; (focus (go_simp; try exact rfl)); go_simp; refine hK _ _ ?_; clear hK K
      refine sq_ex rfl (fun K hK => ?_); refine ⟨.bool true, ?_, ?_⟩; (focus (go_simp; try (first | omega | (simp; done) | (simp; omega)))); go_simp; refine hK _ _ ?_; clear hK K
      refine sq_ex rfl (fun K hK => ?_); apply Exists.intro; refine ⟨?_, ?_⟩; (focus (go_simp; try exact rfl)); go_simp; refine hK _ _ ?_; clear hK K
      refine sq_ex rfl (fun K hK => ?_); apply Exists.intro; refine ⟨?_, ?_⟩; (focus (go_simp; try exact rfl)); go_simp; refine hK _ _ ?_; clear hK K
      refine sq_nil ?_
      refine H17 _ _ ?_
      clear H17 K17
      refine wp_ret ?_
      go_ret
      exact ⟨rfl, M.below⟩

set_option maxRecDepth 100000 in
set_option maxHeartbeats 1000000 in
theorem lends_zero (n cap b off : Nat) (news : List Value) (H L W : Nat → Nat) (aM aL : Nat → Nat → Bool) (w : World)
    (a0 : Addr)
    (HM : Hid (∀ w g cap cs, OwnS 3 [] 0 cap cs → IsR w g cs 60 → Calls Try.prog 35 #[.slice (some ⟨g, 0, none⟩) 0 cap] w fun e w' => e = .returned (.tuple #[.int .i64 0, .bool false]) ∧ Below w.heap.size w w'))
    (HL : Hid (∀ w g cap cs, OwnS 3 [] 0 cap cs → IsR w g cs 60 → Calls Try.prog 36 #[.slice (some ⟨g, 0, none⟩) 0 cap] w fun e w' => e = .returned (.tuple #[.int .i64 0, .bool false]) ∧ Below w.heap.size w w'))
    : Calls Try.prog 9 #[.slice (some a0) 0 cap] w fun e w' => e = .returned (.bool true) ∧ Below w.heap.size w w' := by
  have M0 := Has.start w
  go_enter Try.func9, Try.ntmps9
  refine wp_seq_k (fun K1 H1 => ?_)
  refine sq_region ?_
  refine sq_ex rfl (fun K hK => ?_); apply Exists.intro; refine ⟨?_, ?_⟩; (focus (go_simp; try exact rfl)); go_simp; refine hK _ _ ?_; clear hK K
  refine sq_nil ?_
  refine H1 _ _ ?_
  clear H1 K1
  refine wp_seq_k (fun K2 H2 => ?_)
  refine wp_seq_k (fun K3 H3 => ?_)
  refine sq_region ?_
  refine sq_call rfl (fun w' => by go_simp) (wakes5 _) (fun K hK => ?_)
  rintro e w1 ⟨rfl, hb⟩
  refine ⟨_, rfl, ?_⟩
  have M1 := M0.kept hb
  clear M0 hb
  go_simp; refine hK _ _ ?_; clear hK K
  refine sq_ex rfl (fun K hK => ?_); apply Exists.intro; refine ⟨?_, ?_⟩; (focus (go_simp; try exact rfl)); go_simp; refine hK _ _ ?_; clear hK K
  refine sq_nil ?_
  refine H3 _ _ ?_
  clear H3 K3
  refine wp_cond_false rfl ?_
  refine wp_skip ?_
  refine H2 _ _ ?_
  clear H2 K2
  refine wp_seq_k (fun K4 H4 => ?_)
  refine wp_seq_k (fun K5 H5 => ?_)
  refine sq_region ?_
  refine sq_ex rfl (fun K hK => ?_); apply Exists.intro; refine ⟨?_, ?_⟩; (focus (go_simp; try exact rfl)); go_simp; refine hK _ _ ?_; clear hK K
  refine sq_ex rfl (fun K hK => ?_); apply Exists.intro; refine ⟨?_, ?_⟩; (focus (go_simp; try exact rfl)); go_simp; refine hK _ _ ?_; clear hK K
  refine sq_ex rfl (fun K hK => ?_); refine ⟨.bool false, ?_, ?_⟩; (focus (go_simp; try (first | omega | (simp; done) | (simp; omega)))); go_simp; refine hK _ _ ?_; clear hK K
  refine sq_nil ?_
  refine H5 _ _ ?_
  clear H5 K5
  refine wp_cond_false rfl ?_
  refine wp_skip ?_
  refine H4 _ _ ?_
  clear H4 K4
  refine wp_seq_k (fun K6 H6 => ?_)
  refine sq_region ?_
  refine sq_new rfl M1 (fun g => .slice (some ⟨g, 0, none⟩) 0 0) (T := 60) (z := #[]) (fun w' => by go_simp) (fun K hK => ?_)
  intro g19 w2 M2
  clear M1
  go_simp; refine hK _ _ ?_; clear hK K
  refine sq_ex rfl (fun K hK => ?_); apply Exists.intro; refine ⟨?_, ?_⟩; (focus (go_simp; try exact rfl)); go_simp; refine hK _ _ ?_; clear hK K
  obtain ⟨fi, hfi, hfz, hfs, hfb⟩ := frac_info'
  have fi_size := hfs
  have E0 : OwnS fi.size [] 0 0 #[] := ⟨by simp, Nat.le_refl _, Nat.zero_le _, by simp, by simp⟩
  refine sq_append rfl M2 (.tmp 19) (.tmp 20) 56 56 rfl 60 fi _ Try.underlying56 hfi hfz (by rw [hfs]; rfl) (by rw [hfs]; decide) 0 rfl rfl E0 (m := 0) (news := []) (Src.ofSlice _ Try.underlying56 a0 0 cap [] (by rw [Nat.zero_mul]; rfl) (fun j u hj => by simp at hj) (fun _ h => by cases h)) (by decide) (by rw [hfb]; decide) (fun K hK => ?_)
  intro g21a cap21 cs21 w3 HO M
  rw [hfs, Nat.zero_add, List.nil_append] at HO
  have HO21 := Lib.hid HO
  clear HO hfi hfz hfs hfb fi_size E0
  have M3 : Has w [(g21a, cs21, 60)] w3 := M
  clear M2 M
  rw [Nat.zero_add]; go_simp; refine hK _ _ ?_; clear hK K
  refine sq_call rfl (fun w' => by go_simp) (HM.out _ _ _ _ HO21.out (M3.row 0 rfl)) (fun K hK => ?_)
  rintro e w4 ⟨rfl, hb⟩
  refine ⟨_, rfl, ?_⟩
  have M4 := M3.kept hb
  clear M3 hb
  go_simp; refine hK _ _ ?_; clear hK K
  refine sq_ex rfl (fun K hK => ?_); apply Exists.intro; refine ⟨?_, ?_⟩; (focus (go_simp; try exact rfl)); go_simp; refine hK _ _ ?_; clear hK K
  refine sq_ex rfl (fun K hK => ?_); apply Exists.intro; refine ⟨?_, ?_⟩; (focus (go_simp; try exact rfl)); go_simp; refine hK _ _ ?_; clear hK K
  refine sq_ex rfl (fun K hK => ?_); apply Exists.intro; refine ⟨?_, ?_⟩; (focus (go_simp; try exact rfl)); go_simp; refine hK _ _ ?_; clear hK K
  refine sq_ex rfl (fun K hK => ?_); apply Exists.intro; refine ⟨?_, ?_⟩; (focus (go_simp; try exact rfl)); go_simp; refine hK _ _ ?_; clear hK K
  refine sq_ex rfl (fun K hK => ?_); apply Exists.intro; refine ⟨?_, ?_⟩; (focus (go_simp; try exact rfl)); go_simp; refine hK _ _ ?_; clear hK K
  refine sq_nil ?_
  refine H6 _ _ ?_
  clear H6 K6
  refine wp_seq_k (fun K7 H7 => ?_)
  refine sq_region ?_
  refine sq_new rfl M4 (fun g => .slice (some ⟨g, 0, none⟩) 0 0) (T := 60) (z := #[]) (fun w' => by go_simp) (fun K hK => ?_)
  intro g26 w5 M5
  clear M4
  go_simp; refine hK _ _ ?_; clear hK K
  refine sq_ex rfl (fun K hK => ?_); apply Exists.intro; refine ⟨?_, ?_⟩; (focus (go_simp; try exact rfl)); go_simp; refine hK _ _ ?_; clear hK K
  obtain ⟨fi, hfi, hfz, hfs, hfb⟩ := frac_info'
  have fi_size := hfs
  have E0 : OwnS fi.size [] 0 0 #[] := ⟨by simp, Nat.le_refl _, Nat.zero_le _, by simp, by simp⟩
  refine sq_append rfl M5 (.tmp 26) (.tmp 27) 56 56 rfl 60 fi _ Try.underlying56 hfi hfz (by rw [hfs]; rfl) (by rw [hfs]; decide) 1 rfl rfl E0 (m := 0) (news := []) (Src.ofSlice _ Try.underlying56 a0 0 cap [] (by rw [Nat.zero_mul]; rfl) (fun j u hj => by simp at hj) (fun _ h => by cases h)) (by decide) (by rw [hfb]; decide) (fun K hK => ?_)
  intro g28a cap28 cs28 w6 HO M
  rw [hfs, Nat.zero_add, List.nil_append] at HO
  have HO28 := Lib.hid HO
  clear HO hfi hfz hfs hfb fi_size E0
  have M6 : Has w [(g21a, cs21, 60), (g28a, cs28, 60)] w6 := M
  clear M5 M
  rw [Nat.zero_add]; go_simp; refine hK _ _ ?_; clear hK K
  refine sq_call rfl (fun w' => by go_simp) (HL.out _ _ _ _ HO28.out (M6.row 1 rfl)) (fun K hK => ?_)
  rintro e w7 ⟨rfl, hb⟩
  refine ⟨_, rfl, ?_⟩
  have M7 := M6.kept hb
  clear M6 hb
  go_simp; refine hK _ _ ?_; clear hK K
  refine sq_ex rfl (fun K hK => ?_); apply Exists.intro; refine ⟨?_, ?_⟩; (focus (go_simp; try exact rfl)); go_simp; refine hK _ _ ?_; clear hK K
  refine sq_ex rfl (fun K hK => ?_); apply Exists.intro; refine ⟨?_, ?_⟩; (focus (go_simp; try exact rfl)); go_simp; refine hK _ _ ?_; clear hK K
  refine sq_ex rfl (fun K hK => ?_); apply Exists.intro; refine ⟨?_, ?_⟩; (focus (go_simp; try exact rfl)); go_simp; refine hK _ _ ?_; clear hK K
  refine sq_ex rfl (fun K hK => ?_); apply Exists.intro; refine ⟨?_, ?_⟩; (focus (go_simp; try exact rfl)); go_simp; refine hK _ _ ?_; clear hK K
  refine sq_ex rfl (fun K hK => ?_); apply Exists.intro; refine ⟨?_, ?_⟩; (focus (go_simp; try exact rfl)); go_simp; refine hK _ _ ?_; clear hK K
  refine sq_nil ?_
  refine H7 _ _ ?_
  clear H7 K7
  refine wp_seq_k (fun K8 H8 => ?_)
  refine sq_region ?_
  refine sq_ex rfl (fun K hK => ?_); apply Exists.intro; refine ⟨?_, ?_⟩; (focus (go_simp; try exact rfl)); go_simp; refine hK _ _ ?_; clear hK K
  refine sq_ex rfl (fun K hK => ?_); apply Exists.intro; refine ⟨?_, ?_⟩; (focus (go_simp; try exact rfl)); go_simp; refine hK _ _ ?_; clear hK K
  refine sq_ex rfl (fun K hK => ?_); refine ⟨.bool false, ?_, ?_⟩; (focus (go_simp; try (first | omega | (simp; done) | (simp; omega)))); go_simp; refine hK _ _ ?_; clear hK K
  refine sq_ex rfl (fun K hK => ?_); apply Exists.intro; refine ⟨?_, ?_⟩; (focus (go_simp; try exact rfl)); go_simp; refine hK _ _ ?_; clear hK K
  refine sq_ex rfl (fun K hK => ?_); apply Exists.intro; refine ⟨?_, ?_⟩; (focus (go_simp; try exact rfl)); go_simp; refine hK _ _ ?_; clear hK K
  refine sq_ex rfl (fun K hK => ?_); apply Exists.intro; refine ⟨?_, ?_⟩; (focus (go_simp; try exact rfl)); go_simp; refine hK _ _ ?_; clear hK K
  refine sq_nil ?_
  refine H8 _ _ ?_
  clear H8 K8
  refine wp_seq_k (fun K9 H9 => ?_)
  refine wp_seq_k (fun K10 H10 => ?_)
  refine sq_region ?_
  refine sq_ex rfl (fun K hK => ?_); apply Exists.intro; refine ⟨?_, ?_⟩; (focus (go_simp; try exact rfl)); go_simp; refine hK _ _ ?_; clear hK K
  refine sq_ex rfl (fun K hK => ?_); apply Exists.intro; refine ⟨?_, ?_⟩; (focus (go_simp; try exact rfl)); go_simp; refine hK _ _ ?_; clear hK K
  refine sq_ex rfl (fun K hK => ?_); apply Exists.intro; refine ⟨?_, ?_⟩; (focus (go_simp; try exact rfl)); go_simp; refine hK _ _ ?_; clear hK K
  refine sq_nil ?_
  refine H10 _ _ ?_
  clear H10 K10
  refine wp_block ?_
  go_loopw [9, 37] (fun u9 t wr => ∃ k : Nat, k ≤ 0 ∧ t = .int .i64 k ∧ u9 = .bool false ∧ Has w [] wr) (fun _ t _ => 0 - (intOf t).toNat)
  case atStart => exact ⟨0, Nat.zero_le _, rfl, rfl, M7.sub (List.nil_sublist _)⟩
  case round =>
    clear M7
    obtain ⟨k, hk, rfl, rfl, M⟩ := hrel
    obtain rfl : k = 0 := by omega
    refine wp_seq_k (fun K11 H11 => ?_)
    refine sq_region ?_
    refine sq_ex rfl (fun K hK => ?_); refine ⟨.bool false, ?_, ?_⟩; (focus (go_simp; try (first | omega | (simp; done) | (simp; omega)))); go_simp; refine hK _ _ ?_; clear hK K
    refine sq_nil ?_
    refine H11 _ _ ?_
    clear H11 K11
    refine wp_seq_k (fun K12 H12 => ?_)
    refine wp_cond_false rfl ?_
    refine wp_exit ?_
    refine then_exit ?_
    clear H12 K12
    refine then_exit ?_
    refine exit_here ?_
    refine H9 _ _ ?_
    clear H9 K9
    refine wp_seq_k (fun K13 H13 => ?_)
    refine wp_seq_k (fun K14 H14 => ?_)
    refine sq_region ?_
    refine sq_ex rfl (fun K hK => ?_); apply Exists.intro; refine ⟨?_, ?_⟩; (focus (go_simp; try exact rfl)); go_simp; refine hK _ _ ?_; clear hK K
    refine sq_nil ?_
    refine H14 _ _ ?_
    clear H14 K14
    refine wp_block ?_
    go_loopw [7, 8, 12] (fun u7 u8 t wr => ∃ k : Nat, k ≤ 0 ∧ t = .int .i64 k ∧ u7 = .int .i64 (0 : Nat) ∧ u8 = .int .i64 (0 : Nat) ∧ Has w [] wr) (fun _ _ t _ => 0 - (intOf t).toNat)
    case atStart => exact ⟨0, Nat.zero_le _, rfl, rfl, rfl, M.sub (List.nil_sublist _)⟩
    case round =>
      clear M
      obtain ⟨k, hk, rfl, rfl, rfl, M⟩ := hrel
      obtain rfl : k = 0 := by omega
      refine wp_seq_k (fun K15 H15 => ?_)
      refine wp_seq_k (fun K16 H16 => ?_)
      refine sq_region ?_
      refine sq_ex rfl (fun K hK => ?_); apply Exists.intro; refine ⟨?_, ?_⟩; (focus (go_simp; try exact rfl)); go_simp; refine hK _ _ ?_; clear hK K
      refine sq_ex rfl (fun K hK => ?_); apply Exists.intro; refine ⟨?_, ?_⟩; (focus (go_simp; try exact rfl)); go_simp; refine hK _ _ ?_; clear hK K
      refine sq_ex rfl (fun K hK => ?_); apply Exists.intro; refine ⟨?_, ?_⟩; (focus (go_simp; try exact rfl)); go_simp; refine hK _ _ ?_; clear hK K
      refine sq_ex rfl (fun K hK => ?_); refine ⟨.bool false, ?_, ?_⟩; (focus (go_simp; try (first | omega | (simp; done) | (simp; omega)))); go_simp; refine hK _ _ ?_; clear hK K
      refine sq_ex rfl (fun K hK => ?_); apply Exists.intro; refine ⟨?_, ?_⟩; (focus (go_simp; try exact rfl)); go_simp; refine hK _ _ ?_; clear hK K
      refine sq_not rfl (fun K hK => ?_); go_simp; refine hK _ _ ?_; clear hK K
      refine sq_ex rfl (fun K hK => ?_); apply Exists.intro; refine ⟨?_, ?_⟩; (focus (go_simp; try exact rfl)); go_simp; refine hK _ _ ?_; clear hK K
      refine sq_nil ?_
      refine H16 _ _ ?_
      clear H16 K16
      refine wp_cond_false rfl ?_
      refine wp_exit ?_
      refine then_exit ?_
      clear H15 K15
      refine then_exit ?_
      refine exit_here ?_
      refine H13 _ _ ?_
      clear H13 K13
      refine wp_seq_k (fun K17 H17 => ?_)
      refine sq_region ?_
      refine sq_ex rfl (fun K hK => ?_); apply Exists.intro; refine ⟨?_, ?_⟩; (focus (go_simp; try exact rfl)); go_simp; refine hK _ _ ?_; clear hK K
      refine sq_ex rfl (fun K hK => ?_); apply Exists.intro; refine ⟨?_, ?_⟩; (focus (go_simp; try exact rfl)); go_simp; refine hK _ _ ?_; clear hK K
      refine sq_ex rfl (fun K hK => ?_); refine ⟨.bool true, ?_, ?_⟩; (focus (go_simp; try (first | omega | (simp; done) | (simp; omega)))); go_simp; refine hK _ _ ?_; clear hK K
      refine sq_ex rfl (fun K hK => ?_); apply Exists.intro; refine ⟨?_, ?_⟩; (focus (go_simp; try exact rfl)); go_simp; refine hK _ _ ?_; clear hK K
      refine sq_ex rfl (fun K hK => ?_); apply Exists.intro; refine ⟨?_, ?_⟩; (focus (go_simp; try exact rfl)); go_simp; refine hK _ _ ?_; clear hK K
      refine sq_ex rfl (fun K hK => ?_); apply Exists.intro; refine ⟨?_, ?_⟩; (focus (go_simp; try exact rfl)); go_simp; refine hK _ _ ?_; clear hK K
      refine sq_ex rfl (fun K hK => ?_); refine ⟨.bool true, ?_, ?_⟩; (focus (go_simp; try (first | omega | (simp; done) | (simp; omega)))); go_simp; refine hK _ _ ?_; clear hK K
      refine sq_ex rfl (fun K hK => ?_); apply Exists.intro; refine ⟨?_, ?_⟩; (focus (go_simp; try exact rfl)); go_simp; refine hK _ _ ?_; clear hK K
      refine sq_ex rfl (fun K hK => ?_); apply Exists.intro; refine ⟨?_, ?_⟩; (focus (go_simp; try exact rfl)); go_simp; refine hK _ _ ?_; clear hK K
      refine sq_ex rfl (fun K hK => ?_); apply Exists.intro; refine ⟨?_, ?_⟩; (focus (go_simp; try exact rfl)); go_simp; refine hK _ _ ?_; clear hK K
      refine sq_ex rfl (fun K hK => ?_); apply Exists.intro; refine ⟨?_, ?_⟩; (focus (go_simp; try exact rfl)); go_simp; refine hK _ _ ?_; clear hK K
      refine sq_ex rfl (fun K hK => ?_); refine ⟨.bool true, ?_, ?_⟩; (focus (go_simp; try (first | omega | (simp; done) | (simp; omega)))); go_simp; refine hK _ _ ?_; clear hK K
      refine sq_ex rfl (fun K hK => ?_); apply Exists.intro; refine ⟨?_, ?_⟩; (focus (go_simp; try exact rfl)); go_simp; refine hK _ _ ?_; clear hK K
      refine sq_ex rfl (fun K hK => ?_); apply Exists.intro; refine ⟨?_, ?_⟩; (focus (go_simp; try exact rfl)); go_simp; refine hK _ _ ?_; clear hK K
      refine sq_ex rfl (fun K hK => ?_); apply Exists.intro; refine ⟨?_, ?_⟩; (focus (go_simp; try exact rfl)); go_simp; refine hK _ _ ?_; clear hK K
      refine sq_ex rfl (fun K hK => ?_); apply Exists.intro; refine ⟨?_, ?_⟩; (focus (go_simp; try exact rfl)); go_simp; refine hK _ _ ?_; clear hK K
      refine sq_ex rfl (fun K hK => ?_); refine ⟨.bool true, ?_, ?_⟩; (focus (go_simp; try (first | omega | (simp; done) | (simp; omega)))); go_simp; refine hK _ _ ?_; clear hK K
      refine sq_ex rfl (fun K hK => ?_); apply Exists.intro; refine ⟨?_, ?_⟩; (focus (go_simp; try exact rfl)); go_simp; refine hK _ _ ?_; clear hK K
      refine sq_ex rfl (fun K hK => ?_); apply Exists.intro; refine ⟨?_, ?_⟩; (focus (go_simp; try exact rfl)); go_simp; refine hK _ _ ?_; clear hK K
      refine sq_nil ?_
      refine H17 _ _ ?_
      clear H17 K17
      refine wp_ret ?_
      go_ret
      exact ⟨rfl, M.below⟩

set_option maxRecDepth 100000 in
set_option maxHeartbeats 1000000 in
theorem lends_bad (n cap b off : Nat) (news : List Value) (H L W : Nat → Nat) (aM aL : Nat → Nat → Bool) (w : World)
    (hb : b < w.heap.size)
    (hn0 : (0 : Int) < n)
    (hn : ¬ (100 : Int) < n)
    (hn1 : 0 < n)
    (hnn : Hid (n ≤ 100))
    (hmem : Hid (∀ j u, (news : List Value)[j]? = some u → w.cell? ((⟨b, off, none⟩ : Addr).add j) = some u))
    (hl : Hid (news.length = n * 3))
    (h1 : Hid (∀ u ∈ news, u.oneCell' = true))
    (hcell : Hid (∀ k, k < n → news[3 * k]? = some (.int .u64 (H k)) ∧ news[3 * k + 1]? = some (.int .u64 (L k)) ∧ news[3 * k + 2]? = some (.int .u64 (W k))))
    (HM : Hid (∀ w g cap cs, OwnS 3 news n cap cs → IsR w g cs 60 → Calls Try.prog 35 #[.slice (some ⟨g, 0, none⟩) n cap] w fun e w' => e = .returned (.tuple #[.int .i64 0, .bool false]) ∧ Below w.heap.size w w'))
    (HL : Hid (∀ w g cap cs, OwnS 3 news n cap cs → IsR w g cs 60 → Calls Try.prog 36 #[.slice (some ⟨g, 0, none⟩) n cap] w fun e w' => e = .returned (.tuple #[.int .i64 0, .bool false]) ∧ Below w.heap.size w w'))
    (hbad : Hid (rightB n H W = false))
    (hR : Hid (∀ k, k < n → Dt 37 #[fv (H k) (L k) (W k)] (.bool (okF (H k) (W k)))))
    : Calls Try.prog 9 #[.slice (some ⟨b, off, none⟩) n cap] w fun e w' => e = .returned (.bool true) ∧ Below w.heap.size w w' := by
  have M0 := Has.start w
  go_enter Try.func9, Try.ntmps9
  refine wp_seq_k (fun K1 H1 => ?_)
  refine sq_region ?_
  refine sq_ex rfl (fun K hK => ?_); apply Exists.intro; refine ⟨?_, ?_⟩; (focus (go_simp; try exact rfl)); go_simp; refine hK _ _ ?_; clear hK K
  refine sq_nil ?_
  refine H1 _ _ ?_
  clear H1 K1
  refine wp_seq_k (fun K2 H2 => ?_)
  refine wp_seq_k (fun K3 H3 => ?_)
  refine sq_region ?_
  refine sq_call rfl (fun w' => by go_simp) (wakes5 _) (fun K hK => ?_)
  rintro e w1 ⟨rfl, hb⟩
  refine ⟨_, rfl, ?_⟩
  have M1 := M0.kept hb
  clear M0 hb
  go_simp; refine hK _ _ ?_; clear hK K
  refine sq_ex rfl (fun K hK => ?_); apply Exists.intro; refine ⟨?_, ?_⟩; (focus (go_simp; try exact rfl)); go_simp; refine hK _ _ ?_; clear hK K
  refine sq_nil ?_
  refine H3 _ _ ?_
  clear H3 K3
  refine wp_cond_false rfl ?_
  refine wp_skip ?_
  refine H2 _ _ ?_
  clear H2 K2
  refine wp_seq_k (fun K4 H4 => ?_)
  refine wp_seq_k (fun K5 H5 => ?_)
  refine sq_region ?_
  refine sq_ex rfl (fun K hK => ?_); apply Exists.intro; refine ⟨?_, ?_⟩; (focus (go_simp; try exact rfl)); go_simp; refine hK _ _ ?_; clear hK K
  refine sq_ex rfl (fun K hK => ?_); apply Exists.intro; refine ⟨?_, ?_⟩; (focus (go_simp; try exact rfl)); go_simp; refine hK _ _ ?_; clear hK K
  refine sq_ex rfl (fun K hK => ?_); refine ⟨.bool false, ?_, ?_⟩; (focus (go_simp; try (first | omega | (simp; done) | (simp; omega)))); go_simp; refine hK _ _ ?_; clear hK K
  refine sq_nil ?_
  refine H5 _ _ ?_
  clear H5 K5
  refine wp_cond_false rfl ?_
  refine wp_skip ?_
  refine H4 _ _ ?_
  clear H4 K4
  refine wp_seq_k (fun K6 H6 => ?_)
  refine sq_region ?_
  refine sq_new rfl M1 (fun g => .slice (some ⟨g, 0, none⟩) 0 0) (T := 60) (z := #[]) (fun w' => by go_simp) (fun K hK => ?_)
  intro g19 w2 M2
  clear M1
  go_simp; refine hK _ _ ?_; clear hK K
  refine sq_ex rfl (fun K hK => ?_); apply Exists.intro; refine ⟨?_, ?_⟩; (focus (go_simp; try exact rfl)); go_simp; refine hK _ _ ?_; clear hK K
  obtain ⟨fi, hfi, hfz, hfs, hfb⟩ := frac_info'
  have fi_size := hfs
  have E0 : OwnS fi.size [] 0 0 #[] := ⟨by simp, Nat.le_refl _, Nat.zero_le _, by simp, by simp⟩
  refine sq_append rfl M2 (.tmp 19) (.tmp 20) 56 56 rfl 60 fi _ Try.underlying56 hfi hfz (by rw [hfs]; rfl) (by rw [hfs]; decide) 0 rfl rfl E0 (m := n) (news := news) (Src.ofSlice _ Try.underlying56 ⟨b, off, none⟩ n cap news (by rw [hl.out, fi_size]) (fun j u hj => (M2.below.cell (p := (⟨b, off, none⟩ : Addr).add j) (by unfold Addr.add; split <;> exact hb)).trans (hmem.out j u hj)) h1.out) (by have := hnn.out; unfold maxLen; omega) (by rw [hfb]; have := hnn.out; omega) (fun K hK => ?_)
  intro g21a cap21 cs21 w3 HO M
  rw [hfs, Nat.zero_add, List.nil_append] at HO
  have HO21 := Lib.hid HO
  clear HO hfi hfz hfs hfb fi_size E0
  have M3 : Has w [(g21a, cs21, 60)] w3 := M
  clear M2 M
  rw [Nat.zero_add]; go_simp; refine hK _ _ ?_; clear hK K
  refine sq_call rfl (fun w' => by go_simp) (HM.out _ _ _ _ HO21.out (M3.row 0 rfl)) (fun K hK => ?_)
  rintro e w4 ⟨rfl, hb⟩
  refine ⟨_, rfl, ?_⟩
  have M4 := M3.kept hb
  clear M3 hb
  go_simp; refine hK _ _ ?_; clear hK K
  refine sq_ex rfl (fun K hK => ?_); apply Exists.intro; refine ⟨?_, ?_⟩; (focus (go_simp; try exact rfl)); go_simp; refine hK _ _ ?_; clear hK K
  refine sq_ex rfl (fun K hK => ?_); apply Exists.intro; refine ⟨?_, ?_⟩; (focus (go_simp; try exact rfl)); go_simp; refine hK _ _ ?_; clear hK K
  refine sq_ex rfl (fun K hK => ?_); apply Exists.intro; refine ⟨?_, ?_⟩; (focus (go_simp; try exact rfl)); go_simp; refine hK _ _ ?_; clear hK K
  refine sq_ex rfl (fun K hK => ?_); apply Exists.intro; refine ⟨?_, ?_⟩; (focus (go_simp; try exact rfl)); go_simp; refine hK _ _ ?_; clear hK K
  refine sq_ex rfl (fun K hK => ?_); apply Exists.intro; refine ⟨?_, ?_⟩; (focus (go_simp; try exact rfl)); go_simp; refine hK _ _ ?_; clear hK K
  refine sq_nil ?_
  refine H6 _ _ ?_
  clear H6 K6
  refine wp_seq_k (fun K7 H7 => ?_)
  refine sq_region ?_
  refine sq_new rfl M4 (fun g => .slice (some ⟨g, 0, none⟩) 0 0) (T := 60) (z := #[]) (fun w' => by go_simp) (fun K hK => ?_)
  intro g26 w5 M5
  clear M4
  go_simp; refine hK _ _ ?_; clear hK K
  refine sq_ex rfl (fun K hK => ?_); apply Exists.intro; refine ⟨?_, ?_⟩; (focus (go_simp; try exact rfl)); go_simp; refine hK _ _ ?_; clear hK K
  obtain ⟨fi, hfi, hfz, hfs, hfb⟩ := frac_info'
  have fi_size := hfs
  have E0 : OwnS fi.size [] 0 0 #[] := ⟨by simp, Nat.le_refl _, Nat.zero_le _, by simp, by simp⟩
  refine sq_append rfl M5 (.tmp 26) (.tmp 27) 56 56 rfl 60 fi _ Try.underlying56 hfi hfz (by rw [hfs]; rfl) (by rw [hfs]; decide) 1 rfl rfl E0 (m := n) (news := news) (Src.ofSlice _ Try.underlying56 ⟨b, off, none⟩ n cap news (by rw [hl.out, fi_size]) (fun j u hj => (M5.below.cell (p := (⟨b, off, none⟩ : Addr).add j) (by unfold Addr.add; split <;> exact hb)).trans (hmem.out j u hj)) h1.out) (by have := hnn.out; unfold maxLen; omega) (by rw [hfb]; have := hnn.out; omega) (fun K hK => ?_)
  intro g28a cap28 cs28 w6 HO M
  rw [hfs, Nat.zero_add, List.nil_append] at HO
  have HO28 := Lib.hid HO
  clear HO hfi hfz hfs hfb fi_size E0
  have M6 : Has w [(g21a, cs21, 60), (g28a, cs28, 60)] w6 := M
  clear M5 M
  rw [Nat.zero_add]; go_simp; refine hK _ _ ?_; clear hK K
  refine sq_call rfl (fun w' => by go_simp) (HL.out _ _ _ _ HO28.out (M6.row 1 rfl)) (fun K hK => ?_)
  rintro e w7 ⟨rfl, hb⟩
  refine ⟨_, rfl, ?_⟩
  have M7 := M6.kept hb
  clear M6 hb
  go_simp; refine hK _ _ ?_; clear hK K
  refine sq_ex rfl (fun K hK => ?_); apply Exists.intro; refine ⟨?_, ?_⟩; (focus (go_simp; try exact rfl)); go_simp; refine hK _ _ ?_; clear hK K
  refine sq_ex rfl (fun K hK => ?_); apply Exists.intro; refine ⟨?_, ?_⟩; (focus (go_simp; try exact rfl)); go_simp; refine hK _ _ ?_; clear hK K
  refine sq_ex rfl (fun K hK => ?_); apply Exists.intro; refine ⟨?_, ?_⟩; (focus (go_simp; try exact rfl)); go_simp; refine hK _ _ ?_; clear hK K
  refine sq_ex rfl (fun K hK => ?_); apply Exists.intro; refine ⟨?_, ?_⟩; (focus (go_simp; try exact rfl)); go_simp; refine hK _ _ ?_; clear hK K
  refine sq_ex rfl (fun K hK => ?_); apply Exists.intro; refine ⟨?_, ?_⟩; (focus (go_simp; try exact rfl)); go_simp; refine hK _ _ ?_; clear hK K
  refine sq_nil ?_
  refine H7 _ _ ?_
  clear H7 K7
  refine wp_seq_k (fun K8 H8 => ?_)
  refine sq_region ?_
  refine sq_ex rfl (fun K hK => ?_); apply Exists.intro; refine ⟨?_, ?_⟩; (focus (go_simp; try exact rfl)); go_simp; refine hK _ _ ?_; clear hK K
  refine sq_ex rfl (fun K hK => ?_); apply Exists.intro; refine ⟨?_, ?_⟩; (focus (go_simp; try exact rfl)); go_simp; refine hK _ _ ?_; clear hK K
  refine sq_ex rfl (fun K hK => ?_); refine ⟨.bool true, ?_, ?_⟩; (focus (go_simp; try (first | omega | (simp; done) | (simp; omega)))); go_simp; refine hK _ _ ?_; clear hK K
  refine sq_ex rfl (fun K hK => ?_); apply Exists.intro; refine ⟨?_, ?_⟩; (focus (go_simp; try exact rfl)); go_simp; refine hK _ _ ?_; clear hK K
  refine sq_ex rfl (fun K hK => ?_); apply Exists.intro; refine ⟨?_, ?_⟩; (focus (go_simp; try exact rfl)); go_simp; refine hK _ _ ?_; clear hK K
  refine sq_ex rfl (fun K hK => ?_); apply Exists.intro; refine ⟨?_, ?_⟩; (focus (go_simp; try exact rfl)); go_simp; refine hK _ _ ?_; clear hK K
  refine sq_nil ?_
  refine H8 _ _ ?_
  clear H8 K8
  refine wp_seq_k (fun K9 H9 => ?_)
  refine wp_seq_k (fun K10 H10 => ?_)
  refine sq_region ?_
  refine sq_ex rfl (fun K hK => ?_); apply Exists.intro; refine ⟨?_, ?_⟩; (focus (go_simp; try exact rfl)); go_simp; refine hK _ _ ?_; clear hK K
  refine sq_ex rfl (fun K hK => ?_); apply Exists.intro; refine ⟨?_, ?_⟩; (focus (go_simp; try exact rfl)); go_simp; refine hK _ _ ?_; clear hK K
  refine sq_ex rfl (fun K hK => ?_); apply Exists.intro; refine ⟨?_, ?_⟩; (focus (go_simp; try exact rfl)); go_simp; refine hK _ _ ?_; clear hK K
  refine sq_nil ?_
  refine H10 _ _ ?_
  clear H10 K10
  refine wp_block ?_
  go_loopw [9, 37] (fun u9 t wr => ∃ k : Nat, k ≤ n ∧ t = .int .i64 k ∧ u9 = .bool (rightB k H W) ∧ Has w [] wr) (fun _ t _ => n - (intOf t).toNat)
  case atStart => exact ⟨0, Nat.zero_le _, rfl, rfl, M7.sub (List.nil_sublist _)⟩
  case round =>
    clear M7
    obtain ⟨k, hk, rfl, rfl, M⟩ := hrel
    by_cases hp : k < n
    ·
      have hpi : (k : Int) < n := by omega
      have HRK := Lib.hid (hR.out k hp)
      have HRS := Lib.hid (rightB_succ k H W)
      rcases hr : rightB k H W with _ | _
      ·
        rw [hr] at HRS
        clear hr
        refine wp_seq_k (fun K11 H11 => ?_)
        refine sq_region ?_
        refine sq_ex rfl (fun K hK => ?_); refine ⟨.bool true, ?_, ?_⟩; (focus (go_simp; try (first | omega | (simp; done) | (simp; omega)))); go_simp; refine hK _ _ ?_; clear hK K
        refine sq_nil ?_
        refine H11 _ _ ?_
        clear H11 K11
        refine wp_seq_k (fun K12 H12 => ?_)
        refine wp_cond_true rfl ?_
        refine wp_skip ?_
        refine H12 _ _ ?_
        clear H12 K12
        refine wp_seq_k (fun K13 H13 => ?_)
        refine wp_block ?_
        refine wp_seq_k (fun K14 H14 => ?_)
        refine sq_region ?_
        refine sq_ex rfl (fun K hK => ?_); refine ⟨.pointer (some ⟨b, off + 3 * k, none⟩), ?_, ?_⟩; (focus (go_simp; try (first | rfl | (congr; omega)))); go_simp; refine hK _ _ ?_; clear hK K
        refine sq_ex rfl (fun K hK => ?_); refine ⟨_, run_ldc [.int .u64 (H k), .int .u64 (L k), .int .u64 (W k)] rfl rfl (fun zz v hzz => by rw [show off + 3 * k + zz = off + (3 * k + zz) from Nat.add_assoc ..]; exact cell_at hb M.below (hmem.out _ _ (frac_cellsL (hcell.out k hp) zz v hzz))) rfl Try.underlying60 frac_size, ?_⟩; go_simp; refine hK _ _ ?_; clear hK K
        refine sq_alloc rfl M (T := 60) (z := #[.int .u64 0, .int .u64 0, .int .u64 0]) (fun w' => by go_simp) (fun K hK => ?_)
        intro g11 w8 M8
        clear M
        go_simp; refine hK _ _ ?_; clear hK K
        refine sq_store rfl M8 0 rfl (run_st (cs := #[.int .u64 (H k), .int .u64 (L k), .int .u64 (W k)]) rfl rfl rfl frac_size rfl (by simp [Value.oneCell'])) (fun K hK => ?_)
        intro w9 M9
        clear M8
        go_simp; refine hK _ _ ?_; clear hK K
        refine sq_nil ?_
        refine H14 _ _ ?_
        clear H14 K14
        refine sq_region ?_
        refine sq_ex rfl (fun K hK => ?_); apply Exists.intro; refine ⟨?_, ?_⟩; (focus (go_simp; try exact rfl)); go_simp; refine hK _ _ ?_; clear hK K
        refine sq_ex rfl (fun K hK => ?_); apply Exists.intro; refine ⟨?_, ?_⟩; (focus (go_simp; try exact rfl)); go_simp; refine hK _ _ ?_; clear hK K
        refine sq_not rfl (fun K hK => ?_); go_simp; refine hK _ _ ?_; clear hK K
        refine sq_not rfl (fun K hK => ?_); go_simp; refine hK _ _ ?_; clear hK K
        refine sq_ex rfl (fun K hK => ?_); apply Exists.intro; refine ⟨?_, ?_⟩; (focus (go_simp; try exact rfl)); go_simp; refine hK _ _ ?_; clear hK K
        refine sq_ex rfl (fun K hK => ?_); apply Exists.intro; refine ⟨?_, ?_⟩; (focus (go_simp; try exact rfl)); go_simp; refine hK _ _ ?_; clear hK K
        refine sq_nil ?_
        refine H13 _ _ ?_
        clear H13 K13
        refine sq_region ?_
        refine sq_ex rfl (fun K hK => ?_); refine ⟨.int .i64 ((k + 1 : Nat) : Int), ?_, ?_⟩; (focus (go_simp; first | exact i64_next k (by omega) | exact i64_next' k (by omega))); go_simp; refine hK _ _ ?_; clear hK K
        refine sq_ex rfl (fun K hK => ?_); apply Exists.intro; refine ⟨?_, ?_⟩; (focus (go_simp; try exact rfl)); go_simp; refine hK _ _ ?_; clear hK K
        refine sq_nil ?_
        refine ⟨?_, ?_⟩
        · (repeat apply Exists.intro); exact ⟨⟨k + 1, hp, by go_num, by rw [HRS.out]; rfl, M9.sub (List.nil_sublist _)⟩, rfl⟩
        · simp [intOf]; omega
      ·
        rcases ho : okF (H k) (W k) with _ | _
        ·
          rw [hr, ho] at HRS
          rw [ho] at HRK
          clear hr ho
          refine wp_seq_k (fun K15 H15 => ?_)
          refine sq_region ?_
          refine sq_ex rfl (fun K hK => ?_); refine ⟨.bool true, ?_, ?_⟩; (focus (go_simp; try (first | omega | (simp; done) | (simp; omega)))); go_simp; refine hK _ _ ?_; clear hK K
          refine sq_nil ?_
          refine H15 _ _ ?_
          clear H15 K15
          refine wp_seq_k (fun K16 H16 => ?_)
          refine wp_cond_true rfl ?_
          refine wp_skip ?_
          refine H16 _ _ ?_
          clear H16 K16
          refine wp_seq_k (fun K17 H17 => ?_)
          refine wp_block ?_
          refine wp_seq_k (fun K18 H18 => ?_)
          refine sq_region ?_
          refine sq_ex rfl (fun K hK => ?_); refine ⟨.pointer (some ⟨b, off + 3 * k, none⟩), ?_, ?_⟩; (focus (go_simp; try (first | rfl | (congr; omega)))); go_simp; refine hK _ _ ?_; clear hK K
          refine sq_ex rfl (fun K hK => ?_); refine ⟨_, run_ldc [.int .u64 (H k), .int .u64 (L k), .int .u64 (W k)] rfl rfl (fun zz v hzz => by rw [show off + 3 * k + zz = off + (3 * k + zz) from Nat.add_assoc ..]; exact cell_at hb M.below (hmem.out _ _ (frac_cellsL (hcell.out k hp) zz v hzz))) rfl Try.underlying60 frac_size, ?_⟩; go_simp; refine hK _ _ ?_; clear hK K
          refine sq_alloc rfl M (T := 60) (z := #[.int .u64 0, .int .u64 0, .int .u64 0]) (fun w' => by go_simp) (fun K hK => ?_)
          intro g11 w10 M10
          clear M
          go_simp; refine hK _ _ ?_; clear hK K
          refine sq_store rfl M10 0 rfl (run_st (cs := #[.int .u64 (H k), .int .u64 (L k), .int .u64 (W k)]) rfl rfl rfl frac_size rfl (by simp [Value.oneCell'])) (fun K hK => ?_)
          intro w11 M11
          clear M10
          go_simp; refine hK _ _ ?_; clear hK K
          refine sq_nil ?_
          refine H18 _ _ ?_
          clear H18 K18
          refine sq_region ?_
          refine sq_ex rfl (fun K hK => ?_); apply Exists.intro; refine ⟨?_, ?_⟩; (focus (go_simp; try exact rfl)); go_simp; refine hK _ _ ?_; clear hK K
          refine sq_ex rfl (fun K hK => ?_); apply Exists.intro; refine ⟨?_, ?_⟩; (focus (go_simp; try exact rfl)); go_simp; refine hK _ _ ?_; clear hK K
          refine sq_ex rfl (fun K hK => ?_); refine ⟨_, run_ld rfl rfl (M11.row 0 rfl) rfl Try.underlying60 frac_size, ?_⟩; go_simp; refine hK _ _ ?_; clear hK K
          refine sq_call rfl (fun w' => by go_simp) (HRK.out _) (fun K hK => ?_)
          rintro e w12 ⟨rfl, hb⟩
          refine ⟨_, rfl, ?_⟩
          have M12 := M11.kept hb
          clear M11 hb
          go_simp; refine hK _ _ ?_; clear hK K
          refine sq_ex rfl (fun K hK => ?_); apply Exists.intro; refine ⟨?_, ?_⟩; (focus (go_simp; try exact rfl)); go_simp; refine hK _ _ ?_; clear hK K
          refine sq_ex rfl (fun K hK => ?_); apply Exists.intro; refine ⟨?_, ?_⟩; (focus (go_simp; try exact rfl)); go_simp; refine hK _ _ ?_; clear hK K
          refine sq_nil ?_
          refine H17 _ _ ?_
          clear H17 K17
          refine sq_region ?_
          refine sq_ex rfl (fun K hK => ?_); refine ⟨.int .i64 ((k + 1 : Nat) : Int), ?_, ?_⟩; (focus (go_simp; first | exact i64_next k (by omega) | exact i64_next' k (by omega))); go_simp; refine hK _ _ ?_; clear hK K
          refine sq_ex rfl (fun K hK => ?_); apply Exists.intro; refine ⟨?_, ?_⟩; (focus (go_simp; try exact rfl)); go_simp; refine hK _ _ ?_; clear hK K
          refine sq_nil ?_
          refine ⟨?_, ?_⟩
          · (repeat apply Exists.intro); exact ⟨⟨k + 1, hp, by go_num, by rw [HRS.out]; rfl, M12.sub (List.nil_sublist _)⟩, rfl⟩
          · simp [intOf]; omega
        ·
          rw [hr, ho] at HRS
          rw [ho] at HRK
          clear hr ho
          refine wp_seq_k (fun K19 H19 => ?_)
          refine sq_region ?_
          refine sq_ex rfl (fun K hK => ?_); refine ⟨.bool true, ?_, ?_⟩; (focus (go_simp; try (first | omega | (simp; done) | (simp; omega)))); go_simp; refine hK _ _ ?_; clear hK K
          refine sq_nil ?_
          refine H19 _ _ ?_
          clear H19 K19
          refine wp_seq_k (fun K20 H20 => ?_)
          refine wp_cond_true rfl ?_
          refine wp_skip ?_
          refine H20 _ _ ?_
          clear H20 K20
          refine wp_seq_k (fun K21 H21 => ?_)
          refine wp_block ?_
          refine wp_seq_k (fun K22 H22 => ?_)
          refine sq_region ?_
          refine sq_ex rfl (fun K hK => ?_); refine ⟨.pointer (some ⟨b, off + 3 * k, none⟩), ?_, ?_⟩; (focus (go_simp; try (first | rfl | (congr; omega)))); go_simp; refine hK _ _ ?_; clear hK K
          refine sq_ex rfl (fun K hK => ?_); refine ⟨_, run_ldc [.int .u64 (H k), .int .u64 (L k), .int .u64 (W k)] rfl rfl (fun zz v hzz => by rw [show off + 3 * k + zz = off + (3 * k + zz) from Nat.add_assoc ..]; exact cell_at hb M.below (hmem.out _ _ (frac_cellsL (hcell.out k hp) zz v hzz))) rfl Try.underlying60 frac_size, ?_⟩; go_simp; refine hK _ _ ?_; clear hK K
          refine sq_alloc rfl M (T := 60) (z := #[.int .u64 0, .int .u64 0, .int .u64 0]) (fun w' => by go_simp) (fun K hK => ?_)
          intro g11 w13 M13
          clear M
          go_simp; refine hK _ _ ?_; clear hK K
          refine sq_store rfl M13 0 rfl (run_st (cs := #[.int .u64 (H k), .int .u64 (L k), .int .u64 (W k)]) rfl rfl rfl frac_size rfl (by simp [Value.oneCell'])) (fun K hK => ?_)
          intro w14 M14
          clear M13
          go_simp; refine hK _ _ ?_; clear hK K
          refine sq_nil ?_
          refine H22 _ _ ?_
          clear H22 K22
          refine sq_region ?_
          refine sq_ex rfl (fun K hK => ?_); apply Exists.intro; refine ⟨?_, ?_⟩; (focus (go_simp; try exact rfl)); go_simp; refine hK _ _ ?_; clear hK K
          refine sq_ex rfl (fun K hK => ?_); apply Exists.intro; refine ⟨?_, ?_⟩; (focus (go_simp; try exact rfl)); go_simp; refine hK _ _ ?_; clear hK K
          refine sq_ex rfl (fun K hK => ?_); refine ⟨_, run_ld rfl rfl (M14.row 0 rfl) rfl Try.underlying60 frac_size, ?_⟩; go_simp; refine hK _ _ ?_; clear hK K
          refine sq_call rfl (fun w' => by go_simp) (HRK.out _) (fun K hK => ?_)
          rintro e w15 ⟨rfl, hb⟩
          refine ⟨_, rfl, ?_⟩
          have M15 := M14.kept hb
          clear M14 hb
          go_simp; refine hK _ _ ?_; clear hK K
          refine sq_ex rfl (fun K hK => ?_); apply Exists.intro; refine ⟨?_, ?_⟩; (focus (go_simp; try exact rfl)); go_simp; refine hK _ _ ?_; clear hK K
          refine sq_ex rfl (fun K hK => ?_); apply Exists.intro; refine ⟨?_, ?_⟩; (focus (go_simp; try exact rfl)); go_simp; refine hK _ _ ?_; clear hK K
          refine sq_nil ?_
          refine H21 _ _ ?_
          clear H21 K21
          refine sq_region ?_
          refine sq_ex rfl (fun K hK => ?_); refine ⟨.int .i64 ((k + 1 : Nat) : Int), ?_, ?_⟩; (focus (go_simp; first | exact i64_next k (by omega) | exact i64_next' k (by omega))); go_simp; refine hK _ _ ?_; clear hK K
          refine sq_ex rfl (fun K hK => ?_); apply Exists.intro; refine ⟨?_, ?_⟩; (focus (go_simp; try exact rfl)); go_simp; refine hK _ _ ?_; clear hK K
          refine sq_nil ?_
          refine ⟨?_, ?_⟩
          · (repeat apply Exists.intro); exact ⟨⟨k + 1, hp, by go_num, by rw [HRS.out]; rfl, M15.sub (List.nil_sublist _)⟩, rfl⟩
          · simp [intOf]; omega
    ·
      have hpi : ¬ (k : Int) < n := by omega
      obtain rfl : n = k := by omega
      rw [hbad.out]
      refine wp_seq_k (fun K23 H23 => ?_)
      refine sq_region ?_
      refine sq_ex rfl (fun K hK => ?_); refine ⟨.bool false, ?_, ?_⟩; (focus (go_simp; try (first | omega | (simp; done) | (simp; omega)))); go_simp; refine hK _ _ ?_; clear hK K
      refine sq_nil ?_
      refine H23 _ _ ?_
      clear H23 K23
      refine wp_seq_k (fun K24 H24 => ?_)
      refine wp_cond_false rfl ?_
      refine wp_exit ?_
      refine then_exit ?_
      clear H24 K24
      refine then_exit ?_
      refine exit_here ?_
      refine H9 _ _ ?_
      clear H9 K9
      refine wp_seq_k (fun K25 H25 => ?_)
      refine wp_seq_k (fun K26 H26 => ?_)
      refine sq_region ?_
      refine sq_ex rfl (fun K hK => ?_); apply Exists.intro; refine ⟨?_, ?_⟩; (focus (go_simp; try exact rfl)); go_simp; refine hK _ _ ?_; clear hK K
      refine sq_nil ?_
      refine H26 _ _ ?_
      clear H26 K26
      refine wp_block ?_
      go_loopw [7, 8, 12] (fun u7 u8 t wr => ∃ k : Nat, k ≤ 0 ∧ t = .int .i64 k ∧ u7 = .int .i64 (0 : Nat) ∧ u8 = .int .i64 (0 : Nat) ∧ Has w [] wr) (fun _ _ t _ => 0 - (intOf t).toNat)
      case atStart => exact ⟨0, Nat.zero_le _, rfl, rfl, rfl, M.sub (List.nil_sublist _)⟩
      case round =>
        clear M
        obtain ⟨k, hk, rfl, rfl, rfl, M⟩ := hrel
        obtain rfl : k = 0 := by omega
        refine wp_seq_k (fun K27 H27 => ?_)
        refine wp_seq_k (fun K28 H28 => ?_)
        refine sq_region ?_
        refine sq_ex rfl (fun K hK => ?_); apply Exists.intro; refine ⟨?_, ?_⟩; (focus (go_simp; try exact rfl)); go_simp; refine hK _ _ ?_; clear hK K
        refine sq_ex rfl (fun K hK => ?_); apply Exists.intro; refine ⟨?_, ?_⟩; (focus (go_simp; try exact rfl)); go_simp; refine hK _ _ ?_; clear hK K
        refine sq_ex rfl (fun K hK => ?_); apply Exists.intro; refine ⟨?_, ?_⟩; (focus (go_simp; try exact rfl)); go_simp; refine hK _ _ ?_; clear hK K
        refine sq_ex rfl (fun K hK => ?_); refine ⟨.bool true, ?_, ?_⟩; (focus (go_simp; try (first | omega | (simp; done) | (simp; omega)))); go_simp; refine hK _ _ ?_; clear hK K
        refine sq_ex rfl (fun K hK => ?_); apply Exists.intro; refine ⟨?_, ?_⟩; (focus (go_simp; try exact rfl)); go_simp; refine hK _ _ ?_; clear hK K
        refine sq_ex rfl (fun K hK => ?_); apply Exists.intro; refine ⟨?_, ?_⟩; (focus (go_simp; try exact rfl)); go_simp; refine hK _ _ ?_; clear hK K
        refine sq_ex rfl (fun K hK => ?_); apply Exists.intro; refine ⟨?_, ?_⟩; (focus (go_simp; try exact rfl)); go_simp; refine hK _ _ ?_; clear hK K
        refine sq_nil ?_
        refine H28 _ _ ?_
        clear H28 K28
        refine wp_cond_false rfl ?_
        refine wp_exit ?_
        refine then_exit ?_
        clear H27 K27
        refine then_exit ?_
        refine exit_here ?_
        refine H25 _ _ ?_
        clear H25 K25
        refine wp_seq_k (fun K29 H29 => ?_)
        refine sq_region ?_
        refine sq_ex rfl (fun K hK => ?_); apply Exists.intro; refine ⟨?_, ?_⟩; (focus (go_simp; try exact rfl)); go_simp; refine hK _ _ ?_; clear hK K
        refine sq_ex rfl (fun K hK => ?_); apply Exists.intro; refine ⟨?_, ?_⟩; (focus (go_simp; try exact rfl)); go_simp; refine hK _ _ ?_; clear hK K
        refine sq_ex rfl (fun K hK => ?_); refine ⟨.bool true, ?_, ?_⟩; (focus (go_simp; try (first | omega | (simp; done) | (simp; omega)))); go_simp; refine hK _ _ ?_; clear hK K
        refine sq_ex rfl (fun K hK => ?_); apply Exists.intro; refine ⟨?_, ?_⟩; (focus (go_simp; try exact rfl)); go_simp; refine hK _ _ ?_; clear hK K
        refine sq_ex rfl (fun K hK => ?_); apply Exists.intro; refine ⟨?_, ?_⟩; (focus (go_simp; try exact rfl)); go_simp; refine hK _ _ ?_; clear hK K
        refine sq_ex rfl (fun K hK => ?_); apply Exists.intro; refine ⟨?_, ?_⟩; (focus (go_simp; try exact rfl)); go_simp; refine hK _ _ ?_; clear hK K
        refine sq_ex rfl (fun K hK => ?_); refine ⟨.bool true, ?_, ?_⟩; (focus (go_simp; try (first | omega | (simp; done) | (simp; omega)))); go_simp; refine hK _ _ ?_; clear hK K
        refine sq_ex rfl (fun K hK => ?_); apply Exists.intro; refine ⟨?_, ?_⟩; (focus (go_simp; try exact rfl)); go_simp; refine hK _ _ ?_; clear hK K
        refine sq_ex rfl (fun K hK => ?_); apply Exists.intro; refine ⟨?_, ?_⟩; (focus (go_simp; try exact rfl)); go_simp; refine hK _ _ ?_; clear hK K
        refine sq_ex rfl (fun K hK => ?_); apply Exists.intro; refine ⟨?_, ?_⟩; (focus (go_simp; try exact rfl)); go_simp; refine hK _ _ ?_; clear hK K
        refine sq_ex rfl (fun K hK => ?_); apply Exists.intro; refine ⟨?_, ?_⟩; (focus (go_simp; try exact rfl)); go_simp; refine hK _ _ ?_; clear hK K
        refine sq_ex rfl (fun K hK => ?_); refine ⟨.bool true, ?_, ?_⟩; (focus (go_simp; try (first | omega | (simp; done) | (simp; omega)))); go_simp; refine hK _ _ ?_; clear hK K
        refine sq_ex rfl (fun K hK => ?_); apply Exists.intro; refine ⟨?_, ?_⟩; (focus (go_simp; try exact rfl)); go_simp; refine hK _ _ ?_; clear hK K
        refine sq_ex rfl (fun K hK => ?_); apply Exists.intro; refine ⟨?_, ?_⟩; (focus (go_simp; try exact rfl)); go_simp; refine hK _ _ ?_; clear hK K
        refine sq_ex rfl (fun K hK => ?_); apply Exists.intro; refine ⟨?_, ?_⟩; (focus (go_simp; try exact rfl)); go_simp; refine hK _ _ ?_; clear hK K
        refine sq_ex rfl (fun K hK => ?_); apply Exists.intro; refine ⟨?_, ?_⟩; (focus (go_simp; try exact rfl)); go_simp; refine hK _ _ ?_; clear hK K
        refine sq_ex rfl (fun K hK => ?_); refine ⟨.bool true, ?_, ?_⟩; (focus (go_simp; try (first | omega | (simp; done) | (simp; omega)))); go_simp; refine hK _ _ ?_; clear hK K
        refine sq_ex rfl (fun K hK => ?_); apply Exists.intro; refine ⟨?_, ?_⟩; (focus (go_simp; try exact rfl)); go_simp; refine hK _ _ ?_; clear hK K
        refine sq_ex rfl (fun K hK => ?_); apply Exists.intro; refine ⟨?_, ?_⟩; (focus (go_simp; try exact rfl)); go_simp; refine hK _ _ ?_; clear hK K
        refine sq_nil ?_
        refine H29 _ _ ?_
        clear H29 K29
        refine wp_ret ?_
        go_ret
        exact ⟨rfl, M.below⟩

end Go.Proofs.Ytpjdojnbajoafaa
