/- wide.Parse, of a number's digits. -/
import Derived.Test.YtpjdojnbajoafaaWz
import Derived.LoopTactic
namespace Go.Proofs.Ytpjdojnbajoafaa
open Go Go.RowKit
theorem quart_zero (w : World) : (zeroValue 78).run Try.prog w = .ok (.agg (qA 0)) w := by
  rw [qA_zero]; exact zero_of_info' quart_info w

set_option maxRecDepth 100000 in
set_option maxHeartbeats 1000000 in
theorem parse_short (s : ByteArray) (h l : Nat) (c0 : Nat) (w : World)
    (hs : Hid (s.size ≤ 39))
    (hs' : (s.size : Int) ≤ 39)
    (hl0 : Hid (0 < s.size))
    (hd : Hid (∀ k (hk : k < s.size), 48 ≤ (s[k]'hk).toNat ∧ (s[k]'hk).toNat ≤ 57))
    (hne : s.toList = [] ↔ False)
    (v : Nat → Nat) (hv0 : v 0 = 0) (hvs : Hid (∀ k (hk : k < s.size), v (k + 1) = v k * 10 + ((s[k]'hk).toNat - 48)))
    (HW : Hid (Dt 54 #[.agg (qA (v s.size))] (.tuple #[wv h l, .bool true])))
    (hl : (s.size : Int) = 1) :
    Calls Try.prog 32 #[.string s] w fun e w' => e = .returned (.tuple #[wv h l, .int .i64 0]) ∧ Below w.heap.size w w' := by
  have M0 := Has.start w
  go_enter Try.func32, Try.ntmps32
  refine wp_seq_k (fun K1 H1 => ?_)
  refine sq_region ?_
  refine sq_alloc rfl M0 (T := 24) (z := #[.int .u64 0, .int .u64 0]) (fun w' => by go_simp) (fun K hK => ?_)
  intro g2 w1 M1
  clear M0
  go_simp; refine hK _ _ ?_; clear hK K
  refine sq_ex rfl (fun K hK => ?_); apply Exists.intro; refine ⟨?_, ?_⟩; (focus (go_simp; try exact rfl)); go_simp; refine hK _ _ ?_; clear hK K
  refine sq_nil ?_
  refine H1 _ _ ?_
  clear H1 K1
  refine wp_seq_k (fun K2 H2 => ?_)
  refine wp_block ?_
  refine wp_seq_k (fun K3 H3 => ?_)
  refine sq_region ?_
  refine sq_ex rfl (fun K hK => ?_); apply Exists.intro; refine ⟨?_, ?_⟩; (focus (go_simp; try exact rfl)); go_simp; refine hK _ _ ?_; clear hK K
  refine sq_ex rfl (fun K hK => ?_); apply Exists.intro; refine ⟨?_, ?_⟩; (focus (go_simp; try exact rfl)); go_simp; refine hK _ _ ?_; clear hK K
  refine sq_ex rfl (fun K hK => ?_); refine ⟨.bool false, ?_, ?_⟩; (focus (go_simp; try (first | omega | (simp; done) | (simp; omega)))); go_simp; refine hK _ _ ?_; clear hK K
  refine sq_ex rfl (fun K hK => ?_); apply Exists.intro; refine ⟨?_, ?_⟩; (focus (go_simp; try exact rfl)); go_simp; refine hK _ _ ?_; clear hK K
  refine sq_nil ?_
  refine H3 _ _ ?_
  clear H3 K3
  refine wp_cond_false rfl ?_
  refine wp_seq_k (fun K4 H4 => ?_)
  refine sq_region ?_
  refine sq_ex rfl (fun K hK => ?_); apply Exists.intro; refine ⟨?_, ?_⟩; (focus (go_simp; try exact rfl)); go_simp; refine hK _ _ ?_; clear hK K
  refine sq_ex rfl (fun K hK => ?_); refine ⟨.bool false, ?_, ?_⟩; (focus (go_simp; try (first | omega | (simp; done) | (simp; omega)))); go_simp; refine hK _ _ ?_; clear hK K
  refine sq_ex rfl (fun K hK => ?_); apply Exists.intro; refine ⟨?_, ?_⟩; (focus (go_simp; try exact rfl)); go_simp; refine hK _ _ ?_; clear hK K
  refine sq_ex rfl (fun K hK => ?_); apply Exists.intro; refine ⟨?_, ?_⟩; (focus (go_simp; try exact rfl)); go_simp; refine hK _ _ ?_; clear hK K
  refine sq_ex rfl (fun K hK => ?_); apply Exists.intro; refine ⟨?_, ?_⟩; (focus (go_simp; try exact rfl)); go_simp; refine hK _ _ ?_; clear hK K
  refine sq_ex rfl (fun K hK => ?_); refine ⟨.bool false, ?_, ?_⟩; (focus (go_simp; try (first | omega | (simp; done) | (simp; omega)))); go_simp; refine hK _ _ ?_; clear hK K
  refine sq_ex rfl (fun K hK => ?_); apply Exists.intro; refine ⟨?_, ?_⟩; (focus (go_simp; try exact rfl)); go_simp; refine hK _ _ ?_; clear hK K
  refine sq_not rfl (fun K hK => ?_); go_simp; refine hK _ _ ?_; clear hK K
  refine sq_not rfl (fun K hK => ?_); go_simp; refine hK _ _ ?_; clear hK K
  refine sq_not rfl (fun K hK => ?_); go_simp; refine hK _ _ ?_; clear hK K
  refine sq_ex rfl (fun K hK => ?_); apply Exists.intro; refine ⟨?_, ?_⟩; (focus (go_simp; try exact rfl)); go_simp; refine hK _ _ ?_; clear hK K
  refine sq_ex rfl (fun K hK => ?_); apply Exists.intro; refine ⟨?_, ?_⟩; (focus (go_simp; try exact rfl)); go_simp; refine hK _ _ ?_; clear hK K
  refine sq_ex rfl (fun K hK => ?_); apply Exists.intro; refine ⟨?_, ?_⟩; (focus (go_simp; try exact rfl)); go_simp; refine hK _ _ ?_; clear hK K
  refine sq_nil ?_
  refine H4 _ _ ?_
  clear H4 K4
  refine wp_cond_false rfl ?_
  refine wp_skip ?_
  refine H2 _ _ ?_
  clear H2 K2
  refine wp_seq_k (fun K5 H5 => ?_)
  refine sq_region ?_
  refine sq_alloc rfl M1 (T := 78) (z := (qA 0)) (fun w' => by have hz := quart_zero w'; go_simp) (fun K hK => ?_)
  intro g4 w2 M2
  clear M1
  go_simp; refine hK _ _ ?_; clear hK K
  refine sq_nil ?_
  refine H5 _ _ ?_
  clear H5 K5
  refine wp_seq_k (fun K6 H6 => ?_)
  refine wp_seq_k (fun K7 H7 => ?_)
  refine sq_region ?_
  refine sq_ex rfl (fun K hK => ?_); apply Exists.intro; refine ⟨?_, ?_⟩; (focus (go_simp; try exact rfl)); go_simp; refine hK _ _ ?_; clear hK K
  refine sq_range rfl M2 rfl rfl Try.underlying9 (fun K hK => ?_)
  intro gi w3 M3 I0
  clear M2
  go_simp; refine hK _ _ ?_; clear hK K
  refine sq_nil ?_
  refine H7 _ _ ?_
  clear H7 K7
  refine wp_block ?_
  go_loopw [6] (fun _ wr => ∃ k, k ≤ s.size ∧ Has w [(g2, #[.int .u64 0, .int .u64 0], 24), (g4, (qA (v k)), 78)] wr ∧ Iter w [(g2, #[.int .u64 0, .int .u64 0], 24), (g4, (qA (v k)), 78)] gi s k wr) (fun _ wr => s.size - wr.iterPos gi)
  case atStart => exact ⟨0, Nat.zero_le _, by rw [hv0]; exact M3, by rw [hv0]; exact I0⟩
  case round =>
    clear M3 I0
    obtain ⟨k, hk, M, I⟩ := hrel
    by_cases hp : k < s.size
    ·
      have hdk := hd.out k hp
      have hvk := hvs.out k hp
      have ha : (s[k]'hp).toNat < 128 := by omega
      obtain ⟨c, hc⟩ : ∃ c, c = (s[k]'hp).toNat := ⟨_, rfl⟩
      obtain ⟨d, hdd⟩ : ∃ d, d = c - 48 := ⟨_, rfl⟩
      have hW1 : IntKind.i32.wrap ((c : Int) - 48) = (d : Int) := by simp [IntKind.wrap, IntKind.bits, IntKind.signed]; omega
      have hW2 : IntKind.u64.wrap (d : Int) = (d : Int) := by simp [IntKind.wrap, IntKind.bits, IntKind.signed]; omega
      have HT : Hid (Dt 59 #[.agg (qA (v k)), .int .u64 10, .int .u64 d] (.agg (qA (v (k + 1))))) := Lib.hid fun w => by rw [hvk, ← hc, ← hdd]; exact times_any (v k) 10 d w (by decide) (by omega)
      have hc1 : 48 ≤ c := by omega
      have hc2 : c ≤ 57 := by omega
      have HC := Lib.hid hc
      clear hdk hvk hdd hc
      have HPOS : Hid (wr.iterPos gi = k) := Lib.hid (by unfold World.iterPos; rw [I.here])
      refine wp_seq_k (fun K8 H8 => ?_)
      refine sq_region ?_
      refine sq_next rfl M I rfl rfl hp ha (fun K hK => ?_)
      intro w4 M4 I4
      clear M I
      rw [← HC.out]
      go_simp; refine hK _ _ ?_; clear hK K
      refine sq_ex rfl (fun K hK => ?_); apply Exists.intro; refine ⟨?_, ?_⟩; (focus (go_simp; try exact rfl)); go_simp; refine hK _ _ ?_; clear hK K
      refine sq_nil ?_
      refine H8 _ _ ?_
      clear H8 K8
      refine wp_seq_k (fun K9 H9 => ?_)
      refine wp_cond_true rfl ?_
      refine wp_skip ?_
      refine H9 _ _ ?_
      clear H9 K9
      refine wp_block ?_
      refine wp_seq_k (fun K10 H10 => ?_)
      refine sq_region ?_
      refine sq_ex rfl (fun K hK => ?_); apply Exists.intro; refine ⟨?_, ?_⟩; (focus (go_simp; try exact rfl)); go_simp; refine hK _ _ ?_; clear hK K
      refine sq_ex rfl (fun K hK => ?_); apply Exists.intro; refine ⟨?_, ?_⟩; (focus (go_simp; try exact rfl)); go_simp; refine hK _ _ ?_; clear hK K
      refine sq_nil ?_
      refine H10 _ _ ?_
      clear H10 K10
      refine wp_seq_k (fun K11 H11 => ?_)
      refine wp_seq_k (fun K12 H12 => ?_)
      refine sq_region ?_
      refine sq_ex rfl (fun K hK => ?_); apply Exists.intro; refine ⟨?_, ?_⟩; (focus (go_simp; try exact rfl)); go_simp; refine hK _ _ ?_; clear hK K
      refine sq_ex rfl (fun K hK => ?_); refine ⟨.bool false, ?_, ?_⟩; (focus (go_simp; try (first | omega | (simp; done) | (simp; omega)))); go_simp; refine hK _ _ ?_; clear hK K
      refine sq_ex rfl (fun K hK => ?_); apply Exists.intro; refine ⟨?_, ?_⟩; (focus (go_simp; try exact rfl)); go_simp; refine hK _ _ ?_; clear hK K
      refine sq_ex rfl (fun K hK => ?_); apply Exists.intro; refine ⟨?_, ?_⟩; (focus (go_simp; try exact rfl)); go_simp; refine hK _ _ ?_; clear hK K
      refine sq_ex rfl (fun K hK => ?_); refine ⟨.bool false, ?_, ?_⟩; (focus (go_simp; try (first | omega | (simp; done) | (simp; omega)))); go_simp; refine hK _ _ ?_; clear hK K
      refine sq_ex rfl (fun K hK => ?_); apply Exists.intro; refine ⟨?_, ?_⟩; (focus (go_simp; try exact rfl)); go_simp; refine hK _ _ ?_; clear hK K
      refine sq_nil ?_
      refine H12 _ _ ?_
      clear H12 K12
      refine wp_cond_false rfl ?_
      refine wp_skip ?_
      refine H11 _ _ ?_
      clear H11 K11
      refine sq_region ?_
      refine sq_ex rfl (fun K hK => ?_); refine ⟨_, run_ld rfl rfl (M4.row 1 rfl) rfl Try.underlying78 (quart_size _), ?_⟩; go_simp; refine hK _ _ ?_; clear hK K
      refine sq_ex rfl (fun K hK => ?_); apply Exists.intro; refine ⟨?_, ?_⟩; (focus (go_simp; try exact rfl)); go_simp; refine hK _ _ ?_; clear hK K
      refine sq_ex rfl (fun K hK => ?_); apply Exists.intro; refine ⟨?_, ?_⟩; (focus (go_simp; try exact rfl)); go_simp; refine hK _ _ ?_; clear hK K
      refine sq_ex rfl (fun K hK => ?_); apply Exists.intro; refine ⟨?_, ?_⟩; (focus (go_simp; try exact rfl)); go_simp; refine hK _ _ ?_; clear hK K
      refine sq_call rfl (fun w' => by go_simp) (HT.out _) (fun K hK => ?_)
      rintro e w5 ⟨rfl, hb⟩
      have I5 := I4.kept hb
      clear I4
      refine ⟨_, rfl, ?_⟩
      have M5 := M4.kept hb
      clear M4 hb
      go_simp; refine hK _ _ ?_; clear hK K
      refine sq_storeI rfl M5 I5 1 rfl (run_st (cs := (qA (v (k + 1)))) rfl rfl rfl (quart_size _) (by rw [qA_size, qA_size]) (qA_oneCell _)) (fun K hK => ?_)
      intro w6 M6 I6
      clear M5 I5
      go_simp; refine hK _ _ ?_; clear hK K
      refine sq_nil ?_
      refine ⟨?_, ?_⟩
      · (repeat apply Exists.intro); exact ⟨⟨k + 1, hp, M6, I6⟩, rfl⟩
      · have e1 : w6.iterPos gi = k + 1 := by unfold World.iterPos; rw [I6.here]
        have e2 := HPOS.out
        omega
    ·
      obtain rfl : k = s.size := by omega
      refine wp_seq_k (fun K13 H13 => ?_)
      refine sq_region ?_
      refine sq_next_end rfl I rfl rfl hp (fun K hK => ?_)
      clear I
      go_simp; refine hK _ _ ?_; clear hK K
      refine sq_ex rfl (fun K hK => ?_); apply Exists.intro; refine ⟨?_, ?_⟩; (focus (go_simp; try exact rfl)); go_simp; refine hK _ _ ?_; clear hK K
      refine sq_nil ?_
      refine H13 _ _ ?_
      clear H13 K13
      refine wp_seq_k (fun K14 H14 => ?_)
      refine wp_cond_false rfl ?_
      refine wp_exit ?_
      refine then_exit ?_
      clear H14 K14
      refine then_exit ?_
      refine exit_here ?_
      refine H6 _ _ ?_
      clear H6 K6
      refine wp_seq_k (fun K15 H15 => ?_)
      refine sq_region ?_
      refine sq_ex rfl (fun K hK => ?_); refine ⟨_, run_ld rfl rfl (M.row 1 rfl) rfl Try.underlying78 (quart_size _), ?_⟩; go_simp; refine hK _ _ ?_; clear hK K
      refine sq_call rfl (fun w' => by go_simp) (HW.out _) (fun K hK => ?_)
      rintro e w7 ⟨rfl, hb⟩
      refine ⟨_, rfl, ?_⟩
      have M7 := M.kept hb
      clear M hb
      go_simp; refine hK _ _ ?_; clear hK K
      refine sq_ex rfl (fun K hK => ?_); apply Exists.intro; refine ⟨?_, ?_⟩; (focus (go_simp; try exact rfl)); go_simp; refine hK _ _ ?_; clear hK K
      refine sq_ex rfl (fun K hK => ?_); apply Exists.intro; refine ⟨?_, ?_⟩; (focus (go_simp; try exact rfl)); go_simp; refine hK _ _ ?_; clear hK K
      refine sq_ex rfl (fun K hK => ?_); apply Exists.intro; refine ⟨?_, ?_⟩; (focus (go_simp; try exact rfl)); go_simp; refine hK _ _ ?_; clear hK K
      refine sq_alloc rfl M7 (T := 24) (z := #[.int .u64 0, .int .u64 0]) (fun w' => by go_simp) (fun K hK => ?_)
      intro g7 w8 M8
      clear M7
      go_simp; refine hK _ _ ?_; clear hK K
      refine sq_store rfl M8 2 rfl (run_st (cs := #[.int .u64 h, .int .u64 l]) rfl rfl rfl wide_size rfl (by simp [Value.oneCell'])) (fun K hK => ?_)
      intro w9 M9
      clear M8
      go_simp; refine hK _ _ ?_; clear hK K
      refine sq_ex rfl (fun K hK => ?_); apply Exists.intro; refine ⟨?_, ?_⟩; (focus (go_simp; try exact rfl)); go_simp; refine hK _ _ ?_; clear hK K
      refine sq_nil ?_
      refine H15 _ _ ?_
      clear H15 K15
      refine wp_seq_k (fun K16 H16 => ?_)
      refine wp_seq_k (fun K17 H17 => ?_)
      refine sq_region ?_
      refine sq_ex rfl (fun K hK => ?_); apply Exists.intro; refine ⟨?_, ?_⟩; (focus (go_simp; try exact rfl)); go_simp; refine hK _ _ ?_; clear hK K
      refine sq_ex rfl (fun K hK => ?_); apply Exists.intro; refine ⟨?_, ?_⟩; (focus (go_simp; try exact rfl)); go_simp; refine hK _ _ ?_; clear hK K
      refine sq_nil ?_
      refine H17 _ _ ?_
      clear H17 K17
      refine wp_cond_false rfl ?_
      refine wp_skip ?_
      refine H16 _ _ ?_
      clear H16 K16
      refine wp_seq_k (fun K18 H18 => ?_)
      refine sq_region ?_
      refine sq_ex rfl (fun K hK => ?_); refine ⟨_, run_ld rfl rfl (M9.row 2 rfl) rfl Try.underlying24 wide_size, ?_⟩; go_simp; refine hK _ _ ?_; clear hK K
      refine sq_store rfl M9 0 rfl (run_st (cs := #[.int .u64 h, .int .u64 l]) rfl rfl rfl wide_size rfl (by simp [Value.oneCell'])) (fun K hK => ?_)
      intro w10 M10
      clear M9
      go_simp; refine hK _ _ ?_; clear hK K
      refine sq_ex rfl (fun K hK => ?_); apply Exists.intro; refine ⟨?_, ?_⟩; (focus (go_simp; try exact rfl)); go_simp; refine hK _ _ ?_; clear hK K
      refine sq_nil ?_
      refine H18 _ _ ?_
      clear H18 K18
      refine wp_ret ?_
      refine retW1 Try.results32 rfl _ rfl (M10.row 0 rfl) ⟨rfl, M10.below⟩

set_option maxRecDepth 100000 in
set_option maxHeartbeats 1000000 in
theorem parse_long (s : ByteArray) (h l : Nat) (c0 : Nat) (w : World)
    (hs : Hid (s.size ≤ 39))
    (hs' : (s.size : Int) ≤ 39)
    (hl0 : Hid (0 < s.size))
    (hd : Hid (∀ k (hk : k < s.size), 48 ≤ (s[k]'hk).toNat ∧ (s[k]'hk).toNat ≤ 57))
    (hne : s.toList = [] ↔ False)
    (v : Nat → Nat) (hv0 : v 0 = 0) (hvs : Hid (∀ k (hk : k < s.size), v (k + 1) = v k * 10 + ((s[k]'hk).toNat - 48)))
    (HW : Hid (Dt 54 #[.agg (qA (v s.size))] (.tuple #[wv h l, .bool true])))
    (hl : (1 : Int) < s.size)
    (hz : Hid (∀ w : World, (execOp (fun x => match x with | .tmp 22 => Value.string s | .const v => v | _ => undef) { dst := some 23, op := .index 9 (.tmp 22) (.const (.int .i64 0)), type := 5, pos := "", after := #[], guard := none }).run Try.prog w = .ok (.value (.int .u8 c0)) w))
    (hc0 : ((c0 : Int) == 48) = false) :
    Calls Try.prog 32 #[.string s] w fun e w' => e = .returned (.tuple #[wv h l, .int .i64 0]) ∧ Below w.heap.size w w' := by
  have M0 := Has.start w
  go_enter Try.func32, Try.ntmps32
  refine wp_seq_k (fun K1 H1 => ?_)
  refine sq_region ?_
  refine sq_alloc rfl M0 (T := 24) (z := #[.int .u64 0, .int .u64 0]) (fun w' => by go_simp) (fun K hK => ?_)
  intro g2 w1 M1
  clear M0
  go_simp; refine hK _ _ ?_; clear hK K
  refine sq_ex rfl (fun K hK => ?_); apply Exists.intro; refine ⟨?_, ?_⟩; (focus (go_simp; try exact rfl)); go_simp; refine hK _ _ ?_; clear hK K
  refine sq_nil ?_
  refine H1 _ _ ?_
  clear H1 K1
  refine wp_seq_k (fun K2 H2 => ?_)
  refine wp_block ?_
  refine wp_seq_k (fun K3 H3 => ?_)
  refine sq_region ?_
  refine sq_ex rfl (fun K hK => ?_); apply Exists.intro; refine ⟨?_, ?_⟩; (focus (go_simp; try exact rfl)); go_simp; refine hK _ _ ?_; clear hK K
  refine sq_ex rfl (fun K hK => ?_); apply Exists.intro; refine ⟨?_, ?_⟩; (focus (go_simp; try exact rfl)); go_simp; refine hK _ _ ?_; clear hK K
  refine sq_ex rfl (fun K hK => ?_); refine ⟨.bool false, ?_, ?_⟩; (focus (go_simp; try (first | omega | (simp; done) | (simp; omega)))); go_simp; refine hK _ _ ?_; clear hK K
  refine sq_ex rfl (fun K hK => ?_); apply Exists.intro; refine ⟨?_, ?_⟩; (focus (go_simp; try exact rfl)); go_simp; refine hK _ _ ?_; clear hK K
  refine sq_nil ?_
  refine H3 _ _ ?_
  clear H3 K3
  refine wp_cond_false rfl ?_
  refine wp_seq_k (fun K4 H4 => ?_)
  refine sq_region ?_
  refine sq_ex rfl (fun K hK => ?_); apply Exists.intro; refine ⟨?_, ?_⟩; (focus (go_simp; try exact rfl)); go_simp; refine hK _ _ ?_; clear hK K
  refine sq_ex rfl (fun K hK => ?_); refine ⟨.bool false, ?_, ?_⟩; (focus (go_simp; try (first | omega | (simp; done) | (simp; omega)))); go_simp; refine hK _ _ ?_; clear hK K
  refine sq_ex rfl (fun K hK => ?_); apply Exists.intro; refine ⟨?_, ?_⟩; (focus (go_simp; try exact rfl)); go_simp; refine hK _ _ ?_; clear hK K
  refine sq_ex rfl (fun K hK => ?_); apply Exists.intro; refine ⟨?_, ?_⟩; (focus (go_simp; try exact rfl)); go_simp; refine hK _ _ ?_; clear hK K
  refine sq_ex rfl (fun K hK => ?_); apply Exists.intro; refine ⟨?_, ?_⟩; (focus (go_simp; try exact rfl)); go_simp; refine hK _ _ ?_; clear hK K
  refine sq_ex rfl (fun K hK => ?_); refine ⟨.bool true, ?_, ?_⟩; (focus (go_simp; try (first | omega | (simp; done) | (simp; omega)))); go_simp; refine hK _ _ ?_; clear hK K
  refine sq_ex rfl (fun K hK => ?_); apply Exists.intro; refine ⟨?_, ?_⟩; (focus (go_simp; try exact rfl)); go_simp; refine hK _ _ ?_; clear hK K
  refine sq_ex rfl (fun K hK => ?_); apply Exists.intro; refine ⟨?_, ?_⟩; (focus (go_simp; try exact rfl)); go_simp; refine hK _ _ ?_; clear hK K
  refine sq_ex rfl (fun K hK => ?_); refine ⟨.int .u8 c0, ?_, ?_⟩; (focus (exact hz.out _)); go_simp; refine hK _ _ ?_; clear hK K
  refine sq_ex rfl (fun K hK => ?_); refine ⟨.bool false, ?_, ?_⟩; (focus (go_simp; try (first | omega | (simp; done) | (simp; omega)))); go_simp; refine hK _ _ ?_; clear hK K
  refine sq_ex rfl (fun K hK => ?_); apply Exists.intro; refine ⟨?_, ?_⟩; (focus (go_simp; try exact rfl)); go_simp; refine hK _ _ ?_; clear hK K
  refine sq_ex rfl (fun K hK => ?_); apply Exists.intro; refine ⟨?_, ?_⟩; (focus (go_simp; try exact rfl)); go_simp; refine hK _ _ ?_; clear hK K
  refine sq_ex rfl (fun K hK => ?_); apply Exists.intro; refine ⟨?_, ?_⟩; (focus (go_simp; try exact rfl)); go_simp; refine hK _ _ ?_; clear hK K
  refine sq_nil ?_
  refine H4 _ _ ?_
  clear H4 K4
  refine wp_cond_false rfl ?_
  refine wp_skip ?_
  refine H2 _ _ ?_
  clear H2 K2
  refine wp_seq_k (fun K5 H5 => ?_)
  refine sq_region ?_
  refine sq_alloc rfl M1 (T := 78) (z := (qA 0)) (fun w' => by have hz := quart_zero w'; go_simp) (fun K hK => ?_)
  intro g4 w2 M2
  clear M1
  go_simp; refine hK _ _ ?_; clear hK K
  refine sq_nil ?_
  refine H5 _ _ ?_
  clear H5 K5
  refine wp_seq_k (fun K6 H6 => ?_)
  refine wp_seq_k (fun K7 H7 => ?_)
  refine sq_region ?_
  refine sq_ex rfl (fun K hK => ?_); apply Exists.intro; refine ⟨?_, ?_⟩; (focus (go_simp; try exact rfl)); go_simp; refine hK _ _ ?_; clear hK K
  refine sq_range rfl M2 rfl rfl Try.underlying9 (fun K hK => ?_)
  intro gi w3 M3 I0
  clear M2
  go_simp; refine hK _ _ ?_; clear hK K
  refine sq_nil ?_
  refine H7 _ _ ?_
  clear H7 K7
  refine wp_block ?_
  go_loopw [6] (fun _ wr => ∃ k, k ≤ s.size ∧ Has w [(g2, #[.int .u64 0, .int .u64 0], 24), (g4, (qA (v k)), 78)] wr ∧ Iter w [(g2, #[.int .u64 0, .int .u64 0], 24), (g4, (qA (v k)), 78)] gi s k wr) (fun _ wr => s.size - wr.iterPos gi)
  case atStart => exact ⟨0, Nat.zero_le _, by rw [hv0]; exact M3, by rw [hv0]; exact I0⟩
  case round =>
    clear M3 I0
    obtain ⟨k, hk, M, I⟩ := hrel
    by_cases hp : k < s.size
    ·
      have hdk := hd.out k hp
      have hvk := hvs.out k hp
      have ha : (s[k]'hp).toNat < 128 := by omega
      obtain ⟨c, hc⟩ : ∃ c, c = (s[k]'hp).toNat := ⟨_, rfl⟩
      obtain ⟨d, hdd⟩ : ∃ d, d = c - 48 := ⟨_, rfl⟩
      have hW1 : IntKind.i32.wrap ((c : Int) - 48) = (d : Int) := by simp [IntKind.wrap, IntKind.bits, IntKind.signed]; omega
      have hW2 : IntKind.u64.wrap (d : Int) = (d : Int) := by simp [IntKind.wrap, IntKind.bits, IntKind.signed]; omega
      have HT : Hid (Dt 59 #[.agg (qA (v k)), .int .u64 10, .int .u64 d] (.agg (qA (v (k + 1))))) := Lib.hid fun w => by rw [hvk, ← hc, ← hdd]; exact times_any (v k) 10 d w (by decide) (by omega)
      have hc1 : 48 ≤ c := by omega
      have hc2 : c ≤ 57 := by omega
      have HC := Lib.hid hc
      clear hdk hvk hdd hc
      have HPOS : Hid (wr.iterPos gi = k) := Lib.hid (by unfold World.iterPos; rw [I.here])
      refine wp_seq_k (fun K8 H8 => ?_)
      refine sq_region ?_
      refine sq_next rfl M I rfl rfl hp ha (fun K hK => ?_)
      intro w4 M4 I4
      clear M I
      rw [← HC.out]
      go_simp; refine hK _ _ ?_; clear hK K
      refine sq_ex rfl (fun K hK => ?_); apply Exists.intro; refine ⟨?_, ?_⟩; (focus (go_simp; try exact rfl)); go_simp; refine hK _ _ ?_; clear hK K
      refine sq_nil ?_
      refine H8 _ _ ?_
      clear H8 K8
      refine wp_seq_k (fun K9 H9 => ?_)
      refine wp_cond_true rfl ?_
      refine wp_skip ?_
      refine H9 _ _ ?_
      clear H9 K9
      refine wp_block ?_
      refine wp_seq_k (fun K10 H10 => ?_)
      refine sq_region ?_
      refine sq_ex rfl (fun K hK => ?_); apply Exists.intro; refine ⟨?_, ?_⟩; (focus (go_simp; try exact rfl)); go_simp; refine hK _ _ ?_; clear hK K
      refine sq_ex rfl (fun K hK => ?_); apply Exists.intro; refine ⟨?_, ?_⟩; (focus (go_simp; try exact rfl)); go_simp; refine hK _ _ ?_; clear hK K
      refine sq_nil ?_
      refine H10 _ _ ?_
      clear H10 K10
      refine wp_seq_k (fun K11 H11 => ?_)
      refine wp_seq_k (fun K12 H12 => ?_)
      refine sq_region ?_
      refine sq_ex rfl (fun K hK => ?_); apply Exists.intro; refine ⟨?_, ?_⟩; (focus (go_simp; try exact rfl)); go_simp; refine hK _ _ ?_; clear hK K
      refine sq_ex rfl (fun K hK => ?_); refine ⟨.bool false, ?_, ?_⟩; (focus (go_simp; try (first | omega | (simp; done) | (simp; omega)))); go_simp; refine hK _ _ ?_; clear hK K
      refine sq_ex rfl (fun K hK => ?_); apply Exists.intro; refine ⟨?_, ?_⟩; (focus (go_simp; try exact rfl)); go_simp; refine hK _ _ ?_; clear hK K
      refine sq_ex rfl (fun K hK => ?_); apply Exists.intro; refine ⟨?_, ?_⟩; (focus (go_simp; try exact rfl)); go_simp; refine hK _ _ ?_; clear hK K
      refine sq_ex rfl (fun K hK => ?_); refine ⟨.bool false, ?_, ?_⟩; (focus (go_simp; try (first | omega | (simp; done) | (simp; omega)))); go_simp; refine hK _ _ ?_; clear hK K
      refine sq_ex rfl (fun K hK => ?_); apply Exists.intro; refine ⟨?_, ?_⟩; (focus (go_simp; try exact rfl)); go_simp; refine hK _ _ ?_; clear hK K
      refine sq_nil ?_
      refine H12 _ _ ?_
      clear H12 K12
      refine wp_cond_false rfl ?_
      refine wp_skip ?_
      refine H11 _ _ ?_
      clear H11 K11
      refine sq_region ?_
      refine sq_ex rfl (fun K hK => ?_); refine ⟨_, run_ld rfl rfl (M4.row 1 rfl) rfl Try.underlying78 (quart_size _), ?_⟩; go_simp; refine hK _ _ ?_; clear hK K
      refine sq_ex rfl (fun K hK => ?_); apply Exists.intro; refine ⟨?_, ?_⟩; (focus (go_simp; try exact rfl)); go_simp; refine hK _ _ ?_; clear hK K
      refine sq_ex rfl (fun K hK => ?_); apply Exists.intro; refine ⟨?_, ?_⟩; (focus (go_simp; try exact rfl)); go_simp; refine hK _ _ ?_; clear hK K
      refine sq_ex rfl (fun K hK => ?_); apply Exists.intro; refine ⟨?_, ?_⟩; (focus (go_simp; try exact rfl)); go_simp; refine hK _ _ ?_; clear hK K
      refine sq_call rfl (fun w' => by go_simp) (HT.out _) (fun K hK => ?_)
      rintro e w5 ⟨rfl, hb⟩
      have I5 := I4.kept hb
      clear I4
      refine ⟨_, rfl, ?_⟩
      have M5 := M4.kept hb
      clear M4 hb
      go_simp; refine hK _ _ ?_; clear hK K
      refine sq_storeI rfl M5 I5 1 rfl (run_st (cs := (qA (v (k + 1)))) rfl rfl rfl (quart_size _) (by rw [qA_size, qA_size]) (qA_oneCell _)) (fun K hK => ?_)
      intro w6 M6 I6
      clear M5 I5
      go_simp; refine hK _ _ ?_; clear hK K
      refine sq_nil ?_
      refine ⟨?_, ?_⟩
      · (repeat apply Exists.intro); exact ⟨⟨k + 1, hp, M6, I6⟩, rfl⟩
      · have e1 : w6.iterPos gi = k + 1 := by unfold World.iterPos; rw [I6.here]
        have e2 := HPOS.out
        omega
    ·
      obtain rfl : k = s.size := by omega
      refine wp_seq_k (fun K13 H13 => ?_)
      refine sq_region ?_
      refine sq_next_end rfl I rfl rfl hp (fun K hK => ?_)
      clear I
      go_simp; refine hK _ _ ?_; clear hK K
      refine sq_ex rfl (fun K hK => ?_); apply Exists.intro; refine ⟨?_, ?_⟩; (focus (go_simp; try exact rfl)); go_simp; refine hK _ _ ?_; clear hK K
      refine sq_nil ?_
      refine H13 _ _ ?_
      clear H13 K13
      refine wp_seq_k (fun K14 H14 => ?_)
      refine wp_cond_false rfl ?_
      refine wp_exit ?_
      refine then_exit ?_
      clear H14 K14
      refine then_exit ?_
      refine exit_here ?_
      refine H6 _ _ ?_
      clear H6 K6
      refine wp_seq_k (fun K15 H15 => ?_)
      refine sq_region ?_
      refine sq_ex rfl (fun K hK => ?_); refine ⟨_, run_ld rfl rfl (M.row 1 rfl) rfl Try.underlying78 (quart_size _), ?_⟩; go_simp; refine hK _ _ ?_; clear hK K
      refine sq_call rfl (fun w' => by go_simp) (HW.out _) (fun K hK => ?_)
      rintro e w7 ⟨rfl, hb⟩
      refine ⟨_, rfl, ?_⟩
      have M7 := M.kept hb
      clear M hb
      go_simp; refine hK _ _ ?_; clear hK K
      refine sq_ex rfl (fun K hK => ?_); apply Exists.intro; refine ⟨?_, ?_⟩; (focus (go_simp; try exact rfl)); go_simp; refine hK _ _ ?_; clear hK K
      refine sq_ex rfl (fun K hK => ?_); apply Exists.intro; refine ⟨?_, ?_⟩; (focus (go_simp; try exact rfl)); go_simp; refine hK _ _ ?_; clear hK K
      refine sq_ex rfl (fun K hK => ?_); apply Exists.intro; refine ⟨?_, ?_⟩; (focus (go_simp; try exact rfl)); go_simp; refine hK _ _ ?_; clear hK K
      refine sq_alloc rfl M7 (T := 24) (z := #[.int .u64 0, .int .u64 0]) (fun w' => by go_simp) (fun K hK => ?_)
      intro g7 w8 M8
      clear M7
      go_simp; refine hK _ _ ?_; clear hK K
      refine sq_store rfl M8 2 rfl (run_st (cs := #[.int .u64 h, .int .u64 l]) rfl rfl rfl wide_size rfl (by simp [Value.oneCell'])) (fun K hK => ?_)
      intro w9 M9
      clear M8
      go_simp; refine hK _ _ ?_; clear hK K
      refine sq_ex rfl (fun K hK => ?_); apply Exists.intro; refine ⟨?_, ?_⟩; (focus (go_simp; try exact rfl)); go_simp; refine hK _ _ ?_; clear hK K
      refine sq_nil ?_
      refine H15 _ _ ?_
      clear H15 K15
      refine wp_seq_k (fun K16 H16 => ?_)
      refine wp_seq_k (fun K17 H17 => ?_)
      refine sq_region ?_
      refine sq_ex rfl (fun K hK => ?_); apply Exists.intro; refine ⟨?_, ?_⟩; (focus (go_simp; try exact rfl)); go_simp; refine hK _ _ ?_; clear hK K
      refine sq_ex rfl (fun K hK => ?_); apply Exists.intro; refine ⟨?_, ?_⟩; (focus (go_simp; try exact rfl)); go_simp; refine hK _ _ ?_; clear hK K
      refine sq_nil ?_
      refine H17 _ _ ?_
      clear H17 K17
      refine wp_cond_false rfl ?_
      refine wp_skip ?_
      refine H16 _ _ ?_
      clear H16 K16
      refine wp_seq_k (fun K18 H18 => ?_)
      refine sq_region ?_
      refine sq_ex rfl (fun K hK => ?_); refine ⟨_, run_ld rfl rfl (M9.row 2 rfl) rfl Try.underlying24 wide_size, ?_⟩; go_simp; refine hK _ _ ?_; clear hK K
      refine sq_store rfl M9 0 rfl (run_st (cs := #[.int .u64 h, .int .u64 l]) rfl rfl rfl wide_size rfl (by simp [Value.oneCell'])) (fun K hK => ?_)
      intro w10 M10
      clear M9
      go_simp; refine hK _ _ ?_; clear hK K
      refine sq_ex rfl (fun K hK => ?_); apply Exists.intro; refine ⟨?_, ?_⟩; (focus (go_simp; try exact rfl)); go_simp; refine hK _ _ ?_; clear hK K
      refine sq_nil ?_
      refine H18 _ _ ?_
      clear H18 K18
      refine wp_ret ?_
      refine retW1 Try.results32 rfl _ rfl (M10.row 0 rfl) ⟨rfl, M10.below⟩

end Go.Proofs.Ytpjdojnbajoafaa
