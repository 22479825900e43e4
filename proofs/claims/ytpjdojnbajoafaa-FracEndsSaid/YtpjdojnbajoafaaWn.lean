/- package wide's MulDiv: its contract, whatever the world. -/
import Derived.Test.YtpjdojnbajoafaaWl
namespace Go.Proofs.Ytpjdojnbajoafaa
open Go.RowKit

/-- What is handed back: the number, if it has no more than 64 bits. -/
def mdRes (v : Nat) (x e : Nat) : Prop := if v < 2 ^ 64 then x = v ∧ e = 0 else x = 0 ∧ e = 131

set_option maxRecDepth 100000 in
set_option maxHeartbeats 400000 in
theorem wMulDiv_any (a b d : Nat) (up : Bool) (w : World) (ha : a < 2 ^ 64) (hm : b < 2 ^ 64) (hd0 : 0 < d) (hd : d < 2 ^ 64) :
    Calls Try.prog 22 #[.int .u64 a, .int .u64 b, .int .u64 d, .bool up] w fun e w' => ∃ x c : Nat, e = .returned (.tuple #[.int .u64 x, .int .i64 c]) ∧ x < 2 ^ 64 ∧ mdRes (scl a b d up) x c ∧ Below w.heap.size w w' := by
  have HC := Lib.hid (fun w => wscaled_any 0 a a b d up w (by decide) ha (by omega) hm hd0 hd)
  clear ha hm hd0 hd
  go_enter Try.func22, Try.ntmps22
  go_wp2_with fail
  refine (wOf_any a _).mono ?_
  rintro e w1 ⟨rfl, hb1⟩
  go_wp2_with fail
  refine (HC.out _).mono ?_
  rintro e w2 ⟨h', l', c, rfl, hh', hl', hs', hb2⟩
  have k2 := Below.two hb1 (Nat.le_refl _) hb2
  have HL' := Lib.hid hl'
  clear hb1 hb2 HC
  unfold sclRes at hs'
  by_cases hv : scl a b d up < 2 ^ 128
  · rw [if_pos hv] at hs'
    obtain ⟨hn, rfl⟩ := hs'
    by_cases h0 : h' = 0
    · subst h0
      have HM : Hid (mdRes (scl a b d up) l' 0) := by
        show mdRes _ _ _
        unfold mdRes
        have e : scl a b d up = l' := by rw [← hn]; omega
        rw [e, if_pos HL'.out]; exact ⟨rfl, rfl⟩
      clear hn hv hh' hl'
      go_wp2_with (first
        | (with_reducible refine wpW_store rfl (.tmp 10) (.tmp 19) rfl w2.heap.size rfl 0 l' 0 0 rfl (by (show (_ : World).heap[_]? = some _); repeat (first | (with_reducible refine heap_top _ _ _ ?_; first | (simp; done) | (simp; omega)) | rw [Below.heap_alloc _ _ _ (by first | (simp; done) | (simp; omega))])) ?_; intro w3 hp3; have q3 : IsW w3 w2.heap.size 0 l' := hp3.row; have c0 := q3.cell 0; have c1 := q3.cell 1; have k3 := hp3.below _ _ k2.size (k2.alloc k2.size _); clear hp3))
      go_ret2
      exact ⟨l', 0, rfl, HL'.out, HM.out, k3⟩
    · have h1 : (0 : Int) < (h' : Int) := by omega
      have HM : Hid (mdRes (scl a b d up) 0 131) := by
        show mdRes _ _ _
        unfold mdRes
        rw [if_neg (by rw [← hn]; omega)]; exact ⟨rfl, rfl⟩
      clear hn hv hh' hl' h0
      go_wp2_with (first
        | (with_reducible refine wpW_store rfl (.tmp 10) (.tmp 19) rfl w2.heap.size rfl h' l' 0 0 rfl (by (show (_ : World).heap[_]? = some _); repeat (first | (with_reducible refine heap_top _ _ _ ?_; first | (simp; done) | (simp; omega)) | rw [Below.heap_alloc _ _ _ (by first | (simp; done) | (simp; omega))])) ?_; intro w3 hp3; have q3 : IsW w3 w2.heap.size h' l' := hp3.row; have c0 := q3.cell 0; have c1 := q3.cell 1; have k3 := hp3.below _ _ k2.size (k2.alloc k2.size _); clear hp3))
      go_ret2
      exact ⟨0, 131, rfl, by decide, HM.out, k3⟩
  · rw [if_neg hv] at hs'
    obtain ⟨rfl, rfl, rfl⟩ := hs'
    have HM : Hid (mdRes (scl a b d up) 0 131) := by
      show mdRes _ _ _
      unfold mdRes
      rw [if_neg (by omega)]; exact ⟨rfl, rfl⟩
    clear hv hh' hl'
    go_wp2_with (first
      | (with_reducible refine wpW_store rfl (.tmp 10) (.tmp 19) rfl w2.heap.size rfl 0 0 0 0 rfl (by (show (_ : World).heap[_]? = some _); repeat (first | (with_reducible refine heap_top _ _ _ ?_; first | (simp; done) | (simp; omega)) | rw [Below.heap_alloc _ _ _ (by first | (simp; done) | (simp; omega))])) ?_; intro w3 hp3; have k3 := hp3.below _ _ k2.size (k2.alloc k2.size _); clear hp3))
    go_ret2
    exact ⟨0, 131, rfl, by decide, HM.out, k3⟩

end Go.Proofs.Ytpjdojnbajoafaa
