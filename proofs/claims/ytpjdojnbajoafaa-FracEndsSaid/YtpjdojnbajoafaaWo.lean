/- The chapter's wakes: it answers true. -/
import Derived.Test.YtpjdojnbajoafaaWn
import Derived.Test.YtpjdojnbajoafaaCalm
namespace Go.Proofs.Ytpjdojnbajoafaa
open Go.RowKit

theorem of_parts (h l H L : Nat) (hl : l < 2 ^ 64) (hL : L < 2 ^ 64) (e : h * 2 ^ 64 + l = H * 2 ^ 64 + L) : h = H ∧ l = L := by omega

section
variable {ops : Array Oper} {C : (Nat → Bool) → World → Prop} {Q : Act → Prop} {o : Oper} {rest : List Oper} {i : Nat} {a : Act}
theorem calmW_load (hgd : Region.wanted o (yielded ops a.tmps) = true) (x : Operand) (ho : o.op = .load 24 x) (g : Nat) (h l : Int) (hx : a.eval x = .pointer (some ⟨g, 0, none⟩))
    (hg : ∀ d w, C d w → IsW w g h l) (hmono : ∀ d w, C d w → Now i o d → C (upd d i) w) (hK : ∀ K : Act → Prop, (∀ a, wpCalm Try.prog ops C Q rest (i + 1) a → K a) → K (a.put o.dst (.agg #[.int .u64 h, .int .u64 l]))) : wpCalm Try.prog ops C Q (o :: rest) i a :=
  calm_readG hgd _ (fun d w hw _ => by
    unfold execOp
    simp only [ho, hx, Instr.loadAt, Instr.sureAddr, Sem.run_bind, Sem.run_pure, Result.andThen_ok, run_row (hg d w hw) Try.underlying24 rfl wide_size]) hmono (hK _ (fun _ h => h))
end

set_option maxRecDepth 100000 in
set_option maxHeartbeats 400000 in
theorem wakes_any (w : World) :
    Calls Try.prog 15 #[] w fun e w' => e = .returned (.bool true) ∧ Below w.heap.size w w' := by
  have hMul := fun w => wMul_any 9223372036854775808 4 w (by decide) (by decide)
  have hDiv := fun w => wDiv_any 1 0 18446744073709551616 10 w (by decide) (by decide) (by decide) (by decide) (by decide)
  have HM := Lib.hid hMul
  have HV := Lib.hid hDiv
  clear hMul hDiv
  go_enter Try.func15, Try.ntmps15
  go_wp2_with fail
  refine (HM.out _).mono ?_
  rintro e w1 ⟨h1, l1, rfl, hh1, hl1, hn1, hb1⟩
  obtain ⟨rfl, rfl⟩ := of_parts h1 l1 2 0 hl1 (by decide) (by rw [hn1])
  clear hh1 hl1 hn1
  go_wp2_with fail
  refine (HV.out _).mono ?_
  rintro e w2 ⟨h2, l2, rfl, hh2, hl2, hn2, hb2⟩
  obtain ⟨rfl, rfl⟩ := of_parts h2 l2 0 1844674407370955161 hl2 (by decide) (by rw [hn2])
  clear hh2 hl2 hn2
  go_wp2_with fail
  have fA : IsW (w2.alloc (Obj.cells #[.int .u64 0, .int .u64 1844674407370955161] 24)) w1.heap.size 2 0 := IsR.alloc (IsR.kept (by unfold IsR; exact (by repeat (first | (with_reducible refine heap_top _ _ _ ?_; first | (simp; done) | (simp; omega)) | rw [Below.heap_alloc _ _ _ (by first | (simp; done) | (simp; omega))]))) hb2) _
  have fB : IsW (w2.alloc (Obj.cells #[.int .u64 0, .int .u64 1844674407370955161] 24)) w2.heap.size 0 1844674407370955161 := by unfold IsW IsR; exact (by repeat (first | (with_reducible refine heap_top _ _ _ ?_; first | (simp; done) | (simp; omega)) | rw [Below.heap_alloc _ _ _ (by first | (simp; done) | (simp; omega))]))
  have k2 : Below w.heap.size w w2 := Below.two (hb1.alloc hb1.size _) (Nat.le_refl _) hb2
  have k3 := k2.alloc k2.size (Obj.cells #[.int .u64 0, .int .u64 1844674407370955161] 24)
  generalize w2.alloc (Obj.cells #[.int .u64 0, .int .u64 1844674407370955161] 24) = W at fA fB k3 ⊢
  generalize w1.heap.size = g1 at *
  generalize w2.heap.size = g2 at *
  have hinit : IsW W.drew g1 2 0 ∧ IsW W.drew g2 0 1844674407370955161 ∧ Below w.heap.size w W.drew := ⟨fA, fB, k3.drew⟩
  clear HM HV hb1 hb2 k2 k3 fA fB
  refine wp_region_calm (fun _ w' => IsW w' g1 2 0 ∧ IsW w' g2 0 1844674407370955161 ∧ Below w.heap.size w w') (by kernel_rfl) (by kernel_rfl) hinit ?_
  refine calmW_load rfl (.tmp 1) rfl g1 2 0 rfl (fun _ _ h => h.1) (fun _ _ h _ => h) (fun K hK => ?_)
  (go_simp; refine hK _ ?_; clear hK K)
  iterate 7 (refine calm_ex (by go_simp) (fun _ _ h _ => h) (fun K hK => ?_); apply Exists.intro; refine ⟨fun _ _ _ _ => ?_, ?_⟩; (focus (go_simp; try exact rfl)); (go_simp; refine hK _ ?_; clear hK K))
  refine calmW_load (by go_simp) (.tmp 2) rfl g2 0 1844674407370955161 rfl (fun _ _ h => h.2.1) (fun _ _ h _ => h) (fun K hK => ?_)
  (go_simp; refine hK _ ?_; clear hK K)
  refine calm_call' (by go_simp) (.agg #[.int .u64 0, .int .u64 1844674407370955161]) 28 #[.int .u64 1844674407370955161] (fun w' => ?_) (fun _ w' h _ => ?_) (fun K hK => ?_)
  · go_simp
  · refine (wOf_any 1844674407370955161 w').mono ?_
    rintro e w'' ⟨rfl, hb⟩
    exact ⟨rfl, h.1.kept hb, h.2.1.kept hb, Below.two h.2.2 (Nat.le_refl _) hb⟩
  (go_simp; refine hK _ ?_; clear hK K)
  iterate 7 (refine calm_ex (by go_simp) (fun _ _ h _ => h) (fun K hK => ?_); apply Exists.intro; refine ⟨fun _ _ _ _ => ?_, ?_⟩; (focus (go_simp; try exact rfl)); (go_simp; refine hK _ ?_; clear hK K))
  refine calm_nil ?_
  rintro w' _ ⟨-, -, kb⟩ -
  go_wp2_with fail
  go_ret
  exact ⟨rfl, kb⟩

end Go.Proofs.Ytpjdojnbajoafaa
