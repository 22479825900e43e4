/- package wide's Add and Sub: their contracts, whatever the world. -/
import Derived.Test.YtpjdojnbajoafaaWq
namespace Go.Proofs.Ytpjdojnbajoafaa
open Go.RowKit

theorem add_over (h l H L x y x' n m : Nat) (hh : h < 2 ^ 64) (hl : l < 2 ^ 64) (hH : H < 2 ^ 64) (hL : L < 2 ^ 64) (hn : h * 2 ^ 64 + l = n) (hm : H * 2 ^ 64 + L = m) (hx : x = (h + H) % 2 ^ 64) (hy : y = (l + L) % 2 ^ 64) (hx' : x' = if y < l then (x + 1) % 2 ^ 64 else x) :
    (x' * 2 ^ 64 + y < n ∨ x' < H ↔ ¬ n + m < 2 ^ 128) ∧ (n + m < 2 ^ 128 → x' * 2 ^ 64 + y = n + m) := by
  split at hx' <;> omega

set_option maxRecDepth 100000 in
set_option maxHeartbeats 400000 in
theorem wAdd_any (h l n H L m : Nat) (w : World) (hh : h < 2 ^ 64) (hl : l < 2 ^ 64) (hn : h * 2 ^ 64 + l = n) (hH : H < 2 ^ 64) (hL : L < 2 ^ 64) (hm : H * 2 ^ 64 + L = m) :
    Calls Try.prog 24 #[.agg #[.int .u64 h, .int .u64 l], .agg #[.int .u64 H, .int .u64 L]] w fun e w' =>
      ∃ h' l' c : Nat, e = .returned (.tuple #[.agg #[.int .u64 h', .int .u64 l'], .int .i64 c]) ∧ h' < 2 ^ 64 ∧ l' < 2 ^ 64 ∧ sclRes (n + m) h' l' c ∧ Below w.heap.size w w' := by
  obtain ⟨x, hx⟩ : ∃ x, x = (h + H) % 2 ^ 64 := ⟨_, rfl⟩
  obtain ⟨y, hy⟩ : ∃ y, y = (l + L) % 2 ^ 64 := ⟨_, rfl⟩
  have hw1 : IntKind.u64.wrap ((h : Int) + H) = (x : Int) := by rw [IntKind.wrap_u64]; omega
  have hw2 : IntKind.u64.wrap ((l : Int) + L) = (y : Int) := by rw [IntKind.wrap_u64]; omega
  obtain ⟨x', hx'⟩ : ∃ x', x' = if y < l then (x + 1) % 2 ^ 64 else x := ⟨_, rfl⟩
  obtain ⟨o1, o2⟩ := add_over h l H L x y x' n m hh hl hH hL hn hm hx hy hx'
  have hy64 : y < 2 ^ 64 := by omega
  have hx64 : x < 2 ^ 64 := by omega
  have hx'64 : x' < 2 ^ 64 := by rw [hx']; split <;> omega
  have hcw : cW x' y h l < 0 ↔ x' * 2 ^ 64 + y < n := by rw [cW_eq x' y h l _ _ hy64 hl rfl hn, c3_neg]; omega
  have HW := Lib.hid hcw
  have HO1 := Lib.hid o1
  have HO2 := Lib.hid o2
  have HX := Lib.hid hx'64
  have HY := Lib.hid hy64
  have hxs : (if y < l then IntKind.u64.wrap ((x : Int) + 1) else (x : Int)) = (x' : Int) := by
    rw [hx']; split
    · rw [IntKind.wrap_u64]; omega
    · rfl
  clear hx hy hcw o1 o2 hx'64 hy64 hx64 hh hl hH hL hx' hn hm
  by_cases hc : y < l
  · rw [if_pos hc] at hxs
    have hc' : (y : Int) < (l : Int) := by omega
    clear hc
    go_enter Try.func24, Try.ntmps24
    go_wp2_with fail
    refine (wCompare_any x' y h l _).mono ?_
    rintro e w1 ⟨rfl, hb1⟩
    have r1 : IsW w1 (w.heap.size + 1) H L := IsR.kept (by unfold IsR; exact (by repeat (first | (with_reducible refine heap_top _ _ _ ?_; first | (simp; done) | (simp; omega)) | rw [Below.heap_alloc _ _ _ (by first | (simp; done) | (simp; omega))]))) hb1
    have r2 : IsW w1 (w.heap.size + 1 + 1) 0 0 := IsR.kept (by unfold IsR; exact (by repeat (first | (with_reducible refine heap_top _ _ _ ?_; first | (simp; done) | (simp; omega)) | rw [Below.heap_alloc _ _ _ (by first | (simp; done) | (simp; omega))]))) hb1
    have r3 : IsW w1 (w.heap.size + 1 + 1 + 1) x' y := IsR.kept (by unfold IsR; exact (by repeat (first | (with_reducible refine heap_top _ _ _ ?_; first | (simp; done) | (simp; omega)) | rw [Below.heap_alloc _ _ _ (by first | (simp; done) | (simp; omega))]))) hb1
    have k1 : Below w.heap.size w w1 := Below.two (((((Below.refl _ _).alloc (Nat.le_refl _) _).alloc (by simp) _).alloc (by simp; omega) _).alloc (by simp; omega) _) (Nat.le_refl _) hb1
    have c1 := IsR.cell r1
    have c3 := IsR.cell r3
    clear hb1 r1
    generalize cW x' y h l = z at HW ⊢
    by_cases hz : z < 0
    · have HF : Hid (¬ n + m < 2 ^ 128) := HO1.out.1 (.inl (HW.out.1 hz))
      go_wp2_with (first
        | (with_reducible refine wpW_store rfl (.tmp 4) (.tmp 38) rfl (w.heap.size + 1 + 1) rfl 0 0 0 0 rfl r2 ?_; intro w2 hp2))
      refine retW1 rfl rfl (.int .i64 (131 : Nat)) rfl hp2.row ⟨0, 0, 131, rfl, by decide, by decide, (sclRes_no HF.out : sclRes _ _ _ _), hp2.below _ _ (by omega) k1⟩
    · by_cases hx : (x' : Int) < H
      · have HF : Hid (¬ n + m < 2 ^ 128) := HO1.out.1 (.inr (by omega))
        go_wp2_with (first
          | (with_reducible refine wpW_store rfl (.tmp 4) (.tmp 38) rfl (w.heap.size + 1 + 1) rfl 0 0 0 0 rfl r2 ?_; intro w2 hp2))
        refine retW1 rfl rfl (.int .i64 (131 : Nat)) rfl hp2.row ⟨0, 0, 131, rfl, by decide, by decide, (sclRes_no HF.out : sclRes _ _ _ _), hp2.below _ _ (by omega) k1⟩
      · have HF : Hid (n + m < 2 ^ 128) := Classical.byContradiction fun hcon => by
          rcases HO1.out.2 hcon with h | h
          · exact hz (HW.out.2 h)
          · exact hx (by omega)
        go_wp2_with (first
          | (with_reducible refine wpW_load rfl (.tmp 6) rfl (w.heap.size + 1 + 1 + 1) rfl x' y r3 ?_)
          | (with_reducible refine wpW_store rfl (.tmp 4) (.tmp 39) rfl (w.heap.size + 1 + 1) rfl x' y 0 0 rfl r2 ?_; intro w2 hp2))
        refine retW1 rfl rfl (.int .i64 (0 : Nat)) rfl hp2.row ⟨x', y, 0, rfl, HX.out, HY.out, (sclRes_yes HF.out (HO2.out HF.out) : sclRes _ _ _ _), hp2.below _ _ (by omega) k1⟩
  · rw [if_neg hc] at hxs
    have hc' : ¬ (y : Int) < (l : Int) := by omega
    obtain rfl : x = x' := by omega
    clear hc hxs
    go_enter Try.func24, Try.ntmps24
    go_wp2_with fail
    refine (wCompare_any x y h l _).mono ?_
    rintro e w1 ⟨rfl, hb1⟩
    have r1 : IsW w1 (w.heap.size + 1) H L := IsR.kept (by unfold IsR; exact (by repeat (first | (with_reducible refine heap_top _ _ _ ?_; first | (simp; done) | (simp; omega)) | rw [Below.heap_alloc _ _ _ (by first | (simp; done) | (simp; omega))]))) hb1
    have r2 : IsW w1 (w.heap.size + 1 + 1) 0 0 := IsR.kept (by unfold IsR; exact (by repeat (first | (with_reducible refine heap_top _ _ _ ?_; first | (simp; done) | (simp; omega)) | rw [Below.heap_alloc _ _ _ (by first | (simp; done) | (simp; omega))]))) hb1
    have r3 : IsW w1 (w.heap.size + 1 + 1 + 1) x y := IsR.kept (by unfold IsR; exact (by repeat (first | (with_reducible refine heap_top _ _ _ ?_; first | (simp; done) | (simp; omega)) | rw [Below.heap_alloc _ _ _ (by first | (simp; done) | (simp; omega))]))) hb1
    have k1 : Below w.heap.size w w1 := Below.two (((((Below.refl _ _).alloc (Nat.le_refl _) _).alloc (by simp) _).alloc (by simp; omega) _).alloc (by simp; omega) _) (Nat.le_refl _) hb1
    have c1 := IsR.cell r1
    have c3 := IsR.cell r3
    clear hb1 r1
    generalize cW x y h l = z at HW ⊢
    by_cases hz : z < 0
    · have HF : Hid (¬ n + m < 2 ^ 128) := HO1.out.1 (.inl (HW.out.1 hz))
      go_wp2_with (first
        | (with_reducible refine wpW_store rfl (.tmp 4) (.tmp 38) rfl (w.heap.size + 1 + 1) rfl 0 0 0 0 rfl r2 ?_; intro w2 hp2))
      refine retW1 rfl rfl (.int .i64 (131 : Nat)) rfl hp2.row ⟨0, 0, 131, rfl, by decide, by decide, (sclRes_no HF.out : sclRes _ _ _ _), hp2.below _ _ (by omega) k1⟩
    · by_cases hx : (x : Int) < H
      · have HF : Hid (¬ n + m < 2 ^ 128) := HO1.out.1 (.inr (by omega))
        go_wp2_with (first
          | (with_reducible refine wpW_store rfl (.tmp 4) (.tmp 38) rfl (w.heap.size + 1 + 1) rfl 0 0 0 0 rfl r2 ?_; intro w2 hp2))
        refine retW1 rfl rfl (.int .i64 (131 : Nat)) rfl hp2.row ⟨0, 0, 131, rfl, by decide, by decide, (sclRes_no HF.out : sclRes _ _ _ _), hp2.below _ _ (by omega) k1⟩
      · have HF : Hid (n + m < 2 ^ 128) := Classical.byContradiction fun hcon => by
          rcases HO1.out.2 hcon with h | h
          · exact hz (HW.out.2 h)
          · exact hx (by omega)
        go_wp2_with (first
          | (with_reducible refine wpW_load rfl (.tmp 6) rfl (w.heap.size + 1 + 1 + 1) rfl x y r3 ?_)
          | (with_reducible refine wpW_store rfl (.tmp 4) (.tmp 39) rfl (w.heap.size + 1 + 1) rfl x y 0 0 rfl r2 ?_; intro w2 hp2))
        refine retW1 rfl rfl (.int .i64 (0 : Nat)) rfl hp2.row ⟨x, y, 0, rfl, HX.out, HY.out, (sclRes_yes HF.out (HO2.out HF.out) : sclRes _ _ _ _), hp2.below _ _ (by omega) k1⟩

theorem sub_res (h l H L x y x' n m : Nat) (hl : l < 2 ^ 64) (hL : L < 2 ^ 64) (hn : h * 2 ^ 64 + l = n) (hm : H * 2 ^ 64 + L = m) (hle : m ≤ n) (hx : x = h - H)
    (hy : y = if l < L then l + 2 ^ 64 - L else l - L) (hx' : x' = if l < L then x - 1 else x) : x' * 2 ^ 64 + y = n - m ∧ H ≤ h ∧ y < 2 ^ 64 ∧ (l < L → 1 ≤ x) := by
  split at hx' <;> simp [*] at hy <;> omega

set_option maxRecDepth 100000 in
set_option maxHeartbeats 400000 in
theorem wSub_no (h l n H L m : Nat) (w : World) (hl : l < 2 ^ 64) (hn : h * 2 ^ 64 + l = n) (hL : L < 2 ^ 64) (hm : H * 2 ^ 64 + L = m) (hlt : n < m) :
    Calls Try.prog 30 #[.agg #[.int .u64 h, .int .u64 l], .agg #[.int .u64 H, .int .u64 L]] w fun e w' =>
      e = .returned (.tuple #[.agg #[.int .u64 0, .int .u64 0], .int .i64 131]) ∧ Below w.heap.size w w' := by
  have HW := Lib.hid (show cW h l H L < 0 by rw [cW_eq h l H L n m hl hL hn hm, c3_neg]; omega)
  clear hl hn hL hm hlt
  go_enter Try.func30, Try.ntmps30
  go_wp2_with fail
  refine (wCompare_any h l H L _).mono ?_
  rintro e w1 ⟨rfl, hb1⟩
  have r0 : IsW w1 w.heap.size h l := IsR.kept (by unfold IsR; exact (by repeat (first | (with_reducible refine heap_top _ _ _ ?_; first | (simp; done) | (simp; omega)) | rw [Below.heap_alloc _ _ _ (by first | (simp; done) | (simp; omega))]))) hb1
  have r1 : IsW w1 (w.heap.size + 1) H L := IsR.kept (by unfold IsR; exact (by repeat (first | (with_reducible refine heap_top _ _ _ ?_; first | (simp; done) | (simp; omega)) | rw [Below.heap_alloc _ _ _ (by first | (simp; done) | (simp; omega))]))) hb1
  have r2 : IsW w1 (w.heap.size + 1 + 1) 0 0 := IsR.kept (by unfold IsR; exact (by repeat (first | (with_reducible refine heap_top _ _ _ ?_; first | (simp; done) | (simp; omega)) | rw [Below.heap_alloc _ _ _ (by first | (simp; done) | (simp; omega))]))) hb1
  have k1 : Below w.heap.size w w1 := Below.two ((((Below.refl _ _).alloc (Nat.le_refl _) _).alloc (by simp) _).alloc (by simp; omega) _) (Nat.le_refl _) hb1
  have c0 := IsR.cell r0
  have c1 := IsR.cell r1
  have s2 := IsR.lt r2
  have s1 := IsR.lt r1
  have s0 := IsR.lt r0
  clear hb1 r0 r1
  generalize cW h l H L = z at HW ⊢
  have hz : z < 0 := HW.out
  go_wp2_with (first
    | (with_reducible refine wpW_store rfl (.tmp 4) (.tmp 11) rfl (w.heap.size + 1 + 1) rfl 0 0 0 0 rfl r2 ?_; intro w2 hp2))
  exact retW1 rfl rfl (.int .i64 131) rfl hp2.row ⟨rfl, hp2.below _ _ (by omega) k1⟩

set_option maxRecDepth 100000 in
set_option maxHeartbeats 400000 in
theorem wSub_yes (h l n H L m : Nat) (w : World) (hh : h < 2 ^ 64) (hl : l < 2 ^ 64) (hn : h * 2 ^ 64 + l = n) (hH : H < 2 ^ 64) (hL : L < 2 ^ 64) (hm : H * 2 ^ 64 + L = m) (hle : m ≤ n) :
    Calls Try.prog 30 #[.agg #[.int .u64 h, .int .u64 l], .agg #[.int .u64 H, .int .u64 L]] w fun e w' =>
      ∃ h' l' : Nat, e = .returned (.tuple #[.agg #[.int .u64 h', .int .u64 l'], .int .i64 0]) ∧ h' < 2 ^ 64 ∧ l' < 2 ^ 64 ∧ h' * 2 ^ 64 + l' = n - m ∧ Below w.heap.size w w' := by
  have HW := Lib.hid (show ¬ cW h l H L < 0 by rw [cW_eq h l H L n m hl hL hn hm, c3_neg]; omega)
  obtain ⟨x, hx⟩ : ∃ x, x = h - H := ⟨_, rfl⟩
  obtain ⟨y, hy⟩ : ∃ y, y = if l < L then l + 2 ^ 64 - L else l - L := ⟨_, rfl⟩
  obtain ⟨x', hx'⟩ : ∃ x', x' = if l < L then x - 1 else x := ⟨_, rfl⟩
  obtain ⟨o1, o2, o3, o4⟩ := sub_res h l H L x y x' n m hl hL hn hm hle hx hy hx'
  have HN := Lib.hid o1
  have HY := Lib.hid o3
  have HX := Lib.hid (show x' < 2 ^ 64 by split at hx' <;> omega)
  have e1' : IntKind.u64.wrap ((h : Int) - H) = (x : Int) := by rw [IntKind.wrap_u64]; omega
  by_cases hc : l < L
  · rw [if_pos hc] at hy hx'
    have hc' : (l : Int) < (L : Int) := by omega
    have e2 : IntKind.u64.wrap ((l : Int) - L) = (y : Int) := by rw [IntKind.wrap_u64]; omega
    have e3' : IntKind.u64.wrap ((x : Int) - 1) = (x' : Int) := by rw [IntKind.wrap_u64]; have := HX.out; have := o4 hc; omega
    clear hy hx' hx o1 o2 o3 o4 hc hh hl hn hH hL hm hle
    go_enter Try.func30, Try.ntmps30
    go_wp2_with fail
    refine (wCompare_any h l H L _).mono ?_
    rintro e w1 ⟨rfl, hb1⟩
    have r0 : IsW w1 w.heap.size h l := IsR.kept (by unfold IsR; exact (by repeat (first | (with_reducible refine heap_top _ _ _ ?_; first | (simp; done) | (simp; omega)) | rw [Below.heap_alloc _ _ _ (by first | (simp; done) | (simp; omega))]))) hb1
    have r1 : IsW w1 (w.heap.size + 1) H L := IsR.kept (by unfold IsR; exact (by repeat (first | (with_reducible refine heap_top _ _ _ ?_; first | (simp; done) | (simp; omega)) | rw [Below.heap_alloc _ _ _ (by first | (simp; done) | (simp; omega))]))) hb1
    have r2 : IsW w1 (w.heap.size + 1 + 1) 0 0 := IsR.kept (by unfold IsR; exact (by repeat (first | (with_reducible refine heap_top _ _ _ ?_; first | (simp; done) | (simp; omega)) | rw [Below.heap_alloc _ _ _ (by first | (simp; done) | (simp; omega))]))) hb1
    have k1 : Below w.heap.size w w1 := Below.two ((((Below.refl _ _).alloc (Nat.le_refl _) _).alloc (by simp) _).alloc (by simp; omega) _) (Nat.le_refl _) hb1
    have c0 := IsR.cell r0
    have c1 := IsR.cell r1
    have s2 := IsR.lt r2
    have s1 := IsR.lt r1
    have s0 := IsR.lt r0
    clear hb1 r0 r1
    generalize cW h l H L = z at HW ⊢
    have hz : ¬ z < 0 := by have := HW.out; omega
    go_wp2_with (first
      | (with_reducible refine wpW_store rfl (.tmp 4) (.tmp 32) rfl (w.heap.size + 1 + 1) rfl x' y 0 0 rfl (IsR.alloc r2 _) ?_; intro w2 hp2))
    exact retW1 rfl rfl (.int .i64 0) rfl hp2.row ⟨x', y, rfl, HX.out, HY.out, HN.out, hp2.below _ _ (by omega) (k1.alloc k1.size _)⟩
  · rw [if_neg hc] at hy hx'
    have hc' : ¬ (l : Int) < (L : Int) := by omega
    have e2 : IntKind.u64.wrap ((l : Int) - L) = (y : Int) := by rw [IntKind.wrap_u64]; omega
    obtain rfl : x = x' := hx'.symm
    clear hy hx o1 o2 o3 o4 hc hh hl hn hH hL hm hle
    go_enter Try.func30, Try.ntmps30
    go_wp2_with fail
    refine (wCompare_any h l H L _).mono ?_
    rintro e w1 ⟨rfl, hb1⟩
    have r0 : IsW w1 w.heap.size h l := IsR.kept (by unfold IsR; exact (by repeat (first | (with_reducible refine heap_top _ _ _ ?_; first | (simp; done) | (simp; omega)) | rw [Below.heap_alloc _ _ _ (by first | (simp; done) | (simp; omega))]))) hb1
    have r1 : IsW w1 (w.heap.size + 1) H L := IsR.kept (by unfold IsR; exact (by repeat (first | (with_reducible refine heap_top _ _ _ ?_; first | (simp; done) | (simp; omega)) | rw [Below.heap_alloc _ _ _ (by first | (simp; done) | (simp; omega))]))) hb1
    have r2 : IsW w1 (w.heap.size + 1 + 1) 0 0 := IsR.kept (by unfold IsR; exact (by repeat (first | (with_reducible refine heap_top _ _ _ ?_; first | (simp; done) | (simp; omega)) | rw [Below.heap_alloc _ _ _ (by first | (simp; done) | (simp; omega))]))) hb1
    have k1 : Below w.heap.size w w1 := Below.two ((((Below.refl _ _).alloc (Nat.le_refl _) _).alloc (by simp) _).alloc (by simp; omega) _) (Nat.le_refl _) hb1
    have c0 := IsR.cell r0
    have c1 := IsR.cell r1
    have s2 := IsR.lt r2
    have s1 := IsR.lt r1
    have s0 := IsR.lt r0
    clear hb1 r0 r1
    generalize cW h l H L = z at HW ⊢
    have hz : ¬ z < 0 := by have := HW.out; omega
    go_wp2_with (first
      | (with_reducible refine wpW_store rfl (.tmp 4) (.tmp 32) rfl (w.heap.size + 1 + 1) rfl x y 0 0 rfl (IsR.alloc r2 _) ?_; intro w2 hp2))
    exact retW1 rfl rfl (.int .i64 0) rfl hp2.row ⟨x, y, rfl, HX.out, HY.out, HN.out, hp2.below _ _ (by omega) (k1.alloc k1.size _)⟩
end Go.Proofs.Ytpjdojnbajoafaa
