/- package wide's Compare, and the library's cmp.Compare, cmp.Or: their contracts, whatever the world. -/
import Derived.Test.YtpjdojnbajoafaaWo
import Derived.StillTailTactics
namespace Go.Proofs.Ytpjdojnbajoafaa
open Go.RowKit

/-- How numbers stand to one another. -/
def c3 (a b : Int) : Int := if a < b then -1 else if b < a then 1 else 0
/-- The first that is not 0. -/
def orI : List Int → Int
  | [] => 0
  | z :: r => if z = 0 then orI r else z

set_option maxRecDepth 100000 in
theorem ccmp_any (a b : Int) (w : World) :
    Calls Try.prog 58 #[.int .u64 a, .int .u64 b] w fun e w' => e = .returned (.int .i64 (c3 a b)) ∧ w' = w := by
  by_cases h1 : a < b
  · have H : Hid (c3 a b = -1) := if_pos h1
    go_enter Try.func58, Try.ntmps58
    go_wp2
    go_ret
    exact ⟨by rw [H.out]; rfl, rfl⟩
  · by_cases h2 : b < a
    · have H : Hid (c3 a b = 1) := (if_neg h1).trans (if_pos h2)
      go_enter Try.func58, Try.ntmps58
      go_wp2
      go_ret
      exact ⟨by rw [H.out]; rfl, rfl⟩
    · have H : Hid (c3 a b = 0) := (if_neg h1).trans (if_neg h2)
      go_enter Try.func58, Try.ntmps58
      go_wp2
      go_ret
      exact ⟨by rw [H.out]; rfl, rfl⟩

theorem orI_drop (zs : List Int) (k : Nat) (hk : k < zs.length) : orI (zs.drop k) = if zs[k] = 0 then orI (zs.drop (k + 1)) else zs[k] := by
  rw [List.drop_eq_getElem_cons hk]; rfl

set_option maxRecDepth 100000 in
set_option maxHeartbeats 400000 in
theorem cor_any (zs : List Int) (g : Nat) (w : World) (hlen : zs.length < 1000) (hg : IsR w g (zs.map (Value.int .i64)).toArray 3) :
    Calls Try.prog 57 #[.slice (some ⟨g, 0, none⟩) zs.length zs.length] w fun e w' => e = .returned (.int .i64 (orI zs)) ∧ w' = w := by
  have hc : ∀ j (h : j < zs.length), w.cell? ⟨g, j, none⟩ = some (.int .i64 zs[j]) := fun j h => by rw [hg.cell j]; simp [h]
  have HC := Lib.hid hc
  clear hc hg
  obtain ⟨n, hn⟩ : ∃ n, zs.length = n := ⟨_, rfl⟩
  rw [hn] at hlen
  rw [hn]
  have HN := Lib.hid hn
  clear hn
  have hlen' : (n : Int) < 1000 := by omega
  go_enter Try.func57, Try.ntmps57
  go_wp2
  go_loop [8] (fun t => ∃ k : Nat, k ≤ n ∧ t = .int .i64 k ∧ Hid (orI (zs.drop k) = orI zs)) (fun t => n - (intOf t).toNat)
  case atStart => exact ⟨0, by omega, rfl, (rfl : _ = _)⟩
  case round =>
    obtain ⟨k, hk, rfl, HK⟩ := hrel
    by_cases hlt : k < n
    · have hlt' : (k : Int) < (n : Int) := by omega
      have hkz : k < zs.length := by rw [HN.out]; exact hlt
      have hcell := HC.out k hkz
      have HD := Lib.hid (orI_drop zs k hkz)
      generalize zs[k] = z at hcell HD
      clear hkz
      by_cases hz : z = 0
      · subst hz
        have HK2 : Hid (orI (zs.drop (k + 1)) = orI zs) := by show _ = _; rw [← HK.out, HD.out, if_pos rfl]
        go_wp2
        go_round
        case rel => exact ⟨k + 1, by omega, by go_num, HK2⟩
        case measure => simp [intOf]; omega
      · have hz' : (z == 0) = false := by simpa using hz
        have hz'' : (z != 0) = true := by simpa using hz
        have HK2 : Hid (orI zs = z) := by show _ = _; rw [← HK.out, HD.out, if_neg hz]
        clear hz
        go_wp2
        go_ret
        exact ⟨by rw [HK2.out]; rfl, rfl⟩
    · have hlt' : (n : Int) ≤ (k : Int) := by omega
      have HK2 : Hid (orI zs = 0) := by show _ = _; rw [← HK.out, List.drop_eq_nil_of_le (by rw [HN.out]; omega)]; rfl
      go_wp2
      go_ret
      exact ⟨by rw [HK2.out]; rfl, rfl⟩

/-- How two numbers of two halves stand to one another. -/
def cW (h l H L : Int) : Int := orI [c3 h H, c3 l L]

set_option maxRecDepth 100000 in
set_option maxHeartbeats 400000 in
theorem wCompare_any (h l H L : Int) (w : World) :
    Calls Try.prog 23 #[.agg #[.int .u64 h, .int .u64 l], .agg #[.int .u64 H, .int .u64 L]] w fun e w' => e = .returned (.int .i64 (cW h l H L)) ∧ Below w.heap.size w w' := by
  go_enter Try.func23, Try.ntmps23
  go_wp2_with fail
  have fA : IsW ((w.alloc (Obj.cells #[.int .u64 h, .int .u64 l] 24)).alloc (Obj.cells #[.int .u64 H, .int .u64 L] 24)) w.heap.size h l := by unfold IsW IsR; exact (by repeat (first | (with_reducible refine heap_top _ _ _ ?_; first | (simp; done) | (simp; omega)) | rw [Below.heap_alloc _ _ _ (by first | (simp; done) | (simp; omega))]))
  have fB : IsW ((w.alloc (Obj.cells #[.int .u64 h, .int .u64 l] 24)).alloc (Obj.cells #[.int .u64 H, .int .u64 L] 24)) (w.heap.size + 1) H L := by unfold IsW IsR; exact (by repeat (first | (with_reducible refine heap_top _ _ _ ?_; first | (simp; done) | (simp; omega)) | rw [Below.heap_alloc _ _ _ (by first | (simp; done) | (simp; omega))]))
  have k0 : Below w.heap.size w ((w.alloc (Obj.cells #[.int .u64 h, .int .u64 l] 24)).alloc (Obj.cells #[.int .u64 H, .int .u64 L] 24)) := ((Below.refl _ _).alloc (Nat.le_refl _) _).alloc (by simp) _
  generalize (w.alloc (Obj.cells #[.int .u64 h, .int .u64 l] 24)).alloc (Obj.cells #[.int .u64 H, .int .u64 L] 24) = W at fA fB k0 ⊢
  have cA := IsR.cell fA
  have cB := IsR.cell fB
  refine wp_region_still_tail 10 (by kernel_rfl) (by kernel_rfl) ?_
  change wpStill _ _ (World.drew W) _ _ _
  simp only [List.take_succ_cons, List.take_zero, List.drop_succ_cons, List.drop_zero]
  iterate 4 still_step
  still_call (ccmp_any h H _)
  iterate 4 still_step
  still_call (ccmp_any l L _)
  refine wpStill_nil ?_
  change wpList _ _ _ _ _ (World.drew _)
  go_wp2_with fail
  refine (cor_any [c3 h H, c3 l L] W.heap.size _ (by simp) ?_).mono ?_
  · exact heap_top W (Obj.cells #[.int .i64 (c3 h H), .int .i64 (c3 l L)] 3) _ rfl
  rintro e w' ⟨rfl, rfl⟩
  go_wp2_with fail
  go_ret
  exact ⟨rfl, (k0.alloc k0.size _).drew⟩

theorem cW_eq (h l H L n m : Nat) (hl : l < 2 ^ 64) (hL : L < 2 ^ 64) (hn : h * 2 ^ 64 + l = n) (hm : H * 2 ^ 64 + L = m) : cW h l H L = c3 n m := by
  unfold cW orI orI orI c3
  rcases Nat.lt_trichotomy n m with h1 | h1 | h1
  · rw [if_pos (show (n : Int) < m by omega)]
    by_cases h2 : (h : Int) < H
    · rw [if_pos h2]; simp
    · rw [if_neg h2, if_neg (show ¬ (H : Int) < h by omega), if_pos rfl, if_pos (show (l : Int) < L by omega)]; simp
  · rw [if_neg (show ¬ (n : Int) < m by omega), if_neg (show ¬ (m : Int) < n by omega), if_neg (show ¬ (h : Int) < H by omega), if_neg (show ¬ (H : Int) < h by omega), if_pos rfl, if_neg (show ¬ (l : Int) < L by omega), if_neg (show ¬ (L : Int) < l by omega)]
    rfl
  · rw [if_neg (show ¬ (n : Int) < m by omega), if_pos (show (m : Int) < n by omega), if_neg (show ¬ (h : Int) < H by omega)]
    by_cases h2 : (H : Int) < h
    · rw [if_pos h2]; simp
    · rw [if_neg h2, if_pos rfl, if_neg (show ¬ (l : Int) < L by omega), if_pos (show (L : Int) < l by omega)]; simp
theorem c3_neg (a b : Int) : c3 a b < 0 ↔ a < b := by
  unfold c3; split
  · simp [*]
  · split <;> simp [*]

end Go.Proofs.Ytpjdojnbajoafaa
