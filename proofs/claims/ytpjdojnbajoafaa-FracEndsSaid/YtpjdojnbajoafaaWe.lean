/- mainsheetref03's quotient on rows of 256 bits: its contract, whatever the world. -/
import Derived.Test.YtpjdojnbajoafaaWd
import Derived.Test.YtpjdojnbajoafaaCalm
namespace Go.Proofs.Ytpjdojnbajoafaa
open Go.RowKit

section
variable {ops : Array Oper} {C : (Nat → Bool) → World → Prop} {Q : Act → Prop} {o : Oper} {rest : List Oper} {i : Nat} {a : Act}
/-- A row of bits is read whole, in a region that draws its order. -/
theorem calmB_load (hgd : o.guard = none) (x : Operand) (ho : o.op = .load 32 x) (g n : Nat) (hx : a.eval x = .pointer (some ⟨g, 0, none⟩))
    (hg : ∀ d w, C d w → Now i o d → IsB w g n) (hmono : ∀ d w, C d w → Now i o d → C (upd d i) w) (h : wpCalm Try.prog ops C Q rest (i + 1) (a.put o.dst (.agg (bA n)))) : wpCalm Try.prog ops C Q (o :: rest) i a :=
  calm_read hgd _ (fun d w hw hn => by
    unfold execOp
    simp only [ho, hx, Instr.loadAt, Instr.sureAddr, Sem.run_bind, Sem.run_pure, Result.andThen_ok, run_loadVar_row w g _ 32 _ _ _ (hg d w hw hn) Try.underlying32 rfl (bits_size n)]) hmono h
/-- A row of bits is written whole, in a region that draws its order. -/
theorem calmB_store (hgd : o.guard = none) (x y : Operand) (ho : o.op = .store 32 x y) (g n : Nat) (hx : a.eval x = .pointer (some ⟨g, 0, none⟩)) (hy : a.eval y = .agg (bA n))
    (hg : ∀ d w, C d w → Now i o d → ∃ m, IsB w g m)
    (hC : ∀ d w w', C d w → Now i o d → IsB w' g n → (∀ k, k ≠ g → w'.heap[k]? = w.heap[k]?) → (∀ B w0, B ≤ g → Below B w0 w → Below B w0 w') → w'.heap.size = w.heap.size → C (upd d i) w')
    (h : wpCalm Try.prog ops C Q rest (i + 1) (a.put o.dst undef)) : wpCalm Try.prog ops C Q (o :: rest) i a :=
  calm_skip hgd (fun d w hw hn => by
    obtain ⟨m, hm⟩ := hg d w hw hn
    refine ⟨w.setRow g (bA n), ?_, hC d w _ hw hn (setRow_heap w g _ _ _ _ hm) (fun k hk => setRow_other w g k _ hk) (fun _ _ hB hb => below_setRow hb hB _) (by simp)⟩
    unfold execOp
    simp only [ho, hx, hy, Instr.storeAt, Instr.sureAddr, Sem.run_bind, Sem.run_pure, Result.andThen_ok, run_storeVar_row w g _ 32 _ _ hm (bits_size n) (by rw [bA_size, bA_size]) (bA_oneCell n)]) h
/-- Two results that are rows of bits. -/
theorem bits_ret2 {fn : Func} {p q : Tmp} {R : Ending → World → Prop} {tmps : Array Value} {w : World} (h : fn.results = #[.cell p 32, .cell q 32]) (g n g' n' : Nat)
    (hp : tmps.getD p undef = .pointer (some ⟨g, 0, none⟩)) (hq : tmps.getD q undef = .pointer (some ⟨g', 0, none⟩)) (hg : IsB w g n) (hg' : IsB w g' n') (hR : R (.returned (.tuple #[.agg (bA n), .agg (bA n')])) w) :
    bodyPost Try.prog fn R .ret { tmps, defers := [] } w := by
  have hp' : tmps[p]?.getD undef = .pointer (some ⟨g, 0, none⟩) := by simpa using hp
  have hq' : tmps[q]?.getD undef = .pointer (some ⟨g', 0, none⟩) := by simpa using hq
  refine bodyPost_ret (v := .tuple #[.agg (bA n), .agg (bA n')]) ?_ rfl hR
  simp [results, h, hp', hq', asAddr, run_loadVar_row w g 32 32 _ _ _ hg Try.underlying32 rfl (bits_size n), run_loadVar_row w g' 32 32 _ _ _ hg' Try.underlying32 rfl (bits_size n')]
end

/-- The six blocks of the quotient's walk, in a world. -/
structure QW (B : Nat) (w0 : World) (a d out rest : Nat) (w : World) : Prop where
  a : IsB w B a
  d : IsB w (B + 1) d
  q0 : IsB w (B + 1 + 1) 0
  r0 : IsB w (B + 1 + 1 + 1) 0
  out : IsB w (B + 1 + 1 + 1 + 1) out
  rest : IsB w (B + 1 + 1 + 1 + 1 + 1) rest
  below : Below B w0 w
  size : B + 1 + 1 + 1 + 1 + 1 < w.heap.size

theorem QW.kept {B : Nat} {w0 w w1 : World} {a d out rest : Nat} (h : QW B w0 a d out rest w) (hb : Below w.heap.size w w1) : QW B w0 a d out rest w1 := by
  have hs := h.size
  have hb1 := hb.size
  exact ⟨(hb.block _ (by omega)).trans h.a, (hb.block _ (by omega)).trans h.d, (hb.block _ (by omega)).trans h.q0, (hb.block _ (by omega)).trans h.r0, (hb.block _ (by omega)).trans h.out,
    (hb.block _ (by omega)).trans h.rest, h.below.trans (hb.mono (by omega)), by omega⟩
theorem QW.rest_set {B : Nat} {w0 w w1 : World} {a d out rest rest' : Nat} (h : QW B w0 a d out rest w) (h1 : IsB w1 (B + 1 + 1 + 1 + 1 + 1) rest') (h2 : ∀ k, k ≠ B + 1 + 1 + 1 + 1 + 1 → w1.heap[k]? = w.heap[k]?)
    (h3 : ∀ B' w0, B' ≤ B + 1 + 1 + 1 + 1 + 1 → Below B' w0 w → Below B' w0 w1) (h4 : w1.heap.size = w.heap.size) : QW B w0 a d out rest' w1 :=
  ⟨(h2 _ (by omega)).trans h.a, (h2 _ (by omega)).trans h.d, (h2 _ (by omega)).trans h.q0, (h2 _ (by omega)).trans h.r0, (h2 _ (by omega)).trans h.out, h1, h3 _ _ (by omega) h.below, by rw [h4]; exact h.size⟩
theorem QW.out_set {B : Nat} {w0 w w1 : World} {a d out rest out' : Nat} (h : QW B w0 a d out rest w) (h1 : IsB w1 (B + 1 + 1 + 1 + 1) out') (h2 : ∀ k, k ≠ B + 1 + 1 + 1 + 1 → w1.heap[k]? = w.heap[k]?)
    (h3 : ∀ B' w0, B' ≤ B + 1 + 1 + 1 + 1 → Below B' w0 w → Below B' w0 w1) (h4 : w1.heap.size = w.heap.size) : QW B w0 a d out' rest w1 :=
  ⟨(h2 _ (by omega)).trans h.a, (h2 _ (by omega)).trans h.d, (h2 _ (by omega)).trans h.q0, (h2 _ (by omega)).trans h.r0, h1, (h2 _ (by omega)).trans h.rest, h3 _ _ (by omega) h.below, by rw [h4]; exact h.size⟩

theorem less_yes (a b : Nat) (w : World) (ha : a < 2 ^ 256) (hb : b < 2 ^ 256) (h : a < b) :
    Calls Try.prog 26 #[.agg (bA a), .agg (bA b)] w fun e w' => e = .returned (.bool true) ∧ Below w.heap.size w w' := by
  have := less_any a b w ha hb
  rwa [decide_eq_true h] at this
theorem less_no (a b : Nat) (w : World) (ha : a < 2 ^ 256) (hb : b < 2 ^ 256) (h : ¬ a < b) :
    Calls Try.prog 26 #[.agg (bA a), .agg (bA b)] w fun e w' => e = .returned (.bool false) ∧ Below w.heap.size w w' := by
  have := less_any a b w ha hb
  rwa [decide_eq_false h] at this

set_option maxRecDepth 100000 in
set_option maxHeartbeats 1000000 in
theorem quot_any (a d : Nat) (w : World) (ha : a < 2 ^ 256) (hd0 : 0 < d) (hd : d < 2 ^ 64) :
    Calls Try.prog 18 #[.agg (bA a), .agg (bA d)] w fun e w' => e = .returned (.tuple #[.agg (bA (a / d)), .agg (bA (a % d))]) ∧ Below w.heap.size w w' := by
  have hz := bits_zero
  have H0 := Lib.hid (show a / 2 ^ 256 = 0 from Nat.div_eq_of_lt ha)
  have HD := Lib.hid hd
  have HD0 := Lib.hid hd0
  clear ha hd hd0
  go_enter Try.func18, Try.ntmps18
  go_wp2_with fail
  go_loopw [8] (fun i wr => ∃ k : Nat, k ≤ 256 ∧ i = .int .i64 ((k : Int) - 1) ∧ QW w.heap.size w a d (a / 2 ^ k / d * 2 ^ k) (a / 2 ^ k % d) wr)
    (fun i _ => (intOf i + 1).toNat)
  case atStart =>
    refine ⟨256, by omega, rfl, ?_⟩
    rw [H0.out, Nat.zero_div, Nat.zero_mod, Nat.zero_mul]
    refine ⟨(by (show (_ : World).heap[_]? = some _); repeat (first | (with_reducible refine heap_top _ _ _ ?_; first | (simp; done) | (simp; omega)) | rw [Below.heap_alloc _ _ _ (by first | (simp; done) | (simp; omega))])), (by (show (_ : World).heap[_]? = some _); repeat (first | (with_reducible refine heap_top _ _ _ ?_; first | (simp; done) | (simp; omega)) | rw [Below.heap_alloc _ _ _ (by first | (simp; done) | (simp; omega))])), (by (show (_ : World).heap[_]? = some _); repeat (first | (with_reducible refine heap_top _ _ _ ?_; first | (simp; done) | (simp; omega)) | rw [Below.heap_alloc _ _ _ (by first | (simp; done) | (simp; omega))])), (by (show (_ : World).heap[_]? = some _); repeat (first | (with_reducible refine heap_top _ _ _ ?_; first | (simp; done) | (simp; omega)) | rw [Below.heap_alloc _ _ _ (by first | (simp; done) | (simp; omega))])), (by (show (_ : World).heap[_]? = some _); repeat (first | (with_reducible refine heap_top _ _ _ ?_; first | (simp; done) | (simp; omega)) | rw [Below.heap_alloc _ _ _ (by first | (simp; done) | (simp; omega))])), (by (show (_ : World).heap[_]? = some _); repeat (first | (with_reducible refine heap_top _ _ _ ?_; first | (simp; done) | (simp; omega)) | rw [Below.heap_alloc _ _ _ (by first | (simp; done) | (simp; omega))])), ?_, by simp⟩
    exact ((((((Below.refl _ _).alloc (Nat.le_refl _) _).alloc (by simp) _).alloc (by simp; omega) _).alloc (by simp; omega) _).alloc (by simp; omega) _).alloc (by simp; omega) _
  case round =>
    obtain ⟨k, hk, rfl, hQ⟩ := hrel
    by_cases hlt : 1 ≤ k
    · obtain ⟨j, rfl⟩ : ∃ j, k = j + 1 := ⟨k - 1, by omega⟩
      have e : (((j + 1 : Nat) : Int) - 1) = (j : Int) := by omega
      rw [e]
      clear e
      have hj : (j : Int) < 256 := by omega
      have hj' : j < 256 := by omega
      have HS := Lib.hid (quot_step a d j HD0.out)
      have hr := Nat.mod_lt (a / 2 ^ (j + 1)) HD0.out
      have HO := Lib.hid (bA_set_hi (a / 2 ^ (j + 1) / d) j)
      have hx := bA_get a j hj'
      generalize a / 2 ^ (j + 1) / d = q at hQ HS HO
      generalize a / 2 ^ (j + 1) % d = r at hQ HS hr
      generalize a.testBit j = x at HS hx
      have HX := Lib.hid hx
      have hx1 := Bool.toNat_le x
      have HR := Lib.hid (show 2 * r + x.toNat < 2 ^ 256 by have := HD.out; omega)
      have HD2 := Lib.hid (show d < 2 ^ 256 by have := HD.out; omega)
      clear hr hx hx1
      have hA := hQ.a
      have hcell : wr.cell? ⟨w.heap.size, j, none⟩ = some (.bool x) := by rw [cell_of_row _ _ _ _ _ _ hA]; exact HX.out
      by_cases hlt2 : 2 * r + x.toNat < d
      all_goals have HL := Lib.hid hlt2
      all_goals clear hlt2
      all_goals go_wp2_with (first
        | (with_reducible refine wpB_load rfl (.tmp 7) rfl (w.heap.size + 1 + 1 + 1 + 1 + 1) rfl _ hQ.rest ?_)
        | (go_at_call 56; refine (twice_any _ _).mono ?_; rintro e w1 ⟨rfl, hb1⟩; have hQ1 := hQ.kept hb1; have hcell1 : w1.cell? ⟨w.heap.size, j, none⟩ = some (.bool x) := by rw [cell_of_row _ _ _ _ _ _ hQ1.a]; exact HX.out)
        | (with_reducible refine wpB_store rfl (.tmp 7) (.tmp 14) rfl (w.heap.size + 1 + 1 + 1 + 1 + 1) rfl (2 * r) r rfl hQ1.rest ?_; intro w2 g1 g2 g3 g4; have hQ2 := hQ1.rest_set g1 g2 g3 g4; have hcell2 : w2.cell? ⟨w.heap.size, j, none⟩ = some (.bool x) := by rw [cell_of_row _ _ _ _ _ _ hQ2.a]; exact HX.out)
        | (with_reducible refine wpB_cell rfl (.tmp 18) (.tmp 17) rfl (w.heap.size + 1 + 1 + 1 + 1 + 1) 0 rfl x rfl (2 * r) hQ2.rest (by omega) ?_; intro w3 k1 k2 k3 k4; rw [bA_set0] at k1; have hQ3 := hQ2.rest_set k1 k2 k3 k4)
        | (with_reducible refine wpB_load rfl (.tmp 7) rfl (w.heap.size + 1 + 1 + 1 + 1 + 1) rfl _ hQ3.rest ?_)
        | (with_reducible refine wpB_load rfl (.tmp 3) rfl (w.heap.size + 1) rfl _ hQ3.d ?_)
        | (go_at_call 26; refine (less_yes _ _ _ HR.out HD2.out HL.out).mono ?_; rintro e w4 ⟨rfl, hb4⟩; have hQ4 := hQ3.kept hb4)
        | (go_at_call 26; refine (less_no _ _ _ HR.out HD2.out HL.out).mono ?_; rintro e w4 ⟨rfl, hb4⟩; have hQ4 := hQ3.kept hb4)
        | (with_reducible refine wpB_load rfl (.tmp 7) rfl (w.heap.size + 1 + 1 + 1 + 1 + 1) rfl _ hQ4.rest ?_)
        | (with_reducible refine wpB_load rfl (.tmp 3) rfl (w.heap.size + 1) rfl _ hQ4.d ?_)
        | (go_at_call 31; refine (take_any _ _ _ HR.out (Nat.le_of_not_lt HL.out)).mono ?_; rintro e w5 ⟨rfl, hb5⟩; have hQ5 := hQ4.kept hb5)
        | (with_reducible refine wpB_store rfl (.tmp 7) (.tmp 25) rfl (w.heap.size + 1 + 1 + 1 + 1 + 1) rfl (2 * r + x.toNat - d) (2 * r + x.toNat) rfl hQ5.rest ?_; intro w6 m1 m2 m3 m4; have hQ6 := hQ5.rest_set m1 m2 m3 m4)
        | (with_reducible refine wpB_cell rfl (.tmp 27) (.const (.bool true)) rfl (w.heap.size + 1 + 1 + 1 + 1) j rfl true rfl (q * 2 ^ (j + 1)) hQ6.out hj' ?_; intro w7 n1 n2 n3 n4; rw [HO.out] at n1; have hQ7 := hQ6.out_set n1 n2 n3 n4))
      · have hs := HS.out
        rw [if_pos HL.out] at hs
        refine ⟨⟨j, by omega, rfl, ?_⟩, by simp [intOf]⟩
        rw [hs.1, hs.2, show 2 * q * 2 ^ j = q * 2 ^ (j + 1) by rw [Nat.pow_succ, Nat.mul_comm 2 q, Nat.mul_assoc, Nat.mul_comm 2]]
        exact hQ4
      · have hs := HS.out
        rw [if_neg HL.out] at hs
        refine ⟨⟨j, by omega, rfl, ?_⟩, by simp [intOf]⟩
        rw [hs.1, hs.2]
        exact hQ7
    · obtain rfl : k = 0 := by omega
      have e : (((0 : Nat) : Int) - 1) = -1 := rfl
      rw [e]
      have e2 : a / 2 ^ 0 / d * 2 ^ 0 = a / d := by simp
      have e3 : a / 2 ^ 0 % d = a % d := by simp
      rw [e2, e3] at hQ
      clear e e2 e3
      go_wp2_with fail
      refine wp_region_calm (fun f w' => IsB w' (w.heap.size + 1 + 1 + 1 + 1) (a / d) ∧ IsB w' (w.heap.size + 1 + 1 + 1 + 1 + 1) (a % d) ∧ (∃ m, IsB w' (w.heap.size + 1 + 1) m) ∧ (∃ m, IsB w' (w.heap.size + 1 + 1 + 1) m) ∧ Below w.heap.size w w' ∧
        (f 2 = true → IsB w' (w.heap.size + 1 + 1) (a / d)) ∧ (f 3 = true → IsB w' (w.heap.size + 1 + 1 + 1) (a % d))) (by kernel_rfl) (by kernel_rfl) ⟨hQ.out, hQ.rest, ⟨0, hQ.q0⟩, ⟨0, hQ.r0⟩, hQ.below.drew, by simp [noFlag], by simp [noFlag]⟩ ?_
      refine calmB_load rfl (.tmp 6) rfl (w.heap.size + 1 + 1 + 1 + 1) (a / d) rfl (fun _ _ h _ => h.1) (fun _ _ h _ => by simpa [upd] using h) ?_
      refine calmB_load rfl (.tmp 7) rfl (w.heap.size + 1 + 1 + 1 + 1 + 1) (a % d) rfl (fun _ _ h _ => h.2.1) (fun _ _ h _ => by simpa [upd] using h) ?_
      refine calmB_store rfl (.tmp 4) (.tmp 28) rfl (w.heap.size + 1 + 1) (a / d) rfl rfl (fun _ _ h _ => h.2.2.1)
        (fun f w1 w2 h _ g1 g2 g3 g4 => ⟨(g2 _ (by omega)).trans h.1, (g2 _ (by omega)).trans h.2.1, ⟨_, g1⟩, ⟨_, (g2 _ (by omega)).trans h.2.2.2.1.choose_spec⟩, g3 _ _ (by omega) h.2.2.2.2.1, fun _ => g1, fun hf => (g2 _ (by omega)).trans (h.2.2.2.2.2.2 (by simpa [upd] using hf))⟩) ?_
      refine calmB_store rfl (.tmp 5) (.tmp 29) rfl (w.heap.size + 1 + 1 + 1) (a % d) rfl rfl (fun _ _ h _ => h.2.2.2.1)
        (fun f w1 w2 h _ g1 g2 g3 g4 => ⟨(g2 _ (by omega)).trans h.1, (g2 _ (by omega)).trans h.2.1, ⟨_, (g2 _ (by omega)).trans h.2.2.1.choose_spec⟩, ⟨_, g1⟩, g3 _ _ (by omega) h.2.2.2.2.1, fun hf => (g2 _ (by omega)).trans (h.2.2.2.2.2.1 (by simpa [upd] using hf)), fun _ => g1⟩) ?_
      refine calm_nil ?_
      rintro w8 f ⟨-, -, -, -, hbel, hq, hr⟩ hall
      have hq' := hq (hall 2 (by simp))
      have hr' := hr (hall 3 (by simp))
      clear hq hr hall hQ
      go_wp2_with fail
      exact bits_ret2 rfl _ _ _ _ rfl rfl hq' hr' ⟨rfl, hbel⟩

end Go.Proofs.Ytpjdojnbajoafaa
