/- The contracts of wide and of its reference, one value each. -/
import Derived.Test.YtpjdojnbajoafaaWx
import Derived.Test.YtpjdojnbajoafaaWr
import Derived.Test.YtpjdojnbajoafaaWo
namespace Go.Proofs.Ytpjdojnbajoafaa
open Go Go.RowKit

/-- A function's contract where the answer is one value and memory grows at most. -/
def Dt (f : FuncId) (args : Array Value) (v : Value) : Prop := ∀ w, Calls Try.prog f args w fun e w' => e = .returned v ∧ Below w.heap.size w w'
abbrev wv (h l : Nat) : Value := .agg #[.int .u64 h, .int .u64 l]

theorem wakes_d : Dt 15 #[] (.bool true) := fun w => wakes_any w
theorem dROf {h l n : Nat} (hh : h < 2 ^ 64) (hl : l < 2 ^ 64) (hn : h * 2 ^ 64 + l = n) : Dt 19 #[wv h l] (.agg (bA n)) := fun w => of_any h l n w hh hl hn
theorem dROfLo {l : Nat} (hl : l < 2 ^ 64) : Dt 19 #[.agg #[.int .u64 0, .int .u64 l]] (.agg (bA l)) := fun w => of_lo l w hl
theorem dNumber {b h l : Nat} {f : Bool} (hl : l < 2 ^ 64) (e : h * 2 ^ 64 + l = b % 2 ^ 128) (hf : fits b = f) : Dt 20 #[.agg (bA b)] (.tuple #[wv h l, .bool f]) := fun w => by
  refine (number_any b w).mono ?_
  rintro e1 w1 ⟨h', l', rfl, _, hl', e2, hb⟩
  obtain ⟨rfl, rfl⟩ := of_parts h' l' h l hl' hl (by rw [e2, e])
  exact ⟨by rw [hf], hb⟩
theorem dSum (a b : Nat) : Dt 29 #[.agg (bA a), .agg (bA b)] (.agg (bA (a + b))) := fun w => sum_any a b w
theorem dProduct (a : Nat) {m : Nat} (hm : m < 2 ^ 64) : Dt 25 #[.agg (bA a), .int .u64 m] (.agg (bA (a * m))) := fun w => prod_any a m w hm
theorem dTake {a b : Nat} (ha : a < 2 ^ 256) (hb : b ≤ a) : Dt 31 #[.agg (bA a), .agg (bA b)] (.agg (bA (a - b))) := fun w => take_any a b w ha hb
theorem dLess {a b : Nat} (ha : a < 2 ^ 256) (hb : b < 2 ^ 256) : Dt 26 #[.agg (bA a), .agg (bA b)] (.bool (decide (a < b))) := fun w => less_any a b w ha hb
theorem dQuot {a d : Nat} (ha : a < 2 ^ 256) (hd0 : 0 < d) (hd : d < 2 ^ 64) : Dt 18 #[.agg (bA a), .agg (bA d)] (.tuple #[.agg (bA (a / d)), .agg (bA (a % d))]) := fun w => quot_any a d w ha hd0 hd
theorem dMul {a b h l : Nat} (ha : a < 2 ^ 64) (hb : b < 2 ^ 64) (hl : l < 2 ^ 64) (e : h * 2 ^ 64 + l = a * b) : Dt 27 #[.int .u64 a, .int .u64 b] (wv h l) := fun w => by
  refine (wMul_any a b w ha hb).mono ?_
  rintro e1 w1 ⟨h', l', rfl, _, hl', e2, hb⟩
  obtain ⟨rfl, rfl⟩ := of_parts h' l' h l hl' hl (by rw [e2, e])
  exact ⟨rfl, hb⟩
theorem dOf (n : Nat) : Dt 28 #[.int .u64 n] (.agg #[.int .u64 0, .int .u64 n]) := fun w => wOf_any n w
theorem dCompare {h l n H L m : Nat} (hl : l < 2 ^ 64) (hL : L < 2 ^ 64) (hn : h * 2 ^ 64 + l = n) (hm : H * 2 ^ 64 + L = m) : Dt 23 #[wv h l, wv H L] (.int .i64 (c3 n m)) := fun w => by
  have := wCompare_any h l H L w
  rwa [cW_eq h l H L n m hl hL hn hm] at this
theorem scl_same {v h l c h' l' c' : Nat} (hs : sclRes v h l c) (hs' : sclRes v h' l' c') (hl : l < 2 ^ 64) (hl' : l' < 2 ^ 64) : h = h' ∧ l = l' ∧ c = c' := by
  unfold sclRes at hs hs'
  split at hs
  · rename_i hv
    rw [if_pos hv] at hs'
    obtain ⟨e1, e2⟩ := of_parts h l h' l' hl hl' (by rw [hs.1, hs'.1])
    exact ⟨e1, e2, by rw [hs.2, hs'.2]⟩
  · rename_i hv
    rw [if_neg hv] at hs'
    exact ⟨by rw [hs.1, hs'.1], by rw [hs.2.1, hs'.2.1], by rw [hs.2.2, hs'.2.2]⟩
theorem dAdd {h l n H L m A B c : Nat} (hh : h < 2 ^ 64) (hl : l < 2 ^ 64) (hn : h * 2 ^ 64 + l = n) (hH : H < 2 ^ 64) (hL : L < 2 ^ 64) (hm : H * 2 ^ 64 + L = m) (hB : B < 2 ^ 64) (hs : sclRes (n + m) A B c) :
    Dt 24 #[wv h l, wv H L] (.tuple #[wv A B, .int .i64 c]) := fun w => by
  refine (wAdd_any h l n H L m w hh hl hn hH hL hm).mono ?_
  rintro e1 w1 ⟨h', l', c', rfl, _, hl', hs', hb⟩
  obtain ⟨rfl, rfl, rfl⟩ := scl_same hs' hs hl' hB
  exact ⟨rfl, hb⟩
theorem dScale {h l n m d A B c : Nat} (hh : h < 2 ^ 64) (hl : l < 2 ^ 64) (hn : h * 2 ^ 64 + l = n) (hm : m < 2 ^ 64) (hd0 : 0 < d) (hd : d < 2 ^ 64) (hB : B < 2 ^ 64) (hs : sclRes (scl n m d true) A B c) :
    Dt 17 #[wv h l, .int .u64 m, .int .u64 d] (.tuple #[wv A B, .int .i64 c]) := fun w => by
  refine (wScale_any h l n m d w hh hl hn hm hd0 hd).mono ?_
  rintro e1 w1 ⟨h', l', c', rfl, _, hl', hs', hb⟩
  obtain ⟨rfl, rfl, rfl⟩ := scl_same hs' hs hl' hB
  exact ⟨rfl, hb⟩
theorem dScale0 {h l m : Nat} : Dt 17 #[wv h l, .int .u64 m, .int .u64 0] (.tuple #[.agg #[.int .u64 0, .int .u64 0], .int .i64 130]) := fun w => wScale_zero h l m w
theorem dSubYes {h l n H L m A B : Nat} (hh : h < 2 ^ 64) (hl : l < 2 ^ 64) (hn : h * 2 ^ 64 + l = n) (hH : H < 2 ^ 64) (hL : L < 2 ^ 64) (hm : H * 2 ^ 64 + L = m) (hle : m ≤ n) (hB : B < 2 ^ 64) (e : A * 2 ^ 64 + B = n - m) :
    Dt 30 #[wv h l, wv H L] (.tuple #[wv A B, .int .i64 0]) := fun w => by
  refine (wSub_yes h l n H L m w hh hl hn hH hL hm hle).mono ?_
  rintro e1 w1 ⟨h', l', rfl, _, hl', e2, hb⟩
  obtain ⟨rfl, rfl⟩ := of_parts h' l' A B hl' hB (by rw [e2, e])
  exact ⟨rfl, hb⟩
theorem dSubNo {h l n H L m : Nat} (hl : l < 2 ^ 64) (hn : h * 2 ^ 64 + l = n) (hL : L < 2 ^ 64) (hm : H * 2 ^ 64 + L = m) (hlt : n < m) :
    Dt 30 #[wv h l, wv H L] (.tuple #[.agg #[.int .u64 0, .int .u64 0], .int .i64 131]) := fun w => wSub_no h l n H L m w hl hn hL hm hlt
theorem dDiv {h l n d A B : Nat} (hh : h < 2 ^ 64) (hl : l < 2 ^ 64) (hn : h * 2 ^ 64 + l = n) (hd0 : 0 < d) (hd : d < 2 ^ 64) (hB : B < 2 ^ 64) (e : A * 2 ^ 64 + B = n / d) :
    Dt 16 #[wv h l, .int .u64 d] (.tuple #[wv A B, .int .u64 (n % d : Nat), .int .i64 0]) := fun w => by
  refine (wDiv_any h l n d w hh hl hn hd0 hd).mono ?_
  rintro e1 w1 ⟨h', l', rfl, _, hl', e2, hb⟩
  obtain ⟨rfl, rfl⟩ := of_parts h' l' A B hl' hB (by rw [e2, e])
  exact ⟨rfl, hb⟩
theorem dDiv0 {h l : Nat} : Dt 16 #[wv h l, .int .u64 0] (.tuple #[.agg #[.int .u64 0, .int .u64 0], .int .u64 0, .int .i64 130]) := fun w => wDiv_zero h l w
theorem md_same {v x e x' e' : Nat} (h : mdRes v x e) (h' : mdRes v x' e') : x = x' ∧ e = e' := by
  unfold mdRes at h h'
  split at h
  · rename_i hv; rw [if_pos hv] at h'; exact ⟨by rw [h.1, h'.1], by rw [h.2, h'.2]⟩
  · rename_i hv; rw [if_neg hv] at h'; exact ⟨by rw [h.1, h'.1], by rw [h.2, h'.2]⟩
theorem dMulDiv {a b d x c : Nat} {up : Bool} (ha : a < 2 ^ 64) (hb : b < 2 ^ 64) (hd0 : 0 < d) (hd : d < 2 ^ 64) (hs : mdRes (scl a b d up) x c) : Dt 22 #[.int .u64 a, .int .u64 b, .int .u64 d, .bool up] (.tuple #[.int .u64 x, .int .i64 c]) := fun w => by
  refine (wMulDiv_any a b d up w ha hb hd0 hd).mono ?_
  rintro e1 w1 ⟨x', c', rfl, _, hs', hb⟩
  obtain ⟨rfl, rfl⟩ := md_same hs' hs
  exact ⟨rfl, hb⟩
theorem dMulDiv0 {a b : Nat} {up : Bool} : Dt 22 #[.int .u64 a, .int .u64 b, .int .u64 0, .bool up] (.tuple #[.int .u64 0, .int .i64 130]) := fun w => wMulDiv_zero a b up w
end Go.Proofs.Ytpjdojnbajoafaa
