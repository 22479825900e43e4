/- The walker: small laws for insertion and deletion. -/
import Derived.Test.YtfhlmijdokfdpaaEh
namespace Go.Proofs.Ytfhlmijdokfdpaa
open Go Go.RowKit

section
variable {α : Type} [Enc α] {l : List α} {i n m cap : Nat} {cs : Array Value} {w w0 : World}
theorem flat_one (l : List α) : ∀ u ∈ l.flatMap Enc.enc, u.oneCell' = true := fun u hu => by
  obtain ⟨x, _, hx⟩ := List.mem_flatMap.1 hu
  exact Enc.one x u hx
theorem row_one (h : OwnS (Enc.k α) (l.flatMap Enc.enc) n cap cs) (hi : i ≤ n) : ∀ u ∈ (cs.toList.drop (0 + i * Enc.k α)).take ((n - i) * Enc.k α), u.oneCell' = true := fun u hu => by
  obtain ⟨j, hj⟩ := List.mem_iff_getElem?.1 hu
  have a3 : (n - i) * Enc.k α = n * Enc.k α - i * Enc.k α := Nat.sub_mul ..
  have a4 : i * Enc.k α ≤ n * Enc.k α := Nat.mul_le_mul_right _ hi
  rw [List.getElem?_take] at hj
  split at hj
  · rename_i hlt
    rw [List.getElem?_drop, Array.getElem?_toList, h.get _ (by omega)] at hj
    exact flat_one l u (List.mem_of_getElem? hj)
  · cases hj
theorem row_len (h : OwnS (Enc.k α) (l.flatMap Enc.enc) n cap cs) (hi : i ≤ n) : ((cs.toList.drop (0 + i * Enc.k α)).take ((n - i) * Enc.k α)).length = (n - i) * Enc.k α := by
  have a3 : (n - i) * Enc.k α = n * Enc.k α - i * Enc.k α := Nat.sub_mul ..
  have a4 : i * Enc.k α ≤ n * Enc.k α := Nat.mul_le_mul_right _ hi
  have a6 : n * Enc.k α ≤ cap * Enc.k α := Nat.mul_le_mul_right _ h.le
  rw [List.length_take, List.length_drop, Array.length_toList, h.csz]; omega
theorem row_room (h : OwnS (Enc.k α) (l.flatMap Enc.enc) n cap cs) (hi : i ≤ n) : 0 + i * Enc.k α + (n - i) * Enc.k α ≤ cs.size := by
  have a3 : (n - i) * Enc.k α = n * Enc.k α - i * Enc.k α := Nat.sub_mul ..
  have a4 : i * Enc.k α ≤ n * Enc.k α := Nat.mul_le_mul_right _ hi
  have a6 : n * Enc.k α ≤ cap * Enc.k α := Nat.mul_le_mul_right _ h.le
  rw [h.csz]; omega
theorem mul_room {a b c k sz : Nat} (h : a + b ≤ c) (hs : sz = c * k) : 0 + a * k + b * k ≤ sz := by
  rw [hs, Nat.zero_add, ← Nat.add_mul]
  exact Nat.mul_le_mul_right _ h
theorem copy_room (h : OwnS (Enc.k α) (l.flatMap Enc.enc) n cap cs) (hi : i ≤ n) {a c sz : Nat} (ha : a + (n - i) ≤ c) (hs : sz = c * Enc.k α) : 0 + a * Enc.k α + ((cs.toList.drop (0 + i * Enc.k α)).take ((n - i) * Enc.k α)).length ≤ sz := by
  rw [row_len h hi]
  exact mul_room ha hs
theorem olds_len {i cap k : Nat} {cs : Array Value} (h : cs.size = cap * k) (hi : i ≤ cap) : ((cs.toList.drop 0).take (i * k)).length = i * k := by
  have := Nat.mul_le_mul_right k hi
  rw [List.drop_zero, List.length_take, Array.length_toList, h]; omega
theorem apart_two {w0 w : World} {L : List Ob} (h : Hs w0 L w) {a b g1 g2 : Nat} {o1 o2 : Obj} (h1 : L[a]? = some (g1, o1)) (h2 : L[b]? = some (g2, o2)) (hne : a ≠ b) : g1 ≠ g2 := fun e => by
  have hn := h.apart
  obtain ⟨la, ea⟩ := List.getElem?_eq_some_iff.1 (show (L.map (·.1))[a]? = some g1 by simp [h1])
  obtain ⟨lb, eb⟩ := List.getElem?_eq_some_iff.1 (show (L.map (·.1))[b]? = some g2 by simp [h2])
  have hp := List.pairwise_iff_getElem.1 hn
  rcases Nat.lt_or_gt_of_ne hne with h3 | h3
  · exact hp a b la lb h3 (by rw [ea, eb, e])
  · exact hp b a lb la h3 (by rw [ea, eb, e])
/-- A slice expression's value where it only must be. -/
theorem slE_cut {P : Program} {T e : TypeId} {p : Option Addr} {k by_ lo : Nat} (hE : elemB P T e k by_ = true) (hlo : lo ≤ n) : SlRun P T (.slice p n cap) (some (.int .i64 (lo : Int))) none none (.slice (if cap = lo then p else p.map (·.add (lo * k))) (n - lo) (cap - lo)) := by
  obtain ⟨hu, i, z, hi, _, _, hk, _⟩ := elemB_spec hE
  subst hk
  intro w
  simp [Instr.sliceAt, Instr.slice, underlying, hu, Instr.sliceBounds, run_bound hlo, sizeOf, typeInfo, hi]
theorem SlO.parts {T : TypeId} {Y : List Ob} {p : Option Addr} (h : SlO T Y p n cap l) : (p = none ∧ Y = [] ∧ n = 0) ∨ ∃ g cs, p = some ⟨g, 0, none⟩ ∧ Y = [bx g cs T] ∧ OwnS (Enc.k α) (l.flatMap Enc.enc) n cap cs := by
  rcases h with ⟨a, b, c, d, e⟩ | ⟨g, cs, a, b, c, d⟩
  · subst a; subst b; exact .inl ⟨rfl, rfl, by first | assumption | omega⟩
  · exact .inr ⟨g, cs, by assumption, by assumption, by assumption⟩
theorem OwnS.rdx (h : OwnS (Enc.k α) (l.flatMap Enc.enc) n cap cs) (hn : n = l.length) {x : α} (hx : l[i]? = some x) : RdA cs (0 + i * Enc.k α) (Enc.enc x) := by
  obtain ⟨hi, e⟩ := List.getElem?_eq_some_iff.1 hx
  subst e
  rw [Nat.zero_add]
  exact h.rda hn i hi
/-- A slice's block is taken to the front, and put back. -/
theorem Hs.pull {a : Ob} {A Y R : List Ob} (h : Hs w0 (a :: (A ++ (Y ++ R))) w) : Hs w0 (a :: (Y ++ (A ++ R))) w :=
  h.perm (.cons _ (by rw [← List.append_assoc, ← List.append_assoc]; exact (List.perm_append_comm).append_right _))
theorem Hs.push {A Y R : List Ob} (h : Hs w0 (Y ++ (A ++ R)) w) : Hs w0 (A ++ (Y ++ R)) w :=
  h.perm (by rw [← List.append_assoc, ← List.append_assoc]; exact (List.perm_append_comm).append_right _)
end
end Go.Proofs.Ytfhlmijdokfdpaa
