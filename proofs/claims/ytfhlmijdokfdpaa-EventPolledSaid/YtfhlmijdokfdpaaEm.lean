/- The walker: what a row's inputs are: slices and structs, opened into lists. -/
import Derived.Test.YtfhlmijdokfdpaaEk
import Derived.ProofKit
import Derived.Carry
import Derived.Deep.Slices
import Derived.Lib.SmallJoins
namespace Go.Proofs.Ytfhlmijdokfdpaa
open Go Go.RowKit

section
variable {H : Type} {enc : TypeId × Value → H} {P : Program} {w : World} {base : Nat} {spare : Nat → Bool} {held : Bool}
theorem spot_none {a : Addr} (h : a.spot = none) : a = ⟨a.block, a.off, none⟩ := by
  cases a
  simp at h
  simp [h]
theorem trod_sv {α : Type} [Enc α] {t e : TypeId} {fuel : Nat} {cs : List Value} {x : DataW H × List MemPlace} {Good : α → Prop} (ht : P.underlying t = some (.slice e)) (hc : P.cellsOf e = Enc.k α)
    (hopen : ∀ (fuel : Nat) (cs : List Value) (x : DataW H × List MemPlace), DataW.trod enc P w base spare held fuel e cs = some x → ∃ a : α, cs = Enc.enc a ∧ Good a) (h : DataW.trod enc P w base spare held fuel t cs = some x) :
    ∃ (p : Option Addr) (n cap : Nat) (l : List α), cs = [.slice p n cap] ∧ Sv w p l ∧ n = l.length ∧ n ≤ cap ∧ cap ≤ maxLen ∧ ∀ y ∈ l, Good y := by
  rcases Deep.open_slice ht h with ⟨hcs, _⟩ | ⟨a, len, cap, m, n', D, Pl, hcs, _, hle, hmx, hm, _, hi⟩
  · exact ⟨none, 0, 0, [], hcs, Sv.nil, rfl, Nat.le_refl _, Nat.zero_le _, fun y hy => by cases hy⟩
  · have key : ∀ i, i < len → ∃ y : α, w.cells? base (a.add (i * Enc.k α)) (Enc.k α) = some (Enc.enc y) ∧ Good y := fun i hin => by
      have him : i < m := by rw [hm]; split <;> omega
      obtain ⟨cs', h1, h2⟩ := hi i him
      obtain ⟨y, rfl, hy⟩ := hopen _ _ _ h2
      rw [hc] at h1
      exact ⟨y, h1, hy⟩
    rcases Nat.eq_zero_or_pos len with h0 | h0
    · subst h0
      exact ⟨some a, 0, cap, [], hcs, Sv.nil, rfl, hle, hmx, fun y hy => by cases hy⟩
    · obtain ⟨y0, hy0, _⟩ := key 0 h0
      haveI : Inhabited α := ⟨y0⟩
      obtain ⟨f, hf⟩ := Deep.choose_lt key
      obtain ⟨_, _, hcell⟩ := World.cells?_some hy0
      have h00 := hcell 0 Enc.pos
      have hlen0 : 0 < (Enc.enc y0).length := by rw [Enc.len]; exact Enc.pos
      rw [List.getElem?_eq_getElem hlen0, Nat.zero_mul, show (a.add 0).add 0 = a by simp [Addr.add]] at h00
      have hsp := spot_none (World.cell?_spot h00)
      refine ⟨some a, len, cap, (List.range len).map f, hcs, ⟨fun _ => ⟨a.block, a.off, by rw [← hsp]⟩, fun b o hbo i hil => ?_⟩, by simp, hle, hmx, fun y hy => ?_⟩
      · have hil' : i < len := by simpa using hil
        obtain ⟨_, _, hc2⟩ := World.cells?_some (hf i hil').1
        have ha : a = ⟨b, o, none⟩ := by simpa using hbo
        subst ha
        intro j v hj
        have hjk : j < Enc.k α := by rw [← Enc.len (f i)]; have := (List.getElem?_eq_some_iff.1 hj).1; simpa using this
        have h3 := hc2 j hjk
        rw [Deep.add_add] at h3
        have h4 : (Enc.enc (f i))[j]? = some v := by simpa using hj
        rw [h4] at h3
        have h5 : (⟨b, o, none⟩ : Addr).add (i * Enc.k α + j) = ⟨b, o + i * Enc.k α + j, none⟩ := by
          unfold Addr.add; split <;> simp_all <;> omega
        rw [h5] at h3
        exact h3
      · obtain ⟨i, hir, rfl⟩ := List.mem_map.1 hy
        exact (hf i (List.mem_range.1 hir)).2
theorem list1 {α : Type} {cs : List α} (h : cs.length = 1) : ∃ c0, cs = [c0] := by
  match cs, h with
  | [a], _ => exact ⟨a, rfl⟩
theorem list2' {α : Type} {cs : List α} (h : cs.length = 2) : ∃ c0 c1, cs = [c0, c1] := by
  match cs, h with
  | [a, b], _ => exact ⟨a, b, rfl⟩
theorem list5 {α : Type} {cs : List α} (h : cs.length = 5) : ∃ c0 c1 c2 c3 c4, cs = [c0, c1, c2, c3, c4] := by
  match cs, h with
  | [a, b, c, d, e], _ => exact ⟨a, b, c, d, e, rfl⟩
theorem trod_int1 {t : TypeId} {fuel : Nat} {cs : List Value} {x : DataW H × List MemPlace} (ht : P.underlying t = some (.int .i64)) (h : DataW.trod enc P w base spare held fuel t cs = some x) : ∃ a : Int, cs = Enc.enc a ∧ True := by
  obtain ⟨a, rfl, _, _⟩ := DataW.trod_int ht h
  exact ⟨a, rfl, trivial⟩
end
end Go.Proofs.Ytfhlmijdokfdpaa
