/- The walker: slice expressions; cells of one's own row laid over. -/
import Derived.Test.YtfhlmijdokfdpaaEe
import Derived.Test.YtfhlmijdokfdpaaPg
namespace Go.Proofs.Ytfhlmijdokfdpaa
open Go Go.RowKit

theorem addr_add (b o n : Nat) : (⟨b, o, none⟩ : Addr).add n = ⟨b, o + n, none⟩ := by
  unfold Addr.add
  split
  · rename_i h; rw [h]; rfl
  · rfl
section
variable {P : Program} {T e : TypeId} {p : Option Addr} {n cap k by_ : Nat} {inf : TypeInfo}
theorem run_bound {k : IntKind} {h y : Nat} {c : BoundsCode} (hh : h ≤ y) (w : World) : (Instr.sliceBound (.int k (h : Int)) y c).run P w = .ok h w := by
  have : (0 : Int) ≤ h ∧ (h : Int) ≤ y := ⟨by omega, by omega⟩
  simp [Instr.sliceBound, asIntOf, this, hh]
/-- s[:h] -/
theorem sl_hi {h : Nat} (hu : P.underlying T = some (.slice e)) (hi : P.info? e = some inf) (hh : h ≤ cap) : SlRun P T (.slice p n cap) none (some (.int .i64 (h : Int))) none (.slice p h cap) := by
  intro w
  have e1 : (if cap = 0 then p else p.map (·.add (0 * inf.size))) = p := by
    split
    · rfl
    · cases p with
      | none => rfl
      | some a => simp [Addr.add]
  simp [Instr.sliceAt, Instr.slice, underlying, hu, Instr.sliceBounds, run_bound hh, sizeOf, typeInfo, hi]
  simpa using e1
/-- s[lo:], at an address, lo below the capacity. -/
theorem sl_lo {b o lo : Nat} (hu : P.underlying T = some (.slice e)) (hi : P.info? e = some inf) (hlo : lo ≤ n) (hc : lo < cap) : SlRun P T (.slice (some ⟨b, o, none⟩) n cap) (some (.int .i64 (lo : Int))) none none (.slice (some ⟨b, o + lo * inf.size, none⟩) (n - lo) (cap - lo)) := by
  intro w
  have hne : ¬ cap = lo := by omega
  simp [Instr.sliceAt, Instr.slice, underlying, hu, Instr.sliceBounds, run_bound hlo, sizeOf, typeInfo, hi, hne, addr_add]
theorem slE_hi {h : Nat} (hE : elemB P T e k by_ = true) (hh : h ≤ cap) : SlRun P T (.slice p n cap) none (some (.int .i64 (h : Int))) none (.slice p h cap) := by
  obtain ⟨hu, i, z, hi, _⟩ := elemB_spec hE
  exact sl_hi hu hi hh
theorem slE_lo {b o lo : Nat} (hE : elemB P T e k by_ = true) (hlo : lo ≤ n) (hc : lo < cap) : SlRun P T (.slice (some ⟨b, o, none⟩) n cap) (some (.int .i64 (lo : Int))) none none (.slice (some ⟨b, o + lo * k, none⟩) (n - lo) (cap - lo)) := by
  obtain ⟨hu, i, z, hi, _, _, hk, _⟩ := elemB_spec hE
  subst hk
  exact sl_lo hu hi hlo hc
theorem Sv.take {α : Type} [Enc α] {w : World} {l : List α} (h : Sv w p l) (m : Nat) : Sv w p (l.take m) :=
  ⟨fun hne => h.addr fun e => hne (by rw [e]; simp), fun b o e i hi => by
    have hi' : i < l.length := by rw [List.length_take] at hi; omega
    have := h.cell b o e i hi'
    rwa [List.getElem_take]⟩
end
end Go.Proofs.Ytfhlmijdokfdpaa
