/- slices.overlaps, answered by the model. -/
import Derived.Test.YtfhlmijdokfdpaaEh
import Derived.Test.YtfhlmijdokfdpaaProg
namespace Go.Proofs.Ytfhlmijdokfdpaa
open Go Go.RowKit

set_option maxRecDepth 100000 in
theorem overlaps_find : Extern.find Try.f73 = some (Extern.SlicesOverlaps.overlaps Try.f73.params Try.f73.resultTypes) := by kernel_rfl
set_option maxRecDepth 100000 in
theorem overlaps_next : Extern.findNext Try.f73 = none := by kernel_rfl
theorem overlaps_no {w : World} {g1 o1 g2 o2 m n c1 c2 : Nat} {cs1 cs2 : Array Value} {T1 T2 : TypeId} (h1 : w.heap[g1]? = some (.cells cs1 T1 (0, 0))) (h2 : w.heap[g2]? = some (.cells cs2 T2 (0, 0))) (hne : g1 ≠ g2) :
    (callFunc 73 #[.slice (some ⟨g1, o1, none⟩) m c1, .slice (some ⟨g2, o2, none⟩) n c2]).run Try.prog w = .ok (.value (.bool false)) w := by
  have hf := Try.func73
  have hn : (Try.f73.name == "runtime.NumGoroutine") = false := by kernel_rfl
  have hb : Try.f73.body.isNone = true := by kernel_rfl
  have hp : Try.f73.params[0]? = some 22 := by kernel_rfl
  have hu := Try.underlying22
  have hi : ∃ inf, Try.prog.info? 40 = some inf ∧ inf.size = 5 := ⟨_, rfl, rfl⟩
  obtain ⟨inf, hi, hs⟩ := hi
  have s1 : w.shape? g1 = some (T1, cs1.size) := by simp [World.shape?, h1]
  have s2 : w.shape? g2 = some (T2, cs2.size) := by simp [World.shape?, h2]
  have f1 : ∀ j, w.frozen? ⟨g1, j, none⟩ = false := fun j => froz_own h1 j
  have f2 : ∀ j, w.frozen? ⟨g2, j, none⟩ = false := fun j => froz_own h2 j
  have run1 : ∀ args, (callFunc 73 args).run Try.prog w = ((Extern.SlicesOverlaps.overlaps Try.f73.params Try.f73.resultTypes args).run Try.prog w).andThen fun v w' => .ok (.value v) w' := fun args => by
    simp only [callFunc, Sem.run_bind, run_program, Result.andThen_ok, hf, hn, hb, overlaps_next, overlaps_find]
    simp [mark, Sem.run, Sem.run_bind]
  rw [run1]
  have hne' : (g1 == g2) = false := by simpa using hne
  have hs' : (do let i ← typeInfo 40; pure i.size : Sem Nat).run Try.prog w = .ok 5 w := by simp [typeInfo, hi, hs]
  delta Extern.SlicesOverlaps.overlaps
  conv => lhs; arg 1; arg 2; whnf
  have hu' : Try.prog.underlying (Try.f73.params[0]'(by decide)) = some (.slice 40) := by kernel_rfl
  have sb : ∀ (α β : Type) (x : Sem α) (f : α → Sem β) (P : Program) (w : World), (x.bind f).run P w = (x.run P w).andThen fun a w' => (f a).run P w' := fun α β x f P w => Sem.run_bind' P x f w
  by_cases hm : m = 0 ∨ n = 0 ∨ inf.size = 0
  · simp [Sem.run, sb, hu', sizeOf, typeInfo, hi, hm]
  · simp [Sem.run, sb, hu', sizeOf, typeInfo, hi, hm, bne, hne', hne, noView, viewAt, mayBeOne, stringish, shape, frozen, s1, s2, f1, f2]
end Go.Proofs.Ytfhlmijdokfdpaa
