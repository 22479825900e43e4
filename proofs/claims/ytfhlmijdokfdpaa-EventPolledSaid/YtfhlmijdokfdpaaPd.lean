/- Two ports compared. -/
import Derived.Test.YtfhlmijdokfdpaaPc
import Derived.Laws.StructEq
namespace Go.Proofs.Ytfhlmijdokfdpaa
open Go Go.RowKit

theorem port_eqRun (op : BinOp) (hop : op = .eql ∨ op = .neq) (x y : Operand) (a b : Port) (r : Bool) (hr : r = (if op = .eql then decide (a = b) else !decide (a = b))) : EqRun Try.prog op 40 x y a.val b.val r := by
  intro w
  subst hr
  have hS : Try.prog.underlying 40 = some (.struct (Try.prog.fieldsOf 40)) := by kernel_rfl
  have hp : Try.prog.stoodInHeld 40 = false := by kernel_rfl
  have hg : Try.prog.eqGuardType Try.prog.depth 40 = false := by kernel_rfl
  have key : (Op.equal 40 a.val b.val).run Try.prog w = .ok (decide (a = b)) w := by
    unfold Op.equal
    rw [show Op.maxDepth = 9999 + 1 from rfl, run_equalIn_struct w 9999 40 _ _ hS hp]
    simp only [Program.fieldsOf, Try.underlying40]
    go_simp
    obtain ⟨a1, a2, a3, a4, a5⟩ := a
    obtain ⟨b1, b2, b3, b4, b5⟩ := b
    simp only [Port.mk.injEq]
    by_cases h1 : a1 = b1 <;> by_cases h2 : a2 = b2 <;> by_cases h3 : a3 = b3 <;> by_cases h4 : a4 = b4 <;> by_cases h5 : a5 = b5 <;> simp [h1, h2, h3, h4, h5]
  have guard : (eqGuard op 40 x y a.val b.val).run Try.prog w = .ok () w := by
    unfold eqGuard
    rcases hop with rfl | rfl <;> simp [hg]
  rw [Sem.run_bind, guard]
  simp only [Result.andThen_ok]
  rcases hop with rfl | rfl <;> simp [binOp, Sem.run_bind, key]
theorem port_eq_t {x y : Operand} {a b : Port} (h : a = b) : EqRun Try.prog .eql 40 x y a.val b.val true := port_eqRun _ (.inl rfl) x y a b _ (by simp [h])
theorem port_eq_f {x y : Operand} {a b : Port} (h : ¬ a = b) : EqRun Try.prog .eql 40 x y a.val b.val false := port_eqRun _ (.inl rfl) x y a b _ (by simp [h])
theorem port_ne_t {x y : Operand} {a b : Port} (h : a = b) : EqRun Try.prog .neq 40 x y a.val b.val false := port_eqRun _ (.inr rfl) x y a b _ (by simp [h])
theorem port_ne_f {x y : Operand} {a b : Port} (h : ¬ a = b) : EqRun Try.prog .neq 40 x y a.val b.val true := port_eqRun _ (.inr rfl) x y a b _ (by simp [h])
end Go.Proofs.Ytfhlmijdokfdpaa
