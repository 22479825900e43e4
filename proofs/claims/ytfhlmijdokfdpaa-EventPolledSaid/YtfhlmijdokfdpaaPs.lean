/- What the laws of chapter 16 are handed; Bools compared. -/
import Derived.Test.YtfhlmijdokfdpaaPr
import Derived.Test.YtfhlmijdokfdpaaPi
import Derived.Test.YtfhlmijdokfdpaaEl
import Derived.Laws.StructEq
namespace Go.Proofs.Ytfhlmijdokfdpaa
open Go Go.RowKit

/-- A poll that is asked. -/
structure Asked where
  vcpu : Int
  np : Option Addr
  nn : Nat
  ncap : Nat
  ns : List Int
def Asked.enc (x : Asked) : List Value := [.int .i64 x.vcpu, .slice x.np x.nn x.ncap]
instance : Enc Asked := ⟨Asked.enc, 2, fun _ => rfl, fun x v h => by simp [Asked.enc] at h; rcases h with rfl | rfl <;> rfl, by decide⟩
theorem pollV_bad {l : List Port} {own : Int} {ns : List Int} (h : rightB l = false) : pollV l own ns = (false, 260) := by simp [pollV, h]
theorem bool_eqRun (op : BinOp) (hop : op = .eql ∨ op = .neq) (x y : Operand) (a b r : Bool) (hr : r = (if op = .eql then a == b else !(a == b))) : EqRun Try.prog op 4 x y (.bool a) (.bool b) r := by
  intro w
  subst hr
  have hg : Try.prog.eqGuardType Try.prog.depth 4 = false := by kernel_rfl
  have key : (Op.equal 4 (.bool a) (.bool b)).run Try.prog w = .ok (a == b) w := by
    unfold Op.equal
    rw [show Op.maxDepth = 9999 + 1 from rfl]
    exact run_equalIn_bool' w 9999 4 a b Try.underlying4
  have guard : (eqGuard op 4 x y (.bool a) (.bool b)).run Try.prog w = .ok () w := by
    unfold eqGuard
    rcases hop with rfl | rfl <;> simp [hg]
  rw [Sem.run_bind, guard]
  simp only [Result.andThen_ok]
  rcases hop with rfl | rfl <;> simp [binOp, Sem.run_bind, key]
theorem bool_same {x y : Operand} (a : Bool) : EqRun Try.prog .neq 4 x y (.bool a) (.bool a) false := bool_eqRun _ (.inr rfl) x y a a _ (by simp)
theorem bool_same' {x y : Operand} (a : Bool) : EqRun Try.prog .eql 4 x y (.bool a) (.bool a) true := bool_eqRun _ (.inl rfl) x y a a _ (by simp)
theorem bool_ne {x y : Operand} (a b : Bool) : EqRun Try.prog .neq 4 x y (.bool a) (.bool b) (!(a == b)) := bool_eqRun _ (.inr rfl) x y a b _ (by simp)
theorem bool_eq {x y : Operand} (a b : Bool) : EqRun Try.prog .eql 4 x y (.bool a) (.bool b) (a == b) := bool_eqRun _ (.inl rfl) x y a b _ (by simp)
/-- Ports, as an element of a row of them. -/
structure PortsA where
  p : Option Addr
  n : Nat
  cap : Nat
  l : List Port
def PortsA.enc (x : PortsA) : List Value := [.slice x.p x.n x.cap]
instance : Enc PortsA := ⟨PortsA.enc, 1, fun _ => rfl, fun x v h => by simp [PortsA.enc] at h; subst h; rfl, by decide⟩
theorem eGet_bad {l : List Port} {k : Int} (h : rightB l = false) : eGet l k = none := by simp [eGet, h]
theorem eGet_right {l : List Port} {k : Int} (h : rightB l = true) : eGet l k = getB l k := by simp [eGet, h]
end Go.Proofs.Ytfhlmijdokfdpaa
