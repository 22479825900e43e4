/- Ports: what a change of one port makes of them, in plain Lean. -/
import Derived.Test.YtfhlmijdokfdpaaPm
namespace Go.Proofs.Ytfhlmijdokfdpaa
open Go Go.RowKit

/-- What the layer's Clear answers. -/
def clearV (l : List Port) (k : Int) : List Port × Bool × Int :=
  if rightB l = true then
    match getB l k with
    | none => ([], false, 4)
    | some x => (l.set (posB l x.num) ⟨x.num, x.vcpu, x.peer, false, x.masked⟩, x.pending, 0)
  else ([], false, 260)
/-- What the layer's Raise, Mask, Bind answer: f says what becomes of the port. -/
def turnV (l : List Port) (k : Int) (f : Port → Port) : List Port × Int × Int :=
  if rightB l = true then
    match getB l k with
    | none => ([], 0, 4)
    | some x => turnP l x (f x)
  else ([], 0, 260)
/-- What the layer's Bind answers. -/
def bindV (l : List Port) (k own : Int) : List Port × Int × Int :=
  if rightB l = true then if vcpuB own = true then turnV l k (fun x => ⟨x.num, own, x.peer, x.pending, x.masked⟩) else ([], 0, 2) else ([], 0, 260)
section
variable {l : List Port} {own : Int} {k : Int} {x : Port} {f : Port → Port}
theorem clearV_bad (h : rightB l = false) : clearV l k = ([], false, 260) := by simp [clearV, h]
theorem clearV_none (h : rightB l = true) (h1 : getB l k = none) : clearV l k = ([], false, 4) := by simp [clearV, h, h1]
theorem clearV_ok (h : rightB l = true) (h1 : getB l k = some x) : clearV l k = (l.set (posB l x.num) ⟨x.num, x.vcpu, x.peer, false, x.masked⟩, x.pending, 0) := by simp [clearV, h, h1]
theorem turnV_bad (h : rightB l = false) : turnV l k f = ([], 0, 260) := by simp [turnV, h]
theorem turnV_none (h : rightB l = true) (h1 : getB l k = none) : turnV l k f = ([], 0, 4) := by simp [turnV, h, h1]
theorem turnV_ok (h : rightB l = true) (h1 : getB l k = some x) : turnV l k f = turnP l x (f x) := by simp [turnV, h, h1]
theorem bindV_bad (h : rightB l = false) : bindV l k own = ([], 0, 260) := by simp [bindV, h]
theorem bindV_arg (h : rightB l = true) (h1 : vcpuB own = false) : bindV l k own = ([], 0, 2) := by simp [bindV, h, h1]
theorem bindV_none (h : rightB l = true) (h1 : vcpuB own = true) (h2 : getB l k = none) : bindV l k own = ([], 0, 4) := by simp only [bindV, if_pos h, if_pos h1, turnV_none h h2]
theorem bindV_ok (h : rightB l = true) (h1 : vcpuB own = true) (h2 : getB l k = some x) : bindV l k own = turnP l x ⟨x.num, own, x.peer, x.pending, x.masked⟩ := by simp only [bindV, if_pos h, if_pos h1, turnV_ok h h2]
end
end Go.Proofs.Ytfhlmijdokfdpaa
