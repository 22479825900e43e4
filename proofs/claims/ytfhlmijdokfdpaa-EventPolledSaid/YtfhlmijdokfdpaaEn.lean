/- The walker: blocks told in another order, some of them left out. -/
import Derived.Test.YtfhlmijdokfdpaaEl
namespace Go.Proofs.Ytfhlmijdokfdpaa
open Go Go.RowKit

theorem Hs.pick {w0 w : World} (cs : List (List Ob)) (is rest : List Nat) (hi : (is ++ rest).isPerm (List.range cs.length) = true) (h : Hs w0 cs.flatten w) : Hs w0 (chunk cs is) w := by
  have h1 := h.perm (chunk_perm cs (is ++ rest) hi).symm
  have e : chunk cs (is ++ rest) = chunk cs is ++ chunk cs rest := by simp [chunk]
  rw [e] at h1
  exact h1.sub (List.sublist_append_left _ _)
section
variable {E : Env} {k : List Fr} {l : Sl} {L L' : List Ob} {all os : List Oper} {i : Nat}
theorem At.pick {c : Code} (cs : List (List Ob)) (is rest : List Nat) (L' : List Ob) (hi : (is ++ rest).isPerm (List.range cs.length) = true) (hL : L = cs.flatten) (hL' : L' = chunk cs is) (h : At E k c l L') : At E k c l L :=
  ⟨fun a w ha hs => h.out a w ha (by rw [hL']; exact Hs.pick cs is rest hi (by rw [← hL]; exact hs))⟩
theorem Ops.pick (cs : List (List Ob)) (is rest : List Nat) (L' : List Ob) (hi : (is ++ rest).isPerm (List.range cs.length) = true) (hL : L = cs.flatten) (hL' : L' = chunk cs is) (h : Ops E k all os i l L') : Ops E k all os i l L :=
  ⟨fun a w ha hs => h.out a w ha (by rw [hL']; exact Hs.pick cs is rest hi (by rw [← hL]; exact hs))⟩
theorem Done.pick (cs : List (List Ob)) (is rest : List Nat) (L' : List Ob) (hi : (is ++ rest).isPerm (List.range cs.length) = true) (hL : L = cs.flatten) (hL' : L' = chunk cs is) (h : Done E k l L') : Done E k l L :=
  ⟨fun a w ha hs => h.out a w ha (by rw [hL']; exact Hs.pick cs is rest hi (by rw [← hL]; exact hs))⟩
end
end Go.Proofs.Ytfhlmijdokfdpaa
