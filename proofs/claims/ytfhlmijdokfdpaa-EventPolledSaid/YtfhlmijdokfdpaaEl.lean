/- The walker: drawn regions that act, told state by state (each set of done operations once). -/
import Derived.Test.YtfhlmijdokfdpaaEk
namespace Go.Proofs.Ytfhlmijdokfdpaa
open Go Go.RowKit

section
variable {E : Env} {k : List Fr} {all : List Oper} {f : Nat} {listed : Array Bool} {l : Sl} {L : List Ob}
/-- A state told over its own variables. -/
theorem any_cutX {V : Type} (C : V → Prop) (f' : Nat) (listed' : Array Bool) (l' : V → Sl) (L' : V → List Ob) (h2 : ∀ v, C v → Any E k all f' listed' (l' v) (L' v))
    (h1 : (∀ v, C v → Any E k all f' listed' (l' v) (L' v)) → Any E k all f listed l L) : Any E k all f listed l L := h1 h2
def chunk (cs : List (List Ob)) (is : List Nat) : List Ob := (is.map fun i => cs.getD i []).flatten
theorem chunk_perm (cs : List (List Ob)) (is : List Nat) (h : is.isPerm (List.range cs.length) = true) : (chunk cs is).Perm cs.flatten := by
  have h1 := (List.isPerm_iff.1 h).map fun i => cs.getD i []
  have h2 : (List.range cs.length).map (fun i => cs.getD i []) = cs := by
    apply List.ext_getElem?
    intro j
    rw [List.getElem?_map]
    by_cases hj : j < cs.length
    · rw [List.getElem?_range hj, List.getElem?_eq_getElem hj]; simp [hj]
    · rw [List.getElem?_eq_none (by simpa using hj), List.getElem?_eq_none (by omega)]; rfl
  rw [h2] at h1
  exact h1.flatten
/-- The blocks may stand in another order. -/
theorem any_weakP {f' : Nat} {listed' : Array Bool} {l' : Sl} {L' : List Ob} (h : Any E k all f' listed' l' L') (ts : List Nat) (cs : List (List Ob)) (is : List Nat) (hl : keepL l ts = some l') (hL : L = cs.flatten) (hL' : L' = chunk cs is) (hi : is.isPerm (List.range cs.length) = true) (hf : f = f') (hli : listed = listed') :
    Any E k all f listed l L := by
  subst hL hL' hf hli
  exact ⟨fun a w ha hs => h.out a w (ha.sub (keepL_mem hl)) (hs.perm (chunk_perm cs is hi).symm)⟩
end
end Go.Proofs.Ytfhlmijdokfdpaa
