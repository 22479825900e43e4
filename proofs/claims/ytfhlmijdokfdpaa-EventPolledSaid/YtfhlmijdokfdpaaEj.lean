/- The walker: elements of a run of one's own that are changed in place; pointers into it compared. -/
import Derived.Test.YtfhlmijdokfdpaaEi
import Derived.LaidEqlPtr
namespace Go.Proofs.Ytfhlmijdokfdpaa
open Go Go.RowKit

section
variable {α : Type} [Enc α] {l : List α} {i n cap f : Nat} {cs : Array Value} {x x' : α} {v : Value}
theorem OwnS.room (h : OwnS (Enc.k α) (l.flatMap Enc.enc) n cap cs) (hn : n = l.length) (hx : l[i]? = some x) (hf : f < Enc.k α) : 0 + i * Enc.k α + f < cs.size := by
  have hi : i < l.length := (List.getElem?_eq_some_iff.1 hx).1
  have a1 : (i + 1) * Enc.k α ≤ cap * Enc.k α := Nat.mul_le_mul_right _ (by have := h.le; omega)
  rw [Nat.add_mul, Nat.one_mul] at a1
  rw [h.csz]; omega
theorem OwnS.put (h : OwnS (Enc.k α) (l.flatMap Enc.enc) n cap cs) (hn : n = l.length) (hx : l[i]? = some x) (hf : f < Enc.k α) (he : Enc.enc x' = (Enc.enc x).set f v) :
    OwnS (Enc.k α) ((l.set i x').flatMap Enc.enc) n cap (cs.setIfInBounds (0 + i * Enc.k α + f) v) := by
  obtain ⟨hi, hxe⟩ := List.getElem?_eq_some_iff.1 hx
  have hroom := h.room hn hx hf
  have hsl : (l.set i x').length = n := by rw [List.length_set]; exact hn.symm
  have hl1 : (l.flatMap Enc.enc).length = n * Enc.k α := by rw [flat_len, hn]
  have hl2 : ((l.set i x').flatMap Enc.enc).length = n * Enc.k α := by rw [flat_len, hsl]
  have hcap : n * Enc.k α ≤ cap * Enc.k α := Nat.mul_le_mul_right _ h.le
  refine ⟨hl2, h.le, h.max, by rw [Array.size_setIfInBounds]; exact h.csz, ?_⟩
  apply List.ext_getElem?
  intro j
  rw [List.getElem?_take]
  by_cases hj : j < n * Enc.k α
  · rw [if_pos hj, Array.getElem?_toList, Array.getElem?_setIfInBounds]
    have hk : 0 < Enc.k α := by omega
    have hq : j / Enc.k α < n := (Nat.div_lt_iff_lt_mul hk).2 hj
    have hr : j % Enc.k α < Enc.k α := Nat.mod_lt _ hk
    have hjd : j = j / Enc.k α * Enc.k α + j % Enc.k α := by have := Nat.div_add_mod j (Enc.k α); rw [Nat.mul_comm] at this; omega
    have g1 := flat_get l (j / Enc.k α) (by omega) (j % Enc.k α) hr
    have g2 := flat_get (l.set i x') (j / Enc.k α) (by omega) (j % Enc.k α) hr
    rw [← hjd] at g1 g2
    rw [g2, List.getElem_set]
    by_cases hji : i = j / Enc.k α
    · rw [if_pos hji, he]
      by_cases hf2 : f = j % Enc.k α
      · rw [if_pos (by rw [hji, hf2]; omega), if_pos (by omega), List.getElem?_set, if_pos hf2, if_pos (by rw [Enc.len]; omega)]
      · rw [if_neg (by rw [hji]; omega), h.get j hj, g1, List.getElem?_set, if_neg hf2]
        subst hji; rw [hxe]
    · rw [if_neg hji, if_neg ?_, h.get j hj, g1]
      intro e
      have e' : i * Enc.k α + f = j := by omega
      apply hji
      rw [← e', Nat.mul_comm, Nat.mul_add_div hk, Nat.div_eq_of_lt hf]; rfl
  · rw [if_neg hj, List.getElem?_eq_none (by rw [hl2]; omega)]
theorem SlO.ofOwn {T : TypeId} {g : Nat} (h : OwnS (Enc.k α) (l.flatMap Enc.enc) n cap cs) (hn : n = l.length) : SlO T [bx g cs T] (some ⟨g, 0, none⟩) n cap l := .inr ⟨g, cs, rfl, rfl, hn, h⟩
omit [Enc α] in
theorem len_set {y : α} (hn : n = l.length) : n = (l.set i y).length := by rw [List.length_set]; exact hn
omit [Enc α] in
theorem get_set {y : α} (hx : l[i]? = some x) : (l.set i y)[i]? = some y := List.getElem?_set_self (List.getElem?_eq_some_iff.1 hx).1
omit [Enc α] in
theorem get_set_ne {y : α} {j : Nat} (h : ¬ i = j) (hx : l[j]? = some x) : (l.set i y)[j]? = some x := by rw [List.getElem?_set_ne h]; exact hx
end

section
variable {E : Env} {k : List Fr} {l : Sl} {L : List Ob} {all os : List Oper} {o : Oper} {i : Nat}
/-- Two pointers into one block of one's own. -/
theorem ops_eqp (b : Bool) (j : Nat) {T U te tp : TypeId} {x y : Operand} {g o1 o2 : Nat} {c : Array Value} {inf : TypeInfo} (ho : o.op = .binOp .eql T x y U) (hw : wantL all l o = some true) (hd : (okD E.n o.dst && knownO l o) = true)
    (hx : look l x = .pointer (some ⟨g, o1, none⟩)) (hy : look l y = .pointer (some ⟨g, o2, none⟩)) (hp : E.P.underlying T = some (.pointer te)) (hi : E.P.info? te = some inf) (hz : inf.size ≠ 0) (hgd : E.P.eqGuardType E.P.depth T = false) (hr : L[j]? = some (g, .cells c tp (0, 0)))
    (hb : o1 = o2 ↔ b = true) (h : Ops E k all os (i + 1) (putL o.dst (.bool b) l) L) : Ops E k all (o :: os) i l L := by
  refine ⟨fun a w ha hs => ?_⟩
  simp only [Bool.and_eq_true] at hd
  have hg := wantL_spec ha hw
  refine wpListIn_step fun K hK => ?_
  rw [if_pos hg]
  refine ⟨fun _ _ => trivial, ?_⟩
  rw [Oper.semAt_eq _ _ _ (fun c e => by rw [ho] at e; cases e), look_exec ha hd.2]
  have hh := hs.row j hr
  have e1 : (binOp .eql T (.pointer (some ⟨g, o1, none⟩)) (.pointer (some ⟨g, o2, none⟩))).run E.P w = .ok (.bool b) w := by
    by_cases e : o1 = o2
    · rw [hb.1 e]; subst e; exact run_eql_ptr_same w _ hp hi
    · have : b = false := by cases b <;> simp_all
      subst this
      exact run_eql_ptr_other w hp hi hz (fun q => e (by cases q; rfl)) hh hh
  have e2 : (eqGuard .eql T x y (.pointer (some ⟨g, o1, none⟩)) (.pointer (some ⟨g, o2, none⟩))).run E.P w = .ok () w := by
    unfold eqGuard
    simp [hgd]
  have e : (execOp (look l) o).run E.P w = .ok (.value (.bool b)) w := by
    unfold execOp
    simp only [ho, hx, hy, Sem.run_bind, e2, Result.andThen_ok, e1]
    rfl
  rw [e]
  exact hK _ _ (h.out _ _ (ha.put hd.1 _) hs)
end
end Go.Proofs.Ytfhlmijdokfdpaa
