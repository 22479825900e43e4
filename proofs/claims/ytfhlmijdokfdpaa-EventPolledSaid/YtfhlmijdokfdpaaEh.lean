/- The walker: what an insertion leaves in a row of cells; calls that the model answers itself. -/
import Derived.Test.YtfhlmijdokfdpaaEg
namespace Go.Proofs.Ytfhlmijdokfdpaa
open Go Go.RowKit

section
variable {α : Type} [Enc α] {l vl : List α} {i n m cap cap2 : Nat} {cs c2 : Array Value}
theorem flat_take : ∀ (l : List α) (i : Nat), (l.take i).flatMap Enc.enc = (l.flatMap Enc.enc).take (i * Enc.k α)
  | [], i => by simp
  | x :: l, 0 => by simp
  | x :: l, i + 1 => by
    have hx := Enc.len (α := α) x
    have e1 : (i + 1) * Enc.k α = i * Enc.k α + Enc.k α := by rw [Nat.add_mul]; omega
    have e2 : (Enc.enc x).take ((i + 1) * Enc.k α) = Enc.enc x := List.take_of_length_le (by omega)
    rw [List.take_succ_cons, List.flatMap_cons, List.flatMap_cons, flat_take l i, List.take_append, hx, e2]
    congr 2
    omega
theorem flat_drop : ∀ (l : List α) (i : Nat), (l.drop i).flatMap Enc.enc = (l.flatMap Enc.enc).drop (i * Enc.k α)
  | [], i => by simp
  | x :: l, 0 => by simp
  | x :: l, i + 1 => by
    have hx := Enc.len (α := α) x
    have e1 : (i + 1) * Enc.k α = i * Enc.k α + Enc.k α := by rw [Nat.add_mul]; omega
    have e2 : (Enc.enc x).drop ((i + 1) * Enc.k α) = [] := List.drop_eq_nil_of_le (by omega)
    rw [List.drop_succ_cons, List.flatMap_cons, flat_drop l i, List.drop_append, hx, e2, List.nil_append]
    congr 1
    omega
theorem ins_own (hn : n = l.length) (hm : m = vl.length) (hi : i ≤ n) (hsz : c2.size = cap * Enc.k α) (hle : n + m ≤ cap) (hmax : cap ≤ maxLen)
    (h1 : ∀ j, j < i * Enc.k α → c2[j]? = (l.flatMap Enc.enc)[j]?) (h2 : ∀ j, j < m * Enc.k α → c2[i * Enc.k α + j]? = (vl.flatMap Enc.enc)[j]?)
    (h3 : ∀ j, j < (n - i) * Enc.k α → c2[(i + m) * Enc.k α + j]? = (l.flatMap Enc.enc)[i * Enc.k α + j]?) : OwnS (Enc.k α) ((l.take i ++ vl ++ l.drop i).flatMap Enc.enc) (n + m) cap c2 := by
  have hlen : (l.take i ++ vl ++ l.drop i).length = n + m := by simp; omega
  refine ⟨by rw [flat_len, hlen], hle, hmax, hsz, ?_⟩
  have e1 : (l.take i ++ vl ++ l.drop i).flatMap Enc.enc = (l.flatMap Enc.enc).take (i * Enc.k α) ++ vl.flatMap Enc.enc ++ (l.flatMap Enc.enc).drop (i * Enc.k α) := by
    rw [List.flatMap_append, List.flatMap_append, flat_take, flat_drop]
  rw [e1]
  have lt1 : ((l.flatMap Enc.enc).take (i * Enc.k α)).length = i * Enc.k α := by
    rw [List.length_take, flat_len]
    have := Nat.mul_le_mul_right (Enc.k α) (show i ≤ l.length by omega)
    omega
  have lt2 : (vl.flatMap Enc.enc).length = m * Enc.k α := by rw [flat_len, hm]
  have lt3 : (l.flatMap Enc.enc).length = n * Enc.k α := by rw [flat_len, hn]
  have a1 : (n + m) * Enc.k α = n * Enc.k α + m * Enc.k α := Nat.add_mul ..
  have a2 : (i + m) * Enc.k α = i * Enc.k α + m * Enc.k α := Nat.add_mul ..
  have a3 : (n - i) * Enc.k α = n * Enc.k α - i * Enc.k α := Nat.sub_mul ..
  have a4 : i * Enc.k α ≤ n * Enc.k α := Nat.mul_le_mul_right _ hi
  apply List.ext_getElem?
  intro j
  rw [List.getElem?_take]
  by_cases hj : j < (n + m) * Enc.k α
  · rw [if_pos hj, Array.getElem?_toList]
    by_cases j1 : j < i * Enc.k α
    · rw [h1 j j1, List.append_assoc, List.getElem?_append_left (by omega), List.getElem?_take, if_pos j1]
    · by_cases j2 : j < i * Enc.k α + m * Enc.k α
      · have := h2 (j - i * Enc.k α) (by omega)
        rw [show i * Enc.k α + (j - i * Enc.k α) = j by omega] at this
        rw [this, List.getElem?_append_left (by rw [List.length_append]; omega), List.getElem?_append_right (by omega), lt1]
      · have := h3 (j - (i + m) * Enc.k α) (by omega)
        rw [show (i + m) * Enc.k α + (j - (i + m) * Enc.k α) = j by omega] at this
        rw [this, List.getElem?_append_right (by rw [List.length_append]; omega), List.getElem?_drop, List.length_append, lt1, lt2]
        congr 1
        omega
  · rw [if_neg hj, List.getElem?_eq_none (by simp only [List.length_append, List.length_drop, lt1, lt2, lt3]; omega)]
theorem flat_pre (h : OwnS (Enc.k α) (l.flatMap Enc.enc) n cap cs) (j : Nat) (hj : j < n * Enc.k α) : cs[j]? = (l.flatMap Enc.enc)[j]? := h.get j hj
/-- It grew. -/
theorem ins_grow (h : OwnS (Enc.k α) (l.flatMap Enc.enc) n cap cs) (hn : n = l.length) (hm : m = vl.length) (hi : i ≤ n) (hsz : c2.size = cap2 * Enc.k α) (hle : n + m ≤ cap2) (hmax : cap2 ≤ maxLen) (hpre : c2.toList.take (i * Enc.k α) = (cs.toList.drop 0).take (i * Enc.k α)) :
    OwnS (Enc.k α) ((l.take i ++ vl ++ l.drop i).flatMap Enc.enc) (n + m) cap2 (sets (sets c2 (0 + i * Enc.k α) (vl.flatMap Enc.enc)) (0 + (i + m) * Enc.k α) ((cs.toList.drop (0 + i * Enc.k α)).take ((n - i) * Enc.k α))) := by
  have lt2 : (vl.flatMap Enc.enc).length = m * Enc.k α := by rw [flat_len, hm]
  have a1 : (n + m) * Enc.k α = n * Enc.k α + m * Enc.k α := Nat.add_mul ..
  have a2 : (i + m) * Enc.k α = i * Enc.k α + m * Enc.k α := Nat.add_mul ..
  have a3 : (n - i) * Enc.k α = n * Enc.k α - i * Enc.k α := Nat.sub_mul ..
  have a4 : i * Enc.k α ≤ n * Enc.k α := Nat.mul_le_mul_right _ hi
  have a5 : (n + m) * Enc.k α ≤ cap2 * Enc.k α := Nat.mul_le_mul_right _ hle
  have a6 : n * Enc.k α ≤ cap * Enc.k α := Nat.mul_le_mul_right _ h.le
  have lt4 : ((cs.toList.drop (0 + i * Enc.k α)).take ((n - i) * Enc.k α)).length = (n - i) * Enc.k α := by rw [List.length_take, List.length_drop, Array.length_toList, h.csz]; omega
  have g1 := fun j => sets_get (vl.flatMap Enc.enc) c2 (0 + i * Enc.k α) j (by omega)
  have g2 := fun j => sets_get ((cs.toList.drop (0 + i * Enc.k α)).take ((n - i) * Enc.k α)) (sets c2 (0 + i * Enc.k α) (vl.flatMap Enc.enc)) (0 + (i + m) * Enc.k α) j (by rw [sets_size]; omega)
  refine ins_own hn hm hi (by rw [sets_size, sets_size]; exact hsz) hle hmax (fun j hj => ?_) (fun j hj => ?_) (fun j hj => ?_)
  · rw [g2, if_neg (by omega), g1, if_neg (by omega), ← h.get j (by omega)]
    have := congrArg (fun z => z[j]?) hpre
    simp only [List.getElem?_take, if_pos hj, List.drop_zero, Array.getElem?_toList] at this
    exact this
  · rw [g2, if_neg (by omega), g1, if_pos (by omega)]
    congr 1; omega
  · rw [g2, if_pos (by omega), List.getElem?_take, if_pos (by omega), List.getElem?_drop, Array.getElem?_toList, ← h.get _ (by omega)]
    congr 1; omega
/-- It had room. -/
theorem ins_room (h : OwnS (Enc.k α) (l.flatMap Enc.enc) n cap cs) (hn : n = l.length) (hm : m = vl.length) (hi : i ≤ n) (hle : n + m ≤ cap) :
    OwnS (Enc.k α) ((l.take i ++ vl ++ l.drop i).flatMap Enc.enc) (n + m) cap (sets (sets cs (0 + (i + m) * Enc.k α) ((cs.toList.drop (0 + i * Enc.k α)).take ((n - i) * Enc.k α))) (0 + i * Enc.k α) (vl.flatMap Enc.enc)) := by
  have lt2 : (vl.flatMap Enc.enc).length = m * Enc.k α := by rw [flat_len, hm]
  have a1 : (n + m) * Enc.k α = n * Enc.k α + m * Enc.k α := Nat.add_mul ..
  have a2 : (i + m) * Enc.k α = i * Enc.k α + m * Enc.k α := Nat.add_mul ..
  have a3 : (n - i) * Enc.k α = n * Enc.k α - i * Enc.k α := Nat.sub_mul ..
  have a4 : i * Enc.k α ≤ n * Enc.k α := Nat.mul_le_mul_right _ hi
  have a5 : (n + m) * Enc.k α ≤ cap * Enc.k α := Nat.mul_le_mul_right _ hle
  have hsz := h.csz
  have lt4 : ((cs.toList.drop (0 + i * Enc.k α)).take ((n - i) * Enc.k α)).length = (n - i) * Enc.k α := by rw [List.length_take, List.length_drop, Array.length_toList, h.csz]; omega
  have g1 := fun j => sets_get ((cs.toList.drop (0 + i * Enc.k α)).take ((n - i) * Enc.k α)) cs (0 + (i + m) * Enc.k α) j (by omega)
  have g2 := fun j => sets_get (vl.flatMap Enc.enc) (sets cs (0 + (i + m) * Enc.k α) ((cs.toList.drop (0 + i * Enc.k α)).take ((n - i) * Enc.k α))) (0 + i * Enc.k α) j (by rw [sets_size]; omega)
  refine ins_own hn hm hi (by rw [sets_size, sets_size]; exact hsz) hle h.max (fun j hj => ?_) (fun j hj => ?_) (fun j hj => ?_)
  · rw [g2, if_neg (by omega), g1, if_neg (by omega), h.get j (by omega)]
  · rw [g2, if_pos (by omega)]
    congr 1; omega
  · rw [g2, if_neg (by omega), g1, if_pos (by omega), List.getElem?_take, if_pos (by omega), List.getElem?_drop, Array.getElem?_toList, ← h.get _ (by omega)]
    congr 1; omega
end

section
variable {E : Env} {k : List Fr} {l : Sl} {L : List Ob} {all os : List Oper} {o : Oper} {i : Nat}
/-- A call that the model answers by itself. -/
theorem ops_ext (v : Value) {f : FuncId} {args : Array Value} (hw : wantL all l o = some true) (hd : okD E.n o.dst = true) (hc : calleeL l o = some (f, args)) (he : ∀ w, Hs E.w0 L w → (callFunc f args).run E.P w = .ok (.value v) w)
    (h : Ops E k all os (i + 1) (putL o.dst v l) L) : Ops E k all (o :: os) i l L := by
  refine ⟨fun a w ha hs => ?_⟩
  have hg := wantL_spec ha hw
  refine wpListIn_step fun K hK => ?_
  rw [if_pos hg]
  refine ⟨fun _ _ => trivial, ?_⟩
  have hr : (execOp a.eval o).run E.P w = .ok (.value v) w := by
    have hc' := hc
    unfold calleeL at hc'
    split at hc' <;> try cases hc'
    rename_i hk
    rw [look_exec ha hk]
    split at hc' <;> try cases hc'
    rename_i c hop
    split at hc' <;> try cases hc'
    rename_i x hx
    split at hc' <;> try cases hc'
    rename_i g first cap hv
    have := he w hs
    simp only [execOp, hop, resolve, hx, hv, Deferred.ofValue, Sem.run_bind, Sem.run_pure, Result.andThen_ok, invoke]
    simpa using this
  rw [Oper.semAt_eq _ _ _ (callee_known hc), hr]
  exact hK _ _ (h.out _ _ (ha.put hd v) hs)
end
end Go.Proofs.Ytfhlmijdokfdpaa
