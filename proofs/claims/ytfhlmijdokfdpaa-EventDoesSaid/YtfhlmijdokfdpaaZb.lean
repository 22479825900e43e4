/- Texts of this proof, one behind the other. -/
import Derived.Test.YtfhlmijdokfdpaaZa
import Derived.LaidEqlPtr
import Derived.RangeFuncRecord
import Derived.Test.YtfhlmijdokfdpaaProg
import Derived.Laws.StructEq
/-! The walker: what an insertion leaves in a row of cells; calls that the model answers itself. -/
namespace Go.Proofs.Ytfhlmijdokfdpaa
open Go Go.RowKit

section
variable {α : Type} [Enc α] {l vl : List α} {i n m cap cap2 : Nat} {cs c2 : Array Value}
theorem flat_take : ∀ (l : List α) (i : Nat), (l.take i).flatMap Enc.enc = (l.flatMap Enc.enc).take (i * Enc.k α)
  | [], i => by simp
  | x :: l, 0 => by simp
  | x :: l, i + 1 => by
    have hx := Enc.len (α := α) x
    have e1 : (i + 1) * Enc.k α = i * Enc.k α + Enc.k α := by rw [Nat.add_mul]; omega
    have e2 : (Enc.enc x).take ((i + 1) * Enc.k α) = Enc.enc x := List.take_of_length_le (by omega)
    rw [List.take_succ_cons, List.flatMap_cons, List.flatMap_cons, flat_take l i, List.take_append, hx, e2]
    congr 2
    omega
theorem flat_drop : ∀ (l : List α) (i : Nat), (l.drop i).flatMap Enc.enc = (l.flatMap Enc.enc).drop (i * Enc.k α)
  | [], i => by simp
  | x :: l, 0 => by simp
  | x :: l, i + 1 => by
    have hx := Enc.len (α := α) x
    have e1 : (i + 1) * Enc.k α = i * Enc.k α + Enc.k α := by rw [Nat.add_mul]; omega
    have e2 : (Enc.enc x).drop ((i + 1) * Enc.k α) = [] := List.drop_eq_nil_of_le (by omega)
    rw [List.drop_succ_cons, List.flatMap_cons, flat_drop l i, List.drop_append, hx, e2, List.nil_append]
    congr 1
    omega
theorem ins_own (hn : n = l.length) (hm : m = vl.length) (hi : i ≤ n) (hsz : c2.size = cap * Enc.k α) (hle : n + m ≤ cap) (hmax : cap ≤ maxLen)
    (h1 : ∀ j, j < i * Enc.k α → c2[j]? = (l.flatMap Enc.enc)[j]?) (h2 : ∀ j, j < m * Enc.k α → c2[i * Enc.k α + j]? = (vl.flatMap Enc.enc)[j]?)
    (h3 : ∀ j, j < (n - i) * Enc.k α → c2[(i + m) * Enc.k α + j]? = (l.flatMap Enc.enc)[i * Enc.k α + j]?) : OwnS (Enc.k α) ((l.take i ++ vl ++ l.drop i).flatMap Enc.enc) (n + m) cap c2 := by
  have hlen : (l.take i ++ vl ++ l.drop i).length = n + m := by simp; omega
  refine ⟨by rw [flat_len, hlen], hle, hmax, hsz, ?_⟩
  have e1 : (l.take i ++ vl ++ l.drop i).flatMap Enc.enc = (l.flatMap Enc.enc).take (i * Enc.k α) ++ vl.flatMap Enc.enc ++ (l.flatMap Enc.enc).drop (i * Enc.k α) := by
    rw [List.flatMap_append, List.flatMap_append, flat_take, flat_drop]
  rw [e1]
  have lt1 : ((l.flatMap Enc.enc).take (i * Enc.k α)).length = i * Enc.k α := by
    rw [List.length_take, flat_len]
    have := Nat.mul_le_mul_right (Enc.k α) (show i ≤ l.length by omega)
    omega
  have lt2 : (vl.flatMap Enc.enc).length = m * Enc.k α := by rw [flat_len, hm]
  have lt3 : (l.flatMap Enc.enc).length = n * Enc.k α := by rw [flat_len, hn]
  have a1 : (n + m) * Enc.k α = n * Enc.k α + m * Enc.k α := Nat.add_mul ..
  have a2 : (i + m) * Enc.k α = i * Enc.k α + m * Enc.k α := Nat.add_mul ..
  have a3 : (n - i) * Enc.k α = n * Enc.k α - i * Enc.k α := Nat.sub_mul ..
  have a4 : i * Enc.k α ≤ n * Enc.k α := Nat.mul_le_mul_right _ hi
  apply List.ext_getElem?
  intro j
  rw [List.getElem?_take]
  by_cases hj : j < (n + m) * Enc.k α
  · rw [if_pos hj, Array.getElem?_toList]
    by_cases j1 : j < i * Enc.k α
    · rw [h1 j j1, List.append_assoc, List.getElem?_append_left (by omega), List.getElem?_take, if_pos j1]
    · by_cases j2 : j < i * Enc.k α + m * Enc.k α
      · have := h2 (j - i * Enc.k α) (by omega)
        rw [show i * Enc.k α + (j - i * Enc.k α) = j by omega] at this
        rw [this, List.getElem?_append_left (by rw [List.length_append]; omega), List.getElem?_append_right (by omega), lt1]
      · have := h3 (j - (i + m) * Enc.k α) (by omega)
        rw [show (i + m) * Enc.k α + (j - (i + m) * Enc.k α) = j by omega] at this
        rw [this, List.getElem?_append_right (by rw [List.length_append]; omega), List.getElem?_drop, List.length_append, lt1, lt2]
        congr 1
        omega
  · rw [if_neg hj, List.getElem?_eq_none (by simp only [List.length_append, List.length_drop, lt1, lt2, lt3]; omega)]
theorem flat_pre (h : OwnS (Enc.k α) (l.flatMap Enc.enc) n cap cs) (j : Nat) (hj : j < n * Enc.k α) : cs[j]? = (l.flatMap Enc.enc)[j]? := h.get j hj
/-- It grew. -/
theorem ins_grow (h : OwnS (Enc.k α) (l.flatMap Enc.enc) n cap cs) (hn : n = l.length) (hm : m = vl.length) (hi : i ≤ n) (hsz : c2.size = cap2 * Enc.k α) (hle : n + m ≤ cap2) (hmax : cap2 ≤ maxLen) (hpre : c2.toList.take (i * Enc.k α) = (cs.toList.drop 0).take (i * Enc.k α)) :
    OwnS (Enc.k α) ((l.take i ++ vl ++ l.drop i).flatMap Enc.enc) (n + m) cap2 (sets (sets c2 (0 + i * Enc.k α) (vl.flatMap Enc.enc)) (0 + (i + m) * Enc.k α) ((cs.toList.drop (0 + i * Enc.k α)).take ((n - i) * Enc.k α))) := by
  have lt2 : (vl.flatMap Enc.enc).length = m * Enc.k α := by rw [flat_len, hm]
  have a1 : (n + m) * Enc.k α = n * Enc.k α + m * Enc.k α := Nat.add_mul ..
  have a2 : (i + m) * Enc.k α = i * Enc.k α + m * Enc.k α := Nat.add_mul ..
  have a3 : (n - i) * Enc.k α = n * Enc.k α - i * Enc.k α := Nat.sub_mul ..
  have a4 : i * Enc.k α ≤ n * Enc.k α := Nat.mul_le_mul_right _ hi
  have a5 : (n + m) * Enc.k α ≤ cap2 * Enc.k α := Nat.mul_le_mul_right _ hle
  have a6 : n * Enc.k α ≤ cap * Enc.k α := Nat.mul_le_mul_right _ h.le
  have lt4 : ((cs.toList.drop (0 + i * Enc.k α)).take ((n - i) * Enc.k α)).length = (n - i) * Enc.k α := by rw [List.length_take, List.length_drop, Array.length_toList, h.csz]; omega
  have g1 := fun j => sets_get (vl.flatMap Enc.enc) c2 (0 + i * Enc.k α) j (by omega)
  have g2 := fun j => sets_get ((cs.toList.drop (0 + i * Enc.k α)).take ((n - i) * Enc.k α)) (sets c2 (0 + i * Enc.k α) (vl.flatMap Enc.enc)) (0 + (i + m) * Enc.k α) j (by rw [sets_size]; omega)
  refine ins_own hn hm hi (by rw [sets_size, sets_size]; exact hsz) hle hmax (fun j hj => ?_) (fun j hj => ?_) (fun j hj => ?_)
  · rw [g2, if_neg (by omega), g1, if_neg (by omega), ← h.get j (by omega)]
    have := congrArg (fun z => z[j]?) hpre
    simp only [List.getElem?_take, if_pos hj, List.drop_zero, Array.getElem?_toList] at this
    exact this
  · rw [g2, if_neg (by omega), g1, if_pos (by omega)]
    congr 1; omega
  · rw [g2, if_pos (by omega), List.getElem?_take, if_pos (by omega), List.getElem?_drop, Array.getElem?_toList, ← h.get _ (by omega)]
    congr 1; omega
/-- It had room. -/
theorem ins_room (h : OwnS (Enc.k α) (l.flatMap Enc.enc) n cap cs) (hn : n = l.length) (hm : m = vl.length) (hi : i ≤ n) (hle : n + m ≤ cap) :
    OwnS (Enc.k α) ((l.take i ++ vl ++ l.drop i).flatMap Enc.enc) (n + m) cap (sets (sets cs (0 + (i + m) * Enc.k α) ((cs.toList.drop (0 + i * Enc.k α)).take ((n - i) * Enc.k α))) (0 + i * Enc.k α) (vl.flatMap Enc.enc)) := by
  have lt2 : (vl.flatMap Enc.enc).length = m * Enc.k α := by rw [flat_len, hm]
  have a1 : (n + m) * Enc.k α = n * Enc.k α + m * Enc.k α := Nat.add_mul ..
  have a2 : (i + m) * Enc.k α = i * Enc.k α + m * Enc.k α := Nat.add_mul ..
  have a3 : (n - i) * Enc.k α = n * Enc.k α - i * Enc.k α := Nat.sub_mul ..
  have a4 : i * Enc.k α ≤ n * Enc.k α := Nat.mul_le_mul_right _ hi
  have a5 : (n + m) * Enc.k α ≤ cap * Enc.k α := Nat.mul_le_mul_right _ hle
  have hsz := h.csz
  have lt4 : ((cs.toList.drop (0 + i * Enc.k α)).take ((n - i) * Enc.k α)).length = (n - i) * Enc.k α := by rw [List.length_take, List.length_drop, Array.length_toList, h.csz]; omega
  have g1 := fun j => sets_get ((cs.toList.drop (0 + i * Enc.k α)).take ((n - i) * Enc.k α)) cs (0 + (i + m) * Enc.k α) j (by omega)
  have g2 := fun j => sets_get (vl.flatMap Enc.enc) (sets cs (0 + (i + m) * Enc.k α) ((cs.toList.drop (0 + i * Enc.k α)).take ((n - i) * Enc.k α))) (0 + i * Enc.k α) j (by rw [sets_size]; omega)
  refine ins_own hn hm hi (by rw [sets_size, sets_size]; exact hsz) hle h.max (fun j hj => ?_) (fun j hj => ?_) (fun j hj => ?_)
  · rw [g2, if_neg (by omega), g1, if_neg (by omega), h.get j (by omega)]
  · rw [g2, if_pos (by omega)]
    congr 1; omega
  · rw [g2, if_neg (by omega), g1, if_pos (by omega), List.getElem?_take, if_pos (by omega), List.getElem?_drop, Array.getElem?_toList, ← h.get _ (by omega)]
    congr 1; omega
end

section
variable {E : Env} {k : List Fr} {l : Sl} {L : List Ob} {all os : List Oper} {o : Oper} {i : Nat}
/-- A call that the model answers by itself. -/
theorem ops_ext (v : Value) {f : FuncId} {args : Array Value} (hw : wantL all l o = some true) (hd : okD E.n o.dst = true) (hc : calleeL l o = some (f, args)) (he : ∀ w, Hs E.w0 L w → (callFunc f args).run E.P w = .ok (.value v) w)
    (h : Ops E k all os (i + 1) (putL o.dst v l) L) : Ops E k all (o :: os) i l L := by
  refine ⟨fun a w ha hs => ?_⟩
  have hg := wantL_spec ha hw
  refine wpListIn_step fun K hK => ?_
  rw [if_pos hg]
  refine ⟨fun _ _ => trivial, ?_⟩
  have hr : (execOp a.eval o).run E.P w = .ok (.value v) w := by
    have hc' := hc
    unfold calleeL at hc'
    split at hc' <;> try cases hc'
    rename_i hk
    rw [look_exec ha hk]
    split at hc' <;> try cases hc'
    rename_i c hop
    split at hc' <;> try cases hc'
    rename_i x hx
    split at hc' <;> try cases hc'
    rename_i g first cap hv
    have := he w hs
    simp only [execOp, hop, resolve, hx, hv, Deferred.ofValue, Sem.run_bind, Sem.run_pure, Result.andThen_ok, invoke]
    simpa using this
  rw [Oper.semAt_eq _ _ _ (callee_known hc), hr]
  exact hK _ _ (h.out _ _ (ha.put hd v) hs)
end
end Go.Proofs.Ytfhlmijdokfdpaa

/-! The walker: small laws for insertion and deletion. -/
namespace Go.Proofs.Ytfhlmijdokfdpaa
open Go Go.RowKit

section
variable {α : Type} [Enc α] {l : List α} {i n m cap : Nat} {cs : Array Value} {w w0 : World}
theorem flat_one (l : List α) : ∀ u ∈ l.flatMap Enc.enc, u.oneCell' = true := fun u hu => by
  obtain ⟨x, _, hx⟩ := List.mem_flatMap.1 hu
  exact Enc.one x u hx
theorem row_one (h : OwnS (Enc.k α) (l.flatMap Enc.enc) n cap cs) (hi : i ≤ n) : ∀ u ∈ (cs.toList.drop (0 + i * Enc.k α)).take ((n - i) * Enc.k α), u.oneCell' = true := fun u hu => by
  obtain ⟨j, hj⟩ := List.mem_iff_getElem?.1 hu
  have a3 : (n - i) * Enc.k α = n * Enc.k α - i * Enc.k α := Nat.sub_mul ..
  have a4 : i * Enc.k α ≤ n * Enc.k α := Nat.mul_le_mul_right _ hi
  rw [List.getElem?_take] at hj
  split at hj
  · rename_i hlt
    rw [List.getElem?_drop, Array.getElem?_toList, h.get _ (by omega)] at hj
    exact flat_one l u (List.mem_of_getElem? hj)
  · cases hj
theorem row_len (h : OwnS (Enc.k α) (l.flatMap Enc.enc) n cap cs) (hi : i ≤ n) : ((cs.toList.drop (0 + i * Enc.k α)).take ((n - i) * Enc.k α)).length = (n - i) * Enc.k α := by
  have a3 : (n - i) * Enc.k α = n * Enc.k α - i * Enc.k α := Nat.sub_mul ..
  have a4 : i * Enc.k α ≤ n * Enc.k α := Nat.mul_le_mul_right _ hi
  have a6 : n * Enc.k α ≤ cap * Enc.k α := Nat.mul_le_mul_right _ h.le
  rw [List.length_take, List.length_drop, Array.length_toList, h.csz]; omega
theorem row_room (h : OwnS (Enc.k α) (l.flatMap Enc.enc) n cap cs) (hi : i ≤ n) : 0 + i * Enc.k α + (n - i) * Enc.k α ≤ cs.size := by
  have a3 : (n - i) * Enc.k α = n * Enc.k α - i * Enc.k α := Nat.sub_mul ..
  have a4 : i * Enc.k α ≤ n * Enc.k α := Nat.mul_le_mul_right _ hi
  have a6 : n * Enc.k α ≤ cap * Enc.k α := Nat.mul_le_mul_right _ h.le
  rw [h.csz]; omega
theorem mul_room {a b c k sz : Nat} (h : a + b ≤ c) (hs : sz = c * k) : 0 + a * k + b * k ≤ sz := by
  rw [hs, Nat.zero_add, ← Nat.add_mul]
  exact Nat.mul_le_mul_right _ h
theorem copy_room (h : OwnS (Enc.k α) (l.flatMap Enc.enc) n cap cs) (hi : i ≤ n) {a c sz : Nat} (ha : a + (n - i) ≤ c) (hs : sz = c * Enc.k α) : 0 + a * Enc.k α + ((cs.toList.drop (0 + i * Enc.k α)).take ((n - i) * Enc.k α)).length ≤ sz := by
  rw [row_len h hi]
  exact mul_room ha hs
theorem olds_len {i cap k : Nat} {cs : Array Value} (h : cs.size = cap * k) (hi : i ≤ cap) : ((cs.toList.drop 0).take (i * k)).length = i * k := by
  have := Nat.mul_le_mul_right k hi
  rw [List.drop_zero, List.length_take, Array.length_toList, h]; omega
theorem apart_two {w0 w : World} {L : List Ob} (h : Hs w0 L w) {a b g1 g2 : Nat} {o1 o2 : Obj} (h1 : L[a]? = some (g1, o1)) (h2 : L[b]? = some (g2, o2)) (hne : a ≠ b) : g1 ≠ g2 := fun e => by
  have hn := h.apart
  obtain ⟨la, ea⟩ := List.getElem?_eq_some_iff.1 (show (L.map (·.1))[a]? = some g1 by simp [h1])
  obtain ⟨lb, eb⟩ := List.getElem?_eq_some_iff.1 (show (L.map (·.1))[b]? = some g2 by simp [h2])
  have hp := List.pairwise_iff_getElem.1 hn
  rcases Nat.lt_or_gt_of_ne hne with h3 | h3
  · exact hp a b la lb h3 (by rw [ea, eb, e])
  · exact hp b a lb la h3 (by rw [ea, eb, e])
/-- A slice expression's value where it only must be. -/
theorem slE_cut {P : Program} {T e : TypeId} {p : Option Addr} {k by_ lo : Nat} (hE : elemB P T e k by_ = true) (hlo : lo ≤ n) : SlRun P T (.slice p n cap) (some (.int .i64 (lo : Int))) none none (.slice (if cap = lo then p else p.map (·.add (lo * k))) (n - lo) (cap - lo)) := by
  obtain ⟨hu, i, z, hi, _, _, hk, _⟩ := elemB_spec hE
  subst hk
  intro w
  simp [Instr.sliceAt, Instr.slice, underlying, hu, Instr.sliceBounds, run_bound hlo, sizeOf, typeInfo, hi]
theorem SlO.parts {T : TypeId} {Y : List Ob} {p : Option Addr} (h : SlO T Y p n cap l) : (p = none ∧ Y = [] ∧ n = 0) ∨ ∃ g cs, p = some ⟨g, 0, none⟩ ∧ Y = [bx g cs T] ∧ OwnS (Enc.k α) (l.flatMap Enc.enc) n cap cs := by
  rcases h with ⟨a, b, c, d, e⟩ | ⟨g, cs, a, b, c, d⟩
  · subst a; subst b; exact .inl ⟨rfl, rfl, by first | assumption | omega⟩
  · exact .inr ⟨g, cs, by assumption, by assumption, by assumption⟩
theorem OwnS.rdx (h : OwnS (Enc.k α) (l.flatMap Enc.enc) n cap cs) (hn : n = l.length) {x : α} (hx : l[i]? = some x) : RdA cs (0 + i * Enc.k α) (Enc.enc x) := by
  obtain ⟨hi, e⟩ := List.getElem?_eq_some_iff.1 hx
  subst e
  rw [Nat.zero_add]
  exact h.rda hn i hi
/-- A slice's block is taken to the front, and put back. -/
theorem Hs.pull {a : Ob} {A Y R : List Ob} (h : Hs w0 (a :: (A ++ (Y ++ R))) w) : Hs w0 (a :: (Y ++ (A ++ R))) w :=
  h.perm (.cons _ (by rw [← List.append_assoc, ← List.append_assoc]; exact (List.perm_append_comm).append_right _))
theorem Hs.push {A Y R : List Ob} (h : Hs w0 (Y ++ (A ++ R)) w) : Hs w0 (A ++ (Y ++ R)) w :=
  h.perm (by rw [← List.append_assoc, ← List.append_assoc]; exact (List.perm_append_comm).append_right _)
end
end Go.Proofs.Ytfhlmijdokfdpaa

/-! The walker: elements of a run of one's own that are changed in place; pointers into it compared. -/
namespace Go.Proofs.Ytfhlmijdokfdpaa
open Go Go.RowKit

section
variable {α : Type} [Enc α] {l : List α} {i n cap f : Nat} {cs : Array Value} {x x' : α} {v : Value}
theorem OwnS.room (h : OwnS (Enc.k α) (l.flatMap Enc.enc) n cap cs) (hn : n = l.length) (hx : l[i]? = some x) (hf : f < Enc.k α) : 0 + i * Enc.k α + f < cs.size := by
  have hi : i < l.length := (List.getElem?_eq_some_iff.1 hx).1
  have a1 : (i + 1) * Enc.k α ≤ cap * Enc.k α := Nat.mul_le_mul_right _ (by have := h.le; omega)
  rw [Nat.add_mul, Nat.one_mul] at a1
  rw [h.csz]; omega
theorem OwnS.put (h : OwnS (Enc.k α) (l.flatMap Enc.enc) n cap cs) (hn : n = l.length) (hx : l[i]? = some x) (hf : f < Enc.k α) (he : Enc.enc x' = (Enc.enc x).set f v) :
    OwnS (Enc.k α) ((l.set i x').flatMap Enc.enc) n cap (cs.setIfInBounds (0 + i * Enc.k α + f) v) := by
  obtain ⟨hi, hxe⟩ := List.getElem?_eq_some_iff.1 hx
  have hroom := h.room hn hx hf
  have hsl : (l.set i x').length = n := by rw [List.length_set]; exact hn.symm
  have hl1 : (l.flatMap Enc.enc).length = n * Enc.k α := by rw [flat_len, hn]
  have hl2 : ((l.set i x').flatMap Enc.enc).length = n * Enc.k α := by rw [flat_len, hsl]
  have hcap : n * Enc.k α ≤ cap * Enc.k α := Nat.mul_le_mul_right _ h.le
  refine ⟨hl2, h.le, h.max, by rw [Array.size_setIfInBounds]; exact h.csz, ?_⟩
  apply List.ext_getElem?
  intro j
  rw [List.getElem?_take]
  by_cases hj : j < n * Enc.k α
  · rw [if_pos hj, Array.getElem?_toList, Array.getElem?_setIfInBounds]
    have hk : 0 < Enc.k α := by omega
    have hq : j / Enc.k α < n := (Nat.div_lt_iff_lt_mul hk).2 hj
    have hr : j % Enc.k α < Enc.k α := Nat.mod_lt _ hk
    have hjd : j = j / Enc.k α * Enc.k α + j % Enc.k α := by have := Nat.div_add_mod j (Enc.k α); rw [Nat.mul_comm] at this; omega
    have g1 := flat_get l (j / Enc.k α) (by omega) (j % Enc.k α) hr
    have g2 := flat_get (l.set i x') (j / Enc.k α) (by omega) (j % Enc.k α) hr
    rw [← hjd] at g1 g2
    rw [g2, List.getElem_set]
    by_cases hji : i = j / Enc.k α
    · rw [if_pos hji, he]
      by_cases hf2 : f = j % Enc.k α
      · rw [if_pos (by rw [hji, hf2]; omega), if_pos (by omega), List.getElem?_set, if_pos hf2, if_pos (by rw [Enc.len]; omega)]
      · rw [if_neg (by rw [hji]; omega), h.get j hj, g1, List.getElem?_set, if_neg hf2]
        subst hji; rw [hxe]
    · rw [if_neg hji, if_neg ?_, h.get j hj, g1]
      intro e
      have e' : i * Enc.k α + f = j := by omega
      apply hji
      rw [← e', Nat.mul_comm, Nat.mul_add_div hk, Nat.div_eq_of_lt hf]; rfl
  · rw [if_neg hj, List.getElem?_eq_none (by rw [hl2]; omega)]
theorem SlO.ofOwn {T : TypeId} {g : Nat} (h : OwnS (Enc.k α) (l.flatMap Enc.enc) n cap cs) (hn : n = l.length) : SlO T [bx g cs T] (some ⟨g, 0, none⟩) n cap l := .inr ⟨g, cs, rfl, rfl, hn, h⟩
omit [Enc α] in
theorem len_set {y : α} (hn : n = l.length) : n = (l.set i y).length := by rw [List.length_set]; exact hn
omit [Enc α] in
theorem get_set {y : α} (hx : l[i]? = some x) : (l.set i y)[i]? = some y := List.getElem?_set_self (List.getElem?_eq_some_iff.1 hx).1
omit [Enc α] in
theorem get_set_ne {y : α} {j : Nat} (h : ¬ i = j) (hx : l[j]? = some x) : (l.set i y)[j]? = some x := by rw [List.getElem?_set_ne h]; exact hx
end

section
variable {E : Env} {k : List Fr} {l : Sl} {L : List Ob} {all os : List Oper} {o : Oper} {i : Nat}
/-- Two pointers into one block of one's own. -/
theorem ops_eqp (b : Bool) (j : Nat) {T U te tp : TypeId} {x y : Operand} {g o1 o2 : Nat} {c : Array Value} {inf : TypeInfo} (ho : o.op = .binOp .eql T x y U) (hw : wantL all l o = some true) (hd : (okD E.n o.dst && knownO l o) = true)
    (hx : look l x = .pointer (some ⟨g, o1, none⟩)) (hy : look l y = .pointer (some ⟨g, o2, none⟩)) (hp : E.P.underlying T = some (.pointer te)) (hi : E.P.info? te = some inf) (hz : inf.size ≠ 0) (hgd : E.P.eqGuardType E.P.depth T = false) (hr : L[j]? = some (g, .cells c tp (0, 0)))
    (hb : o1 = o2 ↔ b = true) (h : Ops E k all os (i + 1) (putL o.dst (.bool b) l) L) : Ops E k all (o :: os) i l L := by
  refine ⟨fun a w ha hs => ?_⟩
  simp only [Bool.and_eq_true] at hd
  have hg := wantL_spec ha hw
  refine wpListIn_step fun K hK => ?_
  rw [if_pos hg]
  refine ⟨fun _ _ => trivial, ?_⟩
  rw [Oper.semAt_eq _ _ _ (fun c e => by rw [ho] at e; cases e), look_exec ha hd.2]
  have hh := hs.row j hr
  have e1 : (binOp .eql T (.pointer (some ⟨g, o1, none⟩)) (.pointer (some ⟨g, o2, none⟩))).run E.P w = .ok (.bool b) w := by
    by_cases e : o1 = o2
    · rw [hb.1 e]; subst e; exact run_eql_ptr_same w _ hp hi
    · have : b = false := by cases b <;> simp_all
      subst this
      exact run_eql_ptr_other w hp hi hz (fun q => e (by cases q; rfl)) hh hh
  have e2 : (eqGuard .eql T x y (.pointer (some ⟨g, o1, none⟩)) (.pointer (some ⟨g, o2, none⟩))).run E.P w = .ok () w := by
    unfold eqGuard
    simp [hgd]
  have e : (execOp (look l) o).run E.P w = .ok (.value (.bool b)) w := by
    unfold execOp
    simp only [ho, hx, hy, Sem.run_bind, e2, Result.andThen_ok, e1]
    rfl
  rw [e]
  exact hK _ _ (h.out _ _ (ha.put hd.1 _) hs)
end
end Go.Proofs.Ytfhlmijdokfdpaa

/-! The walker: a range over a function, walked in place: the function's own body, and at each call of yield the loop's body. -/
namespace Go.Proofs.Ytfhlmijdokfdpaa
open Go Go.RowKit

/-- A loop's record that is ready. -/
structure RecOk (n : Nat) (l : Sl) (ps : Array Tmp) (asg body : Code) (r : Loop) : Prop where
  state : r.state = .ready
  pending : r.pending = none
  params : r.params = ps
  assign : r.assign = asg
  body : r.body = body
  slots : SlR n [] l { tmps := r.tmps, defers := [] }
/-- yield's arguments in the loop's slots. -/
def setps : List (Tmp × Value) → Sl → Sl
  | [], l => l
  | (t, v) :: ps, l => setps ps (putL (some t) v l)
/-- Which loop a call of yield asks, with what. -/
def yieldL (l : Sl) (o : Oper) : Option (Nat × Array Value) :=
  if knownO l o then match o.op with
    | .call c => match c.callee with
      | .value x => match look l x with
        | .func (.yield y) first _ => some (y, first ++ c.args.map (look l))
        | _ => none
      | _ => none
    | _ => none
  else none
theorem turn_ob2 {g : Nat} {o o' : Obj} {w : World} (h : w.heap[g]? = some o) : Turn g o' w (w.putObj g o') :=
  ⟨World.putObj_heap_same (Array.getElem?_eq_some_iff.1 h).1, fun _ hk => World.putObj_heap_other hk, by simp [World.putObj], rfl, rfl, rfl⟩
theorem Hs.gone {w0 w : World} {L : List Ob} {g : Nat} {o o' : Obj} {i : Nat} (h : Hs w0 L w) (hi : L[i]? = some (g, o)) : Hs w0 (L.eraseIdx i) (w.putObj g o') :=
  (h.turn i hi (turn_ob2 (h.row i hi))).sub (by rw [← List.eraseIdx_set_eq (l := L) (i := i) (a := (g, o'))]; exact List.eraseIdx_sublist ..)
theorem setps_ok {n : Nat} : ∀ (ps : List (Tmp × Value)) (l : Sl) (t : Array Value), (ps.all fun p => Nat.blt p.1 n) = true → SlR n [] l { tmps := t, defers := [] } →
    SlR n [] (setps ps l) { tmps := ps.foldl (fun t (p, v) => t.setIfInBounds p v) t, defers := [] }
  | [], _, _, _, h => h
  | (p, v) :: ps, l, t, hp, h => by
    simp only [List.all_cons, Bool.and_eq_true] at hp
    exact setps_ok ps _ _ hp.2 (h.put (d := some p) hp.1 v)

section
variable {E : Env} {k : List Fr} {l : Sl} {L : List Ob} {all os : List Oper} {o : Oper} {i : Nat}
/-- The statement. -/
theorem at_range {P : Program} {D : List Deferred} {R : Exit → Act → World → Prop} {w0 : World} {n : Nat} {g : Operand} {ps : Array Tmp} {asg body : Code} {gf : FuncId} {lb : Array Value} {fn2 : Func} {c2 : Code} {n2 : Nat}
    (hg : (knownX l g, look l g) = (true, .func (.func gf) #[] lb)) (he : ∀ args w, (callFunc gf args).run P w = .ok (.enter gf args) w)
    (hf : P.funcs[gf]? = some fn2) (hb : fn2.body = some c2) (hn : fn2.ntmps = n2) (hs : Nat.ble (#[Value.func (.yield 0) #[] #[]] ++ lb).size n2 = true)
    (h : ∀ (γ : Nat → Nat) (r : Loop), RecOk n l ps asg body r →
      At ⟨P, none, [], bodyPost P fn2 (fun e w' => ∃ v L', e = .returned v ∧ Hs w0 L' w' ∧ ∃ i, L'[i]? = some (γ 1, .loop r) ∧ Done ⟨P, none, ⟨.collected (γ 0), #[]⟩ :: D, R, w0, n⟩ k l (L'.eraseIdx i)), w0, n2⟩ []
        c2 (argL (#[.func (.yield (γ 1)) #[] #[]] ++ lb)) ((γ 1, .loop r) :: (γ 0, .deferred (some [])) :: L)) : At ⟨P, none, D, R, w0, n⟩ k (.rangeFunc g ps asg body) l L := by
  obtain ⟨hg1, hg2⟩ := Prod.mk.inj hg
  refine ⟨fun a w ha hw => wpIn_rangeFunc fun fn hfn => ?_⟩
  have hgv : a.eval g = .func (.func gf) #[] lb := by rw [look_eval ha hg1, hg2]
  obtain ⟨r, hr⟩ : ∃ r : Loop, r = { state := .ready, pending := none, fn, tmps := a.tmps, params := ps, assign := asg, body := body, defers := w.heap.size } := ⟨_, rfl⟩
  have hs1 : Hs w0 ((w.heap.size + 1, .loop r) :: (w.heap.size, .deferred (some [])) :: L) ((w.alloc (.deferred (some []))).alloc (.loop r)) := by
    have := (hw.cons (.deferred (some []))).cons (.loop r)
    rwa [World.size_alloc] at this
  have hok : RecOk n l ps asg body r := by subst hr; exact ⟨rfl, rfl, rfl, rfl, rfl, ⟨ha.got, ha.size, rfl⟩⟩
  refine ⟨w.heap.size + 1, [{ target := .collected w.heap.size, args := #[] }], (w.alloc (.deferred (some []))).alloc (.loop r), { target := .fn (.func gf) lb, args := #[.func (.yield (w.heap.size + 1)) #[] #[]] }, (w.alloc (.deferred (some []))).alloc (.loop r), gf, #[.func (.yield (w.heap.size + 1)) #[] #[]] ++ lb, (w.alloc (.deferred (some []))).alloc (.loop r),
    by rw [hr]; exact run_enterLoop_outer _ _ _ _ _, ?_, fun f' hf' => trivial, ?_, fun e => (by cases e), ?_⟩
  · simp only [resolve, hgv]
    simp [go_sem]
  · simp [invoke, go_sem, he]
  · refine fen_calls ((enter hs1 hf hb hn (by simpa using hs) (h (fun i => w.heap.size + i) r hok)).mono ?_)
    rintro e w3 ⟨v, L', rfl, hs3, j, hj, hd⟩
    have hl := hs3.row j hj
    refine ⟨none, _, by have := run_endLoop (P := P) hl (by rw [hok.state]; simp); rw [hok.pending] at this; exact this, ?_⟩
    exact hd.out _ _ ⟨ha.got, ha.size, by simp [ha.defers]⟩ (hs3.gone hj)

/-- A call of yield: one round. -/
theorem ops_yield {P : Program} {D : List Deferred} {R : Exit → Act → World → Prop} {w0 : World} {n : Nat} {y : Nat} {args : Array Value} {r : Loop} {nc : Nat} {lc : Sl} {ps : Array Tmp} {asg body : Code}
    (hw : wantL all l o = some true) (hd : okD n o.dst = true) (hc : yieldL l o = some (y, args)) (j : Nat) (hj : L[j]? = some (y, .loop r)) (hr : RecOk nc lc ps asg body r) (hps : args.size = ps.size) (hpn : ((ps.zip args).toList.all fun p => Nat.blt p.1 nc) = true)
    (h : At ⟨P, some y, [], Exit.then (fun a w => ∃ L2 l2 j2, SlR nc [] l2 a ∧ Hs w0 L2 w ∧ L2[j2]? = some (y, .loop r) ∧
        At ⟨P, some y, [], fun e _ w => e = .normal ∧ ∃ L3 j3, Hs w0 L3 w ∧ L3[j3]? = some (y, .loop { r with state := .busy }) ∧ Ops ⟨P, none, D, R, w0, n⟩ k all os (i + 1) (putL o.dst (.bool true) l) (L3.set j3 (y, .loop r)), w0, nc⟩ [] body l2 (L2.set j2 (y, .loop { r with state := .busy })))
        (fun _ _ _ => False), w0, nc⟩ [] asg (setps (ps.zip args).toList lc) L) : Ops ⟨P, none, D, R, w0, n⟩ k all (o :: os) i l L := by
  refine ⟨fun a w ha hs => ?_⟩
  have hg := wantL_spec ha hw
  refine wpListIn_step fun K hK => ?_
  rw [if_pos hg]
  refine ⟨fun _ _ => trivial, ?_⟩
  have hl := hs.row j hj
  have hy := run_yield (P := P) (args := args) hl (by rw [hr.params]; exact hps)
  have hop : ∀ c, o.op ≠ .defer c := fun c e => by
    unfold yieldL at hc
    rw [e] at hc
    split at hc <;> cases hc
  have hrun : (execOp a.eval o).run P w = .ok (.round y r.fn ((r.params.zip args).foldl (fun tmps (t, a) => tmps.setIfInBounds t a) r.tmps) r.assign r.body) w := by
    have hc' := hc
    unfold yieldL at hc'
    split at hc' <;> try cases hc'
    rename_i hk
    rw [look_exec ha hk]
    split at hc' <;> try cases hc'
    rename_i c hop'
    split at hc' <;> try cases hc'
    rename_i x hx
    split at hc' <;> try cases hc'
    rename_i z first cap hv
    simp only [execOp, hop', resolve, hx, hv, Deferred.ofValue, Sem.run_bind, Sem.run_pure, Result.andThen_ok, invoke]
    exact hy
  rw [Oper.semAt_eq _ _ _ hop, hrun]
  refine ⟨fun e => (by cases e), ?_⟩
  rw [hr.assign, hr.body, hr.params]
  have hsl := setps_ok (ps.zip args).toList lc r.tmps hpn hr.slots
  refine roundIn_of_wpIn (F := fen none) trivial ?_
  rw [Array.foldl_toList] at hsl
  refine wpIn_mono (h.out _ _ hsl hs) ?_
  rintro e a1 w1 hq
  cases e with
  | normal =>
    obtain ⟨L2, l2, j2, ha2, hs2, hj2, hat⟩ := hq
    have hl2 := hs2.row j2 hj2
    refine ⟨_, run_beginRound hl2 hr.state, ?_⟩
    refine wpIn_mono (hat.out _ _ ha2 (hs2.turn j2 hj2 (turn_ob2 hl2))) ?_
    rintro e a3 w3 ⟨rfl, L3, j3, hs3, hj3, hops⟩
    have hl3 := hs3.row j3 hj3
    refine ⟨_, _, run_endRound none hl3, ?_⟩
    have hrr : ({ ({ r with state := .busy } : Loop) with state := .ready, pending := none } : Loop) = r := by
      have h1 := hr.state; have h2 := hr.pending
      cases r; simp only at h1 h2; subst h1; subst h2; rfl
    refine hK _ _ (hops.out _ _ (ha.put hd _) ?_)
    have := hs3.turn j3 hj3 (turn_ob2 (o' := .loop r) hl3)
    simpa [hrr] using this
  | _ => exact hq.elim
/-- The loop's variables are set: the body. -/
theorem done_asg {P : Program} {w0 : World} {y nc : Nat} {r : Loop} {body : Code} {R : Exit → Act → World → Prop} (j : Nat) (hj : L[j]? = some (y, .loop r)) (h : At ⟨P, some y, [], R, w0, nc⟩ [] body l (L.set j (y, .loop { r with state := .busy }))) :
    Done ⟨P, some y, [], Exit.then (fun a w => ∃ L2 l2 j2, SlR nc [] l2 a ∧ Hs w0 L2 w ∧ L2[j2]? = some (y, .loop r) ∧ At ⟨P, some y, [], R, w0, nc⟩ [] body l2 (L2.set j2 (y, .loop { r with state := .busy }))) (fun _ _ _ => False), w0, nc⟩ [] l L :=
  ⟨fun _ _ ha hw => ⟨L, l, j, ha, hw, hj, h⟩⟩
/-- A round is over. -/
theorem done_rnd {P : Program} {w0 : World} {y nc : Nat} {r : Loop} {K : List Ob → Prop} (j : Nat) (hj : L[j]? = some (y, .loop { r with state := .busy })) (h : K (L.set j (y, .loop r))) :
    Done ⟨P, some y, [], fun e _ w => e = .normal ∧ ∃ L3 j3, Hs w0 L3 w ∧ L3[j3]? = some (y, .loop { r with state := .busy }) ∧ K (L3.set j3 (y, .loop r)), w0, nc⟩ [] l L :=
  ⟨fun _ _ _ hw => ⟨rfl, L, j, hw, hj, h⟩⟩
/-- A call walked into, of a function that holds a range over a function. -/
theorem ops_inlineM {os : List Oper} {o : Oper} {i : Nat} {g : FuncId} {args : Array Value} {fn : Func} {c : Code} {n' : Nat} (hw : wantL all l o = some true) (hd : okD E.n o.dst = true) (hc : calleeL l o = some (g, args)) (he : ∀ args w, (callFunc g args).run E.P w = .ok (.enter g args) w)
    (hf : E.P.funcs[g]? = some fn) (hb : fn.body = some c) (hn : fn.ntmps = n') (hs : Nat.ble args.size n' = true)
    (h : At ⟨E.P, none, [], bodyPostM (fen none) 0 E.P fn (fun e w' => ∃ v L', e = .returned v ∧ Hs E.w0 L' w' ∧ Ops E k all os (i + 1) (putL o.dst v l) L'), E.w0, n'⟩ [] c (argL args) L) : Ops E k all (o :: os) i l L := by
  refine ⟨fun a w ha hs' => ?_⟩
  have hg := wantL_spec ha hw
  refine wpListIn_step fun K hK => ?_
  rw [if_pos hg]
  refine ⟨fun _ _ => trivial, ?_⟩
  rw [Oper.semAt_eq _ _ _ (callee_known hc), run_callee ha hc he w]
  refine ⟨fun h => (by cases h), fen_calls ?_⟩
  have hs2 : args.size ≤ n' := Nat.le_of_ble_eq_true hs
  have hC : CallsIn (fen none) 0 E.P g args w (fun e w' => ∃ v L', e = .returned v ∧ Hs E.w0 L' w' ∧ Ops E k all os (i + 1) (putL o.dst v l) L') := by
    refine callsIn_of_wp_marks hf hb trivial (h.out _ _ ⟨fun p hp => ?_, by simp [hn]; omega, rfl⟩ hs') rfl
    obtain ⟨x, hx, rfl⟩ := List.mem_map.1 hp
    have := List.mem_zipIdx_iff_getElem?.1 hx
    simp only at this ⊢
    have hlt : x.2 < args.size := by simpa using (List.getElem?_eq_some_iff.1 this).1
    rw [Array.getElem?_append_left hlt]
    simpa using this
  refine (callsIn_wide.1 hC).mono fun e w' ⟨v, L', he, hs2, hO⟩ => ?_
  subst he
  exact hK _ _ (hO.out _ _ (ha.put hd v) hs2)
/-- Its return. -/
theorem at_backM {P : Program} {fn : Func} {w0 : World} {n d : Nat} {X : Value → List Ob → Prop} (j : Nat) (hj : L[j]? = some (d, .deferred (some []))) (src : List Src) (v : Value) (rq : List Prop) (h1 : rSeen (retV P w0 fn.results.toList l (L.eraseIdx j) src) = some (v, rq))
    (h2 : rtL (retV P w0 fn.results.toList l (L.eraseIdx j) src) = rtR (retV P w0 fn.results.toList l (L.eraseIdx j) src)) (h3 : AllP rq)
    (h : X v (L.eraseIdx j)) : At ⟨P, none, [⟨.collected d, #[]⟩], bodyPostM (fen none) 0 P fn (fun e w' => ∃ v L', e = .returned v ∧ Hs w0 L' w' ∧ X v L'), w0, n⟩ k .ret l L := by
  refine at_ret fun a w ha hw => ?_
  have hk := hw.row j hj
  have hw' := hw.gone (o' := .deferred none) hj
  have hb := ret_post (k := k) (R := fun e w' => ∃ v L', e = .returned v ∧ Hs w0 L' w' ∧ X v L') src v rq h1 h2 h3 (fun w hw => ⟨v, _, rfl, hw, h⟩) { a with defers := [] } _ ⟨ha.got, ha.size, rfl⟩ hw'
  obtain ⟨_, u, hu, hR⟩ := hb
  show LeavesInM (fen none) 0 P fn a.tmps _ a.defers .returning w
  rw [ha.defers]
  exact ⟨by simp, .inl ⟨d, _, rfl, run_takeDeferred hk, u, hu, hR⟩⟩
end
end Go.Proofs.Ytfhlmijdokfdpaa

/-! The walker: drawn regions that act, told state by state (each set of done operations once). -/
namespace Go.Proofs.Ytfhlmijdokfdpaa
open Go Go.RowKit

section
variable {E : Env} {k : List Fr} {all : List Oper} {f : Nat} {listed : Array Bool} {l : Sl} {L : List Ob}
/-- A state told over its own variables. -/
theorem any_cutX {V : Type} (C : V → Prop) (f' : Nat) (listed' : Array Bool) (l' : V → Sl) (L' : V → List Ob) (h2 : ∀ v, C v → Any E k all f' listed' (l' v) (L' v))
    (h1 : (∀ v, C v → Any E k all f' listed' (l' v) (L' v)) → Any E k all f listed l L) : Any E k all f listed l L := h1 h2
def chunk (cs : List (List Ob)) (is : List Nat) : List Ob := (is.map fun i => cs.getD i []).flatten
theorem chunk_perm (cs : List (List Ob)) (is : List Nat) (h : is.isPerm (List.range cs.length) = true) : (chunk cs is).Perm cs.flatten := by
  have h1 := (List.isPerm_iff.1 h).map fun i => cs.getD i []
  have h2 : (List.range cs.length).map (fun i => cs.getD i []) = cs := by
    apply List.ext_getElem?
    intro j
    rw [List.getElem?_map]
    by_cases hj : j < cs.length
    · rw [List.getElem?_range hj, List.getElem?_eq_getElem hj]; simp [hj]
    · rw [List.getElem?_eq_none (by simpa using hj), List.getElem?_eq_none (by omega)]; rfl
  rw [h2] at h1
  exact h1.flatten
/-- The blocks may stand in another order. -/
theorem any_weakP {f' : Nat} {listed' : Array Bool} {l' : Sl} {L' : List Ob} (h : Any E k all f' listed' l' L') (ts : List Nat) (cs : List (List Ob)) (is : List Nat) (hl : keepL l ts = some l') (hL : L = cs.flatten) (hL' : L' = chunk cs is) (hi : is.isPerm (List.range cs.length) = true) (hf : f = f') (hli : listed = listed') :
    Any E k all f listed l L := by
  subst hL hL' hf hli
  exact ⟨fun a w ha hs => h.out a w (ha.sub (keepL_mem hl)) (hs.perm (chunk_perm cs is hi).symm)⟩
end
end Go.Proofs.Ytfhlmijdokfdpaa

/-! The walker: blocks told in another order, some of them left out. -/
namespace Go.Proofs.Ytfhlmijdokfdpaa
open Go Go.RowKit

theorem Hs.pick {w0 w : World} (cs : List (List Ob)) (is rest : List Nat) (hi : (is ++ rest).isPerm (List.range cs.length) = true) (h : Hs w0 cs.flatten w) : Hs w0 (chunk cs is) w := by
  have h1 := h.perm (chunk_perm cs (is ++ rest) hi).symm
  have e : chunk cs (is ++ rest) = chunk cs is ++ chunk cs rest := by simp [chunk]
  rw [e] at h1
  exact h1.sub (List.sublist_append_left _ _)
section
variable {E : Env} {k : List Fr} {l : Sl} {L L' : List Ob} {all os : List Oper} {i : Nat}
/-- A call that answers with new blocks Y beside those that stand. -/
theorem ops_callN {o : Oper} {f : FuncId} {args : Array Value} (m : Nat) (Post : Value → List Ob → Prop) (hw : wantL all l o = some true) (hd : okD E.n o.dst = true) (hc : calleeL l o = some (f, args)) (he : ∀ args w, (callFunc f args).run E.P w = .ok (.enter f args) w)
    (hC : ∀ w, Hs E.w0 L w → Calls E.P f args w fun e w' => ∃ v Y, e = .returned v ∧ Post v Y ∧ Below w.heap.size w w' ∧ Hs w Y w') (h : ∀ v Y, Post v Y → Ops E k all os (i + 1) (putL o.dst v l) (L.take m ++ (Y ++ L.drop m))) : Ops E k all (o :: os) i l L :=
  ops_call (fun v L' => ∃ Y, Post v Y ∧ L' = L.take m ++ (Y ++ L.drop m)) hw hd hc he
    (fun w hw => (hC w hw).mono fun e w' ⟨v, Y, h1, h2, h3, h4⟩ => ⟨v, _, h1, ⟨Y, h2, rfl⟩, hw.join h3 h4 m⟩) (fun v L' ⟨Y, h1, h2⟩ => by subst h2; exact h v Y h1)
theorem At.pick {c : Code} (cs : List (List Ob)) (is rest : List Nat) (L' : List Ob) (hi : (is ++ rest).isPerm (List.range cs.length) = true) (hL : L = cs.flatten) (hL' : L' = chunk cs is) (h : At E k c l L') : At E k c l L :=
  ⟨fun a w ha hs => h.out a w ha (by rw [hL']; exact Hs.pick cs is rest hi (by rw [← hL]; exact hs))⟩
theorem Ops.pick (cs : List (List Ob)) (is rest : List Nat) (L' : List Ob) (hi : (is ++ rest).isPerm (List.range cs.length) = true) (hL : L = cs.flatten) (hL' : L' = chunk cs is) (h : Ops E k all os i l L') : Ops E k all os i l L :=
  ⟨fun a w ha hs => h.out a w ha (by rw [hL']; exact Hs.pick cs is rest hi (by rw [← hL]; exact hs))⟩
theorem Done.pick (cs : List (List Ob)) (is rest : List Nat) (L' : List Ob) (hi : (is ++ rest).isPerm (List.range cs.length) = true) (hL : L = cs.flatten) (hL' : L' = chunk cs is) (h : Done E k l L') : Done E k l L :=
  ⟨fun a w ha hs => h.out a w ha (by rw [hL']; exact Hs.pick cs is rest hi (by rw [← hL]; exact hs))⟩
end
end Go.Proofs.Ytfhlmijdokfdpaa

/-! The walker's rules once more, under short names: what the kernel reckons is left to it. -/
namespace Go.Proofs.Ytfhlmijdokfdpaa
open Go Go.RowKit

section
variable {E : Env} {k : List Fr} {l : Sl} {L : List Ob} {all os : List Oper} {i : Nat} {o : Oper} {f : FuncId} {args : Array Value}
theorem ds_ {c : Code} (h : At E k c l L) : Done E (.seq c :: k) l L := done_seq h
theorem sq_ {c d : Code} (h : At E (.seq d :: k) c l L) : At E k (.seq c d) l L := at_seq h
theorem on_ (h : Done E k l L) : Ops E k all [] i l L := ops_nil h
theorem ao_ {id : Nat} (h : Ops E k all all 0 l L) : At E k (.region id all.toArray false) l L := at_ops h
theorem t_ {c : Operand} {x y : Code} (h : At E k x l L) (hk : (knownX l c, look l c) = (true, .bool true) := by kernel_rfl) : At E k (.cond c x y) l L := at_true hk h
theorem f_ {c : Operand} {x y : Code} (h : At E k y l L) (hk : (knownX l c, look l c) = (true, .bool false) := by kernel_rfl) : At E k (.cond c x y) l L := at_false hk h
theorem qo (m : Nat) (hs : List (Nat × Hint)) (ts : List Nat) (ch : Sl) (rq : List Prop) (h3 : AllP rq) (h4 : Ops E k all (os.drop m) (i + m) (ch ++ restL l ts) L)
    (h : ∀ γ, ev2 (ch.map (·.1) ++ ts) (evOps false E.P E.w0 γ E.n all hs i (os.take m) ⟨l, L, 0⟩) = (some (ch ++ restL l ts, L, rq), trR (evOps false E.P E.w0 γ E.n all hs i (os.take m) ⟨l, L, 0⟩)) := by intro _; kernel_rfl) : Ops E k all os i l L := oq m hs ts ch rq h h3 h4
theorem qo0 (m : Nat) (hs : List (Nat × Hint)) (ts : List Nat) (ch : Sl) (h4 : Ops E k all (os.drop m) (i + m) (ch ++ restL l ts) L)
    (h : ∀ γ, ev2 (ch.map (·.1) ++ ts) (evOps false E.P E.w0 γ E.n all hs i (os.take m) ⟨l, L, 0⟩) = (some (ch ++ restL l ts, L, []), trR (evOps false E.P E.w0 γ E.n all hs i (os.take m) ⟨l, L, 0⟩)) := by intro _; kernel_rfl) : Ops E k all os i l L := oq m hs ts ch [] h al0 h4
theorem mo (m : Nat) (hs : List (Nat × Hint)) (ts : List Nat) (ch : (Nat → Nat) → Sl) (F : (Nat → Nat) → List Ob → List Ob) (rq : (Nat → Nat) → List Prop) (h3 : ∀ γ, AllP (rq γ)) (h4 : ∀ γ, Ops E k all (os.drop m) (i + m) (ch γ ++ restL l ts) (F γ L))
    (h : ∀ γ, ev2 ((ch γ).map (·.1) ++ ts) (evOps false E.P E.w0 γ E.n all hs i (os.take m) ⟨l, L, 0⟩) = (some (ch γ ++ restL l ts, F γ L, rq γ), trR (evOps false E.P E.w0 γ E.n all hs i (os.take m) ⟨l, L, 0⟩)) := by intro _; kernel_rfl) : Ops E k all os i l L := om m hs ts ch F rq h h3 h4
theorem mo0 (m : Nat) (hs : List (Nat × Hint)) (ts : List Nat) (ch : (Nat → Nat) → Sl) (F : (Nat → Nat) → List Ob → List Ob) (h4 : ∀ γ, Ops E k all (os.drop m) (i + m) (ch γ ++ restL l ts) (F γ L))
    (h : ∀ γ, ev2 ((ch γ).map (·.1) ++ ts) (evOps false E.P E.w0 γ E.n all hs i (os.take m) ⟨l, L, 0⟩) = (some (ch γ ++ restL l ts, F γ L, []), trR (evOps false E.P E.w0 γ E.n all hs i (os.take m) ⟨l, L, 0⟩)) := by intro _; kernel_rfl) : Ops E k all os i l L := om m hs ts ch F (fun _ => []) h (fun _ => al0) h4
theorem ma {id : Nat} (hs : List (Nat × Hint)) (ts : List Nat) (ch : (Nat → Nat) → Sl) (F : (Nat → Nat) → List Ob → List Ob) (rq : (Nat → Nat) → List Prop) (h3 : ∀ γ, AllP (rq γ)) (h4 : ∀ γ, Done E k (ch γ ++ restL l ts) (F γ L))
    (h : ∀ γ, ev2 ((ch γ).map (·.1) ++ ts) (evOps false E.P E.w0 γ E.n all hs 0 all ⟨l, L, 0⟩) = (some (ch γ ++ restL l ts, F γ L, rq γ), trR (evOps false E.P E.w0 γ E.n all hs 0 all ⟨l, L, 0⟩)) := by intro _; kernel_rfl) : At E k (.region id all.toArray false) l L := am hs ts ch F rq h h3 h4
theorem ma0 {id : Nat} (hs : List (Nat × Hint)) (ts : List Nat) (ch : (Nat → Nat) → Sl) (F : (Nat → Nat) → List Ob → List Ob) (h4 : ∀ γ, Done E k (ch γ ++ restL l ts) (F γ L))
    (h : ∀ γ, ev2 ((ch γ).map (·.1) ++ ts) (evOps false E.P E.w0 γ E.n all hs 0 all ⟨l, L, 0⟩) = (some (ch γ ++ restL l ts, F γ L, []), trR (evOps false E.P E.w0 γ E.n all hs 0 all ⟨l, L, 0⟩)) := by intro _; kernel_rfl) : At E k (.region id all.toArray false) l L := am hs ts ch F (fun _ => []) h (fun _ => al0) h4
theorem qa {id : Nat} (hs : List (Nat × Hint)) (ts : List Nat) (ch : Sl) (rq : List Prop) (h3 : AllP rq) (h4 : Done E k (ch ++ restL l ts) L)
    (h : ∀ γ, ev2 (ch.map (·.1) ++ ts) (evOps false E.P E.w0 γ E.n all hs 0 all ⟨l, L, 0⟩) = (some (ch ++ restL l ts, L, rq), trR (evOps false E.P E.w0 γ E.n all hs 0 all ⟨l, L, 0⟩)) := by intro _; kernel_rfl) : At E k (.region id all.toArray false) l L := aq hs ts ch rq h h3 h4
theorem qa0 {id : Nat} (hs : List (Nat × Hint)) (ts : List Nat) (ch : Sl) (h4 : Done E k (ch ++ restL l ts) L)
    (h : ∀ γ, ev2 (ch.map (·.1) ++ ts) (evOps false E.P E.w0 γ E.n all hs 0 all ⟨l, L, 0⟩) = (some (ch ++ restL l ts, L, []), trR (evOps false E.P E.w0 γ E.n all hs 0 all ⟨l, L, 0⟩)) := by intro _; kernel_rfl) : At E k (.region id all.toArray false) l L := aq hs ts ch [] h al0 h4
theorem cD (v : Value) (he : ∀ args w, (callFunc f args).run E.P w = .ok (.enter f args) w)
    (hC : ∀ w, Hs E.w0 L w → Calls E.P f args w fun e w' => e = .returned v ∧ Below w.heap.size w w') (h : Ops E k all os (i + 1) (putL o.dst v l) L) (hw : wantL all l o = some true := by kernel_rfl) (hd : okD E.n o.dst = true := by kernel_rfl) (hc : calleeL l o = some (f, args) := by kernel_rfl) : Ops E k all (o :: os) i l L := ops_callD v hw hd hc he hC h
theorem cK (v : Value) (he : ∀ args w, (callFunc f args).run E.P w = .ok (.enter f args) w)
    (hC : ∀ w, Hs E.w0 L w → Calls E.P f args w fun e w' => e = .returned v ∧ Below w.heap.size w w') (h : Calm E k all os (i + 1) (putL o.dst v l) L) (hw : wantL all l o = some true := by kernel_rfl) (hd : okD E.n o.dst = true := by kernel_rfl) (hc : calleeL l o = some (f, args) := by kernel_rfl) : Calm E k all (o :: os) i l L := calm_callD v hw hd hc he hC h
theorem cP (Post : Value → List Ob → Prop) (he : ∀ args w, (callFunc f args).run E.P w = .ok (.enter f args) w)
    (hC : ∀ w, Hs E.w0 L w → Calls E.P f args w fun e w' => ∃ v L', e = .returned v ∧ Post v L' ∧ Hs E.w0 L' w') (h : ∀ v L', Post v L' → Ops E k all os (i + 1) (putL o.dst v l) L') (hw : wantL all l o = some true := by kernel_rfl) (hd : okD E.n o.dst = true := by kernel_rfl) (hc : calleeL l o = some (f, args) := by kernel_rfl) : Ops E k all (o :: os) i l L := ops_call Post hw hd hc he hC h
theorem cN (m : Nat) (Post : Value → List Ob → Prop) (he : ∀ args w, (callFunc f args).run E.P w = .ok (.enter f args) w)
    (hC : ∀ w, Hs E.w0 L w → Calls E.P f args w fun e w' => ∃ v Y, e = .returned v ∧ Post v Y ∧ Below w.heap.size w w' ∧ Hs w Y w') (h : ∀ v Y, Post v Y → Ops E k all os (i + 1) (putL o.dst v l) (L.take m ++ (Y ++ L.drop m))) (hw : wantL all l o = some true := by kernel_rfl) (hd : okD E.n o.dst = true := by kernel_rfl) (hc : calleeL l o = some (f, args) := by kernel_rfl) : Ops E k all (o :: os) i l L := ops_callN m Post hw hd hc he hC h
theorem dr {α : Type} {S : α → Sl} {M : α → List Ob} {I : α → Prop} {μ : α → Nat} {x : α} (ts : List Nat) (y : α) (hI : I y) (hl : keepL l ts = some (S y) := by kernel_rfl) (hL : L = M y := by rfl) (hμ : μ y < μ x := by first | omega | (simp only; omega)) : Done E (.loop (Again E S M I μ x) :: k) l L := done_round ts y hl hL hI hμ
theorem rt {P : Program} {fn : Func} {R : Ending → World → Prop} {w0 : World} {n : Nat} (src : List Src) (v : Value) (h : ∀ w, Hs w0 L w → R (.returned v) w) (h1 : rSeen (retV P w0 fn.results.toList l L src) = some (v, []) := by kernel_rfl) (h2 : rtL (retV P w0 fn.results.toList l L src) = rtR (retV P w0 fn.results.toList l L src) := by kernel_rfl) : At ⟨P, none, [], bodyPost P fn R, w0, n⟩ k .ret l L := at_return src v [] h1 h2 al0 h
theorem bk {P : Program} {fn : Func} {w0 : World} {n : Nat} {X : Value → List Ob → Prop} (src : List Src) (v : Value) (h : X v L) (h1 : rSeen (retV P w0 fn.results.toList l L src) = some (v, []) := by kernel_rfl) (h2 : rtL (retV P w0 fn.results.toList l L src) = rtR (retV P w0 fn.results.toList l L src) := by kernel_rfl) : At ⟨P, none, [], bodyPost P fn (fun e w' => ∃ v L', e = .returned v ∧ Hs w0 L' w' ∧ X v L'), w0, n⟩ k .ret l L := at_back src v [] h1 h2 al0 h
variable {listed : Array Bool} {m : Nat}
theorem od_ {j : Nat} (h : Any E k all m (listed.setIfInBounds i true) l L) : Ops E (.loop (fun a w => wpAnyIn (fen E.rd) 0 E.P .any all.toArray (postF E.rd E.P E.R k) m (listed.setIfInBounds i true) a w) :: k) all [] j l L := ops_nil (done_any h)
theorem a1 (i : Nat) (ho : all[i]? = some o) (h : Ops E (.loop (fun a w => wpAnyIn (fen E.rd) 0 E.P .any all.toArray (postF E.rd E.P E.R k) m (listed.setIfInBounds i true) a w) :: k) all [o] i l L) (hr : Region.ready .any all.toArray listed = [i] := by kernel_rfl) : Any E k all (m + 1) listed l L := any_one i o hr ho h
theorem wk {f' : Nat} {listed' : Array Bool} {l' : Sl} {L' : List Ob} (h : Any E k all f' listed' l' L') (ts : List Nat) (cs : List (List Ob)) (is : List Nat) (hL : L = cs.flatten) (hL' : L' = chunk cs is) (hl : keepL l ts = some l' := by kernel_rfl) (hi : is.isPerm (List.range cs.length) = true := by kernel_rfl) (hf : m = f' := by rfl) (hli : listed = listed' := by rfl) :
    Any E k all m listed l L := any_weakP h ts cs is hl hL hL' hi hf hli
theorem tk {P : Program} {fn : Func} {R : Ending → World → Prop} {w0 : World} {n : Nat} (is : List Nat) (hs : List (Nat × Hint)) (ts : List Nat) (ch : Sl) (rq : List Prop) (li : Array Bool) (h3 : AllP rq) (h4 : Any ⟨P, none, [], bodyPost P fn R, w0, n⟩ k all m li (ch ++ restL l ts) L) (hsel : Region.noSelect all.toArray = true := by kernel_rfl)
    (h : (evTs P n all hs is listed l).map (fun r => (r.1, keepL r.2.1 (ch.map (·.1) ++ ts), r.2.2)) = some (li, some (ch ++ restL l ts), rq) := by kernel_rfl) : Any ⟨P, none, [], bodyPost P fn R, w0, n⟩ k all (m + is.length) listed l L := any_tk is hs ts ch rq li hsel h h3 h4
end
end Go.Proofs.Ytfhlmijdokfdpaa

/-! Ports: what they are, and the plain laws on them: no program in sight. -/
namespace Go.Proofs.Ytfhlmijdokfdpaa
open Go Go.RowKit


/-- A port. -/
structure Port where
  num : Int
  vcpu : Int
  peer : Int
  pending : Bool
  masked : Bool
deriving DecidableEq
def Port.enc (x : Port) : List Value := [.int .i64 x.num, .int .i64 x.vcpu, .int .i64 x.peer, .bool x.pending, .bool x.masked]
abbrev Port.val (x : Port) : Value := .agg #[.int .i64 x.num, .int .i64 x.vcpu, .int .i64 x.peer, .bool x.pending, .bool x.masked]
/-- May this be a virtual CPU's number? -/
def vcpuB (n : Int) : Bool := decide (1 ≤ n) && decide (n ≤ 16)
theorem Port.len (x : Port) : x.enc.length = 5 := rfl
/-- Ascending numbers. -/
def Asc (l : List Port) : Prop := ∀ (i j : Nat) (x y : Port), i < j → l[i]? = some x → l[j]? = some y → x.num < y.num
def posB (l : List Port) (k : Int) : Nat := (l.takeWhile fun x => decide (x.num < k)).length
def hasB (l : List Port) (k : Int) : Bool := l.any fun x => decide (x.num = k)
def BsI (l : List Port) (k : Int) (lo hi : Nat) : Prop := (∀ (t : Nat) (x : Port), t < lo → l[t]? = some x → x.num < k) ∧ (∀ (t : Nat) (x : Port), hi ≤ t → l[t]? = some x → k ≤ x.num)
section
variable {l : List Port} {k : Int} {lo hi m n : Nat} {x : Port}
theorem bs_start (hn : l.length = n) : BsI l k 0 n := ⟨fun t x h => by omega, fun t x h e => by rw [List.getElem?_eq_none (by omega)] at e; cases e⟩
theorem bs_low (h : BsI l k lo hi) (ha : Asc l) (hx : l[m]? = some x) (hk : x.num < k) : BsI l k (m + 1) hi :=
  ⟨fun t y ht e => by
    by_cases htm : t = m
    · subst htm; rw [hx] at e; cases e; exact hk
    · have := ha t m y x (by omega) e hx; omega, h.2⟩
theorem bs_high (h : BsI l k lo hi) (ha : Asc l) (hx : l[m]? = some x) (hk : k ≤ x.num) : BsI l k lo m :=
  ⟨h.1, fun t y ht e => by
    by_cases htm : t = m
    · subst htm; rw [hx] at e; cases e; exact hk
    · have := ha m t x y (by omega) hx e; omega⟩
theorem take_len {p : Port → Bool} : ∀ (l : List Port) (i : Nat), i ≤ l.length → (∀ t x, t < i → l[t]? = some x → p x = true) → (∀ x, l[i]? = some x → p x = false) → (l.takeWhile p).length = i
  | [], i, h, _, _ => by simp at h; simp [h]
  | a :: l, 0, _, _, h2 => by rw [List.takeWhile_cons, h2 a rfl]; rfl
  | a :: l, i + 1, h, h1, h2 => by
    rw [List.takeWhile_cons, h1 0 a (Nat.succ_pos _) rfl]
    simp only [if_true, List.length_cons]
    rw [take_len l i (by simpa using h) (fun t x ht e => h1 (t + 1) x (by omega) (by simpa using e)) (fun x e => h2 x (by simpa using e))]
theorem bs_end (h : BsI l k hi hi) (hl : hi ≤ l.length) : posB l k = hi :=
  take_len l hi hl (fun t x ht e => decide_eq_true (h.1 t x ht e)) (fun x e => decide_eq_false (by have := h.2 hi x (Nat.le_refl _) e; omega))
theorem bs_found (hx : l[m]? = some x) (hk : x.num = k) : true = hasB l k := by
  unfold hasB
  exact (List.any_eq_true.2 ⟨x, List.mem_of_getElem? hx, decide_eq_true hk⟩).symm
theorem bs_none (h : BsI l k hi hi) (hl : l.length ≤ hi) : false = hasB l k := by
  unfold hasB
  refine (List.any_eq_false.2 fun y hy => ?_).symm
  obtain ⟨t, ht⟩ := List.mem_iff_getElem?.1 hy
  have := h.1 t y (by have := (List.getElem?_eq_some_iff.1 ht).1; omega) ht
  simp; omega
theorem bs_other (h : BsI l k hi hi) (ha : Asc l) (hx : l[hi]? = some x) (hk : ¬ x.num = k) : false = hasB l k := by
  unfold hasB
  refine (List.any_eq_false.2 fun y hy => ?_).symm
  obtain ⟨t, ht⟩ := List.mem_iff_getElem?.1 hy
  have hge := h.2 hi x (Nat.le_refl _) hx
  by_cases h1 : t < hi
  · have := h.1 t y h1 ht; simp; omega
  · by_cases h2 : t = hi
    · subst h2; rw [hx] at ht; cases ht; simpa using hk
    · have := ha hi t x y (by omega) hx ht; simp; omega
end



def risB : Int → List Port → Bool
  | _, [] => true
  | last, x :: l => decide (last < x.num) && decide (x.num ≤ 32) && vcpuB x.vcpu && risB x.num l
def getB (l : List Port) (k : Int) : Option Port := l.find? fun x => decide (x.num = k)
def linkB (l : List Port) (x : Port) : Bool := decide (x.peer = 0) || match getB l x.peer with | none => false | some y => decide (y.peer = x.num) && !decide (y.num = x.num)
/-- May ports be? -/
def rightB (l : List Port) : Bool := risB 0 l && l.all (linkB l)
section
variable {l : List Port} {k n : Nat} {last j : Int} {x y : Port}
theorem drop_cons {α : Type} {l : List α} {k : Nat} {x : α} (h : l[k]? = some x) : l.drop k = x :: l.drop (k + 1) := by
  obtain ⟨hk, rfl⟩ := List.getElem?_eq_some_iff.1 h
  exact List.drop_eq_getElem_cons hk
theorem ris_bad (h : risB last (l.drop k) = risB 0 l) (hx : l[k]? = some x) (hb : (decide (last < x.num) && decide (x.num ≤ 32) && vcpuB x.vcpu) = false) : rightB l = false := by
  rw [drop_cons hx, risB, hb] at h
  unfold rightB
  rw [← h]; rfl
theorem ris_on (h : risB last (l.drop k) = risB 0 l) (hx : l[k]? = some x) (hb : (decide (last < x.num) && decide (x.num ≤ 32) && vcpuB x.vcpu) = true) : risB x.num (l.drop (k + 1)) = risB 0 l := by
  rw [drop_cons hx, risB, hb] at h
  rw [← h]; rfl
theorem ris_t (h1 : last < x.num) (h2 : x.num ≤ 32) (h3 : vcpuB x.vcpu = true) : (decide (last < x.num) && decide (x.num ≤ 32) && vcpuB x.vcpu) = true := by simp [h1, h2, h3]
theorem ris_f (h : ¬ (last < x.num ∧ x.num ≤ 32 ∧ vcpuB x.vcpu = true)) : (decide (last < x.num) && decide (x.num ≤ 32) && vcpuB x.vcpu) = false := by
  cases hb : (decide (last < x.num) && decide (x.num ≤ 32) && vcpuB x.vcpu) with
  | false => rfl
  | true => simp only [Bool.and_eq_true, decide_eq_true_eq] at hb; exact absurd ⟨hb.1.1, hb.1.2, hb.2⟩ h
theorem ris_end (h : risB last (l.drop k) = risB 0 l) (hn : l.length = k) : risB 0 l = true := by
  rw [← h, ← hn, List.drop_length]; rfl
theorem link_bad (h : (l.drop k).all (linkB l) = l.all (linkB l)) (hx : l[k]? = some x) (hb : linkB l x = false) : rightB l = false := by
  rw [drop_cons hx, List.all_cons, hb] at h
  unfold rightB
  rw [← h, Bool.false_and, Bool.and_false]
theorem link_on (h : (l.drop k).all (linkB l) = l.all (linkB l)) (hx : l[k]? = some x) (hb : linkB l x = true) : (l.drop (k + 1)).all (linkB l) = l.all (linkB l) := by
  rw [drop_cons hx, List.all_cons, hb] at h
  rw [← h, Bool.true_and]
theorem right_end (h : (l.drop k).all (linkB l) = l.all (linkB l)) (hn : l.length = k) (hr : risB 0 l = true) : rightB l = true := by
  unfold rightB
  rw [← h, ← hn, List.drop_length, hr]; rfl
theorem ris_mem : ∀ (l : List Port) (last : Int), risB last l = true → ∀ x ∈ l, last < x.num ∧ x.num ≤ 32 ∧ vcpuB x.vcpu = true
  | [], _, _, x, hx => by cases hx
  | a :: l, last, h, x, hx => by
    rw [risB] at h
    simp only [Bool.and_eq_true, decide_eq_true_eq] at h
    rcases List.mem_cons.1 hx with rfl | hx
    · exact ⟨h.1.1.1, h.1.1.2, h.1.2⟩
    · have := ris_mem l a.num h.2 x hx
      exact ⟨by omega, this.2⟩
theorem ris_asc : ∀ (l : List Port) (last : Int), risB last l = true → Asc l
  | [], _, _ => fun i j x y _ h => by simp at h
  | a :: l, last, h => fun i j x y hij hi hj => by
    rw [risB] at h
    simp only [Bool.and_eq_true, decide_eq_true_eq] at h
    match i, j, hij with
    | 0, j + 1, _ =>
      simp at hi; subst hi
      exact (ris_mem l a.num h.2 y (List.mem_of_getElem? (by simpa using hj))).1
    | i + 1, j + 1, hij => exact ris_asc l a.num h.2 i j x y (by omega) (by simpa using hi) (by simpa using hj)
theorem ris_all (h : risB 0 l = true) : ∀ x ∈ l, 1 ≤ x.num ∧ x.num ≤ 32 := fun x hx => by
  have := ris_mem l 0 h x hx
  exact ⟨by omega, this.2.1⟩
theorem get_none (h : getB l j = none) : hasB l j = false := by
  unfold getB at h
  unfold hasB
  refine List.any_eq_false.2 fun x hx => ?_
  simpa using List.find?_eq_none.1 h x hx
theorem get_yes (h : getB l j = some y) : y ∈ l ∧ y.num = j ∧ hasB l j = true := by
  unfold getB at h
  have h1 := List.mem_of_find?_eq_some h
  have h2 : y.num = j := by simpa using List.find?_some h
  exact ⟨h1, h2, List.any_eq_true.2 ⟨y, h1, decide_eq_true h2⟩⟩
theorem get_pos (ha : Asc l) (h : getB l j = some y) : l[posB l j]? = some y ∧ posB l j < l.length := by
  obtain ⟨hm, hj, _⟩ := get_yes h
  obtain ⟨i, hi⟩ := List.mem_iff_getElem?.1 hm
  have hl := (List.getElem?_eq_some_iff.1 hi).1
  have : posB l j = i := take_len l i (by omega) (fun t x ht e => decide_eq_true (by have := ha t i x y ht e hi; omega)) (fun x e => decide_eq_false (by rw [hi] at e; cases e; omega))
  rw [this]
  exact ⟨hi, hl⟩
theorem link_none (h0 : ¬ x.peer = 0) (h : getB l x.peer = none) : linkB l x = false := by
  unfold linkB
  rw [h, decide_eq_false h0]; rfl
theorem link_some (h0 : ¬ x.peer = 0) (h : getB l x.peer = some y) : linkB l x = (decide (y.peer = x.num) && !decide (y.num = x.num)) := by
  unfold linkB
  rw [h, decide_eq_false h0]; rfl
theorem link_zero (h0 : x.peer = 0) : linkB l x = true := by
  unfold linkB
  rw [decide_eq_true h0]; rfl
end



/-- Where the first of a number stands; -1: nowhere. -/
def findI (l : List Port) (k : Int) : Int := if hasB l k then ((l.findIdx fun x => decide (x.num = k)) : Nat) else -1
section
variable {l : List Port} {k : Int} {j n : Nat} {x : Port}
theorem find_hit (h : ∀ t y, t < j → l[t]? = some y → ¬ y.num = k) (hx : l[j]? = some x) (hk : x.num = k) : (j : Int) = findI l k := by
  have hh : hasB l k = true := List.any_eq_true.2 ⟨x, List.mem_of_getElem? hx, decide_eq_true hk⟩
  have hj : j < l.length := (List.getElem?_eq_some_iff.1 hx).1
  have hi : (l.findIdx fun x => decide (x.num = k)) = j := by
    rw [List.findIdx_eq hj]
    refine ⟨?_, fun t ht => ?_⟩
    · have : l[j] = x := (List.getElem?_eq_some_iff.1 hx).2
      rw [this]; exact decide_eq_true hk
    · exact decide_eq_false (h t _ ht (List.getElem?_eq_getElem (by omega)))
  unfold findI
  rw [hh, hi]; rfl
theorem find_miss (h : ∀ t y, t < j → l[t]? = some y → ¬ y.num = k) (hn : l.length = j) : (-1 : Int) = findI l k := by
  have hh : hasB l k = false := List.any_eq_false.2 fun y hy => by
    obtain ⟨t, ht⟩ := List.mem_iff_getElem?.1 hy
    have := h t y (by have := (List.getElem?_eq_some_iff.1 ht).1; omega) ht
    simpa using this
  unfold findI
  rw [hh]; rfl
/-- May the port at t be, among the others? -/
def OkAt (l : List Port) (t : Nat) (x : Port) : Prop := 1 ≤ x.num ∧ x.num ≤ 32 ∧ (∀ y, 0 < t → l[t - 1]? = some y → y.num < x.num) ∧ vcpuB x.vcpu = true ∧ (x.peer = 0 ∨ ∃ y, getB l x.peer = some y ∧ findI l x.peer ≠ t ∧ y.peer = x.num)
theorem find_none (h : getB l k = none) : findI l k = -1 := by
  unfold findI
  rw [get_none h]; rfl
theorem find_some {y : Port} (h : getB l k = some y) : ∃ j : Nat, findI l k = j ∧ l[j]? = some y ∧ ∀ t z, t < j → l[t]? = some z → ¬ z.num = k := by
  obtain ⟨_, hk, hh⟩ := get_yes h
  refine ⟨l.findIdx fun x => decide (x.num = k), by unfold findI; rw [hh]; rfl, ?_, fun t z ht hz e => ?_⟩
  · unfold getB at h
    rw [List.find?_eq_some_iff_getElem] at h
    obtain ⟨_, i, hi, he, hb⟩ := h
    have : (l.findIdx fun x => decide (x.num = k)) = i := by
      rw [List.findIdx_eq hi]
      exact ⟨by rw [he]; exact decide_eq_true hk, fun t ht => by simpa using hb t ht⟩
    rw [this, List.getElem?_eq_getElem hi, he]
  · have := List.not_of_lt_findIdx ht
    have hlt := (List.getElem?_eq_some_iff.1 hz)
    obtain ⟨h1, h2⟩ := hlt
    rw [h2] at this
    simp [e] at this
theorem ris_of : ∀ (l : List Port) (last : Int), (∀ (t : Nat) (x : Port), l[t]? = some x → (t = 0 → last < x.num) ∧ (∀ y, 0 < t → l[t - 1]? = some y → y.num < x.num) ∧ x.num ≤ 32 ∧ vcpuB x.vcpu = true) → risB last l = true
  | [], _, _ => rfl
  | a :: l, last, h => by
    have h0 := h 0 a rfl
    rw [risB, ris_t (h0.1 rfl) h0.2.2.1 h0.2.2.2, Bool.true_and]
    refine ris_of l a.num fun t x hx => ?_
    have h1 := h (t + 1) x (by simpa using hx)
    refine ⟨fun e => h1.2.1 a (Nat.succ_pos _) (by subst e; rfl), fun y ht hy => h1.2.1 y (Nat.succ_pos _) ?_, h1.2.2⟩
    obtain ⟨s, rfl⟩ : ∃ s, t = s + 1 := ⟨t - 1, by omega⟩
    simpa using hy
theorem right_ok (h : rightB l = true) (hx : l[j]? = some x) : OkAt l j x := by
  unfold rightB at h
  rw [Bool.and_eq_true, List.all_eq_true] at h
  obtain ⟨h1, h2⟩ := h
  have hm := List.mem_of_getElem? hx
  have a1 := ris_mem l 0 h1 x hm
  have ha := ris_asc l 0 h1
  refine ⟨by omega, a1.2.1, fun y ht hy => ha (j - 1) j y x (by omega) hy hx, a1.2.2, ?_⟩
  by_cases h0 : x.peer = 0
  · exact .inl h0
  · right
    have hl := h2 x hm
    cases hg : getB l x.peer with
    | none => rw [link_none h0 hg] at hl; cases hl
    | some y =>
      rw [link_some h0 hg] at hl
      simp only [Bool.and_eq_true, decide_eq_true_eq, Bool.not_eq_true', decide_eq_false_iff_not] at hl
      refine ⟨y, rfl, fun e => ?_, hl.1⟩
      obtain ⟨i, hi, hy, _⟩ := find_some hg
      rw [hi] at e
      obtain rfl : i = j := by omega
      rw [hx] at hy; cases hy
      exact hl.2 rfl
theorem right_bad (hx : l[j]? = some x) (h : ¬ OkAt l j x) : rightB l = false := by
  cases hr : rightB l with
  | false => rfl
  | true => exact absurd (right_ok hr hx) h
theorem right_good (h : ∀ (t : Nat) (x : Port), l[t]? = some x → OkAt l t x) : rightB l = true := by
  have hr : risB 0 l = true := ris_of l 0 fun t x hx => by
    obtain ⟨h1, h2, h3, h4, _⟩ := h t x hx
    exact ⟨fun _ => by omega, h3, h2, h4⟩
  have ha := ris_asc l 0 hr
  unfold rightB
  rw [hr, Bool.true_and, List.all_eq_true]
  intro x hm
  obtain ⟨t, hx⟩ := List.mem_iff_getElem?.1 hm
  obtain ⟨_, _, _, _, h5⟩ := h t x hx
  rcases h5 with h0 | ⟨y, hg, hne, hp⟩
  · exact link_zero h0
  · by_cases h0 : x.peer = 0
    · exact link_zero h0
    · rw [link_some h0 hg]
      simp only [Bool.and_eq_true, decide_eq_true_eq, Bool.not_eq_true', decide_eq_false_iff_not]
      refine ⟨hp, fun e => hne ?_⟩
      obtain ⟨_, hk, _⟩ := get_yes hg
      exact (find_hit (fun s z hs hz e2 => by have := ha s t z x hs hz hx; omega) hx (by omega)).symm
end


/-- What event.port hands back. -/
def portV (p : Option Addr) (l : List Port) (k : Int) : Value := if hasB l k = true then .pointer (p.map fun a => ⟨a.block, a.off + posB l k * 5, none⟩) else .pointer none
theorem portV_out {p : Option Addr} {l : List Port} {k : Int} (hall : ∀ x ∈ l, 1 ≤ x.num ∧ x.num ≤ 32) (h : ¬ (1 ≤ k ∧ k ≤ 32)) : portV p l k = .pointer none := by
  have : hasB l k = false := List.any_eq_false.2 fun x hx => by
    have := hall x hx
    simp; omega
  simp [portV, this]
theorem pos_lt {l : List Port} {k : Int} (ha : Asc l) (h : hasB l k = true) : posB l k < l.length := by
  obtain ⟨x, hx, _⟩ := posk_at (f := Port.num) ha h
  exact (List.getElem?_eq_some_iff.1 hx).1
theorem portV_none {p : Option Addr} {l : List Port} {k : Int} (h : getB l k = none) : portV p l k = .pointer none := by simp [portV, get_none h]
theorem portV_some {b o : Nat} {l : List Port} {k : Int} {y : Port} (h : getB l k = some y) : portV (some ⟨b, o, none⟩) l k = .pointer (some ⟨b, o + posB l k * 5, none⟩) := by
  obtain ⟨_, _, hh⟩ := get_yes h
  simp [portV, hh]

/-- A port, if there is one. -/
def optV : Option Port → Value
  | some x => .tuple #[x.val, .bool true]
  | none => .tuple #[.agg #[.int .i64 0, .int .i64 0, .int .i64 0, .bool false, .bool false], .bool false]

theorem right_ris {l : List Port} (h : rightB l = true) : risB 0 l = true := by
  unfold rightB at h
  simp only [Bool.and_eq_true] at h
  exact h.1
def eGet (l : List Port) (k : Int) : Option Port := if rightB l = true then getB l k else none
/-- A poll, number by number. -/
def pollGo (l : List Port) (own : Int) : List Int → Bool → Int → Bool × Int
  | [], pd, e => (pd && decide (e = 0), e)
  | n :: ns, pd, e => match getB l n with
    | none => (false, 4)
    | some x => pollGo l own ns (pd || x.pending) (if x.vcpu = own then e else 2)
def pollV (l : List Port) (own : Int) (ns : List Int) : Bool × Int :=
  if rightB l = true then if vcpuB own = true ∧ 1 ≤ ns.length ∧ ns.length ≤ 32 then pollGo l own ns false 0 else (false, 2) else (false, 260)
theorem pollV_of {l : List Port} {own : Int} {ns : List Int} (h : rightB l = true) (h1 : vcpuB own = true) (h2 : 1 ≤ ns.length) (h3 : ns.length ≤ 32) : pollV l own ns = pollGo l own ns false 0 := by
  unfold pollV
  rw [if_pos h, if_pos ⟨h1, h2, h3⟩]
theorem pollV_no {l : List Port} {own : Int} {ns : List Int} (h : rightB l = true) (h1 : ¬ (vcpuB own = true ∧ 1 ≤ ns.length ∧ ns.length ≤ 32)) : pollV l own ns = (false, 2) := by
  unfold pollV
  rw [if_pos h, if_neg h1]

def rpollGo (l : List Port) (own : Int) : List Int → Bool → Bool → Bool × Int
  | [], pd, ow => if ow = true then (pd, 0) else (false, 2)
  | n :: ns, pd, ow => match getB l n with
    | none => (false, 4)
    | some x => rpollGo l own ns (pd || x.pending) (ow && decide (x.vcpu = own))
def rpollV (l : List Port) (own : Int) (ns : List Int) : Bool × Int := if vcpuB own = true ∧ 1 ≤ ns.length ∧ ns.length ≤ 32 then rpollGo l own ns false true else (false, 2)
theorem rpollV_of {l : List Port} {own : Int} {ns : List Int} (h1 : vcpuB own = true) (h2 : 1 ≤ ns.length) (h3 : ns.length ≤ 32) : rpollV l own ns = rpollGo l own ns false true := by
  unfold rpollV
  rw [if_pos ⟨h1, h2, h3⟩]
theorem rpollV_no {l : List Port} {own : Int} {ns : List Int} (h1 : ¬ (vcpuB own = true ∧ 1 ≤ ns.length ∧ ns.length ≤ 32)) : rpollV l own ns = (false, 2) := by
  unfold rpollV
  rw [if_neg h1]
/-- The two polls are one. -/
theorem poll_same (l : List Port) (own : Int) : ∀ (ns : List Int) (pd ow : Bool), rpollGo l own ns pd ow = pollGo l own ns pd (if ow = true then 0 else 2)
  | [], pd, ow => by cases ow <;> simp [rpollGo, pollGo]
  | n :: ns, pd, ow => by
    simp only [rpollGo, pollGo]
    cases getB l n with
    | none => rfl
    | some x =>
      simp only
      rw [poll_same l own ns]
      cases ow <;> by_cases h : x.vcpu = own <;> simp [h]
theorem poll_eq {l : List Port} {own : Int} {ns : List Int} (h : rightB l = true) : rpollV l own ns = pollV l own ns := by
  unfold rpollV pollV
  rw [if_pos h]
  split
  · exact poll_same l own ns false true
  · rfl
section
variable {α : Type} {l l2 : List α} {j : Nat} {x y : α}
theorem same_on (h : l.take j = l2.take j) (hx : l[j]? = some x) (hy : l2[j]? = some y) (e : x = y) : l.take (j + 1) = l2.take (j + 1) := by
  rw [List.take_add_one, List.take_add_one, h, hx, hy, e]
theorem same_no [DecidableEq α] (hx : l[j]? = some x) (hy : l2[j]? = some y) (e : ¬ x = y) : false = decide (l = l2) := by
  refine (decide_eq_false fun h => e ?_).symm
  rw [h, hy] at hx
  exact (Option.some.inj hx).symm
theorem same_yes [DecidableEq α] (h : l.take j = l2.take j) (h1 : l.length ≤ j) (h2 : l2.length ≤ j) : true = decide (l = l2) := by
  rw [List.take_of_length_le h1, List.take_of_length_le h2] at h
  exact (decide_eq_true h).symm
theorem same_len [DecidableEq α] (h : ¬ l.length = l2.length) : false = decide (l = l2) := (decide_eq_false fun e => h (by rw [e])).symm
end

instance : Enc Port := ⟨Port.enc, 5, fun _ => rfl, fun x v h => by simp [Port.enc] at h; rcases h with rfl | rfl | rfl | rfl | rfl <;> rfl, by decide⟩
end Go.Proofs.Ytfhlmijdokfdpaa

/-! Ports: what becomes of them, in plain Lean. -/
namespace Go.Proofs.Ytfhlmijdokfdpaa
open Go Go.RowKit

/-- The first number that no port has, less one: how far the numbers run on from one. -/
def openI : List Port → Nat → Nat
  | [], i => i
  | x :: l, i => if x.num = ((i + 1 : Nat) : Int) then openI l (i + 1) else i
/-- What the layer's Open answers. -/
def openV (l : List Port) (own : Int) : List Port × Int × Int :=
  if rightB l = true then
    if vcpuB own = true then
      if openI l 0 = 32 then ([], 0, 6)
      else (l.take (openI l 0) ++ [⟨((openI l 0 + 1 : Nat) : Int), own, 0, false, false⟩] ++ l.drop (openI l 0), ((openI l 0 + 1 : Nat) : Int), 0)
    else ([], 0, 2)
  else ([], 0, 260)
section
variable {l : List Port} {own : Int} {j n : Nat} {x : Port}
theorem open_on (hI : openI (l.drop j) j = openI l 0) (hx : l[j]? = some x) (h : x.num = ((j + 1 : Nat) : Int)) : openI (l.drop (j + 1)) (j + 1) = openI l 0 := by
  rw [← hI, drop_cons hx]; simp only [openI]; rw [if_pos h]
theorem open_at (hI : openI (l.drop j) j = openI l 0) (hx : l[j]? = some x) (h : ¬ x.num = ((j + 1 : Nat) : Int)) : openI l 0 = j := by
  rw [← hI, drop_cons hx]; simp only [openI]; rw [if_neg h]
theorem open_end (hI : openI (l.drop j) j = openI l 0) (hj : l.length ≤ j) : openI l 0 = j := by
  rw [← hI, List.drop_of_length_le hj]; rfl
theorem openV_bad (h : rightB l = false) : openV l own = ([], 0, 260) := by simp [openV, h]
theorem openV_arg (h : rightB l = true) (h1 : vcpuB own = false) : openV l own = ([], 0, 2) := by simp [openV, h, h1]
theorem openV_full (h : rightB l = true) (h1 : vcpuB own = true) (hj : openI l 0 = j) (h2 : ((j : Nat) : Int) = (32 : Int)) : openV l own = ([], 0, 6) := by
  unfold openV; rw [if_pos h, if_pos h1, if_pos (by omega)]
theorem openV_ok (h : rightB l = true) (h1 : vcpuB own = true) (hj : openI l 0 = j) (h2 : ¬ ((j : Nat) : Int) = (32 : Int)) : openV l own = (l.take j ++ [⟨((j + 1 : Nat) : Int), own, 0, false, false⟩] ++ l.drop j, ((j + 1 : Nat) : Int), 0) := by
  unfold openV; rw [if_pos h, if_pos h1, if_neg (by omega), hj]
end

/-- Is a port due? -/
def dueB (x : Port) : Bool := x.pending && !x.masked
/-- What the layer's Link answers. -/
def linkV (l : List Port) (a b : Int) : List Port × Int :=
  if rightB l = true then
    match getB l a, getB l b with
    | some x, some y =>
      if a = b then ([], 2)
      else if x.peer = 0 ∧ y.peer = 0 then ((l.set (posB l a) ⟨x.num, x.vcpu, b, x.pending, x.masked⟩).set (posB l b) ⟨y.num, y.vcpu, a, y.pending, y.masked⟩, 0)
      else ([], 261)
    | _, _ => ([], 4)
  else ([], 260)
/-- What comes of the port y when it is as z. -/
def turnP (l : List Port) (y z : Port) : List Port × Int × Int :=
  (l.set (posB l y.num) z, if dueB z = true ∧ (dueB y = false ∨ y.vcpu ≠ z.vcpu) then z.vcpu else 0, 0)
/-- What the layer's Send answers. -/
def sendV (l : List Port) (k : Int) : List Port × Int × Int :=
  if rightB l = true then
    match getB l k with
    | none => ([], 0, 4)
    | some x =>
      if x.peer = 0 then ([], 0, 261)
      else match getB l x.peer with
        | none => ([], 0, 0)
        | some y => turnP l y ⟨y.num, y.vcpu, y.peer, true, y.masked⟩
  else ([], 0, 260)
section
variable {l : List Port} {a b k : Int} {x y z : Port}
theorem get_self (h : getB l k = some y) : getB l y.num = some y := by rw [(get_yes h).2.1]; exact h
theorem get_of {y2 : Port} (h : getB l k = some y) (h2 : getB l y.num = some y2) : y2 = y := by rw [get_self h] at h2; cases h2; rfl
theorem pos_of (h : getB l k = some y) : posB l y.num = posB l k := by rw [(get_yes h).2.1]
theorem pos_inj (hr : rightB l = true) (h1 : getB l a = some x) (h2 : getB l b = some y) (h : posB l a = posB l b) : a = b := by
  have p1 := (get_pos (ris_asc l 0 (right_ris hr)) h1).1
  have p2 := (get_pos (ris_asc l 0 (right_ris hr)) h2).1
  rw [h, p2] at p1; cases p1
  rw [← (get_yes h1).2.1, ← (get_yes h2).2.1]
theorem right_peer (hr : rightB l = true) (h : getB l k = some x) (h0 : ¬ x.peer = 0) : ∃ y, getB l x.peer = some y ∧ y.peer = x.num ∧ ¬ y.num = x.num := by
  have hm := (get_yes h).1
  have : linkB l x = true := by
    unfold rightB at hr
    simp only [Bool.and_eq_true, List.all_eq_true] at hr
    exact hr.2 x hm
  rcases hg : getB l x.peer with _ | y
  · rw [link_none h0 hg] at this; cases this
  · rw [link_some h0 hg] at this
    simp only [Bool.and_eq_true, decide_eq_true_eq, Bool.not_eq_true', decide_eq_false_iff_not] at this
    exact ⟨y, rfl, this.1, this.2⟩
theorem linkV_bad (h : rightB l = false) : linkV l a b = ([], 260) := by simp [linkV, h]
theorem linkV_n1 (h : rightB l = true) (h1 : getB l a = none) : linkV l a b = ([], 4) := by simp [linkV, h, h1]
theorem linkV_n2 (h : rightB l = true) (h1 : getB l b = none) : linkV l a b = ([], 4) := by cases h2 : getB l a <;> simp [linkV, h, h1, h2]
theorem linkV_same (h : rightB l = true) (h1 : getB l a = some x) (h2 : getB l b = some y) (e : a = b) : linkV l a b = ([], 2) := by simp only [linkV, h, h1, h2, if_pos e, if_true]
theorem linkV_has (h : rightB l = true) (h1 : getB l a = some x) (h2 : getB l b = some y) (e : ¬ a = b) (hp : ¬ (x.peer = 0 ∧ y.peer = 0)) : linkV l a b = ([], 261) := by simp only [linkV, h, h1, h2, if_neg e, if_true, if_neg hp]
theorem linkV_ok (h : rightB l = true) (h1 : getB l a = some x) (h2 : getB l b = some y) (e : ¬ a = b) (hp : x.peer = 0 ∧ y.peer = 0) :
    linkV l a b = ((l.set (posB l a) ⟨x.num, x.vcpu, b, x.pending, x.masked⟩).set (posB l b) ⟨y.num, y.vcpu, a, y.pending, y.masked⟩, 0) := by simp only [linkV, h, h1, h2, if_neg e, if_true, if_pos hp]
theorem sendV_bad (h : rightB l = false) : sendV l k = ([], 0, 260) := by simp [sendV, h]
theorem sendV_none (h : rightB l = true) (h1 : getB l k = none) : sendV l k = ([], 0, 4) := by simp [sendV, h, h1]
theorem sendV_alone (h : rightB l = true) (h1 : getB l k = some x) (h0 : x.peer = 0) : sendV l k = ([], 0, 261) := by simp [sendV, h, h1, h0]
theorem sendV_ok (h : rightB l = true) (h1 : getB l k = some x) (h0 : ¬ x.peer = 0) (h2 : getB l x.peer = some y) : sendV l k = turnP l y ⟨y.num, y.vcpu, y.peer, true, y.masked⟩ := by simp [sendV, h, h1, h0, h2]
theorem turnP_yes (h : dueB z = true) (h1 : dueB y = false ∨ y.vcpu ≠ z.vcpu) : turnP l y z = (l.set (posB l y.num) z, z.vcpu, 0) := by simp only [turnP, if_pos (And.intro h h1)]
theorem turnP_no (h : ¬ (dueB z = true ∧ (dueB y = false ∨ y.vcpu ≠ z.vcpu))) : turnP l y z = (l.set (posB l y.num) z, 0, 0) := by simp only [turnP, if_neg h]
end

/-- The numbers of the ports that something holds of. -/
def suchL (is : Port → Bool) (l : List Port) : List Int := (l.filter is).map Port.num
def isDue (own : Int) (x : Port) : Bool := dueB x && decide (x.vcpu = own)
/-- What the layer's Due answers. -/
def edueV (l : List Port) (own : Int) : List Int := if rightB l = true then suchL (isDue own) l else []
section
variable {l : List Port} {j : Nat} {x : Port} {is : Port → Bool} {own : Int}
theorem such_yes (hx : l[j]? = some x) (h : is x = true) : suchL is (l.take j) ++ [x.num] = suchL is (l.take (j + 1)) := by
  rw [List.take_add_one, hx]; simp [suchL, h]
theorem such_no (hx : l[j]? = some x) (h : is x = false) : suchL is (l.take j) = suchL is (l.take (j + 1)) := by
  rw [List.take_add_one, hx]; simp [suchL, h]
theorem such_len (is : Port → Bool) (l : List Port) : (suchL is l).length ≤ l.length := by unfold suchL; rw [List.length_map]; exact List.length_filter_le ..
theorem such_all (hj : l.length ≤ j) : suchL is (l.take j) = suchL is l := by rw [List.take_of_length_le hj]
theorem isDue_yes (h : dueB x = true) (hv : x.vcpu = own) : isDue own x = true := by simp [isDue, h, hv]
theorem isDue_no (h : dueB x = false) : isDue own x = false := by simp [isDue, h]
theorem isDue_not (hv : ¬ x.vcpu = own) : isDue own x = false := by simp [isDue, hv]
theorem edueV_bad (h : rightB l = false) : edueV l own = [] := by simp [edueV, h]
theorem edueV_ok (h : rightB l = true) : edueV l own = suchL (isDue own) l := by simp [edueV, h]
end
/-- What the sample does. -/
theorem wk1 : openV [] 1 = ([⟨1, 1, 0, false, false⟩], 1, 0) := by kernel_rfl
theorem wk2 : openV [⟨1, 1, 0, false, false⟩] 2 = ([⟨1, 1, 0, false, false⟩, ⟨2, 2, 0, false, false⟩], 2, 0) := by kernel_rfl
theorem wk3 : linkV [⟨1, 1, 0, false, false⟩, ⟨2, 2, 0, false, false⟩] 1 2 = ([⟨1, 1, 2, false, false⟩, ⟨2, 2, 1, false, false⟩], 0) := by kernel_rfl
theorem wk4 : sendV [⟨1, 1, 2, false, false⟩, ⟨2, 2, 1, false, false⟩] 1 = ([⟨1, 1, 2, false, false⟩, ⟨2, 2, 1, true, false⟩], 2, 0) := by kernel_rfl
theorem wk5 : edueV [⟨1, 1, 2, false, false⟩, ⟨2, 2, 1, true, false⟩] 2 = [2] := by kernel_rfl
end Go.Proofs.Ytfhlmijdokfdpaa

/-! Ports: what a change of one port makes of them, in plain Lean. -/
namespace Go.Proofs.Ytfhlmijdokfdpaa
open Go Go.RowKit

/-- What the layer's Clear answers. -/
def clearV (l : List Port) (k : Int) : List Port × Bool × Int :=
  if rightB l = true then
    match getB l k with
    | none => ([], false, 4)
    | some x => (l.set (posB l x.num) ⟨x.num, x.vcpu, x.peer, false, x.masked⟩, x.pending, 0)
  else ([], false, 260)
/-- What the layer's Raise, Mask, Bind answer: f says what becomes of the port. -/
def turnV (l : List Port) (k : Int) (f : Port → Port) : List Port × Int × Int :=
  if rightB l = true then
    match getB l k with
    | none => ([], 0, 4)
    | some x => turnP l x (f x)
  else ([], 0, 260)
/-- What the layer's Bind answers. -/
def bindV (l : List Port) (k own : Int) : List Port × Int × Int :=
  if rightB l = true then if vcpuB own = true then turnV l k (fun x => ⟨x.num, own, x.peer, x.pending, x.masked⟩) else ([], 0, 2) else ([], 0, 260)
section
variable {l : List Port} {own : Int} {k : Int} {x : Port} {f : Port → Port}
theorem clearV_bad (h : rightB l = false) : clearV l k = ([], false, 260) := by simp [clearV, h]
theorem clearV_none (h : rightB l = true) (h1 : getB l k = none) : clearV l k = ([], false, 4) := by simp [clearV, h, h1]
theorem clearV_ok (h : rightB l = true) (h1 : getB l k = some x) : clearV l k = (l.set (posB l x.num) ⟨x.num, x.vcpu, x.peer, false, x.masked⟩, x.pending, 0) := by simp [clearV, h, h1]
theorem turnV_bad (h : rightB l = false) : turnV l k f = ([], 0, 260) := by simp [turnV, h]
theorem turnV_none (h : rightB l = true) (h1 : getB l k = none) : turnV l k f = ([], 0, 4) := by simp [turnV, h, h1]
theorem turnV_ok (h : rightB l = true) (h1 : getB l k = some x) : turnV l k f = turnP l x (f x) := by simp [turnV, h, h1]
theorem bindV_bad (h : rightB l = false) : bindV l k own = ([], 0, 260) := by simp [bindV, h]
theorem bindV_arg (h : rightB l = true) (h1 : vcpuB own = false) : bindV l k own = ([], 0, 2) := by simp [bindV, h, h1]
theorem bindV_none (h : rightB l = true) (h1 : vcpuB own = true) (h2 : getB l k = none) : bindV l k own = ([], 0, 4) := by simp only [bindV, if_pos h, if_pos h1, turnV_none h h2]
theorem bindV_ok (h : rightB l = true) (h1 : vcpuB own = true) (h2 : getB l k = some x) : bindV l k own = turnP l x ⟨x.num, own, x.peer, x.pending, x.masked⟩ := by simp only [bindV, if_pos h, if_pos h1, turnV_ok h h2]
end
end Go.Proofs.Ytfhlmijdokfdpaa

/-! Ports of which some are cleared: plain laws for the polls of one's own. -/
namespace Go.Proofs.Ytfhlmijdokfdpaa
open Go Go.RowKit

/-- Ports, those of ns cleared. -/
def clr (ns : List Int) (l : List Port) : List Port := l.map fun x => if x.num ∈ ns then ⟨x.num, x.vcpu, x.peer, false, x.masked⟩ else x
section
variable {l : List Port} {ns : List Int} {k last : Int} {x : Port}
theorem clr_len : (clr ns l).length = l.length := by simp [clr]
theorem clr_nil : clr [] l = l := by simp [clr]
theorem clr_one_num : (if x.num ∈ ns then (⟨x.num, x.vcpu, x.peer, false, x.masked⟩ : Port) else x).num = x.num := by split <;> rfl
theorem ris_clr : ∀ (l : List Port) (last : Int), risB last (clr ns l) = risB last l
  | [], _ => rfl
  | x :: l, last => by
    have h := ris_clr l x.num
    by_cases hx : x.num ∈ ns <;> simp [clr, risB, hx] at h ⊢ <;> rw [h]
theorem get_clr : ∀ (l : List Port), getB (clr ns l) k = (getB l k).map fun x => if x.num ∈ ns then ⟨x.num, x.vcpu, x.peer, false, x.masked⟩ else x
  | [] => rfl
  | x :: l => by
    have h := get_clr l
    unfold getB at h ⊢
    unfold clr at h ⊢
    rw [List.map_cons, List.find?_cons, List.find?_cons, clr_one_num]
    split
    · rfl
    · exact h
theorem link_clr (l' : List Port) (hg : ∀ k, getB l' k = (getB l k).map fun x => if x.num ∈ ns then ⟨x.num, x.vcpu, x.peer, false, x.masked⟩ else x) (x : Port) : linkB l' (if x.num ∈ ns then ⟨x.num, x.vcpu, x.peer, false, x.masked⟩ else x) = linkB l x := by
  have e : ∀ y : Port, (if y.num ∈ ns then (⟨y.num, y.vcpu, y.peer, false, y.masked⟩ : Port) else y).peer = y.peer := fun y => by split <;> rfl
  unfold linkB
  rw [e, clr_one_num, hg]
  cases getB l x.peer with
  | none => rfl
  | some y => simp only [Option.map_some]; rw [e, clr_one_num]
theorem right_clr : rightB (clr ns l) = rightB l := by
  unfold rightB
  rw [ris_clr]
  congr 1
  have h := fun x => link_clr (l := l) (ns := ns) (clr ns l) (fun k => get_clr l) x
  rw [show (clr ns l).all (linkB (clr ns l)) = l.all (fun x => linkB (clr ns l) (if x.num ∈ ns then ⟨x.num, x.vcpu, x.peer, false, x.masked⟩ else x)) from by rw [clr, List.all_map]; rfl]
  congr 1
  funext x
  exact h x
/-- A poll of ports that are there, all of them one's own. -/
theorem pollGo_own : ∀ (ns : List Int) (own : Int) (pd : Bool), (∀ n ∈ ns, ∃ x, getB l n = some x ∧ x.vcpu = own) → pollGo l own ns pd 0 = (pd || ns.any (fun n => match getB l n with | some x => x.pending | none => false), 0)
  | [], own, pd, _ => by simp [pollGo]
  | n :: ns, own, pd, h => by
    obtain ⟨x, hx, hv⟩ := h n (List.mem_cons_self ..)
    have := pollGo_own ns own (pd || x.pending) (fun m hm => h m (List.mem_cons_of_mem _ hm))
    simp only [pollGo, hx, if_pos hv, this, List.any_cons]
    rw [Bool.or_assoc]
theorem clr_get (i : Nat) : (clr ns l)[i]? = (l[i]?).map fun x => if x.num ∈ ns then ⟨x.num, x.vcpu, x.peer, false, x.masked⟩ else x := by unfold clr; rw [List.getElem?_map]
theorem clr_set (hr : rightB l = true) (hx : getB l k = some x) : (clr ns l).set (posB (clr ns l) k) ⟨x.num, x.vcpu, x.peer, false, x.masked⟩ = clr (ns ++ [k]) l := by
  have ha := ris_asc l 0 (right_ris hr)
  have hr' : rightB (clr ns l) = true := by rw [right_clr]; exact hr
  have hn := (get_yes hx).2.1
  obtain ⟨h1, h2⟩ := get_pos ha hx
  have hx' : getB (clr ns l) k = some (if x.num ∈ ns then ⟨x.num, x.vcpu, x.peer, false, x.masked⟩ else x) := by rw [get_clr, hx]; rfl
  obtain ⟨h3, h4⟩ := get_pos (ris_asc _ 0 (right_ris hr')) hx'
  have hp : posB (clr ns l) k = posB l k := by
    rw [clr_get] at h3
    obtain ⟨y, hy, hye⟩ := Option.map_eq_some_iff.1 h3
    have hyn : y.num = x.num := by
      have := congrArg Port.num hye
      rwa [clr_one_num, clr_one_num] at this
    rcases Nat.lt_trichotomy (posB (clr ns l) k) (posB l k) with h | h | h
    · have := ha _ _ _ _ h hy h1; omega
    · exact h
    · have := ha _ _ _ _ h h1 hy; omega
  rw [hp]
  apply List.ext_getElem?
  intro i
  rw [List.getElem?_set, clr_get, clr_get]
  have hlen : (clr ns l).length = l.length := by unfold clr; rw [List.length_map]
  by_cases hi : posB l k = i
  · subst hi
    rw [if_pos rfl, if_pos (by omega), h1]
    simp [hn]
  · rw [if_neg hi]
    rcases he : l[i]? with _ | y
    · rfl
    · have hne : ¬ y.num = k := fun e => by
        rcases Nat.lt_trichotomy (posB l k) i with h | h | h
        · have := ha _ _ _ _ h h1 he; omega
        · exact hi h
        · have := ha _ _ _ _ h he h1; omega
      simp [hne]
theorem clear_clr (hr : rightB l = true) (hx : getB l k = some x) : clearV (clr ns l) k = (clr (ns ++ [k]) l, (x.pending && decide (k ∉ ns)), 0) := by
  have hr' : rightB (clr ns l) = true := by rw [right_clr]; exact hr
  have hn := (get_yes hx).2.1
  have hx' : getB (clr ns l) k = some (if x.num ∈ ns then ⟨x.num, x.vcpu, x.peer, false, x.masked⟩ else x) := by rw [get_clr, hx]; rfl
  rw [clearV_ok hr' hx', clr_one_num, hn, ← clr_set (ns := ns) hr hx]
  by_cases h : k ∈ ns <;> simp [hn, h]
theorem such_mem {is : Port → Bool} (hr : rightB l = true) {n : Int} (h : n ∈ suchL is l) : ∃ x, getB l n = some x ∧ is x = true := by
  unfold suchL at h
  obtain ⟨x, hx, rfl⟩ := List.mem_map.1 h
  obtain ⟨hm, hi⟩ := List.mem_filter.1 hx
  rcases hg : getB l x.num with _ | y
  · have := get_none hg
    have : hasB l x.num = true := List.any_eq_true.2 ⟨x, hm, decide_eq_true rfl⟩
    simp_all
  · obtain ⟨hym, hyn, _⟩ := get_yes hg
    obtain ⟨i, hi1⟩ := List.mem_iff_getElem?.1 hm
    obtain ⟨j, hj1⟩ := List.mem_iff_getElem?.1 hym
    have ha := ris_asc l 0 (right_ris hr)
    have : i = j := by
      rcases Nat.lt_trichotomy i j with h | h | h
      · have := ha _ _ _ _ h hi1 hj1; omega
      · exact h
      · have := ha _ _ _ _ h hj1 hi1; omega
    subst this
    rw [hi1] at hj1; cases hj1
    exact ⟨x, rfl, hi⟩
/-- The ports of a virtual CPU. -/
def isOwn (own : Int) (x : Port) : Bool := decide (x.vcpu = own)
theorem due_clr (hr : rightB l = true) {own : Int} : edueV (clr (suchL (isOwn own) l) l) own = [] := by
  have hr' : rightB (clr (suchL (isOwn own) l) l) = true := by rw [right_clr]; exact hr
  rw [edueV_ok hr']
  unfold suchL
  rw [List.map_eq_nil_iff, List.filter_eq_nil_iff]
  intro y hy
  unfold clr at hy
  obtain ⟨x, hx, rfl⟩ := List.mem_map.1 hy
  by_cases hv : x.vcpu = own
  · rw [if_pos (List.mem_map.2 ⟨x, List.mem_filter.2 ⟨hx, by simp [isOwn, hv]⟩, rfl⟩)]
    simp [isDue, dueB]
  · split <;> simp [isDue, hv]
theorem ris_len : ∀ (l : List Port) (last : Int), last ≤ 32 → risB last l = true → (l.length : Int) + last ≤ 32
  | [], last, h, _ => by simpa using h
  | x :: l, last, _, h => by
    simp only [risB, Bool.and_eq_true, decide_eq_true_eq] at h
    have := ris_len l x.num h.1.1.2 h.2
    simp only [List.length_cons]
    omega
/-- Is the port of that number pending? -/
def pendB (l : List Port) (n : Int) : Bool := match getB l n with
  | some x => x.pending
  | none => false
theorem poll_own (hr : rightB l = true) {own : Int} (h0 : suchL (isOwn own) l ≠ []) : pollV l own (suchL (isOwn own) l) = ((suchL (isOwn own) l).any (pendB l), 0) := by
  have hall : ∀ n ∈ suchL (isOwn own) l, ∃ x, getB l n = some x ∧ x.vcpu = own := fun n hn => by
    obtain ⟨x, hx, hi⟩ := such_mem hr hn
    exact ⟨x, hx, by simpa [isOwn] using hi⟩
  obtain ⟨n0, hn0⟩ := List.exists_mem_of_ne_nil _ h0
  obtain ⟨x0, hx0, hv0⟩ := hall n0 hn0
  have hv : vcpuB own = true := by rw [← hv0]; exact (ris_mem l 0 (right_ris hr) x0 (get_yes hx0).1).2.2
  have hl := ris_len l 0 (by omega) (right_ris hr)
  have hs := such_len (isOwn own) l
  have hpos : 0 < (suchL (isOwn own) l).length := List.length_pos_iff.2 h0
  rw [pollV_of hr hv (by omega) (by omega), pollGo_own _ own false hall, Bool.false_or]
  rfl
theorem poll_nobody (hr : rightB l = true) {own : Int} : pollV l own [] = (false, 2) := pollV_no hr (by rintro ⟨_, h, _⟩; simp at h)
theorem such_clr {own : Int} : ∀ (l : List Port), suchL (isOwn own) (clr ns l) = suchL (isOwn own) l
  | [] => rfl
  | x :: l => by
    have h := such_clr (own := own) l
    unfold suchL clr at h ⊢
    by_cases hx : x.num ∈ ns <;> by_cases hv : x.vcpu = own <;> simp [isOwn, hx, hv] at h ⊢ <;> exact h
theorem poll_clr (hr : rightB l = true) {own : Int} (h0 : suchL (isOwn own) l ≠ []) : pollV (clr (suchL (isOwn own) l) l) own (suchL (isOwn own) l) = (false, 0) := by
  have hr' : rightB (clr (suchL (isOwn own) l) l) = true := by rw [right_clr]; exact hr
  have e : suchL (isOwn own) (clr (suchL (isOwn own) l) l) = suchL (isOwn own) l := such_clr l
  have := poll_own hr' (own := own) (by rw [e]; exact h0)
  rw [e] at this
  rw [this]
  congr 1
  rw [List.any_eq_false]
  intro n hn
  obtain ⟨x, hx, _⟩ := such_mem hr hn
  unfold pendB
  rw [get_clr, hx]
  simp [(get_yes hx).2.1, hn]
/-- The count of those that were pending. -/
theorem cnt_on {own : List Int} {j n : Nat} (hI : 0 < n ↔ (own.take j).any (pendB l) = true) (hk : own[j]? = some k) (hx : getB l k = some x) {b : Bool} (hb : b = (x.pending && decide (k ∉ own.take j))) :
    0 < (if b = true then n + 1 else n) ↔ (own.take (j + 1)).any (pendB l) = true := by
  have hp : pendB l k = x.pending := by simp [pendB, hx]
  have e : (own.take (j + 1)).any (pendB l) = ((own.take j).any (pendB l) || x.pending) := by rw [List.take_add_one, hk]; simp [hp]
  rw [e, Bool.or_eq_true, ← hI]
  subst hb
  by_cases h1 : x.pending = true
  · by_cases h2 : k ∈ own.take j
    · have : (own.take j).any (pendB l) = true := List.any_eq_true.2 ⟨k, h2, by rw [hp]; exact h1⟩
      have := hI.2 this
      simp [h1, h2, this]
    · simp [h1, h2]
  · simp [h1]
end
end Go.Proofs.Ytfhlmijdokfdpaa

/-! The walker: whole elements stored in place; clear; what a deletion leaves; loops that gather. -/
namespace Go.Proofs.Ytfhlmijdokfdpaa
open Go Go.RowKit

def setsL : List Value → Nat → List Value → List Value
  | c, _, [] => c
  | c, o, v :: vs => setsL (c.set o v) (o + 1) vs
theorem setsL_len : ∀ (vs : List Value) (c : List Value) (o : Nat), (setsL c o vs).length = c.length
  | [], _, _ => rfl
  | v :: vs, c, o => by rw [setsL, setsL_len vs]; simp
theorem setsL_get : ∀ (vs : List Value) (c : List Value) (o j : Nat), o + vs.length ≤ c.length → (setsL c o vs)[j]? = if o ≤ j ∧ j < o + vs.length then vs[j - o]? else c[j]?
  | [], c, o, j, _ => by rw [if_neg (by simp only [List.length_nil]; omega)]; rfl
  | v :: vs, c, o, j, h => by
    simp only [List.length_cons] at h ⊢
    rw [setsL, setsL_get vs _ _ _ (by simp; omega)]
    by_cases h1 : o = j
    · subst h1
      rw [if_neg (by omega), if_pos (by omega)]
      simp [show o < c.length by omega]
    · by_cases h2 : o + 1 ≤ j ∧ j < o + 1 + vs.length
      · rw [if_pos h2, if_pos (by omega), show j - o = (j - (o + 1)) + 1 by omega, List.getElem?_cons_succ]
      · rw [if_neg h2, if_neg (by omega), List.getElem?_set_ne h1]
theorem OwnS.set1 {k n cap : Nat} {vs : List Value} {cs : Array Value} (h : OwnS k vs n cap cs) (j : Nat) (v : Value) (hj : j < n * k) : OwnS k (vs.set j v) n cap (cs.setIfInBounds j v) := by
  have hcap : n * k ≤ cap * k := Nat.mul_le_mul_right _ h.le
  refine ⟨by rw [List.length_set]; exact h.len, h.le, h.max, by rw [Array.size_setIfInBounds]; exact h.csz, ?_⟩
  apply List.ext_getElem?
  intro i
  rw [List.getElem?_take]
  by_cases hi : i < n * k
  · rw [if_pos hi, Array.getElem?_toList, Array.getElem?_setIfInBounds, List.getElem?_set]
    by_cases hji : j = i
    · subst hji; rw [if_pos rfl, if_pos rfl, if_pos (by rw [h.csz]; omega), if_pos (by rw [h.len]; omega)]
    · rw [if_neg hji, if_neg hji, h.get i hi]
  · rw [if_neg hi, List.getElem?_eq_none (by rw [List.length_set, h.len]; omega)]
theorem OwnS.setsA {k n cap : Nat} : ∀ (us : List Value) (o : Nat) (vs : List Value) (cs : Array Value), OwnS k vs n cap cs → o + us.length ≤ n * k → OwnS k (setsL vs o us) n cap (sets cs o us)
  | [], _, _, _, h, _ => h
  | u :: us, o, vs, cs, h, hl => by
    simp only [List.length_cons] at hl
    exact OwnS.setsA us (o + 1) _ _ (h.set1 o u (by omega)) (by omega)
section
variable {α : Type} [Enc α] {l m : List α} {i j n cap : Nat} {cs : Array Value} {x x' : α}
theorem flat_set (hi : i < l.length) : (l.set i x').flatMap Enc.enc = setsL (l.flatMap Enc.enc) (i * Enc.k α) (Enc.enc x') := by
  have hm : (i + 1) * Enc.k α ≤ l.length * Enc.k α := Nat.mul_le_mul_right _ (by omega)
  rw [Nat.add_mul, Nat.one_mul] at hm
  apply List.ext_getElem?
  intro j
  rw [setsL_get _ _ _ _ (by rw [flat_len, Enc.len]; exact hm), Enc.len]
  have hk : 0 < Enc.k α := Enc.pos
  by_cases hj : j < l.length * Enc.k α
  · have hq : j / Enc.k α < l.length := (Nat.div_lt_iff_lt_mul hk).2 hj
    have hr : j % Enc.k α < Enc.k α := Nat.mod_lt _ hk
    have hjd : j = j / Enc.k α * Enc.k α + j % Enc.k α := by have := Nat.div_add_mod j (Enc.k α); rw [Nat.mul_comm] at this; omega
    have g1 := flat_get l (j / Enc.k α) hq (j % Enc.k α) hr
    have g2 := flat_get (l.set i x') (j / Enc.k α) (by simpa using hq) (j % Enc.k α) hr
    rw [← hjd] at g1 g2
    rw [g2, List.getElem_set]
    by_cases hji : i = j / Enc.k α
    · rw [if_pos hji, if_pos (by rw [hji]; omega)]
      congr 1
      rw [hji]; omega
    · rw [if_neg hji, if_neg ?_, g1]
      rintro ⟨h1, h2⟩
      apply hji
      have e : j = Enc.k α * i + (j - i * Enc.k α) := by rw [Nat.mul_comm]; omega
      rw [e, Nat.mul_add_div hk, Nat.div_eq_of_lt (by omega)]; rfl
  · rw [if_neg (by omega), List.getElem?_eq_none (by rw [flat_len, List.length_set]; omega), List.getElem?_eq_none (by rw [flat_len]; omega)]
/-- A whole element is stored. -/
theorem OwnS.putAll (h : OwnS (Enc.k α) (l.flatMap Enc.enc) n cap cs) (hn : n = l.length) (hx : l[i]? = some x) : OwnS (Enc.k α) ((l.set i x').flatMap Enc.enc) n cap (sets cs (0 + i * Enc.k α) (Enc.enc x')) := by
  have hi : i < l.length := (List.getElem?_eq_some_iff.1 hx).1
  have hm : (i + 1) * Enc.k α ≤ n * Enc.k α := Nat.mul_le_mul_right _ (by omega)
  rw [Nat.add_mul, Nat.one_mul] at hm
  rw [flat_set hi, Nat.zero_add]
  exact OwnS.setsA _ _ _ _ h (by rw [Enc.len]; exact hm)
/-- Only the first elements are kept. -/
theorem OwnS.cut (h : OwnS (Enc.k α) (l.flatMap Enc.enc) n cap cs) (hn : n = l.length) (hi : i ≤ n) {c' : Array Value} (hs : c'.size = cs.size) (hc : ∀ j, j < 0 + i * Enc.k α → c'[j]? = cs[j]?) : OwnS (Enc.k α) ((l.take i).flatMap Enc.enc) i cap c' := by
  have hm : i * Enc.k α ≤ n * Enc.k α := Nat.mul_le_mul_right _ hi
  have hlen : (l.take i).length = i := by rw [List.length_take]; omega
  have hfl : ((l.take i).flatMap Enc.enc).length = i * Enc.k α := by rw [flat_len, hlen]
  refine ⟨hfl, Nat.le_trans hi h.le, h.max, by rw [hs]; exact h.csz, ?_⟩
  apply List.ext_getElem?
  intro j
  rw [List.getElem?_take]
  by_cases hj : j < i * Enc.k α
  · rw [if_pos hj, Array.getElem?_toList, hc j (by omega), h.get j (by omega), flat_take, List.getElem?_take, if_pos hj]
  · rw [if_neg hj, List.getElem?_eq_none (by rw [hfl]; omega)]
/-! ### deletion: i kept of the first j -/
structure Dels (p : α → Bool) (l m : List α) (i j : Nat) : Prop where
  lt : i < j
  le : j ≤ l.length
  len : m.length = l.length
  pre : m.take i = (l.take j).filter fun x => !p x
  rest : m.drop j = l.drop j
omit [Enc α] in
theorem Dels.get {p : α → Bool} (h : Dels p l m i j) (hx : m[j]? = some x) : l[j]? = some x := by
  have e1 : (m.drop j)[0]? = m[j]? := by simp
  have e2 : (l.drop j)[0]? = l[j]? := by simp
  rw [← e2, ← h.rest, e1, hx]
omit [Enc α] in
theorem Dels.yes {p : α → Bool} (h : Dels p l m i j) (hx : m[j]? = some x) (hp : p x = true) : Dels p l m i (j + 1) := by
  have hl := h.get hx
  have hlt := (List.getElem?_eq_some_iff.1 hl).1
  refine ⟨by have := h.lt; omega, by omega, h.len, ?_, ?_⟩
  · rw [h.pre, List.take_add_one, hl]; simp [hp]
  · have := congrArg (List.drop 1) h.rest
    simpa [List.drop_drop, Nat.add_comm] using this
omit [Enc α] in
theorem Dels.no {p : α → Bool} (h : Dels p l m i j) (hx : m[j]? = some x) (hp : p x = false) : Dels p l (m.set i x) (i + 1) (j + 1) := by
  have hl := h.get hx
  have hlt := (List.getElem?_eq_some_iff.1 hl).1
  have hlen := h.len
  have hij := h.lt
  refine ⟨by omega, by omega, by rw [List.length_set]; exact h.len, ?_, ?_⟩
  · rw [List.take_add_one (l := m.set i x), List.take_add_one (l := l), hl, List.take_set_of_le (Nat.le_refl _), h.pre, List.getElem?_set_self (by omega)]; simp [hp]
  · rw [List.drop_set_of_lt (by omega)]
    have := congrArg (List.drop 1) h.rest
    simpa [List.drop_drop, Nat.add_comm] using this
omit [Enc α] in
theorem Dels.done {p : α → Bool} (h : Dels p l m i j) (hj : l.length ≤ j) : m.take i = l.filter fun x => !p x := by rw [h.pre, List.take_of_length_le hj]
omit [Enc α] in
/-- The first that is struck. -/
theorem Dels.start {p : α → Bool} {i : Nat} (h : ∀ t x, t < i → l[t]? = some x → p x = false) (hx : l[i]? = some x) (hp : p x = true) : Dels p l l i (i + 1) := by
  have hlt := (List.getElem?_eq_some_iff.1 hx).1
  refine ⟨by omega, by omega, rfl, ?_, rfl⟩
  rw [List.take_add_one, hx, List.filter_append]
  have : (l.take i).filter (fun x => !p x) = l.take i := by
    rw [List.filter_eq_self]
    intro y hy
    obtain ⟨t, ht⟩ := List.mem_iff_getElem?.1 hy
    rw [List.getElem?_take] at ht
    split at ht
    · rename_i hti; simp [h t y hti ht]
    · cases ht
  rw [this]; simp [hp]
omit [Enc α] in
theorem filter_none {p : α → Bool} (h : ∀ x ∈ l, p x = false) : (l.filter fun x => !p x) = l := by
  rw [List.filter_eq_self]; intro y hy; simp [h y hy]
/-! ### loops that gather -/
omit [Enc α] in
theorem flat_on {β : Type} {g : α → List β} {ys : List β} (hx : l[j]? = some x) (hg : g x = ys) : (l.take (j + 1)).flatMap g = (l.take j).flatMap g ++ ys := by
  rw [List.take_add_one, hx]; simp [hg]
omit [Enc α] in
theorem fold_on {β : Type} {g : β → α → β} {b : β} (hx : l[j]? = some x) : (l.take (j + 1)).foldl g b = g ((l.take j).foldl g b) x := by
  rw [List.take_add_one, hx]; simp
end

/-- The first place at which p holds; -1: none. -/
def idxF {α : Type} (p : α → Bool) (l : List α) : Int := if l.any p then ((l.findIdx p : Nat) : Int) else -1
section
variable {α : Type} {l : List α} {p : α → Bool} {x : α} {j : Nat}
theorem idxF_hit (h : ∀ t y, t < j → l[t]? = some y → p y = false) (hx : l[j]? = some x) (hp : p x = true) : idxF p l = (j : Int) := by
  have hj : j < l.length := (List.getElem?_eq_some_iff.1 hx).1
  have hh : l.any p = true := List.any_eq_true.2 ⟨x, List.mem_of_getElem? hx, hp⟩
  have hi : l.findIdx p = j := by
    rw [List.findIdx_eq hj]
    refine ⟨?_, fun t ht => h t _ ht (List.getElem?_eq_getElem (by omega))⟩
    have : l[j] = x := (List.getElem?_eq_some_iff.1 hx).2
    rw [this]; exact hp
  unfold idxF; rw [hh, hi]; rfl
theorem idxF_miss (h : ∀ t y, t < j → l[t]? = some y → p y = false) (hj : l.length ≤ j) : idxF p l = -1 := by
  have hh : l.any p = false := List.any_eq_false.2 fun y hy => by
    obtain ⟨t, ht⟩ := List.mem_iff_getElem?.1 hy
    have := h t y (by have := (List.getElem?_eq_some_iff.1 ht).1; omega) ht
    simp [this]
  unfold idxF; rw [hh]; rfl
theorem idxF_cases (p : α → Bool) (l : List α) : (idxF p l = -1 ∧ ∀ x ∈ l, p x = false) ∨ ∃ (i : Nat) (x : α), idxF p l = (i : Int) ∧ l[i]? = some x ∧ p x = true ∧ ∀ t y, t < i → l[t]? = some y → p y = false := by
  cases hh : l.any p with
  | false => left; exact ⟨by unfold idxF; rw [hh]; rfl, fun x hx => by simpa using List.any_eq_false.1 hh x hx⟩
  | true =>
    right
    have hlt : l.findIdx p < l.length := List.findIdx_lt_length.2 (by obtain ⟨x, hx, hp⟩ := List.any_eq_true.1 hh; exact ⟨x, hx, hp⟩)
    refine ⟨l.findIdx p, l[l.findIdx p], by unfold idxF; rw [hh]; rfl, List.getElem?_eq_getElem hlt, List.findIdx_getElem, fun t y ht hy => ?_⟩
    have := List.not_of_lt_findIdx ht
    obtain ⟨h1, h2⟩ := List.getElem?_eq_some_iff.1 hy
    rw [h2] at this
    simpa using this
end

section
variable {P : Program} {w : World} {t T ty : TypeId} {k by_ : Nat}
/-- The zero of an element: cells of one word each. -/
def zerosB (P : Program) (T : TypeId) : Bool := match P.info? T with
  | some i => match i.zero with
    | some z => z.cells.toList.all fun u => u.oneCell'
    | none => false
  | none => false
theorem zero_mem : ∀ (n : Nat) (c : Array Value), ∀ u ∈ (Builtin.zeroCells c n).toList, u ∈ c.toList := by
  intro n c u hu
  unfold Builtin.zeroCells at hu
  rw [Array.toList_map] at hu
  obtain ⟨i, hi, rfl⟩ := List.mem_map.1 hu
  have h1 : i < n * c.size := by simpa using hi
  have h2 : 0 < c.size := Nat.pos_of_ne_zero fun e => by simp [e] at h1
  have h3 := Nat.mod_lt i h2
  rw [getElem!_pos c _ h3]
  simp
theorem run_clearO (hE : elemB P t T k by_ = true) (hZ : zerosB P T = true) {g o n dc : Nat} {c : Array Value} {T' : TypeId} (hg : w.heap[g]? = some (.cells c T' (0, 0))) (ho : o + n * k ≤ c.size) :
    ∃ w' c', (Builtin.clear_ #[t] ty #[.slice (some ⟨g, o, none⟩) n dc]).run P w = .ok (.tuple #[]) w' ∧ Turn g (.cells c' T' (0, 0)) w w' ∧ c'.size = c.size ∧ ∀ j, j < o → c'[j]? = c[j]? := by
  obtain ⟨ht, i, z, hi, hz, hzs, hk, _⟩ := elemB_spec hE
  subst hk
  by_cases hn : n = 0
  · subst hn
    exact ⟨w, c, by simp [Builtin.clear_, run_underlying ht], ⟨hg, fun _ _ => rfl, rfl, rfl, rfl, rfl⟩, rfl, fun _ _ => rfl⟩
  · have hzl : (Builtin.zeroCells z.cells n).toList.length = n * i.size := by rw [Array.length_toList, size_zeroCells, hzs]
    have h1 : ∀ u ∈ (Builtin.zeroCells z.cells n).toList, u.oneCell' = true := fun u hu => by
      unfold zerosB at hZ
      simp only [hi, hz] at hZ
      exact List.all_eq_true.1 hZ u (zero_mem n z.cells u hu)
    have hst := run_storeCells_cells (P := P) g o (Builtin.zeroCells z.cells n).toList 0 w (fun j hj => by rw [Nat.add_zero, cell_own hg, Array.getElem?_eq_getElem (by omega)]; rfl) (fun j hj => froz_own hg _) h1
    simp only [Nat.add_zero] at hst
    refine ⟨_, sets c o (Builtin.zeroCells z.cells n).toList, ?_, turn_sets g T' _ o w c hg (by omega), sets_size _ _ _, fun j hj => ?_⟩
    · have hn' : (match n with | 0 => true | _ => false) = false := by cases n with | zero => exact absurd rfl hn | succ n => rfl
      obtain ⟨n', rfl⟩ : ∃ n', n = n' + 1 := ⟨n - 1, by omega⟩
      simp [Builtin.clear_, run_underlying ht, zeroValue, typeInfo, hi, hz, hst]
    · rw [sets_get _ _ _ _ (by omega), if_neg (by omega)]
end
section
variable {E : Env} {k : List Fr} {l : Sl} {L : List Ob} {all os : List Oper} {o : Oper} {i : Nat}
/-- clear of a stretch of row j. -/
theorem ops_clear (j : Nat) {x : Operand} {t T T' : TypeId} {ks by_ : Nat} (ho : o.op = .call { callee := .builtin .clear, args := #[x], argTypes := #[t] }) (hw : wantL all l o = some true) (hd : (okD E.n o.dst && knownO l o) = true)
    {g of n dc : Nat} {c : Array Value} (hx : look l x = .slice (some ⟨g, of, none⟩) n dc) (hE : elemB E.P t T ks by_ = true) (hZ : zerosB E.P T = true) (hj : L[j]? = some (bx g c T')) (hs : of + n * ks ≤ c.size)
    (h : ∀ c', c'.size = c.size → (∀ j, j < of → c'[j]? = c[j]?) → Ops E k all os (i + 1) (putL o.dst (.tuple #[]) l) (L.set j (bx g c' T'))) : Ops E k all (o :: os) i l L := by
  refine ⟨fun a w ha hw' => ?_⟩
  simp only [Bool.and_eq_true] at hd
  have hg := wantL_spec ha hw
  refine wpListIn_step fun K hK => ?_
  rw [if_pos hg]
  have hrow : w.heap[g]? = some (.cells c T' (0, 0)) := hw'.row j hj
  obtain ⟨w', c', hr, ht, h1, h2⟩ := run_clearO (ty := o.type) (dc := dc) hE hZ hrow hs
  refine ⟨fun _ _ => trivial, ?_⟩
  rw [Oper.semAt_eq _ _ _ (fun c e => by rw [ho] at e; cases e), look_exec ha hd.2]
  have e : (execOp (look l) o).run E.P w = .ok (.value (.tuple #[])) w' := by
    simp [execOp, ho, resolve, invoke, builtin, hx, hr]
  rw [e]
  exact hK _ _ ((h c' h1 h2).out _ _ (ha.put hd.1 _) (hw'.turn j hj ht))
end
theorem Hs.front {w0 w : World} {A Y R : List Ob} (h : Hs w0 (A ++ (Y ++ R)) w) : Hs w0 (Y ++ (A ++ R)) w :=
  h.perm (by rw [← List.append_assoc, ← List.append_assoc]; exact (List.perm_append_comm).append_right _)
end Go.Proofs.Ytfhlmijdokfdpaa

/-! Ports: what removing some of them makes, in plain Lean. -/
namespace Go.Proofs.Ytfhlmijdokfdpaa
open Go Go.RowKit

/-- The first j elements changed by f, the others as they are. -/
def mixV {α : Type} (f : α → α) (l : List α) (j : Nat) : List α := (l.take j).map f ++ l.drop j
section
variable {α : Type} {f : α → α} {l : List α} {j : Nat} {x y : α}
theorem mix_zero : mixV f l 0 = l := by simp [mixV]
theorem mix_end (h : l.length ≤ j) : mixV f l j = l.map f := by simp [mixV, List.take_of_length_le h, List.drop_of_length_le h]
theorem mix_len : (mixV f l j).length = l.length := by simp [mixV]; omega
theorem mix_get (h : (mixV f l j)[j]? = some x) : l[j]? = some x := by
  have hj : j < l.length := by have := (List.getElem?_eq_some_iff.1 h).1; rwa [mix_len] at this
  unfold mixV at h
  rw [List.getElem?_append_right (by simp; omega)] at h
  simpa [Nat.min_eq_left (Nat.le_of_lt hj)] using h
theorem mix_put (h : (mixV f l j)[j]? = some x) (hf : f x = y) : (mixV f l j).set j y = mixV f l (j + 1) := by
  have h1 := mix_get h
  have hj := (List.getElem?_eq_some_iff.1 h1).1
  unfold mixV
  have hl : ((l.take j).map f).length = j := by simp; omega
  rw [List.set_append_right _ _ (by omega), hl, Nat.sub_self, drop_cons h1, List.take_add_one, h1]
  simp [hf]
theorem mix_same (h : (mixV f l j)[j]? = some x) (hf : f x = x) : mixV f l j = mixV f l (j + 1) := by
  rw [← mix_put h hf, set_self _ _ h]
end
def isNum (k : Int) (x : Port) : Bool := decide (x.num = k)
/-- A port that is linked no more, if the other end is gone. -/
def unl (gone : List Int) (x : Port) : Port := if x.peer ∈ gone then ⟨x.num, x.vcpu, 0, x.pending, x.masked⟩ else x
/-- Ports without those of which something holds. -/
def removeV (is : Port → Bool) (l : List Port) : List Port := (l.filter fun x => !is x).map (unl (suchL is l))
/-- What the layer's Close answers. -/
def closeV (l : List Port) (k : Int) : List Port × Int := if rightB l = true then if suchL (isNum k) l = [] then ([], 4) else (removeV (isNum k) l, 0) else ([], 260)
/-- What the layer's Drop answers. -/
def dropV (l : List Port) (own : Int) : List Port × Int × Int := if rightB l = true then if vcpuB own = true then (removeV (isOwn own) l, ((suchL (isOwn own) l).length : Nat), 0) else ([], 0, 2) else ([], 0, 260)
section
variable {l : List Port} {k own : Int}
theorem closeV_bad (h : rightB l = false) : closeV l k = ([], 260) := by simp [closeV, h]
theorem closeV_none (h : rightB l = true) {m : Nat} (hm : m = (suchL (isNum k) l).length) (h0 : (m : Int) = 0) : closeV l k = ([], 4) := by
  have : suchL (isNum k) l = [] := List.length_eq_zero_iff.1 (by omega)
  simp [closeV, h, this]
theorem closeV_ok (h : rightB l = true) {m : Nat} (hm : m = (suchL (isNum k) l).length) (h0 : ¬ (m : Int) = 0) : closeV l k = (removeV (isNum k) l, 0) := by
  have : ¬ suchL (isNum k) l = [] := fun e => h0 (by rw [hm, e]; rfl)
  simp [closeV, h, this]
theorem dropV_bad (h : rightB l = false) : dropV l own = ([], 0, 260) := by simp [dropV, h]
theorem dropV_arg (h : rightB l = true) (h1 : vcpuB own = false) : dropV l own = ([], 0, 2) := by simp [dropV, h, h1]
theorem dropV_ok (h : rightB l = true) (h1 : vcpuB own = true) {m : Nat} (hm : m = (suchL (isOwn own) l).length) : dropV l own = (removeV (isOwn own) l, (m : Int), 0) := by simp [dropV, h, h1, hm]
end
theorem rd_one {w : World} {g : Nat} {v : Value} {T : TypeId} {f : Nat × Nat} (h : w.heap[g]? = some (.cells #[v] T f)) : Rd w g (0 + 0 * 1) [v] := fun j u hj => by
  match j, hj with
  | 0, hj => rw [show (⟨g, 0 + 0 * 1 + 0, none⟩ : Addr) = ⟨g, 0, none⟩ from rfl, cell_own h]; simpa using hj
theorem hs_nil {w0 w : World} {Y : List Ob} (h : Hs w0 (Y ++ []) w) : Hs w0 Y w := by rwa [List.append_nil] at h
end Go.Proofs.Ytfhlmijdokfdpaa

/-! Ports: walks. -/
namespace Go.Proofs.Ytfhlmijdokfdpaa
open Go Go.RowKit

set_option maxRecDepth 100000 in
theorem vcpu_d (n : Int) (w : World)
 : Calls Try.prog 31 #[.int .i64 n] w fun e w' => e = .returned (.bool (vcpuB n)) ∧ Below w.heap.size w w' := by
 refine enter (Hs.start w) Try.func31 rfl Try.ntmps31 rfl (sq_ (qa0 [] [0] [] (ds_ (sq_ ?_))))
 by_cases q3 : (n : Int) ≥ (1 : Int)
 ·
  by_cases q5 : (n : Int) ≤ (16 : Int)
  ·
   refine qa [(1, .yes), (4, .yes)] [] [(2, .bool true)] ([(n : Int) ≥ (1 : Int)] ++ ([(n : Int) ≤ (16 : Int)])) (alA (al1 q3) (al1 q5)) (ds_ (rt ([]) (.bool true) ?_))
   exact fun w' hw => ⟨by rw [show vcpuB n = true from by simp [vcpuB]; omega], hw.below⟩
  ·
   refine qa [(1, .yes), (4, .no)] [] [(2, .bool false)] ([(n : Int) ≥ (1 : Int)] ++ ([¬ ((n : Int) ≤ (16 : Int))])) (alA (al1 q3) (al1 q5)) (ds_ (rt ([]) (.bool false) ?_))
   exact fun w' hw => ⟨by rw [show vcpuB n = false from by simp [vcpuB]; omega], hw.below⟩
 ·
  refine qa [(1, .no)] [] [(2, .bool false)] ([¬ ((n : Int) ≥ (1 : Int))]) (al1 q3) (ds_ (rt ([]) (.bool false) ?_))
  exact fun w' hw => ⟨by rw [show vcpuB n = false from by simp [vcpuB]; omega], hw.below⟩

set_option maxRecDepth 100000 in
theorem rvcpu_d (n : Int) (w : World)
 : Calls Try.prog 33 #[.int .i64 n] w fun e w' => e = .returned (.bool (vcpuB n)) ∧ Below w.heap.size w w' := by
 refine enter (Hs.start w) Try.func33 rfl Try.ntmps33 rfl (sq_ (qa0 [] [0] [] (ds_ (sq_ ?_))))
 by_cases q3 : (n : Int) ≥ (1 : Int)
 ·
  by_cases q5 : (n : Int) ≤ (16 : Int)
  ·
   refine qa [(1, .yes), (4, .yes)] [] [(2, .bool true)] ([(n : Int) ≥ (1 : Int)] ++ ([(n : Int) ≤ (16 : Int)])) (alA (al1 q3) (al1 q5)) (ds_ (rt ([]) (.bool true) ?_))
   exact fun w' hw => ⟨by rw [show vcpuB n = true from by simp [vcpuB]; omega], hw.below⟩
  ·
   refine qa [(1, .yes), (4, .no)] [] [(2, .bool false)] ([(n : Int) ≥ (1 : Int)] ++ ([¬ ((n : Int) ≤ (16 : Int))])) (alA (al1 q3) (al1 q5)) (ds_ (rt ([]) (.bool false) ?_))
   exact fun w' hw => ⟨by rw [show vcpuB n = false from by simp [vcpuB]; omega], hw.below⟩
 ·
  refine qa [(1, .no)] [] [(2, .bool false)] ([¬ ((n : Int) ≥ (1 : Int))]) (al1 q3) (ds_ (rt ([]) (.bool false) ?_))
  exact fun w' hw => ⟨by rw [show vcpuB n = false from by simp [vcpuB]; omega], hw.below⟩

set_option maxRecDepth 100000 in
theorem at1_d (x : Port) (k : Int) (w : World)
 (h1 : -9223372036854775808 ≤ x.num - k)
 (h2 : x.num - k ≤ 9223372036854775807)
 : Calls Try.prog 76 #[.agg #[.int .i64 x.num, .int .i64 x.vcpu, .int .i64 x.peer, .bool x.pending, .bool x.masked], .int .i64 k] w fun e w' => e = .returned (.int .i64 (x.num - k)) ∧ Below w.heap.size w w' := by
 refine enter (Hs.start w) Try.func76 rfl Try.ntmps76 rfl (sq_ (ma0 [] [1] (fun γ1 => [(2, .pointer (some ⟨γ1 0, 0, none⟩))]) (fun γ1 L => bx (γ1 0) (#[.int .i64 x.num, .int .i64 x.vcpu, .int .i64 x.peer, .bool x.pending, .bool x.masked]) 40 :: L) (fun γ1 => ds_ (sq_ (qa [(1, .go (owns 0 0 1)), (3, .fit)] [] [(4, .int .i64 (x.num - k))] ([Fit .i64 (x.num - k)]) (al1 (fit64 (by omega) (by omega))) (ds_ (rt ([]) (.int .i64 (x.num - k)) ?_)))))))
 exact fun w' hw => ⟨rfl, hw.below⟩

set_option maxRecDepth 100000 in
theorem bsearch_port (g : FuncId) (cb : Array Value) (p : Option Addr) (n cap : Nat) (l : List Port) (f c : Port → Int) (k : Int) (w : World)
 (hg : ∀ args w, (callFunc g args).run Try.prog w = .ok (.enter g args) w)
 (hsl : Sv w p l) (hn : n = l.length) (hb : n ≤ 4611686018427387903)
 (hc : ∀ x ∈ l, ∀ w', Below w.heap.size w w' → Calls Try.prog g (#[.agg #[.int .i64 x.num, .int .i64 x.vcpu, .int .i64 x.peer, .bool x.pending, .bool x.masked], .int .i64 k] ++ cb) w' fun e w1 => e = .returned (.int .i64 (c x)) ∧ Below w'.heap.size w' w1)
 (hs : ∀ x ∈ l, (c x < 0 ↔ f x < k) ∧ (c x = 0 ↔ f x = k)) (ha : AscK f l)
 : Calls Try.prog 75 #[.slice p n cap, .int .i64 k, .func (.func g) #[] cb] w fun e w' => e = .returned (.tuple #[.int .i64 (posK f l k : Nat), .bool (hasK f l k)]) ∧ Below w.heap.size w w' := by
 refine enter (Hs.start w) Try.func75 rfl Try.ntmps75 rfl (sq_ (qa0 [] [0, 1, 2] [] (ds_ (sq_ (qa0 [] [0, 1, 2] [(8, .int .i64 ((n : Nat)))] (ds_ (sq_ (qa0 [] [0, 1, 2, 8] [(9, .int .i64 0), (10, .int .i64 ((n : Nat)))] (ds_ (sq_ (at_block (at_loop (α := Nat × Nat) [0, 1, 2, 8, 9, 10] (fun ⟨lo, hi⟩ => [(0, .slice p n cap), (1, .int .i64 k), (2, .func (.func g) #[] cb), (8, .int .i64 ((n : Nat))), (9, .int .i64 ((lo : Nat))), (10, .int .i64 ((hi : Nat)))]) (fun ⟨lo, hi⟩ => []) (fun ⟨lo, hi⟩ => lo ≤ hi ∧ hi ≤ n ∧ BsK f l k lo hi) (fun ⟨lo, hi⟩ => hi - lo) (0, n) (by kernel_rfl) rfl ⟨Nat.zero_le _, Nat.le_refl _, by subst hn; exact bsk_start⟩ ?_))))))))))))
 rintro ⟨lo, hi⟩
 rintro ⟨h1, h2, hI⟩
 refine sq_ (sq_ ?_)
 by_cases q5 : ((lo : Nat) : Int) < ((hi : Nat) : Int)
 ·
  refine qa [(2, .yes)] [0, 1, 2, 8, 9, 10] [(17, .bool true)] ([((lo : Nat) : Int) < ((hi : Nat) : Int)]) (al1 q5) (ds_ (t_ (at_skip (ds_ (at_block (sq_ (qa [(2, .fit), (3, .fit), (4, .is [] (.int .u64 ((lo + hi) / 2 : Nat))), (5, .fit)] [0, 1, 2, 8, 9, 10] [(11, .int .i64 (((lo + hi) / 2 : Nat)))] ([Fit .i64 ((lo + hi : Nat))] ++ ([Fit .u64 ((lo + hi : Nat))] ++ ([Value.int .u64 (Int.fdiv ((lo : Nat) + (hi : Nat)) (2 ^ 1)) = .int .u64 (((lo + hi) / 2 : Nat) : Int)] ++ ([Fit .i64 (((lo + hi) / 2 : Nat))])))) (alA (al1 (fit64 (by omega) (by omega))) (alA (al1 (fitU (by omega) (by omega))) (alA (al1 (half lo hi)) (al1 (fit64 (by omega) (by omega)))))) (ds_ (sq_ ?_)))))))))
  obtain ⟨b9, o9, rfl⟩ := hsl.pos (i := (lo + hi) / 2) (by omega)
  obtain ⟨x11, hx11⟩ := get_some (l := l) (m := (lo + hi) / 2) (by omega)
  refine ao_ (qo 6 [(3, .at b9 o9 ((lo + hi) / 2)), (4, .go (outs b9 (o9 + ((lo + hi) / 2) * 5) [.int .i64 x11.num, .int .i64 x11.vcpu, .int .i64 x11.peer, .bool x11.pending, .bool x11.masked]))] [0, 1, 2, 8, 9, 10, 11] [(24, .func (.func g) #[] cb), (28, .agg #[.int .i64 x11.num, .int .i64 x11.vcpu, .int .i64 x11.peer, .bool x11.pending, .bool x11.masked]), (29, .int .i64 k)] ([(some ⟨b9, o9, none⟩ : Option Addr) = some ⟨b9, o9, none⟩, (((lo + hi) / 2 : Nat)) = (((lo + hi) / 2 : Nat) : Int), (lo + hi) / 2 < n] ++ (cellsP w b9 (o9 + ((lo + hi) / 2) * 5) [.int .i64 x11.num, .int .i64 x11.vcpu, .int .i64 x11.peer, .bool x11.pending, .bool x11.masked])) (alA (al2 rfl (al2 rfl (al1 (by omega)))) (rd_pre (hsl.get hx11) _ rfl)) (cD (.int .i64 (c x11)) hg (fun w hw => hc x11 (List.mem_of_getElem? hx11) w hw.below) ?_))
  by_cases q14 : (c x11 : Int) < (0 : Int)
  ·
   refine qo 1 [(7, .yes)] [0, 1, 2, 8, 9, 10, 11] [(31, .bool true)] ([(c x11 : Int) < (0 : Int)]) (al1 q14) (on_ (ds_ (t_ (qa [(1, .fit)] [0, 1, 2, 8, 10] [(9, .int .i64 (((lo + hi) / 2 + 1 : Nat)))] ([Fit .i64 (((lo + hi) / 2 + 1 : Nat))]) (al1 (fit64 (by omega) (by omega))) (done_block ?_)))))
   exact dr [0, 1, 2, 8, 9, 10] ((lo + hi) / 2 + 1, hi) ⟨by omega, by omega, bsk_low hI ha hx11 ((hs x11 (List.mem_of_getElem? hx11)).1.1 q14)⟩
  ·
   refine qo 1 [(7, .no)] [0, 1, 2, 8, 9, 10, 11] [(31, .bool false)] ([¬ ((c x11 : Int) < (0 : Int))]) (al1 q14) (on_ (ds_ (f_ (qa0 [] [0, 1, 2, 8, 9] [(10, .int .i64 (((lo + hi) / 2 : Nat)))] (done_block ?_)))))
   exact dr [0, 1, 2, 8, 9, 10] (lo, (lo + hi) / 2) ⟨by omega, by omega, bsk_high hI ha hx11 (fun h => q14 ((hs x11 (List.mem_of_getElem? hx11)).1.2 h))⟩
 ·
  refine qa [(2, .no)] [0, 1, 2, 8, 9, 10] [(17, .bool false)] ([¬ (((lo : Nat) : Int) < ((hi : Nat) : Int))]) (al1 q5) (ds_ (f_ (at_leave _ rfl (ds_ (sq_ ?_)))))
  by_cases q21 : ((lo : Nat) : Int) < ((n : Nat) : Int)
  ·
   obtain ⟨b23, o23, rfl⟩ := hsl.pos (i := lo) (by omega)
   obtain ⟨x25, hx25⟩ := get_some (l := l) (m := lo) (by omega)
   refine ao_ (qo 11 [(3, .yes), (8, .at b23 o23 lo), (9, .go (outs b23 (o23 + lo * 5) [.int .i64 x25.num, .int .i64 x25.vcpu, .int .i64 x25.peer, .bool x25.pending, .bool x25.masked]))] [] [(35, .int .i64 ((lo : Nat))), (39, .bool true), (40, .func (.func g) #[] cb), (44, .agg #[.int .i64 x25.num, .int .i64 x25.vcpu, .int .i64 x25.peer, .bool x25.pending, .bool x25.masked]), (45, .int .i64 k)] ([((lo : Nat) : Int) < ((n : Nat) : Int)] ++ ([(some ⟨b23, o23, none⟩ : Option Addr) = some ⟨b23, o23, none⟩, ((lo : Nat)) = ((lo : Nat) : Int), lo < n] ++ (cellsP w b23 (o23 + lo * 5) [.int .i64 x25.num, .int .i64 x25.vcpu, .int .i64 x25.peer, .bool x25.pending, .bool x25.masked]))) (alA (al1 q21) (alA (al2 rfl (al2 rfl (al1 (by omega)))) (rd_pre (hsl.get hx25) _ rfl))) (cD (.int .i64 (c x25)) hg (fun w hw => hc x25 (List.mem_of_getElem? hx25) w hw.below) ?_))
   by_cases q28 : (c x25 : Int) = (0 : Int)
   ·
    refine qo 4 [(12, .yes)] [] [(6, .int .i64 ((lo : Nat))), (7, .bool true)] ([(c x25 : Int) = (0 : Int)]) (al1 q28) (on_ (ds_ (rt ([]) (.tuple #[.int .i64 ((lo : Nat)), .bool true]) ?_)))
    exact fun w' hw => ⟨by rw [bsk_end hI (by omega) h1 (by omega), hask_found hx25 ((hs x25 (List.mem_of_getElem? hx25)).2.1 q28)], hw.below⟩
   ·
    refine qo 4 [(12, .no)] [] [(6, .int .i64 ((lo : Nat))), (7, .bool false)] ([¬ ((c x25 : Int) = (0 : Int))]) (al1 q28) (on_ (ds_ (rt ([]) (.tuple #[.int .i64 ((lo : Nat)), .bool false]) ?_)))
    exact fun w' hw => ⟨by rw [bsk_end hI (by omega) h1 (by omega), hask_other hI (by omega) h1 ha hx25 (fun h => q28 ((hs x25 (List.mem_of_getElem? hx25)).2.2 h))], hw.below⟩
  ·
   refine qa [(3, .no)] [] [(6, .int .i64 ((lo : Nat))), (7, .bool false)] ([¬ (((lo : Nat) : Int) < ((n : Nat) : Int))]) (al1 q21) (ds_ (rt ([]) (.tuple #[.int .i64 ((lo : Nat)), .bool false]) ?_))
   exact fun w' hw => ⟨by rw [bsk_end hI (by omega) h1 (by omega), hask_none hI (by omega) h1 (by omega)], hw.below⟩

set_option maxRecDepth 100000 in
theorem at_d (p : Option Addr) (n cap : Nat) (l : List Port) (k : Int) (w : World)
 (hsl : Sv w p l) (hn : n = l.length) (hb : n ≤ 1000)
 (hall : ∀ x ∈ l, 1 ≤ x.num ∧ x.num ≤ 32) (ha : Asc l)
 (h1 : 1 ≤ k) (h2 : k ≤ 32)
 : Calls Try.prog 59 #[.slice p n cap, .int .i64 k] w fun e w' => e = .returned (.tuple #[.int .i64 (posB l k : Nat), .bool (hasB l k)]) ∧ Below w.heap.size w w' := by
 refine enter (Hs.start w) Try.func59 rfl Try.ntmps59 rfl (sq_ (qa0 [] [0, 1] [] (ds_ (sq_ (ao_ (qo0 2 [] [] [(6, .slice p n cap), (7, .int .i64 k)] (cD (.tuple #[.int .i64 ((posB l k : Nat)), .bool (hasB l k)]) Try.call75 (fun w hw => bsearch_port 76 #[] p n cap l Port.num (fun x => x.num - k) k w Try.call76 (hsl.kept hw.below) hn (by omega) (fun x hx w' _ => at1_d x k w' (by have := hall x hx; omega) (by have := hall x hx; omega)) (fun x hx => by have := hall x hx; constructor <;> constructor <;> intro h <;> omega) ha) (qo0 4 [] [] [(4, .int .i64 ((posB l k : Nat))), (5, .bool (hasB l k))] (on_ (ds_ (rt ([]) (.tuple #[.int .i64 ((posB l k : Nat)), .bool (hasB l k)]) ?_)))))))))))
 exact fun w' hw => ⟨rfl, hw.below⟩

set_option maxRecDepth 100000 in
theorem port_d (p : Option Addr) (n cap : Nat) (l : List Port) (k : Int) (w : World)
 (hsl : Sv w p l) (hn : n = l.length) (hb : n ≤ 1000)
 (hall : ∀ x ∈ l, 1 ≤ x.num ∧ x.num ≤ 32) (ha : Asc l)
 : Calls Try.prog 32 #[.slice p n cap, .int .i64 k] w fun e w' => e = .returned (portV p l k) ∧ Below w.heap.size w w' := by
 refine enter (Hs.start w) Try.func32 rfl Try.ntmps32 rfl (sq_ (qa0 [] [0, 1] [] (ds_ (sq_ (sq_ ?_)))))
 by_cases q3 : (k : Int) < (1 : Int)
 ·
  refine qa [(1, .yes)] [0, 1] [(12, .bool true)] ([(k : Int) < (1 : Int)]) (al1 q3) (ds_ (t_ (sq_ (qa0 [] [] [(4, .pointer none)] (ds_ (rt ([]) (.pointer none) ?_))))))
  exact fun w' hw => ⟨by rw [portV_out hall (by omega)], hw.below⟩
 ·
  by_cases q7 : (k : Int) > (32 : Int)
  ·
   refine qa [(1, .no), (4, .yes)] [0, 1] [(12, .bool true)] ([¬ ((k : Int) < (1 : Int))] ++ ([(k : Int) > (32 : Int)])) (alA (al1 q3) (al1 q7)) (ds_ (t_ (sq_ (qa0 [] [] [(4, .pointer none)] (ds_ (rt ([]) (.pointer none) ?_))))))
   exact fun w' hw => ⟨by rw [portV_out hall (by omega)], hw.below⟩
  ·
   refine qa [(1, .no), (4, .no)] [0, 1] [(12, .bool false)] ([¬ ((k : Int) < (1 : Int))] ++ ([¬ ((k : Int) > (32 : Int))])) (alA (al1 q3) (al1 q7)) (ds_ (f_ (at_skip (ds_ (sq_ (ao_ (qo0 2 [] [0] [(14, .slice p n cap), (15, .int .i64 k)] ?_)))))))
   rcases q12 : hasB l k with _ | _
   ·
    refine cD (.tuple #[.int .i64 ((posB l k : Nat)), .bool false]) Try.call59 (fun w hw => by have := at_d p n cap l k w (hsl.kept hw.below) hn hb hall ha (by omega) (by omega); rw [q12] at this; exact this) (qo0 5 [] [0] [(5, .int .i64 ((posB l k : Nat))), (6, .bool false)] (on_ (ds_ (sq_ (sq_ (qa0 [] [0, 5] [(20, .bool true)] (ds_ (t_ (sq_ (qa0 [] [] [(4, .pointer none)] (ds_ (rt ([]) (.pointer none) ?_))))))))))))
    exact fun w' hw => ⟨by simp [portV, q12], hw.below⟩
   ·
    refine cD (.tuple #[.int .i64 ((posB l k : Nat)), .bool true]) Try.call59 (fun w hw => by have := at_d p n cap l k w (hsl.kept hw.below) hn hb hall ha (by omega) (by omega); rw [q12] at this; exact this) ?_
    have hpl := pos_lt ha q12
    refine qo0 5 [] [0] [(5, .int .i64 ((posB l k : Nat))), (6, .bool true)] (on_ (ds_ (sq_ (sq_ (qa0 [] [0, 5] [(20, .bool false)] (ds_ (f_ (at_skip (ds_ (sq_ ?_))))))))))
    obtain ⟨b19, o19, rfl⟩ := hsl.pos (i := posB l k) (by omega)
    refine qa [(2, .at b19 o19 (posB l k))] [] [(4, .pointer (some ⟨b19, o19 + (posB l k) * 5, none⟩))] ([(some ⟨b19, o19, none⟩ : Option Addr) = some ⟨b19, o19, none⟩, ((posB l k : Nat)) = ((posB l k : Nat) : Int), posB l k < n]) (al2 rfl (al2 rfl (al1 (by omega)))) (ds_ (rt ([]) (.pointer (some ⟨b19, o19 + (posB l k) * 5, none⟩)) ?_))
    exact fun w' hw => ⟨by simp [portV, q12], hw.below⟩
end Go.Proofs.Ytfhlmijdokfdpaa

/-! event.Check. -/
namespace Go.Proofs.Ytfhlmijdokfdpaa
open Go Go.RowKit

set_option maxRecDepth 100000 in
theorem check_d (p : Option Addr) (n cap : Nat) (l : List Port) (w : World)
 (hsl : Sv w p l) (hn : n = l.length) (hb : n ≤ 1000)
 : Calls Try.prog 16 #[.agg #[.slice p n cap]] w fun e w' => e = .returned (.int .i64 (if rightB l then 0 else 260)) ∧ Below w.heap.size w w' := by
 refine enter (Hs.start w) Try.func16 rfl Try.ntmps16 rfl (sq_ (ma0 [] [] (fun γ1 => [(1, .pointer (some ⟨γ1 0, 0, none⟩))]) (fun γ1 L => bx (γ1 0) (#[.slice p n cap]) 24 :: L) (fun γ1 => ds_ (sq_ (qa0 [] [1] [(3, .int .i64 0)] (ds_ (sq_ (sq_ (qa0 [(1, .go (owns 0 0 1))] [1, 3] [(10, .slice p n cap), (11, .int .i64 ((n : Nat))), (12, .int .i64 0)] (ds_ (at_block (at_loop (α := Nat × Int) [1, 3, 10, 11, 12] (fun ⟨j, last⟩ => [(1, .pointer (some ⟨γ1 0, 0, none⟩)), (3, .int .i64 last), (10, .slice p n cap), (11, .int .i64 ((n : Nat))), (12, .int .i64 ((j : Nat)))]) (fun ⟨j, last⟩ => [bx (γ1 0) (#[.slice p n cap]) 24]) (fun ⟨j, last⟩ => j ≤ n ∧ risB last (l.drop j) = risB 0 l) (fun ⟨j, last⟩ => n - j) (0, 0) (by kernel_rfl) rfl ⟨Nat.zero_le _, rfl⟩ ?_))))))))))))
 rintro ⟨j, last⟩
 rintro ⟨hj, hI⟩
 refine sq_ ?_
 by_cases q5 : ((j : Nat) : Int) < ((n : Nat) : Int)
 ·
  refine qa [(0, .yes)] [1, 3, 10, 11, 12] [(13, .bool true)] ([((j : Nat) : Int) < ((n : Nat) : Int)]) (al1 q5) (ds_ (sq_ (t_ (at_skip (ds_ (sq_ (at_block (sq_ ?_))))))))
  obtain ⟨b8, o8, rfl⟩ := hsl.pos (i := j) (by omega)
  obtain ⟨x10, hx10⟩ := get_some (l := l) (m := j) (by omega)
  refine ma [(0, .at b8 o8 j), (1, .go (outs b8 (o8 + j * 5) [.int .i64 x10.num, .int .i64 x10.vcpu, .int .i64 x10.peer, .bool x10.pending, .bool x10.masked])), (3, .go (owns 0 0 5))] [1, 3, 10, 11, 12] (fun γ11 => [(5, .pointer (some ⟨γ11 0, 0, none⟩))]) (fun γ11 L => bx (γ11 0) (#[.int .i64 x10.num, .int .i64 x10.vcpu, .int .i64 x10.peer, .bool x10.pending, .bool x10.masked]) 40 :: L) (fun γ11 => [(some ⟨b8, o8, none⟩ : Option Addr) = some ⟨b8, o8, none⟩, ((j : Nat)) = ((j : Nat) : Int), j < n] ++ (cellsP w b8 (o8 + j * 5) [.int .i64 x10.num, .int .i64 x10.vcpu, .int .i64 x10.peer, .bool x10.pending, .bool x10.masked])) (fun γ11 => (alA (al2 rfl (al2 rfl (al1 (by omega)))) (rd_pre (hsl.get hx10) _ rfl))) (fun γ11 => ds_ (sq_ (sq_ ?_)))
  by_cases q13 : (x10.num : Int) ≤ (last : Int)
  ·
   refine qa [(1, .go (owns 0 0 1)), (3, .yes)] [1, 5, 10, 11, 12] [(30, .bool true)] ([(x10.num : Int) ≤ (last : Int)]) (al1 q13) (ds_ (t_ (sq_ (qa0 [] [] [(2, .int .i64 260)] (ds_ (rt ([]) (.int .i64 260) ?_))))))
   exact fun w' hw => ⟨by rw [ris_bad hI hx10 (ris_f (by rintro ⟨a, b, c⟩; first | omega | simp_all))]; rfl, hw.below⟩
  ·
   by_cases q17 : (x10.num : Int) > (32 : Int)
   ·
    refine qa [(1, .go (owns 0 0 1)), (3, .no), (6, .go (owns 0 0 1)), (7, .yes)] [1, 5, 10, 11, 12] [(30, .bool true)] ([¬ ((x10.num : Int) ≤ (last : Int))] ++ ([(x10.num : Int) > (32 : Int)])) (alA (al1 q13) (al1 q17)) (ds_ (t_ (sq_ (qa0 [] [] [(2, .int .i64 260)] (ds_ (rt ([]) (.int .i64 260) ?_))))))
    exact fun w' hw => ⟨by rw [ris_bad hI hx10 (ris_f (by rintro ⟨a, b, c⟩; first | omega | simp_all))]; rfl, hw.below⟩
   ·
    refine ao_ (qo 12 [(1, .go (owns 0 0 1)), (3, .no), (6, .go (owns 0 0 1)), (7, .no), (11, .go (owns 0 1 1))] [1, 5, 10, 11, 12] [(25, .bool false), (27, .int .i64 x10.vcpu)] ([¬ ((x10.num : Int) ≤ (last : Int))] ++ ([¬ ((x10.num : Int) > (32 : Int))])) (alA (al1 q13) (al1 q17)) ?_)
    rcases q21 : vcpuB x10.vcpu with _ | _
    ·
     refine cD (.bool false) Try.call31 (fun w hw => by have := vcpu_d x10.vcpu w; rw [q21] at this; exact this) (qo0 2 [] [1, 5, 10, 11, 12] [(30, .bool true)] (on_ (ds_ (t_ (sq_ (qa0 [] [] [(2, .int .i64 260)] (ds_ (rt ([]) (.int .i64 260) ?_))))))))
     exact fun w' hw => ⟨by rw [ris_bad hI hx10 (ris_f (by rintro ⟨a, b, c⟩; first | omega | simp_all))]; rfl, hw.below⟩
    ·
     refine cD (.bool true) Try.call31 (fun w hw => by have := vcpu_d x10.vcpu w; rw [q21] at this; exact this) (qo0 2 [] [1, 5, 10, 11, 12] [(30, .bool false)] (on_ (ds_ (f_ (at_skip (ds_ (qa0 [(1, .go (owns 0 0 1))] [1, 10, 11, 12] [(3, .int .i64 x10.num)] (done_block (ds_ (qa [(0, .fit)] [1, 3, 10, 11] [(12, .int .i64 ((j + 1 : Nat)))] ([Fit .i64 ((j + 1 : Nat))]) (al1 (fit64 (by omega) (by omega))) (Done.drop (L' := [bx (γ1 0) (#[.slice (some ⟨b8, o8, none⟩) n cap]) 24]) ?_ (List.Sublist.cons _ (List.Sublist.cons_cons _ (List.Sublist.refl _))))))))))))))
     exact dr [1, 3, 10, 11, 12] (j + 1, x10.num) ⟨by omega, ris_on hI hx10 (ris_t (by omega) (by omega) (by simp [*]))⟩
 ·
  refine qa [(0, .no)] [1, 3, 10, 11, 12] [(13, .bool false)] ([¬ (((j : Nat) : Int) < ((n : Nat) : Int))]) (al1 q5) (ds_ (sq_ (f_ (at_leave _ rfl (ds_ (sq_ (sq_ (qa0 [(1, .go (owns 0 0 1))] [1] [(35, .slice p n cap), (36, .int .i64 ((n : Nat))), (37, .int .i64 0)] (ds_ (at_block ?_))))))))))
  have hr := ris_end hI (by omega)
  refine at_loop (α := Nat) [1, 35, 36, 37] (fun j => [(1, .pointer (some ⟨γ1 0, 0, none⟩)), (35, .slice p n cap), (36, .int .i64 ((n : Nat))), (37, .int .i64 ((j : Nat)))]) (fun j => [bx (γ1 0) (#[.slice p n cap]) 24]) (fun j => j ≤ n ∧ (l.drop j).all (linkB l) = l.all (linkB l)) (fun j => n - j) 0 (by kernel_rfl) rfl ⟨Nat.zero_le _, by rw [List.drop_zero]⟩ ?_
  rintro j
  rintro ⟨hj, hI⟩
  refine sq_ ?_
  by_cases q30 : ((j : Nat) : Int) < ((n : Nat) : Int)
  ·
   refine qa [(0, .yes)] [1, 35, 36, 37] [(38, .bool true)] ([((j : Nat) : Int) < ((n : Nat) : Int)]) (al1 q30) (ds_ (sq_ (t_ (at_skip (ds_ (sq_ (at_block (sq_ ?_))))))))
   obtain ⟨b33, o33, rfl⟩ := hsl.pos (i := j) (by omega)
   obtain ⟨x35, hx35⟩ := get_some (l := l) (m := j) (by omega)
   refine ma [(0, .at b33 o33 j), (1, .go (outs b33 (o33 + j * 5) [.int .i64 x35.num, .int .i64 x35.vcpu, .int .i64 x35.peer, .bool x35.pending, .bool x35.masked])), (3, .go (owns 0 0 5))] [1, 35, 36, 37] (fun γ36 => [(7, .pointer (some ⟨γ36 0, 0, none⟩))]) (fun γ36 L => bx (γ36 0) (#[.int .i64 x35.num, .int .i64 x35.vcpu, .int .i64 x35.peer, .bool x35.pending, .bool x35.masked]) 40 :: L) (fun γ36 => [(some ⟨b33, o33, none⟩ : Option Addr) = some ⟨b33, o33, none⟩, ((j : Nat)) = ((j : Nat) : Int), j < n] ++ (cellsP w b33 (o33 + j * 5) [.int .i64 x35.num, .int .i64 x35.vcpu, .int .i64 x35.peer, .bool x35.pending, .bool x35.masked])) (fun γ36 => (alA (al2 rfl (al2 rfl (al1 (by omega)))) (rd_pre (hsl.get hx35) _ rfl))) (fun γ36 => ds_ (sq_ (sq_ ?_)))
   by_cases q38 : (x35.peer : Int) = (0 : Int)
   ·
    refine qa [(1, .go (owns 0 2 1)), (2, .yes)] [1, 7, 35, 36, 37] [(43, .bool true)] ([(x35.peer : Int) = (0 : Int)]) (al1 q38) (ds_ (t_ (at_leave _ rfl (ds_ (qa [(0, .fit)] [1, 35, 36] [(37, .int .i64 ((j + 1 : Nat)))] ([Fit .i64 ((j + 1 : Nat))]) (al1 (fit64 (by omega) (by omega))) (Done.drop (L' := [bx (γ1 0) (#[.slice (some ⟨b33, o33, none⟩) n cap]) 24]) ?_ (List.Sublist.cons _ (List.Sublist.cons_cons _ (List.Sublist.refl _)))))))))
    exact dr [1, 35, 36, 37] (j + 1) ⟨by omega, link_on hI hx35 (by first | exact link_zero (by assumption) | (rw [link_some (by assumption) hg]; simp only [Bool.and_eq_true, decide_eq_true_eq, Bool.not_eq_true', decide_eq_false_iff_not]; omega))⟩
   ·
    refine qa [(1, .go (owns 0 2 1)), (2, .no)] [1, 7, 35, 36, 37] [(43, .bool false)] ([¬ ((x35.peer : Int) = (0 : Int))]) (al1 q38) (ds_ (f_ (at_skip (ds_ (sq_ (ao_ (qo0 4 [(1, .go (owns 1 0 1)), (3, .go (owns 0 2 1))] [1, 7, 35, 36, 37] [(45, .slice (some ⟨b33, o33, none⟩) n cap), (47, .int .i64 x35.peer)] ?_)))))))
    rcases hg : getB l x35.peer with _ | y
    ·
     refine cD (.pointer none) Try.call32 (fun w hw => by have := port_d (some ⟨b33, o33, none⟩) n cap l x35.peer w (hsl.kept hw.below) hn hb (ris_all hr) (ris_asc l 0 hr); rw [portV_none hg] at this; exact this) (qo0 1 [] [1, 7, 35, 36, 37] [(8, .pointer none)] (on_ (ds_ (sq_ (cq [] [1, 35, 36, 37] [(68, .bool true)] ([]) rfl (by kernel_rfl) (by kernel_rfl) (by kernel_rfl) al0 (ds_ (t_ (sq_ (qa0 [] [] [(2, .int .i64 260)] (ds_ (rt ([]) (.int .i64 260) ?_)))))))))))
     exact fun w' hw => ⟨by rw [link_bad hI hx35 (by first | exact link_none (by assumption) hg | (rw [link_some (by assumption) hg]; simp only [Bool.and_eq_false_iff, decide_eq_false_iff_not, Bool.not_eq_false', decide_eq_true_eq]; omega))]; rfl, hw.below⟩
    ·
     obtain ⟨hy1, hy2⟩ := get_pos (ris_asc l 0 hr) hg
     refine cD (.pointer (some ⟨b33, o33 + (posB l x35.peer) * 5, none⟩)) Try.call32 (fun w hw => by have := port_d (some ⟨b33, o33, none⟩) n cap l x35.peer w (hsl.kept hw.below) hn hb (ris_all hr) (ris_asc l 0 hr); rw [portV_some hg] at this; exact this) (qo0 1 [] [1, 7, 35, 36, 37] [(8, .pointer (some ⟨b33, o33 + (posB l x35.peer) * 5, none⟩))] (on_ (ds_ (sq_ ?_))))
     by_cases q49 : (y.peer : Int) ≠ (x35.num : Int)
     ·
      refine cq [(6, .go (outs b33 (o33 + (posB l x35.peer) * 5 + 2) [.int .i64 y.peer])), (8, .go (owns 0 0 1)), (9, .yes)] [1, 35, 36, 37] [(68, .bool true)] (cellsP w b33 (o33 + (posB l x35.peer) * 5 + 2) [.int .i64 y.peer] ++ ([(y.peer : Int) ≠ (x35.num : Int)])) rfl (by kernel_rfl) (by kernel_rfl) (by kernel_rfl) (alA (rd_part (hsl.get hy1) 2 _ rfl) (al1 q49)) (ds_ (t_ (sq_ (qa0 [] [] [(2, .int .i64 260)] (ds_ (rt ([]) (.int .i64 260) ?_))))))
      exact fun w' hw => ⟨by rw [link_bad hI hx35 (by first | exact link_none (by assumption) hg | (rw [link_some (by assumption) hg]; simp only [Bool.and_eq_false_iff, decide_eq_false_iff_not, Bool.not_eq_false', decide_eq_true_eq]; omega))]; rfl, hw.below⟩
     ·
      by_cases q53 : (y.num : Int) = (x35.num : Int)
      ·
       refine cq [(6, .go (outs b33 (o33 + (posB l x35.peer) * 5 + 2) [.int .i64 y.peer])), (8, .go (owns 0 0 1)), (9, .no), (15, .go (outs b33 (o33 + (posB l x35.peer) * 5) [.int .i64 y.num])), (17, .go (owns 0 0 1)), (18, .yes)] [1, 35, 36, 37] [(68, .bool true)] (cellsP w b33 (o33 + (posB l x35.peer) * 5 + 2) [.int .i64 y.peer] ++ ([¬ ((y.peer : Int) ≠ (x35.num : Int))] ++ (cellsP w b33 (o33 + (posB l x35.peer) * 5) [.int .i64 y.num] ++ ([(y.num : Int) = (x35.num : Int)])))) rfl (by kernel_rfl) (by kernel_rfl) (by kernel_rfl) (alA (rd_part (hsl.get hy1) 2 _ rfl) (alA (al1 q49) (alA (rd_pre (hsl.get hy1) _ rfl) (al1 q53)))) (ds_ (t_ (sq_ (qa0 [] [] [(2, .int .i64 260)] (ds_ (rt ([]) (.int .i64 260) ?_))))))
       exact fun w' hw => ⟨by rw [link_bad hI hx35 (by first | exact link_none (by assumption) hg | (rw [link_some (by assumption) hg]; simp only [Bool.and_eq_false_iff, decide_eq_false_iff_not, Bool.not_eq_false', decide_eq_true_eq]; omega))]; rfl, hw.below⟩
      ·
       refine cq [(6, .go (outs b33 (o33 + (posB l x35.peer) * 5 + 2) [.int .i64 y.peer])), (8, .go (owns 0 0 1)), (9, .no), (15, .go (outs b33 (o33 + (posB l x35.peer) * 5) [.int .i64 y.num])), (17, .go (owns 0 0 1)), (18, .no)] [1, 35, 36, 37] [(68, .bool false)] (cellsP w b33 (o33 + (posB l x35.peer) * 5 + 2) [.int .i64 y.peer] ++ ([¬ ((y.peer : Int) ≠ (x35.num : Int))] ++ (cellsP w b33 (o33 + (posB l x35.peer) * 5) [.int .i64 y.num] ++ ([¬ ((y.num : Int) = (x35.num : Int))])))) rfl (by kernel_rfl) (by kernel_rfl) (by kernel_rfl) (alA (rd_part (hsl.get hy1) 2 _ rfl) (alA (al1 q49) (alA (rd_pre (hsl.get hy1) _ rfl) (al1 q53)))) (ds_ (f_ (at_skip (done_block (ds_ (qa [(0, .fit)] [1, 35, 36] [(37, .int .i64 ((j + 1 : Nat)))] ([Fit .i64 ((j + 1 : Nat))]) (al1 (fit64 (by omega) (by omega))) (Done.drop (L' := [bx (γ1 0) (#[.slice (some ⟨b33, o33, none⟩) n cap]) 24]) ?_ (List.Sublist.cons _ (List.Sublist.cons_cons _ (List.Sublist.refl _))))))))))
       exact dr [1, 35, 36, 37] (j + 1) ⟨by omega, link_on hI hx35 (by first | exact link_zero (by assumption) | (rw [link_some (by assumption) hg]; simp only [Bool.and_eq_true, decide_eq_true_eq, Bool.not_eq_true', decide_eq_false_iff_not]; omega))⟩
  ·
   refine qa [(0, .no)] [1, 35, 36, 37] [(38, .bool false)] ([¬ (((j : Nat) : Int) < ((n : Nat) : Int))]) (al1 q30) (ds_ (sq_ (f_ (at_leave _ rfl (ds_ (sq_ (qa0 [] [] [(2, .int .i64 0)] (ds_ (rt ([]) (.int .i64 0) ?_)))))))))
   exact fun w' hw => ⟨by rw [right_end hI (by omega) hr]; rfl, hw.below⟩
end Go.Proofs.Ytfhlmijdokfdpaa

/-! Two ports compared. -/
namespace Go.Proofs.Ytfhlmijdokfdpaa
open Go Go.RowKit

theorem port_eqRun (op : BinOp) (hop : op = .eql ∨ op = .neq) (x y : Operand) (a b : Port) (r : Bool) (hr : r = (if op = .eql then decide (a = b) else !decide (a = b))) : EqRun Try.prog op 40 x y a.val b.val r := by
  intro w
  subst hr
  have hS : Try.prog.underlying 40 = some (.struct (Try.prog.fieldsOf 40)) := by kernel_rfl
  have hp : Try.prog.stoodInHeld 40 = false := by kernel_rfl
  have hg : Try.prog.eqGuardType Try.prog.depth 40 = false := by kernel_rfl
  have key : (Op.equal 40 a.val b.val).run Try.prog w = .ok (decide (a = b)) w := by
    unfold Op.equal
    rw [show Op.maxDepth = 9999 + 1 from rfl, run_equalIn_struct w 9999 40 _ _ hS hp]
    simp only [Program.fieldsOf, Try.underlying40]
    go_simp
    obtain ⟨a1, a2, a3, a4, a5⟩ := a
    obtain ⟨b1, b2, b3, b4, b5⟩ := b
    simp only [Port.mk.injEq]
    by_cases h1 : a1 = b1 <;> by_cases h2 : a2 = b2 <;> by_cases h3 : a3 = b3 <;> by_cases h4 : a4 = b4 <;> by_cases h5 : a5 = b5 <;> simp [h1, h2, h3, h4, h5]
  have guard : (eqGuard op 40 x y a.val b.val).run Try.prog w = .ok () w := by
    unfold eqGuard
    rcases hop with rfl | rfl <;> simp [hg]
  rw [Sem.run_bind, guard]
  simp only [Result.andThen_ok]
  rcases hop with rfl | rfl <;> simp [binOp, Sem.run_bind, key]
theorem port_eq_t {x y : Operand} {a b : Port} (h : a = b) : EqRun Try.prog .eql 40 x y a.val b.val true := port_eqRun _ (.inl rfl) x y a b _ (by simp [h])
theorem port_eq_f {x y : Operand} {a b : Port} (h : ¬ a = b) : EqRun Try.prog .eql 40 x y a.val b.val false := port_eqRun _ (.inl rfl) x y a b _ (by simp [h])
theorem port_ne_t {x y : Operand} {a b : Port} (h : a = b) : EqRun Try.prog .neq 40 x y a.val b.val false := port_eqRun _ (.inr rfl) x y a b _ (by simp [h])
theorem port_ne_f {x y : Operand} {a b : Port} (h : ¬ a = b) : EqRun Try.prog .neq 40 x y a.val b.val true := port_eqRun _ (.inr rfl) x y a b _ (by simp [h])
end Go.Proofs.Ytfhlmijdokfdpaa

/-! The reference's readers. -/
namespace Go.Proofs.Ytfhlmijdokfdpaa
open Go Go.RowKit

set_option maxRecDepth 100000 in
theorem find_d (p : Option Addr) (n cap : Nat) (l : List Port) (k : Int) (w : World)
    (hsl : Sv w p l) (hn : n = l.length) (hb : n ≤ 1000)
    : Calls Try.prog 34 #[.agg #[.slice p n cap], .int .i64 k] w fun e w' => e = .returned (.int .i64 (findI l k)) ∧ Below w.heap.size w w' := by
  refine enter (Hs.start w) Try.func34 rfl Try.ntmps34 rfl (sq_ (ma0 [] [1] (fun γ1 => [(2, .pointer (some ⟨γ1 0, 0, none⟩))]) (fun γ1 L => bx (γ1 0) (#[.slice p n cap]) 24 :: L) (fun γ1 => ds_ (sq_ (sq_ (qa0 [(1, .go (owns 0 0 1))] [1] [(8, .slice p n cap), (9, .int .i64 ((n : Nat))), (10, .int .i64 0)] (ds_ (at_block (at_loop (α := Nat) [1, 8, 9, 10] (fun j => [(1, .int .i64 k), (8, .slice p n cap), (9, .int .i64 ((n : Nat))), (10, .int .i64 ((j : Nat)))]) (fun j => [bx (γ1 0) (#[.slice p n cap]) 24]) (fun j => j ≤ n ∧ ∀ (t : Nat) (y : Port), t < j → l[t]? = some y → ¬ y.num = k) (fun j => n - j) 0 (by kernel_rfl) rfl ⟨Nat.zero_le _, fun t y h => by omega⟩ ?_)))))))))
  rintro j
  rintro ⟨hj, hI⟩
  refine sq_ ?_
  by_cases q4 : ((j : Nat) : Int) < ((n : Nat) : Int)
  ·
    refine qa [(0, .yes)] [1, 8, 9, 10] [(11, .bool true)] ([((j : Nat) : Int) < ((n : Nat) : Int)]) (al1 q4) (ds_ (sq_ (t_ (at_skip (ds_ (sq_ (at_block (sq_ ?_))))))))
    obtain ⟨b7, o7, rfl⟩ := hsl.pos (i := j) (by omega)
    obtain ⟨x9, hx9⟩ := get_some (l := l) (m := j) (by omega)
    refine ma [(1, .at b7 o7 j), (2, .go (outs b7 (o7 + j * 5) [.int .i64 x9.num, .int .i64 x9.vcpu, .int .i64 x9.peer, .bool x9.pending, .bool x9.masked])), (5, .go (owns 0 0 5))] [1, 8, 9, 10] (fun γ10 => [(5, .int .i64 ((j : Nat))), (6, .pointer (some ⟨γ10 0, 0, none⟩))]) (fun γ10 L => bx (γ10 0) (#[.int .i64 x9.num, .int .i64 x9.vcpu, .int .i64 x9.peer, .bool x9.pending, .bool x9.masked]) 40 :: L) (fun γ10 => [(some ⟨b7, o7, none⟩ : Option Addr) = some ⟨b7, o7, none⟩, ((j : Nat)) = ((j : Nat) : Int), j < n] ++ (cellsP w b7 (o7 + j * 5) [.int .i64 x9.num, .int .i64 x9.vcpu, .int .i64 x9.peer, .bool x9.pending, .bool x9.masked])) (fun γ10 => (alA (al2 rfl (al2 rfl (al1 (by omega)))) (rd_pre (hsl.get hx9) _ rfl))) (fun γ10 => ds_ (sq_ ?_))
    by_cases q12 : (x9.num : Int) = (k : Int)
    ·
      refine qa [(1, .go (owns 0 0 1)), (3, .yes)] [1, 5, 8, 9, 10] [(18, .bool true)] ([(x9.num : Int) = (k : Int)]) (al1 q12) (ds_ (t_ (sq_ (qa0 [] [] [(4, .int .i64 ((j : Nat)))] (ds_ (rt ([]) (.int .i64 ((j : Nat))) ?_))))))
      exact fun w' hw => ⟨by rw [find_hit hI hx9 (by assumption)], hw.below⟩
    ·
      refine qa [(1, .go (owns 0 0 1)), (3, .no)] [1, 5, 8, 9, 10] [(18, .bool false)] ([¬ ((x9.num : Int) = (k : Int))]) (al1 q12) (ds_ (f_ (at_skip (done_block (ds_ (qa [(0, .fit)] [1, 8, 9] [(10, .int .i64 ((j + 1 : Nat)))] ([Fit .i64 ((j + 1 : Nat))]) (al1 (fit64 (by omega) (by omega))) (Done.drop (L' := [bx (γ1 0) (#[.slice (some ⟨b7, o7, none⟩) n cap]) 24]) ?_ (List.Sublist.cons _ (List.Sublist.cons_cons _ (List.Sublist.refl _))))))))))
      exact done_round [1, 8, 9, 10] (j + 1) (by kernel_rfl) rfl ⟨by omega, fun t y ht e => by
          by_cases htj : t = j
          · subst htj; rw [hx9] at e; cases e; assumption
          · exact hI t y (by omega) e⟩ (by first | omega | (simp only; omega))
  ·
    refine qa [(0, .no)] [1, 8, 9, 10] [(11, .bool false)] ([¬ (((j : Nat) : Int) < ((n : Nat) : Int))]) (al1 q4) (ds_ (sq_ (f_ (at_leave _ rfl (ds_ (sq_ (qa0 [] [] [(4, .int .i64 (-1))] (ds_ (rt ([]) (.int .i64 (-1)) ?_)))))))))
    exact fun w' hw => ⟨by rw [← find_miss hI (by omega)], hw.below⟩

set_option maxRecDepth 100000 in
theorem rright_d (p : Option Addr) (n cap : Nat) (l : List Port) (w : World)
    (hsl : Sv w p l) (hn : n = l.length) (hb : n ≤ 1000)
    : Calls Try.prog 13 #[.agg #[.slice p n cap]] w fun e w' => e = .returned (.bool (rightB l)) ∧ Below w.heap.size w w' := by
  refine enter (Hs.start w) Try.func13 rfl Try.ntmps13 rfl (sq_ (ma0 [] [] (fun γ1 => [(1, .pointer (some ⟨γ1 0, 0, none⟩))]) (fun γ1 L => bx (γ1 0) (#[.slice p n cap]) 24 :: L) (fun γ1 => ds_ (sq_ (sq_ (qa0 [(1, .go (owns 0 0 1))] [1] [(7, .slice p n cap), (8, .int .i64 ((n : Nat))), (9, .int .i64 0)] (ds_ (at_block (at_loop (α := Nat) [1, 7, 8, 9] (fun j => [(1, .pointer (some ⟨γ1 0, 0, none⟩)), (7, .slice p n cap), (8, .int .i64 ((n : Nat))), (9, .int .i64 ((j : Nat)))]) (fun j => [bx (γ1 0) (#[.slice p n cap]) 24]) (fun j => j ≤ n ∧ ∀ (t : Nat) (y : Port), t < j → l[t]? = some y → OkAt l t y) (fun j => n - j) 0 (by kernel_rfl) rfl ⟨Nat.zero_le _, fun t y h => by omega⟩ ?_)))))))))
  rintro j
  rintro ⟨hj, hI⟩
  refine sq_ ?_
  by_cases q4 : ((j : Nat) : Int) < ((n : Nat) : Int)
  ·
    refine qa [(0, .yes)] [1, 7, 8, 9] [(10, .bool true)] ([((j : Nat) : Int) < ((n : Nat) : Int)]) (al1 q4) (ds_ (sq_ (t_ (at_skip (ds_ (sq_ (at_block (sq_ ?_))))))))
    obtain ⟨b7, o7, rfl⟩ := hsl.pos (i := j) (by omega)
    obtain ⟨x9, hx9⟩ := get_some (l := l) (m := j) (by omega)
    refine ma [(1, .at b7 o7 j), (2, .go (outs b7 (o7 + j * 5) [.int .i64 x9.num, .int .i64 x9.vcpu, .int .i64 x9.peer, .bool x9.pending, .bool x9.masked])), (5, .go (owns 0 0 5))] [1, 7, 8, 9] (fun γ10 => [(3, .int .i64 ((j : Nat))), (4, .pointer (some ⟨γ10 0, 0, none⟩))]) (fun γ10 L => bx (γ10 0) (#[.int .i64 x9.num, .int .i64 x9.vcpu, .int .i64 x9.peer, .bool x9.pending, .bool x9.masked]) 40 :: L) (fun γ10 => [(some ⟨b7, o7, none⟩ : Option Addr) = some ⟨b7, o7, none⟩, ((j : Nat)) = ((j : Nat) : Int), j < n] ++ (cellsP w b7 (o7 + j * 5) [.int .i64 x9.num, .int .i64 x9.vcpu, .int .i64 x9.peer, .bool x9.pending, .bool x9.masked])) (fun γ10 => (alA (al2 rfl (al2 rfl (al1 (by omega)))) (rd_pre (hsl.get hx9) _ rfl))) (fun γ10 => ds_ (sq_ (sq_ ?_)))
    by_cases q12 : (x9.num : Int) < (1 : Int)
    ·
      refine cq [(1, .go (owns 0 0 1)), (2, .yes)] [1, 3, 4, 7, 8, 9] [(43, .bool true)] ([(x9.num : Int) < (1 : Int)]) rfl (by kernel_rfl) (by kernel_rfl) (by kernel_rfl) (al1 q12) (ds_ (t_ (sq_ (qa0 [] [] [(2, .bool false)] (ds_ (rt ([]) (.bool false) ?_))))))
      exact fun w' hw => ⟨by rw [right_bad hx9 (fun ⟨a1, a2, a3, a4, a5⟩ => by first | omega | omega | (simp_all; done) | (rcases a5 with e | ⟨y', e1, e2, e3⟩; omega; rw [hg] at e1; cases e1) | (rcases a5 with e | ⟨y', e1, e2, e3⟩; omega; rw [hg] at e1; cases e1; rw [hjf] at e2; omega))], hw.below⟩
    ·
      by_cases q16 : (x9.num : Int) > (32 : Int)
      ·
        refine cq [(1, .go (owns 0 0 1)), (2, .no), (5, .go (owns 0 0 1)), (6, .yes)] [1, 3, 4, 7, 8, 9] [(43, .bool true)] ([¬ ((x9.num : Int) < (1 : Int))] ++ ([(x9.num : Int) > (32 : Int)])) rfl (by kernel_rfl) (by kernel_rfl) (by kernel_rfl) (alA (al1 q12) (al1 q16)) (ds_ (t_ (sq_ (qa0 [] [] [(2, .bool false)] (ds_ (rt ([]) (.bool false) ?_))))))
        exact fun w' hw => ⟨by rw [right_bad hx9 (fun ⟨a1, a2, a3, a4, a5⟩ => by first | omega | omega | (simp_all; done) | (rcases a5 with e | ⟨y', e1, e2, e3⟩; omega; rw [hg] at e1; cases e1) | (rcases a5 with e | ⟨y', e1, e2, e3⟩; omega; rw [hg] at e1; cases e1; rw [hjf] at e2; omega))], hw.below⟩
      ·
        by_cases q20 : ((j : Nat) : Int) > (0 : Int)
        ·
          obtain ⟨x22, hx22⟩ := get_some (l := l) (m := j - 1) (by omega)
          by_cases q24 : (x22.num : Int) ≥ (x9.num : Int)
          ·
            refine cq [(1, .go (owns 0 0 1)), (2, .no), (5, .go (owns 0 0 1)), (6, .no), (10, .yes), (13, .go (owns 1 0 1)), (15, .fit), (16, .at b7 o7 (j - 1)), (18, .go (outs b7 (o7 + (j - 1) * 5) [.int .i64 x22.num])), (20, .go (owns 0 0 1)), (21, .yes)] [1, 3, 4, 7, 8, 9] [(43, .bool true)] ([¬ ((x9.num : Int) < (1 : Int))] ++ ([¬ ((x9.num : Int) > (32 : Int))] ++ ([((j : Nat) : Int) > (0 : Int)] ++ ([Fit .i64 (((j : Nat)) - 1)] ++ ([(some ⟨b7, o7, none⟩ : Option Addr) = some ⟨b7, o7, none⟩, (((j : Nat)) - 1) = ((j - 1 : Nat) : Int), j - 1 < n] ++ (cellsP w b7 (o7 + (j - 1) * 5) [.int .i64 x22.num] ++ ([(x22.num : Int) ≥ (x9.num : Int)]))))))) rfl (by kernel_rfl) (by kernel_rfl) (by kernel_rfl) (alA (al1 q12) (alA (al1 q16) (alA (al1 q20) (alA (al1 (fit64 (by omega) (by omega))) (alA (al2 rfl (al2 (by omega) (al1 (by omega)))) (alA (rd_pre (hsl.get hx22) _ rfl) (al1 q24))))))) (ds_ (t_ (sq_ (qa0 [] [] [(2, .bool false)] (ds_ (rt ([]) (.bool false) ?_))))))
            exact fun w' hw => ⟨by rw [right_bad hx9 (fun ⟨a1, a2, a3, a4, a5⟩ => by first | omega | (have := a3 _ (by omega) hx22; omega) | (simp_all; done) | (rcases a5 with e | ⟨y', e1, e2, e3⟩; omega; rw [hg] at e1; cases e1) | (rcases a5 with e | ⟨y', e1, e2, e3⟩; omega; rw [hg] at e1; cases e1; rw [hjf] at e2; omega))], hw.below⟩
          ·
            refine at_calm rfl (by kernel_rfl) (by kernel_rfl) ?_
            refine cm 27 [(1, .go (owns 0 0 1)), (2, .no), (5, .go (owns 0 0 1)), (6, .no), (10, .yes), (13, .go (owns 1 0 1)), (15, .fit), (16, .at b7 o7 (j - 1)), (18, .go (outs b7 (o7 + (j - 1) * 5) [.int .i64 x22.num])), (20, .go (owns 0 0 1)), (21, .no), (26, .go (owns 0 1 1))] [1, 3, 4, 7, 8, 9] [(38, .bool false), (40, .int .i64 x9.vcpu)] ([¬ ((x9.num : Int) < (1 : Int))] ++ ([¬ ((x9.num : Int) > (32 : Int))] ++ ([((j : Nat) : Int) > (0 : Int)] ++ ([Fit .i64 (((j : Nat)) - 1)] ++ ([(some ⟨b7, o7, none⟩ : Option Addr) = some ⟨b7, o7, none⟩, (((j : Nat)) - 1) = ((j - 1 : Nat) : Int), j - 1 < n] ++ (cellsP w b7 (o7 + (j - 1) * 5) [.int .i64 x22.num] ++ ([¬ ((x22.num : Int) ≥ (x9.num : Int))]))))))) (by kernel_rfl) rfl (alA (al1 q12) (alA (al1 q16) (alA (al1 q20) (alA (al1 (fit64 (by omega) (by omega))) (alA (al2 rfl (al2 (by omega) (al1 (by omega)))) (alA (rd_pre (hsl.get hx22) _ rfl) (al1 q24))))))) ?_
            rcases q28 : vcpuB x9.vcpu with _ | _
            ·
              refine cK (.bool false) Try.call33 (fun w hw => by have := rvcpu_d x9.vcpu w; rw [q28] at this; exact this) ?_
              refine cm 2 [] [1, 3, 4, 7, 8, 9] [(43, .bool true)] ([]) (by kernel_rfl) rfl al0 ?_
              refine calm_nil' ?_
              refine ds_ (t_ (sq_ (qa0 [] [] [(2, .bool false)] (ds_ (rt ([]) (.bool false) ?_)))))
              exact fun w' hw => ⟨by rw [right_bad hx9 (fun ⟨a1, a2, a3, a4, a5⟩ => by first | omega | (have := a3 _ (by omega) hx22; omega) | (simp_all; done) | (rcases a5 with e | ⟨y', e1, e2, e3⟩; omega; rw [hg] at e1; cases e1) | (rcases a5 with e | ⟨y', e1, e2, e3⟩; omega; rw [hg] at e1; cases e1; rw [hjf] at e2; omega))], hw.below⟩
            ·
              refine cK (.bool true) Try.call33 (fun w hw => by have := rvcpu_d x9.vcpu w; rw [q28] at this; exact this) ?_
              refine cm 2 [] [1, 3, 4, 7, 8, 9] [(43, .bool false)] ([]) (by kernel_rfl) rfl al0 ?_
              refine calm_nil' ?_
              refine ds_ (f_ (at_skip (ds_ (sq_ (sq_ ?_)))))
              by_cases q33 : (x9.peer : Int) = (0 : Int)
              ·
                refine qa [(1, .go (owns 0 2 1)), (2, .yes)] [1, 3, 4, 7, 8, 9] [(46, .bool true)] ([(x9.peer : Int) = (0 : Int)]) (al1 q33) (ds_ (t_ (at_leave _ rfl (ds_ (qa [(0, .fit)] [1, 7, 8] [(9, .int .i64 ((j + 1 : Nat)))] ([Fit .i64 ((j + 1 : Nat))]) (al1 (fit64 (by omega) (by omega))) (Done.drop (L' := [bx (γ1 0) (#[.slice (some ⟨b7, o7, none⟩) n cap]) 24]) ?_ (List.Sublist.cons _ (List.Sublist.cons_cons _ (List.Sublist.refl _)))))))))
                exact done_round [1, 7, 8, 9] (j + 1) (by kernel_rfl) rfl ⟨by omega, fun t y' ht e => by
                    by_cases htj : t = j
                    · subst htj; rw [hx9] at e; cases e; exact ⟨by omega, by omega, fun y ht hy => by first | omega | (rw [hx22] at hy; cases hy; omega), by assumption, .inl (by assumption)⟩
                    · exact hI t y' (by omega) e⟩ (by first | omega | (simp only; omega))
              ·
                refine qa [(1, .go (owns 0 2 1)), (2, .no)] [1, 3, 4, 7, 8, 9] [(46, .bool false)] ([¬ ((x9.peer : Int) = (0 : Int))]) (al1 q33) (ds_ (f_ (at_skip (ds_ (sq_ (ao_ (qo0 3 [(0, .go (owns 1 0 1)), (2, .go (owns 0 2 1))] [1, 3, 4, 7, 8, 9] [(47, .agg #[.slice (some ⟨b7, o7, none⟩) n cap]), (49, .int .i64 x9.peer)] ?_)))))))
                rcases hg : getB l x9.peer with _ | y
                ·
                  refine cD (.int .i64 (-1)) Try.call34 (fun w hw => by have := find_d (some ⟨b7, o7, none⟩) n cap l x9.peer w (hsl.kept hw.below) hn hb; rw [find_none hg] at this; exact this) (qo0 1 [] [1, 3, 4, 7, 8, 9] [(5, .int .i64 (-1))] (on_ (ds_ (sq_ (cq [] [1, 7, 8, 9] [(68, .bool true)] ([]) rfl (by kernel_rfl) (by kernel_rfl) (by kernel_rfl) al0 (ds_ (t_ (sq_ (qa0 [] [] [(2, .bool false)] (ds_ (rt ([]) (.bool false) ?_)))))))))))
                  exact fun w' hw => ⟨by rw [right_bad hx9 (fun ⟨a1, a2, a3, a4, a5⟩ => by first | omega | (have := a3 _ (by omega) hx22; omega) | (simp_all; done) | (rcases a5 with e | ⟨y', e1, e2, e3⟩; omega; rw [hg] at e1; cases e1) | (rcases a5 with e | ⟨y', e1, e2, e3⟩; omega; rw [hg] at e1; cases e1; rw [hjf] at e2; omega))], hw.below⟩
                ·
                  obtain ⟨jf, hjf, hyf, _⟩ := find_some hg
                  have hjn : jf < l.length := (List.getElem?_eq_some_iff.1 hyf).1
                  refine cD (.int .i64 ((jf : Nat))) Try.call34 (fun w hw => by have := find_d (some ⟨b7, o7, none⟩) n cap l x9.peer w (hsl.kept hw.below) hn hb; rw [hjf] at this; exact this) (qo0 1 [] [1, 3, 4, 7, 8, 9] [(5, .int .i64 ((jf : Nat)))] (on_ (ds_ (sq_ ?_))))
                  by_cases q43 : ((jf : Nat) : Int) = ((j : Nat) : Int)
                  ·
                    refine cq [(1, .no), (5, .yes)] [1, 7, 8, 9] [(68, .bool true)] ([¬ (((jf : Nat) : Int) < (0 : Int))] ++ ([((jf : Nat) : Int) = ((j : Nat) : Int)])) rfl (by kernel_rfl) (by kernel_rfl) (by kernel_rfl) (alA (al1 ((by omega))) (al1 q43)) (ds_ (t_ (sq_ (qa0 [] [] [(2, .bool false)] (ds_ (rt ([]) (.bool false) ?_))))))
                    exact fun w' hw => ⟨by rw [right_bad hx9 (fun ⟨a1, a2, a3, a4, a5⟩ => by first | omega | (have := a3 _ (by omega) hx22; omega) | (simp_all; done) | (rcases a5 with e | ⟨y', e1, e2, e3⟩; omega; rw [hg] at e1; cases e1) | (rcases a5 with e | ⟨y', e1, e2, e3⟩; omega; rw [hg] at e1; cases e1; rw [hjf] at e2; omega))], hw.below⟩
                  ·
                    by_cases q47 : (y.peer : Int) ≠ (x9.num : Int)
                    ·
                      refine cq [(1, .no), (5, .no), (9, .go (owns 1 0 1)), (11, .at b7 o7 jf), (13, .go (outs b7 (o7 + jf * 5 + 2) [.int .i64 y.peer])), (15, .go (owns 0 0 1)), (16, .yes)] [1, 7, 8, 9] [(68, .bool true)] ([¬ (((jf : Nat) : Int) < (0 : Int))] ++ ([¬ (((jf : Nat) : Int) = ((j : Nat) : Int))] ++ ([(some ⟨b7, o7, none⟩ : Option Addr) = some ⟨b7, o7, none⟩, ((jf : Nat)) = ((jf : Nat) : Int), jf < n] ++ (cellsP w b7 (o7 + jf * 5 + 2) [.int .i64 y.peer] ++ ([(y.peer : Int) ≠ (x9.num : Int)]))))) rfl (by kernel_rfl) (by kernel_rfl) (by kernel_rfl) (alA (al1 ((by omega))) (alA (al1 q43) (alA (al2 rfl (al2 rfl (al1 (by omega)))) (alA (rd_part (hsl.get hyf) 2 _ rfl) (al1 q47))))) (ds_ (t_ (sq_ (qa0 [] [] [(2, .bool false)] (ds_ (rt ([]) (.bool false) ?_))))))
                      exact fun w' hw => ⟨by rw [right_bad hx9 (fun ⟨a1, a2, a3, a4, a5⟩ => by first | omega | (have := a3 _ (by omega) hx22; omega) | (simp_all; done) | (rcases a5 with e | ⟨y', e1, e2, e3⟩; omega; rw [hg] at e1; cases e1) | (rcases a5 with e | ⟨y', e1, e2, e3⟩; omega; rw [hg] at e1; cases e1; rw [hjf] at e2; omega))], hw.below⟩
                    ·
                      refine cq [(1, .no), (5, .no), (9, .go (owns 1 0 1)), (11, .at b7 o7 jf), (13, .go (outs b7 (o7 + jf * 5 + 2) [.int .i64 y.peer])), (15, .go (owns 0 0 1)), (16, .no)] [1, 7, 8, 9] [(68, .bool false)] ([¬ (((jf : Nat) : Int) < (0 : Int))] ++ ([¬ (((jf : Nat) : Int) = ((j : Nat) : Int))] ++ ([(some ⟨b7, o7, none⟩ : Option Addr) = some ⟨b7, o7, none⟩, ((jf : Nat)) = ((jf : Nat) : Int), jf < n] ++ (cellsP w b7 (o7 + jf * 5 + 2) [.int .i64 y.peer] ++ ([¬ ((y.peer : Int) ≠ (x9.num : Int))]))))) rfl (by kernel_rfl) (by kernel_rfl) (by kernel_rfl) (alA (al1 ((by omega))) (alA (al1 q43) (alA (al2 rfl (al2 rfl (al1 (by omega)))) (alA (rd_part (hsl.get hyf) 2 _ rfl) (al1 q47))))) (ds_ (f_ (at_skip (done_block (ds_ (qa [(0, .fit)] [1, 7, 8] [(9, .int .i64 ((j + 1 : Nat)))] ([Fit .i64 ((j + 1 : Nat))]) (al1 (fit64 (by omega) (by omega))) (Done.drop (L' := [bx (γ1 0) (#[.slice (some ⟨b7, o7, none⟩) n cap]) 24]) ?_ (List.Sublist.cons _ (List.Sublist.cons_cons _ (List.Sublist.refl _))))))))))
                      exact done_round [1, 7, 8, 9] (j + 1) (by kernel_rfl) rfl ⟨by omega, fun t y' ht e => by
                          by_cases htj : t = j
                          · subst htj; rw [hx9] at e; cases e; exact ⟨by omega, by omega, fun y ht hy => by first | omega | (rw [hx22] at hy; cases hy; omega), by assumption, .inr ⟨y, hg, by rw [hjf]; omega, by omega⟩⟩
                          · exact hI t y' (by omega) e⟩ (by first | omega | (simp only; omega))
        ·
          refine at_calm rfl (by kernel_rfl) (by kernel_rfl) ?_
          refine cm 27 [(1, .go (owns 0 0 1)), (2, .no), (5, .go (owns 0 0 1)), (6, .no), (10, .no), (26, .go (owns 0 1 1))] [1, 3, 4, 7, 8, 9] [(38, .bool false), (40, .int .i64 x9.vcpu)] ([¬ ((x9.num : Int) < (1 : Int))] ++ ([¬ ((x9.num : Int) > (32 : Int))] ++ ([¬ (((j : Nat) : Int) > (0 : Int))]))) (by kernel_rfl) rfl (alA (al1 q12) (alA (al1 q16) (al1 q20))) ?_
          rcases q53 : vcpuB x9.vcpu with _ | _
          ·
            refine cK (.bool false) Try.call33 (fun w hw => by have := rvcpu_d x9.vcpu w; rw [q53] at this; exact this) ?_
            refine cm 2 [] [1, 3, 4, 7, 8, 9] [(43, .bool true)] ([]) (by kernel_rfl) rfl al0 ?_
            refine calm_nil' ?_
            refine ds_ (t_ (sq_ (qa0 [] [] [(2, .bool false)] (ds_ (rt ([]) (.bool false) ?_)))))
            exact fun w' hw => ⟨by rw [right_bad hx9 (fun ⟨a1, a2, a3, a4, a5⟩ => by first | omega | omega | (simp_all; done) | (rcases a5 with e | ⟨y', e1, e2, e3⟩; omega; rw [hg] at e1; cases e1) | (rcases a5 with e | ⟨y', e1, e2, e3⟩; omega; rw [hg] at e1; cases e1; rw [hjf] at e2; omega))], hw.below⟩
          ·
            refine cK (.bool true) Try.call33 (fun w hw => by have := rvcpu_d x9.vcpu w; rw [q53] at this; exact this) ?_
            refine cm 2 [] [1, 3, 4, 7, 8, 9] [(43, .bool false)] ([]) (by kernel_rfl) rfl al0 ?_
            refine calm_nil' ?_
            refine ds_ (f_ (at_skip (ds_ (sq_ (sq_ ?_)))))
            by_cases q58 : (x9.peer : Int) = (0 : Int)
            ·
              refine qa [(1, .go (owns 0 2 1)), (2, .yes)] [1, 3, 4, 7, 8, 9] [(46, .bool true)] ([(x9.peer : Int) = (0 : Int)]) (al1 q58) (ds_ (t_ (at_leave _ rfl (ds_ (qa [(0, .fit)] [1, 7, 8] [(9, .int .i64 ((j + 1 : Nat)))] ([Fit .i64 ((j + 1 : Nat))]) (al1 (fit64 (by omega) (by omega))) (Done.drop (L' := [bx (γ1 0) (#[.slice (some ⟨b7, o7, none⟩) n cap]) 24]) ?_ (List.Sublist.cons _ (List.Sublist.cons_cons _ (List.Sublist.refl _)))))))))
              exact done_round [1, 7, 8, 9] (j + 1) (by kernel_rfl) rfl ⟨by omega, fun t y' ht e => by
                  by_cases htj : t = j
                  · subst htj; rw [hx9] at e; cases e; exact ⟨by omega, by omega, fun y ht hy => by omega, by assumption, .inl (by assumption)⟩
                  · exact hI t y' (by omega) e⟩ (by first | omega | (simp only; omega))
            ·
              refine qa [(1, .go (owns 0 2 1)), (2, .no)] [1, 3, 4, 7, 8, 9] [(46, .bool false)] ([¬ ((x9.peer : Int) = (0 : Int))]) (al1 q58) (ds_ (f_ (at_skip (ds_ (sq_ (ao_ (qo0 3 [(0, .go (owns 1 0 1)), (2, .go (owns 0 2 1))] [1, 3, 4, 7, 8, 9] [(47, .agg #[.slice (some ⟨b7, o7, none⟩) n cap]), (49, .int .i64 x9.peer)] ?_)))))))
              rcases hg : getB l x9.peer with _ | y
              ·
                refine cD (.int .i64 (-1)) Try.call34 (fun w hw => by have := find_d (some ⟨b7, o7, none⟩) n cap l x9.peer w (hsl.kept hw.below) hn hb; rw [find_none hg] at this; exact this) (qo0 1 [] [1, 3, 4, 7, 8, 9] [(5, .int .i64 (-1))] (on_ (ds_ (sq_ (cq [] [1, 7, 8, 9] [(68, .bool true)] ([]) rfl (by kernel_rfl) (by kernel_rfl) (by kernel_rfl) al0 (ds_ (t_ (sq_ (qa0 [] [] [(2, .bool false)] (ds_ (rt ([]) (.bool false) ?_)))))))))))
                exact fun w' hw => ⟨by rw [right_bad hx9 (fun ⟨a1, a2, a3, a4, a5⟩ => by first | omega | omega | (simp_all; done) | (rcases a5 with e | ⟨y', e1, e2, e3⟩; omega; rw [hg] at e1; cases e1) | (rcases a5 with e | ⟨y', e1, e2, e3⟩; omega; rw [hg] at e1; cases e1; rw [hjf] at e2; omega))], hw.below⟩
              ·
                obtain ⟨jf, hjf, hyf, _⟩ := find_some hg
                have hjn : jf < l.length := (List.getElem?_eq_some_iff.1 hyf).1
                refine cD (.int .i64 ((jf : Nat))) Try.call34 (fun w hw => by have := find_d (some ⟨b7, o7, none⟩) n cap l x9.peer w (hsl.kept hw.below) hn hb; rw [hjf] at this; exact this) (qo0 1 [] [1, 3, 4, 7, 8, 9] [(5, .int .i64 ((jf : Nat)))] (on_ (ds_ (sq_ ?_))))
                by_cases q68 : ((jf : Nat) : Int) = ((j : Nat) : Int)
                ·
                  refine cq [(1, .no), (5, .yes)] [1, 7, 8, 9] [(68, .bool true)] ([¬ (((jf : Nat) : Int) < (0 : Int))] ++ ([((jf : Nat) : Int) = ((j : Nat) : Int)])) rfl (by kernel_rfl) (by kernel_rfl) (by kernel_rfl) (alA (al1 ((by omega))) (al1 q68)) (ds_ (t_ (sq_ (qa0 [] [] [(2, .bool false)] (ds_ (rt ([]) (.bool false) ?_))))))
                  exact fun w' hw => ⟨by rw [right_bad hx9 (fun ⟨a1, a2, a3, a4, a5⟩ => by first | omega | omega | (simp_all; done) | (rcases a5 with e | ⟨y', e1, e2, e3⟩; omega; rw [hg] at e1; cases e1) | (rcases a5 with e | ⟨y', e1, e2, e3⟩; omega; rw [hg] at e1; cases e1; rw [hjf] at e2; omega))], hw.below⟩
                ·
                  by_cases q72 : (y.peer : Int) ≠ (x9.num : Int)
                  ·
                    refine cq [(1, .no), (5, .no), (9, .go (owns 1 0 1)), (11, .at b7 o7 jf), (13, .go (outs b7 (o7 + jf * 5 + 2) [.int .i64 y.peer])), (15, .go (owns 0 0 1)), (16, .yes)] [1, 7, 8, 9] [(68, .bool true)] ([¬ (((jf : Nat) : Int) < (0 : Int))] ++ ([¬ (((jf : Nat) : Int) = ((j : Nat) : Int))] ++ ([(some ⟨b7, o7, none⟩ : Option Addr) = some ⟨b7, o7, none⟩, ((jf : Nat)) = ((jf : Nat) : Int), jf < n] ++ (cellsP w b7 (o7 + jf * 5 + 2) [.int .i64 y.peer] ++ ([(y.peer : Int) ≠ (x9.num : Int)]))))) rfl (by kernel_rfl) (by kernel_rfl) (by kernel_rfl) (alA (al1 ((by omega))) (alA (al1 q68) (alA (al2 rfl (al2 rfl (al1 (by omega)))) (alA (rd_part (hsl.get hyf) 2 _ rfl) (al1 q72))))) (ds_ (t_ (sq_ (qa0 [] [] [(2, .bool false)] (ds_ (rt ([]) (.bool false) ?_))))))
                    exact fun w' hw => ⟨by rw [right_bad hx9 (fun ⟨a1, a2, a3, a4, a5⟩ => by first | omega | omega | (simp_all; done) | (rcases a5 with e | ⟨y', e1, e2, e3⟩; omega; rw [hg] at e1; cases e1) | (rcases a5 with e | ⟨y', e1, e2, e3⟩; omega; rw [hg] at e1; cases e1; rw [hjf] at e2; omega))], hw.below⟩
                  ·
                    refine cq [(1, .no), (5, .no), (9, .go (owns 1 0 1)), (11, .at b7 o7 jf), (13, .go (outs b7 (o7 + jf * 5 + 2) [.int .i64 y.peer])), (15, .go (owns 0 0 1)), (16, .no)] [1, 7, 8, 9] [(68, .bool false)] ([¬ (((jf : Nat) : Int) < (0 : Int))] ++ ([¬ (((jf : Nat) : Int) = ((j : Nat) : Int))] ++ ([(some ⟨b7, o7, none⟩ : Option Addr) = some ⟨b7, o7, none⟩, ((jf : Nat)) = ((jf : Nat) : Int), jf < n] ++ (cellsP w b7 (o7 + jf * 5 + 2) [.int .i64 y.peer] ++ ([¬ ((y.peer : Int) ≠ (x9.num : Int))]))))) rfl (by kernel_rfl) (by kernel_rfl) (by kernel_rfl) (alA (al1 ((by omega))) (alA (al1 q68) (alA (al2 rfl (al2 rfl (al1 (by omega)))) (alA (rd_part (hsl.get hyf) 2 _ rfl) (al1 q72))))) (ds_ (f_ (at_skip (done_block (ds_ (qa [(0, .fit)] [1, 7, 8] [(9, .int .i64 ((j + 1 : Nat)))] ([Fit .i64 ((j + 1 : Nat))]) (al1 (fit64 (by omega) (by omega))) (Done.drop (L' := [bx (γ1 0) (#[.slice (some ⟨b7, o7, none⟩) n cap]) 24]) ?_ (List.Sublist.cons _ (List.Sublist.cons_cons _ (List.Sublist.refl _))))))))))
                    exact done_round [1, 7, 8, 9] (j + 1) (by kernel_rfl) rfl ⟨by omega, fun t y' ht e => by
                        by_cases htj : t = j
                        · subst htj; rw [hx9] at e; cases e; exact ⟨by omega, by omega, fun y ht hy => by omega, by assumption, .inr ⟨y, hg, by rw [hjf]; omega, by omega⟩⟩
                        · exact hI t y' (by omega) e⟩ (by first | omega | (simp only; omega))
  ·
    refine qa [(0, .no)] [1, 7, 8, 9] [(10, .bool false)] ([¬ (((j : Nat) : Int) < ((n : Nat) : Int))]) (al1 q4) (ds_ (sq_ (f_ (at_leave _ rfl (ds_ (sq_ (qa0 [] [] [(2, .bool true)] (ds_ (rt ([]) (.bool true) ?_)))))))))
    exact fun w' hw => ⟨by rw [right_good fun t y e => hI t y (by have := (List.getElem?_eq_some_iff.1 e).1; omega) e], hw.below⟩

set_option maxRecDepth 100000 in
theorem rget_d (p : Option Addr) (n cap : Nat) (l : List Port) (k : Int) (w : World)
    (hsl : Sv w p l) (hn : n = l.length) (hb : n ≤ 1000)
    : Calls Try.prog 19 #[.agg #[.slice p n cap], .int .i64 k] w fun e w' => e = .returned (optV (getB l k)) ∧ Below w.heap.size w w' := by
  refine enter (Hs.start w) Try.func19 rfl Try.ntmps19 rfl (sq_ (ma0 [] [1] (fun γ1 => [(2, .pointer (some ⟨γ1 0, 0, none⟩)), (4, .pointer (some ⟨γ1 1, 0, none⟩))]) (fun γ1 L => bx (γ1 1) (#[.int .i64 0, .int .i64 0, .int .i64 0, .bool false, .bool false]) 40 :: bx (γ1 0) (#[.slice p n cap]) 24 :: L) (fun γ1 => ds_ (sq_ (sq_ (ao_ (qo0 2 [(0, .go (owns 1 0 1))] [2, 4] [(7, .agg #[.slice p n cap]), (8, .int .i64 k)] ?_)))))))
  rcases hg : getB l k with _ | y
  ·
    refine cD (.int .i64 (-1)) Try.call34 (fun w hw => by have := find_d p n cap l k w (hsl.kept hw.below) hn hb; rw [find_none hg] at this; exact this) (qo0 1 [] [2, 4] [(6, .int .i64 (-1))] (on_ (ds_ (sq_ (qa0 [] [2, 4, 6] [(11, .bool false)] (ds_ (f_ (at_skip (ds_ (sq_ (qa0 [(1, .go (owns 0 0 5))] [4] [(5, .bool false)] (ds_ (rt (owns 0 0 5) (.tuple #[.agg #[.int .i64 0, .int .i64 0, .int .i64 0, .bool false, .bool false], .bool false]) ?_)))))))))))))
    exact fun w' hw => ⟨rfl, hw.below⟩
  ·
    obtain ⟨jf, hjf, hyf, _⟩ := find_some hg
    have hjn : jf < l.length := (List.getElem?_eq_some_iff.1 hyf).1
    refine cD (.int .i64 ((jf : Nat))) Try.call34 (fun w hw => by have := find_d p n cap l k w (hsl.kept hw.below) hn hb; rw [hjf] at this; exact this) (qo0 1 [] [2, 4] [(6, .int .i64 ((jf : Nat)))] (on_ (ds_ (sq_ (qa [(1, .yes)] [2, 4, 6] [(11, .bool true)] ([((jf : Nat) : Int) ≥ (0 : Int)]) (al1 ((by omega))) (ds_ (t_ (sq_ ?_))))))))
    obtain ⟨b9, o9, rfl⟩ := hsl.pos (i := jf) (by omega)
    refine ma [(1, .go (owns 1 0 1)), (3, .at b9 o9 jf), (4, .go (outs b9 (o9 + jf * 5) [.int .i64 y.num, .int .i64 y.vcpu, .int .i64 y.peer, .bool y.pending, .bool y.masked])), (5, .go (owns 0 0 5))] [4] (fun _ => [(5, .bool true)]) (fun _ L => (L.set 0 (bx (γ1 1) (#[.int .i64 y.num, .int .i64 y.vcpu, .int .i64 y.peer, .bool y.pending, .bool y.masked]) 40))) (fun _ => [(some ⟨b9, o9, none⟩ : Option Addr) = some ⟨b9, o9, none⟩, ((jf : Nat)) = ((jf : Nat) : Int), jf < n] ++ (cellsP w b9 (o9 + jf * 5) [.int .i64 y.num, .int .i64 y.vcpu, .int .i64 y.peer, .bool y.pending, .bool y.masked])) (fun _ => (alA (al2 rfl (al2 rfl (al1 (by omega)))) (rd_pre (hsl.get hyf) _ rfl))) (fun _ => ds_ (rt (owns 0 0 5) (.tuple #[.agg #[.int .i64 y.num, .int .i64 y.vcpu, .int .i64 y.peer, .bool y.pending, .bool y.masked], .bool true]) ?_))
    exact fun w' hw => ⟨rfl, hw.below⟩
end Go.Proofs.Ytfhlmijdokfdpaa

/-! The layer's readers. -/
namespace Go.Proofs.Ytfhlmijdokfdpaa
open Go Go.RowKit

set_option maxRecDepth 100000 in
theorem get_d (p : Option Addr) (n cap : Nat) (l : List Port) (k : Int) (w : World)
 (hsl : Sv w p l) (hn : n = l.length) (hb : n ≤ 1000)
 : Calls Try.prog 18 #[.agg #[.slice p n cap], .int .i64 k] w fun e w' => e = .returned (optV (eGet l k)) ∧ Below w.heap.size w w' := by
 refine enter (Hs.start w) Try.func18 rfl Try.ntmps18 rfl (sq_ (ma0 [] [1] (fun γ1 => [(2, .pointer (some ⟨γ1 0, 0, none⟩)), (4, .pointer (some ⟨γ1 1, 0, none⟩))]) (fun γ1 L => bx (γ1 1) (#[.int .i64 0, .int .i64 0, .int .i64 0, .bool false, .bool false]) 40 :: bx (γ1 0) (#[.slice p n cap]) 24 :: L) (fun γ1 => ds_ (sq_ (sq_ (ao_ (qo0 1 [(0, .go (owns 1 0 1))] [1, 2, 4] [(7, .agg #[.slice p n cap])] ?_)))))))
 rcases q3 : rightB l with _ | _
 ·
  refine cD (.int .i64 260) Try.call16 (fun w hw => by have := check_d p n cap l w (hsl.kept hw.below) hn hb; rw [q3] at this; exact this) (qo0 1 [] [1, 2, 4] [(9, .bool true)] (on_ (ds_ (t_ (sq_ (qa0 [(1, .go (owns 0 0 5))] [4] [(5, .bool false)] (ds_ (rt (owns 0 0 5) (.tuple #[.agg #[.int .i64 0, .int .i64 0, .int .i64 0, .bool false, .bool false], .bool false]) ?_))))))))
  exact fun w' hw => ⟨by simp [eGet, optV, q3], hw.below⟩
 ·
  refine cD (.int .i64 0) Try.call16 (fun w hw => by have := check_d p n cap l w (hsl.kept hw.below) hn hb; rw [q3] at this; exact this) (qo0 1 [] [1, 2, 4] [(9, .bool false)] (on_ (ds_ (f_ (at_skip (ds_ (sq_ (ao_ (qo0 3 [(1, .go (owns 1 0 1))] [4] [(12, .slice p n cap), (13, .int .i64 k)] ?_)))))))))
  rcases hg : getB l k with _ | y
  ·
   refine cD (.pointer none) Try.call32 (fun w hw => by have := port_d p n cap l k w (hsl.kept hw.below) hn hb (ris_all (right_ris q3)) (ris_asc l 0 (right_ris q3)); rw [portV_none hg] at this; exact this) (qo0 1 [] [4] [(6, .pointer none)] (on_ (ds_ (sq_ (sq_ (qa0 [] [4, 6] [(16, .bool true)] (ds_ (t_ (sq_ (qa0 [(1, .go (owns 0 0 5))] [4] [(5, .bool false)] (ds_ (rt (owns 0 0 5) (.tuple #[.agg #[.int .i64 0, .int .i64 0, .int .i64 0, .bool false, .bool false], .bool false]) ?_))))))))))))
   exact fun w' hw => ⟨by simp [eGet, optV, q3, hg], hw.below⟩
  ·
   obtain ⟨hy1, hy2⟩ := get_pos (ris_asc l 0 (right_ris q3)) hg
   obtain ⟨b11, o11, rfl⟩ := hsl.pos (i := posB l k) hy2
   refine cD (.pointer (some ⟨b11, o11 + (posB l k) * 5, none⟩)) Try.call32 (fun w hw => by have := port_d (some ⟨b11, o11, none⟩) n cap l k w (hsl.kept hw.below) hn hb (ris_all (right_ris q3)) (ris_asc l 0 (right_ris q3)); rw [portV_some hg] at this; exact this) (qo0 1 [] [4] [(6, .pointer (some ⟨b11, o11 + (posB l k) * 5, none⟩))] (on_ (ds_ (sq_ (sq_ (qa0 [] [4, 6] [(16, .bool false)] (ds_ (f_ (at_skip (ds_ (sq_ (ma [(2, .go (outs b11 (o11 + (posB l k) * 5) [.int .i64 y.num, .int .i64 y.vcpu, .int .i64 y.peer, .bool y.pending, .bool y.masked])), (3, .go (owns 0 0 5))] [4] (fun _ => [(5, .bool true)]) (fun _ L => (L.set 0 (bx (γ1 1) (#[.int .i64 y.num, .int .i64 y.vcpu, .int .i64 y.peer, .bool y.pending, .bool y.masked]) 40))) (fun _ => cellsP w b11 (o11 + (posB l k) * 5) [.int .i64 y.num, .int .i64 y.vcpu, .int .i64 y.peer, .bool y.pending, .bool y.masked]) (fun _ => (rd_pre (hsl.get hy1) _ rfl)) (fun _ => ds_ (rt (owns 0 0 5) (.tuple #[.agg #[.int .i64 y.num, .int .i64 y.vcpu, .int .i64 y.peer, .bool y.pending, .bool y.masked], .bool true]) ?_))))))))))))))
   exact fun w' hw => ⟨by simp [eGet, optV, q3, hg], hw.below⟩

set_option maxRecDepth 100000 in
theorem poll_d (p : Option Addr) (n cap : Nat) (l : List Port) (own : Int) (pn : Option Addr) (m capn : Nat) (ns : List Int) (w : World)
 (hsl : Sv w p l) (hn : n = l.length) (hb : n ≤ 1000)
 (hns : Sv w pn ns) (hm : m = ns.length) (hmb : m ≤ 1000)
 : Calls Try.prog 12 #[.agg #[.slice p n cap], .int .i64 own, .slice pn m capn] w fun e w' => e = .returned (.tuple #[.bool (pollV l own ns).1, .int .i64 (pollV l own ns).2]) ∧ Below w.heap.size w w' := by
 refine enter (Hs.start w) Try.func12 rfl Try.ntmps12 rfl (sq_ (ma0 [] [1, 2] (fun γ1 => [(3, .pointer (some ⟨γ1 0, 0, none⟩))]) (fun γ1 L => bx (γ1 0) (#[.slice p n cap]) 24 :: L) (fun γ1 => ds_ (sq_ (sq_ (ao_ (qo0 1 [(0, .go (owns 0 0 1))] [1, 2, 3] [(14, .agg #[.slice p n cap])] ?_)))))))
 rcases q3 : rightB l with _ | _
 ·
  refine cD (.int .i64 260) Try.call16 (fun w hw => by have := check_d p n cap l w (hsl.kept hw.below) hn hb; rw [q3] at this; exact this) (qo0 1 [] [1, 2, 3] [(8, .int .i64 260)] (on_ (ds_ (sq_ (qa0 [] [1, 2, 3, 8] [(17, .bool true)] (ds_ (t_ (sq_ (qa0 [] [] [(6, .bool false), (7, .int .i64 260)] (ds_ (rt ([]) (.tuple #[.bool false, .int .i64 260]) ?_)))))))))))
  exact fun w' hw => ⟨by simp [pollV, q3], hw.below⟩
 ·
  refine cD (.int .i64 0) Try.call16 (fun w hw => by have := check_d p n cap l w (hsl.kept hw.below) hn hb; rw [q3] at this; exact this) (qo0 1 [] [1, 2, 3] [(8, .int .i64 0)] (on_ (ds_ (sq_ (qa0 [] [1, 2, 3, 8] [(17, .bool false)] (ds_ (f_ (at_skip (ds_ (sq_ (sq_ (ao_ (qo0 1 [] [1, 2, 3] [(19, .int .i64 own)] ?_)))))))))))))
  rcases q10 : vcpuB own with _ | _
  ·
   refine cD (.bool false) Try.call31 (fun w hw => by have := vcpu_d own w; rw [q10] at this; exact this) (qo0 11 [] [1, 2, 3] [(31, .bool true)] (on_ (ds_ (t_ (sq_ (qa0 [] [] [(6, .bool false), (7, .int .i64 2)] (ds_ (rt ([]) (.tuple #[.bool false, .int .i64 2]) ?_))))))))
   exact fun w' hw => ⟨by rw [pollV_no (by assumption) (by rintro ⟨a, b, c⟩; first | omega | simp_all)], hw.below⟩
  ·
   refine cD (.bool true) Try.call31 (fun w hw => by have := vcpu_d own w; rw [q10] at this; exact this) ?_
   by_cases q14 : ((m : Nat) : Int) < (1 : Int)
   ·
    refine qo 11 [(6, .yes)] [1, 2, 3] [(31, .bool true)] ([((m : Nat) : Int) < (1 : Int)]) (al1 q14) (on_ (ds_ (t_ (sq_ (qa0 [] [] [(6, .bool false), (7, .int .i64 2)] (ds_ (rt ([]) (.tuple #[.bool false, .int .i64 2]) ?_)))))))
    exact fun w' hw => ⟨by rw [pollV_no (by assumption) (by rintro ⟨a, b, c⟩; first | omega | simp_all)], hw.below⟩
   ·
    by_cases q18 : ((m : Nat) : Int) > (32 : Int)
    ·
     refine qo 11 [(6, .no), (11, .yes)] [1, 2, 3] [(31, .bool true)] ([¬ (((m : Nat) : Int) < (1 : Int))] ++ ([((m : Nat) : Int) > (32 : Int)])) (alA (al1 q14) (al1 q18)) (on_ (ds_ (t_ (sq_ (qa0 [] [] [(6, .bool false), (7, .int .i64 2)] (ds_ (rt ([]) (.tuple #[.bool false, .int .i64 2]) ?_)))))))
     exact fun w' hw => ⟨by rw [pollV_no (by assumption) (by rintro ⟨a, b, c⟩; first | omega | simp_all)], hw.below⟩
    ·
     refine qo 11 [(6, .no), (11, .no)] [1, 2, 3] [(31, .bool false)] ([¬ (((m : Nat) : Int) < (1 : Int))] ++ ([¬ (((m : Nat) : Int) > (32 : Int))])) (alA (al1 q14) (al1 q18)) (on_ (ds_ (f_ (at_skip (ds_ (sq_ (qa0 [] [1, 2, 3] [(9, .bool false), (10, .int .i64 0)] (ds_ (sq_ (sq_ (qa0 [] [1, 3, 9, 10] [(32, .slice pn m capn), (33, .int .i64 ((m : Nat))), (34, .int .i64 0)] (ds_ (at_block (at_loop (α := Nat × Bool × Int) [1, 3, 9, 10, 32, 33, 34] (fun ⟨j, pd, e⟩ => [(1, .int .i64 own), (3, .pointer (some ⟨γ1 0, 0, none⟩)), (9, .bool pd), (10, .int .i64 e), (32, .slice pn m capn), (33, .int .i64 ((m : Nat))), (34, .int .i64 ((j : Nat)))]) (fun ⟨j, pd, e⟩ => [bx (γ1 0) (#[.slice p n cap]) 24]) (fun ⟨j, pd, e⟩ => j ≤ m ∧ pollGo l own (ns.drop j) pd e = pollGo l own ns false 0) (fun ⟨j, pd, e⟩ => m - j) (0, false, 0) (by kernel_rfl) rfl ⟨Nat.zero_le _, rfl⟩ ?_))))))))))))))
     rintro ⟨j, pd, e⟩
     rintro ⟨hj, hI⟩
     refine sq_ ?_
     by_cases q25 : ((j : Nat) : Int) < ((m : Nat) : Int)
     ·
      refine qa [(0, .yes)] [1, 3, 9, 10, 32, 33, 34] [(35, .bool true)] ([((j : Nat) : Int) < ((m : Nat) : Int)]) (al1 q25) (ds_ (sq_ (t_ (at_skip (ds_ (sq_ (at_block (sq_ ?_))))))))
      obtain ⟨b28, o28, rfl⟩ := hns.pos (i := j) (by omega)
      obtain ⟨x30, hx30⟩ := get_some (l := ns) (m := j) (by omega)
      refine qa [(0, .at b28 o28 j), (1, .go (outs b28 (o28 + j * 1) [.int .i64 x30]))] [1, 3, 9, 10, 32, 33, 34] [(12, .int .i64 x30)] ([(some ⟨b28, o28, none⟩ : Option Addr) = some ⟨b28, o28, none⟩, ((j : Nat)) = ((j : Nat) : Int), j < m] ++ (cellsP w b28 (o28 + j * 1) [.int .i64 x30])) (alA (al2 rfl (al2 rfl (al1 (by omega)))) (rd_pre (hns.get hx30) _ rfl)) (ds_ (sq_ (ao_ (qo0 3 [(1, .go (owns 0 0 1))] [1, 3, 9, 10, 32, 33, 34] [(39, .slice p n cap), (40, .int .i64 x30)] ?_))))
      rcases hg : getB l x30 with _ | y
      ·
       refine cD (.pointer none) Try.call32 (fun w hw => by have := port_d p n cap l x30 w (hsl.kept hw.below) hn hb (ris_all (right_ris q3)) (ris_asc l 0 (right_ris q3)); rw [portV_none hg] at this; exact this) (qo0 1 [] [1, 3, 9, 10, 32, 33, 34] [(13, .pointer none)] (on_ (ds_ (sq_ (sq_ (qa0 [] [1, 3, 9, 10, 13, 32, 33, 34] [(43, .bool true)] (ds_ (t_ (sq_ (qa0 [] [] [(6, .bool false), (7, .int .i64 4)] (ds_ (rt ([]) (.tuple #[.bool false, .int .i64 4]) ?_))))))))))))
       exact fun w' hw => ⟨by rw [pollV_of (by assumption) (by assumption) (by omega) (by omega), ← hI, drop_cons hx30]; simp [pollGo, hg], hw.below⟩
      ·
       obtain ⟨hy1, hy2⟩ := get_pos (ris_asc l 0 (right_ris q3)) hg
       obtain ⟨b36, o36, rfl⟩ := hsl.pos (i := posB l x30) hy2
       refine cD (.pointer (some ⟨b36, o36 + (posB l x30) * 5, none⟩)) Try.call32 (fun w hw => by have := port_d (some ⟨b36, o36, none⟩) n cap l x30 w (hsl.kept hw.below) hn hb (ris_all (right_ris q3)) (ris_asc l 0 (right_ris q3)); rw [portV_some hg] at this; exact this) (qo0 1 [] [1, 3, 9, 10, 32, 33, 34] [(13, .pointer (some ⟨b36, o36 + (posB l x30) * 5, none⟩))] (on_ (ds_ (sq_ (sq_ (qa0 [] [1, 3, 9, 10, 13, 32, 33, 34] [(43, .bool false)] (ds_ (f_ (at_skip (ds_ (sq_ (sq_ ?_))))))))))))
       by_cases q40 : (y.vcpu : Int) ≠ (own : Int)
       ·
        refine qa [(3, .go (outs b36 (o36 + (posB l x30) * 5 + 1) [.int .i64 y.vcpu])), (5, .yes)] [1, 3, 9, 10, 13, 32, 33, 34] [(49, .bool true)] (cellsP w b36 (o36 + (posB l x30) * 5 + 1) [.int .i64 y.vcpu] ++ ([(y.vcpu : Int) ≠ (own : Int)])) (alA (rd_part (hsl.get hy1) 1 _ rfl) (al1 q40)) (ds_ (t_ (qa0 [] [1, 3, 9, 13, 32, 33, 34] [(10, .int .i64 2)] (ds_ ?_))))
        rcases q44 : pd with _ | _
        ·
         refine qa [(5, .go (outs b36 (o36 + (posB l x30) * 5 + 3) [.bool y.pending]))] [1, 3, 10, 32, 33, 34] [(9, .bool y.pending)] (cellsP w b36 (o36 + (posB l x30) * 5 + 3) [.bool y.pending]) (rd_part (hsl.get hy1) 3 _ rfl) (done_block (ds_ (qa [(0, .fit)] [1, 3, 9, 10, 32, 33] [(34, .int .i64 ((j + 1 : Nat)))] ([Fit .i64 ((j + 1 : Nat))]) (al1 (fit64 (by omega) (by omega))) ?_)))
         exact dr [1, 3, 9, 10, 32, 33, 34] (j + 1, y.pending, 2) ⟨by omega, by rw [← hI, drop_cons hx30]; simp only [pollGo, hg]; rw [if_neg (by omega)]; simp [q44]⟩
        ·
         refine qa0 [] [1, 3, 10, 32, 33, 34] [(9, .bool true)] (done_block (ds_ (qa [(0, .fit)] [1, 3, 9, 10, 32, 33] [(34, .int .i64 ((j + 1 : Nat)))] ([Fit .i64 ((j + 1 : Nat))]) (al1 (fit64 (by omega) (by omega))) ?_)))
         exact dr [1, 3, 9, 10, 32, 33, 34] (j + 1, true, 2) ⟨by omega, by rw [← hI, drop_cons hx30]; simp only [pollGo, hg]; rw [if_neg (by omega)]; simp [q44]⟩
       ·
        refine qa [(3, .go (outs b36 (o36 + (posB l x30) * 5 + 1) [.int .i64 y.vcpu])), (5, .no)] [1, 3, 9, 10, 13, 32, 33, 34] [(49, .bool false)] (cellsP w b36 (o36 + (posB l x30) * 5 + 1) [.int .i64 y.vcpu] ++ ([¬ ((y.vcpu : Int) ≠ (own : Int))])) (alA (rd_part (hsl.get hy1) 1 _ rfl) (al1 q40)) (ds_ (f_ (at_skip (ds_ ?_))))
        rcases q51 : pd with _ | _
        ·
         refine qa [(5, .go (outs b36 (o36 + (posB l x30) * 5 + 3) [.bool y.pending]))] [1, 3, 10, 32, 33, 34] [(9, .bool y.pending)] (cellsP w b36 (o36 + (posB l x30) * 5 + 3) [.bool y.pending]) (rd_part (hsl.get hy1) 3 _ rfl) (done_block (ds_ (qa [(0, .fit)] [1, 3, 9, 10, 32, 33] [(34, .int .i64 ((j + 1 : Nat)))] ([Fit .i64 ((j + 1 : Nat))]) (al1 (fit64 (by omega) (by omega))) ?_)))
         exact dr [1, 3, 9, 10, 32, 33, 34] (j + 1, y.pending, e) ⟨by omega, by rw [← hI, drop_cons hx30]; simp only [pollGo, hg]; rw [if_pos (by omega)]; simp [q51]⟩
        ·
         refine qa0 [] [1, 3, 10, 32, 33, 34] [(9, .bool true)] (done_block (ds_ (qa [(0, .fit)] [1, 3, 9, 10, 32, 33] [(34, .int .i64 ((j + 1 : Nat)))] ([Fit .i64 ((j + 1 : Nat))]) (al1 (fit64 (by omega) (by omega))) ?_)))
         exact dr [1, 3, 9, 10, 32, 33, 34] (j + 1, true, e) ⟨by omega, by rw [← hI, drop_cons hx30]; simp only [pollGo, hg]; rw [if_pos (by omega)]; simp [q51]⟩
     ·
      refine qa [(0, .no)] [1, 3, 9, 10, 32, 33, 34] [(35, .bool false)] ([¬ (((j : Nat) : Int) < ((m : Nat) : Int))]) (al1 q25) (ds_ (sq_ (f_ (at_leave _ rfl (ds_ (sq_ ?_))))))
      rcases q58 : pd with _ | _
      ·
       refine qa0 [] [] [(6, .bool false), (7, .int .i64 e)] (ds_ (rt ([]) (.tuple #[.bool false, .int .i64 e]) ?_))
       exact fun w' hw => ⟨by rw [pollV_of (by assumption) (by assumption) (by omega) (by omega), ← hI, List.drop_of_length_le (by omega)]; simp [pollGo, *], hw.below⟩
      ·
       by_cases q61 : (e : Int) = (0 : Int)
       ·
        refine qa [(3, .yes)] [] [(6, .bool true), (7, .int .i64 e)] ([(e : Int) = (0 : Int)]) (al1 q61) (ds_ (rt ([]) (.tuple #[.bool true, .int .i64 e]) ?_))
        exact fun w' hw => ⟨by rw [pollV_of (by assumption) (by assumption) (by omega) (by omega), ← hI, List.drop_of_length_le (by omega)]; simp [pollGo, *], hw.below⟩
       ·
        refine qa [(3, .no)] [] [(6, .bool false), (7, .int .i64 e)] ([¬ ((e : Int) = (0 : Int))]) (al1 q61) (ds_ (rt ([]) (.tuple #[.bool false, .int .i64 e]) ?_))
        exact fun w' hw => ⟨by rw [pollV_of (by assumption) (by assumption) (by omega) (by omega), ← hI, List.drop_of_length_le (by omega)]; simp [pollGo, *], hw.below⟩
end Go.Proofs.Ytfhlmijdokfdpaa

/-! Polls of the reference; the same rows. -/
namespace Go.Proofs.Ytfhlmijdokfdpaa
open Go Go.RowKit

set_option maxRecDepth 100000 in
theorem rpoll_d (p : Option Addr) (n cap : Nat) (l : List Port) (own : Int) (pn : Option Addr) (m capn : Nat) (ns : List Int) (w : World)
 (hsl : Sv w p l) (hn : n = l.length) (hb : n ≤ 1000)
 (hns : Sv w pn ns) (hm : m = ns.length) (hmb : m ≤ 1000)
 : Calls Try.prog 14 #[.agg #[.slice p n cap], .int .i64 own, .slice pn m capn] w fun e w' => e = .returned (.tuple #[.bool (rpollV l own ns).1, .int .i64 (rpollV l own ns).2]) ∧ Below w.heap.size w w' := by
 refine enter (Hs.start w) Try.func14 rfl Try.ntmps14 rfl (sq_ (ma0 [] [1, 2] (fun γ1 => [(3, .pointer (some ⟨γ1 0, 0, none⟩))]) (fun γ1 L => bx (γ1 0) (#[.slice p n cap]) 24 :: L) (fun γ1 => ds_ (sq_ (sq_ (ao_ (qo0 1 [] [1, 2, 3] [(14, .int .i64 own)] ?_)))))))
 rcases q3 : vcpuB own with _ | _
 ·
  refine cD (.bool false) Try.call33 (fun w hw => by have := rvcpu_d own w; rw [q3] at this; exact this) (qo0 11 [] [1, 2, 3] [(26, .bool true)] (on_ (ds_ (t_ (sq_ (qa0 [] [] [(6, .bool false), (7, .int .i64 2)] (ds_ (rt ([]) (.tuple #[.bool false, .int .i64 2]) ?_))))))))
  exact fun w' hw => ⟨by rw [rpollV_no (by rintro ⟨a, b, c⟩; first | omega | simp_all)], hw.below⟩
 ·
  refine cD (.bool true) Try.call33 (fun w hw => by have := rvcpu_d own w; rw [q3] at this; exact this) ?_
  by_cases q7 : ((m : Nat) : Int) < (1 : Int)
  ·
   refine qo 11 [(6, .yes)] [1, 2, 3] [(26, .bool true)] ([((m : Nat) : Int) < (1 : Int)]) (al1 q7) (on_ (ds_ (t_ (sq_ (qa0 [] [] [(6, .bool false), (7, .int .i64 2)] (ds_ (rt ([]) (.tuple #[.bool false, .int .i64 2]) ?_)))))))
   exact fun w' hw => ⟨by rw [rpollV_no (by rintro ⟨a, b, c⟩; first | omega | simp_all)], hw.below⟩
  ·
   by_cases q11 : ((m : Nat) : Int) > (32 : Int)
   ·
    refine qo 11 [(6, .no), (11, .yes)] [1, 2, 3] [(26, .bool true)] ([¬ (((m : Nat) : Int) < (1 : Int))] ++ ([((m : Nat) : Int) > (32 : Int)])) (alA (al1 q7) (al1 q11)) (on_ (ds_ (t_ (sq_ (qa0 [] [] [(6, .bool false), (7, .int .i64 2)] (ds_ (rt ([]) (.tuple #[.bool false, .int .i64 2]) ?_)))))))
    exact fun w' hw => ⟨by rw [rpollV_no (by rintro ⟨a, b, c⟩; first | omega | simp_all)], hw.below⟩
   ·
    refine qo 11 [(6, .no), (11, .no)] [1, 2, 3] [(26, .bool false)] ([¬ (((m : Nat) : Int) < (1 : Int))] ++ ([¬ (((m : Nat) : Int) > (32 : Int))])) (alA (al1 q7) (al1 q11)) (on_ (ds_ (f_ (at_skip (ds_ (sq_ (qa0 [] [1, 2, 3] [(8, .bool false), (9, .bool true)] (ds_ (sq_ (sq_ (qa0 [] [1, 3, 8, 9] [(27, .slice pn m capn), (28, .int .i64 ((m : Nat))), (29, .int .i64 0)] (ds_ (at_block (at_loop (α := Nat × Bool × Bool) [1, 3, 8, 9, 27, 28, 29] (fun ⟨j, pd, ow⟩ => [(1, .int .i64 own), (3, .pointer (some ⟨γ1 0, 0, none⟩)), (8, .bool pd), (9, .bool ow), (27, .slice pn m capn), (28, .int .i64 ((m : Nat))), (29, .int .i64 ((j : Nat)))]) (fun ⟨j, pd, ow⟩ => [bx (γ1 0) (#[.slice p n cap]) 24]) (fun ⟨j, pd, ow⟩ => j ≤ m ∧ rpollGo l own (ns.drop j) pd ow = rpollGo l own ns false true) (fun ⟨j, pd, ow⟩ => m - j) (0, false, true) (by kernel_rfl) rfl ⟨Nat.zero_le _, rfl⟩ ?_))))))))))))))
    rintro ⟨j, pd, ow⟩
    rintro ⟨hj, hI⟩
    refine sq_ ?_
    by_cases q18 : ((j : Nat) : Int) < ((m : Nat) : Int)
    ·
     refine qa [(0, .yes)] [1, 3, 8, 9, 27, 28, 29] [(30, .bool true)] ([((j : Nat) : Int) < ((m : Nat) : Int)]) (al1 q18) (ds_ (sq_ (t_ (at_skip (ds_ (sq_ (at_block (sq_ ?_))))))))
     obtain ⟨b21, o21, rfl⟩ := hns.pos (i := j) (by omega)
     obtain ⟨x23, hx23⟩ := get_some (l := ns) (m := j) (by omega)
     refine qa [(0, .at b21 o21 j), (1, .go (outs b21 (o21 + j * 1) [.int .i64 x23]))] [1, 3, 8, 9, 27, 28, 29] [(11, .int .i64 x23)] ([(some ⟨b21, o21, none⟩ : Option Addr) = some ⟨b21, o21, none⟩, ((j : Nat)) = ((j : Nat) : Int), j < m] ++ (cellsP w b21 (o21 + j * 1) [.int .i64 x23])) (alA (al2 rfl (al2 rfl (al1 (by omega)))) (rd_pre (hns.get hx23) _ rfl)) (ds_ (sq_ (ao_ (qo0 2 [(0, .go (owns 0 0 1))] [1, 3, 8, 9, 27, 28, 29] [(34, .agg #[.slice p n cap]), (35, .int .i64 x23)] ?_))))
     rcases hg : getB l x23 with _ | y
     ·
      refine cD (.tuple #[.agg #[.int .i64 0, .int .i64 0, .int .i64 0, .bool false, .bool false], .bool false]) Try.call19 (fun w hw => by have := rget_d p n cap l x23 w (hsl.kept hw.below) hn hb; rw [hg] at this; exact this) (mo0 6 [(7, .go (owns 0 0 5))] [1, 3, 8, 9, 27, 28, 29] (fun γ26 => [(12, .pointer (some ⟨γ26 0, 0, none⟩)), (13, .bool false)]) (fun γ26 L => bx (γ26 0) (#[.int .i64 0, .int .i64 0, .int .i64 0, .bool false, .bool false]) 40 :: L) (fun γ26 => on_ (ds_ (sq_ (sq_ (qa0 [] [1, 3, 8, 9, 12, 27, 28, 29] [(40, .bool true)] (ds_ (t_ (sq_ (qa0 [] [] [(6, .bool false), (7, .int .i64 4)] (ds_ (rt ([]) (.tuple #[.bool false, .int .i64 4]) ?_))))))))))))
      exact fun w' hw => ⟨by rw [rpollV_of (by assumption) (by omega) (by omega), ← hI, drop_cons hx23]; simp [rpollGo, hg], hw.below⟩
     ·
      refine cD (.tuple #[.agg #[.int .i64 y.num, .int .i64 y.vcpu, .int .i64 y.peer, .bool y.pending, .bool y.masked], .bool true]) Try.call19 (fun w hw => by have := rget_d p n cap l x23 w (hsl.kept hw.below) hn hb; rw [hg] at this; exact this) (mo0 6 [(7, .go (owns 0 0 5))] [1, 3, 8, 9, 27, 28, 29] (fun γ29 => [(12, .pointer (some ⟨γ29 0, 0, none⟩)), (13, .bool true)]) (fun γ29 L => bx (γ29 0) (#[.int .i64 y.num, .int .i64 y.vcpu, .int .i64 y.peer, .bool y.pending, .bool y.masked]) 40 :: L) (fun γ29 => on_ (ds_ (sq_ (sq_ (qa0 [] [1, 3, 8, 9, 12, 27, 28, 29] [(40, .bool false)] (ds_ (f_ (at_skip (ds_ ?_))))))))))
      rcases q32 : pd with _ | _
      ·
       rcases q34 : ow with _ | _
       ·
        refine cq [(3, .go (owns 0 3 1))] [1, 3, 27, 28, 29] [(8, .bool y.pending), (9, .bool false)] ([]) rfl (by kernel_rfl) (by kernel_rfl) (by kernel_rfl) al0 (done_block (ds_ (qa [(0, .fit)] [1, 3, 8, 9, 27, 28] [(29, .int .i64 ((j + 1 : Nat)))] ([Fit .i64 ((j + 1 : Nat))]) (al1 (fit64 (by omega) (by omega))) (Done.drop (L' := [bx (γ1 0) (#[.slice p n cap]) 24]) ?_ (List.Sublist.cons _ (List.Sublist.cons_cons _ (List.Sublist.refl _)))))))
        exact dr [1, 3, 8, 9, 27, 28, 29] (j + 1, y.pending, false) ⟨by omega, by rw [← hI, drop_cons hx23]; simp only [rpollGo, hg]; simp [*]⟩
       ·
        by_cases q38 : (y.vcpu : Int) = (own : Int)
        ·
         refine cq [(3, .go (owns 0 3 1)), (8, .go (owns 0 1 1)), (10, .yes)] [1, 3, 27, 28, 29] [(8, .bool y.pending), (9, .bool true)] ([(y.vcpu : Int) = (own : Int)]) rfl (by kernel_rfl) (by kernel_rfl) (by kernel_rfl) (al1 q38) (done_block (ds_ (qa [(0, .fit)] [1, 3, 8, 9, 27, 28] [(29, .int .i64 ((j + 1 : Nat)))] ([Fit .i64 ((j + 1 : Nat))]) (al1 (fit64 (by omega) (by omega))) (Done.drop (L' := [bx (γ1 0) (#[.slice p n cap]) 24]) ?_ (List.Sublist.cons _ (List.Sublist.cons_cons _ (List.Sublist.refl _)))))))
         exact dr [1, 3, 8, 9, 27, 28, 29] (j + 1, y.pending, true) ⟨by omega, by rw [← hI, drop_cons hx23]; simp only [rpollGo, hg]; simp [*]⟩
        ·
         refine cq [(3, .go (owns 0 3 1)), (8, .go (owns 0 1 1)), (10, .no)] [1, 3, 27, 28, 29] [(8, .bool y.pending), (9, .bool false)] ([¬ ((y.vcpu : Int) = (own : Int))]) rfl (by kernel_rfl) (by kernel_rfl) (by kernel_rfl) (al1 q38) (done_block (ds_ (qa [(0, .fit)] [1, 3, 8, 9, 27, 28] [(29, .int .i64 ((j + 1 : Nat)))] ([Fit .i64 ((j + 1 : Nat))]) (al1 (fit64 (by omega) (by omega))) (Done.drop (L' := [bx (γ1 0) (#[.slice p n cap]) 24]) ?_ (List.Sublist.cons _ (List.Sublist.cons_cons _ (List.Sublist.refl _)))))))
         exact dr [1, 3, 8, 9, 27, 28, 29] (j + 1, y.pending, false) ⟨by omega, by rw [← hI, drop_cons hx23]; simp only [rpollGo, hg]; simp [*]⟩
      ·
       rcases q44 : ow with _ | _
       ·
        refine cq [] [1, 3, 27, 28, 29] [(8, .bool true), (9, .bool false)] ([]) rfl (by kernel_rfl) (by kernel_rfl) (by kernel_rfl) al0 (done_block (ds_ (qa [(0, .fit)] [1, 3, 8, 9, 27, 28] [(29, .int .i64 ((j + 1 : Nat)))] ([Fit .i64 ((j + 1 : Nat))]) (al1 (fit64 (by omega) (by omega))) (Done.drop (L' := [bx (γ1 0) (#[.slice p n cap]) 24]) ?_ (List.Sublist.cons _ (List.Sublist.cons_cons _ (List.Sublist.refl _)))))))
        exact dr [1, 3, 8, 9, 27, 28, 29] (j + 1, true, false) ⟨by omega, by rw [← hI, drop_cons hx23]; simp only [rpollGo, hg]; simp [*]⟩
       ·
        by_cases q48 : (y.vcpu : Int) = (own : Int)
        ·
         refine cq [(8, .go (owns 0 1 1)), (10, .yes)] [1, 3, 27, 28, 29] [(8, .bool true), (9, .bool true)] ([(y.vcpu : Int) = (own : Int)]) rfl (by kernel_rfl) (by kernel_rfl) (by kernel_rfl) (al1 q48) (done_block (ds_ (qa [(0, .fit)] [1, 3, 8, 9, 27, 28] [(29, .int .i64 ((j + 1 : Nat)))] ([Fit .i64 ((j + 1 : Nat))]) (al1 (fit64 (by omega) (by omega))) (Done.drop (L' := [bx (γ1 0) (#[.slice p n cap]) 24]) ?_ (List.Sublist.cons _ (List.Sublist.cons_cons _ (List.Sublist.refl _)))))))
         exact dr [1, 3, 8, 9, 27, 28, 29] (j + 1, true, true) ⟨by omega, by rw [← hI, drop_cons hx23]; simp only [rpollGo, hg]; simp [*]⟩
        ·
         refine cq [(8, .go (owns 0 1 1)), (10, .no)] [1, 3, 27, 28, 29] [(8, .bool true), (9, .bool false)] ([¬ ((y.vcpu : Int) = (own : Int))]) rfl (by kernel_rfl) (by kernel_rfl) (by kernel_rfl) (al1 q48) (done_block (ds_ (qa [(0, .fit)] [1, 3, 8, 9, 27, 28] [(29, .int .i64 ((j + 1 : Nat)))] ([Fit .i64 ((j + 1 : Nat))]) (al1 (fit64 (by omega) (by omega))) (Done.drop (L' := [bx (γ1 0) (#[.slice p n cap]) 24]) ?_ (List.Sublist.cons _ (List.Sublist.cons_cons _ (List.Sublist.refl _)))))))
         exact dr [1, 3, 8, 9, 27, 28, 29] (j + 1, true, false) ⟨by omega, by rw [← hI, drop_cons hx23]; simp only [rpollGo, hg]; simp [*]⟩
    ·
     refine qa [(0, .no)] [1, 3, 8, 9, 27, 28, 29] [(30, .bool false)] ([¬ (((j : Nat) : Int) < ((m : Nat) : Int))]) (al1 q18) (ds_ (sq_ (f_ (at_leave _ rfl (ds_ (sq_ (sq_ ?_)))))))
     rcases q55 : ow with _ | _
     ·
      refine qa0 [] [8] [(55, .bool true)] (ds_ (t_ (sq_ (qa0 [] [] [(6, .bool false), (7, .int .i64 2)] (ds_ (rt ([]) (.tuple #[.bool false, .int .i64 2]) ?_))))))
      exact fun w' hw => ⟨by rw [rpollV_of (by assumption) (by omega) (by omega), ← hI, List.drop_of_length_le (by omega)]; simp [rpollGo, *], hw.below⟩
     ·
      refine qa0 [] [8] [(55, .bool false)] (ds_ (f_ (at_skip (ds_ (sq_ (qa0 [] [] [(6, .bool pd), (7, .int .i64 0)] (ds_ (rt ([]) (.tuple #[.bool pd, .int .i64 0]) ?_))))))))
      exact fun w' hw => ⟨by rw [rpollV_of (by assumption) (by omega) (by omega), ← hI, List.drop_of_length_le (by omega)]; simp [rpollGo, *], hw.below⟩

set_option maxRecDepth 100000 in
theorem equal_d (p : Option Addr) (n cap : Nat) (l : List Port) (q : Option Addr) (m cap2 : Nat) (l2 : List Port) (w : World)
 (hsl : Sv w p l) (hn : n = l.length) (hb : n ≤ 1000)
 (hsl2 : Sv w q l2) (hm : m = l2.length) (hmb : m ≤ 1000)
 : Calls Try.prog 35 #[.slice p n cap, .slice q m cap2] w fun e w' => e = .returned (.bool (decide (l = l2))) ∧ Below w.heap.size w w' := by
 refine enter (Hs.start w) Try.func35 rfl Try.ntmps35 rfl (sq_ (qa0 [] [0, 1] [] (ds_ (sq_ (sq_ ?_)))))
 by_cases q3 : ((n : Nat) : Int) ≠ ((m : Nat) : Int)
 ·
  refine qa [(4, .yes)] [0, 1] [(10, .bool true)] ([((n : Nat) : Int) ≠ ((m : Nat) : Int)]) (al1 q3) (ds_ (t_ (sq_ (qa0 [] [] [(4, .bool false)] (ds_ (rt ([]) (.bool false) ?_))))))
  exact fun w' hw => ⟨by rw [same_len (l := l) (l2 := l2) (by omega)], hw.below⟩
 ·
  refine qa [(4, .no)] [0, 1] [(10, .bool false)] ([¬ (((n : Nat) : Int) ≠ ((m : Nat) : Int))]) (al1 q3) (ds_ (f_ (at_skip (ds_ (sq_ (sq_ (qa0 [] [0, 1] [(12, .int .i64 ((n : Nat))), (13, .int .i64 0)] (ds_ (at_block (at_loop (α := Nat) [0, 1, 12, 13] (fun j => [(0, .slice p n cap), (1, .slice q m cap2), (12, .int .i64 ((n : Nat))), (13, .int .i64 ((j : Nat)))]) (fun j => []) (fun j => j ≤ n ∧ l.take j = l2.take j) (fun j => n - j) 0 (by kernel_rfl) rfl ⟨Nat.zero_le _, rfl⟩ ?_))))))))))
  rintro j
  rintro ⟨hj, hI⟩
  refine sq_ ?_
  by_cases q9 : ((j : Nat) : Int) < ((n : Nat) : Int)
  ·
   refine qa [(0, .yes)] [0, 1, 12, 13] [(14, .bool true)] ([((j : Nat) : Int) < ((n : Nat) : Int)]) (al1 q9) (ds_ (sq_ (t_ (at_skip (ds_ (sq_ (at_block (sq_ (qa0 [] [0, 1, 12, 13] [(5, .int .i64 ((j : Nat)))] (ds_ (sq_ ?_)))))))))))
   obtain ⟨b13, o13, rfl⟩ := hsl.pos (i := j) (by omega)
   obtain ⟨x15, hx15⟩ := get_some (l := l) (m := j) (by omega)
   obtain ⟨b17, o17, rfl⟩ := hsl2.pos (i := j) (by omega)
   obtain ⟨x19, hx19⟩ := get_some (l := l2) (m := j) (by omega)
   by_cases q21 : x15 = x19
   ·
    refine cq [(2, .at b13 o13 j), (3, .go (outs b13 (o13 + j * 5) [.int .i64 x15.num, .int .i64 x15.vcpu, .int .i64 x15.peer, .bool x15.pending, .bool x15.masked])), (6, .at b17 o17 j), (7, .go (outs b17 (o17 + j * 5) [.int .i64 x19.num, .int .i64 x19.vcpu, .int .i64 x19.peer, .bool x19.pending, .bool x19.masked])), (8, .eqs false)] [0, 1, 12, 13] [(24, .bool false)] ([(some ⟨b13, o13, none⟩ : Option Addr) = some ⟨b13, o13, none⟩, ((j : Nat)) = ((j : Nat) : Int), j < n] ++ (cellsP w b13 (o13 + j * 5) [.int .i64 x15.num, .int .i64 x15.vcpu, .int .i64 x15.peer, .bool x15.pending, .bool x15.masked] ++ ([(some ⟨b17, o17, none⟩ : Option Addr) = some ⟨b17, o17, none⟩, ((j : Nat)) = ((j : Nat) : Int), j < m] ++ (cellsP w b17 (o17 + j * 5) [.int .i64 x19.num, .int .i64 x19.vcpu, .int .i64 x19.peer, .bool x19.pending, .bool x19.masked] ++ ([EqRun Try.prog .neq 40 (.tmp 19) (.tmp 23) (.agg #[.int .i64 x15.num, .int .i64 x15.vcpu, .int .i64 x15.peer, .bool x15.pending, .bool x15.masked]) (.agg #[.int .i64 x19.num, .int .i64 x19.vcpu, .int .i64 x19.peer, .bool x19.pending, .bool x19.masked]) false]))))) rfl (by kernel_rfl) (by kernel_rfl) (by kernel_rfl) (alA (al2 rfl (al2 rfl (al1 (by omega)))) (alA (rd_pre (hsl.get hx15) _ rfl) (alA (al2 rfl (al2 rfl (al1 (by omega)))) (alA (rd_pre (hsl2.get hx19) _ rfl) (al1 (port_ne_t (a := x15) (b := x19) q21)))))) (ds_ (f_ (at_skip (done_block (ds_ (qa [(0, .fit)] [0, 1, 12] [(13, .int .i64 ((j + 1 : Nat)))] ([Fit .i64 ((j + 1 : Nat))]) (al1 (fit64 (by omega) (by omega))) ?_))))))
    exact dr [0, 1, 12, 13] (j + 1) ⟨by omega, same_on hI hx15 hx19 (by assumption)⟩
   ·
    refine cq [(2, .at b13 o13 j), (3, .go (outs b13 (o13 + j * 5) [.int .i64 x15.num, .int .i64 x15.vcpu, .int .i64 x15.peer, .bool x15.pending, .bool x15.masked])), (6, .at b17 o17 j), (7, .go (outs b17 (o17 + j * 5) [.int .i64 x19.num, .int .i64 x19.vcpu, .int .i64 x19.peer, .bool x19.pending, .bool x19.masked])), (8, .eqs true)] [0, 1, 12, 13] [(24, .bool true)] ([(some ⟨b13, o13, none⟩ : Option Addr) = some ⟨b13, o13, none⟩, ((j : Nat)) = ((j : Nat) : Int), j < n] ++ (cellsP w b13 (o13 + j * 5) [.int .i64 x15.num, .int .i64 x15.vcpu, .int .i64 x15.peer, .bool x15.pending, .bool x15.masked] ++ ([(some ⟨b17, o17, none⟩ : Option Addr) = some ⟨b17, o17, none⟩, ((j : Nat)) = ((j : Nat) : Int), j < m] ++ (cellsP w b17 (o17 + j * 5) [.int .i64 x19.num, .int .i64 x19.vcpu, .int .i64 x19.peer, .bool x19.pending, .bool x19.masked] ++ ([EqRun Try.prog .neq 40 (.tmp 19) (.tmp 23) (.agg #[.int .i64 x15.num, .int .i64 x15.vcpu, .int .i64 x15.peer, .bool x15.pending, .bool x15.masked]) (.agg #[.int .i64 x19.num, .int .i64 x19.vcpu, .int .i64 x19.peer, .bool x19.pending, .bool x19.masked]) true]))))) rfl (by kernel_rfl) (by kernel_rfl) (by kernel_rfl) (alA (al2 rfl (al2 rfl (al1 (by omega)))) (alA (rd_pre (hsl.get hx15) _ rfl) (alA (al2 rfl (al2 rfl (al1 (by omega)))) (alA (rd_pre (hsl2.get hx19) _ rfl) (al1 (port_ne_f (a := x15) (b := x19) q21)))))) (ds_ (t_ (sq_ (qa0 [] [] [(4, .bool false)] (ds_ (rt ([]) (.bool false) ?_))))))
    exact fun w' hw => ⟨by rw [same_no hx15 hx19 (by assumption)], hw.below⟩
  ·
   refine qa [(0, .no)] [0, 1, 12, 13] [(14, .bool false)] ([¬ (((j : Nat) : Int) < ((n : Nat) : Int))]) (al1 q9) (ds_ (sq_ (f_ (at_leave _ rfl (ds_ (sq_ (qa0 [] [] [(4, .bool true)] (ds_ (rt ([]) (.bool true) ?_)))))))))
   exact fun w' hw => ⟨by rw [same_yes hI (by omega) (by omega)], hw.below⟩

set_option maxRecDepth 100000 in
theorem rsame_d (p : Option Addr) (n cap : Nat) (l : List Port) (q : Option Addr) (m cap2 : Nat) (l2 : List Port) (w : World)
 (hsl : Sv w p l) (hn : n = l.length) (hb : n ≤ 1000)
 (hsl2 : Sv w q l2) (hm : m = l2.length) (hmb : m ≤ 1000)
 : Calls Try.prog 15 #[.agg #[.slice p n cap], .agg #[.slice q m cap2]] w fun e w' => e = .returned (.bool (decide (l = l2))) ∧ Below w.heap.size w w' := by
 refine enter (Hs.start w) Try.func15 rfl Try.ntmps15 rfl (sq_ (ma0 [] [] (fun γ1 => [(2, .pointer (some ⟨γ1 0, 0, none⟩)), (3, .pointer (some ⟨γ1 1, 0, none⟩))]) (fun γ1 L => bx (γ1 1) (#[.slice q m cap2]) 24 :: bx (γ1 0) (#[.slice p n cap]) 24 :: L) (fun γ1 => ds_ (sq_ (sq_ ?_)))))
 by_cases q3 : ((n : Nat) : Int) ≠ ((m : Nat) : Int)
 ·
  refine qa [(1, .go (owns 1 0 1)), (4, .go (owns 0 0 1)), (6, .yes)] [2, 3] [(12, .bool true)] ([((n : Nat) : Int) ≠ ((m : Nat) : Int)]) (al1 q3) (ds_ (t_ (sq_ (qa0 [] [] [(4, .bool false)] (ds_ (rt ([]) (.bool false) ?_))))))
  exact fun w' hw => ⟨by rw [same_len (l := l) (l2 := l2) (by omega)], hw.below⟩
 ·
  refine qa [(1, .go (owns 1 0 1)), (4, .go (owns 0 0 1)), (6, .no)] [2, 3] [(12, .bool false)] ([¬ (((n : Nat) : Int) ≠ ((m : Nat) : Int))]) (al1 q3) (ds_ (f_ (at_skip (ds_ (sq_ (sq_ (qa0 [(1, .go (owns 1 0 1))] [2, 3] [(15, .int .i64 ((n : Nat))), (16, .int .i64 0)] (ds_ (at_block (at_loop (α := Nat) [2, 3, 15, 16] (fun j => [(2, .pointer (some ⟨γ1 0, 0, none⟩)), (3, .pointer (some ⟨γ1 1, 0, none⟩)), (15, .int .i64 ((n : Nat))), (16, .int .i64 ((j : Nat)))]) (fun j => [bx (γ1 1) (#[.slice q m cap2]) 24, bx (γ1 0) (#[.slice p n cap]) 24]) (fun j => j ≤ n ∧ l.take j = l2.take j) (fun j => n - j) 0 (by kernel_rfl) rfl ⟨Nat.zero_le _, rfl⟩ ?_))))))))))
  rintro j
  rintro ⟨hj, hI⟩
  refine sq_ ?_
  by_cases q9 : ((j : Nat) : Int) < ((n : Nat) : Int)
  ·
   refine qa [(0, .yes)] [2, 3, 15, 16] [(17, .bool true)] ([((j : Nat) : Int) < ((n : Nat) : Int)]) (al1 q9) (ds_ (sq_ (t_ (at_skip (ds_ (sq_ (at_block (sq_ (qa0 [] [2, 3, 15, 16] [(5, .int .i64 ((j : Nat)))] (ds_ (sq_ ?_)))))))))))
   obtain ⟨b13, o13, rfl⟩ := hsl.pos (i := j) (by omega)
   obtain ⟨x15, hx15⟩ := get_some (l := l) (m := j) (by omega)
   obtain ⟨b17, o17, rfl⟩ := hsl2.pos (i := j) (by omega)
   obtain ⟨x19, hx19⟩ := get_some (l := l2) (m := j) (by omega)
   by_cases q21 : x15 = x19
   ·
    refine cq [(1, .go (owns 1 0 1)), (3, .at b13 o13 j), (4, .go (outs b13 (o13 + j * 5) [.int .i64 x15.num, .int .i64 x15.vcpu, .int .i64 x15.peer, .bool x15.pending, .bool x15.masked])), (6, .go (owns 0 0 1)), (8, .at b17 o17 j), (9, .go (outs b17 (o17 + j * 5) [.int .i64 x19.num, .int .i64 x19.vcpu, .int .i64 x19.peer, .bool x19.pending, .bool x19.masked])), (10, .eqs false)] [2, 3, 15, 16] [(29, .bool false)] ([(some ⟨b13, o13, none⟩ : Option Addr) = some ⟨b13, o13, none⟩, ((j : Nat)) = ((j : Nat) : Int), j < n] ++ (cellsP w b13 (o13 + j * 5) [.int .i64 x15.num, .int .i64 x15.vcpu, .int .i64 x15.peer, .bool x15.pending, .bool x15.masked] ++ ([(some ⟨b17, o17, none⟩ : Option Addr) = some ⟨b17, o17, none⟩, ((j : Nat)) = ((j : Nat) : Int), j < m] ++ (cellsP w b17 (o17 + j * 5) [.int .i64 x19.num, .int .i64 x19.vcpu, .int .i64 x19.peer, .bool x19.pending, .bool x19.masked] ++ ([EqRun Try.prog .neq 40 (.tmp 23) (.tmp 28) (.agg #[.int .i64 x15.num, .int .i64 x15.vcpu, .int .i64 x15.peer, .bool x15.pending, .bool x15.masked]) (.agg #[.int .i64 x19.num, .int .i64 x19.vcpu, .int .i64 x19.peer, .bool x19.pending, .bool x19.masked]) false]))))) rfl (by kernel_rfl) (by kernel_rfl) (by kernel_rfl) (alA (al2 rfl (al2 rfl (al1 (by omega)))) (alA (rd_pre (hsl.get hx15) _ rfl) (alA (al2 rfl (al2 rfl (al1 (by omega)))) (alA (rd_pre (hsl2.get hx19) _ rfl) (al1 (port_ne_t (a := x15) (b := x19) q21)))))) (ds_ (f_ (at_skip (done_block (ds_ (qa [(0, .fit)] [2, 3, 15] [(16, .int .i64 ((j + 1 : Nat)))] ([Fit .i64 ((j + 1 : Nat))]) (al1 (fit64 (by omega) (by omega))) ?_))))))
    exact dr [2, 3, 15, 16] (j + 1) ⟨by omega, same_on hI hx15 hx19 (by assumption)⟩
   ·
    refine cq [(1, .go (owns 1 0 1)), (3, .at b13 o13 j), (4, .go (outs b13 (o13 + j * 5) [.int .i64 x15.num, .int .i64 x15.vcpu, .int .i64 x15.peer, .bool x15.pending, .bool x15.masked])), (6, .go (owns 0 0 1)), (8, .at b17 o17 j), (9, .go (outs b17 (o17 + j * 5) [.int .i64 x19.num, .int .i64 x19.vcpu, .int .i64 x19.peer, .bool x19.pending, .bool x19.masked])), (10, .eqs true)] [2, 3, 15, 16] [(29, .bool true)] ([(some ⟨b13, o13, none⟩ : Option Addr) = some ⟨b13, o13, none⟩, ((j : Nat)) = ((j : Nat) : Int), j < n] ++ (cellsP w b13 (o13 + j * 5) [.int .i64 x15.num, .int .i64 x15.vcpu, .int .i64 x15.peer, .bool x15.pending, .bool x15.masked] ++ ([(some ⟨b17, o17, none⟩ : Option Addr) = some ⟨b17, o17, none⟩, ((j : Nat)) = ((j : Nat) : Int), j < m] ++ (cellsP w b17 (o17 + j * 5) [.int .i64 x19.num, .int .i64 x19.vcpu, .int .i64 x19.peer, .bool x19.pending, .bool x19.masked] ++ ([EqRun Try.prog .neq 40 (.tmp 23) (.tmp 28) (.agg #[.int .i64 x15.num, .int .i64 x15.vcpu, .int .i64 x15.peer, .bool x15.pending, .bool x15.masked]) (.agg #[.int .i64 x19.num, .int .i64 x19.vcpu, .int .i64 x19.peer, .bool x19.pending, .bool x19.masked]) true]))))) rfl (by kernel_rfl) (by kernel_rfl) (by kernel_rfl) (alA (al2 rfl (al2 rfl (al1 (by omega)))) (alA (rd_pre (hsl.get hx15) _ rfl) (alA (al2 rfl (al2 rfl (al1 (by omega)))) (alA (rd_pre (hsl2.get hx19) _ rfl) (al1 (port_ne_f (a := x15) (b := x19) q21)))))) (ds_ (t_ (sq_ (qa0 [] [] [(4, .bool false)] (ds_ (rt ([]) (.bool false) ?_))))))
    exact fun w' hw => ⟨by rw [same_no hx15 hx19 (by assumption)], hw.below⟩
  ·
   refine qa [(0, .no)] [2, 3, 15, 16] [(17, .bool false)] ([¬ (((j : Nat) : Int) < ((n : Nat) : Int))]) (al1 q9) (ds_ (sq_ (f_ (at_leave _ rfl (ds_ (sq_ (qa0 [] [] [(4, .bool true)] (ds_ (rt ([]) (.bool true) ?_)))))))))
   exact fun w' hw => ⟨by rw [same_yes hI (by omega) (by omega)], hw.below⟩

set_option maxRecDepth 100000 in
theorem same_d (p : Option Addr) (n cap : Nat) (l : List Port) (q : Option Addr) (m cap2 : Nat) (l2 : List Port) (w : World)
 (hsl : Sv w p l) (hn : n = l.length) (hb : n ≤ 1000)
 (hsl2 : Sv w q l2) (hm : m = l2.length) (hmb : m ≤ 1000)
 : Calls Try.prog 17 #[.agg #[.slice p n cap], .agg #[.slice q m cap2]] w fun e w' => e = .returned (.bool (decide (l = l2))) ∧ Below w.heap.size w w' := by
 refine enter (Hs.start w) Try.func17 rfl Try.ntmps17 rfl (sq_ (ma0 [] [] (fun γ1 => [(2, .pointer (some ⟨γ1 0, 0, none⟩)), (3, .pointer (some ⟨γ1 1, 0, none⟩))]) (fun γ1 L => bx (γ1 1) (#[.slice q m cap2]) 24 :: bx (γ1 0) (#[.slice p n cap]) 24 :: L) (fun γ1 => ds_ (sq_ (ao_ (qo0 4 [(1, .go (owns 1 0 1)), (3, .go (owns 0 0 1))] [] [(6, .slice p n cap), (8, .slice q m cap2)] (cD (.bool (decide (l = l2))) Try.call35 (fun w hw => equal_d p n cap l q m cap2 l2 w (hsl.kept hw.below) hn hb (hsl2.kept hw.below) hm hmb) (qo0 1 [] [] [(4, .bool (decide (l = l2)))] (on_ (ds_ (rt ([]) (.bool (decide (l = l2))) ?_)))))))))))
 exact fun w' hw => ⟨rfl, hw.below⟩
end Go.Proofs.Ytfhlmijdokfdpaa

/-! Copies. -/
namespace Go.Proofs.Ytfhlmijdokfdpaa
open Go Go.RowKit

set_option maxRecDepth 100000 in
theorem copy_d (p : Option Addr) (n cap : Nat) (l : List Port) (w : World)
 (hsl : Sv w p l) (hn : n = l.length) (hb : n ≤ 1000)
 : Calls Try.prog 26 #[.agg #[.slice p n cap]] w fun e w' => ∃ q capq Y, e = .returned (.agg #[.slice q n capq]) ∧ SlO 40 Y q n capq l ∧ Below w.heap.size w w' ∧ Hs w Y w' := by
 refine enter (Hs.start w) Try.func26 rfl Try.ntmps26 rfl (sq_ (ma0 [] [] (fun γ1 => [(1, .pointer (some ⟨γ1 0, 0, none⟩)), (2, .pointer (some ⟨γ1 1, 0, none⟩))]) (fun γ1 L => bx (γ1 1) (#[.slice none 0 0]) 24 :: bx (γ1 0) (#[.slice p n cap]) 24 :: L) (fun γ1 => ds_ (sq_ (ao_ (mo0 3 [(2, .go (owns 2 0 1))] [2] (fun γ2 => [(3, .slice (some ⟨γ2 0, 0, none⟩) 0 0), (5, .slice p n cap)]) (fun γ2 L => bx (γ2 0) (#[]) 40 :: L) (fun γ2 => ops_append (α := Port) [bx (γ1 1) (#[.slice none 0 0]) 24, bx (γ1 0) (#[.slice p n cap]) 24] ([bx (γ2 0) (#[]) 40]) ([]) (mvE rfl) rfl (by kernel_rfl) (by kernel_rfl) (p := (some ⟨γ2 0, 0, none⟩)) (n := 0) (cap := 0) (m := n) (yv := .slice p n cap) (by kernel_rfl) (by kernel_rfl) (T := 40) (by_ := 32) (by kernel_rfl) ([]) l (SlO.lit (by rfl) (by rfl) (by simp [maxLen])) (fun w hw => src_svn Try.underlying22 (hsl.kept hw.below) hn) hn (by have hmx : maxLen = 9223372036854775807 := rfl; omega) (by have hmx : maxLen = 9223372036854775807 := rfl; omega) (fun Y3 p3 cap3 hO3 => mo0 2 [(5, .go (owns 0 0 1))] [2] (fun _ => []) (fun _ L => (L.set 0 (bx (γ1 1) (#[.slice p3 (0 + n) cap3]) 24))) (fun _ => on_ (ds_ (rt (owns 0 0 1) (.agg #[.slice p3 (0 + n) cap3]) ?_)))))))))))
 exact fun w' hw => ⟨_, _, _, by rw [Nat.zero_add], by simpa using hO3, hw.below, ((hw.tailN 2).sub (List.sublist_append_left Y3 ([])))⟩

set_option maxRecDepth 100000 in
theorem short_d (p : Option Addr) (n cap : Nat) (l : List Port) (w : World)
 (hsl : Sv w p l) (hn : n = l.length) (hcap : n ≤ cap) (hbig : cap ≤ 9223372036854775807)
 : Calls Try.prog 11 #[.agg #[.slice p n cap]] w fun e w' => ∃ q m capq Y, e = .returned (.agg #[.slice q m capq]) ∧ SlO 40 Y q m capq (l.take 33) ∧ m ≤ 33 ∧ Below w.heap.size w w' ∧ Hs w Y w' := by
 refine enter (Hs.start w) Try.func11 rfl Try.ntmps11 rfl (sq_ (ma0 [] [] (fun γ1 => [(1, .pointer (some ⟨γ1 0, 0, none⟩)), (2, .pointer (some ⟨γ1 1, 0, none⟩))]) (fun γ1 L => bx (γ1 1) (#[.slice none 0 0]) 24 :: bx (γ1 0) (#[.slice p n cap]) 24 :: L) (fun γ1 => ds_ (sq_ ?_))))
 by_cases q3 : (33 : Int) < ((n : Nat) : Int)
 ·
  refine ao_ (qo 8 [(1, .go (owns 1 0 1)), (3, .go (owns 1 0 1)), (5, .is [] (.int .i64 33)), (6, .sl (.slice p 33 cap))] [2] [(10, .agg #[.slice p 33 cap])] ([Value.int .i64 (if (33 : Int) < ((n : Nat) : Int) then 33 else (n : Nat)) = .int .i64 33] ++ ([SlRun Try.prog 22 (.slice p n cap) none (some (.int .i64 33)) none (.slice p 33 cap)])) (alA (al1 (by rw [if_pos q3])) (al1 (slE_hi (P := Try.prog) (h := 33) (T := 22) (e := 40) (k := 5) (by_ := 32) (by kernel_rfl) (by omega)))) (cP (fun v L' => ∃ q capq Y, v = .agg #[.slice q 33 capq] ∧ L' = List.take 2 ([bx (γ1 1) (#[.slice none 0 0]) 24, bx (γ1 0) (#[.slice p n cap]) 24]) ++ (Y ++ List.drop 2 ([bx (γ1 1) (#[.slice none 0 0]) 24, bx (γ1 0) (#[.slice p n cap]) 24])) ∧ SlO 40 Y q 33 capq ((l.take 33))) Try.call26 (fun w hw => (copy_d p 33 cap ((l.take 33)) w ((hsl.kept hw.below).take 33) (by rw [List.length_take]; omega) (by omega)).mono fun e w' ⟨q, capq, Y, he, hO, hb, hY⟩ => ⟨_, _, he, ⟨q, capq, Y, rfl, rfl, hO⟩, hw.join hb hY 2⟩) ?_))
  rintro v5 L5 ⟨q5, cq5, Y5, rfl, rfl, hO5⟩
  refine mo0 1 [(9, .go (owns 0 0 1))] [2] (fun _ => []) (fun _ L => (L.set 0 (bx (γ1 1) (#[.slice q5 33 cq5]) 24))) (fun _ => on_ (ds_ (rt (owns 0 0 1) (.agg #[.slice q5 33 cq5]) ?_)))
  exact fun w' hw => ⟨_, _, _, _, rfl, by rw [show l.take 33 = (l.take 33) from by rfl]; exact hO5, by omega, hw.below, ((hw.tailN 2).sub (List.sublist_append_left Y5 ([])))⟩
 ·
  refine ao_ (qo 8 [(1, .go (owns 1 0 1)), (3, .go (owns 1 0 1)), (5, .is [] (.int .i64 ((n : Nat)))), (6, .sl (.slice p n cap))] [2] [(10, .agg #[.slice p n cap])] ([Value.int .i64 (if (33 : Int) < ((n : Nat) : Int) then 33 else (n : Nat)) = .int .i64 ((n : Nat))] ++ ([SlRun Try.prog 22 (.slice p n cap) none (some (.int .i64 ((n : Nat)))) none (.slice p n cap)])) (alA (al1 (by rw [if_neg q3])) (al1 (slE_hi (P := Try.prog) (h := n) (T := 22) (e := 40) (k := 5) (by_ := 32) (by kernel_rfl) (by omega)))) (cP (fun v L' => ∃ q capq Y, v = .agg #[.slice q n capq] ∧ L' = List.take 2 ([bx (γ1 1) (#[.slice none 0 0]) 24, bx (γ1 0) (#[.slice p n cap]) 24]) ++ (Y ++ List.drop 2 ([bx (γ1 1) (#[.slice none 0 0]) 24, bx (γ1 0) (#[.slice p n cap]) 24])) ∧ SlO 40 Y q n capq ((l.take n))) Try.call26 (fun w hw => (copy_d p n cap ((l.take n)) w ((hsl.kept hw.below).take n) (by rw [List.length_take]; omega) (by omega)).mono fun e w' ⟨q, capq, Y, he, hO, hb, hY⟩ => ⟨_, _, he, ⟨q, capq, Y, rfl, rfl, hO⟩, hw.join hb hY 2⟩) ?_))
  rintro v8 L8 ⟨q8, cq8, Y8, rfl, rfl, hO8⟩
  refine mo0 1 [(9, .go (owns 0 0 1))] [2] (fun _ => []) (fun _ L => (L.set 0 (bx (γ1 1) (#[.slice q8 n cq8]) 24))) (fun _ => on_ (ds_ (rt (owns 0 0 1) (.agg #[.slice q8 n cq8]) ?_)))
  exact fun w' hw => ⟨_, _, _, _, rfl, by rw [show l.take 33 = (l.take n) from by rw [List.take_of_length_le (by omega), List.take_of_length_le (by omega)]]; exact hO8, by omega, hw.below, ((hw.tailN 2).sub (List.sublist_append_left Y8 ([])))⟩
end Go.Proofs.Ytfhlmijdokfdpaa

/-! Functions of package slices. -/
namespace Go.Proofs.Ytfhlmijdokfdpaa
open Go Go.RowKit

set_option maxRecDepth 100000 in
theorem clone_d (p : Option Addr) (n cap : Nat) (l : List Port) (w : World)
    (hsl : Sv w p l) (hn : n = l.length) (hb : n ≤ 1000)
    : Calls Try.prog 72 #[.slice p n cap] w fun e w' => ∃ q capq Y, e = .returned (.slice q n capq) ∧ SlO 40 Y q n capq l ∧ Below w.heap.size w w' ∧ Hs w Y w' := by
  refine enter (Hs.start w) Try.func72 rfl Try.ntmps72 rfl (sq_ (qa0 [] [0] [] (ds_ (sq_ (sq_ ?_)))))
  rcases p with _ | a3
  ·
    refine qa0 [] [0] [(4, .bool true)] (ds_ (t_ (sq_ (qa0 [] [] [(2, .slice none 0 0)] (ds_ (rt ([]) (.slice none 0 0) ?_))))))
    exact fun w' hw => ⟨none, 0, [], by rw [hn, hsl.none]; rfl, by rw [hn, hsl.none]; exact SlO.nil, hw.below, hw.sub (List.nil_sublist _)⟩
  ·
    refine qa0 [] [0] [(4, .bool false)] (ds_ (f_ (at_skip (ds_ (sq_ (ao_ (mo0 2 [] [] (fun γ7 => [(5, .slice (some ⟨γ7 0, 0, none⟩) 0 0), (6, .slice (some a3) n cap)]) (fun γ7 L => bx (γ7 0) (#[]) 40 :: L) (fun γ7 => ops_append (α := Port) [] ([bx (γ7 0) (#[]) 40]) ([]) (mvE rfl) rfl (by kernel_rfl) (by kernel_rfl) (p := (some ⟨γ7 0, 0, none⟩)) (n := 0) (cap := 0) (m := n) (yv := .slice (some a3) n cap) (by kernel_rfl) (by kernel_rfl) (T := 40) (by_ := 32) (by kernel_rfl) ([]) l (SlO.lit (by rfl) (by rfl) (by simp [maxLen])) (fun w hw => src_svn Try.underlying22 (hsl.kept hw.below) hn) hn (by have hmx : maxLen = 9223372036854775807 := rfl; omega) (by have hmx : maxLen = 9223372036854775807 := rfl; omega) (fun Y8 p8 cap8 hO8 => qo0 1 [] [] [(2, .slice p8 (0 + n) cap8)] (on_ (ds_ (rt ([]) (.slice p8 (0 + n) cap8) ?_))))))))))))
    exact fun w' hw => ⟨_, _, _, by rw [Nat.zero_add], by simpa using hO8, hw.below, ((hw.tailN 0).sub (List.sublist_append_left Y8 ([])))⟩

set_option maxRecDepth 100000 in
theorem index_d (p : Option Addr) (n cap : Nat) (l : List Int) (k : Int) (w : World)
    (hsl : Sv w p l) (hn : n = l.length) (hb : n ≤ 1000)
    : Calls Try.prog 53 #[.slice p n cap, .int .i64 k] w fun e w' => e = .returned (.int .i64 (idxI l k)) ∧ Below w.heap.size w w' := by
  refine enter (Hs.start w) Try.func53 rfl Try.ntmps53 rfl (sq_ (qa0 [] [0, 1] [] (ds_ (sq_ (sq_ (qa0 [] [0, 1] [(7, .int .i64 ((n : Nat))), (8, .int .i64 0)] (ds_ (at_block (at_loop (α := Nat) [0, 1, 7, 8] (fun j => [(0, .slice p n cap), (1, .int .i64 k), (7, .int .i64 ((n : Nat))), (8, .int .i64 ((j : Nat)))]) (fun j => []) (fun j => j ≤ n ∧ ∀ (t : Nat) (y : Int), t < j → l[t]? = some y → ¬ y = k) (fun j => n - j) 0 (by kernel_rfl) rfl ⟨Nat.zero_le _, fun t y h => by omega⟩ ?_)))))))))
  rintro j
  rintro ⟨hj, hI⟩
  refine sq_ ?_
  by_cases q4 : ((j : Nat) : Int) < ((n : Nat) : Int)
  ·
    refine qa [(0, .yes)] [0, 1, 7, 8] [(9, .bool true)] ([((j : Nat) : Int) < ((n : Nat) : Int)]) (al1 q4) (ds_ (sq_ (t_ (at_skip (ds_ (sq_ (at_block (sq_ (qa0 [] [0, 1, 7, 8] [(5, .int .i64 ((j : Nat)))] (ds_ (sq_ ?_)))))))))))
    obtain ⟨b8, o8, rfl⟩ := hsl.pos (i := j) (by omega)
    obtain ⟨x10, hx10⟩ := get_some (l := l) (m := j) (by omega)
    by_cases q12 : (k : Int) = (x10 : Int)
    ·
      refine qa [(3, .at b8 o8 j), (4, .go (outs b8 (o8 + j * 1) [.int .i64 x10])), (5, .yes)] [0, 1, 5, 7, 8] [(16, .bool true)] ([(some ⟨b8, o8, none⟩ : Option Addr) = some ⟨b8, o8, none⟩, ((j : Nat)) = ((j : Nat) : Int), j < n] ++ (cellsP w b8 (o8 + j * 1) [.int .i64 x10] ++ ([(k : Int) = (x10 : Int)]))) (alA (al2 rfl (al2 rfl (al1 (by omega)))) (alA (rd_pre (hsl.get hx10) _ rfl) (al1 q12))) (ds_ (t_ (sq_ (qa0 [] [] [(4, .int .i64 ((j : Nat)))] (ds_ (rt ([]) (.int .i64 ((j : Nat))) ?_))))))
      exact fun w' hw => ⟨by rw [idx_hit hI hx10 (by omega)], hw.below⟩
    ·
      refine qa [(3, .at b8 o8 j), (4, .go (outs b8 (o8 + j * 1) [.int .i64 x10])), (5, .no)] [0, 1, 5, 7, 8] [(16, .bool false)] ([(some ⟨b8, o8, none⟩ : Option Addr) = some ⟨b8, o8, none⟩, ((j : Nat)) = ((j : Nat) : Int), j < n] ++ (cellsP w b8 (o8 + j * 1) [.int .i64 x10] ++ ([¬ ((k : Int) = (x10 : Int))]))) (alA (al2 rfl (al2 rfl (al1 (by omega)))) (alA (rd_pre (hsl.get hx10) _ rfl) (al1 q12))) (ds_ (f_ (at_skip (done_block (ds_ (qa [(0, .fit)] [0, 1, 7] [(8, .int .i64 ((j + 1 : Nat)))] ([Fit .i64 ((j + 1 : Nat))]) (al1 (fit64 (by omega) (by omega))) ?_))))))
      exact done_round [0, 1, 7, 8] (j + 1) (by kernel_rfl) rfl ⟨by omega, fun t y ht e => by
          by_cases htj : t = j
          · subst htj; rw [hx10] at e; cases e; omega
          · exact hI t y (by omega) e⟩ (by first | omega | (simp only; omega))
  ·
    refine qa [(0, .no)] [0, 1, 7, 8] [(9, .bool false)] ([¬ (((j : Nat) : Int) < ((n : Nat) : Int))]) (al1 q4) (ds_ (sq_ (f_ (at_leave _ rfl (ds_ (sq_ (qa0 [] [] [(4, .int .i64 (-1))] (ds_ (rt ([]) (.int .i64 (-1)) ?_)))))))))
    exact fun w' hw => ⟨by rw [← idx_miss hI (by omega)], hw.below⟩

set_option maxRecDepth 100000 in
theorem contains_d (p : Option Addr) (n cap : Nat) (l : List Int) (k : Int) (w : World)
    (hsl : Sv w p l) (hn : n = l.length) (hb : n ≤ 1000)
    : Calls Try.prog 27 #[.slice p n cap, .int .i64 k] w fun e w' => e = .returned (.bool (decide (k ∈ l))) ∧ Below w.heap.size w w' := by
  refine enter (Hs.start w) Try.func27 rfl Try.ntmps27 rfl (sq_ (qa0 [] [0, 1] [] (ds_ (sq_ (ao_ (qo0 2 [] [] [(5, .slice p n cap), (6, .int .i64 k)] (cD (.int .i64 (idxI l k)) Try.call53 (fun w hw => index_d p n cap l k w (hsl.kept hw.below) hn hb) ?_)))))))
  by_cases q4 : (idxI l k : Int) ≥ (0 : Int)
  ·
    refine qo 2 [(3, .yes)] [] [(4, .bool true)] ([(idxI l k : Int) ≥ (0 : Int)]) (al1 q4) (on_ (ds_ (rt ([]) (.bool true) ?_)))
    exact fun w' hw => ⟨by rw [idx_in (by assumption)], hw.below⟩
  ·
    refine qo 2 [(3, .no)] [] [(4, .bool false)] ([¬ ((idxI l k : Int) ≥ (0 : Int))]) (al1 q4) (on_ (ds_ (rt ([]) (.bool false) ?_)))
    exact fun w' hw => ⟨by rw [idx_out (by assumption)], hw.below⟩
end Go.Proofs.Ytfhlmijdokfdpaa

/-! slices.overlaps, answered by the model. -/
namespace Go.Proofs.Ytfhlmijdokfdpaa
open Go Go.RowKit

set_option maxRecDepth 100000 in
theorem overlaps_find : Extern.find Try.f73 = some (Extern.SlicesOverlaps.overlaps Try.f73.params Try.f73.resultTypes) := by kernel_rfl
set_option maxRecDepth 100000 in
theorem overlaps_next : Extern.findNext Try.f73 = none := by kernel_rfl
theorem overlaps_no {w : World} {g1 o1 g2 o2 m n c1 c2 : Nat} {cs1 cs2 : Array Value} {T1 T2 : TypeId} (h1 : w.heap[g1]? = some (.cells cs1 T1 (0, 0))) (h2 : w.heap[g2]? = some (.cells cs2 T2 (0, 0))) (hne : g1 ≠ g2) :
    (callFunc 73 #[.slice (some ⟨g1, o1, none⟩) m c1, .slice (some ⟨g2, o2, none⟩) n c2]).run Try.prog w = .ok (.value (.bool false)) w := by
  have hf := Try.func73
  have hn : (Try.f73.name == "runtime.NumGoroutine") = false := by kernel_rfl
  have hb : Try.f73.body.isNone = true := by kernel_rfl
  have hp : Try.f73.params[0]? = some 22 := by kernel_rfl
  have hu := Try.underlying22
  have hi : ∃ inf, Try.prog.info? 40 = some inf ∧ inf.size = 5 := ⟨_, rfl, rfl⟩
  obtain ⟨inf, hi, hs⟩ := hi
  have s1 : w.shape? g1 = some (T1, cs1.size) := by simp [World.shape?, h1]
  have s2 : w.shape? g2 = some (T2, cs2.size) := by simp [World.shape?, h2]
  have f1 : ∀ j, w.frozen? ⟨g1, j, none⟩ = false := fun j => froz_own h1 j
  have f2 : ∀ j, w.frozen? ⟨g2, j, none⟩ = false := fun j => froz_own h2 j
  have run1 : ∀ args, (callFunc 73 args).run Try.prog w = ((Extern.SlicesOverlaps.overlaps Try.f73.params Try.f73.resultTypes args).run Try.prog w).andThen fun v w' => .ok (.value v) w' := fun args => by
    simp only [callFunc, Sem.run_bind, run_program, Result.andThen_ok, hf, hn, hb, overlaps_next, overlaps_find]
    simp [mark, Sem.run, Sem.run_bind]
  rw [run1]
  have hne' : (g1 == g2) = false := by simpa using hne
  have hs' : (do let i ← typeInfo 40; pure i.size : Sem Nat).run Try.prog w = .ok 5 w := by simp [typeInfo, hi, hs]
  delta Extern.SlicesOverlaps.overlaps
  conv => lhs; arg 1; arg 2; whnf
  have hu' : Try.prog.underlying (Try.f73.params[0]'(by decide)) = some (.slice 40) := by kernel_rfl
  have sb : ∀ (α β : Type) (x : Sem α) (f : α → Sem β) (P : Program) (w : World), (x.bind f).run P w = (x.run P w).andThen fun a w' => (f a).run P w' := fun α β x f P w => Sem.run_bind' P x f w
  by_cases hm : m = 0 ∨ n = 0 ∨ inf.size = 0
  · simp [Sem.run, sb, hu', sizeOf, typeInfo, hi, hm]
  · simp [Sem.run, sb, hu', sizeOf, typeInfo, hi, hm, bne, hne', hne, noView, viewAt, mayBeOne, stringish, shape, frozen, s1, s2, f1, f2]
end Go.Proofs.Ytfhlmijdokfdpaa

/-! slices.Insert. -/
namespace Go.Proofs.Ytfhlmijdokfdpaa
open Go Go.RowKit

set_option maxRecDepth 100000 in
theorem insert_d (w0 : World) (X Y : List Ob) (p : Option Addr) (n cap : Nat) (l : List Port) (i gv : Nat) (cv : Array Value) (m : Nat) (vl : List Port) (w : World)
 (hH : Hs w0 (bx gv cv 40 :: (Y ++ X)) w) (hO : SlO 40 Y p n cap l) (hcv : cv.toList = vl.flatMap Enc.enc) (hm : m = vl.length) (hm0 : 0 < m) (hi : i ≤ n) (hb : n ≤ 1000) (hmb : m ≤ 1000)
 : Calls Try.prog 56 #[.slice p n cap, .int .i64 (i : Nat), .slice (some ⟨gv, 0, none⟩) m m] w fun e w' => ∃ q capq Y', e = .returned (.slice q (n + m) capq) ∧ SlO 40 Y' q (n + m) capq (l.take i ++ vl ++ l.drop i) ∧ Hs w0 (Y' ++ X) w' := by
 have hn := hO.len
 refine enter hH Try.func56 rfl Try.ntmps56 rfl (sq_ (qa0 [] [0, 1, 2] [] (ds_ (sq_ (qa [(2, .sl (.slice (if cap = i then p else p.map (·.add (i * 5))) (n - i) (cap - i)))] [0, 1, 2] [] ([SlRun Try.prog 22 (.slice p n cap) (some (.int .i64 ((i : Nat)))) none none (.slice (if cap = i then p else p.map (·.add (i * 5))) (n - i) (cap - i))]) (al1 (slE_cut (P := Try.prog) (T := 22) (e := 40) (k := 5) (by_ := 32) (by kernel_rfl) hi)) (ds_ (sq_ (qa0 [] [0, 1, 2] [(7, .int .i64 ((m : Nat)))] (ds_ (sq_ (sq_ (qa [(1, .no)] [0, 1, 2, 7] [(16, .bool false)] ([¬ (((m : Nat) : Int) = (0 : Int))]) (al1 ((by omega))) (ds_ (f_ (at_skip (ds_ (sq_ (qa0 [] [0, 1, 2, 7] [(8, .int .i64 ((n : Nat)))] (ds_ (sq_ (sq_ ?_)))))))))))))))))))))
 by_cases q7 : ((i : Nat) : Int) = ((n : Nat) : Int)
 ·
  refine qa [(2, .yes)] [0, 1, 2, 7, 8] [(22, .bool true)] ([((i : Nat) : Int) = ((n : Nat) : Int)]) (al1 q7) (ds_ (t_ (sq_ (ao_ (qo0 2 [] [] [(23, .slice p n cap), (24, .slice (some ⟨gv, 0, none⟩) m m)] (ops_append (α := Port) [bx gv cv 40] Y X (.refl _) rfl (by kernel_rfl) (by kernel_rfl) (p := p) (n := n) (cap := cap) (m := m) (yv := .slice (some ⟨gv, 0, none⟩) m m) (by kernel_rfl) (by kernel_rfl) (T := 40) (by_ := 32) (by kernel_rfl) l vl hO (fun w hw => src_svn Try.underlying22 (sv_row (hw.row 0 rfl) hcv) hm) hm (by have hmx : maxLen = 9223372036854775807 := rfl; omega) (by have hmx : maxLen = 9223372036854775807 := rfl; omega) (fun Y10 p10 cap10 hO10 => qo0 1 [] [] [(6, .slice p10 (n + m) cap10)] (on_ (ds_ (rt ([]) (.slice p10 (n + m) cap10) ?_))))))))))
  exact fun w' hw => ⟨_, _, _, rfl, by rw [show i = l.length by omega, List.take_length, List.drop_length, List.append_nil]; exact hO10, hw.tailN 1⟩
 ·
  refine qa [(2, .no)] [0, 1, 2, 7, 8] [(22, .bool false)] ([¬ (((i : Nat) : Int) = ((n : Nat) : Int))]) (al1 q7) (ds_ (f_ (at_skip (ds_ (sq_ (sq_ ?_))))))
  obtain ⟨g, cs, rfl, rfl, hOw⟩ := hO.rowOf (i := i) (by omega)
  have hcap := hOw.le
  have hcs := hOw.csz
  have hmax := hOw.max
  by_cases q15 : ((n + m : Nat) : Int) > ((cap : Nat) : Int)
  ·
   refine qa [(2, .fit), (5, .yes)] [0, 1, 2, 7, 8] [(31, .bool true)] ([Fit .i64 ((n + m : Nat))] ++ ([((n + m : Nat) : Int) > ((cap : Nat) : Int)])) (alA (al1 (fit64 (by omega) (by omega))) (al1 q15)) (ds_ (t_ (sq_ (ao_ (qo 8 [(2, .sl (.slice (some ⟨g, 0, none⟩) i cap)), (5, .fit), (7, .is [] (.int .i64 ((n + m - i : Nat))))] [0, 1, 2, 7] [(34, .slice (some ⟨g, 0, none⟩) i cap), (39, .int .i64 ((n + m - i : Nat)))] ([SlRun Try.prog 22 (.slice (some ⟨g, 0, none⟩) n cap) none (some (.int .i64 ((i : Nat)))) none (.slice (some ⟨g, 0, none⟩) i cap)] ++ ([Fit .i64 ((n + m : Nat))] ++ ([Value.int .i64 (IntKind.i64.wrap ((((n + m : Nat)) : Int) - ((i : Nat) : Int))) = .int .i64 ((n + m - i : Nat))]))) (alA (al1 (slE_hi (P := Try.prog) (T := 22) (e := 40) (k := 5) (by_ := 32) (by kernel_rfl) (h := i) (by omega))) (alA (al1 (fit64 (by omega) (by omega))) (al1 (by rw [wrap_fit (fit64 (by omega) (by omega))]; congr 1; omega)))) (ops_appendZ rfl (by kernel_rfl) (by kernel_rfl) (p := some ⟨g, 0, none⟩) (m := i) (cap := cap) (n := n + m - i) ((cs.toList.drop 0).take (i * 5)) (by kernel_rfl) (by kernel_rfl) (T := 40) (ks := 5) (by_ := 32) (by kernel_rfl) Try.underlying3 (by decide) (olds_len hcs (by omega)) (fun w hw => first_row (hw.row 1 rfl) (by rw [hcs, Nat.zero_add]; exact Nat.mul_le_mul_right _ (by omega))) (by omega) (by omega) (by simp only [maxLen]; omega) (by omega) (fun g2 c2 cap2 hc2 hle2 hmax2 hpre2 => qo0 1 [] [0, 1, 2, 7] [(9, .slice (some ⟨g2, 0, none⟩) (i + (n + m - i)) cap2)] (on_ (ds_ (sq_ (ao_ (qo 4 [(2, .sl (.slice (some ⟨g2, 0 + i * 5, none⟩) (i + (n + m - i) - i) (cap2 - i)))] [0, 1, 7, 9] [(43, .slice (some ⟨g2, 0 + i * 5, none⟩) (i + (n + m - i) - i) (cap2 - i)), (44, .slice (some ⟨gv, 0, none⟩) m m)] ([SlRun Try.prog 22 (.slice (some ⟨g2, 0, none⟩) (i + (n + m - i)) cap2) (some (.int .i64 ((i : Nat)))) none none (.slice (some ⟨g2, 0 + i * 5, none⟩) (i + (n + m - i) - i) (cap2 - i))]) (al1 (slE_lo (P := Try.prog) (T := 22) (e := 40) (k := 5) (by_ := 32) (by kernel_rfl) (lo := i) (by omega) (by omega))) (ops_copy 0 rfl (by kernel_rfl) (by kernel_rfl) (g := g2) (of := (0 + i * 5)) (dn := (i + (n + m - i) - i)) (dc := (cap2 - i)) (m := m) (cnt := m) (c := c2) (yv := (.slice (some ⟨gv, 0, none⟩) m m)) (vl.flatMap Enc.enc) (by kernel_rfl) (by kernel_rfl) (T := 40) (ks := 5) (by_ := 32) (by kernel_rfl) (T' := 40) (by kernel_rfl) len_slice (by omega) (fun w hw => by have := first_sv (P := Try.prog) (w := w) (p := some ⟨gv, 0, none⟩) (m := m) (cap := m) (cnt := m) (sv_row (hw.row 1 rfl) hcv) (by omega); rw [List.take_of_length_le (by omega)] at this; exact this) (by rw [flat_len, ← hm]; exact mul_room (c := cap2) (by omega) hc2) (flat_one vl) ?_)))))))))))))
   refine on_ (ds_ (sq_ ?_))
   refine at_any (by kernel_rfl) ?_
   refine tk (m := 3) [0, 1, 2, 3, 5, 6] [(3, .fit)] [9] [(46, .slice (some ⟨g2, 0, none⟩) (i + (n + m - i)) cap2), (49, .int .i64 ((i + m : Nat))), (51, .slice (some ⟨g, 0, none⟩) n cap), (52, .int .i64 ((i : Nat)))] ([Fit .i64 ((i + m : Nat))]) #[true, true, true, true, false, true, true, false, false] (al1 (fit64 (by omega) (by omega))) ?_
   refine any_cut 1 #[true, true, true, true, true, true, true, true, false] ([(9, .slice (some ⟨g2, 0, none⟩) (i + (n + m - i)) cap2), (50, .slice (some ⟨g2, 0 + (i + m) * 5, none⟩) (i + (n + m - i) - (i + m)) (cap2 - (i + m))), (53, .slice (some ⟨g, 0 + i * 5, none⟩) (n - i) (cap - i))]) (bx g2 ((sets c2 (0 + i * 5) (vl.flatMap Enc.enc))) 40 :: bx gv cv 40 :: bx g cs 40 :: X) ?_ (fun hm => ?_)
   rotate_left
   ·
    refine any_fork [4, 7] (by kernel_rfl) (by simp) (each_cons _ rfl ?_ (each_cons _ rfl ?_ (each_nil)))
    ·
     refine qo 1 [(4, .sl (.slice (some ⟨g2, 0 + (i + m) * 5, none⟩) (i + (n + m - i) - (i + m)) (cap2 - (i + m))))] [9, 51, 52] [(50, .slice (some ⟨g2, 0 + (i + m) * 5, none⟩) (i + (n + m - i) - (i + m)) (cap2 - (i + m)))] ([SlRun Try.prog 22 (.slice (some ⟨g2, 0, none⟩) (i + (n + m - i)) cap2) (some (.int .i64 ((i + m : Nat)))) none none (.slice (some ⟨g2, 0 + (i + m) * 5, none⟩) (i + (n + m - i) - (i + m)) (cap2 - (i + m)))]) (al1 (slE_lo (P := Try.prog) (T := 22) (e := 40) (k := 5) (by_ := 32) (by kernel_rfl) (lo := i + m) (by omega) (by omega))) ?_
     refine od_ ?_
     refine a1 7 rfl ?_
     refine qo 1 [(7, .sl (.slice (some ⟨g, 0 + i * 5, none⟩) (n - i) (cap - i)))] [9, 50] [(53, .slice (some ⟨g, 0 + i * 5, none⟩) (n - i) (cap - i))] ([SlRun Try.prog 22 (.slice (some ⟨g, 0, none⟩) n cap) (some (.int .i64 ((i : Nat)))) none none (.slice (some ⟨g, 0 + i * 5, none⟩) (n - i) (cap - i))]) (al1 (slE_lo (P := Try.prog) (T := 22) (e := 40) (k := 5) (by_ := 32) (by kernel_rfl) (lo := i) (by omega) (by omega))) ?_
     refine od_ ?_
     exact any_weak hm [9, 50, 53] (by kernel_rfl) rfl rfl rfl
    ·
     refine qo 1 [(7, .sl (.slice (some ⟨g, 0 + i * 5, none⟩) (n - i) (cap - i)))] [9, 46, 49] [(53, .slice (some ⟨g, 0 + i * 5, none⟩) (n - i) (cap - i))] ([SlRun Try.prog 22 (.slice (some ⟨g, 0, none⟩) n cap) (some (.int .i64 ((i : Nat)))) none none (.slice (some ⟨g, 0 + i * 5, none⟩) (n - i) (cap - i))]) (al1 (slE_lo (P := Try.prog) (T := 22) (e := 40) (k := 5) (by_ := 32) (by kernel_rfl) (lo := i) (by omega) (by omega))) ?_
     refine od_ ?_
     refine a1 4 rfl ?_
     refine qo 1 [(4, .sl (.slice (some ⟨g2, 0 + (i + m) * 5, none⟩) (i + (n + m - i) - (i + m)) (cap2 - (i + m))))] [9, 53] [(50, .slice (some ⟨g2, 0 + (i + m) * 5, none⟩) (i + (n + m - i) - (i + m)) (cap2 - (i + m)))] ([SlRun Try.prog 22 (.slice (some ⟨g2, 0, none⟩) (i + (n + m - i)) cap2) (some (.int .i64 ((i + m : Nat)))) none none (.slice (some ⟨g2, 0 + (i + m) * 5, none⟩) (i + (n + m - i) - (i + m)) (cap2 - (i + m)))]) (al1 (slE_lo (P := Try.prog) (T := 22) (e := 40) (k := 5) (by_ := 32) (by kernel_rfl) (lo := i + m) (by omega) (by omega))) ?_
     refine od_ ?_
     exact any_weak hm [9, 50, 53] (by kernel_rfl) rfl rfl rfl
   refine a1 8 rfl ?_
   refine ops_copy 0 rfl (by kernel_rfl) (by kernel_rfl) (g := g2) (of := (0 + (i + m) * 5)) (dn := (i + (n + m - i) - (i + m))) (dc := (cap2 - (i + m))) (m := (n - i)) (cnt := (n - i)) (c := ((sets c2 (0 + i * 5) (vl.flatMap Enc.enc)))) (yv := (.slice (some ⟨g, 0 + i * 5, none⟩) (n - i) (cap - i))) ((cs.toList.drop (0 + i * 5)).take ((n - i) * 5)) (by kernel_rfl) (by kernel_rfl) (T := 40) (ks := 5) (by_ := 32) (by kernel_rfl) (T' := 40) (by kernel_rfl) len_slice (by omega) (fun w hw => first_row (hw.row 2 rfl) (row_room hOw (by omega))) (by rw [sets_size]; exact copy_room (c := cap2) hOw (by omega) (by omega) hc2) (row_one hOw (by omega)) ?_
   refine od_ ?_
   refine any_nil (by kernel_rfl) ?_
   refine ds_ (sq_ (qa0 [] [] [(6, .slice (some ⟨g2, 0, none⟩) (i + (n + m - i)) cap2)] (ds_ (rt ([]) (.slice (some ⟨g2, 0, none⟩) (i + (n + m - i)) cap2) ?_))))
   exact fun w' hw => ⟨some ⟨g2, 0, none⟩, cap2, [_], by rw [show i + (n + m - i) = n + m by omega], .inr ⟨_, _, rfl, rfl, by simp; omega, ins_grow hOw (by omega) hm (by omega) hc2 (by omega) hmax2 hpre2⟩, hw.sub (.cons_cons _ (.cons _ (.cons _ (.refl _))))⟩
  ·
   refine qa [(2, .fit), (5, .no)] [0, 1, 2, 7, 8] [(31, .bool false)] ([Fit .i64 ((n + m : Nat))] ++ ([¬ (((n + m : Nat) : Int) > ((cap : Nat) : Int))])) (alA (al1 (fit64 (by omega) (by omega))) (al1 q15)) (ds_ (f_ (at_skip (ds_ (sq_ (qa [(3, .fit), (4, .sl (.slice (some ⟨g, 0, none⟩) (n + m) cap))] [1, 2, 7, 8] [(0, .slice (some ⟨g, 0, none⟩) (n + m) cap)] ([Fit .i64 ((n + m : Nat))] ++ ([SlRun Try.prog 22 (.slice (some ⟨g, 0, none⟩) n cap) none (some (.int .i64 ((n + m : Nat)))) none (.slice (some ⟨g, 0, none⟩) (n + m) cap)])) (alA (al1 (fit64 (by omega) (by omega))) (al1 (slE_hi (P := Try.prog) (T := 22) (e := 40) (k := 5) (by_ := 32) (by kernel_rfl) (h := n + m) (by omega)))) (ds_ (sq_ (sq_ (ao_ (qo 6 [(4, .fit), (5, .sl (.slice (some ⟨g, 0 + (i + m) * 5, none⟩) (n + m - (i + m)) (cap - (i + m))))] [0, 1, 2, 7, 8] [(61, .slice (some ⟨gv, 0, none⟩) m m), (66, .slice (some ⟨g, 0 + (i + m) * 5, none⟩) (n + m - (i + m)) (cap - (i + m)))] ([Fit .i64 ((i + m : Nat))] ++ ([SlRun Try.prog 22 (.slice (some ⟨g, 0, none⟩) (n + m) cap) (some (.int .i64 ((i + m : Nat)))) none none (.slice (some ⟨g, 0 + (i + m) * 5, none⟩) (n + m - (i + m)) (cap - (i + m)))])) (alA (al1 (fit64 (by omega) (by omega))) (al1 (slE_lo (P := Try.prog) (T := 22) (e := 40) (k := 5) (by_ := 32) (by kernel_rfl) (lo := i + m) (by omega) (by omega)))) (ops_ext (f := 73) (args := #[.slice (some ⟨gv, 0, none⟩) m m, .slice (some ⟨g, 0 + (i + m) * 5, none⟩) (n + m - (i + m)) (cap - (i + m))]) (.bool false) (by kernel_rfl) (by kernel_rfl) (by kernel_rfl) (fun w hw => overlaps_no (hw.row 0 rfl) (hw.row 1 rfl) (apart_two hw (a := 0) (b := 1) rfl rfl (by decide))) (qo0 1 [] [0, 1, 2, 7, 8] [(68, .bool true)] (on_ (ds_ (t_ (sq_ ?_)))))))))))))))))
   refine at_any (by kernel_rfl) ?_
   refine tk (m := 3) [0, 1, 2, 3, 5, 6] [(3, .fit)] [0, 1, 2] [(69, .slice (some ⟨g, 0, none⟩) (n + m) cap), (72, .int .i64 ((i + m : Nat))), (74, .slice (some ⟨g, 0, none⟩) (n + m) cap), (75, .int .i64 ((i : Nat)))] ([Fit .i64 ((i + m : Nat))]) #[true, true, true, true, false, true, true, false, false] (al1 (fit64 (by omega) (by omega))) ?_
   refine any_cut 1 #[true, true, true, true, true, true, true, true, false] ([(0, .slice (some ⟨g, 0, none⟩) (n + m) cap), (1, .int .i64 ((i : Nat))), (2, .slice (some ⟨gv, 0, none⟩) m m), (73, .slice (some ⟨g, 0 + (i + m) * 5, none⟩) (n + m - (i + m)) (cap - (i + m))), (76, .slice (some ⟨g, 0 + i * 5, none⟩) (n + m - i) (cap - i))]) (bx gv cv 40 :: bx g cs 40 :: X) ?_ (fun hm => ?_)
   rotate_left
   ·
    refine any_fork [4, 7] (by kernel_rfl) (by simp) (each_cons _ rfl ?_ (each_cons _ rfl ?_ (each_nil)))
    ·
     refine qo 1 [(4, .sl (.slice (some ⟨g, 0 + (i + m) * 5, none⟩) (n + m - (i + m)) (cap - (i + m))))] [0, 1, 2, 74, 75] [(73, .slice (some ⟨g, 0 + (i + m) * 5, none⟩) (n + m - (i + m)) (cap - (i + m)))] ([SlRun Try.prog 22 (.slice (some ⟨g, 0, none⟩) (n + m) cap) (some (.int .i64 ((i + m : Nat)))) none none (.slice (some ⟨g, 0 + (i + m) * 5, none⟩) (n + m - (i + m)) (cap - (i + m)))]) (al1 (slE_lo (P := Try.prog) (T := 22) (e := 40) (k := 5) (by_ := 32) (by kernel_rfl) (lo := i + m) (by omega) (by omega))) ?_
     refine od_ ?_
     refine a1 7 rfl ?_
     refine qo 1 [(7, .sl (.slice (some ⟨g, 0 + i * 5, none⟩) (n + m - i) (cap - i)))] [0, 1, 2, 73] [(76, .slice (some ⟨g, 0 + i * 5, none⟩) (n + m - i) (cap - i))] ([SlRun Try.prog 22 (.slice (some ⟨g, 0, none⟩) (n + m) cap) (some (.int .i64 ((i : Nat)))) none none (.slice (some ⟨g, 0 + i * 5, none⟩) (n + m - i) (cap - i))]) (al1 (slE_lo (P := Try.prog) (T := 22) (e := 40) (k := 5) (by_ := 32) (by kernel_rfl) (lo := i) (by omega) (by omega))) ?_
     refine od_ ?_
     exact any_weak hm [0, 1, 2, 73, 76] (by kernel_rfl) rfl rfl rfl
    ·
     refine qo 1 [(7, .sl (.slice (some ⟨g, 0 + i * 5, none⟩) (n + m - i) (cap - i)))] [0, 1, 2, 69, 72] [(76, .slice (some ⟨g, 0 + i * 5, none⟩) (n + m - i) (cap - i))] ([SlRun Try.prog 22 (.slice (some ⟨g, 0, none⟩) (n + m) cap) (some (.int .i64 ((i : Nat)))) none none (.slice (some ⟨g, 0 + i * 5, none⟩) (n + m - i) (cap - i))]) (al1 (slE_lo (P := Try.prog) (T := 22) (e := 40) (k := 5) (by_ := 32) (by kernel_rfl) (lo := i) (by omega) (by omega))) ?_
     refine od_ ?_
     refine a1 4 rfl ?_
     refine qo 1 [(4, .sl (.slice (some ⟨g, 0 + (i + m) * 5, none⟩) (n + m - (i + m)) (cap - (i + m))))] [0, 1, 2, 76] [(73, .slice (some ⟨g, 0 + (i + m) * 5, none⟩) (n + m - (i + m)) (cap - (i + m)))] ([SlRun Try.prog 22 (.slice (some ⟨g, 0, none⟩) (n + m) cap) (some (.int .i64 ((i + m : Nat)))) none none (.slice (some ⟨g, 0 + (i + m) * 5, none⟩) (n + m - (i + m)) (cap - (i + m)))]) (al1 (slE_lo (P := Try.prog) (T := 22) (e := 40) (k := 5) (by_ := 32) (by kernel_rfl) (lo := i + m) (by omega) (by omega))) ?_
     refine od_ ?_
     exact any_weak hm [0, 1, 2, 73, 76] (by kernel_rfl) rfl rfl rfl
   refine a1 8 rfl ?_
   refine ops_copy 1 rfl (by kernel_rfl) (by kernel_rfl) (g := g) (of := (0 + (i + m) * 5)) (dn := (n + m - (i + m))) (dc := (cap - (i + m))) (m := (n + m - i)) (cnt := (n - i)) (c := cs) (yv := (.slice (some ⟨g, 0 + i * 5, none⟩) (n + m - i) (cap - i))) ((cs.toList.drop (0 + i * 5)).take ((n - i) * 5)) (by kernel_rfl) (by kernel_rfl) (T := 40) (ks := 5) (by_ := 32) (by kernel_rfl) (T' := 40) (by kernel_rfl) len_slice (by omega) (fun w hw => first_row (hw.row 1 rfl) (row_room hOw (by omega))) (copy_room (c := cap) hOw (by omega) (by omega) hcs) (row_one hOw (by omega)) ?_
   refine od_ ?_
   refine any_nil (by kernel_rfl) ?_
   refine ds_ (sq_ (ao_ (qo 4 [(2, .sl (.slice (some ⟨g, 0 + i * 5, none⟩) (n + m - i) (cap - i)))] [0] [(80, .slice (some ⟨g, 0 + i * 5, none⟩) (n + m - i) (cap - i)), (81, .slice (some ⟨gv, 0, none⟩) m m)] ([SlRun Try.prog 22 (.slice (some ⟨g, 0, none⟩) (n + m) cap) (some (.int .i64 ((i : Nat)))) none none (.slice (some ⟨g, 0 + i * 5, none⟩) (n + m - i) (cap - i))]) (al1 (slE_lo (P := Try.prog) (T := 22) (e := 40) (k := 5) (by_ := 32) (by kernel_rfl) (lo := i) (by omega) (by omega))) (ops_copy 1 rfl (by kernel_rfl) (by kernel_rfl) (g := g) (of := (0 + i * 5)) (dn := (n + m - i)) (dc := (cap - i)) (m := m) (cnt := m) (c := ((sets cs (0 + (i + m) * 5) ((cs.toList.drop (0 + i * 5)).take ((n - i) * 5))))) (yv := (.slice (some ⟨gv, 0, none⟩) m m)) (vl.flatMap Enc.enc) (by kernel_rfl) (by kernel_rfl) (T := 40) (ks := 5) (by_ := 32) (by kernel_rfl) (T' := 40) (by kernel_rfl) len_slice (by omega) (fun w hw => by have := first_sv (P := Try.prog) (w := w) (p := some ⟨gv, 0, none⟩) (m := m) (cap := m) (cnt := m) (sv_row (hw.row 0 rfl) hcv) (by omega); rw [List.take_of_length_le (by omega)] at this; exact this) (by rw [flat_len, ← hm, sets_size]; exact mul_room (c := cap) (by omega) hcs) (flat_one vl) (on_ (ds_ (sq_ (qa0 [] [] [(6, .slice (some ⟨g, 0, none⟩) (n + m) cap)] (ds_ (rt ([]) (.slice (some ⟨g, 0, none⟩) (n + m) cap) ?_))))))))))
   exact fun w' hw => ⟨_, _, [_], rfl, .inr ⟨_, _, rfl, rfl, by simp; omega, ins_room hOw (by omega) hm (by omega) (by omega)⟩, hw.sub (.cons _ (.refl _))⟩
end Go.Proofs.Ytfhlmijdokfdpaa
