/- Texts of this proof, one behind the other. -/
import Derived.Test.YtnoefldpkfpglaaZa
import Derived.LaidEqlPtr
import Derived.RangeFuncRecord
import Derived.Test.YtnoefldpkfpglaaProg
import Derived.MapKept
import Derived.Laws.MakeOwn
/-! The walker: what an insertion leaves in a row of cells; calls that the model answers itself. -/
namespace Go.Proofs.Ytnoefldpkfpglaa
open Go Go.RowKit

section
variable {α : Type} [Enc α] {l vl : List α} {i n m cap cap2 : Nat} {cs c2 : Array Value}
theorem flat_take : ∀ (l : List α) (i : Nat), (l.take i).flatMap Enc.enc = (l.flatMap Enc.enc).take (i * Enc.k α)
  | [], i => by simp
  | x :: l, 0 => by simp
  | x :: l, i + 1 => by
    have hx := Enc.len (α := α) x
    have e1 : (i + 1) * Enc.k α = i * Enc.k α + Enc.k α := by rw [Nat.add_mul]; omega
    have e2 : (Enc.enc x).take ((i + 1) * Enc.k α) = Enc.enc x := List.take_of_length_le (by omega)
    rw [List.take_succ_cons, List.flatMap_cons, List.flatMap_cons, flat_take l i, List.take_append, hx, e2]
    congr 2
    omega
theorem flat_drop : ∀ (l : List α) (i : Nat), (l.drop i).flatMap Enc.enc = (l.flatMap Enc.enc).drop (i * Enc.k α)
  | [], i => by simp
  | x :: l, 0 => by simp
  | x :: l, i + 1 => by
    have hx := Enc.len (α := α) x
    have e1 : (i + 1) * Enc.k α = i * Enc.k α + Enc.k α := by rw [Nat.add_mul]; omega
    have e2 : (Enc.enc x).drop ((i + 1) * Enc.k α) = [] := List.drop_eq_nil_of_le (by omega)
    rw [List.drop_succ_cons, List.flatMap_cons, flat_drop l i, List.drop_append, hx, e2, List.nil_append]
    congr 1
    omega
theorem ins_own (hn : n = l.length) (hm : m = vl.length) (hi : i ≤ n) (hsz : c2.size = cap * Enc.k α) (hle : n + m ≤ cap) (hmax : cap ≤ maxLen)
    (h1 : ∀ j, j < i * Enc.k α → c2[j]? = (l.flatMap Enc.enc)[j]?) (h2 : ∀ j, j < m * Enc.k α → c2[i * Enc.k α + j]? = (vl.flatMap Enc.enc)[j]?)
    (h3 : ∀ j, j < (n - i) * Enc.k α → c2[(i + m) * Enc.k α + j]? = (l.flatMap Enc.enc)[i * Enc.k α + j]?) : OwnS (Enc.k α) ((l.take i ++ vl ++ l.drop i).flatMap Enc.enc) (n + m) cap c2 := by
  have hlen : (l.take i ++ vl ++ l.drop i).length = n + m := by simp; omega
  refine ⟨by rw [flat_len, hlen], hle, hmax, hsz, ?_⟩
  have e1 : (l.take i ++ vl ++ l.drop i).flatMap Enc.enc = (l.flatMap Enc.enc).take (i * Enc.k α) ++ vl.flatMap Enc.enc ++ (l.flatMap Enc.enc).drop (i * Enc.k α) := by
    rw [List.flatMap_append, List.flatMap_append, flat_take, flat_drop]
  rw [e1]
  have lt1 : ((l.flatMap Enc.enc).take (i * Enc.k α)).length = i * Enc.k α := by
    rw [List.length_take, flat_len]
    have := Nat.mul_le_mul_right (Enc.k α) (show i ≤ l.length by omega)
    omega
  have lt2 : (vl.flatMap Enc.enc).length = m * Enc.k α := by rw [flat_len, hm]
  have lt3 : (l.flatMap Enc.enc).length = n * Enc.k α := by rw [flat_len, hn]
  have a1 : (n + m) * Enc.k α = n * Enc.k α + m * Enc.k α := Nat.add_mul ..
  have a2 : (i + m) * Enc.k α = i * Enc.k α + m * Enc.k α := Nat.add_mul ..
  have a3 : (n - i) * Enc.k α = n * Enc.k α - i * Enc.k α := Nat.sub_mul ..
  have a4 : i * Enc.k α ≤ n * Enc.k α := Nat.mul_le_mul_right _ hi
  apply List.ext_getElem?
  intro j
  rw [List.getElem?_take]
  by_cases hj : j < (n + m) * Enc.k α
  · rw [if_pos hj, Array.getElem?_toList]
    by_cases j1 : j < i * Enc.k α
    · rw [h1 j j1, List.append_assoc, List.getElem?_append_left (by omega), List.getElem?_take, if_pos j1]
    · by_cases j2 : j < i * Enc.k α + m * Enc.k α
      · have := h2 (j - i * Enc.k α) (by omega)
        rw [show i * Enc.k α + (j - i * Enc.k α) = j by omega] at this
        rw [this, List.getElem?_append_left (by rw [List.length_append]; omega), List.getElem?_append_right (by omega), lt1]
      · have := h3 (j - (i + m) * Enc.k α) (by omega)
        rw [show (i + m) * Enc.k α + (j - (i + m) * Enc.k α) = j by omega] at this
        rw [this, List.getElem?_append_right (by rw [List.length_append]; omega), List.getElem?_drop, List.length_append, lt1, lt2]
        congr 1
        omega
  · rw [if_neg hj, List.getElem?_eq_none (by simp only [List.length_append, List.length_drop, lt1, lt2, lt3]; omega)]
theorem flat_pre (h : OwnS (Enc.k α) (l.flatMap Enc.enc) n cap cs) (j : Nat) (hj : j < n * Enc.k α) : cs[j]? = (l.flatMap Enc.enc)[j]? := h.get j hj
/-- It grew. -/
theorem ins_grow (h : OwnS (Enc.k α) (l.flatMap Enc.enc) n cap cs) (hn : n = l.length) (hm : m = vl.length) (hi : i ≤ n) (hsz : c2.size = cap2 * Enc.k α) (hle : n + m ≤ cap2) (hmax : cap2 ≤ maxLen) (hpre : c2.toList.take (i * Enc.k α) = (cs.toList.drop 0).take (i * Enc.k α)) :
    OwnS (Enc.k α) ((l.take i ++ vl ++ l.drop i).flatMap Enc.enc) (n + m) cap2 (sets (sets c2 (0 + i * Enc.k α) (vl.flatMap Enc.enc)) (0 + (i + m) * Enc.k α) ((cs.toList.drop (0 + i * Enc.k α)).take ((n - i) * Enc.k α))) := by
  have lt2 : (vl.flatMap Enc.enc).length = m * Enc.k α := by rw [flat_len, hm]
  have a1 : (n + m) * Enc.k α = n * Enc.k α + m * Enc.k α := Nat.add_mul ..
  have a2 : (i + m) * Enc.k α = i * Enc.k α + m * Enc.k α := Nat.add_mul ..
  have a3 : (n - i) * Enc.k α = n * Enc.k α - i * Enc.k α := Nat.sub_mul ..
  have a4 : i * Enc.k α ≤ n * Enc.k α := Nat.mul_le_mul_right _ hi
  have a5 : (n + m) * Enc.k α ≤ cap2 * Enc.k α := Nat.mul_le_mul_right _ hle
  have a6 : n * Enc.k α ≤ cap * Enc.k α := Nat.mul_le_mul_right _ h.le
  have lt4 : ((cs.toList.drop (0 + i * Enc.k α)).take ((n - i) * Enc.k α)).length = (n - i) * Enc.k α := by rw [List.length_take, List.length_drop, Array.length_toList, h.csz]; omega
  have g1 := fun j => sets_get (vl.flatMap Enc.enc) c2 (0 + i * Enc.k α) j (by omega)
  have g2 := fun j => sets_get ((cs.toList.drop (0 + i * Enc.k α)).take ((n - i) * Enc.k α)) (sets c2 (0 + i * Enc.k α) (vl.flatMap Enc.enc)) (0 + (i + m) * Enc.k α) j (by rw [sets_size]; omega)
  refine ins_own hn hm hi (by rw [sets_size, sets_size]; exact hsz) hle hmax (fun j hj => ?_) (fun j hj => ?_) (fun j hj => ?_)
  · rw [g2, if_neg (by omega), g1, if_neg (by omega), ← h.get j (by omega)]
    have := congrArg (fun z => z[j]?) hpre
    simp only [List.getElem?_take, if_pos hj, List.drop_zero, Array.getElem?_toList] at this
    exact this
  · rw [g2, if_neg (by omega), g1, if_pos (by omega)]
    congr 1; omega
  · rw [g2, if_pos (by omega), List.getElem?_take, if_pos (by omega), List.getElem?_drop, Array.getElem?_toList, ← h.get _ (by omega)]
    congr 1; omega
/-- It had room. -/
theorem ins_room (h : OwnS (Enc.k α) (l.flatMap Enc.enc) n cap cs) (hn : n = l.length) (hm : m = vl.length) (hi : i ≤ n) (hle : n + m ≤ cap) :
    OwnS (Enc.k α) ((l.take i ++ vl ++ l.drop i).flatMap Enc.enc) (n + m) cap (sets (sets cs (0 + (i + m) * Enc.k α) ((cs.toList.drop (0 + i * Enc.k α)).take ((n - i) * Enc.k α))) (0 + i * Enc.k α) (vl.flatMap Enc.enc)) := by
  have lt2 : (vl.flatMap Enc.enc).length = m * Enc.k α := by rw [flat_len, hm]
  have a1 : (n + m) * Enc.k α = n * Enc.k α + m * Enc.k α := Nat.add_mul ..
  have a2 : (i + m) * Enc.k α = i * Enc.k α + m * Enc.k α := Nat.add_mul ..
  have a3 : (n - i) * Enc.k α = n * Enc.k α - i * Enc.k α := Nat.sub_mul ..
  have a4 : i * Enc.k α ≤ n * Enc.k α := Nat.mul_le_mul_right _ hi
  have a5 : (n + m) * Enc.k α ≤ cap * Enc.k α := Nat.mul_le_mul_right _ hle
  have hsz := h.csz
  have lt4 : ((cs.toList.drop (0 + i * Enc.k α)).take ((n - i) * Enc.k α)).length = (n - i) * Enc.k α := by rw [List.length_take, List.length_drop, Array.length_toList, h.csz]; omega
  have g1 := fun j => sets_get ((cs.toList.drop (0 + i * Enc.k α)).take ((n - i) * Enc.k α)) cs (0 + (i + m) * Enc.k α) j (by omega)
  have g2 := fun j => sets_get (vl.flatMap Enc.enc) (sets cs (0 + (i + m) * Enc.k α) ((cs.toList.drop (0 + i * Enc.k α)).take ((n - i) * Enc.k α))) (0 + i * Enc.k α) j (by rw [sets_size]; omega)
  refine ins_own hn hm hi (by rw [sets_size, sets_size]; exact hsz) hle h.max (fun j hj => ?_) (fun j hj => ?_) (fun j hj => ?_)
  · rw [g2, if_neg (by omega), g1, if_neg (by omega), h.get j (by omega)]
  · rw [g2, if_pos (by omega)]
    congr 1; omega
  · rw [g2, if_neg (by omega), g1, if_pos (by omega), List.getElem?_take, if_pos (by omega), List.getElem?_drop, Array.getElem?_toList, ← h.get _ (by omega)]
    congr 1; omega
end

section
variable {E : Env} {k : List Fr} {l : Sl} {L : List Ob} {all os : List Oper} {o : Oper} {i : Nat}
/-- A call that the model answers by itself. -/
theorem ops_ext (v : Value) {f : FuncId} {args : Array Value} (hw : wantL all l o = some true) (hd : okD E.n o.dst = true) (hc : calleeL l o = some (f, args)) (he : ∀ w, Hs E.w0 L w → (callFunc f args).run E.P w = .ok (.value v) w)
    (h : Ops E k all os (i + 1) (putL o.dst v l) L) : Ops E k all (o :: os) i l L := by
  refine ⟨fun a w ha hs => ?_⟩
  have hg := wantL_spec ha hw
  refine wpListIn_step fun K hK => ?_
  rw [if_pos hg]
  refine ⟨fun _ _ => trivial, ?_⟩
  have hr : (execOp a.eval o).run E.P w = .ok (.value v) w := by
    have hc' := hc
    unfold calleeL at hc'
    split at hc' <;> try cases hc'
    rename_i hk
    rw [look_exec ha hk]
    split at hc' <;> try cases hc'
    rename_i c hop
    split at hc' <;> try cases hc'
    rename_i x hx
    split at hc' <;> try cases hc'
    rename_i g first cap hv
    have := he w hs
    simp only [execOp, hop, resolve, hx, hv, Deferred.ofValue, Sem.run_bind, Sem.run_pure, Result.andThen_ok, invoke]
    simpa using this
  rw [Oper.semAt_eq _ _ _ (callee_known hc), hr]
  exact hK _ _ (h.out _ _ (ha.put hd v) hs)
end
end Go.Proofs.Ytnoefldpkfpglaa

/-! The walker: small laws for insertion and deletion. -/
namespace Go.Proofs.Ytnoefldpkfpglaa
open Go Go.RowKit

section
variable {α : Type} [Enc α] {l : List α} {i n m cap : Nat} {cs : Array Value} {w w0 : World}
theorem flat_one (l : List α) : ∀ u ∈ l.flatMap Enc.enc, u.oneCell' = true := fun u hu => by
  obtain ⟨x, _, hx⟩ := List.mem_flatMap.1 hu
  exact Enc.one x u hx
theorem row_one (h : OwnS (Enc.k α) (l.flatMap Enc.enc) n cap cs) (hi : i ≤ n) : ∀ u ∈ (cs.toList.drop (0 + i * Enc.k α)).take ((n - i) * Enc.k α), u.oneCell' = true := fun u hu => by
  obtain ⟨j, hj⟩ := List.mem_iff_getElem?.1 hu
  have a3 : (n - i) * Enc.k α = n * Enc.k α - i * Enc.k α := Nat.sub_mul ..
  have a4 : i * Enc.k α ≤ n * Enc.k α := Nat.mul_le_mul_right _ hi
  rw [List.getElem?_take] at hj
  split at hj
  · rename_i hlt
    rw [List.getElem?_drop, Array.getElem?_toList, h.get _ (by omega)] at hj
    exact flat_one l u (List.mem_of_getElem? hj)
  · cases hj
theorem row_len (h : OwnS (Enc.k α) (l.flatMap Enc.enc) n cap cs) (hi : i ≤ n) : ((cs.toList.drop (0 + i * Enc.k α)).take ((n - i) * Enc.k α)).length = (n - i) * Enc.k α := by
  have a3 : (n - i) * Enc.k α = n * Enc.k α - i * Enc.k α := Nat.sub_mul ..
  have a4 : i * Enc.k α ≤ n * Enc.k α := Nat.mul_le_mul_right _ hi
  have a6 : n * Enc.k α ≤ cap * Enc.k α := Nat.mul_le_mul_right _ h.le
  rw [List.length_take, List.length_drop, Array.length_toList, h.csz]; omega
theorem row_room (h : OwnS (Enc.k α) (l.flatMap Enc.enc) n cap cs) (hi : i ≤ n) : 0 + i * Enc.k α + (n - i) * Enc.k α ≤ cs.size := by
  have a3 : (n - i) * Enc.k α = n * Enc.k α - i * Enc.k α := Nat.sub_mul ..
  have a4 : i * Enc.k α ≤ n * Enc.k α := Nat.mul_le_mul_right _ hi
  have a6 : n * Enc.k α ≤ cap * Enc.k α := Nat.mul_le_mul_right _ h.le
  rw [h.csz]; omega
theorem mul_room {a b c k sz : Nat} (h : a + b ≤ c) (hs : sz = c * k) : 0 + a * k + b * k ≤ sz := by
  rw [hs, Nat.zero_add, ← Nat.add_mul]
  exact Nat.mul_le_mul_right _ h
theorem copy_room (h : OwnS (Enc.k α) (l.flatMap Enc.enc) n cap cs) (hi : i ≤ n) {a c sz : Nat} (ha : a + (n - i) ≤ c) (hs : sz = c * Enc.k α) : 0 + a * Enc.k α + ((cs.toList.drop (0 + i * Enc.k α)).take ((n - i) * Enc.k α)).length ≤ sz := by
  rw [row_len h hi]
  exact mul_room ha hs
theorem olds_len {i cap k : Nat} {cs : Array Value} (h : cs.size = cap * k) (hi : i ≤ cap) : ((cs.toList.drop 0).take (i * k)).length = i * k := by
  have := Nat.mul_le_mul_right k hi
  rw [List.drop_zero, List.length_take, Array.length_toList, h]; omega
theorem apart_two {w0 w : World} {L : List Ob} (h : Hs w0 L w) {a b g1 g2 : Nat} {o1 o2 : Obj} (h1 : L[a]? = some (g1, o1)) (h2 : L[b]? = some (g2, o2)) (hne : a ≠ b) : g1 ≠ g2 := fun e => by
  have hn := h.apart
  obtain ⟨la, ea⟩ := List.getElem?_eq_some_iff.1 (show (L.map (·.1))[a]? = some g1 by simp [h1])
  obtain ⟨lb, eb⟩ := List.getElem?_eq_some_iff.1 (show (L.map (·.1))[b]? = some g2 by simp [h2])
  have hp := List.pairwise_iff_getElem.1 hn
  rcases Nat.lt_or_gt_of_ne hne with h3 | h3
  · exact hp a b la lb h3 (by rw [ea, eb, e])
  · exact hp b a lb la h3 (by rw [ea, eb, e])
/-- A slice expression's value where it only must be. -/
theorem slE_cut {P : Program} {T e : TypeId} {p : Option Addr} {k by_ lo : Nat} (hE : elemB P T e k by_ = true) (hlo : lo ≤ n) : SlRun P T (.slice p n cap) (some (.int .i64 (lo : Int))) none none (.slice (if cap = lo then p else p.map (·.add (lo * k))) (n - lo) (cap - lo)) := by
  obtain ⟨hu, i, z, hi, _, _, hk, _⟩ := elemB_spec hE
  subst hk
  intro w
  simp [Instr.sliceAt, Instr.slice, underlying, hu, Instr.sliceBounds, run_bound hlo, sizeOf, typeInfo, hi]
theorem SlO.parts {T : TypeId} {Y : List Ob} {p : Option Addr} (h : SlO T Y p n cap l) : (p = none ∧ Y = [] ∧ n = 0) ∨ ∃ g cs, p = some ⟨g, 0, none⟩ ∧ Y = [bx g cs T] ∧ OwnS (Enc.k α) (l.flatMap Enc.enc) n cap cs := by
  rcases h with ⟨a, b, c, d, e⟩ | ⟨g, cs, a, b, c, d⟩
  · subst a; subst b; exact .inl ⟨rfl, rfl, by first | assumption | omega⟩
  · exact .inr ⟨g, cs, by assumption, by assumption, by assumption⟩
theorem OwnS.rdx (h : OwnS (Enc.k α) (l.flatMap Enc.enc) n cap cs) (hn : n = l.length) {x : α} (hx : l[i]? = some x) : RdA cs (0 + i * Enc.k α) (Enc.enc x) := by
  obtain ⟨hi, e⟩ := List.getElem?_eq_some_iff.1 hx
  subst e
  rw [Nat.zero_add]
  exact h.rda hn i hi
/-- A slice's block is taken to the front, and put back. -/
theorem Hs.pull {a : Ob} {A Y R : List Ob} (h : Hs w0 (a :: (A ++ (Y ++ R))) w) : Hs w0 (a :: (Y ++ (A ++ R))) w :=
  h.perm (.cons _ (by rw [← List.append_assoc, ← List.append_assoc]; exact (List.perm_append_comm).append_right _))
theorem Hs.push {A Y R : List Ob} (h : Hs w0 (Y ++ (A ++ R)) w) : Hs w0 (A ++ (Y ++ R)) w :=
  h.perm (by rw [← List.append_assoc, ← List.append_assoc]; exact (List.perm_append_comm).append_right _)
end
end Go.Proofs.Ytnoefldpkfpglaa

/-! The walker: elements of a run of one's own that are changed in place; pointers into it compared. -/
namespace Go.Proofs.Ytnoefldpkfpglaa
open Go Go.RowKit

section
variable {α : Type} [Enc α] {l : List α} {i n cap f : Nat} {cs : Array Value} {x x' : α} {v : Value}
theorem OwnS.room (h : OwnS (Enc.k α) (l.flatMap Enc.enc) n cap cs) (hn : n = l.length) (hx : l[i]? = some x) (hf : f < Enc.k α) : 0 + i * Enc.k α + f < cs.size := by
  have hi : i < l.length := (List.getElem?_eq_some_iff.1 hx).1
  have a1 : (i + 1) * Enc.k α ≤ cap * Enc.k α := Nat.mul_le_mul_right _ (by have := h.le; omega)
  rw [Nat.add_mul, Nat.one_mul] at a1
  rw [h.csz]; omega
theorem OwnS.put (h : OwnS (Enc.k α) (l.flatMap Enc.enc) n cap cs) (hn : n = l.length) (hx : l[i]? = some x) (hf : f < Enc.k α) (he : Enc.enc x' = (Enc.enc x).set f v) :
    OwnS (Enc.k α) ((l.set i x').flatMap Enc.enc) n cap (cs.setIfInBounds (0 + i * Enc.k α + f) v) := by
  obtain ⟨hi, hxe⟩ := List.getElem?_eq_some_iff.1 hx
  have hroom := h.room hn hx hf
  have hsl : (l.set i x').length = n := by rw [List.length_set]; exact hn.symm
  have hl1 : (l.flatMap Enc.enc).length = n * Enc.k α := by rw [flat_len, hn]
  have hl2 : ((l.set i x').flatMap Enc.enc).length = n * Enc.k α := by rw [flat_len, hsl]
  have hcap : n * Enc.k α ≤ cap * Enc.k α := Nat.mul_le_mul_right _ h.le
  refine ⟨hl2, h.le, h.max, by rw [Array.size_setIfInBounds]; exact h.csz, ?_⟩
  apply List.ext_getElem?
  intro j
  rw [List.getElem?_take]
  by_cases hj : j < n * Enc.k α
  · rw [if_pos hj, Array.getElem?_toList, Array.getElem?_setIfInBounds]
    have hk : 0 < Enc.k α := by omega
    have hq : j / Enc.k α < n := (Nat.div_lt_iff_lt_mul hk).2 hj
    have hr : j % Enc.k α < Enc.k α := Nat.mod_lt _ hk
    have hjd : j = j / Enc.k α * Enc.k α + j % Enc.k α := by have := Nat.div_add_mod j (Enc.k α); rw [Nat.mul_comm] at this; omega
    have g1 := flat_get l (j / Enc.k α) (by omega) (j % Enc.k α) hr
    have g2 := flat_get (l.set i x') (j / Enc.k α) (by omega) (j % Enc.k α) hr
    rw [← hjd] at g1 g2
    rw [g2, List.getElem_set]
    by_cases hji : i = j / Enc.k α
    · rw [if_pos hji, he]
      by_cases hf2 : f = j % Enc.k α
      · rw [if_pos (by rw [hji, hf2]; omega), if_pos (by omega), List.getElem?_set, if_pos hf2, if_pos (by rw [Enc.len]; omega)]
      · rw [if_neg (by rw [hji]; omega), h.get j hj, g1, List.getElem?_set, if_neg hf2]
        subst hji; rw [hxe]
    · rw [if_neg hji, if_neg ?_, h.get j hj, g1]
      intro e
      have e' : i * Enc.k α + f = j := by omega
      apply hji
      rw [← e', Nat.mul_comm, Nat.mul_add_div hk, Nat.div_eq_of_lt hf]; rfl
  · rw [if_neg hj, List.getElem?_eq_none (by rw [hl2]; omega)]
theorem SlO.ofOwn {T : TypeId} {g : Nat} (h : OwnS (Enc.k α) (l.flatMap Enc.enc) n cap cs) (hn : n = l.length) : SlO T [bx g cs T] (some ⟨g, 0, none⟩) n cap l := .inr ⟨g, cs, rfl, rfl, hn, h⟩
omit [Enc α] in
theorem len_set {y : α} (hn : n = l.length) : n = (l.set i y).length := by rw [List.length_set]; exact hn
omit [Enc α] in
theorem get_set {y : α} (hx : l[i]? = some x) : (l.set i y)[i]? = some y := List.getElem?_set_self (List.getElem?_eq_some_iff.1 hx).1
omit [Enc α] in
theorem get_set_ne {y : α} {j : Nat} (h : ¬ i = j) (hx : l[j]? = some x) : (l.set i y)[j]? = some x := by rw [List.getElem?_set_ne h]; exact hx
end

section
variable {E : Env} {k : List Fr} {l : Sl} {L : List Ob} {all os : List Oper} {o : Oper} {i : Nat}
/-- Two pointers into one block of one's own. -/
theorem ops_eqp (b : Bool) (j : Nat) {T U te tp : TypeId} {x y : Operand} {g o1 o2 : Nat} {c : Array Value} {inf : TypeInfo} (ho : o.op = .binOp .eql T x y U) (hw : wantL all l o = some true) (hd : (okD E.n o.dst && knownO l o) = true)
    (hx : look l x = .pointer (some ⟨g, o1, none⟩)) (hy : look l y = .pointer (some ⟨g, o2, none⟩)) (hp : E.P.underlying T = some (.pointer te)) (hi : E.P.info? te = some inf) (hz : inf.size ≠ 0) (hgd : E.P.eqGuardType E.P.depth T = false) (hr : L[j]? = some (g, .cells c tp (0, 0)))
    (hb : o1 = o2 ↔ b = true) (h : Ops E k all os (i + 1) (putL o.dst (.bool b) l) L) : Ops E k all (o :: os) i l L := by
  refine ⟨fun a w ha hs => ?_⟩
  simp only [Bool.and_eq_true] at hd
  have hg := wantL_spec ha hw
  refine wpListIn_step fun K hK => ?_
  rw [if_pos hg]
  refine ⟨fun _ _ => trivial, ?_⟩
  rw [Oper.semAt_eq _ _ _ (fun c e => by rw [ho] at e; cases e), look_exec ha hd.2]
  have hh := hs.row j hr
  have e1 : (binOp .eql T (.pointer (some ⟨g, o1, none⟩)) (.pointer (some ⟨g, o2, none⟩))).run E.P w = .ok (.bool b) w := by
    by_cases e : o1 = o2
    · rw [hb.1 e]; subst e; exact run_eql_ptr_same w _ hp hi
    · have : b = false := by cases b <;> simp_all
      subst this
      exact run_eql_ptr_other w hp hi hz (fun q => e (by cases q; rfl)) hh hh
  have e2 : (eqGuard .eql T x y (.pointer (some ⟨g, o1, none⟩)) (.pointer (some ⟨g, o2, none⟩))).run E.P w = .ok () w := by
    unfold eqGuard
    simp [hgd]
  have e : (execOp (look l) o).run E.P w = .ok (.value (.bool b)) w := by
    unfold execOp
    simp only [ho, hx, hy, Sem.run_bind, e2, Result.andThen_ok, e1]
    rfl
  rw [e]
  exact hK _ _ (h.out _ _ (ha.put hd.1 _) hs)
end
end Go.Proofs.Ytnoefldpkfpglaa

/-! The walker: a range over a function, walked in place: the function's own body, and at each call of yield the loop's body. -/
namespace Go.Proofs.Ytnoefldpkfpglaa
open Go Go.RowKit

/-- A loop's record that is ready. -/
structure RecOk (n : Nat) (l : Sl) (ps : Array Tmp) (asg body : Code) (r : Loop) : Prop where
  state : r.state = .ready
  pending : r.pending = none
  params : r.params = ps
  assign : r.assign = asg
  body : r.body = body
  slots : SlR n [] l { tmps := r.tmps, defers := [] }
/-- yield's arguments in the loop's slots. -/
def setps : List (Tmp × Value) → Sl → Sl
  | [], l => l
  | (t, v) :: ps, l => setps ps (putL (some t) v l)
/-- Which loop a call of yield asks, with what. -/
def yieldL (l : Sl) (o : Oper) : Option (Nat × Array Value) :=
  if knownO l o then match o.op with
    | .call c => match c.callee with
      | .value x => match look l x with
        | .func (.yield y) first _ => some (y, first ++ c.args.map (look l))
        | _ => none
      | _ => none
    | _ => none
  else none
theorem turn_ob2 {g : Nat} {o o' : Obj} {w : World} (h : w.heap[g]? = some o) : Turn g o' w (w.putObj g o') :=
  ⟨World.putObj_heap_same (Array.getElem?_eq_some_iff.1 h).1, fun _ hk => World.putObj_heap_other hk, by simp [World.putObj], rfl, rfl, rfl⟩
theorem Hs.gone {w0 w : World} {L : List Ob} {g : Nat} {o o' : Obj} {i : Nat} (h : Hs w0 L w) (hi : L[i]? = some (g, o)) : Hs w0 (L.eraseIdx i) (w.putObj g o') :=
  (h.turn i hi (turn_ob2 (h.row i hi))).sub (by rw [← List.eraseIdx_set_eq (l := L) (i := i) (a := (g, o'))]; exact List.eraseIdx_sublist ..)
theorem setps_ok {n : Nat} : ∀ (ps : List (Tmp × Value)) (l : Sl) (t : Array Value), (ps.all fun p => Nat.blt p.1 n) = true → SlR n [] l { tmps := t, defers := [] } →
    SlR n [] (setps ps l) { tmps := ps.foldl (fun t (p, v) => t.setIfInBounds p v) t, defers := [] }
  | [], _, _, _, h => h
  | (p, v) :: ps, l, t, hp, h => by
    simp only [List.all_cons, Bool.and_eq_true] at hp
    exact setps_ok ps _ _ hp.2 (h.put (d := some p) hp.1 v)

section
variable {E : Env} {k : List Fr} {l : Sl} {L : List Ob} {all os : List Oper} {o : Oper} {i : Nat}
/-- The statement. -/
theorem at_range {P : Program} {D : List Deferred} {R : Exit → Act → World → Prop} {w0 : World} {n : Nat} {g : Operand} {ps : Array Tmp} {asg body : Code} {gf : FuncId} {lb : Array Value} {fn2 : Func} {c2 : Code} {n2 : Nat}
    (hg : (knownX l g, look l g) = (true, .func (.func gf) #[] lb)) (he : ∀ args w, (callFunc gf args).run P w = .ok (.enter gf args) w)
    (hf : P.funcs[gf]? = some fn2) (hb : fn2.body = some c2) (hn : fn2.ntmps = n2) (hs : Nat.ble (#[Value.func (.yield 0) #[] #[]] ++ lb).size n2 = true)
    (h : ∀ (γ : Nat → Nat) (r : Loop), RecOk n l ps asg body r →
      At ⟨P, none, [], bodyPost P fn2 (fun e w' => ∃ v L', e = .returned v ∧ Hs w0 L' w' ∧ ∃ i, L'[i]? = some (γ 1, .loop r) ∧ Done ⟨P, none, ⟨.collected (γ 0), #[]⟩ :: D, R, w0, n⟩ k l (L'.eraseIdx i)), w0, n2⟩ []
        c2 (argL (#[.func (.yield (γ 1)) #[] #[]] ++ lb)) ((γ 1, .loop r) :: (γ 0, .deferred (some [])) :: L)) : At ⟨P, none, D, R, w0, n⟩ k (.rangeFunc g ps asg body) l L := by
  obtain ⟨hg1, hg2⟩ := Prod.mk.inj hg
  refine ⟨fun a w ha hw => wpIn_rangeFunc fun fn hfn => ?_⟩
  have hgv : a.eval g = .func (.func gf) #[] lb := by rw [look_eval ha hg1, hg2]
  obtain ⟨r, hr⟩ : ∃ r : Loop, r = { state := .ready, pending := none, fn, tmps := a.tmps, params := ps, assign := asg, body := body, defers := w.heap.size } := ⟨_, rfl⟩
  have hs1 : Hs w0 ((w.heap.size + 1, .loop r) :: (w.heap.size, .deferred (some [])) :: L) ((w.alloc (.deferred (some []))).alloc (.loop r)) := by
    have := (hw.cons (.deferred (some []))).cons (.loop r)
    rwa [World.size_alloc] at this
  have hok : RecOk n l ps asg body r := by subst hr; exact ⟨rfl, rfl, rfl, rfl, rfl, ⟨ha.got, ha.size, rfl⟩⟩
  refine ⟨w.heap.size + 1, [{ target := .collected w.heap.size, args := #[] }], (w.alloc (.deferred (some []))).alloc (.loop r), { target := .fn (.func gf) lb, args := #[.func (.yield (w.heap.size + 1)) #[] #[]] }, (w.alloc (.deferred (some []))).alloc (.loop r), gf, #[.func (.yield (w.heap.size + 1)) #[] #[]] ++ lb, (w.alloc (.deferred (some []))).alloc (.loop r),
    by rw [hr]; exact run_enterLoop_outer _ _ _ _ _, ?_, fun f' hf' => trivial, ?_, fun e => (by cases e), ?_⟩
  · simp only [resolve, hgv]
    simp [go_sem]
  · simp [invoke, go_sem, he]
  · refine fen_calls ((enter hs1 hf hb hn (by simpa using hs) (h (fun i => w.heap.size + i) r hok)).mono ?_)
    rintro e w3 ⟨v, L', rfl, hs3, j, hj, hd⟩
    have hl := hs3.row j hj
    refine ⟨none, _, by have := run_endLoop (P := P) hl (by rw [hok.state]; simp); rw [hok.pending] at this; exact this, ?_⟩
    exact hd.out _ _ ⟨ha.got, ha.size, by simp [ha.defers]⟩ (hs3.gone hj)

/-- A call of yield: one round. -/
theorem ops_yield {P : Program} {D : List Deferred} {R : Exit → Act → World → Prop} {w0 : World} {n : Nat} {y : Nat} {args : Array Value} {r : Loop} {nc : Nat} {lc : Sl} {ps : Array Tmp} {asg body : Code}
    (hw : wantL all l o = some true) (hd : okD n o.dst = true) (hc : yieldL l o = some (y, args)) (j : Nat) (hj : L[j]? = some (y, .loop r)) (hr : RecOk nc lc ps asg body r) (hps : args.size = ps.size) (hpn : ((ps.zip args).toList.all fun p => Nat.blt p.1 nc) = true)
    (h : At ⟨P, some y, [], Exit.then (fun a w => ∃ L2 l2 j2, SlR nc [] l2 a ∧ Hs w0 L2 w ∧ L2[j2]? = some (y, .loop r) ∧
        At ⟨P, some y, [], fun e _ w => e = .normal ∧ ∃ L3 j3, Hs w0 L3 w ∧ L3[j3]? = some (y, .loop { r with state := .busy }) ∧ Ops ⟨P, none, D, R, w0, n⟩ k all os (i + 1) (putL o.dst (.bool true) l) (L3.set j3 (y, .loop r)), w0, nc⟩ [] body l2 (L2.set j2 (y, .loop { r with state := .busy })))
        (fun _ _ _ => False), w0, nc⟩ [] asg (setps (ps.zip args).toList lc) L) : Ops ⟨P, none, D, R, w0, n⟩ k all (o :: os) i l L := by
  refine ⟨fun a w ha hs => ?_⟩
  have hg := wantL_spec ha hw
  refine wpListIn_step fun K hK => ?_
  rw [if_pos hg]
  refine ⟨fun _ _ => trivial, ?_⟩
  have hl := hs.row j hj
  have hy := run_yield (P := P) (args := args) hl (by rw [hr.params]; exact hps)
  have hop : ∀ c, o.op ≠ .defer c := fun c e => by
    unfold yieldL at hc
    rw [e] at hc
    split at hc <;> cases hc
  have hrun : (execOp a.eval o).run P w = .ok (.round y r.fn ((r.params.zip args).foldl (fun tmps (t, a) => tmps.setIfInBounds t a) r.tmps) r.assign r.body) w := by
    have hc' := hc
    unfold yieldL at hc'
    split at hc' <;> try cases hc'
    rename_i hk
    rw [look_exec ha hk]
    split at hc' <;> try cases hc'
    rename_i c hop'
    split at hc' <;> try cases hc'
    rename_i x hx
    split at hc' <;> try cases hc'
    rename_i z first cap hv
    simp only [execOp, hop', resolve, hx, hv, Deferred.ofValue, Sem.run_bind, Sem.run_pure, Result.andThen_ok, invoke]
    exact hy
  rw [Oper.semAt_eq _ _ _ hop, hrun]
  refine ⟨fun e => (by cases e), ?_⟩
  rw [hr.assign, hr.body, hr.params]
  have hsl := setps_ok (ps.zip args).toList lc r.tmps hpn hr.slots
  refine roundIn_of_wpIn (F := fen none) trivial ?_
  rw [Array.foldl_toList] at hsl
  refine wpIn_mono (h.out _ _ hsl hs) ?_
  rintro e a1 w1 hq
  cases e with
  | normal =>
    obtain ⟨L2, l2, j2, ha2, hs2, hj2, hat⟩ := hq
    have hl2 := hs2.row j2 hj2
    refine ⟨_, run_beginRound hl2 hr.state, ?_⟩
    refine wpIn_mono (hat.out _ _ ha2 (hs2.turn j2 hj2 (turn_ob2 hl2))) ?_
    rintro e a3 w3 ⟨rfl, L3, j3, hs3, hj3, hops⟩
    have hl3 := hs3.row j3 hj3
    refine ⟨_, _, run_endRound none hl3, ?_⟩
    have hrr : ({ ({ r with state := .busy } : Loop) with state := .ready, pending := none } : Loop) = r := by
      have h1 := hr.state; have h2 := hr.pending
      cases r; simp only at h1 h2; subst h1; subst h2; rfl
    refine hK _ _ (hops.out _ _ (ha.put hd _) ?_)
    have := hs3.turn j3 hj3 (turn_ob2 (o' := .loop r) hl3)
    simpa [hrr] using this
  | _ => exact hq.elim
/-- The loop's variables are set: the body. -/
theorem done_asg {P : Program} {w0 : World} {y nc : Nat} {r : Loop} {body : Code} {R : Exit → Act → World → Prop} (j : Nat) (hj : L[j]? = some (y, .loop r)) (h : At ⟨P, some y, [], R, w0, nc⟩ [] body l (L.set j (y, .loop { r with state := .busy }))) :
    Done ⟨P, some y, [], Exit.then (fun a w => ∃ L2 l2 j2, SlR nc [] l2 a ∧ Hs w0 L2 w ∧ L2[j2]? = some (y, .loop r) ∧ At ⟨P, some y, [], R, w0, nc⟩ [] body l2 (L2.set j2 (y, .loop { r with state := .busy }))) (fun _ _ _ => False), w0, nc⟩ [] l L :=
  ⟨fun _ _ ha hw => ⟨L, l, j, ha, hw, hj, h⟩⟩
/-- A round is over. -/
theorem done_rnd {P : Program} {w0 : World} {y nc : Nat} {r : Loop} {K : List Ob → Prop} (j : Nat) (hj : L[j]? = some (y, .loop { r with state := .busy })) (h : K (L.set j (y, .loop r))) :
    Done ⟨P, some y, [], fun e _ w => e = .normal ∧ ∃ L3 j3, Hs w0 L3 w ∧ L3[j3]? = some (y, .loop { r with state := .busy }) ∧ K (L3.set j3 (y, .loop r)), w0, nc⟩ [] l L :=
  ⟨fun _ _ _ hw => ⟨rfl, L, j, hw, hj, h⟩⟩
/-- A call walked into, of a function that holds a range over a function. -/
theorem ops_inlineM {os : List Oper} {o : Oper} {i : Nat} {g : FuncId} {args : Array Value} {fn : Func} {c : Code} {n' : Nat} (hw : wantL all l o = some true) (hd : okD E.n o.dst = true) (hc : calleeL l o = some (g, args)) (he : ∀ args w, (callFunc g args).run E.P w = .ok (.enter g args) w)
    (hf : E.P.funcs[g]? = some fn) (hb : fn.body = some c) (hn : fn.ntmps = n') (hs : Nat.ble args.size n' = true)
    (h : At ⟨E.P, none, [], bodyPostM (fen none) 0 E.P fn (fun e w' => ∃ v L', e = .returned v ∧ Hs E.w0 L' w' ∧ Ops E k all os (i + 1) (putL o.dst v l) L'), E.w0, n'⟩ [] c (argL args) L) : Ops E k all (o :: os) i l L := by
  refine ⟨fun a w ha hs' => ?_⟩
  have hg := wantL_spec ha hw
  refine wpListIn_step fun K hK => ?_
  rw [if_pos hg]
  refine ⟨fun _ _ => trivial, ?_⟩
  rw [Oper.semAt_eq _ _ _ (callee_known hc), run_callee ha hc he w]
  refine ⟨fun h => (by cases h), fen_calls ?_⟩
  have hs2 : args.size ≤ n' := Nat.le_of_ble_eq_true hs
  have hC : CallsIn (fen none) 0 E.P g args w (fun e w' => ∃ v L', e = .returned v ∧ Hs E.w0 L' w' ∧ Ops E k all os (i + 1) (putL o.dst v l) L') := by
    refine callsIn_of_wp_marks hf hb trivial (h.out _ _ ⟨fun p hp => ?_, by simp [hn]; omega, rfl⟩ hs') rfl
    obtain ⟨x, hx, rfl⟩ := List.mem_map.1 hp
    have := List.mem_zipIdx_iff_getElem?.1 hx
    simp only at this ⊢
    have hlt : x.2 < args.size := by simpa using (List.getElem?_eq_some_iff.1 this).1
    rw [Array.getElem?_append_left hlt]
    simpa using this
  refine (callsIn_wide.1 hC).mono fun e w' ⟨v, L', he, hs2, hO⟩ => ?_
  subst he
  exact hK _ _ (hO.out _ _ (ha.put hd v) hs2)
/-- Its return. -/
theorem at_backM {P : Program} {fn : Func} {w0 : World} {n d : Nat} {X : Value → List Ob → Prop} (j : Nat) (hj : L[j]? = some (d, .deferred (some []))) (src : List Src) (v : Value) (rq : List Prop) (h1 : rSeen (retV P w0 fn.results.toList l (L.eraseIdx j) src) = some (v, rq))
    (h2 : rtL (retV P w0 fn.results.toList l (L.eraseIdx j) src) = rtR (retV P w0 fn.results.toList l (L.eraseIdx j) src)) (h3 : AllP rq)
    (h : X v (L.eraseIdx j)) : At ⟨P, none, [⟨.collected d, #[]⟩], bodyPostM (fen none) 0 P fn (fun e w' => ∃ v L', e = .returned v ∧ Hs w0 L' w' ∧ X v L'), w0, n⟩ k .ret l L := by
  refine at_ret fun a w ha hw => ?_
  have hk := hw.row j hj
  have hw' := hw.gone (o' := .deferred none) hj
  have hb := ret_post (k := k) (R := fun e w' => ∃ v L', e = .returned v ∧ Hs w0 L' w' ∧ X v L') src v rq h1 h2 h3 (fun w hw => ⟨v, _, rfl, hw, h⟩) { a with defers := [] } _ ⟨ha.got, ha.size, rfl⟩ hw'
  obtain ⟨_, u, hu, hR⟩ := hb
  show LeavesInM (fen none) 0 P fn a.tmps _ a.defers .returning w
  rw [ha.defers]
  exact ⟨by simp, .inl ⟨d, _, rfl, run_takeDeferred hk, u, hu, hR⟩⟩
end
end Go.Proofs.Ytnoefldpkfpglaa

/-! The walker: drawn regions that act, told state by state (each set of done operations once). -/
namespace Go.Proofs.Ytnoefldpkfpglaa
open Go Go.RowKit

section
variable {E : Env} {k : List Fr} {all : List Oper} {f : Nat} {listed : Array Bool} {l : Sl} {L : List Ob}
/-- A state told over its own variables. -/
theorem any_cutX {V : Type} (C : V → Prop) (f' : Nat) (listed' : Array Bool) (l' : V → Sl) (L' : V → List Ob) (h2 : ∀ v, C v → Any E k all f' listed' (l' v) (L' v))
    (h1 : (∀ v, C v → Any E k all f' listed' (l' v) (L' v)) → Any E k all f listed l L) : Any E k all f listed l L := h1 h2
def chunk (cs : List (List Ob)) (is : List Nat) : List Ob := (is.map fun i => cs.getD i []).flatten
theorem chunk_perm (cs : List (List Ob)) (is : List Nat) (h : is.isPerm (List.range cs.length) = true) : (chunk cs is).Perm cs.flatten := by
  have h1 := (List.isPerm_iff.1 h).map fun i => cs.getD i []
  have h2 : (List.range cs.length).map (fun i => cs.getD i []) = cs := by
    apply List.ext_getElem?
    intro j
    rw [List.getElem?_map]
    by_cases hj : j < cs.length
    · rw [List.getElem?_range hj, List.getElem?_eq_getElem hj]; simp [hj]
    · rw [List.getElem?_eq_none (by simpa using hj), List.getElem?_eq_none (by omega)]; rfl
  rw [h2] at h1
  exact h1.flatten
/-- The blocks may stand in another order. -/
theorem any_weakP {f' : Nat} {listed' : Array Bool} {l' : Sl} {L' : List Ob} (h : Any E k all f' listed' l' L') (ts : List Nat) (cs : List (List Ob)) (is : List Nat) (hl : keepL l ts = some l') (hL : L = cs.flatten) (hL' : L' = chunk cs is) (hi : is.isPerm (List.range cs.length) = true) (hf : f = f') (hli : listed = listed') :
    Any E k all f listed l L := by
  subst hL hL' hf hli
  exact ⟨fun a w ha hs => h.out a w (ha.sub (keepL_mem hl)) (hs.perm (chunk_perm cs is hi).symm)⟩
end
end Go.Proofs.Ytnoefldpkfpglaa

/-! The walker: blocks told in another order, some of them left out. -/
namespace Go.Proofs.Ytnoefldpkfpglaa
open Go Go.RowKit

theorem Hs.pick {w0 w : World} (cs : List (List Ob)) (is rest : List Nat) (hi : (is ++ rest).isPerm (List.range cs.length) = true) (h : Hs w0 cs.flatten w) : Hs w0 (chunk cs is) w := by
  have h1 := h.perm (chunk_perm cs (is ++ rest) hi).symm
  have e : chunk cs (is ++ rest) = chunk cs is ++ chunk cs rest := by simp [chunk]
  rw [e] at h1
  exact h1.sub (List.sublist_append_left _ _)
section
variable {E : Env} {k : List Fr} {l : Sl} {L L' : List Ob} {all os : List Oper} {i : Nat}
/-- A call that answers with new blocks Y beside those that stand. -/
theorem ops_callN {o : Oper} {f : FuncId} {args : Array Value} (m : Nat) (Post : Value → List Ob → Prop) (hw : wantL all l o = some true) (hd : okD E.n o.dst = true) (hc : calleeL l o = some (f, args)) (he : ∀ args w, (callFunc f args).run E.P w = .ok (.enter f args) w)
    (hC : ∀ w, Hs E.w0 L w → Calls E.P f args w fun e w' => ∃ v Y, e = .returned v ∧ Post v Y ∧ Below w.heap.size w w' ∧ Hs w Y w') (h : ∀ v Y, Post v Y → Ops E k all os (i + 1) (putL o.dst v l) (L.take m ++ (Y ++ L.drop m))) : Ops E k all (o :: os) i l L :=
  ops_call (fun v L' => ∃ Y, Post v Y ∧ L' = L.take m ++ (Y ++ L.drop m)) hw hd hc he
    (fun w hw => (hC w hw).mono fun e w' ⟨v, Y, h1, h2, h3, h4⟩ => ⟨v, _, h1, ⟨Y, h2, rfl⟩, hw.join h3 h4 m⟩) (fun v L' ⟨Y, h1, h2⟩ => by subst h2; exact h v Y h1)
theorem At.pick {c : Code} (cs : List (List Ob)) (is rest : List Nat) (L' : List Ob) (hi : (is ++ rest).isPerm (List.range cs.length) = true) (hL : L = cs.flatten) (hL' : L' = chunk cs is) (h : At E k c l L') : At E k c l L :=
  ⟨fun a w ha hs => h.out a w ha (by rw [hL']; exact Hs.pick cs is rest hi (by rw [← hL]; exact hs))⟩
theorem Ops.pick (cs : List (List Ob)) (is rest : List Nat) (L' : List Ob) (hi : (is ++ rest).isPerm (List.range cs.length) = true) (hL : L = cs.flatten) (hL' : L' = chunk cs is) (h : Ops E k all os i l L') : Ops E k all os i l L :=
  ⟨fun a w ha hs => h.out a w ha (by rw [hL']; exact Hs.pick cs is rest hi (by rw [← hL]; exact hs))⟩
theorem Done.pick (cs : List (List Ob)) (is rest : List Nat) (L' : List Ob) (hi : (is ++ rest).isPerm (List.range cs.length) = true) (hL : L = cs.flatten) (hL' : L' = chunk cs is) (h : Done E k l L') : Done E k l L :=
  ⟨fun a w ha hs => h.out a w ha (by rw [hL']; exact Hs.pick cs is rest hi (by rw [← hL]; exact hs))⟩
end
end Go.Proofs.Ytnoefldpkfpglaa

/-! The walker's rules once more, under short names: what the kernel reckons is left to it. -/
namespace Go.Proofs.Ytnoefldpkfpglaa
open Go Go.RowKit

section
variable {E : Env} {k : List Fr} {l : Sl} {L : List Ob} {all os : List Oper} {i : Nat} {o : Oper} {f : FuncId} {args : Array Value}
theorem ds_ {c : Code} (h : At E k c l L) : Done E (.seq c :: k) l L := done_seq h
theorem sq_ {c d : Code} (h : At E (.seq d :: k) c l L) : At E k (.seq c d) l L := at_seq h
theorem on_ (h : Done E k l L) : Ops E k all [] i l L := ops_nil h
theorem ao_ {id : Nat} (h : Ops E k all all 0 l L) : At E k (.region id all.toArray false) l L := at_ops h
theorem t_ {c : Operand} {x y : Code} (h : At E k x l L) (hk : (knownX l c, look l c) = (true, .bool true) := by kernel_rfl) : At E k (.cond c x y) l L := at_true hk h
theorem f_ {c : Operand} {x y : Code} (h : At E k y l L) (hk : (knownX l c, look l c) = (true, .bool false) := by kernel_rfl) : At E k (.cond c x y) l L := at_false hk h
theorem qo (m : Nat) (hs : List (Nat × Hint)) (ts : List Nat) (ch : Sl) (rq : List Prop) (h3 : AllP rq) (h4 : Ops E k all (os.drop m) (i + m) (ch ++ restL l ts) L)
    (h : ∀ γ, ev2 (ch.map (·.1) ++ ts) (evOps false E.P E.w0 γ E.n all hs i (os.take m) ⟨l, L, 0⟩) = (some (ch ++ restL l ts, L, rq), trR (evOps false E.P E.w0 γ E.n all hs i (os.take m) ⟨l, L, 0⟩)) := by intro _; kernel_rfl) : Ops E k all os i l L := oq m hs ts ch rq h h3 h4
theorem qo0 (m : Nat) (hs : List (Nat × Hint)) (ts : List Nat) (ch : Sl) (h4 : Ops E k all (os.drop m) (i + m) (ch ++ restL l ts) L)
    (h : ∀ γ, ev2 (ch.map (·.1) ++ ts) (evOps false E.P E.w0 γ E.n all hs i (os.take m) ⟨l, L, 0⟩) = (some (ch ++ restL l ts, L, []), trR (evOps false E.P E.w0 γ E.n all hs i (os.take m) ⟨l, L, 0⟩)) := by intro _; kernel_rfl) : Ops E k all os i l L := oq m hs ts ch [] h al0 h4
theorem mo (m : Nat) (hs : List (Nat × Hint)) (ts : List Nat) (ch : (Nat → Nat) → Sl) (F : (Nat → Nat) → List Ob → List Ob) (rq : (Nat → Nat) → List Prop) (h3 : ∀ γ, AllP (rq γ)) (h4 : ∀ γ, Ops E k all (os.drop m) (i + m) (ch γ ++ restL l ts) (F γ L))
    (h : ∀ γ, ev2 ((ch γ).map (·.1) ++ ts) (evOps false E.P E.w0 γ E.n all hs i (os.take m) ⟨l, L, 0⟩) = (some (ch γ ++ restL l ts, F γ L, rq γ), trR (evOps false E.P E.w0 γ E.n all hs i (os.take m) ⟨l, L, 0⟩)) := by intro _; kernel_rfl) : Ops E k all os i l L := om m hs ts ch F rq h h3 h4
theorem mo0 (m : Nat) (hs : List (Nat × Hint)) (ts : List Nat) (ch : (Nat → Nat) → Sl) (F : (Nat → Nat) → List Ob → List Ob) (h4 : ∀ γ, Ops E k all (os.drop m) (i + m) (ch γ ++ restL l ts) (F γ L))
    (h : ∀ γ, ev2 ((ch γ).map (·.1) ++ ts) (evOps false E.P E.w0 γ E.n all hs i (os.take m) ⟨l, L, 0⟩) = (some (ch γ ++ restL l ts, F γ L, []), trR (evOps false E.P E.w0 γ E.n all hs i (os.take m) ⟨l, L, 0⟩)) := by intro _; kernel_rfl) : Ops E k all os i l L := om m hs ts ch F (fun _ => []) h (fun _ => al0) h4
theorem ma {id : Nat} (hs : List (Nat × Hint)) (ts : List Nat) (ch : (Nat → Nat) → Sl) (F : (Nat → Nat) → List Ob → List Ob) (rq : (Nat → Nat) → List Prop) (h3 : ∀ γ, AllP (rq γ)) (h4 : ∀ γ, Done E k (ch γ ++ restL l ts) (F γ L))
    (h : ∀ γ, ev2 ((ch γ).map (·.1) ++ ts) (evOps false E.P E.w0 γ E.n all hs 0 all ⟨l, L, 0⟩) = (some (ch γ ++ restL l ts, F γ L, rq γ), trR (evOps false E.P E.w0 γ E.n all hs 0 all ⟨l, L, 0⟩)) := by intro _; kernel_rfl) : At E k (.region id all.toArray false) l L := am hs ts ch F rq h h3 h4
theorem ma0 {id : Nat} (hs : List (Nat × Hint)) (ts : List Nat) (ch : (Nat → Nat) → Sl) (F : (Nat → Nat) → List Ob → List Ob) (h4 : ∀ γ, Done E k (ch γ ++ restL l ts) (F γ L))
    (h : ∀ γ, ev2 ((ch γ).map (·.1) ++ ts) (evOps false E.P E.w0 γ E.n all hs 0 all ⟨l, L, 0⟩) = (some (ch γ ++ restL l ts, F γ L, []), trR (evOps false E.P E.w0 γ E.n all hs 0 all ⟨l, L, 0⟩)) := by intro _; kernel_rfl) : At E k (.region id all.toArray false) l L := am hs ts ch F (fun _ => []) h (fun _ => al0) h4
theorem qa {id : Nat} (hs : List (Nat × Hint)) (ts : List Nat) (ch : Sl) (rq : List Prop) (h3 : AllP rq) (h4 : Done E k (ch ++ restL l ts) L)
    (h : ∀ γ, ev2 (ch.map (·.1) ++ ts) (evOps false E.P E.w0 γ E.n all hs 0 all ⟨l, L, 0⟩) = (some (ch ++ restL l ts, L, rq), trR (evOps false E.P E.w0 γ E.n all hs 0 all ⟨l, L, 0⟩)) := by intro _; kernel_rfl) : At E k (.region id all.toArray false) l L := aq hs ts ch rq h h3 h4
theorem qa0 {id : Nat} (hs : List (Nat × Hint)) (ts : List Nat) (ch : Sl) (h4 : Done E k (ch ++ restL l ts) L)
    (h : ∀ γ, ev2 (ch.map (·.1) ++ ts) (evOps false E.P E.w0 γ E.n all hs 0 all ⟨l, L, 0⟩) = (some (ch ++ restL l ts, L, []), trR (evOps false E.P E.w0 γ E.n all hs 0 all ⟨l, L, 0⟩)) := by intro _; kernel_rfl) : At E k (.region id all.toArray false) l L := aq hs ts ch [] h al0 h4
theorem cD (v : Value) (he : ∀ args w, (callFunc f args).run E.P w = .ok (.enter f args) w)
    (hC : ∀ w, Hs E.w0 L w → Calls E.P f args w fun e w' => e = .returned v ∧ Below w.heap.size w w') (h : Ops E k all os (i + 1) (putL o.dst v l) L) (hw : wantL all l o = some true := by kernel_rfl) (hd : okD E.n o.dst = true := by kernel_rfl) (hc : calleeL l o = some (f, args) := by kernel_rfl) : Ops E k all (o :: os) i l L := ops_callD v hw hd hc he hC h
theorem cK (v : Value) (he : ∀ args w, (callFunc f args).run E.P w = .ok (.enter f args) w)
    (hC : ∀ w, Hs E.w0 L w → Calls E.P f args w fun e w' => e = .returned v ∧ Below w.heap.size w w') (h : Calm E k all os (i + 1) (putL o.dst v l) L) (hw : wantL all l o = some true := by kernel_rfl) (hd : okD E.n o.dst = true := by kernel_rfl) (hc : calleeL l o = some (f, args) := by kernel_rfl) : Calm E k all (o :: os) i l L := calm_callD v hw hd hc he hC h
theorem cP (Post : Value → List Ob → Prop) (he : ∀ args w, (callFunc f args).run E.P w = .ok (.enter f args) w)
    (hC : ∀ w, Hs E.w0 L w → Calls E.P f args w fun e w' => ∃ v L', e = .returned v ∧ Post v L' ∧ Hs E.w0 L' w') (h : ∀ v L', Post v L' → Ops E k all os (i + 1) (putL o.dst v l) L') (hw : wantL all l o = some true := by kernel_rfl) (hd : okD E.n o.dst = true := by kernel_rfl) (hc : calleeL l o = some (f, args) := by kernel_rfl) : Ops E k all (o :: os) i l L := ops_call Post hw hd hc he hC h
theorem cN (m : Nat) (Post : Value → List Ob → Prop) (he : ∀ args w, (callFunc f args).run E.P w = .ok (.enter f args) w)
    (hC : ∀ w, Hs E.w0 L w → Calls E.P f args w fun e w' => ∃ v Y, e = .returned v ∧ Post v Y ∧ Below w.heap.size w w' ∧ Hs w Y w') (h : ∀ v Y, Post v Y → Ops E k all os (i + 1) (putL o.dst v l) (L.take m ++ (Y ++ L.drop m))) (hw : wantL all l o = some true := by kernel_rfl) (hd : okD E.n o.dst = true := by kernel_rfl) (hc : calleeL l o = some (f, args) := by kernel_rfl) : Ops E k all (o :: os) i l L := ops_callN m Post hw hd hc he hC h
theorem dr {α : Type} {S : α → Sl} {M : α → List Ob} {I : α → Prop} {μ : α → Nat} {x : α} (ts : List Nat) (y : α) (hI : I y) (hl : keepL l ts = some (S y) := by kernel_rfl) (hL : L = M y := by rfl) (hμ : μ y < μ x := by first | omega | (simp only; omega)) : Done E (.loop (Again E S M I μ x) :: k) l L := done_round ts y hl hL hI hμ
theorem rt {P : Program} {fn : Func} {R : Ending → World → Prop} {w0 : World} {n : Nat} (src : List Src) (v : Value) (h : ∀ w, Hs w0 L w → R (.returned v) w) (h1 : rSeen (retV P w0 fn.results.toList l L src) = some (v, []) := by kernel_rfl) (h2 : rtL (retV P w0 fn.results.toList l L src) = rtR (retV P w0 fn.results.toList l L src) := by kernel_rfl) : At ⟨P, none, [], bodyPost P fn R, w0, n⟩ k .ret l L := at_return src v [] h1 h2 al0 h
theorem bk {P : Program} {fn : Func} {w0 : World} {n : Nat} {X : Value → List Ob → Prop} (src : List Src) (v : Value) (h : X v L) (h1 : rSeen (retV P w0 fn.results.toList l L src) = some (v, []) := by kernel_rfl) (h2 : rtL (retV P w0 fn.results.toList l L src) = rtR (retV P w0 fn.results.toList l L src) := by kernel_rfl) : At ⟨P, none, [], bodyPost P fn (fun e w' => ∃ v L', e = .returned v ∧ Hs w0 L' w' ∧ X v L'), w0, n⟩ k .ret l L := at_back src v [] h1 h2 al0 h
variable {listed : Array Bool} {m : Nat}
theorem od_ {j : Nat} (h : Any E k all m (listed.setIfInBounds i true) l L) : Ops E (.loop (fun a w => wpAnyIn (fen E.rd) 0 E.P .any all.toArray (postF E.rd E.P E.R k) m (listed.setIfInBounds i true) a w) :: k) all [] j l L := ops_nil (done_any h)
theorem a1 (i : Nat) (ho : all[i]? = some o) (h : Ops E (.loop (fun a w => wpAnyIn (fen E.rd) 0 E.P .any all.toArray (postF E.rd E.P E.R k) m (listed.setIfInBounds i true) a w) :: k) all [o] i l L) (hr : Region.ready .any all.toArray listed = [i] := by kernel_rfl) : Any E k all (m + 1) listed l L := any_one i o hr ho h
theorem wk {f' : Nat} {listed' : Array Bool} {l' : Sl} {L' : List Ob} (h : Any E k all f' listed' l' L') (ts : List Nat) (cs : List (List Ob)) (is : List Nat) (hL : L = cs.flatten) (hL' : L' = chunk cs is) (hl : keepL l ts = some l' := by kernel_rfl) (hi : is.isPerm (List.range cs.length) = true := by kernel_rfl) (hf : m = f' := by rfl) (hli : listed = listed' := by rfl) :
    Any E k all m listed l L := any_weakP h ts cs is hl hL hL' hi hf hli
theorem tk {P : Program} {fn : Func} {R : Ending → World → Prop} {w0 : World} {n : Nat} (is : List Nat) (hs : List (Nat × Hint)) (ts : List Nat) (ch : Sl) (rq : List Prop) (li : Array Bool) (h3 : AllP rq) (h4 : Any ⟨P, none, [], bodyPost P fn R, w0, n⟩ k all m li (ch ++ restL l ts) L) (hsel : Region.noSelect all.toArray = true := by kernel_rfl)
    (h : (evTs P n all hs is listed l).map (fun r => (r.1, keepL r.2.1 (ch.map (·.1) ++ ts), r.2.2)) = some (li, some (ch ++ restL l ts), rq) := by kernel_rfl) : Any ⟨P, none, [], bodyPost P fn R, w0, n⟩ k all (m + is.length) listed l L := any_tk is hs ts ch rq li hsel h h3 h4
end
end Go.Proofs.Ytnoefldpkfpglaa

/-! The walker: whole elements stored in place; clear; what a deletion leaves; loops that gather. -/
namespace Go.Proofs.Ytnoefldpkfpglaa
open Go Go.RowKit

def setsL : List Value → Nat → List Value → List Value
  | c, _, [] => c
  | c, o, v :: vs => setsL (c.set o v) (o + 1) vs
theorem setsL_len : ∀ (vs : List Value) (c : List Value) (o : Nat), (setsL c o vs).length = c.length
  | [], _, _ => rfl
  | v :: vs, c, o => by rw [setsL, setsL_len vs]; simp
theorem setsL_get : ∀ (vs : List Value) (c : List Value) (o j : Nat), o + vs.length ≤ c.length → (setsL c o vs)[j]? = if o ≤ j ∧ j < o + vs.length then vs[j - o]? else c[j]?
  | [], c, o, j, _ => by rw [if_neg (by simp only [List.length_nil]; omega)]; rfl
  | v :: vs, c, o, j, h => by
    simp only [List.length_cons] at h ⊢
    rw [setsL, setsL_get vs _ _ _ (by simp; omega)]
    by_cases h1 : o = j
    · subst h1
      rw [if_neg (by omega), if_pos (by omega)]
      simp [show o < c.length by omega]
    · by_cases h2 : o + 1 ≤ j ∧ j < o + 1 + vs.length
      · rw [if_pos h2, if_pos (by omega), show j - o = (j - (o + 1)) + 1 by omega, List.getElem?_cons_succ]
      · rw [if_neg h2, if_neg (by omega), List.getElem?_set_ne h1]
theorem OwnS.set1 {k n cap : Nat} {vs : List Value} {cs : Array Value} (h : OwnS k vs n cap cs) (j : Nat) (v : Value) (hj : j < n * k) : OwnS k (vs.set j v) n cap (cs.setIfInBounds j v) := by
  have hcap : n * k ≤ cap * k := Nat.mul_le_mul_right _ h.le
  refine ⟨by rw [List.length_set]; exact h.len, h.le, h.max, by rw [Array.size_setIfInBounds]; exact h.csz, ?_⟩
  apply List.ext_getElem?
  intro i
  rw [List.getElem?_take]
  by_cases hi : i < n * k
  · rw [if_pos hi, Array.getElem?_toList, Array.getElem?_setIfInBounds, List.getElem?_set]
    by_cases hji : j = i
    · subst hji; rw [if_pos rfl, if_pos rfl, if_pos (by rw [h.csz]; omega), if_pos (by rw [h.len]; omega)]
    · rw [if_neg hji, if_neg hji, h.get i hi]
  · rw [if_neg hi, List.getElem?_eq_none (by rw [List.length_set, h.len]; omega)]
theorem OwnS.setsA {k n cap : Nat} : ∀ (us : List Value) (o : Nat) (vs : List Value) (cs : Array Value), OwnS k vs n cap cs → o + us.length ≤ n * k → OwnS k (setsL vs o us) n cap (sets cs o us)
  | [], _, _, _, h, _ => h
  | u :: us, o, vs, cs, h, hl => by
    simp only [List.length_cons] at hl
    exact OwnS.setsA us (o + 1) _ _ (h.set1 o u (by omega)) (by omega)
section
variable {α : Type} [Enc α] {l m : List α} {i j n cap : Nat} {cs : Array Value} {x x' : α}
theorem flat_set (hi : i < l.length) : (l.set i x').flatMap Enc.enc = setsL (l.flatMap Enc.enc) (i * Enc.k α) (Enc.enc x') := by
  have hm : (i + 1) * Enc.k α ≤ l.length * Enc.k α := Nat.mul_le_mul_right _ (by omega)
  rw [Nat.add_mul, Nat.one_mul] at hm
  apply List.ext_getElem?
  intro j
  rw [setsL_get _ _ _ _ (by rw [flat_len, Enc.len]; exact hm), Enc.len]
  have hk : 0 < Enc.k α := Enc.pos
  by_cases hj : j < l.length * Enc.k α
  · have hq : j / Enc.k α < l.length := (Nat.div_lt_iff_lt_mul hk).2 hj
    have hr : j % Enc.k α < Enc.k α := Nat.mod_lt _ hk
    have hjd : j = j / Enc.k α * Enc.k α + j % Enc.k α := by have := Nat.div_add_mod j (Enc.k α); rw [Nat.mul_comm] at this; omega
    have g1 := flat_get l (j / Enc.k α) hq (j % Enc.k α) hr
    have g2 := flat_get (l.set i x') (j / Enc.k α) (by simpa using hq) (j % Enc.k α) hr
    rw [← hjd] at g1 g2
    rw [g2, List.getElem_set]
    by_cases hji : i = j / Enc.k α
    · rw [if_pos hji, if_pos (by rw [hji]; omega)]
      congr 1
      rw [hji]; omega
    · rw [if_neg hji, if_neg ?_, g1]
      rintro ⟨h1, h2⟩
      apply hji
      have e : j = Enc.k α * i + (j - i * Enc.k α) := by rw [Nat.mul_comm]; omega
      rw [e, Nat.mul_add_div hk, Nat.div_eq_of_lt (by omega)]; rfl
  · rw [if_neg (by omega), List.getElem?_eq_none (by rw [flat_len, List.length_set]; omega), List.getElem?_eq_none (by rw [flat_len]; omega)]
/-- A whole element is stored. -/
theorem OwnS.putAll (h : OwnS (Enc.k α) (l.flatMap Enc.enc) n cap cs) (hn : n = l.length) (hx : l[i]? = some x) : OwnS (Enc.k α) ((l.set i x').flatMap Enc.enc) n cap (sets cs (0 + i * Enc.k α) (Enc.enc x')) := by
  have hi : i < l.length := (List.getElem?_eq_some_iff.1 hx).1
  have hm : (i + 1) * Enc.k α ≤ n * Enc.k α := Nat.mul_le_mul_right _ (by omega)
  rw [Nat.add_mul, Nat.one_mul] at hm
  rw [flat_set hi, Nat.zero_add]
  exact OwnS.setsA _ _ _ _ h (by rw [Enc.len]; exact hm)
/-- Only the first elements are kept. -/
theorem OwnS.cut (h : OwnS (Enc.k α) (l.flatMap Enc.enc) n cap cs) (hn : n = l.length) (hi : i ≤ n) {c' : Array Value} (hs : c'.size = cs.size) (hc : ∀ j, j < 0 + i * Enc.k α → c'[j]? = cs[j]?) : OwnS (Enc.k α) ((l.take i).flatMap Enc.enc) i cap c' := by
  have hm : i * Enc.k α ≤ n * Enc.k α := Nat.mul_le_mul_right _ hi
  have hlen : (l.take i).length = i := by rw [List.length_take]; omega
  have hfl : ((l.take i).flatMap Enc.enc).length = i * Enc.k α := by rw [flat_len, hlen]
  refine ⟨hfl, Nat.le_trans hi h.le, h.max, by rw [hs]; exact h.csz, ?_⟩
  apply List.ext_getElem?
  intro j
  rw [List.getElem?_take]
  by_cases hj : j < i * Enc.k α
  · rw [if_pos hj, Array.getElem?_toList, hc j (by omega), h.get j (by omega), flat_take, List.getElem?_take, if_pos hj]
  · rw [if_neg hj, List.getElem?_eq_none (by rw [hfl]; omega)]
/-! ### deletion: i kept of the first j -/
structure Dels (p : α → Bool) (l m : List α) (i j : Nat) : Prop where
  lt : i < j
  le : j ≤ l.length
  len : m.length = l.length
  pre : m.take i = (l.take j).filter fun x => !p x
  rest : m.drop j = l.drop j
omit [Enc α] in
theorem Dels.get {p : α → Bool} (h : Dels p l m i j) (hx : m[j]? = some x) : l[j]? = some x := by
  have e1 : (m.drop j)[0]? = m[j]? := by simp
  have e2 : (l.drop j)[0]? = l[j]? := by simp
  rw [← e2, ← h.rest, e1, hx]
omit [Enc α] in
theorem Dels.yes {p : α → Bool} (h : Dels p l m i j) (hx : m[j]? = some x) (hp : p x = true) : Dels p l m i (j + 1) := by
  have hl := h.get hx
  have hlt := (List.getElem?_eq_some_iff.1 hl).1
  refine ⟨by have := h.lt; omega, by omega, h.len, ?_, ?_⟩
  · rw [h.pre, List.take_add_one, hl]; simp [hp]
  · have := congrArg (List.drop 1) h.rest
    simpa [List.drop_drop, Nat.add_comm] using this
omit [Enc α] in
theorem Dels.no {p : α → Bool} (h : Dels p l m i j) (hx : m[j]? = some x) (hp : p x = false) : Dels p l (m.set i x) (i + 1) (j + 1) := by
  have hl := h.get hx
  have hlt := (List.getElem?_eq_some_iff.1 hl).1
  have hlen := h.len
  have hij := h.lt
  refine ⟨by omega, by omega, by rw [List.length_set]; exact h.len, ?_, ?_⟩
  · rw [List.take_add_one (l := m.set i x), List.take_add_one (l := l), hl, List.take_set_of_le (Nat.le_refl _), h.pre, List.getElem?_set_self (by omega)]; simp [hp]
  · rw [List.drop_set_of_lt (by omega)]
    have := congrArg (List.drop 1) h.rest
    simpa [List.drop_drop, Nat.add_comm] using this
omit [Enc α] in
theorem Dels.done {p : α → Bool} (h : Dels p l m i j) (hj : l.length ≤ j) : m.take i = l.filter fun x => !p x := by rw [h.pre, List.take_of_length_le hj]
omit [Enc α] in
/-- The first that is struck. -/
theorem Dels.start {p : α → Bool} {i : Nat} (h : ∀ t x, t < i → l[t]? = some x → p x = false) (hx : l[i]? = some x) (hp : p x = true) : Dels p l l i (i + 1) := by
  have hlt := (List.getElem?_eq_some_iff.1 hx).1
  refine ⟨by omega, by omega, rfl, ?_, rfl⟩
  rw [List.take_add_one, hx, List.filter_append]
  have : (l.take i).filter (fun x => !p x) = l.take i := by
    rw [List.filter_eq_self]
    intro y hy
    obtain ⟨t, ht⟩ := List.mem_iff_getElem?.1 hy
    rw [List.getElem?_take] at ht
    split at ht
    · rename_i hti; simp [h t y hti ht]
    · cases ht
  rw [this]; simp [hp]
omit [Enc α] in
theorem filter_none {p : α → Bool} (h : ∀ x ∈ l, p x = false) : (l.filter fun x => !p x) = l := by
  rw [List.filter_eq_self]; intro y hy; simp [h y hy]
/-! ### loops that gather -/
omit [Enc α] in
theorem flat_on {β : Type} {g : α → List β} {ys : List β} (hx : l[j]? = some x) (hg : g x = ys) : (l.take (j + 1)).flatMap g = (l.take j).flatMap g ++ ys := by
  rw [List.take_add_one, hx]; simp [hg]
omit [Enc α] in
theorem fold_on {β : Type} {g : β → α → β} {b : β} (hx : l[j]? = some x) : (l.take (j + 1)).foldl g b = g ((l.take j).foldl g b) x := by
  rw [List.take_add_one, hx]; simp
end

/-- The first place at which p holds; -1: none. -/
def idxF {α : Type} (p : α → Bool) (l : List α) : Int := if l.any p then ((l.findIdx p : Nat) : Int) else -1
section
variable {α : Type} {l : List α} {p : α → Bool} {x : α} {j : Nat}
theorem idxF_hit (h : ∀ t y, t < j → l[t]? = some y → p y = false) (hx : l[j]? = some x) (hp : p x = true) : idxF p l = (j : Int) := by
  have hj : j < l.length := (List.getElem?_eq_some_iff.1 hx).1
  have hh : l.any p = true := List.any_eq_true.2 ⟨x, List.mem_of_getElem? hx, hp⟩
  have hi : l.findIdx p = j := by
    rw [List.findIdx_eq hj]
    refine ⟨?_, fun t ht => h t _ ht (List.getElem?_eq_getElem (by omega))⟩
    have : l[j] = x := (List.getElem?_eq_some_iff.1 hx).2
    rw [this]; exact hp
  unfold idxF; rw [hh, hi]; rfl
theorem idxF_miss (h : ∀ t y, t < j → l[t]? = some y → p y = false) (hj : l.length ≤ j) : idxF p l = -1 := by
  have hh : l.any p = false := List.any_eq_false.2 fun y hy => by
    obtain ⟨t, ht⟩ := List.mem_iff_getElem?.1 hy
    have := h t y (by have := (List.getElem?_eq_some_iff.1 ht).1; omega) ht
    simp [this]
  unfold idxF; rw [hh]; rfl
theorem idxF_cases (p : α → Bool) (l : List α) : (idxF p l = -1 ∧ ∀ x ∈ l, p x = false) ∨ ∃ (i : Nat) (x : α), idxF p l = (i : Int) ∧ l[i]? = some x ∧ p x = true ∧ ∀ t y, t < i → l[t]? = some y → p y = false := by
  cases hh : l.any p with
  | false => left; exact ⟨by unfold idxF; rw [hh]; rfl, fun x hx => by simpa using List.any_eq_false.1 hh x hx⟩
  | true =>
    right
    have hlt : l.findIdx p < l.length := List.findIdx_lt_length.2 (by obtain ⟨x, hx, hp⟩ := List.any_eq_true.1 hh; exact ⟨x, hx, hp⟩)
    refine ⟨l.findIdx p, l[l.findIdx p], by unfold idxF; rw [hh]; rfl, List.getElem?_eq_getElem hlt, List.findIdx_getElem, fun t y ht hy => ?_⟩
    have := List.not_of_lt_findIdx ht
    obtain ⟨h1, h2⟩ := List.getElem?_eq_some_iff.1 hy
    rw [h2] at this
    simpa using this
end

section
variable {P : Program} {w : World} {t T ty : TypeId} {k by_ : Nat}
/-- The zero of an element: cells of one word each. -/
def zerosB (P : Program) (T : TypeId) : Bool := match P.info? T with
  | some i => match i.zero with
    | some z => z.cells.toList.all fun u => u.oneCell'
    | none => false
  | none => false
theorem zero_mem : ∀ (n : Nat) (c : Array Value), ∀ u ∈ (Builtin.zeroCells c n).toList, u ∈ c.toList := by
  intro n c u hu
  unfold Builtin.zeroCells at hu
  rw [Array.toList_map] at hu
  obtain ⟨i, hi, rfl⟩ := List.mem_map.1 hu
  have h1 : i < n * c.size := by simpa using hi
  have h2 : 0 < c.size := Nat.pos_of_ne_zero fun e => by simp [e] at h1
  have h3 := Nat.mod_lt i h2
  rw [getElem!_pos c _ h3]
  simp
theorem run_clearO (hE : elemB P t T k by_ = true) (hZ : zerosB P T = true) {g o n dc : Nat} {c : Array Value} {T' : TypeId} (hg : w.heap[g]? = some (.cells c T' (0, 0))) (ho : o + n * k ≤ c.size) :
    ∃ w' c', (Builtin.clear_ #[t] ty #[.slice (some ⟨g, o, none⟩) n dc]).run P w = .ok (.tuple #[]) w' ∧ Turn g (.cells c' T' (0, 0)) w w' ∧ c'.size = c.size ∧ ∀ j, j < o → c'[j]? = c[j]? := by
  obtain ⟨ht, i, z, hi, hz, hzs, hk, _⟩ := elemB_spec hE
  subst hk
  by_cases hn : n = 0
  · subst hn
    exact ⟨w, c, by simp [Builtin.clear_, run_underlying ht], ⟨hg, fun _ _ => rfl, rfl, rfl, rfl, rfl⟩, rfl, fun _ _ => rfl⟩
  · have hzl : (Builtin.zeroCells z.cells n).toList.length = n * i.size := by rw [Array.length_toList, size_zeroCells, hzs]
    have h1 : ∀ u ∈ (Builtin.zeroCells z.cells n).toList, u.oneCell' = true := fun u hu => by
      unfold zerosB at hZ
      simp only [hi, hz] at hZ
      exact List.all_eq_true.1 hZ u (zero_mem n z.cells u hu)
    have hst := run_storeCells_cells (P := P) g o (Builtin.zeroCells z.cells n).toList 0 w (fun j hj => by rw [Nat.add_zero, cell_own hg, Array.getElem?_eq_getElem (by omega)]; rfl) (fun j hj => froz_own hg _) h1
    simp only [Nat.add_zero] at hst
    refine ⟨_, sets c o (Builtin.zeroCells z.cells n).toList, ?_, turn_sets g T' _ o w c hg (by omega), sets_size _ _ _, fun j hj => ?_⟩
    · have hn' : (match n with | 0 => true | _ => false) = false := by cases n with | zero => exact absurd rfl hn | succ n => rfl
      obtain ⟨n', rfl⟩ : ∃ n', n = n' + 1 := ⟨n - 1, by omega⟩
      simp [Builtin.clear_, run_underlying ht, zeroValue, typeInfo, hi, hz, hst]
    · rw [sets_get _ _ _ _ (by omega), if_neg (by omega)]
end
section
variable {E : Env} {k : List Fr} {l : Sl} {L : List Ob} {all os : List Oper} {o : Oper} {i : Nat}
/-- clear of a stretch of row j. -/
theorem ops_clear (j : Nat) {x : Operand} {t T T' : TypeId} {ks by_ : Nat} (ho : o.op = .call { callee := .builtin .clear, args := #[x], argTypes := #[t] }) (hw : wantL all l o = some true) (hd : (okD E.n o.dst && knownO l o) = true)
    {g of n dc : Nat} {c : Array Value} (hx : look l x = .slice (some ⟨g, of, none⟩) n dc) (hE : elemB E.P t T ks by_ = true) (hZ : zerosB E.P T = true) (hj : L[j]? = some (bx g c T')) (hs : of + n * ks ≤ c.size)
    (h : ∀ c', c'.size = c.size → (∀ j, j < of → c'[j]? = c[j]?) → Ops E k all os (i + 1) (putL o.dst (.tuple #[]) l) (L.set j (bx g c' T'))) : Ops E k all (o :: os) i l L := by
  refine ⟨fun a w ha hw' => ?_⟩
  simp only [Bool.and_eq_true] at hd
  have hg := wantL_spec ha hw
  refine wpListIn_step fun K hK => ?_
  rw [if_pos hg]
  have hrow : w.heap[g]? = some (.cells c T' (0, 0)) := hw'.row j hj
  obtain ⟨w', c', hr, ht, h1, h2⟩ := run_clearO (ty := o.type) (dc := dc) hE hZ hrow hs
  refine ⟨fun _ _ => trivial, ?_⟩
  rw [Oper.semAt_eq _ _ _ (fun c e => by rw [ho] at e; cases e), look_exec ha hd.2]
  have e : (execOp (look l) o).run E.P w = .ok (.value (.tuple #[])) w' := by
    simp [execOp, ho, resolve, invoke, builtin, hx, hr]
  rw [e]
  exact hK _ _ ((h c' h1 h2).out _ _ (ha.put hd.1 _) (hw'.turn j hj ht))
end
theorem Hs.front {w0 w : World} {A Y R : List Ob} (h : Hs w0 (A ++ (Y ++ R)) w) : Hs w0 (Y ++ (A ++ R)) w :=
  h.perm (by rw [← List.append_assoc, ← List.append_assoc]; exact (List.perm_append_comm).append_right _)
end Go.Proofs.Ytnoefldpkfpglaa

/-! Rows by rising keys: plain laws. -/
namespace Go.Proofs.Ytnoefldpkfpglaa
open Go Go.RowKit

/-- Keys rise. -/
def Ris {α : Type} (f : α → Int) (l : List α) : Prop := l.Pairwise fun x y => f x < f y
/-- The same, asked pair by pair. -/
def risK {α : Type} (f : α → Int) : List α → Bool
  | [] => true
  | [_] => true
  | x :: y :: l => decide (f x < f y) && risK f (y :: l)
def getK {α : Type} (f : α → Int) (l : List α) (k : Int) : Option α := l.find? fun x => decide (f x = k)
section
variable {α : Type} {f : α → Int} {l l' : List α} {x y z : α} {k : Int} {i j n : Nat}
theorem ris_iffK : ∀ l : List α, risK f l = true ↔ Ris f l
  | [] => by simp [risK, Ris]
  | [x] => by simp [risK, Ris]
  | x :: y :: l => by
    rw [risK, Bool.and_eq_true, decide_eq_true_eq, ris_iffK (y :: l)]
    unfold Ris
    rw [List.pairwise_cons (a := x)]
    constructor
    · rintro ⟨h1, h2⟩
      refine ⟨fun z hz => ?_, h2⟩
      rcases List.mem_cons.1 hz with rfl | hz
      · exact h1
      · have := (List.pairwise_cons.1 h2).1 z hz; omega
    · rintro ⟨h1, h2⟩; exact ⟨h1 y (List.mem_cons_self ..), h2⟩
theorem Ris.at (h : Ris f l) (hij : i < j) (hx : l[i]? = some x) (hy : l[j]? = some y) : f x < f y := by
  obtain ⟨h1, e1⟩ := List.getElem?_eq_some_iff.1 hx
  obtain ⟨h2, e2⟩ := List.getElem?_eq_some_iff.1 hy
  have := List.pairwise_iff_getElem.1 h i j h1 h2 hij
  rwa [e1, e2] at this
theorem Ris.asc (h : Ris f l) : AscK f l := fun _ _ _ _ hij hx hy => h.at hij hx hy
theorem Ris.inj (h : Ris f l) (hx : x ∈ l) (hy : y ∈ l) (e : f x = f y) : x = y := by
  obtain ⟨i, hi⟩ := List.mem_iff_getElem?.1 hx
  obtain ⟨j, hj⟩ := List.mem_iff_getElem?.1 hy
  rcases Nat.lt_trichotomy i j with h1 | h1 | h1
  · have := h.at h1 hi hj; omega
  · subst h1; rw [hi] at hj; exact Option.some.inj hj
  · have := h.at h1 hj hi; omega
/-- The pairs side by side tell. -/
theorem ris_step (h : ∀ (t : Nat) (x y : α), l[t]? = some x → l[t + 1]? = some y → f x < f y) : Ris f l := by
  rw [← ris_iffK]
  revert h
  induction l with
  | nil => intro _; rfl
  | cons a l ih =>
    intro h
    cases l with
    | nil => rfl
    | cons b l =>
      rw [risK, Bool.and_eq_true, decide_eq_true_eq]
      exact ⟨h 0 a b rfl rfl, ih fun t x y hx hy => h (t + 1) x y (by simpa using hx) (by simpa using hy)⟩
theorem getK_iff (h : Ris f l) : getK f l k = some x ↔ x ∈ l ∧ f x = k := by
  constructor
  · intro hg
    exact ⟨List.mem_of_find?_eq_some hg, by simpa using List.find?_some hg⟩
  · rintro ⟨hm, rfl⟩
    unfold getK
    cases hg : l.find? fun y => decide (f y = f x) with
    | none =>
      have := List.find?_eq_none.1 hg x hm
      simp at this
    | some y =>
      have h1 := List.mem_of_find?_eq_some hg
      have h2 : f y = f x := by simpa using List.find?_some hg
      rw [h.inj h1 hm h2]
theorem getK_none : getK f l k = none ↔ ∀ x ∈ l, f x ≠ k := by
  unfold getK; rw [List.find?_eq_none]; simp
theorem getK_mem (h : getK f l k = some x) : x ∈ l ∧ f x = k := ⟨List.mem_of_find?_eq_some h, by simpa using List.find?_some h⟩
theorem hasK_get : hasK f l k = (getK f l k).isSome := by
  unfold hasK getK
  rw [Bool.eq_iff_iff, List.any_eq_true, List.find?_isSome]
theorem hasK_none (h : getK f l k = none) : hasK f l k = false := by rw [hasK_get, h]; rfl
theorem hasK_some (h : getK f l k = some x) : hasK f l k = true := by rw [hasK_get, h]; rfl
theorem pos_getK (h : Ris f l) (hg : getK f l k = some x) : l[posK f l k]? = some x := by
  obtain ⟨y, hy, he⟩ := posk_at h.asc (hasK_some hg)
  have := getK_mem hg
  rw [h.inj this.1 (List.mem_of_getElem? hy) (by omega)]; exact hy
/-- Where it would be: all ahead are less, all behind are not. -/
theorem pos_cut (h : Ris f l) : (∀ x ∈ l.take (posK f l k), f x < k) ∧ (∀ x ∈ l.drop (posK f l k), k ≤ f x) ∧ posK f l k ≤ l.length := by
  have hs : ∀ l : List α, Ris f l → (∀ x ∈ l.take (posK f l k), f x < k) ∧ (∀ x ∈ l.drop (posK f l k), k ≤ f x) ∧ posK f l k ≤ l.length := by
    intro l
    induction l with
    | nil => intro _; simp [posK]
    | cons a l ih =>
      intro h
      have hp := List.pairwise_cons.1 h
      by_cases ha : f a < k
      · have e : posK f (a :: l) k = posK f l k + 1 := by unfold posK; rw [List.takeWhile_cons, if_pos (by simpa using ha)]; simp
        obtain ⟨h1, h2, h3⟩ := ih hp.2
        rw [e]
        refine ⟨fun x hx => ?_, fun x hx => ?_, by simp; omega⟩
        · rw [List.take_succ_cons] at hx
          rcases List.mem_cons.1 hx with rfl | hx
          · exact ha
          · exact h1 x hx
        · rw [List.drop_succ_cons] at hx; exact h2 x hx
      · have e : posK f (a :: l) k = 0 := by unfold posK; rw [List.takeWhile_cons, if_neg (by simpa using ha)]; rfl
        rw [e]
        refine ⟨fun x hx => by simp at hx, fun x hx => ?_, Nat.zero_le _⟩
        rw [List.drop_zero] at hx
        rcases List.mem_cons.1 hx with rfl | hx
        · omega
        · have := hp.1 x hx; omega
  exact hs l h
/-- One more, put where it belongs. -/
def insK (f : α → Int) (l : List α) (z : α) : List α := l.take (posK f l (f z)) ++ [z] ++ l.drop (posK f l (f z))
theorem mem_insK : y ∈ insK f l z ↔ y = z ∨ y ∈ l := by
  unfold insK
  have : y ∈ l ↔ y ∈ l.take (posK f l (f z)) ∨ y ∈ l.drop (posK f l (f z)) := by
    conv => lhs; rw [← List.take_append_drop (posK f l (f z)) l]
    exact List.mem_append
  rw [this]
  simp only [List.mem_append, List.mem_singleton]
  constructor
  · rintro ((h | h) | h)
    · exact .inr (.inl h)
    · exact .inl h
    · exact .inr (.inr h)
  · rintro (h | h | h)
    · exact .inl (.inr h)
    · exact .inl (.inl h)
    · exact .inr h
theorem ris_insK (h : Ris f l) (hn : getK f l (f z) = none) : Ris f (insK f l z) := by
  obtain ⟨h1, h2, _⟩ := pos_cut (k := f z) h
  have hp := h
  unfold Ris at hp
  rw [← List.take_append_drop (posK f l (f z)) l, List.pairwise_append] at hp
  unfold insK Ris
  rw [List.append_assoc, List.pairwise_append, List.pairwise_append]
  refine ⟨hp.1, ⟨by simp, hp.2.1, fun a ha b hb => ?_⟩, fun a ha b hb => ?_⟩
  · rcases List.mem_singleton.1 ha with rfl
    have h3 := h2 b hb
    have h4 := getK_none.1 hn b (List.mem_of_mem_drop hb)
    omega
  · rcases List.mem_append.1 hb with hb | hb
    · rcases List.mem_singleton.1 hb with rfl; exact h1 a ha
    · exact hp.2.2 a ha b hb
/-- One in the place of another. -/
def putK (f : α → Int) (l : List α) (z : α) : List α := l.set (posK f l (f z)) z
theorem mem_putK (h : Ris f l) (hg : getK f l (f z) = some x) : y ∈ putK f l z ↔ y = z ∨ (y ∈ l ∧ f y ≠ f z) := by
  have hx := pos_getK h hg
  have hlt := (List.getElem?_eq_some_iff.1 hx).1
  have hfx := (getK_mem hg).2
  unfold putK
  constructor
  · intro hy
    obtain ⟨i, hi⟩ := List.mem_iff_getElem?.1 hy
    by_cases e : posK f l (f z) = i
    · subst e; rw [List.getElem?_set_self hlt] at hi; exact .inl (Option.some.inj hi).symm
    · rw [List.getElem?_set_ne e] at hi
      refine .inr ⟨List.mem_of_getElem? hi, fun e2 => e ?_⟩
      rcases Nat.lt_trichotomy (posK f l (f z)) i with h1 | h1 | h1
      · have := h.at h1 hx hi; omega
      · exact h1
      · have := h.at h1 hi hx; omega
  · rintro (rfl | ⟨hy, hne⟩)
    · exact List.mem_iff_getElem?.2 ⟨_, List.getElem?_set_self hlt⟩
    · obtain ⟨i, hi⟩ := List.mem_iff_getElem?.1 hy
      have e : posK f l (f z) ≠ i := fun e => by subst e; rw [hx] at hi; cases hi; exact hne hfx
      exact List.mem_iff_getElem?.2 ⟨i, by rw [List.getElem?_set_ne e]; exact hi⟩
theorem ris_putK (h : Ris f l) (hg : getK f l (f z) = some x) : Ris f (putK f l z) := by
  have hx := pos_getK h hg
  have hlt := (List.getElem?_eq_some_iff.1 hx).1
  have hfx := (getK_mem hg).2
  refine ris_step fun t a b ha hb => ?_
  unfold putK at ha hb
  by_cases e1 : posK f l (f z) = t
  · subst e1
    rw [List.getElem?_set_self hlt] at ha
    rw [List.getElem?_set_ne (by omega)] at hb
    cases ha
    have := h.at (Nat.lt_succ_self _) hx hb; omega
  · rw [List.getElem?_set_ne e1] at ha
    by_cases e2 : posK f l (f z) = t + 1
    · rw [← e2, List.getElem?_set_self hlt] at hb
      cases hb
      have := h.at (j := posK f l (f z)) (by omega) ha hx; omega
    · rw [List.getElem?_set_ne e2] at hb
      exact h.at (Nat.lt_succ_self _) ha hb
/-- One left out. -/
def delK (f : α → Int) (l : List α) (k : Int) : List α := l.take (posK f l k) ++ l.drop (posK f l k + 1)
theorem delK_filter (h : Ris f l) (hg : getK f l k = some x) : delK f l k = l.filter fun y => !decide (f y = k) := by
  have hx := pos_getK h hg
  have hfx := (getK_mem hg).2
  obtain ⟨h1, h2, h3⟩ := pos_cut (k := k) h
  have hlt := (List.getElem?_eq_some_iff.1 hx).1
  unfold delK
  conv => rhs; rw [← List.take_append_drop (posK f l k) l]
  rw [List.filter_append]
  have a1 : (l.take (posK f l k)).filter (fun y => !decide (f y = k)) = l.take (posK f l k) := by
    rw [List.filter_eq_self]; intro y hy; have := h1 y hy; simp; omega
  have e : l.drop (posK f l k) = x :: l.drop (posK f l k + 1) := by
    obtain ⟨hlt, e⟩ := List.getElem?_eq_some_iff.1 hx
    rw [← e]; exact List.drop_eq_getElem_cons hlt
  have a2 : (l.drop (posK f l k + 1)).filter (fun y => !decide (f y = k)) = l.drop (posK f l k + 1) := by
    rw [List.filter_eq_self]; intro y hy
    have hp := h
    unfold Ris at hp
    rw [← List.take_append_drop (posK f l k) l, List.pairwise_append, e] at hp
    have := (List.pairwise_cons.1 hp.2.1).1 y hy
    simp; omega
  rw [a1, e, List.filter_cons, if_neg (by simp [hfx]), a2]
theorem mem_delK (h : Ris f l) (hg : getK f l k = some x) : y ∈ delK f l k ↔ y ∈ l ∧ f y ≠ k := by
  rw [delK_filter h hg, List.mem_filter]; simp
theorem ris_delK (h : Ris f l) (hg : getK f l k = some x) : Ris f (delK f l k) := by
  rw [delK_filter h hg]; exact List.Pairwise.filter _ h
theorem Ris.filter (h : Ris f l) (p : α → Bool) : Ris f (l.filter p) := List.Pairwise.filter _ h
/-- Rows by rising keys are told by what is in them. -/
theorem ris_ext : ∀ {l l' : List α}, Ris f l → Ris f l' → (∀ x, x ∈ l ↔ x ∈ l') → l = l'
  | [], [], _, _, _ => rfl
  | [], b :: l', _, _, h => by have := (h b).2 (List.mem_cons_self ..); cases this
  | a :: l, [], _, _, h => by have := (h a).1 (List.mem_cons_self ..); cases this
  | a :: l, b :: l', h1, h2, h => by
    have p1 := List.pairwise_cons.1 h1
    have p2 := List.pairwise_cons.1 h2
    have e : a = b := by
      rcases List.mem_cons.1 ((h a).1 (List.mem_cons_self ..)) with e | ha
      · exact e
      · rcases List.mem_cons.1 ((h b).2 (List.mem_cons_self ..)) with e | hb
        · exact e.symm
        · have := p2.1 a ha; have := p1.1 b hb; omega
    subst e
    congr 1
    refine ris_ext p1.2 p2.2 fun x => ?_
    constructor
    · intro hx
      rcases List.mem_cons.1 ((h x).1 (List.mem_cons_of_mem _ hx)) with e | hx'
      · subst e; have := p1.1 x hx; omega
      · exact hx'
    · intro hx
      rcases List.mem_cons.1 ((h x).2 (List.mem_cons_of_mem _ hx)) with e | hx'
      · subst e; have := p2.1 x hx; omega
      · exact hx'
/-- Rows whose keys are between bounds are no more than there are keys. -/
theorem risK_len : ∀ (l : List α) (lo hi : Int), Ris f l → (∀ x ∈ l, lo ≤ f x ∧ f x ≤ hi) → lo ≤ hi + 1 → (l.length : Int) ≤ hi - lo + 1
  | [], lo, hi, _, _, h => by simp; omega
  | a :: l, lo, hi, h, hb, hlh => by
    have p := List.pairwise_cons.1 h
    have ha := hb a (List.mem_cons_self ..)
    have := risK_len l (f a + 1) hi p.2 (fun x hx => ⟨by have := p.1 x hx; omega, (hb x (List.mem_cons_of_mem _ hx)).2⟩) (by omega)
    simp only [List.length_cons]; omega
end
end Go.Proofs.Ytnoefldpkfpglaa

/-! Domains and their virtual CPUs: what they are; plain. -/
namespace Go.Proofs.Ytnoefldpkfpglaa
open Go Go.RowKit

structure Dom where
  id : Int
  weight : Int
  cap : Int
  pool : Int
deriving DecidableEq
def Dom.enc (x : Dom) : List Value := [.int .i64 x.id, .int .i64 x.weight, .int .i64 x.cap, .int .i64 x.pool]
instance : Enc Dom := ⟨Dom.enc, 4, fun _ => rfl, fun x v h => by simp [Dom.enc] at h; rcases h with rfl | rfl | rfl | rfl <;> rfl, by decide⟩
structure Vcp where
  id : Int
  dom : Int
  hard : Int
  soft : Int
deriving DecidableEq
def Vcp.enc (x : Vcp) : List Value := [.int .i64 x.id, .int .i64 x.dom, .int .u32 x.hard, .int .u32 x.soft]
instance : Enc Vcp := ⟨Vcp.enc, 4, fun _ => rfl, fun x v h => by simp [Vcp.enc] at h; rcases h with rfl | rfl | rfl | rfl <;> rfl, by decide⟩
/-- What is left of a set's word without the eight bits of the pCPUs. -/
def clrI (s : Int) : Int := IntKind.u32.wrap (((BitVec.ofInt 32 s) &&& ~~~(BitVec.ofInt 32 255)).toNat : Int)
theorem clr_iff {s : Int} (h0 : 0 ≤ s) (h1 : s < 4294967296) : clrI s = 0 ↔ s < 256 := by
  obtain ⟨n, rfl⟩ : ∃ n : Nat, s = n := ⟨s.toNat, by omega⟩
  have hb : (BitVec.ofInt 32 (n : Int)) = BitVec.ofNat 32 n := by simp
  have e : (BitVec.ofNat 32 n &&& ~~~(BitVec.ofInt 32 255)) = (BitVec.ofNat 32 n >>> 8) <<< 8 := by
    apply BitVec.eq_of_getLsbD_eq
    intro i hi
    have : ∀ i : Fin 32, (BitVec.ofInt 32 255).getLsbD i = decide ((i : Nat) < 8) := by decide
    have h2 := this ⟨i, hi⟩
    simp only at h2
    rw [BitVec.getLsbD_and, BitVec.getLsbD_not, h2, BitVec.getLsbD_shiftLeft, BitVec.getLsbD_ushiftRight]
    by_cases h8 : i < 8
    · simp [h8]
    · simp [h8, hi, show 8 + (i - 8) = i by omega]
  unfold clrI
  rw [hb, e]
  have hn : n < 4294967296 := by omega
  have ht : ((BitVec.ofNat 32 n >>> 8) <<< 8).toNat = n / 256 * 256 := by
    rw [BitVec.toNat_shiftLeft, BitVec.toNat_ushiftRight, BitVec.toNat_ofNat, Nat.shiftRight_eq_div_pow, Nat.shiftLeft_eq, Nat.mod_eq_of_lt (by omega : n < 2 ^ 32)]
    have : n / 2 ^ 8 * 2 ^ 8 ≤ n := Nat.div_mul_le_self n _
    rw [Nat.mod_eq_of_lt (by omega)]
  rw [ht]
  have hw : IntKind.u32.wrap ((n / 256 * 256 : Nat) : Int) = ((n / 256 * 256 : Nat) : Int) := wrap_fit ⟨by simp only [kmin]; omega, by simp only [kmax]; omega⟩
  rw [hw]
  omega
/-- May this be a mask? -/
def maskB (h s : Int) : Bool := decide (clrI h = 0) && decide (clrI s = 0) && !decide (h = 0)
def mayB (d : Dom) : Bool := decide (1 ≤ d.id ∧ d.id ≤ 8 ∧ 1 ≤ d.weight ∧ d.weight ≤ 65535 ∧ 0 ≤ d.cap ∧ d.cap ≤ 800 ∧ 0 ≤ d.pool ∧ d.pool < 4)
def cntV (vs : List Vcp) (k : Int) : Nat := (vs.filter fun v => decide (v.dom = k)).length
def dmayB (vs : List Vcp) (d : Dom) : Bool := mayB d && decide (cntV vs d.id ≤ 8)
def vmayB (ds : List Dom) (v : Vcp) : Bool := decide (1 ≤ v.id ∧ v.id ≤ 16) && maskB v.hard v.soft && hasK Dom.id ds v.dom
/-- May guests be? -/
def guestsB (ds : List Dom) (vs : List Vcp) : Bool := risK Dom.id ds && risK Vcp.id vs && ds.all (dmayB vs) && vs.all (vmayB ds)
section
variable {ds : List Dom} {vs : List Vcp} {k : Int} {d : Dom} {v : Vcp} {j : Nat}
theorem cnt_on (hx : vs[j]? = some v) : cntV (vs.take (j + 1)) k = cntV (vs.take j) k + if v.dom = k then 1 else 0 := by
  unfold cntV
  rw [List.take_add_one, hx]
  by_cases h : v.dom = k <;> simp [h]
theorem cnt_le : cntV vs k ≤ vs.length := List.length_filter_le ..
/-- Guests that may be, told. -/
structure GoodG (ds : List Dom) (vs : List Vcp) : Prop where
  dr : Ris Dom.id ds
  vr : Ris Vcp.id vs
  dm : ∀ d ∈ ds, mayB d = true ∧ cntV vs d.id ≤ 8
  vm : ∀ v ∈ vs, 1 ≤ v.id ∧ v.id ≤ 16 ∧ maskB v.hard v.soft = true ∧ ∃ d ∈ ds, d.id = v.dom
theorem guests_iff : guestsB ds vs = true ↔ GoodG ds vs := by
  unfold guestsB
  simp only [Bool.and_eq_true, List.all_eq_true, ris_iffK, dmayB, vmayB, decide_eq_true_eq]
  have hk : ∀ v : Vcp, hasK Dom.id ds v.dom = true ↔ ∃ d ∈ ds, d.id = v.dom := fun v => by unfold hasK; rw [List.any_eq_true]; simp
  constructor
  · rintro ⟨⟨⟨a, b⟩, c⟩, e⟩
    exact ⟨a, b, c, fun v hv => ⟨(e v hv).1.1.1, (e v hv).1.1.2, (e v hv).1.2, (hk v).1 (e v hv).2⟩⟩
  · rintro ⟨a, b, c, e⟩
    exact ⟨⟨⟨a, b⟩, c⟩, fun v hv => ⟨⟨⟨(e v hv).1, (e v hv).2.1⟩, (e v hv).2.2.1⟩, (hk v).2 (e v hv).2.2.2⟩⟩
theorem GoodG.dl (h : GoodG ds vs) : ds.length ≤ 8 := by
  have := risK_len ds 1 8 h.dr (fun d hd => by have := (h.dm d hd).1; unfold mayB at this; simp only [decide_eq_true_eq] at this; omega) (by omega)
  omega
theorem GoodG.vl (h : GoodG ds vs) : vs.length ≤ 16 := by
  have := risK_len vs 1 16 h.vr (fun v hv => ⟨(h.vm v hv).1, (h.vm v hv).2.1⟩) (by omega)
  omega
end
end Go.Proofs.Ytnoefldpkfpglaa

/-! Domains: the small ones. -/
namespace Go.Proofs.Ytnoefldpkfpglaa
open Go Go.RowKit
def cmpI (a b : Int) : Int := if a < b then -1 else if a > b then 1 else 0
theorem cmpI_iff (a b : Int) : (cmpI a b < 0 ↔ a < b) ∧ (cmpI a b = 0 ↔ a = b) := by unfold cmpI; constructor <;> constructor <;> intro h <;> (repeat' split at h) <;> (repeat' split) <;> omega
theorem rd_one' {w : World} {g : Nat} {v : Value} {T : TypeId} {f : Nat × Nat} (h : w.heap[g]? = some (.cells #[v] T f)) : Rd w g (0 + 0 * 1) [v] := fun j u hj => by
  match j, hj with
  | 0, hj => rw [show (⟨g, 0 + 0 * 1 + 0, none⟩ : Addr) = ⟨g, 0, none⟩ from rfl, cell_own h]; simpa using hj

set_option maxRecDepth 100000 in
theorem whoid_d (x : Dom) (w : World)
    : Calls Try.prog 70 #[.agg #[.int .i64 x.id, .int .i64 x.weight, .int .i64 x.cap, .int .i64 x.pool]] w fun e w' => e = .returned (.int .i64 x.id) ∧ Below w.heap.size w w' := by
  refine enter (Hs.start w) Try.func70 rfl Try.ntmps70 rfl (sq_ (ma0 [] [] (fun γ1 => [(1, .pointer (some ⟨γ1 0, 0, none⟩))]) (fun γ1 L => bx (γ1 0) (#[.int .i64 x.id, .int .i64 x.weight, .int .i64 x.cap, .int .i64 x.pool]) 96 :: L) (fun γ1 => ds_ (sq_ (qa0 [(1, .go (owns 0 0 1))] [] [(2, .int .i64 x.id)] (ds_ (rt ([]) (.int .i64 x.id) ?_)))))))
  exact fun w' hw => ⟨rfl, hw.below⟩

set_option maxRecDepth 100000 in
theorem did_d (x : Dom) (w : World)
    : Calls Try.prog 42 #[.agg #[.int .i64 x.id, .int .i64 x.weight, .int .i64 x.cap, .int .i64 x.pool]] w fun e w' => e = .returned (.int .i64 x.id) ∧ Below w.heap.size w w' := by
  refine enter (Hs.start w) Try.func42 rfl Try.ntmps42 rfl (sq_ (ma0 [] [] (fun γ1 => [(1, .pointer (some ⟨γ1 0, 0, none⟩))]) (fun γ1 L => bx (γ1 0) (#[.int .i64 x.id, .int .i64 x.weight, .int .i64 x.cap, .int .i64 x.pool]) 32 :: L) (fun γ1 => ds_ (sq_ (ao_ (qo0 1 [(0, .go (owns 0 0 4))] [] [(3, .agg #[.int .i64 x.id, .int .i64 x.weight, .int .i64 x.cap, .int .i64 x.pool])] (cD (.int .i64 x.id) Try.call70 (fun w hw => whoid_d x w) (qo0 1 [] [] [(2, .int .i64 x.id)] (on_ (ds_ (rt ([]) (.int .i64 x.id) ?_)))))))))))
  exact fun w' hw => ⟨rfl, hw.below⟩

set_option maxRecDepth 100000 in
theorem whichid_d (x : Vcp) (w : World)
    : Calls Try.prog 71 #[.agg #[.int .i64 x.id, .int .i64 x.dom, .int .u32 x.hard, .int .u32 x.soft]] w fun e w' => e = .returned (.int .i64 x.id) ∧ Below w.heap.size w w' := by
  refine enter (Hs.start w) Try.func71 rfl Try.ntmps71 rfl (sq_ (ma0 [] [] (fun γ1 => [(1, .pointer (some ⟨γ1 0, 0, none⟩))]) (fun γ1 L => bx (γ1 0) (#[.int .i64 x.id, .int .i64 x.dom, .int .u32 x.hard, .int .u32 x.soft]) 98 :: L) (fun γ1 => ds_ (sq_ (qa0 [(1, .go (owns 0 0 1))] [] [(2, .int .i64 x.id)] (ds_ (rt ([]) (.int .i64 x.id) ?_)))))))
  exact fun w' hw => ⟨rfl, hw.below⟩

set_option maxRecDepth 100000 in
theorem vid_d (x : Vcp) (w : World)
    : Calls Try.prog 44 #[.agg #[.int .i64 x.id, .int .i64 x.dom, .int .u32 x.hard, .int .u32 x.soft]] w fun e w' => e = .returned (.int .i64 x.id) ∧ Below w.heap.size w w' := by
  refine enter (Hs.start w) Try.func44 rfl Try.ntmps44 rfl (sq_ (ma0 [] [] (fun γ1 => [(1, .pointer (some ⟨γ1 0, 0, none⟩))]) (fun γ1 L => bx (γ1 0) (#[.int .i64 x.id, .int .i64 x.dom, .int .u32 x.hard, .int .u32 x.soft]) 43 :: L) (fun γ1 => ds_ (sq_ (ao_ (qo0 1 [(0, .go (owns 0 0 4))] [] [(3, .agg #[.int .i64 x.id, .int .i64 x.dom, .int .u32 x.hard, .int .u32 x.soft])] (cD (.int .i64 x.id) Try.call71 (fun w hw => whichid_d x w) (qo0 1 [] [] [(2, .int .i64 x.id)] (on_ (ds_ (rt ([]) (.int .i64 x.id) ?_)))))))))))
  exact fun w' hw => ⟨rfl, hw.below⟩

set_option maxRecDepth 100000 in
theorem isnan_d (a : Int) (w : World)
    : Calls Try.prog 82 #[.int .i64 a] w fun e w' => e = .returned (.bool false) ∧ Below w.heap.size w w' := by
  refine enter (Hs.start w) Try.func82 rfl Try.ntmps82 rfl (sq_ (qa0 [] [0] [] (ds_ (sq_ (qa [(2, .no)] [] [(2, .bool false)] ([¬ ((a : Int) ≠ (a : Int))]) (al1 ((fun h => h rfl))) (ds_ (rt ([]) (.bool false) ?_)))))))
  exact fun w' hw => ⟨rfl, hw.below⟩

set_option maxRecDepth 100000 in
theorem cmp_d (a b : Int) (w : World)
    : Calls Try.prog 74 #[.int .i64 a, .int .i64 b] w fun e w' => e = .returned (.int .i64 (cmpI a b)) ∧ Below w.heap.size w w' := by
  refine enter (Hs.start w) Try.func74 rfl Try.ntmps74 rfl (sq_ (qa0 [] [0, 1] [] (ds_ (sq_ (ao_ (qo0 1 [] [0, 1] [(7, .int .i64 a)] (cD (.bool false) Try.call82 (fun w hw => isnan_d a w) (qo0 1 [] [0, 1] [(5, .bool false)] (on_ (ds_ (sq_ (ao_ (qo0 1 [] [0, 1, 5] [(9, .int .i64 b)] (cD (.bool false) Try.call82 (fun w hw => isnan_d b w) (qo0 1 [] [0, 1, 5] [(6, .bool false)] (on_ (ds_ (sq_ (sq_ (qa0 [] [0, 1, 6] [(11, .bool false)] (ds_ (f_ (at_skip (ds_ (sq_ (sq_ (qa0 [] [0, 1] [(13, .bool false)] (ds_ (f_ (at_skip (ds_ (sq_ (sq_ ?_)))))))))))))))))))))))))))))))))
  by_cases q9 : (a : Int) < (b : Int)
  ·
    refine qa [(2, .yes)] [0, 1] [(16, .bool true)] ([(a : Int) < (b : Int)]) (al1 q9) (ds_ (t_ (sq_ (qa0 [] [] [(4, .int .i64 (-1))] (ds_ (rt ([]) (.int .i64 (-1)) ?_))))))
    exact fun w' hw => ⟨by rw [show cmpI a b = -1 from by simp only [cmpI, if_pos q9]], hw.below⟩
  ·
    refine qa [(2, .no)] [0, 1] [(16, .bool false)] ([¬ ((a : Int) < (b : Int))]) (al1 q9) (ds_ (f_ (at_skip (ds_ (sq_ (sq_ ?_))))))
    by_cases q14 : (a : Int) > (b : Int)
    ·
      refine qa [(2, .yes)] [] [(19, .bool true)] ([(a : Int) > (b : Int)]) (al1 q14) (ds_ (t_ (sq_ (qa0 [] [] [(4, .int .i64 1)] (ds_ (rt ([]) (.int .i64 1) ?_))))))
      exact fun w' hw => ⟨by rw [show cmpI a b = 1 from by simp only [cmpI, if_neg q9, if_pos q14]], hw.below⟩
    ·
      refine qa [(2, .no)] [] [(19, .bool false)] ([¬ ((a : Int) > (b : Int))]) (al1 q14) (ds_ (f_ (at_skip (ds_ (sq_ (qa0 [] [] [(4, .int .i64 0)] (ds_ (rt ([]) (.int .i64 0) ?_))))))))
      exact fun w' hw => ⟨by rw [show cmpI a b = 0 from by simp only [cmpI, if_neg q9, if_neg q14]], hw.below⟩

set_option maxRecDepth 100000 in
theorem pl1d_d (x : Dom) (k : Int) (g : Nat) (w : World)
    (hk : Rd w g (0 + 0 * 1) [.func (.func 42) #[] #[]])
    : Calls Try.prog 73 #[.agg #[.int .i64 x.id, .int .i64 x.weight, .int .i64 x.cap, .int .i64 x.pool], .int .i64 k, .pointer (some ⟨g, 0 + 0 * 1, none⟩)] w fun e w' => e = .returned (.int .i64 (cmpI x.id k)) ∧ Below w.heap.size w w' := by
  refine enter (Hs.start w) Try.func73 rfl Try.ntmps73 rfl (sq_ (ma0 [] [1, 2] (fun γ1 => [(3, .pointer (some ⟨γ1 0, 0, none⟩))]) (fun γ1 L => bx (γ1 0) (#[.int .i64 x.id, .int .i64 x.weight, .int .i64 x.cap, .int .i64 x.pool]) 32 :: L) (fun γ1 => ds_ (sq_ (ao_ (qo 2 [(0, .go (outs g (0 + 0 * 1) [.func (.func 42) #[] #[]])), (1, .go (owns 0 0 4))] [1] [(6, .func (.func 42) #[] #[]), (7, .agg #[.int .i64 x.id, .int .i64 x.weight, .int .i64 x.cap, .int .i64 x.pool])] (cellsP w g (0 + 0 * 1) [.func (.func 42) #[] #[]]) (rd_pre hk _ rfl) (cD (.int .i64 x.id) Try.call42 (fun w hw => did_d x w) (qo0 1 [] [8] [(9, .int .i64 k)] (cD (.int .i64 (cmpI x.id k)) Try.call74 (fun w hw => cmp_d x.id k w) (qo0 1 [] [] [(5, .int .i64 (cmpI x.id k))] (on_ (ds_ (rt ([]) (.int .i64 (cmpI x.id k)) ?_)))))))))))))
  exact fun w' hw => ⟨rfl, hw.below⟩

set_option maxRecDepth 100000 in
theorem pl1v_d (x : Vcp) (k : Int) (g : Nat) (w : World)
    (hk : Rd w g (0 + 0 * 1) [.func (.func 44) #[] #[]])
    : Calls Try.prog 79 #[.agg #[.int .i64 x.id, .int .i64 x.dom, .int .u32 x.hard, .int .u32 x.soft], .int .i64 k, .pointer (some ⟨g, 0 + 0 * 1, none⟩)] w fun e w' => e = .returned (.int .i64 (cmpI x.id k)) ∧ Below w.heap.size w w' := by
  refine enter (Hs.start w) Try.func79 rfl Try.ntmps79 rfl (sq_ (ma0 [] [1, 2] (fun γ1 => [(3, .pointer (some ⟨γ1 0, 0, none⟩))]) (fun γ1 L => bx (γ1 0) (#[.int .i64 x.id, .int .i64 x.dom, .int .u32 x.hard, .int .u32 x.soft]) 43 :: L) (fun γ1 => ds_ (sq_ (ao_ (qo 2 [(0, .go (outs g (0 + 0 * 1) [.func (.func 44) #[] #[]])), (1, .go (owns 0 0 4))] [1] [(6, .func (.func 44) #[] #[]), (7, .agg #[.int .i64 x.id, .int .i64 x.dom, .int .u32 x.hard, .int .u32 x.soft])] (cellsP w g (0 + 0 * 1) [.func (.func 44) #[] #[]]) (rd_pre hk _ rfl) (cD (.int .i64 x.id) Try.call44 (fun w hw => vid_d x w) (qo0 1 [] [8] [(9, .int .i64 k)] (cD (.int .i64 (cmpI x.id k)) Try.call74 (fun w hw => cmp_d x.id k w) (qo0 1 [] [] [(5, .int .i64 (cmpI x.id k))] (on_ (ds_ (rt ([]) (.int .i64 (cmpI x.id k)) ?_)))))))))))))
  exact fun w' hw => ⟨rfl, hw.below⟩

set_option maxRecDepth 100000 in
theorem bsd (g : FuncId) (cb : Array Value) (p : Option Addr) (n cap : Nat) (l : List Dom) (f c : Dom → Int) (k : Int) (w : World)
    (hg : ∀ args w, (callFunc g args).run Try.prog w = .ok (.enter g args) w)
    (hsl : Sv w p l) (hn : n = l.length) (hb : n ≤ 4611686018427387903)
    (hc : ∀ x ∈ l, ∀ w', Below w.heap.size w w' → Calls Try.prog g (#[.agg #[.int .i64 x.id, .int .i64 x.weight, .int .i64 x.cap, .int .i64 x.pool], .int .i64 k] ++ cb) w' fun e w1 => e = .returned (.int .i64 (c x)) ∧ Below w'.heap.size w' w1)
    (hs : ∀ x ∈ l, (c x < 0 ↔ f x < k) ∧ (c x = 0 ↔ f x = k)) (ha : AscK f l)
    : Calls Try.prog 72 #[.slice p n cap, .int .i64 k, .func (.func g) #[] cb] w fun e w' => e = .returned (.tuple #[.int .i64 (posK f l k : Nat), .bool (hasK f l k)]) ∧ Below w.heap.size w w' := by
  refine enter (Hs.start w) Try.func72 rfl Try.ntmps72 rfl (sq_ (qa0 [] [0, 1, 2] [] (ds_ (sq_ (qa0 [] [0, 1, 2] [(8, .int .i64 ((n : Nat)))] (ds_ (sq_ (qa0 [] [0, 1, 2, 8] [(9, .int .i64 0), (10, .int .i64 ((n : Nat)))] (ds_ (sq_ (at_block (at_loop (α := Nat × Nat) [0, 1, 2, 8, 9, 10] (fun ⟨lo, hi⟩ => [(0, .slice p n cap), (1, .int .i64 k), (2, .func (.func g) #[] cb), (8, .int .i64 ((n : Nat))), (9, .int .i64 ((lo : Nat))), (10, .int .i64 ((hi : Nat)))]) (fun ⟨lo, hi⟩ => []) (fun ⟨lo, hi⟩ => lo ≤ hi ∧ hi ≤ n ∧ BsK f l k lo hi) (fun ⟨lo, hi⟩ => hi - lo) (0, n) (by kernel_rfl) rfl ⟨Nat.zero_le _, Nat.le_refl _, by subst hn; exact bsk_start⟩ ?_))))))))))))
  rintro ⟨lo, hi⟩
  rintro ⟨h1, h2, hI⟩
  refine sq_ (sq_ ?_)
  by_cases q5 : ((lo : Nat) : Int) < ((hi : Nat) : Int)
  ·
    refine qa [(2, .yes)] [0, 1, 2, 8, 9, 10] [(17, .bool true)] ([((lo : Nat) : Int) < ((hi : Nat) : Int)]) (al1 q5) (ds_ (t_ (at_skip (ds_ (at_block (sq_ (qa [(2, .fit), (3, .fit), (4, .is [] (.int .u64 ((lo + hi) / 2 : Nat))), (5, .fit)] [0, 1, 2, 8, 9, 10] [(11, .int .i64 (((lo + hi) / 2 : Nat)))] ([Fit .i64 ((lo + hi : Nat))] ++ ([Fit .u64 ((lo + hi : Nat))] ++ ([Value.int .u64 (Int.fdiv ((lo : Nat) + (hi : Nat)) (2 ^ 1)) = .int .u64 (((lo + hi) / 2 : Nat) : Int)] ++ ([Fit .i64 (((lo + hi) / 2 : Nat))])))) (alA (al1 (fit64 (by omega) (by omega))) (alA (al1 (fitU (by omega) (by omega))) (alA (al1 (half lo hi)) (al1 (fit64 (by omega) (by omega)))))) (ds_ (sq_ ?_)))))))))
    obtain ⟨b9, o9, rfl⟩ := hsl.pos (i := (lo + hi) / 2) (by omega)
    obtain ⟨x11, hx11⟩ := get_some (l := l) (m := (lo + hi) / 2) (by omega)
    refine ao_ (qo 6 [(3, .at b9 o9 ((lo + hi) / 2)), (4, .go (outs b9 (o9 + ((lo + hi) / 2) * 4) [.int .i64 x11.id, .int .i64 x11.weight, .int .i64 x11.cap, .int .i64 x11.pool]))] [0, 1, 2, 8, 9, 10, 11] [(24, .func (.func g) #[] cb), (28, .agg #[.int .i64 x11.id, .int .i64 x11.weight, .int .i64 x11.cap, .int .i64 x11.pool]), (29, .int .i64 k)] ([(some ⟨b9, o9, none⟩ : Option Addr) = some ⟨b9, o9, none⟩, (((lo + hi) / 2 : Nat)) = (((lo + hi) / 2 : Nat) : Int), (lo + hi) / 2 < n] ++ (cellsP w b9 (o9 + ((lo + hi) / 2) * 4) [.int .i64 x11.id, .int .i64 x11.weight, .int .i64 x11.cap, .int .i64 x11.pool])) (alA (al2 rfl (al2 rfl (al1 (by omega)))) (rd_pre (hsl.get hx11) _ rfl)) (cD (.int .i64 (c x11)) hg (fun w hw => hc x11 (List.mem_of_getElem? hx11) w hw.below) ?_))
    by_cases q14 : (c x11 : Int) < (0 : Int)
    ·
      refine qo 1 [(7, .yes)] [0, 1, 2, 8, 9, 10, 11] [(31, .bool true)] ([(c x11 : Int) < (0 : Int)]) (al1 q14) (on_ (ds_ (t_ (qa [(1, .fit)] [0, 1, 2, 8, 10] [(9, .int .i64 (((lo + hi) / 2 + 1 : Nat)))] ([Fit .i64 (((lo + hi) / 2 + 1 : Nat))]) (al1 (fit64 (by omega) (by omega))) (done_block ?_)))))
      exact dr [0, 1, 2, 8, 9, 10] ((lo + hi) / 2 + 1, hi) ⟨by omega, by omega, bsk_low hI ha hx11 ((hs x11 (List.mem_of_getElem? hx11)).1.1 q14)⟩
    ·
      refine qo 1 [(7, .no)] [0, 1, 2, 8, 9, 10, 11] [(31, .bool false)] ([¬ ((c x11 : Int) < (0 : Int))]) (al1 q14) (on_ (ds_ (f_ (qa0 [] [0, 1, 2, 8, 9] [(10, .int .i64 (((lo + hi) / 2 : Nat)))] (done_block ?_)))))
      exact dr [0, 1, 2, 8, 9, 10] (lo, (lo + hi) / 2) ⟨by omega, by omega, bsk_high hI ha hx11 (fun h => q14 ((hs x11 (List.mem_of_getElem? hx11)).1.2 h))⟩
  ·
    refine qa [(2, .no)] [0, 1, 2, 8, 9, 10] [(17, .bool false)] ([¬ (((lo : Nat) : Int) < ((hi : Nat) : Int))]) (al1 q5) (ds_ (f_ (at_leave _ rfl (ds_ (sq_ ?_)))))
    by_cases q21 : ((lo : Nat) : Int) < ((n : Nat) : Int)
    ·
      obtain ⟨b23, o23, rfl⟩ := hsl.pos (i := lo) (by omega)
      obtain ⟨x25, hx25⟩ := get_some (l := l) (m := lo) (by omega)
      refine ao_ (qo 11 [(3, .yes), (8, .at b23 o23 lo), (9, .go (outs b23 (o23 + lo * 4) [.int .i64 x25.id, .int .i64 x25.weight, .int .i64 x25.cap, .int .i64 x25.pool]))] [] [(35, .int .i64 ((lo : Nat))), (39, .bool true), (40, .func (.func g) #[] cb), (44, .agg #[.int .i64 x25.id, .int .i64 x25.weight, .int .i64 x25.cap, .int .i64 x25.pool]), (45, .int .i64 k)] ([((lo : Nat) : Int) < ((n : Nat) : Int)] ++ ([(some ⟨b23, o23, none⟩ : Option Addr) = some ⟨b23, o23, none⟩, ((lo : Nat)) = ((lo : Nat) : Int), lo < n] ++ (cellsP w b23 (o23 + lo * 4) [.int .i64 x25.id, .int .i64 x25.weight, .int .i64 x25.cap, .int .i64 x25.pool]))) (alA (al1 q21) (alA (al2 rfl (al2 rfl (al1 (by omega)))) (rd_pre (hsl.get hx25) _ rfl))) (cD (.int .i64 (c x25)) hg (fun w hw => hc x25 (List.mem_of_getElem? hx25) w hw.below) ?_))
      by_cases q28 : (c x25 : Int) = (0 : Int)
      ·
        refine qo 4 [(12, .yes)] [] [(6, .int .i64 ((lo : Nat))), (7, .bool true)] ([(c x25 : Int) = (0 : Int)]) (al1 q28) (on_ (ds_ (rt ([]) (.tuple #[.int .i64 ((lo : Nat)), .bool true]) ?_)))
        exact fun w' hw => ⟨by rw [bsk_end hI (by omega) h1 (by omega), hask_found hx25 ((hs x25 (List.mem_of_getElem? hx25)).2.1 q28)], hw.below⟩
      ·
        refine qo 4 [(12, .no)] [] [(6, .int .i64 ((lo : Nat))), (7, .bool false)] ([¬ ((c x25 : Int) = (0 : Int))]) (al1 q28) (on_ (ds_ (rt ([]) (.tuple #[.int .i64 ((lo : Nat)), .bool false]) ?_)))
        exact fun w' hw => ⟨by rw [bsk_end hI (by omega) h1 (by omega), hask_other hI (by omega) h1 ha hx25 (fun h => q28 ((hs x25 (List.mem_of_getElem? hx25)).2.2 h))], hw.below⟩
    ·
      refine qa [(3, .no)] [] [(6, .int .i64 ((lo : Nat))), (7, .bool false)] ([¬ (((lo : Nat) : Int) < ((n : Nat) : Int))]) (al1 q21) (ds_ (rt ([]) (.tuple #[.int .i64 ((lo : Nat)), .bool false]) ?_))
      exact fun w' hw => ⟨by rw [bsk_end hI (by omega) h1 (by omega), hask_none hI (by omega) h1 (by omega)], hw.below⟩

set_option maxRecDepth 100000 in
theorem bsv (g : FuncId) (cb : Array Value) (p : Option Addr) (n cap : Nat) (l : List Vcp) (f c : Vcp → Int) (k : Int) (w : World)
    (hg : ∀ args w, (callFunc g args).run Try.prog w = .ok (.enter g args) w)
    (hsl : Sv w p l) (hn : n = l.length) (hb : n ≤ 4611686018427387903)
    (hc : ∀ x ∈ l, ∀ w', Below w.heap.size w w' → Calls Try.prog g (#[.agg #[.int .i64 x.id, .int .i64 x.dom, .int .u32 x.hard, .int .u32 x.soft], .int .i64 k] ++ cb) w' fun e w1 => e = .returned (.int .i64 (c x)) ∧ Below w'.heap.size w' w1)
    (hs : ∀ x ∈ l, (c x < 0 ↔ f x < k) ∧ (c x = 0 ↔ f x = k)) (ha : AscK f l)
    : Calls Try.prog 78 #[.slice p n cap, .int .i64 k, .func (.func g) #[] cb] w fun e w' => e = .returned (.tuple #[.int .i64 (posK f l k : Nat), .bool (hasK f l k)]) ∧ Below w.heap.size w w' := by
  refine enter (Hs.start w) Try.func78 rfl Try.ntmps78 rfl (sq_ (qa0 [] [0, 1, 2] [] (ds_ (sq_ (qa0 [] [0, 1, 2] [(8, .int .i64 ((n : Nat)))] (ds_ (sq_ (qa0 [] [0, 1, 2, 8] [(9, .int .i64 0), (10, .int .i64 ((n : Nat)))] (ds_ (sq_ (at_block (at_loop (α := Nat × Nat) [0, 1, 2, 8, 9, 10] (fun ⟨lo, hi⟩ => [(0, .slice p n cap), (1, .int .i64 k), (2, .func (.func g) #[] cb), (8, .int .i64 ((n : Nat))), (9, .int .i64 ((lo : Nat))), (10, .int .i64 ((hi : Nat)))]) (fun ⟨lo, hi⟩ => []) (fun ⟨lo, hi⟩ => lo ≤ hi ∧ hi ≤ n ∧ BsK f l k lo hi) (fun ⟨lo, hi⟩ => hi - lo) (0, n) (by kernel_rfl) rfl ⟨Nat.zero_le _, Nat.le_refl _, by subst hn; exact bsk_start⟩ ?_))))))))))))
  rintro ⟨lo, hi⟩
  rintro ⟨h1, h2, hI⟩
  refine sq_ (sq_ ?_)
  by_cases q5 : ((lo : Nat) : Int) < ((hi : Nat) : Int)
  ·
    refine qa [(2, .yes)] [0, 1, 2, 8, 9, 10] [(17, .bool true)] ([((lo : Nat) : Int) < ((hi : Nat) : Int)]) (al1 q5) (ds_ (t_ (at_skip (ds_ (at_block (sq_ (qa [(2, .fit), (3, .fit), (4, .is [] (.int .u64 ((lo + hi) / 2 : Nat))), (5, .fit)] [0, 1, 2, 8, 9, 10] [(11, .int .i64 (((lo + hi) / 2 : Nat)))] ([Fit .i64 ((lo + hi : Nat))] ++ ([Fit .u64 ((lo + hi : Nat))] ++ ([Value.int .u64 (Int.fdiv ((lo : Nat) + (hi : Nat)) (2 ^ 1)) = .int .u64 (((lo + hi) / 2 : Nat) : Int)] ++ ([Fit .i64 (((lo + hi) / 2 : Nat))])))) (alA (al1 (fit64 (by omega) (by omega))) (alA (al1 (fitU (by omega) (by omega))) (alA (al1 (half lo hi)) (al1 (fit64 (by omega) (by omega)))))) (ds_ (sq_ ?_)))))))))
    obtain ⟨b9, o9, rfl⟩ := hsl.pos (i := (lo + hi) / 2) (by omega)
    obtain ⟨x11, hx11⟩ := get_some (l := l) (m := (lo + hi) / 2) (by omega)
    refine ao_ (qo 6 [(3, .at b9 o9 ((lo + hi) / 2)), (4, .go (outs b9 (o9 + ((lo + hi) / 2) * 4) [.int .i64 x11.id, .int .i64 x11.dom, .int .u32 x11.hard, .int .u32 x11.soft]))] [0, 1, 2, 8, 9, 10, 11] [(24, .func (.func g) #[] cb), (28, .agg #[.int .i64 x11.id, .int .i64 x11.dom, .int .u32 x11.hard, .int .u32 x11.soft]), (29, .int .i64 k)] ([(some ⟨b9, o9, none⟩ : Option Addr) = some ⟨b9, o9, none⟩, (((lo + hi) / 2 : Nat)) = (((lo + hi) / 2 : Nat) : Int), (lo + hi) / 2 < n] ++ (cellsP w b9 (o9 + ((lo + hi) / 2) * 4) [.int .i64 x11.id, .int .i64 x11.dom, .int .u32 x11.hard, .int .u32 x11.soft])) (alA (al2 rfl (al2 rfl (al1 (by omega)))) (rd_pre (hsl.get hx11) _ rfl)) (cD (.int .i64 (c x11)) hg (fun w hw => hc x11 (List.mem_of_getElem? hx11) w hw.below) ?_))
    by_cases q14 : (c x11 : Int) < (0 : Int)
    ·
      refine qo 1 [(7, .yes)] [0, 1, 2, 8, 9, 10, 11] [(31, .bool true)] ([(c x11 : Int) < (0 : Int)]) (al1 q14) (on_ (ds_ (t_ (qa [(1, .fit)] [0, 1, 2, 8, 10] [(9, .int .i64 (((lo + hi) / 2 + 1 : Nat)))] ([Fit .i64 (((lo + hi) / 2 + 1 : Nat))]) (al1 (fit64 (by omega) (by omega))) (done_block ?_)))))
      exact dr [0, 1, 2, 8, 9, 10] ((lo + hi) / 2 + 1, hi) ⟨by omega, by omega, bsk_low hI ha hx11 ((hs x11 (List.mem_of_getElem? hx11)).1.1 q14)⟩
    ·
      refine qo 1 [(7, .no)] [0, 1, 2, 8, 9, 10, 11] [(31, .bool false)] ([¬ ((c x11 : Int) < (0 : Int))]) (al1 q14) (on_ (ds_ (f_ (qa0 [] [0, 1, 2, 8, 9] [(10, .int .i64 (((lo + hi) / 2 : Nat)))] (done_block ?_)))))
      exact dr [0, 1, 2, 8, 9, 10] (lo, (lo + hi) / 2) ⟨by omega, by omega, bsk_high hI ha hx11 (fun h => q14 ((hs x11 (List.mem_of_getElem? hx11)).1.2 h))⟩
  ·
    refine qa [(2, .no)] [0, 1, 2, 8, 9, 10] [(17, .bool false)] ([¬ (((lo : Nat) : Int) < ((hi : Nat) : Int))]) (al1 q5) (ds_ (f_ (at_leave _ rfl (ds_ (sq_ ?_)))))
    by_cases q21 : ((lo : Nat) : Int) < ((n : Nat) : Int)
    ·
      obtain ⟨b23, o23, rfl⟩ := hsl.pos (i := lo) (by omega)
      obtain ⟨x25, hx25⟩ := get_some (l := l) (m := lo) (by omega)
      refine ao_ (qo 11 [(3, .yes), (8, .at b23 o23 lo), (9, .go (outs b23 (o23 + lo * 4) [.int .i64 x25.id, .int .i64 x25.dom, .int .u32 x25.hard, .int .u32 x25.soft]))] [] [(35, .int .i64 ((lo : Nat))), (39, .bool true), (40, .func (.func g) #[] cb), (44, .agg #[.int .i64 x25.id, .int .i64 x25.dom, .int .u32 x25.hard, .int .u32 x25.soft]), (45, .int .i64 k)] ([((lo : Nat) : Int) < ((n : Nat) : Int)] ++ ([(some ⟨b23, o23, none⟩ : Option Addr) = some ⟨b23, o23, none⟩, ((lo : Nat)) = ((lo : Nat) : Int), lo < n] ++ (cellsP w b23 (o23 + lo * 4) [.int .i64 x25.id, .int .i64 x25.dom, .int .u32 x25.hard, .int .u32 x25.soft]))) (alA (al1 q21) (alA (al2 rfl (al2 rfl (al1 (by omega)))) (rd_pre (hsl.get hx25) _ rfl))) (cD (.int .i64 (c x25)) hg (fun w hw => hc x25 (List.mem_of_getElem? hx25) w hw.below) ?_))
      by_cases q28 : (c x25 : Int) = (0 : Int)
      ·
        refine qo 4 [(12, .yes)] [] [(6, .int .i64 ((lo : Nat))), (7, .bool true)] ([(c x25 : Int) = (0 : Int)]) (al1 q28) (on_ (ds_ (rt ([]) (.tuple #[.int .i64 ((lo : Nat)), .bool true]) ?_)))
        exact fun w' hw => ⟨by rw [bsk_end hI (by omega) h1 (by omega), hask_found hx25 ((hs x25 (List.mem_of_getElem? hx25)).2.1 q28)], hw.below⟩
      ·
        refine qo 4 [(12, .no)] [] [(6, .int .i64 ((lo : Nat))), (7, .bool false)] ([¬ ((c x25 : Int) = (0 : Int))]) (al1 q28) (on_ (ds_ (rt ([]) (.tuple #[.int .i64 ((lo : Nat)), .bool false]) ?_)))
        exact fun w' hw => ⟨by rw [bsk_end hI (by omega) h1 (by omega), hask_other hI (by omega) h1 ha hx25 (fun h => q28 ((hs x25 (List.mem_of_getElem? hx25)).2.2 h))], hw.below⟩
    ·
      refine qa [(3, .no)] [] [(6, .int .i64 ((lo : Nat))), (7, .bool false)] ([¬ (((lo : Nat) : Int) < ((n : Nat) : Int))]) (al1 q21) (ds_ (rt ([]) (.tuple #[.int .i64 ((lo : Nat)), .bool false]) ?_))
      exact fun w' hw => ⟨by rw [bsk_end hI (by omega) h1 (by omega), hask_none hI (by omega) h1 (by omega)], hw.below⟩

set_option maxRecDepth 100000 in
theorem placed_d (p : Option Addr) (n cap : Nat) (ds : List Dom) (k : Int) (w : World)
    (hds : Sv w p ds) (hn : n = ds.length) (hb : n ≤ 1000)
    (ha : Ris Dom.id ds)
    : Calls Try.prog 47 #[.slice p n cap, .int .i64 k, .func (.func 42) #[] #[]] w fun e w' => e = .returned (.tuple #[.int .i64 (posK Dom.id ds k : Nat), .bool (hasK Dom.id ds k)]) ∧ Below w.heap.size w w' := by
  refine enter (Hs.start w) Try.func47 rfl Try.ntmps47 rfl (sq_ (ma0 [] [0, 1] (fun γ1 => [(5, .pointer (some ⟨γ1 0, 0, none⟩))]) (fun γ1 L => bx (γ1 0) (#[.func (.func 42) #[] #[]]) 72 :: L) (fun γ1 => ds_ (sq_ (ao_ (qo0 3 [] [] [(8, .slice p n cap), (9, .int .i64 k), (10, .func (.func 73) #[] #[.pointer (some ⟨γ1 0, 0, none⟩)])] (cD (.tuple #[.int .i64 ((posK Dom.id ds k : Nat)), .bool (hasK Dom.id ds k)]) Try.call72 (fun w hw => bsd 73 #[.pointer (some ⟨γ1 0, 0, none⟩)] p n cap ds Dom.id (fun x => cmpI x.id k) k w Try.call73 (hds.kept hw.below) hn (by omega) (fun x hx w' hb' => pl1d_d x k (γ1 0) w' (rd_one' ((hb'.block _ (hs_lt (hw.row 0 rfl))).trans (hw.row 0 rfl)))) (fun x hx => cmpI_iff x.id k) ha.asc) (qo0 4 [] [] [(6, .int .i64 ((posK Dom.id ds k : Nat))), (7, .bool (hasK Dom.id ds k))] (on_ (ds_ (rt ([]) (.tuple #[.int .i64 ((posK Dom.id ds k : Nat)), .bool (hasK Dom.id ds k)]) ?_)))))))))))
  exact fun w' hw => ⟨rfl, hw.below⟩

set_option maxRecDepth 100000 in
theorem placev_d (q : Option Addr) (m capv : Nat) (vs : List Vcp) (k : Int) (w : World)
    (hvs : Sv w q vs) (hm : m = vs.length) (hmb : m ≤ 1000)
    (ha : Ris Vcp.id vs)
    : Calls Try.prog 56 #[.slice q m capv, .int .i64 k, .func (.func 44) #[] #[]] w fun e w' => e = .returned (.tuple #[.int .i64 (posK Vcp.id vs k : Nat), .bool (hasK Vcp.id vs k)]) ∧ Below w.heap.size w w' := by
  refine enter (Hs.start w) Try.func56 rfl Try.ntmps56 rfl (sq_ (ma0 [] [0, 1] (fun γ1 => [(5, .pointer (some ⟨γ1 0, 0, none⟩))]) (fun γ1 L => bx (γ1 0) (#[.func (.func 44) #[] #[]]) 74 :: L) (fun γ1 => ds_ (sq_ (ao_ (qo0 3 [] [] [(8, .slice q m capv), (9, .int .i64 k), (10, .func (.func 79) #[] #[.pointer (some ⟨γ1 0, 0, none⟩)])] (cD (.tuple #[.int .i64 ((posK Vcp.id vs k : Nat)), .bool (hasK Vcp.id vs k)]) Try.call78 (fun w hw => bsv 79 #[.pointer (some ⟨γ1 0, 0, none⟩)] q m capv vs Vcp.id (fun x => cmpI x.id k) k w Try.call79 (hvs.kept hw.below) hm (by omega) (fun x hx w' hb' => pl1v_d x k (γ1 0) w' (rd_one' ((hb'.block _ (hs_lt (hw.row 0 rfl))).trans (hw.row 0 rfl)))) (fun x hx => cmpI_iff x.id k) ha.asc) (qo0 4 [] [] [(6, .int .i64 ((posK Vcp.id vs k : Nat))), (7, .bool (hasK Vcp.id vs k))] (on_ (ds_ (rt ([]) (.tuple #[.int .i64 ((posK Vcp.id vs k : Nat)), .bool (hasK Vcp.id vs k)]) ?_)))))))))))
  exact fun w' hw => ⟨rfl, hw.below⟩

set_option maxRecDepth 100000 in
theorem risingd_d (p : Option Addr) (n cap : Nat) (ds : List Dom) (w : World)
    (hds : Sv w p ds) (hn : n = ds.length) (hb : n ≤ 1000)
    : Calls Try.prog 41 #[.slice p n cap, .func (.func 42) #[] #[]] w fun e w' => e = .returned (.bool (risK Dom.id ds)) ∧ Below w.heap.size w w' := by
  refine enter (Hs.start w) Try.func41 rfl Try.ntmps41 rfl (sq_ (qa0 [] [0, 1] [] (ds_ (sq_ (sq_ (qa0 [] [0, 1] [(5, .int .i64 1)] (ds_ (at_block (at_loop (α := Nat) [0, 1, 5] (fun j => [(0, .slice p n cap), (1, .func (.func 42) #[] #[]), (5, .int .i64 ((j : Nat)))]) (fun j => []) (fun j => 1 ≤ j ∧ ∀ (t : Nat) (x y : Dom), t + 1 < j → ds[t]? = some x → ds[t + 1]? = some y → x.id < y.id) (fun j => n - j) 1 (by kernel_rfl) rfl ⟨Nat.le_refl _, fun t x y h => by omega⟩ ?_)))))))))
  rintro j
  rintro ⟨hj1, hI⟩
  refine sq_ (sq_ ?_)
  by_cases q4 : ((j : Nat) : Int) < ((n : Nat) : Int)
  ·
    refine qa [(3, .yes)] [0, 1, 5] [(9, .bool true)] ([((j : Nat) : Int) < ((n : Nat) : Int)]) (al1 q4) (ds_ (t_ (at_skip (ds_ (sq_ (at_block (sq_ ?_)))))))
    obtain ⟨b7, o7, rfl⟩ := hds.pos (i := j - 1) (by omega)
    obtain ⟨x9, hx9⟩ := get_some (l := ds) (m := j - 1) (by omega)
    refine at_calm rfl (by kernel_rfl) (by kernel_rfl) ?_
    refine cm 6 [(3, .fit), (4, .at b7 o7 (j - 1)), (5, .go (outs b7 (o7 + (j - 1) * 4) [.int .i64 x9.id, .int .i64 x9.weight, .int .i64 x9.cap, .int .i64 x9.pool]))] [0, 1, 5] [(12, .func (.func 42) #[] #[]), (17, .agg #[.int .i64 x9.id, .int .i64 x9.weight, .int .i64 x9.cap, .int .i64 x9.pool])] ([Fit .i64 (((j : Nat)) - 1)] ++ ([(some ⟨b7, o7, none⟩ : Option Addr) = some ⟨b7, o7, none⟩, (((j : Nat)) - 1) = ((j - 1 : Nat) : Int), j - 1 < n] ++ (cellsP w b7 (o7 + (j - 1) * 4) [.int .i64 x9.id, .int .i64 x9.weight, .int .i64 x9.cap, .int .i64 x9.pool]))) (by kernel_rfl) rfl (alA (al1 (fit64 (by omega) (by omega))) (alA (al2 rfl (al2 (by omega) (al1 (by omega)))) (rd_pre (hds.get hx9) _ rfl))) ?_
    refine cK (.int .i64 x9.id) Try.call42 (fun w hw => did_d x9 w) ?_
    obtain ⟨x12, hx12⟩ := get_some (l := ds) (m := j) (by omega)
    refine cm 5 [(10, .at b7 o7 j), (11, .go (outs b7 (o7 + j * 4) [.int .i64 x12.id, .int .i64 x12.weight, .int .i64 x12.cap, .int .i64 x12.pool]))] [0, 1, 5, 18] [(19, .func (.func 42) #[] #[]), (23, .agg #[.int .i64 x12.id, .int .i64 x12.weight, .int .i64 x12.cap, .int .i64 x12.pool])] ([(some ⟨b7, o7, none⟩ : Option Addr) = some ⟨b7, o7, none⟩, ((j : Nat)) = ((j : Nat) : Int), j < n] ++ (cellsP w b7 (o7 + j * 4) [.int .i64 x12.id, .int .i64 x12.weight, .int .i64 x12.cap, .int .i64 x12.pool])) (by kernel_rfl) rfl (alA (al2 rfl (al2 rfl (al1 (by omega)))) (rd_pre (hds.get hx12) _ rfl)) ?_
    refine cK (.int .i64 x12.id) Try.call42 (fun w hw => did_d x12 w) ?_
    by_cases q15 : (x9.id : Int) ≥ (x12.id : Int)
    ·
      refine cm 1 [(13, .yes)] [0, 1, 5] [(25, .bool true)] ([(x9.id : Int) ≥ (x12.id : Int)]) (by kernel_rfl) rfl (al1 q15) ?_
      refine calm_nil' ?_
      refine ds_ (t_ (sq_ (qa0 [] [] [(4, .bool false)] (ds_ (rt ([]) (.bool false) ?_)))))
      exact fun w' hw => ⟨by rw [show risK Dom.id ds = false from by
          cases hr : risK Dom.id ds with
          | false => rfl
          | true => have := ((ris_iffK ds).1 hr).at (i := j - 1) (j := j) (by omega) hx9 hx12; omega], hw.below⟩
    ·
      refine cm 1 [(13, .no)] [0, 1, 5] [(25, .bool false)] ([¬ ((x9.id : Int) ≥ (x12.id : Int))]) (by kernel_rfl) rfl (al1 q15) ?_
      refine calm_nil' ?_
      refine ds_ (f_ (at_skip (done_block (ds_ (qa [(1, .fit)] [0, 1] [(5, .int .i64 ((j + 1 : Nat)))] ([Fit .i64 ((j + 1 : Nat))]) (al1 (fit64 (by omega) (by omega))) ?_)))))
      exact done_round [0, 1, 5] (j + 1) (by kernel_rfl) rfl ⟨by omega, fun t x y ht h1 h2 => by
          by_cases htj : t + 1 = j
          · obtain rfl : t = j - 1 := by omega
            rw [hx9] at h1; rw [htj, hx12] at h2; cases h1; cases h2; omega
          · exact hI t x y (by omega) h1 h2⟩ (by first | omega | (simp only; omega))
  ·
    refine qa [(3, .no)] [0, 1, 5] [(9, .bool false)] ([¬ (((j : Nat) : Int) < ((n : Nat) : Int))]) (al1 q4) (ds_ (f_ (at_leave _ rfl (ds_ (sq_ (qa0 [] [] [(4, .bool true)] (ds_ (rt ([]) (.bool true) ?_))))))))
    exact fun w' hw => ⟨by rw [(ris_iffK ds).2 (ris_step fun t x y h1 h2 => hI t x y (by have := (List.getElem?_eq_some_iff.1 h2).1; omega) h1 h2)], hw.below⟩

set_option maxRecDepth 100000 in
theorem risingv_d (q : Option Addr) (m capv : Nat) (vs : List Vcp) (w : World)
    (hvs : Sv w q vs) (hm : m = vs.length) (hmb : m ≤ 1000)
    : Calls Try.prog 43 #[.slice q m capv, .func (.func 44) #[] #[]] w fun e w' => e = .returned (.bool (risK Vcp.id vs)) ∧ Below w.heap.size w w' := by
  refine enter (Hs.start w) Try.func43 rfl Try.ntmps43 rfl (sq_ (qa0 [] [0, 1] [] (ds_ (sq_ (sq_ (qa0 [] [0, 1] [(5, .int .i64 1)] (ds_ (at_block (at_loop (α := Nat) [0, 1, 5] (fun j => [(0, .slice q m capv), (1, .func (.func 44) #[] #[]), (5, .int .i64 ((j : Nat)))]) (fun j => []) (fun j => 1 ≤ j ∧ ∀ (t : Nat) (x y : Vcp), t + 1 < j → vs[t]? = some x → vs[t + 1]? = some y → x.id < y.id) (fun j => m - j) 1 (by kernel_rfl) rfl ⟨Nat.le_refl _, fun t x y h => by omega⟩ ?_)))))))))
  rintro j
  rintro ⟨hj1, hI⟩
  refine sq_ (sq_ ?_)
  by_cases q4 : ((j : Nat) : Int) < ((m : Nat) : Int)
  ·
    refine qa [(3, .yes)] [0, 1, 5] [(9, .bool true)] ([((j : Nat) : Int) < ((m : Nat) : Int)]) (al1 q4) (ds_ (t_ (at_skip (ds_ (sq_ (at_block (sq_ ?_)))))))
    obtain ⟨b7, o7, rfl⟩ := hvs.pos (i := j - 1) (by omega)
    obtain ⟨x9, hx9⟩ := get_some (l := vs) (m := j - 1) (by omega)
    refine at_calm rfl (by kernel_rfl) (by kernel_rfl) ?_
    refine cm 6 [(3, .fit), (4, .at b7 o7 (j - 1)), (5, .go (outs b7 (o7 + (j - 1) * 4) [.int .i64 x9.id, .int .i64 x9.dom, .int .u32 x9.hard, .int .u32 x9.soft]))] [0, 1, 5] [(12, .func (.func 44) #[] #[]), (17, .agg #[.int .i64 x9.id, .int .i64 x9.dom, .int .u32 x9.hard, .int .u32 x9.soft])] ([Fit .i64 (((j : Nat)) - 1)] ++ ([(some ⟨b7, o7, none⟩ : Option Addr) = some ⟨b7, o7, none⟩, (((j : Nat)) - 1) = ((j - 1 : Nat) : Int), j - 1 < m] ++ (cellsP w b7 (o7 + (j - 1) * 4) [.int .i64 x9.id, .int .i64 x9.dom, .int .u32 x9.hard, .int .u32 x9.soft]))) (by kernel_rfl) rfl (alA (al1 (fit64 (by omega) (by omega))) (alA (al2 rfl (al2 (by omega) (al1 (by omega)))) (rd_pre (hvs.get hx9) _ rfl))) ?_
    refine cK (.int .i64 x9.id) Try.call44 (fun w hw => vid_d x9 w) ?_
    obtain ⟨x12, hx12⟩ := get_some (l := vs) (m := j) (by omega)
    refine cm 5 [(10, .at b7 o7 j), (11, .go (outs b7 (o7 + j * 4) [.int .i64 x12.id, .int .i64 x12.dom, .int .u32 x12.hard, .int .u32 x12.soft]))] [0, 1, 5, 18] [(19, .func (.func 44) #[] #[]), (23, .agg #[.int .i64 x12.id, .int .i64 x12.dom, .int .u32 x12.hard, .int .u32 x12.soft])] ([(some ⟨b7, o7, none⟩ : Option Addr) = some ⟨b7, o7, none⟩, ((j : Nat)) = ((j : Nat) : Int), j < m] ++ (cellsP w b7 (o7 + j * 4) [.int .i64 x12.id, .int .i64 x12.dom, .int .u32 x12.hard, .int .u32 x12.soft])) (by kernel_rfl) rfl (alA (al2 rfl (al2 rfl (al1 (by omega)))) (rd_pre (hvs.get hx12) _ rfl)) ?_
    refine cK (.int .i64 x12.id) Try.call44 (fun w hw => vid_d x12 w) ?_
    by_cases q15 : (x9.id : Int) ≥ (x12.id : Int)
    ·
      refine cm 1 [(13, .yes)] [0, 1, 5] [(25, .bool true)] ([(x9.id : Int) ≥ (x12.id : Int)]) (by kernel_rfl) rfl (al1 q15) ?_
      refine calm_nil' ?_
      refine ds_ (t_ (sq_ (qa0 [] [] [(4, .bool false)] (ds_ (rt ([]) (.bool false) ?_)))))
      exact fun w' hw => ⟨by rw [show risK Vcp.id vs = false from by
          cases hr : risK Vcp.id vs with
          | false => rfl
          | true => have := ((ris_iffK vs).1 hr).at (i := j - 1) (j := j) (by omega) hx9 hx12; omega], hw.below⟩
    ·
      refine cm 1 [(13, .no)] [0, 1, 5] [(25, .bool false)] ([¬ ((x9.id : Int) ≥ (x12.id : Int))]) (by kernel_rfl) rfl (al1 q15) ?_
      refine calm_nil' ?_
      refine ds_ (f_ (at_skip (done_block (ds_ (qa [(1, .fit)] [0, 1] [(5, .int .i64 ((j + 1 : Nat)))] ([Fit .i64 ((j + 1 : Nat))]) (al1 (fit64 (by omega) (by omega))) ?_)))))
      exact done_round [0, 1, 5] (j + 1) (by kernel_rfl) rfl ⟨by omega, fun t x y ht h1 h2 => by
          by_cases htj : t + 1 = j
          · obtain rfl : t = j - 1 := by omega
            rw [hx9] at h1; rw [htj, hx12] at h2; cases h1; cases h2; omega
          · exact hI t x y (by omega) h1 h2⟩ (by first | omega | (simp only; omega))
  ·
    refine qa [(3, .no)] [0, 1, 5] [(9, .bool false)] ([¬ (((j : Nat) : Int) < ((m : Nat) : Int))]) (al1 q4) (ds_ (f_ (at_leave _ rfl (ds_ (sq_ (qa0 [] [] [(4, .bool true)] (ds_ (rt ([]) (.bool true) ?_))))))))
    exact fun w' hw => ⟨by rw [(ris_iffK vs).2 (ris_step fun t x y h1 h2 => hI t x y (by have := (List.getElem?_eq_some_iff.1 h2).1; omega) h1 h2)], hw.below⟩

set_option maxRecDepth 100000 in
theorem may_d (d : Dom) (w : World)
    : Calls Try.prog 45 #[.agg #[.int .i64 d.id, .int .i64 d.weight, .int .i64 d.cap, .int .i64 d.pool]] w fun e w' => e = .returned (.bool (mayB d)) ∧ Below w.heap.size w w' := by
  refine enter (Hs.start w) Try.func45 rfl Try.ntmps45 rfl (sq_ (ma0 [] [] (fun γ1 => [(1, .pointer (some ⟨γ1 0, 0, none⟩))]) (fun γ1 L => bx (γ1 0) (#[.int .i64 d.id, .int .i64 d.weight, .int .i64 d.cap, .int .i64 d.pool]) 32 :: L) (fun γ1 => ds_ (sq_ ?_))))
  by_cases q3 : (d.id : Int) ≥ (1 : Int)
  ·
    by_cases q5 : (d.id : Int) ≤ (8 : Int)
    ·
      by_cases q7 : (d.weight : Int) ≥ (1 : Int)
      ·
        by_cases q9 : (d.weight : Int) ≤ (65535 : Int)
        ·
          by_cases q11 : (d.cap : Int) ≥ (0 : Int)
          ·
            by_cases q13 : (d.cap : Int) ≤ (800 : Int)
            ·
              by_cases q15 : (d.pool : Int) ≥ (0 : Int)
              ·
                by_cases q17 : (d.pool : Int) < (4 : Int)
                ·
                  refine qa [(1, .go (owns 0 0 1)), (2, .yes), (5, .go (owns 0 0 1)), (6, .yes), (10, .go (owns 0 1 1)), (11, .yes), (15, .go (owns 0 1 1)), (16, .yes), (20, .go (owns 0 2 1)), (21, .yes), (25, .go (owns 0 2 1)), (26, .yes), (30, .go (owns 0 3 1)), (31, .yes), (35, .go (owns 0 3 1)), (36, .yes)] [] [(2, .bool true)] ([(d.id : Int) ≥ (1 : Int)] ++ ([(d.id : Int) ≤ (8 : Int)] ++ ([(d.weight : Int) ≥ (1 : Int)] ++ ([(d.weight : Int) ≤ (65535 : Int)] ++ ([(d.cap : Int) ≥ (0 : Int)] ++ ([(d.cap : Int) ≤ (800 : Int)] ++ ([(d.pool : Int) ≥ (0 : Int)] ++ ([(d.pool : Int) < (4 : Int)])))))))) (alA (al1 q3) (alA (al1 q5) (alA (al1 q7) (alA (al1 q9) (alA (al1 q11) (alA (al1 q13) (alA (al1 q15) (al1 q17)))))))) (ds_ (rt ([]) (.bool true) ?_))
                  exact fun w' hw => ⟨by rw [show mayB d = true from by simp only [mayB, decide_eq_true_eq]; omega], hw.below⟩
                ·
                  refine qa [(1, .go (owns 0 0 1)), (2, .yes), (5, .go (owns 0 0 1)), (6, .yes), (10, .go (owns 0 1 1)), (11, .yes), (15, .go (owns 0 1 1)), (16, .yes), (20, .go (owns 0 2 1)), (21, .yes), (25, .go (owns 0 2 1)), (26, .yes), (30, .go (owns 0 3 1)), (31, .yes), (35, .go (owns 0 3 1)), (36, .no)] [] [(2, .bool false)] ([(d.id : Int) ≥ (1 : Int)] ++ ([(d.id : Int) ≤ (8 : Int)] ++ ([(d.weight : Int) ≥ (1 : Int)] ++ ([(d.weight : Int) ≤ (65535 : Int)] ++ ([(d.cap : Int) ≥ (0 : Int)] ++ ([(d.cap : Int) ≤ (800 : Int)] ++ ([(d.pool : Int) ≥ (0 : Int)] ++ ([¬ ((d.pool : Int) < (4 : Int))])))))))) (alA (al1 q3) (alA (al1 q5) (alA (al1 q7) (alA (al1 q9) (alA (al1 q11) (alA (al1 q13) (alA (al1 q15) (al1 q17)))))))) (ds_ (rt ([]) (.bool false) ?_))
                  exact fun w' hw => ⟨by rw [show mayB d = false from by simp only [mayB, decide_eq_false_iff_not]; omega], hw.below⟩
              ·
                refine qa [(1, .go (owns 0 0 1)), (2, .yes), (5, .go (owns 0 0 1)), (6, .yes), (10, .go (owns 0 1 1)), (11, .yes), (15, .go (owns 0 1 1)), (16, .yes), (20, .go (owns 0 2 1)), (21, .yes), (25, .go (owns 0 2 1)), (26, .yes), (30, .go (owns 0 3 1)), (31, .no)] [] [(2, .bool false)] ([(d.id : Int) ≥ (1 : Int)] ++ ([(d.id : Int) ≤ (8 : Int)] ++ ([(d.weight : Int) ≥ (1 : Int)] ++ ([(d.weight : Int) ≤ (65535 : Int)] ++ ([(d.cap : Int) ≥ (0 : Int)] ++ ([(d.cap : Int) ≤ (800 : Int)] ++ ([¬ ((d.pool : Int) ≥ (0 : Int))]))))))) (alA (al1 q3) (alA (al1 q5) (alA (al1 q7) (alA (al1 q9) (alA (al1 q11) (alA (al1 q13) (al1 q15))))))) (ds_ (rt ([]) (.bool false) ?_))
                exact fun w' hw => ⟨by rw [show mayB d = false from by simp only [mayB, decide_eq_false_iff_not]; omega], hw.below⟩
            ·
              refine qa [(1, .go (owns 0 0 1)), (2, .yes), (5, .go (owns 0 0 1)), (6, .yes), (10, .go (owns 0 1 1)), (11, .yes), (15, .go (owns 0 1 1)), (16, .yes), (20, .go (owns 0 2 1)), (21, .yes), (25, .go (owns 0 2 1)), (26, .no)] [] [(2, .bool false)] ([(d.id : Int) ≥ (1 : Int)] ++ ([(d.id : Int) ≤ (8 : Int)] ++ ([(d.weight : Int) ≥ (1 : Int)] ++ ([(d.weight : Int) ≤ (65535 : Int)] ++ ([(d.cap : Int) ≥ (0 : Int)] ++ ([¬ ((d.cap : Int) ≤ (800 : Int))])))))) (alA (al1 q3) (alA (al1 q5) (alA (al1 q7) (alA (al1 q9) (alA (al1 q11) (al1 q13)))))) (ds_ (rt ([]) (.bool false) ?_))
              exact fun w' hw => ⟨by rw [show mayB d = false from by simp only [mayB, decide_eq_false_iff_not]; omega], hw.below⟩
          ·
            refine qa [(1, .go (owns 0 0 1)), (2, .yes), (5, .go (owns 0 0 1)), (6, .yes), (10, .go (owns 0 1 1)), (11, .yes), (15, .go (owns 0 1 1)), (16, .yes), (20, .go (owns 0 2 1)), (21, .no)] [] [(2, .bool false)] ([(d.id : Int) ≥ (1 : Int)] ++ ([(d.id : Int) ≤ (8 : Int)] ++ ([(d.weight : Int) ≥ (1 : Int)] ++ ([(d.weight : Int) ≤ (65535 : Int)] ++ ([¬ ((d.cap : Int) ≥ (0 : Int))]))))) (alA (al1 q3) (alA (al1 q5) (alA (al1 q7) (alA (al1 q9) (al1 q11))))) (ds_ (rt ([]) (.bool false) ?_))
            exact fun w' hw => ⟨by rw [show mayB d = false from by simp only [mayB, decide_eq_false_iff_not]; omega], hw.below⟩
        ·
          refine qa [(1, .go (owns 0 0 1)), (2, .yes), (5, .go (owns 0 0 1)), (6, .yes), (10, .go (owns 0 1 1)), (11, .yes), (15, .go (owns 0 1 1)), (16, .no)] [] [(2, .bool false)] ([(d.id : Int) ≥ (1 : Int)] ++ ([(d.id : Int) ≤ (8 : Int)] ++ ([(d.weight : Int) ≥ (1 : Int)] ++ ([¬ ((d.weight : Int) ≤ (65535 : Int))])))) (alA (al1 q3) (alA (al1 q5) (alA (al1 q7) (al1 q9)))) (ds_ (rt ([]) (.bool false) ?_))
          exact fun w' hw => ⟨by rw [show mayB d = false from by simp only [mayB, decide_eq_false_iff_not]; omega], hw.below⟩
      ·
        refine qa [(1, .go (owns 0 0 1)), (2, .yes), (5, .go (owns 0 0 1)), (6, .yes), (10, .go (owns 0 1 1)), (11, .no)] [] [(2, .bool false)] ([(d.id : Int) ≥ (1 : Int)] ++ ([(d.id : Int) ≤ (8 : Int)] ++ ([¬ ((d.weight : Int) ≥ (1 : Int))]))) (alA (al1 q3) (alA (al1 q5) (al1 q7))) (ds_ (rt ([]) (.bool false) ?_))
        exact fun w' hw => ⟨by rw [show mayB d = false from by simp only [mayB, decide_eq_false_iff_not]; omega], hw.below⟩
    ·
      refine qa [(1, .go (owns 0 0 1)), (2, .yes), (5, .go (owns 0 0 1)), (6, .no)] [] [(2, .bool false)] ([(d.id : Int) ≥ (1 : Int)] ++ ([¬ ((d.id : Int) ≤ (8 : Int))])) (alA (al1 q3) (al1 q5)) (ds_ (rt ([]) (.bool false) ?_))
      exact fun w' hw => ⟨by rw [show mayB d = false from by simp only [mayB, decide_eq_false_iff_not]; omega], hw.below⟩
  ·
    refine qa [(1, .go (owns 0 0 1)), (2, .no)] [] [(2, .bool false)] ([¬ ((d.id : Int) ≥ (1 : Int))]) (al1 q3) (ds_ (rt ([]) (.bool false) ?_))
    exact fun w' hw => ⟨by rw [show mayB d = false from by simp only [mayB, decide_eq_false_iff_not]; omega], hw.below⟩

set_option maxRecDepth 100000 in
theorem count_d (p : Option Addr) (n cap : Nat) (ds : List Dom) (q : Option Addr) (m capv : Nat) (vs : List Vcp) (k : Int) (w : World)
    (hvs : Sv w q vs) (hm : m = vs.length) (hmb : m ≤ 1000)
    : Calls Try.prog 46 #[.agg #[.slice p n cap, .slice q m capv], .int .i64 k] w fun e w' => e = .returned (.int .i64 (cntV vs k : Nat)) ∧ Below w.heap.size w w' := by
  refine enter (Hs.start w) Try.func46 rfl Try.ntmps46 rfl (sq_ (ma0 [] [1] (fun γ1 => [(2, .pointer (some ⟨γ1 0, 0, none⟩))]) (fun γ1 L => bx (γ1 0) (#[.slice p n cap, .slice q m capv]) 25 :: L) (fun γ1 => ds_ (sq_ (qa0 [] [1, 2] [(5, .int .i64 0)] (ds_ (sq_ (sq_ (qa0 [(1, .go (owns 0 1 1))] [1, 5] [(9, .slice q m capv), (10, .int .i64 ((m : Nat))), (11, .int .i64 0)] (ds_ (at_block (at_loop (α := Nat × Nat) [1, 5, 9, 10, 11] (fun ⟨j, c⟩ => [(1, .int .i64 k), (5, .int .i64 ((c : Nat))), (9, .slice q m capv), (10, .int .i64 ((m : Nat))), (11, .int .i64 ((j : Nat)))]) (fun ⟨j, c⟩ => [bx (γ1 0) (#[.slice p n cap, .slice q m capv]) 25]) (fun ⟨j, c⟩ => j ≤ m ∧ c = cntV (vs.take j) k ∧ c ≤ j) (fun ⟨j, c⟩ => m - j) (0, 0) (by kernel_rfl) rfl ⟨Nat.zero_le _, rfl, Nat.le_refl _⟩ ?_))))))))))))
  rintro ⟨j, c⟩
  rintro ⟨hj, hc, hcj⟩
  refine sq_ ?_
  by_cases q5 : ((j : Nat) : Int) < ((m : Nat) : Int)
  ·
    refine qa [(0, .yes)] [1, 5, 9, 10, 11] [(12, .bool true)] ([((j : Nat) : Int) < ((m : Nat) : Int)]) (al1 q5) (ds_ (sq_ (t_ (at_skip (ds_ (sq_ (at_block (sq_ ?_))))))))
    obtain ⟨b8, o8, rfl⟩ := hvs.pos (i := j) (by omega)
    obtain ⟨x10, hx10⟩ := get_some (l := vs) (m := j) (by omega)
    refine ma [(0, .at b8 o8 j), (1, .go (outs b8 (o8 + j * 4) [.int .i64 x10.id, .int .i64 x10.dom, .int .u32 x10.hard, .int .u32 x10.soft])), (3, .go (owns 0 0 4))] [1, 5, 9, 10, 11] (fun γ11 => [(7, .pointer (some ⟨γ11 0, 0, none⟩))]) (fun γ11 L => bx (γ11 0) (#[.int .i64 x10.id, .int .i64 x10.dom, .int .u32 x10.hard, .int .u32 x10.soft]) 43 :: L) (fun γ11 => [(some ⟨b8, o8, none⟩ : Option Addr) = some ⟨b8, o8, none⟩, ((j : Nat)) = ((j : Nat) : Int), j < m] ++ (cellsP w b8 (o8 + j * 4) [.int .i64 x10.id, .int .i64 x10.dom, .int .u32 x10.hard, .int .u32 x10.soft])) (fun γ11 => (alA (al2 rfl (al2 rfl (al1 (by omega)))) (rd_pre (hvs.get hx10) _ rfl))) (fun γ11 => ds_ (sq_ ?_))
    by_cases q13 : (x10.dom : Int) = (k : Int)
    ·
      refine qa [(1, .go (owns 0 1 1)), (3, .yes)] [1, 5, 9, 10, 11] [(18, .bool true)] ([(x10.dom : Int) = (k : Int)]) (al1 q13) (ds_ (t_ (qa [(1, .fit)] [1, 9, 10, 11] [(5, .int .i64 ((c + 1 : Nat)))] ([Fit .i64 ((c + 1 : Nat))]) (al1 (fit64 (by omega) (by omega))) (done_block (ds_ (qa [(0, .fit)] [1, 5, 9, 10] [(11, .int .i64 ((j + 1 : Nat)))] ([Fit .i64 ((j + 1 : Nat))]) (al1 (fit64 (by omega) (by omega))) (Done.drop (L' := [bx (γ1 0) (#[.slice p n cap, .slice (some ⟨b8, o8, none⟩) m capv]) 25]) ?_ (List.Sublist.cons _ (List.Sublist.cons_cons _ (List.Sublist.refl _))))))))))
      exact dr [1, 5, 9, 10, 11] (j + 1, c + 1) ⟨by omega, by rw [cnt_on hx10, if_pos q13, ← hc], by omega⟩
    ·
      refine qa [(1, .go (owns 0 1 1)), (3, .no)] [1, 5, 9, 10, 11] [(18, .bool false)] ([¬ ((x10.dom : Int) = (k : Int))]) (al1 q13) (ds_ (f_ (at_skip (done_block (ds_ (qa [(0, .fit)] [1, 5, 9, 10] [(11, .int .i64 ((j + 1 : Nat)))] ([Fit .i64 ((j + 1 : Nat))]) (al1 (fit64 (by omega) (by omega))) (Done.drop (L' := [bx (γ1 0) (#[.slice p n cap, .slice (some ⟨b8, o8, none⟩) m capv]) 25]) ?_ (List.Sublist.cons _ (List.Sublist.cons_cons _ (List.Sublist.refl _))))))))))
      exact dr [1, 5, 9, 10, 11] (j + 1, c) ⟨by omega, by rw [cnt_on hx10, if_neg q13, ← hc]; rfl, by omega⟩
  ·
    refine qa [(0, .no)] [1, 5, 9, 10, 11] [(12, .bool false)] ([¬ (((j : Nat) : Int) < ((m : Nat) : Int))]) (al1 q5) (ds_ (sq_ (f_ (at_leave _ rfl (ds_ (sq_ (qa0 [] [] [(4, .int .i64 ((c : Nat)))] (ds_ (rt ([]) (.int .i64 ((c : Nat))) ?_)))))))))
    exact fun w' hw => ⟨by rw [hc, List.take_of_length_le (by omega)], hw.below⟩

set_option maxRecDepth 100000 in
theorem cpus_d (s : Int) (w : World)
    : Calls Try.prog 83 #[.int .u32 s] w fun e w' => e = .returned (.int .i64 (if clrI s = 0 then 0 else 140)) ∧ Below w.heap.size w w' := by
  refine enter (Hs.start w) Try.func83 rfl Try.ntmps83 rfl (sq_ (qa0 [] [0] [] (ds_ (sq_ (sq_ ?_)))))
  by_cases q3 : (clrI s : Int) ≠ (0 : Int)
  ·
    refine qa [(2, .yes)] [] [(5, .bool true)] ([(clrI s : Int) ≠ (0 : Int)]) (al1 q3) (ds_ (t_ (sq_ (qa0 [] [] [(2, .int .i64 140)] (ds_ (rt ([]) (.int .i64 140) ?_))))))
    exact fun w' hw => ⟨by rw [if_neg q3], hw.below⟩
  ·
    refine qa [(2, .no)] [] [(5, .bool false)] ([¬ ((clrI s : Int) ≠ (0 : Int))]) (al1 q3) (ds_ (f_ (at_skip (ds_ (sq_ (qa0 [] [] [(2, .int .i64 0)] (ds_ (rt ([]) (.int .i64 0) ?_))))))))
    exact fun w' hw => ⟨by rw [if_pos (Classical.not_not.1 q3)], hw.below⟩
end Go.Proofs.Ytnoefldpkfpglaa

/-! Domains: Check. -/
namespace Go.Proofs.Ytnoefldpkfpglaa
open Go Go.RowKit
structure MaskA where
 h : Int
 s : Int
instance : Enc MaskA := ⟨fun x => [.int .u32 x.h, .int .u32 x.s], 2, fun _ => rfl, fun x v h => by simp at h; rcases h with rfl | rfl <;> rfl, by decide⟩

set_option maxRecDepth 100000 in
theorem masks_d (p : Option Addr) (n cap : Nat) (ms : List MaskA) (w : World)
 (hms : Sv w p ms) (hn : n = ms.length) (hb : n ≤ 1000)
 : Calls Try.prog 75 #[.slice p n cap] w fun e w' => e = .returned (.bool (ms.all fun x => maskB x.h x.s)) ∧ Below w.heap.size w w' := by
 refine enter (Hs.start w) Try.func75 rfl Try.ntmps75 rfl (sq_ (qa0 [] [0] [] (ds_ (sq_ (sq_ (qa0 [] [] [(5, .slice p n cap), (6, .int .i64 ((n : Nat))), (7, .int .i64 0)] (ds_ (at_block (at_loop (α := Nat) [5, 6, 7] (fun j => [(5, .slice p n cap), (6, .int .i64 ((n : Nat))), (7, .int .i64 ((j : Nat)))]) (fun j => []) (fun j => j ≤ n ∧ (ms.take j).all (fun x => maskB x.h x.s) = true) (fun j => n - j) 0 (by kernel_rfl) rfl ⟨Nat.zero_le _, rfl⟩ ?_)))))))))
 rintro j
 rintro ⟨hj, hI⟩
 refine sq_ ?_
 by_cases q4 : ((j : Nat) : Int) < ((n : Nat) : Int)
 ·
  refine qa [(0, .yes)] [5, 6, 7] [(8, .bool true)] ([((j : Nat) : Int) < ((n : Nat) : Int)]) (al1 q4) (ds_ (sq_ (t_ (at_skip (ds_ (sq_ (at_block (sq_ ?_))))))))
  obtain ⟨b7, o7, rfl⟩ := hms.pos (i := j) (by omega)
  obtain ⟨x9, hx9⟩ := get_some (l := ms) (m := j) (by omega)
  refine ma [(0, .at b7 o7 j), (1, .go (outs b7 (o7 + j * 2) [.int .u32 x9.h, .int .u32 x9.s])), (3, .go (owns 0 0 2))] [5, 6, 7] (fun γ10 => [(4, .pointer (some ⟨γ10 0, 0, none⟩))]) (fun γ10 L => bx (γ10 0) (#[.int .u32 x9.h, .int .u32 x9.s]) 41 :: L) (fun γ10 => [(some ⟨b7, o7, none⟩ : Option Addr) = some ⟨b7, o7, none⟩, ((j : Nat)) = ((j : Nat) : Int), j < n] ++ (cellsP w b7 (o7 + j * 2) [.int .u32 x9.h, .int .u32 x9.s])) (fun γ10 => (alA (al2 rfl (al2 rfl (al1 (by omega)))) (rd_pre (hms.get hx9) _ rfl))) (fun γ10 => ds_ (sq_ (ao_ (qo0 2 [(1, .go (owns 0 0 1))] [4, 5, 6, 7] [(12, .int .u32 x9.h)] ?_))))
  rcases q12 : decide (clrI x9.h = 0) with _ | _
  ·
   refine cD (.int .i64 140) Try.call83 (fun w hw => by have := cpus_d x9.h w; rw [if_neg (of_decide_eq_false q12)] at this; exact this) (qo0 12 [] [5, 6, 7] [(25, .bool true)] (on_ (ds_ (t_ (sq_ (qa0 [] [] [(2, .bool false)] (ds_ (rt ([]) (.bool false) ?_))))))))
   exact fun w' hw => ⟨by rw [show ms.all (fun x => maskB x.h x.s) = false from List.all_eq_false.2 ⟨x9, List.mem_of_getElem? hx9, by simp [maskB, q12]⟩], hw.below⟩
  ·
   refine cD (.int .i64 0) Try.call83 (fun w hw => by have := cpus_d x9.h w; rw [if_pos (of_decide_eq_true q12)] at this; exact this) (qo0 4 [(6, .go (owns 0 1 1))] [4, 5, 6, 7] [(15, .bool false), (17, .int .u32 x9.s)] ?_)
   rcases q16 : decide (clrI x9.s = 0) with _ | _
   ·
    refine cD (.int .i64 140) Try.call83 (fun w hw => by have := cpus_d x9.s w; rw [if_neg (of_decide_eq_false q16)] at this; exact this) (qo0 7 [] [5, 6, 7] [(25, .bool true)] (on_ (ds_ (t_ (sq_ (qa0 [] [] [(2, .bool false)] (ds_ (rt ([]) (.bool false) ?_))))))))
    exact fun w' hw => ⟨by rw [show ms.all (fun x => maskB x.h x.s) = false from List.all_eq_false.2 ⟨x9, List.mem_of_getElem? hx9, by simp [maskB, q12, q16]⟩], hw.below⟩
   ·
    refine cD (.int .i64 0) Try.call83 (fun w hw => by have := cpus_d x9.s w; rw [if_pos (of_decide_eq_true q16)] at this; exact this) ?_
    by_cases q20 : (x9.h : Int) = (0 : Int)
    ·
     refine qo 7 [(12, .go (owns 0 0 1)), (13, .yes)] [5, 6, 7] [(25, .bool true)] ([(x9.h : Int) = (0 : Int)]) (al1 q20) (on_ (ds_ (t_ (sq_ (qa0 [] [] [(2, .bool false)] (ds_ (rt ([]) (.bool false) ?_)))))))
     exact fun w' hw => ⟨by rw [show ms.all (fun x => maskB x.h x.s) = false from List.all_eq_false.2 ⟨x9, List.mem_of_getElem? hx9, by simp [maskB, q12, q16, q20]⟩], hw.below⟩
    ·
     refine qo 7 [(12, .go (owns 0 0 1)), (13, .no)] [5, 6, 7] [(25, .bool false)] ([¬ ((x9.h : Int) = (0 : Int))]) (al1 q20) (on_ (ds_ (f_ (at_skip (done_block (ds_ (qa [(0, .fit)] [5, 6] [(7, .int .i64 ((j + 1 : Nat)))] ([Fit .i64 ((j + 1 : Nat))]) (al1 (fit64 (by omega) (by omega))) (Done.drop (L' := []) ?_ (List.Sublist.cons _ (List.Sublist.refl _))))))))))
     exact dr [5, 6, 7] (j + 1) ⟨by omega, by rw [List.take_add_one, hx9, List.all_append, hI]; simp [maskB, q12, q16, q20]⟩
 ·
  refine qa [(0, .no)] [5, 6, 7] [(8, .bool false)] ([¬ (((j : Nat) : Int) < ((n : Nat) : Int))]) (al1 q4) (ds_ (sq_ (f_ (at_leave _ rfl (ds_ (sq_ (qa0 [] [] [(2, .bool true)] (ds_ (rt ([]) (.bool true) ?_)))))))))
  exact fun w' hw => ⟨by rw [List.take_of_length_le (by omega)] at hI; rw [hI], hw.below⟩

set_option maxRecDepth 100000 in
theorem mask_d (h s : Int) (w : World)
 : Calls Try.prog 48 #[.agg #[.int .u32 h, .int .u32 s]] w fun e w' => e = .returned (.int .i64 (if maskB h s = true then 0 else 170)) ∧ Below w.heap.size w w' := by
 refine enter (Hs.start w) Try.func48 rfl Try.ntmps48 rfl (sq_ (ma0 [] [] (fun γ1 => [(1, .pointer (some ⟨γ1 0, 0, none⟩))]) (fun γ1 L => bx (γ1 0) (#[.int .u32 h, .int .u32 s]) 41 :: L) (fun γ1 => ds_ (sq_ (sq_ (ao_ (mo0 2 [(0, .go (owns 0 0 2))] [] (fun γ2 => [(4, .slice (some ⟨γ2 0, 0, none⟩) 1 1)]) (fun γ2 L => bx (γ2 0) (#[.int .u32 h, .int .u32 s]) 41 :: L) (fun γ2 => ?_))))))))
 rcases q3 : maskB h s with _ | _
 ·
  refine cD (.bool false) Try.call75 (fun w hw => by have := masks_d (some ⟨γ2 0, 0, none⟩) 1 1 [⟨h, s⟩] w (sv_row (hw.row 0 rfl) rfl) rfl (by omega); simp only [List.all_cons, List.all_nil, Bool.and_true, q3] at this; exact this) (qo0 1 [] [] [(6, .bool true)] (on_ (ds_ (t_ (sq_ (qa0 [] [] [(2, .int .i64 170)] (ds_ (rt ([]) (.int .i64 170) ?_))))))))
  exact fun w' hw => ⟨rfl, hw.below⟩
 ·
  refine cD (.bool true) Try.call75 (fun w hw => by have := masks_d (some ⟨γ2 0, 0, none⟩) 1 1 [⟨h, s⟩] w (sv_row (hw.row 0 rfl) rfl) rfl (by omega); simp only [List.all_cons, List.all_nil, Bool.and_true, q3] at this; exact this) (qo0 1 [] [] [(6, .bool false)] (on_ (ds_ (f_ (at_skip (ds_ (sq_ (qa0 [] [] [(2, .int .i64 0)] (ds_ (rt ([]) (.int .i64 0) ?_))))))))))
  exact fun w' hw => ⟨rfl, hw.below⟩

set_option maxRecDepth 100000 in
theorem gcheck_d (p : Option Addr) (n cap : Nat) (ds : List Dom) (q : Option Addr) (m capv : Nat) (vs : List Vcp) (w : World)
 (hds : Sv w p ds) (hn : n = ds.length) (hb : n ≤ 1000)
 (hvs : Sv w q vs) (hm : m = vs.length) (hmb : m ≤ 1000)
 : Calls Try.prog 10 #[.agg #[.slice p n cap, .slice q m capv]] w fun e w' => e = .returned (.int .i64 (if guestsB ds vs = true then 0 else 190)) ∧ Below w.heap.size w w' := by
 refine enter (Hs.start w) Try.func10 rfl Try.ntmps10 rfl (sq_ (ma0 [] [] (fun γ1 => [(1, .pointer (some ⟨γ1 0, 0, none⟩))]) (fun γ1 L => bx (γ1 0) (#[.slice p n cap, .slice q m capv]) 25 :: L) (fun γ1 => ds_ (sq_ (sq_ (ao_ (qo0 2 [(1, .go (owns 0 0 1))] [1] [(10, .slice p n cap)] ?_)))))))
 rcases q3 : risK Dom.id ds with _ | _
 ·
  refine cD (.bool false) Try.call41 (fun w hw => by have := risingd_d p n cap ds w (hds.kept hw.below) hn (by omega); rw [q3] at this; exact this) (qo0 7 [] [1] [(18, .bool true)] (on_ (ds_ (t_ (sq_ (qa0 [] [] [(2, .int .i64 190)] (ds_ (rt ([]) (.int .i64 190) ?_))))))))
  exact fun w' hw => ⟨by simp only [guestsB, q3, Bool.false_and, Bool.and_false, Bool.false_eq_true, if_false], hw.below⟩
 ·
  refine cD (.bool true) Try.call41 (fun w hw => by have := risingd_d p n cap ds w (hds.kept hw.below) hn (by omega); rw [q3] at this; exact this) (qo0 4 [(6, .go (owns 0 1 1))] [1] [(13, .bool false), (15, .slice q m capv)] ?_)
  rcases q7 : risK Vcp.id vs with _ | _
  ·
   refine cD (.bool false) Try.call43 (fun w hw => by have := risingv_d q m capv vs w (hvs.kept hw.below) hm (by omega); rw [q7] at this; exact this) (qo0 2 [] [1] [(18, .bool true)] (on_ (ds_ (t_ (sq_ (qa0 [] [] [(2, .int .i64 190)] (ds_ (rt ([]) (.int .i64 190) ?_))))))))
   exact fun w' hw => ⟨by simp only [guestsB, q3, q7, Bool.false_and, Bool.and_false, Bool.false_eq_true, if_false], hw.below⟩
  ·
   refine cD (.bool true) Try.call43 (fun w hw => by have := risingv_d q m capv vs w (hvs.kept hw.below) hm (by omega); rw [q7] at this; exact this) (qo0 2 [] [1] [(18, .bool false)] (on_ (ds_ (f_ (at_skip (ds_ (sq_ (sq_ ?_))))))))
   have hrd := q3
   have hrv := q7
   refine qa0 [(1, .go (owns 0 0 1))] [1] [(20, .slice p n cap), (21, .int .i64 ((n : Nat))), (22, .int .i64 0)] (ds_ (at_block (at_loop (α := Nat) [1, 20, 21, 22] (fun j0 => [(1, .pointer (some ⟨γ1 0, 0, none⟩)), (20, .slice p n cap), (21, .int .i64 ((n : Nat))), (22, .int .i64 ((j0 : Nat)))]) (fun j0 => [bx (γ1 0) (#[.slice p n cap, .slice q m capv]) 25]) (fun j0 => j0 ≤ n ∧ (ds.take j0).all (dmayB vs) = true) (fun j0 => n - j0) 0 (by kernel_rfl) rfl ⟨Nat.zero_le _, rfl⟩ ?_)))
   rintro j0
   rintro ⟨hj0, hI0⟩
   refine sq_ ?_
   by_cases q13 : ((j0 : Nat) : Int) < ((n : Nat) : Int)
   ·
    refine qa [(0, .yes)] [1, 20, 21, 22] [(23, .bool true)] ([((j0 : Nat) : Int) < ((n : Nat) : Int)]) (al1 q13) (ds_ (sq_ (t_ (at_skip (ds_ (sq_ (at_block (sq_ ?_))))))))
    obtain ⟨b16, o16, rfl⟩ := hds.pos (i := j0) (by omega)
    obtain ⟨x18, hx18⟩ := get_some (l := ds) (m := j0) (by omega)
    refine ma [(0, .at b16 o16 j0), (1, .go (outs b16 (o16 + j0 * 4) [.int .i64 x18.id, .int .i64 x18.weight, .int .i64 x18.cap, .int .i64 x18.pool])), (3, .go (owns 0 0 4))] [1, 20, 21, 22] (fun γ19 => [(4, .pointer (some ⟨γ19 0, 0, none⟩))]) (fun γ19 L => bx (γ19 0) (#[.int .i64 x18.id, .int .i64 x18.weight, .int .i64 x18.cap, .int .i64 x18.pool]) 32 :: L) (fun γ19 => [(some ⟨b16, o16, none⟩ : Option Addr) = some ⟨b16, o16, none⟩, ((j0 : Nat)) = ((j0 : Nat) : Int), j0 < n] ++ (cellsP w b16 (o16 + j0 * 4) [.int .i64 x18.id, .int .i64 x18.weight, .int .i64 x18.cap, .int .i64 x18.pool])) (fun γ19 => (alA (al2 rfl (al2 rfl (al1 (by omega)))) (rd_pre (hds.get hx18) _ rfl))) (fun γ19 => ds_ (sq_ (ao_ (qo0 1 [(0, .go (owns 0 0 4))] [1, 4, 20, 21, 22] [(26, .agg #[.int .i64 x18.id, .int .i64 x18.weight, .int .i64 x18.cap, .int .i64 x18.pool])] ?_))))
    rcases q21 : mayB x18 with _ | _
    ·
     refine cD (.bool false) Try.call45 (fun w hw => by have := may_d x18 w; rw [q21] at this; exact this) (qo0 8 [] [1, 20, 21, 22] [(35, .bool true)] (on_ (ds_ (t_ (sq_ (qa0 [] [] [(2, .int .i64 190)] (ds_ (rt ([]) (.int .i64 190) ?_))))))))
     exact fun w' hw => ⟨by rw [show guestsB ds vs = false from by unfold guestsB; rw [show ds.all (dmayB vs) = false from List.all_eq_false.2 ⟨x18, List.mem_of_getElem? hx18, by simp [dmayB, q21]⟩]; simp]; rfl, hw.below⟩
    ·
     refine cD (.bool true) Try.call45 (fun w hw => by have := may_d x18 w; rw [q21] at this; exact this) (qo0 5 [(4, .go (owns 1 0 2)), (6, .go (owns 0 0 1))] [1, 20, 21, 22] [(29, .bool false), (30, .agg #[.slice (some ⟨b16, o16, none⟩) n cap, .slice q m capv]), (32, .int .i64 x18.id)] (cD (.int .i64 ((cntV vs x18.id : Nat))) Try.call46 (fun w hw => count_d (some ⟨b16, o16, none⟩) n cap ds q m capv vs x18.id w (hvs.kept hw.below) hm (by omega)) ?_))
     by_cases q26 : ((cntV vs x18.id : Nat) : Int) > (8 : Int)
     ·
      refine qo 2 [(8, .yes)] [1, 20, 21, 22] [(35, .bool true)] ([((cntV vs x18.id : Nat) : Int) > (8 : Int)]) (al1 q26) (on_ (ds_ (t_ (sq_ (qa0 [] [] [(2, .int .i64 190)] (ds_ (rt ([]) (.int .i64 190) ?_)))))))
      exact fun w' hw => ⟨by rw [show guestsB ds vs = false from by unfold guestsB; rw [show ds.all (dmayB vs) = false from List.all_eq_false.2 ⟨x18, List.mem_of_getElem? hx18, by simp only [dmayB, q21, Bool.true_and, decide_eq_true_eq]; omega⟩]; simp]; rfl, hw.below⟩
     ·
      refine qo 2 [(8, .no)] [1, 20, 21, 22] [(35, .bool false)] ([¬ (((cntV vs x18.id : Nat) : Int) > (8 : Int))]) (al1 q26) (on_ (ds_ (f_ (at_skip (done_block (ds_ (qa [(0, .fit)] [1, 20, 21] [(22, .int .i64 ((j0 + 1 : Nat)))] ([Fit .i64 ((j0 + 1 : Nat))]) (al1 (fit64 (by omega) (by omega))) (Done.drop (L' := [bx (γ1 0) (#[.slice (some ⟨b16, o16, none⟩) n cap, .slice q m capv]) 25]) ?_ (List.Sublist.cons _ (List.Sublist.cons_cons _ (List.Sublist.refl _)))))))))))
      exact dr [1, 20, 21, 22] (j0 + 1) ⟨by omega, by rw [List.take_add_one, hx18]; simp only [List.all_append, hI0, Option.toList_some, List.all_cons, List.all_nil, Bool.true_and, Bool.and_true]; simp only [dmayB, q21, Bool.true_and, decide_eq_true_eq]; omega⟩
   ·
    refine qa [(0, .no)] [1, 20, 21, 22] [(23, .bool false)] ([¬ (((j0 : Nat) : Int) < ((n : Nat) : Int))]) (al1 q13) (ds_ (sq_ (f_ (at_leave _ rfl (ds_ (sq_ (sq_ (qa0 [(1, .go (owns 0 1 1))] [1] [(38, .slice q m capv), (39, .int .i64 ((m : Nat))), (40, .int .i64 0)] (ds_ (at_block (at_loop (α := Nat) [1, 38, 39, 40] (fun j1 => [(1, .pointer (some ⟨γ1 0, 0, none⟩)), (38, .slice q m capv), (39, .int .i64 ((m : Nat))), (40, .int .i64 ((j1 : Nat)))]) (fun j1 => [bx (γ1 0) (#[.slice p n cap, .slice q m capv]) 25]) (fun j1 => j1 ≤ m ∧ (vs.take j1).all (vmayB ds) = true) (fun j1 => m - j1) 0 (by kernel_rfl) rfl ⟨Nat.zero_le _, rfl⟩ ?_)))))))))))
    rintro j1
    rintro ⟨hj1, hI1⟩
    refine sq_ ?_
    by_cases q34 : ((j1 : Nat) : Int) < ((m : Nat) : Int)
    ·
     refine qa [(0, .yes)] [1, 38, 39, 40] [(41, .bool true)] ([((j1 : Nat) : Int) < ((m : Nat) : Int)]) (al1 q34) (ds_ (sq_ (t_ (at_skip (ds_ (sq_ (at_block (sq_ ?_))))))))
     obtain ⟨b37, o37, rfl⟩ := hvs.pos (i := j1) (by omega)
     obtain ⟨x39, hx39⟩ := get_some (l := vs) (m := j1) (by omega)
     refine ma [(0, .at b37 o37 j1), (1, .go (outs b37 (o37 + j1 * 4) [.int .i64 x39.id, .int .i64 x39.dom, .int .u32 x39.hard, .int .u32 x39.soft])), (3, .go (owns 0 0 4))] [1, 38, 39, 40] (fun γ40 => [(6, .pointer (some ⟨γ40 0, 0, none⟩))]) (fun γ40 L => bx (γ40 0) (#[.int .i64 x39.id, .int .i64 x39.dom, .int .u32 x39.hard, .int .u32 x39.soft]) 43 :: L) (fun γ40 => [(some ⟨b37, o37, none⟩ : Option Addr) = some ⟨b37, o37, none⟩, ((j1 : Nat)) = ((j1 : Nat) : Int), j1 < m] ++ (cellsP w b37 (o37 + j1 * 4) [.int .i64 x39.id, .int .i64 x39.dom, .int .u32 x39.hard, .int .u32 x39.soft])) (fun γ40 => (alA (al2 rfl (al2 rfl (al1 (by omega)))) (rd_pre (hvs.get hx39) _ rfl))) (fun γ40 => ds_ (sq_ (ao_ (qo0 4 [(1, .go (owns 1 0 1)), (3, .go (owns 0 1 1))] [1, 6, 38, 39, 40] [(46, .slice p n cap), (48, .int .i64 x39.dom)] (cD (.tuple #[.int .i64 ((posK Dom.id ds x39.dom : Nat)), .bool (hasK Dom.id ds x39.dom)]) Try.call47 (fun w hw => placed_d p n cap ds x39.dom w (hds.kept hw.below) hn (by omega) ((ris_iffK ds).1 hrd)) (qo0 5 [] [1, 6, 38, 39, 40] [(8, .bool (hasK Dom.id ds x39.dom))] (on_ (ds_ (sq_ ?_)))))))))
     by_cases q44 : (x39.id : Int) < (1 : Int)
     ·
      refine qa [(1, .go (owns 0 0 1)), (2, .yes)] [1, 38, 39, 40] [(69, .bool true)] ([(x39.id : Int) < (1 : Int)]) (al1 q44) (ds_ (t_ (sq_ (qa0 [] [] [(2, .int .i64 190)] (ds_ (rt ([]) (.int .i64 190) ?_))))))
      exact fun w' hw => ⟨by rw [show guestsB ds vs = false from by unfold guestsB; rw [show vs.all (vmayB ds) = false from List.all_eq_false.2 ⟨x39, List.mem_of_getElem? hx39, by simp only [vmayB, Bool.and_eq_true, decide_eq_true_eq]; omega⟩]; simp]; rfl, hw.below⟩
     ·
      by_cases q48 : (x39.id : Int) > (16 : Int)
      ·
       refine qa [(1, .go (owns 0 0 1)), (2, .no), (5, .go (owns 0 0 1)), (6, .yes)] [1, 38, 39, 40] [(69, .bool true)] ([¬ ((x39.id : Int) < (1 : Int))] ++ ([(x39.id : Int) > (16 : Int)])) (alA (al1 q44) (al1 q48)) (ds_ (t_ (sq_ (qa0 [] [] [(2, .int .i64 190)] (ds_ (rt ([]) (.int .i64 190) ?_))))))
       exact fun w' hw => ⟨by rw [show guestsB ds vs = false from by unfold guestsB; rw [show vs.all (vmayB ds) = false from List.all_eq_false.2 ⟨x39, List.mem_of_getElem? hx39, by simp only [vmayB, Bool.and_eq_true, decide_eq_true_eq]; omega⟩]; simp]; rfl, hw.below⟩
      ·
       refine ao_ (qo 11 [(1, .go (owns 0 0 1)), (2, .no), (5, .go (owns 0 0 1)), (6, .no), (10, .go (owns 0 2 2))] [1, 8, 38, 39, 40] [(60, .bool false), (62, .agg #[.int .u32 x39.hard, .int .u32 x39.soft])] ([¬ ((x39.id : Int) < (1 : Int))] ++ ([¬ ((x39.id : Int) > (16 : Int))])) (alA (al1 q44) (al1 q48)) ?_)
       rcases q52 : maskB x39.hard x39.soft with _ | _
       ·
        refine cD (.int .i64 170) Try.call48 (fun w hw => by have := mask_d x39.hard x39.soft w; rw [q52] at this; exact this) (qo0 6 [] [1, 38, 39, 40] [(69, .bool true)] (on_ (ds_ (t_ (sq_ (qa0 [] [] [(2, .int .i64 190)] (ds_ (rt ([]) (.int .i64 190) ?_))))))))
        exact fun w' hw => ⟨by rw [show guestsB ds vs = false from by unfold guestsB; rw [show vs.all (vmayB ds) = false from List.all_eq_false.2 ⟨x39, List.mem_of_getElem? hx39, by simp [vmayB, q52]⟩]; simp]; rfl, hw.below⟩
       ·
        refine cD (.int .i64 0) Try.call48 (fun w hw => by have := mask_d x39.hard x39.soft w; rw [q52] at this; exact this) ?_
        rcases q56 : hasK Dom.id ds x39.dom with _ | _
        ·
         refine qo0 6 [] [1, 38, 39, 40] [(69, .bool true)] (on_ (ds_ (t_ (sq_ (qa0 [] [] [(2, .int .i64 190)] (ds_ (rt ([]) (.int .i64 190) ?_)))))))
         exact fun w' hw => ⟨by rw [show guestsB ds vs = false from by unfold guestsB; rw [show vs.all (vmayB ds) = false from List.all_eq_false.2 ⟨x39, List.mem_of_getElem? hx39, by simp [vmayB, q56]⟩]; simp]; rfl, hw.below⟩
        ·
         refine qo0 6 [] [1, 38, 39, 40] [(69, .bool false)] (on_ (ds_ (f_ (at_skip (done_block (ds_ (qa [(0, .fit)] [1, 38, 39] [(40, .int .i64 ((j1 + 1 : Nat)))] ([Fit .i64 ((j1 + 1 : Nat))]) (al1 (fit64 (by omega) (by omega))) (Done.drop (L' := [bx (γ1 0) (#[.slice p n cap, .slice (some ⟨b37, o37, none⟩) m capv]) 25]) ?_ (List.Sublist.cons _ (List.Sublist.cons_cons _ (List.Sublist.refl _)))))))))))
         exact dr [1, 38, 39, 40] (j1 + 1) ⟨by omega, by rw [List.take_add_one, hx39]; simp only [List.all_append, hI1, Option.toList_some, List.all_cons, List.all_nil, Bool.true_and, Bool.and_true]; simp only [vmayB, q52, q56, Bool.and_true, decide_eq_true_eq]; omega⟩
    ·
     refine qa [(0, .no)] [1, 38, 39, 40] [(41, .bool false)] ([¬ (((j1 : Nat) : Int) < ((m : Nat) : Int))]) (al1 q34) (ds_ (sq_ (f_ (at_leave _ rfl (ds_ (sq_ (qa0 [] [] [(2, .int .i64 0)] (ds_ (rt ([]) (.int .i64 0) ?_)))))))))
     exact fun w' hw => ⟨by rw [List.take_of_length_le (by omega)] at hI0 hI1; simp only [guestsB, hrd, hrv, hI0, hI1]; rfl, hw.below⟩
end Go.Proofs.Ytnoefldpkfpglaa

/-! Domains: a place among any rows. -/
namespace Go.Proofs.Ytnoefldpkfpglaa
open Go Go.RowKit

set_option maxRecDepth 100000 in
theorem bswd (g : FuncId) (cb : Array Value) (p : Option Addr) (n cap : Nat) (l : List Dom) (c : Dom → Int) (k : Int) (w : World)
 (hg : ∀ args w, (callFunc g args).run Try.prog w = .ok (.enter g args) w)
 (hsl : Sv w p l) (hn : n = l.length) (hb : n ≤ 4611686018427387903)
 (hc : ∀ x ∈ l, ∀ w', Below w.heap.size w w' → Calls Try.prog g (#[.agg #[.int .i64 x.id, .int .i64 x.weight, .int .i64 x.cap, .int .i64 x.pool], .int .i64 k] ++ cb) w' fun e w1 => e = .returned (.int .i64 (c x)) ∧ Below w'.heap.size w' w1)
 : Calls Try.prog 72 #[.slice p n cap, .int .i64 k, .func (.func g) #[] cb] w fun e w' => ∃ (i : Nat) (b : Bool), e = .returned (.tuple #[.int .i64 (i : Nat), .bool b]) ∧ i ≤ n ∧ (b = true → ∃ x, l[i]? = some x ∧ c x = 0) ∧ Below w.heap.size w w' := by
 refine enter (Hs.start w) Try.func72 rfl Try.ntmps72 rfl (sq_ (qa0 [] [0, 1, 2] [] (ds_ (sq_ (qa0 [] [0, 1, 2] [(8, .int .i64 ((n : Nat)))] (ds_ (sq_ (qa0 [] [0, 1, 2, 8] [(9, .int .i64 0), (10, .int .i64 ((n : Nat)))] (ds_ (sq_ (at_block (at_loop (α := Nat × Nat) [0, 1, 2, 8, 9, 10] (fun ⟨lo, hi⟩ => [(0, .slice p n cap), (1, .int .i64 k), (2, .func (.func g) #[] cb), (8, .int .i64 ((n : Nat))), (9, .int .i64 ((lo : Nat))), (10, .int .i64 ((hi : Nat)))]) (fun ⟨lo, hi⟩ => []) (fun ⟨lo, hi⟩ => lo ≤ hi ∧ hi ≤ n) (fun ⟨lo, hi⟩ => hi - lo) (0, n) (by kernel_rfl) rfl ⟨Nat.zero_le _, Nat.le_refl _⟩ ?_))))))))))))
 rintro ⟨lo, hi⟩
 rintro ⟨h1, h2⟩
 refine sq_ (sq_ ?_)
 by_cases q5 : ((lo : Nat) : Int) < ((hi : Nat) : Int)
 ·
  refine qa [(2, .yes)] [0, 1, 2, 8, 9, 10] [(17, .bool true)] ([((lo : Nat) : Int) < ((hi : Nat) : Int)]) (al1 q5) (ds_ (t_ (at_skip (ds_ (at_block (sq_ (qa [(2, .fit), (3, .fit), (4, .is [] (.int .u64 ((lo + hi) / 2 : Nat))), (5, .fit)] [0, 1, 2, 8, 9, 10] [(11, .int .i64 (((lo + hi) / 2 : Nat)))] ([Fit .i64 ((lo + hi : Nat))] ++ ([Fit .u64 ((lo + hi : Nat))] ++ ([Value.int .u64 (Int.fdiv ((lo : Nat) + (hi : Nat)) (2 ^ 1)) = .int .u64 (((lo + hi) / 2 : Nat) : Int)] ++ ([Fit .i64 (((lo + hi) / 2 : Nat))])))) (alA (al1 (fit64 (by omega) (by omega))) (alA (al1 (fitU (by omega) (by omega))) (alA (al1 (half lo hi)) (al1 (fit64 (by omega) (by omega)))))) (ds_ (sq_ ?_)))))))))
  obtain ⟨b9, o9, rfl⟩ := hsl.pos (i := (lo + hi) / 2) (by omega)
  obtain ⟨x11, hx11⟩ := get_some (l := l) (m := (lo + hi) / 2) (by omega)
  refine ao_ (qo 6 [(3, .at b9 o9 ((lo + hi) / 2)), (4, .go (outs b9 (o9 + ((lo + hi) / 2) * 4) [.int .i64 x11.id, .int .i64 x11.weight, .int .i64 x11.cap, .int .i64 x11.pool]))] [0, 1, 2, 8, 9, 10, 11] [(24, .func (.func g) #[] cb), (28, .agg #[.int .i64 x11.id, .int .i64 x11.weight, .int .i64 x11.cap, .int .i64 x11.pool]), (29, .int .i64 k)] ([(some ⟨b9, o9, none⟩ : Option Addr) = some ⟨b9, o9, none⟩, (((lo + hi) / 2 : Nat)) = (((lo + hi) / 2 : Nat) : Int), (lo + hi) / 2 < n] ++ (cellsP w b9 (o9 + ((lo + hi) / 2) * 4) [.int .i64 x11.id, .int .i64 x11.weight, .int .i64 x11.cap, .int .i64 x11.pool])) (alA (al2 rfl (al2 rfl (al1 (by omega)))) (rd_pre (hsl.get hx11) _ rfl)) (cD (.int .i64 (c x11)) hg (fun w hw => hc x11 (List.mem_of_getElem? hx11) w hw.below) ?_))
  by_cases q14 : (c x11 : Int) < (0 : Int)
  ·
   refine qo 1 [(7, .yes)] [0, 1, 2, 8, 9, 10, 11] [(31, .bool true)] ([(c x11 : Int) < (0 : Int)]) (al1 q14) (on_ (ds_ (t_ (qa [(1, .fit)] [0, 1, 2, 8, 10] [(9, .int .i64 (((lo + hi) / 2 + 1 : Nat)))] ([Fit .i64 (((lo + hi) / 2 + 1 : Nat))]) (al1 (fit64 (by omega) (by omega))) (done_block ?_)))))
   exact dr [0, 1, 2, 8, 9, 10] ((lo + hi) / 2 + 1, hi) ⟨by omega, by omega⟩
  ·
   refine qo 1 [(7, .no)] [0, 1, 2, 8, 9, 10, 11] [(31, .bool false)] ([¬ ((c x11 : Int) < (0 : Int))]) (al1 q14) (on_ (ds_ (f_ (qa0 [] [0, 1, 2, 8, 9] [(10, .int .i64 (((lo + hi) / 2 : Nat)))] (done_block ?_)))))
   exact dr [0, 1, 2, 8, 9, 10] (lo, (lo + hi) / 2) ⟨by omega, by omega⟩
 ·
  refine qa [(2, .no)] [0, 1, 2, 8, 9, 10] [(17, .bool false)] ([¬ (((lo : Nat) : Int) < ((hi : Nat) : Int))]) (al1 q5) (ds_ (f_ (at_leave _ rfl (ds_ (sq_ ?_)))))
  by_cases q21 : ((lo : Nat) : Int) < ((n : Nat) : Int)
  ·
   obtain ⟨b23, o23, rfl⟩ := hsl.pos (i := lo) (by omega)
   obtain ⟨x25, hx25⟩ := get_some (l := l) (m := lo) (by omega)
   refine ao_ (qo 11 [(3, .yes), (8, .at b23 o23 lo), (9, .go (outs b23 (o23 + lo * 4) [.int .i64 x25.id, .int .i64 x25.weight, .int .i64 x25.cap, .int .i64 x25.pool]))] [] [(35, .int .i64 ((lo : Nat))), (39, .bool true), (40, .func (.func g) #[] cb), (44, .agg #[.int .i64 x25.id, .int .i64 x25.weight, .int .i64 x25.cap, .int .i64 x25.pool]), (45, .int .i64 k)] ([((lo : Nat) : Int) < ((n : Nat) : Int)] ++ ([(some ⟨b23, o23, none⟩ : Option Addr) = some ⟨b23, o23, none⟩, ((lo : Nat)) = ((lo : Nat) : Int), lo < n] ++ (cellsP w b23 (o23 + lo * 4) [.int .i64 x25.id, .int .i64 x25.weight, .int .i64 x25.cap, .int .i64 x25.pool]))) (alA (al1 q21) (alA (al2 rfl (al2 rfl (al1 (by omega)))) (rd_pre (hsl.get hx25) _ rfl))) (cD (.int .i64 (c x25)) hg (fun w hw => hc x25 (List.mem_of_getElem? hx25) w hw.below) ?_))
   by_cases q28 : (c x25 : Int) = (0 : Int)
   ·
    refine qo 4 [(12, .yes)] [] [(6, .int .i64 ((lo : Nat))), (7, .bool true)] ([(c x25 : Int) = (0 : Int)]) (al1 q28) (on_ (ds_ (rt ([]) (.tuple #[.int .i64 ((lo : Nat)), .bool true]) ?_)))
    exact fun w' hw => ⟨lo, true, rfl, by omega, fun _ => ⟨x25, hx25, q28⟩, hw.below⟩
   ·
    refine qo 4 [(12, .no)] [] [(6, .int .i64 ((lo : Nat))), (7, .bool false)] ([¬ ((c x25 : Int) = (0 : Int))]) (al1 q28) (on_ (ds_ (rt ([]) (.tuple #[.int .i64 ((lo : Nat)), .bool false]) ?_)))
    exact fun w' hw => ⟨lo, false, rfl, by omega, fun h => (by cases h), hw.below⟩
  ·
   refine qa [(3, .no)] [] [(6, .int .i64 ((lo : Nat))), (7, .bool false)] ([¬ (((lo : Nat) : Int) < ((n : Nat) : Int))]) (al1 q21) (ds_ (rt ([]) (.tuple #[.int .i64 ((lo : Nat)), .bool false]) ?_))
   exact fun w' hw => ⟨lo, false, rfl, by omega, fun h => (by cases h), hw.below⟩

set_option maxRecDepth 100000 in
theorem bswv (g : FuncId) (cb : Array Value) (p : Option Addr) (n cap : Nat) (l : List Vcp) (c : Vcp → Int) (k : Int) (w : World)
 (hg : ∀ args w, (callFunc g args).run Try.prog w = .ok (.enter g args) w)
 (hsl : Sv w p l) (hn : n = l.length) (hb : n ≤ 4611686018427387903)
 (hc : ∀ x ∈ l, ∀ w', Below w.heap.size w w' → Calls Try.prog g (#[.agg #[.int .i64 x.id, .int .i64 x.dom, .int .u32 x.hard, .int .u32 x.soft], .int .i64 k] ++ cb) w' fun e w1 => e = .returned (.int .i64 (c x)) ∧ Below w'.heap.size w' w1)
 : Calls Try.prog 78 #[.slice p n cap, .int .i64 k, .func (.func g) #[] cb] w fun e w' => ∃ (i : Nat) (b : Bool), e = .returned (.tuple #[.int .i64 (i : Nat), .bool b]) ∧ i ≤ n ∧ (b = true → ∃ x, l[i]? = some x ∧ c x = 0) ∧ Below w.heap.size w w' := by
 refine enter (Hs.start w) Try.func78 rfl Try.ntmps78 rfl (sq_ (qa0 [] [0, 1, 2] [] (ds_ (sq_ (qa0 [] [0, 1, 2] [(8, .int .i64 ((n : Nat)))] (ds_ (sq_ (qa0 [] [0, 1, 2, 8] [(9, .int .i64 0), (10, .int .i64 ((n : Nat)))] (ds_ (sq_ (at_block (at_loop (α := Nat × Nat) [0, 1, 2, 8, 9, 10] (fun ⟨lo, hi⟩ => [(0, .slice p n cap), (1, .int .i64 k), (2, .func (.func g) #[] cb), (8, .int .i64 ((n : Nat))), (9, .int .i64 ((lo : Nat))), (10, .int .i64 ((hi : Nat)))]) (fun ⟨lo, hi⟩ => []) (fun ⟨lo, hi⟩ => lo ≤ hi ∧ hi ≤ n) (fun ⟨lo, hi⟩ => hi - lo) (0, n) (by kernel_rfl) rfl ⟨Nat.zero_le _, Nat.le_refl _⟩ ?_))))))))))))
 rintro ⟨lo, hi⟩
 rintro ⟨h1, h2⟩
 refine sq_ (sq_ ?_)
 by_cases q5 : ((lo : Nat) : Int) < ((hi : Nat) : Int)
 ·
  refine qa [(2, .yes)] [0, 1, 2, 8, 9, 10] [(17, .bool true)] ([((lo : Nat) : Int) < ((hi : Nat) : Int)]) (al1 q5) (ds_ (t_ (at_skip (ds_ (at_block (sq_ (qa [(2, .fit), (3, .fit), (4, .is [] (.int .u64 ((lo + hi) / 2 : Nat))), (5, .fit)] [0, 1, 2, 8, 9, 10] [(11, .int .i64 (((lo + hi) / 2 : Nat)))] ([Fit .i64 ((lo + hi : Nat))] ++ ([Fit .u64 ((lo + hi : Nat))] ++ ([Value.int .u64 (Int.fdiv ((lo : Nat) + (hi : Nat)) (2 ^ 1)) = .int .u64 (((lo + hi) / 2 : Nat) : Int)] ++ ([Fit .i64 (((lo + hi) / 2 : Nat))])))) (alA (al1 (fit64 (by omega) (by omega))) (alA (al1 (fitU (by omega) (by omega))) (alA (al1 (half lo hi)) (al1 (fit64 (by omega) (by omega)))))) (ds_ (sq_ ?_)))))))))
  obtain ⟨b9, o9, rfl⟩ := hsl.pos (i := (lo + hi) / 2) (by omega)
  obtain ⟨x11, hx11⟩ := get_some (l := l) (m := (lo + hi) / 2) (by omega)
  refine ao_ (qo 6 [(3, .at b9 o9 ((lo + hi) / 2)), (4, .go (outs b9 (o9 + ((lo + hi) / 2) * 4) [.int .i64 x11.id, .int .i64 x11.dom, .int .u32 x11.hard, .int .u32 x11.soft]))] [0, 1, 2, 8, 9, 10, 11] [(24, .func (.func g) #[] cb), (28, .agg #[.int .i64 x11.id, .int .i64 x11.dom, .int .u32 x11.hard, .int .u32 x11.soft]), (29, .int .i64 k)] ([(some ⟨b9, o9, none⟩ : Option Addr) = some ⟨b9, o9, none⟩, (((lo + hi) / 2 : Nat)) = (((lo + hi) / 2 : Nat) : Int), (lo + hi) / 2 < n] ++ (cellsP w b9 (o9 + ((lo + hi) / 2) * 4) [.int .i64 x11.id, .int .i64 x11.dom, .int .u32 x11.hard, .int .u32 x11.soft])) (alA (al2 rfl (al2 rfl (al1 (by omega)))) (rd_pre (hsl.get hx11) _ rfl)) (cD (.int .i64 (c x11)) hg (fun w hw => hc x11 (List.mem_of_getElem? hx11) w hw.below) ?_))
  by_cases q14 : (c x11 : Int) < (0 : Int)
  ·
   refine qo 1 [(7, .yes)] [0, 1, 2, 8, 9, 10, 11] [(31, .bool true)] ([(c x11 : Int) < (0 : Int)]) (al1 q14) (on_ (ds_ (t_ (qa [(1, .fit)] [0, 1, 2, 8, 10] [(9, .int .i64 (((lo + hi) / 2 + 1 : Nat)))] ([Fit .i64 (((lo + hi) / 2 + 1 : Nat))]) (al1 (fit64 (by omega) (by omega))) (done_block ?_)))))
   exact dr [0, 1, 2, 8, 9, 10] ((lo + hi) / 2 + 1, hi) ⟨by omega, by omega⟩
  ·
   refine qo 1 [(7, .no)] [0, 1, 2, 8, 9, 10, 11] [(31, .bool false)] ([¬ ((c x11 : Int) < (0 : Int))]) (al1 q14) (on_ (ds_ (f_ (qa0 [] [0, 1, 2, 8, 9] [(10, .int .i64 (((lo + hi) / 2 : Nat)))] (done_block ?_)))))
   exact dr [0, 1, 2, 8, 9, 10] (lo, (lo + hi) / 2) ⟨by omega, by omega⟩
 ·
  refine qa [(2, .no)] [0, 1, 2, 8, 9, 10] [(17, .bool false)] ([¬ (((lo : Nat) : Int) < ((hi : Nat) : Int))]) (al1 q5) (ds_ (f_ (at_leave _ rfl (ds_ (sq_ ?_)))))
  by_cases q21 : ((lo : Nat) : Int) < ((n : Nat) : Int)
  ·
   obtain ⟨b23, o23, rfl⟩ := hsl.pos (i := lo) (by omega)
   obtain ⟨x25, hx25⟩ := get_some (l := l) (m := lo) (by omega)
   refine ao_ (qo 11 [(3, .yes), (8, .at b23 o23 lo), (9, .go (outs b23 (o23 + lo * 4) [.int .i64 x25.id, .int .i64 x25.dom, .int .u32 x25.hard, .int .u32 x25.soft]))] [] [(35, .int .i64 ((lo : Nat))), (39, .bool true), (40, .func (.func g) #[] cb), (44, .agg #[.int .i64 x25.id, .int .i64 x25.dom, .int .u32 x25.hard, .int .u32 x25.soft]), (45, .int .i64 k)] ([((lo : Nat) : Int) < ((n : Nat) : Int)] ++ ([(some ⟨b23, o23, none⟩ : Option Addr) = some ⟨b23, o23, none⟩, ((lo : Nat)) = ((lo : Nat) : Int), lo < n] ++ (cellsP w b23 (o23 + lo * 4) [.int .i64 x25.id, .int .i64 x25.dom, .int .u32 x25.hard, .int .u32 x25.soft]))) (alA (al1 q21) (alA (al2 rfl (al2 rfl (al1 (by omega)))) (rd_pre (hsl.get hx25) _ rfl))) (cD (.int .i64 (c x25)) hg (fun w hw => hc x25 (List.mem_of_getElem? hx25) w hw.below) ?_))
   by_cases q28 : (c x25 : Int) = (0 : Int)
   ·
    refine qo 4 [(12, .yes)] [] [(6, .int .i64 ((lo : Nat))), (7, .bool true)] ([(c x25 : Int) = (0 : Int)]) (al1 q28) (on_ (ds_ (rt ([]) (.tuple #[.int .i64 ((lo : Nat)), .bool true]) ?_)))
    exact fun w' hw => ⟨lo, true, rfl, by omega, fun _ => ⟨x25, hx25, q28⟩, hw.below⟩
   ·
    refine qo 4 [(12, .no)] [] [(6, .int .i64 ((lo : Nat))), (7, .bool false)] ([¬ ((c x25 : Int) = (0 : Int))]) (al1 q28) (on_ (ds_ (rt ([]) (.tuple #[.int .i64 ((lo : Nat)), .bool false]) ?_)))
    exact fun w' hw => ⟨lo, false, rfl, by omega, fun h => (by cases h), hw.below⟩
  ·
   refine qa [(3, .no)] [] [(6, .int .i64 ((lo : Nat))), (7, .bool false)] ([¬ (((lo : Nat) : Int) < ((n : Nat) : Int))]) (al1 q21) (ds_ (rt ([]) (.tuple #[.int .i64 ((lo : Nat)), .bool false]) ?_))
   exact fun w' hw => ⟨lo, false, rfl, by omega, fun h => (by cases h), hw.below⟩

set_option maxRecDepth 100000 in
theorem placewd_d (p : Option Addr) (n cap : Nat) (ds : List Dom) (k : Int) (w : World)
 (hds : Sv w p ds) (hn : n = ds.length) (hb : n ≤ 1000)
 : Calls Try.prog 47 #[.slice p n cap, .int .i64 k, .func (.func 42) #[] #[]] w fun e w' => ∃ (i : Nat) (b : Bool), e = .returned (.tuple #[.int .i64 (i : Nat), .bool b]) ∧ i ≤ n ∧ (b = true → ∃ x, ds[i]? = some x ∧ x.id = k) ∧ Below w.heap.size w w' := by
 refine enter (Hs.start w) Try.func47 rfl Try.ntmps47 rfl (sq_ (ma0 [] [0, 1] (fun γ1 => [(5, .pointer (some ⟨γ1 0, 0, none⟩))]) (fun γ1 L => bx (γ1 0) (#[.func (.func 42) #[] #[]]) 72 :: L) (fun γ1 => ds_ (sq_ (ao_ (qo0 3 [] [] [(8, .slice p n cap), (9, .int .i64 k), (10, .func (.func 73) #[] #[.pointer (some ⟨γ1 0, 0, none⟩)])] (cP (fun v L' => ∃ (i : Nat) (b : Bool), v = .tuple #[.int .i64 (i : Nat), .bool b] ∧ L' = [bx (γ1 0) (#[.func (.func 42) #[] #[]]) 72] ∧ i ≤ n ∧ (b = true → ∃ x, ds[i]? = some x ∧ cmpI x.id k = 0)) Try.call72 (fun w hw => (bswd 73 #[.pointer (some ⟨γ1 0, 0, none⟩)] p n cap ds (fun x => cmpI x.id k) k w Try.call73 (hds.kept hw.below) hn (by omega) (fun x hx w' hb' => pl1d_d x k (γ1 0) w' (rd_one' ((hb'.block _ (hs_lt (hw.row 0 rfl))).trans (hw.row 0 rfl))))).mono (fun e w' ⟨i, b, he, h1, h2, h3⟩ => ⟨_, _, he, ⟨i, b, rfl, rfl, h1, h2⟩, hw.kept h3⟩)) ?_)))))))
 rintro v3 L3 ⟨i3, b3, rfl, rfl, hi3, hb3⟩
 refine qo0 4 [] [] [(6, .int .i64 ((i3 : Nat))), (7, .bool b3)] (on_ (ds_ (rt ([]) (.tuple #[.int .i64 ((i3 : Nat)), .bool b3]) ?_)))
 exact fun w' hw => ⟨i3, b3, rfl, hi3, fun h => by obtain ⟨x, hx, hc⟩ := hb3 h; exact ⟨x, hx, (cmpI_iff x.id k).2.1 hc⟩, hw.below⟩

set_option maxRecDepth 100000 in
theorem placewv_d (q : Option Addr) (m capv : Nat) (vs : List Vcp) (k : Int) (w : World)
 (hvs : Sv w q vs) (hm : m = vs.length) (hmb : m ≤ 1000)
 : Calls Try.prog 56 #[.slice q m capv, .int .i64 k, .func (.func 44) #[] #[]] w fun e w' => ∃ (i : Nat) (b : Bool), e = .returned (.tuple #[.int .i64 (i : Nat), .bool b]) ∧ i ≤ m ∧ (b = true → ∃ x, vs[i]? = some x ∧ x.id = k) ∧ Below w.heap.size w w' := by
 refine enter (Hs.start w) Try.func56 rfl Try.ntmps56 rfl (sq_ (ma0 [] [0, 1] (fun γ1 => [(5, .pointer (some ⟨γ1 0, 0, none⟩))]) (fun γ1 L => bx (γ1 0) (#[.func (.func 44) #[] #[]]) 74 :: L) (fun γ1 => ds_ (sq_ (ao_ (qo0 3 [] [] [(8, .slice q m capv), (9, .int .i64 k), (10, .func (.func 79) #[] #[.pointer (some ⟨γ1 0, 0, none⟩)])] (cP (fun v L' => ∃ (i : Nat) (b : Bool), v = .tuple #[.int .i64 (i : Nat), .bool b] ∧ L' = [bx (γ1 0) (#[.func (.func 44) #[] #[]]) 74] ∧ i ≤ m ∧ (b = true → ∃ x, vs[i]? = some x ∧ cmpI x.id k = 0)) Try.call78 (fun w hw => (bswv 79 #[.pointer (some ⟨γ1 0, 0, none⟩)] q m capv vs (fun x => cmpI x.id k) k w Try.call79 (hvs.kept hw.below) hm (by omega) (fun x hx w' hb' => pl1v_d x k (γ1 0) w' (rd_one' ((hb'.block _ (hs_lt (hw.row 0 rfl))).trans (hw.row 0 rfl))))).mono (fun e w' ⟨i, b, he, h1, h2, h3⟩ => ⟨_, _, he, ⟨i, b, rfl, rfl, h1, h2⟩, hw.kept h3⟩)) ?_)))))))
 rintro v3 L3 ⟨i3, b3, rfl, rfl, hi3, hb3⟩
 refine qo0 4 [] [] [(6, .int .i64 ((i3 : Nat))), (7, .bool b3)] (on_ (ds_ (rt ([]) (.tuple #[.int .i64 ((i3 : Nat)), .bool b3]) ?_)))
 exact fun w' hw => ⟨i3, b3, rfl, hi3, fun h => by obtain ⟨x, hx, hc⟩ := hb3 h; exact ⟨x, hx, (cmpI_iff x.id k).2.1 hc⟩, hw.below⟩
end Go.Proofs.Ytnoefldpkfpglaa

/-! Domains: what they tell; plain. -/
namespace Go.Proofs.Ytnoefldpkfpglaa
open Go Go.RowKit

section
variable {α β : Type} {l l2 : List α} {x y : α} {j : Nat}
theorem dsame_on (h : l.take j = l2.take j) (hx : l[j]? = some x) (hy : l2[j]? = some y) (e : x = y) : l.take (j + 1) = l2.take (j + 1) := by
  rw [List.take_add_one, List.take_add_one, h, hx, hy, e]
theorem dsame_no [DecidableEq α] (hx : l[j]? = some x) (hy : l2[j]? = some y) (e : ¬ x = y) : false = decide (l = l2) := by
  refine (decide_eq_false fun h => e ?_).symm
  rw [h, hy] at hx
  exact (Option.some.inj hx).symm
theorem dsame_yes [DecidableEq α] (h : l.take j = l2.take j) (h1 : l.length ≤ j) (h2 : l2.length ≤ j) : true = decide (l = l2) := by
  rw [List.take_of_length_le h1, List.take_of_length_le h2] at h
  exact (decide_eq_true h).symm
theorem dsame_len [DecidableEq α] (h : ¬ l.length = l2.length) : false = decide (l = l2) := (decide_eq_false fun e => h (by rw [e])).symm
end
/-- What a look for a row answers. -/
def optD : Option Dom → Value
  | some x => .tuple #[.agg #[.int .i64 x.id, .int .i64 x.weight, .int .i64 x.cap, .int .i64 x.pool], .bool true]
  | none => .tuple #[.agg #[.int .i64 0, .int .i64 0, .int .i64 0, .int .i64 0], .bool false]
def optC : Option Vcp → Value
  | some x => .tuple #[.agg #[.int .i64 x.id, .int .i64 x.dom, .int .u32 x.hard, .int .u32 x.soft], .bool true]
  | none => .tuple #[.agg #[.int .i64 0, .int .i64 0, .int .u32 0, .int .u32 0], .bool false]
/-- A look, of guests that may be. -/
def fG {α : Type} (g : Bool) (o : Option α) : Option α := if g = true then o else none
theorem fG_bad {α : Type} {g : Bool} {o : Option α} (h : g = false) : fG g o = none := by simp [fG, h]
theorem fG_ok {α : Type} {g : Bool} {o : Option α} (h : g = true) : fG g o = o := by simp [fG, h]
/-- The same for a row. -/
def lG {α : Type} (g : Bool) (o : List α) : List α := if g = true then o else []
theorem lG_bad {α : Type} {g : Bool} {o : List α} (h : g = false) : lG g o = [] := by simp [lG, h]
theorem lG_ok {α : Type} {g : Bool} {o : List α} (h : g = true) : lG g o = o := by simp [lG, h]
/-- A domain's vCPUs; a pool's. -/
def ofF (k : Int) (v : Vcp) : List Int := if v.dom = k then [v.id] else []
def ofV (vs : List Vcp) (k : Int) : List Int := vs.flatMap (ofF k)
def poolK (ds : List Dom) (k : Int) : Int := match getK Dom.id ds k with
  | some d => d.pool
  | none => 0
def inF (ds : List Dom) (k : Int) (v : Vcp) : List Int := if poolK ds v.dom = k then [v.id] else []
def inV (ds : List Dom) (vs : List Vcp) (k : Int) : List Int := vs.flatMap (inF ds k)
section
variable {ds : List Dom} {vs : List Vcp} {k : Int} {d : Dom} {v : Vcp} {j : Nat}
theorem ofF_yes (h : v.dom = k) : ofF k v = [v.id] := if_pos h
theorem ofF_no (h : ¬ v.dom = k) : ofF k v = [] := if_neg h
theorem inF_some (hg : getK Dom.id ds v.dom = some d) (h : d.pool = k) : inF ds k v = [v.id] := by simp [inF, poolK, hg, h]
theorem inF_other (hg : getK Dom.id ds v.dom = some d) (h : ¬ d.pool = k) : inF ds k v = [] := by simp [inF, poolK, hg, h]
theorem inF_none (hg : getK Dom.id ds v.dom = none) (h : (0 : Int) = k) : inF ds k v = [v.id] := by simp [inF, poolK, hg, h]
theorem inF_nil (hg : getK Dom.id ds v.dom = none) (h : ¬ (0 : Int) = k) : inF ds k v = [] := by simp [inF, poolK, hg, h]
theorem ofV_len : (ofV vs k).length = cntV vs k := by
  unfold ofV cntV
  induction vs with
  | nil => rfl
  | cons a t ih => by_cases h : a.dom = k <;> simp [ofF, h, ih]
theorem inV_le : (inV ds vs k).length ≤ vs.length := by
  unfold inV
  induction vs with
  | nil => simp
  | cons a t ih =>
    rw [List.flatMap_cons, List.length_append, List.length_cons]
    have : (inF ds k a).length ≤ 1 := by unfold inF; split <;> simp
    omega
/-- One step of a gathering. -/
theorem gath_on {α β : Type} {l : List α} {g : α → List β} {x : α} {ys : List β} {j : Nat} (hx : l[j]? = some x) (e : g x = ys) : (l.take (j + 1)).flatMap g = (l.take j).flatMap g ++ ys := by
  rw [List.take_add_one, hx, List.flatMap_append]; simp [e]
/-- A vCPU's rate. -/
def rateV (ds : List Dom) (vs : List Vcp) (k : Int) : Value := match fG (guestsB ds vs) (getK Vcp.id vs k) with
  | none => .tuple #[.int .i64 0, .int .i64 0, .bool false]
  | some v => match getK Dom.id ds v.dom with
    | some d => .tuple #[.int .i64 d.weight, .int .i64 (cntV vs d.id : Nat), .bool true]
    | none => .tuple #[.int .i64 0, .int .i64 (cntV vs 0 : Nat), .bool true]
/-- The weights of a pool's domains that have vCPUs. -/
def wF (vs : List Vcp) (k : Int) (d : Dom) : Int := if d.pool = k ∧ 0 < cntV vs d.id then d.weight else 0
def wgtV (ds : List Dom) (vs : List Vcp) (k : Int) : Int := (ds.map (wF vs k)).sum
theorem wgt_on (hx : ds[j]? = some d) : wgtV (ds.take (j + 1)) vs k = wgtV (ds.take j) vs k + wF vs k d := by
  unfold wgtV
  rw [List.take_add_one, hx]; simp [List.sum_append]
theorem wgt_zero : wgtV (ds.take 0) vs k = 0 := by simp [wgtV]
theorem wF_yes (h : d.pool = k) (hc : (cntV vs d.id : Int) > 0) : wF vs k d = d.weight := if_pos ⟨h, by omega⟩
theorem wF_pool (h : ¬ d.pool = k) : wF vs k d = 0 := if_neg fun e => h e.1
theorem wF_none (hc : ¬ (cntV vs d.id : Int) > 0) : wF vs k d = 0 := if_neg fun e => hc (by have := e.2; omega)
theorem wF_bnd (hm : mayB d = true) : 0 ≤ wF vs k d ∧ wF vs k d ≤ 65535 := by
  unfold mayB at hm
  simp only [decide_eq_true_eq] at hm
  unfold wF
  split <;> omega
end
end Go.Proofs.Ytnoefldpkfpglaa

/-! Domains: what they tell. -/
namespace Go.Proofs.Ytnoefldpkfpglaa
open Go Go.RowKit

set_option maxRecDepth 100000 in
theorem finddOk (p : Option Addr) (n cap : Nat) (ds : List Dom) (q : Option Addr) (m capv : Nat) (vs : List Vcp) (k : Int) (w : World)
 (hds : Sv w p ds) (hn : n = ds.length) (hb : n ≤ 1000)
 (hvs : Sv w q vs) (hm : m = vs.length) (hmb : m ≤ 1000)
 (hris : Ris Dom.id ds) (hgd : guestsB ds vs = true)
 : Calls Try.prog 68 #[.agg #[.slice p n cap, .slice q m capv], .slice p n cap, .int .i64 k, .func (.func 42) #[] #[]] w fun e w' => e = .returned (optD (fG (guestsB ds vs) (getK Dom.id ds k))) ∧ Below w.heap.size w w' := by
 refine enter (Hs.start w) Try.func68 rfl Try.ntmps68 rfl (sq_ (ma0 [] [1, 2, 3] (fun γ1 => [(4, .pointer (some ⟨γ1 0, 0, none⟩)), (8, .pointer (some ⟨γ1 1, 0, none⟩))]) (fun γ1 L => bx (γ1 1) (#[.int .i64 0, .int .i64 0, .int .i64 0, .int .i64 0]) 32 :: bx (γ1 0) (#[.slice p n cap, .slice q m capv]) 25 :: L) (fun γ1 => ds_ (sq_ (ma0 [] [1, 2, 3, 4, 8] (fun γ2 => [(10, .pointer (some ⟨γ2 0, 0, none⟩))]) (fun γ2 L => bx (γ2 0) (#[.int .i64 0, .int .i64 0, .int .i64 0, .int .i64 0]) 32 :: L) (fun γ2 => ds_ (sq_ (ao_ (qo0 3 [] [1, 4, 8, 10] [(14, .slice p n cap), (15, .int .i64 k), (16, .func (.func 42) #[] #[])] ?_)))))))))
 rcases hg4 : getK Dom.id ds k with _ | y4
 ·
  refine cD (.tuple #[.int .i64 ((posK Dom.id ds k : Nat)), .bool false]) Try.call47 (fun w hw => by have := placed_d p n cap ds k w (hds.kept hw.below) hn (by omega) hris; rw [hasK_none hg4] at this; exact this) (qo0 5 [] [1, 4, 8, 10] [(11, .int .i64 ((posK Dom.id ds k : Nat))), (12, .bool false)] (on_ (ds_ (sq_ (sq_ (qa0 [] [1, 8, 10, 11] [(26, .bool true)] (ds_ (t_ (sq_ (qa0 [(0, .go (owns 0 0 4)), (1, .go (owns 1 0 4))] [8] [(9, .bool false)] (ds_ (rt (owns 1 0 4) (.tuple #[.agg #[.int .i64 0, .int .i64 0, .int .i64 0, .int .i64 0], .bool false]) ?_))))))))))))
  exact fun w' hw => ⟨by rw [fG_ok hgd]; rfl, hw.below⟩
 ·
  have hp_y4 := pos_getK hris hg4
  have hl_y4 := (List.getElem?_eq_some_iff.1 hp_y4).1
  refine cD (.tuple #[.int .i64 ((posK Dom.id ds k : Nat)), .bool true]) Try.call47 (fun w hw => by have := placed_d p n cap ds k w (hds.kept hw.below) hn (by omega) hris; rw [hasK_some hg4] at this; exact this) (qo0 5 [] [1, 4, 8, 10] [(11, .int .i64 ((posK Dom.id ds k : Nat))), (12, .bool true)] (on_ (ds_ (sq_ (sq_ (ao_ (qo0 4 [(3, .go (owns 2 0 2))] [1, 8, 10, 11] [(22, .bool false), (23, .agg #[.slice p n cap, .slice q m capv])] (cD (.int .i64 0) Try.call10 (fun w hw => by have := gcheck_d p n cap ds q m capv vs w (hds.kept hw.below) hn (by omega) (hvs.kept hw.below) hm (by omega); rw [hgd] at this; exact this) (qo0 2 [] [1, 8, 10, 11] [(26, .bool false)] (on_ (ds_ (f_ (at_skip (ds_ (sq_ ?_)))))))))))))))
  obtain ⟨b12, o12, rfl⟩ := hds.pos (i := posK Dom.id ds k) (by omega)
  refine ma [(2, .at b12 o12 (posK Dom.id ds k)), (3, .go (outs b12 (o12 + (posK Dom.id ds k) * 4) [.int .i64 y4.id, .int .i64 y4.weight, .int .i64 y4.cap, .int .i64 y4.pool])), (4, .go (owns 1 0 4))] [8] (fun _ => [(9, .bool true)]) (fun _ L => (L.set 1 (bx (γ1 1) (#[.int .i64 y4.id, .int .i64 y4.weight, .int .i64 y4.cap, .int .i64 y4.pool]) 32))) (fun _ => [(some ⟨b12, o12, none⟩ : Option Addr) = some ⟨b12, o12, none⟩, ((posK Dom.id ds k : Nat)) = ((posK Dom.id ds k : Nat) : Int), posK Dom.id ds k < n] ++ (cellsP w b12 (o12 + (posK Dom.id ds k) * 4) [.int .i64 y4.id, .int .i64 y4.weight, .int .i64 y4.cap, .int .i64 y4.pool])) (fun _ => (alA (al2 rfl (al2 rfl (al1 (by omega)))) (rd_pre (hds.get hp_y4) _ rfl))) (fun _ => ds_ (rt (owns 1 0 4) (.tuple #[.agg #[.int .i64 y4.id, .int .i64 y4.weight, .int .i64 y4.cap, .int .i64 y4.pool], .bool true]) ?_))
  exact fun w' hw => ⟨by rw [fG_ok hgd]; rfl, hw.below⟩

set_option maxRecDepth 100000 in
theorem finddBad (p : Option Addr) (n cap : Nat) (ds : List Dom) (q : Option Addr) (m capv : Nat) (vs : List Vcp) (k : Int) (w : World)
 (hds : Sv w p ds) (hn : n = ds.length) (hb : n ≤ 1000)
 (hvs : Sv w q vs) (hm : m = vs.length) (hmb : m ≤ 1000)
 (hgd : guestsB ds vs = false)
 : Calls Try.prog 68 #[.agg #[.slice p n cap, .slice q m capv], .slice p n cap, .int .i64 k, .func (.func 42) #[] #[]] w fun e w' => e = .returned (optD (fG (guestsB ds vs) (getK Dom.id ds k))) ∧ Below w.heap.size w w' := by
 refine enter (Hs.start w) Try.func68 rfl Try.ntmps68 rfl (sq_ (ma0 [] [1, 2, 3] (fun γ1 => [(4, .pointer (some ⟨γ1 0, 0, none⟩)), (8, .pointer (some ⟨γ1 1, 0, none⟩))]) (fun γ1 L => bx (γ1 1) (#[.int .i64 0, .int .i64 0, .int .i64 0, .int .i64 0]) 32 :: bx (γ1 0) (#[.slice p n cap, .slice q m capv]) 25 :: L) (fun γ1 => ds_ (sq_ (ma0 [] [1, 2, 3, 4, 8] (fun γ2 => [(10, .pointer (some ⟨γ2 0, 0, none⟩))]) (fun γ2 L => bx (γ2 0) (#[.int .i64 0, .int .i64 0, .int .i64 0, .int .i64 0]) 32 :: L) (fun γ2 => ds_ (sq_ (ao_ (qo0 3 [] [1, 4, 8, 10] [(14, .slice p n cap), (15, .int .i64 k), (16, .func (.func 42) #[] #[])] (cP (fun v L' => ∃ (i : Nat) (b : Bool), v = .tuple #[.int .i64 (i : Nat), .bool b] ∧ L' = [bx (γ2 0) (#[.int .i64 0, .int .i64 0, .int .i64 0, .int .i64 0]) 32, bx (γ1 1) (#[.int .i64 0, .int .i64 0, .int .i64 0, .int .i64 0]) 32, bx (γ1 0) (#[.slice p n cap, .slice q m capv]) 25] ∧ i ≤ n ∧ (b = true → ∃ x, ds[i]? = some x ∧ x.id = k)) Try.call47 (fun w hw => (placewd_d p n cap ds k w (hds.kept hw.below) hn (by omega)).mono (fun e w' ⟨i, b, he, h1, h2, h3⟩ => ⟨_, _, he, ⟨i, b, rfl, rfl, h1, h2⟩, hw.kept h3⟩)) ?_))))))))))
 rintro v4 L4 ⟨i4, b4, rfl, rfl, hi4, hb4⟩
 refine qo0 5 [] [1, 4, 8, 10] [(11, .int .i64 ((i4 : Nat))), (12, .bool b4)] (on_ (ds_ (sq_ (sq_ ?_))))
 rcases q7 : b4 with _ | _
 ·
  refine qa0 [] [1, 8, 10, 11] [(26, .bool true)] (ds_ (t_ (sq_ (qa0 [(0, .go (owns 0 0 4)), (1, .go (owns 1 0 4))] [8] [(9, .bool false)] (ds_ (rt (owns 1 0 4) (.tuple #[.agg #[.int .i64 0, .int .i64 0, .int .i64 0, .int .i64 0], .bool false]) ?_))))))
  exact fun w' hw => ⟨by rw [fG_bad hgd]; rfl, hw.below⟩
 ·
  refine ao_ (qo0 4 [(3, .go (owns 2 0 2))] [1, 8, 10, 11] [(22, .bool false), (23, .agg #[.slice p n cap, .slice q m capv])] (cD (.int .i64 190) Try.call10 (fun w hw => by have := gcheck_d p n cap ds q m capv vs w (hds.kept hw.below) hn (by omega) (hvs.kept hw.below) hm (by omega); rw [hgd] at this; exact this) (qo0 2 [] [1, 8, 10, 11] [(26, .bool true)] (on_ (ds_ (t_ (sq_ (qa0 [(0, .go (owns 0 0 4)), (1, .go (owns 1 0 4))] [8] [(9, .bool false)] (ds_ (rt (owns 1 0 4) (.tuple #[.agg #[.int .i64 0, .int .i64 0, .int .i64 0, .int .i64 0], .bool false]) ?_))))))))))
  exact fun w' hw => ⟨by rw [fG_bad hgd]; rfl, hw.below⟩
theorem findd_d (p : Option Addr) (n cap : Nat) (ds : List Dom) (q : Option Addr) (m capv : Nat) (vs : List Vcp) (k : Int) (w : World) (hds : Sv w p ds) (hn : n = ds.length) (hb : n ≤ 1000) (hvs : Sv w q vs) (hm : m = vs.length) (hmb : m ≤ 1000)
 : Calls Try.prog 68 #[.agg #[.slice p n cap, .slice q m capv], .slice p n cap, .int .i64 k, .func (.func 42) #[] #[]] w fun e w' => e = .returned (optD (fG (guestsB ds vs) (getK Dom.id ds k))) ∧ Below w.heap.size w w' := by
 cases hgd : guestsB ds vs with
 | true => have := finddOk p n cap ds q m capv vs k w hds hn hb hvs hm hmb (GoodG.dr (guests_iff.1 hgd)) hgd; rw [hgd] at this; exact this
 | false => have := finddBad p n cap ds q m capv vs k w hds hn hb hvs hm hmb hgd; rw [hgd] at this; exact this

set_option maxRecDepth 100000 in
theorem findvOk (p : Option Addr) (n cap : Nat) (ds : List Dom) (q : Option Addr) (m capv : Nat) (vs : List Vcp) (k : Int) (w : World)
 (hds : Sv w p ds) (hn : n = ds.length) (hb : n ≤ 1000)
 (hvs : Sv w q vs) (hm : m = vs.length) (hmb : m ≤ 1000)
 (hris : Ris Vcp.id vs) (hgd : guestsB ds vs = true)
 : Calls Try.prog 69 #[.agg #[.slice p n cap, .slice q m capv], .slice q m capv, .int .i64 k, .func (.func 44) #[] #[]] w fun e w' => e = .returned (optC (fG (guestsB ds vs) (getK Vcp.id vs k))) ∧ Below w.heap.size w w' := by
 refine enter (Hs.start w) Try.func69 rfl Try.ntmps69 rfl (sq_ (ma0 [] [1, 2, 3] (fun γ1 => [(4, .pointer (some ⟨γ1 0, 0, none⟩)), (8, .pointer (some ⟨γ1 1, 0, none⟩))]) (fun γ1 L => bx (γ1 1) (#[.int .i64 0, .int .i64 0, .int .u32 0, .int .u32 0]) 43 :: bx (γ1 0) (#[.slice p n cap, .slice q m capv]) 25 :: L) (fun γ1 => ds_ (sq_ (ma0 [] [1, 2, 3, 4, 8] (fun γ2 => [(10, .pointer (some ⟨γ2 0, 0, none⟩))]) (fun γ2 L => bx (γ2 0) (#[.int .i64 0, .int .i64 0, .int .u32 0, .int .u32 0]) 43 :: L) (fun γ2 => ds_ (sq_ (ao_ (qo0 3 [] [1, 4, 8, 10] [(14, .slice q m capv), (15, .int .i64 k), (16, .func (.func 44) #[] #[])] ?_)))))))))
 rcases hg4 : getK Vcp.id vs k with _ | y4
 ·
  refine cD (.tuple #[.int .i64 ((posK Vcp.id vs k : Nat)), .bool false]) Try.call56 (fun w hw => by have := placev_d q m capv vs k w (hvs.kept hw.below) hm (by omega) hris; rw [hasK_none hg4] at this; exact this) (qo0 5 [] [1, 4, 8, 10] [(11, .int .i64 ((posK Vcp.id vs k : Nat))), (12, .bool false)] (on_ (ds_ (sq_ (sq_ (qa0 [] [1, 8, 10, 11] [(26, .bool true)] (ds_ (t_ (sq_ (qa0 [(0, .go (owns 0 0 4)), (1, .go (owns 1 0 4))] [8] [(9, .bool false)] (ds_ (rt (owns 1 0 4) (.tuple #[.agg #[.int .i64 0, .int .i64 0, .int .u32 0, .int .u32 0], .bool false]) ?_))))))))))))
  exact fun w' hw => ⟨by rw [fG_ok hgd]; rfl, hw.below⟩
 ·
  have hp_y4 := pos_getK hris hg4
  have hl_y4 := (List.getElem?_eq_some_iff.1 hp_y4).1
  refine cD (.tuple #[.int .i64 ((posK Vcp.id vs k : Nat)), .bool true]) Try.call56 (fun w hw => by have := placev_d q m capv vs k w (hvs.kept hw.below) hm (by omega) hris; rw [hasK_some hg4] at this; exact this) (qo0 5 [] [1, 4, 8, 10] [(11, .int .i64 ((posK Vcp.id vs k : Nat))), (12, .bool true)] (on_ (ds_ (sq_ (sq_ (ao_ (qo0 4 [(3, .go (owns 2 0 2))] [1, 8, 10, 11] [(22, .bool false), (23, .agg #[.slice p n cap, .slice q m capv])] (cD (.int .i64 0) Try.call10 (fun w hw => by have := gcheck_d p n cap ds q m capv vs w (hds.kept hw.below) hn (by omega) (hvs.kept hw.below) hm (by omega); rw [hgd] at this; exact this) (qo0 2 [] [1, 8, 10, 11] [(26, .bool false)] (on_ (ds_ (f_ (at_skip (ds_ (sq_ ?_)))))))))))))))
  obtain ⟨b12, o12, rfl⟩ := hvs.pos (i := posK Vcp.id vs k) (by omega)
  refine ma [(2, .at b12 o12 (posK Vcp.id vs k)), (3, .go (outs b12 (o12 + (posK Vcp.id vs k) * 4) [.int .i64 y4.id, .int .i64 y4.dom, .int .u32 y4.hard, .int .u32 y4.soft])), (4, .go (owns 1 0 4))] [8] (fun _ => [(9, .bool true)]) (fun _ L => (L.set 1 (bx (γ1 1) (#[.int .i64 y4.id, .int .i64 y4.dom, .int .u32 y4.hard, .int .u32 y4.soft]) 43))) (fun _ => [(some ⟨b12, o12, none⟩ : Option Addr) = some ⟨b12, o12, none⟩, ((posK Vcp.id vs k : Nat)) = ((posK Vcp.id vs k : Nat) : Int), posK Vcp.id vs k < m] ++ (cellsP w b12 (o12 + (posK Vcp.id vs k) * 4) [.int .i64 y4.id, .int .i64 y4.dom, .int .u32 y4.hard, .int .u32 y4.soft])) (fun _ => (alA (al2 rfl (al2 rfl (al1 (by omega)))) (rd_pre (hvs.get hp_y4) _ rfl))) (fun _ => ds_ (rt (owns 1 0 4) (.tuple #[.agg #[.int .i64 y4.id, .int .i64 y4.dom, .int .u32 y4.hard, .int .u32 y4.soft], .bool true]) ?_))
  exact fun w' hw => ⟨by rw [fG_ok hgd]; rfl, hw.below⟩

set_option maxRecDepth 100000 in
theorem findvBad (p : Option Addr) (n cap : Nat) (ds : List Dom) (q : Option Addr) (m capv : Nat) (vs : List Vcp) (k : Int) (w : World)
 (hds : Sv w p ds) (hn : n = ds.length) (hb : n ≤ 1000)
 (hvs : Sv w q vs) (hm : m = vs.length) (hmb : m ≤ 1000)
 (hgd : guestsB ds vs = false)
 : Calls Try.prog 69 #[.agg #[.slice p n cap, .slice q m capv], .slice q m capv, .int .i64 k, .func (.func 44) #[] #[]] w fun e w' => e = .returned (optC (fG (guestsB ds vs) (getK Vcp.id vs k))) ∧ Below w.heap.size w w' := by
 refine enter (Hs.start w) Try.func69 rfl Try.ntmps69 rfl (sq_ (ma0 [] [1, 2, 3] (fun γ1 => [(4, .pointer (some ⟨γ1 0, 0, none⟩)), (8, .pointer (some ⟨γ1 1, 0, none⟩))]) (fun γ1 L => bx (γ1 1) (#[.int .i64 0, .int .i64 0, .int .u32 0, .int .u32 0]) 43 :: bx (γ1 0) (#[.slice p n cap, .slice q m capv]) 25 :: L) (fun γ1 => ds_ (sq_ (ma0 [] [1, 2, 3, 4, 8] (fun γ2 => [(10, .pointer (some ⟨γ2 0, 0, none⟩))]) (fun γ2 L => bx (γ2 0) (#[.int .i64 0, .int .i64 0, .int .u32 0, .int .u32 0]) 43 :: L) (fun γ2 => ds_ (sq_ (ao_ (qo0 3 [] [1, 4, 8, 10] [(14, .slice q m capv), (15, .int .i64 k), (16, .func (.func 44) #[] #[])] (cP (fun v L' => ∃ (i : Nat) (b : Bool), v = .tuple #[.int .i64 (i : Nat), .bool b] ∧ L' = [bx (γ2 0) (#[.int .i64 0, .int .i64 0, .int .u32 0, .int .u32 0]) 43, bx (γ1 1) (#[.int .i64 0, .int .i64 0, .int .u32 0, .int .u32 0]) 43, bx (γ1 0) (#[.slice p n cap, .slice q m capv]) 25] ∧ i ≤ m ∧ (b = true → ∃ x, vs[i]? = some x ∧ x.id = k)) Try.call56 (fun w hw => (placewv_d q m capv vs k w (hvs.kept hw.below) hm (by omega)).mono (fun e w' ⟨i, b, he, h1, h2, h3⟩ => ⟨_, _, he, ⟨i, b, rfl, rfl, h1, h2⟩, hw.kept h3⟩)) ?_))))))))))
 rintro v4 L4 ⟨i4, b4, rfl, rfl, hi4, hb4⟩
 refine qo0 5 [] [1, 4, 8, 10] [(11, .int .i64 ((i4 : Nat))), (12, .bool b4)] (on_ (ds_ (sq_ (sq_ ?_))))
 rcases q7 : b4 with _ | _
 ·
  refine qa0 [] [1, 8, 10, 11] [(26, .bool true)] (ds_ (t_ (sq_ (qa0 [(0, .go (owns 0 0 4)), (1, .go (owns 1 0 4))] [8] [(9, .bool false)] (ds_ (rt (owns 1 0 4) (.tuple #[.agg #[.int .i64 0, .int .i64 0, .int .u32 0, .int .u32 0], .bool false]) ?_))))))
  exact fun w' hw => ⟨by rw [fG_bad hgd]; rfl, hw.below⟩
 ·
  refine ao_ (qo0 4 [(3, .go (owns 2 0 2))] [1, 8, 10, 11] [(22, .bool false), (23, .agg #[.slice p n cap, .slice q m capv])] (cD (.int .i64 190) Try.call10 (fun w hw => by have := gcheck_d p n cap ds q m capv vs w (hds.kept hw.below) hn (by omega) (hvs.kept hw.below) hm (by omega); rw [hgd] at this; exact this) (qo0 2 [] [1, 8, 10, 11] [(26, .bool true)] (on_ (ds_ (t_ (sq_ (qa0 [(0, .go (owns 0 0 4)), (1, .go (owns 1 0 4))] [8] [(9, .bool false)] (ds_ (rt (owns 1 0 4) (.tuple #[.agg #[.int .i64 0, .int .i64 0, .int .u32 0, .int .u32 0], .bool false]) ?_))))))))))
  exact fun w' hw => ⟨by rw [fG_bad hgd]; rfl, hw.below⟩
theorem findv_d (p : Option Addr) (n cap : Nat) (ds : List Dom) (q : Option Addr) (m capv : Nat) (vs : List Vcp) (k : Int) (w : World) (hds : Sv w p ds) (hn : n = ds.length) (hb : n ≤ 1000) (hvs : Sv w q vs) (hm : m = vs.length) (hmb : m ≤ 1000)
 : Calls Try.prog 69 #[.agg #[.slice p n cap, .slice q m capv], .slice q m capv, .int .i64 k, .func (.func 44) #[] #[]] w fun e w' => e = .returned (optC (fG (guestsB ds vs) (getK Vcp.id vs k))) ∧ Below w.heap.size w w' := by
 cases hgd : guestsB ds vs with
 | true => have := findvOk p n cap ds q m capv vs k w hds hn hb hvs hm hmb (GoodG.vr (guests_iff.1 hgd)) hgd; rw [hgd] at this; exact this
 | false => have := findvBad p n cap ds q m capv vs k w hds hn hb hvs hm hmb hgd; rw [hgd] at this; exact this

set_option maxRecDepth 100000 in
theorem gdomain_d (p : Option Addr) (n cap : Nat) (ds : List Dom) (q : Option Addr) (m capv : Nat) (vs : List Vcp) (k : Int) (w : World)
 (hds : Sv w p ds) (hn : n = ds.length) (hb : n ≤ 1000)
 (hvs : Sv w q vs) (hm : m = vs.length) (hmb : m ≤ 1000)
 : Calls Try.prog 36 #[.agg #[.slice p n cap, .slice q m capv], .int .i64 k] w fun e w' => e = .returned (optD (fG (guestsB ds vs) (getK Dom.id ds k))) ∧ Below w.heap.size w w' := by
 refine enter (Hs.start w) Try.func36 rfl Try.ntmps36 rfl (sq_ (ma0 [] [1] (fun γ1 => [(2, .pointer (some ⟨γ1 0, 0, none⟩)), (4, .pointer (some ⟨γ1 1, 0, none⟩))]) (fun γ1 L => bx (γ1 1) (#[.int .i64 0, .int .i64 0, .int .i64 0, .int .i64 0]) 32 :: bx (γ1 0) (#[.slice p n cap, .slice q m capv]) 25 :: L) (fun γ1 => ds_ (sq_ (ao_ (qo0 4 [(0, .go (owns 1 0 2)), (2, .go (owns 1 0 1))] [4] [(6, .agg #[.slice p n cap, .slice q m capv]), (8, .slice p n cap), (9, .int .i64 k)] ?_))))))
 rcases q3 : guestsB ds vs with _ | _
 ·
  refine cD (.tuple #[.agg #[.int .i64 0, .int .i64 0, .int .i64 0, .int .i64 0], .bool false]) Try.call68 (fun w hw => by have := findd_d p n cap ds q m capv vs k w (hds.kept hw.below) hn (by omega) (hvs.kept hw.below) hm (by omega); rw [fG_bad q3] at this; exact this) (qo0 4 [(7, .go (owns 0 0 4))] [4] [(5, .bool false)] (on_ (ds_ (rt (owns 0 0 4) (.tuple #[.agg #[.int .i64 0, .int .i64 0, .int .i64 0, .int .i64 0], .bool false]) ?_))))
  exact fun w' hw => ⟨rfl, hw.below⟩
 ·
  rcases hg5 : getK Dom.id ds k with _ | y5
  ·
   refine cD (.tuple #[.agg #[.int .i64 0, .int .i64 0, .int .i64 0, .int .i64 0], .bool false]) Try.call68 (fun w hw => by have := findd_d p n cap ds q m capv vs k w (hds.kept hw.below) hn (by omega) (hvs.kept hw.below) hm (by omega); rw [fG_ok q3, hg5] at this; exact this) (qo0 4 [(7, .go (owns 0 0 4))] [4] [(5, .bool false)] (on_ (ds_ (rt (owns 0 0 4) (.tuple #[.agg #[.int .i64 0, .int .i64 0, .int .i64 0, .int .i64 0], .bool false]) ?_))))
   exact fun w' hw => ⟨rfl, hw.below⟩
  ·
   refine cD (.tuple #[.agg #[.int .i64 y5.id, .int .i64 y5.weight, .int .i64 y5.cap, .int .i64 y5.pool], .bool true]) Try.call68 (fun w hw => by have := findd_d p n cap ds q m capv vs k w (hds.kept hw.below) hn (by omega) (hvs.kept hw.below) hm (by omega); rw [fG_ok q3, hg5] at this; exact this) (mo0 4 [(7, .go (owns 0 0 4))] [4] (fun _ => [(5, .bool true)]) (fun _ L => (L.set 0 (bx (γ1 1) (#[.int .i64 y5.id, .int .i64 y5.weight, .int .i64 y5.cap, .int .i64 y5.pool]) 32))) (fun _ => on_ (ds_ (rt (owns 0 0 4) (.tuple #[.agg #[.int .i64 y5.id, .int .i64 y5.weight, .int .i64 y5.cap, .int .i64 y5.pool], .bool true]) ?_))))
   exact fun w' hw => ⟨rfl, hw.below⟩

set_option maxRecDepth 100000 in
theorem gvcpu_d (p : Option Addr) (n cap : Nat) (ds : List Dom) (q : Option Addr) (m capv : Nat) (vs : List Vcp) (k : Int) (w : World)
 (hds : Sv w p ds) (hn : n = ds.length) (hb : n ≤ 1000)
 (hvs : Sv w q vs) (hm : m = vs.length) (hmb : m ≤ 1000)
 : Calls Try.prog 37 #[.agg #[.slice p n cap, .slice q m capv], .int .i64 k] w fun e w' => e = .returned (optC (fG (guestsB ds vs) (getK Vcp.id vs k))) ∧ Below w.heap.size w w' := by
 refine enter (Hs.start w) Try.func37 rfl Try.ntmps37 rfl (sq_ (ma0 [] [1] (fun γ1 => [(2, .pointer (some ⟨γ1 0, 0, none⟩)), (4, .pointer (some ⟨γ1 1, 0, none⟩))]) (fun γ1 L => bx (γ1 1) (#[.int .i64 0, .int .i64 0, .int .u32 0, .int .u32 0]) 43 :: bx (γ1 0) (#[.slice p n cap, .slice q m capv]) 25 :: L) (fun γ1 => ds_ (sq_ (ao_ (qo0 4 [(0, .go (owns 1 0 2)), (2, .go (owns 1 1 1))] [4] [(6, .agg #[.slice p n cap, .slice q m capv]), (8, .slice q m capv), (9, .int .i64 k)] ?_))))))
 rcases q3 : guestsB ds vs with _ | _
 ·
  refine cD (.tuple #[.agg #[.int .i64 0, .int .i64 0, .int .u32 0, .int .u32 0], .bool false]) Try.call69 (fun w hw => by have := findv_d p n cap ds q m capv vs k w (hds.kept hw.below) hn (by omega) (hvs.kept hw.below) hm (by omega); rw [fG_bad q3] at this; exact this) (qo0 4 [(7, .go (owns 0 0 4))] [4] [(5, .bool false)] (on_ (ds_ (rt (owns 0 0 4) (.tuple #[.agg #[.int .i64 0, .int .i64 0, .int .u32 0, .int .u32 0], .bool false]) ?_))))
  exact fun w' hw => ⟨rfl, hw.below⟩
 ·
  rcases hg5 : getK Vcp.id vs k with _ | y5
  ·
   refine cD (.tuple #[.agg #[.int .i64 0, .int .i64 0, .int .u32 0, .int .u32 0], .bool false]) Try.call69 (fun w hw => by have := findv_d p n cap ds q m capv vs k w (hds.kept hw.below) hn (by omega) (hvs.kept hw.below) hm (by omega); rw [fG_ok q3, hg5] at this; exact this) (qo0 4 [(7, .go (owns 0 0 4))] [4] [(5, .bool false)] (on_ (ds_ (rt (owns 0 0 4) (.tuple #[.agg #[.int .i64 0, .int .i64 0, .int .u32 0, .int .u32 0], .bool false]) ?_))))
   exact fun w' hw => ⟨rfl, hw.below⟩
  ·
   refine cD (.tuple #[.agg #[.int .i64 y5.id, .int .i64 y5.dom, .int .u32 y5.hard, .int .u32 y5.soft], .bool true]) Try.call69 (fun w hw => by have := findv_d p n cap ds q m capv vs k w (hds.kept hw.below) hn (by omega) (hvs.kept hw.below) hm (by omega); rw [fG_ok q3, hg5] at this; exact this) (mo0 4 [(7, .go (owns 0 0 4))] [4] (fun _ => [(5, .bool true)]) (fun _ L => (L.set 0 (bx (γ1 1) (#[.int .i64 y5.id, .int .i64 y5.dom, .int .u32 y5.hard, .int .u32 y5.soft]) 43))) (fun _ => on_ (ds_ (rt (owns 0 0 4) (.tuple #[.agg #[.int .i64 y5.id, .int .i64 y5.dom, .int .u32 y5.hard, .int .u32 y5.soft], .bool true]) ?_))))
   exact fun w' hw => ⟨rfl, hw.below⟩
end Go.Proofs.Ytnoefldpkfpglaa

/-! Domains: what they tell. -/
namespace Go.Proofs.Ytnoefldpkfpglaa
open Go Go.RowKit

set_option maxRecDepth 100000 in
theorem of_d (p : Option Addr) (n cap : Nat) (ds : List Dom) (q : Option Addr) (m capv : Nat) (vs : List Vcp) (k : Int) (w : World)
 (hds : Sv w p ds) (hn : n = ds.length) (hb : n ≤ 1000)
 (hvs : Sv w q vs) (hm : m = vs.length) (hmb : m ≤ 1000)
 : Calls Try.prog 11 #[.agg #[.slice p n cap, .slice q m capv], .int .i64 k] w fun e w' => ∃ q m capq Y, e = .returned (.slice q m capq) ∧ SlO 3 Y q m capq (lG (guestsB ds vs) (ofV vs k)) ∧ m ≤ 1000 ∧ Below w.heap.size w w' ∧ Hs w Y w' := by
 refine enter (Hs.start w) Try.func11 rfl Try.ntmps11 rfl (sq_ (ma0 [] [] (fun γ1 => [(2, .pointer (some ⟨γ1 0, 0, none⟩)), (3, .pointer (some ⟨γ1 1, 0, none⟩))]) (fun γ1 L => bx (γ1 1) (#[.int .i64 k]) 3 :: bx (γ1 0) (#[.slice p n cap, .slice q m capv]) 25 :: L) (fun γ1 => ds_ (sq_ (ao_ (qo0 2 [(0, .go (owns 1 0 2))] [] [(5, .agg #[.slice p n cap, .slice q m capv]), (6, .func (.func 50) #[] #[.pointer (some ⟨γ1 1, 0, none⟩)])] (ops_inline (g := 49) (args := #[.agg #[.slice p n cap, .slice q m capv], .func (.func 50) #[] #[.pointer (some ⟨γ1 1, 0, none⟩)]]) (by kernel_rfl) (by kernel_rfl) (by kernel_rfl) (fun args w => Try.call49 args w) Try.func49 rfl Try.ntmps49 rfl (sq_ (ma0 [] [1] (fun γ3 => [(2, .pointer (some ⟨γ3 0, 0, none⟩))]) (fun γ3 L => bx (γ3 0) (#[.slice p n cap, .slice q m capv]) 25 :: L) (fun γ3 => ds_ (sq_ (sq_ (ao_ (qo0 1 [(0, .go (owns 0 0 2))] [1, 2] [(8, .agg #[.slice p n cap, .slice q m capv])] ?_))))))))))))))
 rcases q5 : guestsB ds vs with _ | _
 ·
  refine cD (.int .i64 190) Try.call10 (fun w hw => by have := gcheck_d p n cap ds q m capv vs w (hds.kept hw.below) hn (by omega) (hvs.kept hw.below) hm (by omega); rw [q5] at this; exact this) (qo0 1 [] [1, 2] [(10, .bool true)] (on_ (ds_ (t_ (sq_ (qa0 [] [] [(4, .slice none 0 0)] (ds_ (bk ([]) (.slice none 0 0) (qo0 1 [] [] [(4, .slice none 0 0)] (on_ (ds_ (rt ([]) (.slice none 0 0) ?_))))))))))))
  exact fun w' hw => ⟨none, 0, 0, [], rfl, SlO.nil, by omega, hw.below, hw.sub (List.nil_sublist _)⟩
 ·
  refine cD (.int .i64 0) Try.call10 (fun w hw => by have := gcheck_d p n cap ds q m capv vs w (hds.kept hw.below) hn (by omega) (hvs.kept hw.below) hm (by omega); rw [q5] at this; exact this) (qo0 1 [] [1, 2] [(10, .bool false)] (on_ (ds_ (f_ (at_skip (ds_ (sq_ (qa0 [] [1, 2] [(5, .slice none 0 0)] (ds_ (sq_ (sq_ (qa0 [(1, .go (owns 0 1 1))] [1, 5] [(12, .slice q m capv), (13, .int .i64 ((m : Nat))), (14, .int .i64 0)] (ds_ (at_block (at_loop (α := Nat × List Ob × Option Addr × Nat × Nat) [1, 5, 12, 13, 14] (fun ⟨j, Yo, po, nu, co⟩ => [(1, .func (.func 50) #[] #[.pointer (some ⟨γ1 1, 0, none⟩)]), (5, .slice po nu co), (12, .slice q m capv), (13, .int .i64 ((m : Nat))), (14, .int .i64 ((j : Nat)))]) (fun ⟨j, Yo, po, nu, co⟩ => bx (γ3 0) (#[.slice p n cap, .slice q m capv]) 25 :: bx (γ1 1) (#[.int .i64 k]) 3 :: bx (γ1 0) (#[.slice p n cap, .slice q m capv]) 25 :: (Yo ++ [])) (fun ⟨j, Yo, po, nu, co⟩ => j ≤ m ∧ nu ≤ j ∧ SlO 3 Yo po nu co ((vs.take j).flatMap (ofF k))) (fun ⟨j, Yo, po, nu, co⟩ => m - j) (0, [], none, 0, 0) (by kernel_rfl) rfl ⟨Nat.zero_le _, Nat.le_refl _, by rw [List.take_zero]; exact SlO.nil⟩ ?_)))))))))))))))
  rintro ⟨j, Yo, po, nu, co⟩
  rintro ⟨hj, hnu, hO⟩
  refine sq_ ?_
  by_cases q13 : ((j : Nat) : Int) < ((m : Nat) : Int)
  ·
   refine qa [(0, .yes)] [1, 5, 12, 13, 14] [(15, .bool true)] ([((j : Nat) : Int) < ((m : Nat) : Int)]) (al1 q13) (ds_ (sq_ (t_ (at_skip (ds_ (sq_ (at_block (sq_ ?_))))))))
   obtain ⟨b16, o16, rfl⟩ := hvs.pos (i := j) (by omega)
   obtain ⟨x18, hx18⟩ := get_some (l := vs) (m := j) (by omega)
   refine ma [(0, .at b16 o16 j), (1, .go (outs b16 (o16 + j * 4) [.int .i64 x18.id, .int .i64 x18.dom, .int .u32 x18.hard, .int .u32 x18.soft])), (3, .go (owns 0 0 4))] [1, 5, 12, 13, 14] (fun γ19 => [(7, .pointer (some ⟨γ19 0, 0, none⟩))]) (fun γ19 L => bx (γ19 0) (#[.int .i64 x18.id, .int .i64 x18.dom, .int .u32 x18.hard, .int .u32 x18.soft]) 43 :: L) (fun γ19 => [(some ⟨b16, o16, none⟩ : Option Addr) = some ⟨b16, o16, none⟩, ((j : Nat)) = ((j : Nat) : Int), j < m] ++ (cellsP w b16 (o16 + j * 4) [.int .i64 x18.id, .int .i64 x18.dom, .int .u32 x18.hard, .int .u32 x18.soft])) (fun γ19 => (alA (al2 rfl (al2 rfl (al1 (by omega)))) (rd_pre (hvs.get hx18) _ rfl))) (fun γ19 => ds_ (sq_ (ao_ (qo0 2 [(1, .go (owns 0 0 4))] [1, 5, 7, 12, 13, 14] [(18, .func (.func 50) #[] #[.pointer (some ⟨γ1 1, 0, none⟩)]), (19, .agg #[.int .i64 x18.id, .int .i64 x18.dom, .int .u32 x18.hard, .int .u32 x18.soft])] (ops_inline (g := 50) (args := #[.agg #[.int .i64 x18.id, .int .i64 x18.dom, .int .u32 x18.hard, .int .u32 x18.soft], .pointer (some ⟨γ1 1, 0, none⟩)]) (by kernel_rfl) (by kernel_rfl) (by kernel_rfl) (fun args w => Try.call50 args w) Try.func50 rfl Try.ntmps50 rfl (sq_ (ma0 [] [1] (fun γ21 => [(2, .pointer (some ⟨γ21 0, 0, none⟩))]) (fun γ21 L => bx (γ21 0) (#[.int .i64 x18.id, .int .i64 x18.dom, .int .u32 x18.hard, .int .u32 x18.soft]) 43 :: L) (fun γ21 => ds_ (sq_ ?_)))))))))
   by_cases q23 : (x18.dom : Int) = (k : Int)
   ·
    refine qa [(1, .go (owns 0 1 1)), (2, .go (owns 3 0 1)), (3, .yes)] [] [(3, .bool true)] ([(x18.dom : Int) = (k : Int)]) (al1 q23) (ds_ (bk ([]) (.bool true) (on_ (ds_ (t_ (ao_ (mo0 4 [(2, .go (owns 1 0 1))] [1, 12, 13, 14] (fun γ26 => [(21, .slice po nu co), (24, .slice (some ⟨γ26 0, 0, none⟩) 1 1)]) (fun γ26 L => bx (γ26 0) (#[.int .i64 x18.id]) 3 :: L) (fun γ26 => ops_append (α := Int) [bx (γ26 0) (#[.int .i64 x18.id]) 3, bx (γ21 0) (#[.int .i64 x18.id, .int .i64 x18.dom, .int .u32 x18.hard, .int .u32 x18.soft]) 43, bx (γ19 0) (#[.int .i64 x18.id, .int .i64 x18.dom, .int .u32 x18.hard, .int .u32 x18.soft]) 43, bx (γ3 0) (#[.slice p n cap, .slice (some ⟨b16, o16, none⟩) m capv]) 25, bx (γ1 1) (#[.int .i64 k]) 3, bx (γ1 0) (#[.slice p n cap, .slice (some ⟨b16, o16, none⟩) m capv]) 25] Yo ([]) (.refl _) rfl (by kernel_rfl) (by kernel_rfl) (p := po) (n := nu) (cap := co) (m := 1) (yv := .slice (some ⟨γ26 0, 0, none⟩) 1 1) (by kernel_rfl) (by kernel_rfl) (T := 3) (by_ := 8) (by kernel_rfl) (((vs.take j).flatMap (ofF k))) ([x18.id]) hO (fun w hw => src_svn Try.underlying33 (sv_row (hw.row 0 rfl) (by rfl)) (by rfl)) (by rfl) (by have hmx : maxLen = 9223372036854775807 := rfl; omega) (by have hmx : maxLen = 9223372036854775807 := rfl; omega) (fun Y27 p27 cap27 hO27 => qo0 1 [] [1, 12, 13, 14] [(5, .slice p27 (nu + 1) cap27)] (on_ (done_block (ds_ (qa [(0, .fit)] [1, 5, 12, 13] [(14, .int .i64 ((j + 1 : Nat)))] ([Fit .i64 ((j + 1 : Nat))]) (al1 (fit64 (by omega) (by omega))) (Done.drop (L' := bx (γ3 0) (#[.slice p n cap, .slice (some ⟨b16, o16, none⟩) m capv]) 25 :: bx (γ1 1) (#[.int .i64 k]) 3 :: bx (γ1 0) (#[.slice p n cap, .slice (some ⟨b16, o16, none⟩) m capv]) 25 :: (Y27 ++ [])) ?_ (List.Sublist.cons _ (List.Sublist.cons _ (List.Sublist.cons _ (List.Sublist.cons_cons _ (List.Sublist.cons_cons _ (List.Sublist.cons_cons _ (List.Sublist.refl _)))))))))))))))))))))
    exact dr [1, 5, 12, 13, 14] (j + 1, Y27, p27, (nu + 1), cap27) ⟨by omega, by omega, by rw [gath_on hx18 (ofF_yes q23)]; exact hO27⟩
   ·
    refine qa [(1, .go (owns 0 1 1)), (2, .go (owns 3 0 1)), (3, .no)] [] [(3, .bool false)] ([¬ ((x18.dom : Int) = (k : Int))]) (al1 q23) (ds_ (bk ([]) (.bool false) (on_ (ds_ (f_ (at_skip (done_block (ds_ (qa [(0, .fit)] [1, 5, 12, 13] [(14, .int .i64 ((j + 1 : Nat)))] ([Fit .i64 ((j + 1 : Nat))]) (al1 (fit64 (by omega) (by omega))) (Done.drop (L' := bx (γ3 0) (#[.slice p n cap, .slice (some ⟨b16, o16, none⟩) m capv]) 25 :: bx (γ1 1) (#[.int .i64 k]) 3 :: bx (γ1 0) (#[.slice p n cap, .slice (some ⟨b16, o16, none⟩) m capv]) 25 :: (Yo ++ [])) ?_ (List.Sublist.cons _ (List.Sublist.cons _ (List.Sublist.cons_cons _ (List.Sublist.cons_cons _ (List.Sublist.cons_cons _ (List.Sublist.refl _))))))))))))))))
    exact dr [1, 5, 12, 13, 14] (j + 1, Yo, po, nu, co) ⟨by omega, by omega, by rw [gath_on hx18 (ofF_no q23), List.append_nil]; exact hO⟩
  ·
   refine qa [(0, .no)] [1, 5, 12, 13, 14] [(15, .bool false)] ([¬ (((j : Nat) : Int) < ((m : Nat) : Int))]) (al1 q13) (ds_ (sq_ (f_ (at_leave _ rfl (ds_ (sq_ (qa0 [] [] [(4, .slice po nu co)] (ds_ (bk ([]) (.slice po nu co) (qo0 1 [] [] [(4, .slice po nu co)] (on_ (ds_ (rt ([]) (.slice po nu co) ?_)))))))))))))
   exact fun w' hw => by rw [List.take_of_length_le (by omega)] at hO; exact ⟨_, _, _, _, rfl, hO, by omega, hw.below, ((hw.tailN 3).sub (List.sublist_append_left Yo ([])))⟩

set_option maxRecDepth 100000 in
theorem in_d (p : Option Addr) (n cap : Nat) (ds : List Dom) (q : Option Addr) (m capv : Nat) (vs : List Vcp) (k : Int) (w : World)
 (hds : Sv w p ds) (hn : n = ds.length) (hb : n ≤ 1000)
 (hvs : Sv w q vs) (hm : m = vs.length) (hmb : m ≤ 1000)
 : Calls Try.prog 13 #[.agg #[.slice p n cap, .slice q m capv], .int .i64 k] w fun e w' => ∃ q m capq Y, e = .returned (.slice q m capq) ∧ SlO 3 Y q m capq (lG (guestsB ds vs) (inV ds vs k)) ∧ m ≤ 1000 ∧ Below w.heap.size w w' ∧ Hs w Y w' := by
 refine enter (Hs.start w) Try.func13 rfl Try.ntmps13 rfl (sq_ (ma0 [] [] (fun γ1 => [(2, .pointer (some ⟨γ1 0, 0, none⟩)), (3, .pointer (some ⟨γ1 1, 0, none⟩))]) (fun γ1 L => bx (γ1 1) (#[.int .i64 k]) 3 :: bx (γ1 0) (#[.slice p n cap, .slice q m capv]) 25 :: L) (fun γ1 => ds_ (sq_ (ao_ (qo0 2 [(0, .go (owns 1 0 2))] [] [(5, .agg #[.slice p n cap, .slice q m capv]), (6, .func (.func 51) #[] #[.pointer (some ⟨γ1 0, 0, none⟩), .pointer (some ⟨γ1 1, 0, none⟩)])] (ops_inline (g := 49) (args := #[.agg #[.slice p n cap, .slice q m capv], .func (.func 51) #[] #[.pointer (some ⟨γ1 0, 0, none⟩), .pointer (some ⟨γ1 1, 0, none⟩)]]) (by kernel_rfl) (by kernel_rfl) (by kernel_rfl) (fun args w => Try.call49 args w) Try.func49 rfl Try.ntmps49 rfl (sq_ (ma0 [] [1] (fun γ3 => [(2, .pointer (some ⟨γ3 0, 0, none⟩))]) (fun γ3 L => bx (γ3 0) (#[.slice p n cap, .slice q m capv]) 25 :: L) (fun γ3 => ds_ (sq_ (sq_ (ao_ (qo0 1 [(0, .go (owns 0 0 2))] [1, 2] [(8, .agg #[.slice p n cap, .slice q m capv])] ?_))))))))))))))
 rcases q5 : guestsB ds vs with _ | _
 ·
  refine cD (.int .i64 190) Try.call10 (fun w hw => by have := gcheck_d p n cap ds q m capv vs w (hds.kept hw.below) hn (by omega) (hvs.kept hw.below) hm (by omega); rw [q5] at this; exact this) (qo0 1 [] [1, 2] [(10, .bool true)] (on_ (ds_ (t_ (sq_ (qa0 [] [] [(4, .slice none 0 0)] (ds_ (bk ([]) (.slice none 0 0) (qo0 1 [] [] [(4, .slice none 0 0)] (on_ (ds_ (rt ([]) (.slice none 0 0) ?_))))))))))))
  exact fun w' hw => ⟨none, 0, 0, [], rfl, SlO.nil, by omega, hw.below, hw.sub (List.nil_sublist _)⟩
 ·
  refine cD (.int .i64 0) Try.call10 (fun w hw => by have := gcheck_d p n cap ds q m capv vs w (hds.kept hw.below) hn (by omega) (hvs.kept hw.below) hm (by omega); rw [q5] at this; exact this) (qo0 1 [] [1, 2] [(10, .bool false)] (on_ (ds_ (f_ (at_skip (ds_ (sq_ (qa0 [] [1, 2] [(5, .slice none 0 0)] (ds_ (sq_ (sq_ (qa0 [(1, .go (owns 0 1 1))] [1, 5] [(12, .slice q m capv), (13, .int .i64 ((m : Nat))), (14, .int .i64 0)] (ds_ (at_block (at_loop (α := Nat × List Ob × Option Addr × Nat × Nat) [1, 5, 12, 13, 14] (fun ⟨j, Yo, po, nu, co⟩ => [(1, .func (.func 51) #[] #[.pointer (some ⟨γ1 0, 0, none⟩), .pointer (some ⟨γ1 1, 0, none⟩)]), (5, .slice po nu co), (12, .slice q m capv), (13, .int .i64 ((m : Nat))), (14, .int .i64 ((j : Nat)))]) (fun ⟨j, Yo, po, nu, co⟩ => bx (γ3 0) (#[.slice p n cap, .slice q m capv]) 25 :: bx (γ1 1) (#[.int .i64 k]) 3 :: bx (γ1 0) (#[.slice p n cap, .slice q m capv]) 25 :: (Yo ++ [])) (fun ⟨j, Yo, po, nu, co⟩ => j ≤ m ∧ nu ≤ j ∧ SlO 3 Yo po nu co ((vs.take j).flatMap (inF ds k))) (fun ⟨j, Yo, po, nu, co⟩ => m - j) (0, [], none, 0, 0) (by kernel_rfl) rfl ⟨Nat.zero_le _, Nat.le_refl _, by rw [List.take_zero]; exact SlO.nil⟩ ?_)))))))))))))))
  rintro ⟨j, Yo, po, nu, co⟩
  rintro ⟨hj, hnu, hO⟩
  refine sq_ ?_
  by_cases q13 : ((j : Nat) : Int) < ((m : Nat) : Int)
  ·
   refine qa [(0, .yes)] [1, 5, 12, 13, 14] [(15, .bool true)] ([((j : Nat) : Int) < ((m : Nat) : Int)]) (al1 q13) (ds_ (sq_ (t_ (at_skip (ds_ (sq_ (at_block (sq_ ?_))))))))
   obtain ⟨b16, o16, rfl⟩ := hvs.pos (i := j) (by omega)
   obtain ⟨x18, hx18⟩ := get_some (l := vs) (m := j) (by omega)
   refine ma [(0, .at b16 o16 j), (1, .go (outs b16 (o16 + j * 4) [.int .i64 x18.id, .int .i64 x18.dom, .int .u32 x18.hard, .int .u32 x18.soft])), (3, .go (owns 0 0 4))] [1, 5, 12, 13, 14] (fun γ19 => [(7, .pointer (some ⟨γ19 0, 0, none⟩))]) (fun γ19 L => bx (γ19 0) (#[.int .i64 x18.id, .int .i64 x18.dom, .int .u32 x18.hard, .int .u32 x18.soft]) 43 :: L) (fun γ19 => [(some ⟨b16, o16, none⟩ : Option Addr) = some ⟨b16, o16, none⟩, ((j : Nat)) = ((j : Nat) : Int), j < m] ++ (cellsP w b16 (o16 + j * 4) [.int .i64 x18.id, .int .i64 x18.dom, .int .u32 x18.hard, .int .u32 x18.soft])) (fun γ19 => (alA (al2 rfl (al2 rfl (al1 (by omega)))) (rd_pre (hvs.get hx18) _ rfl))) (fun γ19 => ds_ (sq_ (ao_ (qo0 2 [(1, .go (owns 0 0 4))] [1, 5, 7, 12, 13, 14] [(18, .func (.func 51) #[] #[.pointer (some ⟨γ1 0, 0, none⟩), .pointer (some ⟨γ1 1, 0, none⟩)]), (19, .agg #[.int .i64 x18.id, .int .i64 x18.dom, .int .u32 x18.hard, .int .u32 x18.soft])] (ops_inline (g := 51) (args := #[.agg #[.int .i64 x18.id, .int .i64 x18.dom, .int .u32 x18.hard, .int .u32 x18.soft], .pointer (some ⟨γ1 0, 0, none⟩), .pointer (some ⟨γ1 1, 0, none⟩)]) (by kernel_rfl) (by kernel_rfl) (by kernel_rfl) (fun args w => Try.call51 args w) Try.func51 rfl Try.ntmps51 rfl (sq_ (ma0 [] [1, 2] (fun γ21 => [(3, .pointer (some ⟨γ21 0, 0, none⟩))]) (fun γ21 L => bx (γ21 0) (#[.int .i64 x18.id, .int .i64 x18.dom, .int .u32 x18.hard, .int .u32 x18.soft]) 43 :: L) (fun γ21 => ds_ (sq_ (ao_ (qo0 3 [(0, .go (owns 4 0 2)), (2, .go (owns 0 1 1))] [2] [(8, .agg #[.slice p n cap, .slice (some ⟨b16, o16, none⟩) m capv]), (10, .int .i64 x18.dom)] ?_)))))))))))
   rcases hg23 : getK Dom.id ds x18.dom with _ | y23
   ·
    refine cD (.tuple #[.agg #[.int .i64 0, .int .i64 0, .int .i64 0, .int .i64 0], .bool false]) Try.call36 (fun w hw => by have := gdomain_d p n cap ds (some ⟨b16, o16, none⟩) m capv vs x18.dom w (hds.kept hw.below) hn (by omega) (hvs.kept hw.below) hm (by omega); rw [fG_ok q5, hg23] at this; exact this) (mo0 6 [(8, .go (owns 0 0 4))] [2] (fun γ24 => [(5, .pointer (some ⟨γ24 0, 0, none⟩))]) (fun γ24 L => bx (γ24 0) (#[.int .i64 0, .int .i64 0, .int .i64 0, .int .i64 0]) 32 :: L) (fun γ24 => on_ (ds_ (sq_ ?_))))
    by_cases q26 : (0 : Int) = (k : Int)
    ·
     refine qa [(1, .go (owns 0 3 1)), (2, .go (owns 4 0 1)), (3, .yes)] [] [(4, .bool true)] ([(0 : Int) = (k : Int)]) (al1 q26) (ds_ (bk ([]) (.bool true) (on_ (ds_ (t_ (ao_ (mo0 4 [(2, .go (owns 2 0 1))] [1, 12, 13, 14] (fun γ29 => [(21, .slice po nu co), (24, .slice (some ⟨γ29 0, 0, none⟩) 1 1)]) (fun γ29 L => bx (γ29 0) (#[.int .i64 x18.id]) 3 :: L) (fun γ29 => ops_append (α := Int) [bx (γ29 0) (#[.int .i64 x18.id]) 3, bx (γ24 0) (#[.int .i64 0, .int .i64 0, .int .i64 0, .int .i64 0]) 32, bx (γ21 0) (#[.int .i64 x18.id, .int .i64 x18.dom, .int .u32 x18.hard, .int .u32 x18.soft]) 43, bx (γ19 0) (#[.int .i64 x18.id, .int .i64 x18.dom, .int .u32 x18.hard, .int .u32 x18.soft]) 43, bx (γ3 0) (#[.slice p n cap, .slice (some ⟨b16, o16, none⟩) m capv]) 25, bx (γ1 1) (#[.int .i64 k]) 3, bx (γ1 0) (#[.slice p n cap, .slice (some ⟨b16, o16, none⟩) m capv]) 25] Yo ([]) (.refl _) rfl (by kernel_rfl) (by kernel_rfl) (p := po) (n := nu) (cap := co) (m := 1) (yv := .slice (some ⟨γ29 0, 0, none⟩) 1 1) (by kernel_rfl) (by kernel_rfl) (T := 3) (by_ := 8) (by kernel_rfl) (((vs.take j).flatMap (inF ds k))) ([x18.id]) hO (fun w hw => src_svn Try.underlying33 (sv_row (hw.row 0 rfl) (by rfl)) (by rfl)) (by rfl) (by have hmx : maxLen = 9223372036854775807 := rfl; omega) (by have hmx : maxLen = 9223372036854775807 := rfl; omega) (fun Y30 p30 cap30 hO30 => qo0 1 [] [1, 12, 13, 14] [(5, .slice p30 (nu + 1) cap30)] (on_ (done_block (ds_ (qa [(0, .fit)] [1, 5, 12, 13] [(14, .int .i64 ((j + 1 : Nat)))] ([Fit .i64 ((j + 1 : Nat))]) (al1 (fit64 (by omega) (by omega))) (Done.drop (L' := bx (γ3 0) (#[.slice p n cap, .slice (some ⟨b16, o16, none⟩) m capv]) 25 :: bx (γ1 1) (#[.int .i64 k]) 3 :: bx (γ1 0) (#[.slice p n cap, .slice (some ⟨b16, o16, none⟩) m capv]) 25 :: (Y30 ++ [])) ?_ (List.Sublist.cons _ (List.Sublist.cons _ (List.Sublist.cons _ (List.Sublist.cons _ (List.Sublist.cons_cons _ (List.Sublist.cons_cons _ (List.Sublist.cons_cons _ (List.Sublist.refl _))))))))))))))))))))))
     exact dr [1, 5, 12, 13, 14] (j + 1, Y30, p30, (nu + 1), cap30) ⟨by omega, by omega, by rw [gath_on hx18 (inF_none hg23 q26)]; exact hO30⟩
    ·
     refine qa [(1, .go (owns 0 3 1)), (2, .go (owns 4 0 1)), (3, .no)] [] [(4, .bool false)] ([¬ ((0 : Int) = (k : Int))]) (al1 q26) (ds_ (bk ([]) (.bool false) (on_ (ds_ (f_ (at_skip (done_block (ds_ (qa [(0, .fit)] [1, 5, 12, 13] [(14, .int .i64 ((j + 1 : Nat)))] ([Fit .i64 ((j + 1 : Nat))]) (al1 (fit64 (by omega) (by omega))) (Done.drop (L' := bx (γ3 0) (#[.slice p n cap, .slice (some ⟨b16, o16, none⟩) m capv]) 25 :: bx (γ1 1) (#[.int .i64 k]) 3 :: bx (γ1 0) (#[.slice p n cap, .slice (some ⟨b16, o16, none⟩) m capv]) 25 :: (Yo ++ [])) ?_ (List.Sublist.cons _ (List.Sublist.cons _ (List.Sublist.cons _ (List.Sublist.cons_cons _ (List.Sublist.cons_cons _ (List.Sublist.cons_cons _ (List.Sublist.refl _)))))))))))))))))
     exact dr [1, 5, 12, 13, 14] (j + 1, Yo, po, nu, co) ⟨by omega, by omega, by rw [gath_on hx18 (inF_nil hg23 q26), List.append_nil]; exact hO⟩
   ·
    refine cD (.tuple #[.agg #[.int .i64 y23.id, .int .i64 y23.weight, .int .i64 y23.cap, .int .i64 y23.pool], .bool true]) Try.call36 (fun w hw => by have := gdomain_d p n cap ds (some ⟨b16, o16, none⟩) m capv vs x18.dom w (hds.kept hw.below) hn (by omega) (hvs.kept hw.below) hm (by omega); rw [fG_ok q5, hg23] at this; exact this) (mo0 6 [(8, .go (owns 0 0 4))] [2] (fun γ36 => [(5, .pointer (some ⟨γ36 0, 0, none⟩))]) (fun γ36 L => bx (γ36 0) (#[.int .i64 y23.id, .int .i64 y23.weight, .int .i64 y23.cap, .int .i64 y23.pool]) 32 :: L) (fun γ36 => on_ (ds_ (sq_ ?_))))
    by_cases q38 : (y23.pool : Int) = (k : Int)
    ·
     refine qa [(1, .go (owns 0 3 1)), (2, .go (owns 4 0 1)), (3, .yes)] [] [(4, .bool true)] ([(y23.pool : Int) = (k : Int)]) (al1 q38) (ds_ (bk ([]) (.bool true) (on_ (ds_ (t_ (ao_ (mo0 4 [(2, .go (owns 2 0 1))] [1, 12, 13, 14] (fun γ41 => [(21, .slice po nu co), (24, .slice (some ⟨γ41 0, 0, none⟩) 1 1)]) (fun γ41 L => bx (γ41 0) (#[.int .i64 x18.id]) 3 :: L) (fun γ41 => ops_append (α := Int) [bx (γ41 0) (#[.int .i64 x18.id]) 3, bx (γ36 0) (#[.int .i64 y23.id, .int .i64 y23.weight, .int .i64 y23.cap, .int .i64 y23.pool]) 32, bx (γ21 0) (#[.int .i64 x18.id, .int .i64 x18.dom, .int .u32 x18.hard, .int .u32 x18.soft]) 43, bx (γ19 0) (#[.int .i64 x18.id, .int .i64 x18.dom, .int .u32 x18.hard, .int .u32 x18.soft]) 43, bx (γ3 0) (#[.slice p n cap, .slice (some ⟨b16, o16, none⟩) m capv]) 25, bx (γ1 1) (#[.int .i64 k]) 3, bx (γ1 0) (#[.slice p n cap, .slice (some ⟨b16, o16, none⟩) m capv]) 25] Yo ([]) (.refl _) rfl (by kernel_rfl) (by kernel_rfl) (p := po) (n := nu) (cap := co) (m := 1) (yv := .slice (some ⟨γ41 0, 0, none⟩) 1 1) (by kernel_rfl) (by kernel_rfl) (T := 3) (by_ := 8) (by kernel_rfl) (((vs.take j).flatMap (inF ds k))) ([x18.id]) hO (fun w hw => src_svn Try.underlying33 (sv_row (hw.row 0 rfl) (by rfl)) (by rfl)) (by rfl) (by have hmx : maxLen = 9223372036854775807 := rfl; omega) (by have hmx : maxLen = 9223372036854775807 := rfl; omega) (fun Y42 p42 cap42 hO42 => qo0 1 [] [1, 12, 13, 14] [(5, .slice p42 (nu + 1) cap42)] (on_ (done_block (ds_ (qa [(0, .fit)] [1, 5, 12, 13] [(14, .int .i64 ((j + 1 : Nat)))] ([Fit .i64 ((j + 1 : Nat))]) (al1 (fit64 (by omega) (by omega))) (Done.drop (L' := bx (γ3 0) (#[.slice p n cap, .slice (some ⟨b16, o16, none⟩) m capv]) 25 :: bx (γ1 1) (#[.int .i64 k]) 3 :: bx (γ1 0) (#[.slice p n cap, .slice (some ⟨b16, o16, none⟩) m capv]) 25 :: (Y42 ++ [])) ?_ (List.Sublist.cons _ (List.Sublist.cons _ (List.Sublist.cons _ (List.Sublist.cons _ (List.Sublist.cons_cons _ (List.Sublist.cons_cons _ (List.Sublist.cons_cons _ (List.Sublist.refl _))))))))))))))))))))))
     exact dr [1, 5, 12, 13, 14] (j + 1, Y42, p42, (nu + 1), cap42) ⟨by omega, by omega, by rw [gath_on hx18 (inF_some hg23 q38)]; exact hO42⟩
    ·
     refine qa [(1, .go (owns 0 3 1)), (2, .go (owns 4 0 1)), (3, .no)] [] [(4, .bool false)] ([¬ ((y23.pool : Int) = (k : Int))]) (al1 q38) (ds_ (bk ([]) (.bool false) (on_ (ds_ (f_ (at_skip (done_block (ds_ (qa [(0, .fit)] [1, 5, 12, 13] [(14, .int .i64 ((j + 1 : Nat)))] ([Fit .i64 ((j + 1 : Nat))]) (al1 (fit64 (by omega) (by omega))) (Done.drop (L' := bx (γ3 0) (#[.slice p n cap, .slice (some ⟨b16, o16, none⟩) m capv]) 25 :: bx (γ1 1) (#[.int .i64 k]) 3 :: bx (γ1 0) (#[.slice p n cap, .slice (some ⟨b16, o16, none⟩) m capv]) 25 :: (Yo ++ [])) ?_ (List.Sublist.cons _ (List.Sublist.cons _ (List.Sublist.cons _ (List.Sublist.cons_cons _ (List.Sublist.cons_cons _ (List.Sublist.cons_cons _ (List.Sublist.refl _)))))))))))))))))
     exact dr [1, 5, 12, 13, 14] (j + 1, Yo, po, nu, co) ⟨by omega, by omega, by rw [gath_on hx18 (inF_other hg23 q38), List.append_nil]; exact hO⟩
  ·
   refine qa [(0, .no)] [1, 5, 12, 13, 14] [(15, .bool false)] ([¬ (((j : Nat) : Int) < ((m : Nat) : Int))]) (al1 q13) (ds_ (sq_ (f_ (at_leave _ rfl (ds_ (sq_ (qa0 [] [] [(4, .slice po nu co)] (ds_ (bk ([]) (.slice po nu co) (qo0 1 [] [] [(4, .slice po nu co)] (on_ (ds_ (rt ([]) (.slice po nu co) ?_)))))))))))))
   exact fun w' hw => by rw [List.take_of_length_le (by omega)] at hO; exact ⟨_, _, _, _, rfl, hO, by omega, hw.below, ((hw.tailN 3).sub (List.sublist_append_left Yo ([])))⟩

set_option maxRecDepth 100000 in
theorem rate_d (p : Option Addr) (n cap : Nat) (ds : List Dom) (q : Option Addr) (m capv : Nat) (vs : List Vcp) (k : Int) (w : World)
 (hds : Sv w p ds) (hn : n = ds.length) (hb : n ≤ 1000)
 (hvs : Sv w q vs) (hm : m = vs.length) (hmb : m ≤ 1000)
 : Calls Try.prog 12 #[.agg #[.slice p n cap, .slice q m capv], .int .i64 k] w fun e w' => e = .returned (rateV ds vs k) ∧ Below w.heap.size w w' := by
 refine enter (Hs.start w) Try.func12 rfl Try.ntmps12 rfl (sq_ (ma0 [] [1] (fun γ1 => [(2, .pointer (some ⟨γ1 0, 0, none⟩))]) (fun γ1 L => bx (γ1 0) (#[.slice p n cap, .slice q m capv]) 25 :: L) (fun γ1 => ds_ (sq_ (ao_ (qo0 2 [(0, .go (owns 0 0 2))] [2] [(12, .agg #[.slice p n cap, .slice q m capv]), (13, .int .i64 k)] ?_))))))
 rcases q3 : guestsB ds vs with _ | _
 ·
  refine cD (.tuple #[.agg #[.int .i64 0, .int .i64 0, .int .u32 0, .int .u32 0], .bool false]) Try.call37 (fun w hw => by have := gvcpu_d p n cap ds q m capv vs k w (hds.kept hw.below) hn (by omega) (hvs.kept hw.below) hm (by omega); rw [fG_bad q3] at this; exact this) (mo0 6 [(7, .go (owns 0 0 4))] [2] (fun γ4 => [(7, .pointer (some ⟨γ4 0, 0, none⟩)), (8, .bool false)]) (fun γ4 L => bx (γ4 0) (#[.int .i64 0, .int .i64 0, .int .u32 0, .int .u32 0]) 43 :: L) (fun γ4 => on_ (ds_ (sq_ (sq_ (qa0 [] [2, 7] [(18, .bool true)] (ds_ (t_ (sq_ (qa0 [] [] [(4, .int .i64 0), (5, .int .i64 0), (6, .bool false)] (ds_ (rt ([]) (.tuple #[.int .i64 0, .int .i64 0, .bool false]) ?_))))))))))))
  exact fun w' hw => ⟨by simp only [rateV, fG_bad q3], hw.below⟩
 ·
  rcases hg7 : getK Vcp.id vs k with _ | y7
  ·
   refine cD (.tuple #[.agg #[.int .i64 0, .int .i64 0, .int .u32 0, .int .u32 0], .bool false]) Try.call37 (fun w hw => by have := gvcpu_d p n cap ds q m capv vs k w (hds.kept hw.below) hn (by omega) (hvs.kept hw.below) hm (by omega); rw [fG_ok q3, hg7] at this; exact this) (mo0 6 [(7, .go (owns 0 0 4))] [2] (fun γ8 => [(7, .pointer (some ⟨γ8 0, 0, none⟩)), (8, .bool false)]) (fun γ8 L => bx (γ8 0) (#[.int .i64 0, .int .i64 0, .int .u32 0, .int .u32 0]) 43 :: L) (fun γ8 => on_ (ds_ (sq_ (sq_ (qa0 [] [2, 7] [(18, .bool true)] (ds_ (t_ (sq_ (qa0 [] [] [(4, .int .i64 0), (5, .int .i64 0), (6, .bool false)] (ds_ (rt ([]) (.tuple #[.int .i64 0, .int .i64 0, .bool false]) ?_))))))))))))
   exact fun w' hw => ⟨by simp only [rateV, fG_ok q3, hg7], hw.below⟩
  ·
   refine cD (.tuple #[.agg #[.int .i64 y7.id, .int .i64 y7.dom, .int .u32 y7.hard, .int .u32 y7.soft], .bool true]) Try.call37 (fun w hw => by have := gvcpu_d p n cap ds q m capv vs k w (hds.kept hw.below) hn (by omega) (hvs.kept hw.below) hm (by omega); rw [fG_ok q3, hg7] at this; exact this) (mo0 6 [(7, .go (owns 0 0 4))] [2] (fun γ11 => [(7, .pointer (some ⟨γ11 0, 0, none⟩)), (8, .bool true)]) (fun γ11 L => bx (γ11 0) (#[.int .i64 y7.id, .int .i64 y7.dom, .int .u32 y7.hard, .int .u32 y7.soft]) 43 :: L) (fun γ11 => on_ (ds_ (sq_ (sq_ (qa0 [] [2, 7] [(18, .bool false)] (ds_ (f_ (at_skip (ds_ (sq_ (ao_ (qo0 3 [(0, .go (owns 1 0 2)), (2, .go (owns 0 1 1))] [2] [(20, .agg #[.slice p n cap, .slice q m capv]), (22, .int .i64 y7.dom)] ?_)))))))))))))
   rcases hg14 : getK Dom.id ds y7.dom with _ | y14
   ·
    refine cD (.tuple #[.agg #[.int .i64 0, .int .i64 0, .int .i64 0, .int .i64 0], .bool false]) Try.call36 (fun w hw => by have := gdomain_d p n cap ds q m capv vs y7.dom w (hds.kept hw.below) hn (by omega) (hvs.kept hw.below) hm (by omega); rw [fG_ok q3, hg14] at this; exact this) (mo0 6 [(8, .go (owns 0 0 4))] [2] (fun γ15 => [(9, .pointer (some ⟨γ15 0, 0, none⟩))]) (fun γ15 L => bx (γ15 0) (#[.int .i64 0, .int .i64 0, .int .i64 0, .int .i64 0]) 32 :: L) (fun γ15 => on_ (ds_ (sq_ ?_))))
    refine at_calm rfl (by kernel_rfl) (by kernel_rfl) ?_
    refine cm 5 [(1, .go (owns 0 1 1)), (2, .go (owns 2 0 2)), (4, .go (owns 0 0 1))] [] [(27, .int .i64 0), (28, .agg #[.slice p n cap, .slice q m capv]), (30, .int .i64 0)] ([]) (by kernel_rfl) rfl al0 ?_
    refine cK (.int .i64 ((cntV vs 0 : Nat))) Try.call46 (fun w hw => count_d p n cap ds q m capv vs 0 w (hvs.kept hw.below) hm (by omega)) ?_
    refine cm 3 [] [] [(4, .int .i64 0), (5, .int .i64 ((cntV vs 0 : Nat))), (6, .bool true)] ([]) (by kernel_rfl) rfl al0 ?_
    refine calm_nil' ?_
    refine ds_ (rt ([]) (.tuple #[.int .i64 0, .int .i64 ((cntV vs 0 : Nat)), .bool true]) ?_)
    exact fun w' hw => ⟨by simp only [rateV, fG_ok q3, hg7, hg14], hw.below⟩
   ·
    refine cD (.tuple #[.agg #[.int .i64 y14.id, .int .i64 y14.weight, .int .i64 y14.cap, .int .i64 y14.pool], .bool true]) Try.call36 (fun w hw => by have := gdomain_d p n cap ds q m capv vs y7.dom w (hds.kept hw.below) hn (by omega) (hvs.kept hw.below) hm (by omega); rw [fG_ok q3, hg14] at this; exact this) (mo0 6 [(8, .go (owns 0 0 4))] [2] (fun γ18 => [(9, .pointer (some ⟨γ18 0, 0, none⟩))]) (fun γ18 L => bx (γ18 0) (#[.int .i64 y14.id, .int .i64 y14.weight, .int .i64 y14.cap, .int .i64 y14.pool]) 32 :: L) (fun γ18 => on_ (ds_ (sq_ ?_))))
    refine at_calm rfl (by kernel_rfl) (by kernel_rfl) ?_
    refine cm 5 [(1, .go (owns 0 1 1)), (2, .go (owns 2 0 2)), (4, .go (owns 0 0 1))] [] [(27, .int .i64 y14.weight), (28, .agg #[.slice p n cap, .slice q m capv]), (30, .int .i64 y14.id)] ([]) (by kernel_rfl) rfl al0 ?_
    refine cK (.int .i64 ((cntV vs y14.id : Nat))) Try.call46 (fun w hw => count_d p n cap ds q m capv vs y14.id w (hvs.kept hw.below) hm (by omega)) ?_
    refine cm 3 [] [] [(4, .int .i64 y14.weight), (5, .int .i64 ((cntV vs y14.id : Nat))), (6, .bool true)] ([]) (by kernel_rfl) rfl al0 ?_
    refine calm_nil' ?_
    refine ds_ (rt ([]) (.tuple #[.int .i64 y14.weight, .int .i64 ((cntV vs y14.id : Nat)), .bool true]) ?_)
    exact fun w' hw => ⟨by simp only [rateV, fG_ok q3, hg7, hg14], hw.below⟩

set_option maxRecDepth 100000 in
theorem weights_d (p : Option Addr) (n cap : Nat) (ds : List Dom) (q : Option Addr) (m capv : Nat) (vs : List Vcp) (k : Int) (w : World)
 (hds : Sv w p ds) (hn : n = ds.length) (hb : n ≤ 1000)
 (hvs : Sv w q vs) (hm : m = vs.length) (hmb : m ≤ 1000)
 : Calls Try.prog 14 #[.agg #[.slice p n cap, .slice q m capv], .int .i64 k] w fun e w' => e = .returned (.int .i64 (if guestsB ds vs = true then wgtV ds vs k else 0)) ∧ Below w.heap.size w w' := by
 refine enter (Hs.start w) Try.func14 rfl Try.ntmps14 rfl (sq_ (ma0 [] [1] (fun γ1 => [(2, .pointer (some ⟨γ1 0, 0, none⟩))]) (fun γ1 L => bx (γ1 0) (#[.slice p n cap, .slice q m capv]) 25 :: L) (fun γ1 => ds_ (sq_ (sq_ (ao_ (qo0 1 [(0, .go (owns 0 0 2))] [1, 2] [(8, .agg #[.slice p n cap, .slice q m capv])] ?_)))))))
 rcases q3 : guestsB ds vs with _ | _
 ·
  refine cD (.int .i64 190) Try.call10 (fun w hw => by have := gcheck_d p n cap ds q m capv vs w (hds.kept hw.below) hn (by omega) (hvs.kept hw.below) hm (by omega); rw [q3] at this; exact this) (qo0 1 [] [1, 2] [(10, .bool true)] (on_ (ds_ (t_ (sq_ (qa0 [] [] [(4, .int .i64 0)] (ds_ (rt ([]) (.int .i64 0) ?_))))))))
  exact fun w' hw => ⟨rfl, hw.below⟩
 ·
  refine cD (.int .i64 0) Try.call10 (fun w hw => by have := gcheck_d p n cap ds q m capv vs w (hds.kept hw.below) hn (by omega) (hvs.kept hw.below) hm (by omega); rw [q3] at this; exact this) (qo0 1 [] [1, 2] [(10, .bool false)] (on_ (ds_ (f_ (at_skip (ds_ (sq_ ?_)))))))
  have hgd := q3
  refine qa0 [] [1, 2] [(5, .int .i64 0)] (ds_ (sq_ (sq_ (qa0 [(1, .go (owns 0 0 1))] [1, 2, 5] [(12, .slice p n cap), (13, .int .i64 ((n : Nat))), (14, .int .i64 0)] (ds_ (at_block (at_loop (α := Nat × Int) [1, 2, 5, 12, 13, 14] (fun ⟨j, c⟩ => [(1, .int .i64 k), (2, .pointer (some ⟨γ1 0, 0, none⟩)), (5, .int .i64 c), (12, .slice p n cap), (13, .int .i64 ((n : Nat))), (14, .int .i64 ((j : Nat)))]) (fun ⟨j, c⟩ => [bx (γ1 0) (#[.slice p n cap, .slice q m capv]) 25]) (fun ⟨j, c⟩ => j ≤ n ∧ c = wgtV (ds.take j) vs k ∧ 0 ≤ c ∧ c ≤ 65535 * j) (fun ⟨j, c⟩ => n - j) (0, 0) (by kernel_rfl) rfl ⟨Nat.zero_le _, wgt_zero.symm, by omega, by omega⟩ ?_)))))))
  rintro ⟨j, c⟩
  rintro ⟨hj, hc, h0, h1⟩
  refine sq_ ?_
  by_cases q10 : ((j : Nat) : Int) < ((n : Nat) : Int)
  ·
   refine qa [(0, .yes)] [1, 2, 5, 12, 13, 14] [(15, .bool true)] ([((j : Nat) : Int) < ((n : Nat) : Int)]) (al1 q10) (ds_ (sq_ (t_ (at_skip (ds_ (sq_ (at_block (sq_ ?_))))))))
   obtain ⟨b13, o13, rfl⟩ := hds.pos (i := j) (by omega)
   obtain ⟨x15, hx15⟩ := get_some (l := ds) (m := j) (by omega)
   refine ma [(0, .at b13 o13 j), (1, .go (outs b13 (o13 + j * 4) [.int .i64 x15.id, .int .i64 x15.weight, .int .i64 x15.cap, .int .i64 x15.pool])), (3, .go (owns 0 0 4))] [1, 2, 5, 12, 13, 14] (fun γ16 => [(7, .pointer (some ⟨γ16 0, 0, none⟩))]) (fun γ16 L => bx (γ16 0) (#[.int .i64 x15.id, .int .i64 x15.weight, .int .i64 x15.cap, .int .i64 x15.pool]) 32 :: L) (fun γ16 => [(some ⟨b13, o13, none⟩ : Option Addr) = some ⟨b13, o13, none⟩, ((j : Nat)) = ((j : Nat) : Int), j < n] ++ (cellsP w b13 (o13 + j * 4) [.int .i64 x15.id, .int .i64 x15.weight, .int .i64 x15.cap, .int .i64 x15.pool])) (fun γ16 => (alA (al2 rfl (al2 rfl (al1 (by omega)))) (rd_pre (hds.get hx15) _ rfl))) (fun γ16 => ds_ (sq_ ?_))
   by_cases q18 : (x15.pool : Int) = (k : Int)
   ·
    refine ao_ (qo 8 [(1, .go (owns 0 3 1)), (3, .yes), (5, .go (owns 1 0 2)), (7, .go (owns 0 0 1))] [1, 2, 5, 7, 12, 13, 14] [(22, .bool true), (23, .agg #[.slice (some ⟨b13, o13, none⟩) n cap, .slice q m capv]), (25, .int .i64 x15.id)] ([(x15.pool : Int) = (k : Int)]) (al1 q18) (cD (.int .i64 ((cntV vs x15.id : Nat))) Try.call46 (fun w hw => count_d (some ⟨b13, o13, none⟩) n cap ds q m capv vs x15.id w (hvs.kept hw.below) hm (by omega)) ?_))
    by_cases q21 : ((cntV vs x15.id : Nat) : Int) > (0 : Int)
    ·
     refine qo 2 [(9, .yes)] [1, 2, 5, 7, 12, 13, 14] [(28, .bool true)] ([((cntV vs x15.id : Nat) : Int) > (0 : Int)]) (al1 q21) (on_ (ds_ (t_ ?_)))
     have hmb' := (((guests_iff.1 hgd).dm x15 (List.mem_of_getElem? hx15)).1)
     unfold mayB at hmb'
     simp only [decide_eq_true_eq] at hmb'
     refine qa [(2, .go (owns 0 1 1)), (3, .fit)] [1, 2, 12, 13, 14] [(5, .int .i64 (c + x15.weight))] ([Fit .i64 (c + x15.weight)]) (al1 (fit64 (by omega) (by omega))) (done_block (ds_ (qa [(0, .fit)] [1, 2, 5, 12, 13] [(14, .int .i64 ((j + 1 : Nat)))] ([Fit .i64 ((j + 1 : Nat))]) (al1 (fit64 (by omega) (by omega))) (Done.drop (L' := [bx (γ1 0) (#[.slice (some ⟨b13, o13, none⟩) n cap, .slice q m capv]) 25]) ?_ (List.Sublist.cons _ (List.Sublist.cons_cons _ (List.Sublist.refl _)))))))
     have hwb := wF_bnd (vs := vs) (k := k) (((guests_iff.1 hgd).dm x15 (List.mem_of_getElem? hx15)).1)
     rw [wF_yes q18 q21] at hwb
     exact dr [1, 2, 5, 12, 13, 14] (j + 1, c + x15.weight) ⟨by omega, by rw [wgt_on hx15, wF_yes q18 q21, ← hc], by omega, by omega⟩
    ·
     refine qo 2 [(9, .no)] [1, 2, 5, 7, 12, 13, 14] [(28, .bool false)] ([¬ (((cntV vs x15.id : Nat) : Int) > (0 : Int))]) (al1 q21) (on_ (ds_ (f_ (at_skip (done_block (ds_ (qa [(0, .fit)] [1, 2, 5, 12, 13] [(14, .int .i64 ((j + 1 : Nat)))] ([Fit .i64 ((j + 1 : Nat))]) (al1 (fit64 (by omega) (by omega))) (Done.drop (L' := [bx (γ1 0) (#[.slice (some ⟨b13, o13, none⟩) n cap, .slice q m capv]) 25]) ?_ (List.Sublist.cons _ (List.Sublist.cons_cons _ (List.Sublist.refl _)))))))))))
     have hwb := wF_bnd (vs := vs) (k := k) (((guests_iff.1 hgd).dm x15 (List.mem_of_getElem? hx15)).1)
     rw [wF_none q21] at hwb
     exact dr [1, 2, 5, 12, 13, 14] (j + 1, c) ⟨by omega, by rw [wgt_on hx15, wF_none q21, ← hc]; omega, by omega, by omega⟩
   ·
    refine qa [(1, .go (owns 0 3 1)), (3, .no)] [1, 2, 5, 7, 12, 13, 14] [(28, .bool false)] ([¬ ((x15.pool : Int) = (k : Int))]) (al1 q18) (ds_ (f_ (at_skip (done_block (ds_ (qa [(0, .fit)] [1, 2, 5, 12, 13] [(14, .int .i64 ((j + 1 : Nat)))] ([Fit .i64 ((j + 1 : Nat))]) (al1 (fit64 (by omega) (by omega))) (Done.drop (L' := [bx (γ1 0) (#[.slice (some ⟨b13, o13, none⟩) n cap, .slice q m capv]) 25]) ?_ (List.Sublist.cons _ (List.Sublist.cons_cons _ (List.Sublist.refl _))))))))))
    have hwb := wF_bnd (vs := vs) (k := k) (((guests_iff.1 hgd).dm x15 (List.mem_of_getElem? hx15)).1)
    rw [wF_pool q18] at hwb
    exact dr [1, 2, 5, 12, 13, 14] (j + 1, c) ⟨by omega, by rw [wgt_on hx15, wF_pool q18, ← hc]; omega, by omega, by omega⟩
  ·
   refine qa [(0, .no)] [1, 2, 5, 12, 13, 14] [(15, .bool false)] ([¬ (((j : Nat) : Int) < ((n : Nat) : Int))]) (al1 q10) (ds_ (sq_ (f_ (at_leave _ rfl (ds_ (sq_ (qa0 [] [] [(4, .int .i64 c)] (ds_ (rt ([]) (.int .i64 c) ?_)))))))))
   exact fun w' hw => ⟨by rw [List.take_of_length_le (by omega)] at hc; rw [hc]; rfl, hw.below⟩
end Go.Proofs.Ytnoefldpkfpglaa

/-! The walker: maps of one's own with whole numbers for keys. -/
namespace Go.Proofs.Ytnoefldpkfpglaa
open Go Go.RowKit

/-- What a map holds: its entries, the oldest first. -/
def mget {β : Type} : List (Int × β) → Int → Option β
  | [], _ => none
  | p :: D, k => if p.1 = k then some p.2 else mget D k
def mupd {β : Type} : List (Int × β) → Int → β → List (Int × β)
  | [], k, v => [(k, v)]
  | p :: D, k, v => if p.1 = k then (k, v) :: D else p :: mupd D k v
structure MapIs {β : Type} (ik : IntKind) (enc : β → Value) (es : Array MapEntry) (D : List (Int × β)) : Prop where
  keys : es.toList.map (fun e => (e.key, e.val)) = D.map fun p => (.int ik p.1, enc p.2)
section
variable {β : Type} {ik : IntKind} {enc : β → Value} {es : Array MapEntry} {D : List (Int × β)} {k : Int} {v : β} {ck : Nat}
theorem MapIs.nil : MapIs ik enc #[] ([] : List (Int × β)) := ⟨rfl⟩
theorem MapIs.size (h : MapIs ik enc es D) : es.size = D.length := by
  have := congrArg List.length h.keys
  simpa using this
theorem findNow_is : ∀ (l : List MapEntry) (D : List (Int × β)) (i : Nat), l.map (fun e => (e.key, e.val)) = D.map (fun p => (Value.int ik p.1, enc p.2)) →
    (Instr.findNow (.int ik) (.int ik k) l i = some none ∧ mget D k = none ∧ ∀ u, mupd D k u = D ++ [(k, u)]) ∨
    ∃ j b, Instr.findNow (.int ik) (.int ik k) l i = some (some (i + j, enc b)) ∧ mget D k = some b ∧ j < D.length ∧ (D[j]?).map (·.1) = some k ∧ ∀ u, mupd D k u = D.set j (k, u)
  | [], [], i, _ => .inl ⟨rfl, rfl, fun _ => rfl⟩
  | [], _ :: _, _, h => by simp at h
  | _ :: _, [], _, h => by simp at h
  | e :: l, p :: D, i, h => by
    simp only [List.map_cons, List.cons.injEq, Prod.mk.injEq] at h
    obtain ⟨⟨h1, h2⟩, h3⟩ := h
    by_cases hk : k = p.1
    · subst hk
      right
      refine ⟨0, p.2, ?_, by simp [mget], by simp, by simp, fun u => by simp [mupd]⟩
      simp [Instr.findNow, h1, Instr.sameNow, h2]
    · have hb : (k == p.1) = false := by simpa using hk
      have hk' : ¬ p.1 = k := fun e => hk e.symm
      rcases findNow_is l D (i + 1) h3 with ⟨a, b, c⟩ | ⟨j, b, a, c, d, e1, f⟩
      · left
        refine ⟨?_, by simp [mget, hk', b], fun u => by simp [mupd, hk', c u]⟩
        simp [Instr.findNow, h1, Instr.sameNow, hb, a]
      · right
        refine ⟨j + 1, b, ?_, by simp [mget, hk', c], by simp; omega, by simpa using e1, fun u => by simp [mupd, hk', f u]⟩
        simp only [Instr.findNow, h1, Instr.sameNow, if_true, hb, a]
        rw [show i + 1 + j = i + (j + 1) by omega]
variable {P : Program} {w : World} {t kt et : TypeId} {r : Nat}
theorem keys_ok (h : MapIs ik enc es D) : ∀ x ∈ es.toList, MapKept.IsKey (.int ik) x.key := fun x hx => by
  have : (x.key, x.val) ∈ es.toList.map (fun e => (e.key, e.val)) := List.mem_map.2 ⟨x, hx, rfl⟩
  rw [h.keys] at this
  obtain ⟨p, _, hp⟩ := List.mem_map.1 this
  have hk : x.key = .int ik p.1 := (congrArg Prod.fst hp).symm
  rw [hk]; rfl
theorem run_lookupM (ht : P.underlying t = some (.map kt et)) (hk : P.underlying kt = some (.int ik)) {i : TypeInfo} {z : Value} (hi : P.info? et = some i) (hz : i.zero = some z) (hb : w.heap[r]? = some (.map es ck)) (hM : MapIs ik enc es D) (c : Bool) :
    (Instr.lookup t (.map (some r)) (.int ik k) c).run P w = .ok (if c then .tuple #[((mget D k).map enc).getD z, .bool (mget D k).isSome] else ((mget D k).map enc).getD z) w := by
  have hck : ∀ e, (Instr.checkKey e 10000 kt (.int ik k)).run P w = .ok () w := fun e => MapKept.run_checkKey (n := 9999) hk (show MapKept.IsKey (.int ik) (.int ik k) from rfl) e
  rcases findNow_is es.toList D 0 hM.keys (k := k) with ⟨a, b, _⟩ | ⟨j, b, a, c', _, _, _⟩
  · have hf := MapKept.run_findKey (P := P) (w := w) (kt := kt) hk a
    cases c <;> simp [Instr.lookup, run_underlying ht, MapKept.run_getObj_map hb, hck, hf, zeroValue, typeInfo, hi, hz, b]
  · have hf := MapKept.run_findKey (P := P) (w := w) (kt := kt) hk a
    cases c <;> simp [Instr.lookup, run_underlying ht, MapKept.run_getObj_map hb, hck, hf, c']
theorem run_updateM (ht : P.underlying t = some (.map kt et)) (hk : P.underlying kt = some (.int ik)) (hb : w.heap[r]? = some (.map es ck)) (hM : MapIs ik enc es D) (v : β) :
    ∃ es' ck', (Instr.mapUpdate t (.map (some r)) (.int ik k) (enc v)).run P w = .ok () { w with heap := w.heap.setIfInBounds r (.map es' ck') } ∧ MapIs ik enc es' (mupd D k v) := by
  have hkk : MapKept.IsKey (.int ik) (.int ik k) := rfl
  have hck : ∀ e, (Instr.checkKey e 10000 kt (.int ik k)).run P w = .ok () w := fun e => MapKept.run_checkKey (n := 9999) hk hkk e
  rcases findNow_is es.toList D 0 hM.keys (k := k) with ⟨a, _, b⟩ | ⟨j, b, a, c', hj, hjk, d⟩
  · have hf := MapKept.run_findKey (P := P) (w := w) (kt := kt) hk a
    refine ⟨es.push ⟨.int ik k, enc v, ck⟩, ck + 1, ?_, ⟨?_⟩⟩
    · simp [Instr.mapUpdate, run_underlying ht, MapKept.run_getObj_map hb, hck, hf, MapKept.run_setObj_map _ hb]
    · rw [b v, Array.toList_push, List.map_append, List.map_append, hM.keys]; rfl
  · have hf := MapKept.run_findKey (P := P) (w := w) (kt := kt) hk a
    have hsz := hM.size
    have hjs : j < es.size := by omega
    have hkey : es[j].key = .int ik k := by
      have h1 := congrArg (fun z => z[j]?) hM.keys
      simp only [List.getElem?_map, Array.getElem?_toList, Array.getElem?_eq_getElem hjs, Option.map_some] at h1
      rcases hD : D[j]? with _ | p
      · rw [hD] at hjk; cases hjk
      · rw [hD] at hjk h1
        simp only [Option.map_some, Option.some.injEq, Prod.mk.injEq] at hjk h1
        rw [h1.1, hjk]
    refine ⟨es.modify j fun e => { e with key := .int ik k, val := enc v }, ck, ?_, ⟨?_⟩⟩
    · have hj2 : es[j]? = some es[j] := Array.getElem?_eq_getElem hjs
      simp only [Nat.zero_add] at hf
      simp [Instr.mapUpdate, run_underlying ht, MapKept.run_getObj_map hb, hck, hf, hj2, hkey, MapKept.run_keyThatStays hkk, MapKept.run_setObj_map _ hb]
    · rw [d v]
      apply List.ext_getElem?
      intro i
      rw [List.getElem?_map, List.getElem?_map, Array.getElem?_toList, Array.getElem?_modify, List.getElem?_set]
      have h1 := congrArg (fun z => z[i]?) hM.keys
      simp only [List.getElem?_map, Array.getElem?_toList] at h1
      by_cases hij : j = i
      · subst hij
        rw [if_pos rfl, if_pos rfl, if_pos hj, Array.getElem?_eq_getElem hjs]; rfl
      · rw [if_neg hij, if_neg hij, h1]
end

section
variable {E : Env} {k : List Fr} {l : Sl} {L : List Ob} {all os : List Oper} {o : Oper} {i : Nat}
/-- A map's type, asked by the kernel. -/
def mapB (P : Program) (t : TypeId) (ik : IntKind) (z : Value) : Prop := ∃ kt et, P.underlying t = some (.map kt et) ∧ P.underlying kt = some (.int ik) ∧ (P.info? et).bind (fun i => i.zero) = some z
theorem map_getD {β : Type} (f : β → Value) (o : Option β) (z : β) : (o.map f).getD (f z) = f (o.getD z) := by cases o <;> rfl
theorem ops_lookup {β : Type} {ik : IntKind} {enc : β → Value} {es : Array MapEntry} {ck : Nat} {D : List (Int × β)} (j : Nat) {t : TypeId} {x y : Operand} {c : Bool} {g : Nat} {kk : Int} (z u : Value) (ho : o.op = .lookup t x y c) (hw : wantL all l o = some true) (hd : (okD E.n o.dst && knownO l o) = true)
    (hx : look l x = .map (some g)) (hy : look l y = .int ik kk) (hT : mapB E.P t ik z) (hj : L[j]? = some (g, .map es ck)) (hM : MapIs ik enc es D) (hu : (if c then .tuple #[((mget D kk).map enc).getD z, .bool (mget D kk).isSome] else ((mget D kk).map enc).getD z) = u)
    (h : Ops E k all os (i + 1) (putL o.dst u l) L) : Ops E k all (o :: os) i l L := by
  obtain ⟨kt, et, h1, h2, h34⟩ := hT
  obtain ⟨inf, h3, h4⟩ := Option.bind_eq_some_iff.1 h34
  refine ⟨fun a w ha hs => ?_⟩
  simp only [Bool.and_eq_true] at hd
  have hg := wantL_spec ha hw
  refine wpListIn_step fun K hK => ?_
  rw [if_pos hg]
  refine ⟨fun _ _ => trivial, ?_⟩
  rw [Oper.semAt_eq _ _ _ (fun c e => by rw [ho] at e; cases e), look_exec ha hd.2]
  have hr := run_lookupM h1 h2 h3 h4 (hs.row j hj) hM (k := kk) c
  have e : (execOp (look l) o).run E.P w = .ok (.value u) w := by
    simp [execOp, ho, hx, hy, hr, hu]
  rw [e]
  exact hK _ _ (h.out _ _ (ha.put hd.1 _) hs)
theorem ops_update {β : Type} {ik : IntKind} {enc : β → Value} {es : Array MapEntry} {ck : Nat} {D : List (Int × β)} (j : Nat) {t : TypeId} {x y v : Operand} {g : Nat} {kk : Int} (b : β) (z : Value) (ho : o.op = .mapUpdate t x y v) (hw : wantL all l o = some true) (hd : (okD E.n o.dst && knownO l o) = true)
    (hx : look l x = .map (some g)) (hy : look l y = .int ik kk) (hv : look l v = enc b) (hT : mapB E.P t ik z) (hj : L[j]? = some (g, .map es ck)) (hM : MapIs ik enc es D)
    (h : ∀ es' ck', MapIs ik enc es' (mupd D kk b) → Ops E k all os (i + 1) (putL o.dst undef l) (L.set j (g, .map es' ck'))) : Ops E k all (o :: os) i l L := by
  obtain ⟨kt, et, h1, h2, h34⟩ := hT
  obtain ⟨inf, h3, h4⟩ := Option.bind_eq_some_iff.1 h34
  refine ⟨fun a w ha hs => ?_⟩
  simp only [Bool.and_eq_true] at hd
  have hg := wantL_spec ha hw
  refine wpListIn_step fun K hK => ?_
  rw [if_pos hg]
  refine ⟨fun _ _ => trivial, ?_⟩
  rw [Oper.semAt_eq _ _ _ (fun c e => by rw [ho] at e; cases e), look_exec ha hd.2]
  obtain ⟨es', ck', hr, hM'⟩ := run_updateM h1 h2 (hs.row j hj) hM (k := kk) b
  have e : (execOp (look l) o).run E.P w = .ok .skip { w with heap := w.heap.setIfInBounds g (.map es' ck') } := by
    simp [execOp, ho, hx, hy, hv, hr]
  rw [e]
  exact hK _ _ ((h es' ck' hM').out _ _ (ha.put hd.1 _) (hs.turn j hj (turn_obj (hs.row j hj) _)))
end
end Go.Proofs.Ytnoefldpkfpglaa

/-! The walker: make; append within one's own row; what a deletion of a stretch leaves; m[k]++. -/
namespace Go.Proofs.Ytnoefldpkfpglaa
open Go Go.RowKit

section
variable {E : Env} {k : List Fr} {l : Sl} {L : List Ob} {all os : List Oper} {o : Oper} {i : Nat}
/-- make([]T, n): a new row; what stands in it is not told. -/
theorem ops_make {x y : Operand} {t T : TypeId} {ks by_ n : Nat} (ho : o.op = .makeSlice t x y) (hw : wantL all l o = some true) (hd : (okD E.n o.dst && knownO l o) = true) (hx : look l x = .int .i64 (n : Int)) (hy : look l y = .int .i64 (n : Int)) (hE : elemB E.P t T ks by_ = true)
    (hb : by_ * n ≤ 281474976710656) (hmax : n ≤ maxLen) (h : ∀ g c, c.size = n * ks → Ops E k all os (i + 1) (putL o.dst (.slice (some ⟨g, 0, none⟩) n n) l) (bx g c T :: L)) : Ops E k all (o :: os) i l L := by
  refine ⟨fun a w ha hs => ?_⟩
  simp only [Bool.and_eq_true] at hd
  have hg := wantL_spec ha hw
  refine wpListIn_step fun K hK => ?_
  rw [if_pos hg]
  refine ⟨fun _ _ => trivial, ?_⟩
  rw [Oper.semAt_eq _ _ _ (fun c e => by rw [ho] at e; cases e), look_exec ha hd.2]
  obtain ⟨ht, inf, z, hi, hz, _, hks, hby⟩ := elemB_spec hE
  subst hks hby
  have hb' : (inf.bytes : Int) * (n : Int) ≤ 281474976710656 := by
    have h : ((inf.bytes * n : Nat) : Int) ≤ 281474976710656 := by omega
    rwa [Int.natCast_mul] at h
  have hr := run_make (P := E.P) w t T inf z ht hi hz .i64 .i64 (n : Int) (n : Int) (by omega) (Int.le_refl _) hb' (by simp only [maxLen] at hmax; omega)
  simp only [Int.toNat_natCast] at hr
  have e : (execOp (look l) o).run E.P w = .ok (.value (.slice (some ⟨w.heap.size, 0, none⟩) n n)) (w.alloc (.cells (madeCells z.cells (n * inf.size)) T)) := by
    simp [execOp, ho, hx, hy, hr]
  rw [e]
  exact hK _ _ ((h w.heap.size _ (size_madeCells _ _)).out _ _ (ha.put hd.1 _) (hs.cons _))
/-- append onto a prefix of one's own row, where there is room. -/
theorem ops_appendR (j : Nat) {x y : Operand} {t tx T T' : TypeId} {ks by_ : Nat} (ho : o.op = .call { callee := .builtin .append, args := #[x, y], argTypes := #[t, tx] }) (hw : wantL all l o = some true) (hd : (okD E.n o.dst && knownO l o) = true)
    {g n cap m : Nat} {c : Array Value} {yv : Value} (news : List Value) (hx : look l x = .slice (some ⟨g, 0, none⟩) n cap) (hy : look l y = yv) (hE : elemB E.P t T ks by_ = true) (hj : L[j]? = some (bx g c T')) (hroom : n + m ≤ cap)
    (hs : ∀ w, Hs E.w0 L w → Go.Src E.P ks tx yv m news w) (hsz : 0 + n * ks + news.length ≤ c.size) (h : Ops E k all os (i + 1) (putL o.dst (.slice (some ⟨g, 0, none⟩) (n + m) cap) l) (L.set j (bx g (sets c (0 + n * ks) news) T'))) : Ops E k all (o :: os) i l L := by
  refine ⟨fun a w ha hw' => ?_⟩
  simp only [Bool.and_eq_true] at hd
  have hg := wantL_spec ha hw
  refine wpListIn_step fun K hK => ?_
  rw [if_pos hg]
  have hrow : w.heap[g]? = some (.cells c T' (0, 0)) := hw'.row j hj
  refine ⟨fun _ _ => trivial, ?_⟩
  rw [Oper.semAt_eq _ _ _ (fun c e => by rw [ho] at e; cases e), look_exec ha hd.2]
  obtain ⟨ht, inf, z, hi, _, _, hks, _⟩ := elemB_spec hE
  subst hks
  have hr := run_append_room_src w t tx o.type T inf ht hi g 0 n cap yv m news (hs w hw') hroom (fun j hj => by rw [cell_own hrow, Array.getElem?_eq_getElem (by omega)]; rfl) (fun j hj => froz_own hrow _)
  have e : (execOp (look l) o).run E.P w = .ok (.value (.slice (some ⟨g, 0, none⟩) (n + m) cap)) (w.setCells g (0 + n * inf.size) news) := by
    simp only [execOp, ho, resolve, invoke, builtin, hx, hy, List.map_toArray, List.map_cons, List.map_nil, Sem.run_bind, Sem.run_pure, Result.andThen_ok]
    simp [hr, hx, hy]
  rw [e]
  exact hK _ _ (h.out _ _ (ha.put hd.1 _) (hw'.turn j hj (turn_sets g T' news _ w c hrow hsz)))
end
section
variable {α : Type} [Enc α] {l : List α} {i i2 n cap : Nat} {cs c2 : Array Value}
/-- The cells of a stretch of one's own row, as a source. -/
theorem src_own {P : Program} {tx e : TypeId} {w : World} {g cap : Nat} {T : TypeId} (hu : P.underlying tx = some (.slice e)) (hg : w.heap[g]? = some (.cells cs T (0, 0))) (h : OwnS (Enc.k α) (l.flatMap Enc.enc) n cap cs) (hi : i ≤ n) :
    Go.Src P (Enc.k α) tx (.slice (some ⟨g, 0 + i * Enc.k α, none⟩) (n - i) (cap - i)) (n - i) ((cs.toList.drop (0 + i * Enc.k α)).take ((n - i) * Enc.k α)) w := by
  refine Go.Src.ofSlice _ hu _ _ _ _ (row_len h hi) (fun j u hj => ?_) (row_one h hi)
  rw [addr_add, cell_own hg]
  rw [List.getElem?_take] at hj
  split at hj
  · rw [List.getElem?_drop] at hj; simpa using hj
  · cases hj
/-- A stretch struck out: what stood behind it is moved down, the rest is cleared. -/
theorem OwnS.strike (h : OwnS (Enc.k α) (l.flatMap Enc.enc) n cap cs) (hn : n = l.length) (hi : i ≤ i2) (hi2 : i2 ≤ n) (hsz : c2.size = cs.size)
    (hc : ∀ j, j < 0 + (i + (n - i2)) * Enc.k α → c2[j]? = (sets cs (0 + i * Enc.k α) ((cs.toList.drop (0 + i2 * Enc.k α)).take ((n - i2) * Enc.k α)))[j]?) :
    OwnS (Enc.k α) ((l.take i ++ l.drop i2).flatMap Enc.enc) (i + (n - i2)) cap c2 := by
  have hlen : (l.take i ++ l.drop i2).length = i + (n - i2) := by simp; omega
  have a0 : i * Enc.k α ≤ i2 * Enc.k α := Nat.mul_le_mul_right _ hi
  have a1 : i2 * Enc.k α ≤ n * Enc.k α := Nat.mul_le_mul_right _ hi2
  have a2 : (n - i2) * Enc.k α = n * Enc.k α - i2 * Enc.k α := Nat.sub_mul ..
  have a3 : (i + (n - i2)) * Enc.k α = i * Enc.k α + (n - i2) * Enc.k α := Nat.add_mul ..
  have a4 : n * Enc.k α ≤ cap * Enc.k α := Nat.mul_le_mul_right _ h.le
  have hcs := h.csz
  have lt3 : (l.flatMap Enc.enc).length = n * Enc.k α := by rw [flat_len, hn]
  have lt1 : ((l.flatMap Enc.enc).take (i * Enc.k α)).length = i * Enc.k α := by rw [List.length_take, lt3]; omega
  have ln := row_len h hi2
  have e1 : (l.take i ++ l.drop i2).flatMap Enc.enc = (l.flatMap Enc.enc).take (i * Enc.k α) ++ (l.flatMap Enc.enc).drop (i2 * Enc.k α) := by rw [List.flatMap_append, flat_take, flat_drop]
  refine ⟨by rw [flat_len, hlen], by have := h.le; omega, h.max, by rw [hsz]; exact h.csz, ?_⟩
  rw [e1]
  apply List.ext_getElem?
  intro j
  rw [List.getElem?_take]
  by_cases hj : j < (i + (n - i2)) * Enc.k α
  · rw [if_pos hj, Array.getElem?_toList, hc j (by omega), sets_get _ _ _ _ (by rw [ln]; omega), ln]
    by_cases j1 : j < i * Enc.k α
    · rw [if_neg (by omega), h.get j (by omega), List.getElem?_append_left (by omega), List.getElem?_take, if_pos j1]
    · rw [if_pos (by omega), List.getElem?_take, if_pos (by omega), List.getElem?_drop, Array.getElem?_toList, h.get _ (by omega), List.getElem?_append_right (by omega), lt1, List.getElem?_drop]
      congr 1; omega
  · rw [if_neg hj, List.getElem?_eq_none (by simp only [List.length_append, List.length_drop, lt1, lt3]; omega)]
/-- A row filled by a copy. -/
theorem OwnS.filled {c : Array Value} (hc : c.size = n * Enc.k α) (hn : n = l.length) (hm : n ≤ maxLen) : OwnS (Enc.k α) (l.flatMap Enc.enc) n n (sets c 0 (l.flatMap Enc.enc)) := by
  have hl : (l.flatMap Enc.enc).length = n * Enc.k α := by rw [flat_len, hn]
  refine ⟨hl, Nat.le_refl _, hm, by rw [sets_size]; exact hc, ?_⟩
  apply List.ext_getElem?
  intro j
  rw [List.getElem?_take]
  by_cases hj : j < n * Enc.k α
  · rw [if_pos hj, Array.getElem?_toList, sets_get _ _ _ _ (by omega), if_pos (by omega), Nat.sub_zero]
  · rw [if_neg hj, List.getElem?_eq_none (by omega)]
end
/-! ### m[k]++ -/
section
variable {β : Type} {ik : IntKind} {enc : β → Value} {es : Array MapEntry} {D : List (Int × β)} {k : Int} {ck : Nat} {P : Program} {w : World} {t kt et : TypeId} {r : Nat}
/-- The entries' stamps: all apart, below the clock. -/
def Stamps (es : Array MapEntry) (ck : Nat) : Prop := (es.toList.map (·.born)).Nodup ∧ ∀ e ∈ es.toList, e.born < ck
theorem Stamps.nil : Stamps #[] 0 := ⟨by simp, fun _ h => by simp at h⟩
end
end Go.Proofs.Ytnoefldpkfpglaa
