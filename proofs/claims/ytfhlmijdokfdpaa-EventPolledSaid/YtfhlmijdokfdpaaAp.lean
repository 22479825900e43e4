/- append onto a slice whose row is the walk's own. -/
import Derived.Test.YtfhlmijdokfdpaaWx
import Derived.Deep.AppendSrc
import Derived.Laws.AppendOwn
namespace Go.Proofs.Ytfhlmijdokfdpaa
open Go Go.RowKit

/-- A row of capacity cap, whose first n elements (of so many cells each) are the cells xs. -/
structure OwnS (size : Nat) (xs : List Value) (n cap : Nat) (cs : Array Value) : Prop where
  len : xs.length = n * size
  le : n ≤ cap
  max : cap ≤ maxLen
  csz : cs.size = cap * size
  pre : cs.toList.take (n * size) = xs

theorem OwnS.get {size n cap : Nat} {xs : List Value} {cs : Array Value} (h : OwnS size xs n cap cs) (j : Nat) (hj : j < n * size) : cs[j]? = xs[j]? := by
  rw [← h.pre, List.getElem?_take, if_pos hj]; simp

theorem Put.two {g : Nat} {cs cs' : Array Value} {t t' : TypeId} {w w1 w2 : World} (h : Put g cs t w w1) (h2 : Put g cs' t' w1 w2) : Put g cs' t' w w2 :=
  ⟨h2.row, fun k hk => (h2.rest k hk).trans (h.rest k hk), fun B w0 hB hb => h2.below B w0 hB (h.below B w0 hB hb), h2.size.trans h.size⟩

theorem put_setCells (g : Nat) (t : TypeId) : ∀ (vs : List Value) (off : Nat) (w : World) (cs : Array Value), IsR w g cs t → off + vs.length ≤ cs.size → vs ≠ [] →
    ∃ cs', Put g cs' t w (w.setCells g off vs) ∧ cs'.size = cs.size ∧ cs'.toList.take (off + vs.length) = cs.toList.take off ++ vs
  | [], _, _, _, _, _, h => absurd rfl h
  | [v], off, w, cs, hg, hl, _ => by
    refine ⟨_, put_setCell v hg, by simp, ?_⟩
    simp only [List.length_cons, List.length_nil, Nat.zero_add] at hl ⊢
    apply List.ext_getElem?
    intro k
    simp only [List.getElem?_take, Array.toList_setIfInBounds, List.getElem?_append, List.length_take, Array.length_toList, List.getElem?_set]
    have : min off cs.size = off := by omega
    rw [this]
    by_cases h1 : k < off
    · simp [h1, show k < off + 1 by omega, show ¬ off = k by omega]
    · by_cases h2 : k = off
      · subst h2; simp [show k < cs.size by omega]
      · have h3 : ¬ k < off + 1 := by omega
        rw [if_neg h3, if_neg h1, List.getElem?_eq_none (by simp; omega)]
  | v :: u :: vs, off, w, cs, hg, hl, _ => by
    have h1 := put_setCell (i := off) v hg
    simp only [List.length_cons] at hl
    obtain ⟨cs', p, hs, ht⟩ := put_setCells g t (u :: vs) (off + 1) (w.setCell ⟨g, off, none⟩ v) _ h1.row (by simp; omega) (by simp)
    refine ⟨cs', h1.two p, by rw [hs]; simp, ?_⟩
    rw [show off + (v :: u :: vs).length = off + 1 + (u :: vs).length by simp; omega, ht]
    have e : (cs.setIfInBounds off v).toList.take (off + 1) = cs.toList.take off ++ [v] := by
      apply List.ext_getElem?
      intro k
      simp only [List.getElem?_take, Array.toList_setIfInBounds, List.getElem?_append, List.length_take, Array.length_toList, List.getElem?_set]
      have : min off cs.size = off := by omega
      rw [this]
      by_cases h1 : k < off
      · simp [h1, show k < off + 1 by omega, show ¬ off = k by omega]
      · by_cases h2 : k = off
        · subst h2; simp [show k < cs.size by omega]
        · have h3 : ¬ k < off + 1 := by omega
          rw [if_neg h3, if_neg h1, List.getElem?_eq_none (by simp; omega)]
    rw [e, List.append_assoc]; rfl

theorem set_self {α : Type} : ∀ (L : List α) (j : Nat) {r : α}, L[j]? = some r → L.set j r = L
  | [], _, _, h => by simp at h
  | x :: L, 0, r, h => by simp at h; subst h; rfl
  | x :: L, j + 1, r, h => by rw [List.set_cons_succ, set_self L j (by simpa using h)]
theorem Has.swap {w0 w : World} {L : List Rw} {r r' : Rw} (h : Has w0 (L ++ [r']) w) (j : Nat) (e : L[j]? = some r) : Has w0 (L.set j r') w := by
  obtain ⟨R, h1, h2⟩ := list_split L j r e r'
  have a1 : Has w0 ((r :: R) ++ [r']) w := h.perm (h1.append_right _)
  have a2 : Has w0 (R ++ [r']) w := a1.sub (by simp)
  exact (a2.perm (List.perm_append_comm.trans (List.Perm.refl _))).perm h2.symm

section
variable {P : Program} {ops : Array Oper} {w0 w : World} {L : List Rw} {Q : Exit → Act → World → Prop} {o : Oper} {rest : List Oper} {a : Act}

theorem sq_append (hg : Region.wanted o (yielded ops a.tmps) = true) (M : Has w0 L w) (x y : Operand) (t tx : TypeId) (ho : o.op = .call { callee := .builtin .append, args := #[x, y], argTypes := #[t, tx] })
    (T : TypeId) (i : TypeInfo) (z : Value) (ht : P.underlying t = some (.slice T)) (hi : P.info? T = some i) (hz : i.zero = some z) (hzs : z.cells.size = i.size) (h0 : 0 < i.size)
    (j : Nat) {g n cap m : Nat} {cs : Array Value} {xs news : List Value} (e : L[j]? = some (g, cs, T)) (hx : a.eval x = .slice (some ⟨g, 0, none⟩) n cap) (hO : OwnS i.size xs n cap cs)
    (hs : Src P i.size tx (a.eval y) m news w) (hmax : n + m ≤ maxLen) (hb : (n + m) * i.bytes ≤ 140737488355328)
    (h : ∀ K : Act → World → Prop, (∀ a w, Stay (wpList P ops Q rest a w) → K a w) → ∀ g' cap' cs' w', OwnS i.size (xs ++ news) (n + m) cap' cs' → Has w0 (L.set j (g', cs', T)) w' → K (a.put o.dst (.slice (some ⟨g', 0, none⟩) (n + m) cap')) w') : Stay (wpList P ops Q (o :: rest) a w) :=
  ⟨wpList_step fun K hK' => by
    have hK : ∀ a w, Stay (wpList P ops Q rest a w) → K a w := fun a w h => hK' a w h.out
    have hrow := M.row j e
    rw [if_pos hg]
    have key : ∃ v w', (Builtin.append_ #[t, tx] o.type #[.slice (some ⟨g, 0, none⟩) n cap, a.eval y]).run P w = .ok v w' ∧ K (a.put o.dst v) w' := by
      by_cases hroom : n + m ≤ cap
      · have hlen := hs.newsLen
        have hsz : (n + m) * i.size ≤ cap * i.size := Nat.mul_le_mul_right _ hroom
        have hadd : (n + m) * i.size = n * i.size + m * i.size := Nat.add_mul ..
        by_cases hm : news = []
        · have hm0 : m = 0 := by
            rw [hm] at hlen
            rcases Nat.mul_eq_zero.1 hlen.symm with h1 | h1
            · exact h1
            · omega
          refine ⟨_, _, run_append_room_src w t tx o.type T i ht hi g 0 n cap _ m news hs hroom (by rw [hm]; intro k hk; simp at hk) (by rw [hm]; intro k hk; simp at hk), ?_⟩
          rw [hm]
          refine h K hK g cap cs w ⟨by rw [hm, List.append_nil, hm0, Nat.add_zero]; exact hO.len, hroom, hO.max, hO.csz, by rw [hm, List.append_nil, hm0, Nat.add_zero]; exact hO.pre⟩ ?_
          rw [set_self L j e]
          exact M
        · have hc : ∀ k (hk : k < news.length), cs[0 + n * i.size + k]? = some (cs[0 + n * i.size + k]'(by rw [hO.csz]; omega)) := fun k hk => Array.getElem?_eq_getElem _
          obtain ⟨cs', hp, hs1, ht1⟩ := put_setCells g T news (0 + n * i.size) w cs hrow (by rw [hO.csz, hlen]; omega) hm
          refine ⟨_, _, run_append_room_src w t tx o.type T i ht hi g 0 n cap _ m news hs hroom (fun k hk => by rw [hrow.cell, hc k hk]; rfl) (fun k _ => hrow.froz _), ?_⟩
          refine h K hK g cap cs' _ ⟨by rw [List.length_append, hO.len, hlen, hadd], hroom, hO.max, hs1.trans hO.csz, ?_⟩ (M.put j e hp)
          rw [hadd, ← hlen, ← Nat.zero_add (n * i.size), ht1, Nat.zero_add, hO.pre]
      · have hlen := hs.newsLen
        have hfit := growslice_fits (need := n + m) (old := cap) (bytes := i.bytes) (by omega) hb
        refine ⟨_, _, run_append_grow_src w t tx o.type T i z ht hi hz _ n cap xs (run_firstCells_some _ i.size n ⟨g, 0, none⟩ n cap xs hO.len (fun k v hk => ?_)) _ m news hs (by omega) (by simp only [maxLen] at hmax; omega) hfit, ?_⟩
        · have hkl : k < n * i.size := by rw [← hO.len]; exact (List.getElem?_eq_some_iff.1 hk).1
          have hadd : (⟨g, 0, none⟩ : Addr).add k = ⟨g, k, none⟩ := by unfold Addr.add; split <;> simp_all
          rw [hadd]
          show w.drew.cell? _ = _
          rw [World.cell?_drew, hrow.cell, hO.get k hkl, hk]
        · refine h K hK _ _ _ _ ⟨by rw [List.length_append, hO.len, hlen, Nat.add_mul], grownCap_ge w (n + m) cap T, grownCap_le_maxLen w (n + m) cap T hmax, ?_, ?_⟩ ((M.drew.new _ T).swap j e)
          · have hge := grownCap_ge w (n + m) cap T
            rw [Array.size_append, size_zeroCells]
            simp only [List.size_toArray, List.length_append, hO.len, hlen, hzs, ← Nat.add_mul]
            congr 1; omega
          · rw [Array.toList_append]
            simp only [List.toList_toArray]
            rw [List.take_append_of_le_length (by rw [List.length_append, hO.len, hlen, ← Nat.add_mul]; exact Nat.le_refl _), List.take_of_length_le (by rw [List.length_append, hO.len, hlen, ← Nat.add_mul]; exact Nat.le_refl _)]
    obtain ⟨v, w', hr, hk⟩ := key
    unfold Oper.wp
    simp [execOp, ho, resolve, invoke, builtin, hx, hr]
    exact hk⟩
end
end Go.Proofs.Ytfhlmijdokfdpaa
