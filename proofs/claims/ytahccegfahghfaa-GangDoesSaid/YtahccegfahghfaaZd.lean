/- Texts of this proof, one behind the other. -/
import Derived.Test.YtahccegfahghfaaZb
import Derived.Test.YtahccegfahghfaaZc
import Derived.Test.YtahccegfahghfaaZa
/-! Rows of rows of numbers as elements; what few and Match leave; plain. -/
namespace Go.Proofs.Ytahccegfahghfaa
open Go Go.RowKit
/-- Rows of whole numbers, as an element. -/
structure RowsA where
  p : Option Addr
  n : Nat
  cap : Nat
  l : List IntsA
def RowsA.enc (x : RowsA) : List Value := [.slice x.p x.n x.cap]
instance : Enc RowsA := ⟨RowsA.enc, 1, fun _ => rfl, fun x v h => by simp [RowsA.enc] at h; subst h; rfl, by decide⟩
structure RowsA.Reads (w : World) (x : RowsA) : Prop where
  sv : Sv w x.p x.l
  hn : x.n = x.l.length
  hc : x.n ≤ x.cap
  hb : x.cap ≤ 9223372036854775807
  hi : ∀ y ∈ x.l, y.Reads w
section
variable {T : TypeId} {Yi : List Ob} {bl : List IntsA} {R rows : List (List Int)} {ll : List (List Int)} {ol row : List Int} {i : Nat}
end
end Go.Proofs.Ytahccegfahghfaa

/-! A match is one's own; with more to choose from there still is one; plain. -/
namespace Go.Proofs.Ytahccegfahghfaa
open Go Go.RowKit
section
variable {T : TypeId} {Yi Y : List Ob} {al : List IntsA} {x : IntsA} {L L0 rows : List (List Int)} {row m : List Int} {i j : Nat} {c : Int}
theorem ma_is (hc : choB rows = true) (h : ∃ m, Sdr rows m) : (matchA rows).2 = true := by rw [ma_yes hc ((match_iff (cho_rows hc).1).2 h)]
/-- Each row has at least what it had. -/
structure OwnI (L0 L : List (List Int)) : Prop where
  len : L.length = L0.length
  cho : choB L = true
  sub : ∀ (i : Nat) (r0 : List Int), L0[i]? = some r0 → ∃ r, L[i]? = some r ∧ ∀ c ∈ r0, c ∈ r
theorem OwnI.start (h : choB L = true) : OwnI L L := ⟨rfl, h, fun _ r0 h => ⟨r0, h, fun _ h => h⟩⟩
theorem OwnI.more (h : OwnI L0 L) (hr : L[i]? = some row) (hn : decide (c ∈ row) = false) (h0 : 0 ≤ c) (h8 : c < 8) : OwnI L0 (L.set i (row ++ [c])) := by
  have hl := (List.getElem?_eq_some_iff.1 hr).1
  refine ⟨by rw [List.length_set]; exact h.len, ?_, fun j r0 e => ?_⟩
  · have hc := h.cho
    unfold choB at hc ⊢
    simp only [Bool.and_eq_true, List.all_eq_true, decide_eq_true_eq, List.length_set] at hc ⊢
    refine ⟨fun r hm => ?_, hc.2⟩
    rcases List.mem_or_eq_of_mem_set hm with e | e
    · exact hc.1 r e
    · subst e
      have h1 := row_iff.1 (hc.1 row (List.mem_of_getElem? hr))
      refine row_iff.2 ⟨fun y hy => ?_, nodup_more h1.2 hn⟩
      rcases List.mem_append.1 hy with e | e
      · exact h1.1 y e
      · simp at e; subst e; exact ⟨h0, h8⟩
  · obtain ⟨r, h1, h2⟩ := h.sub j r0 e
    by_cases hj : i = j
    · subst hj
      rw [hr] at h1; cases h1
      exact ⟨row ++ [c], List.getElem?_set_self hl, fun y hy => List.mem_append_left _ (h2 y hy)⟩
    · exact ⟨r, by rw [List.getElem?_set_ne hj]; exact h1, h2⟩
theorem OwnI.yes (h : OwnI L0 L) (hm : Sdr L0 m) : (matchA L).2 = true := by
  refine ma_is h.cho ⟨m, hm.len.trans h.len.symm, hm.nd, fun j c e => ?_⟩
  obtain ⟨r0, h1, h2⟩ := hm.own j c e
  obtain ⟨r, h3, h4⟩ := h.sub j r0 h1
  exact ⟨r, h3, h4 c h2⟩
/-- One row is taken out, and another laid there. -/
theorem GotR.cut (h : GotR T Yi al) (hx : al[i]? = some x) : ∃ A Z B, Yi = A ++ (Z ++ B) ∧ SlO T Z x.p x.n x.cap x.l ∧ ∀ (Z' : List Ob) (y : IntsA), SlO T Z' y.p y.n y.cap y.l → GotR T (A ++ (Z' ++ B)) (al.set i y) := by
  obtain ⟨Ys, rfl, hl, hs⟩ := h
  have hil := (List.getElem?_eq_some_iff.1 hx).1
  have hiy : i < Ys.length := by omega
  have e : Ys[i]? = some Ys[i] := List.getElem?_eq_getElem hiy
  have hsp : Ys = Ys.take i ++ Ys[i] :: Ys.drop (i + 1) := by rw [← List.drop_eq_getElem_cons hiy, List.take_append_drop]
  refine ⟨(Ys.take i).flatten, Ys[i], (Ys.drop (i + 1)).flatten, ?_, hs i _ x e hx, fun Z' y hy => ⟨Ys.set i Z', ?_, by simp [hl], fun k Z z h1 h2 => ?_⟩⟩
  · have h9 := congrArg List.flatten hsp
    rw [List.flatten_append, List.flatten_cons] at h9
    exact h9
  · rw [List.set_eq_take_append_cons_drop, if_pos hiy]
    simp
  · by_cases hk : i = k
    · subst hk
      rw [List.getElem?_set_self hiy] at h1
      rw [List.getElem?_set_self hil] at h2
      cases h1; cases h2
      exact hy
    · rw [List.getElem?_set_ne hk] at h1 h2
      exact hs k Z z h1 h2
end
end Go.Proofs.Ytahccegfahghfaa

/-! Gangs: Leave; what the document does to gangs; plain. -/
namespace Go.Proofs.Ytahccegfahghfaa
open Go Go.RowKit
/-- Members without one. -/
def lessL (l : List Int) (k : Int) : List Int := l.filter fun n => !decide (n = k)
/-- Gangs without one member; a gang of one is none. -/
def cutV (k : Int) : Gs → Gs
  | [] => []
  | g :: t => if k ∈ g.2 then (if (lessL g.2 k).length < 2 then t else (g.1, lessL g.2 k) :: t) else g :: cutV k t
/-- What Leave does to a copy. -/
def leaveC (gs : Gs) (k : Int) : Gs × Int := if inV gs k = true then (cutV k gs, 0) else (gs, 4)
section
variable {al bl : List GngA} {gs : Gs} {k n : Int} {x x0 y : GngA} {i0 i j : Nat} {l : List Int} {g : Int × List Int} {T : TypeId} {Yi Y : List Ob}
theorem cut_at : ∀ {gs : Gs} {i : Nat}, gs[i]? = some g → k ∈ g.2 → (∀ (t : Nat) (y : Int × List Int), t < i → gs[t]? = some y → ¬ k ∈ y.2) → cutV k gs = if (lessL g.2 k).length < 2 then gs.take i ++ gs.drop (i + 1) else gs.set i (g.1, lessL g.2 k)
  | [], i, hg, _, _ => by simp at hg
  | a :: t, 0, hg, hk, _ => by
    simp only [List.getElem?_cons_zero, Option.some.injEq] at hg
    subst hg
    rw [cutV, if_pos hk]
    split <;> simp
  | a :: t, i + 1, hg, hk, hl => by
    simp only [List.getElem?_cons_succ] at hg
    rw [cutV, if_neg (hl 0 a (by omega) rfl), cut_at hg hk (fun s y hs he => hl (s + 1) y (by omega) (by simpa using he))]
    split <;> simp
theorem low_val (hl : ∀ (t : Nat) (y : GngA), t < i0 → al[t]? = some y → hasG k y = false) : ∀ (t : Nat) (y : Int × List Int), t < i0 → (al.map GngA.val)[t]? = some y → ¬ k ∈ y.2 := fun t y ht hy e => by
  rw [List.getElem?_map] at hy
  cases h : al[t]? with
  | none => rw [h] at hy; cases hy
  | some z =>
    rw [h] at hy
    simp only [Option.map_some, Option.some.injEq] at hy
    subst hy
    exact of_decide_eq_false (hl t z ht h) e
theorem in_at (hx : al[i0]? = some x0) (hp : hasG k x0 = true) : inV (al.map GngA.val) k = true := by
  unfold inV
  exact List.any_eq_true.2 ⟨x0.val, List.mem_map_of_mem (List.mem_of_getElem? hx), hp⟩
theorem in_none (h : ∀ x ∈ al, hasG k x = false) : inV (al.map GngA.val) k = false := by
  unfold inV
  exact List.any_eq_false.2 fun g hg e => by
    obtain ⟨x, hx, rfl⟩ := List.mem_map.1 hg
    exact Bool.false_ne_true ((h x hx).symm.trans e)
theorem lc_none (h : ∀ x ∈ al, hasG k x = false) : leaveC (al.map GngA.val) k = (al.map GngA.val, 4) := by rw [leaveC, if_neg (by rw [in_none h]; decide)]
theorem lc_two (hx : al[i0]? = some x0) (hp : hasG k x0 = true) (hl : ∀ (t : Nat) (y : GngA), t < i0 → al[t]? = some y → hasG k y = false) (h2 : (lessL x0.l k).length < 2) : leaveC (al.map GngA.val) k = (((al.set i0 y).take i0 ++ (al.set i0 y).drop (i0 + 1)).map GngA.val, 0) := by
  rw [leaveC, if_pos (in_at hx hp), cut_at (val_at hx) (of_decide_eq_true hp) (low_val hl), if_pos h2, List.map_append, List.take_set_of_le (Nat.le_refl _), List.drop_set_of_lt (Nat.lt_succ_self _), List.map_take, List.map_drop]
theorem lc_more (hx : al[i0]? = some x0) (hp : hasG k x0 = true) (hl : ∀ (t : Nat) (y : GngA), t < i0 → al[t]? = some y → hasG k y = false) (h2 : ¬ (lessL x0.l k).length < 2) (hy : y.val = (x0.id, lessL x0.l k)) : leaveC (al.map GngA.val) k = ((al.set i0 y).map GngA.val, 0) := by
  rw [leaveC, if_pos (in_at hx hp), cut_at (val_at hx) (of_decide_eq_true hp) (low_val hl), if_neg h2, List.map_set, hy]
/-- A gang's members take another block. -/
theorem GotG.cutG (h : GotG T Yi al) (hx : al[i]? = some x) : ∃ A Z B, Yi = A ++ (Z ++ B) ∧ SlO T Z x.p x.n x.cap x.l ∧ ∀ (Z' : List Ob) (y : GngA), SlO T Z' y.p y.n y.cap y.l → GotG T (A ++ (Z' ++ B)) (al.set i y) := by
  obtain ⟨A, Z, B, h1, h2, h3⟩ := GotR.cut (x := x.row) h (by rw [List.getElem?_map, hx]; rfl)
  refine ⟨A, Z, B, h1, h2, fun Z' y hy => ?_⟩
  have := h3 Z' y.row hy
  unfold GotG
  rw [List.map_set]
  exact this
/-- The blocks of those that are kept. -/
theorem GotG.filter (p : GngA → Bool) : ∀ {al : List GngA} {Yi : List Ob}, GotG T Yi al → ∃ Yi2, List.Sublist Yi2 Yi ∧ GotG T Yi2 (al.filter p)
  | [], Yi, h => ⟨[], List.nil_sublist _, GotG.nil⟩
  | x :: al, Yi, h => by
    obtain ⟨Ys, rfl, hl, hs⟩ := h
    cases Ys with
    | nil => simp at hl
    | cons Z Ys =>
      have h1 : GotG T Ys.flatten al := ⟨Ys, rfl, by simpa using hl, fun i Y y e1 e2 => hs (i + 1) Y y (by simpa using e1) (by simpa using e2)⟩
      obtain ⟨Y2, hsub, hg⟩ := GotG.filter p h1
      by_cases e : p x = true
      · rw [List.filter_cons_of_pos e]
        obtain ⟨Ys2, rfl, hl2, hs2⟩ := hg
        refine ⟨(Z :: Ys2).flatten, ?_, Z :: Ys2, rfl, by simpa using hl2, fun i Y y e1 e2 => ?_⟩
        · rw [List.flatten_cons, List.flatten_cons]; exact (List.Sublist.refl _).append hsub
        · cases i with
          | zero => exact hs 0 Y y (by simpa using e1) (by simpa using e2)
          | succ i => exact hs2 i Y y (by simpa using e1) (by simpa using e2)
      · rw [List.filter_cons_of_neg e]
        exact ⟨Y2, by rw [List.flatten_cons]; exact hsub.trans (List.sublist_append_right _ _), hg⟩
-- the first number that is free
theorem gap_spec : ∀ {gs : Gs} {a : Nat}, a ≤ gapV a gs ∧ gapV a gs ≤ a + gs.length ∧ (∀ i, a + i < gapV a gs → ∃ g, gs[i]? = some g ∧ g.1 = ((a + i : Nat) : Int) + 1) ∧ ∀ g, gs[gapV a gs - a]? = some g → ¬ g.1 = ((gapV a gs : Nat) : Int) + 1
  | [], a => ⟨Nat.le_refl _, by simp [gapV], fun i h => by simp only [gapV] at h; omega, fun g h => by simp at h⟩
  | b :: t, a => by
    unfold gapV
    split
    · rename_i e
      obtain ⟨h1, h2, h3, h4⟩ := gap_spec (gs := t) (a := a + 1)
      refine ⟨by omega, by simp only [List.length_cons]; omega, fun i hi => ?_, fun g hg => ?_⟩
      · cases i with
        | zero => exact ⟨b, rfl, by simpa using e⟩
        | succ i =>
          obtain ⟨g, hg, he⟩ := h3 i (by omega)
          exact ⟨g, by simpa using hg, by rw [he]; omega⟩
      · obtain ⟨d, hd⟩ : ∃ d, gapV (a + 1) t - a = d + 1 := ⟨gapV (a + 1) t - a - 1, by omega⟩
        rw [hd, List.getElem?_cons_succ] at hg
        exact h4 g (by rw [show gapV (a + 1) t - (a + 1) = d by omega]; exact hg)
    · rename_i e
      refine ⟨Nat.le_refl _, by omega, fun i hi => by omega, fun g hg => ?_⟩
      simp only [Nat.sub_self, List.getElem?_cons_zero, Option.some.injEq] at hg
      subst hg; exact e
theorem ris_ge (hr : Ris GngA.id al) (hp : ∀ x ∈ al, 0 < x.id) : ∀ (i : Nat) (x : GngA), al[i]? = some x → (i : Int) + 1 ≤ x.id
  | 0, x, hx => by have := hp x (List.mem_of_getElem? hx); omega
  | i + 1, x, hx => by
    have hi := (List.getElem?_eq_some_iff.1 hx).1
    have h1 : al[i]? = some al[i] := List.getElem?_eq_getElem (by omega)
    have := ris_ge hr hp i _ h1
    have := hr.at (Nat.lt_succ_self i) h1 hx
    omega
abbrev gapA (al : List GngA) : Nat := gapV 0 (al.map GngA.val)
theorem gapA_le : gapA al ≤ al.length := by have := (gap_spec (gs := al.map GngA.val) (a := 0)).2.1; rw [List.length_map] at this; show gapV 0 _ ≤ _; omega
theorem gapA_at (hi : i < gapA al) : ∃ x, al[i]? = some x ∧ x.id = (i : Int) + 1 := by
  obtain ⟨g, hg, he⟩ := (gap_spec (gs := al.map GngA.val) (a := 0)).2.2.1 i (by rw [Nat.zero_add]; exact hi)
  rw [List.getElem?_map] at hg
  cases h : al[i]? with
  | none => rw [h] at hg; cases hg
  | some x =>
    rw [h] at hg
    simp only [Option.map_some, Option.some.injEq] at hg
    subst hg
    exact ⟨x, rfl, by rw [Nat.zero_add] at he; exact he⟩
/-- Who stands behind the first that is free has a greater number. -/
theorem gapA_gt (hg : gangB (al.map GngA.val) = true) (hi : gapA al ≤ i) (hx : al[i]? = some x) : ((gapA al : Nat) : Int) + 1 < x.id := by
  obtain ⟨hr, hp⟩ := gang_ris hg
  have hge := ris_ge hr (fun x hx => (hp x hx).1)
  have hil := (List.getElem?_eq_some_iff.1 hx).1
  have h1 : al[gapA al]? = some al[gapA al] := List.getElem?_eq_getElem (by omega)
  have h2 := hge _ _ h1
  have h3 := (gap_spec (gs := al.map GngA.val) (a := 0)).2.2.2 _ (val_at h1)
  have h4 : ¬ (al[gapA al]).id = ((gapA al : Nat) : Int) + 1 := h3
  by_cases e : gapA al = i
  · have h5 : al[gapA al]? = some x := (congrArg (fun n => al[n]?) e).trans hx
    have : al[gapA al] = x := Option.some.inj (h1.symm.trans h5)
    rw [this] at h2 h4
    omega
  · have := hr.at (show gapA al < i by omega) h1 hx
    omega
theorem gapA_free (hg : gangB (al.map GngA.val) = true) : ∀ x ∈ al, ¬ x.id = ((gapA al : Nat) : Int) + 1 := fun x hx e => by
  obtain ⟨i, hi⟩ := List.mem_iff_getElem?.1 hx
  by_cases h : i < gapA al
  · obtain ⟨y, hy, he⟩ := gapA_at h
    rw [hi] at hy
    cases hy
    omega
  · have := gapA_gt hg (by omega) hi
    omega
theorem gang_len8 (hg : gangB (al.map GngA.val) = true) : al.length ≤ 8 := by
  obtain ⟨hr, hp⟩ := gang_ris hg
  have := risK_len al 1 8 hr (fun x hx => by have := hp x hx; omega) (by omega)
  omega
theorem in_rof (hg : gangB gs = true) : inV gs n = decide (rofV gs n > 0) := by
  have h0 := of_rof (k := n) hg
  have hp : ∀ g ∈ gs, 0 < g.1 := by
    have := (gang_pre hg gs.length).1
    rw [List.take_of_length_le (Nat.le_refl _)] at this
    exact ids_pos this
  by_cases e : rofV gs n > 0
  · rw [decide_eq_true e]
    obtain ⟨g, hgm, hk⟩ := mem_memL.1 (rof_mem e)
    unfold inV
    exact List.any_eq_true.2 ⟨g, hgm, decide_eq_true hk⟩
  · rw [decide_eq_false e]
    unfold inV
    exact List.any_eq_false.2 fun g hgm hk => rof_not hp e (mem_memL.2 ⟨g, hgm, of_decide_eq_true hk⟩)
theorem any_rof (hg : gangB gs = true) (hx : l[j]? = some n) (e : rofV gs n > 0) : l.any (inV gs) = true := List.any_eq_true.2 ⟨n, List.mem_of_getElem? hx, by rw [in_rof hg]; exact decide_eq_true e⟩
theorem any_not (hg : gangB gs = true) (hj : l.length ≤ j) (h : ∀ (t : Nat) (n : Int), t < j → l[t]? = some n → ¬ rofV gs n > 0) : l.any (inV gs) = false := List.any_eq_false.2 fun n hn e => by
  obtain ⟨t, ht⟩ := List.mem_iff_getElem?.1 hn
  rw [in_rof hg] at e
  exact h t n (by have := (List.getElem?_eq_some_iff.1 ht).1; omega) ht (of_decide_eq_true e)
/-- Gangs as far as they are put in again, with one more. -/
def outT (bl : List GngA) (y : GngA) (j : Nat) : List GngA := if j ≤ gapA bl then bl.take j else bl.take (gapA bl) ++ [y] ++ (bl.take j).drop (gapA bl)
theorem out_low (hx : bl[j]? = some x) (h : j < gapA bl) : outT bl y (j + 1) = outT bl y j ++ [x] := by
  unfold outT
  rw [if_pos (by omega), if_pos (by omega), take_one hx]
theorem out_mid (hx : bl[j]? = some x) (h : j = gapA bl) : outT bl y (j + 1) = (outT bl y j ++ [y]) ++ [x] := by
  subst h
  unfold outT
  rw [if_neg (by omega), if_pos (Nat.le_refl _), take_one hx, List.drop_append, List.drop_of_length_le (by rw [List.length_take]; omega), List.length_take, Nat.min_eq_left (by have := (List.getElem?_eq_some_iff.1 hx).1; omega), Nat.sub_self]
  rfl
theorem out_high (hx : bl[j]? = some x) (h : gapA bl < j) : outT bl y (j + 1) = outT bl y j ++ [x] := by
  unfold outT
  have := (List.getElem?_eq_some_iff.1 hx).1
  rw [if_neg (by omega), if_neg (by omega), take_one hx, List.drop_append, List.length_take, show gapA bl - min j bl.length = 0 by omega, List.drop_zero, List.append_assoc (bl.take (gapA bl) ++ [y])]
theorem out_end (h : bl.length ≤ j) (h2 : gapA bl < j) : outT bl y j = bl.take (gapA bl) ++ [y] ++ bl.drop (gapA bl) := by
  unfold outT
  rw [if_neg (by omega), List.take_of_length_le h]
theorem out_end0 (h : bl.length ≤ j) (h2 : ¬ gapA bl < j) : outT bl y j ++ [y] = bl.take (gapA bl) ++ [y] ++ bl.drop (gapA bl) := by
  unfold outT
  rw [if_pos (by omega), List.take_of_length_le h, List.take_of_length_le (by omega), List.drop_of_length_le (by omega), List.append_nil]
end
end Go.Proofs.Ytahccegfahghfaa

/-! slices.DeleteFunc at numbers. -/
namespace Go.Proofs.Ytahccegfahghfaa
open Go Go.RowKit

set_option maxRecDepth 100000 in
theorem idelf_t (w0 : World) (X Y : List Ob) (pg : FuncId) (pcb : Array Value) (pd : Int → Bool) (p : Option Addr) (n cap : Nat) (l : List Int) (w : World)
 (he : ∀ args w, (callFunc pg args).run Try.prog w = .ok (.enter pg args) w)
 (hH : Hs w0 (Y ++ X) w) (hO : SlO 3 Y p n cap l) (hb : n ≤ 1000)
 (hc : ∀ x ∈ l, ∀ w', Hs w0 X w' → Calls Try.prog pg (#[.int .i64 x] ++ pcb) w' fun e w1 => e = .returned (.bool (pd x)) ∧ Below w'.heap.size w' w1)
 : Calls Try.prog 58 #[.slice p n cap, .func (.func pg) #[] pcb] w fun e w' => ∃ q m capq Y', e = .returned (.slice q m capq) ∧ SlO 3 Y' q m capq (l.filter fun x => !pd x) ∧ Hs w0 (Y' ++ X) w' := by
 have hn := hO.len
 refine enter hH Try.func58 rfl Try.ntmps58 rfl (sq_ (qa0 [] [0, 1] [] (ds_ (sq_ (ao_ (qo0 2 [] [0, 1] [(8, .slice p n cap), (9, .func (.func pg) #[] pcb)] ?_))))))
 rcases idxF_cases pd l with ⟨hix, hnone⟩ | ⟨i0, x0, hix, hx0, hp0, hlow⟩
 ·
  refine cD (.int .i64 (-1)) Try.call68 (fun w hw => by have := iindexf_t w0 X pg pcb pd p n cap l w he (hw.sub (List.sublist_append_right _ _)) (hO.atN (A := []) hw) hn (by omega) hc; rw [hix] at this; exact this) (qo0 1 [] [0, 1] [(5, .int .i64 (-1))] (on_ (ds_ (sq_ (sq_ (qa0 [] [0, 1, 5] [(12, .bool true)] (ds_ (t_ (sq_ (qa0 [] [] [(4, .slice p n cap)] (ds_ (rt ([]) (.slice p n cap) ?_))))))))))))
  exact fun w' hw => ⟨_, _, _, Y, rfl, by rw [filter_none hnone]; exact hO, hw⟩
 ·
  have hi0 := (List.getElem?_eq_some_iff.1 hx0).1
  refine cD (.int .i64 (i0 : Nat)) Try.call68 (fun w hw => by have := iindexf_t w0 X pg pcb pd p n cap l w he (hw.sub (List.sublist_append_right _ _)) (hO.atN (A := []) hw) hn (by omega) hc; rw [hix] at this; exact this) (qo0 1 [] [0, 1] [(5, .int .i64 (i0 : Nat))] (on_ (ds_ (sq_ (sq_ (qa [(1, .no)] [0, 1, 5] [(12, .bool false)] ([¬ (((i0 : Nat) : Int) = (-1 : Int))]) (al1 (by omega)) (ds_ (f_ (at_skip (ds_ (sq_ (sq_ (qa [(1, .fit)] [0, 1, 5] [(6, .int .i64 (i0 + 1 : Nat))] ([Fit .i64 ((i0 + 1 : Nat))]) (al1 (fit64 (by omega) (by omega))) (ds_ (at_block ?_)))))))))))))))
  obtain ⟨g, cs0, rfl, rfl, hOw0⟩ := hO.rowOf (i := i0) (by omega)
  refine at_loop (α := Nat × Nat × List Int × Array Value) [0, 1, 5, 6] (fun ⟨i, j, m, cs⟩ => [(0, .slice (some ⟨g, 0, none⟩) n cap), (1, .func (.func pg) #[] pcb), (5, .int .i64 (i : Nat)), (6, .int .i64 (j : Nat))]) (fun ⟨i, j, m, cs⟩ => bx g cs 3 :: X) (fun ⟨i, j, m, cs⟩ => Dels pd l m i j ∧ OwnS (Enc.k Int) (m.flatMap Enc.enc) n cap cs) (fun ⟨i, j, m, cs⟩ => n - j) (i0, i0 + 1, l, cs0) (by kernel_rfl) rfl ⟨Dels.start hlow hx0 hp0, hOw0⟩ ?_
  rintro ⟨i, j, m, cs⟩
  rintro ⟨hD, hOw⟩
  have hm : n = m.length := by rw [hD.len]; exact hn
  have hij := hD.lt
  have hjn := hD.le
  refine sq_ (sq_ ?_)
  by_cases q10 : ((j : Nat) : Int) < ((n : Nat) : Int)
  ·
   refine qa [(3, .yes)] [0, 1, 5, 6] [(19, .bool true)] ([((j : Nat) : Int) < ((n : Nat) : Int)]) (al1 q10) (ds_ (t_ (at_skip (ds_ (sq_ (at_block (sq_ ?_)))))))
   obtain ⟨x13, hx13⟩ := get_some (l := m) (m := j) (by omega)
   refine qa [(2, .at g 0 j), (3, .go (ownps 0 (0 + j * 1) [.int .i64 x13]))] [0, 1, 5, 6] [(7, .int .i64 x13)] ([(some ⟨g, 0, none⟩ : Option Addr) = some ⟨g, 0, none⟩, (j : Nat) = ((j : Nat) : Int), j < n] ++ (acellsP cs (0 + j * 1) [.int .i64 x13])) (alA (al2 rfl (al2 rfl (al1 (by omega)))) (rda_pre (hOw.rdx hm hx13) _ rfl)) (ds_ (sq_ (ao_ (qo0 2 [] [0, 1, 5, 6, 7] [(26, .func (.func pg) #[] pcb), (27, .int .i64 x13)] ?_))))
   rcases q16 : pd x13 with _ | _
   ·
    refine cD (.bool false) he (fun w hw => by have := hc x13 (List.mem_of_getElem? (hD.get hx13)) w (hw.tailN 1); rw [q16] at this; exact this) (qo0 1 [] [0, 1, 5, 6, 7] [(29, .bool true)] (on_ (ds_ (t_ (sq_ ?_)))))
    obtain ⟨x19, hx19⟩ := get_some (l := m) (m := i) (by omega)
    refine ma [(3, .at g 0 i), (4, .go (ownps 0 (0 + i * 1) [undef]))] [0, 1, 5, 6] (fun _ => []) (fun _ L => (L.set 0 (bx g ((cs).setIfInBounds (0 + i * 1) (.int .i64 x13)) 3))) (fun _ => [(some ⟨g, 0, none⟩ : Option Addr) = some ⟨g, 0, none⟩, (i : Nat) = ((i : Nat) : Int), i < n] ++ ([0 + i * 1 < (cs).size])) (fun _ => (alA (al2 rfl (al2 rfl (al1 (by omega)))) (al1 (hOw.room hm hx19 (f := 0) (by decide))))) (fun _ => ds_ (qa [(1, .fit)] [0, 1, 6] [(5, .int .i64 (i + 1 : Nat))] ([Fit .i64 ((i + 1 : Nat))]) (al1 (fit64 (by omega) (by omega))) (done_block (ds_ (qa [(1, .fit)] [0, 1, 5] [(6, .int .i64 (j + 1 : Nat))] ([Fit .i64 ((j + 1 : Nat))]) (al1 (fit64 (by omega) (by omega))) ?_)))))
    exact dr [0, 1, 5, 6] (i + 1, j + 1, m.set i x13, (cs).setIfInBounds (0 + i * 1) (.int .i64 x13)) ⟨hD.no hx13 q16, (hOw.put (x' := x13) hm hx19 (f := 0) (by decide) rfl)⟩
   ·
    refine cD (.bool true) he (fun w hw => by have := hc x13 (List.mem_of_getElem? (hD.get hx13)) w (hw.tailN 1); rw [q16] at this; exact this) (qo0 1 [] [0, 1, 5, 6, 7] [(29, .bool false)] (on_ (ds_ (f_ (at_skip (done_block (ds_ (qa [(1, .fit)] [0, 1, 5] [(6, .int .i64 (j + 1 : Nat))] ([Fit .i64 ((j + 1 : Nat))]) (al1 (fit64 (by omega) (by omega))) ?_))))))))
    exact dr [0, 1, 5, 6] (i, j + 1, m, cs) ⟨hD.yes hx13 q16, hOw⟩
  ·
   refine qa [(3, .no)] [0, 1, 5, 6] [(19, .bool false)] ([¬ (((j : Nat) : Int) < ((n : Nat) : Int))]) (al1 q10) (ds_ (f_ (at_leave _ rfl (ds_ (sq_ (ao_ (qo 3 [(2, .sl (.slice (some ⟨g, 0 + i * 1, none⟩) (n - i) (cap - i)))] [0, 5] [(38, .slice (some ⟨g, 0 + i * 1, none⟩) (n - i) (cap - i))] ([SlRun Try.prog 25 (.slice (some ⟨g, 0, none⟩) n cap) (some (.int .i64 (i : Nat))) none none (.slice (some ⟨g, 0 + i * 1, none⟩) (n - i) (cap - i))]) (al1 (slE_lo (P := Try.prog) (T := 25) (e := 3) (k := 1) (by_ := 8) (by kernel_rfl) (lo := i) (by omega) (by have := hOw.le; omega))) ?_)))))))
   have hcs := hOw.csz
   refine ops_clear 0 rfl (by kernel_rfl) (by kernel_rfl) (g := g) (of := 0 + i * 1) (n := n - i) (dc := cap - i) (c := cs) (by kernel_rfl) (T := 3) (ks := 1) (by_ := 8) (by kernel_rfl) (by kernel_rfl) rfl (mul_room (c := cap) (by have := hOw.le; omega) hcs) (fun c2 hc2 hpre2 => on_ (ds_ (sq_ (qa [(2, .sl (.slice (some ⟨g, 0, none⟩) i cap))] [] [(4, .slice (some ⟨g, 0, none⟩) i cap)] ([SlRun Try.prog 25 (.slice (some ⟨g, 0, none⟩) n cap) none (some (.int .i64 (i : Nat))) none (.slice (some ⟨g, 0, none⟩) i cap)]) (al1 (slE_hi (P := Try.prog) (T := 25) (e := 3) (k := 1) (by_ := 8) (by kernel_rfl) (h := i) (by have := hOw.le; omega))) (ds_ (rt ([]) (.slice (some ⟨g, 0, none⟩) i cap) ?_))))))
   exact fun w' hw => ⟨_, _, _, [_], rfl, by rw [← hD.done (j := j) (by omega)]; exact .inr ⟨_, _, rfl, rfl, by rw [List.length_take]; omega, hOw.cut hm (by omega) hc2 hpre2⟩, hw⟩

set_option maxRecDepth 100000 in
theorem leave11_t (x : Int) (g : Nat) (k : Int) (w : World)
 (hk : Rd w g (0 + 0 * 1) [.int .i64 k])
 : Calls Try.prog 59 #[.int .i64 x, .pointer (some ⟨g, 0 + 0 * 1, none⟩)] w fun e w' => e = .returned (.bool (decide (x = k))) ∧ Below w.heap.size w w' := by
 refine enter (Hs.start w) Try.func59 rfl Try.ntmps59 rfl (sq_ (qa0 [] [0, 1] [] (ds_ (sq_ ?_))))
 by_cases q3 : (x : Int) = (k : Int)
 ·
  refine qa [(1, .go (outs g (0 + 0 * 1) [.int .i64 k])), (2, .yes)] [] [(3, .bool true)] (cellsP w g (0 + 0 * 1) [.int .i64 k] ++ ([(x : Int) = (k : Int)])) (alA (rd_pre hk _ rfl) (al1 q3)) (ds_ (rt ([]) (.bool true) ?_))
  exact fun w' hw => ⟨by rw [show decide (x = k) = true from decide_eq_true (by omega)], hw.below⟩
 ·
  refine qa [(1, .go (outs g (0 + 0 * 1) [.int .i64 k])), (2, .no)] [] [(3, .bool false)] (cellsP w g (0 + 0 * 1) [.int .i64 k] ++ ([¬ ((x : Int) = (k : Int))])) (alA (rd_pre hk _ rfl) (al1 q3)) (ds_ (rt ([]) (.bool false) ?_))
  exact fun w' hw => ⟨by rw [show decide (x = k) = false from decide_eq_false (by omega)], hw.below⟩
end Go.Proofs.Ytahccegfahghfaa

/-! Gangs: Leave. -/
namespace Go.Proofs.Ytahccegfahghfaa
open Go Go.RowKit

set_option maxRecDepth 100000 in
theorem leave1_t (w0 : World) (Y Yi YR : List Ob) (gb gk : Nat) (q : Option Addr) (m capq : Nat) (bl : List GngA) (k : Int) (w : World)
 (hbm : m ≤ 1000) (hO : SlO 46 Y q m capq bl) (hG : GotG 3 Yi bl) (hgd : gangB (bl.map GngA.val) = true) (hH : Hs w0 (bx gb #[.slice q m capq] 38 :: bx gk #[.int .i64 k] 3 :: (Y ++ (Yi ++ YR))) w)
 : Calls Try.prog 57 #[.pointer (some ⟨gb, 0, none⟩), .pointer (some ⟨gk, 0, none⟩)] w fun e w' => ∃ er q2 n2 c2 Y2 Yi2 bl2, e = .returned (.int .i64 er) ∧ (bl2.map GngA.val, er) = leaveC (bl.map GngA.val) k ∧ SlO 46 Y2 q2 n2 c2 bl2 ∧ GotG 3 Yi2 bl2 ∧ Hs w0 (bx gb #[.slice q2 n2 c2] 38 :: bx gk #[.int .i64 k] 3 :: (Y2 ++ (Yi2 ++ YR))) w' := by
 have hma := hO.len
 have hm9 := got_small hG hgd
 rw [show YR = YR ++ [] from (List.append_nil _).symm] at hH
 refine enter hH Try.func57 rfl Try.ntmps57 rfl (sq_ (qa0 [] [0, 1] [] (ds_ (sq_ ?_))))
 refine at_calm rfl (by kernel_rfl) (by kernel_rfl) ?_
 refine cm 4 [(2, .go (owns 0 0 1)), (3, .go (owns 1 0 1))] [0, 1] [(8, .agg #[.slice q m capq]), (9, .int .i64 k)] ([]) (by kernel_rfl) rfl al0 ?_
 rcases idxF_cases (hasG k) bl with ⟨hix, hnone⟩ | ⟨i0, x0, hix, hx0, hp0, hlow⟩
 ·
  refine cK (.int .i64 (-1)) Try.call45 (fun w hw => by have := place_t q m capq bl k w (hO.atN (A := [_, _]) hw) hO.len (by omega) (GotG.reads hG hw (List.Sublist.cons _ (List.Sublist.cons _ (List.Sublist.trans (List.sublist_append_left Yi _) (List.sublist_append_right Y _))))) hm9; rw [hix] at this; exact this) ?_
  refine cm 1 [] [0, 1] [(4, .int .i64 (-1))] ([]) (by kernel_rfl) rfl al0 ?_
  refine calm_nil' ?_
  refine ds_ (sq_ (sq_ (qa0 [] [0, 1, 4] [(12, .bool true)] (ds_ (t_ (sq_ (qa0 [] [] [(3, .int .i64 4)] (ds_ (rt ([]) (.int .i64 4) ?_)))))))))
  exact fun w' hw => ⟨_, _, _, _, _, _, bl, rfl, (lc_none hnone).symm, hO, hG, (by have := Hs.pick [[bx gb (#[.slice q m capq]) 38], [bx gk (#[.int .i64 k]) 3], Y, Yi, YR] [0, 1, 2, 3, 4] [] (by kernel_rfl) hw; simpa [chunk] using this)⟩
 ·
  have hi0 := (List.getElem?_eq_some_iff.1 hx0).1
  refine cK (.int .i64 (i0 : Nat)) Try.call45 (fun w hw => by have := place_t q m capq bl k w (hO.atN (A := [_, _]) hw) hO.len (by omega) (GotG.reads hG hw (List.Sublist.cons _ (List.Sublist.cons _ (List.Sublist.trans (List.sublist_append_left Yi _) (List.sublist_append_right Y _))))) hm9; rw [hix] at this; exact this) ?_
  refine cm 1 [] [0, 1] [(4, .int .i64 (i0 : Nat))] ([]) (by kernel_rfl) rfl al0 ?_
  refine calm_nil' ?_
  refine ds_ (sq_ (sq_ (qa [(1, .no)] [0, 1, 4] [(12, .bool false)] ([¬ (((i0 : Nat) : Int) < (0 : Int))]) (al1 (by omega)) (ds_ (f_ (at_skip (ds_ (sq_ ?_))))))))
  have hln9 := hO.len
  obtain ⟨g9, cs9, rfl, rfl, hOw9⟩ := hO.rowOf (i := i0) (by omega)
  refine qa [(3, .go (owns 0 0 1)), (5, .at g9 0 i0)] [0, 1, 4] [(5, .pointer (some ⟨g9, 0 + i0 * 2, none⟩))] ([(some ⟨g9, 0, none⟩ : Option Addr) = some ⟨g9, 0, none⟩, (i0 : Nat) = ((i0 : Nat) : Int), i0 < m]) (al2 rfl (al2 rfl (al1 (by omega)))) (ds_ (sq_ ?_))
  obtain ⟨Ya5, Yx5, Yb5, rfl, hOx5, hcut5⟩ := hG.cutG hx0
  refine At.as (L' := bx gb (#[.slice (some ⟨g9, 0, none⟩) m capq]) 38 :: bx gk (#[.int .i64 k]) 3 :: bx g9 cs9 46 :: (Ya5 ++ (Yx5 ++ (Yb5 ++ (YR ++ []))))) (by simp only [List.append_assoc, List.cons_append, List.nil_append]) ?_
  have hS9 := hm9 x0 (List.mem_of_getElem? hx0)
  refine ao_ (qo 6 [(4, .go (ownps 2 (0 + i0 * 2 + 1) [.slice x0.p x0.n x0.cap]))] [0, 4, 5] [(19, .pointer (some ⟨g9, 0 + i0 * 2, none⟩)), (23, .slice x0.p x0.n x0.cap), (24, .func (.func 59) #[] #[.pointer (some ⟨gk, 0, none⟩)])] (acellsP cs9 (0 + i0 * 2 + 1) [.slice x0.p x0.n x0.cap]) (rda_part (hOw9.rdx hO.len hx0) 1 _ rfl) (Ops.pick [[bx gb (#[.slice (some ⟨g9, 0, none⟩) m capq]) 38], [bx gk (#[.int .i64 k]) 3], [bx g9 cs9 46], Ya5, Yx5, Yb5, YR] [0, 1, 2, 4, 3, 5, 6] [] (bx gb (#[.slice (some ⟨g9, 0, none⟩) m capq]) 38 :: bx gk (#[.int .i64 k]) 3 :: bx g9 cs9 46 :: (Yx5 ++ (Ya5 ++ (Yb5 ++ (YR ++ []))))) (by kernel_rfl) rfl rfl (cP (fun v L' => ∃ q_ m_ c_ Y_, v = .slice q_ m_ c_ ∧ L' = [bx gb (#[.slice (some ⟨g9, 0, none⟩) m capq]) 38, bx gk (#[.int .i64 k]) 3, bx g9 cs9 46] ++ (Y_ ++ (Ya5 ++ (Yb5 ++ (YR ++ [])))) ∧ SlO 3 Y_ q_ m_ c_ (lessL x0.l k)) Try.call58 (fun w hw => (idelf_t _ ([bx gb (#[.slice (some ⟨g9, 0, none⟩) m capq]) 38, bx gk (#[.int .i64 k]) 3, bx g9 cs9 46] ++ (Ya5 ++ (Yb5 ++ (YR ++ [])))) Yx5 59 #[.pointer (some ⟨gk, 0, none⟩)] (fun x => decide (x = k)) x0.p x0.n x0.cap x0.l w (fun args w => Try.call59 args w) (Hs.front (A := [bx gb (#[.slice (some ⟨g9, 0, none⟩) m capq]) 38, bx gk (#[.int .i64 k]) 3, bx g9 cs9 46]) (Y := Yx5) (R := (Ya5 ++ (Yb5 ++ (YR ++ [])))) hw) hOx5 (by omega) (fun x hx w' hX => leave11_t x gk k w' (rd_one14 (hX.row 1 rfl)))).mono fun e w' ⟨q_, m_, c_, Y_, he, hO, hY⟩ => ⟨_, _, he, ⟨q_, m_, c_, Y_, rfl, rfl, hO⟩, hY.push⟩) ?_)))
  rintro v12 L12 ⟨q12, m12, cq12, Y12, rfl, rfl, hO12⟩
  refine mo 3 [(9, .go (ownps 2 (0 + i0 * 2 + 1) [undef]))] [0, 4, 5] (fun _ => []) (fun _ L => (L.set 2 (bx g9 ((cs9).setIfInBounds (0 + i0 * 2 + 1) (.slice q12 m12 cq12)) 46))) (fun _ => [0 + i0 * 2 + 1 < (cs9).size]) (fun _ => (al1 (hOw9.room hO.len hx0 (f := 1) (by decide)))) (fun _ => on_ (ds_ (sq_ (sq_ ?_))))
  by_cases q15 : ((m12 : Nat) : Int) < (2 : Int)
  ·
   refine qa [(3, .go (ownps 2 (0 + i0 * 2 + 1) [.slice q12 m12 cq12])), (5, .yes)] [0, 4] [(33, .bool true)] (acellsP ((cs9).setIfInBounds (0 + i0 * 2 + 1) (.slice q12 m12 cq12)) (0 + i0 * 2 + 1) [.slice q12 m12 cq12] ++ ([((m12 : Nat) : Int) < (2 : Int)])) (alA (rda_part ((hOw9.put (x' := (⟨x0.id, q12, m12, cq12, (lessL x0.l k)⟩ : GngA)) hO.len hx0 (f := 1) (by decide) rfl).rdx (len_set hO.len) (get_set hx0)) 1 _ rfl) (al1 q15)) (ds_ (t_ (At.pick [[bx gb (#[.slice (some ⟨g9, 0, none⟩) m capq]) 38], [bx gk (#[.int .i64 k]) 3], [bx g9 ((cs9).setIfInBounds (0 + i0 * 2 + 1) (.slice q12 m12 cq12)) 46], Y12, Ya5, Yb5, YR] [0, 1, 2, 3, 4, 5, 6] [] (bx gb (#[.slice (some ⟨g9, 0, none⟩) m capq]) 38 :: bx gk (#[.int .i64 k]) 3 :: ([bx g9 ((cs9).setIfInBounds (0 + i0 * 2 + 1) (.slice q12 m12 cq12)) 46] ++ (Y12 ++ (Ya5 ++ (Yb5 ++ (YR ++ [])))))) (by kernel_rfl) rfl rfl (ao_ (qo 8 [(4, .go (owns 0 0 1)), (7, .fit)] [] [(34, .pointer (some ⟨gb, 0, none⟩)), (38, .slice (some ⟨g9, 0, none⟩) m capq), (39, .int .i64 (i0 : Nat)), (41, .int .i64 (i0 + 1 : Nat))] ([Fit .i64 ((i0 + 1 : Nat))]) (al1 (fit64 (by omega) (by omega))) (cP (fun v L' => ∃ q_ c_ Y_, v = .slice q_ (i0 + (m - (i0 + 1))) c_ ∧ L' = [bx gb (#[.slice (some ⟨g9, 0, none⟩) m capq]) 38, bx gk (#[.int .i64 k]) 3] ++ (Y_ ++ (Y12 ++ (Ya5 ++ (Yb5 ++ (YR ++ []))))) ∧ SlO 46 Y_ q_ (i0 + (m - (i0 + 1))) c_ ((bl.set i0 (⟨x0.id, q12, m12, cq12, (lessL x0.l k)⟩ : GngA)).take i0 ++ (bl.set i0 (⟨x0.id, q12, m12, cq12, (lessL x0.l k)⟩ : GngA)).drop (i0 + 1))) Try.call56 (fun w hw => (gdelete_t _ ([bx gb (#[.slice (some ⟨g9, 0, none⟩) m capq]) 38, bx gk (#[.int .i64 k]) 3] ++ (Y12 ++ (Ya5 ++ (Yb5 ++ (YR ++ []))))) [bx g9 ((cs9).setIfInBounds (0 + i0 * 2 + 1) (.slice q12 m12 cq12)) 46] (some ⟨g9, 0, none⟩) m capq (bl.set i0 (⟨x0.id, q12, m12, cq12, (lessL x0.l k)⟩ : GngA)) i0 (i0 + 1) w (Hs.front (A := [bx gb (#[.slice (some ⟨g9, 0, none⟩) m capq]) 38, bx gk (#[.int .i64 k]) 3]) (Y := [bx g9 ((cs9).setIfInBounds (0 + i0 * 2 + 1) (.slice q12 m12 cq12)) 46]) (R := (Y12 ++ (Ya5 ++ (Yb5 ++ (YR ++ []))))) hw) (SlO.ofOwn (hOw9.put (x' := (⟨x0.id, q12, m12, cq12, (lessL x0.l k)⟩ : GngA)) hO.len hx0 (f := 1) (by decide) rfl) (len_set hO.len)) (by omega) (by omega) (by omega)).mono fun e w' ⟨q_, c_, Y_, he, hO, hY⟩ => ⟨_, _, he, ⟨q_, c_, Y_, rfl, rfl, hO⟩, hY.push⟩) ?_))))))
   rintro v18 L18 ⟨q18, cq18, Y18, rfl, rfl, hO18⟩
   refine mo0 3 [(11, .go (owns 0 0 1))] [] (fun _ => []) (fun _ L => (L.set 0 (bx gb (#[.slice q18 (i0 + (m - (i0 + 1))) cq18]) 38))) (fun _ => on_ (ds_ (sq_ (qa0 [] [] [(3, .int .i64 0)] (ds_ (rt ([]) (.int .i64 0) ?_))))))
   have hq12 := hO12.len
   obtain ⟨Yq, hsq, hGq⟩ := GotG.cutAt (j := i0) (hcut5 _ (⟨x0.id, q12, m12, cq12, (lessL x0.l k)⟩ : GngA) hO12)
   exact fun w' hw => ⟨_, _, _, _, _, Yq, _, rfl, (lc_two (y := (⟨x0.id, q12, m12, cq12, (lessL x0.l k)⟩ : GngA)) hx0 hp0 hlow (by omega)).symm, hO18, hGq, part_sub hsq (by have h9 : Hs w0 (bx gb (#[.slice q18 (i0 + (m - (i0 + 1))) cq18]) 38 :: bx gk (#[.int .i64 k]) 3 :: (Y18 ++ (Ya5 ++ (Y12 ++ (Yb5 ++ (YR ++ [])))))) w' := Hs.pick [[bx gb (#[.slice q18 (i0 + (m - (i0 + 1))) cq18]) 38], [bx gk (#[.int .i64 k]) 3], Y18, Y12, Ya5, Yb5, YR] [0, 1, 2, 4, 3, 5, 6] [] (by kernel_rfl) hw; rw [List.append_nil] at h9; simp only [List.append_assoc, List.cons_append, List.nil_append]; exact h9)⟩
  ·
   refine qa [(3, .go (ownps 2 (0 + i0 * 2 + 1) [.slice q12 m12 cq12])), (5, .no)] [0, 4] [(33, .bool false)] (acellsP ((cs9).setIfInBounds (0 + i0 * 2 + 1) (.slice q12 m12 cq12)) (0 + i0 * 2 + 1) [.slice q12 m12 cq12] ++ ([¬ (((m12 : Nat) : Int) < (2 : Int))])) (alA (rda_part ((hOw9.put (x' := (⟨x0.id, q12, m12, cq12, (lessL x0.l k)⟩ : GngA)) hO.len hx0 (f := 1) (by decide) rfl).rdx (len_set hO.len) (get_set hx0)) 1 _ rfl) (al1 q15)) (ds_ (f_ (at_skip (ds_ (sq_ (qa0 [] [] [(3, .int .i64 0)] (ds_ (rt ([]) (.int .i64 0) ?_))))))))
   have hq12 := hO12.len
   exact fun w' hw => ⟨_, _, _, _, _, _, _, rfl, (lc_more (y := (⟨x0.id, q12, m12, cq12, (lessL x0.l k)⟩ : GngA)) hx0 hp0 hlow (by omega) rfl).symm, (SlO.ofOwn (hOw9.put (x' := (⟨x0.id, q12, m12, cq12, (lessL x0.l k)⟩ : GngA)) hO.len hx0 (f := 1) (by decide) rfl) (len_set hO.len)), hcut5 _ (⟨x0.id, q12, m12, cq12, (lessL x0.l k)⟩ : GngA) hO12, (by have h9 : Hs w0 (bx gb (#[.slice (some ⟨g9, 0, none⟩) m capq]) 38 :: bx gk (#[.int .i64 k]) 3 :: bx g9 ((cs9).setIfInBounds (0 + i0 * 2 + 1) (.slice q12 m12 cq12)) 46 :: (Ya5 ++ (Y12 ++ (Yb5 ++ (YR ++ []))))) w' := Hs.pick [[bx gb (#[.slice (some ⟨g9, 0, none⟩) m capq]) 38], [bx gk (#[.int .i64 k]) 3], [bx g9 ((cs9).setIfInBounds (0 + i0 * 2 + 1) (.slice q12 m12 cq12)) 46], Y12, Ya5, Yb5, YR] [0, 1, 2, 4, 3, 5, 6] [] (by kernel_rfl) hw; rw [List.append_nil] at h9; simp only [List.append_assoc, List.cons_append, List.nil_append]; exact h9)⟩

set_option maxRecDepth 100000 in
theorem leave_t (q : Option Addr) (m capq : Nat) (al : List GngA) (k : Int) (w : World)
 (hal : Sv w q al) (hma : m = al.length) (hbm : m ≤ 1000) (hnm : ∀ x ∈ al, x.Reads w) (hm9 : ∀ x ∈ al, x.n ≤ 1000)
 : Calls Try.prog 33 #[.agg #[.slice q m capq], .int .i64 k] w fun e w' => ∃ er q' n' c' Y Yi bl, e = .returned (.tuple #[.agg #[.slice q' n' c'], .int .i64 er]) ∧ (bl.map GngA.val, er) = movG (al.map GngA.val) (leaveC (al.map GngA.val) k) ∧ SlO 46 Y q' n' c' bl ∧ GotG 3 Yi bl ∧ Below w.heap.size w w' ∧ Hs w (Y ++ Yi) w' := by
 refine enter (Hs.start w) Try.func33 rfl Try.ntmps33 rfl (sq_ (ma0 [] [] (fun γ1 => [(2, .pointer (some ⟨γ1 0, 0, none⟩)), (3, .pointer (some ⟨γ1 1, 0, none⟩)), (4, .pointer (some ⟨γ1 2, 0, none⟩))]) (fun γ1 L => bx (γ1 2) (#[.slice none 0 0]) 38 :: bx (γ1 1) (#[.int .i64 k]) 3 :: bx (γ1 0) (#[.slice q m capq]) 38 :: L) (fun γ1 => ds_ (sq_ (ao_ (qo0 2 [(0, .go (owns 2 0 1))] [4] [(6, .agg #[.slice q m capq]), (7, .func (.func 57) #[] #[.pointer (some ⟨γ1 1, 0, none⟩)])] (Ops.pick [[bx (γ1 2) (#[.slice none 0 0]) 38], [bx (γ1 1) (#[.int .i64 k]) 3], [bx (γ1 0) (#[.slice q m capq]) 38]] [1, 0, 2] [] ([bx (γ1 1) (#[.int .i64 k]) 3, bx (γ1 2) (#[.slice none 0 0]) 38, bx (γ1 0) (#[.slice q m capq]) 38]) (by kernel_rfl) rfl rfl (cP (fun v L' => ∃ er q_ n_ c_ Y_ Z_ bl_, v = .tuple #[.agg #[.slice q_ n_ c_], .int .i64 er] ∧ L' = [bx (γ1 1) (#[.int .i64 k]) 3, bx (γ1 2) (#[.slice none 0 0]) 38, bx (γ1 0) (#[.slice q m capq]) 38] ++ (Y_ ++ (Z_ ++ [])) ∧ SlO 46 Y_ q_ n_ c_ bl_ ∧ GotG 3 Z_ bl_ ∧ (bl_.map GngA.val, er) = movG (al.map GngA.val) (leaveC (al.map GngA.val) k)) Try.call50 (fun w hw => (with_t _ [bx (γ1 1) (#[.int .i64 k]) 3, bx (γ1 2) (#[.slice none 0 0]) 38, bx (γ1 0) (#[.slice q m capq]) 38] 57 #[.pointer (some ⟨γ1 1, 0, none⟩)] (fun er gs X2 => (gs, er) = leaveC (al.map GngA.val) k ∧ X2 = [bx (γ1 1) (#[.int .i64 k]) 3, bx (γ1 2) (#[.slice none 0 0]) 38, bx (γ1 0) (#[.slice q m capq]) 38]) q m capq al w (fun args w => Try.call57 args w) hw hal hma hbm hnm hm9 (fun hgd gb q' c' Y Yi R bl w' hO hG hV hX => (leave1_t _ Y Yi ([bx (γ1 2) (#[.slice none 0 0]) 38, bx (γ1 0) (#[.slice q m capq]) 38] ++ R) gb (γ1 1) q' m c' bl k w' hbm hO hG (by rw [hV]; exact hgd) (part_in (O := [bx (γ1 2) (#[.slice none 0 0]) 38, bx (γ1 0) (#[.slice q m capq]) 38]) hX)).mono fun e w'' ⟨er, q2, n2, c2, Y2, Yi2, bl2, he, h1, h2, h3, h4⟩ => ⟨er, q2, n2, c2, Y2, Yi2, bl2, _, he, ⟨by rw [← hV]; exact h1, rfl⟩, h2, h3, part_out (O := [bx (γ1 2) (#[.slice none 0 0]) 38, bx (γ1 0) (#[.slice q m capq]) 38]) h4⟩)).mono fun e w' ⟨er, q_, n_, c_, Y_, Z_, bl_, X_, he, h1, h2, hX, h3⟩ => by obtain ⟨hx, hv⟩ := mov_post (L := [bx (γ1 1) (#[.int .i64 k]) 3, bx (γ1 2) (#[.slice none 0 0]) 38, bx (γ1 0) (#[.slice q m capq]) 38]) h3; subst hx; exact ⟨_, _, he, ⟨er, q_, n_, c_, Y_, Z_, bl_, rfl, rfl, h1, h2, hv⟩, form_out2 hX⟩) ?_))))))))
 rintro v3 L3 ⟨er3, q3, n3, c3, Y3, Yz3, bl3, rfl, rfl, hO3, hG3, hV3⟩
 refine mo0 4 [(5, .go (owns 1 0 1))] [4] (fun _ => [(5, .int .i64 er3)]) (fun _ L => (L.set 1 (bx (γ1 2) (#[.slice q3 n3 c3]) 38))) (fun _ => on_ (ds_ (rt (owns 1 0 1) (.tuple #[.agg #[.slice q3 n3 c3], .int .i64 er3]) ?_)))
 exact fun w' hw => ⟨_, _, _, _, _, _, _, rfl, hV3, hO3, hG3, hw.below, two_tails14 (Hs.pick [[bx (γ1 1) (#[.int .i64 k]) 3], [bx (γ1 2) (#[.slice q3 n3 c3]) 38], [bx (γ1 0) (#[.slice q m capq]) 38], Y3, Yz3] [3, 4] [0, 1, 2] (by kernel_rfl) hw)⟩
end Go.Proofs.Ytahccegfahghfaa

/-! Gangs: Of, Members. -/
namespace Go.Proofs.Ytahccegfahghfaa
open Go Go.RowKit

end Go.Proofs.Ytahccegfahghfaa

/-! Gangs: slices.Equal. -/
namespace Go.Proofs.Ytahccegfahghfaa
open Go Go.RowKit

end Go.Proofs.Ytahccegfahghfaa

/-! Gangs: Same. -/
namespace Go.Proofs.Ytahccegfahghfaa
open Go Go.RowKit
theorem gsame_on {al bl : List GngA} {x y : GngA} {j : Nat} (hI : (al.take j).map GngA.val = (bl.take j).map GngA.val) (ha : al[j]? = some x) (hb : bl[j]? = some y) (e : decide (x.val = y.val) = true) : (al.take (j + 1)).map GngA.val = (bl.take (j + 1)).map GngA.val := by
 rw [take_one ha, take_one hb, List.map_append, List.map_append, hI, List.map_cons, List.map_cons, of_decide_eq_true e]
theorem gsame_no {al bl : List GngA} {x y : GngA} {j : Nat} (ha : al[j]? = some x) (hb : bl[j]? = some y) (e : decide (x.val = y.val) = false) : decide (al.map GngA.val = bl.map GngA.val) = false := decide_eq_false fun h => by
 have h1 := congrArg (fun l : List (Int × List Int) => l[j]?) h
 simp only [List.getElem?_map, ha, hb, Option.map_some, Option.some.injEq] at h1
 exact of_decide_eq_false e h1
theorem gsame_len {al bl : List GngA} (e : ¬ al.length = bl.length) : decide (al.map GngA.val = bl.map GngA.val) = false := decide_eq_false fun h => by
 have h1 := congrArg List.length h
 rw [List.length_map, List.length_map] at h1
 exact e h1
theorem gsame_yes {al bl : List GngA} {j : Nat} (hI : (al.take j).map GngA.val = (bl.take j).map GngA.val) (h1 : al.length ≤ j) (h2 : bl.length ≤ j) : decide (al.map GngA.val = bl.map GngA.val) = true := by
 rw [List.take_of_length_le h1, List.take_of_length_le h2] at hI
 exact decide_eq_true hI

end Go.Proofs.Ytahccegfahghfaa

/-! The document: Of. -/
namespace Go.Proofs.Ytahccegfahghfaa
open Go Go.RowKit

set_option maxRecDepth 100000 in
theorem rof_t (q : Option Addr) (m capq : Nat) (al : List GngA) (k : Int) (w : World)
 (hal : Sv w q al) (hma : m = al.length) (hbm : m ≤ 1000) (hnm : ∀ x ∈ al, x.Reads w) (hm9 : ∀ x ∈ al, x.n ≤ 1000)
 : Calls Try.prog 24 #[.agg #[.slice q m capq], .int .i64 k] w fun e w' => e = .returned (.int .i64 (rofV (al.map GngA.val) k)) ∧ Below w.heap.size w w' := by
 refine enter (Hs.start w) Try.func24 rfl Try.ntmps24 rfl (sq_ (ma0 [] [1] (fun γ1 => [(2, .pointer (some ⟨γ1 0, 0, none⟩))]) (fun γ1 L => bx (γ1 0) (#[.slice q m capq]) 38 :: L) (fun γ1 => ds_ (sq_ (sq_ (qa0 [(1, .go (owns 0 0 1))] [1] [(8, .slice q m capq), (9, .int .i64 (m : Nat)), (10, .int .i64 0)] (ds_ (at_block (At.pick [[bx (γ1 0) (#[.slice q m capq]) 38]] [] [0] ([]) (by kernel_rfl) rfl rfl (at_loop (α := Nat) [1, 8, 9, 10] (fun j => [(1, .int .i64 k), (8, .slice q m capq), (9, .int .i64 (m : Nat)), (10, .int .i64 (j : Nat))]) (fun j => []) (fun j => j ≤ m ∧ ∀ (t : Nat) (y : GngA), t < j → al[t]? = some y → hasG k y = false) (fun j => m - j) 0 (by kernel_rfl) rfl ⟨Nat.zero_le _, fun t y h => by omega⟩ ?_))))))))))
 rintro j
 rintro ⟨hj, hI⟩
 refine sq_ ?_
 by_cases q4 : ((j : Nat) : Int) < ((m : Nat) : Int)
 ·
  refine qa [(0, .yes)] [1, 8, 9, 10] [(11, .bool true)] ([((j : Nat) : Int) < ((m : Nat) : Int)]) (al1 q4) (ds_ (sq_ (t_ (at_skip (ds_ (sq_ (at_block (sq_ ?_))))))))
  obtain ⟨b7, o7, rfl⟩ := hal.pos (i := j) (by omega)
  obtain ⟨x9, hx9⟩ := get_some (l := al) (m := j) (by omega)
  have hsx9 : Sv w x9.p x9.l := (hnm x9 (List.mem_of_getElem? hx9)).sv
  have hnx9 : x9.n = x9.l.length := (hnm x9 (List.mem_of_getElem? hx9)).hn
  have hm9x9 := hm9 x9 (List.mem_of_getElem? hx9)
  refine ma [(0, .at b7 o7 j), (1, .go (outs b7 (o7 + j * 2) [.int .i64 x9.id, .slice x9.p x9.n x9.cap])), (3, .go (owns 0 0 2))] [1, 8, 9, 10] (fun γ10 => [(6, .pointer (some ⟨γ10 0, 0, none⟩))]) (fun γ10 L => bx (γ10 0) (#[.int .i64 x9.id, .slice x9.p x9.n x9.cap]) 46 :: L) (fun γ10 => [(some ⟨b7, o7, none⟩ : Option Addr) = some ⟨b7, o7, none⟩, (j : Nat) = ((j : Nat) : Int), j < m] ++ (cellsP w b7 (o7 + j * 2) [.int .i64 x9.id, .slice x9.p x9.n x9.cap])) (fun γ10 => (alA (al2 rfl (al2 rfl (al1 (by omega)))) (rd_pre (hal.get hx9) _ rfl))) (fun γ10 => ds_ (sq_ (ao_ (qo0 3 [(1, .go (owns 0 1 1))] [1, 6, 8, 9, 10] [(15, .slice x9.p x9.n x9.cap), (16, .int .i64 k)] ?_))))
  rcases q12 : decide (k ∈ x9.l) with _ | _
  ·
   refine cD (.bool false) Try.call38 (fun w hw => by have := has_t x9.p x9.n x9.cap x9.l k w (hsx9.kept hw.below) hnx9 (by omega); rw [q12] at this; exact this) (on_ (ds_ (f_ (at_skip (done_block (ds_ (qa [(0, .fit)] [1, 8, 9] [(10, .int .i64 (j + 1 : Nat))] ([Fit .i64 ((j + 1 : Nat))]) (al1 (fit64 (by omega) (by omega))) (Done.drop (L' := []) ?_ (List.Sublist.cons _ (List.Sublist.refl _))))))))))
   exact dr [1, 8, 9, 10] (j + 1) ⟨by omega, fun t y ht e => by by_cases htj : t = j; (subst htj; rw [hx9] at e; cases e; exact q12); exact hI t y (by omega) e⟩
  ·
   refine cD (.bool true) Try.call38 (fun w hw => by have := has_t x9.p x9.n x9.cap x9.l k w (hsx9.kept hw.below) hnx9 (by omega); rw [q12] at this; exact this) (on_ (ds_ (t_ (sq_ (qa0 [(1, .go (owns 0 0 1))] [] [(4, .int .i64 x9.id)] (ds_ (rt ([]) (.int .i64 x9.id) ?_)))))))
   exact fun w' hw => ⟨by rw [rofv_some hx9 q12 hI], hw.below⟩
 ·
  refine qa [(0, .no)] [1, 8, 9, 10] [(11, .bool false)] ([¬ (((j : Nat) : Int) < ((m : Nat) : Int))]) (al1 q4) (ds_ (sq_ (f_ (at_leave _ rfl (ds_ (sq_ (qa0 [] [] [(4, .int .i64 0)] (ds_ (rt ([]) (.int .i64 0) ?_)))))))))
  exact fun w' hw => ⟨by rw [rofv_none (by omega) hI], hw.below⟩
end Go.Proofs.Ytahccegfahghfaa

/-! The document: members. -/
namespace Go.Proofs.Ytahccegfahghfaa
open Go Go.RowKit
theorem last_prev {l : List Int} {i j : Nat} {y : Int} (hx : l[i]? = some y) (e : j = i + 1) : lastV 0 (l.take j) = y := by subst e; exact last_onT hx
theorem last_zero {l : List Int} {j : Nat} (e : j = 0) : lastV 0 (l.take j) = 0 := by subst e; rfl
theorem up_last : ∀ {l : List Int} {a : Int}, upB a l = true → a ≤ lastV a l
 | [], a, _ => Int.le_refl _
 | b :: l, a, h => by
  simp only [upB, Bool.and_eq_true, decide_eq_true_eq] at h
  rw [last_cons]
  have := up_last h.2
  omega
theorem up_bad0 {l : List Int} {j : Nat} {n : Int} (h : upB 0 (l.take j) = true) (hx : l[j]? = some n) (e : ¬ (1 ≤ n ∧ n ≤ 16)) : mayB l = false := up_bad hx (by have := up_last h; omega)

set_option maxRecDepth 100000 in
theorem rmembers_t (p : Option Addr) (n cap : Nat) (l : List Int) (w : World)
 (hsl : Sv w p l) (hn : n = l.length) (hb : n ≤ 1000)
 : Calls Try.prog 40 #[.slice p n cap] w fun e w' => e = .returned (.bool (mayB l)) ∧ Below w.heap.size w w' := by
 refine enter (Hs.start w) Try.func40 rfl Try.ntmps40 rfl (sq_ (qa0 [] [0] [] (ds_ (sq_ (sq_ (qa0 [] [0] [(5, .slice p n cap), (6, .int .i64 (n : Nat)), (7, .int .i64 0)] (ds_ (at_block (at_loop (α := Nat) [0, 5, 6, 7] (fun j => [(0, .slice p n cap), (5, .slice p n cap), (6, .int .i64 (n : Nat)), (7, .int .i64 (j : Nat))]) (fun j => []) (fun j => j ≤ n ∧ upB 0 (l.take j) = true) (fun j => n - j) 0 (by kernel_rfl) rfl ⟨Nat.zero_le _, rfl⟩ ?_)))))))))
 rintro j
 rintro ⟨hj, hI⟩
 refine sq_ ?_
 by_cases q4 : ((j : Nat) : Int) < ((n : Nat) : Int)
 ·
  refine qa [(0, .yes)] [0, 5, 6, 7] [(8, .bool true)] ([((j : Nat) : Int) < ((n : Nat) : Int)]) (al1 q4) (ds_ (sq_ (t_ (at_skip (ds_ (sq_ (at_block (sq_ ?_))))))))
  obtain ⟨b7, o7, rfl⟩ := hsl.pos (i := j) (by omega)
  obtain ⟨x9, hx9⟩ := get_some (l := l) (m := j) (by omega)
  refine qa [(1, .at b7 o7 j), (2, .go (outs b7 (o7 + j * 1) [.int .i64 x9]))] [0, 5, 6, 7] [(3, .int .i64 (j : Nat)), (4, .int .i64 x9)] ([(some ⟨b7, o7, none⟩ : Option Addr) = some ⟨b7, o7, none⟩, (j : Nat) = ((j : Nat) : Int), j < n] ++ (cellsP w b7 (o7 + j * 1) [.int .i64 x9])) (alA (al2 rfl (al2 rfl (al1 (by omega)))) (rd_pre (hsl.get hx9) _ rfl)) (ds_ (sq_ ?_))
  by_cases q12 : (x9 : Int) < (1 : Int)
  ·
   refine qa [(1, .yes)] [0, 5, 6, 7] [(30, .bool true)] ([(x9 : Int) < (1 : Int)]) (al1 q12) (ds_ (t_ (sq_ (qa0 [] [] [(2, .bool false)] (ds_ (rt ([]) (.bool false) ?_))))))
   exact fun w' hw => ⟨by rw [up_bad0 hI hx9 (by omega)], hw.below⟩
  ·
   by_cases q16 : (x9 : Int) > (16 : Int)
   ·
    refine qa [(1, .no), (4, .yes)] [0, 5, 6, 7] [(30, .bool true)] ([¬ ((x9 : Int) < (1 : Int))] ++ ([(x9 : Int) > (16 : Int)])) (alA (al1 q12) (al1 q16)) (ds_ (t_ (sq_ (qa0 [] [] [(2, .bool false)] (ds_ (rt ([]) (.bool false) ?_))))))
    exact fun w' hw => ⟨by rw [up_bad0 hI hx9 (by omega)], hw.below⟩
   ·
    by_cases q20 : ((j : Nat) : Int) > (0 : Int)
    ·
     obtain ⟨x22, hx22⟩ := get_some (l := l) (m := ((((j : Nat) : Int) - 1)).toNat) (by omega)
     by_cases q24 : (x22 : Int) ≥ (x9 : Int)
     ·
      refine qa [(1, .no), (4, .no), (8, .yes), (12, .fit), (13, .at b7 o7 (((((j : Nat) : Int) - 1)).toNat)), (14, .go (outs b7 (o7 + (((((j : Nat) : Int) - 1)).toNat) * 1) [.int .i64 x22])), (16, .yes)] [0, 5, 6, 7] [(30, .bool true)] ([¬ ((x9 : Int) < (1 : Int))] ++ ([¬ ((x9 : Int) > (16 : Int))] ++ ([((j : Nat) : Int) > (0 : Int)] ++ ([Fit .i64 ((j : Nat) - 1)] ++ ([(some ⟨b7, o7, none⟩ : Option Addr) = some ⟨b7, o7, none⟩, (((j : Nat) : Int) - 1) = ((((((j : Nat) : Int) - 1)).toNat : Nat) : Int), ((((j : Nat) : Int) - 1)).toNat < n] ++ (cellsP w b7 (o7 + (((((j : Nat) : Int) - 1)).toNat) * 1) [.int .i64 x22] ++ ([(x22 : Int) ≥ (x9 : Int)]))))))) (alA (al1 q12) (alA (al1 q16) (alA (al1 q20) (alA (al1 (fit64 (by omega) (by omega))) (alA (al2 rfl (al2 (by omega) (al1 (by omega)))) (alA (rd_pre (hsl.get hx22) _ rfl) (al1 q24))))))) (ds_ (t_ (sq_ (qa0 [] [] [(2, .bool false)] (ds_ (rt ([]) (.bool false) ?_))))))
      have hla := last_prev (j := j) hx22 (by omega)
      exact fun w' hw => ⟨by rw [up_bad hx9 (by rw [hla]; omega)], hw.below⟩
     ·
      refine qa [(1, .no), (4, .no), (8, .yes), (12, .fit), (13, .at b7 o7 (((((j : Nat) : Int) - 1)).toNat)), (14, .go (outs b7 (o7 + (((((j : Nat) : Int) - 1)).toNat) * 1) [.int .i64 x22])), (16, .no)] [0, 5, 6, 7] [(30, .bool false)] ([¬ ((x9 : Int) < (1 : Int))] ++ ([¬ ((x9 : Int) > (16 : Int))] ++ ([((j : Nat) : Int) > (0 : Int)] ++ ([Fit .i64 ((j : Nat) - 1)] ++ ([(some ⟨b7, o7, none⟩ : Option Addr) = some ⟨b7, o7, none⟩, (((j : Nat) : Int) - 1) = ((((((j : Nat) : Int) - 1)).toNat : Nat) : Int), ((((j : Nat) : Int) - 1)).toNat < n] ++ (cellsP w b7 (o7 + (((((j : Nat) : Int) - 1)).toNat) * 1) [.int .i64 x22] ++ ([¬ ((x22 : Int) ≥ (x9 : Int))]))))))) (alA (al1 q12) (alA (al1 q16) (alA (al1 q20) (alA (al1 (fit64 (by omega) (by omega))) (alA (al2 rfl (al2 (by omega) (al1 (by omega)))) (alA (rd_pre (hsl.get hx22) _ rfl) (al1 q24))))))) (ds_ (f_ (at_skip (done_block (ds_ (qa [(0, .fit)] [0, 5, 6] [(7, .int .i64 (j + 1 : Nat))] ([Fit .i64 ((j + 1 : Nat))]) (al1 (fit64 (by omega) (by omega))) ?_))))))
      have hla := last_prev (j := j) hx22 (by omega)
      exact dr [0, 5, 6, 7] (j + 1) ⟨by omega, up_onT hI hx9 (by rw [hla]; omega)⟩
    ·
     refine qa [(1, .no), (4, .no), (8, .no)] [0, 5, 6, 7] [(30, .bool false)] ([¬ ((x9 : Int) < (1 : Int))] ++ ([¬ ((x9 : Int) > (16 : Int))] ++ ([¬ (((j : Nat) : Int) > (0 : Int))]))) (alA (al1 q12) (alA (al1 q16) (al1 q20))) (ds_ (f_ (at_skip (done_block (ds_ (qa [(0, .fit)] [0, 5, 6] [(7, .int .i64 (j + 1 : Nat))] ([Fit .i64 ((j + 1 : Nat))]) (al1 (fit64 (by omega) (by omega))) ?_))))))
     have hla := last_zero (l := l) (j := j) (by omega)
     exact dr [0, 5, 6, 7] (j + 1) ⟨by omega, up_onT hI hx9 (by rw [hla]; omega)⟩
 ·
  refine qa [(0, .no)] [0, 5, 6, 7] [(8, .bool false)] ([¬ (((j : Nat) : Int) < ((n : Nat) : Int))]) (al1 q4) (ds_ (sq_ (f_ (at_leave _ rfl (ds_ (sq_ ?_))))))
  by_cases q33 : ((n : Nat) : Int) ≥ (2 : Int)
  ·
   by_cases q35 : ((n : Nat) : Int) ≤ (8 : Int)
   ·
    refine qa [(2, .yes), (6, .yes)] [] [(2, .bool true)] ([((n : Nat) : Int) ≥ (2 : Int)] ++ ([((n : Nat) : Int) ≤ (8 : Int)])) (alA (al1 q33) (al1 q35)) (ds_ (rt ([]) (.bool true) ?_))
    exact fun w' hw => ⟨by rw [may_yes hI (by omega) (by omega)], hw.below⟩
   ·
    refine qa [(2, .yes), (6, .no)] [] [(2, .bool false)] ([((n : Nat) : Int) ≥ (2 : Int)] ++ ([¬ (((n : Nat) : Int) ≤ (8 : Int))])) (alA (al1 q33) (al1 q35)) (ds_ (rt ([]) (.bool false) ?_))
    exact fun w' hw => ⟨by rw [may_no hI (by omega) (by omega)], hw.below⟩
  ·
   refine qa [(2, .no)] [] [(2, .bool false)] ([¬ (((n : Nat) : Int) ≥ (2 : Int))]) (al1 q33) (ds_ (rt ([]) (.bool false) ?_))
   exact fun w' hw => ⟨by rw [may_no hI (by omega) (by omega)], hw.below⟩
end Go.Proofs.Ytahccegfahghfaa

/-! The document: Right, Get, Same. -/
namespace Go.Proofs.Ytahccegfahghfaa
open Go Go.RowKit

set_option maxRecDepth 100000 in
theorem rright_t (q : Option Addr) (m capq : Nat) (al : List GngA) (w : World)
 (hal : Sv w q al) (hma : m = al.length) (hbm : m ≤ 1000) (hnm : ∀ x ∈ al, x.Reads w) (hm9 : ∀ x ∈ al, x.n ≤ 1000)
 (hcq : m ≤ capq)
 : Calls Try.prog 17 #[.agg #[.slice q m capq]] w fun e w' => e = .returned (.bool (gangB (al.map GngA.val))) ∧ Below w.heap.size w w' := by
 refine enter (Hs.start w) Try.func17 rfl Try.ntmps17 rfl (sq_ (ma0 [] [] (fun γ1 => [(1, .pointer (some ⟨γ1 0, 0, none⟩))]) (fun γ1 L => bx (γ1 0) (#[.slice q m capq]) 38 :: L) (fun γ1 => ds_ (sq_ (sq_ (qa0 [(1, .go (owns 0 0 1))] [1] [(8, .slice q m capq), (9, .int .i64 (m : Nat)), (10, .int .i64 0)] (ds_ (at_block (At.pick [[bx (γ1 0) (#[.slice q m capq]) 38]] [0] [] ([bx (γ1 0) (#[.slice q m capq]) 38]) (by kernel_rfl) rfl rfl (at_loop (α := Nat) [1, 8, 9, 10] (fun j => [(1, .pointer (some ⟨γ1 0, 0, none⟩)), (8, .slice q m capq), (9, .int .i64 (m : Nat)), (10, .int .i64 (j : Nat))]) (fun j => [bx (γ1 0) (#[.slice q m capq]) 38]) (fun j => j ≤ m ∧ idsB 0 (((al.map GngA.val).take j).map (·.1)) = true ∧ (∀ g ∈ (al.map GngA.val).take j, mayB g.2 = true) ∧ (memL ((al.map GngA.val).take j)).Nodup) (fun j => m - j) 0 (by kernel_rfl) rfl ⟨Nat.zero_le _, rfl, all_take0T, List.nodup_nil⟩ ?_))))))))))
 rintro j
 rintro ⟨hj, hI, hA, hN⟩
 refine sq_ ?_
 by_cases q4 : ((j : Nat) : Int) < ((m : Nat) : Int)
 ·
  refine qa [(0, .yes)] [1, 8, 9, 10] [(11, .bool true)] ([((j : Nat) : Int) < ((m : Nat) : Int)]) (al1 q4) (ds_ (sq_ (t_ (at_skip (ds_ (sq_ (at_block (sq_ ?_))))))))
  obtain ⟨b7, o7, rfl⟩ := hal.pos (i := j) (by omega)
  obtain ⟨x9, hx9⟩ := get_some (l := al) (m := j) (by omega)
  have hsx9 : Sv w x9.p x9.l := (hnm x9 (List.mem_of_getElem? hx9)).sv
  have hnx9 : x9.n = x9.l.length := (hnm x9 (List.mem_of_getElem? hx9)).hn
  have hm9x9 := hm9 x9 (List.mem_of_getElem? hx9)
  refine ma [(1, .at b7 o7 j), (2, .go (outs b7 (o7 + j * 2) [.int .i64 x9.id, .slice x9.p x9.n x9.cap])), (5, .go (owns 0 0 2))] [1, 8, 9, 10] (fun γ10 => [(3, .int .i64 (j : Nat)), (4, .pointer (some ⟨γ10 0, 0, none⟩))]) (fun γ10 L => bx (γ10 0) (#[.int .i64 x9.id, .slice x9.p x9.n x9.cap]) 46 :: L) (fun γ10 => [(some ⟨b7, o7, none⟩ : Option Addr) = some ⟨b7, o7, none⟩, (j : Nat) = ((j : Nat) : Int), j < m] ++ (cellsP w b7 (o7 + j * 2) [.int .i64 x9.id, .slice x9.p x9.n x9.cap])) (fun γ10 => (alA (al2 rfl (al2 rfl (al1 (by omega)))) (rd_pre (hal.get hx9) _ rfl))) (fun γ10 => ds_ (sq_ (sq_ ?_)))
  by_cases q12 : (x9.id : Int) < (1 : Int)
  ·
   refine cq [(1, .go (owns 0 0 1)), (2, .yes)] [1, 3, 4, 8, 9, 10] [(44, .bool true)] ([(x9.id : Int) < (1 : Int)]) rfl (by kernel_rfl) (by kernel_rfl) (by kernel_rfl) (al1 q12) (ds_ (t_ (sq_ (qa0 [] [] [(2, .bool false)] (ds_ (rt ([]) (.bool false) ?_))))))
   have hla := ids_last hI
   exact fun w' hw => ⟨by rw [gang_ids (val_at hx9) (by show ¬ (_ < x9.id ∧ x9.id ≤ 8); omega)], hw.below⟩
  ·
   by_cases q16 : (x9.id : Int) > (8 : Int)
   ·
    refine cq [(1, .go (owns 0 0 1)), (2, .no), (5, .go (owns 0 0 1)), (6, .yes)] [1, 3, 4, 8, 9, 10] [(44, .bool true)] ([¬ ((x9.id : Int) < (1 : Int))] ++ ([(x9.id : Int) > (8 : Int)])) rfl (by kernel_rfl) (by kernel_rfl) (by kernel_rfl) (alA (al1 q12) (al1 q16)) (ds_ (t_ (sq_ (qa0 [] [] [(2, .bool false)] (ds_ (rt ([]) (.bool false) ?_))))))
    have hla := ids_last hI
    exact fun w' hw => ⟨by rw [gang_ids (val_at hx9) (by show ¬ (_ < x9.id ∧ x9.id ≤ 8); omega)], hw.below⟩
   ·
    by_cases q20 : ((j : Nat) : Int) > (0 : Int)
    ·
     obtain ⟨x22, hx22⟩ := get_some (l := al) (m := ((((j : Nat) : Int) - 1)).toNat) (by omega)
     have hsx22 : Sv w x22.p x22.l := (hnm x22 (List.mem_of_getElem? hx22)).sv
     have hnx22 : x22.n = x22.l.length := (hnm x22 (List.mem_of_getElem? hx22)).hn
     have hm9x22 := hm9 x22 (List.mem_of_getElem? hx22)
     by_cases q24 : (x22.id : Int) ≥ (x9.id : Int)
     ·
      refine cq [(1, .go (owns 0 0 1)), (2, .no), (5, .go (owns 0 0 1)), (6, .no), (10, .yes), (13, .go (owns 1 0 1)), (15, .fit), (16, .at b7 o7 (((((j : Nat) : Int) - 1)).toNat)), (18, .go (outs b7 (o7 + (((((j : Nat) : Int) - 1)).toNat) * 2) [.int .i64 x22.id])), (20, .go (owns 0 0 1)), (21, .yes)] [1, 3, 4, 8, 9, 10] [(44, .bool true)] ([¬ ((x9.id : Int) < (1 : Int))] ++ ([¬ ((x9.id : Int) > (8 : Int))] ++ ([((j : Nat) : Int) > (0 : Int)] ++ ([Fit .i64 ((j : Nat) - 1)] ++ ([(some ⟨b7, o7, none⟩ : Option Addr) = some ⟨b7, o7, none⟩, (((j : Nat) : Int) - 1) = ((((((j : Nat) : Int) - 1)).toNat : Nat) : Int), ((((j : Nat) : Int) - 1)).toNat < m] ++ (cellsP w b7 (o7 + (((((j : Nat) : Int) - 1)).toNat) * 2) [.int .i64 x22.id] ++ ([(x22.id : Int) ≥ (x9.id : Int)]))))))) rfl (by kernel_rfl) (by kernel_rfl) (by kernel_rfl) (alA (al1 q12) (alA (al1 q16) (alA (al1 q20) (alA (al1 (fit64 (by omega) (by omega))) (alA (al2 rfl (al2 (by omega) (al1 (by omega)))) (alA (rd_pre (hal.get hx22) _ rfl) (al1 q24))))))) (ds_ (t_ (sq_ (qa0 [] [] [(2, .bool false)] (ds_ (rt ([]) (.bool false) ?_))))))
      have hla : lastV 0 (((al.map GngA.val).take j).map (·.1)) = x22.id := lastid_prev (j := j) (val_at hx22) (by omega)
      exact fun w' hw => ⟨by rw [gang_ids (val_at hx9) (by rw [hla]; show ¬ (_ < x9.id ∧ x9.id ≤ 8); omega)], hw.below⟩
     ·
      refine at_calm rfl (by kernel_rfl) (by kernel_rfl) ?_
      refine cm 27 [(1, .go (owns 0 0 1)), (2, .no), (5, .go (owns 0 0 1)), (6, .no), (10, .yes), (13, .go (owns 1 0 1)), (15, .fit), (16, .at b7 o7 (((((j : Nat) : Int) - 1)).toNat)), (18, .go (outs b7 (o7 + (((((j : Nat) : Int) - 1)).toNat) * 2) [.int .i64 x22.id])), (20, .go (owns 0 0 1)), (21, .no), (26, .go (owns 0 1 1))] [1, 3, 4, 8, 9, 10] [(39, .bool false), (41, .slice x9.p x9.n x9.cap)] ([¬ ((x9.id : Int) < (1 : Int))] ++ ([¬ ((x9.id : Int) > (8 : Int))] ++ ([((j : Nat) : Int) > (0 : Int)] ++ ([Fit .i64 ((j : Nat) - 1)] ++ ([(some ⟨b7, o7, none⟩ : Option Addr) = some ⟨b7, o7, none⟩, (((j : Nat) : Int) - 1) = ((((((j : Nat) : Int) - 1)).toNat : Nat) : Int), ((((j : Nat) : Int) - 1)).toNat < m] ++ (cellsP w b7 (o7 + (((((j : Nat) : Int) - 1)).toNat) * 2) [.int .i64 x22.id] ++ ([¬ ((x22.id : Int) ≥ (x9.id : Int))]))))))) (by kernel_rfl) rfl (alA (al1 q12) (alA (al1 q16) (alA (al1 q20) (alA (al1 (fit64 (by omega) (by omega))) (alA (al2 rfl (al2 (by omega) (al1 (by omega)))) (alA (rd_pre (hal.get hx22) _ rfl) (al1 q24))))))) ?_
      rcases q28 : mayB x9.l with _ | _
      ·
       refine cK (.bool false) Try.call40 (fun w hw => by have := rmembers_t x9.p x9.n x9.cap x9.l w (hsx9.kept hw.below) hnx9 (by omega); rw [q28] at this; exact this) ?_
       refine cm 2 [] [1, 3, 4, 8, 9, 10] [(44, .bool true)] ([]) (by kernel_rfl) rfl al0 ?_
       refine calm_nil' ?_
       refine ds_ (t_ (sq_ (qa0 [] [] [(2, .bool false)] (ds_ (rt ([]) (.bool false) ?_)))))
       exact fun w' hw => ⟨by rw [gang_may (val_at hx9) q28], hw.below⟩
      ·
       refine cK (.bool true) Try.call40 (fun w hw => by have := rmembers_t x9.p x9.n x9.cap x9.l w (hsx9.kept hw.below) hnx9 (by omega); rw [q28] at this; exact this) ?_
       refine cm 2 [] [1, 3, 4, 8, 9, 10] [(44, .bool false)] ([]) (by kernel_rfl) rfl al0 ?_
       refine calm_nil' ?_
       refine ds_ (f_ (at_skip (ds_ (sq_ (qa0 [(1, .go (owns 0 1 1))] [1, 3, 8, 9, 10] [(46, .slice x9.p x9.n x9.cap), (47, .int .i64 (x9.n : Nat)), (48, .int .i64 0)] (ds_ (at_block (At.pick [[bx (γ10 0) (#[.int .i64 x9.id, .slice x9.p x9.n x9.cap]) 46], [bx (γ1 0) (#[.slice (some ⟨b7, o7, none⟩) m capq]) 38]] [1] [0] ([bx (γ1 0) (#[.slice (some ⟨b7, o7, none⟩) m capq]) 38]) (by kernel_rfl) rfl rfl (at_loop (α := Nat) [1, 3, 8, 9, 10, 46, 47, 48] (fun i => [(1, .pointer (some ⟨γ1 0, 0, none⟩)), (3, .int .i64 (j : Nat)), (8, .slice (some ⟨b7, o7, none⟩) m capq), (9, .int .i64 (m : Nat)), (10, .int .i64 (j : Nat)), (46, .slice x9.p x9.n x9.cap), (47, .int .i64 (x9.n : Nat)), (48, .int .i64 (i : Nat))]) (fun i => [bx (γ1 0) (#[.slice (some ⟨b7, o7, none⟩) m capq]) 38]) (fun i => i ≤ x9.n ∧ (memL ((al.map GngA.val).take j) ++ x9.l.take i).Nodup) (fun i => x9.n - i) 0 (by kernel_rfl) rfl ⟨Nat.zero_le _, by rw [List.take_zero, List.append_nil]; exact hN⟩ ?_)))))))))
       rintro i
       rintro ⟨hi, hN2⟩
       refine sq_ ?_
       by_cases q34 : ((i : Nat) : Int) < ((x9.n : Nat) : Int)
       ·
        refine qa [(0, .yes)] [1, 3, 8, 9, 10, 46, 47, 48] [(49, .bool true)] ([((i : Nat) : Int) < ((x9.n : Nat) : Int)]) (al1 q34) (ds_ (sq_ (t_ (at_skip (ds_ (sq_ (at_block (sq_ ?_))))))))
        obtain ⟨b37, o37, hbo37⟩ := hsx9.pos (i := i) (by omega)
        have hsv37 := hsx9
        rw [hbo37] at hsv37
        obtain ⟨x39, hx39⟩ := get_some (l := x9.l) (m := i) (by omega)
        refine qa [(0, .at b37 o37 i), (1, .go (outs b37 (o37 + i * 1) [.int .i64 x39]))] [1, 3, 8, 9, 10, 46, 47, 48] [(6, .int .i64 x39)] ([(x9.p : Option Addr) = some ⟨b37, o37, none⟩, (i : Nat) = ((i : Nat) : Int), i < x9.n] ++ (cellsP w b37 (o37 + i * 1) [.int .i64 x39])) (alA (al2 hbo37 (al2 rfl (al1 (by omega)))) (rd_pre (hsv37.get hx39) _ rfl)) (ds_ (sq_ (ao_ (qo 6 [(1, .go (owns 0 0 1)), (3, .sl (.slice (some ⟨b7, o7, none⟩) j capq))] [1, 3, 8, 9, 10, 46, 47, 48] [(56, .agg #[.slice (some ⟨b7, o7, none⟩) j capq]), (57, .int .i64 x39)] ([SlRun Try.prog 36 (.slice (some ⟨b7, o7, none⟩) m capq) none (some (.int .i64 (j : Nat))) none (.slice (some ⟨b7, o7, none⟩) j capq)]) (al1 (slE_hi (P := Try.prog) (h := j) (T := 36) (e := 46) (k := 2) (by_ := 32) (by kernel_rfl) (by omega))) (cD (.int .i64 (rofV ((al.take j).map GngA.val) x39)) Try.call24 (fun w hw => rof_t (some ⟨b7, o7, none⟩) j capq (al.take j) x39 w ((hal.kept hw.below).take j) (by rw [List.length_take]; omega) (by omega) (fun x hx => (fun x hx => (hnm x hx).kept hw.below) x (List.mem_of_mem_take hx)) (fun x hx => hm9 x (List.mem_of_mem_take hx))) ?_)))))
        by_cases q43 : ((rofV ((al.take j).map GngA.val) x39) : Int) > (0 : Int)
        ·
         refine qo 1 [(7, .yes)] [1, 3, 8, 9, 10, 46, 47, 48] [(59, .bool true)] ([((rofV ((al.take j).map GngA.val) x39) : Int) > (0 : Int)]) (al1 q43) (on_ (ds_ (t_ (sq_ (qa0 [] [] [(2, .bool false)] (ds_ (rt ([]) (.bool false) ?_)))))))
         exact fun w' hw => ⟨by rw [gang_twice (val_at hx9) hx39 (rr_twice (by rw [val_take]; exact q43))], hw.below⟩
        ·
         refine qo 1 [(7, .no)] [1, 3, 8, 9, 10, 46, 47, 48] [(59, .bool false)] ([¬ (((rofV ((al.take j).map GngA.val) x39) : Int) > (0 : Int))]) (al1 q43) (on_ (ds_ (f_ (at_skip (done_block (ds_ (qa [(0, .fit)] [1, 3, 8, 9, 10, 46, 47] [(48, .int .i64 (i + 1 : Nat))] ([Fit .i64 ((i + 1 : Nat))]) (al1 (fit64 (by omega) (by omega))) ?_)))))))
         exact dr [1, 3, 8, 9, 10, 46, 47, 48] (i + 1) ⟨by omega, by rw [take_one hx39, ← List.append_assoc]; exact nodup_more hN2 (rr_more hI q28 hx39 (by rw [val_take]; exact q43))⟩
       ·
        refine qa [(0, .no)] [1, 3, 8, 9, 10, 46, 47, 48] [(49, .bool false)] ([¬ (((i : Nat) : Int) < ((x9.n : Nat) : Int))]) (al1 q34) (ds_ (sq_ (f_ (at_leave _ rfl (done_block (ds_ (qa [(0, .fit)] [1, 8, 9] [(10, .int .i64 (j + 1 : Nat))] ([Fit .i64 ((j + 1 : Nat))]) (al1 (fit64 (by omega) (by omega))) ?_)))))))
        rw [show x9.l.take i = x9.l from List.take_of_length_le (by omega)] at hN2
        have hla : lastV 0 (((al.map GngA.val).take j).map (·.1)) = x22.id := lastid_prev (j := j) (val_at hx22) (by omega)
        exact dr [1, 8, 9, 10] (j + 1) ⟨by omega, ids_onT hI (val_at hx9) (by rw [hla]; show _ < x9.id ∧ x9.id ≤ 8; omega), all_onT hA (val_at hx9) q28, by rw [memL_onT (val_at hx9)]; exact hN2⟩
    ·
     refine at_calm rfl (by kernel_rfl) (by kernel_rfl) ?_
     refine cm 27 [(1, .go (owns 0 0 1)), (2, .no), (5, .go (owns 0 0 1)), (6, .no), (10, .no), (26, .go (owns 0 1 1))] [1, 3, 4, 8, 9, 10] [(39, .bool false), (41, .slice x9.p x9.n x9.cap)] ([¬ ((x9.id : Int) < (1 : Int))] ++ ([¬ ((x9.id : Int) > (8 : Int))] ++ ([¬ (((j : Nat) : Int) > (0 : Int))]))) (by kernel_rfl) rfl (alA (al1 q12) (alA (al1 q16) (al1 q20))) ?_
     rcases q51 : mayB x9.l with _ | _
     ·
      refine cK (.bool false) Try.call40 (fun w hw => by have := rmembers_t x9.p x9.n x9.cap x9.l w (hsx9.kept hw.below) hnx9 (by omega); rw [q51] at this; exact this) ?_
      refine cm 2 [] [1, 3, 4, 8, 9, 10] [(44, .bool true)] ([]) (by kernel_rfl) rfl al0 ?_
      refine calm_nil' ?_
      refine ds_ (t_ (sq_ (qa0 [] [] [(2, .bool false)] (ds_ (rt ([]) (.bool false) ?_)))))
      exact fun w' hw => ⟨by rw [gang_may (val_at hx9) q51], hw.below⟩
     ·
      refine cK (.bool true) Try.call40 (fun w hw => by have := rmembers_t x9.p x9.n x9.cap x9.l w (hsx9.kept hw.below) hnx9 (by omega); rw [q51] at this; exact this) ?_
      refine cm 2 [] [1, 3, 4, 8, 9, 10] [(44, .bool false)] ([]) (by kernel_rfl) rfl al0 ?_
      refine calm_nil' ?_
      refine ds_ (f_ (at_skip (ds_ (sq_ (qa0 [(1, .go (owns 0 1 1))] [1, 3, 8, 9, 10] [(46, .slice x9.p x9.n x9.cap), (47, .int .i64 (x9.n : Nat)), (48, .int .i64 0)] (ds_ (at_block (At.pick [[bx (γ10 0) (#[.int .i64 x9.id, .slice x9.p x9.n x9.cap]) 46], [bx (γ1 0) (#[.slice (some ⟨b7, o7, none⟩) m capq]) 38]] [1] [0] ([bx (γ1 0) (#[.slice (some ⟨b7, o7, none⟩) m capq]) 38]) (by kernel_rfl) rfl rfl (at_loop (α := Nat) [1, 3, 8, 9, 10, 46, 47, 48] (fun i => [(1, .pointer (some ⟨γ1 0, 0, none⟩)), (3, .int .i64 (j : Nat)), (8, .slice (some ⟨b7, o7, none⟩) m capq), (9, .int .i64 (m : Nat)), (10, .int .i64 (j : Nat)), (46, .slice x9.p x9.n x9.cap), (47, .int .i64 (x9.n : Nat)), (48, .int .i64 (i : Nat))]) (fun i => [bx (γ1 0) (#[.slice (some ⟨b7, o7, none⟩) m capq]) 38]) (fun i => i ≤ x9.n ∧ (memL ((al.map GngA.val).take j) ++ x9.l.take i).Nodup) (fun i => x9.n - i) 0 (by kernel_rfl) rfl ⟨Nat.zero_le _, by rw [List.take_zero, List.append_nil]; exact hN⟩ ?_)))))))))
      rintro i
      rintro ⟨hi, hN2⟩
      refine sq_ ?_
      by_cases q57 : ((i : Nat) : Int) < ((x9.n : Nat) : Int)
      ·
       refine qa [(0, .yes)] [1, 3, 8, 9, 10, 46, 47, 48] [(49, .bool true)] ([((i : Nat) : Int) < ((x9.n : Nat) : Int)]) (al1 q57) (ds_ (sq_ (t_ (at_skip (ds_ (sq_ (at_block (sq_ ?_))))))))
       obtain ⟨b60, o60, hbo60⟩ := hsx9.pos (i := i) (by omega)
       have hsv60 := hsx9
       rw [hbo60] at hsv60
       obtain ⟨x62, hx62⟩ := get_some (l := x9.l) (m := i) (by omega)
       refine qa [(0, .at b60 o60 i), (1, .go (outs b60 (o60 + i * 1) [.int .i64 x62]))] [1, 3, 8, 9, 10, 46, 47, 48] [(6, .int .i64 x62)] ([(x9.p : Option Addr) = some ⟨b60, o60, none⟩, (i : Nat) = ((i : Nat) : Int), i < x9.n] ++ (cellsP w b60 (o60 + i * 1) [.int .i64 x62])) (alA (al2 hbo60 (al2 rfl (al1 (by omega)))) (rd_pre (hsv60.get hx62) _ rfl)) (ds_ (sq_ (ao_ (qo 6 [(1, .go (owns 0 0 1)), (3, .sl (.slice (some ⟨b7, o7, none⟩) j capq))] [1, 3, 8, 9, 10, 46, 47, 48] [(56, .agg #[.slice (some ⟨b7, o7, none⟩) j capq]), (57, .int .i64 x62)] ([SlRun Try.prog 36 (.slice (some ⟨b7, o7, none⟩) m capq) none (some (.int .i64 (j : Nat))) none (.slice (some ⟨b7, o7, none⟩) j capq)]) (al1 (slE_hi (P := Try.prog) (h := j) (T := 36) (e := 46) (k := 2) (by_ := 32) (by kernel_rfl) (by omega))) (cD (.int .i64 (rofV ((al.take j).map GngA.val) x62)) Try.call24 (fun w hw => rof_t (some ⟨b7, o7, none⟩) j capq (al.take j) x62 w ((hal.kept hw.below).take j) (by rw [List.length_take]; omega) (by omega) (fun x hx => (fun x hx => (hnm x hx).kept hw.below) x (List.mem_of_mem_take hx)) (fun x hx => hm9 x (List.mem_of_mem_take hx))) ?_)))))
       by_cases q66 : ((rofV ((al.take j).map GngA.val) x62) : Int) > (0 : Int)
       ·
        refine qo 1 [(7, .yes)] [1, 3, 8, 9, 10, 46, 47, 48] [(59, .bool true)] ([((rofV ((al.take j).map GngA.val) x62) : Int) > (0 : Int)]) (al1 q66) (on_ (ds_ (t_ (sq_ (qa0 [] [] [(2, .bool false)] (ds_ (rt ([]) (.bool false) ?_)))))))
        exact fun w' hw => ⟨by rw [gang_twice (val_at hx9) hx62 (rr_twice (by rw [val_take]; exact q66))], hw.below⟩
       ·
        refine qo 1 [(7, .no)] [1, 3, 8, 9, 10, 46, 47, 48] [(59, .bool false)] ([¬ (((rofV ((al.take j).map GngA.val) x62) : Int) > (0 : Int))]) (al1 q66) (on_ (ds_ (f_ (at_skip (done_block (ds_ (qa [(0, .fit)] [1, 3, 8, 9, 10, 46, 47] [(48, .int .i64 (i + 1 : Nat))] ([Fit .i64 ((i + 1 : Nat))]) (al1 (fit64 (by omega) (by omega))) ?_)))))))
        exact dr [1, 3, 8, 9, 10, 46, 47, 48] (i + 1) ⟨by omega, by rw [take_one hx62, ← List.append_assoc]; exact nodup_more hN2 (rr_more hI q51 hx62 (by rw [val_take]; exact q66))⟩
      ·
       refine qa [(0, .no)] [1, 3, 8, 9, 10, 46, 47, 48] [(49, .bool false)] ([¬ (((i : Nat) : Int) < ((x9.n : Nat) : Int))]) (al1 q57) (ds_ (sq_ (f_ (at_leave _ rfl (done_block (ds_ (qa [(0, .fit)] [1, 8, 9] [(10, .int .i64 (j + 1 : Nat))] ([Fit .i64 ((j + 1 : Nat))]) (al1 (fit64 (by omega) (by omega))) ?_)))))))
       rw [show x9.l.take i = x9.l from List.take_of_length_le (by omega)] at hN2
       have hla : lastV 0 (((al.map GngA.val).take j).map (·.1)) = 0 := lastid_zero (by omega)
       exact dr [1, 8, 9, 10] (j + 1) ⟨by omega, ids_onT hI (val_at hx9) (by rw [hla]; show _ < x9.id ∧ x9.id ≤ 8; omega), all_onT hA (val_at hx9) q51, by rw [memL_onT (val_at hx9)]; exact hN2⟩
 ·
  refine qa [(0, .no)] [1, 8, 9, 10] [(11, .bool false)] ([¬ (((j : Nat) : Int) < ((m : Nat) : Int))]) (al1 q4) (ds_ (sq_ (f_ (at_leave _ rfl (ds_ (sq_ (qa0 [] [] [(2, .bool true)] (ds_ (rt ([]) (.bool true) ?_)))))))))
  exact fun w' hw => ⟨by rw [gang_end hI hA hN (by rw [List.length_map]; omega)], hw.below⟩

set_option maxRecDepth 100000 in
theorem rget_t (q : Option Addr) (m capq : Nat) (al : List GngA) (k : Int) (w : World)
 (hal : Sv w q al) (hma : m = al.length) (hbm : m ≤ 1000) (hnm : ∀ x ∈ al, x.Reads w) (hm9 : ∀ x ∈ al, x.n ≤ 1000)
 : Calls Try.prog 23 #[.agg #[.slice q m capq], .int .i64 k] w fun e w' => e = .returned (.slice (getA al k).1 (getA al k).2.1 (getA al k).2.2.1) ∧ Below w.heap.size w w' := by
 refine enter (Hs.start w) Try.func23 rfl Try.ntmps23 rfl (sq_ (ma0 [] [1] (fun γ1 => [(2, .pointer (some ⟨γ1 0, 0, none⟩))]) (fun γ1 L => bx (γ1 0) (#[.slice q m capq]) 38 :: L) (fun γ1 => ds_ (sq_ (sq_ (qa0 [(1, .go (owns 0 0 1))] [1] [(8, .slice q m capq), (9, .int .i64 (m : Nat)), (10, .int .i64 0)] (ds_ (at_block (At.pick [[bx (γ1 0) (#[.slice q m capq]) 38]] [] [0] ([]) (by kernel_rfl) rfl rfl (at_loop (α := Nat) [1, 8, 9, 10] (fun j => [(1, .int .i64 k), (8, .slice q m capq), (9, .int .i64 (m : Nat)), (10, .int .i64 (j : Nat))]) (fun j => []) (fun j => j ≤ m ∧ ∀ (t : Nat) (y : GngA), t < j → al[t]? = some y → ¬ y.id = k) (fun j => m - j) 0 (by kernel_rfl) rfl ⟨Nat.zero_le _, fun t y h => by omega⟩ ?_))))))))))
 rintro j
 rintro ⟨hj, hI⟩
 refine sq_ ?_
 by_cases q4 : ((j : Nat) : Int) < ((m : Nat) : Int)
 ·
  refine qa [(0, .yes)] [1, 8, 9, 10] [(11, .bool true)] ([((j : Nat) : Int) < ((m : Nat) : Int)]) (al1 q4) (ds_ (sq_ (t_ (at_skip (ds_ (sq_ (at_block (sq_ ?_))))))))
  obtain ⟨b7, o7, rfl⟩ := hal.pos (i := j) (by omega)
  obtain ⟨x9, hx9⟩ := get_some (l := al) (m := j) (by omega)
  have hsx9 : Sv w x9.p x9.l := (hnm x9 (List.mem_of_getElem? hx9)).sv
  have hnx9 : x9.n = x9.l.length := (hnm x9 (List.mem_of_getElem? hx9)).hn
  have hm9x9 := hm9 x9 (List.mem_of_getElem? hx9)
  refine ma [(0, .at b7 o7 j), (1, .go (outs b7 (o7 + j * 2) [.int .i64 x9.id, .slice x9.p x9.n x9.cap])), (3, .go (owns 0 0 2))] [1, 8, 9, 10] (fun γ10 => [(6, .pointer (some ⟨γ10 0, 0, none⟩))]) (fun γ10 L => bx (γ10 0) (#[.int .i64 x9.id, .slice x9.p x9.n x9.cap]) 46 :: L) (fun γ10 => [(some ⟨b7, o7, none⟩ : Option Addr) = some ⟨b7, o7, none⟩, (j : Nat) = ((j : Nat) : Int), j < m] ++ (cellsP w b7 (o7 + j * 2) [.int .i64 x9.id, .slice x9.p x9.n x9.cap])) (fun γ10 => (alA (al2 rfl (al2 rfl (al1 (by omega)))) (rd_pre (hal.get hx9) _ rfl))) (fun γ10 => ds_ (sq_ ?_))
  by_cases q12 : (x9.id : Int) = (k : Int)
  ·
   refine qa [(1, .go (owns 0 0 1)), (3, .yes)] [1, 6, 8, 9, 10] [(17, .bool true)] ([(x9.id : Int) = (k : Int)]) (al1 q12) (ds_ (t_ (sq_ (qa0 [(1, .go (owns 0 1 1))] [] [(4, .slice x9.p x9.n x9.cap)] (ds_ (rt ([]) (.slice x9.p x9.n x9.cap) ?_))))))
   exact fun w' hw => ⟨by rw [get_some14 hx9 q12 hI], hw.below⟩
  ·
   refine qa [(1, .go (owns 0 0 1)), (3, .no)] [1, 6, 8, 9, 10] [(17, .bool false)] ([¬ ((x9.id : Int) = (k : Int))]) (al1 q12) (ds_ (f_ (at_skip (done_block (ds_ (qa [(0, .fit)] [1, 8, 9] [(10, .int .i64 (j + 1 : Nat))] ([Fit .i64 ((j + 1 : Nat))]) (al1 (fit64 (by omega) (by omega))) (Done.drop (L' := []) ?_ (List.Sublist.cons _ (List.Sublist.refl _)))))))))
   exact dr [1, 8, 9, 10] (j + 1) ⟨by omega, fun t y ht e => by by_cases htj : t = j; (subst htj; rw [hx9] at e; cases e; exact q12); exact hI t y (by omega) e⟩
 ·
  refine qa [(0, .no)] [1, 8, 9, 10] [(11, .bool false)] ([¬ (((j : Nat) : Int) < ((m : Nat) : Int))]) (al1 q4) (ds_ (sq_ (f_ (at_leave _ rfl (ds_ (sq_ (qa0 [] [] [(4, .slice none 0 0)] (ds_ (rt ([]) (.slice none 0 0) ?_)))))))))
  exact fun w' hw => ⟨by rw [get_none14 (by omega) hI], hw.below⟩

set_option maxRecDepth 100000 in
theorem rsame_t (q : Option Addr) (m capq : Nat) (al : List GngA) (q2 : Option Addr) (m2 capq2 : Nat) (bl : List GngA) (w : World)
 (hal : Sv w q al) (hma : m = al.length) (hbm : m ≤ 1000) (hnm : ∀ x ∈ al, x.Reads w) (hm9 : ∀ x ∈ al, x.n ≤ 1000)
 (hal2 : Sv w q2 bl) (hma2 : m2 = bl.length) (hbm2 : m2 ≤ 1000) (hnm2 : ∀ x ∈ bl, x.Reads w) (hm92 : ∀ x ∈ bl, x.n ≤ 1000)
 : Calls Try.prog 20 #[.agg #[.slice q m capq], .agg #[.slice q2 m2 capq2]] w fun e w' => e = .returned (.bool (decide (al.map GngA.val = bl.map GngA.val))) ∧ Below w.heap.size w w' := by
 refine enter (Hs.start w) Try.func20 rfl Try.ntmps20 rfl (sq_ (ma0 [] [] (fun γ1 => [(2, .pointer (some ⟨γ1 0, 0, none⟩)), (3, .pointer (some ⟨γ1 1, 0, none⟩))]) (fun γ1 L => bx (γ1 1) (#[.slice q2 m2 capq2]) 38 :: bx (γ1 0) (#[.slice q m capq]) 38 :: L) (fun γ1 => ds_ (sq_ (sq_ ?_)))))
 by_cases q3 : ((m : Nat) : Int) ≠ ((m2 : Nat) : Int)
 ·
  refine qa [(1, .go (owns 1 0 1)), (4, .go (owns 0 0 1)), (6, .yes)] [2, 3] [(14, .bool true)] ([((m : Nat) : Int) ≠ ((m2 : Nat) : Int)]) (al1 q3) (ds_ (t_ (sq_ (qa0 [] [] [(4, .bool false)] (ds_ (rt ([]) (.bool false) ?_))))))
  exact fun w' hw => ⟨by rw [gsame_len (al := al) (bl := bl) (by omega)], hw.below⟩
 ·
  refine qa [(1, .go (owns 1 0 1)), (4, .go (owns 0 0 1)), (6, .no)] [2, 3] [(14, .bool false)] ([¬ (((m : Nat) : Int) ≠ ((m2 : Nat) : Int))]) (al1 q3) (ds_ (f_ (at_skip (ds_ (sq_ (sq_ (qa0 [(1, .go (owns 1 0 1))] [3] [(16, .slice q m capq), (17, .int .i64 (m : Nat)), (18, .int .i64 0)] (ds_ (at_block (At.pick [[bx (γ1 1) (#[.slice q2 m2 capq2]) 38], [bx (γ1 0) (#[.slice q m capq]) 38]] [0] [1] ([bx (γ1 1) (#[.slice q2 m2 capq2]) 38]) (by kernel_rfl) rfl rfl (at_loop (α := Nat) [3, 16, 17, 18] (fun j => [(3, .pointer (some ⟨γ1 1, 0, none⟩)), (16, .slice q m capq), (17, .int .i64 (m : Nat)), (18, .int .i64 (j : Nat))]) (fun j => [bx (γ1 1) (#[.slice q2 m2 capq2]) 38]) (fun j => j ≤ m ∧ (al.take j).map GngA.val = (bl.take j).map GngA.val) (fun j => m - j) 0 (by kernel_rfl) rfl ⟨Nat.zero_le _, rfl⟩ ?_)))))))))))
  rintro j
  rintro ⟨hj, hI⟩
  refine sq_ ?_
  by_cases q9 : ((j : Nat) : Int) < ((m : Nat) : Int)
  ·
   refine qa [(0, .yes)] [3, 16, 17, 18] [(19, .bool true)] ([((j : Nat) : Int) < ((m : Nat) : Int)]) (al1 q9) (ds_ (sq_ (t_ (at_skip (ds_ (sq_ (at_block (sq_ ?_))))))))
   obtain ⟨b12, o12, rfl⟩ := hal.pos (i := j) (by omega)
   obtain ⟨x14, hx14⟩ := get_some (l := al) (m := j) (by omega)
   have hsx14 : Sv w x14.p x14.l := (hnm x14 (List.mem_of_getElem? hx14)).sv
   have hnx14 : x14.n = x14.l.length := (hnm x14 (List.mem_of_getElem? hx14)).hn
   have hm9x14 := hm9 x14 (List.mem_of_getElem? hx14)
   refine ma [(1, .at b12 o12 j), (2, .go (outs b12 (o12 + j * 2) [.int .i64 x14.id, .slice x14.p x14.n x14.cap])), (5, .go (owns 0 0 2))] [3, 16, 17, 18] (fun γ15 => [(5, .int .i64 (j : Nat)), (6, .pointer (some ⟨γ15 0, 0, none⟩))]) (fun γ15 L => bx (γ15 0) (#[.int .i64 x14.id, .slice x14.p x14.n x14.cap]) 46 :: L) (fun γ15 => [(some ⟨b12, o12, none⟩ : Option Addr) = some ⟨b12, o12, none⟩, (j : Nat) = ((j : Nat) : Int), j < m] ++ (cellsP w b12 (o12 + j * 2) [.int .i64 x14.id, .slice x14.p x14.n x14.cap])) (fun γ15 => (alA (al2 rfl (al2 rfl (al1 (by omega)))) (rd_pre (hal.get hx14) _ rfl))) (fun γ15 => ds_ (sq_ ?_))
   obtain ⟨b17, o17, rfl⟩ := hal2.pos (i := j) (by omega)
   obtain ⟨x19, hx19⟩ := get_some (l := bl) (m := j) (by omega)
   have hsx19 : Sv w x19.p x19.l := (hnm2 x19 (List.mem_of_getElem? hx19)).sv
   have hnx19 : x19.n = x19.l.length := (hnm2 x19 (List.mem_of_getElem? hx19)).hn
   have hm9x19 := hm92 x19 (List.mem_of_getElem? hx19)
   refine ma [(1, .go (owns 1 0 1)), (3, .at b17 o17 j), (4, .go (outs b17 (o17 + j * 2) [.int .i64 x19.id, .slice x19.p x19.n x19.cap])), (6, .go (owns 0 0 2))] [3, 6, 16, 17, 18] (fun γ20 => [(7, .pointer (some ⟨γ20 0, 0, none⟩))]) (fun γ20 L => bx (γ20 0) (#[.int .i64 x19.id, .slice x19.p x19.n x19.cap]) 46 :: L) (fun γ20 => [(some ⟨b17, o17, none⟩ : Option Addr) = some ⟨b17, o17, none⟩, (j : Nat) = ((j : Nat) : Int), j < m2] ++ (cellsP w b17 (o17 + j * 2) [.int .i64 x19.id, .slice x19.p x19.n x19.cap])) (fun γ20 => (alA (al2 rfl (al2 rfl (al1 (by omega)))) (rd_pre (hal2.get hx19) _ rfl))) (fun γ20 => ds_ (sq_ ?_))
   by_cases q22 : (x14.id : Int) ≠ (x19.id : Int)
   ·
    refine qa [(1, .go (owns 1 0 1)), (3, .go (owns 0 0 1)), (4, .yes)] [3, 16, 17, 18] [(40, .bool true)] ([(x14.id : Int) ≠ (x19.id : Int)]) (al1 q22) (ds_ (t_ (sq_ (qa0 [] [] [(4, .bool false)] (ds_ (rt ([]) (.bool false) ?_))))))
    exact fun w' hw => ⟨by rw [gsame_no hx14 hx19 (decide_eq_false (fun e => absurd (show x14.id = x19.id from congrArg Prod.fst e) (by omega)))], hw.below⟩
   ·
    refine ao_ (qo 10 [(1, .go (owns 1 0 1)), (3, .go (owns 0 0 1)), (4, .no), (7, .go (owns 1 1 1)), (9, .go (owns 0 1 1))] [3, 16, 17, 18] [(33, .bool false), (35, .slice x14.p x14.n x14.cap), (37, .slice x19.p x19.n x19.cap)] ([¬ ((x14.id : Int) ≠ (x19.id : Int))]) (al1 q22) ?_)
    rcases q26 : decide (x14.l = x19.l) with _ | _
    ·
     refine cD (.bool false) Try.call14 (fun w hw => by have := samei_t x14.p x14.n x14.cap x14.l x19.p x19.n x19.cap x19.l w (hsx14.kept hw.below) hnx14 (by omega) (hsx19.kept hw.below) hnx19 (by omega); rw [q26] at this; exact this) (qo0 2 [] [3, 16, 17, 18] [(40, .bool true)] (on_ (ds_ (t_ (sq_ (qa0 [] [] [(4, .bool false)] (ds_ (rt ([]) (.bool false) ?_))))))))
     exact fun w' hw => ⟨by rw [gsame_no hx14 hx19 (decide_eq_false (fun e => of_decide_eq_false q26 (congrArg Prod.snd e)))], hw.below⟩
    ·
     refine cD (.bool true) Try.call14 (fun w hw => by have := samei_t x14.p x14.n x14.cap x14.l x19.p x19.n x19.cap x19.l w (hsx14.kept hw.below) hnx14 (by omega) (hsx19.kept hw.below) hnx19 (by omega); rw [q26] at this; exact this) (qo0 2 [] [3, 16, 17, 18] [(40, .bool false)] (on_ (ds_ (f_ (at_skip (done_block (ds_ (qa [(0, .fit)] [3, 16, 17] [(18, .int .i64 (j + 1 : Nat))] ([Fit .i64 ((j + 1 : Nat))]) (al1 (fit64 (by omega) (by omega))) (Done.drop (L' := [bx (γ1 1) (#[.slice (some ⟨b17, o17, none⟩) m2 capq2]) 38]) ?_ (List.Sublist.cons _ (List.Sublist.cons _ (List.Sublist.cons_cons _ (List.Sublist.refl _)))))))))))))
     exact dr [3, 16, 17, 18] (j + 1) ⟨by omega, gsame_on hI hx14 hx19 (decide_eq_true (show (x14.id, x14.l) = (x19.id, x19.l) from by rw [show x14.id = x19.id by omega, of_decide_eq_true q26]))⟩
  ·
   refine qa [(0, .no)] [3, 16, 17, 18] [(19, .bool false)] ([¬ (((j : Nat) : Int) < ((m : Nat) : Int))]) (al1 q9) (ds_ (sq_ (f_ (at_leave _ rfl (ds_ (sq_ (qa0 [] [] [(4, .bool true)] (ds_ (rt ([]) (.bool true) ?_)))))))))
   exact fun w' hw => ⟨by rw [gsame_yes hI (by omega) (by omega)], hw.below⟩
end Go.Proofs.Ytahccegfahghfaa

/-! Short gangs. -/
namespace Go.Proofs.Ytahccegfahghfaa
open Go Go.RowKit

set_option maxRecDepth 100000 in
theorem ints_t (p : Option Addr) (n cap : Nat) (l : List Int) (w : World)
 (hsl : Sv w p l) (hn : n = l.length) (hcp : n ≤ cap) (hb : n ≤ 9223372036854775807)
 : Calls Try.prog 30 #[.slice p n cap] w fun e w' => ∃ q' n' c' Y, e = .returned (.slice q' n' c') ∧ SlO 3 Y q' n' c' (l.take 17) ∧ Below w.heap.size w w' ∧ Hs w Y w' := by
 refine enter (Hs.start w) Try.func30 rfl Try.ntmps30 rfl (sq_ (qa0 [] [0] [] (ds_ (sq_ (ao_ (mo 6 [(5, .sl (.slice p (min n 17) cap))] [] (fun γ2 => [(3, .slice (some ⟨γ2 0, 0, none⟩) 0 0), (8, .slice p (min n 17) cap)]) (fun γ2 L => bx (γ2 0) (#[]) 3 :: L) (fun γ2 => [SlRun Try.prog 25 (.slice p n cap) none (some (.int .i64 (if (17 : Int) < ((n : Nat) : Int) then 17 else (n : Nat)))) none (.slice p (min n 17) cap)]) (fun γ2 => (al1 (by rw [min_if17]; exact slE_hi (P := Try.prog) (h := (min n 17)) (T := 25) (e := 3) (k := 1) (by_ := 8) (by kernel_rfl) (by omega)))) (fun γ2 => ops_append (α := Int) [] ([bx (γ2 0) (#[]) 3]) ([]) (mvE rfl) rfl (by kernel_rfl) (by kernel_rfl) (p := (some ⟨γ2 0, 0, none⟩)) (n := 0) (cap := 0) (m := (min n 17)) (yv := .slice p (min n 17) cap) (by kernel_rfl) (by kernel_rfl) (T := 3) (by_ := 8) (by kernel_rfl) ([]) (l.take (min n 17)) (SlO.lit (by rfl) (by rfl) (by simp [maxLen])) (fun w hw => src_svn Try.underlying25 ((hsl.kept hw.below).take (min n 17)) (by rw [List.length_take]; omega)) (by rw [List.length_take]; omega) (by have hmx : maxLen = 9223372036854775807 := rfl; omega) (by have hmx : maxLen = 9223372036854775807 := rfl; omega) (fun Y3 p3 cap3 hO3 => qo0 1 [] [] [(2, .slice p3 (0 + (min n 17)) cap3)] (on_ (ds_ (rt ([]) (.slice p3 (0 + (min n 17)) cap3) ?_)))))))))))
 exact fun w' hw => ⟨_, _, _, _, rfl, SlO.as14 hO3 (by rw [List.nil_append, take_min17 hn]), hw.below, one_tail14 (Hs.pick [Y3] [0] [] (by kernel_rfl) hw)⟩

set_option maxRecDepth 100000 in
theorem short_t (q : Option Addr) (m capq : Nat) (al : List GngA) (w : World)
 (hal : Sv w q al) (hma : m = al.length) (hbm : m ≤ 9223372036854775807) (hnm : ∀ x ∈ al, x.Reads w)
 : Calls Try.prog 16 #[.agg #[.slice q m capq]] w fun e w' => ∃ q' m' c' Y bl Yi, e = .returned (.agg #[.slice q' m' c']) ∧ SlO 46 Y q' m' c' bl ∧ GotG 3 Yi bl ∧ bl.map GngA.val = shortV (al.map GngA.val) ∧ Below w.heap.size w w' ∧ Hs w (Y ++ Yi) w' := by
 refine enter (Hs.start w) Try.func16 rfl Try.ntmps16 rfl (sq_ (ma0 [] [] (fun γ1 => [(1, .pointer (some ⟨γ1 0, 0, none⟩)), (2, .pointer (some ⟨γ1 1, 0, none⟩))]) (fun γ1 L => bx (γ1 1) (#[.slice none 0 0]) 38 :: bx (γ1 0) (#[.slice q m capq]) 38 :: L) (fun γ1 => ds_ (sq_ (ma0 [] [1, 2] (fun γ2 => [(3, .pointer (some ⟨γ2 0, 0, none⟩))]) (fun γ2 L => bx (γ2 0) (#[.slice none 0 0]) 38 :: L) (fun γ2 => ds_ (sq_ (sq_ (qa0 [(1, .go (owns 2 0 1))] [2, 3] [(7, .slice q m capq), (8, .int .i64 (m : Nat)), (9, .int .i64 0)] (ds_ (at_block (At.pick [[bx (γ2 0) (#[.slice none 0 0]) 38], [bx (γ1 1) (#[.slice none 0 0]) 38], [bx (γ1 0) (#[.slice q m capq]) 38]] [0, 1, 2] [] ([bx (γ2 0) (#[.slice none 0 0]) 38, bx (γ1 1) (#[.slice none 0 0]) 38, bx (γ1 0) (#[.slice q m capq]) 38]) (by kernel_rfl) rfl rfl (at_loop (α := Nat × List Ob × Option Addr × Nat × Nat × List GngA × List Ob) [2, 3, 7, 8, 9] (fun ⟨j, Yo, po, nu, co, bl, Yi⟩ => [(2, .pointer (some ⟨γ1 1, 0, none⟩)), (3, .pointer (some ⟨γ2 0, 0, none⟩)), (7, .slice q m capq), (8, .int .i64 (m : Nat)), (9, .int .i64 (j : Nat))]) (fun ⟨j, Yo, po, nu, co, bl, Yi⟩ => bx (γ2 0) (#[.slice po nu co]) 38 :: bx (γ1 1) (#[.slice none 0 0]) 38 :: bx (γ1 0) (#[.slice q m capq]) 38 :: (Yo ++ (Yi ++ []))) (fun ⟨j, Yo, po, nu, co, bl, Yi⟩ => j ≤ m ∧ nu ≤ j ∧ SlO 46 Yo po nu co bl ∧ GotG 3 Yi bl ∧ bl.map GngA.val = shortV ((al.take j).map GngA.val)) (fun ⟨j, Yo, po, nu, co, bl, Yi⟩ => m - j) (0, [], none, 0, 0, [], []) (by kernel_rfl) rfl ⟨Nat.zero_le _, Nat.le_refl _, SlO.nil, GotG.nil, rfl⟩ ?_)))))))))))))
 rintro ⟨j, Yo, po, nu, co, bl, Yi⟩
 rintro ⟨hj, hnu, hO, hG, hB⟩
 have hlb := hO.len
 refine sq_ ?_
 by_cases q5 : ((j : Nat) : Int) < ((m : Nat) : Int)
 ·
  refine qa [(0, .yes)] [2, 3, 7, 8, 9] [(10, .bool true)] ([((j : Nat) : Int) < ((m : Nat) : Int)]) (al1 q5) (ds_ (sq_ (t_ (at_skip (ds_ (sq_ (at_block (sq_ ?_))))))))
  obtain ⟨b8, o8, rfl⟩ := hal.pos (i := j) (by omega)
  obtain ⟨x10, hx10⟩ := get_some (l := al) (m := j) (by omega)
  have hrx10 := hnm x10 (List.mem_of_getElem? hx10)
  have hsx10 : Sv w x10.p x10.l := hrx10.sv
  have hnx10 : x10.n = x10.l.length := hrx10.hn
  have hcx10 : x10.n ≤ x10.cap := hrx10.hc
  have hbx10 : x10.cap ≤ 9223372036854775807 := hrx10.hb
  refine ma [(1, .at b8 o8 j), (2, .go (outs b8 (o8 + j * 2) [.int .i64 x10.id, .slice x10.p x10.n x10.cap])), (5, .go (owns 0 0 2))] [2, 3, 7, 8, 9] (fun γ11 => [(4, .int .i64 (j : Nat)), (5, .pointer (some ⟨γ11 0, 0, none⟩))]) (fun γ11 L => bx (γ11 0) (#[.int .i64 x10.id, .slice x10.p x10.n x10.cap]) 46 :: L) (fun γ11 => [(some ⟨b8, o8, none⟩ : Option Addr) = some ⟨b8, o8, none⟩, (j : Nat) = ((j : Nat) : Int), j < m] ++ (cellsP w b8 (o8 + j * 2) [.int .i64 x10.id, .slice x10.p x10.n x10.cap])) (fun γ11 => (alA (al2 rfl (al2 rfl (al1 (by omega)))) (rd_pre (hal.get hx10) _ rfl))) (fun γ11 => ds_ (sq_ ?_))
  by_cases q13 : ((j : Nat) : Int) ≤ (8 : Int)
  ·
   refine qa [(1, .yes)] [2, 3, 5, 7, 8, 9] [(15, .bool true)] ([((j : Nat) : Int) ≤ (8 : Int)]) (al1 q13) (ds_ (t_ ?_))
   refine at_any (by kernel_rfl) ?_
   refine tk (m := 9) [0, 2, 4] [] [2, 3, 7, 8, 9] [(16, .pointer (some ⟨γ2 0, 0, none⟩)), (18, .pointer (some ⟨γ11 0, 0, none⟩)), (20, .pointer (some ⟨γ11 0, 1, none⟩))] ([]) #[true, false, true, false, true, false, false, false, false, false, false, false] al0 ?_
   refine any_cutX (V := (List Ob) × (List Ob) × (Nat) × (Nat) × (Nat) × (Option Addr) × (Option Addr) × (Nat → Nat)) (fun ⟨Y138, Y198, c138, cap198, n138, p198, q138, γ178⟩ => SlO 3 Y138 q138 n138 c138 (x10.l.take 17) ∧ SlO 46 Y198 p198 (nu + 1) cap198 (bl ++ [(⟨x10.id, q138, n138, c138, (x10.l.take 17)⟩ : GngA)])) 0 #[true, true, true, true, true, true, true, true, true, true, true, true] (fun ⟨Y138, Y198, c138, cap198, n138, p198, q138, γ178⟩ => [(2, .pointer (some ⟨γ1 1, 0, none⟩)), (3, .pointer (some ⟨γ2 0, 0, none⟩)), (7, .slice (some ⟨b8, o8, none⟩) m capq), (8, .int .i64 (m : Nat)), (9, .int .i64 (j : Nat))]) (fun ⟨Y138, Y198, c138, cap198, n138, p198, q138, γ178⟩ => bx (γ178 0) (#[.int .i64 x10.id, .slice q138 n138 c138]) 46 :: bx (γ11 0) (#[.int .i64 x10.id, .slice x10.p x10.n x10.cap]) 46 :: bx (γ2 0) (#[.slice p198 (nu + 1) cap198]) 38 :: bx (γ1 1) (#[.slice none 0 0]) 38 :: bx (γ1 0) (#[.slice (some ⟨b8, o8, none⟩) m capq]) 38 :: (Y138 ++ (Y198 ++ (Yi ++ [])))) ?_ (fun hmx15 => ?_)
   rotate_left
   ·
    refine any_cutX (V := (List Ob) × (List Ob) × (Nat) × (Nat) × (Nat) × (Option Addr) × (Option Addr) × (Nat → Nat)) (fun ⟨Y138, Y198, c138, cap198, n138, p198, q138, γ178⟩ => SlO 3 Y138 q138 n138 c138 (x10.l.take 17) ∧ SlO 46 Y198 p198 (nu + 1) cap198 (bl ++ [(⟨x10.id, q138, n138, c138, (x10.l.take 17)⟩ : GngA)])) 1 #[true, true, true, true, true, true, true, true, true, true, true, false] (fun ⟨Y138, Y198, c138, cap198, n138, p198, q138, γ178⟩ => [(2, .pointer (some ⟨γ1 1, 0, none⟩)), (3, .pointer (some ⟨γ2 0, 0, none⟩)), (7, .slice (some ⟨b8, o8, none⟩) m capq), (8, .int .i64 (m : Nat)), (9, .int .i64 (j : Nat)), (25, .slice p198 (nu + 1) cap198), (26, .pointer (some ⟨γ2 0, 0, none⟩))]) (fun ⟨Y138, Y198, c138, cap198, n138, p198, q138, γ178⟩ => bx (γ178 0) (#[.int .i64 x10.id, .slice q138 n138 c138]) 46 :: bx (γ11 0) (#[.int .i64 x10.id, .slice x10.p x10.n x10.cap]) 46 :: bx (γ2 0) (#[.slice po nu co]) 38 :: bx (γ1 1) (#[.slice none 0 0]) 38 :: bx (γ1 0) (#[.slice (some ⟨b8, o8, none⟩) m capq]) 38 :: (Y138 ++ (Y198 ++ (Yi ++ [])))) ?_ (fun hmx14 => ?_)
    ·
     rintro ⟨Y138, Y198, c138, cap198, n138, p198, q138, γ178⟩ ⟨hO138, hO198⟩
     refine a1 11 rfl ?_
     refine mo0 1 [(11, .go (owns 2 0 1))] [2, 3, 7, 8, 9] (fun _ => []) (fun _ L => (L.set 2 (bx (γ2 0) (#[.slice p198 (nu + 1) cap198]) 38))) (fun _ => ?_)
     refine od_ ?_
     exact wk (hmx15 (Y138, Y198, c138, cap198, n138, p198, q138, γ178) ⟨hO138, hO198⟩) [2, 3, 7, 8, 9] [[_], [_], [_], [_], [_], _, _, _] [0, 1, 2, 3, 4, 5, 6, 7] rfl rfl
    refine any_cutX (V := (List Ob) × (Nat) × (Nat) × (Option Addr) × (Nat → Nat)) (fun ⟨Y138, c138, n138, q138, γ178⟩ => SlO 3 Y138 q138 n138 c138 (x10.l.take 17)) 3 #[true, true, true, true, true, true, true, true, true, false, false, false] (fun ⟨Y138, c138, n138, q138, γ178⟩ => [(2, .pointer (some ⟨γ1 1, 0, none⟩)), (3, .pointer (some ⟨γ2 0, 0, none⟩)), (7, .slice (some ⟨b8, o8, none⟩) m capq), (8, .int .i64 (m : Nat)), (9, .int .i64 (j : Nat)), (17, .slice po nu co), (24, .slice (some ⟨γ178 0, 0, none⟩) 1 1)]) (fun ⟨Y138, c138, n138, q138, γ178⟩ => bx (γ178 0) (#[.int .i64 x10.id, .slice q138 n138 c138]) 46 :: bx (γ11 0) (#[.int .i64 x10.id, .slice x10.p x10.n x10.cap]) 46 :: bx (γ2 0) (#[.slice po nu co]) 38 :: bx (γ1 1) (#[.slice none 0 0]) 38 :: bx (γ1 0) (#[.slice (some ⟨b8, o8, none⟩) m capq]) 38 :: (Y138 ++ (Yo ++ (Yi ++ [])))) ?_ (fun hmx13 => ?_)
    ·
     rintro ⟨Y138, c138, n138, q138, γ178⟩ hO138
     refine a1 9 rfl ?_
     refine Ops.pick [[bx (γ178 0) (#[.int .i64 x10.id, .slice q138 n138 c138]) 46], [bx (γ11 0) (#[.int .i64 x10.id, .slice x10.p x10.n x10.cap]) 46], [bx (γ2 0) (#[.slice po nu co]) 38], [bx (γ1 1) (#[.slice none 0 0]) 38], [bx (γ1 0) (#[.slice (some ⟨b8, o8, none⟩) m capq]) 38], Y138, Yo, Yi] [0, 1, 2, 3, 4, 6, 5, 7] [] (bx (γ178 0) (#[.int .i64 x10.id, .slice q138 n138 c138]) 46 :: bx (γ11 0) (#[.int .i64 x10.id, .slice x10.p x10.n x10.cap]) 46 :: bx (γ2 0) (#[.slice po nu co]) 38 :: bx (γ1 1) (#[.slice none 0 0]) 38 :: bx (γ1 0) (#[.slice (some ⟨b8, o8, none⟩) m capq]) 38 :: (Yo ++ (Y138 ++ (Yi ++ [])))) (by kernel_rfl) rfl rfl (ops_append (α := GngA) [bx (γ178 0) (#[.int .i64 x10.id, .slice q138 n138 c138]) 46, bx (γ11 0) (#[.int .i64 x10.id, .slice x10.p x10.n x10.cap]) 46, bx (γ2 0) (#[.slice po nu co]) 38, bx (γ1 1) (#[.slice none 0 0]) 38, bx (γ1 0) (#[.slice (some ⟨b8, o8, none⟩) m capq]) 38] Yo (Y138 ++ (Yi ++ [])) (.refl _) rfl (by kernel_rfl) (by kernel_rfl) (p := po) (n := nu) (cap := co) (m := 1) (yv := .slice (some ⟨γ178 0, 0, none⟩) 1 1) (by kernel_rfl) (by kernel_rfl) (T := 46) (by_ := 32) (by kernel_rfl) bl ([(⟨x10.id, q138, n138, c138, (x10.l.take 17)⟩ : GngA)]) hO (fun w hw => src_svn Try.underlying36 (sv_row (hw.row 0 rfl) (by rfl)) (by rfl)) (by rfl) (by have hmx : maxLen = 9223372036854775807 := rfl; omega) (by have hmx : maxLen = 9223372036854775807 := rfl; omega) (fun Y198 p198 cap198 hO198 => ?_))
     refine od_ ?_
     refine tk (m := 1) [10] [] [2, 3, 7, 8, 9, 25] [(26, .pointer (some ⟨γ2 0, 0, none⟩))] ([]) #[true, true, true, true, true, true, true, true, true, true, true, false] al0 ?_
     exact wk (hmx14 (Y138, Y198, c138, cap198, n138, p198, q138, γ178) ⟨hO138, hO198⟩) [2, 3, 7, 8, 9, 25, 26] [[_], [_], [_], [_], [_], _, _, _] [0, 1, 2, 3, 4, 6, 5, 7] rfl rfl
    refine any_cutX (V := (List Ob) × (Nat) × (Nat) × (Option Addr) × (Nat → Nat)) (fun ⟨Y138, c138, n138, q138, γ178⟩ => SlO 3 Y138 q138 n138 c138 (x10.l.take 17)) 4 #[true, false, true, true, true, true, true, true, true, false, false, false] (fun ⟨Y138, c138, n138, q138, γ178⟩ => [(2, .pointer (some ⟨γ1 1, 0, none⟩)), (3, .pointer (some ⟨γ2 0, 0, none⟩)), (7, .slice (some ⟨b8, o8, none⟩) m capq), (8, .int .i64 (m : Nat)), (9, .int .i64 (j : Nat)), (16, .pointer (some ⟨γ2 0, 0, none⟩)), (24, .slice (some ⟨γ178 0, 0, none⟩) 1 1)]) (fun ⟨Y138, c138, n138, q138, γ178⟩ => bx (γ178 0) (#[.int .i64 x10.id, .slice q138 n138 c138]) 46 :: bx (γ11 0) (#[.int .i64 x10.id, .slice x10.p x10.n x10.cap]) 46 :: bx (γ2 0) (#[.slice po nu co]) 38 :: bx (γ1 1) (#[.slice none 0 0]) 38 :: bx (γ1 0) (#[.slice (some ⟨b8, o8, none⟩) m capq]) 38 :: (Y138 ++ (Yo ++ (Yi ++ [])))) ?_ (fun hmx12 => ?_)
    ·
     rintro ⟨Y138, c138, n138, q138, γ178⟩ hO138
     refine a1 1 rfl ?_
     refine qo0 1 [(1, .go (owns 2 0 1))] [2, 3, 7, 8, 9, 24] [(17, .slice po nu co)] ?_
     refine od_ ?_
     exact wk (hmx13 (Y138, c138, n138, q138, γ178) hO138) [2, 3, 7, 8, 9, 17, 24] [[_], [_], [_], [_], [_], _, _, _] [0, 1, 2, 3, 4, 5, 6, 7] rfl rfl
    refine any_cutX (V := (List Ob) × (Nat) × (Nat) × (Option Addr)) (fun ⟨Y138, c138, n138, q138⟩ => SlO 3 Y138 q138 n138 c138 (x10.l.take 17)) 4 #[true, true, true, true, true, true, true, true, false, false, false, false] (fun ⟨Y138, c138, n138, q138⟩ => [(2, .pointer (some ⟨γ1 1, 0, none⟩)), (3, .pointer (some ⟨γ2 0, 0, none⟩)), (7, .slice (some ⟨b8, o8, none⟩) m capq), (8, .int .i64 (m : Nat)), (9, .int .i64 (j : Nat)), (17, .slice po nu co), (23, .agg #[.int .i64 x10.id, .slice q138 n138 c138])]) (fun ⟨Y138, c138, n138, q138⟩ => bx (γ11 0) (#[.int .i64 x10.id, .slice x10.p x10.n x10.cap]) 46 :: bx (γ2 0) (#[.slice po nu co]) 38 :: bx (γ1 1) (#[.slice none 0 0]) 38 :: bx (γ1 0) (#[.slice (some ⟨b8, o8, none⟩) m capq]) 38 :: (Y138 ++ (Yo ++ (Yi ++ [])))) ?_ (fun hmx11 => ?_)
    ·
     rintro ⟨Y138, c138, n138, q138⟩ hO138
     refine a1 8 rfl ?_
     refine mo0 1 [] [2, 3, 7, 8, 9, 17] (fun γ178 => [(24, .slice (some ⟨γ178 0, 0, none⟩) 1 1)]) (fun γ178 L => bx (γ178 0) (#[.int .i64 x10.id, .slice q138 n138 c138]) 46 :: L) (fun γ178 => ?_)
     refine od_ ?_
     exact wk (hmx13 (Y138, c138, n138, q138, γ178) hO138) [2, 3, 7, 8, 9, 17, 24] [[_], [_], [_], [_], [_], _, _, _] [0, 1, 2, 3, 4, 5, 6, 7] rfl rfl
    refine any_cutX (V := (List Ob) × (Nat) × (Nat) × (Option Addr)) (fun ⟨Y138, c138, n138, q138⟩ => SlO 3 Y138 q138 n138 c138 (x10.l.take 17)) 5 #[true, false, true, true, true, true, true, true, false, false, false, false] (fun ⟨Y138, c138, n138, q138⟩ => [(2, .pointer (some ⟨γ1 1, 0, none⟩)), (3, .pointer (some ⟨γ2 0, 0, none⟩)), (7, .slice (some ⟨b8, o8, none⟩) m capq), (8, .int .i64 (m : Nat)), (9, .int .i64 (j : Nat)), (16, .pointer (some ⟨γ2 0, 0, none⟩)), (23, .agg #[.int .i64 x10.id, .slice q138 n138 c138])]) (fun ⟨Y138, c138, n138, q138⟩ => bx (γ11 0) (#[.int .i64 x10.id, .slice x10.p x10.n x10.cap]) 46 :: bx (γ2 0) (#[.slice po nu co]) 38 :: bx (γ1 1) (#[.slice none 0 0]) 38 :: bx (γ1 0) (#[.slice (some ⟨b8, o8, none⟩) m capq]) 38 :: (Y138 ++ (Yo ++ (Yi ++ [])))) ?_ (fun hmx10 => ?_)
    ·
     rintro ⟨Y138, c138, n138, q138⟩ hO138
     refine any_fork [1, 8] (by kernel_rfl) (by simp) (each_cons _ rfl ?_ (each_cons _ rfl ?_ (each_nil)))
     ·
      refine qo0 1 [(1, .go (owns 1 0 1))] [2, 3, 7, 8, 9, 23] [(17, .slice po nu co)] ?_
      refine od_ ?_
      exact wk (hmx11 (Y138, c138, n138, q138) hO138) [2, 3, 7, 8, 9, 17, 23] [[_], [_], [_], [_], _, _, _] [0, 1, 2, 3, 4, 5, 6] rfl rfl
     ·
      refine mo0 1 [] [2, 3, 7, 8, 9, 16] (fun γ178 => [(24, .slice (some ⟨γ178 0, 0, none⟩) 1 1)]) (fun γ178 L => bx (γ178 0) (#[.int .i64 x10.id, .slice q138 n138 c138]) 46 :: L) (fun γ178 => ?_)
      refine od_ ?_
      exact wk (hmx12 (Y138, c138, n138, q138, γ178) hO138) [2, 3, 7, 8, 9, 16, 24] [[_], [_], [_], [_], [_], _, _, _] [0, 1, 2, 3, 4, 5, 6, 7] rfl rfl
    refine any_cutX (V := (List Ob) × (Nat) × (Nat) × (Option Addr)) (fun ⟨Y138, c138, n138, q138⟩ => SlO 3 Y138 q138 n138 c138 (x10.l.take 17)) 6 #[true, true, true, false, true, true, true, false, false, false, false, false] (fun ⟨Y138, c138, n138, q138⟩ => [(2, .pointer (some ⟨γ1 1, 0, none⟩)), (3, .pointer (some ⟨γ2 0, 0, none⟩)), (7, .slice (some ⟨b8, o8, none⟩) m capq), (8, .int .i64 (m : Nat)), (9, .int .i64 (j : Nat)), (17, .slice po nu co), (18, .pointer (some ⟨γ11 0, 0, none⟩)), (22, .slice q138 n138 c138)]) (fun ⟨Y138, c138, n138, q138⟩ => bx (γ11 0) (#[.int .i64 x10.id, .slice x10.p x10.n x10.cap]) 46 :: bx (γ2 0) (#[.slice po nu co]) 38 :: bx (γ1 1) (#[.slice none 0 0]) 38 :: bx (γ1 0) (#[.slice (some ⟨b8, o8, none⟩) m capq]) 38 :: (Y138 ++ (Yo ++ (Yi ++ [])))) ?_ (fun hmx9 => ?_)
    ·
     rintro ⟨Y138, c138, n138, q138⟩ hO138
     refine a1 3 rfl ?_
     refine qo0 1 [(3, .go (owns 0 0 1))] [2, 3, 7, 8, 9, 17, 22] [(19, .int .i64 x10.id)] ?_
     refine od_ ?_
     refine tk (m := 4) [7] [] [2, 3, 7, 8, 9, 17] [(23, .agg #[.int .i64 x10.id, .slice q138 n138 c138])] ([]) #[true, true, true, true, true, true, true, true, false, false, false, false] al0 ?_
     exact wk (hmx11 (Y138, c138, n138, q138) hO138) [2, 3, 7, 8, 9, 17, 23] [[_], [_], [_], [_], _, _, _] [0, 1, 2, 3, 4, 5, 6] rfl rfl
    refine any_cutX (V := Unit) (fun _ => True) 6 #[true, true, true, true, true, true, false, false, false, false, false, false] (fun _ => [(2, .pointer (some ⟨γ1 1, 0, none⟩)), (3, .pointer (some ⟨γ2 0, 0, none⟩)), (7, .slice (some ⟨b8, o8, none⟩) m capq), (8, .int .i64 (m : Nat)), (9, .int .i64 (j : Nat)), (17, .slice po nu co), (19, .int .i64 x10.id), (21, .slice x10.p x10.n x10.cap)]) (fun _ => bx (γ11 0) (#[.int .i64 x10.id, .slice x10.p x10.n x10.cap]) 46 :: bx (γ2 0) (#[.slice po nu co]) 38 :: bx (γ1 1) (#[.slice none 0 0]) 38 :: bx (γ1 0) (#[.slice (some ⟨b8, o8, none⟩) m capq]) 38 :: (Yo ++ (Yi ++ []))) ?_ (fun hmx8 => ?_)
    ·
     rintro _ _
     refine a1 6 rfl ?_
     refine cP (fun v L' => ∃ q_ n_ c_ Y_, v = .slice q_ n_ c_ ∧ L' = List.take 4 (bx (γ11 0) (#[.int .i64 x10.id, .slice x10.p x10.n x10.cap]) 46 :: bx (γ2 0) (#[.slice po nu co]) 38 :: bx (γ1 1) (#[.slice none 0 0]) 38 :: bx (γ1 0) (#[.slice (some ⟨b8, o8, none⟩) m capq]) 38 :: (Yo ++ (Yi ++ []))) ++ (Y_ ++ List.drop 4 (bx (γ11 0) (#[.int .i64 x10.id, .slice x10.p x10.n x10.cap]) 46 :: bx (γ2 0) (#[.slice po nu co]) 38 :: bx (γ1 1) (#[.slice none 0 0]) 38 :: bx (γ1 0) (#[.slice (some ⟨b8, o8, none⟩) m capq]) 38 :: (Yo ++ (Yi ++ [])))) ∧ SlO 3 Y_ q_ n_ c_ (x10.l.take 17)) Try.call30 (fun w hw => (ints_t x10.p x10.n x10.cap x10.l w (hsx10.kept hw.below) hnx10 (by omega) (by omega)).mono fun e w' ⟨q_, n_, c_, Y_, he, hO, hb, hY⟩ => ⟨_, _, he, ⟨q_, n_, c_, Y_, rfl, rfl, hO⟩, hw.join hb hY 4⟩) ?_
     rintro v138 L138 ⟨q138, n138, c138, Y138, rfl, rfl, hO138⟩
     refine od_ ?_
     refine tk (m := 4) [7] [] [2, 3, 7, 8, 9, 17] [(23, .agg #[.int .i64 x10.id, .slice q138 n138 c138])] ([]) #[true, true, true, true, true, true, true, true, false, false, false, false] al0 ?_
     exact wk (hmx11 (Y138, c138, n138, q138) hO138) [2, 3, 7, 8, 9, 17, 23] [[_], [_], [_], [_], _, _, _] [0, 1, 2, 3, 4, 5, 6] rfl rfl
    refine any_cutX (V := (List Ob) × (Nat) × (Nat) × (Option Addr)) (fun ⟨Y138, c138, n138, q138⟩ => SlO 3 Y138 q138 n138 c138 (x10.l.take 17)) 7 #[true, false, true, false, true, true, true, false, false, false, false, false] (fun ⟨Y138, c138, n138, q138⟩ => [(2, .pointer (some ⟨γ1 1, 0, none⟩)), (3, .pointer (some ⟨γ2 0, 0, none⟩)), (7, .slice (some ⟨b8, o8, none⟩) m capq), (8, .int .i64 (m : Nat)), (9, .int .i64 (j : Nat)), (16, .pointer (some ⟨γ2 0, 0, none⟩)), (18, .pointer (some ⟨γ11 0, 0, none⟩)), (22, .slice q138 n138 c138)]) (fun ⟨Y138, c138, n138, q138⟩ => bx (γ11 0) (#[.int .i64 x10.id, .slice x10.p x10.n x10.cap]) 46 :: bx (γ2 0) (#[.slice po nu co]) 38 :: bx (γ1 1) (#[.slice none 0 0]) 38 :: bx (γ1 0) (#[.slice (some ⟨b8, o8, none⟩) m capq]) 38 :: (Y138 ++ (Yo ++ (Yi ++ [])))) ?_ (fun hmx7 => ?_)
    ·
     rintro ⟨Y138, c138, n138, q138⟩ hO138
     refine any_fork [1, 3] (by kernel_rfl) (by simp) (each_cons _ rfl ?_ (each_cons _ rfl ?_ (each_nil)))
     ·
      refine qo0 1 [(1, .go (owns 1 0 1))] [2, 3, 7, 8, 9, 18, 22] [(17, .slice po nu co)] ?_
      refine od_ ?_
      exact wk (hmx9 (Y138, c138, n138, q138) hO138) [2, 3, 7, 8, 9, 17, 18, 22] [[_], [_], [_], [_], _, _, _] [0, 1, 2, 3, 4, 5, 6] rfl rfl
     ·
      refine qo0 1 [(3, .go (owns 0 0 1))] [2, 3, 7, 8, 9, 16, 22] [(19, .int .i64 x10.id)] ?_
      refine od_ ?_
      refine tk (m := 5) [7] [] [2, 3, 7, 8, 9, 16] [(23, .agg #[.int .i64 x10.id, .slice q138 n138 c138])] ([]) #[true, false, true, true, true, true, true, true, false, false, false, false] al0 ?_
      exact wk (hmx10 (Y138, c138, n138, q138) hO138) [2, 3, 7, 8, 9, 16, 23] [[_], [_], [_], [_], _, _, _] [0, 1, 2, 3, 4, 5, 6] rfl rfl
    refine any_cutX (V := Unit) (fun _ => True) 7 #[true, false, true, true, true, true, false, false, false, false, false, false] (fun _ => [(2, .pointer (some ⟨γ1 1, 0, none⟩)), (3, .pointer (some ⟨γ2 0, 0, none⟩)), (7, .slice (some ⟨b8, o8, none⟩) m capq), (8, .int .i64 (m : Nat)), (9, .int .i64 (j : Nat)), (16, .pointer (some ⟨γ2 0, 0, none⟩)), (19, .int .i64 x10.id), (21, .slice x10.p x10.n x10.cap)]) (fun _ => bx (γ11 0) (#[.int .i64 x10.id, .slice x10.p x10.n x10.cap]) 46 :: bx (γ2 0) (#[.slice po nu co]) 38 :: bx (γ1 1) (#[.slice none 0 0]) 38 :: bx (γ1 0) (#[.slice (some ⟨b8, o8, none⟩) m capq]) 38 :: (Yo ++ (Yi ++ []))) ?_ (fun hmx6 => ?_)
    ·
     rintro _ _
     refine any_fork [1, 6] (by kernel_rfl) (by simp) (each_cons _ rfl ?_ (each_cons _ rfl ?_ (each_nil)))
     ·
      refine qo0 1 [(1, .go (owns 1 0 1))] [2, 3, 7, 8, 9, 19, 21] [(17, .slice po nu co)] ?_
      refine od_ ?_
      exact wk (hmx8 () trivial) [2, 3, 7, 8, 9, 17, 19, 21] [[_], [_], [_], [_], _, _] [0, 1, 2, 3, 4, 5] rfl rfl
     ·
      refine cP (fun v L' => ∃ q_ n_ c_ Y_, v = .slice q_ n_ c_ ∧ L' = List.take 4 (bx (γ11 0) (#[.int .i64 x10.id, .slice x10.p x10.n x10.cap]) 46 :: bx (γ2 0) (#[.slice po nu co]) 38 :: bx (γ1 1) (#[.slice none 0 0]) 38 :: bx (γ1 0) (#[.slice (some ⟨b8, o8, none⟩) m capq]) 38 :: (Yo ++ (Yi ++ []))) ++ (Y_ ++ List.drop 4 (bx (γ11 0) (#[.int .i64 x10.id, .slice x10.p x10.n x10.cap]) 46 :: bx (γ2 0) (#[.slice po nu co]) 38 :: bx (γ1 1) (#[.slice none 0 0]) 38 :: bx (γ1 0) (#[.slice (some ⟨b8, o8, none⟩) m capq]) 38 :: (Yo ++ (Yi ++ [])))) ∧ SlO 3 Y_ q_ n_ c_ (x10.l.take 17)) Try.call30 (fun w hw => (ints_t x10.p x10.n x10.cap x10.l w (hsx10.kept hw.below) hnx10 (by omega) (by omega)).mono fun e w' ⟨q_, n_, c_, Y_, he, hO, hb, hY⟩ => ⟨_, _, he, ⟨q_, n_, c_, Y_, rfl, rfl, hO⟩, hw.join hb hY 4⟩) ?_
      rintro v138 L138 ⟨q138, n138, c138, Y138, rfl, rfl, hO138⟩
      refine od_ ?_
      refine tk (m := 5) [7] [] [2, 3, 7, 8, 9, 16] [(23, .agg #[.int .i64 x10.id, .slice q138 n138 c138])] ([]) #[true, false, true, true, true, true, true, true, false, false, false, false] al0 ?_
      exact wk (hmx10 (Y138, c138, n138, q138) hO138) [2, 3, 7, 8, 9, 16, 23] [[_], [_], [_], [_], _, _, _] [0, 1, 2, 3, 4, 5, 6] rfl rfl
    refine any_cutX (V := Unit) (fun _ => True) 7 #[true, true, true, false, true, true, false, false, false, false, false, false] (fun _ => [(2, .pointer (some ⟨γ1 1, 0, none⟩)), (3, .pointer (some ⟨γ2 0, 0, none⟩)), (7, .slice (some ⟨b8, o8, none⟩) m capq), (8, .int .i64 (m : Nat)), (9, .int .i64 (j : Nat)), (17, .slice po nu co), (18, .pointer (some ⟨γ11 0, 0, none⟩)), (21, .slice x10.p x10.n x10.cap)]) (fun _ => bx (γ11 0) (#[.int .i64 x10.id, .slice x10.p x10.n x10.cap]) 46 :: bx (γ2 0) (#[.slice po nu co]) 38 :: bx (γ1 1) (#[.slice none 0 0]) 38 :: bx (γ1 0) (#[.slice (some ⟨b8, o8, none⟩) m capq]) 38 :: (Yo ++ (Yi ++ []))) ?_ (fun hmx5 => ?_)
    ·
     rintro _ _
     refine any_fork [3, 6] (by kernel_rfl) (by simp) (each_cons _ rfl ?_ (each_cons _ rfl ?_ (each_nil)))
     ·
      refine qo0 1 [(3, .go (owns 0 0 1))] [2, 3, 7, 8, 9, 17, 21] [(19, .int .i64 x10.id)] ?_
      refine od_ ?_
      exact wk (hmx8 () trivial) [2, 3, 7, 8, 9, 17, 19, 21] [[_], [_], [_], [_], _, _] [0, 1, 2, 3, 4, 5] rfl rfl
     ·
      refine cP (fun v L' => ∃ q_ n_ c_ Y_, v = .slice q_ n_ c_ ∧ L' = List.take 4 (bx (γ11 0) (#[.int .i64 x10.id, .slice x10.p x10.n x10.cap]) 46 :: bx (γ2 0) (#[.slice po nu co]) 38 :: bx (γ1 1) (#[.slice none 0 0]) 38 :: bx (γ1 0) (#[.slice (some ⟨b8, o8, none⟩) m capq]) 38 :: (Yo ++ (Yi ++ []))) ++ (Y_ ++ List.drop 4 (bx (γ11 0) (#[.int .i64 x10.id, .slice x10.p x10.n x10.cap]) 46 :: bx (γ2 0) (#[.slice po nu co]) 38 :: bx (γ1 1) (#[.slice none 0 0]) 38 :: bx (γ1 0) (#[.slice (some ⟨b8, o8, none⟩) m capq]) 38 :: (Yo ++ (Yi ++ [])))) ∧ SlO 3 Y_ q_ n_ c_ (x10.l.take 17)) Try.call30 (fun w hw => (ints_t x10.p x10.n x10.cap x10.l w (hsx10.kept hw.below) hnx10 (by omega) (by omega)).mono fun e w' ⟨q_, n_, c_, Y_, he, hO, hb, hY⟩ => ⟨_, _, he, ⟨q_, n_, c_, Y_, rfl, rfl, hO⟩, hw.join hb hY 4⟩) ?_
      rintro v138 L138 ⟨q138, n138, c138, Y138, rfl, rfl, hO138⟩
      refine od_ ?_
      exact wk (hmx9 (Y138, c138, n138, q138) hO138) [2, 3, 7, 8, 9, 17, 18, 22] [[_], [_], [_], [_], _, _, _] [0, 1, 2, 3, 4, 5, 6] rfl rfl
    refine any_cutX (V := Unit) (fun _ => True) 7 #[true, true, true, true, true, false, false, false, false, false, false, false] (fun _ => [(2, .pointer (some ⟨γ1 1, 0, none⟩)), (3, .pointer (some ⟨γ2 0, 0, none⟩)), (7, .slice (some ⟨b8, o8, none⟩) m capq), (8, .int .i64 (m : Nat)), (9, .int .i64 (j : Nat)), (17, .slice po nu co), (19, .int .i64 x10.id), (20, .pointer (some ⟨γ11 0, 1, none⟩))]) (fun _ => bx (γ11 0) (#[.int .i64 x10.id, .slice x10.p x10.n x10.cap]) 46 :: bx (γ2 0) (#[.slice po nu co]) 38 :: bx (γ1 1) (#[.slice none 0 0]) 38 :: bx (γ1 0) (#[.slice (some ⟨b8, o8, none⟩) m capq]) 38 :: (Yo ++ (Yi ++ []))) ?_ (fun hmx4 => ?_)
    ·
     rintro _ _
     refine a1 5 rfl ?_
     refine qo0 1 [(5, .go (owns 0 1 1))] [2, 3, 7, 8, 9, 17, 19] [(21, .slice x10.p x10.n x10.cap)] ?_
     refine od_ ?_
     exact wk (hmx8 () trivial) [2, 3, 7, 8, 9, 17, 19, 21] [[_], [_], [_], [_], _, _] [0, 1, 2, 3, 4, 5] rfl rfl
    refine any_cutX (V := Unit) (fun _ => True) 8 #[true, false, true, false, true, true, false, false, false, false, false, false] (fun _ => [(2, .pointer (some ⟨γ1 1, 0, none⟩)), (3, .pointer (some ⟨γ2 0, 0, none⟩)), (7, .slice (some ⟨b8, o8, none⟩) m capq), (8, .int .i64 (m : Nat)), (9, .int .i64 (j : Nat)), (16, .pointer (some ⟨γ2 0, 0, none⟩)), (18, .pointer (some ⟨γ11 0, 0, none⟩)), (21, .slice x10.p x10.n x10.cap)]) (fun _ => bx (γ11 0) (#[.int .i64 x10.id, .slice x10.p x10.n x10.cap]) 46 :: bx (γ2 0) (#[.slice po nu co]) 38 :: bx (γ1 1) (#[.slice none 0 0]) 38 :: bx (γ1 0) (#[.slice (some ⟨b8, o8, none⟩) m capq]) 38 :: (Yo ++ (Yi ++ []))) ?_ (fun hmx3 => ?_)
    ·
     rintro _ _
     refine any_fork [1, 3, 6] (by kernel_rfl) (by simp) (each_cons _ rfl ?_ (each_cons _ rfl ?_ (each_cons _ rfl ?_ (each_nil))))
     ·
      refine qo0 1 [(1, .go (owns 1 0 1))] [2, 3, 7, 8, 9, 18, 21] [(17, .slice po nu co)] ?_
      refine od_ ?_
      exact wk (hmx5 () trivial) [2, 3, 7, 8, 9, 17, 18, 21] [[_], [_], [_], [_], _, _] [0, 1, 2, 3, 4, 5] rfl rfl
     ·
      refine qo0 1 [(3, .go (owns 0 0 1))] [2, 3, 7, 8, 9, 16, 21] [(19, .int .i64 x10.id)] ?_
      refine od_ ?_
      exact wk (hmx6 () trivial) [2, 3, 7, 8, 9, 16, 19, 21] [[_], [_], [_], [_], _, _] [0, 1, 2, 3, 4, 5] rfl rfl
     ·
      refine cP (fun v L' => ∃ q_ n_ c_ Y_, v = .slice q_ n_ c_ ∧ L' = List.take 4 (bx (γ11 0) (#[.int .i64 x10.id, .slice x10.p x10.n x10.cap]) 46 :: bx (γ2 0) (#[.slice po nu co]) 38 :: bx (γ1 1) (#[.slice none 0 0]) 38 :: bx (γ1 0) (#[.slice (some ⟨b8, o8, none⟩) m capq]) 38 :: (Yo ++ (Yi ++ []))) ++ (Y_ ++ List.drop 4 (bx (γ11 0) (#[.int .i64 x10.id, .slice x10.p x10.n x10.cap]) 46 :: bx (γ2 0) (#[.slice po nu co]) 38 :: bx (γ1 1) (#[.slice none 0 0]) 38 :: bx (γ1 0) (#[.slice (some ⟨b8, o8, none⟩) m capq]) 38 :: (Yo ++ (Yi ++ [])))) ∧ SlO 3 Y_ q_ n_ c_ (x10.l.take 17)) Try.call30 (fun w hw => (ints_t x10.p x10.n x10.cap x10.l w (hsx10.kept hw.below) hnx10 (by omega) (by omega)).mono fun e w' ⟨q_, n_, c_, Y_, he, hO, hb, hY⟩ => ⟨_, _, he, ⟨q_, n_, c_, Y_, rfl, rfl, hO⟩, hw.join hb hY 4⟩) ?_
      rintro v138 L138 ⟨q138, n138, c138, Y138, rfl, rfl, hO138⟩
      refine od_ ?_
      exact wk (hmx7 (Y138, c138, n138, q138) hO138) [2, 3, 7, 8, 9, 16, 18, 22] [[_], [_], [_], [_], _, _, _] [0, 1, 2, 3, 4, 5, 6] rfl rfl
    refine any_cutX (V := Unit) (fun _ => True) 8 #[true, false, true, true, true, false, false, false, false, false, false, false] (fun _ => [(2, .pointer (some ⟨γ1 1, 0, none⟩)), (3, .pointer (some ⟨γ2 0, 0, none⟩)), (7, .slice (some ⟨b8, o8, none⟩) m capq), (8, .int .i64 (m : Nat)), (9, .int .i64 (j : Nat)), (16, .pointer (some ⟨γ2 0, 0, none⟩)), (19, .int .i64 x10.id), (20, .pointer (some ⟨γ11 0, 1, none⟩))]) (fun _ => bx (γ11 0) (#[.int .i64 x10.id, .slice x10.p x10.n x10.cap]) 46 :: bx (γ2 0) (#[.slice po nu co]) 38 :: bx (γ1 1) (#[.slice none 0 0]) 38 :: bx (γ1 0) (#[.slice (some ⟨b8, o8, none⟩) m capq]) 38 :: (Yo ++ (Yi ++ []))) ?_ (fun hmx2 => ?_)
    ·
     rintro _ _
     refine any_fork [1, 5] (by kernel_rfl) (by simp) (each_cons _ rfl ?_ (each_cons _ rfl ?_ (each_nil)))
     ·
      refine qo0 1 [(1, .go (owns 1 0 1))] [2, 3, 7, 8, 9, 19, 20] [(17, .slice po nu co)] ?_
      refine od_ ?_
      exact wk (hmx4 () trivial) [2, 3, 7, 8, 9, 17, 19, 20] [[_], [_], [_], [_], _, _] [0, 1, 2, 3, 4, 5] rfl rfl
     ·
      refine qo0 1 [(5, .go (owns 0 1 1))] [2, 3, 7, 8, 9, 16, 19] [(21, .slice x10.p x10.n x10.cap)] ?_
      refine od_ ?_
      exact wk (hmx6 () trivial) [2, 3, 7, 8, 9, 16, 19, 21] [[_], [_], [_], [_], _, _] [0, 1, 2, 3, 4, 5] rfl rfl
    refine any_cutX (V := Unit) (fun _ => True) 8 #[true, true, true, false, true, false, false, false, false, false, false, false] (fun _ => [(2, .pointer (some ⟨γ1 1, 0, none⟩)), (3, .pointer (some ⟨γ2 0, 0, none⟩)), (7, .slice (some ⟨b8, o8, none⟩) m capq), (8, .int .i64 (m : Nat)), (9, .int .i64 (j : Nat)), (17, .slice po nu co), (18, .pointer (some ⟨γ11 0, 0, none⟩)), (20, .pointer (some ⟨γ11 0, 1, none⟩))]) (fun _ => bx (γ11 0) (#[.int .i64 x10.id, .slice x10.p x10.n x10.cap]) 46 :: bx (γ2 0) (#[.slice po nu co]) 38 :: bx (γ1 1) (#[.slice none 0 0]) 38 :: bx (γ1 0) (#[.slice (some ⟨b8, o8, none⟩) m capq]) 38 :: (Yo ++ (Yi ++ []))) ?_ (fun hmx1 => ?_)
    ·
     rintro _ _
     refine any_fork [3, 5] (by kernel_rfl) (by simp) (each_cons _ rfl ?_ (each_cons _ rfl ?_ (each_nil)))
     ·
      refine qo0 1 [(3, .go (owns 0 0 1))] [2, 3, 7, 8, 9, 17, 20] [(19, .int .i64 x10.id)] ?_
      refine od_ ?_
      exact wk (hmx4 () trivial) [2, 3, 7, 8, 9, 17, 19, 20] [[_], [_], [_], [_], _, _] [0, 1, 2, 3, 4, 5] rfl rfl
     ·
      refine qo0 1 [(5, .go (owns 0 1 1))] [2, 3, 7, 8, 9, 17, 18] [(21, .slice x10.p x10.n x10.cap)] ?_
      refine od_ ?_
      exact wk (hmx5 () trivial) [2, 3, 7, 8, 9, 17, 18, 21] [[_], [_], [_], [_], _, _] [0, 1, 2, 3, 4, 5] rfl rfl
    refine any_fork [1, 3, 5] (by kernel_rfl) (by simp) (each_cons _ rfl ?_ (each_cons _ rfl ?_ (each_cons _ rfl ?_ (each_nil))))
    ·
     refine qo0 1 [(1, .go (owns 1 0 1))] [2, 3, 7, 8, 9, 18, 20] [(17, .slice po nu co)] ?_
     refine od_ ?_
     exact wk (hmx1 () trivial) [2, 3, 7, 8, 9, 17, 18, 20] [[_], [_], [_], [_], _, _] [0, 1, 2, 3, 4, 5] rfl rfl
    ·
     refine qo0 1 [(3, .go (owns 0 0 1))] [2, 3, 7, 8, 9, 16, 20] [(19, .int .i64 x10.id)] ?_
     refine od_ ?_
     exact wk (hmx2 () trivial) [2, 3, 7, 8, 9, 16, 19, 20] [[_], [_], [_], [_], _, _] [0, 1, 2, 3, 4, 5] rfl rfl
    ·
     refine qo0 1 [(5, .go (owns 0 1 1))] [2, 3, 7, 8, 9, 16, 18] [(21, .slice x10.p x10.n x10.cap)] ?_
     refine od_ ?_
     exact wk (hmx3 () trivial) [2, 3, 7, 8, 9, 16, 18, 21] [[_], [_], [_], [_], _, _] [0, 1, 2, 3, 4, 5] rfl rfl
   rintro ⟨Y138, Y198, c138, cap198, n138, p198, q138, γ178⟩ ⟨hO138, hO198⟩
   refine any_nil (by kernel_rfl) ?_
   refine done_block (ds_ (qa [(0, .fit)] [2, 3, 7, 8] [(9, .int .i64 (j + 1 : Nat))] ([Fit .i64 ((j + 1 : Nat))]) (al1 (fit64 (by omega) (by omega))) (Done.pick [[bx (γ178 0) (#[.int .i64 x10.id, .slice q138 n138 c138]) 46], [bx (γ11 0) (#[.int .i64 x10.id, .slice x10.p x10.n x10.cap]) 46], [bx (γ2 0) (#[.slice p198 (nu + 1) cap198]) 38], [bx (γ1 1) (#[.slice none 0 0]) 38], [bx (γ1 0) (#[.slice (some ⟨b8, o8, none⟩) m capq]) 38], Y138, Y198, Yi] [2, 3, 4, 6, 7, 5] [0, 1] (bx (γ2 0) (#[.slice p198 (nu + 1) cap198]) 38 :: bx (γ1 1) (#[.slice none 0 0]) 38 :: bx (γ1 0) (#[.slice (some ⟨b8, o8, none⟩) m capq]) 38 :: (Y198 ++ (Yi ++ (Y138 ++ [])))) (by kernel_rfl) rfl rfl (Done.as (L' := bx (γ2 0) (#[.slice p198 (nu + 1) cap198]) 38 :: bx (γ1 1) (#[.slice none 0 0]) 38 :: bx (γ1 0) (#[.slice (some ⟨b8, o8, none⟩) m capq]) 38 :: (Y198 ++ ((Yi ++ Y138) ++ []))) (by simp only [List.append_assoc]) ?_))))
   exact dr [2, 3, 7, 8, 9] (j + 1, Y198, p198, (nu + 1), cap198, (bl ++ [(⟨x10.id, q138, n138, c138, (x10.l.take 17)⟩ : GngA)]), Yi ++ Y138) ⟨by omega, by omega, hO198, GotG.snoc hG hO138, short_add hB hx10 (by omega) rfl⟩
  ·
   refine qa [(1, .no)] [2, 3, 5, 7, 8, 9] [(15, .bool false)] ([¬ (((j : Nat) : Int) ≤ (8 : Int))]) (al1 q13) (ds_ (f_ (at_skip (done_block (ds_ (qa [(0, .fit)] [2, 3, 7, 8] [(9, .int .i64 (j + 1 : Nat))] ([Fit .i64 ((j + 1 : Nat))]) (al1 (fit64 (by omega) (by omega))) (Done.pick [[bx (γ11 0) (#[.int .i64 x10.id, .slice x10.p x10.n x10.cap]) 46], [bx (γ2 0) (#[.slice po nu co]) 38], [bx (γ1 1) (#[.slice none 0 0]) 38], [bx (γ1 0) (#[.slice (some ⟨b8, o8, none⟩) m capq]) 38], Yo, Yi] [1, 2, 3, 4, 5] [0] (bx (γ2 0) (#[.slice po nu co]) 38 :: bx (γ1 1) (#[.slice none 0 0]) 38 :: bx (γ1 0) (#[.slice (some ⟨b8, o8, none⟩) m capq]) 38 :: (Yo ++ (Yi ++ []))) (by kernel_rfl) rfl rfl ?_)))))))
   exact dr [2, 3, 7, 8, 9] (j + 1, Yo, po, nu, co, bl, Yi) ⟨by omega, by omega, hO, hG, short_out hB (by omega)⟩
 ·
  refine qa [(0, .no)] [2, 3, 7, 8, 9] [(10, .bool false)] ([¬ (((j : Nat) : Int) < ((m : Nat) : Int))]) (al1 q5) (ds_ (sq_ (f_ (at_leave _ rfl (ds_ (sq_ (ma0 [(0, .go (owns 0 0 1)), (1, .go (owns 1 0 1))] [2] (fun _ => []) (fun _ L => (L.set 1 (bx (γ1 1) (#[.slice po nu co]) 38))) (fun _ => ds_ (rt (owns 1 0 1) (.agg #[.slice po nu co]) ?_)))))))))
  rw [short_all (by omega)] at hB
  exact fun w' hw => ⟨_, _, _, _, _, _, rfl, hO, hG, hB, hw.below, two_tails14 (Hs.pick [[bx (γ2 0) (#[.slice po nu co]) 38], [bx (γ1 1) (#[.slice po nu co]) 38], [bx (γ1 0) (#[.slice q m capq]) 38], Yo, Yi] [3, 4] [0, 1, 2] (by kernel_rfl) hw)⟩
end Go.Proofs.Ytahccegfahghfaa

/-! Gangs: Rows, Copy. -/
namespace Go.Proofs.Ytahccegfahghfaa
open Go Go.RowKit
theorem copy_add {bl al : List GngA} {x y : GngA} {j : Nat} (hB : bl.map GngA.val = (al.take j).map GngA.val) (hx : al[j]? = some x) (hy : y.val = x.val) : (bl ++ [y]).map GngA.val = (al.take (j + 1)).map GngA.val := by
 rw [take_one hx, List.map_append, List.map_append, hB, List.map_cons, List.map_nil, hy]; rfl

set_option maxRecDepth 100000 in
theorem rcopy_t (q : Option Addr) (m capq : Nat) (al : List GngA) (w : World)
 (hal : Sv w q al) (hma : m = al.length) (hbm : m ≤ 1000) (hnm : ∀ x ∈ al, x.Reads w) (hm9 : ∀ x ∈ al, x.n ≤ 1000)
 : Calls Try.prog 28 #[.agg #[.slice q m capq]] w fun e w' => ∃ q' m' c' Y bl Yi, e = .returned (.agg #[.slice q' m' c']) ∧ SlO 46 Y q' m' c' bl ∧ GotG 3 Yi bl ∧ bl.map GngA.val = (al.map GngA.val) ∧ Below w.heap.size w w' ∧ Hs w (Y ++ Yi) w' := by
 refine enter (Hs.start w) Try.func28 rfl Try.ntmps28 rfl (sq_ (ma0 [] [] (fun γ1 => [(1, .pointer (some ⟨γ1 0, 0, none⟩)), (2, .pointer (some ⟨γ1 1, 0, none⟩))]) (fun γ1 L => bx (γ1 1) (#[.slice none 0 0]) 38 :: bx (γ1 0) (#[.slice q m capq]) 38 :: L) (fun γ1 => ds_ (sq_ (ma0 [] [1, 2] (fun γ2 => [(3, .pointer (some ⟨γ2 0, 0, none⟩))]) (fun γ2 L => bx (γ2 0) (#[.slice none 0 0]) 38 :: L) (fun γ2 => ds_ (sq_ (sq_ (qa0 [(1, .go (owns 2 0 1))] [2, 3] [(7, .slice q m capq), (8, .int .i64 (m : Nat)), (9, .int .i64 0)] (ds_ (at_block (At.pick [[bx (γ2 0) (#[.slice none 0 0]) 38], [bx (γ1 1) (#[.slice none 0 0]) 38], [bx (γ1 0) (#[.slice q m capq]) 38]] [0, 1] [2] ([bx (γ2 0) (#[.slice none 0 0]) 38, bx (γ1 1) (#[.slice none 0 0]) 38]) (by kernel_rfl) rfl rfl (at_loop (α := Nat × List Ob × Option Addr × Nat × List GngA × List Ob) [2, 3, 7, 8, 9] (fun ⟨j, Yo, po, co, bl, Yi⟩ => [(2, .pointer (some ⟨γ1 1, 0, none⟩)), (3, .pointer (some ⟨γ2 0, 0, none⟩)), (7, .slice q m capq), (8, .int .i64 (m : Nat)), (9, .int .i64 (j : Nat))]) (fun ⟨j, Yo, po, co, bl, Yi⟩ => bx (γ2 0) (#[.slice po j co]) 38 :: bx (γ1 1) (#[.slice none 0 0]) 38 :: (Yo ++ (Yi ++ []))) (fun ⟨j, Yo, po, co, bl, Yi⟩ => j ≤ m ∧ SlO 46 Yo po j co bl ∧ GotG 3 Yi bl ∧ bl.map GngA.val = (al.take j).map GngA.val) (fun ⟨j, Yo, po, co, bl, Yi⟩ => m - j) (0, [], none, 0, [], []) (by kernel_rfl) rfl ⟨Nat.zero_le _, SlO.nil, GotG.nil, rfl⟩ ?_)))))))))))))
 rintro ⟨j, Yo, po, co, bl, Yi⟩
 rintro ⟨hj, hO, hG, hB⟩
 have hlb := hO.len
 refine sq_ ?_
 by_cases q5 : ((j : Nat) : Int) < ((m : Nat) : Int)
 ·
  refine qa [(0, .yes)] [2, 3, 7, 8, 9] [(10, .bool true)] ([((j : Nat) : Int) < ((m : Nat) : Int)]) (al1 q5) (ds_ (sq_ (t_ (at_skip (ds_ (sq_ (at_block (sq_ ?_))))))))
  obtain ⟨b8, o8, rfl⟩ := hal.pos (i := j) (by omega)
  obtain ⟨x10, hx10⟩ := get_some (l := al) (m := j) (by omega)
  have hsx10 : Sv w x10.p x10.l := (hnm x10 (List.mem_of_getElem? hx10)).sv
  have hnx10 : x10.n = x10.l.length := (hnm x10 (List.mem_of_getElem? hx10)).hn
  have hm9x10 := hm9 x10 (List.mem_of_getElem? hx10)
  refine ma [(0, .at b8 o8 j), (1, .go (outs b8 (o8 + j * 2) [.int .i64 x10.id, .slice x10.p x10.n x10.cap])), (3, .go (owns 0 0 2))] [2, 3, 7, 8, 9] (fun γ11 => [(5, .pointer (some ⟨γ11 0, 0, none⟩))]) (fun γ11 L => bx (γ11 0) (#[.int .i64 x10.id, .slice x10.p x10.n x10.cap]) 46 :: L) (fun γ11 => [(some ⟨b8, o8, none⟩ : Option Addr) = some ⟨b8, o8, none⟩, (j : Nat) = ((j : Nat) : Int), j < m] ++ (cellsP w b8 (o8 + j * 2) [.int .i64 x10.id, .slice x10.p x10.n x10.cap])) (fun γ11 => (alA (al2 rfl (al2 rfl (al1 (by omega)))) (rd_pre (hal.get hx10) _ rfl))) (fun γ11 => ds_ ?_)
  refine at_any (by kernel_rfl) ?_
  refine tk (m := 10) [0, 2, 5] [] [2, 3, 7, 8, 9] [(13, .pointer (some ⟨γ2 0, 0, none⟩)), (15, .pointer (some ⟨γ11 0, 0, none⟩)), (18, .pointer (some ⟨γ11 0, 1, none⟩))] ([]) #[true, false, true, false, false, true, false, false, false, false, false, false, false] al0 ?_
  refine any_cutX (V := (List Ob) × (List Ob) × (Nat) × (Nat) × (Option Addr) × (Option Addr) × (Nat → Nat) × (Nat → Nat)) (fun ⟨Y155, Y215, cap155, cap215, p155, p215, γ195, γ95⟩ => SlO 3 Y155 p155 (0 + x10.n) cap155 ([] ++ x10.l) ∧ SlO 46 Y215 p215 (j + 1) cap215 (bl ++ [(⟨x10.id, p155, (0 + x10.n), cap155, ([] ++ x10.l)⟩ : GngA)])) 0 #[true, true, true, true, true, true, true, true, true, true, true, true, true] (fun ⟨Y155, Y215, cap155, cap215, p155, p215, γ195, γ95⟩ => [(2, .pointer (some ⟨γ1 1, 0, none⟩)), (3, .pointer (some ⟨γ2 0, 0, none⟩)), (7, .slice (some ⟨b8, o8, none⟩) m capq), (8, .int .i64 (m : Nat)), (9, .int .i64 (j : Nat))]) (fun ⟨Y155, Y215, cap155, cap215, p155, p215, γ195, γ95⟩ => bx (γ195 0) (#[.int .i64 x10.id, .slice p155 (0 + x10.n) cap155]) 46 :: bx (γ11 0) (#[.int .i64 x10.id, .slice x10.p x10.n x10.cap]) 46 :: bx (γ2 0) (#[.slice p215 (j + 1) cap215]) 38 :: bx (γ1 1) (#[.slice none 0 0]) 38 :: (Y155 ++ (Y215 ++ (Yi ++ [])))) ?_ (fun hmx23 => ?_)
  rotate_left
  ·
   refine any_cutX (V := (List Ob) × (List Ob) × (Nat) × (Nat) × (Option Addr) × (Option Addr) × (Nat → Nat) × (Nat → Nat)) (fun ⟨Y155, Y215, cap155, cap215, p155, p215, γ195, γ95⟩ => SlO 3 Y155 p155 (0 + x10.n) cap155 ([] ++ x10.l) ∧ SlO 46 Y215 p215 (j + 1) cap215 (bl ++ [(⟨x10.id, p155, (0 + x10.n), cap155, ([] ++ x10.l)⟩ : GngA)])) 1 #[true, true, true, true, true, true, true, true, true, true, true, true, false] (fun ⟨Y155, Y215, cap155, cap215, p155, p215, γ195, γ95⟩ => [(2, .pointer (some ⟨γ1 1, 0, none⟩)), (3, .pointer (some ⟨γ2 0, 0, none⟩)), (7, .slice (some ⟨b8, o8, none⟩) m capq), (8, .int .i64 (m : Nat)), (9, .int .i64 (j : Nat)), (23, .slice p215 (j + 1) cap215), (24, .pointer (some ⟨γ2 0, 0, none⟩))]) (fun ⟨Y155, Y215, cap155, cap215, p155, p215, γ195, γ95⟩ => bx (γ195 0) (#[.int .i64 x10.id, .slice p155 (0 + x10.n) cap155]) 46 :: bx (γ11 0) (#[.int .i64 x10.id, .slice x10.p x10.n x10.cap]) 46 :: bx (γ2 0) (#[.slice po j co]) 38 :: bx (γ1 1) (#[.slice none 0 0]) 38 :: (Y155 ++ (Y215 ++ (Yi ++ [])))) ?_ (fun hmx22 => ?_)
   ·
    rintro ⟨Y155, Y215, cap155, cap215, p155, p215, γ195, γ95⟩ ⟨hO155, hO215⟩
    refine a1 12 rfl ?_
    refine mo0 1 [(12, .go (owns 2 0 1))] [2, 3, 7, 8, 9] (fun _ => []) (fun _ L => (L.set 2 (bx (γ2 0) (#[.slice p215 (j + 1) cap215]) 38))) (fun _ => ?_)
    refine od_ ?_
    exact wk (hmx23 (Y155, Y215, cap155, cap215, p155, p215, γ195, γ95) ⟨hO155, hO215⟩) [2, 3, 7, 8, 9] [[_], [_], [_], [_], _, _, _] [0, 1, 2, 3, 4, 5, 6] rfl rfl
   refine any_cutX (V := (List Ob) × (Nat) × (Option Addr) × (Nat → Nat) × (Nat → Nat)) (fun ⟨Y155, cap155, p155, γ195, γ95⟩ => SlO 3 Y155 p155 (0 + x10.n) cap155 ([] ++ x10.l)) 3 #[true, true, true, true, true, true, true, true, true, true, false, false, false] (fun ⟨Y155, cap155, p155, γ195, γ95⟩ => [(2, .pointer (some ⟨γ1 1, 0, none⟩)), (3, .pointer (some ⟨γ2 0, 0, none⟩)), (7, .slice (some ⟨b8, o8, none⟩) m capq), (8, .int .i64 (m : Nat)), (9, .int .i64 (j : Nat)), (14, .slice po j co), (22, .slice (some ⟨γ195 0, 0, none⟩) 1 1)]) (fun ⟨Y155, cap155, p155, γ195, γ95⟩ => bx (γ195 0) (#[.int .i64 x10.id, .slice p155 (0 + x10.n) cap155]) 46 :: bx (γ11 0) (#[.int .i64 x10.id, .slice x10.p x10.n x10.cap]) 46 :: bx (γ2 0) (#[.slice po j co]) 38 :: bx (γ1 1) (#[.slice none 0 0]) 38 :: (Y155 ++ (Yo ++ (Yi ++ [])))) ?_ (fun hmx21 => ?_)
   ·
    rintro ⟨Y155, cap155, p155, γ195, γ95⟩ hO155
    refine a1 10 rfl ?_
    refine Ops.pick [[bx (γ195 0) (#[.int .i64 x10.id, .slice p155 (0 + x10.n) cap155]) 46], [bx (γ11 0) (#[.int .i64 x10.id, .slice x10.p x10.n x10.cap]) 46], [bx (γ2 0) (#[.slice po j co]) 38], [bx (γ1 1) (#[.slice none 0 0]) 38], Y155, Yo, Yi] [0, 1, 2, 3, 5, 4, 6] [] (bx (γ195 0) (#[.int .i64 x10.id, .slice p155 (0 + x10.n) cap155]) 46 :: bx (γ11 0) (#[.int .i64 x10.id, .slice x10.p x10.n x10.cap]) 46 :: bx (γ2 0) (#[.slice po j co]) 38 :: bx (γ1 1) (#[.slice none 0 0]) 38 :: (Yo ++ (Y155 ++ (Yi ++ [])))) (by kernel_rfl) rfl rfl (ops_append (α := GngA) [bx (γ195 0) (#[.int .i64 x10.id, .slice p155 (0 + x10.n) cap155]) 46, bx (γ11 0) (#[.int .i64 x10.id, .slice x10.p x10.n x10.cap]) 46, bx (γ2 0) (#[.slice po j co]) 38, bx (γ1 1) (#[.slice none 0 0]) 38] Yo (Y155 ++ (Yi ++ [])) (.refl _) rfl (by kernel_rfl) (by kernel_rfl) (p := po) (n := j) (cap := co) (m := 1) (yv := .slice (some ⟨γ195 0, 0, none⟩) 1 1) (by kernel_rfl) (by kernel_rfl) (T := 46) (by_ := 32) (by kernel_rfl) bl ([(⟨x10.id, p155, (0 + x10.n), cap155, ([] ++ x10.l)⟩ : GngA)]) hO (fun w hw => src_svn Try.underlying36 (sv_row (hw.row 0 rfl) (by rfl)) (by rfl)) (by rfl) (by have hmx : maxLen = 9223372036854775807 := rfl; omega) (by have hmx : maxLen = 9223372036854775807 := rfl; omega) (fun Y215 p215 cap215 hO215 => ?_))
    refine od_ ?_
    refine tk (m := 1) [11] [] [2, 3, 7, 8, 9, 23] [(24, .pointer (some ⟨γ2 0, 0, none⟩))] ([]) #[true, true, true, true, true, true, true, true, true, true, true, true, false] al0 ?_
    exact wk (hmx22 (Y155, Y215, cap155, cap215, p155, p215, γ195, γ95) ⟨hO155, hO215⟩) [2, 3, 7, 8, 9, 23, 24] [[_], [_], [_], [_], _, _, _] [0, 1, 2, 3, 5, 4, 6] rfl rfl
   refine any_cutX (V := (List Ob) × (Nat) × (Option Addr) × (Nat → Nat) × (Nat → Nat)) (fun ⟨Y155, cap155, p155, γ195, γ95⟩ => SlO 3 Y155 p155 (0 + x10.n) cap155 ([] ++ x10.l)) 4 #[true, false, true, true, true, true, true, true, true, true, false, false, false] (fun ⟨Y155, cap155, p155, γ195, γ95⟩ => [(2, .pointer (some ⟨γ1 1, 0, none⟩)), (3, .pointer (some ⟨γ2 0, 0, none⟩)), (7, .slice (some ⟨b8, o8, none⟩) m capq), (8, .int .i64 (m : Nat)), (9, .int .i64 (j : Nat)), (13, .pointer (some ⟨γ2 0, 0, none⟩)), (22, .slice (some ⟨γ195 0, 0, none⟩) 1 1)]) (fun ⟨Y155, cap155, p155, γ195, γ95⟩ => bx (γ195 0) (#[.int .i64 x10.id, .slice p155 (0 + x10.n) cap155]) 46 :: bx (γ11 0) (#[.int .i64 x10.id, .slice x10.p x10.n x10.cap]) 46 :: bx (γ2 0) (#[.slice po j co]) 38 :: bx (γ1 1) (#[.slice none 0 0]) 38 :: (Y155 ++ (Yo ++ (Yi ++ [])))) ?_ (fun hmx20 => ?_)
   ·
    rintro ⟨Y155, cap155, p155, γ195, γ95⟩ hO155
    refine a1 1 rfl ?_
    refine qo0 1 [(1, .go (owns 2 0 1))] [2, 3, 7, 8, 9, 22] [(14, .slice po j co)] ?_
    refine od_ ?_
    exact wk (hmx21 (Y155, cap155, p155, γ195, γ95) hO155) [2, 3, 7, 8, 9, 14, 22] [[_], [_], [_], [_], _, _, _] [0, 1, 2, 3, 4, 5, 6] rfl rfl
   refine any_cutX (V := (List Ob) × (Nat) × (Option Addr) × (Nat → Nat)) (fun ⟨Y155, cap155, p155, γ95⟩ => SlO 3 Y155 p155 (0 + x10.n) cap155 ([] ++ x10.l)) 4 #[true, true, true, true, true, true, true, true, true, false, false, false, false] (fun ⟨Y155, cap155, p155, γ95⟩ => [(2, .pointer (some ⟨γ1 1, 0, none⟩)), (3, .pointer (some ⟨γ2 0, 0, none⟩)), (7, .slice (some ⟨b8, o8, none⟩) m capq), (8, .int .i64 (m : Nat)), (9, .int .i64 (j : Nat)), (14, .slice po j co), (21, .agg #[.int .i64 x10.id, .slice p155 (0 + x10.n) cap155])]) (fun ⟨Y155, cap155, p155, γ95⟩ => bx (γ11 0) (#[.int .i64 x10.id, .slice x10.p x10.n x10.cap]) 46 :: bx (γ2 0) (#[.slice po j co]) 38 :: bx (γ1 1) (#[.slice none 0 0]) 38 :: (Y155 ++ (Yo ++ (Yi ++ [])))) ?_ (fun hmx19 => ?_)
   ·
    rintro ⟨Y155, cap155, p155, γ95⟩ hO155
    refine a1 9 rfl ?_
    refine mo0 1 [] [2, 3, 7, 8, 9, 14] (fun γ195 => [(22, .slice (some ⟨γ195 0, 0, none⟩) 1 1)]) (fun γ195 L => bx (γ195 0) (#[.int .i64 x10.id, .slice p155 (0 + x10.n) cap155]) 46 :: L) (fun γ195 => ?_)
    refine od_ ?_
    exact wk (hmx21 (Y155, cap155, p155, γ195, γ95) hO155) [2, 3, 7, 8, 9, 14, 22] [[_], [_], [_], [_], _, _, _] [0, 1, 2, 3, 4, 5, 6] rfl rfl
   refine any_cutX (V := (List Ob) × (Nat) × (Option Addr) × (Nat → Nat)) (fun ⟨Y155, cap155, p155, γ95⟩ => SlO 3 Y155 p155 (0 + x10.n) cap155 ([] ++ x10.l)) 5 #[true, false, true, true, true, true, true, true, true, false, false, false, false] (fun ⟨Y155, cap155, p155, γ95⟩ => [(2, .pointer (some ⟨γ1 1, 0, none⟩)), (3, .pointer (some ⟨γ2 0, 0, none⟩)), (7, .slice (some ⟨b8, o8, none⟩) m capq), (8, .int .i64 (m : Nat)), (9, .int .i64 (j : Nat)), (13, .pointer (some ⟨γ2 0, 0, none⟩)), (21, .agg #[.int .i64 x10.id, .slice p155 (0 + x10.n) cap155])]) (fun ⟨Y155, cap155, p155, γ95⟩ => bx (γ11 0) (#[.int .i64 x10.id, .slice x10.p x10.n x10.cap]) 46 :: bx (γ2 0) (#[.slice po j co]) 38 :: bx (γ1 1) (#[.slice none 0 0]) 38 :: (Y155 ++ (Yo ++ (Yi ++ [])))) ?_ (fun hmx18 => ?_)
   ·
    rintro ⟨Y155, cap155, p155, γ95⟩ hO155
    refine any_fork [1, 9] (by kernel_rfl) (by simp) (each_cons _ rfl ?_ (each_cons _ rfl ?_ (each_nil)))
    ·
     refine qo0 1 [(1, .go (owns 1 0 1))] [2, 3, 7, 8, 9, 21] [(14, .slice po j co)] ?_
     refine od_ ?_
     exact wk (hmx19 (Y155, cap155, p155, γ95) hO155) [2, 3, 7, 8, 9, 14, 21] [[_], [_], [_], _, _, _] [0, 1, 2, 3, 4, 5] rfl rfl
    ·
     refine mo0 1 [] [2, 3, 7, 8, 9, 13] (fun γ195 => [(22, .slice (some ⟨γ195 0, 0, none⟩) 1 1)]) (fun γ195 L => bx (γ195 0) (#[.int .i64 x10.id, .slice p155 (0 + x10.n) cap155]) 46 :: L) (fun γ195 => ?_)
     refine od_ ?_
     exact wk (hmx20 (Y155, cap155, p155, γ195, γ95) hO155) [2, 3, 7, 8, 9, 13, 22] [[_], [_], [_], [_], _, _, _] [0, 1, 2, 3, 4, 5, 6] rfl rfl
   refine any_cutX (V := (List Ob) × (Nat) × (Option Addr) × (Nat → Nat)) (fun ⟨Y155, cap155, p155, γ95⟩ => SlO 3 Y155 p155 (0 + x10.n) cap155 ([] ++ x10.l)) 6 #[true, true, true, false, true, true, true, true, false, false, false, false, false] (fun ⟨Y155, cap155, p155, γ95⟩ => [(2, .pointer (some ⟨γ1 1, 0, none⟩)), (3, .pointer (some ⟨γ2 0, 0, none⟩)), (7, .slice (some ⟨b8, o8, none⟩) m capq), (8, .int .i64 (m : Nat)), (9, .int .i64 (j : Nat)), (14, .slice po j co), (15, .pointer (some ⟨γ11 0, 0, none⟩)), (20, .slice p155 (0 + x10.n) cap155)]) (fun ⟨Y155, cap155, p155, γ95⟩ => bx (γ11 0) (#[.int .i64 x10.id, .slice x10.p x10.n x10.cap]) 46 :: bx (γ2 0) (#[.slice po j co]) 38 :: bx (γ1 1) (#[.slice none 0 0]) 38 :: (Y155 ++ (Yo ++ (Yi ++ [])))) ?_ (fun hmx17 => ?_)
   ·
    rintro ⟨Y155, cap155, p155, γ95⟩ hO155
    refine a1 3 rfl ?_
    refine qo0 1 [(3, .go (owns 0 0 1))] [2, 3, 7, 8, 9, 14, 20] [(16, .int .i64 x10.id)] ?_
    refine od_ ?_
    refine tk (m := 4) [8] [] [2, 3, 7, 8, 9, 14] [(21, .agg #[.int .i64 x10.id, .slice p155 (0 + x10.n) cap155])] ([]) #[true, true, true, true, true, true, true, true, true, false, false, false, false] al0 ?_
    exact wk (hmx19 (Y155, cap155, p155, γ95) hO155) [2, 3, 7, 8, 9, 14, 21] [[_], [_], [_], _, _, _] [0, 1, 2, 3, 4, 5] rfl rfl
   refine any_cutX (V := (Nat → Nat)) (fun γ95 => True) 6 #[true, true, true, true, true, true, true, false, false, false, false, false, false] (fun γ95 => [(2, .pointer (some ⟨γ1 1, 0, none⟩)), (3, .pointer (some ⟨γ2 0, 0, none⟩)), (7, .slice (some ⟨b8, o8, none⟩) m capq), (8, .int .i64 (m : Nat)), (9, .int .i64 (j : Nat)), (14, .slice po j co), (16, .int .i64 x10.id), (17, .slice (some ⟨γ95 0, 0, none⟩) 0 0), (19, .slice x10.p x10.n x10.cap)]) (fun γ95 => bx (γ95 0) (#[]) 3 :: bx (γ11 0) (#[.int .i64 x10.id, .slice x10.p x10.n x10.cap]) 46 :: bx (γ2 0) (#[.slice po j co]) 38 :: bx (γ1 1) (#[.slice none 0 0]) 38 :: (Yo ++ (Yi ++ []))) ?_ (fun hmx16 => ?_)
   ·
    rintro γ95 _
    refine a1 7 rfl ?_
    refine ops_append (α := Int) [bx (γ11 0) (#[.int .i64 x10.id, .slice x10.p x10.n x10.cap]) 46, bx (γ2 0) (#[.slice po j co]) 38, bx (γ1 1) (#[.slice none 0 0]) 38] ([bx (γ95 0) (#[]) 3]) (Yo ++ (Yi ++ [])) (mvE rfl) rfl (by kernel_rfl) (by kernel_rfl) (p := (some ⟨γ95 0, 0, none⟩)) (n := 0) (cap := 0) (m := x10.n) (yv := .slice x10.p x10.n x10.cap) (by kernel_rfl) (by kernel_rfl) (T := 3) (by_ := 8) (by kernel_rfl) ([]) x10.l (SlO.lit (by rfl) (by rfl) (by simp [maxLen])) (fun w hw => src_svn Try.underlying25 (hsx10.kept hw.below) hnx10) hnx10 (by have hmx : maxLen = 9223372036854775807 := rfl; omega) (by have hmx : maxLen = 9223372036854775807 := rfl; omega) (fun Y155 p155 cap155 hO155 => ?_)
    refine od_ ?_
    refine tk (m := 4) [8] [] [2, 3, 7, 8, 9, 14] [(21, .agg #[.int .i64 x10.id, .slice p155 (0 + x10.n) cap155])] ([]) #[true, true, true, true, true, true, true, true, true, false, false, false, false] al0 ?_
    exact wk (hmx19 (Y155, cap155, p155, γ95) hO155) [2, 3, 7, 8, 9, 14, 21] [[_], [_], [_], _, _, _] [0, 1, 2, 3, 4, 5] rfl rfl
   refine any_cutX (V := (List Ob) × (Nat) × (Option Addr) × (Nat → Nat)) (fun ⟨Y155, cap155, p155, γ95⟩ => SlO 3 Y155 p155 (0 + x10.n) cap155 ([] ++ x10.l)) 7 #[true, false, true, false, true, true, true, true, false, false, false, false, false] (fun ⟨Y155, cap155, p155, γ95⟩ => [(2, .pointer (some ⟨γ1 1, 0, none⟩)), (3, .pointer (some ⟨γ2 0, 0, none⟩)), (7, .slice (some ⟨b8, o8, none⟩) m capq), (8, .int .i64 (m : Nat)), (9, .int .i64 (j : Nat)), (13, .pointer (some ⟨γ2 0, 0, none⟩)), (15, .pointer (some ⟨γ11 0, 0, none⟩)), (20, .slice p155 (0 + x10.n) cap155)]) (fun ⟨Y155, cap155, p155, γ95⟩ => bx (γ11 0) (#[.int .i64 x10.id, .slice x10.p x10.n x10.cap]) 46 :: bx (γ2 0) (#[.slice po j co]) 38 :: bx (γ1 1) (#[.slice none 0 0]) 38 :: (Y155 ++ (Yo ++ (Yi ++ [])))) ?_ (fun hmx15 => ?_)
   ·
    rintro ⟨Y155, cap155, p155, γ95⟩ hO155
    refine any_fork [1, 3] (by kernel_rfl) (by simp) (each_cons _ rfl ?_ (each_cons _ rfl ?_ (each_nil)))
    ·
     refine qo0 1 [(1, .go (owns 1 0 1))] [2, 3, 7, 8, 9, 15, 20] [(14, .slice po j co)] ?_
     refine od_ ?_
     exact wk (hmx17 (Y155, cap155, p155, γ95) hO155) [2, 3, 7, 8, 9, 14, 15, 20] [[_], [_], [_], _, _, _] [0, 1, 2, 3, 4, 5] rfl rfl
    ·
     refine qo0 1 [(3, .go (owns 0 0 1))] [2, 3, 7, 8, 9, 13, 20] [(16, .int .i64 x10.id)] ?_
     refine od_ ?_
     refine tk (m := 5) [8] [] [2, 3, 7, 8, 9, 13] [(21, .agg #[.int .i64 x10.id, .slice p155 (0 + x10.n) cap155])] ([]) #[true, false, true, true, true, true, true, true, true, false, false, false, false] al0 ?_
     exact wk (hmx18 (Y155, cap155, p155, γ95) hO155) [2, 3, 7, 8, 9, 13, 21] [[_], [_], [_], _, _, _] [0, 1, 2, 3, 4, 5] rfl rfl
   refine any_cutX (V := (Nat → Nat)) (fun γ95 => True) 7 #[true, false, true, true, true, true, true, false, false, false, false, false, false] (fun γ95 => [(2, .pointer (some ⟨γ1 1, 0, none⟩)), (3, .pointer (some ⟨γ2 0, 0, none⟩)), (7, .slice (some ⟨b8, o8, none⟩) m capq), (8, .int .i64 (m : Nat)), (9, .int .i64 (j : Nat)), (13, .pointer (some ⟨γ2 0, 0, none⟩)), (16, .int .i64 x10.id), (17, .slice (some ⟨γ95 0, 0, none⟩) 0 0), (19, .slice x10.p x10.n x10.cap)]) (fun γ95 => bx (γ95 0) (#[]) 3 :: bx (γ11 0) (#[.int .i64 x10.id, .slice x10.p x10.n x10.cap]) 46 :: bx (γ2 0) (#[.slice po j co]) 38 :: bx (γ1 1) (#[.slice none 0 0]) 38 :: (Yo ++ (Yi ++ []))) ?_ (fun hmx14 => ?_)
   ·
    rintro γ95 _
    refine any_fork [1, 7] (by kernel_rfl) (by simp) (each_cons _ rfl ?_ (each_cons _ rfl ?_ (each_nil)))
    ·
     refine qo0 1 [(1, .go (owns 2 0 1))] [2, 3, 7, 8, 9, 16, 17, 19] [(14, .slice po j co)] ?_
     refine od_ ?_
     exact wk (hmx16 γ95 trivial) [2, 3, 7, 8, 9, 14, 16, 17, 19] [[_], [_], [_], [_], _, _] [0, 1, 2, 3, 4, 5] rfl rfl
    ·
     refine ops_append (α := Int) [bx (γ11 0) (#[.int .i64 x10.id, .slice x10.p x10.n x10.cap]) 46, bx (γ2 0) (#[.slice po j co]) 38, bx (γ1 1) (#[.slice none 0 0]) 38] ([bx (γ95 0) (#[]) 3]) (Yo ++ (Yi ++ [])) (mvE rfl) rfl (by kernel_rfl) (by kernel_rfl) (p := (some ⟨γ95 0, 0, none⟩)) (n := 0) (cap := 0) (m := x10.n) (yv := .slice x10.p x10.n x10.cap) (by kernel_rfl) (by kernel_rfl) (T := 3) (by_ := 8) (by kernel_rfl) ([]) x10.l (SlO.lit (by rfl) (by rfl) (by simp [maxLen])) (fun w hw => src_svn Try.underlying25 (hsx10.kept hw.below) hnx10) hnx10 (by have hmx : maxLen = 9223372036854775807 := rfl; omega) (by have hmx : maxLen = 9223372036854775807 := rfl; omega) (fun Y155 p155 cap155 hO155 => ?_)
     refine od_ ?_
     refine tk (m := 5) [8] [] [2, 3, 7, 8, 9, 13] [(21, .agg #[.int .i64 x10.id, .slice p155 (0 + x10.n) cap155])] ([]) #[true, false, true, true, true, true, true, true, true, false, false, false, false] al0 ?_
     exact wk (hmx18 (Y155, cap155, p155, γ95) hO155) [2, 3, 7, 8, 9, 13, 21] [[_], [_], [_], _, _, _] [0, 1, 2, 3, 4, 5] rfl rfl
   refine any_cutX (V := (Nat → Nat)) (fun γ95 => True) 7 #[true, true, true, false, true, true, true, false, false, false, false, false, false] (fun γ95 => [(2, .pointer (some ⟨γ1 1, 0, none⟩)), (3, .pointer (some ⟨γ2 0, 0, none⟩)), (7, .slice (some ⟨b8, o8, none⟩) m capq), (8, .int .i64 (m : Nat)), (9, .int .i64 (j : Nat)), (14, .slice po j co), (15, .pointer (some ⟨γ11 0, 0, none⟩)), (17, .slice (some ⟨γ95 0, 0, none⟩) 0 0), (19, .slice x10.p x10.n x10.cap)]) (fun γ95 => bx (γ95 0) (#[]) 3 :: bx (γ11 0) (#[.int .i64 x10.id, .slice x10.p x10.n x10.cap]) 46 :: bx (γ2 0) (#[.slice po j co]) 38 :: bx (γ1 1) (#[.slice none 0 0]) 38 :: (Yo ++ (Yi ++ []))) ?_ (fun hmx13 => ?_)
   ·
    rintro γ95 _
    refine any_fork [3, 7] (by kernel_rfl) (by simp) (each_cons _ rfl ?_ (each_cons _ rfl ?_ (each_nil)))
    ·
     refine qo0 1 [(3, .go (owns 1 0 1))] [2, 3, 7, 8, 9, 14, 17, 19] [(16, .int .i64 x10.id)] ?_
     refine od_ ?_
     exact wk (hmx16 γ95 trivial) [2, 3, 7, 8, 9, 14, 16, 17, 19] [[_], [_], [_], [_], _, _] [0, 1, 2, 3, 4, 5] rfl rfl
    ·
     refine ops_append (α := Int) [bx (γ11 0) (#[.int .i64 x10.id, .slice x10.p x10.n x10.cap]) 46, bx (γ2 0) (#[.slice po j co]) 38, bx (γ1 1) (#[.slice none 0 0]) 38] ([bx (γ95 0) (#[]) 3]) (Yo ++ (Yi ++ [])) (mvE rfl) rfl (by kernel_rfl) (by kernel_rfl) (p := (some ⟨γ95 0, 0, none⟩)) (n := 0) (cap := 0) (m := x10.n) (yv := .slice x10.p x10.n x10.cap) (by kernel_rfl) (by kernel_rfl) (T := 3) (by_ := 8) (by kernel_rfl) ([]) x10.l (SlO.lit (by rfl) (by rfl) (by simp [maxLen])) (fun w hw => src_svn Try.underlying25 (hsx10.kept hw.below) hnx10) hnx10 (by have hmx : maxLen = 9223372036854775807 := rfl; omega) (by have hmx : maxLen = 9223372036854775807 := rfl; omega) (fun Y155 p155 cap155 hO155 => ?_)
     refine od_ ?_
     exact wk (hmx17 (Y155, cap155, p155, γ95) hO155) [2, 3, 7, 8, 9, 14, 15, 20] [[_], [_], [_], _, _, _] [0, 1, 2, 3, 4, 5] rfl rfl
   refine any_cutX (V := Unit) (fun _ => True) 7 #[true, true, true, true, false, true, true, false, false, false, false, false, false] (fun _ => [(2, .pointer (some ⟨γ1 1, 0, none⟩)), (3, .pointer (some ⟨γ2 0, 0, none⟩)), (7, .slice (some ⟨b8, o8, none⟩) m capq), (8, .int .i64 (m : Nat)), (9, .int .i64 (j : Nat)), (14, .slice po j co), (16, .int .i64 x10.id), (19, .slice x10.p x10.n x10.cap)]) (fun _ => bx (γ11 0) (#[.int .i64 x10.id, .slice x10.p x10.n x10.cap]) 46 :: bx (γ2 0) (#[.slice po j co]) 38 :: bx (γ1 1) (#[.slice none 0 0]) 38 :: (Yo ++ (Yi ++ []))) ?_ (fun hmx12 => ?_)
   ·
    rintro _ _
    refine a1 4 rfl ?_
    refine mo0 1 [] [2, 3, 7, 8, 9, 14, 16, 19] (fun γ95 => [(17, .slice (some ⟨γ95 0, 0, none⟩) 0 0)]) (fun γ95 L => bx (γ95 0) (#[]) 3 :: L) (fun γ95 => ?_)
    refine od_ ?_
    exact wk (hmx16 γ95 trivial) [2, 3, 7, 8, 9, 14, 16, 17, 19] [[_], [_], [_], [_], _, _] [0, 1, 2, 3, 4, 5] rfl rfl
   refine any_cutX (V := (Nat → Nat)) (fun γ95 => True) 7 #[true, true, true, true, true, true, false, false, false, false, false, false, false] (fun γ95 => [(2, .pointer (some ⟨γ1 1, 0, none⟩)), (3, .pointer (some ⟨γ2 0, 0, none⟩)), (7, .slice (some ⟨b8, o8, none⟩) m capq), (8, .int .i64 (m : Nat)), (9, .int .i64 (j : Nat)), (14, .slice po j co), (16, .int .i64 x10.id), (17, .slice (some ⟨γ95 0, 0, none⟩) 0 0), (18, .pointer (some ⟨γ11 0, 1, none⟩))]) (fun γ95 => bx (γ95 0) (#[]) 3 :: bx (γ11 0) (#[.int .i64 x10.id, .slice x10.p x10.n x10.cap]) 46 :: bx (γ2 0) (#[.slice po j co]) 38 :: bx (γ1 1) (#[.slice none 0 0]) 38 :: (Yo ++ (Yi ++ []))) ?_ (fun hmx11 => ?_)
   ·
    rintro γ95 _
    refine a1 6 rfl ?_
    refine qo0 1 [(6, .go (owns 1 1 1))] [2, 3, 7, 8, 9, 14, 16, 17] [(19, .slice x10.p x10.n x10.cap)] ?_
    refine od_ ?_
    exact wk (hmx16 γ95 trivial) [2, 3, 7, 8, 9, 14, 16, 17, 19] [[_], [_], [_], [_], _, _] [0, 1, 2, 3, 4, 5] rfl rfl
   refine any_cutX (V := (Nat → Nat)) (fun γ95 => True) 8 #[true, false, true, false, true, true, true, false, false, false, false, false, false] (fun γ95 => [(2, .pointer (some ⟨γ1 1, 0, none⟩)), (3, .pointer (some ⟨γ2 0, 0, none⟩)), (7, .slice (some ⟨b8, o8, none⟩) m capq), (8, .int .i64 (m : Nat)), (9, .int .i64 (j : Nat)), (13, .pointer (some ⟨γ2 0, 0, none⟩)), (15, .pointer (some ⟨γ11 0, 0, none⟩)), (17, .slice (some ⟨γ95 0, 0, none⟩) 0 0), (19, .slice x10.p x10.n x10.cap)]) (fun γ95 => bx (γ95 0) (#[]) 3 :: bx (γ11 0) (#[.int .i64 x10.id, .slice x10.p x10.n x10.cap]) 46 :: bx (γ2 0) (#[.slice po j co]) 38 :: bx (γ1 1) (#[.slice none 0 0]) 38 :: (Yo ++ (Yi ++ []))) ?_ (fun hmx10 => ?_)
   ·
    rintro γ95 _
    refine any_fork [1, 3, 7] (by kernel_rfl) (by simp) (each_cons _ rfl ?_ (each_cons _ rfl ?_ (each_cons _ rfl ?_ (each_nil))))
    ·
     refine qo0 1 [(1, .go (owns 2 0 1))] [2, 3, 7, 8, 9, 15, 17, 19] [(14, .slice po j co)] ?_
     refine od_ ?_
     exact wk (hmx13 γ95 trivial) [2, 3, 7, 8, 9, 14, 15, 17, 19] [[_], [_], [_], [_], _, _] [0, 1, 2, 3, 4, 5] rfl rfl
    ·
     refine qo0 1 [(3, .go (owns 1 0 1))] [2, 3, 7, 8, 9, 13, 17, 19] [(16, .int .i64 x10.id)] ?_
     refine od_ ?_
     exact wk (hmx14 γ95 trivial) [2, 3, 7, 8, 9, 13, 16, 17, 19] [[_], [_], [_], [_], _, _] [0, 1, 2, 3, 4, 5] rfl rfl
    ·
     refine ops_append (α := Int) [bx (γ11 0) (#[.int .i64 x10.id, .slice x10.p x10.n x10.cap]) 46, bx (γ2 0) (#[.slice po j co]) 38, bx (γ1 1) (#[.slice none 0 0]) 38] ([bx (γ95 0) (#[]) 3]) (Yo ++ (Yi ++ [])) (mvE rfl) rfl (by kernel_rfl) (by kernel_rfl) (p := (some ⟨γ95 0, 0, none⟩)) (n := 0) (cap := 0) (m := x10.n) (yv := .slice x10.p x10.n x10.cap) (by kernel_rfl) (by kernel_rfl) (T := 3) (by_ := 8) (by kernel_rfl) ([]) x10.l (SlO.lit (by rfl) (by rfl) (by simp [maxLen])) (fun w hw => src_svn Try.underlying25 (hsx10.kept hw.below) hnx10) hnx10 (by have hmx : maxLen = 9223372036854775807 := rfl; omega) (by have hmx : maxLen = 9223372036854775807 := rfl; omega) (fun Y155 p155 cap155 hO155 => ?_)
     refine od_ ?_
     exact wk (hmx15 (Y155, cap155, p155, γ95) hO155) [2, 3, 7, 8, 9, 13, 15, 20] [[_], [_], [_], _, _, _] [0, 1, 2, 3, 4, 5] rfl rfl
   refine any_cutX (V := Unit) (fun _ => True) 8 #[true, false, true, true, false, true, true, false, false, false, false, false, false] (fun _ => [(2, .pointer (some ⟨γ1 1, 0, none⟩)), (3, .pointer (some ⟨γ2 0, 0, none⟩)), (7, .slice (some ⟨b8, o8, none⟩) m capq), (8, .int .i64 (m : Nat)), (9, .int .i64 (j : Nat)), (13, .pointer (some ⟨γ2 0, 0, none⟩)), (16, .int .i64 x10.id), (19, .slice x10.p x10.n x10.cap)]) (fun _ => bx (γ11 0) (#[.int .i64 x10.id, .slice x10.p x10.n x10.cap]) 46 :: bx (γ2 0) (#[.slice po j co]) 38 :: bx (γ1 1) (#[.slice none 0 0]) 38 :: (Yo ++ (Yi ++ []))) ?_ (fun hmx9 => ?_)
   ·
    rintro _ _
    refine any_fork [1, 4] (by kernel_rfl) (by simp) (each_cons _ rfl ?_ (each_cons _ rfl ?_ (each_nil)))
    ·
     refine qo0 1 [(1, .go (owns 1 0 1))] [2, 3, 7, 8, 9, 16, 19] [(14, .slice po j co)] ?_
     refine od_ ?_
     exact wk (hmx12 () trivial) [2, 3, 7, 8, 9, 14, 16, 19] [[_], [_], [_], _, _] [0, 1, 2, 3, 4] rfl rfl
    ·
     refine mo0 1 [] [2, 3, 7, 8, 9, 13, 16, 19] (fun γ95 => [(17, .slice (some ⟨γ95 0, 0, none⟩) 0 0)]) (fun γ95 L => bx (γ95 0) (#[]) 3 :: L) (fun γ95 => ?_)
     refine od_ ?_
     exact wk (hmx14 γ95 trivial) [2, 3, 7, 8, 9, 13, 16, 17, 19] [[_], [_], [_], [_], _, _] [0, 1, 2, 3, 4, 5] rfl rfl
   refine any_cutX (V := (Nat → Nat)) (fun γ95 => True) 8 #[true, false, true, true, true, true, false, false, false, false, false, false, false] (fun γ95 => [(2, .pointer (some ⟨γ1 1, 0, none⟩)), (3, .pointer (some ⟨γ2 0, 0, none⟩)), (7, .slice (some ⟨b8, o8, none⟩) m capq), (8, .int .i64 (m : Nat)), (9, .int .i64 (j : Nat)), (13, .pointer (some ⟨γ2 0, 0, none⟩)), (16, .int .i64 x10.id), (17, .slice (some ⟨γ95 0, 0, none⟩) 0 0), (18, .pointer (some ⟨γ11 0, 1, none⟩))]) (fun γ95 => bx (γ95 0) (#[]) 3 :: bx (γ11 0) (#[.int .i64 x10.id, .slice x10.p x10.n x10.cap]) 46 :: bx (γ2 0) (#[.slice po j co]) 38 :: bx (γ1 1) (#[.slice none 0 0]) 38 :: (Yo ++ (Yi ++ []))) ?_ (fun hmx8 => ?_)
   ·
    rintro γ95 _
    refine any_fork [1, 6] (by kernel_rfl) (by simp) (each_cons _ rfl ?_ (each_cons _ rfl ?_ (each_nil)))
    ·
     refine qo0 1 [(1, .go (owns 2 0 1))] [2, 3, 7, 8, 9, 16, 17, 18] [(14, .slice po j co)] ?_
     refine od_ ?_
     exact wk (hmx11 γ95 trivial) [2, 3, 7, 8, 9, 14, 16, 17, 18] [[_], [_], [_], [_], _, _] [0, 1, 2, 3, 4, 5] rfl rfl
    ·
     refine qo0 1 [(6, .go (owns 1 1 1))] [2, 3, 7, 8, 9, 13, 16, 17] [(19, .slice x10.p x10.n x10.cap)] ?_
     refine od_ ?_
     exact wk (hmx14 γ95 trivial) [2, 3, 7, 8, 9, 13, 16, 17, 19] [[_], [_], [_], [_], _, _] [0, 1, 2, 3, 4, 5] rfl rfl
   refine any_cutX (V := Unit) (fun _ => True) 8 #[true, true, true, false, false, true, true, false, false, false, false, false, false] (fun _ => [(2, .pointer (some ⟨γ1 1, 0, none⟩)), (3, .pointer (some ⟨γ2 0, 0, none⟩)), (7, .slice (some ⟨b8, o8, none⟩) m capq), (8, .int .i64 (m : Nat)), (9, .int .i64 (j : Nat)), (14, .slice po j co), (15, .pointer (some ⟨γ11 0, 0, none⟩)), (19, .slice x10.p x10.n x10.cap)]) (fun _ => bx (γ11 0) (#[.int .i64 x10.id, .slice x10.p x10.n x10.cap]) 46 :: bx (γ2 0) (#[.slice po j co]) 38 :: bx (γ1 1) (#[.slice none 0 0]) 38 :: (Yo ++ (Yi ++ []))) ?_ (fun hmx7 => ?_)
   ·
    rintro _ _
    refine any_fork [3, 4] (by kernel_rfl) (by simp) (each_cons _ rfl ?_ (each_cons _ rfl ?_ (each_nil)))
    ·
     refine qo0 1 [(3, .go (owns 0 0 1))] [2, 3, 7, 8, 9, 14, 19] [(16, .int .i64 x10.id)] ?_
     refine od_ ?_
     exact wk (hmx12 () trivial) [2, 3, 7, 8, 9, 14, 16, 19] [[_], [_], [_], _, _] [0, 1, 2, 3, 4] rfl rfl
    ·
     refine mo0 1 [] [2, 3, 7, 8, 9, 14, 15, 19] (fun γ95 => [(17, .slice (some ⟨γ95 0, 0, none⟩) 0 0)]) (fun γ95 L => bx (γ95 0) (#[]) 3 :: L) (fun γ95 => ?_)
     refine od_ ?_
     exact wk (hmx13 γ95 trivial) [2, 3, 7, 8, 9, 14, 15, 17, 19] [[_], [_], [_], [_], _, _] [0, 1, 2, 3, 4, 5] rfl rfl
   refine any_cutX (V := (Nat → Nat)) (fun γ95 => True) 8 #[true, true, true, false, true, true, false, false, false, false, false, false, false] (fun γ95 => [(2, .pointer (some ⟨γ1 1, 0, none⟩)), (3, .pointer (some ⟨γ2 0, 0, none⟩)), (7, .slice (some ⟨b8, o8, none⟩) m capq), (8, .int .i64 (m : Nat)), (9, .int .i64 (j : Nat)), (14, .slice po j co), (15, .pointer (some ⟨γ11 0, 0, none⟩)), (17, .slice (some ⟨γ95 0, 0, none⟩) 0 0), (18, .pointer (some ⟨γ11 0, 1, none⟩))]) (fun γ95 => bx (γ95 0) (#[]) 3 :: bx (γ11 0) (#[.int .i64 x10.id, .slice x10.p x10.n x10.cap]) 46 :: bx (γ2 0) (#[.slice po j co]) 38 :: bx (γ1 1) (#[.slice none 0 0]) 38 :: (Yo ++ (Yi ++ []))) ?_ (fun hmx6 => ?_)
   ·
    rintro γ95 _
    refine any_fork [3, 6] (by kernel_rfl) (by simp) (each_cons _ rfl ?_ (each_cons _ rfl ?_ (each_nil)))
    ·
     refine qo0 1 [(3, .go (owns 1 0 1))] [2, 3, 7, 8, 9, 14, 17, 18] [(16, .int .i64 x10.id)] ?_
     refine od_ ?_
     exact wk (hmx11 γ95 trivial) [2, 3, 7, 8, 9, 14, 16, 17, 18] [[_], [_], [_], [_], _, _] [0, 1, 2, 3, 4, 5] rfl rfl
    ·
     refine qo0 1 [(6, .go (owns 1 1 1))] [2, 3, 7, 8, 9, 14, 15, 17] [(19, .slice x10.p x10.n x10.cap)] ?_
     refine od_ ?_
     exact wk (hmx13 γ95 trivial) [2, 3, 7, 8, 9, 14, 15, 17, 19] [[_], [_], [_], [_], _, _] [0, 1, 2, 3, 4, 5] rfl rfl
   refine any_cutX (V := Unit) (fun _ => True) 8 #[true, true, true, true, false, true, false, false, false, false, false, false, false] (fun _ => [(2, .pointer (some ⟨γ1 1, 0, none⟩)), (3, .pointer (some ⟨γ2 0, 0, none⟩)), (7, .slice (some ⟨b8, o8, none⟩) m capq), (8, .int .i64 (m : Nat)), (9, .int .i64 (j : Nat)), (14, .slice po j co), (16, .int .i64 x10.id), (18, .pointer (some ⟨γ11 0, 1, none⟩))]) (fun _ => bx (γ11 0) (#[.int .i64 x10.id, .slice x10.p x10.n x10.cap]) 46 :: bx (γ2 0) (#[.slice po j co]) 38 :: bx (γ1 1) (#[.slice none 0 0]) 38 :: (Yo ++ (Yi ++ []))) ?_ (fun hmx5 => ?_)
   ·
    rintro _ _
    refine any_fork [4, 6] (by kernel_rfl) (by simp) (each_cons _ rfl ?_ (each_cons _ rfl ?_ (each_nil)))
    ·
     refine mo0 1 [] [2, 3, 7, 8, 9, 14, 16, 18] (fun γ95 => [(17, .slice (some ⟨γ95 0, 0, none⟩) 0 0)]) (fun γ95 L => bx (γ95 0) (#[]) 3 :: L) (fun γ95 => ?_)
     refine od_ ?_
     exact wk (hmx11 γ95 trivial) [2, 3, 7, 8, 9, 14, 16, 17, 18] [[_], [_], [_], [_], _, _] [0, 1, 2, 3, 4, 5] rfl rfl
    ·
     refine qo0 1 [(6, .go (owns 0 1 1))] [2, 3, 7, 8, 9, 14, 16] [(19, .slice x10.p x10.n x10.cap)] ?_
     refine od_ ?_
     exact wk (hmx12 () trivial) [2, 3, 7, 8, 9, 14, 16, 19] [[_], [_], [_], _, _] [0, 1, 2, 3, 4] rfl rfl
   refine any_cutX (V := Unit) (fun _ => True) 9 #[true, false, true, false, false, true, true, false, false, false, false, false, false] (fun _ => [(2, .pointer (some ⟨γ1 1, 0, none⟩)), (3, .pointer (some ⟨γ2 0, 0, none⟩)), (7, .slice (some ⟨b8, o8, none⟩) m capq), (8, .int .i64 (m : Nat)), (9, .int .i64 (j : Nat)), (13, .pointer (some ⟨γ2 0, 0, none⟩)), (15, .pointer (some ⟨γ11 0, 0, none⟩)), (19, .slice x10.p x10.n x10.cap)]) (fun _ => bx (γ11 0) (#[.int .i64 x10.id, .slice x10.p x10.n x10.cap]) 46 :: bx (γ2 0) (#[.slice po j co]) 38 :: bx (γ1 1) (#[.slice none 0 0]) 38 :: (Yo ++ (Yi ++ []))) ?_ (fun hmx4 => ?_)
   ·
    rintro _ _
    refine any_fork [1, 3, 4] (by kernel_rfl) (by simp) (each_cons _ rfl ?_ (each_cons _ rfl ?_ (each_cons _ rfl ?_ (each_nil))))
    ·
     refine qo0 1 [(1, .go (owns 1 0 1))] [2, 3, 7, 8, 9, 15, 19] [(14, .slice po j co)] ?_
     refine od_ ?_
     exact wk (hmx7 () trivial) [2, 3, 7, 8, 9, 14, 15, 19] [[_], [_], [_], _, _] [0, 1, 2, 3, 4] rfl rfl
    ·
     refine qo0 1 [(3, .go (owns 0 0 1))] [2, 3, 7, 8, 9, 13, 19] [(16, .int .i64 x10.id)] ?_
     refine od_ ?_
     exact wk (hmx9 () trivial) [2, 3, 7, 8, 9, 13, 16, 19] [[_], [_], [_], _, _] [0, 1, 2, 3, 4] rfl rfl
    ·
     refine mo0 1 [] [2, 3, 7, 8, 9, 13, 15, 19] (fun γ95 => [(17, .slice (some ⟨γ95 0, 0, none⟩) 0 0)]) (fun γ95 L => bx (γ95 0) (#[]) 3 :: L) (fun γ95 => ?_)
     refine od_ ?_
     exact wk (hmx10 γ95 trivial) [2, 3, 7, 8, 9, 13, 15, 17, 19] [[_], [_], [_], [_], _, _] [0, 1, 2, 3, 4, 5] rfl rfl
   refine any_cutX (V := (Nat → Nat)) (fun γ95 => True) 9 #[true, false, true, false, true, true, false, false, false, false, false, false, false] (fun γ95 => [(2, .pointer (some ⟨γ1 1, 0, none⟩)), (3, .pointer (some ⟨γ2 0, 0, none⟩)), (7, .slice (some ⟨b8, o8, none⟩) m capq), (8, .int .i64 (m : Nat)), (9, .int .i64 (j : Nat)), (13, .pointer (some ⟨γ2 0, 0, none⟩)), (15, .pointer (some ⟨γ11 0, 0, none⟩)), (17, .slice (some ⟨γ95 0, 0, none⟩) 0 0), (18, .pointer (some ⟨γ11 0, 1, none⟩))]) (fun γ95 => bx (γ95 0) (#[]) 3 :: bx (γ11 0) (#[.int .i64 x10.id, .slice x10.p x10.n x10.cap]) 46 :: bx (γ2 0) (#[.slice po j co]) 38 :: bx (γ1 1) (#[.slice none 0 0]) 38 :: (Yo ++ (Yi ++ []))) ?_ (fun hmx3 => ?_)
   ·
    rintro γ95 _
    refine any_fork [1, 3, 6] (by kernel_rfl) (by simp) (each_cons _ rfl ?_ (each_cons _ rfl ?_ (each_cons _ rfl ?_ (each_nil))))
    ·
     refine qo0 1 [(1, .go (owns 2 0 1))] [2, 3, 7, 8, 9, 15, 17, 18] [(14, .slice po j co)] ?_
     refine od_ ?_
     exact wk (hmx6 γ95 trivial) [2, 3, 7, 8, 9, 14, 15, 17, 18] [[_], [_], [_], [_], _, _] [0, 1, 2, 3, 4, 5] rfl rfl
    ·
     refine qo0 1 [(3, .go (owns 1 0 1))] [2, 3, 7, 8, 9, 13, 17, 18] [(16, .int .i64 x10.id)] ?_
     refine od_ ?_
     exact wk (hmx8 γ95 trivial) [2, 3, 7, 8, 9, 13, 16, 17, 18] [[_], [_], [_], [_], _, _] [0, 1, 2, 3, 4, 5] rfl rfl
    ·
     refine qo0 1 [(6, .go (owns 1 1 1))] [2, 3, 7, 8, 9, 13, 15, 17] [(19, .slice x10.p x10.n x10.cap)] ?_
     refine od_ ?_
     exact wk (hmx10 γ95 trivial) [2, 3, 7, 8, 9, 13, 15, 17, 19] [[_], [_], [_], [_], _, _] [0, 1, 2, 3, 4, 5] rfl rfl
   refine any_cutX (V := Unit) (fun _ => True) 9 #[true, false, true, true, false, true, false, false, false, false, false, false, false] (fun _ => [(2, .pointer (some ⟨γ1 1, 0, none⟩)), (3, .pointer (some ⟨γ2 0, 0, none⟩)), (7, .slice (some ⟨b8, o8, none⟩) m capq), (8, .int .i64 (m : Nat)), (9, .int .i64 (j : Nat)), (13, .pointer (some ⟨γ2 0, 0, none⟩)), (16, .int .i64 x10.id), (18, .pointer (some ⟨γ11 0, 1, none⟩))]) (fun _ => bx (γ11 0) (#[.int .i64 x10.id, .slice x10.p x10.n x10.cap]) 46 :: bx (γ2 0) (#[.slice po j co]) 38 :: bx (γ1 1) (#[.slice none 0 0]) 38 :: (Yo ++ (Yi ++ []))) ?_ (fun hmx2 => ?_)
   ·
    rintro _ _
    refine any_fork [1, 4, 6] (by kernel_rfl) (by simp) (each_cons _ rfl ?_ (each_cons _ rfl ?_ (each_cons _ rfl ?_ (each_nil))))
    ·
     refine qo0 1 [(1, .go (owns 1 0 1))] [2, 3, 7, 8, 9, 16, 18] [(14, .slice po j co)] ?_
     refine od_ ?_
     exact wk (hmx5 () trivial) [2, 3, 7, 8, 9, 14, 16, 18] [[_], [_], [_], _, _] [0, 1, 2, 3, 4] rfl rfl
    ·
     refine mo0 1 [] [2, 3, 7, 8, 9, 13, 16, 18] (fun γ95 => [(17, .slice (some ⟨γ95 0, 0, none⟩) 0 0)]) (fun γ95 L => bx (γ95 0) (#[]) 3 :: L) (fun γ95 => ?_)
     refine od_ ?_
     exact wk (hmx8 γ95 trivial) [2, 3, 7, 8, 9, 13, 16, 17, 18] [[_], [_], [_], [_], _, _] [0, 1, 2, 3, 4, 5] rfl rfl
    ·
     refine qo0 1 [(6, .go (owns 0 1 1))] [2, 3, 7, 8, 9, 13, 16] [(19, .slice x10.p x10.n x10.cap)] ?_
     refine od_ ?_
     exact wk (hmx9 () trivial) [2, 3, 7, 8, 9, 13, 16, 19] [[_], [_], [_], _, _] [0, 1, 2, 3, 4] rfl rfl
   refine any_cutX (V := Unit) (fun _ => True) 9 #[true, true, true, false, false, true, false, false, false, false, false, false, false] (fun _ => [(2, .pointer (some ⟨γ1 1, 0, none⟩)), (3, .pointer (some ⟨γ2 0, 0, none⟩)), (7, .slice (some ⟨b8, o8, none⟩) m capq), (8, .int .i64 (m : Nat)), (9, .int .i64 (j : Nat)), (14, .slice po j co), (15, .pointer (some ⟨γ11 0, 0, none⟩)), (18, .pointer (some ⟨γ11 0, 1, none⟩))]) (fun _ => bx (γ11 0) (#[.int .i64 x10.id, .slice x10.p x10.n x10.cap]) 46 :: bx (γ2 0) (#[.slice po j co]) 38 :: bx (γ1 1) (#[.slice none 0 0]) 38 :: (Yo ++ (Yi ++ []))) ?_ (fun hmx1 => ?_)
   ·
    rintro _ _
    refine any_fork [3, 4, 6] (by kernel_rfl) (by simp) (each_cons _ rfl ?_ (each_cons _ rfl ?_ (each_cons _ rfl ?_ (each_nil))))
    ·
     refine qo0 1 [(3, .go (owns 0 0 1))] [2, 3, 7, 8, 9, 14, 18] [(16, .int .i64 x10.id)] ?_
     refine od_ ?_
     exact wk (hmx5 () trivial) [2, 3, 7, 8, 9, 14, 16, 18] [[_], [_], [_], _, _] [0, 1, 2, 3, 4] rfl rfl
    ·
     refine mo0 1 [] [2, 3, 7, 8, 9, 14, 15, 18] (fun γ95 => [(17, .slice (some ⟨γ95 0, 0, none⟩) 0 0)]) (fun γ95 L => bx (γ95 0) (#[]) 3 :: L) (fun γ95 => ?_)
     refine od_ ?_
     exact wk (hmx6 γ95 trivial) [2, 3, 7, 8, 9, 14, 15, 17, 18] [[_], [_], [_], [_], _, _] [0, 1, 2, 3, 4, 5] rfl rfl
    ·
     refine qo0 1 [(6, .go (owns 0 1 1))] [2, 3, 7, 8, 9, 14, 15] [(19, .slice x10.p x10.n x10.cap)] ?_
     refine od_ ?_
     exact wk (hmx7 () trivial) [2, 3, 7, 8, 9, 14, 15, 19] [[_], [_], [_], _, _] [0, 1, 2, 3, 4] rfl rfl
   refine any_fork [1, 3, 4, 6] (by kernel_rfl) (by simp) (each_cons _ rfl ?_ (each_cons _ rfl ?_ (each_cons _ rfl ?_ (each_cons _ rfl ?_ (each_nil)))))
   ·
    refine qo0 1 [(1, .go (owns 1 0 1))] [2, 3, 7, 8, 9, 15, 18] [(14, .slice po j co)] ?_
    refine od_ ?_
    exact wk (hmx1 () trivial) [2, 3, 7, 8, 9, 14, 15, 18] [[_], [_], [_], _, _] [0, 1, 2, 3, 4] rfl rfl
   ·
    refine qo0 1 [(3, .go (owns 0 0 1))] [2, 3, 7, 8, 9, 13, 18] [(16, .int .i64 x10.id)] ?_
    refine od_ ?_
    exact wk (hmx2 () trivial) [2, 3, 7, 8, 9, 13, 16, 18] [[_], [_], [_], _, _] [0, 1, 2, 3, 4] rfl rfl
   ·
    refine mo0 1 [] [2, 3, 7, 8, 9, 13, 15, 18] (fun γ95 => [(17, .slice (some ⟨γ95 0, 0, none⟩) 0 0)]) (fun γ95 L => bx (γ95 0) (#[]) 3 :: L) (fun γ95 => ?_)
    refine od_ ?_
    exact wk (hmx3 γ95 trivial) [2, 3, 7, 8, 9, 13, 15, 17, 18] [[_], [_], [_], [_], _, _] [0, 1, 2, 3, 4, 5] rfl rfl
   ·
    refine qo0 1 [(6, .go (owns 0 1 1))] [2, 3, 7, 8, 9, 13, 15] [(19, .slice x10.p x10.n x10.cap)] ?_
    refine od_ ?_
    exact wk (hmx4 () trivial) [2, 3, 7, 8, 9, 13, 15, 19] [[_], [_], [_], _, _] [0, 1, 2, 3, 4] rfl rfl
  rintro ⟨Y155, Y215, cap155, cap215, p155, p215, γ195, γ95⟩ ⟨hO155, hO215⟩
  refine any_nil (by kernel_rfl) ?_
  refine done_block (ds_ (qa [(0, .fit)] [2, 3, 7, 8] [(9, .int .i64 (j + 1 : Nat))] ([Fit .i64 ((j + 1 : Nat))]) (al1 (fit64 (by omega) (by omega))) (Done.pick [[bx (γ195 0) (#[.int .i64 x10.id, .slice p155 (0 + x10.n) cap155]) 46], [bx (γ11 0) (#[.int .i64 x10.id, .slice x10.p x10.n x10.cap]) 46], [bx (γ2 0) (#[.slice p215 (j + 1) cap215]) 38], [bx (γ1 1) (#[.slice none 0 0]) 38], Y155, Y215, Yi] [2, 3, 5, 6, 4] [0, 1] (bx (γ2 0) (#[.slice p215 (j + 1) cap215]) 38 :: bx (γ1 1) (#[.slice none 0 0]) 38 :: (Y215 ++ (Yi ++ (Y155 ++ [])))) (by kernel_rfl) rfl rfl (Done.as (L' := bx (γ2 0) (#[.slice p215 (j + 1) cap215]) 38 :: bx (γ1 1) (#[.slice none 0 0]) 38 :: (Y215 ++ ((Yi ++ Y155) ++ []))) (by simp only [List.append_assoc]) ?_))))
  exact dr [2, 3, 7, 8, 9] (j + 1, Y215, p215, cap215, (bl ++ [(⟨x10.id, p155, (0 + x10.n), cap155, ([] ++ x10.l)⟩ : GngA)]), Yi ++ Y155) ⟨by omega, hO215, GotG.snoc hG hO155, copy_add hB hx10 rfl⟩
 ·
  refine qa [(0, .no)] [2, 3, 7, 8, 9] [(10, .bool false)] ([¬ (((j : Nat) : Int) < ((m : Nat) : Int))]) (al1 q5) (ds_ (sq_ (f_ (at_leave _ rfl (ds_ (sq_ (ma0 [(0, .go (owns 0 0 1)), (1, .go (owns 1 0 1))] [2] (fun _ => []) (fun _ L => (L.set 1 (bx (γ1 1) (#[.slice po j co]) 38))) (fun _ => ds_ (rt (owns 1 0 1) (.agg #[.slice po j co]) ?_)))))))))
  rw [List.take_of_length_le (by omega)] at hB
  exact fun w' hw => ⟨_, _, _, _, _, _, rfl, hO, hG, hB, hw.below, two_tails14 (Hs.pick [[bx (γ2 0) (#[.slice po j co]) 38], [bx (γ1 1) (#[.slice po j co]) 38], Yo, Yi] [2, 3] [0, 1] (by kernel_rfl) hw)⟩
end Go.Proofs.Ytahccegfahghfaa

/-! The layer does something. -/
namespace Go.Proofs.Ytahccegfahghfaa
open Go Go.RowKit
theorem hs_re {w0 w : World} {A Y Z B : List Ob} (h : Hs w0 (A ++ ((Y ++ Z) ++ B)) w) : Hs w0 (A ++ (Y ++ (Z ++ B))) w := by rwa [← List.append_assoc Y Z B]

set_option maxRecDepth 100000 in
theorem wakes_t  (w : World)
 : Calls Try.prog 9 #[] w fun e w' => e = .returned (.bool true) ∧ Below w.heap.size w w' := by
 refine enter (Hs.start w) Try.func9 rfl Try.ntmps9 rfl (sq_ (qa0 [] [] [] (ds_ (sq_ (ao_ (mo0 2 [] [] (fun γ2 => [(10, .agg #[.slice none 0 0]), (11, .slice (some ⟨γ2 0, 0, none⟩) 2 2)]) (fun γ2 L => bx (γ2 0) (#[.int .i64 1, .int .i64 3]) 3 :: L) (fun γ2 => cP (fun v L' => ∃ q_ n_ c_ Y_ Z_ bl_, v = .tuple #[.agg #[.slice q_ n_ c_], .int .i64 1, .int .i64 0] ∧ L' = List.take 1 ([bx (γ2 0) (#[.int .i64 1, .int .i64 3]) 3]) ++ (Y_ ++ (Z_ ++ List.drop 1 ([bx (γ2 0) (#[.int .i64 1, .int .i64 3]) 3]))) ∧ SlO 46 Y_ q_ n_ c_ bl_ ∧ GotG 3 Z_ bl_ ∧ bl_.map GngA.val = [(1, [1, 3])]) Try.call29 (fun w hw => (form_t none 0 0 [] (some ⟨γ2 0, 0, none⟩) 2 2 [1, 3] w Sv.nil rfl (by decide) (fun x hx => nomatch hx) (fun x hx => nomatch hx) (sv_row (hw.row 0 rfl) rfl) rfl (by decide)).mono fun e w' ⟨er, q_, n_, c_, Y_, Z_, bl_, idn, he, hv, hO, hG, hb, hY⟩ => by have hq := hv.trans (show _ = ([(1, [1, 3])], (1 : Int), (0 : Int)) from by kernel_rfl); simp only [Prod.mk.injEq] at hq; obtain ⟨hq1, rfl, rfl⟩ := hq; exact ⟨_, _, he, ⟨q_, n_, c_, Y_, Z_, bl_, rfl, rfl, hO, hG, hq1⟩, hs_re (hw.join hb hY 1)⟩) ?_)))))))
 rintro v3 L3 ⟨q3, n3, c3, Y3, Yz3, bl3, rfl, rfl, hO3, hG3, hV3⟩
 have hbl3 : bl3.length = 1 := by have := congrArg List.length hV3; simpa using this
 refine mo0 8 [(8, .go (owns 0 0 1))] [] (fun γ4 => [(1, .pointer (some ⟨γ4 0, 0, none⟩)), (2, .int .i64 1), (3, .int .i64 0)]) (fun γ4 L => bx (γ4 0) (#[.slice q3 n3 c3]) 38 :: L) (fun γ4 => on_ (ds_ (sq_ (ao_ (mo0 2 [(0, .go (owns 0 0 1))] [2, 3] (fun γ5 => [(17, .agg #[.slice q3 n3 c3]), (18, .slice (some ⟨γ5 0, 0, none⟩) 2 2)]) (fun γ5 L => bx (γ5 0) (#[.int .i64 3, .int .i64 4]) 3 :: L) (fun γ5 => cP (fun v L' => ∃ q_ n_ c_ Y_ Z_ bl_, v = .tuple #[.agg #[.slice q_ n_ c_], .int .i64 0, .int .i64 5] ∧ L' = List.take 3 (bx (γ5 0) (#[.int .i64 3, .int .i64 4]) 3 :: bx (γ4 0) (#[.slice q3 n3 c3]) 38 :: bx (γ2 0) (#[.int .i64 1, .int .i64 3]) 3 :: (Y3 ++ (Yz3 ++ []))) ++ (Y_ ++ (Z_ ++ List.drop 3 (bx (γ5 0) (#[.int .i64 3, .int .i64 4]) 3 :: bx (γ4 0) (#[.slice q3 n3 c3]) 38 :: bx (γ2 0) (#[.int .i64 1, .int .i64 3]) 3 :: (Y3 ++ (Yz3 ++ []))))) ∧ SlO 46 Y_ q_ n_ c_ bl_ ∧ GotG 3 Z_ bl_ ∧ bl_.map GngA.val = []) Try.call29 (fun w hw => (form_t q3 n3 c3 bl3 (some ⟨γ5 0, 0, none⟩) 2 2 [3, 4] w (SlO.sub hO3 hw (List.Sublist.cons _ (List.Sublist.cons _ (List.Sublist.cons _ (List.sublist_append_left Y3 _))))) hO3.len (by have := hO3.len; omega) (GotG.reads hG3 hw (List.Sublist.cons _ (List.Sublist.cons _ (List.Sublist.cons _ (List.Sublist.trans (List.sublist_append_left Yz3 _) (List.sublist_append_right Y3 _)))))) (got_small hG3 (by rw [hV3]; kernel_rfl)) (sv_row (hw.row 0 rfl) rfl) rfl (by decide)).mono fun e w' ⟨er, q_, n_, c_, Y_, Z_, bl_, idn, he, hv, hO, hG, hb, hY⟩ => by have hq := hv.trans (show _ = ([], (0 : Int), (5 : Int)) from by rw [hV3]; kernel_rfl); simp only [Prod.mk.injEq] at hq; obtain ⟨hq1, rfl, rfl⟩ := hq; exact ⟨_, _, he, ⟨q_, n_, c_, Y_, Z_, bl_, rfl, rfl, hO, hG, hq1⟩, hs_re (hw.join hb hY 3)⟩) ?_))))))
 rintro v6 L6 ⟨q6, n6, c6, Y6, Yz6, bl6, rfl, rfl, hO6, hG6, hV6⟩
 have hbl6 : bl6.length = 0 := by have := congrArg List.length hV6; simpa using this
 refine mo0 8 [(8, .go (owns 0 0 1))] [2, 3] (fun γ7 => [(6, .int .i64 5)]) (fun γ7 L => bx (γ7 0) (#[.slice q6 n6 c6]) 38 :: L) (fun γ7 => on_ (ds_ (sq_ (ao_ (mo0 3 [] [2, 3, 6] (fun γ8 => [(26, .slice (some ⟨γ8 2, 0, none⟩) 2 2)]) (fun γ8 L => bx (γ8 2) (#[.slice (some ⟨γ8 0, 0, none⟩) 2 2, .slice (some ⟨γ8 1, 0, none⟩) 1 1]) 25 :: bx (γ8 1) (#[.int .i64 0]) 3 :: bx (γ8 0) (#[.int .i64 0, .int .i64 1]) 3 :: L) (fun γ8 => cP (fun v L' => ∃ q_ c_ Y_, v = .tuple #[.slice q_ 2 c_, .bool true] ∧ L' = List.take 7 (bx (γ8 2) (#[.slice (some ⟨γ8 0, 0, none⟩) 2 2, .slice (some ⟨γ8 1, 0, none⟩) 1 1]) 25 :: bx (γ8 1) (#[.int .i64 0]) 3 :: bx (γ8 0) (#[.int .i64 0, .int .i64 1]) 3 :: bx (γ7 0) (#[.slice q6 n6 c6]) 38 :: bx (γ5 0) (#[.int .i64 3, .int .i64 4]) 3 :: bx (γ4 0) (#[.slice q3 n3 c3]) 38 :: bx (γ2 0) (#[.int .i64 1, .int .i64 3]) 3 :: (Y6 ++ (Yz6 ++ (Y3 ++ (Yz3 ++ []))))) ++ (Y_ ++ List.drop 7 (bx (γ8 2) (#[.slice (some ⟨γ8 0, 0, none⟩) 2 2, .slice (some ⟨γ8 1, 0, none⟩) 1 1]) 25 :: bx (γ8 1) (#[.int .i64 0]) 3 :: bx (γ8 0) (#[.int .i64 0, .int .i64 1]) 3 :: bx (γ7 0) (#[.slice q6 n6 c6]) 38 :: bx (γ5 0) (#[.int .i64 3, .int .i64 4]) 3 :: bx (γ4 0) (#[.slice q3 n3 c3]) 38 :: bx (γ2 0) (#[.int .i64 1, .int .i64 3]) 3 :: (Y6 ++ (Yz6 ++ (Y3 ++ (Yz3 ++ [])))))) ∧ SlO 3 Y_ q_ 2 c_ ([1, 0] : List Int)) Try.call10 (fun w hw => (match_t (some ⟨γ8 2, 0, none⟩) 2 2 ([(⟨(some ⟨γ8 0, 0, none⟩), 2, 2, [0, 1]⟩ : IntsA), (⟨(some ⟨γ8 1, 0, none⟩), 1, 1, [0]⟩ : IntsA)]) w (sv_row (hw.row 0 rfl) rfl) rfl (by decide) (fun x hx => by simp only [List.mem_cons, List.not_mem_nil, or_false] at hx; rcases hx with rfl | rfl; exact ⟨sv_row (hw.row 2 rfl) rfl, rfl, Nat.le_refl _, (by simp)⟩; exact ⟨sv_row (hw.row 1 rfl) rfl, rfl, Nat.le_refl _, (by simp)⟩) (fun x hx => by simp only [List.mem_cons, List.not_mem_nil, or_false] at hx; rcases hx with rfl | rfl <;> simp)).mono fun e w' ⟨q_, n_, c_, Y_, he, hO, hb, hY⟩ => by rw [show matchA _ = (([1, 0] : List Int), true) from (by kernel_rfl)] at he hO; obtain rfl : n_ = 2 := hO.len; exact ⟨_, _, he, ⟨q_, c_, Y_, rfl, rfl, hO⟩, hw.join hb hY 7⟩) ?_))))))
 rintro v9 L9 ⟨q9, c9, Y9, rfl, rfl, hO9⟩
 refine qo0 5 [] [2, 3, 6] [(7, .slice q9 2 c9), (8, .bool true)] (on_ (ds_ (sq_ ?_)))
 have hln12 := hO9.len
 obtain ⟨g12, cs12, rfl, rfl, hOw12⟩ := hO9.rowOf (i := 0) (by omega)
 refine qa [(20, .at g12 0 0), (21, .go (ownps 7 (0 + 0 * 1) [.int .i64 1])), (26, .at g12 0 1), (27, .go (ownps 7 (0 + 1 * 1) [.int .i64 0]))] [] [(0, .bool true)] ([(some ⟨g12, 0, none⟩ : Option Addr) = some ⟨g12, 0, none⟩, 0 = ((0 : Nat) : Int), 0 < 2] ++ (acellsP cs12 (0 + 0 * 1) [.int .i64 1] ++ ([(some ⟨g12, 0, none⟩ : Option Addr) = some ⟨g12, 0, none⟩, 1 = ((1 : Nat) : Int), 1 < 2] ++ (acellsP cs12 (0 + 1 * 1) [.int .i64 0])))) (alA (al2 rfl (al2 rfl (al1 (by omega)))) (alA (rda_pre (hOw12.rdx hO9.len rfl) _ rfl) (alA (al2 rfl (al2 rfl (al1 (by omega)))) (rda_pre (hOw12.rdx hO9.len rfl) _ rfl)))) (ds_ (rt ([]) (.bool true) ?_))
 exact fun w' hw => ⟨rfl, hw.below⟩
end Go.Proofs.Ytahccegfahghfaa

/-! Gangs that may be stay so; there and back; plain. -/
namespace Go.Proofs.Ytahccegfahghfaa
open Go Go.RowKit
section
variable {gs t hs : Gs} {k n : Int} {i j : Nat} {l : List Int} {g : Int × List Int} {bl : List GngA} {er idn : Int}
theorem ids_of : ∀ {l : List Int} {a : Int}, l.Pairwise (· < ·) → (∀ x ∈ l, a < x ∧ x ≤ 8) → idsB a l = true
  | [], _, _, _ => rfl
  | b :: l, a, h, hb => by
    obtain ⟨h1, h2⟩ := List.pairwise_cons.1 h
    simp only [idsB, Bool.and_eq_true, decide_eq_true_eq]
    exact ⟨hb b (List.mem_cons_self ..), ids_of h2 fun x hx => ⟨h1 x hx, (hb x (List.mem_cons_of_mem _ hx)).2⟩⟩
theorem up_of : ∀ {l : List Int} {a : Int}, l.Pairwise (· < ·) → (∀ x ∈ l, a < x ∧ x ≤ 16) → upB a l = true
  | [], _, _, _ => rfl
  | b :: l, a, h, hb => by
    obtain ⟨h1, h2⟩ := List.pairwise_cons.1 h
    simp only [upB, Bool.and_eq_true, decide_eq_true_eq]
    exact ⟨hb b (List.mem_cons_self ..), up_of h2 fun x hx => ⟨h1 x hx, (hb x (List.mem_cons_of_mem _ hx)).2⟩⟩
theorem gang_iff14 : gangB gs = true ↔ (gs.map (·.1)).Pairwise (· < ·) ∧ (∀ x ∈ gs.map (·.1), 0 < x ∧ x ≤ 8) ∧ (∀ g ∈ gs, mayB g.2 = true) ∧ (memL gs).Nodup := by
  constructor
  · intro h
    have h1 := gang_pre h gs.length
    rw [List.take_of_length_le (Nat.le_refl _)] at h1
    have h2 := ids_spec h1.1
    exact ⟨h2.1, h2.2, h1.2.1, h1.2.2⟩
  · rintro ⟨h1, h2, h3, h4⟩
    rw [gangB, ids_of h1 h2, List.all_eq_true.2 h3, decide_eq_true h4]; rfl
theorem memL_sub (h : List.Sublist t gs) : List.Sublist (memL t) (memL gs) := by
  unfold memL
  induction h with
  | slnil => exact List.Sublist.refl _
  | cons a _ ih => rw [List.flatMap_cons]; exact ih.trans (List.sublist_append_right _ _)
  | cons_cons a _ ih => rw [List.flatMap_cons, List.flatMap_cons]; exact (List.Sublist.refl _).append ih
theorem gang_sub (hg : gangB gs = true) (h : List.Sublist t gs) : gangB t = true := by
  rw [gang_iff14] at hg ⊢
  obtain ⟨h1, h2, h3, h4⟩ := hg
  exact ⟨h1.sublist (h.map _), fun x hx => h2 x ((h.map _).subset hx), fun g hg => h3 g (h.subset hg), h4.sublist (memL_sub h)⟩
theorem cut_sublist {α : Type} {l : List α} : List.Sublist (l.take i ++ l.drop (i + 1)) l := by
  conv => rhs; rw [← List.take_append_drop i l]
  refine (List.Sublist.refl _).append ?_
  by_cases h : i < l.length
  · rw [List.drop_eq_getElem_cons h]; exact List.sublist_cons_self _ _
  · rw [List.drop_of_length_le (show l.length ≤ i + 1 by omega), List.drop_of_length_le (show l.length ≤ i by omega)]; exact List.Sublist.refl _
theorem part_gang (hg : gangB gs = true) : gangB (partC gs k).1 = true := by
  unfold partC
  split
  · exact gang_sub hg cut_sublist
  · exact hg
theorem less_may (h : mayB l = true) (h2 : ¬ (lessL l k).length < 2) : mayB (lessL l k) = true := by
  have h3 := may_len h
  simp only [mayB, Bool.and_eq_true, decide_eq_true_eq] at h ⊢
  have hs : List.Sublist (lessL l k) l := List.filter_sublist
  have h4 := up_spec h.1
  exact ⟨up_of (h4.1.sublist hs) fun x hx => h4.2 x (hs.subset hx), by omega, Nat.le_trans hs.length_le h3.2⟩
theorem cut_facts : ∀ {gs : Gs}, (∀ g ∈ gs, mayB g.2 = true) → List.Sublist ((cutV k gs).map (·.1)) (gs.map (·.1)) ∧ List.Sublist (memL (cutV k gs)) (memL gs) ∧ ∀ g ∈ cutV k gs, mayB g.2 = true
  | [], _ => ⟨List.Sublist.refl _, List.Sublist.refl _, fun g h => nomatch h⟩
  | a :: t, h => by
    rw [cutV]
    have ht : ∀ g ∈ t, mayB g.2 = true := fun g hg => h g (List.mem_cons_of_mem _ hg)
    have hm : ∀ (b : Int × List Int) (s : Gs), memL (b :: s) = b.2 ++ memL s := fun b s => List.flatMap_cons
    split
    · split
      · exact ⟨List.sublist_cons_self _ _, by rw [hm]; exact List.sublist_append_right _ _, ht⟩
      · rename_i h2
        refine ⟨List.Sublist.refl _, ?_, fun g hg => ?_⟩
        · rw [hm, hm]; exact List.filter_sublist.append (List.Sublist.refl _)
        · rcases List.mem_cons.1 hg with rfl | e
          · exact less_may (h a (List.mem_cons_self ..)) h2
          · exact ht g e
    · obtain ⟨h1, h2, h3⟩ := cut_facts ht
      refine ⟨h1.cons_cons _, ?_, fun g hg => ?_⟩
      · rw [hm, hm]; exact (List.Sublist.refl _).append h2
      · rcases List.mem_cons.1 hg with rfl | e
        · exact h g (List.mem_cons_self ..)
        · exact h3 g e
theorem cut_gang (hg : gangB gs = true) : gangB (cutV k gs) = true := by
  rw [gang_iff14] at hg ⊢
  obtain ⟨h1, h2, h3, h4⟩ := hg
  obtain ⟨c1, c2, c3⟩ := cut_facts (k := k) h3
  exact ⟨h1.sublist c1, fun x hx => h2 x (c1.subset hx), c3, h4.sublist c2⟩
theorem leave_gang (hg : gangB gs = true) : gangB (leaveC gs k).1 = true := by
  unfold leaveC
  split
  · exact cut_gang hg
  · exact hg
theorem in_iff14 : inV gs k = true ↔ k ∈ memL gs := by
  unfold inV
  rw [List.any_eq_true, mem_memL]
  exact ⟨fun ⟨g, hg, h⟩ => ⟨g, hg, of_decide_eq_true h⟩, fun ⟨g, hg, h⟩ => ⟨g, hg, decide_eq_true h⟩⟩
theorem memL_app : memL (gs ++ t) = memL gs ++ memL t := List.flatMap_append
theorem as_gng (gs : Gs) : ∃ al : List GngA, al.map GngA.val = gs := ⟨gs.map fun g => ⟨g.1, none, 0, 0, g.2⟩, by rw [List.map_map]; exact List.map_id' gs⟩
theorem gap_lt (hg : gangB gs = true) (hi : i < gapV 0 gs) (hx : gs[i]? = some g) : g.1 = (i : Int) + 1 := by
  obtain ⟨g2, h1, h2⟩ := (gap_spec (gs := gs) (a := 0)).2.2.1 i (by omega)
  rw [hx] at h1; cases h1
  rw [Nat.zero_add] at h2; exact h2
theorem gap_gt (hg : gangB gs = true) (hi : gapV 0 gs ≤ i) (hx : gs[i]? = some g) : ((gapV 0 gs : Nat) : Int) + 1 < g.1 := by
  obtain ⟨al, rfl⟩ := as_gng gs
  rw [List.getElem?_map] at hx
  cases h : al[i]? with
  | none => rw [h] at hx; cases hx
  | some x =>
    rw [h] at hx
    simp only [Option.map_some, Option.some.injEq] at hx
    subst hx
    exact gapA_gt hg hi h
theorem take_ix {α : Type} {l : List α} {x : α} (h : x ∈ l.take j) : ∃ i, i < j ∧ l[i]? = some x := by
  obtain ⟨i, hi⟩ := List.mem_iff_getElem?.1 h
  rw [List.getElem?_take] at hi
  split at hi
  · exact ⟨i, by assumption, hi⟩
  · cases hi
theorem drop_ix {α : Type} {l : List α} {x : α} (h : x ∈ l.drop j) : ∃ i, j ≤ i ∧ l[i]? = some x := by
  obtain ⟨i, hi⟩ := List.mem_iff_getElem?.1 h
  rw [List.getElem?_drop] at hi
  exact ⟨j + i, by omega, hi⟩
theorem gap_le8 (hg : gangB gs = true) : gapV 0 gs ≤ 8 := by
  obtain ⟨al, rfl⟩ := as_gng gs
  have := gang_len8 hg
  have h2 : gapV 0 (al.map GngA.val) ≤ al.length := gapA_le
  omega
abbrev formL (gs : Gs) (l : List Int) : Gs := gs.take (gapV 0 gs) ++ [(((gapV 0 gs : Nat) : Int) + 1, l)] ++ gs.drop (gapV 0 gs)
theorem forml_gang (hg : gangB gs = true) (hm : mayB l = true) (ha : l.any (inV gs) = false) (h8 : ¬ gapV 0 gs = 8) : gangB (formL gs l) = true := by
  have hg0 := hg
  have h8b := gap_le8 hg
  rw [gang_iff14] at hg ⊢
  obtain ⟨h1, h2, h3, h4⟩ := hg
  have e1 : (formL gs l).map (·.1) = (gs.take (gapV 0 gs)).map (·.1) ++ ((((gapV 0 gs : Nat) : Int) + 1) :: (gs.drop (gapV 0 gs)).map (·.1)) := by simp [formL]
  have hlo : ∀ x ∈ (gs.take (gapV 0 gs)).map (·.1), x < ((gapV 0 gs : Nat) : Int) + 1 := fun x hx => by
    obtain ⟨g, hgm, rfl⟩ := List.mem_map.1 hx
    obtain ⟨i, hi, hgi⟩ := take_ix hgm
    have := gap_lt hg0 hi hgi
    omega
  have hhi : ∀ x ∈ (gs.drop (gapV 0 gs)).map (·.1), ((gapV 0 gs : Nat) : Int) + 1 < x := fun x hx => by
    obtain ⟨g, hgm, rfl⟩ := List.mem_map.1 hx
    obtain ⟨i, hi, hgi⟩ := drop_ix hgm
    exact gap_gt hg0 hi hgi
  refine ⟨?_, ?_, ?_, ?_⟩
  · rw [e1, List.pairwise_append]
    refine ⟨h1.sublist ((List.take_sublist _ _).map _), List.pairwise_cons.2 ⟨hhi, h1.sublist ((List.drop_sublist _ _).map _)⟩, fun x hx y hy => ?_⟩
    have hx2 := hlo x hx
    rcases List.mem_cons.1 hy with rfl | e
    · exact hx2
    · have := hhi y e; omega
  · rw [e1]
    intro x hx
    rcases List.mem_append.1 hx with e | e
    · exact h2 x (((List.take_sublist _ _).map _).subset e)
    · rcases List.mem_cons.1 e with rfl | e
      · omega
      · exact h2 x (((List.drop_sublist _ _).map _).subset e)
  · intro g hgm
    rcases List.mem_append.1 hgm with e | e
    · rcases List.mem_append.1 e with e | e
      · exact h3 g ((List.take_sublist _ _).subset e)
      · rw [List.mem_singleton] at e; subst e; exact hm
    · exact h3 g ((List.drop_sublist _ _).subset e)
  · have hp : (memL (formL gs l)).Perm (l ++ memL gs) := by
      rw [formL, memL_app, memL_app, show memL [(((gapV 0 gs : Nat) : Int) + 1, l)] = l by simp [memL]]
      refine ((List.perm_append_comm).append_right _).trans ?_
      rw [List.append_assoc, ← memL_app, List.take_append_drop]
    rw [hp.nodup_iff, List.nodup_append]
    refine ⟨may_nodup hm, h4, fun a hal b hb e => ?_⟩
    subst e
    exact List.any_eq_false.1 ha a hal (in_iff14.2 hb)
/-- What Form answers, by cases. -/
theorem form_cases (h : (hs, idn, (0 : Int)) = formV gs l) : gangB gs = true ∧ mayB l = true ∧ l.any (inV gs) = false ∧ ¬ gapV 0 gs = 8 ∧ hs = formL gs l ∧ idn = ((gapV 0 gs : Nat) : Int) + 1 := by
  unfold formV at h
  cases hg : gangB gs with
  | false => rw [if_pos hg] at h; simp at h
  | true =>
    rw [if_neg (by rw [hg]; decide)] at h
    cases hm : mayB l with
    | false => rw [fc_arg hm] at h; simp at h
    | true =>
      cases ha : l.any (inV gs) with
      | true => rw [fc_there hm ha] at h; simp at h
      | false =>
        by_cases h8 : gapV 0 gs = 8
        · rw [fc_full hm ha rfl h8] at h; simp at h
        · rw [fc_ok hm ha rfl h8] at h
          simp only [if_true, Prod.mk.injEq] at h
          exact ⟨rfl, rfl, rfl, h8, h.1, h.2.1⟩
theorem form_gang (h : (hs, idn, (0 : Int)) = formV gs l) : gangB hs = true := by
  obtain ⟨h1, h2, h3, h4, rfl, _⟩ := form_cases h
  exact forml_gang h1 h2 h3 h4
theorem mov_gang {C : Gs → Int → Gs × Int} (hC : ∀ gs k, gangB gs = true → gangB (C gs k).1 = true) (h : (hs, (0 : Int)) = movG gs (C gs k)) : gangB hs = true ∧ gangB gs = true ∧ C gs k = (hs, 0) := by
  unfold movG at h
  cases hg : gangB gs with
  | false => rw [if_pos hg] at h; simp at h
  | true =>
    rw [if_neg (by rw [hg]; decide)] at h
    split at h
    · have := hC gs k hg
      rw [← h] at this ⊢
      exact ⟨this, rfl, rfl⟩
    · rename_i e
      simp only [Prod.mk.injEq] at h
      exact absurd h.2.symm e
end
end Go.Proofs.Ytahccegfahghfaa

/-! Gangs: formed and parted again; who leaves; plain. -/
namespace Go.Proofs.Ytahccegfahghfaa
open Go Go.RowKit
/-- The members of the gang that one is in. -/
def ownV (gs : Gs) (k : Int) : List Int := ((findG gs k).map (·.2)).getD []
section
variable {gs t hs : Gs} {k n : Int} {i j : Nat} {l : List Int} {g a : Int × List Int} {bl : List GngA} {er idn : Int}
theorem less_len (h : l.Nodup) (hk : k ∈ l) : (lessL l k).length + 1 = l.length := by
  have e : lessL l k = l.erase k := by
    rw [h.erase_eq_filter]; unfold lessL
    congr 1
  have := List.length_pos_of_mem hk
  rw [e, List.length_erase_of_mem hk]; omega
section
variable (hg : gangB gs = true) (hin : leaveC gs k = (hs, 0))
include hg hin
end
section
variable (h : (hs, idn, (0 : Int)) = formV gs l)
include h
end
-- rows of members, none twice
end
end Go.Proofs.Ytahccegfahghfaa

/-! What the document makes of gangs; plain. -/
namespace Go.Proofs.Ytahccegfahghfaa
open Go Go.RowKit
section
variable {al bl bb : List GngA} {gs : Gs} {k n : Int} {x x0 y : GngA} {i0 i j : Nat} {l : List Int} {T : TypeId} {Yi : List Ob}
theorem mov_ok {r : Gs × Int} (hg : gangB gs = true) (h : r.2 = 0) : movG gs r = r := by rw [movG, if_neg (by rw [hg]; decide), if_pos h]
theorem mov_no {r : Gs × Int} (hg : gangB gs = true) (h : ¬ r.2 = 0) : movG gs r = ([], r.2) := by rw [movG, if_neg (by rw [hg]; decide), if_neg h]
-- Part
theorem rp_none (hg : gangB (al.map GngA.val) = true) (h : ∀ x ∈ al, ¬ x.id = k) : movG (al.map GngA.val) (partC (al.map GngA.val) k) = ([], 4) := by
  have : hasK (·.1) (al.map GngA.val) k = false := by
    rw [has_val]; unfold hasK
    exact List.any_eq_false.2 fun x hx hk => h x hx (of_decide_eq_true hk)
  rw [pc_none this]
  exact mov_no hg (by show ¬ (4 : Int) = 0; decide)
theorem ids_ris (hg : gangB gs = true) : Ris (·.1) gs := List.pairwise_map.1 (gang_iff14.1 hg).1
theorem part_filter (hg : gangB gs = true) {g : Int × List Int} (hm : g ∈ gs) : partC gs g.1 = (gs.filter (fun y => !decide (y.1 = g.1)), 0) := by
  have hb := (gang_iff14.1 hg).2.1 g.1 (List.mem_map_of_mem (f := (·.1)) hm)
  have hk : hasK (·.1) gs g.1 = true := by unfold hasK; exact List.any_eq_true.2 ⟨g, hm, decide_eq_true rfl⟩
  have hr := ids_ris hg
  rw [pc_ok (by omega) hb.2 hk]
  have := delK_filter hr ((getK_iff hr).2 ⟨hm, rfl⟩)
  unfold delK at this
  rw [this]
theorem filt_val {p : GngA → Bool} {q : Int × List Int → Bool} (h : ∀ x, p x = q x.val) : (bl.filter p).map GngA.val = (bl.map GngA.val).filter q := by
  rw [List.filter_map]
  congr 1
  exact List.filter_congr fun x _ => h x
theorem rp_ok (hg : gangB (al.map GngA.val) = true) (hx : al[i0]? = some x0) (hk : x0.id = k) (hB : bl.map GngA.val = al.map GngA.val) : movG (al.map GngA.val) (partC (al.map GngA.val) k) = ((bl.filter fun y => !decide (y.id = k)).map GngA.val, 0) := by
  subst hk
  have h1 := part_filter hg (g := x0.val) (List.mem_map_of_mem (List.mem_of_getElem? hx))
  have h2 : partC (al.map GngA.val) x0.id = _ := h1
  rw [h2, mov_ok hg rfl, ← hB]
  exact congrArg (fun l : Gs => (l, (0 : Int))) (filt_val (p := fun y => !decide (y.id = x0.id)) (q := fun y => !decide (y.1 = x0.val.1)) (fun _ => rfl)).symm
theorem filt_yes {p : GngA → Bool} (hx : bl[j]? = some x) (h : p x = true) : (bl.take (j + 1)).filter p = (bl.take j).filter p ++ [x] := by rw [take_one hx, List.filter_append, List.filter_cons_of_pos h]; rfl
theorem filt_not {p : GngA → Bool} (hx : bl[j]? = some x) (h : p x = false) : (bl.take (j + 1)).filter p = (bl.take j).filter p := by rw [take_one hx, List.filter_append, List.filter_cons_of_neg (by rw [h]; decide)]; simp
theorem less_yes {l : List Int} {c : Int} (hx : l[j]? = some c) (h : ¬ c = k) : lessL (l.take (j + 1)) k = lessL (l.take j) k ++ [c] := by
  unfold lessL
  rw [List.take_add_one, hx, Option.toList_some, List.filter_append, List.filter_cons_of_pos (by rw [decide_eq_false h]; rfl)]; rfl
theorem less_not {l : List Int} {c : Int} (hx : l[j]? = some c) (h : c = k) : lessL (l.take (j + 1)) k = lessL (l.take j) k := by
  unfold lessL
  rw [List.take_add_one, hx, Option.toList_some, List.filter_append, List.filter_cons_of_neg (by rw [decide_eq_true h]; decide)]; simp
-- Leave
theorem rof_ex (h : ¬ rofV (al.map GngA.val) k = 0) : ∃ (i0 : Nat) (x0 : GngA), al[i0]? = some x0 ∧ hasG k x0 = true ∧ (∀ (t : Nat) (y : GngA), t < i0 → al[t]? = some y → hasG k y = false) ∧ x0.id = rofV (al.map GngA.val) k := by
  rcases idxF_cases (hasG k) al with ⟨_, hn⟩ | ⟨i0, x0, _, hx0, hp0, hlow⟩
  · exact absurd (by rw [rofV, find_none hn]; rfl) h
  · exact ⟨i0, x0, hx0, hp0, hlow, (rofv_some hx0 hp0 hlow).symm⟩
theorem rl_none (hg : gangB (al.map GngA.val) = true) (h : rofV (al.map GngA.val) k = 0) : movG (al.map GngA.val) (leaveC (al.map GngA.val) k) = ([], 4) := by
  have : inV (al.map GngA.val) k = false := by rw [in_rof hg, h]; rfl
  rw [leaveC, if_neg (by rw [this]; decide)]
  exact mov_no hg (by show ¬ (4 : Int) = 0; decide)
theorem get_id (hg : gangB (al.map GngA.val) = true) (hx : al[i0]? = some x0) (he : x0.id = k) : getA al k = (x0.p, x0.n, x0.cap, x0.l) := get_some14 hx he fun t y ht hy e => by
  have := (gang_ris hg).1.at ht hy hx
  omega
section
variable (hg : gangB (al.map GngA.val) = true) (hx : al[i0]? = some x0) (hp : hasG k x0 = true) (hl : ∀ (t : Nat) (y : GngA), t < i0 → al[t]? = some y → hasG k y = false)
include hg hx hp
theorem less_of : (lessL x0.l k).length + 1 = x0.l.length ∧ 2 ≤ x0.l.length := by
  have hm := (gang_iff14.1 hg).2.2.1 x0.val (List.mem_map_of_mem (List.mem_of_getElem? hx))
  exact ⟨less_len (may_nodup hm) (of_decide_eq_true hp), (may_len hm).1⟩
include hl
theorem rl_two (h2 : x0.l.length = 2) : movG (al.map GngA.val) (partC (al.map GngA.val) x0.id) = movG (al.map GngA.val) (leaveC (al.map GngA.val) k) := by
  have h1 : partC (al.map GngA.val) x0.id = _ := part_filter hg (g := x0.val) (List.mem_map_of_mem (List.mem_of_getElem? hx))
  have h3 := less_of hg hx hp
  have h4 := lc_two (y := x0) hx hp hl (by omega)
  have hr := ids_ris hg
  have hgk := (getK_iff hr).2 ⟨List.mem_map_of_mem (f := GngA.val) (List.mem_of_getElem? hx), (rfl : x0.val.1 = x0.val.1)⟩
  have h5 := delK_filter hr hgk
  have h6 := pos_getK hr hgk
  have hri := (gang_ris hg).1
  have h7 : posK (·.1) (al.map GngA.val) x0.val.1 = i0 := by
    rw [pos_val]
    have h8 : hasK GngA.id al x0.id = true := by unfold hasK; exact List.any_eq_true.2 ⟨x0, List.mem_of_getElem? hx, decide_eq_true rfl⟩
    obtain ⟨xk, hxk, hfk⟩ := posk_at hri.asc h8
    rcases Nat.lt_trichotomy (posK GngA.id al x0.id) i0 with e | e | e
    · have := hri.at e hxk hx; omega
    · exact e
    · have := hri.at e hx hxk; omega
  unfold delK at h5
  rw [h7] at h5
  have h9 : al.set i0 x0 = al := by
    obtain ⟨hi, he⟩ := List.getElem?_eq_some_iff.1 hx
    rw [← he]; exact List.set_getElem_self hi
  rw [h1, h4, h9, List.map_append, List.map_take, List.map_drop, h5]
theorem rl_more (h2 : ¬ x0.l.length = 2) (hB : bb.map GngA.val = (al.map GngA.val).set i0 (x0.id, lessL x0.l k)) : movG (al.map GngA.val) (leaveC (al.map GngA.val) k) = (bb.map GngA.val, 0) := by
  have h3 := less_of hg hx hp
  have h4 := lc_more (y := ⟨x0.id, none, 0, 0, lessL x0.l k⟩) hx hp hl (by omega) rfl
  rw [h4, mov_ok hg rfl, hB, List.map_set]; rfl
end
theorem lv_on (hg : gangB (al.map GngA.val) = true) (hx0 : al[i0]? = some x0) (hB : bl.map GngA.val = al.map GngA.val) (hD : bb.drop j = bl.drop j) (hV : bb.map GngA.val = if i0 < j then (al.map GngA.val).set i0 (x0.id, lessL x0.l k) else al.map GngA.val) (hx : bb[j]? = some x) (h : ¬ x.id = x0.id) : bb.drop (j + 1) = bl.drop (j + 1) ∧ bb.map GngA.val = if i0 < j + 1 then (al.map GngA.val).set i0 (x0.id, lessL x0.l k) else al.map GngA.val := by
  have hne : ¬ i0 = j := fun e => by
    subst e
    have h1 := wt_get hD hx
    have h2 := congrArg (fun l : Gs => l[i0]?) hB
    simp only [List.getElem?_map, h1, hx0, Option.map_some, Option.some.injEq] at h2
    exact h (congrArg Prod.fst h2)
  refine ⟨by rw [← List.drop_drop, ← List.drop_drop, hD], ?_⟩
  rw [hV]
  by_cases e : i0 < j
  · rw [if_pos e, if_pos (by omega)]
  · rw [if_neg e, if_neg (by omega)]
theorem lv_at (hg : gangB (al.map GngA.val) = true) (hx0 : al[i0]? = some x0) (hB : bl.map GngA.val = al.map GngA.val) (hD : bb.drop j = bl.drop j) (hV : bb.map GngA.val = if i0 < j then (al.map GngA.val).set i0 (x0.id, lessL x0.l k) else al.map GngA.val) (hx : bb[j]? = some x) (h : x.id = x0.id) (hy : y.val = (x.id, lessL x.l k)) : (bb.set j y).drop (j + 1) = bl.drop (j + 1) ∧ (bb.set j y).map GngA.val = if i0 < j + 1 then (al.map GngA.val).set i0 (x0.id, lessL x0.l k) else al.map GngA.val := by
  have h1 := wt_get hD hx
  have h3 : (al.map GngA.val)[j]? = some x.val := by rw [← hB, List.getElem?_map, h1]; rfl
  rw [List.getElem?_map] at h3
  obtain ⟨z, hz, hzv⟩ : ∃ z, al[j]? = some z ∧ z.val = x.val := by
    cases e : al[j]? with
    | none => rw [e] at h3; cases h3
    | some z => rw [e] at h3; exact ⟨z, rfl, by simpa using h3⟩
  have hzi : z.id = x.id := congrArg Prod.fst hzv
  have hzl : z.l = x.l := congrArg Prod.snd hzv
  have hri := (gang_ris hg).1
  have hij : i0 = j := by
    rcases Nat.lt_trichotomy i0 j with e | e | e
    · have := hri.at e hx0 hz; omega
    · exact e
    · have := hri.at e hz hx0; omega
  subst hij
  rw [hx0] at hz; cases hz
  refine ⟨wt_drop hD, ?_⟩
  rw [if_neg (by omega)] at hV
  rw [if_pos (by omega), List.map_set, hV, hy, h, hzl]
-- Form
theorem rf_arg (hg : gangB gs = true) (h : mayB l = false) : formV gs l = ([], 0, 2) := by rw [formV, if_neg (by rw [hg]; decide), fc_arg h]; rfl
theorem rf_there (hg : gangB gs = true) (h : mayB l = true) (h2 : l.any (inV gs) = true) : formV gs l = ([], 0, 5) := by rw [formV, if_neg (by rw [hg]; decide), fc_there h h2]; rfl
theorem rf_full (hg : gangB gs = true) (h : mayB l = true) (h2 : l.any (inV gs) = false) (h3 : gapV 0 gs = 8) : formV gs l = ([], 0, 6) := by rw [formV, if_neg (by rw [hg]; decide), fc_full h h2 rfl h3]; rfl
theorem rf_ok (hg : gangB gs = true) (h : mayB l = true) (h2 : l.any (inV gs) = false) (h3 : ¬ gapV 0 gs = 8) : formV gs l = (formL gs l, ((gapV 0 gs : Nat) : Int) + 1, 0) := by rw [formV, if_neg (by rw [hg]; decide), fc_ok h h2 rfl h3, if_pos rfl]
theorem gap_cong (h : bl.map GngA.val = al.map GngA.val) : gapA bl = gapA al := by show gapV 0 _ = gapV 0 _; rw [h]
theorem forml_val (hB : bl.map GngA.val = al.map GngA.val) (hy : y.val = (((gapA al : Nat) : Int) + 1, l)) : (bl.take (gapA al) ++ [y] ++ bl.drop (gapA al)).map GngA.val = formL (al.map GngA.val) l := by
  rw [val_ins, hB, hy]
theorem out_at (hg : gangB (bl.map GngA.val) = true) (hx : bl[j]? = some x) : x.id > ((gapA bl : Nat) : Int) + 1 ↔ gapA bl ≤ j := by
  constructor
  · intro h
    by_cases e : j < gapA bl
    · obtain ⟨y, hy, he⟩ := gapA_at e
      rw [hx] at hy; cases hy
      omega
    · omega
  · intro h
    exact gapA_gt hg h hx
end
end Go.Proofs.Ytahccegfahghfaa

/-! The document: Part, Leave. -/
namespace Go.Proofs.Ytahccegfahghfaa
open Go Go.RowKit

set_option maxRecDepth 100000 in
theorem rpart_t (q : Option Addr) (m capq : Nat) (al : List GngA) (k : Int) (w : World)
 (hal : Sv w q al) (hma : m = al.length) (hbm : m ≤ 1000) (hnm : ∀ x ∈ al, x.Reads w) (hm9 : ∀ x ∈ al, x.n ≤ 1000)
 (hgd : gangB (al.map GngA.val) = true)
 : Calls Try.prog 48 #[.agg #[.slice q m capq], .int .i64 k] w fun e w' => ∃ er q' n' c' Y Yi bl, e = .returned (.tuple #[.agg #[.slice q' n' c'], .int .i64 er]) ∧ (bl.map GngA.val, er) = movG (al.map GngA.val) (partC (al.map GngA.val) k) ∧ SlO 46 Y q' n' c' bl ∧ GotG 3 Yi bl ∧ Below w.heap.size w w' ∧ Hs w (Y ++ Yi) w' := by
 refine enter (Hs.start w) Try.func48 rfl Try.ntmps48 rfl (sq_ (ma0 [] [1] (fun γ1 => [(2, .pointer (some ⟨γ1 0, 0, none⟩)), (4, .pointer (some ⟨γ1 1, 0, none⟩))]) (fun γ1 L => bx (γ1 1) (#[.slice none 0 0]) 38 :: bx (γ1 0) (#[.slice q m capq]) 38 :: L) (fun γ1 => ds_ (sq_ (sq_ (ao_ (qo0 2 [(0, .go (owns 1 0 1))] [1, 2, 4] [(9, .agg #[.slice q m capq]), (10, .int .i64 k)] ?_)))))))
 rcases get_cases al k with ⟨hge, hgn⟩ | ⟨i0, x0, hx0, hk0, hge⟩
 ·
  refine cD (.slice none 0 0) Try.call23 (fun w hw => by have := rget_t q m capq al k w (hal.kept hw.below) hma hbm (fun x hx => (hnm x hx).kept hw.below) hm9; rw [hge] at this; exact this) (qo0 1 [] [1, 2, 4] [(12, .bool true)] (on_ (ds_ (t_ (sq_ (qa0 [(1, .go (owns 0 0 1))] [4] [(5, .int .i64 4)] (ds_ (rt (owns 0 0 1) (.tuple #[.agg #[.slice none 0 0], .int .i64 4]) ?_))))))))
  exact fun w' hw => ⟨_, none, 0, 0, [], [], [], rfl, (rp_none hgd hgn).symm, SlO.nil, GotG.nil, hw.below, hw.sub (List.nil_sublist _)⟩
 ·
  have h2m := (may_len ((gang_iff14.1 hgd).2.2.1 x0.val (List.mem_map_of_mem (List.mem_of_getElem? hx0)))).1
  have hlx : 2 ≤ x0.l.length := h2m
  have hsx0 := (hnm x0 (List.mem_of_getElem? hx0)).sv
  have hnx0 : x0.n = x0.l.length := (hnm x0 (List.mem_of_getElem? hx0)).hn
  obtain ⟨b9, o9, hp9⟩ := Sv.pos (i := 0) hsx0 (by show 0 < x0.l.length; omega)
  replace hp9 : x0.p = some ⟨b9, o9, none⟩ := hp9
  refine cD (.slice (some ⟨b9, o9, none⟩) x0.n x0.cap) Try.call23 (fun w hw => by have := rget_t q m capq al k w (hal.kept hw.below) hma hbm (fun x hx => (hnm x hx).kept hw.below) hm9; rw [hge, hp9] at this; exact this) (qo0 1 [] [1, 2, 4] [(12, .bool false)] (on_ (ds_ (f_ (at_skip (ds_ (sq_ (ma0 [] [1, 2, 4] (fun γ6 => [(6, .pointer (some ⟨γ6 0, 0, none⟩))]) (fun γ6 L => bx (γ6 0) (#[.slice none 0 0]) 38 :: L) (fun γ6 => ds_ (sq_ (sq_ (ao_ (qo0 1 [(0, .go (owns 2 0 1))] [1, 4, 6] [(14, .agg #[.slice q m capq])] (cP (fun v L' => ∃ q_ n_ c_ Y_ Z_ bl_, v = .agg #[.slice q_ n_ c_] ∧ L' = List.take 3 ([bx (γ6 0) (#[.slice none 0 0]) 38, bx (γ1 1) (#[.slice none 0 0]) 38, bx (γ1 0) (#[.slice q m capq]) 38]) ++ (Y_ ++ (Z_ ++ List.drop 3 ([bx (γ6 0) (#[.slice none 0 0]) 38, bx (γ1 1) (#[.slice none 0 0]) 38, bx (γ1 0) (#[.slice q m capq]) 38]))) ∧ SlO 46 Y_ q_ n_ c_ bl_ ∧ GotG 3 Z_ bl_ ∧ bl_.map GngA.val = (al.map GngA.val)) Try.call28 (fun w hw => (rcopy_t q m capq al w (hal.kept hw.below) hma hbm (fun x hx => (hnm x hx).kept hw.below) hm9).mono fun e w' ⟨q_, n_, c_, Y_, bl_, Z_, he, hO, hG, hB, hb, hY⟩ => ⟨_, _, he, ⟨q_, n_, c_, Y_, Z_, bl_, rfl, rfl, hO, hG, hB⟩, hs_re (hw.join hb hY 3)⟩) ?_))))))))))))))
  rintro v8 L8 ⟨q8, n8, c8, Y8, Yz8, bl8, rfl, rfl, hO8, hG8, hB8⟩
  have hl8 := hO8.len
  have hbl8 : bl8.length = al.length := by have := congrArg List.length hB8; simpa using this
  refine qo0 3 [] [1, 4, 6] [(16, .slice q8 n8 c8), (17, .int .i64 (n8 : Nat)), (18, .int .i64 0)] (on_ (ds_ (at_block (At.pick [[bx (γ6 0) (#[.slice none 0 0]) 38], [bx (γ1 1) (#[.slice none 0 0]) 38], [bx (γ1 0) (#[.slice q m capq]) 38], Y8, Yz8] [0, 1, 3, 4] [2] (bx (γ6 0) (#[.slice none 0 0]) 38 :: bx (γ1 1) (#[.slice none 0 0]) 38 :: (Y8 ++ (Yz8 ++ []))) (by kernel_rfl) rfl rfl (at_loop (α := Nat × List Ob × Option Addr × Nat × Nat) [1, 4, 6, 16, 17, 18] (fun ⟨j, Yo, po, nu, co⟩ => [(1, .int .i64 k), (4, .pointer (some ⟨γ1 1, 0, none⟩)), (6, .pointer (some ⟨γ6 0, 0, none⟩)), (16, .slice q8 n8 c8), (17, .int .i64 (n8 : Nat)), (18, .int .i64 (j : Nat))]) (fun ⟨j, Yo, po, nu, co⟩ => bx (γ6 0) (#[.slice po nu co]) 38 :: bx (γ1 1) (#[.slice none 0 0]) 38 :: (Yo ++ (Y8 ++ (Yz8 ++ [])))) (fun ⟨j, Yo, po, nu, co⟩ => j ≤ n8 ∧ nu ≤ j ∧ SlO 46 Yo po nu co ((bl8.take j).filter fun y => !decide (y.id = k))) (fun ⟨j, Yo, po, nu, co⟩ => n8 - j) (0, [], none, 0, 0) (by kernel_rfl) rfl ⟨Nat.zero_le _, Nat.le_refl _, SlO.nil⟩ ?_)))))
  rintro ⟨j, Yo, po, nu, co⟩
  rintro ⟨hj, hnu, hO⟩
  have hlo := hO.len
  refine sq_ ?_
  by_cases q11 : ((j : Nat) : Int) < ((n8 : Nat) : Int)
  ·
   refine qa [(0, .yes)] [1, 4, 6, 16, 17, 18] [(19, .bool true)] ([((j : Nat) : Int) < ((n8 : Nat) : Int)]) (al1 q11) (ds_ (sq_ (t_ (at_skip (ds_ (sq_ (at_block (sq_ (At.pick [[bx (γ6 0) (#[.slice po nu co]) 38], [bx (γ1 1) (#[.slice none 0 0]) 38], Yo, Y8, Yz8] [0, 1, 3, 2, 4] [] (bx (γ6 0) (#[.slice po nu co]) 38 :: bx (γ1 1) (#[.slice none 0 0]) 38 :: (Y8 ++ (Yo ++ (Yz8 ++ [])))) (by kernel_rfl) rfl rfl ?_)))))))))
   have hln14 := hO8.len
   obtain ⟨g14, cs14, rfl, rfl, hOw14⟩ := hO8.rowOf (i := j) (by omega)
   obtain ⟨x16, hx16⟩ := get_some (l := bl8) (m := j) (by omega)
   refine ma [(0, .at g14 0 j), (1, .go (ownps 2 (0 + j * 2) [.int .i64 x16.id, .slice x16.p x16.n x16.cap])), (3, .go (owns 0 0 2))] [1, 4, 6, 16, 17, 18] (fun γ17 => [(8, .pointer (some ⟨γ17 0, 0, none⟩))]) (fun γ17 L => bx (γ17 0) (#[.int .i64 x16.id, .slice x16.p x16.n x16.cap]) 46 :: L) (fun γ17 => [(some ⟨g14, 0, none⟩ : Option Addr) = some ⟨g14, 0, none⟩, (j : Nat) = ((j : Nat) : Int), j < n8] ++ (acellsP cs14 (0 + j * 2) [.int .i64 x16.id, .slice x16.p x16.n x16.cap])) (fun γ17 => (alA (al2 rfl (al2 rfl (al1 (by omega)))) (rda_pre (hOw14.rdx hO8.len hx16) _ rfl))) (fun γ17 => ds_ (sq_ ?_))
   by_cases q19 : (x16.id : Int) ≠ (k : Int)
   ·
    refine qa [(1, .go (owns 0 0 1)), (3, .yes)] [1, 4, 6, 8, 16, 17, 18] [(25, .bool true)] ([(x16.id : Int) ≠ (k : Int)]) (al1 q19) (ds_ (t_ (ao_ (mo0 4 [(1, .go (owns 1 0 1)), (2, .go (owns 0 0 2))] [1, 4, 6, 16, 17, 18] (fun γ21 => [(27, .slice po nu co), (29, .slice (some ⟨γ21 0, 0, none⟩) 1 1)]) (fun γ21 L => bx (γ21 0) (#[.int .i64 x16.id, .slice x16.p x16.n x16.cap]) 46 :: L) (fun γ21 => ops_append (α := GngA) [bx (γ21 0) (#[.int .i64 x16.id, .slice x16.p x16.n x16.cap]) 46, bx (γ17 0) (#[.int .i64 x16.id, .slice x16.p x16.n x16.cap]) 46, bx (γ6 0) (#[.slice po nu co]) 38, bx (γ1 1) (#[.slice none 0 0]) 38, bx g14 cs14 46] Yo (Yz8 ++ []) (.refl _) rfl (by kernel_rfl) (by kernel_rfl) (p := po) (n := nu) (cap := co) (m := 1) (yv := .slice (some ⟨γ21 0, 0, none⟩) 1 1) (by kernel_rfl) (by kernel_rfl) (T := 46) (by_ := 32) (by kernel_rfl) ((bl8.take j).filter fun y => !decide (y.id = k)) ([(⟨x16.id, x16.p, x16.n, x16.cap, x16.l⟩ : GngA)]) hO (fun w hw => src_svn Try.underlying36 (sv_row (hw.row 0 rfl) (by rfl)) (by rfl)) (by rfl) (by have hmx : maxLen = 9223372036854775807 := rfl; omega) (by have hmx : maxLen = 9223372036854775807 := rfl; omega) (fun Y22 p22 cap22 hO22 => mo0 2 [(6, .go (owns 2 0 1))] [1, 4, 6, 16, 17, 18] (fun _ => []) (fun _ L => (L.set 2 (bx (γ6 0) (#[.slice p22 (nu + 1) cap22]) 38))) (fun _ => on_ (done_block (ds_ (qa [(0, .fit)] [1, 4, 6, 16, 17] [(18, .int .i64 (j + 1 : Nat))] ([Fit .i64 ((j + 1 : Nat))]) (al1 (fit64 (by omega) (by omega))) (Done.pick [[bx (γ21 0) (#[.int .i64 x16.id, .slice x16.p x16.n x16.cap]) 46], [bx (γ17 0) (#[.int .i64 x16.id, .slice x16.p x16.n x16.cap]) 46], [bx (γ6 0) (#[.slice p22 (nu + 1) cap22]) 38], [bx (γ1 1) (#[.slice none 0 0]) 38], [bx g14 cs14 46], Y22, Yz8] [2, 3, 5, 4, 6] [0, 1] (bx (γ6 0) (#[.slice p22 (nu + 1) cap22]) 38 :: bx (γ1 1) (#[.slice none 0 0]) 38 :: (Y22 ++ ([bx g14 cs14 46] ++ (Yz8 ++ [])))) (by kernel_rfl) rfl rfl ?_)))))))))))
    exact dr [1, 4, 6, 16, 17, 18] (j + 1, Y22, p22, (nu + 1), cap22) ⟨by omega, by omega, SlO.as14 hO22 (filt_yes hx16 (by rw [decide_eq_false (show ¬ x16.id = k by omega)]; rfl)).symm⟩
   ·
    refine qa [(1, .go (owns 0 0 1)), (3, .no)] [1, 4, 6, 8, 16, 17, 18] [(25, .bool false)] ([¬ ((x16.id : Int) ≠ (k : Int))]) (al1 q19) (ds_ (f_ (at_skip (done_block (ds_ (qa [(0, .fit)] [1, 4, 6, 16, 17] [(18, .int .i64 (j + 1 : Nat))] ([Fit .i64 ((j + 1 : Nat))]) (al1 (fit64 (by omega) (by omega))) (Done.pick [[bx (γ17 0) (#[.int .i64 x16.id, .slice x16.p x16.n x16.cap]) 46], [bx (γ6 0) (#[.slice po nu co]) 38], [bx (γ1 1) (#[.slice none 0 0]) 38], [bx g14 cs14 46], Yo, Yz8] [1, 2, 4, 3, 5] [0] (bx (γ6 0) (#[.slice po nu co]) 38 :: bx (γ1 1) (#[.slice none 0 0]) 38 :: (Yo ++ ([bx g14 cs14 46] ++ (Yz8 ++ [])))) (by kernel_rfl) rfl rfl ?_)))))))
    exact dr [1, 4, 6, 16, 17, 18] (j + 1, Yo, po, nu, co) ⟨by omega, by omega, SlO.as14 hO (filt_not hx16 (by rw [decide_eq_true (show x16.id = k by omega)]; rfl)).symm⟩
  ·
   refine qa [(0, .no)] [1, 4, 6, 16, 17, 18] [(19, .bool false)] ([¬ (((j : Nat) : Int) < ((n8 : Nat) : Int))]) (al1 q11) (ds_ (sq_ (f_ (at_leave _ rfl (ds_ (sq_ (ma0 [(0, .go (owns 0 0 1)), (1, .go (owns 1 0 1))] [4] (fun _ => [(5, .int .i64 0)]) (fun _ L => (L.set 1 (bx (γ1 1) (#[.slice po nu co]) 38))) (fun _ => ds_ (rt (owns 1 0 1) (.tuple #[.agg #[.slice po nu co], .int .i64 0]) ?_)))))))))
   obtain ⟨Yq, hsq, hGq⟩ := GotG.filter (fun y => !decide (y.id = k)) hG8
   rw [List.take_of_length_le (by omega)] at hO
   exact fun w' hw => ⟨_, _, _, _, _, Yq, _, rfl, (rp_ok hgd hx0 hk0 hB8).symm, hO, hGq, hw.below, Hs.sub (two_tails14 (Hs.pick [[bx (γ6 0) (#[.slice po nu co]) 38], [bx (γ1 1) (#[.slice po nu co]) 38], Yo, Y8, Yz8] [2, 4] [0, 1, 3] (by kernel_rfl) hw)) ((List.Sublist.refl _).append hsq)⟩

set_option maxRecDepth 100000 in
theorem rleave_t (q : Option Addr) (m capq : Nat) (al : List GngA) (k : Int) (w : World)
 (hal : Sv w q al) (hma : m = al.length) (hbm : m ≤ 1000) (hnm : ∀ x ∈ al, x.Reads w) (hm9 : ∀ x ∈ al, x.n ≤ 1000)
 (hgd : gangB (al.map GngA.val) = true)
 : Calls Try.prog 49 #[.agg #[.slice q m capq], .int .i64 k] w fun e w' => ∃ er q' n' c' Y Yi bl, e = .returned (.tuple #[.agg #[.slice q' n' c'], .int .i64 er]) ∧ (bl.map GngA.val, er) = movG (al.map GngA.val) (leaveC (al.map GngA.val) k) ∧ SlO 46 Y q' n' c' bl ∧ GotG 3 Yi bl ∧ Below w.heap.size w w' ∧ Hs w (Y ++ Yi) w' := by
 refine enter (Hs.start w) Try.func49 rfl Try.ntmps49 rfl (sq_ (ma0 [] [1] (fun γ1 => [(2, .pointer (some ⟨γ1 0, 0, none⟩)), (4, .pointer (some ⟨γ1 1, 0, none⟩))]) (fun γ1 L => bx (γ1 1) (#[.slice none 0 0]) 38 :: bx (γ1 0) (#[.slice q m capq]) 38 :: L) (fun γ1 => ds_ (sq_ (ao_ (qo0 2 [(0, .go (owns 1 0 1))] [1, 2, 4] [(13, .agg #[.slice q m capq]), (14, .int .i64 k)] (cD (.int .i64 (rofV (al.map GngA.val) k)) Try.call24 (fun w hw => rof_t q m capq al k w (hal.kept hw.below) hma (by omega) (fun x hx => (hnm x hx).kept hw.below) hm9) (qo0 1 [] [1, 2, 4] [(6, .int .i64 (rofV (al.map GngA.val) k))] (on_ (ds_ (sq_ (sq_ ?_))))))))))))
 by_cases q5 : ((rofV (al.map GngA.val) k) : Int) = (0 : Int)
 ·
  refine qa [(1, .yes)] [1, 2, 4, 6] [(17, .bool true)] ([((rofV (al.map GngA.val) k) : Int) = (0 : Int)]) (al1 q5) (ds_ (t_ (sq_ (qa0 [(1, .go (owns 0 0 1))] [4] [(5, .int .i64 4)] (ds_ (rt (owns 0 0 1) (.tuple #[.agg #[.slice none 0 0], .int .i64 4]) ?_))))))
  exact fun w' hw => ⟨_, none, 0, 0, [], [], [], rfl, (rl_none hgd q5).symm, SlO.nil, GotG.nil, hw.below, hw.sub (List.nil_sublist _)⟩
 ·
  refine qa [(1, .no)] [1, 2, 4, 6] [(17, .bool false)] ([¬ (((rofV (al.map GngA.val) k) : Int) = (0 : Int))]) (al1 q5) (ds_ (f_ (at_skip (ds_ (sq_ (sq_ ?_))))))
  obtain ⟨i0, x0, hx0, hp0, hlow, hrx⟩ := rof_ex q5
  have hlf := less_of hgd hx0 hp0
  have hnx0 : x0.n = x0.l.length := (hnm x0 (List.mem_of_getElem? hx0)).hn
  have hi0 := (List.getElem?_eq_some_iff.1 hx0).1
  refine ao_ (qo0 2 [(0, .go (owns 1 0 1))] [1, 2, 4, 6] [(19, .agg #[.slice q m capq]), (20, .int .i64 (rofV (al.map GngA.val) k))] (cD (.slice x0.p x0.n x0.cap) Try.call23 (fun w hw => by have := rget_t q m capq al (rofV (al.map GngA.val) k) w (hal.kept hw.below) hma hbm (fun x hx => (hnm x hx).kept hw.below) hm9; rw [get_id hgd hx0 hrx] at this; exact this) ?_))
  by_cases q11 : ((x0.n : Nat) : Int) = (2 : Int)
  ·
   refine qo 2 [(4, .yes)] [1, 2, 4, 6] [(23, .bool true)] ([((x0.n : Nat) : Int) = (2 : Int)]) (al1 q11) (on_ (ds_ (t_ (sq_ (ao_ (qo0 2 [(0, .go (owns 1 0 1))] [4] [(24, .agg #[.slice q m capq]), (25, .int .i64 (rofV (al.map GngA.val) k))] (cP (fun v L' => ∃ er q_ n_ c_ Y_ Z_ bl_, v = .tuple #[.agg #[.slice q_ n_ c_], .int .i64 er] ∧ L' = List.take 2 ([bx (γ1 1) (#[.slice none 0 0]) 38, bx (γ1 0) (#[.slice q m capq]) 38]) ++ (Y_ ++ (Z_ ++ List.drop 2 ([bx (γ1 1) (#[.slice none 0 0]) 38, bx (γ1 0) (#[.slice q m capq]) 38]))) ∧ SlO 46 Y_ q_ n_ c_ bl_ ∧ GotG 3 Z_ bl_ ∧ (bl_.map GngA.val, er) = movG (al.map GngA.val) (leaveC (al.map GngA.val) k)) Try.call48 (fun w hw => (rpart_t q m capq al (rofV (al.map GngA.val) k) w (hal.kept hw.below) hma hbm (fun x hx => (hnm x hx).kept hw.below) hm9 hgd).mono fun e w' ⟨er, q_, n_, c_, Y_, Z_, bl_, he, hv, hO, hG, hb, hY⟩ => ⟨_, _, he, ⟨er, q_, n_, c_, Y_, Z_, bl_, rfl, rfl, hO, hG, by rw [hv, ← hrx]; exact rl_two hgd hx0 hp0 hlow (by omega)⟩, hs_re (hw.join hb hY 2)⟩) ?_)))))))
   rintro v14 L14 ⟨er14, q14, n14, c14, Y14, Yz14, bl14, rfl, rfl, hO14, hG14, hV14⟩
   refine mo0 4 [(5, .go (owns 0 0 1))] [4] (fun _ => [(5, .int .i64 er14)]) (fun _ L => (L.set 0 (bx (γ1 1) (#[.slice q14 n14 c14]) 38))) (fun _ => on_ (ds_ (rt (owns 0 0 1) (.tuple #[.agg #[.slice q14 n14 c14], .int .i64 er14]) ?_)))
   exact fun w' hw => ⟨_, _, _, _, _, _, _, rfl, hV14, hO14, hG14, hw.below, two_tails14 (Hs.pick [[bx (γ1 1) (#[.slice q14 n14 c14]) 38], [bx (γ1 0) (#[.slice q m capq]) 38], Y14, Yz14] [2, 3] [0, 1] (by kernel_rfl) hw)⟩
  ·
   refine qo 2 [(4, .no)] [1, 2, 4, 6] [(23, .bool false)] ([¬ (((x0.n : Nat) : Int) = (2 : Int))]) (al1 q11) (on_ (ds_ (f_ (at_skip (ds_ (sq_ (ao_ (qo0 1 [(0, .go (owns 1 0 1))] [1, 4, 6] [(29, .agg #[.slice q m capq])] (cP (fun v L' => ∃ q_ n_ c_ Y_ Z_ bl_, v = .agg #[.slice q_ n_ c_] ∧ L' = List.take 2 ([bx (γ1 1) (#[.slice none 0 0]) 38, bx (γ1 0) (#[.slice q m capq]) 38]) ++ (Y_ ++ (Z_ ++ List.drop 2 ([bx (γ1 1) (#[.slice none 0 0]) 38, bx (γ1 0) (#[.slice q m capq]) 38]))) ∧ SlO 46 Y_ q_ n_ c_ bl_ ∧ GotG 3 Z_ bl_ ∧ bl_.map GngA.val = (al.map GngA.val)) Try.call28 (fun w hw => (rcopy_t q m capq al w (hal.kept hw.below) hma hbm (fun x hx => (hnm x hx).kept hw.below) hm9).mono fun e w' ⟨q_, n_, c_, Y_, bl_, Z_, he, hO, hG, hB, hb, hY⟩ => ⟨_, _, he, ⟨q_, n_, c_, Y_, Z_, bl_, rfl, rfl, hO, hG, hB⟩, hs_re (hw.join hb hY 2)⟩) ?_)))))))))
   rintro v18 L18 ⟨q18, n18, c18, Y18, Yz18, bl18, rfl, rfl, hO18, hG18, hB18⟩
   have hl18 := hO18.len
   have hbl18 : bl18.length = al.length := by have := congrArg List.length hB18; simpa using this
   refine mo0 2 [(3, .go (owns 0 0 1))] [1, 4, 6] (fun γ19 => [(7, .pointer (some ⟨γ19 0, 0, none⟩))]) (fun γ19 L => bx (γ19 0) (#[.slice q18 n18 c18]) 38 :: L) (fun γ19 => on_ (ds_ (sq_ (sq_ (qa0 [(1, .go (owns 0 0 1))] [1, 4, 6, 7] [(32, .slice q18 n18 c18), (33, .int .i64 (n18 : Nat)), (34, .int .i64 0)] (ds_ (at_block (At.pick [[bx (γ19 0) (#[.slice q18 n18 c18]) 38], [bx (γ1 1) (#[.slice none 0 0]) 38], [bx (γ1 0) (#[.slice q m capq]) 38], Y18, Yz18] [0, 1, 3, 4] [2] (bx (γ19 0) (#[.slice q18 n18 c18]) 38 :: bx (γ1 1) (#[.slice none 0 0]) 38 :: (Y18 ++ (Yz18 ++ []))) (by kernel_rfl) rfl rfl (at_loop (α := Nat × List GngA × List Ob × Option Addr × Nat × List Ob) [1, 4, 6, 7, 32, 33, 34] (fun ⟨j, bb, Yo, po, co, Yi⟩ => [(1, .int .i64 k), (4, .pointer (some ⟨γ1 1, 0, none⟩)), (6, .int .i64 (rofV (al.map GngA.val) k)), (7, .pointer (some ⟨γ19 0, 0, none⟩)), (32, .slice po n18 co), (33, .int .i64 (n18 : Nat)), (34, .int .i64 (j : Nat))]) (fun ⟨j, bb, Yo, po, co, Yi⟩ => bx (γ19 0) (#[.slice po n18 co]) 38 :: bx (γ1 1) (#[.slice none 0 0]) 38 :: (Yo ++ (Yi ++ []))) (fun ⟨j, bb, Yo, po, co, Yi⟩ => j ≤ n18 ∧ SlO 46 Yo po n18 co bb ∧ GotG 3 Yi bb ∧ bb.drop j = bl18.drop j ∧ bb.map GngA.val = (if i0 < j then (al.map GngA.val).set i0 (x0.id, lessL x0.l k) else (al.map GngA.val))) (fun ⟨j, bb, Yo, po, co, Yi⟩ => n18 - j) (0, bl18, Y18, q18, c18, Yz18) (by kernel_rfl) rfl ⟨Nat.zero_le _, hO18, hG18, rfl, by rw [if_neg (by omega)]; exact hB18⟩ ?_)))))))))
   rintro ⟨j, bb, Yo, po, co, Yi⟩
   rintro ⟨hj, hO, hG, hD, hV⟩
   have hlo := hO.len
   refine sq_ ?_
   by_cases q22 : ((j : Nat) : Int) < ((n18 : Nat) : Int)
   ·
    refine qa [(0, .yes)] [1, 4, 6, 7, 32, 33, 34] [(35, .bool true)] ([((j : Nat) : Int) < ((n18 : Nat) : Int)]) (al1 q22) (ds_ (sq_ (t_ (at_skip (ds_ (sq_ (at_block (sq_ ?_))))))))
    have hln25 := hO.len
    obtain ⟨g25, cs25, rfl, rfl, hOw25⟩ := hO.rowOf (i := j) (by omega)
    obtain ⟨x27, hx27⟩ := get_some (l := bb) (m := j) (by omega)
    refine ma [(1, .at g25 0 j), (2, .go (ownps 2 (0 + j * 2) [.int .i64 x27.id, .slice x27.p x27.n x27.cap])), (5, .go (owns 0 0 2))] [1, 4, 6, 7, 32, 33, 34] (fun γ28 => [(8, .int .i64 (j : Nat)), (9, .pointer (some ⟨γ28 0, 0, none⟩))]) (fun γ28 L => bx (γ28 0) (#[.int .i64 x27.id, .slice x27.p x27.n x27.cap]) 46 :: L) (fun γ28 => [(some ⟨g25, 0, none⟩ : Option Addr) = some ⟨g25, 0, none⟩, (j : Nat) = ((j : Nat) : Int), j < n18] ++ (acellsP cs25 (0 + j * 2) [.int .i64 x27.id, .slice x27.p x27.n x27.cap])) (fun γ28 => (alA (al2 rfl (al2 rfl (al1 (by omega)))) (rda_pre (hOw25.rdx hO.len hx27) _ rfl))) (fun γ28 => ds_ (sq_ (sq_ ?_)))
    by_cases q30 : (x27.id : Int) ≠ ((rofV (al.map GngA.val) k) : Int)
    ·
     refine qa [(1, .go (owns 0 0 1)), (3, .yes)] [1, 4, 6, 7, 8, 9, 32, 33, 34] [(42, .bool true)] ([(x27.id : Int) ≠ ((rofV (al.map GngA.val) k) : Int)]) (al1 q30) (ds_ (t_ (at_leave _ rfl (ds_ (qa [(0, .fit)] [1, 4, 6, 7, 32, 33] [(34, .int .i64 (j + 1 : Nat))] ([Fit .i64 ((j + 1 : Nat))]) (al1 (fit64 (by omega) (by omega))) (Done.pick [[bx (γ28 0) (#[.int .i64 x27.id, .slice x27.p x27.n x27.cap]) 46], [bx (γ19 0) (#[.slice (some ⟨g25, 0, none⟩) n18 co]) 38], [bx (γ1 1) (#[.slice none 0 0]) 38], [bx g25 cs25 46], Yi] [1, 2, 3, 4] [0] (bx (γ19 0) (#[.slice (some ⟨g25, 0, none⟩) n18 co]) 38 :: bx (γ1 1) (#[.slice none 0 0]) 38 :: ([bx g25 cs25 46] ++ (Yi ++ []))) (by kernel_rfl) rfl rfl ?_))))))
     exact dr [1, 4, 6, 7, 32, 33, 34] (j + 1, bb, ([bx g25 cs25 46]), (some ⟨g25, 0, none⟩), co, Yi) ⟨by omega, hO, hG, lv_on hgd hx0 hB18 hD hV hx27 (by omega)⟩
    ·
     refine qa [(1, .go (owns 0 0 1)), (3, .no)] [1, 4, 6, 7, 8, 9, 32, 33, 34] [(42, .bool false)] ([¬ ((x27.id : Int) ≠ ((rofV (al.map GngA.val) k) : Int))]) (al1 q30) (ds_ (f_ (at_skip (ds_ (sq_ ?_)))))
     obtain ⟨Ya5, Yx5, Yb5, rfl, hOx5, hcut5⟩ := hG.cutG hx27
     refine At.as (L' := bx (γ28 0) (#[.int .i64 x27.id, .slice x27.p x27.n x27.cap]) 46 :: bx (γ19 0) (#[.slice (some ⟨g25, 0, none⟩) n18 co]) 38 :: bx (γ1 1) (#[.slice none 0 0]) 38 :: bx g25 cs25 46 :: (Ya5 ++ (Yx5 ++ (Yb5 ++ [])))) (by simp only [List.append_assoc, List.cons_append, List.nil_append]) ?_
     obtain ⟨p9, hp9⟩ : ∃ p, p = x27.p := ⟨_, rfl⟩
     rw [← hp9] at hOx5
     have hnx9 : x27.n = x27.l.length := hOx5.facts.1
     have hS9 : x27.n ≤ 1000 := got_small hG18 (by rw [hB18]; exact hgd) x27 (List.mem_of_getElem? (wt_get hD hx27))
     refine qa0 [] [1, 4, 6, 7, 8, 9, 32, 33, 34] [(10, .slice none 0 0)] (ds_ (sq_ (sq_ (qa [(1, .is (owns 0 1 1) (.slice p9 x27.n x27.cap))] [1, 4, 6, 7, 8, 10, 32, 33, 34] [(44, .slice p9 x27.n x27.cap), (45, .int .i64 (x27.n : Nat)), (46, .int .i64 0)] ([Value.slice x27.p x27.n x27.cap = .slice p9 x27.n x27.cap]) (al1 (by rw [hp9])) (ds_ (at_block (At.pick [[bx (γ28 0) (#[.int .i64 x27.id, .slice x27.p x27.n x27.cap]) 46], [bx (γ19 0) (#[.slice (some ⟨g25, 0, none⟩) n18 co]) 38], [bx (γ1 1) (#[.slice none 0 0]) 38], [bx g25 cs25 46], Ya5, Yx5, Yb5] [1, 2, 3, 4, 5, 6] [0] (bx (γ19 0) (#[.slice (some ⟨g25, 0, none⟩) n18 co]) 38 :: bx (γ1 1) (#[.slice none 0 0]) 38 :: bx g25 cs25 46 :: (Ya5 ++ (Yx5 ++ (Yb5 ++ [])))) (by kernel_rfl) rfl rfl (at_loop (α := Nat × List Ob × Option Addr × Nat × Nat) [1, 4, 6, 7, 8, 10, 32, 33, 34, 44, 45, 46] (fun ⟨i, Yl, pl, nl, cl⟩ => [(1, .int .i64 k), (4, .pointer (some ⟨γ1 1, 0, none⟩)), (6, .int .i64 (rofV (al.map GngA.val) k)), (7, .pointer (some ⟨γ19 0, 0, none⟩)), (8, .int .i64 (j : Nat)), (10, .slice pl nl cl), (32, .slice (some ⟨g25, 0, none⟩) n18 co), (33, .int .i64 (n18 : Nat)), (34, .int .i64 (j : Nat)), (44, .slice p9 x27.n x27.cap), (45, .int .i64 (x27.n : Nat)), (46, .int .i64 (i : Nat))]) (fun ⟨i, Yl, pl, nl, cl⟩ => bx (γ19 0) (#[.slice (some ⟨g25, 0, none⟩) n18 co]) 38 :: bx (γ1 1) (#[.slice none 0 0]) 38 :: bx g25 cs25 46 :: (Yl ++ (Ya5 ++ (Yx5 ++ (Yb5 ++ []))))) (fun ⟨i, Yl, pl, nl, cl⟩ => i ≤ x27.n ∧ nl ≤ i ∧ SlO 3 Yl pl nl cl (lessL (x27.l.take i) k)) (fun ⟨i, Yl, pl, nl, cl⟩ => x27.n - i) (0, [], none, 0, 0) (by kernel_rfl) rfl ⟨Nat.zero_le _, Nat.le_refl _, SlO.nil⟩ ?_))))))))
     rintro ⟨i, Yl, pl, nl, cl⟩
     rintro ⟨hi, hnl, hOl⟩
     have hll := hOl.len
     refine sq_ ?_
     by_cases q37 : ((i : Nat) : Int) < ((x27.n : Nat) : Int)
     ·
      refine qa [(0, .yes)] [1, 4, 6, 7, 8, 10, 32, 33, 34, 44, 45, 46] [(47, .bool true)] ([((i : Nat) : Int) < ((x27.n : Nat) : Int)]) (al1 q37) (ds_ (sq_ (t_ (at_skip (ds_ (sq_ (at_block (sq_ (At.pick [[bx (γ19 0) (#[.slice (some ⟨g25, 0, none⟩) n18 co]) 38], [bx (γ1 1) (#[.slice none 0 0]) 38], [bx g25 cs25 46], Yl, Ya5, Yx5, Yb5] [0, 1, 2, 5, 3, 4, 6] [] (bx (γ19 0) (#[.slice (some ⟨g25, 0, none⟩) n18 co]) 38 :: bx (γ1 1) (#[.slice none 0 0]) 38 :: bx g25 cs25 46 :: (Yx5 ++ (Yl ++ (Ya5 ++ (Yb5 ++ []))))) (by kernel_rfl) rfl rfl ?_)))))))))
      have hln40 := hOx5.len
      obtain ⟨g40, cs40, rfl, rfl, hOw40⟩ := hOx5.rowOf (i := i) (by omega)
      obtain ⟨x42, hx42⟩ := get_some (l := x27.l) (m := i) (by omega)
      refine qa [(0, .at g40 0 i), (1, .go (ownps 3 (0 + i * 1) [.int .i64 x42]))] [1, 4, 6, 7, 8, 10, 32, 33, 34, 44, 45, 46] [(12, .int .i64 x42)] ([(some ⟨g40, 0, none⟩ : Option Addr) = some ⟨g40, 0, none⟩, (i : Nat) = ((i : Nat) : Int), i < x27.n] ++ (acellsP cs40 (0 + i * 1) [.int .i64 x42])) (alA (al2 rfl (al2 rfl (al1 (by omega)))) (rda_pre (hOw40.rdx hOx5.len hx42) _ rfl)) (ds_ (sq_ ?_))
      by_cases q45 : (x42 : Int) ≠ (k : Int)
      ·
       refine qa [(2, .yes)] [1, 4, 6, 7, 8, 10, 12, 32, 33, 34, 44, 45, 46] [(52, .bool true)] ([(x42 : Int) ≠ (k : Int)]) (al1 q45) (ds_ (t_ (ao_ (mo0 3 [] [1, 4, 6, 7, 8, 32, 33, 34, 44, 45, 46] (fun γ47 => [(53, .slice pl nl cl), (55, .slice (some ⟨γ47 0, 0, none⟩) 1 1)]) (fun γ47 L => bx (γ47 0) (#[.int .i64 x42]) 3 :: L) (fun γ47 => ops_append (α := Int) [bx (γ47 0) (#[.int .i64 x42]) 3, bx (γ19 0) (#[.slice (some ⟨g25, 0, none⟩) n18 co]) 38, bx (γ1 1) (#[.slice none 0 0]) 38, bx g25 cs25 46, bx g40 cs40 3] Yl (Ya5 ++ (Yb5 ++ [])) (.refl _) rfl (by kernel_rfl) (by kernel_rfl) (p := pl) (n := nl) (cap := cl) (m := 1) (yv := .slice (some ⟨γ47 0, 0, none⟩) 1 1) (by kernel_rfl) (by kernel_rfl) (T := 3) (by_ := 8) (by kernel_rfl) (lessL (x27.l.take i) k) ([x42]) hOl (fun w hw => src_svn Try.underlying25 (sv_row (hw.row 0 rfl) (by rfl)) (by rfl)) (by rfl) (by have hmx : maxLen = 9223372036854775807 := rfl; omega) (by have hmx : maxLen = 9223372036854775807 := rfl; omega) (fun Y48 p48 cap48 hO48 => qo0 1 [] [1, 4, 6, 7, 8, 32, 33, 34, 44, 45, 46] [(10, .slice p48 (nl + 1) cap48)] (on_ (done_block (ds_ (qa [(0, .fit)] [1, 4, 6, 7, 8, 10, 32, 33, 34, 44, 45] [(46, .int .i64 (i + 1 : Nat))] ([Fit .i64 ((i + 1 : Nat))]) (al1 (fit64 (by omega) (by omega))) (Done.pick [[bx (γ47 0) (#[.int .i64 x42]) 3], [bx (γ19 0) (#[.slice (some ⟨g25, 0, none⟩) n18 co]) 38], [bx (γ1 1) (#[.slice none 0 0]) 38], [bx g25 cs25 46], [bx g40 cs40 3], Y48, Ya5, Yb5] [1, 2, 3, 5, 6, 4, 7] [0] (bx (γ19 0) (#[.slice (some ⟨g25, 0, none⟩) n18 co]) 38 :: bx (γ1 1) (#[.slice none 0 0]) 38 :: bx g25 cs25 46 :: (Y48 ++ (Ya5 ++ ([bx g40 cs40 3] ++ (Yb5 ++ []))))) (by kernel_rfl) rfl rfl ?_)))))))))))
       exact dr [1, 4, 6, 7, 8, 10, 32, 33, 34, 44, 45, 46] (i + 1, Y48, p48, (nl + 1), cap48) ⟨by omega, by omega, SlO.as14 hO48 (less_yes hx42 (by omega)).symm⟩
      ·
       refine qa [(2, .no)] [1, 4, 6, 7, 8, 10, 12, 32, 33, 34, 44, 45, 46] [(52, .bool false)] ([¬ ((x42 : Int) ≠ (k : Int))]) (al1 q45) (ds_ (f_ (at_skip (done_block (ds_ (qa [(0, .fit)] [1, 4, 6, 7, 8, 10, 32, 33, 34, 44, 45] [(46, .int .i64 (i + 1 : Nat))] ([Fit .i64 ((i + 1 : Nat))]) (al1 (fit64 (by omega) (by omega))) (Done.pick [[bx (γ19 0) (#[.slice (some ⟨g25, 0, none⟩) n18 co]) 38], [bx (γ1 1) (#[.slice none 0 0]) 38], [bx g25 cs25 46], [bx g40 cs40 3], Yl, Ya5, Yb5] [0, 1, 2, 4, 5, 3, 6] [] (bx (γ19 0) (#[.slice (some ⟨g25, 0, none⟩) n18 co]) 38 :: bx (γ1 1) (#[.slice none 0 0]) 38 :: bx g25 cs25 46 :: (Yl ++ (Ya5 ++ ([bx g40 cs40 3] ++ (Yb5 ++ []))))) (by kernel_rfl) rfl rfl ?_)))))))
       exact dr [1, 4, 6, 7, 8, 10, 32, 33, 34, 44, 45, 46] (i + 1, Yl, pl, nl, cl) ⟨by omega, by omega, SlO.as14 hOl (less_not hx42 (by omega)).symm⟩
     ·
      refine qa [(0, .no)] [1, 4, 6, 7, 8, 10, 32, 33, 34, 44, 45, 46] [(47, .bool false)] ([¬ (((i : Nat) : Int) < ((x27.n : Nat) : Int))]) (al1 q37) (ds_ (sq_ (f_ (at_leave _ rfl (ds_ (ma [(1, .go (owns 0 0 1)), (4, .at g25 0 j), (6, .go (ownps 2 (0 + j * 2 + 1) [undef]))] [1, 4, 6, 7, 32, 33, 34] (fun _ => []) (fun _ L => (L.set 2 (bx g25 ((cs25).setIfInBounds (0 + j * 2 + 1) (.slice pl nl cl)) 46))) (fun _ => [(some ⟨g25, 0, none⟩ : Option Addr) = some ⟨g25, 0, none⟩, (j : Nat) = ((j : Nat) : Int), j < n18] ++ ([0 + j * 2 + 1 < (cs25).size])) (fun _ => (alA (al2 rfl (al2 rfl (al1 (by omega)))) (al1 (hOw25.room hO.len hx27 (f := 1) (by decide))))) (fun _ => done_block (ds_ (qa [(0, .fit)] [1, 4, 6, 7, 32, 33] [(34, .int .i64 (j + 1 : Nat))] ([Fit .i64 ((j + 1 : Nat))]) (al1 (fit64 (by omega) (by omega))) (Done.pick [[bx (γ19 0) (#[.slice (some ⟨g25, 0, none⟩) n18 co]) 38], [bx (γ1 1) (#[.slice none 0 0]) 38], [bx g25 ((cs25).setIfInBounds (0 + j * 2 + 1) (.slice pl nl cl)) 46], Yl, Ya5, Yx5, Yb5] [0, 1, 2, 4, 3, 6] [5] (bx (γ19 0) (#[.slice (some ⟨g25, 0, none⟩) n18 co]) 38 :: bx (γ1 1) (#[.slice none 0 0]) 38 :: ([bx g25 ((cs25).setIfInBounds (0 + j * 2 + 1) (.slice pl nl cl)) 46] ++ (Ya5 ++ (Yl ++ (Yb5 ++ []))))) (by kernel_rfl) rfl rfl (Done.as (L' := bx (γ19 0) (#[.slice (some ⟨g25, 0, none⟩) n18 co]) 38 :: bx (γ1 1) (#[.slice none 0 0]) 38 :: ([bx g25 ((cs25).setIfInBounds (0 + j * 2 + 1) (.slice pl nl cl)) 46] ++ ((Ya5 ++ (Yl ++ Yb5)) ++ []))) (by simp only [List.append_assoc]) ?_)))))))))))
      exact dr [1, 4, 6, 7, 32, 33, 34] (j + 1, (bb.set j (⟨x27.id, pl, nl, cl, (lessL (x27.l.take i) k)⟩ : GngA)), ([bx g25 ((cs25).setIfInBounds (0 + j * 2 + 1) (.slice pl nl cl)) 46]), (some ⟨g25, 0, none⟩), co, Ya5 ++ (Yl ++ Yb5)) ⟨by omega, (SlO.ofOwn (hOw25.put (x' := (⟨x27.id, pl, nl, cl, (lessL (x27.l.take i) k)⟩ : GngA)) hO.len hx27 (f := 1) (by decide) rfl) (len_set hO.len)), hcut5 _ (⟨x27.id, pl, nl, cl, (lessL (x27.l.take i) k)⟩ : GngA) hOl, lv_at hgd hx0 hB18 hD hV hx27 (by have h5 := Classical.not_not.1 q30; omega) (by show (_, _) = (_, _); rw [List.take_of_length_le (by omega)])⟩
   ·
    refine qa [(0, .no)] [1, 4, 6, 7, 32, 33, 34] [(35, .bool false)] ([¬ (((j : Nat) : Int) < ((n18 : Nat) : Int))]) (al1 q22) (ds_ (sq_ (f_ (at_leave _ rfl (ds_ (sq_ (ma0 [(0, .go (owns 0 0 1)), (1, .go (owns 1 0 1))] [4] (fun _ => [(5, .int .i64 0)]) (fun _ L => (L.set 1 (bx (γ1 1) (#[.slice po n18 co]) 38))) (fun _ => ds_ (rt (owns 1 0 1) (.tuple #[.agg #[.slice po n18 co], .int .i64 0]) ?_)))))))))
    rw [if_pos (by omega)] at hV
    exact fun w' hw => ⟨_, _, _, _, _, _, _, rfl, (rl_more hgd hx0 hp0 hlow (by omega) hV).symm, hO, hG, hw.below, two_tails14 (Hs.pick [[bx (γ19 0) (#[.slice po n18 co]) 38], [bx (γ1 1) (#[.slice po n18 co]) 38], Yo, Yi] [2, 3] [0, 1] (by kernel_rfl) hw)⟩
end Go.Proofs.Ytahccegfahghfaa
