/- Texts of this proof, one behind the other. -/
import Derived.Test.YtahccegfahghfaaZc
import Derived.Test.YtahccegfahghfaaZa
import Derived.Test.YtahccegfahghfaaZb
import Derived.ProofKit
import Derived.Carry
import Derived.Deep.Slices
import Derived.Lib.SmallJoins
import Derived.Test.YtahccegfahghfaaProg
/-! Gangs: Leave; what the document does to gangs; plain. -/
namespace Go.Proofs.Ytahccegfahghfaa
open Go Go.RowKit
/-- Members without one. -/
def lessL (l : List Int) (k : Int) : List Int := l.filter fun n => !decide (n = k)
/-- Gangs without one member; a gang of one is none. -/
def cutV (k : Int) : Gs → Gs
  | [] => []
  | g :: t => if k ∈ g.2 then (if (lessL g.2 k).length < 2 then t else (g.1, lessL g.2 k) :: t) else g :: cutV k t
/-- What Leave does to a copy. -/
def leaveC (gs : Gs) (k : Int) : Gs × Int := if inV gs k = true then (cutV k gs, 0) else (gs, 4)
section
variable {al bl : List GngA} {gs : Gs} {k n : Int} {x x0 y : GngA} {i0 i j : Nat} {l : List Int} {g : Int × List Int} {T : TypeId} {Yi Y : List Ob}
theorem cut_at : ∀ {gs : Gs} {i : Nat}, gs[i]? = some g → k ∈ g.2 → (∀ (t : Nat) (y : Int × List Int), t < i → gs[t]? = some y → ¬ k ∈ y.2) → cutV k gs = if (lessL g.2 k).length < 2 then gs.take i ++ gs.drop (i + 1) else gs.set i (g.1, lessL g.2 k)
  | [], i, hg, _, _ => by simp at hg
  | a :: t, 0, hg, hk, _ => by
    simp only [List.getElem?_cons_zero, Option.some.injEq] at hg
    subst hg
    rw [cutV, if_pos hk]
    split <;> simp
  | a :: t, i + 1, hg, hk, hl => by
    simp only [List.getElem?_cons_succ] at hg
    rw [cutV, if_neg (hl 0 a (by omega) rfl), cut_at hg hk (fun s y hs he => hl (s + 1) y (by omega) (by simpa using he))]
    split <;> simp
theorem low_val (hl : ∀ (t : Nat) (y : GngA), t < i0 → al[t]? = some y → hasG k y = false) : ∀ (t : Nat) (y : Int × List Int), t < i0 → (al.map GngA.val)[t]? = some y → ¬ k ∈ y.2 := fun t y ht hy e => by
  rw [List.getElem?_map] at hy
  cases h : al[t]? with
  | none => rw [h] at hy; cases hy
  | some z =>
    rw [h] at hy
    simp only [Option.map_some, Option.some.injEq] at hy
    subst hy
    exact of_decide_eq_false (hl t z ht h) e
theorem in_at (hx : al[i0]? = some x0) (hp : hasG k x0 = true) : inV (al.map GngA.val) k = true := by
  unfold inV
  exact List.any_eq_true.2 ⟨x0.val, List.mem_map_of_mem (List.mem_of_getElem? hx), hp⟩
theorem in_none (h : ∀ x ∈ al, hasG k x = false) : inV (al.map GngA.val) k = false := by
  unfold inV
  exact List.any_eq_false.2 fun g hg e => by
    obtain ⟨x, hx, rfl⟩ := List.mem_map.1 hg
    exact Bool.false_ne_true ((h x hx).symm.trans e)
theorem lc_none (h : ∀ x ∈ al, hasG k x = false) : leaveC (al.map GngA.val) k = (al.map GngA.val, 4) := by rw [leaveC, if_neg (by rw [in_none h]; decide)]
theorem lc_two (hx : al[i0]? = some x0) (hp : hasG k x0 = true) (hl : ∀ (t : Nat) (y : GngA), t < i0 → al[t]? = some y → hasG k y = false) (h2 : (lessL x0.l k).length < 2) : leaveC (al.map GngA.val) k = (((al.set i0 y).take i0 ++ (al.set i0 y).drop (i0 + 1)).map GngA.val, 0) := by
  rw [leaveC, if_pos (in_at hx hp), cut_at (val_at hx) (of_decide_eq_true hp) (low_val hl), if_pos h2, List.map_append, List.take_set_of_le (Nat.le_refl _), List.drop_set_of_lt (Nat.lt_succ_self _), List.map_take, List.map_drop]
theorem lc_more (hx : al[i0]? = some x0) (hp : hasG k x0 = true) (hl : ∀ (t : Nat) (y : GngA), t < i0 → al[t]? = some y → hasG k y = false) (h2 : ¬ (lessL x0.l k).length < 2) (hy : y.val = (x0.id, lessL x0.l k)) : leaveC (al.map GngA.val) k = ((al.set i0 y).map GngA.val, 0) := by
  rw [leaveC, if_pos (in_at hx hp), cut_at (val_at hx) (of_decide_eq_true hp) (low_val hl), if_neg h2, List.map_set, hy]
/-- A gang's members take another block. -/
theorem GotG.cutG (h : GotG T Yi al) (hx : al[i]? = some x) : ∃ A Z B, Yi = A ++ (Z ++ B) ∧ SlO T Z x.p x.n x.cap x.l ∧ ∀ (Z' : List Ob) (y : GngA), SlO T Z' y.p y.n y.cap y.l → GotG T (A ++ (Z' ++ B)) (al.set i y) := by
  obtain ⟨A, Z, B, h1, h2, h3⟩ := GotR.cut (x := x.row) h (by rw [List.getElem?_map, hx]; rfl)
  refine ⟨A, Z, B, h1, h2, fun Z' y hy => ?_⟩
  have := h3 Z' y.row hy
  unfold GotG
  rw [List.map_set]
  exact this
/-- The blocks of those that are kept. -/
theorem GotG.filter (p : GngA → Bool) : ∀ {al : List GngA} {Yi : List Ob}, GotG T Yi al → ∃ Yi2, List.Sublist Yi2 Yi ∧ GotG T Yi2 (al.filter p)
  | [], Yi, h => ⟨[], List.nil_sublist _, GotG.nil⟩
  | x :: al, Yi, h => by
    obtain ⟨Ys, rfl, hl, hs⟩ := h
    cases Ys with
    | nil => simp at hl
    | cons Z Ys =>
      have h1 : GotG T Ys.flatten al := ⟨Ys, rfl, by simpa using hl, fun i Y y e1 e2 => hs (i + 1) Y y (by simpa using e1) (by simpa using e2)⟩
      obtain ⟨Y2, hsub, hg⟩ := GotG.filter p h1
      by_cases e : p x = true
      · rw [List.filter_cons_of_pos e]
        obtain ⟨Ys2, rfl, hl2, hs2⟩ := hg
        refine ⟨(Z :: Ys2).flatten, ?_, Z :: Ys2, rfl, by simpa using hl2, fun i Y y e1 e2 => ?_⟩
        · rw [List.flatten_cons, List.flatten_cons]; exact (List.Sublist.refl _).append hsub
        · cases i with
          | zero => exact hs 0 Y y (by simpa using e1) (by simpa using e2)
          | succ i => exact hs2 i Y y (by simpa using e1) (by simpa using e2)
      · rw [List.filter_cons_of_neg e]
        exact ⟨Y2, by rw [List.flatten_cons]; exact hsub.trans (List.sublist_append_right _ _), hg⟩
-- the first number that is free
theorem gap_spec : ∀ {gs : Gs} {a : Nat}, a ≤ gapV a gs ∧ gapV a gs ≤ a + gs.length ∧ (∀ i, a + i < gapV a gs → ∃ g, gs[i]? = some g ∧ g.1 = ((a + i : Nat) : Int) + 1) ∧ ∀ g, gs[gapV a gs - a]? = some g → ¬ g.1 = ((gapV a gs : Nat) : Int) + 1
  | [], a => ⟨Nat.le_refl _, by simp [gapV], fun i h => by simp only [gapV] at h; omega, fun g h => by simp at h⟩
  | b :: t, a => by
    unfold gapV
    split
    · rename_i e
      obtain ⟨h1, h2, h3, h4⟩ := gap_spec (gs := t) (a := a + 1)
      refine ⟨by omega, by simp only [List.length_cons]; omega, fun i hi => ?_, fun g hg => ?_⟩
      · cases i with
        | zero => exact ⟨b, rfl, by simpa using e⟩
        | succ i =>
          obtain ⟨g, hg, he⟩ := h3 i (by omega)
          exact ⟨g, by simpa using hg, by rw [he]; omega⟩
      · obtain ⟨d, hd⟩ : ∃ d, gapV (a + 1) t - a = d + 1 := ⟨gapV (a + 1) t - a - 1, by omega⟩
        rw [hd, List.getElem?_cons_succ] at hg
        exact h4 g (by rw [show gapV (a + 1) t - (a + 1) = d by omega]; exact hg)
    · rename_i e
      refine ⟨Nat.le_refl _, by omega, fun i hi => by omega, fun g hg => ?_⟩
      simp only [Nat.sub_self, List.getElem?_cons_zero, Option.some.injEq] at hg
      subst hg; exact e
theorem ris_ge (hr : Ris GngA.id al) (hp : ∀ x ∈ al, 0 < x.id) : ∀ (i : Nat) (x : GngA), al[i]? = some x → (i : Int) + 1 ≤ x.id
  | 0, x, hx => by have := hp x (List.mem_of_getElem? hx); omega
  | i + 1, x, hx => by
    have hi := (List.getElem?_eq_some_iff.1 hx).1
    have h1 : al[i]? = some al[i] := List.getElem?_eq_getElem (by omega)
    have := ris_ge hr hp i _ h1
    have := hr.at (Nat.lt_succ_self i) h1 hx
    omega
abbrev gapA (al : List GngA) : Nat := gapV 0 (al.map GngA.val)
theorem gapA_le : gapA al ≤ al.length := by have := (gap_spec (gs := al.map GngA.val) (a := 0)).2.1; rw [List.length_map] at this; show gapV 0 _ ≤ _; omega
/-- Who stands behind the first that is free has a greater number. -/
theorem gapA_gt (hg : gangB (al.map GngA.val) = true) (hi : gapA al ≤ i) (hx : al[i]? = some x) : ((gapA al : Nat) : Int) + 1 < x.id := by
  obtain ⟨hr, hp⟩ := gang_ris hg
  have hge := ris_ge hr (fun x hx => (hp x hx).1)
  have hil := (List.getElem?_eq_some_iff.1 hx).1
  have h1 : al[gapA al]? = some al[gapA al] := List.getElem?_eq_getElem (by omega)
  have h2 := hge _ _ h1
  have h3 := (gap_spec (gs := al.map GngA.val) (a := 0)).2.2.2 _ (val_at h1)
  have h4 : ¬ (al[gapA al]).id = ((gapA al : Nat) : Int) + 1 := h3
  by_cases e : gapA al = i
  · have h5 : al[gapA al]? = some x := (congrArg (fun n => al[n]?) e).trans hx
    have : al[gapA al] = x := Option.some.inj (h1.symm.trans h5)
    rw [this] at h2 h4
    omega
  · have := hr.at (show gapA al < i by omega) h1 hx
    omega
theorem gang_len8 (hg : gangB (al.map GngA.val) = true) : al.length ≤ 8 := by
  obtain ⟨hr, hp⟩ := gang_ris hg
  have := risK_len al 1 8 hr (fun x hx => by have := hp x hx; omega) (by omega)
  omega
/-- Gangs as far as they are put in again, with one more. -/
def outT (bl : List GngA) (y : GngA) (j : Nat) : List GngA := if j ≤ gapA bl then bl.take j else bl.take (gapA bl) ++ [y] ++ (bl.take j).drop (gapA bl)
end
end Go.Proofs.Ytahccegfahghfaa

/-! slices.DeleteFunc at numbers. -/
namespace Go.Proofs.Ytahccegfahghfaa
open Go Go.RowKit

set_option maxRecDepth 100000 in
theorem idelf_t (w0 : World) (X Y : List Ob) (pg : FuncId) (pcb : Array Value) (pd : Int → Bool) (p : Option Addr) (n cap : Nat) (l : List Int) (w : World)
 (he : ∀ args w, (callFunc pg args).run Try.prog w = .ok (.enter pg args) w)
 (hH : Hs w0 (Y ++ X) w) (hO : SlO 3 Y p n cap l) (hb : n ≤ 1000)
 (hc : ∀ x ∈ l, ∀ w', Hs w0 X w' → Calls Try.prog pg (#[.int .i64 x] ++ pcb) w' fun e w1 => e = .returned (.bool (pd x)) ∧ Below w'.heap.size w' w1)
 : Calls Try.prog 58 #[.slice p n cap, .func (.func pg) #[] pcb] w fun e w' => ∃ q m capq Y', e = .returned (.slice q m capq) ∧ SlO 3 Y' q m capq (l.filter fun x => !pd x) ∧ Hs w0 (Y' ++ X) w' := by
 have hn := hO.len
 refine enter hH Try.func58 rfl Try.ntmps58 rfl (sq_ (qa0 [] [0, 1] [] (ds_ (sq_ (ao_ (qo0 2 [] [0, 1] [(8, .slice p n cap), (9, .func (.func pg) #[] pcb)] ?_))))))
 rcases idxF_cases pd l with ⟨hix, hnone⟩ | ⟨i0, x0, hix, hx0, hp0, hlow⟩
 ·
  refine cD (.int .i64 (-1)) Try.call68 (fun w hw => by have := iindexf_t w0 X pg pcb pd p n cap l w he (hw.sub (List.sublist_append_right _ _)) (hO.atN (A := []) hw) hn (by omega) hc; rw [hix] at this; exact this) (qo0 1 [] [0, 1] [(5, .int .i64 (-1))] (on_ (ds_ (sq_ (sq_ (qa0 [] [0, 1, 5] [(12, .bool true)] (ds_ (t_ (sq_ (qa0 [] [] [(4, .slice p n cap)] (ds_ (rt ([]) (.slice p n cap) ?_))))))))))))
  exact fun w' hw => ⟨_, _, _, Y, rfl, by rw [filter_none hnone]; exact hO, hw⟩
 ·
  have hi0 := (List.getElem?_eq_some_iff.1 hx0).1
  refine cD (.int .i64 (i0 : Nat)) Try.call68 (fun w hw => by have := iindexf_t w0 X pg pcb pd p n cap l w he (hw.sub (List.sublist_append_right _ _)) (hO.atN (A := []) hw) hn (by omega) hc; rw [hix] at this; exact this) (qo0 1 [] [0, 1] [(5, .int .i64 (i0 : Nat))] (on_ (ds_ (sq_ (sq_ (qa [(1, .no)] [0, 1, 5] [(12, .bool false)] ([¬ (((i0 : Nat) : Int) = (-1 : Int))]) (al1 (by omega)) (ds_ (f_ (at_skip (ds_ (sq_ (sq_ (qa [(1, .fit)] [0, 1, 5] [(6, .int .i64 (i0 + 1 : Nat))] ([Fit .i64 ((i0 + 1 : Nat))]) (al1 (fit64 (by omega) (by omega))) (ds_ (at_block ?_)))))))))))))))
  obtain ⟨g, cs0, rfl, rfl, hOw0⟩ := hO.rowOf (i := i0) (by omega)
  refine at_loop (α := Nat × Nat × List Int × Array Value) [0, 1, 5, 6] (fun ⟨i, j, m, cs⟩ => [(0, .slice (some ⟨g, 0, none⟩) n cap), (1, .func (.func pg) #[] pcb), (5, .int .i64 (i : Nat)), (6, .int .i64 (j : Nat))]) (fun ⟨i, j, m, cs⟩ => bx g cs 3 :: X) (fun ⟨i, j, m, cs⟩ => Dels pd l m i j ∧ OwnS (Enc.k Int) (m.flatMap Enc.enc) n cap cs) (fun ⟨i, j, m, cs⟩ => n - j) (i0, i0 + 1, l, cs0) (by kernel_rfl) rfl ⟨Dels.start hlow hx0 hp0, hOw0⟩ ?_
  rintro ⟨i, j, m, cs⟩
  rintro ⟨hD, hOw⟩
  have hm : n = m.length := by rw [hD.len]; exact hn
  have hij := hD.lt
  have hjn := hD.le
  refine sq_ (sq_ ?_)
  by_cases q10 : ((j : Nat) : Int) < ((n : Nat) : Int)
  ·
   refine qa [(3, .yes)] [0, 1, 5, 6] [(19, .bool true)] ([((j : Nat) : Int) < ((n : Nat) : Int)]) (al1 q10) (ds_ (t_ (at_skip (ds_ (sq_ (at_block (sq_ ?_)))))))
   obtain ⟨x13, hx13⟩ := get_some (l := m) (m := j) (by omega)
   refine qa [(2, .at g 0 j), (3, .go (ownps 0 (0 + j * 1) [.int .i64 x13]))] [0, 1, 5, 6] [(7, .int .i64 x13)] ([(some ⟨g, 0, none⟩ : Option Addr) = some ⟨g, 0, none⟩, (j : Nat) = ((j : Nat) : Int), j < n] ++ (acellsP cs (0 + j * 1) [.int .i64 x13])) (alA (al2 rfl (al2 rfl (al1 (by omega)))) (rda_pre (hOw.rdx hm hx13) _ rfl)) (ds_ (sq_ (ao_ (qo0 2 [] [0, 1, 5, 6, 7] [(26, .func (.func pg) #[] pcb), (27, .int .i64 x13)] ?_))))
   rcases q16 : pd x13 with _ | _
   ·
    refine cD (.bool false) he (fun w hw => by have := hc x13 (List.mem_of_getElem? (hD.get hx13)) w (hw.tailN 1); rw [q16] at this; exact this) (qo0 1 [] [0, 1, 5, 6, 7] [(29, .bool true)] (on_ (ds_ (t_ (sq_ ?_)))))
    obtain ⟨x19, hx19⟩ := get_some (l := m) (m := i) (by omega)
    refine ma [(3, .at g 0 i), (4, .go (ownps 0 (0 + i * 1) [undef]))] [0, 1, 5, 6] (fun _ => []) (fun _ L => (L.set 0 (bx g ((cs).setIfInBounds (0 + i * 1) (.int .i64 x13)) 3))) (fun _ => [(some ⟨g, 0, none⟩ : Option Addr) = some ⟨g, 0, none⟩, (i : Nat) = ((i : Nat) : Int), i < n] ++ ([0 + i * 1 < (cs).size])) (fun _ => (alA (al2 rfl (al2 rfl (al1 (by omega)))) (al1 (hOw.room hm hx19 (f := 0) (by decide))))) (fun _ => ds_ (qa [(1, .fit)] [0, 1, 6] [(5, .int .i64 (i + 1 : Nat))] ([Fit .i64 ((i + 1 : Nat))]) (al1 (fit64 (by omega) (by omega))) (done_block (ds_ (qa [(1, .fit)] [0, 1, 5] [(6, .int .i64 (j + 1 : Nat))] ([Fit .i64 ((j + 1 : Nat))]) (al1 (fit64 (by omega) (by omega))) ?_)))))
    exact dr [0, 1, 5, 6] (i + 1, j + 1, m.set i x13, (cs).setIfInBounds (0 + i * 1) (.int .i64 x13)) ⟨hD.no hx13 q16, (hOw.put (x' := x13) hm hx19 (f := 0) (by decide) rfl)⟩
   ·
    refine cD (.bool true) he (fun w hw => by have := hc x13 (List.mem_of_getElem? (hD.get hx13)) w (hw.tailN 1); rw [q16] at this; exact this) (qo0 1 [] [0, 1, 5, 6, 7] [(29, .bool false)] (on_ (ds_ (f_ (at_skip (done_block (ds_ (qa [(1, .fit)] [0, 1, 5] [(6, .int .i64 (j + 1 : Nat))] ([Fit .i64 ((j + 1 : Nat))]) (al1 (fit64 (by omega) (by omega))) ?_))))))))
    exact dr [0, 1, 5, 6] (i, j + 1, m, cs) ⟨hD.yes hx13 q16, hOw⟩
  ·
   refine qa [(3, .no)] [0, 1, 5, 6] [(19, .bool false)] ([¬ (((j : Nat) : Int) < ((n : Nat) : Int))]) (al1 q10) (ds_ (f_ (at_leave _ rfl (ds_ (sq_ (ao_ (qo 3 [(2, .sl (.slice (some ⟨g, 0 + i * 1, none⟩) (n - i) (cap - i)))] [0, 5] [(38, .slice (some ⟨g, 0 + i * 1, none⟩) (n - i) (cap - i))] ([SlRun Try.prog 25 (.slice (some ⟨g, 0, none⟩) n cap) (some (.int .i64 (i : Nat))) none none (.slice (some ⟨g, 0 + i * 1, none⟩) (n - i) (cap - i))]) (al1 (slE_lo (P := Try.prog) (T := 25) (e := 3) (k := 1) (by_ := 8) (by kernel_rfl) (lo := i) (by omega) (by have := hOw.le; omega))) ?_)))))))
   have hcs := hOw.csz
   refine ops_clear 0 rfl (by kernel_rfl) (by kernel_rfl) (g := g) (of := 0 + i * 1) (n := n - i) (dc := cap - i) (c := cs) (by kernel_rfl) (T := 3) (ks := 1) (by_ := 8) (by kernel_rfl) (by kernel_rfl) rfl (mul_room (c := cap) (by have := hOw.le; omega) hcs) (fun c2 hc2 hpre2 => on_ (ds_ (sq_ (qa [(2, .sl (.slice (some ⟨g, 0, none⟩) i cap))] [] [(4, .slice (some ⟨g, 0, none⟩) i cap)] ([SlRun Try.prog 25 (.slice (some ⟨g, 0, none⟩) n cap) none (some (.int .i64 (i : Nat))) none (.slice (some ⟨g, 0, none⟩) i cap)]) (al1 (slE_hi (P := Try.prog) (T := 25) (e := 3) (k := 1) (by_ := 8) (by kernel_rfl) (h := i) (by have := hOw.le; omega))) (ds_ (rt ([]) (.slice (some ⟨g, 0, none⟩) i cap) ?_))))))
   exact fun w' hw => ⟨_, _, _, [_], rfl, by rw [← hD.done (j := j) (by omega)]; exact .inr ⟨_, _, rfl, rfl, by rw [List.length_take]; omega, hOw.cut hm (by omega) hc2 hpre2⟩, hw⟩

set_option maxRecDepth 100000 in
theorem leave11_t (x : Int) (g : Nat) (k : Int) (w : World)
 (hk : Rd w g (0 + 0 * 1) [.int .i64 k])
 : Calls Try.prog 59 #[.int .i64 x, .pointer (some ⟨g, 0 + 0 * 1, none⟩)] w fun e w' => e = .returned (.bool (decide (x = k))) ∧ Below w.heap.size w w' := by
 refine enter (Hs.start w) Try.func59 rfl Try.ntmps59 rfl (sq_ (qa0 [] [0, 1] [] (ds_ (sq_ ?_))))
 by_cases q3 : (x : Int) = (k : Int)
 ·
  refine qa [(1, .go (outs g (0 + 0 * 1) [.int .i64 k])), (2, .yes)] [] [(3, .bool true)] (cellsP w g (0 + 0 * 1) [.int .i64 k] ++ ([(x : Int) = (k : Int)])) (alA (rd_pre hk _ rfl) (al1 q3)) (ds_ (rt ([]) (.bool true) ?_))
  exact fun w' hw => ⟨by rw [show decide (x = k) = true from decide_eq_true (by omega)], hw.below⟩
 ·
  refine qa [(1, .go (outs g (0 + 0 * 1) [.int .i64 k])), (2, .no)] [] [(3, .bool false)] (cellsP w g (0 + 0 * 1) [.int .i64 k] ++ ([¬ ((x : Int) = (k : Int))])) (alA (rd_pre hk _ rfl) (al1 q3)) (ds_ (rt ([]) (.bool false) ?_))
  exact fun w' hw => ⟨by rw [show decide (x = k) = false from decide_eq_false (by omega)], hw.below⟩
end Go.Proofs.Ytahccegfahghfaa

/-! Gangs: Leave. -/
namespace Go.Proofs.Ytahccegfahghfaa
open Go Go.RowKit

set_option maxRecDepth 100000 in
theorem leave1_t (w0 : World) (Y Yi YR : List Ob) (gb gk : Nat) (q : Option Addr) (m capq : Nat) (bl : List GngA) (k : Int) (w : World)
 (hbm : m ≤ 1000) (hO : SlO 46 Y q m capq bl) (hG : GotG 3 Yi bl) (hgd : gangB (bl.map GngA.val) = true) (hH : Hs w0 (bx gb #[.slice q m capq] 38 :: bx gk #[.int .i64 k] 3 :: (Y ++ (Yi ++ YR))) w)
 : Calls Try.prog 57 #[.pointer (some ⟨gb, 0, none⟩), .pointer (some ⟨gk, 0, none⟩)] w fun e w' => ∃ er q2 n2 c2 Y2 Yi2 bl2, e = .returned (.int .i64 er) ∧ (bl2.map GngA.val, er) = leaveC (bl.map GngA.val) k ∧ SlO 46 Y2 q2 n2 c2 bl2 ∧ GotG 3 Yi2 bl2 ∧ Hs w0 (bx gb #[.slice q2 n2 c2] 38 :: bx gk #[.int .i64 k] 3 :: (Y2 ++ (Yi2 ++ YR))) w' := by
 have hma := hO.len
 have hm9 := got_small hG hgd
 rw [show YR = YR ++ [] from (List.append_nil _).symm] at hH
 refine enter hH Try.func57 rfl Try.ntmps57 rfl (sq_ (qa0 [] [0, 1] [] (ds_ (sq_ ?_))))
 refine at_calm rfl (by kernel_rfl) (by kernel_rfl) ?_
 refine cm 4 [(2, .go (owns 0 0 1)), (3, .go (owns 1 0 1))] [0, 1] [(8, .agg #[.slice q m capq]), (9, .int .i64 k)] ([]) (by kernel_rfl) rfl al0 ?_
 rcases idxF_cases (hasG k) bl with ⟨hix, hnone⟩ | ⟨i0, x0, hix, hx0, hp0, hlow⟩
 ·
  refine cK (.int .i64 (-1)) Try.call45 (fun w hw => by have := place_t q m capq bl k w (hO.atN (A := [_, _]) hw) hO.len (by omega) (GotG.reads hG hw (List.Sublist.cons _ (List.Sublist.cons _ (List.Sublist.trans (List.sublist_append_left Yi _) (List.sublist_append_right Y _))))) hm9; rw [hix] at this; exact this) ?_
  refine cm 1 [] [0, 1] [(4, .int .i64 (-1))] ([]) (by kernel_rfl) rfl al0 ?_
  refine calm_nil' ?_
  refine ds_ (sq_ (sq_ (qa0 [] [0, 1, 4] [(12, .bool true)] (ds_ (t_ (sq_ (qa0 [] [] [(3, .int .i64 4)] (ds_ (rt ([]) (.int .i64 4) ?_)))))))))
  exact fun w' hw => ⟨_, _, _, _, _, _, bl, rfl, (lc_none hnone).symm, hO, hG, (by have := Hs.pick [[bx gb (#[.slice q m capq]) 38], [bx gk (#[.int .i64 k]) 3], Y, Yi, YR] [0, 1, 2, 3, 4] [] (by kernel_rfl) hw; simpa [chunk] using this)⟩
 ·
  have hi0 := (List.getElem?_eq_some_iff.1 hx0).1
  refine cK (.int .i64 (i0 : Nat)) Try.call45 (fun w hw => by have := place_t q m capq bl k w (hO.atN (A := [_, _]) hw) hO.len (by omega) (GotG.reads hG hw (List.Sublist.cons _ (List.Sublist.cons _ (List.Sublist.trans (List.sublist_append_left Yi _) (List.sublist_append_right Y _))))) hm9; rw [hix] at this; exact this) ?_
  refine cm 1 [] [0, 1] [(4, .int .i64 (i0 : Nat))] ([]) (by kernel_rfl) rfl al0 ?_
  refine calm_nil' ?_
  refine ds_ (sq_ (sq_ (qa [(1, .no)] [0, 1, 4] [(12, .bool false)] ([¬ (((i0 : Nat) : Int) < (0 : Int))]) (al1 (by omega)) (ds_ (f_ (at_skip (ds_ (sq_ ?_))))))))
  have hln9 := hO.len
  obtain ⟨g9, cs9, rfl, rfl, hOw9⟩ := hO.rowOf (i := i0) (by omega)
  refine qa [(3, .go (owns 0 0 1)), (5, .at g9 0 i0)] [0, 1, 4] [(5, .pointer (some ⟨g9, 0 + i0 * 2, none⟩))] ([(some ⟨g9, 0, none⟩ : Option Addr) = some ⟨g9, 0, none⟩, (i0 : Nat) = ((i0 : Nat) : Int), i0 < m]) (al2 rfl (al2 rfl (al1 (by omega)))) (ds_ (sq_ ?_))
  obtain ⟨Ya5, Yx5, Yb5, rfl, hOx5, hcut5⟩ := hG.cutG hx0
  refine At.as (L' := bx gb (#[.slice (some ⟨g9, 0, none⟩) m capq]) 38 :: bx gk (#[.int .i64 k]) 3 :: bx g9 cs9 46 :: (Ya5 ++ (Yx5 ++ (Yb5 ++ (YR ++ []))))) (by simp only [List.append_assoc, List.cons_append, List.nil_append]) ?_
  have hS9 := hm9 x0 (List.mem_of_getElem? hx0)
  refine ao_ (qo 6 [(4, .go (ownps 2 (0 + i0 * 2 + 1) [.slice x0.p x0.n x0.cap]))] [0, 4, 5] [(19, .pointer (some ⟨g9, 0 + i0 * 2, none⟩)), (23, .slice x0.p x0.n x0.cap), (24, .func (.func 59) #[] #[.pointer (some ⟨gk, 0, none⟩)])] (acellsP cs9 (0 + i0 * 2 + 1) [.slice x0.p x0.n x0.cap]) (rda_part (hOw9.rdx hO.len hx0) 1 _ rfl) (Ops.pick [[bx gb (#[.slice (some ⟨g9, 0, none⟩) m capq]) 38], [bx gk (#[.int .i64 k]) 3], [bx g9 cs9 46], Ya5, Yx5, Yb5, YR] [0, 1, 2, 4, 3, 5, 6] [] (bx gb (#[.slice (some ⟨g9, 0, none⟩) m capq]) 38 :: bx gk (#[.int .i64 k]) 3 :: bx g9 cs9 46 :: (Yx5 ++ (Ya5 ++ (Yb5 ++ (YR ++ []))))) (by kernel_rfl) rfl rfl (cP (fun v L' => ∃ q_ m_ c_ Y_, v = .slice q_ m_ c_ ∧ L' = [bx gb (#[.slice (some ⟨g9, 0, none⟩) m capq]) 38, bx gk (#[.int .i64 k]) 3, bx g9 cs9 46] ++ (Y_ ++ (Ya5 ++ (Yb5 ++ (YR ++ [])))) ∧ SlO 3 Y_ q_ m_ c_ (lessL x0.l k)) Try.call58 (fun w hw => (idelf_t _ ([bx gb (#[.slice (some ⟨g9, 0, none⟩) m capq]) 38, bx gk (#[.int .i64 k]) 3, bx g9 cs9 46] ++ (Ya5 ++ (Yb5 ++ (YR ++ [])))) Yx5 59 #[.pointer (some ⟨gk, 0, none⟩)] (fun x => decide (x = k)) x0.p x0.n x0.cap x0.l w (fun args w => Try.call59 args w) (Hs.front (A := [bx gb (#[.slice (some ⟨g9, 0, none⟩) m capq]) 38, bx gk (#[.int .i64 k]) 3, bx g9 cs9 46]) (Y := Yx5) (R := (Ya5 ++ (Yb5 ++ (YR ++ [])))) hw) hOx5 (by omega) (fun x hx w' hX => leave11_t x gk k w' (rd_one14 (hX.row 1 rfl)))).mono fun e w' ⟨q_, m_, c_, Y_, he, hO, hY⟩ => ⟨_, _, he, ⟨q_, m_, c_, Y_, rfl, rfl, hO⟩, hY.push⟩) ?_)))
  rintro v12 L12 ⟨q12, m12, cq12, Y12, rfl, rfl, hO12⟩
  refine mo 3 [(9, .go (ownps 2 (0 + i0 * 2 + 1) [undef]))] [0, 4, 5] (fun _ => []) (fun _ L => (L.set 2 (bx g9 ((cs9).setIfInBounds (0 + i0 * 2 + 1) (.slice q12 m12 cq12)) 46))) (fun _ => [0 + i0 * 2 + 1 < (cs9).size]) (fun _ => (al1 (hOw9.room hO.len hx0 (f := 1) (by decide)))) (fun _ => on_ (ds_ (sq_ (sq_ ?_))))
  by_cases q15 : ((m12 : Nat) : Int) < (2 : Int)
  ·
   refine qa [(3, .go (ownps 2 (0 + i0 * 2 + 1) [.slice q12 m12 cq12])), (5, .yes)] [0, 4] [(33, .bool true)] (acellsP ((cs9).setIfInBounds (0 + i0 * 2 + 1) (.slice q12 m12 cq12)) (0 + i0 * 2 + 1) [.slice q12 m12 cq12] ++ ([((m12 : Nat) : Int) < (2 : Int)])) (alA (rda_part ((hOw9.put (x' := (⟨x0.id, q12, m12, cq12, (lessL x0.l k)⟩ : GngA)) hO.len hx0 (f := 1) (by decide) rfl).rdx (len_set hO.len) (get_set hx0)) 1 _ rfl) (al1 q15)) (ds_ (t_ (At.pick [[bx gb (#[.slice (some ⟨g9, 0, none⟩) m capq]) 38], [bx gk (#[.int .i64 k]) 3], [bx g9 ((cs9).setIfInBounds (0 + i0 * 2 + 1) (.slice q12 m12 cq12)) 46], Y12, Ya5, Yb5, YR] [0, 1, 2, 3, 4, 5, 6] [] (bx gb (#[.slice (some ⟨g9, 0, none⟩) m capq]) 38 :: bx gk (#[.int .i64 k]) 3 :: ([bx g9 ((cs9).setIfInBounds (0 + i0 * 2 + 1) (.slice q12 m12 cq12)) 46] ++ (Y12 ++ (Ya5 ++ (Yb5 ++ (YR ++ [])))))) (by kernel_rfl) rfl rfl (ao_ (qo 8 [(4, .go (owns 0 0 1)), (7, .fit)] [] [(34, .pointer (some ⟨gb, 0, none⟩)), (38, .slice (some ⟨g9, 0, none⟩) m capq), (39, .int .i64 (i0 : Nat)), (41, .int .i64 (i0 + 1 : Nat))] ([Fit .i64 ((i0 + 1 : Nat))]) (al1 (fit64 (by omega) (by omega))) (cP (fun v L' => ∃ q_ c_ Y_, v = .slice q_ (i0 + (m - (i0 + 1))) c_ ∧ L' = [bx gb (#[.slice (some ⟨g9, 0, none⟩) m capq]) 38, bx gk (#[.int .i64 k]) 3] ++ (Y_ ++ (Y12 ++ (Ya5 ++ (Yb5 ++ (YR ++ []))))) ∧ SlO 46 Y_ q_ (i0 + (m - (i0 + 1))) c_ ((bl.set i0 (⟨x0.id, q12, m12, cq12, (lessL x0.l k)⟩ : GngA)).take i0 ++ (bl.set i0 (⟨x0.id, q12, m12, cq12, (lessL x0.l k)⟩ : GngA)).drop (i0 + 1))) Try.call56 (fun w hw => (gdelete_t _ ([bx gb (#[.slice (some ⟨g9, 0, none⟩) m capq]) 38, bx gk (#[.int .i64 k]) 3] ++ (Y12 ++ (Ya5 ++ (Yb5 ++ (YR ++ []))))) [bx g9 ((cs9).setIfInBounds (0 + i0 * 2 + 1) (.slice q12 m12 cq12)) 46] (some ⟨g9, 0, none⟩) m capq (bl.set i0 (⟨x0.id, q12, m12, cq12, (lessL x0.l k)⟩ : GngA)) i0 (i0 + 1) w (Hs.front (A := [bx gb (#[.slice (some ⟨g9, 0, none⟩) m capq]) 38, bx gk (#[.int .i64 k]) 3]) (Y := [bx g9 ((cs9).setIfInBounds (0 + i0 * 2 + 1) (.slice q12 m12 cq12)) 46]) (R := (Y12 ++ (Ya5 ++ (Yb5 ++ (YR ++ []))))) hw) (SlO.ofOwn (hOw9.put (x' := (⟨x0.id, q12, m12, cq12, (lessL x0.l k)⟩ : GngA)) hO.len hx0 (f := 1) (by decide) rfl) (len_set hO.len)) (by omega) (by omega) (by omega)).mono fun e w' ⟨q_, c_, Y_, he, hO, hY⟩ => ⟨_, _, he, ⟨q_, c_, Y_, rfl, rfl, hO⟩, hY.push⟩) ?_))))))
   rintro v18 L18 ⟨q18, cq18, Y18, rfl, rfl, hO18⟩
   refine mo0 3 [(11, .go (owns 0 0 1))] [] (fun _ => []) (fun _ L => (L.set 0 (bx gb (#[.slice q18 (i0 + (m - (i0 + 1))) cq18]) 38))) (fun _ => on_ (ds_ (sq_ (qa0 [] [] [(3, .int .i64 0)] (ds_ (rt ([]) (.int .i64 0) ?_))))))
   have hq12 := hO12.len
   obtain ⟨Yq, hsq, hGq⟩ := GotG.cutAt (j := i0) (hcut5 _ (⟨x0.id, q12, m12, cq12, (lessL x0.l k)⟩ : GngA) hO12)
   exact fun w' hw => ⟨_, _, _, _, _, Yq, _, rfl, (lc_two (y := (⟨x0.id, q12, m12, cq12, (lessL x0.l k)⟩ : GngA)) hx0 hp0 hlow (by omega)).symm, hO18, hGq, part_sub hsq (by have h9 : Hs w0 (bx gb (#[.slice q18 (i0 + (m - (i0 + 1))) cq18]) 38 :: bx gk (#[.int .i64 k]) 3 :: (Y18 ++ (Ya5 ++ (Y12 ++ (Yb5 ++ (YR ++ [])))))) w' := Hs.pick [[bx gb (#[.slice q18 (i0 + (m - (i0 + 1))) cq18]) 38], [bx gk (#[.int .i64 k]) 3], Y18, Y12, Ya5, Yb5, YR] [0, 1, 2, 4, 3, 5, 6] [] (by kernel_rfl) hw; rw [List.append_nil] at h9; simp only [List.append_assoc, List.cons_append, List.nil_append]; exact h9)⟩
  ·
   refine qa [(3, .go (ownps 2 (0 + i0 * 2 + 1) [.slice q12 m12 cq12])), (5, .no)] [0, 4] [(33, .bool false)] (acellsP ((cs9).setIfInBounds (0 + i0 * 2 + 1) (.slice q12 m12 cq12)) (0 + i0 * 2 + 1) [.slice q12 m12 cq12] ++ ([¬ (((m12 : Nat) : Int) < (2 : Int))])) (alA (rda_part ((hOw9.put (x' := (⟨x0.id, q12, m12, cq12, (lessL x0.l k)⟩ : GngA)) hO.len hx0 (f := 1) (by decide) rfl).rdx (len_set hO.len) (get_set hx0)) 1 _ rfl) (al1 q15)) (ds_ (f_ (at_skip (ds_ (sq_ (qa0 [] [] [(3, .int .i64 0)] (ds_ (rt ([]) (.int .i64 0) ?_))))))))
   have hq12 := hO12.len
   exact fun w' hw => ⟨_, _, _, _, _, _, _, rfl, (lc_more (y := (⟨x0.id, q12, m12, cq12, (lessL x0.l k)⟩ : GngA)) hx0 hp0 hlow (by omega) rfl).symm, (SlO.ofOwn (hOw9.put (x' := (⟨x0.id, q12, m12, cq12, (lessL x0.l k)⟩ : GngA)) hO.len hx0 (f := 1) (by decide) rfl) (len_set hO.len)), hcut5 _ (⟨x0.id, q12, m12, cq12, (lessL x0.l k)⟩ : GngA) hO12, (by have h9 : Hs w0 (bx gb (#[.slice (some ⟨g9, 0, none⟩) m capq]) 38 :: bx gk (#[.int .i64 k]) 3 :: bx g9 ((cs9).setIfInBounds (0 + i0 * 2 + 1) (.slice q12 m12 cq12)) 46 :: (Ya5 ++ (Y12 ++ (Yb5 ++ (YR ++ []))))) w' := Hs.pick [[bx gb (#[.slice (some ⟨g9, 0, none⟩) m capq]) 38], [bx gk (#[.int .i64 k]) 3], [bx g9 ((cs9).setIfInBounds (0 + i0 * 2 + 1) (.slice q12 m12 cq12)) 46], Y12, Ya5, Yb5, YR] [0, 1, 2, 4, 3, 5, 6] [] (by kernel_rfl) hw; rw [List.append_nil] at h9; simp only [List.append_assoc, List.cons_append, List.nil_append]; exact h9)⟩

set_option maxRecDepth 100000 in
theorem leave_t (q : Option Addr) (m capq : Nat) (al : List GngA) (k : Int) (w : World)
 (hal : Sv w q al) (hma : m = al.length) (hbm : m ≤ 1000) (hnm : ∀ x ∈ al, x.Reads w) (hm9 : ∀ x ∈ al, x.n ≤ 1000)
 : Calls Try.prog 33 #[.agg #[.slice q m capq], .int .i64 k] w fun e w' => ∃ er q' n' c' Y Yi bl, e = .returned (.tuple #[.agg #[.slice q' n' c'], .int .i64 er]) ∧ (bl.map GngA.val, er) = movG (al.map GngA.val) (leaveC (al.map GngA.val) k) ∧ SlO 46 Y q' n' c' bl ∧ GotG 3 Yi bl ∧ Below w.heap.size w w' ∧ Hs w (Y ++ Yi) w' := by
 refine enter (Hs.start w) Try.func33 rfl Try.ntmps33 rfl (sq_ (ma0 [] [] (fun γ1 => [(2, .pointer (some ⟨γ1 0, 0, none⟩)), (3, .pointer (some ⟨γ1 1, 0, none⟩)), (4, .pointer (some ⟨γ1 2, 0, none⟩))]) (fun γ1 L => bx (γ1 2) (#[.slice none 0 0]) 38 :: bx (γ1 1) (#[.int .i64 k]) 3 :: bx (γ1 0) (#[.slice q m capq]) 38 :: L) (fun γ1 => ds_ (sq_ (ao_ (qo0 2 [(0, .go (owns 2 0 1))] [4] [(6, .agg #[.slice q m capq]), (7, .func (.func 57) #[] #[.pointer (some ⟨γ1 1, 0, none⟩)])] (Ops.pick [[bx (γ1 2) (#[.slice none 0 0]) 38], [bx (γ1 1) (#[.int .i64 k]) 3], [bx (γ1 0) (#[.slice q m capq]) 38]] [1, 0, 2] [] ([bx (γ1 1) (#[.int .i64 k]) 3, bx (γ1 2) (#[.slice none 0 0]) 38, bx (γ1 0) (#[.slice q m capq]) 38]) (by kernel_rfl) rfl rfl (cP (fun v L' => ∃ er q_ n_ c_ Y_ Z_ bl_, v = .tuple #[.agg #[.slice q_ n_ c_], .int .i64 er] ∧ L' = [bx (γ1 1) (#[.int .i64 k]) 3, bx (γ1 2) (#[.slice none 0 0]) 38, bx (γ1 0) (#[.slice q m capq]) 38] ++ (Y_ ++ (Z_ ++ [])) ∧ SlO 46 Y_ q_ n_ c_ bl_ ∧ GotG 3 Z_ bl_ ∧ (bl_.map GngA.val, er) = movG (al.map GngA.val) (leaveC (al.map GngA.val) k)) Try.call50 (fun w hw => (with_t _ [bx (γ1 1) (#[.int .i64 k]) 3, bx (γ1 2) (#[.slice none 0 0]) 38, bx (γ1 0) (#[.slice q m capq]) 38] 57 #[.pointer (some ⟨γ1 1, 0, none⟩)] (fun er gs X2 => (gs, er) = leaveC (al.map GngA.val) k ∧ X2 = [bx (γ1 1) (#[.int .i64 k]) 3, bx (γ1 2) (#[.slice none 0 0]) 38, bx (γ1 0) (#[.slice q m capq]) 38]) q m capq al w (fun args w => Try.call57 args w) hw hal hma hbm hnm hm9 (fun hgd gb q' c' Y Yi R bl w' hO hG hV hX => (leave1_t _ Y Yi ([bx (γ1 2) (#[.slice none 0 0]) 38, bx (γ1 0) (#[.slice q m capq]) 38] ++ R) gb (γ1 1) q' m c' bl k w' hbm hO hG (by rw [hV]; exact hgd) (part_in (O := [bx (γ1 2) (#[.slice none 0 0]) 38, bx (γ1 0) (#[.slice q m capq]) 38]) hX)).mono fun e w'' ⟨er, q2, n2, c2, Y2, Yi2, bl2, he, h1, h2, h3, h4⟩ => ⟨er, q2, n2, c2, Y2, Yi2, bl2, _, he, ⟨by rw [← hV]; exact h1, rfl⟩, h2, h3, part_out (O := [bx (γ1 2) (#[.slice none 0 0]) 38, bx (γ1 0) (#[.slice q m capq]) 38]) h4⟩)).mono fun e w' ⟨er, q_, n_, c_, Y_, Z_, bl_, X_, he, h1, h2, hX, h3⟩ => by obtain ⟨hx, hv⟩ := mov_post (L := [bx (γ1 1) (#[.int .i64 k]) 3, bx (γ1 2) (#[.slice none 0 0]) 38, bx (γ1 0) (#[.slice q m capq]) 38]) h3; subst hx; exact ⟨_, _, he, ⟨er, q_, n_, c_, Y_, Z_, bl_, rfl, rfl, h1, h2, hv⟩, form_out2 hX⟩) ?_))))))))
 rintro v3 L3 ⟨er3, q3, n3, c3, Y3, Yz3, bl3, rfl, rfl, hO3, hG3, hV3⟩
 refine mo0 4 [(5, .go (owns 1 0 1))] [4] (fun _ => [(5, .int .i64 er3)]) (fun _ L => (L.set 1 (bx (γ1 2) (#[.slice q3 n3 c3]) 38))) (fun _ => on_ (ds_ (rt (owns 1 0 1) (.tuple #[.agg #[.slice q3 n3 c3], .int .i64 er3]) ?_)))
 exact fun w' hw => ⟨_, _, _, _, _, _, _, rfl, hV3, hO3, hG3, hw.below, two_tails14 (Hs.pick [[bx (γ1 1) (#[.int .i64 k]) 3], [bx (γ1 2) (#[.slice q3 n3 c3]) 38], [bx (γ1 0) (#[.slice q m capq]) 38], Y3, Yz3] [3, 4] [0, 1, 2] (by kernel_rfl) hw)⟩
end Go.Proofs.Ytahccegfahghfaa

/-! Gangs: Of, Members. -/
namespace Go.Proofs.Ytahccegfahghfaa
open Go Go.RowKit

end Go.Proofs.Ytahccegfahghfaa

/-! Gangs: slices.Equal. -/
namespace Go.Proofs.Ytahccegfahghfaa
open Go Go.RowKit

end Go.Proofs.Ytahccegfahghfaa

/-! Gangs: Same. -/
namespace Go.Proofs.Ytahccegfahghfaa
open Go Go.RowKit
end Go.Proofs.Ytahccegfahghfaa

/-! The document: Of. -/
namespace Go.Proofs.Ytahccegfahghfaa
open Go Go.RowKit

end Go.Proofs.Ytahccegfahghfaa

/-! The document: members. -/
namespace Go.Proofs.Ytahccegfahghfaa
open Go Go.RowKit
end Go.Proofs.Ytahccegfahghfaa

/-! The document: Right, Get, Same. -/
namespace Go.Proofs.Ytahccegfahghfaa
open Go Go.RowKit

end Go.Proofs.Ytahccegfahghfaa

/-! Short gangs. -/
namespace Go.Proofs.Ytahccegfahghfaa
open Go Go.RowKit

set_option maxRecDepth 100000 in
theorem ints_t (p : Option Addr) (n cap : Nat) (l : List Int) (w : World)
 (hsl : Sv w p l) (hn : n = l.length) (hcp : n ≤ cap) (hb : n ≤ 9223372036854775807)
 : Calls Try.prog 30 #[.slice p n cap] w fun e w' => ∃ q' n' c' Y, e = .returned (.slice q' n' c') ∧ SlO 3 Y q' n' c' (l.take 17) ∧ Below w.heap.size w w' ∧ Hs w Y w' := by
 refine enter (Hs.start w) Try.func30 rfl Try.ntmps30 rfl (sq_ (qa0 [] [0] [] (ds_ (sq_ (ao_ (mo 6 [(5, .sl (.slice p (min n 17) cap))] [] (fun γ2 => [(3, .slice (some ⟨γ2 0, 0, none⟩) 0 0), (8, .slice p (min n 17) cap)]) (fun γ2 L => bx (γ2 0) (#[]) 3 :: L) (fun γ2 => [SlRun Try.prog 25 (.slice p n cap) none (some (.int .i64 (if (17 : Int) < ((n : Nat) : Int) then 17 else (n : Nat)))) none (.slice p (min n 17) cap)]) (fun γ2 => (al1 (by rw [min_if17]; exact slE_hi (P := Try.prog) (h := (min n 17)) (T := 25) (e := 3) (k := 1) (by_ := 8) (by kernel_rfl) (by omega)))) (fun γ2 => ops_append (α := Int) [] ([bx (γ2 0) (#[]) 3]) ([]) (mvE rfl) rfl (by kernel_rfl) (by kernel_rfl) (p := (some ⟨γ2 0, 0, none⟩)) (n := 0) (cap := 0) (m := (min n 17)) (yv := .slice p (min n 17) cap) (by kernel_rfl) (by kernel_rfl) (T := 3) (by_ := 8) (by kernel_rfl) ([]) (l.take (min n 17)) (SlO.lit (by rfl) (by rfl) (by simp [maxLen])) (fun w hw => src_svn Try.underlying25 ((hsl.kept hw.below).take (min n 17)) (by rw [List.length_take]; omega)) (by rw [List.length_take]; omega) (by have hmx : maxLen = 9223372036854775807 := rfl; omega) (by have hmx : maxLen = 9223372036854775807 := rfl; omega) (fun Y3 p3 cap3 hO3 => qo0 1 [] [] [(2, .slice p3 (0 + (min n 17)) cap3)] (on_ (ds_ (rt ([]) (.slice p3 (0 + (min n 17)) cap3) ?_)))))))))))
 exact fun w' hw => ⟨_, _, _, _, rfl, SlO.as14 hO3 (by rw [List.nil_append, take_min17 hn]), hw.below, one_tail14 (Hs.pick [Y3] [0] [] (by kernel_rfl) hw)⟩

end Go.Proofs.Ytahccegfahghfaa

/-! Gangs: Rows, Copy. -/
namespace Go.Proofs.Ytahccegfahghfaa
open Go Go.RowKit
theorem rows_add {rl : List IntsA} {al : List GngA} {x : GngA} {y : IntsA} {j : Nat} (hB : rl.map IntsA.l = ((al.take j).map GngA.val).map (·.2)) (hx : al[j]? = some x) (hy : y.l = x.l) : (rl ++ [y]).map IntsA.l = ((al.take (j + 1)).map GngA.val).map (·.2) := by
 rw [take_one hx, List.map_append, List.map_append, List.map_append, hB, List.map_cons, List.map_nil, hy]; rfl
set_option maxRecDepth 100000 in
theorem grows_t (q : Option Addr) (m capq : Nat) (al : List GngA) (w : World)
 (hal : Sv w q al) (hma : m = al.length) (hbm : m ≤ 1000) (hnm : ∀ x ∈ al, x.Reads w) (hm9 : ∀ x ∈ al, x.n ≤ 1000)
 : Calls Try.prog 21 #[.agg #[.slice q m capq]] w fun e w' => ∃ q' m' c' Y rl Yi, e = .returned (.slice q' m' c') ∧ SlO 25 Y q' m' c' rl ∧ GotR 3 Yi rl ∧ rl.map IntsA.l = rowsV (al.map GngA.val) ∧ Below w.heap.size w w' ∧ Hs w (Y ++ Yi) w' := by
 refine enter (Hs.start w) Try.func21 rfl Try.ntmps21 rfl (sq_ (ma0 [] [] (fun γ1 => [(1, .pointer (some ⟨γ1 0, 0, none⟩))]) (fun γ1 L => bx (γ1 0) (#[.slice q m capq]) 38 :: L) (fun γ1 => ds_ (sq_ (sq_ (ao_ (qo0 1 [(0, .go (owns 0 0 1))] [1] [(6, .agg #[.slice q m capq])] ?_)))))))
 rcases q3 : gangB (al.map GngA.val) with _ | _
 ·
  refine cD (.int .i64 240) Try.call18 (fun w hw => by have := gcheck_t q m capq al w (hal.kept hw.below) hma (by omega) (fun x hx => (hnm x hx).kept hw.below) hm9; rw [q3] at this; exact this) (qo0 1 [] [1] [(8, .bool true)] (on_ (ds_ (t_ (sq_ (qa0 [] [] [(2, .slice none 0 0)] (ds_ (rt ([]) (.slice none 0 0) ?_))))))))
  exact fun w' hw => ⟨none, 0, 0, [], [], [], rfl, SlO.nil, GotR.nil, (rows_bad q3).symm, hw.below, hw.sub (List.nil_sublist _)⟩
 ·
  refine cD (.int .i64 0) Try.call18 (fun w hw => by have := gcheck_t q m capq al w (hal.kept hw.below) hma (by omega) (fun x hx => (hnm x hx).kept hw.below) hm9; rw [q3] at this; exact this) (qo0 1 [] [1] [(8, .bool false)] (on_ (ds_ (f_ (at_skip (ds_ (sq_ (qa0 [] [1] [(3, .slice none 0 0)] (ds_ (sq_ (sq_ (qa0 [(1, .go (owns 0 0 1))] [3] [(10, .slice q m capq), (11, .int .i64 (m : Nat)), (12, .int .i64 0)] (ds_ (at_block (At.pick [[bx (γ1 0) (#[.slice q m capq]) 38]] [] [0] ([]) (by kernel_rfl) rfl rfl (at_loop (α := Nat × List Ob × Option Addr × Nat × List IntsA × List Ob) [3, 10, 11, 12] (fun ⟨j, Yo, po, co, rl, Yi⟩ => [(3, .slice po j co), (10, .slice q m capq), (11, .int .i64 (m : Nat)), (12, .int .i64 (j : Nat))]) (fun ⟨j, Yo, po, co, rl, Yi⟩ => (Yo ++ (Yi ++ []))) (fun ⟨j, Yo, po, co, rl, Yi⟩ => j ≤ m ∧ SlO 25 Yo po j co rl ∧ GotR 3 Yi rl ∧ rl.map IntsA.l = ((al.take j).map GngA.val).map (·.2)) (fun ⟨j, Yo, po, co, rl, Yi⟩ => m - j) (0, [], none, 0, [], []) (by kernel_rfl) rfl ⟨Nat.zero_le _, SlO.nil, GotR.nil, rfl⟩ ?_))))))))))))))))
  rintro ⟨j, Yo, po, co, rl, Yi⟩
  rintro ⟨hj, hO, hG, hB⟩
  have hlb := hO.len
  refine sq_ ?_
  by_cases q10 : ((j : Nat) : Int) < ((m : Nat) : Int)
  ·
   refine qa [(0, .yes)] [3, 10, 11, 12] [(13, .bool true)] ([((j : Nat) : Int) < ((m : Nat) : Int)]) (al1 q10) (ds_ (sq_ (t_ (at_skip (ds_ (sq_ (at_block (sq_ ?_))))))))
   obtain ⟨b13, o13, rfl⟩ := hal.pos (i := j) (by omega)
   obtain ⟨x15, hx15⟩ := get_some (l := al) (m := j) (by omega)
   have hsx15 : Sv w x15.p x15.l := (hnm x15 (List.mem_of_getElem? hx15)).sv
   have hnx15 : x15.n = x15.l.length := (hnm x15 (List.mem_of_getElem? hx15)).hn
   have hm9x15 := hm9 x15 (List.mem_of_getElem? hx15)
   refine ma [(0, .at b13 o13 j), (1, .go (outs b13 (o13 + j * 2) [.int .i64 x15.id, .slice x15.p x15.n x15.cap])), (3, .go (owns 0 0 2))] [3, 10, 11, 12] (fun γ16 => [(5, .pointer (some ⟨γ16 0, 0, none⟩))]) (fun γ16 L => bx (γ16 0) (#[.int .i64 x15.id, .slice x15.p x15.n x15.cap]) 46 :: L) (fun γ16 => [(some ⟨b13, o13, none⟩ : Option Addr) = some ⟨b13, o13, none⟩, (j : Nat) = ((j : Nat) : Int), j < m] ++ (cellsP w b13 (o13 + j * 2) [.int .i64 x15.id, .slice x15.p x15.n x15.cap])) (fun γ16 => (alA (al2 rfl (al2 rfl (al1 (by omega)))) (rd_pre (hal.get hx15) _ rfl))) (fun γ16 => ds_ (ao_ (qo0 3 [(2, .go (owns 0 1 1))] [10, 11, 12] [(16, .slice po j co), (18, .slice x15.p x15.n x15.cap)] (cP (fun v L' => ∃ q_ c_ Y_, v = .slice q_ x15.n c_ ∧ L' = List.take 1 (bx (γ16 0) (#[.int .i64 x15.id, .slice x15.p x15.n x15.cap]) 46 :: (Yo ++ (Yi ++ []))) ++ (Y_ ++ List.drop 1 (bx (γ16 0) (#[.int .i64 x15.id, .slice x15.p x15.n x15.cap]) 46 :: (Yo ++ (Yi ++ [])))) ∧ SlO 3 Y_ q_ x15.n c_ x15.l) Try.call44 (fun w hw => (cloneints_t x15.p x15.n x15.cap x15.l w (hsx15.kept hw.below) hnx15 (by omega)).mono fun e w' ⟨q_, c_, Y_, he, hO, hb, hY⟩ => ⟨_, _, he, ⟨q_, c_, Y_, rfl, rfl, hO⟩, hw.join hb hY 1⟩) ?_))))
   rintro v18 L18 ⟨q18, cq18, Y18, rfl, rfl, hO18⟩
   refine mo0 1 [] [10, 11, 12, 16] (fun γ19 => [(20, .slice (some ⟨γ19 0, 0, none⟩) 1 1)]) (fun γ19 L => bx (γ19 0) (#[.slice q18 x15.n cq18]) 25 :: L) (fun γ19 => Ops.pick [[bx (γ19 0) (#[.slice q18 x15.n cq18]) 25], [bx (γ16 0) (#[.int .i64 x15.id, .slice x15.p x15.n x15.cap]) 46], Y18, Yo, Yi] [0, 1, 3, 2, 4] [] (bx (γ19 0) (#[.slice q18 x15.n cq18]) 25 :: bx (γ16 0) (#[.int .i64 x15.id, .slice x15.p x15.n x15.cap]) 46 :: (Yo ++ (Y18 ++ (Yi ++ [])))) (by kernel_rfl) rfl rfl (ops_append (α := IntsA) [bx (γ19 0) (#[.slice q18 x15.n cq18]) 25, bx (γ16 0) (#[.int .i64 x15.id, .slice x15.p x15.n x15.cap]) 46] Yo (Y18 ++ (Yi ++ [])) (.refl _) rfl (by kernel_rfl) (by kernel_rfl) (p := po) (n := j) (cap := co) (m := 1) (yv := .slice (some ⟨γ19 0, 0, none⟩) 1 1) (by kernel_rfl) (by kernel_rfl) (T := 25) (by_ := 24) (by kernel_rfl) rl ([(⟨q18, x15.n, cq18, x15.l⟩ : IntsA)]) hO (fun w hw => src_svn Try.underlying24 (sv_row (hw.row 0 rfl) (by rfl)) (by rfl)) (by rfl) (by have hmx : maxLen = 9223372036854775807 := rfl; omega) (by have hmx : maxLen = 9223372036854775807 := rfl; omega) (fun Y20 p20 cap20 hO20 => qo0 1 [] [10, 11, 12] [(3, .slice p20 (j + 1) cap20)] (on_ (done_block (ds_ (qa [(0, .fit)] [3, 10, 11] [(12, .int .i64 (j + 1 : Nat))] ([Fit .i64 ((j + 1 : Nat))]) (al1 (fit64 (by omega) (by omega))) (Done.pick [[bx (γ19 0) (#[.slice q18 x15.n cq18]) 25], [bx (γ16 0) (#[.int .i64 x15.id, .slice x15.p x15.n x15.cap]) 46], Y20, Y18, Yi] [2, 4, 3] [0, 1] ((Y20 ++ (Yi ++ (Y18 ++ [])))) (by kernel_rfl) rfl rfl (Done.as (L' := (Y20 ++ ((Yi ++ Y18) ++ []))) (by simp only [List.append_assoc]) ?_)))))))))
   exact dr [3, 10, 11, 12] (j + 1, Y20, p20, cap20, (rl ++ [(⟨q18, x15.n, cq18, x15.l⟩ : IntsA)]), Yi ++ Y18) ⟨by omega, hO20, GotR.snoc hG hO18, rows_add hB hx15 rfl⟩
  ·
   refine qa [(0, .no)] [3, 10, 11, 12] [(13, .bool false)] ([¬ (((j : Nat) : Int) < ((m : Nat) : Int))]) (al1 q10) (ds_ (sq_ (f_ (at_leave _ rfl (ds_ (sq_ (qa0 [] [] [(2, .slice po j co)] (ds_ (rt ([]) (.slice po j co) ?_)))))))))
   exact fun w' hw => ⟨_, _, _, _, _, _, rfl, hO, hG, by rw [hB, List.take_of_length_le (by omega), rows_ok q3], hw.below, two_tails14 (Hs.pick [Yo, Yi] [0, 1] [] (by kernel_rfl) hw)⟩

end Go.Proofs.Ytahccegfahghfaa

/-! The layer does something. -/
namespace Go.Proofs.Ytahccegfahghfaa
open Go Go.RowKit
theorem hs_re {w0 w : World} {A Y Z B : List Ob} (h : Hs w0 (A ++ ((Y ++ Z) ++ B)) w) : Hs w0 (A ++ (Y ++ (Z ++ B))) w := by rwa [← List.append_assoc Y Z B]

set_option maxRecDepth 100000 in
theorem wakes_t  (w : World)
 : Calls Try.prog 9 #[] w fun e w' => e = .returned (.bool true) ∧ Below w.heap.size w w' := by
 refine enter (Hs.start w) Try.func9 rfl Try.ntmps9 rfl (sq_ (qa0 [] [] [] (ds_ (sq_ (ao_ (mo0 2 [] [] (fun γ2 => [(10, .agg #[.slice none 0 0]), (11, .slice (some ⟨γ2 0, 0, none⟩) 2 2)]) (fun γ2 L => bx (γ2 0) (#[.int .i64 1, .int .i64 3]) 3 :: L) (fun γ2 => cP (fun v L' => ∃ q_ n_ c_ Y_ Z_ bl_, v = .tuple #[.agg #[.slice q_ n_ c_], .int .i64 1, .int .i64 0] ∧ L' = List.take 1 ([bx (γ2 0) (#[.int .i64 1, .int .i64 3]) 3]) ++ (Y_ ++ (Z_ ++ List.drop 1 ([bx (γ2 0) (#[.int .i64 1, .int .i64 3]) 3]))) ∧ SlO 46 Y_ q_ n_ c_ bl_ ∧ GotG 3 Z_ bl_ ∧ bl_.map GngA.val = [(1, [1, 3])]) Try.call29 (fun w hw => (form_t none 0 0 [] (some ⟨γ2 0, 0, none⟩) 2 2 [1, 3] w Sv.nil rfl (by decide) (fun x hx => nomatch hx) (fun x hx => nomatch hx) (sv_row (hw.row 0 rfl) rfl) rfl (by decide)).mono fun e w' ⟨er, q_, n_, c_, Y_, Z_, bl_, idn, he, hv, hO, hG, hb, hY⟩ => by have hq := hv.trans (show _ = ([(1, [1, 3])], (1 : Int), (0 : Int)) from by kernel_rfl); simp only [Prod.mk.injEq] at hq; obtain ⟨hq1, rfl, rfl⟩ := hq; exact ⟨_, _, he, ⟨q_, n_, c_, Y_, Z_, bl_, rfl, rfl, hO, hG, hq1⟩, hs_re (hw.join hb hY 1)⟩) ?_)))))))
 rintro v3 L3 ⟨q3, n3, c3, Y3, Yz3, bl3, rfl, rfl, hO3, hG3, hV3⟩
 have hbl3 : bl3.length = 1 := by have := congrArg List.length hV3; simpa using this
 refine mo0 8 [(8, .go (owns 0 0 1))] [] (fun γ4 => [(1, .pointer (some ⟨γ4 0, 0, none⟩)), (2, .int .i64 1), (3, .int .i64 0)]) (fun γ4 L => bx (γ4 0) (#[.slice q3 n3 c3]) 38 :: L) (fun γ4 => on_ (ds_ (sq_ (ao_ (mo0 2 [(0, .go (owns 0 0 1))] [2, 3] (fun γ5 => [(17, .agg #[.slice q3 n3 c3]), (18, .slice (some ⟨γ5 0, 0, none⟩) 2 2)]) (fun γ5 L => bx (γ5 0) (#[.int .i64 3, .int .i64 4]) 3 :: L) (fun γ5 => cP (fun v L' => ∃ q_ n_ c_ Y_ Z_ bl_, v = .tuple #[.agg #[.slice q_ n_ c_], .int .i64 0, .int .i64 5] ∧ L' = List.take 3 (bx (γ5 0) (#[.int .i64 3, .int .i64 4]) 3 :: bx (γ4 0) (#[.slice q3 n3 c3]) 38 :: bx (γ2 0) (#[.int .i64 1, .int .i64 3]) 3 :: (Y3 ++ (Yz3 ++ []))) ++ (Y_ ++ (Z_ ++ List.drop 3 (bx (γ5 0) (#[.int .i64 3, .int .i64 4]) 3 :: bx (γ4 0) (#[.slice q3 n3 c3]) 38 :: bx (γ2 0) (#[.int .i64 1, .int .i64 3]) 3 :: (Y3 ++ (Yz3 ++ []))))) ∧ SlO 46 Y_ q_ n_ c_ bl_ ∧ GotG 3 Z_ bl_ ∧ bl_.map GngA.val = []) Try.call29 (fun w hw => (form_t q3 n3 c3 bl3 (some ⟨γ5 0, 0, none⟩) 2 2 [3, 4] w (SlO.sub hO3 hw (List.Sublist.cons _ (List.Sublist.cons _ (List.Sublist.cons _ (List.sublist_append_left Y3 _))))) hO3.len (by have := hO3.len; omega) (GotG.reads hG3 hw (List.Sublist.cons _ (List.Sublist.cons _ (List.Sublist.cons _ (List.Sublist.trans (List.sublist_append_left Yz3 _) (List.sublist_append_right Y3 _)))))) (got_small hG3 (by rw [hV3]; kernel_rfl)) (sv_row (hw.row 0 rfl) rfl) rfl (by decide)).mono fun e w' ⟨er, q_, n_, c_, Y_, Z_, bl_, idn, he, hv, hO, hG, hb, hY⟩ => by have hq := hv.trans (show _ = ([], (0 : Int), (5 : Int)) from by rw [hV3]; kernel_rfl); simp only [Prod.mk.injEq] at hq; obtain ⟨hq1, rfl, rfl⟩ := hq; exact ⟨_, _, he, ⟨q_, n_, c_, Y_, Z_, bl_, rfl, rfl, hO, hG, hq1⟩, hs_re (hw.join hb hY 3)⟩) ?_))))))
 rintro v6 L6 ⟨q6, n6, c6, Y6, Yz6, bl6, rfl, rfl, hO6, hG6, hV6⟩
 have hbl6 : bl6.length = 0 := by have := congrArg List.length hV6; simpa using this
 refine mo0 8 [(8, .go (owns 0 0 1))] [2, 3] (fun γ7 => [(6, .int .i64 5)]) (fun γ7 L => bx (γ7 0) (#[.slice q6 n6 c6]) 38 :: L) (fun γ7 => on_ (ds_ (sq_ (ao_ (mo0 3 [] [2, 3, 6] (fun γ8 => [(26, .slice (some ⟨γ8 2, 0, none⟩) 2 2)]) (fun γ8 L => bx (γ8 2) (#[.slice (some ⟨γ8 0, 0, none⟩) 2 2, .slice (some ⟨γ8 1, 0, none⟩) 1 1]) 25 :: bx (γ8 1) (#[.int .i64 0]) 3 :: bx (γ8 0) (#[.int .i64 0, .int .i64 1]) 3 :: L) (fun γ8 => cP (fun v L' => ∃ q_ c_ Y_, v = .tuple #[.slice q_ 2 c_, .bool true] ∧ L' = List.take 7 (bx (γ8 2) (#[.slice (some ⟨γ8 0, 0, none⟩) 2 2, .slice (some ⟨γ8 1, 0, none⟩) 1 1]) 25 :: bx (γ8 1) (#[.int .i64 0]) 3 :: bx (γ8 0) (#[.int .i64 0, .int .i64 1]) 3 :: bx (γ7 0) (#[.slice q6 n6 c6]) 38 :: bx (γ5 0) (#[.int .i64 3, .int .i64 4]) 3 :: bx (γ4 0) (#[.slice q3 n3 c3]) 38 :: bx (γ2 0) (#[.int .i64 1, .int .i64 3]) 3 :: (Y6 ++ (Yz6 ++ (Y3 ++ (Yz3 ++ []))))) ++ (Y_ ++ List.drop 7 (bx (γ8 2) (#[.slice (some ⟨γ8 0, 0, none⟩) 2 2, .slice (some ⟨γ8 1, 0, none⟩) 1 1]) 25 :: bx (γ8 1) (#[.int .i64 0]) 3 :: bx (γ8 0) (#[.int .i64 0, .int .i64 1]) 3 :: bx (γ7 0) (#[.slice q6 n6 c6]) 38 :: bx (γ5 0) (#[.int .i64 3, .int .i64 4]) 3 :: bx (γ4 0) (#[.slice q3 n3 c3]) 38 :: bx (γ2 0) (#[.int .i64 1, .int .i64 3]) 3 :: (Y6 ++ (Yz6 ++ (Y3 ++ (Yz3 ++ [])))))) ∧ SlO 3 Y_ q_ 2 c_ ([1, 0] : List Int)) Try.call10 (fun w hw => (match_t (some ⟨γ8 2, 0, none⟩) 2 2 ([(⟨(some ⟨γ8 0, 0, none⟩), 2, 2, [0, 1]⟩ : IntsA), (⟨(some ⟨γ8 1, 0, none⟩), 1, 1, [0]⟩ : IntsA)]) w (sv_row (hw.row 0 rfl) rfl) rfl (by decide) (fun x hx => by simp only [List.mem_cons, List.not_mem_nil, or_false] at hx; rcases hx with rfl | rfl; exact ⟨sv_row (hw.row 2 rfl) rfl, rfl, Nat.le_refl _, (by simp)⟩; exact ⟨sv_row (hw.row 1 rfl) rfl, rfl, Nat.le_refl _, (by simp)⟩) (fun x hx => by simp only [List.mem_cons, List.not_mem_nil, or_false] at hx; rcases hx with rfl | rfl <;> simp)).mono fun e w' ⟨q_, n_, c_, Y_, he, hO, hb, hY⟩ => by rw [show matchA _ = (([1, 0] : List Int), true) from (by kernel_rfl)] at he hO; obtain rfl : n_ = 2 := hO.len; exact ⟨_, _, he, ⟨q_, c_, Y_, rfl, rfl, hO⟩, hw.join hb hY 7⟩) ?_))))))
 rintro v9 L9 ⟨q9, c9, Y9, rfl, rfl, hO9⟩
 refine qo0 5 [] [2, 3, 6] [(7, .slice q9 2 c9), (8, .bool true)] (on_ (ds_ (sq_ ?_)))
 have hln12 := hO9.len
 obtain ⟨g12, cs12, rfl, rfl, hOw12⟩ := hO9.rowOf (i := 0) (by omega)
 refine qa [(20, .at g12 0 0), (21, .go (ownps 7 (0 + 0 * 1) [.int .i64 1])), (26, .at g12 0 1), (27, .go (ownps 7 (0 + 1 * 1) [.int .i64 0]))] [] [(0, .bool true)] ([(some ⟨g12, 0, none⟩ : Option Addr) = some ⟨g12, 0, none⟩, 0 = ((0 : Nat) : Int), 0 < 2] ++ (acellsP cs12 (0 + 0 * 1) [.int .i64 1] ++ ([(some ⟨g12, 0, none⟩ : Option Addr) = some ⟨g12, 0, none⟩, 1 = ((1 : Nat) : Int), 1 < 2] ++ (acellsP cs12 (0 + 1 * 1) [.int .i64 0])))) (alA (al2 rfl (al2 rfl (al1 (by omega)))) (alA (rda_pre (hOw12.rdx hO9.len rfl) _ rfl) (alA (al2 rfl (al2 rfl (al1 (by omega)))) (rda_pre (hOw12.rdx hO9.len rfl) _ rfl)))) (ds_ (rt ([]) (.bool true) ?_))
 exact fun w' hw => ⟨rfl, hw.below⟩
end Go.Proofs.Ytahccegfahghfaa

/-! Gangs that may be stay so; there and back; plain. -/
namespace Go.Proofs.Ytahccegfahghfaa
open Go Go.RowKit
section
variable {gs t hs : Gs} {k n : Int} {i j : Nat} {l : List Int} {g : Int × List Int} {bl : List GngA} {er idn : Int}
theorem ids_of : ∀ {l : List Int} {a : Int}, l.Pairwise (· < ·) → (∀ x ∈ l, a < x ∧ x ≤ 8) → idsB a l = true
  | [], _, _, _ => rfl
  | b :: l, a, h, hb => by
    obtain ⟨h1, h2⟩ := List.pairwise_cons.1 h
    simp only [idsB, Bool.and_eq_true, decide_eq_true_eq]
    exact ⟨hb b (List.mem_cons_self ..), ids_of h2 fun x hx => ⟨h1 x hx, (hb x (List.mem_cons_of_mem _ hx)).2⟩⟩
theorem up_of : ∀ {l : List Int} {a : Int}, l.Pairwise (· < ·) → (∀ x ∈ l, a < x ∧ x ≤ 16) → upB a l = true
  | [], _, _, _ => rfl
  | b :: l, a, h, hb => by
    obtain ⟨h1, h2⟩ := List.pairwise_cons.1 h
    simp only [upB, Bool.and_eq_true, decide_eq_true_eq]
    exact ⟨hb b (List.mem_cons_self ..), up_of h2 fun x hx => ⟨h1 x hx, (hb x (List.mem_cons_of_mem _ hx)).2⟩⟩
theorem gang_iff14 : gangB gs = true ↔ (gs.map (·.1)).Pairwise (· < ·) ∧ (∀ x ∈ gs.map (·.1), 0 < x ∧ x ≤ 8) ∧ (∀ g ∈ gs, mayB g.2 = true) ∧ (memL gs).Nodup := by
  constructor
  · intro h
    have h1 := gang_pre h gs.length
    rw [List.take_of_length_le (Nat.le_refl _)] at h1
    have h2 := ids_spec h1.1
    exact ⟨h2.1, h2.2, h1.2.1, h1.2.2⟩
  · rintro ⟨h1, h2, h3, h4⟩
    rw [gangB, ids_of h1 h2, List.all_eq_true.2 h3, decide_eq_true h4]; rfl
theorem memL_sub (h : List.Sublist t gs) : List.Sublist (memL t) (memL gs) := by
  unfold memL
  induction h with
  | slnil => exact List.Sublist.refl _
  | cons a _ ih => rw [List.flatMap_cons]; exact ih.trans (List.sublist_append_right _ _)
  | cons_cons a _ ih => rw [List.flatMap_cons, List.flatMap_cons]; exact (List.Sublist.refl _).append ih
theorem gang_sub (hg : gangB gs = true) (h : List.Sublist t gs) : gangB t = true := by
  rw [gang_iff14] at hg ⊢
  obtain ⟨h1, h2, h3, h4⟩ := hg
  exact ⟨h1.sublist (h.map _), fun x hx => h2 x ((h.map _).subset hx), fun g hg => h3 g (h.subset hg), h4.sublist (memL_sub h)⟩
theorem cut_sublist {α : Type} {l : List α} : List.Sublist (l.take i ++ l.drop (i + 1)) l := by
  conv => rhs; rw [← List.take_append_drop i l]
  refine (List.Sublist.refl _).append ?_
  by_cases h : i < l.length
  · rw [List.drop_eq_getElem_cons h]; exact List.sublist_cons_self _ _
  · rw [List.drop_of_length_le (show l.length ≤ i + 1 by omega), List.drop_of_length_le (show l.length ≤ i by omega)]; exact List.Sublist.refl _
theorem part_gang (hg : gangB gs = true) : gangB (partC gs k).1 = true := by
  unfold partC
  split
  · exact gang_sub hg cut_sublist
  · exact hg
theorem less_may (h : mayB l = true) (h2 : ¬ (lessL l k).length < 2) : mayB (lessL l k) = true := by
  have h3 := may_len h
  simp only [mayB, Bool.and_eq_true, decide_eq_true_eq] at h ⊢
  have hs : List.Sublist (lessL l k) l := List.filter_sublist
  have h4 := up_spec h.1
  exact ⟨up_of (h4.1.sublist hs) fun x hx => h4.2 x (hs.subset hx), by omega, Nat.le_trans hs.length_le h3.2⟩
theorem cut_facts : ∀ {gs : Gs}, (∀ g ∈ gs, mayB g.2 = true) → List.Sublist ((cutV k gs).map (·.1)) (gs.map (·.1)) ∧ List.Sublist (memL (cutV k gs)) (memL gs) ∧ ∀ g ∈ cutV k gs, mayB g.2 = true
  | [], _ => ⟨List.Sublist.refl _, List.Sublist.refl _, fun g h => nomatch h⟩
  | a :: t, h => by
    rw [cutV]
    have ht : ∀ g ∈ t, mayB g.2 = true := fun g hg => h g (List.mem_cons_of_mem _ hg)
    have hm : ∀ (b : Int × List Int) (s : Gs), memL (b :: s) = b.2 ++ memL s := fun b s => List.flatMap_cons
    split
    · split
      · exact ⟨List.sublist_cons_self _ _, by rw [hm]; exact List.sublist_append_right _ _, ht⟩
      · rename_i h2
        refine ⟨List.Sublist.refl _, ?_, fun g hg => ?_⟩
        · rw [hm, hm]; exact List.filter_sublist.append (List.Sublist.refl _)
        · rcases List.mem_cons.1 hg with rfl | e
          · exact less_may (h a (List.mem_cons_self ..)) h2
          · exact ht g e
    · obtain ⟨h1, h2, h3⟩ := cut_facts ht
      refine ⟨h1.cons_cons _, ?_, fun g hg => ?_⟩
      · rw [hm, hm]; exact (List.Sublist.refl _).append h2
      · rcases List.mem_cons.1 hg with rfl | e
        · exact h g (List.mem_cons_self ..)
        · exact h3 g e
theorem cut_gang (hg : gangB gs = true) : gangB (cutV k gs) = true := by
  rw [gang_iff14] at hg ⊢
  obtain ⟨h1, h2, h3, h4⟩ := hg
  obtain ⟨c1, c2, c3⟩ := cut_facts (k := k) h3
  exact ⟨h1.sublist c1, fun x hx => h2 x (c1.subset hx), c3, h4.sublist c2⟩
theorem leave_gang (hg : gangB gs = true) : gangB (leaveC gs k).1 = true := by
  unfold leaveC
  split
  · exact cut_gang hg
  · exact hg
theorem in_iff14 : inV gs k = true ↔ k ∈ memL gs := by
  unfold inV
  rw [List.any_eq_true, mem_memL]
  exact ⟨fun ⟨g, hg, h⟩ => ⟨g, hg, of_decide_eq_true h⟩, fun ⟨g, hg, h⟩ => ⟨g, hg, decide_eq_true h⟩⟩
theorem memL_app : memL (gs ++ t) = memL gs ++ memL t := List.flatMap_append
theorem as_gng (gs : Gs) : ∃ al : List GngA, al.map GngA.val = gs := ⟨gs.map fun g => ⟨g.1, none, 0, 0, g.2⟩, by rw [List.map_map]; exact List.map_id' gs⟩
theorem gap_lt (hg : gangB gs = true) (hi : i < gapV 0 gs) (hx : gs[i]? = some g) : g.1 = (i : Int) + 1 := by
  obtain ⟨g2, h1, h2⟩ := (gap_spec (gs := gs) (a := 0)).2.2.1 i (by omega)
  rw [hx] at h1; cases h1
  rw [Nat.zero_add] at h2; exact h2
theorem gap_gt (hg : gangB gs = true) (hi : gapV 0 gs ≤ i) (hx : gs[i]? = some g) : ((gapV 0 gs : Nat) : Int) + 1 < g.1 := by
  obtain ⟨al, rfl⟩ := as_gng gs
  rw [List.getElem?_map] at hx
  cases h : al[i]? with
  | none => rw [h] at hx; cases hx
  | some x =>
    rw [h] at hx
    simp only [Option.map_some, Option.some.injEq] at hx
    subst hx
    exact gapA_gt hg hi h
theorem take_ix {α : Type} {l : List α} {x : α} (h : x ∈ l.take j) : ∃ i, i < j ∧ l[i]? = some x := by
  obtain ⟨i, hi⟩ := List.mem_iff_getElem?.1 h
  rw [List.getElem?_take] at hi
  split at hi
  · exact ⟨i, by assumption, hi⟩
  · cases hi
theorem drop_ix {α : Type} {l : List α} {x : α} (h : x ∈ l.drop j) : ∃ i, j ≤ i ∧ l[i]? = some x := by
  obtain ⟨i, hi⟩ := List.mem_iff_getElem?.1 h
  rw [List.getElem?_drop] at hi
  exact ⟨j + i, by omega, hi⟩
theorem gap_le8 (hg : gangB gs = true) : gapV 0 gs ≤ 8 := by
  obtain ⟨al, rfl⟩ := as_gng gs
  have := gang_len8 hg
  have h2 : gapV 0 (al.map GngA.val) ≤ al.length := gapA_le
  omega
abbrev formL (gs : Gs) (l : List Int) : Gs := gs.take (gapV 0 gs) ++ [(((gapV 0 gs : Nat) : Int) + 1, l)] ++ gs.drop (gapV 0 gs)
theorem forml_gang (hg : gangB gs = true) (hm : mayB l = true) (ha : l.any (inV gs) = false) (h8 : ¬ gapV 0 gs = 8) : gangB (formL gs l) = true := by
  have hg0 := hg
  have h8b := gap_le8 hg
  rw [gang_iff14] at hg ⊢
  obtain ⟨h1, h2, h3, h4⟩ := hg
  have e1 : (formL gs l).map (·.1) = (gs.take (gapV 0 gs)).map (·.1) ++ ((((gapV 0 gs : Nat) : Int) + 1) :: (gs.drop (gapV 0 gs)).map (·.1)) := by simp [formL]
  have hlo : ∀ x ∈ (gs.take (gapV 0 gs)).map (·.1), x < ((gapV 0 gs : Nat) : Int) + 1 := fun x hx => by
    obtain ⟨g, hgm, rfl⟩ := List.mem_map.1 hx
    obtain ⟨i, hi, hgi⟩ := take_ix hgm
    have := gap_lt hg0 hi hgi
    omega
  have hhi : ∀ x ∈ (gs.drop (gapV 0 gs)).map (·.1), ((gapV 0 gs : Nat) : Int) + 1 < x := fun x hx => by
    obtain ⟨g, hgm, rfl⟩ := List.mem_map.1 hx
    obtain ⟨i, hi, hgi⟩ := drop_ix hgm
    exact gap_gt hg0 hi hgi
  refine ⟨?_, ?_, ?_, ?_⟩
  · rw [e1, List.pairwise_append]
    refine ⟨h1.sublist ((List.take_sublist _ _).map _), List.pairwise_cons.2 ⟨hhi, h1.sublist ((List.drop_sublist _ _).map _)⟩, fun x hx y hy => ?_⟩
    have hx2 := hlo x hx
    rcases List.mem_cons.1 hy with rfl | e
    · exact hx2
    · have := hhi y e; omega
  · rw [e1]
    intro x hx
    rcases List.mem_append.1 hx with e | e
    · exact h2 x (((List.take_sublist _ _).map _).subset e)
    · rcases List.mem_cons.1 e with rfl | e
      · omega
      · exact h2 x (((List.drop_sublist _ _).map _).subset e)
  · intro g hgm
    rcases List.mem_append.1 hgm with e | e
    · rcases List.mem_append.1 e with e | e
      · exact h3 g ((List.take_sublist _ _).subset e)
      · rw [List.mem_singleton] at e; subst e; exact hm
    · exact h3 g ((List.drop_sublist _ _).subset e)
  · have hp : (memL (formL gs l)).Perm (l ++ memL gs) := by
      rw [formL, memL_app, memL_app, show memL [(((gapV 0 gs : Nat) : Int) + 1, l)] = l by simp [memL]]
      refine ((List.perm_append_comm).append_right _).trans ?_
      rw [List.append_assoc, ← memL_app, List.take_append_drop]
    rw [hp.nodup_iff, List.nodup_append]
    refine ⟨may_nodup hm, h4, fun a hal b hb e => ?_⟩
    subst e
    exact List.any_eq_false.1 ha a hal (in_iff14.2 hb)
/-- What Form answers, by cases. -/
theorem form_cases (h : (hs, idn, (0 : Int)) = formV gs l) : gangB gs = true ∧ mayB l = true ∧ l.any (inV gs) = false ∧ ¬ gapV 0 gs = 8 ∧ hs = formL gs l ∧ idn = ((gapV 0 gs : Nat) : Int) + 1 := by
  unfold formV at h
  cases hg : gangB gs with
  | false => rw [if_pos hg] at h; simp at h
  | true =>
    rw [if_neg (by rw [hg]; decide)] at h
    cases hm : mayB l with
    | false => rw [fc_arg hm] at h; simp at h
    | true =>
      cases ha : l.any (inV gs) with
      | true => rw [fc_there hm ha] at h; simp at h
      | false =>
        by_cases h8 : gapV 0 gs = 8
        · rw [fc_full hm ha rfl h8] at h; simp at h
        · rw [fc_ok hm ha rfl h8] at h
          simp only [if_true, Prod.mk.injEq] at h
          exact ⟨rfl, rfl, rfl, h8, h.1, h.2.1⟩
theorem form_gang (h : (hs, idn, (0 : Int)) = formV gs l) : gangB hs = true := by
  obtain ⟨h1, h2, h3, h4, rfl, _⟩ := form_cases h
  exact forml_gang h1 h2 h3 h4
theorem mov_gang {C : Gs → Int → Gs × Int} (hC : ∀ gs k, gangB gs = true → gangB (C gs k).1 = true) (h : (hs, (0 : Int)) = movG gs (C gs k)) : gangB hs = true ∧ gangB gs = true ∧ C gs k = (hs, 0) := by
  unfold movG at h
  cases hg : gangB gs with
  | false => rw [if_pos hg] at h; simp at h
  | true =>
    rw [if_neg (by rw [hg]; decide)] at h
    split at h
    · have := hC gs k hg
      rw [← h] at this ⊢
      exact ⟨this, rfl, rfl⟩
    · rename_i e
      simp only [Prod.mk.injEq] at h
      exact absurd h.2.symm e
end
end Go.Proofs.Ytahccegfahghfaa

/-! Gangs: formed and parted again; who leaves; plain. -/
namespace Go.Proofs.Ytahccegfahghfaa
open Go Go.RowKit
/-- The members of the gang that one is in. -/
def ownV (gs : Gs) (k : Int) : List Int := ((findG gs k).map (·.2)).getD []
section
variable {gs t hs : Gs} {k n : Int} {i j : Nat} {l : List Int} {g a : Int × List Int} {bl : List GngA} {er idn : Int}
section
variable (hg : gangB gs = true) (hin : leaveC gs k = (hs, 0))
include hg hin
end
section
variable (h : (hs, idn, (0 : Int)) = formV gs l)
include h
end
-- rows of members, none twice
theorem apart_new {rl : List (List Int)} {x : List Int} (hN : (memL gs).Nodup) (hB : rl = gs.map (·.2)) (hx : rl[j]? = some x) (hn : x[i]? = some n) : decide (n ∈ memL (gs.take j) ++ x.take i) = false := decide_eq_false fun hm => by
  subst hB
  rw [List.getElem?_map] at hx
  cases hg : gs[j]? with
  | none => rw [hg] at hx; cases hx
  | some g =>
    rw [hg] at hx
    simp only [Option.map_some, Option.some.injEq] at hx
    subst hx
    rw [memL_take hg] at hN
    obtain ⟨h1, h2, h3⟩ := List.nodup_append.1 hN
    obtain ⟨h4, _, _⟩ := List.nodup_append.1 h2
    rcases List.mem_append.1 hm with e1 | e1
    · exact absurd rfl (h3 n e1 n (List.mem_append_left _ (List.mem_of_getElem? hn)))
    · obtain ⟨k, hki, hk⟩ := take_ix e1
      obtain ⟨l1, e1⟩ := List.getElem?_eq_some_iff.1 hk
      obtain ⟨l2, e2⟩ := List.getElem?_eq_some_iff.1 hn
      have := (List.getElem_inj h4).1 (e1.trans e2.symm)
      omega
theorem apart_next {rl : List (List Int)} {x : List Int} (hB : rl = gs.map (·.2)) (hx : rl[j]? = some x) : memL (gs.take (j + 1)) = memL (gs.take j) ++ x := by
  subst hB
  rw [List.getElem?_map] at hx
  cases hg : gs[j]? with
  | none => rw [hg] at hx; cases hx
  | some g =>
    rw [hg] at hx
    simp only [Option.map_some, Option.some.injEq] at hx
    subst hx
    exact memL_onT hg
theorem apart_len {rl : List (List Int)} {x : List Int} (hg : gangB gs = true) (hB : rl = gs.map (·.2)) (hx : rl[j]? = some x) : 2 ≤ x.length ∧ x.length ≤ 8 := by
  subst hB
  obtain ⟨g, hgm, rfl⟩ := List.mem_map.1 (List.mem_of_getElem? hx)
  exact may_len ((gang_iff14.1 hg).2.2.1 g hgm)
end
end Go.Proofs.Ytahccegfahghfaa

/-! What the document makes of gangs; plain. -/
namespace Go.Proofs.Ytahccegfahghfaa
open Go Go.RowKit
section
variable {al bl bb : List GngA} {gs : Gs} {k n : Int} {x x0 y : GngA} {i0 i j : Nat} {l : List Int} {T : TypeId} {Yi : List Ob}
section
variable (hg : gangB (al.map GngA.val) = true) (hx : al[i0]? = some x0) (hp : hasG k x0 = true) (hl : ∀ (t : Nat) (y : GngA), t < i0 → al[t]? = some y → hasG k y = false)
include hg hx hp
end
end
end Go.Proofs.Ytahccegfahghfaa

/-! The document: Part, Leave. -/
namespace Go.Proofs.Ytahccegfahghfaa
open Go Go.RowKit

end Go.Proofs.Ytahccegfahghfaa

/-! The document: Form. -/
namespace Go.Proofs.Ytahccegfahghfaa
open Go Go.RowKit
end Go.Proofs.Ytahccegfahghfaa

/-! Gangs as an element; what short leaves; plain. -/
namespace Go.Proofs.Ytahccegfahghfaa
open Go Go.RowKit
/-- Gangs, as an element. -/
structure GngsA where
  p : Option Addr
  n : Nat
  cap : Nat
  l : List GngA
def GngsA.enc (x : GngsA) : List Value := [.slice x.p x.n x.cap]
instance : Enc GngsA := ⟨GngsA.enc, 1, fun _ => rfl, fun x v h => by simp [GngsA.enc] at h; subst h; rfl, by decide⟩
structure GngsA.Reads (w : World) (x : GngsA) : Prop where
  sv : Sv w x.p x.l
  hn : x.n = x.l.length
  hc : x.n ≤ x.cap
  hb : x.cap ≤ 9223372036854775807
  hi : ∀ y ∈ x.l, y.Reads w
section
variable {T : TypeId} {Yi : List Ob} {bl bl2 al : List GngA} {gs : Gs} {rl : List IntsA} {x : GngA} {y : IntsA} {j : Nat} {w : World} {k : Int}
theorem rows_len (hB : rl.map IntsA.l = rowsV (bl.map GngA.val)) (hg : gangB (bl.map GngA.val) = true) : rl.length = bl.length := by
  rw [rows_ok hg] at hB
  have := congrArg List.length hB
  simpa using this
end
end Go.Proofs.Ytahccegfahghfaa

/-! What is done to gangs, as elements; plain. -/
namespace Go.Proofs.Ytahccegfahghfaa
open Go Go.RowKit
/-- An op. -/
structure OpG where
  kind : Int
  a : Int
  p : Option Addr
  n : Nat
  cap : Nat
  l : List Int
def OpG.enc (x : OpG) : List Value := [.int .i64 x.kind, .int .i64 x.a, .slice x.p x.n x.cap]
instance : Enc OpG := ⟨OpG.enc, 3, fun _ => rfl, fun x v h => by simp [OpG.enc] at h; rcases h with rfl | rfl | rfl <;> rfl, by decide⟩
def OpG.row (x : OpG) : IntsA := ⟨x.p, x.n, x.cap, x.l⟩
def OpG.Reads (w : World) (x : OpG) : Prop := x.row.Reads w
/-- The rest by six. -/
def kd6 (k : Int) : Int := Int.tmod (IntKind.u64.wrap k) 6
/-- What the layer makes of it: gangs, a number, the error. -/
def runG (gs : Gs) (o : OpG) : Gs × Int × Int :=
  if kd6 o.kind = 0 ∨ kd6 o.kind = 1 ∨ kd6 o.kind = 2 then formV gs (o.l.take 17)
  else if kd6 o.kind = 3 then ((movG gs (partC gs o.a)).1, 0, (movG gs (partC gs o.a)).2)
  else ((movG gs (leaveC gs o.a)).1, 0, (movG gs (leaveC gs o.a)).2)
section
variable {gs hs : Gs} {o : OpG} {idn k er : Int}
theorem run_form (h : kd6 o.kind = 0 ∨ kd6 o.kind = 1 ∨ kd6 o.kind = 2) : runG gs o = formV gs (o.l.take 17) := if_pos h
theorem run_part (h : kd6 o.kind = 3) : runG gs o = ((movG gs (partC gs o.a)).1, 0, (movG gs (partC gs o.a)).2) := by rw [runG, if_neg (by omega), if_pos h]
theorem run_leave (h : ¬ (kd6 o.kind = 0 ∨ kd6 o.kind = 1 ∨ kd6 o.kind = 2)) (h3 : ¬ kd6 o.kind = 3) : runG gs o = ((movG gs (leaveC gs o.a)).1, 0, (movG gs (leaveC gs o.a)).2) := by rw [runG, if_neg h, if_neg h3]
theorem run_gang (h : (runG gs o).2.2 = 0) : gangB (runG gs o).1 = true := by
  unfold runG at h ⊢
  split
  · rename_i e
    rw [if_pos e] at h
    exact form_gang (idn := (formV gs (o.l.take 17)).2.1) (gs := gs) (l := o.l.take 17) (by rw [← h])
  · rename_i e
    rw [if_neg e] at h
    split
    · rename_i e3
      rw [if_pos e3] at h
      exact (mov_gang (C := partC) (k := o.a) (fun _ _ hg => part_gang hg) (gs := gs) (by rw [← h])).1
    · rename_i e3
      rw [if_neg e3] at h
      exact (mov_gang (C := leaveC) (k := o.a) (fun _ _ hg => leave_gang hg) (gs := gs) (by rw [← h])).1
end
end Go.Proofs.Ytahccegfahghfaa

/-! Gangs: an op, with the layer and by the document. -/
namespace Go.Proofs.Ytahccegfahghfaa
open Go Go.RowKit
set_option maxRecDepth 100000 in
theorem run_t14 (o : OpG) (q : Option Addr) (m capq : Nat) (al : List GngA) (w : World)
    (hal : Sv w q al) (hma : m = al.length) (hbm : m ≤ 1000) (hnm : ∀ x ∈ al, x.Reads w) (hm9 : ∀ x ∈ al, x.n ≤ 1000)
    (hso : Sv w o.p o.l) (hno : o.n = o.l.length) (hco : o.n ≤ o.cap) (hbo : o.cap ≤ 9223372036854775807)
    : Calls Try.prog 26 #[.agg #[.int .i64 o.kind, .int .i64 o.a, .slice o.p o.n o.cap], .agg #[.slice q m capq]] w fun e w' => ∃ q' n' c' Y Yi bl, e = .returned (.tuple #[.agg #[.slice q' n' c'], .int .i64 (runG (al.map GngA.val) o).2.1, .int .i64 (runG (al.map GngA.val) o).2.2]) ∧ bl.map GngA.val = (runG (al.map GngA.val) o).1 ∧ SlO 46 Y q' n' c' bl ∧ GotG 3 Yi bl ∧ Below w.heap.size w w' ∧ Hs w (Y ++ Yi) w' := by
  refine enter (Hs.start w) Try.func26 rfl Try.ntmps26 rfl (sq_ (ma0 [] [] (fun γ1 => [(2, .pointer (some ⟨γ1 0, 0, none⟩)), (3, .pointer (some ⟨γ1 1, 0, none⟩)), (4, .pointer (some ⟨γ1 2, 0, none⟩)), (5, .int .i64 0)]) (fun γ1 L => bx (γ1 2) (#[.slice none 0 0]) 38 :: bx (γ1 1) (#[.slice q m capq]) 38 :: bx (γ1 0) (#[.int .i64 o.kind, .int .i64 o.a, .slice o.p o.n o.cap]) 54 :: L) (fun γ1 => ds_ (sq_ (sq_ (qa0 [(1, .go (owns 2 0 1))] [2, 3, 4, 5] [(12, .int .u64 (kd6 o.kind))] (ds_ (at_block (sq_ (sq_ ?_))))))))))
  by_cases q4 : (kd6 o.kind : Int) = (0 : Int)
  ·
    refine qa [(0, .yes)] [2, 3, 4, 5, 12] [(20, .bool true)] ([(kd6 o.kind : Int) = (0 : Int)]) (al1 q4) (ds_ (t_ (at_skip (ds_ (t_ (sq_ (ao_ (qo0 2 [(1, .go (owns 2 2 1))] [3, 4] [(25, .slice o.p o.n o.cap)] (cP (fun v L' => ∃ q_ n_ c_ Y_, v = .slice q_ n_ c_ ∧ L' = List.take 3 ([bx (γ1 2) (#[.slice none 0 0]) 38, bx (γ1 1) (#[.slice q m capq]) 38, bx (γ1 0) (#[.int .i64 o.kind, .int .i64 o.a, .slice o.p o.n o.cap]) 54]) ++ (Y_ ++ List.drop 3 ([bx (γ1 2) (#[.slice none 0 0]) 38, bx (γ1 1) (#[.slice q m capq]) 38, bx (γ1 0) (#[.int .i64 o.kind, .int .i64 o.a, .slice o.p o.n o.cap]) 54])) ∧ SlO 3 Y_ q_ n_ c_ (o.l.take 17)) Try.call30 (fun w hw => (ints_t o.p o.n o.cap o.l w (hso.kept hw.below) hno (by omega) (by omega)).mono fun e w' ⟨q_, n_, c_, Y_, he, hO, hb, hY⟩ => ⟨_, _, he, ⟨q_, n_, c_, Y_, rfl, rfl, hO⟩, hw.join hb hY 3⟩) ?_)))))))))
    rintro v7 L7 ⟨q7, n7, c7, Y7, rfl, rfl, hO7⟩
    refine qo0 1 [] [3, 4] [(7, .slice q7 n7 c7)] (on_ (ds_ (sq_ (ao_ (qo0 2 [(0, .go (owns 1 0 1))] [4, 7] [(28, .agg #[.slice q m capq]), (29, .slice q7 n7 c7)] (cP (fun v L' => ∃ er q_ n_ c_ Y_ Z_ bl_ idn, v = .tuple #[.agg #[.slice q_ n_ c_], .int .i64 idn, .int .i64 er] ∧ L' = List.take 3 (bx (γ1 2) (#[.slice none 0 0]) 38 :: bx (γ1 1) (#[.slice q m capq]) 38 :: bx (γ1 0) (#[.int .i64 o.kind, .int .i64 o.a, .slice o.p o.n o.cap]) 54 :: (Y7 ++ [])) ++ (Y_ ++ (Z_ ++ List.drop 3 (bx (γ1 2) (#[.slice none 0 0]) 38 :: bx (γ1 1) (#[.slice q m capq]) 38 :: bx (γ1 0) (#[.int .i64 o.kind, .int .i64 o.a, .slice o.p o.n o.cap]) 54 :: (Y7 ++ [])))) ∧ SlO 46 Y_ q_ n_ c_ bl_ ∧ GotG 3 Z_ bl_ ∧ (bl_.map GngA.val, idn, er) = formV (al.map GngA.val) (o.l.take 17)) Try.call29 (fun w hw => (form_t q m capq al q7 n7 c7 (o.l.take 17) w (hal.kept hw.below) hma hbm (fun x hx => (hnm x hx).kept hw.below) hm9 (hO7.atN (A := [_, _, _]) hw) (by have := hO7.len; omega) (by have := hO7.len; rw [List.length_take] at this; omega)).mono fun e w' ⟨er, q_, n_, c_, Y_, Z_, bl_, idn, he, hv, hO, hG, hb, hY⟩ => ⟨_, _, he, ⟨er, q_, n_, c_, Y_, Z_, bl_, idn, rfl, rfl, hO, hG, hv⟩, hs_re (hw.join hb hY 3)⟩) ?_))))))
    rintro v10 L10 ⟨er10, q10, n10, c10, Y10, Yz10, bl10, id10, rfl, rfl, hO10, hG10, hV10⟩
    refine mo0 7 [(7, .go (owns 0 0 1))] [4, 7] (fun _ => [(5, .int .i64 id10), (6, .int .i64 er10)]) (fun _ L => (L.set 0 (bx (γ1 2) (#[.slice q10 n10 c10]) 38))) (fun _ => on_ (ds_ (sq_ ?_)))
    have hle9 : n7 ≤ 17 := by have := hO7.len; rw [List.length_take] at this; omega
    refine qa0 [] [4, 5, 6, 7] [(35, .int .i64 (n7 : Nat)), (36, .int .i64 0)] (ds_ (at_block (At.pick [[bx (γ1 2) (#[.slice q10 n10 c10]) 38], [bx (γ1 1) (#[.slice q m capq]) 38], [bx (γ1 0) (#[.int .i64 o.kind, .int .i64 o.a, .slice o.p o.n o.cap]) 54], Y10, Yz10, Y7] [0, 5, 3, 4] [1, 2] (bx (γ1 2) (#[.slice q10 n10 c10]) 38 :: (Y7 ++ (Y10 ++ (Yz10 ++ [])))) (by kernel_rfl) rfl rfl (at_loop (α := Nat × Option Addr × List Ob × List Int) [4, 5, 6, 7, 35, 36] (fun ⟨j, pl, Yl, ll⟩ => [(4, .pointer (some ⟨γ1 2, 0, none⟩)), (5, .int .i64 id10), (6, .int .i64 er10), (7, .slice pl n7 c7), (35, .int .i64 (n7 : Nat)), (36, .int .i64 (j : Nat))]) (fun ⟨j, pl, Yl, ll⟩ => bx (γ1 2) (#[.slice q10 n10 c10]) 38 :: (Yl ++ (Y10 ++ (Yz10 ++ [])))) (fun ⟨j, pl, Yl, ll⟩ => j ≤ n7 ∧ SlO 3 Yl pl n7 c7 ll) (fun ⟨j, pl, Yl, ll⟩ => n7 - j) (0, q7, Y7, (o.l.take 17)) (by kernel_rfl) rfl ⟨Nat.zero_le _, hO7⟩ ?_))))
    rintro ⟨j, pl, Yl, ll⟩
    rintro ⟨hj, hl⟩
    have hll := hl.len
    refine sq_ ?_
    by_cases q14 : ((j : Nat) : Int) < ((n7 : Nat) : Int)
    ·
      refine qa [(0, .yes)] [4, 5, 6, 7, 35, 36] [(37, .bool true)] ([((j : Nat) : Int) < ((n7 : Nat) : Int)]) (al1 q14) (ds_ (sq_ (t_ (at_skip (ds_ (sq_ (at_block (sq_ (qa0 [] [4, 5, 6, 7, 35, 36] [(8, .int .i64 (j : Nat))] (ds_ ?_))))))))))
      have hln18 := hl.len
      obtain ⟨g18, cs18, rfl, rfl, hOw18⟩ := hl.rowOf (i := j) (by omega)
      obtain ⟨x20, hx20⟩ := get_some (l := ll) (m := j) (by omega)
      refine ma [(2, .at g18 0 j), (3, .go (ownps 1 (0 + j * 1) [undef]))] [4, 5, 6, 7, 35, 36] (fun _ => []) (fun _ L => (L.set 1 (bx g18 ((cs18).setIfInBounds (0 + j * 1) (.int .i64 99)) 3))) (fun _ => [(some ⟨g18, 0, none⟩ : Option Addr) = some ⟨g18, 0, none⟩, (j : Nat) = ((j : Nat) : Int), j < n7] ++ ([0 + j * 1 < (cs18).size])) (fun _ => (alA (al2 rfl (al2 rfl (al1 (by omega)))) (al1 (hOw18.room hl.len hx20 (f := 0) (by decide))))) (fun _ => done_block (ds_ (qa [(0, .fit)] [4, 5, 6, 7, 35] [(36, .int .i64 (j + 1 : Nat))] ([Fit .i64 ((j + 1 : Nat))]) (al1 (fit64 (by omega) (by omega))) ?_)))
      exact dr [4, 5, 6, 7, 35, 36] (j + 1, (some ⟨g18, 0, none⟩), ([bx g18 ((cs18).setIfInBounds (0 + j * 1) (.int .i64 99)) 3]), (ll.set j 99)) ⟨by omega, (SlO.ofOwn (hOw18.put (x' := 99) hl.len hx20 (f := 0) (by decide) rfl) (len_set hl.len))⟩
    ·
      refine qa [(0, .no)] [4, 5, 6, 7, 35, 36] [(37, .bool false)] ([¬ (((j : Nat) : Int) < ((n7 : Nat) : Int))]) (al1 q14) (ds_ (sq_ (f_ (at_leave _ rfl (done_block (ds_ (sq_ (qa0 [(0, .go (owns 0 0 1)), (3, .go (owns 0 0 1))] [4] [(5, .int .i64 id10), (6, .int .i64 er10)] (ds_ (rt (owns 0 0 1) (.tuple #[.agg #[.slice q10 n10 c10], .int .i64 id10, .int .i64 er10]) ?_))))))))))
      have hrun : runG (al.map GngA.val) o = (bl10.map GngA.val, id10, er10) := (run_form (by omega)).trans hV10.symm
      exact fun w' hw => by rw [hrun]; exact ⟨_, _, _, _, _, _, rfl, rfl, hO10, hG10, hw.below, two_tails14 (Hs.pick [[bx (γ1 2) (#[.slice q10 n10 c10]) 38], Yl, Y10, Yz10] [2, 3] [0, 1] (by kernel_rfl) hw)⟩
  ·
    refine qa [(0, .no)] [2, 3, 4, 5, 12] [(20, .bool false)] ([¬ ((kd6 o.kind : Int) = (0 : Int))]) (al1 q4) (ds_ (f_ (sq_ ?_)))
    by_cases q27 : (kd6 o.kind : Int) = (1 : Int)
    ·
      refine qa [(0, .yes)] [2, 3, 4, 5, 12] [(20, .bool true)] ([(kd6 o.kind : Int) = (1 : Int)]) (al1 q27) (ds_ (t_ (at_skip (ds_ (t_ (sq_ (ao_ (qo0 2 [(1, .go (owns 2 2 1))] [3, 4] [(25, .slice o.p o.n o.cap)] (cP (fun v L' => ∃ q_ n_ c_ Y_, v = .slice q_ n_ c_ ∧ L' = List.take 3 ([bx (γ1 2) (#[.slice none 0 0]) 38, bx (γ1 1) (#[.slice q m capq]) 38, bx (γ1 0) (#[.int .i64 o.kind, .int .i64 o.a, .slice o.p o.n o.cap]) 54]) ++ (Y_ ++ List.drop 3 ([bx (γ1 2) (#[.slice none 0 0]) 38, bx (γ1 1) (#[.slice q m capq]) 38, bx (γ1 0) (#[.int .i64 o.kind, .int .i64 o.a, .slice o.p o.n o.cap]) 54])) ∧ SlO 3 Y_ q_ n_ c_ (o.l.take 17)) Try.call30 (fun w hw => (ints_t o.p o.n o.cap o.l w (hso.kept hw.below) hno (by omega) (by omega)).mono fun e w' ⟨q_, n_, c_, Y_, he, hO, hb, hY⟩ => ⟨_, _, he, ⟨q_, n_, c_, Y_, rfl, rfl, hO⟩, hw.join hb hY 3⟩) ?_)))))))))
      rintro v30 L30 ⟨q30, n30, c30, Y30, rfl, rfl, hO30⟩
      refine qo0 1 [] [3, 4] [(7, .slice q30 n30 c30)] (on_ (ds_ (sq_ (ao_ (qo0 2 [(0, .go (owns 1 0 1))] [4, 7] [(28, .agg #[.slice q m capq]), (29, .slice q30 n30 c30)] (cP (fun v L' => ∃ er q_ n_ c_ Y_ Z_ bl_ idn, v = .tuple #[.agg #[.slice q_ n_ c_], .int .i64 idn, .int .i64 er] ∧ L' = List.take 3 (bx (γ1 2) (#[.slice none 0 0]) 38 :: bx (γ1 1) (#[.slice q m capq]) 38 :: bx (γ1 0) (#[.int .i64 o.kind, .int .i64 o.a, .slice o.p o.n o.cap]) 54 :: (Y30 ++ [])) ++ (Y_ ++ (Z_ ++ List.drop 3 (bx (γ1 2) (#[.slice none 0 0]) 38 :: bx (γ1 1) (#[.slice q m capq]) 38 :: bx (γ1 0) (#[.int .i64 o.kind, .int .i64 o.a, .slice o.p o.n o.cap]) 54 :: (Y30 ++ [])))) ∧ SlO 46 Y_ q_ n_ c_ bl_ ∧ GotG 3 Z_ bl_ ∧ (bl_.map GngA.val, idn, er) = formV (al.map GngA.val) (o.l.take 17)) Try.call29 (fun w hw => (form_t q m capq al q30 n30 c30 (o.l.take 17) w (hal.kept hw.below) hma hbm (fun x hx => (hnm x hx).kept hw.below) hm9 (hO30.atN (A := [_, _, _]) hw) (by have := hO30.len; omega) (by have := hO30.len; rw [List.length_take] at this; omega)).mono fun e w' ⟨er, q_, n_, c_, Y_, Z_, bl_, idn, he, hv, hO, hG, hb, hY⟩ => ⟨_, _, he, ⟨er, q_, n_, c_, Y_, Z_, bl_, idn, rfl, rfl, hO, hG, hv⟩, hs_re (hw.join hb hY 3)⟩) ?_))))))
      rintro v33 L33 ⟨er33, q33, n33, c33, Y33, Yz33, bl33, id33, rfl, rfl, hO33, hG33, hV33⟩
      refine mo0 7 [(7, .go (owns 0 0 1))] [4, 7] (fun _ => [(5, .int .i64 id33), (6, .int .i64 er33)]) (fun _ L => (L.set 0 (bx (γ1 2) (#[.slice q33 n33 c33]) 38))) (fun _ => on_ (ds_ (sq_ ?_)))
      have hle9 : n30 ≤ 17 := by have := hO30.len; rw [List.length_take] at this; omega
      refine qa0 [] [4, 5, 6, 7] [(35, .int .i64 (n30 : Nat)), (36, .int .i64 0)] (ds_ (at_block (At.pick [[bx (γ1 2) (#[.slice q33 n33 c33]) 38], [bx (γ1 1) (#[.slice q m capq]) 38], [bx (γ1 0) (#[.int .i64 o.kind, .int .i64 o.a, .slice o.p o.n o.cap]) 54], Y33, Yz33, Y30] [0, 5, 3, 4] [1, 2] (bx (γ1 2) (#[.slice q33 n33 c33]) 38 :: (Y30 ++ (Y33 ++ (Yz33 ++ [])))) (by kernel_rfl) rfl rfl (at_loop (α := Nat × Option Addr × List Ob × List Int) [4, 5, 6, 7, 35, 36] (fun ⟨j, pl, Yl, ll⟩ => [(4, .pointer (some ⟨γ1 2, 0, none⟩)), (5, .int .i64 id33), (6, .int .i64 er33), (7, .slice pl n30 c30), (35, .int .i64 (n30 : Nat)), (36, .int .i64 (j : Nat))]) (fun ⟨j, pl, Yl, ll⟩ => bx (γ1 2) (#[.slice q33 n33 c33]) 38 :: (Yl ++ (Y33 ++ (Yz33 ++ [])))) (fun ⟨j, pl, Yl, ll⟩ => j ≤ n30 ∧ SlO 3 Yl pl n30 c30 ll) (fun ⟨j, pl, Yl, ll⟩ => n30 - j) (0, q30, Y30, (o.l.take 17)) (by kernel_rfl) rfl ⟨Nat.zero_le _, hO30⟩ ?_))))
      rintro ⟨j, pl, Yl, ll⟩
      rintro ⟨hj, hl⟩
      have hll := hl.len
      refine sq_ ?_
      by_cases q37 : ((j : Nat) : Int) < ((n30 : Nat) : Int)
      ·
        refine qa [(0, .yes)] [4, 5, 6, 7, 35, 36] [(37, .bool true)] ([((j : Nat) : Int) < ((n30 : Nat) : Int)]) (al1 q37) (ds_ (sq_ (t_ (at_skip (ds_ (sq_ (at_block (sq_ (qa0 [] [4, 5, 6, 7, 35, 36] [(8, .int .i64 (j : Nat))] (ds_ ?_))))))))))
        have hln41 := hl.len
        obtain ⟨g41, cs41, rfl, rfl, hOw41⟩ := hl.rowOf (i := j) (by omega)
        obtain ⟨x43, hx43⟩ := get_some (l := ll) (m := j) (by omega)
        refine ma [(2, .at g41 0 j), (3, .go (ownps 1 (0 + j * 1) [undef]))] [4, 5, 6, 7, 35, 36] (fun _ => []) (fun _ L => (L.set 1 (bx g41 ((cs41).setIfInBounds (0 + j * 1) (.int .i64 99)) 3))) (fun _ => [(some ⟨g41, 0, none⟩ : Option Addr) = some ⟨g41, 0, none⟩, (j : Nat) = ((j : Nat) : Int), j < n30] ++ ([0 + j * 1 < (cs41).size])) (fun _ => (alA (al2 rfl (al2 rfl (al1 (by omega)))) (al1 (hOw41.room hl.len hx43 (f := 0) (by decide))))) (fun _ => done_block (ds_ (qa [(0, .fit)] [4, 5, 6, 7, 35] [(36, .int .i64 (j + 1 : Nat))] ([Fit .i64 ((j + 1 : Nat))]) (al1 (fit64 (by omega) (by omega))) ?_)))
        exact dr [4, 5, 6, 7, 35, 36] (j + 1, (some ⟨g41, 0, none⟩), ([bx g41 ((cs41).setIfInBounds (0 + j * 1) (.int .i64 99)) 3]), (ll.set j 99)) ⟨by omega, (SlO.ofOwn (hOw41.put (x' := 99) hl.len hx43 (f := 0) (by decide) rfl) (len_set hl.len))⟩
      ·
        refine qa [(0, .no)] [4, 5, 6, 7, 35, 36] [(37, .bool false)] ([¬ (((j : Nat) : Int) < ((n30 : Nat) : Int))]) (al1 q37) (ds_ (sq_ (f_ (at_leave _ rfl (done_block (ds_ (sq_ (qa0 [(0, .go (owns 0 0 1)), (3, .go (owns 0 0 1))] [4] [(5, .int .i64 id33), (6, .int .i64 er33)] (ds_ (rt (owns 0 0 1) (.tuple #[.agg #[.slice q33 n33 c33], .int .i64 id33, .int .i64 er33]) ?_))))))))))
        have hrun : runG (al.map GngA.val) o = (bl33.map GngA.val, id33, er33) := (run_form (by omega)).trans hV33.symm
        exact fun w' hw => by rw [hrun]; exact ⟨_, _, _, _, _, _, rfl, rfl, hO33, hG33, hw.below, two_tails14 (Hs.pick [[bx (γ1 2) (#[.slice q33 n33 c33]) 38], Yl, Y33, Yz33] [2, 3] [0, 1] (by kernel_rfl) hw)⟩
    ·
      refine qa [(0, .no)] [2, 3, 4, 5, 12] [(20, .bool false)] ([¬ ((kd6 o.kind : Int) = (1 : Int))]) (al1 q27) (ds_ (f_ ?_))
      by_cases q50 : (kd6 o.kind : Int) = (2 : Int)
      ·
        refine qa [(0, .yes)] [2, 3, 4, 5, 12] [(20, .bool true)] ([(kd6 o.kind : Int) = (2 : Int)]) (al1 q50) (ds_ (t_ (sq_ (ao_ (qo0 2 [(1, .go (owns 2 2 1))] [3, 4] [(25, .slice o.p o.n o.cap)] (cP (fun v L' => ∃ q_ n_ c_ Y_, v = .slice q_ n_ c_ ∧ L' = List.take 3 ([bx (γ1 2) (#[.slice none 0 0]) 38, bx (γ1 1) (#[.slice q m capq]) 38, bx (γ1 0) (#[.int .i64 o.kind, .int .i64 o.a, .slice o.p o.n o.cap]) 54]) ++ (Y_ ++ List.drop 3 ([bx (γ1 2) (#[.slice none 0 0]) 38, bx (γ1 1) (#[.slice q m capq]) 38, bx (γ1 0) (#[.int .i64 o.kind, .int .i64 o.a, .slice o.p o.n o.cap]) 54])) ∧ SlO 3 Y_ q_ n_ c_ (o.l.take 17)) Try.call30 (fun w hw => (ints_t o.p o.n o.cap o.l w (hso.kept hw.below) hno (by omega) (by omega)).mono fun e w' ⟨q_, n_, c_, Y_, he, hO, hb, hY⟩ => ⟨_, _, he, ⟨q_, n_, c_, Y_, rfl, rfl, hO⟩, hw.join hb hY 3⟩) ?_))))))
        rintro v53 L53 ⟨q53, n53, c53, Y53, rfl, rfl, hO53⟩
        refine qo0 1 [] [3, 4] [(7, .slice q53 n53 c53)] (on_ (ds_ (sq_ (ao_ (qo0 2 [(0, .go (owns 1 0 1))] [4, 7] [(28, .agg #[.slice q m capq]), (29, .slice q53 n53 c53)] (cP (fun v L' => ∃ er q_ n_ c_ Y_ Z_ bl_ idn, v = .tuple #[.agg #[.slice q_ n_ c_], .int .i64 idn, .int .i64 er] ∧ L' = List.take 3 (bx (γ1 2) (#[.slice none 0 0]) 38 :: bx (γ1 1) (#[.slice q m capq]) 38 :: bx (γ1 0) (#[.int .i64 o.kind, .int .i64 o.a, .slice o.p o.n o.cap]) 54 :: (Y53 ++ [])) ++ (Y_ ++ (Z_ ++ List.drop 3 (bx (γ1 2) (#[.slice none 0 0]) 38 :: bx (γ1 1) (#[.slice q m capq]) 38 :: bx (γ1 0) (#[.int .i64 o.kind, .int .i64 o.a, .slice o.p o.n o.cap]) 54 :: (Y53 ++ [])))) ∧ SlO 46 Y_ q_ n_ c_ bl_ ∧ GotG 3 Z_ bl_ ∧ (bl_.map GngA.val, idn, er) = formV (al.map GngA.val) (o.l.take 17)) Try.call29 (fun w hw => (form_t q m capq al q53 n53 c53 (o.l.take 17) w (hal.kept hw.below) hma hbm (fun x hx => (hnm x hx).kept hw.below) hm9 (hO53.atN (A := [_, _, _]) hw) (by have := hO53.len; omega) (by have := hO53.len; rw [List.length_take] at this; omega)).mono fun e w' ⟨er, q_, n_, c_, Y_, Z_, bl_, idn, he, hv, hO, hG, hb, hY⟩ => ⟨_, _, he, ⟨er, q_, n_, c_, Y_, Z_, bl_, idn, rfl, rfl, hO, hG, hv⟩, hs_re (hw.join hb hY 3)⟩) ?_))))))
        rintro v56 L56 ⟨er56, q56, n56, c56, Y56, Yz56, bl56, id56, rfl, rfl, hO56, hG56, hV56⟩
        refine mo0 7 [(7, .go (owns 0 0 1))] [4, 7] (fun _ => [(5, .int .i64 id56), (6, .int .i64 er56)]) (fun _ L => (L.set 0 (bx (γ1 2) (#[.slice q56 n56 c56]) 38))) (fun _ => on_ (ds_ (sq_ ?_)))
        have hle9 : n53 ≤ 17 := by have := hO53.len; rw [List.length_take] at this; omega
        refine qa0 [] [4, 5, 6, 7] [(35, .int .i64 (n53 : Nat)), (36, .int .i64 0)] (ds_ (at_block (At.pick [[bx (γ1 2) (#[.slice q56 n56 c56]) 38], [bx (γ1 1) (#[.slice q m capq]) 38], [bx (γ1 0) (#[.int .i64 o.kind, .int .i64 o.a, .slice o.p o.n o.cap]) 54], Y56, Yz56, Y53] [0, 5, 3, 4] [1, 2] (bx (γ1 2) (#[.slice q56 n56 c56]) 38 :: (Y53 ++ (Y56 ++ (Yz56 ++ [])))) (by kernel_rfl) rfl rfl (at_loop (α := Nat × Option Addr × List Ob × List Int) [4, 5, 6, 7, 35, 36] (fun ⟨j, pl, Yl, ll⟩ => [(4, .pointer (some ⟨γ1 2, 0, none⟩)), (5, .int .i64 id56), (6, .int .i64 er56), (7, .slice pl n53 c53), (35, .int .i64 (n53 : Nat)), (36, .int .i64 (j : Nat))]) (fun ⟨j, pl, Yl, ll⟩ => bx (γ1 2) (#[.slice q56 n56 c56]) 38 :: (Yl ++ (Y56 ++ (Yz56 ++ [])))) (fun ⟨j, pl, Yl, ll⟩ => j ≤ n53 ∧ SlO 3 Yl pl n53 c53 ll) (fun ⟨j, pl, Yl, ll⟩ => n53 - j) (0, q53, Y53, (o.l.take 17)) (by kernel_rfl) rfl ⟨Nat.zero_le _, hO53⟩ ?_))))
        rintro ⟨j, pl, Yl, ll⟩
        rintro ⟨hj, hl⟩
        have hll := hl.len
        refine sq_ ?_
        by_cases q60 : ((j : Nat) : Int) < ((n53 : Nat) : Int)
        ·
          refine qa [(0, .yes)] [4, 5, 6, 7, 35, 36] [(37, .bool true)] ([((j : Nat) : Int) < ((n53 : Nat) : Int)]) (al1 q60) (ds_ (sq_ (t_ (at_skip (ds_ (sq_ (at_block (sq_ (qa0 [] [4, 5, 6, 7, 35, 36] [(8, .int .i64 (j : Nat))] (ds_ ?_))))))))))
          have hln64 := hl.len
          obtain ⟨g64, cs64, rfl, rfl, hOw64⟩ := hl.rowOf (i := j) (by omega)
          obtain ⟨x66, hx66⟩ := get_some (l := ll) (m := j) (by omega)
          refine ma [(2, .at g64 0 j), (3, .go (ownps 1 (0 + j * 1) [undef]))] [4, 5, 6, 7, 35, 36] (fun _ => []) (fun _ L => (L.set 1 (bx g64 ((cs64).setIfInBounds (0 + j * 1) (.int .i64 99)) 3))) (fun _ => [(some ⟨g64, 0, none⟩ : Option Addr) = some ⟨g64, 0, none⟩, (j : Nat) = ((j : Nat) : Int), j < n53] ++ ([0 + j * 1 < (cs64).size])) (fun _ => (alA (al2 rfl (al2 rfl (al1 (by omega)))) (al1 (hOw64.room hl.len hx66 (f := 0) (by decide))))) (fun _ => done_block (ds_ (qa [(0, .fit)] [4, 5, 6, 7, 35] [(36, .int .i64 (j + 1 : Nat))] ([Fit .i64 ((j + 1 : Nat))]) (al1 (fit64 (by omega) (by omega))) ?_)))
          exact dr [4, 5, 6, 7, 35, 36] (j + 1, (some ⟨g64, 0, none⟩), ([bx g64 ((cs64).setIfInBounds (0 + j * 1) (.int .i64 99)) 3]), (ll.set j 99)) ⟨by omega, (SlO.ofOwn (hOw64.put (x' := 99) hl.len hx66 (f := 0) (by decide) rfl) (len_set hl.len))⟩
        ·
          refine qa [(0, .no)] [4, 5, 6, 7, 35, 36] [(37, .bool false)] ([¬ (((j : Nat) : Int) < ((n53 : Nat) : Int))]) (al1 q60) (ds_ (sq_ (f_ (at_leave _ rfl (done_block (ds_ (sq_ (qa0 [(0, .go (owns 0 0 1)), (3, .go (owns 0 0 1))] [4] [(5, .int .i64 id56), (6, .int .i64 er56)] (ds_ (rt (owns 0 0 1) (.tuple #[.agg #[.slice q56 n56 c56], .int .i64 id56, .int .i64 er56]) ?_))))))))))
          have hrun : runG (al.map GngA.val) o = (bl56.map GngA.val, id56, er56) := (run_form (by omega)).trans hV56.symm
          exact fun w' hw => by rw [hrun]; exact ⟨_, _, _, _, _, _, rfl, rfl, hO56, hG56, hw.below, two_tails14 (Hs.pick [[bx (γ1 2) (#[.slice q56 n56 c56]) 38], Yl, Y56, Yz56] [2, 3] [0, 1] (by kernel_rfl) hw)⟩
      ·
        refine qa [(0, .no)] [2, 3, 4, 5, 12] [(20, .bool false)] ([¬ ((kd6 o.kind : Int) = (2 : Int))]) (al1 q50) (ds_ (f_ (sq_ ?_)))
        by_cases q73 : (kd6 o.kind : Int) = (3 : Int)
        ·
          refine qa [(0, .yes)] [2, 3, 4, 5] [(43, .bool true)] ([(kd6 o.kind : Int) = (3 : Int)]) (al1 q73) (ds_ (t_ (ao_ (qo0 3 [(0, .go (owns 1 0 1)), (2, .go (owns 2 1 1))] [4, 5] [(46, .agg #[.slice q m capq]), (48, .int .i64 o.a)] (cP (fun v L' => ∃ er q_ n_ c_ Y_ Z_ bl_, v = .tuple #[.agg #[.slice q_ n_ c_], .int .i64 er] ∧ L' = List.take 3 ([bx (γ1 2) (#[.slice none 0 0]) 38, bx (γ1 1) (#[.slice q m capq]) 38, bx (γ1 0) (#[.int .i64 o.kind, .int .i64 o.a, .slice o.p o.n o.cap]) 54]) ++ (Y_ ++ (Z_ ++ List.drop 3 ([bx (γ1 2) (#[.slice none 0 0]) 38, bx (γ1 1) (#[.slice q m capq]) 38, bx (γ1 0) (#[.int .i64 o.kind, .int .i64 o.a, .slice o.p o.n o.cap]) 54]))) ∧ SlO 46 Y_ q_ n_ c_ bl_ ∧ GotG 3 Z_ bl_ ∧ (bl_.map GngA.val, er) = movG (al.map GngA.val) (partC (al.map GngA.val) o.a)) Try.call31 (fun w hw => (part_t q m capq al o.a w (hal.kept hw.below) hma hbm (fun x hx => (hnm x hx).kept hw.below) hm9).mono fun e w' ⟨er, q_, n_, c_, Y_, Z_, bl_, he, hv, hO, hG, hb, hY⟩ => ⟨_, _, he, ⟨er, q_, n_, c_, Y_, Z_, bl_, rfl, rfl, hO, hG, hv⟩, hs_re (hw.join hb hY 3)⟩) ?_)))))
          rintro v76 L76 ⟨er76, q76, n76, c76, Y76, Yz76, bl76, rfl, rfl, hO76, hG76, hV76⟩
          refine mo0 5 [(7, .go (owns 0 0 1))] [4, 5] (fun _ => [(6, .int .i64 er76)]) (fun _ L => (L.set 0 (bx (γ1 2) (#[.slice q76 n76 c76]) 38))) (fun _ => on_ (done_block (ds_ (sq_ (qa0 [(0, .go (owns 0 0 1)), (3, .go (owns 0 0 1))] [4] [(5, .int .i64 0), (6, .int .i64 er76)] (ds_ (rt (owns 0 0 1) (.tuple #[.agg #[.slice q76 n76 c76], .int .i64 0, .int .i64 er76]) ?_)))))))
          have hrun : runG (al.map GngA.val) o = (bl76.map GngA.val, 0, er76) := (run_part (by omega)).trans (by rw [← hV76])
          exact fun w' hw => by rw [hrun]; exact ⟨_, _, _, _, _, _, rfl, rfl, hO76, hG76, hw.below, two_tails14 (Hs.pick [[bx (γ1 2) (#[.slice q76 n76 c76]) 38], [bx (γ1 1) (#[.slice q m capq]) 38], [bx (γ1 0) (#[.int .i64 o.kind, .int .i64 o.a, .slice o.p o.n o.cap]) 54], Y76, Yz76] [3, 4] [0, 1, 2] (by kernel_rfl) hw)⟩
        ·
          refine qa [(0, .no)] [2, 3, 4, 5] [(43, .bool false)] ([¬ ((kd6 o.kind : Int) = (3 : Int))]) (al1 q73) (ds_ (f_ (ao_ (qo0 3 [(0, .go (owns 1 0 1)), (2, .go (owns 2 1 1))] [4, 5] [(14, .agg #[.slice q m capq]), (16, .int .i64 o.a)] (cP (fun v L' => ∃ er q_ n_ c_ Y_ Z_ bl_, v = .tuple #[.agg #[.slice q_ n_ c_], .int .i64 er] ∧ L' = List.take 3 ([bx (γ1 2) (#[.slice none 0 0]) 38, bx (γ1 1) (#[.slice q m capq]) 38, bx (γ1 0) (#[.int .i64 o.kind, .int .i64 o.a, .slice o.p o.n o.cap]) 54]) ++ (Y_ ++ (Z_ ++ List.drop 3 ([bx (γ1 2) (#[.slice none 0 0]) 38, bx (γ1 1) (#[.slice q m capq]) 38, bx (γ1 0) (#[.int .i64 o.kind, .int .i64 o.a, .slice o.p o.n o.cap]) 54]))) ∧ SlO 46 Y_ q_ n_ c_ bl_ ∧ GotG 3 Z_ bl_ ∧ (bl_.map GngA.val, er) = movG (al.map GngA.val) (leaveC (al.map GngA.val) o.a)) Try.call33 (fun w hw => (leave_t q m capq al o.a w (hal.kept hw.below) hma hbm (fun x hx => (hnm x hx).kept hw.below) hm9).mono fun e w' ⟨er, q_, n_, c_, Y_, Z_, bl_, he, hv, hO, hG, hb, hY⟩ => ⟨_, _, he, ⟨er, q_, n_, c_, Y_, Z_, bl_, rfl, rfl, hO, hG, hv⟩, hs_re (hw.join hb hY 3)⟩) ?_)))))
          rintro v81 L81 ⟨er81, q81, n81, c81, Y81, Yz81, bl81, rfl, rfl, hO81, hG81, hV81⟩
          refine mo0 5 [(7, .go (owns 0 0 1))] [4, 5] (fun _ => [(6, .int .i64 er81)]) (fun _ L => (L.set 0 (bx (γ1 2) (#[.slice q81 n81 c81]) 38))) (fun _ => on_ (done_block (ds_ (sq_ (qa0 [(0, .go (owns 0 0 1)), (3, .go (owns 0 0 1))] [4] [(5, .int .i64 0), (6, .int .i64 er81)] (ds_ (rt (owns 0 0 1) (.tuple #[.agg #[.slice q81 n81 c81], .int .i64 0, .int .i64 er81]) ?_)))))))
          have hrun : runG (al.map GngA.val) o = (bl81.map GngA.val, 0, er81) := (run_leave (by omega) (by omega)).trans (by rw [← hV81])
          exact fun w' hw => by rw [hrun]; exact ⟨_, _, _, _, _, _, rfl, rfl, hO81, hG81, hw.below, two_tails14 (Hs.pick [[bx (γ1 2) (#[.slice q81 n81 c81]) 38], [bx (γ1 1) (#[.slice q m capq]) 38], [bx (γ1 0) (#[.int .i64 o.kind, .int .i64 o.a, .slice o.p o.n o.cap]) 54], Y81, Yz81] [3, 4] [0, 1, 2] (by kernel_rfl) hw)⟩

end Go.Proofs.Ytahccegfahghfaa

/-! The statement GangApart, walked. -/
namespace Go.Proofs.Ytahccegfahghfaa
open Go Go.RowKit
theorem gang_facts {T : TypeId} {Yi : List Ob} {bl : List GngA} (hG : GotG T Yi bl) (hg : gangB (bl.map GngA.val) = true) : bl.length ≤ 9 ∧ ∀ x ∈ bl, x.n ≤ 1000 := ⟨by have := gang_len8 hg; omega, got_small hG hg⟩
theorem gotr_len {T : TypeId} {Yi : List Ob} {rl : List IntsA} {x : IntsA} {j : Nat} (hG : GotR T Yi rl) (hx : rl[j]? = some x) : x.n = x.l.length := by
 obtain ⟨_, _, hz⟩ := GotR.own hG (List.mem_of_getElem? hx)
 exact hz.facts.1
theorem rows_is {bl : List GngA} {rl : List IntsA} (hg : gangB (bl.map GngA.val) = true) (hB : rl.map IntsA.l = rowsV (bl.map GngA.val)) : rl.map IntsA.l = (bl.map GngA.val).map (·.2) := by rw [hB, rows_ok hg]
theorem rows_ix {rl : List IntsA} {x : IntsA} {j : Nat} (hx : rl[j]? = some x) : (rl.map IntsA.l)[j]? = some x.l := by rw [List.getElem?_map, hx]; rfl

set_option maxRecDepth 100000 in
theorem apart_law (po : Option Addr) (no co : Nat) (ol : List OpG) (w : World)
 (hol : Sv w po ol) (hno : no = ol.length) (hco : no ≤ co) (hbo : co ≤ 9223372036854775807) (hnmo : ∀ x ∈ ol, x.Reads w)
 : Calls Try.prog 7 #[.slice po no co] w fun e w' => e = .returned (.bool true) ∧ Below w.heap.size w w' := by
 refine enter (Hs.start w) Try.func7 rfl Try.ntmps7 rfl (sq_ (qa0 [] [0] [] (ds_ (sq_ (sq_ (ao_ (cD (.bool true) Try.call9 (fun w hw => wakes_t w) (qo0 1 [] [0] [(15, .bool false)] (on_ (ds_ (f_ (at_skip (ds_ (sq_ (ma0 [] [0] (fun γ4 => [(3, .pointer (some ⟨γ4 0, 0, none⟩))]) (fun γ4 L => bx (γ4 0) (#[.slice none 0 0]) 38 :: L) (fun γ4 => ds_ (sq_ (sq_ (qa0 [] [3] [(16, .slice po no co), (17, .int .i64 (no : Nat)), (18, .int .i64 0)] (ds_ (at_block (at_loop (α := Nat × List GngA × List Ob × Option Addr × Nat × Nat × List Ob) [3, 16, 17, 18] (fun ⟨j, bl0, Y0, q0, n0, c0, Yz0⟩ => [(3, .pointer (some ⟨γ4 0, 0, none⟩)), (16, .slice po no co), (17, .int .i64 (no : Nat)), (18, .int .i64 (j : Nat))]) (fun ⟨j, bl0, Y0, q0, n0, c0, Yz0⟩ => bx (γ4 0) (#[.slice q0 n0 c0]) 38 :: (Y0 ++ (Yz0 ++ []))) (fun ⟨j, bl0, Y0, q0, n0, c0, Yz0⟩ => j ≤ no ∧ SlO 46 Y0 q0 n0 c0 bl0 ∧ GotG 3 Yz0 bl0 ∧ gangB (bl0.map GngA.val) = true) (fun ⟨j, bl0, Y0, q0, n0, c0, Yz0⟩ => no - j) (0, [], [], none, 0, 0, []) (by kernel_rfl) rfl ⟨Nat.zero_le _, SlO.nil, GotG.nil, rfl⟩ ?_))))))))))))))))))))))
 rintro ⟨j, bl0, Y0, q0, n0, c0, Yz0⟩
 rintro ⟨hj, hO0, hG0, hgd0⟩
 have hf0 := gang_facts hG0 hgd0
 refine sq_ ?_
 by_cases q7 : ((j : Nat) : Int) < ((no : Nat) : Int)
 ·
  refine qa [(0, .yes)] [3, 16, 17, 18] [(19, .bool true)] ([((j : Nat) : Int) < ((no : Nat) : Int)]) (al1 q7) (ds_ (sq_ (t_ (at_skip (ds_ (sq_ (at_block (sq_ ?_))))))))
  obtain ⟨b10, o10, rfl⟩ := hol.pos (i := j) (by omega)
  obtain ⟨x12, hx12⟩ := get_some (l := ol) (m := j) (by omega)
  have hrx12 := hnmo x12 (List.mem_of_getElem? hx12)
  have hsx12 : Sv w x12.p x12.l := hrx12.sv
  have hnx12 : x12.n = x12.l.length := hrx12.hn
  have hcx12 : x12.n ≤ x12.cap := hrx12.hc
  have hbx12 : x12.cap ≤ 9223372036854775807 := hrx12.hb
  refine ma [(1, .at b10 o10 j), (2, .go (outs b10 (o10 + j * 3) [.int .i64 x12.kind, .int .i64 x12.a, .slice x12.p x12.n x12.cap])), (5, .go (owns 0 0 3))] [3, 16, 17, 18] (fun γ13 => [(4, .int .i64 (j : Nat)), (5, .pointer (some ⟨γ13 0, 0, none⟩))]) (fun γ13 L => bx (γ13 0) (#[.int .i64 x12.kind, .int .i64 x12.a, .slice x12.p x12.n x12.cap]) 54 :: L) (fun γ13 => [(some ⟨b10, o10, none⟩ : Option Addr) = some ⟨b10, o10, none⟩, (j : Nat) = ((j : Nat) : Int), j < no] ++ (cellsP w b10 (o10 + j * 3) [.int .i64 x12.kind, .int .i64 x12.a, .slice x12.p x12.n x12.cap])) (fun γ13 => (alA (al2 rfl (al2 rfl (al1 (by omega)))) (rd_pre (hol.get hx12) _ rfl))) (fun γ13 => ds_ (sq_ (sq_ ?_)))
  by_cases q15 : ((j : Nat) : Int) = (40 : Int)
  ·
   refine qa [(1, .yes)] [3, 5, 16, 17, 18] [(24, .bool true)] ([((j : Nat) : Int) = (40 : Int)]) (al1 q15) (ds_ (t_ (at_leave _ rfl (ds_ (sq_ (qa0 [] [] [(2, .bool true)] (ds_ (rt ([]) (.bool true) ?_))))))))
   exact fun w' hw => ⟨rfl, hw.below⟩
  ·
   refine qa [(1, .no)] [3, 5, 16, 17, 18] [(24, .bool false)] ([¬ (((j : Nat) : Int) = (40 : Int))]) (al1 q15) (ds_ (f_ (at_skip (ds_ (sq_ (ao_ (qo0 2 [(0, .go (owns 0 0 3)), (1, .go (owns 1 0 1))] [3, 16, 17, 18] [(26, .agg #[.int .i64 x12.kind, .int .i64 x12.a, .slice x12.p x12.n x12.cap]), (27, .agg #[.slice q0 n0 c0])] (cP (fun v L' => ∃ q_ n_ c_ Y_ Z_ bl_, v = .tuple #[.agg #[.slice q_ n_ c_], .int .i64 (runG (bl0.map GngA.val) x12).2.1, .int .i64 (runG (bl0.map GngA.val) x12).2.2] ∧ L' = List.take 2 (bx (γ13 0) (#[.int .i64 x12.kind, .int .i64 x12.a, .slice x12.p x12.n x12.cap]) 54 :: bx (γ4 0) (#[.slice q0 n0 c0]) 38 :: (Y0 ++ (Yz0 ++ []))) ++ (Y_ ++ (Z_ ++ List.drop 2 (bx (γ13 0) (#[.int .i64 x12.kind, .int .i64 x12.a, .slice x12.p x12.n x12.cap]) 54 :: bx (γ4 0) (#[.slice q0 n0 c0]) 38 :: (Y0 ++ (Yz0 ++ []))))) ∧ SlO 46 Y_ q_ n_ c_ bl_ ∧ GotG 3 Z_ bl_ ∧ bl_.map GngA.val = (runG (bl0.map GngA.val) x12).1) Try.call26 (fun w hw => (run_t14 x12 q0 n0 c0 bl0 w (SlO.sub hO0 hw (List.Sublist.cons _ (List.Sublist.cons _ (List.sublist_append_left Y0 _)))) hO0.len (by have := hO0.len; have := hf0.1; omega) (GotG.reads hG0 hw (List.Sublist.cons _ (List.Sublist.cons _ (List.Sublist.trans (List.sublist_append_left Yz0 _) (List.sublist_append_right Y0 _))))) hf0.2 (hsx12.kept hw.below) hnx12 hcx12 hbx12).mono fun e w' ⟨q_, n_, c_, Y_, Z_, bl_, he, hB, hO, hG, hb, hY⟩ => by exact ⟨_, _, he, ⟨q_, n_, c_, Y_, Z_, bl_, rfl, rfl, hO, hG, hB⟩, hs_re (hw.join hb hY 2)⟩) ?_))))))))
   rintro v20 L20 ⟨q20, n20, c20, Y20, Yz20, bl20, rfl, rfl, hO20, hG20, hB20⟩
   refine mo0 8 [(8, .go (owns 0 0 1))] [3, 16, 17, 18] (fun γ21 => [(6, .pointer (some ⟨γ21 0, 0, none⟩)), (8, .int .i64 ((runG (bl0.map GngA.val) x12).2.2))]) (fun γ21 L => bx (γ21 0) (#[.slice q20 n20 c20]) 38 :: L) (fun γ21 => on_ (ds_ (sq_ (sq_ ?_))))
   by_cases q23 : ((runG (bl0.map GngA.val) x12).2.2 : Int) ≠ (0 : Int)
   ·
    refine qa [(1, .yes)] [3, 6, 16, 17, 18] [(33, .bool true)] ([((runG (bl0.map GngA.val) x12).2.2 : Int) ≠ (0 : Int)]) (al1 q23) (ds_ (t_ (at_leave _ rfl (ds_ (qa [(0, .fit)] [3, 16, 17] [(18, .int .i64 (j + 1 : Nat))] ([Fit .i64 ((j + 1 : Nat))]) (al1 (fit64 (by omega) (by omega))) (Done.pick [[bx (γ21 0) (#[.slice q20 n20 c20]) 38], [bx (γ13 0) (#[.int .i64 x12.kind, .int .i64 x12.a, .slice x12.p x12.n x12.cap]) 54], [bx (γ4 0) (#[.slice q0 n0 c0]) 38], Y20, Yz20, Y0, Yz0] [2, 5, 6] [0, 1, 3, 4] (bx (γ4 0) (#[.slice q0 n0 c0]) 38 :: (Y0 ++ (Yz0 ++ []))) (by kernel_rfl) rfl rfl ?_))))))
    exact dr [3, 16, 17, 18] (j + 1, bl0, Y0, q0, n0, c0, Yz0) ⟨by omega, hO0, hG0, hgd0⟩
   ·
    refine qa [(1, .no)] [3, 6, 16, 17, 18] [(33, .bool false)] ([¬ (((runG (bl0.map GngA.val) x12).2.2 : Int) ≠ (0 : Int))]) (al1 q23) (ds_ (f_ (at_skip (ds_ (sq_ ?_)))))
    have hgg : gangB (bl20.map GngA.val) = true := by rw [hB20]; exact run_gang (Classical.not_not.1 q23)
    have hf20 := gang_facts hG20 hgg
    refine ma0 [] [3, 6, 16, 17, 18] (fun γ27 => [(9, .map (some (γ27 0)))]) (fun γ27 L => (γ27 0, .map #[] 0) :: L) (fun γ27 => ds_ (sq_ (sq_ (ao_ (qo0 1 [(0, .go (owns 1 0 1))] [3, 6, 9, 16, 17, 18] [(35, .agg #[.slice q20 n20 c20])] (cP (fun v L' => ∃ q_ n_ c_ Y_ Z_ rl_, v = .slice q_ n_ c_ ∧ L' = List.take 4 ((γ27 0, .map #[] 0) :: bx (γ21 0) (#[.slice q20 n20 c20]) 38 :: bx (γ13 0) (#[.int .i64 x12.kind, .int .i64 x12.a, .slice x12.p x12.n x12.cap]) 54 :: bx (γ4 0) (#[.slice q0 n0 c0]) 38 :: (Y20 ++ (Yz20 ++ (Y0 ++ (Yz0 ++ []))))) ++ (Y_ ++ (Z_ ++ List.drop 4 ((γ27 0, .map #[] 0) :: bx (γ21 0) (#[.slice q20 n20 c20]) 38 :: bx (γ13 0) (#[.int .i64 x12.kind, .int .i64 x12.a, .slice x12.p x12.n x12.cap]) 54 :: bx (γ4 0) (#[.slice q0 n0 c0]) 38 :: (Y20 ++ (Yz20 ++ (Y0 ++ (Yz0 ++ []))))))) ∧ SlO 25 Y_ q_ n_ c_ rl_ ∧ GotR 3 Z_ rl_ ∧ rl_.map IntsA.l = rowsV (bl20.map GngA.val)) Try.call21 (fun w hw => (grows_t q20 n20 c20 bl20 w (SlO.sub hO20 hw (List.Sublist.cons _ (List.Sublist.cons _ (List.Sublist.cons _ (List.Sublist.cons _ (List.sublist_append_left Y20 _)))))) hO20.len (by have := hO20.len; have := hf20.1; omega) (GotG.reads hG20 hw (List.Sublist.cons _ (List.Sublist.cons _ (List.Sublist.cons _ (List.Sublist.cons _ (List.Sublist.trans (List.sublist_append_left Yz20 _) (List.sublist_append_right Y20 _))))))) hf20.2).mono fun e w' ⟨q_, n_, c_, Y_, rl_, Z_, he, hO, hG, hB, hb, hY⟩ => ⟨_, _, he, ⟨q_, n_, c_, Y_, Z_, rl_, rfl, rfl, hO, hG, hB⟩, hs_re (hw.join hb hY 4)⟩) ?_))))))
    rintro v29 L29 ⟨q29, n29, c29, Y29, Yz29, rl29, rfl, rfl, hO29, hG29, hB29⟩
    have hl29 := hO29.len
    have hln29 := hO20.len
    have hrl29 := rows_len hB29 hgg
    have hri29 := rows_is hgg hB29
    have hrn29 : n29 = n20 := by omega
    refine qo0 2 [] [3, 6, 9, 16, 17, 18, 36] [(37, .int .i64 (n29 : Nat)), (38, .int .i64 0)] (on_ (ds_ (at_block (At.pick [[(γ27 0, .map #[] 0)], [bx (γ21 0) (#[.slice q20 n20 c20]) 38], [bx (γ13 0) (#[.int .i64 x12.kind, .int .i64 x12.a, .slice x12.p x12.n x12.cap]) 54], [bx (γ4 0) (#[.slice q0 n0 c0]) 38], Y29, Yz29, Y20, Yz20, Y0, Yz0] [0, 1, 3, 4, 5, 6, 7] [2, 8, 9] ((γ27 0, .map #[] 0) :: bx (γ21 0) (#[.slice q20 n20 c20]) 38 :: bx (γ4 0) (#[.slice q0 n0 c0]) 38 :: (Y29 ++ (Yz29 ++ (Y20 ++ (Yz20 ++ []))))) (by kernel_rfl) rfl rfl (at_loop (α := Nat × Array MapEntry × Nat) [3, 6, 9, 16, 17, 18, 36, 37, 38] (fun ⟨i, eD, kD⟩ => [(3, .pointer (some ⟨γ4 0, 0, none⟩)), (6, .pointer (some ⟨γ21 0, 0, none⟩)), (9, .map (some (γ27 0))), (16, .slice (some ⟨b10, o10, none⟩) no co), (17, .int .i64 (no : Nat)), (18, .int .i64 (j : Nat)), (36, .slice q29 n29 c29), (37, .int .i64 (n29 : Nat)), (38, .int .i64 (i : Nat))]) (fun ⟨i, eD, kD⟩ => (γ27 0, .map eD kD) :: bx (γ21 0) (#[.slice q20 n20 c20]) 38 :: bx (γ4 0) (#[.slice q0 n0 c0]) 38 :: (Y29 ++ (Yz29 ++ (Y20 ++ (Yz20 ++ []))))) (fun ⟨i, eD, kD⟩ => i ≤ n29 ∧ MapIs .i64 Value.bool eD (metM (memL ((bl20.map GngA.val).take i)))) (fun ⟨i, eD, kD⟩ => n29 - i) (0, #[], 0) (by kernel_rfl) rfl ⟨Nat.zero_le _, MapIs.nil⟩ ?_)))))
    rintro ⟨i, eD, kD⟩
    rintro ⟨hi, hmD⟩
    refine sq_ ?_
    by_cases q32 : ((i : Nat) : Int) < ((n29 : Nat) : Int)
    ·
     refine qa [(0, .yes)] [3, 6, 9, 16, 17, 18, 36, 37, 38] [(39, .bool true)] ([((i : Nat) : Int) < ((n29 : Nat) : Int)]) (al1 q32) (ds_ (sq_ (t_ (at_skip (ds_ (sq_ (at_block (sq_ ?_))))))))
     have hln35 := hO29.len
     obtain ⟨g35, cs35, rfl, rfl, hOw35⟩ := hO29.rowOf (i := i) (by omega)
     obtain ⟨x37, hx37⟩ := get_some (l := rl29) (m := i) (by omega)
     have hapx37 := apart_len hgg hri29 (rows_ix hx37)
     have hxnx37 := gotr_len hG29 hx37
     refine qa [(0, .at g35 0 i), (1, .go (ownps 3 (0 + i * 1) [.slice x37.p x37.n x37.cap]))] [3, 6, 9, 16, 17, 18, 36, 37, 38] [(11, .slice x37.p x37.n x37.cap)] ([(some ⟨g35, 0, none⟩ : Option Addr) = some ⟨g35, 0, none⟩, (i : Nat) = ((i : Nat) : Int), i < n29] ++ (acellsP cs35 (0 + i * 1) [.slice x37.p x37.n x37.cap])) (alA (al2 rfl (al2 rfl (al1 (by omega)))) (rda_pre (hOw35.rdx hO29.len hx37) _ rfl)) (ds_ (sq_ (sq_ ?_)))
     by_cases q40 : ((x37.n : Nat) : Int) < (2 : Int)
     ·
      refine qa [(2, .yes)] [3, 6, 9, 11, 16, 17, 18, 36, 37, 38] [(44, .bool true)] ([((x37.n : Nat) : Int) < (2 : Int)]) (al1 q40) (ds_ (t_ (sq_ (qa0 [] [] [(2, .bool false)] (ds_ (rt ([]) (.bool false) ?_))))))
      exfalso
      omega
     ·
      refine qa [(2, .no)] [3, 6, 9, 11, 16, 17, 18, 36, 37, 38] [(44, .bool false)] ([¬ (((x37.n : Nat) : Int) < (2 : Int))]) (al1 q40) (ds_ (f_ (at_skip (ds_ (sq_ ?_)))))
      obtain ⟨Ya5, Yx5, Yb5, hYz, hOx5, -⟩ := hG29.cut hx37
      obtain ⟨p9, hp9⟩ : ∃ p, p = x37.p := ⟨_, rfl⟩
      rw [← hp9] at hOx5
      refine At.as (L' := (γ27 0, .map eD kD) :: bx (γ21 0) (#[.slice q20 n20 c20]) 38 :: bx (γ4 0) (#[.slice q0 n0 c0]) 38 :: bx g35 cs35 25 :: (Ya5 ++ (Yx5 ++ (Yb5 ++ (Y20 ++ (Yz20 ++ [])))))) (by rw [hYz]; simp only [List.append_assoc, List.cons_append, List.nil_append]) (qa [(0, .is [] (.slice p9 x37.n x37.cap))] [3, 6, 9, 16, 17, 18, 36, 37, 38] [(45, .slice p9 x37.n x37.cap), (46, .int .i64 (x37.n : Nat)), (47, .int .i64 0)] ([Value.slice x37.p x37.n x37.cap = .slice p9 x37.n x37.cap]) (al1 (by rw [hp9])) (ds_ (at_block (at_loop (α := Nat × Array MapEntry × Nat) [3, 6, 9, 16, 17, 18, 36, 37, 38, 45, 46, 47] (fun ⟨k, eI, kI⟩ => [(3, .pointer (some ⟨γ4 0, 0, none⟩)), (6, .pointer (some ⟨γ21 0, 0, none⟩)), (9, .map (some (γ27 0))), (16, .slice (some ⟨b10, o10, none⟩) no co), (17, .int .i64 (no : Nat)), (18, .int .i64 (j : Nat)), (36, .slice (some ⟨g35, 0, none⟩) n29 c29), (37, .int .i64 (n29 : Nat)), (38, .int .i64 (i : Nat)), (45, .slice p9 x37.n x37.cap), (46, .int .i64 (x37.n : Nat)), (47, .int .i64 (k : Nat))]) (fun ⟨k, eI, kI⟩ => (γ27 0, .map eI kI) :: bx (γ21 0) (#[.slice q20 n20 c20]) 38 :: bx (γ4 0) (#[.slice q0 n0 c0]) 38 :: bx g35 cs35 25 :: (Ya5 ++ (Yx5 ++ (Yb5 ++ (Y20 ++ (Yz20 ++ [])))))) (fun ⟨k, eI, kI⟩ => k ≤ x37.n ∧ MapIs .i64 Value.bool eI (metM (memL ((bl20.map GngA.val).take i) ++ x37.l.take k))) (fun ⟨k, eI, kI⟩ => x37.n - k) (0, eD, kD) (by kernel_rfl) rfl ⟨Nat.zero_le _, by rw [List.take_zero, List.append_nil]; exact hmD⟩ ?_))))
      rintro ⟨k, eI, kI⟩
      rintro ⟨hk, hmI⟩
      refine sq_ ?_
      by_cases q46 : ((k : Nat) : Int) < ((x37.n : Nat) : Int)
      ·
       refine qa [(0, .yes)] [3, 6, 9, 16, 17, 18, 36, 37, 38, 45, 46, 47] [(48, .bool true)] ([((k : Nat) : Int) < ((x37.n : Nat) : Int)]) (al1 q46) (ds_ (sq_ (t_ (at_skip (ds_ (sq_ (at_block (sq_ (At.pick [[(γ27 0, .map eI kI)], [bx (γ21 0) (#[.slice q20 n20 c20]) 38], [bx (γ4 0) (#[.slice q0 n0 c0]) 38], [bx g35 cs35 25], Ya5, Yx5, Yb5, Y20, Yz20] [0, 1, 2, 3, 5, 4, 6, 7, 8] [] ((γ27 0, .map eI kI) :: bx (γ21 0) (#[.slice q20 n20 c20]) 38 :: bx (γ4 0) (#[.slice q0 n0 c0]) 38 :: bx g35 cs35 25 :: (Yx5 ++ (Ya5 ++ (Yb5 ++ (Y20 ++ (Yz20 ++ [])))))) (by kernel_rfl) rfl rfl ?_)))))))))
       have hln49 := hOx5.len
       obtain ⟨g49, cs49, rfl, rfl, hOw49⟩ := hOx5.rowOf (i := k) (by omega)
       obtain ⟨x51, hx51⟩ := get_some (l := x37.l) (m := k) (by omega)
       refine qa [(0, .at g49 0 k), (1, .go (ownps 4 (0 + k * 1) [.int .i64 x51]))] [3, 6, 9, 16, 17, 18, 36, 37, 38, 45, 46, 47] [(13, .int .i64 x51)] ([(some ⟨g49, 0, none⟩ : Option Addr) = some ⟨g49, 0, none⟩, (k : Nat) = ((k : Nat) : Int), k < x37.n] ++ (acellsP cs49 (0 + k * 1) [.int .i64 x51])) (alA (al2 rfl (al2 rfl (al1 (by omega)))) (rda_pre (hOw49.rdx hOx5.len hx51) _ rfl)) (ds_ (sq_ (sq_ (ao_ (qo0 2 [] [3, 6, 9, 13, 16, 17, 18, 36, 37, 38, 45, 46, 47] [(51, .map (some (γ27 0))), (52, .int .i64 x51)] (ops_lookup (ik := .i64) (enc := Value.bool) (kk := x51) 0 (Value.bool false) (.bool ((mget (metM (memL ((bl20.map GngA.val).take i) ++ x37.l.take k)) x51).getD false)) rfl (by kernel_rfl) (by kernel_rfl) (by kernel_rfl) (by kernel_rfl) (⟨3, 4, by kernel_rfl, by kernel_rfl, by kernel_rfl⟩ : mapB Try.prog 33 .i64 (Value.bool false)) rfl hmI (map_getD _ _ _) (on_ (ds_ ?_))))))))
       rcases q55 : (mget (metM (memL ((bl20.map GngA.val).take i) ++ x37.l.take k)) x51).getD false with _ | _
       ·
        refine f_ (at_skip (ds_ (ao_ (qo0 2 [] [3, 6, 9, 16, 17, 18, 36, 37, 38, 45, 46, 47] [(54, .map (some (γ27 0))), (55, .int .i64 x51)] (ops_update (ik := .i64) (enc := Value.bool) (kk := x51) 0 true (Value.bool false) rfl (by kernel_rfl) (by kernel_rfl) (by kernel_rfl) (by kernel_rfl) (by kernel_rfl) (⟨3, 4, by kernel_rfl, by kernel_rfl, by kernel_rfl⟩ : mapB Try.prog 33 .i64 (Value.bool false)) rfl hmI (fun es57 ck57 hM57 => on_ (done_block (ds_ (qa [(0, .fit)] [3, 6, 9, 16, 17, 18, 36, 37, 38, 45, 46] [(47, .int .i64 (k + 1 : Nat))] ([Fit .i64 ((k + 1 : Nat))]) (al1 (fit64 (by omega) (by omega))) (Done.pick [[(γ27 0, .map es57 ck57)], [bx (γ21 0) (#[.slice q20 n20 c20]) 38], [bx (γ4 0) (#[.slice q0 n0 c0]) 38], [bx g35 cs35 25], [bx g49 cs49 3], Ya5, Yb5, Y20, Yz20] [0, 1, 2, 3, 5, 4, 6, 7, 8] [] ((γ27 0, .map es57 ck57) :: bx (γ21 0) (#[.slice q20 n20 c20]) 38 :: bx (γ4 0) (#[.slice q0 n0 c0]) 38 :: bx g35 cs35 25 :: (Ya5 ++ ([bx g49 cs49 3] ++ (Yb5 ++ (Y20 ++ (Yz20 ++ [])))))) (by kernel_rfl) rfl rfl ?_))))))))))
        exact dr [3, 6, 9, 16, 17, 18, 36, 37, 38, 45, 46, 47] (k + 1, es57, ck57) ⟨by omega, by rw [take_one hx51, ← List.append_assoc, met_on]; exact hM57⟩
       ·
        refine t_ (sq_ (qa0 [] [] [(2, .bool false)] (ds_ (rt ([]) (.bool false) ?_))))
        exact absurd (q55.symm.trans (met_get.trans (apart_new (gang_iff14.1 hgg).2.2.2 hri29 (rows_ix hx37) hx51))) (by decide)
      ·
       refine qa [(0, .no)] [3, 6, 9, 16, 17, 18, 36, 37, 38, 45, 46, 47] [(48, .bool false)] ([¬ (((k : Nat) : Int) < ((x37.n : Nat) : Int))]) (al1 q46) (ds_ (sq_ (f_ (at_leave _ rfl (done_block (ds_ (At.as (L' := (γ27 0, .map eI kI) :: bx (γ21 0) (#[.slice q20 n20 c20]) 38 :: bx (γ4 0) (#[.slice q0 n0 c0]) 38 :: bx g35 cs35 25 :: (Yz29 ++ (Y20 ++ (Yz20 ++ [])))) (by rw [hYz]; simp only [List.append_assoc, List.cons_append, List.nil_append]) (qa [(0, .fit)] [3, 6, 9, 16, 17, 18, 36, 37] [(38, .int .i64 (i + 1 : Nat))] ([Fit .i64 ((i + 1 : Nat))]) (al1 (fit64 (by omega) (by omega))) ?_))))))))
       rw [show x37.l.take k = x37.l from List.take_of_length_le (by omega)] at hmI
       exact dr [3, 6, 9, 16, 17, 18, 36, 37, 38] (i + 1, eI, kI) ⟨by omega, by rw [apart_next hri29 (rows_ix hx37)]; exact hmI⟩
    ·
     refine qa [(0, .no)] [3, 6, 9, 16, 17, 18, 36, 37, 38] [(39, .bool false)] ([¬ (((i : Nat) : Int) < ((n29 : Nat) : Int))]) (al1 q32) (ds_ (sq_ (f_ (at_leave _ rfl (ds_ (sq_ (sq_ (at_calmTo (f := 8) 4 rfl (by kernel_rfl) (by kernel_rfl) (by kernel_rfl) (by kernel_rfl) (by kernel_rfl) (by kernel_rfl) ?_))))))))
     refine cm 1 [(0, .go (owns 1 0 1))] [3, 6, 16, 17, 18] [(58, .agg #[.slice q20 n20 c20])] ([]) (by kernel_rfl) rfl al0 ?_
     refine cK (.int .i64 0) Try.call18 (fun w hw => by have := gcheck_t q20 n20 c20 bl20 w (SlO.sub hO20 hw (List.Sublist.cons _ (List.Sublist.cons _ (List.Sublist.cons _ (List.Sublist.trans (List.Sublist.trans (List.sublist_append_left Y20 _) (List.sublist_append_right Yz29 _)) (List.sublist_append_right Y29 _)))))) hO20.len (by have := hO20.len; have := hf20.1; omega) (GotG.reads hG20 hw (List.Sublist.cons _ (List.Sublist.cons _ (List.Sublist.cons _ (List.Sublist.trans (List.Sublist.trans (List.Sublist.trans (List.sublist_append_left Yz20 _) (List.sublist_append_right Y20 _)) (List.sublist_append_right Yz29 _)) (List.sublist_append_right Y29 _)))))) hf20.2; rw [hgg] at this; exact this) ?_
     refine cm 2 [] [3, 6, 16, 17, 18] [(61, .bool false)] ([]) (by kernel_rfl) rfl al0 ?_
     refine calm_nil' ?_
     refine done_pre (li' := #[true, true, true, true, false, false, false, false, false, false, false, false]) (by kernel_rfl) ?_
     refine tk (m := 7) [7] [] [3, 6, 16, 17, 18, 61] [(65, .pointer (some ⟨γ21 0, 0, none⟩))] ([]) #[true, true, true, true, false, false, false, true, false, false, false, false] al0 ?_
     refine any_cutX (V := (List Ob) × (List Ob) × (Nat) × (Nat) × (Option Addr) × (List IntsA)) (fun ⟨Y169, Yz169, c169, n169, q169, rl169⟩ => n169 = n20) 0 #[true, true, true, true, true, true, true, true, true, true, true, true] (fun ⟨Y169, Yz169, c169, n169, q169, rl169⟩ => [(3, .pointer (some ⟨γ4 0, 0, none⟩)), (6, .pointer (some ⟨γ21 0, 0, none⟩)), (16, .slice (some ⟨b10, o10, none⟩) no co), (17, .int .i64 (no : Nat)), (18, .int .i64 (j : Nat)), (69, .bool false)]) (fun ⟨Y169, Yz169, c169, n169, q169, rl169⟩ => (γ27 0, .map eD kD) :: bx (γ21 0) (#[.slice q20 n20 c20]) 38 :: bx (γ4 0) (#[.slice q0 n0 c0]) 38 :: (Y169 ++ (Yz169 ++ (Y29 ++ (Yz29 ++ (Y20 ++ (Yz20 ++ []))))))) ?_ (fun hmx5 => ?_)
     rotate_left
     ·
      refine any_cutX (V := Unit) (fun _ => True) 4 #[true, true, true, true, true, false, false, true, true, true, false, false] (fun _ => [(3, .pointer (some ⟨γ4 0, 0, none⟩)), (6, .pointer (some ⟨γ21 0, 0, none⟩)), (16, .slice (some ⟨b10, o10, none⟩) no co), (17, .int .i64 (no : Nat)), (18, .int .i64 (j : Nat)), (61, .bool false), (62, .agg #[.slice q20 n20 c20]), (67, .int .i64 (n20 : Nat))]) (fun _ => (γ27 0, .map eD kD) :: bx (γ21 0) (#[.slice q20 n20 c20]) 38 :: bx (γ4 0) (#[.slice q0 n0 c0]) 38 :: (Y29 ++ (Yz29 ++ (Y20 ++ (Yz20 ++ []))))) ?_ (fun hmx4 => ?_)
      ·
       rintro _ _
       refine a1 5 rfl ?_
       refine cP (fun v L' => ∃ q_ n_ c_ Y_ Z_ rl_, v = .slice q_ n_ c_ ∧ L' = List.take 3 ((γ27 0, .map eD kD) :: bx (γ21 0) (#[.slice q20 n20 c20]) 38 :: bx (γ4 0) (#[.slice q0 n0 c0]) 38 :: (Y29 ++ (Yz29 ++ (Y20 ++ (Yz20 ++ []))))) ++ (Y_ ++ (Z_ ++ List.drop 3 ((γ27 0, .map eD kD) :: bx (γ21 0) (#[.slice q20 n20 c20]) 38 :: bx (γ4 0) (#[.slice q0 n0 c0]) 38 :: (Y29 ++ (Yz29 ++ (Y20 ++ (Yz20 ++ []))))))) ∧ SlO 25 Y_ q_ n_ c_ rl_ ∧ GotR 3 Z_ rl_ ∧ rl_.map IntsA.l = rowsV (bl20.map GngA.val)) Try.call21 (fun w hw => (grows_t q20 n20 c20 bl20 w (SlO.sub hO20 hw (List.Sublist.cons _ (List.Sublist.cons _ (List.Sublist.cons _ (List.Sublist.trans (List.Sublist.trans (List.sublist_append_left Y20 _) (List.sublist_append_right Yz29 _)) (List.sublist_append_right Y29 _)))))) hO20.len (by have := hO20.len; have := hf20.1; omega) (GotG.reads hG20 hw (List.Sublist.cons _ (List.Sublist.cons _ (List.Sublist.cons _ (List.Sublist.trans (List.Sublist.trans (List.Sublist.trans (List.sublist_append_left Yz20 _) (List.sublist_append_right Y20 _)) (List.sublist_append_right Yz29 _)) (List.sublist_append_right Y29 _)))))) hf20.2).mono fun e w' ⟨q_, n_, c_, Y_, rl_, Z_, he, hO, hG, hB, hb, hY⟩ => ⟨_, _, he, ⟨q_, n_, c_, Y_, Z_, rl_, rfl, rfl, hO, hG, hB⟩, hs_re (hw.join hb hY 3)⟩) ?_
       rintro v169 L169 ⟨q169, n169, c169, Y169, Yz169, rl169, rfl, rfl, hO169, hG169, hB169⟩
       have hl169 := hO169.len
       have hln169 := hO20.len
       have hrl169 := rows_len hB169 hgg
       have hri169 := rows_is hgg hB169
       have hrn169 : n169 = n20 := by omega
       refine od_ ?_
       refine tk (m := 0) [6, 10, 11] [(10, .no)] [3, 6, 16, 17, 18] [(69, .bool false)] ([¬ (((n169 : Nat) : Int) ≠ ((n20 : Nat) : Int))]) #[true, true, true, true, true, true, true, true, true, true, true, true] (al1 (by omega)) ?_
       exact wk (hmx5 (Y169, Yz169, c169, n169, q169, rl169) hrn169) [3, 6, 16, 17, 18, 69] [[_], [_], [_], _, _, _, _, _, _] [0, 1, 2, 3, 4, 5, 6, 7, 8] rfl rfl
      refine any_cutX (V := (List Ob) × (List Ob) × (Nat) × (Nat) × (Option Addr) × (List IntsA)) (fun ⟨Y169, Yz169, c169, n169, q169, rl169⟩ => n169 = n20) 4 #[true, true, true, true, true, true, true, true, false, false, false, false] (fun ⟨Y169, Yz169, c169, n169, q169, rl169⟩ => [(3, .pointer (some ⟨γ4 0, 0, none⟩)), (6, .pointer (some ⟨γ21 0, 0, none⟩)), (16, .slice (some ⟨b10, o10, none⟩) no co), (17, .int .i64 (no : Nat)), (18, .int .i64 (j : Nat)), (61, .bool false), (64, .int .i64 (n169 : Nat)), (65, .pointer (some ⟨γ21 0, 0, none⟩))]) (fun ⟨Y169, Yz169, c169, n169, q169, rl169⟩ => (γ27 0, .map eD kD) :: bx (γ21 0) (#[.slice q20 n20 c20]) 38 :: bx (γ4 0) (#[.slice q0 n0 c0]) 38 :: (Y169 ++ (Yz169 ++ (Y29 ++ (Yz29 ++ (Y20 ++ (Yz20 ++ []))))))) ?_ (fun hmx3 => ?_)
      ·
       rintro ⟨Y169, Yz169, c169, n169, q169, rl169⟩ hrn169
       refine a1 8 rfl ?_
       refine qo0 1 [(8, .go (owns 1 0 1))] [3, 6, 16, 17, 18, 61, 64] [(66, .slice q20 n20 c20)] ?_
       refine od_ ?_
       refine tk (m := 0) [9, 10, 11] [(10, .no)] [3, 6, 16, 17, 18] [(69, .bool false)] ([¬ (((n169 : Nat) : Int) ≠ ((n20 : Nat) : Int))]) #[true, true, true, true, true, true, true, true, true, true, true, true] (al1 (by omega)) ?_
       exact wk (hmx5 (Y169, Yz169, c169, n169, q169, rl169) hrn169) [3, 6, 16, 17, 18, 69] [[_], [_], [_], _, _, _, _, _, _] [0, 1, 2, 3, 4, 5, 6, 7, 8] rfl rfl
      refine any_cutX (V := Unit) (fun _ => True) 5 #[true, true, true, true, false, false, false, true, true, true, false, false] (fun _ => [(3, .pointer (some ⟨γ4 0, 0, none⟩)), (6, .pointer (some ⟨γ21 0, 0, none⟩)), (16, .slice (some ⟨b10, o10, none⟩) no co), (17, .int .i64 (no : Nat)), (18, .int .i64 (j : Nat)), (61, .bool false), (67, .int .i64 (n20 : Nat))]) (fun _ => (γ27 0, .map eD kD) :: bx (γ21 0) (#[.slice q20 n20 c20]) 38 :: bx (γ4 0) (#[.slice q0 n0 c0]) 38 :: (Y29 ++ (Yz29 ++ (Y20 ++ (Yz20 ++ []))))) ?_ (fun hmx2 => ?_)
      ·
       rintro _ _
       refine a1 4 rfl ?_
       refine qo0 1 [(4, .go (owns 1 0 1))] [3, 6, 16, 17, 18, 61, 67] [(62, .agg #[.slice q20 n20 c20])] ?_
       refine od_ ?_
       exact wk (hmx4 () trivial) [3, 6, 16, 17, 18, 61, 62, 67] [[_], [_], [_], _, _, _, _] [0, 1, 2, 3, 4, 5, 6] rfl rfl
      refine any_cutX (V := Unit) (fun _ => True) 6 #[true, true, true, true, true, false, false, true, false, false, false, false] (fun _ => [(3, .pointer (some ⟨γ4 0, 0, none⟩)), (6, .pointer (some ⟨γ21 0, 0, none⟩)), (16, .slice (some ⟨b10, o10, none⟩) no co), (17, .int .i64 (no : Nat)), (18, .int .i64 (j : Nat)), (61, .bool false), (62, .agg #[.slice q20 n20 c20]), (65, .pointer (some ⟨γ21 0, 0, none⟩))]) (fun _ => (γ27 0, .map eD kD) :: bx (γ21 0) (#[.slice q20 n20 c20]) 38 :: bx (γ4 0) (#[.slice q0 n0 c0]) 38 :: (Y29 ++ (Yz29 ++ (Y20 ++ (Yz20 ++ []))))) ?_ (fun hmx1 => ?_)
      ·
       rintro _ _
       refine any_fork [5, 8] (by kernel_rfl) (by simp) (each_cons _ rfl ?_ (each_cons _ rfl ?_ (each_nil)))
       ·
        refine cP (fun v L' => ∃ q_ n_ c_ Y_ Z_ rl_, v = .slice q_ n_ c_ ∧ L' = List.take 3 ((γ27 0, .map eD kD) :: bx (γ21 0) (#[.slice q20 n20 c20]) 38 :: bx (γ4 0) (#[.slice q0 n0 c0]) 38 :: (Y29 ++ (Yz29 ++ (Y20 ++ (Yz20 ++ []))))) ++ (Y_ ++ (Z_ ++ List.drop 3 ((γ27 0, .map eD kD) :: bx (γ21 0) (#[.slice q20 n20 c20]) 38 :: bx (γ4 0) (#[.slice q0 n0 c0]) 38 :: (Y29 ++ (Yz29 ++ (Y20 ++ (Yz20 ++ []))))))) ∧ SlO 25 Y_ q_ n_ c_ rl_ ∧ GotR 3 Z_ rl_ ∧ rl_.map IntsA.l = rowsV (bl20.map GngA.val)) Try.call21 (fun w hw => (grows_t q20 n20 c20 bl20 w (SlO.sub hO20 hw (List.Sublist.cons _ (List.Sublist.cons _ (List.Sublist.cons _ (List.Sublist.trans (List.Sublist.trans (List.sublist_append_left Y20 _) (List.sublist_append_right Yz29 _)) (List.sublist_append_right Y29 _)))))) hO20.len (by have := hO20.len; have := hf20.1; omega) (GotG.reads hG20 hw (List.Sublist.cons _ (List.Sublist.cons _ (List.Sublist.cons _ (List.Sublist.trans (List.Sublist.trans (List.Sublist.trans (List.sublist_append_left Yz20 _) (List.sublist_append_right Y20 _)) (List.sublist_append_right Yz29 _)) (List.sublist_append_right Y29 _)))))) hf20.2).mono fun e w' ⟨q_, n_, c_, Y_, rl_, Z_, he, hO, hG, hB, hb, hY⟩ => ⟨_, _, he, ⟨q_, n_, c_, Y_, Z_, rl_, rfl, rfl, hO, hG, hB⟩, hs_re (hw.join hb hY 3)⟩) ?_
        rintro v169 L169 ⟨q169, n169, c169, Y169, Yz169, rl169, rfl, rfl, hO169, hG169, hB169⟩
        have hl169 := hO169.len
        have hln169 := hO20.len
        have hrl169 := rows_len hB169 hgg
        have hri169 := rows_is hgg hB169
        have hrn169 : n169 = n20 := by omega
        refine od_ ?_
        refine tk (m := 4) [6] [] [3, 6, 16, 17, 18, 61, 65] [(64, .int .i64 (n169 : Nat))] ([]) #[true, true, true, true, true, true, true, true, false, false, false, false] al0 ?_
        exact wk (hmx3 (Y169, Yz169, c169, n169, q169, rl169) hrn169) [3, 6, 16, 17, 18, 61, 64, 65] [[_], [_], [_], _, _, _, _, _, _] [0, 1, 2, 3, 4, 5, 6, 7, 8] rfl rfl
       ·
        refine qo0 1 [(8, .go (owns 1 0 1))] [3, 6, 16, 17, 18, 61, 62] [(66, .slice q20 n20 c20)] ?_
        refine od_ ?_
        refine tk (m := 4) [9] [] [3, 6, 16, 17, 18, 61, 62] [(67, .int .i64 (n20 : Nat))] ([]) #[true, true, true, true, true, false, false, true, true, true, false, false] al0 ?_
        exact wk (hmx4 () trivial) [3, 6, 16, 17, 18, 61, 62, 67] [[_], [_], [_], _, _, _, _] [0, 1, 2, 3, 4, 5, 6] rfl rfl
      refine any_fork [4, 8] (by kernel_rfl) (by simp) (each_cons _ rfl ?_ (each_cons _ rfl ?_ (each_nil)))
      ·
       refine qo0 1 [(4, .go (owns 1 0 1))] [3, 6, 16, 17, 18, 61, 65] [(62, .agg #[.slice q20 n20 c20])] ?_
       refine od_ ?_
       exact wk (hmx1 () trivial) [3, 6, 16, 17, 18, 61, 62, 65] [[_], [_], [_], _, _, _, _] [0, 1, 2, 3, 4, 5, 6] rfl rfl
      ·
       refine qo0 1 [(8, .go (owns 1 0 1))] [3, 6, 16, 17, 18, 61] [(66, .slice q20 n20 c20)] ?_
       refine od_ ?_
       refine tk (m := 5) [9] [] [3, 6, 16, 17, 18, 61] [(67, .int .i64 (n20 : Nat))] ([]) #[true, true, true, true, false, false, false, true, true, true, false, false] al0 ?_
       exact wk (hmx2 () trivial) [3, 6, 16, 17, 18, 61, 67] [[_], [_], [_], _, _, _, _] [0, 1, 2, 3, 4, 5, 6] rfl rfl
     rintro ⟨Y169, Yz169, c169, n169, q169, rl169⟩ hrn169
     refine any_nil (by kernel_rfl) ?_
     refine ds_ (f_ (at_skip (ds_ (ma0 [(0, .go (owns 1 0 1)), (1, .go (owns 2 0 1))] [3, 16, 17, 18] (fun _ => []) (fun _ L => (L.set 2 (bx (γ4 0) (#[.slice q20 n20 c20]) 38))) (fun _ => done_block (ds_ (qa [(0, .fit)] [3, 16, 17] [(18, .int .i64 (j + 1 : Nat))] ([Fit .i64 ((j + 1 : Nat))]) (al1 (fit64 (by omega) (by omega))) (Done.pick [[(γ27 0, .map eD kD)], [bx (γ21 0) (#[.slice q20 n20 c20]) 38], [bx (γ4 0) (#[.slice q20 n20 c20]) 38], Y169, Yz169, Y29, Yz29, Y20, Yz20] [2, 7, 8] [0, 1, 3, 4, 5, 6] (bx (γ4 0) (#[.slice q20 n20 c20]) 38 :: (Y20 ++ (Yz20 ++ []))) (by kernel_rfl) rfl rfl ?_))))))))
     exact dr [3, 16, 17, 18] (j + 1, bl20, Y20, q20, n20, c20, Yz20) ⟨by omega, hO20, hG20, hgg⟩
 ·
  refine qa [(0, .no)] [3, 16, 17, 18] [(19, .bool false)] ([¬ (((j : Nat) : Int) < ((no : Nat) : Int))]) (al1 q7) (ds_ (sq_ (f_ (at_leave _ rfl (ds_ (sq_ (qa0 [] [] [(2, .bool true)] (ds_ (rt ([]) (.bool true) ?_)))))))))
  exact fun w' hw => ⟨rfl, hw.below⟩
end Go.Proofs.Ytahccegfahghfaa

/-! The walker: what a row's inputs are: slices and structs, opened into lists. -/
namespace Go.Proofs.Ytahccegfahghfaa
open Go Go.RowKit

section
variable {H : Type} {enc : TypeId × Value → H} {P : Program} {w : World} {base : Nat} {spare : Nat → Bool} {held : Bool}
theorem spot_none {a : Addr} (h : a.spot = none) : a = ⟨a.block, a.off, none⟩ := by
  cases a
  simp at h
  simp [h]
theorem trod_sv {α : Type} [Enc α] {t e : TypeId} {fuel : Nat} {cs : List Value} {x : DataW H × List MemPlace} {Good : α → Prop} (ht : P.underlying t = some (.slice e)) (hc : P.cellsOf e = Enc.k α)
    (hopen : ∀ (fuel : Nat) (cs : List Value) (x : DataW H × List MemPlace), DataW.trod enc P w base spare held fuel e cs = some x → ∃ a : α, cs = Enc.enc a ∧ Good a) (h : DataW.trod enc P w base spare held fuel t cs = some x) :
    ∃ (p : Option Addr) (n cap : Nat) (l : List α), cs = [.slice p n cap] ∧ Sv w p l ∧ n = l.length ∧ n ≤ cap ∧ cap ≤ maxLen ∧ ∀ y ∈ l, Good y := by
  rcases Deep.open_slice ht h with ⟨hcs, _⟩ | ⟨a, len, cap, m, n', D, Pl, hcs, _, hle, hmx, hm, _, hi⟩
  · exact ⟨none, 0, 0, [], hcs, Sv.nil, rfl, Nat.le_refl _, Nat.zero_le _, fun y hy => by cases hy⟩
  · have key : ∀ i, i < len → ∃ y : α, w.cells? base (a.add (i * Enc.k α)) (Enc.k α) = some (Enc.enc y) ∧ Good y := fun i hin => by
      have him : i < m := by rw [hm]; split <;> omega
      obtain ⟨cs', h1, h2⟩ := hi i him
      obtain ⟨y, rfl, hy⟩ := hopen _ _ _ h2
      rw [hc] at h1
      exact ⟨y, h1, hy⟩
    rcases Nat.eq_zero_or_pos len with h0 | h0
    · subst h0
      exact ⟨some a, 0, cap, [], hcs, Sv.nil, rfl, hle, hmx, fun y hy => by cases hy⟩
    · obtain ⟨y0, hy0, _⟩ := key 0 h0
      haveI : Inhabited α := ⟨y0⟩
      obtain ⟨f, hf⟩ := Deep.choose_lt key
      obtain ⟨_, _, hcell⟩ := World.cells?_some hy0
      have h00 := hcell 0 Enc.pos
      have hlen0 : 0 < (Enc.enc y0).length := by rw [Enc.len]; exact Enc.pos
      rw [List.getElem?_eq_getElem hlen0, Nat.zero_mul, show (a.add 0).add 0 = a by simp [Addr.add]] at h00
      have hsp := spot_none (World.cell?_spot h00)
      refine ⟨some a, len, cap, (List.range len).map f, hcs, ⟨fun _ => ⟨a.block, a.off, by rw [← hsp]⟩, fun b o hbo i hil => ?_⟩, by simp, hle, hmx, fun y hy => ?_⟩
      · have hil' : i < len := by simpa using hil
        obtain ⟨_, _, hc2⟩ := World.cells?_some (hf i hil').1
        have ha : a = ⟨b, o, none⟩ := by simpa using hbo
        subst ha
        intro j v hj
        have hjk : j < Enc.k α := by rw [← Enc.len (f i)]; have := (List.getElem?_eq_some_iff.1 hj).1; simpa using this
        have h3 := hc2 j hjk
        rw [Deep.add_add] at h3
        have h4 : (Enc.enc (f i))[j]? = some v := by simpa using hj
        rw [h4] at h3
        have h5 : (⟨b, o, none⟩ : Addr).add (i * Enc.k α + j) = ⟨b, o + i * Enc.k α + j, none⟩ := by
          unfold Addr.add; split <;> simp_all <;> omega
        rw [h5] at h3
        exact h3
      · obtain ⟨i, hir, rfl⟩ := List.mem_map.1 hy
        exact (hf i (List.mem_range.1 hir)).2
theorem trod_int1 {t : TypeId} {fuel : Nat} {cs : List Value} {x : DataW H × List MemPlace} (ht : P.underlying t = some (.int .i64)) (h : DataW.trod enc P w base spare held fuel t cs = some x) : ∃ a : Int, cs = Enc.enc a ∧ True := by
  obtain ⟨a, rfl, _, _⟩ := DataW.trod_int ht h
  exact ⟨a, rfl, trivial⟩
end
end Go.Proofs.Ytahccegfahghfaa

/-! Chapter 14: rows of rows, opened. -/
namespace Go.Proofs.Ytahccegfahghfaa
open Go Go.RowKit Go.ChangeShapes Go.WideShapes

section
variable {H : Type} {enc : TypeId × Value → H} {w : World} {base : Nat} {spare : Nat → Bool} {held : Bool}
theorem cIntT : Try.prog.cellsOf 3 = 1 := by kernel_rfl
theorem cIntsT : Try.prog.cellsOf 25 = 1 := by kernel_rfl
set_option maxRecDepth 100000 in
theorem intsA_open {fuel : Nat} {cs : List Value} {x : DataW H × List MemPlace} (h : DataW.trod enc Try.prog w base spare held fuel 25 cs = some x) : ∃ a : IntsA, cs = Enc.enc a ∧ a.Reads w := by
  obtain ⟨p, m, cap, l, he, hs, hn, hle, hmx, _⟩ := trod_sv (α := Int) (Good := fun _ => True) Try.underlying25 cIntT (fun _ _ _ h => trod_int1 Try.underlying3 h) h
  exact ⟨⟨p, m, cap, l⟩, he, ⟨hs, hn, hle, hmx⟩⟩
end
end Go.Proofs.Ytahccegfahghfaa

/-! Chapter 14: gangs and ops, opened. -/
namespace Go.Proofs.Ytahccegfahghfaa
open Go Go.RowKit Go.ChangeShapes Go.WideShapes
theorem list3V {α : Type} {cs : List α} (h : cs.length = 3) : ∃ a b c, cs = [a, b, c] := by
  match cs, h with
  | [a, b, c], _ => exact ⟨a, b, c, rfl⟩

section
variable {H : Type} {enc : TypeId × Value → H} {w : World} {base : Nat} {spare : Nat → Bool} {held : Bool}
theorem cOpT : Try.prog.cellsOf 54 = 3 := by kernel_rfl
set_option maxRecDepth 100000 in
theorem opg_open {fuel : Nat} {cs : List Value} {x : DataW H × List MemPlace} (h : DataW.trod enc Try.prog w base spare held fuel 54 cs = some x) : ∃ a : OpG, cs = Enc.enc a ∧ a.Reads w := by
  obtain ⟨xs, n, _, rfl, hl, hlen, hf⟩ := DataW.trod_struct Try.underlying54 h
  rw [cOpT] at hl
  obtain ⟨c0, c1, c2, rfl⟩ := list3V hl
  obtain ⟨y0, y1, y2, rfl⟩ := list3V hlen
  have h0 : DataW.trod enc Try.prog w base spare held n 3 (([c0, c1, c2].drop 0).take (Try.prog.cellsOf 3)) = some y0 := hf 0 _ rfl
  have h1 : DataW.trod enc Try.prog w base spare held n 3 (([c0, c1, c2].drop 1).take (Try.prog.cellsOf 3)) = some y1 := hf 1 _ rfl
  have h2 : DataW.trod enc Try.prog w base spare held n 25 (([c0, c1, c2].drop 2).take (Try.prog.cellsOf 25)) = some y2 := hf 2 _ rfl
  clear hf hl hlen h
  rw [cIntT] at h0 h1
  rw [cIntsT] at h2
  simp only [List.drop_zero, List.take_succ_cons, List.take_zero, List.drop_succ_cons] at h0 h1 h2
  obtain ⟨a, ea, _, _⟩ := DataW.trod_int Try.underlying3 h0
  obtain ⟨a2, ea2, _, _⟩ := DataW.trod_int Try.underlying3 h1
  obtain ⟨b, eb, hb⟩ := intsA_open h2
  have eb2 : [c2] = [Value.slice b.p b.n b.cap] := eb
  simp only [List.cons.injEq, and_true] at ea ea2 eb2
  subst ea; subst ea2; subst eb2
  exact ⟨⟨a, a2, b.p, b.n, b.cap, b.l⟩, rfl, hb⟩
set_option maxRecDepth 100000 in
theorem opsg_open {v : Value} {d : DataW H} {pl : List MemPlace} (hv : Value.okWide Try.prog w .any base 52 v) (h : DataW.Trod enc Try.prog w 0 spare held 52 v d pl) :
    ∃ (q : Option Addr) (m cap : Nat) (l : List OpG), v = .slice q m cap ∧ Sv w q l ∧ m = l.length ∧ m ≤ cap ∧ cap ≤ 9223372036854775807 ∧ ∀ x ∈ l, x.Reads w := by
  obtain ⟨a, n, c, rfl⟩ := okWide_slice Try.underlying52 hv
  obtain ⟨fuel, hf⟩ := h
  obtain ⟨p, m, cap, l, he, hs, hn, hle, hmx, hg⟩ := trod_sv (α := OpG) Try.underlying52 cOpT (fun _ _ _ h => opg_open h) hf
  have : a = p ∧ n = m ∧ c = cap := by simpa [Value.cells] using he
  obtain ⟨rfl, rfl, rfl⟩ := this
  exact ⟨a, n, c, l, rfl, hs, hn, hle, hmx, hg⟩
end
end Go.Proofs.Ytahccegfahghfaa
