/- Texts of this proof, one behind the other. -/
import Derived.Test.YtahccegfahghfaaZc
import Derived.Test.YtahccegfahghfaaZa
import Derived.Test.YtahccegfahghfaaZb
import Derived.ProofKit
import Derived.Carry
import Derived.Deep.Slices
import Derived.Lib.SmallJoins
import Derived.Test.YtahccegfahghfaaProg
/-! Gangs: Leave; what the document does to gangs; plain. -/
namespace Go.Proofs.Ytahccegfahghfaa
open Go Go.RowKit
/-- Members without one. -/
def lessL (l : List Int) (k : Int) : List Int := l.filter fun n => !decide (n = k)
/-- Gangs without one member; a gang of one is none. -/
def cutV (k : Int) : Gs → Gs
  | [] => []
  | g :: t => if k ∈ g.2 then (if (lessL g.2 k).length < 2 then t else (g.1, lessL g.2 k) :: t) else g :: cutV k t
/-- What Leave does to a copy. -/
def leaveC (gs : Gs) (k : Int) : Gs × Int := if inV gs k = true then (cutV k gs, 0) else (gs, 4)
section
variable {al bl : List GngA} {gs : Gs} {k n : Int} {x x0 y : GngA} {i0 i j : Nat} {l : List Int} {g : Int × List Int} {T : TypeId} {Yi Y : List Ob}
theorem cut_at : ∀ {gs : Gs} {i : Nat}, gs[i]? = some g → k ∈ g.2 → (∀ (t : Nat) (y : Int × List Int), t < i → gs[t]? = some y → ¬ k ∈ y.2) → cutV k gs = if (lessL g.2 k).length < 2 then gs.take i ++ gs.drop (i + 1) else gs.set i (g.1, lessL g.2 k)
  | [], i, hg, _, _ => by simp at hg
  | a :: t, 0, hg, hk, _ => by
    simp only [List.getElem?_cons_zero, Option.some.injEq] at hg
    subst hg
    rw [cutV, if_pos hk]
    split <;> simp
  | a :: t, i + 1, hg, hk, hl => by
    simp only [List.getElem?_cons_succ] at hg
    rw [cutV, if_neg (hl 0 a (by omega) rfl), cut_at hg hk (fun s y hs he => hl (s + 1) y (by omega) (by simpa using he))]
    split <;> simp
theorem low_val (hl : ∀ (t : Nat) (y : GngA), t < i0 → al[t]? = some y → hasG k y = false) : ∀ (t : Nat) (y : Int × List Int), t < i0 → (al.map GngA.val)[t]? = some y → ¬ k ∈ y.2 := fun t y ht hy e => by
  rw [List.getElem?_map] at hy
  cases h : al[t]? with
  | none => rw [h] at hy; cases hy
  | some z =>
    rw [h] at hy
    simp only [Option.map_some, Option.some.injEq] at hy
    subst hy
    exact of_decide_eq_false (hl t z ht h) e
theorem in_at (hx : al[i0]? = some x0) (hp : hasG k x0 = true) : inV (al.map GngA.val) k = true := by
  unfold inV
  exact List.any_eq_true.2 ⟨x0.val, List.mem_map_of_mem (List.mem_of_getElem? hx), hp⟩
theorem in_none (h : ∀ x ∈ al, hasG k x = false) : inV (al.map GngA.val) k = false := by
  unfold inV
  exact List.any_eq_false.2 fun g hg e => by
    obtain ⟨x, hx, rfl⟩ := List.mem_map.1 hg
    exact Bool.false_ne_true ((h x hx).symm.trans e)
theorem lc_none (h : ∀ x ∈ al, hasG k x = false) : leaveC (al.map GngA.val) k = (al.map GngA.val, 4) := by rw [leaveC, if_neg (by rw [in_none h]; decide)]
theorem lc_two (hx : al[i0]? = some x0) (hp : hasG k x0 = true) (hl : ∀ (t : Nat) (y : GngA), t < i0 → al[t]? = some y → hasG k y = false) (h2 : (lessL x0.l k).length < 2) : leaveC (al.map GngA.val) k = (((al.set i0 y).take i0 ++ (al.set i0 y).drop (i0 + 1)).map GngA.val, 0) := by
  rw [leaveC, if_pos (in_at hx hp), cut_at (val_at hx) (of_decide_eq_true hp) (low_val hl), if_pos h2, List.map_append, List.take_set_of_le (Nat.le_refl _), List.drop_set_of_lt (Nat.lt_succ_self _), List.map_take, List.map_drop]
theorem lc_more (hx : al[i0]? = some x0) (hp : hasG k x0 = true) (hl : ∀ (t : Nat) (y : GngA), t < i0 → al[t]? = some y → hasG k y = false) (h2 : ¬ (lessL x0.l k).length < 2) (hy : y.val = (x0.id, lessL x0.l k)) : leaveC (al.map GngA.val) k = ((al.set i0 y).map GngA.val, 0) := by
  rw [leaveC, if_pos (in_at hx hp), cut_at (val_at hx) (of_decide_eq_true hp) (low_val hl), if_neg h2, List.map_set, hy]
/-- A gang's members take another block. -/
theorem GotG.cutG (h : GotG T Yi al) (hx : al[i]? = some x) : ∃ A Z B, Yi = A ++ (Z ++ B) ∧ SlO T Z x.p x.n x.cap x.l ∧ ∀ (Z' : List Ob) (y : GngA), SlO T Z' y.p y.n y.cap y.l → GotG T (A ++ (Z' ++ B)) (al.set i y) := by
  obtain ⟨A, Z, B, h1, h2, h3⟩ := GotR.cut (x := x.row) h (by rw [List.getElem?_map, hx]; rfl)
  refine ⟨A, Z, B, h1, h2, fun Z' y hy => ?_⟩
  have := h3 Z' y.row hy
  unfold GotG
  rw [List.map_set]
  exact this
/-- The blocks of those that are kept. -/
theorem GotG.filter (p : GngA → Bool) : ∀ {al : List GngA} {Yi : List Ob}, GotG T Yi al → ∃ Yi2, List.Sublist Yi2 Yi ∧ GotG T Yi2 (al.filter p)
  | [], Yi, h => ⟨[], List.nil_sublist _, GotG.nil⟩
  | x :: al, Yi, h => by
    obtain ⟨Ys, rfl, hl, hs⟩ := h
    cases Ys with
    | nil => simp at hl
    | cons Z Ys =>
      have h1 : GotG T Ys.flatten al := ⟨Ys, rfl, by simpa using hl, fun i Y y e1 e2 => hs (i + 1) Y y (by simpa using e1) (by simpa using e2)⟩
      obtain ⟨Y2, hsub, hg⟩ := GotG.filter p h1
      by_cases e : p x = true
      · rw [List.filter_cons_of_pos e]
        obtain ⟨Ys2, rfl, hl2, hs2⟩ := hg
        refine ⟨(Z :: Ys2).flatten, ?_, Z :: Ys2, rfl, by simpa using hl2, fun i Y y e1 e2 => ?_⟩
        · rw [List.flatten_cons, List.flatten_cons]; exact (List.Sublist.refl _).append hsub
        · cases i with
          | zero => exact hs 0 Y y (by simpa using e1) (by simpa using e2)
          | succ i => exact hs2 i Y y (by simpa using e1) (by simpa using e2)
      · rw [List.filter_cons_of_neg e]
        exact ⟨Y2, by rw [List.flatten_cons]; exact hsub.trans (List.sublist_append_right _ _), hg⟩
-- the first number that is free
theorem gap_spec : ∀ {gs : Gs} {a : Nat}, a ≤ gapV a gs ∧ gapV a gs ≤ a + gs.length ∧ (∀ i, a + i < gapV a gs → ∃ g, gs[i]? = some g ∧ g.1 = ((a + i : Nat) : Int) + 1) ∧ ∀ g, gs[gapV a gs - a]? = some g → ¬ g.1 = ((gapV a gs : Nat) : Int) + 1
  | [], a => ⟨Nat.le_refl _, by simp [gapV], fun i h => by simp only [gapV] at h; omega, fun g h => by simp at h⟩
  | b :: t, a => by
    unfold gapV
    split
    · rename_i e
      obtain ⟨h1, h2, h3, h4⟩ := gap_spec (gs := t) (a := a + 1)
      refine ⟨by omega, by simp only [List.length_cons]; omega, fun i hi => ?_, fun g hg => ?_⟩
      · cases i with
        | zero => exact ⟨b, rfl, by simpa using e⟩
        | succ i =>
          obtain ⟨g, hg, he⟩ := h3 i (by omega)
          exact ⟨g, by simpa using hg, by rw [he]; omega⟩
      · obtain ⟨d, hd⟩ : ∃ d, gapV (a + 1) t - a = d + 1 := ⟨gapV (a + 1) t - a - 1, by omega⟩
        rw [hd, List.getElem?_cons_succ] at hg
        exact h4 g (by rw [show gapV (a + 1) t - (a + 1) = d by omega]; exact hg)
    · rename_i e
      refine ⟨Nat.le_refl _, by omega, fun i hi => by omega, fun g hg => ?_⟩
      simp only [Nat.sub_self, List.getElem?_cons_zero, Option.some.injEq] at hg
      subst hg; exact e
theorem ris_ge (hr : Ris GngA.id al) (hp : ∀ x ∈ al, 0 < x.id) : ∀ (i : Nat) (x : GngA), al[i]? = some x → (i : Int) + 1 ≤ x.id
  | 0, x, hx => by have := hp x (List.mem_of_getElem? hx); omega
  | i + 1, x, hx => by
    have hi := (List.getElem?_eq_some_iff.1 hx).1
    have h1 : al[i]? = some al[i] := List.getElem?_eq_getElem (by omega)
    have := ris_ge hr hp i _ h1
    have := hr.at (Nat.lt_succ_self i) h1 hx
    omega
abbrev gapA (al : List GngA) : Nat := gapV 0 (al.map GngA.val)
theorem gapA_le : gapA al ≤ al.length := by have := (gap_spec (gs := al.map GngA.val) (a := 0)).2.1; rw [List.length_map] at this; show gapV 0 _ ≤ _; omega
/-- Who stands behind the first that is free has a greater number. -/
theorem gapA_gt (hg : gangB (al.map GngA.val) = true) (hi : gapA al ≤ i) (hx : al[i]? = some x) : ((gapA al : Nat) : Int) + 1 < x.id := by
  obtain ⟨hr, hp⟩ := gang_ris hg
  have hge := ris_ge hr (fun x hx => (hp x hx).1)
  have hil := (List.getElem?_eq_some_iff.1 hx).1
  have h1 : al[gapA al]? = some al[gapA al] := List.getElem?_eq_getElem (by omega)
  have h2 := hge _ _ h1
  have h3 := (gap_spec (gs := al.map GngA.val) (a := 0)).2.2.2 _ (val_at h1)
  have h4 : ¬ (al[gapA al]).id = ((gapA al : Nat) : Int) + 1 := h3
  by_cases e : gapA al = i
  · have h5 : al[gapA al]? = some x := (congrArg (fun n => al[n]?) e).trans hx
    have : al[gapA al] = x := Option.some.inj (h1.symm.trans h5)
    rw [this] at h2 h4
    omega
  · have := hr.at (show gapA al < i by omega) h1 hx
    omega
theorem gang_len8 (hg : gangB (al.map GngA.val) = true) : al.length ≤ 8 := by
  obtain ⟨hr, hp⟩ := gang_ris hg
  have := risK_len al 1 8 hr (fun x hx => by have := hp x hx; omega) (by omega)
  omega
/-- Gangs as far as they are put in again, with one more. -/
def outT (bl : List GngA) (y : GngA) (j : Nat) : List GngA := if j ≤ gapA bl then bl.take j else bl.take (gapA bl) ++ [y] ++ (bl.take j).drop (gapA bl)
end
end Go.Proofs.Ytahccegfahghfaa

/-! slices.DeleteFunc at numbers. -/
namespace Go.Proofs.Ytahccegfahghfaa
open Go Go.RowKit

set_option maxRecDepth 100000 in
theorem idelf_t (w0 : World) (X Y : List Ob) (pg : FuncId) (pcb : Array Value) (pd : Int → Bool) (p : Option Addr) (n cap : Nat) (l : List Int) (w : World)
 (he : ∀ args w, (callFunc pg args).run Try.prog w = .ok (.enter pg args) w)
 (hH : Hs w0 (Y ++ X) w) (hO : SlO 3 Y p n cap l) (hb : n ≤ 1000)
 (hc : ∀ x ∈ l, ∀ w', Hs w0 X w' → Calls Try.prog pg (#[.int .i64 x] ++ pcb) w' fun e w1 => e = .returned (.bool (pd x)) ∧ Below w'.heap.size w' w1)
 : Calls Try.prog 58 #[.slice p n cap, .func (.func pg) #[] pcb] w fun e w' => ∃ q m capq Y', e = .returned (.slice q m capq) ∧ SlO 3 Y' q m capq (l.filter fun x => !pd x) ∧ Hs w0 (Y' ++ X) w' := by
 have hn := hO.len
 refine enter hH Try.func58 rfl Try.ntmps58 rfl (sq_ (qa0 [] [0, 1] [] (ds_ (sq_ (ao_ (qo0 2 [] [0, 1] [(8, .slice p n cap), (9, .func (.func pg) #[] pcb)] ?_))))))
 rcases idxF_cases pd l with ⟨hix, hnone⟩ | ⟨i0, x0, hix, hx0, hp0, hlow⟩
 ·
  refine cD (.int .i64 (-1)) Try.call68 (fun w hw => by have := iindexf_t w0 X pg pcb pd p n cap l w he (hw.sub (List.sublist_append_right _ _)) (hO.atN (A := []) hw) hn (by omega) hc; rw [hix] at this; exact this) (qo0 1 [] [0, 1] [(5, .int .i64 (-1))] (on_ (ds_ (sq_ (sq_ (qa0 [] [0, 1, 5] [(12, .bool true)] (ds_ (t_ (sq_ (qa0 [] [] [(4, .slice p n cap)] (ds_ (rt ([]) (.slice p n cap) ?_))))))))))))
  exact fun w' hw => ⟨_, _, _, Y, rfl, by rw [filter_none hnone]; exact hO, hw⟩
 ·
  have hi0 := (List.getElem?_eq_some_iff.1 hx0).1
  refine cD (.int .i64 (i0 : Nat)) Try.call68 (fun w hw => by have := iindexf_t w0 X pg pcb pd p n cap l w he (hw.sub (List.sublist_append_right _ _)) (hO.atN (A := []) hw) hn (by omega) hc; rw [hix] at this; exact this) (qo0 1 [] [0, 1] [(5, .int .i64 (i0 : Nat))] (on_ (ds_ (sq_ (sq_ (qa [(1, .no)] [0, 1, 5] [(12, .bool false)] ([¬ (((i0 : Nat) : Int) = (-1 : Int))]) (al1 (by omega)) (ds_ (f_ (at_skip (ds_ (sq_ (sq_ (qa [(1, .fit)] [0, 1, 5] [(6, .int .i64 (i0 + 1 : Nat))] ([Fit .i64 ((i0 + 1 : Nat))]) (al1 (fit64 (by omega) (by omega))) (ds_ (at_block ?_)))))))))))))))
  obtain ⟨g, cs0, rfl, rfl, hOw0⟩ := hO.rowOf (i := i0) (by omega)
  refine at_loop (α := Nat × Nat × List Int × Array Value) [0, 1, 5, 6] (fun ⟨i, j, m, cs⟩ => [(0, .slice (some ⟨g, 0, none⟩) n cap), (1, .func (.func pg) #[] pcb), (5, .int .i64 (i : Nat)), (6, .int .i64 (j : Nat))]) (fun ⟨i, j, m, cs⟩ => bx g cs 3 :: X) (fun ⟨i, j, m, cs⟩ => Dels pd l m i j ∧ OwnS (Enc.k Int) (m.flatMap Enc.enc) n cap cs) (fun ⟨i, j, m, cs⟩ => n - j) (i0, i0 + 1, l, cs0) (by kernel_rfl) rfl ⟨Dels.start hlow hx0 hp0, hOw0⟩ ?_
  rintro ⟨i, j, m, cs⟩
  rintro ⟨hD, hOw⟩
  have hm : n = m.length := by rw [hD.len]; exact hn
  have hij := hD.lt
  have hjn := hD.le
  refine sq_ (sq_ ?_)
  by_cases q10 : ((j : Nat) : Int) < ((n : Nat) : Int)
  ·
   refine qa [(3, .yes)] [0, 1, 5, 6] [(19, .bool true)] ([((j : Nat) : Int) < ((n : Nat) : Int)]) (al1 q10) (ds_ (t_ (at_skip (ds_ (sq_ (at_block (sq_ ?_)))))))
   obtain ⟨x13, hx13⟩ := get_some (l := m) (m := j) (by omega)
   refine qa [(2, .at g 0 j), (3, .go (ownps 0 (0 + j * 1) [.int .i64 x13]))] [0, 1, 5, 6] [(7, .int .i64 x13)] ([(some ⟨g, 0, none⟩ : Option Addr) = some ⟨g, 0, none⟩, (j : Nat) = ((j : Nat) : Int), j < n] ++ (acellsP cs (0 + j * 1) [.int .i64 x13])) (alA (al2 rfl (al2 rfl (al1 (by omega)))) (rda_pre (hOw.rdx hm hx13) _ rfl)) (ds_ (sq_ (ao_ (qo0 2 [] [0, 1, 5, 6, 7] [(26, .func (.func pg) #[] pcb), (27, .int .i64 x13)] ?_))))
   rcases q16 : pd x13 with _ | _
   ·
    refine cD (.bool false) he (fun w hw => by have := hc x13 (List.mem_of_getElem? (hD.get hx13)) w (hw.tailN 1); rw [q16] at this; exact this) (qo0 1 [] [0, 1, 5, 6, 7] [(29, .bool true)] (on_ (ds_ (t_ (sq_ ?_)))))
    obtain ⟨x19, hx19⟩ := get_some (l := m) (m := i) (by omega)
    refine ma [(3, .at g 0 i), (4, .go (ownps 0 (0 + i * 1) [undef]))] [0, 1, 5, 6] (fun _ => []) (fun _ L => (L.set 0 (bx g ((cs).setIfInBounds (0 + i * 1) (.int .i64 x13)) 3))) (fun _ => [(some ⟨g, 0, none⟩ : Option Addr) = some ⟨g, 0, none⟩, (i : Nat) = ((i : Nat) : Int), i < n] ++ ([0 + i * 1 < (cs).size])) (fun _ => (alA (al2 rfl (al2 rfl (al1 (by omega)))) (al1 (hOw.room hm hx19 (f := 0) (by decide))))) (fun _ => ds_ (qa [(1, .fit)] [0, 1, 6] [(5, .int .i64 (i + 1 : Nat))] ([Fit .i64 ((i + 1 : Nat))]) (al1 (fit64 (by omega) (by omega))) (done_block (ds_ (qa [(1, .fit)] [0, 1, 5] [(6, .int .i64 (j + 1 : Nat))] ([Fit .i64 ((j + 1 : Nat))]) (al1 (fit64 (by omega) (by omega))) ?_)))))
    exact dr [0, 1, 5, 6] (i + 1, j + 1, m.set i x13, (cs).setIfInBounds (0 + i * 1) (.int .i64 x13)) ⟨hD.no hx13 q16, (hOw.put (x' := x13) hm hx19 (f := 0) (by decide) rfl)⟩
   ·
    refine cD (.bool true) he (fun w hw => by have := hc x13 (List.mem_of_getElem? (hD.get hx13)) w (hw.tailN 1); rw [q16] at this; exact this) (qo0 1 [] [0, 1, 5, 6, 7] [(29, .bool false)] (on_ (ds_ (f_ (at_skip (done_block (ds_ (qa [(1, .fit)] [0, 1, 5] [(6, .int .i64 (j + 1 : Nat))] ([Fit .i64 ((j + 1 : Nat))]) (al1 (fit64 (by omega) (by omega))) ?_))))))))
    exact dr [0, 1, 5, 6] (i, j + 1, m, cs) ⟨hD.yes hx13 q16, hOw⟩
  ·
   refine qa [(3, .no)] [0, 1, 5, 6] [(19, .bool false)] ([¬ (((j : Nat) : Int) < ((n : Nat) : Int))]) (al1 q10) (ds_ (f_ (at_leave _ rfl (ds_ (sq_ (ao_ (qo 3 [(2, .sl (.slice (some ⟨g, 0 + i * 1, none⟩) (n - i) (cap - i)))] [0, 5] [(38, .slice (some ⟨g, 0 + i * 1, none⟩) (n - i) (cap - i))] ([SlRun Try.prog 25 (.slice (some ⟨g, 0, none⟩) n cap) (some (.int .i64 (i : Nat))) none none (.slice (some ⟨g, 0 + i * 1, none⟩) (n - i) (cap - i))]) (al1 (slE_lo (P := Try.prog) (T := 25) (e := 3) (k := 1) (by_ := 8) (by kernel_rfl) (lo := i) (by omega) (by have := hOw.le; omega))) ?_)))))))
   have hcs := hOw.csz
   refine ops_clear 0 rfl (by kernel_rfl) (by kernel_rfl) (g := g) (of := 0 + i * 1) (n := n - i) (dc := cap - i) (c := cs) (by kernel_rfl) (T := 3) (ks := 1) (by_ := 8) (by kernel_rfl) (by kernel_rfl) rfl (mul_room (c := cap) (by have := hOw.le; omega) hcs) (fun c2 hc2 hpre2 => on_ (ds_ (sq_ (qa [(2, .sl (.slice (some ⟨g, 0, none⟩) i cap))] [] [(4, .slice (some ⟨g, 0, none⟩) i cap)] ([SlRun Try.prog 25 (.slice (some ⟨g, 0, none⟩) n cap) none (some (.int .i64 (i : Nat))) none (.slice (some ⟨g, 0, none⟩) i cap)]) (al1 (slE_hi (P := Try.prog) (T := 25) (e := 3) (k := 1) (by_ := 8) (by kernel_rfl) (h := i) (by have := hOw.le; omega))) (ds_ (rt ([]) (.slice (some ⟨g, 0, none⟩) i cap) ?_))))))
   exact fun w' hw => ⟨_, _, _, [_], rfl, by rw [← hD.done (j := j) (by omega)]; exact .inr ⟨_, _, rfl, rfl, by rw [List.length_take]; omega, hOw.cut hm (by omega) hc2 hpre2⟩, hw⟩

set_option maxRecDepth 100000 in
theorem leave11_t (x : Int) (g : Nat) (k : Int) (w : World)
 (hk : Rd w g (0 + 0 * 1) [.int .i64 k])
 : Calls Try.prog 59 #[.int .i64 x, .pointer (some ⟨g, 0 + 0 * 1, none⟩)] w fun e w' => e = .returned (.bool (decide (x = k))) ∧ Below w.heap.size w w' := by
 refine enter (Hs.start w) Try.func59 rfl Try.ntmps59 rfl (sq_ (qa0 [] [0, 1] [] (ds_ (sq_ ?_))))
 by_cases q3 : (x : Int) = (k : Int)
 ·
  refine qa [(1, .go (outs g (0 + 0 * 1) [.int .i64 k])), (2, .yes)] [] [(3, .bool true)] (cellsP w g (0 + 0 * 1) [.int .i64 k] ++ ([(x : Int) = (k : Int)])) (alA (rd_pre hk _ rfl) (al1 q3)) (ds_ (rt ([]) (.bool true) ?_))
  exact fun w' hw => ⟨by rw [show decide (x = k) = true from decide_eq_true (by omega)], hw.below⟩
 ·
  refine qa [(1, .go (outs g (0 + 0 * 1) [.int .i64 k])), (2, .no)] [] [(3, .bool false)] (cellsP w g (0 + 0 * 1) [.int .i64 k] ++ ([¬ ((x : Int) = (k : Int))])) (alA (rd_pre hk _ rfl) (al1 q3)) (ds_ (rt ([]) (.bool false) ?_))
  exact fun w' hw => ⟨by rw [show decide (x = k) = false from decide_eq_false (by omega)], hw.below⟩
end Go.Proofs.Ytahccegfahghfaa

/-! Gangs: Leave. -/
namespace Go.Proofs.Ytahccegfahghfaa
open Go Go.RowKit

set_option maxRecDepth 100000 in
theorem leave1_t (w0 : World) (Y Yi YR : List Ob) (gb gk : Nat) (q : Option Addr) (m capq : Nat) (bl : List GngA) (k : Int) (w : World)
 (hbm : m ≤ 1000) (hO : SlO 46 Y q m capq bl) (hG : GotG 3 Yi bl) (hgd : gangB (bl.map GngA.val) = true) (hH : Hs w0 (bx gb #[.slice q m capq] 38 :: bx gk #[.int .i64 k] 3 :: (Y ++ (Yi ++ YR))) w)
 : Calls Try.prog 57 #[.pointer (some ⟨gb, 0, none⟩), .pointer (some ⟨gk, 0, none⟩)] w fun e w' => ∃ er q2 n2 c2 Y2 Yi2 bl2, e = .returned (.int .i64 er) ∧ (bl2.map GngA.val, er) = leaveC (bl.map GngA.val) k ∧ SlO 46 Y2 q2 n2 c2 bl2 ∧ GotG 3 Yi2 bl2 ∧ Hs w0 (bx gb #[.slice q2 n2 c2] 38 :: bx gk #[.int .i64 k] 3 :: (Y2 ++ (Yi2 ++ YR))) w' := by
 have hma := hO.len
 have hm9 := got_small hG hgd
 rw [show YR = YR ++ [] from (List.append_nil _).symm] at hH
 refine enter hH Try.func57 rfl Try.ntmps57 rfl (sq_ (qa0 [] [0, 1] [] (ds_ (sq_ ?_))))
 refine at_calm rfl (by kernel_rfl) (by kernel_rfl) ?_
 refine cm 4 [(2, .go (owns 0 0 1)), (3, .go (owns 1 0 1))] [0, 1] [(8, .agg #[.slice q m capq]), (9, .int .i64 k)] ([]) (by kernel_rfl) rfl al0 ?_
 rcases idxF_cases (hasG k) bl with ⟨hix, hnone⟩ | ⟨i0, x0, hix, hx0, hp0, hlow⟩
 ·
  refine cK (.int .i64 (-1)) Try.call45 (fun w hw => by have := place_t q m capq bl k w (hO.atN (A := [_, _]) hw) hO.len (by omega) (GotG.reads hG hw (List.Sublist.cons _ (List.Sublist.cons _ (List.Sublist.trans (List.sublist_append_left Yi _) (List.sublist_append_right Y _))))) hm9; rw [hix] at this; exact this) ?_
  refine cm 1 [] [0, 1] [(4, .int .i64 (-1))] ([]) (by kernel_rfl) rfl al0 ?_
  refine calm_nil' ?_
  refine ds_ (sq_ (sq_ (qa0 [] [0, 1, 4] [(12, .bool true)] (ds_ (t_ (sq_ (qa0 [] [] [(3, .int .i64 4)] (ds_ (rt ([]) (.int .i64 4) ?_)))))))))
  exact fun w' hw => ⟨_, _, _, _, _, _, bl, rfl, (lc_none hnone).symm, hO, hG, (by have := Hs.pick [[bx gb (#[.slice q m capq]) 38], [bx gk (#[.int .i64 k]) 3], Y, Yi, YR] [0, 1, 2, 3, 4] [] (by kernel_rfl) hw; simpa [chunk] using this)⟩
 ·
  have hi0 := (List.getElem?_eq_some_iff.1 hx0).1
  refine cK (.int .i64 (i0 : Nat)) Try.call45 (fun w hw => by have := place_t q m capq bl k w (hO.atN (A := [_, _]) hw) hO.len (by omega) (GotG.reads hG hw (List.Sublist.cons _ (List.Sublist.cons _ (List.Sublist.trans (List.sublist_append_left Yi _) (List.sublist_append_right Y _))))) hm9; rw [hix] at this; exact this) ?_
  refine cm 1 [] [0, 1] [(4, .int .i64 (i0 : Nat))] ([]) (by kernel_rfl) rfl al0 ?_
  refine calm_nil' ?_
  refine ds_ (sq_ (sq_ (qa [(1, .no)] [0, 1, 4] [(12, .bool false)] ([¬ (((i0 : Nat) : Int) < (0 : Int))]) (al1 (by omega)) (ds_ (f_ (at_skip (ds_ (sq_ ?_))))))))
  have hln9 := hO.len
  obtain ⟨g9, cs9, rfl, rfl, hOw9⟩ := hO.rowOf (i := i0) (by omega)
  refine qa [(3, .go (owns 0 0 1)), (5, .at g9 0 i0)] [0, 1, 4] [(5, .pointer (some ⟨g9, 0 + i0 * 2, none⟩))] ([(some ⟨g9, 0, none⟩ : Option Addr) = some ⟨g9, 0, none⟩, (i0 : Nat) = ((i0 : Nat) : Int), i0 < m]) (al2 rfl (al2 rfl (al1 (by omega)))) (ds_ (sq_ ?_))
  obtain ⟨Ya5, Yx5, Yb5, rfl, hOx5, hcut5⟩ := hG.cutG hx0
  refine At.as (L' := bx gb (#[.slice (some ⟨g9, 0, none⟩) m capq]) 38 :: bx gk (#[.int .i64 k]) 3 :: bx g9 cs9 46 :: (Ya5 ++ (Yx5 ++ (Yb5 ++ (YR ++ []))))) (by simp only [List.append_assoc, List.cons_append, List.nil_append]) ?_
  have hS9 := hm9 x0 (List.mem_of_getElem? hx0)
  refine ao_ (qo 6 [(4, .go (ownps 2 (0 + i0 * 2 + 1) [.slice x0.p x0.n x0.cap]))] [0, 4, 5] [(19, .pointer (some ⟨g9, 0 + i0 * 2, none⟩)), (23, .slice x0.p x0.n x0.cap), (24, .func (.func 59) #[] #[.pointer (some ⟨gk, 0, none⟩)])] (acellsP cs9 (0 + i0 * 2 + 1) [.slice x0.p x0.n x0.cap]) (rda_part (hOw9.rdx hO.len hx0) 1 _ rfl) (Ops.pick [[bx gb (#[.slice (some ⟨g9, 0, none⟩) m capq]) 38], [bx gk (#[.int .i64 k]) 3], [bx g9 cs9 46], Ya5, Yx5, Yb5, YR] [0, 1, 2, 4, 3, 5, 6] [] (bx gb (#[.slice (some ⟨g9, 0, none⟩) m capq]) 38 :: bx gk (#[.int .i64 k]) 3 :: bx g9 cs9 46 :: (Yx5 ++ (Ya5 ++ (Yb5 ++ (YR ++ []))))) (by kernel_rfl) rfl rfl (cP (fun v L' => ∃ q_ m_ c_ Y_, v = .slice q_ m_ c_ ∧ L' = [bx gb (#[.slice (some ⟨g9, 0, none⟩) m capq]) 38, bx gk (#[.int .i64 k]) 3, bx g9 cs9 46] ++ (Y_ ++ (Ya5 ++ (Yb5 ++ (YR ++ [])))) ∧ SlO 3 Y_ q_ m_ c_ (lessL x0.l k)) Try.call58 (fun w hw => (idelf_t _ ([bx gb (#[.slice (some ⟨g9, 0, none⟩) m capq]) 38, bx gk (#[.int .i64 k]) 3, bx g9 cs9 46] ++ (Ya5 ++ (Yb5 ++ (YR ++ [])))) Yx5 59 #[.pointer (some ⟨gk, 0, none⟩)] (fun x => decide (x = k)) x0.p x0.n x0.cap x0.l w (fun args w => Try.call59 args w) (Hs.front (A := [bx gb (#[.slice (some ⟨g9, 0, none⟩) m capq]) 38, bx gk (#[.int .i64 k]) 3, bx g9 cs9 46]) (Y := Yx5) (R := (Ya5 ++ (Yb5 ++ (YR ++ [])))) hw) hOx5 (by omega) (fun x hx w' hX => leave11_t x gk k w' (rd_one14 (hX.row 1 rfl)))).mono fun e w' ⟨q_, m_, c_, Y_, he, hO, hY⟩ => ⟨_, _, he, ⟨q_, m_, c_, Y_, rfl, rfl, hO⟩, hY.push⟩) ?_)))
  rintro v12 L12 ⟨q12, m12, cq12, Y12, rfl, rfl, hO12⟩
  refine mo 3 [(9, .go (ownps 2 (0 + i0 * 2 + 1) [undef]))] [0, 4, 5] (fun _ => []) (fun _ L => (L.set 2 (bx g9 ((cs9).setIfInBounds (0 + i0 * 2 + 1) (.slice q12 m12 cq12)) 46))) (fun _ => [0 + i0 * 2 + 1 < (cs9).size]) (fun _ => (al1 (hOw9.room hO.len hx0 (f := 1) (by decide)))) (fun _ => on_ (ds_ (sq_ (sq_ ?_))))
  by_cases q15 : ((m12 : Nat) : Int) < (2 : Int)
  ·
   refine qa [(3, .go (ownps 2 (0 + i0 * 2 + 1) [.slice q12 m12 cq12])), (5, .yes)] [0, 4] [(33, .bool true)] (acellsP ((cs9).setIfInBounds (0 + i0 * 2 + 1) (.slice q12 m12 cq12)) (0 + i0 * 2 + 1) [.slice q12 m12 cq12] ++ ([((m12 : Nat) : Int) < (2 : Int)])) (alA (rda_part ((hOw9.put (x' := (⟨x0.id, q12, m12, cq12, (lessL x0.l k)⟩ : GngA)) hO.len hx0 (f := 1) (by decide) rfl).rdx (len_set hO.len) (get_set hx0)) 1 _ rfl) (al1 q15)) (ds_ (t_ (At.pick [[bx gb (#[.slice (some ⟨g9, 0, none⟩) m capq]) 38], [bx gk (#[.int .i64 k]) 3], [bx g9 ((cs9).setIfInBounds (0 + i0 * 2 + 1) (.slice q12 m12 cq12)) 46], Y12, Ya5, Yb5, YR] [0, 1, 2, 3, 4, 5, 6] [] (bx gb (#[.slice (some ⟨g9, 0, none⟩) m capq]) 38 :: bx gk (#[.int .i64 k]) 3 :: ([bx g9 ((cs9).setIfInBounds (0 + i0 * 2 + 1) (.slice q12 m12 cq12)) 46] ++ (Y12 ++ (Ya5 ++ (Yb5 ++ (YR ++ [])))))) (by kernel_rfl) rfl rfl (ao_ (qo 8 [(4, .go (owns 0 0 1)), (7, .fit)] [] [(34, .pointer (some ⟨gb, 0, none⟩)), (38, .slice (some ⟨g9, 0, none⟩) m capq), (39, .int .i64 (i0 : Nat)), (41, .int .i64 (i0 + 1 : Nat))] ([Fit .i64 ((i0 + 1 : Nat))]) (al1 (fit64 (by omega) (by omega))) (cP (fun v L' => ∃ q_ c_ Y_, v = .slice q_ (i0 + (m - (i0 + 1))) c_ ∧ L' = [bx gb (#[.slice (some ⟨g9, 0, none⟩) m capq]) 38, bx gk (#[.int .i64 k]) 3] ++ (Y_ ++ (Y12 ++ (Ya5 ++ (Yb5 ++ (YR ++ []))))) ∧ SlO 46 Y_ q_ (i0 + (m - (i0 + 1))) c_ ((bl.set i0 (⟨x0.id, q12, m12, cq12, (lessL x0.l k)⟩ : GngA)).take i0 ++ (bl.set i0 (⟨x0.id, q12, m12, cq12, (lessL x0.l k)⟩ : GngA)).drop (i0 + 1))) Try.call56 (fun w hw => (gdelete_t _ ([bx gb (#[.slice (some ⟨g9, 0, none⟩) m capq]) 38, bx gk (#[.int .i64 k]) 3] ++ (Y12 ++ (Ya5 ++ (Yb5 ++ (YR ++ []))))) [bx g9 ((cs9).setIfInBounds (0 + i0 * 2 + 1) (.slice q12 m12 cq12)) 46] (some ⟨g9, 0, none⟩) m capq (bl.set i0 (⟨x0.id, q12, m12, cq12, (lessL x0.l k)⟩ : GngA)) i0 (i0 + 1) w (Hs.front (A := [bx gb (#[.slice (some ⟨g9, 0, none⟩) m capq]) 38, bx gk (#[.int .i64 k]) 3]) (Y := [bx g9 ((cs9).setIfInBounds (0 + i0 * 2 + 1) (.slice q12 m12 cq12)) 46]) (R := (Y12 ++ (Ya5 ++ (Yb5 ++ (YR ++ []))))) hw) (SlO.ofOwn (hOw9.put (x' := (⟨x0.id, q12, m12, cq12, (lessL x0.l k)⟩ : GngA)) hO.len hx0 (f := 1) (by decide) rfl) (len_set hO.len)) (by omega) (by omega) (by omega)).mono fun e w' ⟨q_, c_, Y_, he, hO, hY⟩ => ⟨_, _, he, ⟨q_, c_, Y_, rfl, rfl, hO⟩, hY.push⟩) ?_))))))
   rintro v18 L18 ⟨q18, cq18, Y18, rfl, rfl, hO18⟩
   refine mo0 3 [(11, .go (owns 0 0 1))] [] (fun _ => []) (fun _ L => (L.set 0 (bx gb (#[.slice q18 (i0 + (m - (i0 + 1))) cq18]) 38))) (fun _ => on_ (ds_ (sq_ (qa0 [] [] [(3, .int .i64 0)] (ds_ (rt ([]) (.int .i64 0) ?_))))))
   have hq12 := hO12.len
   obtain ⟨Yq, hsq, hGq⟩ := GotG.cutAt (j := i0) (hcut5 _ (⟨x0.id, q12, m12, cq12, (lessL x0.l k)⟩ : GngA) hO12)
   exact fun w' hw => ⟨_, _, _, _, _, Yq, _, rfl, (lc_two (y := (⟨x0.id, q12, m12, cq12, (lessL x0.l k)⟩ : GngA)) hx0 hp0 hlow (by omega)).symm, hO18, hGq, part_sub hsq (by have h9 : Hs w0 (bx gb (#[.slice q18 (i0 + (m - (i0 + 1))) cq18]) 38 :: bx gk (#[.int .i64 k]) 3 :: (Y18 ++ (Ya5 ++ (Y12 ++ (Yb5 ++ (YR ++ [])))))) w' := Hs.pick [[bx gb (#[.slice q18 (i0 + (m - (i0 + 1))) cq18]) 38], [bx gk (#[.int .i64 k]) 3], Y18, Y12, Ya5, Yb5, YR] [0, 1, 2, 4, 3, 5, 6] [] (by kernel_rfl) hw; rw [List.append_nil] at h9; simp only [List.append_assoc, List.cons_append, List.nil_append]; exact h9)⟩
  ·
   refine qa [(3, .go (ownps 2 (0 + i0 * 2 + 1) [.slice q12 m12 cq12])), (5, .no)] [0, 4] [(33, .bool false)] (acellsP ((cs9).setIfInBounds (0 + i0 * 2 + 1) (.slice q12 m12 cq12)) (0 + i0 * 2 + 1) [.slice q12 m12 cq12] ++ ([¬ (((m12 : Nat) : Int) < (2 : Int))])) (alA (rda_part ((hOw9.put (x' := (⟨x0.id, q12, m12, cq12, (lessL x0.l k)⟩ : GngA)) hO.len hx0 (f := 1) (by decide) rfl).rdx (len_set hO.len) (get_set hx0)) 1 _ rfl) (al1 q15)) (ds_ (f_ (at_skip (ds_ (sq_ (qa0 [] [] [(3, .int .i64 0)] (ds_ (rt ([]) (.int .i64 0) ?_))))))))
   have hq12 := hO12.len
   exact fun w' hw => ⟨_, _, _, _, _, _, _, rfl, (lc_more (y := (⟨x0.id, q12, m12, cq12, (lessL x0.l k)⟩ : GngA)) hx0 hp0 hlow (by omega) rfl).symm, (SlO.ofOwn (hOw9.put (x' := (⟨x0.id, q12, m12, cq12, (lessL x0.l k)⟩ : GngA)) hO.len hx0 (f := 1) (by decide) rfl) (len_set hO.len)), hcut5 _ (⟨x0.id, q12, m12, cq12, (lessL x0.l k)⟩ : GngA) hO12, (by have h9 : Hs w0 (bx gb (#[.slice (some ⟨g9, 0, none⟩) m capq]) 38 :: bx gk (#[.int .i64 k]) 3 :: bx g9 ((cs9).setIfInBounds (0 + i0 * 2 + 1) (.slice q12 m12 cq12)) 46 :: (Ya5 ++ (Y12 ++ (Yb5 ++ (YR ++ []))))) w' := Hs.pick [[bx gb (#[.slice (some ⟨g9, 0, none⟩) m capq]) 38], [bx gk (#[.int .i64 k]) 3], [bx g9 ((cs9).setIfInBounds (0 + i0 * 2 + 1) (.slice q12 m12 cq12)) 46], Y12, Ya5, Yb5, YR] [0, 1, 2, 4, 3, 5, 6] [] (by kernel_rfl) hw; rw [List.append_nil] at h9; simp only [List.append_assoc, List.cons_append, List.nil_append]; exact h9)⟩

set_option maxRecDepth 100000 in
theorem leave_t (q : Option Addr) (m capq : Nat) (al : List GngA) (k : Int) (w : World)
 (hal : Sv w q al) (hma : m = al.length) (hbm : m ≤ 1000) (hnm : ∀ x ∈ al, x.Reads w) (hm9 : ∀ x ∈ al, x.n ≤ 1000)
 : Calls Try.prog 33 #[.agg #[.slice q m capq], .int .i64 k] w fun e w' => ∃ er q' n' c' Y Yi bl, e = .returned (.tuple #[.agg #[.slice q' n' c'], .int .i64 er]) ∧ (bl.map GngA.val, er) = movG (al.map GngA.val) (leaveC (al.map GngA.val) k) ∧ SlO 46 Y q' n' c' bl ∧ GotG 3 Yi bl ∧ Below w.heap.size w w' ∧ Hs w (Y ++ Yi) w' := by
 refine enter (Hs.start w) Try.func33 rfl Try.ntmps33 rfl (sq_ (ma0 [] [] (fun γ1 => [(2, .pointer (some ⟨γ1 0, 0, none⟩)), (3, .pointer (some ⟨γ1 1, 0, none⟩)), (4, .pointer (some ⟨γ1 2, 0, none⟩))]) (fun γ1 L => bx (γ1 2) (#[.slice none 0 0]) 38 :: bx (γ1 1) (#[.int .i64 k]) 3 :: bx (γ1 0) (#[.slice q m capq]) 38 :: L) (fun γ1 => ds_ (sq_ (ao_ (qo0 2 [(0, .go (owns 2 0 1))] [4] [(6, .agg #[.slice q m capq]), (7, .func (.func 57) #[] #[.pointer (some ⟨γ1 1, 0, none⟩)])] (Ops.pick [[bx (γ1 2) (#[.slice none 0 0]) 38], [bx (γ1 1) (#[.int .i64 k]) 3], [bx (γ1 0) (#[.slice q m capq]) 38]] [1, 0, 2] [] ([bx (γ1 1) (#[.int .i64 k]) 3, bx (γ1 2) (#[.slice none 0 0]) 38, bx (γ1 0) (#[.slice q m capq]) 38]) (by kernel_rfl) rfl rfl (cP (fun v L' => ∃ er q_ n_ c_ Y_ Z_ bl_, v = .tuple #[.agg #[.slice q_ n_ c_], .int .i64 er] ∧ L' = [bx (γ1 1) (#[.int .i64 k]) 3, bx (γ1 2) (#[.slice none 0 0]) 38, bx (γ1 0) (#[.slice q m capq]) 38] ++ (Y_ ++ (Z_ ++ [])) ∧ SlO 46 Y_ q_ n_ c_ bl_ ∧ GotG 3 Z_ bl_ ∧ (bl_.map GngA.val, er) = movG (al.map GngA.val) (leaveC (al.map GngA.val) k)) Try.call50 (fun w hw => (with_t _ [bx (γ1 1) (#[.int .i64 k]) 3, bx (γ1 2) (#[.slice none 0 0]) 38, bx (γ1 0) (#[.slice q m capq]) 38] 57 #[.pointer (some ⟨γ1 1, 0, none⟩)] (fun er gs X2 => (gs, er) = leaveC (al.map GngA.val) k ∧ X2 = [bx (γ1 1) (#[.int .i64 k]) 3, bx (γ1 2) (#[.slice none 0 0]) 38, bx (γ1 0) (#[.slice q m capq]) 38]) q m capq al w (fun args w => Try.call57 args w) hw hal hma hbm hnm hm9 (fun hgd gb q' c' Y Yi R bl w' hO hG hV hX => (leave1_t _ Y Yi ([bx (γ1 2) (#[.slice none 0 0]) 38, bx (γ1 0) (#[.slice q m capq]) 38] ++ R) gb (γ1 1) q' m c' bl k w' hbm hO hG (by rw [hV]; exact hgd) (part_in (O := [bx (γ1 2) (#[.slice none 0 0]) 38, bx (γ1 0) (#[.slice q m capq]) 38]) hX)).mono fun e w'' ⟨er, q2, n2, c2, Y2, Yi2, bl2, he, h1, h2, h3, h4⟩ => ⟨er, q2, n2, c2, Y2, Yi2, bl2, _, he, ⟨by rw [← hV]; exact h1, rfl⟩, h2, h3, part_out (O := [bx (γ1 2) (#[.slice none 0 0]) 38, bx (γ1 0) (#[.slice q m capq]) 38]) h4⟩)).mono fun e w' ⟨er, q_, n_, c_, Y_, Z_, bl_, X_, he, h1, h2, hX, h3⟩ => by obtain ⟨hx, hv⟩ := mov_post (L := [bx (γ1 1) (#[.int .i64 k]) 3, bx (γ1 2) (#[.slice none 0 0]) 38, bx (γ1 0) (#[.slice q m capq]) 38]) h3; subst hx; exact ⟨_, _, he, ⟨er, q_, n_, c_, Y_, Z_, bl_, rfl, rfl, h1, h2, hv⟩, form_out2 hX⟩) ?_))))))))
 rintro v3 L3 ⟨er3, q3, n3, c3, Y3, Yz3, bl3, rfl, rfl, hO3, hG3, hV3⟩
 refine mo0 4 [(5, .go (owns 1 0 1))] [4] (fun _ => [(5, .int .i64 er3)]) (fun _ L => (L.set 1 (bx (γ1 2) (#[.slice q3 n3 c3]) 38))) (fun _ => on_ (ds_ (rt (owns 1 0 1) (.tuple #[.agg #[.slice q3 n3 c3], .int .i64 er3]) ?_)))
 exact fun w' hw => ⟨_, _, _, _, _, _, _, rfl, hV3, hO3, hG3, hw.below, two_tails14 (Hs.pick [[bx (γ1 1) (#[.int .i64 k]) 3], [bx (γ1 2) (#[.slice q3 n3 c3]) 38], [bx (γ1 0) (#[.slice q m capq]) 38], Y3, Yz3] [3, 4] [0, 1, 2] (by kernel_rfl) hw)⟩
end Go.Proofs.Ytahccegfahghfaa

/-! Gangs: Of, Members. -/
namespace Go.Proofs.Ytahccegfahghfaa
open Go Go.RowKit

set_option maxRecDepth 100000 in
theorem gof_t (q : Option Addr) (m capq : Nat) (al : List GngA) (k : Int) (w : World)
 (hal : Sv w q al) (hma : m = al.length) (hbm : m ≤ 1000) (hnm : ∀ x ∈ al, x.Reads w) (hm9 : ∀ x ∈ al, x.n ≤ 1000)
 : Calls Try.prog 22 #[.agg #[.slice q m capq], .int .i64 k] w fun e w' => e = .returned (.tuple #[.int .i64 (ofV (al.map GngA.val) k).1, .bool (ofV (al.map GngA.val) k).2]) ∧ Below w.heap.size w w' := by
 refine enter (Hs.start w) Try.func22 rfl Try.ntmps22 rfl (sq_ (ma0 [] [1] (fun γ1 => [(2, .pointer (some ⟨γ1 0, 0, none⟩))]) (fun γ1 L => bx (γ1 0) (#[.slice q m capq]) 38 :: L) (fun γ1 => ds_ (sq_ (ao_ (qo0 2 [(0, .go (owns 0 0 1))] [2] [(7, .agg #[.slice q m capq]), (8, .int .i64 k)] ?_))))))
 rcases idxF_cases (hasG k) al with ⟨hix, hnone⟩ | ⟨i0, x0, hix, hx0, hp0, hlow⟩
 ·
  refine cD (.int .i64 (-1)) Try.call45 (fun w hw => by have := place_t q m capq al k w (hal.kept hw.below) hma (by omega) (fun x hx => (hnm x hx).kept hw.below) hm9; rw [hix] at this; exact this) (qo0 1 [] [2] [(6, .int .i64 (-1))] (on_ (ds_ (sq_ (sq_ (ao_ (qo0 1 [(0, .go (owns 0 0 1))] [2, 6] [(10, .agg #[.slice q m capq])] ?_)))))))
  rcases q5 : gangB (al.map GngA.val) with _ | _
  ·
   refine cD (.int .i64 240) Try.call18 (fun w hw => by have := gcheck_t q m capq al w (hal.kept hw.below) hma (by omega) (fun x hx => (hnm x hx).kept hw.below) hm9; rw [q5] at this; exact this) (qo0 5 [] [2, 6] [(16, .bool true)] (on_ (ds_ (t_ (sq_ (qa0 [] [] [(4, .int .i64 0), (5, .bool false)] (ds_ (rt ([]) (.tuple #[.int .i64 0, .bool false]) ?_))))))))
   exact fun w' hw => ⟨by rw [ofv_bad q5], hw.below⟩
  ·
   refine cD (.int .i64 0) Try.call18 (fun w hw => by have := gcheck_t q m capq al w (hal.kept hw.below) hma (by omega) (fun x hx => (hnm x hx).kept hw.below) hm9; rw [q5] at this; exact this) (qo0 5 [] [2, 6] [(16, .bool true)] (on_ (ds_ (t_ (sq_ (qa0 [] [] [(4, .int .i64 0), (5, .bool false)] (ds_ (rt ([]) (.tuple #[.int .i64 0, .bool false]) ?_))))))))
   exact fun w' hw => ⟨by rw [ofv_none q5 (find_none hnone)], hw.below⟩
 ·
  have hi0 := (List.getElem?_eq_some_iff.1 hx0).1
  refine cD (.int .i64 (i0 : Nat)) Try.call45 (fun w hw => by have := place_t q m capq al k w (hal.kept hw.below) hma (by omega) (fun x hx => (hnm x hx).kept hw.below) hm9; rw [hix] at this; exact this) (qo0 1 [] [2] [(6, .int .i64 (i0 : Nat))] (on_ (ds_ (sq_ (sq_ (ao_ (qo0 1 [(0, .go (owns 0 0 1))] [2, 6] [(10, .agg #[.slice q m capq])] ?_)))))))
  rcases q12 : gangB (al.map GngA.val) with _ | _
  ·
   refine cD (.int .i64 240) Try.call18 (fun w hw => by have := gcheck_t q m capq al w (hal.kept hw.below) hma (by omega) (fun x hx => (hnm x hx).kept hw.below) hm9; rw [q12] at this; exact this) (qo0 5 [] [2, 6] [(16, .bool true)] (on_ (ds_ (t_ (sq_ (qa0 [] [] [(4, .int .i64 0), (5, .bool false)] (ds_ (rt ([]) (.tuple #[.int .i64 0, .bool false]) ?_))))))))
   exact fun w' hw => ⟨by rw [ofv_bad q12], hw.below⟩
  ·
   refine cD (.int .i64 0) Try.call18 (fun w hw => by have := gcheck_t q m capq al w (hal.kept hw.below) hma (by omega) (fun x hx => (hnm x hx).kept hw.below) hm9; rw [q12] at this; exact this) (qo 5 [(5, .no)] [2, 6] [(16, .bool false)] ([¬ (((i0 : Nat) : Int) < (0 : Int))]) (al1 (by omega)) (on_ (ds_ (f_ (at_skip (ds_ (sq_ ?_)))))))
   obtain ⟨b17, o17, rfl⟩ := hal.pos (i := i0) (by omega)
   refine qa [(1, .go (owns 0 0 1)), (3, .at b17 o17 i0), (5, .go (outs b17 (o17 + i0 * 2) [.int .i64 x0.id]))] [] [(4, .int .i64 x0.id), (5, .bool true)] ([(some ⟨b17, o17, none⟩ : Option Addr) = some ⟨b17, o17, none⟩, (i0 : Nat) = ((i0 : Nat) : Int), i0 < m] ++ (cellsP w b17 (o17 + i0 * 2) [.int .i64 x0.id])) (alA (al2 rfl (al2 rfl (al1 (by omega)))) (rd_pre (hal.get hx0) _ rfl)) (ds_ (rt ([]) (.tuple #[.int .i64 x0.id, .bool true]) ?_))
   exact fun w' hw => ⟨by rw [ofv_some q12 (find_some hx0 hp0 hlow)]; rfl, hw.below⟩

set_option maxRecDepth 100000 in
theorem members_t (q : Option Addr) (m capq : Nat) (al : List GngA) (k : Int) (w : World)
 (hal : Sv w q al) (hma : m = al.length) (hbm : m ≤ 1000) (hnm : ∀ x ∈ al, x.Reads w) (hm9 : ∀ x ∈ al, x.n ≤ 1000)
 : Calls Try.prog 25 #[.agg #[.slice q m capq], .int .i64 k] w fun e w' => ∃ q' n' c' Y, e = .returned (.slice q' n' c') ∧ SlO 3 Y q' n' c' (memV (al.map GngA.val) k) ∧ Below w.heap.size w w' ∧ Hs w Y w' := by
 refine enter (Hs.start w) Try.func25 rfl Try.ntmps25 rfl (sq_ (ma0 [] [1] (fun γ1 => [(2, .pointer (some ⟨γ1 0, 0, none⟩))]) (fun γ1 L => bx (γ1 0) (#[.slice q m capq]) 38 :: L) (fun γ1 => ds_ (sq_ (sq_ (ao_ (qo0 1 [(0, .go (owns 0 0 1))] [1, 2] [(7, .agg #[.slice q m capq])] ?_)))))))
 rcases q3 : gangB (al.map GngA.val) with _ | _
 ·
  refine cD (.int .i64 240) Try.call18 (fun w hw => by have := gcheck_t q m capq al w (hal.kept hw.below) hma (by omega) (fun x hx => (hnm x hx).kept hw.below) hm9; rw [q3] at this; exact this) (qo0 9 [] [1, 2] [(17, .bool true)] (on_ (ds_ (t_ (sq_ (qa0 [] [] [(4, .slice none 0 0)] (ds_ (rt ([]) (.slice none 0 0) ?_))))))))
  exact fun w' hw => by rw [memv_bad q3]; exact ⟨none, 0, 0, [], rfl, SlO.nil, hw.below, hw.sub (List.nil_sublist _)⟩
 ·
  refine cD (.int .i64 0) Try.call18 (fun w hw => by have := gcheck_t q m capq al w (hal.kept hw.below) hma (by omega) (fun x hx => (hnm x hx).kept hw.below) hm9; rw [q3] at this; exact this) ?_
  by_cases q7 : (k : Int) < (1 : Int)
  ·
   refine qo 9 [(5, .yes)] [1, 2] [(17, .bool true)] ([(k : Int) < (1 : Int)]) (al1 q7) (on_ (ds_ (t_ (sq_ (qa0 [] [] [(4, .slice none 0 0)] (ds_ (rt ([]) (.slice none 0 0) ?_)))))))
   exact fun w' hw => by rw [memv_arg (by omega)]; exact ⟨none, 0, 0, [], rfl, SlO.nil, hw.below, hw.sub (List.nil_sublist _)⟩
  ·
   by_cases q11 : (k : Int) > (8 : Int)
   ·
    refine qo 9 [(5, .no), (9, .yes)] [1, 2] [(17, .bool true)] ([¬ ((k : Int) < (1 : Int))] ++ ([(k : Int) > (8 : Int)])) (alA (al1 q7) (al1 q11)) (on_ (ds_ (t_ (sq_ (qa0 [] [] [(4, .slice none 0 0)] (ds_ (rt ([]) (.slice none 0 0) ?_)))))))
    exact fun w' hw => by rw [memv_arg (by omega)]; exact ⟨none, 0, 0, [], rfl, SlO.nil, hw.below, hw.sub (List.nil_sublist _)⟩
   ·
    refine qo 9 [(5, .no), (9, .no)] [1, 2] [(17, .bool false)] ([¬ ((k : Int) < (1 : Int))] ++ ([¬ ((k : Int) > (8 : Int))])) (alA (al1 q7) (al1 q11)) (on_ (ds_ (f_ (at_skip (ds_ (sq_ (ao_ (qo0 2 [(0, .go (owns 0 0 1))] [2] [(19, .agg #[.slice q m capq]), (20, .int .i64 k)] ?_))))))))
    rcases q16 : hasK GngA.id al k with _ | _
    ·
     refine cD (.tuple #[.int .i64 (posK GngA.id al k : Nat), .bool false]) Try.call46 (fun w hw => by have := at_t q m capq al k w (hal.kept hw.below) hma hbm (gang_ris q3).1 (fun x hx => by have := (gang_ris q3).2 x hx; omega) (by omega) (by omega); rw [q16] at this; exact this) (qo0 5 [] [2] [(5, .int .i64 (posK GngA.id al k : Nat)), (6, .bool false)] (on_ (ds_ (sq_ (sq_ (qa0 [] [2, 5] [(25, .bool true)] (ds_ (t_ (sq_ (qa0 [] [] [(4, .slice none 0 0)] (ds_ (rt ([]) (.slice none 0 0) ?_))))))))))))
     exact fun w' hw => by rw [memv_none (has_val.trans q16)]; exact ⟨none, 0, 0, [], rfl, SlO.nil, hw.below, hw.sub (List.nil_sublist _)⟩
    ·
     refine cD (.tuple #[.int .i64 (posK GngA.id al k : Nat), .bool true]) Try.call46 (fun w hw => by have := at_t q m capq al k w (hal.kept hw.below) hma hbm (gang_ris q3).1 (fun x hx => by have := (gang_ris q3).2 x hx; omega) (by omega) (by omega); rw [q16] at this; exact this) (qo0 5 [] [2] [(5, .int .i64 (posK GngA.id al k : Nat)), (6, .bool true)] (on_ (ds_ (sq_ (sq_ (qa0 [] [2, 5] [(25, .bool false)] (ds_ (f_ (at_skip (ds_ (sq_ ?_)))))))))))
     obtain ⟨xk, hxk, hfk⟩ := posk_at (gang_ris q3).1.asc q16
     have hkl := (List.getElem?_eq_some_iff.1 hxk).1
     have hsxk : Sv w xk.p xk.l := (hnm xk (List.mem_of_getElem? hxk)).sv
     have hnxk : xk.n = xk.l.length := (hnm xk (List.mem_of_getElem? hxk)).hn
     have hm9xk := hm9 xk (List.mem_of_getElem? hxk)
     obtain ⟨b23, o23, rfl⟩ := hal.pos (i := posK GngA.id al k) (by omega)
     refine ao_ (qo 6 [(1, .go (owns 0 0 1)), (3, .at b23 o23 (posK GngA.id al k)), (5, .go (outs b23 (o23 + (posK GngA.id al k) * 2 + 1) [.slice xk.p xk.n xk.cap]))] [] [(31, .slice xk.p xk.n xk.cap)] ([(some ⟨b23, o23, none⟩ : Option Addr) = some ⟨b23, o23, none⟩, (posK GngA.id al k : Nat) = ((posK GngA.id al k : Nat) : Int), posK GngA.id al k < m] ++ (cellsP w b23 (o23 + (posK GngA.id al k) * 2 + 1) [.slice xk.p xk.n xk.cap])) (alA (al2 rfl (al2 rfl (al1 (by omega)))) (rd_part (hal.get hxk) 1 _ rfl)) (cP (fun v L' => ∃ q_ c_ Y_, v = .slice q_ xk.n c_ ∧ L' = List.take 1 ([bx (γ1 0) (#[.slice (some ⟨b23, o23, none⟩) m capq]) 38]) ++ (Y_ ++ List.drop 1 ([bx (γ1 0) (#[.slice (some ⟨b23, o23, none⟩) m capq]) 38])) ∧ SlO 3 Y_ q_ xk.n c_ xk.l) Try.call44 (fun w hw => (cloneints_t xk.p xk.n xk.cap xk.l w (hsxk.kept hw.below) hnxk (by omega)).mono fun e w' ⟨q_, c_, Y_, he, hO, hb, hY⟩ => ⟨_, _, he, ⟨q_, c_, Y_, rfl, rfl, hO⟩, hw.join hb hY 1⟩) ?_))
     rintro v25 L25 ⟨q25, cq25, Y25, rfl, rfl, hO25⟩
     refine qo0 1 [] [] [(4, .slice q25 xk.n cq25)] (on_ (ds_ (rt ([]) (.slice q25 xk.n cq25) ?_)))
     exact fun w' hw => by rw [memv_ok q3 (by omega) (by omega) q16 hxk]; exact ⟨_, _, _, _, rfl, hO25, hw.below, one_tail14 (Hs.pick [[bx (γ1 0) (#[.slice (some ⟨b23, o23, none⟩) m capq]) 38], Y25] [1] [0] (by kernel_rfl) hw)⟩
end Go.Proofs.Ytahccegfahghfaa

/-! Gangs: slices.Equal. -/
namespace Go.Proofs.Ytahccegfahghfaa
open Go Go.RowKit

set_option maxRecDepth 100000 in
theorem iequal_t (p : Option Addr) (n cap : Nat) (l : List Int) (p2 : Option Addr) (n2 cap2 : Nat) (l2 : List Int) (w : World)
 (hsl : Sv w p l) (hn : n = l.length) (hb : n ≤ 1000)
 (hsl2 : Sv w p2 l2) (hn2 : n2 = l2.length) (hb2 : n2 ≤ 1000)
 : Calls Try.prog 32 #[.slice p n cap, .slice p2 n2 cap2] w fun e w' => e = .returned (.bool (decide (l = l2))) ∧ Below w.heap.size w w' := by
 refine enter (Hs.start w) Try.func32 rfl Try.ntmps32 rfl (sq_ (qa0 [] [0, 1] [] (ds_ (sq_ (sq_ ?_)))))
 by_cases q3 : ((n : Nat) : Int) ≠ ((n2 : Nat) : Int)
 ·
  refine qa [(4, .yes)] [0, 1] [(10, .bool true)] ([((n : Nat) : Int) ≠ ((n2 : Nat) : Int)]) (al1 q3) (ds_ (t_ (sq_ (qa0 [] [] [(4, .bool false)] (ds_ (rt ([]) (.bool false) ?_))))))
  exact fun w' hw => ⟨by rw [dsame_len (l := l) (l2 := l2) (by omega)], hw.below⟩
 ·
  refine qa [(4, .no)] [0, 1] [(10, .bool false)] ([¬ (((n : Nat) : Int) ≠ ((n2 : Nat) : Int))]) (al1 q3) (ds_ (f_ (at_skip (ds_ (sq_ (sq_ (qa0 [] [0, 1] [(12, .int .i64 (n : Nat)), (13, .int .i64 0)] (ds_ (at_block (at_loop (α := Nat) [0, 1, 12, 13] (fun j => [(0, .slice p n cap), (1, .slice p2 n2 cap2), (12, .int .i64 (n : Nat)), (13, .int .i64 (j : Nat))]) (fun j => []) (fun j => j ≤ n ∧ l.take j = l2.take j) (fun j => n - j) 0 (by kernel_rfl) rfl ⟨Nat.zero_le _, rfl⟩ ?_))))))))))
  rintro j
  rintro ⟨hj, hI⟩
  refine sq_ ?_
  by_cases q9 : ((j : Nat) : Int) < ((n : Nat) : Int)
  ·
   refine qa [(0, .yes)] [0, 1, 12, 13] [(14, .bool true)] ([((j : Nat) : Int) < ((n : Nat) : Int)]) (al1 q9) (ds_ (sq_ (t_ (at_skip (ds_ (sq_ (at_block (sq_ (qa0 [] [0, 1, 12, 13] [(5, .int .i64 (j : Nat))] (ds_ (sq_ ?_)))))))))))
   obtain ⟨b13, o13, rfl⟩ := hsl.pos (i := j) (by omega)
   obtain ⟨x15, hx15⟩ := get_some (l := l) (m := j) (by omega)
   obtain ⟨b17, o17, rfl⟩ := hsl2.pos (i := j) (by omega)
   obtain ⟨x19, hx19⟩ := get_some (l := l2) (m := j) (by omega)
   by_cases q21 : (x15 : Int) ≠ (x19 : Int)
   ·
    refine cq [(2, .at b13 o13 j), (3, .go (outs b13 (o13 + j * 1) [.int .i64 x15])), (6, .at b17 o17 j), (7, .go (outs b17 (o17 + j * 1) [.int .i64 x19])), (8, .yes)] [0, 1, 12, 13] [(24, .bool true)] ([(some ⟨b13, o13, none⟩ : Option Addr) = some ⟨b13, o13, none⟩, (j : Nat) = ((j : Nat) : Int), j < n] ++ (cellsP w b13 (o13 + j * 1) [.int .i64 x15] ++ ([(some ⟨b17, o17, none⟩ : Option Addr) = some ⟨b17, o17, none⟩, (j : Nat) = ((j : Nat) : Int), j < n2] ++ (cellsP w b17 (o17 + j * 1) [.int .i64 x19] ++ ([(x15 : Int) ≠ (x19 : Int)]))))) rfl (by kernel_rfl) (by kernel_rfl) (by kernel_rfl) (alA (al2 rfl (al2 rfl (al1 (by omega)))) (alA (rd_pre (hsl.get hx15) _ rfl) (alA (al2 rfl (al2 rfl (al1 (by omega)))) (alA (rd_pre (hsl2.get hx19) _ rfl) (al1 q21))))) (ds_ (t_ (sq_ (qa0 [] [] [(4, .bool false)] (ds_ (rt ([]) (.bool false) ?_))))))
    exact fun w' hw => ⟨by rw [dsame_no hx15 hx19 (by omega)], hw.below⟩
   ·
    refine cq [(2, .at b13 o13 j), (3, .go (outs b13 (o13 + j * 1) [.int .i64 x15])), (6, .at b17 o17 j), (7, .go (outs b17 (o17 + j * 1) [.int .i64 x19])), (8, .no)] [0, 1, 12, 13] [(24, .bool false)] ([(some ⟨b13, o13, none⟩ : Option Addr) = some ⟨b13, o13, none⟩, (j : Nat) = ((j : Nat) : Int), j < n] ++ (cellsP w b13 (o13 + j * 1) [.int .i64 x15] ++ ([(some ⟨b17, o17, none⟩ : Option Addr) = some ⟨b17, o17, none⟩, (j : Nat) = ((j : Nat) : Int), j < n2] ++ (cellsP w b17 (o17 + j * 1) [.int .i64 x19] ++ ([¬ ((x15 : Int) ≠ (x19 : Int))]))))) rfl (by kernel_rfl) (by kernel_rfl) (by kernel_rfl) (alA (al2 rfl (al2 rfl (al1 (by omega)))) (alA (rd_pre (hsl.get hx15) _ rfl) (alA (al2 rfl (al2 rfl (al1 (by omega)))) (alA (rd_pre (hsl2.get hx19) _ rfl) (al1 q21))))) (ds_ (f_ (at_skip (done_block (ds_ (qa [(0, .fit)] [0, 1, 12] [(13, .int .i64 (j + 1 : Nat))] ([Fit .i64 ((j + 1 : Nat))]) (al1 (fit64 (by omega) (by omega))) ?_))))))
    exact dr [0, 1, 12, 13] (j + 1) ⟨by omega, dsame_on hI hx15 hx19 (by omega)⟩
  ·
   refine qa [(0, .no)] [0, 1, 12, 13] [(14, .bool false)] ([¬ (((j : Nat) : Int) < ((n : Nat) : Int))]) (al1 q9) (ds_ (sq_ (f_ (at_leave _ rfl (ds_ (sq_ (qa0 [] [] [(4, .bool true)] (ds_ (rt ([]) (.bool true) ?_)))))))))
   exact fun w' hw => ⟨by rw [dsame_yes hI (by omega) (by omega)], hw.below⟩

set_option maxRecDepth 100000 in
theorem same1_t (x y : GngA) (w : World)
 (hsx : Sv w x.p x.l) (hnx : x.n = x.l.length) (hm9x : x.n ≤ 1000) (hsy : Sv w y.p y.l) (hny : y.n = y.l.length) (hm9y : y.n ≤ 1000)
 : Calls Try.prog 43 #[.agg #[.int .i64 x.id, .slice x.p x.n x.cap], .agg #[.int .i64 y.id, .slice y.p y.n y.cap]] w fun e w' => e = .returned (.bool (decide (x.val = y.val))) ∧ Below w.heap.size w w' := by
 refine enter (Hs.start w) Try.func43 rfl Try.ntmps43 rfl (sq_ (ma0 [] [] (fun γ1 => [(2, .pointer (some ⟨γ1 0, 0, none⟩)), (3, .pointer (some ⟨γ1 1, 0, none⟩))]) (fun γ1 L => bx (γ1 1) (#[.int .i64 y.id, .slice y.p y.n y.cap]) 46 :: bx (γ1 0) (#[.int .i64 x.id, .slice x.p x.n x.cap]) 46 :: L) (fun γ1 => ds_ (sq_ ?_))))
 by_cases q3 : (x.id : Int) = (y.id : Int)
 ·
  refine ao_ (qo 10 [(1, .go (owns 1 0 1)), (3, .go (owns 0 0 1)), (4, .yes), (7, .go (owns 1 1 1)), (9, .go (owns 0 1 1))] [] [(10, .bool true), (12, .slice x.p x.n x.cap), (14, .slice y.p y.n y.cap)] ([(x.id : Int) = (y.id : Int)]) (al1 q3) ?_)
  rcases q5 : decide (x.l = y.l) with _ | _
  ·
   refine cD (.bool false) Try.call32 (fun w hw => by have := iequal_t x.p x.n x.cap x.l y.p y.n y.cap y.l w (hsx.kept hw.below) hnx (by omega) (hsy.kept hw.below) hny (by omega); rw [q5] at this; exact this) (qo0 2 [] [] [(4, .bool false)] (on_ (ds_ (rt ([]) (.bool false) ?_))))
   exact fun w' hw => ⟨by rw [show decide (x.val = y.val) = false from decide_eq_false (fun e => of_decide_eq_false q5 (congrArg Prod.snd e))], hw.below⟩
  ·
   refine cD (.bool true) Try.call32 (fun w hw => by have := iequal_t x.p x.n x.cap x.l y.p y.n y.cap y.l w (hsx.kept hw.below) hnx (by omega) (hsy.kept hw.below) hny (by omega); rw [q5] at this; exact this) (qo0 2 [] [] [(4, .bool true)] (on_ (ds_ (rt ([]) (.bool true) ?_))))
   exact fun w' hw => ⟨by rw [show decide (x.val = y.val) = true from decide_eq_true (show (x.id, x.l) = (y.id, y.l) from by rw [q3, of_decide_eq_true q5])], hw.below⟩
 ·
  refine qa [(1, .go (owns 1 0 1)), (3, .go (owns 0 0 1)), (4, .no)] [] [(4, .bool false)] ([¬ ((x.id : Int) = (y.id : Int))]) (al1 q3) (ds_ (rt ([]) (.bool false) ?_))
  exact fun w' hw => ⟨by rw [show decide (x.val = y.val) = false from decide_eq_false (fun e => q3 (congrArg Prod.fst e))], hw.below⟩
end Go.Proofs.Ytahccegfahghfaa

/-! Gangs: Same. -/
namespace Go.Proofs.Ytahccegfahghfaa
open Go Go.RowKit
theorem gsame_on {al bl : List GngA} {x y : GngA} {j : Nat} (hI : (al.take j).map GngA.val = (bl.take j).map GngA.val) (ha : al[j]? = some x) (hb : bl[j]? = some y) (e : decide (x.val = y.val) = true) : (al.take (j + 1)).map GngA.val = (bl.take (j + 1)).map GngA.val := by
 rw [take_one ha, take_one hb, List.map_append, List.map_append, hI, List.map_cons, List.map_cons, of_decide_eq_true e]
theorem gsame_no {al bl : List GngA} {x y : GngA} {j : Nat} (ha : al[j]? = some x) (hb : bl[j]? = some y) (e : decide (x.val = y.val) = false) : decide (al.map GngA.val = bl.map GngA.val) = false := decide_eq_false fun h => by
 have h1 := congrArg (fun l : List (Int × List Int) => l[j]?) h
 simp only [List.getElem?_map, ha, hb, Option.map_some, Option.some.injEq] at h1
 exact of_decide_eq_false e h1
theorem gsame_len {al bl : List GngA} (e : ¬ al.length = bl.length) : decide (al.map GngA.val = bl.map GngA.val) = false := decide_eq_false fun h => by
 have h1 := congrArg List.length h
 rw [List.length_map, List.length_map] at h1
 exact e h1
theorem gsame_yes {al bl : List GngA} {j : Nat} (hI : (al.take j).map GngA.val = (bl.take j).map GngA.val) (h1 : al.length ≤ j) (h2 : bl.length ≤ j) : decide (al.map GngA.val = bl.map GngA.val) = true := by
 rw [List.take_of_length_le h1, List.take_of_length_le h2] at hI
 exact decide_eq_true hI

set_option maxRecDepth 100000 in
theorem gequalf_t (q : Option Addr) (m capq : Nat) (al : List GngA) (q2 : Option Addr) (m2 capq2 : Nat) (bl : List GngA) (w : World)
 (hal : Sv w q al) (hma : m = al.length) (hbm : m ≤ 1000) (hnm : ∀ x ∈ al, x.Reads w) (hm9 : ∀ x ∈ al, x.n ≤ 1000)
 (hal2 : Sv w q2 bl) (hma2 : m2 = bl.length) (hbm2 : m2 ≤ 1000) (hnm2 : ∀ x ∈ bl, x.Reads w) (hm92 : ∀ x ∈ bl, x.n ≤ 1000)
 : Calls Try.prog 42 #[.slice q m capq, .slice q2 m2 capq2, .func (.func 43) #[] #[]] w fun e w' => e = .returned (.bool (decide (al.map GngA.val = bl.map GngA.val))) ∧ Below w.heap.size w w' := by
 refine enter (Hs.start w) Try.func42 rfl Try.ntmps42 rfl (sq_ (qa0 [] [0, 1, 2] [] (ds_ (sq_ (sq_ ?_)))))
 by_cases q3 : ((m : Nat) : Int) ≠ ((m2 : Nat) : Int)
 ·
  refine qa [(4, .yes)] [0, 1, 2] [(14, .bool true)] ([((m : Nat) : Int) ≠ ((m2 : Nat) : Int)]) (al1 q3) (ds_ (t_ (sq_ (qa0 [] [] [(6, .bool false)] (ds_ (rt ([]) (.bool false) ?_))))))
  exact fun w' hw => ⟨by rw [gsame_len (al := al) (bl := bl) (by omega)], hw.below⟩
 ·
  refine qa [(4, .no)] [0, 1, 2] [(14, .bool false)] ([¬ (((m : Nat) : Int) ≠ ((m2 : Nat) : Int))]) (al1 q3) (ds_ (f_ (at_skip (ds_ (sq_ (sq_ (qa0 [] [1, 2] [(15, .slice q m capq), (16, .int .i64 (m : Nat)), (17, .int .i64 0)] (ds_ (at_block (at_loop (α := Nat) [1, 2, 15, 16, 17] (fun j => [(1, .slice q2 m2 capq2), (2, .func (.func 43) #[] #[]), (15, .slice q m capq), (16, .int .i64 (m : Nat)), (17, .int .i64 (j : Nat))]) (fun j => []) (fun j => j ≤ m ∧ (al.take j).map GngA.val = (bl.take j).map GngA.val) (fun j => m - j) 0 (by kernel_rfl) rfl ⟨Nat.zero_le _, rfl⟩ ?_))))))))))
  rintro j
  rintro ⟨hj, hI⟩
  refine sq_ ?_
  by_cases q9 : ((j : Nat) : Int) < ((m : Nat) : Int)
  ·
   refine qa [(0, .yes)] [1, 2, 15, 16, 17] [(18, .bool true)] ([((j : Nat) : Int) < ((m : Nat) : Int)]) (al1 q9) (ds_ (sq_ (t_ (at_skip (ds_ (sq_ (at_block (sq_ ?_))))))))
   obtain ⟨b12, o12, rfl⟩ := hal.pos (i := j) (by omega)
   obtain ⟨x14, hx14⟩ := get_some (l := al) (m := j) (by omega)
   have hsx14 : Sv w x14.p x14.l := (hnm x14 (List.mem_of_getElem? hx14)).sv
   have hnx14 : x14.n = x14.l.length := (hnm x14 (List.mem_of_getElem? hx14)).hn
   have hm9x14 := hm9 x14 (List.mem_of_getElem? hx14)
   refine ma [(1, .at b12 o12 j), (2, .go (outs b12 (o12 + j * 2) [.int .i64 x14.id, .slice x14.p x14.n x14.cap])), (5, .go (owns 0 0 2))] [1, 2, 15, 16, 17] (fun γ15 => [(7, .int .i64 (j : Nat)), (8, .pointer (some ⟨γ15 0, 0, none⟩))]) (fun γ15 L => bx (γ15 0) (#[.int .i64 x14.id, .slice x14.p x14.n x14.cap]) 46 :: L) (fun γ15 => [(some ⟨b12, o12, none⟩ : Option Addr) = some ⟨b12, o12, none⟩, (j : Nat) = ((j : Nat) : Int), j < m] ++ (cellsP w b12 (o12 + j * 2) [.int .i64 x14.id, .slice x14.p x14.n x14.cap])) (fun γ15 => (alA (al2 rfl (al2 rfl (al1 (by omega)))) (rd_pre (hal.get hx14) _ rfl))) (fun γ15 => ds_ (sq_ ?_))
   obtain ⟨b17, o17, rfl⟩ := hal2.pos (i := j) (by omega)
   obtain ⟨x19, hx19⟩ := get_some (l := bl) (m := j) (by omega)
   have hsx19 : Sv w x19.p x19.l := (hnm2 x19 (List.mem_of_getElem? hx19)).sv
   have hnx19 : x19.n = x19.l.length := (hnm2 x19 (List.mem_of_getElem? hx19)).hn
   have hm9x19 := hm92 x19 (List.mem_of_getElem? hx19)
   refine ma [(2, .at b17 o17 j), (3, .go (outs b17 (o17 + j * 2) [.int .i64 x19.id, .slice x19.p x19.n x19.cap])), (5, .go (owns 0 0 2))] [1, 2, 8, 15, 16, 17] (fun γ20 => [(9, .pointer (some ⟨γ20 0, 0, none⟩))]) (fun γ20 L => bx (γ20 0) (#[.int .i64 x19.id, .slice x19.p x19.n x19.cap]) 46 :: L) (fun γ20 => [(some ⟨b17, o17, none⟩ : Option Addr) = some ⟨b17, o17, none⟩, (j : Nat) = ((j : Nat) : Int), j < m2] ++ (cellsP w b17 (o17 + j * 2) [.int .i64 x19.id, .slice x19.p x19.n x19.cap])) (fun γ20 => (alA (al2 rfl (al2 rfl (al1 (by omega)))) (rd_pre (hal2.get hx19) _ rfl))) (fun γ20 => ds_ (sq_ (ao_ (qo0 3 [(1, .go (owns 1 0 2)), (2, .go (owns 0 0 2))] [1, 2, 15, 16, 17] [(26, .func (.func 43) #[] #[]), (27, .agg #[.int .i64 x14.id, .slice x14.p x14.n x14.cap]), (28, .agg #[.int .i64 x19.id, .slice x19.p x19.n x19.cap])] ?_))))
   rcases q22 : decide (x14.val = x19.val) with _ | _
   ·
    refine cD (.bool false) Try.call43 (fun w hw => by have := same1_t x14 x19 w (hsx14.kept hw.below) hnx14 hm9x14 (hsx19.kept hw.below) hnx19 hm9x19; rw [q22] at this; exact this) (qo0 1 [] [1, 2, 15, 16, 17] [(30, .bool true)] (on_ (ds_ (t_ (sq_ (qa0 [] [] [(6, .bool false)] (ds_ (rt ([]) (.bool false) ?_))))))))
    exact fun w' hw => ⟨by rw [gsame_no hx14 hx19 q22], hw.below⟩
   ·
    refine cD (.bool true) Try.call43 (fun w hw => by have := same1_t x14 x19 w (hsx14.kept hw.below) hnx14 hm9x14 (hsx19.kept hw.below) hnx19 hm9x19; rw [q22] at this; exact this) (qo0 1 [] [1, 2, 15, 16, 17] [(30, .bool false)] (on_ (ds_ (f_ (at_skip (done_block (ds_ (qa [(0, .fit)] [1, 2, 15, 16] [(17, .int .i64 (j + 1 : Nat))] ([Fit .i64 ((j + 1 : Nat))]) (al1 (fit64 (by omega) (by omega))) (Done.drop (L' := []) ?_ (List.Sublist.cons _ (List.Sublist.cons _ (List.Sublist.refl _))))))))))))
    exact dr [1, 2, 15, 16, 17] (j + 1) ⟨by omega, gsame_on hI hx14 hx19 q22⟩
  ·
   refine qa [(0, .no)] [1, 2, 15, 16, 17] [(18, .bool false)] ([¬ (((j : Nat) : Int) < ((m : Nat) : Int))]) (al1 q9) (ds_ (sq_ (f_ (at_leave _ rfl (ds_ (sq_ (qa0 [] [] [(6, .bool true)] (ds_ (rt ([]) (.bool true) ?_)))))))))
   exact fun w' hw => ⟨by rw [gsame_yes hI (by omega) (by omega)], hw.below⟩

set_option maxRecDepth 100000 in
theorem gsame_t (q : Option Addr) (m capq : Nat) (al : List GngA) (q2 : Option Addr) (m2 capq2 : Nat) (bl : List GngA) (w : World)
 (hal : Sv w q al) (hma : m = al.length) (hbm : m ≤ 1000) (hnm : ∀ x ∈ al, x.Reads w) (hm9 : ∀ x ∈ al, x.n ≤ 1000)
 (hal2 : Sv w q2 bl) (hma2 : m2 = bl.length) (hbm2 : m2 ≤ 1000) (hnm2 : ∀ x ∈ bl, x.Reads w) (hm92 : ∀ x ∈ bl, x.n ≤ 1000)
 : Calls Try.prog 19 #[.agg #[.slice q m capq], .agg #[.slice q2 m2 capq2]] w fun e w' => e = .returned (.bool (decide (al.map GngA.val = bl.map GngA.val))) ∧ Below w.heap.size w w' := by
 refine enter (Hs.start w) Try.func19 rfl Try.ntmps19 rfl (sq_ (ma0 [] [] (fun γ1 => [(2, .pointer (some ⟨γ1 0, 0, none⟩)), (3, .pointer (some ⟨γ1 1, 0, none⟩))]) (fun γ1 L => bx (γ1 1) (#[.slice q2 m2 capq2]) 38 :: bx (γ1 0) (#[.slice q m capq]) 38 :: L) (fun γ1 => ds_ (sq_ (ao_ (qo0 4 [(1, .go (owns 1 0 1)), (3, .go (owns 0 0 1))] [] [(6, .slice q m capq), (8, .slice q2 m2 capq2)] (cD (.bool (decide (al.map GngA.val = bl.map GngA.val))) Try.call42 (fun w hw => gequalf_t q m capq al q2 m2 capq2 bl w (hal.kept hw.below) hma (by omega) (fun x hx => (hnm x hx).kept hw.below) hm9 (hal2.kept hw.below) hma2 (by omega) (fun x hx => (hnm2 x hx).kept hw.below) hm92) (qo0 1 [] [] [(4, .bool (decide (al.map GngA.val = bl.map GngA.val)))] (on_ (ds_ (rt ([]) (.bool (decide (al.map GngA.val = bl.map GngA.val))) ?_)))))))))))
 exact fun w' hw => ⟨rfl, hw.below⟩
end Go.Proofs.Ytahccegfahghfaa

/-! The document: Of. -/
namespace Go.Proofs.Ytahccegfahghfaa
open Go Go.RowKit

end Go.Proofs.Ytahccegfahghfaa

/-! The document: members. -/
namespace Go.Proofs.Ytahccegfahghfaa
open Go Go.RowKit
end Go.Proofs.Ytahccegfahghfaa

/-! The document: Right, Get, Same. -/
namespace Go.Proofs.Ytahccegfahghfaa
open Go Go.RowKit

end Go.Proofs.Ytahccegfahghfaa

/-! Short gangs. -/
namespace Go.Proofs.Ytahccegfahghfaa
open Go Go.RowKit

set_option maxRecDepth 100000 in
theorem ints_t (p : Option Addr) (n cap : Nat) (l : List Int) (w : World)
 (hsl : Sv w p l) (hn : n = l.length) (hcp : n ≤ cap) (hb : n ≤ 9223372036854775807)
 : Calls Try.prog 30 #[.slice p n cap] w fun e w' => ∃ q' n' c' Y, e = .returned (.slice q' n' c') ∧ SlO 3 Y q' n' c' (l.take 17) ∧ Below w.heap.size w w' ∧ Hs w Y w' := by
 refine enter (Hs.start w) Try.func30 rfl Try.ntmps30 rfl (sq_ (qa0 [] [0] [] (ds_ (sq_ (ao_ (mo 6 [(5, .sl (.slice p (min n 17) cap))] [] (fun γ2 => [(3, .slice (some ⟨γ2 0, 0, none⟩) 0 0), (8, .slice p (min n 17) cap)]) (fun γ2 L => bx (γ2 0) (#[]) 3 :: L) (fun γ2 => [SlRun Try.prog 25 (.slice p n cap) none (some (.int .i64 (if (17 : Int) < ((n : Nat) : Int) then 17 else (n : Nat)))) none (.slice p (min n 17) cap)]) (fun γ2 => (al1 (by rw [min_if17]; exact slE_hi (P := Try.prog) (h := (min n 17)) (T := 25) (e := 3) (k := 1) (by_ := 8) (by kernel_rfl) (by omega)))) (fun γ2 => ops_append (α := Int) [] ([bx (γ2 0) (#[]) 3]) ([]) (mvE rfl) rfl (by kernel_rfl) (by kernel_rfl) (p := (some ⟨γ2 0, 0, none⟩)) (n := 0) (cap := 0) (m := (min n 17)) (yv := .slice p (min n 17) cap) (by kernel_rfl) (by kernel_rfl) (T := 3) (by_ := 8) (by kernel_rfl) ([]) (l.take (min n 17)) (SlO.lit (by rfl) (by rfl) (by simp [maxLen])) (fun w hw => src_svn Try.underlying25 ((hsl.kept hw.below).take (min n 17)) (by rw [List.length_take]; omega)) (by rw [List.length_take]; omega) (by have hmx : maxLen = 9223372036854775807 := rfl; omega) (by have hmx : maxLen = 9223372036854775807 := rfl; omega) (fun Y3 p3 cap3 hO3 => qo0 1 [] [] [(2, .slice p3 (0 + (min n 17)) cap3)] (on_ (ds_ (rt ([]) (.slice p3 (0 + (min n 17)) cap3) ?_)))))))))))
 exact fun w' hw => ⟨_, _, _, _, rfl, SlO.as14 hO3 (by rw [List.nil_append, take_min17 hn]), hw.below, one_tail14 (Hs.pick [Y3] [0] [] (by kernel_rfl) hw)⟩

set_option maxRecDepth 100000 in
theorem short_t (q : Option Addr) (m capq : Nat) (al : List GngA) (w : World)
 (hal : Sv w q al) (hma : m = al.length) (hbm : m ≤ 9223372036854775807) (hnm : ∀ x ∈ al, x.Reads w)
 : Calls Try.prog 16 #[.agg #[.slice q m capq]] w fun e w' => ∃ q' m' c' Y bl Yi, e = .returned (.agg #[.slice q' m' c']) ∧ SlO 46 Y q' m' c' bl ∧ GotG 3 Yi bl ∧ bl.map GngA.val = shortV (al.map GngA.val) ∧ Below w.heap.size w w' ∧ Hs w (Y ++ Yi) w' := by
 refine enter (Hs.start w) Try.func16 rfl Try.ntmps16 rfl (sq_ (ma0 [] [] (fun γ1 => [(1, .pointer (some ⟨γ1 0, 0, none⟩)), (2, .pointer (some ⟨γ1 1, 0, none⟩))]) (fun γ1 L => bx (γ1 1) (#[.slice none 0 0]) 38 :: bx (γ1 0) (#[.slice q m capq]) 38 :: L) (fun γ1 => ds_ (sq_ (ma0 [] [1, 2] (fun γ2 => [(3, .pointer (some ⟨γ2 0, 0, none⟩))]) (fun γ2 L => bx (γ2 0) (#[.slice none 0 0]) 38 :: L) (fun γ2 => ds_ (sq_ (sq_ (qa0 [(1, .go (owns 2 0 1))] [2, 3] [(7, .slice q m capq), (8, .int .i64 (m : Nat)), (9, .int .i64 0)] (ds_ (at_block (At.pick [[bx (γ2 0) (#[.slice none 0 0]) 38], [bx (γ1 1) (#[.slice none 0 0]) 38], [bx (γ1 0) (#[.slice q m capq]) 38]] [0, 1, 2] [] ([bx (γ2 0) (#[.slice none 0 0]) 38, bx (γ1 1) (#[.slice none 0 0]) 38, bx (γ1 0) (#[.slice q m capq]) 38]) (by kernel_rfl) rfl rfl (at_loop (α := Nat × List Ob × Option Addr × Nat × Nat × List GngA × List Ob) [2, 3, 7, 8, 9] (fun ⟨j, Yo, po, nu, co, bl, Yi⟩ => [(2, .pointer (some ⟨γ1 1, 0, none⟩)), (3, .pointer (some ⟨γ2 0, 0, none⟩)), (7, .slice q m capq), (8, .int .i64 (m : Nat)), (9, .int .i64 (j : Nat))]) (fun ⟨j, Yo, po, nu, co, bl, Yi⟩ => bx (γ2 0) (#[.slice po nu co]) 38 :: bx (γ1 1) (#[.slice none 0 0]) 38 :: bx (γ1 0) (#[.slice q m capq]) 38 :: (Yo ++ (Yi ++ []))) (fun ⟨j, Yo, po, nu, co, bl, Yi⟩ => j ≤ m ∧ nu ≤ j ∧ SlO 46 Yo po nu co bl ∧ GotG 3 Yi bl ∧ bl.map GngA.val = shortV ((al.take j).map GngA.val)) (fun ⟨j, Yo, po, nu, co, bl, Yi⟩ => m - j) (0, [], none, 0, 0, [], []) (by kernel_rfl) rfl ⟨Nat.zero_le _, Nat.le_refl _, SlO.nil, GotG.nil, rfl⟩ ?_)))))))))))))
 rintro ⟨j, Yo, po, nu, co, bl, Yi⟩
 rintro ⟨hj, hnu, hO, hG, hB⟩
 have hlb := hO.len
 refine sq_ ?_
 by_cases q5 : ((j : Nat) : Int) < ((m : Nat) : Int)
 ·
  refine qa [(0, .yes)] [2, 3, 7, 8, 9] [(10, .bool true)] ([((j : Nat) : Int) < ((m : Nat) : Int)]) (al1 q5) (ds_ (sq_ (t_ (at_skip (ds_ (sq_ (at_block (sq_ ?_))))))))
  obtain ⟨b8, o8, rfl⟩ := hal.pos (i := j) (by omega)
  obtain ⟨x10, hx10⟩ := get_some (l := al) (m := j) (by omega)
  have hrx10 := hnm x10 (List.mem_of_getElem? hx10)
  have hsx10 : Sv w x10.p x10.l := hrx10.sv
  have hnx10 : x10.n = x10.l.length := hrx10.hn
  have hcx10 : x10.n ≤ x10.cap := hrx10.hc
  have hbx10 : x10.cap ≤ 9223372036854775807 := hrx10.hb
  refine ma [(1, .at b8 o8 j), (2, .go (outs b8 (o8 + j * 2) [.int .i64 x10.id, .slice x10.p x10.n x10.cap])), (5, .go (owns 0 0 2))] [2, 3, 7, 8, 9] (fun γ11 => [(4, .int .i64 (j : Nat)), (5, .pointer (some ⟨γ11 0, 0, none⟩))]) (fun γ11 L => bx (γ11 0) (#[.int .i64 x10.id, .slice x10.p x10.n x10.cap]) 46 :: L) (fun γ11 => [(some ⟨b8, o8, none⟩ : Option Addr) = some ⟨b8, o8, none⟩, (j : Nat) = ((j : Nat) : Int), j < m] ++ (cellsP w b8 (o8 + j * 2) [.int .i64 x10.id, .slice x10.p x10.n x10.cap])) (fun γ11 => (alA (al2 rfl (al2 rfl (al1 (by omega)))) (rd_pre (hal.get hx10) _ rfl))) (fun γ11 => ds_ (sq_ ?_))
  by_cases q13 : ((j : Nat) : Int) ≤ (8 : Int)
  ·
   refine qa [(1, .yes)] [2, 3, 5, 7, 8, 9] [(15, .bool true)] ([((j : Nat) : Int) ≤ (8 : Int)]) (al1 q13) (ds_ (t_ ?_))
   refine at_any (by kernel_rfl) ?_
   refine tk (m := 9) [0, 2, 4] [] [2, 3, 7, 8, 9] [(16, .pointer (some ⟨γ2 0, 0, none⟩)), (18, .pointer (some ⟨γ11 0, 0, none⟩)), (20, .pointer (some ⟨γ11 0, 1, none⟩))] ([]) #[true, false, true, false, true, false, false, false, false, false, false, false] al0 ?_
   refine any_cutX (V := (List Ob) × (List Ob) × (Nat) × (Nat) × (Nat) × (Option Addr) × (Option Addr) × (Nat → Nat)) (fun ⟨Y138, Y198, c138, cap198, n138, p198, q138, γ178⟩ => SlO 3 Y138 q138 n138 c138 (x10.l.take 17) ∧ SlO 46 Y198 p198 (nu + 1) cap198 (bl ++ [(⟨x10.id, q138, n138, c138, (x10.l.take 17)⟩ : GngA)])) 0 #[true, true, true, true, true, true, true, true, true, true, true, true] (fun ⟨Y138, Y198, c138, cap198, n138, p198, q138, γ178⟩ => [(2, .pointer (some ⟨γ1 1, 0, none⟩)), (3, .pointer (some ⟨γ2 0, 0, none⟩)), (7, .slice (some ⟨b8, o8, none⟩) m capq), (8, .int .i64 (m : Nat)), (9, .int .i64 (j : Nat))]) (fun ⟨Y138, Y198, c138, cap198, n138, p198, q138, γ178⟩ => bx (γ178 0) (#[.int .i64 x10.id, .slice q138 n138 c138]) 46 :: bx (γ11 0) (#[.int .i64 x10.id, .slice x10.p x10.n x10.cap]) 46 :: bx (γ2 0) (#[.slice p198 (nu + 1) cap198]) 38 :: bx (γ1 1) (#[.slice none 0 0]) 38 :: bx (γ1 0) (#[.slice (some ⟨b8, o8, none⟩) m capq]) 38 :: (Y138 ++ (Y198 ++ (Yi ++ [])))) ?_ (fun hmx15 => ?_)
   rotate_left
   ·
    refine any_cutX (V := (List Ob) × (List Ob) × (Nat) × (Nat) × (Nat) × (Option Addr) × (Option Addr) × (Nat → Nat)) (fun ⟨Y138, Y198, c138, cap198, n138, p198, q138, γ178⟩ => SlO 3 Y138 q138 n138 c138 (x10.l.take 17) ∧ SlO 46 Y198 p198 (nu + 1) cap198 (bl ++ [(⟨x10.id, q138, n138, c138, (x10.l.take 17)⟩ : GngA)])) 1 #[true, true, true, true, true, true, true, true, true, true, true, false] (fun ⟨Y138, Y198, c138, cap198, n138, p198, q138, γ178⟩ => [(2, .pointer (some ⟨γ1 1, 0, none⟩)), (3, .pointer (some ⟨γ2 0, 0, none⟩)), (7, .slice (some ⟨b8, o8, none⟩) m capq), (8, .int .i64 (m : Nat)), (9, .int .i64 (j : Nat)), (25, .slice p198 (nu + 1) cap198), (26, .pointer (some ⟨γ2 0, 0, none⟩))]) (fun ⟨Y138, Y198, c138, cap198, n138, p198, q138, γ178⟩ => bx (γ178 0) (#[.int .i64 x10.id, .slice q138 n138 c138]) 46 :: bx (γ11 0) (#[.int .i64 x10.id, .slice x10.p x10.n x10.cap]) 46 :: bx (γ2 0) (#[.slice po nu co]) 38 :: bx (γ1 1) (#[.slice none 0 0]) 38 :: bx (γ1 0) (#[.slice (some ⟨b8, o8, none⟩) m capq]) 38 :: (Y138 ++ (Y198 ++ (Yi ++ [])))) ?_ (fun hmx14 => ?_)
    ·
     rintro ⟨Y138, Y198, c138, cap198, n138, p198, q138, γ178⟩ ⟨hO138, hO198⟩
     refine a1 11 rfl ?_
     refine mo0 1 [(11, .go (owns 2 0 1))] [2, 3, 7, 8, 9] (fun _ => []) (fun _ L => (L.set 2 (bx (γ2 0) (#[.slice p198 (nu + 1) cap198]) 38))) (fun _ => ?_)
     refine od_ ?_
     exact wk (hmx15 (Y138, Y198, c138, cap198, n138, p198, q138, γ178) ⟨hO138, hO198⟩) [2, 3, 7, 8, 9] [[_], [_], [_], [_], [_], _, _, _] [0, 1, 2, 3, 4, 5, 6, 7] rfl rfl
    refine any_cutX (V := (List Ob) × (Nat) × (Nat) × (Option Addr) × (Nat → Nat)) (fun ⟨Y138, c138, n138, q138, γ178⟩ => SlO 3 Y138 q138 n138 c138 (x10.l.take 17)) 3 #[true, true, true, true, true, true, true, true, true, false, false, false] (fun ⟨Y138, c138, n138, q138, γ178⟩ => [(2, .pointer (some ⟨γ1 1, 0, none⟩)), (3, .pointer (some ⟨γ2 0, 0, none⟩)), (7, .slice (some ⟨b8, o8, none⟩) m capq), (8, .int .i64 (m : Nat)), (9, .int .i64 (j : Nat)), (17, .slice po nu co), (24, .slice (some ⟨γ178 0, 0, none⟩) 1 1)]) (fun ⟨Y138, c138, n138, q138, γ178⟩ => bx (γ178 0) (#[.int .i64 x10.id, .slice q138 n138 c138]) 46 :: bx (γ11 0) (#[.int .i64 x10.id, .slice x10.p x10.n x10.cap]) 46 :: bx (γ2 0) (#[.slice po nu co]) 38 :: bx (γ1 1) (#[.slice none 0 0]) 38 :: bx (γ1 0) (#[.slice (some ⟨b8, o8, none⟩) m capq]) 38 :: (Y138 ++ (Yo ++ (Yi ++ [])))) ?_ (fun hmx13 => ?_)
    ·
     rintro ⟨Y138, c138, n138, q138, γ178⟩ hO138
     refine a1 9 rfl ?_
     refine Ops.pick [[bx (γ178 0) (#[.int .i64 x10.id, .slice q138 n138 c138]) 46], [bx (γ11 0) (#[.int .i64 x10.id, .slice x10.p x10.n x10.cap]) 46], [bx (γ2 0) (#[.slice po nu co]) 38], [bx (γ1 1) (#[.slice none 0 0]) 38], [bx (γ1 0) (#[.slice (some ⟨b8, o8, none⟩) m capq]) 38], Y138, Yo, Yi] [0, 1, 2, 3, 4, 6, 5, 7] [] (bx (γ178 0) (#[.int .i64 x10.id, .slice q138 n138 c138]) 46 :: bx (γ11 0) (#[.int .i64 x10.id, .slice x10.p x10.n x10.cap]) 46 :: bx (γ2 0) (#[.slice po nu co]) 38 :: bx (γ1 1) (#[.slice none 0 0]) 38 :: bx (γ1 0) (#[.slice (some ⟨b8, o8, none⟩) m capq]) 38 :: (Yo ++ (Y138 ++ (Yi ++ [])))) (by kernel_rfl) rfl rfl (ops_append (α := GngA) [bx (γ178 0) (#[.int .i64 x10.id, .slice q138 n138 c138]) 46, bx (γ11 0) (#[.int .i64 x10.id, .slice x10.p x10.n x10.cap]) 46, bx (γ2 0) (#[.slice po nu co]) 38, bx (γ1 1) (#[.slice none 0 0]) 38, bx (γ1 0) (#[.slice (some ⟨b8, o8, none⟩) m capq]) 38] Yo (Y138 ++ (Yi ++ [])) (.refl _) rfl (by kernel_rfl) (by kernel_rfl) (p := po) (n := nu) (cap := co) (m := 1) (yv := .slice (some ⟨γ178 0, 0, none⟩) 1 1) (by kernel_rfl) (by kernel_rfl) (T := 46) (by_ := 32) (by kernel_rfl) bl ([(⟨x10.id, q138, n138, c138, (x10.l.take 17)⟩ : GngA)]) hO (fun w hw => src_svn Try.underlying36 (sv_row (hw.row 0 rfl) (by rfl)) (by rfl)) (by rfl) (by have hmx : maxLen = 9223372036854775807 := rfl; omega) (by have hmx : maxLen = 9223372036854775807 := rfl; omega) (fun Y198 p198 cap198 hO198 => ?_))
     refine od_ ?_
     refine tk (m := 1) [10] [] [2, 3, 7, 8, 9, 25] [(26, .pointer (some ⟨γ2 0, 0, none⟩))] ([]) #[true, true, true, true, true, true, true, true, true, true, true, false] al0 ?_
     exact wk (hmx14 (Y138, Y198, c138, cap198, n138, p198, q138, γ178) ⟨hO138, hO198⟩) [2, 3, 7, 8, 9, 25, 26] [[_], [_], [_], [_], [_], _, _, _] [0, 1, 2, 3, 4, 6, 5, 7] rfl rfl
    refine any_cutX (V := (List Ob) × (Nat) × (Nat) × (Option Addr) × (Nat → Nat)) (fun ⟨Y138, c138, n138, q138, γ178⟩ => SlO 3 Y138 q138 n138 c138 (x10.l.take 17)) 4 #[true, false, true, true, true, true, true, true, true, false, false, false] (fun ⟨Y138, c138, n138, q138, γ178⟩ => [(2, .pointer (some ⟨γ1 1, 0, none⟩)), (3, .pointer (some ⟨γ2 0, 0, none⟩)), (7, .slice (some ⟨b8, o8, none⟩) m capq), (8, .int .i64 (m : Nat)), (9, .int .i64 (j : Nat)), (16, .pointer (some ⟨γ2 0, 0, none⟩)), (24, .slice (some ⟨γ178 0, 0, none⟩) 1 1)]) (fun ⟨Y138, c138, n138, q138, γ178⟩ => bx (γ178 0) (#[.int .i64 x10.id, .slice q138 n138 c138]) 46 :: bx (γ11 0) (#[.int .i64 x10.id, .slice x10.p x10.n x10.cap]) 46 :: bx (γ2 0) (#[.slice po nu co]) 38 :: bx (γ1 1) (#[.slice none 0 0]) 38 :: bx (γ1 0) (#[.slice (some ⟨b8, o8, none⟩) m capq]) 38 :: (Y138 ++ (Yo ++ (Yi ++ [])))) ?_ (fun hmx12 => ?_)
    ·
     rintro ⟨Y138, c138, n138, q138, γ178⟩ hO138
     refine a1 1 rfl ?_
     refine qo0 1 [(1, .go (owns 2 0 1))] [2, 3, 7, 8, 9, 24] [(17, .slice po nu co)] ?_
     refine od_ ?_
     exact wk (hmx13 (Y138, c138, n138, q138, γ178) hO138) [2, 3, 7, 8, 9, 17, 24] [[_], [_], [_], [_], [_], _, _, _] [0, 1, 2, 3, 4, 5, 6, 7] rfl rfl
    refine any_cutX (V := (List Ob) × (Nat) × (Nat) × (Option Addr)) (fun ⟨Y138, c138, n138, q138⟩ => SlO 3 Y138 q138 n138 c138 (x10.l.take 17)) 4 #[true, true, true, true, true, true, true, true, false, false, false, false] (fun ⟨Y138, c138, n138, q138⟩ => [(2, .pointer (some ⟨γ1 1, 0, none⟩)), (3, .pointer (some ⟨γ2 0, 0, none⟩)), (7, .slice (some ⟨b8, o8, none⟩) m capq), (8, .int .i64 (m : Nat)), (9, .int .i64 (j : Nat)), (17, .slice po nu co), (23, .agg #[.int .i64 x10.id, .slice q138 n138 c138])]) (fun ⟨Y138, c138, n138, q138⟩ => bx (γ11 0) (#[.int .i64 x10.id, .slice x10.p x10.n x10.cap]) 46 :: bx (γ2 0) (#[.slice po nu co]) 38 :: bx (γ1 1) (#[.slice none 0 0]) 38 :: bx (γ1 0) (#[.slice (some ⟨b8, o8, none⟩) m capq]) 38 :: (Y138 ++ (Yo ++ (Yi ++ [])))) ?_ (fun hmx11 => ?_)
    ·
     rintro ⟨Y138, c138, n138, q138⟩ hO138
     refine a1 8 rfl ?_
     refine mo0 1 [] [2, 3, 7, 8, 9, 17] (fun γ178 => [(24, .slice (some ⟨γ178 0, 0, none⟩) 1 1)]) (fun γ178 L => bx (γ178 0) (#[.int .i64 x10.id, .slice q138 n138 c138]) 46 :: L) (fun γ178 => ?_)
     refine od_ ?_
     exact wk (hmx13 (Y138, c138, n138, q138, γ178) hO138) [2, 3, 7, 8, 9, 17, 24] [[_], [_], [_], [_], [_], _, _, _] [0, 1, 2, 3, 4, 5, 6, 7] rfl rfl
    refine any_cutX (V := (List Ob) × (Nat) × (Nat) × (Option Addr)) (fun ⟨Y138, c138, n138, q138⟩ => SlO 3 Y138 q138 n138 c138 (x10.l.take 17)) 5 #[true, false, true, true, true, true, true, true, false, false, false, false] (fun ⟨Y138, c138, n138, q138⟩ => [(2, .pointer (some ⟨γ1 1, 0, none⟩)), (3, .pointer (some ⟨γ2 0, 0, none⟩)), (7, .slice (some ⟨b8, o8, none⟩) m capq), (8, .int .i64 (m : Nat)), (9, .int .i64 (j : Nat)), (16, .pointer (some ⟨γ2 0, 0, none⟩)), (23, .agg #[.int .i64 x10.id, .slice q138 n138 c138])]) (fun ⟨Y138, c138, n138, q138⟩ => bx (γ11 0) (#[.int .i64 x10.id, .slice x10.p x10.n x10.cap]) 46 :: bx (γ2 0) (#[.slice po nu co]) 38 :: bx (γ1 1) (#[.slice none 0 0]) 38 :: bx (γ1 0) (#[.slice (some ⟨b8, o8, none⟩) m capq]) 38 :: (Y138 ++ (Yo ++ (Yi ++ [])))) ?_ (fun hmx10 => ?_)
    ·
     rintro ⟨Y138, c138, n138, q138⟩ hO138
     refine any_fork [1, 8] (by kernel_rfl) (by simp) (each_cons _ rfl ?_ (each_cons _ rfl ?_ (each_nil)))
     ·
      refine qo0 1 [(1, .go (owns 1 0 1))] [2, 3, 7, 8, 9, 23] [(17, .slice po nu co)] ?_
      refine od_ ?_
      exact wk (hmx11 (Y138, c138, n138, q138) hO138) [2, 3, 7, 8, 9, 17, 23] [[_], [_], [_], [_], _, _, _] [0, 1, 2, 3, 4, 5, 6] rfl rfl
     ·
      refine mo0 1 [] [2, 3, 7, 8, 9, 16] (fun γ178 => [(24, .slice (some ⟨γ178 0, 0, none⟩) 1 1)]) (fun γ178 L => bx (γ178 0) (#[.int .i64 x10.id, .slice q138 n138 c138]) 46 :: L) (fun γ178 => ?_)
      refine od_ ?_
      exact wk (hmx12 (Y138, c138, n138, q138, γ178) hO138) [2, 3, 7, 8, 9, 16, 24] [[_], [_], [_], [_], [_], _, _, _] [0, 1, 2, 3, 4, 5, 6, 7] rfl rfl
    refine any_cutX (V := (List Ob) × (Nat) × (Nat) × (Option Addr)) (fun ⟨Y138, c138, n138, q138⟩ => SlO 3 Y138 q138 n138 c138 (x10.l.take 17)) 6 #[true, true, true, false, true, true, true, false, false, false, false, false] (fun ⟨Y138, c138, n138, q138⟩ => [(2, .pointer (some ⟨γ1 1, 0, none⟩)), (3, .pointer (some ⟨γ2 0, 0, none⟩)), (7, .slice (some ⟨b8, o8, none⟩) m capq), (8, .int .i64 (m : Nat)), (9, .int .i64 (j : Nat)), (17, .slice po nu co), (18, .pointer (some ⟨γ11 0, 0, none⟩)), (22, .slice q138 n138 c138)]) (fun ⟨Y138, c138, n138, q138⟩ => bx (γ11 0) (#[.int .i64 x10.id, .slice x10.p x10.n x10.cap]) 46 :: bx (γ2 0) (#[.slice po nu co]) 38 :: bx (γ1 1) (#[.slice none 0 0]) 38 :: bx (γ1 0) (#[.slice (some ⟨b8, o8, none⟩) m capq]) 38 :: (Y138 ++ (Yo ++ (Yi ++ [])))) ?_ (fun hmx9 => ?_)
    ·
     rintro ⟨Y138, c138, n138, q138⟩ hO138
     refine a1 3 rfl ?_
     refine qo0 1 [(3, .go (owns 0 0 1))] [2, 3, 7, 8, 9, 17, 22] [(19, .int .i64 x10.id)] ?_
     refine od_ ?_
     refine tk (m := 4) [7] [] [2, 3, 7, 8, 9, 17] [(23, .agg #[.int .i64 x10.id, .slice q138 n138 c138])] ([]) #[true, true, true, true, true, true, true, true, false, false, false, false] al0 ?_
     exact wk (hmx11 (Y138, c138, n138, q138) hO138) [2, 3, 7, 8, 9, 17, 23] [[_], [_], [_], [_], _, _, _] [0, 1, 2, 3, 4, 5, 6] rfl rfl
    refine any_cutX (V := Unit) (fun _ => True) 6 #[true, true, true, true, true, true, false, false, false, false, false, false] (fun _ => [(2, .pointer (some ⟨γ1 1, 0, none⟩)), (3, .pointer (some ⟨γ2 0, 0, none⟩)), (7, .slice (some ⟨b8, o8, none⟩) m capq), (8, .int .i64 (m : Nat)), (9, .int .i64 (j : Nat)), (17, .slice po nu co), (19, .int .i64 x10.id), (21, .slice x10.p x10.n x10.cap)]) (fun _ => bx (γ11 0) (#[.int .i64 x10.id, .slice x10.p x10.n x10.cap]) 46 :: bx (γ2 0) (#[.slice po nu co]) 38 :: bx (γ1 1) (#[.slice none 0 0]) 38 :: bx (γ1 0) (#[.slice (some ⟨b8, o8, none⟩) m capq]) 38 :: (Yo ++ (Yi ++ []))) ?_ (fun hmx8 => ?_)
    ·
     rintro _ _
     refine a1 6 rfl ?_
     refine cP (fun v L' => ∃ q_ n_ c_ Y_, v = .slice q_ n_ c_ ∧ L' = List.take 4 (bx (γ11 0) (#[.int .i64 x10.id, .slice x10.p x10.n x10.cap]) 46 :: bx (γ2 0) (#[.slice po nu co]) 38 :: bx (γ1 1) (#[.slice none 0 0]) 38 :: bx (γ1 0) (#[.slice (some ⟨b8, o8, none⟩) m capq]) 38 :: (Yo ++ (Yi ++ []))) ++ (Y_ ++ List.drop 4 (bx (γ11 0) (#[.int .i64 x10.id, .slice x10.p x10.n x10.cap]) 46 :: bx (γ2 0) (#[.slice po nu co]) 38 :: bx (γ1 1) (#[.slice none 0 0]) 38 :: bx (γ1 0) (#[.slice (some ⟨b8, o8, none⟩) m capq]) 38 :: (Yo ++ (Yi ++ [])))) ∧ SlO 3 Y_ q_ n_ c_ (x10.l.take 17)) Try.call30 (fun w hw => (ints_t x10.p x10.n x10.cap x10.l w (hsx10.kept hw.below) hnx10 (by omega) (by omega)).mono fun e w' ⟨q_, n_, c_, Y_, he, hO, hb, hY⟩ => ⟨_, _, he, ⟨q_, n_, c_, Y_, rfl, rfl, hO⟩, hw.join hb hY 4⟩) ?_
     rintro v138 L138 ⟨q138, n138, c138, Y138, rfl, rfl, hO138⟩
     refine od_ ?_
     refine tk (m := 4) [7] [] [2, 3, 7, 8, 9, 17] [(23, .agg #[.int .i64 x10.id, .slice q138 n138 c138])] ([]) #[true, true, true, true, true, true, true, true, false, false, false, false] al0 ?_
     exact wk (hmx11 (Y138, c138, n138, q138) hO138) [2, 3, 7, 8, 9, 17, 23] [[_], [_], [_], [_], _, _, _] [0, 1, 2, 3, 4, 5, 6] rfl rfl
    refine any_cutX (V := (List Ob) × (Nat) × (Nat) × (Option Addr)) (fun ⟨Y138, c138, n138, q138⟩ => SlO 3 Y138 q138 n138 c138 (x10.l.take 17)) 7 #[true, false, true, false, true, true, true, false, false, false, false, false] (fun ⟨Y138, c138, n138, q138⟩ => [(2, .pointer (some ⟨γ1 1, 0, none⟩)), (3, .pointer (some ⟨γ2 0, 0, none⟩)), (7, .slice (some ⟨b8, o8, none⟩) m capq), (8, .int .i64 (m : Nat)), (9, .int .i64 (j : Nat)), (16, .pointer (some ⟨γ2 0, 0, none⟩)), (18, .pointer (some ⟨γ11 0, 0, none⟩)), (22, .slice q138 n138 c138)]) (fun ⟨Y138, c138, n138, q138⟩ => bx (γ11 0) (#[.int .i64 x10.id, .slice x10.p x10.n x10.cap]) 46 :: bx (γ2 0) (#[.slice po nu co]) 38 :: bx (γ1 1) (#[.slice none 0 0]) 38 :: bx (γ1 0) (#[.slice (some ⟨b8, o8, none⟩) m capq]) 38 :: (Y138 ++ (Yo ++ (Yi ++ [])))) ?_ (fun hmx7 => ?_)
    ·
     rintro ⟨Y138, c138, n138, q138⟩ hO138
     refine any_fork [1, 3] (by kernel_rfl) (by simp) (each_cons _ rfl ?_ (each_cons _ rfl ?_ (each_nil)))
     ·
      refine qo0 1 [(1, .go (owns 1 0 1))] [2, 3, 7, 8, 9, 18, 22] [(17, .slice po nu co)] ?_
      refine od_ ?_
      exact wk (hmx9 (Y138, c138, n138, q138) hO138) [2, 3, 7, 8, 9, 17, 18, 22] [[_], [_], [_], [_], _, _, _] [0, 1, 2, 3, 4, 5, 6] rfl rfl
     ·
      refine qo0 1 [(3, .go (owns 0 0 1))] [2, 3, 7, 8, 9, 16, 22] [(19, .int .i64 x10.id)] ?_
      refine od_ ?_
      refine tk (m := 5) [7] [] [2, 3, 7, 8, 9, 16] [(23, .agg #[.int .i64 x10.id, .slice q138 n138 c138])] ([]) #[true, false, true, true, true, true, true, true, false, false, false, false] al0 ?_
      exact wk (hmx10 (Y138, c138, n138, q138) hO138) [2, 3, 7, 8, 9, 16, 23] [[_], [_], [_], [_], _, _, _] [0, 1, 2, 3, 4, 5, 6] rfl rfl
    refine any_cutX (V := Unit) (fun _ => True) 7 #[true, false, true, true, true, true, false, false, false, false, false, false] (fun _ => [(2, .pointer (some ⟨γ1 1, 0, none⟩)), (3, .pointer (some ⟨γ2 0, 0, none⟩)), (7, .slice (some ⟨b8, o8, none⟩) m capq), (8, .int .i64 (m : Nat)), (9, .int .i64 (j : Nat)), (16, .pointer (some ⟨γ2 0, 0, none⟩)), (19, .int .i64 x10.id), (21, .slice x10.p x10.n x10.cap)]) (fun _ => bx (γ11 0) (#[.int .i64 x10.id, .slice x10.p x10.n x10.cap]) 46 :: bx (γ2 0) (#[.slice po nu co]) 38 :: bx (γ1 1) (#[.slice none 0 0]) 38 :: bx (γ1 0) (#[.slice (some ⟨b8, o8, none⟩) m capq]) 38 :: (Yo ++ (Yi ++ []))) ?_ (fun hmx6 => ?_)
    ·
     rintro _ _
     refine any_fork [1, 6] (by kernel_rfl) (by simp) (each_cons _ rfl ?_ (each_cons _ rfl ?_ (each_nil)))
     ·
      refine qo0 1 [(1, .go (owns 1 0 1))] [2, 3, 7, 8, 9, 19, 21] [(17, .slice po nu co)] ?_
      refine od_ ?_
      exact wk (hmx8 () trivial) [2, 3, 7, 8, 9, 17, 19, 21] [[_], [_], [_], [_], _, _] [0, 1, 2, 3, 4, 5] rfl rfl
     ·
      refine cP (fun v L' => ∃ q_ n_ c_ Y_, v = .slice q_ n_ c_ ∧ L' = List.take 4 (bx (γ11 0) (#[.int .i64 x10.id, .slice x10.p x10.n x10.cap]) 46 :: bx (γ2 0) (#[.slice po nu co]) 38 :: bx (γ1 1) (#[.slice none 0 0]) 38 :: bx (γ1 0) (#[.slice (some ⟨b8, o8, none⟩) m capq]) 38 :: (Yo ++ (Yi ++ []))) ++ (Y_ ++ List.drop 4 (bx (γ11 0) (#[.int .i64 x10.id, .slice x10.p x10.n x10.cap]) 46 :: bx (γ2 0) (#[.slice po nu co]) 38 :: bx (γ1 1) (#[.slice none 0 0]) 38 :: bx (γ1 0) (#[.slice (some ⟨b8, o8, none⟩) m capq]) 38 :: (Yo ++ (Yi ++ [])))) ∧ SlO 3 Y_ q_ n_ c_ (x10.l.take 17)) Try.call30 (fun w hw => (ints_t x10.p x10.n x10.cap x10.l w (hsx10.kept hw.below) hnx10 (by omega) (by omega)).mono fun e w' ⟨q_, n_, c_, Y_, he, hO, hb, hY⟩ => ⟨_, _, he, ⟨q_, n_, c_, Y_, rfl, rfl, hO⟩, hw.join hb hY 4⟩) ?_
      rintro v138 L138 ⟨q138, n138, c138, Y138, rfl, rfl, hO138⟩
      refine od_ ?_
      refine tk (m := 5) [7] [] [2, 3, 7, 8, 9, 16] [(23, .agg #[.int .i64 x10.id, .slice q138 n138 c138])] ([]) #[true, false, true, true, true, true, true, true, false, false, false, false] al0 ?_
      exact wk (hmx10 (Y138, c138, n138, q138) hO138) [2, 3, 7, 8, 9, 16, 23] [[_], [_], [_], [_], _, _, _] [0, 1, 2, 3, 4, 5, 6] rfl rfl
    refine any_cutX (V := Unit) (fun _ => True) 7 #[true, true, true, false, true, true, false, false, false, false, false, false] (fun _ => [(2, .pointer (some ⟨γ1 1, 0, none⟩)), (3, .pointer (some ⟨γ2 0, 0, none⟩)), (7, .slice (some ⟨b8, o8, none⟩) m capq), (8, .int .i64 (m : Nat)), (9, .int .i64 (j : Nat)), (17, .slice po nu co), (18, .pointer (some ⟨γ11 0, 0, none⟩)), (21, .slice x10.p x10.n x10.cap)]) (fun _ => bx (γ11 0) (#[.int .i64 x10.id, .slice x10.p x10.n x10.cap]) 46 :: bx (γ2 0) (#[.slice po nu co]) 38 :: bx (γ1 1) (#[.slice none 0 0]) 38 :: bx (γ1 0) (#[.slice (some ⟨b8, o8, none⟩) m capq]) 38 :: (Yo ++ (Yi ++ []))) ?_ (fun hmx5 => ?_)
    ·
     rintro _ _
     refine any_fork [3, 6] (by kernel_rfl) (by simp) (each_cons _ rfl ?_ (each_cons _ rfl ?_ (each_nil)))
     ·
      refine qo0 1 [(3, .go (owns 0 0 1))] [2, 3, 7, 8, 9, 17, 21] [(19, .int .i64 x10.id)] ?_
      refine od_ ?_
      exact wk (hmx8 () trivial) [2, 3, 7, 8, 9, 17, 19, 21] [[_], [_], [_], [_], _, _] [0, 1, 2, 3, 4, 5] rfl rfl
     ·
      refine cP (fun v L' => ∃ q_ n_ c_ Y_, v = .slice q_ n_ c_ ∧ L' = List.take 4 (bx (γ11 0) (#[.int .i64 x10.id, .slice x10.p x10.n x10.cap]) 46 :: bx (γ2 0) (#[.slice po nu co]) 38 :: bx (γ1 1) (#[.slice none 0 0]) 38 :: bx (γ1 0) (#[.slice (some ⟨b8, o8, none⟩) m capq]) 38 :: (Yo ++ (Yi ++ []))) ++ (Y_ ++ List.drop 4 (bx (γ11 0) (#[.int .i64 x10.id, .slice x10.p x10.n x10.cap]) 46 :: bx (γ2 0) (#[.slice po nu co]) 38 :: bx (γ1 1) (#[.slice none 0 0]) 38 :: bx (γ1 0) (#[.slice (some ⟨b8, o8, none⟩) m capq]) 38 :: (Yo ++ (Yi ++ [])))) ∧ SlO 3 Y_ q_ n_ c_ (x10.l.take 17)) Try.call30 (fun w hw => (ints_t x10.p x10.n x10.cap x10.l w (hsx10.kept hw.below) hnx10 (by omega) (by omega)).mono fun e w' ⟨q_, n_, c_, Y_, he, hO, hb, hY⟩ => ⟨_, _, he, ⟨q_, n_, c_, Y_, rfl, rfl, hO⟩, hw.join hb hY 4⟩) ?_
      rintro v138 L138 ⟨q138, n138, c138, Y138, rfl, rfl, hO138⟩
      refine od_ ?_
      exact wk (hmx9 (Y138, c138, n138, q138) hO138) [2, 3, 7, 8, 9, 17, 18, 22] [[_], [_], [_], [_], _, _, _] [0, 1, 2, 3, 4, 5, 6] rfl rfl
    refine any_cutX (V := Unit) (fun _ => True) 7 #[true, true, true, true, true, false, false, false, false, false, false, false] (fun _ => [(2, .pointer (some ⟨γ1 1, 0, none⟩)), (3, .pointer (some ⟨γ2 0, 0, none⟩)), (7, .slice (some ⟨b8, o8, none⟩) m capq), (8, .int .i64 (m : Nat)), (9, .int .i64 (j : Nat)), (17, .slice po nu co), (19, .int .i64 x10.id), (20, .pointer (some ⟨γ11 0, 1, none⟩))]) (fun _ => bx (γ11 0) (#[.int .i64 x10.id, .slice x10.p x10.n x10.cap]) 46 :: bx (γ2 0) (#[.slice po nu co]) 38 :: bx (γ1 1) (#[.slice none 0 0]) 38 :: bx (γ1 0) (#[.slice (some ⟨b8, o8, none⟩) m capq]) 38 :: (Yo ++ (Yi ++ []))) ?_ (fun hmx4 => ?_)
    ·
     rintro _ _
     refine a1 5 rfl ?_
     refine qo0 1 [(5, .go (owns 0 1 1))] [2, 3, 7, 8, 9, 17, 19] [(21, .slice x10.p x10.n x10.cap)] ?_
     refine od_ ?_
     exact wk (hmx8 () trivial) [2, 3, 7, 8, 9, 17, 19, 21] [[_], [_], [_], [_], _, _] [0, 1, 2, 3, 4, 5] rfl rfl
    refine any_cutX (V := Unit) (fun _ => True) 8 #[true, false, true, false, true, true, false, false, false, false, false, false] (fun _ => [(2, .pointer (some ⟨γ1 1, 0, none⟩)), (3, .pointer (some ⟨γ2 0, 0, none⟩)), (7, .slice (some ⟨b8, o8, none⟩) m capq), (8, .int .i64 (m : Nat)), (9, .int .i64 (j : Nat)), (16, .pointer (some ⟨γ2 0, 0, none⟩)), (18, .pointer (some ⟨γ11 0, 0, none⟩)), (21, .slice x10.p x10.n x10.cap)]) (fun _ => bx (γ11 0) (#[.int .i64 x10.id, .slice x10.p x10.n x10.cap]) 46 :: bx (γ2 0) (#[.slice po nu co]) 38 :: bx (γ1 1) (#[.slice none 0 0]) 38 :: bx (γ1 0) (#[.slice (some ⟨b8, o8, none⟩) m capq]) 38 :: (Yo ++ (Yi ++ []))) ?_ (fun hmx3 => ?_)
    ·
     rintro _ _
     refine any_fork [1, 3, 6] (by kernel_rfl) (by simp) (each_cons _ rfl ?_ (each_cons _ rfl ?_ (each_cons _ rfl ?_ (each_nil))))
     ·
      refine qo0 1 [(1, .go (owns 1 0 1))] [2, 3, 7, 8, 9, 18, 21] [(17, .slice po nu co)] ?_
      refine od_ ?_
      exact wk (hmx5 () trivial) [2, 3, 7, 8, 9, 17, 18, 21] [[_], [_], [_], [_], _, _] [0, 1, 2, 3, 4, 5] rfl rfl
     ·
      refine qo0 1 [(3, .go (owns 0 0 1))] [2, 3, 7, 8, 9, 16, 21] [(19, .int .i64 x10.id)] ?_
      refine od_ ?_
      exact wk (hmx6 () trivial) [2, 3, 7, 8, 9, 16, 19, 21] [[_], [_], [_], [_], _, _] [0, 1, 2, 3, 4, 5] rfl rfl
     ·
      refine cP (fun v L' => ∃ q_ n_ c_ Y_, v = .slice q_ n_ c_ ∧ L' = List.take 4 (bx (γ11 0) (#[.int .i64 x10.id, .slice x10.p x10.n x10.cap]) 46 :: bx (γ2 0) (#[.slice po nu co]) 38 :: bx (γ1 1) (#[.slice none 0 0]) 38 :: bx (γ1 0) (#[.slice (some ⟨b8, o8, none⟩) m capq]) 38 :: (Yo ++ (Yi ++ []))) ++ (Y_ ++ List.drop 4 (bx (γ11 0) (#[.int .i64 x10.id, .slice x10.p x10.n x10.cap]) 46 :: bx (γ2 0) (#[.slice po nu co]) 38 :: bx (γ1 1) (#[.slice none 0 0]) 38 :: bx (γ1 0) (#[.slice (some ⟨b8, o8, none⟩) m capq]) 38 :: (Yo ++ (Yi ++ [])))) ∧ SlO 3 Y_ q_ n_ c_ (x10.l.take 17)) Try.call30 (fun w hw => (ints_t x10.p x10.n x10.cap x10.l w (hsx10.kept hw.below) hnx10 (by omega) (by omega)).mono fun e w' ⟨q_, n_, c_, Y_, he, hO, hb, hY⟩ => ⟨_, _, he, ⟨q_, n_, c_, Y_, rfl, rfl, hO⟩, hw.join hb hY 4⟩) ?_
      rintro v138 L138 ⟨q138, n138, c138, Y138, rfl, rfl, hO138⟩
      refine od_ ?_
      exact wk (hmx7 (Y138, c138, n138, q138) hO138) [2, 3, 7, 8, 9, 16, 18, 22] [[_], [_], [_], [_], _, _, _] [0, 1, 2, 3, 4, 5, 6] rfl rfl
    refine any_cutX (V := Unit) (fun _ => True) 8 #[true, false, true, true, true, false, false, false, false, false, false, false] (fun _ => [(2, .pointer (some ⟨γ1 1, 0, none⟩)), (3, .pointer (some ⟨γ2 0, 0, none⟩)), (7, .slice (some ⟨b8, o8, none⟩) m capq), (8, .int .i64 (m : Nat)), (9, .int .i64 (j : Nat)), (16, .pointer (some ⟨γ2 0, 0, none⟩)), (19, .int .i64 x10.id), (20, .pointer (some ⟨γ11 0, 1, none⟩))]) (fun _ => bx (γ11 0) (#[.int .i64 x10.id, .slice x10.p x10.n x10.cap]) 46 :: bx (γ2 0) (#[.slice po nu co]) 38 :: bx (γ1 1) (#[.slice none 0 0]) 38 :: bx (γ1 0) (#[.slice (some ⟨b8, o8, none⟩) m capq]) 38 :: (Yo ++ (Yi ++ []))) ?_ (fun hmx2 => ?_)
    ·
     rintro _ _
     refine any_fork [1, 5] (by kernel_rfl) (by simp) (each_cons _ rfl ?_ (each_cons _ rfl ?_ (each_nil)))
     ·
      refine qo0 1 [(1, .go (owns 1 0 1))] [2, 3, 7, 8, 9, 19, 20] [(17, .slice po nu co)] ?_
      refine od_ ?_
      exact wk (hmx4 () trivial) [2, 3, 7, 8, 9, 17, 19, 20] [[_], [_], [_], [_], _, _] [0, 1, 2, 3, 4, 5] rfl rfl
     ·
      refine qo0 1 [(5, .go (owns 0 1 1))] [2, 3, 7, 8, 9, 16, 19] [(21, .slice x10.p x10.n x10.cap)] ?_
      refine od_ ?_
      exact wk (hmx6 () trivial) [2, 3, 7, 8, 9, 16, 19, 21] [[_], [_], [_], [_], _, _] [0, 1, 2, 3, 4, 5] rfl rfl
    refine any_cutX (V := Unit) (fun _ => True) 8 #[true, true, true, false, true, false, false, false, false, false, false, false] (fun _ => [(2, .pointer (some ⟨γ1 1, 0, none⟩)), (3, .pointer (some ⟨γ2 0, 0, none⟩)), (7, .slice (some ⟨b8, o8, none⟩) m capq), (8, .int .i64 (m : Nat)), (9, .int .i64 (j : Nat)), (17, .slice po nu co), (18, .pointer (some ⟨γ11 0, 0, none⟩)), (20, .pointer (some ⟨γ11 0, 1, none⟩))]) (fun _ => bx (γ11 0) (#[.int .i64 x10.id, .slice x10.p x10.n x10.cap]) 46 :: bx (γ2 0) (#[.slice po nu co]) 38 :: bx (γ1 1) (#[.slice none 0 0]) 38 :: bx (γ1 0) (#[.slice (some ⟨b8, o8, none⟩) m capq]) 38 :: (Yo ++ (Yi ++ []))) ?_ (fun hmx1 => ?_)
    ·
     rintro _ _
     refine any_fork [3, 5] (by kernel_rfl) (by simp) (each_cons _ rfl ?_ (each_cons _ rfl ?_ (each_nil)))
     ·
      refine qo0 1 [(3, .go (owns 0 0 1))] [2, 3, 7, 8, 9, 17, 20] [(19, .int .i64 x10.id)] ?_
      refine od_ ?_
      exact wk (hmx4 () trivial) [2, 3, 7, 8, 9, 17, 19, 20] [[_], [_], [_], [_], _, _] [0, 1, 2, 3, 4, 5] rfl rfl
     ·
      refine qo0 1 [(5, .go (owns 0 1 1))] [2, 3, 7, 8, 9, 17, 18] [(21, .slice x10.p x10.n x10.cap)] ?_
      refine od_ ?_
      exact wk (hmx5 () trivial) [2, 3, 7, 8, 9, 17, 18, 21] [[_], [_], [_], [_], _, _] [0, 1, 2, 3, 4, 5] rfl rfl
    refine any_fork [1, 3, 5] (by kernel_rfl) (by simp) (each_cons _ rfl ?_ (each_cons _ rfl ?_ (each_cons _ rfl ?_ (each_nil))))
    ·
     refine qo0 1 [(1, .go (owns 1 0 1))] [2, 3, 7, 8, 9, 18, 20] [(17, .slice po nu co)] ?_
     refine od_ ?_
     exact wk (hmx1 () trivial) [2, 3, 7, 8, 9, 17, 18, 20] [[_], [_], [_], [_], _, _] [0, 1, 2, 3, 4, 5] rfl rfl
    ·
     refine qo0 1 [(3, .go (owns 0 0 1))] [2, 3, 7, 8, 9, 16, 20] [(19, .int .i64 x10.id)] ?_
     refine od_ ?_
     exact wk (hmx2 () trivial) [2, 3, 7, 8, 9, 16, 19, 20] [[_], [_], [_], [_], _, _] [0, 1, 2, 3, 4, 5] rfl rfl
    ·
     refine qo0 1 [(5, .go (owns 0 1 1))] [2, 3, 7, 8, 9, 16, 18] [(21, .slice x10.p x10.n x10.cap)] ?_
     refine od_ ?_
     exact wk (hmx3 () trivial) [2, 3, 7, 8, 9, 16, 18, 21] [[_], [_], [_], [_], _, _] [0, 1, 2, 3, 4, 5] rfl rfl
   rintro ⟨Y138, Y198, c138, cap198, n138, p198, q138, γ178⟩ ⟨hO138, hO198⟩
   refine any_nil (by kernel_rfl) ?_
   refine done_block (ds_ (qa [(0, .fit)] [2, 3, 7, 8] [(9, .int .i64 (j + 1 : Nat))] ([Fit .i64 ((j + 1 : Nat))]) (al1 (fit64 (by omega) (by omega))) (Done.pick [[bx (γ178 0) (#[.int .i64 x10.id, .slice q138 n138 c138]) 46], [bx (γ11 0) (#[.int .i64 x10.id, .slice x10.p x10.n x10.cap]) 46], [bx (γ2 0) (#[.slice p198 (nu + 1) cap198]) 38], [bx (γ1 1) (#[.slice none 0 0]) 38], [bx (γ1 0) (#[.slice (some ⟨b8, o8, none⟩) m capq]) 38], Y138, Y198, Yi] [2, 3, 4, 6, 7, 5] [0, 1] (bx (γ2 0) (#[.slice p198 (nu + 1) cap198]) 38 :: bx (γ1 1) (#[.slice none 0 0]) 38 :: bx (γ1 0) (#[.slice (some ⟨b8, o8, none⟩) m capq]) 38 :: (Y198 ++ (Yi ++ (Y138 ++ [])))) (by kernel_rfl) rfl rfl (Done.as (L' := bx (γ2 0) (#[.slice p198 (nu + 1) cap198]) 38 :: bx (γ1 1) (#[.slice none 0 0]) 38 :: bx (γ1 0) (#[.slice (some ⟨b8, o8, none⟩) m capq]) 38 :: (Y198 ++ ((Yi ++ Y138) ++ []))) (by simp only [List.append_assoc]) ?_))))
   exact dr [2, 3, 7, 8, 9] (j + 1, Y198, p198, (nu + 1), cap198, (bl ++ [(⟨x10.id, q138, n138, c138, (x10.l.take 17)⟩ : GngA)]), Yi ++ Y138) ⟨by omega, by omega, hO198, GotG.snoc hG hO138, short_add hB hx10 (by omega) rfl⟩
  ·
   refine qa [(1, .no)] [2, 3, 5, 7, 8, 9] [(15, .bool false)] ([¬ (((j : Nat) : Int) ≤ (8 : Int))]) (al1 q13) (ds_ (f_ (at_skip (done_block (ds_ (qa [(0, .fit)] [2, 3, 7, 8] [(9, .int .i64 (j + 1 : Nat))] ([Fit .i64 ((j + 1 : Nat))]) (al1 (fit64 (by omega) (by omega))) (Done.pick [[bx (γ11 0) (#[.int .i64 x10.id, .slice x10.p x10.n x10.cap]) 46], [bx (γ2 0) (#[.slice po nu co]) 38], [bx (γ1 1) (#[.slice none 0 0]) 38], [bx (γ1 0) (#[.slice (some ⟨b8, o8, none⟩) m capq]) 38], Yo, Yi] [1, 2, 3, 4, 5] [0] (bx (γ2 0) (#[.slice po nu co]) 38 :: bx (γ1 1) (#[.slice none 0 0]) 38 :: bx (γ1 0) (#[.slice (some ⟨b8, o8, none⟩) m capq]) 38 :: (Yo ++ (Yi ++ []))) (by kernel_rfl) rfl rfl ?_)))))))
   exact dr [2, 3, 7, 8, 9] (j + 1, Yo, po, nu, co, bl, Yi) ⟨by omega, by omega, hO, hG, short_out hB (by omega)⟩
 ·
  refine qa [(0, .no)] [2, 3, 7, 8, 9] [(10, .bool false)] ([¬ (((j : Nat) : Int) < ((m : Nat) : Int))]) (al1 q5) (ds_ (sq_ (f_ (at_leave _ rfl (ds_ (sq_ (ma0 [(0, .go (owns 0 0 1)), (1, .go (owns 1 0 1))] [2] (fun _ => []) (fun _ L => (L.set 1 (bx (γ1 1) (#[.slice po nu co]) 38))) (fun _ => ds_ (rt (owns 1 0 1) (.agg #[.slice po nu co]) ?_)))))))))
  rw [short_all (by omega)] at hB
  exact fun w' hw => ⟨_, _, _, _, _, _, rfl, hO, hG, hB, hw.below, two_tails14 (Hs.pick [[bx (γ2 0) (#[.slice po nu co]) 38], [bx (γ1 1) (#[.slice po nu co]) 38], [bx (γ1 0) (#[.slice q m capq]) 38], Yo, Yi] [3, 4] [0, 1, 2] (by kernel_rfl) hw)⟩
end Go.Proofs.Ytahccegfahghfaa

/-! Gangs: Rows, Copy. -/
namespace Go.Proofs.Ytahccegfahghfaa
open Go Go.RowKit
end Go.Proofs.Ytahccegfahghfaa

/-! The layer does something. -/
namespace Go.Proofs.Ytahccegfahghfaa
open Go Go.RowKit
theorem bool_eqRun (op : BinOp) (hop : op = .eql ∨ op = .neq) (x y : Operand) (a b r : Bool) (hr : r = (if op = .eql then a == b else !(a == b))) : EqRun Try.prog op 4 x y (.bool a) (.bool b) r := by
 intro w
 subst hr
 have hg : Try.prog.eqGuardType Try.prog.depth 4 = false := by kernel_rfl
 have key : (Op.equal 4 (.bool a) (.bool b)).run Try.prog w = .ok (a == b) w := by
  unfold Op.equal
  rw [show Op.maxDepth = 9999 + 1 from rfl]
  exact run_equalIn_bool' w 9999 4 a b Try.underlying4
 have guard : (eqGuard op 4 x y (.bool a) (.bool b)).run Try.prog w = .ok () w := by
  unfold eqGuard
  rcases hop with rfl | rfl <;> simp [hg]
 rw [Sem.run_bind, guard]
 simp only [Result.andThen_ok]
 rcases hop with rfl | rfl <;> simp [binOp, Sem.run_bind, key]
theorem bool_same {x y : Operand} (a : Bool) : EqRun Try.prog .neq 4 x y (.bool a) (.bool a) false := bool_eqRun _ (.inr rfl) x y a a _ (by simp)
theorem hs_re {w0 w : World} {A Y Z B : List Ob} (h : Hs w0 (A ++ ((Y ++ Z) ++ B)) w) : Hs w0 (A ++ (Y ++ (Z ++ B))) w := by rwa [← List.append_assoc Y Z B]

set_option maxRecDepth 100000 in
theorem wakes_t  (w : World)
 : Calls Try.prog 9 #[] w fun e w' => e = .returned (.bool true) ∧ Below w.heap.size w w' := by
 refine enter (Hs.start w) Try.func9 rfl Try.ntmps9 rfl (sq_ (qa0 [] [] [] (ds_ (sq_ (ao_ (mo0 2 [] [] (fun γ2 => [(10, .agg #[.slice none 0 0]), (11, .slice (some ⟨γ2 0, 0, none⟩) 2 2)]) (fun γ2 L => bx (γ2 0) (#[.int .i64 1, .int .i64 3]) 3 :: L) (fun γ2 => cP (fun v L' => ∃ q_ n_ c_ Y_ Z_ bl_, v = .tuple #[.agg #[.slice q_ n_ c_], .int .i64 1, .int .i64 0] ∧ L' = List.take 1 ([bx (γ2 0) (#[.int .i64 1, .int .i64 3]) 3]) ++ (Y_ ++ (Z_ ++ List.drop 1 ([bx (γ2 0) (#[.int .i64 1, .int .i64 3]) 3]))) ∧ SlO 46 Y_ q_ n_ c_ bl_ ∧ GotG 3 Z_ bl_ ∧ bl_.map GngA.val = [(1, [1, 3])]) Try.call29 (fun w hw => (form_t none 0 0 [] (some ⟨γ2 0, 0, none⟩) 2 2 [1, 3] w Sv.nil rfl (by decide) (fun x hx => nomatch hx) (fun x hx => nomatch hx) (sv_row (hw.row 0 rfl) rfl) rfl (by decide)).mono fun e w' ⟨er, q_, n_, c_, Y_, Z_, bl_, idn, he, hv, hO, hG, hb, hY⟩ => by have hq := hv.trans (show _ = ([(1, [1, 3])], (1 : Int), (0 : Int)) from by kernel_rfl); simp only [Prod.mk.injEq] at hq; obtain ⟨hq1, rfl, rfl⟩ := hq; exact ⟨_, _, he, ⟨q_, n_, c_, Y_, Z_, bl_, rfl, rfl, hO, hG, hq1⟩, hs_re (hw.join hb hY 1)⟩) ?_)))))))
 rintro v3 L3 ⟨q3, n3, c3, Y3, Yz3, bl3, rfl, rfl, hO3, hG3, hV3⟩
 have hbl3 : bl3.length = 1 := by have := congrArg List.length hV3; simpa using this
 refine mo0 8 [(8, .go (owns 0 0 1))] [] (fun γ4 => [(1, .pointer (some ⟨γ4 0, 0, none⟩)), (2, .int .i64 1), (3, .int .i64 0)]) (fun γ4 L => bx (γ4 0) (#[.slice q3 n3 c3]) 38 :: L) (fun γ4 => on_ (ds_ (sq_ (ao_ (mo0 2 [(0, .go (owns 0 0 1))] [2, 3] (fun γ5 => [(17, .agg #[.slice q3 n3 c3]), (18, .slice (some ⟨γ5 0, 0, none⟩) 2 2)]) (fun γ5 L => bx (γ5 0) (#[.int .i64 3, .int .i64 4]) 3 :: L) (fun γ5 => cP (fun v L' => ∃ q_ n_ c_ Y_ Z_ bl_, v = .tuple #[.agg #[.slice q_ n_ c_], .int .i64 0, .int .i64 5] ∧ L' = List.take 3 (bx (γ5 0) (#[.int .i64 3, .int .i64 4]) 3 :: bx (γ4 0) (#[.slice q3 n3 c3]) 38 :: bx (γ2 0) (#[.int .i64 1, .int .i64 3]) 3 :: (Y3 ++ (Yz3 ++ []))) ++ (Y_ ++ (Z_ ++ List.drop 3 (bx (γ5 0) (#[.int .i64 3, .int .i64 4]) 3 :: bx (γ4 0) (#[.slice q3 n3 c3]) 38 :: bx (γ2 0) (#[.int .i64 1, .int .i64 3]) 3 :: (Y3 ++ (Yz3 ++ []))))) ∧ SlO 46 Y_ q_ n_ c_ bl_ ∧ GotG 3 Z_ bl_ ∧ bl_.map GngA.val = []) Try.call29 (fun w hw => (form_t q3 n3 c3 bl3 (some ⟨γ5 0, 0, none⟩) 2 2 [3, 4] w (SlO.sub hO3 hw (List.Sublist.cons _ (List.Sublist.cons _ (List.Sublist.cons _ (List.sublist_append_left Y3 _))))) hO3.len (by have := hO3.len; omega) (GotG.reads hG3 hw (List.Sublist.cons _ (List.Sublist.cons _ (List.Sublist.cons _ (List.Sublist.trans (List.sublist_append_left Yz3 _) (List.sublist_append_right Y3 _)))))) (got_small hG3 (by rw [hV3]; kernel_rfl)) (sv_row (hw.row 0 rfl) rfl) rfl (by decide)).mono fun e w' ⟨er, q_, n_, c_, Y_, Z_, bl_, idn, he, hv, hO, hG, hb, hY⟩ => by have hq := hv.trans (show _ = ([], (0 : Int), (5 : Int)) from by rw [hV3]; kernel_rfl); simp only [Prod.mk.injEq] at hq; obtain ⟨hq1, rfl, rfl⟩ := hq; exact ⟨_, _, he, ⟨q_, n_, c_, Y_, Z_, bl_, rfl, rfl, hO, hG, hq1⟩, hs_re (hw.join hb hY 3)⟩) ?_))))))
 rintro v6 L6 ⟨q6, n6, c6, Y6, Yz6, bl6, rfl, rfl, hO6, hG6, hV6⟩
 have hbl6 : bl6.length = 0 := by have := congrArg List.length hV6; simpa using this
 refine mo0 8 [(8, .go (owns 0 0 1))] [2, 3] (fun γ7 => [(6, .int .i64 5)]) (fun γ7 L => bx (γ7 0) (#[.slice q6 n6 c6]) 38 :: L) (fun γ7 => on_ (ds_ (sq_ (ao_ (mo0 3 [] [2, 3, 6] (fun γ8 => [(26, .slice (some ⟨γ8 2, 0, none⟩) 2 2)]) (fun γ8 L => bx (γ8 2) (#[.slice (some ⟨γ8 0, 0, none⟩) 2 2, .slice (some ⟨γ8 1, 0, none⟩) 1 1]) 25 :: bx (γ8 1) (#[.int .i64 0]) 3 :: bx (γ8 0) (#[.int .i64 0, .int .i64 1]) 3 :: L) (fun γ8 => cP (fun v L' => ∃ q_ c_ Y_, v = .tuple #[.slice q_ 2 c_, .bool true] ∧ L' = List.take 7 (bx (γ8 2) (#[.slice (some ⟨γ8 0, 0, none⟩) 2 2, .slice (some ⟨γ8 1, 0, none⟩) 1 1]) 25 :: bx (γ8 1) (#[.int .i64 0]) 3 :: bx (γ8 0) (#[.int .i64 0, .int .i64 1]) 3 :: bx (γ7 0) (#[.slice q6 n6 c6]) 38 :: bx (γ5 0) (#[.int .i64 3, .int .i64 4]) 3 :: bx (γ4 0) (#[.slice q3 n3 c3]) 38 :: bx (γ2 0) (#[.int .i64 1, .int .i64 3]) 3 :: (Y6 ++ (Yz6 ++ (Y3 ++ (Yz3 ++ []))))) ++ (Y_ ++ List.drop 7 (bx (γ8 2) (#[.slice (some ⟨γ8 0, 0, none⟩) 2 2, .slice (some ⟨γ8 1, 0, none⟩) 1 1]) 25 :: bx (γ8 1) (#[.int .i64 0]) 3 :: bx (γ8 0) (#[.int .i64 0, .int .i64 1]) 3 :: bx (γ7 0) (#[.slice q6 n6 c6]) 38 :: bx (γ5 0) (#[.int .i64 3, .int .i64 4]) 3 :: bx (γ4 0) (#[.slice q3 n3 c3]) 38 :: bx (γ2 0) (#[.int .i64 1, .int .i64 3]) 3 :: (Y6 ++ (Yz6 ++ (Y3 ++ (Yz3 ++ [])))))) ∧ SlO 3 Y_ q_ 2 c_ ([1, 0] : List Int)) Try.call10 (fun w hw => (match_t (some ⟨γ8 2, 0, none⟩) 2 2 ([(⟨(some ⟨γ8 0, 0, none⟩), 2, 2, [0, 1]⟩ : IntsA), (⟨(some ⟨γ8 1, 0, none⟩), 1, 1, [0]⟩ : IntsA)]) w (sv_row (hw.row 0 rfl) rfl) rfl (by decide) (fun x hx => by simp only [List.mem_cons, List.not_mem_nil, or_false] at hx; rcases hx with rfl | rfl; exact ⟨sv_row (hw.row 2 rfl) rfl, rfl, Nat.le_refl _, (by simp)⟩; exact ⟨sv_row (hw.row 1 rfl) rfl, rfl, Nat.le_refl _, (by simp)⟩) (fun x hx => by simp only [List.mem_cons, List.not_mem_nil, or_false] at hx; rcases hx with rfl | rfl <;> simp)).mono fun e w' ⟨q_, n_, c_, Y_, he, hO, hb, hY⟩ => by rw [show matchA _ = (([1, 0] : List Int), true) from (by kernel_rfl)] at he hO; obtain rfl : n_ = 2 := hO.len; exact ⟨_, _, he, ⟨q_, c_, Y_, rfl, rfl, hO⟩, hw.join hb hY 7⟩) ?_))))))
 rintro v9 L9 ⟨q9, c9, Y9, rfl, rfl, hO9⟩
 refine qo0 5 [] [2, 3, 6] [(7, .slice q9 2 c9), (8, .bool true)] (on_ (ds_ (sq_ ?_)))
 have hln12 := hO9.len
 obtain ⟨g12, cs12, rfl, rfl, hOw12⟩ := hO9.rowOf (i := 0) (by omega)
 refine qa [(20, .at g12 0 0), (21, .go (ownps 7 (0 + 0 * 1) [.int .i64 1])), (26, .at g12 0 1), (27, .go (ownps 7 (0 + 1 * 1) [.int .i64 0]))] [] [(0, .bool true)] ([(some ⟨g12, 0, none⟩ : Option Addr) = some ⟨g12, 0, none⟩, 0 = ((0 : Nat) : Int), 0 < 2] ++ (acellsP cs12 (0 + 0 * 1) [.int .i64 1] ++ ([(some ⟨g12, 0, none⟩ : Option Addr) = some ⟨g12, 0, none⟩, 1 = ((1 : Nat) : Int), 1 < 2] ++ (acellsP cs12 (0 + 1 * 1) [.int .i64 0])))) (alA (al2 rfl (al2 rfl (al1 (by omega)))) (alA (rda_pre (hOw12.rdx hO9.len rfl) _ rfl) (alA (al2 rfl (al2 rfl (al1 (by omega)))) (rda_pre (hOw12.rdx hO9.len rfl) _ rfl)))) (ds_ (rt ([]) (.bool true) ?_))
 exact fun w' hw => ⟨rfl, hw.below⟩
end Go.Proofs.Ytahccegfahghfaa

/-! Gangs that may be stay so; there and back; plain. -/
namespace Go.Proofs.Ytahccegfahghfaa
open Go Go.RowKit
section
variable {gs t hs : Gs} {k n : Int} {i j : Nat} {l : List Int} {g : Int × List Int} {bl : List GngA} {er idn : Int}
theorem ids_of : ∀ {l : List Int} {a : Int}, l.Pairwise (· < ·) → (∀ x ∈ l, a < x ∧ x ≤ 8) → idsB a l = true
  | [], _, _, _ => rfl
  | b :: l, a, h, hb => by
    obtain ⟨h1, h2⟩ := List.pairwise_cons.1 h
    simp only [idsB, Bool.and_eq_true, decide_eq_true_eq]
    exact ⟨hb b (List.mem_cons_self ..), ids_of h2 fun x hx => ⟨h1 x hx, (hb x (List.mem_cons_of_mem _ hx)).2⟩⟩
theorem up_of : ∀ {l : List Int} {a : Int}, l.Pairwise (· < ·) → (∀ x ∈ l, a < x ∧ x ≤ 16) → upB a l = true
  | [], _, _, _ => rfl
  | b :: l, a, h, hb => by
    obtain ⟨h1, h2⟩ := List.pairwise_cons.1 h
    simp only [upB, Bool.and_eq_true, decide_eq_true_eq]
    exact ⟨hb b (List.mem_cons_self ..), up_of h2 fun x hx => ⟨h1 x hx, (hb x (List.mem_cons_of_mem _ hx)).2⟩⟩
theorem gang_iff14 : gangB gs = true ↔ (gs.map (·.1)).Pairwise (· < ·) ∧ (∀ x ∈ gs.map (·.1), 0 < x ∧ x ≤ 8) ∧ (∀ g ∈ gs, mayB g.2 = true) ∧ (memL gs).Nodup := by
  constructor
  · intro h
    have h1 := gang_pre h gs.length
    rw [List.take_of_length_le (Nat.le_refl _)] at h1
    have h2 := ids_spec h1.1
    exact ⟨h2.1, h2.2, h1.2.1, h1.2.2⟩
  · rintro ⟨h1, h2, h3, h4⟩
    rw [gangB, ids_of h1 h2, List.all_eq_true.2 h3, decide_eq_true h4]; rfl
theorem less_may (h : mayB l = true) (h2 : ¬ (lessL l k).length < 2) : mayB (lessL l k) = true := by
  have h3 := may_len h
  simp only [mayB, Bool.and_eq_true, decide_eq_true_eq] at h ⊢
  have hs : List.Sublist (lessL l k) l := List.filter_sublist
  have h4 := up_spec h.1
  exact ⟨up_of (h4.1.sublist hs) fun x hx => h4.2 x (hs.subset hx), by omega, Nat.le_trans hs.length_le h3.2⟩
theorem cut_facts : ∀ {gs : Gs}, (∀ g ∈ gs, mayB g.2 = true) → List.Sublist ((cutV k gs).map (·.1)) (gs.map (·.1)) ∧ List.Sublist (memL (cutV k gs)) (memL gs) ∧ ∀ g ∈ cutV k gs, mayB g.2 = true
  | [], _ => ⟨List.Sublist.refl _, List.Sublist.refl _, fun g h => nomatch h⟩
  | a :: t, h => by
    rw [cutV]
    have ht : ∀ g ∈ t, mayB g.2 = true := fun g hg => h g (List.mem_cons_of_mem _ hg)
    have hm : ∀ (b : Int × List Int) (s : Gs), memL (b :: s) = b.2 ++ memL s := fun b s => List.flatMap_cons
    split
    · split
      · exact ⟨List.sublist_cons_self _ _, by rw [hm]; exact List.sublist_append_right _ _, ht⟩
      · rename_i h2
        refine ⟨List.Sublist.refl _, ?_, fun g hg => ?_⟩
        · rw [hm, hm]; exact List.filter_sublist.append (List.Sublist.refl _)
        · rcases List.mem_cons.1 hg with rfl | e
          · exact less_may (h a (List.mem_cons_self ..)) h2
          · exact ht g e
    · obtain ⟨h1, h2, h3⟩ := cut_facts ht
      refine ⟨h1.cons_cons _, ?_, fun g hg => ?_⟩
      · rw [hm, hm]; exact (List.Sublist.refl _).append h2
      · rcases List.mem_cons.1 hg with rfl | e
        · exact h g (List.mem_cons_self ..)
        · exact h3 g e
theorem cut_gang (hg : gangB gs = true) : gangB (cutV k gs) = true := by
  rw [gang_iff14] at hg ⊢
  obtain ⟨h1, h2, h3, h4⟩ := hg
  obtain ⟨c1, c2, c3⟩ := cut_facts (k := k) h3
  exact ⟨h1.sublist c1, fun x hx => h2 x (c1.subset hx), c3, h4.sublist c2⟩
theorem leave_gang (hg : gangB gs = true) : gangB (leaveC gs k).1 = true := by
  unfold leaveC
  split
  · exact cut_gang hg
  · exact hg
theorem in_iff14 : inV gs k = true ↔ k ∈ memL gs := by
  unfold inV
  rw [List.any_eq_true, mem_memL]
  exact ⟨fun ⟨g, hg, h⟩ => ⟨g, hg, of_decide_eq_true h⟩, fun ⟨g, hg, h⟩ => ⟨g, hg, decide_eq_true h⟩⟩
theorem memL_app : memL (gs ++ t) = memL gs ++ memL t := List.flatMap_append
theorem as_gng (gs : Gs) : ∃ al : List GngA, al.map GngA.val = gs := ⟨gs.map fun g => ⟨g.1, none, 0, 0, g.2⟩, by rw [List.map_map]; exact List.map_id' gs⟩
theorem gap_lt (hg : gangB gs = true) (hi : i < gapV 0 gs) (hx : gs[i]? = some g) : g.1 = (i : Int) + 1 := by
  obtain ⟨g2, h1, h2⟩ := (gap_spec (gs := gs) (a := 0)).2.2.1 i (by omega)
  rw [hx] at h1; cases h1
  rw [Nat.zero_add] at h2; exact h2
theorem gap_gt (hg : gangB gs = true) (hi : gapV 0 gs ≤ i) (hx : gs[i]? = some g) : ((gapV 0 gs : Nat) : Int) + 1 < g.1 := by
  obtain ⟨al, rfl⟩ := as_gng gs
  rw [List.getElem?_map] at hx
  cases h : al[i]? with
  | none => rw [h] at hx; cases hx
  | some x =>
    rw [h] at hx
    simp only [Option.map_some, Option.some.injEq] at hx
    subst hx
    exact gapA_gt hg hi h
theorem take_ix {α : Type} {l : List α} {x : α} (h : x ∈ l.take j) : ∃ i, i < j ∧ l[i]? = some x := by
  obtain ⟨i, hi⟩ := List.mem_iff_getElem?.1 h
  rw [List.getElem?_take] at hi
  split at hi
  · exact ⟨i, by assumption, hi⟩
  · cases hi
theorem drop_ix {α : Type} {l : List α} {x : α} (h : x ∈ l.drop j) : ∃ i, j ≤ i ∧ l[i]? = some x := by
  obtain ⟨i, hi⟩ := List.mem_iff_getElem?.1 h
  rw [List.getElem?_drop] at hi
  exact ⟨j + i, by omega, hi⟩
theorem gap_le8 (hg : gangB gs = true) : gapV 0 gs ≤ 8 := by
  obtain ⟨al, rfl⟩ := as_gng gs
  have := gang_len8 hg
  have h2 : gapV 0 (al.map GngA.val) ≤ al.length := gapA_le
  omega
abbrev formL (gs : Gs) (l : List Int) : Gs := gs.take (gapV 0 gs) ++ [(((gapV 0 gs : Nat) : Int) + 1, l)] ++ gs.drop (gapV 0 gs)
theorem forml_gang (hg : gangB gs = true) (hm : mayB l = true) (ha : l.any (inV gs) = false) (h8 : ¬ gapV 0 gs = 8) : gangB (formL gs l) = true := by
  have hg0 := hg
  have h8b := gap_le8 hg
  rw [gang_iff14] at hg ⊢
  obtain ⟨h1, h2, h3, h4⟩ := hg
  have e1 : (formL gs l).map (·.1) = (gs.take (gapV 0 gs)).map (·.1) ++ ((((gapV 0 gs : Nat) : Int) + 1) :: (gs.drop (gapV 0 gs)).map (·.1)) := by simp [formL]
  have hlo : ∀ x ∈ (gs.take (gapV 0 gs)).map (·.1), x < ((gapV 0 gs : Nat) : Int) + 1 := fun x hx => by
    obtain ⟨g, hgm, rfl⟩ := List.mem_map.1 hx
    obtain ⟨i, hi, hgi⟩ := take_ix hgm
    have := gap_lt hg0 hi hgi
    omega
  have hhi : ∀ x ∈ (gs.drop (gapV 0 gs)).map (·.1), ((gapV 0 gs : Nat) : Int) + 1 < x := fun x hx => by
    obtain ⟨g, hgm, rfl⟩ := List.mem_map.1 hx
    obtain ⟨i, hi, hgi⟩ := drop_ix hgm
    exact gap_gt hg0 hi hgi
  refine ⟨?_, ?_, ?_, ?_⟩
  · rw [e1, List.pairwise_append]
    refine ⟨h1.sublist ((List.take_sublist _ _).map _), List.pairwise_cons.2 ⟨hhi, h1.sublist ((List.drop_sublist _ _).map _)⟩, fun x hx y hy => ?_⟩
    have hx2 := hlo x hx
    rcases List.mem_cons.1 hy with rfl | e
    · exact hx2
    · have := hhi y e; omega
  · rw [e1]
    intro x hx
    rcases List.mem_append.1 hx with e | e
    · exact h2 x (((List.take_sublist _ _).map _).subset e)
    · rcases List.mem_cons.1 e with rfl | e
      · omega
      · exact h2 x (((List.drop_sublist _ _).map _).subset e)
  · intro g hgm
    rcases List.mem_append.1 hgm with e | e
    · rcases List.mem_append.1 e with e | e
      · exact h3 g ((List.take_sublist _ _).subset e)
      · rw [List.mem_singleton] at e; subst e; exact hm
    · exact h3 g ((List.drop_sublist _ _).subset e)
  · have hp : (memL (formL gs l)).Perm (l ++ memL gs) := by
      rw [formL, memL_app, memL_app, show memL [(((gapV 0 gs : Nat) : Int) + 1, l)] = l by simp [memL]]
      refine ((List.perm_append_comm).append_right _).trans ?_
      rw [List.append_assoc, ← memL_app, List.take_append_drop]
    rw [hp.nodup_iff, List.nodup_append]
    refine ⟨may_nodup hm, h4, fun a hal b hb e => ?_⟩
    subst e
    exact List.any_eq_false.1 ha a hal (in_iff14.2 hb)
/-- What Form answers, by cases. -/
theorem form_cases (h : (hs, idn, (0 : Int)) = formV gs l) : gangB gs = true ∧ mayB l = true ∧ l.any (inV gs) = false ∧ ¬ gapV 0 gs = 8 ∧ hs = formL gs l ∧ idn = ((gapV 0 gs : Nat) : Int) + 1 := by
  unfold formV at h
  cases hg : gangB gs with
  | false => rw [if_pos hg] at h; simp at h
  | true =>
    rw [if_neg (by rw [hg]; decide)] at h
    cases hm : mayB l with
    | false => rw [fc_arg hm] at h; simp at h
    | true =>
      cases ha : l.any (inV gs) with
      | true => rw [fc_there hm ha] at h; simp at h
      | false =>
        by_cases h8 : gapV 0 gs = 8
        · rw [fc_full hm ha rfl h8] at h; simp at h
        · rw [fc_ok hm ha rfl h8] at h
          simp only [if_true, Prod.mk.injEq] at h
          exact ⟨rfl, rfl, rfl, h8, h.1, h.2.1⟩
theorem form_gang (h : (hs, idn, (0 : Int)) = formV gs l) : gangB hs = true := by
  obtain ⟨h1, h2, h3, h4, rfl, _⟩ := form_cases h
  exact forml_gang h1 h2 h3 h4
theorem mov_gang {C : Gs → Int → Gs × Int} (hC : ∀ gs k, gangB gs = true → gangB (C gs k).1 = true) (h : (hs, (0 : Int)) = movG gs (C gs k)) : gangB hs = true ∧ gangB gs = true ∧ C gs k = (hs, 0) := by
  unfold movG at h
  cases hg : gangB gs with
  | false => rw [if_pos hg] at h; simp at h
  | true =>
    rw [if_neg (by rw [hg]; decide)] at h
    split at h
    · have := hC gs k hg
      rw [← h] at this ⊢
      exact ⟨this, rfl, rfl⟩
    · rename_i e
      simp only [Prod.mk.injEq] at h
      exact absurd h.2.symm e
end
end Go.Proofs.Ytahccegfahghfaa

/-! Gangs: formed and parted again; who leaves; plain. -/
namespace Go.Proofs.Ytahccegfahghfaa
open Go Go.RowKit
/-- The members of the gang that one is in. -/
def ownV (gs : Gs) (k : Int) : List Int := ((findG gs k).map (·.2)).getD []
section
variable {gs t hs : Gs} {k n : Int} {i j : Nat} {l : List Int} {g a : Int × List Int} {bl : List GngA} {er idn : Int}
theorem memL_cons : memL (a :: t) = a.2 ++ memL t := List.flatMap_cons
theorem find_pos (h : n ∈ a.2) : findG (a :: t) n = some a := by unfold findG; rw [List.find?_cons]; simp [h]
theorem find_neg (h : ¬ n ∈ a.2) : findG (a :: t) n = findG t n := by unfold findG; rw [List.find?_cons]; simp [h]
theorem find_no (h : ¬ n ∈ memL gs) : findG gs n = none := by
  unfold findG
  exact List.find?_eq_none.2 fun g hg e => h (mem_memL.2 ⟨g, hg, of_decide_eq_true e⟩)
theorem find_mem : ∀ {gs : Gs}, (memL gs).Nodup → g ∈ gs → n ∈ g.2 → findG gs n = some g
  | [], _, h, _ => nomatch h
  | a :: t, hd, hg, hn => by
    rw [memL_cons, List.nodup_append] at hd
    rcases List.mem_cons.1 hg with rfl | e
    · exact find_pos hn
    · rw [find_neg (fun h => hd.2.2 n h n (mem_memL.2 ⟨g, e, hn⟩) rfl)]
      exact find_mem hd.2.1 e hn
theorem less_len (h : l.Nodup) (hk : k ∈ l) : (lessL l k).length + 1 = l.length := by
  have e : lessL l k = l.erase k := by
    rw [h.erase_eq_filter]; unfold lessL
    congr 1
  have := List.length_pos_of_mem hk
  rw [e, List.length_erase_of_mem hk]; omega
theorem mem_less (h : ¬ n = k) : n ∈ lessL l k ↔ n ∈ l := by
  unfold lessL
  rw [List.mem_filter]
  exact ⟨fun e => e.1, fun e => ⟨e, by rw [decide_eq_false h]; rfl⟩⟩
theorem not_less : ¬ k ∈ lessL l k := fun h => by
  unfold lessL at h
  rw [List.mem_filter, decide_eq_true rfl] at h
  exact absurd h.2 (by decide)
theorem find_self : ∀ {gs : Gs}, (memL gs).Nodup → findG (cutV k gs) k = none
  | [], _ => rfl
  | a :: t, hd => by
    rw [memL_cons, List.nodup_append] at hd
    rw [cutV]
    split
    · rename_i hk
      have hn : findG t k = none := find_no fun h => hd.2.2 k hk k h rfl
      split
      · exact hn
      · rw [find_neg not_less]; exact hn
    · rename_i hk
      rw [find_neg hk]
      exact find_self hd.2.1
theorem find_other (hn : ¬ n = k) : ∀ {gs : Gs}, (memL gs).Nodup → ¬ (n ∈ ownV gs k ∧ (ownV gs k).length = 2) → (∀ g ∈ gs, mayB g.2 = true) → (findG (cutV k gs) n).map (·.1) = (findG gs n).map (·.1)
  | [], _, _, _ => rfl
  | a :: t, hd, ho, hm => by
    rw [memL_cons, List.nodup_append] at hd
    rw [cutV]
    split
    · rename_i hk
      have hown : ownV (a :: t) k = a.2 := by unfold ownV; rw [find_pos hk]; rfl
      rw [hown] at ho
      have hl := less_len hd.1 hk
      have h2 := may_len (hm a (List.mem_cons_self ..))
      split
      · rw [find_neg (a := a) fun e => ho ⟨e, by omega⟩]
      · by_cases e : n ∈ a.2
        · rw [find_pos e, find_pos ((mem_less hn).2 e)]; rfl
        · rw [find_neg e, find_neg (fun h => e ((mem_less hn).1 h))]
    · rename_i hk
      have hown : ownV (a :: t) k = ownV t k := by unfold ownV; rw [find_neg hk]
      rw [hown] at ho
      by_cases e : n ∈ a.2
      · rw [find_pos e, find_pos e]
      · rw [find_neg e, find_neg e]
        exact find_other hn hd.2.1 ho fun g hg => hm g (List.mem_cons_of_mem _ hg)
theorem own_mem (h : n ∈ ownV gs k) : n ∈ memL gs := by
  unfold ownV at h
  cases hf : findG gs k with
  | none => rw [hf] at h; cases h
  | some g =>
    rw [hf] at h
    exact mem_memL.2 ⟨g, by unfold findG at hf; exact List.mem_of_find?_eq_some hf, h⟩
theorem find_alone : ∀ {gs : Gs}, (memL gs).Nodup → n ∈ ownV gs k → (ownV gs k).length = 2 → findG (cutV k gs) n = none
  | [], _, h, _ => nomatch h
  | a :: t, hd, ho, h2 => by
    rw [memL_cons, List.nodup_append] at hd
    rw [cutV]
    split
    · rename_i hk
      have hown : ownV (a :: t) k = a.2 := by unfold ownV; rw [find_pos hk]; rfl
      rw [hown] at ho h2
      have hl := less_len hd.1 hk
      rw [if_pos (by omega)]
      exact find_no fun h => hd.2.2 n ho n h rfl
    · rename_i hk
      have hown : ownV (a :: t) k = ownV t k := by unfold ownV; rw [find_neg hk]
      rw [hown] at ho h2
      rw [find_neg (a := a) fun e => hd.2.2 n e n (own_mem ho) rfl]
      exact find_alone hd.2.1 ho h2
theorem of_is (h : gangB gs = true) : ofV gs n = (((findG gs n).map (·.1)).getD 0, ((findG gs n).map (·.1)).isSome) := by
  cases hf : findG gs n with
  | none => rw [ofv_none h hf]; rfl
  | some g => rw [ofv_some h hf]; rfl
theorem memv_mem (h : gangB gs = true) (hg : g ∈ gs) : memV gs g.1 = g.2 := by
  obtain ⟨al, rfl⟩ := as_gng gs
  obtain ⟨x, hx, rfl⟩ := List.mem_map.1 hg
  rw [get_memv h]
  rcases get_cases al x.val.1 with ⟨_, hn⟩ | ⟨i0, x0, h0, he, e⟩
  · exact absurd rfl (hn x hx)
  · rw [e]
    have := (gang_ris h).1.inj (List.mem_of_getElem? h0) hx he
    subst this; rfl
theorem bk_cut (hin : leaveC gs k = (hs, 0)) : hs = cutV k gs := by
  unfold leaveC at hin
  split at hin
  · exact (Prod.mk.inj hin).1.symm
  · exact absurd (Prod.mk.inj hin).2 (by decide)
-- the law of who leaves
section
variable (hg : gangB gs = true) (hin : leaveC gs k = (hs, 0))
include hg hin
theorem bk_gang : gangB hs = true := by rw [bk_cut hin]; exact cut_gang hg
theorem bk_self : (ofV hs k).2 = false := by
  rw [of_is (bk_gang hg hin), bk_cut hin, find_self (gang_iff14.1 hg).2.2.2]; rfl
theorem bk_own : memV gs (ofV gs k).1 = ownV gs k := by
  unfold leaveC at hin
  split at hin
  · rename_i hk
    obtain ⟨g, hgm, hkg⟩ := mem_memL.1 (in_iff14.1 hk)
    have hf := find_mem (gang_iff14.1 hg).2.2.2 hgm hkg
    rw [ofv_some hg hf]
    unfold ownV
    rw [hf]
    exact memv_mem hg hgm
  · exact absurd (Prod.mk.inj hin).2 (by decide)
theorem bk_other (hn : ¬ n = k) (ho : ¬ (n ∈ ownV gs k ∧ (ownV gs k).length = 2)) : ofV gs n = ofV hs n := by
  have h4 := gang_iff14.1 hg
  rw [of_is hg, of_is (bk_gang hg hin), bk_cut hin, find_other hn h4.2.2.2 ho h4.2.2.1]
theorem bk_alone (h1 : n ∈ ownV gs k) (h2 : (ownV gs k).length = 2) : (ofV hs n).2 = false := by
  rw [of_is (bk_gang hg hin), bk_cut hin, find_alone (gang_iff14.1 hg).2.2.2 h1 h2]; rfl
end
theorem pos_app {A B : Gs} (hA : ∀ g ∈ A, g.1 < k) (ha : ¬ a.1 < k) : posK (·.1) (A ++ a :: B) k = A.length := by
  unfold posK
  rw [List.takeWhile_append_of_pos (fun g hg => decide_eq_true (hA g hg)), List.takeWhile_cons_of_neg (by rw [decide_eq_false ha]; decide), List.append_nil]
-- formed and parted again
section
variable (h : (hs, idn, (0 : Int)) = formV gs l)
include h
theorem bf_part : partC hs idn = (gs, 0) := by
  obtain ⟨hg, _, _, h8, rfl, rfl⟩ := form_cases h
  have h9 := gap_le8 hg
  have hlen : gapV 0 gs ≤ gs.length := by have := (gap_spec (gs := gs) (a := 0)).2.1; omega
  have hlt : (gs.take (gapV 0 gs)).length = gapV 0 gs := by rw [List.length_take]; omega
  have hp : posK (·.1) (formL gs l) (((gapV 0 gs : Nat) : Int) + 1) = gapV 0 gs := by
    unfold formL
    rw [List.append_assoc, List.singleton_append, pos_app (fun g hgm => by
      obtain ⟨i, hi, hgi⟩ := take_ix hgm
      have := gap_lt hg hi hgi
      omega) (by show ¬ (((gapV 0 gs : Nat) : Int) + 1 < _); omega), hlt]
  have hk : hasK (·.1) (formL gs l) (((gapV 0 gs : Nat) : Int) + 1) = true := by
    unfold hasK
    exact List.any_eq_true.2 ⟨(((gapV 0 gs : Nat) : Int) + 1, l), by simp [formL], decide_eq_true rfl⟩
  rw [pc_ok (by omega) (by omega) hk, hp]
  unfold formL
  rw [List.take_append_of_le_length (by simp; omega), List.take_append_of_le_length (by omega), List.take_of_length_le (by omega), List.drop_append_of_le_length (by simp; omega), List.drop_of_length_le (by simp; omega), List.nil_append, List.take_append_drop]
theorem bf_mem : memV hs idn = l := by
  have hgg := form_gang h
  obtain ⟨hg, _, _, h8, rfl, rfl⟩ := form_cases h
  exact memv_mem (g := (((gapV 0 gs : Nat) : Int) + 1, l)) hgg (by simp [formL])
theorem bf_of (hn : n ∈ l) : ofV hs n = (idn, true) := by
  have hgg := form_gang h
  obtain ⟨hg, _, _, h8, rfl, rfl⟩ := form_cases h
  rw [ofv_some hgg (find_mem (g := (((gapV 0 gs : Nat) : Int) + 1, l)) (gang_iff14.1 hgg).2.2.2 (by simp [formL]) hn)]
end
-- rows of members, none twice
end
end Go.Proofs.Ytahccegfahghfaa

/-! What the document makes of gangs; plain. -/
namespace Go.Proofs.Ytahccegfahghfaa
open Go Go.RowKit
section
variable {al bl bb : List GngA} {gs : Gs} {k n : Int} {x x0 y : GngA} {i0 i j : Nat} {l : List Int} {T : TypeId} {Yi : List Ob}
theorem mov_ok {r : Gs × Int} (hg : gangB gs = true) (h : r.2 = 0) : movG gs r = r := by rw [movG, if_neg (by rw [hg]; decide), if_pos h]
section
variable (hg : gangB (al.map GngA.val) = true) (hx : al[i0]? = some x0) (hp : hasG k x0 = true) (hl : ∀ (t : Nat) (y : GngA), t < i0 → al[t]? = some y → hasG k y = false)
include hg hx hp
end
end
end Go.Proofs.Ytahccegfahghfaa

/-! The document: Part, Leave. -/
namespace Go.Proofs.Ytahccegfahghfaa
open Go Go.RowKit

end Go.Proofs.Ytahccegfahghfaa

/-! The document: Form. -/
namespace Go.Proofs.Ytahccegfahghfaa
open Go Go.RowKit
end Go.Proofs.Ytahccegfahghfaa

/-! Gangs as an element; what short leaves; plain. -/
namespace Go.Proofs.Ytahccegfahghfaa
open Go Go.RowKit
/-- Gangs, as an element. -/
structure GngsA where
  p : Option Addr
  n : Nat
  cap : Nat
  l : List GngA
def GngsA.enc (x : GngsA) : List Value := [.slice x.p x.n x.cap]
instance : Enc GngsA := ⟨GngsA.enc, 1, fun _ => rfl, fun x v h => by simp [GngsA.enc] at h; subst h; rfl, by decide⟩
structure GngsA.Reads (w : World) (x : GngsA) : Prop where
  sv : Sv w x.p x.l
  hn : x.n = x.l.length
  hc : x.n ≤ x.cap
  hb : x.cap ≤ 9223372036854775807
  hi : ∀ y ∈ x.l, y.Reads w
section
variable {T : TypeId} {Yi : List Ob} {bl bl2 al : List GngA} {gs : Gs} {rl : List IntsA} {x : GngA} {y : IntsA} {j : Nat} {w : World} {k : Int}
theorem short_facts (hG : GotG T Yi bl) (hB : bl.map GngA.val = shortV gs) : bl.length ≤ 9 ∧ ∀ x ∈ bl, x.n ≤ 1000 := by
  have h1 : (shortV gs).length ≤ 9 := by unfold shortV; rw [List.length_map, List.length_take]; omega
  refine ⟨by rw [← List.length_map (f := GngA.val), hB]; exact h1, fun x hx => ?_⟩
  obtain ⟨Z, _, hz⟩ := GotR.own hG (List.mem_map_of_mem (f := GngA.row) hx)
  have h2 : x.val ∈ shortV gs := by rw [← hB]; exact List.mem_map_of_mem hx
  unfold shortV at h2
  obtain ⟨r, _, hr⟩ := List.mem_map.1 h2
  have h3 : x.l.length ≤ 17 := by
    have : x.l = r.2.take 17 := (congrArg Prod.snd hr).symm
    rw [this, List.length_take]; omega
  have h4 : x.row.n = x.row.l.length := hz.facts.1
  have h5 : x.n = x.l.length := h4
  omega
end
end Go.Proofs.Ytahccegfahghfaa

/-! What is done to gangs, as elements; plain. -/
namespace Go.Proofs.Ytahccegfahghfaa
open Go Go.RowKit
/-- An op. -/
structure OpG where
  kind : Int
  a : Int
  p : Option Addr
  n : Nat
  cap : Nat
  l : List Int
def OpG.enc (x : OpG) : List Value := [.int .i64 x.kind, .int .i64 x.a, .slice x.p x.n x.cap]
instance : Enc OpG := ⟨OpG.enc, 3, fun _ => rfl, fun x v h => by simp [OpG.enc] at h; rcases h with rfl | rfl | rfl <;> rfl, by decide⟩
def OpG.row (x : OpG) : IntsA := ⟨x.p, x.n, x.cap, x.l⟩
def OpG.Reads (w : World) (x : OpG) : Prop := x.row.Reads w
/-- The rest by six. -/
def kd6 (k : Int) : Int := Int.tmod (IntKind.u64.wrap k) 6
/-- What the layer makes of it: gangs, a number, the error. -/
def runG (gs : Gs) (o : OpG) : Gs × Int × Int :=
  if kd6 o.kind = 0 ∨ kd6 o.kind = 1 ∨ kd6 o.kind = 2 then formV gs (o.l.take 17)
  else if kd6 o.kind = 3 then ((movG gs (partC gs o.a)).1, 0, (movG gs (partC gs o.a)).2)
  else ((movG gs (leaveC gs o.a)).1, 0, (movG gs (leaveC gs o.a)).2)
section
variable {gs hs : Gs} {o : OpG} {idn k er : Int}
/-- An error leaves nothing. -/
theorem mov_bad {r : Gs × Int} (h : ¬ (movG gs r).2 = 0) : (movG gs r).1 = [] := by
  unfold movG at h ⊢
  split
  · rfl
  · rename_i e
    rw [if_neg e] at h
    split
    · rename_i e2; rw [if_pos e2] at h; exact absurd e2 h
    · rfl
end
end Go.Proofs.Ytahccegfahghfaa

/-! Gangs: an op, with the layer and by the document. -/
namespace Go.Proofs.Ytahccegfahghfaa
open Go Go.RowKit
end Go.Proofs.Ytahccegfahghfaa

/-! The statement GangBack, walked. -/
namespace Go.Proofs.Ytahccegfahghfaa
open Go Go.RowKit
theorem gang_facts {T : TypeId} {Yi : List Ob} {bl : List GngA} (hG : GotG T Yi bl) (hg : gangB (bl.map GngA.val) = true) : bl.length ≤ 9 ∧ ∀ x ∈ bl, x.n ≤ 1000 := ⟨by have := gang_len8 hg; omega, got_small hG hg⟩
theorem mov_nil {bl : List GngA} {er : Int} {gs : Gs} {r : Gs × Int} (h : (bl.map GngA.val, er) = movG gs r) (e : ¬ er = 0) : bl.length = 0 := by
 have h1 := mov_bad (gs := gs) (r := r) (by rw [← h]; exact e)
 rw [← h] at h1
 have h2 : bl.map GngA.val = [] := h1
 rw [← List.length_map (f := GngA.val), h2]; rfl
theorem own_len {gs : Gs} {k : Int} (hg : gangB gs = true) : (ownV gs k).length ≤ 1000 := by
 unfold ownV
 cases hf : findG gs k with
 | none => exact Nat.zero_le _
 | some g =>
  have := may_len ((gang_iff14.1 hg).2.2.1 g (by unfold findG at hf; exact List.mem_of_find?_eq_some hf))
  show g.2.length ≤ 1000
  omega
set_option maxHeartbeats 1000000 in

set_option maxRecDepth 100000 in
theorem back_law (q : Option Addr) (m capq : Nat) (al : List GngA) (p : Option Addr) (n cap : Nat) (l : List Int) (k : Int) (w : World)
 (hal : Sv w q al) (hma : m = al.length) (hbm : m ≤ 9223372036854775807) (hnm : ∀ x ∈ al, x.Reads w)
 (hsl : Sv w p l) (hn : n = l.length) (hcp : n ≤ cap) (hb : cap ≤ 9223372036854775807)
 : Calls Try.prog 8 #[.agg #[.slice q m capq], .slice p n cap, .int .i64 k] w fun e w' => e = .returned (.bool true) ∧ Below w.heap.size w w' := by
 refine enter (Hs.start w) Try.func8 rfl Try.ntmps8 rfl (sq_ (ma0 [] [1, 2] (fun γ1 => [(3, .pointer (some ⟨γ1 0, 0, none⟩))]) (fun γ1 L => bx (γ1 0) (#[.slice q m capq]) 38 :: L) (fun γ1 => ds_ (sq_ (sq_ (ao_ (cD (.bool true) Try.call9 (fun w hw => wakes_t w) (qo0 1 [] [1, 2, 3] [(30, .bool false)] (on_ (ds_ (f_ (at_skip (ds_ (sq_ (ao_ (qo0 1 [(0, .go (owns 0 0 1))] [1, 2] [(31, .agg #[.slice q m capq])] (cP (fun v L' => ∃ q_ n_ c_ Y_ Z_ bl_, v = .agg #[.slice q_ n_ c_] ∧ L' = List.take 1 ([bx (γ1 0) (#[.slice q m capq]) 38]) ++ (Y_ ++ (Z_ ++ List.drop 1 ([bx (γ1 0) (#[.slice q m capq]) 38]))) ∧ SlO 46 Y_ q_ n_ c_ bl_ ∧ GotG 3 Z_ bl_ ∧ bl_.map GngA.val = shortV (al.map GngA.val)) Try.call16 (fun w hw => (short_t q m capq al w (hal.kept hw.below) hma (by omega) (fun y hy => (hnm y hy).kept hw.below)).mono fun e w' ⟨q_, n_, c_, Y_, bl_, Z_, he, hO, hG, hB, hb, hY⟩ => ⟨_, _, he, ⟨q_, n_, c_, Y_, Z_, bl_, rfl, rfl, hO, hG, hB⟩, hs_re (hw.join hb hY 1)⟩) ?_)))))))))))))))))
 rintro v5 L5 ⟨q5, n5, c5, Y5, Yz5, bl5, rfl, rfl, hO5, hG5, hB5⟩
 have hf5 := short_facts hG5 hB5
 refine mo0 2 [(3, .go (owns 0 0 1))] [1, 2] (fun γ6 => [(7, .pointer (some ⟨γ6 0, 0, none⟩))]) (fun γ6 L => bx (γ6 0) (#[.slice q5 n5 c5]) 38 :: L) (fun γ6 => on_ (ds_ (sq_ ?_)))
 refine at_any (by kernel_rfl) ?_
 refine tk (m := 11) [1] [] [1, 2, 7] [(35, .slice p n cap)] ([]) #[false, true, false, false, false, false, false, false, false, false, false, false] al0 ?_
 refine any_cutX (V := (List Ob) × (List Ob) × (List Ob) × (List GngA) × (Nat) × (Nat) × (Int) × (Int) × (Nat) × (Nat) × (Option Addr) × (Option Addr) × (Nat → Nat)) (fun ⟨Y50, Y70, Yz70, bl70, c50, c70, er70, id70, n50, n70, q50, q70, γ170⟩ => GotG 3 Yz70 bl70 ∧ SlO 3 Y50 q50 n50 c50 (l.take 17) ∧ SlO 46 Y70 q70 n70 c70 bl70 ∧ (bl70.map GngA.val, id70, er70) = formV (bl5.map GngA.val) (l.take 17)) 0 #[true, true, true, true, true, true, true, true, true, true, true, true] (fun ⟨Y50, Y70, Yz70, bl70, c50, c70, er70, id70, n50, n70, q50, q70, γ170⟩ => [(1, .slice p n cap), (2, .int .i64 k), (7, .pointer (some ⟨γ6 0, 0, none⟩)), (8, .pointer (some ⟨γ170 0, 0, none⟩)), (9, .int .i64 id70), (10, .int .i64 er70)]) (fun ⟨Y50, Y70, Yz70, bl70, c50, c70, er70, id70, n50, n70, q50, q70, γ170⟩ => bx (γ170 0) (#[.slice q70 n70 c70]) 38 :: bx (γ6 0) (#[.slice q5 n5 c5]) 38 :: bx (γ1 0) (#[.slice q m capq]) 38 :: (Y50 ++ (Y70 ++ (Yz70 ++ (Y5 ++ (Yz5 ++ [])))))) ?_ (fun hmx10 => ?_)
 rotate_left
 ·
  refine any_cutX (V := (List Ob) × (List Ob) × (List Ob) × (List GngA) × (Nat) × (Nat) × (Int) × (Int) × (Nat) × (Nat) × (Option Addr) × (Option Addr) × (Nat → Nat)) (fun ⟨Y50, Y70, Yz70, bl70, c50, c70, er70, id70, n50, n70, q50, q70, γ170⟩ => GotG 3 Yz70 bl70 ∧ SlO 3 Y50 q50 n50 c50 (l.take 17) ∧ SlO 46 Y70 q70 n70 c70 bl70 ∧ (bl70.map GngA.val, id70, er70) = formV (bl5.map GngA.val) (l.take 17)) 3 #[true, true, true, true, true, true, true, true, true, false, false, false] (fun ⟨Y50, Y70, Yz70, bl70, c50, c70, er70, id70, n50, n70, q50, q70, γ170⟩ => [(1, .slice p n cap), (2, .int .i64 k), (7, .pointer (some ⟨γ6 0, 0, none⟩)), (8, .pointer (some ⟨γ170 0, 0, none⟩)), (38, .agg #[.slice q70 n70 c70]), (39, .int .i64 id70), (40, .int .i64 er70)]) (fun ⟨Y50, Y70, Yz70, bl70, c50, c70, er70, id70, n50, n70, q50, q70, γ170⟩ => bx (γ170 0) (#[.slice none 0 0]) 38 :: bx (γ6 0) (#[.slice q5 n5 c5]) 38 :: bx (γ1 0) (#[.slice q m capq]) 38 :: (Y50 ++ (Y70 ++ (Yz70 ++ (Y5 ++ (Yz5 ++ [])))))) ?_ (fun hmx9 => ?_)
  ·
   rintro ⟨Y50, Y70, Yz70, bl70, c50, c70, er70, id70, n50, n70, q50, q70, γ170⟩ ⟨hG70, hO50, hO70, hV70⟩
   refine a1 9 rfl ?_
   refine mo0 1 [(9, .go (owns 0 0 1))] [1, 2, 7, 8, 39, 40] (fun _ => []) (fun _ L => (L.set 0 (bx (γ170 0) (#[.slice q70 n70 c70]) 38))) (fun _ => ?_)
   refine od_ ?_
   refine tk (m := 0) [10, 11] [] [1, 2, 7, 8] [(9, .int .i64 id70), (10, .int .i64 er70)] ([]) #[true, true, true, true, true, true, true, true, true, true, true, true] al0 ?_
   exact wk (hmx10 (Y50, Y70, Yz70, bl70, c50, c70, er70, id70, n50, n70, q50, q70, γ170) ⟨hG70, hO50, hO70, hV70⟩) [1, 2, 7, 8, 9, 10] [[_], [_], [_], _, _, _, _, _] [0, 1, 2, 3, 4, 5, 6, 7] rfl rfl
  refine any_cutX (V := (List Ob) × (List Ob) × (List Ob) × (List GngA) × (Nat) × (Nat) × (Int) × (Int) × (Nat) × (Nat) × (Option Addr) × (Option Addr)) (fun ⟨Y50, Y70, Yz70, bl70, c50, c70, er70, id70, n50, n70, q50, q70⟩ => GotG 3 Yz70 bl70 ∧ SlO 3 Y50 q50 n50 c50 (l.take 17) ∧ SlO 46 Y70 q70 n70 c70 bl70 ∧ (bl70.map GngA.val, id70, er70) = formV (bl5.map GngA.val) (l.take 17)) 4 #[true, true, true, true, true, true, true, true, false, false, false, false] (fun ⟨Y50, Y70, Yz70, bl70, c50, c70, er70, id70, n50, n70, q50, q70⟩ => [(1, .slice p n cap), (2, .int .i64 k), (7, .pointer (some ⟨γ6 0, 0, none⟩)), (38, .agg #[.slice q70 n70 c70]), (39, .int .i64 id70), (40, .int .i64 er70)]) (fun ⟨Y50, Y70, Yz70, bl70, c50, c70, er70, id70, n50, n70, q50, q70⟩ => bx (γ6 0) (#[.slice q5 n5 c5]) 38 :: bx (γ1 0) (#[.slice q m capq]) 38 :: (Y50 ++ (Y70 ++ (Yz70 ++ (Y5 ++ (Yz5 ++ [])))))) ?_ (fun hmx8 => ?_)
  ·
   rintro ⟨Y50, Y70, Yz70, bl70, c50, c70, er70, id70, n50, n70, q50, q70⟩ ⟨hG70, hO50, hO70, hV70⟩
   refine a1 8 rfl ?_
   refine mo0 1 [] [1, 2, 7, 38, 39, 40] (fun γ170 => [(8, .pointer (some ⟨γ170 0, 0, none⟩))]) (fun γ170 L => bx (γ170 0) (#[.slice none 0 0]) 38 :: L) (fun γ170 => ?_)
   refine od_ ?_
   exact wk (hmx9 (Y50, Y70, Yz70, bl70, c50, c70, er70, id70, n50, n70, q50, q70, γ170) ⟨hG70, hO50, hO70, hV70⟩) [1, 2, 7, 8, 38, 39, 40] [[_], [_], [_], _, _, _, _, _] [0, 1, 2, 3, 4, 5, 6, 7] rfl rfl
  refine any_cutX (V := (List Ob) × (Nat) × (Nat) × (Option Addr) × (Nat → Nat)) (fun ⟨Y50, c50, n50, q50, γ170⟩ => SlO 3 Y50 q50 n50 c50 (l.take 17)) 8 #[true, true, true, false, false, false, false, false, true, false, false, false] (fun ⟨Y50, c50, n50, q50, γ170⟩ => [(1, .slice p n cap), (2, .int .i64 k), (7, .pointer (some ⟨γ6 0, 0, none⟩)), (8, .pointer (some ⟨γ170 0, 0, none⟩)), (34, .agg #[.slice q5 n5 c5]), (36, .slice q50 n50 c50)]) (fun ⟨Y50, c50, n50, q50, γ170⟩ => bx (γ170 0) (#[.slice none 0 0]) 38 :: bx (γ6 0) (#[.slice q5 n5 c5]) 38 :: bx (γ1 0) (#[.slice q m capq]) 38 :: (Y50 ++ (Y5 ++ (Yz5 ++ [])))) ?_ (fun hmx7 => ?_)
  ·
   rintro ⟨Y50, c50, n50, q50, γ170⟩ hO50
   refine a1 3 rfl ?_
   refine cP (fun v L' => ∃ er q_ n_ c_ Y_ Z_ bl_ idn, v = .tuple #[.agg #[.slice q_ n_ c_], .int .i64 idn, .int .i64 er] ∧ L' = List.take 3 (bx (γ170 0) (#[.slice none 0 0]) 38 :: bx (γ6 0) (#[.slice q5 n5 c5]) 38 :: bx (γ1 0) (#[.slice q m capq]) 38 :: (Y50 ++ (Y5 ++ (Yz5 ++ [])))) ++ (Y_ ++ (Z_ ++ List.drop 3 (bx (γ170 0) (#[.slice none 0 0]) 38 :: bx (γ6 0) (#[.slice q5 n5 c5]) 38 :: bx (γ1 0) (#[.slice q m capq]) 38 :: (Y50 ++ (Y5 ++ (Yz5 ++ [])))))) ∧ SlO 46 Y_ q_ n_ c_ bl_ ∧ GotG 3 Z_ bl_ ∧ (bl_.map GngA.val, idn, er) = formV (bl5.map GngA.val) (l.take 17)) Try.call29 (fun w hw => (form_t q5 n5 c5 bl5 q50 n50 c50 (l.take 17) w (SlO.sub hO5 hw (List.Sublist.cons _ (List.Sublist.cons _ (List.Sublist.cons _ (List.Sublist.trans (List.sublist_append_left Y5 _) (List.sublist_append_right Y50 _)))))) hO5.len (by have := hO5.len; have := hf5.1; omega) (GotG.reads hG5 hw (List.Sublist.cons _ (List.Sublist.cons _ (List.Sublist.cons _ (List.Sublist.trans (List.Sublist.trans (List.sublist_append_left Yz5 _) (List.sublist_append_right Y5 _)) (List.sublist_append_right Y50 _)))))) hf5.2 (hO50.atN (A := [_, _, _]) hw) (by have := hO50.len; omega) (by have := hO50.len; rw [List.length_take] at this; omega)).mono fun e w' ⟨er, q_, n_, c_, Y_, Z_, bl_, idn, he, hv, hO, hG, hb, hY⟩ => ⟨_, _, he, ⟨er, q_, n_, c_, Y_, Z_, bl_, idn, rfl, rfl, hO, hG, hv⟩, hs_re (hw.join hb hY 3)⟩) ?_
   rintro v70 L70 ⟨er70, q70, n70, c70, Y70, Yz70, bl70, id70, rfl, rfl, hO70, hG70, hV70⟩
   refine od_ ?_
   refine tk (m := 3) [4, 5, 6, 7] [] [1, 2, 7, 8] [(38, .agg #[.slice q70 n70 c70]), (39, .int .i64 id70), (40, .int .i64 er70)] ([]) #[true, true, true, true, true, true, true, true, true, false, false, false] al0 ?_
   exact wk (hmx9 (Y50, Y70, Yz70, bl70, c50, c70, er70, id70, n50, n70, q50, q70, γ170) ⟨hG70, hO50, hO70, hV70⟩) [1, 2, 7, 8, 38, 39, 40] [[_], [_], [_], _, _, _, _, _] [0, 1, 2, 5, 3, 4, 6, 7] rfl rfl
  refine any_cutX (V := (List Ob) × (Nat) × (Nat) × (Option Addr) × (Nat → Nat)) (fun ⟨Y50, c50, n50, q50, γ170⟩ => SlO 3 Y50 q50 n50 c50 (l.take 17)) 9 #[false, true, true, false, false, false, false, false, true, false, false, false] (fun ⟨Y50, c50, n50, q50, γ170⟩ => [(1, .slice p n cap), (2, .int .i64 k), (7, .pointer (some ⟨γ6 0, 0, none⟩)), (8, .pointer (some ⟨γ170 0, 0, none⟩)), (36, .slice q50 n50 c50)]) (fun ⟨Y50, c50, n50, q50, γ170⟩ => bx (γ170 0) (#[.slice none 0 0]) 38 :: bx (γ6 0) (#[.slice q5 n5 c5]) 38 :: bx (γ1 0) (#[.slice q m capq]) 38 :: (Y50 ++ (Y5 ++ (Yz5 ++ [])))) ?_ (fun hmx6 => ?_)
  ·
   rintro ⟨Y50, c50, n50, q50, γ170⟩ hO50
   refine a1 0 rfl ?_
   refine qo0 1 [(0, .go (owns 1 0 1))] [1, 2, 7, 8, 36] [(34, .agg #[.slice q5 n5 c5])] ?_
   refine od_ ?_
   exact wk (hmx7 (Y50, c50, n50, q50, γ170) hO50) [1, 2, 7, 8, 34, 36] [[_], [_], [_], _, _, _] [0, 1, 2, 3, 4, 5] rfl rfl
  refine any_cutX (V := (Nat → Nat)) (fun γ170 => True) 9 #[true, true, false, false, false, false, false, false, true, false, false, false] (fun γ170 => [(1, .slice p n cap), (2, .int .i64 k), (7, .pointer (some ⟨γ6 0, 0, none⟩)), (8, .pointer (some ⟨γ170 0, 0, none⟩)), (34, .agg #[.slice q5 n5 c5]), (35, .slice p n cap)]) (fun γ170 => bx (γ170 0) (#[.slice none 0 0]) 38 :: bx (γ6 0) (#[.slice q5 n5 c5]) 38 :: bx (γ1 0) (#[.slice q m capq]) 38 :: (Y5 ++ (Yz5 ++ []))) ?_ (fun hmx5 => ?_)
  ·
   rintro γ170 _
   refine a1 2 rfl ?_
   refine cP (fun v L' => ∃ q_ n_ c_ Y_, v = .slice q_ n_ c_ ∧ L' = List.take 3 (bx (γ170 0) (#[.slice none 0 0]) 38 :: bx (γ6 0) (#[.slice q5 n5 c5]) 38 :: bx (γ1 0) (#[.slice q m capq]) 38 :: (Y5 ++ (Yz5 ++ []))) ++ (Y_ ++ List.drop 3 (bx (γ170 0) (#[.slice none 0 0]) 38 :: bx (γ6 0) (#[.slice q5 n5 c5]) 38 :: bx (γ1 0) (#[.slice q m capq]) 38 :: (Y5 ++ (Yz5 ++ [])))) ∧ SlO 3 Y_ q_ n_ c_ (l.take 17)) Try.call30 (fun w hw => (ints_t p n cap l w (hsl.kept hw.below) hn (by omega) (by omega)).mono fun e w' ⟨q_, n_, c_, Y_, he, hO, hb, hY⟩ => ⟨_, _, he, ⟨q_, n_, c_, Y_, rfl, rfl, hO⟩, hw.join hb hY 3⟩) ?_
   rintro v50 L50 ⟨q50, n50, c50, Y50, rfl, rfl, hO50⟩
   refine od_ ?_
   exact wk (hmx7 (Y50, c50, n50, q50, γ170) hO50) [1, 2, 7, 8, 34, 36] [[_], [_], [_], _, _, _] [0, 1, 2, 3, 4, 5] rfl rfl
  refine any_cutX (V := (List Ob) × (Nat) × (Nat) × (Option Addr)) (fun ⟨Y50, c50, n50, q50⟩ => SlO 3 Y50 q50 n50 c50 (l.take 17)) 9 #[true, true, true, false, false, false, false, false, false, false, false, false] (fun ⟨Y50, c50, n50, q50⟩ => [(1, .slice p n cap), (2, .int .i64 k), (7, .pointer (some ⟨γ6 0, 0, none⟩)), (34, .agg #[.slice q5 n5 c5]), (36, .slice q50 n50 c50)]) (fun ⟨Y50, c50, n50, q50⟩ => bx (γ6 0) (#[.slice q5 n5 c5]) 38 :: bx (γ1 0) (#[.slice q m capq]) 38 :: (Y50 ++ (Y5 ++ (Yz5 ++ [])))) ?_ (fun hmx4 => ?_)
  ·
   rintro ⟨Y50, c50, n50, q50⟩ hO50
   refine any_fork [3, 8] (by kernel_rfl) (by simp) (each_cons _ rfl ?_ (each_cons _ rfl ?_ (each_nil)))
   ·
    refine cP (fun v L' => ∃ er q_ n_ c_ Y_ Z_ bl_ idn, v = .tuple #[.agg #[.slice q_ n_ c_], .int .i64 idn, .int .i64 er] ∧ L' = List.take 2 (bx (γ6 0) (#[.slice q5 n5 c5]) 38 :: bx (γ1 0) (#[.slice q m capq]) 38 :: (Y50 ++ (Y5 ++ (Yz5 ++ [])))) ++ (Y_ ++ (Z_ ++ List.drop 2 (bx (γ6 0) (#[.slice q5 n5 c5]) 38 :: bx (γ1 0) (#[.slice q m capq]) 38 :: (Y50 ++ (Y5 ++ (Yz5 ++ [])))))) ∧ SlO 46 Y_ q_ n_ c_ bl_ ∧ GotG 3 Z_ bl_ ∧ (bl_.map GngA.val, idn, er) = formV (bl5.map GngA.val) (l.take 17)) Try.call29 (fun w hw => (form_t q5 n5 c5 bl5 q50 n50 c50 (l.take 17) w (SlO.sub hO5 hw (List.Sublist.cons _ (List.Sublist.cons _ (List.Sublist.trans (List.sublist_append_left Y5 _) (List.sublist_append_right Y50 _))))) hO5.len (by have := hO5.len; have := hf5.1; omega) (GotG.reads hG5 hw (List.Sublist.cons _ (List.Sublist.cons _ (List.Sublist.trans (List.Sublist.trans (List.sublist_append_left Yz5 _) (List.sublist_append_right Y5 _)) (List.sublist_append_right Y50 _))))) hf5.2 (hO50.atN (A := [_, _]) hw) (by have := hO50.len; omega) (by have := hO50.len; rw [List.length_take] at this; omega)).mono fun e w' ⟨er, q_, n_, c_, Y_, Z_, bl_, idn, he, hv, hO, hG, hb, hY⟩ => ⟨_, _, he, ⟨er, q_, n_, c_, Y_, Z_, bl_, idn, rfl, rfl, hO, hG, hv⟩, hs_re (hw.join hb hY 2)⟩) ?_
    rintro v70 L70 ⟨er70, q70, n70, c70, Y70, Yz70, bl70, id70, rfl, rfl, hO70, hG70, hV70⟩
    refine od_ ?_
    refine tk (m := 4) [4, 5, 6, 7] [] [1, 2, 7] [(38, .agg #[.slice q70 n70 c70]), (39, .int .i64 id70), (40, .int .i64 er70)] ([]) #[true, true, true, true, true, true, true, true, false, false, false, false] al0 ?_
    exact wk (hmx8 (Y50, Y70, Yz70, bl70, c50, c70, er70, id70, n50, n70, q50, q70) ⟨hG70, hO50, hO70, hV70⟩) [1, 2, 7, 38, 39, 40] [[_], [_], _, _, _, _, _] [0, 1, 4, 2, 3, 5, 6] rfl rfl
   ·
    refine mo0 1 [] [1, 2, 7, 34, 36] (fun γ170 => [(8, .pointer (some ⟨γ170 0, 0, none⟩))]) (fun γ170 L => bx (γ170 0) (#[.slice none 0 0]) 38 :: L) (fun γ170 => ?_)
    refine od_ ?_
    exact wk (hmx7 (Y50, c50, n50, q50, γ170) hO50) [1, 2, 7, 8, 34, 36] [[_], [_], [_], _, _, _] [0, 1, 2, 3, 4, 5] rfl rfl
  refine any_cutX (V := (Nat → Nat)) (fun γ170 => True) 10 #[false, true, false, false, false, false, false, false, true, false, false, false] (fun γ170 => [(1, .slice p n cap), (2, .int .i64 k), (7, .pointer (some ⟨γ6 0, 0, none⟩)), (8, .pointer (some ⟨γ170 0, 0, none⟩)), (35, .slice p n cap)]) (fun γ170 => bx (γ170 0) (#[.slice none 0 0]) 38 :: bx (γ6 0) (#[.slice q5 n5 c5]) 38 :: bx (γ1 0) (#[.slice q m capq]) 38 :: (Y5 ++ (Yz5 ++ []))) ?_ (fun hmx3 => ?_)
  ·
   rintro γ170 _
   refine any_fork [0, 2] (by kernel_rfl) (by simp) (each_cons _ rfl ?_ (each_cons _ rfl ?_ (each_nil)))
   ·
    refine qo0 1 [(0, .go (owns 1 0 1))] [1, 2, 7, 8, 35] [(34, .agg #[.slice q5 n5 c5])] ?_
    refine od_ ?_
    exact wk (hmx5 γ170 trivial) [1, 2, 7, 8, 34, 35] [[_], [_], [_], _, _] [0, 1, 2, 3, 4] rfl rfl
   ·
    refine cP (fun v L' => ∃ q_ n_ c_ Y_, v = .slice q_ n_ c_ ∧ L' = List.take 3 (bx (γ170 0) (#[.slice none 0 0]) 38 :: bx (γ6 0) (#[.slice q5 n5 c5]) 38 :: bx (γ1 0) (#[.slice q m capq]) 38 :: (Y5 ++ (Yz5 ++ []))) ++ (Y_ ++ List.drop 3 (bx (γ170 0) (#[.slice none 0 0]) 38 :: bx (γ6 0) (#[.slice q5 n5 c5]) 38 :: bx (γ1 0) (#[.slice q m capq]) 38 :: (Y5 ++ (Yz5 ++ [])))) ∧ SlO 3 Y_ q_ n_ c_ (l.take 17)) Try.call30 (fun w hw => (ints_t p n cap l w (hsl.kept hw.below) hn (by omega) (by omega)).mono fun e w' ⟨q_, n_, c_, Y_, he, hO, hb, hY⟩ => ⟨_, _, he, ⟨q_, n_, c_, Y_, rfl, rfl, hO⟩, hw.join hb hY 3⟩) ?_
    rintro v50 L50 ⟨q50, n50, c50, Y50, rfl, rfl, hO50⟩
    refine od_ ?_
    exact wk (hmx6 (Y50, c50, n50, q50, γ170) hO50) [1, 2, 7, 8, 36] [[_], [_], [_], _, _, _] [0, 1, 2, 3, 4, 5] rfl rfl
  refine any_cutX (V := (List Ob) × (Nat) × (Nat) × (Option Addr)) (fun ⟨Y50, c50, n50, q50⟩ => SlO 3 Y50 q50 n50 c50 (l.take 17)) 10 #[false, true, true, false, false, false, false, false, false, false, false, false] (fun ⟨Y50, c50, n50, q50⟩ => [(1, .slice p n cap), (2, .int .i64 k), (7, .pointer (some ⟨γ6 0, 0, none⟩)), (36, .slice q50 n50 c50)]) (fun ⟨Y50, c50, n50, q50⟩ => bx (γ6 0) (#[.slice q5 n5 c5]) 38 :: bx (γ1 0) (#[.slice q m capq]) 38 :: (Y50 ++ (Y5 ++ (Yz5 ++ [])))) ?_ (fun hmx2 => ?_)
  ·
   rintro ⟨Y50, c50, n50, q50⟩ hO50
   refine any_fork [0, 8] (by kernel_rfl) (by simp) (each_cons _ rfl ?_ (each_cons _ rfl ?_ (each_nil)))
   ·
    refine qo0 1 [(0, .go (owns 0 0 1))] [1, 2, 7, 36] [(34, .agg #[.slice q5 n5 c5])] ?_
    refine od_ ?_
    exact wk (hmx4 (Y50, c50, n50, q50) hO50) [1, 2, 7, 34, 36] [[_], [_], _, _, _] [0, 1, 2, 3, 4] rfl rfl
   ·
    refine mo0 1 [] [1, 2, 7, 36] (fun γ170 => [(8, .pointer (some ⟨γ170 0, 0, none⟩))]) (fun γ170 L => bx (γ170 0) (#[.slice none 0 0]) 38 :: L) (fun γ170 => ?_)
    refine od_ ?_
    exact wk (hmx6 (Y50, c50, n50, q50, γ170) hO50) [1, 2, 7, 8, 36] [[_], [_], [_], _, _, _] [0, 1, 2, 3, 4, 5] rfl rfl
  refine any_cutX (V := Unit) (fun _ => True) 10 #[true, true, false, false, false, false, false, false, false, false, false, false] (fun _ => [(1, .slice p n cap), (2, .int .i64 k), (7, .pointer (some ⟨γ6 0, 0, none⟩)), (34, .agg #[.slice q5 n5 c5]), (35, .slice p n cap)]) (fun _ => bx (γ6 0) (#[.slice q5 n5 c5]) 38 :: bx (γ1 0) (#[.slice q m capq]) 38 :: (Y5 ++ (Yz5 ++ []))) ?_ (fun hmx1 => ?_)
  ·
   rintro _ _
   refine any_fork [2, 8] (by kernel_rfl) (by simp) (each_cons _ rfl ?_ (each_cons _ rfl ?_ (each_nil)))
   ·
    refine cP (fun v L' => ∃ q_ n_ c_ Y_, v = .slice q_ n_ c_ ∧ L' = List.take 2 (bx (γ6 0) (#[.slice q5 n5 c5]) 38 :: bx (γ1 0) (#[.slice q m capq]) 38 :: (Y5 ++ (Yz5 ++ []))) ++ (Y_ ++ List.drop 2 (bx (γ6 0) (#[.slice q5 n5 c5]) 38 :: bx (γ1 0) (#[.slice q m capq]) 38 :: (Y5 ++ (Yz5 ++ [])))) ∧ SlO 3 Y_ q_ n_ c_ (l.take 17)) Try.call30 (fun w hw => (ints_t p n cap l w (hsl.kept hw.below) hn (by omega) (by omega)).mono fun e w' ⟨q_, n_, c_, Y_, he, hO, hb, hY⟩ => ⟨_, _, he, ⟨q_, n_, c_, Y_, rfl, rfl, hO⟩, hw.join hb hY 2⟩) ?_
    rintro v50 L50 ⟨q50, n50, c50, Y50, rfl, rfl, hO50⟩
    refine od_ ?_
    exact wk (hmx4 (Y50, c50, n50, q50) hO50) [1, 2, 7, 34, 36] [[_], [_], _, _, _] [0, 1, 2, 3, 4] rfl rfl
   ·
    refine mo0 1 [] [1, 2, 7, 34, 35] (fun γ170 => [(8, .pointer (some ⟨γ170 0, 0, none⟩))]) (fun γ170 L => bx (γ170 0) (#[.slice none 0 0]) 38 :: L) (fun γ170 => ?_)
    refine od_ ?_
    exact wk (hmx5 γ170 trivial) [1, 2, 7, 8, 34, 35] [[_], [_], [_], _, _] [0, 1, 2, 3, 4] rfl rfl
  refine any_fork [0, 2, 8] (by kernel_rfl) (by simp) (each_cons _ rfl ?_ (each_cons _ rfl ?_ (each_cons _ rfl ?_ (each_nil))))
  ·
   refine qo0 1 [(0, .go (owns 0 0 1))] [1, 2, 7, 35] [(34, .agg #[.slice q5 n5 c5])] ?_
   refine od_ ?_
   exact wk (hmx1 () trivial) [1, 2, 7, 34, 35] [[_], [_], _, _] [0, 1, 2, 3] rfl rfl
  ·
   refine cP (fun v L' => ∃ q_ n_ c_ Y_, v = .slice q_ n_ c_ ∧ L' = List.take 2 (bx (γ6 0) (#[.slice q5 n5 c5]) 38 :: bx (γ1 0) (#[.slice q m capq]) 38 :: (Y5 ++ (Yz5 ++ []))) ++ (Y_ ++ List.drop 2 (bx (γ6 0) (#[.slice q5 n5 c5]) 38 :: bx (γ1 0) (#[.slice q m capq]) 38 :: (Y5 ++ (Yz5 ++ [])))) ∧ SlO 3 Y_ q_ n_ c_ (l.take 17)) Try.call30 (fun w hw => (ints_t p n cap l w (hsl.kept hw.below) hn (by omega) (by omega)).mono fun e w' ⟨q_, n_, c_, Y_, he, hO, hb, hY⟩ => ⟨_, _, he, ⟨q_, n_, c_, Y_, rfl, rfl, hO⟩, hw.join hb hY 2⟩) ?_
   rintro v50 L50 ⟨q50, n50, c50, Y50, rfl, rfl, hO50⟩
   refine od_ ?_
   exact wk (hmx2 (Y50, c50, n50, q50) hO50) [1, 2, 7, 36] [[_], [_], _, _, _] [0, 1, 2, 3, 4] rfl rfl
  ·
   refine mo0 1 [] [1, 2, 7, 35] (fun γ170 => [(8, .pointer (some ⟨γ170 0, 0, none⟩))]) (fun γ170 L => bx (γ170 0) (#[.slice none 0 0]) 38 :: L) (fun γ170 => ?_)
   refine od_ ?_
   exact wk (hmx3 γ170 trivial) [1, 2, 7, 8, 35] [[_], [_], [_], _, _] [0, 1, 2, 3, 4] rfl rfl
 rintro ⟨Y50, Y70, Yz70, bl70, c50, c70, er70, id70, n50, n70, q50, q70, γ170⟩ ⟨hG70, hO50, hO70, hV70⟩
 refine any_nil (by kernel_rfl) ?_
 refine ds_ (sq_ (sq_ ?_))
 by_cases q296 : (er70 : Int) = (0 : Int)
 ·
  refine qa [(1, .yes)] [1, 2, 7, 8, 9] [(42, .bool true)] ([(er70 : Int) = (0 : Int)]) (al1 q296) (ds_ (t_ (sq_ ?_)))
  have hF := hV70
  rw [q296] at hF
  have hgh := form_gang hF
  have hf70 := gang_facts hG70 hgh
  have hgV := (form_cases hF).1
  refine ao_ (qo0 2 [(0, .go (owns 0 0 1))] [1, 2, 7, 8, 9] [(44, .agg #[.slice q70 n70 c70]), (45, .int .i64 id70)] (cP (fun v L' => ∃ q_ n_ c_ Y_ Z_ bl_, v = .tuple #[.agg #[.slice q_ n_ c_], .int .i64 0] ∧ L' = List.take 3 (bx (γ170 0) (#[.slice q70 n70 c70]) 38 :: bx (γ6 0) (#[.slice q5 n5 c5]) 38 :: bx (γ1 0) (#[.slice q m capq]) 38 :: (Y50 ++ (Y70 ++ (Yz70 ++ (Y5 ++ (Yz5 ++ [])))))) ++ (Y_ ++ (Z_ ++ List.drop 3 (bx (γ170 0) (#[.slice q70 n70 c70]) 38 :: bx (γ6 0) (#[.slice q5 n5 c5]) 38 :: bx (γ1 0) (#[.slice q m capq]) 38 :: (Y50 ++ (Y70 ++ (Yz70 ++ (Y5 ++ (Yz5 ++ [])))))))) ∧ SlO 46 Y_ q_ n_ c_ bl_ ∧ GotG 3 Z_ bl_ ∧ bl_.map GngA.val = bl5.map GngA.val) Try.call31 (fun w hw => (part_t q70 n70 c70 bl70 id70 w (SlO.sub hO70 hw (List.Sublist.cons _ (List.Sublist.cons _ (List.Sublist.cons _ (List.Sublist.trans (List.sublist_append_left Y70 _) (List.sublist_append_right Y50 _)))))) hO70.len (by have := hO70.len; have := hf70.1; omega) (GotG.reads hG70 hw (List.Sublist.cons _ (List.Sublist.cons _ (List.Sublist.cons _ (List.Sublist.trans (List.Sublist.trans (List.sublist_append_left Yz70 _) (List.sublist_append_right Y70 _)) (List.sublist_append_right Y50 _)))))) hf70.2).mono fun e w' ⟨er, q_, n_, c_, Y_, Z_, bl_, he, hv, hO, hG, hb, hY⟩ => by have hq := hv.trans (show _ = (bl5.map GngA.val, (0 : Int)) by rw [bf_part hF]; exact mov_ok hgh rfl); simp only [Prod.mk.injEq] at hq; obtain ⟨hq1, rfl⟩ := hq; exact ⟨_, _, he, ⟨q_, n_, c_, Y_, Z_, bl_, rfl, rfl, hO, hG, hq1⟩, hs_re (hw.join hb hY 3)⟩) ?_))
  rintro v299 L299 ⟨q299, n299, c299, Y299, Yz299, bl299, rfl, rfl, hO299, hG299, hB299⟩
  have hf299 := gang_facts hG299 (by rw [hB299]; exact hgV)
  refine mo0 6 [(7, .go (owns 0 0 1))] [1, 2, 7, 8, 9] (fun γ300 => [(11, .pointer (some ⟨γ300 0, 0, none⟩)), (12, .int .i64 0)]) (fun γ300 L => bx (γ300 0) (#[.slice q299 n299 c299]) 38 :: L) (fun γ300 => on_ (ds_ (sq_ (sq_ (ao_ (qo0 5 [(3, .go (owns 0 0 1)), (4, .go (owns 2 0 1))] [1, 2, 7, 8, 9] [(51, .bool false), (52, .agg #[.slice q299 n299 c299]), (53, .agg #[.slice q5 n5 c5])] (cD (.bool true) Try.call19 (fun w hw => by have := gsame_t q299 n299 c299 bl299 q5 n5 c5 bl5 w (SlO.sub hO299 hw (List.Sublist.cons _ (List.Sublist.cons _ (List.Sublist.cons _ (List.Sublist.cons _ (List.sublist_append_left Y299 _)))))) hO299.len (by have := hO299.len; have := hf299.1; omega) (GotG.reads hG299 hw (List.Sublist.cons _ (List.Sublist.cons _ (List.Sublist.cons _ (List.Sublist.cons _ (List.Sublist.trans (List.sublist_append_left Yz299 _) (List.sublist_append_right Y299 _))))))) hf299.2 (SlO.sub hO5 hw (List.Sublist.cons _ (List.Sublist.cons _ (List.Sublist.cons _ (List.Sublist.cons _ (List.Sublist.trans (List.Sublist.trans (List.Sublist.trans (List.Sublist.trans (List.Sublist.trans (List.sublist_append_left Y5 _) (List.sublist_append_right Yz70 _)) (List.sublist_append_right Y70 _)) (List.sublist_append_right Y50 _)) (List.sublist_append_right Yz299 _)) (List.sublist_append_right Y299 _))))))) hO5.len (by have := hO5.len; have := hf5.1; omega) (GotG.reads hG5 hw (List.Sublist.cons _ (List.Sublist.cons _ (List.Sublist.cons _ (List.Sublist.cons _ (List.Sublist.trans (List.Sublist.trans (List.Sublist.trans (List.Sublist.trans (List.Sublist.trans (List.Sublist.trans (List.sublist_append_left Yz5 _) (List.sublist_append_right Y5 _)) (List.sublist_append_right Yz70 _)) (List.sublist_append_right Y70 _)) (List.sublist_append_right Y50 _)) (List.sublist_append_right Yz299 _)) (List.sublist_append_right Y299 _))))))) hf5.2; rw [hB299, decide_eq_true rfl] at this; exact this) (qo0 5 [(9, .go (owns 1 0 1))] [1, 2, 7, 8, 9] [(57, .bool false), (58, .agg #[.slice q70 n70 c70]), (59, .int .i64 id70)] (cP (fun v L' => ∃ q_ n_ c_ Y_, v = .slice q_ n_ c_ ∧ L' = List.take 4 (bx (γ300 0) (#[.slice q299 n299 c299]) 38 :: bx (γ170 0) (#[.slice q70 n70 c70]) 38 :: bx (γ6 0) (#[.slice q5 n5 c5]) 38 :: bx (γ1 0) (#[.slice q m capq]) 38 :: (Y299 ++ (Yz299 ++ (Y50 ++ (Y70 ++ (Yz70 ++ (Y5 ++ (Yz5 ++ [])))))))) ++ (Y_ ++ List.drop 4 (bx (γ300 0) (#[.slice q299 n299 c299]) 38 :: bx (γ170 0) (#[.slice q70 n70 c70]) 38 :: bx (γ6 0) (#[.slice q5 n5 c5]) 38 :: bx (γ1 0) (#[.slice q m capq]) 38 :: (Y299 ++ (Yz299 ++ (Y50 ++ (Y70 ++ (Yz70 ++ (Y5 ++ (Yz5 ++ []))))))))) ∧ SlO 3 Y_ q_ n_ c_ (l.take 17)) Try.call25 (fun w hw => (members_t q70 n70 c70 bl70 id70 w (SlO.sub hO70 hw (List.Sublist.cons _ (List.Sublist.cons _ (List.Sublist.cons _ (List.Sublist.cons _ (List.Sublist.trans (List.Sublist.trans (List.Sublist.trans (List.sublist_append_left Y70 _) (List.sublist_append_right Y50 _)) (List.sublist_append_right Yz299 _)) (List.sublist_append_right Y299 _))))))) hO70.len (by have := hO70.len; have := hf70.1; omega) (GotG.reads hG70 hw (List.Sublist.cons _ (List.Sublist.cons _ (List.Sublist.cons _ (List.Sublist.cons _ (List.Sublist.trans (List.Sublist.trans (List.Sublist.trans (List.Sublist.trans (List.sublist_append_left Yz70 _) (List.sublist_append_right Y70 _)) (List.sublist_append_right Y50 _)) (List.sublist_append_right Yz299 _)) (List.sublist_append_right Y299 _))))))) hf70.2).mono fun e w' ⟨q_, n_, c_, Y_, he, hO, hb, hY⟩ => ⟨_, _, he, ⟨q_, n_, c_, Y_, rfl, rfl, SlO.as14 hO (bf_mem hF)⟩, hw.join hb hY 4⟩) ?_)))))))))
  rintro v303 L303 ⟨q303, n303, c303, Y303, rfl, rfl, hO303⟩
  have hl303 := hO303.len
  refine qo0 1 [] [1, 2, 7, 8, 9, 57, 60] [(61, .slice p n cap)] (cP (fun v L' => ∃ q_ n_ c_ Y_, v = .slice q_ n_ c_ ∧ L' = List.take 4 (bx (γ300 0) (#[.slice q299 n299 c299]) 38 :: bx (γ170 0) (#[.slice q70 n70 c70]) 38 :: bx (γ6 0) (#[.slice q5 n5 c5]) 38 :: bx (γ1 0) (#[.slice q m capq]) 38 :: (Y303 ++ (Y299 ++ (Yz299 ++ (Y50 ++ (Y70 ++ (Yz70 ++ (Y5 ++ (Yz5 ++ []))))))))) ++ (Y_ ++ List.drop 4 (bx (γ300 0) (#[.slice q299 n299 c299]) 38 :: bx (γ170 0) (#[.slice q70 n70 c70]) 38 :: bx (γ6 0) (#[.slice q5 n5 c5]) 38 :: bx (γ1 0) (#[.slice q m capq]) 38 :: (Y303 ++ (Y299 ++ (Yz299 ++ (Y50 ++ (Y70 ++ (Yz70 ++ (Y5 ++ (Yz5 ++ [])))))))))) ∧ SlO 3 Y_ q_ n_ c_ (l.take 17)) Try.call30 (fun w hw => (ints_t p n cap l w (hsl.kept hw.below) hn (by omega) (by omega)).mono fun e w' ⟨q_, n_, c_, Y_, he, hO, hb, hY⟩ => ⟨_, _, he, ⟨q_, n_, c_, Y_, rfl, rfl, hO⟩, hw.join hb hY 4⟩) ?_)
  rintro v305 L305 ⟨q305, n305, c305, Y305, rfl, rfl, hO305⟩
  refine cD (.bool true) Try.call32 (fun w hw => by have := iequal_t q303 n303 c303 (l.take 17) q305 n305 c305 (l.take 17) w (hO303.atN (A := (_ :: _ :: _ :: _ :: Y305)) hw) hO303.len (by have := hO303.len; rw [List.length_take] at this; omega) (hO305.atN (A := [_, _, _, _]) hw) hO305.len (by have := hO305.len; rw [List.length_take] at this; omega); rw [decide_eq_true rfl] at this; exact this) (qo0 4 [(18, .go (owns 1 0 1))] [1, 2, 7, 8, 9] [(66, .bool false), (67, .agg #[.slice q70 n70 c70])] (cD (.int .i64 0) Try.call18 (fun w hw => by have := gcheck_t q70 n70 c70 bl70 w (SlO.sub hO70 hw (List.Sublist.cons _ (List.Sublist.cons _ (List.Sublist.cons _ (List.Sublist.cons _ (List.Sublist.trans (List.Sublist.trans (List.Sublist.trans (List.Sublist.trans (List.Sublist.trans (List.sublist_append_left Y70 _) (List.sublist_append_right Y50 _)) (List.sublist_append_right Yz299 _)) (List.sublist_append_right Y299 _)) (List.sublist_append_right Y303 _)) (List.sublist_append_right Y305 _))))))) hO70.len (by have := hO70.len; have := hf70.1; omega) (GotG.reads hG70 hw (List.Sublist.cons _ (List.Sublist.cons _ (List.Sublist.cons _ (List.Sublist.cons _ (List.Sublist.trans (List.Sublist.trans (List.Sublist.trans (List.Sublist.trans (List.Sublist.trans (List.Sublist.trans (List.sublist_append_left Yz70 _) (List.sublist_append_right Y70 _)) (List.sublist_append_right Y50 _)) (List.sublist_append_right Yz299 _)) (List.sublist_append_right Y299 _)) (List.sublist_append_right Y303 _)) (List.sublist_append_right Y305 _))))))) hf70.2; rw [hgh] at this; exact this) (qo0 2 [] [1, 2, 7, 8, 9] [(70, .bool false)] (on_ (ds_ (f_ (at_skip (ds_ (sq_ (ao_ (qo0 1 [] [2, 7, 8, 9] [(71, .slice p n cap)] (cP (fun v L' => ∃ q_ n_ c_ Y_, v = .slice q_ n_ c_ ∧ L' = List.take 4 (bx (γ300 0) (#[.slice q299 n299 c299]) 38 :: bx (γ170 0) (#[.slice q70 n70 c70]) 38 :: bx (γ6 0) (#[.slice q5 n5 c5]) 38 :: bx (γ1 0) (#[.slice q m capq]) 38 :: (Y305 ++ (Y303 ++ (Y299 ++ (Yz299 ++ (Y50 ++ (Y70 ++ (Yz70 ++ (Y5 ++ (Yz5 ++ [])))))))))) ++ (Y_ ++ List.drop 4 (bx (γ300 0) (#[.slice q299 n299 c299]) 38 :: bx (γ170 0) (#[.slice q70 n70 c70]) 38 :: bx (γ6 0) (#[.slice q5 n5 c5]) 38 :: bx (γ1 0) (#[.slice q m capq]) 38 :: (Y305 ++ (Y303 ++ (Y299 ++ (Yz299 ++ (Y50 ++ (Y70 ++ (Yz70 ++ (Y5 ++ (Yz5 ++ []))))))))))) ∧ SlO 3 Y_ q_ n_ c_ (l.take 17)) Try.call30 (fun w hw => (ints_t p n cap l w (hsl.kept hw.below) hn (by omega) (by omega)).mono fun e w' ⟨q_, n_, c_, Y_, he, hO, hb, hY⟩ => ⟨_, _, he, ⟨q_, n_, c_, Y_, rfl, rfl, hO⟩, hw.join hb hY 4⟩) ?_))))))))))))
  rintro v310 L310 ⟨q310, n310, c310, Y310, rfl, rfl, hO310⟩
  refine qo0 2 [] [2, 7, 8, 9, 72] [(73, .int .i64 (n310 : Nat)), (74, .int .i64 0)] (on_ (ds_ (at_block (At.pick [[bx (γ300 0) (#[.slice q299 n299 c299]) 38], [bx (γ170 0) (#[.slice q70 n70 c70]) 38], [bx (γ6 0) (#[.slice q5 n5 c5]) 38], [bx (γ1 0) (#[.slice q m capq]) 38], Y310, Y305, Y303, Y299, Yz299, Y50, Y70, Yz70, Y5, Yz5] [2, 1, 4, 10, 11, 12, 13] [0, 3, 5, 6, 7, 8, 9] (bx (γ6 0) (#[.slice q5 n5 c5]) 38 :: bx (γ170 0) (#[.slice q70 n70 c70]) 38 :: (Y310 ++ (Y70 ++ (Yz70 ++ (Y5 ++ (Yz5 ++ [])))))) (by kernel_rfl) rfl rfl ?_))))
  have hy9 := hO310.len
  rw [List.length_take] at hy9
  refine at_loop (α := Nat) [2, 7, 8, 9, 72, 73, 74] (fun j => [(2, .int .i64 k), (7, .pointer (some ⟨γ6 0, 0, none⟩)), (8, .pointer (some ⟨γ170 0, 0, none⟩)), (9, .int .i64 id70), (72, .slice q310 n310 c310), (73, .int .i64 (n310 : Nat)), (74, .int .i64 (j : Nat))]) (fun j => bx (γ6 0) (#[.slice q5 n5 c5]) 38 :: bx (γ170 0) (#[.slice q70 n70 c70]) 38 :: (Y310 ++ (Y70 ++ (Yz70 ++ (Y5 ++ (Yz5 ++ [])))))) (fun j => j ≤ n310) (fun j => n310 - j) 0 (by kernel_rfl) rfl (Nat.zero_le _) ?_
  rintro j
  rintro hj
  refine sq_ ?_
  by_cases q313 : ((j : Nat) : Int) < ((n310 : Nat) : Int)
  ·
   refine qa [(0, .yes)] [2, 7, 8, 9, 72, 73, 74] [(75, .bool true)] ([((j : Nat) : Int) < ((n310 : Nat) : Int)]) (al1 q313) (ds_ (sq_ (t_ (at_skip (ds_ (sq_ (at_block (sq_ ?_))))))))
   have hln316 := hO310.len
   obtain ⟨g316, cs316, rfl, rfl, hOw316⟩ := hO310.rowOf (i := j) (by omega)
   obtain ⟨x318, hx318⟩ := get_some (l := (l.take 17)) (m := j) (by omega)
   refine qa [(0, .at g316 0 j), (1, .go (ownps 2 (0 + j * 1) [.int .i64 x318]))] [2, 7, 8, 9, 72, 73, 74] [(14, .int .i64 x318)] ([(some ⟨g316, 0, none⟩ : Option Addr) = some ⟨g316, 0, none⟩, (j : Nat) = ((j : Nat) : Int), j < n310] ++ (acellsP cs316 (0 + j * 1) [.int .i64 x318])) (alA (al2 rfl (al2 rfl (al1 (by omega)))) (rda_pre (hOw316.rdx hO310.len hx318) _ rfl)) (ds_ (sq_ (ao_ (qo0 2 [(0, .go (owns 1 0 1))] [2, 7, 8, 9, 72, 73, 74] [(79, .agg #[.slice q70 n70 c70]), (80, .int .i64 x318)] (cD (.tuple #[.int .i64 id70, .bool true]) Try.call22 (fun w hw => by have := gof_t q70 n70 c70 bl70 x318 w (SlO.sub hO70 hw (List.Sublist.cons _ (List.Sublist.cons _ (List.Sublist.cons _ (List.sublist_append_left Y70 _))))) hO70.len (by have := hO70.len; have := hf70.1; omega) (GotG.reads hG70 hw (List.Sublist.cons _ (List.Sublist.cons _ (List.Sublist.cons _ (List.Sublist.trans (List.sublist_append_left Yz70 _) (List.sublist_append_right Y70 _)))))) hf70.2; rw [bf_of hF (List.mem_of_getElem? hx318)] at this; exact this) (qo0 5 [] [2, 7, 8, 9, 72, 73, 74] [(15, .int .i64 id70), (16, .bool true)] (on_ (ds_ (sq_ (qa [(5, .no)] [2, 7, 8, 9, 72, 73, 74] [(90, .bool false)] ([¬ ((id70 : Int) ≠ (id70 : Int))]) (al1 (fun h => h rfl)) (ds_ (f_ (at_skip (done_block (ds_ (qa [(0, .fit)] [2, 7, 8, 9, 72, 73] [(74, .int .i64 (j + 1 : Nat))] ([Fit .i64 ((j + 1 : Nat))]) (al1 (fit64 (by omega) (by omega))) ?_))))))))))))))))
   exact done_round [2, 7, 8, 9, 72, 73, 74] (j + 1) (by kernel_rfl) rfl (by omega) (by first | omega | (simp only; omega))
  ·
   refine qa [(0, .no)] [2, 7, 8, 9, 72, 73, 74] [(75, .bool false)] ([¬ (((j : Nat) : Int) < ((n310 : Nat) : Int))]) (al1 q313) (ds_ (sq_ (f_ (at_leave _ rfl (ds_ (sq_ (ao_ (qo0 2 [(0, .go (owns 0 0 1))] [2, 7] [(93, .agg #[.slice q5 n5 c5]), (94, .int .i64 k)] (cP (fun v L' => ∃ er q_ n_ c_ Y_ Z_ bl_, v = .tuple #[.agg #[.slice q_ n_ c_], .int .i64 er] ∧ L' = List.take 2 (bx (γ6 0) (#[.slice q5 n5 c5]) 38 :: bx (γ170 0) (#[.slice q70 n70 c70]) 38 :: (Y310 ++ (Y70 ++ (Yz70 ++ (Y5 ++ (Yz5 ++ [])))))) ++ (Y_ ++ (Z_ ++ List.drop 2 (bx (γ6 0) (#[.slice q5 n5 c5]) 38 :: bx (γ170 0) (#[.slice q70 n70 c70]) 38 :: (Y310 ++ (Y70 ++ (Yz70 ++ (Y5 ++ (Yz5 ++ [])))))))) ∧ SlO 46 Y_ q_ n_ c_ bl_ ∧ GotG 3 Z_ bl_ ∧ (bl_.map GngA.val, er) = movG (bl5.map GngA.val) (leaveC (bl5.map GngA.val) k)) Try.call33 (fun w hw => (leave_t q5 n5 c5 bl5 k w (SlO.sub hO5 hw (List.Sublist.cons _ (List.Sublist.cons _ (List.Sublist.trans (List.Sublist.trans (List.Sublist.trans (List.sublist_append_left Y5 _) (List.sublist_append_right Yz70 _)) (List.sublist_append_right Y70 _)) (List.sublist_append_right Y310 _))))) hO5.len (by have := hO5.len; have := hf5.1; omega) (GotG.reads hG5 hw (List.Sublist.cons _ (List.Sublist.cons _ (List.Sublist.trans (List.Sublist.trans (List.Sublist.trans (List.Sublist.trans (List.sublist_append_left Yz5 _) (List.sublist_append_right Y5 _)) (List.sublist_append_right Yz70 _)) (List.sublist_append_right Y70 _)) (List.sublist_append_right Y310 _))))) hf5.2).mono fun e w' ⟨er, q_, n_, c_, Y_, Z_, bl_, he, hv, hO, hG, hb, hY⟩ => ⟨_, _, he, ⟨er, q_, n_, c_, Y_, Z_, bl_, rfl, rfl, hO, hG, hv⟩, hs_re (hw.join hb hY 2)⟩) ?_)))))))))
   rintro v326 L326 ⟨er326, q326, n326, c326, Y326, Yz326, bl326, rfl, rfl, hO326, hG326, hV326⟩
   refine mo0 6 [(7, .go (owns 0 0 1))] [2, 7] (fun γ327 => [(10, .int .i64 er326), (17, .pointer (some ⟨γ327 0, 0, none⟩))]) (fun γ327 L => bx (γ327 0) (#[.slice q326 n326 c326]) 38 :: L) (fun γ327 => on_ (ds_ (sq_ (sq_ ?_))))
   by_cases q329 : (er326 : Int) ≠ (0 : Int)
   ·
    refine qa [(1, .yes)] [2, 7, 17] [(99, .bool true)] ([(er326 : Int) ≠ (0 : Int)]) (al1 q329) (ds_ (t_ (sq_ ?_)))
    have hz := mov_nil hV326 q329
    have hzl := hO326.len
    refine qa [(1, .go (owns 0 0 1)), (3, .yes)] [] [(6, .bool true)] ([((n326 : Nat) : Int) = (0 : Int)]) (al1 (by omega)) (ds_ (rt ([]) (.bool true) ?_))
    exact fun w' hw => ⟨rfl, hw.below⟩
   ·
    refine qa [(1, .no)] [2, 7, 17] [(99, .bool false)] ([¬ ((er326 : Int) ≠ (0 : Int))]) (al1 q329) (ds_ (f_ (at_skip (ds_ (sq_ ?_)))))
    have hM := hV326
    rw [show er326 = 0 by omega] at hM
    obtain ⟨hgL, hgV, hL⟩ := mov_gang (C := leaveC) (fun _ _ h => leave_gang h) hM
    have hf326 := gang_facts hG326 hgL
    refine ao_ (qo0 2 [(0, .go (owns 1 0 1))] [2, 7, 17] [(105, .agg #[.slice q5 n5 c5]), (106, .int .i64 k)] (cD (.tuple #[.int .i64 ((ofV (bl5.map GngA.val) k).1), .bool ((ofV (bl5.map GngA.val) k).2)]) Try.call22 (fun w hw => gof_t q5 n5 c5 bl5 k w (SlO.sub hO5 hw (List.Sublist.cons _ (List.Sublist.cons _ (List.Sublist.cons _ (List.Sublist.trans (List.Sublist.trans (List.Sublist.trans (List.Sublist.trans (List.Sublist.trans (List.sublist_append_left Y5 _) (List.sublist_append_right Yz70 _)) (List.sublist_append_right Y70 _)) (List.sublist_append_right Y310 _)) (List.sublist_append_right Yz326 _)) (List.sublist_append_right Y326 _)))))) hO5.len (by have := hO5.len; have := hf5.1; omega) (GotG.reads hG5 hw (List.Sublist.cons _ (List.Sublist.cons _ (List.Sublist.cons _ (List.Sublist.trans (List.Sublist.trans (List.Sublist.trans (List.Sublist.trans (List.Sublist.trans (List.Sublist.trans (List.sublist_append_left Yz5 _) (List.sublist_append_right Y5 _)) (List.sublist_append_right Yz70 _)) (List.sublist_append_right Y70 _)) (List.sublist_append_right Y310 _)) (List.sublist_append_right Yz326 _)) (List.sublist_append_right Y326 _)))))) hf5.2) (qo0 5 [] [2, 7, 17] [(18, .int .i64 ((ofV (bl5.map GngA.val) k).1))] (on_ (ds_ (sq_ (ao_ (qo0 2 [(0, .go (owns 1 0 1))] [2, 7, 17] [(110, .agg #[.slice q5 n5 c5]), (111, .int .i64 ((ofV (bl5.map GngA.val) k).1))] (cP (fun v L' => ∃ q_ n_ c_ Y_, v = .slice q_ n_ c_ ∧ L' = List.take 3 (bx (γ327 0) (#[.slice q326 n326 c326]) 38 :: bx (γ6 0) (#[.slice q5 n5 c5]) 38 :: bx (γ170 0) (#[.slice q70 n70 c70]) 38 :: (Y326 ++ (Yz326 ++ (Y310 ++ (Y70 ++ (Yz70 ++ (Y5 ++ (Yz5 ++ [])))))))) ++ (Y_ ++ List.drop 3 (bx (γ327 0) (#[.slice q326 n326 c326]) 38 :: bx (γ6 0) (#[.slice q5 n5 c5]) 38 :: bx (γ170 0) (#[.slice q70 n70 c70]) 38 :: (Y326 ++ (Yz326 ++ (Y310 ++ (Y70 ++ (Yz70 ++ (Y5 ++ (Yz5 ++ []))))))))) ∧ SlO 3 Y_ q_ n_ c_ (ownV (bl5.map GngA.val) k)) Try.call25 (fun w hw => (members_t q5 n5 c5 bl5 ((ofV (bl5.map GngA.val) k).1) w (SlO.sub hO5 hw (List.Sublist.cons _ (List.Sublist.cons _ (List.Sublist.cons _ (List.Sublist.trans (List.Sublist.trans (List.Sublist.trans (List.Sublist.trans (List.Sublist.trans (List.sublist_append_left Y5 _) (List.sublist_append_right Yz70 _)) (List.sublist_append_right Y70 _)) (List.sublist_append_right Y310 _)) (List.sublist_append_right Yz326 _)) (List.sublist_append_right Y326 _)))))) hO5.len (by have := hO5.len; have := hf5.1; omega) (GotG.reads hG5 hw (List.Sublist.cons _ (List.Sublist.cons _ (List.Sublist.cons _ (List.Sublist.trans (List.Sublist.trans (List.Sublist.trans (List.Sublist.trans (List.Sublist.trans (List.Sublist.trans (List.sublist_append_left Yz5 _) (List.sublist_append_right Y5 _)) (List.sublist_append_right Yz70 _)) (List.sublist_append_right Y70 _)) (List.sublist_append_right Y310 _)) (List.sublist_append_right Yz326 _)) (List.sublist_append_right Y326 _)))))) hf5.2).mono fun e w' ⟨q_, n_, c_, Y_, he, hO, hb, hY⟩ => ⟨_, _, he, ⟨q_, n_, c_, Y_, rfl, rfl, SlO.as14 hO (bk_own hgV hL)⟩, hw.join hb hY 3⟩) ?_)))))))))
    rintro v336 L336 ⟨q336, n336, c336, Y336, rfl, rfl, hO336⟩
    have hl336 := hO336.len
    refine qo0 1 [] [2, 7, 17] [(20, .slice q336 n336 c336)] (on_ (ds_ (sq_ (sq_ (ao_ (qo0 2 [(0, .go (owns 0 0 1))] [2, 7, 17, 20] [(114, .agg #[.slice q326 n326 c326]), (115, .int .i64 k)] (cD (.tuple #[.int .i64 ((ofV (bl326.map GngA.val) k).1), .bool false]) Try.call22 (fun w hw => by have := gof_t q326 n326 c326 bl326 k w (SlO.sub hO326 hw (List.Sublist.cons _ (List.Sublist.cons _ (List.Sublist.cons _ (List.Sublist.trans (List.sublist_append_left Y326 _) (List.sublist_append_right Y336 _)))))) hO326.len (by have := hO326.len; have := hf326.1; omega) (GotG.reads hG326 hw (List.Sublist.cons _ (List.Sublist.cons _ (List.Sublist.cons _ (List.Sublist.trans (List.Sublist.trans (List.sublist_append_left Yz326 _) (List.sublist_append_right Y326 _)) (List.sublist_append_right Y336 _)))))) hf326.2; rw [bk_self hgV hL] at this; exact this) (qo0 5 [] [2, 7, 17, 20] [(22, .bool false)] (on_ (ds_ (sq_ (ao_ (qo0 3 [(2, .go (owns 0 0 1))] [2, 7, 17, 20] [(120, .bool false), (121, .agg #[.slice q326 n326 c326])] (cD (.int .i64 0) Try.call18 (fun w hw => by have := gcheck_t q326 n326 c326 bl326 w (SlO.sub hO326 hw (List.Sublist.cons _ (List.Sublist.cons _ (List.Sublist.cons _ (List.Sublist.trans (List.sublist_append_left Y326 _) (List.sublist_append_right Y336 _)))))) hO326.len (by have := hO326.len; have := hf326.1; omega) (GotG.reads hG326 hw (List.Sublist.cons _ (List.Sublist.cons _ (List.Sublist.cons _ (List.Sublist.trans (List.Sublist.trans (List.sublist_append_left Yz326 _) (List.sublist_append_right Y326 _)) (List.sublist_append_right Y336 _)))))) hf326.2; rw [hgL] at this; exact this) (qo0 2 [] [2, 7, 17, 20] [(124, .bool false)] (on_ (ds_ (f_ (at_skip (ds_ (sq_ (sq_ (qa0 [] [2, 7, 17, 20] [(23, .int .i64 1)] (ds_ (at_block (At.pick [[bx (γ327 0) (#[.slice q326 n326 c326]) 38], [bx (γ6 0) (#[.slice q5 n5 c5]) 38], [bx (γ170 0) (#[.slice q70 n70 c70]) 38], Y336, Y326, Yz326, Y310, Y70, Yz70, Y5, Yz5] [1, 0, 3, 4, 5, 9, 10] [2, 6, 7, 8] (bx (γ6 0) (#[.slice q5 n5 c5]) 38 :: bx (γ327 0) (#[.slice q326 n326 c326]) 38 :: (Y336 ++ (Y326 ++ (Yz326 ++ (Y5 ++ (Yz5 ++ [])))))) (by kernel_rfl) rfl rfl (at_loop (α := Nat) [2, 7, 17, 20, 23] (fun i => [(2, .int .i64 k), (7, .pointer (some ⟨γ6 0, 0, none⟩)), (17, .pointer (some ⟨γ327 0, 0, none⟩)), (20, .slice q336 n336 c336), (23, .int .i64 (i : Nat))]) (fun i => bx (γ6 0) (#[.slice q5 n5 c5]) 38 :: bx (γ327 0) (#[.slice q326 n326 c326]) 38 :: (Y336 ++ (Y326 ++ (Yz326 ++ (Y5 ++ (Yz5 ++ [])))))) (fun i => 1 ≤ i ∧ i ≤ 17) (fun i => 17 - i) 1 (by kernel_rfl) rfl ⟨Nat.le_refl _, by decide⟩ ?_)))))))))))))))))))))))))))
    rintro i
    rintro ⟨hi, hi2⟩
    refine sq_ (sq_ ?_)
    by_cases q344 : ((i : Nat) : Int) ≤ (16 : Int)
    ·
     refine qa [(1, .yes)] [2, 7, 17, 20, 23] [(126, .bool true)] ([((i : Nat) : Int) ≤ (16 : Int)]) (al1 q344) (ds_ (t_ (at_skip (ds_ (sq_ (at_block (sq_ (ao_ (qo0 2 [(0, .go (owns 0 0 1))] [2, 7, 17, 20, 23] [(130, .agg #[.slice q5 n5 c5]), (131, .int .i64 (i : Nat))] (cD (.tuple #[.int .i64 ((ofV (bl5.map GngA.val) (i : Nat)).1), .bool ((ofV (bl5.map GngA.val) (i : Nat)).2)]) Try.call22 (fun w hw => gof_t q5 n5 c5 bl5 (i : Nat) w (SlO.sub hO5 hw (List.Sublist.cons _ (List.Sublist.cons _ (List.Sublist.trans (List.Sublist.trans (List.Sublist.trans (List.sublist_append_left Y5 _) (List.sublist_append_right Yz326 _)) (List.sublist_append_right Y326 _)) (List.sublist_append_right Y336 _))))) hO5.len (by have := hO5.len; have := hf5.1; omega) (GotG.reads hG5 hw (List.Sublist.cons _ (List.Sublist.cons _ (List.Sublist.trans (List.Sublist.trans (List.Sublist.trans (List.Sublist.trans (List.sublist_append_left Yz5 _) (List.sublist_append_right Y5 _)) (List.sublist_append_right Yz326 _)) (List.sublist_append_right Y326 _)) (List.sublist_append_right Y336 _))))) hf5.2) (qo0 5 [] [2, 7, 17, 20, 23] [(24, .int .i64 ((ofV (bl5.map GngA.val) (i : Nat)).1)), (25, .bool ((ofV (bl5.map GngA.val) (i : Nat)).2))] (on_ (ds_ (sq_ ?_))))))))))))))
     by_cases q348 : ((i : Nat) : Int) ≠ (k : Int)
     ·
      rcases q349 : decide (((i : Nat) : Int) ∈ ownV (bl5.map GngA.val) k) with _ | _
      ·
       by_cases q350 : ((n336 : Nat) : Int) = (2 : Int)
       ·
        refine ao_ (qo0 2 [(0, .go (owns 1 0 1))] [2, 7, 17, 20, 23, 24, 25] [(136, .agg #[.slice q326 n326 c326]), (137, .int .i64 (i : Nat))] (cD (.tuple #[.int .i64 ((ofV (bl5.map GngA.val) (i : Nat)).1), .bool ((ofV (bl5.map GngA.val) (i : Nat)).2)]) Try.call22 (fun w hw => by have := gof_t q326 n326 c326 bl326 (i : Nat) w (SlO.sub hO326 hw (List.Sublist.cons _ (List.Sublist.cons _ (List.Sublist.trans (List.sublist_append_left Y326 _) (List.sublist_append_right Y336 _))))) hO326.len (by have := hO326.len; have := hf326.1; omega) (GotG.reads hG326 hw (List.Sublist.cons _ (List.Sublist.cons _ (List.Sublist.trans (List.Sublist.trans (List.sublist_append_left Yz326 _) (List.sublist_append_right Y326 _)) (List.sublist_append_right Y336 _))))) hf326.2; rw [← bk_other hgV hL (n := ((i : Nat) : Int)) q348 (fun e => of_decide_eq_false q349 e.1)] at this; exact this) (qo0 5 [] [2, 7, 17, 20, 23, 24, 25] [(26, .int .i64 ((ofV (bl5.map GngA.val) (i : Nat)).1)), (27, .bool ((ofV (bl5.map GngA.val) (i : Nat)).2))] (on_ (ds_ (sq_ (ao_ (qo0 2 [] [2, 7, 17, 20, 23, 24, 25, 26, 27] [(141, .slice q336 n336 c336), (142, .int .i64 (i : Nat))] (cD (.bool false) Try.call15 (fun w hw => by have := contains_t q336 n336 c336 (ownV (bl5.map GngA.val) k) ((i : Nat) : Int) w (hO336.atN (A := [_, _]) hw) hO336.len (by rw [hO336.len]; exact own_len hgV); rw [q349] at this; exact this) (qo0 6 [] [2, 7, 17, 20, 23, 24, 25, 26, 27] [(28, .bool false)] (on_ (ds_ (sq_ (qa [(2, .yes), (10, .no), (14, .eqs false)] [2, 7, 17, 20, 23] [(171, .bool false)] ([((i : Nat) : Int) ≠ (k : Int)] ++ ([¬ (((ofV (bl5.map GngA.val) (i : Nat)).1 : Int) ≠ ((ofV (bl5.map GngA.val) (i : Nat)).1 : Int))] ++ ([EqRun Try.prog .neq 4 (.tmp 161) (.tmp 162) (.bool ((ofV (bl5.map GngA.val) (i : Nat)).2)) (.bool ((ofV (bl5.map GngA.val) (i : Nat)).2)) false]))) (alA (al1 q348) (alA (al1 (fun h => h rfl)) (al1 (bool_same _)))) (ds_ (f_ (at_skip (done_block (ds_ (qa [(1, .fit)] [2, 7, 17, 20] [(23, .int .i64 (i + 1 : Nat))] ([Fit .i64 ((i + 1 : Nat))]) (al1 (fit64 (by omega) (by omega))) ?_))))))))))))))))))))
        exact dr [2, 7, 17, 20, 23] (i + 1) ⟨by omega, by omega⟩
       ·
        refine ao_ (qo0 2 [(0, .go (owns 1 0 1))] [2, 7, 17, 20, 23, 24, 25] [(136, .agg #[.slice q326 n326 c326]), (137, .int .i64 (i : Nat))] (cD (.tuple #[.int .i64 ((ofV (bl5.map GngA.val) (i : Nat)).1), .bool ((ofV (bl5.map GngA.val) (i : Nat)).2)]) Try.call22 (fun w hw => by have := gof_t q326 n326 c326 bl326 (i : Nat) w (SlO.sub hO326 hw (List.Sublist.cons _ (List.Sublist.cons _ (List.Sublist.trans (List.sublist_append_left Y326 _) (List.sublist_append_right Y336 _))))) hO326.len (by have := hO326.len; have := hf326.1; omega) (GotG.reads hG326 hw (List.Sublist.cons _ (List.Sublist.cons _ (List.Sublist.trans (List.Sublist.trans (List.sublist_append_left Yz326 _) (List.sublist_append_right Y326 _)) (List.sublist_append_right Y336 _))))) hf326.2; rw [← bk_other hgV hL (n := ((i : Nat) : Int)) q348 (fun e => of_decide_eq_false q349 e.1)] at this; exact this) (qo0 5 [] [2, 7, 17, 20, 23, 24, 25] [(26, .int .i64 ((ofV (bl5.map GngA.val) (i : Nat)).1)), (27, .bool ((ofV (bl5.map GngA.val) (i : Nat)).2))] (on_ (ds_ (sq_ (ao_ (qo0 2 [] [2, 7, 17, 20, 23, 24, 25, 26, 27] [(141, .slice q336 n336 c336), (142, .int .i64 (i : Nat))] (cD (.bool false) Try.call15 (fun w hw => by have := contains_t q336 n336 c336 (ownV (bl5.map GngA.val) k) ((i : Nat) : Int) w (hO336.atN (A := [_, _]) hw) hO336.len (by rw [hO336.len]; exact own_len hgV); rw [q349] at this; exact this) (qo0 6 [] [2, 7, 17, 20, 23, 24, 25, 26, 27] [(28, .bool false)] (on_ (ds_ (sq_ (qa [(2, .yes), (10, .no), (14, .eqs false)] [2, 7, 17, 20, 23] [(171, .bool false)] ([((i : Nat) : Int) ≠ (k : Int)] ++ ([¬ (((ofV (bl5.map GngA.val) (i : Nat)).1 : Int) ≠ ((ofV (bl5.map GngA.val) (i : Nat)).1 : Int))] ++ ([EqRun Try.prog .neq 4 (.tmp 161) (.tmp 162) (.bool ((ofV (bl5.map GngA.val) (i : Nat)).2)) (.bool ((ofV (bl5.map GngA.val) (i : Nat)).2)) false]))) (alA (al1 q348) (alA (al1 (fun h => h rfl)) (al1 (bool_same _)))) (ds_ (f_ (at_skip (done_block (ds_ (qa [(1, .fit)] [2, 7, 17, 20] [(23, .int .i64 (i + 1 : Nat))] ([Fit .i64 ((i + 1 : Nat))]) (al1 (fit64 (by omega) (by omega))) ?_))))))))))))))))))))
        exact dr [2, 7, 17, 20, 23] (i + 1) ⟨by omega, by omega⟩
      ·
       by_cases q363 : ((n336 : Nat) : Int) = (2 : Int)
       ·
        refine ao_ (qo0 2 [(0, .go (owns 1 0 1))] [2, 7, 17, 20, 23, 24, 25] [(136, .agg #[.slice q326 n326 c326]), (137, .int .i64 (i : Nat))] (cD (.tuple #[.int .i64 ((ofV (bl326.map GngA.val) (i : Nat)).1), .bool false]) Try.call22 (fun w hw => by have := gof_t q326 n326 c326 bl326 (i : Nat) w (SlO.sub hO326 hw (List.Sublist.cons _ (List.Sublist.cons _ (List.Sublist.trans (List.sublist_append_left Y326 _) (List.sublist_append_right Y336 _))))) hO326.len (by have := hO326.len; have := hf326.1; omega) (GotG.reads hG326 hw (List.Sublist.cons _ (List.Sublist.cons _ (List.Sublist.trans (List.Sublist.trans (List.sublist_append_left Yz326 _) (List.sublist_append_right Y326 _)) (List.sublist_append_right Y336 _))))) hf326.2; rw [bk_alone hgV hL (of_decide_eq_true q349) (by omega)] at this; exact this) (qo0 5 [] [2, 7, 17, 20, 23, 24, 25] [(26, .int .i64 ((ofV (bl326.map GngA.val) (i : Nat)).1)), (27, .bool false)] (on_ (ds_ (sq_ (ao_ (qo0 2 [] [2, 7, 17, 20, 23, 24, 25, 26, 27] [(141, .slice q336 n336 c336), (142, .int .i64 (i : Nat))] (cD (.bool true) Try.call15 (fun w hw => by have := contains_t q336 n336 c336 (ownV (bl5.map GngA.val) k) ((i : Nat) : Int) w (hO336.atN (A := [_, _]) hw) hO336.len (by rw [hO336.len]; exact own_len hgV); rw [q349] at this; exact this) (qo 6 [(6, .yes)] [2, 7, 17, 20, 23, 24, 25, 26, 27] [(28, .bool true)] ([((n336 : Nat) : Int) = (2 : Int)]) (al1 q363) (on_ (ds_ (sq_ (qa [(2, .yes)] [2, 7, 17, 20, 23] [(171, .bool false)] ([((i : Nat) : Int) ≠ (k : Int)]) (al1 q348) (ds_ (f_ (at_skip (done_block (ds_ (qa [(1, .fit)] [2, 7, 17, 20] [(23, .int .i64 (i + 1 : Nat))] ([Fit .i64 ((i + 1 : Nat))]) (al1 (fit64 (by omega) (by omega))) ?_))))))))))))))))))))
        exact dr [2, 7, 17, 20, 23] (i + 1) ⟨by omega, by omega⟩
       ·
        refine ao_ (qo0 2 [(0, .go (owns 1 0 1))] [2, 7, 17, 20, 23, 24, 25] [(136, .agg #[.slice q326 n326 c326]), (137, .int .i64 (i : Nat))] (cD (.tuple #[.int .i64 ((ofV (bl5.map GngA.val) (i : Nat)).1), .bool ((ofV (bl5.map GngA.val) (i : Nat)).2)]) Try.call22 (fun w hw => by have := gof_t q326 n326 c326 bl326 (i : Nat) w (SlO.sub hO326 hw (List.Sublist.cons _ (List.Sublist.cons _ (List.Sublist.trans (List.sublist_append_left Y326 _) (List.sublist_append_right Y336 _))))) hO326.len (by have := hO326.len; have := hf326.1; omega) (GotG.reads hG326 hw (List.Sublist.cons _ (List.Sublist.cons _ (List.Sublist.trans (List.Sublist.trans (List.sublist_append_left Yz326 _) (List.sublist_append_right Y326 _)) (List.sublist_append_right Y336 _))))) hf326.2; rw [← bk_other hgV hL (n := ((i : Nat) : Int)) q348 (fun e => absurd e.2 (by omega))] at this; exact this) (qo0 5 [] [2, 7, 17, 20, 23, 24, 25] [(26, .int .i64 ((ofV (bl5.map GngA.val) (i : Nat)).1)), (27, .bool ((ofV (bl5.map GngA.val) (i : Nat)).2))] (on_ (ds_ (sq_ (ao_ (qo0 2 [] [2, 7, 17, 20, 23, 24, 25, 26, 27] [(141, .slice q336 n336 c336), (142, .int .i64 (i : Nat))] (cD (.bool true) Try.call15 (fun w hw => by have := contains_t q336 n336 c336 (ownV (bl5.map GngA.val) k) ((i : Nat) : Int) w (hO336.atN (A := [_, _]) hw) hO336.len (by rw [hO336.len]; exact own_len hgV); rw [q349] at this; exact this) (qo 6 [(6, .no)] [2, 7, 17, 20, 23, 24, 25, 26, 27] [(28, .bool false)] ([¬ (((n336 : Nat) : Int) = (2 : Int))]) (al1 q363) (on_ (ds_ (sq_ (qa [(2, .yes), (10, .no), (14, .eqs false)] [2, 7, 17, 20, 23] [(171, .bool false)] ([((i : Nat) : Int) ≠ (k : Int)] ++ ([¬ (((ofV (bl5.map GngA.val) (i : Nat)).1 : Int) ≠ ((ofV (bl5.map GngA.val) (i : Nat)).1 : Int))] ++ ([EqRun Try.prog .neq 4 (.tmp 161) (.tmp 162) (.bool ((ofV (bl5.map GngA.val) (i : Nat)).2)) (.bool ((ofV (bl5.map GngA.val) (i : Nat)).2)) false]))) (alA (al1 q348) (alA (al1 (fun h => h rfl)) (al1 (bool_same _)))) (ds_ (f_ (at_skip (done_block (ds_ (qa [(1, .fit)] [2, 7, 17, 20] [(23, .int .i64 (i + 1 : Nat))] ([Fit .i64 ((i + 1 : Nat))]) (al1 (fit64 (by omega) (by omega))) ?_))))))))))))))))))))
        exact dr [2, 7, 17, 20, 23] (i + 1) ⟨by omega, by omega⟩
     ·
      rcases q376 : decide (((i : Nat) : Int) ∈ ownV (bl5.map GngA.val) k) with _ | _
      ·
       by_cases q377 : ((n336 : Nat) : Int) = (2 : Int)
       ·
        refine ao_ (qo0 2 [(0, .go (owns 1 0 1))] [2, 7, 17, 20, 23, 24, 25] [(136, .agg #[.slice q326 n326 c326]), (137, .int .i64 (i : Nat))] (cD (.tuple #[.int .i64 ((ofV (bl326.map GngA.val) (i : Nat)).1), .bool ((ofV (bl326.map GngA.val) (i : Nat)).2)]) Try.call22 (fun w hw => gof_t q326 n326 c326 bl326 (i : Nat) w (SlO.sub hO326 hw (List.Sublist.cons _ (List.Sublist.cons _ (List.Sublist.trans (List.sublist_append_left Y326 _) (List.sublist_append_right Y336 _))))) hO326.len (by have := hO326.len; have := hf326.1; omega) (GotG.reads hG326 hw (List.Sublist.cons _ (List.Sublist.cons _ (List.Sublist.trans (List.Sublist.trans (List.sublist_append_left Yz326 _) (List.sublist_append_right Y326 _)) (List.sublist_append_right Y336 _))))) hf326.2) (qo0 5 [] [2, 7, 17, 20, 23, 24, 25] [(26, .int .i64 ((ofV (bl326.map GngA.val) (i : Nat)).1)), (27, .bool ((ofV (bl326.map GngA.val) (i : Nat)).2))] (on_ (ds_ (sq_ (ao_ (qo0 2 [] [2, 7, 17, 20, 23, 24, 25, 26, 27] [(141, .slice q336 n336 c336), (142, .int .i64 (i : Nat))] (cD (.bool false) Try.call15 (fun w hw => by have := contains_t q336 n336 c336 (ownV (bl5.map GngA.val) k) ((i : Nat) : Int) w (hO336.atN (A := [_, _]) hw) hO336.len (by rw [hO336.len]; exact own_len hgV); rw [q376] at this; exact this) (qo0 6 [] [2, 7, 17, 20, 23, 24, 25, 26, 27] [(28, .bool false)] (on_ (ds_ (sq_ (qa [(2, .no)] [2, 7, 17, 20, 23] [(171, .bool false)] ([¬ (((i : Nat) : Int) ≠ (k : Int))]) (al1 q348) (ds_ (f_ (at_skip (done_block (ds_ (qa [(1, .fit)] [2, 7, 17, 20] [(23, .int .i64 (i + 1 : Nat))] ([Fit .i64 ((i + 1 : Nat))]) (al1 (fit64 (by omega) (by omega))) ?_))))))))))))))))))))
        exact dr [2, 7, 17, 20, 23] (i + 1) ⟨by omega, by omega⟩
       ·
        refine ao_ (qo0 2 [(0, .go (owns 1 0 1))] [2, 7, 17, 20, 23, 24, 25] [(136, .agg #[.slice q326 n326 c326]), (137, .int .i64 (i : Nat))] (cD (.tuple #[.int .i64 ((ofV (bl326.map GngA.val) (i : Nat)).1), .bool ((ofV (bl326.map GngA.val) (i : Nat)).2)]) Try.call22 (fun w hw => gof_t q326 n326 c326 bl326 (i : Nat) w (SlO.sub hO326 hw (List.Sublist.cons _ (List.Sublist.cons _ (List.Sublist.trans (List.sublist_append_left Y326 _) (List.sublist_append_right Y336 _))))) hO326.len (by have := hO326.len; have := hf326.1; omega) (GotG.reads hG326 hw (List.Sublist.cons _ (List.Sublist.cons _ (List.Sublist.trans (List.Sublist.trans (List.sublist_append_left Yz326 _) (List.sublist_append_right Y326 _)) (List.sublist_append_right Y336 _))))) hf326.2) (qo0 5 [] [2, 7, 17, 20, 23, 24, 25] [(26, .int .i64 ((ofV (bl326.map GngA.val) (i : Nat)).1)), (27, .bool ((ofV (bl326.map GngA.val) (i : Nat)).2))] (on_ (ds_ (sq_ (ao_ (qo0 2 [] [2, 7, 17, 20, 23, 24, 25, 26, 27] [(141, .slice q336 n336 c336), (142, .int .i64 (i : Nat))] (cD (.bool false) Try.call15 (fun w hw => by have := contains_t q336 n336 c336 (ownV (bl5.map GngA.val) k) ((i : Nat) : Int) w (hO336.atN (A := [_, _]) hw) hO336.len (by rw [hO336.len]; exact own_len hgV); rw [q376] at this; exact this) (qo0 6 [] [2, 7, 17, 20, 23, 24, 25, 26, 27] [(28, .bool false)] (on_ (ds_ (sq_ (qa [(2, .no)] [2, 7, 17, 20, 23] [(171, .bool false)] ([¬ (((i : Nat) : Int) ≠ (k : Int))]) (al1 q348) (ds_ (f_ (at_skip (done_block (ds_ (qa [(1, .fit)] [2, 7, 17, 20] [(23, .int .i64 (i + 1 : Nat))] ([Fit .i64 ((i + 1 : Nat))]) (al1 (fit64 (by omega) (by omega))) ?_))))))))))))))))))))
        exact dr [2, 7, 17, 20, 23] (i + 1) ⟨by omega, by omega⟩
      ·
       by_cases q390 : ((n336 : Nat) : Int) = (2 : Int)
       ·
        refine ao_ (qo0 2 [(0, .go (owns 1 0 1))] [2, 7, 17, 20, 23, 24, 25] [(136, .agg #[.slice q326 n326 c326]), (137, .int .i64 (i : Nat))] (cD (.tuple #[.int .i64 ((ofV (bl326.map GngA.val) (i : Nat)).1), .bool false]) Try.call22 (fun w hw => by have := gof_t q326 n326 c326 bl326 (i : Nat) w (SlO.sub hO326 hw (List.Sublist.cons _ (List.Sublist.cons _ (List.Sublist.trans (List.sublist_append_left Y326 _) (List.sublist_append_right Y336 _))))) hO326.len (by have := hO326.len; have := hf326.1; omega) (GotG.reads hG326 hw (List.Sublist.cons _ (List.Sublist.cons _ (List.Sublist.trans (List.Sublist.trans (List.sublist_append_left Yz326 _) (List.sublist_append_right Y326 _)) (List.sublist_append_right Y336 _))))) hf326.2; rw [bk_alone hgV hL (of_decide_eq_true q376) (by omega)] at this; exact this) (qo0 5 [] [2, 7, 17, 20, 23, 24, 25] [(26, .int .i64 ((ofV (bl326.map GngA.val) (i : Nat)).1)), (27, .bool false)] (on_ (ds_ (sq_ (ao_ (qo0 2 [] [2, 7, 17, 20, 23, 24, 25, 26, 27] [(141, .slice q336 n336 c336), (142, .int .i64 (i : Nat))] (cD (.bool true) Try.call15 (fun w hw => by have := contains_t q336 n336 c336 (ownV (bl5.map GngA.val) k) ((i : Nat) : Int) w (hO336.atN (A := [_, _]) hw) hO336.len (by rw [hO336.len]; exact own_len hgV); rw [q376] at this; exact this) (qo 6 [(6, .yes)] [2, 7, 17, 20, 23, 24, 25, 26, 27] [(28, .bool true)] ([((n336 : Nat) : Int) = (2 : Int)]) (al1 q390) (on_ (ds_ (sq_ (qa [(2, .no)] [2, 7, 17, 20, 23] [(171, .bool false)] ([¬ (((i : Nat) : Int) ≠ (k : Int))]) (al1 q348) (ds_ (f_ (at_skip (done_block (ds_ (qa [(1, .fit)] [2, 7, 17, 20] [(23, .int .i64 (i + 1 : Nat))] ([Fit .i64 ((i + 1 : Nat))]) (al1 (fit64 (by omega) (by omega))) ?_))))))))))))))))))))
        exact dr [2, 7, 17, 20, 23] (i + 1) ⟨by omega, by omega⟩
       ·
        refine ao_ (qo0 2 [(0, .go (owns 1 0 1))] [2, 7, 17, 20, 23, 24, 25] [(136, .agg #[.slice q326 n326 c326]), (137, .int .i64 (i : Nat))] (cD (.tuple #[.int .i64 ((ofV (bl326.map GngA.val) (i : Nat)).1), .bool ((ofV (bl326.map GngA.val) (i : Nat)).2)]) Try.call22 (fun w hw => gof_t q326 n326 c326 bl326 (i : Nat) w (SlO.sub hO326 hw (List.Sublist.cons _ (List.Sublist.cons _ (List.Sublist.trans (List.sublist_append_left Y326 _) (List.sublist_append_right Y336 _))))) hO326.len (by have := hO326.len; have := hf326.1; omega) (GotG.reads hG326 hw (List.Sublist.cons _ (List.Sublist.cons _ (List.Sublist.trans (List.Sublist.trans (List.sublist_append_left Yz326 _) (List.sublist_append_right Y326 _)) (List.sublist_append_right Y336 _))))) hf326.2) (qo0 5 [] [2, 7, 17, 20, 23, 24, 25] [(26, .int .i64 ((ofV (bl326.map GngA.val) (i : Nat)).1)), (27, .bool ((ofV (bl326.map GngA.val) (i : Nat)).2))] (on_ (ds_ (sq_ (ao_ (qo0 2 [] [2, 7, 17, 20, 23, 24, 25, 26, 27] [(141, .slice q336 n336 c336), (142, .int .i64 (i : Nat))] (cD (.bool true) Try.call15 (fun w hw => by have := contains_t q336 n336 c336 (ownV (bl5.map GngA.val) k) ((i : Nat) : Int) w (hO336.atN (A := [_, _]) hw) hO336.len (by rw [hO336.len]; exact own_len hgV); rw [q376] at this; exact this) (qo 6 [(6, .no)] [2, 7, 17, 20, 23, 24, 25, 26, 27] [(28, .bool false)] ([¬ (((n336 : Nat) : Int) = (2 : Int))]) (al1 q390) (on_ (ds_ (sq_ (qa [(2, .no)] [2, 7, 17, 20, 23] [(171, .bool false)] ([¬ (((i : Nat) : Int) ≠ (k : Int))]) (al1 q348) (ds_ (f_ (at_skip (done_block (ds_ (qa [(1, .fit)] [2, 7, 17, 20] [(23, .int .i64 (i + 1 : Nat))] ([Fit .i64 ((i + 1 : Nat))]) (al1 (fit64 (by omega) (by omega))) ?_))))))))))))))))))))
        exact dr [2, 7, 17, 20, 23] (i + 1) ⟨by omega, by omega⟩
    ·
     refine qa [(1, .no)] [2, 7, 17, 20, 23] [(126, .bool false)] ([¬ (((i : Nat) : Int) ≤ (16 : Int))]) (al1 q344) (ds_ (f_ (at_leave _ rfl (ds_ (sq_ (qa0 [] [] [(6, .bool true)] (ds_ (rt ([]) (.bool true) ?_))))))))
     exact fun w' hw => ⟨rfl, hw.below⟩
 ·
  refine qa [(1, .no)] [1, 2, 7, 8, 9] [(42, .bool false)] ([¬ ((er70 : Int) = (0 : Int))]) (al1 q296) (ds_ (f_ (at_skip (ds_ (sq_ (ao_ (qo0 2 [(0, .go (owns 1 0 1))] [2, 7] [(93, .agg #[.slice q5 n5 c5]), (94, .int .i64 k)] (cP (fun v L' => ∃ er q_ n_ c_ Y_ Z_ bl_, v = .tuple #[.agg #[.slice q_ n_ c_], .int .i64 er] ∧ L' = List.take 3 (bx (γ170 0) (#[.slice q70 n70 c70]) 38 :: bx (γ6 0) (#[.slice q5 n5 c5]) 38 :: bx (γ1 0) (#[.slice q m capq]) 38 :: (Y50 ++ (Y70 ++ (Yz70 ++ (Y5 ++ (Yz5 ++ [])))))) ++ (Y_ ++ (Z_ ++ List.drop 3 (bx (γ170 0) (#[.slice q70 n70 c70]) 38 :: bx (γ6 0) (#[.slice q5 n5 c5]) 38 :: bx (γ1 0) (#[.slice q m capq]) 38 :: (Y50 ++ (Y70 ++ (Yz70 ++ (Y5 ++ (Yz5 ++ [])))))))) ∧ SlO 46 Y_ q_ n_ c_ bl_ ∧ GotG 3 Z_ bl_ ∧ (bl_.map GngA.val, er) = movG (bl5.map GngA.val) (leaveC (bl5.map GngA.val) k)) Try.call33 (fun w hw => (leave_t q5 n5 c5 bl5 k w (SlO.sub hO5 hw (List.Sublist.cons _ (List.Sublist.cons _ (List.Sublist.cons _ (List.Sublist.trans (List.Sublist.trans (List.Sublist.trans (List.sublist_append_left Y5 _) (List.sublist_append_right Yz70 _)) (List.sublist_append_right Y70 _)) (List.sublist_append_right Y50 _)))))) hO5.len (by have := hO5.len; have := hf5.1; omega) (GotG.reads hG5 hw (List.Sublist.cons _ (List.Sublist.cons _ (List.Sublist.cons _ (List.Sublist.trans (List.Sublist.trans (List.Sublist.trans (List.Sublist.trans (List.sublist_append_left Yz5 _) (List.sublist_append_right Y5 _)) (List.sublist_append_right Yz70 _)) (List.sublist_append_right Y70 _)) (List.sublist_append_right Y50 _)))))) hf5.2).mono fun e w' ⟨er, q_, n_, c_, Y_, Z_, bl_, he, hv, hO, hG, hb, hY⟩ => ⟨_, _, he, ⟨er, q_, n_, c_, Y_, Z_, bl_, rfl, rfl, hO, hG, hv⟩, hs_re (hw.join hb hY 3)⟩) ?_))))))))
  rintro v407 L407 ⟨er407, q407, n407, c407, Y407, Yz407, bl407, rfl, rfl, hO407, hG407, hV407⟩
  refine mo0 6 [(7, .go (owns 0 0 1))] [2, 7] (fun γ408 => [(10, .int .i64 er407), (17, .pointer (some ⟨γ408 0, 0, none⟩))]) (fun γ408 L => bx (γ408 0) (#[.slice q407 n407 c407]) 38 :: L) (fun γ408 => on_ (ds_ (sq_ (sq_ ?_))))
  by_cases q410 : (er407 : Int) ≠ (0 : Int)
  ·
   refine qa [(1, .yes)] [2, 7, 17] [(99, .bool true)] ([(er407 : Int) ≠ (0 : Int)]) (al1 q410) (ds_ (t_ (sq_ ?_)))
   have hz := mov_nil hV407 q410
   have hzl := hO407.len
   refine qa [(1, .go (owns 0 0 1)), (3, .yes)] [] [(6, .bool true)] ([((n407 : Nat) : Int) = (0 : Int)]) (al1 (by omega)) (ds_ (rt ([]) (.bool true) ?_))
   exact fun w' hw => ⟨rfl, hw.below⟩
  ·
   refine qa [(1, .no)] [2, 7, 17] [(99, .bool false)] ([¬ ((er407 : Int) ≠ (0 : Int))]) (al1 q410) (ds_ (f_ (at_skip (ds_ (sq_ ?_)))))
   have hM := hV407
   rw [show er407 = 0 by omega] at hM
   obtain ⟨hgL, hgV, hL⟩ := mov_gang (C := leaveC) (fun _ _ h => leave_gang h) hM
   have hf407 := gang_facts hG407 hgL
   refine ao_ (qo0 2 [(0, .go (owns 2 0 1))] [2, 7, 17] [(105, .agg #[.slice q5 n5 c5]), (106, .int .i64 k)] (cD (.tuple #[.int .i64 ((ofV (bl5.map GngA.val) k).1), .bool ((ofV (bl5.map GngA.val) k).2)]) Try.call22 (fun w hw => gof_t q5 n5 c5 bl5 k w (SlO.sub hO5 hw (List.Sublist.cons _ (List.Sublist.cons _ (List.Sublist.cons _ (List.Sublist.cons _ (List.Sublist.trans (List.Sublist.trans (List.Sublist.trans (List.Sublist.trans (List.Sublist.trans (List.sublist_append_left Y5 _) (List.sublist_append_right Yz70 _)) (List.sublist_append_right Y70 _)) (List.sublist_append_right Y50 _)) (List.sublist_append_right Yz407 _)) (List.sublist_append_right Y407 _))))))) hO5.len (by have := hO5.len; have := hf5.1; omega) (GotG.reads hG5 hw (List.Sublist.cons _ (List.Sublist.cons _ (List.Sublist.cons _ (List.Sublist.cons _ (List.Sublist.trans (List.Sublist.trans (List.Sublist.trans (List.Sublist.trans (List.Sublist.trans (List.Sublist.trans (List.sublist_append_left Yz5 _) (List.sublist_append_right Y5 _)) (List.sublist_append_right Yz70 _)) (List.sublist_append_right Y70 _)) (List.sublist_append_right Y50 _)) (List.sublist_append_right Yz407 _)) (List.sublist_append_right Y407 _))))))) hf5.2) (qo0 5 [] [2, 7, 17] [(18, .int .i64 ((ofV (bl5.map GngA.val) k).1))] (on_ (ds_ (sq_ (ao_ (qo0 2 [(0, .go (owns 2 0 1))] [2, 7, 17] [(110, .agg #[.slice q5 n5 c5]), (111, .int .i64 ((ofV (bl5.map GngA.val) k).1))] (cP (fun v L' => ∃ q_ n_ c_ Y_, v = .slice q_ n_ c_ ∧ L' = List.take 4 (bx (γ408 0) (#[.slice q407 n407 c407]) 38 :: bx (γ170 0) (#[.slice q70 n70 c70]) 38 :: bx (γ6 0) (#[.slice q5 n5 c5]) 38 :: bx (γ1 0) (#[.slice q m capq]) 38 :: (Y407 ++ (Yz407 ++ (Y50 ++ (Y70 ++ (Yz70 ++ (Y5 ++ (Yz5 ++ [])))))))) ++ (Y_ ++ List.drop 4 (bx (γ408 0) (#[.slice q407 n407 c407]) 38 :: bx (γ170 0) (#[.slice q70 n70 c70]) 38 :: bx (γ6 0) (#[.slice q5 n5 c5]) 38 :: bx (γ1 0) (#[.slice q m capq]) 38 :: (Y407 ++ (Yz407 ++ (Y50 ++ (Y70 ++ (Yz70 ++ (Y5 ++ (Yz5 ++ []))))))))) ∧ SlO 3 Y_ q_ n_ c_ (ownV (bl5.map GngA.val) k)) Try.call25 (fun w hw => (members_t q5 n5 c5 bl5 ((ofV (bl5.map GngA.val) k).1) w (SlO.sub hO5 hw (List.Sublist.cons _ (List.Sublist.cons _ (List.Sublist.cons _ (List.Sublist.cons _ (List.Sublist.trans (List.Sublist.trans (List.Sublist.trans (List.Sublist.trans (List.Sublist.trans (List.sublist_append_left Y5 _) (List.sublist_append_right Yz70 _)) (List.sublist_append_right Y70 _)) (List.sublist_append_right Y50 _)) (List.sublist_append_right Yz407 _)) (List.sublist_append_right Y407 _))))))) hO5.len (by have := hO5.len; have := hf5.1; omega) (GotG.reads hG5 hw (List.Sublist.cons _ (List.Sublist.cons _ (List.Sublist.cons _ (List.Sublist.cons _ (List.Sublist.trans (List.Sublist.trans (List.Sublist.trans (List.Sublist.trans (List.Sublist.trans (List.Sublist.trans (List.sublist_append_left Yz5 _) (List.sublist_append_right Y5 _)) (List.sublist_append_right Yz70 _)) (List.sublist_append_right Y70 _)) (List.sublist_append_right Y50 _)) (List.sublist_append_right Yz407 _)) (List.sublist_append_right Y407 _))))))) hf5.2).mono fun e w' ⟨q_, n_, c_, Y_, he, hO, hb, hY⟩ => ⟨_, _, he, ⟨q_, n_, c_, Y_, rfl, rfl, SlO.as14 hO (bk_own hgV hL)⟩, hw.join hb hY 4⟩) ?_)))))))))
   rintro v417 L417 ⟨q417, n417, c417, Y417, rfl, rfl, hO417⟩
   have hl417 := hO417.len
   refine qo0 1 [] [2, 7, 17] [(20, .slice q417 n417 c417)] (on_ (ds_ (sq_ (sq_ (ao_ (qo0 2 [(0, .go (owns 0 0 1))] [2, 7, 17, 20] [(114, .agg #[.slice q407 n407 c407]), (115, .int .i64 k)] (cD (.tuple #[.int .i64 ((ofV (bl407.map GngA.val) k).1), .bool false]) Try.call22 (fun w hw => by have := gof_t q407 n407 c407 bl407 k w (SlO.sub hO407 hw (List.Sublist.cons _ (List.Sublist.cons _ (List.Sublist.cons _ (List.Sublist.cons _ (List.Sublist.trans (List.sublist_append_left Y407 _) (List.sublist_append_right Y417 _))))))) hO407.len (by have := hO407.len; have := hf407.1; omega) (GotG.reads hG407 hw (List.Sublist.cons _ (List.Sublist.cons _ (List.Sublist.cons _ (List.Sublist.cons _ (List.Sublist.trans (List.Sublist.trans (List.sublist_append_left Yz407 _) (List.sublist_append_right Y407 _)) (List.sublist_append_right Y417 _))))))) hf407.2; rw [bk_self hgV hL] at this; exact this) (qo0 5 [] [2, 7, 17, 20] [(22, .bool false)] (on_ (ds_ (sq_ (ao_ (qo0 3 [(2, .go (owns 0 0 1))] [2, 7, 17, 20] [(120, .bool false), (121, .agg #[.slice q407 n407 c407])] (cD (.int .i64 0) Try.call18 (fun w hw => by have := gcheck_t q407 n407 c407 bl407 w (SlO.sub hO407 hw (List.Sublist.cons _ (List.Sublist.cons _ (List.Sublist.cons _ (List.Sublist.cons _ (List.Sublist.trans (List.sublist_append_left Y407 _) (List.sublist_append_right Y417 _))))))) hO407.len (by have := hO407.len; have := hf407.1; omega) (GotG.reads hG407 hw (List.Sublist.cons _ (List.Sublist.cons _ (List.Sublist.cons _ (List.Sublist.cons _ (List.Sublist.trans (List.Sublist.trans (List.sublist_append_left Yz407 _) (List.sublist_append_right Y407 _)) (List.sublist_append_right Y417 _))))))) hf407.2; rw [hgL] at this; exact this) (qo0 2 [] [2, 7, 17, 20] [(124, .bool false)] (on_ (ds_ (f_ (at_skip (ds_ (sq_ (sq_ (qa0 [] [2, 7, 17, 20] [(23, .int .i64 1)] (ds_ (at_block (At.pick [[bx (γ408 0) (#[.slice q407 n407 c407]) 38], [bx (γ170 0) (#[.slice q70 n70 c70]) 38], [bx (γ6 0) (#[.slice q5 n5 c5]) 38], [bx (γ1 0) (#[.slice q m capq]) 38], Y417, Y407, Yz407, Y50, Y70, Yz70, Y5, Yz5] [2, 0, 4, 5, 6, 10, 11] [1, 3, 7, 8, 9] (bx (γ6 0) (#[.slice q5 n5 c5]) 38 :: bx (γ408 0) (#[.slice q407 n407 c407]) 38 :: (Y417 ++ (Y407 ++ (Yz407 ++ (Y5 ++ (Yz5 ++ [])))))) (by kernel_rfl) rfl rfl (at_loop (α := Nat) [2, 7, 17, 20, 23] (fun i => [(2, .int .i64 k), (7, .pointer (some ⟨γ6 0, 0, none⟩)), (17, .pointer (some ⟨γ408 0, 0, none⟩)), (20, .slice q417 n417 c417), (23, .int .i64 (i : Nat))]) (fun i => bx (γ6 0) (#[.slice q5 n5 c5]) 38 :: bx (γ408 0) (#[.slice q407 n407 c407]) 38 :: (Y417 ++ (Y407 ++ (Yz407 ++ (Y5 ++ (Yz5 ++ [])))))) (fun i => 1 ≤ i ∧ i ≤ 17) (fun i => 17 - i) 1 (by kernel_rfl) rfl ⟨Nat.le_refl _, by decide⟩ ?_)))))))))))))))))))))))))))
   rintro i
   rintro ⟨hi, hi2⟩
   refine sq_ (sq_ ?_)
   by_cases q425 : ((i : Nat) : Int) ≤ (16 : Int)
   ·
    refine qa [(1, .yes)] [2, 7, 17, 20, 23] [(126, .bool true)] ([((i : Nat) : Int) ≤ (16 : Int)]) (al1 q425) (ds_ (t_ (at_skip (ds_ (sq_ (at_block (sq_ (ao_ (qo0 2 [(0, .go (owns 0 0 1))] [2, 7, 17, 20, 23] [(130, .agg #[.slice q5 n5 c5]), (131, .int .i64 (i : Nat))] (cD (.tuple #[.int .i64 ((ofV (bl5.map GngA.val) (i : Nat)).1), .bool ((ofV (bl5.map GngA.val) (i : Nat)).2)]) Try.call22 (fun w hw => gof_t q5 n5 c5 bl5 (i : Nat) w (SlO.sub hO5 hw (List.Sublist.cons _ (List.Sublist.cons _ (List.Sublist.trans (List.Sublist.trans (List.Sublist.trans (List.sublist_append_left Y5 _) (List.sublist_append_right Yz407 _)) (List.sublist_append_right Y407 _)) (List.sublist_append_right Y417 _))))) hO5.len (by have := hO5.len; have := hf5.1; omega) (GotG.reads hG5 hw (List.Sublist.cons _ (List.Sublist.cons _ (List.Sublist.trans (List.Sublist.trans (List.Sublist.trans (List.Sublist.trans (List.sublist_append_left Yz5 _) (List.sublist_append_right Y5 _)) (List.sublist_append_right Yz407 _)) (List.sublist_append_right Y407 _)) (List.sublist_append_right Y417 _))))) hf5.2) (qo0 5 [] [2, 7, 17, 20, 23] [(24, .int .i64 ((ofV (bl5.map GngA.val) (i : Nat)).1)), (25, .bool ((ofV (bl5.map GngA.val) (i : Nat)).2))] (on_ (ds_ (sq_ ?_))))))))))))))
    by_cases q429 : ((i : Nat) : Int) ≠ (k : Int)
    ·
     rcases q430 : decide (((i : Nat) : Int) ∈ ownV (bl5.map GngA.val) k) with _ | _
     ·
      by_cases q431 : ((n417 : Nat) : Int) = (2 : Int)
      ·
       refine ao_ (qo0 2 [(0, .go (owns 1 0 1))] [2, 7, 17, 20, 23, 24, 25] [(136, .agg #[.slice q407 n407 c407]), (137, .int .i64 (i : Nat))] (cD (.tuple #[.int .i64 ((ofV (bl5.map GngA.val) (i : Nat)).1), .bool ((ofV (bl5.map GngA.val) (i : Nat)).2)]) Try.call22 (fun w hw => by have := gof_t q407 n407 c407 bl407 (i : Nat) w (SlO.sub hO407 hw (List.Sublist.cons _ (List.Sublist.cons _ (List.Sublist.trans (List.sublist_append_left Y407 _) (List.sublist_append_right Y417 _))))) hO407.len (by have := hO407.len; have := hf407.1; omega) (GotG.reads hG407 hw (List.Sublist.cons _ (List.Sublist.cons _ (List.Sublist.trans (List.Sublist.trans (List.sublist_append_left Yz407 _) (List.sublist_append_right Y407 _)) (List.sublist_append_right Y417 _))))) hf407.2; rw [← bk_other hgV hL (n := ((i : Nat) : Int)) q429 (fun e => of_decide_eq_false q430 e.1)] at this; exact this) (qo0 5 [] [2, 7, 17, 20, 23, 24, 25] [(26, .int .i64 ((ofV (bl5.map GngA.val) (i : Nat)).1)), (27, .bool ((ofV (bl5.map GngA.val) (i : Nat)).2))] (on_ (ds_ (sq_ (ao_ (qo0 2 [] [2, 7, 17, 20, 23, 24, 25, 26, 27] [(141, .slice q417 n417 c417), (142, .int .i64 (i : Nat))] (cD (.bool false) Try.call15 (fun w hw => by have := contains_t q417 n417 c417 (ownV (bl5.map GngA.val) k) ((i : Nat) : Int) w (hO417.atN (A := [_, _]) hw) hO417.len (by rw [hO417.len]; exact own_len hgV); rw [q430] at this; exact this) (qo0 6 [] [2, 7, 17, 20, 23, 24, 25, 26, 27] [(28, .bool false)] (on_ (ds_ (sq_ (qa [(2, .yes), (10, .no), (14, .eqs false)] [2, 7, 17, 20, 23] [(171, .bool false)] ([((i : Nat) : Int) ≠ (k : Int)] ++ ([¬ (((ofV (bl5.map GngA.val) (i : Nat)).1 : Int) ≠ ((ofV (bl5.map GngA.val) (i : Nat)).1 : Int))] ++ ([EqRun Try.prog .neq 4 (.tmp 161) (.tmp 162) (.bool ((ofV (bl5.map GngA.val) (i : Nat)).2)) (.bool ((ofV (bl5.map GngA.val) (i : Nat)).2)) false]))) (alA (al1 q429) (alA (al1 (fun h => h rfl)) (al1 (bool_same _)))) (ds_ (f_ (at_skip (done_block (ds_ (qa [(1, .fit)] [2, 7, 17, 20] [(23, .int .i64 (i + 1 : Nat))] ([Fit .i64 ((i + 1 : Nat))]) (al1 (fit64 (by omega) (by omega))) ?_))))))))))))))))))))
       exact dr [2, 7, 17, 20, 23] (i + 1) ⟨by omega, by omega⟩
      ·
       refine ao_ (qo0 2 [(0, .go (owns 1 0 1))] [2, 7, 17, 20, 23, 24, 25] [(136, .agg #[.slice q407 n407 c407]), (137, .int .i64 (i : Nat))] (cD (.tuple #[.int .i64 ((ofV (bl5.map GngA.val) (i : Nat)).1), .bool ((ofV (bl5.map GngA.val) (i : Nat)).2)]) Try.call22 (fun w hw => by have := gof_t q407 n407 c407 bl407 (i : Nat) w (SlO.sub hO407 hw (List.Sublist.cons _ (List.Sublist.cons _ (List.Sublist.trans (List.sublist_append_left Y407 _) (List.sublist_append_right Y417 _))))) hO407.len (by have := hO407.len; have := hf407.1; omega) (GotG.reads hG407 hw (List.Sublist.cons _ (List.Sublist.cons _ (List.Sublist.trans (List.Sublist.trans (List.sublist_append_left Yz407 _) (List.sublist_append_right Y407 _)) (List.sublist_append_right Y417 _))))) hf407.2; rw [← bk_other hgV hL (n := ((i : Nat) : Int)) q429 (fun e => of_decide_eq_false q430 e.1)] at this; exact this) (qo0 5 [] [2, 7, 17, 20, 23, 24, 25] [(26, .int .i64 ((ofV (bl5.map GngA.val) (i : Nat)).1)), (27, .bool ((ofV (bl5.map GngA.val) (i : Nat)).2))] (on_ (ds_ (sq_ (ao_ (qo0 2 [] [2, 7, 17, 20, 23, 24, 25, 26, 27] [(141, .slice q417 n417 c417), (142, .int .i64 (i : Nat))] (cD (.bool false) Try.call15 (fun w hw => by have := contains_t q417 n417 c417 (ownV (bl5.map GngA.val) k) ((i : Nat) : Int) w (hO417.atN (A := [_, _]) hw) hO417.len (by rw [hO417.len]; exact own_len hgV); rw [q430] at this; exact this) (qo0 6 [] [2, 7, 17, 20, 23, 24, 25, 26, 27] [(28, .bool false)] (on_ (ds_ (sq_ (qa [(2, .yes), (10, .no), (14, .eqs false)] [2, 7, 17, 20, 23] [(171, .bool false)] ([((i : Nat) : Int) ≠ (k : Int)] ++ ([¬ (((ofV (bl5.map GngA.val) (i : Nat)).1 : Int) ≠ ((ofV (bl5.map GngA.val) (i : Nat)).1 : Int))] ++ ([EqRun Try.prog .neq 4 (.tmp 161) (.tmp 162) (.bool ((ofV (bl5.map GngA.val) (i : Nat)).2)) (.bool ((ofV (bl5.map GngA.val) (i : Nat)).2)) false]))) (alA (al1 q429) (alA (al1 (fun h => h rfl)) (al1 (bool_same _)))) (ds_ (f_ (at_skip (done_block (ds_ (qa [(1, .fit)] [2, 7, 17, 20] [(23, .int .i64 (i + 1 : Nat))] ([Fit .i64 ((i + 1 : Nat))]) (al1 (fit64 (by omega) (by omega))) ?_))))))))))))))))))))
       exact dr [2, 7, 17, 20, 23] (i + 1) ⟨by omega, by omega⟩
     ·
      by_cases q444 : ((n417 : Nat) : Int) = (2 : Int)
      ·
       refine ao_ (qo0 2 [(0, .go (owns 1 0 1))] [2, 7, 17, 20, 23, 24, 25] [(136, .agg #[.slice q407 n407 c407]), (137, .int .i64 (i : Nat))] (cD (.tuple #[.int .i64 ((ofV (bl407.map GngA.val) (i : Nat)).1), .bool false]) Try.call22 (fun w hw => by have := gof_t q407 n407 c407 bl407 (i : Nat) w (SlO.sub hO407 hw (List.Sublist.cons _ (List.Sublist.cons _ (List.Sublist.trans (List.sublist_append_left Y407 _) (List.sublist_append_right Y417 _))))) hO407.len (by have := hO407.len; have := hf407.1; omega) (GotG.reads hG407 hw (List.Sublist.cons _ (List.Sublist.cons _ (List.Sublist.trans (List.Sublist.trans (List.sublist_append_left Yz407 _) (List.sublist_append_right Y407 _)) (List.sublist_append_right Y417 _))))) hf407.2; rw [bk_alone hgV hL (of_decide_eq_true q430) (by omega)] at this; exact this) (qo0 5 [] [2, 7, 17, 20, 23, 24, 25] [(26, .int .i64 ((ofV (bl407.map GngA.val) (i : Nat)).1)), (27, .bool false)] (on_ (ds_ (sq_ (ao_ (qo0 2 [] [2, 7, 17, 20, 23, 24, 25, 26, 27] [(141, .slice q417 n417 c417), (142, .int .i64 (i : Nat))] (cD (.bool true) Try.call15 (fun w hw => by have := contains_t q417 n417 c417 (ownV (bl5.map GngA.val) k) ((i : Nat) : Int) w (hO417.atN (A := [_, _]) hw) hO417.len (by rw [hO417.len]; exact own_len hgV); rw [q430] at this; exact this) (qo 6 [(6, .yes)] [2, 7, 17, 20, 23, 24, 25, 26, 27] [(28, .bool true)] ([((n417 : Nat) : Int) = (2 : Int)]) (al1 q444) (on_ (ds_ (sq_ (qa [(2, .yes)] [2, 7, 17, 20, 23] [(171, .bool false)] ([((i : Nat) : Int) ≠ (k : Int)]) (al1 q429) (ds_ (f_ (at_skip (done_block (ds_ (qa [(1, .fit)] [2, 7, 17, 20] [(23, .int .i64 (i + 1 : Nat))] ([Fit .i64 ((i + 1 : Nat))]) (al1 (fit64 (by omega) (by omega))) ?_))))))))))))))))))))
       exact dr [2, 7, 17, 20, 23] (i + 1) ⟨by omega, by omega⟩
      ·
       refine ao_ (qo0 2 [(0, .go (owns 1 0 1))] [2, 7, 17, 20, 23, 24, 25] [(136, .agg #[.slice q407 n407 c407]), (137, .int .i64 (i : Nat))] (cD (.tuple #[.int .i64 ((ofV (bl5.map GngA.val) (i : Nat)).1), .bool ((ofV (bl5.map GngA.val) (i : Nat)).2)]) Try.call22 (fun w hw => by have := gof_t q407 n407 c407 bl407 (i : Nat) w (SlO.sub hO407 hw (List.Sublist.cons _ (List.Sublist.cons _ (List.Sublist.trans (List.sublist_append_left Y407 _) (List.sublist_append_right Y417 _))))) hO407.len (by have := hO407.len; have := hf407.1; omega) (GotG.reads hG407 hw (List.Sublist.cons _ (List.Sublist.cons _ (List.Sublist.trans (List.Sublist.trans (List.sublist_append_left Yz407 _) (List.sublist_append_right Y407 _)) (List.sublist_append_right Y417 _))))) hf407.2; rw [← bk_other hgV hL (n := ((i : Nat) : Int)) q429 (fun e => absurd e.2 (by omega))] at this; exact this) (qo0 5 [] [2, 7, 17, 20, 23, 24, 25] [(26, .int .i64 ((ofV (bl5.map GngA.val) (i : Nat)).1)), (27, .bool ((ofV (bl5.map GngA.val) (i : Nat)).2))] (on_ (ds_ (sq_ (ao_ (qo0 2 [] [2, 7, 17, 20, 23, 24, 25, 26, 27] [(141, .slice q417 n417 c417), (142, .int .i64 (i : Nat))] (cD (.bool true) Try.call15 (fun w hw => by have := contains_t q417 n417 c417 (ownV (bl5.map GngA.val) k) ((i : Nat) : Int) w (hO417.atN (A := [_, _]) hw) hO417.len (by rw [hO417.len]; exact own_len hgV); rw [q430] at this; exact this) (qo 6 [(6, .no)] [2, 7, 17, 20, 23, 24, 25, 26, 27] [(28, .bool false)] ([¬ (((n417 : Nat) : Int) = (2 : Int))]) (al1 q444) (on_ (ds_ (sq_ (qa [(2, .yes), (10, .no), (14, .eqs false)] [2, 7, 17, 20, 23] [(171, .bool false)] ([((i : Nat) : Int) ≠ (k : Int)] ++ ([¬ (((ofV (bl5.map GngA.val) (i : Nat)).1 : Int) ≠ ((ofV (bl5.map GngA.val) (i : Nat)).1 : Int))] ++ ([EqRun Try.prog .neq 4 (.tmp 161) (.tmp 162) (.bool ((ofV (bl5.map GngA.val) (i : Nat)).2)) (.bool ((ofV (bl5.map GngA.val) (i : Nat)).2)) false]))) (alA (al1 q429) (alA (al1 (fun h => h rfl)) (al1 (bool_same _)))) (ds_ (f_ (at_skip (done_block (ds_ (qa [(1, .fit)] [2, 7, 17, 20] [(23, .int .i64 (i + 1 : Nat))] ([Fit .i64 ((i + 1 : Nat))]) (al1 (fit64 (by omega) (by omega))) ?_))))))))))))))))))))
       exact dr [2, 7, 17, 20, 23] (i + 1) ⟨by omega, by omega⟩
    ·
     rcases q457 : decide (((i : Nat) : Int) ∈ ownV (bl5.map GngA.val) k) with _ | _
     ·
      by_cases q458 : ((n417 : Nat) : Int) = (2 : Int)
      ·
       refine ao_ (qo0 2 [(0, .go (owns 1 0 1))] [2, 7, 17, 20, 23, 24, 25] [(136, .agg #[.slice q407 n407 c407]), (137, .int .i64 (i : Nat))] (cD (.tuple #[.int .i64 ((ofV (bl407.map GngA.val) (i : Nat)).1), .bool ((ofV (bl407.map GngA.val) (i : Nat)).2)]) Try.call22 (fun w hw => gof_t q407 n407 c407 bl407 (i : Nat) w (SlO.sub hO407 hw (List.Sublist.cons _ (List.Sublist.cons _ (List.Sublist.trans (List.sublist_append_left Y407 _) (List.sublist_append_right Y417 _))))) hO407.len (by have := hO407.len; have := hf407.1; omega) (GotG.reads hG407 hw (List.Sublist.cons _ (List.Sublist.cons _ (List.Sublist.trans (List.Sublist.trans (List.sublist_append_left Yz407 _) (List.sublist_append_right Y407 _)) (List.sublist_append_right Y417 _))))) hf407.2) (qo0 5 [] [2, 7, 17, 20, 23, 24, 25] [(26, .int .i64 ((ofV (bl407.map GngA.val) (i : Nat)).1)), (27, .bool ((ofV (bl407.map GngA.val) (i : Nat)).2))] (on_ (ds_ (sq_ (ao_ (qo0 2 [] [2, 7, 17, 20, 23, 24, 25, 26, 27] [(141, .slice q417 n417 c417), (142, .int .i64 (i : Nat))] (cD (.bool false) Try.call15 (fun w hw => by have := contains_t q417 n417 c417 (ownV (bl5.map GngA.val) k) ((i : Nat) : Int) w (hO417.atN (A := [_, _]) hw) hO417.len (by rw [hO417.len]; exact own_len hgV); rw [q457] at this; exact this) (qo0 6 [] [2, 7, 17, 20, 23, 24, 25, 26, 27] [(28, .bool false)] (on_ (ds_ (sq_ (qa [(2, .no)] [2, 7, 17, 20, 23] [(171, .bool false)] ([¬ (((i : Nat) : Int) ≠ (k : Int))]) (al1 q429) (ds_ (f_ (at_skip (done_block (ds_ (qa [(1, .fit)] [2, 7, 17, 20] [(23, .int .i64 (i + 1 : Nat))] ([Fit .i64 ((i + 1 : Nat))]) (al1 (fit64 (by omega) (by omega))) ?_))))))))))))))))))))
       exact dr [2, 7, 17, 20, 23] (i + 1) ⟨by omega, by omega⟩
      ·
       refine ao_ (qo0 2 [(0, .go (owns 1 0 1))] [2, 7, 17, 20, 23, 24, 25] [(136, .agg #[.slice q407 n407 c407]), (137, .int .i64 (i : Nat))] (cD (.tuple #[.int .i64 ((ofV (bl407.map GngA.val) (i : Nat)).1), .bool ((ofV (bl407.map GngA.val) (i : Nat)).2)]) Try.call22 (fun w hw => gof_t q407 n407 c407 bl407 (i : Nat) w (SlO.sub hO407 hw (List.Sublist.cons _ (List.Sublist.cons _ (List.Sublist.trans (List.sublist_append_left Y407 _) (List.sublist_append_right Y417 _))))) hO407.len (by have := hO407.len; have := hf407.1; omega) (GotG.reads hG407 hw (List.Sublist.cons _ (List.Sublist.cons _ (List.Sublist.trans (List.Sublist.trans (List.sublist_append_left Yz407 _) (List.sublist_append_right Y407 _)) (List.sublist_append_right Y417 _))))) hf407.2) (qo0 5 [] [2, 7, 17, 20, 23, 24, 25] [(26, .int .i64 ((ofV (bl407.map GngA.val) (i : Nat)).1)), (27, .bool ((ofV (bl407.map GngA.val) (i : Nat)).2))] (on_ (ds_ (sq_ (ao_ (qo0 2 [] [2, 7, 17, 20, 23, 24, 25, 26, 27] [(141, .slice q417 n417 c417), (142, .int .i64 (i : Nat))] (cD (.bool false) Try.call15 (fun w hw => by have := contains_t q417 n417 c417 (ownV (bl5.map GngA.val) k) ((i : Nat) : Int) w (hO417.atN (A := [_, _]) hw) hO417.len (by rw [hO417.len]; exact own_len hgV); rw [q457] at this; exact this) (qo0 6 [] [2, 7, 17, 20, 23, 24, 25, 26, 27] [(28, .bool false)] (on_ (ds_ (sq_ (qa [(2, .no)] [2, 7, 17, 20, 23] [(171, .bool false)] ([¬ (((i : Nat) : Int) ≠ (k : Int))]) (al1 q429) (ds_ (f_ (at_skip (done_block (ds_ (qa [(1, .fit)] [2, 7, 17, 20] [(23, .int .i64 (i + 1 : Nat))] ([Fit .i64 ((i + 1 : Nat))]) (al1 (fit64 (by omega) (by omega))) ?_))))))))))))))))))))
       exact dr [2, 7, 17, 20, 23] (i + 1) ⟨by omega, by omega⟩
     ·
      by_cases q471 : ((n417 : Nat) : Int) = (2 : Int)
      ·
       refine ao_ (qo0 2 [(0, .go (owns 1 0 1))] [2, 7, 17, 20, 23, 24, 25] [(136, .agg #[.slice q407 n407 c407]), (137, .int .i64 (i : Nat))] (cD (.tuple #[.int .i64 ((ofV (bl407.map GngA.val) (i : Nat)).1), .bool false]) Try.call22 (fun w hw => by have := gof_t q407 n407 c407 bl407 (i : Nat) w (SlO.sub hO407 hw (List.Sublist.cons _ (List.Sublist.cons _ (List.Sublist.trans (List.sublist_append_left Y407 _) (List.sublist_append_right Y417 _))))) hO407.len (by have := hO407.len; have := hf407.1; omega) (GotG.reads hG407 hw (List.Sublist.cons _ (List.Sublist.cons _ (List.Sublist.trans (List.Sublist.trans (List.sublist_append_left Yz407 _) (List.sublist_append_right Y407 _)) (List.sublist_append_right Y417 _))))) hf407.2; rw [bk_alone hgV hL (of_decide_eq_true q457) (by omega)] at this; exact this) (qo0 5 [] [2, 7, 17, 20, 23, 24, 25] [(26, .int .i64 ((ofV (bl407.map GngA.val) (i : Nat)).1)), (27, .bool false)] (on_ (ds_ (sq_ (ao_ (qo0 2 [] [2, 7, 17, 20, 23, 24, 25, 26, 27] [(141, .slice q417 n417 c417), (142, .int .i64 (i : Nat))] (cD (.bool true) Try.call15 (fun w hw => by have := contains_t q417 n417 c417 (ownV (bl5.map GngA.val) k) ((i : Nat) : Int) w (hO417.atN (A := [_, _]) hw) hO417.len (by rw [hO417.len]; exact own_len hgV); rw [q457] at this; exact this) (qo 6 [(6, .yes)] [2, 7, 17, 20, 23, 24, 25, 26, 27] [(28, .bool true)] ([((n417 : Nat) : Int) = (2 : Int)]) (al1 q471) (on_ (ds_ (sq_ (qa [(2, .no)] [2, 7, 17, 20, 23] [(171, .bool false)] ([¬ (((i : Nat) : Int) ≠ (k : Int))]) (al1 q429) (ds_ (f_ (at_skip (done_block (ds_ (qa [(1, .fit)] [2, 7, 17, 20] [(23, .int .i64 (i + 1 : Nat))] ([Fit .i64 ((i + 1 : Nat))]) (al1 (fit64 (by omega) (by omega))) ?_))))))))))))))))))))
       exact dr [2, 7, 17, 20, 23] (i + 1) ⟨by omega, by omega⟩
      ·
       refine ao_ (qo0 2 [(0, .go (owns 1 0 1))] [2, 7, 17, 20, 23, 24, 25] [(136, .agg #[.slice q407 n407 c407]), (137, .int .i64 (i : Nat))] (cD (.tuple #[.int .i64 ((ofV (bl407.map GngA.val) (i : Nat)).1), .bool ((ofV (bl407.map GngA.val) (i : Nat)).2)]) Try.call22 (fun w hw => gof_t q407 n407 c407 bl407 (i : Nat) w (SlO.sub hO407 hw (List.Sublist.cons _ (List.Sublist.cons _ (List.Sublist.trans (List.sublist_append_left Y407 _) (List.sublist_append_right Y417 _))))) hO407.len (by have := hO407.len; have := hf407.1; omega) (GotG.reads hG407 hw (List.Sublist.cons _ (List.Sublist.cons _ (List.Sublist.trans (List.Sublist.trans (List.sublist_append_left Yz407 _) (List.sublist_append_right Y407 _)) (List.sublist_append_right Y417 _))))) hf407.2) (qo0 5 [] [2, 7, 17, 20, 23, 24, 25] [(26, .int .i64 ((ofV (bl407.map GngA.val) (i : Nat)).1)), (27, .bool ((ofV (bl407.map GngA.val) (i : Nat)).2))] (on_ (ds_ (sq_ (ao_ (qo0 2 [] [2, 7, 17, 20, 23, 24, 25, 26, 27] [(141, .slice q417 n417 c417), (142, .int .i64 (i : Nat))] (cD (.bool true) Try.call15 (fun w hw => by have := contains_t q417 n417 c417 (ownV (bl5.map GngA.val) k) ((i : Nat) : Int) w (hO417.atN (A := [_, _]) hw) hO417.len (by rw [hO417.len]; exact own_len hgV); rw [q457] at this; exact this) (qo 6 [(6, .no)] [2, 7, 17, 20, 23, 24, 25, 26, 27] [(28, .bool false)] ([¬ (((n417 : Nat) : Int) = (2 : Int))]) (al1 q471) (on_ (ds_ (sq_ (qa [(2, .no)] [2, 7, 17, 20, 23] [(171, .bool false)] ([¬ (((i : Nat) : Int) ≠ (k : Int))]) (al1 q429) (ds_ (f_ (at_skip (done_block (ds_ (qa [(1, .fit)] [2, 7, 17, 20] [(23, .int .i64 (i + 1 : Nat))] ([Fit .i64 ((i + 1 : Nat))]) (al1 (fit64 (by omega) (by omega))) ?_))))))))))))))))))))
       exact dr [2, 7, 17, 20, 23] (i + 1) ⟨by omega, by omega⟩
   ·
    refine qa [(1, .no)] [2, 7, 17, 20, 23] [(126, .bool false)] ([¬ (((i : Nat) : Int) ≤ (16 : Int))]) (al1 q425) (ds_ (f_ (at_leave _ rfl (ds_ (sq_ (qa0 [] [] [(6, .bool true)] (ds_ (rt ([]) (.bool true) ?_))))))))
    exact fun w' hw => ⟨rfl, hw.below⟩
end Go.Proofs.Ytahccegfahghfaa

/-! The walker: what a row's inputs are: slices and structs, opened into lists. -/
namespace Go.Proofs.Ytahccegfahghfaa
open Go Go.RowKit

section
variable {H : Type} {enc : TypeId × Value → H} {P : Program} {w : World} {base : Nat} {spare : Nat → Bool} {held : Bool}
theorem spot_none {a : Addr} (h : a.spot = none) : a = ⟨a.block, a.off, none⟩ := by
  cases a
  simp at h
  simp [h]
theorem trod_sv {α : Type} [Enc α] {t e : TypeId} {fuel : Nat} {cs : List Value} {x : DataW H × List MemPlace} {Good : α → Prop} (ht : P.underlying t = some (.slice e)) (hc : P.cellsOf e = Enc.k α)
    (hopen : ∀ (fuel : Nat) (cs : List Value) (x : DataW H × List MemPlace), DataW.trod enc P w base spare held fuel e cs = some x → ∃ a : α, cs = Enc.enc a ∧ Good a) (h : DataW.trod enc P w base spare held fuel t cs = some x) :
    ∃ (p : Option Addr) (n cap : Nat) (l : List α), cs = [.slice p n cap] ∧ Sv w p l ∧ n = l.length ∧ n ≤ cap ∧ cap ≤ maxLen ∧ ∀ y ∈ l, Good y := by
  rcases Deep.open_slice ht h with ⟨hcs, _⟩ | ⟨a, len, cap, m, n', D, Pl, hcs, _, hle, hmx, hm, _, hi⟩
  · exact ⟨none, 0, 0, [], hcs, Sv.nil, rfl, Nat.le_refl _, Nat.zero_le _, fun y hy => by cases hy⟩
  · have key : ∀ i, i < len → ∃ y : α, w.cells? base (a.add (i * Enc.k α)) (Enc.k α) = some (Enc.enc y) ∧ Good y := fun i hin => by
      have him : i < m := by rw [hm]; split <;> omega
      obtain ⟨cs', h1, h2⟩ := hi i him
      obtain ⟨y, rfl, hy⟩ := hopen _ _ _ h2
      rw [hc] at h1
      exact ⟨y, h1, hy⟩
    rcases Nat.eq_zero_or_pos len with h0 | h0
    · subst h0
      exact ⟨some a, 0, cap, [], hcs, Sv.nil, rfl, hle, hmx, fun y hy => by cases hy⟩
    · obtain ⟨y0, hy0, _⟩ := key 0 h0
      haveI : Inhabited α := ⟨y0⟩
      obtain ⟨f, hf⟩ := Deep.choose_lt key
      obtain ⟨_, _, hcell⟩ := World.cells?_some hy0
      have h00 := hcell 0 Enc.pos
      have hlen0 : 0 < (Enc.enc y0).length := by rw [Enc.len]; exact Enc.pos
      rw [List.getElem?_eq_getElem hlen0, Nat.zero_mul, show (a.add 0).add 0 = a by simp [Addr.add]] at h00
      have hsp := spot_none (World.cell?_spot h00)
      refine ⟨some a, len, cap, (List.range len).map f, hcs, ⟨fun _ => ⟨a.block, a.off, by rw [← hsp]⟩, fun b o hbo i hil => ?_⟩, by simp, hle, hmx, fun y hy => ?_⟩
      · have hil' : i < len := by simpa using hil
        obtain ⟨_, _, hc2⟩ := World.cells?_some (hf i hil').1
        have ha : a = ⟨b, o, none⟩ := by simpa using hbo
        subst ha
        intro j v hj
        have hjk : j < Enc.k α := by rw [← Enc.len (f i)]; have := (List.getElem?_eq_some_iff.1 hj).1; simpa using this
        have h3 := hc2 j hjk
        rw [Deep.add_add] at h3
        have h4 : (Enc.enc (f i))[j]? = some v := by simpa using hj
        rw [h4] at h3
        have h5 : (⟨b, o, none⟩ : Addr).add (i * Enc.k α + j) = ⟨b, o + i * Enc.k α + j, none⟩ := by
          unfold Addr.add; split <;> simp_all <;> omega
        rw [h5] at h3
        exact h3
      · obtain ⟨i, hir, rfl⟩ := List.mem_map.1 hy
        exact (hf i (List.mem_range.1 hir)).2
theorem trod_int1 {t : TypeId} {fuel : Nat} {cs : List Value} {x : DataW H × List MemPlace} (ht : P.underlying t = some (.int .i64)) (h : DataW.trod enc P w base spare held fuel t cs = some x) : ∃ a : Int, cs = Enc.enc a ∧ True := by
  obtain ⟨a, rfl, _, _⟩ := DataW.trod_int ht h
  exact ⟨a, rfl, trivial⟩
end
end Go.Proofs.Ytahccegfahghfaa

/-! Chapter 14: rows of rows, opened. -/
namespace Go.Proofs.Ytahccegfahghfaa
open Go Go.RowKit Go.ChangeShapes Go.WideShapes

section
variable {H : Type} {enc : TypeId × Value → H} {w : World} {base : Nat} {spare : Nat → Bool} {held : Bool}
theorem cIntT : Try.prog.cellsOf 3 = 1 := by kernel_rfl
theorem cIntsT : Try.prog.cellsOf 25 = 1 := by kernel_rfl
set_option maxRecDepth 100000 in
theorem intsA_open {fuel : Nat} {cs : List Value} {x : DataW H × List MemPlace} (h : DataW.trod enc Try.prog w base spare held fuel 25 cs = some x) : ∃ a : IntsA, cs = Enc.enc a ∧ a.Reads w := by
  obtain ⟨p, m, cap, l, he, hs, hn, hle, hmx, _⟩ := trod_sv (α := Int) (Good := fun _ => True) Try.underlying25 cIntT (fun _ _ _ h => trod_int1 Try.underlying3 h) h
  exact ⟨⟨p, m, cap, l⟩, he, ⟨hs, hn, hle, hmx⟩⟩
end
end Go.Proofs.Ytahccegfahghfaa

/-! Chapter 14: gangs and ops, opened. -/
namespace Go.Proofs.Ytahccegfahghfaa
open Go Go.RowKit Go.ChangeShapes Go.WideShapes
theorem list1V {α : Type} {cs : List α} (h : cs.length = 1) : ∃ a, cs = [a] := by
  match cs, h with
  | [a], _ => exact ⟨a, rfl⟩
theorem list2V {α : Type} {cs : List α} (h : cs.length = 2) : ∃ a b, cs = [a, b] := by
  match cs, h with
  | [a, b], _ => exact ⟨a, b, rfl⟩
section
variable {H : Type} {enc : TypeId × Value → H} {w : World} {base : Nat} {spare : Nat → Bool} {held : Bool}
theorem cGangT : Try.prog.cellsOf 46 = 2 := by kernel_rfl
theorem cGangsT : Try.prog.cellsOf 38 = 1 := by kernel_rfl
theorem cGangRT : Try.prog.cellsOf 36 = 1 := by kernel_rfl
set_option maxRecDepth 100000 in
theorem gng_open {fuel : Nat} {cs : List Value} {x : DataW H × List MemPlace} (h : DataW.trod enc Try.prog w base spare held fuel 46 cs = some x) : ∃ a : GngA, cs = Enc.enc a ∧ a.Reads w := by
  obtain ⟨xs, n, _, rfl, hl, hlen, hf⟩ := DataW.trod_struct Try.underlying46 h
  rw [cGangT] at hl
  obtain ⟨c0, c1, rfl⟩ := list2V hl
  obtain ⟨y0, y1, rfl⟩ := list2V hlen
  have h0 : DataW.trod enc Try.prog w base spare held n 3 (([c0, c1].drop 0).take (Try.prog.cellsOf 3)) = some y0 := hf 0 _ rfl
  have h1 : DataW.trod enc Try.prog w base spare held n 25 (([c0, c1].drop 1).take (Try.prog.cellsOf 25)) = some y1 := hf 1 _ rfl
  clear hf hl hlen h
  rw [cIntT] at h0
  rw [cIntsT] at h1
  simp only [List.drop_zero, List.take_succ_cons, List.take_zero, List.drop_succ_cons] at h0 h1
  obtain ⟨a, ea, _, _⟩ := DataW.trod_int Try.underlying3 h0
  obtain ⟨b, eb, hb⟩ := intsA_open h1
  have eb2 : [c1] = [Value.slice b.p b.n b.cap] := eb
  simp only [List.cons.injEq, and_true] at ea eb2
  subst ea; subst eb2
  exact ⟨⟨a, b.p, b.n, b.cap, b.l⟩, rfl, hb⟩
set_option maxRecDepth 100000 in
theorem gngs_open {fuel : Nat} {cs : List Value} {x : DataW H × List MemPlace} (h : DataW.trod enc Try.prog w base spare held fuel 38 cs = some x) : ∃ a : GngsA, cs = Enc.enc a ∧ a.Reads w := by
  obtain ⟨xs, n, _, rfl, hl, hlen, hf⟩ := DataW.trod_struct Try.underlying38 h
  rw [cGangsT] at hl
  obtain ⟨c0, rfl⟩ := list1V hl
  obtain ⟨y0, rfl⟩ := list1V hlen
  have h0 : DataW.trod enc Try.prog w base spare held n 36 (([c0].drop 0).take (Try.prog.cellsOf 36)) = some y0 := hf 0 _ rfl
  clear hf hl hlen h
  rw [cGangRT] at h0
  simp only [List.drop_zero, List.take_succ_cons, List.take_zero] at h0
  obtain ⟨p, m, cap, l, he, hs, hn, hle, hmx, hg⟩ := trod_sv (α := GngA) Try.underlying36 cGangT (fun _ _ _ h => gng_open h) h0
  simp only [List.cons.injEq, and_true] at he
  subst he
  exact ⟨⟨p, m, cap, l⟩, rfl, ⟨hs, hn, hle, hmx, hg⟩⟩
set_option maxRecDepth 100000 in
theorem ints_open14 {v : Value} {d : DataW H} {pl : List MemPlace} (hv : Value.okWide Try.prog w .any base 25 v) (h : DataW.Trod enc Try.prog w 0 spare held 25 v d pl) :
    ∃ (q : Option Addr) (m cap : Nat) (l : List Int), v = .slice q m cap ∧ Sv w q l ∧ m = l.length ∧ m ≤ cap ∧ cap ≤ 9223372036854775807 := by
  obtain ⟨a, n, c, rfl⟩ := okWide_slice Try.underlying25 hv
  obtain ⟨fuel, hf⟩ := h
  obtain ⟨b, eb, hb⟩ := intsA_open hf
  have : a = b.p ∧ n = b.n ∧ c = b.cap := by
    have eb2 : (Value.slice a n c).cells.toList = [Value.slice b.p b.n b.cap] := eb
    simpa [Value.cells] using eb2
  obtain ⟨rfl, rfl, rfl⟩ := this
  exact ⟨b.p, b.n, b.cap, b.l, rfl, hb.sv, hb.hn, hb.hc, hb.hb⟩
set_option maxRecDepth 100000 in
theorem gngsv_open {v : Value} {d : DataW H} {pl : List MemPlace} (hv : Value.okWide Try.prog w .any base 38 v) (h : DataW.Trod enc Try.prog w 0 spare held 38 v d pl) :
    ∃ (q : Option Addr) (m cap : Nat) (l : List GngA), v = .agg #[.slice q m cap] ∧ Sv w q l ∧ m = l.length ∧ m ≤ cap ∧ cap ≤ 9223372036854775807 ∧ ∀ x ∈ l, x.Reads w := by
  obtain ⟨cs, rfl, hsz⟩ := okWide_struct Try.underlying38 hv
  obtain ⟨fuel, hf⟩ := h
  obtain ⟨a, ea, ha⟩ := gngs_open hf
  have hc : (Value.agg cs).cells.toList = [Value.slice a.p a.n a.cap] := ea
  refine ⟨a.p, a.n, a.cap, a.l, ?_, ha.sv, ha.hn, ha.hc, ha.hb, ha.hi⟩
  congr 1
  exact Array.toList_inj.1 (by simpa [Value.cells] using hc)
end
end Go.Proofs.Ytahccegfahghfaa
