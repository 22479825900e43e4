/- Texts of this proof, one behind the other. -/
import Derived.Test.YtahccegfahghfaaDoorZb
import Derived.Test.YtahccegfahghfaaDoorZa
/-! Where a virtual CPU's gang is. -/
namespace Go.Proofs.YtahccegfahghfaaDoor
open Go Go.RowKit

/-- The virtual CPU is in this gang. -/
def hasG (k : Int) (x : GngA) : Bool := decide (k ∈ x.l)
/-- It is in one of these. -/
def inG (al : List GngA) (k : Int) : Bool := decide (0 ≤ idxF (hasG k) al)
theorem any_none {α : Type} {l : List α} {pd : α → Bool} (h : ∀ x ∈ l, pd x = false) : l.any pd = false := List.any_eq_false.2 fun x hx => by rw [h x hx]; exact Bool.false_ne_true
theorem rd_one14 {w : World} {g : Nat} {v : Value} {T : TypeId} {f : Nat × Nat} (h : w.heap[g]? = some (.cells #[v] T f)) : Rd w g (0 + 0 * 1) [v] := fun j u hj => by
  match j, hj with
  | 0, hj => rw [show (⟨g, 0 + 0 * 1 + 0, none⟩ : Addr) = ⟨g, 0, none⟩ from rfl, cell_own h]; simpa using hj

set_option maxRecDepth 100000 in
theorem place1_t (x : GngA) (g : Nat) (k : Int) (w : World)
    (hk : Rd w g (0 + 0 * 1) [.int .i64 k]) (hsx : Sv w x.p x.l) (hnx : x.n = x.l.length) (hm9x : x.n ≤ 1000)
    : Calls Tryd.prog 49 #[.agg #[.int .i64 x.id, .slice x.p x.n x.cap], .pointer (some ⟨g, 0 + 0 * 1, none⟩)] w fun e w' => e = .returned (.bool (hasG k x)) ∧ Below w.heap.size w w' := by
  refine enter (Hs.start w) Tryd.func49 rfl Tryd.ntmps49 rfl (sq_ (ma0 [] [1] (fun γ1 => [(2, .pointer (some ⟨γ1 0, 0, none⟩))]) (fun γ1 L => bx (γ1 0) (#[.int .i64 x.id, .slice x.p x.n x.cap]) 62 :: L) (fun γ1 => ds_ (sq_ (ao_ (qo 3 [(1, .go (owns 0 1 1)), (2, .go (outs g (0 + 0 * 1) [.int .i64 k]))] [] [(5, .slice x.p x.n x.cap), (6, .int .i64 k)] (cellsP w g (0 + 0 * 1) [.int .i64 k]) (rd_pre hk _ rfl) ?_))))))
  rcases q3 : decide (k ∈ x.l) with _ | _
  ·
    refine cD (.bool false) (fun args w => Tryd.call35 args w) (fun w hw => by have := contains_t x.p x.n x.cap x.l k w (hsx.kept hw.below) hnx (by omega); rw [q3] at this; exact this) (qo0 1 [] [] [(3, .bool false)] (on_ (ds_ (rt ([]) (.bool false) ?_))))
    exact fun w' hw => ⟨by rw [show hasG k x = false from q3], hw.below⟩
  ·
    refine cD (.bool true) (fun args w => Tryd.call35 args w) (fun w hw => by have := contains_t x.p x.n x.cap x.l k w (hsx.kept hw.below) hnx (by omega); rw [q3] at this; exact this) (qo0 1 [] [] [(3, .bool true)] (on_ (ds_ (rt ([]) (.bool true) ?_))))
    exact fun w' hw => ⟨by rw [show hasG k x = true from q3], hw.below⟩

set_option maxRecDepth 100000 in
theorem gindexf_t (w0 : World) (X : List Ob) (pg : FuncId) (pcb : Array Value) (pd : GngA → Bool) (p : Option Addr) (n cap : Nat) (l : List GngA) (w : World)
    (he : ∀ args w, (callFunc pg args).run Tryd.prog w = .ok (.enter pg args) w)
    (hX : Hs w0 X w) (hsl : Sv w p l) (hn : n = l.length) (hb : n ≤ 4611686018427387903)
    (hc : ∀ x ∈ l, ∀ w', Hs w0 X w' → Calls Tryd.prog pg (#[.agg #[.int .i64 x.id, .slice x.p x.n x.cap]] ++ pcb) w' fun e w1 => e = .returned (.bool (pd x)) ∧ Below w'.heap.size w' w1)
    : Calls Tryd.prog 48 #[.slice p n cap, .func (.func pg) #[] pcb] w fun e w' => e = .returned (.int .i64 (idxF pd l)) ∧ Below w.heap.size w w' := by
  refine enter (Hs.start w) Tryd.func48 rfl Tryd.ntmps48 rfl (sq_ (qa0 [] [0, 1] [] (ds_ (sq_ (sq_ (qa0 [] [0, 1] [(7, .int .i64 (n : Nat)), (8, .int .i64 0)] (ds_ (at_block (at_loop (α := Nat) [0, 1, 7, 8] (fun j => [(0, .slice p n cap), (1, .func (.func pg) #[] pcb), (7, .int .i64 (n : Nat)), (8, .int .i64 (j : Nat))]) (fun j => []) (fun j => j ≤ n ∧ ∀ (t : Nat) (y : GngA), t < j → l[t]? = some y → pd y = false) (fun j => n - j) 0 (by kernel_rfl) rfl ⟨Nat.zero_le _, fun t y h => by omega⟩ ?_)))))))))
  rintro j
  rintro ⟨hj, hI⟩
  refine sq_ ?_
  by_cases q4 : ((j : Nat) : Int) < ((n : Nat) : Int)
  ·
    refine qa [(0, .yes)] [0, 1, 7, 8] [(9, .bool true)] ([((j : Nat) : Int) < ((n : Nat) : Int)]) (al1 q4) (ds_ (sq_ (t_ (at_skip (ds_ (sq_ (at_block (sq_ (qa0 [] [0, 1, 7, 8] [(5, .int .i64 (j : Nat))] (ds_ (sq_ ?_)))))))))))
    obtain ⟨b8, o8, rfl⟩ := hsl.pos (i := j) (by omega)
    obtain ⟨x10, hx10⟩ := get_some (l := l) (m := j) (by omega)
    refine ao_ (qo 5 [(3, .at b8 o8 j), (4, .go (outs b8 (o8 + j * 2) [.int .i64 x10.id, .slice x10.p x10.n x10.cap]))] [0, 1, 5, 7, 8] [(11, .func (.func pg) #[] pcb), (15, .agg #[.int .i64 x10.id, .slice x10.p x10.n x10.cap])] ([(some ⟨b8, o8, none⟩ : Option Addr) = some ⟨b8, o8, none⟩, (j : Nat) = ((j : Nat) : Int), j < n] ++ (cellsP w b8 (o8 + j * 2) [.int .i64 x10.id, .slice x10.p x10.n x10.cap])) (alA (al2 rfl (al2 rfl (al1 (by omega)))) (rd_pre (hsl.get hx10) _ rfl)) ?_)
    rcases q12 : pd x10 with _ | _
    ·
      refine cD (.bool false) he (fun w hw => by have := hc x10 (List.mem_of_getElem? hx10) w (hX.kept hw.below); rw [q12] at this; exact this) (on_ (ds_ (f_ (at_skip (done_block (ds_ (qa [(0, .fit)] [0, 1, 7] [(8, .int .i64 (j + 1 : Nat))] ([Fit .i64 ((j + 1 : Nat))]) (al1 (fit64 (by omega) (by omega))) ?_)))))))
      exact done_round [0, 1, 7, 8] (j + 1) (by kernel_rfl) rfl ⟨by omega, fun t y ht e => by
          by_cases htj : t = j
          · subst htj; rw [hx10] at e; cases e; exact q12
          · exact hI t y (by omega) e⟩ (by first | omega | (simp only; omega))
    ·
      refine cD (.bool true) he (fun w hw => by have := hc x10 (List.mem_of_getElem? hx10) w (hX.kept hw.below); rw [q12] at this; exact this) (on_ (ds_ (t_ (sq_ (qa0 [] [] [(4, .int .i64 (j : Nat))] (ds_ (rt ([]) (.int .i64 (j : Nat)) ?_)))))))
      exact fun w' hw => ⟨by rw [idxF_hit hI hx10 q12], hw.below⟩
  ·
    refine qa [(0, .no)] [0, 1, 7, 8] [(9, .bool false)] ([¬ (((j : Nat) : Int) < ((n : Nat) : Int))]) (al1 q4) (ds_ (sq_ (f_ (at_leave _ rfl (ds_ (sq_ (qa0 [] [] [(4, .int .i64 (-1))] (ds_ (rt ([]) (.int .i64 (-1)) ?_)))))))))
    exact fun w' hw => ⟨by rw [idxF_miss hI (by omega)], hw.below⟩

set_option maxRecDepth 100000 in
theorem place_t (q : Option Addr) (m capq : Nat) (al : List GngA) (k : Int) (w : World)
    (hal : Sv w q al) (hma : m = al.length) (hbm : m ≤ 1000) (hnm : ∀ x ∈ al, x.Reads w) (hm9 : ∀ x ∈ al, x.n ≤ 1000)
    : Calls Tryd.prog 30 #[.agg #[.slice q m capq], .int .i64 k] w fun e w' => e = .returned (.int .i64 (idxF (hasG k) al)) ∧ Below w.heap.size w w' := by
  refine enter (Hs.start w) Tryd.func30 rfl Tryd.ntmps30 rfl (sq_ (ma0 [] [] (fun γ1 => [(2, .pointer (some ⟨γ1 0, 0, none⟩)), (3, .pointer (some ⟨γ1 1, 0, none⟩))]) (fun γ1 L => bx (γ1 1) (#[.int .i64 k]) 3 :: bx (γ1 0) (#[.slice q m capq]) 36 :: L) (fun γ1 => ds_ (sq_ (ao_ (qo0 3 [(1, .go (owns 1 0 1))] [] [(6, .slice q m capq), (7, .func (.func 49) #[] #[.pointer (some ⟨γ1 1, 0, none⟩)])] (cD (.int .i64 (idxF (hasG k) al)) (fun args w => Tryd.call48 args w) (fun w hw => gindexf_t _ _ 49 #[.pointer (some ⟨γ1 1, 0, none⟩)] (hasG k) q m capq al w (fun args w => Tryd.call49 args w) hw (hal.kept hw.below) hma (by omega) (fun x hx w' hX => place1_t x (γ1 1) k w' (rd_one14 (hX.row 0 rfl)) ((hnm x hx).kept hX.below).sv (hnm x hx).hn (hm9 x hx))) (qo0 1 [] [] [(4, .int .i64 (idxF (hasG k) al))] (on_ (ds_ (rt ([]) (.int .i64 (idxF (hasG k) al)) ?_)))))))))))
  exact fun w' hw => ⟨rfl, hw.below⟩

set_option maxRecDepth 100000 in
theorem iindexf_t (w0 : World) (X : List Ob) (pg : FuncId) (pcb : Array Value) (pd : Int → Bool) (p : Option Addr) (n cap : Nat) (l : List Int) (w : World)
    (he : ∀ args w, (callFunc pg args).run Tryd.prog w = .ok (.enter pg args) w)
    (hX : Hs w0 X w) (hsl : Sv w p l) (hn : n = l.length) (hb : n ≤ 4611686018427387903)
    (hc : ∀ x ∈ l, ∀ w', Hs w0 X w' → Calls Tryd.prog pg (#[.int .i64 x] ++ pcb) w' fun e w1 => e = .returned (.bool (pd x)) ∧ Below w'.heap.size w' w1)
    : Calls Tryd.prog 47 #[.slice p n cap, .func (.func pg) #[] pcb] w fun e w' => e = .returned (.int .i64 (idxF pd l)) ∧ Below w.heap.size w w' := by
  refine enter (Hs.start w) Tryd.func47 rfl Tryd.ntmps47 rfl (sq_ (qa0 [] [0, 1] [] (ds_ (sq_ (sq_ (qa0 [] [0, 1] [(7, .int .i64 (n : Nat)), (8, .int .i64 0)] (ds_ (at_block (at_loop (α := Nat) [0, 1, 7, 8] (fun j => [(0, .slice p n cap), (1, .func (.func pg) #[] pcb), (7, .int .i64 (n : Nat)), (8, .int .i64 (j : Nat))]) (fun j => []) (fun j => j ≤ n ∧ ∀ (t : Nat) (y : Int), t < j → l[t]? = some y → pd y = false) (fun j => n - j) 0 (by kernel_rfl) rfl ⟨Nat.zero_le _, fun t y h => by omega⟩ ?_)))))))))
  rintro j
  rintro ⟨hj, hI⟩
  refine sq_ ?_
  by_cases q4 : ((j : Nat) : Int) < ((n : Nat) : Int)
  ·
    refine qa [(0, .yes)] [0, 1, 7, 8] [(9, .bool true)] ([((j : Nat) : Int) < ((n : Nat) : Int)]) (al1 q4) (ds_ (sq_ (t_ (at_skip (ds_ (sq_ (at_block (sq_ (qa0 [] [0, 1, 7, 8] [(5, .int .i64 (j : Nat))] (ds_ (sq_ ?_)))))))))))
    obtain ⟨b8, o8, rfl⟩ := hsl.pos (i := j) (by omega)
    obtain ⟨x10, hx10⟩ := get_some (l := l) (m := j) (by omega)
    refine ao_ (qo 5 [(3, .at b8 o8 j), (4, .go (outs b8 (o8 + j * 1) [.int .i64 x10]))] [0, 1, 5, 7, 8] [(11, .func (.func pg) #[] pcb), (15, .int .i64 x10)] ([(some ⟨b8, o8, none⟩ : Option Addr) = some ⟨b8, o8, none⟩, (j : Nat) = ((j : Nat) : Int), j < n] ++ (cellsP w b8 (o8 + j * 1) [.int .i64 x10])) (alA (al2 rfl (al2 rfl (al1 (by omega)))) (rd_pre (hsl.get hx10) _ rfl)) ?_)
    rcases q12 : pd x10 with _ | _
    ·
      refine cD (.bool false) he (fun w hw => by have := hc x10 (List.mem_of_getElem? hx10) w (hX.kept hw.below); rw [q12] at this; exact this) (on_ (ds_ (f_ (at_skip (done_block (ds_ (qa [(0, .fit)] [0, 1, 7] [(8, .int .i64 (j + 1 : Nat))] ([Fit .i64 ((j + 1 : Nat))]) (al1 (fit64 (by omega) (by omega))) ?_)))))))
      exact done_round [0, 1, 7, 8] (j + 1) (by kernel_rfl) rfl ⟨by omega, fun t y ht e => by
          by_cases htj : t = j
          · subst htj; rw [hx10] at e; cases e; exact q12
          · exact hI t y (by omega) e⟩ (by first | omega | (simp only; omega))
    ·
      refine cD (.bool true) he (fun w hw => by have := hc x10 (List.mem_of_getElem? hx10) w (hX.kept hw.below); rw [q12] at this; exact this) (on_ (ds_ (t_ (sq_ (qa0 [] [] [(4, .int .i64 (j : Nat))] (ds_ (rt ([]) (.int .i64 (j : Nat)) ?_)))))))
      exact fun w' hw => ⟨by rw [idxF_hit hI hx10 q12], hw.below⟩
  ·
    refine qa [(0, .no)] [0, 1, 7, 8] [(9, .bool false)] ([¬ (((j : Nat) : Int) < ((n : Nat) : Int))]) (al1 q4) (ds_ (sq_ (f_ (at_leave _ rfl (ds_ (sq_ (qa0 [] [] [(4, .int .i64 (-1))] (ds_ (rt ([]) (.int .i64 (-1)) ?_)))))))))
    exact fun w' hw => ⟨by rw [idxF_miss hI (by omega)], hw.below⟩

set_option maxRecDepth 100000 in
theorem containsf_t (w0 : World) (X : List Ob) (pg : FuncId) (pcb : Array Value) (pd : Int → Bool) (p : Option Addr) (n cap : Nat) (l : List Int) (w : World)
    (he : ∀ args w, (callFunc pg args).run Tryd.prog w = .ok (.enter pg args) w)
    (hX : Hs w0 X w)
    (hsl : Sv w p l) (hn : n = l.length) (hb : n ≤ 1000)
    (hc : ∀ x ∈ l, ∀ w', Hs w0 X w' → Calls Tryd.prog pg (#[.int .i64 x] ++ pcb) w' fun e w1 => e = .returned (.bool (pd x)) ∧ Below w'.heap.size w' w1)
    : Calls Tryd.prog 28 #[.slice p n cap, .func (.func pg) #[] pcb] w fun e w' => e = .returned (.bool (l.any pd)) ∧ Below w.heap.size w w' := by
  refine enter (Hs.start w) Tryd.func28 rfl Tryd.ntmps28 rfl (sq_ (qa0 [] [0, 1] [] (ds_ (sq_ (ao_ (qo0 2 [] [] [(5, .slice p n cap), (6, .func (.func pg) #[] pcb)] ?_))))))
  rcases idxF_cases pd l with ⟨hix, hnone⟩ | ⟨i0, x0, hix, hx0, hp0, hlow⟩
  ·
    refine cD (.int .i64 (-1)) (fun args w => Tryd.call47 args w) (fun w hw => by have := iindexf_t w0 X pg pcb pd p n cap l w he (hX.kept hw.below) (hsl.kept hw.below) hn (by omega) hc; rw [hix] at this; exact this) (qo0 2 [] [] [(4, .bool false)] (on_ (ds_ (rt ([]) (.bool false) ?_))))
    exact fun w' hw => ⟨by rw [any_none hnone], hw.below⟩
  ·
    refine cD (.int .i64 (i0 : Nat)) (fun args w => Tryd.call47 args w) (fun w hw => by have := iindexf_t w0 X pg pcb pd p n cap l w he (hX.kept hw.below) (hsl.kept hw.below) hn (by omega) hc; rw [hix] at this; exact this) (qo 2 [(3, .yes)] [] [(4, .bool true)] ([((i0 : Nat) : Int) ≥ (0 : Int)]) (al1 (by omega)) (on_ (ds_ (rt ([]) (.bool true) ?_))))
    exact fun w' hw => ⟨by rw [List.any_eq_true.2 ⟨x0, List.mem_of_getElem? hx0, hp0⟩], hw.below⟩

set_option maxRecDepth 100000 in
theorem form11_t (q : Option Addr) (m capq : Nat) (al : List GngA) (g3 gb : Nat) (k : Int) (w : World)
    (hal : Sv w q al) (hma : m = al.length) (hbm : m ≤ 1000) (hnm : ∀ x ∈ al, x.Reads w) (hm9 : ∀ x ∈ al, x.n ≤ 1000)
    (h3 : Rd w g3 (0 + 0 * 1) [.pointer (some ⟨gb, 0 + 0 * 1, none⟩)]) (h2 : Rd w gb (0 + 0 * 1) [.slice q m capq])
    : Calls Tryd.prog 29 #[.int .i64 k, .pointer (some ⟨g3, 0 + 0 * 1, none⟩)] w fun e w' => e = .returned (.bool (inG al k)) ∧ Below w.heap.size w w' := by
  refine enter (Hs.start w) Tryd.func29 rfl Tryd.ntmps29 rfl (sq_ (qa0 [] [0, 1] [] (ds_ (sq_ (ao_ (qo 4 [(0, .go (outs g3 (0 + 0 * 1) [.pointer (some ⟨gb, 0 + 0 * 1, none⟩)])), (2, .go (outs gb (0 + 0 * 1) [.slice q m capq]))] [] [(6, .agg #[.slice q m capq]), (7, .int .i64 k)] (cellsP w g3 (0 + 0 * 1) [.pointer (some ⟨gb, 0 + 0 * 1, none⟩)] ++ (cellsP w gb (0 + 0 * 1) [.slice q m capq])) (alA (rd_pre h3 _ rfl) (rd_pre h2 _ rfl)) (cD (.int .i64 (idxF (hasG k) al)) (fun args w => Tryd.call30 args w) (fun w hw => place_t q m capq al k w (hal.kept hw.below) hma (by omega) (fun x hx => (hnm x hx).kept hw.below) hm9) ?_)))))))
  by_cases q4 : ((idxF (hasG k) al) : Int) ≥ (0 : Int)
  ·
    refine qo 2 [(5, .yes)] [] [(3, .bool true)] ([((idxF (hasG k) al) : Int) ≥ (0 : Int)]) (al1 q4) (on_ (ds_ (rt ([]) (.bool true) ?_)))
    exact fun w' hw => ⟨by rw [show inG al k = true from decide_eq_true (by omega)], hw.below⟩
  ·
    refine qo 2 [(5, .no)] [] [(3, .bool false)] ([¬ (((idxF (hasG k) al) : Int) ≥ (0 : Int))]) (al1 q4) (on_ (ds_ (rt ([]) (.bool false) ?_)))
    exact fun w' hw => ⟨by rw [show inG al k = false from decide_eq_false (by omega)], hw.below⟩
end Go.Proofs.YtahccegfahghfaaDoor

/-! Gangs with members of their own; plain. -/
namespace Go.Proofs.YtahccegfahghfaaDoor
open Go Go.RowKit
/-- Gangs whose members lie in blocks of one's own. -/
def GotG (T : TypeId) (Yi : List Ob) (bl : List GngA) : Prop := GotR T Yi (bl.map GngA.row)
section
variable {T : TypeId} {w w0 : World} {Y Yi Y2 YX A L : List Ob} {b : Ob} {al bl : List GngA} {x y : GngA} {j : Nat}
theorem GotG.nil : GotG T [] [] := GotR.nil
theorem GotG.reads (h : GotG T Yi bl) (hw : Hs w0 L w) (hs : List.Sublist Yi L) : ∀ x ∈ bl, x.Reads w := fun _ hx => GotR.reads h hw hs _ (List.mem_map_of_mem hx)
theorem wt_get (h : bl.drop j = al.drop j) (hx : bl[j]? = some x) : al[j]? = some x := by
  have h1 : (bl.drop j)[0]? = some x := by rw [List.getElem?_drop]; exact hx
  rw [h, List.getElem?_drop] at h1
  exact h1
theorem wt_own (h : GotR T Yi ((bl.take j).map GngA.row)) (hx : bl[j]? = some x) (hy : SlO T Y y.p y.n y.cap y.l) : GotR T (Yi ++ Y) (((bl.set j y).take (j + 1)).map GngA.row) := by
  have hl := (List.getElem?_eq_some_iff.1 hx).1
  have e : (bl.set j y)[j]? = some y := List.getElem?_set_self hl
  rw [take_one e, List.take_set_of_le (Nat.le_refl j), List.map_append]
  exact GotR.snoc (x := y.row) h hy
theorem wt_drop (h : bl.drop j = al.drop j) : (bl.set j y).drop (j + 1) = al.drop (j + 1) := by
  have e : ∀ l : List GngA, l.drop (j + 1) = (l.drop j).drop 1 := fun l => by rw [List.drop_drop]
  rw [List.drop_set_of_lt (show j < j + 1 from Nat.lt_succ_self j), e bl, e al, h]
theorem wt_val (hx : bl[j]? = some x) (h : bl.map GngA.val = al.map GngA.val) (e : y.val = x.val) : (bl.set j y).map GngA.val = al.map GngA.val := by
  rw [List.map_set, e, ← h]
  apply List.ext_getElem?
  intro i
  by_cases hi : j = i
  · subst hi
    rw [List.getElem?_set_self (by rw [List.length_map]; exact (List.getElem?_eq_some_iff.1 hx).1), List.getElem?_map, hx]; rfl
  · rw [List.getElem?_set_ne hi]
theorem wt_in (h : Hs w0 (b :: (A ++ (Y ++ (Yi ++ (YX ++ []))))) w) : Hs w0 (b :: (Y ++ (Yi ++ (YX ++ A)))) w := by
  refine h.perm (.cons _ ?_)
  rw [List.append_nil, show Y ++ (Yi ++ (YX ++ A)) = (Y ++ (Yi ++ YX)) ++ A from by simp only [List.append_assoc]]
  exact List.perm_append_comm
theorem wt_out (h : Hs w0 (b :: (Y ++ (Yi ++ (YX ++ A)))) w) : Hs w0 (b :: (A ++ (Y ++ (Yi ++ (YX ++ []))))) w := by
  refine h.perm (.cons _ ?_)
  rw [List.append_nil, show Y ++ (Yi ++ (YX ++ A)) = (Y ++ (Yi ++ YX)) ++ A from by simp only [List.append_assoc]]
  exact List.perm_append_comm
theorem wt_tail (h : Hs w0 (Y ++ (Yi ++ (YX ++ []))) w) : Hs w0 (Y ++ (Yi ++ YX)) w := by rwa [List.append_nil] at h
end
end Go.Proofs.YtahccegfahghfaaDoor

/-! Gangs: slices.Clone, Insert. -/
namespace Go.Proofs.YtahccegfahghfaaDoor
open Go Go.RowKit

set_option maxRecDepth 100000 in
theorem gclone_t (p : Option Addr) (n cap : Nat) (l : List GngA) (w : World)
    (hsl : Sv w p l) (hn : n = l.length) (hb : n ≤ 1000)
    : Calls Tryd.prog 46 #[.slice p n cap] w fun e w' => ∃ q capq Y, e = .returned (.slice q n capq) ∧ SlO 62 Y q n capq l ∧ Below w.heap.size w w' ∧ Hs w Y w' := by
  refine enter (Hs.start w) Tryd.func46 rfl Tryd.ntmps46 rfl (sq_ (qa0 [] [0] [] (ds_ (sq_ (sq_ ?_)))))
  rcases p with _ | a3
  ·
    refine qa0 [] [0] [(4, .bool true)] (ds_ (t_ (sq_ (qa0 [] [] [(2, .slice none 0 0)] (ds_ (rt ([]) (.slice none 0 0) ?_))))))
    exact fun w' hw => ⟨none, 0, [], by rw [hn, hsl.none]; rfl, by rw [hn, hsl.none]; exact SlO.nil, hw.below, hw.sub (List.nil_sublist _)⟩
  ·
    refine qa0 [] [0] [(4, .bool false)] (ds_ (f_ (at_skip (ds_ (sq_ (ao_ (mo0 2 [] [] (fun γ7 => [(5, .slice (some ⟨γ7 0, 0, none⟩) 0 0), (6, .slice (some a3) n cap)]) (fun γ7 L => bx (γ7 0) (#[]) 62 :: L) (fun γ7 => ops_append (α := GngA) [] ([bx (γ7 0) (#[]) 62]) ([]) (mvE rfl) rfl (by kernel_rfl) (by kernel_rfl) (p := (some ⟨γ7 0, 0, none⟩)) (n := 0) (cap := 0) (m := n) (yv := .slice (some a3) n cap) (by kernel_rfl) (by kernel_rfl) (T := 62) (by_ := 32) (by kernel_rfl) ([]) l (SlO.lit (by rfl) (by rfl) (by simp [maxLen])) (fun w hw => src_svn Tryd.underlying34 (hsl.kept hw.below) hn) hn (by have hmx : maxLen = 9223372036854775807 := rfl; omega) (by have hmx : maxLen = 9223372036854775807 := rfl; omega) (fun Y8 p8 cap8 hO8 => qo0 1 [] [] [(2, .slice p8 (0 + n) cap8)] (on_ (ds_ (rt ([]) (.slice p8 (0 + n) cap8) ?_))))))))))))
    exact fun w' hw => ⟨_, _, _, by rw [Nat.zero_add], by simpa using hO8, hw.below, ((hw.tailN 0).sub (List.sublist_append_left Y8 ([])))⟩
set_option maxRecDepth 100000 in
theorem overlaps_findG : Extern.find Tryd.f50 = some (Extern.SlicesOverlaps.overlaps Tryd.f50.params Tryd.f50.resultTypes) := by kernel_rfl
set_option maxRecDepth 100000 in
theorem overlaps_nextG : Extern.findNext Tryd.f50 = none := by kernel_rfl
theorem overlaps_noG {w : World} {g1 o1 g2 o2 m n c1 c2 : Nat} {cs1 cs2 : Array Value} {T1 T2 : TypeId} (h1 : w.heap[g1]? = some (.cells cs1 T1 (0, 0))) (h2 : w.heap[g2]? = some (.cells cs2 T2 (0, 0))) (hne : g1 ≠ g2) :
    (callFunc 50 #[.slice (some ⟨g1, o1, none⟩) m c1, .slice (some ⟨g2, o2, none⟩) n c2]).run Tryd.prog w = .ok (.value (.bool false)) w := by
  have hf := Tryd.func50
  have hn : (Tryd.f50.name == "runtime.NumGoroutine") = false := by kernel_rfl
  have hb : Tryd.f50.body.isNone = true := by kernel_rfl
  have hp : Tryd.f50.params[0]? = some 34 := by kernel_rfl
  have hu := Tryd.underlying34
  obtain ⟨ht', inf, z', hi, hz', _, hks, hby⟩ := elemB_spec (show elemB Tryd.prog 34 62 2 32 = true by kernel_rfl)
  have hs : inf.size = 2 := by omega
  have s1 : w.shape? g1 = some (T1, cs1.size) := by simp [World.shape?, h1]
  have s2 : w.shape? g2 = some (T2, cs2.size) := by simp [World.shape?, h2]
  have f1 : ∀ j, w.frozen? ⟨g1, j, none⟩ = false := fun j => froz_own h1 j
  have f2 : ∀ j, w.frozen? ⟨g2, j, none⟩ = false := fun j => froz_own h2 j
  have run1 : ∀ args, (callFunc 50 args).run Tryd.prog w = ((Extern.SlicesOverlaps.overlaps Tryd.f50.params Tryd.f50.resultTypes args).run Tryd.prog w).andThen fun v w' => .ok (.value v) w' := fun args => by
    simp only [callFunc, Sem.run_bind, run_program, Result.andThen_ok, hf, hn, hb, overlaps_nextG, overlaps_findG]
    simp [mark, Sem.run, Sem.run_bind]
  rw [run1]
  have hne' : (g1 == g2) = false := by simpa using hne
  have hs' : (do let i ← typeInfo 62; pure i.size : Sem Nat).run Tryd.prog w = .ok 2 w := by simp [typeInfo, hi, hs]
  delta Extern.SlicesOverlaps.overlaps
  conv => lhs; arg 1; arg 2; whnf
  have hu' : Tryd.prog.underlying (Tryd.f50.params[0]'(by decide)) = some (.slice 62) := by kernel_rfl
  have sb : ∀ (α β : Type) (x : Sem α) (f : α → Sem β) (P : Program) (w : World), (x.bind f).run P w = (x.run P w).andThen fun a w' => (f a).run P w' := fun α β x f P w => Sem.run_bind' P x f w
  by_cases hm : m = 0 ∨ n = 0 ∨ inf.size = 0
  · simp [Sem.run, sb, hu', sizeOf, typeInfo, hi, hm]
  · simp [Sem.run, sb, hu', sizeOf, typeInfo, hi, hm, bne, hne', hne, noView, viewAt, mayBeOne, stringish, shape, frozen, s1, s2, f1, f2]

set_option maxRecDepth 100000 in
theorem ginsert_t (w0 : World) (X Y : List Ob) (p : Option Addr) (n cap : Nat) (l : List GngA) (i gv : Nat) (cv : Array Value) (m : Nat) (vl : List GngA) (w : World)
    (hH : Hs w0 (bx gv cv 62 :: (Y ++ X)) w) (hO : SlO 62 Y p n cap l) (hcv : cv.toList = vl.flatMap Enc.enc) (hm : m = vl.length) (hm0 : 0 < m) (hi : i ≤ n) (hb : n ≤ 1000) (hmb : m ≤ 1000)
    : Calls Tryd.prog 31 #[.slice p n cap, .int .i64 (i : Nat), .slice (some ⟨gv, 0, none⟩) m m] w fun e w' => ∃ q capq Y', e = .returned (.slice q (n + m) capq) ∧ SlO 62 Y' q (n + m) capq (l.take i ++ vl ++ l.drop i) ∧ Hs w0 (Y' ++ X) w' := by
  have hn := hO.len
  refine enter hH Tryd.func31 rfl Tryd.ntmps31 rfl (sq_ (qa0 [] [0, 1, 2] [] (ds_ (sq_ (qa [(2, .sl (.slice (if cap = i then p else p.map (·.add (i * 2))) (n - i) (cap - i)))] [0, 1, 2] [] ([SlRun Tryd.prog 34 (.slice p n cap) (some (.int .i64 (i : Nat))) none none (.slice (if cap = i then p else p.map (·.add (i * 2))) (n - i) (cap - i))]) (al1 (slE_cut (P := Tryd.prog) (T := 34) (e := 62) (k := 2) (by_ := 32) (by kernel_rfl) hi)) (ds_ (sq_ (qa0 [] [0, 1, 2] [(7, .int .i64 (m : Nat))] (ds_ (sq_ (sq_ (qa [(1, .no)] [0, 1, 2, 7] [(16, .bool false)] ([¬ (((m : Nat) : Int) = (0 : Int))]) (al1 (by omega)) (ds_ (f_ (at_skip (ds_ (sq_ (qa0 [] [0, 1, 2, 7] [(8, .int .i64 (n : Nat))] (ds_ (sq_ (sq_ ?_)))))))))))))))))))))
  by_cases q7 : ((i : Nat) : Int) = ((n : Nat) : Int)
  ·
    refine qa [(2, .yes)] [0, 1, 2, 7, 8] [(22, .bool true)] ([((i : Nat) : Int) = ((n : Nat) : Int)]) (al1 q7) (ds_ (t_ (sq_ (ao_ (qo0 2 [] [] [(23, .slice p n cap), (24, .slice (some ⟨gv, 0, none⟩) m m)] (ops_append (α := GngA) [bx gv cv 62] Y X (.refl _) rfl (by kernel_rfl) (by kernel_rfl) (p := p) (n := n) (cap := cap) (m := m) (yv := .slice (some ⟨gv, 0, none⟩) m m) (by kernel_rfl) (by kernel_rfl) (T := 62) (by_ := 32) (by kernel_rfl) l vl hO (fun w hw => src_svn Tryd.underlying34 (sv_row (hw.row 0 rfl) hcv) hm) hm (by have hmx : maxLen = 9223372036854775807 := rfl; omega) (by have hmx : maxLen = 9223372036854775807 := rfl; omega) (fun Y10 p10 cap10 hO10 => qo0 1 [] [] [(6, .slice p10 (n + m) cap10)] (on_ (ds_ (rt ([]) (.slice p10 (n + m) cap10) ?_))))))))))
    exact fun w' hw => ⟨_, _, _, rfl, by rw [show i = l.length by omega, List.take_length, List.drop_length, List.append_nil]; exact hO10, hw.tailN 1⟩
  ·
    refine qa [(2, .no)] [0, 1, 2, 7, 8] [(22, .bool false)] ([¬ (((i : Nat) : Int) = ((n : Nat) : Int))]) (al1 q7) (ds_ (f_ (at_skip (ds_ (sq_ (sq_ ?_))))))
    obtain ⟨g, cs, rfl, rfl, hOw⟩ := hO.rowOf (i := i) (by omega)
    have hcap := hOw.le
    have hcs := hOw.csz
    have hmax := hOw.max
    by_cases q15 : ((n + m : Nat) : Int) > ((cap : Nat) : Int)
    ·
      refine qa [(2, .fit), (5, .yes)] [0, 1, 2, 7, 8] [(31, .bool true)] ([Fit .i64 ((n + m : Nat))] ++ ([((n + m : Nat) : Int) > ((cap : Nat) : Int)])) (alA (al1 (fit64 (by omega) (by omega))) (al1 q15)) (ds_ (t_ (sq_ (ao_ (qo 8 [(2, .sl (.slice (some ⟨g, 0, none⟩) i cap)), (5, .fit), (7, .is [] (.int .i64 (n + m - i : Nat)))] [0, 1, 2, 7] [(34, .slice (some ⟨g, 0, none⟩) i cap), (39, .int .i64 (n + m - i : Nat))] ([SlRun Tryd.prog 34 (.slice (some ⟨g, 0, none⟩) n cap) none (some (.int .i64 (i : Nat))) none (.slice (some ⟨g, 0, none⟩) i cap)] ++ ([Fit .i64 ((n + m : Nat))] ++ ([Value.int .i64 (IntKind.i64.wrap ((((n + m : Nat)) : Int) - ((i : Nat) : Int))) = .int .i64 (n + m - i : Nat)]))) (alA (al1 (slE_hi (P := Tryd.prog) (T := 34) (e := 62) (k := 2) (by_ := 32) (by kernel_rfl) (h := i) (by omega))) (alA (al1 (fit64 (by omega) (by omega))) (al1 (by rw [wrap_fit (fit64 (by omega) (by omega))]; congr 1; omega)))) (ops_appendZ rfl (by kernel_rfl) (by kernel_rfl) (p := some ⟨g, 0, none⟩) (m := i) (cap := cap) (n := n + m - i) ((cs.toList.drop 0).take (i * 2)) (by kernel_rfl) (by kernel_rfl) (T := 62) (ks := 2) (by_ := 32) (by kernel_rfl) Tryd.underlying3 (by decide) (olds_len hcs (by omega)) (fun w hw => first_row (hw.row 1 rfl) (by rw [hcs, Nat.zero_add]; exact Nat.mul_le_mul_right _ (by omega))) (by omega) (by omega) (by simp only [maxLen]; omega) (by omega) (fun g2 c2 cap2 hc2 hle2 hmax2 hpre2 => qo0 1 [] [0, 1, 2, 7] [(9, .slice (some ⟨g2, 0, none⟩) (i + (n + m - i)) cap2)] (on_ (ds_ (sq_ (ao_ (qo 4 [(2, .sl (.slice (some ⟨g2, 0 + i * 2, none⟩) (i + (n + m - i) - i) (cap2 - i)))] [0, 1, 7, 9] [(43, .slice (some ⟨g2, 0 + i * 2, none⟩) (i + (n + m - i) - i) (cap2 - i)), (44, .slice (some ⟨gv, 0, none⟩) m m)] ([SlRun Tryd.prog 34 (.slice (some ⟨g2, 0, none⟩) (i + (n + m - i)) cap2) (some (.int .i64 (i : Nat))) none none (.slice (some ⟨g2, 0 + i * 2, none⟩) (i + (n + m - i) - i) (cap2 - i))]) (al1 (slE_lo (P := Tryd.prog) (T := 34) (e := 62) (k := 2) (by_ := 32) (by kernel_rfl) (lo := i) (by omega) (by omega))) (ops_copy 0 rfl (by kernel_rfl) (by kernel_rfl) (g := g2) (of := (0 + i * 2)) (dn := (i + (n + m - i) - i)) (dc := (cap2 - i)) (m := m) (cnt := m) (c := c2) (yv := (.slice (some ⟨gv, 0, none⟩) m m)) (vl.flatMap Enc.enc) (by kernel_rfl) (by kernel_rfl) (T := 62) (ks := 2) (by_ := 32) (by kernel_rfl) (T' := 62) (by kernel_rfl) len_slice (by omega) (fun w hw => by have := first_sv (P := Tryd.prog) (w := w) (p := some ⟨gv, 0, none⟩) (m := m) (cap := m) (cnt := m) (sv_row (hw.row 1 rfl) hcv) (by omega); rw [List.take_of_length_le (by omega)] at this; exact this) (by rw [flat_len, ← hm]; exact mul_room (c := cap2) (by omega) hc2) (flat_one vl) ?_)))))))))))))
      refine on_ (ds_ (sq_ (at_calmTo (f := 1) 8 rfl (by kernel_rfl) (by kernel_rfl) (by kernel_rfl) (by kernel_rfl) (by kernel_rfl) (by kernel_rfl) ?_)))
      refine cm 8 [(3, .fit), (4, .sl (.slice (some ⟨g2, 0 + (i + m) * 2, none⟩) (i + (n + m - i) - (i + m)) (cap2 - (i + m)))), (7, .sl (.slice (some ⟨g, 0 + i * 2, none⟩) (n - i) (cap - i)))] [9] [(50, .slice (some ⟨g2, 0 + (i + m) * 2, none⟩) (i + (n + m - i) - (i + m)) (cap2 - (i + m))), (53, .slice (some ⟨g, 0 + i * 2, none⟩) (n - i) (cap - i))] ([Fit .i64 ((i + m : Nat))] ++ ([SlRun Tryd.prog 34 (.slice (some ⟨g2, 0, none⟩) (i + (n + m - i)) cap2) (some (.int .i64 (i + m : Nat))) none none (.slice (some ⟨g2, 0 + (i + m) * 2, none⟩) (i + (n + m - i) - (i + m)) (cap2 - (i + m)))] ++ ([SlRun Tryd.prog 34 (.slice (some ⟨g, 0, none⟩) n cap) (some (.int .i64 (i : Nat))) none none (.slice (some ⟨g, 0 + i * 2, none⟩) (n - i) (cap - i))]))) (by kernel_rfl) rfl (alA (al1 (fit64 (by omega) (by omega))) (alA (al1 (slE_lo (P := Tryd.prog) (T := 34) (e := 62) (k := 2) (by_ := 32) (by kernel_rfl) (lo := i + m) (by omega) (by omega))) (al1 (slE_lo (P := Tryd.prog) (T := 34) (e := 62) (k := 2) (by_ := 32) (by kernel_rfl) (lo := i) (by omega) (by omega))))) ?_
      refine calm_nil' ?_
      refine done_pre (li' := #[true, true, true, true, true, true, true, true, false]) (by kernel_rfl) ?_
      refine a1 8 rfl ?_
      refine ops_copy 0 rfl (by kernel_rfl) (by kernel_rfl) (g := g2) (of := (0 + (i + m) * 2)) (dn := (i + (n + m - i) - (i + m))) (dc := (cap2 - (i + m))) (m := (n - i)) (cnt := (n - i)) (c := (sets c2 (0 + i * 2) (vl.flatMap Enc.enc))) (yv := (.slice (some ⟨g, 0 + i * 2, none⟩) (n - i) (cap - i))) ((cs.toList.drop (0 + i * 2)).take ((n - i) * 2)) (by kernel_rfl) (by kernel_rfl) (T := 62) (ks := 2) (by_ := 32) (by kernel_rfl) (T' := 62) (by kernel_rfl) len_slice (by omega) (fun w hw => first_row (hw.row 2 rfl) (row_room hOw (by omega))) (by rw [sets_size]; exact copy_room (c := cap2) hOw (by omega) (by omega) hc2) (row_one hOw (by omega)) ?_
      refine od_ ?_
      refine any_nil (by kernel_rfl) ?_
      refine ds_ (sq_ (qa0 [] [] [(6, .slice (some ⟨g2, 0, none⟩) (i + (n + m - i)) cap2)] (ds_ (rt ([]) (.slice (some ⟨g2, 0, none⟩) (i + (n + m - i)) cap2) ?_))))
      exact fun w' hw => ⟨some ⟨g2, 0, none⟩, cap2, [_], by rw [show i + (n + m - i) = n + m by omega], .inr ⟨_, _, rfl, rfl, by simp; omega, ins_grow hOw (by omega) hm (by omega) hc2 (by omega) hmax2 hpre2⟩, hw.sub (.cons_cons _ (.cons _ (.cons _ (.refl _))))⟩
    ·
      refine qa [(2, .fit), (5, .no)] [0, 1, 2, 7, 8] [(31, .bool false)] ([Fit .i64 ((n + m : Nat))] ++ ([¬ (((n + m : Nat) : Int) > ((cap : Nat) : Int))])) (alA (al1 (fit64 (by omega) (by omega))) (al1 q15)) (ds_ (f_ (at_skip (ds_ (sq_ (qa [(3, .fit), (4, .sl (.slice (some ⟨g, 0, none⟩) (n + m) cap))] [1, 2, 7, 8] [(0, .slice (some ⟨g, 0, none⟩) (n + m) cap)] ([Fit .i64 ((n + m : Nat))] ++ ([SlRun Tryd.prog 34 (.slice (some ⟨g, 0, none⟩) n cap) none (some (.int .i64 (n + m : Nat))) none (.slice (some ⟨g, 0, none⟩) (n + m) cap)])) (alA (al1 (fit64 (by omega) (by omega))) (al1 (slE_hi (P := Tryd.prog) (T := 34) (e := 62) (k := 2) (by_ := 32) (by kernel_rfl) (h := n + m) (by omega)))) (ds_ (sq_ (sq_ (ao_ (qo 6 [(4, .fit), (5, .sl (.slice (some ⟨g, 0 + (i + m) * 2, none⟩) (n + m - (i + m)) (cap - (i + m))))] [0, 1, 2, 7, 8] [(61, .slice (some ⟨gv, 0, none⟩) m m), (66, .slice (some ⟨g, 0 + (i + m) * 2, none⟩) (n + m - (i + m)) (cap - (i + m)))] ([Fit .i64 ((i + m : Nat))] ++ ([SlRun Tryd.prog 34 (.slice (some ⟨g, 0, none⟩) (n + m) cap) (some (.int .i64 (i + m : Nat))) none none (.slice (some ⟨g, 0 + (i + m) * 2, none⟩) (n + m - (i + m)) (cap - (i + m)))])) (alA (al1 (fit64 (by omega) (by omega))) (al1 (slE_lo (P := Tryd.prog) (T := 34) (e := 62) (k := 2) (by_ := 32) (by kernel_rfl) (lo := i + m) (by omega) (by omega)))) (ops_ext (f := 50) (args := #[.slice (some ⟨gv, 0, none⟩) m m, .slice (some ⟨g, 0 + (i + m) * 2, none⟩) (n + m - (i + m)) (cap - (i + m))]) (.bool false) (by kernel_rfl) (by kernel_rfl) (by kernel_rfl) (fun w hw => overlaps_noG (hw.row 0 rfl) (hw.row 1 rfl) (apart_two hw (a := 0) (b := 1) rfl rfl (by decide))) (qo0 1 [] [0, 1, 2, 7, 8] [(68, .bool true)] (on_ (ds_ (t_ (sq_ (at_calmTo (f := 1) 8 rfl (by kernel_rfl) (by kernel_rfl) (by kernel_rfl) (by kernel_rfl) (by kernel_rfl) (by kernel_rfl) ?_))))))))))))))))))
      refine cm 8 [(3, .fit), (4, .sl (.slice (some ⟨g, 0 + (i + m) * 2, none⟩) (n + m - (i + m)) (cap - (i + m)))), (7, .sl (.slice (some ⟨g, 0 + i * 2, none⟩) (n + m - i) (cap - i)))] [0, 1, 2] [(73, .slice (some ⟨g, 0 + (i + m) * 2, none⟩) (n + m - (i + m)) (cap - (i + m))), (76, .slice (some ⟨g, 0 + i * 2, none⟩) (n + m - i) (cap - i))] ([Fit .i64 ((i + m : Nat))] ++ ([SlRun Tryd.prog 34 (.slice (some ⟨g, 0, none⟩) (n + m) cap) (some (.int .i64 (i + m : Nat))) none none (.slice (some ⟨g, 0 + (i + m) * 2, none⟩) (n + m - (i + m)) (cap - (i + m)))] ++ ([SlRun Tryd.prog 34 (.slice (some ⟨g, 0, none⟩) (n + m) cap) (some (.int .i64 (i : Nat))) none none (.slice (some ⟨g, 0 + i * 2, none⟩) (n + m - i) (cap - i))]))) (by kernel_rfl) rfl (alA (al1 (fit64 (by omega) (by omega))) (alA (al1 (slE_lo (P := Tryd.prog) (T := 34) (e := 62) (k := 2) (by_ := 32) (by kernel_rfl) (lo := i + m) (by omega) (by omega))) (al1 (slE_lo (P := Tryd.prog) (T := 34) (e := 62) (k := 2) (by_ := 32) (by kernel_rfl) (lo := i) (by omega) (by omega))))) ?_
      refine calm_nil' ?_
      refine done_pre (li' := #[true, true, true, true, true, true, true, true, false]) (by kernel_rfl) ?_
      refine a1 8 rfl ?_
      refine ops_copy 1 rfl (by kernel_rfl) (by kernel_rfl) (g := g) (of := (0 + (i + m) * 2)) (dn := (n + m - (i + m))) (dc := (cap - (i + m))) (m := (n + m - i)) (cnt := (n - i)) (c := cs) (yv := (.slice (some ⟨g, 0 + i * 2, none⟩) (n + m - i) (cap - i))) ((cs.toList.drop (0 + i * 2)).take ((n - i) * 2)) (by kernel_rfl) (by kernel_rfl) (T := 62) (ks := 2) (by_ := 32) (by kernel_rfl) (T' := 62) (by kernel_rfl) len_slice (by omega) (fun w hw => first_row (hw.row 1 rfl) (row_room hOw (by omega))) (copy_room (c := cap) hOw (by omega) (by omega) hcs) (row_one hOw (by omega)) ?_
      refine od_ ?_
      refine any_nil (by kernel_rfl) ?_
      refine ds_ (sq_ (ao_ (qo 4 [(2, .sl (.slice (some ⟨g, 0 + i * 2, none⟩) (n + m - i) (cap - i)))] [0] [(80, .slice (some ⟨g, 0 + i * 2, none⟩) (n + m - i) (cap - i)), (81, .slice (some ⟨gv, 0, none⟩) m m)] ([SlRun Tryd.prog 34 (.slice (some ⟨g, 0, none⟩) (n + m) cap) (some (.int .i64 (i : Nat))) none none (.slice (some ⟨g, 0 + i * 2, none⟩) (n + m - i) (cap - i))]) (al1 (slE_lo (P := Tryd.prog) (T := 34) (e := 62) (k := 2) (by_ := 32) (by kernel_rfl) (lo := i) (by omega) (by omega))) (ops_copy 1 rfl (by kernel_rfl) (by kernel_rfl) (g := g) (of := (0 + i * 2)) (dn := (n + m - i)) (dc := (cap - i)) (m := m) (cnt := m) (c := (sets cs (0 + (i + m) * 2) ((cs.toList.drop (0 + i * 2)).take ((n - i) * 2)))) (yv := (.slice (some ⟨gv, 0, none⟩) m m)) (vl.flatMap Enc.enc) (by kernel_rfl) (by kernel_rfl) (T := 62) (ks := 2) (by_ := 32) (by kernel_rfl) (T' := 62) (by kernel_rfl) len_slice (by omega) (fun w hw => by have := first_sv (P := Tryd.prog) (w := w) (p := some ⟨gv, 0, none⟩) (m := m) (cap := m) (cnt := m) (sv_row (hw.row 0 rfl) hcv) (by omega); rw [List.take_of_length_le (by omega)] at this; exact this) (by rw [flat_len, ← hm, sets_size]; exact mul_room (c := cap) (by omega) hcs) (flat_one vl) (on_ (ds_ (sq_ (qa0 [] [] [(6, .slice (some ⟨g, 0, none⟩) (n + m) cap)] (ds_ (rt ([]) (.slice (some ⟨g, 0, none⟩) (n + m) cap) ?_))))))))))
      exact fun w' hw => ⟨_, _, [_], rfl, .inr ⟨_, _, rfl, rfl, by simp; omega, ins_room hOw (by omega) hm (by omega) (by omega)⟩, hw.sub (.cons _ (.refl _))⟩
end Go.Proofs.YtahccegfahghfaaDoor

/-! Gangs: what changes a copy. -/
namespace Go.Proofs.YtahccegfahghfaaDoor
open Go Go.RowKit

set_option maxRecDepth 100000 in
theorem with_t (w0 : World) (YX : List Ob) (pg : FuncId) (pcb : Array Value) (P : Int → Gs → List Ob → Prop) (q : Option Addr) (m capq : Nat) (al : List GngA) (w : World)
 (he : ∀ args w, (callFunc pg args).run Tryd.prog w = .ok (.enter pg args) w) (hH : Hs w0 YX w) (hal : Sv w0 q al) (hma : m = al.length) (hbm : m ≤ 1000) (hnm : ∀ x ∈ al, x.Reads w0) (hm9 : ∀ x ∈ al, x.n ≤ 1000)
 (hc : gangB (al.map GngA.val) = true → ∀ (gb : Nat) (q' : Option Addr) (c' : Nat) (Y Yi R : List Ob) (bl : List GngA) (w' : World), SlO 62 Y q' m c' bl → GotG 3 Yi bl → bl.map GngA.val = (al.map GngA.val) → Hs w0 (bx gb #[.slice q' m c'] 36 :: (Y ++ (Yi ++ (YX ++ R)))) w' →
  Calls Tryd.prog pg (#[.pointer (some ⟨gb, 0, none⟩)] ++ pcb) w' fun e w'' => ∃ er q2 n2 c2 Y2 Yi2 bl2 YX2, e = .returned (.int .i64 er) ∧ P er (bl2.map GngA.val) YX2 ∧ SlO 62 Y2 q2 n2 c2 bl2 ∧ GotG 3 Yi2 bl2 ∧ Hs w0 (bx gb #[.slice q2 n2 c2] 36 :: (Y2 ++ (Yi2 ++ (YX2 ++ R)))) w'')
 : Calls Tryd.prog 25 #[.agg #[.slice q m capq], .func (.func pg) #[] pcb] w fun e w' => ∃ er q2 n2 c2 Y2 Yi2 bl2 YX2, e = .returned (.tuple #[.agg #[.slice q2 n2 c2], .int .i64 er]) ∧ SlO 62 Y2 q2 n2 c2 bl2 ∧ GotG 3 Yi2 bl2 ∧ Hs w0 (Y2 ++ (Yi2 ++ YX2)) w' ∧
  ((gangB (al.map GngA.val) = false ∧ er = 240 ∧ bl2 = [] ∧ YX2 = YX) ∨ (gangB (al.map GngA.val) = true ∧ er ≠ 0 ∧ bl2 = [] ∧ ∃ gs, P er gs YX2) ∨ (gangB (al.map GngA.val) = true ∧ er = 0 ∧ P 0 (bl2.map GngA.val) YX2)) := by
 rw [show YX = YX ++ [] from (List.append_nil _).symm] at hH
 refine enter hH Tryd.func25 rfl Tryd.ntmps25 rfl (sq_ (ma0 [] [1] (fun γ1 => [(2, .pointer (some ⟨γ1 0, 0, none⟩)), (4, .pointer (some ⟨γ1 1, 0, none⟩))]) (fun γ1 L => bx (γ1 1) (#[.slice none 0 0]) 36 :: bx (γ1 0) (#[.slice q m capq]) 36 :: L) (fun γ1 => ds_ (sq_ (sq_ (ao_ (qo0 1 [(0, .go (owns 1 0 1))] [1, 2, 4] [(10, .agg #[.slice q m capq])] ?_)))))))
 rcases q3 : gangB (al.map GngA.val) with _ | _
 ·
  refine cD (.int .i64 240) (fun args w => Tryd.call45 args w) (fun w hw => by have := gcheck_t q m capq al w (hal.kept hw.below) hma (by omega) (fun x hx => (hnm x hx).kept hw.below) hm9; rw [q3] at this; exact this) (qo0 1 [] [1, 2, 4] [(6, .int .i64 240)] (on_ (ds_ (sq_ (qa0 [] [1, 2, 4, 6] [(13, .bool true)] (ds_ (t_ (sq_ (qa0 [(2, .go (owns 0 0 1))] [4] [(5, .int .i64 240)] (ds_ (rt (owns 0 0 1) (.tuple #[.agg #[.slice none 0 0], .int .i64 240]) ?_)))))))))))
  exact fun w' hw => ⟨_, none, 0, 0, [], [], [], YX, rfl, SlO.nil, GotG.nil, one_tail14 (Hs.pick [[bx (γ1 1) (#[.slice none 0 0]) 36], [bx (γ1 0) (#[.slice q m capq]) 36], YX] [2] [0, 1] (by kernel_rfl) hw), .inl ⟨(by first | assumption | rfl), rfl, rfl, rfl⟩⟩
 ·
  refine cD (.int .i64 0) (fun args w => Tryd.call45 args w) (fun w hw => by have := gcheck_t q m capq al w (hal.kept hw.below) hma (by omega) (fun x hx => (hnm x hx).kept hw.below) hm9; rw [q3] at this; exact this) (qo0 1 [] [1, 2, 4] [(6, .int .i64 0)] (on_ (ds_ (sq_ (qa0 [] [1, 2, 4, 6] [(13, .bool false)] (ds_ (f_ (at_skip (ds_ (sq_ (ao_ (qo0 2 [(1, .go (owns 1 0 1))] [1, 4] [(17, .slice q m capq)] (cP (fun v L' => ∃ q_ c_ Y_, v = .slice q_ m c_ ∧ L' = List.take 2 (bx (γ1 1) (#[.slice none 0 0]) 36 :: bx (γ1 0) (#[.slice q m capq]) 36 :: (YX ++ [])) ++ (Y_ ++ List.drop 2 (bx (γ1 1) (#[.slice none 0 0]) 36 :: bx (γ1 0) (#[.slice q m capq]) 36 :: (YX ++ []))) ∧ SlO 62 Y_ q_ m c_ al) (fun args w => Tryd.call46 args w) (fun w hw => (gclone_t q m capq al w (hal.kept hw.below) hma (by omega)).mono fun e w' ⟨q_, c_, Y_, he, hO, hb, hY⟩ => ⟨_, _, he, ⟨q_, c_, Y_, rfl, rfl, hO⟩, hw.join hb hY 2⟩) ?_)))))))))))))
  rintro v10 L10 ⟨q10, cq10, Y10, rfl, rfl, hO10⟩
  refine mo0 3 [(5, .go (owns 0 0 1))] [1, 4] (fun γ11 => [(7, .pointer (some ⟨γ11 0, 0, none⟩))]) (fun γ11 L => bx (γ11 0) (#[.slice q10 m cq10]) 36 :: L) (fun γ11 => on_ (ds_ (sq_ (sq_ (qa0 [(1, .go (owns 0 0 1))] [1, 4, 7] [(22, .int .i64 (m : Nat)), (23, .int .i64 0)] (ds_ (at_block (At.pick [[bx (γ11 0) (#[.slice q10 m cq10]) 36], [bx (γ1 1) (#[.slice none 0 0]) 36], [bx (γ1 0) (#[.slice q m capq]) 36], Y10, YX] [0, 1, 2, 3, 4] [] (bx (γ11 0) (#[.slice q10 m cq10]) 36 :: bx (γ1 1) (#[.slice none 0 0]) 36 :: bx (γ1 0) (#[.slice q m capq]) 36 :: (Y10 ++ (YX ++ []))) (by kernel_rfl) rfl rfl (at_loop (α := Nat × List GngA × List Ob × Option Addr × Nat × List Ob) [1, 4, 7, 22, 23] (fun ⟨j, bl, Yg, pq, cq, Yi⟩ => [(1, .func (.func pg) #[] pcb), (4, .pointer (some ⟨γ1 1, 0, none⟩)), (7, .pointer (some ⟨γ11 0, 0, none⟩)), (22, .int .i64 (m : Nat)), (23, .int .i64 (j : Nat))]) (fun ⟨j, bl, Yg, pq, cq, Yi⟩ => bx (γ11 0) (#[.slice pq m cq]) 36 :: bx (γ1 1) (#[.slice none 0 0]) 36 :: bx (γ1 0) (#[.slice q m capq]) 36 :: (Yg ++ (Yi ++ (YX ++ [])))) (fun ⟨j, bl, Yg, pq, cq, Yi⟩ => j ≤ m ∧ SlO 62 Yg pq m cq bl ∧ GotR 3 Yi ((bl.take j).map GngA.row) ∧ bl.drop j = al.drop j ∧ bl.map GngA.val = (al.map GngA.val)) (fun ⟨j, bl, Yg, pq, cq, Yi⟩ => m - j) (0, al, Y10, q10, cq10, []) (by kernel_rfl) rfl ⟨Nat.zero_le _, hO10, GotR.nil, rfl, rfl⟩ ?_)))))))))
  rintro ⟨j, bl, Yg, pq, cq, Yi⟩
  rintro ⟨hj, hO, hG, hD, hV⟩
  have hlb := hO.len
  refine sq_ ?_
  by_cases q14 : ((j : Nat) : Int) < ((m : Nat) : Int)
  ·
   refine qa [(0, .yes)] [1, 4, 7, 22, 23] [(24, .bool true)] ([((j : Nat) : Int) < ((m : Nat) : Int)]) (al1 q14) (ds_ (sq_ (t_ (at_skip (ds_ (sq_ (at_block (sq_ (qa0 [] [1, 4, 7, 22, 23] [(8, .int .i64 (j : Nat))] (ds_ ?_))))))))))
   have hln18 := hO.len
   obtain ⟨g18, cs18, rfl, rfl, hOw18⟩ := hO.rowOf (i := j) (by omega)
   obtain ⟨x20, hx20⟩ := get_some (l := bl) (m := j) (by omega)
   have halx20 := wt_get hD hx20
   have hsx20 : Sv w0 x20.p x20.l := (hnm x20 (List.mem_of_getElem? halx20)).sv
   have hnx20 : x20.n = x20.l.length := (hnm x20 (List.mem_of_getElem? halx20)).hn
   have hm9x20 := hm9 x20 (List.mem_of_getElem? halx20)
   refine at_any (by kernel_rfl) ?_
   refine tk (m := 9) [0, 2, 3, 5] [] [1, 4, 7, 22, 23] [(26, .pointer (some ⟨γ11 0, 0, none⟩)), (28, .int .i64 (j : Nat)), (29, .pointer (some ⟨γ11 0, 0, none⟩)), (31, .int .i64 (j : Nat))] ([]) #[true, false, true, true, false, true, false, false, false, false, false, false, false] al0 ?_
   refine any_cutX (V := (List Ob) × (Nat) × (Option Addr)) (fun ⟨Y204, cq204, q204⟩ => SlO 3 Y204 q204 x20.n cq204 x20.l) 0 #[true, true, true, true, true, true, true, true, true, true, true, true, true] (fun ⟨Y204, cq204, q204⟩ => [(1, .func (.func pg) #[] pcb), (4, .pointer (some ⟨γ1 1, 0, none⟩)), (7, .pointer (some ⟨γ11 0, 0, none⟩)), (22, .int .i64 (m : Nat)), (23, .int .i64 (j : Nat))]) (fun ⟨Y204, cq204, q204⟩ => bx (γ11 0) (#[.slice (some ⟨g18, 0, none⟩) m cq]) 36 :: bx (γ1 1) (#[.slice none 0 0]) 36 :: bx (γ1 0) (#[.slice q m capq]) 36 :: bx g18 ((cs18).setIfInBounds (0 + j * 2 + 1) (.slice q204 x20.n cq204)) 62 :: (Y204 ++ (Yi ++ (YX ++ [])))) ?_ (fun hmx8 => ?_)
   rotate_left
   ·
    refine any_cutX (V := (List Ob) × (Nat) × (Option Addr)) (fun ⟨Y204, cq204, q204⟩ => SlO 3 Y204 q204 x20.n cq204 x20.l) 1 #[true, true, true, true, true, true, true, true, true, true, true, true, false] (fun ⟨Y204, cq204, q204⟩ => [(1, .func (.func pg) #[] pcb), (4, .pointer (some ⟨γ1 1, 0, none⟩)), (7, .pointer (some ⟨γ11 0, 0, none⟩)), (22, .int .i64 (m : Nat)), (23, .int .i64 (j : Nat)), (35, .slice q204 x20.n cq204), (37, .pointer (some ⟨g18, 0 + j * 2 + 1, none⟩))]) (fun ⟨Y204, cq204, q204⟩ => bx (γ11 0) (#[.slice (some ⟨g18, 0, none⟩) m cq]) 36 :: bx (γ1 1) (#[.slice none 0 0]) 36 :: bx (γ1 0) (#[.slice q m capq]) 36 :: bx g18 cs18 62 :: (Y204 ++ (Yi ++ (YX ++ [])))) ?_ (fun hmx7 => ?_)
    ·
     rintro ⟨Y204, cq204, q204⟩ hO204
     refine a1 12 rfl ?_
     refine mo 1 [(12, .go (ownps 3 (0 + j * 2 + 1) [undef]))] [1, 4, 7, 22, 23] (fun _ => []) (fun _ L => (L.set 3 (bx g18 ((cs18).setIfInBounds (0 + j * 2 + 1) (.slice q204 x20.n cq204)) 62))) (fun _ => [0 + j * 2 + 1 < (cs18).size]) (fun _ => (al1 (hOw18.room hO.len hx20 (f := 1) (by decide)))) (fun _ => ?_)
     refine od_ ?_
     exact wk (hmx8 (Y204, cq204, q204) hO204) [1, 4, 7, 22, 23] [[_], [_], [_], [_], _, _, _] [0, 1, 2, 3, 4, 5, 6] rfl rfl
    refine any_cutX (V := (List Ob) × (Nat) × (Option Addr)) (fun ⟨Y204, cq204, q204⟩ => SlO 3 Y204 q204 x20.n cq204 x20.l) 4 #[true, false, true, true, true, true, true, true, true, true, false, false, false] (fun ⟨Y204, cq204, q204⟩ => [(1, .func (.func pg) #[] pcb), (4, .pointer (some ⟨γ1 1, 0, none⟩)), (7, .pointer (some ⟨γ11 0, 0, none⟩)), (22, .int .i64 (m : Nat)), (23, .int .i64 (j : Nat)), (26, .pointer (some ⟨γ11 0, 0, none⟩)), (28, .int .i64 (j : Nat)), (35, .slice q204 x20.n cq204)]) (fun ⟨Y204, cq204, q204⟩ => bx (γ11 0) (#[.slice (some ⟨g18, 0, none⟩) m cq]) 36 :: bx (γ1 1) (#[.slice none 0 0]) 36 :: bx (γ1 0) (#[.slice q m capq]) 36 :: bx g18 cs18 62 :: (Y204 ++ (Yi ++ (YX ++ [])))) ?_ (fun hmx6 => ?_)
    ·
     rintro ⟨Y204, cq204, q204⟩ hO204
     refine a1 1 rfl ?_
     refine qo0 1 [(1, .go (owns 0 0 1))] [1, 4, 7, 22, 23, 28, 35] [(27, .slice (some ⟨g18, 0, none⟩) m cq)] ?_
     refine od_ ?_
     refine tk (m := 1) [10, 11] [(10, .at g18 0 j)] [1, 4, 7, 22, 23, 35] [(37, .pointer (some ⟨g18, 0 + j * 2 + 1, none⟩))] ([(some ⟨g18, 0, none⟩ : Option Addr) = some ⟨g18, 0, none⟩, (j : Nat) = ((j : Nat) : Int), j < m]) #[true, true, true, true, true, true, true, true, true, true, true, true, false] (al2 rfl (al2 rfl (al1 (by omega)))) ?_
     exact wk (hmx7 (Y204, cq204, q204) hO204) [1, 4, 7, 22, 23, 35, 37] [[_], [_], [_], [_], _, _, _] [0, 1, 2, 3, 4, 5, 6] rfl rfl
    refine any_cutX (V := Unit) (fun _ => True) 4 #[true, true, true, true, true, true, true, true, true, false, false, false, false] (fun _ => [(1, .func (.func pg) #[] pcb), (4, .pointer (some ⟨γ1 1, 0, none⟩)), (7, .pointer (some ⟨γ11 0, 0, none⟩)), (22, .int .i64 (m : Nat)), (23, .int .i64 (j : Nat)), (27, .slice (some ⟨g18, 0, none⟩) m cq), (28, .int .i64 (j : Nat)), (34, .slice x20.p x20.n x20.cap)]) (fun _ => bx (γ11 0) (#[.slice (some ⟨g18, 0, none⟩) m cq]) 36 :: bx (γ1 1) (#[.slice none 0 0]) 36 :: bx (γ1 0) (#[.slice q m capq]) 36 :: bx g18 cs18 62 :: (Yi ++ (YX ++ []))) ?_ (fun hmx5 => ?_)
    ·
     rintro _ _
     refine a1 9 rfl ?_
     refine cP (fun v L' => ∃ q_ c_ Y_, v = .slice q_ x20.n c_ ∧ L' = List.take 4 (bx (γ11 0) (#[.slice (some ⟨g18, 0, none⟩) m cq]) 36 :: bx (γ1 1) (#[.slice none 0 0]) 36 :: bx (γ1 0) (#[.slice q m capq]) 36 :: bx g18 cs18 62 :: (Yi ++ (YX ++ []))) ++ (Y_ ++ List.drop 4 (bx (γ11 0) (#[.slice (some ⟨g18, 0, none⟩) m cq]) 36 :: bx (γ1 1) (#[.slice none 0 0]) 36 :: bx (γ1 0) (#[.slice q m capq]) 36 :: bx g18 cs18 62 :: (Yi ++ (YX ++ [])))) ∧ SlO 3 Y_ q_ x20.n c_ x20.l) (fun args w => Tryd.call32 args w) (fun w hw => (cloneints_t x20.p x20.n x20.cap x20.l w (hsx20.kept hw.below) hnx20 (by omega)).mono fun e w' ⟨q_, c_, Y_, he, hO, hb, hY⟩ => ⟨_, _, he, ⟨q_, c_, Y_, rfl, rfl, hO⟩, hw.join hb hY 4⟩) ?_
     rintro v204 L204 ⟨q204, cq204, Y204, rfl, rfl, hO204⟩
     refine od_ ?_
     refine tk (m := 1) [10, 11] [(10, .at g18 0 j)] [1, 4, 7, 22, 23, 35] [(37, .pointer (some ⟨g18, 0 + j * 2 + 1, none⟩))] ([(some ⟨g18, 0, none⟩ : Option Addr) = some ⟨g18, 0, none⟩, (j : Nat) = ((j : Nat) : Int), j < m]) #[true, true, true, true, true, true, true, true, true, true, true, true, false] (al2 rfl (al2 rfl (al1 (by omega)))) ?_
     exact wk (hmx7 (Y204, cq204, q204) hO204) [1, 4, 7, 22, 23, 35, 37] [[_], [_], [_], [_], _, _, _] [0, 1, 2, 3, 4, 5, 6] rfl rfl
    refine any_cutX (V := Unit) (fun _ => True) 5 #[true, false, true, true, true, true, true, true, true, false, false, false, false] (fun _ => [(1, .func (.func pg) #[] pcb), (4, .pointer (some ⟨γ1 1, 0, none⟩)), (7, .pointer (some ⟨γ11 0, 0, none⟩)), (22, .int .i64 (m : Nat)), (23, .int .i64 (j : Nat)), (26, .pointer (some ⟨γ11 0, 0, none⟩)), (28, .int .i64 (j : Nat)), (34, .slice x20.p x20.n x20.cap)]) (fun _ => bx (γ11 0) (#[.slice (some ⟨g18, 0, none⟩) m cq]) 36 :: bx (γ1 1) (#[.slice none 0 0]) 36 :: bx (γ1 0) (#[.slice q m capq]) 36 :: bx g18 cs18 62 :: (Yi ++ (YX ++ []))) ?_ (fun hmx4 => ?_)
    ·
     rintro _ _
     refine any_fork [1, 9] (by kernel_rfl) (by simp) (each_cons _ rfl ?_ (each_cons _ rfl ?_ (each_nil)))
     ·
      refine qo0 1 [(1, .go (owns 0 0 1))] [1, 4, 7, 22, 23, 28, 34] [(27, .slice (some ⟨g18, 0, none⟩) m cq)] ?_
      refine od_ ?_
      exact wk (hmx5 () trivial) [1, 4, 7, 22, 23, 27, 28, 34] [[_], [_], [_], [_], _, _] [0, 1, 2, 3, 4, 5] rfl rfl
     ·
      refine cP (fun v L' => ∃ q_ c_ Y_, v = .slice q_ x20.n c_ ∧ L' = List.take 4 (bx (γ11 0) (#[.slice (some ⟨g18, 0, none⟩) m cq]) 36 :: bx (γ1 1) (#[.slice none 0 0]) 36 :: bx (γ1 0) (#[.slice q m capq]) 36 :: bx g18 cs18 62 :: (Yi ++ (YX ++ []))) ++ (Y_ ++ List.drop 4 (bx (γ11 0) (#[.slice (some ⟨g18, 0, none⟩) m cq]) 36 :: bx (γ1 1) (#[.slice none 0 0]) 36 :: bx (γ1 0) (#[.slice q m capq]) 36 :: bx g18 cs18 62 :: (Yi ++ (YX ++ [])))) ∧ SlO 3 Y_ q_ x20.n c_ x20.l) (fun args w => Tryd.call32 args w) (fun w hw => (cloneints_t x20.p x20.n x20.cap x20.l w (hsx20.kept hw.below) hnx20 (by omega)).mono fun e w' ⟨q_, c_, Y_, he, hO, hb, hY⟩ => ⟨_, _, he, ⟨q_, c_, Y_, rfl, rfl, hO⟩, hw.join hb hY 4⟩) ?_
      rintro v204 L204 ⟨q204, cq204, Y204, rfl, rfl, hO204⟩
      refine od_ ?_
      exact wk (hmx6 (Y204, cq204, q204) hO204) [1, 4, 7, 22, 23, 26, 28, 35] [[_], [_], [_], [_], _, _, _] [0, 1, 2, 3, 4, 5, 6] rfl rfl
    refine any_cutX (V := Unit) (fun _ => True) 5 #[true, true, true, true, true, true, true, true, false, false, false, false, false] (fun _ => [(1, .func (.func pg) #[] pcb), (4, .pointer (some ⟨γ1 1, 0, none⟩)), (7, .pointer (some ⟨γ11 0, 0, none⟩)), (22, .int .i64 (m : Nat)), (23, .int .i64 (j : Nat)), (27, .slice (some ⟨g18, 0, none⟩) m cq), (28, .int .i64 (j : Nat)), (33, .pointer (some ⟨g18, 0 + j * 2 + 1, none⟩))]) (fun _ => bx (γ11 0) (#[.slice (some ⟨g18, 0, none⟩) m cq]) 36 :: bx (γ1 1) (#[.slice none 0 0]) 36 :: bx (γ1 0) (#[.slice q m capq]) 36 :: bx g18 cs18 62 :: (Yi ++ (YX ++ []))) ?_ (fun hmx3 => ?_)
    ·
     rintro _ _
     refine a1 8 rfl ?_
     refine qo 1 [(8, .go (ownps 3 (0 + j * 2 + 1) [.slice x20.p x20.n x20.cap]))] [1, 4, 7, 22, 23, 27, 28] [(34, .slice x20.p x20.n x20.cap)] (acellsP cs18 (0 + j * 2 + 1) [.slice x20.p x20.n x20.cap]) (rda_part (hOw18.rdx hO.len hx20) 1 _ rfl) ?_
     refine od_ ?_
     exact wk (hmx5 () trivial) [1, 4, 7, 22, 23, 27, 28, 34] [[_], [_], [_], [_], _, _] [0, 1, 2, 3, 4, 5] rfl rfl
    refine any_cutX (V := Unit) (fun _ => True) 6 #[true, false, true, true, true, true, true, true, false, false, false, false, false] (fun _ => [(1, .func (.func pg) #[] pcb), (4, .pointer (some ⟨γ1 1, 0, none⟩)), (7, .pointer (some ⟨γ11 0, 0, none⟩)), (22, .int .i64 (m : Nat)), (23, .int .i64 (j : Nat)), (26, .pointer (some ⟨γ11 0, 0, none⟩)), (28, .int .i64 (j : Nat)), (33, .pointer (some ⟨g18, 0 + j * 2 + 1, none⟩))]) (fun _ => bx (γ11 0) (#[.slice (some ⟨g18, 0, none⟩) m cq]) 36 :: bx (γ1 1) (#[.slice none 0 0]) 36 :: bx (γ1 0) (#[.slice q m capq]) 36 :: bx g18 cs18 62 :: (Yi ++ (YX ++ []))) ?_ (fun hmx2 => ?_)
    ·
     rintro _ _
     refine any_fork [1, 8] (by kernel_rfl) (by simp) (each_cons _ rfl ?_ (each_cons _ rfl ?_ (each_nil)))
     ·
      refine qo0 1 [(1, .go (owns 0 0 1))] [1, 4, 7, 22, 23, 28, 33] [(27, .slice (some ⟨g18, 0, none⟩) m cq)] ?_
      refine od_ ?_
      exact wk (hmx3 () trivial) [1, 4, 7, 22, 23, 27, 28, 33] [[_], [_], [_], [_], _, _] [0, 1, 2, 3, 4, 5] rfl rfl
     ·
      refine qo 1 [(8, .go (ownps 3 (0 + j * 2 + 1) [.slice x20.p x20.n x20.cap]))] [1, 4, 7, 22, 23, 26, 28] [(34, .slice x20.p x20.n x20.cap)] (acellsP cs18 (0 + j * 2 + 1) [.slice x20.p x20.n x20.cap]) (rda_part (hOw18.rdx hO.len hx20) 1 _ rfl) ?_
      refine od_ ?_
      exact wk (hmx4 () trivial) [1, 4, 7, 22, 23, 26, 28, 34] [[_], [_], [_], [_], _, _] [0, 1, 2, 3, 4, 5] rfl rfl
    refine any_cutX (V := Unit) (fun _ => True) 8 #[true, true, true, true, false, true, false, false, false, false, false, false, false] (fun _ => [(1, .func (.func pg) #[] pcb), (4, .pointer (some ⟨γ1 1, 0, none⟩)), (7, .pointer (some ⟨γ11 0, 0, none⟩)), (22, .int .i64 (m : Nat)), (23, .int .i64 (j : Nat)), (27, .slice (some ⟨g18, 0, none⟩) m cq), (28, .int .i64 (j : Nat)), (29, .pointer (some ⟨γ11 0, 0, none⟩)), (31, .int .i64 (j : Nat))]) (fun _ => bx (γ11 0) (#[.slice (some ⟨g18, 0, none⟩) m cq]) 36 :: bx (γ1 1) (#[.slice none 0 0]) 36 :: bx (γ1 0) (#[.slice q m capq]) 36 :: bx g18 cs18 62 :: (Yi ++ (YX ++ []))) ?_ (fun hmx1 => ?_)
    ·
     rintro _ _
     refine a1 4 rfl ?_
     refine qo0 1 [(4, .go (owns 0 0 1))] [1, 4, 7, 22, 23, 27, 28, 31] [(30, .slice (some ⟨g18, 0, none⟩) m cq)] ?_
     refine od_ ?_
     refine tk (m := 5) [6, 7] [(6, .at g18 0 j)] [1, 4, 7, 22, 23, 27, 28] [(33, .pointer (some ⟨g18, 0 + j * 2 + 1, none⟩))] ([(some ⟨g18, 0, none⟩ : Option Addr) = some ⟨g18, 0, none⟩, (j : Nat) = ((j : Nat) : Int), j < m]) #[true, true, true, true, true, true, true, true, false, false, false, false, false] (al2 rfl (al2 rfl (al1 (by omega)))) ?_
     exact wk (hmx3 () trivial) [1, 4, 7, 22, 23, 27, 28, 33] [[_], [_], [_], [_], _, _] [0, 1, 2, 3, 4, 5] rfl rfl
    refine any_fork [1, 4] (by kernel_rfl) (by simp) (each_cons _ rfl ?_ (each_cons _ rfl ?_ (each_nil)))
    ·
     refine qo0 1 [(1, .go (owns 0 0 1))] [1, 4, 7, 22, 23, 28, 29, 31] [(27, .slice (some ⟨g18, 0, none⟩) m cq)] ?_
     refine od_ ?_
     exact wk (hmx1 () trivial) [1, 4, 7, 22, 23, 27, 28, 29, 31] [[_], [_], [_], [_], _, _] [0, 1, 2, 3, 4, 5] rfl rfl
    ·
     refine qo0 1 [(4, .go (owns 0 0 1))] [1, 4, 7, 22, 23, 26, 28, 31] [(30, .slice (some ⟨g18, 0, none⟩) m cq)] ?_
     refine od_ ?_
     refine tk (m := 6) [6, 7] [(6, .at g18 0 j)] [1, 4, 7, 22, 23, 26, 28] [(33, .pointer (some ⟨g18, 0 + j * 2 + 1, none⟩))] ([(some ⟨g18, 0, none⟩ : Option Addr) = some ⟨g18, 0, none⟩, (j : Nat) = ((j : Nat) : Int), j < m]) #[true, false, true, true, true, true, true, true, false, false, false, false, false] (al2 rfl (al2 rfl (al1 (by omega)))) ?_
     exact wk (hmx2 () trivial) [1, 4, 7, 22, 23, 26, 28, 33] [[_], [_], [_], [_], _, _] [0, 1, 2, 3, 4, 5] rfl rfl
   rintro ⟨Y204, cq204, q204⟩ hO204
   refine any_nil (by kernel_rfl) ?_
   refine done_block (ds_ (qa [(0, .fit)] [1, 4, 7, 22] [(23, .int .i64 (j + 1 : Nat))] ([Fit .i64 ((j + 1 : Nat))]) (al1 (fit64 (by omega) (by omega))) (Done.pick [[bx (γ11 0) (#[.slice (some ⟨g18, 0, none⟩) m cq]) 36], [bx (γ1 1) (#[.slice none 0 0]) 36], [bx (γ1 0) (#[.slice q m capq]) 36], [bx g18 ((cs18).setIfInBounds (0 + j * 2 + 1) (.slice q204 x20.n cq204)) 62], Y204, Yi, YX] [0, 1, 2, 3, 5, 4, 6] [] (bx (γ11 0) (#[.slice (some ⟨g18, 0, none⟩) m cq]) 36 :: bx (γ1 1) (#[.slice none 0 0]) 36 :: bx (γ1 0) (#[.slice q m capq]) 36 :: ([bx g18 ((cs18).setIfInBounds (0 + j * 2 + 1) (.slice q204 x20.n cq204)) 62] ++ (Yi ++ (Y204 ++ (YX ++ []))))) (by kernel_rfl) rfl rfl (Done.as (L' := bx (γ11 0) (#[.slice (some ⟨g18, 0, none⟩) m cq]) 36 :: bx (γ1 1) (#[.slice none 0 0]) 36 :: bx (γ1 0) (#[.slice q m capq]) 36 :: ([bx g18 ((cs18).setIfInBounds (0 + j * 2 + 1) (.slice q204 x20.n cq204)) 62] ++ ((Yi ++ Y204) ++ (YX ++ [])))) (by simp only [List.append_assoc]) ?_))))
   exact dr [1, 4, 7, 22, 23] (j + 1, (bl.set j (⟨x20.id, q204, x20.n, cq204, x20.l⟩ : GngA)), ([bx g18 ((cs18).setIfInBounds (0 + j * 2 + 1) (.slice q204 x20.n cq204)) 62]), (some ⟨g18, 0, none⟩), cq, Yi ++ Y204) ⟨by omega, (SlO.ofOwn (hOw18.put (x' := (⟨x20.id, q204, x20.n, cq204, x20.l⟩ : GngA)) hO.len hx20 (f := 1) (by decide) rfl) (len_set hO.len)), wt_own hG hx20 hO204, wt_drop hD, wt_val hx20 hV rfl⟩
  ·
   refine qa [(0, .no)] [1, 4, 7, 22, 23] [(24, .bool false)] ([¬ (((j : Nat) : Int) < ((m : Nat) : Int))]) (al1 q14) (ds_ (sq_ (f_ (at_leave _ rfl (ds_ (sq_ (sq_ (ao_ (qo0 1 [] [4, 7] [(39, .func (.func pg) #[] pcb)] (cP (fun v L' => ∃ er q_ n_ c_ Y_ Z_ bl_ X_, v = .int .i64 er ∧ L' = bx (γ11 0) #[.slice q_ n_ c_] 36 :: ([bx (γ1 1) (#[.slice none 0 0]) 36, bx (γ1 0) (#[.slice q m capq]) 36] ++ (Y_ ++ (Z_ ++ (X_ ++ [])))) ∧ P er (bl_.map GngA.val) X_ ∧ SlO 62 Y_ q_ n_ c_ bl_ ∧ GotG 3 Z_ bl_) he (fun w hw => (hc q3 (γ11 0) pq cq Yg Yi [bx (γ1 1) (#[.slice none 0 0]) 36, bx (γ1 0) (#[.slice q m capq]) 36] bl w hO (by rw [← List.take_of_length_le (show bl.length ≤ j by omega)]; exact hG) hV (wt_in (A := [bx (γ1 1) (#[.slice none 0 0]) 36, bx (γ1 0) (#[.slice q m capq]) 36]) hw)).mono fun e w' ⟨er, q_, n_, c_, Y_, Z_, bl_, X_, he, h1, h2, h3, hX⟩ => ⟨_, _, he, ⟨er, q_, n_, c_, Y_, Z_, bl_, X_, rfl, rfl, h1, h2, h3⟩, wt_out (A := [bx (γ1 1) (#[.slice none 0 0]) 36, bx (γ1 0) (#[.slice q m capq]) 36]) hX⟩) ?_))))))))))
   rintro v333 L333 ⟨er333, q333, n333, c333, Y333, Yz333, bl333, YX333, rfl, rfl, hP333, hO333, hG333⟩
   refine qo0 1 [] [4, 7] [(9, .int .i64 er333)] (on_ (ds_ (sq_ ?_)))
   by_cases q336 : (er333 : Int) ≠ (0 : Int)
   ·
    refine qa [(1, .yes)] [4, 7, 9] [(42, .bool true)] ([(er333 : Int) ≠ (0 : Int)]) (al1 q336) (ds_ (t_ (sq_ (qa0 [(2, .go (owns 1 0 1))] [4] [(5, .int .i64 er333)] (ds_ (rt (owns 1 0 1) (.tuple #[.agg #[.slice none 0 0], .int .i64 er333]) ?_))))))
    exact fun w' hw => ⟨_, none, 0, 0, [], [], [], YX333, rfl, SlO.nil, GotG.nil, one_tail14 (Hs.pick [[bx (γ11 0) (#[.slice q333 n333 c333]) 36], [bx (γ1 1) (#[.slice none 0 0]) 36], [bx (γ1 0) (#[.slice q m capq]) 36], Y333, Yz333, YX333] [5] [0, 1, 2, 3, 4] (by kernel_rfl) hw), .inr (.inl ⟨(by first | assumption | rfl), by omega, rfl, _, hP333⟩)⟩
   ·
    refine qa [(1, .no)] [4, 7, 9] [(42, .bool false)] ([¬ ((er333 : Int) ≠ (0 : Int))]) (al1 q336) (ds_ (f_ (at_skip (ds_ (sq_ (ma0 [(0, .go (owns 0 0 1)), (1, .go (owns 1 0 1))] [4] (fun _ => [(5, .int .i64 0)]) (fun _ L => (L.set 1 (bx (γ1 1) (#[.slice q333 n333 c333]) 36))) (fun _ => ds_ (rt (owns 1 0 1) (.tuple #[.agg #[.slice q333 n333 c333], .int .i64 0]) ?_))))))))
    obtain rfl : er333 = 0 := by omega
    exact fun w' hw => ⟨_, _, _, _, _, _, _, _, rfl, hO333, hG333, wt_tail (Hs.pick [[bx (γ11 0) (#[.slice q333 n333 c333]) 36], [bx (γ1 1) (#[.slice q333 n333 c333]) 36], [bx (γ1 0) (#[.slice q m capq]) 36], Y333, Yz333, YX333] [3, 4, 5] [0, 1, 2] (by kernel_rfl) hw), .inr (.inr ⟨(by first | assumption | rfl), rfl, hP333⟩)⟩
end Go.Proofs.YtahccegfahghfaaDoor

/-! Gangs: Form; plain. -/
namespace Go.Proofs.YtahccegfahghfaaDoor
open Go Go.RowKit
/-- The first number that is free, from i on. -/
def gapV : Nat → Gs → Nat
  | i, [] => i
  | i, g :: t => if g.1 = (i : Int) + 1 then gapV (i + 1) t else i
/-- It is in one of these gangs. -/
def inV (gs : Gs) (k : Int) : Bool := gs.any fun g => decide (k ∈ g.2)
/-- What Form does to a copy: gangs, the number, the error. -/
def formC (gs : Gs) (l : List Int) : Gs × Int × Int :=
  if mayB l = false then (gs, 0, 2) else if l.any (inV gs) = true then (gs, 0, 5) else if gapV 0 gs = 8 then (gs, 0, 6)
  else (gs.take (gapV 0 gs) ++ [(((gapV 0 gs : Nat) : Int) + 1, l)] ++ gs.drop (gapV 0 gs), ((gapV 0 gs : Nat) : Int) + 1, 0)
/-- What Form answers. -/
def formV (gs : Gs) (l : List Int) : Gs × Int × Int :=
  if gangB gs = false then ([], 0, 240) else if (formC gs l).2.2 = 0 then formC gs l else ([], (formC gs l).2.1, (formC gs l).2.2)
theorem drop_atG {α : Type} {l : List α} {x : α} {j : Nat} (hx : l[j]? = some x) : l.drop j = x :: l.drop (j + 1) := by
  obtain ⟨hl, he⟩ := List.getElem?_eq_some_iff.1 hx
  rw [← he]; exact List.drop_eq_getElem_cons hl
section
variable {gs : Gs} {l : List Int} {T : TypeId} {Yi Y : List Ob} {bl : List GngA} {x : GngA} {j : Nat} {k : Int} {g : Int × List Int} {t : Gs}
theorem fc_arg (h : mayB l = false) : formC gs l = (gs, 0, 2) := by rw [formC, if_pos h]
theorem fc_there (h : mayB l = true) (h2 : l.any (inV gs) = true) : formC gs l = (gs, 0, 5) := by rw [formC, if_neg (by rw [h]; decide), if_pos h2]
theorem fc_full (h : mayB l = true) (h2 : l.any (inV gs) = false) (hg : j = gapV 0 gs) (h3 : j = 8) : formC gs l = (gs, 0, 6) := by rw [formC, if_neg (by rw [h]; decide), if_neg (by rw [h2]; decide), if_pos (by omega)]
theorem fc_ok (h : mayB l = true) (h2 : l.any (inV gs) = false) (hg : j = gapV 0 gs) (h3 : ¬ j = 8) : formC gs l = (gs.take j ++ [((j : Int) + 1, l)] ++ gs.drop j, (j : Int) + 1, 0) := by
  subst hg; rw [formC, if_neg (by rw [h]; decide), if_neg (by rw [h2]; decide), if_neg h3]
theorem gap_on (h : g.1 = (j : Int) + 1) : gapV j (g :: t) = gapV (j + 1) t := by rw [gapV, if_pos h]
theorem gap_no (h : ¬ g.1 = (j : Int) + 1) : gapV j (g :: t) = j := by rw [gapV, if_neg h]
theorem inG_val : inG bl = inV (bl.map GngA.val) := by
  funext k
  unfold inG inV
  rw [List.any_map]
  show decide (0 ≤ idxF (hasG k) bl) = bl.any (hasG k)
  rcases idxF_cases (hasG k) bl with ⟨hix, hn⟩ | ⟨i0, x0, hix, hx0, hp0, _⟩
  · rw [hix]
    rw [List.any_eq_false.2 (fun x hx h => Bool.false_ne_true ((hn x hx).symm.trans h))]
    rfl
  · rw [hix, List.any_eq_true.2 ⟨x0, List.mem_of_getElem? hx0, hp0⟩]
    exact decide_eq_true (by omega)
theorem val_ins : (bl.take j ++ [x] ++ bl.drop j).map GngA.val = (bl.map GngA.val).take j ++ [x.val] ++ (bl.map GngA.val).drop j := by
  rw [List.map_append, List.map_append, List.map_take, List.map_drop]; rfl
theorem GotG.ins (h : GotG T Yi bl) (hx : SlO T Y x.p x.n x.cap x.l) (hj : j ≤ bl.length) : ∃ Yi2, (Yi ++ Y).Perm Yi2 ∧ GotG T Yi2 (bl.take j ++ [x] ++ bl.drop j) := by
  obtain ⟨Ys, rfl, hl, hs⟩ := h
  rw [List.length_map] at hl
  refine ⟨(Ys.take j ++ [Y] ++ Ys.drop j).flatten, ?_, Ys.take j ++ [Y] ++ Ys.drop j, rfl, by simp [hl], fun i Z z h1 h2 => ?_⟩
  · conv => lhs; rw [← List.take_append_drop j Ys]
    simp only [List.flatten_append, List.flatten_cons, List.flatten_nil, List.append_nil, List.append_assoc]
    exact List.Perm.append_left _ List.perm_append_comm
  · rw [List.getElem?_map] at h2
    have ht : (Ys.take j).length = j := by rw [List.length_take]; omega
    have ht2 : (bl.take j).length = j := by rw [List.length_take]; omega
    by_cases hi : i < j
    · rw [List.append_assoc, List.getElem?_append_left (by omega), List.getElem?_take, if_pos hi] at h1 h2
      exact hs i Z z h1 (by rw [List.getElem?_map]; exact h2)
    · rw [List.append_assoc, List.getElem?_append_right (by omega)] at h1 h2
      rw [ht] at h1; rw [ht2] at h2
      by_cases he : i = j
      · subst he
        simp at h1 h2
        subst h1; subst h2
        exact hx
      · obtain ⟨d, hd⟩ : ∃ d, i - j = d + 1 := ⟨i - j - 1, by omega⟩
        rw [hd] at h1 h2
        simp only [List.cons_append, List.nil_append, List.getElem?_cons_succ, List.getElem?_drop] at h1 h2
        exact hs (j + d) Z z h1 (by rw [List.getElem?_map]; exact h2)
theorem got_small (h : GotG T Yi bl) (hg : gangB (bl.map GngA.val) = true) : ∀ x ∈ bl, x.n ≤ 1000 := fun x hx => by
  obtain ⟨Z, _, hz⟩ := GotR.own h (List.mem_map_of_mem (f := GngA.row) hx)
  have h1 := (gang_pre hg 0).2.1 x.val (List.mem_map_of_mem hx)
  have h2 := may_len h1
  have h3 : x.row.n = x.row.l.length := hz.facts.1
  have h4 : x.n = x.l.length := h3
  have h5 : x.l.length ≤ 8 := h2.2
  omega
end
end Go.Proofs.YtahccegfahghfaaDoor

/-! Gangs: what Form does to a copy. -/
namespace Go.Proofs.YtahccegfahghfaaDoor
open Go Go.RowKit
theorem form_perm {w0 w : World} {a b c : Ob} {Y Yi Yc Yq YR : List Ob} (hp : (Yi ++ Yc).Perm Yq) (h : Hs w0 (a :: b :: c :: (Y ++ (Yi ++ (Yc ++ YR)))) w) : Hs w0 (a :: b :: c :: (Y ++ (Yq ++ YR))) w := by
 refine h.perm (.cons _ (.cons _ (.cons _ (List.Perm.append_left _ ?_))))
 rw [← List.append_assoc]
 exact hp.append_right _

set_option maxRecDepth 100000 in
theorem form1_t (w0 : World) (Y Yi YR : List Ob) (gb gm gi : Nat) (q : Option Addr) (m capq : Nat) (bl : List GngA) (p : Option Addr) (n cap : Nat) (l : List Int) (w : World)
 (hsl : Sv w0 p l) (hn : n = l.length) (hb : n ≤ 1000) (hbm : m ≤ 1000) (hO : SlO 62 Y q m capq bl) (hG : GotG 3 Yi bl) (hgd : gangB (bl.map GngA.val) = true) (hH : Hs w0 (bx gb #[.slice q m capq] 36 :: bx gm #[.slice p n cap] 27 :: bx gi #[.int .i64 0] 3 :: (Y ++ (Yi ++ YR))) w)
 : Calls Tryd.prog 26 #[.pointer (some ⟨gb, 0, none⟩), .pointer (some ⟨gm, 0, none⟩), .pointer (some ⟨gi, 0, none⟩)] w fun e w' => ∃ er q2 n2 c2 Y2 Yi2 bl2 idn, e = .returned (.int .i64 er) ∧ (bl2.map GngA.val, idn, er) = formC (bl.map GngA.val) l ∧ SlO 62 Y2 q2 n2 c2 bl2 ∧ GotG 3 Yi2 bl2 ∧ Hs w0 (bx gb #[.slice q2 n2 c2] 36 :: bx gm #[.slice p n cap] 27 :: bx gi #[.int .i64 idn] 3 :: (Y2 ++ (Yi2 ++ YR))) w' := by
 have hma := hO.len
 have hm9 := got_small hG hgd
 rw [show YR = YR ++ [] from (List.append_nil _).symm] at hH
 refine enter hH Tryd.func26 rfl Tryd.ntmps26 rfl (sq_ (ma0 [] [1, 2] (fun γ1 => [(3, .pointer (some ⟨γ1 0, 0, none⟩))]) (fun γ1 L => bx (γ1 0) (#[.pointer (some ⟨gb, 0, none⟩)]) 56 :: L) (fun γ1 => ds_ (sq_ (sq_ (ao_ (qo0 1 [(0, .go (owns 2 0 1))] [1, 2, 3] [(6, .slice p n cap)] ?_)))))))
 rcases q3 : mayB l with _ | _
 ·
  refine cD (.bool false) (fun args w => Tryd.call27 args w) (fun w hw => by have := may_t p n cap l w (hsl.kept hw.below) hn (by omega); rw [q3] at this; exact this) (qo0 1 [] [1, 2, 3] [(8, .bool true)] (on_ (ds_ (t_ (sq_ (qa0 [] [] [(4, .int .i64 2)] (ds_ (rt ([]) (.int .i64 2) ?_))))))))
  exact fun w' hw => ⟨_, _, _, _, _, _, bl, 0, rfl, (fc_arg q3).symm, hO, hG, (by have := Hs.pick [[bx (γ1 0) (#[.pointer (some ⟨gb, 0, none⟩)]) 56], [bx gb (#[.slice q m capq]) 36], [bx gm (#[.slice p n cap]) 27], [bx gi (#[.int .i64 0]) 3], Y, Yi, YR] [1, 2, 3, 4, 5, 6] [0] (by kernel_rfl) hw; simpa [chunk] using this)⟩
 ·
  refine cD (.bool true) (fun args w => Tryd.call27 args w) (fun w hw => by have := may_t p n cap l w (hsl.kept hw.below) hn (by omega); rw [q3] at this; exact this) (qo0 1 [] [1, 2, 3] [(8, .bool false)] (on_ (ds_ (f_ (at_skip (ds_ (sq_ (sq_ (ao_ (qo0 2 [(0, .go (owns 2 0 1))] [1, 2, 3] [(9, .slice p n cap), (10, .func (.func 29) #[] #[.pointer (some ⟨γ1 0, 0, none⟩)])] ?_))))))))))
  rcases q8 : l.any (inG bl) with _ | _
  ·
   refine cD (.bool false) (fun args w => Tryd.call28 args w) (fun w hw => by have := containsf_t _ (bx (γ1 0) (#[.pointer (some ⟨gb, 0, none⟩)]) 56 :: bx gb (#[.slice q m capq]) 36 :: bx gm (#[.slice p n cap]) 27 :: bx gi (#[.int .i64 0]) 3 :: (Y ++ (Yi ++ (YR ++ [])))) 29 #[.pointer (some ⟨γ1 0, 0, none⟩)] (inG bl) p n cap l w (fun args w => Tryd.call29 args w) hw (hsl.kept hw.below) hn (by omega) (fun x hx w' hX => form11_t q m capq bl (γ1 0) gb x w' (SlO.sub hO hX (List.Sublist.cons _ (List.Sublist.cons _ (List.Sublist.cons _ (List.Sublist.cons _ (List.sublist_append_left Y _)))))) hma (by omega) (GotG.reads hG hX (List.Sublist.cons _ (List.Sublist.cons _ (List.Sublist.cons _ (List.Sublist.cons _ (List.Sublist.trans (List.sublist_append_left Yi _) (List.sublist_append_right Y _))))))) hm9 (rd_one14 (hX.row 0 rfl)) (rd_one14 (hX.row 1 rfl))); rw [q8] at this; exact this) (on_ (ds_ (f_ (at_skip (ds_ (sq_ (qa0 [] [1, 2, 3] [(5, .int .i64 0)] (ds_ (sq_ (at_block (at_loop (α := Nat) [1, 2, 3, 5] (fun j => [(1, .pointer (some ⟨gm, 0, none⟩)), (2, .pointer (some ⟨gi, 0, none⟩)), (3, .pointer (some ⟨γ1 0, 0, none⟩)), (5, .int .i64 (j : Nat))]) (fun j => bx (γ1 0) (#[.pointer (some ⟨gb, 0, none⟩)]) 56 :: bx gb (#[.slice q m capq]) 36 :: bx gm (#[.slice p n cap]) 27 :: bx gi (#[.int .i64 0]) 3 :: (Y ++ (Yi ++ (YR ++ [])))) (fun j => j ≤ m ∧ gapV j ((bl.map GngA.val).drop j) = gapV 0 (bl.map GngA.val)) (fun j => m - j) 0 (by kernel_rfl) rfl ⟨Nat.zero_le _, rfl⟩ ?_)))))))))))
   rintro j
   rintro ⟨hj, hI⟩
   refine sq_ (sq_ ?_)
   by_cases q12 : ((j : Nat) : Int) < ((m : Nat) : Int)
   ·
    have hln14 := hO.len
    obtain ⟨g14, cs14, rfl, rfl, hOw14⟩ := hO.rowOf (i := j) (by omega)
    refine ao_ (qo 14 [(1, .go (owns 0 0 1)), (4, .go (owns 1 0 1)), (6, .yes), (8, .go (owns 0 0 1)), (11, .go (owns 1 0 1)), (13, .at g14 0 j)] [1, 2, 3, 5] [(19, .bool true), (25, .pointer (some ⟨g14, 0 + j * 2, none⟩))] ([((j : Nat) : Int) < ((m : Nat) : Int)] ++ ([(some ⟨g14, 0, none⟩ : Option Addr) = some ⟨g14, 0, none⟩, (j : Nat) = ((j : Nat) : Int), j < m])) (alA (al1 q12) (al2 rfl (al2 rfl (al1 (by omega))))) ?_)
    obtain ⟨x17, hx17⟩ := get_some (l := bl) (m := j) (by omega)
    by_cases q19 : (x17.id : Int) = ((j + 1 : Nat) : Int)
    ·
     refine qo 6 [(15, .go (ownps 4 (0 + j * 2) [.int .i64 x17.id])), (17, .fit), (18, .yes)] [1, 2, 3, 5] [(31, .bool true)] (acellsP cs14 (0 + j * 2) [.int .i64 x17.id] ++ ([Fit .i64 ((j + 1 : Nat))] ++ ([(x17.id : Int) = ((j + 1 : Nat) : Int)]))) (alA (rda_pre (hOw14.rdx hO.len hx17) _ rfl) (alA (al1 (fit64 (by omega) (by omega))) (al1 q19))) (on_ (ds_ (t_ (at_skip (ds_ (at_block (qa [(1, .fit)] [1, 2, 3] [(5, .int .i64 (j + 1 : Nat))] ([Fit .i64 ((j + 1 : Nat))]) (al1 (fit64 (by omega) (by omega))) (done_block ?_))))))))
     exact dr [1, 2, 3, 5] (j + 1) ⟨by omega, by rw [drop_atG (val_at hx17), gap_on (show x17.id = _ by omega)] at hI; exact hI⟩
    ·
     refine qo 6 [(15, .go (ownps 4 (0 + j * 2) [.int .i64 x17.id])), (17, .fit), (18, .no)] [1, 2, 3, 5] [(31, .bool false)] (acellsP cs14 (0 + j * 2) [.int .i64 x17.id] ++ ([Fit .i64 ((j + 1 : Nat))] ++ ([¬ ((x17.id : Int) = ((j + 1 : Nat) : Int))]))) (alA (rda_pre (hOw14.rdx hO.len hx17) _ rfl) (alA (al1 (fit64 (by omega) (by omega))) (al1 q19))) (on_ (ds_ (f_ (at_leave _ rfl (ds_ (sq_ (sq_ ?_)))))))
     rw [drop_atG (val_at hx17), gap_no (show ¬ x17.id = _ by omega)] at hI
     refine At.pick [[bx (γ1 0) (#[.pointer (some ⟨gb, 0, none⟩)]) 56], [bx gb (#[.slice (some ⟨g14, 0, none⟩) m capq]) 36], [bx gm (#[.slice p n cap]) 27], [bx gi (#[.int .i64 0]) 3], [bx g14 cs14 62], Yi, YR] [0, 1, 2, 3, 4, 5, 6] [] (bx (γ1 0) (#[.pointer (some ⟨gb, 0, none⟩)]) 56 :: bx gb (#[.slice (some ⟨g14, 0, none⟩) m capq]) 36 :: bx gm (#[.slice p n cap]) 27 :: bx gi (#[.int .i64 0]) 3 :: ([bx g14 cs14 62] ++ (Yi ++ (YR ++ [])))) (by kernel_rfl) rfl rfl ?_
     by_cases q24 : ((j : Nat) : Int) = (8 : Int)
     ·
      refine qa [(1, .yes)] [1, 2, 3, 5] [(35, .bool true)] ([((j : Nat) : Int) = (8 : Int)]) (al1 q24) (ds_ (t_ (sq_ (qa0 [] [] [(4, .int .i64 6)] (ds_ (rt ([]) (.int .i64 6) ?_))))))
      exact fun w' hw => ⟨_, _, _, _, _, _, bl, 0, rfl, by rw [inG_val] at q8; exact (fc_full q3 q8 hI (by omega)).symm, hO, hG, (by have := Hs.pick [[bx (γ1 0) (#[.pointer (some ⟨gb, 0, none⟩)]) 56], [bx gb (#[.slice (some ⟨g14, 0, none⟩) m capq]) 36], [bx gm (#[.slice p n cap]) 27], [bx gi (#[.int .i64 0]) 3], [bx g14 cs14 62], Yi, YR] [1, 2, 3, 4, 5, 6] [0] (by kernel_rfl) hw; simpa [chunk] using this)⟩
     ·
      refine qa [(1, .no)] [1, 2, 3, 5] [(35, .bool false)] ([¬ (((j : Nat) : Int) = (8 : Int))]) (al1 q24) (ds_ (f_ (at_skip (ds_ (sq_ (ma [(1, .fit), (2, .go (owns 3 0 1))] [1, 2, 3, 5] (fun _ => []) (fun _ L => (L.set 3 (bx gi (#[.int .i64 (j + 1 : Nat)]) 3))) (fun _ => [Fit .i64 ((j + 1 : Nat))]) (fun _ => (al1 (fit64 (by omega) (by omega)))) (fun _ => ds_ (sq_ ?_))))))))
      refine at_any (by kernel_rfl) ?_
      refine tk (m := 14) [5] [] [1, 2, 3] [(43, .int .i64 (j : Nat))] ([]) #[false, false, false, false, false, true, false, false, false, false, false, false, false, false, false] al0 ?_
      refine any_cutX (V := (List Ob) × (List Ob) × (Nat) × (Nat) × (Option Addr) × (Option Addr) × (Nat → Nat)) (fun ⟨Y192, Y252, cq192, cq252, q192, q252, γ232⟩ => SlO 3 Y192 q192 n cq192 l ∧ SlO 62 Y252 q252 (m + 1) cq252 (bl.take j ++ [(⟨(j + 1 : Nat), q192, n, cq192, l⟩ : GngA)] ++ bl.drop j)) 0 #[true, true, true, true, true, true, true, true, true, true, true, true, true, true, true] (fun ⟨Y192, Y252, cq192, cq252, q192, q252, γ232⟩ => []) (fun ⟨Y192, Y252, cq192, cq252, q192, q252, γ232⟩ => bx (γ1 0) (#[.pointer (some ⟨gb, 0, none⟩)]) 56 :: bx gb (#[.slice q252 (m + 1) cq252]) 36 :: bx gm (#[.slice p n cap]) 27 :: bx gi (#[.int .i64 (j + 1 : Nat)]) 3 :: (Y192 ++ (Y252 ++ (Yi ++ (YR ++ []))))) ?_ (fun hmx44 => ?_)
      rotate_left
      ·
       refine any_cutX (V := (List Ob) × (List Ob) × (Nat) × (Nat) × (Option Addr) × (Option Addr) × (Nat → Nat)) (fun ⟨Y192, Y252, cq192, cq252, q192, q252, γ232⟩ => SlO 3 Y192 q192 n cq192 l ∧ SlO 62 Y252 q252 (m + 1) cq252 (bl.take j ++ [(⟨(j + 1 : Nat), q192, n, cq192, l⟩ : GngA)] ++ bl.drop j)) 1 #[true, true, true, true, true, true, true, true, true, true, true, true, true, true, false] (fun ⟨Y192, Y252, cq192, cq252, q192, q252, γ232⟩ => [(49, .slice q252 (m + 1) cq252), (51, .pointer (some ⟨gb, 0, none⟩))]) (fun ⟨Y192, Y252, cq192, cq252, q192, q252, γ232⟩ => bx (γ1 0) (#[.pointer (some ⟨gb, 0, none⟩)]) 56 :: bx gb (#[.slice (some ⟨g14, 0, none⟩) m capq]) 36 :: bx gm (#[.slice p n cap]) 27 :: bx gi (#[.int .i64 (j + 1 : Nat)]) 3 :: (Y192 ++ (Y252 ++ (Yi ++ (YR ++ []))))) ?_ (fun hmx43 => ?_)
       ·
        rintro ⟨Y192, Y252, cq192, cq252, q192, q252, γ232⟩ ⟨hO192, hO252⟩
        refine a1 14 rfl ?_
        refine mo0 1 [(14, .go (owns 1 0 1))] [] (fun _ => []) (fun _ L => (L.set 1 (bx gb (#[.slice q252 (m + 1) cq252]) 36))) (fun _ => ?_)
        refine od_ ?_
        exact wk (hmx44 (Y192, Y252, cq192, cq252, q192, q252, γ232) ⟨hO192, hO252⟩) [] [[_], [_], [_], [_], _, _, _, _] [0, 1, 2, 3, 4, 5, 6, 7] rfl rfl
       refine any_cutX (V := (List Ob) × (List Ob) × (Nat) × (Nat) × (Option Addr) × (Option Addr) × (Nat → Nat)) (fun ⟨Y192, Y252, cq192, cq252, q192, q252, γ232⟩ => SlO 3 Y192 q192 n cq192 l ∧ SlO 62 Y252 q252 (m + 1) cq252 (bl.take j ++ [(⟨(j + 1 : Nat), q192, n, cq192, l⟩ : GngA)] ++ bl.drop j)) 4 #[false, true, true, true, true, true, true, true, true, true, true, true, false, false, false] (fun ⟨Y192, Y252, cq192, cq252, q192, q252, γ232⟩ => [(3, .pointer (some ⟨γ1 0, 0, none⟩)), (49, .slice q252 (m + 1) cq252)]) (fun ⟨Y192, Y252, cq192, cq252, q192, q252, γ232⟩ => bx (γ1 0) (#[.pointer (some ⟨gb, 0, none⟩)]) 56 :: bx gb (#[.slice (some ⟨g14, 0, none⟩) m capq]) 36 :: bx gm (#[.slice p n cap]) 27 :: bx gi (#[.int .i64 (j + 1 : Nat)]) 3 :: (Y192 ++ (Y252 ++ (Yi ++ (YR ++ []))))) ?_ (fun hmx42 => ?_)
       ·
        rintro ⟨Y192, Y252, cq192, cq252, q192, q252, γ232⟩ ⟨hO192, hO252⟩
        refine a1 0 rfl ?_
        refine qo0 1 [(0, .go (owns 0 0 1))] [49] [(38, .pointer (some ⟨gb, 0, none⟩))] ?_
        refine od_ ?_
        refine tk (m := 1) [12, 13] [] [49] [(51, .pointer (some ⟨gb, 0, none⟩))] ([]) #[true, true, true, true, true, true, true, true, true, true, true, true, true, true, false] al0 ?_
        exact wk (hmx43 (Y192, Y252, cq192, cq252, q192, q252, γ232) ⟨hO192, hO252⟩) [49, 51] [[_], [_], [_], [_], _, _, _, _] [0, 1, 2, 3, 4, 5, 6, 7] rfl rfl
       refine any_cutX (V := (List Ob) × (Nat) × (Option Addr) × (Nat → Nat)) (fun ⟨Y192, cq192, q192, γ232⟩ => SlO 3 Y192 q192 n cq192 l) 4 #[true, true, true, true, true, true, true, true, true, true, true, false, false, false, false] (fun ⟨Y192, cq192, q192, γ232⟩ => [(38, .pointer (some ⟨gb, 0, none⟩)), (42, .slice (some ⟨g14, 0, none⟩) m capq), (43, .int .i64 (j : Nat)), (48, .slice (some ⟨γ232 0, 0, none⟩) 1 1)]) (fun ⟨Y192, cq192, q192, γ232⟩ => bx (γ232 0) (#[.int .i64 (j + 1 : Nat), .slice q192 n cq192]) 62 :: bx (γ1 0) (#[.pointer (some ⟨gb, 0, none⟩)]) 56 :: bx gb (#[.slice (some ⟨g14, 0, none⟩) m capq]) 36 :: bx gm (#[.slice p n cap]) 27 :: bx gi (#[.int .i64 (j + 1 : Nat)]) 3 :: (Y192 ++ ([bx g14 cs14 62] ++ (Yi ++ (YR ++ []))))) ?_ (fun hmx41 => ?_)
       ·
        rintro ⟨Y192, cq192, q192, γ232⟩ hO192
        refine a1 11 rfl ?_
        refine Ops.pick [[bx (γ232 0) (#[.int .i64 (j + 1 : Nat), .slice q192 n cq192]) 62], [bx (γ1 0) (#[.pointer (some ⟨gb, 0, none⟩)]) 56], [bx gb (#[.slice (some ⟨g14, 0, none⟩) m capq]) 36], [bx gm (#[.slice p n cap]) 27], [bx gi (#[.int .i64 (j + 1 : Nat)]) 3], Y192, [bx g14 cs14 62], Yi, YR] [0, 1, 2, 3, 4, 6, 5, 7, 8] [] (bx (γ232 0) (#[.int .i64 (j + 1 : Nat), .slice q192 n cq192]) 62 :: bx (γ1 0) (#[.pointer (some ⟨gb, 0, none⟩)]) 56 :: bx gb (#[.slice (some ⟨g14, 0, none⟩) m capq]) 36 :: bx gm (#[.slice p n cap]) 27 :: bx gi (#[.int .i64 (j + 1 : Nat)]) 3 :: ([bx g14 cs14 62] ++ (Y192 ++ (Yi ++ (YR ++ []))))) (by kernel_rfl) rfl rfl (cP (fun v L' => ∃ q_ capq_ Y_, v = .slice q_ (m + 1) capq_ ∧ L' = [bx (γ1 0) (#[.pointer (some ⟨gb, 0, none⟩)]) 56, bx gb (#[.slice (some ⟨g14, 0, none⟩) m capq]) 36, bx gm (#[.slice p n cap]) 27, bx gi (#[.int .i64 (j + 1 : Nat)]) 3] ++ (Y_ ++ (Y192 ++ (Yi ++ (YR ++ [])))) ∧ SlO 62 Y_ q_ (m + 1) capq_ (bl.take j ++ [(⟨(j + 1 : Nat), q192, n, cq192, l⟩ : GngA)] ++ bl.drop j)) (fun args w => Tryd.call31 args w) (fun w hw => (ginsert_t _ ([bx (γ1 0) (#[.pointer (some ⟨gb, 0, none⟩)]) 56, bx gb (#[.slice (some ⟨g14, 0, none⟩) m capq]) 36, bx gm (#[.slice p n cap]) 27, bx gi (#[.int .i64 (j + 1 : Nat)]) 3] ++ (Y192 ++ (Yi ++ (YR ++ [])))) [bx g14 cs14 62] (some ⟨g14, 0, none⟩) m capq bl j (γ232 0) (#[.int .i64 (j + 1 : Nat), .slice q192 n cq192]) 1 ([(⟨(j + 1 : Nat), q192, n, cq192, l⟩ : GngA)]) w (hw.pull (A := [bx (γ1 0) (#[.pointer (some ⟨gb, 0, none⟩)]) 56, bx gb (#[.slice (some ⟨g14, 0, none⟩) m capq]) 36, bx gm (#[.slice p n cap]) 27, bx gi (#[.int .i64 (j + 1 : Nat)]) 3]) (Y := [bx g14 cs14 62]) (R := (Y192 ++ (Yi ++ (YR ++ []))))) hO (by rfl) (by rfl) (by omega) (by omega) (by omega) (by omega)).mono fun e w' ⟨q_, capq_, Y_, he, hO, hY⟩ => ⟨_, _, he, ⟨q_, capq_, Y_, rfl, rfl, hO⟩, hY.push⟩) ?_)
        rintro v252 L252 ⟨q252, cq252, Y252, rfl, rfl, hO252⟩
        refine od_ ?_
        refine tk (m := 1) [12, 13] [] [49] [(51, .pointer (some ⟨gb, 0, none⟩))] ([]) #[true, true, true, true, true, true, true, true, true, true, true, true, true, true, false] al0 ?_
        exact wk (hmx43 (Y192, Y252, cq192, cq252, q192, q252, γ232) ⟨hO192, hO252⟩) [49, 51] [[_], [_], [_], [_], _, _, _, _] [0, 1, 2, 3, 5, 4, 6, 7] rfl rfl
       refine any_cutX (V := (List Ob) × (Nat) × (Option Addr) × (Nat → Nat)) (fun ⟨Y192, cq192, q192, γ232⟩ => SlO 3 Y192 q192 n cq192 l) 5 #[false, true, true, true, true, true, true, true, true, true, true, false, false, false, false] (fun ⟨Y192, cq192, q192, γ232⟩ => [(3, .pointer (some ⟨γ1 0, 0, none⟩)), (42, .slice (some ⟨g14, 0, none⟩) m capq), (43, .int .i64 (j : Nat)), (48, .slice (some ⟨γ232 0, 0, none⟩) 1 1)]) (fun ⟨Y192, cq192, q192, γ232⟩ => bx (γ232 0) (#[.int .i64 (j + 1 : Nat), .slice q192 n cq192]) 62 :: bx (γ1 0) (#[.pointer (some ⟨gb, 0, none⟩)]) 56 :: bx gb (#[.slice (some ⟨g14, 0, none⟩) m capq]) 36 :: bx gm (#[.slice p n cap]) 27 :: bx gi (#[.int .i64 (j + 1 : Nat)]) 3 :: (Y192 ++ ([bx g14 cs14 62] ++ (Yi ++ (YR ++ []))))) ?_ (fun hmx40 => ?_)
       ·
        rintro ⟨Y192, cq192, q192, γ232⟩ hO192
        refine any_fork [0, 11] (by kernel_rfl) (by simp) (each_cons _ rfl ?_ (each_cons _ rfl ?_ (each_nil)))
        ·
         refine qo0 1 [(0, .go (owns 1 0 1))] [42, 43, 48] [(38, .pointer (some ⟨gb, 0, none⟩))] ?_
         refine od_ ?_
         exact wk (hmx41 (Y192, cq192, q192, γ232) hO192) [38, 42, 43, 48] [[_], [_], [_], [_], [_], _, [bx g14 cs14 62], _, _] [0, 1, 2, 3, 4, 5, 6, 7, 8] rfl rfl
        ·
         refine Ops.pick [[bx (γ232 0) (#[.int .i64 (j + 1 : Nat), .slice q192 n cq192]) 62], [bx (γ1 0) (#[.pointer (some ⟨gb, 0, none⟩)]) 56], [bx gb (#[.slice (some ⟨g14, 0, none⟩) m capq]) 36], [bx gm (#[.slice p n cap]) 27], [bx gi (#[.int .i64 (j + 1 : Nat)]) 3], Y192, [bx g14 cs14 62], Yi, YR] [0, 1, 2, 3, 4, 6, 5, 7, 8] [] (bx (γ232 0) (#[.int .i64 (j + 1 : Nat), .slice q192 n cq192]) 62 :: bx (γ1 0) (#[.pointer (some ⟨gb, 0, none⟩)]) 56 :: bx gb (#[.slice (some ⟨g14, 0, none⟩) m capq]) 36 :: bx gm (#[.slice p n cap]) 27 :: bx gi (#[.int .i64 (j + 1 : Nat)]) 3 :: ([bx g14 cs14 62] ++ (Y192 ++ (Yi ++ (YR ++ []))))) (by kernel_rfl) rfl rfl (cP (fun v L' => ∃ q_ capq_ Y_, v = .slice q_ (m + 1) capq_ ∧ L' = [bx (γ1 0) (#[.pointer (some ⟨gb, 0, none⟩)]) 56, bx gb (#[.slice (some ⟨g14, 0, none⟩) m capq]) 36, bx gm (#[.slice p n cap]) 27, bx gi (#[.int .i64 (j + 1 : Nat)]) 3] ++ (Y_ ++ (Y192 ++ (Yi ++ (YR ++ [])))) ∧ SlO 62 Y_ q_ (m + 1) capq_ (bl.take j ++ [(⟨(j + 1 : Nat), q192, n, cq192, l⟩ : GngA)] ++ bl.drop j)) (fun args w => Tryd.call31 args w) (fun w hw => (ginsert_t _ ([bx (γ1 0) (#[.pointer (some ⟨gb, 0, none⟩)]) 56, bx gb (#[.slice (some ⟨g14, 0, none⟩) m capq]) 36, bx gm (#[.slice p n cap]) 27, bx gi (#[.int .i64 (j + 1 : Nat)]) 3] ++ (Y192 ++ (Yi ++ (YR ++ [])))) [bx g14 cs14 62] (some ⟨g14, 0, none⟩) m capq bl j (γ232 0) (#[.int .i64 (j + 1 : Nat), .slice q192 n cq192]) 1 ([(⟨(j + 1 : Nat), q192, n, cq192, l⟩ : GngA)]) w (hw.pull (A := [bx (γ1 0) (#[.pointer (some ⟨gb, 0, none⟩)]) 56, bx gb (#[.slice (some ⟨g14, 0, none⟩) m capq]) 36, bx gm (#[.slice p n cap]) 27, bx gi (#[.int .i64 (j + 1 : Nat)]) 3]) (Y := [bx g14 cs14 62]) (R := (Y192 ++ (Yi ++ (YR ++ []))))) hO (by rfl) (by rfl) (by omega) (by omega) (by omega) (by omega)).mono fun e w' ⟨q_, capq_, Y_, he, hO, hY⟩ => ⟨_, _, he, ⟨q_, capq_, Y_, rfl, rfl, hO⟩, hY.push⟩) ?_)
         rintro v252 L252 ⟨q252, cq252, Y252, rfl, rfl, hO252⟩
         refine od_ ?_
         exact wk (hmx42 (Y192, Y252, cq192, cq252, q192, q252, γ232) ⟨hO192, hO252⟩) [3, 49] [[_], [_], [_], [_], _, _, _, _] [0, 1, 2, 3, 5, 4, 6, 7] rfl rfl
       refine any_cutX (V := (List Ob) × (Nat) × (Option Addr)) (fun ⟨Y192, cq192, q192⟩ => SlO 3 Y192 q192 n cq192 l) 5 #[true, true, true, true, true, true, true, true, true, true, false, false, false, false, false] (fun ⟨Y192, cq192, q192⟩ => [(38, .pointer (some ⟨gb, 0, none⟩)), (42, .slice (some ⟨g14, 0, none⟩) m capq), (43, .int .i64 (j : Nat)), (47, .agg #[.int .i64 (j + 1 : Nat), .slice q192 n cq192])]) (fun ⟨Y192, cq192, q192⟩ => bx (γ1 0) (#[.pointer (some ⟨gb, 0, none⟩)]) 56 :: bx gb (#[.slice (some ⟨g14, 0, none⟩) m capq]) 36 :: bx gm (#[.slice p n cap]) 27 :: bx gi (#[.int .i64 (j + 1 : Nat)]) 3 :: (Y192 ++ ([bx g14 cs14 62] ++ (Yi ++ (YR ++ []))))) ?_ (fun hmx39 => ?_)
       ·
        rintro ⟨Y192, cq192, q192⟩ hO192
        refine a1 10 rfl ?_
        refine mo0 1 [] [38, 42, 43] (fun γ232 => [(48, .slice (some ⟨γ232 0, 0, none⟩) 1 1)]) (fun γ232 L => bx (γ232 0) (#[.int .i64 (j + 1 : Nat), .slice q192 n cq192]) 62 :: L) (fun γ232 => ?_)
        refine od_ ?_
        exact wk (hmx41 (Y192, cq192, q192, γ232) hO192) [38, 42, 43, 48] [[_], [_], [_], [_], [_], _, [bx g14 cs14 62], _, _] [0, 1, 2, 3, 4, 5, 6, 7, 8] rfl rfl
       refine any_cutX (V := (List Ob) × (Nat) × (Option Addr) × (Nat → Nat)) (fun ⟨Y192, cq192, q192, γ232⟩ => SlO 3 Y192 q192 n cq192 l) 5 #[true, true, true, true, false, true, true, true, true, true, true, false, false, false, false] (fun ⟨Y192, cq192, q192, γ232⟩ => [(38, .pointer (some ⟨gb, 0, none⟩)), (41, .pointer (some ⟨gb, 0, none⟩)), (43, .int .i64 (j : Nat)), (48, .slice (some ⟨γ232 0, 0, none⟩) 1 1)]) (fun ⟨Y192, cq192, q192, γ232⟩ => bx (γ232 0) (#[.int .i64 (j + 1 : Nat), .slice q192 n cq192]) 62 :: bx (γ1 0) (#[.pointer (some ⟨gb, 0, none⟩)]) 56 :: bx gb (#[.slice (some ⟨g14, 0, none⟩) m capq]) 36 :: bx gm (#[.slice p n cap]) 27 :: bx gi (#[.int .i64 (j + 1 : Nat)]) 3 :: (Y192 ++ ([bx g14 cs14 62] ++ (Yi ++ (YR ++ []))))) ?_ (fun hmx38 => ?_)
       ·
        rintro ⟨Y192, cq192, q192, γ232⟩ hO192
        refine a1 4 rfl ?_
        refine qo0 1 [(4, .go (owns 2 0 1))] [38, 43, 48] [(42, .slice (some ⟨g14, 0, none⟩) m capq)] ?_
        refine od_ ?_
        exact wk (hmx41 (Y192, cq192, q192, γ232) hO192) [38, 42, 43, 48] [[_], [_], [_], [_], [_], _, [bx g14 cs14 62], _, _] [0, 1, 2, 3, 4, 5, 6, 7, 8] rfl rfl
       refine any_cutX (V := (List Ob) × (Nat) × (Option Addr)) (fun ⟨Y192, cq192, q192⟩ => SlO 3 Y192 q192 n cq192 l) 6 #[false, true, true, true, true, true, true, true, true, true, false, false, false, false, false] (fun ⟨Y192, cq192, q192⟩ => [(3, .pointer (some ⟨γ1 0, 0, none⟩)), (42, .slice (some ⟨g14, 0, none⟩) m capq), (43, .int .i64 (j : Nat)), (47, .agg #[.int .i64 (j + 1 : Nat), .slice q192 n cq192])]) (fun ⟨Y192, cq192, q192⟩ => bx (γ1 0) (#[.pointer (some ⟨gb, 0, none⟩)]) 56 :: bx gb (#[.slice (some ⟨g14, 0, none⟩) m capq]) 36 :: bx gm (#[.slice p n cap]) 27 :: bx gi (#[.int .i64 (j + 1 : Nat)]) 3 :: (Y192 ++ ([bx g14 cs14 62] ++ (Yi ++ (YR ++ []))))) ?_ (fun hmx37 => ?_)
       ·
        rintro ⟨Y192, cq192, q192⟩ hO192
        refine any_fork [0, 10] (by kernel_rfl) (by simp) (each_cons _ rfl ?_ (each_cons _ rfl ?_ (each_nil)))
        ·
         refine qo0 1 [(0, .go (owns 0 0 1))] [42, 43, 47] [(38, .pointer (some ⟨gb, 0, none⟩))] ?_
         refine od_ ?_
         exact wk (hmx39 (Y192, cq192, q192) hO192) [38, 42, 43, 47] [[_], [_], [_], [_], _, [bx g14 cs14 62], _, _] [0, 1, 2, 3, 4, 5, 6, 7] rfl rfl
        ·
         refine mo0 1 [] [3, 42, 43] (fun γ232 => [(48, .slice (some ⟨γ232 0, 0, none⟩) 1 1)]) (fun γ232 L => bx (γ232 0) (#[.int .i64 (j + 1 : Nat), .slice q192 n cq192]) 62 :: L) (fun γ232 => ?_)
         refine od_ ?_
         exact wk (hmx40 (Y192, cq192, q192, γ232) hO192) [3, 42, 43, 48] [[_], [_], [_], [_], [_], _, [bx g14 cs14 62], _, _] [0, 1, 2, 3, 4, 5, 6, 7, 8] rfl rfl
       refine any_cutX (V := (List Ob) × (Nat) × (Option Addr) × (Nat → Nat)) (fun ⟨Y192, cq192, q192, γ232⟩ => SlO 3 Y192 q192 n cq192 l) 6 #[false, true, true, true, false, true, true, true, true, true, true, false, false, false, false] (fun ⟨Y192, cq192, q192, γ232⟩ => [(3, .pointer (some ⟨γ1 0, 0, none⟩)), (41, .pointer (some ⟨gb, 0, none⟩)), (43, .int .i64 (j : Nat)), (48, .slice (some ⟨γ232 0, 0, none⟩) 1 1)]) (fun ⟨Y192, cq192, q192, γ232⟩ => bx (γ232 0) (#[.int .i64 (j + 1 : Nat), .slice q192 n cq192]) 62 :: bx (γ1 0) (#[.pointer (some ⟨gb, 0, none⟩)]) 56 :: bx gb (#[.slice (some ⟨g14, 0, none⟩) m capq]) 36 :: bx gm (#[.slice p n cap]) 27 :: bx gi (#[.int .i64 (j + 1 : Nat)]) 3 :: (Y192 ++ ([bx g14 cs14 62] ++ (Yi ++ (YR ++ []))))) ?_ (fun hmx36 => ?_)
       ·
        rintro ⟨Y192, cq192, q192, γ232⟩ hO192
        refine any_fork [0, 4] (by kernel_rfl) (by simp) (each_cons _ rfl ?_ (each_cons _ rfl ?_ (each_nil)))
        ·
         refine qo0 1 [(0, .go (owns 1 0 1))] [41, 43, 48] [(38, .pointer (some ⟨gb, 0, none⟩))] ?_
         refine od_ ?_
         exact wk (hmx38 (Y192, cq192, q192, γ232) hO192) [38, 41, 43, 48] [[_], [_], [_], [_], [_], _, [bx g14 cs14 62], _, _] [0, 1, 2, 3, 4, 5, 6, 7, 8] rfl rfl
        ·
         refine qo0 1 [(4, .go (owns 2 0 1))] [3, 43, 48] [(42, .slice (some ⟨g14, 0, none⟩) m capq)] ?_
         refine od_ ?_
         exact wk (hmx40 (Y192, cq192, q192, γ232) hO192) [3, 42, 43, 48] [[_], [_], [_], [_], [_], _, [bx g14 cs14 62], _, _] [0, 1, 2, 3, 4, 5, 6, 7, 8] rfl rfl
       refine any_cutX (V := (List Ob) × (Nat) × (Option Addr)) (fun ⟨Y192, cq192, q192⟩ => SlO 3 Y192 q192 n cq192 l) 6 #[true, true, true, true, false, true, true, true, true, true, false, false, false, false, false] (fun ⟨Y192, cq192, q192⟩ => [(38, .pointer (some ⟨gb, 0, none⟩)), (41, .pointer (some ⟨gb, 0, none⟩)), (43, .int .i64 (j : Nat)), (47, .agg #[.int .i64 (j + 1 : Nat), .slice q192 n cq192])]) (fun ⟨Y192, cq192, q192⟩ => bx (γ1 0) (#[.pointer (some ⟨gb, 0, none⟩)]) 56 :: bx gb (#[.slice (some ⟨g14, 0, none⟩) m capq]) 36 :: bx gm (#[.slice p n cap]) 27 :: bx gi (#[.int .i64 (j + 1 : Nat)]) 3 :: (Y192 ++ ([bx g14 cs14 62] ++ (Yi ++ (YR ++ []))))) ?_ (fun hmx35 => ?_)
       ·
        rintro ⟨Y192, cq192, q192⟩ hO192
        refine any_fork [4, 10] (by kernel_rfl) (by simp) (each_cons _ rfl ?_ (each_cons _ rfl ?_ (each_nil)))
        ·
         refine qo0 1 [(4, .go (owns 1 0 1))] [38, 43, 47] [(42, .slice (some ⟨g14, 0, none⟩) m capq)] ?_
         refine od_ ?_
         exact wk (hmx39 (Y192, cq192, q192) hO192) [38, 42, 43, 47] [[_], [_], [_], [_], _, [bx g14 cs14 62], _, _] [0, 1, 2, 3, 4, 5, 6, 7] rfl rfl
        ·
         refine mo0 1 [] [38, 41, 43] (fun γ232 => [(48, .slice (some ⟨γ232 0, 0, none⟩) 1 1)]) (fun γ232 L => bx (γ232 0) (#[.int .i64 (j + 1 : Nat), .slice q192 n cq192]) 62 :: L) (fun γ232 => ?_)
         refine od_ ?_
         exact wk (hmx38 (Y192, cq192, q192, γ232) hO192) [38, 41, 43, 48] [[_], [_], [_], [_], [_], _, [bx g14 cs14 62], _, _] [0, 1, 2, 3, 4, 5, 6, 7, 8] rfl rfl
       refine any_cutX (V := (List Ob) × (Nat) × (Option Addr)) (fun ⟨Y192, cq192, q192⟩ => SlO 3 Y192 q192 n cq192 l) 7 #[true, true, true, true, true, true, false, true, true, false, false, false, false, false, false] (fun ⟨Y192, cq192, q192⟩ => [(2, .pointer (some ⟨gi, 0, none⟩)), (38, .pointer (some ⟨gb, 0, none⟩)), (42, .slice (some ⟨g14, 0, none⟩) m capq), (43, .int .i64 (j : Nat)), (46, .slice q192 n cq192)]) (fun ⟨Y192, cq192, q192⟩ => bx (γ1 0) (#[.pointer (some ⟨gb, 0, none⟩)]) 56 :: bx gb (#[.slice (some ⟨g14, 0, none⟩) m capq]) 36 :: bx gm (#[.slice p n cap]) 27 :: bx gi (#[.int .i64 (j + 1 : Nat)]) 3 :: (Y192 ++ ([bx g14 cs14 62] ++ (Yi ++ (YR ++ []))))) ?_ (fun hmx34 => ?_)
       ·
        rintro ⟨Y192, cq192, q192⟩ hO192
        refine a1 6 rfl ?_
        refine qo0 1 [(6, .go (owns 3 0 1))] [38, 42, 43, 46] [(44, .int .i64 (j + 1 : Nat))] ?_
        refine od_ ?_
        refine tk (m := 5) [9] [] [38, 42, 43] [(47, .agg #[.int .i64 (j + 1 : Nat), .slice q192 n cq192])] ([]) #[true, true, true, true, true, true, true, true, true, true, false, false, false, false, false] al0 ?_
        exact wk (hmx39 (Y192, cq192, q192) hO192) [38, 42, 43, 47] [[_], [_], [_], [_], _, [bx g14 cs14 62], _, _] [0, 1, 2, 3, 4, 5, 6, 7] rfl rfl
       refine any_cutX (V := Unit) (fun _ => True) 7 #[true, true, true, true, true, true, true, true, false, false, false, false, false, false, false] (fun _ => [(38, .pointer (some ⟨gb, 0, none⟩)), (42, .slice (some ⟨g14, 0, none⟩) m capq), (43, .int .i64 (j : Nat)), (44, .int .i64 (j + 1 : Nat)), (45, .slice p n cap)]) (fun _ => bx (γ1 0) (#[.pointer (some ⟨gb, 0, none⟩)]) 56 :: bx gb (#[.slice (some ⟨g14, 0, none⟩) m capq]) 36 :: bx gm (#[.slice p n cap]) 27 :: bx gi (#[.int .i64 (j + 1 : Nat)]) 3 :: ([bx g14 cs14 62] ++ (Yi ++ (YR ++ [])))) ?_ (fun hmx33 => ?_)
       ·
        rintro _ _
        refine a1 8 rfl ?_
        refine cP (fun v L' => ∃ q_ c_ Y_, v = .slice q_ n c_ ∧ L' = List.take 4 (bx (γ1 0) (#[.pointer (some ⟨gb, 0, none⟩)]) 56 :: bx gb (#[.slice (some ⟨g14, 0, none⟩) m capq]) 36 :: bx gm (#[.slice p n cap]) 27 :: bx gi (#[.int .i64 (j + 1 : Nat)]) 3 :: ([bx g14 cs14 62] ++ (Yi ++ (YR ++ [])))) ++ (Y_ ++ List.drop 4 (bx (γ1 0) (#[.pointer (some ⟨gb, 0, none⟩)]) 56 :: bx gb (#[.slice (some ⟨g14, 0, none⟩) m capq]) 36 :: bx gm (#[.slice p n cap]) 27 :: bx gi (#[.int .i64 (j + 1 : Nat)]) 3 :: ([bx g14 cs14 62] ++ (Yi ++ (YR ++ []))))) ∧ SlO 3 Y_ q_ n c_ l) (fun args w => Tryd.call32 args w) (fun w hw => (cloneints_t p n cap l w (hsl.kept hw.below) hn (by omega)).mono fun e w' ⟨q_, c_, Y_, he, hO, hb, hY⟩ => ⟨_, _, he, ⟨q_, c_, Y_, rfl, rfl, hO⟩, hw.join hb hY 4⟩) ?_
        rintro v192 L192 ⟨q192, cq192, Y192, rfl, rfl, hO192⟩
        refine od_ ?_
        refine tk (m := 5) [9] [] [38, 42, 43] [(47, .agg #[.int .i64 (j + 1 : Nat), .slice q192 n cq192])] ([]) #[true, true, true, true, true, true, true, true, true, true, false, false, false, false, false] al0 ?_
        exact wk (hmx39 (Y192, cq192, q192) hO192) [38, 42, 43, 47] [[_], [_], [_], [_], _, [bx g14 cs14 62], _, _] [0, 1, 2, 3, 4, 5, 6, 7] rfl rfl
       refine any_cutX (V := (List Ob) × (Nat) × (Option Addr)) (fun ⟨Y192, cq192, q192⟩ => SlO 3 Y192 q192 n cq192 l) 7 #[false, true, true, true, false, true, true, true, true, true, false, false, false, false, false] (fun ⟨Y192, cq192, q192⟩ => [(3, .pointer (some ⟨γ1 0, 0, none⟩)), (41, .pointer (some ⟨gb, 0, none⟩)), (43, .int .i64 (j : Nat)), (47, .agg #[.int .i64 (j + 1 : Nat), .slice q192 n cq192])]) (fun ⟨Y192, cq192, q192⟩ => bx (γ1 0) (#[.pointer (some ⟨gb, 0, none⟩)]) 56 :: bx gb (#[.slice (some ⟨g14, 0, none⟩) m capq]) 36 :: bx gm (#[.slice p n cap]) 27 :: bx gi (#[.int .i64 (j + 1 : Nat)]) 3 :: (Y192 ++ ([bx g14 cs14 62] ++ (Yi ++ (YR ++ []))))) ?_ (fun hmx32 => ?_)
       ·
        rintro ⟨Y192, cq192, q192⟩ hO192
        refine any_fork [0, 4, 10] (by kernel_rfl) (by simp) (each_cons _ rfl ?_ (each_cons _ rfl ?_ (each_cons _ rfl ?_ (each_nil))))
        ·
         refine qo0 1 [(0, .go (owns 0 0 1))] [41, 43, 47] [(38, .pointer (some ⟨gb, 0, none⟩))] ?_
         refine od_ ?_
         exact wk (hmx35 (Y192, cq192, q192) hO192) [38, 41, 43, 47] [[_], [_], [_], [_], _, [bx g14 cs14 62], _, _] [0, 1, 2, 3, 4, 5, 6, 7] rfl rfl
        ·
         refine qo0 1 [(4, .go (owns 1 0 1))] [3, 43, 47] [(42, .slice (some ⟨g14, 0, none⟩) m capq)] ?_
         refine od_ ?_
         exact wk (hmx37 (Y192, cq192, q192) hO192) [3, 42, 43, 47] [[_], [_], [_], [_], _, [bx g14 cs14 62], _, _] [0, 1, 2, 3, 4, 5, 6, 7] rfl rfl
        ·
         refine mo0 1 [] [3, 41, 43] (fun γ232 => [(48, .slice (some ⟨γ232 0, 0, none⟩) 1 1)]) (fun γ232 L => bx (γ232 0) (#[.int .i64 (j + 1 : Nat), .slice q192 n cq192]) 62 :: L) (fun γ232 => ?_)
         refine od_ ?_
         exact wk (hmx36 (Y192, cq192, q192, γ232) hO192) [3, 41, 43, 48] [[_], [_], [_], [_], [_], _, [bx g14 cs14 62], _, _] [0, 1, 2, 3, 4, 5, 6, 7, 8] rfl rfl
       refine any_cutX (V := (List Ob) × (Nat) × (Option Addr) × (Nat → Nat)) (fun ⟨Y192, cq192, q192, γ232⟩ => SlO 3 Y192 q192 n cq192 l) 8 #[true, false, false, false, false, true, true, true, true, true, true, false, false, false, false] (fun ⟨Y192, cq192, q192, γ232⟩ => [(3, .pointer (some ⟨γ1 0, 0, none⟩)), (38, .pointer (some ⟨gb, 0, none⟩)), (43, .int .i64 (j : Nat)), (48, .slice (some ⟨γ232 0, 0, none⟩) 1 1)]) (fun ⟨Y192, cq192, q192, γ232⟩ => bx (γ232 0) (#[.int .i64 (j + 1 : Nat), .slice q192 n cq192]) 62 :: bx (γ1 0) (#[.pointer (some ⟨gb, 0, none⟩)]) 56 :: bx gb (#[.slice (some ⟨g14, 0, none⟩) m capq]) 36 :: bx gm (#[.slice p n cap]) 27 :: bx gi (#[.int .i64 (j + 1 : Nat)]) 3 :: (Y192 ++ ([bx g14 cs14 62] ++ (Yi ++ (YR ++ []))))) ?_ (fun hmx31 => ?_)
       ·
        rintro ⟨Y192, cq192, q192, γ232⟩ hO192
        refine a1 1 rfl ?_
        refine qo0 1 [(1, .go (owns 1 0 1))] [38, 43, 48] [(39, .pointer (some ⟨gb, 0, none⟩))] ?_
        refine od_ ?_
        refine tk (m := 5) [2, 3] [] [38, 43, 48] [(41, .pointer (some ⟨gb, 0, none⟩))] ([]) #[true, true, true, true, false, true, true, true, true, true, true, false, false, false, false] al0 ?_
        exact wk (hmx38 (Y192, cq192, q192, γ232) hO192) [38, 41, 43, 48] [[_], [_], [_], [_], [_], _, [bx g14 cs14 62], _, _] [0, 1, 2, 3, 4, 5, 6, 7, 8] rfl rfl
       refine any_cutX (V := (List Ob) × (Nat) × (Option Addr)) (fun ⟨Y192, cq192, q192⟩ => SlO 3 Y192 q192 n cq192 l) 8 #[false, true, true, true, true, true, false, true, true, false, false, false, false, false, false] (fun ⟨Y192, cq192, q192⟩ => [(2, .pointer (some ⟨gi, 0, none⟩)), (3, .pointer (some ⟨γ1 0, 0, none⟩)), (42, .slice (some ⟨g14, 0, none⟩) m capq), (43, .int .i64 (j : Nat)), (46, .slice q192 n cq192)]) (fun ⟨Y192, cq192, q192⟩ => bx (γ1 0) (#[.pointer (some ⟨gb, 0, none⟩)]) 56 :: bx gb (#[.slice (some ⟨g14, 0, none⟩) m capq]) 36 :: bx gm (#[.slice p n cap]) 27 :: bx gi (#[.int .i64 (j + 1 : Nat)]) 3 :: (Y192 ++ ([bx g14 cs14 62] ++ (Yi ++ (YR ++ []))))) ?_ (fun hmx30 => ?_)
       ·
        rintro ⟨Y192, cq192, q192⟩ hO192
        refine any_fork [0, 6] (by kernel_rfl) (by simp) (each_cons _ rfl ?_ (each_cons _ rfl ?_ (each_nil)))
        ·
         refine qo0 1 [(0, .go (owns 0 0 1))] [2, 42, 43, 46] [(38, .pointer (some ⟨gb, 0, none⟩))] ?_
         refine od_ ?_
         exact wk (hmx34 (Y192, cq192, q192) hO192) [2, 38, 42, 43, 46] [[_], [_], [_], [_], _, [bx g14 cs14 62], _, _] [0, 1, 2, 3, 4, 5, 6, 7] rfl rfl
        ·
         refine qo0 1 [(6, .go (owns 3 0 1))] [3, 42, 43, 46] [(44, .int .i64 (j + 1 : Nat))] ?_
         refine od_ ?_
         refine tk (m := 6) [9] [] [3, 42, 43] [(47, .agg #[.int .i64 (j + 1 : Nat), .slice q192 n cq192])] ([]) #[false, true, true, true, true, true, true, true, true, true, false, false, false, false, false] al0 ?_
         exact wk (hmx37 (Y192, cq192, q192) hO192) [3, 42, 43, 47] [[_], [_], [_], [_], _, [bx g14 cs14 62], _, _] [0, 1, 2, 3, 4, 5, 6, 7] rfl rfl
       refine any_cutX (V := Unit) (fun _ => True) 8 #[false, true, true, true, true, true, true, true, false, false, false, false, false, false, false] (fun _ => [(3, .pointer (some ⟨γ1 0, 0, none⟩)), (42, .slice (some ⟨g14, 0, none⟩) m capq), (43, .int .i64 (j : Nat)), (44, .int .i64 (j + 1 : Nat)), (45, .slice p n cap)]) (fun _ => bx (γ1 0) (#[.pointer (some ⟨gb, 0, none⟩)]) 56 :: bx gb (#[.slice (some ⟨g14, 0, none⟩) m capq]) 36 :: bx gm (#[.slice p n cap]) 27 :: bx gi (#[.int .i64 (j + 1 : Nat)]) 3 :: ([bx g14 cs14 62] ++ (Yi ++ (YR ++ [])))) ?_ (fun hmx29 => ?_)
       ·
        rintro _ _
        refine any_fork [0, 8] (by kernel_rfl) (by simp) (each_cons _ rfl ?_ (each_cons _ rfl ?_ (each_nil)))
        ·
         refine qo0 1 [(0, .go (owns 0 0 1))] [42, 43, 44, 45] [(38, .pointer (some ⟨gb, 0, none⟩))] ?_
         refine od_ ?_
         exact wk (hmx33 () trivial) [38, 42, 43, 44, 45] [[_], [_], [_], [_], [bx g14 cs14 62], _, _] [0, 1, 2, 3, 4, 5, 6] rfl rfl
        ·
         refine cP (fun v L' => ∃ q_ c_ Y_, v = .slice q_ n c_ ∧ L' = List.take 4 (bx (γ1 0) (#[.pointer (some ⟨gb, 0, none⟩)]) 56 :: bx gb (#[.slice (some ⟨g14, 0, none⟩) m capq]) 36 :: bx gm (#[.slice p n cap]) 27 :: bx gi (#[.int .i64 (j + 1 : Nat)]) 3 :: ([bx g14 cs14 62] ++ (Yi ++ (YR ++ [])))) ++ (Y_ ++ List.drop 4 (bx (γ1 0) (#[.pointer (some ⟨gb, 0, none⟩)]) 56 :: bx gb (#[.slice (some ⟨g14, 0, none⟩) m capq]) 36 :: bx gm (#[.slice p n cap]) 27 :: bx gi (#[.int .i64 (j + 1 : Nat)]) 3 :: ([bx g14 cs14 62] ++ (Yi ++ (YR ++ []))))) ∧ SlO 3 Y_ q_ n c_ l) (fun args w => Tryd.call32 args w) (fun w hw => (cloneints_t p n cap l w (hsl.kept hw.below) hn (by omega)).mono fun e w' ⟨q_, c_, Y_, he, hO, hb, hY⟩ => ⟨_, _, he, ⟨q_, c_, Y_, rfl, rfl, hO⟩, hw.join hb hY 4⟩) ?_
         rintro v192 L192 ⟨q192, cq192, Y192, rfl, rfl, hO192⟩
         refine od_ ?_
         refine tk (m := 6) [9] [] [3, 42, 43] [(47, .agg #[.int .i64 (j + 1 : Nat), .slice q192 n cq192])] ([]) #[false, true, true, true, true, true, true, true, true, true, false, false, false, false, false] al0 ?_
         exact wk (hmx37 (Y192, cq192, q192) hO192) [3, 42, 43, 47] [[_], [_], [_], [_], _, [bx g14 cs14 62], _, _] [0, 1, 2, 3, 4, 5, 6, 7] rfl rfl
       refine any_cutX (V := Unit) (fun _ => True) 8 #[true, true, true, true, true, true, false, true, false, false, false, false, false, false, false] (fun _ => [(2, .pointer (some ⟨gi, 0, none⟩)), (38, .pointer (some ⟨gb, 0, none⟩)), (42, .slice (some ⟨g14, 0, none⟩) m capq), (43, .int .i64 (j : Nat)), (45, .slice p n cap)]) (fun _ => bx (γ1 0) (#[.pointer (some ⟨gb, 0, none⟩)]) 56 :: bx gb (#[.slice (some ⟨g14, 0, none⟩) m capq]) 36 :: bx gm (#[.slice p n cap]) 27 :: bx gi (#[.int .i64 (j + 1 : Nat)]) 3 :: ([bx g14 cs14 62] ++ (Yi ++ (YR ++ [])))) ?_ (fun hmx28 => ?_)
       ·
        rintro _ _
        refine any_fork [6, 8] (by kernel_rfl) (by simp) (each_cons _ rfl ?_ (each_cons _ rfl ?_ (each_nil)))
        ·
         refine qo0 1 [(6, .go (owns 3 0 1))] [38, 42, 43, 45] [(44, .int .i64 (j + 1 : Nat))] ?_
         refine od_ ?_
         exact wk (hmx33 () trivial) [38, 42, 43, 44, 45] [[_], [_], [_], [_], [bx g14 cs14 62], _, _] [0, 1, 2, 3, 4, 5, 6] rfl rfl
        ·
         refine cP (fun v L' => ∃ q_ c_ Y_, v = .slice q_ n c_ ∧ L' = List.take 4 (bx (γ1 0) (#[.pointer (some ⟨gb, 0, none⟩)]) 56 :: bx gb (#[.slice (some ⟨g14, 0, none⟩) m capq]) 36 :: bx gm (#[.slice p n cap]) 27 :: bx gi (#[.int .i64 (j + 1 : Nat)]) 3 :: ([bx g14 cs14 62] ++ (Yi ++ (YR ++ [])))) ++ (Y_ ++ List.drop 4 (bx (γ1 0) (#[.pointer (some ⟨gb, 0, none⟩)]) 56 :: bx gb (#[.slice (some ⟨g14, 0, none⟩) m capq]) 36 :: bx gm (#[.slice p n cap]) 27 :: bx gi (#[.int .i64 (j + 1 : Nat)]) 3 :: ([bx g14 cs14 62] ++ (Yi ++ (YR ++ []))))) ∧ SlO 3 Y_ q_ n c_ l) (fun args w => Tryd.call32 args w) (fun w hw => (cloneints_t p n cap l w (hsl.kept hw.below) hn (by omega)).mono fun e w' ⟨q_, c_, Y_, he, hO, hb, hY⟩ => ⟨_, _, he, ⟨q_, c_, Y_, rfl, rfl, hO⟩, hw.join hb hY 4⟩) ?_
         rintro v192 L192 ⟨q192, cq192, Y192, rfl, rfl, hO192⟩
         refine od_ ?_
         exact wk (hmx34 (Y192, cq192, q192) hO192) [2, 38, 42, 43, 46] [[_], [_], [_], [_], _, [bx g14 cs14 62], _, _] [0, 1, 2, 3, 4, 5, 6, 7] rfl rfl
       refine any_cutX (V := Unit) (fun _ => True) 8 #[true, true, true, true, true, true, true, false, false, false, false, false, false, false, false] (fun _ => [(1, .pointer (some ⟨gm, 0, none⟩)), (38, .pointer (some ⟨gb, 0, none⟩)), (42, .slice (some ⟨g14, 0, none⟩) m capq), (43, .int .i64 (j : Nat)), (44, .int .i64 (j + 1 : Nat))]) (fun _ => bx (γ1 0) (#[.pointer (some ⟨gb, 0, none⟩)]) 56 :: bx gb (#[.slice (some ⟨g14, 0, none⟩) m capq]) 36 :: bx gm (#[.slice p n cap]) 27 :: bx gi (#[.int .i64 (j + 1 : Nat)]) 3 :: ([bx g14 cs14 62] ++ (Yi ++ (YR ++ [])))) ?_ (fun hmx27 => ?_)
       ·
        rintro _ _
        refine a1 7 rfl ?_
        refine qo0 1 [(7, .go (owns 2 0 1))] [38, 42, 43, 44] [(45, .slice p n cap)] ?_
        refine od_ ?_
        exact wk (hmx33 () trivial) [38, 42, 43, 44, 45] [[_], [_], [_], [_], [bx g14 cs14 62], _, _] [0, 1, 2, 3, 4, 5, 6] rfl rfl
       refine any_cutX (V := (List Ob) × (Nat) × (Option Addr)) (fun ⟨Y192, cq192, q192⟩ => SlO 3 Y192 q192 n cq192 l) 8 #[true, true, true, true, false, true, false, true, true, false, false, false, false, false, false] (fun ⟨Y192, cq192, q192⟩ => [(2, .pointer (some ⟨gi, 0, none⟩)), (38, .pointer (some ⟨gb, 0, none⟩)), (41, .pointer (some ⟨gb, 0, none⟩)), (43, .int .i64 (j : Nat)), (46, .slice q192 n cq192)]) (fun ⟨Y192, cq192, q192⟩ => bx (γ1 0) (#[.pointer (some ⟨gb, 0, none⟩)]) 56 :: bx gb (#[.slice (some ⟨g14, 0, none⟩) m capq]) 36 :: bx gm (#[.slice p n cap]) 27 :: bx gi (#[.int .i64 (j + 1 : Nat)]) 3 :: (Y192 ++ ([bx g14 cs14 62] ++ (Yi ++ (YR ++ []))))) ?_ (fun hmx26 => ?_)
       ·
        rintro ⟨Y192, cq192, q192⟩ hO192
        refine any_fork [4, 6] (by kernel_rfl) (by simp) (each_cons _ rfl ?_ (each_cons _ rfl ?_ (each_nil)))
        ·
         refine qo0 1 [(4, .go (owns 1 0 1))] [2, 38, 43, 46] [(42, .slice (some ⟨g14, 0, none⟩) m capq)] ?_
         refine od_ ?_
         exact wk (hmx34 (Y192, cq192, q192) hO192) [2, 38, 42, 43, 46] [[_], [_], [_], [_], _, [bx g14 cs14 62], _, _] [0, 1, 2, 3, 4, 5, 6, 7] rfl rfl
        ·
         refine qo0 1 [(6, .go (owns 3 0 1))] [38, 41, 43, 46] [(44, .int .i64 (j + 1 : Nat))] ?_
         refine od_ ?_
         refine tk (m := 6) [9] [] [38, 41, 43] [(47, .agg #[.int .i64 (j + 1 : Nat), .slice q192 n cq192])] ([]) #[true, true, true, true, false, true, true, true, true, true, false, false, false, false, false] al0 ?_
         exact wk (hmx35 (Y192, cq192, q192) hO192) [38, 41, 43, 47] [[_], [_], [_], [_], _, [bx g14 cs14 62], _, _] [0, 1, 2, 3, 4, 5, 6, 7] rfl rfl
       refine any_cutX (V := Unit) (fun _ => True) 8 #[true, true, true, true, false, true, true, true, false, false, false, false, false, false, false] (fun _ => [(38, .pointer (some ⟨gb, 0, none⟩)), (41, .pointer (some ⟨gb, 0, none⟩)), (43, .int .i64 (j : Nat)), (44, .int .i64 (j + 1 : Nat)), (45, .slice p n cap)]) (fun _ => bx (γ1 0) (#[.pointer (some ⟨gb, 0, none⟩)]) 56 :: bx gb (#[.slice (some ⟨g14, 0, none⟩) m capq]) 36 :: bx gm (#[.slice p n cap]) 27 :: bx gi (#[.int .i64 (j + 1 : Nat)]) 3 :: ([bx g14 cs14 62] ++ (Yi ++ (YR ++ [])))) ?_ (fun hmx25 => ?_)
       ·
        rintro _ _
        refine any_fork [4, 8] (by kernel_rfl) (by simp) (each_cons _ rfl ?_ (each_cons _ rfl ?_ (each_nil)))
        ·
         refine qo0 1 [(4, .go (owns 1 0 1))] [38, 43, 44, 45] [(42, .slice (some ⟨g14, 0, none⟩) m capq)] ?_
         refine od_ ?_
         exact wk (hmx33 () trivial) [38, 42, 43, 44, 45] [[_], [_], [_], [_], [bx g14 cs14 62], _, _] [0, 1, 2, 3, 4, 5, 6] rfl rfl
        ·
         refine cP (fun v L' => ∃ q_ c_ Y_, v = .slice q_ n c_ ∧ L' = List.take 4 (bx (γ1 0) (#[.pointer (some ⟨gb, 0, none⟩)]) 56 :: bx gb (#[.slice (some ⟨g14, 0, none⟩) m capq]) 36 :: bx gm (#[.slice p n cap]) 27 :: bx gi (#[.int .i64 (j + 1 : Nat)]) 3 :: ([bx g14 cs14 62] ++ (Yi ++ (YR ++ [])))) ++ (Y_ ++ List.drop 4 (bx (γ1 0) (#[.pointer (some ⟨gb, 0, none⟩)]) 56 :: bx gb (#[.slice (some ⟨g14, 0, none⟩) m capq]) 36 :: bx gm (#[.slice p n cap]) 27 :: bx gi (#[.int .i64 (j + 1 : Nat)]) 3 :: ([bx g14 cs14 62] ++ (Yi ++ (YR ++ []))))) ∧ SlO 3 Y_ q_ n c_ l) (fun args w => Tryd.call32 args w) (fun w hw => (cloneints_t p n cap l w (hsl.kept hw.below) hn (by omega)).mono fun e w' ⟨q_, c_, Y_, he, hO, hb, hY⟩ => ⟨_, _, he, ⟨q_, c_, Y_, rfl, rfl, hO⟩, hw.join hb hY 4⟩) ?_
         rintro v192 L192 ⟨q192, cq192, Y192, rfl, rfl, hO192⟩
         refine od_ ?_
         refine tk (m := 6) [9] [] [38, 41, 43] [(47, .agg #[.int .i64 (j + 1 : Nat), .slice q192 n cq192])] ([]) #[true, true, true, true, false, true, true, true, true, true, false, false, false, false, false] al0 ?_
         exact wk (hmx35 (Y192, cq192, q192) hO192) [38, 41, 43, 47] [[_], [_], [_], [_], _, [bx g14 cs14 62], _, _] [0, 1, 2, 3, 4, 5, 6, 7] rfl rfl
       refine any_cutX (V := (List Ob) × (Nat) × (Option Addr) × (Nat → Nat)) (fun ⟨Y192, cq192, q192, γ232⟩ => SlO 3 Y192 q192 n cq192 l) 9 #[false, false, false, false, false, true, true, true, true, true, true, false, false, false, false] (fun ⟨Y192, cq192, q192, γ232⟩ => [(3, .pointer (some ⟨γ1 0, 0, none⟩)), (43, .int .i64 (j : Nat)), (48, .slice (some ⟨γ232 0, 0, none⟩) 1 1)]) (fun ⟨Y192, cq192, q192, γ232⟩ => bx (γ232 0) (#[.int .i64 (j + 1 : Nat), .slice q192 n cq192]) 62 :: bx (γ1 0) (#[.pointer (some ⟨gb, 0, none⟩)]) 56 :: bx gb (#[.slice (some ⟨g14, 0, none⟩) m capq]) 36 :: bx gm (#[.slice p n cap]) 27 :: bx gi (#[.int .i64 (j + 1 : Nat)]) 3 :: (Y192 ++ ([bx g14 cs14 62] ++ (Yi ++ (YR ++ []))))) ?_ (fun hmx24 => ?_)
       ·
        rintro ⟨Y192, cq192, q192, γ232⟩ hO192
        refine any_fork [0, 1] (by kernel_rfl) (by simp) (each_cons _ rfl ?_ (each_cons _ rfl ?_ (each_nil)))
        ·
         refine qo0 1 [(0, .go (owns 1 0 1))] [3, 43, 48] [(38, .pointer (some ⟨gb, 0, none⟩))] ?_
         refine od_ ?_
         exact wk (hmx31 (Y192, cq192, q192, γ232) hO192) [3, 38, 43, 48] [[_], [_], [_], [_], [_], _, [bx g14 cs14 62], _, _] [0, 1, 2, 3, 4, 5, 6, 7, 8] rfl rfl
        ·
         refine qo0 1 [(1, .go (owns 1 0 1))] [3, 43, 48] [(39, .pointer (some ⟨gb, 0, none⟩))] ?_
         refine od_ ?_
         refine tk (m := 6) [2, 3] [] [3, 43, 48] [(41, .pointer (some ⟨gb, 0, none⟩))] ([]) #[false, true, true, true, false, true, true, true, true, true, true, false, false, false, false] al0 ?_
         exact wk (hmx36 (Y192, cq192, q192, γ232) hO192) [3, 41, 43, 48] [[_], [_], [_], [_], [_], _, [bx g14 cs14 62], _, _] [0, 1, 2, 3, 4, 5, 6, 7, 8] rfl rfl
       refine any_cutX (V := Unit) (fun _ => True) 9 #[false, true, true, true, true, true, false, true, false, false, false, false, false, false, false] (fun _ => [(2, .pointer (some ⟨gi, 0, none⟩)), (3, .pointer (some ⟨γ1 0, 0, none⟩)), (42, .slice (some ⟨g14, 0, none⟩) m capq), (43, .int .i64 (j : Nat)), (45, .slice p n cap)]) (fun _ => bx (γ1 0) (#[.pointer (some ⟨gb, 0, none⟩)]) 56 :: bx gb (#[.slice (some ⟨g14, 0, none⟩) m capq]) 36 :: bx gm (#[.slice p n cap]) 27 :: bx gi (#[.int .i64 (j + 1 : Nat)]) 3 :: ([bx g14 cs14 62] ++ (Yi ++ (YR ++ [])))) ?_ (fun hmx23 => ?_)
       ·
        rintro _ _
        refine any_fork [0, 6, 8] (by kernel_rfl) (by simp) (each_cons _ rfl ?_ (each_cons _ rfl ?_ (each_cons _ rfl ?_ (each_nil))))
        ·
         refine qo0 1 [(0, .go (owns 0 0 1))] [2, 42, 43, 45] [(38, .pointer (some ⟨gb, 0, none⟩))] ?_
         refine od_ ?_
         exact wk (hmx28 () trivial) [2, 38, 42, 43, 45] [[_], [_], [_], [_], [bx g14 cs14 62], _, _] [0, 1, 2, 3, 4, 5, 6] rfl rfl
        ·
         refine qo0 1 [(6, .go (owns 3 0 1))] [3, 42, 43, 45] [(44, .int .i64 (j + 1 : Nat))] ?_
         refine od_ ?_
         exact wk (hmx29 () trivial) [3, 42, 43, 44, 45] [[_], [_], [_], [_], [bx g14 cs14 62], _, _] [0, 1, 2, 3, 4, 5, 6] rfl rfl
        ·
         refine cP (fun v L' => ∃ q_ c_ Y_, v = .slice q_ n c_ ∧ L' = List.take 4 (bx (γ1 0) (#[.pointer (some ⟨gb, 0, none⟩)]) 56 :: bx gb (#[.slice (some ⟨g14, 0, none⟩) m capq]) 36 :: bx gm (#[.slice p n cap]) 27 :: bx gi (#[.int .i64 (j + 1 : Nat)]) 3 :: ([bx g14 cs14 62] ++ (Yi ++ (YR ++ [])))) ++ (Y_ ++ List.drop 4 (bx (γ1 0) (#[.pointer (some ⟨gb, 0, none⟩)]) 56 :: bx gb (#[.slice (some ⟨g14, 0, none⟩) m capq]) 36 :: bx gm (#[.slice p n cap]) 27 :: bx gi (#[.int .i64 (j + 1 : Nat)]) 3 :: ([bx g14 cs14 62] ++ (Yi ++ (YR ++ []))))) ∧ SlO 3 Y_ q_ n c_ l) (fun args w => Tryd.call32 args w) (fun w hw => (cloneints_t p n cap l w (hsl.kept hw.below) hn (by omega)).mono fun e w' ⟨q_, c_, Y_, he, hO, hb, hY⟩ => ⟨_, _, he, ⟨q_, c_, Y_, rfl, rfl, hO⟩, hw.join hb hY 4⟩) ?_
         rintro v192 L192 ⟨q192, cq192, Y192, rfl, rfl, hO192⟩
         refine od_ ?_
         exact wk (hmx30 (Y192, cq192, q192) hO192) [2, 3, 42, 43, 46] [[_], [_], [_], [_], _, [bx g14 cs14 62], _, _] [0, 1, 2, 3, 4, 5, 6, 7] rfl rfl
       refine any_cutX (V := Unit) (fun _ => True) 9 #[false, true, true, true, true, true, true, false, false, false, false, false, false, false, false] (fun _ => [(1, .pointer (some ⟨gm, 0, none⟩)), (3, .pointer (some ⟨γ1 0, 0, none⟩)), (42, .slice (some ⟨g14, 0, none⟩) m capq), (43, .int .i64 (j : Nat)), (44, .int .i64 (j + 1 : Nat))]) (fun _ => bx (γ1 0) (#[.pointer (some ⟨gb, 0, none⟩)]) 56 :: bx gb (#[.slice (some ⟨g14, 0, none⟩) m capq]) 36 :: bx gm (#[.slice p n cap]) 27 :: bx gi (#[.int .i64 (j + 1 : Nat)]) 3 :: ([bx g14 cs14 62] ++ (Yi ++ (YR ++ [])))) ?_ (fun hmx22 => ?_)
       ·
        rintro _ _
        refine any_fork [0, 7] (by kernel_rfl) (by simp) (each_cons _ rfl ?_ (each_cons _ rfl ?_ (each_nil)))
        ·
         refine qo0 1 [(0, .go (owns 0 0 1))] [1, 42, 43, 44] [(38, .pointer (some ⟨gb, 0, none⟩))] ?_
         refine od_ ?_
         exact wk (hmx27 () trivial) [1, 38, 42, 43, 44] [[_], [_], [_], [_], [bx g14 cs14 62], _, _] [0, 1, 2, 3, 4, 5, 6] rfl rfl
        ·
         refine qo0 1 [(7, .go (owns 2 0 1))] [3, 42, 43, 44] [(45, .slice p n cap)] ?_
         refine od_ ?_
         exact wk (hmx29 () trivial) [3, 42, 43, 44, 45] [[_], [_], [_], [_], [bx g14 cs14 62], _, _] [0, 1, 2, 3, 4, 5, 6] rfl rfl
       refine any_cutX (V := Unit) (fun _ => True) 9 #[true, true, true, true, true, true, false, false, false, false, false, false, false, false, false] (fun _ => [(1, .pointer (some ⟨gm, 0, none⟩)), (2, .pointer (some ⟨gi, 0, none⟩)), (38, .pointer (some ⟨gb, 0, none⟩)), (42, .slice (some ⟨g14, 0, none⟩) m capq), (43, .int .i64 (j : Nat))]) (fun _ => bx (γ1 0) (#[.pointer (some ⟨gb, 0, none⟩)]) 56 :: bx gb (#[.slice (some ⟨g14, 0, none⟩) m capq]) 36 :: bx gm (#[.slice p n cap]) 27 :: bx gi (#[.int .i64 (j + 1 : Nat)]) 3 :: ([bx g14 cs14 62] ++ (Yi ++ (YR ++ [])))) ?_ (fun hmx21 => ?_)
       ·
        rintro _ _
        refine any_fork [6, 7] (by kernel_rfl) (by simp) (each_cons _ rfl ?_ (each_cons _ rfl ?_ (each_nil)))
        ·
         refine qo0 1 [(6, .go (owns 3 0 1))] [1, 38, 42, 43] [(44, .int .i64 (j + 1 : Nat))] ?_
         refine od_ ?_
         exact wk (hmx27 () trivial) [1, 38, 42, 43, 44] [[_], [_], [_], [_], [bx g14 cs14 62], _, _] [0, 1, 2, 3, 4, 5, 6] rfl rfl
        ·
         refine qo0 1 [(7, .go (owns 2 0 1))] [2, 38, 42, 43] [(45, .slice p n cap)] ?_
         refine od_ ?_
         exact wk (hmx28 () trivial) [2, 38, 42, 43, 45] [[_], [_], [_], [_], [bx g14 cs14 62], _, _] [0, 1, 2, 3, 4, 5, 6] rfl rfl
       refine any_cutX (V := (List Ob) × (Nat) × (Option Addr)) (fun ⟨Y192, cq192, q192⟩ => SlO 3 Y192 q192 n cq192 l) 9 #[true, false, false, false, false, true, true, true, true, true, false, false, false, false, false] (fun ⟨Y192, cq192, q192⟩ => [(3, .pointer (some ⟨γ1 0, 0, none⟩)), (38, .pointer (some ⟨gb, 0, none⟩)), (43, .int .i64 (j : Nat)), (47, .agg #[.int .i64 (j + 1 : Nat), .slice q192 n cq192])]) (fun ⟨Y192, cq192, q192⟩ => bx (γ1 0) (#[.pointer (some ⟨gb, 0, none⟩)]) 56 :: bx gb (#[.slice (some ⟨g14, 0, none⟩) m capq]) 36 :: bx gm (#[.slice p n cap]) 27 :: bx gi (#[.int .i64 (j + 1 : Nat)]) 3 :: (Y192 ++ ([bx g14 cs14 62] ++ (Yi ++ (YR ++ []))))) ?_ (fun hmx20 => ?_)
       ·
        rintro ⟨Y192, cq192, q192⟩ hO192
        refine any_fork [1, 10] (by kernel_rfl) (by simp) (each_cons _ rfl ?_ (each_cons _ rfl ?_ (each_nil)))
        ·
         refine qo0 1 [(1, .go (owns 0 0 1))] [38, 43, 47] [(39, .pointer (some ⟨gb, 0, none⟩))] ?_
         refine od_ ?_
         refine tk (m := 6) [2, 3] [] [38, 43, 47] [(41, .pointer (some ⟨gb, 0, none⟩))] ([]) #[true, true, true, true, false, true, true, true, true, true, false, false, false, false, false] al0 ?_
         exact wk (hmx35 (Y192, cq192, q192) hO192) [38, 41, 43, 47] [[_], [_], [_], [_], _, [bx g14 cs14 62], _, _] [0, 1, 2, 3, 4, 5, 6, 7] rfl rfl
        ·
         refine mo0 1 [] [3, 38, 43] (fun γ232 => [(48, .slice (some ⟨γ232 0, 0, none⟩) 1 1)]) (fun γ232 L => bx (γ232 0) (#[.int .i64 (j + 1 : Nat), .slice q192 n cq192]) 62 :: L) (fun γ232 => ?_)
         refine od_ ?_
         exact wk (hmx31 (Y192, cq192, q192, γ232) hO192) [3, 38, 43, 48] [[_], [_], [_], [_], [_], _, [bx g14 cs14 62], _, _] [0, 1, 2, 3, 4, 5, 6, 7, 8] rfl rfl
       refine any_cutX (V := (List Ob) × (Nat) × (Option Addr)) (fun ⟨Y192, cq192, q192⟩ => SlO 3 Y192 q192 n cq192 l) 9 #[false, true, true, true, false, true, false, true, true, false, false, false, false, false, false] (fun ⟨Y192, cq192, q192⟩ => [(2, .pointer (some ⟨gi, 0, none⟩)), (3, .pointer (some ⟨γ1 0, 0, none⟩)), (41, .pointer (some ⟨gb, 0, none⟩)), (43, .int .i64 (j : Nat)), (46, .slice q192 n cq192)]) (fun ⟨Y192, cq192, q192⟩ => bx (γ1 0) (#[.pointer (some ⟨gb, 0, none⟩)]) 56 :: bx gb (#[.slice (some ⟨g14, 0, none⟩) m capq]) 36 :: bx gm (#[.slice p n cap]) 27 :: bx gi (#[.int .i64 (j + 1 : Nat)]) 3 :: (Y192 ++ ([bx g14 cs14 62] ++ (Yi ++ (YR ++ []))))) ?_ (fun hmx19 => ?_)
       ·
        rintro ⟨Y192, cq192, q192⟩ hO192
        refine any_fork [0, 4, 6] (by kernel_rfl) (by simp) (each_cons _ rfl ?_ (each_cons _ rfl ?_ (each_cons _ rfl ?_ (each_nil))))
        ·
         refine qo0 1 [(0, .go (owns 0 0 1))] [2, 41, 43, 46] [(38, .pointer (some ⟨gb, 0, none⟩))] ?_
         refine od_ ?_
         exact wk (hmx26 (Y192, cq192, q192) hO192) [2, 38, 41, 43, 46] [[_], [_], [_], [_], _, [bx g14 cs14 62], _, _] [0, 1, 2, 3, 4, 5, 6, 7] rfl rfl
        ·
         refine qo0 1 [(4, .go (owns 1 0 1))] [2, 3, 43, 46] [(42, .slice (some ⟨g14, 0, none⟩) m capq)] ?_
         refine od_ ?_
         exact wk (hmx30 (Y192, cq192, q192) hO192) [2, 3, 42, 43, 46] [[_], [_], [_], [_], _, [bx g14 cs14 62], _, _] [0, 1, 2, 3, 4, 5, 6, 7] rfl rfl
        ·
         refine qo0 1 [(6, .go (owns 3 0 1))] [3, 41, 43, 46] [(44, .int .i64 (j + 1 : Nat))] ?_
         refine od_ ?_
         refine tk (m := 7) [9] [] [3, 41, 43] [(47, .agg #[.int .i64 (j + 1 : Nat), .slice q192 n cq192])] ([]) #[false, true, true, true, false, true, true, true, true, true, false, false, false, false, false] al0 ?_
         exact wk (hmx32 (Y192, cq192, q192) hO192) [3, 41, 43, 47] [[_], [_], [_], [_], _, [bx g14 cs14 62], _, _] [0, 1, 2, 3, 4, 5, 6, 7] rfl rfl
       refine any_cutX (V := Unit) (fun _ => True) 9 #[false, true, true, true, false, true, true, true, false, false, false, false, false, false, false] (fun _ => [(3, .pointer (some ⟨γ1 0, 0, none⟩)), (41, .pointer (some ⟨gb, 0, none⟩)), (43, .int .i64 (j : Nat)), (44, .int .i64 (j + 1 : Nat)), (45, .slice p n cap)]) (fun _ => bx (γ1 0) (#[.pointer (some ⟨gb, 0, none⟩)]) 56 :: bx gb (#[.slice (some ⟨g14, 0, none⟩) m capq]) 36 :: bx gm (#[.slice p n cap]) 27 :: bx gi (#[.int .i64 (j + 1 : Nat)]) 3 :: ([bx g14 cs14 62] ++ (Yi ++ (YR ++ [])))) ?_ (fun hmx18 => ?_)
       ·
        rintro _ _
        refine any_fork [0, 4, 8] (by kernel_rfl) (by simp) (each_cons _ rfl ?_ (each_cons _ rfl ?_ (each_cons _ rfl ?_ (each_nil))))
        ·
         refine qo0 1 [(0, .go (owns 0 0 1))] [41, 43, 44, 45] [(38, .pointer (some ⟨gb, 0, none⟩))] ?_
         refine od_ ?_
         exact wk (hmx25 () trivial) [38, 41, 43, 44, 45] [[_], [_], [_], [_], [bx g14 cs14 62], _, _] [0, 1, 2, 3, 4, 5, 6] rfl rfl
        ·
         refine qo0 1 [(4, .go (owns 1 0 1))] [3, 43, 44, 45] [(42, .slice (some ⟨g14, 0, none⟩) m capq)] ?_
         refine od_ ?_
         exact wk (hmx29 () trivial) [3, 42, 43, 44, 45] [[_], [_], [_], [_], [bx g14 cs14 62], _, _] [0, 1, 2, 3, 4, 5, 6] rfl rfl
        ·
         refine cP (fun v L' => ∃ q_ c_ Y_, v = .slice q_ n c_ ∧ L' = List.take 4 (bx (γ1 0) (#[.pointer (some ⟨gb, 0, none⟩)]) 56 :: bx gb (#[.slice (some ⟨g14, 0, none⟩) m capq]) 36 :: bx gm (#[.slice p n cap]) 27 :: bx gi (#[.int .i64 (j + 1 : Nat)]) 3 :: ([bx g14 cs14 62] ++ (Yi ++ (YR ++ [])))) ++ (Y_ ++ List.drop 4 (bx (γ1 0) (#[.pointer (some ⟨gb, 0, none⟩)]) 56 :: bx gb (#[.slice (some ⟨g14, 0, none⟩) m capq]) 36 :: bx gm (#[.slice p n cap]) 27 :: bx gi (#[.int .i64 (j + 1 : Nat)]) 3 :: ([bx g14 cs14 62] ++ (Yi ++ (YR ++ []))))) ∧ SlO 3 Y_ q_ n c_ l) (fun args w => Tryd.call32 args w) (fun w hw => (cloneints_t p n cap l w (hsl.kept hw.below) hn (by omega)).mono fun e w' ⟨q_, c_, Y_, he, hO, hb, hY⟩ => ⟨_, _, he, ⟨q_, c_, Y_, rfl, rfl, hO⟩, hw.join hb hY 4⟩) ?_
         rintro v192 L192 ⟨q192, cq192, Y192, rfl, rfl, hO192⟩
         refine od_ ?_
         refine tk (m := 7) [9] [] [3, 41, 43] [(47, .agg #[.int .i64 (j + 1 : Nat), .slice q192 n cq192])] ([]) #[false, true, true, true, false, true, true, true, true, true, false, false, false, false, false] al0 ?_
         exact wk (hmx32 (Y192, cq192, q192) hO192) [3, 41, 43, 47] [[_], [_], [_], [_], _, [bx g14 cs14 62], _, _] [0, 1, 2, 3, 4, 5, 6, 7] rfl rfl
       refine any_cutX (V := Unit) (fun _ => True) 9 #[true, true, true, true, false, true, false, true, false, false, false, false, false, false, false] (fun _ => [(2, .pointer (some ⟨gi, 0, none⟩)), (38, .pointer (some ⟨gb, 0, none⟩)), (41, .pointer (some ⟨gb, 0, none⟩)), (43, .int .i64 (j : Nat)), (45, .slice p n cap)]) (fun _ => bx (γ1 0) (#[.pointer (some ⟨gb, 0, none⟩)]) 56 :: bx gb (#[.slice (some ⟨g14, 0, none⟩) m capq]) 36 :: bx gm (#[.slice p n cap]) 27 :: bx gi (#[.int .i64 (j + 1 : Nat)]) 3 :: ([bx g14 cs14 62] ++ (Yi ++ (YR ++ [])))) ?_ (fun hmx17 => ?_)
       ·
        rintro _ _
        refine any_fork [4, 6, 8] (by kernel_rfl) (by simp) (each_cons _ rfl ?_ (each_cons _ rfl ?_ (each_cons _ rfl ?_ (each_nil))))
        ·
         refine qo0 1 [(4, .go (owns 1 0 1))] [2, 38, 43, 45] [(42, .slice (some ⟨g14, 0, none⟩) m capq)] ?_
         refine od_ ?_
         exact wk (hmx28 () trivial) [2, 38, 42, 43, 45] [[_], [_], [_], [_], [bx g14 cs14 62], _, _] [0, 1, 2, 3, 4, 5, 6] rfl rfl
        ·
         refine qo0 1 [(6, .go (owns 3 0 1))] [38, 41, 43, 45] [(44, .int .i64 (j + 1 : Nat))] ?_
         refine od_ ?_
         exact wk (hmx25 () trivial) [38, 41, 43, 44, 45] [[_], [_], [_], [_], [bx g14 cs14 62], _, _] [0, 1, 2, 3, 4, 5, 6] rfl rfl
        ·
         refine cP (fun v L' => ∃ q_ c_ Y_, v = .slice q_ n c_ ∧ L' = List.take 4 (bx (γ1 0) (#[.pointer (some ⟨gb, 0, none⟩)]) 56 :: bx gb (#[.slice (some ⟨g14, 0, none⟩) m capq]) 36 :: bx gm (#[.slice p n cap]) 27 :: bx gi (#[.int .i64 (j + 1 : Nat)]) 3 :: ([bx g14 cs14 62] ++ (Yi ++ (YR ++ [])))) ++ (Y_ ++ List.drop 4 (bx (γ1 0) (#[.pointer (some ⟨gb, 0, none⟩)]) 56 :: bx gb (#[.slice (some ⟨g14, 0, none⟩) m capq]) 36 :: bx gm (#[.slice p n cap]) 27 :: bx gi (#[.int .i64 (j + 1 : Nat)]) 3 :: ([bx g14 cs14 62] ++ (Yi ++ (YR ++ []))))) ∧ SlO 3 Y_ q_ n c_ l) (fun args w => Tryd.call32 args w) (fun w hw => (cloneints_t p n cap l w (hsl.kept hw.below) hn (by omega)).mono fun e w' ⟨q_, c_, Y_, he, hO, hb, hY⟩ => ⟨_, _, he, ⟨q_, c_, Y_, rfl, rfl, hO⟩, hw.join hb hY 4⟩) ?_
         rintro v192 L192 ⟨q192, cq192, Y192, rfl, rfl, hO192⟩
         refine od_ ?_
         exact wk (hmx26 (Y192, cq192, q192) hO192) [2, 38, 41, 43, 46] [[_], [_], [_], [_], _, [bx g14 cs14 62], _, _] [0, 1, 2, 3, 4, 5, 6, 7] rfl rfl
       refine any_cutX (V := Unit) (fun _ => True) 9 #[true, true, true, true, false, true, true, false, false, false, false, false, false, false, false] (fun _ => [(1, .pointer (some ⟨gm, 0, none⟩)), (38, .pointer (some ⟨gb, 0, none⟩)), (41, .pointer (some ⟨gb, 0, none⟩)), (43, .int .i64 (j : Nat)), (44, .int .i64 (j + 1 : Nat))]) (fun _ => bx (γ1 0) (#[.pointer (some ⟨gb, 0, none⟩)]) 56 :: bx gb (#[.slice (some ⟨g14, 0, none⟩) m capq]) 36 :: bx gm (#[.slice p n cap]) 27 :: bx gi (#[.int .i64 (j + 1 : Nat)]) 3 :: ([bx g14 cs14 62] ++ (Yi ++ (YR ++ [])))) ?_ (fun hmx16 => ?_)
       ·
        rintro _ _
        refine any_fork [4, 7] (by kernel_rfl) (by simp) (each_cons _ rfl ?_ (each_cons _ rfl ?_ (each_nil)))
        ·
         refine qo0 1 [(4, .go (owns 1 0 1))] [1, 38, 43, 44] [(42, .slice (some ⟨g14, 0, none⟩) m capq)] ?_
         refine od_ ?_
         exact wk (hmx27 () trivial) [1, 38, 42, 43, 44] [[_], [_], [_], [_], [bx g14 cs14 62], _, _] [0, 1, 2, 3, 4, 5, 6] rfl rfl
        ·
         refine qo0 1 [(7, .go (owns 2 0 1))] [38, 41, 43, 44] [(45, .slice p n cap)] ?_
         refine od_ ?_
         exact wk (hmx25 () trivial) [38, 41, 43, 44, 45] [[_], [_], [_], [_], [bx g14 cs14 62], _, _] [0, 1, 2, 3, 4, 5, 6] rfl rfl
       refine any_cutX (V := Unit) (fun _ => True) 10 #[false, true, true, true, true, true, false, false, false, false, false, false, false, false, false] (fun _ => [(1, .pointer (some ⟨gm, 0, none⟩)), (2, .pointer (some ⟨gi, 0, none⟩)), (3, .pointer (some ⟨γ1 0, 0, none⟩)), (42, .slice (some ⟨g14, 0, none⟩) m capq), (43, .int .i64 (j : Nat))]) (fun _ => bx (γ1 0) (#[.pointer (some ⟨gb, 0, none⟩)]) 56 :: bx gb (#[.slice (some ⟨g14, 0, none⟩) m capq]) 36 :: bx gm (#[.slice p n cap]) 27 :: bx gi (#[.int .i64 (j + 1 : Nat)]) 3 :: ([bx g14 cs14 62] ++ (Yi ++ (YR ++ [])))) ?_ (fun hmx15 => ?_)
       ·
        rintro _ _
        refine any_fork [0, 6, 7] (by kernel_rfl) (by simp) (each_cons _ rfl ?_ (each_cons _ rfl ?_ (each_cons _ rfl ?_ (each_nil))))
        ·
         refine qo0 1 [(0, .go (owns 0 0 1))] [1, 2, 42, 43] [(38, .pointer (some ⟨gb, 0, none⟩))] ?_
         refine od_ ?_
         exact wk (hmx21 () trivial) [1, 2, 38, 42, 43] [[_], [_], [_], [_], [bx g14 cs14 62], _, _] [0, 1, 2, 3, 4, 5, 6] rfl rfl
        ·
         refine qo0 1 [(6, .go (owns 3 0 1))] [1, 3, 42, 43] [(44, .int .i64 (j + 1 : Nat))] ?_
         refine od_ ?_
         exact wk (hmx22 () trivial) [1, 3, 42, 43, 44] [[_], [_], [_], [_], [bx g14 cs14 62], _, _] [0, 1, 2, 3, 4, 5, 6] rfl rfl
        ·
         refine qo0 1 [(7, .go (owns 2 0 1))] [2, 3, 42, 43] [(45, .slice p n cap)] ?_
         refine od_ ?_
         exact wk (hmx23 () trivial) [2, 3, 42, 43, 45] [[_], [_], [_], [_], [bx g14 cs14 62], _, _] [0, 1, 2, 3, 4, 5, 6] rfl rfl
       refine any_cutX (V := (List Ob) × (Nat) × (Option Addr)) (fun ⟨Y192, cq192, q192⟩ => SlO 3 Y192 q192 n cq192 l) 10 #[false, false, false, false, false, true, true, true, true, true, false, false, false, false, false] (fun ⟨Y192, cq192, q192⟩ => [(3, .pointer (some ⟨γ1 0, 0, none⟩)), (43, .int .i64 (j : Nat)), (47, .agg #[.int .i64 (j + 1 : Nat), .slice q192 n cq192])]) (fun ⟨Y192, cq192, q192⟩ => bx (γ1 0) (#[.pointer (some ⟨gb, 0, none⟩)]) 56 :: bx gb (#[.slice (some ⟨g14, 0, none⟩) m capq]) 36 :: bx gm (#[.slice p n cap]) 27 :: bx gi (#[.int .i64 (j + 1 : Nat)]) 3 :: (Y192 ++ ([bx g14 cs14 62] ++ (Yi ++ (YR ++ []))))) ?_ (fun hmx14 => ?_)
       ·
        rintro ⟨Y192, cq192, q192⟩ hO192
        refine any_fork [0, 1, 10] (by kernel_rfl) (by simp) (each_cons _ rfl ?_ (each_cons _ rfl ?_ (each_cons _ rfl ?_ (each_nil))))
        ·
         refine qo0 1 [(0, .go (owns 0 0 1))] [3, 43, 47] [(38, .pointer (some ⟨gb, 0, none⟩))] ?_
         refine od_ ?_
         exact wk (hmx20 (Y192, cq192, q192) hO192) [3, 38, 43, 47] [[_], [_], [_], [_], _, [bx g14 cs14 62], _, _] [0, 1, 2, 3, 4, 5, 6, 7] rfl rfl
        ·
         refine qo0 1 [(1, .go (owns 0 0 1))] [3, 43, 47] [(39, .pointer (some ⟨gb, 0, none⟩))] ?_
         refine od_ ?_
         refine tk (m := 7) [2, 3] [] [3, 43, 47] [(41, .pointer (some ⟨gb, 0, none⟩))] ([]) #[false, true, true, true, false, true, true, true, true, true, false, false, false, false, false] al0 ?_
         exact wk (hmx32 (Y192, cq192, q192) hO192) [3, 41, 43, 47] [[_], [_], [_], [_], _, [bx g14 cs14 62], _, _] [0, 1, 2, 3, 4, 5, 6, 7] rfl rfl
        ·
         refine mo0 1 [] [3, 43] (fun γ232 => [(48, .slice (some ⟨γ232 0, 0, none⟩) 1 1)]) (fun γ232 L => bx (γ232 0) (#[.int .i64 (j + 1 : Nat), .slice q192 n cq192]) 62 :: L) (fun γ232 => ?_)
         refine od_ ?_
         exact wk (hmx24 (Y192, cq192, q192, γ232) hO192) [3, 43, 48] [[_], [_], [_], [_], [_], _, [bx g14 cs14 62], _, _] [0, 1, 2, 3, 4, 5, 6, 7, 8] rfl rfl
       refine any_cutX (V := Unit) (fun _ => True) 10 #[false, true, true, true, false, true, false, true, false, false, false, false, false, false, false] (fun _ => [(2, .pointer (some ⟨gi, 0, none⟩)), (3, .pointer (some ⟨γ1 0, 0, none⟩)), (41, .pointer (some ⟨gb, 0, none⟩)), (43, .int .i64 (j : Nat)), (45, .slice p n cap)]) (fun _ => bx (γ1 0) (#[.pointer (some ⟨gb, 0, none⟩)]) 56 :: bx gb (#[.slice (some ⟨g14, 0, none⟩) m capq]) 36 :: bx gm (#[.slice p n cap]) 27 :: bx gi (#[.int .i64 (j + 1 : Nat)]) 3 :: ([bx g14 cs14 62] ++ (Yi ++ (YR ++ [])))) ?_ (fun hmx13 => ?_)
       ·
        rintro _ _
        refine any_fork [0, 4, 6, 8] (by kernel_rfl) (by simp) (each_cons _ rfl ?_ (each_cons _ rfl ?_ (each_cons _ rfl ?_ (each_cons _ rfl ?_ (each_nil)))))
        ·
         refine qo0 1 [(0, .go (owns 0 0 1))] [2, 41, 43, 45] [(38, .pointer (some ⟨gb, 0, none⟩))] ?_
         refine od_ ?_
         exact wk (hmx17 () trivial) [2, 38, 41, 43, 45] [[_], [_], [_], [_], [bx g14 cs14 62], _, _] [0, 1, 2, 3, 4, 5, 6] rfl rfl
        ·
         refine qo0 1 [(4, .go (owns 1 0 1))] [2, 3, 43, 45] [(42, .slice (some ⟨g14, 0, none⟩) m capq)] ?_
         refine od_ ?_
         exact wk (hmx23 () trivial) [2, 3, 42, 43, 45] [[_], [_], [_], [_], [bx g14 cs14 62], _, _] [0, 1, 2, 3, 4, 5, 6] rfl rfl
        ·
         refine qo0 1 [(6, .go (owns 3 0 1))] [3, 41, 43, 45] [(44, .int .i64 (j + 1 : Nat))] ?_
         refine od_ ?_
         exact wk (hmx18 () trivial) [3, 41, 43, 44, 45] [[_], [_], [_], [_], [bx g14 cs14 62], _, _] [0, 1, 2, 3, 4, 5, 6] rfl rfl
        ·
         refine cP (fun v L' => ∃ q_ c_ Y_, v = .slice q_ n c_ ∧ L' = List.take 4 (bx (γ1 0) (#[.pointer (some ⟨gb, 0, none⟩)]) 56 :: bx gb (#[.slice (some ⟨g14, 0, none⟩) m capq]) 36 :: bx gm (#[.slice p n cap]) 27 :: bx gi (#[.int .i64 (j + 1 : Nat)]) 3 :: ([bx g14 cs14 62] ++ (Yi ++ (YR ++ [])))) ++ (Y_ ++ List.drop 4 (bx (γ1 0) (#[.pointer (some ⟨gb, 0, none⟩)]) 56 :: bx gb (#[.slice (some ⟨g14, 0, none⟩) m capq]) 36 :: bx gm (#[.slice p n cap]) 27 :: bx gi (#[.int .i64 (j + 1 : Nat)]) 3 :: ([bx g14 cs14 62] ++ (Yi ++ (YR ++ []))))) ∧ SlO 3 Y_ q_ n c_ l) (fun args w => Tryd.call32 args w) (fun w hw => (cloneints_t p n cap l w (hsl.kept hw.below) hn (by omega)).mono fun e w' ⟨q_, c_, Y_, he, hO, hb, hY⟩ => ⟨_, _, he, ⟨q_, c_, Y_, rfl, rfl, hO⟩, hw.join hb hY 4⟩) ?_
         rintro v192 L192 ⟨q192, cq192, Y192, rfl, rfl, hO192⟩
         refine od_ ?_
         exact wk (hmx19 (Y192, cq192, q192) hO192) [2, 3, 41, 43, 46] [[_], [_], [_], [_], _, [bx g14 cs14 62], _, _] [0, 1, 2, 3, 4, 5, 6, 7] rfl rfl
       refine any_cutX (V := Unit) (fun _ => True) 10 #[false, true, true, true, false, true, true, false, false, false, false, false, false, false, false] (fun _ => [(1, .pointer (some ⟨gm, 0, none⟩)), (3, .pointer (some ⟨γ1 0, 0, none⟩)), (41, .pointer (some ⟨gb, 0, none⟩)), (43, .int .i64 (j : Nat)), (44, .int .i64 (j + 1 : Nat))]) (fun _ => bx (γ1 0) (#[.pointer (some ⟨gb, 0, none⟩)]) 56 :: bx gb (#[.slice (some ⟨g14, 0, none⟩) m capq]) 36 :: bx gm (#[.slice p n cap]) 27 :: bx gi (#[.int .i64 (j + 1 : Nat)]) 3 :: ([bx g14 cs14 62] ++ (Yi ++ (YR ++ [])))) ?_ (fun hmx12 => ?_)
       ·
        rintro _ _
        refine any_fork [0, 4, 7] (by kernel_rfl) (by simp) (each_cons _ rfl ?_ (each_cons _ rfl ?_ (each_cons _ rfl ?_ (each_nil))))
        ·
         refine qo0 1 [(0, .go (owns 0 0 1))] [1, 41, 43, 44] [(38, .pointer (some ⟨gb, 0, none⟩))] ?_
         refine od_ ?_
         exact wk (hmx16 () trivial) [1, 38, 41, 43, 44] [[_], [_], [_], [_], [bx g14 cs14 62], _, _] [0, 1, 2, 3, 4, 5, 6] rfl rfl
        ·
         refine qo0 1 [(4, .go (owns 1 0 1))] [1, 3, 43, 44] [(42, .slice (some ⟨g14, 0, none⟩) m capq)] ?_
         refine od_ ?_
         exact wk (hmx22 () trivial) [1, 3, 42, 43, 44] [[_], [_], [_], [_], [bx g14 cs14 62], _, _] [0, 1, 2, 3, 4, 5, 6] rfl rfl
        ·
         refine qo0 1 [(7, .go (owns 2 0 1))] [3, 41, 43, 44] [(45, .slice p n cap)] ?_
         refine od_ ?_
         exact wk (hmx18 () trivial) [3, 41, 43, 44, 45] [[_], [_], [_], [_], [bx g14 cs14 62], _, _] [0, 1, 2, 3, 4, 5, 6] rfl rfl
       refine any_cutX (V := Unit) (fun _ => True) 10 #[true, true, true, true, false, true, false, false, false, false, false, false, false, false, false] (fun _ => [(1, .pointer (some ⟨gm, 0, none⟩)), (2, .pointer (some ⟨gi, 0, none⟩)), (38, .pointer (some ⟨gb, 0, none⟩)), (41, .pointer (some ⟨gb, 0, none⟩)), (43, .int .i64 (j : Nat))]) (fun _ => bx (γ1 0) (#[.pointer (some ⟨gb, 0, none⟩)]) 56 :: bx gb (#[.slice (some ⟨g14, 0, none⟩) m capq]) 36 :: bx gm (#[.slice p n cap]) 27 :: bx gi (#[.int .i64 (j + 1 : Nat)]) 3 :: ([bx g14 cs14 62] ++ (Yi ++ (YR ++ [])))) ?_ (fun hmx11 => ?_)
       ·
        rintro _ _
        refine any_fork [4, 6, 7] (by kernel_rfl) (by simp) (each_cons _ rfl ?_ (each_cons _ rfl ?_ (each_cons _ rfl ?_ (each_nil))))
        ·
         refine qo0 1 [(4, .go (owns 1 0 1))] [1, 2, 38, 43] [(42, .slice (some ⟨g14, 0, none⟩) m capq)] ?_
         refine od_ ?_
         exact wk (hmx21 () trivial) [1, 2, 38, 42, 43] [[_], [_], [_], [_], [bx g14 cs14 62], _, _] [0, 1, 2, 3, 4, 5, 6] rfl rfl
        ·
         refine qo0 1 [(6, .go (owns 3 0 1))] [1, 38, 41, 43] [(44, .int .i64 (j + 1 : Nat))] ?_
         refine od_ ?_
         exact wk (hmx16 () trivial) [1, 38, 41, 43, 44] [[_], [_], [_], [_], [bx g14 cs14 62], _, _] [0, 1, 2, 3, 4, 5, 6] rfl rfl
        ·
         refine qo0 1 [(7, .go (owns 2 0 1))] [2, 38, 41, 43] [(45, .slice p n cap)] ?_
         refine od_ ?_
         exact wk (hmx17 () trivial) [2, 38, 41, 43, 45] [[_], [_], [_], [_], [bx g14 cs14 62], _, _] [0, 1, 2, 3, 4, 5, 6] rfl rfl
       refine any_cutX (V := (List Ob) × (Nat) × (Option Addr)) (fun ⟨Y192, cq192, q192⟩ => SlO 3 Y192 q192 n cq192 l) 11 #[true, false, false, false, false, true, false, true, true, false, false, false, false, false, false] (fun ⟨Y192, cq192, q192⟩ => [(2, .pointer (some ⟨gi, 0, none⟩)), (3, .pointer (some ⟨γ1 0, 0, none⟩)), (38, .pointer (some ⟨gb, 0, none⟩)), (43, .int .i64 (j : Nat)), (46, .slice q192 n cq192)]) (fun ⟨Y192, cq192, q192⟩ => bx (γ1 0) (#[.pointer (some ⟨gb, 0, none⟩)]) 56 :: bx gb (#[.slice (some ⟨g14, 0, none⟩) m capq]) 36 :: bx gm (#[.slice p n cap]) 27 :: bx gi (#[.int .i64 (j + 1 : Nat)]) 3 :: (Y192 ++ ([bx g14 cs14 62] ++ (Yi ++ (YR ++ []))))) ?_ (fun hmx10 => ?_)
       ·
        rintro ⟨Y192, cq192, q192⟩ hO192
        refine any_fork [1, 6] (by kernel_rfl) (by simp) (each_cons _ rfl ?_ (each_cons _ rfl ?_ (each_nil)))
        ·
         refine qo0 1 [(1, .go (owns 0 0 1))] [2, 38, 43, 46] [(39, .pointer (some ⟨gb, 0, none⟩))] ?_
         refine od_ ?_
         refine tk (m := 8) [2, 3] [] [2, 38, 43, 46] [(41, .pointer (some ⟨gb, 0, none⟩))] ([]) #[true, true, true, true, false, true, false, true, true, false, false, false, false, false, false] al0 ?_
         exact wk (hmx26 (Y192, cq192, q192) hO192) [2, 38, 41, 43, 46] [[_], [_], [_], [_], _, [bx g14 cs14 62], _, _] [0, 1, 2, 3, 4, 5, 6, 7] rfl rfl
        ·
         refine qo0 1 [(6, .go (owns 3 0 1))] [3, 38, 43, 46] [(44, .int .i64 (j + 1 : Nat))] ?_
         refine od_ ?_
         refine tk (m := 9) [9] [] [3, 38, 43] [(47, .agg #[.int .i64 (j + 1 : Nat), .slice q192 n cq192])] ([]) #[true, false, false, false, false, true, true, true, true, true, false, false, false, false, false] al0 ?_
         exact wk (hmx20 (Y192, cq192, q192) hO192) [3, 38, 43, 47] [[_], [_], [_], [_], _, [bx g14 cs14 62], _, _] [0, 1, 2, 3, 4, 5, 6, 7] rfl rfl
       refine any_cutX (V := Unit) (fun _ => True) 11 #[true, false, false, false, false, true, true, true, false, false, false, false, false, false, false] (fun _ => [(3, .pointer (some ⟨γ1 0, 0, none⟩)), (38, .pointer (some ⟨gb, 0, none⟩)), (43, .int .i64 (j : Nat)), (44, .int .i64 (j + 1 : Nat)), (45, .slice p n cap)]) (fun _ => bx (γ1 0) (#[.pointer (some ⟨gb, 0, none⟩)]) 56 :: bx gb (#[.slice (some ⟨g14, 0, none⟩) m capq]) 36 :: bx gm (#[.slice p n cap]) 27 :: bx gi (#[.int .i64 (j + 1 : Nat)]) 3 :: ([bx g14 cs14 62] ++ (Yi ++ (YR ++ [])))) ?_ (fun hmx9 => ?_)
       ·
        rintro _ _
        refine any_fork [1, 8] (by kernel_rfl) (by simp) (each_cons _ rfl ?_ (each_cons _ rfl ?_ (each_nil)))
        ·
         refine qo0 1 [(1, .go (owns 0 0 1))] [38, 43, 44, 45] [(39, .pointer (some ⟨gb, 0, none⟩))] ?_
         refine od_ ?_
         refine tk (m := 8) [2, 3] [] [38, 43, 44, 45] [(41, .pointer (some ⟨gb, 0, none⟩))] ([]) #[true, true, true, true, false, true, true, true, false, false, false, false, false, false, false] al0 ?_
         exact wk (hmx25 () trivial) [38, 41, 43, 44, 45] [[_], [_], [_], [_], [bx g14 cs14 62], _, _] [0, 1, 2, 3, 4, 5, 6] rfl rfl
        ·
         refine cP (fun v L' => ∃ q_ c_ Y_, v = .slice q_ n c_ ∧ L' = List.take 4 (bx (γ1 0) (#[.pointer (some ⟨gb, 0, none⟩)]) 56 :: bx gb (#[.slice (some ⟨g14, 0, none⟩) m capq]) 36 :: bx gm (#[.slice p n cap]) 27 :: bx gi (#[.int .i64 (j + 1 : Nat)]) 3 :: ([bx g14 cs14 62] ++ (Yi ++ (YR ++ [])))) ++ (Y_ ++ List.drop 4 (bx (γ1 0) (#[.pointer (some ⟨gb, 0, none⟩)]) 56 :: bx gb (#[.slice (some ⟨g14, 0, none⟩) m capq]) 36 :: bx gm (#[.slice p n cap]) 27 :: bx gi (#[.int .i64 (j + 1 : Nat)]) 3 :: ([bx g14 cs14 62] ++ (Yi ++ (YR ++ []))))) ∧ SlO 3 Y_ q_ n c_ l) (fun args w => Tryd.call32 args w) (fun w hw => (cloneints_t p n cap l w (hsl.kept hw.below) hn (by omega)).mono fun e w' ⟨q_, c_, Y_, he, hO, hb, hY⟩ => ⟨_, _, he, ⟨q_, c_, Y_, rfl, rfl, hO⟩, hw.join hb hY 4⟩) ?_
         rintro v192 L192 ⟨q192, cq192, Y192, rfl, rfl, hO192⟩
         refine od_ ?_
         refine tk (m := 9) [9] [] [3, 38, 43] [(47, .agg #[.int .i64 (j + 1 : Nat), .slice q192 n cq192])] ([]) #[true, false, false, false, false, true, true, true, true, true, false, false, false, false, false] al0 ?_
         exact wk (hmx20 (Y192, cq192, q192) hO192) [3, 38, 43, 47] [[_], [_], [_], [_], _, [bx g14 cs14 62], _, _] [0, 1, 2, 3, 4, 5, 6, 7] rfl rfl
       refine any_cutX (V := Unit) (fun _ => True) 11 #[false, true, true, true, false, true, false, false, false, false, false, false, false, false, false] (fun _ => [(1, .pointer (some ⟨gm, 0, none⟩)), (2, .pointer (some ⟨gi, 0, none⟩)), (3, .pointer (some ⟨γ1 0, 0, none⟩)), (41, .pointer (some ⟨gb, 0, none⟩)), (43, .int .i64 (j : Nat))]) (fun _ => bx (γ1 0) (#[.pointer (some ⟨gb, 0, none⟩)]) 56 :: bx gb (#[.slice (some ⟨g14, 0, none⟩) m capq]) 36 :: bx gm (#[.slice p n cap]) 27 :: bx gi (#[.int .i64 (j + 1 : Nat)]) 3 :: ([bx g14 cs14 62] ++ (Yi ++ (YR ++ [])))) ?_ (fun hmx8 => ?_)
       ·
        rintro _ _
        refine any_fork [0, 4, 6, 7] (by kernel_rfl) (by simp) (each_cons _ rfl ?_ (each_cons _ rfl ?_ (each_cons _ rfl ?_ (each_cons _ rfl ?_ (each_nil)))))
        ·
         refine qo0 1 [(0, .go (owns 0 0 1))] [1, 2, 41, 43] [(38, .pointer (some ⟨gb, 0, none⟩))] ?_
         refine od_ ?_
         exact wk (hmx11 () trivial) [1, 2, 38, 41, 43] [[_], [_], [_], [_], [bx g14 cs14 62], _, _] [0, 1, 2, 3, 4, 5, 6] rfl rfl
        ·
         refine qo0 1 [(4, .go (owns 1 0 1))] [1, 2, 3, 43] [(42, .slice (some ⟨g14, 0, none⟩) m capq)] ?_
         refine od_ ?_
         exact wk (hmx15 () trivial) [1, 2, 3, 42, 43] [[_], [_], [_], [_], [bx g14 cs14 62], _, _] [0, 1, 2, 3, 4, 5, 6] rfl rfl
        ·
         refine qo0 1 [(6, .go (owns 3 0 1))] [1, 3, 41, 43] [(44, .int .i64 (j + 1 : Nat))] ?_
         refine od_ ?_
         exact wk (hmx12 () trivial) [1, 3, 41, 43, 44] [[_], [_], [_], [_], [bx g14 cs14 62], _, _] [0, 1, 2, 3, 4, 5, 6] rfl rfl
        ·
         refine qo0 1 [(7, .go (owns 2 0 1))] [2, 3, 41, 43] [(45, .slice p n cap)] ?_
         refine od_ ?_
         exact wk (hmx13 () trivial) [2, 3, 41, 43, 45] [[_], [_], [_], [_], [bx g14 cs14 62], _, _] [0, 1, 2, 3, 4, 5, 6] rfl rfl
       refine any_cutX (V := (List Ob) × (Nat) × (Option Addr)) (fun ⟨Y192, cq192, q192⟩ => SlO 3 Y192 q192 n cq192 l) 12 #[false, false, false, false, false, true, false, true, true, false, false, false, false, false, false] (fun ⟨Y192, cq192, q192⟩ => [(2, .pointer (some ⟨gi, 0, none⟩)), (3, .pointer (some ⟨γ1 0, 0, none⟩)), (43, .int .i64 (j : Nat)), (46, .slice q192 n cq192)]) (fun ⟨Y192, cq192, q192⟩ => bx (γ1 0) (#[.pointer (some ⟨gb, 0, none⟩)]) 56 :: bx gb (#[.slice (some ⟨g14, 0, none⟩) m capq]) 36 :: bx gm (#[.slice p n cap]) 27 :: bx gi (#[.int .i64 (j + 1 : Nat)]) 3 :: (Y192 ++ ([bx g14 cs14 62] ++ (Yi ++ (YR ++ []))))) ?_ (fun hmx7 => ?_)
       ·
        rintro ⟨Y192, cq192, q192⟩ hO192
        refine any_fork [0, 1, 6] (by kernel_rfl) (by simp) (each_cons _ rfl ?_ (each_cons _ rfl ?_ (each_cons _ rfl ?_ (each_nil))))
        ·
         refine qo0 1 [(0, .go (owns 0 0 1))] [2, 3, 43, 46] [(38, .pointer (some ⟨gb, 0, none⟩))] ?_
         refine od_ ?_
         exact wk (hmx10 (Y192, cq192, q192) hO192) [2, 3, 38, 43, 46] [[_], [_], [_], [_], _, [bx g14 cs14 62], _, _] [0, 1, 2, 3, 4, 5, 6, 7] rfl rfl
        ·
         refine qo0 1 [(1, .go (owns 0 0 1))] [2, 3, 43, 46] [(39, .pointer (some ⟨gb, 0, none⟩))] ?_
         refine od_ ?_
         refine tk (m := 9) [2, 3] [] [2, 3, 43, 46] [(41, .pointer (some ⟨gb, 0, none⟩))] ([]) #[false, true, true, true, false, true, false, true, true, false, false, false, false, false, false] al0 ?_
         exact wk (hmx19 (Y192, cq192, q192) hO192) [2, 3, 41, 43, 46] [[_], [_], [_], [_], _, [bx g14 cs14 62], _, _] [0, 1, 2, 3, 4, 5, 6, 7] rfl rfl
        ·
         refine qo0 1 [(6, .go (owns 3 0 1))] [3, 43, 46] [(44, .int .i64 (j + 1 : Nat))] ?_
         refine od_ ?_
         refine tk (m := 10) [9] [] [3, 43] [(47, .agg #[.int .i64 (j + 1 : Nat), .slice q192 n cq192])] ([]) #[false, false, false, false, false, true, true, true, true, true, false, false, false, false, false] al0 ?_
         exact wk (hmx14 (Y192, cq192, q192) hO192) [3, 43, 47] [[_], [_], [_], [_], _, [bx g14 cs14 62], _, _] [0, 1, 2, 3, 4, 5, 6, 7] rfl rfl
       refine any_cutX (V := Unit) (fun _ => True) 12 #[false, false, false, false, false, true, true, true, false, false, false, false, false, false, false] (fun _ => [(3, .pointer (some ⟨γ1 0, 0, none⟩)), (43, .int .i64 (j : Nat)), (44, .int .i64 (j + 1 : Nat)), (45, .slice p n cap)]) (fun _ => bx (γ1 0) (#[.pointer (some ⟨gb, 0, none⟩)]) 56 :: bx gb (#[.slice (some ⟨g14, 0, none⟩) m capq]) 36 :: bx gm (#[.slice p n cap]) 27 :: bx gi (#[.int .i64 (j + 1 : Nat)]) 3 :: ([bx g14 cs14 62] ++ (Yi ++ (YR ++ [])))) ?_ (fun hmx6 => ?_)
       ·
        rintro _ _
        refine any_fork [0, 1, 8] (by kernel_rfl) (by simp) (each_cons _ rfl ?_ (each_cons _ rfl ?_ (each_cons _ rfl ?_ (each_nil))))
        ·
         refine qo0 1 [(0, .go (owns 0 0 1))] [3, 43, 44, 45] [(38, .pointer (some ⟨gb, 0, none⟩))] ?_
         refine od_ ?_
         exact wk (hmx9 () trivial) [3, 38, 43, 44, 45] [[_], [_], [_], [_], [bx g14 cs14 62], _, _] [0, 1, 2, 3, 4, 5, 6] rfl rfl
        ·
         refine qo0 1 [(1, .go (owns 0 0 1))] [3, 43, 44, 45] [(39, .pointer (some ⟨gb, 0, none⟩))] ?_
         refine od_ ?_
         refine tk (m := 9) [2, 3] [] [3, 43, 44, 45] [(41, .pointer (some ⟨gb, 0, none⟩))] ([]) #[false, true, true, true, false, true, true, true, false, false, false, false, false, false, false] al0 ?_
         exact wk (hmx18 () trivial) [3, 41, 43, 44, 45] [[_], [_], [_], [_], [bx g14 cs14 62], _, _] [0, 1, 2, 3, 4, 5, 6] rfl rfl
        ·
         refine cP (fun v L' => ∃ q_ c_ Y_, v = .slice q_ n c_ ∧ L' = List.take 4 (bx (γ1 0) (#[.pointer (some ⟨gb, 0, none⟩)]) 56 :: bx gb (#[.slice (some ⟨g14, 0, none⟩) m capq]) 36 :: bx gm (#[.slice p n cap]) 27 :: bx gi (#[.int .i64 (j + 1 : Nat)]) 3 :: ([bx g14 cs14 62] ++ (Yi ++ (YR ++ [])))) ++ (Y_ ++ List.drop 4 (bx (γ1 0) (#[.pointer (some ⟨gb, 0, none⟩)]) 56 :: bx gb (#[.slice (some ⟨g14, 0, none⟩) m capq]) 36 :: bx gm (#[.slice p n cap]) 27 :: bx gi (#[.int .i64 (j + 1 : Nat)]) 3 :: ([bx g14 cs14 62] ++ (Yi ++ (YR ++ []))))) ∧ SlO 3 Y_ q_ n c_ l) (fun args w => Tryd.call32 args w) (fun w hw => (cloneints_t p n cap l w (hsl.kept hw.below) hn (by omega)).mono fun e w' ⟨q_, c_, Y_, he, hO, hb, hY⟩ => ⟨_, _, he, ⟨q_, c_, Y_, rfl, rfl, hO⟩, hw.join hb hY 4⟩) ?_
         rintro v192 L192 ⟨q192, cq192, Y192, rfl, rfl, hO192⟩
         refine od_ ?_
         refine tk (m := 10) [9] [] [3, 43] [(47, .agg #[.int .i64 (j + 1 : Nat), .slice q192 n cq192])] ([]) #[false, false, false, false, false, true, true, true, true, true, false, false, false, false, false] al0 ?_
         exact wk (hmx14 (Y192, cq192, q192) hO192) [3, 43, 47] [[_], [_], [_], [_], _, [bx g14 cs14 62], _, _] [0, 1, 2, 3, 4, 5, 6, 7] rfl rfl
       refine any_cutX (V := Unit) (fun _ => True) 12 #[true, false, false, false, false, true, false, true, false, false, false, false, false, false, false] (fun _ => [(2, .pointer (some ⟨gi, 0, none⟩)), (3, .pointer (some ⟨γ1 0, 0, none⟩)), (38, .pointer (some ⟨gb, 0, none⟩)), (43, .int .i64 (j : Nat)), (45, .slice p n cap)]) (fun _ => bx (γ1 0) (#[.pointer (some ⟨gb, 0, none⟩)]) 56 :: bx gb (#[.slice (some ⟨g14, 0, none⟩) m capq]) 36 :: bx gm (#[.slice p n cap]) 27 :: bx gi (#[.int .i64 (j + 1 : Nat)]) 3 :: ([bx g14 cs14 62] ++ (Yi ++ (YR ++ [])))) ?_ (fun hmx5 => ?_)
       ·
        rintro _ _
        refine any_fork [1, 6, 8] (by kernel_rfl) (by simp) (each_cons _ rfl ?_ (each_cons _ rfl ?_ (each_cons _ rfl ?_ (each_nil))))
        ·
         refine qo0 1 [(1, .go (owns 0 0 1))] [2, 38, 43, 45] [(39, .pointer (some ⟨gb, 0, none⟩))] ?_
         refine od_ ?_
         refine tk (m := 9) [2, 3] [] [2, 38, 43, 45] [(41, .pointer (some ⟨gb, 0, none⟩))] ([]) #[true, true, true, true, false, true, false, true, false, false, false, false, false, false, false] al0 ?_
         exact wk (hmx17 () trivial) [2, 38, 41, 43, 45] [[_], [_], [_], [_], [bx g14 cs14 62], _, _] [0, 1, 2, 3, 4, 5, 6] rfl rfl
        ·
         refine qo0 1 [(6, .go (owns 3 0 1))] [3, 38, 43, 45] [(44, .int .i64 (j + 1 : Nat))] ?_
         refine od_ ?_
         exact wk (hmx9 () trivial) [3, 38, 43, 44, 45] [[_], [_], [_], [_], [bx g14 cs14 62], _, _] [0, 1, 2, 3, 4, 5, 6] rfl rfl
        ·
         refine cP (fun v L' => ∃ q_ c_ Y_, v = .slice q_ n c_ ∧ L' = List.take 4 (bx (γ1 0) (#[.pointer (some ⟨gb, 0, none⟩)]) 56 :: bx gb (#[.slice (some ⟨g14, 0, none⟩) m capq]) 36 :: bx gm (#[.slice p n cap]) 27 :: bx gi (#[.int .i64 (j + 1 : Nat)]) 3 :: ([bx g14 cs14 62] ++ (Yi ++ (YR ++ [])))) ++ (Y_ ++ List.drop 4 (bx (γ1 0) (#[.pointer (some ⟨gb, 0, none⟩)]) 56 :: bx gb (#[.slice (some ⟨g14, 0, none⟩) m capq]) 36 :: bx gm (#[.slice p n cap]) 27 :: bx gi (#[.int .i64 (j + 1 : Nat)]) 3 :: ([bx g14 cs14 62] ++ (Yi ++ (YR ++ []))))) ∧ SlO 3 Y_ q_ n c_ l) (fun args w => Tryd.call32 args w) (fun w hw => (cloneints_t p n cap l w (hsl.kept hw.below) hn (by omega)).mono fun e w' ⟨q_, c_, Y_, he, hO, hb, hY⟩ => ⟨_, _, he, ⟨q_, c_, Y_, rfl, rfl, hO⟩, hw.join hb hY 4⟩) ?_
         rintro v192 L192 ⟨q192, cq192, Y192, rfl, rfl, hO192⟩
         refine od_ ?_
         exact wk (hmx10 (Y192, cq192, q192) hO192) [2, 3, 38, 43, 46] [[_], [_], [_], [_], _, [bx g14 cs14 62], _, _] [0, 1, 2, 3, 4, 5, 6, 7] rfl rfl
       refine any_cutX (V := Unit) (fun _ => True) 12 #[true, false, false, false, false, true, true, false, false, false, false, false, false, false, false] (fun _ => [(1, .pointer (some ⟨gm, 0, none⟩)), (3, .pointer (some ⟨γ1 0, 0, none⟩)), (38, .pointer (some ⟨gb, 0, none⟩)), (43, .int .i64 (j : Nat)), (44, .int .i64 (j + 1 : Nat))]) (fun _ => bx (γ1 0) (#[.pointer (some ⟨gb, 0, none⟩)]) 56 :: bx gb (#[.slice (some ⟨g14, 0, none⟩) m capq]) 36 :: bx gm (#[.slice p n cap]) 27 :: bx gi (#[.int .i64 (j + 1 : Nat)]) 3 :: ([bx g14 cs14 62] ++ (Yi ++ (YR ++ [])))) ?_ (fun hmx4 => ?_)
       ·
        rintro _ _
        refine any_fork [1, 7] (by kernel_rfl) (by simp) (each_cons _ rfl ?_ (each_cons _ rfl ?_ (each_nil)))
        ·
         refine qo0 1 [(1, .go (owns 0 0 1))] [1, 38, 43, 44] [(39, .pointer (some ⟨gb, 0, none⟩))] ?_
         refine od_ ?_
         refine tk (m := 9) [2, 3] [] [1, 38, 43, 44] [(41, .pointer (some ⟨gb, 0, none⟩))] ([]) #[true, true, true, true, false, true, true, false, false, false, false, false, false, false, false] al0 ?_
         exact wk (hmx16 () trivial) [1, 38, 41, 43, 44] [[_], [_], [_], [_], [bx g14 cs14 62], _, _] [0, 1, 2, 3, 4, 5, 6] rfl rfl
        ·
         refine qo0 1 [(7, .go (owns 2 0 1))] [3, 38, 43, 44] [(45, .slice p n cap)] ?_
         refine od_ ?_
         exact wk (hmx9 () trivial) [3, 38, 43, 44, 45] [[_], [_], [_], [_], [bx g14 cs14 62], _, _] [0, 1, 2, 3, 4, 5, 6] rfl rfl
       refine any_cutX (V := Unit) (fun _ => True) 13 #[false, false, false, false, false, true, false, true, false, false, false, false, false, false, false] (fun _ => [(2, .pointer (some ⟨gi, 0, none⟩)), (3, .pointer (some ⟨γ1 0, 0, none⟩)), (43, .int .i64 (j : Nat)), (45, .slice p n cap)]) (fun _ => bx (γ1 0) (#[.pointer (some ⟨gb, 0, none⟩)]) 56 :: bx gb (#[.slice (some ⟨g14, 0, none⟩) m capq]) 36 :: bx gm (#[.slice p n cap]) 27 :: bx gi (#[.int .i64 (j + 1 : Nat)]) 3 :: ([bx g14 cs14 62] ++ (Yi ++ (YR ++ [])))) ?_ (fun hmx3 => ?_)
       ·
        rintro _ _
        refine any_fork [0, 1, 6, 8] (by kernel_rfl) (by simp) (each_cons _ rfl ?_ (each_cons _ rfl ?_ (each_cons _ rfl ?_ (each_cons _ rfl ?_ (each_nil)))))
        ·
         refine qo0 1 [(0, .go (owns 0 0 1))] [2, 3, 43, 45] [(38, .pointer (some ⟨gb, 0, none⟩))] ?_
         refine od_ ?_
         exact wk (hmx5 () trivial) [2, 3, 38, 43, 45] [[_], [_], [_], [_], [bx g14 cs14 62], _, _] [0, 1, 2, 3, 4, 5, 6] rfl rfl
        ·
         refine qo0 1 [(1, .go (owns 0 0 1))] [2, 3, 43, 45] [(39, .pointer (some ⟨gb, 0, none⟩))] ?_
         refine od_ ?_
         refine tk (m := 10) [2, 3] [] [2, 3, 43, 45] [(41, .pointer (some ⟨gb, 0, none⟩))] ([]) #[false, true, true, true, false, true, false, true, false, false, false, false, false, false, false] al0 ?_
         exact wk (hmx13 () trivial) [2, 3, 41, 43, 45] [[_], [_], [_], [_], [bx g14 cs14 62], _, _] [0, 1, 2, 3, 4, 5, 6] rfl rfl
        ·
         refine qo0 1 [(6, .go (owns 3 0 1))] [3, 43, 45] [(44, .int .i64 (j + 1 : Nat))] ?_
         refine od_ ?_
         exact wk (hmx6 () trivial) [3, 43, 44, 45] [[_], [_], [_], [_], [bx g14 cs14 62], _, _] [0, 1, 2, 3, 4, 5, 6] rfl rfl
        ·
         refine cP (fun v L' => ∃ q_ c_ Y_, v = .slice q_ n c_ ∧ L' = List.take 4 (bx (γ1 0) (#[.pointer (some ⟨gb, 0, none⟩)]) 56 :: bx gb (#[.slice (some ⟨g14, 0, none⟩) m capq]) 36 :: bx gm (#[.slice p n cap]) 27 :: bx gi (#[.int .i64 (j + 1 : Nat)]) 3 :: ([bx g14 cs14 62] ++ (Yi ++ (YR ++ [])))) ++ (Y_ ++ List.drop 4 (bx (γ1 0) (#[.pointer (some ⟨gb, 0, none⟩)]) 56 :: bx gb (#[.slice (some ⟨g14, 0, none⟩) m capq]) 36 :: bx gm (#[.slice p n cap]) 27 :: bx gi (#[.int .i64 (j + 1 : Nat)]) 3 :: ([bx g14 cs14 62] ++ (Yi ++ (YR ++ []))))) ∧ SlO 3 Y_ q_ n c_ l) (fun args w => Tryd.call32 args w) (fun w hw => (cloneints_t p n cap l w (hsl.kept hw.below) hn (by omega)).mono fun e w' ⟨q_, c_, Y_, he, hO, hb, hY⟩ => ⟨_, _, he, ⟨q_, c_, Y_, rfl, rfl, hO⟩, hw.join hb hY 4⟩) ?_
         rintro v192 L192 ⟨q192, cq192, Y192, rfl, rfl, hO192⟩
         refine od_ ?_
         exact wk (hmx7 (Y192, cq192, q192) hO192) [2, 3, 43, 46] [[_], [_], [_], [_], _, [bx g14 cs14 62], _, _] [0, 1, 2, 3, 4, 5, 6, 7] rfl rfl
       refine any_cutX (V := Unit) (fun _ => True) 13 #[false, false, false, false, false, true, true, false, false, false, false, false, false, false, false] (fun _ => [(1, .pointer (some ⟨gm, 0, none⟩)), (3, .pointer (some ⟨γ1 0, 0, none⟩)), (43, .int .i64 (j : Nat)), (44, .int .i64 (j + 1 : Nat))]) (fun _ => bx (γ1 0) (#[.pointer (some ⟨gb, 0, none⟩)]) 56 :: bx gb (#[.slice (some ⟨g14, 0, none⟩) m capq]) 36 :: bx gm (#[.slice p n cap]) 27 :: bx gi (#[.int .i64 (j + 1 : Nat)]) 3 :: ([bx g14 cs14 62] ++ (Yi ++ (YR ++ [])))) ?_ (fun hmx2 => ?_)
       ·
        rintro _ _
        refine any_fork [0, 1, 7] (by kernel_rfl) (by simp) (each_cons _ rfl ?_ (each_cons _ rfl ?_ (each_cons _ rfl ?_ (each_nil))))
        ·
         refine qo0 1 [(0, .go (owns 0 0 1))] [1, 3, 43, 44] [(38, .pointer (some ⟨gb, 0, none⟩))] ?_
         refine od_ ?_
         exact wk (hmx4 () trivial) [1, 3, 38, 43, 44] [[_], [_], [_], [_], [bx g14 cs14 62], _, _] [0, 1, 2, 3, 4, 5, 6] rfl rfl
        ·
         refine qo0 1 [(1, .go (owns 0 0 1))] [1, 3, 43, 44] [(39, .pointer (some ⟨gb, 0, none⟩))] ?_
         refine od_ ?_
         refine tk (m := 10) [2, 3] [] [1, 3, 43, 44] [(41, .pointer (some ⟨gb, 0, none⟩))] ([]) #[false, true, true, true, false, true, true, false, false, false, false, false, false, false, false] al0 ?_
         exact wk (hmx12 () trivial) [1, 3, 41, 43, 44] [[_], [_], [_], [_], [bx g14 cs14 62], _, _] [0, 1, 2, 3, 4, 5, 6] rfl rfl
        ·
         refine qo0 1 [(7, .go (owns 2 0 1))] [3, 43, 44] [(45, .slice p n cap)] ?_
         refine od_ ?_
         exact wk (hmx6 () trivial) [3, 43, 44, 45] [[_], [_], [_], [_], [bx g14 cs14 62], _, _] [0, 1, 2, 3, 4, 5, 6] rfl rfl
       refine any_cutX (V := Unit) (fun _ => True) 13 #[true, false, false, false, false, true, false, false, false, false, false, false, false, false, false] (fun _ => [(1, .pointer (some ⟨gm, 0, none⟩)), (2, .pointer (some ⟨gi, 0, none⟩)), (3, .pointer (some ⟨γ1 0, 0, none⟩)), (38, .pointer (some ⟨gb, 0, none⟩)), (43, .int .i64 (j : Nat))]) (fun _ => bx (γ1 0) (#[.pointer (some ⟨gb, 0, none⟩)]) 56 :: bx gb (#[.slice (some ⟨g14, 0, none⟩) m capq]) 36 :: bx gm (#[.slice p n cap]) 27 :: bx gi (#[.int .i64 (j + 1 : Nat)]) 3 :: ([bx g14 cs14 62] ++ (Yi ++ (YR ++ [])))) ?_ (fun hmx1 => ?_)
       ·
        rintro _ _
        refine any_fork [1, 6, 7] (by kernel_rfl) (by simp) (each_cons _ rfl ?_ (each_cons _ rfl ?_ (each_cons _ rfl ?_ (each_nil))))
        ·
         refine qo0 1 [(1, .go (owns 0 0 1))] [1, 2, 38, 43] [(39, .pointer (some ⟨gb, 0, none⟩))] ?_
         refine od_ ?_
         refine tk (m := 10) [2, 3] [] [1, 2, 38, 43] [(41, .pointer (some ⟨gb, 0, none⟩))] ([]) #[true, true, true, true, false, true, false, false, false, false, false, false, false, false, false] al0 ?_
         exact wk (hmx11 () trivial) [1, 2, 38, 41, 43] [[_], [_], [_], [_], [bx g14 cs14 62], _, _] [0, 1, 2, 3, 4, 5, 6] rfl rfl
        ·
         refine qo0 1 [(6, .go (owns 3 0 1))] [1, 3, 38, 43] [(44, .int .i64 (j + 1 : Nat))] ?_
         refine od_ ?_
         exact wk (hmx4 () trivial) [1, 3, 38, 43, 44] [[_], [_], [_], [_], [bx g14 cs14 62], _, _] [0, 1, 2, 3, 4, 5, 6] rfl rfl
        ·
         refine qo0 1 [(7, .go (owns 2 0 1))] [2, 3, 38, 43] [(45, .slice p n cap)] ?_
         refine od_ ?_
         exact wk (hmx5 () trivial) [2, 3, 38, 43, 45] [[_], [_], [_], [_], [bx g14 cs14 62], _, _] [0, 1, 2, 3, 4, 5, 6] rfl rfl
       refine any_fork [0, 1, 6, 7] (by kernel_rfl) (by simp) (each_cons _ rfl ?_ (each_cons _ rfl ?_ (each_cons _ rfl ?_ (each_cons _ rfl ?_ (each_nil)))))
       ·
        refine qo0 1 [(0, .go (owns 0 0 1))] [1, 2, 3, 43] [(38, .pointer (some ⟨gb, 0, none⟩))] ?_
        refine od_ ?_
        exact wk (hmx1 () trivial) [1, 2, 3, 38, 43] [[_], [_], [_], [_], [bx g14 cs14 62], _, _] [0, 1, 2, 3, 4, 5, 6] rfl rfl
       ·
        refine qo0 1 [(1, .go (owns 0 0 1))] [1, 2, 3, 43] [(39, .pointer (some ⟨gb, 0, none⟩))] ?_
        refine od_ ?_
        refine tk (m := 11) [2, 3] [] [1, 2, 3, 43] [(41, .pointer (some ⟨gb, 0, none⟩))] ([]) #[false, true, true, true, false, true, false, false, false, false, false, false, false, false, false] al0 ?_
        exact wk (hmx8 () trivial) [1, 2, 3, 41, 43] [[_], [_], [_], [_], [bx g14 cs14 62], _, _] [0, 1, 2, 3, 4, 5, 6] rfl rfl
       ·
        refine qo0 1 [(6, .go (owns 3 0 1))] [1, 3, 43] [(44, .int .i64 (j + 1 : Nat))] ?_
        refine od_ ?_
        exact wk (hmx2 () trivial) [1, 3, 43, 44] [[_], [_], [_], [_], [bx g14 cs14 62], _, _] [0, 1, 2, 3, 4, 5, 6] rfl rfl
       ·
        refine qo0 1 [(7, .go (owns 2 0 1))] [2, 3, 43] [(45, .slice p n cap)] ?_
        refine od_ ?_
        exact wk (hmx3 () trivial) [2, 3, 43, 45] [[_], [_], [_], [_], [bx g14 cs14 62], _, _] [0, 1, 2, 3, 4, 5, 6] rfl rfl
      rintro ⟨Y192, Y252, cq192, cq252, q192, q252, γ232⟩ ⟨hO192, hO252⟩
      refine any_nil (by kernel_rfl) ?_
      refine ds_ (sq_ (qa0 [] [] [(4, .int .i64 0)] (ds_ (rt ([]) (.int .i64 0) ?_))))
      obtain ⟨Yq, hpq, hGq⟩ := GotG.ins (x := (⟨(j + 1 : Nat), q192, n, cq192, l⟩ : GngA)) hG hO192 (show j ≤ bl.length by omega)
      exact fun w' hw => ⟨_, _, _, _, _, Yq, (bl.take j ++ [(⟨(j + 1 : Nat), q192, n, cq192, l⟩ : GngA)] ++ bl.drop j), _, rfl, by rw [inG_val] at q8; rw [fc_ok q3 q8 hI (by omega), val_ins]; rfl, hO252, hGq, form_perm hpq (by have := Hs.pick [[bx (γ1 0) (#[.pointer (some ⟨gb, 0, none⟩)]) 56], [bx gb (#[.slice q252 (m + 1) cq252]) 36], [bx gm (#[.slice p n cap]) 27], [bx gi (#[.int .i64 (j + 1 : Nat)]) 3], Y192, Y252, Yi, YR] [1, 2, 3, 5, 6, 4, 7] [0] (by kernel_rfl) hw; simpa [chunk] using this)⟩
   ·
    refine ao_ (qo 14 [(1, .go (owns 0 0 1)), (4, .go (owns 1 0 1)), (6, .no)] [1, 2, 3, 5] [(19, .bool false), (25, undef)] ([¬ (((j : Nat) : Int) < ((m : Nat) : Int))]) (al1 q12) (qo0 6 [] [1, 2, 3, 5] [(31, .bool false)] (on_ (ds_ (f_ (at_leave _ rfl (ds_ (sq_ (sq_ ?_)))))))))
    rw [show (bl.map GngA.val).drop j = [] from List.drop_of_length_le (by rw [List.length_map]; omega)] at hI
    have hI : j = gapV 0 (bl.map GngA.val) := hI
    by_cases q422 : ((j : Nat) : Int) = (8 : Int)
    ·
     refine qa [(1, .yes)] [1, 2, 3, 5] [(35, .bool true)] ([((j : Nat) : Int) = (8 : Int)]) (al1 q422) (ds_ (t_ (sq_ (qa0 [] [] [(4, .int .i64 6)] (ds_ (rt ([]) (.int .i64 6) ?_))))))
     exact fun w' hw => ⟨_, _, _, _, _, _, bl, 0, rfl, by rw [inG_val] at q8; exact (fc_full q3 q8 hI (by omega)).symm, hO, hG, (by have := Hs.pick [[bx (γ1 0) (#[.pointer (some ⟨gb, 0, none⟩)]) 56], [bx gb (#[.slice q m capq]) 36], [bx gm (#[.slice p n cap]) 27], [bx gi (#[.int .i64 0]) 3], Y, Yi, YR] [1, 2, 3, 4, 5, 6] [0] (by kernel_rfl) hw; simpa [chunk] using this)⟩
    ·
     refine qa [(1, .no)] [1, 2, 3, 5] [(35, .bool false)] ([¬ (((j : Nat) : Int) = (8 : Int))]) (al1 q422) (ds_ (f_ (at_skip (ds_ (sq_ (ma [(1, .fit), (2, .go (owns 3 0 1))] [1, 2, 3, 5] (fun _ => []) (fun _ L => (L.set 3 (bx gi (#[.int .i64 (j + 1 : Nat)]) 3))) (fun _ => [Fit .i64 ((j + 1 : Nat))]) (fun _ => (al1 (fit64 (by omega) (by omega)))) (fun _ => ds_ (sq_ ?_))))))))
     refine at_any (by kernel_rfl) ?_
     refine tk (m := 14) [5] [] [1, 2, 3] [(43, .int .i64 (j : Nat))] ([]) #[false, false, false, false, false, true, false, false, false, false, false, false, false, false, false] al0 ?_
     refine any_cutX (V := (List Ob) × (List Ob) × (Nat) × (Nat) × (Option Addr) × (Option Addr) × (Nat → Nat)) (fun ⟨Y590, Y650, cq590, cq650, q590, q650, γ630⟩ => SlO 3 Y590 q590 n cq590 l ∧ SlO 62 Y650 q650 (m + 1) cq650 (bl.take j ++ [(⟨(j + 1 : Nat), q590, n, cq590, l⟩ : GngA)] ++ bl.drop j)) 0 #[true, true, true, true, true, true, true, true, true, true, true, true, true, true, true] (fun ⟨Y590, Y650, cq590, cq650, q590, q650, γ630⟩ => []) (fun ⟨Y590, Y650, cq590, cq650, q590, q650, γ630⟩ => bx (γ1 0) (#[.pointer (some ⟨gb, 0, none⟩)]) 56 :: bx gb (#[.slice q650 (m + 1) cq650]) 36 :: bx gm (#[.slice p n cap]) 27 :: bx gi (#[.int .i64 (j + 1 : Nat)]) 3 :: (Y590 ++ (Y650 ++ (Yi ++ (YR ++ []))))) ?_ (fun hmx44 => ?_)
     rotate_left
     ·
      refine any_cutX (V := (List Ob) × (List Ob) × (Nat) × (Nat) × (Option Addr) × (Option Addr) × (Nat → Nat)) (fun ⟨Y590, Y650, cq590, cq650, q590, q650, γ630⟩ => SlO 3 Y590 q590 n cq590 l ∧ SlO 62 Y650 q650 (m + 1) cq650 (bl.take j ++ [(⟨(j + 1 : Nat), q590, n, cq590, l⟩ : GngA)] ++ bl.drop j)) 1 #[true, true, true, true, true, true, true, true, true, true, true, true, true, true, false] (fun ⟨Y590, Y650, cq590, cq650, q590, q650, γ630⟩ => [(49, .slice q650 (m + 1) cq650), (51, .pointer (some ⟨gb, 0, none⟩))]) (fun ⟨Y590, Y650, cq590, cq650, q590, q650, γ630⟩ => bx (γ1 0) (#[.pointer (some ⟨gb, 0, none⟩)]) 56 :: bx gb (#[.slice q m capq]) 36 :: bx gm (#[.slice p n cap]) 27 :: bx gi (#[.int .i64 (j + 1 : Nat)]) 3 :: (Y590 ++ (Y650 ++ (Yi ++ (YR ++ []))))) ?_ (fun hmx43 => ?_)
      ·
       rintro ⟨Y590, Y650, cq590, cq650, q590, q650, γ630⟩ ⟨hO590, hO650⟩
       refine a1 14 rfl ?_
       refine mo0 1 [(14, .go (owns 1 0 1))] [] (fun _ => []) (fun _ L => (L.set 1 (bx gb (#[.slice q650 (m + 1) cq650]) 36))) (fun _ => ?_)
       refine od_ ?_
       exact wk (hmx44 (Y590, Y650, cq590, cq650, q590, q650, γ630) ⟨hO590, hO650⟩) [] [[_], [_], [_], [_], _, _, _, _] [0, 1, 2, 3, 4, 5, 6, 7] rfl rfl
      refine any_cutX (V := (List Ob) × (List Ob) × (Nat) × (Nat) × (Option Addr) × (Option Addr) × (Nat → Nat)) (fun ⟨Y590, Y650, cq590, cq650, q590, q650, γ630⟩ => SlO 3 Y590 q590 n cq590 l ∧ SlO 62 Y650 q650 (m + 1) cq650 (bl.take j ++ [(⟨(j + 1 : Nat), q590, n, cq590, l⟩ : GngA)] ++ bl.drop j)) 4 #[false, true, true, true, true, true, true, true, true, true, true, true, false, false, false] (fun ⟨Y590, Y650, cq590, cq650, q590, q650, γ630⟩ => [(3, .pointer (some ⟨γ1 0, 0, none⟩)), (49, .slice q650 (m + 1) cq650)]) (fun ⟨Y590, Y650, cq590, cq650, q590, q650, γ630⟩ => bx (γ1 0) (#[.pointer (some ⟨gb, 0, none⟩)]) 56 :: bx gb (#[.slice q m capq]) 36 :: bx gm (#[.slice p n cap]) 27 :: bx gi (#[.int .i64 (j + 1 : Nat)]) 3 :: (Y590 ++ (Y650 ++ (Yi ++ (YR ++ []))))) ?_ (fun hmx42 => ?_)
      ·
       rintro ⟨Y590, Y650, cq590, cq650, q590, q650, γ630⟩ ⟨hO590, hO650⟩
       refine a1 0 rfl ?_
       refine qo0 1 [(0, .go (owns 0 0 1))] [49] [(38, .pointer (some ⟨gb, 0, none⟩))] ?_
       refine od_ ?_
       refine tk (m := 1) [12, 13] [] [49] [(51, .pointer (some ⟨gb, 0, none⟩))] ([]) #[true, true, true, true, true, true, true, true, true, true, true, true, true, true, false] al0 ?_
       exact wk (hmx43 (Y590, Y650, cq590, cq650, q590, q650, γ630) ⟨hO590, hO650⟩) [49, 51] [[_], [_], [_], [_], _, _, _, _] [0, 1, 2, 3, 4, 5, 6, 7] rfl rfl
      refine any_cutX (V := (List Ob) × (Nat) × (Option Addr) × (Nat → Nat)) (fun ⟨Y590, cq590, q590, γ630⟩ => SlO 3 Y590 q590 n cq590 l) 4 #[true, true, true, true, true, true, true, true, true, true, true, false, false, false, false] (fun ⟨Y590, cq590, q590, γ630⟩ => [(38, .pointer (some ⟨gb, 0, none⟩)), (42, .slice q m capq), (43, .int .i64 (j : Nat)), (48, .slice (some ⟨γ630 0, 0, none⟩) 1 1)]) (fun ⟨Y590, cq590, q590, γ630⟩ => bx (γ630 0) (#[.int .i64 (j + 1 : Nat), .slice q590 n cq590]) 62 :: bx (γ1 0) (#[.pointer (some ⟨gb, 0, none⟩)]) 56 :: bx gb (#[.slice q m capq]) 36 :: bx gm (#[.slice p n cap]) 27 :: bx gi (#[.int .i64 (j + 1 : Nat)]) 3 :: (Y590 ++ (Y ++ (Yi ++ (YR ++ []))))) ?_ (fun hmx41 => ?_)
      ·
       rintro ⟨Y590, cq590, q590, γ630⟩ hO590
       refine a1 11 rfl ?_
       refine Ops.pick [[bx (γ630 0) (#[.int .i64 (j + 1 : Nat), .slice q590 n cq590]) 62], [bx (γ1 0) (#[.pointer (some ⟨gb, 0, none⟩)]) 56], [bx gb (#[.slice q m capq]) 36], [bx gm (#[.slice p n cap]) 27], [bx gi (#[.int .i64 (j + 1 : Nat)]) 3], Y590, Y, Yi, YR] [0, 1, 2, 3, 4, 6, 5, 7, 8] [] (bx (γ630 0) (#[.int .i64 (j + 1 : Nat), .slice q590 n cq590]) 62 :: bx (γ1 0) (#[.pointer (some ⟨gb, 0, none⟩)]) 56 :: bx gb (#[.slice q m capq]) 36 :: bx gm (#[.slice p n cap]) 27 :: bx gi (#[.int .i64 (j + 1 : Nat)]) 3 :: (Y ++ (Y590 ++ (Yi ++ (YR ++ []))))) (by kernel_rfl) rfl rfl (cP (fun v L' => ∃ q_ capq_ Y_, v = .slice q_ (m + 1) capq_ ∧ L' = [bx (γ1 0) (#[.pointer (some ⟨gb, 0, none⟩)]) 56, bx gb (#[.slice q m capq]) 36, bx gm (#[.slice p n cap]) 27, bx gi (#[.int .i64 (j + 1 : Nat)]) 3] ++ (Y_ ++ (Y590 ++ (Yi ++ (YR ++ [])))) ∧ SlO 62 Y_ q_ (m + 1) capq_ (bl.take j ++ [(⟨(j + 1 : Nat), q590, n, cq590, l⟩ : GngA)] ++ bl.drop j)) (fun args w => Tryd.call31 args w) (fun w hw => (ginsert_t _ ([bx (γ1 0) (#[.pointer (some ⟨gb, 0, none⟩)]) 56, bx gb (#[.slice q m capq]) 36, bx gm (#[.slice p n cap]) 27, bx gi (#[.int .i64 (j + 1 : Nat)]) 3] ++ (Y590 ++ (Yi ++ (YR ++ [])))) Y q m capq bl j (γ630 0) (#[.int .i64 (j + 1 : Nat), .slice q590 n cq590]) 1 ([(⟨(j + 1 : Nat), q590, n, cq590, l⟩ : GngA)]) w (hw.pull (A := [bx (γ1 0) (#[.pointer (some ⟨gb, 0, none⟩)]) 56, bx gb (#[.slice q m capq]) 36, bx gm (#[.slice p n cap]) 27, bx gi (#[.int .i64 (j + 1 : Nat)]) 3]) (Y := Y) (R := (Y590 ++ (Yi ++ (YR ++ []))))) hO (by rfl) (by rfl) (by omega) (by omega) (by omega) (by omega)).mono fun e w' ⟨q_, capq_, Y_, he, hO, hY⟩ => ⟨_, _, he, ⟨q_, capq_, Y_, rfl, rfl, hO⟩, hY.push⟩) ?_)
       rintro v650 L650 ⟨q650, cq650, Y650, rfl, rfl, hO650⟩
       refine od_ ?_
       refine tk (m := 1) [12, 13] [] [49] [(51, .pointer (some ⟨gb, 0, none⟩))] ([]) #[true, true, true, true, true, true, true, true, true, true, true, true, true, true, false] al0 ?_
       exact wk (hmx43 (Y590, Y650, cq590, cq650, q590, q650, γ630) ⟨hO590, hO650⟩) [49, 51] [[_], [_], [_], [_], _, _, _, _] [0, 1, 2, 3, 5, 4, 6, 7] rfl rfl
      refine any_cutX (V := (List Ob) × (Nat) × (Option Addr) × (Nat → Nat)) (fun ⟨Y590, cq590, q590, γ630⟩ => SlO 3 Y590 q590 n cq590 l) 5 #[false, true, true, true, true, true, true, true, true, true, true, false, false, false, false] (fun ⟨Y590, cq590, q590, γ630⟩ => [(3, .pointer (some ⟨γ1 0, 0, none⟩)), (42, .slice q m capq), (43, .int .i64 (j : Nat)), (48, .slice (some ⟨γ630 0, 0, none⟩) 1 1)]) (fun ⟨Y590, cq590, q590, γ630⟩ => bx (γ630 0) (#[.int .i64 (j + 1 : Nat), .slice q590 n cq590]) 62 :: bx (γ1 0) (#[.pointer (some ⟨gb, 0, none⟩)]) 56 :: bx gb (#[.slice q m capq]) 36 :: bx gm (#[.slice p n cap]) 27 :: bx gi (#[.int .i64 (j + 1 : Nat)]) 3 :: (Y590 ++ (Y ++ (Yi ++ (YR ++ []))))) ?_ (fun hmx40 => ?_)
      ·
       rintro ⟨Y590, cq590, q590, γ630⟩ hO590
       refine any_fork [0, 11] (by kernel_rfl) (by simp) (each_cons _ rfl ?_ (each_cons _ rfl ?_ (each_nil)))
       ·
        refine qo0 1 [(0, .go (owns 1 0 1))] [42, 43, 48] [(38, .pointer (some ⟨gb, 0, none⟩))] ?_
        refine od_ ?_
        exact wk (hmx41 (Y590, cq590, q590, γ630) hO590) [38, 42, 43, 48] [[_], [_], [_], [_], [_], _, _, _, _] [0, 1, 2, 3, 4, 5, 6, 7, 8] rfl rfl
       ·
        refine Ops.pick [[bx (γ630 0) (#[.int .i64 (j + 1 : Nat), .slice q590 n cq590]) 62], [bx (γ1 0) (#[.pointer (some ⟨gb, 0, none⟩)]) 56], [bx gb (#[.slice q m capq]) 36], [bx gm (#[.slice p n cap]) 27], [bx gi (#[.int .i64 (j + 1 : Nat)]) 3], Y590, Y, Yi, YR] [0, 1, 2, 3, 4, 6, 5, 7, 8] [] (bx (γ630 0) (#[.int .i64 (j + 1 : Nat), .slice q590 n cq590]) 62 :: bx (γ1 0) (#[.pointer (some ⟨gb, 0, none⟩)]) 56 :: bx gb (#[.slice q m capq]) 36 :: bx gm (#[.slice p n cap]) 27 :: bx gi (#[.int .i64 (j + 1 : Nat)]) 3 :: (Y ++ (Y590 ++ (Yi ++ (YR ++ []))))) (by kernel_rfl) rfl rfl (cP (fun v L' => ∃ q_ capq_ Y_, v = .slice q_ (m + 1) capq_ ∧ L' = [bx (γ1 0) (#[.pointer (some ⟨gb, 0, none⟩)]) 56, bx gb (#[.slice q m capq]) 36, bx gm (#[.slice p n cap]) 27, bx gi (#[.int .i64 (j + 1 : Nat)]) 3] ++ (Y_ ++ (Y590 ++ (Yi ++ (YR ++ [])))) ∧ SlO 62 Y_ q_ (m + 1) capq_ (bl.take j ++ [(⟨(j + 1 : Nat), q590, n, cq590, l⟩ : GngA)] ++ bl.drop j)) (fun args w => Tryd.call31 args w) (fun w hw => (ginsert_t _ ([bx (γ1 0) (#[.pointer (some ⟨gb, 0, none⟩)]) 56, bx gb (#[.slice q m capq]) 36, bx gm (#[.slice p n cap]) 27, bx gi (#[.int .i64 (j + 1 : Nat)]) 3] ++ (Y590 ++ (Yi ++ (YR ++ [])))) Y q m capq bl j (γ630 0) (#[.int .i64 (j + 1 : Nat), .slice q590 n cq590]) 1 ([(⟨(j + 1 : Nat), q590, n, cq590, l⟩ : GngA)]) w (hw.pull (A := [bx (γ1 0) (#[.pointer (some ⟨gb, 0, none⟩)]) 56, bx gb (#[.slice q m capq]) 36, bx gm (#[.slice p n cap]) 27, bx gi (#[.int .i64 (j + 1 : Nat)]) 3]) (Y := Y) (R := (Y590 ++ (Yi ++ (YR ++ []))))) hO (by rfl) (by rfl) (by omega) (by omega) (by omega) (by omega)).mono fun e w' ⟨q_, capq_, Y_, he, hO, hY⟩ => ⟨_, _, he, ⟨q_, capq_, Y_, rfl, rfl, hO⟩, hY.push⟩) ?_)
        rintro v650 L650 ⟨q650, cq650, Y650, rfl, rfl, hO650⟩
        refine od_ ?_
        exact wk (hmx42 (Y590, Y650, cq590, cq650, q590, q650, γ630) ⟨hO590, hO650⟩) [3, 49] [[_], [_], [_], [_], _, _, _, _] [0, 1, 2, 3, 5, 4, 6, 7] rfl rfl
      refine any_cutX (V := (List Ob) × (Nat) × (Option Addr)) (fun ⟨Y590, cq590, q590⟩ => SlO 3 Y590 q590 n cq590 l) 5 #[true, true, true, true, true, true, true, true, true, true, false, false, false, false, false] (fun ⟨Y590, cq590, q590⟩ => [(38, .pointer (some ⟨gb, 0, none⟩)), (42, .slice q m capq), (43, .int .i64 (j : Nat)), (47, .agg #[.int .i64 (j + 1 : Nat), .slice q590 n cq590])]) (fun ⟨Y590, cq590, q590⟩ => bx (γ1 0) (#[.pointer (some ⟨gb, 0, none⟩)]) 56 :: bx gb (#[.slice q m capq]) 36 :: bx gm (#[.slice p n cap]) 27 :: bx gi (#[.int .i64 (j + 1 : Nat)]) 3 :: (Y590 ++ (Y ++ (Yi ++ (YR ++ []))))) ?_ (fun hmx39 => ?_)
      ·
       rintro ⟨Y590, cq590, q590⟩ hO590
       refine a1 10 rfl ?_
       refine mo0 1 [] [38, 42, 43] (fun γ630 => [(48, .slice (some ⟨γ630 0, 0, none⟩) 1 1)]) (fun γ630 L => bx (γ630 0) (#[.int .i64 (j + 1 : Nat), .slice q590 n cq590]) 62 :: L) (fun γ630 => ?_)
       refine od_ ?_
       exact wk (hmx41 (Y590, cq590, q590, γ630) hO590) [38, 42, 43, 48] [[_], [_], [_], [_], [_], _, _, _, _] [0, 1, 2, 3, 4, 5, 6, 7, 8] rfl rfl
      refine any_cutX (V := (List Ob) × (Nat) × (Option Addr) × (Nat → Nat)) (fun ⟨Y590, cq590, q590, γ630⟩ => SlO 3 Y590 q590 n cq590 l) 5 #[true, true, true, true, false, true, true, true, true, true, true, false, false, false, false] (fun ⟨Y590, cq590, q590, γ630⟩ => [(38, .pointer (some ⟨gb, 0, none⟩)), (41, .pointer (some ⟨gb, 0, none⟩)), (43, .int .i64 (j : Nat)), (48, .slice (some ⟨γ630 0, 0, none⟩) 1 1)]) (fun ⟨Y590, cq590, q590, γ630⟩ => bx (γ630 0) (#[.int .i64 (j + 1 : Nat), .slice q590 n cq590]) 62 :: bx (γ1 0) (#[.pointer (some ⟨gb, 0, none⟩)]) 56 :: bx gb (#[.slice q m capq]) 36 :: bx gm (#[.slice p n cap]) 27 :: bx gi (#[.int .i64 (j + 1 : Nat)]) 3 :: (Y590 ++ (Y ++ (Yi ++ (YR ++ []))))) ?_ (fun hmx38 => ?_)
      ·
       rintro ⟨Y590, cq590, q590, γ630⟩ hO590
       refine a1 4 rfl ?_
       refine qo0 1 [(4, .go (owns 2 0 1))] [38, 43, 48] [(42, .slice q m capq)] ?_
       refine od_ ?_
       exact wk (hmx41 (Y590, cq590, q590, γ630) hO590) [38, 42, 43, 48] [[_], [_], [_], [_], [_], _, _, _, _] [0, 1, 2, 3, 4, 5, 6, 7, 8] rfl rfl
      refine any_cutX (V := (List Ob) × (Nat) × (Option Addr)) (fun ⟨Y590, cq590, q590⟩ => SlO 3 Y590 q590 n cq590 l) 6 #[false, true, true, true, true, true, true, true, true, true, false, false, false, false, false] (fun ⟨Y590, cq590, q590⟩ => [(3, .pointer (some ⟨γ1 0, 0, none⟩)), (42, .slice q m capq), (43, .int .i64 (j : Nat)), (47, .agg #[.int .i64 (j + 1 : Nat), .slice q590 n cq590])]) (fun ⟨Y590, cq590, q590⟩ => bx (γ1 0) (#[.pointer (some ⟨gb, 0, none⟩)]) 56 :: bx gb (#[.slice q m capq]) 36 :: bx gm (#[.slice p n cap]) 27 :: bx gi (#[.int .i64 (j + 1 : Nat)]) 3 :: (Y590 ++ (Y ++ (Yi ++ (YR ++ []))))) ?_ (fun hmx37 => ?_)
      ·
       rintro ⟨Y590, cq590, q590⟩ hO590
       refine any_fork [0, 10] (by kernel_rfl) (by simp) (each_cons _ rfl ?_ (each_cons _ rfl ?_ (each_nil)))
       ·
        refine qo0 1 [(0, .go (owns 0 0 1))] [42, 43, 47] [(38, .pointer (some ⟨gb, 0, none⟩))] ?_
        refine od_ ?_
        exact wk (hmx39 (Y590, cq590, q590) hO590) [38, 42, 43, 47] [[_], [_], [_], [_], _, _, _, _] [0, 1, 2, 3, 4, 5, 6, 7] rfl rfl
       ·
        refine mo0 1 [] [3, 42, 43] (fun γ630 => [(48, .slice (some ⟨γ630 0, 0, none⟩) 1 1)]) (fun γ630 L => bx (γ630 0) (#[.int .i64 (j + 1 : Nat), .slice q590 n cq590]) 62 :: L) (fun γ630 => ?_)
        refine od_ ?_
        exact wk (hmx40 (Y590, cq590, q590, γ630) hO590) [3, 42, 43, 48] [[_], [_], [_], [_], [_], _, _, _, _] [0, 1, 2, 3, 4, 5, 6, 7, 8] rfl rfl
      refine any_cutX (V := (List Ob) × (Nat) × (Option Addr) × (Nat → Nat)) (fun ⟨Y590, cq590, q590, γ630⟩ => SlO 3 Y590 q590 n cq590 l) 6 #[false, true, true, true, false, true, true, true, true, true, true, false, false, false, false] (fun ⟨Y590, cq590, q590, γ630⟩ => [(3, .pointer (some ⟨γ1 0, 0, none⟩)), (41, .pointer (some ⟨gb, 0, none⟩)), (43, .int .i64 (j : Nat)), (48, .slice (some ⟨γ630 0, 0, none⟩) 1 1)]) (fun ⟨Y590, cq590, q590, γ630⟩ => bx (γ630 0) (#[.int .i64 (j + 1 : Nat), .slice q590 n cq590]) 62 :: bx (γ1 0) (#[.pointer (some ⟨gb, 0, none⟩)]) 56 :: bx gb (#[.slice q m capq]) 36 :: bx gm (#[.slice p n cap]) 27 :: bx gi (#[.int .i64 (j + 1 : Nat)]) 3 :: (Y590 ++ (Y ++ (Yi ++ (YR ++ []))))) ?_ (fun hmx36 => ?_)
      ·
       rintro ⟨Y590, cq590, q590, γ630⟩ hO590
       refine any_fork [0, 4] (by kernel_rfl) (by simp) (each_cons _ rfl ?_ (each_cons _ rfl ?_ (each_nil)))
       ·
        refine qo0 1 [(0, .go (owns 1 0 1))] [41, 43, 48] [(38, .pointer (some ⟨gb, 0, none⟩))] ?_
        refine od_ ?_
        exact wk (hmx38 (Y590, cq590, q590, γ630) hO590) [38, 41, 43, 48] [[_], [_], [_], [_], [_], _, _, _, _] [0, 1, 2, 3, 4, 5, 6, 7, 8] rfl rfl
       ·
        refine qo0 1 [(4, .go (owns 2 0 1))] [3, 43, 48] [(42, .slice q m capq)] ?_
        refine od_ ?_
        exact wk (hmx40 (Y590, cq590, q590, γ630) hO590) [3, 42, 43, 48] [[_], [_], [_], [_], [_], _, _, _, _] [0, 1, 2, 3, 4, 5, 6, 7, 8] rfl rfl
      refine any_cutX (V := (List Ob) × (Nat) × (Option Addr)) (fun ⟨Y590, cq590, q590⟩ => SlO 3 Y590 q590 n cq590 l) 6 #[true, true, true, true, false, true, true, true, true, true, false, false, false, false, false] (fun ⟨Y590, cq590, q590⟩ => [(38, .pointer (some ⟨gb, 0, none⟩)), (41, .pointer (some ⟨gb, 0, none⟩)), (43, .int .i64 (j : Nat)), (47, .agg #[.int .i64 (j + 1 : Nat), .slice q590 n cq590])]) (fun ⟨Y590, cq590, q590⟩ => bx (γ1 0) (#[.pointer (some ⟨gb, 0, none⟩)]) 56 :: bx gb (#[.slice q m capq]) 36 :: bx gm (#[.slice p n cap]) 27 :: bx gi (#[.int .i64 (j + 1 : Nat)]) 3 :: (Y590 ++ (Y ++ (Yi ++ (YR ++ []))))) ?_ (fun hmx35 => ?_)
      ·
       rintro ⟨Y590, cq590, q590⟩ hO590
       refine any_fork [4, 10] (by kernel_rfl) (by simp) (each_cons _ rfl ?_ (each_cons _ rfl ?_ (each_nil)))
       ·
        refine qo0 1 [(4, .go (owns 1 0 1))] [38, 43, 47] [(42, .slice q m capq)] ?_
        refine od_ ?_
        exact wk (hmx39 (Y590, cq590, q590) hO590) [38, 42, 43, 47] [[_], [_], [_], [_], _, _, _, _] [0, 1, 2, 3, 4, 5, 6, 7] rfl rfl
       ·
        refine mo0 1 [] [38, 41, 43] (fun γ630 => [(48, .slice (some ⟨γ630 0, 0, none⟩) 1 1)]) (fun γ630 L => bx (γ630 0) (#[.int .i64 (j + 1 : Nat), .slice q590 n cq590]) 62 :: L) (fun γ630 => ?_)
        refine od_ ?_
        exact wk (hmx38 (Y590, cq590, q590, γ630) hO590) [38, 41, 43, 48] [[_], [_], [_], [_], [_], _, _, _, _] [0, 1, 2, 3, 4, 5, 6, 7, 8] rfl rfl
      refine any_cutX (V := (List Ob) × (Nat) × (Option Addr)) (fun ⟨Y590, cq590, q590⟩ => SlO 3 Y590 q590 n cq590 l) 7 #[true, true, true, true, true, true, false, true, true, false, false, false, false, false, false] (fun ⟨Y590, cq590, q590⟩ => [(2, .pointer (some ⟨gi, 0, none⟩)), (38, .pointer (some ⟨gb, 0, none⟩)), (42, .slice q m capq), (43, .int .i64 (j : Nat)), (46, .slice q590 n cq590)]) (fun ⟨Y590, cq590, q590⟩ => bx (γ1 0) (#[.pointer (some ⟨gb, 0, none⟩)]) 56 :: bx gb (#[.slice q m capq]) 36 :: bx gm (#[.slice p n cap]) 27 :: bx gi (#[.int .i64 (j + 1 : Nat)]) 3 :: (Y590 ++ (Y ++ (Yi ++ (YR ++ []))))) ?_ (fun hmx34 => ?_)
      ·
       rintro ⟨Y590, cq590, q590⟩ hO590
       refine a1 6 rfl ?_
       refine qo0 1 [(6, .go (owns 3 0 1))] [38, 42, 43, 46] [(44, .int .i64 (j + 1 : Nat))] ?_
       refine od_ ?_
       refine tk (m := 5) [9] [] [38, 42, 43] [(47, .agg #[.int .i64 (j + 1 : Nat), .slice q590 n cq590])] ([]) #[true, true, true, true, true, true, true, true, true, true, false, false, false, false, false] al0 ?_
       exact wk (hmx39 (Y590, cq590, q590) hO590) [38, 42, 43, 47] [[_], [_], [_], [_], _, _, _, _] [0, 1, 2, 3, 4, 5, 6, 7] rfl rfl
      refine any_cutX (V := Unit) (fun _ => True) 7 #[true, true, true, true, true, true, true, true, false, false, false, false, false, false, false] (fun _ => [(38, .pointer (some ⟨gb, 0, none⟩)), (42, .slice q m capq), (43, .int .i64 (j : Nat)), (44, .int .i64 (j + 1 : Nat)), (45, .slice p n cap)]) (fun _ => bx (γ1 0) (#[.pointer (some ⟨gb, 0, none⟩)]) 56 :: bx gb (#[.slice q m capq]) 36 :: bx gm (#[.slice p n cap]) 27 :: bx gi (#[.int .i64 (j + 1 : Nat)]) 3 :: (Y ++ (Yi ++ (YR ++ [])))) ?_ (fun hmx33 => ?_)
      ·
       rintro _ _
       refine a1 8 rfl ?_
       refine cP (fun v L' => ∃ q_ c_ Y_, v = .slice q_ n c_ ∧ L' = List.take 4 (bx (γ1 0) (#[.pointer (some ⟨gb, 0, none⟩)]) 56 :: bx gb (#[.slice q m capq]) 36 :: bx gm (#[.slice p n cap]) 27 :: bx gi (#[.int .i64 (j + 1 : Nat)]) 3 :: (Y ++ (Yi ++ (YR ++ [])))) ++ (Y_ ++ List.drop 4 (bx (γ1 0) (#[.pointer (some ⟨gb, 0, none⟩)]) 56 :: bx gb (#[.slice q m capq]) 36 :: bx gm (#[.slice p n cap]) 27 :: bx gi (#[.int .i64 (j + 1 : Nat)]) 3 :: (Y ++ (Yi ++ (YR ++ []))))) ∧ SlO 3 Y_ q_ n c_ l) (fun args w => Tryd.call32 args w) (fun w hw => (cloneints_t p n cap l w (hsl.kept hw.below) hn (by omega)).mono fun e w' ⟨q_, c_, Y_, he, hO, hb, hY⟩ => ⟨_, _, he, ⟨q_, c_, Y_, rfl, rfl, hO⟩, hw.join hb hY 4⟩) ?_
       rintro v590 L590 ⟨q590, cq590, Y590, rfl, rfl, hO590⟩
       refine od_ ?_
       refine tk (m := 5) [9] [] [38, 42, 43] [(47, .agg #[.int .i64 (j + 1 : Nat), .slice q590 n cq590])] ([]) #[true, true, true, true, true, true, true, true, true, true, false, false, false, false, false] al0 ?_
       exact wk (hmx39 (Y590, cq590, q590) hO590) [38, 42, 43, 47] [[_], [_], [_], [_], _, _, _, _] [0, 1, 2, 3, 4, 5, 6, 7] rfl rfl
      refine any_cutX (V := (List Ob) × (Nat) × (Option Addr)) (fun ⟨Y590, cq590, q590⟩ => SlO 3 Y590 q590 n cq590 l) 7 #[false, true, true, true, false, true, true, true, true, true, false, false, false, false, false] (fun ⟨Y590, cq590, q590⟩ => [(3, .pointer (some ⟨γ1 0, 0, none⟩)), (41, .pointer (some ⟨gb, 0, none⟩)), (43, .int .i64 (j : Nat)), (47, .agg #[.int .i64 (j + 1 : Nat), .slice q590 n cq590])]) (fun ⟨Y590, cq590, q590⟩ => bx (γ1 0) (#[.pointer (some ⟨gb, 0, none⟩)]) 56 :: bx gb (#[.slice q m capq]) 36 :: bx gm (#[.slice p n cap]) 27 :: bx gi (#[.int .i64 (j + 1 : Nat)]) 3 :: (Y590 ++ (Y ++ (Yi ++ (YR ++ []))))) ?_ (fun hmx32 => ?_)
      ·
       rintro ⟨Y590, cq590, q590⟩ hO590
       refine any_fork [0, 4, 10] (by kernel_rfl) (by simp) (each_cons _ rfl ?_ (each_cons _ rfl ?_ (each_cons _ rfl ?_ (each_nil))))
       ·
        refine qo0 1 [(0, .go (owns 0 0 1))] [41, 43, 47] [(38, .pointer (some ⟨gb, 0, none⟩))] ?_
        refine od_ ?_
        exact wk (hmx35 (Y590, cq590, q590) hO590) [38, 41, 43, 47] [[_], [_], [_], [_], _, _, _, _] [0, 1, 2, 3, 4, 5, 6, 7] rfl rfl
       ·
        refine qo0 1 [(4, .go (owns 1 0 1))] [3, 43, 47] [(42, .slice q m capq)] ?_
        refine od_ ?_
        exact wk (hmx37 (Y590, cq590, q590) hO590) [3, 42, 43, 47] [[_], [_], [_], [_], _, _, _, _] [0, 1, 2, 3, 4, 5, 6, 7] rfl rfl
       ·
        refine mo0 1 [] [3, 41, 43] (fun γ630 => [(48, .slice (some ⟨γ630 0, 0, none⟩) 1 1)]) (fun γ630 L => bx (γ630 0) (#[.int .i64 (j + 1 : Nat), .slice q590 n cq590]) 62 :: L) (fun γ630 => ?_)
        refine od_ ?_
        exact wk (hmx36 (Y590, cq590, q590, γ630) hO590) [3, 41, 43, 48] [[_], [_], [_], [_], [_], _, _, _, _] [0, 1, 2, 3, 4, 5, 6, 7, 8] rfl rfl
      refine any_cutX (V := (List Ob) × (Nat) × (Option Addr) × (Nat → Nat)) (fun ⟨Y590, cq590, q590, γ630⟩ => SlO 3 Y590 q590 n cq590 l) 8 #[true, false, false, false, false, true, true, true, true, true, true, false, false, false, false] (fun ⟨Y590, cq590, q590, γ630⟩ => [(3, .pointer (some ⟨γ1 0, 0, none⟩)), (38, .pointer (some ⟨gb, 0, none⟩)), (43, .int .i64 (j : Nat)), (48, .slice (some ⟨γ630 0, 0, none⟩) 1 1)]) (fun ⟨Y590, cq590, q590, γ630⟩ => bx (γ630 0) (#[.int .i64 (j + 1 : Nat), .slice q590 n cq590]) 62 :: bx (γ1 0) (#[.pointer (some ⟨gb, 0, none⟩)]) 56 :: bx gb (#[.slice q m capq]) 36 :: bx gm (#[.slice p n cap]) 27 :: bx gi (#[.int .i64 (j + 1 : Nat)]) 3 :: (Y590 ++ (Y ++ (Yi ++ (YR ++ []))))) ?_ (fun hmx31 => ?_)
      ·
       rintro ⟨Y590, cq590, q590, γ630⟩ hO590
       refine a1 1 rfl ?_
       refine qo0 1 [(1, .go (owns 1 0 1))] [38, 43, 48] [(39, .pointer (some ⟨gb, 0, none⟩))] ?_
       refine od_ ?_
       refine tk (m := 5) [2, 3] [] [38, 43, 48] [(41, .pointer (some ⟨gb, 0, none⟩))] ([]) #[true, true, true, true, false, true, true, true, true, true, true, false, false, false, false] al0 ?_
       exact wk (hmx38 (Y590, cq590, q590, γ630) hO590) [38, 41, 43, 48] [[_], [_], [_], [_], [_], _, _, _, _] [0, 1, 2, 3, 4, 5, 6, 7, 8] rfl rfl
      refine any_cutX (V := (List Ob) × (Nat) × (Option Addr)) (fun ⟨Y590, cq590, q590⟩ => SlO 3 Y590 q590 n cq590 l) 8 #[false, true, true, true, true, true, false, true, true, false, false, false, false, false, false] (fun ⟨Y590, cq590, q590⟩ => [(2, .pointer (some ⟨gi, 0, none⟩)), (3, .pointer (some ⟨γ1 0, 0, none⟩)), (42, .slice q m capq), (43, .int .i64 (j : Nat)), (46, .slice q590 n cq590)]) (fun ⟨Y590, cq590, q590⟩ => bx (γ1 0) (#[.pointer (some ⟨gb, 0, none⟩)]) 56 :: bx gb (#[.slice q m capq]) 36 :: bx gm (#[.slice p n cap]) 27 :: bx gi (#[.int .i64 (j + 1 : Nat)]) 3 :: (Y590 ++ (Y ++ (Yi ++ (YR ++ []))))) ?_ (fun hmx30 => ?_)
      ·
       rintro ⟨Y590, cq590, q590⟩ hO590
       refine any_fork [0, 6] (by kernel_rfl) (by simp) (each_cons _ rfl ?_ (each_cons _ rfl ?_ (each_nil)))
       ·
        refine qo0 1 [(0, .go (owns 0 0 1))] [2, 42, 43, 46] [(38, .pointer (some ⟨gb, 0, none⟩))] ?_
        refine od_ ?_
        exact wk (hmx34 (Y590, cq590, q590) hO590) [2, 38, 42, 43, 46] [[_], [_], [_], [_], _, _, _, _] [0, 1, 2, 3, 4, 5, 6, 7] rfl rfl
       ·
        refine qo0 1 [(6, .go (owns 3 0 1))] [3, 42, 43, 46] [(44, .int .i64 (j + 1 : Nat))] ?_
        refine od_ ?_
        refine tk (m := 6) [9] [] [3, 42, 43] [(47, .agg #[.int .i64 (j + 1 : Nat), .slice q590 n cq590])] ([]) #[false, true, true, true, true, true, true, true, true, true, false, false, false, false, false] al0 ?_
        exact wk (hmx37 (Y590, cq590, q590) hO590) [3, 42, 43, 47] [[_], [_], [_], [_], _, _, _, _] [0, 1, 2, 3, 4, 5, 6, 7] rfl rfl
      refine any_cutX (V := Unit) (fun _ => True) 8 #[false, true, true, true, true, true, true, true, false, false, false, false, false, false, false] (fun _ => [(3, .pointer (some ⟨γ1 0, 0, none⟩)), (42, .slice q m capq), (43, .int .i64 (j : Nat)), (44, .int .i64 (j + 1 : Nat)), (45, .slice p n cap)]) (fun _ => bx (γ1 0) (#[.pointer (some ⟨gb, 0, none⟩)]) 56 :: bx gb (#[.slice q m capq]) 36 :: bx gm (#[.slice p n cap]) 27 :: bx gi (#[.int .i64 (j + 1 : Nat)]) 3 :: (Y ++ (Yi ++ (YR ++ [])))) ?_ (fun hmx29 => ?_)
      ·
       rintro _ _
       refine any_fork [0, 8] (by kernel_rfl) (by simp) (each_cons _ rfl ?_ (each_cons _ rfl ?_ (each_nil)))
       ·
        refine qo0 1 [(0, .go (owns 0 0 1))] [42, 43, 44, 45] [(38, .pointer (some ⟨gb, 0, none⟩))] ?_
        refine od_ ?_
        exact wk (hmx33 () trivial) [38, 42, 43, 44, 45] [[_], [_], [_], [_], _, _, _] [0, 1, 2, 3, 4, 5, 6] rfl rfl
       ·
        refine cP (fun v L' => ∃ q_ c_ Y_, v = .slice q_ n c_ ∧ L' = List.take 4 (bx (γ1 0) (#[.pointer (some ⟨gb, 0, none⟩)]) 56 :: bx gb (#[.slice q m capq]) 36 :: bx gm (#[.slice p n cap]) 27 :: bx gi (#[.int .i64 (j + 1 : Nat)]) 3 :: (Y ++ (Yi ++ (YR ++ [])))) ++ (Y_ ++ List.drop 4 (bx (γ1 0) (#[.pointer (some ⟨gb, 0, none⟩)]) 56 :: bx gb (#[.slice q m capq]) 36 :: bx gm (#[.slice p n cap]) 27 :: bx gi (#[.int .i64 (j + 1 : Nat)]) 3 :: (Y ++ (Yi ++ (YR ++ []))))) ∧ SlO 3 Y_ q_ n c_ l) (fun args w => Tryd.call32 args w) (fun w hw => (cloneints_t p n cap l w (hsl.kept hw.below) hn (by omega)).mono fun e w' ⟨q_, c_, Y_, he, hO, hb, hY⟩ => ⟨_, _, he, ⟨q_, c_, Y_, rfl, rfl, hO⟩, hw.join hb hY 4⟩) ?_
        rintro v590 L590 ⟨q590, cq590, Y590, rfl, rfl, hO590⟩
        refine od_ ?_
        refine tk (m := 6) [9] [] [3, 42, 43] [(47, .agg #[.int .i64 (j + 1 : Nat), .slice q590 n cq590])] ([]) #[false, true, true, true, true, true, true, true, true, true, false, false, false, false, false] al0 ?_
        exact wk (hmx37 (Y590, cq590, q590) hO590) [3, 42, 43, 47] [[_], [_], [_], [_], _, _, _, _] [0, 1, 2, 3, 4, 5, 6, 7] rfl rfl
      refine any_cutX (V := Unit) (fun _ => True) 8 #[true, true, true, true, true, true, false, true, false, false, false, false, false, false, false] (fun _ => [(2, .pointer (some ⟨gi, 0, none⟩)), (38, .pointer (some ⟨gb, 0, none⟩)), (42, .slice q m capq), (43, .int .i64 (j : Nat)), (45, .slice p n cap)]) (fun _ => bx (γ1 0) (#[.pointer (some ⟨gb, 0, none⟩)]) 56 :: bx gb (#[.slice q m capq]) 36 :: bx gm (#[.slice p n cap]) 27 :: bx gi (#[.int .i64 (j + 1 : Nat)]) 3 :: (Y ++ (Yi ++ (YR ++ [])))) ?_ (fun hmx28 => ?_)
      ·
       rintro _ _
       refine any_fork [6, 8] (by kernel_rfl) (by simp) (each_cons _ rfl ?_ (each_cons _ rfl ?_ (each_nil)))
       ·
        refine qo0 1 [(6, .go (owns 3 0 1))] [38, 42, 43, 45] [(44, .int .i64 (j + 1 : Nat))] ?_
        refine od_ ?_
        exact wk (hmx33 () trivial) [38, 42, 43, 44, 45] [[_], [_], [_], [_], _, _, _] [0, 1, 2, 3, 4, 5, 6] rfl rfl
       ·
        refine cP (fun v L' => ∃ q_ c_ Y_, v = .slice q_ n c_ ∧ L' = List.take 4 (bx (γ1 0) (#[.pointer (some ⟨gb, 0, none⟩)]) 56 :: bx gb (#[.slice q m capq]) 36 :: bx gm (#[.slice p n cap]) 27 :: bx gi (#[.int .i64 (j + 1 : Nat)]) 3 :: (Y ++ (Yi ++ (YR ++ [])))) ++ (Y_ ++ List.drop 4 (bx (γ1 0) (#[.pointer (some ⟨gb, 0, none⟩)]) 56 :: bx gb (#[.slice q m capq]) 36 :: bx gm (#[.slice p n cap]) 27 :: bx gi (#[.int .i64 (j + 1 : Nat)]) 3 :: (Y ++ (Yi ++ (YR ++ []))))) ∧ SlO 3 Y_ q_ n c_ l) (fun args w => Tryd.call32 args w) (fun w hw => (cloneints_t p n cap l w (hsl.kept hw.below) hn (by omega)).mono fun e w' ⟨q_, c_, Y_, he, hO, hb, hY⟩ => ⟨_, _, he, ⟨q_, c_, Y_, rfl, rfl, hO⟩, hw.join hb hY 4⟩) ?_
        rintro v590 L590 ⟨q590, cq590, Y590, rfl, rfl, hO590⟩
        refine od_ ?_
        exact wk (hmx34 (Y590, cq590, q590) hO590) [2, 38, 42, 43, 46] [[_], [_], [_], [_], _, _, _, _] [0, 1, 2, 3, 4, 5, 6, 7] rfl rfl
      refine any_cutX (V := Unit) (fun _ => True) 8 #[true, true, true, true, true, true, true, false, false, false, false, false, false, false, false] (fun _ => [(1, .pointer (some ⟨gm, 0, none⟩)), (38, .pointer (some ⟨gb, 0, none⟩)), (42, .slice q m capq), (43, .int .i64 (j : Nat)), (44, .int .i64 (j + 1 : Nat))]) (fun _ => bx (γ1 0) (#[.pointer (some ⟨gb, 0, none⟩)]) 56 :: bx gb (#[.slice q m capq]) 36 :: bx gm (#[.slice p n cap]) 27 :: bx gi (#[.int .i64 (j + 1 : Nat)]) 3 :: (Y ++ (Yi ++ (YR ++ [])))) ?_ (fun hmx27 => ?_)
      ·
       rintro _ _
       refine a1 7 rfl ?_
       refine qo0 1 [(7, .go (owns 2 0 1))] [38, 42, 43, 44] [(45, .slice p n cap)] ?_
       refine od_ ?_
       exact wk (hmx33 () trivial) [38, 42, 43, 44, 45] [[_], [_], [_], [_], _, _, _] [0, 1, 2, 3, 4, 5, 6] rfl rfl
      refine any_cutX (V := (List Ob) × (Nat) × (Option Addr)) (fun ⟨Y590, cq590, q590⟩ => SlO 3 Y590 q590 n cq590 l) 8 #[true, true, true, true, false, true, false, true, true, false, false, false, false, false, false] (fun ⟨Y590, cq590, q590⟩ => [(2, .pointer (some ⟨gi, 0, none⟩)), (38, .pointer (some ⟨gb, 0, none⟩)), (41, .pointer (some ⟨gb, 0, none⟩)), (43, .int .i64 (j : Nat)), (46, .slice q590 n cq590)]) (fun ⟨Y590, cq590, q590⟩ => bx (γ1 0) (#[.pointer (some ⟨gb, 0, none⟩)]) 56 :: bx gb (#[.slice q m capq]) 36 :: bx gm (#[.slice p n cap]) 27 :: bx gi (#[.int .i64 (j + 1 : Nat)]) 3 :: (Y590 ++ (Y ++ (Yi ++ (YR ++ []))))) ?_ (fun hmx26 => ?_)
      ·
       rintro ⟨Y590, cq590, q590⟩ hO590
       refine any_fork [4, 6] (by kernel_rfl) (by simp) (each_cons _ rfl ?_ (each_cons _ rfl ?_ (each_nil)))
       ·
        refine qo0 1 [(4, .go (owns 1 0 1))] [2, 38, 43, 46] [(42, .slice q m capq)] ?_
        refine od_ ?_
        exact wk (hmx34 (Y590, cq590, q590) hO590) [2, 38, 42, 43, 46] [[_], [_], [_], [_], _, _, _, _] [0, 1, 2, 3, 4, 5, 6, 7] rfl rfl
       ·
        refine qo0 1 [(6, .go (owns 3 0 1))] [38, 41, 43, 46] [(44, .int .i64 (j + 1 : Nat))] ?_
        refine od_ ?_
        refine tk (m := 6) [9] [] [38, 41, 43] [(47, .agg #[.int .i64 (j + 1 : Nat), .slice q590 n cq590])] ([]) #[true, true, true, true, false, true, true, true, true, true, false, false, false, false, false] al0 ?_
        exact wk (hmx35 (Y590, cq590, q590) hO590) [38, 41, 43, 47] [[_], [_], [_], [_], _, _, _, _] [0, 1, 2, 3, 4, 5, 6, 7] rfl rfl
      refine any_cutX (V := Unit) (fun _ => True) 8 #[true, true, true, true, false, true, true, true, false, false, false, false, false, false, false] (fun _ => [(38, .pointer (some ⟨gb, 0, none⟩)), (41, .pointer (some ⟨gb, 0, none⟩)), (43, .int .i64 (j : Nat)), (44, .int .i64 (j + 1 : Nat)), (45, .slice p n cap)]) (fun _ => bx (γ1 0) (#[.pointer (some ⟨gb, 0, none⟩)]) 56 :: bx gb (#[.slice q m capq]) 36 :: bx gm (#[.slice p n cap]) 27 :: bx gi (#[.int .i64 (j + 1 : Nat)]) 3 :: (Y ++ (Yi ++ (YR ++ [])))) ?_ (fun hmx25 => ?_)
      ·
       rintro _ _
       refine any_fork [4, 8] (by kernel_rfl) (by simp) (each_cons _ rfl ?_ (each_cons _ rfl ?_ (each_nil)))
       ·
        refine qo0 1 [(4, .go (owns 1 0 1))] [38, 43, 44, 45] [(42, .slice q m capq)] ?_
        refine od_ ?_
        exact wk (hmx33 () trivial) [38, 42, 43, 44, 45] [[_], [_], [_], [_], _, _, _] [0, 1, 2, 3, 4, 5, 6] rfl rfl
       ·
        refine cP (fun v L' => ∃ q_ c_ Y_, v = .slice q_ n c_ ∧ L' = List.take 4 (bx (γ1 0) (#[.pointer (some ⟨gb, 0, none⟩)]) 56 :: bx gb (#[.slice q m capq]) 36 :: bx gm (#[.slice p n cap]) 27 :: bx gi (#[.int .i64 (j + 1 : Nat)]) 3 :: (Y ++ (Yi ++ (YR ++ [])))) ++ (Y_ ++ List.drop 4 (bx (γ1 0) (#[.pointer (some ⟨gb, 0, none⟩)]) 56 :: bx gb (#[.slice q m capq]) 36 :: bx gm (#[.slice p n cap]) 27 :: bx gi (#[.int .i64 (j + 1 : Nat)]) 3 :: (Y ++ (Yi ++ (YR ++ []))))) ∧ SlO 3 Y_ q_ n c_ l) (fun args w => Tryd.call32 args w) (fun w hw => (cloneints_t p n cap l w (hsl.kept hw.below) hn (by omega)).mono fun e w' ⟨q_, c_, Y_, he, hO, hb, hY⟩ => ⟨_, _, he, ⟨q_, c_, Y_, rfl, rfl, hO⟩, hw.join hb hY 4⟩) ?_
        rintro v590 L590 ⟨q590, cq590, Y590, rfl, rfl, hO590⟩
        refine od_ ?_
        refine tk (m := 6) [9] [] [38, 41, 43] [(47, .agg #[.int .i64 (j + 1 : Nat), .slice q590 n cq590])] ([]) #[true, true, true, true, false, true, true, true, true, true, false, false, false, false, false] al0 ?_
        exact wk (hmx35 (Y590, cq590, q590) hO590) [38, 41, 43, 47] [[_], [_], [_], [_], _, _, _, _] [0, 1, 2, 3, 4, 5, 6, 7] rfl rfl
      refine any_cutX (V := (List Ob) × (Nat) × (Option Addr) × (Nat → Nat)) (fun ⟨Y590, cq590, q590, γ630⟩ => SlO 3 Y590 q590 n cq590 l) 9 #[false, false, false, false, false, true, true, true, true, true, true, false, false, false, false] (fun ⟨Y590, cq590, q590, γ630⟩ => [(3, .pointer (some ⟨γ1 0, 0, none⟩)), (43, .int .i64 (j : Nat)), (48, .slice (some ⟨γ630 0, 0, none⟩) 1 1)]) (fun ⟨Y590, cq590, q590, γ630⟩ => bx (γ630 0) (#[.int .i64 (j + 1 : Nat), .slice q590 n cq590]) 62 :: bx (γ1 0) (#[.pointer (some ⟨gb, 0, none⟩)]) 56 :: bx gb (#[.slice q m capq]) 36 :: bx gm (#[.slice p n cap]) 27 :: bx gi (#[.int .i64 (j + 1 : Nat)]) 3 :: (Y590 ++ (Y ++ (Yi ++ (YR ++ []))))) ?_ (fun hmx24 => ?_)
      ·
       rintro ⟨Y590, cq590, q590, γ630⟩ hO590
       refine any_fork [0, 1] (by kernel_rfl) (by simp) (each_cons _ rfl ?_ (each_cons _ rfl ?_ (each_nil)))
       ·
        refine qo0 1 [(0, .go (owns 1 0 1))] [3, 43, 48] [(38, .pointer (some ⟨gb, 0, none⟩))] ?_
        refine od_ ?_
        exact wk (hmx31 (Y590, cq590, q590, γ630) hO590) [3, 38, 43, 48] [[_], [_], [_], [_], [_], _, _, _, _] [0, 1, 2, 3, 4, 5, 6, 7, 8] rfl rfl
       ·
        refine qo0 1 [(1, .go (owns 1 0 1))] [3, 43, 48] [(39, .pointer (some ⟨gb, 0, none⟩))] ?_
        refine od_ ?_
        refine tk (m := 6) [2, 3] [] [3, 43, 48] [(41, .pointer (some ⟨gb, 0, none⟩))] ([]) #[false, true, true, true, false, true, true, true, true, true, true, false, false, false, false] al0 ?_
        exact wk (hmx36 (Y590, cq590, q590, γ630) hO590) [3, 41, 43, 48] [[_], [_], [_], [_], [_], _, _, _, _] [0, 1, 2, 3, 4, 5, 6, 7, 8] rfl rfl
      refine any_cutX (V := Unit) (fun _ => True) 9 #[false, true, true, true, true, true, false, true, false, false, false, false, false, false, false] (fun _ => [(2, .pointer (some ⟨gi, 0, none⟩)), (3, .pointer (some ⟨γ1 0, 0, none⟩)), (42, .slice q m capq), (43, .int .i64 (j : Nat)), (45, .slice p n cap)]) (fun _ => bx (γ1 0) (#[.pointer (some ⟨gb, 0, none⟩)]) 56 :: bx gb (#[.slice q m capq]) 36 :: bx gm (#[.slice p n cap]) 27 :: bx gi (#[.int .i64 (j + 1 : Nat)]) 3 :: (Y ++ (Yi ++ (YR ++ [])))) ?_ (fun hmx23 => ?_)
      ·
       rintro _ _
       refine any_fork [0, 6, 8] (by kernel_rfl) (by simp) (each_cons _ rfl ?_ (each_cons _ rfl ?_ (each_cons _ rfl ?_ (each_nil))))
       ·
        refine qo0 1 [(0, .go (owns 0 0 1))] [2, 42, 43, 45] [(38, .pointer (some ⟨gb, 0, none⟩))] ?_
        refine od_ ?_
        exact wk (hmx28 () trivial) [2, 38, 42, 43, 45] [[_], [_], [_], [_], _, _, _] [0, 1, 2, 3, 4, 5, 6] rfl rfl
       ·
        refine qo0 1 [(6, .go (owns 3 0 1))] [3, 42, 43, 45] [(44, .int .i64 (j + 1 : Nat))] ?_
        refine od_ ?_
        exact wk (hmx29 () trivial) [3, 42, 43, 44, 45] [[_], [_], [_], [_], _, _, _] [0, 1, 2, 3, 4, 5, 6] rfl rfl
       ·
        refine cP (fun v L' => ∃ q_ c_ Y_, v = .slice q_ n c_ ∧ L' = List.take 4 (bx (γ1 0) (#[.pointer (some ⟨gb, 0, none⟩)]) 56 :: bx gb (#[.slice q m capq]) 36 :: bx gm (#[.slice p n cap]) 27 :: bx gi (#[.int .i64 (j + 1 : Nat)]) 3 :: (Y ++ (Yi ++ (YR ++ [])))) ++ (Y_ ++ List.drop 4 (bx (γ1 0) (#[.pointer (some ⟨gb, 0, none⟩)]) 56 :: bx gb (#[.slice q m capq]) 36 :: bx gm (#[.slice p n cap]) 27 :: bx gi (#[.int .i64 (j + 1 : Nat)]) 3 :: (Y ++ (Yi ++ (YR ++ []))))) ∧ SlO 3 Y_ q_ n c_ l) (fun args w => Tryd.call32 args w) (fun w hw => (cloneints_t p n cap l w (hsl.kept hw.below) hn (by omega)).mono fun e w' ⟨q_, c_, Y_, he, hO, hb, hY⟩ => ⟨_, _, he, ⟨q_, c_, Y_, rfl, rfl, hO⟩, hw.join hb hY 4⟩) ?_
        rintro v590 L590 ⟨q590, cq590, Y590, rfl, rfl, hO590⟩
        refine od_ ?_
        exact wk (hmx30 (Y590, cq590, q590) hO590) [2, 3, 42, 43, 46] [[_], [_], [_], [_], _, _, _, _] [0, 1, 2, 3, 4, 5, 6, 7] rfl rfl
      refine any_cutX (V := Unit) (fun _ => True) 9 #[false, true, true, true, true, true, true, false, false, false, false, false, false, false, false] (fun _ => [(1, .pointer (some ⟨gm, 0, none⟩)), (3, .pointer (some ⟨γ1 0, 0, none⟩)), (42, .slice q m capq), (43, .int .i64 (j : Nat)), (44, .int .i64 (j + 1 : Nat))]) (fun _ => bx (γ1 0) (#[.pointer (some ⟨gb, 0, none⟩)]) 56 :: bx gb (#[.slice q m capq]) 36 :: bx gm (#[.slice p n cap]) 27 :: bx gi (#[.int .i64 (j + 1 : Nat)]) 3 :: (Y ++ (Yi ++ (YR ++ [])))) ?_ (fun hmx22 => ?_)
      ·
       rintro _ _
       refine any_fork [0, 7] (by kernel_rfl) (by simp) (each_cons _ rfl ?_ (each_cons _ rfl ?_ (each_nil)))
       ·
        refine qo0 1 [(0, .go (owns 0 0 1))] [1, 42, 43, 44] [(38, .pointer (some ⟨gb, 0, none⟩))] ?_
        refine od_ ?_
        exact wk (hmx27 () trivial) [1, 38, 42, 43, 44] [[_], [_], [_], [_], _, _, _] [0, 1, 2, 3, 4, 5, 6] rfl rfl
       ·
        refine qo0 1 [(7, .go (owns 2 0 1))] [3, 42, 43, 44] [(45, .slice p n cap)] ?_
        refine od_ ?_
        exact wk (hmx29 () trivial) [3, 42, 43, 44, 45] [[_], [_], [_], [_], _, _, _] [0, 1, 2, 3, 4, 5, 6] rfl rfl
      refine any_cutX (V := Unit) (fun _ => True) 9 #[true, true, true, true, true, true, false, false, false, false, false, false, false, false, false] (fun _ => [(1, .pointer (some ⟨gm, 0, none⟩)), (2, .pointer (some ⟨gi, 0, none⟩)), (38, .pointer (some ⟨gb, 0, none⟩)), (42, .slice q m capq), (43, .int .i64 (j : Nat))]) (fun _ => bx (γ1 0) (#[.pointer (some ⟨gb, 0, none⟩)]) 56 :: bx gb (#[.slice q m capq]) 36 :: bx gm (#[.slice p n cap]) 27 :: bx gi (#[.int .i64 (j + 1 : Nat)]) 3 :: (Y ++ (Yi ++ (YR ++ [])))) ?_ (fun hmx21 => ?_)
      ·
       rintro _ _
       refine any_fork [6, 7] (by kernel_rfl) (by simp) (each_cons _ rfl ?_ (each_cons _ rfl ?_ (each_nil)))
       ·
        refine qo0 1 [(6, .go (owns 3 0 1))] [1, 38, 42, 43] [(44, .int .i64 (j + 1 : Nat))] ?_
        refine od_ ?_
        exact wk (hmx27 () trivial) [1, 38, 42, 43, 44] [[_], [_], [_], [_], _, _, _] [0, 1, 2, 3, 4, 5, 6] rfl rfl
       ·
        refine qo0 1 [(7, .go (owns 2 0 1))] [2, 38, 42, 43] [(45, .slice p n cap)] ?_
        refine od_ ?_
        exact wk (hmx28 () trivial) [2, 38, 42, 43, 45] [[_], [_], [_], [_], _, _, _] [0, 1, 2, 3, 4, 5, 6] rfl rfl
      refine any_cutX (V := (List Ob) × (Nat) × (Option Addr)) (fun ⟨Y590, cq590, q590⟩ => SlO 3 Y590 q590 n cq590 l) 9 #[true, false, false, false, false, true, true, true, true, true, false, false, false, false, false] (fun ⟨Y590, cq590, q590⟩ => [(3, .pointer (some ⟨γ1 0, 0, none⟩)), (38, .pointer (some ⟨gb, 0, none⟩)), (43, .int .i64 (j : Nat)), (47, .agg #[.int .i64 (j + 1 : Nat), .slice q590 n cq590])]) (fun ⟨Y590, cq590, q590⟩ => bx (γ1 0) (#[.pointer (some ⟨gb, 0, none⟩)]) 56 :: bx gb (#[.slice q m capq]) 36 :: bx gm (#[.slice p n cap]) 27 :: bx gi (#[.int .i64 (j + 1 : Nat)]) 3 :: (Y590 ++ (Y ++ (Yi ++ (YR ++ []))))) ?_ (fun hmx20 => ?_)
      ·
       rintro ⟨Y590, cq590, q590⟩ hO590
       refine any_fork [1, 10] (by kernel_rfl) (by simp) (each_cons _ rfl ?_ (each_cons _ rfl ?_ (each_nil)))
       ·
        refine qo0 1 [(1, .go (owns 0 0 1))] [38, 43, 47] [(39, .pointer (some ⟨gb, 0, none⟩))] ?_
        refine od_ ?_
        refine tk (m := 6) [2, 3] [] [38, 43, 47] [(41, .pointer (some ⟨gb, 0, none⟩))] ([]) #[true, true, true, true, false, true, true, true, true, true, false, false, false, false, false] al0 ?_
        exact wk (hmx35 (Y590, cq590, q590) hO590) [38, 41, 43, 47] [[_], [_], [_], [_], _, _, _, _] [0, 1, 2, 3, 4, 5, 6, 7] rfl rfl
       ·
        refine mo0 1 [] [3, 38, 43] (fun γ630 => [(48, .slice (some ⟨γ630 0, 0, none⟩) 1 1)]) (fun γ630 L => bx (γ630 0) (#[.int .i64 (j + 1 : Nat), .slice q590 n cq590]) 62 :: L) (fun γ630 => ?_)
        refine od_ ?_
        exact wk (hmx31 (Y590, cq590, q590, γ630) hO590) [3, 38, 43, 48] [[_], [_], [_], [_], [_], _, _, _, _] [0, 1, 2, 3, 4, 5, 6, 7, 8] rfl rfl
      refine any_cutX (V := (List Ob) × (Nat) × (Option Addr)) (fun ⟨Y590, cq590, q590⟩ => SlO 3 Y590 q590 n cq590 l) 9 #[false, true, true, true, false, true, false, true, true, false, false, false, false, false, false] (fun ⟨Y590, cq590, q590⟩ => [(2, .pointer (some ⟨gi, 0, none⟩)), (3, .pointer (some ⟨γ1 0, 0, none⟩)), (41, .pointer (some ⟨gb, 0, none⟩)), (43, .int .i64 (j : Nat)), (46, .slice q590 n cq590)]) (fun ⟨Y590, cq590, q590⟩ => bx (γ1 0) (#[.pointer (some ⟨gb, 0, none⟩)]) 56 :: bx gb (#[.slice q m capq]) 36 :: bx gm (#[.slice p n cap]) 27 :: bx gi (#[.int .i64 (j + 1 : Nat)]) 3 :: (Y590 ++ (Y ++ (Yi ++ (YR ++ []))))) ?_ (fun hmx19 => ?_)
      ·
       rintro ⟨Y590, cq590, q590⟩ hO590
       refine any_fork [0, 4, 6] (by kernel_rfl) (by simp) (each_cons _ rfl ?_ (each_cons _ rfl ?_ (each_cons _ rfl ?_ (each_nil))))
       ·
        refine qo0 1 [(0, .go (owns 0 0 1))] [2, 41, 43, 46] [(38, .pointer (some ⟨gb, 0, none⟩))] ?_
        refine od_ ?_
        exact wk (hmx26 (Y590, cq590, q590) hO590) [2, 38, 41, 43, 46] [[_], [_], [_], [_], _, _, _, _] [0, 1, 2, 3, 4, 5, 6, 7] rfl rfl
       ·
        refine qo0 1 [(4, .go (owns 1 0 1))] [2, 3, 43, 46] [(42, .slice q m capq)] ?_
        refine od_ ?_
        exact wk (hmx30 (Y590, cq590, q590) hO590) [2, 3, 42, 43, 46] [[_], [_], [_], [_], _, _, _, _] [0, 1, 2, 3, 4, 5, 6, 7] rfl rfl
       ·
        refine qo0 1 [(6, .go (owns 3 0 1))] [3, 41, 43, 46] [(44, .int .i64 (j + 1 : Nat))] ?_
        refine od_ ?_
        refine tk (m := 7) [9] [] [3, 41, 43] [(47, .agg #[.int .i64 (j + 1 : Nat), .slice q590 n cq590])] ([]) #[false, true, true, true, false, true, true, true, true, true, false, false, false, false, false] al0 ?_
        exact wk (hmx32 (Y590, cq590, q590) hO590) [3, 41, 43, 47] [[_], [_], [_], [_], _, _, _, _] [0, 1, 2, 3, 4, 5, 6, 7] rfl rfl
      refine any_cutX (V := Unit) (fun _ => True) 9 #[false, true, true, true, false, true, true, true, false, false, false, false, false, false, false] (fun _ => [(3, .pointer (some ⟨γ1 0, 0, none⟩)), (41, .pointer (some ⟨gb, 0, none⟩)), (43, .int .i64 (j : Nat)), (44, .int .i64 (j + 1 : Nat)), (45, .slice p n cap)]) (fun _ => bx (γ1 0) (#[.pointer (some ⟨gb, 0, none⟩)]) 56 :: bx gb (#[.slice q m capq]) 36 :: bx gm (#[.slice p n cap]) 27 :: bx gi (#[.int .i64 (j + 1 : Nat)]) 3 :: (Y ++ (Yi ++ (YR ++ [])))) ?_ (fun hmx18 => ?_)
      ·
       rintro _ _
       refine any_fork [0, 4, 8] (by kernel_rfl) (by simp) (each_cons _ rfl ?_ (each_cons _ rfl ?_ (each_cons _ rfl ?_ (each_nil))))
       ·
        refine qo0 1 [(0, .go (owns 0 0 1))] [41, 43, 44, 45] [(38, .pointer (some ⟨gb, 0, none⟩))] ?_
        refine od_ ?_
        exact wk (hmx25 () trivial) [38, 41, 43, 44, 45] [[_], [_], [_], [_], _, _, _] [0, 1, 2, 3, 4, 5, 6] rfl rfl
       ·
        refine qo0 1 [(4, .go (owns 1 0 1))] [3, 43, 44, 45] [(42, .slice q m capq)] ?_
        refine od_ ?_
        exact wk (hmx29 () trivial) [3, 42, 43, 44, 45] [[_], [_], [_], [_], _, _, _] [0, 1, 2, 3, 4, 5, 6] rfl rfl
       ·
        refine cP (fun v L' => ∃ q_ c_ Y_, v = .slice q_ n c_ ∧ L' = List.take 4 (bx (γ1 0) (#[.pointer (some ⟨gb, 0, none⟩)]) 56 :: bx gb (#[.slice q m capq]) 36 :: bx gm (#[.slice p n cap]) 27 :: bx gi (#[.int .i64 (j + 1 : Nat)]) 3 :: (Y ++ (Yi ++ (YR ++ [])))) ++ (Y_ ++ List.drop 4 (bx (γ1 0) (#[.pointer (some ⟨gb, 0, none⟩)]) 56 :: bx gb (#[.slice q m capq]) 36 :: bx gm (#[.slice p n cap]) 27 :: bx gi (#[.int .i64 (j + 1 : Nat)]) 3 :: (Y ++ (Yi ++ (YR ++ []))))) ∧ SlO 3 Y_ q_ n c_ l) (fun args w => Tryd.call32 args w) (fun w hw => (cloneints_t p n cap l w (hsl.kept hw.below) hn (by omega)).mono fun e w' ⟨q_, c_, Y_, he, hO, hb, hY⟩ => ⟨_, _, he, ⟨q_, c_, Y_, rfl, rfl, hO⟩, hw.join hb hY 4⟩) ?_
        rintro v590 L590 ⟨q590, cq590, Y590, rfl, rfl, hO590⟩
        refine od_ ?_
        refine tk (m := 7) [9] [] [3, 41, 43] [(47, .agg #[.int .i64 (j + 1 : Nat), .slice q590 n cq590])] ([]) #[false, true, true, true, false, true, true, true, true, true, false, false, false, false, false] al0 ?_
        exact wk (hmx32 (Y590, cq590, q590) hO590) [3, 41, 43, 47] [[_], [_], [_], [_], _, _, _, _] [0, 1, 2, 3, 4, 5, 6, 7] rfl rfl
      refine any_cutX (V := Unit) (fun _ => True) 9 #[true, true, true, true, false, true, false, true, false, false, false, false, false, false, false] (fun _ => [(2, .pointer (some ⟨gi, 0, none⟩)), (38, .pointer (some ⟨gb, 0, none⟩)), (41, .pointer (some ⟨gb, 0, none⟩)), (43, .int .i64 (j : Nat)), (45, .slice p n cap)]) (fun _ => bx (γ1 0) (#[.pointer (some ⟨gb, 0, none⟩)]) 56 :: bx gb (#[.slice q m capq]) 36 :: bx gm (#[.slice p n cap]) 27 :: bx gi (#[.int .i64 (j + 1 : Nat)]) 3 :: (Y ++ (Yi ++ (YR ++ [])))) ?_ (fun hmx17 => ?_)
      ·
       rintro _ _
       refine any_fork [4, 6, 8] (by kernel_rfl) (by simp) (each_cons _ rfl ?_ (each_cons _ rfl ?_ (each_cons _ rfl ?_ (each_nil))))
       ·
        refine qo0 1 [(4, .go (owns 1 0 1))] [2, 38, 43, 45] [(42, .slice q m capq)] ?_
        refine od_ ?_
        exact wk (hmx28 () trivial) [2, 38, 42, 43, 45] [[_], [_], [_], [_], _, _, _] [0, 1, 2, 3, 4, 5, 6] rfl rfl
       ·
        refine qo0 1 [(6, .go (owns 3 0 1))] [38, 41, 43, 45] [(44, .int .i64 (j + 1 : Nat))] ?_
        refine od_ ?_
        exact wk (hmx25 () trivial) [38, 41, 43, 44, 45] [[_], [_], [_], [_], _, _, _] [0, 1, 2, 3, 4, 5, 6] rfl rfl
       ·
        refine cP (fun v L' => ∃ q_ c_ Y_, v = .slice q_ n c_ ∧ L' = List.take 4 (bx (γ1 0) (#[.pointer (some ⟨gb, 0, none⟩)]) 56 :: bx gb (#[.slice q m capq]) 36 :: bx gm (#[.slice p n cap]) 27 :: bx gi (#[.int .i64 (j + 1 : Nat)]) 3 :: (Y ++ (Yi ++ (YR ++ [])))) ++ (Y_ ++ List.drop 4 (bx (γ1 0) (#[.pointer (some ⟨gb, 0, none⟩)]) 56 :: bx gb (#[.slice q m capq]) 36 :: bx gm (#[.slice p n cap]) 27 :: bx gi (#[.int .i64 (j + 1 : Nat)]) 3 :: (Y ++ (Yi ++ (YR ++ []))))) ∧ SlO 3 Y_ q_ n c_ l) (fun args w => Tryd.call32 args w) (fun w hw => (cloneints_t p n cap l w (hsl.kept hw.below) hn (by omega)).mono fun e w' ⟨q_, c_, Y_, he, hO, hb, hY⟩ => ⟨_, _, he, ⟨q_, c_, Y_, rfl, rfl, hO⟩, hw.join hb hY 4⟩) ?_
        rintro v590 L590 ⟨q590, cq590, Y590, rfl, rfl, hO590⟩
        refine od_ ?_
        exact wk (hmx26 (Y590, cq590, q590) hO590) [2, 38, 41, 43, 46] [[_], [_], [_], [_], _, _, _, _] [0, 1, 2, 3, 4, 5, 6, 7] rfl rfl
      refine any_cutX (V := Unit) (fun _ => True) 9 #[true, true, true, true, false, true, true, false, false, false, false, false, false, false, false] (fun _ => [(1, .pointer (some ⟨gm, 0, none⟩)), (38, .pointer (some ⟨gb, 0, none⟩)), (41, .pointer (some ⟨gb, 0, none⟩)), (43, .int .i64 (j : Nat)), (44, .int .i64 (j + 1 : Nat))]) (fun _ => bx (γ1 0) (#[.pointer (some ⟨gb, 0, none⟩)]) 56 :: bx gb (#[.slice q m capq]) 36 :: bx gm (#[.slice p n cap]) 27 :: bx gi (#[.int .i64 (j + 1 : Nat)]) 3 :: (Y ++ (Yi ++ (YR ++ [])))) ?_ (fun hmx16 => ?_)
      ·
       rintro _ _
       refine any_fork [4, 7] (by kernel_rfl) (by simp) (each_cons _ rfl ?_ (each_cons _ rfl ?_ (each_nil)))
       ·
        refine qo0 1 [(4, .go (owns 1 0 1))] [1, 38, 43, 44] [(42, .slice q m capq)] ?_
        refine od_ ?_
        exact wk (hmx27 () trivial) [1, 38, 42, 43, 44] [[_], [_], [_], [_], _, _, _] [0, 1, 2, 3, 4, 5, 6] rfl rfl
       ·
        refine qo0 1 [(7, .go (owns 2 0 1))] [38, 41, 43, 44] [(45, .slice p n cap)] ?_
        refine od_ ?_
        exact wk (hmx25 () trivial) [38, 41, 43, 44, 45] [[_], [_], [_], [_], _, _, _] [0, 1, 2, 3, 4, 5, 6] rfl rfl
      refine any_cutX (V := Unit) (fun _ => True) 10 #[false, true, true, true, true, true, false, false, false, false, false, false, false, false, false] (fun _ => [(1, .pointer (some ⟨gm, 0, none⟩)), (2, .pointer (some ⟨gi, 0, none⟩)), (3, .pointer (some ⟨γ1 0, 0, none⟩)), (42, .slice q m capq), (43, .int .i64 (j : Nat))]) (fun _ => bx (γ1 0) (#[.pointer (some ⟨gb, 0, none⟩)]) 56 :: bx gb (#[.slice q m capq]) 36 :: bx gm (#[.slice p n cap]) 27 :: bx gi (#[.int .i64 (j + 1 : Nat)]) 3 :: (Y ++ (Yi ++ (YR ++ [])))) ?_ (fun hmx15 => ?_)
      ·
       rintro _ _
       refine any_fork [0, 6, 7] (by kernel_rfl) (by simp) (each_cons _ rfl ?_ (each_cons _ rfl ?_ (each_cons _ rfl ?_ (each_nil))))
       ·
        refine qo0 1 [(0, .go (owns 0 0 1))] [1, 2, 42, 43] [(38, .pointer (some ⟨gb, 0, none⟩))] ?_
        refine od_ ?_
        exact wk (hmx21 () trivial) [1, 2, 38, 42, 43] [[_], [_], [_], [_], _, _, _] [0, 1, 2, 3, 4, 5, 6] rfl rfl
       ·
        refine qo0 1 [(6, .go (owns 3 0 1))] [1, 3, 42, 43] [(44, .int .i64 (j + 1 : Nat))] ?_
        refine od_ ?_
        exact wk (hmx22 () trivial) [1, 3, 42, 43, 44] [[_], [_], [_], [_], _, _, _] [0, 1, 2, 3, 4, 5, 6] rfl rfl
       ·
        refine qo0 1 [(7, .go (owns 2 0 1))] [2, 3, 42, 43] [(45, .slice p n cap)] ?_
        refine od_ ?_
        exact wk (hmx23 () trivial) [2, 3, 42, 43, 45] [[_], [_], [_], [_], _, _, _] [0, 1, 2, 3, 4, 5, 6] rfl rfl
      refine any_cutX (V := (List Ob) × (Nat) × (Option Addr)) (fun ⟨Y590, cq590, q590⟩ => SlO 3 Y590 q590 n cq590 l) 10 #[false, false, false, false, false, true, true, true, true, true, false, false, false, false, false] (fun ⟨Y590, cq590, q590⟩ => [(3, .pointer (some ⟨γ1 0, 0, none⟩)), (43, .int .i64 (j : Nat)), (47, .agg #[.int .i64 (j + 1 : Nat), .slice q590 n cq590])]) (fun ⟨Y590, cq590, q590⟩ => bx (γ1 0) (#[.pointer (some ⟨gb, 0, none⟩)]) 56 :: bx gb (#[.slice q m capq]) 36 :: bx gm (#[.slice p n cap]) 27 :: bx gi (#[.int .i64 (j + 1 : Nat)]) 3 :: (Y590 ++ (Y ++ (Yi ++ (YR ++ []))))) ?_ (fun hmx14 => ?_)
      ·
       rintro ⟨Y590, cq590, q590⟩ hO590
       refine any_fork [0, 1, 10] (by kernel_rfl) (by simp) (each_cons _ rfl ?_ (each_cons _ rfl ?_ (each_cons _ rfl ?_ (each_nil))))
       ·
        refine qo0 1 [(0, .go (owns 0 0 1))] [3, 43, 47] [(38, .pointer (some ⟨gb, 0, none⟩))] ?_
        refine od_ ?_
        exact wk (hmx20 (Y590, cq590, q590) hO590) [3, 38, 43, 47] [[_], [_], [_], [_], _, _, _, _] [0, 1, 2, 3, 4, 5, 6, 7] rfl rfl
       ·
        refine qo0 1 [(1, .go (owns 0 0 1))] [3, 43, 47] [(39, .pointer (some ⟨gb, 0, none⟩))] ?_
        refine od_ ?_
        refine tk (m := 7) [2, 3] [] [3, 43, 47] [(41, .pointer (some ⟨gb, 0, none⟩))] ([]) #[false, true, true, true, false, true, true, true, true, true, false, false, false, false, false] al0 ?_
        exact wk (hmx32 (Y590, cq590, q590) hO590) [3, 41, 43, 47] [[_], [_], [_], [_], _, _, _, _] [0, 1, 2, 3, 4, 5, 6, 7] rfl rfl
       ·
        refine mo0 1 [] [3, 43] (fun γ630 => [(48, .slice (some ⟨γ630 0, 0, none⟩) 1 1)]) (fun γ630 L => bx (γ630 0) (#[.int .i64 (j + 1 : Nat), .slice q590 n cq590]) 62 :: L) (fun γ630 => ?_)
        refine od_ ?_
        exact wk (hmx24 (Y590, cq590, q590, γ630) hO590) [3, 43, 48] [[_], [_], [_], [_], [_], _, _, _, _] [0, 1, 2, 3, 4, 5, 6, 7, 8] rfl rfl
      refine any_cutX (V := Unit) (fun _ => True) 10 #[false, true, true, true, false, true, false, true, false, false, false, false, false, false, false] (fun _ => [(2, .pointer (some ⟨gi, 0, none⟩)), (3, .pointer (some ⟨γ1 0, 0, none⟩)), (41, .pointer (some ⟨gb, 0, none⟩)), (43, .int .i64 (j : Nat)), (45, .slice p n cap)]) (fun _ => bx (γ1 0) (#[.pointer (some ⟨gb, 0, none⟩)]) 56 :: bx gb (#[.slice q m capq]) 36 :: bx gm (#[.slice p n cap]) 27 :: bx gi (#[.int .i64 (j + 1 : Nat)]) 3 :: (Y ++ (Yi ++ (YR ++ [])))) ?_ (fun hmx13 => ?_)
      ·
       rintro _ _
       refine any_fork [0, 4, 6, 8] (by kernel_rfl) (by simp) (each_cons _ rfl ?_ (each_cons _ rfl ?_ (each_cons _ rfl ?_ (each_cons _ rfl ?_ (each_nil)))))
       ·
        refine qo0 1 [(0, .go (owns 0 0 1))] [2, 41, 43, 45] [(38, .pointer (some ⟨gb, 0, none⟩))] ?_
        refine od_ ?_
        exact wk (hmx17 () trivial) [2, 38, 41, 43, 45] [[_], [_], [_], [_], _, _, _] [0, 1, 2, 3, 4, 5, 6] rfl rfl
       ·
        refine qo0 1 [(4, .go (owns 1 0 1))] [2, 3, 43, 45] [(42, .slice q m capq)] ?_
        refine od_ ?_
        exact wk (hmx23 () trivial) [2, 3, 42, 43, 45] [[_], [_], [_], [_], _, _, _] [0, 1, 2, 3, 4, 5, 6] rfl rfl
       ·
        refine qo0 1 [(6, .go (owns 3 0 1))] [3, 41, 43, 45] [(44, .int .i64 (j + 1 : Nat))] ?_
        refine od_ ?_
        exact wk (hmx18 () trivial) [3, 41, 43, 44, 45] [[_], [_], [_], [_], _, _, _] [0, 1, 2, 3, 4, 5, 6] rfl rfl
       ·
        refine cP (fun v L' => ∃ q_ c_ Y_, v = .slice q_ n c_ ∧ L' = List.take 4 (bx (γ1 0) (#[.pointer (some ⟨gb, 0, none⟩)]) 56 :: bx gb (#[.slice q m capq]) 36 :: bx gm (#[.slice p n cap]) 27 :: bx gi (#[.int .i64 (j + 1 : Nat)]) 3 :: (Y ++ (Yi ++ (YR ++ [])))) ++ (Y_ ++ List.drop 4 (bx (γ1 0) (#[.pointer (some ⟨gb, 0, none⟩)]) 56 :: bx gb (#[.slice q m capq]) 36 :: bx gm (#[.slice p n cap]) 27 :: bx gi (#[.int .i64 (j + 1 : Nat)]) 3 :: (Y ++ (Yi ++ (YR ++ []))))) ∧ SlO 3 Y_ q_ n c_ l) (fun args w => Tryd.call32 args w) (fun w hw => (cloneints_t p n cap l w (hsl.kept hw.below) hn (by omega)).mono fun e w' ⟨q_, c_, Y_, he, hO, hb, hY⟩ => ⟨_, _, he, ⟨q_, c_, Y_, rfl, rfl, hO⟩, hw.join hb hY 4⟩) ?_
        rintro v590 L590 ⟨q590, cq590, Y590, rfl, rfl, hO590⟩
        refine od_ ?_
        exact wk (hmx19 (Y590, cq590, q590) hO590) [2, 3, 41, 43, 46] [[_], [_], [_], [_], _, _, _, _] [0, 1, 2, 3, 4, 5, 6, 7] rfl rfl
      refine any_cutX (V := Unit) (fun _ => True) 10 #[false, true, true, true, false, true, true, false, false, false, false, false, false, false, false] (fun _ => [(1, .pointer (some ⟨gm, 0, none⟩)), (3, .pointer (some ⟨γ1 0, 0, none⟩)), (41, .pointer (some ⟨gb, 0, none⟩)), (43, .int .i64 (j : Nat)), (44, .int .i64 (j + 1 : Nat))]) (fun _ => bx (γ1 0) (#[.pointer (some ⟨gb, 0, none⟩)]) 56 :: bx gb (#[.slice q m capq]) 36 :: bx gm (#[.slice p n cap]) 27 :: bx gi (#[.int .i64 (j + 1 : Nat)]) 3 :: (Y ++ (Yi ++ (YR ++ [])))) ?_ (fun hmx12 => ?_)
      ·
       rintro _ _
       refine any_fork [0, 4, 7] (by kernel_rfl) (by simp) (each_cons _ rfl ?_ (each_cons _ rfl ?_ (each_cons _ rfl ?_ (each_nil))))
       ·
        refine qo0 1 [(0, .go (owns 0 0 1))] [1, 41, 43, 44] [(38, .pointer (some ⟨gb, 0, none⟩))] ?_
        refine od_ ?_
        exact wk (hmx16 () trivial) [1, 38, 41, 43, 44] [[_], [_], [_], [_], _, _, _] [0, 1, 2, 3, 4, 5, 6] rfl rfl
       ·
        refine qo0 1 [(4, .go (owns 1 0 1))] [1, 3, 43, 44] [(42, .slice q m capq)] ?_
        refine od_ ?_
        exact wk (hmx22 () trivial) [1, 3, 42, 43, 44] [[_], [_], [_], [_], _, _, _] [0, 1, 2, 3, 4, 5, 6] rfl rfl
       ·
        refine qo0 1 [(7, .go (owns 2 0 1))] [3, 41, 43, 44] [(45, .slice p n cap)] ?_
        refine od_ ?_
        exact wk (hmx18 () trivial) [3, 41, 43, 44, 45] [[_], [_], [_], [_], _, _, _] [0, 1, 2, 3, 4, 5, 6] rfl rfl
      refine any_cutX (V := Unit) (fun _ => True) 10 #[true, true, true, true, false, true, false, false, false, false, false, false, false, false, false] (fun _ => [(1, .pointer (some ⟨gm, 0, none⟩)), (2, .pointer (some ⟨gi, 0, none⟩)), (38, .pointer (some ⟨gb, 0, none⟩)), (41, .pointer (some ⟨gb, 0, none⟩)), (43, .int .i64 (j : Nat))]) (fun _ => bx (γ1 0) (#[.pointer (some ⟨gb, 0, none⟩)]) 56 :: bx gb (#[.slice q m capq]) 36 :: bx gm (#[.slice p n cap]) 27 :: bx gi (#[.int .i64 (j + 1 : Nat)]) 3 :: (Y ++ (Yi ++ (YR ++ [])))) ?_ (fun hmx11 => ?_)
      ·
       rintro _ _
       refine any_fork [4, 6, 7] (by kernel_rfl) (by simp) (each_cons _ rfl ?_ (each_cons _ rfl ?_ (each_cons _ rfl ?_ (each_nil))))
       ·
        refine qo0 1 [(4, .go (owns 1 0 1))] [1, 2, 38, 43] [(42, .slice q m capq)] ?_
        refine od_ ?_
        exact wk (hmx21 () trivial) [1, 2, 38, 42, 43] [[_], [_], [_], [_], _, _, _] [0, 1, 2, 3, 4, 5, 6] rfl rfl
       ·
        refine qo0 1 [(6, .go (owns 3 0 1))] [1, 38, 41, 43] [(44, .int .i64 (j + 1 : Nat))] ?_
        refine od_ ?_
        exact wk (hmx16 () trivial) [1, 38, 41, 43, 44] [[_], [_], [_], [_], _, _, _] [0, 1, 2, 3, 4, 5, 6] rfl rfl
       ·
        refine qo0 1 [(7, .go (owns 2 0 1))] [2, 38, 41, 43] [(45, .slice p n cap)] ?_
        refine od_ ?_
        exact wk (hmx17 () trivial) [2, 38, 41, 43, 45] [[_], [_], [_], [_], _, _, _] [0, 1, 2, 3, 4, 5, 6] rfl rfl
      refine any_cutX (V := (List Ob) × (Nat) × (Option Addr)) (fun ⟨Y590, cq590, q590⟩ => SlO 3 Y590 q590 n cq590 l) 11 #[true, false, false, false, false, true, false, true, true, false, false, false, false, false, false] (fun ⟨Y590, cq590, q590⟩ => [(2, .pointer (some ⟨gi, 0, none⟩)), (3, .pointer (some ⟨γ1 0, 0, none⟩)), (38, .pointer (some ⟨gb, 0, none⟩)), (43, .int .i64 (j : Nat)), (46, .slice q590 n cq590)]) (fun ⟨Y590, cq590, q590⟩ => bx (γ1 0) (#[.pointer (some ⟨gb, 0, none⟩)]) 56 :: bx gb (#[.slice q m capq]) 36 :: bx gm (#[.slice p n cap]) 27 :: bx gi (#[.int .i64 (j + 1 : Nat)]) 3 :: (Y590 ++ (Y ++ (Yi ++ (YR ++ []))))) ?_ (fun hmx10 => ?_)
      ·
       rintro ⟨Y590, cq590, q590⟩ hO590
       refine any_fork [1, 6] (by kernel_rfl) (by simp) (each_cons _ rfl ?_ (each_cons _ rfl ?_ (each_nil)))
       ·
        refine qo0 1 [(1, .go (owns 0 0 1))] [2, 38, 43, 46] [(39, .pointer (some ⟨gb, 0, none⟩))] ?_
        refine od_ ?_
        refine tk (m := 8) [2, 3] [] [2, 38, 43, 46] [(41, .pointer (some ⟨gb, 0, none⟩))] ([]) #[true, true, true, true, false, true, false, true, true, false, false, false, false, false, false] al0 ?_
        exact wk (hmx26 (Y590, cq590, q590) hO590) [2, 38, 41, 43, 46] [[_], [_], [_], [_], _, _, _, _] [0, 1, 2, 3, 4, 5, 6, 7] rfl rfl
       ·
        refine qo0 1 [(6, .go (owns 3 0 1))] [3, 38, 43, 46] [(44, .int .i64 (j + 1 : Nat))] ?_
        refine od_ ?_
        refine tk (m := 9) [9] [] [3, 38, 43] [(47, .agg #[.int .i64 (j + 1 : Nat), .slice q590 n cq590])] ([]) #[true, false, false, false, false, true, true, true, true, true, false, false, false, false, false] al0 ?_
        exact wk (hmx20 (Y590, cq590, q590) hO590) [3, 38, 43, 47] [[_], [_], [_], [_], _, _, _, _] [0, 1, 2, 3, 4, 5, 6, 7] rfl rfl
      refine any_cutX (V := Unit) (fun _ => True) 11 #[true, false, false, false, false, true, true, true, false, false, false, false, false, false, false] (fun _ => [(3, .pointer (some ⟨γ1 0, 0, none⟩)), (38, .pointer (some ⟨gb, 0, none⟩)), (43, .int .i64 (j : Nat)), (44, .int .i64 (j + 1 : Nat)), (45, .slice p n cap)]) (fun _ => bx (γ1 0) (#[.pointer (some ⟨gb, 0, none⟩)]) 56 :: bx gb (#[.slice q m capq]) 36 :: bx gm (#[.slice p n cap]) 27 :: bx gi (#[.int .i64 (j + 1 : Nat)]) 3 :: (Y ++ (Yi ++ (YR ++ [])))) ?_ (fun hmx9 => ?_)
      ·
       rintro _ _
       refine any_fork [1, 8] (by kernel_rfl) (by simp) (each_cons _ rfl ?_ (each_cons _ rfl ?_ (each_nil)))
       ·
        refine qo0 1 [(1, .go (owns 0 0 1))] [38, 43, 44, 45] [(39, .pointer (some ⟨gb, 0, none⟩))] ?_
        refine od_ ?_
        refine tk (m := 8) [2, 3] [] [38, 43, 44, 45] [(41, .pointer (some ⟨gb, 0, none⟩))] ([]) #[true, true, true, true, false, true, true, true, false, false, false, false, false, false, false] al0 ?_
        exact wk (hmx25 () trivial) [38, 41, 43, 44, 45] [[_], [_], [_], [_], _, _, _] [0, 1, 2, 3, 4, 5, 6] rfl rfl
       ·
        refine cP (fun v L' => ∃ q_ c_ Y_, v = .slice q_ n c_ ∧ L' = List.take 4 (bx (γ1 0) (#[.pointer (some ⟨gb, 0, none⟩)]) 56 :: bx gb (#[.slice q m capq]) 36 :: bx gm (#[.slice p n cap]) 27 :: bx gi (#[.int .i64 (j + 1 : Nat)]) 3 :: (Y ++ (Yi ++ (YR ++ [])))) ++ (Y_ ++ List.drop 4 (bx (γ1 0) (#[.pointer (some ⟨gb, 0, none⟩)]) 56 :: bx gb (#[.slice q m capq]) 36 :: bx gm (#[.slice p n cap]) 27 :: bx gi (#[.int .i64 (j + 1 : Nat)]) 3 :: (Y ++ (Yi ++ (YR ++ []))))) ∧ SlO 3 Y_ q_ n c_ l) (fun args w => Tryd.call32 args w) (fun w hw => (cloneints_t p n cap l w (hsl.kept hw.below) hn (by omega)).mono fun e w' ⟨q_, c_, Y_, he, hO, hb, hY⟩ => ⟨_, _, he, ⟨q_, c_, Y_, rfl, rfl, hO⟩, hw.join hb hY 4⟩) ?_
        rintro v590 L590 ⟨q590, cq590, Y590, rfl, rfl, hO590⟩
        refine od_ ?_
        refine tk (m := 9) [9] [] [3, 38, 43] [(47, .agg #[.int .i64 (j + 1 : Nat), .slice q590 n cq590])] ([]) #[true, false, false, false, false, true, true, true, true, true, false, false, false, false, false] al0 ?_
        exact wk (hmx20 (Y590, cq590, q590) hO590) [3, 38, 43, 47] [[_], [_], [_], [_], _, _, _, _] [0, 1, 2, 3, 4, 5, 6, 7] rfl rfl
      refine any_cutX (V := Unit) (fun _ => True) 11 #[false, true, true, true, false, true, false, false, false, false, false, false, false, false, false] (fun _ => [(1, .pointer (some ⟨gm, 0, none⟩)), (2, .pointer (some ⟨gi, 0, none⟩)), (3, .pointer (some ⟨γ1 0, 0, none⟩)), (41, .pointer (some ⟨gb, 0, none⟩)), (43, .int .i64 (j : Nat))]) (fun _ => bx (γ1 0) (#[.pointer (some ⟨gb, 0, none⟩)]) 56 :: bx gb (#[.slice q m capq]) 36 :: bx gm (#[.slice p n cap]) 27 :: bx gi (#[.int .i64 (j + 1 : Nat)]) 3 :: (Y ++ (Yi ++ (YR ++ [])))) ?_ (fun hmx8 => ?_)
      ·
       rintro _ _
       refine any_fork [0, 4, 6, 7] (by kernel_rfl) (by simp) (each_cons _ rfl ?_ (each_cons _ rfl ?_ (each_cons _ rfl ?_ (each_cons _ rfl ?_ (each_nil)))))
       ·
        refine qo0 1 [(0, .go (owns 0 0 1))] [1, 2, 41, 43] [(38, .pointer (some ⟨gb, 0, none⟩))] ?_
        refine od_ ?_
        exact wk (hmx11 () trivial) [1, 2, 38, 41, 43] [[_], [_], [_], [_], _, _, _] [0, 1, 2, 3, 4, 5, 6] rfl rfl
       ·
        refine qo0 1 [(4, .go (owns 1 0 1))] [1, 2, 3, 43] [(42, .slice q m capq)] ?_
        refine od_ ?_
        exact wk (hmx15 () trivial) [1, 2, 3, 42, 43] [[_], [_], [_], [_], _, _, _] [0, 1, 2, 3, 4, 5, 6] rfl rfl
       ·
        refine qo0 1 [(6, .go (owns 3 0 1))] [1, 3, 41, 43] [(44, .int .i64 (j + 1 : Nat))] ?_
        refine od_ ?_
        exact wk (hmx12 () trivial) [1, 3, 41, 43, 44] [[_], [_], [_], [_], _, _, _] [0, 1, 2, 3, 4, 5, 6] rfl rfl
       ·
        refine qo0 1 [(7, .go (owns 2 0 1))] [2, 3, 41, 43] [(45, .slice p n cap)] ?_
        refine od_ ?_
        exact wk (hmx13 () trivial) [2, 3, 41, 43, 45] [[_], [_], [_], [_], _, _, _] [0, 1, 2, 3, 4, 5, 6] rfl rfl
      refine any_cutX (V := (List Ob) × (Nat) × (Option Addr)) (fun ⟨Y590, cq590, q590⟩ => SlO 3 Y590 q590 n cq590 l) 12 #[false, false, false, false, false, true, false, true, true, false, false, false, false, false, false] (fun ⟨Y590, cq590, q590⟩ => [(2, .pointer (some ⟨gi, 0, none⟩)), (3, .pointer (some ⟨γ1 0, 0, none⟩)), (43, .int .i64 (j : Nat)), (46, .slice q590 n cq590)]) (fun ⟨Y590, cq590, q590⟩ => bx (γ1 0) (#[.pointer (some ⟨gb, 0, none⟩)]) 56 :: bx gb (#[.slice q m capq]) 36 :: bx gm (#[.slice p n cap]) 27 :: bx gi (#[.int .i64 (j + 1 : Nat)]) 3 :: (Y590 ++ (Y ++ (Yi ++ (YR ++ []))))) ?_ (fun hmx7 => ?_)
      ·
       rintro ⟨Y590, cq590, q590⟩ hO590
       refine any_fork [0, 1, 6] (by kernel_rfl) (by simp) (each_cons _ rfl ?_ (each_cons _ rfl ?_ (each_cons _ rfl ?_ (each_nil))))
       ·
        refine qo0 1 [(0, .go (owns 0 0 1))] [2, 3, 43, 46] [(38, .pointer (some ⟨gb, 0, none⟩))] ?_
        refine od_ ?_
        exact wk (hmx10 (Y590, cq590, q590) hO590) [2, 3, 38, 43, 46] [[_], [_], [_], [_], _, _, _, _] [0, 1, 2, 3, 4, 5, 6, 7] rfl rfl
       ·
        refine qo0 1 [(1, .go (owns 0 0 1))] [2, 3, 43, 46] [(39, .pointer (some ⟨gb, 0, none⟩))] ?_
        refine od_ ?_
        refine tk (m := 9) [2, 3] [] [2, 3, 43, 46] [(41, .pointer (some ⟨gb, 0, none⟩))] ([]) #[false, true, true, true, false, true, false, true, true, false, false, false, false, false, false] al0 ?_
        exact wk (hmx19 (Y590, cq590, q590) hO590) [2, 3, 41, 43, 46] [[_], [_], [_], [_], _, _, _, _] [0, 1, 2, 3, 4, 5, 6, 7] rfl rfl
       ·
        refine qo0 1 [(6, .go (owns 3 0 1))] [3, 43, 46] [(44, .int .i64 (j + 1 : Nat))] ?_
        refine od_ ?_
        refine tk (m := 10) [9] [] [3, 43] [(47, .agg #[.int .i64 (j + 1 : Nat), .slice q590 n cq590])] ([]) #[false, false, false, false, false, true, true, true, true, true, false, false, false, false, false] al0 ?_
        exact wk (hmx14 (Y590, cq590, q590) hO590) [3, 43, 47] [[_], [_], [_], [_], _, _, _, _] [0, 1, 2, 3, 4, 5, 6, 7] rfl rfl
      refine any_cutX (V := Unit) (fun _ => True) 12 #[false, false, false, false, false, true, true, true, false, false, false, false, false, false, false] (fun _ => [(3, .pointer (some ⟨γ1 0, 0, none⟩)), (43, .int .i64 (j : Nat)), (44, .int .i64 (j + 1 : Nat)), (45, .slice p n cap)]) (fun _ => bx (γ1 0) (#[.pointer (some ⟨gb, 0, none⟩)]) 56 :: bx gb (#[.slice q m capq]) 36 :: bx gm (#[.slice p n cap]) 27 :: bx gi (#[.int .i64 (j + 1 : Nat)]) 3 :: (Y ++ (Yi ++ (YR ++ [])))) ?_ (fun hmx6 => ?_)
      ·
       rintro _ _
       refine any_fork [0, 1, 8] (by kernel_rfl) (by simp) (each_cons _ rfl ?_ (each_cons _ rfl ?_ (each_cons _ rfl ?_ (each_nil))))
       ·
        refine qo0 1 [(0, .go (owns 0 0 1))] [3, 43, 44, 45] [(38, .pointer (some ⟨gb, 0, none⟩))] ?_
        refine od_ ?_
        exact wk (hmx9 () trivial) [3, 38, 43, 44, 45] [[_], [_], [_], [_], _, _, _] [0, 1, 2, 3, 4, 5, 6] rfl rfl
       ·
        refine qo0 1 [(1, .go (owns 0 0 1))] [3, 43, 44, 45] [(39, .pointer (some ⟨gb, 0, none⟩))] ?_
        refine od_ ?_
        refine tk (m := 9) [2, 3] [] [3, 43, 44, 45] [(41, .pointer (some ⟨gb, 0, none⟩))] ([]) #[false, true, true, true, false, true, true, true, false, false, false, false, false, false, false] al0 ?_
        exact wk (hmx18 () trivial) [3, 41, 43, 44, 45] [[_], [_], [_], [_], _, _, _] [0, 1, 2, 3, 4, 5, 6] rfl rfl
       ·
        refine cP (fun v L' => ∃ q_ c_ Y_, v = .slice q_ n c_ ∧ L' = List.take 4 (bx (γ1 0) (#[.pointer (some ⟨gb, 0, none⟩)]) 56 :: bx gb (#[.slice q m capq]) 36 :: bx gm (#[.slice p n cap]) 27 :: bx gi (#[.int .i64 (j + 1 : Nat)]) 3 :: (Y ++ (Yi ++ (YR ++ [])))) ++ (Y_ ++ List.drop 4 (bx (γ1 0) (#[.pointer (some ⟨gb, 0, none⟩)]) 56 :: bx gb (#[.slice q m capq]) 36 :: bx gm (#[.slice p n cap]) 27 :: bx gi (#[.int .i64 (j + 1 : Nat)]) 3 :: (Y ++ (Yi ++ (YR ++ []))))) ∧ SlO 3 Y_ q_ n c_ l) (fun args w => Tryd.call32 args w) (fun w hw => (cloneints_t p n cap l w (hsl.kept hw.below) hn (by omega)).mono fun e w' ⟨q_, c_, Y_, he, hO, hb, hY⟩ => ⟨_, _, he, ⟨q_, c_, Y_, rfl, rfl, hO⟩, hw.join hb hY 4⟩) ?_
        rintro v590 L590 ⟨q590, cq590, Y590, rfl, rfl, hO590⟩
        refine od_ ?_
        refine tk (m := 10) [9] [] [3, 43] [(47, .agg #[.int .i64 (j + 1 : Nat), .slice q590 n cq590])] ([]) #[false, false, false, false, false, true, true, true, true, true, false, false, false, false, false] al0 ?_
        exact wk (hmx14 (Y590, cq590, q590) hO590) [3, 43, 47] [[_], [_], [_], [_], _, _, _, _] [0, 1, 2, 3, 4, 5, 6, 7] rfl rfl
      refine any_cutX (V := Unit) (fun _ => True) 12 #[true, false, false, false, false, true, false, true, false, false, false, false, false, false, false] (fun _ => [(2, .pointer (some ⟨gi, 0, none⟩)), (3, .pointer (some ⟨γ1 0, 0, none⟩)), (38, .pointer (some ⟨gb, 0, none⟩)), (43, .int .i64 (j : Nat)), (45, .slice p n cap)]) (fun _ => bx (γ1 0) (#[.pointer (some ⟨gb, 0, none⟩)]) 56 :: bx gb (#[.slice q m capq]) 36 :: bx gm (#[.slice p n cap]) 27 :: bx gi (#[.int .i64 (j + 1 : Nat)]) 3 :: (Y ++ (Yi ++ (YR ++ [])))) ?_ (fun hmx5 => ?_)
      ·
       rintro _ _
       refine any_fork [1, 6, 8] (by kernel_rfl) (by simp) (each_cons _ rfl ?_ (each_cons _ rfl ?_ (each_cons _ rfl ?_ (each_nil))))
       ·
        refine qo0 1 [(1, .go (owns 0 0 1))] [2, 38, 43, 45] [(39, .pointer (some ⟨gb, 0, none⟩))] ?_
        refine od_ ?_
        refine tk (m := 9) [2, 3] [] [2, 38, 43, 45] [(41, .pointer (some ⟨gb, 0, none⟩))] ([]) #[true, true, true, true, false, true, false, true, false, false, false, false, false, false, false] al0 ?_
        exact wk (hmx17 () trivial) [2, 38, 41, 43, 45] [[_], [_], [_], [_], _, _, _] [0, 1, 2, 3, 4, 5, 6] rfl rfl
       ·
        refine qo0 1 [(6, .go (owns 3 0 1))] [3, 38, 43, 45] [(44, .int .i64 (j + 1 : Nat))] ?_
        refine od_ ?_
        exact wk (hmx9 () trivial) [3, 38, 43, 44, 45] [[_], [_], [_], [_], _, _, _] [0, 1, 2, 3, 4, 5, 6] rfl rfl
       ·
        refine cP (fun v L' => ∃ q_ c_ Y_, v = .slice q_ n c_ ∧ L' = List.take 4 (bx (γ1 0) (#[.pointer (some ⟨gb, 0, none⟩)]) 56 :: bx gb (#[.slice q m capq]) 36 :: bx gm (#[.slice p n cap]) 27 :: bx gi (#[.int .i64 (j + 1 : Nat)]) 3 :: (Y ++ (Yi ++ (YR ++ [])))) ++ (Y_ ++ List.drop 4 (bx (γ1 0) (#[.pointer (some ⟨gb, 0, none⟩)]) 56 :: bx gb (#[.slice q m capq]) 36 :: bx gm (#[.slice p n cap]) 27 :: bx gi (#[.int .i64 (j + 1 : Nat)]) 3 :: (Y ++ (Yi ++ (YR ++ []))))) ∧ SlO 3 Y_ q_ n c_ l) (fun args w => Tryd.call32 args w) (fun w hw => (cloneints_t p n cap l w (hsl.kept hw.below) hn (by omega)).mono fun e w' ⟨q_, c_, Y_, he, hO, hb, hY⟩ => ⟨_, _, he, ⟨q_, c_, Y_, rfl, rfl, hO⟩, hw.join hb hY 4⟩) ?_
        rintro v590 L590 ⟨q590, cq590, Y590, rfl, rfl, hO590⟩
        refine od_ ?_
        exact wk (hmx10 (Y590, cq590, q590) hO590) [2, 3, 38, 43, 46] [[_], [_], [_], [_], _, _, _, _] [0, 1, 2, 3, 4, 5, 6, 7] rfl rfl
      refine any_cutX (V := Unit) (fun _ => True) 12 #[true, false, false, false, false, true, true, false, false, false, false, false, false, false, false] (fun _ => [(1, .pointer (some ⟨gm, 0, none⟩)), (3, .pointer (some ⟨γ1 0, 0, none⟩)), (38, .pointer (some ⟨gb, 0, none⟩)), (43, .int .i64 (j : Nat)), (44, .int .i64 (j + 1 : Nat))]) (fun _ => bx (γ1 0) (#[.pointer (some ⟨gb, 0, none⟩)]) 56 :: bx gb (#[.slice q m capq]) 36 :: bx gm (#[.slice p n cap]) 27 :: bx gi (#[.int .i64 (j + 1 : Nat)]) 3 :: (Y ++ (Yi ++ (YR ++ [])))) ?_ (fun hmx4 => ?_)
      ·
       rintro _ _
       refine any_fork [1, 7] (by kernel_rfl) (by simp) (each_cons _ rfl ?_ (each_cons _ rfl ?_ (each_nil)))
       ·
        refine qo0 1 [(1, .go (owns 0 0 1))] [1, 38, 43, 44] [(39, .pointer (some ⟨gb, 0, none⟩))] ?_
        refine od_ ?_
        refine tk (m := 9) [2, 3] [] [1, 38, 43, 44] [(41, .pointer (some ⟨gb, 0, none⟩))] ([]) #[true, true, true, true, false, true, true, false, false, false, false, false, false, false, false] al0 ?_
        exact wk (hmx16 () trivial) [1, 38, 41, 43, 44] [[_], [_], [_], [_], _, _, _] [0, 1, 2, 3, 4, 5, 6] rfl rfl
       ·
        refine qo0 1 [(7, .go (owns 2 0 1))] [3, 38, 43, 44] [(45, .slice p n cap)] ?_
        refine od_ ?_
        exact wk (hmx9 () trivial) [3, 38, 43, 44, 45] [[_], [_], [_], [_], _, _, _] [0, 1, 2, 3, 4, 5, 6] rfl rfl
      refine any_cutX (V := Unit) (fun _ => True) 13 #[false, false, false, false, false, true, false, true, false, false, false, false, false, false, false] (fun _ => [(2, .pointer (some ⟨gi, 0, none⟩)), (3, .pointer (some ⟨γ1 0, 0, none⟩)), (43, .int .i64 (j : Nat)), (45, .slice p n cap)]) (fun _ => bx (γ1 0) (#[.pointer (some ⟨gb, 0, none⟩)]) 56 :: bx gb (#[.slice q m capq]) 36 :: bx gm (#[.slice p n cap]) 27 :: bx gi (#[.int .i64 (j + 1 : Nat)]) 3 :: (Y ++ (Yi ++ (YR ++ [])))) ?_ (fun hmx3 => ?_)
      ·
       rintro _ _
       refine any_fork [0, 1, 6, 8] (by kernel_rfl) (by simp) (each_cons _ rfl ?_ (each_cons _ rfl ?_ (each_cons _ rfl ?_ (each_cons _ rfl ?_ (each_nil)))))
       ·
        refine qo0 1 [(0, .go (owns 0 0 1))] [2, 3, 43, 45] [(38, .pointer (some ⟨gb, 0, none⟩))] ?_
        refine od_ ?_
        exact wk (hmx5 () trivial) [2, 3, 38, 43, 45] [[_], [_], [_], [_], _, _, _] [0, 1, 2, 3, 4, 5, 6] rfl rfl
       ·
        refine qo0 1 [(1, .go (owns 0 0 1))] [2, 3, 43, 45] [(39, .pointer (some ⟨gb, 0, none⟩))] ?_
        refine od_ ?_
        refine tk (m := 10) [2, 3] [] [2, 3, 43, 45] [(41, .pointer (some ⟨gb, 0, none⟩))] ([]) #[false, true, true, true, false, true, false, true, false, false, false, false, false, false, false] al0 ?_
        exact wk (hmx13 () trivial) [2, 3, 41, 43, 45] [[_], [_], [_], [_], _, _, _] [0, 1, 2, 3, 4, 5, 6] rfl rfl
       ·
        refine qo0 1 [(6, .go (owns 3 0 1))] [3, 43, 45] [(44, .int .i64 (j + 1 : Nat))] ?_
        refine od_ ?_
        exact wk (hmx6 () trivial) [3, 43, 44, 45] [[_], [_], [_], [_], _, _, _] [0, 1, 2, 3, 4, 5, 6] rfl rfl
       ·
        refine cP (fun v L' => ∃ q_ c_ Y_, v = .slice q_ n c_ ∧ L' = List.take 4 (bx (γ1 0) (#[.pointer (some ⟨gb, 0, none⟩)]) 56 :: bx gb (#[.slice q m capq]) 36 :: bx gm (#[.slice p n cap]) 27 :: bx gi (#[.int .i64 (j + 1 : Nat)]) 3 :: (Y ++ (Yi ++ (YR ++ [])))) ++ (Y_ ++ List.drop 4 (bx (γ1 0) (#[.pointer (some ⟨gb, 0, none⟩)]) 56 :: bx gb (#[.slice q m capq]) 36 :: bx gm (#[.slice p n cap]) 27 :: bx gi (#[.int .i64 (j + 1 : Nat)]) 3 :: (Y ++ (Yi ++ (YR ++ []))))) ∧ SlO 3 Y_ q_ n c_ l) (fun args w => Tryd.call32 args w) (fun w hw => (cloneints_t p n cap l w (hsl.kept hw.below) hn (by omega)).mono fun e w' ⟨q_, c_, Y_, he, hO, hb, hY⟩ => ⟨_, _, he, ⟨q_, c_, Y_, rfl, rfl, hO⟩, hw.join hb hY 4⟩) ?_
        rintro v590 L590 ⟨q590, cq590, Y590, rfl, rfl, hO590⟩
        refine od_ ?_
        exact wk (hmx7 (Y590, cq590, q590) hO590) [2, 3, 43, 46] [[_], [_], [_], [_], _, _, _, _] [0, 1, 2, 3, 4, 5, 6, 7] rfl rfl
      refine any_cutX (V := Unit) (fun _ => True) 13 #[false, false, false, false, false, true, true, false, false, false, false, false, false, false, false] (fun _ => [(1, .pointer (some ⟨gm, 0, none⟩)), (3, .pointer (some ⟨γ1 0, 0, none⟩)), (43, .int .i64 (j : Nat)), (44, .int .i64 (j + 1 : Nat))]) (fun _ => bx (γ1 0) (#[.pointer (some ⟨gb, 0, none⟩)]) 56 :: bx gb (#[.slice q m capq]) 36 :: bx gm (#[.slice p n cap]) 27 :: bx gi (#[.int .i64 (j + 1 : Nat)]) 3 :: (Y ++ (Yi ++ (YR ++ [])))) ?_ (fun hmx2 => ?_)
      ·
       rintro _ _
       refine any_fork [0, 1, 7] (by kernel_rfl) (by simp) (each_cons _ rfl ?_ (each_cons _ rfl ?_ (each_cons _ rfl ?_ (each_nil))))
       ·
        refine qo0 1 [(0, .go (owns 0 0 1))] [1, 3, 43, 44] [(38, .pointer (some ⟨gb, 0, none⟩))] ?_
        refine od_ ?_
        exact wk (hmx4 () trivial) [1, 3, 38, 43, 44] [[_], [_], [_], [_], _, _, _] [0, 1, 2, 3, 4, 5, 6] rfl rfl
       ·
        refine qo0 1 [(1, .go (owns 0 0 1))] [1, 3, 43, 44] [(39, .pointer (some ⟨gb, 0, none⟩))] ?_
        refine od_ ?_
        refine tk (m := 10) [2, 3] [] [1, 3, 43, 44] [(41, .pointer (some ⟨gb, 0, none⟩))] ([]) #[false, true, true, true, false, true, true, false, false, false, false, false, false, false, false] al0 ?_
        exact wk (hmx12 () trivial) [1, 3, 41, 43, 44] [[_], [_], [_], [_], _, _, _] [0, 1, 2, 3, 4, 5, 6] rfl rfl
       ·
        refine qo0 1 [(7, .go (owns 2 0 1))] [3, 43, 44] [(45, .slice p n cap)] ?_
        refine od_ ?_
        exact wk (hmx6 () trivial) [3, 43, 44, 45] [[_], [_], [_], [_], _, _, _] [0, 1, 2, 3, 4, 5, 6] rfl rfl
      refine any_cutX (V := Unit) (fun _ => True) 13 #[true, false, false, false, false, true, false, false, false, false, false, false, false, false, false] (fun _ => [(1, .pointer (some ⟨gm, 0, none⟩)), (2, .pointer (some ⟨gi, 0, none⟩)), (3, .pointer (some ⟨γ1 0, 0, none⟩)), (38, .pointer (some ⟨gb, 0, none⟩)), (43, .int .i64 (j : Nat))]) (fun _ => bx (γ1 0) (#[.pointer (some ⟨gb, 0, none⟩)]) 56 :: bx gb (#[.slice q m capq]) 36 :: bx gm (#[.slice p n cap]) 27 :: bx gi (#[.int .i64 (j + 1 : Nat)]) 3 :: (Y ++ (Yi ++ (YR ++ [])))) ?_ (fun hmx1 => ?_)
      ·
       rintro _ _
       refine any_fork [1, 6, 7] (by kernel_rfl) (by simp) (each_cons _ rfl ?_ (each_cons _ rfl ?_ (each_cons _ rfl ?_ (each_nil))))
       ·
        refine qo0 1 [(1, .go (owns 0 0 1))] [1, 2, 38, 43] [(39, .pointer (some ⟨gb, 0, none⟩))] ?_
        refine od_ ?_
        refine tk (m := 10) [2, 3] [] [1, 2, 38, 43] [(41, .pointer (some ⟨gb, 0, none⟩))] ([]) #[true, true, true, true, false, true, false, false, false, false, false, false, false, false, false] al0 ?_
        exact wk (hmx11 () trivial) [1, 2, 38, 41, 43] [[_], [_], [_], [_], _, _, _] [0, 1, 2, 3, 4, 5, 6] rfl rfl
       ·
        refine qo0 1 [(6, .go (owns 3 0 1))] [1, 3, 38, 43] [(44, .int .i64 (j + 1 : Nat))] ?_
        refine od_ ?_
        exact wk (hmx4 () trivial) [1, 3, 38, 43, 44] [[_], [_], [_], [_], _, _, _] [0, 1, 2, 3, 4, 5, 6] rfl rfl
       ·
        refine qo0 1 [(7, .go (owns 2 0 1))] [2, 3, 38, 43] [(45, .slice p n cap)] ?_
        refine od_ ?_
        exact wk (hmx5 () trivial) [2, 3, 38, 43, 45] [[_], [_], [_], [_], _, _, _] [0, 1, 2, 3, 4, 5, 6] rfl rfl
      refine any_fork [0, 1, 6, 7] (by kernel_rfl) (by simp) (each_cons _ rfl ?_ (each_cons _ rfl ?_ (each_cons _ rfl ?_ (each_cons _ rfl ?_ (each_nil)))))
      ·
       refine qo0 1 [(0, .go (owns 0 0 1))] [1, 2, 3, 43] [(38, .pointer (some ⟨gb, 0, none⟩))] ?_
       refine od_ ?_
       exact wk (hmx1 () trivial) [1, 2, 3, 38, 43] [[_], [_], [_], [_], _, _, _] [0, 1, 2, 3, 4, 5, 6] rfl rfl
      ·
       refine qo0 1 [(1, .go (owns 0 0 1))] [1, 2, 3, 43] [(39, .pointer (some ⟨gb, 0, none⟩))] ?_
       refine od_ ?_
       refine tk (m := 11) [2, 3] [] [1, 2, 3, 43] [(41, .pointer (some ⟨gb, 0, none⟩))] ([]) #[false, true, true, true, false, true, false, false, false, false, false, false, false, false, false] al0 ?_
       exact wk (hmx8 () trivial) [1, 2, 3, 41, 43] [[_], [_], [_], [_], _, _, _] [0, 1, 2, 3, 4, 5, 6] rfl rfl
      ·
       refine qo0 1 [(6, .go (owns 3 0 1))] [1, 3, 43] [(44, .int .i64 (j + 1 : Nat))] ?_
       refine od_ ?_
       exact wk (hmx2 () trivial) [1, 3, 43, 44] [[_], [_], [_], [_], _, _, _] [0, 1, 2, 3, 4, 5, 6] rfl rfl
      ·
       refine qo0 1 [(7, .go (owns 2 0 1))] [2, 3, 43] [(45, .slice p n cap)] ?_
       refine od_ ?_
       exact wk (hmx3 () trivial) [2, 3, 43, 45] [[_], [_], [_], [_], _, _, _] [0, 1, 2, 3, 4, 5, 6] rfl rfl
     rintro ⟨Y590, Y650, cq590, cq650, q590, q650, γ630⟩ ⟨hO590, hO650⟩
     refine any_nil (by kernel_rfl) ?_
     refine ds_ (sq_ (qa0 [] [] [(4, .int .i64 0)] (ds_ (rt ([]) (.int .i64 0) ?_))))
     obtain ⟨Yq, hpq, hGq⟩ := GotG.ins (x := (⟨(j + 1 : Nat), q590, n, cq590, l⟩ : GngA)) hG hO590 (show j ≤ bl.length by omega)
     exact fun w' hw => ⟨_, _, _, _, _, Yq, (bl.take j ++ [(⟨(j + 1 : Nat), q590, n, cq590, l⟩ : GngA)] ++ bl.drop j), _, rfl, by rw [inG_val] at q8; rw [fc_ok q3 q8 hI (by omega), val_ins]; rfl, hO650, hGq, form_perm hpq (by have := Hs.pick [[bx (γ1 0) (#[.pointer (some ⟨gb, 0, none⟩)]) 56], [bx gb (#[.slice q650 (m + 1) cq650]) 36], [bx gm (#[.slice p n cap]) 27], [bx gi (#[.int .i64 (j + 1 : Nat)]) 3], Y590, Y650, Yi, YR] [1, 2, 3, 5, 6, 4, 7] [0] (by kernel_rfl) hw; simpa [chunk] using this)⟩
  ·
   refine cD (.bool true) (fun args w => Tryd.call28 args w) (fun w hw => by have := containsf_t _ (bx (γ1 0) (#[.pointer (some ⟨gb, 0, none⟩)]) 56 :: bx gb (#[.slice q m capq]) 36 :: bx gm (#[.slice p n cap]) 27 :: bx gi (#[.int .i64 0]) 3 :: (Y ++ (Yi ++ (YR ++ [])))) 29 #[.pointer (some ⟨γ1 0, 0, none⟩)] (inG bl) p n cap l w (fun args w => Tryd.call29 args w) hw (hsl.kept hw.below) hn (by omega) (fun x hx w' hX => form11_t q m capq bl (γ1 0) gb x w' (SlO.sub hO hX (List.Sublist.cons _ (List.Sublist.cons _ (List.Sublist.cons _ (List.Sublist.cons _ (List.sublist_append_left Y _)))))) hma (by omega) (GotG.reads hG hX (List.Sublist.cons _ (List.Sublist.cons _ (List.Sublist.cons _ (List.Sublist.cons _ (List.Sublist.trans (List.sublist_append_left Yi _) (List.sublist_append_right Y _))))))) hm9 (rd_one14 (hX.row 0 rfl)) (rd_one14 (hX.row 1 rfl))); rw [q8] at this; exact this) (on_ (ds_ (t_ (sq_ (qa0 [] [] [(4, .int .i64 5)] (ds_ (rt ([]) (.int .i64 5) ?_)))))))
   exact fun w' hw => ⟨_, _, _, _, _, _, bl, 0, rfl, by rw [inG_val] at q8; exact (fc_there q3 q8).symm, hO, hG, (by have := Hs.pick [[bx (γ1 0) (#[.pointer (some ⟨gb, 0, none⟩)]) 56], [bx gb (#[.slice q m capq]) 36], [bx gm (#[.slice p n cap]) 27], [bx gi (#[.int .i64 0]) 3], Y, Yi, YR] [1, 2, 3, 4, 5, 6] [0] (by kernel_rfl) hw; simpa [chunk] using this)⟩
end Go.Proofs.YtahccegfahghfaaDoor
