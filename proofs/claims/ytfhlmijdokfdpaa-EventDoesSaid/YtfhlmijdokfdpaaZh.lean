/- Texts of this proof, one behind the other. -/
import Derived.Test.YtfhlmijdokfdpaaZc
import Derived.Test.YtfhlmijdokfdpaaZd
/-! Chapter 16: what the rows' inputs are. -/
namespace Go.Proofs.Ytfhlmijdokfdpaa
open Go Go.RowKit Go.ChangeShapes Go.WideShapes

section
variable {H : Type} {enc : TypeId × Value → H} {w : World} {base : Nat} {spare : Nat → Bool} {held : Bool}
theorem cPort : Try.prog.cellsOf 40 = 5 := by kernel_rfl
theorem cInt : Try.prog.cellsOf 3 = 1 := by kernel_rfl
theorem cBool : Try.prog.cellsOf 4 = 1 := by kernel_rfl
theorem cPorts : Try.prog.cellsOf 24 = 1 := by kernel_rfl
theorem cRow : Try.prog.cellsOf 22 = 1 := by kernel_rfl
theorem cInts : Try.prog.cellsOf 28 = 1 := by kernel_rfl
theorem port_open {fuel : Nat} {cs : List Value} {x : DataW H × List MemPlace} (h : DataW.trod enc Try.prog w base spare held fuel 40 cs = some x) : ∃ a : Port, cs = Enc.enc a ∧ True := by
  obtain ⟨xs, n, _, rfl, hl, hlen, hf⟩ := DataW.trod_struct Try.underlying40 h
  rw [cPort] at hl
  obtain ⟨c0, c1, c2, c3, c4, rfl⟩ := list5 hl
  obtain ⟨y0, y1, y2, y3, y4, rfl⟩ := list5 hlen
  have h0 : DataW.trod enc Try.prog w base spare held n 3 (([c0, c1, c2, c3, c4].drop 0).take (Try.prog.cellsOf 3)) = some y0 := hf 0 _ rfl
  have h1 : DataW.trod enc Try.prog w base spare held n 3 (([c0, c1, c2, c3, c4].drop 1).take (Try.prog.cellsOf 3)) = some y1 := hf 1 _ rfl
  have h2 : DataW.trod enc Try.prog w base spare held n 3 (([c0, c1, c2, c3, c4].drop 2).take (Try.prog.cellsOf 3)) = some y2 := hf 2 _ rfl
  have h3 : DataW.trod enc Try.prog w base spare held n 4 (([c0, c1, c2, c3, c4].drop 3).take (Try.prog.cellsOf 4)) = some y3 := hf 3 _ rfl
  have h4 : DataW.trod enc Try.prog w base spare held n 4 (([c0, c1, c2, c3, c4].drop 4).take (Try.prog.cellsOf 4)) = some y4 := hf 4 _ rfl
  clear hf hl hlen h
  rw [cInt] at h0 h1 h2
  rw [cBool] at h3 h4
  simp only [List.drop_zero, List.take_succ_cons, List.take_zero, List.drop_succ_cons] at h0 h1 h2 h3 h4
  obtain ⟨a, ea, _, _⟩ := DataW.trod_int Try.underlying3 h0
  obtain ⟨b, eb, _, _⟩ := DataW.trod_int Try.underlying3 h1
  obtain ⟨c, ec, _, _⟩ := DataW.trod_int Try.underlying3 h2
  obtain ⟨d, ed, _⟩ := DataW.trod_bool Try.underlying4 h3
  obtain ⟨e, ee, _⟩ := DataW.trod_bool Try.underlying4 h4
  simp only [List.cons.injEq, and_true] at ea eb ec ed ee
  subst ea; subst eb; subst ec; subst ed; subst ee
  exact ⟨⟨a, b, c, d, e⟩, rfl, trivial⟩
/-- Ports. -/
theorem ports_open {v : Value} {d : DataW H} {pl : List MemPlace} (hv : Value.okWide Try.prog w .any base 24 v) (h : DataW.Trod enc Try.prog w 0 spare held 24 v d pl) :
    ∃ (p : Option Addr) (n cap : Nat) (l : List Port), v = .agg #[.slice p n cap] ∧ Sv w p l ∧ n = l.length ∧ n ≤ cap ∧ cap ≤ 9223372036854775807 := by
  obtain ⟨cs, rfl, hsz⟩ := okWide_struct Try.underlying24 hv
  obtain ⟨fuel, hf⟩ := h
  obtain ⟨xs, n, _, _, hl, hlen, hf⟩ := DataW.trod_struct Try.underlying24 hf
  obtain ⟨y0, rfl⟩ := list1 hlen
  have h0 : DataW.trod enc Try.prog w 0 spare held n 22 ((((Value.agg cs).cells.toList).drop 0).take (Try.prog.cellsOf 22)) = some y0 := hf 0 _ rfl
  rw [cPorts] at hl
  obtain ⟨c0, hc0⟩ := list1 hl
  rw [hc0, cRow] at h0
  obtain ⟨p, n, cap, l, he, hs, hn, hle, hmx, _⟩ := trod_sv Try.underlying22 cPort (fun _ _ _ h => port_open h) h0
  simp only [List.drop_zero, List.take_succ_cons, List.take_zero, List.cons.injEq, and_true] at he
  subst he
  refine ⟨p, n, cap, l, ?_, hs, hn, hle, hmx⟩
  congr 1
  exact Array.toList_inj.1 (by simpa [Value.cells] using hc0)
theorem cAsked : Try.prog.cellsOf 30 = 2 := by kernel_rfl
theorem asked_open {fuel : Nat} {cs : List Value} {x : DataW H × List MemPlace} (h : DataW.trod enc Try.prog w base spare held fuel 30 cs = some x) :
    ∃ a : Asked, cs = Enc.enc a ∧ (Sv w a.np a.ns ∧ a.nn = a.ns.length ∧ a.nn ≤ a.ncap ∧ a.ncap ≤ 9223372036854775807) := by
  obtain ⟨xs, n, _, rfl, hl, hlen, hf⟩ := DataW.trod_struct Try.underlying30 h
  rw [cAsked] at hl
  obtain ⟨c0, c1, rfl⟩ := list2' hl
  obtain ⟨y0, y1, rfl⟩ := list2' hlen
  have h0 : DataW.trod enc Try.prog w base spare held n 3 (([c0, c1].drop 0).take (Try.prog.cellsOf 3)) = some y0 := hf 0 _ rfl
  have h1 : DataW.trod enc Try.prog w base spare held n 28 (([c0, c1].drop 1).take (Try.prog.cellsOf 28)) = some y1 := hf 1 _ rfl
  clear hf hl hlen h
  rw [cInt] at h0
  rw [cInts] at h1
  simp only [List.drop_zero, List.take_succ_cons, List.take_zero, List.drop_succ_cons] at h0 h1
  obtain ⟨a, ea, _, _⟩ := DataW.trod_int Try.underlying3 h0
  obtain ⟨p, m, cap, l, eb, hs, hn, hle, hmx, _⟩ := trod_sv (α := Int) (Good := fun _ => True) Try.underlying28 cInt (fun _ _ _ h => trod_int1 Try.underlying3 h) h1
  simp only [List.cons.injEq, and_true] at ea eb
  subst ea; subst eb
  exact ⟨⟨a, p, m, cap, l⟩, rfl, hs, hn, hle, hmx⟩
theorem askeds_open {v : Value} {d : DataW H} {pl : List MemPlace} (hv : Value.okWide Try.prog w .any base 25 v) (h : DataW.Trod enc Try.prog w 0 spare held 25 v d pl) :
    ∃ (q : Option Addr) (m cap : Nat) (l : List Asked), v = .slice q m cap ∧ Sv w q l ∧ m = l.length ∧ m ≤ 9223372036854775807 ∧ ∀ x ∈ l, Sv w x.np x.ns ∧ x.nn = x.ns.length ∧ x.nn ≤ x.ncap ∧ x.ncap ≤ 9223372036854775807 := by
  obtain ⟨a, n, c, rfl⟩ := okWide_slice Try.underlying25 hv
  obtain ⟨fuel, hf⟩ := h
  obtain ⟨p, m, cap, l, he, hs, hn, hle, hmx, hg⟩ := trod_sv Try.underlying25 cAsked (fun _ _ _ h => asked_open h) hf
  have : a = p ∧ n = m ∧ c = cap := by simpa [Value.cells] using he
  obtain ⟨rfl, rfl, rfl⟩ := this
  exact ⟨a, n, c, l, rfl, hs, hn, Nat.le_trans hle hmx, hg⟩
end
end Go.Proofs.Ytfhlmijdokfdpaa

/-! Rows of ops, opened. -/
namespace Go.Proofs.Ytfhlmijdokfdpaa
open Go Go.RowKit Go.ChangeShapes Go.WideShapes

section
variable {H : Type} {enc : TypeId × Value → H} {w : World} {base : Nat} {spare : Nat → Bool} {held : Bool}
theorem op_open_cells : Try.prog.cellsOf 51 = 5 := by kernel_rfl
theorem op_open_list {α : Type} {cs : List α} (h : cs.length = 5) : ∃ c0 c1 c2 c3 c4, cs = [c0, c1, c2, c3, c4] := by
  match cs, h with
  | [c0, c1, c2, c3, c4], _ => exact ⟨c0, c1, c2, c3, c4, rfl⟩
theorem op_open {fuel : Nat} {cs : List Value} {x : DataW H × List MemPlace} (h : DataW.trod enc Try.prog w base spare held fuel 51 cs = some x) : ∃ a : OpA, cs = Enc.enc a ∧ True := by
  obtain ⟨xs, n, _, rfl, hl, hlen, hf⟩ := DataW.trod_struct Try.underlying51 h
  rw [op_open_cells] at hl
  obtain ⟨c0, c1, c2, c3, c4, rfl⟩ := op_open_list hl
  obtain ⟨y0, y1, y2, y3, y4, rfl⟩ := op_open_list hlen
  have h0 : DataW.trod enc Try.prog w base spare held n 3 (([c0, c1, c2, c3, c4].drop 0).take (Try.prog.cellsOf 3)) = some y0 := hf 0 _ rfl
  have h1 : DataW.trod enc Try.prog w base spare held n 3 (([c0, c1, c2, c3, c4].drop 1).take (Try.prog.cellsOf 3)) = some y1 := hf 1 _ rfl
  have h2 : DataW.trod enc Try.prog w base spare held n 3 (([c0, c1, c2, c3, c4].drop 2).take (Try.prog.cellsOf 3)) = some y2 := hf 2 _ rfl
  have h3 : DataW.trod enc Try.prog w base spare held n 3 (([c0, c1, c2, c3, c4].drop 3).take (Try.prog.cellsOf 3)) = some y3 := hf 3 _ rfl
  have h4 : DataW.trod enc Try.prog w base spare held n 4 (([c0, c1, c2, c3, c4].drop 4).take (Try.prog.cellsOf 4)) = some y4 := hf 4 _ rfl
  clear hf hl hlen h
  rw [cBool] at h4
  rw [cInt] at h0 h1 h2 h3
  simp only [List.drop_zero, List.take_succ_cons, List.take_zero, List.drop_succ_cons] at h0 h1 h2 h3 h4
  obtain ⟨v0, e0, _, _⟩ := DataW.trod_int Try.underlying3 h0
  obtain ⟨v1, e1, _, _⟩ := DataW.trod_int Try.underlying3 h1
  obtain ⟨v2, e2, _, _⟩ := DataW.trod_int Try.underlying3 h2
  obtain ⟨v3, e3, _, _⟩ := DataW.trod_int Try.underlying3 h3
  obtain ⟨v4, e4, _⟩ := DataW.trod_bool Try.underlying4 h4
  simp only [List.cons.injEq, and_true] at e0 e1 e2 e3 e4
  subst e0; subst e1; subst e2; subst e3; subst e4
  exact ⟨⟨v0, v1, v2, v3, v4⟩, rfl, trivial⟩
theorem ops_open {v : Value} {d : DataW H} {pl : List MemPlace} (hv : Value.okWide Try.prog w .any base 49 v) (h : DataW.Trod enc Try.prog w 0 spare held 49 v d pl) :
    ∃ (q : Option Addr) (m cap : Nat) (l : List OpA), v = .slice q m cap ∧ Sv w q l ∧ m = l.length ∧ m ≤ cap ∧ cap ≤ 9223372036854775807 := by
  obtain ⟨a, n, c, rfl⟩ := okWide_slice Try.underlying49 hv
  obtain ⟨fuel, hf⟩ := h
  obtain ⟨p, m, cap, l, he, hs, hn, hle, hmx, _⟩ := trod_sv (Good := fun _ => True) Try.underlying49 op_open_cells (fun _ _ _ h => op_open h) hf
  have : a = p ∧ n = m ∧ c = cap := by simpa [Value.cells] using he
  obtain ⟨rfl, rfl, rfl⟩ := this
  exact ⟨a, n, c, l, rfl, hs, hn, hle, hmx⟩
end
end Go.Proofs.Ytfhlmijdokfdpaa
