/- Texts of this proof, one behind the other. -/
import Derived.Test.YtdbamgbgnpadjaaZe
import Derived.Test.YtdbamgbgnpadjaaZd
import Derived.Test.YtdbamgbgnpadjaaProg
/-! Chapter 18: what the rows' inputs are. -/
namespace Go.Proofs.Ytdbamgbgnpadjaa
open Go Go.RowKit Go.ChangeShapes Go.WideShapes

section
variable {H : Type} {enc : TypeId × Value → H} {w : World} {base : Nat} {spare : Nat → Bool} {held : Bool}
theorem cIntT : Try.prog.cellsOf 3 = 1 := by kernel_rfl
theorem cI64T : Try.prog.cellsOf 2 = 1 := by kernel_rfl
theorem cWheel : Try.prog.cellsOf 24 = 2 := by kernel_rfl
theorem cTims : Try.prog.cellsOf 22 = 1 := by kernel_rfl
theorem cAlms : Try.prog.cellsOf 25 = 1 := by kernel_rfl
theorem cAlarms : Try.prog.cellsOf 27 = 3 := by kernel_rfl
theorem list2V {α : Type} {cs : List α} (h : cs.length = 2) : ∃ c0 c1, cs = [c0, c1] := by
  match cs, h with
  | [c0, c1], _ => exact ⟨c0, c1, rfl⟩
theorem list3V {α : Type} {cs : List α} (h : cs.length = 3) : ∃ c0 c1 c2, cs = [c0, c1, c2] := by
  match cs, h with
  | [c0, c1, c2], _ => exact ⟨c0, c1, c2, rfl⟩
theorem timer_open_cells : Try.prog.cellsOf 88 = 2 := by kernel_rfl
theorem timer_open_list {α : Type} {cs : List α} (h : cs.length = 2) : ∃ c0 c1, cs = [c0, c1] := by
  match cs, h with
  | [c0, c1], _ => exact ⟨c0, c1, rfl⟩
theorem timer_open {fuel : Nat} {cs : List Value} {x : DataW H × List MemPlace} (h : DataW.trod enc Try.prog w base spare held fuel 88 cs = some x) : ∃ a : Tim, cs = Enc.enc a ∧ True := by
  obtain ⟨xs, n, _, rfl, hl, hlen, hf⟩ := DataW.trod_struct Try.underlying88 h
  rw [timer_open_cells] at hl
  obtain ⟨c0, c1, rfl⟩ := timer_open_list hl
  obtain ⟨y0, y1, rfl⟩ := timer_open_list hlen
  have h0 : DataW.trod enc Try.prog w base spare held n 3 (([c0, c1].drop 0).take (Try.prog.cellsOf 3)) = some y0 := hf 0 _ rfl
  have h1 : DataW.trod enc Try.prog w base spare held n 2 (([c0, c1].drop 1).take (Try.prog.cellsOf 2)) = some y1 := hf 1 _ rfl
  clear hf hl hlen h
  rw [cIntT] at h0
  rw [cI64T] at h1
  simp only [List.drop_zero, List.take_succ_cons, List.take_zero, List.drop_succ_cons] at h0 h1
  obtain ⟨v0, e0, _, _⟩ := DataW.trod_int Try.underlying3 h0
  obtain ⟨v1, e1, _, _⟩ := DataW.trod_int Try.underlying2 h1
  simp only [List.cons.injEq, and_true] at e0 e1
  subst e0; subst e1
  exact ⟨⟨v0, v1⟩, rfl, trivial⟩
theorem alarm_open_cells : Try.prog.cellsOf 47 = 3 := by kernel_rfl
theorem alarm_open_list {α : Type} {cs : List α} (h : cs.length = 3) : ∃ c0 c1 c2, cs = [c0, c1, c2] := by
  match cs, h with
  | [c0, c1, c2], _ => exact ⟨c0, c1, c2, rfl⟩
theorem alarm_open {fuel : Nat} {cs : List Value} {x : DataW H × List MemPlace} (h : DataW.trod enc Try.prog w base spare held fuel 47 cs = some x) : ∃ a : Alm, cs = Enc.enc a ∧ True := by
  obtain ⟨xs, n, _, rfl, hl, hlen, hf⟩ := DataW.trod_struct Try.underlying47 h
  rw [alarm_open_cells] at hl
  obtain ⟨c0, c1, c2, rfl⟩ := alarm_open_list hl
  obtain ⟨y0, y1, y2, rfl⟩ := alarm_open_list hlen
  have h0 : DataW.trod enc Try.prog w base spare held n 3 (([c0, c1, c2].drop 0).take (Try.prog.cellsOf 3)) = some y0 := hf 0 _ rfl
  have h1 : DataW.trod enc Try.prog w base spare held n 3 (([c0, c1, c2].drop 1).take (Try.prog.cellsOf 3)) = some y1 := hf 1 _ rfl
  have h2 : DataW.trod enc Try.prog w base spare held n 2 (([c0, c1, c2].drop 2).take (Try.prog.cellsOf 2)) = some y2 := hf 2 _ rfl
  clear hf hl hlen h
  rw [cIntT] at h0 h1
  rw [cI64T] at h2
  simp only [List.drop_zero, List.take_succ_cons, List.take_zero, List.drop_succ_cons] at h0 h1 h2
  obtain ⟨v0, e0, _, _⟩ := DataW.trod_int Try.underlying3 h0
  obtain ⟨v1, e1, _, _⟩ := DataW.trod_int Try.underlying3 h1
  obtain ⟨v2, e2, _, _⟩ := DataW.trod_int Try.underlying2 h2
  simp only [List.cons.injEq, and_true] at e0 e1 e2
  subst e0; subst e1; subst e2
  exact ⟨⟨v0, v1, v2⟩, rfl, trivial⟩
set_option maxRecDepth 100000 in
theorem alarms_open {v : Value} {d : DataW H} {pl : List MemPlace} (hv : Value.okWide Try.prog w .any base 27 v) (h : DataW.Trod enc Try.prog w 0 spare held 27 v d pl) :
    ∃ (now : Int) (p : Option Addr) (n cap : Nat) (ts : List Tim) (pa : Option Addr) (na ca : Nat) (rs : List Alm), v = .agg #[.int .i64 now, .slice p n cap, .slice pa na ca] ∧ (Sv w p ts ∧ n = ts.length ∧ n ≤ cap ∧ cap ≤ 9223372036854775807) ∧ (Sv w pa rs ∧ na = rs.length ∧ na ≤ ca ∧ ca ≤ 9223372036854775807) := by
  obtain ⟨cs, rfl, hsz⟩ := okWide_struct Try.underlying27 hv
  obtain ⟨fuel, hf⟩ := h
  obtain ⟨xs, n, _, _, hl, hlen, hf⟩ := DataW.trod_struct Try.underlying27 hf
  obtain ⟨y0, y1, rfl⟩ := list2V hlen
  have h0 : DataW.trod enc Try.prog w 0 spare held n 24 ((((Value.agg cs).cells.toList).drop 0).take (Try.prog.cellsOf 24)) = some y0 := hf 0 _ rfl
  have h1 : DataW.trod enc Try.prog w 0 spare held n 25 ((((Value.agg cs).cells.toList).drop 2).take (Try.prog.cellsOf 25)) = some y1 := hf 1 _ rfl
  rw [cAlarms] at hl
  obtain ⟨c0, c1, c2, hc0⟩ := list3V hl
  rw [hc0, cWheel] at h0
  rw [hc0, cAlms] at h1
  simp only [List.drop_zero, List.take_succ_cons, List.take_zero, List.drop_succ_cons] at h0 h1
  obtain ⟨xs2, n2, _, rfl, hl2, hlen2, hf2⟩ := DataW.trod_struct Try.underlying24 h0
  obtain ⟨z0, z1, rfl⟩ := list2V hlen2
  have g0 : DataW.trod enc Try.prog w 0 spare held n2 2 (([c0, c1].drop 0).take (Try.prog.cellsOf 2)) = some z0 := hf2 0 _ rfl
  have g1 : DataW.trod enc Try.prog w 0 spare held n2 22 (([c0, c1].drop 1).take (Try.prog.cellsOf 22)) = some z1 := hf2 1 _ rfl
  rw [cI64T] at g0
  rw [cTims] at g1
  simp only [List.drop_zero, List.take_succ_cons, List.take_zero, List.drop_succ_cons] at g0 g1
  obtain ⟨a, ea, _, _⟩ := DataW.trod_int Try.underlying2 g0
  obtain ⟨q, m, capv, l2, he2, hs2, hm, hle2, hmx2, _⟩ := trod_sv (Good := fun _ => True) Try.underlying22 timer_open_cells (fun _ _ _ h => timer_open h) g1
  obtain ⟨q3, m3, capv3, l3, he3, hs3, hm3, hle3, hmx3, _⟩ := trod_sv (Good := fun _ => True) Try.underlying25 alarm_open_cells (fun _ _ _ h => alarm_open h) h1
  simp only [List.cons.injEq, and_true] at ea he2 he3
  subst ea; subst he2; subst he3
  refine ⟨a, q, m, capv, l2, q3, m3, capv3, l3, ?_, ⟨hs2, hm, hle2, hmx2⟩, hs3, hm3, hle3, hmx3⟩
  congr 1
  exact Array.toList_inj.1 (by simpa [Value.cells] using hc0)
end
end Go.Proofs.Ytdbamgbgnpadjaa

/-! Chapter 18: two spans, opened. -/
namespace Go.Proofs.Ytdbamgbgnpadjaa
open Go Go.RowKit Go.ChangeShapes Go.WideShapes

section
variable {H : Type} {enc : TypeId × Value → H} {w : World} {base : Nat} {spare : Nat → Bool} {held : Bool}
set_option maxRecDepth 100000 in
theorem two64_open {v : Value} {d : DataW H} {pl : List MemPlace} (hv : Value.okWide Try.prog w .any base 28 v) (h : DataW.Trod enc Try.prog w 0 spare held 28 v d pl) : ∃ a b : Int, v = .agg #[.int .i64 a, .int .i64 b] := by
  have hv' := hv
  simp only [Value.okWide, Try.underlying28] at hv'
  obtain ⟨cs, rfl, h2, _⟩ := hv'
  obtain ⟨fuel, hf⟩ := h
  obtain ⟨xs, n, _, _, hl, hlen, hf⟩ := DataW.trod_array Try.underlying28 hf
  obtain ⟨y0, y1, rfl⟩ := list2' hlen
  have h0 : DataW.trod enc Try.prog w 0 spare held n 2 ((((Value.agg cs).cells.toList).drop (0 * Try.prog.cellsOf 2)).take (Try.prog.cellsOf 2)) = some y0 := hf 0 (by decide)
  have h1 : DataW.trod enc Try.prog w 0 spare held n 2 ((((Value.agg cs).cells.toList).drop (1 * Try.prog.cellsOf 2)).take (Try.prog.cellsOf 2)) = some y1 := hf 1 (by decide)
  rw [show Try.prog.cellsOf 28 = 2 from by kernel_rfl] at hl
  obtain ⟨c0, c1, hc0⟩ := list2' hl
  rw [hc0, cI64T] at h0 h1
  simp only [Nat.zero_mul, Nat.one_mul, List.drop_zero, List.take_succ_cons, List.take_zero, List.drop_succ_cons] at h0 h1
  obtain ⟨a, ea, _, _⟩ := DataW.trod_int Try.underlying2 h0
  obtain ⟨b, eb, _, _⟩ := DataW.trod_int Try.underlying2 h1
  simp only [List.cons.injEq, and_true] at ea eb
  subst ea; subst eb
  refine ⟨a, b, ?_⟩
  congr 1
  exact Array.toList_inj.1 (by simpa [Value.cells] using hc0)
end
end Go.Proofs.Ytdbamgbgnpadjaa
