/- How a fraction reads as data. -/
import Derived.Test.YtpjdojnbajoafaaRows
import Derived.ProofKit
import Derived.Lib.SmallJoins
namespace Go.Proofs.Ytpjdojnbajoafaa
open Go.ChangeShapes Go.WideShapes Go.ChangeAt Go.RowKit Go.Joins

theorem c60 : Try.prog.cellsOf 60 = 3 := by kernel_rfl
theorem c24 : Try.prog.cellsOf 24 = 2 := by kernel_rfl
theorem c22 : Try.prog.cellsOf 22 = 1 := by kernel_rfl
theorem list3 {α : Type} {cs : List α} (h : cs.length = 3) : ∃ c0 c1 c2, cs = [c0, c1, c2] := by
  match cs, h with
  | [c0, c1, c2], _ => exact ⟨c0, c1, c2, rfl⟩
theorem list2 {α : Type} {cs : List α} (h : cs.length = 2) : ∃ c0 c1, cs = [c0, c1] := by
  match cs, h with
  | [c0, c1], _ => exact ⟨c0, c1, rfl⟩
abbrev dF (H : Type) (h l x : Int) : DataW H := .agg [.agg [.lit (.int .u64 h), .lit (.int .u64 l)], .lit (.int .u64 x)]

section
variable {H : Type} {enc : TypeId × Value → H} {w : World} {base : Nat} {spare : Nat → Bool} {held : Bool}
theorem frac_open {fuel : Nat} {cs : List Value} {x : DataW H × List MemPlace} (h : DataW.trod enc Try.prog w base spare held fuel 60 cs = some x) :
    ∃ a b c : Int, cs = [.int .u64 a, .int .u64 b, .int .u64 c] ∧ x = (dF H a b c, []) ∧ (Lit.int .u64 a).wf = true ∧ (Lit.int .u64 b).wf = true ∧ (Lit.int .u64 c).wf = true := by
  obtain ⟨xs, n, _, rfl, hl, hlen, hf⟩ := DataW.trod_struct Try.underlying60 h
  rw [c60] at hl
  obtain ⟨c0, c1, c2, rfl⟩ := list3 hl
  obtain ⟨y0, y1, rfl⟩ := list2 hlen
  have h0 : DataW.trod enc Try.prog w base spare held n 24 (([c0, c1, c2].drop 0).take (Try.prog.cellsOf 24)) = some y0 := hf 0 _ rfl
  have h1 : DataW.trod enc Try.prog w base spare held n 22 (([c0, c1, c2].drop 2).take (Try.prog.cellsOf 22)) = some y1 := hf 1 _ rfl
  clear hf hl
  rw [c24] at h0
  rw [c22] at h1
  simp only [List.drop_zero, List.take_succ_cons, List.take_zero, List.drop_succ_cons] at h0 h1
  obtain ⟨zs, m, _, hz, hl2, hlen2, hf2⟩ := DataW.trod_struct Try.underlying24 (x := y0) h0
  obtain ⟨z0, z1, rfl⟩ := list2 hlen2
  have g0 : DataW.trod enc Try.prog w base spare held m 22 (([c0, c1].drop 0).take (Try.prog.cellsOf 22)) = some z0 := hf2 0 _ rfl
  have g1 : DataW.trod enc Try.prog w base spare held m 22 (([c0, c1].drop 1).take (Try.prog.cellsOf 22)) = some z1 := hf2 1 _ rfl
  clear hf2 hl2
  rw [c22] at g0 g1
  simp only [List.drop_zero, List.take_succ_cons, List.take_zero, List.drop_succ_cons] at g0 g1
  obtain ⟨a, ea, rfl, wa⟩ := DataW.trod_int Try.underlying22 (x := z0) g0
  obtain ⟨b, eb, rfl, wb⟩ := DataW.trod_int Try.underlying22 (x := z1) g1
  obtain ⟨c, ec, rfl, wc⟩ := DataW.trod_int Try.underlying22 (x := y1) h1
  simp at ea eb ec
  subst ea eb ec
  subst hz
  exact ⟨a, b, c, rfl, rfl, wa, wb, wc⟩
theorem frac_shut {a b c : Int} (wa : (Lit.int .u64 a).wf = true) (wb : (Lit.int .u64 b).wf = true) (wc : (Lit.int .u64 c).wf = true) :
    DataW.trod enc Try.prog w base spare held 3 60 [.int .u64 a, .int .u64 b, .int .u64 c] = some (dF H a b c, []) := by
  have i1 : ∀ n (k : Int), (Lit.int .u64 k).wf = true → DataW.trod enc Try.prog w base spare held (n + 1) 22 [.int .u64 k] = some (.lit (.int .u64 k), []) := fun n k hk => by simp [DataW.trod, Try.underlying22, hk]
  have s24 : DataW.trod enc Try.prog w base spare held 2 24 [.int .u64 a, .int .u64 b] = some (.agg [.lit (.int .u64 a), .lit (.int .u64 b)], []) :=
    trod_struct2_mk (enc := enc) (w := w) (base := base) (spare := spare) (held := held) (n := 1) (cs := [.int .u64 a, .int .u64 b]) (y0 := (.lit (.int .u64 a), [])) (y1 := (.lit (.int .u64 b), [])) Try.underlying24 (by rw [c24]; rfl) (by simpa [c22] using i1 0 a wa) (by simpa [c22] using i1 0 b wb)
  exact trod_struct2_mk (enc := enc) (w := w) (base := base) (spare := spare) (held := held) (n := 2) (cs := [.int .u64 a, .int .u64 b, .int .u64 c]) (y0 := (.agg [.lit (.int .u64 a), .lit (.int .u64 b)], [])) (y1 := (.lit (.int .u64 c), [])) Try.underlying60 (by rw [c60]; rfl) (by simpa [c24] using s24) (by simpa [c22] using i1 1 c wc)
theorem open_frac {r : Reach} {b0 : Nat} {v : Value} {d : DataW H} {p : List MemPlace} (hv : Value.okWide Try.prog w r b0 60 v) (h : DataW.Trod enc Try.prog w base spare held 60 v d p) :
    ∃ a b c : Int, v = .agg #[.int .u64 a, .int .u64 b, .int .u64 c] ∧ d = dF H a b c ∧ p = [] ∧ (Lit.int .u64 a).wf = true ∧ (Lit.int .u64 b).wf = true ∧ (Lit.int .u64 c).wf = true := by
  obtain ⟨cs, rfl, hsz⟩ := okWide_struct Try.underlying60 hv
  obtain ⟨fuel, hf⟩ := h
  obtain ⟨a, b, c, hcs, hx, wa, wb, wc⟩ := frac_open hf
  simp only [Prod.mk.injEq] at hx
  refine ⟨a, b, c, ?_, hx.1, hx.2, wa, wb, wc⟩
  have : cs.toList = [.int .u64 a, .int .u64 b, .int .u64 c] := by simpa [Value.cells] using hcs
  obtain ⟨l⟩ := cs
  simp at this
  rw [this]
theorem shut_frac {a b c : Int} (wa : (Lit.int .u64 a).wf = true) (wb : (Lit.int .u64 b).wf = true) (wc : (Lit.int .u64 c).wf = true) : DataW.Trod enc Try.prog w base spare held 60 (.agg #[.int .u64 a, .int .u64 b, .int .u64 c]) (dF H a b c) [] :=
  ⟨3, by simpa [Value.cells] using frac_shut (enc := enc) (w := w) (base := base) (spare := spare) (held := held) wa wb wc⟩
end
end Go.Proofs.Ytpjdojnbajoafaa
