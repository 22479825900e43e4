/- Chapter 16: rows of ports, rows of numbers. -/
import Derived.Test.YtfhlmijdokfdpaaPu
namespace Go.Proofs.Ytfhlmijdokfdpaa
open Go Go.RowKit Go.ChangeShapes Go.WideShapes

section
variable {H : Type} {enc : TypeId × Value → H} {w : World} {base : Nat} {spare : Nat → Bool} {held : Bool}
theorem portsA_open {fuel : Nat} {cs : List Value} {x : DataW H × List MemPlace} (h : DataW.trod enc Try.prog w base spare held fuel 24 cs = some x) :
    ∃ a : PortsA, cs = Enc.enc a ∧ (Sv w a.p a.l ∧ a.n = a.l.length ∧ a.n ≤ a.cap ∧ a.cap ≤ 9223372036854775807) := by
  obtain ⟨xs, n, _, rfl, hl, hlen, hf⟩ := DataW.trod_struct Try.underlying24 h
  rw [cPorts] at hl
  obtain ⟨c0, rfl⟩ := list1 hl
  obtain ⟨y0, rfl⟩ := list1 hlen
  have h0 : DataW.trod enc Try.prog w base spare held n 22 (([c0].drop 0).take (Try.prog.cellsOf 22)) = some y0 := hf 0 _ rfl
  clear hf hl hlen h
  rw [cRow] at h0
  simp only [List.drop_zero, List.take_succ_cons, List.take_zero] at h0
  obtain ⟨p, m, cap, l, eb, hs, hn, hle, hmx, _⟩ := trod_sv Try.underlying22 cPort (fun _ _ _ h => port_open h) h0
  simp only [List.cons.injEq, and_true] at eb
  subst eb
  exact ⟨⟨p, m, cap, l⟩, rfl, hs, hn, hle, hmx⟩
theorem portss_open {v : Value} {d : DataW H} {pl : List MemPlace} (hv : Value.okWide Try.prog w .any base 37 v) (h : DataW.Trod enc Try.prog w 0 spare held 37 v d pl) :
    ∃ (q : Option Addr) (m cap : Nat) (l : List PortsA), v = .slice q m cap ∧ Sv w q l ∧ m = l.length ∧ m ≤ 9223372036854775807 ∧ ∀ x ∈ l, Sv w x.p x.l ∧ x.n = x.l.length ∧ x.n ≤ x.cap ∧ x.cap ≤ 9223372036854775807 := by
  obtain ⟨a, n, c, rfl⟩ := okWide_slice Try.underlying37 hv
  obtain ⟨fuel, hf⟩ := h
  obtain ⟨p, m, cap, l, he, hs, hn, hle, hmx, hg⟩ := trod_sv Try.underlying37 cPorts (fun _ _ _ h => portsA_open h) hf
  have : a = p ∧ n = m ∧ c = cap := by simpa [Value.cells] using he
  obtain ⟨rfl, rfl, rfl⟩ := this
  exact ⟨a, n, c, l, rfl, hs, hn, Nat.le_trans hle hmx, hg⟩
theorem ints_open {v : Value} {d : DataW H} {pl : List MemPlace} (hv : Value.okWide Try.prog w .any base 28 v) (h : DataW.Trod enc Try.prog w 0 spare held 28 v d pl) :
    ∃ (q : Option Addr) (m cap : Nat) (l : List Int), v = .slice q m cap ∧ Sv w q l ∧ m = l.length ∧ m ≤ 9223372036854775807 := by
  obtain ⟨a, n, c, rfl⟩ := okWide_slice Try.underlying28 hv
  obtain ⟨fuel, hf⟩ := h
  obtain ⟨p, m, cap, l, he, hs, hn, hle, hmx, _⟩ := trod_sv (α := Int) (Good := fun _ => True) Try.underlying28 cInt (fun _ _ _ h => trod_int1 Try.underlying3 h) hf
  have : a = p ∧ n = m ∧ c = cap := by simpa [Value.cells] using he
  obtain ⟨rfl, rfl, rfl⟩ := this
  exact ⟨a, n, c, l, rfl, hs, hn, Nat.le_trans hle hmx⟩
end
end Go.Proofs.Ytfhlmijdokfdpaa
