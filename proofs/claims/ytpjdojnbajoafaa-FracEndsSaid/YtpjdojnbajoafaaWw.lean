/- Laws on cells that hold a number of 128 bits. -/
import Derived.Test.YtpjdojnbajoafaaProg
import Derived.Test.YtpjdojnbajoafaaKit
namespace Go.Proofs.Ytpjdojnbajoafaa
open Go.RowKit

theorem wide_size : (Try.prog.info? 24).map (·.size) = some 2 := by kernel_rfl
/-- Block g of w holds a number of two halves. -/
@[reducible] def IsW (w : World) (g : Nat) (h l : Int) : Prop := IsR w g #[.int .u64 h, .int .u64 l] 24
section
variable {ops : Array Oper} {rest : List Oper} {o : Oper} {a : Act} {w : World} {Q : Exit → Act → World → Prop}
theorem wpW_store (hgd : o.guard = none) (x y : Operand) (ho : o.op = .store 24 x y) (g : Nat) (hx : a.eval x = .pointer (some ⟨g, 0, none⟩)) (h l h0 l0 : Int) (hy : a.eval y = .agg #[.int .u64 h, .int .u64 l])
    (hg : IsW w g h0 l0) (hK : ∀ w1 : World, Put g #[.int .u64 h, .int .u64 l] 24 w w1 → wpList Try.prog ops Q rest (a.put o.dst undef) w1) : wpList Try.prog ops Q (o :: rest) a w :=
  wpR_store hgd _ x y ho g hx _ _ hy _ hg wide_size rfl (by simp [Value.oneCell']) hK
theorem wpW_load (hgd : o.guard = none) (x : Operand) (ho : o.op = .load 24 x) (g : Nat) (hx : a.eval x = .pointer (some ⟨g, 0, none⟩)) (h l : Int)
    (hg : IsW w g h l) (hK : wpList Try.prog ops Q rest (a.put o.dst (.agg #[.int .u64 h, .int .u64 l])) w) : wpList Try.prog ops Q (o :: rest) a w :=
  wpList_load_row hgd _ x ho g hx _ _ _ _ hg Try.underlying24 rfl wide_size hK
variable {fn : Func} {R : Ending → World → Prop} {tmps : Array Value} {p q r : Tmp} {g : Nat} {h l : Int}
theorem retW (hf : fn.results = #[.cell p 24]) (hp : tmps.getD p undef = .pointer (some ⟨g, 0, none⟩)) (hg : IsW w g h l) (hR : R (.returned (.agg #[.int .u64 h, .int .u64 l])) w) :
    bodyPost Try.prog fn R .ret { tmps, defers := [] } w := ret_row hf hp hg Try.underlying24 rfl wide_size hR
theorem retW1 (hf : fn.results = #[.cell p 24, .tmp q]) (hp : tmps.getD p undef = .pointer (some ⟨g, 0, none⟩)) (v : Value) (hq : tmps.getD q undef = v) (hg : IsW w g h l)
    (hR : R (.returned (.tuple #[.agg #[.int .u64 h, .int .u64 l], v])) w) : bodyPost Try.prog fn R .ret { tmps, defers := [] } w := ret_row_tmp hf hp v hq hg Try.underlying24 rfl wide_size hR
theorem retW2 (hf : fn.results = #[.cell p 24, .tmp q, .tmp r]) (hp : tmps.getD p undef = .pointer (some ⟨g, 0, none⟩)) (v v' : Value) (hq : tmps.getD q undef = v) (hr : tmps.getD r undef = v') (hg : IsW w g h l)
    (hR : R (.returned (.tuple #[.agg #[.int .u64 h, .int .u64 l], v, v'])) w) : bodyPost Try.prog fn R .ret { tmps, defers := [] } w := ret_row_tmp2 hf hp v v' hq hr hg Try.underlying24 rfl wide_size hR
end
end Go.Proofs.Ytpjdojnbajoafaa
