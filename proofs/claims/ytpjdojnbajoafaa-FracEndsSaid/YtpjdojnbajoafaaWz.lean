/- Small laws: halves, exits, a string's iterator. -/
import Derived.Test.YtpjdojnbajoafaaWy
import Derived.Lib.OthersKept
import Derived.Laws.RangeAny
namespace Go.Proofs.Ytpjdojnbajoafaa
open Go Go.RowKit

theorem halves (v : Nat) : v / 2 ^ 64 * 2 ^ 64 + v % 2 ^ 64 = v := by omega
theorem half_lt (v : Nat) : v % 2 ^ 64 < 2 ^ 64 := Nat.mod_lt _ (by decide)
theorem fits_t {v : Nat} (hv : v < 2 ^ 128) : fits v = true := by
  unfold fits; rw [Nat.mod_eq_of_lt (Nat.lt_trans hv (by decide))]; exact decide_eq_true hv
theorem fits_f {v : Nat} (hv : ¬ v < 2 ^ 128) (h2 : v < 2 ^ 224) : fits v = false := by
  unfold fits; rw [Nat.mod_eq_of_lt (Nat.lt_trans h2 (by decide))]; exact decide_eq_false hv
theorem c3_lt {a b : Nat} (h : a < b) : c3 a b = -1 := if_pos (by omega)
theorem c3_gt {a b : Nat} (h : b < a) : c3 a b = 1 := by unfold c3; rw [if_neg (by omega), if_pos (by omega)]
theorem c3_eq (a : Nat) : c3 a a = 0 := by unfold c3; rw [if_neg (by omega), if_neg (by omega)]

section
variable {id : Nat} {Q : Exit → Act → World → Prop} {a : Act} {w : World}
theorem exit_here (h : Q .normal a w) : Exit.inBlock id Q (.exit id) a w := by simp [Exit.inBlock]; exact h
theorem then_ret {K : Act → World → Prop} (h : Q .ret a w) : Exit.then K Q .ret a w := h
theorem block_ret (h : Q .ret a w) : Exit.inBlock id Q .ret a w := h
theorem then_exit {K : Act → World → Prop} (h : Q (.exit id) a w) : Exit.then K Q (.exit id) a w := h
theorem exit_on {id' : Nat} (hne : id' ≠ id) (h : Q (.exit id') a w) : Exit.inBlock id Q (.exit id') a w := by simp [Exit.inBlock, hne]; exact h
end

section
variable {P : Program} {ops : Array Oper} {w0 w : World} {L : List Rw} {Q : Exit → Act → World → Prop} {o : Oper} {rest : List Oper} {a : Act} {gi : Nat} {s : ByteArray} {pos : Nat}
/-- An iterator over a string, in a block of its own. -/
structure Iter (w0 : World) (L : List Rw) (gi : Nat) (s : ByteArray) (pos : Nat) (w : World) : Prop where
  here : w.heap[gi]? = some (.stringIter s pos)
  low : w0.heap.size ≤ gi
  apart : ∀ r ∈ L, r.1 ≠ gi
theorem Iter.kept {w1 : World} (h : Iter w0 L gi s pos w) (hb : Below w.heap.size w w1) : Iter w0 L gi s pos w1 :=
  ⟨(hb.block gi (Array.getElem?_eq_some_iff.1 h.here).1).trans h.here, h.low, h.apart⟩
theorem Has.iterAt (M : Has w0 L w) (h : Iter w0 L gi s pos w) (pos' : Nat) : Has w0 L (w.iterAt gi s pos') ∧ Iter w0 L gi s pos' (w.iterAt gi s pos') :=
  ⟨⟨fun r hr => (Lib.iterAt_other w gi r.1 s pos' (h.apart r hr)).trans (M.rows r hr), M.low, M.apart, Lib.below_iterAt M.below h.low s pos'⟩, ⟨Lib.iterAt_heap w gi s pos pos' h.here, h.low, h.apart⟩⟩
theorem sq_range (hg : Region.wanted o (yielded ops a.tmps) = true) (M : Has w0 L w) {T : TypeId} {x : Operand} (ho : o.op = .range T x) (hx : a.eval x = .string s) (hu : P.underlying T = some .string)
    (h : ∀ K : Act → World → Prop, (∀ a w, Stay (wpList P ops Q rest a w) → K a w) → ∀ gi w', Has w0 L w' → Iter w0 L gi s 0 w' → K (a.put o.dst (.pointer (some ⟨gi, 0, none⟩))) w') : Stay (wpList P ops Q (o :: rest) a w) :=
  ⟨wpList_step fun K hK' => by
    have hK : ∀ a w, Stay (wpList P ops Q rest a w) → K a w := fun a w h => hK' a w h.out
    rw [if_pos hg]
    unfold Oper.wp execOp
    simp only [ho, hx, Sem.run_bind, run_range_string w T s hu, Result.andThen_ok, Sem.run_pure]
    have hb : Below w.heap.size w (w.iter s 0) := (Below.refl _ _).alloc (Nat.le_refl _) _
    refine h K hK _ _ (M.kept hb) ⟨by rw [World.iter_heap], M.below.size, fun r hr e => ?_⟩
    have := (M.rows r hr).lt
    omega⟩
theorem sq_next (hg : Region.wanted o (yielded ops a.tmps) = true) (M : Has w0 L w) (I : Iter w0 L gi s pos w) {x : Operand} (ho : o.op = .next x true) (hx : a.eval x = .pointer (some ⟨gi, 0, none⟩)) (hp : pos < s.size) (ha : (s[pos]'hp).toNat < 128)
    (h : ∀ K : Act → World → Prop, (∀ a w, Stay (wpList P ops Q rest a w) → K a w) → ∀ w', Has w0 L w' → Iter w0 L gi s (pos + 1) w' → K (a.put o.dst (.tuple #[.bool true, .int .i64 pos, .int .i32 (s[pos]'hp).toNat])) w') : Stay (wpList P ops Q (o :: rest) a w) :=
  ⟨wpList_step fun K hK' => by
    have hK : ∀ a w, Stay (wpList P ops Q rest a w) → K a w := fun a w h => hK' a w h.out
    rw [if_pos hg]
    unfold Oper.wp execOp
    simp only [ho, hx, Sem.run_bind, Lib.run_next_ascii_at w gi s pos o.type I.here hp ha, Result.andThen_ok, Sem.run_pure]
    exact h K hK _ (M.iterAt I (pos + 1)).1 (M.iterAt I (pos + 1)).2⟩
theorem sq_next_end (hg : Region.wanted o (yielded ops a.tmps) = true) (I : Iter w0 L gi s pos w) {x : Operand} (ho : o.op = .next x true) (hx : a.eval x = .pointer (some ⟨gi, 0, none⟩)) (hp : ¬ pos < s.size)
    (h : ∀ K : Act → World → Prop, (∀ a w, Stay (wpList P ops Q rest a w) → K a w) → K (a.put o.dst (.tuple #[.bool false])) w) : Stay (wpList P ops Q (o :: rest) a w) :=
  ⟨wpList_step fun K hK' => by
    have hK : ∀ a w, Stay (wpList P ops Q rest a w) → K a w := fun a w h => hK' a w h.out
    rw [if_pos hg]
    unfold Oper.wp execOp
    simp only [ho, hx, Sem.run_bind, Lib.run_next_end_at w gi s pos o.type I.here hp, Result.andThen_ok, Sem.run_pure]
    exact h K hK⟩
theorem Iter.put {g : Nat} {cs cs' : Array Value} {T T' : TypeId} {w1 : World} (I : Iter w0 L gi s pos w) (j : Nat) (e : L[j]? = some (g, cs, T)) (hp : Put g cs' T' w w1) (L' : List Rw) (hL : ∀ r ∈ L', r.1 ≠ gi) : Iter w0 L' gi s pos w1 :=
  ⟨(hp.rest gi (fun e1 => I.apart _ (List.mem_of_getElem? e) e1.symm)).trans I.here, I.low, hL⟩
/-- Row j is written, beside an iterator. -/
theorem sq_storeI (hg : Region.wanted o (yielded ops a.tmps) = true) (M : Has w0 L w) (I : Iter w0 L gi s pos w) (j : Nat) {g : Nat} {z cs : Array Value} {T : TypeId} (e : L[j]? = some (g, z, T)) (hv : ∀ w, IsR w g z T → ∃ w', (execOp a.eval o).run P w = .ok .skip w' ∧ Put g cs T w w')
    (h : ∀ K : Act → World → Prop, (∀ a w, Stay (wpList P ops Q rest a w) → K a w) → ∀ w', Has w0 (L.set j (g, cs, T)) w' → Iter w0 (L.set j (g, cs, T)) gi s pos w' → K (a.put o.dst undef) w') : Stay (wpList P ops Q (o :: rest) a w) :=
  ⟨wpList_step fun K hK' => by
    have hK : ∀ a w, Stay (wpList P ops Q rest a w) → K a w := fun a w h => hK' a w h.out
    rw [if_pos hg]
    unfold Oper.wp
    obtain ⟨w', hr, hp⟩ := hv w (M.row j e)
    rw [hr]
    refine h K hK _ (M.put j e hp) (I.put j e hp _ fun r hr => ?_)
    obtain ⟨i, hi⟩ := List.mem_iff_getElem?.1 hr
    by_cases hij : j = i
    · subst hij
      rw [List.getElem?_set_self (List.getElem?_eq_some_iff.1 e).1] at hi
      obtain rfl := Option.some.inj hi
      exact I.apart (g, z, T) (List.mem_of_getElem? e)
    · rw [List.getElem?_set_ne hij] at hi
      exact I.apart r (List.mem_of_getElem? hi)⟩
end
end Go.Proofs.Ytpjdojnbajoafaa
