/- The statement FracEnds: whatever the input, the law answers true, and the input reads as it did. No condition. -/
import Derived.Test.YtpjdojnbajoafaaRows
import Derived.Test.YtpjdojnbajoafaaFw
import Derived.Test.YtpjdojnbajoafaaFs
import Derived.ProofKit
import Derived.Carry
import Derived.Deep.Slices
import Derived.Lib.SmallJoins
namespace Go.Proofs.Ytpjdojnbajoafaa.fracEnds
open Go.ChangeShapes Go.WideShapes Go.ChangeAt Go.RowKit Go.Joins
theorem own : ownKnob Try.prog.godebug = none := by kernel_rfl
theorem laid : laidOutB Try.prog = true := by kernel_rfl
theorem toN (a : Int) (h : (Lit.int .u64 a).wf = true) : ∃ n : Nat, a = (n : Int) ∧ n < 2 ^ 64 := by
  have := bounds_u64 h
  exact ⟨a.toNat, by omega, by omega⟩
/-- The cells of a row of fractions, one after another. -/
def val (f : Nat → Nat × Nat × Nat) (j : Nat) : Value := if j % 3 = 0 then .int .u64 ((f (j / 3)).1 : Nat) else if j % 3 = 1 then .int .u64 ((f (j / 3)).2.1 : Nat) else .int .u64 ((f (j / 3)).2.2 : Nat)
theorem val0 (f : Nat → Nat × Nat × Nat) (k : Nat) : val f (3 * k) = .int .u64 ((f k).1 : Nat) := by
  unfold val
  rw [if_pos (by omega), show 3 * k / 3 = k by omega]
theorem val1 (f : Nat → Nat × Nat × Nat) (k : Nat) : val f (3 * k + 1) = .int .u64 ((f k).2.1 : Nat) := by
  unfold val
  rw [if_neg (by omega), if_pos (by omega), show (3 * k + 1) / 3 = k by omega]
theorem val2 (f : Nat → Nat × Nat × Nat) (k : Nat) : val f (3 * k + 2) = .int .u64 ((f k).2.2 : Nat) := by
  unfold val
  rw [if_neg (by omega), if_neg (by omega), show (3 * k + 2) / 3 = k by omega]
theorem val_one (f : Nat → Nat × Nat × Nat) (j : Nat) : (val f j).oneCell' = true := by
  unfold val
  split
  · rfl
  · split <;> rfl
theorem spotless {a : Addr} (h : a.spot = none) : a = ⟨a.block, a.off, none⟩ := by
  cases a
  simp at h
  simp [h]
theorem cell_lt {w : World} {a : Addr} {v : Value} (h : w.cell? a = some v) : a.block < w.heap.size := by
  unfold World.cell? at h
  cases e : w.heap[a.block]? with
  | none => simp [e] at h
  | some x => exact (Array.getElem?_eq_some_iff.1 e).1

theorem walk_row {a : Addr} {n cap : Nat} {f : Nat → Nat × Nat × Nat} {W : World} (hn : 0 < n)
    (hf : ∀ i, i < n → (f i).1 < 2 ^ 64 ∧ (f i).2.1 < 2 ^ 64 ∧ W.cell? (a.add (i * 3)) = some (.int .u64 ((f i).1 : Nat)) ∧ W.cell? (a.add (i * 3 + 1)) = some (.int .u64 ((f i).2.1 : Nat)) ∧ W.cell? (a.add (i * 3 + 2)) = some (.int .u64 ((f i).2.2 : Nat))) :
    Calls Try.prog 9 #[.slice (some a) n cap] W fun e w' => e = .returned (.bool true) ∧ Below W.heap.size W w' := by
  obtain ⟨_, _, h0, _, _⟩ := hf 0 hn
  rw [Nat.zero_mul, show a.add 0 = a by simp [Addr.add]] at h0
  have hsp := spotless (World.cell?_spot h0)
  have hb := cell_lt h0
  rw [hsp] at hf ⊢
  have hN : ∀ k, k < n → ((f k).1 * 2 ^ 64 + (f k).2.1) / 2 ^ 64 = (f k).1 ∧ ((f k).1 * 2 ^ 64 + (f k).2.1) % 2 ^ 64 = (f k).2.1 := fun k hk => by
    have h1 := (hf k hk).1
    have h2 := (hf k hk).2.1
    constructor <;> omega
  have hget : ∀ j u, ((List.range (n * 3)).map (val f))[j]? = some u → j < n * 3 ∧ u = val f j := fun j u hu => by
    rw [List.getElem?_map] at hu
    by_cases hj : j < n * 3
    · rw [List.getElem?_range hj] at hu
      simp at hu
      exact ⟨hj, hu.symm⟩
    · rw [List.getElem?_eq_none (by simpa using hj)] at hu
      cases hu
  have hput : ∀ j, j < n * 3 → ((List.range (n * 3)).map (val f))[j]? = some (val f j) := fun j hj => by
    rw [List.getElem?_map, List.getElem?_range hj]
    rfl
  refine fracends_any n cap a.block a.off ((List.range (n * 3)).map (val f)) (fun k => (f k).1 * 2 ^ 64 + (f k).2.1) (fun k => (f k).2.2) W hb (by simp) (fun u hu => ?_) (fun j u hu => ?_) (fun k hk => ⟨?_, ?_, ?_⟩)
  · obtain ⟨j, _, rfl⟩ := List.mem_map.1 hu
    exact val_one f j
  · obtain ⟨hj, rfl⟩ := hget j u hu
    obtain ⟨_, _, c0, c1, c2⟩ := hf (j / 3) (by omega)
    rcases (show j % 3 = 0 ∨ j % 3 = 1 ∨ j % 3 = 2 by omega) with g | g | g
    · have e : j = 3 * (j / 3) := by omega
      rw [e, val0, Nat.mul_comm 3]
      exact c0
    · have e : j = 3 * (j / 3) + 1 := by omega
      rw [e, val1, Nat.mul_comm 3]
      exact c1
    · have e : j = 3 * (j / 3) + 2 := by omega
      rw [e, val2, Nat.mul_comm 3]
      exact c2
  · rw [hput _ (by omega), val0, (hN k hk).1]
  · rw [hput _ (by omega), val1, (hN k hk).2]
  · rw [hput _ (by omega), val2]

section
variable {H : Type} {enc : TypeId × Value → H} {W : World}
theorem walk {v : Value} {d : DataW H} {p : List MemPlace} {b0 : Nat} (hv : Value.okWide Try.prog W .any b0 56 v) (h : DataW.Trod enc Try.prog W 0 (fun _ => true) true 56 v d p) :
    Calls Try.prog 9 #[v] W fun e w' => e = .returned (.bool true) ∧ Below W.heap.size W w' := by
  obtain ⟨a, n, cap, rfl⟩ := okWide_slice Try.underlying56 hv
  obtain ⟨fuel, hf⟩ := h
  rcases Deep.open_slice Try.underlying56 hf with ⟨hcs, _⟩ | ⟨a', len, cap', m, n', D, Pl, hcs, _, hle, _, hm, _, hi⟩
  · have : a = none ∧ n = 0 ∧ cap = 0 := by simpa [Value.cells] using hcs
    obtain ⟨rfl, rfl, rfl⟩ := this
    exact fracends_nil W
  · have : a = some a' ∧ n = len ∧ cap = cap' := by simpa [Value.cells] using hcs
    obtain ⟨rfl, rfl, rfl⟩ := this
    by_cases hn : 0 < n
    · have key : ∀ i, i < n → ∃ q : Nat × Nat × Nat, q.1 < 2 ^ 64 ∧ q.2.1 < 2 ^ 64 ∧ W.cell? (a'.add (i * 3)) = some (.int .u64 (q.1 : Nat)) ∧ W.cell? (a'.add (i * 3 + 1)) = some (.int .u64 (q.2.1 : Nat)) ∧ W.cell? (a'.add (i * 3 + 2)) = some (.int .u64 (q.2.2 : Nat)) := fun i hin => by
        have him : i < m := by rw [hm]; simp; omega
        obtain ⟨cs', h1, h2⟩ := hi i him
        obtain ⟨x, y, z, rfl, _, wx, wy, wz⟩ := frac_open h2
        obtain ⟨x, rfl, hx⟩ := toN x wx
        obtain ⟨y, rfl, hy⟩ := toN y wy
        obtain ⟨z, rfl, hz⟩ := toN z wz
        rw [c60] at h1
        obtain ⟨_, _, hc⟩ := World.cells?_some h1
        refine ⟨(x, y, z), hx, hy, ?_, ?_, ?_⟩
        · have := hc 0 (by decide)
          rwa [Deep.add_add] at this
        · have := hc 1 (by decide)
          rwa [Deep.add_add] at this
        · have := hc 2 (by decide)
          rwa [Deep.add_add] at this
      obtain ⟨f, hf⟩ := Deep.choose_lt key
      exact walk_row hn hf
    · obtain rfl : n = 0 := by omega
      exact fracends_zero cap a' W
end

set_option maxRecDepth 100000 in
theorem lifted (os : Os) (started : os.Started) (H : Type) (enc : TypeId × Value → H) :
    ReturnsInHanded {} Try.checked os 9 .any (Rows.fracEndsSpec.pre6 enc Try.prog Try.f9 Rows.fracEndsRow.domain false) (Rows.fracEndsSpec.post enc Try.prog Try.f9 false true false false) := by
  refine returnsInHanded_of_change (C := Try.checked) own started (by kernel_rfl) Try.func9
    (ChangeSpec.witness6 (enc := enc) (C := Try.checked) false ⟨#[], #[.slice none 0 0], []⟩ 8 (by kernel_rfl) (by kernel_rfl) (by kernel_rfl) (by kernel_rfl)) ?_
  intro W base args ds gs before hval0 hW hcnd _
  have hval : ∀ (j : Nat) t v, Try.f9.params[j]? = some t → args[j]? = some v → Value.okWide Try.prog W .any base t v := hval0
  have hW' := hW
  obtain ⟨p, q, hA0, hV, rfl, hfz, hnd⟩ := hW
  have hA : DataW.TrodAll enc Try.prog W 0 (fun _ => true) true Try.f9.params.toList args.toList ds p := hA0
  rw [Try.params9] at hA hval
  obtain ⟨v0, vs0, d0, ds0, p0, q0, hargs, rfl, rfl, h0, r0⟩ := trodAll_cons hA
  obtain ⟨rfl, rfl, rfl⟩ := trodAll_nil r0
  obtain rfl : args = #[v0] := by cases args; simp_all
  obtain ⟨rfl, rfl⟩ := trodVars_none hV
  have hv0 := hval 0 56 v0 rfl rfl
  clear hA0 hval0 hval hA
  simp only [List.append_nil] at hW'
  have hlt : ∀ x ∈ p0, x.block < W.heap.size := fun x hx => by simpa using hW'.lt x hx
  refine (walk hv0 h0).mono fun e W' ⟨he, hb⟩ => ?_
  subst he
  exact ⟨_, rfl, _, _, _, [], p0, [], hW', (trodAll_cons_mk (shut_bool Try.underlying4 _) trodAll_mk0),
    (by have h := trodAll_cons_mk (Below.trod laid (by kernel_rfl) (of_decide_eq_true (by kernel_rfl)) h0 hb hlt) trodAll_mk0; rwa [List.append_nil] at h), rfl, World.keptBut_mono (fun x hx => ⟨hx, .inr (.inl hx)⟩) (hb.frame (· ∈ p0)), fun h => by cases h⟩

theorem proved : Rows.FracEndsSaid :=
  OpenClaim.holds_of_wide 9 Try.f9 rfl rfl rfl rfl rfl rfl rfl ⟨rfl, rfl, rfl, rfl, rfl⟩ rfl rfl rfl rfl rfl (by kernel_rfl) Try.func9 (by kernel_rfl)
    (of_decide_eq_true (by kernel_rfl)) (by unfold Func.isWrapper; first | (rw [if_pos (by decide +kernel)]; kernel_rfl) | (rw [if_neg (by decide +kernel)]; exact ⟨rfl, rfl⟩))
    (fun os started H enc _ => lifted os started H enc)
#print axioms proved
end Go.Proofs.Ytpjdojnbajoafaa.fracEnds
