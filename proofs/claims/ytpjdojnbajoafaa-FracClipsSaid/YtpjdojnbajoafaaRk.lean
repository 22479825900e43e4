/- The statement FracClips: whatever the input, the law answers true, and the input reads as it did. No condition. -/
import Derived.Test.YtpjdojnbajoafaaRows
import Derived.Test.YtpjdojnbajoafaaFr
import Derived.Test.YtpjdojnbajoafaaFs
import Derived.ProofKit
import Derived.Lib.SmallJoins
namespace Go.Proofs.Ytpjdojnbajoafaa.fracClips
open Go.ChangeShapes Go.WideShapes Go.ChangeAt Go.RowKit Go.Joins
theorem own : ownKnob Try.prog.godebug = none := by kernel_rfl
theorem toN (a : Int) (h : (Lit.int .u64 a).wf = true) : ∃ n : Nat, a = (n : Int) ∧ n < 2 ^ 64 := by
  have := bounds_u64 h
  exact ⟨a.toNat, by omega, by omega⟩
theorem fv_nf {h l x : Nat} (hh : h < 2 ^ 64) (hl : l < 2 ^ 64) : ∃ n, n < 2 ^ 128 ∧ fv h l x = nf n x := by
  refine ⟨h * 2 ^ 64 + l, by omega, ?_⟩
  have e1 : (h * 2 ^ 64 + l) / 2 ^ 64 = h := by omega
  have e2 : (h * 2 ^ 64 + l) % 2 ^ 64 = l := by omega
  show fv h l x = fv _ _ x
  rw [e1, e2]

theorem walk (a00 a01 a02 : Int) (w00 : (Lit.int .u64 a00).wf = true) (w01 : (Lit.int .u64 a01).wf = true) (w02 : (Lit.int .u64 a02).wf = true) (a10 a11 a12 : Int) (w10 : (Lit.int .u64 a10).wf = true) (w11 : (Lit.int .u64 a11).wf = true) (w12 : (Lit.int .u64 a12).wf = true) (a2 : Int) (w2 : (Lit.int .u64 a2).wf = true) (w : World) :
    Calls Try.prog 14 #[.agg #[.int .u64 a00, .int .u64 a01, .int .u64 a02], .agg #[.int .u64 a10, .int .u64 a11, .int .u64 a12], .int .u64 a2] w fun e w' => e = .returned (.bool true) ∧ Below w.heap.size w w' := by
  obtain ⟨h0, rfl, hh0⟩ := toN a00 w00
  obtain ⟨l0, rfl, hl0⟩ := toN a01 w01
  obtain ⟨x0, rfl, hx0⟩ := toN a02 w02
  obtain ⟨n0, hn0, e0⟩ := fv_nf (x := x0) hh0 hl0
  rw [show (Value.agg #[.int .u64 (h0 : Nat), .int .u64 (l0 : Nat), .int .u64 (x0 : Nat)]) = nf n0 x0 from e0]
  obtain ⟨h1, rfl, hh1⟩ := toN a10 w10
  obtain ⟨l1, rfl, hl1⟩ := toN a11 w11
  obtain ⟨x1, rfl, hx1⟩ := toN a12 w12
  obtain ⟨n1, hn1, e1⟩ := fv_nf (x := x1) hh1 hl1
  rw [show (Value.agg #[.int .u64 (h1 : Nat), .int .u64 (l1 : Nat), .int .u64 (x1 : Nat)]) = nf n1 x1 from e1]
  obtain ⟨k2, rfl, hk2⟩ := toN a2 w2
  exact fracclips_any n0 x0 n1 x1 k2 w hn0 hn1 hk2

set_option maxRecDepth 100000 in
theorem lifted (os : Os) (started : os.Started) (H : Type) (enc : TypeId × Value → H) :
    ReturnsInHanded {} Try.checked os 14 .any (Rows.fracClipsSpec.pre6 enc Try.prog Try.f14 Rows.fracClipsRow.domain false) (Rows.fracClipsSpec.post enc Try.prog Try.f14 false true false false) := by
  refine returnsInHanded_of_change (C := Try.checked) own started (by kernel_rfl) Try.func14
    (ChangeSpec.witness6 (enc := enc) (C := Try.checked) false ⟨#[], #[.agg #[.int .u64 0, .int .u64 0, .int .u64 0], .agg #[.int .u64 0, .int .u64 0, .int .u64 0], .int .u64 0], []⟩ 8 (by kernel_rfl) (by kernel_rfl) (by kernel_rfl) (by kernel_rfl)) ?_
  intro W base args ds gs before hval0 hW hcnd _
  have hval : ∀ (j : Nat) t v, Try.f14.params[j]? = some t → args[j]? = some v → Value.okWide Try.prog W .any base t v := hval0
  have hW' := hW
  obtain ⟨p, q, hA0, hV, rfl, hfz, hnd⟩ := hW
  have hA : DataW.TrodAll enc Try.prog W 0 (fun _ => true) true Try.f14.params.toList args.toList ds p := hA0
  rw [Try.params14] at hA hval
  obtain ⟨v0, vs0, d0, ds0, p0, q0, hargs, rfl, rfl, h0, r0⟩ := trodAll_cons hA
  obtain ⟨v1, vs1, d1, ds1, p1, q1, rfl, rfl, rfl, h1, r1⟩ := trodAll_cons r0
  obtain ⟨v2, vs2, d2, ds2, p2, q2, rfl, rfl, rfl, h2, r2⟩ := trodAll_cons r1
  obtain ⟨rfl, rfl, rfl⟩ := trodAll_nil r2
  obtain rfl : args = #[v0, v1, v2] := by cases args; simp_all
  obtain ⟨rfl, rfl⟩ := trodVars_none hV
  obtain ⟨a00, a01, a02, rfl, rfl, rfl, w00, w01, w02⟩ := open_frac (hval 0 60 v0 rfl rfl) h0
  obtain ⟨a10, a11, a12, rfl, rfl, rfl, w10, w11, w12⟩ := open_frac (hval 1 60 v1 rfl rfl) h1
  obtain ⟨a2, rfl, rfl, rfl, w2⟩ := open_int Try.underlying22 (hval 2 22 v2 rfl rfl) h2
  clear hA0 hval0
  simp only [List.append_nil] at hW'
  refine (walk a00 a01 a02 w00 w01 w02 a10 a11 a12 w10 w11 w12 a2 w2 W).mono fun e W' ⟨he, hb⟩ => ?_
  subst he
  exact ⟨_, rfl, _, _, _, [], [], [], hW', (trodAll_cons_mk (shut_bool Try.underlying4 _) trodAll_mk0), (trodAll_cons_mk (shut_frac w00 w01 w02) (trodAll_cons_mk (shut_frac w10 w11 w12) (trodAll_cons_mk (shut_int Try.underlying22 w2) trodAll_mk0))), rfl, hb.frame _, fun h => by cases h⟩

theorem proved : Rows.FracClipsSaid :=
  OpenClaim.holds_of_wide 14 Try.f14 rfl rfl rfl rfl rfl rfl rfl ⟨rfl, rfl, rfl, rfl, rfl⟩ rfl rfl rfl rfl rfl (by kernel_rfl) Try.func14 (by kernel_rfl)
    (of_decide_eq_true (by kernel_rfl)) (by unfold Func.isWrapper; first | (rw [if_pos (by decide +kernel)]; kernel_rfl) | (rw [if_neg (by decide +kernel)]; exact ⟨rfl, rfl⟩))
    (fun os started H enc _ => lifted os started H enc)
#print axioms proved
end Go.Proofs.Ytpjdojnbajoafaa.fracClips
