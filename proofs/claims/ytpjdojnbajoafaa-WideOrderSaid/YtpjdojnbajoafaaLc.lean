/- The law WideOrder: it answers true, whatever the input. -/
import Derived.Test.YtpjdojnbajoafaaWr
namespace Go.Proofs.Ytpjdojnbajoafaa
open Go.RowKit

/-- What Compare hands back, in any world. -/
def Cmp (h l H L : Nat) (z : Int) : Prop := ∀ w, Calls Try.prog 23 #[.agg #[.int .u64 h, .int .u64 l], .agg #[.int .u64 H, .int .u64 L]] w fun e w' => e = .returned (.int .i64 z) ∧ Below w.heap.size w w'
theorem cmp_mk (h l H L n m : Nat) (hl : l < 2 ^ 64) (hL : L < 2 ^ 64) (hn : h * 2 ^ 64 + l = n) (hm : H * 2 ^ 64 + L = m) : Cmp h l H L (c3 n m) := fun w => by
  have := wCompare_any h l H L w
  rwa [cW_eq h l H L n m hl hL hn hm] at this
theorem c3_lt {a b : Nat} (h : a < b) : c3 a b = -1 := if_pos (by omega)
theorem c3_gt {a b : Nat} (h : b < a) : c3 a b = 1 := by unfold c3; rw [if_neg (by omega), if_pos (by omega)]
theorem c3_eq (a : Nat) : c3 a a = 0 := by unfold c3; rw [if_neg (by omega), if_neg (by omega)]

/-- What the machine answers when it compares two Wide values part by part. -/
def EqW (h l H L : Nat) (z : Bool) : Prop := ∀ x : World, (if (h : Int) = H then if (l : Int) = L then Result.ok (Next.value (Value.bool true)) x else Result.ok (Next.value (Value.bool false)) x else Result.ok (Next.value (Value.bool false)) x) = Result.ok (Next.value (Value.bool z)) x

section
variable {W : World} {w : World} {ga gb gc : Nat} {h l H L X Y : Int}
/-- The three boxes, and the memory that was there. -/
@[reducible] def Three (w : World) (ga gb gc : Nat) (h l H L X Y : Int) (w' : World) : Prop := IsW w' ga h l ∧ IsW w' gb H L ∧ IsW w' gc X Y ∧ Below w.heap.size w w'
theorem Three.kept {w1 w2 : World} (h1 : Three w ga gb gc h l H L X Y w1) (hb : Below w1.heap.size w1 w2) : Three w ga gb gc h l H L X Y w2 :=
  ⟨h1.1.kept hb, h1.2.1.kept hb, h1.2.2.1.kept hb, Below.two h1.2.2.2 (Nat.le_refl _) hb⟩
end

/-- What Add hands back, in any world. -/
def Adds (h l H L v : Nat) : Prop := ∀ w, Calls Try.prog 24 #[.agg #[.int .u64 h, .int .u64 l], .agg #[.int .u64 H, .int .u64 L]] w fun e w' =>
      ∃ h' l' c : Nat, e = .returned (.tuple #[.agg #[.int .u64 h', .int .u64 l'], .int .i64 c]) ∧ h' < 2 ^ 64 ∧ l' < 2 ^ 64 ∧ sclRes v h' l' c ∧ Below w.heap.size w w'
/-- The two sums compare as told. -/
def Both (v v' P Q R S : Nat) (s : Int) : Prop := Q < 2 ^ 64 → S < 2 ^ 64 → sclRes v P Q 0 → sclRes v' R S 0 → Cmp P Q R S s
theorem scl_err {v h l c : Nat} (hs : sclRes v h l c) : c = 0 ∨ c = 131 := by
  unfold sclRes at hs
  split at hs
  · exact .inl hs.2
  · exact .inr hs.2.2

section
variable {w : World} {ga gb gx gy : Nat} {h l H L P Q R S : Int}
/-- The four boxes, and the memory that was there. -/
@[reducible] def Four (w : World) (ga gb gx gy : Nat) (h l H L P Q R S : Int) (w' : World) : Prop := IsW w' ga h l ∧ IsW w' gb H L ∧ IsW w' gx P Q ∧ IsW w' gy R S ∧ Below w.heap.size w w'
theorem Four.kept {w1 w2 : World} (h1 : Four w ga gb gx gy h l H L P Q R S w1) (hb : Below w1.heap.size w1 w2) : Four w ga gb gx gy h l H L P Q R S w2 :=
  ⟨h1.1.kept hb, h1.2.1.kept hb, h1.2.2.1.kept hb, h1.2.2.2.1.kept hb, Below.two h1.2.2.2.2 (Nat.le_refl _) hb⟩
theorem four_mk {gc : Nat} {X Y : Int} {w4 w5 : World} (h4 : Three w ga gb gc h l H L X Y w4) (hx : IsW w4 gx P Q) (hb : Below w4.heap.size w4 w5) (hy : gy = w5.heap.size) :
    Four w ga gb gx gy h l H L P Q R S (w5.alloc (Obj.cells #[.int .u64 R, .int .u64 S] 24)).drew := by
  have hk : Below w4.heap.size w4 (w5.alloc (Obj.cells #[.int .u64 R, .int .u64 S] 24)) := hb.alloc hb.size _
  have h5 := Three.kept h4 hk
  have h6 : IsW w4 gx P Q → IsW (w5.alloc (Obj.cells #[.int .u64 R, .int .u64 S] 24)) gx P Q := fun h => h.kept hk
  have h7 : IsW (w5.alloc (Obj.cells #[.int .u64 R, .int .u64 S] 24)) gy R S := by subst hy; unfold IsW IsR; exact (by repeat (first | (with_reducible refine heap_top _ _ _ ?_; first | (simp; done) | (simp; omega)) | rw [Below.heap_alloc _ _ _ (by first | (simp; done) | (simp; omega))]))
  exact ⟨h5.1, h5.2.1, h6 hx, h7, h5.2.2.2.drew⟩
end

set_option maxRecDepth 100000 in
set_option maxHeartbeats 1000000 in
theorem wideorder_walk (h l H L X Y : Nat) (n m k : Nat) (s t u v : Int) (z : Bool) (w : World) (HAB : Hid (Cmp h l H L s)) (HBA : Hid (Cmp H L h l t)) (HAA : Hid (Cmp h l h l 0)) (HBC : Hid (Cmp H L X Y u)) (HAC : Hid (Cmp h l X Y v))
    (e1 : (s != IntKind.i64.wrap (-t)) = false) (e2 : (s == 0) = z) (e3 : EqW h l H L z) (e4 : ¬ (s ≤ 0 ∧ u ≤ 0 ∧ 0 < v))
    (HADA : Hid (Adds h l X Y (n + k))) (HADB : Hid (Adds H L X Y (m + k))) (hXY : ∀ P Q R S, Both (n + k) (m + k) P Q R S s) :
    Calls Try.prog 5 #[.agg #[.int .u64 h, .int .u64 l], .agg #[.int .u64 H, .int .u64 L], .agg #[.int .u64 X, .int .u64 Y]] w fun e w' => e = .returned (.bool true) ∧ Below w.heap.size w w' := by
  have E1 := Lib.hid e1; have E2 := Lib.hid e2; have E3 := Lib.hid e3; have E4 := Lib.hid e4
  clear e1 e2 e3 e4
  go_enter Try.func5, Try.ntmps5
  go_wp2_with fail
  refine (wakes_any _).mono ?_
  rintro e w1 ⟨rfl, hb1⟩
  have t1 : Three w w.heap.size (w.heap.size + 1) (w.heap.size + 1 + 1) h l H L X Y w1 :=
    ⟨IsR.kept (by unfold IsR; exact (by repeat (first | (with_reducible refine heap_top _ _ _ ?_; first | (simp; done) | (simp; omega)) | rw [Below.heap_alloc _ _ _ (by first | (simp; done) | (simp; omega))]))) hb1, IsR.kept (by unfold IsR; exact (by repeat (first | (with_reducible refine heap_top _ _ _ ?_; first | (simp; done) | (simp; omega)) | rw [Below.heap_alloc _ _ _ (by first | (simp; done) | (simp; omega))]))) hb1, IsR.kept (by unfold IsR; exact (by repeat (first | (with_reducible refine heap_top _ _ _ ?_; first | (simp; done) | (simp; omega)) | rw [Below.heap_alloc _ _ _ (by first | (simp; done) | (simp; omega))]))) hb1, Below.two ((((Below.refl _ _).alloc (Nat.le_refl _) _).alloc (by simp) _).alloc (by simp; omega) _) (Nat.le_refl _) hb1⟩
  clear hb1
  go_wp2_with fail
  have hinit : Three w w.heap.size (w.heap.size + 1) (w.heap.size + 1 + 1) h l H L X Y w1.drew := ⟨t1.1, t1.2.1, t1.2.2.1, t1.2.2.2.drew⟩
  clear t1
  generalize hga : w.heap.size = ga at hinit ⊢
  generalize hgb : ga + 1 = gb at hinit ⊢
  generalize hgc : gb + 1 = gc at hinit ⊢
  clear hga hgb hgc
  have e1 := E1.out; have e2 := E2.out
  refine wp_region_calm (fun _ w' => Three w ga gb gc h l H L X Y w') (by kernel_rfl) (by kernel_rfl) hinit ?_
  refine calmW_load (by go_simp) (.tmp 3) rfl ga h l rfl (fun _ _ h => h.1) (fun _ _ h _ => h) (fun K hK => ?_); (go_simp; refine hK _ ?_; clear hK K)
  refine calmW_load (by go_simp) (.tmp 4) rfl gb H L rfl (fun _ _ h => h.2.1) (fun _ _ h _ => h) (fun K hK => ?_); (go_simp; refine hK _ ?_; clear hK K)
  refine calm_call' (by go_simp) (.int .i64 s) 23 #[.agg #[.int .u64 h, .int .u64 l], .agg #[.int .u64 H, .int .u64 L]] (fun w' => by go_simp) (fun _ w' h3 _ => (HAB.out w').mono fun e w'' hh => ⟨hh.1, Three.kept h3 hh.2⟩) (fun K hK => ?_); (go_simp; refine hK _ ?_; clear hK K)
  refine calmW_load (by go_simp) (.tmp 4) rfl gb H L rfl (fun _ _ h => h.2.1) (fun _ _ h _ => h) (fun K hK => ?_); (go_simp; refine hK _ ?_; clear hK K)
  refine calmW_load (by go_simp) (.tmp 3) rfl ga h l rfl (fun _ _ h => h.1) (fun _ _ h _ => h) (fun K hK => ?_); (go_simp; refine hK _ ?_; clear hK K)
  refine calm_call' (by go_simp) (.int .i64 t) 23 #[.agg #[.int .u64 H, .int .u64 L], .agg #[.int .u64 h, .int .u64 l]] (fun w' => by go_simp) (fun _ w' h3 _ => (HBA.out w').mono fun e w'' hh => ⟨hh.1, Three.kept h3 hh.2⟩) (fun K hK => ?_); (go_simp; refine hK _ ?_; clear hK K)
  iterate 3 (refine calm_ex (by go_simp) (fun _ _ h _ => h) (fun K hK => ?_); apply Exists.intro; refine ⟨fun _ _ _ _ => ?_, ?_⟩; (focus (go_simp; try exact rfl)); (go_simp; refine hK _ ?_; clear hK K))
  refine calmW_load (by go_simp) (.tmp 3) rfl ga h l rfl (fun _ _ h => h.1) (fun _ _ h _ => h) (fun K hK => ?_); (go_simp; refine hK _ ?_; clear hK K)
  refine calmW_load (by go_simp) (.tmp 3) rfl ga h l rfl (fun _ _ h => h.1) (fun _ _ h _ => h) (fun K hK => ?_); (go_simp; refine hK _ ?_; clear hK K)
  refine calm_call' (by go_simp) (.int .i64 0) 23 #[.agg #[.int .u64 h, .int .u64 l], .agg #[.int .u64 h, .int .u64 l]] (fun w' => by go_simp) (fun _ w' h3 _ => (HAA.out w').mono fun e w'' hh => ⟨hh.1, Three.kept h3 hh.2⟩) (fun K hK => ?_); (go_simp; refine hK _ ?_; clear hK K)
  iterate 3 (refine calm_ex (by go_simp) (fun _ _ h _ => h) (fun K hK => ?_); apply Exists.intro; refine ⟨fun _ _ _ _ => ?_, ?_⟩; (focus (go_simp; try exact rfl)); (go_simp; refine hK _ ?_; clear hK K))
  refine calmW_load (by go_simp) (.tmp 3) rfl ga h l rfl (fun _ _ h => h.1) (fun _ _ h _ => h) (fun K hK => ?_); (go_simp; refine hK _ ?_; clear hK K)
  refine calmW_load (by go_simp) (.tmp 4) rfl gb H L rfl (fun _ _ h => h.2.1) (fun _ _ h _ => h) (fun K hK => ?_); (go_simp; refine hK _ ?_; clear hK K)
  refine calm_call' (by go_simp) (.int .i64 s) 23 #[.agg #[.int .u64 h, .int .u64 l], .agg #[.int .u64 H, .int .u64 L]] (fun w' => by go_simp) (fun _ w' h3 _ => (HAB.out w').mono fun e w'' hh => ⟨hh.1, Three.kept h3 hh.2⟩) (fun K hK => ?_); (go_simp; refine hK _ ?_; clear hK K)
  (refine calm_ex (by go_simp) (fun _ _ h _ => h) (fun K hK => ?_); apply Exists.intro; refine ⟨fun _ _ _ _ => ?_, ?_⟩; (focus (go_simp; try exact rfl)); (go_simp; refine hK _ ?_; clear hK K))
  refine calmW_load (by go_simp) (.tmp 3) rfl ga h l rfl (fun _ _ h => h.1) (fun _ _ h _ => h) (fun K hK => ?_); (go_simp; refine hK _ ?_; clear hK K)
  refine calmW_load (by go_simp) (.tmp 4) rfl gb H L rfl (fun _ _ h => h.2.1) (fun _ _ h _ => h) (fun K hK => ?_); (go_simp; refine hK _ ?_; clear hK K)
  (refine calm_ex (by go_simp) (fun _ _ h _ => h) (fun K hK => ?_); refine Exists.intro (.bool z) ?_; refine ⟨fun _ _ _ _ => ?_, ?_⟩; (focus (go_simp; exact E3.out _)); (go_simp; refine hK _ ?_; clear hK K))
  iterate 2 (refine calm_ex (by go_simp) (fun _ _ h _ => h) (fun K hK => ?_); apply Exists.intro; refine ⟨fun _ _ _ _ => ?_, ?_⟩; (focus (go_simp; try exact rfl)); (go_simp; refine hK _ ?_; clear hK K))
  refine calm_nil ?_
  rintro w2 _ T -
  clear e1 e2 hinit
  have ca := IsR.cell T.1; have cb := IsR.cell T.2.1; have cc := IsR.cell T.2.2.1
  go_wp2_with fail
  refine (HAB.out _).mono ?_
  rintro e w3 ⟨rfl, hb3⟩
  replace T := Three.kept T hb3
  clear hb3 ca cb cc
  have ca := IsR.cell T.1; have cb := IsR.cell T.2.1; have cc := IsR.cell T.2.2.1
  rcases Int.lt_or_le 0 s with hs | hs
  · go_wp2_with fail
    refine (HADA.out _).mono ?_
    rintro e w4 ⟨P, Q, c, rfl, _, hQ, hs1, hb4⟩
    obtain ⟨gx, hgx⟩ : ∃ gx, gx = w4.heap.size := ⟨_, rfl⟩
    have rx : IsW (w4.alloc (Obj.cells #[.int .u64 P, .int .u64 Q] 24)) gx P Q := by subst hgx; unfold IsW IsR; exact (by repeat (first | (with_reducible refine heap_top _ _ _ ?_; first | (simp; done) | (simp; omega)) | rw [Below.heap_alloc _ _ _ (by first | (simp; done) | (simp; omega))]))
    have t4 : Three w ga gb gc h l H L X Y (w4.alloc (Obj.cells #[.int .u64 P, .int .u64 Q] 24)) := Three.kept T (hb4.alloc hb4.size _)
    clear T hb4 ca cb cc
    have ca := IsR.cell t4.1; have cb := IsR.cell t4.2.1; have cc := IsR.cell t4.2.2.1
    go_wp2_with fail
    refine (HADB.out _).mono ?_
    rintro e w5 ⟨R, S, d, rfl, _, hS, hs2, hb5⟩
    obtain ⟨gy, hgy⟩ : ∃ gy, gy = w5.heap.size := ⟨_, rfl⟩
    have hinit : Four w ga gb gx gy h l H L P Q R S (w5.alloc (Obj.cells #[.int .u64 R, .int .u64 S] 24)).drew := four_mk t4 rx hb5 hgy
    have hXY := Lib.hid (hXY P Q R S hQ hS)
    have hs1 := Lib.hid hs1; have hs2 := Lib.hid hs2
    clear t4 rx hb5 ca cb cc hQ hS
    go_wp2_with fail
    rw [← hgx, ← hgy]
    clear hgx hgy
    rcases scl_err hs1.out with rfl | rfl
    · rcases scl_err hs2.out with rfl | rfl
      · have hXY := Lib.hid (hXY.out hs1.out hs2.out)
        refine wp_region_calm (fun _ w' => Four w ga gb gx gy h l H L P Q R S w') (by kernel_rfl) (by kernel_rfl) hinit ?_
        iterate 7 (refine calm_ex (by go_simp) (fun _ _ h _ => h) (fun K hK => ?_); apply Exists.intro; refine ⟨fun _ _ _ _ => ?_, ?_⟩; (focus (go_simp; try exact rfl)); (go_simp; refine hK _ ?_; clear hK K))
        refine calmW_load (by go_simp) (.tmp 7) rfl gx P Q rfl (fun _ _ h => h.2.2.1) (fun _ _ h _ => h) (fun K hK => ?_); (go_simp; refine hK _ ?_; clear hK K)
        refine calmW_load (by go_simp) (.tmp 9) rfl gy R S rfl (fun _ _ h => h.2.2.2.1) (fun _ _ h _ => h) (fun K hK => ?_); (go_simp; refine hK _ ?_; clear hK K)
        refine calm_call' (by go_simp) (.int .i64 s) 23 #[.agg #[.int .u64 P, .int .u64 Q], .agg #[.int .u64 R, .int .u64 S]] (fun w' => by go_simp) (fun _ w' h3 _ => (hXY.out w').mono fun e w'' hh => ⟨hh.1, Four.kept h3 hh.2⟩) (fun K hK => ?_); (go_simp; refine hK _ ?_; clear hK K)
        refine calmW_load (by go_simp) (.tmp 3) rfl ga h l rfl (fun _ _ h => h.1) (fun _ _ h _ => h) (fun K hK => ?_); (go_simp; refine hK _ ?_; clear hK K)
        refine calmW_load (by go_simp) (.tmp 4) rfl gb H L rfl (fun _ _ h => h.2.1) (fun _ _ h _ => h) (fun K hK => ?_); (go_simp; refine hK _ ?_; clear hK K)
        refine calm_call' (by go_simp) (.int .i64 s) 23 #[.agg #[.int .u64 h, .int .u64 l], .agg #[.int .u64 H, .int .u64 L]] (fun w' => by go_simp) (fun _ w' h3 _ => (HAB.out w').mono fun e w'' hh => ⟨hh.1, Four.kept h3 hh.2⟩) (fun K hK => ?_); (go_simp; refine hK _ ?_; clear hK K)
        iterate 3 (refine calm_ex (by go_simp) (fun _ _ h _ => h) (fun K hK => ?_); apply Exists.intro; refine ⟨fun _ _ _ _ => ?_, ?_⟩; (focus (go_simp; try exact rfl)); (go_simp; refine hK _ ?_; clear hK K))
        refine calm_nil ?_
        rintro w7 _ t7 -
        go_wp2_with fail
        go_ret
        exact ⟨rfl, t7.2.2.2.2⟩
      · refine wp_region_calm (fun _ w' => Four w ga gb gx gy h l H L P Q R S w') (by kernel_rfl) (by kernel_rfl) hinit ?_
        iterate 7 (refine calm_ex (by go_simp) (fun _ _ h _ => h) (fun K hK => ?_); apply Exists.intro; refine ⟨fun _ _ _ _ => ?_, ?_⟩; (focus (go_simp; try exact rfl)); (go_simp; refine hK _ ?_; clear hK K))
        refine calm_not' (by go_simp) (fun _ _ h _ => h) (fun K hK => ?_); (go_simp; refine hK _ ?_; clear hK K)
        refine calm_not' (by go_simp) (fun _ _ h _ => h) (fun K hK => ?_); (go_simp; refine hK _ ?_; clear hK K)
        refine calm_not' (by go_simp) (fun _ _ h _ => h) (fun K hK => ?_); (go_simp; refine hK _ ?_; clear hK K)
        refine calm_not' (by go_simp) (fun _ _ h _ => h) (fun K hK => ?_); (go_simp; refine hK _ ?_; clear hK K)
        refine calm_not' (by go_simp) (fun _ _ h _ => h) (fun K hK => ?_); (go_simp; refine hK _ ?_; clear hK K)
        refine calm_not' (by go_simp) (fun _ _ h _ => h) (fun K hK => ?_); (go_simp; refine hK _ ?_; clear hK K)
        refine calm_not' (by go_simp) (fun _ _ h _ => h) (fun K hK => ?_); (go_simp; refine hK _ ?_; clear hK K)
        iterate 2 (refine calm_ex (by go_simp) (fun _ _ h _ => h) (fun K hK => ?_); apply Exists.intro; refine ⟨fun _ _ _ _ => ?_, ?_⟩; (focus (go_simp; try exact rfl)); (go_simp; refine hK _ ?_; clear hK K))
        refine calm_nil ?_
        rintro w7 _ t7 -
        go_wp2_with fail
        go_ret
        exact ⟨rfl, t7.2.2.2.2⟩
    · refine wp_region_calm (fun _ w' => Four w ga gb gx gy h l H L P Q R S w') (by kernel_rfl) (by kernel_rfl) hinit ?_
      iterate 3 (refine calm_ex (by go_simp) (fun _ _ h _ => h) (fun K hK => ?_); apply Exists.intro; refine ⟨fun _ _ _ _ => ?_, ?_⟩; (focus (go_simp; try exact rfl)); (go_simp; refine hK _ ?_; clear hK K))
      refine calm_not' (by go_simp) (fun _ _ h _ => h) (fun K hK => ?_); (go_simp; refine hK _ ?_; clear hK K)
      refine calm_not' (by go_simp) (fun _ _ h _ => h) (fun K hK => ?_); (go_simp; refine hK _ ?_; clear hK K)
      iterate 2 (refine calm_ex (by go_simp) (fun _ _ h _ => h) (fun K hK => ?_); apply Exists.intro; refine ⟨fun _ _ _ _ => ?_, ?_⟩; (focus (go_simp; try exact rfl)); (go_simp; refine hK _ ?_; clear hK K))
      refine calm_not' (by go_simp) (fun _ _ h _ => h) (fun K hK => ?_); (go_simp; refine hK _ ?_; clear hK K)
      refine calm_not' (by go_simp) (fun _ _ h _ => h) (fun K hK => ?_); (go_simp; refine hK _ ?_; clear hK K)
      refine calm_not' (by go_simp) (fun _ _ h _ => h) (fun K hK => ?_); (go_simp; refine hK _ ?_; clear hK K)
      refine calm_not' (by go_simp) (fun _ _ h _ => h) (fun K hK => ?_); (go_simp; refine hK _ ?_; clear hK K)
      refine calm_not' (by go_simp) (fun _ _ h _ => h) (fun K hK => ?_); (go_simp; refine hK _ ?_; clear hK K)
      refine calm_not' (by go_simp) (fun _ _ h _ => h) (fun K hK => ?_); (go_simp; refine hK _ ?_; clear hK K)
      refine calm_not' (by go_simp) (fun _ _ h _ => h) (fun K hK => ?_); (go_simp; refine hK _ ?_; clear hK K)
      iterate 2 (refine calm_ex (by go_simp) (fun _ _ h _ => h) (fun K hK => ?_); apply Exists.intro; refine ⟨fun _ _ _ _ => ?_, ?_⟩; (focus (go_simp; try exact rfl)); (go_simp; refine hK _ ?_; clear hK K))
      refine calm_nil ?_
      rintro w7 _ t7 -
      go_wp2_with fail
      go_ret
      exact ⟨rfl, t7.2.2.2.2⟩
  · go_wp2_with fail
    refine (HBC.out _).mono ?_
    rintro e w8 ⟨rfl, hb8⟩
    replace T := Three.kept T hb8
    clear hb8 ca cb cc
    have ca := IsR.cell T.1; have cb := IsR.cell T.2.1; have cc := IsR.cell T.2.2.1
    rcases Int.lt_or_le 0 u with hu | hu
    · go_wp2_with fail
      refine (HADA.out _).mono ?_
      rintro e w4 ⟨P, Q, c, rfl, _, hQ, hs1, hb4⟩
      obtain ⟨gx, hgx⟩ : ∃ gx, gx = w4.heap.size := ⟨_, rfl⟩
      have rx : IsW (w4.alloc (Obj.cells #[.int .u64 P, .int .u64 Q] 24)) gx P Q := by subst hgx; unfold IsW IsR; exact (by repeat (first | (with_reducible refine heap_top _ _ _ ?_; first | (simp; done) | (simp; omega)) | rw [Below.heap_alloc _ _ _ (by first | (simp; done) | (simp; omega))]))
      have t4 : Three w ga gb gc h l H L X Y (w4.alloc (Obj.cells #[.int .u64 P, .int .u64 Q] 24)) := Three.kept T (hb4.alloc hb4.size _)
      clear T hb4 ca cb cc
      have ca := IsR.cell t4.1; have cb := IsR.cell t4.2.1; have cc := IsR.cell t4.2.2.1
      go_wp2_with fail
      refine (HADB.out _).mono ?_
      rintro e w5 ⟨R, S, d, rfl, _, hS, hs2, hb5⟩
      obtain ⟨gy, hgy⟩ : ∃ gy, gy = w5.heap.size := ⟨_, rfl⟩
      have hinit : Four w ga gb gx gy h l H L P Q R S (w5.alloc (Obj.cells #[.int .u64 R, .int .u64 S] 24)).drew := four_mk t4 rx hb5 hgy
      have hXY := Lib.hid (hXY P Q R S hQ hS)
      have hs1 := Lib.hid hs1; have hs2 := Lib.hid hs2
      clear t4 rx hb5 ca cb cc hQ hS
      go_wp2_with fail
      rw [← hgx, ← hgy]
      clear hgx hgy
      rcases scl_err hs1.out with rfl | rfl
      · rcases scl_err hs2.out with rfl | rfl
        · have hXY := Lib.hid (hXY.out hs1.out hs2.out)
          refine wp_region_calm (fun _ w' => Four w ga gb gx gy h l H L P Q R S w') (by kernel_rfl) (by kernel_rfl) hinit ?_
          iterate 7 (refine calm_ex (by go_simp) (fun _ _ h _ => h) (fun K hK => ?_); apply Exists.intro; refine ⟨fun _ _ _ _ => ?_, ?_⟩; (focus (go_simp; try exact rfl)); (go_simp; refine hK _ ?_; clear hK K))
          refine calmW_load (by go_simp) (.tmp 7) rfl gx P Q rfl (fun _ _ h => h.2.2.1) (fun _ _ h _ => h) (fun K hK => ?_); (go_simp; refine hK _ ?_; clear hK K)
          refine calmW_load (by go_simp) (.tmp 9) rfl gy R S rfl (fun _ _ h => h.2.2.2.1) (fun _ _ h _ => h) (fun K hK => ?_); (go_simp; refine hK _ ?_; clear hK K)
          refine calm_call' (by go_simp) (.int .i64 s) 23 #[.agg #[.int .u64 P, .int .u64 Q], .agg #[.int .u64 R, .int .u64 S]] (fun w' => by go_simp) (fun _ w' h3 _ => (hXY.out w').mono fun e w'' hh => ⟨hh.1, Four.kept h3 hh.2⟩) (fun K hK => ?_); (go_simp; refine hK _ ?_; clear hK K)
          refine calmW_load (by go_simp) (.tmp 3) rfl ga h l rfl (fun _ _ h => h.1) (fun _ _ h _ => h) (fun K hK => ?_); (go_simp; refine hK _ ?_; clear hK K)
          refine calmW_load (by go_simp) (.tmp 4) rfl gb H L rfl (fun _ _ h => h.2.1) (fun _ _ h _ => h) (fun K hK => ?_); (go_simp; refine hK _ ?_; clear hK K)
          refine calm_call' (by go_simp) (.int .i64 s) 23 #[.agg #[.int .u64 h, .int .u64 l], .agg #[.int .u64 H, .int .u64 L]] (fun w' => by go_simp) (fun _ w' h3 _ => (HAB.out w').mono fun e w'' hh => ⟨hh.1, Four.kept h3 hh.2⟩) (fun K hK => ?_); (go_simp; refine hK _ ?_; clear hK K)
          iterate 3 (refine calm_ex (by go_simp) (fun _ _ h _ => h) (fun K hK => ?_); apply Exists.intro; refine ⟨fun _ _ _ _ => ?_, ?_⟩; (focus (go_simp; try exact rfl)); (go_simp; refine hK _ ?_; clear hK K))
          refine calm_nil ?_
          rintro w7 _ t7 -
          go_wp2_with fail
          go_ret
          exact ⟨rfl, t7.2.2.2.2⟩
        · refine wp_region_calm (fun _ w' => Four w ga gb gx gy h l H L P Q R S w') (by kernel_rfl) (by kernel_rfl) hinit ?_
          iterate 7 (refine calm_ex (by go_simp) (fun _ _ h _ => h) (fun K hK => ?_); apply Exists.intro; refine ⟨fun _ _ _ _ => ?_, ?_⟩; (focus (go_simp; try exact rfl)); (go_simp; refine hK _ ?_; clear hK K))
          refine calm_not' (by go_simp) (fun _ _ h _ => h) (fun K hK => ?_); (go_simp; refine hK _ ?_; clear hK K)
          refine calm_not' (by go_simp) (fun _ _ h _ => h) (fun K hK => ?_); (go_simp; refine hK _ ?_; clear hK K)
          refine calm_not' (by go_simp) (fun _ _ h _ => h) (fun K hK => ?_); (go_simp; refine hK _ ?_; clear hK K)
          refine calm_not' (by go_simp) (fun _ _ h _ => h) (fun K hK => ?_); (go_simp; refine hK _ ?_; clear hK K)
          refine calm_not' (by go_simp) (fun _ _ h _ => h) (fun K hK => ?_); (go_simp; refine hK _ ?_; clear hK K)
          refine calm_not' (by go_simp) (fun _ _ h _ => h) (fun K hK => ?_); (go_simp; refine hK _ ?_; clear hK K)
          refine calm_not' (by go_simp) (fun _ _ h _ => h) (fun K hK => ?_); (go_simp; refine hK _ ?_; clear hK K)
          iterate 2 (refine calm_ex (by go_simp) (fun _ _ h _ => h) (fun K hK => ?_); apply Exists.intro; refine ⟨fun _ _ _ _ => ?_, ?_⟩; (focus (go_simp; try exact rfl)); (go_simp; refine hK _ ?_; clear hK K))
          refine calm_nil ?_
          rintro w7 _ t7 -
          go_wp2_with fail
          go_ret
          exact ⟨rfl, t7.2.2.2.2⟩
      · refine wp_region_calm (fun _ w' => Four w ga gb gx gy h l H L P Q R S w') (by kernel_rfl) (by kernel_rfl) hinit ?_
        iterate 3 (refine calm_ex (by go_simp) (fun _ _ h _ => h) (fun K hK => ?_); apply Exists.intro; refine ⟨fun _ _ _ _ => ?_, ?_⟩; (focus (go_simp; try exact rfl)); (go_simp; refine hK _ ?_; clear hK K))
        refine calm_not' (by go_simp) (fun _ _ h _ => h) (fun K hK => ?_); (go_simp; refine hK _ ?_; clear hK K)
        refine calm_not' (by go_simp) (fun _ _ h _ => h) (fun K hK => ?_); (go_simp; refine hK _ ?_; clear hK K)
        iterate 2 (refine calm_ex (by go_simp) (fun _ _ h _ => h) (fun K hK => ?_); apply Exists.intro; refine ⟨fun _ _ _ _ => ?_, ?_⟩; (focus (go_simp; try exact rfl)); (go_simp; refine hK _ ?_; clear hK K))
        refine calm_not' (by go_simp) (fun _ _ h _ => h) (fun K hK => ?_); (go_simp; refine hK _ ?_; clear hK K)
        refine calm_not' (by go_simp) (fun _ _ h _ => h) (fun K hK => ?_); (go_simp; refine hK _ ?_; clear hK K)
        refine calm_not' (by go_simp) (fun _ _ h _ => h) (fun K hK => ?_); (go_simp; refine hK _ ?_; clear hK K)
        refine calm_not' (by go_simp) (fun _ _ h _ => h) (fun K hK => ?_); (go_simp; refine hK _ ?_; clear hK K)
        refine calm_not' (by go_simp) (fun _ _ h _ => h) (fun K hK => ?_); (go_simp; refine hK _ ?_; clear hK K)
        refine calm_not' (by go_simp) (fun _ _ h _ => h) (fun K hK => ?_); (go_simp; refine hK _ ?_; clear hK K)
        refine calm_not' (by go_simp) (fun _ _ h _ => h) (fun K hK => ?_); (go_simp; refine hK _ ?_; clear hK K)
        iterate 2 (refine calm_ex (by go_simp) (fun _ _ h _ => h) (fun K hK => ?_); apply Exists.intro; refine ⟨fun _ _ _ _ => ?_, ?_⟩; (focus (go_simp; try exact rfl)); (go_simp; refine hK _ ?_; clear hK K))
        refine calm_nil ?_
        rintro w7 _ t7 -
        go_wp2_with fail
        go_ret
        exact ⟨rfl, t7.2.2.2.2⟩
    · go_wp2_with fail
      refine (HAC.out _).mono ?_
      rintro e w9 ⟨rfl, hb9⟩
      replace T := Three.kept T hb9
      clear hb9 ca cb cc
      have ca := IsR.cell T.1; have cb := IsR.cell T.2.1; have cc := IsR.cell T.2.2.1
      have hv : v ≤ 0 := by have := E4.out; omega
      go_wp2_with fail
      refine (HADA.out _).mono ?_
      rintro e w4 ⟨P, Q, c, rfl, _, hQ, hs1, hb4⟩
      obtain ⟨gx, hgx⟩ : ∃ gx, gx = w4.heap.size := ⟨_, rfl⟩
      have rx : IsW (w4.alloc (Obj.cells #[.int .u64 P, .int .u64 Q] 24)) gx P Q := by subst hgx; unfold IsW IsR; exact (by repeat (first | (with_reducible refine heap_top _ _ _ ?_; first | (simp; done) | (simp; omega)) | rw [Below.heap_alloc _ _ _ (by first | (simp; done) | (simp; omega))]))
      have t4 : Three w ga gb gc h l H L X Y (w4.alloc (Obj.cells #[.int .u64 P, .int .u64 Q] 24)) := Three.kept T (hb4.alloc hb4.size _)
      clear T hb4 ca cb cc
      have ca := IsR.cell t4.1; have cb := IsR.cell t4.2.1; have cc := IsR.cell t4.2.2.1
      go_wp2_with fail
      refine (HADB.out _).mono ?_
      rintro e w5 ⟨R, S, d, rfl, _, hS, hs2, hb5⟩
      obtain ⟨gy, hgy⟩ : ∃ gy, gy = w5.heap.size := ⟨_, rfl⟩
      have hinit : Four w ga gb gx gy h l H L P Q R S (w5.alloc (Obj.cells #[.int .u64 R, .int .u64 S] 24)).drew := four_mk t4 rx hb5 hgy
      have hXY := Lib.hid (hXY P Q R S hQ hS)
      have hs1 := Lib.hid hs1; have hs2 := Lib.hid hs2
      clear t4 rx hb5 ca cb cc hQ hS
      go_wp2_with fail
      rw [← hgx, ← hgy]
      clear hgx hgy
      rcases scl_err hs1.out with rfl | rfl
      · rcases scl_err hs2.out with rfl | rfl
        · have hXY := Lib.hid (hXY.out hs1.out hs2.out)
          refine wp_region_calm (fun _ w' => Four w ga gb gx gy h l H L P Q R S w') (by kernel_rfl) (by kernel_rfl) hinit ?_
          iterate 7 (refine calm_ex (by go_simp) (fun _ _ h _ => h) (fun K hK => ?_); apply Exists.intro; refine ⟨fun _ _ _ _ => ?_, ?_⟩; (focus (go_simp; try exact rfl)); (go_simp; refine hK _ ?_; clear hK K))
          refine calmW_load (by go_simp) (.tmp 7) rfl gx P Q rfl (fun _ _ h => h.2.2.1) (fun _ _ h _ => h) (fun K hK => ?_); (go_simp; refine hK _ ?_; clear hK K)
          refine calmW_load (by go_simp) (.tmp 9) rfl gy R S rfl (fun _ _ h => h.2.2.2.1) (fun _ _ h _ => h) (fun K hK => ?_); (go_simp; refine hK _ ?_; clear hK K)
          refine calm_call' (by go_simp) (.int .i64 s) 23 #[.agg #[.int .u64 P, .int .u64 Q], .agg #[.int .u64 R, .int .u64 S]] (fun w' => by go_simp) (fun _ w' h3 _ => (hXY.out w').mono fun e w'' hh => ⟨hh.1, Four.kept h3 hh.2⟩) (fun K hK => ?_); (go_simp; refine hK _ ?_; clear hK K)
          refine calmW_load (by go_simp) (.tmp 3) rfl ga h l rfl (fun _ _ h => h.1) (fun _ _ h _ => h) (fun K hK => ?_); (go_simp; refine hK _ ?_; clear hK K)
          refine calmW_load (by go_simp) (.tmp 4) rfl gb H L rfl (fun _ _ h => h.2.1) (fun _ _ h _ => h) (fun K hK => ?_); (go_simp; refine hK _ ?_; clear hK K)
          refine calm_call' (by go_simp) (.int .i64 s) 23 #[.agg #[.int .u64 h, .int .u64 l], .agg #[.int .u64 H, .int .u64 L]] (fun w' => by go_simp) (fun _ w' h3 _ => (HAB.out w').mono fun e w'' hh => ⟨hh.1, Four.kept h3 hh.2⟩) (fun K hK => ?_); (go_simp; refine hK _ ?_; clear hK K)
          iterate 3 (refine calm_ex (by go_simp) (fun _ _ h _ => h) (fun K hK => ?_); apply Exists.intro; refine ⟨fun _ _ _ _ => ?_, ?_⟩; (focus (go_simp; try exact rfl)); (go_simp; refine hK _ ?_; clear hK K))
          refine calm_nil ?_
          rintro w7 _ t7 -
          go_wp2_with fail
          go_ret
          exact ⟨rfl, t7.2.2.2.2⟩
        · refine wp_region_calm (fun _ w' => Four w ga gb gx gy h l H L P Q R S w') (by kernel_rfl) (by kernel_rfl) hinit ?_
          iterate 7 (refine calm_ex (by go_simp) (fun _ _ h _ => h) (fun K hK => ?_); apply Exists.intro; refine ⟨fun _ _ _ _ => ?_, ?_⟩; (focus (go_simp; try exact rfl)); (go_simp; refine hK _ ?_; clear hK K))
          refine calm_not' (by go_simp) (fun _ _ h _ => h) (fun K hK => ?_); (go_simp; refine hK _ ?_; clear hK K)
          refine calm_not' (by go_simp) (fun _ _ h _ => h) (fun K hK => ?_); (go_simp; refine hK _ ?_; clear hK K)
          refine calm_not' (by go_simp) (fun _ _ h _ => h) (fun K hK => ?_); (go_simp; refine hK _ ?_; clear hK K)
          refine calm_not' (by go_simp) (fun _ _ h _ => h) (fun K hK => ?_); (go_simp; refine hK _ ?_; clear hK K)
          refine calm_not' (by go_simp) (fun _ _ h _ => h) (fun K hK => ?_); (go_simp; refine hK _ ?_; clear hK K)
          refine calm_not' (by go_simp) (fun _ _ h _ => h) (fun K hK => ?_); (go_simp; refine hK _ ?_; clear hK K)
          refine calm_not' (by go_simp) (fun _ _ h _ => h) (fun K hK => ?_); (go_simp; refine hK _ ?_; clear hK K)
          iterate 2 (refine calm_ex (by go_simp) (fun _ _ h _ => h) (fun K hK => ?_); apply Exists.intro; refine ⟨fun _ _ _ _ => ?_, ?_⟩; (focus (go_simp; try exact rfl)); (go_simp; refine hK _ ?_; clear hK K))
          refine calm_nil ?_
          rintro w7 _ t7 -
          go_wp2_with fail
          go_ret
          exact ⟨rfl, t7.2.2.2.2⟩
      · refine wp_region_calm (fun _ w' => Four w ga gb gx gy h l H L P Q R S w') (by kernel_rfl) (by kernel_rfl) hinit ?_
        iterate 3 (refine calm_ex (by go_simp) (fun _ _ h _ => h) (fun K hK => ?_); apply Exists.intro; refine ⟨fun _ _ _ _ => ?_, ?_⟩; (focus (go_simp; try exact rfl)); (go_simp; refine hK _ ?_; clear hK K))
        refine calm_not' (by go_simp) (fun _ _ h _ => h) (fun K hK => ?_); (go_simp; refine hK _ ?_; clear hK K)
        refine calm_not' (by go_simp) (fun _ _ h _ => h) (fun K hK => ?_); (go_simp; refine hK _ ?_; clear hK K)
        iterate 2 (refine calm_ex (by go_simp) (fun _ _ h _ => h) (fun K hK => ?_); apply Exists.intro; refine ⟨fun _ _ _ _ => ?_, ?_⟩; (focus (go_simp; try exact rfl)); (go_simp; refine hK _ ?_; clear hK K))
        refine calm_not' (by go_simp) (fun _ _ h _ => h) (fun K hK => ?_); (go_simp; refine hK _ ?_; clear hK K)
        refine calm_not' (by go_simp) (fun _ _ h _ => h) (fun K hK => ?_); (go_simp; refine hK _ ?_; clear hK K)
        refine calm_not' (by go_simp) (fun _ _ h _ => h) (fun K hK => ?_); (go_simp; refine hK _ ?_; clear hK K)
        refine calm_not' (by go_simp) (fun _ _ h _ => h) (fun K hK => ?_); (go_simp; refine hK _ ?_; clear hK K)
        refine calm_not' (by go_simp) (fun _ _ h _ => h) (fun K hK => ?_); (go_simp; refine hK _ ?_; clear hK K)
        refine calm_not' (by go_simp) (fun _ _ h _ => h) (fun K hK => ?_); (go_simp; refine hK _ ?_; clear hK K)
        refine calm_not' (by go_simp) (fun _ _ h _ => h) (fun K hK => ?_); (go_simp; refine hK _ ?_; clear hK K)
        iterate 2 (refine calm_ex (by go_simp) (fun _ _ h _ => h) (fun K hK => ?_); apply Exists.intro; refine ⟨fun _ _ _ _ => ?_, ?_⟩; (focus (go_simp; try exact rfl)); (go_simp; refine hK _ ?_; clear hK K))
        refine calm_nil ?_
        rintro w7 _ t7 -
        go_wp2_with fail
        go_ret
        exact ⟨rfl, t7.2.2.2.2⟩

set_option maxHeartbeats 400000 in
theorem wideorder_any (h l n H L m X Y k : Nat) (w : World) (hh : h < 2 ^ 64) (hl : l < 2 ^ 64) (hn : h * 2 ^ 64 + l = n) (hH : H < 2 ^ 64) (hL : L < 2 ^ 64) (hm : H * 2 ^ 64 + L = m) (hX : X < 2 ^ 64) (hY : Y < 2 ^ 64) (hk : X * 2 ^ 64 + Y = k) :
    Calls Try.prog 5 #[.agg #[.int .u64 h, .int .u64 l], .agg #[.int .u64 H, .int .u64 L], .agg #[.int .u64 X, .int .u64 Y]] w fun e w' => e = .returned (.bool true) ∧ Below w.heap.size w w' := by
  have hW : IntKind.i64.wrap (-1) = -1 := by decide
  have hW' : IntKind.i64.wrap (-(-1)) = 1 := by decide
  have hW0 : IntKind.i64.wrap (-0) = 0 := by decide
  refine wideorder_walk h l H L X Y n m k (c3 n m) (c3 m n) (c3 m k) (c3 n k) (decide (n = m)) w (Lib.hid (cmp_mk h l H L n m hl hL hn hm)) (Lib.hid (cmp_mk H L h l m n hL hl hm hn)) (Lib.hid ?_)
    (Lib.hid (cmp_mk H L X Y m k hL hY hm hk)) (Lib.hid (cmp_mk h l X Y n k hl hY hn hk)) ?_ ?_ ?_ ?_ (Lib.hid fun w => wAdd_any h l n X Y k w hh hl hn hX hY hk) (Lib.hid fun w => wAdd_any H L m X Y k w hH hL hm hX hY hk) ?_
  · have := cmp_mk h l h l n n hl hl hn hn
    rwa [c3_eq] at this
  · rcases Nat.lt_trichotomy n m with g | g | g
    · rw [c3_lt g, c3_gt g, hW]; rfl
    · subst g; rw [c3_eq, hW0]; rfl
    · rw [c3_lt g, c3_gt g, hW']; rfl
  · rcases Nat.lt_trichotomy n m with g | g | g
    · rw [c3_lt g, decide_eq_false (by omega)]; rfl
    · subst g; rw [c3_eq, decide_eq_true rfl]; rfl
    · rw [c3_gt g, decide_eq_false (by omega)]; rfl
  · intro x
    by_cases g : n = m
    · rw [decide_eq_true g]
      obtain ⟨p1, p2⟩ := of_parts h l H L hl hL (by rw [hn, hm, g])
      rw [if_pos (by omega), if_pos (by omega)]
    · rw [decide_eq_false g]
      split
      · rename_i g1
        have e1 : h = H := by omega
        have g3 : ¬ (l : Int) = L := fun g2 => g (by rw [← hn, ← hm, e1, Int.ofNat_inj.1 g2])
        rw [if_neg g3]
      · rfl
  · unfold c3; split <;> split <;> split <;> (try split) <;> (try split) <;> omega
  · intro P Q R S hQ hS s1 s2
    unfold sclRes at s1 s2
    have a1 : P * 2 ^ 64 + Q = n + k := by split at s1
                                           · exact s1.1
                                           · exact absurd s1.2.2 (by decide)
    have a2 : R * 2 ^ 64 + S = m + k := by split at s2
                                           · exact s2.1
                                           · exact absurd s2.2.2 (by decide)
    have := cmp_mk P Q R S (n + k) (m + k) hQ hS a1 a2
    rcases Nat.lt_trichotomy n m with g | g | g
    · rw [c3_lt (by omega)] at this; rwa [c3_lt g]
    · subst g; rw [c3_eq] at this; rwa [c3_eq]
    · rw [c3_gt (by omega)] at this; rwa [c3_gt g]

end Go.Proofs.Ytpjdojnbajoafaa
