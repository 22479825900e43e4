/- Texts of this proof, one behind the other. -/
import Derived.Test.YtdbamgbgnpadjaaGreatZb
/-! Alarms: what moves them; plain. -/
namespace Go.Proofs.YtdbamgbgnpadjaaGreat
open Go Go.RowKit

section
variable {now k v at_ : Int} {ts : List Tim} {rs : List Alm} {x y : Alm} {t : Tim} {j : Nat}
theorem setV_tput (g : wheelB now ts = true) (h0 : 0 ≤ k) (h1 : k < 32) (ha : aheadP now at_) : setV now ts k at_ = (now, tput ts k at_, 0) := by
  have hi : idB k = true := decide_eq_true ⟨h0, h1⟩
  have ha' : now < at_ ∧ at_ ≤ 1125899906842624 := ha
  unfold setV tput
  cases e : getK Tim.id ts k <;> simp_all
theorem setV_nah (g : wheelB now ts = true) (ha : ¬ aheadP now at_) : setV now ts k at_ = (0, [], 2) := setV_arg g (.inr (by unfold aheadP at ha; omega))
theorem canV_dk (g : wheelB now ts = true) (e : getK Tim.id ts k = some t) : canV now ts k = (now, delK Tim.id ts k, 0) := canV_ok g e
theorem set_insA {α : Type} {l : List α} {i : Nat} {z t : α} (h : i ≤ l.length) : (l.take i ++ [z] ++ l.drop i).set i t = l.take i ++ [t] ++ l.drop i := by
  have e : (l.take i).length = i := by rw [List.length_take]; omega
  rw [List.append_assoc, List.set_append_right _ _ (by omega), e]
  simp
theorem vc_of (h : almB x = true) : vcB x.vcpu = true := by have := alm_id h; exact decide_eq_true this
theorem alm_vc (h : vcB x.vcpu = false) : almB x = false := by
  cases e : almB x with
  | false => rfl
  | true => rw [vc_of e] at h; cases h
theorem startV_bad (g : alB now ts rs = false) : startV now ts rs x at_ = (0, [], [], 280) := by simp [startV, g]
theorem startV_arg (g : alB now ts rs = true) (h : almB x = false) : startV now ts rs x at_ = (0, [], [], 2) := by simp [startV, g, h]
theorem startV_nah (g : alB now ts rs = true) (h : ¬ aheadP now at_) : startV now ts rs x at_ = (0, [], [], 2) := by simp [startV, g, h]
theorem startV_put (g : alB now ts rs = true) (h : almB x = true) (ha : aheadP now at_) (e : getK Alm.vcpu rs x.vcpu = some y) : startV now ts rs x at_ = (now, tput ts (x.vcpu - 1) at_, rs.set (posK Alm.vcpu rs x.vcpu) x, 0) := by
  simp [startV, g, h, ha, rput, e, putK]
theorem startV_ins (g : alB now ts rs = true) (h : almB x = true) (ha : aheadP now at_) (e : getK Alm.vcpu rs x.vcpu = none) : startV now ts rs x at_ = (now, tput ts (x.vcpu - 1) at_, (rs.take (posK Alm.vcpu rs x.vcpu) ++ [x] ++ rs.drop (posK Alm.vcpu rs x.vcpu)).set (posK Alm.vcpu rs x.vcpu) x, 0) := by
  rw [set_insA (pos_cut (al_iff.1 g).rr).2.2]
  simp [startV, g, h, ha, rput, e, insK]
theorem stopV_bad (g : alB now ts rs = false) : stopV now ts rs v = (0, [], [], 280) := by simp [stopV, g]
theorem stopV_arg (g : alB now ts rs = true) (h : vcB v = false) : stopV now ts rs v = (0, [], [], 2) := by simp [stopV, g, h]
theorem stopV_none (g : alB now ts rs = true) (h : vcB v = true) (e : getK Tim.id ts (v - 1) = none) : stopV now ts rs v = (0, [], [], 4) := by simp [stopV, g, h, e]
theorem stopV_ok (g : alB now ts rs = true) (h : vcB v = true) (e : getK Tim.id ts (v - 1) = some t) : stopV now ts rs v = (now, delK Tim.id ts (v - 1), rdrop rs v, 0) := by simp [stopV, g, h, e]
theorem sleepV_bad (g : alB now ts rs = false) : sleepV now ts rs v at_ = (0, [], [], 280) := by simp [sleepV, g]
theorem sleepV_arg (g : alB now ts rs = true) (h : vcB v = false) : sleepV now ts rs v at_ = (0, [], [], 2) := by simp [sleepV, g, h]
theorem sleepV_nah (g : alB now ts rs = true) (h : ¬ aheadP now at_) : sleepV now ts rs v at_ = (0, [], [], 2) := by simp [sleepV, g, h]
theorem sleepV_ok (g : alB now ts rs = true) (h : vcB v = true) (ha : aheadP now at_) : sleepV now ts rs v at_ = (now, tput ts (15 + v) at_, rs, 0) := by simp [sleepV, g, h, ha]
theorem wakeV_bad (g : alB now ts rs = false) : wakeV now ts rs v = (0, [], [], 280) := by simp [wakeV, g]
theorem wakeV_arg (g : alB now ts rs = true) (h : vcB v = false) : wakeV now ts rs v = (0, [], [], 2) := by simp [wakeV, g, h]
theorem wakeV_none (g : alB now ts rs = true) (h : vcB v = true) (e : getK Tim.id ts (15 + v) = none) : wakeV now ts rs v = (0, [], [], 4) := by simp [wakeV, g, h, e]
theorem wakeV_ok (g : alB now ts rs = true) (h : vcB v = true) (e : getK Tim.id ts (15 + v) = some t) : wakeV now ts rs v = (now, delK Tim.id ts (15 + v), rs, 0) := by simp [wakeV, g, h, e]
end
end Go.Proofs.YtdbamgbgnpadjaaGreat

/-! Timers: slices.Clone, slices.Insert. -/
namespace Go.Proofs.YtdbamgbgnpadjaaGreat
open Go Go.RowKit

set_option maxRecDepth 100000 in
theorem clone_t (p : Option Addr) (n cap : Nat) (l : List Tim) (w : World)
    (hsl : Sv w p l) (hn : n = l.length) (hb : n ≤ 1000)
    : Calls Tryz.prog 58 #[.slice p n cap] w fun e w' => ∃ q capq Y, e = .returned (.slice q n capq) ∧ SlO 42 Y q n capq l ∧ Below w.heap.size w w' ∧ Hs w Y w' := by
  refine enter (Hs.start w) Tryz.func58 rfl Tryz.ntmps58 rfl (sq_ (qa0 [] [0] [] (ds_ (sq_ (sq_ ?_)))))
  rcases p with _ | a3
  ·
    refine qa0 [] [0] [(4, .bool true)] (ds_ (t_ (sq_ (qa0 [] [] [(2, .slice none 0 0)] (ds_ (rt ([]) (.slice none 0 0) ?_))))))
    exact fun w' hw => ⟨none, 0, [], by rw [hn, hsl.none]; rfl, by rw [hn, hsl.none]; exact SlO.nil, hw.below, hw.sub (List.nil_sublist _)⟩
  ·
    refine qa0 [] [0] [(4, .bool false)] (ds_ (f_ (at_skip (ds_ (sq_ (ao_ (mo0 2 [] [] (fun γ7 => [(5, .slice (some ⟨γ7 0, 0, none⟩) 0 0), (6, .slice (some a3) n cap)]) (fun γ7 L => bx (γ7 0) (#[]) 42 :: L) (fun γ7 => ops_append (α := Tim) [] ([bx (γ7 0) (#[]) 42]) ([]) (mvE rfl) rfl (by kernel_rfl) (by kernel_rfl) (p := (some ⟨γ7 0, 0, none⟩)) (n := 0) (cap := 0) (m := n) (yv := .slice (some a3) n cap) (by kernel_rfl) (by kernel_rfl) (T := 42) (by_ := 16) (by kernel_rfl) ([]) l (SlO.lit (by rfl) (by rfl) (by simp [maxLen])) (fun w hw => src_svn Tryz.underlying22 (hsl.kept hw.below) hn) hn (by have hmx : maxLen = 9223372036854775807 := rfl; omega) (by have hmx : maxLen = 9223372036854775807 := rfl; omega) (fun Y8 p8 cap8 hO8 => qo0 1 [] [] [(2, .slice p8 (0 + n) cap8)] (on_ (ds_ (rt ([]) (.slice p8 (0 + n) cap8) ?_))))))))))))
    exact fun w' hw => ⟨_, _, _, by rw [Nat.zero_add], by simpa using hO8, hw.below, ((hw.tailN 0).sub (List.sublist_append_left Y8 ([])))⟩
set_option maxRecDepth 100000 in
theorem overlaps_findT : Extern.find Tryz.f82 = some (Extern.SlicesOverlaps.overlaps Tryz.f82.params Tryz.f82.resultTypes) := by kernel_rfl
set_option maxRecDepth 100000 in
theorem overlaps_nextT : Extern.findNext Tryz.f82 = none := by kernel_rfl
theorem overlaps_noT {w : World} {g1 o1 g2 o2 m n c1 c2 : Nat} {cs1 cs2 : Array Value} {T1 T2 : TypeId} (h1 : w.heap[g1]? = some (.cells cs1 T1 (0, 0))) (h2 : w.heap[g2]? = some (.cells cs2 T2 (0, 0))) (hne : g1 ≠ g2) :
    (callFunc 82 #[.slice (some ⟨g1, o1, none⟩) m c1, .slice (some ⟨g2, o2, none⟩) n c2]).run Tryz.prog w = .ok (.value (.bool false)) w := by
  have hf := Tryz.func82
  have hn : (Tryz.f82.name == "runtime.NumGoroutine") = false := by kernel_rfl
  have hb : Tryz.f82.body.isNone = true := by kernel_rfl
  have hp : Tryz.f82.params[0]? = some 22 := by kernel_rfl
  have hu := Tryz.underlying22
  obtain ⟨ht', inf, z', hi, hz', _, hks, hby⟩ := elemB_spec (show elemB Tryz.prog 22 42 2 16 = true by kernel_rfl)
  have hs : inf.size = 2 := by omega
  have s1 : w.shape? g1 = some (T1, cs1.size) := by simp [World.shape?, h1]
  have s2 : w.shape? g2 = some (T2, cs2.size) := by simp [World.shape?, h2]
  have f1 : ∀ j, w.frozen? ⟨g1, j, none⟩ = false := fun j => froz_own h1 j
  have f2 : ∀ j, w.frozen? ⟨g2, j, none⟩ = false := fun j => froz_own h2 j
  have run1 : ∀ args, (callFunc 82 args).run Tryz.prog w = ((Extern.SlicesOverlaps.overlaps Tryz.f82.params Tryz.f82.resultTypes args).run Tryz.prog w).andThen fun v w' => .ok (.value v) w' := fun args => by
    simp only [callFunc, Sem.run_bind, run_program, Result.andThen_ok, hf, hn, hb, overlaps_nextT, overlaps_findT]
    simp [mark, Sem.run, Sem.run_bind]
  rw [run1]
  have hne' : (g1 == g2) = false := by simpa using hne
  have hs' : (do let i ← typeInfo 42; pure i.size : Sem Nat).run Tryz.prog w = .ok 2 w := by simp [typeInfo, hi, hs]
  delta Extern.SlicesOverlaps.overlaps
  conv => lhs; arg 1; arg 2; whnf
  have hu' : Tryz.prog.underlying (Tryz.f82.params[0]'(by decide)) = some (.slice 42) := by kernel_rfl
  have sb : ∀ (α β : Type) (x : Sem α) (f : α → Sem β) (P : Program) (w : World), (x.bind f).run P w = (x.run P w).andThen fun a w' => (f a).run P w' := fun α β x f P w => Sem.run_bind' P x f w
  by_cases hm : m = 0 ∨ n = 0 ∨ inf.size = 0
  · simp [Sem.run, sb, hu', sizeOf, typeInfo, hi, hm]
  · simp [Sem.run, sb, hu', sizeOf, typeInfo, hi, hm, bne, hne', hne, noView, viewAt, mayBeOne, stringish, shape, frozen, s1, s2, f1, f2]

set_option maxRecDepth 100000 in
theorem insert_t (w0 : World) (X Y : List Ob) (p : Option Addr) (n cap : Nat) (l : List Tim) (i gv : Nat) (cv : Array Value) (m : Nat) (vl : List Tim) (w : World)
    (hH : Hs w0 (bx gv cv 42 :: (Y ++ X)) w) (hO : SlO 42 Y p n cap l) (hcv : cv.toList = vl.flatMap Enc.enc) (hm : m = vl.length) (hm0 : 0 < m) (hi : i ≤ n) (hb : n ≤ 1000) (hmb : m ≤ 1000)
    : Calls Tryz.prog 74 #[.slice p n cap, .int .i64 (i : Nat), .slice (some ⟨gv, 0, none⟩) m m] w fun e w' => ∃ q capq Y', e = .returned (.slice q (n + m) capq) ∧ SlO 42 Y' q (n + m) capq (l.take i ++ vl ++ l.drop i) ∧ Hs w0 (Y' ++ X) w' := by
  have hn := hO.len
  refine enter hH Tryz.func74 rfl Tryz.ntmps74 rfl (sq_ (qa0 [] [0, 1, 2] [] (ds_ (sq_ (qa [(2, .sl (.slice (if cap = i then p else p.map (·.add (i * 2))) (n - i) (cap - i)))] [0, 1, 2] [] ([SlRun Tryz.prog 22 (.slice p n cap) (some (.int .i64 ((i : Nat)))) none none (.slice (if cap = i then p else p.map (·.add (i * 2))) (n - i) (cap - i))]) (al1 (slE_cut (P := Tryz.prog) (T := 22) (e := 42) (k := 2) (by_ := 16) (by kernel_rfl) hi)) (ds_ (sq_ (qa0 [] [0, 1, 2] [(7, .int .i64 ((m : Nat)))] (ds_ (sq_ (sq_ (qa [(1, .no)] [0, 1, 2, 7] [(16, .bool false)] ([¬ (((m : Nat) : Int) = (0 : Int))]) (al1 ((by omega))) (ds_ (f_ (at_skip (ds_ (sq_ (qa0 [] [0, 1, 2, 7] [(8, .int .i64 ((n : Nat)))] (ds_ (sq_ (sq_ ?_)))))))))))))))))))))
  by_cases q7 : ((i : Nat) : Int) = ((n : Nat) : Int)
  ·
    refine qa [(2, .yes)] [0, 1, 2, 7, 8] [(22, .bool true)] ([((i : Nat) : Int) = ((n : Nat) : Int)]) (al1 q7) (ds_ (t_ (sq_ (ao_ (qo0 2 [] [] [(23, .slice p n cap), (24, .slice (some ⟨gv, 0, none⟩) m m)] (ops_append (α := Tim) [bx gv cv 42] Y X (.refl _) rfl (by kernel_rfl) (by kernel_rfl) (p := p) (n := n) (cap := cap) (m := m) (yv := .slice (some ⟨gv, 0, none⟩) m m) (by kernel_rfl) (by kernel_rfl) (T := 42) (by_ := 16) (by kernel_rfl) l vl hO (fun w hw => src_svn Tryz.underlying22 (sv_row (hw.row 0 rfl) hcv) hm) hm (by have hmx : maxLen = 9223372036854775807 := rfl; omega) (by have hmx : maxLen = 9223372036854775807 := rfl; omega) (fun Y10 p10 cap10 hO10 => qo0 1 [] [] [(6, .slice p10 (n + m) cap10)] (on_ (ds_ (rt ([]) (.slice p10 (n + m) cap10) ?_))))))))))
    exact fun w' hw => ⟨_, _, _, rfl, by rw [show i = l.length by omega, List.take_length, List.drop_length, List.append_nil]; exact hO10, hw.tailN 1⟩
  ·
    refine qa [(2, .no)] [0, 1, 2, 7, 8] [(22, .bool false)] ([¬ (((i : Nat) : Int) = ((n : Nat) : Int))]) (al1 q7) (ds_ (f_ (at_skip (ds_ (sq_ (sq_ ?_))))))
    obtain ⟨g, cs, rfl, rfl, hOw⟩ := hO.rowOf (i := i) (by omega)
    have hcap := hOw.le
    have hcs := hOw.csz
    have hmax := hOw.max
    by_cases q15 : ((n + m : Nat) : Int) > ((cap : Nat) : Int)
    ·
      refine qa [(2, .fit), (5, .yes)] [0, 1, 2, 7, 8] [(31, .bool true)] ([Fit .i64 ((n + m : Nat))] ++ ([((n + m : Nat) : Int) > ((cap : Nat) : Int)])) (alA (al1 (fit64 (by omega) (by omega))) (al1 q15)) (ds_ (t_ (sq_ (ao_ (qo 8 [(2, .sl (.slice (some ⟨g, 0, none⟩) i cap)), (5, .fit), (7, .is [] (.int .i64 ((n + m - i : Nat))))] [0, 1, 2, 7] [(34, .slice (some ⟨g, 0, none⟩) i cap), (39, .int .i64 ((n + m - i : Nat)))] ([SlRun Tryz.prog 22 (.slice (some ⟨g, 0, none⟩) n cap) none (some (.int .i64 ((i : Nat)))) none (.slice (some ⟨g, 0, none⟩) i cap)] ++ ([Fit .i64 ((n + m : Nat))] ++ ([Value.int .i64 (IntKind.i64.wrap ((((n + m : Nat)) : Int) - ((i : Nat) : Int))) = .int .i64 ((n + m - i : Nat))]))) (alA (al1 (slE_hi (P := Tryz.prog) (T := 22) (e := 42) (k := 2) (by_ := 16) (by kernel_rfl) (h := i) (by omega))) (alA (al1 (fit64 (by omega) (by omega))) (al1 (by rw [wrap_fit (fit64 (by omega) (by omega))]; congr 1; omega)))) (ops_appendZ rfl (by kernel_rfl) (by kernel_rfl) (p := some ⟨g, 0, none⟩) (m := i) (cap := cap) (n := n + m - i) ((cs.toList.drop 0).take (i * 2)) (by kernel_rfl) (by kernel_rfl) (T := 42) (ks := 2) (by_ := 16) (by kernel_rfl) Tryz.underlying3 (by decide) (olds_len hcs (by omega)) (fun w hw => first_row (hw.row 1 rfl) (by rw [hcs, Nat.zero_add]; exact Nat.mul_le_mul_right _ (by omega))) (by omega) (by omega) (by simp only [maxLen]; omega) (by omega) (fun g2 c2 cap2 hc2 hle2 hmax2 hpre2 => qo0 1 [] [0, 1, 2, 7] [(9, .slice (some ⟨g2, 0, none⟩) (i + (n + m - i)) cap2)] (on_ (ds_ (sq_ (ao_ (qo 4 [(2, .sl (.slice (some ⟨g2, 0 + i * 2, none⟩) (i + (n + m - i) - i) (cap2 - i)))] [0, 1, 7, 9] [(43, .slice (some ⟨g2, 0 + i * 2, none⟩) (i + (n + m - i) - i) (cap2 - i)), (44, .slice (some ⟨gv, 0, none⟩) m m)] ([SlRun Tryz.prog 22 (.slice (some ⟨g2, 0, none⟩) (i + (n + m - i)) cap2) (some (.int .i64 ((i : Nat)))) none none (.slice (some ⟨g2, 0 + i * 2, none⟩) (i + (n + m - i) - i) (cap2 - i))]) (al1 (slE_lo (P := Tryz.prog) (T := 22) (e := 42) (k := 2) (by_ := 16) (by kernel_rfl) (lo := i) (by omega) (by omega))) (ops_copy 0 rfl (by kernel_rfl) (by kernel_rfl) (g := g2) (of := (0 + i * 2)) (dn := (i + (n + m - i) - i)) (dc := (cap2 - i)) (m := m) (cnt := m) (c := c2) (yv := (.slice (some ⟨gv, 0, none⟩) m m)) (vl.flatMap Enc.enc) (by kernel_rfl) (by kernel_rfl) (T := 42) (ks := 2) (by_ := 16) (by kernel_rfl) (T' := 42) (by kernel_rfl) len_slice (by omega) (fun w hw => by have := first_sv (P := Tryz.prog) (w := w) (p := some ⟨gv, 0, none⟩) (m := m) (cap := m) (cnt := m) (sv_row (hw.row 1 rfl) hcv) (by omega); rw [List.take_of_length_le (by omega)] at this; exact this) (by rw [flat_len, ← hm]; exact mul_room (c := cap2) (by omega) hc2) (flat_one vl) ?_)))))))))))))
      refine on_ (ds_ (sq_ (at_calmTo (f := 1) 8 rfl (by kernel_rfl) (by kernel_rfl) (by kernel_rfl) (by kernel_rfl) (by kernel_rfl) (by kernel_rfl) ?_)))
      refine cm 8 [(3, .fit), (4, .sl (.slice (some ⟨g2, 0 + (i + m) * 2, none⟩) (i + (n + m - i) - (i + m)) (cap2 - (i + m)))), (7, .sl (.slice (some ⟨g, 0 + i * 2, none⟩) (n - i) (cap - i)))] [9] [(50, .slice (some ⟨g2, 0 + (i + m) * 2, none⟩) (i + (n + m - i) - (i + m)) (cap2 - (i + m))), (53, .slice (some ⟨g, 0 + i * 2, none⟩) (n - i) (cap - i))] ([Fit .i64 ((i + m : Nat))] ++ ([SlRun Tryz.prog 22 (.slice (some ⟨g2, 0, none⟩) (i + (n + m - i)) cap2) (some (.int .i64 ((i + m : Nat)))) none none (.slice (some ⟨g2, 0 + (i + m) * 2, none⟩) (i + (n + m - i) - (i + m)) (cap2 - (i + m)))] ++ ([SlRun Tryz.prog 22 (.slice (some ⟨g, 0, none⟩) n cap) (some (.int .i64 ((i : Nat)))) none none (.slice (some ⟨g, 0 + i * 2, none⟩) (n - i) (cap - i))]))) (by kernel_rfl) rfl (alA (al1 (fit64 (by omega) (by omega))) (alA (al1 (slE_lo (P := Tryz.prog) (T := 22) (e := 42) (k := 2) (by_ := 16) (by kernel_rfl) (lo := i + m) (by omega) (by omega))) (al1 (slE_lo (P := Tryz.prog) (T := 22) (e := 42) (k := 2) (by_ := 16) (by kernel_rfl) (lo := i) (by omega) (by omega))))) ?_
      refine calm_nil' ?_
      refine done_pre (li' := #[true, true, true, true, true, true, true, true, false]) (by kernel_rfl) ?_
      refine a1 8 rfl ?_
      refine ops_copy 0 rfl (by kernel_rfl) (by kernel_rfl) (g := g2) (of := (0 + (i + m) * 2)) (dn := (i + (n + m - i) - (i + m))) (dc := (cap2 - (i + m))) (m := (n - i)) (cnt := (n - i)) (c := ((sets c2 (0 + i * 2) (vl.flatMap Enc.enc)))) (yv := (.slice (some ⟨g, 0 + i * 2, none⟩) (n - i) (cap - i))) ((cs.toList.drop (0 + i * 2)).take ((n - i) * 2)) (by kernel_rfl) (by kernel_rfl) (T := 42) (ks := 2) (by_ := 16) (by kernel_rfl) (T' := 42) (by kernel_rfl) len_slice (by omega) (fun w hw => first_row (hw.row 2 rfl) (row_room hOw (by omega))) (by rw [sets_size]; exact copy_room (c := cap2) hOw (by omega) (by omega) hc2) (row_one hOw (by omega)) ?_
      refine od_ ?_
      refine any_nil (by kernel_rfl) ?_
      refine ds_ (sq_ (qa0 [] [] [(6, .slice (some ⟨g2, 0, none⟩) (i + (n + m - i)) cap2)] (ds_ (rt ([]) (.slice (some ⟨g2, 0, none⟩) (i + (n + m - i)) cap2) ?_))))
      exact fun w' hw => ⟨some ⟨g2, 0, none⟩, cap2, [_], by rw [show i + (n + m - i) = n + m by omega], .inr ⟨_, _, rfl, rfl, by simp; omega, ins_grow hOw (by omega) hm (by omega) hc2 (by omega) hmax2 hpre2⟩, hw.sub (.cons_cons _ (.cons _ (.cons _ (.refl _))))⟩
    ·
      refine qa [(2, .fit), (5, .no)] [0, 1, 2, 7, 8] [(31, .bool false)] ([Fit .i64 ((n + m : Nat))] ++ ([¬ (((n + m : Nat) : Int) > ((cap : Nat) : Int))])) (alA (al1 (fit64 (by omega) (by omega))) (al1 q15)) (ds_ (f_ (at_skip (ds_ (sq_ (qa [(3, .fit), (4, .sl (.slice (some ⟨g, 0, none⟩) (n + m) cap))] [1, 2, 7, 8] [(0, .slice (some ⟨g, 0, none⟩) (n + m) cap)] ([Fit .i64 ((n + m : Nat))] ++ ([SlRun Tryz.prog 22 (.slice (some ⟨g, 0, none⟩) n cap) none (some (.int .i64 ((n + m : Nat)))) none (.slice (some ⟨g, 0, none⟩) (n + m) cap)])) (alA (al1 (fit64 (by omega) (by omega))) (al1 (slE_hi (P := Tryz.prog) (T := 22) (e := 42) (k := 2) (by_ := 16) (by kernel_rfl) (h := n + m) (by omega)))) (ds_ (sq_ (sq_ (ao_ (qo 6 [(4, .fit), (5, .sl (.slice (some ⟨g, 0 + (i + m) * 2, none⟩) (n + m - (i + m)) (cap - (i + m))))] [0, 1, 2, 7, 8] [(61, .slice (some ⟨gv, 0, none⟩) m m), (66, .slice (some ⟨g, 0 + (i + m) * 2, none⟩) (n + m - (i + m)) (cap - (i + m)))] ([Fit .i64 ((i + m : Nat))] ++ ([SlRun Tryz.prog 22 (.slice (some ⟨g, 0, none⟩) (n + m) cap) (some (.int .i64 ((i + m : Nat)))) none none (.slice (some ⟨g, 0 + (i + m) * 2, none⟩) (n + m - (i + m)) (cap - (i + m)))])) (alA (al1 (fit64 (by omega) (by omega))) (al1 (slE_lo (P := Tryz.prog) (T := 22) (e := 42) (k := 2) (by_ := 16) (by kernel_rfl) (lo := i + m) (by omega) (by omega)))) (ops_ext (f := 82) (args := #[.slice (some ⟨gv, 0, none⟩) m m, .slice (some ⟨g, 0 + (i + m) * 2, none⟩) (n + m - (i + m)) (cap - (i + m))]) (.bool false) (by kernel_rfl) (by kernel_rfl) (by kernel_rfl) (fun w hw => overlaps_noT (hw.row 0 rfl) (hw.row 1 rfl) (apart_two hw (a := 0) (b := 1) rfl rfl (by decide))) (qo0 1 [] [0, 1, 2, 7, 8] [(68, .bool true)] (on_ (ds_ (t_ (sq_ (at_calmTo (f := 1) 8 rfl (by kernel_rfl) (by kernel_rfl) (by kernel_rfl) (by kernel_rfl) (by kernel_rfl) (by kernel_rfl) ?_))))))))))))))))))
      refine cm 8 [(3, .fit), (4, .sl (.slice (some ⟨g, 0 + (i + m) * 2, none⟩) (n + m - (i + m)) (cap - (i + m)))), (7, .sl (.slice (some ⟨g, 0 + i * 2, none⟩) (n + m - i) (cap - i)))] [0, 1, 2] [(73, .slice (some ⟨g, 0 + (i + m) * 2, none⟩) (n + m - (i + m)) (cap - (i + m))), (76, .slice (some ⟨g, 0 + i * 2, none⟩) (n + m - i) (cap - i))] ([Fit .i64 ((i + m : Nat))] ++ ([SlRun Tryz.prog 22 (.slice (some ⟨g, 0, none⟩) (n + m) cap) (some (.int .i64 ((i + m : Nat)))) none none (.slice (some ⟨g, 0 + (i + m) * 2, none⟩) (n + m - (i + m)) (cap - (i + m)))] ++ ([SlRun Tryz.prog 22 (.slice (some ⟨g, 0, none⟩) (n + m) cap) (some (.int .i64 ((i : Nat)))) none none (.slice (some ⟨g, 0 + i * 2, none⟩) (n + m - i) (cap - i))]))) (by kernel_rfl) rfl (alA (al1 (fit64 (by omega) (by omega))) (alA (al1 (slE_lo (P := Tryz.prog) (T := 22) (e := 42) (k := 2) (by_ := 16) (by kernel_rfl) (lo := i + m) (by omega) (by omega))) (al1 (slE_lo (P := Tryz.prog) (T := 22) (e := 42) (k := 2) (by_ := 16) (by kernel_rfl) (lo := i) (by omega) (by omega))))) ?_
      refine calm_nil' ?_
      refine done_pre (li' := #[true, true, true, true, true, true, true, true, false]) (by kernel_rfl) ?_
      refine a1 8 rfl ?_
      refine ops_copy 1 rfl (by kernel_rfl) (by kernel_rfl) (g := g) (of := (0 + (i + m) * 2)) (dn := (n + m - (i + m))) (dc := (cap - (i + m))) (m := (n + m - i)) (cnt := (n - i)) (c := cs) (yv := (.slice (some ⟨g, 0 + i * 2, none⟩) (n + m - i) (cap - i))) ((cs.toList.drop (0 + i * 2)).take ((n - i) * 2)) (by kernel_rfl) (by kernel_rfl) (T := 42) (ks := 2) (by_ := 16) (by kernel_rfl) (T' := 42) (by kernel_rfl) len_slice (by omega) (fun w hw => first_row (hw.row 1 rfl) (row_room hOw (by omega))) (copy_room (c := cap) hOw (by omega) (by omega) hcs) (row_one hOw (by omega)) ?_
      refine od_ ?_
      refine any_nil (by kernel_rfl) ?_
      refine ds_ (sq_ (ao_ (qo 4 [(2, .sl (.slice (some ⟨g, 0 + i * 2, none⟩) (n + m - i) (cap - i)))] [0] [(80, .slice (some ⟨g, 0 + i * 2, none⟩) (n + m - i) (cap - i)), (81, .slice (some ⟨gv, 0, none⟩) m m)] ([SlRun Tryz.prog 22 (.slice (some ⟨g, 0, none⟩) (n + m) cap) (some (.int .i64 ((i : Nat)))) none none (.slice (some ⟨g, 0 + i * 2, none⟩) (n + m - i) (cap - i))]) (al1 (slE_lo (P := Tryz.prog) (T := 22) (e := 42) (k := 2) (by_ := 16) (by kernel_rfl) (lo := i) (by omega) (by omega))) (ops_copy 1 rfl (by kernel_rfl) (by kernel_rfl) (g := g) (of := (0 + i * 2)) (dn := (n + m - i)) (dc := (cap - i)) (m := m) (cnt := m) (c := ((sets cs (0 + (i + m) * 2) ((cs.toList.drop (0 + i * 2)).take ((n - i) * 2))))) (yv := (.slice (some ⟨gv, 0, none⟩) m m)) (vl.flatMap Enc.enc) (by kernel_rfl) (by kernel_rfl) (T := 42) (ks := 2) (by_ := 16) (by kernel_rfl) (T' := 42) (by kernel_rfl) len_slice (by omega) (fun w hw => by have := first_sv (P := Tryz.prog) (w := w) (p := some ⟨gv, 0, none⟩) (m := m) (cap := m) (cnt := m) (sv_row (hw.row 0 rfl) hcv) (by omega); rw [List.take_of_length_le (by omega)] at this; exact this) (by rw [flat_len, ← hm, sets_size]; exact mul_room (c := cap) (by omega) hcs) (flat_one vl) (on_ (ds_ (sq_ (qa0 [] [] [(6, .slice (some ⟨g, 0, none⟩) (n + m) cap)] (ds_ (rt ([]) (.slice (some ⟨g, 0, none⟩) (n + m) cap) ?_))))))))))
      exact fun w' hw => ⟨_, _, [_], rfl, .inr ⟨_, _, rfl, rfl, by simp; omega, ins_room hOw (by omega) hm (by omega) (by omega)⟩, hw.sub (.cons _ (.refl _))⟩
end Go.Proofs.YtdbamgbgnpadjaaGreat

/-! Timers: Set. -/
namespace Go.Proofs.YtdbamgbgnpadjaaGreat
open Go Go.RowKit

set_option maxRecDepth 100000 in
theorem set_t (now : Int) (p : Option Addr) (n cap : Nat) (ts : List Tim) (k at_ : Int) (w : World)
 (hts : Sv w p ts) (hn : n = ts.length) (hb : n ≤ 1000)
 : Calls Tryz.prog 59 #[.agg #[.int .i64 now, .slice p n cap], .int .i64 k, .int .i64 at_] w fun e w' => ∃ q m capq Y, e = .returned (.tuple #[.agg #[.int .i64 (setV now ts k at_).1, .slice q m capq], .int .i64 (setV now ts k at_).2.2]) ∧ SlO 42 Y q m capq (setV now ts k at_).2.1 ∧ Below w.heap.size w w' ∧ Hs w Y w' := by
 refine enter (Hs.start w) Tryz.func59 rfl Tryz.ntmps59 rfl (sq_ (ma0 [] [1, 2] (fun γ1 => [(3, .pointer (some ⟨γ1 0, 0, none⟩)), (6, .pointer (some ⟨γ1 1, 0, none⟩))]) (fun γ1 L => bx (γ1 1) (#[.int .i64 0, .slice none 0 0]) 24 :: bx (γ1 0) (#[.int .i64 now, .slice p n cap]) 24 :: L) (fun γ1 => ds_ (sq_ (at_block (sq_ (ao_ (qo0 1 [(0, .go (owns 1 0 2))] [1, 2, 3, 6] [(12, .agg #[.int .i64 now, .slice p n cap])] ?_))))))))
 rcases q3 : wheelB now ts with _ | _
 ·
  refine cD (.int .i64 250) (fun args w => Tryz.call68 args w) (fun w hw => by have := wcheck_t now p n cap ts w (hts.kept hw.below) hn (by omega); rw [q3] at this; exact this) (qo0 2 [] [1, 2, 3, 6] [(11, .bool true)] (on_ (ds_ (t_ (sq_ (qa0 [(1, .go (owns 0 0 2))] [6] [(7, .int .i64 250)] (ds_ (rt (owns 0 0 2) (.tuple #[.agg #[.int .i64 0, .slice none 0 0], .int .i64 250]) ?_))))))))
  exact fun w' hw => by rw [setV_bad q3]; exact ⟨none, 0, 0, [], rfl, SlO.nil, hw.below, hw.sub (List.nil_sublist _)⟩
 ·
  refine cD (.int .i64 0) (fun args w => Tryz.call68 args w) (fun w hw => by have := wcheck_t now p n cap ts w (hts.kept hw.below) hn (by omega); rw [q3] at this; exact this) (qo0 2 [] [1, 2, 3, 6] [(11, .bool false)] (on_ (ds_ (f_ (sq_ (ao_ (qo0 1 [] [1, 2, 3, 6] [(17, .int .i64 k)] ?_)))))))
  rcases q8 : idB k with _ | _
  ·
   refine cD (.bool false) (fun args w => Tryz.call73 args w) (fun w hw => by have := may_t k w; rw [q8] at this; exact this) (qo0 12 [] [1, 2, 3, 6] [(16, .bool true)] (on_ (ds_ (t_ (sq_ (qa0 [(1, .go (owns 0 0 2))] [6] [(7, .int .i64 2)] (ds_ (rt (owns 0 0 2) (.tuple #[.agg #[.int .i64 0, .slice none 0 0], .int .i64 2]) ?_))))))))
   exact fun w' hw => by rw [setV_arg q3 (.inl q8)]; exact ⟨none, 0, 0, [], rfl, SlO.nil, hw.below, hw.sub (List.nil_sublist _)⟩
  ·
   refine cD (.bool true) (fun args w => Tryz.call73 args w) (fun w hw => by have := may_t k w; rw [q8] at this; exact this) ?_
   by_cases q12 : (at_ : Int) ≤ (now : Int)
   ·
    refine qo 12 [(6, .go (owns 1 0 1)), (7, .yes)] [1, 2, 3, 6] [(16, .bool true)] ([(at_ : Int) ≤ (now : Int)]) (al1 q12) (on_ (ds_ (t_ (sq_ (qa0 [(1, .go (owns 0 0 2))] [6] [(7, .int .i64 2)] (ds_ (rt (owns 0 0 2) (.tuple #[.agg #[.int .i64 0, .slice none 0 0], .int .i64 2]) ?_)))))))
    exact fun w' hw => by rw [setV_arg q3 (.inr (by omega))]; exact ⟨none, 0, 0, [], rfl, SlO.nil, hw.below, hw.sub (List.nil_sublist _)⟩
   ·
    by_cases q16 : (at_ : Int) > (1125899906842624 : Int)
    ·
     refine qo 12 [(6, .go (owns 1 0 1)), (7, .no), (11, .yes)] [1, 2, 3, 6] [(16, .bool true)] ([¬ ((at_ : Int) ≤ (now : Int))] ++ ([(at_ : Int) > (1125899906842624 : Int)])) (alA (al1 q12) (al1 q16)) (on_ (ds_ (t_ (sq_ (qa0 [(1, .go (owns 0 0 2))] [6] [(7, .int .i64 2)] (ds_ (rt (owns 0 0 2) (.tuple #[.agg #[.int .i64 0, .slice none 0 0], .int .i64 2]) ?_)))))))
     exact fun w' hw => by rw [setV_arg q3 (.inr (by omega))]; exact ⟨none, 0, 0, [], rfl, SlO.nil, hw.below, hw.sub (List.nil_sublist _)⟩
    ·
     refine qo 12 [(6, .go (owns 1 0 1)), (7, .no), (11, .no)] [1, 2, 3, 6] [(16, .bool false)] ([¬ ((at_ : Int) ≤ (now : Int))] ++ ([¬ ((at_ : Int) > (1125899906842624 : Int))])) (alA (al1 q12) (al1 q16)) (on_ (ds_ (f_ (at_skip (done_block (ds_ (sq_ (ao_ (qo0 2 [(0, .go (owns 1 0 2))] [1, 2, 3, 6] [(32, .agg #[.int .i64 now, .slice p n cap]), (33, .int .i64 k)] ?_)))))))))
     rcases hg21 : getK Tim.id ts k with _ | y21
     ·
      have hpl21 := (pos_cut (k := k) (wheel_iff.1 q3).rs).2.2
      refine cD (.tuple #[.int .i64 ((posK Tim.id ts k : Nat)), .bool false]) (fun args w => Tryz.call69 args w) (fun w hw => by have := find_t now p n cap ts k w (hts.kept hw.below) hn (by omega) q3; rw [hasK_none hg21] at this; exact this) (qo0 5 [] [1, 2, 3, 6] [(8, .int .i64 ((posK Tim.id ts k : Nat))), (9, .bool false)] (on_ (ds_ (sq_ (ao_ (qo0 2 [(1, .go (owns 1 1 1))] [1, 2, 3, 6, 8, 9] [(38, .slice p n cap)] (cP (fun v L' => ∃ q_ c_ Y_, v = .slice q_ n c_ ∧ L' = List.take 2 ([bx (γ1 1) (#[.int .i64 0, .slice none 0 0]) 24, bx (γ1 0) (#[.int .i64 now, .slice p n cap]) 24]) ++ (Y_ ++ List.drop 2 ([bx (γ1 1) (#[.int .i64 0, .slice none 0 0]) 24, bx (γ1 0) (#[.int .i64 now, .slice p n cap]) 24])) ∧ SlO 42 Y_ q_ n c_ ts) (fun args w => Tryz.call58 args w) (fun w hw => (clone_t p n cap ts w (hts.kept hw.below) hn (by omega)).mono fun e w' ⟨q_, c_, Y_, he, hO, hb, hY⟩ => ⟨_, _, he, ⟨q_, c_, Y_, rfl, rfl, hO⟩, hw.join hb hY 2⟩) ?_)))))))
      rintro v24 L24 ⟨q24, cq24, Y24, rfl, rfl, hO24⟩
      refine qo0 1 [] [1, 2, 3, 6, 8, 9] [(10, .slice q24 n cq24)] (on_ (ds_ (sq_ (sq_ (qa0 [] [1, 2, 3, 6, 8, 10] [(41, .bool true)] (ds_ (t_ ?_)))))))
      have hlz8 := (wheel_iff.1 q3).len
      refine ao_ (mo0 4 [] [1, 2, 3, 6, 8] (fun γ27 => [(42, .slice q24 n cq24), (43, .int .i64 ((posK Tim.id ts k : Nat))), (45, .slice (some ⟨γ27 0, 0, none⟩) 1 1)]) (fun γ27 L => bx (γ27 0) (#[.int .i64 0, .int .i64 0]) 42 :: L) (fun γ27 => cP (fun v L' => ∃ q_ capq_ Y_, v = .slice q_ (n + 1) capq_ ∧ L' = [bx (γ1 1) (#[.int .i64 0, .slice none 0 0]) 24, bx (γ1 0) (#[.int .i64 now, .slice p n cap]) 24] ++ (Y_ ++ []) ∧ SlO 42 Y_ q_ (n + 1) capq_ (ts.take (posK Tim.id ts k) ++ [⟨0, 0⟩] ++ ts.drop (posK Tim.id ts k))) (fun args w => Tryz.call74 args w) (fun w hw => (insert_t _ ([bx (γ1 1) (#[.int .i64 0, .slice none 0 0]) 24, bx (γ1 0) (#[.int .i64 now, .slice p n cap]) 24] ++ []) Y24 q24 n cq24 ts (posK Tim.id ts k) (γ27 0) (#[.int .i64 0, .int .i64 0]) 1 ([⟨0, 0⟩]) w (hw.pull (A := [bx (γ1 1) (#[.int .i64 0, .slice none 0 0]) 24, bx (γ1 0) (#[.int .i64 now, .slice p n cap]) 24]) (Y := Y24) (R := [])) hO24 (by rfl) (by rfl) (by omega) (by omega) (by omega) (by omega)).mono fun e w' ⟨q_, capq_, Y_, he, hO, hY⟩ => ⟨_, _, he, ⟨q_, capq_, Y_, rfl, rfl, hO⟩, hY.push⟩) ?_))
      rintro v28 L28 ⟨q28, cq28, Y28, rfl, rfl, hO28⟩
      refine qo0 1 [] [1, 2, 3, 6, 8] [(10, .slice q28 (n + 1) cq28)] (on_ (ds_ (sq_ ?_)))
      have hlz := (wheel_iff.1 q3).len
      have hln31 := hO28.len
      obtain ⟨g31, cs31, rfl, rfl, hOw31⟩ := hO28.rowOf (i := posK Tim.id ts k) (by omega)
      obtain ⟨x33, hx33⟩ := get_some (l := (ts.take (posK Tim.id ts k) ++ [⟨0, 0⟩] ++ ts.drop (posK Tim.id ts k))) (m := posK Tim.id ts k) (by omega)
      refine ma [(5, .at g31 0 (posK Tim.id ts k)), (6, .go (ownps 2 (0 + (posK Tim.id ts k) * 2) [undef, undef]))] [3, 6, 10] (fun _ => []) (fun _ L => (L.set 2 (bx g31 (((cs31).setIfInBounds (0 + (posK Tim.id ts k) * 2) (.int .i64 k)).setIfInBounds (0 + (posK Tim.id ts k) * 2 + 1) (.int .i64 at_)) 42))) (fun _ => [(some ⟨g31, 0, none⟩ : Option Addr) = some ⟨g31, 0, none⟩, ((posK Tim.id ts k : Nat)) = ((posK Tim.id ts k : Nat) : Int), posK Tim.id ts k < n + 1] ++ ([0 + (posK Tim.id ts k) * 2 < (cs31).size] ++ ([0 + (posK Tim.id ts k) * 2 + 1 < ((cs31).setIfInBounds (0 + (posK Tim.id ts k) * 2) (.int .i64 k)).size]))) (fun _ => (alA (al2 rfl (al2 rfl (al1 (by omega)))) (alA (al1 (by exact hOw31.room hO28.len hx33 (f := 0) (by decide))) (al1 (by simp only [Array.size_setIfInBounds]; exact hOw31.room hO28.len hx33 (f := 1) (by decide)))))) (fun _ => ds_ (sq_ (ma0 [(1, .go (owns 1 0 1)), (4, .go (owns 0 0 2))] [6] (fun _ => [(7, .int .i64 0)]) (fun _ L => (L.set 0 (bx (γ1 1) (#[.int .i64 now, .slice (some ⟨g31, 0, none⟩) (n + 1) cq28]) 24))) (fun _ => ds_ (rt (owns 0 0 2) (.tuple #[.agg #[.int .i64 now, .slice (some ⟨g31, 0, none⟩) (n + 1) cq28], .int .i64 0]) ?_)))))
      exact fun w' hw => by rw [setV_ins q3 q8 (by omega) hg21]; exact ⟨_, _, _, _, rfl, (SlO.ofOwn (hOw31.putAll (x' := (⟨k, at_⟩ : Tim)) hO28.len hx33) (len_set hO28.len)), hw.below, one_tail (Hs.pick [[bx (γ1 1) (#[.int .i64 now, .slice (some ⟨g31, 0, none⟩) (n + 1) cq28]) 24], [bx (γ1 0) (#[.int .i64 now, .slice p n cap]) 24], [bx g31 (((cs31).setIfInBounds (0 + (posK Tim.id ts k) * 2) (.int .i64 k)).setIfInBounds (0 + (posK Tim.id ts k) * 2 + 1) (.int .i64 at_)) 42]] [2] [0, 1] (by kernel_rfl) hw)⟩
     ·
      have hp_y21 := pos_getK (wheel_iff.1 q3).rs hg21
      have hl_y21 := (List.getElem?_eq_some_iff.1 hp_y21).1
      refine cD (.tuple #[.int .i64 ((posK Tim.id ts k : Nat)), .bool true]) (fun args w => Tryz.call69 args w) (fun w hw => by have := find_t now p n cap ts k w (hts.kept hw.below) hn (by omega) q3; rw [hasK_some hg21] at this; exact this) (qo0 5 [] [1, 2, 3, 6] [(8, .int .i64 ((posK Tim.id ts k : Nat))), (9, .bool true)] (on_ (ds_ (sq_ (ao_ (qo0 2 [(1, .go (owns 1 1 1))] [1, 2, 3, 6, 8, 9] [(38, .slice p n cap)] (cP (fun v L' => ∃ q_ c_ Y_, v = .slice q_ n c_ ∧ L' = List.take 2 ([bx (γ1 1) (#[.int .i64 0, .slice none 0 0]) 24, bx (γ1 0) (#[.int .i64 now, .slice p n cap]) 24]) ++ (Y_ ++ List.drop 2 ([bx (γ1 1) (#[.int .i64 0, .slice none 0 0]) 24, bx (γ1 0) (#[.int .i64 now, .slice p n cap]) 24])) ∧ SlO 42 Y_ q_ n c_ ts) (fun args w => Tryz.call58 args w) (fun w hw => (clone_t p n cap ts w (hts.kept hw.below) hn (by omega)).mono fun e w' ⟨q_, c_, Y_, he, hO, hb, hY⟩ => ⟨_, _, he, ⟨q_, c_, Y_, rfl, rfl, hO⟩, hw.join hb hY 2⟩) ?_)))))))
      rintro v38 L38 ⟨q38, cq38, Y38, rfl, rfl, hO38⟩
      refine qo0 1 [] [1, 2, 3, 6, 8, 9] [(10, .slice q38 n cq38)] (on_ (ds_ (sq_ (sq_ (qa0 [] [1, 2, 3, 6, 8, 10] [(41, .bool false)] (ds_ (f_ (at_skip (ds_ (sq_ ?_))))))))))
      have hlz := (wheel_iff.1 q3).len
      have hln42 := hO38.len
      obtain ⟨g42, cs42, rfl, rfl, hOw42⟩ := hO38.rowOf (i := posK Tim.id ts k) (by omega)
      refine ma [(5, .at g42 0 (posK Tim.id ts k)), (6, .go (ownps 2 (0 + (posK Tim.id ts k) * 2) [undef, undef]))] [3, 6, 10] (fun _ => []) (fun _ L => (L.set 2 (bx g42 (((cs42).setIfInBounds (0 + (posK Tim.id ts k) * 2) (.int .i64 k)).setIfInBounds (0 + (posK Tim.id ts k) * 2 + 1) (.int .i64 at_)) 42))) (fun _ => [(some ⟨g42, 0, none⟩ : Option Addr) = some ⟨g42, 0, none⟩, ((posK Tim.id ts k : Nat)) = ((posK Tim.id ts k : Nat) : Int), posK Tim.id ts k < n] ++ ([0 + (posK Tim.id ts k) * 2 < (cs42).size] ++ ([0 + (posK Tim.id ts k) * 2 + 1 < ((cs42).setIfInBounds (0 + (posK Tim.id ts k) * 2) (.int .i64 k)).size]))) (fun _ => (alA (al2 rfl (al2 rfl (al1 (by omega)))) (alA (al1 (by exact hOw42.room hO38.len hp_y21 (f := 0) (by decide))) (al1 (by simp only [Array.size_setIfInBounds]; exact hOw42.room hO38.len hp_y21 (f := 1) (by decide)))))) (fun _ => ds_ (sq_ (ma0 [(1, .go (owns 1 0 1)), (4, .go (owns 0 0 2))] [6] (fun _ => [(7, .int .i64 0)]) (fun _ L => (L.set 0 (bx (γ1 1) (#[.int .i64 now, .slice (some ⟨g42, 0, none⟩) n cq38]) 24))) (fun _ => ds_ (rt (owns 0 0 2) (.tuple #[.agg #[.int .i64 now, .slice (some ⟨g42, 0, none⟩) n cq38], .int .i64 0]) ?_)))))
      exact fun w' hw => by rw [setV_put q3 q8 (by omega) hg21]; exact ⟨_, _, _, _, rfl, (SlO.ofOwn (hOw42.putAll (x' := (⟨k, at_⟩ : Tim)) hO38.len hp_y21) (len_set hO38.len)), hw.below, one_tail (Hs.pick [[bx (γ1 1) (#[.int .i64 now, .slice (some ⟨g42, 0, none⟩) n cq38]) 24], [bx (γ1 0) (#[.int .i64 now, .slice p n cap]) 24], [bx g42 (((cs42).setIfInBounds (0 + (posK Tim.id ts k) * 2) (.int .i64 k)).setIfInBounds (0 + (posK Tim.id ts k) * 2 + 1) (.int .i64 at_)) 42]] [2] [0, 1] (by kernel_rfl) hw)⟩
end Go.Proofs.YtdbamgbgnpadjaaGreat

/-! The walker: two cells of an element changed in place. -/
namespace Go.Proofs.YtdbamgbgnpadjaaGreat
open Go Go.RowKit
section
variable {α : Type} [Enc α] {l : List α} {x x' : α} {v v' : Value} {i f n cap : Nat} {cs : Array Value}
end
end Go.Proofs.YtdbamgbgnpadjaaGreat

/-! The walker: three bounds; what slices.Delete does to its row. -/
namespace Go.Proofs.YtdbamgbgnpadjaaGreat
open Go Go.RowKit
section
variable {P : Program} {T e : TypeId} {n cap k by_ b o lo hi mx : Nat}
theorem slE_3 (hE : elemB P T e k by_ = true) (h1 : lo ≤ hi) (h2 : hi ≤ mx) (h3 : mx ≤ cap) (h4 : lo < mx) : SlRun P T (.slice (some ⟨b, o, none⟩) n cap) (some (.int .i64 (lo : Int))) (some (.int .i64 (hi : Int))) (some (.int .i64 (mx : Int))) (.slice (some ⟨b, o + lo * k, none⟩) (hi - lo) (mx - lo)) := by
  obtain ⟨hu, i, z, hi', _, _, hk, _⟩ := elemB_spec hE
  subst hk
  intro w
  have hne : ¬ mx = lo := by omega
  simp [Instr.sliceAt, Instr.slice, underlying, hu, Instr.sliceBounds, run_bound h1, run_bound h2, run_bound h3, sizeOf, typeInfo, hi', hne, addr_add]
theorem slE_mid (hE : elemB P T e k by_ = true) (h1 : lo ≤ hi) (h2 : hi ≤ cap) (h4 : lo < cap) : SlRun P T (.slice (some ⟨b, o, none⟩) n cap) (some (.int .i64 (lo : Int))) (some (.int .i64 (hi : Int))) none (.slice (some ⟨b, o + lo * k, none⟩) (hi - lo) (cap - lo)) := by
  obtain ⟨hu, i, z, hi', _, _, hk, _⟩ := elemB_spec hE
  subst hk
  intro w
  have hne : ¬ cap = lo := by omega
  simp [Instr.sliceAt, Instr.slice, underlying, hu, Instr.sliceBounds, run_bound h1, run_bound h2, sizeOf, typeInfo, hi', hne, addr_add]
end
section
variable {α : Type} [Enc α] {l : List α} {i i2 n cap : Nat} {cs : Array Value} {w : World}
theorem strike_room (h : OwnS (Enc.k α) (l.flatMap Enc.enc) n cap cs) (hi : i ≤ i2) (hi2 : i2 ≤ n) : 0 + i * Enc.k α + ((cs.toList.drop (0 + i2 * Enc.k α)).take ((n - i2) * Enc.k α)).length ≤ cs.size := by
  rw [row_len h hi2, h.csz, Nat.zero_add, ← Nat.add_mul]
  have := h.le
  exact Nat.mul_le_mul_right _ (by omega)
theorem strike_clear {vs : List Value} {o : Nat} (h : OwnS (Enc.k α) (l.flatMap Enc.enc) n cap cs) (hi : i ≤ n) : 0 + i * Enc.k α + (n - i) * Enc.k α ≤ (sets cs o vs).size := by
  rw [sets_size, h.csz, Nat.zero_add, ← Nat.add_mul]
  have := h.le
  exact Nat.mul_le_mul_right _ (by omega)
theorem src_strike {P : Program} {tx e : TypeId} (hu : P.underlying tx = some (.slice e)) (hz : n - i2 = 0) {c2 : Nat} {p : Option Addr} :
    Go.Src P (Enc.k α) tx (.slice p (n - i2) c2) (n - i2) ((cs.toList.drop (0 + i2 * Enc.k α)).take ((n - i2) * Enc.k α)) w := by
  rw [hz, Nat.zero_mul, List.take_zero]
  exact src_svn (α := α) (l2 := []) hu Sv.nil rfl
end
section
variable {E : Env} {k : List Fr} {l lx : Sl} {L : List Ob} {c d : Code}
/-- Ways that meet again. -/
theorem at_cutS (lx : Sl) (hfirst : Done E (.seq d :: k) lx L → At E (.seq d :: k) c l L) (hrest : At E k d lx L) : At E k (.seq c d) l L := at_seq (hfirst (done_seq hrest))
theorem Done.weakS {L : List Ob} {k : List Fr} {l lx : Sl} (h : Done E k lx L) (ts : List Nat) (hl : keepL l ts = some lx) : Done E k l L := ⟨fun a w ha hs => h.out a w (ha.sub (keepL_mem hl)) hs⟩
end
end Go.Proofs.YtdbamgbgnpadjaaGreat

/-! Timers: slices.Delete. -/
namespace Go.Proofs.YtdbamgbgnpadjaaGreat
open Go Go.RowKit

set_option maxRecDepth 100000 in
theorem delete_t (w0 : World) (X Y : List Ob) (p : Option Addr) (n cap : Nat) (l : List Tim) (i i2 : Nat) (w : World)
 (hH : Hs w0 (Y ++ X) w) (hO : SlO 42 Y p n cap l) (hi : i < i2) (hi2 : i2 ≤ n) (hb : n ≤ 1000)
 : Calls Tryz.prog 81 #[.slice p n cap, .int .i64 (i : Nat), .int .i64 (i2 : Nat)] w fun e w' => ∃ q capq Y', e = .returned (.slice q (i + (n - i2)) capq) ∧ SlO 42 Y' q (i + (n - i2)) capq (l.take i ++ l.drop i2) ∧ Hs w0 (Y' ++ X) w' := by
 have hn := hO.len
 obtain ⟨g, cs, rfl, rfl, hOw⟩ := hO.rowOf (i := i) (by omega)
 have hcap := hOw.le
 refine enter hH Tryz.func81 rfl Tryz.ntmps81 rfl (sq_ (qa0 [] [0, 1, 2] [] (ds_ (sq_ (qa [(5, .sl (.slice (some ⟨g, 0 + i * 2, none⟩) (i2 - i) (n - i)))] [0, 1, 2] [] ([SlRun Tryz.prog 22 (.slice (some ⟨g, 0, none⟩) n cap) (some (.int .i64 ((i : Nat)))) (some (.int .i64 ((i2 : Nat)))) (some (.int .i64 ((n : Nat)))) (.slice (some ⟨g, 0 + i * 2, none⟩) (i2 - i) (n - i))]) (al1 (slE_3 (P := Tryz.prog) (T := 22) (e := 42) (k := 2) (by_ := 16) (by kernel_rfl) (lo := i) (hi := i2) (mx := n) (by omega) (by omega) (by omega) (by omega))) (ds_ (sq_ (sq_ (qa [(2, .no)] [0, 1, 2] [(16, .bool false)] ([¬ (((i : Nat) : Int) = ((i2 : Nat) : Int))]) (al1 ((by omega))) (ds_ (f_ (at_skip (ds_ (sq_ (qa0 [] [0, 1, 2] [(7, .int .i64 ((n : Nat)))] (ds_ (sq_ ?_)))))))))))))))))
 by_cases q5 : cap = i2
 ·
  refine at_any (by kernel_rfl) ?_
  refine tk (m := 4) [0, 1, 3, 4] [] [0, 7] [(20, .slice (some ⟨g, 0, none⟩) n cap), (21, .int .i64 ((i : Nat))), (23, .slice (some ⟨g, 0, none⟩) n cap), (24, .int .i64 ((i2 : Nat)))] ([]) #[true, true, false, true, true, false, false, false] al0 ?_
  refine any_cut 2 #[true, true, true, true, true, true, false, false] ([(0, .slice (some ⟨g, 0, none⟩) n cap), (7, .int .i64 ((n : Nat))), (22, .slice (some ⟨g, 0, none⟩) i cap), (25, .slice (some ⟨g, 0, none⟩) (n - i2) (cap - i2))]) (bx g cs 42 :: X) ?_ (fun hm => ?_)
  rotate_left
  ·
   refine any_fork [2, 5] (by kernel_rfl) (by simp) (each_cons _ rfl ?_ (each_cons _ rfl ?_ (each_nil)))
   ·
    refine qo 1 [(2, .sl (.slice (some ⟨g, 0, none⟩) i cap))] [0, 7, 23, 24] [(22, .slice (some ⟨g, 0, none⟩) i cap)] ([SlRun Tryz.prog 22 (.slice (some ⟨g, 0, none⟩) n cap) none (some (.int .i64 ((i : Nat)))) none (.slice (some ⟨g, 0, none⟩) i cap)]) (al1 (slE_hi (P := Tryz.prog) (T := 22) (e := 42) (k := 2) (by_ := 16) (by kernel_rfl) (h := i) (by omega))) ?_
    refine od_ ?_
    refine a1 5 rfl ?_
    refine qo 1 [(5, .sl (.slice (some ⟨g, 0, none⟩) (n - i2) (cap - i2)))] [0, 7, 22] [(25, .slice (some ⟨g, 0, none⟩) (n - i2) (cap - i2))] ([SlRun Tryz.prog 22 (.slice (some ⟨g, 0, none⟩) n cap) (some (.int .i64 ((i2 : Nat)))) none none (.slice (some ⟨g, 0, none⟩) (n - i2) (cap - i2))]) (al1 (by have := slE_cut (P := Tryz.prog) (T := 22) (e := 42) (k := 2) (by_ := 16) (by kernel_rfl) (lo := i2) (p := some ⟨g, 0, none⟩) (n := n) (cap := cap) (by omega); rw [if_pos q5] at this; exact this)) ?_
    refine od_ ?_
    exact any_weak hm [0, 7, 22, 25] (by kernel_rfl) rfl rfl rfl
   ·
    refine qo 1 [(5, .sl (.slice (some ⟨g, 0, none⟩) (n - i2) (cap - i2)))] [0, 7, 20, 21] [(25, .slice (some ⟨g, 0, none⟩) (n - i2) (cap - i2))] ([SlRun Tryz.prog 22 (.slice (some ⟨g, 0, none⟩) n cap) (some (.int .i64 ((i2 : Nat)))) none none (.slice (some ⟨g, 0, none⟩) (n - i2) (cap - i2))]) (al1 (by have := slE_cut (P := Tryz.prog) (T := 22) (e := 42) (k := 2) (by_ := 16) (by kernel_rfl) (lo := i2) (p := some ⟨g, 0, none⟩) (n := n) (cap := cap) (by omega); rw [if_pos q5] at this; exact this)) ?_
    refine od_ ?_
    refine a1 2 rfl ?_
    refine qo 1 [(2, .sl (.slice (some ⟨g, 0, none⟩) i cap))] [0, 7, 25] [(22, .slice (some ⟨g, 0, none⟩) i cap)] ([SlRun Tryz.prog 22 (.slice (some ⟨g, 0, none⟩) n cap) none (some (.int .i64 ((i : Nat)))) none (.slice (some ⟨g, 0, none⟩) i cap)]) (al1 (slE_hi (P := Tryz.prog) (T := 22) (e := 42) (k := 2) (by_ := 16) (by kernel_rfl) (h := i) (by omega))) ?_
    refine od_ ?_
    exact any_weak hm [0, 7, 22, 25] (by kernel_rfl) rfl rfl rfl
  refine a1 6 rfl ?_
  refine ops_appendR 0 rfl (by kernel_rfl) (by kernel_rfl) (g := g) (n := i) (cap := cap) (m := n - i2) (c := cs) (yv := .slice (some ⟨g, 0, none⟩) (n - i2) (cap - i2)) ((cs.toList.drop (0 + i2 * 2)).take ((n - i2) * 2)) (by kernel_rfl) (by kernel_rfl) (T := 42) (ks := 2) (by_ := 16) (by kernel_rfl) (T' := 42) (by kernel_rfl) (by omega) (fun w hw => (src_strike (α := Tim) Tryz.underlying22 (by omega))) (strike_room hOw (by omega) (by omega)) ?_
  refine od_ ?_
  refine tk (m := 0) [7] [] [7] [(0, .slice (some ⟨g, 0, none⟩) (i + (n - i2)) cap)] ([]) #[true, true, true, true, true, true, true, true] al0 ?_
  refine any_nil (by kernel_rfl) ?_
  refine ds_ (sq_ (ao_ (qo 5 [(4, .sl (.slice (some ⟨g, 0 + (i + (n - i2)) * 2, none⟩) (n - (i + (n - i2))) (cap - (i + (n - i2)))))] [0] [(31, .slice (some ⟨g, 0 + (i + (n - i2)) * 2, none⟩) (n - (i + (n - i2))) (cap - (i + (n - i2))))] ([SlRun Tryz.prog 22 (.slice (some ⟨g, 0, none⟩) (i + (n - i2)) cap) (some (.int .i64 ((i + (n - i2) : Nat)))) (some (.int .i64 ((n : Nat)))) none (.slice (some ⟨g, 0 + (i + (n - i2)) * 2, none⟩) (n - (i + (n - i2))) (cap - (i + (n - i2))))]) (al1 (slE_mid (P := Tryz.prog) (T := 22) (e := 42) (k := 2) (by_ := 16) (by kernel_rfl) (lo := i + (n - i2)) (hi := n) (by omega) (by omega) (by omega))) (ops_clear 0 rfl (by kernel_rfl) (by kernel_rfl) (g := g) (of := 0 + (i + (n - i2)) * 2) (n := n - (i + (n - i2))) (dc := cap - (i + (n - i2))) (c := (sets cs (0 + i * 2) ((cs.toList.drop (0 + i2 * 2)).take ((n - i2) * 2)))) (by kernel_rfl) (T := 42) (ks := 2) (by_ := 16) (by kernel_rfl) (by kernel_rfl) rfl (strike_clear hOw (by omega)) (fun c2 hc2 hpre2 => on_ (ds_ (sq_ (qa0 [] [] [(6, .slice (some ⟨g, 0, none⟩) (i + (n - i2)) cap)] (ds_ (rt ([]) (.slice (some ⟨g, 0, none⟩) (i + (n - i2)) cap) ?_))))))))))
  exact fun w' hw => ⟨_, _, [_], rfl, .inr ⟨_, _, rfl, rfl, by rw [List.length_append, List.length_take, List.length_drop]; omega, hOw.strike hn (by omega) (by omega) (hc2.trans (sets_size ..)) hpre2⟩, hw⟩
 ·
  refine at_any (by kernel_rfl) ?_
  refine tk (m := 4) [0, 1, 3, 4] [] [0, 7] [(20, .slice (some ⟨g, 0, none⟩) n cap), (21, .int .i64 ((i : Nat))), (23, .slice (some ⟨g, 0, none⟩) n cap), (24, .int .i64 ((i2 : Nat)))] ([]) #[true, true, false, true, true, false, false, false] al0 ?_
  refine any_cut 2 #[true, true, true, true, true, true, false, false] ([(0, .slice (some ⟨g, 0, none⟩) n cap), (7, .int .i64 ((n : Nat))), (22, .slice (some ⟨g, 0, none⟩) i cap), (25, .slice (some ⟨g, 0 + i2 * 2, none⟩) (n - i2) (cap - i2))]) (bx g cs 42 :: X) ?_ (fun hm => ?_)
  rotate_left
  ·
   refine any_fork [2, 5] (by kernel_rfl) (by simp) (each_cons _ rfl ?_ (each_cons _ rfl ?_ (each_nil)))
   ·
    refine qo 1 [(2, .sl (.slice (some ⟨g, 0, none⟩) i cap))] [0, 7, 23, 24] [(22, .slice (some ⟨g, 0, none⟩) i cap)] ([SlRun Tryz.prog 22 (.slice (some ⟨g, 0, none⟩) n cap) none (some (.int .i64 ((i : Nat)))) none (.slice (some ⟨g, 0, none⟩) i cap)]) (al1 (slE_hi (P := Tryz.prog) (T := 22) (e := 42) (k := 2) (by_ := 16) (by kernel_rfl) (h := i) (by omega))) ?_
    refine od_ ?_
    refine a1 5 rfl ?_
    refine qo 1 [(5, .sl (.slice (some ⟨g, 0 + i2 * 2, none⟩) (n - i2) (cap - i2)))] [0, 7, 22] [(25, .slice (some ⟨g, 0 + i2 * 2, none⟩) (n - i2) (cap - i2))] ([SlRun Tryz.prog 22 (.slice (some ⟨g, 0, none⟩) n cap) (some (.int .i64 ((i2 : Nat)))) none none (.slice (some ⟨g, 0 + i2 * 2, none⟩) (n - i2) (cap - i2))]) (al1 (slE_lo (P := Tryz.prog) (T := 22) (e := 42) (k := 2) (by_ := 16) (by kernel_rfl) (lo := i2) (by omega) (by omega))) ?_
    refine od_ ?_
    exact any_weak hm [0, 7, 22, 25] (by kernel_rfl) rfl rfl rfl
   ·
    refine qo 1 [(5, .sl (.slice (some ⟨g, 0 + i2 * 2, none⟩) (n - i2) (cap - i2)))] [0, 7, 20, 21] [(25, .slice (some ⟨g, 0 + i2 * 2, none⟩) (n - i2) (cap - i2))] ([SlRun Tryz.prog 22 (.slice (some ⟨g, 0, none⟩) n cap) (some (.int .i64 ((i2 : Nat)))) none none (.slice (some ⟨g, 0 + i2 * 2, none⟩) (n - i2) (cap - i2))]) (al1 (slE_lo (P := Tryz.prog) (T := 22) (e := 42) (k := 2) (by_ := 16) (by kernel_rfl) (lo := i2) (by omega) (by omega))) ?_
    refine od_ ?_
    refine a1 2 rfl ?_
    refine qo 1 [(2, .sl (.slice (some ⟨g, 0, none⟩) i cap))] [0, 7, 25] [(22, .slice (some ⟨g, 0, none⟩) i cap)] ([SlRun Tryz.prog 22 (.slice (some ⟨g, 0, none⟩) n cap) none (some (.int .i64 ((i : Nat)))) none (.slice (some ⟨g, 0, none⟩) i cap)]) (al1 (slE_hi (P := Tryz.prog) (T := 22) (e := 42) (k := 2) (by_ := 16) (by kernel_rfl) (h := i) (by omega))) ?_
    refine od_ ?_
    exact any_weak hm [0, 7, 22, 25] (by kernel_rfl) rfl rfl rfl
  refine a1 6 rfl ?_
  refine ops_appendR 0 rfl (by kernel_rfl) (by kernel_rfl) (g := g) (n := i) (cap := cap) (m := n - i2) (c := cs) (yv := .slice (some ⟨g, 0 + i2 * 2, none⟩) (n - i2) (cap - i2)) ((cs.toList.drop (0 + i2 * 2)).take ((n - i2) * 2)) (by kernel_rfl) (by kernel_rfl) (T := 42) (ks := 2) (by_ := 16) (by kernel_rfl) (T' := 42) (by kernel_rfl) (by omega) (fun w hw => (src_own Tryz.underlying22 (hw.row 0 rfl) hOw (by omega))) (strike_room hOw (by omega) (by omega)) ?_
  refine od_ ?_
  refine tk (m := 0) [7] [] [7] [(0, .slice (some ⟨g, 0, none⟩) (i + (n - i2)) cap)] ([]) #[true, true, true, true, true, true, true, true] al0 ?_
  refine any_nil (by kernel_rfl) ?_
  refine ds_ (sq_ (ao_ (qo 5 [(4, .sl (.slice (some ⟨g, 0 + (i + (n - i2)) * 2, none⟩) (n - (i + (n - i2))) (cap - (i + (n - i2)))))] [0] [(31, .slice (some ⟨g, 0 + (i + (n - i2)) * 2, none⟩) (n - (i + (n - i2))) (cap - (i + (n - i2))))] ([SlRun Tryz.prog 22 (.slice (some ⟨g, 0, none⟩) (i + (n - i2)) cap) (some (.int .i64 ((i + (n - i2) : Nat)))) (some (.int .i64 ((n : Nat)))) none (.slice (some ⟨g, 0 + (i + (n - i2)) * 2, none⟩) (n - (i + (n - i2))) (cap - (i + (n - i2))))]) (al1 (slE_mid (P := Tryz.prog) (T := 22) (e := 42) (k := 2) (by_ := 16) (by kernel_rfl) (lo := i + (n - i2)) (hi := n) (by omega) (by omega) (by omega))) (ops_clear 0 rfl (by kernel_rfl) (by kernel_rfl) (g := g) (of := 0 + (i + (n - i2)) * 2) (n := n - (i + (n - i2))) (dc := cap - (i + (n - i2))) (c := (sets cs (0 + i * 2) ((cs.toList.drop (0 + i2 * 2)).take ((n - i2) * 2)))) (by kernel_rfl) (T := 42) (ks := 2) (by_ := 16) (by kernel_rfl) (by kernel_rfl) rfl (strike_clear hOw (by omega)) (fun c2 hc2 hpre2 => on_ (ds_ (sq_ (qa0 [] [] [(6, .slice (some ⟨g, 0, none⟩) (i + (n - i2)) cap)] (ds_ (rt ([]) (.slice (some ⟨g, 0, none⟩) (i + (n - i2)) cap) ?_))))))))))
  exact fun w' hw => ⟨_, _, [_], rfl, .inr ⟨_, _, rfl, rfl, by rw [List.length_append, List.length_take, List.length_drop]; omega, hOw.strike hn (by omega) (by omega) (hc2.trans (sets_size ..)) hpre2⟩, hw⟩
end Go.Proofs.YtdbamgbgnpadjaaGreat

/-! Timers: Cancel. -/
namespace Go.Proofs.YtdbamgbgnpadjaaGreat
open Go Go.RowKit

set_option maxRecDepth 100000 in
theorem cancel_t (now : Int) (p : Option Addr) (n cap : Nat) (ts : List Tim) (k : Int) (w : World)
 (hts : Sv w p ts) (hn : n = ts.length) (hb : n ≤ 1000)
 : Calls Tryz.prog 72 #[.agg #[.int .i64 now, .slice p n cap], .int .i64 k] w fun e w' => ∃ q m capq Y, e = .returned (.tuple #[.agg #[.int .i64 (canV now ts k).1, .slice q m capq], .int .i64 (canV now ts k).2.2]) ∧ SlO 42 Y q m capq (canV now ts k).2.1 ∧ Below w.heap.size w w' ∧ Hs w Y w' := by
 refine enter (Hs.start w) Tryz.func72 rfl Tryz.ntmps72 rfl (sq_ (ma0 [] [1] (fun γ1 => [(2, .pointer (some ⟨γ1 0, 0, none⟩)), (4, .pointer (some ⟨γ1 1, 0, none⟩))]) (fun γ1 L => bx (γ1 1) (#[.int .i64 0, .slice none 0 0]) 24 :: bx (γ1 0) (#[.int .i64 now, .slice p n cap]) 24 :: L) (fun γ1 => ds_ (sq_ (sq_ (ao_ (qo0 1 [(0, .go (owns 1 0 2))] [1, 2, 4] [(9, .agg #[.int .i64 now, .slice p n cap])] ?_)))))))
 rcases q3 : wheelB now ts with _ | _
 ·
  refine cD (.int .i64 250) (fun args w => Tryz.call68 args w) (fun w hw => by have := wcheck_t now p n cap ts w (hts.kept hw.below) hn (by omega); rw [q3] at this; exact this) (qo0 1 [] [1, 2, 4] [(6, .int .i64 250)] (on_ (ds_ (sq_ (qa0 [] [1, 2, 4, 6] [(12, .bool true)] (ds_ (t_ (sq_ (qa0 [(2, .go (owns 0 0 2))] [4] [(5, .int .i64 250)] (ds_ (rt (owns 0 0 2) (.tuple #[.agg #[.int .i64 0, .slice none 0 0], .int .i64 250]) ?_)))))))))))
  exact fun w' hw => by rw [canV_bad q3]; exact ⟨none, 0, 0, [], rfl, SlO.nil, hw.below, hw.sub (List.nil_sublist _)⟩
 ·
  refine cD (.int .i64 0) (fun args w => Tryz.call68 args w) (fun w hw => by have := wcheck_t now p n cap ts w (hts.kept hw.below) hn (by omega); rw [q3] at this; exact this) (qo0 1 [] [1, 2, 4] [(6, .int .i64 0)] (on_ (ds_ (sq_ (qa0 [] [1, 2, 4, 6] [(12, .bool false)] (ds_ (f_ (at_skip (ds_ (sq_ (ao_ (qo0 2 [(0, .go (owns 1 0 2))] [2, 4] [(16, .agg #[.int .i64 now, .slice p n cap]), (17, .int .i64 k)] ?_))))))))))))
  rcases hg10 : getK Tim.id ts k with _ | y10
  ·
   have hpl10 := (pos_cut (k := k) (wheel_iff.1 q3).rs).2.2
   refine cD (.tuple #[.int .i64 ((posK Tim.id ts k : Nat)), .bool false]) (fun args w => Tryz.call69 args w) (fun w hw => by have := find_t now p n cap ts k w (hts.kept hw.below) hn (by omega) q3; rw [hasK_none hg10] at this; exact this) (qo0 5 [] [2, 4] [(7, .int .i64 ((posK Tim.id ts k : Nat))), (8, .bool false)] (on_ (ds_ (sq_ (sq_ (qa0 [] [2, 4, 7] [(22, .bool true)] (ds_ (t_ (sq_ (qa0 [(1, .go (owns 0 0 2))] [4] [(5, .int .i64 4)] (ds_ (rt (owns 0 0 2) (.tuple #[.agg #[.int .i64 0, .slice none 0 0], .int .i64 4]) ?_))))))))))))
   exact fun w' hw => by rw [canV_none q3 hg10]; exact ⟨none, 0, 0, [], rfl, SlO.nil, hw.below, hw.sub (List.nil_sublist _)⟩
  ·
   have hp_y10 := pos_getK (wheel_iff.1 q3).rs hg10
   have hl_y10 := (List.getElem?_eq_some_iff.1 hp_y10).1
   refine cD (.tuple #[.int .i64 ((posK Tim.id ts k : Nat)), .bool true]) (fun args w => Tryz.call69 args w) (fun w hw => by have := find_t now p n cap ts k w (hts.kept hw.below) hn (by omega) q3; rw [hasK_some hg10] at this; exact this) (qo0 5 [] [2, 4] [(7, .int .i64 ((posK Tim.id ts k : Nat))), (8, .bool true)] (on_ (ds_ (sq_ (sq_ (qa0 [] [2, 4, 7] [(22, .bool false)] (ds_ (f_ (at_skip (ds_ (sq_ ?_)))))))))))
   refine at_any (by kernel_rfl) ?_
   refine tk (m := 7) [0, 2, 5, 6, 7] [(7, .fit)] [4] [(24, .pointer (some ⟨γ1 0, 0, none⟩)), (26, .pointer (some ⟨γ1 0, 1, none⟩)), (29, .int .i64 ((posK Tim.id ts k : Nat))), (31, .int .i64 ((posK Tim.id ts k + 1 : Nat)))] ([Fit .i64 ((posK Tim.id ts k + 1 : Nat))]) #[true, false, true, false, false, true, true, true, false, false, false, false] (al1 (fit64 (by omega) (by omega))) ?_
   refine any_cutX (V := (List Ob) × (List Ob) × (Nat) × (Nat) × (Option Addr) × (Option Addr)) (fun ⟨Y179, Y99, cq179, cq99, q179, q99⟩ => SlO 42 Y179 q179 ((posK Tim.id ts k) + (n - (posK Tim.id ts k + 1))) cq179 (ts.take (posK Tim.id ts k) ++ ts.drop (posK Tim.id ts k + 1)) ∧ SlO 42 Y99 q99 n cq99 ts) 0 #[true, true, true, true, true, true, true, true, true, true, true, true] (fun ⟨Y179, Y99, cq179, cq99, q179, q99⟩ => [(4, .pointer (some ⟨γ1 1, 0, none⟩)), (5, .int .i64 0)]) (fun ⟨Y179, Y99, cq179, cq99, q179, q99⟩ => bx (γ1 1) (#[.int .i64 now, .slice q179 ((posK Tim.id ts k) + (n - (posK Tim.id ts k + 1))) cq179]) 24 :: bx (γ1 0) (#[.int .i64 now, .slice p n cap]) 24 :: (Y179 ++ [])) ?_ (fun hmx8 => ?_)
   rotate_left
   ·
    refine any_cutX (V := (List Ob) × (List Ob) × (Nat) × (Nat) × (Option Addr) × (Option Addr)) (fun ⟨Y179, Y99, cq179, cq99, q179, q99⟩ => SlO 42 Y179 q179 ((posK Tim.id ts k) + (n - (posK Tim.id ts k + 1))) cq179 (ts.take (posK Tim.id ts k) ++ ts.drop (posK Tim.id ts k + 1)) ∧ SlO 42 Y99 q99 n cq99 ts) 2 #[true, true, true, true, true, true, true, true, true, true, false, false] (fun ⟨Y179, Y99, cq179, cq99, q179, q99⟩ => [(4, .pointer (some ⟨γ1 1, 0, none⟩)), (33, .agg #[.int .i64 now, .slice q179 ((posK Tim.id ts k) + (n - (posK Tim.id ts k + 1))) cq179])]) (fun ⟨Y179, Y99, cq179, cq99, q179, q99⟩ => bx (γ1 1) (#[.int .i64 0, .slice none 0 0]) 24 :: bx (γ1 0) (#[.int .i64 now, .slice p n cap]) 24 :: (Y179 ++ [])) ?_ (fun hmx7 => ?_)
    ·
     rintro ⟨Y179, Y99, cq179, cq99, q179, q99⟩ ⟨hO179, hO99⟩
     refine a1 10 rfl ?_
     refine mo0 1 [(10, .go (owns 0 0 2))] [4] (fun _ => []) (fun _ L => (L.set 0 (bx (γ1 1) (#[.int .i64 now, .slice q179 ((posK Tim.id ts k) + (n - (posK Tim.id ts k + 1))) cq179]) 24))) (fun _ => ?_)
     refine od_ ?_
     refine tk (m := 0) [11] [] [4] [(5, .int .i64 0)] ([]) #[true, true, true, true, true, true, true, true, true, true, true, true] al0 ?_
     exact wk (hmx8 (Y179, Y99, cq179, cq99, q179, q99) ⟨hO179, hO99⟩) [4, 5] [[_], [_], _] [0, 1, 2] rfl rfl
    refine any_cutX (V := (List Ob) × (List Ob) × (Nat) × (Nat) × (Option Addr) × (Option Addr)) (fun ⟨Y179, Y99, cq179, cq99, q179, q99⟩ => SlO 42 Y179 q179 ((posK Tim.id ts k) + (n - (posK Tim.id ts k + 1))) cq179 (ts.take (posK Tim.id ts k) ++ ts.drop (posK Tim.id ts k + 1)) ∧ SlO 42 Y99 q99 n cq99 ts) 4 #[true, false, true, true, true, true, true, true, true, false, false, false] (fun ⟨Y179, Y99, cq179, cq99, q179, q99⟩ => [(4, .pointer (some ⟨γ1 1, 0, none⟩)), (24, .pointer (some ⟨γ1 0, 0, none⟩)), (32, .slice q179 ((posK Tim.id ts k) + (n - (posK Tim.id ts k + 1))) cq179)]) (fun ⟨Y179, Y99, cq179, cq99, q179, q99⟩ => bx (γ1 1) (#[.int .i64 0, .slice none 0 0]) 24 :: bx (γ1 0) (#[.int .i64 now, .slice p n cap]) 24 :: (Y179 ++ [])) ?_ (fun hmx6 => ?_)
    ·
     rintro ⟨Y179, Y99, cq179, cq99, q179, q99⟩ ⟨hO179, hO99⟩
     refine a1 1 rfl ?_
     refine qo0 1 [(1, .go (owns 1 0 1))] [4, 32] [(25, .int .i64 now)] ?_
     refine od_ ?_
     refine tk (m := 2) [9] [] [4] [(33, .agg #[.int .i64 now, .slice q179 ((posK Tim.id ts k) + (n - (posK Tim.id ts k + 1))) cq179])] ([]) #[true, true, true, true, true, true, true, true, true, true, false, false] al0 ?_
     exact wk (hmx7 (Y179, Y99, cq179, cq99, q179, q99) ⟨hO179, hO99⟩) [4, 33] [[_], [_], _] [0, 1, 2] rfl rfl
    refine any_cutX (V := (List Ob) × (Nat) × (Option Addr)) (fun ⟨Y99, cq99, q99⟩ => SlO 42 Y99 q99 n cq99 ts) 4 #[true, true, true, true, true, true, true, true, false, false, false, false] (fun ⟨Y99, cq99, q99⟩ => [(4, .pointer (some ⟨γ1 1, 0, none⟩)), (25, .int .i64 now), (28, .slice q99 n cq99), (29, .int .i64 ((posK Tim.id ts k : Nat))), (31, .int .i64 ((posK Tim.id ts k + 1 : Nat)))]) (fun ⟨Y99, cq99, q99⟩ => bx (γ1 1) (#[.int .i64 0, .slice none 0 0]) 24 :: bx (γ1 0) (#[.int .i64 now, .slice p n cap]) 24 :: (Y99 ++ [])) ?_ (fun hmx5 => ?_)
    ·
     rintro ⟨Y99, cq99, q99⟩ hO99
     refine a1 8 rfl ?_
     refine cP (fun v L' => ∃ q_ c_ Y_, v = .slice q_ ((posK Tim.id ts k) + (n - (posK Tim.id ts k + 1))) c_ ∧ L' = [bx (γ1 1) (#[.int .i64 0, .slice none 0 0]) 24, bx (γ1 0) (#[.int .i64 now, .slice p n cap]) 24] ++ (Y_ ++ []) ∧ SlO 42 Y_ q_ ((posK Tim.id ts k) + (n - (posK Tim.id ts k + 1))) c_ (ts.take (posK Tim.id ts k) ++ ts.drop (posK Tim.id ts k + 1))) (fun args w => Tryz.call81 args w) (fun w hw => (delete_t _ ([bx (γ1 1) (#[.int .i64 0, .slice none 0 0]) 24, bx (γ1 0) (#[.int .i64 now, .slice p n cap]) 24] ++ []) Y99 q99 n cq99 ts (posK Tim.id ts k) (posK Tim.id ts k + 1) w (Hs.front (A := [bx (γ1 1) (#[.int .i64 0, .slice none 0 0]) 24, bx (γ1 0) (#[.int .i64 now, .slice p n cap]) 24]) (Y := Y99) (R := []) hw) hO99 (by omega) (by omega) (by omega)).mono fun e w' ⟨q_, c_, Y_, he, hO, hY⟩ => ⟨_, _, he, ⟨q_, c_, Y_, rfl, rfl, hO⟩, hY.push⟩) ?_
     rintro v179 L179 ⟨q179, cq179, Y179, rfl, rfl, hO179⟩
     refine od_ ?_
     refine tk (m := 2) [9] [] [4] [(33, .agg #[.int .i64 now, .slice q179 ((posK Tim.id ts k) + (n - (posK Tim.id ts k + 1))) cq179])] ([]) #[true, true, true, true, true, true, true, true, true, true, false, false] al0 ?_
     exact wk (hmx7 (Y179, Y99, cq179, cq99, q179, q99) ⟨hO179, hO99⟩) [4, 33] [[_], [_], _] [0, 1, 2] rfl rfl
    refine any_cutX (V := (List Ob) × (Nat) × (Option Addr)) (fun ⟨Y99, cq99, q99⟩ => SlO 42 Y99 q99 n cq99 ts) 5 #[true, false, true, true, true, true, true, true, false, false, false, false] (fun ⟨Y99, cq99, q99⟩ => [(4, .pointer (some ⟨γ1 1, 0, none⟩)), (24, .pointer (some ⟨γ1 0, 0, none⟩)), (28, .slice q99 n cq99), (29, .int .i64 ((posK Tim.id ts k : Nat))), (31, .int .i64 ((posK Tim.id ts k + 1 : Nat)))]) (fun ⟨Y99, cq99, q99⟩ => bx (γ1 1) (#[.int .i64 0, .slice none 0 0]) 24 :: bx (γ1 0) (#[.int .i64 now, .slice p n cap]) 24 :: (Y99 ++ [])) ?_ (fun hmx4 => ?_)
    ·
     rintro ⟨Y99, cq99, q99⟩ hO99
     refine any_fork [1, 8] (by kernel_rfl) (by simp) (each_cons _ rfl ?_ (each_cons _ rfl ?_ (each_nil)))
     ·
      refine qo0 1 [(1, .go (owns 1 0 1))] [4, 28, 29, 31] [(25, .int .i64 now)] ?_
      refine od_ ?_
      exact wk (hmx5 (Y99, cq99, q99) hO99) [4, 25, 28, 29, 31] [[_], [_], _] [0, 1, 2] rfl rfl
     ·
      refine cP (fun v L' => ∃ q_ c_ Y_, v = .slice q_ ((posK Tim.id ts k) + (n - (posK Tim.id ts k + 1))) c_ ∧ L' = [bx (γ1 1) (#[.int .i64 0, .slice none 0 0]) 24, bx (γ1 0) (#[.int .i64 now, .slice p n cap]) 24] ++ (Y_ ++ []) ∧ SlO 42 Y_ q_ ((posK Tim.id ts k) + (n - (posK Tim.id ts k + 1))) c_ (ts.take (posK Tim.id ts k) ++ ts.drop (posK Tim.id ts k + 1))) (fun args w => Tryz.call81 args w) (fun w hw => (delete_t _ ([bx (γ1 1) (#[.int .i64 0, .slice none 0 0]) 24, bx (γ1 0) (#[.int .i64 now, .slice p n cap]) 24] ++ []) Y99 q99 n cq99 ts (posK Tim.id ts k) (posK Tim.id ts k + 1) w (Hs.front (A := [bx (γ1 1) (#[.int .i64 0, .slice none 0 0]) 24, bx (γ1 0) (#[.int .i64 now, .slice p n cap]) 24]) (Y := Y99) (R := []) hw) hO99 (by omega) (by omega) (by omega)).mono fun e w' ⟨q_, c_, Y_, he, hO, hY⟩ => ⟨_, _, he, ⟨q_, c_, Y_, rfl, rfl, hO⟩, hY.push⟩) ?_
      rintro v179 L179 ⟨q179, cq179, Y179, rfl, rfl, hO179⟩
      refine od_ ?_
      exact wk (hmx6 (Y179, Y99, cq179, cq99, q179, q99) ⟨hO179, hO99⟩) [4, 24, 32] [[_], [_], _] [0, 1, 2] rfl rfl
    refine any_cutX (V := Unit) (fun _ => True) 5 #[true, true, true, true, false, true, true, true, false, false, false, false] (fun _ => [(4, .pointer (some ⟨γ1 1, 0, none⟩)), (25, .int .i64 now), (27, .slice p n cap), (29, .int .i64 ((posK Tim.id ts k : Nat))), (31, .int .i64 ((posK Tim.id ts k + 1 : Nat)))]) (fun _ => [bx (γ1 1) (#[.int .i64 0, .slice none 0 0]) 24, bx (γ1 0) (#[.int .i64 now, .slice p n cap]) 24]) ?_ (fun hmx3 => ?_)
    ·
     rintro _ _
     refine a1 4 rfl ?_
     refine cP (fun v L' => ∃ q_ c_ Y_, v = .slice q_ n c_ ∧ L' = List.take 2 ([bx (γ1 1) (#[.int .i64 0, .slice none 0 0]) 24, bx (γ1 0) (#[.int .i64 now, .slice p n cap]) 24]) ++ (Y_ ++ List.drop 2 ([bx (γ1 1) (#[.int .i64 0, .slice none 0 0]) 24, bx (γ1 0) (#[.int .i64 now, .slice p n cap]) 24])) ∧ SlO 42 Y_ q_ n c_ ts) (fun args w => Tryz.call58 args w) (fun w hw => (clone_t p n cap ts w (hts.kept hw.below) hn (by omega)).mono fun e w' ⟨q_, c_, Y_, he, hO, hb, hY⟩ => ⟨_, _, he, ⟨q_, c_, Y_, rfl, rfl, hO⟩, hw.join hb hY 2⟩) ?_
     rintro v99 L99 ⟨q99, cq99, Y99, rfl, rfl, hO99⟩
     refine od_ ?_
     exact wk (hmx5 (Y99, cq99, q99) hO99) [4, 25, 28, 29, 31] [[_], [_], _] [0, 1, 2] rfl rfl
    refine any_cutX (V := Unit) (fun _ => True) 6 #[true, false, true, true, false, true, true, true, false, false, false, false] (fun _ => [(4, .pointer (some ⟨γ1 1, 0, none⟩)), (24, .pointer (some ⟨γ1 0, 0, none⟩)), (27, .slice p n cap), (29, .int .i64 ((posK Tim.id ts k : Nat))), (31, .int .i64 ((posK Tim.id ts k + 1 : Nat)))]) (fun _ => [bx (γ1 1) (#[.int .i64 0, .slice none 0 0]) 24, bx (γ1 0) (#[.int .i64 now, .slice p n cap]) 24]) ?_ (fun hmx2 => ?_)
    ·
     rintro _ _
     refine any_fork [1, 4] (by kernel_rfl) (by simp) (each_cons _ rfl ?_ (each_cons _ rfl ?_ (each_nil)))
     ·
      refine qo0 1 [(1, .go (owns 1 0 1))] [4, 27, 29, 31] [(25, .int .i64 now)] ?_
      refine od_ ?_
      exact wk (hmx3 () trivial) [4, 25, 27, 29, 31] [[_], [_]] [0, 1] rfl rfl
     ·
      refine cP (fun v L' => ∃ q_ c_ Y_, v = .slice q_ n c_ ∧ L' = List.take 2 ([bx (γ1 1) (#[.int .i64 0, .slice none 0 0]) 24, bx (γ1 0) (#[.int .i64 now, .slice p n cap]) 24]) ++ (Y_ ++ List.drop 2 ([bx (γ1 1) (#[.int .i64 0, .slice none 0 0]) 24, bx (γ1 0) (#[.int .i64 now, .slice p n cap]) 24])) ∧ SlO 42 Y_ q_ n c_ ts) (fun args w => Tryz.call58 args w) (fun w hw => (clone_t p n cap ts w (hts.kept hw.below) hn (by omega)).mono fun e w' ⟨q_, c_, Y_, he, hO, hb, hY⟩ => ⟨_, _, he, ⟨q_, c_, Y_, rfl, rfl, hO⟩, hw.join hb hY 2⟩) ?_
      rintro v99 L99 ⟨q99, cq99, Y99, rfl, rfl, hO99⟩
      refine od_ ?_
      exact wk (hmx4 (Y99, cq99, q99) hO99) [4, 24, 28, 29, 31] [[_], [_], _] [0, 1, 2] rfl rfl
    refine any_cutX (V := Unit) (fun _ => True) 6 #[true, true, true, false, false, true, true, true, false, false, false, false] (fun _ => [(4, .pointer (some ⟨γ1 1, 0, none⟩)), (25, .int .i64 now), (26, .pointer (some ⟨γ1 0, 1, none⟩)), (29, .int .i64 ((posK Tim.id ts k : Nat))), (31, .int .i64 ((posK Tim.id ts k + 1 : Nat)))]) (fun _ => [bx (γ1 1) (#[.int .i64 0, .slice none 0 0]) 24, bx (γ1 0) (#[.int .i64 now, .slice p n cap]) 24]) ?_ (fun hmx1 => ?_)
    ·
     rintro _ _
     refine a1 3 rfl ?_
     refine qo0 1 [(3, .go (owns 1 1 1))] [4, 25, 29, 31] [(27, .slice p n cap)] ?_
     refine od_ ?_
     exact wk (hmx3 () trivial) [4, 25, 27, 29, 31] [[_], [_]] [0, 1] rfl rfl
    refine any_fork [1, 3] (by kernel_rfl) (by simp) (each_cons _ rfl ?_ (each_cons _ rfl ?_ (each_nil)))
    ·
     refine qo0 1 [(1, .go (owns 1 0 1))] [4, 26, 29, 31] [(25, .int .i64 now)] ?_
     refine od_ ?_
     exact wk (hmx1 () trivial) [4, 25, 26, 29, 31] [[_], [_]] [0, 1] rfl rfl
    ·
     refine qo0 1 [(3, .go (owns 1 1 1))] [4, 24, 29, 31] [(27, .slice p n cap)] ?_
     refine od_ ?_
     exact wk (hmx2 () trivial) [4, 24, 27, 29, 31] [[_], [_]] [0, 1] rfl rfl
   rintro ⟨Y179, Y99, cq179, cq99, q179, q99⟩ ⟨hO179, hO99⟩
   refine any_nil (by kernel_rfl) ?_
   refine ds_ (rt (owns 0 0 2) (.tuple #[.agg #[.int .i64 now, .slice q179 ((posK Tim.id ts k) + (n - (posK Tim.id ts k + 1))) cq179], .int .i64 0]) ?_)
   exact fun w' hw => by rw [canV_ok q3 hg10]; exact ⟨_, _, _, _, rfl, hO179, hw.below, one_tail (Hs.pick [[bx (γ1 1) (#[.int .i64 now, .slice q179 ((posK Tim.id ts k) + (n - (posK Tim.id ts k + 1))) cq179]) 24], [bx (γ1 0) (#[.int .i64 now, .slice p n cap]) 24], Y179] [2] [0, 1] (by kernel_rfl) hw)⟩
end Go.Proofs.YtdbamgbgnpadjaaGreat

/-! Alarms: set, cancel, drop. -/
namespace Go.Proofs.YtdbamgbgnpadjaaGreat
open Go Go.RowKit

set_option maxRecDepth 100000 in
theorem aset_t (w0 : World) (YX Y : List Ob) (g : Nat) (now : Int) (p : Option Addr) (n cap : Nat) (po : Option Addr) (no co : Nat) (ts : List Tim) (k at_ : Int) (w : World)
 (hH : Hs w0 (bx g (#[.int .i64 now, .slice p n cap, .slice po no co]) 27 :: (Y ++ YX)) w) (hO : SlO 42 Y p n cap ts) (hb : n ≤ 1000) (hgd : wheelB now ts = true) (h0 : 0 ≤ k) (h1 : k < 32) (ha : aheadP now at_)
 : Calls Tryz.prog 28 #[.pointer (some ⟨g, 0, none⟩), .int .i64 k, .int .i64 at_] w fun e w' => ∃ q m c Y', e = .returned (.int .i64 0) ∧ SlO 42 Y' q m c (tput ts k at_) ∧ Hs w0 (Y' ++ (bx g #[.int .i64 now, .slice q m c, .slice po no co] 27 :: YX)) w' := by
 have hn := hO.len
 rw [show Y ++ YX = Y ++ (YX ++ []) from by rw [List.append_nil]] at hH
 refine enter hH Tryz.func28 rfl Tryz.ntmps28 rfl (sq_ (qa0 [] [0, 1, 2] [] (ds_ (sq_ (ao_ (qo0 6 [(3, .go (owns 0 0 2))] [0] [(13, .agg #[.int .i64 now, .slice p n cap]), (14, .int .i64 k), (15, .int .i64 at_)] (cP (fun v L' => ∃ q_ m_ c_ Y_, v = .tuple #[.agg #[.int .i64 now, .slice q_ m_ c_], .int .i64 0] ∧ L' = List.take 1 (bx g (#[.int .i64 now, .slice p n cap, .slice po no co]) 27 :: (Y ++ (YX ++ []))) ++ (Y_ ++ List.drop 1 (bx g (#[.int .i64 now, .slice p n cap, .slice po no co]) 27 :: (Y ++ (YX ++ [])))) ∧ SlO 42 Y_ q_ m_ c_ (tput ts k at_)) (fun args w => Tryz.call59 args w) (fun w hw => by have := set_t now p n cap ts k at_ w (hO.atN (A := [_]) hw) hO.len (by omega); rw [setV_tput hgd h0 h1 ha] at this; exact this.mono fun e w' ⟨q_, m_, c_, Y_, he, hO, hb, hY⟩ => ⟨_, _, he, ⟨q_, m_, c_, Y_, rfl, rfl, hO⟩, hw.join hb hY 1⟩) ?_)))))))
 rintro v3 L3 ⟨q3, m3, c3, Y3, rfl, rfl, hO3⟩
 have hm3 := hO3.len
 refine mo0 6 [(11, .go (owns 0 0 2))] [0] (fun γ4 => [(7, .pointer (some ⟨γ4 0, 0, none⟩)), (8, .int .i64 0)]) (fun γ4 L => bx (γ4 0) (#[.int .i64 now, .slice q3 m3 c3]) 24 :: L) (fun γ4 => on_ (ds_ (sq_ (sq_ (qa0 [] [0, 7, 8] [(20, .bool true)] (ds_ (t_ (ma0 [(1, .go (owns 0 0 2)), (4, .go (owns 1 0 2))] [8] (fun _ => []) (fun _ L => (L.set 1 (bx g (#[.int .i64 now, .slice q3 m3 c3, .slice po no co]) 27))) (fun _ => ds_ (sq_ (qa0 [] [] [(6, .int .i64 0)] (ds_ (rt ([]) (.int .i64 0) ?_)))))))))))))
 exact fun w' hw => ⟨_, _, _, _, rfl, hO3, by have := Hs.pick [[bx (γ4 0) (#[.int .i64 now, .slice q3 m3 c3]) 24], [bx g (#[.int .i64 now, .slice q3 m3 c3, .slice po no co]) 27], Y3, Y, YX] [2, 1, 4] [0, 3] (by kernel_rfl) hw; simpa [chunk] using this⟩

set_option maxRecDepth 100000 in
theorem aset_no (w0 : World) (YX Y : List Ob) (g : Nat) (now : Int) (p : Option Addr) (n cap : Nat) (po : Option Addr) (no co : Nat) (ts : List Tim) (k at_ : Int) (w : World)
 (hH : Hs w0 (bx g (#[.int .i64 now, .slice p n cap, .slice po no co]) 27 :: (Y ++ YX)) w) (hO : SlO 42 Y p n cap ts) (hb : n ≤ 1000) (hgd : wheelB now ts = true) (ha : ¬ aheadP now at_)
 : Calls Tryz.prog 28 #[.pointer (some ⟨g, 0, none⟩), .int .i64 k, .int .i64 at_] w fun e w' => e = .returned (.int .i64 2) ∧ Hs w0 (Y ++ (bx g #[.int .i64 now, .slice p n cap, .slice po no co] 27 :: YX)) w' := by
 have hn := hO.len
 rw [show Y ++ YX = Y ++ (YX ++ []) from by rw [List.append_nil]] at hH
 refine enter hH Tryz.func28 rfl Tryz.ntmps28 rfl (sq_ (qa0 [] [0, 1, 2] [] (ds_ (sq_ (ao_ (qo0 6 [(3, .go (owns 0 0 2))] [0] [(13, .agg #[.int .i64 now, .slice p n cap]), (14, .int .i64 k), (15, .int .i64 at_)] (cP (fun v L' => ∃ q_ m_ c_ Y_, v = .tuple #[.agg #[.int .i64 0, .slice q_ m_ c_], .int .i64 2] ∧ L' = List.take 1 (bx g (#[.int .i64 now, .slice p n cap, .slice po no co]) 27 :: (Y ++ (YX ++ []))) ++ (Y_ ++ List.drop 1 (bx g (#[.int .i64 now, .slice p n cap, .slice po no co]) 27 :: (Y ++ (YX ++ [])))) ∧ SlO 42 Y_ q_ m_ c_ ([] : List Tim)) (fun args w => Tryz.call59 args w) (fun w hw => by have := set_t now p n cap ts k at_ w (hO.atN (A := [_]) hw) hO.len (by omega); rw [setV_nah hgd ha] at this; exact this.mono fun e w' ⟨q_, m_, c_, Y_, he, hO, hb, hY⟩ => ⟨_, _, he, ⟨q_, m_, c_, Y_, rfl, rfl, hO⟩, hw.join hb hY 1⟩) ?_)))))))
 rintro v3 L3 ⟨q3, m3, c3, Y3, rfl, rfl, hO3⟩
 have hm3 := hO3.len
 simp only [List.length_cons, List.length_nil] at hm3
 refine mo0 6 [(11, .go (owns 0 0 2))] [0] (fun γ4 => [(7, .pointer (some ⟨γ4 0, 0, none⟩)), (8, .int .i64 2)]) (fun γ4 L => bx (γ4 0) (#[.int .i64 0, .slice q3 m3 c3]) 24 :: L) (fun γ4 => on_ (ds_ (sq_ (sq_ (qa0 [] [0, 7, 8] [(20, .bool false)] (ds_ (f_ (at_skip (ds_ (sq_ (qa0 [] [] [(6, .int .i64 2)] (ds_ (rt ([]) (.int .i64 2) ?_)))))))))))))
 exact fun w' hw => ⟨rfl, by have := Hs.pick [[bx (γ4 0) (#[.int .i64 0, .slice q3 m3 c3]) 24], [bx g (#[.int .i64 now, .slice p n cap, .slice po no co]) 27], Y3, Y, YX] [3, 1, 4] [0, 2] (by kernel_rfl) hw; simpa [chunk] using this⟩

set_option maxRecDepth 100000 in
theorem acancel_t (w0 : World) (YX Y : List Ob) (g : Nat) (now : Int) (p : Option Addr) (n cap : Nat) (po : Option Addr) (no co : Nat) (ts : List Tim) (k : Int) (w : World)
 (hH : Hs w0 (bx g (#[.int .i64 now, .slice p n cap, .slice po no co]) 27 :: (Y ++ YX)) w) (hO : SlO 42 Y p n cap ts) (hb : n ≤ 1000) {t : Tim} (hgd : wheelB now ts = true) (hg : getK Tim.id ts k = some t)
 : Calls Tryz.prog 40 #[.pointer (some ⟨g, 0, none⟩), .int .i64 k] w fun e w' => ∃ q m c Y', e = .returned (.int .i64 0) ∧ SlO 42 Y' q m c (delK Tim.id ts k) ∧ Hs w0 (Y' ++ (bx g #[.int .i64 now, .slice q m c, .slice po no co] 27 :: YX)) w' := by
 have hn := hO.len
 rw [show Y ++ YX = Y ++ (YX ++ []) from by rw [List.append_nil]] at hH
 refine enter hH Tryz.func40 rfl Tryz.ntmps40 rfl (sq_ (qa0 [] [0, 1] [] (ds_ (sq_ (ao_ (qo0 5 [(3, .go (owns 0 0 2))] [0] [(11, .agg #[.int .i64 now, .slice p n cap]), (12, .int .i64 k)] (cP (fun v L' => ∃ q_ m_ c_ Y_, v = .tuple #[.agg #[.int .i64 now, .slice q_ m_ c_], .int .i64 0] ∧ L' = List.take 1 (bx g (#[.int .i64 now, .slice p n cap, .slice po no co]) 27 :: (Y ++ (YX ++ []))) ++ (Y_ ++ List.drop 1 (bx g (#[.int .i64 now, .slice p n cap, .slice po no co]) 27 :: (Y ++ (YX ++ [])))) ∧ SlO 42 Y_ q_ m_ c_ (delK Tim.id ts k)) (fun args w => Tryz.call72 args w) (fun w hw => by have := cancel_t now p n cap ts k w (hO.atN (A := [_]) hw) hO.len (by omega); rw [canV_dk hgd hg] at this; exact this.mono fun e w' ⟨q_, m_, c_, Y_, he, hO, hb, hY⟩ => ⟨_, _, he, ⟨q_, m_, c_, Y_, rfl, rfl, hO⟩, hw.join hb hY 1⟩) ?_)))))))
 rintro v3 L3 ⟨q3, m3, c3, Y3, rfl, rfl, hO3⟩
 have hm3 := hO3.len
 refine mo0 6 [(10, .go (owns 0 0 2))] [0] (fun γ4 => [(5, .pointer (some ⟨γ4 0, 0, none⟩)), (6, .int .i64 0)]) (fun γ4 L => bx (γ4 0) (#[.int .i64 now, .slice q3 m3 c3]) 24 :: L) (fun γ4 => on_ (ds_ (sq_ (sq_ (qa0 [] [0, 5, 6] [(17, .bool true)] (ds_ (t_ (ma0 [(1, .go (owns 0 0 2)), (4, .go (owns 1 0 2))] [6] (fun _ => []) (fun _ L => (L.set 1 (bx g (#[.int .i64 now, .slice q3 m3 c3, .slice po no co]) 27))) (fun _ => ds_ (sq_ (qa0 [] [] [(4, .int .i64 0)] (ds_ (rt ([]) (.int .i64 0) ?_)))))))))))))
 exact fun w' hw => ⟨_, _, _, _, rfl, hO3, by have := Hs.pick [[bx (γ4 0) (#[.int .i64 now, .slice q3 m3 c3]) 24], [bx g (#[.int .i64 now, .slice q3 m3 c3, .slice po no co]) 27], Y3, Y, YX] [2, 1, 4] [0, 3] (by kernel_rfl) hw; simpa [chunk] using this⟩

set_option maxRecDepth 100000 in
theorem acancel_no (w0 : World) (YX Y : List Ob) (g : Nat) (now : Int) (p : Option Addr) (n cap : Nat) (po : Option Addr) (no co : Nat) (ts : List Tim) (k : Int) (w : World)
 (hH : Hs w0 (bx g (#[.int .i64 now, .slice p n cap, .slice po no co]) 27 :: (Y ++ YX)) w) (hO : SlO 42 Y p n cap ts) (hb : n ≤ 1000) (hgd : wheelB now ts = true) (hg : getK Tim.id ts k = none)
 : Calls Tryz.prog 40 #[.pointer (some ⟨g, 0, none⟩), .int .i64 k] w fun e w' => e = .returned (.int .i64 4) ∧ Hs w0 (Y ++ (bx g #[.int .i64 now, .slice p n cap, .slice po no co] 27 :: YX)) w' := by
 have hn := hO.len
 rw [show Y ++ YX = Y ++ (YX ++ []) from by rw [List.append_nil]] at hH
 refine enter hH Tryz.func40 rfl Tryz.ntmps40 rfl (sq_ (qa0 [] [0, 1] [] (ds_ (sq_ (ao_ (qo0 5 [(3, .go (owns 0 0 2))] [0] [(11, .agg #[.int .i64 now, .slice p n cap]), (12, .int .i64 k)] (cP (fun v L' => ∃ q_ m_ c_ Y_, v = .tuple #[.agg #[.int .i64 0, .slice q_ m_ c_], .int .i64 4] ∧ L' = List.take 1 (bx g (#[.int .i64 now, .slice p n cap, .slice po no co]) 27 :: (Y ++ (YX ++ []))) ++ (Y_ ++ List.drop 1 (bx g (#[.int .i64 now, .slice p n cap, .slice po no co]) 27 :: (Y ++ (YX ++ [])))) ∧ SlO 42 Y_ q_ m_ c_ ([] : List Tim)) (fun args w => Tryz.call72 args w) (fun w hw => by have := cancel_t now p n cap ts k w (hO.atN (A := [_]) hw) hO.len (by omega); rw [canV_none hgd hg] at this; exact this.mono fun e w' ⟨q_, m_, c_, Y_, he, hO, hb, hY⟩ => ⟨_, _, he, ⟨q_, m_, c_, Y_, rfl, rfl, hO⟩, hw.join hb hY 1⟩) ?_)))))))
 rintro v3 L3 ⟨q3, m3, c3, Y3, rfl, rfl, hO3⟩
 have hm3 := hO3.len
 simp only [List.length_cons, List.length_nil] at hm3
 refine mo0 6 [(10, .go (owns 0 0 2))] [0] (fun γ4 => [(5, .pointer (some ⟨γ4 0, 0, none⟩)), (6, .int .i64 4)]) (fun γ4 L => bx (γ4 0) (#[.int .i64 0, .slice q3 m3 c3]) 24 :: L) (fun γ4 => on_ (ds_ (sq_ (sq_ (qa0 [] [0, 5, 6] [(17, .bool false)] (ds_ (f_ (at_skip (ds_ (sq_ (qa0 [] [] [(4, .int .i64 4)] (ds_ (rt ([]) (.int .i64 4) ?_)))))))))))))
 exact fun w' hw => ⟨rfl, by have := Hs.pick [[bx (γ4 0) (#[.int .i64 0, .slice q3 m3 c3]) 24], [bx g (#[.int .i64 now, .slice p n cap, .slice po no co]) 27], Y3, Y, YX] [3, 1, 4] [0, 2] (by kernel_rfl) hw; simpa [chunk] using this⟩

set_option maxRecDepth 100000 in
theorem adrop_t (w0 : World) (YX Y : List Ob) (g : Nat) (now : Int) (p : Option Addr) (n cap : Nat) (po : Option Addr) (no co : Nat) (rs : List Alm) (k : Int) (w : World)
 (hH : Hs w0 (bx g (#[.int .i64 now, .slice po no co, .slice p n cap]) 27 :: (Y ++ YX)) w) (hO : SlO 32 Y p n cap rs) (hb : n ≤ 1000)
 : Calls Tryz.prog 39 #[.pointer (some ⟨g, 0, none⟩), .int .i64 k] w fun e w' => ∃ q m c Y', e = .returned (.tuple #[]) ∧ SlO 32 Y' q m c (rdrop rs k) ∧ Hs w0 (Y' ++ (bx g #[.int .i64 now, .slice po no co, .slice q m c] 27 :: YX)) w' := by
 have hn := hO.len
 rw [show Y ++ YX = Y ++ (YX ++ []) from by rw [List.append_nil]] at hH
 refine enter hH Tryz.func39 rfl Tryz.ntmps39 rfl (sq_ (ma0 [] [0] (fun γ1 => [(3, .pointer (some ⟨γ1 0, 0, none⟩))]) (fun γ1 L => bx (γ1 0) (#[.int .i64 k]) 3 :: L) (fun γ1 => ds_ (ao_ (qo0 6 [(4, .go (owns 1 2 1))] [] [(4, .pointer (some ⟨g, 0, none⟩)), (8, .slice p n cap), (9, .func (.func 71) #[] #[.pointer (some ⟨γ1 0, 0, none⟩)])] (cP (fun v L' => ∃ qz mz cz Yz, v = .slice qz mz cz ∧ L' = [bx (γ1 0) (#[.int .i64 k]) 3, bx g (#[.int .i64 now, .slice po no co, .slice p n cap]) 27] ++ (Yz ++ ((YX ++ []))) ∧ SlO 32 Yz qz mz cz (rdrop rs k)) (fun args w => Tryz.call70 args w) (fun w hw => (adeletef_t _ ([bx (γ1 0) (#[.int .i64 k]) 3, bx g (#[.int .i64 now, .slice po no co, .slice p n cap]) 27] ++ ((YX ++ []))) Y 71 #[.pointer (some ⟨γ1 0, 0, none⟩)] (isV k) p n cap rs w (fun args w => Tryz.call71 args w) (Hs.front (A := [bx (γ1 0) (#[.int .i64 k]) 3, bx g (#[.int .i64 now, .slice po no co, .slice p n cap]) 27]) (Y := Y) (R := ((YX ++ []))) hw) hO (by omega) (fun x hx w' hX => isv_t x (γ1 0) k w' (rd_oneT (hX.row 0 rfl)))).mono fun e w' ⟨qz, mz, cz, Yz, he, hO, hY⟩ => ⟨_, _, he, ⟨qz, mz, cz, Yz, rfl, rfl, hO⟩, hY.push⟩) ?_))))))
 rintro v3 L3 ⟨q3, m3, cq3, Y3, rfl, rfl, hO3⟩
 refine mo0 3 [(9, .go (owns 1 2 1))] [] (fun _ => []) (fun _ L => (L.set 1 (bx g (#[.int .i64 now, .slice po no co, .slice q3 m3 cq3]) 27))) (fun _ => on_ (done_return (by rfl) ?_))
 exact fun w' hw => ⟨_, _, _, _, rfl, hO3, by have := Hs.pick [[bx (γ1 0) (#[.int .i64 k]) 3], [bx g (#[.int .i64 now, .slice po no co, .slice q3 m3 cq3]) 27], Y3, YX] [2, 1, 3] [0] (by kernel_rfl) hw; simpa [chunk] using this⟩
end Go.Proofs.YtdbamgbgnpadjaaGreat

/-! Alarms: Start. -/
namespace Go.Proofs.YtdbamgbgnpadjaaGreat
open Go Go.RowKit

set_option maxRecDepth 100000 in
theorem start_t (now : Int) (p : Option Addr) (n cap : Nat) (ts : List Tim) (pa : Option Addr) (na ca : Nat) (rs : List Alm) (x : Alm) (at_ : Int) (w : World)
 (hts : Sv w p ts) (hn : n = ts.length) (hb : n ≤ 1000)
 (hrs : Sv w pa rs) (hna : na = rs.length) (hba : na ≤ 1000)
 : Calls Tryz.prog 11 #[.agg #[.int .i64 now, .slice p n cap, .slice pa na ca], .agg #[.int .i64 x.vcpu, .int .i64 x.port, .int .i64 x.every], .int .i64 at_] w fun e w' => ∃ q m c Y q2 m2 c2 X, e = .returned (.tuple #[.agg #[.int .i64 (startV now ts rs x at_).1, .slice q m c, .slice q2 m2 c2], .int .i64 (startV now ts rs x at_).2.2.2]) ∧ SlO 42 Y q m c (startV now ts rs x at_).2.1 ∧ SlO 32 X q2 m2 c2 (startV now ts rs x at_).2.2.1 ∧ Below w.heap.size w w' ∧ Hs w (Y ++ X) w' := by
 refine enter (Hs.start w) Tryz.func11 rfl Tryz.ntmps11 rfl (sq_ (ma0 [] [] (fun γ1 => [(3, .pointer (some ⟨γ1 0, 0, none⟩)), (4, .pointer (some ⟨γ1 1, 0, none⟩)), (5, .pointer (some ⟨γ1 2, 0, none⟩)), (6, .pointer (some ⟨γ1 3, 0, none⟩))]) (fun γ1 L => bx (γ1 3) (#[.int .i64 0, .slice none 0 0, .slice none 0 0]) 27 :: bx (γ1 2) (#[.int .i64 at_]) 2 :: bx (γ1 1) (#[.int .i64 x.vcpu, .int .i64 x.port, .int .i64 x.every]) 32 :: bx (γ1 0) (#[.int .i64 now, .slice p n cap, .slice pa na ca]) 27 :: L) (fun γ1 => ds_ (sq_ (ao_ (qo0 4 [(0, .go (owns 3 0 3)), (2, .go (owns 2 0 1))] [6] [(8, .agg #[.int .i64 now, .slice p n cap, .slice pa na ca]), (10, .int .i64 x.vcpu), (11, .func (.func 26) #[] #[.pointer (some ⟨γ1 1, 0, none⟩), .pointer (some ⟨γ1 2, 0, none⟩)])] (ops_inline (g := 25) (args := #[.agg #[.int .i64 now, .slice p n cap, .slice pa na ca], .int .i64 x.vcpu, .func (.func 26) #[] #[.pointer (some ⟨γ1 1, 0, none⟩), .pointer (some ⟨γ1 2, 0, none⟩)]]) (by kernel_rfl) (by kernel_rfl) (by kernel_rfl) (fun args w => Tryz.call25 args w) Tryz.func25 rfl Tryz.ntmps25 rfl (sq_ (ma0 [] [1, 2] (fun γ3 => [(3, .pointer (some ⟨γ3 0, 0, none⟩)), (6, .pointer (some ⟨γ3 1, 0, none⟩))]) (fun γ3 L => bx (γ3 1) (#[.int .i64 0, .slice none 0 0, .slice none 0 0]) 27 :: bx (γ3 0) (#[.int .i64 now, .slice p n cap, .slice pa na ca]) 27 :: L) (fun γ3 => ds_ (sq_ (sq_ (ao_ (qo0 1 [(0, .go (owns 1 0 3))] [1, 2, 3, 6] [(11, .agg #[.int .i64 now, .slice p n cap, .slice pa na ca])] ?_))))))))))))))
 rcases q5 : alB now ts rs with _ | _
 ·
  refine cD (.int .i64 280) (fun args w => Tryz.call36 args w) (fun w hw => by have := acheck_t now p n cap ts pa na ca rs w (hts.kept hw.below) hn (by omega) (hrs.kept hw.below) hna (by omega); rw [q5] at this; exact this) (qo0 1 [] [1, 2, 3, 6] [(8, .int .i64 280)] (on_ (ds_ (sq_ (qa0 [] [1, 2, 3, 6, 8] [(14, .bool true)] (ds_ (t_ (sq_ (qa0 [(2, .go (owns 0 0 3))] [6] [(7, .int .i64 280)] (ds_ (bk (owns 0 0 3) (.tuple #[.agg #[.int .i64 0, .slice none 0 0, .slice none 0 0], .int .i64 280]) (qo0 4 [(7, .go (owns 2 0 3))] [6] [(7, .int .i64 280)] (on_ (ds_ (rt (owns 2 0 3) (.tuple #[.agg #[.int .i64 0, .slice none 0 0, .slice none 0 0], .int .i64 280]) ?_)))))))))))))))
  exact fun w' hw => by rw [startV_bad q5]; exact ⟨none, 0, 0, [], none, 0, 0, [], rfl, SlO.nil, SlO.nil, hw.below, hw.sub (List.nil_sublist _)⟩
 ·
  refine cD (.int .i64 0) (fun args w => Tryz.call36 args w) (fun w hw => by have := acheck_t now p n cap ts pa na ca rs w (hts.kept hw.below) hn (by omega) (hrs.kept hw.below) hna (by omega); rw [q5] at this; exact this) (qo0 1 [] [1, 2, 3, 6] [(8, .int .i64 0)] (on_ (ds_ (sq_ (qa0 [] [1, 2, 3, 6, 8] [(14, .bool false)] (ds_ (f_ (at_skip (ds_ (sq_ (sq_ (ao_ (qo0 1 [] [2, 3, 6] [(17, .int .i64 x.vcpu)] ?_)))))))))))))
  rcases q13 : vcB x.vcpu with _ | _
  ·
   refine cD (.bool false) (fun args w => Tryz.call56 args w) (fun w hw => by have := vc_t x.vcpu w; rw [q13] at this; exact this) (qo0 1 [] [2, 3, 6] [(19, .bool true)] (on_ (ds_ (t_ (sq_ (qa0 [(1, .go (owns 0 0 3))] [6] [(7, .int .i64 2)] (ds_ (bk (owns 0 0 3) (.tuple #[.agg #[.int .i64 0, .slice none 0 0, .slice none 0 0], .int .i64 2]) (qo0 4 [(7, .go (owns 2 0 3))] [6] [(7, .int .i64 2)] (on_ (ds_ (rt (owns 2 0 3) (.tuple #[.agg #[.int .i64 0, .slice none 0 0, .slice none 0 0], .int .i64 2]) ?_))))))))))))
   exact fun w' hw => by rw [startV_arg q5 (alm_vc q13)]; exact ⟨none, 0, 0, [], none, 0, 0, [], rfl, SlO.nil, SlO.nil, hw.below, hw.sub (List.nil_sublist _)⟩
  ·
   refine cD (.bool true) (fun args w => Tryz.call56 args w) (fun w hw => by have := vc_t x.vcpu w; rw [q13] at this; exact this) (qo0 1 [] [2, 3, 6] [(19, .bool false)] (on_ (ds_ (f_ (at_skip (ds_ (sq_ ?_)))))))
   have hlr := (al_iff.1 q5).rl
   have hlt := (wheel_iff.1 (al_iff.1 q5).wh).len
   refine at_any (by kernel_rfl) ?_
   refine tk (m := 6) [0, 2] [] [2, 3, 6] [(21, .pointer (some ⟨γ3 0, 0, none⟩)), (23, .pointer (some ⟨γ3 0, 2, none⟩))] ([]) #[true, false, true, false, false, false, false, false] al0 ?_
   refine any_cutX (V := (List Ob) × (Nat) × (Option Addr) × (Nat → Nat)) (fun ⟨Y101, cq101, q101, γ141⟩ => SlO 32 Y101 q101 na cq101 rs) 0 #[true, true, true, true, true, true, true, true] (fun ⟨Y101, cq101, q101, γ141⟩ => [(2, .func (.func 26) #[] #[.pointer (some ⟨γ1 1, 0, none⟩), .pointer (some ⟨γ1 2, 0, none⟩)]), (3, .pointer (some ⟨γ3 0, 0, none⟩)), (6, .pointer (some ⟨γ3 1, 0, none⟩)), (9, .pointer (some ⟨γ141 0, 0, none⟩))]) (fun ⟨Y101, cq101, q101, γ141⟩ => bx (γ141 0) (#[.int .i64 now, .slice p n cap, .slice q101 na cq101]) 27 :: bx (γ3 1) (#[.int .i64 0, .slice none 0 0, .slice none 0 0]) 27 :: bx (γ3 0) (#[.int .i64 now, .slice p n cap, .slice pa na ca]) 27 :: bx (γ1 3) (#[.int .i64 0, .slice none 0 0, .slice none 0 0]) 27 :: bx (γ1 2) (#[.int .i64 at_]) 2 :: bx (γ1 1) (#[.int .i64 x.vcpu, .int .i64 x.port, .int .i64 x.every]) 32 :: bx (γ1 0) (#[.int .i64 now, .slice p n cap, .slice pa na ca]) 27 :: (Y101 ++ [])) ?_ (fun hmx12 => ?_)
   rotate_left
   ·
    refine any_cutX (V := (List Ob) × (Nat) × (Option Addr) × (Nat → Nat)) (fun ⟨Y101, cq101, q101, γ141⟩ => SlO 32 Y101 q101 na cq101 rs) 1 #[true, true, true, true, true, true, true, false] (fun ⟨Y101, cq101, q101, γ141⟩ => [(2, .func (.func 26) #[] #[.pointer (some ⟨γ1 1, 0, none⟩), .pointer (some ⟨γ1 2, 0, none⟩)]), (3, .pointer (some ⟨γ3 0, 0, none⟩)), (6, .pointer (some ⟨γ3 1, 0, none⟩)), (9, .pointer (some ⟨γ141 0, 0, none⟩)), (26, .agg #[.int .i64 now, .slice p n cap, .slice q101 na cq101])]) (fun ⟨Y101, cq101, q101, γ141⟩ => bx (γ141 0) (#[.int .i64 0, .slice none 0 0, .slice none 0 0]) 27 :: bx (γ3 1) (#[.int .i64 0, .slice none 0 0, .slice none 0 0]) 27 :: bx (γ3 0) (#[.int .i64 now, .slice p n cap, .slice pa na ca]) 27 :: bx (γ1 3) (#[.int .i64 0, .slice none 0 0, .slice none 0 0]) 27 :: bx (γ1 2) (#[.int .i64 at_]) 2 :: bx (γ1 1) (#[.int .i64 x.vcpu, .int .i64 x.port, .int .i64 x.every]) 32 :: bx (γ1 0) (#[.int .i64 now, .slice p n cap, .slice pa na ca]) 27 :: (Y101 ++ [])) ?_ (fun hmx11 => ?_)
    ·
     rintro ⟨Y101, cq101, q101, γ141⟩ hO101
     refine a1 7 rfl ?_
     refine mo0 1 [(7, .go (owns 0 0 3))] [2, 3, 6, 9] (fun _ => []) (fun _ L => (L.set 0 (bx (γ141 0) (#[.int .i64 now, .slice p n cap, .slice q101 na cq101]) 27))) (fun _ => ?_)
     refine od_ ?_
     exact wk (hmx12 (Y101, cq101, q101, γ141) hO101) [2, 3, 6, 9] [[_], [_], [_], [_], [_], [_], [_], _] [0, 1, 2, 3, 4, 5, 6, 7] rfl rfl
    refine any_cutX (V := (List Ob) × (Nat) × (Option Addr)) (fun ⟨Y101, cq101, q101⟩ => SlO 32 Y101 q101 na cq101 rs) 2 #[true, true, true, true, true, true, false, false] (fun ⟨Y101, cq101, q101⟩ => [(2, .func (.func 26) #[] #[.pointer (some ⟨γ1 1, 0, none⟩), .pointer (some ⟨γ1 2, 0, none⟩)]), (3, .pointer (some ⟨γ3 0, 0, none⟩)), (6, .pointer (some ⟨γ3 1, 0, none⟩)), (26, .agg #[.int .i64 now, .slice p n cap, .slice q101 na cq101])]) (fun ⟨Y101, cq101, q101⟩ => bx (γ3 1) (#[.int .i64 0, .slice none 0 0, .slice none 0 0]) 27 :: bx (γ3 0) (#[.int .i64 now, .slice p n cap, .slice pa na ca]) 27 :: bx (γ1 3) (#[.int .i64 0, .slice none 0 0, .slice none 0 0]) 27 :: bx (γ1 2) (#[.int .i64 at_]) 2 :: bx (γ1 1) (#[.int .i64 x.vcpu, .int .i64 x.port, .int .i64 x.every]) 32 :: bx (γ1 0) (#[.int .i64 now, .slice p n cap, .slice pa na ca]) 27 :: (Y101 ++ [])) ?_ (fun hmx10 => ?_)
    ·
     rintro ⟨Y101, cq101, q101⟩ hO101
     refine a1 6 rfl ?_
     refine mo0 1 [] [2, 3, 6, 26] (fun γ141 => [(9, .pointer (some ⟨γ141 0, 0, none⟩))]) (fun γ141 L => bx (γ141 0) (#[.int .i64 0, .slice none 0 0, .slice none 0 0]) 27 :: L) (fun γ141 => ?_)
     refine od_ ?_
     exact wk (hmx11 (Y101, cq101, q101, γ141) hO101) [2, 3, 6, 9, 26] [[_], [_], [_], [_], [_], [_], [_], _] [0, 1, 2, 3, 4, 5, 6, 7] rfl rfl
    refine any_cutX (V := (List Ob) × (Nat) × (Option Addr) × (Nat → Nat)) (fun ⟨Y101, cq101, q101, γ141⟩ => SlO 32 Y101 q101 na cq101 rs) 3 #[true, false, true, true, true, false, true, false] (fun ⟨Y101, cq101, q101, γ141⟩ => [(2, .func (.func 26) #[] #[.pointer (some ⟨γ1 1, 0, none⟩), .pointer (some ⟨γ1 2, 0, none⟩)]), (3, .pointer (some ⟨γ3 0, 0, none⟩)), (6, .pointer (some ⟨γ3 1, 0, none⟩)), (9, .pointer (some ⟨γ141 0, 0, none⟩)), (21, .pointer (some ⟨γ3 0, 0, none⟩)), (25, .slice q101 na cq101)]) (fun ⟨Y101, cq101, q101, γ141⟩ => bx (γ141 0) (#[.int .i64 0, .slice none 0 0, .slice none 0 0]) 27 :: bx (γ3 1) (#[.int .i64 0, .slice none 0 0, .slice none 0 0]) 27 :: bx (γ3 0) (#[.int .i64 now, .slice p n cap, .slice pa na ca]) 27 :: bx (γ1 3) (#[.int .i64 0, .slice none 0 0, .slice none 0 0]) 27 :: bx (γ1 2) (#[.int .i64 at_]) 2 :: bx (γ1 1) (#[.int .i64 x.vcpu, .int .i64 x.port, .int .i64 x.every]) 32 :: bx (γ1 0) (#[.int .i64 now, .slice p n cap, .slice pa na ca]) 27 :: (Y101 ++ [])) ?_ (fun hmx9 => ?_)
    ·
     rintro ⟨Y101, cq101, q101, γ141⟩ hO101
     refine a1 1 rfl ?_
     refine qo0 1 [(1, .go (owns 2 0 2))] [2, 3, 6, 9, 25] [(22, .agg #[.int .i64 now, .slice p n cap])] ?_
     refine od_ ?_
     refine tk (m := 1) [5] [] [2, 3, 6, 9] [(26, .agg #[.int .i64 now, .slice p n cap, .slice q101 na cq101])] ([]) #[true, true, true, true, true, true, true, false] al0 ?_
     exact wk (hmx11 (Y101, cq101, q101, γ141) hO101) [2, 3, 6, 9, 26] [[_], [_], [_], [_], [_], [_], [_], _] [0, 1, 2, 3, 4, 5, 6, 7] rfl rfl
    refine any_cutX (V := (Nat → Nat)) (fun γ141 => True) 3 #[true, true, true, true, false, false, true, false] (fun γ141 => [(2, .func (.func 26) #[] #[.pointer (some ⟨γ1 1, 0, none⟩), .pointer (some ⟨γ1 2, 0, none⟩)]), (3, .pointer (some ⟨γ3 0, 0, none⟩)), (6, .pointer (some ⟨γ3 1, 0, none⟩)), (9, .pointer (some ⟨γ141 0, 0, none⟩)), (22, .agg #[.int .i64 now, .slice p n cap]), (24, .slice pa na ca)]) (fun γ141 => [bx (γ141 0) (#[.int .i64 0, .slice none 0 0, .slice none 0 0]) 27, bx (γ3 1) (#[.int .i64 0, .slice none 0 0, .slice none 0 0]) 27, bx (γ3 0) (#[.int .i64 now, .slice p n cap, .slice pa na ca]) 27, bx (γ1 3) (#[.int .i64 0, .slice none 0 0, .slice none 0 0]) 27, bx (γ1 2) (#[.int .i64 at_]) 2, bx (γ1 1) (#[.int .i64 x.vcpu, .int .i64 x.port, .int .i64 x.every]) 32, bx (γ1 0) (#[.int .i64 now, .slice p n cap, .slice pa na ca]) 27]) ?_ (fun hmx8 => ?_)
    ·
     rintro γ141 _
     refine a1 4 rfl ?_
     refine cP (fun v L' => ∃ q_ c_ Y_, v = .slice q_ na c_ ∧ L' = List.take 7 ([bx (γ141 0) (#[.int .i64 0, .slice none 0 0, .slice none 0 0]) 27, bx (γ3 1) (#[.int .i64 0, .slice none 0 0, .slice none 0 0]) 27, bx (γ3 0) (#[.int .i64 now, .slice p n cap, .slice pa na ca]) 27, bx (γ1 3) (#[.int .i64 0, .slice none 0 0, .slice none 0 0]) 27, bx (γ1 2) (#[.int .i64 at_]) 2, bx (γ1 1) (#[.int .i64 x.vcpu, .int .i64 x.port, .int .i64 x.every]) 32, bx (γ1 0) (#[.int .i64 now, .slice p n cap, .slice pa na ca]) 27]) ++ (Y_ ++ List.drop 7 ([bx (γ141 0) (#[.int .i64 0, .slice none 0 0, .slice none 0 0]) 27, bx (γ3 1) (#[.int .i64 0, .slice none 0 0, .slice none 0 0]) 27, bx (γ3 0) (#[.int .i64 now, .slice p n cap, .slice pa na ca]) 27, bx (γ1 3) (#[.int .i64 0, .slice none 0 0, .slice none 0 0]) 27, bx (γ1 2) (#[.int .i64 at_]) 2, bx (γ1 1) (#[.int .i64 x.vcpu, .int .i64 x.port, .int .i64 x.every]) 32, bx (γ1 0) (#[.int .i64 now, .slice p n cap, .slice pa na ca]) 27])) ∧ SlO 32 Y_ q_ na c_ rs) (fun args w => Tryz.call57 args w) (fun w hw => (aclone_t pa na ca rs w (hrs.kept hw.below) hna (by omega)).mono fun e w' ⟨q_, c_, Y_, he, hO, hb, hY⟩ => ⟨_, _, he, ⟨q_, c_, Y_, rfl, rfl, hO⟩, hw.join hb hY 7⟩) ?_
     rintro v101 L101 ⟨q101, cq101, Y101, rfl, rfl, hO101⟩
     refine od_ ?_
     refine tk (m := 1) [5] [] [2, 3, 6, 9] [(26, .agg #[.int .i64 now, .slice p n cap, .slice q101 na cq101])] ([]) #[true, true, true, true, true, true, true, false] al0 ?_
     exact wk (hmx11 (Y101, cq101, q101, γ141) hO101) [2, 3, 6, 9, 26] [[_], [_], [_], [_], [_], [_], [_], _] [0, 1, 2, 3, 4, 5, 6, 7] rfl rfl
    refine any_cutX (V := (Nat → Nat)) (fun γ141 => True) 4 #[true, false, true, true, false, false, true, false] (fun γ141 => [(2, .func (.func 26) #[] #[.pointer (some ⟨γ1 1, 0, none⟩), .pointer (some ⟨γ1 2, 0, none⟩)]), (3, .pointer (some ⟨γ3 0, 0, none⟩)), (6, .pointer (some ⟨γ3 1, 0, none⟩)), (9, .pointer (some ⟨γ141 0, 0, none⟩)), (21, .pointer (some ⟨γ3 0, 0, none⟩)), (24, .slice pa na ca)]) (fun γ141 => [bx (γ141 0) (#[.int .i64 0, .slice none 0 0, .slice none 0 0]) 27, bx (γ3 1) (#[.int .i64 0, .slice none 0 0, .slice none 0 0]) 27, bx (γ3 0) (#[.int .i64 now, .slice p n cap, .slice pa na ca]) 27, bx (γ1 3) (#[.int .i64 0, .slice none 0 0, .slice none 0 0]) 27, bx (γ1 2) (#[.int .i64 at_]) 2, bx (γ1 1) (#[.int .i64 x.vcpu, .int .i64 x.port, .int .i64 x.every]) 32, bx (γ1 0) (#[.int .i64 now, .slice p n cap, .slice pa na ca]) 27]) ?_ (fun hmx7 => ?_)
    ·
     rintro γ141 _
     refine any_fork [1, 4] (by kernel_rfl) (by simp) (each_cons _ rfl ?_ (each_cons _ rfl ?_ (each_nil)))
     ·
      refine qo0 1 [(1, .go (owns 2 0 2))] [2, 3, 6, 9, 24] [(22, .agg #[.int .i64 now, .slice p n cap])] ?_
      refine od_ ?_
      exact wk (hmx8 γ141 trivial) [2, 3, 6, 9, 22, 24] [[_], [_], [_], [_], [_], [_], [_]] [0, 1, 2, 3, 4, 5, 6] rfl rfl
     ·
      refine cP (fun v L' => ∃ q_ c_ Y_, v = .slice q_ na c_ ∧ L' = List.take 7 ([bx (γ141 0) (#[.int .i64 0, .slice none 0 0, .slice none 0 0]) 27, bx (γ3 1) (#[.int .i64 0, .slice none 0 0, .slice none 0 0]) 27, bx (γ3 0) (#[.int .i64 now, .slice p n cap, .slice pa na ca]) 27, bx (γ1 3) (#[.int .i64 0, .slice none 0 0, .slice none 0 0]) 27, bx (γ1 2) (#[.int .i64 at_]) 2, bx (γ1 1) (#[.int .i64 x.vcpu, .int .i64 x.port, .int .i64 x.every]) 32, bx (γ1 0) (#[.int .i64 now, .slice p n cap, .slice pa na ca]) 27]) ++ (Y_ ++ List.drop 7 ([bx (γ141 0) (#[.int .i64 0, .slice none 0 0, .slice none 0 0]) 27, bx (γ3 1) (#[.int .i64 0, .slice none 0 0, .slice none 0 0]) 27, bx (γ3 0) (#[.int .i64 now, .slice p n cap, .slice pa na ca]) 27, bx (γ1 3) (#[.int .i64 0, .slice none 0 0, .slice none 0 0]) 27, bx (γ1 2) (#[.int .i64 at_]) 2, bx (γ1 1) (#[.int .i64 x.vcpu, .int .i64 x.port, .int .i64 x.every]) 32, bx (γ1 0) (#[.int .i64 now, .slice p n cap, .slice pa na ca]) 27])) ∧ SlO 32 Y_ q_ na c_ rs) (fun args w => Tryz.call57 args w) (fun w hw => (aclone_t pa na ca rs w (hrs.kept hw.below) hna (by omega)).mono fun e w' ⟨q_, c_, Y_, he, hO, hb, hY⟩ => ⟨_, _, he, ⟨q_, c_, Y_, rfl, rfl, hO⟩, hw.join hb hY 7⟩) ?_
      rintro v101 L101 ⟨q101, cq101, Y101, rfl, rfl, hO101⟩
      refine od_ ?_
      exact wk (hmx9 (Y101, cq101, q101, γ141) hO101) [2, 3, 6, 9, 21, 25] [[_], [_], [_], [_], [_], [_], [_], _] [0, 1, 2, 3, 4, 5, 6, 7] rfl rfl
    refine any_cutX (V := (List Ob) × (Nat) × (Option Addr)) (fun ⟨Y101, cq101, q101⟩ => SlO 32 Y101 q101 na cq101 rs) 4 #[true, false, true, true, true, false, false, false] (fun ⟨Y101, cq101, q101⟩ => [(2, .func (.func 26) #[] #[.pointer (some ⟨γ1 1, 0, none⟩), .pointer (some ⟨γ1 2, 0, none⟩)]), (3, .pointer (some ⟨γ3 0, 0, none⟩)), (6, .pointer (some ⟨γ3 1, 0, none⟩)), (21, .pointer (some ⟨γ3 0, 0, none⟩)), (25, .slice q101 na cq101)]) (fun ⟨Y101, cq101, q101⟩ => bx (γ3 1) (#[.int .i64 0, .slice none 0 0, .slice none 0 0]) 27 :: bx (γ3 0) (#[.int .i64 now, .slice p n cap, .slice pa na ca]) 27 :: bx (γ1 3) (#[.int .i64 0, .slice none 0 0, .slice none 0 0]) 27 :: bx (γ1 2) (#[.int .i64 at_]) 2 :: bx (γ1 1) (#[.int .i64 x.vcpu, .int .i64 x.port, .int .i64 x.every]) 32 :: bx (γ1 0) (#[.int .i64 now, .slice p n cap, .slice pa na ca]) 27 :: (Y101 ++ [])) ?_ (fun hmx6 => ?_)
    ·
     rintro ⟨Y101, cq101, q101⟩ hO101
     refine any_fork [1, 6] (by kernel_rfl) (by simp) (each_cons _ rfl ?_ (each_cons _ rfl ?_ (each_nil)))
     ·
      refine qo0 1 [(1, .go (owns 1 0 2))] [2, 3, 6, 25] [(22, .agg #[.int .i64 now, .slice p n cap])] ?_
      refine od_ ?_
      refine tk (m := 2) [5] [] [2, 3, 6] [(26, .agg #[.int .i64 now, .slice p n cap, .slice q101 na cq101])] ([]) #[true, true, true, true, true, true, false, false] al0 ?_
      exact wk (hmx10 (Y101, cq101, q101) hO101) [2, 3, 6, 26] [[_], [_], [_], [_], [_], [_], _] [0, 1, 2, 3, 4, 5, 6] rfl rfl
     ·
      refine mo0 1 [] [2, 3, 6, 21, 25] (fun γ141 => [(9, .pointer (some ⟨γ141 0, 0, none⟩))]) (fun γ141 L => bx (γ141 0) (#[.int .i64 0, .slice none 0 0, .slice none 0 0]) 27 :: L) (fun γ141 => ?_)
      refine od_ ?_
      exact wk (hmx9 (Y101, cq101, q101, γ141) hO101) [2, 3, 6, 9, 21, 25] [[_], [_], [_], [_], [_], [_], [_], _] [0, 1, 2, 3, 4, 5, 6, 7] rfl rfl
    refine any_cutX (V := (Nat → Nat)) (fun γ141 => True) 4 #[true, true, true, false, false, false, true, false] (fun γ141 => [(2, .func (.func 26) #[] #[.pointer (some ⟨γ1 1, 0, none⟩), .pointer (some ⟨γ1 2, 0, none⟩)]), (3, .pointer (some ⟨γ3 0, 0, none⟩)), (6, .pointer (some ⟨γ3 1, 0, none⟩)), (9, .pointer (some ⟨γ141 0, 0, none⟩)), (22, .agg #[.int .i64 now, .slice p n cap]), (23, .pointer (some ⟨γ3 0, 2, none⟩))]) (fun γ141 => [bx (γ141 0) (#[.int .i64 0, .slice none 0 0, .slice none 0 0]) 27, bx (γ3 1) (#[.int .i64 0, .slice none 0 0, .slice none 0 0]) 27, bx (γ3 0) (#[.int .i64 now, .slice p n cap, .slice pa na ca]) 27, bx (γ1 3) (#[.int .i64 0, .slice none 0 0, .slice none 0 0]) 27, bx (γ1 2) (#[.int .i64 at_]) 2, bx (γ1 1) (#[.int .i64 x.vcpu, .int .i64 x.port, .int .i64 x.every]) 32, bx (γ1 0) (#[.int .i64 now, .slice p n cap, .slice pa na ca]) 27]) ?_ (fun hmx5 => ?_)
    ·
     rintro γ141 _
     refine a1 3 rfl ?_
     refine qo0 1 [(3, .go (owns 2 2 1))] [2, 3, 6, 9, 22] [(24, .slice pa na ca)] ?_
     refine od_ ?_
     exact wk (hmx8 γ141 trivial) [2, 3, 6, 9, 22, 24] [[_], [_], [_], [_], [_], [_], [_]] [0, 1, 2, 3, 4, 5, 6] rfl rfl
    refine any_cutX (V := Unit) (fun _ => True) 4 #[true, true, true, true, false, false, false, false] (fun _ => [(2, .func (.func 26) #[] #[.pointer (some ⟨γ1 1, 0, none⟩), .pointer (some ⟨γ1 2, 0, none⟩)]), (3, .pointer (some ⟨γ3 0, 0, none⟩)), (6, .pointer (some ⟨γ3 1, 0, none⟩)), (22, .agg #[.int .i64 now, .slice p n cap]), (24, .slice pa na ca)]) (fun _ => [bx (γ3 1) (#[.int .i64 0, .slice none 0 0, .slice none 0 0]) 27, bx (γ3 0) (#[.int .i64 now, .slice p n cap, .slice pa na ca]) 27, bx (γ1 3) (#[.int .i64 0, .slice none 0 0, .slice none 0 0]) 27, bx (γ1 2) (#[.int .i64 at_]) 2, bx (γ1 1) (#[.int .i64 x.vcpu, .int .i64 x.port, .int .i64 x.every]) 32, bx (γ1 0) (#[.int .i64 now, .slice p n cap, .slice pa na ca]) 27]) ?_ (fun hmx4 => ?_)
    ·
     rintro _ _
     refine any_fork [4, 6] (by kernel_rfl) (by simp) (each_cons _ rfl ?_ (each_cons _ rfl ?_ (each_nil)))
     ·
      refine cP (fun v L' => ∃ q_ c_ Y_, v = .slice q_ na c_ ∧ L' = List.take 6 ([bx (γ3 1) (#[.int .i64 0, .slice none 0 0, .slice none 0 0]) 27, bx (γ3 0) (#[.int .i64 now, .slice p n cap, .slice pa na ca]) 27, bx (γ1 3) (#[.int .i64 0, .slice none 0 0, .slice none 0 0]) 27, bx (γ1 2) (#[.int .i64 at_]) 2, bx (γ1 1) (#[.int .i64 x.vcpu, .int .i64 x.port, .int .i64 x.every]) 32, bx (γ1 0) (#[.int .i64 now, .slice p n cap, .slice pa na ca]) 27]) ++ (Y_ ++ List.drop 6 ([bx (γ3 1) (#[.int .i64 0, .slice none 0 0, .slice none 0 0]) 27, bx (γ3 0) (#[.int .i64 now, .slice p n cap, .slice pa na ca]) 27, bx (γ1 3) (#[.int .i64 0, .slice none 0 0, .slice none 0 0]) 27, bx (γ1 2) (#[.int .i64 at_]) 2, bx (γ1 1) (#[.int .i64 x.vcpu, .int .i64 x.port, .int .i64 x.every]) 32, bx (γ1 0) (#[.int .i64 now, .slice p n cap, .slice pa na ca]) 27])) ∧ SlO 32 Y_ q_ na c_ rs) (fun args w => Tryz.call57 args w) (fun w hw => (aclone_t pa na ca rs w (hrs.kept hw.below) hna (by omega)).mono fun e w' ⟨q_, c_, Y_, he, hO, hb, hY⟩ => ⟨_, _, he, ⟨q_, c_, Y_, rfl, rfl, hO⟩, hw.join hb hY 6⟩) ?_
      rintro v101 L101 ⟨q101, cq101, Y101, rfl, rfl, hO101⟩
      refine od_ ?_
      refine tk (m := 2) [5] [] [2, 3, 6] [(26, .agg #[.int .i64 now, .slice p n cap, .slice q101 na cq101])] ([]) #[true, true, true, true, true, true, false, false] al0 ?_
      exact wk (hmx10 (Y101, cq101, q101) hO101) [2, 3, 6, 26] [[_], [_], [_], [_], [_], [_], _] [0, 1, 2, 3, 4, 5, 6] rfl rfl
     ·
      refine mo0 1 [] [2, 3, 6, 22, 24] (fun γ141 => [(9, .pointer (some ⟨γ141 0, 0, none⟩))]) (fun γ141 L => bx (γ141 0) (#[.int .i64 0, .slice none 0 0, .slice none 0 0]) 27 :: L) (fun γ141 => ?_)
      refine od_ ?_
      exact wk (hmx8 γ141 trivial) [2, 3, 6, 9, 22, 24] [[_], [_], [_], [_], [_], [_], [_]] [0, 1, 2, 3, 4, 5, 6] rfl rfl
    refine any_cutX (V := (Nat → Nat)) (fun γ141 => True) 5 #[true, false, true, false, false, false, true, false] (fun γ141 => [(2, .func (.func 26) #[] #[.pointer (some ⟨γ1 1, 0, none⟩), .pointer (some ⟨γ1 2, 0, none⟩)]), (3, .pointer (some ⟨γ3 0, 0, none⟩)), (6, .pointer (some ⟨γ3 1, 0, none⟩)), (9, .pointer (some ⟨γ141 0, 0, none⟩)), (21, .pointer (some ⟨γ3 0, 0, none⟩)), (23, .pointer (some ⟨γ3 0, 2, none⟩))]) (fun γ141 => [bx (γ141 0) (#[.int .i64 0, .slice none 0 0, .slice none 0 0]) 27, bx (γ3 1) (#[.int .i64 0, .slice none 0 0, .slice none 0 0]) 27, bx (γ3 0) (#[.int .i64 now, .slice p n cap, .slice pa na ca]) 27, bx (γ1 3) (#[.int .i64 0, .slice none 0 0, .slice none 0 0]) 27, bx (γ1 2) (#[.int .i64 at_]) 2, bx (γ1 1) (#[.int .i64 x.vcpu, .int .i64 x.port, .int .i64 x.every]) 32, bx (γ1 0) (#[.int .i64 now, .slice p n cap, .slice pa na ca]) 27]) ?_ (fun hmx3 => ?_)
    ·
     rintro γ141 _
     refine any_fork [1, 3] (by kernel_rfl) (by simp) (each_cons _ rfl ?_ (each_cons _ rfl ?_ (each_nil)))
     ·
      refine qo0 1 [(1, .go (owns 2 0 2))] [2, 3, 6, 9, 23] [(22, .agg #[.int .i64 now, .slice p n cap])] ?_
      refine od_ ?_
      exact wk (hmx5 γ141 trivial) [2, 3, 6, 9, 22, 23] [[_], [_], [_], [_], [_], [_], [_]] [0, 1, 2, 3, 4, 5, 6] rfl rfl
     ·
      refine qo0 1 [(3, .go (owns 2 2 1))] [2, 3, 6, 9, 21] [(24, .slice pa na ca)] ?_
      refine od_ ?_
      exact wk (hmx7 γ141 trivial) [2, 3, 6, 9, 21, 24] [[_], [_], [_], [_], [_], [_], [_]] [0, 1, 2, 3, 4, 5, 6] rfl rfl
    refine any_cutX (V := Unit) (fun _ => True) 5 #[true, false, true, true, false, false, false, false] (fun _ => [(2, .func (.func 26) #[] #[.pointer (some ⟨γ1 1, 0, none⟩), .pointer (some ⟨γ1 2, 0, none⟩)]), (3, .pointer (some ⟨γ3 0, 0, none⟩)), (6, .pointer (some ⟨γ3 1, 0, none⟩)), (21, .pointer (some ⟨γ3 0, 0, none⟩)), (24, .slice pa na ca)]) (fun _ => [bx (γ3 1) (#[.int .i64 0, .slice none 0 0, .slice none 0 0]) 27, bx (γ3 0) (#[.int .i64 now, .slice p n cap, .slice pa na ca]) 27, bx (γ1 3) (#[.int .i64 0, .slice none 0 0, .slice none 0 0]) 27, bx (γ1 2) (#[.int .i64 at_]) 2, bx (γ1 1) (#[.int .i64 x.vcpu, .int .i64 x.port, .int .i64 x.every]) 32, bx (γ1 0) (#[.int .i64 now, .slice p n cap, .slice pa na ca]) 27]) ?_ (fun hmx2 => ?_)
    ·
     rintro _ _
     refine any_fork [1, 4, 6] (by kernel_rfl) (by simp) (each_cons _ rfl ?_ (each_cons _ rfl ?_ (each_cons _ rfl ?_ (each_nil))))
     ·
      refine qo0 1 [(1, .go (owns 1 0 2))] [2, 3, 6, 24] [(22, .agg #[.int .i64 now, .slice p n cap])] ?_
      refine od_ ?_
      exact wk (hmx4 () trivial) [2, 3, 6, 22, 24] [[_], [_], [_], [_], [_], [_]] [0, 1, 2, 3, 4, 5] rfl rfl
     ·
      refine cP (fun v L' => ∃ q_ c_ Y_, v = .slice q_ na c_ ∧ L' = List.take 6 ([bx (γ3 1) (#[.int .i64 0, .slice none 0 0, .slice none 0 0]) 27, bx (γ3 0) (#[.int .i64 now, .slice p n cap, .slice pa na ca]) 27, bx (γ1 3) (#[.int .i64 0, .slice none 0 0, .slice none 0 0]) 27, bx (γ1 2) (#[.int .i64 at_]) 2, bx (γ1 1) (#[.int .i64 x.vcpu, .int .i64 x.port, .int .i64 x.every]) 32, bx (γ1 0) (#[.int .i64 now, .slice p n cap, .slice pa na ca]) 27]) ++ (Y_ ++ List.drop 6 ([bx (γ3 1) (#[.int .i64 0, .slice none 0 0, .slice none 0 0]) 27, bx (γ3 0) (#[.int .i64 now, .slice p n cap, .slice pa na ca]) 27, bx (γ1 3) (#[.int .i64 0, .slice none 0 0, .slice none 0 0]) 27, bx (γ1 2) (#[.int .i64 at_]) 2, bx (γ1 1) (#[.int .i64 x.vcpu, .int .i64 x.port, .int .i64 x.every]) 32, bx (γ1 0) (#[.int .i64 now, .slice p n cap, .slice pa na ca]) 27])) ∧ SlO 32 Y_ q_ na c_ rs) (fun args w => Tryz.call57 args w) (fun w hw => (aclone_t pa na ca rs w (hrs.kept hw.below) hna (by omega)).mono fun e w' ⟨q_, c_, Y_, he, hO, hb, hY⟩ => ⟨_, _, he, ⟨q_, c_, Y_, rfl, rfl, hO⟩, hw.join hb hY 6⟩) ?_
      rintro v101 L101 ⟨q101, cq101, Y101, rfl, rfl, hO101⟩
      refine od_ ?_
      exact wk (hmx6 (Y101, cq101, q101) hO101) [2, 3, 6, 21, 25] [[_], [_], [_], [_], [_], [_], _] [0, 1, 2, 3, 4, 5, 6] rfl rfl
     ·
      refine mo0 1 [] [2, 3, 6, 21, 24] (fun γ141 => [(9, .pointer (some ⟨γ141 0, 0, none⟩))]) (fun γ141 L => bx (γ141 0) (#[.int .i64 0, .slice none 0 0, .slice none 0 0]) 27 :: L) (fun γ141 => ?_)
      refine od_ ?_
      exact wk (hmx7 γ141 trivial) [2, 3, 6, 9, 21, 24] [[_], [_], [_], [_], [_], [_], [_]] [0, 1, 2, 3, 4, 5, 6] rfl rfl
    refine any_cutX (V := Unit) (fun _ => True) 5 #[true, true, true, false, false, false, false, false] (fun _ => [(2, .func (.func 26) #[] #[.pointer (some ⟨γ1 1, 0, none⟩), .pointer (some ⟨γ1 2, 0, none⟩)]), (3, .pointer (some ⟨γ3 0, 0, none⟩)), (6, .pointer (some ⟨γ3 1, 0, none⟩)), (22, .agg #[.int .i64 now, .slice p n cap]), (23, .pointer (some ⟨γ3 0, 2, none⟩))]) (fun _ => [bx (γ3 1) (#[.int .i64 0, .slice none 0 0, .slice none 0 0]) 27, bx (γ3 0) (#[.int .i64 now, .slice p n cap, .slice pa na ca]) 27, bx (γ1 3) (#[.int .i64 0, .slice none 0 0, .slice none 0 0]) 27, bx (γ1 2) (#[.int .i64 at_]) 2, bx (γ1 1) (#[.int .i64 x.vcpu, .int .i64 x.port, .int .i64 x.every]) 32, bx (γ1 0) (#[.int .i64 now, .slice p n cap, .slice pa na ca]) 27]) ?_ (fun hmx1 => ?_)
    ·
     rintro _ _
     refine any_fork [3, 6] (by kernel_rfl) (by simp) (each_cons _ rfl ?_ (each_cons _ rfl ?_ (each_nil)))
     ·
      refine qo0 1 [(3, .go (owns 1 2 1))] [2, 3, 6, 22] [(24, .slice pa na ca)] ?_
      refine od_ ?_
      exact wk (hmx4 () trivial) [2, 3, 6, 22, 24] [[_], [_], [_], [_], [_], [_]] [0, 1, 2, 3, 4, 5] rfl rfl
     ·
      refine mo0 1 [] [2, 3, 6, 22, 23] (fun γ141 => [(9, .pointer (some ⟨γ141 0, 0, none⟩))]) (fun γ141 L => bx (γ141 0) (#[.int .i64 0, .slice none 0 0, .slice none 0 0]) 27 :: L) (fun γ141 => ?_)
      refine od_ ?_
      exact wk (hmx5 γ141 trivial) [2, 3, 6, 9, 22, 23] [[_], [_], [_], [_], [_], [_], [_]] [0, 1, 2, 3, 4, 5, 6] rfl rfl
    refine any_fork [1, 3, 6] (by kernel_rfl) (by simp) (each_cons _ rfl ?_ (each_cons _ rfl ?_ (each_cons _ rfl ?_ (each_nil))))
    ·
     refine qo0 1 [(1, .go (owns 1 0 2))] [2, 3, 6, 23] [(22, .agg #[.int .i64 now, .slice p n cap])] ?_
     refine od_ ?_
     exact wk (hmx1 () trivial) [2, 3, 6, 22, 23] [[_], [_], [_], [_], [_], [_]] [0, 1, 2, 3, 4, 5] rfl rfl
    ·
     refine qo0 1 [(3, .go (owns 1 2 1))] [2, 3, 6, 21] [(24, .slice pa na ca)] ?_
     refine od_ ?_
     exact wk (hmx2 () trivial) [2, 3, 6, 21, 24] [[_], [_], [_], [_], [_], [_]] [0, 1, 2, 3, 4, 5] rfl rfl
    ·
     refine mo0 1 [] [2, 3, 6, 21, 23] (fun γ141 => [(9, .pointer (some ⟨γ141 0, 0, none⟩))]) (fun γ141 L => bx (γ141 0) (#[.int .i64 0, .slice none 0 0, .slice none 0 0]) 27 :: L) (fun γ141 => ?_)
     refine od_ ?_
     exact wk (hmx3 γ141 trivial) [2, 3, 6, 9, 21, 23] [[_], [_], [_], [_], [_], [_], [_]] [0, 1, 2, 3, 4, 5, 6] rfl rfl
   rintro ⟨Y101, cq101, q101, γ141⟩ hO101
   refine any_nil (by kernel_rfl) ?_
   refine ds_ (sq_ (ao_ (qo0 3 [(2, .go (owns 2 1 1))] [2, 6, 9] [(29, .slice p n cap)] (cP (fun v L' => ∃ q_ c_ Y_, v = .slice q_ n c_ ∧ L' = List.take 7 (bx (γ141 0) (#[.int .i64 now, .slice p n cap, .slice q101 na cq101]) 27 :: bx (γ3 1) (#[.int .i64 0, .slice none 0 0, .slice none 0 0]) 27 :: bx (γ3 0) (#[.int .i64 now, .slice p n cap, .slice pa na ca]) 27 :: bx (γ1 3) (#[.int .i64 0, .slice none 0 0, .slice none 0 0]) 27 :: bx (γ1 2) (#[.int .i64 at_]) 2 :: bx (γ1 1) (#[.int .i64 x.vcpu, .int .i64 x.port, .int .i64 x.every]) 32 :: bx (γ1 0) (#[.int .i64 now, .slice p n cap, .slice pa na ca]) 27 :: (Y101 ++ [])) ++ (Y_ ++ List.drop 7 (bx (γ141 0) (#[.int .i64 now, .slice p n cap, .slice q101 na cq101]) 27 :: bx (γ3 1) (#[.int .i64 0, .slice none 0 0, .slice none 0 0]) 27 :: bx (γ3 0) (#[.int .i64 now, .slice p n cap, .slice pa na ca]) 27 :: bx (γ1 3) (#[.int .i64 0, .slice none 0 0, .slice none 0 0]) 27 :: bx (γ1 2) (#[.int .i64 at_]) 2 :: bx (γ1 1) (#[.int .i64 x.vcpu, .int .i64 x.port, .int .i64 x.every]) 32 :: bx (γ1 0) (#[.int .i64 now, .slice p n cap, .slice pa na ca]) 27 :: (Y101 ++ []))) ∧ SlO 42 Y_ q_ n c_ ts) (fun args w => Tryz.call58 args w) (fun w hw => (clone_t p n cap ts w (hts.kept hw.below) hn (by omega)).mono fun e w' ⟨q_, c_, Y_, he, hO, hb, hY⟩ => ⟨_, _, he, ⟨q_, c_, Y_, rfl, rfl, hO⟩, hw.join hb hY 7⟩) ?_))))
   rintro v227 L227 ⟨q227, cq227, Y227, rfl, rfl, hO227⟩
   refine mo0 3 [(6, .go (owns 0 1 1))] [2, 6, 9] (fun _ => []) (fun _ L => (L.set 0 (bx (γ141 0) (#[.int .i64 now, .slice q227 n cq227, .slice q101 na cq101]) 27))) (fun _ => on_ (ds_ (sq_ (sq_ (ao_ (qo0 1 [] [6, 9] [(33, .func (.func 26) #[] #[.pointer (some ⟨γ1 1, 0, none⟩), .pointer (some ⟨γ1 2, 0, none⟩)])] (ops_inline (g := 26) (args := #[.pointer (some ⟨γ141 0, 0, none⟩), .pointer (some ⟨γ1 1, 0, none⟩), .pointer (some ⟨γ1 2, 0, none⟩)]) (by kernel_rfl) (by kernel_rfl) (by kernel_rfl) (fun args w => Tryz.call26 args w) Tryz.func26 rfl Tryz.ntmps26 rfl (sq_ (qa0 [] [0, 1, 2] [] (ds_ (sq_ (sq_ ?_))))))))))))
   rcases q231 : almB x with _ | _
   ·
    refine at_calmTo (f := 3) 9 rfl (by kernel_rfl) (by kernel_rfl) (by kernel_rfl) (by kernel_rfl) (by kernel_rfl) (by kernel_rfl) ?_
    refine cm 1 [(0, .go (owns 5 0 3))] [0, 1, 2] [(7, .agg #[.int .i64 x.vcpu, .int .i64 x.port, .int .i64 x.every])] ([]) (by kernel_rfl) rfl al0 ?_
    refine cK (.bool false) (fun args w => Tryz.call27 args w) (fun w hw => by have := alm_t x w; rw [q231] at this; exact this) ?_
    refine cm 7 [] [0, 1] [(10, .bool true), (11, undef), (14, undef), (15, undef)] ([]) (by kernel_rfl) rfl al0 ?_
    refine calm_nil' ?_
    refine done_pre (li' := #[true, true, true, true, true, true, true, true, true, false, false, false]) (by kernel_rfl) ?_
    refine any_cutX (V := Unit) (fun _ => True) 0 #[true, true, true, true, true, true, true, true, true, true, true, true] (fun _ => [(0, .pointer (some ⟨γ141 0, 0, none⟩)), (1, .pointer (some ⟨γ1 1, 0, none⟩)), (18, .bool true)]) (fun _ => bx (γ141 0) (#[.int .i64 now, .slice q227 n cq227, .slice q101 na cq101]) 27 :: bx (γ3 1) (#[.int .i64 0, .slice none 0 0, .slice none 0 0]) 27 :: bx (γ3 0) (#[.int .i64 now, .slice p n cap, .slice pa na ca]) 27 :: bx (γ1 3) (#[.int .i64 0, .slice none 0 0, .slice none 0 0]) 27 :: bx (γ1 2) (#[.int .i64 at_]) 2 :: bx (γ1 1) (#[.int .i64 x.vcpu, .int .i64 x.port, .int .i64 x.every]) 32 :: bx (γ1 0) (#[.int .i64 now, .slice p n cap, .slice pa na ca]) 27 :: (Y227 ++ (Y101 ++ []))) ?_ (fun hmx1 => ?_)
    rotate_left
    ·
     refine a1 9 rfl ?_
     refine qo0 1 [] [0, 1, 10] [(16, undef)] ?_
     refine od_ ?_
     refine tk (m := 0) [10, 11] [] [0, 1] [(18, .bool true)] ([]) #[true, true, true, true, true, true, true, true, true, true, true, true] al0 ?_
     exact wk (hmx1 () trivial) [0, 1, 18] [[_], [_], [_], [_], [_], [_], [_], _, _] [0, 1, 2, 3, 4, 5, 6, 7, 8] rfl rfl
    rintro _ _
    refine any_nil (by kernel_rfl) ?_
    refine ds_ (t_ (sq_ (qa0 [] [] [(4, .int .i64 2)] (ds_ (bk ([]) (.int .i64 2) (qo0 1 [] [6, 9] [(10, .int .i64 2)] (on_ (ds_ (sq_ (qa0 [] [6, 9, 10] [(36, .bool true)] (ds_ (t_ (sq_ (qa0 [(2, .go (owns 1 0 3))] [6] [(7, .int .i64 2)] (ds_ (bk (owns 1 0 3) (.tuple #[.agg #[.int .i64 0, .slice none 0 0, .slice none 0 0], .int .i64 2]) (qo0 4 [(7, .go (owns 3 0 3))] [6] [(7, .int .i64 2)] (on_ (ds_ (rt (owns 3 0 3) (.tuple #[.agg #[.int .i64 0, .slice none 0 0, .slice none 0 0], .int .i64 2]) ?_))))))))))))))))))))
    exact fun w' hw => by rw [startV_arg q5 q231]; exact ⟨none, 0, 0, [], none, 0, 0, [], rfl, SlO.nil, SlO.nil, hw.below, hw.sub (List.nil_sublist _)⟩
   ·
    rcases q522 : decide (aheadP now at_) with _ | _
    ·
     have hav := alm_id q231
     refine at_calmTo (f := 3) 9 rfl (by kernel_rfl) (by kernel_rfl) (by kernel_rfl) (by kernel_rfl) (by kernel_rfl) (by kernel_rfl) ?_
     refine cm 1 [(0, .go (owns 5 0 3))] [0, 1, 2] [(7, .agg #[.int .i64 x.vcpu, .int .i64 x.port, .int .i64 x.every])] ([]) (by kernel_rfl) rfl al0 ?_
     refine cK (.bool true) (fun args w => Tryz.call27 args w) (fun w hw => by have := alm_t x w; rw [q231] at this; exact this) ?_
     refine cm 5 [(6, .go (owns 5 0 1))] [0, 1, 2] [(10, .bool false), (11, .pointer (some ⟨γ141 0, 0, none⟩)), (13, .int .i64 x.vcpu)] ([]) (by kernel_rfl) rfl al0 ?_
     refine cK (.int .i64 (x.vcpu - 1)) (fun args w => Tryz.call29 args w) (fun w hw => alarmed_t x.vcpu w (by omega) (by omega)) ?_
     refine cm 1 [(8, .go (owns 4 0 1))] [0, 1, 10, 11, 14] [(15, .int .i64 at_)] ([]) (by kernel_rfl) rfl al0 ?_
     refine calm_nil' ?_
     refine done_pre (li' := #[true, true, true, true, true, true, true, true, true, false, false, false]) (by kernel_rfl) ?_
     refine any_cutX (V := Unit) (fun _ => True) 0 #[true, true, true, true, true, true, true, true, true, true, true, true] (fun _ => [(0, .pointer (some ⟨γ141 0, 0, none⟩)), (1, .pointer (some ⟨γ1 1, 0, none⟩)), (18, .bool true)]) (fun _ => bx (γ141 0) (#[.int .i64 now, .slice q227 n cq227, .slice q101 na cq101]) 27 :: bx (γ3 1) (#[.int .i64 0, .slice none 0 0, .slice none 0 0]) 27 :: bx (γ3 0) (#[.int .i64 now, .slice p n cap, .slice pa na ca]) 27 :: bx (γ1 3) (#[.int .i64 0, .slice none 0 0, .slice none 0 0]) 27 :: bx (γ1 2) (#[.int .i64 at_]) 2 :: bx (γ1 1) (#[.int .i64 x.vcpu, .int .i64 x.port, .int .i64 x.every]) 32 :: bx (γ1 0) (#[.int .i64 now, .slice p n cap, .slice pa na ca]) 27 :: (Y227 ++ (Y101 ++ []))) ?_ (fun hmx1 => ?_)
     rotate_left
     ·
      refine a1 9 rfl ?_
      refine cP (fun v L' => v = .int .i64 2 ∧ L' = (bx (γ141 0) (#[.int .i64 now, .slice q227 n cq227, .slice q101 na cq101]) 27 :: [bx (γ3 1) (#[.int .i64 0, .slice none 0 0, .slice none 0 0]) 27, bx (γ3 0) (#[.int .i64 now, .slice p n cap, .slice pa na ca]) 27, bx (γ1 3) (#[.int .i64 0, .slice none 0 0, .slice none 0 0]) 27, bx (γ1 2) (#[.int .i64 at_]) 2, bx (γ1 1) (#[.int .i64 x.vcpu, .int .i64 x.port, .int .i64 x.every]) 32, bx (γ1 0) (#[.int .i64 now, .slice p n cap, .slice pa na ca]) 27]) ++ (Y227 ++ ((Y101 ++ [])))) (fun args w => Tryz.call28 args w) (fun w hw => (aset_no _ ([bx (γ3 1) (#[.int .i64 0, .slice none 0 0, .slice none 0 0]) 27, bx (γ3 0) (#[.int .i64 now, .slice p n cap, .slice pa na ca]) 27, bx (γ1 3) (#[.int .i64 0, .slice none 0 0, .slice none 0 0]) 27, bx (γ1 2) (#[.int .i64 at_]) 2, bx (γ1 1) (#[.int .i64 x.vcpu, .int .i64 x.port, .int .i64 x.every]) 32, bx (γ1 0) (#[.int .i64 now, .slice p n cap, .slice pa na ca]) 27] ++ ((Y101 ++ []))) Y227 (γ141 0) now q227 n cq227 q101 na cq101 ts (x.vcpu - 1) at_ w (hw.pull (A := [bx (γ3 1) (#[.int .i64 0, .slice none 0 0, .slice none 0 0]) 27, bx (γ3 0) (#[.int .i64 now, .slice p n cap, .slice pa na ca]) 27, bx (γ1 3) (#[.int .i64 0, .slice none 0 0, .slice none 0 0]) 27, bx (γ1 2) (#[.int .i64 at_]) 2, bx (γ1 1) (#[.int .i64 x.vcpu, .int .i64 x.port, .int .i64 x.every]) 32, bx (γ1 0) (#[.int .i64 now, .slice p n cap, .slice pa na ca]) 27]) (Y := Y227) (R := ((Y101 ++ [])))) hO227 (by omega) (al_iff.1 q5).wh (of_decide_eq_false q522)).mono fun e w' ⟨he, hY⟩ => ⟨_, _, he, ⟨rfl, rfl⟩, hY.push (A := _ :: [bx (γ3 1) (#[.int .i64 0, .slice none 0 0, .slice none 0 0]) 27, bx (γ3 0) (#[.int .i64 now, .slice p n cap, .slice pa na ca]) 27, bx (γ1 3) (#[.int .i64 0, .slice none 0 0, .slice none 0 0]) 27, bx (γ1 2) (#[.int .i64 at_]) 2, bx (γ1 1) (#[.int .i64 x.vcpu, .int .i64 x.port, .int .i64 x.every]) 32, bx (γ1 0) (#[.int .i64 now, .slice p n cap, .slice pa na ca]) 27])⟩) ?_
      rintro v708 L708 ⟨rfl, rfl⟩
      refine od_ ?_
      refine tk (m := 0) [10, 11] [] [0, 1] [(18, .bool true)] ([]) #[true, true, true, true, true, true, true, true, true, true, true, true] al0 ?_
      exact wk (hmx1 () trivial) [0, 1, 18] [[_], [_], [_], [_], [_], [_], [_], _, _] [0, 1, 2, 3, 4, 5, 6, 7, 8] rfl rfl
     rintro _ _
     refine any_nil (by kernel_rfl) ?_
     refine ds_ (t_ (sq_ (qa0 [] [] [(4, .int .i64 2)] (ds_ (bk ([]) (.int .i64 2) (qo0 1 [] [6, 9] [(10, .int .i64 2)] (on_ (ds_ (sq_ (qa0 [] [6, 9, 10] [(36, .bool true)] (ds_ (t_ (sq_ (qa0 [(2, .go (owns 1 0 3))] [6] [(7, .int .i64 2)] (ds_ (bk (owns 1 0 3) (.tuple #[.agg #[.int .i64 0, .slice none 0 0, .slice none 0 0], .int .i64 2]) (qo0 4 [(7, .go (owns 3 0 3))] [6] [(7, .int .i64 2)] (on_ (ds_ (rt (owns 3 0 3) (.tuple #[.agg #[.int .i64 0, .slice none 0 0, .slice none 0 0], .int .i64 2]) ?_))))))))))))))))))))
     exact fun w' hw => by rw [startV_nah q5 (of_decide_eq_false q522)]; exact ⟨none, 0, 0, [], none, 0, 0, [], rfl, SlO.nil, SlO.nil, hw.below, hw.sub (List.nil_sublist _)⟩
    ·
     have hav := alm_id q231
     refine at_calmTo (f := 3) 9 rfl (by kernel_rfl) (by kernel_rfl) (by kernel_rfl) (by kernel_rfl) (by kernel_rfl) (by kernel_rfl) ?_
     refine cm 1 [(0, .go (owns 5 0 3))] [0, 1, 2] [(7, .agg #[.int .i64 x.vcpu, .int .i64 x.port, .int .i64 x.every])] ([]) (by kernel_rfl) rfl al0 ?_
     refine cK (.bool true) (fun args w => Tryz.call27 args w) (fun w hw => by have := alm_t x w; rw [q231] at this; exact this) ?_
     refine cm 5 [(6, .go (owns 5 0 1))] [0, 1, 2] [(10, .bool false), (11, .pointer (some ⟨γ141 0, 0, none⟩)), (13, .int .i64 x.vcpu)] ([]) (by kernel_rfl) rfl al0 ?_
     refine cK (.int .i64 (x.vcpu - 1)) (fun args w => Tryz.call29 args w) (fun w hw => alarmed_t x.vcpu w (by omega) (by omega)) ?_
     refine cm 1 [(8, .go (owns 4 0 1))] [0, 1, 10, 11, 14] [(15, .int .i64 at_)] ([]) (by kernel_rfl) rfl al0 ?_
     refine calm_nil' ?_
     refine done_pre (li' := #[true, true, true, true, true, true, true, true, true, false, false, false]) (by kernel_rfl) ?_
     refine any_cutX (V := (List Ob) × (Nat) × (Nat) × (Option Addr)) (fun ⟨Y999, cq999, m999, q999⟩ => SlO 42 Y999 q999 m999 cq999 (tput ts (x.vcpu - 1) at_)) 0 #[true, true, true, true, true, true, true, true, true, true, true, true] (fun ⟨Y999, cq999, m999, q999⟩ => [(0, .pointer (some ⟨γ141 0, 0, none⟩)), (1, .pointer (some ⟨γ1 1, 0, none⟩)), (18, .bool false)]) (fun ⟨Y999, cq999, m999, q999⟩ => bx (γ141 0) (#[.int .i64 now, .slice q999 m999 cq999, .slice q101 na cq101]) 27 :: bx (γ3 1) (#[.int .i64 0, .slice none 0 0, .slice none 0 0]) 27 :: bx (γ3 0) (#[.int .i64 now, .slice p n cap, .slice pa na ca]) 27 :: bx (γ1 3) (#[.int .i64 0, .slice none 0 0, .slice none 0 0]) 27 :: bx (γ1 2) (#[.int .i64 at_]) 2 :: bx (γ1 1) (#[.int .i64 x.vcpu, .int .i64 x.port, .int .i64 x.every]) 32 :: bx (γ1 0) (#[.int .i64 now, .slice p n cap, .slice pa na ca]) 27 :: (Y999 ++ (Y101 ++ []))) ?_ (fun hmx1 => ?_)
     rotate_left
     ·
      refine a1 9 rfl ?_
      refine cP (fun v L' => ∃ q_ m_ c_ Y_, v = (.int .i64 0) ∧ L' = (bx (γ141 0) #[.int .i64 now, .slice q_ m_ c_, .slice q101 na cq101] 27 :: [bx (γ3 1) (#[.int .i64 0, .slice none 0 0, .slice none 0 0]) 27, bx (γ3 0) (#[.int .i64 now, .slice p n cap, .slice pa na ca]) 27, bx (γ1 3) (#[.int .i64 0, .slice none 0 0, .slice none 0 0]) 27, bx (γ1 2) (#[.int .i64 at_]) 2, bx (γ1 1) (#[.int .i64 x.vcpu, .int .i64 x.port, .int .i64 x.every]) 32, bx (γ1 0) (#[.int .i64 now, .slice p n cap, .slice pa na ca]) 27]) ++ (Y_ ++ ((Y101 ++ []))) ∧ SlO 42 Y_ q_ m_ c_ (tput ts (x.vcpu - 1) at_)) (fun args w => Tryz.call28 args w) (fun w hw => (aset_t _ ([bx (γ3 1) (#[.int .i64 0, .slice none 0 0, .slice none 0 0]) 27, bx (γ3 0) (#[.int .i64 now, .slice p n cap, .slice pa na ca]) 27, bx (γ1 3) (#[.int .i64 0, .slice none 0 0, .slice none 0 0]) 27, bx (γ1 2) (#[.int .i64 at_]) 2, bx (γ1 1) (#[.int .i64 x.vcpu, .int .i64 x.port, .int .i64 x.every]) 32, bx (γ1 0) (#[.int .i64 now, .slice p n cap, .slice pa na ca]) 27] ++ ((Y101 ++ []))) Y227 (γ141 0) now q227 n cq227 q101 na cq101 ts (x.vcpu - 1) at_ w (hw.pull (A := [bx (γ3 1) (#[.int .i64 0, .slice none 0 0, .slice none 0 0]) 27, bx (γ3 0) (#[.int .i64 now, .slice p n cap, .slice pa na ca]) 27, bx (γ1 3) (#[.int .i64 0, .slice none 0 0, .slice none 0 0]) 27, bx (γ1 2) (#[.int .i64 at_]) 2, bx (γ1 1) (#[.int .i64 x.vcpu, .int .i64 x.port, .int .i64 x.every]) 32, bx (γ1 0) (#[.int .i64 now, .slice p n cap, .slice pa na ca]) 27]) (Y := Y227) (R := ((Y101 ++ [])))) hO227 (by omega) (al_iff.1 q5).wh (by omega) (by omega) (of_decide_eq_true q522)).mono fun e w' ⟨q_, m_, c_, Y_, he, hO, hY⟩ => ⟨_, _, he, ⟨q_, m_, c_, Y_, rfl, rfl, hO⟩, hY.push (A := _ :: [bx (γ3 1) (#[.int .i64 0, .slice none 0 0, .slice none 0 0]) 27, bx (γ3 0) (#[.int .i64 now, .slice p n cap, .slice pa na ca]) 27, bx (γ1 3) (#[.int .i64 0, .slice none 0 0, .slice none 0 0]) 27, bx (γ1 2) (#[.int .i64 at_]) 2, bx (γ1 1) (#[.int .i64 x.vcpu, .int .i64 x.port, .int .i64 x.every]) 32, bx (γ1 0) (#[.int .i64 now, .slice p n cap, .slice pa na ca]) 27])⟩) ?_
      rintro v999 L999 ⟨q999, m999, cq999, Y999, rfl, rfl, hO999⟩
      have hm999 := hO999.len
      refine od_ ?_
      refine tk (m := 0) [10, 11] [] [0, 1] [(18, .bool false)] ([]) #[true, true, true, true, true, true, true, true, true, true, true, true] al0 ?_
      exact wk (hmx1 (Y999, cq999, m999, q999) hO999) [0, 1, 18] [[_], [_], [_], [_], [_], [_], [_], _, _] [0, 1, 2, 3, 4, 5, 6, 7, 8] rfl rfl
     rintro ⟨Y999, cq999, m999, q999⟩ hO999
     refine any_nil (by kernel_rfl) ?_
     refine ds_ (f_ (at_skip (ds_ (sq_ ?_))))
     refine at_calm rfl (by kernel_rfl) (by kernel_rfl) ?_
     refine cm 6 [(3, .go (owns 0 2 1)), (5, .go (owns 5 0 1))] [0, 1] [(23, .slice q101 na cq101), (25, .int .i64 x.vcpu)] ([]) (by kernel_rfl) rfl al0 ?_
     rcases ha1101 : getK Alm.vcpu rs x.vcpu with _ | z1101
     ·
      have hpl1101 := (pos_cut (k := x.vcpu) (al_iff.1 q5).rr).2.2
      refine cK (.tuple #[.int .i64 ((posK Alm.vcpu rs x.vcpu : Nat)), .bool false]) (fun args w => Tryz.call30 args w) (fun w hw => by have := atg_t q101 na cq101 rs x.vcpu w (hO101.atN (A := (_ :: _ :: _ :: _ :: _ :: _ :: _ :: Y999)) hw) hO101.len (by omega) (al_iff.1 q5).rr (al_iff.1 q5).al (by omega) (by omega); rw [hasK_none ha1101] at this; exact this) ?_
      refine cm 5 [] [0, 1] [(5, .int .i64 ((posK Alm.vcpu rs x.vcpu : Nat))), (6, .bool false)] ([]) (by kernel_rfl) rfl al0 ?_
      refine calm_nil' ?_
      refine ds_ (sq_ (sq_ (qa0 [] [0, 1, 5] [(30, .bool true)] (ds_ (t_ ?_)))))
      refine at_any (by kernel_rfl) ?_
      refine tk (m := 7) [0, 1, 2, 3, 5] [] [0, 1, 5] [(31, .pointer (some ⟨γ141 0, 0, none⟩)), (34, .pointer (some ⟨γ141 0, 2, none⟩)), (36, .int .i64 ((posK Alm.vcpu rs x.vcpu : Nat)))] ([]) #[true, true, true, true, false, true, false, false, false, false, false, false] al0 ?_
      refine any_cutX (V := (List Ob) × (Nat) × (Option Addr) × (Nat → Nat)) (fun ⟨Y1267, cq1267, q1267, γ1247⟩ => SlO 32 Y1267 q1267 (na + 1) cq1267 (rs.take (posK Alm.vcpu rs x.vcpu) ++ [⟨x.vcpu, x.port, x.every⟩] ++ rs.drop (posK Alm.vcpu rs x.vcpu))) 0 #[true, true, true, true, true, true, true, true, true, true, true, true] (fun ⟨Y1267, cq1267, q1267, γ1247⟩ => [(0, .pointer (some ⟨γ141 0, 0, none⟩)), (1, .pointer (some ⟨γ1 1, 0, none⟩)), (5, .int .i64 ((posK Alm.vcpu rs x.vcpu : Nat)))]) (fun ⟨Y1267, cq1267, q1267, γ1247⟩ => bx (γ141 0) (#[.int .i64 now, .slice q999 m999 cq999, .slice q1267 (na + 1) cq1267]) 27 :: bx (γ3 1) (#[.int .i64 0, .slice none 0 0, .slice none 0 0]) 27 :: bx (γ3 0) (#[.int .i64 now, .slice p n cap, .slice pa na ca]) 27 :: bx (γ1 3) (#[.int .i64 0, .slice none 0 0, .slice none 0 0]) 27 :: bx (γ1 2) (#[.int .i64 at_]) 2 :: bx (γ1 1) (#[.int .i64 x.vcpu, .int .i64 x.port, .int .i64 x.every]) 32 :: bx (γ1 0) (#[.int .i64 now, .slice p n cap, .slice pa na ca]) 27 :: (Y1267 ++ (Y999 ++ []))) ?_ (fun hmx7 => ?_)
      rotate_left
      ·
       refine any_cutX (V := (List Ob) × (Nat) × (Option Addr) × (Nat → Nat)) (fun ⟨Y1267, cq1267, q1267, γ1247⟩ => SlO 32 Y1267 q1267 (na + 1) cq1267 (rs.take (posK Alm.vcpu rs x.vcpu) ++ [⟨x.vcpu, x.port, x.every⟩] ++ rs.drop (posK Alm.vcpu rs x.vcpu))) 1 #[true, true, true, true, true, true, true, true, true, true, true, false] (fun ⟨Y1267, cq1267, q1267, γ1247⟩ => [(0, .pointer (some ⟨γ141 0, 0, none⟩)), (1, .pointer (some ⟨γ1 1, 0, none⟩)), (5, .int .i64 ((posK Alm.vcpu rs x.vcpu : Nat))), (39, .slice q1267 (na + 1) cq1267), (41, .pointer (some ⟨γ141 0, 2, none⟩))]) (fun ⟨Y1267, cq1267, q1267, γ1247⟩ => bx (γ141 0) (#[.int .i64 now, .slice q999 m999 cq999, .slice q101 na cq101]) 27 :: bx (γ3 1) (#[.int .i64 0, .slice none 0 0, .slice none 0 0]) 27 :: bx (γ3 0) (#[.int .i64 now, .slice p n cap, .slice pa na ca]) 27 :: bx (γ1 3) (#[.int .i64 0, .slice none 0 0, .slice none 0 0]) 27 :: bx (γ1 2) (#[.int .i64 at_]) 2 :: bx (γ1 1) (#[.int .i64 x.vcpu, .int .i64 x.port, .int .i64 x.every]) 32 :: bx (γ1 0) (#[.int .i64 now, .slice p n cap, .slice pa na ca]) 27 :: (Y1267 ++ (Y999 ++ []))) ?_ (fun hmx6 => ?_)
       ·
        rintro ⟨Y1267, cq1267, q1267, γ1247⟩ hO1267
        refine a1 11 rfl ?_
        refine mo0 1 [(11, .go (owns 0 2 1))] [0, 1, 5] (fun _ => []) (fun _ L => (L.set 0 (bx (γ141 0) (#[.int .i64 now, .slice q999 m999 cq999, .slice q1267 (na + 1) cq1267]) 27))) (fun _ => ?_)
        refine od_ ?_
        exact wk (hmx7 (Y1267, cq1267, q1267, γ1247) hO1267) [0, 1, 5] [[_], [_], [_], [_], [_], [_], [_], _, _] [0, 1, 2, 3, 4, 5, 6, 7, 8] rfl rfl
       refine any_cutX (V := (Nat → Nat)) (fun γ1247 => True) 4 #[true, true, true, true, true, true, true, true, false, false, false, false] (fun γ1247 => [(0, .pointer (some ⟨γ141 0, 0, none⟩)), (1, .pointer (some ⟨γ1 1, 0, none⟩)), (5, .int .i64 ((posK Alm.vcpu rs x.vcpu : Nat))), (31, .pointer (some ⟨γ141 0, 0, none⟩)), (35, .slice q101 na cq101), (36, .int .i64 ((posK Alm.vcpu rs x.vcpu : Nat))), (38, .slice (some ⟨γ1247 0, 0, none⟩) 1 1)]) (fun γ1247 => bx (γ1247 0) (#[.int .i64 x.vcpu, .int .i64 x.port, .int .i64 x.every]) 32 :: bx (γ141 0) (#[.int .i64 now, .slice q999 m999 cq999, .slice q101 na cq101]) 27 :: bx (γ3 1) (#[.int .i64 0, .slice none 0 0, .slice none 0 0]) 27 :: bx (γ3 0) (#[.int .i64 now, .slice p n cap, .slice pa na ca]) 27 :: bx (γ1 3) (#[.int .i64 0, .slice none 0 0, .slice none 0 0]) 27 :: bx (γ1 2) (#[.int .i64 at_]) 2 :: bx (γ1 1) (#[.int .i64 x.vcpu, .int .i64 x.port, .int .i64 x.every]) 32 :: bx (γ1 0) (#[.int .i64 now, .slice p n cap, .slice pa na ca]) 27 :: (Y999 ++ (Y101 ++ []))) ?_ (fun hmx5 => ?_)
       ·
        rintro γ1247 _
        refine a1 8 rfl ?_
        refine Ops.pick [[bx (γ1247 0) (#[.int .i64 x.vcpu, .int .i64 x.port, .int .i64 x.every]) 32], [bx (γ141 0) (#[.int .i64 now, .slice q999 m999 cq999, .slice q101 na cq101]) 27], [bx (γ3 1) (#[.int .i64 0, .slice none 0 0, .slice none 0 0]) 27], [bx (γ3 0) (#[.int .i64 now, .slice p n cap, .slice pa na ca]) 27], [bx (γ1 3) (#[.int .i64 0, .slice none 0 0, .slice none 0 0]) 27], [bx (γ1 2) (#[.int .i64 at_]) 2], [bx (γ1 1) (#[.int .i64 x.vcpu, .int .i64 x.port, .int .i64 x.every]) 32], [bx (γ1 0) (#[.int .i64 now, .slice p n cap, .slice pa na ca]) 27], Y999, Y101] [0, 1, 2, 3, 4, 5, 6, 7, 9, 8] [] (bx (γ1247 0) (#[.int .i64 x.vcpu, .int .i64 x.port, .int .i64 x.every]) 32 :: bx (γ141 0) (#[.int .i64 now, .slice q999 m999 cq999, .slice q101 na cq101]) 27 :: bx (γ3 1) (#[.int .i64 0, .slice none 0 0, .slice none 0 0]) 27 :: bx (γ3 0) (#[.int .i64 now, .slice p n cap, .slice pa na ca]) 27 :: bx (γ1 3) (#[.int .i64 0, .slice none 0 0, .slice none 0 0]) 27 :: bx (γ1 2) (#[.int .i64 at_]) 2 :: bx (γ1 1) (#[.int .i64 x.vcpu, .int .i64 x.port, .int .i64 x.every]) 32 :: bx (γ1 0) (#[.int .i64 now, .slice p n cap, .slice pa na ca]) 27 :: (Y101 ++ (Y999 ++ []))) (by kernel_rfl) rfl rfl (cP (fun v L' => ∃ q_ capq_ Y_, v = .slice q_ (na + 1) capq_ ∧ L' = [bx (γ141 0) (#[.int .i64 now, .slice q999 m999 cq999, .slice q101 na cq101]) 27, bx (γ3 1) (#[.int .i64 0, .slice none 0 0, .slice none 0 0]) 27, bx (γ3 0) (#[.int .i64 now, .slice p n cap, .slice pa na ca]) 27, bx (γ1 3) (#[.int .i64 0, .slice none 0 0, .slice none 0 0]) 27, bx (γ1 2) (#[.int .i64 at_]) 2, bx (γ1 1) (#[.int .i64 x.vcpu, .int .i64 x.port, .int .i64 x.every]) 32, bx (γ1 0) (#[.int .i64 now, .slice p n cap, .slice pa na ca]) 27] ++ (Y_ ++ ((Y999 ++ []))) ∧ SlO 32 Y_ q_ (na + 1) capq_ (rs.take (posK Alm.vcpu rs x.vcpu) ++ [⟨x.vcpu, x.port, x.every⟩] ++ rs.drop (posK Alm.vcpu rs x.vcpu))) (fun args w => Tryz.call31 args w) (fun w hw => (ainsert_t _ ([bx (γ141 0) (#[.int .i64 now, .slice q999 m999 cq999, .slice q101 na cq101]) 27, bx (γ3 1) (#[.int .i64 0, .slice none 0 0, .slice none 0 0]) 27, bx (γ3 0) (#[.int .i64 now, .slice p n cap, .slice pa na ca]) 27, bx (γ1 3) (#[.int .i64 0, .slice none 0 0, .slice none 0 0]) 27, bx (γ1 2) (#[.int .i64 at_]) 2, bx (γ1 1) (#[.int .i64 x.vcpu, .int .i64 x.port, .int .i64 x.every]) 32, bx (γ1 0) (#[.int .i64 now, .slice p n cap, .slice pa na ca]) 27] ++ ((Y999 ++ []))) Y101 q101 na cq101 rs (posK Alm.vcpu rs x.vcpu) (γ1247 0) (#[.int .i64 x.vcpu, .int .i64 x.port, .int .i64 x.every]) 1 ([⟨x.vcpu, x.port, x.every⟩]) w (hw.pull (A := [bx (γ141 0) (#[.int .i64 now, .slice q999 m999 cq999, .slice q101 na cq101]) 27, bx (γ3 1) (#[.int .i64 0, .slice none 0 0, .slice none 0 0]) 27, bx (γ3 0) (#[.int .i64 now, .slice p n cap, .slice pa na ca]) 27, bx (γ1 3) (#[.int .i64 0, .slice none 0 0, .slice none 0 0]) 27, bx (γ1 2) (#[.int .i64 at_]) 2, bx (γ1 1) (#[.int .i64 x.vcpu, .int .i64 x.port, .int .i64 x.every]) 32, bx (γ1 0) (#[.int .i64 now, .slice p n cap, .slice pa na ca]) 27]) (Y := Y101) (R := ((Y999 ++ [])))) hO101 (by rfl) (by rfl) (by omega) (by omega) (by omega) (by omega)).mono fun e w' ⟨q_, capq_, Y_, he, hO, hY⟩ => ⟨_, _, he, ⟨q_, capq_, Y_, rfl, rfl, hO⟩, hY.push⟩) ?_)
        rintro v1267 L1267 ⟨q1267, cq1267, Y1267, rfl, rfl, hO1267⟩
        refine od_ ?_
        refine tk (m := 1) [9, 10] [] [0, 1, 5, 39] [(41, .pointer (some ⟨γ141 0, 2, none⟩))] ([]) #[true, true, true, true, true, true, true, true, true, true, true, false] al0 ?_
        exact wk (hmx6 (Y1267, cq1267, q1267, γ1247) hO1267) [0, 1, 5, 39, 41] [[_], [_], [_], [_], [_], [_], [_], _, _] [0, 1, 2, 3, 4, 5, 6, 7, 8] rfl rfl
       refine any_cutX (V := (Nat → Nat)) (fun γ1247 => True) 5 #[true, true, true, true, false, true, true, true, false, false, false, false] (fun γ1247 => [(0, .pointer (some ⟨γ141 0, 0, none⟩)), (1, .pointer (some ⟨γ1 1, 0, none⟩)), (5, .int .i64 ((posK Alm.vcpu rs x.vcpu : Nat))), (31, .pointer (some ⟨γ141 0, 0, none⟩)), (34, .pointer (some ⟨γ141 0, 2, none⟩)), (36, .int .i64 ((posK Alm.vcpu rs x.vcpu : Nat))), (38, .slice (some ⟨γ1247 0, 0, none⟩) 1 1)]) (fun γ1247 => bx (γ1247 0) (#[.int .i64 x.vcpu, .int .i64 x.port, .int .i64 x.every]) 32 :: bx (γ141 0) (#[.int .i64 now, .slice q999 m999 cq999, .slice q101 na cq101]) 27 :: bx (γ3 1) (#[.int .i64 0, .slice none 0 0, .slice none 0 0]) 27 :: bx (γ3 0) (#[.int .i64 now, .slice p n cap, .slice pa na ca]) 27 :: bx (γ1 3) (#[.int .i64 0, .slice none 0 0, .slice none 0 0]) 27 :: bx (γ1 2) (#[.int .i64 at_]) 2 :: bx (γ1 1) (#[.int .i64 x.vcpu, .int .i64 x.port, .int .i64 x.every]) 32 :: bx (γ1 0) (#[.int .i64 now, .slice p n cap, .slice pa na ca]) 27 :: (Y999 ++ (Y101 ++ []))) ?_ (fun hmx4 => ?_)
       ·
        rintro γ1247 _
        refine a1 4 rfl ?_
        refine qo0 1 [(4, .go (owns 1 2 1))] [0, 1, 5, 31, 36, 38] [(35, .slice q101 na cq101)] ?_
        refine od_ ?_
        exact wk (hmx5 γ1247 trivial) [0, 1, 5, 31, 35, 36, 38] [[_], [_], [_], [_], [_], [_], [_], [_], _, _] [0, 1, 2, 3, 4, 5, 6, 7, 8, 9] rfl rfl
       refine any_cutX (V := Unit) (fun _ => True) 5 #[true, true, true, true, true, true, true, false, false, false, false, false] (fun _ => [(0, .pointer (some ⟨γ141 0, 0, none⟩)), (1, .pointer (some ⟨γ1 1, 0, none⟩)), (5, .int .i64 ((posK Alm.vcpu rs x.vcpu : Nat))), (31, .pointer (some ⟨γ141 0, 0, none⟩)), (35, .slice q101 na cq101), (36, .int .i64 ((posK Alm.vcpu rs x.vcpu : Nat))), (37, .agg #[.int .i64 x.vcpu, .int .i64 x.port, .int .i64 x.every])]) (fun _ => bx (γ141 0) (#[.int .i64 now, .slice q999 m999 cq999, .slice q101 na cq101]) 27 :: bx (γ3 1) (#[.int .i64 0, .slice none 0 0, .slice none 0 0]) 27 :: bx (γ3 0) (#[.int .i64 now, .slice p n cap, .slice pa na ca]) 27 :: bx (γ1 3) (#[.int .i64 0, .slice none 0 0, .slice none 0 0]) 27 :: bx (γ1 2) (#[.int .i64 at_]) 2 :: bx (γ1 1) (#[.int .i64 x.vcpu, .int .i64 x.port, .int .i64 x.every]) 32 :: bx (γ1 0) (#[.int .i64 now, .slice p n cap, .slice pa na ca]) 27 :: (Y999 ++ (Y101 ++ []))) ?_ (fun hmx3 => ?_)
       ·
        rintro _ _
        refine a1 7 rfl ?_
        refine mo0 1 [] [0, 1, 5, 31, 35, 36] (fun γ1247 => [(38, .slice (some ⟨γ1247 0, 0, none⟩) 1 1)]) (fun γ1247 L => bx (γ1247 0) (#[.int .i64 x.vcpu, .int .i64 x.port, .int .i64 x.every]) 32 :: L) (fun γ1247 => ?_)
        refine od_ ?_
        exact wk (hmx5 γ1247 trivial) [0, 1, 5, 31, 35, 36, 38] [[_], [_], [_], [_], [_], [_], [_], [_], _, _] [0, 1, 2, 3, 4, 5, 6, 7, 8, 9] rfl rfl
       refine any_cutX (V := Unit) (fun _ => True) 6 #[true, true, true, true, false, true, true, false, false, false, false, false] (fun _ => [(0, .pointer (some ⟨γ141 0, 0, none⟩)), (1, .pointer (some ⟨γ1 1, 0, none⟩)), (5, .int .i64 ((posK Alm.vcpu rs x.vcpu : Nat))), (31, .pointer (some ⟨γ141 0, 0, none⟩)), (34, .pointer (some ⟨γ141 0, 2, none⟩)), (36, .int .i64 ((posK Alm.vcpu rs x.vcpu : Nat))), (37, .agg #[.int .i64 x.vcpu, .int .i64 x.port, .int .i64 x.every])]) (fun _ => bx (γ141 0) (#[.int .i64 now, .slice q999 m999 cq999, .slice q101 na cq101]) 27 :: bx (γ3 1) (#[.int .i64 0, .slice none 0 0, .slice none 0 0]) 27 :: bx (γ3 0) (#[.int .i64 now, .slice p n cap, .slice pa na ca]) 27 :: bx (γ1 3) (#[.int .i64 0, .slice none 0 0, .slice none 0 0]) 27 :: bx (γ1 2) (#[.int .i64 at_]) 2 :: bx (γ1 1) (#[.int .i64 x.vcpu, .int .i64 x.port, .int .i64 x.every]) 32 :: bx (γ1 0) (#[.int .i64 now, .slice p n cap, .slice pa na ca]) 27 :: (Y999 ++ (Y101 ++ []))) ?_ (fun hmx2 => ?_)
       ·
        rintro _ _
        refine any_fork [4, 7] (by kernel_rfl) (by simp) (each_cons _ rfl ?_ (each_cons _ rfl ?_ (each_nil)))
        ·
         refine qo0 1 [(4, .go (owns 0 2 1))] [0, 1, 5, 31, 36, 37] [(35, .slice q101 na cq101)] ?_
         refine od_ ?_
         exact wk (hmx3 () trivial) [0, 1, 5, 31, 35, 36, 37] [[_], [_], [_], [_], [_], [_], [_], _, _] [0, 1, 2, 3, 4, 5, 6, 7, 8] rfl rfl
        ·
         refine mo0 1 [] [0, 1, 5, 31, 34, 36] (fun γ1247 => [(38, .slice (some ⟨γ1247 0, 0, none⟩) 1 1)]) (fun γ1247 L => bx (γ1247 0) (#[.int .i64 x.vcpu, .int .i64 x.port, .int .i64 x.every]) 32 :: L) (fun γ1247 => ?_)
         refine od_ ?_
         exact wk (hmx4 γ1247 trivial) [0, 1, 5, 31, 34, 36, 38] [[_], [_], [_], [_], [_], [_], [_], [_], _, _] [0, 1, 2, 3, 4, 5, 6, 7, 8, 9] rfl rfl
       refine any_cutX (V := Unit) (fun _ => True) 6 #[true, true, true, true, true, true, false, false, false, false, false, false] (fun _ => [(0, .pointer (some ⟨γ141 0, 0, none⟩)), (1, .pointer (some ⟨γ1 1, 0, none⟩)), (5, .int .i64 ((posK Alm.vcpu rs x.vcpu : Nat))), (31, .pointer (some ⟨γ141 0, 0, none⟩)), (35, .slice q101 na cq101), (36, .int .i64 ((posK Alm.vcpu rs x.vcpu : Nat)))]) (fun _ => bx (γ141 0) (#[.int .i64 now, .slice q999 m999 cq999, .slice q101 na cq101]) 27 :: bx (γ3 1) (#[.int .i64 0, .slice none 0 0, .slice none 0 0]) 27 :: bx (γ3 0) (#[.int .i64 now, .slice p n cap, .slice pa na ca]) 27 :: bx (γ1 3) (#[.int .i64 0, .slice none 0 0, .slice none 0 0]) 27 :: bx (γ1 2) (#[.int .i64 at_]) 2 :: bx (γ1 1) (#[.int .i64 x.vcpu, .int .i64 x.port, .int .i64 x.every]) 32 :: bx (γ1 0) (#[.int .i64 now, .slice p n cap, .slice pa na ca]) 27 :: (Y999 ++ (Y101 ++ []))) ?_ (fun hmx1 => ?_)
       ·
        rintro _ _
        refine a1 6 rfl ?_
        refine qo0 1 [(6, .go (owns 5 0 3))] [0, 1, 5, 31, 35, 36] [(37, .agg #[.int .i64 x.vcpu, .int .i64 x.port, .int .i64 x.every])] ?_
        refine od_ ?_
        exact wk (hmx3 () trivial) [0, 1, 5, 31, 35, 36, 37] [[_], [_], [_], [_], [_], [_], [_], _, _] [0, 1, 2, 3, 4, 5, 6, 7, 8] rfl rfl
       refine any_fork [4, 6] (by kernel_rfl) (by simp) (each_cons _ rfl ?_ (each_cons _ rfl ?_ (each_nil)))
       ·
        refine qo0 1 [(4, .go (owns 0 2 1))] [0, 1, 5, 31, 36] [(35, .slice q101 na cq101)] ?_
        refine od_ ?_
        exact wk (hmx1 () trivial) [0, 1, 5, 31, 35, 36] [[_], [_], [_], [_], [_], [_], [_], _, _] [0, 1, 2, 3, 4, 5, 6, 7, 8] rfl rfl
       ·
        refine qo0 1 [(6, .go (owns 5 0 3))] [0, 1, 5, 31, 34, 36] [(37, .agg #[.int .i64 x.vcpu, .int .i64 x.port, .int .i64 x.every])] ?_
        refine od_ ?_
        exact wk (hmx2 () trivial) [0, 1, 5, 31, 34, 36, 37] [[_], [_], [_], [_], [_], [_], [_], _, _] [0, 1, 2, 3, 4, 5, 6, 7, 8] rfl rfl
      rintro ⟨Y1267, cq1267, q1267, γ1247⟩ hO1267
      refine any_nil (by kernel_rfl) ?_
      refine ds_ (sq_ ?_)
      have hln1388 := hO1267.len
      obtain ⟨g1388, cs1388, rfl, rfl, hOw1388⟩ := hO1267.rowOf (i := posK Alm.vcpu rs x.vcpu) (by omega)
      obtain ⟨x1389, hx1389⟩ := get_some (l := (rs.take (posK Alm.vcpu rs x.vcpu) ++ [⟨x.vcpu, x.port, x.every⟩] ++ rs.drop (posK Alm.vcpu rs x.vcpu))) (m := posK Alm.vcpu rs x.vcpu) (by have := pos_cut (k := x.vcpu) (al_iff.1 q5).rr; omega)
      refine at_calmTo (f := 1) 7 rfl (by kernel_rfl) (by kernel_rfl) (by kernel_rfl) (by kernel_rfl) (by kernel_rfl) (by kernel_rfl) ?_
      refine cm 7 [(3, .go (owns 0 2 1)), (5, .go (owns 5 0 3)), (6, .at g1388 0 (posK Alm.vcpu rs x.vcpu))] [] [(47, .agg #[.int .i64 x.vcpu, .int .i64 x.port, .int .i64 x.every]), (48, .pointer (some ⟨g1388, 0 + (posK Alm.vcpu rs x.vcpu) * 3, none⟩))] ([(some ⟨g1388, 0, none⟩ : Option Addr) = some ⟨g1388, 0, none⟩, ((posK Alm.vcpu rs x.vcpu : Nat)) = ((posK Alm.vcpu rs x.vcpu : Nat) : Int), posK Alm.vcpu rs x.vcpu < na + 1]) (by kernel_rfl) rfl (al2 rfl (al2 rfl (al1 (by omega)))) ?_
      refine calm_nil' ?_
      refine done_pre (li' := #[true, true, true, true, true, true, true, false]) (by kernel_rfl) ?_
      refine any_cutX (V := Unit) (fun _ => True) 0 #[true, true, true, true, true, true, true, true] (fun _ => []) (fun _ => bx (γ141 0) (#[.int .i64 now, .slice q999 m999 cq999, .slice (some ⟨g1388, 0, none⟩) (na + 1) cq1267]) 27 :: bx (γ3 1) (#[.int .i64 0, .slice none 0 0, .slice none 0 0]) 27 :: bx (γ3 0) (#[.int .i64 now, .slice p n cap, .slice pa na ca]) 27 :: bx (γ1 3) (#[.int .i64 0, .slice none 0 0, .slice none 0 0]) 27 :: bx (γ1 2) (#[.int .i64 at_]) 2 :: bx (γ1 1) (#[.int .i64 x.vcpu, .int .i64 x.port, .int .i64 x.every]) 32 :: bx (γ1 0) (#[.int .i64 now, .slice p n cap, .slice pa na ca]) 27 :: bx g1388 ((((cs1388).setIfInBounds (0 + (posK Alm.vcpu rs x.vcpu) * 3) (.int .i64 x.vcpu)).setIfInBounds (0 + (posK Alm.vcpu rs x.vcpu) * 3 + 1) (.int .i64 x.port)).setIfInBounds (0 + (posK Alm.vcpu rs x.vcpu) * 3 + 2) (.int .i64 x.every)) 32 :: (Y999 ++ [])) ?_ (fun hmx1 => ?_)
      rotate_left
      ·
       refine a1 7 rfl ?_
       refine mo 1 [(7, .go (ownps 7 (0 + (posK Alm.vcpu rs x.vcpu) * 3) [undef, undef, undef]))] [] (fun _ => []) (fun _ L => (L.set 7 (bx g1388 ((((cs1388).setIfInBounds (0 + (posK Alm.vcpu rs x.vcpu) * 3) (.int .i64 x.vcpu)).setIfInBounds (0 + (posK Alm.vcpu rs x.vcpu) * 3 + 1) (.int .i64 x.port)).setIfInBounds (0 + (posK Alm.vcpu rs x.vcpu) * 3 + 2) (.int .i64 x.every)) 32))) (fun _ => [0 + (posK Alm.vcpu rs x.vcpu) * 3 < (cs1388).size] ++ ([0 + (posK Alm.vcpu rs x.vcpu) * 3 + 1 < ((cs1388).setIfInBounds (0 + (posK Alm.vcpu rs x.vcpu) * 3) (.int .i64 x.vcpu)).size] ++ ([0 + (posK Alm.vcpu rs x.vcpu) * 3 + 2 < (((cs1388).setIfInBounds (0 + (posK Alm.vcpu rs x.vcpu) * 3) (.int .i64 x.vcpu)).setIfInBounds (0 + (posK Alm.vcpu rs x.vcpu) * 3 + 1) (.int .i64 x.port)).size]))) (fun _ => (alA (al1 (by exact hOw1388.room hO1267.len hx1389 (f := 0) (by decide))) (alA (al1 (by simp only [Array.size_setIfInBounds]; exact hOw1388.room hO1267.len hx1389 (f := 1) (by decide))) (al1 (by simp only [Array.size_setIfInBounds]; exact hOw1388.room hO1267.len hx1389 (f := 2) (by decide)))))) (fun _ => ?_)
       refine od_ ?_
       exact wk (hmx1 () trivial) [] [[_], [_], [_], [_], [_], [_], [_], [_], _] [0, 1, 2, 3, 4, 5, 6, 7, 8] rfl rfl
      rintro _ _
      refine any_nil (by kernel_rfl) ?_
      refine ds_ (sq_ (qa0 [] [] [(4, .int .i64 0)] (ds_ (bk ([]) (.int .i64 0) (qo0 1 [] [6, 9] [(10, .int .i64 0)] (on_ (ds_ (sq_ (qa0 [] [6, 9, 10] [(36, .bool false)] (ds_ (f_ (at_skip (ds_ (sq_ (ma0 [(0, .go (owns 0 0 3)), (1, .go (owns 1 0 3))] [6] (fun _ => [(7, .int .i64 0)]) (fun _ L => (L.set 1 (bx (γ3 1) (#[.int .i64 now, .slice q999 m999 cq999, .slice (some ⟨g1388, 0, none⟩) (na + 1) cq1267]) 27))) (fun _ => ds_ (bk (owns 1 0 3) (.tuple #[.agg #[.int .i64 now, .slice q999 m999 cq999, .slice (some ⟨g1388, 0, none⟩) (na + 1) cq1267], .int .i64 0]) (mo0 4 [(7, .go (owns 3 0 3))] [6] (fun _ => [(7, .int .i64 0)]) (fun _ L => (L.set 3 (bx (γ1 3) (#[.int .i64 now, .slice q999 m999 cq999, .slice (some ⟨g1388, 0, none⟩) (na + 1) cq1267]) 27))) (fun _ => on_ (ds_ (rt (owns 3 0 3) (.tuple #[.agg #[.int .i64 now, .slice q999 m999 cq999, .slice (some ⟨g1388, 0, none⟩) (na + 1) cq1267], .int .i64 0]) ?_)))))))))))))))))))))
      exact fun w' hw => by rw [startV_ins q5 q231 (of_decide_eq_true q522) ha1101]; exact ⟨_, _, _, _, _, _, _, _, rfl, hO999, (SlO.ofOwn (hOw1388.putAll (x' := x) hO1267.len hx1389) (len_set hO1267.len)), hw.below, two_tails (Hs.pick [[bx (γ141 0) (#[.int .i64 now, .slice q999 m999 cq999, .slice (some ⟨g1388, 0, none⟩) (na + 1) cq1267]) 27], [bx (γ3 1) (#[.int .i64 now, .slice q999 m999 cq999, .slice (some ⟨g1388, 0, none⟩) (na + 1) cq1267]) 27], [bx (γ3 0) (#[.int .i64 now, .slice p n cap, .slice pa na ca]) 27], [bx (γ1 3) (#[.int .i64 now, .slice q999 m999 cq999, .slice (some ⟨g1388, 0, none⟩) (na + 1) cq1267]) 27], [bx (γ1 2) (#[.int .i64 at_]) 2], [bx (γ1 1) (#[.int .i64 x.vcpu, .int .i64 x.port, .int .i64 x.every]) 32], [bx (γ1 0) (#[.int .i64 now, .slice p n cap, .slice pa na ca]) 27], [bx g1388 ((((cs1388).setIfInBounds (0 + (posK Alm.vcpu rs x.vcpu) * 3) (.int .i64 x.vcpu)).setIfInBounds (0 + (posK Alm.vcpu rs x.vcpu) * 3 + 1) (.int .i64 x.port)).setIfInBounds (0 + (posK Alm.vcpu rs x.vcpu) * 3 + 2) (.int .i64 x.every)) 32], Y999] [8, 7] [0, 1, 2, 3, 4, 5, 6] (by kernel_rfl) hw)⟩
     ·
      have hp_z1101 := pos_getK (al_iff.1 q5).rr ha1101
      have hl_z1101 := (List.getElem?_eq_some_iff.1 hp_z1101).1
      have hz_z1101 := getK_mem ha1101
      refine cK (.tuple #[.int .i64 ((posK Alm.vcpu rs x.vcpu : Nat)), .bool true]) (fun args w => Tryz.call30 args w) (fun w hw => by have := atg_t q101 na cq101 rs x.vcpu w (hO101.atN (A := (_ :: _ :: _ :: _ :: _ :: _ :: _ :: Y999)) hw) hO101.len (by omega) (al_iff.1 q5).rr (al_iff.1 q5).al (by omega) (by omega); rw [hasK_some ha1101] at this; exact this) ?_
      refine cm 5 [] [0, 1] [(5, .int .i64 ((posK Alm.vcpu rs x.vcpu : Nat))), (6, .bool true)] ([]) (by kernel_rfl) rfl al0 ?_
      refine calm_nil' ?_
      refine ds_ (sq_ (sq_ (qa0 [] [0, 1, 5] [(30, .bool false)] (ds_ (f_ (at_skip (ds_ (sq_ (At.pick [[bx (γ141 0) (#[.int .i64 now, .slice q999 m999 cq999, .slice q101 na cq101]) 27], [bx (γ3 1) (#[.int .i64 0, .slice none 0 0, .slice none 0 0]) 27], [bx (γ3 0) (#[.int .i64 now, .slice p n cap, .slice pa na ca]) 27], [bx (γ1 3) (#[.int .i64 0, .slice none 0 0, .slice none 0 0]) 27], [bx (γ1 2) (#[.int .i64 at_]) 2], [bx (γ1 1) (#[.int .i64 x.vcpu, .int .i64 x.port, .int .i64 x.every]) 32], [bx (γ1 0) (#[.int .i64 now, .slice p n cap, .slice pa na ca]) 27], Y999, Y101] [0, 1, 2, 3, 4, 5, 6, 8, 7] [] (bx (γ141 0) (#[.int .i64 now, .slice q999 m999 cq999, .slice q101 na cq101]) 27 :: bx (γ3 1) (#[.int .i64 0, .slice none 0 0, .slice none 0 0]) 27 :: bx (γ3 0) (#[.int .i64 now, .slice p n cap, .slice pa na ca]) 27 :: bx (γ1 3) (#[.int .i64 0, .slice none 0 0, .slice none 0 0]) 27 :: bx (γ1 2) (#[.int .i64 at_]) 2 :: bx (γ1 1) (#[.int .i64 x.vcpu, .int .i64 x.port, .int .i64 x.every]) 32 :: bx (γ1 0) (#[.int .i64 now, .slice p n cap, .slice pa na ca]) 27 :: (Y101 ++ (Y999 ++ []))) (by kernel_rfl) rfl rfl ?_)))))))))
      have hln1599 := hO101.len
      obtain ⟨g1599, cs1599, rfl, rfl, hOw1599⟩ := hO101.rowOf (i := posK Alm.vcpu rs x.vcpu) (by omega)
      refine at_calmTo (f := 1) 7 rfl (by kernel_rfl) (by kernel_rfl) (by kernel_rfl) (by kernel_rfl) (by kernel_rfl) (by kernel_rfl) ?_
      refine cm 7 [(3, .go (owns 0 2 1)), (5, .go (owns 5 0 3)), (6, .at g1599 0 (posK Alm.vcpu rs x.vcpu))] [] [(47, .agg #[.int .i64 x.vcpu, .int .i64 x.port, .int .i64 x.every]), (48, .pointer (some ⟨g1599, 0 + (posK Alm.vcpu rs x.vcpu) * 3, none⟩))] ([(some ⟨g1599, 0, none⟩ : Option Addr) = some ⟨g1599, 0, none⟩, ((posK Alm.vcpu rs x.vcpu : Nat)) = ((posK Alm.vcpu rs x.vcpu : Nat) : Int), posK Alm.vcpu rs x.vcpu < na]) (by kernel_rfl) rfl (al2 rfl (al2 rfl (al1 (by omega)))) ?_
      refine calm_nil' ?_
      refine done_pre (li' := #[true, true, true, true, true, true, true, false]) (by kernel_rfl) ?_
      refine any_cutX (V := Unit) (fun _ => True) 0 #[true, true, true, true, true, true, true, true] (fun _ => []) (fun _ => bx (γ141 0) (#[.int .i64 now, .slice q999 m999 cq999, .slice (some ⟨g1599, 0, none⟩) na cq101]) 27 :: bx (γ3 1) (#[.int .i64 0, .slice none 0 0, .slice none 0 0]) 27 :: bx (γ3 0) (#[.int .i64 now, .slice p n cap, .slice pa na ca]) 27 :: bx (γ1 3) (#[.int .i64 0, .slice none 0 0, .slice none 0 0]) 27 :: bx (γ1 2) (#[.int .i64 at_]) 2 :: bx (γ1 1) (#[.int .i64 x.vcpu, .int .i64 x.port, .int .i64 x.every]) 32 :: bx (γ1 0) (#[.int .i64 now, .slice p n cap, .slice pa na ca]) 27 :: bx g1599 ((((cs1599).setIfInBounds (0 + (posK Alm.vcpu rs x.vcpu) * 3) (.int .i64 x.vcpu)).setIfInBounds (0 + (posK Alm.vcpu rs x.vcpu) * 3 + 1) (.int .i64 x.port)).setIfInBounds (0 + (posK Alm.vcpu rs x.vcpu) * 3 + 2) (.int .i64 x.every)) 32 :: (Y999 ++ [])) ?_ (fun hmx1 => ?_)
      rotate_left
      ·
       refine a1 7 rfl ?_
       refine mo 1 [(7, .go (ownps 7 (0 + (posK Alm.vcpu rs x.vcpu) * 3) [undef, undef, undef]))] [] (fun _ => []) (fun _ L => (L.set 7 (bx g1599 ((((cs1599).setIfInBounds (0 + (posK Alm.vcpu rs x.vcpu) * 3) (.int .i64 x.vcpu)).setIfInBounds (0 + (posK Alm.vcpu rs x.vcpu) * 3 + 1) (.int .i64 x.port)).setIfInBounds (0 + (posK Alm.vcpu rs x.vcpu) * 3 + 2) (.int .i64 x.every)) 32))) (fun _ => [0 + (posK Alm.vcpu rs x.vcpu) * 3 < (cs1599).size] ++ ([0 + (posK Alm.vcpu rs x.vcpu) * 3 + 1 < ((cs1599).setIfInBounds (0 + (posK Alm.vcpu rs x.vcpu) * 3) (.int .i64 x.vcpu)).size] ++ ([0 + (posK Alm.vcpu rs x.vcpu) * 3 + 2 < (((cs1599).setIfInBounds (0 + (posK Alm.vcpu rs x.vcpu) * 3) (.int .i64 x.vcpu)).setIfInBounds (0 + (posK Alm.vcpu rs x.vcpu) * 3 + 1) (.int .i64 x.port)).size]))) (fun _ => (alA (al1 (by exact hOw1599.room hO101.len hp_z1101 (f := 0) (by decide))) (alA (al1 (by simp only [Array.size_setIfInBounds]; exact hOw1599.room hO101.len hp_z1101 (f := 1) (by decide))) (al1 (by simp only [Array.size_setIfInBounds]; exact hOw1599.room hO101.len hp_z1101 (f := 2) (by decide)))))) (fun _ => ?_)
       refine od_ ?_
       exact wk (hmx1 () trivial) [] [[_], [_], [_], [_], [_], [_], [_], [_], _] [0, 1, 2, 3, 4, 5, 6, 7, 8] rfl rfl
      rintro _ _
      refine any_nil (by kernel_rfl) ?_
      refine ds_ (sq_ (qa0 [] [] [(4, .int .i64 0)] (ds_ (bk ([]) (.int .i64 0) (qo0 1 [] [6, 9] [(10, .int .i64 0)] (on_ (ds_ (sq_ (qa0 [] [6, 9, 10] [(36, .bool false)] (ds_ (f_ (at_skip (ds_ (sq_ (ma0 [(0, .go (owns 0 0 3)), (1, .go (owns 1 0 3))] [6] (fun _ => [(7, .int .i64 0)]) (fun _ L => (L.set 1 (bx (γ3 1) (#[.int .i64 now, .slice q999 m999 cq999, .slice (some ⟨g1599, 0, none⟩) na cq101]) 27))) (fun _ => ds_ (bk (owns 1 0 3) (.tuple #[.agg #[.int .i64 now, .slice q999 m999 cq999, .slice (some ⟨g1599, 0, none⟩) na cq101], .int .i64 0]) (mo0 4 [(7, .go (owns 3 0 3))] [6] (fun _ => [(7, .int .i64 0)]) (fun _ L => (L.set 3 (bx (γ1 3) (#[.int .i64 now, .slice q999 m999 cq999, .slice (some ⟨g1599, 0, none⟩) na cq101]) 27))) (fun _ => on_ (ds_ (rt (owns 3 0 3) (.tuple #[.agg #[.int .i64 now, .slice q999 m999 cq999, .slice (some ⟨g1599, 0, none⟩) na cq101], .int .i64 0]) ?_)))))))))))))))))))))
      exact fun w' hw => by rw [startV_put q5 q231 (of_decide_eq_true q522) ha1101]; exact ⟨_, _, _, _, _, _, _, _, rfl, hO999, (SlO.ofOwn (hOw1599.putAll (x' := x) hO101.len hp_z1101) (len_set hO101.len)), hw.below, two_tails (Hs.pick [[bx (γ141 0) (#[.int .i64 now, .slice q999 m999 cq999, .slice (some ⟨g1599, 0, none⟩) na cq101]) 27], [bx (γ3 1) (#[.int .i64 now, .slice q999 m999 cq999, .slice (some ⟨g1599, 0, none⟩) na cq101]) 27], [bx (γ3 0) (#[.int .i64 now, .slice p n cap, .slice pa na ca]) 27], [bx (γ1 3) (#[.int .i64 now, .slice q999 m999 cq999, .slice (some ⟨g1599, 0, none⟩) na cq101]) 27], [bx (γ1 2) (#[.int .i64 at_]) 2], [bx (γ1 1) (#[.int .i64 x.vcpu, .int .i64 x.port, .int .i64 x.every]) 32], [bx (γ1 0) (#[.int .i64 now, .slice p n cap, .slice pa na ca]) 27], [bx g1599 ((((cs1599).setIfInBounds (0 + (posK Alm.vcpu rs x.vcpu) * 3) (.int .i64 x.vcpu)).setIfInBounds (0 + (posK Alm.vcpu rs x.vcpu) * 3 + 1) (.int .i64 x.port)).setIfInBounds (0 + (posK Alm.vcpu rs x.vcpu) * 3 + 2) (.int .i64 x.every)) 32], Y999] [8, 7] [0, 1, 2, 3, 4, 5, 6] (by kernel_rfl) hw)⟩
end Go.Proofs.YtdbamgbgnpadjaaGreat
