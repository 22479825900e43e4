/- Texts of this proof, one behind the other. -/
import Derived.Test.YtdbamgbgnpadjaaZb
import Derived.Test.YtdbamgbgnpadjaaZa
/-! Alarms: slices.Clone, Insert, DeleteFunc. -/
namespace Go.Proofs.Ytdbamgbgnpadjaa
open Go Go.RowKit

set_option maxRecDepth 100000 in
theorem aclone_t (p : Option Addr) (n cap : Nat) (l : List Alm) (w : World)
    (hsl : Sv w p l) (hn : n = l.length) (hb : n ≤ 1000)
    : Calls Try.prog 60 #[.slice p n cap] w fun e w' => ∃ q capq Y, e = .returned (.slice q n capq) ∧ SlO 47 Y q n capq l ∧ Below w.heap.size w w' ∧ Hs w Y w' := by
  refine enter (Hs.start w) Try.func60 rfl Try.ntmps60 rfl (sq_ (qa0 [] [0] [] (ds_ (sq_ (sq_ ?_)))))
  rcases p with _ | a3
  ·
    refine qa0 [] [0] [(4, .bool true)] (ds_ (t_ (sq_ (qa0 [] [] [(2, .slice none 0 0)] (ds_ (rt ([]) (.slice none 0 0) ?_))))))
    exact fun w' hw => ⟨none, 0, [], by rw [hn, hsl.none]; rfl, by rw [hn, hsl.none]; exact SlO.nil, hw.below, hw.sub (List.nil_sublist _)⟩
  ·
    refine qa0 [] [0] [(4, .bool false)] (ds_ (f_ (at_skip (ds_ (sq_ (ao_ (mo0 2 [] [] (fun γ7 => [(5, .slice (some ⟨γ7 0, 0, none⟩) 0 0), (6, .slice (some a3) n cap)]) (fun γ7 L => bx (γ7 0) (#[]) 47 :: L) (fun γ7 => ops_append (α := Alm) [] ([bx (γ7 0) (#[]) 47]) ([]) (mvE rfl) rfl (by kernel_rfl) (by kernel_rfl) (p := (some ⟨γ7 0, 0, none⟩)) (n := 0) (cap := 0) (m := n) (yv := .slice (some a3) n cap) (by kernel_rfl) (by kernel_rfl) (T := 47) (by_ := 24) (by kernel_rfl) ([]) l (SlO.lit (by rfl) (by rfl) (by simp [maxLen])) (fun w hw => src_svn Try.underlying25 (hsl.kept hw.below) hn) hn (by have hmx : maxLen = 9223372036854775807 := rfl; omega) (by have hmx : maxLen = 9223372036854775807 := rfl; omega) (fun Y8 p8 cap8 hO8 => qo0 1 [] [] [(2, .slice p8 (0 + n) cap8)] (on_ (ds_ (rt ([]) (.slice p8 (0 + n) cap8) ?_))))))))))))
    exact fun w' hw => ⟨_, _, _, by rw [Nat.zero_add], by simpa using hO8, hw.below, ((hw.tailN 0).sub (List.sublist_append_left Y8 ([])))⟩
set_option maxRecDepth 100000 in
theorem overlaps_findA : Extern.find Try.f71 = some (Extern.SlicesOverlaps.overlaps Try.f71.params Try.f71.resultTypes) := by kernel_rfl
set_option maxRecDepth 100000 in
theorem overlaps_nextA : Extern.findNext Try.f71 = none := by kernel_rfl
theorem overlaps_noA {w : World} {g1 o1 g2 o2 m n c1 c2 : Nat} {cs1 cs2 : Array Value} {T1 T2 : TypeId} (h1 : w.heap[g1]? = some (.cells cs1 T1 (0, 0))) (h2 : w.heap[g2]? = some (.cells cs2 T2 (0, 0))) (hne : g1 ≠ g2) :
    (callFunc 71 #[.slice (some ⟨g1, o1, none⟩) m c1, .slice (some ⟨g2, o2, none⟩) n c2]).run Try.prog w = .ok (.value (.bool false)) w := by
  have hf := Try.func71
  have hn : (Try.f71.name == "runtime.NumGoroutine") = false := by kernel_rfl
  have hb : Try.f71.body.isNone = true := by kernel_rfl
  have hp : Try.f71.params[0]? = some 25 := by kernel_rfl
  have hu := Try.underlying25
  obtain ⟨ht', inf, z', hi, hz', _, hks, hby⟩ := elemB_spec (show elemB Try.prog 25 47 3 24 = true by kernel_rfl)
  have hs : inf.size = 3 := by omega
  have s1 : w.shape? g1 = some (T1, cs1.size) := by simp [World.shape?, h1]
  have s2 : w.shape? g2 = some (T2, cs2.size) := by simp [World.shape?, h2]
  have f1 : ∀ j, w.frozen? ⟨g1, j, none⟩ = false := fun j => froz_own h1 j
  have f2 : ∀ j, w.frozen? ⟨g2, j, none⟩ = false := fun j => froz_own h2 j
  have run1 : ∀ args, (callFunc 71 args).run Try.prog w = ((Extern.SlicesOverlaps.overlaps Try.f71.params Try.f71.resultTypes args).run Try.prog w).andThen fun v w' => .ok (.value v) w' := fun args => by
    simp only [callFunc, Sem.run_bind, run_program, Result.andThen_ok, hf, hn, hb, overlaps_nextA, overlaps_findA]
    simp [mark, Sem.run, Sem.run_bind]
  rw [run1]
  have hne' : (g1 == g2) = false := by simpa using hne
  have hs' : (do let i ← typeInfo 47; pure i.size : Sem Nat).run Try.prog w = .ok 3 w := by simp [typeInfo, hi, hs]
  delta Extern.SlicesOverlaps.overlaps
  conv => lhs; arg 1; arg 2; whnf
  have hu' : Try.prog.underlying (Try.f71.params[0]'(by decide)) = some (.slice 47) := by kernel_rfl
  have sb : ∀ (α β : Type) (x : Sem α) (f : α → Sem β) (P : Program) (w : World), (x.bind f).run P w = (x.run P w).andThen fun a w' => (f a).run P w' := fun α β x f P w => Sem.run_bind' P x f w
  by_cases hm : m = 0 ∨ n = 0 ∨ inf.size = 0
  · simp [Sem.run, sb, hu', sizeOf, typeInfo, hi, hm]
  · simp [Sem.run, sb, hu', sizeOf, typeInfo, hi, hm, bne, hne', hne, noView, viewAt, mayBeOne, stringish, shape, frozen, s1, s2, f1, f2]

set_option maxRecDepth 100000 in
theorem ainsert_t (w0 : World) (X Y : List Ob) (p : Option Addr) (n cap : Nat) (l : List Alm) (i gv : Nat) (cv : Array Value) (m : Nat) (vl : List Alm) (w : World)
    (hH : Hs w0 (bx gv cv 47 :: (Y ++ X)) w) (hO : SlO 47 Y p n cap l) (hcv : cv.toList = vl.flatMap Enc.enc) (hm : m = vl.length) (hm0 : 0 < m) (hi : i ≤ n) (hb : n ≤ 1000) (hmb : m ≤ 1000)
    : Calls Try.prog 50 #[.slice p n cap, .int .i64 (i : Nat), .slice (some ⟨gv, 0, none⟩) m m] w fun e w' => ∃ q capq Y', e = .returned (.slice q (n + m) capq) ∧ SlO 47 Y' q (n + m) capq (l.take i ++ vl ++ l.drop i) ∧ Hs w0 (Y' ++ X) w' := by
  have hn := hO.len
  refine enter hH Try.func50 rfl Try.ntmps50 rfl (sq_ (qa0 [] [0, 1, 2] [] (ds_ (sq_ (qa [(2, .sl (.slice (if cap = i then p else p.map (·.add (i * 3))) (n - i) (cap - i)))] [0, 1, 2] [] ([SlRun Try.prog 25 (.slice p n cap) (some (.int .i64 ((i : Nat)))) none none (.slice (if cap = i then p else p.map (·.add (i * 3))) (n - i) (cap - i))]) (al1 (slE_cut (P := Try.prog) (T := 25) (e := 47) (k := 3) (by_ := 24) (by kernel_rfl) hi)) (ds_ (sq_ (qa0 [] [0, 1, 2] [(7, .int .i64 ((m : Nat)))] (ds_ (sq_ (sq_ (qa [(1, .no)] [0, 1, 2, 7] [(16, .bool false)] ([¬ (((m : Nat) : Int) = (0 : Int))]) (al1 ((by omega))) (ds_ (f_ (at_skip (ds_ (sq_ (qa0 [] [0, 1, 2, 7] [(8, .int .i64 ((n : Nat)))] (ds_ (sq_ (sq_ ?_)))))))))))))))))))))
  by_cases q7 : ((i : Nat) : Int) = ((n : Nat) : Int)
  ·
    refine qa [(2, .yes)] [0, 1, 2, 7, 8] [(22, .bool true)] ([((i : Nat) : Int) = ((n : Nat) : Int)]) (al1 q7) (ds_ (t_ (sq_ (ao_ (qo0 2 [] [] [(23, .slice p n cap), (24, .slice (some ⟨gv, 0, none⟩) m m)] (ops_append (α := Alm) [bx gv cv 47] Y X (.refl _) rfl (by kernel_rfl) (by kernel_rfl) (p := p) (n := n) (cap := cap) (m := m) (yv := .slice (some ⟨gv, 0, none⟩) m m) (by kernel_rfl) (by kernel_rfl) (T := 47) (by_ := 24) (by kernel_rfl) l vl hO (fun w hw => src_svn Try.underlying25 (sv_row (hw.row 0 rfl) hcv) hm) hm (by have hmx : maxLen = 9223372036854775807 := rfl; omega) (by have hmx : maxLen = 9223372036854775807 := rfl; omega) (fun Y10 p10 cap10 hO10 => qo0 1 [] [] [(6, .slice p10 (n + m) cap10)] (on_ (ds_ (rt ([]) (.slice p10 (n + m) cap10) ?_))))))))))
    exact fun w' hw => ⟨_, _, _, rfl, by rw [show i = l.length by omega, List.take_length, List.drop_length, List.append_nil]; exact hO10, hw.tailN 1⟩
  ·
    refine qa [(2, .no)] [0, 1, 2, 7, 8] [(22, .bool false)] ([¬ (((i : Nat) : Int) = ((n : Nat) : Int))]) (al1 q7) (ds_ (f_ (at_skip (ds_ (sq_ (sq_ ?_))))))
    obtain ⟨g, cs, rfl, rfl, hOw⟩ := hO.rowOf (i := i) (by omega)
    have hcap := hOw.le
    have hcs := hOw.csz
    have hmax := hOw.max
    by_cases q15 : ((n + m : Nat) : Int) > ((cap : Nat) : Int)
    ·
      refine qa [(2, .fit), (5, .yes)] [0, 1, 2, 7, 8] [(31, .bool true)] ([Fit .i64 ((n + m : Nat))] ++ ([((n + m : Nat) : Int) > ((cap : Nat) : Int)])) (alA (al1 (fit64 (by omega) (by omega))) (al1 q15)) (ds_ (t_ (sq_ (ao_ (qo 8 [(2, .sl (.slice (some ⟨g, 0, none⟩) i cap)), (5, .fit), (7, .is [] (.int .i64 ((n + m - i : Nat))))] [0, 1, 2, 7] [(34, .slice (some ⟨g, 0, none⟩) i cap), (39, .int .i64 ((n + m - i : Nat)))] ([SlRun Try.prog 25 (.slice (some ⟨g, 0, none⟩) n cap) none (some (.int .i64 ((i : Nat)))) none (.slice (some ⟨g, 0, none⟩) i cap)] ++ ([Fit .i64 ((n + m : Nat))] ++ ([Value.int .i64 (IntKind.i64.wrap ((((n + m : Nat)) : Int) - ((i : Nat) : Int))) = .int .i64 ((n + m - i : Nat))]))) (alA (al1 (slE_hi (P := Try.prog) (T := 25) (e := 47) (k := 3) (by_ := 24) (by kernel_rfl) (h := i) (by omega))) (alA (al1 (fit64 (by omega) (by omega))) (al1 (by rw [wrap_fit (fit64 (by omega) (by omega))]; congr 1; omega)))) (ops_appendZ rfl (by kernel_rfl) (by kernel_rfl) (p := some ⟨g, 0, none⟩) (m := i) (cap := cap) (n := n + m - i) ((cs.toList.drop 0).take (i * 3)) (by kernel_rfl) (by kernel_rfl) (T := 47) (ks := 3) (by_ := 24) (by kernel_rfl) Try.underlying3 (by decide) (olds_len hcs (by omega)) (fun w hw => first_row (hw.row 1 rfl) (by rw [hcs, Nat.zero_add]; exact Nat.mul_le_mul_right _ (by omega))) (by omega) (by omega) (by simp only [maxLen]; omega) (by omega) (fun g2 c2 cap2 hc2 hle2 hmax2 hpre2 => qo0 1 [] [0, 1, 2, 7] [(9, .slice (some ⟨g2, 0, none⟩) (i + (n + m - i)) cap2)] (on_ (ds_ (sq_ (ao_ (qo 4 [(2, .sl (.slice (some ⟨g2, 0 + i * 3, none⟩) (i + (n + m - i) - i) (cap2 - i)))] [0, 1, 7, 9] [(43, .slice (some ⟨g2, 0 + i * 3, none⟩) (i + (n + m - i) - i) (cap2 - i)), (44, .slice (some ⟨gv, 0, none⟩) m m)] ([SlRun Try.prog 25 (.slice (some ⟨g2, 0, none⟩) (i + (n + m - i)) cap2) (some (.int .i64 ((i : Nat)))) none none (.slice (some ⟨g2, 0 + i * 3, none⟩) (i + (n + m - i) - i) (cap2 - i))]) (al1 (slE_lo (P := Try.prog) (T := 25) (e := 47) (k := 3) (by_ := 24) (by kernel_rfl) (lo := i) (by omega) (by omega))) (ops_copy 0 rfl (by kernel_rfl) (by kernel_rfl) (g := g2) (of := (0 + i * 3)) (dn := (i + (n + m - i) - i)) (dc := (cap2 - i)) (m := m) (cnt := m) (c := c2) (yv := (.slice (some ⟨gv, 0, none⟩) m m)) (vl.flatMap Enc.enc) (by kernel_rfl) (by kernel_rfl) (T := 47) (ks := 3) (by_ := 24) (by kernel_rfl) (T' := 47) (by kernel_rfl) len_slice (by omega) (fun w hw => by have := first_sv (P := Try.prog) (w := w) (p := some ⟨gv, 0, none⟩) (m := m) (cap := m) (cnt := m) (sv_row (hw.row 1 rfl) hcv) (by omega); rw [List.take_of_length_le (by omega)] at this; exact this) (by rw [flat_len, ← hm]; exact mul_room (c := cap2) (by omega) hc2) (flat_one vl) ?_)))))))))))))
      refine on_ (ds_ (sq_ ?_))
      refine at_any (by kernel_rfl) ?_
      refine tk (m := 3) [0, 1, 2, 3, 5, 6] [(3, .fit)] [9] [(46, .slice (some ⟨g2, 0, none⟩) (i + (n + m - i)) cap2), (49, .int .i64 ((i + m : Nat))), (51, .slice (some ⟨g, 0, none⟩) n cap), (52, .int .i64 ((i : Nat)))] ([Fit .i64 ((i + m : Nat))]) #[true, true, true, true, false, true, true, false, false] (al1 (fit64 (by omega) (by omega))) ?_
      refine any_cut 1 #[true, true, true, true, true, true, true, true, false] ([(9, .slice (some ⟨g2, 0, none⟩) (i + (n + m - i)) cap2), (50, .slice (some ⟨g2, 0 + (i + m) * 3, none⟩) (i + (n + m - i) - (i + m)) (cap2 - (i + m))), (53, .slice (some ⟨g, 0 + i * 3, none⟩) (n - i) (cap - i))]) (bx g2 ((sets c2 (0 + i * 3) (vl.flatMap Enc.enc))) 47 :: bx gv cv 47 :: bx g cs 47 :: X) ?_ (fun hm => ?_)
      rotate_left
      ·
        refine any_fork [4, 7] (by kernel_rfl) (by simp) (each_cons _ rfl ?_ (each_cons _ rfl ?_ (each_nil)))
        ·
          refine qo 1 [(4, .sl (.slice (some ⟨g2, 0 + (i + m) * 3, none⟩) (i + (n + m - i) - (i + m)) (cap2 - (i + m))))] [9, 51, 52] [(50, .slice (some ⟨g2, 0 + (i + m) * 3, none⟩) (i + (n + m - i) - (i + m)) (cap2 - (i + m)))] ([SlRun Try.prog 25 (.slice (some ⟨g2, 0, none⟩) (i + (n + m - i)) cap2) (some (.int .i64 ((i + m : Nat)))) none none (.slice (some ⟨g2, 0 + (i + m) * 3, none⟩) (i + (n + m - i) - (i + m)) (cap2 - (i + m)))]) (al1 (slE_lo (P := Try.prog) (T := 25) (e := 47) (k := 3) (by_ := 24) (by kernel_rfl) (lo := i + m) (by omega) (by omega))) ?_
          refine od_ ?_
          refine a1 7 rfl ?_
          refine qo 1 [(7, .sl (.slice (some ⟨g, 0 + i * 3, none⟩) (n - i) (cap - i)))] [9, 50] [(53, .slice (some ⟨g, 0 + i * 3, none⟩) (n - i) (cap - i))] ([SlRun Try.prog 25 (.slice (some ⟨g, 0, none⟩) n cap) (some (.int .i64 ((i : Nat)))) none none (.slice (some ⟨g, 0 + i * 3, none⟩) (n - i) (cap - i))]) (al1 (slE_lo (P := Try.prog) (T := 25) (e := 47) (k := 3) (by_ := 24) (by kernel_rfl) (lo := i) (by omega) (by omega))) ?_
          refine od_ ?_
          exact any_weak hm [9, 50, 53] (by kernel_rfl) rfl rfl rfl
        ·
          refine qo 1 [(7, .sl (.slice (some ⟨g, 0 + i * 3, none⟩) (n - i) (cap - i)))] [9, 46, 49] [(53, .slice (some ⟨g, 0 + i * 3, none⟩) (n - i) (cap - i))] ([SlRun Try.prog 25 (.slice (some ⟨g, 0, none⟩) n cap) (some (.int .i64 ((i : Nat)))) none none (.slice (some ⟨g, 0 + i * 3, none⟩) (n - i) (cap - i))]) (al1 (slE_lo (P := Try.prog) (T := 25) (e := 47) (k := 3) (by_ := 24) (by kernel_rfl) (lo := i) (by omega) (by omega))) ?_
          refine od_ ?_
          refine a1 4 rfl ?_
          refine qo 1 [(4, .sl (.slice (some ⟨g2, 0 + (i + m) * 3, none⟩) (i + (n + m - i) - (i + m)) (cap2 - (i + m))))] [9, 53] [(50, .slice (some ⟨g2, 0 + (i + m) * 3, none⟩) (i + (n + m - i) - (i + m)) (cap2 - (i + m)))] ([SlRun Try.prog 25 (.slice (some ⟨g2, 0, none⟩) (i + (n + m - i)) cap2) (some (.int .i64 ((i + m : Nat)))) none none (.slice (some ⟨g2, 0 + (i + m) * 3, none⟩) (i + (n + m - i) - (i + m)) (cap2 - (i + m)))]) (al1 (slE_lo (P := Try.prog) (T := 25) (e := 47) (k := 3) (by_ := 24) (by kernel_rfl) (lo := i + m) (by omega) (by omega))) ?_
          refine od_ ?_
          exact any_weak hm [9, 50, 53] (by kernel_rfl) rfl rfl rfl
      refine a1 8 rfl ?_
      refine ops_copy 0 rfl (by kernel_rfl) (by kernel_rfl) (g := g2) (of := (0 + (i + m) * 3)) (dn := (i + (n + m - i) - (i + m))) (dc := (cap2 - (i + m))) (m := (n - i)) (cnt := (n - i)) (c := ((sets c2 (0 + i * 3) (vl.flatMap Enc.enc)))) (yv := (.slice (some ⟨g, 0 + i * 3, none⟩) (n - i) (cap - i))) ((cs.toList.drop (0 + i * 3)).take ((n - i) * 3)) (by kernel_rfl) (by kernel_rfl) (T := 47) (ks := 3) (by_ := 24) (by kernel_rfl) (T' := 47) (by kernel_rfl) len_slice (by omega) (fun w hw => first_row (hw.row 2 rfl) (row_room hOw (by omega))) (by rw [sets_size]; exact copy_room (c := cap2) hOw (by omega) (by omega) hc2) (row_one hOw (by omega)) ?_
      refine od_ ?_
      refine any_nil (by kernel_rfl) ?_
      refine ds_ (sq_ (qa0 [] [] [(6, .slice (some ⟨g2, 0, none⟩) (i + (n + m - i)) cap2)] (ds_ (rt ([]) (.slice (some ⟨g2, 0, none⟩) (i + (n + m - i)) cap2) ?_))))
      exact fun w' hw => ⟨some ⟨g2, 0, none⟩, cap2, [_], by rw [show i + (n + m - i) = n + m by omega], .inr ⟨_, _, rfl, rfl, by simp; omega, ins_grow hOw (by omega) hm (by omega) hc2 (by omega) hmax2 hpre2⟩, hw.sub (.cons_cons _ (.cons _ (.cons _ (.refl _))))⟩
    ·
      refine qa [(2, .fit), (5, .no)] [0, 1, 2, 7, 8] [(31, .bool false)] ([Fit .i64 ((n + m : Nat))] ++ ([¬ (((n + m : Nat) : Int) > ((cap : Nat) : Int))])) (alA (al1 (fit64 (by omega) (by omega))) (al1 q15)) (ds_ (f_ (at_skip (ds_ (sq_ (qa [(3, .fit), (4, .sl (.slice (some ⟨g, 0, none⟩) (n + m) cap))] [1, 2, 7, 8] [(0, .slice (some ⟨g, 0, none⟩) (n + m) cap)] ([Fit .i64 ((n + m : Nat))] ++ ([SlRun Try.prog 25 (.slice (some ⟨g, 0, none⟩) n cap) none (some (.int .i64 ((n + m : Nat)))) none (.slice (some ⟨g, 0, none⟩) (n + m) cap)])) (alA (al1 (fit64 (by omega) (by omega))) (al1 (slE_hi (P := Try.prog) (T := 25) (e := 47) (k := 3) (by_ := 24) (by kernel_rfl) (h := n + m) (by omega)))) (ds_ (sq_ (sq_ (ao_ (qo 6 [(4, .fit), (5, .sl (.slice (some ⟨g, 0 + (i + m) * 3, none⟩) (n + m - (i + m)) (cap - (i + m))))] [0, 1, 2, 7, 8] [(61, .slice (some ⟨gv, 0, none⟩) m m), (66, .slice (some ⟨g, 0 + (i + m) * 3, none⟩) (n + m - (i + m)) (cap - (i + m)))] ([Fit .i64 ((i + m : Nat))] ++ ([SlRun Try.prog 25 (.slice (some ⟨g, 0, none⟩) (n + m) cap) (some (.int .i64 ((i + m : Nat)))) none none (.slice (some ⟨g, 0 + (i + m) * 3, none⟩) (n + m - (i + m)) (cap - (i + m)))])) (alA (al1 (fit64 (by omega) (by omega))) (al1 (slE_lo (P := Try.prog) (T := 25) (e := 47) (k := 3) (by_ := 24) (by kernel_rfl) (lo := i + m) (by omega) (by omega)))) (ops_ext (f := 71) (args := #[.slice (some ⟨gv, 0, none⟩) m m, .slice (some ⟨g, 0 + (i + m) * 3, none⟩) (n + m - (i + m)) (cap - (i + m))]) (.bool false) (by kernel_rfl) (by kernel_rfl) (by kernel_rfl) (fun w hw => overlaps_noA (hw.row 0 rfl) (hw.row 1 rfl) (apart_two hw (a := 0) (b := 1) rfl rfl (by decide))) (qo0 1 [] [0, 1, 2, 7, 8] [(68, .bool true)] (on_ (ds_ (t_ (sq_ ?_)))))))))))))))))
      refine at_any (by kernel_rfl) ?_
      refine tk (m := 3) [0, 1, 2, 3, 5, 6] [(3, .fit)] [0, 1, 2] [(69, .slice (some ⟨g, 0, none⟩) (n + m) cap), (72, .int .i64 ((i + m : Nat))), (74, .slice (some ⟨g, 0, none⟩) (n + m) cap), (75, .int .i64 ((i : Nat)))] ([Fit .i64 ((i + m : Nat))]) #[true, true, true, true, false, true, true, false, false] (al1 (fit64 (by omega) (by omega))) ?_
      refine any_cut 1 #[true, true, true, true, true, true, true, true, false] ([(0, .slice (some ⟨g, 0, none⟩) (n + m) cap), (1, .int .i64 ((i : Nat))), (2, .slice (some ⟨gv, 0, none⟩) m m), (73, .slice (some ⟨g, 0 + (i + m) * 3, none⟩) (n + m - (i + m)) (cap - (i + m))), (76, .slice (some ⟨g, 0 + i * 3, none⟩) (n + m - i) (cap - i))]) (bx gv cv 47 :: bx g cs 47 :: X) ?_ (fun hm => ?_)
      rotate_left
      ·
        refine any_fork [4, 7] (by kernel_rfl) (by simp) (each_cons _ rfl ?_ (each_cons _ rfl ?_ (each_nil)))
        ·
          refine qo 1 [(4, .sl (.slice (some ⟨g, 0 + (i + m) * 3, none⟩) (n + m - (i + m)) (cap - (i + m))))] [0, 1, 2, 74, 75] [(73, .slice (some ⟨g, 0 + (i + m) * 3, none⟩) (n + m - (i + m)) (cap - (i + m)))] ([SlRun Try.prog 25 (.slice (some ⟨g, 0, none⟩) (n + m) cap) (some (.int .i64 ((i + m : Nat)))) none none (.slice (some ⟨g, 0 + (i + m) * 3, none⟩) (n + m - (i + m)) (cap - (i + m)))]) (al1 (slE_lo (P := Try.prog) (T := 25) (e := 47) (k := 3) (by_ := 24) (by kernel_rfl) (lo := i + m) (by omega) (by omega))) ?_
          refine od_ ?_
          refine a1 7 rfl ?_
          refine qo 1 [(7, .sl (.slice (some ⟨g, 0 + i * 3, none⟩) (n + m - i) (cap - i)))] [0, 1, 2, 73] [(76, .slice (some ⟨g, 0 + i * 3, none⟩) (n + m - i) (cap - i))] ([SlRun Try.prog 25 (.slice (some ⟨g, 0, none⟩) (n + m) cap) (some (.int .i64 ((i : Nat)))) none none (.slice (some ⟨g, 0 + i * 3, none⟩) (n + m - i) (cap - i))]) (al1 (slE_lo (P := Try.prog) (T := 25) (e := 47) (k := 3) (by_ := 24) (by kernel_rfl) (lo := i) (by omega) (by omega))) ?_
          refine od_ ?_
          exact any_weak hm [0, 1, 2, 73, 76] (by kernel_rfl) rfl rfl rfl
        ·
          refine qo 1 [(7, .sl (.slice (some ⟨g, 0 + i * 3, none⟩) (n + m - i) (cap - i)))] [0, 1, 2, 69, 72] [(76, .slice (some ⟨g, 0 + i * 3, none⟩) (n + m - i) (cap - i))] ([SlRun Try.prog 25 (.slice (some ⟨g, 0, none⟩) (n + m) cap) (some (.int .i64 ((i : Nat)))) none none (.slice (some ⟨g, 0 + i * 3, none⟩) (n + m - i) (cap - i))]) (al1 (slE_lo (P := Try.prog) (T := 25) (e := 47) (k := 3) (by_ := 24) (by kernel_rfl) (lo := i) (by omega) (by omega))) ?_
          refine od_ ?_
          refine a1 4 rfl ?_
          refine qo 1 [(4, .sl (.slice (some ⟨g, 0 + (i + m) * 3, none⟩) (n + m - (i + m)) (cap - (i + m))))] [0, 1, 2, 76] [(73, .slice (some ⟨g, 0 + (i + m) * 3, none⟩) (n + m - (i + m)) (cap - (i + m)))] ([SlRun Try.prog 25 (.slice (some ⟨g, 0, none⟩) (n + m) cap) (some (.int .i64 ((i + m : Nat)))) none none (.slice (some ⟨g, 0 + (i + m) * 3, none⟩) (n + m - (i + m)) (cap - (i + m)))]) (al1 (slE_lo (P := Try.prog) (T := 25) (e := 47) (k := 3) (by_ := 24) (by kernel_rfl) (lo := i + m) (by omega) (by omega))) ?_
          refine od_ ?_
          exact any_weak hm [0, 1, 2, 73, 76] (by kernel_rfl) rfl rfl rfl
      refine a1 8 rfl ?_
      refine ops_copy 1 rfl (by kernel_rfl) (by kernel_rfl) (g := g) (of := (0 + (i + m) * 3)) (dn := (n + m - (i + m))) (dc := (cap - (i + m))) (m := (n + m - i)) (cnt := (n - i)) (c := cs) (yv := (.slice (some ⟨g, 0 + i * 3, none⟩) (n + m - i) (cap - i))) ((cs.toList.drop (0 + i * 3)).take ((n - i) * 3)) (by kernel_rfl) (by kernel_rfl) (T := 47) (ks := 3) (by_ := 24) (by kernel_rfl) (T' := 47) (by kernel_rfl) len_slice (by omega) (fun w hw => first_row (hw.row 1 rfl) (row_room hOw (by omega))) (copy_room (c := cap) hOw (by omega) (by omega) hcs) (row_one hOw (by omega)) ?_
      refine od_ ?_
      refine any_nil (by kernel_rfl) ?_
      refine ds_ (sq_ (ao_ (qo 4 [(2, .sl (.slice (some ⟨g, 0 + i * 3, none⟩) (n + m - i) (cap - i)))] [0] [(80, .slice (some ⟨g, 0 + i * 3, none⟩) (n + m - i) (cap - i)), (81, .slice (some ⟨gv, 0, none⟩) m m)] ([SlRun Try.prog 25 (.slice (some ⟨g, 0, none⟩) (n + m) cap) (some (.int .i64 ((i : Nat)))) none none (.slice (some ⟨g, 0 + i * 3, none⟩) (n + m - i) (cap - i))]) (al1 (slE_lo (P := Try.prog) (T := 25) (e := 47) (k := 3) (by_ := 24) (by kernel_rfl) (lo := i) (by omega) (by omega))) (ops_copy 1 rfl (by kernel_rfl) (by kernel_rfl) (g := g) (of := (0 + i * 3)) (dn := (n + m - i)) (dc := (cap - i)) (m := m) (cnt := m) (c := ((sets cs (0 + (i + m) * 3) ((cs.toList.drop (0 + i * 3)).take ((n - i) * 3))))) (yv := (.slice (some ⟨gv, 0, none⟩) m m)) (vl.flatMap Enc.enc) (by kernel_rfl) (by kernel_rfl) (T := 47) (ks := 3) (by_ := 24) (by kernel_rfl) (T' := 47) (by kernel_rfl) len_slice (by omega) (fun w hw => by have := first_sv (P := Try.prog) (w := w) (p := some ⟨gv, 0, none⟩) (m := m) (cap := m) (cnt := m) (sv_row (hw.row 0 rfl) hcv) (by omega); rw [List.take_of_length_le (by omega)] at this; exact this) (by rw [flat_len, ← hm, sets_size]; exact mul_room (c := cap) (by omega) hcs) (flat_one vl) (on_ (ds_ (sq_ (qa0 [] [] [(6, .slice (some ⟨g, 0, none⟩) (n + m) cap)] (ds_ (rt ([]) (.slice (some ⟨g, 0, none⟩) (n + m) cap) ?_))))))))))
      exact fun w' hw => ⟨_, _, [_], rfl, .inr ⟨_, _, rfl, rfl, by simp; omega, ins_room hOw (by omega) hm (by omega) (by omega)⟩, hw.sub (.cons _ (.refl _))⟩

set_option maxRecDepth 100000 in
theorem aindexf_t (w0 : World) (X : List Ob) (pg : FuncId) (pcb : Array Value) (pd : Alm → Bool) (p : Option Addr) (n cap : Nat) (l : List Alm) (w : World)
    (he : ∀ args w, (callFunc pg args).run Try.prog w = .ok (.enter pg args) w)
    (hX : Hs w0 X w) (hsl : Sv w p l) (hn : n = l.length) (hb : n ≤ 4611686018427387903)
    (hc : ∀ x ∈ l, ∀ w', Hs w0 X w' → Calls Try.prog pg (#[.agg #[.int .i64 x.vcpu, .int .i64 x.port, .int .i64 x.every]] ++ pcb) w' fun e w1 => e = .returned (.bool (pd x)) ∧ Below w'.heap.size w' w1)
    : Calls Try.prog 84 #[.slice p n cap, .func (.func pg) #[] pcb] w fun e w' => e = .returned (.int .i64 (idxF pd l)) ∧ Below w.heap.size w w' := by
  refine enter (Hs.start w) Try.func84 rfl Try.ntmps84 rfl (sq_ (qa0 [] [0, 1] [] (ds_ (sq_ (sq_ (qa0 [] [0, 1] [(7, .int .i64 ((n : Nat))), (8, .int .i64 0)] (ds_ (at_block (at_loop (α := Nat) [0, 1, 7, 8] (fun j => [(0, .slice p n cap), (1, .func (.func pg) #[] pcb), (7, .int .i64 ((n : Nat))), (8, .int .i64 ((j : Nat)))]) (fun j => []) (fun j => j ≤ n ∧ ∀ (t : Nat) (y : Alm), t < j → l[t]? = some y → pd y = false) (fun j => n - j) 0 (by kernel_rfl) rfl ⟨Nat.zero_le _, fun t y h => by omega⟩ ?_)))))))))
  rintro j
  rintro ⟨hj, hI⟩
  refine sq_ ?_
  by_cases q4 : ((j : Nat) : Int) < ((n : Nat) : Int)
  ·
    refine qa [(0, .yes)] [0, 1, 7, 8] [(9, .bool true)] ([((j : Nat) : Int) < ((n : Nat) : Int)]) (al1 q4) (ds_ (sq_ (t_ (at_skip (ds_ (sq_ (at_block (sq_ (qa0 [] [0, 1, 7, 8] [(5, .int .i64 ((j : Nat)))] (ds_ (sq_ ?_)))))))))))
    obtain ⟨b8, o8, rfl⟩ := hsl.pos (i := j) (by omega)
    obtain ⟨x10, hx10⟩ := get_some (l := l) (m := j) (by omega)
    refine ao_ (qo 5 [(3, .at b8 o8 j), (4, .go (outs b8 (o8 + j * 3) [.int .i64 x10.vcpu, .int .i64 x10.port, .int .i64 x10.every]))] [0, 1, 5, 7, 8] [(11, .func (.func pg) #[] pcb), (15, .agg #[.int .i64 x10.vcpu, .int .i64 x10.port, .int .i64 x10.every])] ([(some ⟨b8, o8, none⟩ : Option Addr) = some ⟨b8, o8, none⟩, ((j : Nat)) = ((j : Nat) : Int), j < n] ++ (cellsP w b8 (o8 + j * 3) [.int .i64 x10.vcpu, .int .i64 x10.port, .int .i64 x10.every])) (alA (al2 rfl (al2 rfl (al1 (by omega)))) (rd_pre (hsl.get hx10) _ rfl)) ?_)
    rcases q12 : pd x10 with _ | _
    ·
      refine cD (.bool false) he (fun w hw => by have := hc x10 (List.mem_of_getElem? hx10) w (hX.kept hw.below); rw [q12] at this; exact this) (on_ (ds_ (f_ (at_skip (done_block (ds_ (qa [(0, .fit)] [0, 1, 7] [(8, .int .i64 ((j + 1 : Nat)))] ([Fit .i64 ((j + 1 : Nat))]) (al1 (fit64 (by omega) (by omega))) ?_)))))))
      exact done_round [0, 1, 7, 8] (j + 1) (by kernel_rfl) rfl ⟨by omega, fun t y ht e => by
          by_cases htj : t = j
          · subst htj; rw [hx10] at e; cases e; exact q12
          · exact hI t y (by omega) e⟩ (by first | omega | (simp only; omega))
    ·
      refine cD (.bool true) he (fun w hw => by have := hc x10 (List.mem_of_getElem? hx10) w (hX.kept hw.below); rw [q12] at this; exact this) (on_ (ds_ (t_ (sq_ (qa0 [] [] [(4, .int .i64 ((j : Nat)))] (ds_ (rt ([]) (.int .i64 ((j : Nat))) ?_)))))))
      exact fun w' hw => ⟨by rw [idxF_hit hI hx10 q12], hw.below⟩
  ·
    refine qa [(0, .no)] [0, 1, 7, 8] [(9, .bool false)] ([¬ (((j : Nat) : Int) < ((n : Nat) : Int))]) (al1 q4) (ds_ (sq_ (f_ (at_leave _ rfl (ds_ (sq_ (qa0 [] [] [(4, .int .i64 (-1))] (ds_ (rt ([]) (.int .i64 (-1)) ?_)))))))))
    exact fun w' hw => ⟨by rw [idxF_miss hI (by omega)], hw.below⟩

set_option maxRecDepth 100000 in
theorem adeletef_t (w0 : World) (X Y : List Ob) (pg : FuncId) (pcb : Array Value) (pd : Alm → Bool) (p : Option Addr) (n cap : Nat) (l : List Alm) (w : World)
    (he : ∀ args w, (callFunc pg args).run Try.prog w = .ok (.enter pg args) w)
    (hH : Hs w0 (Y ++ X) w) (hO : SlO 47 Y p n cap l) (hb : n ≤ 1000)
    (hc : ∀ x ∈ l, ∀ w', Hs w0 X w' → Calls Try.prog pg (#[.agg #[.int .i64 x.vcpu, .int .i64 x.port, .int .i64 x.every]] ++ pcb) w' fun e w1 => e = .returned (.bool (pd x)) ∧ Below w'.heap.size w' w1)
    : Calls Try.prog 73 #[.slice p n cap, .func (.func pg) #[] pcb] w fun e w' => ∃ q m capq Y', e = .returned (.slice q m capq) ∧ SlO 47 Y' q m capq (l.filter fun x => !pd x) ∧ Hs w0 (Y' ++ X) w' := by
  have hn := hO.len
  refine enter hH Try.func73 rfl Try.ntmps73 rfl (sq_ (qa0 [] [0, 1] [] (ds_ (sq_ (ao_ (qo0 2 [] [0, 1] [(8, .slice p n cap), (9, .func (.func pg) #[] pcb)] ?_))))))
  rcases idxF_cases pd l with ⟨hix, hnone⟩ | ⟨i0, x0, hix, hx0, hp0, hlow⟩
  ·
    refine cD (.int .i64 (-1)) Try.call84 (fun w hw => by have := aindexf_t w0 X pg pcb pd p n cap l w he (hw.sub (List.sublist_append_right _ _)) (hO.atN (A := []) hw) hn (by omega) hc; rw [hix] at this; exact this) (qo0 1 [] [0, 1] [(5, .int .i64 (-1))] (on_ (ds_ (sq_ (sq_ (qa0 [] [0, 1, 5] [(12, .bool true)] (ds_ (t_ (sq_ (qa0 [] [] [(4, .slice p n cap)] (ds_ (rt ([]) (.slice p n cap) ?_))))))))))))
    exact fun w' hw => ⟨_, _, _, Y, rfl, by rw [filter_none hnone]; exact hO, hw⟩
  ·
    have hi0 := (List.getElem?_eq_some_iff.1 hx0).1
    refine cD (.int .i64 ((i0 : Nat))) Try.call84 (fun w hw => by have := aindexf_t w0 X pg pcb pd p n cap l w he (hw.sub (List.sublist_append_right _ _)) (hO.atN (A := []) hw) hn (by omega) hc; rw [hix] at this; exact this) (qo0 1 [] [0, 1] [(5, .int .i64 ((i0 : Nat)))] (on_ (ds_ (sq_ (sq_ (qa [(1, .no)] [0, 1, 5] [(12, .bool false)] ([¬ (((i0 : Nat) : Int) = (-1 : Int))]) (al1 ((by omega))) (ds_ (f_ (at_skip (ds_ (sq_ (sq_ (qa [(1, .fit)] [0, 1, 5] [(6, .int .i64 ((i0 + 1 : Nat)))] ([Fit .i64 ((i0 + 1 : Nat))]) (al1 (fit64 (by omega) (by omega))) (ds_ (at_block ?_)))))))))))))))
    obtain ⟨g, cs0, rfl, rfl, hOw0⟩ := hO.rowOf (i := i0) (by omega)
    refine at_loop (α := Nat × Nat × List Alm × Array Value) [0, 1, 5, 6] (fun ⟨i, j, m, cs⟩ => [(0, .slice (some ⟨g, 0, none⟩) n cap), (1, .func (.func pg) #[] pcb), (5, .int .i64 ((i : Nat))), (6, .int .i64 ((j : Nat)))]) (fun ⟨i, j, m, cs⟩ => bx g cs 47 :: X) (fun ⟨i, j, m, cs⟩ => Dels pd l m i j ∧ OwnS (Enc.k Alm) (m.flatMap Enc.enc) n cap cs) (fun ⟨i, j, m, cs⟩ => n - j) (i0, i0 + 1, l, cs0) (by kernel_rfl) rfl ⟨Dels.start hlow hx0 hp0, hOw0⟩ ?_
    rintro ⟨i, j, m, cs⟩
    rintro ⟨hD, hOw⟩
    have hm : n = m.length := by rw [hD.len]; exact hn
    have hij := hD.lt
    have hjn := hD.le
    refine sq_ (sq_ ?_)
    by_cases q10 : ((j : Nat) : Int) < ((n : Nat) : Int)
    ·
      refine qa [(3, .yes)] [0, 1, 5, 6] [(19, .bool true)] ([((j : Nat) : Int) < ((n : Nat) : Int)]) (al1 q10) (ds_ (t_ (at_skip (ds_ (sq_ (at_block (sq_ ?_)))))))
      obtain ⟨x13, hx13⟩ := get_some (l := m) (m := j) (by omega)
      refine ma [(2, .at g 0 j), (3, .go (ownps 0 (0 + j * 3) [.int .i64 x13.vcpu, .int .i64 x13.port, .int .i64 x13.every])), (5, .go (owns 0 0 3))] [0, 1, 5, 6] (fun γ14 => [(7, .pointer (some ⟨γ14 0, 0, none⟩))]) (fun γ14 L => bx (γ14 0) (#[.int .i64 x13.vcpu, .int .i64 x13.port, .int .i64 x13.every]) 47 :: L) (fun γ14 => [(some ⟨g, 0, none⟩ : Option Addr) = some ⟨g, 0, none⟩, ((j : Nat)) = ((j : Nat) : Int), j < n] ++ (acellsP cs (0 + j * 3) [.int .i64 x13.vcpu, .int .i64 x13.port, .int .i64 x13.every])) (fun γ14 => (alA (al2 rfl (al2 rfl (al1 (by omega)))) (rda_pre ((hOw.rdx hm hx13)) _ rfl))) (fun γ14 => ds_ (sq_ (ao_ (qo0 2 [(1, .go (owns 0 0 3))] [0, 1, 5, 6, 7] [(26, .func (.func pg) #[] pcb), (27, .agg #[.int .i64 x13.vcpu, .int .i64 x13.port, .int .i64 x13.every])] ?_))))
      rcases q16 : pd x13 with _ | _
      ·
        refine cD (.bool false) he (fun w hw => by have := hc x13 (List.mem_of_getElem? (hD.get hx13)) w (hw.tailN 2); rw [q16] at this; exact this) (qo0 1 [] [0, 1, 5, 6, 7] [(29, .bool true)] (on_ (ds_ (t_ (sq_ ?_)))))
        obtain ⟨x19, hx19⟩ := get_some (l := m) (m := i) (by omega)
        refine ma [(2, .go (owns 0 0 3)), (3, .at g 0 i), (4, .go (ownps 1 (0 + i * 3) [undef, undef, undef]))] [0, 1, 5, 6] (fun _ => []) (fun _ L => (L.set 1 (bx g ((((cs).setIfInBounds (0 + i * 3) (.int .i64 x13.vcpu)).setIfInBounds (0 + i * 3 + 1) (.int .i64 x13.port)).setIfInBounds (0 + i * 3 + 2) (.int .i64 x13.every)) 47))) (fun _ => [(some ⟨g, 0, none⟩ : Option Addr) = some ⟨g, 0, none⟩, ((i : Nat)) = ((i : Nat) : Int), i < n] ++ ([0 + i * 3 < (cs).size] ++ ([0 + i * 3 + 1 < ((cs).setIfInBounds (0 + i * 3) (.int .i64 x13.vcpu)).size] ++ ([0 + i * 3 + 2 < (((cs).setIfInBounds (0 + i * 3) (.int .i64 x13.vcpu)).setIfInBounds (0 + i * 3 + 1) (.int .i64 x13.port)).size])))) (fun _ => (alA (al2 rfl (al2 rfl (al1 (by omega)))) (alA (al1 (by exact hOw.room hm hx19 (f := 0) (by decide))) (alA (al1 (by simp only [Array.size_setIfInBounds]; exact hOw.room hm hx19 (f := 1) (by decide))) (al1 (by simp only [Array.size_setIfInBounds]; exact hOw.room hm hx19 (f := 2) (by decide))))))) (fun _ => ds_ (qa [(1, .fit)] [0, 1, 6] [(5, .int .i64 ((i + 1 : Nat)))] ([Fit .i64 ((i + 1 : Nat))]) (al1 (fit64 (by omega) (by omega))) (done_block (ds_ (qa [(1, .fit)] [0, 1, 5] [(6, .int .i64 ((j + 1 : Nat)))] ([Fit .i64 ((j + 1 : Nat))]) (al1 (fit64 (by omega) (by omega))) (Done.drop (L' := bx g ((((cs).setIfInBounds (0 + i * 3) (.int .i64 x13.vcpu)).setIfInBounds (0 + i * 3 + 1) (.int .i64 x13.port)).setIfInBounds (0 + i * 3 + 2) (.int .i64 x13.every)) 47 :: X) ?_ (List.Sublist.cons _ (List.Sublist.cons_cons _ (List.Sublist.refl _)))))))))
        exact dr [0, 1, 5, 6] (i + 1, j + 1, m.set i x13, (((cs).setIfInBounds (0 + i * 3) (.int .i64 x13.vcpu)).setIfInBounds (0 + i * 3 + 1) (.int .i64 x13.port)).setIfInBounds (0 + i * 3 + 2) (.int .i64 x13.every)) ⟨hD.no hx13 q16, (hOw.putAll (x' := x13) hm hx19)⟩
      ·
        refine cD (.bool true) he (fun w hw => by have := hc x13 (List.mem_of_getElem? (hD.get hx13)) w (hw.tailN 2); rw [q16] at this; exact this) (qo0 1 [] [0, 1, 5, 6, 7] [(29, .bool false)] (on_ (ds_ (f_ (at_skip (done_block (ds_ (qa [(1, .fit)] [0, 1, 5] [(6, .int .i64 ((j + 1 : Nat)))] ([Fit .i64 ((j + 1 : Nat))]) (al1 (fit64 (by omega) (by omega))) (Done.drop (L' := bx g cs 47 :: X) ?_ (List.Sublist.cons _ (List.Sublist.cons_cons _ (List.Sublist.refl _))))))))))))
        exact dr [0, 1, 5, 6] (i, j + 1, m, cs) ⟨hD.yes hx13 q16, hOw⟩
    ·
      refine qa [(3, .no)] [0, 1, 5, 6] [(19, .bool false)] ([¬ (((j : Nat) : Int) < ((n : Nat) : Int))]) (al1 q10) (ds_ (f_ (at_leave _ rfl (ds_ (sq_ (ao_ (qo 3 [(2, .sl (.slice (some ⟨g, 0 + i * 3, none⟩) (n - i) (cap - i)))] [0, 5] [(38, .slice (some ⟨g, 0 + i * 3, none⟩) (n - i) (cap - i))] ([SlRun Try.prog 25 (.slice (some ⟨g, 0, none⟩) n cap) (some (.int .i64 ((i : Nat)))) none none (.slice (some ⟨g, 0 + i * 3, none⟩) (n - i) (cap - i))]) (al1 (slE_lo (P := Try.prog) (T := 25) (e := 47) (k := 3) (by_ := 24) (by kernel_rfl) (lo := i) (by omega) (by have := hOw.le; omega))) ?_)))))))
      have hcs := hOw.csz
      refine ops_clear 0 rfl (by kernel_rfl) (by kernel_rfl) (g := g) (of := 0 + i * 3) (n := n - i) (dc := cap - i) (c := cs) (by kernel_rfl) (T := 47) (ks := 3) (by_ := 24) (by kernel_rfl) (by kernel_rfl) rfl (mul_room (c := cap) (by have := hOw.le; omega) hcs) (fun c2 hc2 hpre2 => on_ (ds_ (sq_ (qa [(2, .sl (.slice (some ⟨g, 0, none⟩) i cap))] [] [(4, .slice (some ⟨g, 0, none⟩) i cap)] ([SlRun Try.prog 25 (.slice (some ⟨g, 0, none⟩) n cap) none (some (.int .i64 ((i : Nat)))) none (.slice (some ⟨g, 0, none⟩) i cap)]) (al1 (slE_hi (P := Try.prog) (T := 25) (e := 47) (k := 3) (by_ := 24) (by kernel_rfl) (h := i) (by have := hOw.le; omega))) (ds_ (rt ([]) (.slice (some ⟨g, 0, none⟩) i cap) ?_))))))
      exact fun w' hw => ⟨_, _, _, [_], rfl, by rw [← hD.done (j := j) (by omega)]; exact .inr ⟨_, _, rfl, rfl, by rw [List.length_take]; omega, hOw.cut hm (by omega) hc2 hpre2⟩, hw⟩

set_option maxRecDepth 100000 in
theorem isv_t (x : Alm) (g : Nat) (k : Int) (w : World)
    (hk : Rd w g (0 + 0 * 1) [.int .i64 k])
    : Calls Try.prog 74 #[.agg #[.int .i64 x.vcpu, .int .i64 x.port, .int .i64 x.every], .pointer (some ⟨g, 0 + 0 * 1, none⟩)] w fun e w' => e = .returned (.bool (isV k x)) ∧ Below w.heap.size w w' := by
  refine enter (Hs.start w) Try.func74 rfl Try.ntmps74 rfl (sq_ (ma0 [] [1] (fun γ1 => [(2, .pointer (some ⟨γ1 0, 0, none⟩))]) (fun γ1 L => bx (γ1 0) (#[.int .i64 x.vcpu, .int .i64 x.port, .int .i64 x.every]) 47 :: L) (fun γ1 => ds_ (sq_ ?_))))
  by_cases q3 : (x.vcpu : Int) = (k : Int)
  ·
    refine qa [(1, .go (owns 0 0 1)), (2, .go (outs g (0 + 0 * 1) [.int .i64 k])), (3, .yes)] [] [(3, .bool true)] (cellsP w g (0 + 0 * 1) [.int .i64 k] ++ ([(x.vcpu : Int) = (k : Int)])) (alA (rd_pre hk _ rfl) (al1 q3)) (ds_ (rt ([]) (.bool true) ?_))
    exact fun w' hw => ⟨by rw [show isV k x = true from decide_eq_true q3], hw.below⟩
  ·
    refine qa [(1, .go (owns 0 0 1)), (2, .go (outs g (0 + 0 * 1) [.int .i64 k])), (3, .no)] [] [(3, .bool false)] (cellsP w g (0 + 0 * 1) [.int .i64 k] ++ ([¬ ((x.vcpu : Int) = (k : Int))])) (alA (rd_pre hk _ rfl) (al1 q3)) (ds_ (rt ([]) (.bool false) ?_))
    exact fun w' hw => ⟨by rw [show isV k x = false from decide_eq_false q3], hw.below⟩
end Go.Proofs.Ytdbamgbgnpadjaa

/-! Alarms: what moves them; plain. -/
namespace Go.Proofs.Ytdbamgbgnpadjaa
open Go Go.RowKit

section
variable {now k v at_ : Int} {ts : List Tim} {rs : List Alm} {x y : Alm} {t : Tim} {j : Nat}
theorem setV_tput (g : wheelB now ts = true) (h0 : 0 ≤ k) (h1 : k < 32) (ha : aheadP now at_) : setV now ts k at_ = (now, tput ts k at_, 0) := by
  have hi : idB k = true := decide_eq_true ⟨h0, h1⟩
  have ha' : now < at_ ∧ at_ ≤ 1125899906842624 := ha
  unfold setV tput
  cases e : getK Tim.id ts k <;> simp_all
theorem setV_nah (g : wheelB now ts = true) (ha : ¬ aheadP now at_) : setV now ts k at_ = (0, [], 2) := setV_arg g (.inr (by unfold aheadP at ha; omega))
theorem set_insA {α : Type} {l : List α} {i : Nat} {z t : α} (h : i ≤ l.length) : (l.take i ++ [z] ++ l.drop i).set i t = l.take i ++ [t] ++ l.drop i := by
  have e : (l.take i).length = i := by rw [List.length_take]; omega
  rw [List.append_assoc, List.set_append_right _ _ (by omega), e]
  simp
theorem vc_of (h : almB x = true) : vcB x.vcpu = true := by have := alm_id h; exact decide_eq_true this
theorem alm_vc (h : vcB x.vcpu = false) : almB x = false := by
  cases e : almB x with
  | false => rfl
  | true => rw [vc_of e] at h; cases h
theorem startV_bad (g : alB now ts rs = false) : startV now ts rs x at_ = (0, [], [], 280) := by simp [startV, g]
theorem startV_arg (g : alB now ts rs = true) (h : almB x = false) : startV now ts rs x at_ = (0, [], [], 2) := by simp [startV, g, h]
theorem startV_nah (g : alB now ts rs = true) (h : ¬ aheadP now at_) : startV now ts rs x at_ = (0, [], [], 2) := by simp [startV, g, h]
theorem startV_put (g : alB now ts rs = true) (h : almB x = true) (ha : aheadP now at_) (e : getK Alm.vcpu rs x.vcpu = some y) : startV now ts rs x at_ = (now, tput ts (x.vcpu - 1) at_, rs.set (posK Alm.vcpu rs x.vcpu) x, 0) := by
  simp [startV, g, h, ha, rput, e, putK]
theorem startV_ins (g : alB now ts rs = true) (h : almB x = true) (ha : aheadP now at_) (e : getK Alm.vcpu rs x.vcpu = none) : startV now ts rs x at_ = (now, tput ts (x.vcpu - 1) at_, (rs.take (posK Alm.vcpu rs x.vcpu) ++ [x] ++ rs.drop (posK Alm.vcpu rs x.vcpu)).set (posK Alm.vcpu rs x.vcpu) x, 0) := by
  rw [set_insA (pos_cut (al_iff.1 g).rr).2.2]
  simp [startV, g, h, ha, rput, e, insK]
end
end Go.Proofs.Ytdbamgbgnpadjaa

/-! Timers: slices.Clone, slices.Insert. -/
namespace Go.Proofs.Ytdbamgbgnpadjaa
open Go Go.RowKit

set_option maxRecDepth 100000 in
theorem clone_t (p : Option Addr) (n cap : Nat) (l : List Tim) (w : World)
    (hsl : Sv w p l) (hn : n = l.length) (hb : n ≤ 1000)
    : Calls Try.prog 61 #[.slice p n cap] w fun e w' => ∃ q capq Y, e = .returned (.slice q n capq) ∧ SlO 88 Y q n capq l ∧ Below w.heap.size w w' ∧ Hs w Y w' := by
  refine enter (Hs.start w) Try.func61 rfl Try.ntmps61 rfl (sq_ (qa0 [] [0] [] (ds_ (sq_ (sq_ ?_)))))
  rcases p with _ | a3
  ·
    refine qa0 [] [0] [(4, .bool true)] (ds_ (t_ (sq_ (qa0 [] [] [(2, .slice none 0 0)] (ds_ (rt ([]) (.slice none 0 0) ?_))))))
    exact fun w' hw => ⟨none, 0, [], by rw [hn, hsl.none]; rfl, by rw [hn, hsl.none]; exact SlO.nil, hw.below, hw.sub (List.nil_sublist _)⟩
  ·
    refine qa0 [] [0] [(4, .bool false)] (ds_ (f_ (at_skip (ds_ (sq_ (ao_ (mo0 2 [] [] (fun γ7 => [(5, .slice (some ⟨γ7 0, 0, none⟩) 0 0), (6, .slice (some a3) n cap)]) (fun γ7 L => bx (γ7 0) (#[]) 88 :: L) (fun γ7 => ops_append (α := Tim) [] ([bx (γ7 0) (#[]) 88]) ([]) (mvE rfl) rfl (by kernel_rfl) (by kernel_rfl) (p := (some ⟨γ7 0, 0, none⟩)) (n := 0) (cap := 0) (m := n) (yv := .slice (some a3) n cap) (by kernel_rfl) (by kernel_rfl) (T := 88) (by_ := 16) (by kernel_rfl) ([]) l (SlO.lit (by rfl) (by rfl) (by simp [maxLen])) (fun w hw => src_svn Try.underlying22 (hsl.kept hw.below) hn) hn (by have hmx : maxLen = 9223372036854775807 := rfl; omega) (by have hmx : maxLen = 9223372036854775807 := rfl; omega) (fun Y8 p8 cap8 hO8 => qo0 1 [] [] [(2, .slice p8 (0 + n) cap8)] (on_ (ds_ (rt ([]) (.slice p8 (0 + n) cap8) ?_))))))))))))
    exact fun w' hw => ⟨_, _, _, by rw [Nat.zero_add], by simpa using hO8, hw.below, ((hw.tailN 0).sub (List.sublist_append_left Y8 ([])))⟩
set_option maxRecDepth 100000 in
theorem overlaps_findT : Extern.find Try.f92 = some (Extern.SlicesOverlaps.overlaps Try.f92.params Try.f92.resultTypes) := by kernel_rfl
set_option maxRecDepth 100000 in
theorem overlaps_nextT : Extern.findNext Try.f92 = none := by kernel_rfl
theorem overlaps_noT {w : World} {g1 o1 g2 o2 m n c1 c2 : Nat} {cs1 cs2 : Array Value} {T1 T2 : TypeId} (h1 : w.heap[g1]? = some (.cells cs1 T1 (0, 0))) (h2 : w.heap[g2]? = some (.cells cs2 T2 (0, 0))) (hne : g1 ≠ g2) :
    (callFunc 92 #[.slice (some ⟨g1, o1, none⟩) m c1, .slice (some ⟨g2, o2, none⟩) n c2]).run Try.prog w = .ok (.value (.bool false)) w := by
  have hf := Try.func92
  have hn : (Try.f92.name == "runtime.NumGoroutine") = false := by kernel_rfl
  have hb : Try.f92.body.isNone = true := by kernel_rfl
  have hp : Try.f92.params[0]? = some 22 := by kernel_rfl
  have hu := Try.underlying22
  obtain ⟨ht', inf, z', hi, hz', _, hks, hby⟩ := elemB_spec (show elemB Try.prog 22 88 2 16 = true by kernel_rfl)
  have hs : inf.size = 2 := by omega
  have s1 : w.shape? g1 = some (T1, cs1.size) := by simp [World.shape?, h1]
  have s2 : w.shape? g2 = some (T2, cs2.size) := by simp [World.shape?, h2]
  have f1 : ∀ j, w.frozen? ⟨g1, j, none⟩ = false := fun j => froz_own h1 j
  have f2 : ∀ j, w.frozen? ⟨g2, j, none⟩ = false := fun j => froz_own h2 j
  have run1 : ∀ args, (callFunc 92 args).run Try.prog w = ((Extern.SlicesOverlaps.overlaps Try.f92.params Try.f92.resultTypes args).run Try.prog w).andThen fun v w' => .ok (.value v) w' := fun args => by
    simp only [callFunc, Sem.run_bind, run_program, Result.andThen_ok, hf, hn, hb, overlaps_nextT, overlaps_findT]
    simp [mark, Sem.run, Sem.run_bind]
  rw [run1]
  have hne' : (g1 == g2) = false := by simpa using hne
  have hs' : (do let i ← typeInfo 88; pure i.size : Sem Nat).run Try.prog w = .ok 2 w := by simp [typeInfo, hi, hs]
  delta Extern.SlicesOverlaps.overlaps
  conv => lhs; arg 1; arg 2; whnf
  have hu' : Try.prog.underlying (Try.f92.params[0]'(by decide)) = some (.slice 88) := by kernel_rfl
  have sb : ∀ (α β : Type) (x : Sem α) (f : α → Sem β) (P : Program) (w : World), (x.bind f).run P w = (x.run P w).andThen fun a w' => (f a).run P w' := fun α β x f P w => Sem.run_bind' P x f w
  by_cases hm : m = 0 ∨ n = 0 ∨ inf.size = 0
  · simp [Sem.run, sb, hu', sizeOf, typeInfo, hi, hm]
  · simp [Sem.run, sb, hu', sizeOf, typeInfo, hi, hm, bne, hne', hne, noView, viewAt, mayBeOne, stringish, shape, frozen, s1, s2, f1, f2]

set_option maxRecDepth 100000 in
theorem insert_t (w0 : World) (X Y : List Ob) (p : Option Addr) (n cap : Nat) (l : List Tim) (i gv : Nat) (cv : Array Value) (m : Nat) (vl : List Tim) (w : World)
    (hH : Hs w0 (bx gv cv 88 :: (Y ++ X)) w) (hO : SlO 88 Y p n cap l) (hcv : cv.toList = vl.flatMap Enc.enc) (hm : m = vl.length) (hm0 : 0 < m) (hi : i ≤ n) (hb : n ≤ 1000) (hmb : m ≤ 1000)
    : Calls Try.prog 82 #[.slice p n cap, .int .i64 (i : Nat), .slice (some ⟨gv, 0, none⟩) m m] w fun e w' => ∃ q capq Y', e = .returned (.slice q (n + m) capq) ∧ SlO 88 Y' q (n + m) capq (l.take i ++ vl ++ l.drop i) ∧ Hs w0 (Y' ++ X) w' := by
  have hn := hO.len
  refine enter hH Try.func82 rfl Try.ntmps82 rfl (sq_ (qa0 [] [0, 1, 2] [] (ds_ (sq_ (qa [(2, .sl (.slice (if cap = i then p else p.map (·.add (i * 2))) (n - i) (cap - i)))] [0, 1, 2] [] ([SlRun Try.prog 22 (.slice p n cap) (some (.int .i64 ((i : Nat)))) none none (.slice (if cap = i then p else p.map (·.add (i * 2))) (n - i) (cap - i))]) (al1 (slE_cut (P := Try.prog) (T := 22) (e := 88) (k := 2) (by_ := 16) (by kernel_rfl) hi)) (ds_ (sq_ (qa0 [] [0, 1, 2] [(7, .int .i64 ((m : Nat)))] (ds_ (sq_ (sq_ (qa [(1, .no)] [0, 1, 2, 7] [(16, .bool false)] ([¬ (((m : Nat) : Int) = (0 : Int))]) (al1 ((by omega))) (ds_ (f_ (at_skip (ds_ (sq_ (qa0 [] [0, 1, 2, 7] [(8, .int .i64 ((n : Nat)))] (ds_ (sq_ (sq_ ?_)))))))))))))))))))))
  by_cases q7 : ((i : Nat) : Int) = ((n : Nat) : Int)
  ·
    refine qa [(2, .yes)] [0, 1, 2, 7, 8] [(22, .bool true)] ([((i : Nat) : Int) = ((n : Nat) : Int)]) (al1 q7) (ds_ (t_ (sq_ (ao_ (qo0 2 [] [] [(23, .slice p n cap), (24, .slice (some ⟨gv, 0, none⟩) m m)] (ops_append (α := Tim) [bx gv cv 88] Y X (.refl _) rfl (by kernel_rfl) (by kernel_rfl) (p := p) (n := n) (cap := cap) (m := m) (yv := .slice (some ⟨gv, 0, none⟩) m m) (by kernel_rfl) (by kernel_rfl) (T := 88) (by_ := 16) (by kernel_rfl) l vl hO (fun w hw => src_svn Try.underlying22 (sv_row (hw.row 0 rfl) hcv) hm) hm (by have hmx : maxLen = 9223372036854775807 := rfl; omega) (by have hmx : maxLen = 9223372036854775807 := rfl; omega) (fun Y10 p10 cap10 hO10 => qo0 1 [] [] [(6, .slice p10 (n + m) cap10)] (on_ (ds_ (rt ([]) (.slice p10 (n + m) cap10) ?_))))))))))
    exact fun w' hw => ⟨_, _, _, rfl, by rw [show i = l.length by omega, List.take_length, List.drop_length, List.append_nil]; exact hO10, hw.tailN 1⟩
  ·
    refine qa [(2, .no)] [0, 1, 2, 7, 8] [(22, .bool false)] ([¬ (((i : Nat) : Int) = ((n : Nat) : Int))]) (al1 q7) (ds_ (f_ (at_skip (ds_ (sq_ (sq_ ?_))))))
    obtain ⟨g, cs, rfl, rfl, hOw⟩ := hO.rowOf (i := i) (by omega)
    have hcap := hOw.le
    have hcs := hOw.csz
    have hmax := hOw.max
    by_cases q15 : ((n + m : Nat) : Int) > ((cap : Nat) : Int)
    ·
      refine qa [(2, .fit), (5, .yes)] [0, 1, 2, 7, 8] [(31, .bool true)] ([Fit .i64 ((n + m : Nat))] ++ ([((n + m : Nat) : Int) > ((cap : Nat) : Int)])) (alA (al1 (fit64 (by omega) (by omega))) (al1 q15)) (ds_ (t_ (sq_ (ao_ (qo 8 [(2, .sl (.slice (some ⟨g, 0, none⟩) i cap)), (5, .fit), (7, .is [] (.int .i64 ((n + m - i : Nat))))] [0, 1, 2, 7] [(34, .slice (some ⟨g, 0, none⟩) i cap), (39, .int .i64 ((n + m - i : Nat)))] ([SlRun Try.prog 22 (.slice (some ⟨g, 0, none⟩) n cap) none (some (.int .i64 ((i : Nat)))) none (.slice (some ⟨g, 0, none⟩) i cap)] ++ ([Fit .i64 ((n + m : Nat))] ++ ([Value.int .i64 (IntKind.i64.wrap ((((n + m : Nat)) : Int) - ((i : Nat) : Int))) = .int .i64 ((n + m - i : Nat))]))) (alA (al1 (slE_hi (P := Try.prog) (T := 22) (e := 88) (k := 2) (by_ := 16) (by kernel_rfl) (h := i) (by omega))) (alA (al1 (fit64 (by omega) (by omega))) (al1 (by rw [wrap_fit (fit64 (by omega) (by omega))]; congr 1; omega)))) (ops_appendZ rfl (by kernel_rfl) (by kernel_rfl) (p := some ⟨g, 0, none⟩) (m := i) (cap := cap) (n := n + m - i) ((cs.toList.drop 0).take (i * 2)) (by kernel_rfl) (by kernel_rfl) (T := 88) (ks := 2) (by_ := 16) (by kernel_rfl) Try.underlying3 (by decide) (olds_len hcs (by omega)) (fun w hw => first_row (hw.row 1 rfl) (by rw [hcs, Nat.zero_add]; exact Nat.mul_le_mul_right _ (by omega))) (by omega) (by omega) (by simp only [maxLen]; omega) (by omega) (fun g2 c2 cap2 hc2 hle2 hmax2 hpre2 => qo0 1 [] [0, 1, 2, 7] [(9, .slice (some ⟨g2, 0, none⟩) (i + (n + m - i)) cap2)] (on_ (ds_ (sq_ (ao_ (qo 4 [(2, .sl (.slice (some ⟨g2, 0 + i * 2, none⟩) (i + (n + m - i) - i) (cap2 - i)))] [0, 1, 7, 9] [(43, .slice (some ⟨g2, 0 + i * 2, none⟩) (i + (n + m - i) - i) (cap2 - i)), (44, .slice (some ⟨gv, 0, none⟩) m m)] ([SlRun Try.prog 22 (.slice (some ⟨g2, 0, none⟩) (i + (n + m - i)) cap2) (some (.int .i64 ((i : Nat)))) none none (.slice (some ⟨g2, 0 + i * 2, none⟩) (i + (n + m - i) - i) (cap2 - i))]) (al1 (slE_lo (P := Try.prog) (T := 22) (e := 88) (k := 2) (by_ := 16) (by kernel_rfl) (lo := i) (by omega) (by omega))) (ops_copy 0 rfl (by kernel_rfl) (by kernel_rfl) (g := g2) (of := (0 + i * 2)) (dn := (i + (n + m - i) - i)) (dc := (cap2 - i)) (m := m) (cnt := m) (c := c2) (yv := (.slice (some ⟨gv, 0, none⟩) m m)) (vl.flatMap Enc.enc) (by kernel_rfl) (by kernel_rfl) (T := 88) (ks := 2) (by_ := 16) (by kernel_rfl) (T' := 88) (by kernel_rfl) len_slice (by omega) (fun w hw => by have := first_sv (P := Try.prog) (w := w) (p := some ⟨gv, 0, none⟩) (m := m) (cap := m) (cnt := m) (sv_row (hw.row 1 rfl) hcv) (by omega); rw [List.take_of_length_le (by omega)] at this; exact this) (by rw [flat_len, ← hm]; exact mul_room (c := cap2) (by omega) hc2) (flat_one vl) ?_)))))))))))))
      refine on_ (ds_ (sq_ ?_))
      refine at_any (by kernel_rfl) ?_
      refine tk (m := 3) [0, 1, 2, 3, 5, 6] [(3, .fit)] [9] [(46, .slice (some ⟨g2, 0, none⟩) (i + (n + m - i)) cap2), (49, .int .i64 ((i + m : Nat))), (51, .slice (some ⟨g, 0, none⟩) n cap), (52, .int .i64 ((i : Nat)))] ([Fit .i64 ((i + m : Nat))]) #[true, true, true, true, false, true, true, false, false] (al1 (fit64 (by omega) (by omega))) ?_
      refine any_cut 1 #[true, true, true, true, true, true, true, true, false] ([(9, .slice (some ⟨g2, 0, none⟩) (i + (n + m - i)) cap2), (50, .slice (some ⟨g2, 0 + (i + m) * 2, none⟩) (i + (n + m - i) - (i + m)) (cap2 - (i + m))), (53, .slice (some ⟨g, 0 + i * 2, none⟩) (n - i) (cap - i))]) (bx g2 ((sets c2 (0 + i * 2) (vl.flatMap Enc.enc))) 88 :: bx gv cv 88 :: bx g cs 88 :: X) ?_ (fun hm => ?_)
      rotate_left
      ·
        refine any_fork [4, 7] (by kernel_rfl) (by simp) (each_cons _ rfl ?_ (each_cons _ rfl ?_ (each_nil)))
        ·
          refine qo 1 [(4, .sl (.slice (some ⟨g2, 0 + (i + m) * 2, none⟩) (i + (n + m - i) - (i + m)) (cap2 - (i + m))))] [9, 51, 52] [(50, .slice (some ⟨g2, 0 + (i + m) * 2, none⟩) (i + (n + m - i) - (i + m)) (cap2 - (i + m)))] ([SlRun Try.prog 22 (.slice (some ⟨g2, 0, none⟩) (i + (n + m - i)) cap2) (some (.int .i64 ((i + m : Nat)))) none none (.slice (some ⟨g2, 0 + (i + m) * 2, none⟩) (i + (n + m - i) - (i + m)) (cap2 - (i + m)))]) (al1 (slE_lo (P := Try.prog) (T := 22) (e := 88) (k := 2) (by_ := 16) (by kernel_rfl) (lo := i + m) (by omega) (by omega))) ?_
          refine od_ ?_
          refine a1 7 rfl ?_
          refine qo 1 [(7, .sl (.slice (some ⟨g, 0 + i * 2, none⟩) (n - i) (cap - i)))] [9, 50] [(53, .slice (some ⟨g, 0 + i * 2, none⟩) (n - i) (cap - i))] ([SlRun Try.prog 22 (.slice (some ⟨g, 0, none⟩) n cap) (some (.int .i64 ((i : Nat)))) none none (.slice (some ⟨g, 0 + i * 2, none⟩) (n - i) (cap - i))]) (al1 (slE_lo (P := Try.prog) (T := 22) (e := 88) (k := 2) (by_ := 16) (by kernel_rfl) (lo := i) (by omega) (by omega))) ?_
          refine od_ ?_
          exact any_weak hm [9, 50, 53] (by kernel_rfl) rfl rfl rfl
        ·
          refine qo 1 [(7, .sl (.slice (some ⟨g, 0 + i * 2, none⟩) (n - i) (cap - i)))] [9, 46, 49] [(53, .slice (some ⟨g, 0 + i * 2, none⟩) (n - i) (cap - i))] ([SlRun Try.prog 22 (.slice (some ⟨g, 0, none⟩) n cap) (some (.int .i64 ((i : Nat)))) none none (.slice (some ⟨g, 0 + i * 2, none⟩) (n - i) (cap - i))]) (al1 (slE_lo (P := Try.prog) (T := 22) (e := 88) (k := 2) (by_ := 16) (by kernel_rfl) (lo := i) (by omega) (by omega))) ?_
          refine od_ ?_
          refine a1 4 rfl ?_
          refine qo 1 [(4, .sl (.slice (some ⟨g2, 0 + (i + m) * 2, none⟩) (i + (n + m - i) - (i + m)) (cap2 - (i + m))))] [9, 53] [(50, .slice (some ⟨g2, 0 + (i + m) * 2, none⟩) (i + (n + m - i) - (i + m)) (cap2 - (i + m)))] ([SlRun Try.prog 22 (.slice (some ⟨g2, 0, none⟩) (i + (n + m - i)) cap2) (some (.int .i64 ((i + m : Nat)))) none none (.slice (some ⟨g2, 0 + (i + m) * 2, none⟩) (i + (n + m - i) - (i + m)) (cap2 - (i + m)))]) (al1 (slE_lo (P := Try.prog) (T := 22) (e := 88) (k := 2) (by_ := 16) (by kernel_rfl) (lo := i + m) (by omega) (by omega))) ?_
          refine od_ ?_
          exact any_weak hm [9, 50, 53] (by kernel_rfl) rfl rfl rfl
      refine a1 8 rfl ?_
      refine ops_copy 0 rfl (by kernel_rfl) (by kernel_rfl) (g := g2) (of := (0 + (i + m) * 2)) (dn := (i + (n + m - i) - (i + m))) (dc := (cap2 - (i + m))) (m := (n - i)) (cnt := (n - i)) (c := ((sets c2 (0 + i * 2) (vl.flatMap Enc.enc)))) (yv := (.slice (some ⟨g, 0 + i * 2, none⟩) (n - i) (cap - i))) ((cs.toList.drop (0 + i * 2)).take ((n - i) * 2)) (by kernel_rfl) (by kernel_rfl) (T := 88) (ks := 2) (by_ := 16) (by kernel_rfl) (T' := 88) (by kernel_rfl) len_slice (by omega) (fun w hw => first_row (hw.row 2 rfl) (row_room hOw (by omega))) (by rw [sets_size]; exact copy_room (c := cap2) hOw (by omega) (by omega) hc2) (row_one hOw (by omega)) ?_
      refine od_ ?_
      refine any_nil (by kernel_rfl) ?_
      refine ds_ (sq_ (qa0 [] [] [(6, .slice (some ⟨g2, 0, none⟩) (i + (n + m - i)) cap2)] (ds_ (rt ([]) (.slice (some ⟨g2, 0, none⟩) (i + (n + m - i)) cap2) ?_))))
      exact fun w' hw => ⟨some ⟨g2, 0, none⟩, cap2, [_], by rw [show i + (n + m - i) = n + m by omega], .inr ⟨_, _, rfl, rfl, by simp; omega, ins_grow hOw (by omega) hm (by omega) hc2 (by omega) hmax2 hpre2⟩, hw.sub (.cons_cons _ (.cons _ (.cons _ (.refl _))))⟩
    ·
      refine qa [(2, .fit), (5, .no)] [0, 1, 2, 7, 8] [(31, .bool false)] ([Fit .i64 ((n + m : Nat))] ++ ([¬ (((n + m : Nat) : Int) > ((cap : Nat) : Int))])) (alA (al1 (fit64 (by omega) (by omega))) (al1 q15)) (ds_ (f_ (at_skip (ds_ (sq_ (qa [(3, .fit), (4, .sl (.slice (some ⟨g, 0, none⟩) (n + m) cap))] [1, 2, 7, 8] [(0, .slice (some ⟨g, 0, none⟩) (n + m) cap)] ([Fit .i64 ((n + m : Nat))] ++ ([SlRun Try.prog 22 (.slice (some ⟨g, 0, none⟩) n cap) none (some (.int .i64 ((n + m : Nat)))) none (.slice (some ⟨g, 0, none⟩) (n + m) cap)])) (alA (al1 (fit64 (by omega) (by omega))) (al1 (slE_hi (P := Try.prog) (T := 22) (e := 88) (k := 2) (by_ := 16) (by kernel_rfl) (h := n + m) (by omega)))) (ds_ (sq_ (sq_ (ao_ (qo 6 [(4, .fit), (5, .sl (.slice (some ⟨g, 0 + (i + m) * 2, none⟩) (n + m - (i + m)) (cap - (i + m))))] [0, 1, 2, 7, 8] [(61, .slice (some ⟨gv, 0, none⟩) m m), (66, .slice (some ⟨g, 0 + (i + m) * 2, none⟩) (n + m - (i + m)) (cap - (i + m)))] ([Fit .i64 ((i + m : Nat))] ++ ([SlRun Try.prog 22 (.slice (some ⟨g, 0, none⟩) (n + m) cap) (some (.int .i64 ((i + m : Nat)))) none none (.slice (some ⟨g, 0 + (i + m) * 2, none⟩) (n + m - (i + m)) (cap - (i + m)))])) (alA (al1 (fit64 (by omega) (by omega))) (al1 (slE_lo (P := Try.prog) (T := 22) (e := 88) (k := 2) (by_ := 16) (by kernel_rfl) (lo := i + m) (by omega) (by omega)))) (ops_ext (f := 92) (args := #[.slice (some ⟨gv, 0, none⟩) m m, .slice (some ⟨g, 0 + (i + m) * 2, none⟩) (n + m - (i + m)) (cap - (i + m))]) (.bool false) (by kernel_rfl) (by kernel_rfl) (by kernel_rfl) (fun w hw => overlaps_noT (hw.row 0 rfl) (hw.row 1 rfl) (apart_two hw (a := 0) (b := 1) rfl rfl (by decide))) (qo0 1 [] [0, 1, 2, 7, 8] [(68, .bool true)] (on_ (ds_ (t_ (sq_ ?_)))))))))))))))))
      refine at_any (by kernel_rfl) ?_
      refine tk (m := 3) [0, 1, 2, 3, 5, 6] [(3, .fit)] [0, 1, 2] [(69, .slice (some ⟨g, 0, none⟩) (n + m) cap), (72, .int .i64 ((i + m : Nat))), (74, .slice (some ⟨g, 0, none⟩) (n + m) cap), (75, .int .i64 ((i : Nat)))] ([Fit .i64 ((i + m : Nat))]) #[true, true, true, true, false, true, true, false, false] (al1 (fit64 (by omega) (by omega))) ?_
      refine any_cut 1 #[true, true, true, true, true, true, true, true, false] ([(0, .slice (some ⟨g, 0, none⟩) (n + m) cap), (1, .int .i64 ((i : Nat))), (2, .slice (some ⟨gv, 0, none⟩) m m), (73, .slice (some ⟨g, 0 + (i + m) * 2, none⟩) (n + m - (i + m)) (cap - (i + m))), (76, .slice (some ⟨g, 0 + i * 2, none⟩) (n + m - i) (cap - i))]) (bx gv cv 88 :: bx g cs 88 :: X) ?_ (fun hm => ?_)
      rotate_left
      ·
        refine any_fork [4, 7] (by kernel_rfl) (by simp) (each_cons _ rfl ?_ (each_cons _ rfl ?_ (each_nil)))
        ·
          refine qo 1 [(4, .sl (.slice (some ⟨g, 0 + (i + m) * 2, none⟩) (n + m - (i + m)) (cap - (i + m))))] [0, 1, 2, 74, 75] [(73, .slice (some ⟨g, 0 + (i + m) * 2, none⟩) (n + m - (i + m)) (cap - (i + m)))] ([SlRun Try.prog 22 (.slice (some ⟨g, 0, none⟩) (n + m) cap) (some (.int .i64 ((i + m : Nat)))) none none (.slice (some ⟨g, 0 + (i + m) * 2, none⟩) (n + m - (i + m)) (cap - (i + m)))]) (al1 (slE_lo (P := Try.prog) (T := 22) (e := 88) (k := 2) (by_ := 16) (by kernel_rfl) (lo := i + m) (by omega) (by omega))) ?_
          refine od_ ?_
          refine a1 7 rfl ?_
          refine qo 1 [(7, .sl (.slice (some ⟨g, 0 + i * 2, none⟩) (n + m - i) (cap - i)))] [0, 1, 2, 73] [(76, .slice (some ⟨g, 0 + i * 2, none⟩) (n + m - i) (cap - i))] ([SlRun Try.prog 22 (.slice (some ⟨g, 0, none⟩) (n + m) cap) (some (.int .i64 ((i : Nat)))) none none (.slice (some ⟨g, 0 + i * 2, none⟩) (n + m - i) (cap - i))]) (al1 (slE_lo (P := Try.prog) (T := 22) (e := 88) (k := 2) (by_ := 16) (by kernel_rfl) (lo := i) (by omega) (by omega))) ?_
          refine od_ ?_
          exact any_weak hm [0, 1, 2, 73, 76] (by kernel_rfl) rfl rfl rfl
        ·
          refine qo 1 [(7, .sl (.slice (some ⟨g, 0 + i * 2, none⟩) (n + m - i) (cap - i)))] [0, 1, 2, 69, 72] [(76, .slice (some ⟨g, 0 + i * 2, none⟩) (n + m - i) (cap - i))] ([SlRun Try.prog 22 (.slice (some ⟨g, 0, none⟩) (n + m) cap) (some (.int .i64 ((i : Nat)))) none none (.slice (some ⟨g, 0 + i * 2, none⟩) (n + m - i) (cap - i))]) (al1 (slE_lo (P := Try.prog) (T := 22) (e := 88) (k := 2) (by_ := 16) (by kernel_rfl) (lo := i) (by omega) (by omega))) ?_
          refine od_ ?_
          refine a1 4 rfl ?_
          refine qo 1 [(4, .sl (.slice (some ⟨g, 0 + (i + m) * 2, none⟩) (n + m - (i + m)) (cap - (i + m))))] [0, 1, 2, 76] [(73, .slice (some ⟨g, 0 + (i + m) * 2, none⟩) (n + m - (i + m)) (cap - (i + m)))] ([SlRun Try.prog 22 (.slice (some ⟨g, 0, none⟩) (n + m) cap) (some (.int .i64 ((i + m : Nat)))) none none (.slice (some ⟨g, 0 + (i + m) * 2, none⟩) (n + m - (i + m)) (cap - (i + m)))]) (al1 (slE_lo (P := Try.prog) (T := 22) (e := 88) (k := 2) (by_ := 16) (by kernel_rfl) (lo := i + m) (by omega) (by omega))) ?_
          refine od_ ?_
          exact any_weak hm [0, 1, 2, 73, 76] (by kernel_rfl) rfl rfl rfl
      refine a1 8 rfl ?_
      refine ops_copy 1 rfl (by kernel_rfl) (by kernel_rfl) (g := g) (of := (0 + (i + m) * 2)) (dn := (n + m - (i + m))) (dc := (cap - (i + m))) (m := (n + m - i)) (cnt := (n - i)) (c := cs) (yv := (.slice (some ⟨g, 0 + i * 2, none⟩) (n + m - i) (cap - i))) ((cs.toList.drop (0 + i * 2)).take ((n - i) * 2)) (by kernel_rfl) (by kernel_rfl) (T := 88) (ks := 2) (by_ := 16) (by kernel_rfl) (T' := 88) (by kernel_rfl) len_slice (by omega) (fun w hw => first_row (hw.row 1 rfl) (row_room hOw (by omega))) (copy_room (c := cap) hOw (by omega) (by omega) hcs) (row_one hOw (by omega)) ?_
      refine od_ ?_
      refine any_nil (by kernel_rfl) ?_
      refine ds_ (sq_ (ao_ (qo 4 [(2, .sl (.slice (some ⟨g, 0 + i * 2, none⟩) (n + m - i) (cap - i)))] [0] [(80, .slice (some ⟨g, 0 + i * 2, none⟩) (n + m - i) (cap - i)), (81, .slice (some ⟨gv, 0, none⟩) m m)] ([SlRun Try.prog 22 (.slice (some ⟨g, 0, none⟩) (n + m) cap) (some (.int .i64 ((i : Nat)))) none none (.slice (some ⟨g, 0 + i * 2, none⟩) (n + m - i) (cap - i))]) (al1 (slE_lo (P := Try.prog) (T := 22) (e := 88) (k := 2) (by_ := 16) (by kernel_rfl) (lo := i) (by omega) (by omega))) (ops_copy 1 rfl (by kernel_rfl) (by kernel_rfl) (g := g) (of := (0 + i * 2)) (dn := (n + m - i)) (dc := (cap - i)) (m := m) (cnt := m) (c := ((sets cs (0 + (i + m) * 2) ((cs.toList.drop (0 + i * 2)).take ((n - i) * 2))))) (yv := (.slice (some ⟨gv, 0, none⟩) m m)) (vl.flatMap Enc.enc) (by kernel_rfl) (by kernel_rfl) (T := 88) (ks := 2) (by_ := 16) (by kernel_rfl) (T' := 88) (by kernel_rfl) len_slice (by omega) (fun w hw => by have := first_sv (P := Try.prog) (w := w) (p := some ⟨gv, 0, none⟩) (m := m) (cap := m) (cnt := m) (sv_row (hw.row 0 rfl) hcv) (by omega); rw [List.take_of_length_le (by omega)] at this; exact this) (by rw [flat_len, ← hm, sets_size]; exact mul_room (c := cap) (by omega) hcs) (flat_one vl) (on_ (ds_ (sq_ (qa0 [] [] [(6, .slice (some ⟨g, 0, none⟩) (n + m) cap)] (ds_ (rt ([]) (.slice (some ⟨g, 0, none⟩) (n + m) cap) ?_))))))))))
      exact fun w' hw => ⟨_, _, [_], rfl, .inr ⟨_, _, rfl, rfl, by simp; omega, ins_room hOw (by omega) hm (by omega) (by omega)⟩, hw.sub (.cons _ (.refl _))⟩
end Go.Proofs.Ytdbamgbgnpadjaa

/-! Timers: Set. -/
namespace Go.Proofs.Ytdbamgbgnpadjaa
open Go Go.RowKit

set_option maxRecDepth 100000 in
theorem set_t (now : Int) (p : Option Addr) (n cap : Nat) (ts : List Tim) (k at_ : Int) (w : World)
 (hts : Sv w p ts) (hn : n = ts.length) (hb : n ≤ 1000)
 : Calls Try.prog 70 #[.agg #[.int .i64 now, .slice p n cap], .int .i64 k, .int .i64 at_] w fun e w' => ∃ q m capq Y, e = .returned (.tuple #[.agg #[.int .i64 (setV now ts k at_).1, .slice q m capq], .int .i64 (setV now ts k at_).2.2]) ∧ SlO 88 Y q m capq (setV now ts k at_).2.1 ∧ Below w.heap.size w w' ∧ Hs w Y w' := by
 refine enter (Hs.start w) Try.func70 rfl Try.ntmps70 rfl (sq_ (ma0 [] [1, 2] (fun γ1 => [(3, .pointer (some ⟨γ1 0, 0, none⟩)), (6, .pointer (some ⟨γ1 1, 0, none⟩))]) (fun γ1 L => bx (γ1 1) (#[.int .i64 0, .slice none 0 0]) 24 :: bx (γ1 0) (#[.int .i64 now, .slice p n cap]) 24 :: L) (fun γ1 => ds_ (sq_ (at_block (sq_ (ao_ (qo0 1 [(0, .go (owns 1 0 2))] [1, 2, 3, 6] [(12, .agg #[.int .i64 now, .slice p n cap])] ?_))))))))
 rcases q3 : wheelB now ts with _ | _
 ·
  refine cD (.int .i64 250) Try.call28 (fun w hw => by have := wcheck_t now p n cap ts w (hts.kept hw.below) hn (by omega); rw [q3] at this; exact this) (qo0 2 [] [1, 2, 3, 6] [(11, .bool true)] (on_ (ds_ (t_ (sq_ (qa0 [(1, .go (owns 0 0 2))] [6] [(7, .int .i64 250)] (ds_ (rt (owns 0 0 2) (.tuple #[.agg #[.int .i64 0, .slice none 0 0], .int .i64 250]) ?_))))))))
  exact fun w' hw => by rw [setV_bad q3]; exact ⟨none, 0, 0, [], rfl, SlO.nil, hw.below, hw.sub (List.nil_sublist _)⟩
 ·
  refine cD (.int .i64 0) Try.call28 (fun w hw => by have := wcheck_t now p n cap ts w (hts.kept hw.below) hn (by omega); rw [q3] at this; exact this) (qo0 2 [] [1, 2, 3, 6] [(11, .bool false)] (on_ (ds_ (f_ (sq_ (ao_ (qo0 1 [] [1, 2, 3, 6] [(17, .int .i64 k)] ?_)))))))
  rcases q8 : idB k with _ | _
  ·
   refine cD (.bool false) Try.call56 (fun w hw => by have := may_t k w; rw [q8] at this; exact this) (qo0 12 [] [1, 2, 3, 6] [(16, .bool true)] (on_ (ds_ (t_ (sq_ (qa0 [(1, .go (owns 0 0 2))] [6] [(7, .int .i64 2)] (ds_ (rt (owns 0 0 2) (.tuple #[.agg #[.int .i64 0, .slice none 0 0], .int .i64 2]) ?_))))))))
   exact fun w' hw => by rw [setV_arg q3 (.inl q8)]; exact ⟨none, 0, 0, [], rfl, SlO.nil, hw.below, hw.sub (List.nil_sublist _)⟩
  ·
   refine cD (.bool true) Try.call56 (fun w hw => by have := may_t k w; rw [q8] at this; exact this) ?_
   by_cases q12 : (at_ : Int) ≤ (now : Int)
   ·
    refine qo 12 [(6, .go (owns 1 0 1)), (7, .yes)] [1, 2, 3, 6] [(16, .bool true)] ([(at_ : Int) ≤ (now : Int)]) (al1 q12) (on_ (ds_ (t_ (sq_ (qa0 [(1, .go (owns 0 0 2))] [6] [(7, .int .i64 2)] (ds_ (rt (owns 0 0 2) (.tuple #[.agg #[.int .i64 0, .slice none 0 0], .int .i64 2]) ?_)))))))
    exact fun w' hw => by rw [setV_arg q3 (.inr (by omega))]; exact ⟨none, 0, 0, [], rfl, SlO.nil, hw.below, hw.sub (List.nil_sublist _)⟩
   ·
    by_cases q16 : (at_ : Int) > (1125899906842624 : Int)
    ·
     refine qo 12 [(6, .go (owns 1 0 1)), (7, .no), (11, .yes)] [1, 2, 3, 6] [(16, .bool true)] ([¬ ((at_ : Int) ≤ (now : Int))] ++ ([(at_ : Int) > (1125899906842624 : Int)])) (alA (al1 q12) (al1 q16)) (on_ (ds_ (t_ (sq_ (qa0 [(1, .go (owns 0 0 2))] [6] [(7, .int .i64 2)] (ds_ (rt (owns 0 0 2) (.tuple #[.agg #[.int .i64 0, .slice none 0 0], .int .i64 2]) ?_)))))))
     exact fun w' hw => by rw [setV_arg q3 (.inr (by omega))]; exact ⟨none, 0, 0, [], rfl, SlO.nil, hw.below, hw.sub (List.nil_sublist _)⟩
    ·
     refine qo 12 [(6, .go (owns 1 0 1)), (7, .no), (11, .no)] [1, 2, 3, 6] [(16, .bool false)] ([¬ ((at_ : Int) ≤ (now : Int))] ++ ([¬ ((at_ : Int) > (1125899906842624 : Int))])) (alA (al1 q12) (al1 q16)) (on_ (ds_ (f_ (at_skip (done_block (ds_ (sq_ (ao_ (qo0 2 [(0, .go (owns 1 0 2))] [1, 2, 3, 6] [(32, .agg #[.int .i64 now, .slice p n cap]), (33, .int .i64 k)] ?_)))))))))
     rcases hg21 : getK Tim.id ts k with _ | y21
     ·
      have hpl21 := (pos_cut (k := k) (wheel_iff.1 q3).rs).2.2
      refine cD (.tuple #[.int .i64 ((posK Tim.id ts k : Nat)), .bool false]) Try.call59 (fun w hw => by have := find_t now p n cap ts k w (hts.kept hw.below) hn (by omega) q3; rw [hasK_none hg21] at this; exact this) (qo0 5 [] [1, 2, 3, 6] [(8, .int .i64 ((posK Tim.id ts k : Nat))), (9, .bool false)] (on_ (ds_ (sq_ (ao_ (qo0 2 [(1, .go (owns 1 1 1))] [1, 2, 3, 6, 8, 9] [(38, .slice p n cap)] (cP (fun v L' => ∃ q_ c_ Y_, v = .slice q_ n c_ ∧ L' = List.take 2 ([bx (γ1 1) (#[.int .i64 0, .slice none 0 0]) 24, bx (γ1 0) (#[.int .i64 now, .slice p n cap]) 24]) ++ (Y_ ++ List.drop 2 ([bx (γ1 1) (#[.int .i64 0, .slice none 0 0]) 24, bx (γ1 0) (#[.int .i64 now, .slice p n cap]) 24])) ∧ SlO 88 Y_ q_ n c_ ts) Try.call61 (fun w hw => (clone_t p n cap ts w (hts.kept hw.below) hn (by omega)).mono fun e w' ⟨q_, c_, Y_, he, hO, hb, hY⟩ => ⟨_, _, he, ⟨q_, c_, Y_, rfl, rfl, hO⟩, hw.join hb hY 2⟩) ?_)))))))
      rintro v24 L24 ⟨q24, cq24, Y24, rfl, rfl, hO24⟩
      refine qo0 1 [] [1, 2, 3, 6, 8, 9] [(10, .slice q24 n cq24)] (on_ (ds_ (sq_ (sq_ (qa0 [] [1, 2, 3, 6, 8, 10] [(41, .bool true)] (ds_ (t_ ?_)))))))
      have hlz8 := (wheel_iff.1 q3).len
      refine ao_ (mo0 4 [] [1, 2, 3, 6, 8] (fun γ27 => [(42, .slice q24 n cq24), (43, .int .i64 ((posK Tim.id ts k : Nat))), (45, .slice (some ⟨γ27 0, 0, none⟩) 1 1)]) (fun γ27 L => bx (γ27 0) (#[.int .i64 0, .int .i64 0]) 88 :: L) (fun γ27 => cP (fun v L' => ∃ q_ capq_ Y_, v = .slice q_ (n + 1) capq_ ∧ L' = [bx (γ1 1) (#[.int .i64 0, .slice none 0 0]) 24, bx (γ1 0) (#[.int .i64 now, .slice p n cap]) 24] ++ (Y_ ++ []) ∧ SlO 88 Y_ q_ (n + 1) capq_ (ts.take (posK Tim.id ts k) ++ [⟨0, 0⟩] ++ ts.drop (posK Tim.id ts k))) Try.call82 (fun w hw => (insert_t _ ([bx (γ1 1) (#[.int .i64 0, .slice none 0 0]) 24, bx (γ1 0) (#[.int .i64 now, .slice p n cap]) 24] ++ []) Y24 q24 n cq24 ts (posK Tim.id ts k) (γ27 0) (#[.int .i64 0, .int .i64 0]) 1 ([⟨0, 0⟩]) w (hw.pull (A := [bx (γ1 1) (#[.int .i64 0, .slice none 0 0]) 24, bx (γ1 0) (#[.int .i64 now, .slice p n cap]) 24]) (Y := Y24) (R := [])) hO24 (by rfl) (by rfl) (by omega) (by omega) (by omega) (by omega)).mono fun e w' ⟨q_, capq_, Y_, he, hO, hY⟩ => ⟨_, _, he, ⟨q_, capq_, Y_, rfl, rfl, hO⟩, hY.push⟩) ?_))
      rintro v28 L28 ⟨q28, cq28, Y28, rfl, rfl, hO28⟩
      refine qo0 1 [] [1, 2, 3, 6, 8] [(10, .slice q28 (n + 1) cq28)] (on_ (ds_ (sq_ ?_)))
      have hlz := (wheel_iff.1 q3).len
      have hln31 := hO28.len
      obtain ⟨g31, cs31, rfl, rfl, hOw31⟩ := hO28.rowOf (i := posK Tim.id ts k) (by omega)
      obtain ⟨x33, hx33⟩ := get_some (l := (ts.take (posK Tim.id ts k) ++ [⟨0, 0⟩] ++ ts.drop (posK Tim.id ts k))) (m := posK Tim.id ts k) (by omega)
      refine ma [(5, .at g31 0 (posK Tim.id ts k)), (6, .go (ownps 2 (0 + (posK Tim.id ts k) * 2) [undef, undef]))] [3, 6, 10] (fun _ => []) (fun _ L => (L.set 2 (bx g31 (((cs31).setIfInBounds (0 + (posK Tim.id ts k) * 2) (.int .i64 k)).setIfInBounds (0 + (posK Tim.id ts k) * 2 + 1) (.int .i64 at_)) 88))) (fun _ => [(some ⟨g31, 0, none⟩ : Option Addr) = some ⟨g31, 0, none⟩, ((posK Tim.id ts k : Nat)) = ((posK Tim.id ts k : Nat) : Int), posK Tim.id ts k < n + 1] ++ ([0 + (posK Tim.id ts k) * 2 < (cs31).size] ++ ([0 + (posK Tim.id ts k) * 2 + 1 < ((cs31).setIfInBounds (0 + (posK Tim.id ts k) * 2) (.int .i64 k)).size]))) (fun _ => (alA (al2 rfl (al2 rfl (al1 (by omega)))) (alA (al1 (by exact hOw31.room hO28.len hx33 (f := 0) (by decide))) (al1 (by simp only [Array.size_setIfInBounds]; exact hOw31.room hO28.len hx33 (f := 1) (by decide)))))) (fun _ => ds_ (sq_ (ma0 [(1, .go (owns 1 0 1)), (4, .go (owns 0 0 2))] [6] (fun _ => [(7, .int .i64 0)]) (fun _ L => (L.set 0 (bx (γ1 1) (#[.int .i64 now, .slice (some ⟨g31, 0, none⟩) (n + 1) cq28]) 24))) (fun _ => ds_ (rt (owns 0 0 2) (.tuple #[.agg #[.int .i64 now, .slice (some ⟨g31, 0, none⟩) (n + 1) cq28], .int .i64 0]) ?_)))))
      exact fun w' hw => by rw [setV_ins q3 q8 (by omega) hg21]; exact ⟨_, _, _, _, rfl, (SlO.ofOwn (hOw31.putAll (x' := (⟨k, at_⟩ : Tim)) hO28.len hx33) (len_set hO28.len)), hw.below, one_tail (Hs.pick [[bx (γ1 1) (#[.int .i64 now, .slice (some ⟨g31, 0, none⟩) (n + 1) cq28]) 24], [bx (γ1 0) (#[.int .i64 now, .slice p n cap]) 24], [bx g31 (((cs31).setIfInBounds (0 + (posK Tim.id ts k) * 2) (.int .i64 k)).setIfInBounds (0 + (posK Tim.id ts k) * 2 + 1) (.int .i64 at_)) 88]] [2] [0, 1] (by kernel_rfl) hw)⟩
     ·
      have hp_y21 := pos_getK (wheel_iff.1 q3).rs hg21
      have hl_y21 := (List.getElem?_eq_some_iff.1 hp_y21).1
      refine cD (.tuple #[.int .i64 ((posK Tim.id ts k : Nat)), .bool true]) Try.call59 (fun w hw => by have := find_t now p n cap ts k w (hts.kept hw.below) hn (by omega) q3; rw [hasK_some hg21] at this; exact this) (qo0 5 [] [1, 2, 3, 6] [(8, .int .i64 ((posK Tim.id ts k : Nat))), (9, .bool true)] (on_ (ds_ (sq_ (ao_ (qo0 2 [(1, .go (owns 1 1 1))] [1, 2, 3, 6, 8, 9] [(38, .slice p n cap)] (cP (fun v L' => ∃ q_ c_ Y_, v = .slice q_ n c_ ∧ L' = List.take 2 ([bx (γ1 1) (#[.int .i64 0, .slice none 0 0]) 24, bx (γ1 0) (#[.int .i64 now, .slice p n cap]) 24]) ++ (Y_ ++ List.drop 2 ([bx (γ1 1) (#[.int .i64 0, .slice none 0 0]) 24, bx (γ1 0) (#[.int .i64 now, .slice p n cap]) 24])) ∧ SlO 88 Y_ q_ n c_ ts) Try.call61 (fun w hw => (clone_t p n cap ts w (hts.kept hw.below) hn (by omega)).mono fun e w' ⟨q_, c_, Y_, he, hO, hb, hY⟩ => ⟨_, _, he, ⟨q_, c_, Y_, rfl, rfl, hO⟩, hw.join hb hY 2⟩) ?_)))))))
      rintro v38 L38 ⟨q38, cq38, Y38, rfl, rfl, hO38⟩
      refine qo0 1 [] [1, 2, 3, 6, 8, 9] [(10, .slice q38 n cq38)] (on_ (ds_ (sq_ (sq_ (qa0 [] [1, 2, 3, 6, 8, 10] [(41, .bool false)] (ds_ (f_ (at_skip (ds_ (sq_ ?_))))))))))
      have hlz := (wheel_iff.1 q3).len
      have hln42 := hO38.len
      obtain ⟨g42, cs42, rfl, rfl, hOw42⟩ := hO38.rowOf (i := posK Tim.id ts k) (by omega)
      refine ma [(5, .at g42 0 (posK Tim.id ts k)), (6, .go (ownps 2 (0 + (posK Tim.id ts k) * 2) [undef, undef]))] [3, 6, 10] (fun _ => []) (fun _ L => (L.set 2 (bx g42 (((cs42).setIfInBounds (0 + (posK Tim.id ts k) * 2) (.int .i64 k)).setIfInBounds (0 + (posK Tim.id ts k) * 2 + 1) (.int .i64 at_)) 88))) (fun _ => [(some ⟨g42, 0, none⟩ : Option Addr) = some ⟨g42, 0, none⟩, ((posK Tim.id ts k : Nat)) = ((posK Tim.id ts k : Nat) : Int), posK Tim.id ts k < n] ++ ([0 + (posK Tim.id ts k) * 2 < (cs42).size] ++ ([0 + (posK Tim.id ts k) * 2 + 1 < ((cs42).setIfInBounds (0 + (posK Tim.id ts k) * 2) (.int .i64 k)).size]))) (fun _ => (alA (al2 rfl (al2 rfl (al1 (by omega)))) (alA (al1 (by exact hOw42.room hO38.len hp_y21 (f := 0) (by decide))) (al1 (by simp only [Array.size_setIfInBounds]; exact hOw42.room hO38.len hp_y21 (f := 1) (by decide)))))) (fun _ => ds_ (sq_ (ma0 [(1, .go (owns 1 0 1)), (4, .go (owns 0 0 2))] [6] (fun _ => [(7, .int .i64 0)]) (fun _ L => (L.set 0 (bx (γ1 1) (#[.int .i64 now, .slice (some ⟨g42, 0, none⟩) n cq38]) 24))) (fun _ => ds_ (rt (owns 0 0 2) (.tuple #[.agg #[.int .i64 now, .slice (some ⟨g42, 0, none⟩) n cq38], .int .i64 0]) ?_)))))
      exact fun w' hw => by rw [setV_put q3 q8 (by omega) hg21]; exact ⟨_, _, _, _, rfl, (SlO.ofOwn (hOw42.putAll (x' := (⟨k, at_⟩ : Tim)) hO38.len hp_y21) (len_set hO38.len)), hw.below, one_tail (Hs.pick [[bx (γ1 1) (#[.int .i64 now, .slice (some ⟨g42, 0, none⟩) n cq38]) 24], [bx (γ1 0) (#[.int .i64 now, .slice p n cap]) 24], [bx g42 (((cs42).setIfInBounds (0 + (posK Tim.id ts k) * 2) (.int .i64 k)).setIfInBounds (0 + (posK Tim.id ts k) * 2 + 1) (.int .i64 at_)) 88]] [2] [0, 1] (by kernel_rfl) hw)⟩
end Go.Proofs.Ytdbamgbgnpadjaa

/-! The walker: two cells of an element changed in place. -/
namespace Go.Proofs.Ytdbamgbgnpadjaa
open Go Go.RowKit
section
variable {α : Type} [Enc α] {l : List α} {x x' : α} {v v' : Value} {i f n cap : Nat} {cs : Array Value}
end
end Go.Proofs.Ytdbamgbgnpadjaa

/-! The walker: three bounds; what slices.Delete does to its row. -/
namespace Go.Proofs.Ytdbamgbgnpadjaa
open Go Go.RowKit
section
variable {P : Program} {T e : TypeId} {n cap k by_ b o lo hi mx : Nat}
end
section
variable {α : Type} [Enc α] {l : List α} {i i2 n cap : Nat} {cs : Array Value} {w : World}
end
section
variable {E : Env} {k : List Fr} {l lx : Sl} {L : List Ob} {c d : Code}
end
end Go.Proofs.Ytdbamgbgnpadjaa

/-! Timers: slices.Delete. -/
namespace Go.Proofs.Ytdbamgbgnpadjaa
open Go Go.RowKit

end Go.Proofs.Ytdbamgbgnpadjaa

/-! Timers: Cancel. -/
namespace Go.Proofs.Ytdbamgbgnpadjaa
open Go Go.RowKit

end Go.Proofs.Ytdbamgbgnpadjaa

/-! The walker: a drawn region that acts, whose first operations only look and come up ahead of all others: they are walked once, in the order of the text. -/
namespace Go.Proofs.Ytdbamgbgnpadjaa
open Go Go.RowKit

section
variable {P : Program} {ops : Array Oper} {C : (Nat → Bool) → World → Prop} {Q : Array Bool → Act → Prop} {m : Nat}
def lexTo (ops : Array Oper) : Nat → Nat → Array Bool → Bool
  | 0, _, _ => true
  | f + 1, k, listed => (Region.ready .any ops listed).contains k && Region.free .any ops listed k && lexTo ops f (k + 1) (listed.setIfInBounds k true)
def setTo : Nat → Nat → Array Bool → Array Bool
  | 0, _, L => L
  | n + 1, k, L => setTo n (k + 1) (L.setIfInBounds k true)
def wpPre (P : Program) (ops : Array Oper) (m : Nat) (C : (Nat → Bool) → World → Prop) (Q : Array Bool → Act → Prop) : Nat → Array Bool → Act → Prop
  | 0, listed, a => (∀ i ∈ Region.ready .any ops listed, ¬ i < m) ∧ Q listed a
  | f + 1, listed, a => (∃ i ∈ Region.ready .any ops listed, i < m) ∧ ∀ i ∈ Region.ready .any ops listed, i < m → ∃ o v, ops[i]? = some o ∧ Leaves P ops C i o v a ∧ wpPre P ops m C Q f (listed.setIfInBounds i true) (a.put o.dst v)
theorem wpPre_first {i : Nat} {oi : Oper} {v : Value} (him : i < m) (hi : ops[i]? = some oi) (hsel : ∀ (j : Nat) (o : Oper) cs b, ops[j]? = some o → o.op ≠ .select cs b) :
    ∀ (fuel : Nat) (listed : Array Bool) (a : Act),
      (∀ j oj, ops[j]? = some oj → j ≠ i → listed.getD j true = false → (∀ e ∈ oj.after, Region.binds .any e = true → e.on ≠ i) → oi.apart ops oj = true) →
      i ∈ Region.ready .any ops listed → Leaves P ops C i oi v a →
      wpPre P ops m C Q fuel (listed.setIfInBounds i true) (a.put oi.dst v) → wpPre P ops m C Q (fuel + 1) listed a := by
  intro fuel
  induction fuel with
  | zero =>
    intro listed a _ hr hy H
    refine ⟨⟨i, hr, him⟩, fun j hj hjm => ?_⟩
    by_cases hji : j = i
    · subst hji; exact ⟨oi, v, hi, hy, H⟩
    · exact absurd hjm (H.1 j (ready_mono hj hji))
  | succ fuel ih =>
    intro listed a hfree hr hy H
    refine ⟨⟨i, hr, him⟩, fun j hj hjm => ?_⟩
    by_cases hji : j = i
    · subst hji; exact ⟨oi, v, hi, hy, H⟩
    · obtain ⟨oj, u, hoj, hyj, hrest⟩ := H.2 j (ready_mono hj hji) hjm
      obtain ⟨hjun, oj', hoj', hall⟩ := mem_ready.1 hj
      obtain rfl : oj = oj' := Option.some.inj (hoj.symm.trans hoj')
      have hnot : ∀ e ∈ oj.after, Region.binds .any e = true → e.on ≠ i := fun e he hb heq => by
        have h1 := hall e he hb
        have h0 := (mem_ready.1 hr).1
        rw [heq] at h1
        rcases Nat.lt_or_ge i listed.size with h' | h'
        · simp [h'] at h0 h1; rw [h0] at h1; cases h1
        · simp [Array.getElem?_eq_none h'] at h1
      have hap := hfree j oj hoj hji hjun hnot
      obtain ⟨h1, h2, h3⟩ := Oper.apart_spec hap
      have hyj' : Leaves P ops C j oj u a := hyj.of_same (execOp_put oj (fun cs b => hsel j oj cs b hoj) a oi.dst v h1).symm (wanted_put oj a oi.dst v h1).symm
      have hyi' : Leaves P ops C i oi v (a.put oj.dst u) := hy.of_same (execOp_put oi (fun cs b => hsel i oi cs b hi) a oj.dst u h3) (wanted_put oi a oj.dst u h3)
      have hfree' : ∀ k ok, ops[k]? = some ok → k ≠ i → (listed.setIfInBounds j true).getD k true = false →
          (∀ e ∈ ok.after, Region.binds .any e = true → e.on ≠ i) → oi.apart ops ok = true := fun k ok hk hki hun hno => by
        refine hfree k ok hk hki ?_ hno
        by_cases hjk : j = k
        · subst hjk; exact hjun
        · rw [getD_set_ne true hjk] at hun; exact hun
      refine ⟨oj, u, hoj, hyj', ih _ _ hfree' (ready_mono hr (Ne.symm hji)) hyi' ?_⟩
      rw [Array.setIfInBounds_comm _ _ hji, ← Act.put_comm a v u h2]
      exact hrest
theorem wpPre_lex (hs : Region.noSelect ops = true) : ∀ (l : List Oper) (k : Nat) (listed : Array Bool) (a : Act), (∀ j, j < l.length → l[j]? = ops[k + j]?) → k + l.length = m → listed.size = ops.size → (∀ j, j < k → listed.getD j false = true) →
    lexTo ops l.length k listed = true → wpCalm P ops C (fun a' => Q (setTo l.length k listed) a') l k a → wpPre P ops m C Q l.length listed a
  | [], k, listed, _, _, hm, _, hd, _, h => by
    refine ⟨fun i hi him => ?_, h⟩
    have h1 := getD_both' (mem_ready.1 hi).1
    rw [hd i (by simp at hm; omega)] at h1
    cases h1
  | o :: l, k, listed, a, hl, hm, hsz, hd, hB, h => by
    have h0 : ops[k]? = some o := by simpa using (hl 0 (by simp)).symm
    simp only [List.length_cons, lexTo, Bool.and_eq_true] at hB
    obtain ⟨⟨hr, hf⟩, hB'⟩ := hB
    have hl' : ∀ j, j < l.length → l[j]? = ops[(k + 1) + j]? := fun j hj => by have := hl (j + 1) (by simpa using hj); simpa [Nat.add_assoc, Nat.add_comm 1 j] using this
    have hy : ∃ v, Leaves P ops C k o v a ∧ wpCalm P ops C (fun a' => Q (setTo (o :: l).length k listed) a') l (k + 1) (a.put o.dst v) := by
      unfold wpCalm at h
      split at h
      · rename_i hw; obtain ⟨v, h1, h2⟩ := h; exact ⟨v, .inl ⟨hw, h1⟩, h2⟩
      · rename_i hw; exact ⟨undef, .inr ⟨by simpa using hw, rfl, h.1⟩, h.2⟩
    obtain ⟨v, hy, hK⟩ := hy
    have hk : k < listed.size := by rw [hsz]; exact (Array.getElem?_eq_some_iff.1 h0).1
    exact wpPre_first (by simp at hm; omega) h0 (Region.noSelect_spec hs) l.length listed a (Region.free_spec h0 hf) (by simpa using hr) hy
      (wpPre_lex hs l (k + 1) _ _ hl' (by simp at hm; omega) (by simpa using hsz) (fun j hj => by
        have := congrFun (flags_set (listed := listed) (i := k) hk) j
        unfold flags upd at this
        rw [this]
        by_cases hjk : j = k
        · simp [hjk]
        · simp [hd j (by omega)]) hB' hK)
/-- What is listed has all that it waited for. -/
def Down (ops : Array Oper) (listed : Array Bool) : Prop := ∀ j, listed.getD j false = true → ∀ o, ops[j]? = some o → ∀ e ∈ o.after, Region.binds .any e = true → listed.getD e.on false = true
def reach (ops : Array Oper) : Nat → Nat → Nat → Bool
  | 0, _, _ => false
  | f + 1, i, t => match ops[i]? with
    | none => false
    | some o => o.after.any (fun e => Region.binds .any e && e.on == t) || o.after.any (fun e => Region.binds .any e && reach ops f e.on t)
def gate (ops : Array Oper) (m : Nat) : Bool := (List.range ops.size).all fun i => decide (i < m) || (List.range m).all fun t => reach ops ops.size i t
theorem reach_listed {listed : Array Bool} (hd : Down ops listed) : ∀ (f i t : Nat), reach ops f i t = true → (∀ o, ops[i]? = some o → ∀ e ∈ o.after, Region.binds .any e = true → listed.getD e.on false = true) → listed.getD t false = true
  | 0, _, _, h, _ => by cases h
  | f + 1, i, t, h, hi => by
    simp only [reach] at h
    split at h
    · cases h
    · rename_i o ho
      rw [Bool.or_eq_true, Array.any_eq_true', Array.any_eq_true'] at h
      rcases h with ⟨e, he, h⟩ | ⟨e, he, h⟩
      · simp only [Bool.and_eq_true, beq_iff_eq] at h
        rw [← h.2]; exact hi o ho e he h.1
      · simp only [Bool.and_eq_true] at h
        exact reach_listed hd f e.on t h.2 fun o' ho' => hd e.on (hi o ho e he h.1) o' ho'
def noDefer (l : List Oper) : Bool := l.all fun o => match o.op with
  | .defer _ => false
  | _ => true
theorem wpIn_of_calm {rd : Option Nat} {n : Nat} {o : Oper} {a : Act} {w : World} {C' : World → Prop} {v : Value} {K : Act → World → Prop} {Q : Exit → Act → World → Prop} (hdf : ∀ c, o.op ≠ .defer c) (h : calmAt P o a C' w v)
    (hK : ∀ w', C' w' → K (a.put o.dst v) w') : o.wpIn (fen rd) n P a w K Q := by
  refine ⟨fun _ _ => trivial, ?_⟩
  rw [Oper.semAt_eq _ _ _ hdf]
  unfold calmAt at h
  generalize (execOp a.eval o).run P w = r at *
  cases r with
  | ok x w' =>
    cases x <;> simp only [calmUpon] at h
    case value u => rw [h.1]; exact hK _ h.2
    case skip => obtain ⟨rfl, h2⟩ := h; exact hK _ h2
    case enter f args =>
      refine ⟨fun h => (by cases h), fen_calls ?_⟩
      exact h.mono fun e w'' ⟨he, hw''⟩ => by subst he; exact hK _ hw''
  | halt x w' => simp only [calmUpon] at h
theorem anyIn_of_pre {rd : Option Nat} {n f : Nat} {Q' : Exit → Act → World → Prop} (hdf : ∀ (j : Nat) (o : Oper) c, ops[j]? = some o → o.op ≠ .defer c) (hg : gate ops m = true)
    (hK : ∀ listed a w, Q listed a → C (flags listed) w → wpAnyIn (fen rd) n P .any ops Q' f listed a w) : ∀ (fuel : Nat) (listed : Array Bool) (a : Act) (w : World), C (flags listed) w → Down ops listed → wpPre P ops m C Q fuel listed a → wpAnyIn (fen rd) n P .any ops Q' (fuel + f) listed a w
  | 0, listed, a, w, hC, _, h => by rw [Nat.zero_add]; exact hK _ _ _ h.2 hC
  | fuel + 1, listed, a, w, hC, hD, h => by
    rw [show fuel + 1 + f = (fuel + f) + 1 by omega]
    obtain ⟨⟨i0, hi0, him0⟩, h⟩ := h
    unfold wpAnyIn
    refine ⟨fun h0 => (by rw [h0] at hi0; cases hi0), fun i hi => ?_⟩
    obtain ⟨hun, o', ho', hall⟩ := mem_ready.1 hi
    have him : i < m := by
      by_cases him : i < m
      · exact him
      · exfalso
        have h1 := List.all_eq_true.1 hg i (List.mem_range.2 (Array.getElem?_eq_some_iff.1 ho').1)
        simp only [him, decide_false, Bool.false_or] at h1
        have h2 := reach_listed hD _ _ _ (List.all_eq_true.1 h1 i0 (List.mem_range.2 him0)) fun o ho => by
          obtain rfl : o' = o := Option.some.inj (ho'.symm.trans ho)
          exact hall
        have h3 := getD_both' (mem_ready.1 hi0).1
        rw [h2] at h3; cases h3
    obtain ⟨o, v, ho, hy, hr⟩ := h i hi him
    obtain rfl : o = o' := Option.some.inj (ho.symm.trans ho')
    have hlt := ready_lt hi
    have hf := flags_set (listed := listed) hlt
    have hn : Now i o (flags listed) := ⟨getD_both' hun, hall⟩
    have hD' : Down ops (listed.setIfInBounds i true) := by
      intro j hj oj hoj e he hb
      by_cases hji : j = i
      · subst hji
        obtain rfl : o = oj := Option.some.inj (ho.symm.trans hoj)
        exact getD_set_true (hall e he hb)
      · rw [getD_set_ne false (fun e => hji e.symm)] at hj
        exact getD_set_true (hD j hj oj hoj e he hb)
    unfold wpOpIn
    simp only [ho]
    rcases hy with ⟨hwant, hv⟩ | ⟨hwant, rfl, hc⟩
    · rw [if_pos hwant]
      exact wpIn_of_calm (fun c => hdf i o c ho) (hv _ _ hC hn) fun w' hw' => anyIn_of_pre hdf hg hK fuel _ _ w' (by rw [hf]; exact hw') hD' hr
    · rw [if_neg (by simp [hwant])]
      exact ⟨fun _ _ => trivial, anyIn_of_pre hdf hg hK fuel _ _ w (by rw [hf]; exact hc _ _ hC hn) hD' hr⟩
end
section
variable {E : Env} {k : List Fr} {all : List Oper} {f : Nat} {l : Sl} {L : List Ob}
theorem at_calmTo {id : Nat} (m : Nat) (hrd : E.rd = none) (hm : E.P.follows .mixedOrders = true) (hsel : Region.noSelect all.toArray = true) (hdf : noDefer all = true) (hlex : lexTo all.toArray m 0 (Array.replicate all.length false) = true) (hg : gate all.toArray m = true) (hlen : all.length = m + f)
    (h : Calm E (.loop (fun a w => wpAnyIn (fen E.rd) 0 E.P .any all.toArray (postF E.rd E.P E.R k) f (setTo m 0 (Array.replicate all.length false)) a w) :: k) all (all.take m) 0 l L) : At E k (.region id all.toArray true) l L := by
  refine ⟨fun a w ha hs => wpIn_region_any hm ?_⟩
  have htl : (all.take m).length = m := by rw [List.length_take]; omega
  have hp := wpPre_lex (P := E.P) (C := fun _ w => Hs E.w0 L w) (Q := fun listed a' => ∀ w', Hs E.w0 L w' → wpAnyIn (fen E.rd) 0 E.P .any all.toArray (postF E.rd E.P E.R k) f listed a' w') (m := m) hsel (all.take m) 0 (Array.replicate all.length false) a
    (fun j hj => by rw [htl] at hj; simp [List.getElem?_take, hj]) (by omega) (by simp) (fun j hj => by omega) (by rw [htl]; exact hlex) (by rw [htl]; exact h.out a ha)
  rw [htl] at hp
  have := anyIn_of_pre (rd := E.rd) (n := 0) (f := f) (Q' := postF E.rd E.P E.R k) (fun j o c hj e => by
    have h1 := List.all_eq_true.1 hdf o (List.mem_of_getElem? (by simpa using hj))
    simp [e] at h1) hg (fun listed a' w' hq hC => hq w' hC) m (Array.replicate all.length false) a { w with drawn := w.drawn + 1 } ⟨hs.rows, hs.low, hs.apart, hs.below.drew⟩ (fun j hj => by
    simp only [Array.getD_eq_getD_getElem?, Array.getElem?_replicate] at hj
    split at hj <;> cases hj) hp
  simpa [hlen] using this
theorem done_pre {li li' : Array Bool} (e : li = li') (h : Any E k all f li' l L) : Done E (.loop (fun a w => wpAnyIn (fen E.rd) 0 E.P .any all.toArray (postF E.rd E.P E.R k) f li a w) :: k) l L := by subst e; exact done_loop fun a w ha hs => h.out a w ha hs
end
end Go.Proofs.Ytdbamgbgnpadjaa

/-! Alarms: set, cancel, drop. -/
namespace Go.Proofs.Ytdbamgbgnpadjaa
open Go Go.RowKit

set_option maxRecDepth 100000 in
theorem aset_t (w0 : World) (YX Y : List Ob) (g : Nat) (now : Int) (p : Option Addr) (n cap : Nat) (po : Option Addr) (no co : Nat) (ts : List Tim) (k at_ : Int) (w : World)
 (hH : Hs w0 (bx g (#[.int .i64 now, .slice p n cap, .slice po no co]) 27 :: (Y ++ YX)) w) (hO : SlO 88 Y p n cap ts) (hb : n ≤ 1000) (hgd : wheelB now ts = true) (h0 : 0 ≤ k) (h1 : k < 32) (ha : aheadP now at_)
 : Calls Try.prog 49 #[.pointer (some ⟨g, 0, none⟩), .int .i64 k, .int .i64 at_] w fun e w' => ∃ q m c Y', e = .returned (.int .i64 0) ∧ SlO 88 Y' q m c (tput ts k at_) ∧ Hs w0 (Y' ++ (bx g #[.int .i64 now, .slice q m c, .slice po no co] 27 :: YX)) w' := by
 have hn := hO.len
 rw [show Y ++ YX = Y ++ (YX ++ []) from by rw [List.append_nil]] at hH
 refine enter hH Try.func49 rfl Try.ntmps49 rfl (sq_ (qa0 [] [0, 1, 2] [] (ds_ (sq_ (ao_ (qo0 6 [(3, .go (owns 0 0 2))] [0] [(13, .agg #[.int .i64 now, .slice p n cap]), (14, .int .i64 k), (15, .int .i64 at_)] (cP (fun v L' => ∃ q_ m_ c_ Y_, v = .tuple #[.agg #[.int .i64 now, .slice q_ m_ c_], .int .i64 0] ∧ L' = List.take 1 (bx g (#[.int .i64 now, .slice p n cap, .slice po no co]) 27 :: (Y ++ (YX ++ []))) ++ (Y_ ++ List.drop 1 (bx g (#[.int .i64 now, .slice p n cap, .slice po no co]) 27 :: (Y ++ (YX ++ [])))) ∧ SlO 88 Y_ q_ m_ c_ (tput ts k at_)) Try.call70 (fun w hw => by have := set_t now p n cap ts k at_ w (hO.atN (A := [_]) hw) hO.len (by omega); rw [setV_tput hgd h0 h1 ha] at this; exact this.mono fun e w' ⟨q_, m_, c_, Y_, he, hO, hb, hY⟩ => ⟨_, _, he, ⟨q_, m_, c_, Y_, rfl, rfl, hO⟩, hw.join hb hY 1⟩) ?_)))))))
 rintro v3 L3 ⟨q3, m3, c3, Y3, rfl, rfl, hO3⟩
 have hm3 := hO3.len
 refine mo0 6 [(11, .go (owns 0 0 2))] [0] (fun γ4 => [(7, .pointer (some ⟨γ4 0, 0, none⟩)), (8, .int .i64 0)]) (fun γ4 L => bx (γ4 0) (#[.int .i64 now, .slice q3 m3 c3]) 24 :: L) (fun γ4 => on_ (ds_ (sq_ (sq_ (qa0 [] [0, 7, 8] [(20, .bool true)] (ds_ (t_ (ma0 [(1, .go (owns 0 0 2)), (4, .go (owns 1 0 2))] [8] (fun _ => []) (fun _ L => (L.set 1 (bx g (#[.int .i64 now, .slice q3 m3 c3, .slice po no co]) 27))) (fun _ => ds_ (sq_ (qa0 [] [] [(6, .int .i64 0)] (ds_ (rt ([]) (.int .i64 0) ?_)))))))))))))
 exact fun w' hw => ⟨_, _, _, _, rfl, hO3, by have := Hs.pick [[bx (γ4 0) (#[.int .i64 now, .slice q3 m3 c3]) 24], [bx g (#[.int .i64 now, .slice q3 m3 c3, .slice po no co]) 27], Y3, Y, YX] [2, 1, 4] [0, 3] (by kernel_rfl) hw; simpa [chunk] using this⟩

set_option maxRecDepth 100000 in
theorem aset_no (w0 : World) (YX Y : List Ob) (g : Nat) (now : Int) (p : Option Addr) (n cap : Nat) (po : Option Addr) (no co : Nat) (ts : List Tim) (k at_ : Int) (w : World)
 (hH : Hs w0 (bx g (#[.int .i64 now, .slice p n cap, .slice po no co]) 27 :: (Y ++ YX)) w) (hO : SlO 88 Y p n cap ts) (hb : n ≤ 1000) (hgd : wheelB now ts = true) (ha : ¬ aheadP now at_)
 : Calls Try.prog 49 #[.pointer (some ⟨g, 0, none⟩), .int .i64 k, .int .i64 at_] w fun e w' => e = .returned (.int .i64 2) ∧ Hs w0 (Y ++ (bx g #[.int .i64 now, .slice p n cap, .slice po no co] 27 :: YX)) w' := by
 have hn := hO.len
 rw [show Y ++ YX = Y ++ (YX ++ []) from by rw [List.append_nil]] at hH
 refine enter hH Try.func49 rfl Try.ntmps49 rfl (sq_ (qa0 [] [0, 1, 2] [] (ds_ (sq_ (ao_ (qo0 6 [(3, .go (owns 0 0 2))] [0] [(13, .agg #[.int .i64 now, .slice p n cap]), (14, .int .i64 k), (15, .int .i64 at_)] (cP (fun v L' => ∃ q_ m_ c_ Y_, v = .tuple #[.agg #[.int .i64 0, .slice q_ m_ c_], .int .i64 2] ∧ L' = List.take 1 (bx g (#[.int .i64 now, .slice p n cap, .slice po no co]) 27 :: (Y ++ (YX ++ []))) ++ (Y_ ++ List.drop 1 (bx g (#[.int .i64 now, .slice p n cap, .slice po no co]) 27 :: (Y ++ (YX ++ [])))) ∧ SlO 88 Y_ q_ m_ c_ ([] : List Tim)) Try.call70 (fun w hw => by have := set_t now p n cap ts k at_ w (hO.atN (A := [_]) hw) hO.len (by omega); rw [setV_nah hgd ha] at this; exact this.mono fun e w' ⟨q_, m_, c_, Y_, he, hO, hb, hY⟩ => ⟨_, _, he, ⟨q_, m_, c_, Y_, rfl, rfl, hO⟩, hw.join hb hY 1⟩) ?_)))))))
 rintro v3 L3 ⟨q3, m3, c3, Y3, rfl, rfl, hO3⟩
 have hm3 := hO3.len
 simp only [List.length_cons, List.length_nil] at hm3
 refine mo0 6 [(11, .go (owns 0 0 2))] [0] (fun γ4 => [(7, .pointer (some ⟨γ4 0, 0, none⟩)), (8, .int .i64 2)]) (fun γ4 L => bx (γ4 0) (#[.int .i64 0, .slice q3 m3 c3]) 24 :: L) (fun γ4 => on_ (ds_ (sq_ (sq_ (qa0 [] [0, 7, 8] [(20, .bool false)] (ds_ (f_ (at_skip (ds_ (sq_ (qa0 [] [] [(6, .int .i64 2)] (ds_ (rt ([]) (.int .i64 2) ?_)))))))))))))
 exact fun w' hw => ⟨rfl, by have := Hs.pick [[bx (γ4 0) (#[.int .i64 0, .slice q3 m3 c3]) 24], [bx g (#[.int .i64 now, .slice p n cap, .slice po no co]) 27], Y3, Y, YX] [3, 1, 4] [0, 2] (by kernel_rfl) hw; simpa [chunk] using this⟩

set_option maxRecDepth 100000 in
theorem adrop_t (w0 : World) (YX Y : List Ob) (g : Nat) (now : Int) (p : Option Addr) (n cap : Nat) (po : Option Addr) (no co : Nat) (rs : List Alm) (k : Int) (w : World)
 (hH : Hs w0 (bx g (#[.int .i64 now, .slice po no co, .slice p n cap]) 27 :: (Y ++ YX)) w) (hO : SlO 47 Y p n cap rs) (hb : n ≤ 1000)
 : Calls Try.prog 52 #[.pointer (some ⟨g, 0, none⟩), .int .i64 k] w fun e w' => ∃ q m c Y', e = .returned (.tuple #[]) ∧ SlO 47 Y' q m c (rdrop rs k) ∧ Hs w0 (Y' ++ (bx g #[.int .i64 now, .slice po no co, .slice q m c] 27 :: YX)) w' := by
 have hn := hO.len
 rw [show Y ++ YX = Y ++ (YX ++ []) from by rw [List.append_nil]] at hH
 refine enter hH Try.func52 rfl Try.ntmps52 rfl (sq_ (ma0 [] [0] (fun γ1 => [(3, .pointer (some ⟨γ1 0, 0, none⟩))]) (fun γ1 L => bx (γ1 0) (#[.int .i64 k]) 3 :: L) (fun γ1 => ds_ (ao_ (qo0 6 [(4, .go (owns 1 2 1))] [] [(4, .pointer (some ⟨g, 0, none⟩)), (8, .slice p n cap), (9, .func (.func 74) #[] #[.pointer (some ⟨γ1 0, 0, none⟩)])] (cP (fun v L' => ∃ qz mz cz Yz, v = .slice qz mz cz ∧ L' = [bx (γ1 0) (#[.int .i64 k]) 3, bx g (#[.int .i64 now, .slice po no co, .slice p n cap]) 27] ++ (Yz ++ ((YX ++ []))) ∧ SlO 47 Yz qz mz cz (rdrop rs k)) Try.call73 (fun w hw => (adeletef_t _ ([bx (γ1 0) (#[.int .i64 k]) 3, bx g (#[.int .i64 now, .slice po no co, .slice p n cap]) 27] ++ ((YX ++ []))) Y 74 #[.pointer (some ⟨γ1 0, 0, none⟩)] (isV k) p n cap rs w (fun args w => Try.call74 args w) (Hs.front (A := [bx (γ1 0) (#[.int .i64 k]) 3, bx g (#[.int .i64 now, .slice po no co, .slice p n cap]) 27]) (Y := Y) (R := ((YX ++ []))) hw) hO (by omega) (fun x hx w' hX => isv_t x (γ1 0) k w' (rd_oneT (hX.row 0 rfl)))).mono fun e w' ⟨qz, mz, cz, Yz, he, hO, hY⟩ => ⟨_, _, he, ⟨qz, mz, cz, Yz, rfl, rfl, hO⟩, hY.push⟩) ?_))))))
 rintro v3 L3 ⟨q3, m3, cq3, Y3, rfl, rfl, hO3⟩
 refine mo0 3 [(9, .go (owns 1 2 1))] [] (fun _ => []) (fun _ L => (L.set 1 (bx g (#[.int .i64 now, .slice po no co, .slice q3 m3 cq3]) 27))) (fun _ => on_ (done_return (by rfl) ?_))
 exact fun w' hw => ⟨_, _, _, _, rfl, hO3, by have := Hs.pick [[bx (γ1 0) (#[.int .i64 k]) 3], [bx g (#[.int .i64 now, .slice po no co, .slice q3 m3 cq3]) 27], Y3, YX] [2, 1, 3] [0] (by kernel_rfl) hw; simpa [chunk] using this⟩
end Go.Proofs.Ytdbamgbgnpadjaa

/-! Alarms: Start. -/
namespace Go.Proofs.Ytdbamgbgnpadjaa
open Go Go.RowKit

set_option maxRecDepth 100000 in
theorem start_t (now : Int) (p : Option Addr) (n cap : Nat) (ts : List Tim) (pa : Option Addr) (na ca : Nat) (rs : List Alm) (x : Alm) (at_ : Int) (w : World)
 (hts : Sv w p ts) (hn : n = ts.length) (hb : n ≤ 1000)
 (hrs : Sv w pa rs) (hna : na = rs.length) (hba : na ≤ 1000)
 : Calls Try.prog 21 #[.agg #[.int .i64 now, .slice p n cap, .slice pa na ca], .agg #[.int .i64 x.vcpu, .int .i64 x.port, .int .i64 x.every], .int .i64 at_] w fun e w' => ∃ q m c Y q2 m2 c2 X, e = .returned (.tuple #[.agg #[.int .i64 (startV now ts rs x at_).1, .slice q m c, .slice q2 m2 c2], .int .i64 (startV now ts rs x at_).2.2.2]) ∧ SlO 88 Y q m c (startV now ts rs x at_).2.1 ∧ SlO 47 X q2 m2 c2 (startV now ts rs x at_).2.2.1 ∧ Below w.heap.size w w' ∧ Hs w (Y ++ X) w' := by
 refine enter (Hs.start w) Try.func21 rfl Try.ntmps21 rfl (sq_ (ma0 [] [] (fun γ1 => [(3, .pointer (some ⟨γ1 0, 0, none⟩)), (4, .pointer (some ⟨γ1 1, 0, none⟩)), (5, .pointer (some ⟨γ1 2, 0, none⟩)), (6, .pointer (some ⟨γ1 3, 0, none⟩))]) (fun γ1 L => bx (γ1 3) (#[.int .i64 0, .slice none 0 0, .slice none 0 0]) 27 :: bx (γ1 2) (#[.int .i64 at_]) 2 :: bx (γ1 1) (#[.int .i64 x.vcpu, .int .i64 x.port, .int .i64 x.every]) 47 :: bx (γ1 0) (#[.int .i64 now, .slice p n cap, .slice pa na ca]) 27 :: L) (fun γ1 => ds_ (sq_ (ao_ (qo0 4 [(0, .go (owns 3 0 3)), (2, .go (owns 2 0 1))] [6] [(8, .agg #[.int .i64 now, .slice p n cap, .slice pa na ca]), (10, .int .i64 x.vcpu), (11, .func (.func 48) #[] #[.pointer (some ⟨γ1 1, 0, none⟩), .pointer (some ⟨γ1 2, 0, none⟩)])] (ops_inline (g := 32) (args := #[.agg #[.int .i64 now, .slice p n cap, .slice pa na ca], .int .i64 x.vcpu, .func (.func 48) #[] #[.pointer (some ⟨γ1 1, 0, none⟩), .pointer (some ⟨γ1 2, 0, none⟩)]]) (by kernel_rfl) (by kernel_rfl) (by kernel_rfl) (fun args w => Try.call32 args w) Try.func32 rfl Try.ntmps32 rfl (sq_ (ma0 [] [1, 2] (fun γ3 => [(3, .pointer (some ⟨γ3 0, 0, none⟩)), (6, .pointer (some ⟨γ3 1, 0, none⟩))]) (fun γ3 L => bx (γ3 1) (#[.int .i64 0, .slice none 0 0, .slice none 0 0]) 27 :: bx (γ3 0) (#[.int .i64 now, .slice p n cap, .slice pa na ca]) 27 :: L) (fun γ3 => ds_ (sq_ (sq_ (ao_ (qo0 1 [(0, .go (owns 1 0 3))] [1, 2, 3, 6] [(11, .agg #[.int .i64 now, .slice p n cap, .slice pa na ca])] ?_))))))))))))))
 rcases q5 : alB now ts rs with _ | _
 ·
  refine cD (.int .i64 280) Try.call9 (fun w hw => by have := acheck_t now p n cap ts pa na ca rs w (hts.kept hw.below) hn (by omega) (hrs.kept hw.below) hna (by omega); rw [q5] at this; exact this) (qo0 1 [] [1, 2, 3, 6] [(8, .int .i64 280)] (on_ (ds_ (sq_ (qa0 [] [1, 2, 3, 6, 8] [(14, .bool true)] (ds_ (t_ (sq_ (qa0 [(2, .go (owns 0 0 3))] [6] [(7, .int .i64 280)] (ds_ (bk (owns 0 0 3) (.tuple #[.agg #[.int .i64 0, .slice none 0 0, .slice none 0 0], .int .i64 280]) (qo0 4 [(7, .go (owns 2 0 3))] [6] [(7, .int .i64 280)] (on_ (ds_ (rt (owns 2 0 3) (.tuple #[.agg #[.int .i64 0, .slice none 0 0, .slice none 0 0], .int .i64 280]) ?_)))))))))))))))
  exact fun w' hw => by rw [startV_bad q5]; exact ⟨none, 0, 0, [], none, 0, 0, [], rfl, SlO.nil, SlO.nil, hw.below, hw.sub (List.nil_sublist _)⟩
 ·
  refine cD (.int .i64 0) Try.call9 (fun w hw => by have := acheck_t now p n cap ts pa na ca rs w (hts.kept hw.below) hn (by omega) (hrs.kept hw.below) hna (by omega); rw [q5] at this; exact this) (qo0 1 [] [1, 2, 3, 6] [(8, .int .i64 0)] (on_ (ds_ (sq_ (qa0 [] [1, 2, 3, 6, 8] [(14, .bool false)] (ds_ (f_ (at_skip (ds_ (sq_ (sq_ (ao_ (qo0 1 [] [2, 3, 6] [(17, .int .i64 x.vcpu)] ?_)))))))))))))
  rcases q13 : vcB x.vcpu with _ | _
  ·
   refine cD (.bool false) Try.call40 (fun w hw => by have := vc_t x.vcpu w; rw [q13] at this; exact this) (qo0 1 [] [2, 3, 6] [(19, .bool true)] (on_ (ds_ (t_ (sq_ (qa0 [(1, .go (owns 0 0 3))] [6] [(7, .int .i64 2)] (ds_ (bk (owns 0 0 3) (.tuple #[.agg #[.int .i64 0, .slice none 0 0, .slice none 0 0], .int .i64 2]) (qo0 4 [(7, .go (owns 2 0 3))] [6] [(7, .int .i64 2)] (on_ (ds_ (rt (owns 2 0 3) (.tuple #[.agg #[.int .i64 0, .slice none 0 0, .slice none 0 0], .int .i64 2]) ?_))))))))))))
   exact fun w' hw => by rw [startV_arg q5 (alm_vc q13)]; exact ⟨none, 0, 0, [], none, 0, 0, [], rfl, SlO.nil, SlO.nil, hw.below, hw.sub (List.nil_sublist _)⟩
  ·
   refine cD (.bool true) Try.call40 (fun w hw => by have := vc_t x.vcpu w; rw [q13] at this; exact this) (qo0 1 [] [2, 3, 6] [(19, .bool false)] (on_ (ds_ (f_ (at_skip (ds_ (sq_ ?_)))))))
   have hlr := (al_iff.1 q5).rl
   have hlt := (wheel_iff.1 (al_iff.1 q5).wh).len
   refine at_any (by kernel_rfl) ?_
   refine tk (m := 6) [0, 2] [] [2, 3, 6] [(21, .pointer (some ⟨γ3 0, 0, none⟩)), (23, .pointer (some ⟨γ3 0, 2, none⟩))] ([]) #[true, false, true, false, false, false, false, false] al0 ?_
   refine any_cutX (V := (List Ob) × (Nat) × (Option Addr) × (Nat → Nat)) (fun ⟨Y101, cq101, q101, γ141⟩ => SlO 47 Y101 q101 na cq101 rs) 0 #[true, true, true, true, true, true, true, true] (fun ⟨Y101, cq101, q101, γ141⟩ => [(2, .func (.func 48) #[] #[.pointer (some ⟨γ1 1, 0, none⟩), .pointer (some ⟨γ1 2, 0, none⟩)]), (3, .pointer (some ⟨γ3 0, 0, none⟩)), (6, .pointer (some ⟨γ3 1, 0, none⟩)), (9, .pointer (some ⟨γ141 0, 0, none⟩))]) (fun ⟨Y101, cq101, q101, γ141⟩ => bx (γ141 0) (#[.int .i64 now, .slice p n cap, .slice q101 na cq101]) 27 :: bx (γ3 1) (#[.int .i64 0, .slice none 0 0, .slice none 0 0]) 27 :: bx (γ3 0) (#[.int .i64 now, .slice p n cap, .slice pa na ca]) 27 :: bx (γ1 3) (#[.int .i64 0, .slice none 0 0, .slice none 0 0]) 27 :: bx (γ1 2) (#[.int .i64 at_]) 2 :: bx (γ1 1) (#[.int .i64 x.vcpu, .int .i64 x.port, .int .i64 x.every]) 47 :: bx (γ1 0) (#[.int .i64 now, .slice p n cap, .slice pa na ca]) 27 :: (Y101 ++ [])) ?_ (fun hmx12 => ?_)
   rotate_left
   ·
    refine any_cutX (V := (List Ob) × (Nat) × (Option Addr) × (Nat → Nat)) (fun ⟨Y101, cq101, q101, γ141⟩ => SlO 47 Y101 q101 na cq101 rs) 1 #[true, true, true, true, true, true, true, false] (fun ⟨Y101, cq101, q101, γ141⟩ => [(2, .func (.func 48) #[] #[.pointer (some ⟨γ1 1, 0, none⟩), .pointer (some ⟨γ1 2, 0, none⟩)]), (3, .pointer (some ⟨γ3 0, 0, none⟩)), (6, .pointer (some ⟨γ3 1, 0, none⟩)), (9, .pointer (some ⟨γ141 0, 0, none⟩)), (26, .agg #[.int .i64 now, .slice p n cap, .slice q101 na cq101])]) (fun ⟨Y101, cq101, q101, γ141⟩ => bx (γ141 0) (#[.int .i64 0, .slice none 0 0, .slice none 0 0]) 27 :: bx (γ3 1) (#[.int .i64 0, .slice none 0 0, .slice none 0 0]) 27 :: bx (γ3 0) (#[.int .i64 now, .slice p n cap, .slice pa na ca]) 27 :: bx (γ1 3) (#[.int .i64 0, .slice none 0 0, .slice none 0 0]) 27 :: bx (γ1 2) (#[.int .i64 at_]) 2 :: bx (γ1 1) (#[.int .i64 x.vcpu, .int .i64 x.port, .int .i64 x.every]) 47 :: bx (γ1 0) (#[.int .i64 now, .slice p n cap, .slice pa na ca]) 27 :: (Y101 ++ [])) ?_ (fun hmx11 => ?_)
    ·
     rintro ⟨Y101, cq101, q101, γ141⟩ hO101
     refine a1 7 rfl ?_
     refine mo0 1 [(7, .go (owns 0 0 3))] [2, 3, 6, 9] (fun _ => []) (fun _ L => (L.set 0 (bx (γ141 0) (#[.int .i64 now, .slice p n cap, .slice q101 na cq101]) 27))) (fun _ => ?_)
     refine od_ ?_
     exact wk (hmx12 (Y101, cq101, q101, γ141) hO101) [2, 3, 6, 9] [[_], [_], [_], [_], [_], [_], [_], _] [0, 1, 2, 3, 4, 5, 6, 7] rfl rfl
    refine any_cutX (V := (List Ob) × (Nat) × (Option Addr)) (fun ⟨Y101, cq101, q101⟩ => SlO 47 Y101 q101 na cq101 rs) 2 #[true, true, true, true, true, true, false, false] (fun ⟨Y101, cq101, q101⟩ => [(2, .func (.func 48) #[] #[.pointer (some ⟨γ1 1, 0, none⟩), .pointer (some ⟨γ1 2, 0, none⟩)]), (3, .pointer (some ⟨γ3 0, 0, none⟩)), (6, .pointer (some ⟨γ3 1, 0, none⟩)), (26, .agg #[.int .i64 now, .slice p n cap, .slice q101 na cq101])]) (fun ⟨Y101, cq101, q101⟩ => bx (γ3 1) (#[.int .i64 0, .slice none 0 0, .slice none 0 0]) 27 :: bx (γ3 0) (#[.int .i64 now, .slice p n cap, .slice pa na ca]) 27 :: bx (γ1 3) (#[.int .i64 0, .slice none 0 0, .slice none 0 0]) 27 :: bx (γ1 2) (#[.int .i64 at_]) 2 :: bx (γ1 1) (#[.int .i64 x.vcpu, .int .i64 x.port, .int .i64 x.every]) 47 :: bx (γ1 0) (#[.int .i64 now, .slice p n cap, .slice pa na ca]) 27 :: (Y101 ++ [])) ?_ (fun hmx10 => ?_)
    ·
     rintro ⟨Y101, cq101, q101⟩ hO101
     refine a1 6 rfl ?_
     refine mo0 1 [] [2, 3, 6, 26] (fun γ141 => [(9, .pointer (some ⟨γ141 0, 0, none⟩))]) (fun γ141 L => bx (γ141 0) (#[.int .i64 0, .slice none 0 0, .slice none 0 0]) 27 :: L) (fun γ141 => ?_)
     refine od_ ?_
     exact wk (hmx11 (Y101, cq101, q101, γ141) hO101) [2, 3, 6, 9, 26] [[_], [_], [_], [_], [_], [_], [_], _] [0, 1, 2, 3, 4, 5, 6, 7] rfl rfl
    refine any_cutX (V := (List Ob) × (Nat) × (Option Addr) × (Nat → Nat)) (fun ⟨Y101, cq101, q101, γ141⟩ => SlO 47 Y101 q101 na cq101 rs) 3 #[true, false, true, true, true, false, true, false] (fun ⟨Y101, cq101, q101, γ141⟩ => [(2, .func (.func 48) #[] #[.pointer (some ⟨γ1 1, 0, none⟩), .pointer (some ⟨γ1 2, 0, none⟩)]), (3, .pointer (some ⟨γ3 0, 0, none⟩)), (6, .pointer (some ⟨γ3 1, 0, none⟩)), (9, .pointer (some ⟨γ141 0, 0, none⟩)), (21, .pointer (some ⟨γ3 0, 0, none⟩)), (25, .slice q101 na cq101)]) (fun ⟨Y101, cq101, q101, γ141⟩ => bx (γ141 0) (#[.int .i64 0, .slice none 0 0, .slice none 0 0]) 27 :: bx (γ3 1) (#[.int .i64 0, .slice none 0 0, .slice none 0 0]) 27 :: bx (γ3 0) (#[.int .i64 now, .slice p n cap, .slice pa na ca]) 27 :: bx (γ1 3) (#[.int .i64 0, .slice none 0 0, .slice none 0 0]) 27 :: bx (γ1 2) (#[.int .i64 at_]) 2 :: bx (γ1 1) (#[.int .i64 x.vcpu, .int .i64 x.port, .int .i64 x.every]) 47 :: bx (γ1 0) (#[.int .i64 now, .slice p n cap, .slice pa na ca]) 27 :: (Y101 ++ [])) ?_ (fun hmx9 => ?_)
    ·
     rintro ⟨Y101, cq101, q101, γ141⟩ hO101
     refine a1 1 rfl ?_
     refine qo0 1 [(1, .go (owns 2 0 2))] [2, 3, 6, 9, 25] [(22, .agg #[.int .i64 now, .slice p n cap])] ?_
     refine od_ ?_
     refine tk (m := 1) [5] [] [2, 3, 6, 9] [(26, .agg #[.int .i64 now, .slice p n cap, .slice q101 na cq101])] ([]) #[true, true, true, true, true, true, true, false] al0 ?_
     exact wk (hmx11 (Y101, cq101, q101, γ141) hO101) [2, 3, 6, 9, 26] [[_], [_], [_], [_], [_], [_], [_], _] [0, 1, 2, 3, 4, 5, 6, 7] rfl rfl
    refine any_cutX (V := (Nat → Nat)) (fun γ141 => True) 3 #[true, true, true, true, false, false, true, false] (fun γ141 => [(2, .func (.func 48) #[] #[.pointer (some ⟨γ1 1, 0, none⟩), .pointer (some ⟨γ1 2, 0, none⟩)]), (3, .pointer (some ⟨γ3 0, 0, none⟩)), (6, .pointer (some ⟨γ3 1, 0, none⟩)), (9, .pointer (some ⟨γ141 0, 0, none⟩)), (22, .agg #[.int .i64 now, .slice p n cap]), (24, .slice pa na ca)]) (fun γ141 => [bx (γ141 0) (#[.int .i64 0, .slice none 0 0, .slice none 0 0]) 27, bx (γ3 1) (#[.int .i64 0, .slice none 0 0, .slice none 0 0]) 27, bx (γ3 0) (#[.int .i64 now, .slice p n cap, .slice pa na ca]) 27, bx (γ1 3) (#[.int .i64 0, .slice none 0 0, .slice none 0 0]) 27, bx (γ1 2) (#[.int .i64 at_]) 2, bx (γ1 1) (#[.int .i64 x.vcpu, .int .i64 x.port, .int .i64 x.every]) 47, bx (γ1 0) (#[.int .i64 now, .slice p n cap, .slice pa na ca]) 27]) ?_ (fun hmx8 => ?_)
    ·
     rintro γ141 _
     refine a1 4 rfl ?_
     refine cP (fun v L' => ∃ q_ c_ Y_, v = .slice q_ na c_ ∧ L' = List.take 7 ([bx (γ141 0) (#[.int .i64 0, .slice none 0 0, .slice none 0 0]) 27, bx (γ3 1) (#[.int .i64 0, .slice none 0 0, .slice none 0 0]) 27, bx (γ3 0) (#[.int .i64 now, .slice p n cap, .slice pa na ca]) 27, bx (γ1 3) (#[.int .i64 0, .slice none 0 0, .slice none 0 0]) 27, bx (γ1 2) (#[.int .i64 at_]) 2, bx (γ1 1) (#[.int .i64 x.vcpu, .int .i64 x.port, .int .i64 x.every]) 47, bx (γ1 0) (#[.int .i64 now, .slice p n cap, .slice pa na ca]) 27]) ++ (Y_ ++ List.drop 7 ([bx (γ141 0) (#[.int .i64 0, .slice none 0 0, .slice none 0 0]) 27, bx (γ3 1) (#[.int .i64 0, .slice none 0 0, .slice none 0 0]) 27, bx (γ3 0) (#[.int .i64 now, .slice p n cap, .slice pa na ca]) 27, bx (γ1 3) (#[.int .i64 0, .slice none 0 0, .slice none 0 0]) 27, bx (γ1 2) (#[.int .i64 at_]) 2, bx (γ1 1) (#[.int .i64 x.vcpu, .int .i64 x.port, .int .i64 x.every]) 47, bx (γ1 0) (#[.int .i64 now, .slice p n cap, .slice pa na ca]) 27])) ∧ SlO 47 Y_ q_ na c_ rs) Try.call60 (fun w hw => (aclone_t pa na ca rs w (hrs.kept hw.below) hna (by omega)).mono fun e w' ⟨q_, c_, Y_, he, hO, hb, hY⟩ => ⟨_, _, he, ⟨q_, c_, Y_, rfl, rfl, hO⟩, hw.join hb hY 7⟩) ?_
     rintro v101 L101 ⟨q101, cq101, Y101, rfl, rfl, hO101⟩
     refine od_ ?_
     refine tk (m := 1) [5] [] [2, 3, 6, 9] [(26, .agg #[.int .i64 now, .slice p n cap, .slice q101 na cq101])] ([]) #[true, true, true, true, true, true, true, false] al0 ?_
     exact wk (hmx11 (Y101, cq101, q101, γ141) hO101) [2, 3, 6, 9, 26] [[_], [_], [_], [_], [_], [_], [_], _] [0, 1, 2, 3, 4, 5, 6, 7] rfl rfl
    refine any_cutX (V := (Nat → Nat)) (fun γ141 => True) 4 #[true, false, true, true, false, false, true, false] (fun γ141 => [(2, .func (.func 48) #[] #[.pointer (some ⟨γ1 1, 0, none⟩), .pointer (some ⟨γ1 2, 0, none⟩)]), (3, .pointer (some ⟨γ3 0, 0, none⟩)), (6, .pointer (some ⟨γ3 1, 0, none⟩)), (9, .pointer (some ⟨γ141 0, 0, none⟩)), (21, .pointer (some ⟨γ3 0, 0, none⟩)), (24, .slice pa na ca)]) (fun γ141 => [bx (γ141 0) (#[.int .i64 0, .slice none 0 0, .slice none 0 0]) 27, bx (γ3 1) (#[.int .i64 0, .slice none 0 0, .slice none 0 0]) 27, bx (γ3 0) (#[.int .i64 now, .slice p n cap, .slice pa na ca]) 27, bx (γ1 3) (#[.int .i64 0, .slice none 0 0, .slice none 0 0]) 27, bx (γ1 2) (#[.int .i64 at_]) 2, bx (γ1 1) (#[.int .i64 x.vcpu, .int .i64 x.port, .int .i64 x.every]) 47, bx (γ1 0) (#[.int .i64 now, .slice p n cap, .slice pa na ca]) 27]) ?_ (fun hmx7 => ?_)
    ·
     rintro γ141 _
     refine any_fork [1, 4] (by kernel_rfl) (by simp) (each_cons _ rfl ?_ (each_cons _ rfl ?_ (each_nil)))
     ·
      refine qo0 1 [(1, .go (owns 2 0 2))] [2, 3, 6, 9, 24] [(22, .agg #[.int .i64 now, .slice p n cap])] ?_
      refine od_ ?_
      exact wk (hmx8 γ141 trivial) [2, 3, 6, 9, 22, 24] [[_], [_], [_], [_], [_], [_], [_]] [0, 1, 2, 3, 4, 5, 6] rfl rfl
     ·
      refine cP (fun v L' => ∃ q_ c_ Y_, v = .slice q_ na c_ ∧ L' = List.take 7 ([bx (γ141 0) (#[.int .i64 0, .slice none 0 0, .slice none 0 0]) 27, bx (γ3 1) (#[.int .i64 0, .slice none 0 0, .slice none 0 0]) 27, bx (γ3 0) (#[.int .i64 now, .slice p n cap, .slice pa na ca]) 27, bx (γ1 3) (#[.int .i64 0, .slice none 0 0, .slice none 0 0]) 27, bx (γ1 2) (#[.int .i64 at_]) 2, bx (γ1 1) (#[.int .i64 x.vcpu, .int .i64 x.port, .int .i64 x.every]) 47, bx (γ1 0) (#[.int .i64 now, .slice p n cap, .slice pa na ca]) 27]) ++ (Y_ ++ List.drop 7 ([bx (γ141 0) (#[.int .i64 0, .slice none 0 0, .slice none 0 0]) 27, bx (γ3 1) (#[.int .i64 0, .slice none 0 0, .slice none 0 0]) 27, bx (γ3 0) (#[.int .i64 now, .slice p n cap, .slice pa na ca]) 27, bx (γ1 3) (#[.int .i64 0, .slice none 0 0, .slice none 0 0]) 27, bx (γ1 2) (#[.int .i64 at_]) 2, bx (γ1 1) (#[.int .i64 x.vcpu, .int .i64 x.port, .int .i64 x.every]) 47, bx (γ1 0) (#[.int .i64 now, .slice p n cap, .slice pa na ca]) 27])) ∧ SlO 47 Y_ q_ na c_ rs) Try.call60 (fun w hw => (aclone_t pa na ca rs w (hrs.kept hw.below) hna (by omega)).mono fun e w' ⟨q_, c_, Y_, he, hO, hb, hY⟩ => ⟨_, _, he, ⟨q_, c_, Y_, rfl, rfl, hO⟩, hw.join hb hY 7⟩) ?_
      rintro v101 L101 ⟨q101, cq101, Y101, rfl, rfl, hO101⟩
      refine od_ ?_
      exact wk (hmx9 (Y101, cq101, q101, γ141) hO101) [2, 3, 6, 9, 21, 25] [[_], [_], [_], [_], [_], [_], [_], _] [0, 1, 2, 3, 4, 5, 6, 7] rfl rfl
    refine any_cutX (V := (List Ob) × (Nat) × (Option Addr)) (fun ⟨Y101, cq101, q101⟩ => SlO 47 Y101 q101 na cq101 rs) 4 #[true, false, true, true, true, false, false, false] (fun ⟨Y101, cq101, q101⟩ => [(2, .func (.func 48) #[] #[.pointer (some ⟨γ1 1, 0, none⟩), .pointer (some ⟨γ1 2, 0, none⟩)]), (3, .pointer (some ⟨γ3 0, 0, none⟩)), (6, .pointer (some ⟨γ3 1, 0, none⟩)), (21, .pointer (some ⟨γ3 0, 0, none⟩)), (25, .slice q101 na cq101)]) (fun ⟨Y101, cq101, q101⟩ => bx (γ3 1) (#[.int .i64 0, .slice none 0 0, .slice none 0 0]) 27 :: bx (γ3 0) (#[.int .i64 now, .slice p n cap, .slice pa na ca]) 27 :: bx (γ1 3) (#[.int .i64 0, .slice none 0 0, .slice none 0 0]) 27 :: bx (γ1 2) (#[.int .i64 at_]) 2 :: bx (γ1 1) (#[.int .i64 x.vcpu, .int .i64 x.port, .int .i64 x.every]) 47 :: bx (γ1 0) (#[.int .i64 now, .slice p n cap, .slice pa na ca]) 27 :: (Y101 ++ [])) ?_ (fun hmx6 => ?_)
    ·
     rintro ⟨Y101, cq101, q101⟩ hO101
     refine any_fork [1, 6] (by kernel_rfl) (by simp) (each_cons _ rfl ?_ (each_cons _ rfl ?_ (each_nil)))
     ·
      refine qo0 1 [(1, .go (owns 1 0 2))] [2, 3, 6, 25] [(22, .agg #[.int .i64 now, .slice p n cap])] ?_
      refine od_ ?_
      refine tk (m := 2) [5] [] [2, 3, 6] [(26, .agg #[.int .i64 now, .slice p n cap, .slice q101 na cq101])] ([]) #[true, true, true, true, true, true, false, false] al0 ?_
      exact wk (hmx10 (Y101, cq101, q101) hO101) [2, 3, 6, 26] [[_], [_], [_], [_], [_], [_], _] [0, 1, 2, 3, 4, 5, 6] rfl rfl
     ·
      refine mo0 1 [] [2, 3, 6, 21, 25] (fun γ141 => [(9, .pointer (some ⟨γ141 0, 0, none⟩))]) (fun γ141 L => bx (γ141 0) (#[.int .i64 0, .slice none 0 0, .slice none 0 0]) 27 :: L) (fun γ141 => ?_)
      refine od_ ?_
      exact wk (hmx9 (Y101, cq101, q101, γ141) hO101) [2, 3, 6, 9, 21, 25] [[_], [_], [_], [_], [_], [_], [_], _] [0, 1, 2, 3, 4, 5, 6, 7] rfl rfl
    refine any_cutX (V := (Nat → Nat)) (fun γ141 => True) 4 #[true, true, true, false, false, false, true, false] (fun γ141 => [(2, .func (.func 48) #[] #[.pointer (some ⟨γ1 1, 0, none⟩), .pointer (some ⟨γ1 2, 0, none⟩)]), (3, .pointer (some ⟨γ3 0, 0, none⟩)), (6, .pointer (some ⟨γ3 1, 0, none⟩)), (9, .pointer (some ⟨γ141 0, 0, none⟩)), (22, .agg #[.int .i64 now, .slice p n cap]), (23, .pointer (some ⟨γ3 0, 2, none⟩))]) (fun γ141 => [bx (γ141 0) (#[.int .i64 0, .slice none 0 0, .slice none 0 0]) 27, bx (γ3 1) (#[.int .i64 0, .slice none 0 0, .slice none 0 0]) 27, bx (γ3 0) (#[.int .i64 now, .slice p n cap, .slice pa na ca]) 27, bx (γ1 3) (#[.int .i64 0, .slice none 0 0, .slice none 0 0]) 27, bx (γ1 2) (#[.int .i64 at_]) 2, bx (γ1 1) (#[.int .i64 x.vcpu, .int .i64 x.port, .int .i64 x.every]) 47, bx (γ1 0) (#[.int .i64 now, .slice p n cap, .slice pa na ca]) 27]) ?_ (fun hmx5 => ?_)
    ·
     rintro γ141 _
     refine a1 3 rfl ?_
     refine qo0 1 [(3, .go (owns 2 2 1))] [2, 3, 6, 9, 22] [(24, .slice pa na ca)] ?_
     refine od_ ?_
     exact wk (hmx8 γ141 trivial) [2, 3, 6, 9, 22, 24] [[_], [_], [_], [_], [_], [_], [_]] [0, 1, 2, 3, 4, 5, 6] rfl rfl
    refine any_cutX (V := Unit) (fun _ => True) 4 #[true, true, true, true, false, false, false, false] (fun _ => [(2, .func (.func 48) #[] #[.pointer (some ⟨γ1 1, 0, none⟩), .pointer (some ⟨γ1 2, 0, none⟩)]), (3, .pointer (some ⟨γ3 0, 0, none⟩)), (6, .pointer (some ⟨γ3 1, 0, none⟩)), (22, .agg #[.int .i64 now, .slice p n cap]), (24, .slice pa na ca)]) (fun _ => [bx (γ3 1) (#[.int .i64 0, .slice none 0 0, .slice none 0 0]) 27, bx (γ3 0) (#[.int .i64 now, .slice p n cap, .slice pa na ca]) 27, bx (γ1 3) (#[.int .i64 0, .slice none 0 0, .slice none 0 0]) 27, bx (γ1 2) (#[.int .i64 at_]) 2, bx (γ1 1) (#[.int .i64 x.vcpu, .int .i64 x.port, .int .i64 x.every]) 47, bx (γ1 0) (#[.int .i64 now, .slice p n cap, .slice pa na ca]) 27]) ?_ (fun hmx4 => ?_)
    ·
     rintro _ _
     refine any_fork [4, 6] (by kernel_rfl) (by simp) (each_cons _ rfl ?_ (each_cons _ rfl ?_ (each_nil)))
     ·
      refine cP (fun v L' => ∃ q_ c_ Y_, v = .slice q_ na c_ ∧ L' = List.take 6 ([bx (γ3 1) (#[.int .i64 0, .slice none 0 0, .slice none 0 0]) 27, bx (γ3 0) (#[.int .i64 now, .slice p n cap, .slice pa na ca]) 27, bx (γ1 3) (#[.int .i64 0, .slice none 0 0, .slice none 0 0]) 27, bx (γ1 2) (#[.int .i64 at_]) 2, bx (γ1 1) (#[.int .i64 x.vcpu, .int .i64 x.port, .int .i64 x.every]) 47, bx (γ1 0) (#[.int .i64 now, .slice p n cap, .slice pa na ca]) 27]) ++ (Y_ ++ List.drop 6 ([bx (γ3 1) (#[.int .i64 0, .slice none 0 0, .slice none 0 0]) 27, bx (γ3 0) (#[.int .i64 now, .slice p n cap, .slice pa na ca]) 27, bx (γ1 3) (#[.int .i64 0, .slice none 0 0, .slice none 0 0]) 27, bx (γ1 2) (#[.int .i64 at_]) 2, bx (γ1 1) (#[.int .i64 x.vcpu, .int .i64 x.port, .int .i64 x.every]) 47, bx (γ1 0) (#[.int .i64 now, .slice p n cap, .slice pa na ca]) 27])) ∧ SlO 47 Y_ q_ na c_ rs) Try.call60 (fun w hw => (aclone_t pa na ca rs w (hrs.kept hw.below) hna (by omega)).mono fun e w' ⟨q_, c_, Y_, he, hO, hb, hY⟩ => ⟨_, _, he, ⟨q_, c_, Y_, rfl, rfl, hO⟩, hw.join hb hY 6⟩) ?_
      rintro v101 L101 ⟨q101, cq101, Y101, rfl, rfl, hO101⟩
      refine od_ ?_
      refine tk (m := 2) [5] [] [2, 3, 6] [(26, .agg #[.int .i64 now, .slice p n cap, .slice q101 na cq101])] ([]) #[true, true, true, true, true, true, false, false] al0 ?_
      exact wk (hmx10 (Y101, cq101, q101) hO101) [2, 3, 6, 26] [[_], [_], [_], [_], [_], [_], _] [0, 1, 2, 3, 4, 5, 6] rfl rfl
     ·
      refine mo0 1 [] [2, 3, 6, 22, 24] (fun γ141 => [(9, .pointer (some ⟨γ141 0, 0, none⟩))]) (fun γ141 L => bx (γ141 0) (#[.int .i64 0, .slice none 0 0, .slice none 0 0]) 27 :: L) (fun γ141 => ?_)
      refine od_ ?_
      exact wk (hmx8 γ141 trivial) [2, 3, 6, 9, 22, 24] [[_], [_], [_], [_], [_], [_], [_]] [0, 1, 2, 3, 4, 5, 6] rfl rfl
    refine any_cutX (V := (Nat → Nat)) (fun γ141 => True) 5 #[true, false, true, false, false, false, true, false] (fun γ141 => [(2, .func (.func 48) #[] #[.pointer (some ⟨γ1 1, 0, none⟩), .pointer (some ⟨γ1 2, 0, none⟩)]), (3, .pointer (some ⟨γ3 0, 0, none⟩)), (6, .pointer (some ⟨γ3 1, 0, none⟩)), (9, .pointer (some ⟨γ141 0, 0, none⟩)), (21, .pointer (some ⟨γ3 0, 0, none⟩)), (23, .pointer (some ⟨γ3 0, 2, none⟩))]) (fun γ141 => [bx (γ141 0) (#[.int .i64 0, .slice none 0 0, .slice none 0 0]) 27, bx (γ3 1) (#[.int .i64 0, .slice none 0 0, .slice none 0 0]) 27, bx (γ3 0) (#[.int .i64 now, .slice p n cap, .slice pa na ca]) 27, bx (γ1 3) (#[.int .i64 0, .slice none 0 0, .slice none 0 0]) 27, bx (γ1 2) (#[.int .i64 at_]) 2, bx (γ1 1) (#[.int .i64 x.vcpu, .int .i64 x.port, .int .i64 x.every]) 47, bx (γ1 0) (#[.int .i64 now, .slice p n cap, .slice pa na ca]) 27]) ?_ (fun hmx3 => ?_)
    ·
     rintro γ141 _
     refine any_fork [1, 3] (by kernel_rfl) (by simp) (each_cons _ rfl ?_ (each_cons _ rfl ?_ (each_nil)))
     ·
      refine qo0 1 [(1, .go (owns 2 0 2))] [2, 3, 6, 9, 23] [(22, .agg #[.int .i64 now, .slice p n cap])] ?_
      refine od_ ?_
      exact wk (hmx5 γ141 trivial) [2, 3, 6, 9, 22, 23] [[_], [_], [_], [_], [_], [_], [_]] [0, 1, 2, 3, 4, 5, 6] rfl rfl
     ·
      refine qo0 1 [(3, .go (owns 2 2 1))] [2, 3, 6, 9, 21] [(24, .slice pa na ca)] ?_
      refine od_ ?_
      exact wk (hmx7 γ141 trivial) [2, 3, 6, 9, 21, 24] [[_], [_], [_], [_], [_], [_], [_]] [0, 1, 2, 3, 4, 5, 6] rfl rfl
    refine any_cutX (V := Unit) (fun _ => True) 5 #[true, false, true, true, false, false, false, false] (fun _ => [(2, .func (.func 48) #[] #[.pointer (some ⟨γ1 1, 0, none⟩), .pointer (some ⟨γ1 2, 0, none⟩)]), (3, .pointer (some ⟨γ3 0, 0, none⟩)), (6, .pointer (some ⟨γ3 1, 0, none⟩)), (21, .pointer (some ⟨γ3 0, 0, none⟩)), (24, .slice pa na ca)]) (fun _ => [bx (γ3 1) (#[.int .i64 0, .slice none 0 0, .slice none 0 0]) 27, bx (γ3 0) (#[.int .i64 now, .slice p n cap, .slice pa na ca]) 27, bx (γ1 3) (#[.int .i64 0, .slice none 0 0, .slice none 0 0]) 27, bx (γ1 2) (#[.int .i64 at_]) 2, bx (γ1 1) (#[.int .i64 x.vcpu, .int .i64 x.port, .int .i64 x.every]) 47, bx (γ1 0) (#[.int .i64 now, .slice p n cap, .slice pa na ca]) 27]) ?_ (fun hmx2 => ?_)
    ·
     rintro _ _
     refine any_fork [1, 4, 6] (by kernel_rfl) (by simp) (each_cons _ rfl ?_ (each_cons _ rfl ?_ (each_cons _ rfl ?_ (each_nil))))
     ·
      refine qo0 1 [(1, .go (owns 1 0 2))] [2, 3, 6, 24] [(22, .agg #[.int .i64 now, .slice p n cap])] ?_
      refine od_ ?_
      exact wk (hmx4 () trivial) [2, 3, 6, 22, 24] [[_], [_], [_], [_], [_], [_]] [0, 1, 2, 3, 4, 5] rfl rfl
     ·
      refine cP (fun v L' => ∃ q_ c_ Y_, v = .slice q_ na c_ ∧ L' = List.take 6 ([bx (γ3 1) (#[.int .i64 0, .slice none 0 0, .slice none 0 0]) 27, bx (γ3 0) (#[.int .i64 now, .slice p n cap, .slice pa na ca]) 27, bx (γ1 3) (#[.int .i64 0, .slice none 0 0, .slice none 0 0]) 27, bx (γ1 2) (#[.int .i64 at_]) 2, bx (γ1 1) (#[.int .i64 x.vcpu, .int .i64 x.port, .int .i64 x.every]) 47, bx (γ1 0) (#[.int .i64 now, .slice p n cap, .slice pa na ca]) 27]) ++ (Y_ ++ List.drop 6 ([bx (γ3 1) (#[.int .i64 0, .slice none 0 0, .slice none 0 0]) 27, bx (γ3 0) (#[.int .i64 now, .slice p n cap, .slice pa na ca]) 27, bx (γ1 3) (#[.int .i64 0, .slice none 0 0, .slice none 0 0]) 27, bx (γ1 2) (#[.int .i64 at_]) 2, bx (γ1 1) (#[.int .i64 x.vcpu, .int .i64 x.port, .int .i64 x.every]) 47, bx (γ1 0) (#[.int .i64 now, .slice p n cap, .slice pa na ca]) 27])) ∧ SlO 47 Y_ q_ na c_ rs) Try.call60 (fun w hw => (aclone_t pa na ca rs w (hrs.kept hw.below) hna (by omega)).mono fun e w' ⟨q_, c_, Y_, he, hO, hb, hY⟩ => ⟨_, _, he, ⟨q_, c_, Y_, rfl, rfl, hO⟩, hw.join hb hY 6⟩) ?_
      rintro v101 L101 ⟨q101, cq101, Y101, rfl, rfl, hO101⟩
      refine od_ ?_
      exact wk (hmx6 (Y101, cq101, q101) hO101) [2, 3, 6, 21, 25] [[_], [_], [_], [_], [_], [_], _] [0, 1, 2, 3, 4, 5, 6] rfl rfl
     ·
      refine mo0 1 [] [2, 3, 6, 21, 24] (fun γ141 => [(9, .pointer (some ⟨γ141 0, 0, none⟩))]) (fun γ141 L => bx (γ141 0) (#[.int .i64 0, .slice none 0 0, .slice none 0 0]) 27 :: L) (fun γ141 => ?_)
      refine od_ ?_
      exact wk (hmx7 γ141 trivial) [2, 3, 6, 9, 21, 24] [[_], [_], [_], [_], [_], [_], [_]] [0, 1, 2, 3, 4, 5, 6] rfl rfl
    refine any_cutX (V := Unit) (fun _ => True) 5 #[true, true, true, false, false, false, false, false] (fun _ => [(2, .func (.func 48) #[] #[.pointer (some ⟨γ1 1, 0, none⟩), .pointer (some ⟨γ1 2, 0, none⟩)]), (3, .pointer (some ⟨γ3 0, 0, none⟩)), (6, .pointer (some ⟨γ3 1, 0, none⟩)), (22, .agg #[.int .i64 now, .slice p n cap]), (23, .pointer (some ⟨γ3 0, 2, none⟩))]) (fun _ => [bx (γ3 1) (#[.int .i64 0, .slice none 0 0, .slice none 0 0]) 27, bx (γ3 0) (#[.int .i64 now, .slice p n cap, .slice pa na ca]) 27, bx (γ1 3) (#[.int .i64 0, .slice none 0 0, .slice none 0 0]) 27, bx (γ1 2) (#[.int .i64 at_]) 2, bx (γ1 1) (#[.int .i64 x.vcpu, .int .i64 x.port, .int .i64 x.every]) 47, bx (γ1 0) (#[.int .i64 now, .slice p n cap, .slice pa na ca]) 27]) ?_ (fun hmx1 => ?_)
    ·
     rintro _ _
     refine any_fork [3, 6] (by kernel_rfl) (by simp) (each_cons _ rfl ?_ (each_cons _ rfl ?_ (each_nil)))
     ·
      refine qo0 1 [(3, .go (owns 1 2 1))] [2, 3, 6, 22] [(24, .slice pa na ca)] ?_
      refine od_ ?_
      exact wk (hmx4 () trivial) [2, 3, 6, 22, 24] [[_], [_], [_], [_], [_], [_]] [0, 1, 2, 3, 4, 5] rfl rfl
     ·
      refine mo0 1 [] [2, 3, 6, 22, 23] (fun γ141 => [(9, .pointer (some ⟨γ141 0, 0, none⟩))]) (fun γ141 L => bx (γ141 0) (#[.int .i64 0, .slice none 0 0, .slice none 0 0]) 27 :: L) (fun γ141 => ?_)
      refine od_ ?_
      exact wk (hmx5 γ141 trivial) [2, 3, 6, 9, 22, 23] [[_], [_], [_], [_], [_], [_], [_]] [0, 1, 2, 3, 4, 5, 6] rfl rfl
    refine any_fork [1, 3, 6] (by kernel_rfl) (by simp) (each_cons _ rfl ?_ (each_cons _ rfl ?_ (each_cons _ rfl ?_ (each_nil))))
    ·
     refine qo0 1 [(1, .go (owns 1 0 2))] [2, 3, 6, 23] [(22, .agg #[.int .i64 now, .slice p n cap])] ?_
     refine od_ ?_
     exact wk (hmx1 () trivial) [2, 3, 6, 22, 23] [[_], [_], [_], [_], [_], [_]] [0, 1, 2, 3, 4, 5] rfl rfl
    ·
     refine qo0 1 [(3, .go (owns 1 2 1))] [2, 3, 6, 21] [(24, .slice pa na ca)] ?_
     refine od_ ?_
     exact wk (hmx2 () trivial) [2, 3, 6, 21, 24] [[_], [_], [_], [_], [_], [_]] [0, 1, 2, 3, 4, 5] rfl rfl
    ·
     refine mo0 1 [] [2, 3, 6, 21, 23] (fun γ141 => [(9, .pointer (some ⟨γ141 0, 0, none⟩))]) (fun γ141 L => bx (γ141 0) (#[.int .i64 0, .slice none 0 0, .slice none 0 0]) 27 :: L) (fun γ141 => ?_)
     refine od_ ?_
     exact wk (hmx3 γ141 trivial) [2, 3, 6, 9, 21, 23] [[_], [_], [_], [_], [_], [_], [_]] [0, 1, 2, 3, 4, 5, 6] rfl rfl
   rintro ⟨Y101, cq101, q101, γ141⟩ hO101
   refine any_nil (by kernel_rfl) ?_
   refine ds_ (sq_ (ao_ (qo0 3 [(2, .go (owns 2 1 1))] [2, 6, 9] [(29, .slice p n cap)] (cP (fun v L' => ∃ q_ c_ Y_, v = .slice q_ n c_ ∧ L' = List.take 7 (bx (γ141 0) (#[.int .i64 now, .slice p n cap, .slice q101 na cq101]) 27 :: bx (γ3 1) (#[.int .i64 0, .slice none 0 0, .slice none 0 0]) 27 :: bx (γ3 0) (#[.int .i64 now, .slice p n cap, .slice pa na ca]) 27 :: bx (γ1 3) (#[.int .i64 0, .slice none 0 0, .slice none 0 0]) 27 :: bx (γ1 2) (#[.int .i64 at_]) 2 :: bx (γ1 1) (#[.int .i64 x.vcpu, .int .i64 x.port, .int .i64 x.every]) 47 :: bx (γ1 0) (#[.int .i64 now, .slice p n cap, .slice pa na ca]) 27 :: (Y101 ++ [])) ++ (Y_ ++ List.drop 7 (bx (γ141 0) (#[.int .i64 now, .slice p n cap, .slice q101 na cq101]) 27 :: bx (γ3 1) (#[.int .i64 0, .slice none 0 0, .slice none 0 0]) 27 :: bx (γ3 0) (#[.int .i64 now, .slice p n cap, .slice pa na ca]) 27 :: bx (γ1 3) (#[.int .i64 0, .slice none 0 0, .slice none 0 0]) 27 :: bx (γ1 2) (#[.int .i64 at_]) 2 :: bx (γ1 1) (#[.int .i64 x.vcpu, .int .i64 x.port, .int .i64 x.every]) 47 :: bx (γ1 0) (#[.int .i64 now, .slice p n cap, .slice pa na ca]) 27 :: (Y101 ++ []))) ∧ SlO 88 Y_ q_ n c_ ts) Try.call61 (fun w hw => (clone_t p n cap ts w (hts.kept hw.below) hn (by omega)).mono fun e w' ⟨q_, c_, Y_, he, hO, hb, hY⟩ => ⟨_, _, he, ⟨q_, c_, Y_, rfl, rfl, hO⟩, hw.join hb hY 7⟩) ?_))))
   rintro v227 L227 ⟨q227, cq227, Y227, rfl, rfl, hO227⟩
   refine mo0 3 [(6, .go (owns 0 1 1))] [2, 6, 9] (fun _ => []) (fun _ L => (L.set 0 (bx (γ141 0) (#[.int .i64 now, .slice q227 n cq227, .slice q101 na cq101]) 27))) (fun _ => on_ (ds_ (sq_ (sq_ (ao_ (qo0 1 [] [6, 9] [(33, .func (.func 48) #[] #[.pointer (some ⟨γ1 1, 0, none⟩), .pointer (some ⟨γ1 2, 0, none⟩)])] (ops_inline (g := 48) (args := #[.pointer (some ⟨γ141 0, 0, none⟩), .pointer (some ⟨γ1 1, 0, none⟩), .pointer (some ⟨γ1 2, 0, none⟩)]) (by kernel_rfl) (by kernel_rfl) (by kernel_rfl) (fun args w => Try.call48 args w) Try.func48 rfl Try.ntmps48 rfl (sq_ (qa0 [] [0, 1, 2] [] (ds_ (sq_ (sq_ ?_))))))))))))
   rcases q231 : almB x with _ | _
   ·
    refine at_calmTo (f := 3) 9 rfl (by kernel_rfl) (by kernel_rfl) (by kernel_rfl) (by kernel_rfl) (by kernel_rfl) (by kernel_rfl) ?_
    refine cm 1 [(0, .go (owns 5 0 3))] [0, 1, 2] [(7, .agg #[.int .i64 x.vcpu, .int .i64 x.port, .int .i64 x.every])] ([]) (by kernel_rfl) rfl al0 ?_
    refine cK (.bool false) Try.call27 (fun w hw => by have := alm_t x w; rw [q231] at this; exact this) ?_
    refine cm 7 [] [0, 1] [(10, .bool true), (11, undef), (14, undef), (15, undef)] ([]) (by kernel_rfl) rfl al0 ?_
    refine calm_nil' ?_
    refine done_pre (li' := #[true, true, true, true, true, true, true, true, true, false, false, false]) (by kernel_rfl) ?_
    refine any_cutX (V := Unit) (fun _ => True) 0 #[true, true, true, true, true, true, true, true, true, true, true, true] (fun _ => [(0, .pointer (some ⟨γ141 0, 0, none⟩)), (1, .pointer (some ⟨γ1 1, 0, none⟩)), (18, .bool true)]) (fun _ => bx (γ141 0) (#[.int .i64 now, .slice q227 n cq227, .slice q101 na cq101]) 27 :: bx (γ3 1) (#[.int .i64 0, .slice none 0 0, .slice none 0 0]) 27 :: bx (γ3 0) (#[.int .i64 now, .slice p n cap, .slice pa na ca]) 27 :: bx (γ1 3) (#[.int .i64 0, .slice none 0 0, .slice none 0 0]) 27 :: bx (γ1 2) (#[.int .i64 at_]) 2 :: bx (γ1 1) (#[.int .i64 x.vcpu, .int .i64 x.port, .int .i64 x.every]) 47 :: bx (γ1 0) (#[.int .i64 now, .slice p n cap, .slice pa na ca]) 27 :: (Y227 ++ (Y101 ++ []))) ?_ (fun hmx1 => ?_)
    rotate_left
    ·
     refine a1 9 rfl ?_
     refine qo0 1 [] [0, 1, 10] [(16, undef)] ?_
     refine od_ ?_
     refine tk (m := 0) [10, 11] [] [0, 1] [(18, .bool true)] ([]) #[true, true, true, true, true, true, true, true, true, true, true, true] al0 ?_
     exact wk (hmx1 () trivial) [0, 1, 18] [[_], [_], [_], [_], [_], [_], [_], _, _] [0, 1, 2, 3, 4, 5, 6, 7, 8] rfl rfl
    rintro _ _
    refine any_nil (by kernel_rfl) ?_
    refine ds_ (t_ (sq_ (qa0 [] [] [(4, .int .i64 2)] (ds_ (bk ([]) (.int .i64 2) (qo0 1 [] [6, 9] [(10, .int .i64 2)] (on_ (ds_ (sq_ (qa0 [] [6, 9, 10] [(36, .bool true)] (ds_ (t_ (sq_ (qa0 [(2, .go (owns 1 0 3))] [6] [(7, .int .i64 2)] (ds_ (bk (owns 1 0 3) (.tuple #[.agg #[.int .i64 0, .slice none 0 0, .slice none 0 0], .int .i64 2]) (qo0 4 [(7, .go (owns 3 0 3))] [6] [(7, .int .i64 2)] (on_ (ds_ (rt (owns 3 0 3) (.tuple #[.agg #[.int .i64 0, .slice none 0 0, .slice none 0 0], .int .i64 2]) ?_))))))))))))))))))))
    exact fun w' hw => by rw [startV_arg q5 q231]; exact ⟨none, 0, 0, [], none, 0, 0, [], rfl, SlO.nil, SlO.nil, hw.below, hw.sub (List.nil_sublist _)⟩
   ·
    rcases q522 : decide (aheadP now at_) with _ | _
    ·
     have hav := alm_id q231
     refine at_calmTo (f := 3) 9 rfl (by kernel_rfl) (by kernel_rfl) (by kernel_rfl) (by kernel_rfl) (by kernel_rfl) (by kernel_rfl) ?_
     refine cm 1 [(0, .go (owns 5 0 3))] [0, 1, 2] [(7, .agg #[.int .i64 x.vcpu, .int .i64 x.port, .int .i64 x.every])] ([]) (by kernel_rfl) rfl al0 ?_
     refine cK (.bool true) Try.call27 (fun w hw => by have := alm_t x w; rw [q231] at this; exact this) ?_
     refine cm 5 [(6, .go (owns 5 0 1))] [0, 1, 2] [(10, .bool false), (11, .pointer (some ⟨γ141 0, 0, none⟩)), (13, .int .i64 x.vcpu)] ([]) (by kernel_rfl) rfl al0 ?_
     refine cK (.int .i64 (x.vcpu - 1)) Try.call31 (fun w hw => alarmed_t x.vcpu w (by omega) (by omega)) ?_
     refine cm 1 [(8, .go (owns 4 0 1))] [0, 1, 10, 11, 14] [(15, .int .i64 at_)] ([]) (by kernel_rfl) rfl al0 ?_
     refine calm_nil' ?_
     refine done_pre (li' := #[true, true, true, true, true, true, true, true, true, false, false, false]) (by kernel_rfl) ?_
     refine any_cutX (V := Unit) (fun _ => True) 0 #[true, true, true, true, true, true, true, true, true, true, true, true] (fun _ => [(0, .pointer (some ⟨γ141 0, 0, none⟩)), (1, .pointer (some ⟨γ1 1, 0, none⟩)), (18, .bool true)]) (fun _ => bx (γ141 0) (#[.int .i64 now, .slice q227 n cq227, .slice q101 na cq101]) 27 :: bx (γ3 1) (#[.int .i64 0, .slice none 0 0, .slice none 0 0]) 27 :: bx (γ3 0) (#[.int .i64 now, .slice p n cap, .slice pa na ca]) 27 :: bx (γ1 3) (#[.int .i64 0, .slice none 0 0, .slice none 0 0]) 27 :: bx (γ1 2) (#[.int .i64 at_]) 2 :: bx (γ1 1) (#[.int .i64 x.vcpu, .int .i64 x.port, .int .i64 x.every]) 47 :: bx (γ1 0) (#[.int .i64 now, .slice p n cap, .slice pa na ca]) 27 :: (Y227 ++ (Y101 ++ []))) ?_ (fun hmx1 => ?_)
     rotate_left
     ·
      refine a1 9 rfl ?_
      refine cP (fun v L' => v = .int .i64 2 ∧ L' = (bx (γ141 0) (#[.int .i64 now, .slice q227 n cq227, .slice q101 na cq101]) 27 :: [bx (γ3 1) (#[.int .i64 0, .slice none 0 0, .slice none 0 0]) 27, bx (γ3 0) (#[.int .i64 now, .slice p n cap, .slice pa na ca]) 27, bx (γ1 3) (#[.int .i64 0, .slice none 0 0, .slice none 0 0]) 27, bx (γ1 2) (#[.int .i64 at_]) 2, bx (γ1 1) (#[.int .i64 x.vcpu, .int .i64 x.port, .int .i64 x.every]) 47, bx (γ1 0) (#[.int .i64 now, .slice p n cap, .slice pa na ca]) 27]) ++ (Y227 ++ ((Y101 ++ [])))) Try.call49 (fun w hw => (aset_no _ ([bx (γ3 1) (#[.int .i64 0, .slice none 0 0, .slice none 0 0]) 27, bx (γ3 0) (#[.int .i64 now, .slice p n cap, .slice pa na ca]) 27, bx (γ1 3) (#[.int .i64 0, .slice none 0 0, .slice none 0 0]) 27, bx (γ1 2) (#[.int .i64 at_]) 2, bx (γ1 1) (#[.int .i64 x.vcpu, .int .i64 x.port, .int .i64 x.every]) 47, bx (γ1 0) (#[.int .i64 now, .slice p n cap, .slice pa na ca]) 27] ++ ((Y101 ++ []))) Y227 (γ141 0) now q227 n cq227 q101 na cq101 ts (x.vcpu - 1) at_ w (hw.pull (A := [bx (γ3 1) (#[.int .i64 0, .slice none 0 0, .slice none 0 0]) 27, bx (γ3 0) (#[.int .i64 now, .slice p n cap, .slice pa na ca]) 27, bx (γ1 3) (#[.int .i64 0, .slice none 0 0, .slice none 0 0]) 27, bx (γ1 2) (#[.int .i64 at_]) 2, bx (γ1 1) (#[.int .i64 x.vcpu, .int .i64 x.port, .int .i64 x.every]) 47, bx (γ1 0) (#[.int .i64 now, .slice p n cap, .slice pa na ca]) 27]) (Y := Y227) (R := ((Y101 ++ [])))) hO227 (by omega) (al_iff.1 q5).wh (of_decide_eq_false q522)).mono fun e w' ⟨he, hY⟩ => ⟨_, _, he, ⟨rfl, rfl⟩, hY.push (A := _ :: [bx (γ3 1) (#[.int .i64 0, .slice none 0 0, .slice none 0 0]) 27, bx (γ3 0) (#[.int .i64 now, .slice p n cap, .slice pa na ca]) 27, bx (γ1 3) (#[.int .i64 0, .slice none 0 0, .slice none 0 0]) 27, bx (γ1 2) (#[.int .i64 at_]) 2, bx (γ1 1) (#[.int .i64 x.vcpu, .int .i64 x.port, .int .i64 x.every]) 47, bx (γ1 0) (#[.int .i64 now, .slice p n cap, .slice pa na ca]) 27])⟩) ?_
      rintro v708 L708 ⟨rfl, rfl⟩
      refine od_ ?_
      refine tk (m := 0) [10, 11] [] [0, 1] [(18, .bool true)] ([]) #[true, true, true, true, true, true, true, true, true, true, true, true] al0 ?_
      exact wk (hmx1 () trivial) [0, 1, 18] [[_], [_], [_], [_], [_], [_], [_], _, _] [0, 1, 2, 3, 4, 5, 6, 7, 8] rfl rfl
     rintro _ _
     refine any_nil (by kernel_rfl) ?_
     refine ds_ (t_ (sq_ (qa0 [] [] [(4, .int .i64 2)] (ds_ (bk ([]) (.int .i64 2) (qo0 1 [] [6, 9] [(10, .int .i64 2)] (on_ (ds_ (sq_ (qa0 [] [6, 9, 10] [(36, .bool true)] (ds_ (t_ (sq_ (qa0 [(2, .go (owns 1 0 3))] [6] [(7, .int .i64 2)] (ds_ (bk (owns 1 0 3) (.tuple #[.agg #[.int .i64 0, .slice none 0 0, .slice none 0 0], .int .i64 2]) (qo0 4 [(7, .go (owns 3 0 3))] [6] [(7, .int .i64 2)] (on_ (ds_ (rt (owns 3 0 3) (.tuple #[.agg #[.int .i64 0, .slice none 0 0, .slice none 0 0], .int .i64 2]) ?_))))))))))))))))))))
     exact fun w' hw => by rw [startV_nah q5 (of_decide_eq_false q522)]; exact ⟨none, 0, 0, [], none, 0, 0, [], rfl, SlO.nil, SlO.nil, hw.below, hw.sub (List.nil_sublist _)⟩
    ·
     have hav := alm_id q231
     refine at_calmTo (f := 3) 9 rfl (by kernel_rfl) (by kernel_rfl) (by kernel_rfl) (by kernel_rfl) (by kernel_rfl) (by kernel_rfl) ?_
     refine cm 1 [(0, .go (owns 5 0 3))] [0, 1, 2] [(7, .agg #[.int .i64 x.vcpu, .int .i64 x.port, .int .i64 x.every])] ([]) (by kernel_rfl) rfl al0 ?_
     refine cK (.bool true) Try.call27 (fun w hw => by have := alm_t x w; rw [q231] at this; exact this) ?_
     refine cm 5 [(6, .go (owns 5 0 1))] [0, 1, 2] [(10, .bool false), (11, .pointer (some ⟨γ141 0, 0, none⟩)), (13, .int .i64 x.vcpu)] ([]) (by kernel_rfl) rfl al0 ?_
     refine cK (.int .i64 (x.vcpu - 1)) Try.call31 (fun w hw => alarmed_t x.vcpu w (by omega) (by omega)) ?_
     refine cm 1 [(8, .go (owns 4 0 1))] [0, 1, 10, 11, 14] [(15, .int .i64 at_)] ([]) (by kernel_rfl) rfl al0 ?_
     refine calm_nil' ?_
     refine done_pre (li' := #[true, true, true, true, true, true, true, true, true, false, false, false]) (by kernel_rfl) ?_
     refine any_cutX (V := (List Ob) × (Nat) × (Nat) × (Option Addr)) (fun ⟨Y999, cq999, m999, q999⟩ => SlO 88 Y999 q999 m999 cq999 (tput ts (x.vcpu - 1) at_)) 0 #[true, true, true, true, true, true, true, true, true, true, true, true] (fun ⟨Y999, cq999, m999, q999⟩ => [(0, .pointer (some ⟨γ141 0, 0, none⟩)), (1, .pointer (some ⟨γ1 1, 0, none⟩)), (18, .bool false)]) (fun ⟨Y999, cq999, m999, q999⟩ => bx (γ141 0) (#[.int .i64 now, .slice q999 m999 cq999, .slice q101 na cq101]) 27 :: bx (γ3 1) (#[.int .i64 0, .slice none 0 0, .slice none 0 0]) 27 :: bx (γ3 0) (#[.int .i64 now, .slice p n cap, .slice pa na ca]) 27 :: bx (γ1 3) (#[.int .i64 0, .slice none 0 0, .slice none 0 0]) 27 :: bx (γ1 2) (#[.int .i64 at_]) 2 :: bx (γ1 1) (#[.int .i64 x.vcpu, .int .i64 x.port, .int .i64 x.every]) 47 :: bx (γ1 0) (#[.int .i64 now, .slice p n cap, .slice pa na ca]) 27 :: (Y999 ++ (Y101 ++ []))) ?_ (fun hmx1 => ?_)
     rotate_left
     ·
      refine a1 9 rfl ?_
      refine cP (fun v L' => ∃ q_ m_ c_ Y_, v = (.int .i64 0) ∧ L' = (bx (γ141 0) #[.int .i64 now, .slice q_ m_ c_, .slice q101 na cq101] 27 :: [bx (γ3 1) (#[.int .i64 0, .slice none 0 0, .slice none 0 0]) 27, bx (γ3 0) (#[.int .i64 now, .slice p n cap, .slice pa na ca]) 27, bx (γ1 3) (#[.int .i64 0, .slice none 0 0, .slice none 0 0]) 27, bx (γ1 2) (#[.int .i64 at_]) 2, bx (γ1 1) (#[.int .i64 x.vcpu, .int .i64 x.port, .int .i64 x.every]) 47, bx (γ1 0) (#[.int .i64 now, .slice p n cap, .slice pa na ca]) 27]) ++ (Y_ ++ ((Y101 ++ []))) ∧ SlO 88 Y_ q_ m_ c_ (tput ts (x.vcpu - 1) at_)) Try.call49 (fun w hw => (aset_t _ ([bx (γ3 1) (#[.int .i64 0, .slice none 0 0, .slice none 0 0]) 27, bx (γ3 0) (#[.int .i64 now, .slice p n cap, .slice pa na ca]) 27, bx (γ1 3) (#[.int .i64 0, .slice none 0 0, .slice none 0 0]) 27, bx (γ1 2) (#[.int .i64 at_]) 2, bx (γ1 1) (#[.int .i64 x.vcpu, .int .i64 x.port, .int .i64 x.every]) 47, bx (γ1 0) (#[.int .i64 now, .slice p n cap, .slice pa na ca]) 27] ++ ((Y101 ++ []))) Y227 (γ141 0) now q227 n cq227 q101 na cq101 ts (x.vcpu - 1) at_ w (hw.pull (A := [bx (γ3 1) (#[.int .i64 0, .slice none 0 0, .slice none 0 0]) 27, bx (γ3 0) (#[.int .i64 now, .slice p n cap, .slice pa na ca]) 27, bx (γ1 3) (#[.int .i64 0, .slice none 0 0, .slice none 0 0]) 27, bx (γ1 2) (#[.int .i64 at_]) 2, bx (γ1 1) (#[.int .i64 x.vcpu, .int .i64 x.port, .int .i64 x.every]) 47, bx (γ1 0) (#[.int .i64 now, .slice p n cap, .slice pa na ca]) 27]) (Y := Y227) (R := ((Y101 ++ [])))) hO227 (by omega) (al_iff.1 q5).wh (by omega) (by omega) (of_decide_eq_true q522)).mono fun e w' ⟨q_, m_, c_, Y_, he, hO, hY⟩ => ⟨_, _, he, ⟨q_, m_, c_, Y_, rfl, rfl, hO⟩, hY.push (A := _ :: [bx (γ3 1) (#[.int .i64 0, .slice none 0 0, .slice none 0 0]) 27, bx (γ3 0) (#[.int .i64 now, .slice p n cap, .slice pa na ca]) 27, bx (γ1 3) (#[.int .i64 0, .slice none 0 0, .slice none 0 0]) 27, bx (γ1 2) (#[.int .i64 at_]) 2, bx (γ1 1) (#[.int .i64 x.vcpu, .int .i64 x.port, .int .i64 x.every]) 47, bx (γ1 0) (#[.int .i64 now, .slice p n cap, .slice pa na ca]) 27])⟩) ?_
      rintro v999 L999 ⟨q999, m999, cq999, Y999, rfl, rfl, hO999⟩
      have hm999 := hO999.len
      refine od_ ?_
      refine tk (m := 0) [10, 11] [] [0, 1] [(18, .bool false)] ([]) #[true, true, true, true, true, true, true, true, true, true, true, true] al0 ?_
      exact wk (hmx1 (Y999, cq999, m999, q999) hO999) [0, 1, 18] [[_], [_], [_], [_], [_], [_], [_], _, _] [0, 1, 2, 3, 4, 5, 6, 7, 8] rfl rfl
     rintro ⟨Y999, cq999, m999, q999⟩ hO999
     refine any_nil (by kernel_rfl) ?_
     refine ds_ (f_ (at_skip (ds_ (sq_ ?_))))
     refine at_calm rfl (by kernel_rfl) (by kernel_rfl) ?_
     refine cm 6 [(3, .go (owns 0 2 1)), (5, .go (owns 5 0 1))] [0, 1] [(23, .slice q101 na cq101), (25, .int .i64 x.vcpu)] ([]) (by kernel_rfl) rfl al0 ?_
     rcases ha1101 : getK Alm.vcpu rs x.vcpu with _ | z1101
     ·
      have hpl1101 := (pos_cut (k := x.vcpu) (al_iff.1 q5).rr).2.2
      refine cK (.tuple #[.int .i64 ((posK Alm.vcpu rs x.vcpu : Nat)), .bool false]) Try.call29 (fun w hw => by have := atg_t q101 na cq101 rs x.vcpu w (hO101.atN (A := (_ :: _ :: _ :: _ :: _ :: _ :: _ :: Y999)) hw) hO101.len (by omega) (al_iff.1 q5).rr (al_iff.1 q5).al (by omega) (by omega); rw [hasK_none ha1101] at this; exact this) ?_
      refine cm 5 [] [0, 1] [(5, .int .i64 ((posK Alm.vcpu rs x.vcpu : Nat))), (6, .bool false)] ([]) (by kernel_rfl) rfl al0 ?_
      refine calm_nil' ?_
      refine ds_ (sq_ (sq_ (qa0 [] [0, 1, 5] [(30, .bool true)] (ds_ (t_ ?_)))))
      refine at_any (by kernel_rfl) ?_
      refine tk (m := 7) [0, 1, 2, 3, 5] [] [0, 1, 5] [(31, .pointer (some ⟨γ141 0, 0, none⟩)), (34, .pointer (some ⟨γ141 0, 2, none⟩)), (36, .int .i64 ((posK Alm.vcpu rs x.vcpu : Nat)))] ([]) #[true, true, true, true, false, true, false, false, false, false, false, false] al0 ?_
      refine any_cutX (V := (List Ob) × (Nat) × (Option Addr) × (Nat → Nat)) (fun ⟨Y1267, cq1267, q1267, γ1247⟩ => SlO 47 Y1267 q1267 (na + 1) cq1267 (rs.take (posK Alm.vcpu rs x.vcpu) ++ [⟨x.vcpu, x.port, x.every⟩] ++ rs.drop (posK Alm.vcpu rs x.vcpu))) 0 #[true, true, true, true, true, true, true, true, true, true, true, true] (fun ⟨Y1267, cq1267, q1267, γ1247⟩ => [(0, .pointer (some ⟨γ141 0, 0, none⟩)), (1, .pointer (some ⟨γ1 1, 0, none⟩)), (5, .int .i64 ((posK Alm.vcpu rs x.vcpu : Nat)))]) (fun ⟨Y1267, cq1267, q1267, γ1247⟩ => bx (γ141 0) (#[.int .i64 now, .slice q999 m999 cq999, .slice q1267 (na + 1) cq1267]) 27 :: bx (γ3 1) (#[.int .i64 0, .slice none 0 0, .slice none 0 0]) 27 :: bx (γ3 0) (#[.int .i64 now, .slice p n cap, .slice pa na ca]) 27 :: bx (γ1 3) (#[.int .i64 0, .slice none 0 0, .slice none 0 0]) 27 :: bx (γ1 2) (#[.int .i64 at_]) 2 :: bx (γ1 1) (#[.int .i64 x.vcpu, .int .i64 x.port, .int .i64 x.every]) 47 :: bx (γ1 0) (#[.int .i64 now, .slice p n cap, .slice pa na ca]) 27 :: (Y1267 ++ (Y999 ++ []))) ?_ (fun hmx7 => ?_)
      rotate_left
      ·
       refine any_cutX (V := (List Ob) × (Nat) × (Option Addr) × (Nat → Nat)) (fun ⟨Y1267, cq1267, q1267, γ1247⟩ => SlO 47 Y1267 q1267 (na + 1) cq1267 (rs.take (posK Alm.vcpu rs x.vcpu) ++ [⟨x.vcpu, x.port, x.every⟩] ++ rs.drop (posK Alm.vcpu rs x.vcpu))) 1 #[true, true, true, true, true, true, true, true, true, true, true, false] (fun ⟨Y1267, cq1267, q1267, γ1247⟩ => [(0, .pointer (some ⟨γ141 0, 0, none⟩)), (1, .pointer (some ⟨γ1 1, 0, none⟩)), (5, .int .i64 ((posK Alm.vcpu rs x.vcpu : Nat))), (39, .slice q1267 (na + 1) cq1267), (41, .pointer (some ⟨γ141 0, 2, none⟩))]) (fun ⟨Y1267, cq1267, q1267, γ1247⟩ => bx (γ141 0) (#[.int .i64 now, .slice q999 m999 cq999, .slice q101 na cq101]) 27 :: bx (γ3 1) (#[.int .i64 0, .slice none 0 0, .slice none 0 0]) 27 :: bx (γ3 0) (#[.int .i64 now, .slice p n cap, .slice pa na ca]) 27 :: bx (γ1 3) (#[.int .i64 0, .slice none 0 0, .slice none 0 0]) 27 :: bx (γ1 2) (#[.int .i64 at_]) 2 :: bx (γ1 1) (#[.int .i64 x.vcpu, .int .i64 x.port, .int .i64 x.every]) 47 :: bx (γ1 0) (#[.int .i64 now, .slice p n cap, .slice pa na ca]) 27 :: (Y1267 ++ (Y999 ++ []))) ?_ (fun hmx6 => ?_)
       ·
        rintro ⟨Y1267, cq1267, q1267, γ1247⟩ hO1267
        refine a1 11 rfl ?_
        refine mo0 1 [(11, .go (owns 0 2 1))] [0, 1, 5] (fun _ => []) (fun _ L => (L.set 0 (bx (γ141 0) (#[.int .i64 now, .slice q999 m999 cq999, .slice q1267 (na + 1) cq1267]) 27))) (fun _ => ?_)
        refine od_ ?_
        exact wk (hmx7 (Y1267, cq1267, q1267, γ1247) hO1267) [0, 1, 5] [[_], [_], [_], [_], [_], [_], [_], _, _] [0, 1, 2, 3, 4, 5, 6, 7, 8] rfl rfl
       refine any_cutX (V := (Nat → Nat)) (fun γ1247 => True) 4 #[true, true, true, true, true, true, true, true, false, false, false, false] (fun γ1247 => [(0, .pointer (some ⟨γ141 0, 0, none⟩)), (1, .pointer (some ⟨γ1 1, 0, none⟩)), (5, .int .i64 ((posK Alm.vcpu rs x.vcpu : Nat))), (31, .pointer (some ⟨γ141 0, 0, none⟩)), (35, .slice q101 na cq101), (36, .int .i64 ((posK Alm.vcpu rs x.vcpu : Nat))), (38, .slice (some ⟨γ1247 0, 0, none⟩) 1 1)]) (fun γ1247 => bx (γ1247 0) (#[.int .i64 x.vcpu, .int .i64 x.port, .int .i64 x.every]) 47 :: bx (γ141 0) (#[.int .i64 now, .slice q999 m999 cq999, .slice q101 na cq101]) 27 :: bx (γ3 1) (#[.int .i64 0, .slice none 0 0, .slice none 0 0]) 27 :: bx (γ3 0) (#[.int .i64 now, .slice p n cap, .slice pa na ca]) 27 :: bx (γ1 3) (#[.int .i64 0, .slice none 0 0, .slice none 0 0]) 27 :: bx (γ1 2) (#[.int .i64 at_]) 2 :: bx (γ1 1) (#[.int .i64 x.vcpu, .int .i64 x.port, .int .i64 x.every]) 47 :: bx (γ1 0) (#[.int .i64 now, .slice p n cap, .slice pa na ca]) 27 :: (Y999 ++ (Y101 ++ []))) ?_ (fun hmx5 => ?_)
       ·
        rintro γ1247 _
        refine a1 8 rfl ?_
        refine Ops.pick [[bx (γ1247 0) (#[.int .i64 x.vcpu, .int .i64 x.port, .int .i64 x.every]) 47], [bx (γ141 0) (#[.int .i64 now, .slice q999 m999 cq999, .slice q101 na cq101]) 27], [bx (γ3 1) (#[.int .i64 0, .slice none 0 0, .slice none 0 0]) 27], [bx (γ3 0) (#[.int .i64 now, .slice p n cap, .slice pa na ca]) 27], [bx (γ1 3) (#[.int .i64 0, .slice none 0 0, .slice none 0 0]) 27], [bx (γ1 2) (#[.int .i64 at_]) 2], [bx (γ1 1) (#[.int .i64 x.vcpu, .int .i64 x.port, .int .i64 x.every]) 47], [bx (γ1 0) (#[.int .i64 now, .slice p n cap, .slice pa na ca]) 27], Y999, Y101] [0, 1, 2, 3, 4, 5, 6, 7, 9, 8] [] (bx (γ1247 0) (#[.int .i64 x.vcpu, .int .i64 x.port, .int .i64 x.every]) 47 :: bx (γ141 0) (#[.int .i64 now, .slice q999 m999 cq999, .slice q101 na cq101]) 27 :: bx (γ3 1) (#[.int .i64 0, .slice none 0 0, .slice none 0 0]) 27 :: bx (γ3 0) (#[.int .i64 now, .slice p n cap, .slice pa na ca]) 27 :: bx (γ1 3) (#[.int .i64 0, .slice none 0 0, .slice none 0 0]) 27 :: bx (γ1 2) (#[.int .i64 at_]) 2 :: bx (γ1 1) (#[.int .i64 x.vcpu, .int .i64 x.port, .int .i64 x.every]) 47 :: bx (γ1 0) (#[.int .i64 now, .slice p n cap, .slice pa na ca]) 27 :: (Y101 ++ (Y999 ++ []))) (by kernel_rfl) rfl rfl (cP (fun v L' => ∃ q_ capq_ Y_, v = .slice q_ (na + 1) capq_ ∧ L' = [bx (γ141 0) (#[.int .i64 now, .slice q999 m999 cq999, .slice q101 na cq101]) 27, bx (γ3 1) (#[.int .i64 0, .slice none 0 0, .slice none 0 0]) 27, bx (γ3 0) (#[.int .i64 now, .slice p n cap, .slice pa na ca]) 27, bx (γ1 3) (#[.int .i64 0, .slice none 0 0, .slice none 0 0]) 27, bx (γ1 2) (#[.int .i64 at_]) 2, bx (γ1 1) (#[.int .i64 x.vcpu, .int .i64 x.port, .int .i64 x.every]) 47, bx (γ1 0) (#[.int .i64 now, .slice p n cap, .slice pa na ca]) 27] ++ (Y_ ++ ((Y999 ++ []))) ∧ SlO 47 Y_ q_ (na + 1) capq_ (rs.take (posK Alm.vcpu rs x.vcpu) ++ [⟨x.vcpu, x.port, x.every⟩] ++ rs.drop (posK Alm.vcpu rs x.vcpu))) Try.call50 (fun w hw => (ainsert_t _ ([bx (γ141 0) (#[.int .i64 now, .slice q999 m999 cq999, .slice q101 na cq101]) 27, bx (γ3 1) (#[.int .i64 0, .slice none 0 0, .slice none 0 0]) 27, bx (γ3 0) (#[.int .i64 now, .slice p n cap, .slice pa na ca]) 27, bx (γ1 3) (#[.int .i64 0, .slice none 0 0, .slice none 0 0]) 27, bx (γ1 2) (#[.int .i64 at_]) 2, bx (γ1 1) (#[.int .i64 x.vcpu, .int .i64 x.port, .int .i64 x.every]) 47, bx (γ1 0) (#[.int .i64 now, .slice p n cap, .slice pa na ca]) 27] ++ ((Y999 ++ []))) Y101 q101 na cq101 rs (posK Alm.vcpu rs x.vcpu) (γ1247 0) (#[.int .i64 x.vcpu, .int .i64 x.port, .int .i64 x.every]) 1 ([⟨x.vcpu, x.port, x.every⟩]) w (hw.pull (A := [bx (γ141 0) (#[.int .i64 now, .slice q999 m999 cq999, .slice q101 na cq101]) 27, bx (γ3 1) (#[.int .i64 0, .slice none 0 0, .slice none 0 0]) 27, bx (γ3 0) (#[.int .i64 now, .slice p n cap, .slice pa na ca]) 27, bx (γ1 3) (#[.int .i64 0, .slice none 0 0, .slice none 0 0]) 27, bx (γ1 2) (#[.int .i64 at_]) 2, bx (γ1 1) (#[.int .i64 x.vcpu, .int .i64 x.port, .int .i64 x.every]) 47, bx (γ1 0) (#[.int .i64 now, .slice p n cap, .slice pa na ca]) 27]) (Y := Y101) (R := ((Y999 ++ [])))) hO101 (by rfl) (by rfl) (by omega) (by omega) (by omega) (by omega)).mono fun e w' ⟨q_, capq_, Y_, he, hO, hY⟩ => ⟨_, _, he, ⟨q_, capq_, Y_, rfl, rfl, hO⟩, hY.push⟩) ?_)
        rintro v1267 L1267 ⟨q1267, cq1267, Y1267, rfl, rfl, hO1267⟩
        refine od_ ?_
        refine tk (m := 1) [9, 10] [] [0, 1, 5, 39] [(41, .pointer (some ⟨γ141 0, 2, none⟩))] ([]) #[true, true, true, true, true, true, true, true, true, true, true, false] al0 ?_
        exact wk (hmx6 (Y1267, cq1267, q1267, γ1247) hO1267) [0, 1, 5, 39, 41] [[_], [_], [_], [_], [_], [_], [_], _, _] [0, 1, 2, 3, 4, 5, 6, 7, 8] rfl rfl
       refine any_cutX (V := (Nat → Nat)) (fun γ1247 => True) 5 #[true, true, true, true, false, true, true, true, false, false, false, false] (fun γ1247 => [(0, .pointer (some ⟨γ141 0, 0, none⟩)), (1, .pointer (some ⟨γ1 1, 0, none⟩)), (5, .int .i64 ((posK Alm.vcpu rs x.vcpu : Nat))), (31, .pointer (some ⟨γ141 0, 0, none⟩)), (34, .pointer (some ⟨γ141 0, 2, none⟩)), (36, .int .i64 ((posK Alm.vcpu rs x.vcpu : Nat))), (38, .slice (some ⟨γ1247 0, 0, none⟩) 1 1)]) (fun γ1247 => bx (γ1247 0) (#[.int .i64 x.vcpu, .int .i64 x.port, .int .i64 x.every]) 47 :: bx (γ141 0) (#[.int .i64 now, .slice q999 m999 cq999, .slice q101 na cq101]) 27 :: bx (γ3 1) (#[.int .i64 0, .slice none 0 0, .slice none 0 0]) 27 :: bx (γ3 0) (#[.int .i64 now, .slice p n cap, .slice pa na ca]) 27 :: bx (γ1 3) (#[.int .i64 0, .slice none 0 0, .slice none 0 0]) 27 :: bx (γ1 2) (#[.int .i64 at_]) 2 :: bx (γ1 1) (#[.int .i64 x.vcpu, .int .i64 x.port, .int .i64 x.every]) 47 :: bx (γ1 0) (#[.int .i64 now, .slice p n cap, .slice pa na ca]) 27 :: (Y999 ++ (Y101 ++ []))) ?_ (fun hmx4 => ?_)
       ·
        rintro γ1247 _
        refine a1 4 rfl ?_
        refine qo0 1 [(4, .go (owns 1 2 1))] [0, 1, 5, 31, 36, 38] [(35, .slice q101 na cq101)] ?_
        refine od_ ?_
        exact wk (hmx5 γ1247 trivial) [0, 1, 5, 31, 35, 36, 38] [[_], [_], [_], [_], [_], [_], [_], [_], _, _] [0, 1, 2, 3, 4, 5, 6, 7, 8, 9] rfl rfl
       refine any_cutX (V := Unit) (fun _ => True) 5 #[true, true, true, true, true, true, true, false, false, false, false, false] (fun _ => [(0, .pointer (some ⟨γ141 0, 0, none⟩)), (1, .pointer (some ⟨γ1 1, 0, none⟩)), (5, .int .i64 ((posK Alm.vcpu rs x.vcpu : Nat))), (31, .pointer (some ⟨γ141 0, 0, none⟩)), (35, .slice q101 na cq101), (36, .int .i64 ((posK Alm.vcpu rs x.vcpu : Nat))), (37, .agg #[.int .i64 x.vcpu, .int .i64 x.port, .int .i64 x.every])]) (fun _ => bx (γ141 0) (#[.int .i64 now, .slice q999 m999 cq999, .slice q101 na cq101]) 27 :: bx (γ3 1) (#[.int .i64 0, .slice none 0 0, .slice none 0 0]) 27 :: bx (γ3 0) (#[.int .i64 now, .slice p n cap, .slice pa na ca]) 27 :: bx (γ1 3) (#[.int .i64 0, .slice none 0 0, .slice none 0 0]) 27 :: bx (γ1 2) (#[.int .i64 at_]) 2 :: bx (γ1 1) (#[.int .i64 x.vcpu, .int .i64 x.port, .int .i64 x.every]) 47 :: bx (γ1 0) (#[.int .i64 now, .slice p n cap, .slice pa na ca]) 27 :: (Y999 ++ (Y101 ++ []))) ?_ (fun hmx3 => ?_)
       ·
        rintro _ _
        refine a1 7 rfl ?_
        refine mo0 1 [] [0, 1, 5, 31, 35, 36] (fun γ1247 => [(38, .slice (some ⟨γ1247 0, 0, none⟩) 1 1)]) (fun γ1247 L => bx (γ1247 0) (#[.int .i64 x.vcpu, .int .i64 x.port, .int .i64 x.every]) 47 :: L) (fun γ1247 => ?_)
        refine od_ ?_
        exact wk (hmx5 γ1247 trivial) [0, 1, 5, 31, 35, 36, 38] [[_], [_], [_], [_], [_], [_], [_], [_], _, _] [0, 1, 2, 3, 4, 5, 6, 7, 8, 9] rfl rfl
       refine any_cutX (V := Unit) (fun _ => True) 6 #[true, true, true, true, false, true, true, false, false, false, false, false] (fun _ => [(0, .pointer (some ⟨γ141 0, 0, none⟩)), (1, .pointer (some ⟨γ1 1, 0, none⟩)), (5, .int .i64 ((posK Alm.vcpu rs x.vcpu : Nat))), (31, .pointer (some ⟨γ141 0, 0, none⟩)), (34, .pointer (some ⟨γ141 0, 2, none⟩)), (36, .int .i64 ((posK Alm.vcpu rs x.vcpu : Nat))), (37, .agg #[.int .i64 x.vcpu, .int .i64 x.port, .int .i64 x.every])]) (fun _ => bx (γ141 0) (#[.int .i64 now, .slice q999 m999 cq999, .slice q101 na cq101]) 27 :: bx (γ3 1) (#[.int .i64 0, .slice none 0 0, .slice none 0 0]) 27 :: bx (γ3 0) (#[.int .i64 now, .slice p n cap, .slice pa na ca]) 27 :: bx (γ1 3) (#[.int .i64 0, .slice none 0 0, .slice none 0 0]) 27 :: bx (γ1 2) (#[.int .i64 at_]) 2 :: bx (γ1 1) (#[.int .i64 x.vcpu, .int .i64 x.port, .int .i64 x.every]) 47 :: bx (γ1 0) (#[.int .i64 now, .slice p n cap, .slice pa na ca]) 27 :: (Y999 ++ (Y101 ++ []))) ?_ (fun hmx2 => ?_)
       ·
        rintro _ _
        refine any_fork [4, 7] (by kernel_rfl) (by simp) (each_cons _ rfl ?_ (each_cons _ rfl ?_ (each_nil)))
        ·
         refine qo0 1 [(4, .go (owns 0 2 1))] [0, 1, 5, 31, 36, 37] [(35, .slice q101 na cq101)] ?_
         refine od_ ?_
         exact wk (hmx3 () trivial) [0, 1, 5, 31, 35, 36, 37] [[_], [_], [_], [_], [_], [_], [_], _, _] [0, 1, 2, 3, 4, 5, 6, 7, 8] rfl rfl
        ·
         refine mo0 1 [] [0, 1, 5, 31, 34, 36] (fun γ1247 => [(38, .slice (some ⟨γ1247 0, 0, none⟩) 1 1)]) (fun γ1247 L => bx (γ1247 0) (#[.int .i64 x.vcpu, .int .i64 x.port, .int .i64 x.every]) 47 :: L) (fun γ1247 => ?_)
         refine od_ ?_
         exact wk (hmx4 γ1247 trivial) [0, 1, 5, 31, 34, 36, 38] [[_], [_], [_], [_], [_], [_], [_], [_], _, _] [0, 1, 2, 3, 4, 5, 6, 7, 8, 9] rfl rfl
       refine any_cutX (V := Unit) (fun _ => True) 6 #[true, true, true, true, true, true, false, false, false, false, false, false] (fun _ => [(0, .pointer (some ⟨γ141 0, 0, none⟩)), (1, .pointer (some ⟨γ1 1, 0, none⟩)), (5, .int .i64 ((posK Alm.vcpu rs x.vcpu : Nat))), (31, .pointer (some ⟨γ141 0, 0, none⟩)), (35, .slice q101 na cq101), (36, .int .i64 ((posK Alm.vcpu rs x.vcpu : Nat)))]) (fun _ => bx (γ141 0) (#[.int .i64 now, .slice q999 m999 cq999, .slice q101 na cq101]) 27 :: bx (γ3 1) (#[.int .i64 0, .slice none 0 0, .slice none 0 0]) 27 :: bx (γ3 0) (#[.int .i64 now, .slice p n cap, .slice pa na ca]) 27 :: bx (γ1 3) (#[.int .i64 0, .slice none 0 0, .slice none 0 0]) 27 :: bx (γ1 2) (#[.int .i64 at_]) 2 :: bx (γ1 1) (#[.int .i64 x.vcpu, .int .i64 x.port, .int .i64 x.every]) 47 :: bx (γ1 0) (#[.int .i64 now, .slice p n cap, .slice pa na ca]) 27 :: (Y999 ++ (Y101 ++ []))) ?_ (fun hmx1 => ?_)
       ·
        rintro _ _
        refine a1 6 rfl ?_
        refine qo0 1 [(6, .go (owns 5 0 3))] [0, 1, 5, 31, 35, 36] [(37, .agg #[.int .i64 x.vcpu, .int .i64 x.port, .int .i64 x.every])] ?_
        refine od_ ?_
        exact wk (hmx3 () trivial) [0, 1, 5, 31, 35, 36, 37] [[_], [_], [_], [_], [_], [_], [_], _, _] [0, 1, 2, 3, 4, 5, 6, 7, 8] rfl rfl
       refine any_fork [4, 6] (by kernel_rfl) (by simp) (each_cons _ rfl ?_ (each_cons _ rfl ?_ (each_nil)))
       ·
        refine qo0 1 [(4, .go (owns 0 2 1))] [0, 1, 5, 31, 36] [(35, .slice q101 na cq101)] ?_
        refine od_ ?_
        exact wk (hmx1 () trivial) [0, 1, 5, 31, 35, 36] [[_], [_], [_], [_], [_], [_], [_], _, _] [0, 1, 2, 3, 4, 5, 6, 7, 8] rfl rfl
       ·
        refine qo0 1 [(6, .go (owns 5 0 3))] [0, 1, 5, 31, 34, 36] [(37, .agg #[.int .i64 x.vcpu, .int .i64 x.port, .int .i64 x.every])] ?_
        refine od_ ?_
        exact wk (hmx2 () trivial) [0, 1, 5, 31, 34, 36, 37] [[_], [_], [_], [_], [_], [_], [_], _, _] [0, 1, 2, 3, 4, 5, 6, 7, 8] rfl rfl
      rintro ⟨Y1267, cq1267, q1267, γ1247⟩ hO1267
      refine any_nil (by kernel_rfl) ?_
      refine ds_ (sq_ ?_)
      have hln1388 := hO1267.len
      obtain ⟨g1388, cs1388, rfl, rfl, hOw1388⟩ := hO1267.rowOf (i := posK Alm.vcpu rs x.vcpu) (by omega)
      obtain ⟨x1389, hx1389⟩ := get_some (l := (rs.take (posK Alm.vcpu rs x.vcpu) ++ [⟨x.vcpu, x.port, x.every⟩] ++ rs.drop (posK Alm.vcpu rs x.vcpu))) (m := posK Alm.vcpu rs x.vcpu) (by have := pos_cut (k := x.vcpu) (al_iff.1 q5).rr; omega)
      refine at_calmTo (f := 1) 7 rfl (by kernel_rfl) (by kernel_rfl) (by kernel_rfl) (by kernel_rfl) (by kernel_rfl) (by kernel_rfl) ?_
      refine cm 7 [(3, .go (owns 0 2 1)), (5, .go (owns 5 0 3)), (6, .at g1388 0 (posK Alm.vcpu rs x.vcpu))] [] [(47, .agg #[.int .i64 x.vcpu, .int .i64 x.port, .int .i64 x.every]), (48, .pointer (some ⟨g1388, 0 + (posK Alm.vcpu rs x.vcpu) * 3, none⟩))] ([(some ⟨g1388, 0, none⟩ : Option Addr) = some ⟨g1388, 0, none⟩, ((posK Alm.vcpu rs x.vcpu : Nat)) = ((posK Alm.vcpu rs x.vcpu : Nat) : Int), posK Alm.vcpu rs x.vcpu < na + 1]) (by kernel_rfl) rfl (al2 rfl (al2 rfl (al1 (by omega)))) ?_
      refine calm_nil' ?_
      refine done_pre (li' := #[true, true, true, true, true, true, true, false]) (by kernel_rfl) ?_
      refine any_cutX (V := Unit) (fun _ => True) 0 #[true, true, true, true, true, true, true, true] (fun _ => []) (fun _ => bx (γ141 0) (#[.int .i64 now, .slice q999 m999 cq999, .slice (some ⟨g1388, 0, none⟩) (na + 1) cq1267]) 27 :: bx (γ3 1) (#[.int .i64 0, .slice none 0 0, .slice none 0 0]) 27 :: bx (γ3 0) (#[.int .i64 now, .slice p n cap, .slice pa na ca]) 27 :: bx (γ1 3) (#[.int .i64 0, .slice none 0 0, .slice none 0 0]) 27 :: bx (γ1 2) (#[.int .i64 at_]) 2 :: bx (γ1 1) (#[.int .i64 x.vcpu, .int .i64 x.port, .int .i64 x.every]) 47 :: bx (γ1 0) (#[.int .i64 now, .slice p n cap, .slice pa na ca]) 27 :: bx g1388 ((((cs1388).setIfInBounds (0 + (posK Alm.vcpu rs x.vcpu) * 3) (.int .i64 x.vcpu)).setIfInBounds (0 + (posK Alm.vcpu rs x.vcpu) * 3 + 1) (.int .i64 x.port)).setIfInBounds (0 + (posK Alm.vcpu rs x.vcpu) * 3 + 2) (.int .i64 x.every)) 47 :: (Y999 ++ [])) ?_ (fun hmx1 => ?_)
      rotate_left
      ·
       refine a1 7 rfl ?_
       refine mo 1 [(7, .go (ownps 7 (0 + (posK Alm.vcpu rs x.vcpu) * 3) [undef, undef, undef]))] [] (fun _ => []) (fun _ L => (L.set 7 (bx g1388 ((((cs1388).setIfInBounds (0 + (posK Alm.vcpu rs x.vcpu) * 3) (.int .i64 x.vcpu)).setIfInBounds (0 + (posK Alm.vcpu rs x.vcpu) * 3 + 1) (.int .i64 x.port)).setIfInBounds (0 + (posK Alm.vcpu rs x.vcpu) * 3 + 2) (.int .i64 x.every)) 47))) (fun _ => [0 + (posK Alm.vcpu rs x.vcpu) * 3 < (cs1388).size] ++ ([0 + (posK Alm.vcpu rs x.vcpu) * 3 + 1 < ((cs1388).setIfInBounds (0 + (posK Alm.vcpu rs x.vcpu) * 3) (.int .i64 x.vcpu)).size] ++ ([0 + (posK Alm.vcpu rs x.vcpu) * 3 + 2 < (((cs1388).setIfInBounds (0 + (posK Alm.vcpu rs x.vcpu) * 3) (.int .i64 x.vcpu)).setIfInBounds (0 + (posK Alm.vcpu rs x.vcpu) * 3 + 1) (.int .i64 x.port)).size]))) (fun _ => (alA (al1 (by exact hOw1388.room hO1267.len hx1389 (f := 0) (by decide))) (alA (al1 (by simp only [Array.size_setIfInBounds]; exact hOw1388.room hO1267.len hx1389 (f := 1) (by decide))) (al1 (by simp only [Array.size_setIfInBounds]; exact hOw1388.room hO1267.len hx1389 (f := 2) (by decide)))))) (fun _ => ?_)
       refine od_ ?_
       exact wk (hmx1 () trivial) [] [[_], [_], [_], [_], [_], [_], [_], [_], _] [0, 1, 2, 3, 4, 5, 6, 7, 8] rfl rfl
      rintro _ _
      refine any_nil (by kernel_rfl) ?_
      refine ds_ (sq_ (qa0 [] [] [(4, .int .i64 0)] (ds_ (bk ([]) (.int .i64 0) (qo0 1 [] [6, 9] [(10, .int .i64 0)] (on_ (ds_ (sq_ (qa0 [] [6, 9, 10] [(36, .bool false)] (ds_ (f_ (at_skip (ds_ (sq_ (ma0 [(0, .go (owns 0 0 3)), (1, .go (owns 1 0 3))] [6] (fun _ => [(7, .int .i64 0)]) (fun _ L => (L.set 1 (bx (γ3 1) (#[.int .i64 now, .slice q999 m999 cq999, .slice (some ⟨g1388, 0, none⟩) (na + 1) cq1267]) 27))) (fun _ => ds_ (bk (owns 1 0 3) (.tuple #[.agg #[.int .i64 now, .slice q999 m999 cq999, .slice (some ⟨g1388, 0, none⟩) (na + 1) cq1267], .int .i64 0]) (mo0 4 [(7, .go (owns 3 0 3))] [6] (fun _ => [(7, .int .i64 0)]) (fun _ L => (L.set 3 (bx (γ1 3) (#[.int .i64 now, .slice q999 m999 cq999, .slice (some ⟨g1388, 0, none⟩) (na + 1) cq1267]) 27))) (fun _ => on_ (ds_ (rt (owns 3 0 3) (.tuple #[.agg #[.int .i64 now, .slice q999 m999 cq999, .slice (some ⟨g1388, 0, none⟩) (na + 1) cq1267], .int .i64 0]) ?_)))))))))))))))))))))
      exact fun w' hw => by rw [startV_ins q5 q231 (of_decide_eq_true q522) ha1101]; exact ⟨_, _, _, _, _, _, _, _, rfl, hO999, (SlO.ofOwn (hOw1388.putAll (x' := x) hO1267.len hx1389) (len_set hO1267.len)), hw.below, two_tails (Hs.pick [[bx (γ141 0) (#[.int .i64 now, .slice q999 m999 cq999, .slice (some ⟨g1388, 0, none⟩) (na + 1) cq1267]) 27], [bx (γ3 1) (#[.int .i64 now, .slice q999 m999 cq999, .slice (some ⟨g1388, 0, none⟩) (na + 1) cq1267]) 27], [bx (γ3 0) (#[.int .i64 now, .slice p n cap, .slice pa na ca]) 27], [bx (γ1 3) (#[.int .i64 now, .slice q999 m999 cq999, .slice (some ⟨g1388, 0, none⟩) (na + 1) cq1267]) 27], [bx (γ1 2) (#[.int .i64 at_]) 2], [bx (γ1 1) (#[.int .i64 x.vcpu, .int .i64 x.port, .int .i64 x.every]) 47], [bx (γ1 0) (#[.int .i64 now, .slice p n cap, .slice pa na ca]) 27], [bx g1388 ((((cs1388).setIfInBounds (0 + (posK Alm.vcpu rs x.vcpu) * 3) (.int .i64 x.vcpu)).setIfInBounds (0 + (posK Alm.vcpu rs x.vcpu) * 3 + 1) (.int .i64 x.port)).setIfInBounds (0 + (posK Alm.vcpu rs x.vcpu) * 3 + 2) (.int .i64 x.every)) 47], Y999] [8, 7] [0, 1, 2, 3, 4, 5, 6] (by kernel_rfl) hw)⟩
     ·
      have hp_z1101 := pos_getK (al_iff.1 q5).rr ha1101
      have hl_z1101 := (List.getElem?_eq_some_iff.1 hp_z1101).1
      have hz_z1101 := getK_mem ha1101
      refine cK (.tuple #[.int .i64 ((posK Alm.vcpu rs x.vcpu : Nat)), .bool true]) Try.call29 (fun w hw => by have := atg_t q101 na cq101 rs x.vcpu w (hO101.atN (A := (_ :: _ :: _ :: _ :: _ :: _ :: _ :: Y999)) hw) hO101.len (by omega) (al_iff.1 q5).rr (al_iff.1 q5).al (by omega) (by omega); rw [hasK_some ha1101] at this; exact this) ?_
      refine cm 5 [] [0, 1] [(5, .int .i64 ((posK Alm.vcpu rs x.vcpu : Nat))), (6, .bool true)] ([]) (by kernel_rfl) rfl al0 ?_
      refine calm_nil' ?_
      refine ds_ (sq_ (sq_ (qa0 [] [0, 1, 5] [(30, .bool false)] (ds_ (f_ (at_skip (ds_ (sq_ (At.pick [[bx (γ141 0) (#[.int .i64 now, .slice q999 m999 cq999, .slice q101 na cq101]) 27], [bx (γ3 1) (#[.int .i64 0, .slice none 0 0, .slice none 0 0]) 27], [bx (γ3 0) (#[.int .i64 now, .slice p n cap, .slice pa na ca]) 27], [bx (γ1 3) (#[.int .i64 0, .slice none 0 0, .slice none 0 0]) 27], [bx (γ1 2) (#[.int .i64 at_]) 2], [bx (γ1 1) (#[.int .i64 x.vcpu, .int .i64 x.port, .int .i64 x.every]) 47], [bx (γ1 0) (#[.int .i64 now, .slice p n cap, .slice pa na ca]) 27], Y999, Y101] [0, 1, 2, 3, 4, 5, 6, 8, 7] [] (bx (γ141 0) (#[.int .i64 now, .slice q999 m999 cq999, .slice q101 na cq101]) 27 :: bx (γ3 1) (#[.int .i64 0, .slice none 0 0, .slice none 0 0]) 27 :: bx (γ3 0) (#[.int .i64 now, .slice p n cap, .slice pa na ca]) 27 :: bx (γ1 3) (#[.int .i64 0, .slice none 0 0, .slice none 0 0]) 27 :: bx (γ1 2) (#[.int .i64 at_]) 2 :: bx (γ1 1) (#[.int .i64 x.vcpu, .int .i64 x.port, .int .i64 x.every]) 47 :: bx (γ1 0) (#[.int .i64 now, .slice p n cap, .slice pa na ca]) 27 :: (Y101 ++ (Y999 ++ []))) (by kernel_rfl) rfl rfl ?_)))))))))
      have hln1599 := hO101.len
      obtain ⟨g1599, cs1599, rfl, rfl, hOw1599⟩ := hO101.rowOf (i := posK Alm.vcpu rs x.vcpu) (by omega)
      refine at_calmTo (f := 1) 7 rfl (by kernel_rfl) (by kernel_rfl) (by kernel_rfl) (by kernel_rfl) (by kernel_rfl) (by kernel_rfl) ?_
      refine cm 7 [(3, .go (owns 0 2 1)), (5, .go (owns 5 0 3)), (6, .at g1599 0 (posK Alm.vcpu rs x.vcpu))] [] [(47, .agg #[.int .i64 x.vcpu, .int .i64 x.port, .int .i64 x.every]), (48, .pointer (some ⟨g1599, 0 + (posK Alm.vcpu rs x.vcpu) * 3, none⟩))] ([(some ⟨g1599, 0, none⟩ : Option Addr) = some ⟨g1599, 0, none⟩, ((posK Alm.vcpu rs x.vcpu : Nat)) = ((posK Alm.vcpu rs x.vcpu : Nat) : Int), posK Alm.vcpu rs x.vcpu < na]) (by kernel_rfl) rfl (al2 rfl (al2 rfl (al1 (by omega)))) ?_
      refine calm_nil' ?_
      refine done_pre (li' := #[true, true, true, true, true, true, true, false]) (by kernel_rfl) ?_
      refine any_cutX (V := Unit) (fun _ => True) 0 #[true, true, true, true, true, true, true, true] (fun _ => []) (fun _ => bx (γ141 0) (#[.int .i64 now, .slice q999 m999 cq999, .slice (some ⟨g1599, 0, none⟩) na cq101]) 27 :: bx (γ3 1) (#[.int .i64 0, .slice none 0 0, .slice none 0 0]) 27 :: bx (γ3 0) (#[.int .i64 now, .slice p n cap, .slice pa na ca]) 27 :: bx (γ1 3) (#[.int .i64 0, .slice none 0 0, .slice none 0 0]) 27 :: bx (γ1 2) (#[.int .i64 at_]) 2 :: bx (γ1 1) (#[.int .i64 x.vcpu, .int .i64 x.port, .int .i64 x.every]) 47 :: bx (γ1 0) (#[.int .i64 now, .slice p n cap, .slice pa na ca]) 27 :: bx g1599 ((((cs1599).setIfInBounds (0 + (posK Alm.vcpu rs x.vcpu) * 3) (.int .i64 x.vcpu)).setIfInBounds (0 + (posK Alm.vcpu rs x.vcpu) * 3 + 1) (.int .i64 x.port)).setIfInBounds (0 + (posK Alm.vcpu rs x.vcpu) * 3 + 2) (.int .i64 x.every)) 47 :: (Y999 ++ [])) ?_ (fun hmx1 => ?_)
      rotate_left
      ·
       refine a1 7 rfl ?_
       refine mo 1 [(7, .go (ownps 7 (0 + (posK Alm.vcpu rs x.vcpu) * 3) [undef, undef, undef]))] [] (fun _ => []) (fun _ L => (L.set 7 (bx g1599 ((((cs1599).setIfInBounds (0 + (posK Alm.vcpu rs x.vcpu) * 3) (.int .i64 x.vcpu)).setIfInBounds (0 + (posK Alm.vcpu rs x.vcpu) * 3 + 1) (.int .i64 x.port)).setIfInBounds (0 + (posK Alm.vcpu rs x.vcpu) * 3 + 2) (.int .i64 x.every)) 47))) (fun _ => [0 + (posK Alm.vcpu rs x.vcpu) * 3 < (cs1599).size] ++ ([0 + (posK Alm.vcpu rs x.vcpu) * 3 + 1 < ((cs1599).setIfInBounds (0 + (posK Alm.vcpu rs x.vcpu) * 3) (.int .i64 x.vcpu)).size] ++ ([0 + (posK Alm.vcpu rs x.vcpu) * 3 + 2 < (((cs1599).setIfInBounds (0 + (posK Alm.vcpu rs x.vcpu) * 3) (.int .i64 x.vcpu)).setIfInBounds (0 + (posK Alm.vcpu rs x.vcpu) * 3 + 1) (.int .i64 x.port)).size]))) (fun _ => (alA (al1 (by exact hOw1599.room hO101.len hp_z1101 (f := 0) (by decide))) (alA (al1 (by simp only [Array.size_setIfInBounds]; exact hOw1599.room hO101.len hp_z1101 (f := 1) (by decide))) (al1 (by simp only [Array.size_setIfInBounds]; exact hOw1599.room hO101.len hp_z1101 (f := 2) (by decide)))))) (fun _ => ?_)
       refine od_ ?_
       exact wk (hmx1 () trivial) [] [[_], [_], [_], [_], [_], [_], [_], [_], _] [0, 1, 2, 3, 4, 5, 6, 7, 8] rfl rfl
      rintro _ _
      refine any_nil (by kernel_rfl) ?_
      refine ds_ (sq_ (qa0 [] [] [(4, .int .i64 0)] (ds_ (bk ([]) (.int .i64 0) (qo0 1 [] [6, 9] [(10, .int .i64 0)] (on_ (ds_ (sq_ (qa0 [] [6, 9, 10] [(36, .bool false)] (ds_ (f_ (at_skip (ds_ (sq_ (ma0 [(0, .go (owns 0 0 3)), (1, .go (owns 1 0 3))] [6] (fun _ => [(7, .int .i64 0)]) (fun _ L => (L.set 1 (bx (γ3 1) (#[.int .i64 now, .slice q999 m999 cq999, .slice (some ⟨g1599, 0, none⟩) na cq101]) 27))) (fun _ => ds_ (bk (owns 1 0 3) (.tuple #[.agg #[.int .i64 now, .slice q999 m999 cq999, .slice (some ⟨g1599, 0, none⟩) na cq101], .int .i64 0]) (mo0 4 [(7, .go (owns 3 0 3))] [6] (fun _ => [(7, .int .i64 0)]) (fun _ L => (L.set 3 (bx (γ1 3) (#[.int .i64 now, .slice q999 m999 cq999, .slice (some ⟨g1599, 0, none⟩) na cq101]) 27))) (fun _ => on_ (ds_ (rt (owns 3 0 3) (.tuple #[.agg #[.int .i64 now, .slice q999 m999 cq999, .slice (some ⟨g1599, 0, none⟩) na cq101], .int .i64 0]) ?_)))))))))))))))))))))
      exact fun w' hw => by rw [startV_put q5 q231 (of_decide_eq_true q522) ha1101]; exact ⟨_, _, _, _, _, _, _, _, rfl, hO999, (SlO.ofOwn (hOw1599.putAll (x' := x) hO101.len hp_z1101) (len_set hO101.len)), hw.below, two_tails (Hs.pick [[bx (γ141 0) (#[.int .i64 now, .slice q999 m999 cq999, .slice (some ⟨g1599, 0, none⟩) na cq101]) 27], [bx (γ3 1) (#[.int .i64 now, .slice q999 m999 cq999, .slice (some ⟨g1599, 0, none⟩) na cq101]) 27], [bx (γ3 0) (#[.int .i64 now, .slice p n cap, .slice pa na ca]) 27], [bx (γ1 3) (#[.int .i64 now, .slice q999 m999 cq999, .slice (some ⟨g1599, 0, none⟩) na cq101]) 27], [bx (γ1 2) (#[.int .i64 at_]) 2], [bx (γ1 1) (#[.int .i64 x.vcpu, .int .i64 x.port, .int .i64 x.every]) 47], [bx (γ1 0) (#[.int .i64 now, .slice p n cap, .slice pa na ca]) 27], [bx g1599 ((((cs1599).setIfInBounds (0 + (posK Alm.vcpu rs x.vcpu) * 3) (.int .i64 x.vcpu)).setIfInBounds (0 + (posK Alm.vcpu rs x.vcpu) * 3 + 1) (.int .i64 x.port)).setIfInBounds (0 + (posK Alm.vcpu rs x.vcpu) * 3 + 2) (.int .i64 x.every)) 47], Y999] [8, 7] [0, 1, 2, 3, 4, 5, 6] (by kernel_rfl) hw)⟩
end Go.Proofs.Ytdbamgbgnpadjaa

/-! Alarms: Stop, Sleep, Wake. -/
namespace Go.Proofs.Ytdbamgbgnpadjaa
open Go Go.RowKit

end Go.Proofs.Ytdbamgbgnpadjaa

/-! Alarms: time passes; plain. -/
namespace Go.Proofs.Ytdbamgbgnpadjaa
open Go Go.RowKit

section
variable {now k v at_ to nx : Int} {ts : List Tim} {rs : List Alm} {x y : Alm} {t : Tim} {j : Nat}
theorem miss_zero (h : x.every = 0) : missA x at_ to = 0 := if_pos h
theorem miss_bnd (h : almB x = true) (h1 : at_ ≤ to) : 0 ≤ missA x at_ to ∧ missA x at_ to * x.every ≤ to - at_ := by
  have ha := alm_every h
  unfold missA
  by_cases h0 : x.every = 0
  · rw [if_pos h0]; omega
  · rw [if_neg h0]
    have hp : 0 < x.every := by omega
    exact ⟨Int.ediv_nonneg (by omega) (by omega), Int.ediv_mul_le _ (by omega)⟩
theorem miss_mul (h : almB x = true) (h1 : at_ ≤ to) : 0 ≤ missA x at_ to * x.every := by
  have ha := alm_every h
  exact Int.mul_nonneg (miss_bnd h h1).1 (by omega)
theorem miss_le (h : almB x = true) (h1 : at_ ≤ to) : missA x at_ to ≤ to - at_ := by
  have ha := alm_every h
  unfold missA
  by_cases h0 : x.every = 0
  · rw [if_pos h0]; omega
  · rw [if_neg h0]; exact Int.ediv_le_self _ (by omega)
theorem miss_lt (h : almB x = true) (h0 : x.every ≠ 0) (h1 : at_ ≤ to) : to < againM x at_ to := by
  have ha := alm_every h
  unfold againM missA
  rw [if_neg h0, if_neg h0]
  have hp : 0 < x.every := by omega
  have := Int.lt_ediv_add_one_mul_self (to - at_) hp
  rw [Int.add_mul, Int.one_mul] at this
  omega
theorem miss_quo (h : almB x = true) (h0 : ¬ x.every = 0) (h1 : at_ ≤ to) (h2 : 0 ≤ at_) (h3 : to ≤ 1125899906842624) : IntKind.i64.wrap (Int.tdiv (to - at_) x.every) = missA x at_ to := by
  have e : Int.tdiv (to - at_) x.every = missA x at_ to := by unfold missA; rw [if_neg h0, Int.tdiv_eq_ediv_of_nonneg (by omega)]
  have hb := miss_bnd h h1
  have hl := miss_le h h1
  rw [e, wrap_fit (fit64 (by omega) (by omega))]
theorem next_some (h : nextA x at_ to = some nx) : x.every ≠ 0 ∧ nx = againM x at_ to ∧ nx ≤ 1125899906842624 := by
  unfold nextA at h
  split at h
  · rename_i hc; cases h; exact ⟨hc.1, rfl, hc.2⟩
  · cases h
theorem next_zero (h : x.every = 0) : nextA x at_ to = none := by simp [nextA, h]
theorem next_big (h : ¬ x.every = 0) (h2 : ¬ againM x at_ to ≤ 1125899906842624) : nextA x at_ to = none := by simp [nextA, h, h2]
theorem next_is (h : ¬ x.every = 0) (h2 : againM x at_ to ≤ 1125899906842624) : nextA x at_ to = some (againM x at_ to) := by simp [nextA, h, h2]
theorem againM_eq (h : ¬ x.every = 0) : againM x at_ to = at_ + missA x at_ to * x.every + x.every := if_neg h
theorem againM_zero (h : x.every = 0) : againM x at_ to = 0 := if_pos h
theorem next_ahead (h : almB x = true) (h1 : at_ ≤ to) (e : nextA x at_ to = some nx) : aheadP to nx := by
  obtain ⟨h0, h2, h3⟩ := next_some e
  exact ⟨by rw [h2]; exact miss_lt h h0 h1, h3⟩
theorem tm_lo {a : Int} (h0 : 0 ≤ a) (h : a < 16) : Int.tmod a 16 = a := by rw [Int.tmod_eq_emod_of_nonneg h0]; omega
theorem tm_hi {a : Int} (h0 : 16 ≤ a) (h : a < 32) : Int.tmod a 16 = a - 16 := by rw [Int.tmod_eq_emod_of_nonneg (by omega)]; omega
theorem mem_tput (hr : Ris Tim.id ts) : t ∈ tput ts k at_ ↔ t = ⟨k, at_⟩ ∨ (t ∈ ts ∧ t.id ≠ k) := by
  unfold tput
  cases e : getK Tim.id ts k with
  | some y => exact mem_putK hr (z := ⟨k, at_⟩) e
  | none =>
    rw [mem_insK]
    constructor
    · rintro (h | h)
      · exact .inl h
      · exact .inr ⟨h, getK_none.1 e t h⟩
    · rintro (h | h)
      · exact .inl h
      · exact .inr h.1
theorem ris_tput (hr : Ris Tim.id ts) : Ris Tim.id (tput ts k at_) := by
  unfold tput
  cases e : getK Tim.id ts k with
  | some y => exact ris_putK hr (z := ⟨k, at_⟩) e
  | none => exact ris_insK hr (z := ⟨k, at_⟩) e
theorem wheel_tput (g : wheelB now ts = true) (h0 : 0 ≤ k) (h1 : k < 32) (ha : aheadP now at_) : wheelB now (tput ts k at_) = true := by
  have hg := wheel_iff.1 g
  obtain ⟨ha1, ha2⟩ := ha
  refine wheel_iff.2 ⟨hg.n0, hg.n1, ris_tput hg.rs, fun t ht => ?_⟩
  rcases (mem_tput hg.rs).1 ht with e | ⟨h, _⟩
  · subst e; exact ⟨h0, h1, ha1, ha2⟩
  · exact hg.tm t h
theorem mem_rdrop : x ∈ rdrop rs v ↔ x ∈ rs ∧ x.vcpu ≠ v := by unfold rdrop; rw [List.mem_filter]; simp [isV]
theorem ris_rdrop (h : Ris Alm.vcpu rs) : Ris Alm.vcpu (rdrop rs v) := h.filter _
theorem get_rdrop (h : Ris Alm.vcpu rs) (hne : k ≠ v) : getK Alm.vcpu (rdrop rs v) k = getK Alm.vcpu rs k := by
  cases e : getK Alm.vcpu rs k with
  | none => exact getK_none.2 fun x hx => getK_none.1 e x (mem_rdrop.1 hx).1
  | some x => have := (getK_iff h).1 e; exact (getK_iff (ris_rdrop h)).2 ⟨mem_rdrop.2 ⟨this.1, by rw [this.2]; exact hne⟩, this.2⟩
/-- The state of the rings' loop, j timers on. -/
def rgS (to : Int) (ts : List Tim) (rs : List Alm) (j : Nat) : R3 := ((sortT (duL ts to)).take j).foldl (ringS to) (leL ts to, rs, [])
theorem rg_zero : rgS to ts rs 0 = (leL ts to, rs, []) := rfl
theorem rg_on (hx : (sortT (duL ts to))[j]? = some t) : rgS to ts rs (j + 1) = ringS to (rgS to ts rs j) t := by unfold rgS; rw [List.take_add_one, hx]; simp
theorem rg_end (h : (sortT (duL ts to)).length ≤ j) : rgS to ts rs j = ringsV to ts rs := by unfold rgS ringsV; rw [List.take_of_length_le h]
structure RInv (to : Int) (ts : List Tim) (rs : List Alm) (j : Nat) : Prop where
  wh : wheelB to (rgS to ts rs j).1 = true
  rr : Ris Alm.vcpu (rgS to ts rs j).2.1
  al : ∀ x ∈ (rgS to ts rs j).2.1, almB x = true
  pn : ∀ t ∈ (sortT (duL ts to)).drop j, t.id < 16 → ∃ x, getK Alm.vcpu (rgS to ts rs j).2.1 (t.id + 1) = some x
  ol : (rgS to ts rs j).2.2.length ≤ j
theorem perm_sort (l : List Tim) : (sortT l).Perm l := List.mergeSort_perm ..
theorem mem_sortT {l : List Tim} : t ∈ sortT l ↔ t ∈ l := (perm_sort l).mem_iff
theorem fired_ids (hg : GoodW now ts) : (sortT (duL ts to)).Pairwise fun a b => a.id ≠ b.id := by
  have h1 : (duL ts to).Pairwise fun a b => a.id ≠ b.id := by
    rw [duL_filter]; exact (hg.rs.filter _).imp fun h => by omega
  exact (perm_sort _).symm.pairwise h1 (fun h => h.symm)
theorem fired_tm (hg : GoodW now ts) (h : t ∈ sortT (duL ts to)) : 0 ≤ t.id ∧ t.id < 32 ∧ now < t.due ∧ t.due ≤ to ∧ t ∈ ts := by
  have := mem_duL.1 (mem_sortT.1 h)
  have h2 := hg.tm t this.1
  exact ⟨h2.1, h2.2.1, h2.2.2.1, this.2, this.1⟩
theorem rinv_zero (g : GoodA now ts rs) (h1 : now ≤ to) (h2 : to ≤ 1125899906842624) : RInv to ts rs 0 := by
  have hg := g.gw
  refine ⟨?_, g.rr, g.al, fun t ht hi => ?_, Nat.le_refl _⟩
  · have h0 := hg.n0
    refine wheel_iff.2 ⟨by omega, h2, ?_, fun t ht => ?_⟩
    · rw [rg_zero, leL_filter]; exact hg.rs.filter _
    · have := mem_leL.1 ht; have h3 := hg.tm t this.1; exact ⟨h3.1, h3.2.1, this.2, h3.2.2.2⟩
  · rw [List.drop_zero] at ht
    have hf := fired_tm hg ht
    have := g.lk (t.id + 1) (by omega) (by omega)
    rw [show t.id + 1 - 1 = t.id by omega, (getK_iff hg.rs).2 ⟨hf.2.2.2.2, rfl⟩] at this
    exact Option.isSome_iff_exists.1 this.symm
theorem ring_hi (h : ¬ t.id < 16) (s : R3) : ringS to s t = (s.1, s.2.1, s.2.2 ++ [⟨t.id - 16 + 1, 0, t.due, 0⟩]) := if_neg h
theorem ring_go {s : R3} (h : t.id < 16) (hx : getK Alm.vcpu s.2.1 (t.id + 1) = some x) (hn : nextA x t.due to = some nx) : ringS to s t = (tput s.1 t.id nx, s.2.1, s.2.2 ++ [⟨t.id + 1, x.port, t.due, missA x t.due to⟩]) := by simp only [ringS, if_pos h, hx, hn]
theorem ring_end {s : R3} (h : t.id < 16) (hx : getK Alm.vcpu s.2.1 (t.id + 1) = some x) (hn : nextA x t.due to = none) : ringS to s t = (s.1, rdrop s.2.1 (t.id + 1), s.2.2 ++ [⟨t.id + 1, x.port, t.due, missA x t.due to⟩]) := by simp only [ringS, if_pos h, hx, hn]
theorem drop_mem {α : Type} {l : List α} {a : α} (h : a ∈ l.drop (j + 1)) : a ∈ l.drop j := by
  rw [show j + 1 = j + 1 from rfl, ← List.drop_drop (i := 1) (j := j)] at h
  exact List.mem_of_mem_drop h
theorem pair_at {α : Type} {R : α → α → Prop} {l : List α} {a b : α} (hp : l.Pairwise R) (hx : l[j]? = some a) (hb : b ∈ l.drop (j + 1)) : R a b := by
  obtain ⟨hl, e⟩ := List.getElem?_eq_some_iff.1 hx
  have h2 : (l.drop j).Pairwise R := hp.drop
  rw [List.drop_eq_getElem_cons hl, List.pairwise_cons] at h2
  rw [← e]
  exact h2.1 b hb
theorem rinv_on (g : GoodA now ts rs) (h : RInv to ts rs j) (hx : (sortT (duL ts to))[j]? = some t) : RInv to ts rs (j + 1) := by
  have hg := g.gw
  have hf := fired_tm hg (List.mem_of_getElem? hx)
  have hd := fun {b} (hb : b ∈ (sortT (duL ts to)).drop (j + 1)) => pair_at (fired_ids hg (to := to)) hx hb
  have hol := h.ol
  by_cases hi : t.id < 16
  · have hm : t ∈ (sortT (duL ts to)).drop j := by
      obtain ⟨hl, e⟩ := List.getElem?_eq_some_iff.1 hx
      rw [List.drop_eq_getElem_cons hl, e]; exact List.mem_cons_self
    obtain ⟨x, hxx⟩ := h.pn t hm hi
    have hxm := getK_mem hxx
    cases hn : nextA x t.due to with
    | some nx =>
      have e := ring_go hi hxx hn
      refine ⟨?_, ?_, ?_, ?_, ?_⟩ <;> rw [rg_on hx, e]
      · exact wheel_tput h.wh (by omega) (by omega) (next_ahead (h.al x hxm.1) (by omega) hn)
      · exact h.rr
      · exact h.al
      · exact fun b hb hi => h.pn b (drop_mem hb) hi
      · simp only [List.length_append, List.length_cons, List.length_nil]; omega
    | none =>
      have e := ring_end hi hxx hn
      refine ⟨?_, ?_, ?_, ?_, ?_⟩ <;> rw [rg_on hx, e]
      · exact h.wh
      · exact ris_rdrop h.rr
      · exact fun y hy => h.al y (mem_rdrop.1 hy).1
      · intro b hb hi2
        have hne := hd hb
        obtain ⟨y, hy⟩ := h.pn b (drop_mem hb) hi2
        exact ⟨y, by rw [get_rdrop h.rr (by omega)]; exact hy⟩
      · simp only [List.length_append, List.length_cons, List.length_nil]; omega
  · have e := ring_hi (to := to) hi (rgS to ts rs j)
    refine ⟨?_, ?_, ?_, ?_, ?_⟩ <;> rw [rg_on hx, e]
    · exact h.wh
    · exact h.rr
    · exact h.al
    · exact fun b hb hi => h.pn b (drop_mem hb) hi
    · simp only [List.length_append, List.length_cons, List.length_nil]; omega
def rgT (to : Int) (ts : List Tim) (rs : List Alm) (j : Nat) : List Tim := (rgS to ts rs j).1
def rgR (to : Int) (ts : List Tim) (rs : List Alm) (j : Nat) : List Alm := (rgS to ts rs j).2.1
def rgO (to : Int) (ts : List Tim) (rs : List Alm) (j : Nat) : List Rng := (rgS to ts rs j).2.2
theorem rgT_of {a : List Tim} {b : List Alm} {c : List Rng} (h : rgS to ts rs j = (a, b, c)) : rgT to ts rs j = a := by rw [rgT, h]
theorem rgR_of {a : List Tim} {b : List Alm} {c : List Rng} (h : rgS to ts rs j = (a, b, c)) : rgR to ts rs j = b := by rw [rgR, h]
theorem rgO_of {a : List Tim} {b : List Alm} {c : List Rng} (h : rgS to ts rs j = (a, b, c)) : rgO to ts rs j = c := by rw [rgO, h]
theorem RInv.wh' (h : RInv to ts rs j) : wheelB to (rgT to ts rs j) = true := h.wh
theorem RInv.rr' (h : RInv to ts rs j) : Ris Alm.vcpu (rgR to ts rs j) := h.rr
theorem RInv.al' (h : RInv to ts rs j) : ∀ x ∈ rgR to ts rs j, almB x = true := h.al
theorem RInv.pn' (h : RInv to ts rs j) : ∀ t ∈ (sortT (duL ts to)).drop j, t.id < 16 → ∃ x, getK Alm.vcpu (rgR to ts rs j) (t.id + 1) = some x := h.pn
theorem rg_go (hx : (sortT (duL ts to))[j]? = some t) (h : t.id < 16) (hz : getK Alm.vcpu (rgR to ts rs j) (t.id + 1) = some x) (hn : nextA x t.due to = some nx) : rgS to ts rs (j + 1) = (tput (rgT to ts rs j) t.id nx, rgR to ts rs j, rgO to ts rs j ++ [⟨t.id + 1, x.port, t.due, missA x t.due to⟩]) := by rw [rg_on hx, ring_go h hz hn]; rfl
theorem rg_no (hx : (sortT (duL ts to))[j]? = some t) (h : t.id < 16) (hz : getK Alm.vcpu (rgR to ts rs j) (t.id + 1) = some x) (hn : nextA x t.due to = none) : rgS to ts rs (j + 1) = (rgT to ts rs j, rdrop (rgR to ts rs j) x.vcpu, rgO to ts rs j ++ [⟨t.id + 1, x.port, t.due, missA x t.due to⟩]) := by rw [rg_on hx, ring_end h hz hn, (getK_mem hz).2]; rfl
theorem rg_hi (hx : (sortT (duL ts to))[j]? = some t) (h : ¬ t.id < 16) : rgS to ts rs (j + 1) = (rgT to ts rs j, rgR to ts rs j, rgO to ts rs j ++ [⟨t.id - 16 + 1, 0, t.due, 0⟩]) := by rw [rg_on hx, ring_hi h]; rfl
theorem mem_at {α : Type} {l : List α} {a : α} (hx : l[j]? = some a) : a ∈ l.drop j := by
  obtain ⟨hl, e⟩ := List.getElem?_eq_some_iff.1 hx
  rw [List.drop_eq_getElem_cons hl, e]; exact List.mem_cons_self
theorem passW_y (g : wheelB now ts = true) (h : now ≤ to ∧ to ≤ 1125899906842624) : passW now ts to = (to, leL ts to, 0) := passW_ok (passE_ok g (by omega))
theorem passD_y (g : wheelB now ts = true) (h : now ≤ to ∧ to ≤ 1125899906842624) : passD now ts to = sortT (duL ts to) := passD_ok (passE_ok g (by omega))
theorem passW_n (g : wheelB now ts = true) (h : ¬ (now ≤ to ∧ to ≤ 1125899906842624)) : passW now ts to = (0, [], 2) := by
  have e : passE now ts to = 2 := passE_arg g (by omega)
  rw [passW_no (by rw [e]; decide), e]
theorem passD_n (g : wheelB now ts = true) (h : ¬ (now ≤ to ∧ to ≤ 1125899906842624)) : passD now ts to = [] := passD_no (by rw [passE_arg g (by omega)]; decide)
theorem fired_len (hg : GoodW now ts) : (sortT (duL ts to)).length ≤ 32 := by
  have h1 := (perm_sort (duL ts to)).length_eq
  have h2 := duL_len (ts := ts) (to := to)
  have := hg.len
  omega
theorem passA_bad (g : alB now ts rs = false) : passA now ts rs to = (0, [], [], 280) := by simp [passA, g]
theorem passR_bad (g : alB now ts rs = false) : passR now ts rs to = [] := by simp [passR, g]
theorem passA_arg (g : alB now ts rs = true) (h : ¬ (now ≤ to ∧ to ≤ 1125899906842624)) : passA now ts rs to = (0, [], [], 2) := by simp only [passA, g, if_true, if_neg h]
theorem passR_arg (h : ¬ (now ≤ to ∧ to ≤ 1125899906842624)) : passR now ts rs to = [] := by simp only [passR]; rw [if_neg fun e => h e.2]
theorem passA_ok (g : alB now ts rs = true) (h : now ≤ to ∧ to ≤ 1125899906842624) : passA now ts rs to = (to, (ringsV to ts rs).1, (ringsV to ts rs).2.1, 0) := by simp only [passA, g, if_true, if_pos h]
theorem passR_ok (g : alB now ts rs = true) (h : now ≤ to ∧ to ≤ 1125899906842624) : passR now ts rs to = (ringsV to ts rs).2.2 := by simp only [passR]; rw [if_pos ⟨g, h⟩]
end
end Go.Proofs.Ytdbamgbgnpadjaa

/-! The walker: an operation whose answer is told (a shift); a range over a function whose body may return; a function that holds one. -/
namespace Go.Proofs.Ytdbamgbgnpadjaa
open Go Go.RowKit

section
variable {E : Env} {k : List Fr} {l : Sl} {L : List Ob} {all os : List Oper} {o : Oper} {i : Nat}
/-- An operation whose answer is told. -/
theorem ops_opv (v : Value) (hw : wantL all l o = some true) (hd : okD E.n o.dst = true) (hk : knownO l o = true) (h : ∀ w, (execOp (look l) o).run E.P w = .ok (.value v) w) (hn : Ops E k all os (i + 1) (putL o.dst v l) L) : Ops E k all (o :: os) i l L := by
  refine ⟨fun a w ha hs => ?_⟩
  have hg := wantL_spec ha hw
  refine wpListIn_step fun K hK => ?_
  rw [if_pos hg]
  refine ⟨fun _ _ => trivial, ?_⟩
  have hdf : ∀ c, o.op ≠ .defer c := fun c e => by simp [knownO, e] at hk
  rw [Oper.semAt_eq _ _ _ hdf, look_exec ha hk, h]
  exact hK _ _ (hn.out _ _ (ha.put hd v) hs)
end
end Go.Proofs.Ytdbamgbgnpadjaa

/-! A division whose divisor is not known. -/
namespace Go.Proofs.Ytdbamgbgnpadjaa
open Go Go.RowKit

theorem run_quo {P : Program} {ρ : Operand → Value} {T U : TypeId} {x y : Operand} {kd : IntKind} {a b : Int} (v : Int) {o : Oper} (ho : o.op = .binOp .quo T x y U) (hx : ρ x = .int kd a) (hy : ρ y = .int kd b) (h0 : ¬ b = 0) (hv : kd.wrap (a.tdiv b) = v) (w : World) :
    (execOp ρ o).run P w = .ok (.value (.int kd v)) w := by
  have g : (eqGuard .quo T x y (.int kd a) (.int kd b)) = (pure () : Sem Unit) := by unfold eqGuard; simp
  unfold execOp
  simp only [ho, hx, hy, g]
  subst hv
  simp [binOp, Op.intDiv, h0]
end Go.Proofs.Ytdbamgbgnpadjaa

/-! Alarms: how often one was missed. -/
namespace Go.Proofs.Ytdbamgbgnpadjaa
open Go Go.RowKit

set_option maxRecDepth 100000 in
theorem again_t (x : Alm) (at_ to : Int) (w : World)
 (ha : almB x = true) (h0 : 0 ≤ at_) (h1 : at_ ≤ to) (h2 : to ≤ 1125899906842624)
 : Calls Try.prog 65 #[.agg #[.int .i64 x.vcpu, .int .i64 x.port, .int .i64 x.every], .int .i64 at_, .int .i64 to] w fun e w' => e = .returned (.tuple #[.int .i64 (missA x at_ to), .int .i64 (againM x at_ to), .bool (nextA x at_ to).isSome]) ∧ Below w.heap.size w w' := by
 refine enter (Hs.start w) Try.func65 rfl Try.ntmps65 rfl (sq_ (ma0 [] [1, 2] (fun γ1 => [(3, .pointer (some ⟨γ1 0, 0, none⟩))]) (fun γ1 L => bx (γ1 0) (#[.int .i64 x.vcpu, .int .i64 x.port, .int .i64 x.every]) 47 :: L) (fun γ1 => ds_ (sq_ (sq_ ?_)))))
 by_cases q3 : (x.every : Int) = (0 : Int)
 ·
  refine qa [(1, .go (owns 0 2 1)), (2, .yes)] [1, 2, 3] [(11, .bool true)] ([(x.every : Int) = (0 : Int)]) (al1 q3) (ds_ (t_ (sq_ (qa0 [] [] [(6, .int .i64 0), (7, .int .i64 0), (8, .bool false)] (ds_ (rt ([]) (.tuple #[.int .i64 0, .int .i64 0, .bool false]) ?_))))))
  exact fun w' hw => ⟨by rw [miss_zero q3, againM_zero q3, next_zero q3]; rfl, hw.below⟩
 ·
  refine qa [(1, .go (owns 0 2 1)), (2, .no)] [1, 2, 3] [(11, .bool false)] ([¬ ((x.every : Int) = (0 : Int))]) (al1 q3) (ds_ (f_ (at_skip (ds_ (sq_ (ao_ (qo 5 [(2, .fit), (4, .go (owns 0 2 1))] [1, 3] [(14, .int .i64 (to - at_)), (16, .int .i64 x.every)] ([Fit .i64 (to - at_)]) (al1 (fit64 (by omega) (by omega))) ?_)))))))
  have hms := miss_bnd ha h1
  have hml := miss_le ha h1
  have hmm := miss_mul ha h1
  have hae := alm_every ha
  refine ops_opv (.int .i64 (missA x at_ to)) (by kernel_rfl) (by kernel_rfl) (by kernel_rfl) (fun w => run_quo (kd := .i64) (a := to - at_) (b := x.every) (missA x at_ to) rfl (by kernel_rfl) (by kernel_rfl) q3 (miss_quo ha q3 h1 h0 h2) w) (qo0 1 [] [1, 3] [(6, .int .i64 (missA x at_ to))] (on_ (ds_ (sq_ (qa [(3, .go (owns 0 2 1)), (4, .fit), (5, .fit)] [3, 6] [(7, .int .i64 (at_ + ((missA x at_ to) * x.every)))] ([Fit .i64 ((missA x at_ to) * x.every)] ++ ([Fit .i64 (at_ + ((missA x at_ to) * x.every))])) (alA (al1 (fit64 (by omega) (by omega))) (al1 (fit64 (by omega) (by omega)))) (ds_ (sq_ ?_)))))))
  by_cases q11 : (1125899906842624 - (at_ + ((missA x at_ to) * x.every)) : Int) ≥ (x.every : Int)
  ·
   refine cq [(3, .go (owns 0 2 1)), (4, .fit), (6, .fit), (8, .go (owns 0 2 1)), (9, .yes)] [] [(6, .int .i64 (missA x at_ to)), (7, .int .i64 ((at_ + ((missA x at_ to) * x.every)) + x.every)), (8, .bool true)] ([Fit .i64 ((at_ + ((missA x at_ to) * x.every)) + x.every)] ++ ([Fit .i64 (1125899906842624 - (at_ + ((missA x at_ to) * x.every)))] ++ ([(1125899906842624 - (at_ + ((missA x at_ to) * x.every)) : Int) ≥ (x.every : Int)]))) rfl (by kernel_rfl) (by kernel_rfl) (by kernel_rfl) (alA (al1 (fit64 (by omega) (by omega))) (alA (al1 (fit64 (by omega) (by omega))) (al1 q11))) (ds_ (rt ([]) (.tuple #[.int .i64 (missA x at_ to), .int .i64 ((at_ + ((missA x at_ to) * x.every)) + x.every), .bool true]) ?_))
   exact fun w' hw => ⟨by rw [next_is q3 (by rw [againM_eq q3]; omega), againM_eq q3]; rfl, hw.below⟩
  ·
   refine cq [(3, .go (owns 0 2 1)), (4, .fit), (6, .fit), (8, .go (owns 0 2 1)), (9, .no)] [] [(6, .int .i64 (missA x at_ to)), (7, .int .i64 ((at_ + ((missA x at_ to) * x.every)) + x.every)), (8, .bool false)] ([Fit .i64 ((at_ + ((missA x at_ to) * x.every)) + x.every)] ++ ([Fit .i64 (1125899906842624 - (at_ + ((missA x at_ to) * x.every)))] ++ ([¬ ((1125899906842624 - (at_ + ((missA x at_ to) * x.every)) : Int) ≥ (x.every : Int))]))) rfl (by kernel_rfl) (by kernel_rfl) (by kernel_rfl) (alA (al1 (fit64 (by omega) (by omega))) (alA (al1 (fit64 (by omega) (by omega))) (al1 q11))) (ds_ (rt ([]) (.tuple #[.int .i64 (missA x at_ to), .int .i64 ((at_ + ((missA x at_ to) * x.every)) + x.every), .bool false]) ?_))
   exact fun w' hw => ⟨by rw [next_big q3 (by rw [againM_eq q3]; omega), againM_eq q3]; rfl, hw.below⟩
end Go.Proofs.Ytdbamgbgnpadjaa

/-! Timers: time passes. -/
namespace Go.Proofs.Ytdbamgbgnpadjaa
open Go Go.RowKit

set_option maxRecDepth 100000 in
theorem sorted_t (w0 : World) (X Y : List Ob) (p : Option Addr) (n cap : Nat) (l : List Tim) (w : World)
 (hH : Hs w0 (Y ++ X) w) (hO : SlO 88 Y p n cap l) (hb : n ≤ 1000)
 : Calls Try.prog 63 #[.slice p n cap] w fun e w' => ∃ Y', e = .returned (.slice p n cap) ∧ SlO 88 Y' p n cap (sortT l) ∧ Hs w0 (Y' ++ X) w' := by
 rw [show Y ++ X = Y ++ (X ++ []) from by rw [List.append_nil]] at hH
 refine enter hH Try.func63 rfl Try.ntmps63 rfl (sq_ (qa0 [] [0] [] (ds_ (sq_ (ao_ (qo0 1 [] [0] [(3, .slice p n cap)] (cP (fun v L' => ∃ Y_, v = .tuple #[] ∧ L' = Y_ ++ (X ++ []) ∧ SlO 88 Y_ p n cap (sortT l)) Try.call78 (fun w hw => (sortFunc_t hw hO (by omega)).mono fun e w' ⟨he, Y_, hO, hY⟩ => ⟨_, _, he, ⟨Y_, rfl, rfl, hO⟩, hY⟩) ?_)))))))
 rintro v3 L3 ⟨Y3, rfl, rfl, hO3⟩
 refine on_ (ds_ (sq_ (qa0 [] [] [(2, .slice p n cap)] (ds_ (rt ([]) (.slice p n cap) ?_)))))
 exact fun w' hw => ⟨_, rfl, hO3, by simpa using hw⟩

set_option maxRecDepth 100000 in
theorem pass_t (now : Int) (p : Option Addr) (n cap : Nat) (ts : List Tim) (to : Int) (w : World)
 (hts : Sv w p ts) (hn : n = ts.length) (hb : n ≤ 1000)
 : Calls Try.prog 34 #[.agg #[.int .i64 now, .slice p n cap], .int .i64 to] w fun e w' => ∃ q m capq Y q2 m2 capq2 X, e = .returned (.tuple #[.agg #[.int .i64 (passW now ts to).1, .slice q m capq], .slice q2 m2 capq2, .int .i64 (passW now ts to).2.2]) ∧ SlO 88 Y q m capq (passW now ts to).2.1 ∧ SlO 88 X q2 m2 capq2 (passD now ts to) ∧ Below w.heap.size w w' ∧ Hs w (Y ++ X) w' := by
 refine enter (Hs.start w) Try.func34 rfl Try.ntmps34 rfl (sq_ (ma0 [] [1] (fun γ1 => [(2, .pointer (some ⟨γ1 0, 0, none⟩)), (4, .pointer (some ⟨γ1 1, 0, none⟩))]) (fun γ1 L => bx (γ1 1) (#[.int .i64 0, .slice none 0 0]) 24 :: bx (γ1 0) (#[.int .i64 now, .slice p n cap]) 24 :: L) (fun γ1 => ds_ (sq_ (sq_ (ao_ (qo0 2 [(0, .go (owns 1 0 2))] [1, 2, 4] [(12, .agg #[.int .i64 now, .slice p n cap]), (13, .int .i64 to)] (cD (.int .i64 (passE now ts to)) Try.call62 (fun w hw => passes_t now p n cap ts to w (hts.kept hw.below) hn (by omega)) (qo0 1 [] [1, 2, 4] [(7, .int .i64 (passE now ts to))] (on_ (ds_ (sq_ ?_))))))))))))
 by_cases q5 : (passE now ts to : Int) ≠ (0 : Int)
 ·
  refine qa [(1, .yes)] [1, 2, 4, 7] [(16, .bool true)] ([(passE now ts to : Int) ≠ (0 : Int)]) (al1 q5) (ds_ (t_ (sq_ (qa0 [(2, .go (owns 0 0 2))] [4] [(5, .slice none 0 0), (6, .int .i64 (passE now ts to))] (ds_ (rt (owns 0 0 2) (.tuple #[.agg #[.int .i64 0, .slice none 0 0], .slice none 0 0, .int .i64 (passE now ts to)]) ?_))))))
  exact fun w' hw => by rw [passW_no q5, passD_no q5]; exact ⟨none, 0, 0, [], none, 0, 0, [], rfl, SlO.nil, SlO.nil, hw.below, hw.sub (List.nil_sublist _)⟩
 ·
  refine qa [(1, .no)] [1, 2, 4, 7] [(16, .bool false)] ([¬ ((passE now ts to : Int) ≠ (0 : Int))]) (al1 q5) (ds_ (f_ (at_skip (ds_ (sq_ (qa0 [] [1, 2, 4] [(8, .slice none 0 0), (9, .slice none 0 0)] (ds_ (sq_ (sq_ (qa0 [(1, .go (owns 1 1 1))] [1, 4, 8, 9] [(20, .slice p n cap), (21, .int .i64 ((n : Nat))), (22, .int .i64 0)] (ds_ (at_block (at_loop (α := Nat × List Ob × Option Addr × Nat × Nat × List Ob × Option Addr × Nat × Nat) [1, 4, 8, 9, 20, 21, 22] (fun ⟨j, Yo, po, nu, co, Yd, pd, nd, cd⟩ => [(1, .int .i64 to), (4, .pointer (some ⟨γ1 1, 0, none⟩)), (8, .slice po nu co), (9, .slice pd nd cd), (20, .slice p n cap), (21, .int .i64 ((n : Nat))), (22, .int .i64 ((j : Nat)))]) (fun ⟨j, Yo, po, nu, co, Yd, pd, nd, cd⟩ => bx (γ1 1) (#[.int .i64 0, .slice none 0 0]) 24 :: bx (γ1 0) (#[.int .i64 now, .slice p n cap]) 24 :: (Yo ++ (Yd ++ []))) (fun ⟨j, Yo, po, nu, co, Yd, pd, nd, cd⟩ => j ≤ n ∧ nu ≤ j ∧ nd ≤ j ∧ SlO 88 Yo po nu co ((ts.take j).flatMap (leF to)) ∧ SlO 88 Yd pd nd cd ((ts.take j).flatMap (duF to))) (fun ⟨j, Yo, po, nu, co, Yd, pd, nd, cd⟩ => n - j) (0, [], none, 0, 0, [], none, 0, 0) (by kernel_rfl) rfl ⟨Nat.zero_le _, Nat.le_refl _, Nat.le_refl _, by rw [List.take_zero]; exact SlO.nil, by rw [List.take_zero]; exact SlO.nil⟩ ?_)))))))))))))
  rintro ⟨j, Yo, po, nu, co, Yd, pd, nd, cd⟩
  rintro ⟨hj, hnu, hnd, hO, hP⟩
  refine sq_ ?_
  by_cases q12 : ((j : Nat) : Int) < ((n : Nat) : Int)
  ·
   refine qa [(0, .yes)] [1, 4, 8, 9, 20, 21, 22] [(23, .bool true)] ([((j : Nat) : Int) < ((n : Nat) : Int)]) (al1 q12) (ds_ (sq_ (t_ (at_skip (ds_ (sq_ (at_block (sq_ ?_))))))))
   obtain ⟨b15, o15, rfl⟩ := hts.pos (i := j) (by omega)
   obtain ⟨x17, hx17⟩ := get_some (l := ts) (m := j) (by omega)
   refine ma [(0, .at b15 o15 j), (1, .go (outs b15 (o15 + j * 2) [.int .i64 x17.id, .int .i64 x17.due])), (3, .go (owns 0 0 2))] [1, 4, 8, 9, 20, 21, 22] (fun γ18 => [(11, .pointer (some ⟨γ18 0, 0, none⟩))]) (fun γ18 L => bx (γ18 0) (#[.int .i64 x17.id, .int .i64 x17.due]) 88 :: L) (fun γ18 => [(some ⟨b15, o15, none⟩ : Option Addr) = some ⟨b15, o15, none⟩, ((j : Nat)) = ((j : Nat) : Int), j < n] ++ (cellsP w b15 (o15 + j * 2) [.int .i64 x17.id, .int .i64 x17.due])) (fun γ18 => (alA (al2 rfl (al2 rfl (al1 (by omega)))) (rd_pre (hts.get hx17) _ rfl))) (fun γ18 => ds_ (sq_ ?_))
   by_cases q20 : (x17.due : Int) ≤ (to : Int)
   ·
    refine qa [(1, .go (owns 0 1 1)), (3, .yes)] [1, 4, 8, 9, 11, 20, 21, 22] [(29, .bool true)] ([(x17.due : Int) ≤ (to : Int)]) (al1 q20) (ds_ (t_ (ao_ (mo0 3 [(1, .go (owns 0 0 2))] [1, 4, 8, 20, 21, 22] (fun γ22 => [(30, .slice pd nd cd), (32, .slice (some ⟨γ22 0, 0, none⟩) 1 1)]) (fun γ22 L => bx (γ22 0) (#[.int .i64 x17.id, .int .i64 x17.due]) 88 :: L) (fun γ22 => Ops.pick [[bx (γ22 0) (#[.int .i64 x17.id, .int .i64 x17.due]) 88], [bx (γ18 0) (#[.int .i64 x17.id, .int .i64 x17.due]) 88], [bx (γ1 1) (#[.int .i64 0, .slice none 0 0]) 24], [bx (γ1 0) (#[.int .i64 now, .slice (some ⟨b15, o15, none⟩) n cap]) 24], Yo, Yd] [0, 1, 2, 3, 5, 4] [] (bx (γ22 0) (#[.int .i64 x17.id, .int .i64 x17.due]) 88 :: bx (γ18 0) (#[.int .i64 x17.id, .int .i64 x17.due]) 88 :: bx (γ1 1) (#[.int .i64 0, .slice none 0 0]) 24 :: bx (γ1 0) (#[.int .i64 now, .slice (some ⟨b15, o15, none⟩) n cap]) 24 :: (Yd ++ (Yo ++ []))) (by kernel_rfl) rfl rfl (ops_append (α := Tim) [bx (γ22 0) (#[.int .i64 x17.id, .int .i64 x17.due]) 88, bx (γ18 0) (#[.int .i64 x17.id, .int .i64 x17.due]) 88, bx (γ1 1) (#[.int .i64 0, .slice none 0 0]) 24, bx (γ1 0) (#[.int .i64 now, .slice (some ⟨b15, o15, none⟩) n cap]) 24] Yd ((Yo ++ [])) (.refl _) rfl (by kernel_rfl) (by kernel_rfl) (p := pd) (n := nd) (cap := cd) (m := 1) (yv := .slice (some ⟨γ22 0, 0, none⟩) 1 1) (by kernel_rfl) (by kernel_rfl) (T := 88) (by_ := 16) (by kernel_rfl) (((ts.take j).flatMap (duF to))) ([⟨x17.id, x17.due⟩]) hP (fun w hw => src_svn Try.underlying22 (sv_row (hw.row 0 rfl) (by rfl)) (by rfl)) (by rfl) (by have hmx : maxLen = 9223372036854775807 := rfl; omega) (by have hmx : maxLen = 9223372036854775807 := rfl; omega) (fun Y23 p23 cap23 hO23 => qo0 1 [] [1, 4, 8, 20, 21, 22] [(9, .slice p23 (nd + 1) cap23)] (on_ (done_block (ds_ (qa [(0, .fit)] [1, 4, 8, 9, 20, 21] [(22, .int .i64 ((j + 1 : Nat)))] ([Fit .i64 ((j + 1 : Nat))]) (al1 (fit64 (by omega) (by omega))) (Done.pick [[bx (γ22 0) (#[.int .i64 x17.id, .int .i64 x17.due]) 88], [bx (γ18 0) (#[.int .i64 x17.id, .int .i64 x17.due]) 88], [bx (γ1 1) (#[.int .i64 0, .slice none 0 0]) 24], [bx (γ1 0) (#[.int .i64 now, .slice (some ⟨b15, o15, none⟩) n cap]) 24], Y23, Yo] [2, 3, 5, 4] [0, 1] (bx (γ1 1) (#[.int .i64 0, .slice none 0 0]) 24 :: bx (γ1 0) (#[.int .i64 now, .slice (some ⟨b15, o15, none⟩) n cap]) 24 :: (Yo ++ (Y23 ++ []))) (by kernel_rfl) rfl rfl ?_))))))))))))
    exact dr [1, 4, 8, 9, 20, 21, 22] (j + 1, Yo, po, nu, co, Y23, p23, (nd + 1), cap23) ⟨by omega, by omega, by omega, by rw [gath_onT hx17 (leF_no (by omega)), List.append_nil]; exact hO, by rw [gath_onT hx17 (duF_no (by omega))]; exact hO23⟩
   ·
    refine qa [(1, .go (owns 0 1 1)), (3, .no)] [1, 4, 8, 9, 11, 20, 21, 22] [(29, .bool false)] ([¬ ((x17.due : Int) ≤ (to : Int))]) (al1 q20) (ds_ (f_ (ao_ (mo0 3 [(1, .go (owns 0 0 2))] [1, 4, 9, 20, 21, 22] (fun γ27 => [(34, .slice po nu co), (36, .slice (some ⟨γ27 0, 0, none⟩) 1 1)]) (fun γ27 L => bx (γ27 0) (#[.int .i64 x17.id, .int .i64 x17.due]) 88 :: L) (fun γ27 => ops_append (α := Tim) [bx (γ27 0) (#[.int .i64 x17.id, .int .i64 x17.due]) 88, bx (γ18 0) (#[.int .i64 x17.id, .int .i64 x17.due]) 88, bx (γ1 1) (#[.int .i64 0, .slice none 0 0]) 24, bx (γ1 0) (#[.int .i64 now, .slice (some ⟨b15, o15, none⟩) n cap]) 24] Yo ((Yd ++ [])) (.refl _) rfl (by kernel_rfl) (by kernel_rfl) (p := po) (n := nu) (cap := co) (m := 1) (yv := .slice (some ⟨γ27 0, 0, none⟩) 1 1) (by kernel_rfl) (by kernel_rfl) (T := 88) (by_ := 16) (by kernel_rfl) (((ts.take j).flatMap (leF to))) ([⟨x17.id, x17.due⟩]) hO (fun w hw => src_svn Try.underlying22 (sv_row (hw.row 0 rfl) (by rfl)) (by rfl)) (by rfl) (by have hmx : maxLen = 9223372036854775807 := rfl; omega) (by have hmx : maxLen = 9223372036854775807 := rfl; omega) (fun Y28 p28 cap28 hO28 => qo0 1 [] [1, 4, 9, 20, 21, 22] [(8, .slice p28 (nu + 1) cap28)] (on_ (done_block (ds_ (qa [(0, .fit)] [1, 4, 8, 9, 20, 21] [(22, .int .i64 ((j + 1 : Nat)))] ([Fit .i64 ((j + 1 : Nat))]) (al1 (fit64 (by omega) (by omega))) (Done.pick [[bx (γ27 0) (#[.int .i64 x17.id, .int .i64 x17.due]) 88], [bx (γ18 0) (#[.int .i64 x17.id, .int .i64 x17.due]) 88], [bx (γ1 1) (#[.int .i64 0, .slice none 0 0]) 24], [bx (γ1 0) (#[.int .i64 now, .slice (some ⟨b15, o15, none⟩) n cap]) 24], Y28, Yd] [2, 3, 4, 5] [0, 1] (bx (γ1 1) (#[.int .i64 0, .slice none 0 0]) 24 :: bx (γ1 0) (#[.int .i64 now, .slice (some ⟨b15, o15, none⟩) n cap]) 24 :: (Y28 ++ (Yd ++ []))) (by kernel_rfl) rfl rfl ?_)))))))))))
    exact dr [1, 4, 8, 9, 20, 21, 22] (j + 1, Y28, p28, (nu + 1), cap28, Yd, pd, nd, cd) ⟨by omega, by omega, by omega, by rw [gath_onT hx17 (leF_yes (by omega))]; exact hO28, by rw [gath_onT hx17 (duF_yes (by omega)), List.append_nil]; exact hP⟩
  ·
   refine qa [(0, .no)] [1, 4, 8, 9, 20, 21, 22] [(23, .bool false)] ([¬ (((j : Nat) : Int) < ((n : Nat) : Int))]) (al1 q12) (ds_ (sq_ (f_ (at_leave _ rfl (ds_ (sq_ ?_))))))
   rw [List.take_of_length_le (by omega)] at hO hP
   refine ao_ (qo0 4 [] [4] [(41, .agg #[.int .i64 to, .slice po nu co]), (42, .slice pd nd cd)] (Ops.pick [[bx (γ1 1) (#[.int .i64 0, .slice none 0 0]) 24], [bx (γ1 0) (#[.int .i64 now, .slice p n cap]) 24], Yo, Yd] [0, 1, 3, 2] [] (bx (γ1 1) (#[.int .i64 0, .slice none 0 0]) 24 :: bx (γ1 0) (#[.int .i64 now, .slice p n cap]) 24 :: (Yd ++ (Yo ++ []))) (by kernel_rfl) rfl rfl (cP (fun v L' => ∃ Y_, v = .slice pd nd cd ∧ L' = [bx (γ1 1) (#[.int .i64 0, .slice none 0 0]) 24, bx (γ1 0) (#[.int .i64 now, .slice p n cap]) 24] ++ (Y_ ++ ((Yo ++ []))) ∧ SlO 88 Y_ pd nd cd (sortT ((ts.flatMap (duF to))))) Try.call63 (fun w hw => (sorted_t _ ([bx (γ1 1) (#[.int .i64 0, .slice none 0 0]) 24, bx (γ1 0) (#[.int .i64 now, .slice p n cap]) 24] ++ ((Yo ++ []))) Yd pd nd cd ((ts.flatMap (duF to))) w (Hs.front (A := [bx (γ1 1) (#[.int .i64 0, .slice none 0 0]) 24, bx (γ1 0) (#[.int .i64 now, .slice p n cap]) 24]) (Y := Yd) (R := ((Yo ++ []))) hw) hP (by omega)).mono fun e w' ⟨Y_, he, hO, hY⟩ => ⟨_, _, he, ⟨Y_, rfl, rfl, hO⟩, hY.push⟩) ?_)))
   rintro v33 L33 ⟨Y33, rfl, rfl, hO33⟩
   refine mo0 3 [(5, .go (owns 0 0 2))] [4] (fun _ => [(5, .slice pd nd cd), (6, .int .i64 0)]) (fun _ L => (L.set 0 (bx (γ1 1) (#[.int .i64 to, .slice po nu co]) 24))) (fun _ => on_ (ds_ (rt (owns 0 0 2) (.tuple #[.agg #[.int .i64 to, .slice po nu co], .slice pd nd cd, .int .i64 0]) ?_)))
   exact fun w' hw => by rw [passW_ok (Classical.not_not.1 q5), passD_ok (Classical.not_not.1 q5)]; exact ⟨_, _, _, _, _, _, _, _, rfl, hO, hO33, hw.below, two_tails (Hs.pick [[bx (γ1 1) (#[.int .i64 to, .slice po nu co]) 24], [bx (γ1 0) (#[.int .i64 now, .slice p n cap]) 24], Y33, Yo] [3, 2] [0, 1] (by kernel_rfl) hw)⟩
end Go.Proofs.Ytdbamgbgnpadjaa
