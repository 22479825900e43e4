/- Texts of this proof, one behind the other. -/
import Derived.Test.YtdbamgbgnpadjaaZd
import Derived.Test.YtdbamgbgnpadjaaZa
import Derived.Test.YtdbamgbgnpadjaaZb
import Derived.Test.YtdbamgbgnpadjaaZc
import Derived.ProofKit
import Derived.Carry
import Derived.Deep.Slices
import Derived.Lib.SmallJoins
import Derived.Test.YtdbamgbgnpadjaaProg
/-! Alarms: the document's answers; plain. -/
namespace Go.Proofs.Ytdbamgbgnpadjaa
open Go Go.RowKit

section
variable {now k v at_ to nx : Int} {ts : List Tim} {rs : List Alm} {x y : Alm} {t : Tim} {j : Nat}
theorem fd_none (h : getK Alm.vcpu rs k = none) : idxF (isV k) rs = -1 := by
  rcases idxF_cases (isV k) rs with ⟨e, _⟩ | ⟨i, x, _, hx, hp, _⟩
  · exact e
  · exact absurd (of_decide_eq_true hp) (getK_none.1 h x (List.mem_of_getElem? hx))
theorem fd_some (hr : Ris Alm.vcpu rs) (h : getK Alm.vcpu rs k = some x) : ∃ i : Nat, idxF (isV k) rs = (i : Int) ∧ rs[i]? = some x := by
  have hm := getK_mem h
  rcases idxF_cases (isV k) rs with ⟨_, hn⟩ | ⟨i, y, e, hy, hp, _⟩
  · have := hn x hm.1; rw [show isV k x = true from decide_eq_true hm.2] at this; cases this
  · refine ⟨i, e, ?_⟩
    have hk : y.vcpu = k := of_decide_eq_true hp
    rw [hr.inj hm.1 (List.mem_of_getElem? hy) (by rw [hm.2, hk])]; exact hy
theorem isV_no (h : ¬ x.vcpu = k) : isV k x = false := decide_eq_false h
theorem isV_yes (h : x.vcpu = k) : isV k x = true := decide_eq_true h
theorem none_on (h : ∀ (t : Nat) (y : Alm), t < j → rs[t]? = some y → isV k y = false) (hx : rs[j]? = some x) (e : isV k x = false) : ∀ (t : Nat) (y : Alm), t < j + 1 → rs[t]? = some y → isV k y = false := fun t y ht hy => by
  by_cases htj : t = j
  · subst htj; rw [hx] at hy; cases hy; exact e
  · exact h t y (by omega) hy
/-- What the document's Get and Sleeps answer. -/
def rgV (ts : List Tim) (rs : List Alm) (k : Int) : Value := match getK Alm.vcpu rs k with
  | some x => .tuple #[.agg #[.int .i64 x.vcpu, .int .i64 x.port, .int .i64 x.every], .int .i64 (atR ts (k - 1)), .bool true]
  | none => .tuple #[.agg #[.int .i64 0, .int .i64 0, .int .i64 0], .int .i64 0, .bool false]
theorem rg_none (h : getK Alm.vcpu rs k = none) : rgV ts rs k = .tuple #[.agg #[.int .i64 0, .int .i64 0, .int .i64 0], .int .i64 0, .bool false] := by simp [rgV, h]
theorem rg_some (h : getK Alm.vcpu rs k = some x) : rgV ts rs k = .tuple #[.agg #[.int .i64 x.vcpu, .int .i64 x.port, .int .i64 x.every], .int .i64 (atR ts (k - 1)), .bool true] := by simp [rgV, h]
def rslV (ts : List Tim) (k : Int) : Int := if vcB k = true then atR ts (15 + k) else 0
theorem rsl_no (h : vcB k = false) : rslV ts k = 0 := by simp [rslV, h]
theorem rsl_ok (h : vcB k = true) : rslV ts k = atR ts (15 + k) := by simp [rslV, h]
end
end Go.Proofs.Ytdbamgbgnpadjaa

/-! Alarms: the document's answers. -/
namespace Go.Proofs.Ytdbamgbgnpadjaa
open Go Go.RowKit

set_option maxRecDepth 100000 in
theorem rfind_t (now : Int) (p : Option Addr) (n cap : Nat) (ts : List Tim) (pa : Option Addr) (na ca : Nat) (rs : List Alm) (k : Int) (w : World)
 (hts : Sv w p ts) (hn : n = ts.length) (hb : n ≤ 1000)
 (hrs : Sv w pa rs) (hna : na = rs.length) (hba : na ≤ 1000)
 : Calls Try.prog 45 #[.agg #[.int .i64 now, .slice p n cap, .slice pa na ca], .int .i64 k] w fun e w' => e = .returned (.int .i64 (idxF (isV k) rs)) ∧ Below w.heap.size w w' := by
 refine enter (Hs.start w) Try.func45 rfl Try.ntmps45 rfl (sq_ (ma0 [] [1] (fun γ1 => [(2, .pointer (some ⟨γ1 0, 0, none⟩))]) (fun γ1 L => bx (γ1 0) (#[.int .i64 now, .slice p n cap, .slice pa na ca]) 27 :: L) (fun γ1 => ds_ (sq_ (sq_ (qa0 [(1, .go (owns 0 2 1))] [1] [(8, .slice pa na ca), (9, .int .i64 ((na : Nat))), (10, .int .i64 0)] (ds_ (at_block (at_loop (α := Nat) [1, 8, 9, 10] (fun j => [(1, .int .i64 k), (8, .slice pa na ca), (9, .int .i64 ((na : Nat))), (10, .int .i64 ((j : Nat)))]) (fun j => [bx (γ1 0) (#[.int .i64 now, .slice p n cap, .slice pa na ca]) 27]) (fun j => j ≤ na ∧ ∀ (t : Nat) (y : Alm), t < j → rs[t]? = some y → isV k y = false) (fun j => na - j) 0 (by kernel_rfl) rfl ⟨Nat.zero_le _, fun t y h => by omega⟩ ?_)))))))))
 rintro j
 rintro ⟨hj, hI⟩
 refine sq_ ?_
 by_cases q4 : ((j : Nat) : Int) < ((na : Nat) : Int)
 ·
  refine qa [(0, .yes)] [1, 8, 9, 10] [(11, .bool true)] ([((j : Nat) : Int) < ((na : Nat) : Int)]) (al1 q4) (ds_ (sq_ (t_ (at_skip (ds_ (sq_ (at_block (sq_ ?_))))))))
  obtain ⟨b7, o7, rfl⟩ := hrs.pos (i := j) (by omega)
  obtain ⟨x9, hx9⟩ := get_some (l := rs) (m := j) (by omega)
  refine ma [(1, .at b7 o7 j), (2, .go (outs b7 (o7 + j * 3) [.int .i64 x9.vcpu, .int .i64 x9.port, .int .i64 x9.every])), (5, .go (owns 0 0 3))] [1, 8, 9, 10] (fun γ10 => [(5, .int .i64 ((j : Nat))), (6, .pointer (some ⟨γ10 0, 0, none⟩))]) (fun γ10 L => bx (γ10 0) (#[.int .i64 x9.vcpu, .int .i64 x9.port, .int .i64 x9.every]) 47 :: L) (fun γ10 => [(some ⟨b7, o7, none⟩ : Option Addr) = some ⟨b7, o7, none⟩, ((j : Nat)) = ((j : Nat) : Int), j < na] ++ (cellsP w b7 (o7 + j * 3) [.int .i64 x9.vcpu, .int .i64 x9.port, .int .i64 x9.every])) (fun γ10 => (alA (al2 rfl (al2 rfl (al1 (by omega)))) (rd_pre (hrs.get hx9) _ rfl))) (fun γ10 => ds_ (sq_ ?_))
  by_cases q12 : (x9.vcpu : Int) = (k : Int)
  ·
   refine qa [(1, .go (owns 0 0 1)), (3, .yes)] [1, 5, 8, 9, 10] [(18, .bool true)] ([(x9.vcpu : Int) = (k : Int)]) (al1 q12) (ds_ (t_ (sq_ (qa0 [] [] [(4, .int .i64 ((j : Nat)))] (ds_ (rt ([]) (.int .i64 ((j : Nat))) ?_))))))
   exact fun w' hw => ⟨by rw [idxF_hit hI hx9 (isV_yes q12)], hw.below⟩
  ·
   refine qa [(1, .go (owns 0 0 1)), (3, .no)] [1, 5, 8, 9, 10] [(18, .bool false)] ([¬ ((x9.vcpu : Int) = (k : Int))]) (al1 q12) (ds_ (f_ (at_skip (done_block (ds_ (qa [(0, .fit)] [1, 8, 9] [(10, .int .i64 ((j + 1 : Nat)))] ([Fit .i64 ((j + 1 : Nat))]) (al1 (fit64 (by omega) (by omega))) (Done.drop (L' := [bx (γ1 0) (#[.int .i64 now, .slice p n cap, .slice (some ⟨b7, o7, none⟩) na ca]) 27]) ?_ (List.Sublist.cons _ (List.Sublist.cons_cons _ (List.Sublist.refl _))))))))))
   exact dr [1, 8, 9, 10] (j + 1) ⟨by omega, none_on hI hx9 (isV_no q12)⟩
 ·
  refine qa [(0, .no)] [1, 8, 9, 10] [(11, .bool false)] ([¬ (((j : Nat) : Int) < ((na : Nat) : Int))]) (al1 q4) (ds_ (sq_ (f_ (at_leave _ rfl (ds_ (sq_ (qa0 [] [] [(4, .int .i64 (-1))] (ds_ (rt ([]) (.int .i64 (-1)) ?_)))))))))
  exact fun w' hw => ⟨by rw [idxF_miss hI (by omega)], hw.below⟩

set_option maxRecDepth 100000 in
theorem rright8_t (now : Int) (p : Option Addr) (n cap : Nat) (ts : List Tim) (pa : Option Addr) (na ca : Nat) (rs : List Alm) (w : World)
 (hts : Sv w p ts) (hn : n = ts.length) (hb : n ≤ 1000)
 (hrs : Sv w pa rs) (hna : na = rs.length) (hba : na ≤ 1000)
 : Calls Try.prog 16 #[.agg #[.int .i64 now, .slice p n cap, .slice pa na ca]] w fun e w' => e = .returned (.bool (alB now ts rs)) ∧ Below w.heap.size w w' := by
 refine enter (Hs.start w) Try.func16 rfl Try.ntmps16 rfl (sq_ (ma0 [] [] (fun γ1 => [(1, .pointer (some ⟨γ1 0, 0, none⟩))]) (fun γ1 L => bx (γ1 0) (#[.int .i64 now, .slice p n cap, .slice pa na ca]) 27 :: L) (fun γ1 => ds_ (sq_ (sq_ (qa0 [(1, .go (owns 0 2 1))] [1] [(7, .slice pa na ca), (8, .int .i64 ((na : Nat))), (9, .int .i64 0)] (ds_ (at_block (at_loop (α := Nat) [1, 7, 8, 9] (fun j => [(1, .pointer (some ⟨γ1 0, 0, none⟩)), (7, .slice pa na ca), (8, .int .i64 ((na : Nat))), (9, .int .i64 ((j : Nat)))]) (fun j => [bx (γ1 0) (#[.int .i64 now, .slice p n cap, .slice pa na ca]) 27]) (fun j => j ≤ na ∧ Ris Alm.vcpu (rs.take j) ∧ ∀ y ∈ rs.take j, almB y = true) (fun j => na - j) 0 (by kernel_rfl) rfl ⟨Nat.zero_le _, ris_take0T, all_take0T⟩ ?_)))))))))
 rintro j
 rintro ⟨hj, hR, hA⟩
 refine sq_ ?_
 by_cases q4 : ((j : Nat) : Int) < ((na : Nat) : Int)
 ·
  refine qa [(0, .yes)] [1, 7, 8, 9] [(10, .bool true)] ([((j : Nat) : Int) < ((na : Nat) : Int)]) (al1 q4) (ds_ (sq_ (t_ (at_skip (ds_ (sq_ (at_block (sq_ ?_))))))))
  obtain ⟨b7, o7, rfl⟩ := hrs.pos (i := j) (by omega)
  obtain ⟨x9, hx9⟩ := get_some (l := rs) (m := j) (by omega)
  refine ma [(1, .at b7 o7 j), (2, .go (outs b7 (o7 + j * 3) [.int .i64 x9.vcpu, .int .i64 x9.port, .int .i64 x9.every])), (5, .go (owns 0 0 3))] [1, 7, 8, 9] (fun γ10 => [(3, .int .i64 ((j : Nat))), (4, .pointer (some ⟨γ10 0, 0, none⟩))]) (fun γ10 L => bx (γ10 0) (#[.int .i64 x9.vcpu, .int .i64 x9.port, .int .i64 x9.every]) 47 :: L) (fun γ10 => [(some ⟨b7, o7, none⟩ : Option Addr) = some ⟨b7, o7, none⟩, ((j : Nat)) = ((j : Nat) : Int), j < na] ++ (cellsP w b7 (o7 + j * 3) [.int .i64 x9.vcpu, .int .i64 x9.port, .int .i64 x9.every])) (fun γ10 => (alA (al2 rfl (al2 rfl (al1 (by omega)))) (rd_pre (hrs.get hx9) _ rfl))) (fun γ10 => ds_ (sq_ ?_))
  rcases q11 : almB x9 with _ | _
  ·
   refine at_calm rfl (by kernel_rfl) (by kernel_rfl) ?_
   refine cm 1 [(0, .go (owns 0 0 3))] [1, 3, 4, 7, 8, 9] [(14, .agg #[.int .i64 x9.vcpu, .int .i64 x9.port, .int .i64 x9.every])] ([]) (by kernel_rfl) rfl al0 ?_
   refine cK (.bool false) Try.call42 (fun w hw => by have := ralm_t x9 w; rw [q11] at this; exact this) ?_
   refine cm 14 [] [1, 7, 8, 9] [(17, .bool true), (20, undef), (27, undef), (29, undef)] ([]) (by kernel_rfl) rfl al0 ?_
   refine cm 3 [] [1, 7, 8, 9] [(32, .bool true)] ([]) (by kernel_rfl) rfl al0 ?_
   refine calm_nil' ?_
   refine ds_ (t_ (sq_ (qa0 [] [] [(2, .bool false)] (ds_ (rt ([]) (.bool false) ?_)))))
   exact fun w' hw => ⟨by rw [al_bad_row hx9 q11], hw.below⟩
  ·
   by_cases q16 : ((j : Nat) : Int) > (0 : Int)
   ·
    obtain ⟨x17, hx17⟩ := get_some (l := rs) (m := j - 1) (by omega)
    by_cases q18 : (x17.vcpu : Int) ≥ (x9.vcpu : Int)
    ·
     refine at_calm rfl (by kernel_rfl) (by kernel_rfl) ?_
     refine cm 1 [(0, .go (owns 0 0 3))] [1, 3, 4, 7, 8, 9] [(14, .agg #[.int .i64 x9.vcpu, .int .i64 x9.port, .int .i64 x9.every])] ([]) (by kernel_rfl) rfl al0 ?_
     refine cK (.bool true) Try.call42 (fun w hw => by have := ralm_t x9 w; rw [q11] at this; exact this) ?_
     refine cm 14 [(5, .yes), (8, .go (owns 1 2 1)), (10, .fit), (11, .at b7 o7 (j - 1)), (13, .go (outs b7 (o7 + (j - 1) * 3) [.int .i64 x17.vcpu])), (15, .go (owns 0 0 1))] [1, 7, 8, 9] [(17, .bool false), (20, .bool true), (27, .int .i64 x17.vcpu), (29, .int .i64 x9.vcpu)] ([((j : Nat) : Int) > (0 : Int)] ++ ([Fit .i64 (((j : Nat)) - 1)] ++ ([(some ⟨b7, o7, none⟩ : Option Addr) = some ⟨b7, o7, none⟩, (((j : Nat)) - 1) = ((j - 1 : Nat) : Int), j - 1 < na] ++ (cellsP w b7 (o7 + (j - 1) * 3) [.int .i64 x17.vcpu])))) (by kernel_rfl) rfl (alA (al1 q16) (alA (al1 (fit64 (by omega) (by omega))) (alA (al2 rfl (al2 (by omega) (al1 (by omega)))) (rd_pre (hrs.get hx17) _ rfl)))) ?_
     refine cm 3 [(16, .yes)] [1, 7, 8, 9] [(32, .bool true)] ([(x17.vcpu : Int) ≥ (x9.vcpu : Int)]) (by kernel_rfl) rfl (al1 q18) ?_
     refine calm_nil' ?_
     refine ds_ (t_ (sq_ (qa0 [] [] [(2, .bool false)] (ds_ (rt ([]) (.bool false) ?_)))))
     exact fun w' hw => ⟨by rw [al_bad_rise hx9 hx17 (by omega) (by omega)], hw.below⟩
    ·
     refine at_calm rfl (by kernel_rfl) (by kernel_rfl) ?_
     refine cm 1 [(0, .go (owns 0 0 3))] [1, 3, 4, 7, 8, 9] [(14, .agg #[.int .i64 x9.vcpu, .int .i64 x9.port, .int .i64 x9.every])] ([]) (by kernel_rfl) rfl al0 ?_
     refine cK (.bool true) Try.call42 (fun w hw => by have := ralm_t x9 w; rw [q11] at this; exact this) ?_
     refine cm 14 [(5, .yes), (8, .go (owns 1 2 1)), (10, .fit), (11, .at b7 o7 (j - 1)), (13, .go (outs b7 (o7 + (j - 1) * 3) [.int .i64 x17.vcpu])), (15, .go (owns 0 0 1))] [1, 7, 8, 9] [(17, .bool false), (20, .bool true), (27, .int .i64 x17.vcpu), (29, .int .i64 x9.vcpu)] ([((j : Nat) : Int) > (0 : Int)] ++ ([Fit .i64 (((j : Nat)) - 1)] ++ ([(some ⟨b7, o7, none⟩ : Option Addr) = some ⟨b7, o7, none⟩, (((j : Nat)) - 1) = ((j - 1 : Nat) : Int), j - 1 < na] ++ (cellsP w b7 (o7 + (j - 1) * 3) [.int .i64 x17.vcpu])))) (by kernel_rfl) rfl (alA (al1 q16) (alA (al1 (fit64 (by omega) (by omega))) (alA (al2 rfl (al2 (by omega) (al1 (by omega)))) (rd_pre (hrs.get hx17) _ rfl)))) ?_
     refine cm 3 [(16, .no)] [1, 7, 8, 9] [(32, .bool false)] ([¬ ((x17.vcpu : Int) ≥ (x9.vcpu : Int))]) (by kernel_rfl) rfl (al1 q18) ?_
     refine calm_nil' ?_
     refine ds_ (f_ (at_skip (done_block (ds_ (qa [(0, .fit)] [1, 7, 8] [(9, .int .i64 ((j + 1 : Nat)))] ([Fit .i64 ((j + 1 : Nat))]) (al1 (fit64 (by omega) (by omega))) (Done.drop (L' := [bx (γ1 0) (#[.int .i64 now, .slice p n cap, .slice (some ⟨b7, o7, none⟩) na ca]) 27]) ?_ (List.Sublist.cons _ (List.Sublist.cons_cons _ (List.Sublist.refl _)))))))))
     exact dr [1, 7, 8, 9] (j + 1) ⟨by omega, ris_take_onT hR hx9 (.inr ⟨x17, hx17, by omega⟩), all_onT hA hx9 q11⟩
   ·
    refine at_calm rfl (by kernel_rfl) (by kernel_rfl) ?_
    refine cm 1 [(0, .go (owns 0 0 3))] [1, 3, 4, 7, 8, 9] [(14, .agg #[.int .i64 x9.vcpu, .int .i64 x9.port, .int .i64 x9.every])] ([]) (by kernel_rfl) rfl al0 ?_
    refine cK (.bool true) Try.call42 (fun w hw => by have := ralm_t x9 w; rw [q11] at this; exact this) ?_
    refine cm 14 [(5, .no)] [1, 7, 8, 9] [(17, .bool false), (20, .bool false), (27, undef), (29, undef)] ([¬ (((j : Nat) : Int) > (0 : Int))]) (by kernel_rfl) rfl (al1 q16) ?_
    refine cm 3 [] [1, 7, 8, 9] [(32, .bool false)] ([]) (by kernel_rfl) rfl al0 ?_
    refine calm_nil' ?_
    refine ds_ (f_ (at_skip (done_block (ds_ (qa [(0, .fit)] [1, 7, 8] [(9, .int .i64 ((j + 1 : Nat)))] ([Fit .i64 ((j + 1 : Nat))]) (al1 (fit64 (by omega) (by omega))) (Done.drop (L' := [bx (γ1 0) (#[.int .i64 now, .slice p n cap, .slice (some ⟨b7, o7, none⟩) na ca]) 27]) ?_ (List.Sublist.cons _ (List.Sublist.cons_cons _ (List.Sublist.refl _)))))))))
    exact dr [1, 7, 8, 9] (j + 1) ⟨by omega, ris_take_onT hR hx9 (.inl (by omega)), all_onT hA hx9 q11⟩
 ·
  refine qa [(0, .no)] [1, 7, 8, 9] [(10, .bool false)] ([¬ (((j : Nat) : Int) < ((na : Nat) : Int))]) (al1 q4) (ds_ (sq_ (f_ (at_leave _ rfl (ds_ (sq_ (sq_ ?_)))))))
  rw [List.take_of_length_le (by omega)] at hR hA
  refine ao_ (qo0 2 [(1, .go (owns 0 0 2))] [1] [(35, .agg #[.int .i64 now, .slice p n cap])] ?_)
  rcases q33 : wheelB now ts with _ | _
  ·
   refine cD (.bool false) Try.call43 (fun w hw => by have := rright_t now p n cap ts w (hts.kept hw.below) hn (by omega); rw [q33] at this; exact this) (qo0 1 [] [1] [(37, .bool true)] (on_ (ds_ (t_ (sq_ (qa0 [] [] [(2, .bool false)] (ds_ (rt ([]) (.bool false) ?_))))))))
   exact fun w' hw => ⟨by rw [al_bad_wheel q33], hw.below⟩
  ·
   refine cD (.bool true) Try.call43 (fun w hw => by have := rright_t now p n cap ts w (hts.kept hw.below) hn (by omega); rw [q33] at this; exact this) (qo0 1 [] [1] [(37, .bool false)] (on_ (ds_ (f_ (at_skip (ds_ (sq_ (sq_ ?_))))))))
   have hn0 := (wheel_iff.1 q33).n0
   refine qa0 [] [1] [(5, .int .i64 1)] (ds_ (at_block (at_loop (α := Int) [1, 5] (fun v => [(1, .pointer (some ⟨γ1 0, 0, none⟩)), (5, .int .i64 v)]) (fun v => [bx (γ1 0) (#[.int .i64 now, .slice p n cap, .slice pa na ca]) 27]) (fun v => 1 ≤ v ∧ v ≤ 17 ∧ ∀ u : Int, 1 ≤ u → u < v → (getK Tim.id ts (u - 1)).isSome = (getK Alm.vcpu rs u).isSome) (fun v => (17 - v).toNat) 1 (by kernel_rfl) rfl ⟨by omega, by omega, fun u h1 h2 => by omega⟩ ?_)))
   rintro v
   rintro ⟨hv1, hv2, hI⟩
   refine sq_ (sq_ ?_)
   by_cases q39 : (v : Int) ≤ (16 : Int)
   ·
    refine qa [(1, .yes)] [1, 5] [(39, .bool true)] ([(v : Int) ≤ (16 : Int)]) (al1 q39) (ds_ (t_ (at_skip (ds_ (sq_ (at_block (sq_ ?_)))))))
    refine at_calm rfl (by kernel_rfl) (by kernel_rfl) ?_
    refine cm 4 [(1, .go (owns 0 0 2)), (3, .fit)] [1, 5] [(43, .agg #[.int .i64 now, .slice p n cap]), (45, .int .i64 (v - 1))] ([Fit .i64 (v - 1)]) (by kernel_rfl) rfl (al1 (fit64 (by omega) (by omega))) ?_
    rcases hg42 : getK Tim.id ts (v - 1) with _ | y42
    ·
     refine cK (.int .i64 0) Try.call44 (fun w hw => by have := rat_t now p n cap ts (v - 1) w (hts.kept hw.below) hn (by omega); rw [atR_none hg42] at this; exact this) ?_
     refine cm 3 [(6, .go (owns 0 0 3))] [1, 5] [(47, .bool false), (48, .agg #[.int .i64 now, .slice p n cap, .slice pa na ca]), (49, .int .i64 v)] ([]) (by kernel_rfl) rfl al0 ?_
     rcases ha44 : getK Alm.vcpu rs v with _ | z44
     ·
      refine cK (.int .i64 (-1)) Try.call45 (fun w hw => by have := rfind_t now p n cap ts pa na ca rs v w (hts.kept hw.below) hn (by omega) (hrs.kept hw.below) hna (by omega); rw [fd_none ha44] at this; exact this) ?_
      refine cm 2 [(10, .eqs false)] [1, 5] [(52, .bool false)] ([EqRun Try.prog .neq 4 (.tmp 47) (.tmp 51) (.bool false) (.bool false) false]) (by kernel_rfl) rfl (al1 (bool_ne false false)) ?_
      refine calm_nil' ?_
      refine ds_ (f_ (at_skip (done_block (ds_ (qa [(1, .fit)] [1] [(5, .int .i64 (v + 1))] ([Fit .i64 (v + 1)]) (al1 (fit64 (by omega) (by omega))) ?_)))))
      exact dr [1, 5] (v + 1) ⟨by omega, by omega, links_on hI (by rw [hg42, ha44]; rfl)⟩
     ·
      obtain ⟨i47, hi47, hx47⟩ := fd_some hR ha44
      have hl47 := (List.getElem?_eq_some_iff.1 hx47).1
      refine cK (.int .i64 ((i47 : Nat))) Try.call45 (fun w hw => by have := rfind_t now p n cap ts pa na ca rs v w (hts.kept hw.below) hn (by omega) (hrs.kept hw.below) hna (by omega); rw [hi47] at this; exact this) ?_
      refine cm 2 [(9, .yes), (10, .eqs true)] [1, 5] [(52, .bool true)] ([((i47 : Nat) : Int) ≥ (0 : Int)] ++ ([EqRun Try.prog .neq 4 (.tmp 47) (.tmp 51) (.bool false) (.bool true) true])) (by kernel_rfl) rfl (alA (al1 ((by omega))) (al1 (bool_ne false true))) ?_
      refine calm_nil' ?_
      refine ds_ (t_ (sq_ (qa0 [] [] [(2, .bool false)] (ds_ (rt ([]) (.bool false) ?_)))))
      exact fun w' hw => ⟨by rw [al_bad_link (v := v) (by omega) (by omega) (by rw [hg42, ha44]; simp)], hw.below⟩
    ·
     have hymy42 := (wheel_iff.1 q33).tm y42 (getK_mem hg42).1
     refine cK (.int .i64 y42.due) Try.call44 (fun w hw => by have := rat_t now p n cap ts (v - 1) w (hts.kept hw.below) hn (by omega); rw [atR_some hg42] at this; exact this) ?_
     refine cm 3 [(5, .yes), (6, .go (owns 0 0 3))] [1, 5] [(47, .bool true), (48, .agg #[.int .i64 now, .slice p n cap, .slice pa na ca]), (49, .int .i64 v)] ([(y42.due : Int) > (0 : Int)]) (by kernel_rfl) rfl (al1 ((by omega))) ?_
     rcases ha51 : getK Alm.vcpu rs v with _ | z51
     ·
      refine cK (.int .i64 (-1)) Try.call45 (fun w hw => by have := rfind_t now p n cap ts pa na ca rs v w (hts.kept hw.below) hn (by omega) (hrs.kept hw.below) hna (by omega); rw [fd_none ha51] at this; exact this) ?_
      refine cm 2 [(10, .eqs true)] [1, 5] [(52, .bool true)] ([EqRun Try.prog .neq 4 (.tmp 47) (.tmp 51) (.bool true) (.bool false) true]) (by kernel_rfl) rfl (al1 (bool_ne true false)) ?_
      refine calm_nil' ?_
      refine ds_ (t_ (sq_ (qa0 [] [] [(2, .bool false)] (ds_ (rt ([]) (.bool false) ?_)))))
      exact fun w' hw => ⟨by rw [al_bad_link (v := v) (by omega) (by omega) (by rw [hg42, ha51]; simp)], hw.below⟩
     ·
      obtain ⟨i54, hi54, hx54⟩ := fd_some hR ha51
      have hl54 := (List.getElem?_eq_some_iff.1 hx54).1
      refine cK (.int .i64 ((i54 : Nat))) Try.call45 (fun w hw => by have := rfind_t now p n cap ts pa na ca rs v w (hts.kept hw.below) hn (by omega) (hrs.kept hw.below) hna (by omega); rw [hi54] at this; exact this) ?_
      refine cm 2 [(9, .yes), (10, .eqs false)] [1, 5] [(52, .bool false)] ([((i54 : Nat) : Int) ≥ (0 : Int)] ++ ([EqRun Try.prog .neq 4 (.tmp 47) (.tmp 51) (.bool true) (.bool true) false])) (by kernel_rfl) rfl (alA (al1 ((by omega))) (al1 (bool_ne true true))) ?_
      refine calm_nil' ?_
      refine ds_ (f_ (at_skip (done_block (ds_ (qa [(1, .fit)] [1] [(5, .int .i64 (v + 1))] ([Fit .i64 (v + 1)]) (al1 (fit64 (by omega) (by omega))) ?_)))))
      exact dr [1, 5] (v + 1) ⟨by omega, by omega, links_on hI (by rw [hg42, ha51]; rfl)⟩
   ·
    refine qa [(1, .no)] [1, 5] [(39, .bool false)] ([¬ ((v : Int) ≤ (16 : Int))]) (al1 q39) (ds_ (f_ (at_leave _ rfl (ds_ (sq_ (qa0 [] [] [(2, .bool true)] (ds_ (rt ([]) (.bool true) ?_))))))))
    exact fun w' hw => ⟨by rw [al_good' hR hA q33 hI (by omega)], hw.below⟩

set_option maxRecDepth 100000 in
theorem rsame8_t (now : Int) (p : Option Addr) (n cap : Nat) (ts : List Tim) (pa : Option Addr) (na ca : Nat) (rs : List Alm) (now2 : Int) (p2 : Option Addr) (n2 cap2 : Nat) (ts2 : List Tim) (pa2 : Option Addr) (na2 ca2 : Nat) (rs2 : List Alm) (w : World)
 (hts : Sv w p ts) (hn : n = ts.length) (hb : n ≤ 1000)
 (hrs : Sv w pa rs) (hna : na = rs.length) (hba : na ≤ 1000)
 (hts2 : Sv w p2 ts2) (hn2 : n2 = ts2.length) (hb2 : n2 ≤ 1000)
 (hrs2 : Sv w pa2 rs2) (hna2 : na2 = rs2.length) (hba2 : na2 ≤ 1000)
 : Calls Try.prog 17 #[.agg #[.int .i64 now, .slice p n cap, .slice pa na ca], .agg #[.int .i64 now2, .slice p2 n2 cap2, .slice pa2 na2 ca2]] w fun e w' => e = .returned (.bool (sameA now ts rs now2 ts2 rs2)) ∧ Below w.heap.size w w' := by
 refine enter (Hs.start w) Try.func17 rfl Try.ntmps17 rfl (sq_ (ma0 [] [] (fun γ1 => [(2, .pointer (some ⟨γ1 0, 0, none⟩)), (3, .pointer (some ⟨γ1 1, 0, none⟩))]) (fun γ1 L => bx (γ1 1) (#[.int .i64 now2, .slice p2 n2 cap2, .slice pa2 na2 ca2]) 27 :: bx (γ1 0) (#[.int .i64 now, .slice p n cap, .slice pa na ca]) 27 :: L) (fun γ1 => ds_ (sq_ (sq_ (ao_ (qo0 4 [(1, .go (owns 1 0 2)), (3, .go (owns 0 0 2))] [2, 3] [(7, .agg #[.int .i64 now, .slice p n cap]), (9, .agg #[.int .i64 now2, .slice p2 n2 cap2])] (cD (.bool (sameW now ts now2 ts2)) Try.call46 (fun w hw => by have := rsame_t now p n cap ts now2 p2 n2 cap2 ts2 w (hts.kept hw.below) hn (by omega) (hts2.kept hw.below) hn2 (by omega); exact this) ?_))))))))
 rcases q4 : sameW now ts now2 ts2 with _ | _
 ·
  refine qo0 10 [] [2, 3] [(20, .bool true)] (on_ (ds_ (t_ (sq_ (qa0 [] [] [(4, .bool false)] (ds_ (rt ([]) (.bool false) ?_)))))))
  exact fun w' hw => ⟨by rw [sameA_no q4], hw.below⟩
 ·
  by_cases q8 : ((na : Nat) : Int) ≠ ((na2 : Nat) : Int)
  ·
   refine qo 10 [(8, .go (owns 1 2 1)), (11, .go (owns 0 2 1)), (13, .yes)] [2, 3] [(20, .bool true)] ([((na : Nat) : Int) ≠ ((na2 : Nat) : Int)]) (al1 q8) (on_ (ds_ (t_ (sq_ (qa0 [] [] [(4, .bool false)] (ds_ (rt ([]) (.bool false) ?_)))))))
   exact fun w' hw => ⟨by rw [sameA_yes q4, dsame_len (l := rs) (l2 := rs2) (by omega)], hw.below⟩
  ·
   refine qo 10 [(8, .go (owns 1 2 1)), (11, .go (owns 0 2 1)), (13, .no)] [2, 3] [(20, .bool false)] ([¬ (((na : Nat) : Int) ≠ ((na2 : Nat) : Int))]) (al1 q8) (on_ (ds_ (f_ (at_skip (ds_ (sq_ (sq_ (qa0 [(1, .go (owns 1 2 1))] [2, 3] [(23, .int .i64 ((na : Nat))), (24, .int .i64 0)] (ds_ (at_block (at_loop (α := Nat) [2, 3, 23, 24] (fun j => [(2, .pointer (some ⟨γ1 0, 0, none⟩)), (3, .pointer (some ⟨γ1 1, 0, none⟩)), (23, .int .i64 ((na : Nat))), (24, .int .i64 ((j : Nat)))]) (fun j => [bx (γ1 1) (#[.int .i64 now2, .slice p2 n2 cap2, .slice pa2 na2 ca2]) 27, bx (γ1 0) (#[.int .i64 now, .slice p n cap, .slice pa na ca]) 27]) (fun j => j ≤ na ∧ rs.take j = rs2.take j) (fun j => na - j) 0 (by kernel_rfl) rfl ⟨Nat.zero_le _, rfl⟩ ?_)))))))))))
   rintro j
   rintro ⟨hj, hIj⟩
   refine sq_ ?_
   by_cases q14 : ((j : Nat) : Int) < ((na : Nat) : Int)
   ·
    refine qa [(0, .yes)] [2, 3, 23, 24] [(25, .bool true)] ([((j : Nat) : Int) < ((na : Nat) : Int)]) (al1 q14) (ds_ (sq_ (t_ (at_skip (ds_ (sq_ (at_block (sq_ (qa0 [] [2, 3, 23, 24] [(5, .int .i64 ((j : Nat)))] (ds_ (sq_ ?_)))))))))))
    obtain ⟨b18, o18, rfl⟩ := hrs.pos (i := j) (by omega)
    obtain ⟨x20, hx20⟩ := get_some (l := rs) (m := j) (by omega)
    obtain ⟨b22, o22, rfl⟩ := hrs2.pos (i := j) (by omega)
    obtain ⟨x24, hx24⟩ := get_some (l := rs2) (m := j) (by omega)
    by_cases q26 : x20 = x24
    ·
     refine cq [(1, .go (owns 1 2 1)), (3, .at b18 o18 j), (4, .go (outs b18 (o18 + j * 3) [.int .i64 x20.vcpu, .int .i64 x20.port, .int .i64 x20.every])), (6, .go (owns 0 2 1)), (8, .at b22 o22 j), (9, .go (outs b22 (o22 + j * 3) [.int .i64 x24.vcpu, .int .i64 x24.port, .int .i64 x24.every])), (10, .eqs false)] [2, 3, 23, 24] [(37, .bool false)] ([(some ⟨b18, o18, none⟩ : Option Addr) = some ⟨b18, o18, none⟩, ((j : Nat)) = ((j : Nat) : Int), j < na] ++ (cellsP w b18 (o18 + j * 3) [.int .i64 x20.vcpu, .int .i64 x20.port, .int .i64 x20.every] ++ ([(some ⟨b22, o22, none⟩ : Option Addr) = some ⟨b22, o22, none⟩, ((j : Nat)) = ((j : Nat) : Int), j < na2] ++ (cellsP w b22 (o22 + j * 3) [.int .i64 x24.vcpu, .int .i64 x24.port, .int .i64 x24.every] ++ ([EqRun Try.prog .neq 47 (.tmp 31) (.tmp 36) (.agg #[.int .i64 x20.vcpu, .int .i64 x20.port, .int .i64 x20.every]) (.agg #[.int .i64 x24.vcpu, .int .i64 x24.port, .int .i64 x24.every]) false]))))) rfl (by kernel_rfl) (by kernel_rfl) (by kernel_rfl) (alA (al2 rfl (al2 rfl (al1 (by omega)))) (alA (rd_pre (hrs.get hx20) _ rfl) (alA (al2 rfl (al2 rfl (al1 (by omega)))) (alA (rd_pre (hrs2.get hx24) _ rfl) (al1 (alm_ne_t (a := x20) (b := x24) q26)))))) (ds_ (f_ (at_skip (done_block (ds_ (qa [(0, .fit)] [2, 3, 23] [(24, .int .i64 ((j + 1 : Nat)))] ([Fit .i64 ((j + 1 : Nat))]) (al1 (fit64 (by omega) (by omega))) ?_))))))
     exact dr [2, 3, 23, 24] (j + 1) ⟨by omega, dsame_on hIj hx20 hx24 (by first | assumption | omega)⟩
    ·
     refine cq [(1, .go (owns 1 2 1)), (3, .at b18 o18 j), (4, .go (outs b18 (o18 + j * 3) [.int .i64 x20.vcpu, .int .i64 x20.port, .int .i64 x20.every])), (6, .go (owns 0 2 1)), (8, .at b22 o22 j), (9, .go (outs b22 (o22 + j * 3) [.int .i64 x24.vcpu, .int .i64 x24.port, .int .i64 x24.every])), (10, .eqs true)] [2, 3, 23, 24] [(37, .bool true)] ([(some ⟨b18, o18, none⟩ : Option Addr) = some ⟨b18, o18, none⟩, ((j : Nat)) = ((j : Nat) : Int), j < na] ++ (cellsP w b18 (o18 + j * 3) [.int .i64 x20.vcpu, .int .i64 x20.port, .int .i64 x20.every] ++ ([(some ⟨b22, o22, none⟩ : Option Addr) = some ⟨b22, o22, none⟩, ((j : Nat)) = ((j : Nat) : Int), j < na2] ++ (cellsP w b22 (o22 + j * 3) [.int .i64 x24.vcpu, .int .i64 x24.port, .int .i64 x24.every] ++ ([EqRun Try.prog .neq 47 (.tmp 31) (.tmp 36) (.agg #[.int .i64 x20.vcpu, .int .i64 x20.port, .int .i64 x20.every]) (.agg #[.int .i64 x24.vcpu, .int .i64 x24.port, .int .i64 x24.every]) true]))))) rfl (by kernel_rfl) (by kernel_rfl) (by kernel_rfl) (alA (al2 rfl (al2 rfl (al1 (by omega)))) (alA (rd_pre (hrs.get hx20) _ rfl) (alA (al2 rfl (al2 rfl (al1 (by omega)))) (alA (rd_pre (hrs2.get hx24) _ rfl) (al1 (alm_ne_f (a := x20) (b := x24) q26)))))) (ds_ (t_ (sq_ (qa0 [] [] [(4, .bool false)] (ds_ (rt ([]) (.bool false) ?_))))))
     exact fun w' hw => ⟨by rw [sameA_yes q4, dsame_no hx20 hx24 (by assumption)], hw.below⟩
   ·
    refine qa [(0, .no)] [2, 3, 23, 24] [(25, .bool false)] ([¬ (((j : Nat) : Int) < ((na : Nat) : Int))]) (al1 q14) (ds_ (sq_ (f_ (at_leave _ rfl (ds_ (sq_ (qa0 [] [] [(4, .bool true)] (ds_ (rt ([]) (.bool true) ?_)))))))))
    exact fun w' hw => ⟨by rw [sameA_yes q4, dsame_yes hIj (by omega) (by omega)], hw.below⟩

set_option maxRecDepth 100000 in
theorem rnext8_t (now : Int) (p : Option Addr) (n cap : Nat) (ts : List Tim) (pa : Option Addr) (na ca : Nat) (rs : List Alm) (w : World)
 (hts : Sv w p ts) (hn : n = ts.length) (hb : n ≤ 1000)
 (hrs : Sv w pa rs) (hna : na = rs.length) (hba : na ≤ 1000)
 : Calls Try.prog 18 #[.agg #[.int .i64 now, .slice p n cap, .slice pa na ca]] w fun e w' => e = .returned (.int .i64 (leastV ts)) ∧ Below w.heap.size w w' := by
 refine enter (Hs.start w) Try.func18 rfl Try.ntmps18 rfl (sq_ (ma0 [] [] (fun γ1 => [(1, .pointer (some ⟨γ1 0, 0, none⟩))]) (fun γ1 L => bx (γ1 0) (#[.int .i64 now, .slice p n cap, .slice pa na ca]) 27 :: L) (fun γ1 => ds_ (sq_ (qa0 [] [1] [(3, .int .i64 0)] (ds_ (sq_ (sq_ (qa0 [(2, .go (owns 0 1 1))] [3] [(8, .slice p n cap), (9, .int .i64 ((n : Nat))), (10, .int .i64 0)] (ds_ (at_block (at_loop (α := Nat × Int) [3, 8, 9, 10] (fun ⟨j, c⟩ => [(3, .int .i64 c), (8, .slice p n cap), (9, .int .i64 ((n : Nat))), (10, .int .i64 ((j : Nat)))]) (fun ⟨j, c⟩ => [bx (γ1 0) (#[.int .i64 now, .slice p n cap, .slice pa na ca]) 27]) (fun ⟨j, c⟩ => j ≤ n ∧ c = (ts.take j).foldl leastS 0) (fun ⟨j, c⟩ => n - j) (0, 0) (by kernel_rfl) rfl ⟨Nat.zero_le _, rfl⟩ ?_))))))))))))
 rintro ⟨j, c⟩
 rintro ⟨hj, hc⟩
 refine sq_ ?_
 by_cases q5 : ((j : Nat) : Int) < ((n : Nat) : Int)
 ·
  refine qa [(0, .yes)] [3, 8, 9, 10] [(11, .bool true)] ([((j : Nat) : Int) < ((n : Nat) : Int)]) (al1 q5) (ds_ (sq_ (t_ (at_skip (ds_ (sq_ (at_block (sq_ ?_))))))))
  obtain ⟨b8, o8, rfl⟩ := hts.pos (i := j) (by omega)
  obtain ⟨x10, hx10⟩ := get_some (l := ts) (m := j) (by omega)
  refine ma [(0, .at b8 o8 j), (1, .go (outs b8 (o8 + j * 2) [.int .i64 x10.id, .int .i64 x10.due])), (3, .go (owns 0 0 2))] [3, 8, 9, 10] (fun γ11 => [(5, .pointer (some ⟨γ11 0, 0, none⟩))]) (fun γ11 L => bx (γ11 0) (#[.int .i64 x10.id, .int .i64 x10.due]) 88 :: L) (fun γ11 => [(some ⟨b8, o8, none⟩ : Option Addr) = some ⟨b8, o8, none⟩, ((j : Nat)) = ((j : Nat) : Int), j < n] ++ (cellsP w b8 (o8 + j * 2) [.int .i64 x10.id, .int .i64 x10.due])) (fun γ11 => (alA (al2 rfl (al2 rfl (al1 (by omega)))) (rd_pre (hts.get hx10) _ rfl))) (fun γ11 => ds_ (sq_ ?_))
  by_cases q13 : (c : Int) = (0 : Int)
  ·
   refine qa [(1, .yes)] [3, 5, 8, 9, 10] [(21, .bool true)] ([(c : Int) = (0 : Int)]) (al1 q13) (ds_ (t_ (qa0 [(1, .go (owns 0 1 1))] [8, 9, 10] [(3, .int .i64 x10.due)] (done_block (ds_ (qa [(0, .fit)] [3, 8, 9] [(10, .int .i64 ((j + 1 : Nat)))] ([Fit .i64 ((j + 1 : Nat))]) (al1 (fit64 (by omega) (by omega))) (Done.drop (L' := [bx (γ1 0) (#[.int .i64 now, .slice (some ⟨b8, o8, none⟩) n cap, .slice pa na ca]) 27]) ?_ (List.Sublist.cons _ (List.Sublist.cons_cons _ (List.Sublist.refl _))))))))))
   exact dr [3, 8, 9, 10] (j + 1, x10.due) ⟨by omega, by rw [least_on hx10, ← hc, least_yes (.inl q13)]⟩
  ·
   by_cases q18 : (x10.due : Int) < (c : Int)
   ·
    refine qa [(1, .no), (4, .go (owns 0 1 1)), (6, .yes)] [3, 5, 8, 9, 10] [(21, .bool true)] ([¬ ((c : Int) = (0 : Int))] ++ ([(x10.due : Int) < (c : Int)])) (alA (al1 q13) (al1 q18)) (ds_ (t_ (qa0 [(1, .go (owns 0 1 1))] [8, 9, 10] [(3, .int .i64 x10.due)] (done_block (ds_ (qa [(0, .fit)] [3, 8, 9] [(10, .int .i64 ((j + 1 : Nat)))] ([Fit .i64 ((j + 1 : Nat))]) (al1 (fit64 (by omega) (by omega))) (Done.drop (L' := [bx (γ1 0) (#[.int .i64 now, .slice (some ⟨b8, o8, none⟩) n cap, .slice pa na ca]) 27]) ?_ (List.Sublist.cons _ (List.Sublist.cons_cons _ (List.Sublist.refl _))))))))))
    exact dr [3, 8, 9, 10] (j + 1, x10.due) ⟨by omega, by rw [least_on hx10, ← hc, least_yes (.inr q18)]⟩
   ·
    refine qa [(1, .no), (4, .go (owns 0 1 1)), (6, .no)] [3, 5, 8, 9, 10] [(21, .bool false)] ([¬ ((c : Int) = (0 : Int))] ++ ([¬ ((x10.due : Int) < (c : Int))])) (alA (al1 q13) (al1 q18)) (ds_ (f_ (at_skip (done_block (ds_ (qa [(0, .fit)] [3, 8, 9] [(10, .int .i64 ((j + 1 : Nat)))] ([Fit .i64 ((j + 1 : Nat))]) (al1 (fit64 (by omega) (by omega))) (Done.drop (L' := [bx (γ1 0) (#[.int .i64 now, .slice (some ⟨b8, o8, none⟩) n cap, .slice pa na ca]) 27]) ?_ (List.Sublist.cons _ (List.Sublist.cons_cons _ (List.Sublist.refl _))))))))))
    exact dr [3, 8, 9, 10] (j + 1, c) ⟨by omega, by rw [least_on hx10, ← hc, least_no (fun h => h.elim q13 q18)]⟩
 ·
  refine qa [(0, .no)] [3, 8, 9, 10] [(11, .bool false)] ([¬ (((j : Nat) : Int) < ((n : Nat) : Int))]) (al1 q5) (ds_ (sq_ (f_ (at_leave _ rfl (ds_ (sq_ (qa0 [] [] [(2, .int .i64 c)] (ds_ (rt ([]) (.int .i64 c) ?_)))))))))
  rw [List.take_of_length_le (by omega)] at hc
  exact fun w' hw => ⟨by rw [hc]; rfl, hw.below⟩

set_option maxRecDepth 100000 in
theorem rget8_t (now : Int) (p : Option Addr) (n cap : Nat) (ts : List Tim) (pa : Option Addr) (na ca : Nat) (rs : List Alm) (k : Int) (w : World)
 (hts : Sv w p ts) (hn : n = ts.length) (hb : n ≤ 1000)
 (hrs : Sv w pa rs) (hna : na = rs.length) (hba : na ≤ 1000)
 (hr : Ris Alm.vcpu rs) (hk1 : -1000 ≤ k) (hk2 : k ≤ 1000)
 : Calls Try.prog 19 #[.agg #[.int .i64 now, .slice p n cap, .slice pa na ca], .int .i64 k] w fun e w' => e = .returned (rgV ts rs k) ∧ Below w.heap.size w w' := by
 refine enter (Hs.start w) Try.func19 rfl Try.ntmps19 rfl (sq_ (ma0 [] [1] (fun γ1 => [(2, .pointer (some ⟨γ1 0, 0, none⟩)), (4, .pointer (some ⟨γ1 1, 0, none⟩))]) (fun γ1 L => bx (γ1 1) (#[.int .i64 0, .int .i64 0, .int .i64 0]) 47 :: bx (γ1 0) (#[.int .i64 now, .slice p n cap, .slice pa na ca]) 27 :: L) (fun γ1 => ds_ (sq_ (ao_ (qo0 2 [(0, .go (owns 1 0 3))] [1, 2, 4] [(8, .agg #[.int .i64 now, .slice p n cap, .slice pa na ca]), (9, .int .i64 k)] ?_))))))
 rcases ha3 : getK Alm.vcpu rs k with _ | z3
 ·
  refine cD (.int .i64 (-1)) Try.call45 (fun w hw => by have := rfind_t now p n cap ts pa na ca rs k w (hts.kept hw.below) hn (by omega) (hrs.kept hw.below) hna (by omega); rw [fd_none ha3] at this; exact this) (qo0 1 [] [1, 2, 4] [(7, .int .i64 (-1))] (on_ (ds_ (sq_ (sq_ (qa0 [] [1, 2, 4, 7] [(12, .bool true)] (ds_ (t_ (sq_ (qa0 [(1, .go (owns 0 0 3))] [4] [(5, .int .i64 0), (6, .bool false)] (ds_ (rt (owns 0 0 3) (.tuple #[.agg #[.int .i64 0, .int .i64 0, .int .i64 0], .int .i64 0, .bool false]) ?_))))))))))))
  exact fun w' hw => ⟨by rw [rg_none ha3], hw.below⟩
 ·
  obtain ⟨i7, hi7, hx7⟩ := fd_some hr ha3
  have hl7 := (List.getElem?_eq_some_iff.1 hx7).1
  refine cD (.int .i64 ((i7 : Nat))) Try.call45 (fun w hw => by have := rfind_t now p n cap ts pa na ca rs k w (hts.kept hw.below) hn (by omega) (hrs.kept hw.below) hna (by omega); rw [hi7] at this; exact this) (qo0 1 [] [1, 2, 4] [(7, .int .i64 ((i7 : Nat)))] (on_ (ds_ (sq_ (sq_ (qa [(1, .no)] [1, 2, 4, 7] [(12, .bool false)] ([¬ (((i7 : Nat) : Int) < (0 : Int))]) (al1 ((by omega))) (ds_ (f_ (at_skip (ds_ (sq_ ?_)))))))))))
  obtain ⟨b11, o11, rfl⟩ := hrs.pos (i := i7) (by omega)
  refine at_calmTo (f := 3) 10 rfl (by kernel_rfl) (by kernel_rfl) (by kernel_rfl) (by kernel_rfl) (by kernel_rfl) (by kernel_rfl) ?_
  refine cm 9 [(1, .go (owns 1 2 1)), (3, .at b11 o11 i7), (4, .go (outs b11 (o11 + i7 * 3) [.int .i64 z3.vcpu, .int .i64 z3.port, .int .i64 z3.every])), (6, .go (owns 1 0 2)), (8, .fit)] [4] [(18, .agg #[.int .i64 z3.vcpu, .int .i64 z3.port, .int .i64 z3.every]), (20, .agg #[.int .i64 now, .slice p n cap]), (22, .int .i64 (k - 1))] ([(some ⟨b11, o11, none⟩ : Option Addr) = some ⟨b11, o11, none⟩, ((i7 : Nat)) = ((i7 : Nat) : Int), i7 < na] ++ (cellsP w b11 (o11 + i7 * 3) [.int .i64 z3.vcpu, .int .i64 z3.port, .int .i64 z3.every] ++ ([Fit .i64 (k - 1)]))) (by kernel_rfl) rfl (alA (al2 rfl (al2 rfl (al1 (by omega)))) (alA (rd_pre (hrs.get hx7) _ rfl) (al1 (fit64 (by omega) (by omega))))) ?_
  refine cK (.int .i64 (atR ts (k - 1))) Try.call44 (fun w hw => rat_t now p n cap ts (k - 1) w (hts.kept hw.below) hn (by omega)) ?_
  refine calm_nil' ?_
  refine done_pre (li' := #[true, true, true, true, true, true, true, true, true, true, false, false, false]) (by kernel_rfl) ?_
  refine any_cutX (V := Unit) (fun _ => True) 0 #[true, true, true, true, true, true, true, true, true, true, true, true, true] (fun _ => [(4, .pointer (some ⟨γ1 1, 0, none⟩)), (5, .int .i64 (atR ts (k - 1))), (6, .bool true)]) (fun _ => [bx (γ1 1) (#[.int .i64 z3.vcpu, .int .i64 z3.port, .int .i64 z3.every]) 47, bx (γ1 0) (#[.int .i64 now, .slice p n cap, .slice (some ⟨b11, o11, none⟩) na ca]) 27]) ?_ (fun hmx1 => ?_)
  rotate_left
  ·
   refine a1 10 rfl ?_
   refine mo0 1 [(10, .go (owns 0 0 3))] [4, 23] (fun _ => []) (fun _ L => (L.set 0 (bx (γ1 1) (#[.int .i64 z3.vcpu, .int .i64 z3.port, .int .i64 z3.every]) 47))) (fun _ => ?_)
   refine od_ ?_
   refine tk (m := 0) [11, 12] [] [4] [(5, .int .i64 (atR ts (k - 1))), (6, .bool true)] ([]) #[true, true, true, true, true, true, true, true, true, true, true, true, true] al0 ?_
   exact wk (hmx1 () trivial) [4, 5, 6] [[_], [_]] [0, 1] rfl rfl
  rintro _ _
  refine any_nil (by kernel_rfl) ?_
  refine ds_ (rt (owns 0 0 3) (.tuple #[.agg #[.int .i64 z3.vcpu, .int .i64 z3.port, .int .i64 z3.every], .int .i64 (atR ts (k - 1)), .bool true]) ?_)
  exact fun w' hw => ⟨by rw [rg_some ha3], hw.below⟩

set_option maxRecDepth 100000 in
theorem rsleeps8_t (now : Int) (p : Option Addr) (n cap : Nat) (ts : List Tim) (pa : Option Addr) (na ca : Nat) (rs : List Alm) (k : Int) (w : World)
 (hts : Sv w p ts) (hn : n = ts.length) (hb : n ≤ 1000)
 (hrs : Sv w pa rs) (hna : na = rs.length) (hba : na ≤ 1000)
 (hk1 : -1000 ≤ k) (hk2 : k ≤ 1000)
 : Calls Try.prog 20 #[.agg #[.int .i64 now, .slice p n cap, .slice pa na ca], .int .i64 k] w fun e w' => e = .returned (.int .i64 (rslV ts k)) ∧ Below w.heap.size w w' := by
 refine enter (Hs.start w) Try.func20 rfl Try.ntmps20 rfl (sq_ (ma0 [] [1] (fun γ1 => [(2, .pointer (some ⟨γ1 0, 0, none⟩))]) (fun γ1 L => bx (γ1 0) (#[.int .i64 now, .slice p n cap, .slice pa na ca]) 27 :: L) (fun γ1 => ds_ (sq_ (sq_ (ao_ (qo0 1 [] [1, 2] [(5, .int .i64 k)] ?_)))))))
 rcases q3 : vcB k with _ | _
 ·
  refine cD (.bool false) Try.call47 (fun w hw => by have := rvc_t k w; rw [q3] at this; exact this) (qo0 1 [] [1, 2] [(7, .bool true)] (on_ (ds_ (t_ (sq_ (qa0 [] [] [(4, .int .i64 0)] (ds_ (rt ([]) (.int .i64 0) ?_))))))))
  exact fun w' hw => ⟨by rw [rsl_no q3], hw.below⟩
 ·
  refine cD (.bool true) Try.call47 (fun w hw => by have := rvc_t k w; rw [q3] at this; exact this) (qo0 1 [] [1, 2] [(7, .bool false)] (on_ (ds_ (f_ (at_skip (ds_ (sq_ (ao_ (qo 5 [(1, .go (owns 0 0 2)), (3, .fit), (4, .fit)] [] [(9, .agg #[.int .i64 now, .slice p n cap]), (12, .int .i64 ((16 + k) - 1))] ([Fit .i64 (16 + k)] ++ ([Fit .i64 ((16 + k) - 1)])) (alA (al1 (fit64 (by omega) (by omega))) (al1 (fit64 (by omega) (by omega)))) (cD (.int .i64 (atR ts ((16 + k) - 1))) Try.call44 (fun w hw => rat_t now p n cap ts ((16 + k) - 1) w (hts.kept hw.below) hn (by omega)) (qo0 1 [] [] [(4, .int .i64 (atR ts ((16 + k) - 1)))] (on_ (ds_ (rt ([]) (.int .i64 (atR ts ((16 + k) - 1))) ?_))))))))))))))
  exact fun w' hw => ⟨by rw [rsl_ok q3, show 15 + k = 16 + k - 1 from by omega], hw.below⟩
end Go.Proofs.Ytdbamgbgnpadjaa

/-! Alarms: what stands after time has passed, number by number; plain. -/
namespace Go.Proofs.Ytdbamgbgnpadjaa
open Go Go.RowKit

section
variable {now k v at_ to nx : Int} {ts : List Tim} {rs : List Alm} {x y : Alm} {t : Tim} {j : Nat}
/-- What becomes of a timer that has fired. -/
def finT (to : Int) (rs : List Alm) (t : Tim) : Option Tim := if t.id < 16 then match getK Alm.vcpu rs (t.id + 1) with
  | some x => (nextA x t.due to).map fun nx => ⟨t.id, nx⟩
  | none => none
  else none
end
end Go.Proofs.Ytdbamgbgnpadjaa

/-! Alarms: by way of another time; plain. -/
namespace Go.Proofs.Ytdbamgbgnpadjaa
open Go Go.RowKit

section
variable {now k v at_ to nx one two : Int} {ts : List Tim} {rs : List Alm} {x y : Alm} {t : Tim} {j : Nat}
/-- How often one has rung: those that were missed counted. -/
def wgt (v p : Int) (r : Rng) : Int := if r.vcpu = v ∧ r.port = p then 1 + r.missed else 0
def cntR (l : List Rng) (v p : Int) : Int := (l.map (wgt v p)).sum
end
end Go.Proofs.Ytdbamgbgnpadjaa

/-! The walker: maps of one's own whose keys are asked (arrays, structs). -/
namespace Go.Proofs.Ytdbamgbgnpadjaa
open Go Go.RowKit

structure MapKs {K β : Type} (G : K → Prop) (κ : K → Value) (enc : β → Value) (es : Array MapEntry) (D : List (K × β)) : Prop where
  good : ∀ p ∈ D, G p.1
  keys : es.toList.map (fun e => (e.key, e.val)) = D.map fun p => (κ p.1, enc p.2)
theorem MapKs.nil {K β : Type} {G : K → Prop} {κ : K → Value} {enc : β → Value} : MapKs G κ enc #[] ([] : List (K × β)) := ⟨fun _ h => (by cases h), rfl⟩
theorem MapKs.size {K β : Type} {G : K → Prop} {κ : K → Value} {enc : β → Value} {es : Array MapEntry} {D : List (K × β)} (h : MapKs G κ enc es D) : es.size = D.length := by
  have := congrArg List.length h.keys
  simpa using this
section
variable {K β : Type} [DecidableEq K]
def kget : List (K × β) → K → Option β
  | [], _ => none
  | p :: D, k => if p.1 = k then some p.2 else kget D k
def kupd : List (K × β) → K → β → List (K × β)
  | [], k, v => [(k, v)]
  | p :: D, k, v => if p.1 = k then (k, v) :: D else p :: kupd D k v
/-- What is known of a type of keys. -/
structure KeyOk (P : Program) (kt : TypeId) (G : K → Prop) (κ : K → Value) : Prop where
  chk : ∀ (e : Bool) (k : K) (w : World), G k → (Instr.checkKey e 10000 kt (κ k)).run P w = .ok () w
  eq : ∀ (a b : K) (w : World), G a → G b → (Op.equal kt (κ a) (κ b)).run P w = .ok (decide (a = b)) w
  now : ∃ d, P.underlying kt = some d ∧ ∀ a b, Instr.sameNow d (κ a) (κ b) = none
  stays : ∀ (k : K) (w : World), G k → (Instr.keyThatStays (κ k) (κ k)).run P w = .ok (κ k) w
variable {P : Program} {w : World} {kt : TypeId} {G : K → Prop} {κ : K → Value} {enc : β → Value} {es : Array MapEntry} {D : List (K × β)} {k : K} {v : β} {ck : Nat}
variable {t et : TypeId} {r : Nat}
end
section
variable {E : Env} {k : List Fr} {l : Sl} {L : List Ob} {all os : List Oper} {o : Oper} {i : Nat} {K β : Type} [DecidableEq K] {G : K → Prop} {κ : K → Value} {enc : β → Value} {es : Array MapEntry} {ck : Nat} {D : List (K × β)}
/-- A map's type, asked by the kernel. -/
def mapK (P : Program) (t kt : TypeId) (z : Value) : Prop := ∃ et, P.underlying t = some (.map kt et) ∧ (P.info? et).bind (fun i => i.zero) = some z
end
end Go.Proofs.Ytdbamgbgnpadjaa

/-! Alarms: the rings' order; plain. -/
namespace Go.Proofs.Ytdbamgbgnpadjaa
open Go Go.RowKit

section
variable {now k v at_ to nx : Int} {ts : List Tim} {rs : List Alm} {x y : Alm} {t : Tim} {i j : Nat} {r r' : Rng}
/-- Whose rings have been met. -/
def keyR (r : Rng) : Int × Int := (r.vcpu, min r.port 1)
def metL (l : List Rng) : List ((Int × Int) × Bool) := l.foldl (fun D r => kupd D (keyR r) true) []
def spV (s : Int) : Int := if s < 0 then 0 else Int.tmod s 1099511627776
theorem nextV_dec (h : wheelB now ts = true) : nextV now ts = .tuple #[.int .i64 (leastV ts), .bool (decide (ts ≠ []))] := by
  by_cases e : ts = []
  · subst e; rw [nextV_nil rfl]; rfl
  · rw [nextV_okd h e, decide_eq_true e]
theorem atV_is (o : Option Tim) : atV o = .tuple #[.int .i64 ((o.map Tim.due).getD 0), .bool o.isSome] := by cases o <;> rfl
def gaX (o : Option (Alm × Int)) : Alm := (o.map (·.1)).getD ⟨0, 0, 0⟩
def gaD (o : Option (Alm × Int)) : Int := (o.map (·.2)).getD 0
theorem gaV_is (o : Option (Alm × Int)) : gaV o = .tuple #[.agg #[.int .i64 (gaX o).vcpu, .int .i64 (gaX o).port, .int .i64 (gaX o).every], .int .i64 (gaD o), .bool o.isSome] := by cases o <;> rfl
end
end Go.Proofs.Ytdbamgbgnpadjaa

/-! Alarms: what the laws are handed; plain. -/
namespace Go.Proofs.Ytdbamgbgnpadjaa
open Go Go.RowKit

/-- Alarms in a row of such. -/
structure AlsA where
  now : Int
  p : Option Addr
  n : Nat
  cap : Nat
  ts : List Tim
  pa : Option Addr
  na : Nat
  ca : Nat
  rs : List Alm
def AlsA.enc (x : AlsA) : List Value := [.int .i64 x.now, .slice x.p x.n x.cap, .slice x.pa x.na x.ca]
instance : Enc AlsA := ⟨AlsA.enc, 3, fun _ => rfl, fun x v h => by simp [AlsA.enc] at h; rcases h with rfl | rfl | rfl <;> rfl, by decide⟩
structure AlsA.Reads (w : World) (x : AlsA) : Prop where
  ht : Sv w x.p x.ts
  hn : x.n = x.ts.length
  hc : x.n ≤ x.cap
  hb : x.cap ≤ 9223372036854775807
  ha : Sv w x.pa x.rs
  hna : x.na = x.rs.length
  hca : x.na ≤ x.ca
  hba : x.ca ≤ 9223372036854775807
section
variable {now k v : Int} {ts : List Tim} {rs : List Alm} {x : Alm} {t : Tim}
theorem rgV_is (g : alB now ts rs = true) : rgV ts rs k = gaV (getA now ts rs k) := by
  cases e : getK Alm.vcpu rs k with
  | none => rw [rg_none e, getA_none g e]; rfl
  | some x =>
    obtain ⟨y, hy⟩ := lk_some g e
    rw [rg_some e, atR_some hy, getA_some g e hy]; rfl
theorem rsl_is (g : alB now ts rs = true) : rslV ts k = ((slpO now ts rs k).map Tim.due).getD 0 := by
  cases e : vcB k with
  | false => rw [rsl_no e, slpO_arg e]; rfl
  | true =>
    rw [rsl_ok e, slpO_ok g e]
    cases e2 : getK Tim.id ts (15 + k) with
    | none => rw [atR_none e2]; rfl
    | some y => rw [atR_some e2]; rfl
theorem slp_pos (g : alB now ts rs = true) : (slpO now ts rs k).isSome = decide ((((slpO now ts rs k).map Tim.due).getD 0 : Int) > (0 : Int)) := by
  cases e : slpO now ts rs k with
  | none => rfl
  | some y =>
    have ga := al_iff.1 g
    have hm : y ∈ ts := by
      unfold slpO at e
      split at e
      · exact (getK_mem e).1
      · cases e
    have h1 := ga.gw.tm y hm
    have h2 := ga.gw.n0
    simp only [Option.isSome_some, Option.map_some, Option.getD_some]
    exact (decide_eq_true (by omega)).symm
theorem atV_slp (g : alB now ts rs = true) : atV (slpO now ts rs k) = .tuple #[.int .i64 (((slpO now ts rs k).map Tim.due).getD 0), .bool (decide ((((slpO now ts rs k).map Tim.due).getD 0 : Int) > (0 : Int)))] := by
  rw [atV_is, slp_pos g]
theorem nextV_pos (g : wheelB now ts = true) : nextV now ts = .tuple #[.int .i64 (leastV ts), .bool (decide ((leastV ts : Int) > (0 : Int)))] := by
  rw [nextV_dec g]
  have h := least_pos (due_pos g)
  have : decide (ts ≠ []) = decide ((leastV ts : Int) > (0 : Int)) := decide_eq_decide.2 ⟨fun a => h.2 a, fun a => h.1 a⟩
  rw [this]
end
end Go.Proofs.Ytdbamgbgnpadjaa

/-! The statement VtimerTells, walked. -/
namespace Go.Proofs.Ytdbamgbgnpadjaa
open Go Go.RowKit

set_option maxHeartbeats 1000000 in
set_option maxRecDepth 100000 in
theorem tells8_law (q : Option Addr) (m cap2 : Nat) (al : List AlsA) (w : World)
 (hal : Sv w q al) (hma : m = al.length) (hbig2 : m ≤ 9223372036854775807)
 (hnm : ∀ x ∈ al, x.Reads w)
 : Calls Try.prog 5 #[.slice q m cap2] w fun e w' => e = .returned (.bool true) ∧ Below w.heap.size w w' := by
 refine enter (Hs.start w) Try.func5 rfl Try.ntmps5 rfl (sq_ (qa0 [] [0] [] (ds_ (sq_ (sq_ (ao_ (cD (.bool true) Try.call7 (fun w hw => awakes_t w) (qo0 1 [] [0] [(23, .bool false)] (on_ (ds_ (f_ (at_skip (ds_ (sq_ (sq_ (qa0 [] [0] [(24, .slice q m cap2), (25, .int .i64 ((m : Nat))), (26, .int .i64 0)] (ds_ (at_block (at_loop (α := Nat) [0, 24, 25, 26] (fun j26 => [(0, .slice q m cap2), (24, .slice q m cap2), (25, .int .i64 ((m : Nat))), (26, .int .i64 ((j26 : Nat)))]) (fun j26 => []) (fun j26 => j26 ≤ m) (fun j26 => m - j26) 0 (by kernel_rfl) rfl (Nat.zero_le _) ?_)))))))))))))))))))
 rintro j26
 rintro hj26
 refine sq_ ?_
 by_cases q6 : ((j26 : Nat) : Int) < ((m : Nat) : Int)
 ·
  refine qa [(0, .yes)] [0, 24, 25, 26] [(27, .bool true)] ([((j26 : Nat) : Int) < ((m : Nat) : Int)]) (al1 q6) (ds_ (sq_ (t_ (at_skip (ds_ (sq_ (at_block (sq_ ?_))))))))
  obtain ⟨b9, o9, rfl⟩ := hal.pos (i := j26) (by omega)
  obtain ⟨x11, hx11⟩ := get_some (l := al) (m := j26) (by omega)
  obtain ⟨htx11, hnx11, hcx11, hbx11, hax11, hnax11, hcax11, hbax11⟩ := hnm x11 (List.mem_of_getElem? hx11)
  refine ma [(1, .at b9 o9 j26), (2, .go (outs b9 (o9 + j26 * 3) [.int .i64 x11.now, .slice x11.p x11.n x11.cap, .slice x11.pa x11.na x11.ca])), (5, .go (owns 0 0 3))] [0, 24, 25, 26] (fun γ12 => [(3, .int .i64 ((j26 : Nat))), (4, .pointer (some ⟨γ12 0, 0, none⟩))]) (fun γ12 L => bx (γ12 0) (#[.int .i64 x11.now, .slice x11.p x11.n x11.cap, .slice x11.pa x11.na x11.ca]) 27 :: L) (fun γ12 => [(some ⟨b9, o9, none⟩ : Option Addr) = some ⟨b9, o9, none⟩, ((j26 : Nat)) = ((j26 : Nat) : Int), j26 < m] ++ (cellsP w b9 (o9 + j26 * 3) [.int .i64 x11.now, .slice x11.p x11.n x11.cap, .slice x11.pa x11.na x11.ca])) (fun γ12 => (alA (al2 rfl (al2 rfl (al1 (by omega)))) (rd_pre (hal.get hx11) _ rfl))) (fun γ12 => ds_ (sq_ (sq_ ?_)))
  by_cases q14 : ((j26 : Nat) : Int) = (8 : Int)
  ·
   refine qa [(1, .yes)] [0, 4, 24, 25, 26] [(32, .bool true)] ([((j26 : Nat) : Int) = (8 : Int)]) (al1 q14) (ds_ (t_ (at_leave _ rfl (ds_ (sq_ (qa0 [] [] [(2, .bool true)] (ds_ (rt ([]) (.bool true) ?_))))))))
   exact fun w' hw => ⟨rfl, hw.below⟩
  ·
   refine qa [(1, .no)] [0, 4, 24, 25, 26] [(32, .bool false)] ([¬ (((j26 : Nat) : Int) = (8 : Int))]) (al1 q14) (ds_ (f_ (at_skip (ds_ (sq_ ?_)))))
   obtain ⟨x18, hx18⟩ := get_some (l := al) (m := 0) (by omega)
   obtain ⟨htx18, hnx18, hcx18, hbx18, hax18, hnax18, hcax18, hbax18⟩ := hnm x18 (List.mem_of_getElem? hx18)
   refine at_any (by kernel_rfl) ?_
   refine tk (m := 8) [2, 3] [(3, .at b9 o9 0)] [0, 4, 24, 25, 26] [(36, .pointer (some ⟨b9, o9 + 0 * 3, none⟩))] ([(some ⟨b9, o9, none⟩ : Option Addr) = some ⟨b9, o9, none⟩, 0 = ((0 : Nat) : Int), 0 < m]) #[false, false, true, true, false, false, false, false, false, false] (al2 rfl (al2 rfl (al1 (by omega)))) ?_
   refine any_cutX (V := (List Ob) × (List Ob) × (List Ob) × (List Ob) × (Nat) × (Nat) × (Nat) × (Nat) × (Nat) × (Nat) × (Nat) × (Nat) × (Option Addr) × (Option Addr) × (Option Addr) × (Option Addr) × (Nat → Nat) × (Nat → Nat)) (fun ⟨Y122, Y42, Yx122, Yx42, c122, c42, d122, d42, k122, k42, m122, m42, p122, p42, q122, q42, γ142, γ162⟩ => SlO 88 Y122 q122 m122 c122 (shT x18.ts) ∧ SlO 88 Y42 q42 m42 c42 (shT x11.ts) ∧ SlO 47 Yx122 p122 k122 d122 (shR x18.rs) ∧ SlO 47 Yx42 p42 k42 d42 (shR x11.rs)) 0 #[true, true, true, true, true, true, true, true, true, true] (fun ⟨Y122, Y42, Yx122, Yx42, c122, c42, d122, d42, k122, k42, m122, m42, p122, p42, q122, q42, γ142, γ162⟩ => [(0, .slice (some ⟨b9, o9, none⟩) m cap2), (4, .pointer (some ⟨γ12 0, 0, none⟩)), (5, .pointer (some ⟨γ142 0, 0, none⟩)), (6, .pointer (some ⟨γ162 0, 0, none⟩)), (24, .slice (some ⟨b9, o9, none⟩) m cap2), (25, .int .i64 ((m : Nat))), (26, .int .i64 ((j26 : Nat)))]) (fun ⟨Y122, Y42, Yx122, Yx42, c122, c42, d122, d42, k122, k42, m122, m42, p122, p42, q122, q42, γ142, γ162⟩ => bx (γ162 0) (#[.int .i64 x18.now, .slice q122 m122 c122, .slice p122 k122 d122]) 27 :: bx (γ142 0) (#[.int .i64 x11.now, .slice q42 m42 c42, .slice p42 k42 d42]) 27 :: bx (γ12 0) (#[.int .i64 x11.now, .slice x11.p x11.n x11.cap, .slice x11.pa x11.na x11.ca]) 27 :: (Y122 ++ (Y42 ++ (Yx122 ++ (Yx42 ++ []))))) ?_ (fun hmx29 => ?_)
   rotate_left
   ·
    refine any_cutX (V := (List Ob) × (List Ob) × (List Ob) × (List Ob) × (Nat) × (Nat) × (Nat) × (Nat) × (Nat) × (Nat) × (Nat) × (Nat) × (Option Addr) × (Option Addr) × (Option Addr) × (Option Addr) × (Nat → Nat) × (Nat → Nat)) (fun ⟨Y122, Y42, Yx122, Yx42, c122, c42, d122, d42, k122, k42, m122, m42, p122, p42, q122, q42, γ142, γ162⟩ => SlO 88 Y122 q122 m122 c122 (shT x18.ts) ∧ SlO 88 Y42 q42 m42 c42 (shT x11.ts) ∧ SlO 47 Yx122 p122 k122 d122 (shR x18.rs) ∧ SlO 47 Yx42 p42 k42 d42 (shR x11.rs)) 1 #[true, true, true, true, true, true, true, true, true, false] (fun ⟨Y122, Y42, Yx122, Yx42, c122, c42, d122, d42, k122, k42, m122, m42, p122, p42, q122, q42, γ142, γ162⟩ => [(0, .slice (some ⟨b9, o9, none⟩) m cap2), (4, .pointer (some ⟨γ12 0, 0, none⟩)), (5, .pointer (some ⟨γ142 0, 0, none⟩)), (6, .pointer (some ⟨γ162 0, 0, none⟩)), (24, .slice (some ⟨b9, o9, none⟩) m cap2), (25, .int .i64 ((m : Nat))), (26, .int .i64 ((j26 : Nat))), (38, .agg #[.int .i64 x18.now, .slice q122 m122 c122, .slice p122 k122 d122])]) (fun ⟨Y122, Y42, Yx122, Yx42, c122, c42, d122, d42, k122, k42, m122, m42, p122, p42, q122, q42, γ142, γ162⟩ => bx (γ162 0) (#[.int .i64 0, .slice none 0 0, .slice none 0 0]) 27 :: bx (γ142 0) (#[.int .i64 x11.now, .slice q42 m42 c42, .slice p42 k42 d42]) 27 :: bx (γ12 0) (#[.int .i64 x11.now, .slice x11.p x11.n x11.cap, .slice x11.pa x11.na x11.ca]) 27 :: (Y122 ++ (Y42 ++ (Yx122 ++ (Yx42 ++ []))))) ?_ (fun hmx28 => ?_)
    ·
     rintro ⟨Y122, Y42, Yx122, Yx42, c122, c42, d122, d42, k122, k42, m122, m42, p122, p42, q122, q42, γ142, γ162⟩ ⟨hO122, hO42, hP122, hP42⟩
     refine a1 9 rfl ?_
     refine mo0 1 [(9, .go (owns 0 0 3))] [0, 4, 5, 6, 24, 25, 26] (fun _ => []) (fun _ L => (L.set 0 (bx (γ162 0) (#[.int .i64 x18.now, .slice q122 m122 c122, .slice p122 k122 d122]) 27))) (fun _ => ?_)
     refine od_ ?_
     exact wk (hmx29 (Y122, Y42, Yx122, Yx42, c122, c42, d122, d42, k122, k42, m122, m42, p122, p42, q122, q42, γ142, γ162) ⟨hO122, hO42, hP122, hP42⟩) [0, 4, 5, 6, 24, 25, 26] [[_], [_], [_], _, _, _, _] [0, 1, 2, 3, 4, 5, 6] rfl rfl
    refine any_cutX (V := (List Ob) × (List Ob) × (List Ob) × (List Ob) × (Nat) × (Nat) × (Nat) × (Nat) × (Nat) × (Nat) × (Nat) × (Nat) × (Option Addr) × (Option Addr) × (Option Addr) × (Option Addr) × (Nat → Nat) × (Nat → Nat)) (fun ⟨Y122, Y42, Yx122, Yx42, c122, c42, d122, d42, k122, k42, m122, m42, p122, p42, q122, q42, γ142, γ162⟩ => SlO 88 Y122 q122 m122 c122 (shT x18.ts) ∧ SlO 88 Y42 q42 m42 c42 (shT x11.ts) ∧ SlO 47 Yx122 p122 k122 d122 (shR x18.rs) ∧ SlO 47 Yx42 p42 k42 d42 (shR x11.rs)) 2 #[true, true, true, true, true, true, true, true, false, false] (fun ⟨Y122, Y42, Yx122, Yx42, c122, c42, d122, d42, k122, k42, m122, m42, p122, p42, q122, q42, γ142, γ162⟩ => [(0, .slice (some ⟨b9, o9, none⟩) m cap2), (4, .pointer (some ⟨γ12 0, 0, none⟩)), (5, .pointer (some ⟨γ142 0, 0, none⟩)), (6, .pointer (some ⟨γ162 0, 0, none⟩)), (24, .slice (some ⟨b9, o9, none⟩) m cap2), (25, .int .i64 ((m : Nat))), (26, .int .i64 ((j26 : Nat))), (34, .agg #[.int .i64 x11.now, .slice q42 m42 c42, .slice p42 k42 d42]), (38, .agg #[.int .i64 x18.now, .slice q122 m122 c122, .slice p122 k122 d122])]) (fun ⟨Y122, Y42, Yx122, Yx42, c122, c42, d122, d42, k122, k42, m122, m42, p122, p42, q122, q42, γ142, γ162⟩ => bx (γ162 0) (#[.int .i64 0, .slice none 0 0, .slice none 0 0]) 27 :: bx (γ142 0) (#[.int .i64 0, .slice none 0 0, .slice none 0 0]) 27 :: bx (γ12 0) (#[.int .i64 x11.now, .slice x11.p x11.n x11.cap, .slice x11.pa x11.na x11.ca]) 27 :: (Y122 ++ (Y42 ++ (Yx122 ++ (Yx42 ++ []))))) ?_ (fun hmx27 => ?_)
    ·
     rintro ⟨Y122, Y42, Yx122, Yx42, c122, c42, d122, d42, k122, k42, m122, m42, p122, p42, q122, q42, γ142, γ162⟩ ⟨hO122, hO42, hP122, hP42⟩
     refine a1 8 rfl ?_
     refine mo0 1 [(8, .go (owns 1 0 3))] [0, 4, 5, 6, 24, 25, 26, 38] (fun _ => []) (fun _ L => (L.set 1 (bx (γ142 0) (#[.int .i64 x11.now, .slice q42 m42 c42, .slice p42 k42 d42]) 27))) (fun _ => ?_)
     refine od_ ?_
     exact wk (hmx28 (Y122, Y42, Yx122, Yx42, c122, c42, d122, d42, k122, k42, m122, m42, p122, p42, q122, q42, γ142, γ162) ⟨hO122, hO42, hP122, hP42⟩) [0, 4, 5, 6, 24, 25, 26, 38] [[_], [_], [_], _, _, _, _] [0, 1, 2, 3, 4, 5, 6] rfl rfl
    refine any_cutX (V := (List Ob) × (List Ob) × (Nat) × (Nat) × (Nat) × (Nat) × (Option Addr) × (Option Addr) × (Nat → Nat) × (Nat → Nat)) (fun ⟨Y42, Yx42, c42, d42, k42, m42, p42, q42, γ142, γ162⟩ => SlO 88 Y42 q42 m42 c42 (shT x11.ts) ∧ SlO 47 Yx42 p42 k42 d42 (shR x11.rs)) 3 #[true, true, true, true, true, false, true, true, false, false] (fun ⟨Y42, Yx42, c42, d42, k42, m42, p42, q42, γ142, γ162⟩ => [(0, .slice (some ⟨b9, o9, none⟩) m cap2), (4, .pointer (some ⟨γ12 0, 0, none⟩)), (5, .pointer (some ⟨γ142 0, 0, none⟩)), (6, .pointer (some ⟨γ162 0, 0, none⟩)), (24, .slice (some ⟨b9, o9, none⟩) m cap2), (25, .int .i64 ((m : Nat))), (26, .int .i64 ((j26 : Nat))), (34, .agg #[.int .i64 x11.now, .slice q42 m42 c42, .slice p42 k42 d42]), (37, .agg #[.int .i64 x18.now, .slice x18.p x18.n x18.cap, .slice x18.pa x18.na x18.ca])]) (fun ⟨Y42, Yx42, c42, d42, k42, m42, p42, q42, γ142, γ162⟩ => bx (γ162 0) (#[.int .i64 0, .slice none 0 0, .slice none 0 0]) 27 :: bx (γ142 0) (#[.int .i64 0, .slice none 0 0, .slice none 0 0]) 27 :: bx (γ12 0) (#[.int .i64 x11.now, .slice x11.p x11.n x11.cap, .slice x11.pa x11.na x11.ca]) 27 :: (Y42 ++ (Yx42 ++ []))) ?_ (fun hmx26 => ?_)
    ·
     rintro ⟨Y42, Yx42, c42, d42, k42, m42, p42, q42, γ142, γ162⟩ ⟨hO42, hP42⟩
     refine a1 5 rfl ?_
     refine cP (fun v L' => ∃ q_ m_ c_ Y_ q2_ m2_ c2_ X_, v = .agg #[.int .i64 x18.now, .slice q_ m_ c_, .slice q2_ m2_ c2_] ∧ L' = List.take 3 (bx (γ162 0) (#[.int .i64 0, .slice none 0 0, .slice none 0 0]) 27 :: bx (γ142 0) (#[.int .i64 0, .slice none 0 0, .slice none 0 0]) 27 :: bx (γ12 0) (#[.int .i64 x11.now, .slice x11.p x11.n x11.cap, .slice x11.pa x11.na x11.ca]) 27 :: (Y42 ++ (Yx42 ++ []))) ++ (Y_ ++ (X_ ++ List.drop 3 (bx (γ162 0) (#[.int .i64 0, .slice none 0 0, .slice none 0 0]) 27 :: bx (γ142 0) (#[.int .i64 0, .slice none 0 0, .slice none 0 0]) 27 :: bx (γ12 0) (#[.int .i64 x11.now, .slice x11.p x11.n x11.cap, .slice x11.pa x11.na x11.ca]) 27 :: (Y42 ++ (Yx42 ++ []))))) ∧ SlO 88 Y_ q_ m_ c_ (shT x18.ts) ∧ SlO 47 X_ q2_ m2_ c2_ (shR x18.rs)) Try.call8 (fun w hw => (short_t x18.now x18.p x18.n x18.cap x18.ts x18.pa x18.na x18.ca x18.rs w (htx18.kept hw.below) hnx18 (by omega) (by omega) (hax18.kept hw.below) hnax18 (by omega) (by omega)).mono fun e w' ⟨q_, m_, c_, Y_, q2_, m2_, c2_, X_, he, h1, h2, hb, hY⟩ => ⟨_, _, he, ⟨q_, m_, c_, Y_, q2_, m2_, c2_, X_, rfl, rfl, h1, h2⟩, hw.joinT hb hY 3⟩) ?_
     rintro v122 L122 ⟨q122, m122, c122, Y122, p122, k122, d122, Yx122, rfl, rfl, hO122, hP122⟩
     have hm122 := hO122.len
     have hn122 := hP122.len
     have hsh122 := shT_len (ts := x18.ts)
     have hsr122 := shR_len (rs := x18.rs)
     refine od_ ?_
     exact wk (hmx27 (Y122, Y42, Yx122, Yx42, c122, c42, d122, d42, k122, k42, m122, m42, p122, p42, q122, q42, γ142, γ162) ⟨hO122, hO42, hP122, hP42⟩) [0, 4, 5, 6, 24, 25, 26, 34, 38] [[_], [_], [_], _, _, _, _] [0, 1, 2, 3, 5, 4, 6] rfl rfl
    refine any_cutX (V := (List Ob) × (List Ob) × (List Ob) × (List Ob) × (Nat) × (Nat) × (Nat) × (Nat) × (Nat) × (Nat) × (Nat) × (Nat) × (Option Addr) × (Option Addr) × (Option Addr) × (Option Addr) × (Nat → Nat)) (fun ⟨Y122, Y42, Yx122, Yx42, c122, c42, d122, d42, k122, k42, m122, m42, p122, p42, q122, q42, γ162⟩ => SlO 88 Y122 q122 m122 c122 (shT x18.ts) ∧ SlO 88 Y42 q42 m42 c42 (shT x11.ts) ∧ SlO 47 Yx122 p122 k122 d122 (shR x18.rs) ∧ SlO 47 Yx42 p42 k42 d42 (shR x11.rs)) 3 #[true, true, true, true, true, true, false, true, false, false] (fun ⟨Y122, Y42, Yx122, Yx42, c122, c42, d122, d42, k122, k42, m122, m42, p122, p42, q122, q42, γ162⟩ => [(0, .slice (some ⟨b9, o9, none⟩) m cap2), (4, .pointer (some ⟨γ12 0, 0, none⟩)), (6, .pointer (some ⟨γ162 0, 0, none⟩)), (24, .slice (some ⟨b9, o9, none⟩) m cap2), (25, .int .i64 ((m : Nat))), (26, .int .i64 ((j26 : Nat))), (34, .agg #[.int .i64 x11.now, .slice q42 m42 c42, .slice p42 k42 d42]), (38, .agg #[.int .i64 x18.now, .slice q122 m122 c122, .slice p122 k122 d122])]) (fun ⟨Y122, Y42, Yx122, Yx42, c122, c42, d122, d42, k122, k42, m122, m42, p122, p42, q122, q42, γ162⟩ => bx (γ162 0) (#[.int .i64 0, .slice none 0 0, .slice none 0 0]) 27 :: bx (γ12 0) (#[.int .i64 x11.now, .slice x11.p x11.n x11.cap, .slice x11.pa x11.na x11.ca]) 27 :: (Y122 ++ (Y42 ++ (Yx122 ++ (Yx42 ++ []))))) ?_ (fun hmx25 => ?_)
    ·
     rintro ⟨Y122, Y42, Yx122, Yx42, c122, c42, d122, d42, k122, k42, m122, m42, p122, p42, q122, q42, γ162⟩ ⟨hO122, hO42, hP122, hP42⟩
     refine a1 6 rfl ?_
     refine mo0 1 [] [0, 4, 6, 24, 25, 26, 34, 38] (fun γ142 => [(5, .pointer (some ⟨γ142 0, 0, none⟩))]) (fun γ142 L => bx (γ142 0) (#[.int .i64 0, .slice none 0 0, .slice none 0 0]) 27 :: L) (fun γ142 => ?_)
     refine od_ ?_
     exact wk (hmx27 (Y122, Y42, Yx122, Yx42, c122, c42, d122, d42, k122, k42, m122, m42, p122, p42, q122, q42, γ142, γ162) ⟨hO122, hO42, hP122, hP42⟩) [0, 4, 5, 6, 24, 25, 26, 34, 38] [[_], [_], [_], _, _, _, _] [1, 0, 2, 3, 4, 5, 6] rfl rfl
    refine any_cutX (V := (List Ob) × (List Ob) × (List Ob) × (List Ob) × (Nat) × (Nat) × (Nat) × (Nat) × (Nat) × (Nat) × (Nat) × (Nat) × (Option Addr) × (Option Addr) × (Option Addr) × (Option Addr) × (Nat → Nat)) (fun ⟨Y122, Y42, Yx122, Yx42, c122, c42, d122, d42, k122, k42, m122, m42, p122, p42, q122, q42, γ142⟩ => SlO 88 Y122 q122 m122 c122 (shT x18.ts) ∧ SlO 88 Y42 q42 m42 c42 (shT x11.ts) ∧ SlO 47 Yx122 p122 k122 d122 (shR x18.rs) ∧ SlO 47 Yx42 p42 k42 d42 (shR x11.rs)) 3 #[true, true, true, true, true, true, true, false, false, false] (fun ⟨Y122, Y42, Yx122, Yx42, c122, c42, d122, d42, k122, k42, m122, m42, p122, p42, q122, q42, γ142⟩ => [(0, .slice (some ⟨b9, o9, none⟩) m cap2), (4, .pointer (some ⟨γ12 0, 0, none⟩)), (5, .pointer (some ⟨γ142 0, 0, none⟩)), (24, .slice (some ⟨b9, o9, none⟩) m cap2), (25, .int .i64 ((m : Nat))), (26, .int .i64 ((j26 : Nat))), (34, .agg #[.int .i64 x11.now, .slice q42 m42 c42, .slice p42 k42 d42]), (38, .agg #[.int .i64 x18.now, .slice q122 m122 c122, .slice p122 k122 d122])]) (fun ⟨Y122, Y42, Yx122, Yx42, c122, c42, d122, d42, k122, k42, m122, m42, p122, p42, q122, q42, γ142⟩ => bx (γ142 0) (#[.int .i64 0, .slice none 0 0, .slice none 0 0]) 27 :: bx (γ12 0) (#[.int .i64 x11.now, .slice x11.p x11.n x11.cap, .slice x11.pa x11.na x11.ca]) 27 :: (Y122 ++ (Y42 ++ (Yx122 ++ (Yx42 ++ []))))) ?_ (fun hmx24 => ?_)
    ·
     rintro ⟨Y122, Y42, Yx122, Yx42, c122, c42, d122, d42, k122, k42, m122, m42, p122, p42, q122, q42, γ142⟩ ⟨hO122, hO42, hP122, hP42⟩
     refine a1 7 rfl ?_
     refine mo0 1 [] [0, 4, 5, 24, 25, 26, 34, 38] (fun γ162 => [(6, .pointer (some ⟨γ162 0, 0, none⟩))]) (fun γ162 L => bx (γ162 0) (#[.int .i64 0, .slice none 0 0, .slice none 0 0]) 27 :: L) (fun γ162 => ?_)
     refine od_ ?_
     exact wk (hmx27 (Y122, Y42, Yx122, Yx42, c122, c42, d122, d42, k122, k42, m122, m42, p122, p42, q122, q42, γ142, γ162) ⟨hO122, hO42, hP122, hP42⟩) [0, 4, 5, 6, 24, 25, 26, 34, 38] [[_], [_], [_], _, _, _, _] [0, 1, 2, 3, 4, 5, 6] rfl rfl
    refine any_cutX (V := (Nat → Nat) × (Nat → Nat)) (fun ⟨γ142, γ162⟩ => True) 4 #[true, false, true, true, true, false, true, true, false, false] (fun ⟨γ142, γ162⟩ => [(0, .slice (some ⟨b9, o9, none⟩) m cap2), (4, .pointer (some ⟨γ12 0, 0, none⟩)), (5, .pointer (some ⟨γ142 0, 0, none⟩)), (6, .pointer (some ⟨γ162 0, 0, none⟩)), (24, .slice (some ⟨b9, o9, none⟩) m cap2), (25, .int .i64 ((m : Nat))), (26, .int .i64 ((j26 : Nat))), (33, .agg #[.int .i64 x11.now, .slice x11.p x11.n x11.cap, .slice x11.pa x11.na x11.ca]), (37, .agg #[.int .i64 x18.now, .slice x18.p x18.n x18.cap, .slice x18.pa x18.na x18.ca])]) (fun ⟨γ142, γ162⟩ => [bx (γ162 0) (#[.int .i64 0, .slice none 0 0, .slice none 0 0]) 27, bx (γ142 0) (#[.int .i64 0, .slice none 0 0, .slice none 0 0]) 27, bx (γ12 0) (#[.int .i64 x11.now, .slice x11.p x11.n x11.cap, .slice x11.pa x11.na x11.ca]) 27]) ?_ (fun hmx23 => ?_)
    ·
     rintro ⟨γ142, γ162⟩ _
     refine a1 1 rfl ?_
     refine cP (fun v L' => ∃ q_ m_ c_ Y_ q2_ m2_ c2_ X_, v = .agg #[.int .i64 x11.now, .slice q_ m_ c_, .slice q2_ m2_ c2_] ∧ L' = List.take 3 ([bx (γ162 0) (#[.int .i64 0, .slice none 0 0, .slice none 0 0]) 27, bx (γ142 0) (#[.int .i64 0, .slice none 0 0, .slice none 0 0]) 27, bx (γ12 0) (#[.int .i64 x11.now, .slice x11.p x11.n x11.cap, .slice x11.pa x11.na x11.ca]) 27]) ++ (Y_ ++ (X_ ++ List.drop 3 ([bx (γ162 0) (#[.int .i64 0, .slice none 0 0, .slice none 0 0]) 27, bx (γ142 0) (#[.int .i64 0, .slice none 0 0, .slice none 0 0]) 27, bx (γ12 0) (#[.int .i64 x11.now, .slice x11.p x11.n x11.cap, .slice x11.pa x11.na x11.ca]) 27]))) ∧ SlO 88 Y_ q_ m_ c_ (shT x11.ts) ∧ SlO 47 X_ q2_ m2_ c2_ (shR x11.rs)) Try.call8 (fun w hw => (short_t x11.now x11.p x11.n x11.cap x11.ts x11.pa x11.na x11.ca x11.rs w (htx11.kept hw.below) hnx11 (by omega) (by omega) (hax11.kept hw.below) hnax11 (by omega) (by omega)).mono fun e w' ⟨q_, m_, c_, Y_, q2_, m2_, c2_, X_, he, h1, h2, hb, hY⟩ => ⟨_, _, he, ⟨q_, m_, c_, Y_, q2_, m2_, c2_, X_, rfl, rfl, h1, h2⟩, hw.joinT hb hY 3⟩) ?_
     rintro v42 L42 ⟨q42, m42, c42, Y42, p42, k42, d42, Yx42, rfl, rfl, hO42, hP42⟩
     have hm42 := hO42.len
     have hn42 := hP42.len
     have hsh42 := shT_len (ts := x11.ts)
     have hsr42 := shR_len (rs := x11.rs)
     refine od_ ?_
     exact wk (hmx26 (Y42, Yx42, c42, d42, k42, m42, p42, q42, γ142, γ162) ⟨hO42, hP42⟩) [0, 4, 5, 6, 24, 25, 26, 34, 37] [[_], [_], [_], _, _] [0, 1, 2, 3, 4] rfl rfl
    refine any_cutX (V := (List Ob) × (List Ob) × (Nat) × (Nat) × (Nat) × (Nat) × (Option Addr) × (Option Addr) × (Nat → Nat) × (Nat → Nat)) (fun ⟨Y42, Yx42, c42, d42, k42, m42, p42, q42, γ142, γ162⟩ => SlO 88 Y42 q42 m42 c42 (shT x11.ts) ∧ SlO 47 Yx42 p42 k42 d42 (shR x11.rs)) 4 #[true, true, true, true, false, false, true, true, false, false] (fun ⟨Y42, Yx42, c42, d42, k42, m42, p42, q42, γ142, γ162⟩ => [(0, .slice (some ⟨b9, o9, none⟩) m cap2), (4, .pointer (some ⟨γ12 0, 0, none⟩)), (5, .pointer (some ⟨γ142 0, 0, none⟩)), (6, .pointer (some ⟨γ162 0, 0, none⟩)), (24, .slice (some ⟨b9, o9, none⟩) m cap2), (25, .int .i64 ((m : Nat))), (26, .int .i64 ((j26 : Nat))), (34, .agg #[.int .i64 x11.now, .slice q42 m42 c42, .slice p42 k42 d42]), (36, .pointer (some ⟨b9, o9 + 0 * 3, none⟩))]) (fun ⟨Y42, Yx42, c42, d42, k42, m42, p42, q42, γ142, γ162⟩ => bx (γ162 0) (#[.int .i64 0, .slice none 0 0, .slice none 0 0]) 27 :: bx (γ142 0) (#[.int .i64 0, .slice none 0 0, .slice none 0 0]) 27 :: bx (γ12 0) (#[.int .i64 x11.now, .slice x11.p x11.n x11.cap, .slice x11.pa x11.na x11.ca]) 27 :: (Y42 ++ (Yx42 ++ []))) ?_ (fun hmx22 => ?_)
    ·
     rintro ⟨Y42, Yx42, c42, d42, k42, m42, p42, q42, γ142, γ162⟩ ⟨hO42, hP42⟩
     refine a1 4 rfl ?_
     refine qo 1 [(4, .go (outs b9 (o9 + 0 * 3) [.int .i64 x18.now, .slice x18.p x18.n x18.cap, .slice x18.pa x18.na x18.ca]))] [0, 4, 5, 6, 24, 25, 26, 34] [(37, .agg #[.int .i64 x18.now, .slice x18.p x18.n x18.cap, .slice x18.pa x18.na x18.ca])] (cellsP w b9 (o9 + 0 * 3) [.int .i64 x18.now, .slice x18.p x18.n x18.cap, .slice x18.pa x18.na x18.ca]) (rd_pre (hal.get hx18) _ rfl) ?_
     refine od_ ?_
     exact wk (hmx26 (Y42, Yx42, c42, d42, k42, m42, p42, q42, γ142, γ162) ⟨hO42, hP42⟩) [0, 4, 5, 6, 24, 25, 26, 34, 37] [[_], [_], [_], _, _] [0, 1, 2, 3, 4] rfl rfl
    refine any_cutX (V := (List Ob) × (List Ob) × (Nat) × (Nat) × (Nat) × (Nat) × (Option Addr) × (Option Addr) × (Nat → Nat)) (fun ⟨Y42, Yx42, c42, d42, k42, m42, p42, q42, γ162⟩ => SlO 88 Y42 q42 m42 c42 (shT x11.ts) ∧ SlO 47 Yx42 p42 k42 d42 (shR x11.rs)) 4 #[true, true, true, true, true, false, false, true, false, false] (fun ⟨Y42, Yx42, c42, d42, k42, m42, p42, q42, γ162⟩ => [(0, .slice (some ⟨b9, o9, none⟩) m cap2), (4, .pointer (some ⟨γ12 0, 0, none⟩)), (6, .pointer (some ⟨γ162 0, 0, none⟩)), (24, .slice (some ⟨b9, o9, none⟩) m cap2), (25, .int .i64 ((m : Nat))), (26, .int .i64 ((j26 : Nat))), (34, .agg #[.int .i64 x11.now, .slice q42 m42 c42, .slice p42 k42 d42]), (37, .agg #[.int .i64 x18.now, .slice x18.p x18.n x18.cap, .slice x18.pa x18.na x18.ca])]) (fun ⟨Y42, Yx42, c42, d42, k42, m42, p42, q42, γ162⟩ => bx (γ162 0) (#[.int .i64 0, .slice none 0 0, .slice none 0 0]) 27 :: bx (γ12 0) (#[.int .i64 x11.now, .slice x11.p x11.n x11.cap, .slice x11.pa x11.na x11.ca]) 27 :: (Y42 ++ (Yx42 ++ []))) ?_ (fun hmx21 => ?_)
    ·
     rintro ⟨Y42, Yx42, c42, d42, k42, m42, p42, q42, γ162⟩ ⟨hO42, hP42⟩
     refine any_fork [5, 6] (by kernel_rfl) (by simp) (each_cons _ rfl ?_ (each_cons _ rfl ?_ (each_nil)))
     ·
      refine cP (fun v L' => ∃ q_ m_ c_ Y_ q2_ m2_ c2_ X_, v = .agg #[.int .i64 x18.now, .slice q_ m_ c_, .slice q2_ m2_ c2_] ∧ L' = List.take 2 (bx (γ162 0) (#[.int .i64 0, .slice none 0 0, .slice none 0 0]) 27 :: bx (γ12 0) (#[.int .i64 x11.now, .slice x11.p x11.n x11.cap, .slice x11.pa x11.na x11.ca]) 27 :: (Y42 ++ (Yx42 ++ []))) ++ (Y_ ++ (X_ ++ List.drop 2 (bx (γ162 0) (#[.int .i64 0, .slice none 0 0, .slice none 0 0]) 27 :: bx (γ12 0) (#[.int .i64 x11.now, .slice x11.p x11.n x11.cap, .slice x11.pa x11.na x11.ca]) 27 :: (Y42 ++ (Yx42 ++ []))))) ∧ SlO 88 Y_ q_ m_ c_ (shT x18.ts) ∧ SlO 47 X_ q2_ m2_ c2_ (shR x18.rs)) Try.call8 (fun w hw => (short_t x18.now x18.p x18.n x18.cap x18.ts x18.pa x18.na x18.ca x18.rs w (htx18.kept hw.below) hnx18 (by omega) (by omega) (hax18.kept hw.below) hnax18 (by omega) (by omega)).mono fun e w' ⟨q_, m_, c_, Y_, q2_, m2_, c2_, X_, he, h1, h2, hb, hY⟩ => ⟨_, _, he, ⟨q_, m_, c_, Y_, q2_, m2_, c2_, X_, rfl, rfl, h1, h2⟩, hw.joinT hb hY 2⟩) ?_
      rintro v122 L122 ⟨q122, m122, c122, Y122, p122, k122, d122, Yx122, rfl, rfl, hO122, hP122⟩
      have hm122 := hO122.len
      have hn122 := hP122.len
      have hsh122 := shT_len (ts := x18.ts)
      have hsr122 := shR_len (rs := x18.rs)
      refine od_ ?_
      exact wk (hmx25 (Y122, Y42, Yx122, Yx42, c122, c42, d122, d42, k122, k42, m122, m42, p122, p42, q122, q42, γ162) ⟨hO122, hO42, hP122, hP42⟩) [0, 4, 6, 24, 25, 26, 34, 38] [[_], [_], _, _, _, _] [0, 1, 2, 4, 3, 5] rfl rfl
     ·
      refine mo0 1 [] [0, 4, 6, 24, 25, 26, 34, 37] (fun γ142 => [(5, .pointer (some ⟨γ142 0, 0, none⟩))]) (fun γ142 L => bx (γ142 0) (#[.int .i64 0, .slice none 0 0, .slice none 0 0]) 27 :: L) (fun γ142 => ?_)
      refine od_ ?_
      exact wk (hmx26 (Y42, Yx42, c42, d42, k42, m42, p42, q42, γ142, γ162) ⟨hO42, hP42⟩) [0, 4, 5, 6, 24, 25, 26, 34, 37] [[_], [_], [_], _, _] [1, 0, 2, 3, 4] rfl rfl
    refine any_cutX (V := (List Ob) × (List Ob) × (Nat) × (Nat) × (Nat) × (Nat) × (Option Addr) × (Option Addr) × (Nat → Nat)) (fun ⟨Y42, Yx42, c42, d42, k42, m42, p42, q42, γ142⟩ => SlO 88 Y42 q42 m42 c42 (shT x11.ts) ∧ SlO 47 Yx42 p42 k42 d42 (shR x11.rs)) 4 #[true, true, true, true, true, false, true, false, false, false] (fun ⟨Y42, Yx42, c42, d42, k42, m42, p42, q42, γ142⟩ => [(0, .slice (some ⟨b9, o9, none⟩) m cap2), (4, .pointer (some ⟨γ12 0, 0, none⟩)), (5, .pointer (some ⟨γ142 0, 0, none⟩)), (24, .slice (some ⟨b9, o9, none⟩) m cap2), (25, .int .i64 ((m : Nat))), (26, .int .i64 ((j26 : Nat))), (34, .agg #[.int .i64 x11.now, .slice q42 m42 c42, .slice p42 k42 d42]), (37, .agg #[.int .i64 x18.now, .slice x18.p x18.n x18.cap, .slice x18.pa x18.na x18.ca])]) (fun ⟨Y42, Yx42, c42, d42, k42, m42, p42, q42, γ142⟩ => bx (γ142 0) (#[.int .i64 0, .slice none 0 0, .slice none 0 0]) 27 :: bx (γ12 0) (#[.int .i64 x11.now, .slice x11.p x11.n x11.cap, .slice x11.pa x11.na x11.ca]) 27 :: (Y42 ++ (Yx42 ++ []))) ?_ (fun hmx20 => ?_)
    ·
     rintro ⟨Y42, Yx42, c42, d42, k42, m42, p42, q42, γ142⟩ ⟨hO42, hP42⟩
     refine any_fork [5, 7] (by kernel_rfl) (by simp) (each_cons _ rfl ?_ (each_cons _ rfl ?_ (each_nil)))
     ·
      refine cP (fun v L' => ∃ q_ m_ c_ Y_ q2_ m2_ c2_ X_, v = .agg #[.int .i64 x18.now, .slice q_ m_ c_, .slice q2_ m2_ c2_] ∧ L' = List.take 2 (bx (γ142 0) (#[.int .i64 0, .slice none 0 0, .slice none 0 0]) 27 :: bx (γ12 0) (#[.int .i64 x11.now, .slice x11.p x11.n x11.cap, .slice x11.pa x11.na x11.ca]) 27 :: (Y42 ++ (Yx42 ++ []))) ++ (Y_ ++ (X_ ++ List.drop 2 (bx (γ142 0) (#[.int .i64 0, .slice none 0 0, .slice none 0 0]) 27 :: bx (γ12 0) (#[.int .i64 x11.now, .slice x11.p x11.n x11.cap, .slice x11.pa x11.na x11.ca]) 27 :: (Y42 ++ (Yx42 ++ []))))) ∧ SlO 88 Y_ q_ m_ c_ (shT x18.ts) ∧ SlO 47 X_ q2_ m2_ c2_ (shR x18.rs)) Try.call8 (fun w hw => (short_t x18.now x18.p x18.n x18.cap x18.ts x18.pa x18.na x18.ca x18.rs w (htx18.kept hw.below) hnx18 (by omega) (by omega) (hax18.kept hw.below) hnax18 (by omega) (by omega)).mono fun e w' ⟨q_, m_, c_, Y_, q2_, m2_, c2_, X_, he, h1, h2, hb, hY⟩ => ⟨_, _, he, ⟨q_, m_, c_, Y_, q2_, m2_, c2_, X_, rfl, rfl, h1, h2⟩, hw.joinT hb hY 2⟩) ?_
      rintro v122 L122 ⟨q122, m122, c122, Y122, p122, k122, d122, Yx122, rfl, rfl, hO122, hP122⟩
      have hm122 := hO122.len
      have hn122 := hP122.len
      have hsh122 := shT_len (ts := x18.ts)
      have hsr122 := shR_len (rs := x18.rs)
      refine od_ ?_
      exact wk (hmx24 (Y122, Y42, Yx122, Yx42, c122, c42, d122, d42, k122, k42, m122, m42, p122, p42, q122, q42, γ142) ⟨hO122, hO42, hP122, hP42⟩) [0, 4, 5, 24, 25, 26, 34, 38] [[_], [_], _, _, _, _] [0, 1, 2, 4, 3, 5] rfl rfl
     ·
      refine mo0 1 [] [0, 4, 5, 24, 25, 26, 34, 37] (fun γ162 => [(6, .pointer (some ⟨γ162 0, 0, none⟩))]) (fun γ162 L => bx (γ162 0) (#[.int .i64 0, .slice none 0 0, .slice none 0 0]) 27 :: L) (fun γ162 => ?_)
      refine od_ ?_
      exact wk (hmx26 (Y42, Yx42, c42, d42, k42, m42, p42, q42, γ142, γ162) ⟨hO42, hP42⟩) [0, 4, 5, 6, 24, 25, 26, 34, 37] [[_], [_], [_], _, _] [0, 1, 2, 3, 4] rfl rfl
    refine any_cutX (V := (List Ob) × (List Ob) × (List Ob) × (List Ob) × (Nat) × (Nat) × (Nat) × (Nat) × (Nat) × (Nat) × (Nat) × (Nat) × (Option Addr) × (Option Addr) × (Option Addr) × (Option Addr)) (fun ⟨Y122, Y42, Yx122, Yx42, c122, c42, d122, d42, k122, k42, m122, m42, p122, p42, q122, q42⟩ => SlO 88 Y122 q122 m122 c122 (shT x18.ts) ∧ SlO 88 Y42 q42 m42 c42 (shT x11.ts) ∧ SlO 47 Yx122 p122 k122 d122 (shR x18.rs) ∧ SlO 47 Yx42 p42 k42 d42 (shR x11.rs)) 4 #[true, true, true, true, true, true, false, false, false, false] (fun ⟨Y122, Y42, Yx122, Yx42, c122, c42, d122, d42, k122, k42, m122, m42, p122, p42, q122, q42⟩ => [(0, .slice (some ⟨b9, o9, none⟩) m cap2), (4, .pointer (some ⟨γ12 0, 0, none⟩)), (24, .slice (some ⟨b9, o9, none⟩) m cap2), (25, .int .i64 ((m : Nat))), (26, .int .i64 ((j26 : Nat))), (34, .agg #[.int .i64 x11.now, .slice q42 m42 c42, .slice p42 k42 d42]), (38, .agg #[.int .i64 x18.now, .slice q122 m122 c122, .slice p122 k122 d122])]) (fun ⟨Y122, Y42, Yx122, Yx42, c122, c42, d122, d42, k122, k42, m122, m42, p122, p42, q122, q42⟩ => bx (γ12 0) (#[.int .i64 x11.now, .slice x11.p x11.n x11.cap, .slice x11.pa x11.na x11.ca]) 27 :: (Y122 ++ (Y42 ++ (Yx122 ++ (Yx42 ++ []))))) ?_ (fun hmx19 => ?_)
    ·
     rintro ⟨Y122, Y42, Yx122, Yx42, c122, c42, d122, d42, k122, k42, m122, m42, p122, p42, q122, q42⟩ ⟨hO122, hO42, hP122, hP42⟩
     refine any_fork [6, 7] (by kernel_rfl) (by simp) (each_cons _ rfl ?_ (each_cons _ rfl ?_ (each_nil)))
     ·
      refine mo0 1 [] [0, 4, 24, 25, 26, 34, 38] (fun γ142 => [(5, .pointer (some ⟨γ142 0, 0, none⟩))]) (fun γ142 L => bx (γ142 0) (#[.int .i64 0, .slice none 0 0, .slice none 0 0]) 27 :: L) (fun γ142 => ?_)
      refine od_ ?_
      exact wk (hmx24 (Y122, Y42, Yx122, Yx42, c122, c42, d122, d42, k122, k42, m122, m42, p122, p42, q122, q42, γ142) ⟨hO122, hO42, hP122, hP42⟩) [0, 4, 5, 24, 25, 26, 34, 38] [[_], [_], _, _, _, _] [0, 1, 2, 3, 4, 5] rfl rfl
     ·
      refine mo0 1 [] [0, 4, 24, 25, 26, 34, 38] (fun γ162 => [(6, .pointer (some ⟨γ162 0, 0, none⟩))]) (fun γ162 L => bx (γ162 0) (#[.int .i64 0, .slice none 0 0, .slice none 0 0]) 27 :: L) (fun γ162 => ?_)
      refine od_ ?_
      exact wk (hmx25 (Y122, Y42, Yx122, Yx42, c122, c42, d122, d42, k122, k42, m122, m42, p122, p42, q122, q42, γ162) ⟨hO122, hO42, hP122, hP42⟩) [0, 4, 6, 24, 25, 26, 34, 38] [[_], [_], _, _, _, _] [0, 1, 2, 3, 4, 5] rfl rfl
    refine any_cutX (V := (Nat → Nat) × (Nat → Nat)) (fun ⟨γ142, γ162⟩ => True) 5 #[false, false, true, true, true, false, true, true, false, false] (fun ⟨γ142, γ162⟩ => [(0, .slice (some ⟨b9, o9, none⟩) m cap2), (4, .pointer (some ⟨γ12 0, 0, none⟩)), (5, .pointer (some ⟨γ142 0, 0, none⟩)), (6, .pointer (some ⟨γ162 0, 0, none⟩)), (24, .slice (some ⟨b9, o9, none⟩) m cap2), (25, .int .i64 ((m : Nat))), (26, .int .i64 ((j26 : Nat))), (37, .agg #[.int .i64 x18.now, .slice x18.p x18.n x18.cap, .slice x18.pa x18.na x18.ca])]) (fun ⟨γ142, γ162⟩ => [bx (γ162 0) (#[.int .i64 0, .slice none 0 0, .slice none 0 0]) 27, bx (γ142 0) (#[.int .i64 0, .slice none 0 0, .slice none 0 0]) 27, bx (γ12 0) (#[.int .i64 x11.now, .slice x11.p x11.n x11.cap, .slice x11.pa x11.na x11.ca]) 27]) ?_ (fun hmx18 => ?_)
    ·
     rintro ⟨γ142, γ162⟩ _
     refine a1 0 rfl ?_
     refine qo0 1 [(0, .go (owns 2 0 3))] [0, 4, 5, 6, 24, 25, 26, 37] [(33, .agg #[.int .i64 x11.now, .slice x11.p x11.n x11.cap, .slice x11.pa x11.na x11.ca])] ?_
     refine od_ ?_
     exact wk (hmx23 (γ142, γ162) trivial) [0, 4, 5, 6, 24, 25, 26, 33, 37] [[_], [_], [_]] [0, 1, 2] rfl rfl
    refine any_cutX (V := (Nat → Nat) × (Nat → Nat)) (fun ⟨γ142, γ162⟩ => True) 5 #[true, false, true, true, false, false, true, true, false, false] (fun ⟨γ142, γ162⟩ => [(0, .slice (some ⟨b9, o9, none⟩) m cap2), (4, .pointer (some ⟨γ12 0, 0, none⟩)), (5, .pointer (some ⟨γ142 0, 0, none⟩)), (6, .pointer (some ⟨γ162 0, 0, none⟩)), (24, .slice (some ⟨b9, o9, none⟩) m cap2), (25, .int .i64 ((m : Nat))), (26, .int .i64 ((j26 : Nat))), (33, .agg #[.int .i64 x11.now, .slice x11.p x11.n x11.cap, .slice x11.pa x11.na x11.ca]), (36, .pointer (some ⟨b9, o9 + 0 * 3, none⟩))]) (fun ⟨γ142, γ162⟩ => [bx (γ162 0) (#[.int .i64 0, .slice none 0 0, .slice none 0 0]) 27, bx (γ142 0) (#[.int .i64 0, .slice none 0 0, .slice none 0 0]) 27, bx (γ12 0) (#[.int .i64 x11.now, .slice x11.p x11.n x11.cap, .slice x11.pa x11.na x11.ca]) 27]) ?_ (fun hmx17 => ?_)
    ·
     rintro ⟨γ142, γ162⟩ _
     refine any_fork [1, 4] (by kernel_rfl) (by simp) (each_cons _ rfl ?_ (each_cons _ rfl ?_ (each_nil)))
     ·
      refine cP (fun v L' => ∃ q_ m_ c_ Y_ q2_ m2_ c2_ X_, v = .agg #[.int .i64 x11.now, .slice q_ m_ c_, .slice q2_ m2_ c2_] ∧ L' = List.take 3 ([bx (γ162 0) (#[.int .i64 0, .slice none 0 0, .slice none 0 0]) 27, bx (γ142 0) (#[.int .i64 0, .slice none 0 0, .slice none 0 0]) 27, bx (γ12 0) (#[.int .i64 x11.now, .slice x11.p x11.n x11.cap, .slice x11.pa x11.na x11.ca]) 27]) ++ (Y_ ++ (X_ ++ List.drop 3 ([bx (γ162 0) (#[.int .i64 0, .slice none 0 0, .slice none 0 0]) 27, bx (γ142 0) (#[.int .i64 0, .slice none 0 0, .slice none 0 0]) 27, bx (γ12 0) (#[.int .i64 x11.now, .slice x11.p x11.n x11.cap, .slice x11.pa x11.na x11.ca]) 27]))) ∧ SlO 88 Y_ q_ m_ c_ (shT x11.ts) ∧ SlO 47 X_ q2_ m2_ c2_ (shR x11.rs)) Try.call8 (fun w hw => (short_t x11.now x11.p x11.n x11.cap x11.ts x11.pa x11.na x11.ca x11.rs w (htx11.kept hw.below) hnx11 (by omega) (by omega) (hax11.kept hw.below) hnax11 (by omega) (by omega)).mono fun e w' ⟨q_, m_, c_, Y_, q2_, m2_, c2_, X_, he, h1, h2, hb, hY⟩ => ⟨_, _, he, ⟨q_, m_, c_, Y_, q2_, m2_, c2_, X_, rfl, rfl, h1, h2⟩, hw.joinT hb hY 3⟩) ?_
      rintro v42 L42 ⟨q42, m42, c42, Y42, p42, k42, d42, Yx42, rfl, rfl, hO42, hP42⟩
      have hm42 := hO42.len
      have hn42 := hP42.len
      have hsh42 := shT_len (ts := x11.ts)
      have hsr42 := shR_len (rs := x11.rs)
      refine od_ ?_
      exact wk (hmx22 (Y42, Yx42, c42, d42, k42, m42, p42, q42, γ142, γ162) ⟨hO42, hP42⟩) [0, 4, 5, 6, 24, 25, 26, 34, 36] [[_], [_], [_], _, _] [0, 1, 2, 3, 4] rfl rfl
     ·
      refine qo 1 [(4, .go (outs b9 (o9 + 0 * 3) [.int .i64 x18.now, .slice x18.p x18.n x18.cap, .slice x18.pa x18.na x18.ca]))] [0, 4, 5, 6, 24, 25, 26, 33] [(37, .agg #[.int .i64 x18.now, .slice x18.p x18.n x18.cap, .slice x18.pa x18.na x18.ca])] (cellsP w b9 (o9 + 0 * 3) [.int .i64 x18.now, .slice x18.p x18.n x18.cap, .slice x18.pa x18.na x18.ca]) (rd_pre (hal.get hx18) _ rfl) ?_
      refine od_ ?_
      exact wk (hmx23 (γ142, γ162) trivial) [0, 4, 5, 6, 24, 25, 26, 33, 37] [[_], [_], [_]] [0, 1, 2] rfl rfl
    refine any_cutX (V := (Nat → Nat)) (fun γ162 => True) 5 #[true, false, true, true, true, false, false, true, false, false] (fun γ162 => [(0, .slice (some ⟨b9, o9, none⟩) m cap2), (4, .pointer (some ⟨γ12 0, 0, none⟩)), (6, .pointer (some ⟨γ162 0, 0, none⟩)), (24, .slice (some ⟨b9, o9, none⟩) m cap2), (25, .int .i64 ((m : Nat))), (26, .int .i64 ((j26 : Nat))), (33, .agg #[.int .i64 x11.now, .slice x11.p x11.n x11.cap, .slice x11.pa x11.na x11.ca]), (37, .agg #[.int .i64 x18.now, .slice x18.p x18.n x18.cap, .slice x18.pa x18.na x18.ca])]) (fun γ162 => [bx (γ162 0) (#[.int .i64 0, .slice none 0 0, .slice none 0 0]) 27, bx (γ12 0) (#[.int .i64 x11.now, .slice x11.p x11.n x11.cap, .slice x11.pa x11.na x11.ca]) 27]) ?_ (fun hmx16 => ?_)
    ·
     rintro γ162 _
     refine any_fork [1, 6] (by kernel_rfl) (by simp) (each_cons _ rfl ?_ (each_cons _ rfl ?_ (each_nil)))
     ·
      refine cP (fun v L' => ∃ q_ m_ c_ Y_ q2_ m2_ c2_ X_, v = .agg #[.int .i64 x11.now, .slice q_ m_ c_, .slice q2_ m2_ c2_] ∧ L' = List.take 2 ([bx (γ162 0) (#[.int .i64 0, .slice none 0 0, .slice none 0 0]) 27, bx (γ12 0) (#[.int .i64 x11.now, .slice x11.p x11.n x11.cap, .slice x11.pa x11.na x11.ca]) 27]) ++ (Y_ ++ (X_ ++ List.drop 2 ([bx (γ162 0) (#[.int .i64 0, .slice none 0 0, .slice none 0 0]) 27, bx (γ12 0) (#[.int .i64 x11.now, .slice x11.p x11.n x11.cap, .slice x11.pa x11.na x11.ca]) 27]))) ∧ SlO 88 Y_ q_ m_ c_ (shT x11.ts) ∧ SlO 47 X_ q2_ m2_ c2_ (shR x11.rs)) Try.call8 (fun w hw => (short_t x11.now x11.p x11.n x11.cap x11.ts x11.pa x11.na x11.ca x11.rs w (htx11.kept hw.below) hnx11 (by omega) (by omega) (hax11.kept hw.below) hnax11 (by omega) (by omega)).mono fun e w' ⟨q_, m_, c_, Y_, q2_, m2_, c2_, X_, he, h1, h2, hb, hY⟩ => ⟨_, _, he, ⟨q_, m_, c_, Y_, q2_, m2_, c2_, X_, rfl, rfl, h1, h2⟩, hw.joinT hb hY 2⟩) ?_
      rintro v42 L42 ⟨q42, m42, c42, Y42, p42, k42, d42, Yx42, rfl, rfl, hO42, hP42⟩
      have hm42 := hO42.len
      have hn42 := hP42.len
      have hsh42 := shT_len (ts := x11.ts)
      have hsr42 := shR_len (rs := x11.rs)
      refine od_ ?_
      exact wk (hmx21 (Y42, Yx42, c42, d42, k42, m42, p42, q42, γ162) ⟨hO42, hP42⟩) [0, 4, 6, 24, 25, 26, 34, 37] [[_], [_], _, _] [0, 1, 2, 3] rfl rfl
     ·
      refine mo0 1 [] [0, 4, 6, 24, 25, 26, 33, 37] (fun γ142 => [(5, .pointer (some ⟨γ142 0, 0, none⟩))]) (fun γ142 L => bx (γ142 0) (#[.int .i64 0, .slice none 0 0, .slice none 0 0]) 27 :: L) (fun γ142 => ?_)
      refine od_ ?_
      exact wk (hmx23 (γ142, γ162) trivial) [0, 4, 5, 6, 24, 25, 26, 33, 37] [[_], [_], [_]] [1, 0, 2] rfl rfl
    refine any_cutX (V := (Nat → Nat)) (fun γ142 => True) 5 #[true, false, true, true, true, false, true, false, false, false] (fun γ142 => [(0, .slice (some ⟨b9, o9, none⟩) m cap2), (4, .pointer (some ⟨γ12 0, 0, none⟩)), (5, .pointer (some ⟨γ142 0, 0, none⟩)), (24, .slice (some ⟨b9, o9, none⟩) m cap2), (25, .int .i64 ((m : Nat))), (26, .int .i64 ((j26 : Nat))), (33, .agg #[.int .i64 x11.now, .slice x11.p x11.n x11.cap, .slice x11.pa x11.na x11.ca]), (37, .agg #[.int .i64 x18.now, .slice x18.p x18.n x18.cap, .slice x18.pa x18.na x18.ca])]) (fun γ142 => [bx (γ142 0) (#[.int .i64 0, .slice none 0 0, .slice none 0 0]) 27, bx (γ12 0) (#[.int .i64 x11.now, .slice x11.p x11.n x11.cap, .slice x11.pa x11.na x11.ca]) 27]) ?_ (fun hmx15 => ?_)
    ·
     rintro γ142 _
     refine any_fork [1, 7] (by kernel_rfl) (by simp) (each_cons _ rfl ?_ (each_cons _ rfl ?_ (each_nil)))
     ·
      refine cP (fun v L' => ∃ q_ m_ c_ Y_ q2_ m2_ c2_ X_, v = .agg #[.int .i64 x11.now, .slice q_ m_ c_, .slice q2_ m2_ c2_] ∧ L' = List.take 2 ([bx (γ142 0) (#[.int .i64 0, .slice none 0 0, .slice none 0 0]) 27, bx (γ12 0) (#[.int .i64 x11.now, .slice x11.p x11.n x11.cap, .slice x11.pa x11.na x11.ca]) 27]) ++ (Y_ ++ (X_ ++ List.drop 2 ([bx (γ142 0) (#[.int .i64 0, .slice none 0 0, .slice none 0 0]) 27, bx (γ12 0) (#[.int .i64 x11.now, .slice x11.p x11.n x11.cap, .slice x11.pa x11.na x11.ca]) 27]))) ∧ SlO 88 Y_ q_ m_ c_ (shT x11.ts) ∧ SlO 47 X_ q2_ m2_ c2_ (shR x11.rs)) Try.call8 (fun w hw => (short_t x11.now x11.p x11.n x11.cap x11.ts x11.pa x11.na x11.ca x11.rs w (htx11.kept hw.below) hnx11 (by omega) (by omega) (hax11.kept hw.below) hnax11 (by omega) (by omega)).mono fun e w' ⟨q_, m_, c_, Y_, q2_, m2_, c2_, X_, he, h1, h2, hb, hY⟩ => ⟨_, _, he, ⟨q_, m_, c_, Y_, q2_, m2_, c2_, X_, rfl, rfl, h1, h2⟩, hw.joinT hb hY 2⟩) ?_
      rintro v42 L42 ⟨q42, m42, c42, Y42, p42, k42, d42, Yx42, rfl, rfl, hO42, hP42⟩
      have hm42 := hO42.len
      have hn42 := hP42.len
      have hsh42 := shT_len (ts := x11.ts)
      have hsr42 := shR_len (rs := x11.rs)
      refine od_ ?_
      exact wk (hmx20 (Y42, Yx42, c42, d42, k42, m42, p42, q42, γ142) ⟨hO42, hP42⟩) [0, 4, 5, 24, 25, 26, 34, 37] [[_], [_], _, _] [0, 1, 2, 3] rfl rfl
     ·
      refine mo0 1 [] [0, 4, 5, 24, 25, 26, 33, 37] (fun γ162 => [(6, .pointer (some ⟨γ162 0, 0, none⟩))]) (fun γ162 L => bx (γ162 0) (#[.int .i64 0, .slice none 0 0, .slice none 0 0]) 27 :: L) (fun γ162 => ?_)
      refine od_ ?_
      exact wk (hmx23 (γ142, γ162) trivial) [0, 4, 5, 6, 24, 25, 26, 33, 37] [[_], [_], [_]] [0, 1, 2] rfl rfl
    refine any_cutX (V := (List Ob) × (List Ob) × (Nat) × (Nat) × (Nat) × (Nat) × (Option Addr) × (Option Addr) × (Nat → Nat)) (fun ⟨Y42, Yx42, c42, d42, k42, m42, p42, q42, γ162⟩ => SlO 88 Y42 q42 m42 c42 (shT x11.ts) ∧ SlO 47 Yx42 p42 k42 d42 (shR x11.rs)) 5 #[true, true, true, true, false, false, false, true, false, false] (fun ⟨Y42, Yx42, c42, d42, k42, m42, p42, q42, γ162⟩ => [(0, .slice (some ⟨b9, o9, none⟩) m cap2), (4, .pointer (some ⟨γ12 0, 0, none⟩)), (6, .pointer (some ⟨γ162 0, 0, none⟩)), (24, .slice (some ⟨b9, o9, none⟩) m cap2), (25, .int .i64 ((m : Nat))), (26, .int .i64 ((j26 : Nat))), (34, .agg #[.int .i64 x11.now, .slice q42 m42 c42, .slice p42 k42 d42]), (36, .pointer (some ⟨b9, o9 + 0 * 3, none⟩))]) (fun ⟨Y42, Yx42, c42, d42, k42, m42, p42, q42, γ162⟩ => bx (γ162 0) (#[.int .i64 0, .slice none 0 0, .slice none 0 0]) 27 :: bx (γ12 0) (#[.int .i64 x11.now, .slice x11.p x11.n x11.cap, .slice x11.pa x11.na x11.ca]) 27 :: (Y42 ++ (Yx42 ++ []))) ?_ (fun hmx14 => ?_)
    ·
     rintro ⟨Y42, Yx42, c42, d42, k42, m42, p42, q42, γ162⟩ ⟨hO42, hP42⟩
     refine any_fork [4, 6] (by kernel_rfl) (by simp) (each_cons _ rfl ?_ (each_cons _ rfl ?_ (each_nil)))
     ·
      refine qo 1 [(4, .go (outs b9 (o9 + 0 * 3) [.int .i64 x18.now, .slice x18.p x18.n x18.cap, .slice x18.pa x18.na x18.ca]))] [0, 4, 6, 24, 25, 26, 34] [(37, .agg #[.int .i64 x18.now, .slice x18.p x18.n x18.cap, .slice x18.pa x18.na x18.ca])] (cellsP w b9 (o9 + 0 * 3) [.int .i64 x18.now, .slice x18.p x18.n x18.cap, .slice x18.pa x18.na x18.ca]) (rd_pre (hal.get hx18) _ rfl) ?_
      refine od_ ?_
      exact wk (hmx21 (Y42, Yx42, c42, d42, k42, m42, p42, q42, γ162) ⟨hO42, hP42⟩) [0, 4, 6, 24, 25, 26, 34, 37] [[_], [_], _, _] [0, 1, 2, 3] rfl rfl
     ·
      refine mo0 1 [] [0, 4, 6, 24, 25, 26, 34, 36] (fun γ142 => [(5, .pointer (some ⟨γ142 0, 0, none⟩))]) (fun γ142 L => bx (γ142 0) (#[.int .i64 0, .slice none 0 0, .slice none 0 0]) 27 :: L) (fun γ142 => ?_)
      refine od_ ?_
      exact wk (hmx22 (Y42, Yx42, c42, d42, k42, m42, p42, q42, γ142, γ162) ⟨hO42, hP42⟩) [0, 4, 5, 6, 24, 25, 26, 34, 36] [[_], [_], [_], _, _] [1, 0, 2, 3, 4] rfl rfl
    refine any_cutX (V := (List Ob) × (List Ob) × (Nat) × (Nat) × (Nat) × (Nat) × (Option Addr) × (Option Addr) × (Nat → Nat)) (fun ⟨Y42, Yx42, c42, d42, k42, m42, p42, q42, γ142⟩ => SlO 88 Y42 q42 m42 c42 (shT x11.ts) ∧ SlO 47 Yx42 p42 k42 d42 (shR x11.rs)) 5 #[true, true, true, true, false, false, true, false, false, false] (fun ⟨Y42, Yx42, c42, d42, k42, m42, p42, q42, γ142⟩ => [(0, .slice (some ⟨b9, o9, none⟩) m cap2), (4, .pointer (some ⟨γ12 0, 0, none⟩)), (5, .pointer (some ⟨γ142 0, 0, none⟩)), (24, .slice (some ⟨b9, o9, none⟩) m cap2), (25, .int .i64 ((m : Nat))), (26, .int .i64 ((j26 : Nat))), (34, .agg #[.int .i64 x11.now, .slice q42 m42 c42, .slice p42 k42 d42]), (36, .pointer (some ⟨b9, o9 + 0 * 3, none⟩))]) (fun ⟨Y42, Yx42, c42, d42, k42, m42, p42, q42, γ142⟩ => bx (γ142 0) (#[.int .i64 0, .slice none 0 0, .slice none 0 0]) 27 :: bx (γ12 0) (#[.int .i64 x11.now, .slice x11.p x11.n x11.cap, .slice x11.pa x11.na x11.ca]) 27 :: (Y42 ++ (Yx42 ++ []))) ?_ (fun hmx13 => ?_)
    ·
     rintro ⟨Y42, Yx42, c42, d42, k42, m42, p42, q42, γ142⟩ ⟨hO42, hP42⟩
     refine any_fork [4, 7] (by kernel_rfl) (by simp) (each_cons _ rfl ?_ (each_cons _ rfl ?_ (each_nil)))
     ·
      refine qo 1 [(4, .go (outs b9 (o9 + 0 * 3) [.int .i64 x18.now, .slice x18.p x18.n x18.cap, .slice x18.pa x18.na x18.ca]))] [0, 4, 5, 24, 25, 26, 34] [(37, .agg #[.int .i64 x18.now, .slice x18.p x18.n x18.cap, .slice x18.pa x18.na x18.ca])] (cellsP w b9 (o9 + 0 * 3) [.int .i64 x18.now, .slice x18.p x18.n x18.cap, .slice x18.pa x18.na x18.ca]) (rd_pre (hal.get hx18) _ rfl) ?_
      refine od_ ?_
      exact wk (hmx20 (Y42, Yx42, c42, d42, k42, m42, p42, q42, γ142) ⟨hO42, hP42⟩) [0, 4, 5, 24, 25, 26, 34, 37] [[_], [_], _, _] [0, 1, 2, 3] rfl rfl
     ·
      refine mo0 1 [] [0, 4, 5, 24, 25, 26, 34, 36] (fun γ162 => [(6, .pointer (some ⟨γ162 0, 0, none⟩))]) (fun γ162 L => bx (γ162 0) (#[.int .i64 0, .slice none 0 0, .slice none 0 0]) 27 :: L) (fun γ162 => ?_)
      refine od_ ?_
      exact wk (hmx22 (Y42, Yx42, c42, d42, k42, m42, p42, q42, γ142, γ162) ⟨hO42, hP42⟩) [0, 4, 5, 6, 24, 25, 26, 34, 36] [[_], [_], [_], _, _] [0, 1, 2, 3, 4] rfl rfl
    refine any_cutX (V := (List Ob) × (List Ob) × (Nat) × (Nat) × (Nat) × (Nat) × (Option Addr) × (Option Addr)) (fun ⟨Y42, Yx42, c42, d42, k42, m42, p42, q42⟩ => SlO 88 Y42 q42 m42 c42 (shT x11.ts) ∧ SlO 47 Yx42 p42 k42 d42 (shR x11.rs)) 5 #[true, true, true, true, true, false, false, false, false, false] (fun ⟨Y42, Yx42, c42, d42, k42, m42, p42, q42⟩ => [(0, .slice (some ⟨b9, o9, none⟩) m cap2), (4, .pointer (some ⟨γ12 0, 0, none⟩)), (24, .slice (some ⟨b9, o9, none⟩) m cap2), (25, .int .i64 ((m : Nat))), (26, .int .i64 ((j26 : Nat))), (34, .agg #[.int .i64 x11.now, .slice q42 m42 c42, .slice p42 k42 d42]), (37, .agg #[.int .i64 x18.now, .slice x18.p x18.n x18.cap, .slice x18.pa x18.na x18.ca])]) (fun ⟨Y42, Yx42, c42, d42, k42, m42, p42, q42⟩ => bx (γ12 0) (#[.int .i64 x11.now, .slice x11.p x11.n x11.cap, .slice x11.pa x11.na x11.ca]) 27 :: (Y42 ++ (Yx42 ++ []))) ?_ (fun hmx12 => ?_)
    ·
     rintro ⟨Y42, Yx42, c42, d42, k42, m42, p42, q42⟩ ⟨hO42, hP42⟩
     refine any_fork [5, 6, 7] (by kernel_rfl) (by simp) (each_cons _ rfl ?_ (each_cons _ rfl ?_ (each_cons _ rfl ?_ (each_nil))))
     ·
      refine cP (fun v L' => ∃ q_ m_ c_ Y_ q2_ m2_ c2_ X_, v = .agg #[.int .i64 x18.now, .slice q_ m_ c_, .slice q2_ m2_ c2_] ∧ L' = List.take 1 (bx (γ12 0) (#[.int .i64 x11.now, .slice x11.p x11.n x11.cap, .slice x11.pa x11.na x11.ca]) 27 :: (Y42 ++ (Yx42 ++ []))) ++ (Y_ ++ (X_ ++ List.drop 1 (bx (γ12 0) (#[.int .i64 x11.now, .slice x11.p x11.n x11.cap, .slice x11.pa x11.na x11.ca]) 27 :: (Y42 ++ (Yx42 ++ []))))) ∧ SlO 88 Y_ q_ m_ c_ (shT x18.ts) ∧ SlO 47 X_ q2_ m2_ c2_ (shR x18.rs)) Try.call8 (fun w hw => (short_t x18.now x18.p x18.n x18.cap x18.ts x18.pa x18.na x18.ca x18.rs w (htx18.kept hw.below) hnx18 (by omega) (by omega) (hax18.kept hw.below) hnax18 (by omega) (by omega)).mono fun e w' ⟨q_, m_, c_, Y_, q2_, m2_, c2_, X_, he, h1, h2, hb, hY⟩ => ⟨_, _, he, ⟨q_, m_, c_, Y_, q2_, m2_, c2_, X_, rfl, rfl, h1, h2⟩, hw.joinT hb hY 1⟩) ?_
      rintro v122 L122 ⟨q122, m122, c122, Y122, p122, k122, d122, Yx122, rfl, rfl, hO122, hP122⟩
      have hm122 := hO122.len
      have hn122 := hP122.len
      have hsh122 := shT_len (ts := x18.ts)
      have hsr122 := shR_len (rs := x18.rs)
      refine od_ ?_
      exact wk (hmx19 (Y122, Y42, Yx122, Yx42, c122, c42, d122, d42, k122, k42, m122, m42, p122, p42, q122, q42) ⟨hO122, hO42, hP122, hP42⟩) [0, 4, 24, 25, 26, 34, 38] [[_], _, _, _, _] [0, 1, 3, 2, 4] rfl rfl
     ·
      refine mo0 1 [] [0, 4, 24, 25, 26, 34, 37] (fun γ142 => [(5, .pointer (some ⟨γ142 0, 0, none⟩))]) (fun γ142 L => bx (γ142 0) (#[.int .i64 0, .slice none 0 0, .slice none 0 0]) 27 :: L) (fun γ142 => ?_)
      refine od_ ?_
      exact wk (hmx20 (Y42, Yx42, c42, d42, k42, m42, p42, q42, γ142) ⟨hO42, hP42⟩) [0, 4, 5, 24, 25, 26, 34, 37] [[_], [_], _, _] [0, 1, 2, 3] rfl rfl
     ·
      refine mo0 1 [] [0, 4, 24, 25, 26, 34, 37] (fun γ162 => [(6, .pointer (some ⟨γ162 0, 0, none⟩))]) (fun γ162 L => bx (γ162 0) (#[.int .i64 0, .slice none 0 0, .slice none 0 0]) 27 :: L) (fun γ162 => ?_)
      refine od_ ?_
      exact wk (hmx21 (Y42, Yx42, c42, d42, k42, m42, p42, q42, γ162) ⟨hO42, hP42⟩) [0, 4, 6, 24, 25, 26, 34, 37] [[_], [_], _, _] [0, 1, 2, 3] rfl rfl
    refine any_cutX (V := (Nat → Nat) × (Nat → Nat)) (fun ⟨γ142, γ162⟩ => True) 6 #[false, false, true, true, false, false, true, true, false, false] (fun ⟨γ142, γ162⟩ => [(0, .slice (some ⟨b9, o9, none⟩) m cap2), (4, .pointer (some ⟨γ12 0, 0, none⟩)), (5, .pointer (some ⟨γ142 0, 0, none⟩)), (6, .pointer (some ⟨γ162 0, 0, none⟩)), (24, .slice (some ⟨b9, o9, none⟩) m cap2), (25, .int .i64 ((m : Nat))), (26, .int .i64 ((j26 : Nat))), (36, .pointer (some ⟨b9, o9 + 0 * 3, none⟩))]) (fun ⟨γ142, γ162⟩ => [bx (γ162 0) (#[.int .i64 0, .slice none 0 0, .slice none 0 0]) 27, bx (γ142 0) (#[.int .i64 0, .slice none 0 0, .slice none 0 0]) 27, bx (γ12 0) (#[.int .i64 x11.now, .slice x11.p x11.n x11.cap, .slice x11.pa x11.na x11.ca]) 27]) ?_ (fun hmx11 => ?_)
    ·
     rintro ⟨γ142, γ162⟩ _
     refine any_fork [0, 4] (by kernel_rfl) (by simp) (each_cons _ rfl ?_ (each_cons _ rfl ?_ (each_nil)))
     ·
      refine qo0 1 [(0, .go (owns 2 0 3))] [0, 4, 5, 6, 24, 25, 26, 36] [(33, .agg #[.int .i64 x11.now, .slice x11.p x11.n x11.cap, .slice x11.pa x11.na x11.ca])] ?_
      refine od_ ?_
      exact wk (hmx17 (γ142, γ162) trivial) [0, 4, 5, 6, 24, 25, 26, 33, 36] [[_], [_], [_]] [0, 1, 2] rfl rfl
     ·
      refine qo 1 [(4, .go (outs b9 (o9 + 0 * 3) [.int .i64 x18.now, .slice x18.p x18.n x18.cap, .slice x18.pa x18.na x18.ca]))] [0, 4, 5, 6, 24, 25, 26] [(37, .agg #[.int .i64 x18.now, .slice x18.p x18.n x18.cap, .slice x18.pa x18.na x18.ca])] (cellsP w b9 (o9 + 0 * 3) [.int .i64 x18.now, .slice x18.p x18.n x18.cap, .slice x18.pa x18.na x18.ca]) (rd_pre (hal.get hx18) _ rfl) ?_
      refine od_ ?_
      exact wk (hmx18 (γ142, γ162) trivial) [0, 4, 5, 6, 24, 25, 26, 37] [[_], [_], [_]] [0, 1, 2] rfl rfl
    refine any_cutX (V := (Nat → Nat)) (fun γ162 => True) 6 #[false, false, true, true, true, false, false, true, false, false] (fun γ162 => [(0, .slice (some ⟨b9, o9, none⟩) m cap2), (4, .pointer (some ⟨γ12 0, 0, none⟩)), (6, .pointer (some ⟨γ162 0, 0, none⟩)), (24, .slice (some ⟨b9, o9, none⟩) m cap2), (25, .int .i64 ((m : Nat))), (26, .int .i64 ((j26 : Nat))), (37, .agg #[.int .i64 x18.now, .slice x18.p x18.n x18.cap, .slice x18.pa x18.na x18.ca])]) (fun γ162 => [bx (γ162 0) (#[.int .i64 0, .slice none 0 0, .slice none 0 0]) 27, bx (γ12 0) (#[.int .i64 x11.now, .slice x11.p x11.n x11.cap, .slice x11.pa x11.na x11.ca]) 27]) ?_ (fun hmx10 => ?_)
    ·
     rintro γ162 _
     refine any_fork [0, 6] (by kernel_rfl) (by simp) (each_cons _ rfl ?_ (each_cons _ rfl ?_ (each_nil)))
     ·
      refine qo0 1 [(0, .go (owns 1 0 3))] [0, 4, 6, 24, 25, 26, 37] [(33, .agg #[.int .i64 x11.now, .slice x11.p x11.n x11.cap, .slice x11.pa x11.na x11.ca])] ?_
      refine od_ ?_
      exact wk (hmx16 γ162 trivial) [0, 4, 6, 24, 25, 26, 33, 37] [[_], [_]] [0, 1] rfl rfl
     ·
      refine mo0 1 [] [0, 4, 6, 24, 25, 26, 37] (fun γ142 => [(5, .pointer (some ⟨γ142 0, 0, none⟩))]) (fun γ142 L => bx (γ142 0) (#[.int .i64 0, .slice none 0 0, .slice none 0 0]) 27 :: L) (fun γ142 => ?_)
      refine od_ ?_
      exact wk (hmx18 (γ142, γ162) trivial) [0, 4, 5, 6, 24, 25, 26, 37] [[_], [_], [_]] [1, 0, 2] rfl rfl
    refine any_cutX (V := (Nat → Nat)) (fun γ142 => True) 6 #[false, false, true, true, true, false, true, false, false, false] (fun γ142 => [(0, .slice (some ⟨b9, o9, none⟩) m cap2), (4, .pointer (some ⟨γ12 0, 0, none⟩)), (5, .pointer (some ⟨γ142 0, 0, none⟩)), (24, .slice (some ⟨b9, o9, none⟩) m cap2), (25, .int .i64 ((m : Nat))), (26, .int .i64 ((j26 : Nat))), (37, .agg #[.int .i64 x18.now, .slice x18.p x18.n x18.cap, .slice x18.pa x18.na x18.ca])]) (fun γ142 => [bx (γ142 0) (#[.int .i64 0, .slice none 0 0, .slice none 0 0]) 27, bx (γ12 0) (#[.int .i64 x11.now, .slice x11.p x11.n x11.cap, .slice x11.pa x11.na x11.ca]) 27]) ?_ (fun hmx9 => ?_)
    ·
     rintro γ142 _
     refine any_fork [0, 7] (by kernel_rfl) (by simp) (each_cons _ rfl ?_ (each_cons _ rfl ?_ (each_nil)))
     ·
      refine qo0 1 [(0, .go (owns 1 0 3))] [0, 4, 5, 24, 25, 26, 37] [(33, .agg #[.int .i64 x11.now, .slice x11.p x11.n x11.cap, .slice x11.pa x11.na x11.ca])] ?_
      refine od_ ?_
      exact wk (hmx15 γ142 trivial) [0, 4, 5, 24, 25, 26, 33, 37] [[_], [_]] [0, 1] rfl rfl
     ·
      refine mo0 1 [] [0, 4, 5, 24, 25, 26, 37] (fun γ162 => [(6, .pointer (some ⟨γ162 0, 0, none⟩))]) (fun γ162 L => bx (γ162 0) (#[.int .i64 0, .slice none 0 0, .slice none 0 0]) 27 :: L) (fun γ162 => ?_)
      refine od_ ?_
      exact wk (hmx18 (γ142, γ162) trivial) [0, 4, 5, 6, 24, 25, 26, 37] [[_], [_], [_]] [0, 1, 2] rfl rfl
    refine any_cutX (V := (Nat → Nat)) (fun γ162 => True) 6 #[true, false, true, true, false, false, false, true, false, false] (fun γ162 => [(0, .slice (some ⟨b9, o9, none⟩) m cap2), (4, .pointer (some ⟨γ12 0, 0, none⟩)), (6, .pointer (some ⟨γ162 0, 0, none⟩)), (24, .slice (some ⟨b9, o9, none⟩) m cap2), (25, .int .i64 ((m : Nat))), (26, .int .i64 ((j26 : Nat))), (33, .agg #[.int .i64 x11.now, .slice x11.p x11.n x11.cap, .slice x11.pa x11.na x11.ca]), (36, .pointer (some ⟨b9, o9 + 0 * 3, none⟩))]) (fun γ162 => [bx (γ162 0) (#[.int .i64 0, .slice none 0 0, .slice none 0 0]) 27, bx (γ12 0) (#[.int .i64 x11.now, .slice x11.p x11.n x11.cap, .slice x11.pa x11.na x11.ca]) 27]) ?_ (fun hmx8 => ?_)
    ·
     rintro γ162 _
     refine any_fork [1, 4, 6] (by kernel_rfl) (by simp) (each_cons _ rfl ?_ (each_cons _ rfl ?_ (each_cons _ rfl ?_ (each_nil))))
     ·
      refine cP (fun v L' => ∃ q_ m_ c_ Y_ q2_ m2_ c2_ X_, v = .agg #[.int .i64 x11.now, .slice q_ m_ c_, .slice q2_ m2_ c2_] ∧ L' = List.take 2 ([bx (γ162 0) (#[.int .i64 0, .slice none 0 0, .slice none 0 0]) 27, bx (γ12 0) (#[.int .i64 x11.now, .slice x11.p x11.n x11.cap, .slice x11.pa x11.na x11.ca]) 27]) ++ (Y_ ++ (X_ ++ List.drop 2 ([bx (γ162 0) (#[.int .i64 0, .slice none 0 0, .slice none 0 0]) 27, bx (γ12 0) (#[.int .i64 x11.now, .slice x11.p x11.n x11.cap, .slice x11.pa x11.na x11.ca]) 27]))) ∧ SlO 88 Y_ q_ m_ c_ (shT x11.ts) ∧ SlO 47 X_ q2_ m2_ c2_ (shR x11.rs)) Try.call8 (fun w hw => (short_t x11.now x11.p x11.n x11.cap x11.ts x11.pa x11.na x11.ca x11.rs w (htx11.kept hw.below) hnx11 (by omega) (by omega) (hax11.kept hw.below) hnax11 (by omega) (by omega)).mono fun e w' ⟨q_, m_, c_, Y_, q2_, m2_, c2_, X_, he, h1, h2, hb, hY⟩ => ⟨_, _, he, ⟨q_, m_, c_, Y_, q2_, m2_, c2_, X_, rfl, rfl, h1, h2⟩, hw.joinT hb hY 2⟩) ?_
      rintro v42 L42 ⟨q42, m42, c42, Y42, p42, k42, d42, Yx42, rfl, rfl, hO42, hP42⟩
      have hm42 := hO42.len
      have hn42 := hP42.len
      have hsh42 := shT_len (ts := x11.ts)
      have hsr42 := shR_len (rs := x11.rs)
      refine od_ ?_
      exact wk (hmx14 (Y42, Yx42, c42, d42, k42, m42, p42, q42, γ162) ⟨hO42, hP42⟩) [0, 4, 6, 24, 25, 26, 34, 36] [[_], [_], _, _] [0, 1, 2, 3] rfl rfl
     ·
      refine qo 1 [(4, .go (outs b9 (o9 + 0 * 3) [.int .i64 x18.now, .slice x18.p x18.n x18.cap, .slice x18.pa x18.na x18.ca]))] [0, 4, 6, 24, 25, 26, 33] [(37, .agg #[.int .i64 x18.now, .slice x18.p x18.n x18.cap, .slice x18.pa x18.na x18.ca])] (cellsP w b9 (o9 + 0 * 3) [.int .i64 x18.now, .slice x18.p x18.n x18.cap, .slice x18.pa x18.na x18.ca]) (rd_pre (hal.get hx18) _ rfl) ?_
      refine od_ ?_
      exact wk (hmx16 γ162 trivial) [0, 4, 6, 24, 25, 26, 33, 37] [[_], [_]] [0, 1] rfl rfl
     ·
      refine mo0 1 [] [0, 4, 6, 24, 25, 26, 33, 36] (fun γ142 => [(5, .pointer (some ⟨γ142 0, 0, none⟩))]) (fun γ142 L => bx (γ142 0) (#[.int .i64 0, .slice none 0 0, .slice none 0 0]) 27 :: L) (fun γ142 => ?_)
      refine od_ ?_
      exact wk (hmx17 (γ142, γ162) trivial) [0, 4, 5, 6, 24, 25, 26, 33, 36] [[_], [_], [_]] [1, 0, 2] rfl rfl
    refine any_cutX (V := (Nat → Nat)) (fun γ142 => True) 6 #[true, false, true, true, false, false, true, false, false, false] (fun γ142 => [(0, .slice (some ⟨b9, o9, none⟩) m cap2), (4, .pointer (some ⟨γ12 0, 0, none⟩)), (5, .pointer (some ⟨γ142 0, 0, none⟩)), (24, .slice (some ⟨b9, o9, none⟩) m cap2), (25, .int .i64 ((m : Nat))), (26, .int .i64 ((j26 : Nat))), (33, .agg #[.int .i64 x11.now, .slice x11.p x11.n x11.cap, .slice x11.pa x11.na x11.ca]), (36, .pointer (some ⟨b9, o9 + 0 * 3, none⟩))]) (fun γ142 => [bx (γ142 0) (#[.int .i64 0, .slice none 0 0, .slice none 0 0]) 27, bx (γ12 0) (#[.int .i64 x11.now, .slice x11.p x11.n x11.cap, .slice x11.pa x11.na x11.ca]) 27]) ?_ (fun hmx7 => ?_)
    ·
     rintro γ142 _
     refine any_fork [1, 4, 7] (by kernel_rfl) (by simp) (each_cons _ rfl ?_ (each_cons _ rfl ?_ (each_cons _ rfl ?_ (each_nil))))
     ·
      refine cP (fun v L' => ∃ q_ m_ c_ Y_ q2_ m2_ c2_ X_, v = .agg #[.int .i64 x11.now, .slice q_ m_ c_, .slice q2_ m2_ c2_] ∧ L' = List.take 2 ([bx (γ142 0) (#[.int .i64 0, .slice none 0 0, .slice none 0 0]) 27, bx (γ12 0) (#[.int .i64 x11.now, .slice x11.p x11.n x11.cap, .slice x11.pa x11.na x11.ca]) 27]) ++ (Y_ ++ (X_ ++ List.drop 2 ([bx (γ142 0) (#[.int .i64 0, .slice none 0 0, .slice none 0 0]) 27, bx (γ12 0) (#[.int .i64 x11.now, .slice x11.p x11.n x11.cap, .slice x11.pa x11.na x11.ca]) 27]))) ∧ SlO 88 Y_ q_ m_ c_ (shT x11.ts) ∧ SlO 47 X_ q2_ m2_ c2_ (shR x11.rs)) Try.call8 (fun w hw => (short_t x11.now x11.p x11.n x11.cap x11.ts x11.pa x11.na x11.ca x11.rs w (htx11.kept hw.below) hnx11 (by omega) (by omega) (hax11.kept hw.below) hnax11 (by omega) (by omega)).mono fun e w' ⟨q_, m_, c_, Y_, q2_, m2_, c2_, X_, he, h1, h2, hb, hY⟩ => ⟨_, _, he, ⟨q_, m_, c_, Y_, q2_, m2_, c2_, X_, rfl, rfl, h1, h2⟩, hw.joinT hb hY 2⟩) ?_
      rintro v42 L42 ⟨q42, m42, c42, Y42, p42, k42, d42, Yx42, rfl, rfl, hO42, hP42⟩
      have hm42 := hO42.len
      have hn42 := hP42.len
      have hsh42 := shT_len (ts := x11.ts)
      have hsr42 := shR_len (rs := x11.rs)
      refine od_ ?_
      exact wk (hmx13 (Y42, Yx42, c42, d42, k42, m42, p42, q42, γ142) ⟨hO42, hP42⟩) [0, 4, 5, 24, 25, 26, 34, 36] [[_], [_], _, _] [0, 1, 2, 3] rfl rfl
     ·
      refine qo 1 [(4, .go (outs b9 (o9 + 0 * 3) [.int .i64 x18.now, .slice x18.p x18.n x18.cap, .slice x18.pa x18.na x18.ca]))] [0, 4, 5, 24, 25, 26, 33] [(37, .agg #[.int .i64 x18.now, .slice x18.p x18.n x18.cap, .slice x18.pa x18.na x18.ca])] (cellsP w b9 (o9 + 0 * 3) [.int .i64 x18.now, .slice x18.p x18.n x18.cap, .slice x18.pa x18.na x18.ca]) (rd_pre (hal.get hx18) _ rfl) ?_
      refine od_ ?_
      exact wk (hmx15 γ142 trivial) [0, 4, 5, 24, 25, 26, 33, 37] [[_], [_]] [0, 1] rfl rfl
     ·
      refine mo0 1 [] [0, 4, 5, 24, 25, 26, 33, 36] (fun γ162 => [(6, .pointer (some ⟨γ162 0, 0, none⟩))]) (fun γ162 L => bx (γ162 0) (#[.int .i64 0, .slice none 0 0, .slice none 0 0]) 27 :: L) (fun γ162 => ?_)
      refine od_ ?_
      exact wk (hmx17 (γ142, γ162) trivial) [0, 4, 5, 6, 24, 25, 26, 33, 36] [[_], [_], [_]] [0, 1, 2] rfl rfl
    refine any_cutX (V := Unit) (fun _ => True) 6 #[true, false, true, true, true, false, false, false, false, false] (fun _ => [(0, .slice (some ⟨b9, o9, none⟩) m cap2), (4, .pointer (some ⟨γ12 0, 0, none⟩)), (24, .slice (some ⟨b9, o9, none⟩) m cap2), (25, .int .i64 ((m : Nat))), (26, .int .i64 ((j26 : Nat))), (33, .agg #[.int .i64 x11.now, .slice x11.p x11.n x11.cap, .slice x11.pa x11.na x11.ca]), (37, .agg #[.int .i64 x18.now, .slice x18.p x18.n x18.cap, .slice x18.pa x18.na x18.ca])]) (fun _ => [bx (γ12 0) (#[.int .i64 x11.now, .slice x11.p x11.n x11.cap, .slice x11.pa x11.na x11.ca]) 27]) ?_ (fun hmx6 => ?_)
    ·
     rintro _ _
     refine any_fork [1, 6, 7] (by kernel_rfl) (by simp) (each_cons _ rfl ?_ (each_cons _ rfl ?_ (each_cons _ rfl ?_ (each_nil))))
     ·
      refine cP (fun v L' => ∃ q_ m_ c_ Y_ q2_ m2_ c2_ X_, v = .agg #[.int .i64 x11.now, .slice q_ m_ c_, .slice q2_ m2_ c2_] ∧ L' = List.take 1 ([bx (γ12 0) (#[.int .i64 x11.now, .slice x11.p x11.n x11.cap, .slice x11.pa x11.na x11.ca]) 27]) ++ (Y_ ++ (X_ ++ List.drop 1 ([bx (γ12 0) (#[.int .i64 x11.now, .slice x11.p x11.n x11.cap, .slice x11.pa x11.na x11.ca]) 27]))) ∧ SlO 88 Y_ q_ m_ c_ (shT x11.ts) ∧ SlO 47 X_ q2_ m2_ c2_ (shR x11.rs)) Try.call8 (fun w hw => (short_t x11.now x11.p x11.n x11.cap x11.ts x11.pa x11.na x11.ca x11.rs w (htx11.kept hw.below) hnx11 (by omega) (by omega) (hax11.kept hw.below) hnax11 (by omega) (by omega)).mono fun e w' ⟨q_, m_, c_, Y_, q2_, m2_, c2_, X_, he, h1, h2, hb, hY⟩ => ⟨_, _, he, ⟨q_, m_, c_, Y_, q2_, m2_, c2_, X_, rfl, rfl, h1, h2⟩, hw.joinT hb hY 1⟩) ?_
      rintro v42 L42 ⟨q42, m42, c42, Y42, p42, k42, d42, Yx42, rfl, rfl, hO42, hP42⟩
      have hm42 := hO42.len
      have hn42 := hP42.len
      have hsh42 := shT_len (ts := x11.ts)
      have hsr42 := shR_len (rs := x11.rs)
      refine od_ ?_
      exact wk (hmx12 (Y42, Yx42, c42, d42, k42, m42, p42, q42) ⟨hO42, hP42⟩) [0, 4, 24, 25, 26, 34, 37] [[_], _, _] [0, 1, 2] rfl rfl
     ·
      refine mo0 1 [] [0, 4, 24, 25, 26, 33, 37] (fun γ142 => [(5, .pointer (some ⟨γ142 0, 0, none⟩))]) (fun γ142 L => bx (γ142 0) (#[.int .i64 0, .slice none 0 0, .slice none 0 0]) 27 :: L) (fun γ142 => ?_)
      refine od_ ?_
      exact wk (hmx15 γ142 trivial) [0, 4, 5, 24, 25, 26, 33, 37] [[_], [_]] [0, 1] rfl rfl
     ·
      refine mo0 1 [] [0, 4, 24, 25, 26, 33, 37] (fun γ162 => [(6, .pointer (some ⟨γ162 0, 0, none⟩))]) (fun γ162 L => bx (γ162 0) (#[.int .i64 0, .slice none 0 0, .slice none 0 0]) 27 :: L) (fun γ162 => ?_)
      refine od_ ?_
      exact wk (hmx16 γ162 trivial) [0, 4, 6, 24, 25, 26, 33, 37] [[_], [_]] [0, 1] rfl rfl
    refine any_cutX (V := (List Ob) × (List Ob) × (Nat) × (Nat) × (Nat) × (Nat) × (Option Addr) × (Option Addr)) (fun ⟨Y42, Yx42, c42, d42, k42, m42, p42, q42⟩ => SlO 88 Y42 q42 m42 c42 (shT x11.ts) ∧ SlO 47 Yx42 p42 k42 d42 (shR x11.rs)) 6 #[true, true, true, true, false, false, false, false, false, false] (fun ⟨Y42, Yx42, c42, d42, k42, m42, p42, q42⟩ => [(0, .slice (some ⟨b9, o9, none⟩) m cap2), (4, .pointer (some ⟨γ12 0, 0, none⟩)), (24, .slice (some ⟨b9, o9, none⟩) m cap2), (25, .int .i64 ((m : Nat))), (26, .int .i64 ((j26 : Nat))), (34, .agg #[.int .i64 x11.now, .slice q42 m42 c42, .slice p42 k42 d42]), (36, .pointer (some ⟨b9, o9 + 0 * 3, none⟩))]) (fun ⟨Y42, Yx42, c42, d42, k42, m42, p42, q42⟩ => bx (γ12 0) (#[.int .i64 x11.now, .slice x11.p x11.n x11.cap, .slice x11.pa x11.na x11.ca]) 27 :: (Y42 ++ (Yx42 ++ []))) ?_ (fun hmx5 => ?_)
    ·
     rintro ⟨Y42, Yx42, c42, d42, k42, m42, p42, q42⟩ ⟨hO42, hP42⟩
     refine any_fork [4, 6, 7] (by kernel_rfl) (by simp) (each_cons _ rfl ?_ (each_cons _ rfl ?_ (each_cons _ rfl ?_ (each_nil))))
     ·
      refine qo 1 [(4, .go (outs b9 (o9 + 0 * 3) [.int .i64 x18.now, .slice x18.p x18.n x18.cap, .slice x18.pa x18.na x18.ca]))] [0, 4, 24, 25, 26, 34] [(37, .agg #[.int .i64 x18.now, .slice x18.p x18.n x18.cap, .slice x18.pa x18.na x18.ca])] (cellsP w b9 (o9 + 0 * 3) [.int .i64 x18.now, .slice x18.p x18.n x18.cap, .slice x18.pa x18.na x18.ca]) (rd_pre (hal.get hx18) _ rfl) ?_
      refine od_ ?_
      exact wk (hmx12 (Y42, Yx42, c42, d42, k42, m42, p42, q42) ⟨hO42, hP42⟩) [0, 4, 24, 25, 26, 34, 37] [[_], _, _] [0, 1, 2] rfl rfl
     ·
      refine mo0 1 [] [0, 4, 24, 25, 26, 34, 36] (fun γ142 => [(5, .pointer (some ⟨γ142 0, 0, none⟩))]) (fun γ142 L => bx (γ142 0) (#[.int .i64 0, .slice none 0 0, .slice none 0 0]) 27 :: L) (fun γ142 => ?_)
      refine od_ ?_
      exact wk (hmx13 (Y42, Yx42, c42, d42, k42, m42, p42, q42, γ142) ⟨hO42, hP42⟩) [0, 4, 5, 24, 25, 26, 34, 36] [[_], [_], _, _] [0, 1, 2, 3] rfl rfl
     ·
      refine mo0 1 [] [0, 4, 24, 25, 26, 34, 36] (fun γ162 => [(6, .pointer (some ⟨γ162 0, 0, none⟩))]) (fun γ162 L => bx (γ162 0) (#[.int .i64 0, .slice none 0 0, .slice none 0 0]) 27 :: L) (fun γ162 => ?_)
      refine od_ ?_
      exact wk (hmx14 (Y42, Yx42, c42, d42, k42, m42, p42, q42, γ162) ⟨hO42, hP42⟩) [0, 4, 6, 24, 25, 26, 34, 36] [[_], [_], _, _] [0, 1, 2, 3] rfl rfl
    refine any_cutX (V := (Nat → Nat)) (fun γ162 => True) 7 #[false, false, true, true, false, false, false, true, false, false] (fun γ162 => [(0, .slice (some ⟨b9, o9, none⟩) m cap2), (4, .pointer (some ⟨γ12 0, 0, none⟩)), (6, .pointer (some ⟨γ162 0, 0, none⟩)), (24, .slice (some ⟨b9, o9, none⟩) m cap2), (25, .int .i64 ((m : Nat))), (26, .int .i64 ((j26 : Nat))), (36, .pointer (some ⟨b9, o9 + 0 * 3, none⟩))]) (fun γ162 => [bx (γ162 0) (#[.int .i64 0, .slice none 0 0, .slice none 0 0]) 27, bx (γ12 0) (#[.int .i64 x11.now, .slice x11.p x11.n x11.cap, .slice x11.pa x11.na x11.ca]) 27]) ?_ (fun hmx4 => ?_)
    ·
     rintro γ162 _
     refine any_fork [0, 4, 6] (by kernel_rfl) (by simp) (each_cons _ rfl ?_ (each_cons _ rfl ?_ (each_cons _ rfl ?_ (each_nil))))
     ·
      refine qo0 1 [(0, .go (owns 1 0 3))] [0, 4, 6, 24, 25, 26, 36] [(33, .agg #[.int .i64 x11.now, .slice x11.p x11.n x11.cap, .slice x11.pa x11.na x11.ca])] ?_
      refine od_ ?_
      exact wk (hmx8 γ162 trivial) [0, 4, 6, 24, 25, 26, 33, 36] [[_], [_]] [0, 1] rfl rfl
     ·
      refine qo 1 [(4, .go (outs b9 (o9 + 0 * 3) [.int .i64 x18.now, .slice x18.p x18.n x18.cap, .slice x18.pa x18.na x18.ca]))] [0, 4, 6, 24, 25, 26] [(37, .agg #[.int .i64 x18.now, .slice x18.p x18.n x18.cap, .slice x18.pa x18.na x18.ca])] (cellsP w b9 (o9 + 0 * 3) [.int .i64 x18.now, .slice x18.p x18.n x18.cap, .slice x18.pa x18.na x18.ca]) (rd_pre (hal.get hx18) _ rfl) ?_
      refine od_ ?_
      exact wk (hmx10 γ162 trivial) [0, 4, 6, 24, 25, 26, 37] [[_], [_]] [0, 1] rfl rfl
     ·
      refine mo0 1 [] [0, 4, 6, 24, 25, 26, 36] (fun γ142 => [(5, .pointer (some ⟨γ142 0, 0, none⟩))]) (fun γ142 L => bx (γ142 0) (#[.int .i64 0, .slice none 0 0, .slice none 0 0]) 27 :: L) (fun γ142 => ?_)
      refine od_ ?_
      exact wk (hmx11 (γ142, γ162) trivial) [0, 4, 5, 6, 24, 25, 26, 36] [[_], [_], [_]] [1, 0, 2] rfl rfl
    refine any_cutX (V := (Nat → Nat)) (fun γ142 => True) 7 #[false, false, true, true, false, false, true, false, false, false] (fun γ142 => [(0, .slice (some ⟨b9, o9, none⟩) m cap2), (4, .pointer (some ⟨γ12 0, 0, none⟩)), (5, .pointer (some ⟨γ142 0, 0, none⟩)), (24, .slice (some ⟨b9, o9, none⟩) m cap2), (25, .int .i64 ((m : Nat))), (26, .int .i64 ((j26 : Nat))), (36, .pointer (some ⟨b9, o9 + 0 * 3, none⟩))]) (fun γ142 => [bx (γ142 0) (#[.int .i64 0, .slice none 0 0, .slice none 0 0]) 27, bx (γ12 0) (#[.int .i64 x11.now, .slice x11.p x11.n x11.cap, .slice x11.pa x11.na x11.ca]) 27]) ?_ (fun hmx3 => ?_)
    ·
     rintro γ142 _
     refine any_fork [0, 4, 7] (by kernel_rfl) (by simp) (each_cons _ rfl ?_ (each_cons _ rfl ?_ (each_cons _ rfl ?_ (each_nil))))
     ·
      refine qo0 1 [(0, .go (owns 1 0 3))] [0, 4, 5, 24, 25, 26, 36] [(33, .agg #[.int .i64 x11.now, .slice x11.p x11.n x11.cap, .slice x11.pa x11.na x11.ca])] ?_
      refine od_ ?_
      exact wk (hmx7 γ142 trivial) [0, 4, 5, 24, 25, 26, 33, 36] [[_], [_]] [0, 1] rfl rfl
     ·
      refine qo 1 [(4, .go (outs b9 (o9 + 0 * 3) [.int .i64 x18.now, .slice x18.p x18.n x18.cap, .slice x18.pa x18.na x18.ca]))] [0, 4, 5, 24, 25, 26] [(37, .agg #[.int .i64 x18.now, .slice x18.p x18.n x18.cap, .slice x18.pa x18.na x18.ca])] (cellsP w b9 (o9 + 0 * 3) [.int .i64 x18.now, .slice x18.p x18.n x18.cap, .slice x18.pa x18.na x18.ca]) (rd_pre (hal.get hx18) _ rfl) ?_
      refine od_ ?_
      exact wk (hmx9 γ142 trivial) [0, 4, 5, 24, 25, 26, 37] [[_], [_]] [0, 1] rfl rfl
     ·
      refine mo0 1 [] [0, 4, 5, 24, 25, 26, 36] (fun γ162 => [(6, .pointer (some ⟨γ162 0, 0, none⟩))]) (fun γ162 L => bx (γ162 0) (#[.int .i64 0, .slice none 0 0, .slice none 0 0]) 27 :: L) (fun γ162 => ?_)
      refine od_ ?_
      exact wk (hmx11 (γ142, γ162) trivial) [0, 4, 5, 6, 24, 25, 26, 36] [[_], [_], [_]] [0, 1, 2] rfl rfl
    refine any_cutX (V := Unit) (fun _ => True) 7 #[false, false, true, true, true, false, false, false, false, false] (fun _ => [(0, .slice (some ⟨b9, o9, none⟩) m cap2), (4, .pointer (some ⟨γ12 0, 0, none⟩)), (24, .slice (some ⟨b9, o9, none⟩) m cap2), (25, .int .i64 ((m : Nat))), (26, .int .i64 ((j26 : Nat))), (37, .agg #[.int .i64 x18.now, .slice x18.p x18.n x18.cap, .slice x18.pa x18.na x18.ca])]) (fun _ => [bx (γ12 0) (#[.int .i64 x11.now, .slice x11.p x11.n x11.cap, .slice x11.pa x11.na x11.ca]) 27]) ?_ (fun hmx2 => ?_)
    ·
     rintro _ _
     refine any_fork [0, 6, 7] (by kernel_rfl) (by simp) (each_cons _ rfl ?_ (each_cons _ rfl ?_ (each_cons _ rfl ?_ (each_nil))))
     ·
      refine qo0 1 [(0, .go (owns 0 0 3))] [0, 4, 24, 25, 26, 37] [(33, .agg #[.int .i64 x11.now, .slice x11.p x11.n x11.cap, .slice x11.pa x11.na x11.ca])] ?_
      refine od_ ?_
      exact wk (hmx6 () trivial) [0, 4, 24, 25, 26, 33, 37] [[_]] [0] rfl rfl
     ·
      refine mo0 1 [] [0, 4, 24, 25, 26, 37] (fun γ142 => [(5, .pointer (some ⟨γ142 0, 0, none⟩))]) (fun γ142 L => bx (γ142 0) (#[.int .i64 0, .slice none 0 0, .slice none 0 0]) 27 :: L) (fun γ142 => ?_)
      refine od_ ?_
      exact wk (hmx9 γ142 trivial) [0, 4, 5, 24, 25, 26, 37] [[_], [_]] [0, 1] rfl rfl
     ·
      refine mo0 1 [] [0, 4, 24, 25, 26, 37] (fun γ162 => [(6, .pointer (some ⟨γ162 0, 0, none⟩))]) (fun γ162 L => bx (γ162 0) (#[.int .i64 0, .slice none 0 0, .slice none 0 0]) 27 :: L) (fun γ162 => ?_)
      refine od_ ?_
      exact wk (hmx10 γ162 trivial) [0, 4, 6, 24, 25, 26, 37] [[_], [_]] [0, 1] rfl rfl
    refine any_cutX (V := Unit) (fun _ => True) 7 #[true, false, true, true, false, false, false, false, false, false] (fun _ => [(0, .slice (some ⟨b9, o9, none⟩) m cap2), (4, .pointer (some ⟨γ12 0, 0, none⟩)), (24, .slice (some ⟨b9, o9, none⟩) m cap2), (25, .int .i64 ((m : Nat))), (26, .int .i64 ((j26 : Nat))), (33, .agg #[.int .i64 x11.now, .slice x11.p x11.n x11.cap, .slice x11.pa x11.na x11.ca]), (36, .pointer (some ⟨b9, o9 + 0 * 3, none⟩))]) (fun _ => [bx (γ12 0) (#[.int .i64 x11.now, .slice x11.p x11.n x11.cap, .slice x11.pa x11.na x11.ca]) 27]) ?_ (fun hmx1 => ?_)
    ·
     rintro _ _
     refine any_fork [1, 4, 6, 7] (by kernel_rfl) (by simp) (each_cons _ rfl ?_ (each_cons _ rfl ?_ (each_cons _ rfl ?_ (each_cons _ rfl ?_ (each_nil)))))
     ·
      refine cP (fun v L' => ∃ q_ m_ c_ Y_ q2_ m2_ c2_ X_, v = .agg #[.int .i64 x11.now, .slice q_ m_ c_, .slice q2_ m2_ c2_] ∧ L' = List.take 1 ([bx (γ12 0) (#[.int .i64 x11.now, .slice x11.p x11.n x11.cap, .slice x11.pa x11.na x11.ca]) 27]) ++ (Y_ ++ (X_ ++ List.drop 1 ([bx (γ12 0) (#[.int .i64 x11.now, .slice x11.p x11.n x11.cap, .slice x11.pa x11.na x11.ca]) 27]))) ∧ SlO 88 Y_ q_ m_ c_ (shT x11.ts) ∧ SlO 47 X_ q2_ m2_ c2_ (shR x11.rs)) Try.call8 (fun w hw => (short_t x11.now x11.p x11.n x11.cap x11.ts x11.pa x11.na x11.ca x11.rs w (htx11.kept hw.below) hnx11 (by omega) (by omega) (hax11.kept hw.below) hnax11 (by omega) (by omega)).mono fun e w' ⟨q_, m_, c_, Y_, q2_, m2_, c2_, X_, he, h1, h2, hb, hY⟩ => ⟨_, _, he, ⟨q_, m_, c_, Y_, q2_, m2_, c2_, X_, rfl, rfl, h1, h2⟩, hw.joinT hb hY 1⟩) ?_
      rintro v42 L42 ⟨q42, m42, c42, Y42, p42, k42, d42, Yx42, rfl, rfl, hO42, hP42⟩
      have hm42 := hO42.len
      have hn42 := hP42.len
      have hsh42 := shT_len (ts := x11.ts)
      have hsr42 := shR_len (rs := x11.rs)
      refine od_ ?_
      exact wk (hmx5 (Y42, Yx42, c42, d42, k42, m42, p42, q42) ⟨hO42, hP42⟩) [0, 4, 24, 25, 26, 34, 36] [[_], _, _] [0, 1, 2] rfl rfl
     ·
      refine qo 1 [(4, .go (outs b9 (o9 + 0 * 3) [.int .i64 x18.now, .slice x18.p x18.n x18.cap, .slice x18.pa x18.na x18.ca]))] [0, 4, 24, 25, 26, 33] [(37, .agg #[.int .i64 x18.now, .slice x18.p x18.n x18.cap, .slice x18.pa x18.na x18.ca])] (cellsP w b9 (o9 + 0 * 3) [.int .i64 x18.now, .slice x18.p x18.n x18.cap, .slice x18.pa x18.na x18.ca]) (rd_pre (hal.get hx18) _ rfl) ?_
      refine od_ ?_
      exact wk (hmx6 () trivial) [0, 4, 24, 25, 26, 33, 37] [[_]] [0] rfl rfl
     ·
      refine mo0 1 [] [0, 4, 24, 25, 26, 33, 36] (fun γ142 => [(5, .pointer (some ⟨γ142 0, 0, none⟩))]) (fun γ142 L => bx (γ142 0) (#[.int .i64 0, .slice none 0 0, .slice none 0 0]) 27 :: L) (fun γ142 => ?_)
      refine od_ ?_
      exact wk (hmx7 γ142 trivial) [0, 4, 5, 24, 25, 26, 33, 36] [[_], [_]] [0, 1] rfl rfl
     ·
      refine mo0 1 [] [0, 4, 24, 25, 26, 33, 36] (fun γ162 => [(6, .pointer (some ⟨γ162 0, 0, none⟩))]) (fun γ162 L => bx (γ162 0) (#[.int .i64 0, .slice none 0 0, .slice none 0 0]) 27 :: L) (fun γ162 => ?_)
      refine od_ ?_
      exact wk (hmx8 γ162 trivial) [0, 4, 6, 24, 25, 26, 33, 36] [[_], [_]] [0, 1] rfl rfl
    refine any_fork [0, 4, 6, 7] (by kernel_rfl) (by simp) (each_cons _ rfl ?_ (each_cons _ rfl ?_ (each_cons _ rfl ?_ (each_cons _ rfl ?_ (each_nil)))))
    ·
     refine qo0 1 [(0, .go (owns 0 0 3))] [0, 4, 24, 25, 26, 36] [(33, .agg #[.int .i64 x11.now, .slice x11.p x11.n x11.cap, .slice x11.pa x11.na x11.ca])] ?_
     refine od_ ?_
     exact wk (hmx1 () trivial) [0, 4, 24, 25, 26, 33, 36] [[_]] [0] rfl rfl
    ·
     refine qo 1 [(4, .go (outs b9 (o9 + 0 * 3) [.int .i64 x18.now, .slice x18.p x18.n x18.cap, .slice x18.pa x18.na x18.ca]))] [0, 4, 24, 25, 26] [(37, .agg #[.int .i64 x18.now, .slice x18.p x18.n x18.cap, .slice x18.pa x18.na x18.ca])] (cellsP w b9 (o9 + 0 * 3) [.int .i64 x18.now, .slice x18.p x18.n x18.cap, .slice x18.pa x18.na x18.ca]) (rd_pre (hal.get hx18) _ rfl) ?_
     refine od_ ?_
     exact wk (hmx2 () trivial) [0, 4, 24, 25, 26, 37] [[_]] [0] rfl rfl
    ·
     refine mo0 1 [] [0, 4, 24, 25, 26, 36] (fun γ142 => [(5, .pointer (some ⟨γ142 0, 0, none⟩))]) (fun γ142 L => bx (γ142 0) (#[.int .i64 0, .slice none 0 0, .slice none 0 0]) 27 :: L) (fun γ142 => ?_)
     refine od_ ?_
     exact wk (hmx3 γ142 trivial) [0, 4, 5, 24, 25, 26, 36] [[_], [_]] [0, 1] rfl rfl
    ·
     refine mo0 1 [] [0, 4, 24, 25, 26, 36] (fun γ162 => [(6, .pointer (some ⟨γ162 0, 0, none⟩))]) (fun γ162 L => bx (γ162 0) (#[.int .i64 0, .slice none 0 0, .slice none 0 0]) 27 :: L) (fun γ162 => ?_)
     refine od_ ?_
     exact wk (hmx4 γ162 trivial) [0, 4, 6, 24, 25, 26, 36] [[_], [_]] [0, 1] rfl rfl
   rintro ⟨Y122, Y42, Yx122, Yx42, c122, c42, d122, d42, k122, k42, m122, m42, p122, p42, q122, q42, γ142, γ162⟩ ⟨hO122, hO42, hP122, hP42⟩
   refine any_nil (by kernel_rfl) ?_
   refine ds_ (sq_ ?_)
   have hka0 := hO42.len
   have hkb0 := hP42.len
   have hkc0 := shT_len (ts := x11.ts)
   have hkd0 := shR_len (rs := x11.rs)
   have hka1 := hO122.len
   have hkb1 := hP122.len
   have hkc1 := shT_len (ts := x18.ts)
   have hkd1 := shR_len (rs := x18.rs)
   refine ao_ (qo0 1 [(0, .go (owns 1 0 3))] [0, 4, 5, 6, 24, 25, 26] [(39, .agg #[.int .i64 x11.now, .slice q42 m42 c42, .slice p42 k42 d42])] ?_)
   rcases q262 : alB x11.now ((shT x11.ts)) ((shR x11.rs)) with _ | _
   ·
    refine cD (.bool false) Try.call16 (fun w hw => by have := rright8_t x11.now q42 m42 c42 ((shT x11.ts)) p42 k42 d42 ((shR x11.rs)) w (hO42.atN (A := (_ :: _ :: _ :: Y122)) hw) hO42.len (by omega) (hP42.at ((hw.tailN 3).sub (((List.sublist_append_right Yx122 _).trans (List.sublist_append_right Y42 _)).trans (List.sublist_append_right Y122 _)))) hP42.len (by omega); rw [q262] at this; exact this) (qo0 1 [] [0, 4, 5, 6, 24, 25, 26] [(7, .bool false)] (on_ (ds_ (sq_ (sq_ (ao_ (qo0 1 [(0, .go (owns 1 0 3))] [0, 4, 5, 6, 7, 24, 25, 26] [(41, .agg #[.int .i64 x11.now, .slice q42 m42 c42, .slice p42 k42 d42])] (cD (.int .i64 280) Try.call9 (fun w hw => by have := acheck_t x11.now q42 m42 c42 ((shT x11.ts)) p42 k42 d42 ((shR x11.rs)) w (hO42.atN (A := (_ :: _ :: _ :: Y122)) hw) hO42.len (by omega) (hP42.at ((hw.tailN 3).sub (((List.sublist_append_right Yx122 _).trans (List.sublist_append_right Y42 _)).trans (List.sublist_append_right Y122 _)))) hP42.len (by omega); rw [q262] at this; exact this) (qo0 1 [] [0, 4, 5, 6, 7, 24, 25, 26] [(8, .int .i64 280)] (on_ (ds_ (sq_ (at_calmTo (f := 6) 22 rfl (by kernel_rfl) (by kernel_rfl) (by kernel_rfl) (by kernel_rfl) (by kernel_rfl) (by kernel_rfl) ?_)))))))))))))
    refine cm 14 [(3, .eqs false), (13, .go (owns 1 0 3))] [0, 4, 5, 6, 7, 24, 25, 26] [(55, .bool false), (56, .agg #[.int .i64 x11.now, .slice q42 m42 c42, .slice p42 k42 d42])] ([EqRun Try.prog .neq 4 (.tmp 44) (.tmp 45) (.bool false) (.bool false) false]) (by kernel_rfl) rfl (al1 (bool_ne false false)) ?_
    refine cm 1 [(14, .go (owns 0 0 3))] [0, 4, 5, 6, 7, 24, 25, 26, 55, 56] [(57, .agg #[.int .i64 x18.now, .slice q122 m122 c122, .slice p122 k122 d122])] ([]) (by kernel_rfl) rfl al0 ?_
    refine cK (.bool (sameA x11.now ((shT x11.ts)) ((shR x11.rs)) x18.now ((shT x18.ts)) ((shR x18.rs)))) Try.call11 (fun w hw => by have hq0 := hO42.len; have hq1 := hP42.len; have hq2 := hO122.len; have hq3 := hP122.len; have := asame_t x11.now q42 m42 c42 ((shT x11.ts)) p42 k42 d42 ((shR x11.rs)) x18.now q122 m122 c122 ((shT x18.ts)) p122 k122 d122 ((shR x18.rs)) w (hO42.atN (A := (_ :: _ :: _ :: Y122)) hw) hO42.len (by omega) (hP42.at ((hw.tailN 3).sub (((List.sublist_append_right Yx122 _).trans (List.sublist_append_right Y42 _)).trans (List.sublist_append_right Y122 _)))) hP42.len (by omega) (hO122.atN (A := [_, _, _]) hw) hO122.len (by omega) (hP122.at ((hw.tailN 3).sub ((List.sublist_append_right Y42 _).trans (List.sublist_append_right Y122 _)))) hP122.len (by omega); exact this) ?_
    refine cm 2 [(16, .go (owns 1 0 3)), (17, .go (owns 0 0 3))] [0, 4, 5, 7, 24, 25, 26, 55, 58] [(59, .agg #[.int .i64 x11.now, .slice q42 m42 c42, .slice p42 k42 d42]), (60, .agg #[.int .i64 x18.now, .slice q122 m122 c122, .slice p122 k122 d122])] ([]) (by kernel_rfl) rfl al0 ?_
    refine cK (.bool (sameA x11.now ((shT x11.ts)) ((shR x11.rs)) x18.now ((shT x18.ts)) ((shR x18.rs)))) Try.call17 (fun w hw => by have hq0 := hO42.len; have hq1 := hP42.len; have hq2 := hO122.len; have hq3 := hP122.len; have := rsame8_t x11.now q42 m42 c42 ((shT x11.ts)) p42 k42 d42 ((shR x11.rs)) x18.now q122 m122 c122 ((shT x18.ts)) p122 k122 d122 ((shR x18.rs)) w (hO42.atN (A := (_ :: _ :: _ :: Y122)) hw) hO42.len (by omega) (hP42.at ((hw.tailN 3).sub (((List.sublist_append_right Yx122 _).trans (List.sublist_append_right Y42 _)).trans (List.sublist_append_right Y122 _)))) hP42.len (by omega) (hO122.atN (A := [_, _, _]) hw) hO122.len (by omega) (hP122.at ((hw.tailN 3).sub ((List.sublist_append_right Y42 _).trans (List.sublist_append_right Y122 _)))) hP122.len (by omega); exact this) ?_
    refine cm 3 [(19, .eqs false)] [0, 4, 5, 7, 24, 25, 26] [(64, .bool false)] ([EqRun Try.prog .neq 4 (.tmp 58) (.tmp 61) (.bool (sameA x11.now ((shT x11.ts)) ((shR x11.rs)) x18.now ((shT x18.ts)) ((shR x18.rs)))) (.bool (sameA x11.now ((shT x11.ts)) ((shR x11.rs)) x18.now ((shT x18.ts)) ((shR x18.rs)))) false]) (by kernel_rfl) rfl (al1 (bool_same _)) ?_
    refine calm_nil' ?_
    refine done_pre (li' := #[true, true, true, true, true, true, true, true, true, true, true, true, true, true, true, true, true, true, true, true, true, true, false, false, false, false, false, false]) (by kernel_rfl) ?_
    refine any_cutX (V := (List Ob) × (List Ob) × (Nat) × (Nat) × (Nat) × (Nat) × (Option Addr) × (Option Addr)) (fun ⟨Y752, Yx752, c752, d752, k752, m752, p752, q752⟩ => SlO 88 Y752 q752 m752 c752 (shT x11.ts) ∧ SlO 47 Yx752 p752 k752 d752 (shR x11.rs)) 0 #[true, true, true, true, true, true, true, true, true, true, true, true, true, true, true, true, true, true, true, true, true, true, true, true, true, true, true, true] (fun ⟨Y752, Yx752, c752, d752, k752, m752, p752, q752⟩ => [(0, .slice (some ⟨b9, o9, none⟩) m cap2), (5, .pointer (some ⟨γ142 0, 0, none⟩)), (7, .bool false), (24, .slice (some ⟨b9, o9, none⟩) m cap2), (25, .int .i64 ((m : Nat))), (26, .int .i64 ((j26 : Nat))), (70, .bool false)]) (fun ⟨Y752, Yx752, c752, d752, k752, m752, p752, q752⟩ => bx (γ162 0) (#[.int .i64 x18.now, .slice q122 m122 c122, .slice p122 k122 d122]) 27 :: bx (γ142 0) (#[.int .i64 x11.now, .slice q42 m42 c42, .slice p42 k42 d42]) 27 :: bx (γ12 0) (#[.int .i64 x11.now, .slice x11.p x11.n x11.cap, .slice x11.pa x11.na x11.ca]) 27 :: (Y752 ++ (Yx752 ++ (Y122 ++ (Y42 ++ (Yx122 ++ (Yx42 ++ []))))))) ?_ (fun hmx6 => ?_)
    rotate_left
    ·
     refine any_cutX (V := (List Ob) × (List Ob) × (Nat) × (Nat) × (Nat) × (Nat) × (Option Addr) × (Option Addr)) (fun ⟨Y752, Yx752, c752, d752, k752, m752, p752, q752⟩ => SlO 88 Y752 q752 m752 c752 (shT x11.ts) ∧ SlO 47 Yx752 p752 k752 d752 (shR x11.rs)) 3 #[true, true, true, true, true, true, true, true, true, true, true, true, true, true, true, true, true, true, true, true, true, true, true, true, true, false, false, false] (fun ⟨Y752, Yx752, c752, d752, k752, m752, p752, q752⟩ => [(0, .slice (some ⟨b9, o9, none⟩) m cap2), (5, .pointer (some ⟨γ142 0, 0, none⟩)), (7, .bool false), (24, .slice (some ⟨b9, o9, none⟩) m cap2), (25, .int .i64 ((m : Nat))), (26, .int .i64 ((j26 : Nat))), (64, .bool false), (65, .agg #[.int .i64 x11.now, .slice q42 m42 c42, .slice p42 k42 d42]), (67, .agg #[.int .i64 x11.now, .slice q752 m752 c752, .slice p752 k752 d752])]) (fun ⟨Y752, Yx752, c752, d752, k752, m752, p752, q752⟩ => bx (γ162 0) (#[.int .i64 x18.now, .slice q122 m122 c122, .slice p122 k122 d122]) 27 :: bx (γ142 0) (#[.int .i64 x11.now, .slice q42 m42 c42, .slice p42 k42 d42]) 27 :: bx (γ12 0) (#[.int .i64 x11.now, .slice x11.p x11.n x11.cap, .slice x11.pa x11.na x11.ca]) 27 :: (Y752 ++ (Yx752 ++ (Y122 ++ (Y42 ++ (Yx122 ++ (Yx42 ++ []))))))) ?_ (fun hmx5 => ?_)
     ·
      rintro ⟨Y752, Yx752, c752, d752, k752, m752, p752, q752⟩ ⟨hO752, hP752⟩
      refine a1 25 rfl ?_
      refine cD (.bool true) Try.call11 (fun w hw => by have hq0 := hO42.len; have hq1 := hP42.len; have hq2 := hO752.len; have hq3 := hP752.len; have := asame_t x11.now q42 m42 c42 ((shT x11.ts)) p42 k42 d42 ((shR x11.rs)) x11.now q752 m752 c752 ((shT x11.ts)) p752 k752 d752 ((shR x11.rs)) w (hO42.at ((hw.tailN 3).sub (((List.sublist_append_right Y122 _).trans (List.sublist_append_right Yx752 _)).trans (List.sublist_append_right Y752 _)))) hO42.len (by omega) (hP42.at ((hw.tailN 3).sub (((((List.sublist_append_right Yx122 _).trans (List.sublist_append_right Y42 _)).trans (List.sublist_append_right Y122 _)).trans (List.sublist_append_right Yx752 _)).trans (List.sublist_append_right Y752 _)))) hP42.len (by omega) (hO752.atN (A := [_, _, _]) hw) hO752.len (by omega) (hP752.atN (A := (_ :: _ :: _ :: Y752)) hw) hP752.len (by omega); rw [sameA_refl] at this; exact this) ?_
      refine od_ ?_
      refine tk (m := 0) [26, 27] [] [0, 5, 7, 24, 25, 26] [(70, .bool false)] ([]) #[true, true, true, true, true, true, true, true, true, true, true, true, true, true, true, true, true, true, true, true, true, true, true, true, true, true, true, true] al0 ?_
      exact wk (hmx6 (Y752, Yx752, c752, d752, k752, m752, p752, q752) ⟨hO752, hP752⟩) [0, 5, 7, 24, 25, 26, 70] [[_], [_], [_], _, _, _, _, _, _] [0, 1, 2, 3, 4, 5, 6, 7, 8] rfl rfl
     refine any_cutX (V := (List Ob) × (List Ob) × (Nat) × (Nat) × (Nat) × (Nat) × (Option Addr) × (Option Addr)) (fun ⟨Y752, Yx752, c752, d752, k752, m752, p752, q752⟩ => SlO 88 Y752 q752 m752 c752 (shT x11.ts) ∧ SlO 47 Yx752 p752 k752 d752 (shR x11.rs)) 4 #[true, true, true, true, true, true, true, true, true, true, true, true, true, true, true, true, true, true, true, true, true, true, false, true, true, false, false, false] (fun ⟨Y752, Yx752, c752, d752, k752, m752, p752, q752⟩ => [(0, .slice (some ⟨b9, o9, none⟩) m cap2), (5, .pointer (some ⟨γ142 0, 0, none⟩)), (7, .bool false), (24, .slice (some ⟨b9, o9, none⟩) m cap2), (25, .int .i64 ((m : Nat))), (26, .int .i64 ((j26 : Nat))), (64, .bool false), (67, .agg #[.int .i64 x11.now, .slice q752 m752 c752, .slice p752 k752 d752])]) (fun ⟨Y752, Yx752, c752, d752, k752, m752, p752, q752⟩ => bx (γ162 0) (#[.int .i64 x18.now, .slice q122 m122 c122, .slice p122 k122 d122]) 27 :: bx (γ142 0) (#[.int .i64 x11.now, .slice q42 m42 c42, .slice p42 k42 d42]) 27 :: bx (γ12 0) (#[.int .i64 x11.now, .slice x11.p x11.n x11.cap, .slice x11.pa x11.na x11.ca]) 27 :: (Y752 ++ (Yx752 ++ (Y122 ++ (Y42 ++ (Yx122 ++ (Yx42 ++ []))))))) ?_ (fun hmx4 => ?_)
     ·
      rintro ⟨Y752, Yx752, c752, d752, k752, m752, p752, q752⟩ ⟨hO752, hP752⟩
      refine a1 22 rfl ?_
      refine qo0 1 [(22, .go (owns 1 0 3))] [0, 5, 7, 24, 25, 26, 64, 67] [(65, .agg #[.int .i64 x11.now, .slice q42 m42 c42, .slice p42 k42 d42])] ?_
      refine od_ ?_
      exact wk (hmx5 (Y752, Yx752, c752, d752, k752, m752, p752, q752) ⟨hO752, hP752⟩) [0, 5, 7, 24, 25, 26, 64, 65, 67] [[_], [_], [_], _, _, _, _, _, _] [0, 1, 2, 3, 4, 5, 6, 7, 8] rfl rfl
     refine any_cutX (V := Unit) (fun _ => True) 4 #[true, true, true, true, true, true, true, true, true, true, true, true, true, true, true, true, true, true, true, true, true, true, true, true, false, false, false, false] (fun _ => [(0, .slice (some ⟨b9, o9, none⟩) m cap2), (5, .pointer (some ⟨γ142 0, 0, none⟩)), (7, .bool false), (24, .slice (some ⟨b9, o9, none⟩) m cap2), (25, .int .i64 ((m : Nat))), (26, .int .i64 ((j26 : Nat))), (64, .bool false), (65, .agg #[.int .i64 x11.now, .slice q42 m42 c42, .slice p42 k42 d42]), (66, .agg #[.int .i64 x11.now, .slice x11.p x11.n x11.cap, .slice x11.pa x11.na x11.ca])]) (fun _ => bx (γ162 0) (#[.int .i64 x18.now, .slice q122 m122 c122, .slice p122 k122 d122]) 27 :: bx (γ142 0) (#[.int .i64 x11.now, .slice q42 m42 c42, .slice p42 k42 d42]) 27 :: bx (γ12 0) (#[.int .i64 x11.now, .slice x11.p x11.n x11.cap, .slice x11.pa x11.na x11.ca]) 27 :: (Y122 ++ (Y42 ++ (Yx122 ++ (Yx42 ++ []))))) ?_ (fun hmx3 => ?_)
     ·
      rintro _ _
      refine a1 24 rfl ?_
      refine cP (fun v L' => ∃ q_ m_ c_ Y_ q2_ m2_ c2_ X_, v = .agg #[.int .i64 x11.now, .slice q_ m_ c_, .slice q2_ m2_ c2_] ∧ L' = List.take 3 (bx (γ162 0) (#[.int .i64 x18.now, .slice q122 m122 c122, .slice p122 k122 d122]) 27 :: bx (γ142 0) (#[.int .i64 x11.now, .slice q42 m42 c42, .slice p42 k42 d42]) 27 :: bx (γ12 0) (#[.int .i64 x11.now, .slice x11.p x11.n x11.cap, .slice x11.pa x11.na x11.ca]) 27 :: (Y122 ++ (Y42 ++ (Yx122 ++ (Yx42 ++ []))))) ++ (Y_ ++ (X_ ++ List.drop 3 (bx (γ162 0) (#[.int .i64 x18.now, .slice q122 m122 c122, .slice p122 k122 d122]) 27 :: bx (γ142 0) (#[.int .i64 x11.now, .slice q42 m42 c42, .slice p42 k42 d42]) 27 :: bx (γ12 0) (#[.int .i64 x11.now, .slice x11.p x11.n x11.cap, .slice x11.pa x11.na x11.ca]) 27 :: (Y122 ++ (Y42 ++ (Yx122 ++ (Yx42 ++ []))))))) ∧ SlO 88 Y_ q_ m_ c_ (shT x11.ts) ∧ SlO 47 X_ q2_ m2_ c2_ (shR x11.rs)) Try.call8 (fun w hw => (short_t x11.now x11.p x11.n x11.cap x11.ts x11.pa x11.na x11.ca x11.rs w (htx11.kept hw.below) hnx11 (by omega) (by omega) (hax11.kept hw.below) hnax11 (by omega) (by omega)).mono fun e w' ⟨q_, m_, c_, Y_, q2_, m2_, c2_, X_, he, h1, h2, hb, hY⟩ => ⟨_, _, he, ⟨q_, m_, c_, Y_, q2_, m2_, c2_, X_, rfl, rfl, h1, h2⟩, hw.joinT hb hY 3⟩) ?_
      rintro v752 L752 ⟨q752, m752, c752, Y752, p752, k752, d752, Yx752, rfl, rfl, hO752, hP752⟩
      have hm752 := hO752.len
      have hn752 := hP752.len
      have hsh752 := shT_len (ts := x11.ts)
      have hsr752 := shR_len (rs := x11.rs)
      refine od_ ?_
      exact wk (hmx5 (Y752, Yx752, c752, d752, k752, m752, p752, q752) ⟨hO752, hP752⟩) [0, 5, 7, 24, 25, 26, 64, 65, 67] [[_], [_], [_], _, _, _, _, _, _] [0, 1, 2, 3, 4, 5, 6, 7, 8] rfl rfl
     refine any_cutX (V := Unit) (fun _ => True) 5 #[true, true, true, true, true, true, true, true, true, true, true, true, true, true, true, true, true, true, true, true, true, true, false, true, false, false, false, false] (fun _ => [(0, .slice (some ⟨b9, o9, none⟩) m cap2), (5, .pointer (some ⟨γ142 0, 0, none⟩)), (7, .bool false), (24, .slice (some ⟨b9, o9, none⟩) m cap2), (25, .int .i64 ((m : Nat))), (26, .int .i64 ((j26 : Nat))), (64, .bool false), (66, .agg #[.int .i64 x11.now, .slice x11.p x11.n x11.cap, .slice x11.pa x11.na x11.ca])]) (fun _ => bx (γ162 0) (#[.int .i64 x18.now, .slice q122 m122 c122, .slice p122 k122 d122]) 27 :: bx (γ142 0) (#[.int .i64 x11.now, .slice q42 m42 c42, .slice p42 k42 d42]) 27 :: bx (γ12 0) (#[.int .i64 x11.now, .slice x11.p x11.n x11.cap, .slice x11.pa x11.na x11.ca]) 27 :: (Y122 ++ (Y42 ++ (Yx122 ++ (Yx42 ++ []))))) ?_ (fun hmx2 => ?_)
     ·
      rintro _ _
      refine any_fork [22, 24] (by kernel_rfl) (by simp) (each_cons _ rfl ?_ (each_cons _ rfl ?_ (each_nil)))
      ·
       refine qo0 1 [(22, .go (owns 1 0 3))] [0, 5, 7, 24, 25, 26, 64, 66] [(65, .agg #[.int .i64 x11.now, .slice q42 m42 c42, .slice p42 k42 d42])] ?_
       refine od_ ?_
       exact wk (hmx3 () trivial) [0, 5, 7, 24, 25, 26, 64, 65, 66] [[_], [_], [_], _, _, _, _] [0, 1, 2, 3, 4, 5, 6] rfl rfl
      ·
       refine cP (fun v L' => ∃ q_ m_ c_ Y_ q2_ m2_ c2_ X_, v = .agg #[.int .i64 x11.now, .slice q_ m_ c_, .slice q2_ m2_ c2_] ∧ L' = List.take 3 (bx (γ162 0) (#[.int .i64 x18.now, .slice q122 m122 c122, .slice p122 k122 d122]) 27 :: bx (γ142 0) (#[.int .i64 x11.now, .slice q42 m42 c42, .slice p42 k42 d42]) 27 :: bx (γ12 0) (#[.int .i64 x11.now, .slice x11.p x11.n x11.cap, .slice x11.pa x11.na x11.ca]) 27 :: (Y122 ++ (Y42 ++ (Yx122 ++ (Yx42 ++ []))))) ++ (Y_ ++ (X_ ++ List.drop 3 (bx (γ162 0) (#[.int .i64 x18.now, .slice q122 m122 c122, .slice p122 k122 d122]) 27 :: bx (γ142 0) (#[.int .i64 x11.now, .slice q42 m42 c42, .slice p42 k42 d42]) 27 :: bx (γ12 0) (#[.int .i64 x11.now, .slice x11.p x11.n x11.cap, .slice x11.pa x11.na x11.ca]) 27 :: (Y122 ++ (Y42 ++ (Yx122 ++ (Yx42 ++ []))))))) ∧ SlO 88 Y_ q_ m_ c_ (shT x11.ts) ∧ SlO 47 X_ q2_ m2_ c2_ (shR x11.rs)) Try.call8 (fun w hw => (short_t x11.now x11.p x11.n x11.cap x11.ts x11.pa x11.na x11.ca x11.rs w (htx11.kept hw.below) hnx11 (by omega) (by omega) (hax11.kept hw.below) hnax11 (by omega) (by omega)).mono fun e w' ⟨q_, m_, c_, Y_, q2_, m2_, c2_, X_, he, h1, h2, hb, hY⟩ => ⟨_, _, he, ⟨q_, m_, c_, Y_, q2_, m2_, c2_, X_, rfl, rfl, h1, h2⟩, hw.joinT hb hY 3⟩) ?_
       rintro v752 L752 ⟨q752, m752, c752, Y752, p752, k752, d752, Yx752, rfl, rfl, hO752, hP752⟩
       have hm752 := hO752.len
       have hn752 := hP752.len
       have hsh752 := shT_len (ts := x11.ts)
       have hsr752 := shR_len (rs := x11.rs)
       refine od_ ?_
       exact wk (hmx4 (Y752, Yx752, c752, d752, k752, m752, p752, q752) ⟨hO752, hP752⟩) [0, 5, 7, 24, 25, 26, 64, 67] [[_], [_], [_], _, _, _, _, _, _] [0, 1, 2, 3, 4, 5, 6, 7, 8] rfl rfl
     refine any_cutX (V := Unit) (fun _ => True) 5 #[true, true, true, true, true, true, true, true, true, true, true, true, true, true, true, true, true, true, true, true, true, true, true, false, false, false, false, false] (fun _ => [(0, .slice (some ⟨b9, o9, none⟩) m cap2), (4, .pointer (some ⟨γ12 0, 0, none⟩)), (5, .pointer (some ⟨γ142 0, 0, none⟩)), (7, .bool false), (24, .slice (some ⟨b9, o9, none⟩) m cap2), (25, .int .i64 ((m : Nat))), (26, .int .i64 ((j26 : Nat))), (64, .bool false), (65, .agg #[.int .i64 x11.now, .slice q42 m42 c42, .slice p42 k42 d42])]) (fun _ => bx (γ162 0) (#[.int .i64 x18.now, .slice q122 m122 c122, .slice p122 k122 d122]) 27 :: bx (γ142 0) (#[.int .i64 x11.now, .slice q42 m42 c42, .slice p42 k42 d42]) 27 :: bx (γ12 0) (#[.int .i64 x11.now, .slice x11.p x11.n x11.cap, .slice x11.pa x11.na x11.ca]) 27 :: (Y122 ++ (Y42 ++ (Yx122 ++ (Yx42 ++ []))))) ?_ (fun hmx1 => ?_)
     ·
      rintro _ _
      refine a1 23 rfl ?_
      refine qo0 1 [(23, .go (owns 2 0 3))] [0, 5, 7, 24, 25, 26, 64, 65] [(66, .agg #[.int .i64 x11.now, .slice x11.p x11.n x11.cap, .slice x11.pa x11.na x11.ca])] ?_
      refine od_ ?_
      exact wk (hmx3 () trivial) [0, 5, 7, 24, 25, 26, 64, 65, 66] [[_], [_], [_], _, _, _, _] [0, 1, 2, 3, 4, 5, 6] rfl rfl
     refine any_fork [22, 23] (by kernel_rfl) (by simp) (each_cons _ rfl ?_ (each_cons _ rfl ?_ (each_nil)))
     ·
      refine qo0 1 [(22, .go (owns 1 0 3))] [0, 4, 5, 7, 24, 25, 26, 64] [(65, .agg #[.int .i64 x11.now, .slice q42 m42 c42, .slice p42 k42 d42])] ?_
      refine od_ ?_
      exact wk (hmx1 () trivial) [0, 4, 5, 7, 24, 25, 26, 64, 65] [[_], [_], [_], _, _, _, _] [0, 1, 2, 3, 4, 5, 6] rfl rfl
     ·
      refine qo0 1 [(23, .go (owns 2 0 3))] [0, 5, 7, 24, 25, 26, 64] [(66, .agg #[.int .i64 x11.now, .slice x11.p x11.n x11.cap, .slice x11.pa x11.na x11.ca])] ?_
      refine od_ ?_
      exact wk (hmx2 () trivial) [0, 5, 7, 24, 25, 26, 64, 66] [[_], [_], [_], _, _, _, _] [0, 1, 2, 3, 4, 5, 6] rfl rfl
    rintro ⟨Y752, Yx752, c752, d752, k752, m752, p752, q752⟩ ⟨hO752, hP752⟩
    refine any_nil (by kernel_rfl) ?_
    refine ds_ (f_ (at_skip (ds_ (sq_ (ao_ (qo0 1 [(0, .go (owns 1 0 3))] [0, 5, 7, 24, 25, 26] [(72, .agg #[.int .i64 x11.now, .slice q42 m42 c42, .slice p42 k42 d42])] (cD (.tuple #[.int .i64 0, .bool false]) Try.call13 (fun w hw => by have := anext_t x11.now q42 m42 c42 ((shT x11.ts)) p42 k42 d42 ((shR x11.rs)) w (hO42.at ((hw.tailN 3).sub (((List.sublist_append_right Y122 _).trans (List.sublist_append_right Yx752 _)).trans (List.sublist_append_right Y752 _)))) hO42.len (by omega) (hP42.at ((hw.tailN 3).sub (((((List.sublist_append_right Yx122 _).trans (List.sublist_append_right Y42 _)).trans (List.sublist_append_right Y122 _)).trans (List.sublist_append_right Yx752 _)).trans (List.sublist_append_right Y752 _)))) hP42.len (by omega); rw [nextAV_bad q262] at this; exact this) (qo0 5 [] [0, 5, 7, 24, 25, 26] [(9, .int .i64 0), (10, .bool false)] (on_ (ds_ (sq_ (sq_ (ao_ (qo0 1 [(0, .go (owns 1 0 3))] [0, 5, 7, 9, 10, 24, 25, 26] [(76, .agg #[.int .i64 x11.now, .slice q42 m42 c42, .slice p42 k42 d42])] (cD (.int .i64 (leastV (shT x11.ts))) Try.call18 (fun w hw => rnext8_t x11.now q42 m42 c42 ((shT x11.ts)) p42 k42 d42 ((shR x11.rs)) w (hO42.at ((hw.tailN 3).sub (((List.sublist_append_right Y122 _).trans (List.sublist_append_right Yx752 _)).trans (List.sublist_append_right Y752 _)))) hO42.len (by omega) (hP42.at ((hw.tailN 3).sub (((((List.sublist_append_right Yx122 _).trans (List.sublist_append_right Y42 _)).trans (List.sublist_append_right Y122 _)).trans (List.sublist_append_right Yx752 _)).trans (List.sublist_append_right Y752 _)))) hP42.len (by omega)) (qo0 1 [] [0, 5, 7, 9, 10, 24, 25, 26] [(11, .int .i64 (leastV (shT x11.ts)))] (on_ (ds_ (sq_ (ao_ (qo0 14 [] [0, 5, 7, 9, 10, 24, 25, 26] [(90, .bool false), (91, .bool false)] (qo0 9 [] [0, 5, 7, 24, 25, 26] [(100, .bool false)] (on_ (ds_ (f_ (at_skip (ds_ (sq_ (qa0 [] [0, 5, 7, 24, 25, 26] [(101, .int .i64 0)] (ds_ (at_block (at_loop (α := Nat) [0, 5, 7, 24, 25, 26, 101] (fun j101 => [(0, .slice (some ⟨b9, o9, none⟩) m cap2), (5, .pointer (some ⟨γ142 0, 0, none⟩)), (7, .bool false), (24, .slice (some ⟨b9, o9, none⟩) m cap2), (25, .int .i64 ((m : Nat))), (26, .int .i64 ((j26 : Nat))), (101, .int .i64 ((j101 : Nat)))]) (fun j101 => bx (γ162 0) (#[.int .i64 x18.now, .slice q122 m122 c122, .slice p122 k122 d122]) 27 :: bx (γ142 0) (#[.int .i64 x11.now, .slice q42 m42 c42, .slice p42 k42 d42]) 27 :: bx (γ12 0) (#[.int .i64 x11.now, .slice x11.p x11.n x11.cap, .slice x11.pa x11.na x11.ca]) 27 :: (Y752 ++ (Yx752 ++ (Y122 ++ (Y42 ++ (Yx122 ++ (Yx42 ++ []))))))) (fun j101 => j101 ≤ 19) (fun j101 => 19 - j101) 0 (by kernel_rfl) rfl (Nat.zero_le _) ?_))))))))))))))))))))))))))))))))
    rintro j101
    rintro hj101
    refine sq_ ?_
    by_cases q881 : ((j101 : Nat) : Int) < (19 : Int)
    ·
     refine qa [(0, .yes)] [0, 5, 7, 24, 25, 26, 101] [(102, .bool true)] ([((j101 : Nat) : Int) < (19 : Int)]) (al1 q881) (ds_ (sq_ (t_ (at_skip (ds_ (sq_ (at_block (sq_ (qa0 [] [0, 5, 7, 24, 25, 26, 101] [(12, .int .i64 ((j101 : Nat)))] (ds_ (sq_ (ao_ (qo 3 [(0, .go (owns 1 0 3)), (2, .fit)] [0, 5, 7, 12, 24, 25, 26, 101] [(105, .agg #[.int .i64 x11.now, .slice q42 m42 c42, .slice p42 k42 d42]), (107, .int .i64 (((j101 : Nat)) - 1))] ([Fit .i64 (((j101 : Nat)) - 1)]) (al1 (fit64 (by omega) (by omega))) (cD (.tuple #[.agg #[.int .i64 0, .int .i64 0, .int .i64 0], .int .i64 0, .bool false]) Try.call14 (fun w hw => by have := aget_t x11.now q42 m42 c42 ((shT x11.ts)) p42 k42 d42 ((shR x11.rs)) (((j101 : Nat)) - 1) w (hO42.at ((hw.tailN 3).sub (((List.sublist_append_right Y122 _).trans (List.sublist_append_right Yx752 _)).trans (List.sublist_append_right Y752 _)))) hO42.len (by omega) (hP42.at ((hw.tailN 3).sub (((((List.sublist_append_right Yx122 _).trans (List.sublist_append_right Y42 _)).trans (List.sublist_append_right Y122 _)).trans (List.sublist_append_right Yx752 _)).trans (List.sublist_append_right Y752 _)))) hP42.len (by omega) (by omega) (by omega); rw [getA_bad q262] at this; exact this) (mo0 8 [(9, .go (owns 0 0 3))] [0, 5, 7, 12, 24, 25, 26, 101] (fun γ885 => [(13, .pointer (some ⟨γ885 0, 0, none⟩)), (14, .int .i64 0), (15, .bool false)]) (fun γ885 L => bx (γ885 0) (#[.int .i64 0, .int .i64 0, .int .i64 0]) 47 :: L) (fun γ885 => on_ (ds_ (sq_ (ao_ (qo 3 [(0, .go (owns 2 0 3)), (2, .fit)] [0, 5, 7, 12, 13, 14, 15, 24, 25, 26, 101] [(113, .agg #[.int .i64 x11.now, .slice q42 m42 c42, .slice p42 k42 d42]), (115, .int .i64 (((j101 : Nat)) - 1))] ([Fit .i64 (((j101 : Nat)) - 1)]) (al1 (fit64 (by omega) (by omega))) (cD (.tuple #[.int .i64 0, .bool false]) Try.call15 (fun w hw => by have := asleeps_t x11.now q42 m42 c42 ((shT x11.ts)) p42 k42 d42 ((shR x11.rs)) (((j101 : Nat)) - 1) w (hO42.at ((hw.tailN 4).sub (((List.sublist_append_right Y122 _).trans (List.sublist_append_right Yx752 _)).trans (List.sublist_append_right Y752 _)))) hO42.len (by omega) (hP42.at ((hw.tailN 4).sub (((((List.sublist_append_right Yx122 _).trans (List.sublist_append_right Y42 _)).trans (List.sublist_append_right Y122 _)).trans (List.sublist_append_right Yx752 _)).trans (List.sublist_append_right Y752 _)))) hP42.len (by omega) (by omega) (by omega); rw [slpO_bad q262] at this; exact this) (qo0 5 [] [0, 5, 7, 12, 13, 14, 15, 24, 25, 26, 101] [(16, .int .i64 0), (17, .bool false)] ?_))))))))))))))))))))))
     refine on_ (ds_ (sq_ (ma0 [] [0, 5, 7, 12, 13, 14, 15, 16, 17, 24, 25, 26, 101] (fun γ888 => [(18, .pointer (some ⟨γ888 0, 0, none⟩))]) (fun γ888 L => bx (γ888 0) (#[.int .i64 0, .int .i64 0, .int .i64 0]) 47 :: L) (fun γ888 => ds_ (sq_ (qa0 [] [0, 5, 7, 12, 13, 14, 15, 16, 17, 18, 24, 25, 26, 101] [(19, .int .i64 0), (20, .int .i64 0)] (ds_ (sq_ (qa0 [] [0, 5, 7, 12, 13, 14, 15, 16, 17, 18, 19, 20, 24, 25, 26, 101] [(21, .bool false)] (ds_ (sq_ (sq_ (qa0 [] [0, 5, 7, 12, 13, 14, 15, 16, 17, 18, 19, 20, 21, 24, 25, 26, 101] [(119, .bool false)] (ds_ (f_ (at_skip (ds_ (sq_ (ao_ (qo 14 [(0, .go (owns 1 0 3)), (1, .go (owns 0 0 3)), (2, .eqs false), (11, .eqs false)] [0, 5, 7, 16, 17, 20, 24, 25, 26, 101] [(145, .bool false)] ([EqRun Try.prog .neq 47 (.tmp 132) (.tmp 133) (.agg #[.int .i64 0, .int .i64 0, .int .i64 0]) (.agg #[.int .i64 0, .int .i64 0, .int .i64 0]) false] ++ ([EqRun Try.prog .neq 4 (.tmp 141) (.tmp 142) (.bool false) (.bool false) false])) (alA (al1 (alm_ne_t (a := (⟨0, 0, 0⟩ : Alm)) (b := (⟨0, 0, 0⟩ : Alm)) rfl)) (al1 (bool_ne false false))) (qo 10 [(22, .eqs false)] [0, 5, 7, 24, 25, 26, 101] [(155, .bool false)] ([EqRun Try.prog .neq 4 (.tmp 151) (.tmp 153) (.bool false) (.bool false) false]) (al1 (bool_ne false false)) (on_ (ds_ (f_ (at_skip (done_block (ds_ (qa [(0, .fit)] [0, 5, 7, 24, 25, 26] [(101, .int .i64 ((j101 + 1 : Nat)))] ([Fit .i64 ((j101 + 1 : Nat))]) (al1 (fit64 (by omega) (by omega))) (Done.drop (L' := bx (γ162 0) (#[.int .i64 x18.now, .slice q122 m122 c122, .slice p122 k122 d122]) 27 :: bx (γ142 0) (#[.int .i64 x11.now, .slice q42 m42 c42, .slice p42 k42 d42]) 27 :: bx (γ12 0) (#[.int .i64 x11.now, .slice x11.p x11.n x11.cap, .slice x11.pa x11.na x11.ca]) 27 :: (Y752 ++ (Yx752 ++ (Y122 ++ (Y42 ++ (Yx122 ++ (Yx42 ++ []))))))) ?_ (List.Sublist.cons _ (List.Sublist.cons _ (List.Sublist.cons_cons _ (List.Sublist.cons_cons _ (List.Sublist.cons_cons _ (List.Sublist.refl _)))))))))))))))))))))))))))))))))))
     exact done_round [0, 5, 7, 24, 25, 26, 101] (j101 + 1) (by kernel_rfl) rfl (by omega) (by first | omega | (simp only; omega))
    ·
     refine qa [(0, .no)] [0, 5, 7, 24, 25, 26, 101] [(102, .bool false)] ([¬ (((j101 : Nat) : Int) < (19 : Int))]) (al1 q881) (ds_ (sq_ (f_ (at_leave _ rfl (done_block (ds_ (qa [(0, .fit)] [0, 24, 25] [(26, .int .i64 ((j26 + 1 : Nat)))] ([Fit .i64 ((j26 + 1 : Nat))]) (al1 (fit64 (by omega) (by omega))) (Done.drop (L' := []) ?_ (List.Sublist.cons _ (List.Sublist.cons _ (List.Sublist.cons _ ((((((List.sublist_append_right _ _).trans (List.sublist_append_right _ _)).trans (List.sublist_append_right _ _)).trans (List.sublist_append_right _ _)).trans (List.sublist_append_right _ _)).trans (List.sublist_append_right _ _)))))))))))))
     exact done_round [0, 24, 25, 26] (j26 + 1) (by kernel_rfl) rfl (by omega) (by first | omega | (simp only; omega))
   ·
    refine cD (.bool true) Try.call16 (fun w hw => by have := rright8_t x11.now q42 m42 c42 ((shT x11.ts)) p42 k42 d42 ((shR x11.rs)) w (hO42.atN (A := (_ :: _ :: _ :: Y122)) hw) hO42.len (by omega) (hP42.at ((hw.tailN 3).sub (((List.sublist_append_right Yx122 _).trans (List.sublist_append_right Y42 _)).trans (List.sublist_append_right Y122 _)))) hP42.len (by omega); rw [q262] at this; exact this) ?_
    have hgA := al_iff.1 q262
    have hl0 := hgA.gw.len
    have hl0r := hgA.rl
    refine qo0 1 [] [0, 4, 5, 6, 24, 25, 26] [(7, .bool true)] (on_ (ds_ (sq_ (sq_ (ao_ (qo0 1 [(0, .go (owns 1 0 3))] [0, 4, 5, 6, 7, 24, 25, 26] [(41, .agg #[.int .i64 x11.now, .slice q42 m42 c42, .slice p42 k42 d42])] (cD (.int .i64 0) Try.call9 (fun w hw => by have := acheck_t x11.now q42 m42 c42 ((shT x11.ts)) p42 k42 d42 ((shR x11.rs)) w (hO42.atN (A := (_ :: _ :: _ :: Y122)) hw) hO42.len (by omega) (hP42.at ((hw.tailN 3).sub (((List.sublist_append_right Yx122 _).trans (List.sublist_append_right Y42 _)).trans (List.sublist_append_right Y122 _)))) hP42.len (by omega); rw [q262] at this; exact this) (qo0 1 [] [0, 4, 5, 6, 7, 24, 25, 26] [(8, .int .i64 0)] (on_ (ds_ (sq_ (at_calmTo (f := 6) 22 rfl (by kernel_rfl) (by kernel_rfl) (by kernel_rfl) (by kernel_rfl) (by kernel_rfl) (by kernel_rfl) ?_))))))))))))
    refine cm 14 [(3, .eqs false), (13, .go (owns 1 0 3))] [0, 4, 5, 6, 7, 24, 25, 26] [(55, .bool false), (56, .agg #[.int .i64 x11.now, .slice q42 m42 c42, .slice p42 k42 d42])] ([EqRun Try.prog .neq 4 (.tmp 44) (.tmp 45) (.bool true) (.bool true) false]) (by kernel_rfl) rfl (al1 (bool_ne true true)) ?_
    refine cm 1 [(14, .go (owns 0 0 3))] [0, 4, 5, 6, 7, 24, 25, 26, 55, 56] [(57, .agg #[.int .i64 x18.now, .slice q122 m122 c122, .slice p122 k122 d122])] ([]) (by kernel_rfl) rfl al0 ?_
    refine cK (.bool (sameA x11.now ((shT x11.ts)) ((shR x11.rs)) x18.now ((shT x18.ts)) ((shR x18.rs)))) Try.call11 (fun w hw => by have hq0 := hO42.len; have hq1 := hP42.len; have hq2 := hO122.len; have hq3 := hP122.len; have := asame_t x11.now q42 m42 c42 ((shT x11.ts)) p42 k42 d42 ((shR x11.rs)) x18.now q122 m122 c122 ((shT x18.ts)) p122 k122 d122 ((shR x18.rs)) w (hO42.atN (A := (_ :: _ :: _ :: Y122)) hw) hO42.len (by omega) (hP42.at ((hw.tailN 3).sub (((List.sublist_append_right Yx122 _).trans (List.sublist_append_right Y42 _)).trans (List.sublist_append_right Y122 _)))) hP42.len (by omega) (hO122.atN (A := [_, _, _]) hw) hO122.len (by omega) (hP122.at ((hw.tailN 3).sub ((List.sublist_append_right Y42 _).trans (List.sublist_append_right Y122 _)))) hP122.len (by omega); exact this) ?_
    refine cm 2 [(16, .go (owns 1 0 3)), (17, .go (owns 0 0 3))] [0, 4, 5, 7, 24, 25, 26, 55, 58] [(59, .agg #[.int .i64 x11.now, .slice q42 m42 c42, .slice p42 k42 d42]), (60, .agg #[.int .i64 x18.now, .slice q122 m122 c122, .slice p122 k122 d122])] ([]) (by kernel_rfl) rfl al0 ?_
    refine cK (.bool (sameA x11.now ((shT x11.ts)) ((shR x11.rs)) x18.now ((shT x18.ts)) ((shR x18.rs)))) Try.call17 (fun w hw => by have hq0 := hO42.len; have hq1 := hP42.len; have hq2 := hO122.len; have hq3 := hP122.len; have := rsame8_t x11.now q42 m42 c42 ((shT x11.ts)) p42 k42 d42 ((shR x11.rs)) x18.now q122 m122 c122 ((shT x18.ts)) p122 k122 d122 ((shR x18.rs)) w (hO42.atN (A := (_ :: _ :: _ :: Y122)) hw) hO42.len (by omega) (hP42.at ((hw.tailN 3).sub (((List.sublist_append_right Yx122 _).trans (List.sublist_append_right Y42 _)).trans (List.sublist_append_right Y122 _)))) hP42.len (by omega) (hO122.atN (A := [_, _, _]) hw) hO122.len (by omega) (hP122.at ((hw.tailN 3).sub ((List.sublist_append_right Y42 _).trans (List.sublist_append_right Y122 _)))) hP122.len (by omega); exact this) ?_
    refine cm 3 [(19, .eqs false)] [0, 4, 5, 7, 24, 25, 26] [(64, .bool false)] ([EqRun Try.prog .neq 4 (.tmp 58) (.tmp 61) (.bool (sameA x11.now ((shT x11.ts)) ((shR x11.rs)) x18.now ((shT x18.ts)) ((shR x18.rs)))) (.bool (sameA x11.now ((shT x11.ts)) ((shR x11.rs)) x18.now ((shT x18.ts)) ((shR x18.rs)))) false]) (by kernel_rfl) rfl (al1 (bool_same _)) ?_
    refine calm_nil' ?_
    refine done_pre (li' := #[true, true, true, true, true, true, true, true, true, true, true, true, true, true, true, true, true, true, true, true, true, true, false, false, false, false, false, false]) (by kernel_rfl) ?_
    refine any_cutX (V := (List Ob) × (List Ob) × (Nat) × (Nat) × (Nat) × (Nat) × (Option Addr) × (Option Addr)) (fun ⟨Y1386, Yx1386, c1386, d1386, k1386, m1386, p1386, q1386⟩ => SlO 88 Y1386 q1386 m1386 c1386 (shT x11.ts) ∧ SlO 47 Yx1386 p1386 k1386 d1386 (shR x11.rs)) 0 #[true, true, true, true, true, true, true, true, true, true, true, true, true, true, true, true, true, true, true, true, true, true, true, true, true, true, true, true] (fun ⟨Y1386, Yx1386, c1386, d1386, k1386, m1386, p1386, q1386⟩ => [(0, .slice (some ⟨b9, o9, none⟩) m cap2), (5, .pointer (some ⟨γ142 0, 0, none⟩)), (7, .bool true), (24, .slice (some ⟨b9, o9, none⟩) m cap2), (25, .int .i64 ((m : Nat))), (26, .int .i64 ((j26 : Nat))), (70, .bool false)]) (fun ⟨Y1386, Yx1386, c1386, d1386, k1386, m1386, p1386, q1386⟩ => bx (γ162 0) (#[.int .i64 x18.now, .slice q122 m122 c122, .slice p122 k122 d122]) 27 :: bx (γ142 0) (#[.int .i64 x11.now, .slice q42 m42 c42, .slice p42 k42 d42]) 27 :: bx (γ12 0) (#[.int .i64 x11.now, .slice x11.p x11.n x11.cap, .slice x11.pa x11.na x11.ca]) 27 :: (Y1386 ++ (Yx1386 ++ (Y122 ++ (Y42 ++ (Yx122 ++ (Yx42 ++ []))))))) ?_ (fun hmx6 => ?_)
    rotate_left
    ·
     refine any_cutX (V := (List Ob) × (List Ob) × (Nat) × (Nat) × (Nat) × (Nat) × (Option Addr) × (Option Addr)) (fun ⟨Y1386, Yx1386, c1386, d1386, k1386, m1386, p1386, q1386⟩ => SlO 88 Y1386 q1386 m1386 c1386 (shT x11.ts) ∧ SlO 47 Yx1386 p1386 k1386 d1386 (shR x11.rs)) 3 #[true, true, true, true, true, true, true, true, true, true, true, true, true, true, true, true, true, true, true, true, true, true, true, true, true, false, false, false] (fun ⟨Y1386, Yx1386, c1386, d1386, k1386, m1386, p1386, q1386⟩ => [(0, .slice (some ⟨b9, o9, none⟩) m cap2), (5, .pointer (some ⟨γ142 0, 0, none⟩)), (7, .bool true), (24, .slice (some ⟨b9, o9, none⟩) m cap2), (25, .int .i64 ((m : Nat))), (26, .int .i64 ((j26 : Nat))), (64, .bool false), (65, .agg #[.int .i64 x11.now, .slice q42 m42 c42, .slice p42 k42 d42]), (67, .agg #[.int .i64 x11.now, .slice q1386 m1386 c1386, .slice p1386 k1386 d1386])]) (fun ⟨Y1386, Yx1386, c1386, d1386, k1386, m1386, p1386, q1386⟩ => bx (γ162 0) (#[.int .i64 x18.now, .slice q122 m122 c122, .slice p122 k122 d122]) 27 :: bx (γ142 0) (#[.int .i64 x11.now, .slice q42 m42 c42, .slice p42 k42 d42]) 27 :: bx (γ12 0) (#[.int .i64 x11.now, .slice x11.p x11.n x11.cap, .slice x11.pa x11.na x11.ca]) 27 :: (Y1386 ++ (Yx1386 ++ (Y122 ++ (Y42 ++ (Yx122 ++ (Yx42 ++ []))))))) ?_ (fun hmx5 => ?_)
     ·
      rintro ⟨Y1386, Yx1386, c1386, d1386, k1386, m1386, p1386, q1386⟩ ⟨hO1386, hP1386⟩
      refine a1 25 rfl ?_
      refine cD (.bool true) Try.call11 (fun w hw => by have hq0 := hO42.len; have hq1 := hP42.len; have hq2 := hO1386.len; have hq3 := hP1386.len; have := asame_t x11.now q42 m42 c42 ((shT x11.ts)) p42 k42 d42 ((shR x11.rs)) x11.now q1386 m1386 c1386 ((shT x11.ts)) p1386 k1386 d1386 ((shR x11.rs)) w (hO42.at ((hw.tailN 3).sub (((List.sublist_append_right Y122 _).trans (List.sublist_append_right Yx1386 _)).trans (List.sublist_append_right Y1386 _)))) hO42.len (by omega) (hP42.at ((hw.tailN 3).sub (((((List.sublist_append_right Yx122 _).trans (List.sublist_append_right Y42 _)).trans (List.sublist_append_right Y122 _)).trans (List.sublist_append_right Yx1386 _)).trans (List.sublist_append_right Y1386 _)))) hP42.len (by omega) (hO1386.atN (A := [_, _, _]) hw) hO1386.len (by omega) (hP1386.atN (A := (_ :: _ :: _ :: Y1386)) hw) hP1386.len (by omega); rw [sameA_refl] at this; exact this) ?_
      refine od_ ?_
      refine tk (m := 0) [26, 27] [] [0, 5, 7, 24, 25, 26] [(70, .bool false)] ([]) #[true, true, true, true, true, true, true, true, true, true, true, true, true, true, true, true, true, true, true, true, true, true, true, true, true, true, true, true] al0 ?_
      exact wk (hmx6 (Y1386, Yx1386, c1386, d1386, k1386, m1386, p1386, q1386) ⟨hO1386, hP1386⟩) [0, 5, 7, 24, 25, 26, 70] [[_], [_], [_], _, _, _, _, _, _] [0, 1, 2, 3, 4, 5, 6, 7, 8] rfl rfl
     refine any_cutX (V := (List Ob) × (List Ob) × (Nat) × (Nat) × (Nat) × (Nat) × (Option Addr) × (Option Addr)) (fun ⟨Y1386, Yx1386, c1386, d1386, k1386, m1386, p1386, q1386⟩ => SlO 88 Y1386 q1386 m1386 c1386 (shT x11.ts) ∧ SlO 47 Yx1386 p1386 k1386 d1386 (shR x11.rs)) 4 #[true, true, true, true, true, true, true, true, true, true, true, true, true, true, true, true, true, true, true, true, true, true, false, true, true, false, false, false] (fun ⟨Y1386, Yx1386, c1386, d1386, k1386, m1386, p1386, q1386⟩ => [(0, .slice (some ⟨b9, o9, none⟩) m cap2), (5, .pointer (some ⟨γ142 0, 0, none⟩)), (7, .bool true), (24, .slice (some ⟨b9, o9, none⟩) m cap2), (25, .int .i64 ((m : Nat))), (26, .int .i64 ((j26 : Nat))), (64, .bool false), (67, .agg #[.int .i64 x11.now, .slice q1386 m1386 c1386, .slice p1386 k1386 d1386])]) (fun ⟨Y1386, Yx1386, c1386, d1386, k1386, m1386, p1386, q1386⟩ => bx (γ162 0) (#[.int .i64 x18.now, .slice q122 m122 c122, .slice p122 k122 d122]) 27 :: bx (γ142 0) (#[.int .i64 x11.now, .slice q42 m42 c42, .slice p42 k42 d42]) 27 :: bx (γ12 0) (#[.int .i64 x11.now, .slice x11.p x11.n x11.cap, .slice x11.pa x11.na x11.ca]) 27 :: (Y1386 ++ (Yx1386 ++ (Y122 ++ (Y42 ++ (Yx122 ++ (Yx42 ++ []))))))) ?_ (fun hmx4 => ?_)
     ·
      rintro ⟨Y1386, Yx1386, c1386, d1386, k1386, m1386, p1386, q1386⟩ ⟨hO1386, hP1386⟩
      refine a1 22 rfl ?_
      refine qo0 1 [(22, .go (owns 1 0 3))] [0, 5, 7, 24, 25, 26, 64, 67] [(65, .agg #[.int .i64 x11.now, .slice q42 m42 c42, .slice p42 k42 d42])] ?_
      refine od_ ?_
      exact wk (hmx5 (Y1386, Yx1386, c1386, d1386, k1386, m1386, p1386, q1386) ⟨hO1386, hP1386⟩) [0, 5, 7, 24, 25, 26, 64, 65, 67] [[_], [_], [_], _, _, _, _, _, _] [0, 1, 2, 3, 4, 5, 6, 7, 8] rfl rfl
     refine any_cutX (V := Unit) (fun _ => True) 4 #[true, true, true, true, true, true, true, true, true, true, true, true, true, true, true, true, true, true, true, true, true, true, true, true, false, false, false, false] (fun _ => [(0, .slice (some ⟨b9, o9, none⟩) m cap2), (5, .pointer (some ⟨γ142 0, 0, none⟩)), (7, .bool true), (24, .slice (some ⟨b9, o9, none⟩) m cap2), (25, .int .i64 ((m : Nat))), (26, .int .i64 ((j26 : Nat))), (64, .bool false), (65, .agg #[.int .i64 x11.now, .slice q42 m42 c42, .slice p42 k42 d42]), (66, .agg #[.int .i64 x11.now, .slice x11.p x11.n x11.cap, .slice x11.pa x11.na x11.ca])]) (fun _ => bx (γ162 0) (#[.int .i64 x18.now, .slice q122 m122 c122, .slice p122 k122 d122]) 27 :: bx (γ142 0) (#[.int .i64 x11.now, .slice q42 m42 c42, .slice p42 k42 d42]) 27 :: bx (γ12 0) (#[.int .i64 x11.now, .slice x11.p x11.n x11.cap, .slice x11.pa x11.na x11.ca]) 27 :: (Y122 ++ (Y42 ++ (Yx122 ++ (Yx42 ++ []))))) ?_ (fun hmx3 => ?_)
     ·
      rintro _ _
      refine a1 24 rfl ?_
      refine cP (fun v L' => ∃ q_ m_ c_ Y_ q2_ m2_ c2_ X_, v = .agg #[.int .i64 x11.now, .slice q_ m_ c_, .slice q2_ m2_ c2_] ∧ L' = List.take 3 (bx (γ162 0) (#[.int .i64 x18.now, .slice q122 m122 c122, .slice p122 k122 d122]) 27 :: bx (γ142 0) (#[.int .i64 x11.now, .slice q42 m42 c42, .slice p42 k42 d42]) 27 :: bx (γ12 0) (#[.int .i64 x11.now, .slice x11.p x11.n x11.cap, .slice x11.pa x11.na x11.ca]) 27 :: (Y122 ++ (Y42 ++ (Yx122 ++ (Yx42 ++ []))))) ++ (Y_ ++ (X_ ++ List.drop 3 (bx (γ162 0) (#[.int .i64 x18.now, .slice q122 m122 c122, .slice p122 k122 d122]) 27 :: bx (γ142 0) (#[.int .i64 x11.now, .slice q42 m42 c42, .slice p42 k42 d42]) 27 :: bx (γ12 0) (#[.int .i64 x11.now, .slice x11.p x11.n x11.cap, .slice x11.pa x11.na x11.ca]) 27 :: (Y122 ++ (Y42 ++ (Yx122 ++ (Yx42 ++ []))))))) ∧ SlO 88 Y_ q_ m_ c_ (shT x11.ts) ∧ SlO 47 X_ q2_ m2_ c2_ (shR x11.rs)) Try.call8 (fun w hw => (short_t x11.now x11.p x11.n x11.cap x11.ts x11.pa x11.na x11.ca x11.rs w (htx11.kept hw.below) hnx11 (by omega) (by omega) (hax11.kept hw.below) hnax11 (by omega) (by omega)).mono fun e w' ⟨q_, m_, c_, Y_, q2_, m2_, c2_, X_, he, h1, h2, hb, hY⟩ => ⟨_, _, he, ⟨q_, m_, c_, Y_, q2_, m2_, c2_, X_, rfl, rfl, h1, h2⟩, hw.joinT hb hY 3⟩) ?_
      rintro v1386 L1386 ⟨q1386, m1386, c1386, Y1386, p1386, k1386, d1386, Yx1386, rfl, rfl, hO1386, hP1386⟩
      have hm1386 := hO1386.len
      have hn1386 := hP1386.len
      have hsh1386 := shT_len (ts := x11.ts)
      have hsr1386 := shR_len (rs := x11.rs)
      refine od_ ?_
      exact wk (hmx5 (Y1386, Yx1386, c1386, d1386, k1386, m1386, p1386, q1386) ⟨hO1386, hP1386⟩) [0, 5, 7, 24, 25, 26, 64, 65, 67] [[_], [_], [_], _, _, _, _, _, _] [0, 1, 2, 3, 4, 5, 6, 7, 8] rfl rfl
     refine any_cutX (V := Unit) (fun _ => True) 5 #[true, true, true, true, true, true, true, true, true, true, true, true, true, true, true, true, true, true, true, true, true, true, false, true, false, false, false, false] (fun _ => [(0, .slice (some ⟨b9, o9, none⟩) m cap2), (5, .pointer (some ⟨γ142 0, 0, none⟩)), (7, .bool true), (24, .slice (some ⟨b9, o9, none⟩) m cap2), (25, .int .i64 ((m : Nat))), (26, .int .i64 ((j26 : Nat))), (64, .bool false), (66, .agg #[.int .i64 x11.now, .slice x11.p x11.n x11.cap, .slice x11.pa x11.na x11.ca])]) (fun _ => bx (γ162 0) (#[.int .i64 x18.now, .slice q122 m122 c122, .slice p122 k122 d122]) 27 :: bx (γ142 0) (#[.int .i64 x11.now, .slice q42 m42 c42, .slice p42 k42 d42]) 27 :: bx (γ12 0) (#[.int .i64 x11.now, .slice x11.p x11.n x11.cap, .slice x11.pa x11.na x11.ca]) 27 :: (Y122 ++ (Y42 ++ (Yx122 ++ (Yx42 ++ []))))) ?_ (fun hmx2 => ?_)
     ·
      rintro _ _
      refine any_fork [22, 24] (by kernel_rfl) (by simp) (each_cons _ rfl ?_ (each_cons _ rfl ?_ (each_nil)))
      ·
       refine qo0 1 [(22, .go (owns 1 0 3))] [0, 5, 7, 24, 25, 26, 64, 66] [(65, .agg #[.int .i64 x11.now, .slice q42 m42 c42, .slice p42 k42 d42])] ?_
       refine od_ ?_
       exact wk (hmx3 () trivial) [0, 5, 7, 24, 25, 26, 64, 65, 66] [[_], [_], [_], _, _, _, _] [0, 1, 2, 3, 4, 5, 6] rfl rfl
      ·
       refine cP (fun v L' => ∃ q_ m_ c_ Y_ q2_ m2_ c2_ X_, v = .agg #[.int .i64 x11.now, .slice q_ m_ c_, .slice q2_ m2_ c2_] ∧ L' = List.take 3 (bx (γ162 0) (#[.int .i64 x18.now, .slice q122 m122 c122, .slice p122 k122 d122]) 27 :: bx (γ142 0) (#[.int .i64 x11.now, .slice q42 m42 c42, .slice p42 k42 d42]) 27 :: bx (γ12 0) (#[.int .i64 x11.now, .slice x11.p x11.n x11.cap, .slice x11.pa x11.na x11.ca]) 27 :: (Y122 ++ (Y42 ++ (Yx122 ++ (Yx42 ++ []))))) ++ (Y_ ++ (X_ ++ List.drop 3 (bx (γ162 0) (#[.int .i64 x18.now, .slice q122 m122 c122, .slice p122 k122 d122]) 27 :: bx (γ142 0) (#[.int .i64 x11.now, .slice q42 m42 c42, .slice p42 k42 d42]) 27 :: bx (γ12 0) (#[.int .i64 x11.now, .slice x11.p x11.n x11.cap, .slice x11.pa x11.na x11.ca]) 27 :: (Y122 ++ (Y42 ++ (Yx122 ++ (Yx42 ++ []))))))) ∧ SlO 88 Y_ q_ m_ c_ (shT x11.ts) ∧ SlO 47 X_ q2_ m2_ c2_ (shR x11.rs)) Try.call8 (fun w hw => (short_t x11.now x11.p x11.n x11.cap x11.ts x11.pa x11.na x11.ca x11.rs w (htx11.kept hw.below) hnx11 (by omega) (by omega) (hax11.kept hw.below) hnax11 (by omega) (by omega)).mono fun e w' ⟨q_, m_, c_, Y_, q2_, m2_, c2_, X_, he, h1, h2, hb, hY⟩ => ⟨_, _, he, ⟨q_, m_, c_, Y_, q2_, m2_, c2_, X_, rfl, rfl, h1, h2⟩, hw.joinT hb hY 3⟩) ?_
       rintro v1386 L1386 ⟨q1386, m1386, c1386, Y1386, p1386, k1386, d1386, Yx1386, rfl, rfl, hO1386, hP1386⟩
       have hm1386 := hO1386.len
       have hn1386 := hP1386.len
       have hsh1386 := shT_len (ts := x11.ts)
       have hsr1386 := shR_len (rs := x11.rs)
       refine od_ ?_
       exact wk (hmx4 (Y1386, Yx1386, c1386, d1386, k1386, m1386, p1386, q1386) ⟨hO1386, hP1386⟩) [0, 5, 7, 24, 25, 26, 64, 67] [[_], [_], [_], _, _, _, _, _, _] [0, 1, 2, 3, 4, 5, 6, 7, 8] rfl rfl
     refine any_cutX (V := Unit) (fun _ => True) 5 #[true, true, true, true, true, true, true, true, true, true, true, true, true, true, true, true, true, true, true, true, true, true, true, false, false, false, false, false] (fun _ => [(0, .slice (some ⟨b9, o9, none⟩) m cap2), (4, .pointer (some ⟨γ12 0, 0, none⟩)), (5, .pointer (some ⟨γ142 0, 0, none⟩)), (7, .bool true), (24, .slice (some ⟨b9, o9, none⟩) m cap2), (25, .int .i64 ((m : Nat))), (26, .int .i64 ((j26 : Nat))), (64, .bool false), (65, .agg #[.int .i64 x11.now, .slice q42 m42 c42, .slice p42 k42 d42])]) (fun _ => bx (γ162 0) (#[.int .i64 x18.now, .slice q122 m122 c122, .slice p122 k122 d122]) 27 :: bx (γ142 0) (#[.int .i64 x11.now, .slice q42 m42 c42, .slice p42 k42 d42]) 27 :: bx (γ12 0) (#[.int .i64 x11.now, .slice x11.p x11.n x11.cap, .slice x11.pa x11.na x11.ca]) 27 :: (Y122 ++ (Y42 ++ (Yx122 ++ (Yx42 ++ []))))) ?_ (fun hmx1 => ?_)
     ·
      rintro _ _
      refine a1 23 rfl ?_
      refine qo0 1 [(23, .go (owns 2 0 3))] [0, 5, 7, 24, 25, 26, 64, 65] [(66, .agg #[.int .i64 x11.now, .slice x11.p x11.n x11.cap, .slice x11.pa x11.na x11.ca])] ?_
      refine od_ ?_
      exact wk (hmx3 () trivial) [0, 5, 7, 24, 25, 26, 64, 65, 66] [[_], [_], [_], _, _, _, _] [0, 1, 2, 3, 4, 5, 6] rfl rfl
     refine any_fork [22, 23] (by kernel_rfl) (by simp) (each_cons _ rfl ?_ (each_cons _ rfl ?_ (each_nil)))
     ·
      refine qo0 1 [(22, .go (owns 1 0 3))] [0, 4, 5, 7, 24, 25, 26, 64] [(65, .agg #[.int .i64 x11.now, .slice q42 m42 c42, .slice p42 k42 d42])] ?_
      refine od_ ?_
      exact wk (hmx1 () trivial) [0, 4, 5, 7, 24, 25, 26, 64, 65] [[_], [_], [_], _, _, _, _] [0, 1, 2, 3, 4, 5, 6] rfl rfl
     ·
      refine qo0 1 [(23, .go (owns 2 0 3))] [0, 5, 7, 24, 25, 26, 64] [(66, .agg #[.int .i64 x11.now, .slice x11.p x11.n x11.cap, .slice x11.pa x11.na x11.ca])] ?_
      refine od_ ?_
      exact wk (hmx2 () trivial) [0, 5, 7, 24, 25, 26, 64, 66] [[_], [_], [_], _, _, _, _] [0, 1, 2, 3, 4, 5, 6] rfl rfl
    rintro ⟨Y1386, Yx1386, c1386, d1386, k1386, m1386, p1386, q1386⟩ ⟨hO1386, hP1386⟩
    refine any_nil (by kernel_rfl) ?_
    refine ds_ (f_ (at_skip (ds_ (sq_ (ao_ (qo0 1 [(0, .go (owns 1 0 3))] [0, 5, 7, 24, 25, 26] [(72, .agg #[.int .i64 x11.now, .slice q42 m42 c42, .slice p42 k42 d42])] (cD (.tuple #[.int .i64 (leastV (shT x11.ts)), .bool (decide ((leastV (shT x11.ts) : Int) > (0 : Int)))]) Try.call13 (fun w hw => by have := anext_t x11.now q42 m42 c42 ((shT x11.ts)) p42 k42 d42 ((shR x11.rs)) w (hO42.at ((hw.tailN 3).sub (((List.sublist_append_right Y122 _).trans (List.sublist_append_right Yx1386 _)).trans (List.sublist_append_right Y1386 _)))) hO42.len (by omega) (hP42.at ((hw.tailN 3).sub (((((List.sublist_append_right Yx122 _).trans (List.sublist_append_right Y42 _)).trans (List.sublist_append_right Y122 _)).trans (List.sublist_append_right Yx1386 _)).trans (List.sublist_append_right Y1386 _)))) hP42.len (by omega); rw [nextAV_ok q262, nextV_pos (al_iff.1 q262).wh] at this; exact this) (qo0 5 [] [0, 5, 7, 24, 25, 26] [(9, .int .i64 (leastV (shT x11.ts))), (10, .bool (decide ((leastV (shT x11.ts) : Int) > (0 : Int))))] (on_ (ds_ (sq_ (sq_ (ao_ (qo0 1 [(0, .go (owns 1 0 3))] [0, 5, 7, 9, 10, 24, 25, 26] [(76, .agg #[.int .i64 x11.now, .slice q42 m42 c42, .slice p42 k42 d42])] (cD (.int .i64 (leastV (shT x11.ts))) Try.call18 (fun w hw => rnext8_t x11.now q42 m42 c42 ((shT x11.ts)) p42 k42 d42 ((shR x11.rs)) w (hO42.at ((hw.tailN 3).sub (((List.sublist_append_right Y122 _).trans (List.sublist_append_right Yx1386 _)).trans (List.sublist_append_right Y1386 _)))) hO42.len (by omega) (hP42.at ((hw.tailN 3).sub (((((List.sublist_append_right Yx122 _).trans (List.sublist_append_right Y42 _)).trans (List.sublist_append_right Y122 _)).trans (List.sublist_append_right Yx1386 _)).trans (List.sublist_append_right Y1386 _)))) hP42.len (by omega)) (qo0 1 [] [0, 5, 7, 9, 10, 24, 25, 26] [(11, .int .i64 (leastV (shT x11.ts)))] (on_ (ds_ (sq_ (ao_ (qo 14 [(4, .no), (9, .eqs false)] [0, 5, 7, 9, 10, 24, 25, 26] [(90, .bool false), (91, .bool true)] ([¬ ((leastV (shT x11.ts) : Int) ≠ (leastV (shT x11.ts) : Int))] ++ ([EqRun Try.prog .neq 4 (.tmp 84) (.tmp 86) (.bool (decide ((leastV (shT x11.ts) : Int) > (0 : Int)))) (.bool (decide ((leastV (shT x11.ts) : Int) > (0 : Int)))) false])) (alA (al1 ((fun h => h rfl))) (al1 (bool_same _))) (qo0 9 [] [0, 5, 7, 24, 25, 26] [(100, .bool false)] (on_ (ds_ (f_ (at_skip (ds_ (sq_ (qa0 [] [0, 5, 7, 24, 25, 26] [(101, .int .i64 0)] (ds_ (at_block (at_loop (α := Nat) [0, 5, 7, 24, 25, 26, 101] (fun j101 => [(0, .slice (some ⟨b9, o9, none⟩) m cap2), (5, .pointer (some ⟨γ142 0, 0, none⟩)), (7, .bool true), (24, .slice (some ⟨b9, o9, none⟩) m cap2), (25, .int .i64 ((m : Nat))), (26, .int .i64 ((j26 : Nat))), (101, .int .i64 ((j101 : Nat)))]) (fun j101 => bx (γ162 0) (#[.int .i64 x18.now, .slice q122 m122 c122, .slice p122 k122 d122]) 27 :: bx (γ142 0) (#[.int .i64 x11.now, .slice q42 m42 c42, .slice p42 k42 d42]) 27 :: bx (γ12 0) (#[.int .i64 x11.now, .slice x11.p x11.n x11.cap, .slice x11.pa x11.na x11.ca]) 27 :: (Y1386 ++ (Yx1386 ++ (Y122 ++ (Y42 ++ (Yx122 ++ (Yx42 ++ []))))))) (fun j101 => j101 ≤ 19) (fun j101 => 19 - j101) 0 (by kernel_rfl) rfl (Nat.zero_le _) ?_))))))))))))))))))))))))))))))))
    rintro j101
    rintro hj101
    refine sq_ ?_
    by_cases q1515 : ((j101 : Nat) : Int) < (19 : Int)
    ·
     refine qa [(0, .yes)] [0, 5, 7, 24, 25, 26, 101] [(102, .bool true)] ([((j101 : Nat) : Int) < (19 : Int)]) (al1 q1515) (ds_ (sq_ (t_ (at_skip (ds_ (sq_ (at_block (sq_ (qa0 [] [0, 5, 7, 24, 25, 26, 101] [(12, .int .i64 ((j101 : Nat)))] (ds_ (sq_ (ao_ (qo 3 [(0, .go (owns 1 0 3)), (2, .fit)] [0, 5, 7, 12, 24, 25, 26, 101] [(105, .agg #[.int .i64 x11.now, .slice q42 m42 c42, .slice p42 k42 d42]), (107, .int .i64 (((j101 : Nat)) - 1))] ([Fit .i64 (((j101 : Nat)) - 1)]) (al1 (fit64 (by omega) (by omega))) (cD (.tuple #[.agg #[.int .i64 ((gaX (getA x11.now (shT x11.ts) (shR x11.rs) (((j101 : Nat)) - 1))).vcpu), .int .i64 ((gaX (getA x11.now (shT x11.ts) (shR x11.rs) (((j101 : Nat)) - 1))).port), .int .i64 ((gaX (getA x11.now (shT x11.ts) (shR x11.rs) (((j101 : Nat)) - 1))).every)], .int .i64 ((gaD (getA x11.now (shT x11.ts) (shR x11.rs) (((j101 : Nat)) - 1)))), .bool ((getA x11.now (shT x11.ts) (shR x11.rs) (((j101 : Nat)) - 1)).isSome)]) Try.call14 (fun w hw => by have := aget_t x11.now q42 m42 c42 ((shT x11.ts)) p42 k42 d42 ((shR x11.rs)) (((j101 : Nat)) - 1) w (hO42.at ((hw.tailN 3).sub (((List.sublist_append_right Y122 _).trans (List.sublist_append_right Yx1386 _)).trans (List.sublist_append_right Y1386 _)))) hO42.len (by omega) (hP42.at ((hw.tailN 3).sub (((((List.sublist_append_right Yx122 _).trans (List.sublist_append_right Y42 _)).trans (List.sublist_append_right Y122 _)).trans (List.sublist_append_right Yx1386 _)).trans (List.sublist_append_right Y1386 _)))) hP42.len (by omega) (by omega) (by omega); rw [gaV_is] at this; exact this) (mo0 8 [(9, .go (owns 0 0 3))] [0, 5, 7, 12, 24, 25, 26, 101] (fun γ1519 => [(13, .pointer (some ⟨γ1519 0, 0, none⟩)), (14, .int .i64 ((gaD (getA x11.now (shT x11.ts) (shR x11.rs) (((j101 : Nat)) - 1))))), (15, .bool ((getA x11.now (shT x11.ts) (shR x11.rs) (((j101 : Nat)) - 1)).isSome))]) (fun γ1519 L => bx (γ1519 0) (#[.int .i64 ((gaX (getA x11.now (shT x11.ts) (shR x11.rs) (((j101 : Nat)) - 1))).vcpu), .int .i64 ((gaX (getA x11.now (shT x11.ts) (shR x11.rs) (((j101 : Nat)) - 1))).port), .int .i64 ((gaX (getA x11.now (shT x11.ts) (shR x11.rs) (((j101 : Nat)) - 1))).every)]) 47 :: L) (fun γ1519 => on_ (ds_ (sq_ (ao_ (qo 3 [(0, .go (owns 2 0 3)), (2, .fit)] [0, 5, 7, 12, 13, 14, 15, 24, 25, 26, 101] [(113, .agg #[.int .i64 x11.now, .slice q42 m42 c42, .slice p42 k42 d42]), (115, .int .i64 (((j101 : Nat)) - 1))] ([Fit .i64 (((j101 : Nat)) - 1)]) (al1 (fit64 (by omega) (by omega))) (cD (.tuple #[.int .i64 ((((slpO x11.now (shT x11.ts) (shR x11.rs) (((j101 : Nat)) - 1)).map Tim.due).getD 0)), .bool (decide (((((slpO x11.now (shT x11.ts) (shR x11.rs) (((j101 : Nat)) - 1)).map Tim.due).getD 0) : Int) > (0 : Int)))]) Try.call15 (fun w hw => by have := asleeps_t x11.now q42 m42 c42 ((shT x11.ts)) p42 k42 d42 ((shR x11.rs)) (((j101 : Nat)) - 1) w (hO42.at ((hw.tailN 4).sub (((List.sublist_append_right Y122 _).trans (List.sublist_append_right Yx1386 _)).trans (List.sublist_append_right Y1386 _)))) hO42.len (by omega) (hP42.at ((hw.tailN 4).sub (((((List.sublist_append_right Yx122 _).trans (List.sublist_append_right Y42 _)).trans (List.sublist_append_right Y122 _)).trans (List.sublist_append_right Yx1386 _)).trans (List.sublist_append_right Y1386 _)))) hP42.len (by omega) (by omega) (by omega); rw [atV_slp q262] at this; exact this) ?_)))))))))))))))))))))
     refine qo0 5 [] [0, 5, 7, 12, 13, 14, 15, 24, 25, 26, 101] [(16, .int .i64 ((((slpO x11.now (shT x11.ts) (shR x11.rs) (((j101 : Nat)) - 1)).map Tim.due).getD 0))), (17, .bool (decide (((((slpO x11.now (shT x11.ts) (shR x11.rs) (((j101 : Nat)) - 1)).map Tim.due).getD 0) : Int) > (0 : Int))))] (on_ (ds_ (sq_ (ma0 [] [0, 5, 7, 12, 13, 14, 15, 16, 17, 24, 25, 26, 101] (fun γ1522 => [(18, .pointer (some ⟨γ1522 0, 0, none⟩))]) (fun γ1522 L => bx (γ1522 0) (#[.int .i64 0, .int .i64 0, .int .i64 0]) 47 :: L) (fun γ1522 => ds_ (sq_ (qa0 [] [0, 5, 7, 12, 13, 14, 15, 16, 17, 18, 24, 25, 26, 101] [(19, .int .i64 0), (20, .int .i64 0)] (ds_ (sq_ (qa0 [] [0, 5, 7, 12, 13, 14, 15, 16, 17, 18, 19, 20, 24, 25, 26, 101] [(21, .bool false)] (ds_ (sq_ (sq_ (qa0 [] [0, 5, 7, 12, 13, 14, 15, 16, 17, 18, 19, 20, 21, 24, 25, 26, 101] [(119, .bool true)] (ds_ (t_ (sq_ (ao_ (qo 3 [(0, .go (owns 3 0 3)), (2, .fit)] [0, 5, 7, 12, 13, 14, 15, 16, 17, 18, 24, 25, 26, 101] [(121, .agg #[.int .i64 x11.now, .slice q42 m42 c42, .slice p42 k42 d42]), (123, .int .i64 (((j101 : Nat)) - 1))] ([Fit .i64 (((j101 : Nat)) - 1)]) (al1 (fit64 (by omega) (by omega))) (cD (.tuple #[.agg #[.int .i64 ((gaX (getA x11.now (shT x11.ts) (shR x11.rs) (((j101 : Nat)) - 1))).vcpu), .int .i64 ((gaX (getA x11.now (shT x11.ts) (shR x11.rs) (((j101 : Nat)) - 1))).port), .int .i64 ((gaX (getA x11.now (shT x11.ts) (shR x11.rs) (((j101 : Nat)) - 1))).every)], .int .i64 ((gaD (getA x11.now (shT x11.ts) (shR x11.rs) (((j101 : Nat)) - 1)))), .bool ((getA x11.now (shT x11.ts) (shR x11.rs) (((j101 : Nat)) - 1)).isSome)]) Try.call19 (fun w hw => by have := rget8_t x11.now q42 m42 c42 ((shT x11.ts)) p42 k42 d42 ((shR x11.rs)) (((j101 : Nat)) - 1) w (hO42.at ((hw.tailN 5).sub (((List.sublist_append_right Y122 _).trans (List.sublist_append_right Yx1386 _)).trans (List.sublist_append_right Y1386 _)))) hO42.len (by omega) (hP42.at ((hw.tailN 5).sub (((((List.sublist_append_right Yx122 _).trans (List.sublist_append_right Y42 _)).trans (List.sublist_append_right Y122 _)).trans (List.sublist_append_right Yx1386 _)).trans (List.sublist_append_right Y1386 _)))) hP42.len (by omega) hgA.rr (by omega) (by omega); rw [rgV_is q262, gaV_is] at this; exact this) (mo0 7 [(8, .go (owns 0 0 3))] [0, 5, 7, 12, 13, 14, 15, 16, 17, 18, 24, 25, 26, 101] (fun _ => [(19, .int .i64 ((gaD (getA x11.now (shT x11.ts) (shR x11.rs) (((j101 : Nat)) - 1))))), (21, .bool ((getA x11.now (shT x11.ts) (shR x11.rs) (((j101 : Nat)) - 1)).isSome))]) (fun _ L => (L.set 0 (bx (γ1522 0) (#[.int .i64 ((gaX (getA x11.now (shT x11.ts) (shR x11.rs) (((j101 : Nat)) - 1))).vcpu), .int .i64 ((gaX (getA x11.now (shT x11.ts) (shR x11.rs) (((j101 : Nat)) - 1))).port), .int .i64 ((gaX (getA x11.now (shT x11.ts) (shR x11.rs) (((j101 : Nat)) - 1))).every)]) 47))) (fun _ => ?_))))))))))))))))))))))
     refine on_ (ds_ (ao_ (qo 3 [(0, .go (owns 3 0 3)), (2, .fit)] [0, 5, 7, 13, 14, 15, 16, 17, 18, 19, 21, 24, 25, 26, 101] [(128, .agg #[.int .i64 x11.now, .slice q42 m42 c42, .slice p42 k42 d42]), (130, .int .i64 (((j101 : Nat)) - 1))] ([Fit .i64 (((j101 : Nat)) - 1)]) (al1 (fit64 (by omega) (by omega))) (cD (.int .i64 ((((slpO x11.now (shT x11.ts) (shR x11.rs) (((j101 : Nat)) - 1)).map Tim.due).getD 0))) Try.call20 (fun w hw => by have := rsleeps8_t x11.now q42 m42 c42 ((shT x11.ts)) p42 k42 d42 ((shR x11.rs)) (((j101 : Nat)) - 1) w (hO42.at ((hw.tailN 5).sub (((List.sublist_append_right Y122 _).trans (List.sublist_append_right Yx1386 _)).trans (List.sublist_append_right Y1386 _)))) hO42.len (by omega) (hP42.at ((hw.tailN 5).sub (((((List.sublist_append_right Yx122 _).trans (List.sublist_append_right Y42 _)).trans (List.sublist_append_right Y122 _)).trans (List.sublist_append_right Yx1386 _)).trans (List.sublist_append_right Y1386 _)))) hP42.len (by omega) (by omega) (by omega); rw [rsl_is q262] at this; exact this) (qo0 1 [] [0, 5, 7, 13, 14, 15, 16, 17, 18, 19, 21, 24, 25, 26, 101] [(20, .int .i64 ((((slpO x11.now (shT x11.ts) (shR x11.rs) (((j101 : Nat)) - 1)).map Tim.due).getD 0)))] (on_ (ds_ (sq_ (ao_ (qo 14 [(0, .go (owns 1 0 3)), (1, .go (owns 0 0 3)), (2, .eqs false), (6, .no), (11, .eqs false)] [0, 5, 7, 16, 17, 20, 24, 25, 26, 101] [(145, .bool false)] ([EqRun Try.prog .neq 47 (.tmp 132) (.tmp 133) (.agg #[.int .i64 ((gaX (getA x11.now (shT x11.ts) (shR x11.rs) (((j101 : Nat)) - 1))).vcpu), .int .i64 ((gaX (getA x11.now (shT x11.ts) (shR x11.rs) (((j101 : Nat)) - 1))).port), .int .i64 ((gaX (getA x11.now (shT x11.ts) (shR x11.rs) (((j101 : Nat)) - 1))).every)]) (.agg #[.int .i64 ((gaX (getA x11.now (shT x11.ts) (shR x11.rs) (((j101 : Nat)) - 1))).vcpu), .int .i64 ((gaX (getA x11.now (shT x11.ts) (shR x11.rs) (((j101 : Nat)) - 1))).port), .int .i64 ((gaX (getA x11.now (shT x11.ts) (shR x11.rs) (((j101 : Nat)) - 1))).every)]) false] ++ ([¬ (((gaD (getA x11.now (shT x11.ts) (shR x11.rs) (((j101 : Nat)) - 1))) : Int) ≠ ((gaD (getA x11.now (shT x11.ts) (shR x11.rs) (((j101 : Nat)) - 1))) : Int))] ++ ([EqRun Try.prog .neq 4 (.tmp 141) (.tmp 142) (.bool ((getA x11.now (shT x11.ts) (shR x11.rs) (((j101 : Nat)) - 1)).isSome)) (.bool ((getA x11.now (shT x11.ts) (shR x11.rs) (((j101 : Nat)) - 1)).isSome)) false]))) (alA (al1 (alm_ne_t (a := (gaX (getA x11.now (shT x11.ts) (shR x11.rs) (((j101 : Nat)) - 1)))) (b := (gaX (getA x11.now (shT x11.ts) (shR x11.rs) (((j101 : Nat)) - 1)))) rfl)) (alA (al1 ((fun h => h rfl))) (al1 (bool_same _)))) ?_))))))))))
     refine qo 10 [(16, .no), (22, .eqs false)] [0, 5, 7, 24, 25, 26, 101] [(155, .bool false)] ([¬ (((((slpO x11.now (shT x11.ts) (shR x11.rs) (((j101 : Nat)) - 1)).map Tim.due).getD 0) : Int) ≠ ((((slpO x11.now (shT x11.ts) (shR x11.rs) (((j101 : Nat)) - 1)).map Tim.due).getD 0) : Int))] ++ ([EqRun Try.prog .neq 4 (.tmp 151) (.tmp 153) (.bool (decide (((((slpO x11.now (shT x11.ts) (shR x11.rs) (((j101 : Nat)) - 1)).map Tim.due).getD 0) : Int) > (0 : Int)))) (.bool (decide (((((slpO x11.now (shT x11.ts) (shR x11.rs) (((j101 : Nat)) - 1)).map Tim.due).getD 0) : Int) > (0 : Int)))) false])) (alA (al1 ((fun h => h rfl))) (al1 (bool_same _))) (on_ (ds_ (f_ (at_skip (done_block (ds_ (qa [(0, .fit)] [0, 5, 7, 24, 25, 26] [(101, .int .i64 ((j101 + 1 : Nat)))] ([Fit .i64 ((j101 + 1 : Nat))]) (al1 (fit64 (by omega) (by omega))) (Done.drop (L' := bx (γ162 0) (#[.int .i64 x18.now, .slice q122 m122 c122, .slice p122 k122 d122]) 27 :: bx (γ142 0) (#[.int .i64 x11.now, .slice q42 m42 c42, .slice p42 k42 d42]) 27 :: bx (γ12 0) (#[.int .i64 x11.now, .slice x11.p x11.n x11.cap, .slice x11.pa x11.na x11.ca]) 27 :: (Y1386 ++ (Yx1386 ++ (Y122 ++ (Y42 ++ (Yx122 ++ (Yx42 ++ []))))))) ?_ (List.Sublist.cons _ (List.Sublist.cons _ (List.Sublist.cons_cons _ (List.Sublist.cons_cons _ (List.Sublist.cons_cons _ (List.Sublist.refl _))))))))))))))
     exact done_round [0, 5, 7, 24, 25, 26, 101] (j101 + 1) (by kernel_rfl) rfl (by omega) (by first | omega | (simp only; omega))
    ·
     refine qa [(0, .no)] [0, 5, 7, 24, 25, 26, 101] [(102, .bool false)] ([¬ (((j101 : Nat) : Int) < (19 : Int))]) (al1 q1515) (ds_ (sq_ (f_ (at_leave _ rfl (done_block (ds_ (qa [(0, .fit)] [0, 24, 25] [(26, .int .i64 ((j26 + 1 : Nat)))] ([Fit .i64 ((j26 + 1 : Nat))]) (al1 (fit64 (by omega) (by omega))) (Done.drop (L' := []) ?_ (List.Sublist.cons _ (List.Sublist.cons _ (List.Sublist.cons _ ((((((List.sublist_append_right _ _).trans (List.sublist_append_right _ _)).trans (List.sublist_append_right _ _)).trans (List.sublist_append_right _ _)).trans (List.sublist_append_right _ _)).trans (List.sublist_append_right _ _)))))))))))))
     exact done_round [0, 24, 25, 26] (j26 + 1) (by kernel_rfl) rfl (by omega) (by first | omega | (simp only; omega))
 ·
  refine qa [(0, .no)] [0, 24, 25, 26] [(27, .bool false)] ([¬ (((j26 : Nat) : Int) < ((m : Nat) : Int))]) (al1 q6) (ds_ (sq_ (f_ (at_leave _ rfl (ds_ (sq_ (qa0 [] [] [(2, .bool true)] (ds_ (rt ([]) (.bool true) ?_)))))))))
  exact fun w' hw => ⟨rfl, hw.below⟩
end Go.Proofs.Ytdbamgbgnpadjaa

/-! The walker: what a row's inputs are: slices and structs, opened into lists. -/
namespace Go.Proofs.Ytdbamgbgnpadjaa
open Go Go.RowKit

section
variable {H : Type} {enc : TypeId × Value → H} {P : Program} {w : World} {base : Nat} {spare : Nat → Bool} {held : Bool}
theorem spot_none {a : Addr} (h : a.spot = none) : a = ⟨a.block, a.off, none⟩ := by
  cases a
  simp at h
  simp [h]
theorem trod_sv {α : Type} [Enc α] {t e : TypeId} {fuel : Nat} {cs : List Value} {x : DataW H × List MemPlace} {Good : α → Prop} (ht : P.underlying t = some (.slice e)) (hc : P.cellsOf e = Enc.k α)
    (hopen : ∀ (fuel : Nat) (cs : List Value) (x : DataW H × List MemPlace), DataW.trod enc P w base spare held fuel e cs = some x → ∃ a : α, cs = Enc.enc a ∧ Good a) (h : DataW.trod enc P w base spare held fuel t cs = some x) :
    ∃ (p : Option Addr) (n cap : Nat) (l : List α), cs = [.slice p n cap] ∧ Sv w p l ∧ n = l.length ∧ n ≤ cap ∧ cap ≤ maxLen ∧ ∀ y ∈ l, Good y := by
  rcases Deep.open_slice ht h with ⟨hcs, _⟩ | ⟨a, len, cap, m, n', D, Pl, hcs, _, hle, hmx, hm, _, hi⟩
  · exact ⟨none, 0, 0, [], hcs, Sv.nil, rfl, Nat.le_refl _, Nat.zero_le _, fun y hy => by cases hy⟩
  · have key : ∀ i, i < len → ∃ y : α, w.cells? base (a.add (i * Enc.k α)) (Enc.k α) = some (Enc.enc y) ∧ Good y := fun i hin => by
      have him : i < m := by rw [hm]; split <;> omega
      obtain ⟨cs', h1, h2⟩ := hi i him
      obtain ⟨y, rfl, hy⟩ := hopen _ _ _ h2
      rw [hc] at h1
      exact ⟨y, h1, hy⟩
    rcases Nat.eq_zero_or_pos len with h0 | h0
    · subst h0
      exact ⟨some a, 0, cap, [], hcs, Sv.nil, rfl, hle, hmx, fun y hy => by cases hy⟩
    · obtain ⟨y0, hy0, _⟩ := key 0 h0
      haveI : Inhabited α := ⟨y0⟩
      obtain ⟨f, hf⟩ := Deep.choose_lt key
      obtain ⟨_, _, hcell⟩ := World.cells?_some hy0
      have h00 := hcell 0 Enc.pos
      have hlen0 : 0 < (Enc.enc y0).length := by rw [Enc.len]; exact Enc.pos
      rw [List.getElem?_eq_getElem hlen0, Nat.zero_mul, show (a.add 0).add 0 = a by simp [Addr.add]] at h00
      have hsp := spot_none (World.cell?_spot h00)
      refine ⟨some a, len, cap, (List.range len).map f, hcs, ⟨fun _ => ⟨a.block, a.off, by rw [← hsp]⟩, fun b o hbo i hil => ?_⟩, by simp, hle, hmx, fun y hy => ?_⟩
      · have hil' : i < len := by simpa using hil
        obtain ⟨_, _, hc2⟩ := World.cells?_some (hf i hil').1
        have ha : a = ⟨b, o, none⟩ := by simpa using hbo
        subst ha
        intro j v hj
        have hjk : j < Enc.k α := by rw [← Enc.len (f i)]; have := (List.getElem?_eq_some_iff.1 hj).1; simpa using this
        have h3 := hc2 j hjk
        rw [Deep.add_add] at h3
        have h4 : (Enc.enc (f i))[j]? = some v := by simpa using hj
        rw [h4] at h3
        have h5 : (⟨b, o, none⟩ : Addr).add (i * Enc.k α + j) = ⟨b, o + i * Enc.k α + j, none⟩ := by
          unfold Addr.add; split <;> simp_all <;> omega
        rw [h5] at h3
        exact h3
      · obtain ⟨i, hir, rfl⟩ := List.mem_map.1 hy
        exact (hf i (List.mem_range.1 hir)).2
end
end Go.Proofs.Ytdbamgbgnpadjaa

/-! Chapter 18: what the rows' inputs are. -/
namespace Go.Proofs.Ytdbamgbgnpadjaa
open Go Go.RowKit Go.ChangeShapes Go.WideShapes

section
variable {H : Type} {enc : TypeId × Value → H} {w : World} {base : Nat} {spare : Nat → Bool} {held : Bool}
theorem cIntT : Try.prog.cellsOf 3 = 1 := by kernel_rfl
theorem cI64T : Try.prog.cellsOf 2 = 1 := by kernel_rfl
theorem cWheel : Try.prog.cellsOf 24 = 2 := by kernel_rfl
theorem cTims : Try.prog.cellsOf 22 = 1 := by kernel_rfl
theorem cAlms : Try.prog.cellsOf 25 = 1 := by kernel_rfl
theorem cAlarms : Try.prog.cellsOf 27 = 3 := by kernel_rfl
theorem list2V {α : Type} {cs : List α} (h : cs.length = 2) : ∃ c0 c1, cs = [c0, c1] := by
  match cs, h with
  | [c0, c1], _ => exact ⟨c0, c1, rfl⟩
theorem list3V {α : Type} {cs : List α} (h : cs.length = 3) : ∃ c0 c1 c2, cs = [c0, c1, c2] := by
  match cs, h with
  | [c0, c1, c2], _ => exact ⟨c0, c1, c2, rfl⟩
theorem timer_open_cells : Try.prog.cellsOf 88 = 2 := by kernel_rfl
theorem timer_open_list {α : Type} {cs : List α} (h : cs.length = 2) : ∃ c0 c1, cs = [c0, c1] := by
  match cs, h with
  | [c0, c1], _ => exact ⟨c0, c1, rfl⟩
theorem timer_open {fuel : Nat} {cs : List Value} {x : DataW H × List MemPlace} (h : DataW.trod enc Try.prog w base spare held fuel 88 cs = some x) : ∃ a : Tim, cs = Enc.enc a ∧ True := by
  obtain ⟨xs, n, _, rfl, hl, hlen, hf⟩ := DataW.trod_struct Try.underlying88 h
  rw [timer_open_cells] at hl
  obtain ⟨c0, c1, rfl⟩ := timer_open_list hl
  obtain ⟨y0, y1, rfl⟩ := timer_open_list hlen
  have h0 : DataW.trod enc Try.prog w base spare held n 3 (([c0, c1].drop 0).take (Try.prog.cellsOf 3)) = some y0 := hf 0 _ rfl
  have h1 : DataW.trod enc Try.prog w base spare held n 2 (([c0, c1].drop 1).take (Try.prog.cellsOf 2)) = some y1 := hf 1 _ rfl
  clear hf hl hlen h
  rw [cIntT] at h0
  rw [cI64T] at h1
  simp only [List.drop_zero, List.take_succ_cons, List.take_zero, List.drop_succ_cons] at h0 h1
  obtain ⟨v0, e0, _, _⟩ := DataW.trod_int Try.underlying3 h0
  obtain ⟨v1, e1, _, _⟩ := DataW.trod_int Try.underlying2 h1
  simp only [List.cons.injEq, and_true] at e0 e1
  subst e0; subst e1
  exact ⟨⟨v0, v1⟩, rfl, trivial⟩
theorem alarm_open_cells : Try.prog.cellsOf 47 = 3 := by kernel_rfl
theorem alarm_open_list {α : Type} {cs : List α} (h : cs.length = 3) : ∃ c0 c1 c2, cs = [c0, c1, c2] := by
  match cs, h with
  | [c0, c1, c2], _ => exact ⟨c0, c1, c2, rfl⟩
theorem alarm_open {fuel : Nat} {cs : List Value} {x : DataW H × List MemPlace} (h : DataW.trod enc Try.prog w base spare held fuel 47 cs = some x) : ∃ a : Alm, cs = Enc.enc a ∧ True := by
  obtain ⟨xs, n, _, rfl, hl, hlen, hf⟩ := DataW.trod_struct Try.underlying47 h
  rw [alarm_open_cells] at hl
  obtain ⟨c0, c1, c2, rfl⟩ := alarm_open_list hl
  obtain ⟨y0, y1, y2, rfl⟩ := alarm_open_list hlen
  have h0 : DataW.trod enc Try.prog w base spare held n 3 (([c0, c1, c2].drop 0).take (Try.prog.cellsOf 3)) = some y0 := hf 0 _ rfl
  have h1 : DataW.trod enc Try.prog w base spare held n 3 (([c0, c1, c2].drop 1).take (Try.prog.cellsOf 3)) = some y1 := hf 1 _ rfl
  have h2 : DataW.trod enc Try.prog w base spare held n 2 (([c0, c1, c2].drop 2).take (Try.prog.cellsOf 2)) = some y2 := hf 2 _ rfl
  clear hf hl hlen h
  rw [cIntT] at h0 h1
  rw [cI64T] at h2
  simp only [List.drop_zero, List.take_succ_cons, List.take_zero, List.drop_succ_cons] at h0 h1 h2
  obtain ⟨v0, e0, _, _⟩ := DataW.trod_int Try.underlying3 h0
  obtain ⟨v1, e1, _, _⟩ := DataW.trod_int Try.underlying3 h1
  obtain ⟨v2, e2, _, _⟩ := DataW.trod_int Try.underlying2 h2
  simp only [List.cons.injEq, and_true] at e0 e1 e2
  subst e0; subst e1; subst e2
  exact ⟨⟨v0, v1, v2⟩, rfl, trivial⟩
end
end Go.Proofs.Ytdbamgbgnpadjaa

/-! Chapter 18: alarms in a row, opened. -/
namespace Go.Proofs.Ytdbamgbgnpadjaa
open Go Go.RowKit Go.ChangeShapes Go.WideShapes

section
variable {H : Type} {enc : TypeId × Value → H} {w : World} {base : Nat} {spare : Nat → Bool} {held : Bool}
set_option maxRecDepth 100000 in
theorem alarmsA_open {fuel : Nat} {cs : List Value} {x : DataW H × List MemPlace} (h : DataW.trod enc Try.prog w base spare held fuel 27 cs = some x) : ∃ a : AlsA, cs = Enc.enc a ∧ a.Reads w := by
  obtain ⟨xs, n, _, rfl, hl, hlen, hf⟩ := DataW.trod_struct Try.underlying27 h
  rw [cAlarms] at hl
  obtain ⟨c0, c1, c2, rfl⟩ := list3V hl
  obtain ⟨y0, y1, rfl⟩ := list2V hlen
  have h0 : DataW.trod enc Try.prog w base spare held n 24 (([c0, c1, c2].drop 0).take (Try.prog.cellsOf 24)) = some y0 := hf 0 _ rfl
  have h1 : DataW.trod enc Try.prog w base spare held n 25 (([c0, c1, c2].drop 2).take (Try.prog.cellsOf 25)) = some y1 := hf 1 _ rfl
  clear hf hl hlen h
  rw [cWheel] at h0
  rw [cAlms] at h1
  simp only [List.drop_zero, List.take_succ_cons, List.take_zero, List.drop_succ_cons] at h0 h1
  obtain ⟨xs2, n2, _, rfl, hl2, hlen2, hf2⟩ := DataW.trod_struct Try.underlying24 h0
  obtain ⟨z0, z1, rfl⟩ := list2V hlen2
  have g0 : DataW.trod enc Try.prog w base spare held n2 2 (([c0, c1].drop 0).take (Try.prog.cellsOf 2)) = some z0 := hf2 0 _ rfl
  have g1 : DataW.trod enc Try.prog w base spare held n2 22 (([c0, c1].drop 1).take (Try.prog.cellsOf 22)) = some z1 := hf2 1 _ rfl
  clear hf2 hl2 hlen2 h0
  rw [cI64T] at g0
  rw [cTims] at g1
  simp only [List.drop_zero, List.take_succ_cons, List.take_zero, List.drop_succ_cons] at g0 g1
  obtain ⟨a, ea, _, _⟩ := DataW.trod_int Try.underlying2 g0
  obtain ⟨q, m, capv, l2, he2, hs2, hm, hle2, hmx2, _⟩ := trod_sv (Good := fun _ => True) Try.underlying22 timer_open_cells (fun _ _ _ h => timer_open h) g1
  obtain ⟨q3, m3, capv3, l3, he3, hs3, hm3, hle3, hmx3, _⟩ := trod_sv (Good := fun _ => True) Try.underlying25 alarm_open_cells (fun _ _ _ h => alarm_open h) h1
  simp only [List.cons.injEq, and_true] at ea he2 he3
  subst ea; subst he2; subst he3
  exact ⟨⟨a, q, m, capv, l2, q3, m3, capv3, l3⟩, rfl, ⟨hs2, hm, hle2, hmx2, hs3, hm3, hle3, hmx3⟩⟩
set_option maxRecDepth 100000 in
theorem alarmss_open {v : Value} {d : DataW H} {pl : List MemPlace} (hv : Value.okWide Try.prog w .any base 52 v) (h : DataW.Trod enc Try.prog w 0 spare held 52 v d pl) :
    ∃ (q : Option Addr) (m cap : Nat) (l : List AlsA), v = .slice q m cap ∧ Sv w q l ∧ m = l.length ∧ m ≤ 9223372036854775807 ∧ ∀ x ∈ l, x.Reads w := by
  obtain ⟨a, n, c, rfl⟩ := okWide_slice Try.underlying52 hv
  obtain ⟨fuel, hf⟩ := h
  obtain ⟨p, m, cap, l, he, hs, hn, hle, hmx, hg⟩ := trod_sv Try.underlying52 cAlarms (fun _ _ _ h => alarmsA_open h) hf
  have : a = p ∧ n = m ∧ c = cap := by simpa [Value.cells] using he
  obtain ⟨rfl, rfl, rfl⟩ := this
  exact ⟨a, n, c, l, rfl, hs, hn, Nat.le_trans hle hmx, hg⟩
end
end Go.Proofs.Ytdbamgbgnpadjaa
